/- Contracts of functions of the given program. -/
import Derived.Test.YtbekofpkcahbkaaGreatZzeCwS
namespace Sk
open Go Go.Proofs Go.RowKit
set_option maxHeartbeats 4000000
set_option maxRecDepth 100000
set_option linter.unusedVariables false
set_option linter.unusedSimpArgs false
theorem zK3(v:Value)(x:Board)(n:Int)(w:World)(h:Rv w v x) :
  Calls Tryz.prog 15 #[v,.int .i64 n] w fun e w' => ∃ v',e = .returned v'/\Ov w.heap.size w' v' (zAy x n)/\Ext w w':=by
 obtain⟨a0,c0,a1,c1,rfl,h0,l0,h1,l1⟩:=h.openBoard;clear h;go_enter Tryz.func15,Tryz.ntmps15;go_upto_region 1 with (fail)
 refine zA1 (fun W=>Ext w W/\Bk W w.heap.size [.slice a0 x.Boxes.length c0,.slice a1 x.Wires.length c1] 26/\Bk W (w.heap.size+1) [.slice none 0 0,.slice none 0 0] 26) ⟨((zr _).alloc _).alloc _,(Bk.new _ _ _).ext ((zr _).alloc _),Bk.new1 _ _ _ _⟩ ?_
 rintro W ⟨e1,kA,kB⟩;have E:=zh e1;have KA:=zh kA;have KB:=zh kB;obtain⟨d0,d1⟩:=Bk.k2 kA;have LTB:=zh kB.lt;clear e1 kA kB;cases g:zE2 x
 ·go_wp2_with (go_at_call 10;refine(zAp _ x _ (Rv.mkBoard (h0.out.ext E.out) (h1.out.ext E.out))).mono ?_;rintro e w1 ⟨rfl,he⟩;rw[g];have E1:=zh (E.out.tr he);have KA1:=zh (KA.out.ext he);have KB1:=zh (KB.out.ext he);obtain⟨x0,x1⟩:=Bk.k2 KA1.out;have ltA1:=KA1.out.lt;obtain⟨z0,z1⟩:=Bk.k2 KB1.out;have zf:=KB1.out.fz;have ltZ:=KB1.out.lt;clear he)
  refine bodyPost_ret (v:=.agg #[.slice none 0 0,.slice none 0 0]) (by simp[results,Tryz.results15,go_sem,z0,z1]) rfl ⟨_,rfl,by rw[zBp (.inl g)];exact Ov.bz _ _,(E1.out.set (by simp) _).set (by simp) _⟩
 cases g1:zA8 n 0 10
 ·go_wp2_with (first
   | (go_at_call 10;refine(zAp _ x _ (Rv.mkBoard (h0.out.ext E.out) (h1.out.ext E.out))).mono ?_;rintro e w1 ⟨rfl,he⟩;rw[g];have E1:=zh (E.out.tr he);have KA1:=zh (KA.out.ext he);have KB1:=zh (KB.out.ext he);obtain⟨x0,x1⟩:=Bk.k2 KA1.out;have ltA1:=KA1.out.lt;obtain⟨z0,z1⟩:=Bk.k2 KB1.out;have zf:=KB1.out.fz;have ltZ:=KB1.out.lt;clear he)
   | (go_at_call 39;refine(zAb _ _ _ _).mono ?_;rintro e w9 ⟨rfl,rfl⟩;rw[g1]))
  refine bodyPost_ret (v:=.agg #[.slice none 0 0,.slice none 0 0]) (by simp[results,Tryz.results15,go_sem,z0,z1]) rfl ⟨_,rfl,by rw[zBp (.inr g1)];exact Ov.bz _ _,(E1.out.set (by simp) _).set (by simp) _⟩
 obtain⟨T,rfl,hT10⟩:∃ T:Nat,n=T/\T<=10:=by have:=zA5.1 g1;exact⟨n.toNat,by omega,by omega⟩
 have hbv:=zB2.1 g;have HV:=zh hbv;have HG:=zh g;have HN:Hid (∀ m∈x.Boxes,GT.tot m<=1048576):=zh fun m hm=>Nat.le_trans (zC0 (hbv.box m hm)) (by omega)
 have hb3:=hbv.nb;have hw6:=hbv.nw;clear hbv;go_upto_region 4 with (first
  | (go_at_call 10;refine(zAp _ x _ (Rv.mkBoard (h0.out.ext E.out) (h1.out.ext E.out))).mono ?_;rintro e w1 ⟨rfl,he⟩;rw[g];have E1:=zh (E.out.tr he);have KA1:=zh (KA.out.ext he);have KB1:=zh (KB.out.ext he);obtain⟨x0,x1⟩:=Bk.k2 KA1.out;have ltA1:=KA1.out.lt;obtain⟨z0,z1⟩:=Bk.k2 KB1.out;have zf:=KB1.out.fz;have ltZ:=KB1.out.lt;clear he)
  | (go_at_call 39;refine(zAb _ _ _ _).mono ?_;rintro e w9 ⟨rfl,rfl⟩;rw[g1])
  | (at_builtin;refine zB7 (α:=Wire) (L:=w1.heap.size) (xs:=[]) (ys:=x.Wires) rfl _ _ 24 rfl 33 Tryz.underlying24 zHe (v:=.slice (some ⟨w1.heap.size,0,none⟩) 0 0) rfl (Oo.lit0 33 w1).oa rfl (h1.out.ext (E1.out.tr ((zr _).alloc _))) (by simp;omega) (by simp) ?_;intro v6 w6 hO6 hg6;have O6:=zh hO6;have E6:=zh (Ext.grown ((zr w1).alloc _) hg6 (fun z hz=>by simp only[Value.ownBlock,Option.some.injEq] at hz;omega));obtain⟨a6,n6,c6,rfl⟩:=(Oo.ofA hO6).sh;clear hO6 hg6))
 have hO6:=O6.out;rw[List.nil_append] at hO6;obtain⟨_,_,e6,hl6⟩:=(Oo.ofA hO6).form;obtain rfl:n6=x.Wires.length:=by injection e6
 clear e6;obtain⟨FW,SW6,OW6⟩:=(Oo.ofA hO6).os;refine zA1 (fun u=>Ext w6 u/\Bk u w6.heap.size [.slice none 0 0,.slice a6 x.Wires.length c6] 26) ⟨(zr _).alloc _,Bk.new _ _ _⟩ ?_
 rintro W7 ⟨e7,bb7⟩;have BBw:=zh bb7;have ltB3:=bb7.lt;have SWw:=zh (SW6.ext e7);have OWw:=zh (OW6.ext e7);have EW7:=zh (E1.out.tr (E6.out.tr e7));have EE7:=zh e7;have KA7:=zh (KA1.out.ext (E6.out.tr e7));have KB7:=zh (KB1.out.ext (E6.out.tr e7));have hFW:Hid (∀ y∈FW,w1.heap.size<=y/\y < w6.heap.size):=zh fun y hy=>⟨(OW6.2 y hy).1,OW6.lt hy⟩
 have hs1:=E1.out.sz;have hs6:=E6.out.sz;have hs7:=e7.sz;have ltKA:=KA7.out.lt;have ltKA1:=KA1.out.lt;have ltKB1:=KB1.out.lt
 generalize w6.heap.size=B at *
 clear hO6 SW6 OW6 e7 bb7 O6 x0 x1 z0 z1 zf ltZ d0 d1;go_wp2;go_loopw [6] (fun i wr => ∃ (k:Nat) (g0:Option Addr) (s0 r0:Nat),k<=x.Boxes.length/\i = .int .i64 k/\Chg B 0 1 [] W7 wr/\wr.cell? ⟨B,0,none⟩=some (.slice g0 s0 r0)/\Oo 46 W7.heap.size wr (.slice g0 s0 r0) (x.Boxes.take k)) (fun i _=>x.Boxes.length - (intOf i).toNat)
 case atStart=>exact⟨0,_,_,_,Nat.zero_le _,rfl,Chg.refl _ _ _ _ _,BBw.out.cell (j:=0) rfl,Oo.nil _ _ _⟩
 case round =>
  obtain⟨k,g0,s0,r0,hk,rfl,hch,hc0,ho⟩:=hrel;have HC:=zh hch;have HO:=zh ho;clear hch ho;have BA:=HC.out.bk KA7.out (by omega) (by simp)
  have lWr:W7.heap.size<=wr.heap.size:=HC.out.sz;have EWr:=zh (HC.out.ext EW7.out (by omega) (by simp))
  have a10:=BA.cell (j:=0) rfl;have ltA2:=BA.lt;replace BA:=zh BA;have hf0:∀ j,wr.frozen? ⟨B,j,none⟩=false:=by
   obtain⟨cs,T,hb⟩:=HC.out.fzk B ⟨_,_,BBw.out⟩;exact hb.fz
  by_cases hkt:k < x.Boxes.length
  ·obtain⟨b,o,y,aa0,cc0,aa1,cc1,aa2,cc2,aa3,cc3,aa4,cc4,aa5,cc5,rfl,hb9,hx,j0,j1,j2,j3,j4,j5,j6,jr6,-,-,-,-,-,-,-,-,-,-,-,-,hv⟩:=h0.out.atMachine k hkt;have hyt:=HN.out y (List.mem_of_getElem? hx.out);go_upto_region 7 with (fail)
   have hst:x.Boxes.take (k+1)=x.Boxes.take k ++ [y]:=zAe hx.out;have hWo:∀ j,(Value.slice g0 s0 r0).ownBlock=some j->W7.heap.size<=j:=HO.out.own;refine zAn rfl 11 [(29,[29]),(30,[30]),(31,[31]),(32,[32]),(33,[33]),(34,[34]),(35,[35]),(36,[36]),(37,[37,36]),(38,[38]),(39,[39])]
    (fun i vs u F=>match i,vs with
      | 0,[y9]=>y9 = .pointer (some ⟨B,0,none⟩)
      | 1,[y9]=>y9 = .slice g0 s0 r0
      | 2,[y9]=>y9 = .pointer (some ⟨w.heap.size,0,none⟩)
      | 3,[y9]=>y9 = .slice (some ⟨b,o,none⟩) x.Boxes.length c0
      | 4,[y9]=>y9 = .int .i64 k
      | 5,[y9]=>y9 = .pointer (some ⟨b,o+k*7,none⟩)
      | 6,[y9]=>y9 = .agg #[.slice aa0 y.Plan.Parts.length cc0,.slice aa1 y.Plan.Channels.length cc1,.slice aa2 y.Plan.Slots.length cc2,.slice aa3 y.Programs.length cc3,.slice aa4 y.Cores.length cc4,.slice aa5 y.Holds.length cc5,.int .i64 y.Tick]
      | 7,[y9] => ∃ t0 u0 t1 u1 t2 u2 t3 u3 t4 u4 t5 u5,y9 = .agg #[.slice t0 y.Plan.Parts.length u0,.slice t1 y.Plan.Channels.length u1,.slice t2 y.Plan.Slots.length u2,.slice t3 y.Programs.length u3,.slice t4 y.Cores.length u4,.slice t5 y.Holds.length u5,.int .i64 y.Tick]/\GT.enc u [.slice t0 y.Plan.Parts.length u0,.slice t1 y.Plan.Channels.length u1,.slice t2 y.Plan.Slots.length u2,.slice t3 y.Programs.length u3,.slice t4 y.Cores.length u4,.slice t5 y.Holds.length u5,.int .i64 y.Tick] y F
      | 8,[y9,z9] => ∃ b0 cs,y9 = .slice (some ⟨b0,0,none⟩) 1 1/\z9 = .agg cs.toArray/\Bk u b0 cs 46
      | 9,[y9]=>Oo 46 W7.heap.size u y9 (x.Boxes.take k ++ [y])
      | 10,[y9]=>y9 = .pointer (some ⟨B,0,none⟩)
      | _,_=>False) 9 (Value.slice g0 s0 r0).ownBlock HO.out.lt (by decide +kernel) ?_ ?_ ?_
   ·intro i hi hne oo ho U u F hG hd hap;have hE:=Ext.grown EWr.out hG (fun j hj=>by have:=hWo j hj;omega)
    have e0:=zAd hG hc0 (by omega) (fun j hj=>by have:=hWo j hj;omega)
    have e1:=zAd hG a10 (by omega) (fun j hj=>by have:=hWo j hj;omega)
    have i0:=(zA0 hE hb9).trans j0;have i1:=(zA0 hE hb9).trans j1;have i2:=(zA0 hE hb9).trans j2;have i3:=(zA0 hE hb9).trans j3;have i4:=(zA0 hE hb9).trans j4;have i5:=(zA0 hE hb9).trans j5;have i6:=(zA0 hE hb9).trans j6;rcases(by omega:i=0\/i=1\/i=2\/i=3\/i=4\/i=5\/i=6\/i=7\/i=8\/i=9\/i=10) with rfl|rfl|rfl|rfl|rfl|rfl|rfl|rfl|rfl|rfl|rfl
    ·cases ho;simp only[fr];intro K hK;go_wp2;exact zk hK _ (fun _ _=>rfl)
    ·cases ho;simp only[fr];obtain⟨⟨d0,-⟩,-⟩:=fa [0] (by decide +kernel) hd
     simp only[fu] at d0;try simp only[d0]
     clear d0;intro K hK;go_wp2;exact zk hK _ (fun _ _=>rfl)
    ·cases ho;simp only[fr];intro K hK;go_wp2;exact zk hK _ (fun _ _=>rfl)
    ·cases ho;simp only[fr];obtain⟨⟨d2,-⟩,-⟩:=fa [2] (by decide +kernel) hd
     simp only[fu] at d2;try simp only[d2]
     clear d2;intro K hK;go_wp2;exact zk hK _ (fun _ _=>rfl)
    ·cases ho;simp only[fr];intro K hK;go_wp2;exact zk hK _ (fun _ _=>rfl)
    ·cases ho;simp only[fr];obtain⟨⟨d2,-⟩,⟨d3,-⟩,⟨d4,-⟩,-⟩:=fa [2,3,4] (by decide +kernel) hd
     simp only[fu] at d2 d3 d4;try simp only[d2,d3,d4]
     clear d2 d3 d4;intro K hK;go_wp2;exact zk hK _ (fun _ _=>rfl)
    ·cases ho;simp only[fr];obtain⟨⟨d2,-⟩,⟨d3,-⟩,⟨d4,-⟩,⟨d5,-⟩,-⟩:=fa [2,3,4,5] (by decide +kernel) hd
     simp only[fu] at d2 d3 d4 d5;try simp only[d2,d3,d4,d5]
     clear d2 d3 d4 d5;intro K hK;go_wp2;exact zk hK _ (fun _ _=>rfl)
    ·cases ho;simp only[fr];obtain⟨⟨d2,-⟩,⟨d3,-⟩,⟨d4,-⟩,⟨d5,-⟩,⟨d6,-⟩,-⟩:=fa [2,3,4,5,6] (by decide +kernel) hd
     simp only[fu] at d2 d3 d4 d5 d6;try simp only[d2,d3,d4,d5,d6]
     intro K hK;go_wp2_with (go_at_call 25;refine(zEu _ y _ (hv.out.ext hE) hyt).mono ?_;rintro e w' ⟨v9,rfl,hov,ex1⟩;obtain⟨t0,u0,t1,u1,t2,u2,t3,u3,t4,u4,t5,u5,F2,rfl,en2,ow2⟩:=hov.openE)
     exact hK _ F2 _ ex1 (fun _ h=>⟨_,_,_,_,_,_,_,_,_,_,_,_,rfl,zIf en2 h (fun j hj e=>by have:=(ow2.2 j hj).1;have:=HO.out.lt j e;have:=hG.size;omega)⟩) ow2
    ·cases ho;simp only[fr];obtain⟨⟨d2,-⟩,⟨d3,-⟩,⟨d4,-⟩,⟨d5,-⟩,⟨d6,-⟩,⟨d7,o7⟩,-⟩:=fa [2,3,4,5,6,7] (by decide +kernel) hd
     simp only[fu] at d2 d3 d4 d5 d6 d7;try simp only[d2,d3,d4,d5,d6]
     obtain⟨t0,u0,t1,u1,t2,u2,t3,u3,t4,u4,t5,u5,e8,_⟩:=d7;simp only[e8];intro K hK;go_wp2;have b1:=Bk.new u [.slice t0 y.Plan.Parts.length u0,.slice t1 y.Plan.Channels.length u1,.slice t2 y.Plan.Slots.length u2,.slice t3 y.Programs.length u3,.slice t4 y.Cores.length u4,.slice t5 y.Holds.length u5,.int .i64 y.Tick] 46;exact hK _ [] _ ((zr u).alloc _) (fun _ h=>⟨_,_,rfl,e8,b1.grown h (fun e=>by have:=HO.out.lt _ e;have:=hG.size;omega)⟩) (Own.nil _ _)
    ·exact absurd rfl hne
    ·cases ho;simp only[fr];obtain⟨⟨d0,-⟩,⟨d1,-⟩,⟨d2,-⟩,⟨d3,-⟩,⟨d4,-⟩,⟨d5,-⟩,⟨d6,-⟩,-⟩:=fa [0,1,2,3,4,5,6] (by decide +kernel) hd
     simp only[fu] at d0 d1 d2 d3 d4 d5 d6;try simp only[d0,d1,d2,d3,d4,d5,d6]
     clear d0 d1 d2 d3 d4 d5 d6;intro K hK;go_wp2;exact zk hK _ (fun _ _=>rfl)
   ·intro _ oo ho U u F hE hd hap;cases ho;simp only[fr];obtain⟨⟨d0,-⟩,⟨d1,-⟩,⟨d2,-⟩,⟨d3,-⟩,⟨d4,-⟩,⟨d5,-⟩,⟨d6,-⟩,⟨d7,o7⟩,⟨d8,o8⟩,-⟩:=fa [0,1,2,3,4,5,6,7,8] (by decide +kernel) hd
    simp only[fu] at d0 d1 d2 d3 d4 d5 d6 d7 d8;try simp only[d0,d1,d2,d3,d4,d5,d6]
    obtain⟨t0,u0,t1,u1,t2,u2,t3,u3,t4,u4,t5,u5,e8,n8⟩:=d7;obtain⟨b0,cs,d9,z9,b9⟩:=d8;rw[e8] at z9;obtain rfl:cs = [.slice t0 y.Plan.Parts.length u0,.slice t1 y.Plan.Channels.length u1,.slice t2 y.Plan.Slots.length u2,.slice t3 y.Programs.length u3,.slice t4 y.Cores.length u4,.slice t5 y.Holds.length u5,.int .i64 y.Tick]:=(congrArg Array.toList (zBy z9)).symm;simp only[d9];intro K hK;refine zB9 (u:=wr) (α:=Machine) rfl _ _ 23 rfl 46 Tryz.underlying23 zDd (v:=.slice g0 s0 r0) (ys:=[y]) rfl HO.out hE lWr rfl rfl (Row.one n8 (fun j y hj=>by rw[Nat.zero_add];exact b9.cell hj)) (by simp) o7 (by simp;omega) ?_
    intro v2 w2 hO2 hg2;go_wp2;exact hK _ [] _ hg2 (fun _ h=>hO2.ext h) (Own.nil _ _)
   ·intro oo ho U u F hG hφ hap;cases ho;simp only[fr];obtain⟨⟨d0,-⟩,⟨d1,-⟩,⟨d2,-⟩,⟨d3,-⟩,⟨d4,-⟩,⟨d5,-⟩,⟨d6,-⟩,⟨d7,o7⟩,⟨d8,o8⟩,⟨d9,o9⟩,⟨d10,-⟩,-⟩:=fb [0,1,2,3,4,5,6,7,8,9,10] (by decide +kernel) hφ
    simp only[fu] at d0 d1 d2 d3 d4 d5 d6 d7 d8 d9 d10;try simp only[d0,d1,d2,d3,d4,d5,d6,d10]
    clear d0 d1 d2 d3 d4 d5 d6 d7 d8 d10 hap hφ;have e0:=zAd hG hc0 (by omega) (fun j hj=>by have:=hWo j hj;omega)
    have f0:u.frozen? ⟨B,0,none⟩=false:=(World.frozen?_of_block (hG.block B (by omega) (fun e=>by have:=hWo B e.symm;omega))).trans (hf0 0)
    obtain⟨p9,n9,q9,e9⟩:=d9.sh;simp only[e9] at d9 ⊢;have hCu:=HC.out.grown hG hWo ltB3;go_wp2;exact⟨⟨k+1,_,_,_,by omega,by go_num,hCu.set ⟨by omega,by omega⟩ _,zAw e0,by rw[hst];exact d9.set ltB3 _⟩,by simp[intOf];omega⟩
  ·obtain rfl:k=x.Boxes.length:=by omega
   have hl:x.Boxes.take x.Boxes.length=x.Boxes:=List.take_of_length_le (by omega)
   rw[hl] at HO;obtain⟨FB,SB,OBk⟩:=HO.out.os;have nBB:B ∉ FB:=fun hm=>by have:=(OBk.2 _ hm).1;omega
   have nBW:B ∉ FW:=fun hm=>by have:=hFW.out _ hm;omega
   obtain⟨_,BZ⟩:=HC.out.one BBw.out (by simp) hc0
   have SWx:=HC.out.sl SWw.out nBW (fun _ _ h=>by cases h)
   have OX:Own w1.heap.size wr (FB++FW):=(OBk.mono (by omega)).join (OWw.out.chg HC.out) (fun y h1 h2=>by have:=(OBk.2 y h1).1;have:=hFW.out y h2;omega)
   have hlen:s0=x.Boxes.length:=by obtain⟨_,_,e,_⟩:=id SB;injection e
   subst hlen;have BX0:Hid (Bx w1.heap.size wr B x 26):=zh (by
    have hh:=BBw.out;obtain⟨c9,e9,b9⟩:=HC.out.2.2.2.2 B _ _ hh;have e10:c9 = [.slice g0 x.Boxes.length r0,.slice a6 x.Wires.length c6]:=by
     have h1:=b9.cellq 0;have h2:=b9.cellq 1;rw[BZ.cell (j:=0) rfl] at h1;rw[BZ.cell (j:=1) rfl] at h2
     match c9,e9 with
     | [u,v],_=>simp at h1 h2;rw[<- h1,<- h2]
    rw[e10] at b9;exact⟨_,_,b9,zJz SB SWx,OX⟩)
   have EC:=zh (HC.out.ext (W:=w1) (E6.out.tr EE7.out) (by omega) (by simp))
   have fA1:=BA.out.cell (j:=1) rfl;clear HC HO BBw SB OBk SWx OX BZ hc0 hf0 hl EWr BA;obtain⟨wo,rfl⟩:∃ wo,wo=wr:=⟨_,rfl⟩;go_wp2;go_loopw [7] (fun i wr => ∃ (k:Nat) (y:Board),k<=T/\i = .int .i64 k/\Ext w1 wr/\zAz x k=some y/\Bx w1.heap.size wr B y 26) (fun i _=>T - (intOf i).toNat)
   case atStart=>exact⟨0,x,Nat.zero_le _,rfl,EC.out,rfl,BX0.out⟩
   case round =>
    obtain⟨k,y,hk,rfl,er,hy,bx⟩:=hrel;obtain⟨p0,q0,p1,q1,Fk,kb,hen,how⟩:=bx.openBd;have ER:=zh er;have HY:=zh hy;have KBB:=zh kb;have HEN:=zh hen;have HOW:=zh how;obtain⟨y0,y1⟩:=Bk.k2 kb;have bf:=kb.fz;have ltB:=kb.lt;clear er kb hen how bx hy;by_cases hkt:k < T
    ·obtain⟨hbv,hyl⟩:=zEx HV.out HY.out;have HBV:=zh hbv;have HYL:=zh hyl;have hytot:GT.tot y<=1048576:=Nat.le_trans hbv.tot (by omega)
     clear hbv hyl;obtain⟨r,hr⟩:∃ r,zGg y=r:=⟨_,rfl⟩;have HR:=zh hr;have fA2:=(KA1.out.ext ER.out).cell (j:=0) rfl;go_upto_region 12 with (go_at_call 18;refine(zIp _ y _ ⟨_,Fk,rfl,HEN.out⟩ hytot).mono ?_;rintro e w7 ⟨v7,rfl,hov,he⟩;rw[hr] at hov;obtain⟨b0,n0,b1,n1,F7,rfl,hen7,how7⟩:=hov.openBd;have EX7:=zh he;have HEN7:=zh hen7;have HOW7:=zh how7;have KB7:=zh (KBB.out.ext he);obtain⟨c70,c71⟩:=Bk.k2 KB7.out;have c7f:=KB7.out.fz;have c7l:=KB7.out.lt;clear hov he hen7 how7)
     have hs7:=EX7.out.sz;have hs8:=ER.out.sz;have fA3:=(KA1.out.ext (ER.out.tr EX7.out)).cell (j:=0) rfl;refine zA1 (fun u=>Ext w1 u/\Bx w1.heap.size u B r 26/\Bk u (w.heap.size+1) [.slice none 0 0,.slice none 0 0] 26/\u.cell? ⟨w.heap.size,0,none⟩=some (.slice a0 x.Boxes.length c0)/\u.cell? ⟨B,0,none⟩=some (.slice b0 r.Boxes.length n0)) ⟨Ext.puts (b:=B) (o:=0) (by omega) [.slice b0 r.Boxes.length n0,.slice b1 r.Wires.length n1] (ER.out.tr EX7.out),Bx.put (cs:=[.slice b0 r.Boxes.length n0,.slice b1 r.Wires.length n1]) KB7.out rfl HEN7.out HOW7.out (by omega) (by omega),Bk.puts_ne (c:=B) (o:=0) (ds:=[.slice b0 r.Boxes.length n0,.slice b1 r.Wires.length n1]) (KB1.out.ext (ER.out.tr EX7.out)) (by omega),(Bk.puts_ne (c:=B) (o:=0) (ds:=[.slice b0 r.Boxes.length n0,.slice b1 r.Wires.length n1]) (KA1.out.ext (ER.out.tr EX7.out)) (by omega)).cell (j:=0) rfl,(KB7.out.puts [.slice b0 r.Boxes.length n0,.slice b1 r.Wires.length n1] rfl).cell (j:=0) rfl⟩ ?_
     rintro W9 ⟨e9,bx9,kz9,fA,fB⟩;have E9:=zh e9;have BX9:=zh bx9;have KZ9:=zh kz9;clear e9 bx9 kz9 c70 c71 c7f y0 y1 bf fA2 fA3 hr HEN7 HOW7 KB7 HEN;cases q:zC2 y
     ·have hnone:=zH8 (n:=T) (zEk HY.out q) (by omega)
      have HNO:=zh hnone;have hr0:r.Boxes.length=0:=by rw[<- HR.out,zFi (.inr q)];rfl
      have hx0:=M.okF_ne q;rw[HYL.out] at hx0;have hne:(((r.Boxes.length:Nat):Int) != ((x.Boxes.length:Nat):Int))=true:=by simp only[bne_iff_ne,ne_eq];omega
      obtain⟨z0,z1⟩:=Bk.k2 KZ9.out;have zf:=KZ9.out.fz;have ltZ:=KZ9.out.lt;clear hnone hr0 hx0;go_wp2;refine bodyPost_ret (v:=.agg #[.slice none 0 0,.slice none 0 0]) (by simp[results,Tryz.results15,go_sem,z0,z1]) rfl ⟨_,rfl,by rw[zDl HNO.out];exact Ov.bz _ _,((E1.out.tr E9.out).set (by simp) _).set (by simp) _⟩
     ·have hnext:=zEj HY.out q;rw[<- zGh (zB2.2 HBV.out) q,HR.out] at hnext;have HNX:=zh hnext;have hr0:r.Boxes.length=x.Boxes.length:=by rw[<- HR.out,zGh (zB2.2 HBV.out) q,zI5 HBV.out q];exact HYL.out
      have hne:(((r.Boxes.length:Nat):Int) != ((x.Boxes.length:Nat):Int))=false:=by simp only[bne_eq_false_iff_eq];omega
      clear hnext hr0;go_wp2;exact⟨⟨k+1,r,by omega,by go_num,E9.out,HNX.out,BX9.out⟩,by simp[intOf];omega⟩
    ·obtain rfl:k=T:=by omega
     have hres:=zh (zBq HG.out hT10 HY.out);have KBx:=KB1.out.ext ER.out;obtain⟨z0,z1⟩:=Bk.k2 KBx;have zf:=KBx.fz;have ltZ:=KBx.lt;have hs5:=E.out.sz;have hs6:=LTB.out;have hZ:w.heap.size+1 ∉ Fk:=fun hm=>by have:=(HOW.out.2 _ hm).1;have:=KB1.out.lt;omega
     clear KBx;go_wp2;refine bodyPost_ret (v:=.agg #[.slice p0 y.Boxes.length q0,.slice p1 y.Wires.length q1]) (by simp[results,Tryz.results15,go_sem,z0,z1]) rfl ⟨_,rfl,by rw[hres.out];exact⟨_,_,rfl,zB3 (c:=w.heap.size+1) (o:=0) (ds:=[.slice p0 y.Boxes.length q0,.slice p1 y.Wires.length q1]) HEN.out hZ,((HOW.out.mono (by omega)).puts (b:=w.heap.size+1) (o:=0) [.slice p0 y.Boxes.length q0,.slice p1 y.Wires.length q1])⟩,?_⟩
     exact Ext.puts (b:=w.heap.size+1) (o:=0) (by omega) [.slice p0 y.Boxes.length q0,.slice p1 y.Wires.length q1] (E1.out.tr ER.out)
end Sk
