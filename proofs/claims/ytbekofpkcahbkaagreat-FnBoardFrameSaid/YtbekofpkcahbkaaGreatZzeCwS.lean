/- Contracts of functions of the given program. -/
import Derived.Test.YtbekofpkcahbkaaGreatZzbCwI
import Derived.Test.YtbekofpkcahbkaaGreatXRun
namespace Sk
open Go Go.Proofs Go.RowKit
set_option maxHeartbeats 4000000
set_option maxRecDepth 100000
set_option linter.unusedVariables false
set_option linter.unusedSimpArgs false
theorem zFf(v:Value)(x:Board)(w:World)(h:Rv w v x) :
  Calls Tryz.prog 9 #[v] w fun e w' => ∃ v',e = .returned v'/\Ov w.heap.size w' v' (zCj x)/\Ext w w':=by
 obtain⟨a0,c0,a1,c1,rfl,h0,l0,h1,l1⟩:=h.openBoard;clear h;go_enter Tryz.func9,Tryz.ntmps9;go_upto_region 1 with (fail)
 refine zA1 (fun W=>Ext w W/\Bk W w.heap.size [.slice a0 x.Boxes.length c0,.slice a1 x.Wires.length c1] 26/\Bk W (w.heap.size+1) [.slice none 0 0,.slice none 0 0] 26) ⟨((zr _).alloc _).alloc _,(Bk.new _ _ _).ext ((zr _).alloc _),Bk.new1 _ _ _ _⟩ ?_
 rintro W ⟨e1,kA,kB⟩;have E:=zh e1;have KA:=zh kA;have KB:=zh kB;obtain⟨d0,d1⟩:=Bk.k2 kA;have LTB:=zh kB.lt;clear e1 kA kB;cases g:zE2 x
 ·go_wp2_with (go_at_call 10;refine(zAp _ x _ (Rv.mkBoard (h0.out.ext E.out) (h1.out.ext E.out))).mono ?_;rintro e w1 ⟨rfl,he⟩;rw[g];have E1:=zh (E.out.tr he);have KA1:=zh (KA.out.ext he);have KB1:=zh (KB.out.ext he);obtain⟨x0,x1⟩:=Bk.k2 KA1.out;have ltA1:=KA1.out.lt;obtain⟨z0,z1⟩:=Bk.k2 KB1.out;have zf:=KB1.out.fz;have ltZ:=KB1.out.lt;clear he)
  refine bodyPost_ret (v:=.agg #[.slice none 0 0,.slice none 0 0]) (by simp[results,Tryz.results9,go_sem,z0,z1]) rfl ⟨_,rfl,by rw[zE3 g];exact Ov.bz _ _,(E1.out.set (by simp) _).set (by simp) _⟩
 have hbv:=zB2.1 g;have HV:=zh hbv;have EQG:=zh (zCy g);have HN:Hid (∀ m∈x.Boxes,GT.tot m<=1048576):=zh fun m hm=>Nat.le_trans (zC0 (hbv.box m hm)) (by omega)
 have hb3:=hbv.nb;have hw6:=hbv.nw;clear hbv;go_upto_region 4 with (first
  | (go_at_call 10;refine(zAp _ x _ (Rv.mkBoard (h0.out.ext E.out) (h1.out.ext E.out))).mono ?_;rintro e w1 ⟨rfl,he⟩;rw[g];have E1:=zh (E.out.tr he);have KA1:=zh (KA.out.ext he);have KB1:=zh (KB.out.ext he);obtain⟨x0,x1⟩:=Bk.k2 KA1.out;have ltA1:=KA1.out.lt;obtain⟨z0,z1⟩:=Bk.k2 KB1.out;have zf:=KB1.out.fz;have ltZ:=KB1.out.lt;clear he)
  | (at_builtin;refine zB7 (α:=Wire) (L:=w1.heap.size) (xs:=[]) (ys:=x.Wires) rfl _ _ 24 rfl 33 Tryz.underlying24 zHe (v:=.slice (some ⟨w1.heap.size,0,none⟩) 0 0) rfl (Oo.lit0 33 w1).oa rfl (h1.out.ext (E1.out.tr ((zr _).alloc _))) (by simp;omega) (by simp) ?_;intro v6 w6 hO6 hg6;have O6:=zh hO6;have E6:=zh (Ext.grown ((zr w1).alloc _) hg6 (fun z hz=>by simp only[Value.ownBlock,Option.some.injEq] at hz;omega));obtain⟨a6,n6,c6,rfl⟩:=(Oo.ofA hO6).sh;clear hO6 hg6))
 have hO6:=O6.out;rw[List.nil_append] at hO6;obtain⟨_,_,e6,hl6⟩:=(Oo.ofA hO6).form;obtain rfl:n6=x.Wires.length:=by injection e6
 clear e6;obtain⟨FW,SW6,OW6⟩:=(Oo.ofA hO6).os;refine zA1 (fun u=>Ext w6 u/\Bk u w6.heap.size [.slice none 0 0,.slice a6 x.Wires.length c6] 26) ⟨(zr _).alloc _,Bk.new _ _ _⟩ ?_
 rintro W7 ⟨e7,bb7⟩;have BBw:=zh bb7;have ltB3:=bb7.lt;have SWw:=zh (SW6.ext e7);have OWw:=zh (OW6.ext e7);have EW7:=zh (E1.out.tr (E6.out.tr e7));have EE7:=zh e7;have KA7:=zh (KA1.out.ext (E6.out.tr e7));have KB7:=zh (KB1.out.ext (E6.out.tr e7));have hFW:Hid (∀ y∈FW,w1.heap.size<=y/\y < w6.heap.size):=zh fun y hy=>⟨(OW6.2 y hy).1,OW6.lt hy⟩
 have hs1:=E1.out.sz;have hs6:=E6.out.sz;have hs7:=e7.sz;have ltKA:=KA7.out.lt;have ltKA1:=KA1.out.lt;have ltKB1:=KB1.out.lt
 generalize w6.heap.size=B at *
 clear hO6 SW6 OW6 e7 bb7 O6 x0 x1 z0 z1 zf ltZ d0 d1;go_wp2;go_loopw [4] (fun i wr => ∃ (k:Nat) (g0:Option Addr) (s0 r0:Nat),k<=x.Boxes.length/\i = .int .i64 k/\Chg B 0 1 [] W7 wr/\wr.cell? ⟨B,0,none⟩=some (.slice g0 s0 r0)/\Oo 46 W7.heap.size wr (.slice g0 s0 r0) (x.Boxes.take k)) (fun i _=>x.Boxes.length - (intOf i).toNat)
 case atStart=>exact⟨0,_,_,_,Nat.zero_le _,rfl,Chg.refl _ _ _ _ _,BBw.out.cell (j:=0) rfl,Oo.nil _ _ _⟩
 case round =>
  obtain⟨k,g0,s0,r0,hk,rfl,hch,hc0,ho⟩:=hrel;have HC:=zh hch;have HO:=zh ho;clear hch ho;have BA:=HC.out.bk KA7.out (by omega) (by simp)
  have lWr:W7.heap.size<=wr.heap.size:=HC.out.sz;have EWr:=zh (HC.out.ext EW7.out (by omega) (by simp))
  have a10:=BA.cell (j:=0) rfl;have ltA2:=BA.lt;replace BA:=zh BA;have hf0:∀ j,wr.frozen? ⟨B,j,none⟩=false:=by
   obtain⟨cs,T,hb⟩:=HC.out.fzk B ⟨_,_,BBw.out⟩;exact hb.fz
  by_cases hkt:k < x.Boxes.length
  ·obtain⟨b,o,y,aa0,cc0,aa1,cc1,aa2,cc2,aa3,cc3,aa4,cc4,aa5,cc5,rfl,hb9,hx,j0,j1,j2,j3,j4,j5,j6,jr6,-,-,-,-,-,-,-,-,-,-,-,-,hv⟩:=h0.out.atMachine k hkt;have hyt:=HN.out y (List.mem_of_getElem? hx.out);go_upto_region 7 with (fail)
   have hst:x.Boxes.take (k+1)=x.Boxes.take k ++ [y]:=zAe hx.out;have hWo:∀ j,(Value.slice g0 s0 r0).ownBlock=some j->W7.heap.size<=j:=HO.out.own;refine zAn rfl 11 [(23,[23]),(24,[24]),(25,[25]),(26,[26]),(27,[27]),(28,[28]),(29,[29]),(30,[30]),(31,[31,30]),(32,[32]),(33,[33])]
    (fun i vs u F=>match i,vs with
      | 0,[y9]=>y9 = .pointer (some ⟨B,0,none⟩)
      | 1,[y9]=>y9 = .slice g0 s0 r0
      | 2,[y9]=>y9 = .pointer (some ⟨w.heap.size,0,none⟩)
      | 3,[y9]=>y9 = .slice (some ⟨b,o,none⟩) x.Boxes.length c0
      | 4,[y9]=>y9 = .int .i64 k
      | 5,[y9]=>y9 = .pointer (some ⟨b,o+k*7,none⟩)
      | 6,[y9]=>y9 = .agg #[.slice aa0 y.Plan.Parts.length cc0,.slice aa1 y.Plan.Channels.length cc1,.slice aa2 y.Plan.Slots.length cc2,.slice aa3 y.Programs.length cc3,.slice aa4 y.Cores.length cc4,.slice aa5 y.Holds.length cc5,.int .i64 y.Tick]
      | 7,[y9] => ∃ t0 u0 t1 u1 t2 u2 t3 u3 t4 u4 t5 u5,y9 = .agg #[.slice t0 y.Plan.Parts.length u0,.slice t1 y.Plan.Channels.length u1,.slice t2 y.Plan.Slots.length u2,.slice t3 y.Programs.length u3,.slice t4 y.Cores.length u4,.slice t5 y.Holds.length u5,.int .i64 y.Tick]/\GT.enc u [.slice t0 y.Plan.Parts.length u0,.slice t1 y.Plan.Channels.length u1,.slice t2 y.Plan.Slots.length u2,.slice t3 y.Programs.length u3,.slice t4 y.Cores.length u4,.slice t5 y.Holds.length u5,.int .i64 y.Tick] y F
      | 8,[y9,z9] => ∃ b0 cs,y9 = .slice (some ⟨b0,0,none⟩) 1 1/\z9 = .agg cs.toArray/\Bk u b0 cs 46
      | 9,[y9]=>Oo 46 W7.heap.size u y9 (x.Boxes.take k ++ [y])
      | 10,[y9]=>y9 = .pointer (some ⟨B,0,none⟩)
      | _,_=>False) 9 (Value.slice g0 s0 r0).ownBlock HO.out.lt (by decide +kernel) ?_ ?_ ?_
   ·intro i hi hne oo ho U u F hG hd hap;have hE:=Ext.grown EWr.out hG (fun j hj=>by have:=hWo j hj;omega)
    have e0:=zAd hG hc0 (by omega) (fun j hj=>by have:=hWo j hj;omega)
    have e1:=zAd hG a10 (by omega) (fun j hj=>by have:=hWo j hj;omega)
    have i0:=(zA0 hE hb9).trans j0;have i1:=(zA0 hE hb9).trans j1;have i2:=(zA0 hE hb9).trans j2;have i3:=(zA0 hE hb9).trans j3;have i4:=(zA0 hE hb9).trans j4;have i5:=(zA0 hE hb9).trans j5;have i6:=(zA0 hE hb9).trans j6;rcases(by omega:i=0\/i=1\/i=2\/i=3\/i=4\/i=5\/i=6\/i=7\/i=8\/i=9\/i=10) with rfl|rfl|rfl|rfl|rfl|rfl|rfl|rfl|rfl|rfl|rfl
    ·cases ho;simp only[fr];intro K hK;go_wp2;exact zk hK _ (fun _ _=>rfl)
    ·cases ho;simp only[fr];obtain⟨⟨d0,-⟩,-⟩:=fa [0] (by decide +kernel) hd
     simp only[fu] at d0;try simp only[d0]
     clear d0;intro K hK;go_wp2;exact zk hK _ (fun _ _=>rfl)
    ·cases ho;simp only[fr];intro K hK;go_wp2;exact zk hK _ (fun _ _=>rfl)
    ·cases ho;simp only[fr];obtain⟨⟨d2,-⟩,-⟩:=fa [2] (by decide +kernel) hd
     simp only[fu] at d2;try simp only[d2]
     clear d2;intro K hK;go_wp2;exact zk hK _ (fun _ _=>rfl)
    ·cases ho;simp only[fr];intro K hK;go_wp2;exact zk hK _ (fun _ _=>rfl)
    ·cases ho;simp only[fr];obtain⟨⟨d2,-⟩,⟨d3,-⟩,⟨d4,-⟩,-⟩:=fa [2,3,4] (by decide +kernel) hd
     simp only[fu] at d2 d3 d4;try simp only[d2,d3,d4]
     clear d2 d3 d4;intro K hK;go_wp2;exact zk hK _ (fun _ _=>rfl)
    ·cases ho;simp only[fr];obtain⟨⟨d2,-⟩,⟨d3,-⟩,⟨d4,-⟩,⟨d5,-⟩,-⟩:=fa [2,3,4,5] (by decide +kernel) hd
     simp only[fu] at d2 d3 d4 d5;try simp only[d2,d3,d4,d5]
     clear d2 d3 d4 d5;intro K hK;go_wp2;exact zk hK _ (fun _ _=>rfl)
    ·cases ho;simp only[fr];obtain⟨⟨d2,-⟩,⟨d3,-⟩,⟨d4,-⟩,⟨d5,-⟩,⟨d6,-⟩,-⟩:=fa [2,3,4,5,6] (by decide +kernel) hd
     simp only[fu] at d2 d3 d4 d5 d6;try simp only[d2,d3,d4,d5,d6]
     intro K hK;go_wp2_with (go_at_call 25;refine(zEu _ y _ (hv.out.ext hE) hyt).mono ?_;rintro e w' ⟨v9,rfl,hov,ex1⟩;obtain⟨t0,u0,t1,u1,t2,u2,t3,u3,t4,u4,t5,u5,F2,rfl,en2,ow2⟩:=hov.openE)
     exact hK _ F2 _ ex1 (fun _ h=>⟨_,_,_,_,_,_,_,_,_,_,_,_,rfl,zIf en2 h (fun j hj e=>by have:=(ow2.2 j hj).1;have:=HO.out.lt j e;have:=hG.size;omega)⟩) ow2
    ·cases ho;simp only[fr];obtain⟨⟨d2,-⟩,⟨d3,-⟩,⟨d4,-⟩,⟨d5,-⟩,⟨d6,-⟩,⟨d7,o7⟩,-⟩:=fa [2,3,4,5,6,7] (by decide +kernel) hd
     simp only[fu] at d2 d3 d4 d5 d6 d7;try simp only[d2,d3,d4,d5,d6]
     obtain⟨t0,u0,t1,u1,t2,u2,t3,u3,t4,u4,t5,u5,e8,_⟩:=d7;simp only[e8];intro K hK;go_wp2;have b1:=Bk.new u [.slice t0 y.Plan.Parts.length u0,.slice t1 y.Plan.Channels.length u1,.slice t2 y.Plan.Slots.length u2,.slice t3 y.Programs.length u3,.slice t4 y.Cores.length u4,.slice t5 y.Holds.length u5,.int .i64 y.Tick] 46;exact hK _ [] _ ((zr u).alloc _) (fun _ h=>⟨_,_,rfl,e8,b1.grown h (fun e=>by have:=HO.out.lt _ e;have:=hG.size;omega)⟩) (Own.nil _ _)
    ·exact absurd rfl hne
    ·cases ho;simp only[fr];obtain⟨⟨d0,-⟩,⟨d1,-⟩,⟨d2,-⟩,⟨d3,-⟩,⟨d4,-⟩,⟨d5,-⟩,⟨d6,-⟩,-⟩:=fa [0,1,2,3,4,5,6] (by decide +kernel) hd
     simp only[fu] at d0 d1 d2 d3 d4 d5 d6;try simp only[d0,d1,d2,d3,d4,d5,d6]
     clear d0 d1 d2 d3 d4 d5 d6;intro K hK;go_wp2;exact zk hK _ (fun _ _=>rfl)
   ·intro _ oo ho U u F hE hd hap;cases ho;simp only[fr];obtain⟨⟨d0,-⟩,⟨d1,-⟩,⟨d2,-⟩,⟨d3,-⟩,⟨d4,-⟩,⟨d5,-⟩,⟨d6,-⟩,⟨d7,o7⟩,⟨d8,o8⟩,-⟩:=fa [0,1,2,3,4,5,6,7,8] (by decide +kernel) hd
    simp only[fu] at d0 d1 d2 d3 d4 d5 d6 d7 d8;try simp only[d0,d1,d2,d3,d4,d5,d6]
    obtain⟨t0,u0,t1,u1,t2,u2,t3,u3,t4,u4,t5,u5,e8,n8⟩:=d7;obtain⟨b0,cs,d9,z9,b9⟩:=d8;rw[e8] at z9;obtain rfl:cs = [.slice t0 y.Plan.Parts.length u0,.slice t1 y.Plan.Channels.length u1,.slice t2 y.Plan.Slots.length u2,.slice t3 y.Programs.length u3,.slice t4 y.Cores.length u4,.slice t5 y.Holds.length u5,.int .i64 y.Tick]:=(congrArg Array.toList (zBy z9)).symm;simp only[d9];intro K hK;refine zB9 (u:=wr) (α:=Machine) rfl _ _ 23 rfl 46 Tryz.underlying23 zDd (v:=.slice g0 s0 r0) (ys:=[y]) rfl HO.out hE lWr rfl rfl (Row.one n8 (fun j y hj=>by rw[Nat.zero_add];exact b9.cell hj)) (by simp) o7 (by simp;omega) ?_
    intro v2 w2 hO2 hg2;go_wp2;exact hK _ [] _ hg2 (fun _ h=>hO2.ext h) (Own.nil _ _)
   ·intro oo ho U u F hG hφ hap;cases ho;simp only[fr];obtain⟨⟨d0,-⟩,⟨d1,-⟩,⟨d2,-⟩,⟨d3,-⟩,⟨d4,-⟩,⟨d5,-⟩,⟨d6,-⟩,⟨d7,o7⟩,⟨d8,o8⟩,⟨d9,o9⟩,⟨d10,-⟩,-⟩:=fb [0,1,2,3,4,5,6,7,8,9,10] (by decide +kernel) hφ
    simp only[fu] at d0 d1 d2 d3 d4 d5 d6 d7 d8 d9 d10;try simp only[d0,d1,d2,d3,d4,d5,d6,d10]
    clear d0 d1 d2 d3 d4 d5 d6 d7 d8 d10 hap hφ;have e0:=zAd hG hc0 (by omega) (fun j hj=>by have:=hWo j hj;omega)
    have f0:u.frozen? ⟨B,0,none⟩=false:=(World.frozen?_of_block (hG.block B (by omega) (fun e=>by have:=hWo B e.symm;omega))).trans (hf0 0)
    obtain⟨p9,n9,q9,e9⟩:=d9.sh;simp only[e9] at d9 ⊢;have hCu:=HC.out.grown hG hWo ltB3;go_wp2;exact⟨⟨k+1,_,_,_,by omega,by go_num,hCu.set ⟨by omega,by omega⟩ _,zAw e0,by rw[hst];exact d9.set ltB3 _⟩,by simp[intOf];omega⟩
  ·obtain rfl:k=x.Boxes.length:=by omega
   have hl:x.Boxes.take x.Boxes.length=x.Boxes:=List.take_of_length_le (by omega)
   rw[hl] at HO;obtain⟨FB,SB,OBk⟩:=HO.out.os;have nBB:B ∉ FB:=fun hm=>by have:=(OBk.2 _ hm).1;omega
   have nBW:B ∉ FW:=fun hm=>by have:=hFW.out _ hm;omega
   obtain⟨_,BZ⟩:=HC.out.one BBw.out (by simp) hc0
   have SWx:=HC.out.sl SWw.out nBW (fun _ _ h=>by cases h)
   have OX:Own w1.heap.size wr (FB++FW):=(OBk.mono (by omega)).join (OWw.out.chg HC.out) (fun y h1 h2=>by have:=(OBk.2 y h1).1;have:=hFW.out y h2;omega)
   have hlen:s0=x.Boxes.length:=by obtain⟨_,_,e,_⟩:=id SB;injection e
   subst hlen;have OM0:Hid (Om w1.heap.size wr B 0 (Board.mk (zD3 x 0) x.Wires) (FB++FW)):=zh (Om.ofBkO (x:=x) (zJz SB SWx) OX BZ (by omega) (fun hm=>(List.mem_append.1 hm).elim nBB nBW))
   have EC:=zh (HC.out.ext (W:=w1) (E6.out.tr EE7.out) (by omega) (by simp))
   have fA1:=BA.out.cell (j:=1) rfl;clear HC HO BBw SB OBk SWx OX BZ hc0 hf0 hl EWr BA;obtain⟨wo,rfl⟩:∃ wo,wo=wr:=⟨_,rfl⟩;go_wp2;go_loopw [5] (fun i wr => ∃ (k:Nat) (F:List Nat),k<=x.Wires.length/\i = .int .i64 k/\Ext w1 wr/\Om w1.heap.size wr B 0 (Board.mk (zD3 x k) x.Wires) F) (fun i _=>x.Wires.length - (intOf i).toNat)
   case atStart=>exact⟨0,_,Nat.zero_le _,rfl,EC.out,OM0.out⟩
   case round =>
    obtain⟨k,Fk,hk,rfl,er,om⟩:=hrel;have ER:=zh er;have OMk:=zh om;clear er om;have fA:=(KA1.out.ext ER.out).cell (j:=1) rfl;by_cases hkt:k < x.Wires.length
    ·obtain⟨bw,ow,v,rfl,hbw,hxv,j0,j1,j2,j3,j4,j5,jr0,jr1,jr2,jr3,jr4,jr5,-⟩:=(h1.out.ext (E1.out.tr ER.out)).atWire k hkt;obtain⟨X,Y,Z,m,c,e1,e2,e3,hm,hc,hz,hcv,hv1,hv2⟩:=HV.out.src hxv.out;obtain⟨X',Y',Z',m',c',e4,e5,e6,hm',hc',hz',hstep⟩:=HV.out.dst hxv.out;go_upto_region 12 with (fail)
     refine zA1 (fun W=>Ext wr W/\Bk W wr.heap.size [.int .i64 X,.int .i64 Y,.int .i64 Z,.int .i64 X',.int .i64 Y',.int .i64 Z'] 33) ⟨(zr _).alloc _,Bk.new _ _ _⟩ ?_
     rintro W5 ⟨ex5,k5⟩;obtain⟨i0,i1,i2,i3,i4,i5⟩:=Bk.k6 k5;have d0:=(KA1.out.ext (ER.out.tr ex5)).cell (j:=0) rfl;obtain⟨g0,s0,n0,g1,s1,n1,g2,s2,n2,y0,y1,y2,y3,yf,hL2,hn2,hput⟩:=(OMk.out.ext (ex5.tr (zr W5).drew)).bcell (x:=(Board.mk (zD3 x k) x.Wires)) hm' hc' hz';obtain⟨b9,o9,mm,aa0,cc0,aa1,cc1,aa2,cc2,aa3,cc3,aa4,cc4,aa5,cc5,rfl,hb9,hx9,-,-,-,-,q4,-,-,-,-,-,-,-,-,-,-,-,hs4,-,-,-,-⟩:=(h0.out.ext (E1.out.tr (ER.out.tr ex5))).atMachine X (zA3 hm);obtain rfl:mm=m:=Option.some.inj (hx9.out.symm.trans hm);obtain⟨b8,o8,cc,wa,wc,rfl,hb8,hx8,q0,-,-,-,hs8,-,-⟩:=hs4.out.atCore Y (zA3 hc);obtain rfl:cc=c:=Option.some.inj (hx8.out.symm.trans hc);obtain⟨b7,o7,z7,rfl,hb7,hx7,q7,-⟩:=hs8.out.atInt Z hz;obtain rfl:z7=zDc x v:=Option.some.inj (hx7.out.symm.trans hcv);obtain⟨F5,om5⟩:=hput (zDc x v) ⟨by omega,by omega⟩
     rw[<- hstep] at om5;have OM5:=zh om5;have X1:=zA3 hm;have X2:=zA3 hc;have X3:=zA3 hm';have X4:=zA3 hc';have y0':W5.cell? ⟨B,0,none⟩=_:=y0;have y1':W5.cell? ⟨g0,s0+X'*7+4,none⟩=_:=y1;have y2':W5.cell? ⟨g1,s1+Y'*3,none⟩=_:=y2;have EX5:=zh (ER.out.tr (ex5.tr (zr W5).drew));have d1:=(KA1.out.ext (ER.out.tr ex5)).cell (j:=1) rfl;have hs5:=E.out.sz;clear om5 hput hstep ex5 k5 hs4 hs8 hxv j0 j1 j2 j3 j4 j5 hcv e1 e2 e3 e4 e5 e6 hm hc hm' hc';refine zA7 30 (by kernel_rfl) (by kernel_rfl) ?_
     simp only[List.take_succ_cons,List.take_zero,List.drop_succ_cons,List.drop_zero]
     repeat (go_big_quiet_step (fail))
     refine wpQuiet_nil ?_
     change wpList _ _ _ _ _ W5.drew
     clear y0' y1' y2' y0 y1 y2 d0 i0 i1 i2 i3 i4 i5 q0 q4 q7;go_wp2;exact⟨⟨k+1,F5,by omega,by go_num,EX5.out.set (p:=⟨g2,s2+Z',none⟩) hL2 _,OM5.out⟩,by simp[intOf];omega⟩
    ·obtain rfl:k=x.Wires.length:=by omega
     obtain⟨p0,q0,p1,q1,y0,y1,hen,how,hBF⟩:=OMk.out.openBd;have bf:=OMk.out.bk.2.2.2;have ltB:=OMk.out.bk.1;have hLB:=OMk.out.bk.2.1;have KBx:=KB1.out.ext ER.out;obtain⟨z0,z1⟩:=Bk.k2 KBx;have zf:=KBx.fz;have ltZ:=KBx.lt;have hs5:=E.out.sz;have hs6:=KB1.out.lt;have hZ:w.heap.size+1 ∉ Fk:=fun hm=>by have:=(how.out.2 _ hm).1;omega
     clear KBx;obtain⟨r,hr⟩:∃ r,zJt x=r:=⟨_,rfl⟩;have hr2:Board.mk (zD3 x x.Wires.length) x.Wires=r:=hr;rw[hr2] at y0 y1 hen;have EQ:=zh hr;clear hr hr2;go_wp2;refine bodyPost_ret (v:=.agg #[.slice p0 r.Boxes.length q0,.slice p1 r.Wires.length q1]) (by simp[results,Tryz.results9,go_sem,z0,z1]) rfl ⟨_,rfl,by rw[EQG.out,EQ.out];exact⟨_,_,rfl,zB3 (c:=w.heap.size+1) (o:=0) (ds:=[.slice p0 r.Boxes.length q0,.slice p1 r.Wires.length q1]) hen.out hZ,((how.out.mono (by omega)).puts (b:=w.heap.size+1) (o:=0) [.slice p0 r.Boxes.length q0,.slice p1 r.Wires.length q1])⟩,?_⟩
     exact Ext.puts (b:=w.heap.size+1) (o:=0) (by omega) [.slice p0 r.Boxes.length q0,.slice p1 r.Wires.length q1] (E1.out.tr ER.out)
theorem zIp(v:Value)(x:Board)(w:World)(h:Rv w v x)(hn:GT.tot x<=1048576) :
  Calls Tryz.prog 18 #[v] w fun e w' => ∃ v',e = .returned v'/\Ov w.heap.size w' v' (zGg x)/\Ext w w':=by
 obtain⟨a0,c0,a1,c1,rfl,h0,l0,h1,l1⟩:=h.openBoard;clear h;go_enter Tryz.func18,Tryz.ntmps18;go_upto_region 1 with (fail)
 refine zA1 (fun W=>Ext w W/\Bk W w.heap.size [.slice a0 x.Boxes.length c0,.slice a1 x.Wires.length c1] 26/\Bk W (w.heap.size+1) [.slice none 0 0,.slice none 0 0] 26) ⟨((zr _).alloc _).alloc _,(Bk.new _ _ _).ext ((zr _).alloc _),Bk.new1 _ _ _ _⟩ ?_
 rintro W ⟨e1,kA,kB⟩;have E:=zh e1;have KA:=zh kA;have KB:=zh kB;obtain⟨d0,d1⟩:=Bk.k2 kA;have LTB:=zh kB.lt;clear e1 kA kB;go_upto_region 2 with (go_at_call 40;refine(zIs _ x _ (Rv.mkBoard (h0.out.ext E.out) (h1.out.ext E.out)) hn).mono ?_;rintro e w1 ⟨v1,rfl,hov,he⟩;obtain⟨p0,q0,p1,q1,F0,F1,rfl,s0,s1,hF⟩:=hov.openBd2;have HE:=zh he;obtain⟨x0,x1⟩:=Bk.k2 (KA.out.ext he);have xf:=(KA.out.ext he).fz;have ltA1:=(KA.out.ext he).lt;have S0:=zh s0;have S1:=zh s1;have HF:=zh hF;clear hov he s0 s1 hF)
 have hs0:=E.out.sz;have hs1:=LTB.out;refine zA1 (fun W2=>Ext w W2/\Bk W2 w.heap.size [.slice p0 x.Boxes.length q0,.slice p1 x.Wires.length q1] 26/\Bk W2 (w.heap.size+1) [.slice none 0 0,.slice none 0 0] 26/\Rs W2 (.slice p0 x.Boxes.length q0) x.Boxes/\Rs W2 (.slice p1 x.Wires.length q1) x.Wires) ⟨Ext.puts (b:=w.heap.size) (o:=0) (Nat.le_refl _) [.slice p0 x.Boxes.length q0,.slice p1 x.Wires.length q1] (E.out.tr HE.out),(KA.out.ext HE.out).puts [.slice p0 x.Boxes.length q0,.slice p1 x.Wires.length q1] rfl,Bk.puts_ne (c:=w.heap.size) (o:=0) (ds:=[.slice p0 x.Boxes.length q0,.slice p1 x.Wires.length q1]) (KB.out.ext HE.out) (by omega),⟨_,Sl.puts (c:=w.heap.size) (o:=0) (ds:=[.slice p0 x.Boxes.length q0,.slice p1 x.Wires.length q1]) S0.out (fun hm=>by have:=HF.out _ (.inl hm);omega)⟩,⟨_,Sl.puts (c:=w.heap.size) (o:=0) (ds:=[.slice p0 x.Boxes.length q0,.slice p1 x.Wires.length q1]) S1.out (fun hm=>by have:=HF.out _ (.inr hm);omega)⟩⟩ ?_
 rintro W2 ⟨eW,kA,kB,r0,r1⟩;have EW:=zh eW;clear h0 h1 x0 x1 xf ltA1 S0 S1 HF HE d0 d1;have h0:=zh r0;have h1:=zh r1;have h0q:=h0.out.form;replace KA:=zh kA;replace KB:=zh kB;replace E:=zh (zr W2);obtain⟨d0,d1⟩:=Bk.k2 kA;have ltA:=kA.lt;clear eW kA kB r0 r1;cases g:zE2 x
 ·go_wp2_with (go_at_call 10;refine(zAp _ x _ (Rv.mkBoard (h0.out.ext E.out) (h1.out.ext E.out))).mono ?_;rintro e w1 ⟨rfl,he⟩;rw[g];have E1:=zh (E.out.tr he);have KA1:=zh (KA.out.ext he);have KB1:=zh (KB.out.ext he);obtain⟨x0,x1⟩:=Bk.k2 KA1.out;have ltA1:=KA1.out.lt;obtain⟨z0,z1⟩:=Bk.k2 KB1.out;have zf:=KB1.out.fz;have ltZ:=KB1.out.lt;clear he)
  refine bodyPost_ret (v:=.agg #[.slice none 0 0,.slice none 0 0]) (by simp[results,Tryz.results18,go_sem,z0,z1]) rfl ⟨_,rfl,by rw[zFi (.inl g)];exact Ov.bz _ _,((EW.out.tr E1.out).set (by simp) _).set (by simp) _⟩
 have hbv:=zB2.1 g;have HV:=zh hbv;have HG:=zh g;have hb3:=hbv.nb;have hw6:=hbv.nw;clear hbv h0q;go_upto_region 5 with (go_at_call 10;refine(zAp _ x _ (Rv.mkBoard (h0.out.ext E.out) (h1.out.ext E.out))).mono ?_;rintro e w1 ⟨rfl,he⟩;rw[g];have E1:=zh (E.out.tr he);have KA1:=zh (KA.out.ext he);have KB1:=zh (KB.out.ext he);obtain⟨x0,x1⟩:=Bk.k2 KA1.out;have ltA1:=KA1.out.lt;obtain⟨z0,z1⟩:=Bk.k2 KB1.out;have zf:=KB1.out.fz;have ltZ:=KB1.out.lt;clear he)
 refine zA1 (fun u=>Ext w1 u/\Bk u w1.heap.size [.slice none 0 0,.slice p1 x.Wires.length q1] 26) ⟨(zr _).alloc _,Bk.new _ _ _⟩ ?_
 rintro W4 ⟨e4,bb4⟩;have BBw:=zh bb4;have ltB3:=bb4.lt;have E4:=zh (E1.out.tr e4);have KA4:=zh (KA1.out.ext e4);have KB4:=zh (KB1.out.ext e4);have hs4:=e4.sz;have hs5:=E1.out.sz;have ltKA:=KA4.out.lt;have ltKB1:=KB1.out.lt;have hwW:=EW.out.sz
 generalize w1.heap.size=B at *
 clear e4 bb4 x0 x1 z0 z1 zf ltZ d0 d1;go_wp2;go_loopw [4] (fun i wr => ∃ (k:Nat) (g0:Option Addr) (s0 r0:Nat),k<=x.Boxes.length/\i = .int .i64 k/\Chg B 0 1 [] W4 wr/\wr.cell? ⟨B,0,none⟩=some (.slice g0 s0 r0)/\Oo 46 W4.heap.size wr (.slice g0 s0 r0) ((x.Boxes.take k).map (fun m=>zBd m (zGe m)))/\∀ j m,j < k->x.Boxes[j]? = some m->m.Tick+zGe m<=100000) (fun i _=>x.Boxes.length - (intOf i).toNat)
 case atStart=>exact⟨0,_,_,_,Nat.zero_le _,rfl,Chg.refl _ _ _ _ _,BBw.out.cell (j:=0) rfl,Oo.nil _ _ _,fun j m hj=>by omega⟩
 case round =>
  obtain⟨k,g0,s0,r0,hk,rfl,hch,hc0,ho,hall⟩:=hrel;have HC:=zh hch;have HO:=zh ho;have HALL:=zh hall;clear hch ho hall;have BA:=HC.out.bk KA4.out (by omega) (by simp)
  have lWr:W4.heap.size<=wr.heap.size:=HC.out.sz;have EWr:=zh (HC.out.ext E4.out (by omega) (by simp))
  obtain⟨a10,a11⟩:=Bk.k2 BA;have ltA2:=BA.lt;replace BA:=zh BA;by_cases hkt:k < x.Boxes.length
  ·obtain⟨b,o,y,aa0,cc0,aa1,cc1,aa2,cc2,aa3,cc3,aa4,cc4,aa5,cc5,rfl,hb9,hx,j0,j1,j2,j3,j4,j5,j6,jr6,-,-,-,-,hs2,-,-,-,-,-,-,-,hv⟩:=h0.out.atMachine k hkt;replace j0:=(zA0 EWr.out hb9).trans j0;replace j1:=(zA0 EWr.out hb9).trans j1;replace j2:=(zA0 EWr.out hb9).trans j2;replace j3:=(zA0 EWr.out hb9).trans j3;replace j4:=(zA0 EWr.out hb9).trans j4;replace j5:=(zA0 EWr.out hb9).trans j5;replace j6:=(zA0 EWr.out hb9).trans j6;have hmv:=HV.out.box y (List.mem_of_getElem? hx.out);have HMV:=zh hmv;have hfl:=zLa hmv;have hti:=hmv.tick;have hfk:((zFy y.Plan.Slots y.Plan.Slots.length:Int))=zGe y:=((zKd.of hmv.ssv).fl_tk).symm;have hssv:zCv y.Plan.Slots y.Cores.length=true:=by rw[hmv.nc];exact hmv.ssv
   have HSS:=zh hssv;clear hmv hssv;obtain⟨N,hN⟩:∃ N,zGe y=N:=⟨_,rfl⟩;rw[hN] at hfl hfk;have HN2:=zh hN;have HFK:=zh hfk;clear hN hfk;go_upto_region 9 with (fail)
   refine zA1 (fun u=>Ext wr u/\Bk u wr.heap.size [.slice aa0 y.Plan.Parts.length cc0,.slice aa1 y.Plan.Channels.length cc1,.slice aa2 y.Plan.Slots.length cc2,.slice aa3 y.Programs.length cc3,.slice aa4 y.Cores.length cc4,.slice aa5 y.Holds.length cc5,.int .i64 y.Tick] 46) ⟨(zr _).alloc _,Bk.new _ _ _⟩ ?_
   rintro W8 ⟨e8,k8⟩;have z0:=k8.cell (j:=0) rfl;have z2:=k8.cell (j:=2) rfl;have z4:=k8.cell (j:=4) rfl;have HK8:=zh k8;have E8:=zh e8;clear e8 k8 j0 j1 j2 j3 j4 j5 j6;go_upto_region 10 with (go_at_call 41;refine(zDh _ y.Plan.Slots _ _ (hs2.out.ext (EWr.out.tr E8.out)) HSS.out).mono ?_;rintro e w9 ⟨rfl,he⟩;rw[HFK.out];have E9:=zh he;have HK9:=zh (HK8.out.ext he);clear he)
   clear z0 z2 z4;have lt5:=HK9.out.lt;obtain⟨z0,z1,z2,z3,z4,z5,z6⟩:=Bk.k7 HK9.out;by_cases hT:y.Tick+N<=100000
   ·have hgt:decide (y.Tick+(N:Int) > 100000)=false:=decide_eq_false (by omega)
    have hgt2:decide ((100000:Int) < y.Tick+(N:Int))=false:=decide_eq_false (by omega)
    have HALL2:Hid (∀ j m,j < k+1->x.Boxes[j]? = some m->m.Tick+zGe m<=100000):=zh (fun j mj hj hxj=>by
     by_cases e:j=k
     ·subst e;obtain rfl:mj=y:=Option.some.inj (hxj.symm.trans hx.out);rw[HN2.out];exact hT
     ·exact HALL.out j mj (by omega) hxj)
    have hrr0:=zFx (zDx.2 ⟨HMV.out,⟨by omega,by omega⟩,hT⟩:zC9 y N 400=true)
    obtain⟨r,hr⟩:∃ r,zBd y N=r:=⟨_,rfl⟩;have hrr:=zh (hrr0.trans hr);have hst:Hid ((x.Boxes.take (k+1)).map (fun m=>zBd m (zGe m))=(x.Boxes.take k).map (fun m=>zBd m (zGe m)) ++ [r]):=zh (by rw[zAe hx.out,List.map_append,List.map_singleton,HN2.out,hr])
    clear hrr0 hr HALL;go_upto_region 12 with (fail)
    have hWo:∀ j,(Value.slice g0 s0 r0).ownBlock=some j->W4.heap.size<=j:=HO.out.own;have hWl:∀ j,(Value.slice g0 s0 r0).ownBlock=some j->j < wr.heap.size:=HO.out.lt;have EQ9:=zh (E8.out.tr E9.out);have hsq:=EQ9.out.sz;replace hc0:=(zA0 EQ9.out (by omega)).trans hc0
    replace HO:=zh (HO.out.ext EQ9.out);replace HC:=zh (HC.out.tr (Chg.ofExt EQ9.out (by omega)))
    replace EWr:=zh (EWr.out.tr EQ9.out);have hf0:∀ j,w9.frozen? ⟨B,j,none⟩=false:=by
     obtain⟨cs,T,hb⟩:=HC.out.fzk B ⟨_,_,BBw.out⟩;exact hb.fz
    replace lWr:W4.heap.size<=w9.heap.size:=by omega
    clear a10 a11 BA;refine zAn rfl 8 [(41,[41]),(42,[42]),(43,[43]),(44,[44]),(45,[45]),(46,[46,45]),(47,[47]),(48,[48])]
     (fun i vs u F=>match i,vs with
       | 0,[y9]=>y9 = .pointer (some ⟨B,0,none⟩)
       | 1,[y9]=>y9 = .slice g0 s0 r0
       | 2,[y9]=>y9 = .agg #[.slice aa0 y.Plan.Parts.length cc0,.slice aa1 y.Plan.Channels.length cc1,.slice aa2 y.Plan.Slots.length cc2,.slice aa3 y.Programs.length cc3,.slice aa4 y.Cores.length cc4,.slice aa5 y.Holds.length cc5,.int .i64 y.Tick]
       | 3,[y9]=>y9 = .int .i64 N
       | 4,[y9] => ∃ t0 u0 t1 u1 t2 u2 t3 u3 t4 u4 t5 u5,y9 = .agg #[.slice t0 r.Plan.Parts.length u0,.slice t1 r.Plan.Channels.length u1,.slice t2 r.Plan.Slots.length u2,.slice t3 r.Programs.length u3,.slice t4 r.Cores.length u4,.slice t5 r.Holds.length u5,.int .i64 r.Tick]/\GT.enc u [.slice t0 r.Plan.Parts.length u0,.slice t1 r.Plan.Channels.length u1,.slice t2 r.Plan.Slots.length u2,.slice t3 r.Programs.length u3,.slice t4 r.Cores.length u4,.slice t5 r.Holds.length u5,.int .i64 r.Tick] r F
       | 5,[y9,z9] => ∃ b0 cs,y9 = .slice (some ⟨b0,0,none⟩) 1 1/\z9 = .agg cs.toArray/\Bk u b0 cs 46
       | 6,[y9]=>Oo 46 W4.heap.size u y9 ((x.Boxes.take k).map (fun m=>zBd m (zGe m)) ++ [r])
       | 7,[y9]=>y9 = .pointer (some ⟨B,0,none⟩)
       | _,_=>False) 6 (Value.slice g0 s0 r0).ownBlock HO.out.lt (by decide +kernel) ?_ ?_ ?_
    ·intro i hi hne oo ho U u F hG hd hap;have hE:=Ext.grown EWr.out hG (fun j hj=>by have:=hWo j hj;omega)
     have e0:=zAd hG hc0 (by omega) (fun j hj=>by have:=hWo j hj;omega)
     have i0:=zAd hG z0 lt5 (fun j hj=>by have:=hWl j hj;omega)
     have i1:=zAd hG z1 lt5 (fun j hj=>by have:=hWl j hj;omega)
     have i2:=zAd hG z2 lt5 (fun j hj=>by have:=hWl j hj;omega)
     have i3:=zAd hG z3 lt5 (fun j hj=>by have:=hWl j hj;omega)
     have i4:=zAd hG z4 lt5 (fun j hj=>by have:=hWl j hj;omega)
     have i5:=zAd hG z5 lt5 (fun j hj=>by have:=hWl j hj;omega)
     have i6:=zAd hG z6 lt5 (fun j hj=>by have:=hWl j hj;omega)
     rcases(by omega:i=0\/i=1\/i=2\/i=3\/i=4\/i=5\/i=6\/i=7) with rfl|rfl|rfl|rfl|rfl|rfl|rfl|rfl
     ·cases ho;simp only[fr];intro K hK;go_wp2;exact zk hK _ (fun _ _=>rfl)
     ·cases ho;simp only[fr];obtain⟨⟨d0,-⟩,-⟩:=fa [0] (by decide +kernel) hd
      simp only[fu] at d0;try simp only[d0]
      clear d0;intro K hK;go_wp2;exact zk hK _ (fun _ _=>rfl)
     iterate 2 (·cases ho;simp only[fr];intro K hK;go_wp2;exact zk hK _ (fun _ _=>rfl))
     ·cases ho;simp only[fr];obtain⟨⟨d2,-⟩,⟨d3,-⟩,-⟩:=fa [2,3] (by decide +kernel) hd
      simp only[fu] at d2 d3;try simp only[d2,d3]
      intro K hK;go_wp2_with (go_at_call 42;refine(zIr _ y N _ (hv.out.ext hE) ⟨by omega,by omega⟩).mono ?_;rintro e w' ⟨v9,rfl,hov,ex1⟩;rw[hrr.out] at hov;obtain⟨t0,u0,t1,u1,t2,u2,t3,u3,t4,u4,t5,u5,F2,rfl,en2,ow2⟩:=hov.openE)
      exact hK _ F2 _ ex1 (fun _ h=>⟨_,_,_,_,_,_,_,_,_,_,_,_,rfl,zIf en2 h (fun j hj e=>by have:=(ow2.2 j hj).1;have:=HO.out.lt j e;have:=hG.size;omega)⟩) ow2
     ·cases ho;simp only[fr];obtain⟨⟨d2,-⟩,⟨d3,-⟩,⟨d4,o4⟩,-⟩:=fa [2,3,4] (by decide +kernel) hd
      simp only[fu] at d2 d3 d4;try simp only[d2,d3]
      obtain⟨t0,u0,t1,u1,t2,u2,t3,u3,t4,u4,t5,u5,e8,_⟩:=d4;simp only[e8];intro K hK;go_wp2;have b1:=Bk.new u [.slice t0 r.Plan.Parts.length u0,.slice t1 r.Plan.Channels.length u1,.slice t2 r.Plan.Slots.length u2,.slice t3 r.Programs.length u3,.slice t4 r.Cores.length u4,.slice t5 r.Holds.length u5,.int .i64 r.Tick] 46;exact hK _ [] _ ((zr u).alloc _) (fun _ h=>⟨_,_,rfl,e8,b1.grown h (fun e=>by have:=HO.out.lt _ e;have:=hG.size;omega)⟩) (Own.nil _ _)
     ·exact absurd rfl hne
     ·cases ho;simp only[fr];obtain⟨⟨d0,-⟩,⟨d1,-⟩,⟨d2,-⟩,⟨d3,-⟩,-⟩:=fa [0,1,2,3] (by decide +kernel) hd
      simp only[fu] at d0 d1 d2 d3;try simp only[d0,d1,d2,d3]
      clear d0 d1 d2 d3;intro K hK;go_wp2;exact zk hK _ (fun _ _=>rfl)
    ·intro _ oo ho U u F hE hd hap;cases ho;simp only[fr];obtain⟨⟨d0,-⟩,⟨d1,-⟩,⟨d2,-⟩,⟨d3,-⟩,⟨d4,o4⟩,⟨d5,o5⟩,-⟩:=fa [0,1,2,3,4,5] (by decide +kernel) hd
     simp only[fu] at d0 d1 d2 d3 d4 d5;try simp only[d0,d1,d2,d3]
     obtain⟨t0,u0,t1,u1,t2,u2,t3,u3,t4,u4,t5,u5,e8,n8⟩:=d4;obtain⟨b0,cs,d9,z9,b9⟩:=d5;rw[e8] at z9;obtain rfl:cs = [.slice t0 r.Plan.Parts.length u0,.slice t1 r.Plan.Channels.length u1,.slice t2 r.Plan.Slots.length u2,.slice t3 r.Programs.length u3,.slice t4 r.Cores.length u4,.slice t5 r.Holds.length u5,.int .i64 r.Tick]:=(congrArg Array.toList (zBy z9)).symm;simp only[d9];intro K hK;refine zB9 (u:=w9) (α:=Machine) rfl _ _ 23 rfl 46 Tryz.underlying23 zDd (v:=.slice g0 s0 r0) (ys:=[r]) rfl HO.out hE lWr rfl rfl (Row.one n8 (fun j y hj=>by rw[Nat.zero_add];exact b9.cell hj)) (by simp) o4 (by simp;omega) ?_
     intro v2 w2 hO2 hg2;go_wp2;exact hK _ [] _ hg2 (fun _ h=>hO2.ext h) (Own.nil _ _)
    ·intro oo ho U u F hG hφ hap;cases ho;simp only[fr];obtain⟨⟨d0,-⟩,⟨d1,-⟩,⟨d2,-⟩,⟨d3,-⟩,⟨d4,o4⟩,⟨d5,o5⟩,⟨d6,o6⟩,⟨d7,-⟩,-⟩:=fb [0,1,2,3,4,5,6,7] (by decide +kernel) hφ
     simp only[fu] at d0 d1 d2 d3 d4 d5 d6 d7;try simp only[d0,d1,d2,d3,d7]
     clear d0 d1 d2 d3 d4 d5 d7 hap hφ;have e0:=zAd hG hc0 (by omega) (fun j hj=>by have:=hWo j hj;omega)
     have f0:u.frozen? ⟨B,0,none⟩=false:=(World.frozen?_of_block (hG.block B (by omega) (fun e=>by have:=hWo B e.symm;omega))).trans (hf0 0)
     obtain⟨p9,n9,q9,e9⟩:=d6.sh;simp only[e9] at d6 ⊢;have hCu:=HC.out.grown hG hWo ltB3;go_wp2;exact⟨⟨k+1,_,_,_,by omega,by go_num,hCu.set ⟨by omega,by omega⟩ _,zAw e0,by rw[hst.out];exact d6.set ltB3 _,HALL2.out⟩,by simp[intOf];omega⟩
   ·have hgt:decide (y.Tick+(N:Int) > 100000)=true:=decide_eq_true (by omega)
    have hgt2:decide ((100000:Int) < y.Tick+(N:Int))=true:=decide_eq_true (by omega)
    have hok:Hid (zC2 x=false):=zh (by
     cases e:zC2 x
     ·rfl
     ·have:=zD6.1 e y (List.mem_of_getElem? hx.out)
      rw[HN2.out] at this;exact absurd this hT)
    have KBx:=(HC.out.bk KB4.out (by omega) (by simp)).ext (E8.out.tr E9.out)
    clear z0 z1;obtain⟨z0,z1⟩:=Bk.k2 KBx;have zf:=KBx.fz;have ltZ:=KBx.lt;have EF:=zh (EWr.out.tr (E8.out.tr E9.out));clear KBx;go_wp2;refine bodyPost_ret (v:=.agg #[.slice none 0 0,.slice none 0 0]) (by simp[results,Tryz.results18,go_sem,z0,z1]) rfl ⟨_,rfl,by rw[zFi (.inr hok.out)];exact Ov.bz _ _,((EW.out.tr EF.out).set (by simp) _).set (by simp) _⟩
  ·obtain rfl:k=x.Boxes.length:=by omega
   have hok:zC2 x=true:=zD6.2 fun m hm=>by
    obtain⟨j,hj,rfl⟩:=List.getElem_of_mem hm;exact HALL.out j _ hj (List.getElem?_eq_getElem hj)
   have HBV:=zh (zB2.2 (zEo HV.out hok));have hl:(x.Boxes.take x.Boxes.length).map (fun m=>zBd m (zGe m))=(zEc x).Boxes:=by rw[List.take_of_length_le (Nat.le_refl _)];rfl
   rw[hl] at HO;obtain⟨r,hr⟩:∃ r,zJt (zEc x)=r:=⟨_,rfl⟩;have EQ1:=zh ((zCy HBV.out).trans hr);have EQ2:Hid (zGg x=r):=zh ((zGh HG.out hok).trans hr);obtain⟨_,BZ⟩:=HC.out.one BBw.out (by simp) hc0
   obtain⟨u0,u1⟩:=Bk.k2 BZ;have hRV:Hid (Rv wr (.agg #[.slice g0 s0 r0,.slice p1 x.Wires.length q1]) (zEc x)):=zh (Rv.mkBoard HO.out.rs (h1.out.ext EWr.out));have KB5:=zh (HC.out.bk KB4.out (by omega) (by simp))
   clear hl hr hok HALL;go_wp2_with (go_at_call 9;refine(zFf _ (zEc x) _ hRV.out).mono ?_;rintro e w6 ⟨v6,rfl,hov,he⟩;rw[EQ1.out] at hov;obtain⟨b0,n0,b1,n1,F6,rfl,hen6,how6⟩:=hov.openBd;have E6:=zh (EWr.out.tr he);have HEN6:=zh hen6;have HOW6:=zh how6;have KBx:=KB5.out.ext he;obtain⟨z0,z1⟩:=Bk.k2 KBx;have zf:=KBx.fz;have ltZ:=KBx.lt;have hsz6:=he.sz;clear hov he hen6 how6 KBx)
   have hZ:w.heap.size+1 ∉ F6:=fun hm=>by have:=(HOW6.out.2 _ hm).1;omega
   refine bodyPost_ret (v:=.agg #[.slice b0 r.Boxes.length n0,.slice b1 r.Wires.length n1]) (by simp[results,Tryz.results18,go_sem,z0,z1]) rfl ⟨_,rfl,by rw[EQ2.out];exact⟨_,_,rfl,zB3 (c:=w.heap.size+1) (o:=0) (ds:=[.slice b0 r.Boxes.length n0,.slice b1 r.Wires.length n1]) HEN6.out hZ,((HOW6.out.mono (by omega)).puts (b:=w.heap.size+1) (o:=0) [.slice b0 r.Boxes.length n0,.slice b1 r.Wires.length n1])⟩,?_⟩
   exact Ext.puts (b:=w.heap.size+1) (o:=0) (by omega) [.slice b0 r.Boxes.length n0,.slice b1 r.Wires.length n1] (EW.out.tr E6.out)
end Sk
