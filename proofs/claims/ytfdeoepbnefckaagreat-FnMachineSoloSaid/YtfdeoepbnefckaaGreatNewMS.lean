/- Contracts of functions of the given program. -/
import Derived.Test.YtfdeoepbnefckaaGreatNewM
import Derived.Test.YtfdeoepbnefckaaGreatL18M
namespace Sk
open Go Go.Proofs Go.RowKit
set_option maxHeartbeats 4000000
set_option maxRecDepth 100000
set_option linter.unusedVariables false
set_option linter.unusedSimpArgs false
theorem zFw(v vl:Value)(s:Setup)(ps:List (List Order))(w:World)(h:Rv w v s)(hl:Rs w vl ps) :
  Calls Tryz.prog 8 #[v,vl] w fun e w' => ∃ v',e = .returned v'/\Ov w.heap.size w' v' (zBp s ps)/\Ext w w':=by
 have H:=zh h;have HL:=zh hl;obtain⟨a0,c0,a1,c1,a2,c2,rfl,h0,hl0,h1,hl1,h2,hl2⟩:=h.openSetup;obtain⟨al,cl,rfl,hll⟩:=hl.form;clear h hl;go_enter Tryz.func8,Tryz.ntmps8;go_upto_region 1 with (fail)
 refine zA2 (fun W=>Ext w W/\Bk W w.heap.size [.slice a0 s.Parts.length c0,.slice a1 s.Channels.length c1,.slice a2 s.Slots.length c2] 27/\Bk W (w.heap.size+1) [.slice none 0 0,.slice none 0 0,.slice none 0 0,.slice none 0 0,.slice none 0 0,.slice none 0 0,.int .i64 0] 34) ⟨((zr _).alloc _).alloc _,(Bk.new _ _ _).ext ((zr _).alloc _),Bk.new1 _ _ _ _⟩ ?_
 rintro W ⟨e1,kA,kB⟩;have HE0:=zh e1;have ltA:=kA.lt;have ltB:=kB.lt;obtain⟨d0,d1,d2⟩:=Bk.k3 kA;have KA:=zh kA;have KB:=zh kB;clear e1 kA kB;cases g0:zAx s
 ·have g:zGz s ps=false:=Bo.f fun h=>by have:=h.set;rw[g0] at this;cases this
  go_wp2_with (go_at_call 26;refine(zAi _ s _ (H.out.ext HE0.out)).mono ?_;rintro e w1 ⟨rfl,he⟩;rw[g0];have HE1:=zh (HE0.out.tr he);have KBx:=KB.out.ext he;obtain⟨z0,z1,z2,z3,z4,z5,z6⟩:=Bk.k7 KBx;have zf:=KBx.fz;have ltZ:=KBx.lt;clear KBx;have KAx:=KA.out.ext he;have e0:=KAx.cell (j:=0) rfl;clear he KAx)
  refine bodyPost_ret (v:=.agg #[.slice none 0 0,.slice none 0 0,.slice none 0 0,.slice none 0 0,.slice none 0 0,.slice none 0 0,.int .i64 0]) (by simp[results,Tryz.results8,go_sem,z0,z1,z2,z3,z4,z5,z6]) rfl ⟨_,rfl,by rw[zBd g];exact Ov.mz _ _,(((((((HE1.out).set (by simp) _).set (by simp) _).set (by simp) _).set (by simp) _).set (by simp) _).set (by simp) _).set (by simp) _⟩
 have hp5:=zAv g0;have hc8:=zB5 g0;by_cases g1:ps.length=s.Parts.length
 rotate_left
 ·have g:zGz s ps=false:=Bo.f fun h=>g1 h.np
  have g1a:(((ps.length:Nat):Int) != ((s.Parts.length:Nat):Int))=true:=by simp;omega
  go_wp2_with (go_at_call 26;refine(zAi _ s _ (H.out.ext HE0.out)).mono ?_;rintro e w1 ⟨rfl,he⟩;rw[g0];have HE1:=zh (HE0.out.tr he);have KBx:=KB.out.ext he;obtain⟨z0,z1,z2,z3,z4,z5,z6⟩:=Bk.k7 KBx;have zf:=KBx.fz;have ltZ:=KBx.lt;clear KBx;have KAx:=KA.out.ext he;have e0:=KAx.cell (j:=0) rfl;clear he KAx)
  refine bodyPost_ret (v:=.agg #[.slice none 0 0,.slice none 0 0,.slice none 0 0,.slice none 0 0,.slice none 0 0,.slice none 0 0,.int .i64 0]) (by simp[results,Tryz.results8,go_sem,z0,z1,z2,z3,z4,z5,z6]) rfl ⟨_,rfl,by rw[zBd g];exact Ov.mz _ _,(((((((HE1.out).set (by simp) _).set (by simp) _).set (by simp) _).set (by simp) _).set (by simp) _).set (by simp) _).set (by simp) _⟩
 have g1e:(((ps.length:Nat):Int) != ((s.Parts.length:Nat):Int))=false:=by simp;omega
 replace g1:=zh g1;go_upto_region 3 with (go_at_call 26;refine(zAi _ s _ (H.out.ext HE0.out)).mono ?_;rintro e w0 ⟨rfl,he⟩;rw[g0];have E:=zh (HE0.out.tr he);replace KA:=zh (KA.out.ext he);replace KB:=zh (KB.out.ext he);have e0:=KA.out.cell (j:=0) rfl;clear he)
 replace ltA:=KA.out.lt;replace ltB:=KB.out.lt;obtain⟨f0,f1,f2⟩:=Bk.k3 KA.out;have hmk:∀ u:World,(Instr.makeSlice 32 (.int .i64 s.Channels.length) (.int .i64 s.Channels.length)).run Tryz.prog u =
   .ok (.slice (some ⟨u.heap.size,0,none⟩) s.Channels.length s.Channels.length) (u.alloc (.cells (madeCells #[.slice none 0 0] (s.Channels.length*1)) 40)):=fun u=>by
  obtain⟨i0,hi,hz0,hz1,hz2⟩:=info_parts zHa;have h:=run_make (P:=Tryz.prog) u 32 40 i0 (.agg #[.slice none 0 0]) Tryz.underlying32 hi hz0 .i64 .i64 s.Channels.length s.Channels.length (by omega) (Int.le_refl _) (by rw[hz2];omega) (by omega)
  simpa [hz1,Value.cells] using h
 have HO:∀ u:World,Os u.heap.size (u.alloc (.cells (madeCells #[.slice none 0 0] (s.Channels.length*1)) 40)) (.slice (some ⟨u.heap.size,0,none⟩) s.Channels.length s.Channels.length) (List.replicate s.Channels.length (⟨[]⟩:Hold)):=fun u=>Os.made (α:=Hold) u s.Channels.length 40 #[.slice none 0 0] ⟨[]⟩ rfl rfl (by omega)
 refine zAk rfl 8 [(19,[19]),(20,[20]),(21,[21]),(22,[22]),(23,[23]),(24,[24]),(25,[25,24]),(5,[5])]
  (fun i vs u F=>match i,vs with
   | 0,[y]=>y = .agg #[.slice a0 s.Parts.length c0,.slice a1 s.Channels.length c1,.slice a2 s.Slots.length c2]
   | 1,[y]=>y = .slice al ps.length cl
   | 2,[y]=>y = .pointer (some ⟨w.heap.size,1,none⟩)
   | 3,[y]=>y = .slice a1 s.Channels.length c1
   | 4,[y]=>y = .int .i64 s.Channels.length
   | 5,[y] => ∃ b,y = .slice (some ⟨b,0,none⟩) s.Channels.length s.Channels.length/\Sl u y (List.replicate s.Channels.length (⟨[]⟩:Hold)) F
   | 6,[y,z]=>y = .agg #[.slice a0 s.Parts.length c0,.slice a1 s.Channels.length c1,.slice a2 s.Slots.length c2,.slice al ps.length cl,.slice none 0 0,z,.int .i64 0]
   | 7,[y] => ∃ B,y = .pointer (some ⟨B,0,none⟩)/\F = [B]/\Bk u B [.slice none 0 0,.slice none 0 0,.slice none 0 0,.slice none 0 0,.slice none 0 0,.slice none 0 0,.int .i64 0] 34
   | _,_=>False) (by decide +kernel) ?_ ?_
 ·intro i hi o ho U u F hE hd hap;have g0:=(zA0 hE ltA).trans f0;have g1:=(zA0 hE ltA).trans f1;have g2:=(zA0 hE ltA).trans f2;rcases(by omega:i=0\/i=1\/i=2\/i=3\/i=4\/i=5\/i=6\/i=7) with rfl|rfl|rfl|rfl|rfl|rfl|rfl|rfl
  iterate 3 (·cases ho;simp only[fr];intro K hK;go_wp2;exact zk hK _ (fun _ _=>rfl))
  ·cases ho;simp only[fr];obtain⟨⟨d2,-⟩,-⟩:=fa [2] (by decide +kernel) hd
   simp only[fu] at d2;try simp only[d2]
   clear d2;intro K hK;go_wp2;exact zk hK _ (fun _ _=>rfl)
  ·cases ho;simp only[fr];obtain⟨⟨d2,-⟩,⟨d3,-⟩,-⟩:=fa [2,3] (by decide +kernel) hd
   simp only[fu] at d2 d3;try simp only[d2,d3]
   clear d2 d3;intro K hK;go_wp2;exact zk hK _ (fun _ _=>rfl)
  ·cases ho;simp only[fr];obtain⟨⟨d2,-⟩,⟨d3,-⟩,⟨d4,-⟩,-⟩:=fa [2,3,4] (by decide +kernel) hd
   simp only[fu] at d2 d3 d4;try simp only[d2,d3,d4]
   intro K hK;go_wp2;obtain⟨F2,s2,ow2⟩:=HO u;rw[Nat.mul_one] at s2 ow2;exact hK _ F2 _ ((zr u).alloc _) (fun _ h=>⟨_,rfl,s2.ext h⟩) ow2
  ·cases ho;simp only[fr];obtain⟨⟨d0,-⟩,⟨d1,-⟩,⟨d2,-⟩,⟨d3,-⟩,⟨d4,-⟩,⟨d5,o5⟩,-⟩:=fa [0,1,2,3,4,5] (by decide +kernel) hd
   simp only[fu] at d0 d1 d2 d3 d4 d5;try simp only[d0,d1,d2,d3,d4]
   obtain⟨b5,e5,_⟩:=d5;simp only[e5];intro K hK;go_wp2;exact zk hK _ (fun _ _=>by show Value.agg _=Value.agg #[_,_,_,_,_,U 24,_];rw[e5])
  ·cases ho;simp only[fr];intro K hK;go_wp2;have b1:=Bk.new u [.slice none 0 0,.slice none 0 0,.slice none 0 0,.slice none 0 0,.slice none 0 0,.slice none 0 0,.int .i64 0] 34;exact hK _ [u.heap.size] _ ((zr u).alloc _) (fun _ h=>⟨_,rfl,rfl,b1.ext h⟩) (b1.own (Nat.le_refl _))
 intro o ho U u F hE hφ hap;cases ho;simp only[fr];obtain⟨⟨d0,-⟩,⟨d1,-⟩,⟨d2,-⟩,⟨d3,-⟩,⟨d4,-⟩,⟨d5,o5⟩,⟨d6,-⟩,⟨d7,o7⟩,-⟩:=fb [0,1,2,3,4,5,6,7] (by decide +kernel) hφ
 simp only[fu] at d0 d1 d2 d3 d4 d5 d6 d7;try simp only[d0,d1,d2,d3,d4,d6]
 obtain⟨B,d7,k7,b7⟩:=d7;obtain⟨hb,e5,sH⟩:=d5;have aHB:=hap 5 7 (by omega) (by omega) (by omega)
 generalize F 5=FH at *
 rw[k7] at o7 aHB;rw[e5] at sH d6;clear k7 hap hφ;simp only[d7,d6];obtain⟨b60,b61,b62,b63,b64,b65,b66⟩:=Bk.k7 b7;have b6f:=b7.fz;have lB:w0.heap.size<=B:=(o7.2 B (by simp)).1
 have ltB2:=b7.lt;have nH:B ∉ FH:=aHB.one;go_upto_region 4 with (fail)
 refine zA2 (fun W=>Ext w W/\B < W.heap.size/\w0.heap.size<=W.heap.size/\Bk W B [.slice a0 s.Parts.length c0,.slice a1 s.Channels.length c1,.slice a2 s.Slots.length c2,.slice al ps.length cl,.slice none 0 0,.slice (some ⟨hb,0,none⟩) s.Channels.length s.Channels.length,.int .i64 0] 34/\Sl W (.slice (some ⟨hb,0,none⟩) s.Channels.length s.Channels.length) (List.replicate s.Channels.length (⟨[]⟩:Hold)) FH/\Bk W w.heap.size [.slice a0 s.Parts.length c0,.slice a1 s.Channels.length c1,.slice a2 s.Slots.length c2] 27/\Bk W (w.heap.size+1) [.slice none 0 0,.slice none 0 0,.slice none 0 0,.slice none 0 0,.slice none 0 0,.slice none 0 0,.int .i64 0] 34) ?_ ?_
 ·exact⟨(((((((E.out.tr hE).set (by show _<=B;have:=E.out.sz;omega) _).set (by show _<=B;have:=E.out.sz;omega) _).set (by show _<=B;have:=E.out.sz;omega) _).set (by show _<=B;have:=E.out.sz;omega) _).set (by show _<=B;have:=E.out.sz;omega) _).set (by show _<=B;have:=E.out.sz;omega) _).set (by show _<=B;have:=E.out.sz;omega) _,by simpa using ltB2,by simp;omega,b7.puts [.slice a0 s.Parts.length c0,.slice a1 s.Channels.length c1,.slice a2 s.Slots.length c2,.slice al ps.length cl,.slice none 0 0,.slice (some ⟨hb,0,none⟩) s.Channels.length s.Channels.length,.int .i64 0] rfl,Sl.puts (c:=B) (o:=0) (ds:=[.slice a0 s.Parts.length c0,.slice a1 s.Channels.length c1,.slice a2 s.Slots.length c2,.slice al ps.length cl,.slice none 0 0,.slice (some ⟨hb,0,none⟩) s.Channels.length s.Channels.length,.int .i64 0]) sH nH,Bk.puts_ne (c:=B) (o:=0) (ds:=[.slice a0 s.Parts.length c0,.slice a1 s.Channels.length c1,.slice a2 s.Slots.length c2,.slice al ps.length cl,.slice none 0 0,.slice (some ⟨hb,0,none⟩) s.Channels.length s.Channels.length,.int .i64 0]) (KA.out.ext hE) (by omega),Bk.puts_ne (c:=B) (o:=0) (ds:=[.slice a0 s.Parts.length c0,.slice a1 s.Channels.length c1,.slice a2 s.Slots.length c2,.slice al ps.length cl,.slice none 0 0,.slice (some ⟨hb,0,none⟩) s.Channels.length s.Channels.length,.int .i64 0]) (KB.out.ext hE) (by omega)⟩
 rintro W3 ⟨E3,lt3,lW3,BB3,SH3,KA3,KB3⟩;replace BB3:=zh BB3;replace KB3:=zh KB3;replace SH3:=zh SH3;replace E3:=zh E3;obtain⟨q0,q1,q2⟩:=Bk.k3 KA3;have ltA3:=KA3.lt;replace KA3:=zh KA3;clear hE b7 o7 aHB f0 f1 f2 KA KB E b60 b61 b62 b63 b64 b65 b66 b6f sH e5 d0 d1 d2 d3 d4 d6 d7 o5 ltB2 HE0 hmk HO;go_wp2;go_loopw [6] (fun i wr => ∃ (k:Nat) (g:Option Addr) (s4 r4:Nat),k<=s.Parts.length/\i = .int .i64 k/\Chg B 4 1 [] W3 wr/\wr.cell? ⟨B,4,none⟩=some (.slice g s4 r4)/\Oo 43 W3.heap.size wr (.slice g s4 r4) ((s.Parts.take k).map fun p=>zAf p.Cells)) (fun i _=>s.Parts.length - (intOf i).toNat)
 case atStart=>exact⟨0,_,_,_,Nat.zero_le _,rfl,Chg.refl _ _ _ _ _,BB3.out.cell (j:=4) rfl,Oo.nil _ _ _⟩
 case round =>
  obtain⟨k,g,s4,r4,hk,rfl,hch,hc0,ho⟩:=hrel;have lWr:W3.heap.size<=wr.heap.size:=hch.sz;have EWr:=hch.ext E3.out (by omega) (by simp)
  have KAr:=hch.bk KA3.out (by omega) (by simp)
  have a10:=KAr.cell (j:=0) rfl;have ltA2:=KAr.lt;have hf0:Fz wr B:=hch.fzk B ⟨_,_,BB3.out⟩;by_cases hkt:k < s.Parts.length
  ·obtain⟨b,o,x,wa,wc,rfl,hb2,hx,hp0,hp1,hr1,hs0,hl0,hv⟩:=h0.out.atPart k hkt;have hp0':=(zA0 EWr hb2).trans hp0;have hp1':=(zA0 EWr hb2).trans hp1;go_upto_region 7 with (fail)
   obtain⟨W2,hW2⟩:∃ W2,wr=W2:=⟨_,rfl⟩;have EX:Ext wr W2:=hW2 ▸ zr wr;rw[hW2];have HC:=zh (hch.tr (Chg.ofExt EX (by omega)))
   have HO:=zh (ho.ext EX);have c4:=(zA0 EX (by omega:B < wr.heap.size)).trans hc0
   have EW:=zh (EWr.tr EX);have KA2:=KAr.ext EX;have n0:=KA2.cell (j:=0) rfl;have ltA4:=KA2.lt;have hf2:=hf0.ext EX;have lW2:W3.heap.size<=W2.heap.size:=Nat.le_trans lWr EX.sz;clear hch ho hc0 EWr KAr a10 ltA2 hf0 hp0' hp1' KA2;obtain⟨kc,hcc⟩:∃ kc,zAf x.Cells=kc:=⟨_,rfl⟩;have hr0:rng kc.At:=by
    rw[<- hcc];unfold zAf;split<;>exact⟨by show(-9223372036854775808:Int)<=0;decide,by show(0:Int)<=9223372036854775807;decide⟩
   have hst:(s.Parts.take (k+1)).map (fun p=>zAf p.Cells)=(s.Parts.take k).map (fun p=>zAf p.Cells) ++ [kc]:=by
    rw[zAd hx.out,List.map_append];simp[hcc]
   have hWo:∀ j,(Value.slice g s4 r4).ownBlock=some j->W3.heap.size<=j:=HO.out.own;refine zAm rfl 12 [(33,[33]),(34,[34]),(35,[35]),(36,[36]),(37,[37]),(38,[38]),(39,[39]),(40,[40]),(41,[41]),(42,[42,41]),(43,[43]),(44,[44])]
    (fun i vs u F=>match i,vs with
     | 0,[y]=>y = .pointer (some ⟨B,4,none⟩)
     | 1,[y]=>y = .slice g s4 r4
     | 2,[y]=>y = .pointer (some ⟨w.heap.size,0,none⟩)
     | 3,[y]=>y = .slice (some ⟨b,o,none⟩) s.Parts.length c0
     | 4,[y]=>y = .int .i64 k
     | 5,[y]=>y = .pointer (some ⟨b,o+k*2,none⟩)
     | 6,[y]=>y = .pointer (some ⟨b,o+k*2+1,none⟩)
     | 7,[y]=>y = .int .i64 x.Cells
     | 8,[y] => ∃ p q,y = .agg #[.slice p kc.Cells.length q,.int .i64 kc.At,.bool kc.Stopped]/\Sl u (.slice p kc.Cells.length q) kc.Cells F
     | 9,[y,z] => ∃ b0 cs,y = .slice (some ⟨b0,0,none⟩) 1 1/\z = .agg cs.toArray/\Bk u b0 cs 43
     | 10,[y]=>Oo 43 W3.heap.size u y ((s.Parts.take k).map (fun p=>zAf p.Cells) ++ [kc])
     | 11,[y]=>y = .pointer (some ⟨B,4,none⟩)
     | _,_=>False) 10 (Value.slice g s4 r4).ownBlock HO.out.lt (by decide +kernel) ?_ ?_ ?_
   ·intro i hi hne oo ho U u F hG hd hap;have hE:=Ext.grown EW.out hG (fun j hj=>by have:=hWo j hj;omega)
    have e0:=zAe hG c4 (by omega) (fun j hj=>by have:=hWo j hj;omega)
    have e1:=zAe hG n0 (by omega) (fun j hj=>by have:=hWo j hj;omega)
    have e2:=(zA0 hE hb2).trans hp0;have e3:=(zA0 hE hb2).trans hp1;rcases(by omega:i=0\/i=1\/i=2\/i=3\/i=4\/i=5\/i=6\/i=7\/i=8\/i=9\/i=10\/i=11) with rfl|rfl|rfl|rfl|rfl|rfl|rfl|rfl|rfl|rfl|rfl|rfl
    ·cases ho;simp only[fr];intro K hK;go_wp2;exact zk hK _ (fun _ _=>rfl)
    ·cases ho;simp only[fr];obtain⟨⟨d0,-⟩,-⟩:=fa [0] (by decide +kernel) hd
     simp only[fu] at d0;try simp only[d0]
     clear d0;intro K hK;go_wp2;exact zk hK _ (fun _ _=>rfl)
    ·cases ho;simp only[fr];intro K hK;go_wp2;exact zk hK _ (fun _ _=>rfl)
    ·cases ho;simp only[fr];obtain⟨⟨d2,-⟩,-⟩:=fa [2] (by decide +kernel) hd
     simp only[fu] at d2;try simp only[d2]
     clear d2;intro K hK;go_wp2;exact zk hK _ (fun _ _=>rfl)
    ·cases ho;simp only[fr];intro K hK;go_wp2;exact zk hK _ (fun _ _=>rfl)
    ·cases ho;simp only[fr];obtain⟨⟨d2,-⟩,⟨d3,-⟩,⟨d4,-⟩,-⟩:=fa [2,3,4] (by decide +kernel) hd
     simp only[fu] at d2 d3 d4;try simp only[d2,d3,d4]
     clear d2 d3 d4;intro K hK;go_wp2;exact zk hK _ (fun _ _=>rfl)
    ·cases ho;simp only[fr];obtain⟨⟨d2,-⟩,⟨d3,-⟩,⟨d4,-⟩,⟨d5,-⟩,-⟩:=fa [2,3,4,5] (by decide +kernel) hd
     simp only[fu] at d2 d3 d4 d5;try simp only[d2,d3,d4,d5]
     clear d2 d3 d4 d5;intro K hK;go_wp2;exact zk hK _ (fun _ _=>rfl)
    ·cases ho;simp only[fr];obtain⟨⟨d2,-⟩,⟨d3,-⟩,⟨d4,-⟩,⟨d5,-⟩,⟨d6,-⟩,-⟩:=fa [2,3,4,5,6] (by decide +kernel) hd
     simp only[fu] at d2 d3 d4 d5 d6;try simp only[d2,d3,d4,d5,d6]
     clear d2 d3 d4 d5 d6;intro K hK;go_wp2;exact zk hK _ (fun _ _=>rfl)
    ·cases ho;simp only[fr];obtain⟨⟨d2,-⟩,⟨d3,-⟩,⟨d4,-⟩,⟨d5,-⟩,⟨d6,-⟩,⟨d7,-⟩,-⟩:=fa [2,3,4,5,6,7] (by decide +kernel) hd
     simp only[fu] at d2 d3 d4 d5 d6 d7;try simp only[d2,d3,d4,d5,d6,d7]
     intro K hK;go_wp2_with (go_at_call 27;refine(zHg x.Cells _).mono ?_;rintro e w' ⟨v',rfl,hov,ex1⟩;rw[hcc] at hov;obtain⟨cs,F',rfl,⟨v0,rfl,s1,_⟩,ow1⟩:=hov;obtain⟨p9,q9,rfl,_⟩:=id s1)
     exact hK _ F' _ ex1 (fun _ h=>⟨_,_,rfl,s1.grown h fun j hj e=>by have:=(ow1.2 j hj).1;have:=HO.out.lt j e;have:=hG.size;omega⟩) ow1
    ·cases ho;simp only[fr];obtain⟨⟨d2,-⟩,⟨d3,-⟩,⟨d4,-⟩,⟨d5,-⟩,⟨d6,-⟩,⟨d7,-⟩,⟨d8,o8⟩,-⟩:=fa [2,3,4,5,6,7,8] (by decide +kernel) hd
     simp only[fu] at d2 d3 d4 d5 d6 d7 d8;try simp only[d2,d3,d4,d5,d6,d7]
     obtain⟨p,q,e9,_⟩:=d8;simp only[e9];intro K hK;go_wp2;have b1:=Bk.new u [.slice p kc.Cells.length q,.int .i64 kc.At,.bool kc.Stopped] 43;exact hK _ [] _ ((zr u).alloc _) (fun _ h=>⟨_,_,rfl,e9,b1.grown h fun e=>by have:=HO.out.lt _ e;have:=hG.size;omega⟩) (Own.nil _ _)
    ·exact absurd rfl hne
    ·cases ho;simp only[fr];obtain⟨⟨d0,-⟩,⟨d1,-⟩,⟨d2,-⟩,⟨d3,-⟩,⟨d4,-⟩,⟨d5,-⟩,⟨d6,-⟩,⟨d7,-⟩,-⟩:=fa [0,1,2,3,4,5,6,7] (by decide +kernel) hd
     simp only[fu] at d0 d1 d2 d3 d4 d5 d6 d7;try simp only[d0,d1,d2,d3,d4,d5,d6,d7]
     clear d0 d1 d2 d3 d4 d5 d6 d7;intro K hK;go_wp2;exact zk hK _ (fun _ _=>rfl)
   ·intro _ oo ho U u F hE hd hap;cases ho;simp only[fr];obtain⟨⟨d0,-⟩,⟨d1,-⟩,⟨d2,-⟩,⟨d3,-⟩,⟨d4,-⟩,⟨d5,-⟩,⟨d6,-⟩,⟨d7,-⟩,⟨d8,o8⟩,⟨d9,o9⟩,-⟩:=fa [0,1,2,3,4,5,6,7,8,9] (by decide +kernel) hd
    simp only[fu] at d0 d1 d2 d3 d4 d5 d6 d7 d8 d9;try simp only[d0,d1,d2,d3,d4,d5,d6,d7]
    obtain⟨b0,cs,d9,z9,b9⟩:=d9;obtain⟨p,q,e9,s9⟩:=d8;rw[e9] at z9;obtain rfl:cs = [.slice p kc.Cells.length q,.int .i64 kc.At,.bool kc.Stopped]:=(congrArg Array.toList (zDl z9)).symm;simp only[d9];intro K hK;refine zBi (u:=W2) (α:=Core) rfl _ _ 31 rfl 43 Tryz.underlying31 zIb (v:=.slice g s4 r4) (ys:=[kc]) rfl HO.out hE lW2 rfl rfl (Row.one ⟨_,rfl,s9,hr0⟩ (fun j y hj=>by rw[Nat.zero_add];exact b9.cell hj)) (by simp) o8 (by simp;omega) ?_
    intro v2 w2 hO2 hg2;go_wp2;exact hK _ [] _ hg2 (fun _ h=>hO2.ext h) (Own.nil _ _)
   ·intro oo ho U u F hG hφ hap;cases ho;simp only[fr];obtain⟨⟨d0,-⟩,⟨d1,-⟩,⟨d2,-⟩,⟨d3,-⟩,⟨d4,-⟩,⟨d5,-⟩,⟨d6,-⟩,⟨d7,-⟩,⟨d8,o8⟩,⟨d9,o9⟩,⟨d10,o10⟩,⟨d11,-⟩,-⟩:=fb [0,1,2,3,4,5,6,7,8,9,10,11] (by decide +kernel) hφ
    simp only[fu] at d0 d1 d2 d3 d4 d5 d6 d7 d8 d9 d10 d11;try simp only[d0,d1,d2,d3,d4,d5,d6,d7,d11]
    clear d0 d1 d2 d3 d4 d5 d6 d7 d8 d9 d11 hap hφ;have e0:=zAe hG c4 (by omega) (fun j hj=>by have:=hWo j hj;omega)
    have f0:u.frozen? ⟨B,4,none⟩=false:=(World.frozen?_of_block (hG.block B (by omega) (fun e=>by have:=hWo B e.symm;omega))).trans (by obtain⟨_,_,hz⟩:=hf2;exact hz.fz 4)
    obtain⟨p9,n9,q9,e9⟩:=d10.sh;simp only[e9] at d10 ⊢;have hCu:=HC.out.grown hG hWo lt3;go_wp2;go_roundw
    case rel=>exact⟨k+1,_,_,_,by omega,by go_num,hCu.set ⟨by omega,by omega⟩ _,zAu e0,by rw[hst];exact d10.set lt3 _⟩
    case measure=>simp[intOf];omega
  ·obtain rfl:k=s.Parts.length:=by omega
   rw[List.take_of_length_le (Nat.le_refl _)] at ho;have HC:=zh hch;obtain⟨T8,BZ⟩:=hch.one BB3.out (by simp) hc0
   have SHx:=zh (hch.sl SH3.out nH (fun _ _ h=>by cases h))
   have KBr:=zh (hch.bk KB3.out (by omega) (by simp))
   have EX:=zh EWr;obtain⟨y0,y1,y2,y3,y4,y5,y6⟩:=Bk.k7 BZ;have ltBz:=BZ.lt;have RV:Hid (Rv wr (.agg #[.slice a0 s.Parts.length c0,.slice a1 s.Channels.length c1,.slice a2 s.Slots.length c2,.slice al ps.length cl,.slice g s4 r4,.slice (some ⟨hb,0,none⟩) s.Channels.length s.Channels.length,.int .i64 0]) (zAl s ps)):=zh (Rv.mkMachine (x:=zAl s ps) (h0.out.ext EWr) (h1.out.ext EWr) (h2.out.ext EWr) (HL.out.ext EWr) ho.rs ⟨_,SHx.out⟩ ⟨by show(-9223372036854775808:Int)<=0;decide,by show(0:Int)<=9223372036854775807;decide⟩)
   clear hch hc0 KAr hf0 EWr;cases g:zGz s ps
   ·have gg:=g;go_wp2_with (go_at_call 28;refine(zCi _ (zAl s ps) _ RV.out).mono ?_;rintro e w4 ⟨rfl,he⟩;rw[zI7,gg];replace RV:=zh (RV.out.ext he);replace EX:=zh (EX.out.tr he);replace KBr:=zh (KBr.out.ext he);have hw4:=he.sz;have BZ4:=BZ.ext he;obtain⟨y0,y1,y2,y3,y4,y5,y6⟩:=Bk.k7 BZ4;have ltBz4:=BZ4.lt;have KBx:=KBr.out;obtain⟨z0,z1,z2,z3,z4,z5,z6⟩:=Bk.k7 KBx;have zf:=KBx.fz;have ltZ:=KBx.lt;clear KBx;have HX1:=EX;clear he BZ4)
    refine bodyPost_ret (v:=.agg #[.slice none 0 0,.slice none 0 0,.slice none 0 0,.slice none 0 0,.slice none 0 0,.slice none 0 0,.int .i64 0]) (by simp[results,Tryz.results8,go_sem,z0,z1,z2,z3,z4,z5,z6]) rfl ⟨_,rfl,by rw[zBd g];exact Ov.mz _ _,(((((((EX.out).set (by simp) _).set (by simp) _).set (by simp) _).set (by simp) _).set (by simp) _).set (by simp) _).set (by simp) _⟩
   ·have gg:=g;have hpg:=zC4.1 g
    go_wp2_with (first
     | (go_at_call 28;refine(zCi _ (zAl s ps) _ RV.out).mono ?_;rintro e w4 ⟨rfl,he⟩;rw[zI7,gg];replace RV:=zh (RV.out.ext he);replace EX:=zh (EX.out.tr he);replace KBr:=zh (KBr.out.ext he);have hw4:=he.sz;have BZ4:=BZ.ext he;obtain⟨y0,y1,y2,y3,y4,y5,y6⟩:=Bk.k7 BZ4;have ltBz4:=BZ4.lt;  have HX1:=EX;clear he BZ4)
     | (go_at_call 29;refine(zHh _ (zAl s ps) _ RV.out (Nat.le_trans (zGm (zFc hpg)) (by omega))).mono ?_;rintro e w5 ⟨v5,rfl,hov,ex⟩;obtain⟨cs5,F5,rfl,hen,how⟩:=hov;obtain⟨v0,v1,v2,v3,v4,v5,G0,G1,G2,G3,G4,G5,rfl,⟨t0,u0,rfl,_⟩,⟨t1,u1,rfl,_⟩,⟨t2,u2,rfl,_⟩,⟨t3,u3,rfl,_⟩,⟨t4,u4,rfl,_⟩,⟨t5,u5,rfl,_⟩,_,_⟩:=id hen;have HEN:=zh hen;have HOW:=zh how;have EY:=zh (EX.out.tr ex);have KBx:=KBr.out.ext ex;obtain⟨z0,z1,z2,z3,z4,z5,z6⟩:=Bk.k7 KBx;have zf:=KBx.fz;have ltZ:=KBx.lt;clear hen how ex KBx))
    have hZ:w.heap.size+1 ∉ F5:=fun hm=>by have:=(HOW.out.2 _ hm).1;omega
    refine bodyPost_ret (v:=.agg #[.slice t0 (zAl s ps).Plan.Parts.length u0,.slice t1 (zAl s ps).Plan.Channels.length u1,.slice t2 (zAl s ps).Plan.Slots.length u2,.slice t3 (zAl s ps).Programs.length u3,.slice t4 (zAl s ps).Cores.length u4,.slice t5 (zAl s ps).Holds.length u5,.int .i64 (zAl s ps).Tick]) (by simp[results,Tryz.results8,go_sem,z0,z1,z2,z3,z4,z5,z6]) rfl ⟨_,rfl,by rw[zCa (zC4.2 hpg)];exact⟨_,_,rfl,zD2 (c:=w.heap.size+1) (o:=0) (ds:=[.slice t0 (zAl s ps).Plan.Parts.length u0,.slice t1 (zAl s ps).Plan.Channels.length u1,.slice t2 (zAl s ps).Plan.Slots.length u2,.slice t3 (zAl s ps).Programs.length u3,.slice t4 (zAl s ps).Cores.length u4,.slice t5 (zAl s ps).Holds.length u5,.int .i64 (zAl s ps).Tick]) HEN.out hZ,((HOW.out.mono (by omega)).put (b:=w.heap.size+1) (o:=0) (cs:=[.slice t0 (zAl s ps).Plan.Parts.length u0,.slice t1 (zAl s ps).Plan.Channels.length u1,.slice t2 (zAl s ps).Plan.Slots.length u2,.slice t3 (zAl s ps).Programs.length u3,.slice t4 (zAl s ps).Cores.length u4,.slice t5 (zAl s ps).Holds.length u5,.int .i64 (zAl s ps).Tick]))⟩,?_⟩
    exact(((((((EY.out).set (by simp) _).set (by simp) _).set (by simp) _).set (by simp) _).set (by simp) _).set (by simp) _).set (by simp) _
end Sk
