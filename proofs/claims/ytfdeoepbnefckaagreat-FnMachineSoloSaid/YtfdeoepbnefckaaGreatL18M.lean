/- Contracts of functions of the given program. -/
import Derived.Test.YtfdeoepbnefckaaGreatHold
namespace Sk
open Go Go.Proofs Go.RowKit
set_option maxHeartbeats 4000000
set_option maxRecDepth 100000
set_option linter.unusedVariables false
set_option linter.unusedSimpArgs false
theorem zGr(v:Value)(m:Machine)(w:World)(h:Rv w v m)(hn:GT.tot m<=1048576) :
  Calls Tryz.prog 29 #[v] w fun e w' => ∃ v',e = .returned v'/\Ov w.heap.size w' v' m/\Ext w w'/\SpH 40 w.heap.size w' v':=by
 have ht:GT.tot m=GT.tot m.Plan+GT.tot m.Programs+GT.tot m.Cores+GT.tot m.Holds+GT.tot m.Tick:=rfl;obtain⟨a0,c0,a1,c1,a2,c2,a3,c3,a4,c4,a5,c5,rfl,rt,h0,l0,h1,l1,h2,l2,h3,l3,h4,l4,h5,l5⟩:=h.openMachine;clear h;have hw3:m.Programs.length<=1048576:=Nat.le_trans zB0 (by omega)
 have hw4:m.Cores.length<=1048576:=Nat.le_trans zB0 (by omega)
 have hw5:m.Holds.length<=1048576:=Nat.le_trans zB0 (by omega)
 have hts:GT.tot m.Plan<=1048576:=by omega
 have ht3:GT.tot m.Programs<=1048576:=by omega
 have ht4:GT.tot m.Cores<=1048576:=by omega
 have ht5:GT.tot m.Holds<=1048576:=by omega
 clear ht hn;go_enter Tryz.func29,Tryz.ntmps29;go_upto_region 1 with (fail)
 refine zA2 (fun W=>Ext w W/\Bk W w.heap.size [.slice a0 m.Plan.Parts.length c0,.slice a1 m.Plan.Channels.length c1,.slice a2 m.Plan.Slots.length c2,.slice a3 m.Programs.length c3,.slice a4 m.Cores.length c4,.slice a5 m.Holds.length c5,.int .i64 m.Tick] 34/\Bk W (w.heap.size+1) [.slice none 0 0,.slice none 0 0,.slice none 0 0,.slice none 0 0,.slice none 0 0,.slice none 0 0,.int .i64 0] 34) ⟨((zr _).alloc _).alloc _,(Bk.new _ _ _).ext ((zr _).alloc _),Bk.new1 _ _ _ _⟩ ?_
 rintro w0 ⟨E,KA,KB⟩;have ltA:=KA.lt;have ltB:=KB.lt;replace E:=zh E;replace KA:=zh KA;replace KB:=zh KB;obtain⟨f0,f1,f2⟩:=Bk.k3 KA.out;have f6:=KA.out.cell (j:=6) rfl;refine zAk rfl 7 [(7,[7]),(8,[8]),(9,[9]),(10,[10]),(11,[11]),(12,[12,9]),(3,[3])]
  (fun i vs u F=>match i,vs with
   | 0,[y]=>y = .pointer (some ⟨w.heap.size,0,none⟩)
   | 1,[y]=>y = .agg #[.slice a0 m.Plan.Parts.length c0,.slice a1 m.Plan.Channels.length c1,.slice a2 m.Plan.Slots.length c2]
   | 2,[y] => ∃ p0 q0 p1 q1 p2 q2,y = .agg #[.slice p0 m.Plan.Parts.length q0,.slice p1 m.Plan.Channels.length q1,.slice p2 m.Plan.Slots.length q2]/\GT.enc u [.slice p0 m.Plan.Parts.length q0,.slice p1 m.Plan.Channels.length q1,.slice p2 m.Plan.Slots.length q2] m.Plan F
   | 3,[y]=>y = .pointer (some ⟨w.heap.size,6,none⟩)
   | 4,[y]=>y = .int .i64 m.Tick
   | 5,[y,z] => ∃ s0 s1 s2,z = .agg #[s0,s1,s2]/\y = .agg #[s0,s1,s2,.slice none 0 0,.slice none 0 0,.slice none 0 0,.int .i64 m.Tick]
   | 6,[y] => ∃ B,y = .pointer (some ⟨B,0,none⟩)/\F = [B]/\Bk u B [.slice none 0 0,.slice none 0 0,.slice none 0 0,.slice none 0 0,.slice none 0 0,.slice none 0 0,.int .i64 0] 34
   | _,_=>False) (by decide +kernel) ?_ ?_
 ·intro i hi o ho U u F hE hd hap;have g0:=(zA0 hE ltA).trans f0;have g1:=(zA0 hE ltA).trans f1;have g2:=(zA0 hE ltA).trans f2;have g6:=(zA0 hE ltA).trans f6;rcases(by omega:i=0\/i=1\/i=2\/i=3\/i=4\/i=5\/i=6) with rfl|rfl|rfl|rfl|rfl|rfl|rfl
  ·cases ho;simp only[fr];intro K hK;go_wp2;exact zk hK _ (fun _ _=>rfl)
  ·cases ho;simp only[fr];obtain⟨⟨d0,-⟩,-⟩:=fa [0] (by decide +kernel) hd
   simp only[fu] at d0;try simp only[d0]
   clear d0;intro K hK;go_wp2;exact zk hK _ (fun _ _=>rfl)
  ·cases ho;simp only[fr];obtain⟨⟨d0,-⟩,⟨d1,-⟩,-⟩:=fa [0,1] (by decide +kernel) hd
   simp only[fu] at d0 d1;try simp only[d0,d1]
   intro K hK;go_wp2_with (go_at_call 64;refine(zGs _ m.Plan _ (Rv.mkSetup (h0.out.ext (E.out.tr hE)) (h1.out.ext (E.out.tr hE)) (h2.out.ext (E.out.tr hE))) hts).mono ?_;rintro e w' ⟨v',rfl,hov,ex1⟩;obtain⟨cs,F',rfl,hen,how⟩:=hov;obtain⟨v0,v1,v2,F0,F1,F2,rfl,⟨r0,t0,rfl,_⟩,⟨r1,t1,rfl,_⟩,⟨r2,t2,rfl,_⟩,hFF⟩:=id hen)
   exact hK _ F' _ ex1 (fun _ h=>⟨_,_,_,_,_,_,rfl,GT.ext hen h⟩) how
  ·cases ho;simp only[fr];intro K hK;go_wp2;exact zk hK _ (fun _ _=>rfl)
  ·cases ho;simp only[fr];obtain⟨⟨d3,-⟩,-⟩:=fa [3] (by decide +kernel) hd
   simp only[fu] at d3;try simp only[d3]
   clear d3;intro K hK;go_wp2;exact zk hK _ (fun _ _=>rfl)
  ·cases ho;simp only[fr];obtain⟨⟨d0,-⟩,⟨d1,-⟩,⟨d2,o2⟩,⟨d3,-⟩,⟨d4,-⟩,-⟩:=fa [0,1,2,3,4] (by decide +kernel) hd
   simp only[fu] at d0 d1 d2 d3 d4;try simp only[d0,d1,d3,d4]
   obtain⟨p0,q0,p1,q1,p2,q2,e2,_⟩:=d2;simp only[e2];intro K hK;go_wp2;exact zk hK _ (fun _ _=>⟨_,_,_,e2,rfl⟩)
  ·cases ho;simp only[fr];intro K hK;go_wp2;have b1:=Bk.new u [.slice none 0 0,.slice none 0 0,.slice none 0 0,.slice none 0 0,.slice none 0 0,.slice none 0 0,.int .i64 0] 34;exact hK _ [u.heap.size] _ ((zr u).alloc _) (fun _ h=>⟨_,rfl,rfl,b1.ext h⟩) (b1.own (Nat.le_refl _))
 ·intro o ho U u F hE hφ hap;cases ho;simp only[fr];obtain⟨⟨d0,-⟩,⟨d1,-⟩,⟨d2,o2⟩,⟨d3,-⟩,⟨d4,-⟩,⟨d5,o5⟩,⟨d6,o6⟩,-⟩:=fb [0,1,2,3,4,5,6] (by decide +kernel) hφ
  simp only[fu] at d0 d1 d2 d3 d4 d5 d6;try simp only[d0,d1,d3,d4]
  obtain⟨B,d6,k6,b6⟩:=d6;obtain⟨p0,q0,p1,q1,p2,q2,e2,n2⟩:=d2;obtain⟨s0,s1,s2,z5,y5⟩:=d5;rw[e2] at z5;have z6:=congrArg Array.toList (zDl z5);simp only[List.cons.injEq] at z6;obtain⟨rfl,rfl,rfl,_⟩:=z6;have a26:=hap 2 6 (by omega) (by omega) (by omega)
  generalize F 2=FP at *
  rw[k6] at o6 a26;clear k6 hap hφ z5 e2;simp only[d6,y5];obtain⟨b60,b61,b62,b63,b64,b65,b66⟩:=Bk.k7 b6;have b6f:=b6.fz;have lB:w0.heap.size<=B:=(o6.2 B (by simp)).1
  have ltB2:=b6.lt;have nB:B ∉ FP:=a26.one;go_wp2;refine zA2 (fun W=>Ext w W/\B < W.heap.size/\w0.heap.size<=W.heap.size/\(∃ T,Bk W B [.slice p0 m.Plan.Parts.length q0,.slice p1 m.Plan.Channels.length q1,.slice p2 m.Plan.Slots.length q2,.slice none 0 0,.slice none 0 0,.slice none 0 0,.int .i64 m.Tick] T)/\GT.enc W [.slice p0 m.Plan.Parts.length q0,.slice p1 m.Plan.Channels.length q1,.slice p2 m.Plan.Slots.length q2] m.Plan FP/\Own w0.heap.size W (FP)/\(∃ T,Bk W w.heap.size [.slice a0 m.Plan.Parts.length c0,.slice a1 m.Plan.Channels.length c1,.slice a2 m.Plan.Slots.length c2,.slice a3 m.Programs.length c3,.slice a4 m.Cores.length c4,.slice a5 m.Holds.length c5,.int .i64 m.Tick] T)/\(∃ T,Bk W (w.heap.size+1) [.slice none 0 0,.slice none 0 0,.slice none 0 0,.slice none 0 0,.slice none 0 0,.slice none 0 0,.int .i64 0] T)) ?_ ?_
  ·exact⟨(((((((E.out.tr hE).set (by show _<=B;omega) _).set (by show _<=B;omega) _).set (by show _<=B;omega) _).set (by show _<=B;omega) _).set (by show _<=B;omega) _).set (by show _<=B;omega) _).set (by show _<=B;omega) _,by simpa using ltB2,by simp;omega,⟨_,b6.puts [.slice p0 m.Plan.Parts.length q0,.slice p1 m.Plan.Channels.length q1,.slice p2 m.Plan.Slots.length q2,.slice none 0 0,.slice none 0 0,.slice none 0 0,.int .i64 m.Tick] rfl⟩,zD2 (c:=B) (o:=0) (ds:=[.slice p0 m.Plan.Parts.length q0,.slice p1 m.Plan.Channels.length q1,.slice p2 m.Plan.Slots.length q2,.slice none 0 0,.slice none 0 0,.slice none 0 0,.int .i64 m.Tick]) n2 nB,(((((((o2).set _ _).set _ _).set _ _).set _ _).set _ _).set _ _).set _ _,⟨_,Bk.puts_ne (c:=B) (o:=0) (ds:=[.slice p0 m.Plan.Parts.length q0,.slice p1 m.Plan.Channels.length q1,.slice p2 m.Plan.Slots.length q2,.slice none 0 0,.slice none 0 0,.slice none 0 0,.int .i64 m.Tick]) (KA.out.ext hE) (by omega)⟩,⟨_,Bk.puts_ne (c:=B) (o:=0) (ds:=[.slice p0 m.Plan.Parts.length q0,.slice p1 m.Plan.Channels.length q1,.slice p2 m.Plan.Slots.length q2,.slice none 0 0,.slice none 0 0,.slice none 0 0,.int .i64 m.Tick]) (KB.out.ext hE) (by omega)⟩⟩
  rintro W3 ⟨E3,lt3,lW3,⟨_,BB3⟩,NP3,OW3,⟨_,KA3⟩,⟨_,KB3⟩⟩;replace BB3:=zh BB3;replace KA3:=zh KA3;replace KB3:=zh KB3;replace NP3:=zh NP3;replace OW3:=zh OW3;replace E3:=zh E3;clear hE b6 o2 o6 a26 f0 f1 f2 f6 KA KB E b60 b61 b62 b63 b64 b65 b66 b6f n2 d0 d1 d3 d4 y5 ltB2;go_wp2;go_loopw [4] (fun i wr => ∃ (k:Nat) (g3:Option Addr) (s3 r3:Nat),k<=m.Programs.length/\i = .int .i64 k/\Chg B 3 1 [] W3 wr/\wr.cell? ⟨B,3,none⟩=some (.slice g3 s3 r3)/\Oo 52 W3.heap.size wr (.slice g3 s3 r3) (m.Programs.take k)) (fun i _=>m.Programs.length - (intOf i).toNat)
  case atStart=>exact⟨0,_,_,_,Nat.zero_le _,rfl,Chg.refl _ _ _ _ _,BB3.out.cell (j:=3) rfl,Oo.nil _ _ _⟩
  case round =>
   obtain⟨k,g3,s3,r3,hk,rfl,hch,hc0,ho⟩:=hrel;have HC:=zh hch;have HO:=zh ho;clear hch ho;have BA:=HC.out.bk KA3.out (by omega) (by simp)
   have lWr:W3.heap.size<=wr.heap.size:=HC.out.sz;have EW:=zh (HC.out.ext E3.out (by omega) (by simp))
   have a10:=BA.cell (j:=3) rfl;have ltA2:=BA.lt;have a10f:=BA.fz;replace BA:=zh BA;have hf0:∀ j,wr.frozen? ⟨B,j,none⟩=false:=by
    obtain⟨cs,T,hb⟩:=HC.out.fzk B ⟨_,_,BB3.out⟩;exact hb.fz
   by_cases hkt:k < m.Programs.length
   ·obtain⟨b,o,x,wa,wc,rfl,hb,hx,hp0,hs0,hl0⟩:=h3.out.atList k hkt;have hwl:x.length<=1048576:=by
     have:=zEw hx.out
     have h2:x.length<=GT.tot x:=zB0;omega
    go_upto_region 5 with (fail)
    have hst:m.Programs.take (k+1)=m.Programs.take k ++ [x]:=zAd hx.out;have hWo:∀ j,(Value.slice g3 s3 r3).ownBlock=some j->W3.heap.size<=j:=HO.out.own;refine zAm rfl 12 [(20,[20]),(21,[21]),(22,[22]),(23,[23]),(24,[24]),(25,[25]),(26,[26]),(27,[27]),(28,[28]),(29,[29,28]),(30,[30]),(31,[31])]
     (fun i vs u F=>match i,vs with
      | 0,[y]=>y = .pointer (some ⟨B,3,none⟩)
      | 1,[y]=>y = .slice g3 s3 r3
      | 2,[y] => ∃ B,y = .slice (some ⟨B,0,none⟩) 0 0
      | 3,[y]=>y = .pointer (some ⟨w.heap.size,3,none⟩)
      | 4,[y]=>y = .slice (some ⟨b,o,none⟩) m.Programs.length c3
      | 5,[y]=>y = .int .i64 k
      | 6,[y]=>y = .pointer (some ⟨b,o+k,none⟩)
      | 7,[y]=>y = .slice wa x.length wc
      | 8,[y]=>Sl u y x F
      | 9,[y,z] => ∃ b0,y = .slice (some ⟨b0,0,none⟩) 1 1/\Bk u b0 [z] 52
      | 10,[y]=>Oo 52 W3.heap.size u y (m.Programs.take k ++ [x])
      | 11,[y]=>y = .pointer (some ⟨B,3,none⟩)
      | _,_=>False) 10 (Value.slice g3 s3 r3).ownBlock HO.out.lt (by decide +kernel) ?_ ?_ ?_
    ·intro i hi hne oo ho U u F hG hd hap;have hE:=Ext.grown EW.out hG (fun j hj=>by have:=hWo j hj;omega)
     have e0:=zAe hG hc0 (by omega) (fun j hj=>by have:=hWo j hj;omega)
     have e1:=zAe hG a10 (by omega) (fun j hj=>by have:=hWo j hj;omega)
     have e2:=(zA0 hE hb).trans hp0;rcases(by omega:i=0\/i=1\/i=2\/i=3\/i=4\/i=5\/i=6\/i=7\/i=8\/i=9\/i=10\/i=11) with rfl|rfl|rfl|rfl|rfl|rfl|rfl|rfl|rfl|rfl|rfl|rfl
     ·cases ho;simp only[fr];intro K hK;go_wp2;exact zk hK _ (fun _ _=>rfl)
     ·cases ho;simp only[fr];obtain⟨⟨d0,-⟩,-⟩:=fa [0] (by decide +kernel) hd
      simp only[fu] at d0;try simp only[d0]
      clear d0;intro K hK;go_wp2;exact zk hK _ (fun _ _=>rfl)
     ·cases ho;simp only[fr];intro K hK;go_wp2;exact hK _ [] _ ((zr u).alloc _) (fun _ _=>⟨_,rfl⟩) (Own.nil _ _)
     ·cases ho;simp only[fr];intro K hK;go_wp2;exact zk hK _ (fun _ _=>rfl)
     ·cases ho;simp only[fr];obtain⟨⟨d3,-⟩,-⟩:=fa [3] (by decide +kernel) hd
      simp only[fu] at d3;try simp only[d3]
      clear d3;intro K hK;go_wp2;exact zk hK _ (fun _ _=>rfl)
     ·cases ho;simp only[fr];intro K hK;go_wp2;exact zk hK _ (fun _ _=>rfl)
     ·cases ho;simp only[fr];obtain⟨⟨d3,-⟩,⟨d4,-⟩,⟨d5,-⟩,-⟩:=fa [3,4,5] (by decide +kernel) hd
      simp only[fu] at d3 d4 d5;try simp only[d3,d4,d5]
      clear d3 d4 d5;intro K hK;go_wp2;exact zk hK _ (fun _ _=>rfl)
     ·cases ho;simp only[fr];obtain⟨⟨d3,-⟩,⟨d4,-⟩,⟨d5,-⟩,⟨d6,-⟩,-⟩:=fa [3,4,5,6] (by decide +kernel) hd
      simp only[fu] at d3 d4 d5 d6;try simp only[d3,d4,d5,d6]
      clear d3 d4 d5 d6;intro K hK;go_wp2;exact zk hK _ (fun _ _=>rfl)
     ·cases ho;simp only[fr];obtain⟨⟨d2,o2⟩,⟨d3,-⟩,⟨d4,-⟩,⟨d5,-⟩,⟨d6,-⟩,⟨d7,-⟩,-⟩:=fa [2,3,4,5,6,7] (by decide +kernel) hd
      simp only[fu] at d2 d3 d4 d5 d6 d7;try simp only[d3,d4,d5,d6,d7]
      obtain⟨B8,d2⟩:=d2;simp only[d2];intro K hK;refine zD6 (α:=Order) rfl _ _ 52 rfl 61 Tryz.underlying52 zHy rfl rfl (hs0.out.ext hE) (by omega) ?_
      intro v' w' F' s1 ow1 ex1;go_wp2;exact hK _ F' _ ex1 (fun _ h=>s1.grown h fun j hj e=>by have:=(ow1.2 j hj).1;have:=HO.out.lt j e;have:=hG.size;omega) ow1
     ·cases ho;simp only[fr];obtain⟨⟨d2,o2⟩,⟨d3,-⟩,⟨d4,-⟩,⟨d5,-⟩,⟨d6,-⟩,⟨d7,-⟩,⟨d8,o8⟩,-⟩:=fa [2,3,4,5,6,7,8] (by decide +kernel) hd
      simp only[fu] at d2 d3 d4 d5 d6 d7 d8;try simp only[d3,d4,d5,d6,d7]
      obtain⟨p8,q8,g8,_⟩:=d8;simp only[g8];intro K hK;go_wp2;have b1:=Bk.new u [.slice p8 x.length q8] 52;exact hK _ [] _ ((zr u).alloc _) (fun _ h=>⟨_,rfl,by show Bk _ _ [U 28] _;rw[g8];exact b1.grown h fun e=>by have:=HO.out.lt _ e;have:=hG.size;omega⟩) (Own.nil _ _)
     ·exact absurd rfl hne
     ·cases ho;simp only[fr];obtain⟨⟨d0,-⟩,⟨d1,-⟩,⟨d3,-⟩,⟨d4,-⟩,⟨d5,-⟩,⟨d6,-⟩,⟨d7,-⟩,-⟩:=fa [0,1,3,4,5,6,7] (by decide +kernel) hd
      simp only[fu] at d0 d1 d3 d4 d5 d6 d7;try simp only[d0,d1,d3,d4,d5,d6,d7]
      clear d0 d1 d3 d4 d5 d6 d7;intro K hK;go_wp2;exact zk hK _ (fun _ _=>rfl)
    ·intro _ oo ho U u F hE hd hap;cases ho;simp only[fr];obtain⟨⟨d0,-⟩,⟨d1,-⟩,⟨d2,o2⟩,⟨d3,-⟩,⟨d4,-⟩,⟨d5,-⟩,⟨d6,-⟩,⟨d7,-⟩,⟨d8,o8⟩,⟨d9,o9⟩,-⟩:=fa [0,1,2,3,4,5,6,7,8,9] (by decide +kernel) hd
     simp only[fu] at d0 d1 d2 d3 d4 d5 d6 d7 d8 d9;try simp only[d0,d1,d3,d4,d5,d6,d7]
     obtain⟨b0,d9,b9⟩:=d9;simp only[d9];intro K hK;refine zBi (u:=wr) (α:=List Order) rfl _ _ 28 rfl 52 Tryz.underlying28 zFf (v:=.slice g3 s3 r3) (ys:=[x]) rfl HO.out hE lWr rfl rfl (Row.one ⟨_,rfl,d8⟩ (fun j y hj=>by rw[Nat.zero_add];exact b9.cell hj)) (by simp) o8 (by simp;omega) ?_
     intro v2 w2 hO2 hg2;go_wp2;exact hK _ [] _ hg2 (fun _ h=>hO2.ext h) (Own.nil _ _)
    ·intro oo ho U u F hG hφ hap;cases ho;simp only[fr];obtain⟨⟨d0,-⟩,⟨d1,-⟩,⟨d2,o2⟩,⟨d3,-⟩,⟨d4,-⟩,⟨d5,-⟩,⟨d6,-⟩,⟨d7,-⟩,⟨d8,o8⟩,⟨d9,o9⟩,⟨d10,o10⟩,⟨d11,-⟩,-⟩:=fb [0,1,2,3,4,5,6,7,8,9,10,11] (by decide +kernel) hφ
     simp only[fu] at d0 d1 d2 d3 d4 d5 d6 d7 d8 d9 d10 d11;try simp only[d0,d1,d3,d4,d5,d6,d7,d11]
     clear d0 d1 d2 d3 d4 d5 d6 d7 d8 d9 d11 hap hφ;have e0:=zAe hG hc0 (by omega) (fun j hj=>by have:=hWo j hj;omega)
     have f0:u.frozen? ⟨B,3,none⟩=false:=(World.frozen?_of_block (hG.block B (by omega) (fun e=>by have:=hWo B e.symm;omega))).trans (hf0 3)
     obtain⟨p9,n9,q9,e9⟩:=d10.sh;simp only[e9] at d10 ⊢;have hCu:=HC.out.grown hG hWo lt3;go_wp2;go_roundw
     case rel=>exact⟨k+1,_,_,_,by omega,by go_num,hCu.set ⟨by omega,by omega⟩ _,zAu e0,by rw[hst];exact d10.set lt3 _⟩
     case measure=>simp[intOf];omega
   ·obtain rfl:k=m.Programs.length:=by omega
    have hl:m.Programs.take m.Programs.length=m.Programs:=List.take_of_length_le (by omega)
    rw[hl] at HO;obtain⟨F3,S3,O3⟩:=HO.out.os;have nB3:B ∉ F3:=fun hm=>by have:=(O3.2 _ hm).1;omega
    have BZ:=HC.out.one BB3.out (by simp) hc0
    have NPx:=HC.out.enc NP3.out nB (fun _ _ h=>by cases h)
    have OX:Own w0.heap.size wr (FP++F3):=(OW3.out.chg HC.out).join (O3.mono (by omega)) (zAw.far (fun j hj=>OW3.out.lt hj) fun j hj=>(O3.2 j hj).1)
    have KBx:=HC.out.bk KB3.out (by omega) (by simp)
    go_wp2;refine zA2 (fun W=>Ext w W/\B < W.heap.size/\w0.heap.size<=W.heap.size/\(∃ T,Bk W B [.slice p0 m.Plan.Parts.length q0,.slice p1 m.Plan.Channels.length q1,.slice p2 m.Plan.Slots.length q2,.slice g3 s3 r3,.slice none 0 0,.slice none 0 0,.int .i64 m.Tick] T)/\GT.enc W [.slice p0 m.Plan.Parts.length q0,.slice p1 m.Plan.Channels.length q1,.slice p2 m.Plan.Slots.length q2] m.Plan FP/\Sl W (.slice g3 s3 r3) m.Programs F3/\Own w0.heap.size W (FP++F3)/\(∃ T,Bk W w.heap.size [.slice a0 m.Plan.Parts.length c0,.slice a1 m.Plan.Channels.length c1,.slice a2 m.Plan.Slots.length c2,.slice a3 m.Programs.length c3,.slice a4 m.Cores.length c4,.slice a5 m.Holds.length c5,.int .i64 m.Tick] T)/\(∃ T,Bk W (w.heap.size+1) [.slice none 0 0,.slice none 0 0,.slice none 0 0,.slice none 0 0,.slice none 0 0,.slice none 0 0,.int .i64 0] T)) ⟨EW.out,by omega,by omega,BZ,NPx,S3,OX,⟨_,BA.out⟩,⟨_,KBx⟩⟩ ?_
    rintro W4 ⟨E4,lt4,lW4,⟨_,BB4⟩,NP4,S43,OW4,⟨_,KA4⟩,⟨_,KB4⟩⟩;replace BB4:=zh BB4;replace KA4:=zh KA4;replace KB4:=zh KB4;replace NP4:=zh NP4;replace OW4:=zh OW4;replace E4:=zh E4;replace S43:=zh S43;clear HC HO EW BA a10 a10f ltA2 lWr hf0 hc0 S3 O3 BZ NPx OX KBx E3 lt3 lW3 BB3 NP3 OW3 KA3 KB3;go_loopw [5] (fun i wr => ∃ (k:Nat) (g4:Option Addr) (s4 r4:Nat),k<=m.Cores.length/\i = .int .i64 k/\Chg B 4 1 [] W4 wr/\wr.cell? ⟨B,4,none⟩=some (.slice g4 s4 r4)/\Oo 43 W4.heap.size wr (.slice g4 s4 r4) (m.Cores.take k)) (fun i _=>m.Cores.length - (intOf i).toNat)
    case atStart=>exact⟨0,_,_,_,Nat.zero_le _,rfl,Chg.refl _ _ _ _ _,BB4.out.cell (j:=4) rfl,Oo.nil _ _ _⟩
    case round =>
     obtain⟨k,g4,s4,r4,hk,rfl,hch,hc0,ho⟩:=hrel;have HC:=zh hch;have HO:=zh ho;clear hch ho;have BA:=HC.out.bk KA4.out (by omega) (by simp)
     have lWr:W4.heap.size<=wr.heap.size:=HC.out.sz;have EW:=zh (HC.out.ext E4.out (by omega) (by simp))
     have a10:=BA.cell (j:=4) rfl;have ltA2:=BA.lt;have a10f:=BA.fz;replace BA:=zh BA;have hf0:∀ j,wr.frozen? ⟨B,j,none⟩=false:=by
      obtain⟨cs,T,hb⟩:=HC.out.fzk B ⟨_,_,BB4.out⟩;exact hb.fz
     by_cases hkt:k < m.Cores.length
     ·obtain⟨b,o,x,wa,wc,rfl,hb,hx,hp0,hp1,hp2,hr1,hs0,hl0,hv⟩:=h4.out.atCore k hkt;have hwl:x.Cells.length<=1048576:=by
       have:=zEw hx.out
       have h2:x.Cells.length<=GT.tot x.Cells:=zB0;have h3:GT.tot x=GT.tot x.Cells+GT.tot x.At+GT.tot x.Stopped:=rfl;omega
      go_upto_region 9 with (fail)
      have hst:m.Cores.take (k+1)=m.Cores.take k ++ [x]:=zAd hx.out;have hWo:∀ j,(Value.slice g4 s4 r4).ownBlock=some j->W4.heap.size<=j:=HO.out.own;refine zAm rfl 26 [(39,[39]),(40,[40]),(41,[41]),(42,[42]),(43,[43]),(44,[44]),(45,[45]),(46,[46]),(47,[47]),(48,[48]),(49,[49]),(50,[50]),(51,[51]),(52,[52]),(53,[53]),(54,[54]),(55,[55]),(56,[56]),(57,[57]),(58,[58]),(59,[59]),(60,[60]),(61,[61,48]),(62,[62,61]),(63,[63]),(64,[64])]
       (fun i vs u F=>match i,vs with
        | 0,[y]=>y = .pointer (some ⟨B,4,none⟩)
        | 1,[y]=>y = .slice g4 s4 r4
        | 2,[y] => ∃ B,y = .slice (some ⟨B,0,none⟩) 0 0
        | 3,[y]=>y = .pointer (some ⟨w.heap.size,4,none⟩)
        | 4,[y]=>y = .slice (some ⟨b,o,none⟩) m.Cores.length c4
        | 5,[y]=>y = .int .i64 k
        | 6,[y]=>y = .pointer (some ⟨b,o+k*3,none⟩)
        | 7,[y]=>y = .pointer (some ⟨b,o+k*3,none⟩)
        | 8,[y]=>y = .slice wa x.Cells.length wc
        | 9,[y]=>Sl u y x.Cells F
        | 10,[y]=>y = .pointer (some ⟨w.heap.size,4,none⟩)
        | 11,[y]=>y = .slice (some ⟨b,o,none⟩) m.Cores.length c4
        | 12,[y]=>y = .int .i64 k
        | 13,[y]=>y = .pointer (some ⟨b,o+k*3,none⟩)
        | 14,[y]=>y = .pointer (some ⟨b,o+k*3+1,none⟩)
        | 15,[y]=>y = .int .i64 x.At
        | 16,[y]=>y = .pointer (some ⟨w.heap.size,4,none⟩)
        | 17,[y]=>y = .slice (some ⟨b,o,none⟩) m.Cores.length c4
        | 18,[y]=>y = .int .i64 k
        | 19,[y]=>y = .pointer (some ⟨b,o+k*3,none⟩)
        | 20,[y]=>y = .pointer (some ⟨b,o+k*3+2,none⟩)
        | 21,[y]=>y = .bool x.Stopped
        | 22,[y,z]=>y = .agg #[z,.int .i64 x.At,.bool x.Stopped]
        | 23,[y,z] => ∃ b0 cs,y = .slice (some ⟨b0,0,none⟩) 1 1/\z = .agg cs.toArray/\Bk u b0 cs 43
        | 24,[y]=>Oo 43 W4.heap.size u y (m.Cores.take k ++ [x])
        | 25,[y]=>y = .pointer (some ⟨B,4,none⟩)
        | _,_=>False) 24 (Value.slice g4 s4 r4).ownBlock HO.out.lt (by decide +kernel) ?_ ?_ ?_
      ·intro i hi hne oo ho U u F hG hd hap;have hE:=Ext.grown EW.out hG (fun j hj=>by have:=hWo j hj;omega)
       have e0:=zAe hG hc0 (by omega) (fun j hj=>by have:=hWo j hj;omega)
       have e1:=zAe hG a10 (by omega) (fun j hj=>by have:=hWo j hj;omega)
       have e2:=(zA0 hE hb).trans hp0;have e3:=(zA0 hE hb).trans hp1;have e4:=(zA0 hE hb).trans hp2;rcases(by omega:i=0\/i=1\/i=2\/i=3\/i=4\/i=5\/i=6\/i=7\/i=8\/i=9\/i=10\/i=11\/i=12\/i=13\/i=14\/i=15\/i=16\/i=17\/i=18\/i=19\/i=20\/i=21\/i=22\/i=23\/i=24\/i=25) with rfl|rfl|rfl|rfl|rfl|rfl|rfl|rfl|rfl|rfl|rfl|rfl|rfl|rfl|rfl|rfl|rfl|rfl|rfl|rfl|rfl|rfl|rfl|rfl|rfl|rfl
       ·cases ho;simp only[fr];intro K hK;go_wp2;exact zk hK _ (fun _ _=>rfl)
       ·cases ho;simp only[fr];obtain⟨⟨d0,-⟩,-⟩:=fa [0] (by decide +kernel) hd
        simp only[fu] at d0;try simp only[d0]
        clear d0;intro K hK;go_wp2;exact zk hK _ (fun _ _=>rfl)
       ·cases ho;simp only[fr];intro K hK;go_wp2;exact hK _ [] _ ((zr u).alloc _) (fun _ _=>⟨_,rfl⟩) (Own.nil _ _)
       ·cases ho;simp only[fr];intro K hK;go_wp2;exact zk hK _ (fun _ _=>rfl)
       ·cases ho;simp only[fr];obtain⟨⟨d3,-⟩,-⟩:=fa [3] (by decide +kernel) hd
        simp only[fu] at d3;try simp only[d3]
        clear d3;intro K hK;go_wp2;exact zk hK _ (fun _ _=>rfl)
       ·cases ho;simp only[fr];intro K hK;go_wp2;exact zk hK _ (fun _ _=>rfl)
       ·cases ho;simp only[fr];obtain⟨⟨d3,-⟩,⟨d4,-⟩,⟨d5,-⟩,-⟩:=fa [3,4,5] (by decide +kernel) hd
        simp only[fu] at d3 d4 d5;try simp only[d3,d4,d5]
        clear d3 d4 d5;intro K hK;go_wp2;exact zk hK _ (fun _ _=>rfl)
       ·cases ho;simp only[fr];obtain⟨⟨d3,-⟩,⟨d4,-⟩,⟨d5,-⟩,⟨d6,-⟩,-⟩:=fa [3,4,5,6] (by decide +kernel) hd
        simp only[fu] at d3 d4 d5 d6;try simp only[d3,d4,d5,d6]
        clear d3 d4 d5 d6;intro K hK;go_wp2;exact zk hK _ (fun _ _=>rfl)
       ·cases ho;simp only[fr];obtain⟨⟨d3,-⟩,⟨d4,-⟩,⟨d5,-⟩,⟨d6,-⟩,⟨d7,-⟩,-⟩:=fa [3,4,5,6,7] (by decide +kernel) hd
        simp only[fu] at d3 d4 d5 d6 d7;try simp only[d3,d4,d5,d6,d7]
        clear d3 d4 d5 d6 d7;intro K hK;go_wp2;exact zk hK _ (fun _ _=>rfl)
       ·cases ho;simp only[fr];obtain⟨⟨d2,o2⟩,⟨d3,-⟩,⟨d4,-⟩,⟨d5,-⟩,⟨d6,-⟩,⟨d7,-⟩,⟨d8,-⟩,-⟩:=fa [2,3,4,5,6,7,8] (by decide +kernel) hd
        simp only[fu] at d2 d3 d4 d5 d6 d7 d8;try simp only[d3,d4,d5,d6,d7,d8]
        obtain⟨B8,d2⟩:=d2;simp only[d2];intro K hK;refine zD6 (α:=Int) rfl _ _ 38 rfl 3 Tryz.underlying38 zEa rfl rfl (hs0.out.ext hE) (by omega) ?_
        intro v' w' F' s1 ow1 ex1;go_wp2;exact hK _ F' _ ex1 (fun _ h=>s1.grown h fun j hj e=>by have:=(ow1.2 j hj).1;have:=HO.out.lt j e;have:=hG.size;omega) ow1
       ·cases ho;simp only[fr];intro K hK;go_wp2;exact zk hK _ (fun _ _=>rfl)
       ·cases ho;simp only[fr];obtain⟨⟨d10,-⟩,-⟩:=fa [10] (by decide +kernel) hd
        simp only[fu] at d10;try simp only[d10]
        clear d10;intro K hK;go_wp2;exact zk hK _ (fun _ _=>rfl)
       ·cases ho;simp only[fr];intro K hK;go_wp2;exact zk hK _ (fun _ _=>rfl)
       ·cases ho;simp only[fr];obtain⟨⟨d10,-⟩,⟨d11,-⟩,⟨d12,-⟩,-⟩:=fa [10,11,12] (by decide +kernel) hd
        simp only[fu] at d10 d11 d12;try simp only[d10,d11,d12]
        clear d10 d11 d12;intro K hK;go_wp2;exact zk hK _ (fun _ _=>rfl)
       ·cases ho;simp only[fr];obtain⟨⟨d10,-⟩,⟨d11,-⟩,⟨d12,-⟩,⟨d13,-⟩,-⟩:=fa [10,11,12,13] (by decide +kernel) hd
        simp only[fu] at d10 d11 d12 d13;try simp only[d10,d11,d12,d13]
        clear d10 d11 d12 d13;intro K hK;go_wp2;exact zk hK _ (fun _ _=>rfl)
       ·cases ho;simp only[fr];obtain⟨⟨d10,-⟩,⟨d11,-⟩,⟨d12,-⟩,⟨d13,-⟩,⟨d14,-⟩,-⟩:=fa [10,11,12,13,14] (by decide +kernel) hd
        simp only[fu] at d10 d11 d12 d13 d14;try simp only[d10,d11,d12,d13,d14]
        clear d10 d11 d12 d13 d14;intro K hK;go_wp2;exact zk hK _ (fun _ _=>rfl)
       ·cases ho;simp only[fr];intro K hK;go_wp2;exact zk hK _ (fun _ _=>rfl)
       ·cases ho;simp only[fr];obtain⟨⟨d16,-⟩,-⟩:=fa [16] (by decide +kernel) hd
        simp only[fu] at d16;try simp only[d16]
        clear d16;intro K hK;go_wp2;exact zk hK _ (fun _ _=>rfl)
       ·cases ho;simp only[fr];intro K hK;go_wp2;exact zk hK _ (fun _ _=>rfl)
       ·cases ho;simp only[fr];obtain⟨⟨d16,-⟩,⟨d17,-⟩,⟨d18,-⟩,-⟩:=fa [16,17,18] (by decide +kernel) hd
        simp only[fu] at d16 d17 d18;try simp only[d16,d17,d18]
        clear d16 d17 d18;intro K hK;go_wp2;exact zk hK _ (fun _ _=>rfl)
       ·cases ho;simp only[fr];obtain⟨⟨d16,-⟩,⟨d17,-⟩,⟨d18,-⟩,⟨d19,-⟩,-⟩:=fa [16,17,18,19] (by decide +kernel) hd
        simp only[fu] at d16 d17 d18 d19;try simp only[d16,d17,d18,d19]
        clear d16 d17 d18 d19;intro K hK;go_wp2;exact zk hK _ (fun _ _=>rfl)
       ·cases ho;simp only[fr];obtain⟨⟨d16,-⟩,⟨d17,-⟩,⟨d18,-⟩,⟨d19,-⟩,⟨d20,-⟩,-⟩:=fa [16,17,18,19,20] (by decide +kernel) hd
        simp only[fu] at d16 d17 d18 d19 d20;try simp only[d16,d17,d18,d19,d20]
        clear d16 d17 d18 d19 d20;intro K hK;go_wp2;exact zk hK _ (fun _ _=>rfl)
       ·cases ho;simp only[fr];obtain⟨⟨d2,o2⟩,⟨d3,-⟩,⟨d4,-⟩,⟨d5,-⟩,⟨d6,-⟩,⟨d7,-⟩,⟨d8,-⟩,⟨d9,o9⟩,⟨d10,-⟩,⟨d11,-⟩,⟨d12,-⟩,⟨d13,-⟩,⟨d14,-⟩,⟨d15,-⟩,⟨d16,-⟩,⟨d17,-⟩,⟨d18,-⟩,⟨d19,-⟩,⟨d20,-⟩,⟨d21,-⟩,-⟩:=fa [2,3,4,5,6,7,8,9,10,11,12,13,14,15,16,17,18,19,20,21] (by decide +kernel) hd
        simp only[fu] at d2 d3 d4 d5 d6 d7 d8 d9 d10 d11 d12 d13 d14 d15 d16 d17 d18 d19 d20 d21;try simp only[d3,d4,d5,d6,d7,d8,d10,d11,d12,d13,d14,d15,d16,d17,d18,d19,d20,d21]
        obtain⟨p8,q8,g8,_⟩:=d9;simp only[g8];intro K hK;go_wp2;exact zk hK _ (fun _ _=>by show Value.agg _=Value.agg #[U 48,_,_];rw[g8])
       ·cases ho;simp only[fr];obtain⟨⟨d2,o2⟩,⟨d3,-⟩,⟨d4,-⟩,⟨d5,-⟩,⟨d6,-⟩,⟨d7,-⟩,⟨d8,-⟩,⟨d9,o9⟩,⟨d10,-⟩,⟨d11,-⟩,⟨d12,-⟩,⟨d13,-⟩,⟨d14,-⟩,⟨d15,-⟩,⟨d16,-⟩,⟨d17,-⟩,⟨d18,-⟩,⟨d19,-⟩,⟨d20,-⟩,⟨d21,-⟩,⟨d22,-⟩,-⟩:=fa [2,3,4,5,6,7,8,9,10,11,12,13,14,15,16,17,18,19,20,21,22] (by decide +kernel) hd
        simp only[fu] at d2 d3 d4 d5 d6 d7 d8 d9 d10 d11 d12 d13 d14 d15 d16 d17 d18 d19 d20 d21 d22;try simp only[d3,d4,d5,d6,d7,d8,d10,d11,d12,d13,d14,d15,d16,d17,d18,d19,d20,d21,d22]
        obtain⟨p8,q8,g8,_⟩:=d9;rw[g8] at d22;simp only[g8];intro K hK;go_wp2;have b1:=Bk.new u [.slice p8 x.Cells.length q8,.int .i64 x.At,.bool x.Stopped] 43;exact hK _ [] _ ((zr u).alloc _) (fun _ h=>⟨_,_,rfl,d22,b1.grown h fun e=>by have:=HO.out.lt _ e;have:=hG.size;omega⟩) (Own.nil _ _)
       ·exact absurd rfl hne
       ·cases ho;simp only[fr];obtain⟨⟨d0,-⟩,⟨d1,-⟩,⟨d3,-⟩,⟨d4,-⟩,⟨d5,-⟩,⟨d6,-⟩,⟨d7,-⟩,⟨d8,-⟩,⟨d10,-⟩,⟨d11,-⟩,⟨d12,-⟩,⟨d13,-⟩,⟨d14,-⟩,⟨d15,-⟩,⟨d16,-⟩,⟨d17,-⟩,⟨d18,-⟩,⟨d19,-⟩,⟨d20,-⟩,⟨d21,-⟩,⟨d22,-⟩,-⟩:=fa [0,1,3,4,5,6,7,8,10,11,12,13,14,15,16,17,18,19,20,21,22] (by decide +kernel) hd
        simp only[fu] at d0 d1 d3 d4 d5 d6 d7 d8 d10 d11 d12 d13 d14 d15 d16 d17 d18 d19 d20 d21 d22;try simp only[d0,d1,d3,d4,d5,d6,d7,d8,d10,d11,d12,d13,d14,d15,d16,d17,d18,d19,d20,d21,d22]
        clear d0 d1 d3 d4 d5 d6 d7 d8 d10 d11 d12 d13 d14 d15 d16 d17 d18 d19 d20 d21 d22;intro K hK;go_wp2;exact zk hK _ (fun _ _=>rfl)
      ·intro _ oo ho U u F hE hd hap;cases ho;simp only[fr];obtain⟨⟨d0,-⟩,⟨d1,-⟩,⟨d2,o2⟩,⟨d3,-⟩,⟨d4,-⟩,⟨d5,-⟩,⟨d6,-⟩,⟨d7,-⟩,⟨d8,-⟩,⟨d9,o9⟩,⟨d10,-⟩,⟨d11,-⟩,⟨d12,-⟩,⟨d13,-⟩,⟨d14,-⟩,⟨d15,-⟩,⟨d16,-⟩,⟨d17,-⟩,⟨d18,-⟩,⟨d19,-⟩,⟨d20,-⟩,⟨d21,-⟩,⟨d22,-⟩,⟨d23,o23⟩,-⟩:=fa [0,1,2,3,4,5,6,7,8,9,10,11,12,13,14,15,16,17,18,19,20,21,22,23] (by decide +kernel) hd
       simp only[fu] at d0 d1 d2 d3 d4 d5 d6 d7 d8 d9 d10 d11 d12 d13 d14 d15 d16 d17 d18 d19 d20 d21 d22 d23;try simp only[d0,d1,d3,d4,d5,d6,d7,d8,d10,d11,d12,d13,d14,d15,d16,d17,d18,d19,d20,d21,d22]
       obtain⟨b0,cs,d23,z23,b23⟩:=d23;rw[d22] at z23;obtain rfl:cs = [U 48,.int .i64 x.At,.bool x.Stopped]:=(congrArg Array.toList (zDl z23)).symm;simp only[d23];intro K hK;refine zBi (u:=wr) (α:=Core) rfl _ _ 31 rfl 43 Tryz.underlying31 zIb (v:=.slice g4 s4 r4) (ys:=[x]) rfl HO.out hE lWr rfl rfl (Row.one ⟨_,rfl,d9,hr1⟩ (fun j y hj=>by rw[Nat.zero_add];exact b23.cell hj)) (by simp) o9 (by simp;omega) ?_
       intro v2 w2 hO2 hg2;go_wp2;exact hK _ [] _ hg2 (fun _ h=>hO2.ext h) (Own.nil _ _)
      ·intro oo ho U u F hG hφ hap;cases ho;simp only[fr];obtain⟨⟨d0,-⟩,⟨d1,-⟩,⟨d2,o2⟩,⟨d3,-⟩,⟨d4,-⟩,⟨d5,-⟩,⟨d6,-⟩,⟨d7,-⟩,⟨d8,-⟩,⟨d9,o9⟩,⟨d10,-⟩,⟨d11,-⟩,⟨d12,-⟩,⟨d13,-⟩,⟨d14,-⟩,⟨d15,-⟩,⟨d16,-⟩,⟨d17,-⟩,⟨d18,-⟩,⟨d19,-⟩,⟨d20,-⟩,⟨d21,-⟩,⟨d22,-⟩,⟨d23,o23⟩,⟨d24,o24⟩,⟨d25,-⟩,-⟩:=fb [0,1,2,3,4,5,6,7,8,9,10,11,12,13,14,15,16,17,18,19,20,21,22,23,24,25] (by decide +kernel) hφ
       simp only[fu] at d0 d1 d2 d3 d4 d5 d6 d7 d8 d9 d10 d11 d12 d13 d14 d15 d16 d17 d18 d19 d20 d21 d22 d23 d24 d25;try simp only[d0,d1,d3,d4,d5,d6,d7,d8,d10,d11,d12,d13,d14,d15,d16,d17,d18,d19,d20,d21,d22,d25]
       clear d0 d1 d2 d3 d4 d5 d6 d7 d8 d9 d10 d11 d12 d13 d14 d15 d16 d17 d18 d19 d20 d21 d22 d23 d25 hap hφ;have e0:=zAe hG hc0 (by omega) (fun j hj=>by have:=hWo j hj;omega)
       have f0:u.frozen? ⟨B,4,none⟩=false:=(World.frozen?_of_block (hG.block B (by omega) (fun e=>by have:=hWo B e.symm;omega))).trans (hf0 4)
       obtain⟨p9,n9,q9,e9⟩:=d24.sh;simp only[e9] at d24 ⊢;have hCu:=HC.out.grown hG hWo lt4;go_wp2;go_roundw
       case rel=>exact⟨k+1,_,_,_,by omega,by go_num,hCu.set ⟨by omega,by omega⟩ _,zAu e0,by rw[hst];exact d24.set lt4 _⟩
       case measure=>simp[intOf];omega
     ·obtain rfl:k=m.Cores.length:=by omega
      have hl:m.Cores.take m.Cores.length=m.Cores:=List.take_of_length_le (by omega)
      rw[hl] at HO;obtain⟨F4,S4,O4⟩:=HO.out.os;have nB4:B ∉ F4:=fun hm=>by have:=(O4.2 _ hm).1;omega
      have BZ:=HC.out.one BB4.out (by simp) hc0
      have NPx:=HC.out.enc NP4.out nB (fun _ _ h=>by cases h)
      have Sx3:=HC.out.sl S43.out nB3 (fun _ _ h=>by cases h)
      have OX:Own w0.heap.size wr (FP++F3++F4):=(OW4.out.chg HC.out).join (O4.mono (by omega)) (zAw.far (fun j hj=>OW4.out.lt hj) fun j hj=>(O4.2 j hj).1)
      have KBx:=HC.out.bk KB4.out (by omega) (by simp)
      go_wp2;refine zA2 (fun W=>Ext w W/\B < W.heap.size/\w0.heap.size<=W.heap.size/\(∃ T,Bk W B [.slice p0 m.Plan.Parts.length q0,.slice p1 m.Plan.Channels.length q1,.slice p2 m.Plan.Slots.length q2,.slice g3 s3 r3,.slice g4 s4 r4,.slice none 0 0,.int .i64 m.Tick] T)/\GT.enc W [.slice p0 m.Plan.Parts.length q0,.slice p1 m.Plan.Channels.length q1,.slice p2 m.Plan.Slots.length q2] m.Plan FP/\Sl W (.slice g3 s3 r3) m.Programs F3/\Sl W (.slice g4 s4 r4) m.Cores F4/\Own w0.heap.size W (FP++F3++F4)/\(∃ T,Bk W w.heap.size [.slice a0 m.Plan.Parts.length c0,.slice a1 m.Plan.Channels.length c1,.slice a2 m.Plan.Slots.length c2,.slice a3 m.Programs.length c3,.slice a4 m.Cores.length c4,.slice a5 m.Holds.length c5,.int .i64 m.Tick] T)/\(∃ T,Bk W (w.heap.size+1) [.slice none 0 0,.slice none 0 0,.slice none 0 0,.slice none 0 0,.slice none 0 0,.slice none 0 0,.int .i64 0] T)) ⟨EW.out,by omega,by omega,BZ,NPx,Sx3,S4,OX,⟨_,BA.out⟩,⟨_,KBx⟩⟩ ?_
      rintro W5 ⟨E5,lt5,lW5,⟨_,BB5⟩,NP5,S53,S54,OW5,⟨_,KA5⟩,⟨_,KB5⟩⟩;replace BB5:=zh BB5;replace KA5:=zh KA5;replace KB5:=zh KB5;replace NP5:=zh NP5;replace OW5:=zh OW5;replace E5:=zh E5;replace S53:=zh S53;replace S54:=zh S54;clear HC HO EW BA a10 a10f ltA2 lWr hf0 hc0 S4 O4 BZ NPx OX KBx E4 lt4 lW4 BB4 NP4 OW4 KA4 KB4 Sx3 S43;go_loopw [6] (fun i wr => ∃ (k:Nat) (g5:Option Addr) (s5 r5:Nat),k<=m.Holds.length/\i = .int .i64 k/\Chg B 5 1 [] W5 wr/\wr.cell? ⟨B,5,none⟩=some (.slice g5 s5 r5)/\Oo 40 W5.heap.size wr (.slice g5 s5 r5) (m.Holds.take k)/\(k=0->g5=none/\s5=0/\r5=0)) (fun i _=>m.Holds.length - (intOf i).toNat)
      case atStart=>exact⟨0,_,_,_,Nat.zero_le _,rfl,Chg.refl _ _ _ _ _,BB5.out.cell (j:=5) rfl,Oo.nil _ _ _,fun _=>⟨rfl,rfl,rfl⟩⟩
      case round =>
       obtain⟨k,g5,s5,r5,hk,rfl,hch,hc0,ho,hk0⟩:=hrel;have HC:=zh hch;have HO:=zh ho;clear hch ho;have BA:=HC.out.bk KA5.out (by omega) (by simp)
       have lWr:W5.heap.size<=wr.heap.size:=HC.out.sz;have EW:=zh (HC.out.ext E5.out (by omega) (by simp))
       have a10:=BA.cell (j:=5) rfl;have ltA2:=BA.lt;have a10f:=BA.fz;replace BA:=zh BA;have hf0:∀ j,wr.frozen? ⟨B,j,none⟩=false:=by
        obtain⟨cs,T,hb⟩:=HC.out.fzk B ⟨_,_,BB5.out⟩;exact hb.fz
       by_cases hkt:k < m.Holds.length
       ·obtain⟨b,o,x,wa,wc,rfl,hb,hx,hp0,hs0,hl0,hv⟩:=h5.out.atHold k hkt;have hwl:x.Lst.length<=1048576:=by
         have:=zEw hx.out
         have h2:x.Lst.length<=GT.tot x.Lst:=zB0;have h3:GT.tot x=GT.tot x.Lst:=rfl;omega
        go_upto_region 13 with (fail)
        have hst:m.Holds.take (k+1)=m.Holds.take k ++ [x]:=zAd hx.out;have hWo:∀ j,(Value.slice g5 s5 r5).ownBlock=some j->W5.heap.size<=j:=HO.out.own;refine zAm rfl 14 [(72,[72]),(73,[73]),(74,[74]),(75,[75]),(76,[76]),(77,[77]),(78,[78]),(79,[79]),(80,[80]),(81,[81]),(82,[82,81]),(83,[83,82]),(84,[84]),(85,[85])]
         (fun i vs u F=>match i,vs with
          | 0,[y]=>y = .pointer (some ⟨B,5,none⟩)
          | 1,[y]=>y = .slice g5 s5 r5
          | 2,[y] => ∃ B,y = .slice (some ⟨B,0,none⟩) 0 0
          | 3,[y]=>y = .pointer (some ⟨w.heap.size,5,none⟩)
          | 4,[y]=>y = .slice (some ⟨b,o,none⟩) m.Holds.length c5
          | 5,[y]=>y = .int .i64 k
          | 6,[y]=>y = .pointer (some ⟨b,o+k,none⟩)
          | 7,[y]=>y = .pointer (some ⟨b,o+k,none⟩)
          | 8,[y]=>y = .slice wa x.Lst.length wc
          | 9,[y]=>Sl u y x.Lst F
          | 10,[y,z]=>y = .agg #[z]
          | 11,[y,z] => ∃ b0 cs,y = .slice (some ⟨b0,0,none⟩) 1 1/\z = .agg cs.toArray/\Bk u b0 cs 40
          | 12,[y]=>Oo 40 W5.heap.size u y (m.Holds.take k ++ [x])
          | 13,[y]=>y = .pointer (some ⟨B,5,none⟩)
          | _,_=>False) 12 (Value.slice g5 s5 r5).ownBlock HO.out.lt (by decide +kernel) ?_ ?_ ?_
        ·intro i hi hne oo ho U u F hG hd hap;have hE:=Ext.grown EW.out hG (fun j hj=>by have:=hWo j hj;omega)
         have e0:=zAe hG hc0 (by omega) (fun j hj=>by have:=hWo j hj;omega)
         have e1:=zAe hG a10 (by omega) (fun j hj=>by have:=hWo j hj;omega)
         have e2:=(zA0 hE hb).trans hp0;rcases(by omega:i=0\/i=1\/i=2\/i=3\/i=4\/i=5\/i=6\/i=7\/i=8\/i=9\/i=10\/i=11\/i=12\/i=13) with rfl|rfl|rfl|rfl|rfl|rfl|rfl|rfl|rfl|rfl|rfl|rfl|rfl|rfl
         ·cases ho;simp only[fr];intro K hK;go_wp2;exact zk hK _ (fun _ _=>rfl)
         ·cases ho;simp only[fr];obtain⟨⟨d0,-⟩,-⟩:=fa [0] (by decide +kernel) hd
          simp only[fu] at d0;try simp only[d0]
          clear d0;intro K hK;go_wp2;exact zk hK _ (fun _ _=>rfl)
         ·cases ho;simp only[fr];intro K hK;go_wp2;exact hK _ [] _ ((zr u).alloc _) (fun _ _=>⟨_,rfl⟩) (Own.nil _ _)
         ·cases ho;simp only[fr];intro K hK;go_wp2;exact zk hK _ (fun _ _=>rfl)
         ·cases ho;simp only[fr];obtain⟨⟨d3,-⟩,-⟩:=fa [3] (by decide +kernel) hd
          simp only[fu] at d3;try simp only[d3]
          clear d3;intro K hK;go_wp2;exact zk hK _ (fun _ _=>rfl)
         ·cases ho;simp only[fr];intro K hK;go_wp2;exact zk hK _ (fun _ _=>rfl)
         ·cases ho;simp only[fr];obtain⟨⟨d3,-⟩,⟨d4,-⟩,⟨d5,-⟩,-⟩:=fa [3,4,5] (by decide +kernel) hd
          simp only[fu] at d3 d4 d5;try simp only[d3,d4,d5]
          clear d3 d4 d5;intro K hK;go_wp2;exact zk hK _ (fun _ _=>rfl)
         ·cases ho;simp only[fr];obtain⟨⟨d3,-⟩,⟨d4,-⟩,⟨d5,-⟩,⟨d6,-⟩,-⟩:=fa [3,4,5,6] (by decide +kernel) hd
          simp only[fu] at d3 d4 d5 d6;try simp only[d3,d4,d5,d6]
          clear d3 d4 d5 d6;intro K hK;go_wp2;exact zk hK _ (fun _ _=>rfl)
         ·cases ho;simp only[fr];obtain⟨⟨d3,-⟩,⟨d4,-⟩,⟨d5,-⟩,⟨d6,-⟩,⟨d7,-⟩,-⟩:=fa [3,4,5,6,7] (by decide +kernel) hd
          simp only[fu] at d3 d4 d5 d6 d7;try simp only[d3,d4,d5,d6,d7]
          clear d3 d4 d5 d6 d7;intro K hK;go_wp2;exact zk hK _ (fun _ _=>rfl)
         ·cases ho;simp only[fr];obtain⟨⟨d2,o2⟩,⟨d3,-⟩,⟨d4,-⟩,⟨d5,-⟩,⟨d6,-⟩,⟨d7,-⟩,⟨d8,-⟩,-⟩:=fa [2,3,4,5,6,7,8] (by decide +kernel) hd
          simp only[fu] at d2 d3 d4 d5 d6 d7 d8;try simp only[d3,d4,d5,d6,d7,d8]
          obtain⟨B8,d2⟩:=d2;simp only[d2];intro K hK;refine zD6 (α:=Int) rfl _ _ 38 rfl 3 Tryz.underlying38 zEa rfl rfl (hs0.out.ext hE) (by omega) ?_
          intro v' w' F' s1 ow1 ex1;go_wp2;exact hK _ F' _ ex1 (fun _ h=>s1.grown h fun j hj e=>by have:=(ow1.2 j hj).1;have:=HO.out.lt j e;have:=hG.size;omega) ow1
         ·cases ho;simp only[fr];obtain⟨⟨d2,o2⟩,⟨d3,-⟩,⟨d4,-⟩,⟨d5,-⟩,⟨d6,-⟩,⟨d7,-⟩,⟨d8,-⟩,⟨d9,o9⟩,-⟩:=fa [2,3,4,5,6,7,8,9] (by decide +kernel) hd
          simp only[fu] at d2 d3 d4 d5 d6 d7 d8 d9;try simp only[d3,d4,d5,d6,d7,d8]
          obtain⟨p8,q8,g8,_⟩:=d9;simp only[g8];intro K hK;go_wp2;exact zk hK _ (fun _ _=>by show Value.agg _=Value.agg #[U 81];rw[g8])
         ·cases ho;simp only[fr];obtain⟨⟨d2,o2⟩,⟨d3,-⟩,⟨d4,-⟩,⟨d5,-⟩,⟨d6,-⟩,⟨d7,-⟩,⟨d8,-⟩,⟨d9,o9⟩,⟨d10,-⟩,-⟩:=fa [2,3,4,5,6,7,8,9,10] (by decide +kernel) hd
          simp only[fu] at d2 d3 d4 d5 d6 d7 d8 d9 d10;try simp only[d3,d4,d5,d6,d7,d8,d10]
          obtain⟨p8,q8,g8,_⟩:=d9;rw[g8] at d10;simp only[g8];intro K hK;go_wp2;have b1:=Bk.new u [.slice p8 x.Lst.length q8] 40;exact hK _ [] _ ((zr u).alloc _) (fun _ h=>⟨_,_,rfl,d10,b1.grown h fun e=>by have:=HO.out.lt _ e;have:=hG.size;omega⟩) (Own.nil _ _)
         ·exact absurd rfl hne
         ·cases ho;simp only[fr];obtain⟨⟨d0,-⟩,⟨d1,-⟩,⟨d3,-⟩,⟨d4,-⟩,⟨d5,-⟩,⟨d6,-⟩,⟨d7,-⟩,⟨d8,-⟩,⟨d10,-⟩,-⟩:=fa [0,1,3,4,5,6,7,8,10] (by decide +kernel) hd
          simp only[fu] at d0 d1 d3 d4 d5 d6 d7 d8 d10;try simp only[d0,d1,d3,d4,d5,d6,d7,d8,d10]
          clear d0 d1 d3 d4 d5 d6 d7 d8 d10;intro K hK;go_wp2;exact zk hK _ (fun _ _=>rfl)
        ·intro _ oo ho U u F hE hd hap;cases ho;simp only[fr];obtain⟨⟨d0,-⟩,⟨d1,-⟩,⟨d2,o2⟩,⟨d3,-⟩,⟨d4,-⟩,⟨d5,-⟩,⟨d6,-⟩,⟨d7,-⟩,⟨d8,-⟩,⟨d9,o9⟩,⟨d10,-⟩,⟨d11,o11⟩,-⟩:=fa [0,1,2,3,4,5,6,7,8,9,10,11] (by decide +kernel) hd
         simp only[fu] at d0 d1 d2 d3 d4 d5 d6 d7 d8 d9 d10 d11;try simp only[d0,d1,d3,d4,d5,d6,d7,d8,d10]
         obtain⟨b0,cs,d11,z11,b11⟩:=d11;rw[d10] at z11;obtain rfl:cs = [U 81]:=(congrArg Array.toList (zDl z11)).symm;simp only[d11];intro K hK;refine zBi (u:=wr) (α:=Hold) rfl _ _ 32 rfl 40 Tryz.underlying32 elHold (v:=.slice g5 s5 r5) (ys:=[x]) rfl HO.out hE lWr rfl rfl (Row.one ⟨_,rfl,d9⟩ (fun j y hj=>by rw[Nat.zero_add];exact b11.cell hj)) (by simp) o9 (by simp;omega) ?_
         intro v2 w2 hO2 hg2;go_wp2;exact hK _ [] _ hg2 (fun _ h=>hO2.ext h) (Own.nil _ _)
        ·intro oo ho U u F hG hφ hap;cases ho;simp only[fr];obtain⟨⟨d0,-⟩,⟨d1,-⟩,⟨d2,o2⟩,⟨d3,-⟩,⟨d4,-⟩,⟨d5,-⟩,⟨d6,-⟩,⟨d7,-⟩,⟨d8,-⟩,⟨d9,o9⟩,⟨d10,-⟩,⟨d11,o11⟩,⟨d12,o12⟩,⟨d13,-⟩,-⟩:=fb [0,1,2,3,4,5,6,7,8,9,10,11,12,13] (by decide +kernel) hφ
         simp only[fu] at d0 d1 d2 d3 d4 d5 d6 d7 d8 d9 d10 d11 d12 d13;try simp only[d0,d1,d3,d4,d5,d6,d7,d8,d10,d13]
         clear d0 d1 d2 d3 d4 d5 d6 d7 d8 d9 d10 d11 d13 hap hφ;have e0:=zAe hG hc0 (by omega) (fun j hj=>by have:=hWo j hj;omega)
         have f0:u.frozen? ⟨B,5,none⟩=false:=(World.frozen?_of_block (hG.block B (by omega) (fun e=>by have:=hWo B e.symm;omega))).trans (hf0 5)
         obtain⟨p9,n9,q9,e9⟩:=d12.sh;simp only[e9] at d12 ⊢;have hCu:=HC.out.grown hG hWo lt5;go_wp2;go_roundw
         case rel=>exact⟨k+1,_,_,_,by omega,by go_num,hCu.set ⟨by omega,by omega⟩ _,zAu e0,by rw[hst];exact d12.set lt5 _,fun h0=>by omega⟩
         case measure=>simp[intOf];omega
       ·obtain rfl:k=m.Holds.length:=by omega
        have hl:m.Holds.take m.Holds.length=m.Holds:=List.take_of_length_le (by omega)
        rw[hl] at HO;obtain⟨F5,S5,O5⟩:=HO.out.os;have nB5:B ∉ F5:=fun hm=>by have:=(O5.2 _ hm).1;omega
        have BZ:=HC.out.one BB5.out (by simp) hc0
        have NPx:=HC.out.enc NP5.out nB (fun _ _ h=>by cases h)
        have Sx3:=HC.out.sl S53.out nB3 (fun _ _ h=>by cases h)
        have Sx4:=HC.out.sl S54.out nB4 (fun _ _ h=>by cases h)
        have OX:Own w0.heap.size wr (FP++F3++F4++F5):=(OW5.out.chg HC.out).join (O5.mono (by omega)) (zAw.far (fun j hj=>OW5.out.lt hj) fun j hj=>(O5.2 j hj).1)
        have KBx:=HC.out.bk KB5.out (by omega) (by simp)
        obtain⟨T8,BZ⟩:=BZ;have hc1:=BZ.cell (j:=0) rfl;have hc2:=BZ.cell (j:=1) rfl;have hc3:=BZ.cell (j:=2) rfl;have hc4:=BZ.cell (j:=3) rfl;have hc5:=BZ.cell (j:=4) rfl;have hc6:=BZ.cell (j:=5) rfl;have hc7:=BZ.cell (j:=6) rfl;obtain⟨z0,z1,z2,z3,z4,z5,z6⟩:=Bk.k7 KBx;have zf:=KBx.fz;have ltZ:=KBx.lt;have hZ:w.heap.size+1 ∉ FP++F3++F4++F5:=fun hm=>by have:=(OX.2 _ hm).1;omega
        have EN:=zh (zGg NPx Sx3 Sx4 S5 rt);replace OX:=zh OX;have SPX:Hid (Sp 40 1 w.heap.size wr (.slice g5 s5 r5)):=zh (Sp.mono (z:=GT.sz Hold) (HO.out.sp hk0) (by omega))
        clear O5 BZ Sx3 Sx4 S5 NPx HC HO BA KBx;go_wp2;refine bodyPost_ret (v:=.agg #[.slice p0 m.Plan.Parts.length q0,.slice p1 m.Plan.Channels.length q1,.slice p2 m.Plan.Slots.length q2,.slice g3 s3 r3,.slice g4 s4 r4,.slice g5 s5 r5,.int .i64 m.Tick]) (by simp[results,Tryz.results29,go_sem,z0,z1,z2,z3,z4,z5,z6]) rfl ⟨_,rfl,⟨_,_,rfl,zD2 (c:=w.heap.size+1) (o:=0) (ds:=[.slice p0 m.Plan.Parts.length q0,.slice p1 m.Plan.Channels.length q1,.slice p2 m.Plan.Slots.length q2,.slice g3 s3 r3,.slice g4 s4 r4,.slice g5 s5 r5,.int .i64 m.Tick]) EN.out hZ,((OX.out.mono (by omega)).put (b:=w.heap.size+1) (o:=0) (cs:=[.slice p0 m.Plan.Parts.length q0,.slice p1 m.Plan.Channels.length q1,.slice p2 m.Plan.Slots.length q2,.slice g3 s3 r3,.slice g4 s4 r4,.slice g5 s5 r5,.int .i64 m.Tick]))⟩,?_,?_⟩
        ·exact(((((((EW.out).set (by simp) _).set (by simp) _).set (by simp) _).set (by simp) _).set (by simp) _).set (by simp) _).set (by simp) _
        ·exact SpH.mk ((((((((SPX.out).set _ _).set _ _).set _ _).set _ _).set _ _).set _ _).set _ _)
theorem zHh(v:Value)(m:Machine)(w:World)(h:Rv w v m)(hn:GT.tot m<=1048576) :
  Calls Tryz.prog 29 #[v] w fun e w' => ∃ v',e = .returned v'/\Ov w.heap.size w' v' m/\Ext w w' :=
 (zGr v m w h hn).mono fun _ _ ⟨v',h1,h2,h3,_⟩=>⟨v',h1,h2,h3⟩
end Sk
