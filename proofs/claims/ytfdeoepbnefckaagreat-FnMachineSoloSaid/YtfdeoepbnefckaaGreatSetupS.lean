/- Contracts of functions of the given program. -/
import Derived.Deep.CutRange
import Derived.Test.YtfdeoepbnefckaaGreatBuild
namespace Sk
open Go Go.Proofs Go.RowKit
set_option maxHeartbeats 4000000
set_option maxRecDepth 100000
set_option linter.unusedVariables false
set_option linter.unusedSimpArgs false
theorem zGs(v:Value)(s:Setup)(w:World)(h:Rv w v s)(hn:GT.tot s<=1048576) :
  Calls Tryz.prog 64 #[v] w fun e w' => ∃ v',e = .returned v'/\Ov w.heap.size w' v' s/\Ext w w':=by
 have H0:=zh h;have ht:GT.tot s=GT.tot s.Parts+GT.tot s.Channels+GT.tot s.Slots:=rfl;obtain⟨a0,c0,a1,c1,a2,c2,rfl,h0,hl0,h1,hl1,h2,hl2⟩:=h.openSetup;clear h;have hnl:s.Parts.length<=1048576:=Nat.le_trans zB0 (by omega)
 have hw1:s.Channels.length<=1048576:=Nat.le_trans zB0 (by omega)
 have hw2:s.Slots.length<=1048576:=Nat.le_trans zB0 (by omega)
 go_enter Tryz.func64,Tryz.ntmps64;go_upto_region 1 with (fail)
 refine zA2 (fun W=>Ext w W/\Bk W w.heap.size [.slice a0 s.Parts.length c0,.slice a1 s.Channels.length c1,.slice a2 s.Slots.length c2] 27/\Bk W (w.heap.size+1) [.slice none 0 0,.slice none 0 0,.slice none 0 0] 27) ⟨((zr _).alloc _).alloc _,(Bk.new _ _ _).ext ((zr _).alloc _),Bk.new1 _ _ _ _⟩ ?_
 rintro w0 ⟨E,KA,KB⟩;have ltA:=KA.lt;have ltB:=KB.lt;replace E:=zh E;replace KA:=zh KA;replace KB:=zh KB;have f1:=KA.out.cell (j:=1) rfl;have f2:=KA.out.cell (j:=2) rfl;refine zAk rfl 10 [(5,[5]),(6,[6]),(7,[7]),(8,[8]),(9,[9]),(10,[10]),(11,[11]),(12,[12]),(13,[13,8,12]),(3,[3])]
  (fun i vs u F=>match i,vs with
   | 0,[x] => ∃ B,x = .slice (some ⟨B,0,none⟩) 0 0
   | 1,[x]=>x = .pointer (some ⟨w.heap.size,1,none⟩)
   | 2,[x]=>x = .slice a1 s.Channels.length c1
   | 3,[x]=>Sl u x s.Channels F
   | 4,[x] => ∃ B,x = .slice (some ⟨B,0,none⟩) 0 0
   | 5,[x]=>x = .pointer (some ⟨w.heap.size,2,none⟩)
   | 6,[x]=>x = .slice a2 s.Slots.length c2
   | 7,[x]=>Sl u x s.Slots F
   | 8,[x,y,z]=>x = .agg #[.slice none 0 0,y,z]
   | 9,[x] => ∃ B,x = .pointer (some ⟨B,0,none⟩)/\F = [B]/\Bk u B [.slice none 0 0,.slice none 0 0,.slice none 0 0] 27
   | _,_=>False) (by decide +kernel) ?_ ?_
 ·intro i hi o ho U u F hE hd hap;have g1:=(zA0 hE ltA).trans f1;have g2:=(zA0 hE ltA).trans f2;rcases(by omega:i=0\/i=1\/i=2\/i=3\/i=4\/i=5\/i=6\/i=7\/i=8\/i=9) with rfl|rfl|rfl|rfl|rfl|rfl|rfl|rfl|rfl|rfl
  ·cases ho;simp only[fr];intro K hK;go_wp2;exact hK _ [] _ ((zr u).alloc _) (fun _ _=>⟨_,rfl⟩) (Own.nil _ _)
  ·cases ho;simp only[fr];intro K hK;go_wp2;exact zk hK _ (fun _ _=>rfl)
  ·cases ho;simp only[fr];obtain⟨⟨d1,-⟩,-⟩:=fa [1] (by decide +kernel) hd
   simp only[fu] at d1;try simp only[d1]
   clear d1;intro K hK;go_wp2;exact zk hK _ (fun _ _=>rfl)
  ·cases ho;simp only[fr];obtain⟨⟨d0,o0⟩,⟨d1,-⟩,⟨d2,-⟩,-⟩:=fa [0,1,2] (by decide +kernel) hd
   simp only[fu] at d0 d1 d2;try simp only[d1,d2]
   obtain⟨B,d0⟩:=d0;simp only[d0];intro K hK;refine zD6 (α:=Channel) rfl _ _ 24 rfl 75 Tryz.underlying24 zBw rfl rfl (h1.out.ext (E.out.tr hE)) (by omega) ?_
   intro v' w' F' s1 o1 e1;go_wp2;exact hK _ F' _ e1 (fun _ h=>s1.ext h) o1
  ·cases ho;simp only[fr];intro K hK;go_wp2;exact hK _ [] _ ((zr u).alloc _) (fun _ _=>⟨_,rfl⟩) (Own.nil _ _)
  ·cases ho;simp only[fr];intro K hK;go_wp2;exact zk hK _ (fun _ _=>rfl)
  ·cases ho;simp only[fr];obtain⟨⟨d5,-⟩,-⟩:=fa [5] (by decide +kernel) hd
   simp only[fu] at d5;try simp only[d5]
   clear d5;intro K hK;go_wp2;exact zk hK _ (fun _ _=>rfl)
  ·cases ho;simp only[fr];obtain⟨⟨d0,o0⟩,⟨d1,-⟩,⟨d2,-⟩,⟨d3,o3⟩,⟨d4,o4⟩,⟨d5,-⟩,⟨d6,-⟩,-⟩:=fa [0,1,2,3,4,5,6] (by decide +kernel) hd
   simp only[fu] at d0 d1 d2 d3 d4 d5 d6;try simp only[d1,d2,d5,d6]
   obtain⟨B,d4⟩:=d4;simp only[d4];intro K hK;refine zD6 (α:=Slot) rfl _ _ 25 rfl 101 Tryz.underlying25 zId rfl rfl (h2.out.ext (E.out.tr hE)) (by omega) ?_
   intro v' w' F' s1 o1 e1;go_wp2;exact hK _ F' _ e1 (fun _ h=>s1.ext h) o1
  ·cases ho;simp only[fr];obtain⟨⟨d0,o0⟩,⟨d1,-⟩,⟨d2,-⟩,⟨d3,o3⟩,⟨d4,o4⟩,⟨d5,-⟩,⟨d6,-⟩,⟨d7,o7⟩,-⟩:=fa [0,1,2,3,4,5,6,7] (by decide +kernel) hd
   simp only[fu] at d0 d1 d2 d3 d4 d5 d6 d7;try simp only[d1,d2,d5,d6]
   obtain⟨p3,q3,g3,_⟩:=d3;obtain⟨p7,q7,g7,_⟩:=d7;simp only[g3,g7];intro K hK;go_wp2;exact zk hK _ (fun _ _=>by show Value.agg _=Value.agg #[_,U 8,U 12];rw[g3,g7])
  ·cases ho;simp only[fr];intro K hK;go_wp2;have b1:=Bk.new u [.slice none 0 0,.slice none 0 0,.slice none 0 0] 27;exact hK _ [u.heap.size] _ ((zr u).alloc _) (fun _ h=>⟨_,rfl,rfl,b1.ext h⟩) (b1.own (Nat.le_refl _))
 ·intro o ho U u F hE hφ hap;cases ho;simp only[fr];obtain⟨⟨d0,o0⟩,⟨d1,-⟩,⟨d2,-⟩,⟨d3,o3⟩,⟨d4,o4⟩,⟨d5,-⟩,⟨d6,-⟩,⟨d7,o7⟩,⟨d8,-⟩,⟨d9,o9⟩,-⟩:=fb [0,1,2,3,4,5,6,7,8,9] (by decide +kernel) hφ
  simp only[fu] at d0 d1 d2 d3 d4 d5 d6 d7 d8 d9;try simp only[d1,d2,d5,d6,d8]
  obtain⟨B,d9,k9,b9⟩:=d9;have a37:=hap 3 7 (by omega) (by omega) (by omega)
  have a39:=hap 3 9 (by omega) (by omega) (by omega)
  have a79:=hap 7 9 (by omega) (by omega) (by omega)
  generalize F 3=F3 at *
  generalize F 7=F7 at *
  rw[k9] at o9 a39 a79;clear k9 hap hφ o0 o4;simp only[d9];have e3:=d3;have e7:=d7;obtain⟨p3,q3,g3,_⟩:=e3;obtain⟨p7,q7,g7,_⟩:=e7;simp only[g3,g7] at d3 d7 ⊢;obtain⟨b90,b91,b92⟩:=Bk.k3 b9;have b9f:=b9.fz;go_wp2;have lB:w0.heap.size<=B:=(o9.2 B (by simp)).1
  have ltB2:=b9.lt;refine zA2 (fun W=>Ext w W/\B < W.heap.size/\Bk W B [.slice none 0 0,.slice p3 s.Channels.length q3,.slice p7 s.Slots.length q7] 27/\Sl W (.slice p3 s.Channels.length q3) s.Channels F3/\Sl W (.slice p7 s.Slots.length q7) s.Slots F7/\Own w0.heap.size W (F3++F7 ++ [B])/\Bk W w.heap.size [.slice a0 s.Parts.length c0,.slice a1 s.Channels.length c1,.slice a2 s.Slots.length c2] 27/\Bk W (w.heap.size+1) [.slice none 0 0,.slice none 0 0,.slice none 0 0] 27) ?_ ?_
  ·refine⟨(((E.out.tr hE).set (by show _<=B;omega) _).set (by show _<=B;omega) _).set (by show _<=B;omega) _,by simpa using ltB2,((b9.set 0 _).set 1 _).set 2 _,((d3.set a39.one _).set a39.one _).set a39.one _,((d7.set a79.one _).set a79.one _).set a79.one _,((((o3.join o7 a37).join o9 (a39.app a79)).set _ _).set _ _).set _ _,?_,?_⟩
   ·exact(((KA.out.ext hE).set_ne (by show _≠B;omega) _).set_ne (by show _≠B;omega) _).set_ne (by show _≠B;omega) _
   ·exact(((KB.out.ext hE).set_ne (by show _≠B;omega) _).set_ne (by show _≠B;omega) _).set_ne (by show _≠B;omega) _
  rintro W ⟨E1,ltW,BB,S3,S7,OW,KA1,KB1⟩;have lW:w0.heap.size<=W.heap.size:=by omega
  replace BB:=zh BB;replace KA1:=zh KA1;replace KB1:=zh KB1;replace S3:=zh S3;replace S7:=zh S7;replace OW:=zh OW;replace E1:=zh E1;clear hE d0 d4 b9 o9 o3 o7 a39 a79 a37 f1 f2 KA KB E b90 b91 b92 b9f d3 d7
  generalize hn':s.Parts.length=n at *
  go_loopw [4] (fun i wr => ∃ (k:Nat) (ao:Option Addr) (no co:Nat),k<=n/\i = .int .i64 k/\Chg B 0 1 [] W wr/\wr.cell? ⟨B,0,none⟩=some (.slice ao no co)/\Oo 47 W.heap.size wr (.slice ao no co) (s.Parts.take k)) (fun i _=>n - (intOf i).toNat)
  case atStart=>exact⟨0,_,_,_,Nat.zero_le _,rfl,Chg.refl _ _ _ _ _,BB.out.cell (j:=0) rfl,Oo.nil _ _ _⟩
  case round =>
   obtain⟨k,ao,no,co,hk,rfl,hch,hc0,ho⟩:=hrel;have HC:=zh hch;have HO:=zh ho;clear hch ho;have BA:=HC.out.bk KA1.out (by omega) (by simp)
   have lWr:W.heap.size<=wr.heap.size:=HC.out.sz;have EW:=zh (HC.out.ext E1.out (by omega) (by simp))
   have a10:=BA.cell (j:=0) rfl;have ltA2:=BA.lt;have a10f:=BA.fz;replace BA:=zh BA;have hf0:∀ j,wr.frozen? ⟨B,j,none⟩=false:=by
    obtain⟨cs,T,hb⟩:=HC.out.fzk B ⟨_,_,BB.out⟩;exact hb.fz
   by_cases hkt:k < n
   ·obtain⟨b,o,x,wa,wc,rfl,hb,hx,hp0,hp1,hr1,hs0,hl0,hv⟩:=h0.out.atPart k (by rw[hn'];exact hkt)
    go_upto_region 5 with (fail)
    have hst:s.Parts.take (k+1)=s.Parts.take k ++ [x]:=zAd hx.out;have hwl:x.Windows.length<=1048576:=by
     have:=zEw hx.out
     have h2:x.Windows.length<=GT.tot x.Windows:=zB0;have h3:GT.tot x=GT.tot x.Windows+GT.tot x.Cells:=rfl;omega
    have hWo:∀ j,(Value.slice ao no co).ownBlock=some j->W.heap.size<=j:=HO.out.own;refine zAm rfl 20 [(21,[21]),(22,[22]),(23,[23]),(24,[24]),(25,[25]),(26,[26]),(27,[27]),(28,[28]),(29,[29]),(30,[30]),(31,[31]),(32,[32]),(33,[33]),(34,[34]),(35,[35]),(36,[36]),(37,[37,36]),(38,[38,37]),(39,[39]),(40,[40])]
     (fun i vs u F=>match i,vs with
      | 0,[y]=>y = .pointer (some ⟨B,0,none⟩)
      | 1,[y]=>y = .slice ao no co
      | 2,[y]=>y = .pointer (some ⟨w.heap.size,0,none⟩)
      | 3,[y]=>y = .slice (some ⟨b,o,none⟩) n c0
      | 4,[y]=>y = .int .i64 k
      | 5,[y]=>y = .pointer (some ⟨b,o+k*2,none⟩)
      | 6,[y]=>y = .pointer (some ⟨b,o+k*2+1,none⟩)
      | 7,[y]=>y = .int .i64 x.Cells
      | 8,[y] => ∃ B,y = .slice (some ⟨B,0,none⟩) 0 0
      | 9,[y]=>y = .pointer (some ⟨w.heap.size,0,none⟩)
      | 10,[y]=>y = .slice (some ⟨b,o,none⟩) n c0
      | 11,[y]=>y = .int .i64 k
      | 12,[y]=>y = .pointer (some ⟨b,o+k*2,none⟩)
      | 13,[y]=>y = .pointer (some ⟨b,o+k*2,none⟩)
      | 14,[y]=>y = .slice wa x.Windows.length wc
      | 15,[y]=>Sl u y x.Windows F
      | 16,[y,z]=>y = .agg #[z,.int .i64 x.Cells]
      | 17,[y,z] => ∃ b0 cs,y = .slice (some ⟨b0,0,none⟩) 1 1/\z = .agg cs.toArray/\Bk u b0 cs 47
      | 18,[y]=>Oo 47 W.heap.size u y (s.Parts.take k ++ [x])
      | 19,[y]=>y = .pointer (some ⟨B,0,none⟩)
      | _,_=>False) 18 (Value.slice ao no co).ownBlock HO.out.lt (by decide +kernel) ?_ ?_ ?_
    ·intro i hi hne oo ho U u F hG hd hap;have hE:=Ext.grown EW.out hG (fun j hj=>by have:=hWo j hj;omega)
     have e0:=zAe hG hc0 (by omega) (fun j hj=>by have:=hWo j hj;omega)
     have e1:=zAe hG a10 (by omega) (fun j hj=>by have:=hWo j hj;omega)
     have e2:=(zA0 hE hb).trans hp0;have e3:=(zA0 hE hb).trans hp1;rcases(by omega:i=0\/i=1\/i=2\/i=3\/i=4\/i=5\/i=6\/i=7\/i=8\/i=9\/i=10\/i=11\/i=12\/i=13\/i=14\/i=15\/i=16\/i=17\/i=18\/i=19) with rfl|rfl|rfl|rfl|rfl|rfl|rfl|rfl|rfl|rfl|rfl|rfl|rfl|rfl|rfl|rfl|rfl|rfl|rfl|rfl
     ·cases ho;simp only[fr];intro K hK;go_wp2;exact zk hK _ (fun _ _=>rfl)
     ·cases ho;simp only[fr];obtain⟨⟨d0,-⟩,-⟩:=fa [0] (by decide +kernel) hd
      simp only[fu] at d0;try simp only[d0]
      clear d0;intro K hK;go_wp2;exact zk hK _ (fun _ _=>rfl)
     ·cases ho;simp only[fr];intro K hK;go_wp2;exact zk hK _ (fun _ _=>rfl)
     ·cases ho;simp only[fr];obtain⟨⟨d2,-⟩,-⟩:=fa [2] (by decide +kernel) hd
      simp only[fu] at d2;try simp only[d2]
      clear d2;intro K hK;go_wp2;exact zk hK _ (fun _ _=>rfl)
     ·cases ho;simp only[fr];intro K hK;go_wp2;exact zk hK _ (fun _ _=>rfl)
     ·cases ho;simp only[fr];obtain⟨⟨d2,-⟩,⟨d3,-⟩,⟨d4,-⟩,-⟩:=fa [2,3,4] (by decide +kernel) hd
      simp only[fu] at d2 d3 d4;try simp only[d2,d3,d4]
      clear d2 d3 d4;intro K hK;go_wp2;exact zk hK _ (fun _ _=>rfl)
     ·cases ho;simp only[fr];obtain⟨⟨d2,-⟩,⟨d3,-⟩,⟨d4,-⟩,⟨d5,-⟩,-⟩:=fa [2,3,4,5] (by decide +kernel) hd
      simp only[fu] at d2 d3 d4 d5;try simp only[d2,d3,d4,d5]
      clear d2 d3 d4 d5;intro K hK;go_wp2;exact zk hK _ (fun _ _=>rfl)
     ·cases ho;simp only[fr];obtain⟨⟨d2,-⟩,⟨d3,-⟩,⟨d4,-⟩,⟨d5,-⟩,⟨d6,-⟩,-⟩:=fa [2,3,4,5,6] (by decide +kernel) hd
      simp only[fu] at d2 d3 d4 d5 d6;try simp only[d2,d3,d4,d5,d6]
      clear d2 d3 d4 d5 d6;intro K hK;go_wp2;exact zk hK _ (fun _ _=>rfl)
     ·cases ho;simp only[fr];intro K hK;go_wp2;exact hK _ [] _ ((zr u).alloc _) (fun _ _=>⟨_,rfl⟩) (Own.nil _ _)
     ·cases ho;simp only[fr];intro K hK;go_wp2;exact zk hK _ (fun _ _=>rfl)
     ·cases ho;simp only[fr];obtain⟨⟨d9,-⟩,-⟩:=fa [9] (by decide +kernel) hd
      simp only[fu] at d9;try simp only[d9]
      clear d9;intro K hK;go_wp2;exact zk hK _ (fun _ _=>rfl)
     ·cases ho;simp only[fr];intro K hK;go_wp2;exact zk hK _ (fun _ _=>rfl)
     ·cases ho;simp only[fr];obtain⟨⟨d9,-⟩,⟨d10,-⟩,⟨d11,-⟩,-⟩:=fa [9,10,11] (by decide +kernel) hd
      simp only[fu] at d9 d10 d11;try simp only[d9,d10,d11]
      clear d9 d10 d11;intro K hK;go_wp2;exact zk hK _ (fun _ _=>rfl)
     ·cases ho;simp only[fr];obtain⟨⟨d9,-⟩,⟨d10,-⟩,⟨d11,-⟩,⟨d12,-⟩,-⟩:=fa [9,10,11,12] (by decide +kernel) hd
      simp only[fu] at d9 d10 d11 d12;try simp only[d9,d10,d11,d12]
      clear d9 d10 d11 d12;intro K hK;go_wp2;exact zk hK _ (fun _ _=>rfl)
     ·cases ho;simp only[fr];obtain⟨⟨d9,-⟩,⟨d10,-⟩,⟨d11,-⟩,⟨d12,-⟩,⟨d13,-⟩,-⟩:=fa [9,10,11,12,13] (by decide +kernel) hd
      simp only[fu] at d9 d10 d11 d12 d13;try simp only[d9,d10,d11,d12,d13]
      clear d9 d10 d11 d12 d13;intro K hK;go_wp2;exact zk hK _ (fun _ _=>rfl)
     ·cases ho;simp only[fr];obtain⟨⟨d8,o8⟩,⟨d9,-⟩,⟨d10,-⟩,⟨d11,-⟩,⟨d12,-⟩,⟨d13,-⟩,⟨d14,-⟩,-⟩:=fa [8,9,10,11,12,13,14] (by decide +kernel) hd
      simp only[fu] at d8 d9 d10 d11 d12 d13 d14;try simp only[d9,d10,d11,d12,d13,d14]
      obtain⟨B8,d8⟩:=d8;simp only[d8];intro K hK;refine zD6 (α:=Window) rfl _ _ 45 rfl 71 Tryz.underlying45 zFg rfl rfl (hs0.out.ext hE) (by omega) ?_
      intro v' w' F' s1 ow1 ex1;go_wp2;exact hK _ F' _ ex1 (fun _ h=>s1.grown h fun j hj e=>by have:=(ow1.2 j hj).1;have:=HO.out.lt j e;have:=hG.size;omega) ow1
     ·cases ho;simp only[fr];obtain⟨⟨d2,-⟩,⟨d3,-⟩,⟨d4,-⟩,⟨d5,-⟩,⟨d6,-⟩,⟨d7,-⟩,⟨d8,o8⟩,⟨d9,-⟩,⟨d10,-⟩,⟨d11,-⟩,⟨d12,-⟩,⟨d13,-⟩,⟨d14,-⟩,⟨d15,o15⟩,-⟩:=fa [2,3,4,5,6,7,8,9,10,11,12,13,14,15] (by decide +kernel) hd
      simp only[fu] at d2 d3 d4 d5 d6 d7 d8 d9 d10 d11 d12 d13 d14 d15;try simp only[d2,d3,d4,d5,d6,d7,d9,d10,d11,d12,d13,d14]
      obtain⟨p15,q15,g15,_⟩:=d15;simp only[g15];intro K hK;go_wp2;exact zk hK _ (fun _ _=>by show Value.agg _=Value.agg #[U 36,_];rw[g15])
     ·cases ho;simp only[fr];obtain⟨⟨d2,-⟩,⟨d3,-⟩,⟨d4,-⟩,⟨d5,-⟩,⟨d6,-⟩,⟨d7,-⟩,⟨d8,o8⟩,⟨d9,-⟩,⟨d10,-⟩,⟨d11,-⟩,⟨d12,-⟩,⟨d13,-⟩,⟨d14,-⟩,⟨d15,o15⟩,⟨d16,-⟩,-⟩:=fa [2,3,4,5,6,7,8,9,10,11,12,13,14,15,16] (by decide +kernel) hd
      simp only[fu] at d2 d3 d4 d5 d6 d7 d8 d9 d10 d11 d12 d13 d14 d15 d16;try simp only[d2,d3,d4,d5,d6,d7,d9,d10,d11,d12,d13,d14,d16]
      obtain⟨p15,q15,g15,_⟩:=d15;rw[g15] at d16;simp only[g15];intro K hK;go_wp2;have b1:=Bk.new u [.slice p15 x.Windows.length q15,.int .i64 x.Cells] 47;exact hK _ [] _ ((zr u).alloc _) (fun _ h=>⟨_,_,rfl,d16,b1.grown h fun e=>by have:=HO.out.lt _ e;have:=hG.size;omega⟩) (Own.nil _ _)
     ·exact absurd rfl hne
     ·cases ho;simp only[fr];obtain⟨⟨d0,-⟩,⟨d1,-⟩,⟨d2,-⟩,⟨d3,-⟩,⟨d4,-⟩,⟨d5,-⟩,⟨d6,-⟩,⟨d7,-⟩,⟨d9,-⟩,⟨d10,-⟩,⟨d11,-⟩,⟨d12,-⟩,⟨d13,-⟩,⟨d14,-⟩,⟨d16,-⟩,-⟩:=fa [0,1,2,3,4,5,6,7,9,10,11,12,13,14,16] (by decide +kernel) hd
      simp only[fu] at d0 d1 d2 d3 d4 d5 d6 d7 d9 d10 d11 d12 d13 d14 d16;try simp only[d0,d1,d2,d3,d4,d5,d6,d7,d9,d10,d11,d12,d13,d14,d16]
      clear d0 d1 d2 d3 d4 d5 d6 d7 d9 d10 d11 d12 d13 d14 d16;intro K hK;go_wp2;exact zk hK _ (fun _ _=>rfl)
    ·intro _ oo ho U u F hE hd hap;cases ho;simp only[fr];obtain⟨⟨d0,-⟩,⟨d1,-⟩,⟨d2,-⟩,⟨d3,-⟩,⟨d4,-⟩,⟨d5,-⟩,⟨d6,-⟩,⟨d7,-⟩,⟨d8,o8⟩,⟨d9,-⟩,⟨d10,-⟩,⟨d11,-⟩,⟨d12,-⟩,⟨d13,-⟩,⟨d14,-⟩,⟨d15,o15⟩,⟨d16,-⟩,⟨d17,o17⟩,-⟩:=fa [0,1,2,3,4,5,6,7,8,9,10,11,12,13,14,15,16,17] (by decide +kernel) hd
     simp only[fu] at d0 d1 d2 d3 d4 d5 d6 d7 d8 d9 d10 d11 d12 d13 d14 d15 d16 d17;try simp only[d0,d1,d2,d3,d4,d5,d6,d7,d9,d10,d11,d12,d13,d14,d16]
     obtain⟨b0,cs,d17,z17,b17⟩:=d17;rw[d16] at z17;obtain rfl:cs = [U 36,.int .i64 x.Cells]:=(congrArg Array.toList (zDl z17)).symm;simp only[d17];intro K hK;refine zBi (u:=wr) (α:=Part) rfl _ _ 23 rfl 47 Tryz.underlying23 zIc (v:=.slice ao no co) (ys:=[x]) rfl HO.out hE lWr rfl rfl (Row.one ⟨_,rfl,d15,hr1⟩ (fun j y hj=>by rw[Nat.zero_add];exact b17.cell hj)) (by simp) o15 (by simp;omega) ?_
     intro v2 w2 hO2 hg2;go_wp2;exact hK _ [] _ hg2 (fun _ h=>hO2.ext h) (Own.nil _ _)
    ·intro oo ho U u F hG hφ hap;cases ho;simp only[fr];obtain⟨⟨d0,-⟩,⟨d1,-⟩,⟨d2,-⟩,⟨d3,-⟩,⟨d4,-⟩,⟨d5,-⟩,⟨d6,-⟩,⟨d7,-⟩,⟨d8,o8⟩,⟨d9,-⟩,⟨d10,-⟩,⟨d11,-⟩,⟨d12,-⟩,⟨d13,-⟩,⟨d14,-⟩,⟨d15,o15⟩,⟨d16,-⟩,⟨d17,o17⟩,⟨d18,o18⟩,⟨d19,-⟩,-⟩:=fb [0,1,2,3,4,5,6,7,8,9,10,11,12,13,14,15,16,17,18,19] (by decide +kernel) hφ
     simp only[fu] at d0 d1 d2 d3 d4 d5 d6 d7 d8 d9 d10 d11 d12 d13 d14 d15 d16 d17 d18 d19;try simp only[d0,d1,d2,d3,d4,d5,d6,d7,d9,d10,d11,d12,d13,d14,d16,d19]
     clear d0 d1 d2 d3 d4 d5 d6 d7 d8 d9 d10 d11 d12 d13 d14 d15 d16 d17 d19 o8 o15 o17 o18 hap hφ;have e0:=zAe hG hc0 (by omega) (fun j hj=>by have:=hWo j hj;omega)
     have f0:u.frozen? ⟨B,0,none⟩=false:=(World.frozen?_of_block (hG.block B (by omega) (fun e=>by have:=hWo B e.symm;omega))).trans (hf0 0)
     obtain⟨p9,n9,q9,e9⟩:=d18.sh;simp only[e9] at d18 ⊢;have hCu:=HC.out.grown hG hWo ltW;go_wp2;go_roundw
     case rel=>exact⟨k+1,_,_,_,by omega,by go_num,hCu.set ⟨by omega,by omega⟩ _,zAu e0,by rw[hst];exact d18.set ltW _⟩
     case measure=>simp[intOf];omega
   ·obtain rfl:k=n:=by omega
    have hl:s.Parts.take k=s.Parts:=List.take_of_length_le (by omega)
    rw[hl] at HO;have hc1:=(HC.out.cell (j:=1) (by omega)).trans (BB.out.cell (j:=1) rfl)
    have hc2:=(HC.out.cell (j:=2) (by omega)).trans (BB.out.cell (j:=2) rfl)
    have BZ:=HC.out.bk KB1.out (by omega) (by simp)
    obtain⟨z0,z1,z2⟩:=Bk.k3 BZ;have zf:=BZ.fz;have ltZ:=BZ.lt;obtain⟨F0,S0,O0⟩:=HO.out.os;have hB:B ∉ F3++F7:=OW.out.parted.one;have C3:=HC.out.sl S3.out (fun h=>hB (List.mem_append_left _ h)) (fun _ _ h=>by cases h)
    have C7:=HC.out.sl S7.out (fun h=>hB (List.mem_append_right _ h)) (fun _ _ h=>by cases h)
    have O37:=OW.out.left.chg HC.out;have hlow:∀ j∈F3++F7,j < W.heap.size:=fun j hj=>OW.out.lt (List.mem_append_left _ hj)
    have hZ:w.heap.size+1 ∉ F0:=fun hm=>by have:=(O0.2 _ hm).1;omega
    have hZ2:w.heap.size+1 ∉ F3++F7:=fun hm=>by have:=(O37.2 _ hm).1;omega
    have OO:Own w.heap.size wr (F0++(F3++F7)):=(O0.mono (by omega)).join (O37.mono (by omega)) (zAw.symm (zAw.far hlow fun j hj=>(O0.2 j hj).1))
    replace S0:=zh S0;replace C3:=zh C3;replace C7:=zh C7;replace OO:=zh OO;clear O0 O37;go_wp2;refine bodyPost_ret (v:=.agg #[.slice ao no co,.slice p3 s.Channels.length q3,.slice p7 s.Slots.length q7]) (by simp[results,Tryz.results64,go_sem,z0,z1,z2]) rfl ⟨_,rfl,⟨_,_,rfl,⟨_,_,_,_,_,_,rfl,((S0.out.set hZ _).set hZ _).set hZ _,((C3.out.set (fun h=>hZ2 (List.mem_append_left _ h)) _).set (fun h=>hZ2 (List.mem_append_left _ h)) _).set (fun h=>hZ2 (List.mem_append_left _ h)) _,((C7.out.set (fun h=>hZ2 (List.mem_append_right _ h)) _).set (fun h=>hZ2 (List.mem_append_right _ h)) _).set (fun h=>hZ2 (List.mem_append_right _ h)) _,rfl⟩,((OO.out.set _ _).set _ _).set _ _⟩,?_⟩
    exact((EW.out.set (by simp) _).set (by simp) _).set (by simp) _
end Sk
