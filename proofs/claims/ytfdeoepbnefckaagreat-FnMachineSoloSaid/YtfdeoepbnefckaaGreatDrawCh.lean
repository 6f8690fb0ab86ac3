/- Contracts of functions of the given program. -/
import Derived.Test.YtfdeoepbnefckaaGreatDrawS
namespace Sk
open Go Go.Proofs Go.RowKit
set_option maxHeartbeats 1600000
set_option maxRecDepth 100000
set_option linter.unusedVariables false
set_option linter.unusedSimpArgs false
theorem zHb(xs:Nat)(hl:xs<=1048576)(u:World):(Instr.makeSlice 24 (.int .i64 xs) (.int .i64 xs)).run Tryz.prog u =
   .ok (.slice (some ⟨u.heap.size,0,none⟩) xs xs) (u.alloc (.cells (madeCells #[.int .i64 0,.int .i64 0,.int .i64 0,.int .i64 0] (xs*4)) 75)):=by
 obtain⟨i1,hi1,hq0,hq1,hq2⟩:=info_parts zH9;have h:=run_make (P:=Tryz.prog) u 24 75 i1 (.agg #[.int .i64 0,.int .i64 0,.int .i64 0,.int .i64 0]) Tryz.underlying24 hi1 hq0 .i64 .i64 xs xs (by omega) (Int.le_refl _) (by rw[hq2];omega) (by omega)
 simpa [hq1,Value.cells] using h
def CBox(W wo:World)(b Q m:Nat)(u:World):Prop:=Mw [b] wo u/\Rd W u b m /\
 ∃ X0 X1 X2 X3:Int,Bk u Q [.int .i64 X0,.int .i64 X1,.int .i64 X2,.int .i64 X3] 75/\(-10000<=X0/\X0<=10000)/\(-10000<=X1/\X1<=10000)/\(-10000<=X2/\X2<=10000)/\(-10000<=X3/\X3<=10000)
theorem zFa(W w:World)(b m K:Nat)(n:Int)(h:Rd W w b (m+40))(hK:K<=1000)(hn1 : -1000000<=n)(hn2:n<=1000000) :
  Calls Tryz.prog 46 #[.pointer (some ⟨b,0,none⟩),.int .i64 K,.int .i64 n] w fun e w' => ∃ v xs,e = .returned v/\Rsb (α:=Channel) w.heap.size w' v xs/\xs.length<=9/\Mw [b] w w'/\Rd W w' b m:=by
 have H:=zh h;have hbl:=h.lt;have hbW:=h.1;have hWw:=h.2.1.sz;clear h;have hmk:∀ u:World,(Instr.makeSlice 24 (.int .i64 9) (.int .i64 9)).run Tryz.prog u = .ok (.slice (some ⟨u.heap.size,0,none⟩) 9 9) (u.alloc (.cells (madeCells #[.int .i64 0,.int .i64 0,.int .i64 0,.int .i64 0] 36) 75)):=zHb 9 (by omega)
 go_enter Tryz.func46,Tryz.ntmps46;go_upto_region 2 with (fail)
 refine zA2 (fun W0=>Ext w W0/\Oo (α:=Channel) 75 w.heap.size W0 (.slice (some ⟨w.heap.size,0,none⟩) 0 0) []) ⟨(zr _).alloc _,Oo.lit0 _ _⟩ ?_
 rintro W0 ⟨e0,ho0⟩;have HRD:=zh (H.out.ext e0);have HMW:Hid (Mw [b] w W0):=zh (Mw.ofExt e0);have HO:=zh ho0;clear e0 H ho0;go_upto_block 0 with (go_at_call 49;refine(zA3 W _ b _ _ HRD.out (zA5 (by omega) (by omega))).mono ?_;rintro e w1 ⟨k,rfl,hk,hm,hr⟩;have hkb:=hk.lt (by omega);replace HMW:=zh (HMW.out.tr (Mw.ofMo hm));replace HO:=zh (HO.out.mo hm (by simp;omega));replace HRD:=zh hr;clear hk hm hr)
 obtain⟨hk1,hk2⟩:=hkb;obtain⟨J,rfl⟩:∃ J:Nat,k=J:=⟨k.toNat,by omega⟩
 have hJ5:J<=5:=by omega
 clear hk1 hk2;go_cut [7] from 9 (fun v7 wc => ∃ (ao:Option Addr) (no co:Nat) (xs:List Channel),v7 = .slice ao no co/\Oo 75 w.heap.size wc (.slice ao no co) xs/\xs.length<=5/\Mw [b] w wc/\Rd W wc b (m+5))
 case first =>
  go_wp2_with fail
  go_loopw [7,8] (fun v7 i wr => ∃ (j:Nat) (ao:Option Addr) (no co:Nat) (xs:List Channel),j<=J/\i = .int .i64 (J - j:Int)/\v7 = .slice ao no co/\Oo 75 w.heap.size wr (.slice ao no co) xs/\xs.length=j/\Mw [b] w wr/\Rd W wr b (m+30 - 4*j)) (fun _ i _=>(intOf i).toNat)
  case atStart=>exact⟨0,_,_,_,[],Nat.zero_le _,by simp,rfl,HO.out,rfl,HMW.out,HRD.out.le (by omega)⟩
  case round =>
   obtain⟨j,ao,no,co,xs,hj,rfl,rfl,hoo,hxl,hmw,hrd⟩:=hrel;clear HMW HO HRD;obtain⟨wo,rfl⟩:∃ wo,wo=wr:=⟨_,rfl⟩;have HMW:=zh hmw;have HOO:=zh hoo;have HO:=zh hoo.ob;have HXL:=zh hxl;have hxl5:xs.length<=5:=by omega
   have hs1:=hmw.size;have HR0:=zh hrd;by_cases hjt:j < J
   ·by_cases hKt:1 < K
    ·obtain⟨N,hN1,hN2⟩:∃ N,N+4<=m+30 - 4*j/\m+30 - 4*(j+1)<=N:=⟨m+26 - 4*j,by omega,by omega⟩
     have HRD:Hid (Rd W wo b (N+4)):=zh (hrd.le hN1);have HM:Hid (Mw [b] wo wo):=zh (Mw.refl _ _);clear hmw hoo hrd hxl HR0;go_upto_region 6 with (go_at_call 49;refine(zA3 W _ b _ _ HRD.out (zA5 (by omega) (by omega))).mono ?_;rintro e w2 ⟨k,rfl,hk,hm,hr⟩;have hkb:=hk.lt (by omega);replace HM:=zh (HM.out.tr (Mw.ofMo hm));replace HRD:=zh hr;clear hk hm hr)
     obtain⟨Q,hQ⟩:∃ Q,Q=w2.heap.size:=⟨_,rfl⟩;refine zA2 (CBox W wo b Q (N+1)) ⟨HM.out.tr (Mw.ofExt ((zr _).alloc _)),HRD.out.ext ((zr _).alloc _),_,_,_,_,by rw[hQ];exact Bk.new _ _ _,by omega,by omega,by omega,by omega⟩ ?_
     have hwQ:wo.heap.size<=Q:=by rw[hQ];exact HM.out.size
     rw[<- hQ];clear HM HRD hQ;have hbo:b < wo.heap.size:=by omega
     rintro w3 ⟨mw3,rd3,X0,X1,X2,X3,kq3,x0,x1,x2,x3⟩;have hQl:=kq3.lt;have hF0:∀ k ∈ [b],k < w3.heap.size:=by simp;omega
     have hbQ:b≠Q:=by omega
     obtain⟨x10,x11⟩:=x1;have hs3:=mw3.size;refine zGx rfl 11 [(31,[31]),(32,[32]),(33,[33]),(34,[34]),(35,[35]),(36,[36]),(37,[37]),(38,[38]),(39,[39]),(40,[40]),(41,[41])]
      (fun i vs u F=>match i,vs with
       | 0,[y]=>y = .pointer (some ⟨Q,1,none⟩)
       | 1,[y]=>y = .int .i64 X1
       | 2,[y]=>y = .int .i64 (X1+1)
       | 3,[y]=>y = .pointer (some ⟨b,0,none⟩)
       | 4,[y]=>y = .int .i64 K
       | 5,[y]=>y = .int .i64 (K - 1:Int)
       | 6,[y] => ∃ k:Int,y = .int .i64 k/\0<=k/\k<=1000
       | 7,[y] => ∃ k:Int,y = .int .i64 k /\ -20000<=k/\k<=20000
       | 8,[y]=>y = .int .i64 K
       | 9,[y] => ∃ k:Int,y = .int .i64 k /\ -10000<=k/\k<=10000
       | 10,[y]=>y = .pointer (some ⟨Q,2,none⟩)
       | _,_=>False) [b] hF0 [6] (fun c vs u=>match c with
       | 0=>Rd W u b (N+1)
       | _=>Rd W u b N) (by decide +kernel) (by decide +kernel) (fun w2 h=>rd3.ext h) ?_ ?_ ?_
     ·intro i hi hnt o ho U u F hE hd hap;have kqu:=hE.bk kq3 (by simpa using hbQ.symm)
      have e1:=kqu.cell (j:=1) rfl;rcases(by omega:i=0\/i=1\/i=2\/i=3\/i=4\/i=5\/i=6\/i=7\/i=8\/i=9\/i=10) with rfl|rfl|rfl|rfl|rfl|rfl|rfl|rfl|rfl|rfl|rfl
      ·cases ho;simp only[fr];intro K hK;go_wp2;exact zk hK _ (fun _ _=>rfl)
      ·cases ho;simp only[fr];obtain⟨⟨d0,-⟩,-⟩:=fa [0] (by decide +kernel) hd
       simp only[fu] at d0;try simp only[d0]
       clear d0;intro K hK;go_wp2;exact zk hK _ (fun _ _=>rfl)
      ·cases ho;simp only[fr];obtain⟨⟨d0,-⟩,⟨d1,-⟩,-⟩:=fa [0,1] (by decide +kernel) hd
       simp only[fu] at d0 d1;try simp only[d0,d1]
       clear d0 d1;intro K hK;go_wp2;exact zk hK _ (fun _ _=>rfl)
      iterate 2 (·cases ho;simp only[fr];intro K hK;go_wp2;exact zk hK _ (fun _ _=>rfl))
      ·cases ho;simp only[fr];obtain⟨⟨d4,-⟩,-⟩:=fa [4] (by decide +kernel) hd
       simp only[fu] at d4;try simp only[d4]
       clear d4;intro K hK;go_wp2;exact zk hK _ (fun _ _=>rfl)
      ·exact absurd (by decide) hnt
      ·cases ho;simp only[fr];obtain⟨⟨d0,-⟩,⟨d1,-⟩,⟨d2,-⟩,⟨d3,-⟩,⟨d4,-⟩,⟨d5,-⟩,⟨d6,o6⟩,-⟩:=fa [0,1,2,3,4,5,6] (by decide +kernel) hd
       simp only[fu] at d0 d1 d2 d3 d4 d5 d6;try simp only[d0,d1,d2,d3,d4,d5]
       obtain⟨k,g0,g1,g2⟩:=d6;simp only[g0];intro K2 hK2;go_wp2;exact hK2 _ [] _ (zr u) (fun _ h=>⟨_,rfl,by omega,by omega⟩) (Own.nil _ _)
      ·cases ho;simp only[fr];intro K hK;go_wp2;exact zk hK _ (fun _ _=>rfl)
      ·cases ho;simp only[fr];obtain⟨⟨d0,-⟩,⟨d1,-⟩,⟨d2,-⟩,⟨d3,-⟩,⟨d4,-⟩,⟨d5,-⟩,⟨d6,o6⟩,⟨d7,o7⟩,⟨d8,-⟩,-⟩:=fa [0,1,2,3,4,5,6,7,8] (by decide +kernel) hd
       simp only[fu] at d0 d1 d2 d3 d4 d5 d6 d7 d8;try simp only[d0,d1,d2,d3,d4,d5,d8]
       obtain⟨k,g0,g1,g2⟩:=d7;simp only[g0];have hK0:(K:Int)≠0:=by omega
       have hr1:=zh (Int.tmod_lt_of_pos k (show(0:Int) < K by omega))
       have hr2:=zh (Int.lt_tmod_of_pos k (show(0:Int) < K by omega))
       intro K2 hK2;go_wp2;exact hK2 _ [] _ (zr u) (fun _ h=>⟨_,rfl,by have:=hr2.out;omega,by have:=hr1.out;omega⟩) (Own.nil _ _)
      ·cases ho;simp only[fr];obtain⟨⟨d0,-⟩,⟨d1,-⟩,⟨d2,-⟩,⟨d3,-⟩,⟨d4,-⟩,⟨d5,-⟩,⟨d8,-⟩,-⟩:=fa [0,1,2,3,4,5,8] (by decide +kernel) hd
       simp only[fu] at d0 d1 d2 d3 d4 d5 d8;try simp only[d0,d1,d2,d3,d4,d5,d8]
       clear d0 d1 d2 d3 d4 d5 d8;intro K hK;go_wp2;exact zk hK _ (fun _ _=>rfl)
     ·intro c i hc o ho U u F hE hd hap ht;rcases c with _|c
      ·cases hc;cases ho;simp only[fr];obtain⟨⟨d3,-⟩,⟨d4,-⟩,⟨d5,-⟩,-⟩:=fa [3,4,5] (by decide +kernel) hd
       simp only[fu] at d3 d4 d5;try simp only[d3,d4,d5]
       have HT:Hid (Rd W u b (N+1)):=zh ht;clear ht;intro K2 hK2;go_wp2_with (go_at_call 49;refine(zA3 W _ b N _ HT.out (zA5 (by omega) (by omega))).mono ?_;rintro e w4 ⟨k4,rfl,hk,hm,hr⟩;have hkb:=hk.lt (by omega))
       exact hK2 _ [] _ (Mw.ofMo hm) (fun w3 h=>hr.ext h) (fun _ h=>⟨k4,rfl,by omega,by omega⟩) (Own.nil _ _)
      ·cases hc
     ·intro o ho U u F hE hφ hap ht;cases ho;simp only[fr];obtain⟨⟨d0,-⟩,⟨d1,-⟩,⟨d2,-⟩,⟨d3,-⟩,⟨d4,-⟩,⟨d5,-⟩,⟨d6,o6⟩,⟨d7,o7⟩,⟨d8,-⟩,⟨d9,o9⟩,⟨d10,-⟩,-⟩:=fb [0,1,2,3,4,5,6,7,8,9,10] (by decide +kernel) hφ
      simp only[fu] at d0 d1 d2 d3 d4 d5 d6 d7 d8 d9 d10;try simp only[d0,d1,d2,d3,d4,d5,d8,d10]
      obtain⟨z,g0,g1,g2⟩:=d9;have kqu:=hE.bk kq3 (by simpa using hbQ.symm)
      have q0:=kqu.cell (j:=0) rfl;have q2:=kqu.cell (j:=2) rfl;have qf:=kqu.fz;have ql:=kqu.lt;have HKQ:=zh kqu;have HMU:=zh (mw3.tr hE);have HRU:Hid (Rd W u b N):=zh ht;have hsu:=hE.size;clear d0 d1 d2 d3 d4 d5 d6 d7 d8 o6 o7 o9 hap hφ ht kqu hE kq3 rd3 mw3;simp only[g0];go_upto_if 44 with (fail)
      go_cut [] from 45 to 46 (fun wc=>CBox W wo b Q N wc)
      case first =>
       have HK2:Hid (Bk (u.setCell ⟨Q,2,none⟩ (.int .i64 z)) Q [.int .i64 X0,.int .i64 X1,.int .i64 z,.int .i64 X3] 75):=zh (by have:=HKQ.out.set 2 (.int .i64 z);simpa using this)
       have HM2:=zh (HMU.out.set (.inr (show wo.heap.size<=(⟨Q,2,none⟩:Addr).block from hwQ)) (.int .i64 z))
       have HR2:=zh (HRU.out.set (p:=⟨Q,2,none⟩) hbQ (by show _<=Q;omega) (.int .i64 z))
       have q3:=HK2.out.cell (j:=3) rfl;by_cases hX:X0=1
       ·subst hX;go_wp2;go_meet
        exact⟨HM2.out.set (.inr (show wo.heap.size<=(⟨Q,3,none⟩:Addr).block from hwQ)) _,HR2.out.set (p:=⟨Q,3,none⟩) hbQ (by show _<=Q;omega) _,_,_,_,_,by have:=HK2.out.set 3 (.int .i64 1);simpa using this,x0,⟨x10,x11⟩,⟨g1,g2⟩,⟨by omega,by omega⟩⟩
       ·have hXb:(X0 == 1)=false:=by simpa using hX
        clear hX;go_wp2;go_meet
        exact⟨HM2.out,HR2.out,_,_,_,_,HK2.out,x0,⟨x10,x11⟩,⟨g1,g2⟩,x3⟩
      case rest =>
       clear HKQ HMU HRU q0 q2 qf ql x0 x2 x3 x10 x11 g0 g1 g2;obtain⟨mwc,rdc,Y0,Y1,Y2,Y3,kqc,y0,y1,y2,y3⟩:=hcut;obtain⟨q0,q1,q2,q3⟩:=Bk.k4 kqc;have ql:=kqc.lt;have HMC:=zh mwc;have HRC:=zh rdc;have HOC:=zh (HO.out.of (w':=wc) (fun k h1 h2=>mwc.2.2 k h2 (by simp;omega)))
       have hsw:=mwc.size;have HMT:=zh (HMW.out.trF mwc (by simp))
       clear mwc rdc kqc;go_wp2_with (at_builtin;refine zBa (α:=Channel) rfl _ _ 24 rfl 75 Tryz.underlying24 zBw (v:=.slice ao no co) (ys:=[⟨Y0,Y1,Y2,Y3⟩]) rfl (HOC.out.of (fun k _ h=>((zr wc).alloc _).block k (by omega))) (by omega) (by simp<;>omega) rfl rfl (Row.lit1 (cs:=[_,_,_,_]) ⟨rfl,zA5 (by show _<=Y0;omega) (by show Y0<=_;omega),zA5 (by show _<=Y1;omega) (by show Y1<=_;omega),zA5 (by show _<=Y2;omega) (by show Y2<=_;omega),zA5 (by show _<=Y3;omega) (by show Y3<=_;omega),rfl⟩) (by simp) (Own.nil _ _) (by omega) ?_;intro v5 w5 hO5 hg5;have hrow5:=HOC.out.own;have HG5:=zh ((HMT.out.tr (Mw.ofExt ((zr _).alloc _))).trF hg5 (fun x hx => .inr (hrow5 x (Option.mem_toList.1 hx)).1));have HR5:=zh ((HRC.out.ext ((zr _).alloc _)).mw hg5 (fun hm=>by have:=hrow5 _ (Option.mem_toList.1 hm);omega) (fun x hx=>by have:=hrow5 x (Option.mem_toList.1 hx);omega));have HO5:=zh hO5;obtain⟨p5,k5,q5,rfl⟩:=HO5.sh;clear hO5 hg5)
       go_roundw
       case rel=>exact⟨j+1,_,_,_,_,by omega,congrArg _ (by omega),rfl,HO5.out,by simp[HXL.out],HG5.out,HR5.out.le (by omega)⟩
       case measure=>simp[intOf];omega
    ·have hK2:(K:Int)<=1:=by omega
     go_wp2;go_meet
     exact⟨_,_,_,_,rfl,HOO.out,hxl5,HMW.out,HR0.out.le (by omega)⟩
   ·obtain rfl:j=J:=by omega
    go_wp2;go_meet
    exact⟨_,_,_,_,rfl,HOO.out,hxl5,HMW.out,HR0.out.le (by omega)⟩
 case rest =>
  clear HMW HO HRD;obtain⟨ao,no,co,xs,rfl,hoo,hxl,hmw,hrd⟩:=hcut;have HMW:=zh hmw;have HO:=zh hoo;have HRD:=zh hrd;have hsc:=hmw.size;clear hmw hoo hrd;go_upto_if 52 with (go_at_call 20;refine(zC8 W _ b _ _ HRD.out (zA5 (by omega) (by omega))).mono ?_;rintro e w2 ⟨⟨q,rfl⟩,hm,hr⟩;have hs2:=(Mw.ofMo hm).size;replace HMW:=zh (HMW.out.tr (Mw.ofMo hm));replace HO:=zh (HO.out.mo hm (by simp;omega));replace HRD:=zh hr;clear hm hr)
  cases q
  ·go_wp2;go_ret;exact⟨_,xs,rfl,HO.out.rsb,by omega,HMW.out,HRD.out.le (by omega)⟩
  ·go_upto_if 56 with (go_at_call 49;refine(zA3 W _ b _ _ HRD.out (zA5 (by omega) (by omega))).mono ?_;rintro e w3 ⟨k,rfl,hk,hm,hr⟩;have hkb:=hk.lt (by omega);have hs3:=(Mw.ofMo hm).size;replace HMW:=zh (HMW.out.tr (Mw.ofMo hm));replace HO:=zh (HO.out.mo hm (by simp;omega));replace HRD:=zh hr;clear hk hm hr)
   have hs4:=Nat.le_trans hsc (Nat.le_trans hs2 hs3);have HOB:=zh HO.out.ob;obtain rfl|rfl|rfl|rfl|rfl:k=0\/k=1\/k=2\/k=3\/k=4:=by omega
   ·clear hkb
    go_wp2_with (first
     | (go_at_call 49;refine(zA3 W _ b (m+2) _ ((HRD.out.ext ((zr _).alloc _)).le (by omega)) (zA5 (by omega) (by omega))).mono ?_;rintro e w4 ⟨k4,rfl,hk4,hm4,hr4⟩;obtain⟨z,hz1,hz2⟩:=zCn (zs:=[0,4]) hm4 HRD.out.lt hk4 rfl (by simp);have hkb4:=hk4.lt (by omega);obtain⟨hk41,hk42⟩:=hkb4;have hzb : -10000<=z/\z<=10000:=(by simp only[List.mem_cons,List.not_mem_nil,or_false] at hz2;omega);have HM4:=zh ((HMW.out.tr (Mw.ofExt ((zr _).alloc _))).tr (Mw.ofMo hm4));have HO4:=zh (HOB.out.of (w':=w4) (fun k h1 h2=>((Mw.ofExt ((zr _).alloc _)).tr (Mw.ofMo hm4)).2.2 k h2 (by simp;omega)));have hsz4:=((Mw.ofExt (F:=[b]) ((zr w3).alloc (.cells #[.int .i64 0,.int .i64 4] 3))).tr (Mw.ofMo hm4)).size;have HR4:=zh hr4;clear hk4 hm4 hr4)
     | (at_builtin;refine zBa (α:=Channel) rfl _ _ 24 rfl 75 Tryz.underlying24 zBw (v:=.slice ao no co) (ys:=[⟨z,0,1,1⟩]) rfl (HO4.out.of (fun k _ h=>((zr w4).alloc _).block k (by omega))) (by omega) (by simp<;>omega) rfl rfl (Row.lit1 (cs:=[_,_,_,_]) ⟨rfl,zA5 (by show _<=z;omega) (by show z<=_;omega),zA5 (by show _<=(0:Int);omega) (by show(0:Int)<=_;omega),zA5 (by show _<=(1:Int);omega) (by show(1:Int)<=_;omega),zA5 (by show _<=(1:Int);omega) (by show(1:Int)<=_;omega),rfl⟩) (by simp) (Own.nil _ _) (by omega) ?_;intro v5 w5 hO5 hg5;have hrow5:=HO4.out.own;have HG5:=zh ((HM4.out.tr (Mw.ofExt ((zr _).alloc _))).trF hg5 (fun x hx => .inr (hrow5 x (Option.mem_toList.1 hx)).1));have HR5:=zh ((HR4.out.ext ((zr _).alloc _)).mw hg5 (fun hm=>by have:=hrow5 _ (Option.mem_toList.1 hm);omega) (fun x hx=>by have:=hrow5 x (Option.mem_toList.1 hx);omega));have HO5:=zh hO5;obtain⟨p5,k5,q5,rfl⟩:=HO5.sh;clear hO5 hg5))
    go_ret;exact⟨_,xs ++ [(⟨z,0,1,1⟩:Channel)],rfl,HO5.out.rsb,by simp;omega,HG5.out,HR5.out.le (by omega)⟩
   ·clear hkb;go_wp2_with (at_builtin;refine zBa (α:=Channel) rfl _ _ 24 rfl 75 Tryz.underlying24 zBw (v:=.slice ao no co) (ys:=[⟨2,0,0,1⟩]) rfl (HOB.out.of (fun k _ h=>((zr w3).alloc _).block k (by omega))) (by omega) (by simp<;>omega) rfl rfl (Row.lit1 (cs:=[_,_,_,_]) ⟨rfl,zA5 (by show _<=(2:Int);omega) (by show(2:Int)<=_;omega),zA5 (by show _<=(0:Int);omega) (by show(0:Int)<=_;omega),zA5 (by show _<=(0:Int);omega) (by show(0:Int)<=_;omega),zA5 (by show _<=(1:Int);omega) (by show(1:Int)<=_;omega),rfl⟩) (by simp) (Own.nil _ _) (by omega) ?_;intro v5 w5 hO5 hg5;have hrow5:=HOB.out.own;have HG5:=zh ((HMW.out.tr (Mw.ofExt ((zr _).alloc _))).trF hg5 (fun x hx => .inr (hrow5 x (Option.mem_toList.1 hx)).1));have HR5:=zh ((HRD.out.ext ((zr _).alloc _)).mw hg5 (fun hm=>by have:=hrow5 _ (Option.mem_toList.1 hm);omega) (fun x hx=>by have:=hrow5 x (Option.mem_toList.1 hx);omega));have HO5:=zh hO5;obtain⟨p5,k5,q5,rfl⟩:=HO5.sh;clear hO5 hg5)
    go_ret;exact⟨_,xs ++ [(⟨2,0,0,1⟩:Channel)],rfl,HO5.out.rsb,by simp;omega,HG5.out,HR5.out.le (by omega)⟩
   ·clear hkb;go_wp2_with (at_builtin;refine zBa (α:=Channel) rfl _ _ 24 rfl 75 Tryz.underlying24 zBw (v:=.slice ao no co) (ys:=[⟨2,0,K,1⟩]) rfl (HOB.out.of (fun k _ h=>((zr w3).alloc _).block k (by omega))) (by omega) (by simp<;>omega) rfl rfl (Row.lit1 (cs:=[_,_,_,_]) ⟨rfl,zA5 (by show _<=(2:Int);omega) (by show(2:Int)<=_;omega),zA5 (by show _<=(0:Int);omega) (by show(0:Int)<=_;omega),zA5 (by show _<=(K:Int);omega) (by show(K:Int)<=_;omega),zA5 (by show _<=(1:Int);omega) (by show(1:Int)<=_;omega),rfl⟩) (by simp) (Own.nil _ _) (by omega) ?_;intro v5 w5 hO5 hg5;have hrow5:=HOB.out.own;have HG5:=zh ((HMW.out.tr (Mw.ofExt ((zr _).alloc _))).trF hg5 (fun x hx => .inr (hrow5 x (Option.mem_toList.1 hx)).1));have HR5:=zh ((HRD.out.ext ((zr _).alloc _)).mw hg5 (fun hm=>by have:=hrow5 _ (Option.mem_toList.1 hm);omega) (fun x hx=>by have:=hrow5 x (Option.mem_toList.1 hx);omega));have HO5:=zh hO5;obtain⟨p5,k5,q5,rfl⟩:=HO5.sh;clear hO5 hg5)
    go_ret;exact⟨_,xs ++ [(⟨2,0,K,1⟩:Channel)],rfl,HO5.out.rsb,by simp;omega,HG5.out,HR5.out.le (by omega)⟩
   ·clear hkb;go_wp2_with (at_builtin;refine zBa (α:=Channel) rfl _ _ 24 rfl 75 Tryz.underlying24 zBw (v:=.slice ao no co) (ys:=[⟨1,0,1,2⟩]) rfl (HOB.out.of (fun k _ h=>((zr w3).alloc _).block k (by omega))) (by omega) (by simp<;>omega) rfl rfl (Row.lit1 (cs:=[_,_,_,_]) ⟨rfl,zA5 (by show _<=(1:Int);omega) (by show(1:Int)<=_;omega),zA5 (by show _<=(0:Int);omega) (by show(0:Int)<=_;omega),zA5 (by show _<=(1:Int);omega) (by show(1:Int)<=_;omega),zA5 (by show _<=(2:Int);omega) (by show(2:Int)<=_;omega),rfl⟩) (by simp) (Own.nil _ _) (by omega) ?_;intro v5 w5 hO5 hg5;have hrow5:=HOB.out.own;have HG5:=zh ((HMW.out.tr (Mw.ofExt ((zr _).alloc _))).trF hg5 (fun x hx => .inr (hrow5 x (Option.mem_toList.1 hx)).1));have HR5:=zh ((HRD.out.ext ((zr _).alloc _)).mw hg5 (fun hm=>by have:=hrow5 _ (Option.mem_toList.1 hm);omega) (fun x hx=>by have:=hrow5 x (Option.mem_toList.1 hx);omega));have HO5:=zh hO5;obtain⟨p5,k5,q5,rfl⟩:=HO5.sh;clear hO5 hg5)
    go_ret;exact⟨_,xs ++ [(⟨1,0,1,2⟩:Channel)],rfl,HO5.out.rsb,by simp;omega,HG5.out,HR5.out.le (by omega)⟩
   ·clear hkb;have hms:Hid (Rsb w.heap.size (w3.alloc (.cells (madeCells #[.int .i64 0,.int .i64 0,.int .i64 0,.int .i64 0] 36) 75)) (.slice (some ⟨w3.heap.size,0,none⟩) 9 9) (List.replicate 9 (⟨0,0,0,0⟩:Channel))) :=
     zh ((Os.made w3 9 75 #[.int .i64 0,.int .i64 0,.int .i64 0,.int .i64 0] (⟨0,0,0,0⟩:Channel) rfl rfl (by omega)).rsb.mono (by omega))
    go_wp2;go_ret;exact⟨_,_,rfl,hms.out,by simp,HMW.out.tr (Mw.ofExt ((zr _).alloc _)),(HRD.out.ext ((zr _).alloc _)).le (by omega)⟩
end Sk
