/- Contracts of functions of the given program. -/
import Derived.Test.YtidkncgejgngcaaDrawW
namespace Sk
open Go Go.Proofs Go.RowKit
set_option maxHeartbeats 2000000
set_option maxRecDepth 100000
set_option linter.unusedVariables false
set_option linter.unusedSimpArgs false
def HBox(T:TypeId)(W w:World)(b B0 Q m:Nat)(u:World):Prop:=Mw [b] w u/\Rd W u b m/\Bk u B0 [.bool false,.int .i64 0] T/\∃ (F:Bool) (R:Int),Bk u Q [.bool F,.int .i64 R] T /\ -10<=R/\R<=10
theorem zDo(W w:World)(b m:Nat)(n:Int)(h:Rd W w b (m+5))(hn:rng n) :
  Calls Try.prog 19 #[.pointer (some ⟨b,0,none⟩),.int .i64 n] w fun e w' => ∃ x:Health,e = .returned (.agg #[.bool x.Frozen,.int .i64 x.Restarts])/\rng x.Restarts/\Mw [b] w w'/\Rd W w' b m:=by
 have H:=zh h;have hbl:=h.lt;have hbW:=h.1;have hWw:=h.2.1.sz;clear h;go_enter Try.func19,Try.ntmps19;go_upto_region 1 with (fail)
 refine zA2 (fun W0=>Ext w W0/\Bk W0 w.heap.size [.bool false,.int .i64 0] 39) ⟨(zr _).alloc _,Bk.new _ _ _⟩ ?_
 rintro W0 ⟨e0,KB⟩;have hlB:=KB.lt;have HRD:=zh (H.out.ext e0);have HMW:Hid (Mw [b] w W0):=zh (Mw.ofExt e0);replace KB:=zh KB;clear e0 H
 generalize hB0:w.heap.size=B0 at *
 replace hB0:=zh hB0;go_upto_region 2 with (go_at_call 21;refine(zA7 W _ b _ _ HRD.out (zAc (by omega) (by omega))).mono ?_;rintro e w1 ⟨k,rfl,hk,hm,hr⟩;have hkb:=hk.lt (by omega);have hsz:=Nat.le_of_eq hm.lt.symm;clear hk;replace HMW:=zh (HMW.out.tr (Mw.ofMo hm));replace KB:=zh (hm.bk KB.out (by simp;omega));replace HRD:=zh hr;clear hm hr)
 obtain⟨Q,hQ⟩:∃ Q,Q=w1.heap.size:=⟨_,rfl⟩;have hBQ:B0 < Q:=by omega
 refine zA2 (HBox 39 W w b B0 Q (m+3)) ⟨HMW.out.tr (Mw.ofExt ((zr _).alloc _)),HRD.out.ext ((zr _).alloc _),KB.out.ext ((zr _).alloc _),_,_,by rw[hQ];exact Bk.new _ _ _,by omega,by omega⟩ ?_
 rw[<- hQ];clear HMW HRD KB hQ hlB;have hbQ:b < Q:=by omega
 rintro W1 ⟨mw1,rd1,kb1,F,R,kq1,r1,r2⟩;have HMW:=zh mw1;have HRD:=zh rd1;have KB:=zh kb1;have KQ:=zh kq1;obtain⟨q0,q1⟩:=Bk.k2 kq1;have qf:=kq1.fz;have ql:=kq1.lt;clear mw1 rd1 kb1 kq1;have step:∀ q:Bool,HBox 39 W w b B0 Q (m+3) (W1.setCell ⟨Q,0,none⟩ (.bool q)):=fun q=>⟨HMW.out.set (.inr (by show _<=Q;have:=hB0.out;omega)) _,HRD.out.set (by show b≠Q;omega) (by show _<=Q;have:=hB0.out;omega) _,KB.out.set_ne (by show B0≠Q;omega) _,q,R,by have:=KQ.out.set 0 (.bool q);simpa using this,r1,r2⟩
 have ST:=zh step;clear step HMW HRD KB KQ;have hcase:(F=true\/(F=false/\(R == 3)=true))\/(F=false/\(R == 3)=false):=by
  cases F
  ·cases h:(R == 3);·exact .inr ⟨rfl,rfl⟩
   ·exact .inl (.inr ⟨rfl,rfl⟩)
  ·exact .inl (.inl rfl)
 rcases hcase with (rfl | ⟨rfl,hR⟩) | ⟨rfl,hR⟩
 all_goals
  go_upto_region 3 with (fail)
  refine zA2 (HBox 39 W w b B0 Q (m+3)) (ST.out _) ?_;clear q0 q1 qf ql ST r1 r2;try clear hR
  rintro W1 ⟨mw1,rd1,kb1,F,R,kq1,r1,r2⟩;have HMW:=zh mw1;have HRD:Hid (Rd W W1 b (m+2+1)):=zh rd1;have KB:=zh kb1;have KQ:=zh kq1;clear mw1 rd1 kb1 kq1;go_upto_if 22 with (go_at_call 20;refine(zE7 W _ b _ _ HRD.out hn).mono ?_;rintro e w2 ⟨⟨q,rfl⟩,hm,hr⟩;replace HMW:=zh (HMW.out.tr (Mw.ofMo hm));replace KB:=zh (hm.bk KB.out (by simp;omega));replace KQ:=zh (hm.bk KQ.out (by simp;omega));replace HRD:=zh hr;clear hm hr)
  go_cut [] from 7 (fun wc=>HBox 39 W w b B0 Q m wc)
  case first =>
   cases q
   ·go_wp2;go_meet
    exact⟨HMW.out,HRD.out.le (by omega),KB.out,F,R,KQ.out,r1,r2⟩
   ·go_wp2_with (first
     | (go_at_call 21;refine(zA7 W _ b m _ ((HR3.out:Rd W _ b (m+1)).ext ((zr _).alloc _)) (zAc (by omega) (by omega))).mono ?_;rintro e w4 ⟨k4,rfl,hk4,hm4,hr4⟩;obtain⟨z,hz1,hz2⟩:=zGa (zs:=[-1,4]) hm4 hbw3 hk4 rfl (by simp);have hkb4:=hk4.lt (by omega);obtain⟨hk41,hk42⟩:=hkb4;have hzb : -10<=z/\z<=10:=(by simp only[List.mem_cons,List.not_mem_nil,or_false] at hz2;omega);have HM4:=zh ((HM3.out.tr (Mw.ofExt ((zr _).alloc _))).tr (Mw.ofMo hm4));have KB4:=zh (hm4.bk (KB3.out.ext ((zr _).alloc _)) (by simp;omega));have KQ4:=hm4.bk (KQ3.out.ext ((zr _).alloc _)) (by simp;omega);have r0:=KQ4.cell (j:=0) rfl;have r1':=KQ4.cell (j:=1) rfl;have rf:=KQ4.fz;have rl:=KQ4.lt;have KQ4:=zh KQ4;have HR4:=zh hr4;clear hk4 hm4 hr4)
     | (go_at_call 21;refine(zA7 W _ b (m+1) _ HRD.out (zAc (by omega) (by omega))).mono ?_;rintro e w3 ⟨k,rfl,hk,hm,hr⟩;have HM3:=zh (HMW.out.tr (Mw.ofMo hm));have KB3:=zh (hm.bk KB.out (by simp;omega));have KQ3:=hm.bk KQ.out (by simp;omega);obtain⟨q0,q1⟩:=Bk.k2 KQ3;have qf:=KQ3.fz;have ql:=KQ3.lt;have KQ3:=zh KQ3;have HR3:=zh hr;have hbw3:=hr.lt;clear hk hm hr))
    ·go_meet
     exact⟨HM4.out.set (.inr (by show _<=Q;have:=hB0.out;omega)) _,(HR4.out.le (by omega)).set (by show b≠Q;omega) (by show _<=Q;have:=hB0.out;omega) _,KB4.out.set_ne (by show B0≠Q;omega) _,F,z,by have:=KQ4.out.set 1 (.int .i64 z);simpa using this,by omega,by omega⟩
    ·go_meet
     exact⟨(HM3.out.set (p:=⟨Q,0,none⟩) (.inr (by show _<=Q;have:=hB0.out;omega)) _).set (.inr (by show _<=Q;have:=hB0.out;omega)) _,((HR3.out.le (by omega)).set (p:=⟨Q,0,none⟩) (by show b≠Q;omega) (by show _<=Q;have:=hB0.out;omega) _).set (by show b≠Q;omega) (by show _<=Q;have:=hB0.out;omega) _,(KB3.out.set_ne (p:=⟨Q,0,none⟩) (by show B0≠Q;omega) _).set_ne (by show B0≠Q;omega) _,false,3,by have:=(KQ3.out.set 0 (.bool false)).set 1 (.int .i64 3);simpa using this,by omega,by omega⟩
  case rest =>
   clear HMW HRD KB KQ r1 r2;obtain⟨mw1,rd1,kb1,X,Y,kq1,x1,x2⟩:=hcut;obtain⟨b0,b1⟩:=Bk.k2 kb1;have bf:=kb1.fz;have bl:=kb1.lt;obtain⟨q0,q1⟩:=Bk.k2 kq1;have HMW:=zh mw1;have HRD:=zh rd1;clear mw1 rd1 kb1 kq1;go_wp2;refine bodyPost_ret (v:=.agg #[.bool X,.int .i64 Y]) (by simp[results,Try.results19,go_sem,b0,b1]) rfl ⟨⟨X,Y⟩,rfl,zAc (by show _<=Y;omega) (by show Y<=_;omega),?_,?_⟩
   ·exact(HMW.out.set (.inr (by show _<=B0;have:=hB0.out;omega)) _).set (.inr (by show _<=B0;have:=hB0.out;omega)) _
   ·exact(HRD.out.set (by show b≠B0;omega) (by show _<=B0;have:=hB0.out;omega) _).set (by show b≠B0;omega) (by show _<=B0;have:=hB0.out;omega) _
end Sk
