/- Contracts of functions of the given program, each under the condition that it states. -/
import Derived.Test.YtfbkkjihlncnhaaGreatChecked
import Derived.Deep.CutBlock
import Derived.Deep.CutRange
import Derived.Test.YtfbkkjihlncnhaaGreatZyDm
import Derived.Test.YtfbkkjihlncnhaaGreatHw
import Derived.Test.YtfbkkjihlncnhaaGreatRstT
import Derived.Test.YtfbkkjihlncnhaaGreatRsP
import Derived.Test.YtfbkkjihlncnhaaGreatDraw
namespace Sk
open Go Go.Proofs Go.RowKit
set_option maxHeartbeats 4000000
set_option maxRecDepth 100000
set_option linter.unusedVariables false
set_option linter.unusedSimpArgs false
theorem spec_DrawRestartPart (v:Value) (xs:List By) (w:World) (h:Rs w v xs) :
  Calls Tryz.prog 15 #[v] w fun e w' => ∃ v' x n,e = .returned (.tuple #[v',.int .i64 n])∧Rvb (α:=Machine) w.heap.size w' v' x∧GT.tot x≤200000∧(-1≤n∧n≤200000)∧Ext w w':=by
 have H:=zh h
 clear h
 go_enter Tryz.func15,Tryz.ntmps15
 go_upto_region 1 with (fail)
 refine abs_world (fun W0=>Ext w W0∧Bk W0 w.heap.size [.slice none 0 0,.slice none 0 0,.slice none 0 0,.slice none 0 0,.slice none 0 0,.slice none 0 0,.int .i64 0] 32) ⟨(Ext.refl _).alloc _,Bk.new _ _ _⟩ ?_
 rintro W0 ⟨e0,kA⟩
 have HE0:=zh e0
 have KA:=zh kA
 have hA:=kA.lt
 clear e0 kA
 go_wp2_with (first
  | (go_at_call 54;refine (spec_l20Open _ _ _ (H.out.ext HE0.out)).mono ?_;rintro e w1 ⟨b,rfl,hb,he,hr⟩;have HE:=zh he;have hs1:=he.sz;have hb1:=hr.lt;have HR:Hid (Rd W0 w1 b (0+1300)):=zh (hr.le (by omega));clear he hr)
  | (go_at_call 53;refine (spec_l20Spot W0 _ b 0 (HR.out.le (by omega))).mono ?_;rintro e w2 ⟨v2,x,n,rfl,hv,htt,hn,hm,hr⟩;obtain ⟨p0,q0,p1,q1,p2,q2,p3,q3,p4,q4,p5,q5,rfl,-⟩:=hv.openMc;have KA2:=hm.bk (KA.out.ext HE.out) (by simp;omega);obtain ⟨d0,d1,d2,d3,d4,d5,d6⟩:=Bk.k7 KA2;have df:=KA2.fz;have dl:=KA2.lt;have HV:=zh hv;have HTT:=zh htt;have HN:=zh hn;have HM2:=zh (hm.ext (HE0.out.tr HE.out) (by simp;omega));clear hm hr hv htt hn KA2))
 refine bodyPost_ret (v:=.tuple #[.agg #[.slice p0 x.Plan.Parts.length q0,.slice p1 x.Plan.Channels.length q1,.slice p2 x.Plan.Slots.length q2,.slice p3 x.Programs.length q3,.slice p4 x.Cores.length q4,.slice p5 x.Holds.length q5,.int .i64 x.Tick],.int .i64 n]) (by simp [results,Tryz.results15,go_sem,d0,d1,d2,d3,d4,d5,d6]) rfl ⟨_,x,n,rfl,?_,HTT.out,HN.out,?_⟩
 ·exact (Rvb.puts (A:=w.heap.size) (o:=0) (by omega) [.slice p0 x.Plan.Parts.length q0,.slice p1 x.Plan.Channels.length q1,.slice p2 x.Plan.Slots.length q2,.slice p3 x.Programs.length q3,.slice p4 x.Cores.length q4,.slice p5 x.Holds.length q5,.int .i64 x.Tick] HV.out).mono (by omega)
 ·exact Ext.puts (b:=w.heap.size) (o:=0) (Nat.le_refl _) [.slice p0 x.Plan.Parts.length q0,.slice p1 x.Plan.Channels.length q1,.slice p2 x.Plan.Slots.length q2,.slice p3 x.Programs.length q3,.slice p4 x.Cores.length q4,.slice p5 x.Holds.length q5,.int .i64 x.Tick] HM2.out
theorem spec_DrawViewOf (v:Value) (xs:List By) (w:World) (h:Rs w v xs) :
  Calls Tryz.prog 24 #[v] w fun e w' => ∃ v' x n,e = .returned (.tuple #[v',.int .i64 n])∧Rvb (α:=Machine) w.heap.size w' v' x∧GT.tot x≤200000∧(-1≤n∧n≤200000)∧Ext w w':=by
 have H:=zh h
 clear h
 go_enter Tryz.func24,Tryz.ntmps24
 go_upto_region 1 with (fail)
 refine abs_world (fun W0=>Ext w W0∧Bk W0 w.heap.size [.slice none 0 0,.slice none 0 0,.slice none 0 0,.slice none 0 0,.slice none 0 0,.slice none 0 0,.int .i64 0] 32) ⟨(Ext.refl _).alloc _,Bk.new _ _ _⟩ ?_
 rintro W0 ⟨e0,kA⟩
 have HE0:=zh e0
 have KA:=zh kA
 have hA:=kA.lt
 clear e0 kA
 go_wp2_with (first
  | (go_at_call 54;refine (spec_l20Open _ _ _ (H.out.ext HE0.out)).mono ?_;rintro e w1 ⟨b,rfl,hb,he,hr⟩;have HE:=zh he;have hs1:=he.sz;have hb1:=hr.lt;have HR:Hid (Rd W0 w1 b (0+1300)):=zh (hr.le (by omega));clear he hr)
  | (go_at_call 53;refine (spec_l20Spot W0 _ b 0 (HR.out.le (by omega))).mono ?_;rintro e w2 ⟨v2,x,n,rfl,hv,htt,hn,hm,hr⟩;obtain ⟨p0,q0,p1,q1,p2,q2,p3,q3,p4,q4,p5,q5,rfl,-⟩:=hv.openMc;have KA2:=hm.bk (KA.out.ext HE.out) (by simp;omega);obtain ⟨d0,d1,d2,d3,d4,d5,d6⟩:=Bk.k7 KA2;have df:=KA2.fz;have dl:=KA2.lt;have HV:=zh hv;have HTT:=zh htt;have HN:=zh hn;have HM2:=zh (hm.ext (HE0.out.tr HE.out) (by simp;omega));clear hm hr hv htt hn KA2))
 refine bodyPost_ret (v:=.tuple #[.agg #[.slice p0 x.Plan.Parts.length q0,.slice p1 x.Plan.Channels.length q1,.slice p2 x.Plan.Slots.length q2,.slice p3 x.Programs.length q3,.slice p4 x.Cores.length q4,.slice p5 x.Holds.length q5,.int .i64 x.Tick],.int .i64 n]) (by simp [results,Tryz.results24,go_sem,d0,d1,d2,d3,d4,d5,d6]) rfl ⟨_,x,n,rfl,?_,HTT.out,HN.out,?_⟩
 ·exact (Rvb.puts (A:=w.heap.size) (o:=0) (by omega) [.slice p0 x.Plan.Parts.length q0,.slice p1 x.Plan.Channels.length q1,.slice p2 x.Plan.Slots.length q2,.slice p3 x.Programs.length q3,.slice p4 x.Cores.length q4,.slice p5 x.Holds.length q5,.int .i64 x.Tick] HV.out).mono (by omega)
 ·exact Ext.puts (b:=w.heap.size) (o:=0) (Nat.le_refl _) [.slice p0 x.Plan.Parts.length q0,.slice p1 x.Plan.Channels.length q1,.slice p2 x.Plan.Slots.length q2,.slice p3 x.Programs.length q3,.slice p4 x.Cores.length q4,.slice p5 x.Holds.length q5,.int .i64 x.Tick] HM2.out
theorem spec_DrawForgetOthers (v:Value) (xs:List By) (w:World) (h:Rs w v xs) :
  Calls Tryz.prog 50 #[v] w fun e w' => ∃ v' x n,e = .returned (.tuple #[v',.int .i64 n])∧Rvb (α:=Machine) w.heap.size w' v' x∧GT.tot x≤200000∧(-1≤n∧n≤200000)∧Ext w w':=by
 have H:=zh h
 clear h
 go_enter Tryz.func50,Tryz.ntmps50
 go_upto_region 1 with (fail)
 refine abs_world (fun W0=>Ext w W0∧Bk W0 w.heap.size [.slice none 0 0,.slice none 0 0,.slice none 0 0,.slice none 0 0,.slice none 0 0,.slice none 0 0,.int .i64 0] 32) ⟨(Ext.refl _).alloc _,Bk.new _ _ _⟩ ?_
 rintro W0 ⟨e0,kA⟩
 have HE0:=zh e0
 have KA:=zh kA
 have hA:=kA.lt
 clear e0 kA
 go_wp2_with (first
  | (go_at_call 54;refine (spec_l20Open _ _ _ (H.out.ext HE0.out)).mono ?_;rintro e w1 ⟨b,rfl,hb,he,hr⟩;have HE:=zh he;have hs1:=he.sz;have hb1:=hr.lt;have HR:Hid (Rd W0 w1 b (0+1300)):=zh (hr.le (by omega));clear he hr)
  | (go_at_call 53;refine (spec_l20Spot W0 _ b 0 (HR.out.le (by omega))).mono ?_;rintro e w2 ⟨v2,x,n,rfl,hv,htt,hn,hm,hr⟩;obtain ⟨p0,q0,p1,q1,p2,q2,p3,q3,p4,q4,p5,q5,rfl,-⟩:=hv.openMc;have KA2:=hm.bk (KA.out.ext HE.out) (by simp;omega);obtain ⟨d0,d1,d2,d3,d4,d5,d6⟩:=Bk.k7 KA2;have df:=KA2.fz;have dl:=KA2.lt;have HV:=zh hv;have HTT:=zh htt;have HN:=zh hn;have HM2:=zh (hm.ext (HE0.out.tr HE.out) (by simp;omega));clear hm hr hv htt hn KA2))
 refine bodyPost_ret (v:=.tuple #[.agg #[.slice p0 x.Plan.Parts.length q0,.slice p1 x.Plan.Channels.length q1,.slice p2 x.Plan.Slots.length q2,.slice p3 x.Programs.length q3,.slice p4 x.Cores.length q4,.slice p5 x.Holds.length q5,.int .i64 x.Tick],.int .i64 n]) (by simp [results,Tryz.results50,go_sem,d0,d1,d2,d3,d4,d5,d6]) rfl ⟨_,x,n,rfl,?_,HTT.out,HN.out,?_⟩
 ·exact (Rvb.puts (A:=w.heap.size) (o:=0) (by omega) [.slice p0 x.Plan.Parts.length q0,.slice p1 x.Plan.Channels.length q1,.slice p2 x.Plan.Slots.length q2,.slice p3 x.Programs.length q3,.slice p4 x.Cores.length q4,.slice p5 x.Holds.length q5,.int .i64 x.Tick] HV.out).mono (by omega)
 ·exact Ext.puts (b:=w.heap.size) (o:=0) (Nat.le_refl _) [.slice p0 x.Plan.Parts.length q0,.slice p1 x.Plan.Channels.length q1,.slice p2 x.Plan.Slots.length q2,.slice p3 x.Programs.length q3,.slice p4 x.Cores.length q4,.slice p5 x.Holds.length q5,.int .i64 x.Tick] HM2.out
theorem tick_lit {w:World} {B:Nat} {T:TypeId} {a q z:Int} (h:Bk w B [.int .i64 a,.int .i64 q,.int .i64 (-1),.int .i64 (q+1)] T) (ha:0≤a∧a≤40) (hc:0≤q∧q≤1000) (hz:0≤z∧z≤3) :
  ∃ y:Int,w.cell? ⟨B,z.toNat,none⟩=some (.int .i64 y) ∧ -1≤y∧y≤1001:=by
 obtain rfl | rfl | rfl | rfl:z=0∨z=1∨z=2∨z=3:=by omega
 ·exact ⟨_,h.cell (j:=0) rfl,by omega,by omega⟩
 ·exact ⟨_,h.cell (j:=1) rfl,by omega,by omega⟩
 ·exact ⟨_,h.cell (j:=2) rfl,by omega,by omega⟩
 ·exact ⟨_,h.cell (j:=3) rfl,by omega,by omega⟩
theorem spec_l20Ticks (W w:World) (b m:Nat) (q:Int) (h:Rd W w b (m+2)) (hq:0≤q∧q≤1000) :
  Calls Tryz.prog 81 #[.pointer (some ⟨b,0,none⟩),.int .i64 q] w fun e w' => ∃ z:Int,e = .returned (.int .i64 z)∧(-1≤z∧z≤1001)∧Mw [b] w w'∧Rd W w' b m:=by
 have H:=zh h
 have hbl:=h.lt
 have hw:IntKind.i64.wrap (q+1)=q+1:=wrap_small (by omega) (by omega)
 clear h
 go_enter Tryz.func81,Tryz.ntmps81
 go_wp2_with (first
  | (go_at_call 80;refine (spec_pick W _ b m _ (HR1.out.ext (((Ext.refl w1).alloc _).alloc _)) (rng_sm (by omega) (by omega))).mono ?_;rintro e w3 ⟨k3,rfl,hk,hm,hr⟩;obtain ⟨z,hz1,hz2⟩:=lit_pick (zs:=[0,0,0,0,0,0,0,1,2,3]) hm (by simp;omega) hk rfl (by simp);have hk3:=hk.lt (by omega);obtain ⟨hk31,hk32⟩:=hk3;have hzb:0≤z∧z≤3:=(by simp only [List.mem_cons,List.not_mem_nil,or_false] at hz2;omega);rw [show (w1.alloc (.cells #[.int .i64 k1,.int .i64 q,.int .i64 (-1),.int .i64 (q+1)] 3)).heap.size=w1.heap.size+1 by simp] at hz1;obtain ⟨y,hy1,hy2⟩:=tick_lit (z:=z) (hm.bk ((Bk.new w1 [.int .i64 k1,.int .i64 q,.int .i64 (-1),.int .i64 (q+1)] 3).ext ((Ext.refl _).alloc _)) (by simp;omega)) (by omega) (by omega) hzb;have hlw:=hm.lt;have hlz:w1.heap.size+1 < w3.heap.size:=(by rw [hlw];simp);obtain ⟨hz3,hz4⟩:=hzb;have HM3:=zh ((HM1.out.tr (Mw.ofExt (((Ext.refl w1).alloc _).alloc _))).tr (Mw.ofMo hm));have HR3:=zh hr;clear hk hm hr hlw)
  | (go_at_call 80;refine (spec_pick W _ b _ _ H.out (rng_sm (by omega) (by omega))).mono ?_;rintro e w1 ⟨k1,rfl,hk,hm,hr⟩;have hk1:=hk.lt (by omega);obtain ⟨hk11,hk12⟩:=hk1;have HM1:Hid (Mw [b] w w1):=zh (Mw.ofMo hm);have HR1:=zh hr;have hl1:=hr.lt;clear hk hm hr))
 go_ret
 exact ⟨_,rfl,hy2,HM3.out,HR3.out⟩
theorem spec_DrawRunMachine (v:Value) (xs:List By) (w:World) (h:Rs w v xs) :
  Calls Tryz.prog 41 #[v] w fun e w' => ∃ v' x z,e = .returned (.tuple #[v',.int .i64 z])∧Rvb (α:=Machine) w.heap.size w' v' x∧GT.tot x≤200000∧(-1≤z∧z≤1001)∧Ext w w':=by
 have H:=zh h
 clear h
 go_enter Tryz.func41,Tryz.ntmps41
 go_upto_region 1 with (fail)
 refine abs_world (fun W0=>Ext w W0∧Bk W0 w.heap.size [.slice none 0 0,.slice none 0 0,.slice none 0 0,.slice none 0 0,.slice none 0 0,.slice none 0 0,.int .i64 0] 32) ⟨(Ext.refl _).alloc _,Bk.new _ _ _⟩ ?_
 rintro W0 ⟨e0,kA⟩
 have HE0:=zh e0
 have KA:=zh kA
 have hA:=kA.lt
 clear e0 kA
 go_upto_region 3 with (first
  | (go_at_call 54;refine (spec_l20Open _ _ _ (H.out.ext HE0.out)).mono ?_;rintro e w1 ⟨b,rfl,hb,he,hr⟩;have HE:=zh he;have hs1:=he.sz;have hb1:=hr.lt;have HR:Hid (Rd W0 w1 b (0+1300)):=zh (hr.le (by omega));clear he hr)
  | (go_at_call 88;refine (spec_l20Machine W0 _ b 10 12 (HR.out.le (by omega)) ⟨by omega,by omega⟩).mono ?_;rintro e w2 ⟨v2,x,rfl,hv,htt,-,hm,hr⟩;obtain ⟨p0,q0,p1,q1,p2,q2,p3,q3,p4,q4,p5,q5,rfl,-⟩:=hv.openMc;have KA2:=zh (hm.bk (KA.out.ext HE.out) (by simp;omega));have HV:=zh hv;have HTT:=zh htt;have HM2:=zh (hm.ext (HE0.out.tr HE.out) (by simp;omega));have HRB:Hid (Rd W0 w2 b 10):=zh hr;clear hm hr hv htt))
 obtain ⟨B,hB⟩:∃ B,B=w2.heap.size:=⟨_,rfl⟩
 have hAB:w.heap.size < B:=by have:=KA2.out.lt;omega
 have hbB':b < B:=by have:=HRB.out.lt;omega
 refine abs_world (fun u=>Ext w2 u∧Bk u B [.slice p0 x.Plan.Parts.length q0,.slice p1 x.Plan.Channels.length q1,.slice p2 x.Plan.Slots.length q2,.slice p3 x.Programs.length q3,.slice p4 x.Cores.length q4,.slice p5 x.Holds.length q5,.int .i64 x.Tick] 32) ⟨(Ext.refl _).alloc _,by rw [hB];exact Bk.new _ _ _⟩ ?_
 rw [← hB]
 have hsz:W0.heap.size≤b:=by have:=HE.out.sz;omega
 have hA0:w.heap.size < W0.heap.size:=hA
 clear hB
 rintro W2 ⟨e2,kB⟩
 have ltB:=kB.lt
 obtain ⟨f0,f1,f2,f3,f4,f5,f6⟩:=Bk.k7 kB
 have MW2:=zh (HM2.out.tr e2)
 have KA3:=zh (KA2.out.ext e2)
 have HV2:=zh (HV.out.ext e2)
 have RD2:Hid (Rd W0 W2 b (0+2)):=zh ((HRB.out.ext e2).le (by omega))
 have hbB:B ∉ [b]:=by simp;omega
 have hbA:w.heap.size ∉ [b]:=by simp;omega
 have KB2:=zh kB
 have hneA:B≠w.heap.size:=by omega
 clear e2 kB KA2 HM2 HV HRB KA H HR HE
 go_region_held3 (fun u=>u.cell? ⟨B,0,none⟩=some (.slice p0 x.Plan.Parts.length q0)∧u.cell? ⟨B,1,none⟩=some (.slice p1 x.Plan.Channels.length q1)∧u.cell? ⟨B,2,none⟩=some (.slice p2 x.Plan.Slots.length q2)∧u.cell? ⟨B,3,none⟩=some (.slice p3 x.Programs.length q3)∧u.cell? ⟨B,4,none⟩=some (.slice p4 x.Cores.length q4)∧u.cell? ⟨B,5,none⟩=some (.slice p5 x.Holds.length q5)∧u.cell? ⟨B,6,none⟩=some (.int .i64 x.Tick))
  (first
   | go_keep
   | exact ⟨(KB4.out.puts_ne (b:=B) (c:=w.heap.size) (o:=0) (ds:=[.slice p0 x.Plan.Parts.length q0,.slice p1 x.Plan.Channels.length q1,.slice p2 x.Plan.Slots.length q2,.slice p3 x.Programs.length q3,.slice p4 x.Cores.length q4,.slice p5 x.Holds.length q5,.int .i64 x.Tick]) hneA).cell (j:=0) rfl,(KB4.out.puts_ne (b:=B) (c:=w.heap.size) (o:=0) (ds:=[.slice p0 x.Plan.Parts.length q0,.slice p1 x.Plan.Channels.length q1,.slice p2 x.Plan.Slots.length q2,.slice p3 x.Programs.length q3,.slice p4 x.Cores.length q4,.slice p5 x.Holds.length q5,.int .i64 x.Tick]) hneA).cell (j:=1) rfl,(KB4.out.puts_ne (b:=B) (c:=w.heap.size) (o:=0) (ds:=[.slice p0 x.Plan.Parts.length q0,.slice p1 x.Plan.Channels.length q1,.slice p2 x.Plan.Slots.length q2,.slice p3 x.Programs.length q3,.slice p4 x.Cores.length q4,.slice p5 x.Holds.length q5,.int .i64 x.Tick]) hneA).cell (j:=2) rfl,(KB4.out.puts_ne (b:=B) (c:=w.heap.size) (o:=0) (ds:=[.slice p0 x.Plan.Parts.length q0,.slice p1 x.Plan.Channels.length q1,.slice p2 x.Plan.Slots.length q2,.slice p3 x.Programs.length q3,.slice p4 x.Cores.length q4,.slice p5 x.Holds.length q5,.int .i64 x.Tick]) hneA).cell (j:=3) rfl,(KB4.out.puts_ne (b:=B) (c:=w.heap.size) (o:=0) (ds:=[.slice p0 x.Plan.Parts.length q0,.slice p1 x.Plan.Channels.length q1,.slice p2 x.Plan.Slots.length q2,.slice p3 x.Programs.length q3,.slice p4 x.Cores.length q4,.slice p5 x.Holds.length q5,.int .i64 x.Tick]) hneA).cell (j:=4) rfl,(KB4.out.puts_ne (b:=B) (c:=w.heap.size) (o:=0) (ds:=[.slice p0 x.Plan.Parts.length q0,.slice p1 x.Plan.Channels.length q1,.slice p2 x.Plan.Slots.length q2,.slice p3 x.Programs.length q3,.slice p4 x.Cores.length q4,.slice p5 x.Holds.length q5,.int .i64 x.Tick]) hneA).cell (j:=5) rfl,(KB4.out.puts_ne (b:=B) (c:=w.heap.size) (o:=0) (ds:=[.slice p0 x.Plan.Parts.length q0,.slice p1 x.Plan.Channels.length q1,.slice p2 x.Plan.Slots.length q2,.slice p3 x.Programs.length q3,.slice p4 x.Cores.length q4,.slice p5 x.Holds.length q5,.int .i64 x.Tick]) hneA).cell (j:=6) rfl⟩)
  (first
   | (go_at_call 81;refine (spec_l20Ticks W0 _ b 0 400 (RD2.out.ext (Ext.refl W2).drew) ⟨by omega,by omega⟩).mono ?_;rintro e w4 ⟨z,rfl,hz,hm,hr⟩;have M4:=zh ((Mw.ofExt (F:=[b]) (Ext.refl W2).drew).tr hm);have HZ:=zh hz;have KA4:=zh (M4.out.bk KA3.out hbA);have KB4:=zh (M4.out.bk KB2.out hbB);obtain ⟨h0,h1,h2,h3,h4,h5,h6⟩:=Bk.k7 KB4.out;have ltB4:=KB4.out.lt;obtain ⟨z0,z1,z2,z3,z4,z5,z6⟩:=Bk.k7 KA4.out;have zf:=KA4.out.fz;have ltZ:=KA4.out.lt;clear hz hm hr))
 clear f0 f1 f2 f3 f4 f5 f6 h0 h1 h2 h3 h4 h5 h6
 try go_wp2
 refine bodyPost_ret (v:=.tuple #[.agg #[.slice p0 x.Plan.Parts.length q0,.slice p1 x.Plan.Channels.length q1,.slice p2 x.Plan.Slots.length q2,.slice p3 x.Programs.length q3,.slice p4 x.Cores.length q4,.slice p5 x.Holds.length q5,.int .i64 x.Tick],.int .i64 z]) (by simp [results,Tryz.results41,go_sem,z0,z1,z2,z3,z4,z5,z6]) rfl ⟨_,x,z,rfl,?_,HTT.out,HZ.out,?_⟩
 ·exact (Rvb.puts (A:=w.heap.size) (o:=0) (by omega) [.slice p0 x.Plan.Parts.length q0,.slice p1 x.Plan.Channels.length q1,.slice p2 x.Plan.Slots.length q2,.slice p3 x.Programs.length q3,.slice p4 x.Cores.length q4,.slice p5 x.Holds.length q5,.int .i64 x.Tick] ((HV2.out.mw M4.out (by simp;omega)).mono (L':=w.heap.size+1) (by omega))).mono (by omega)
 ·exact Ext.puts (b:=w.heap.size) (o:=0) (Nat.le_refl _) [.slice p0 x.Plan.Parts.length q0,.slice p1 x.Plan.Channels.length q1,.slice p2 x.Plan.Slots.length q2,.slice p3 x.Programs.length q3,.slice p4 x.Cores.length q4,.slice p5 x.Holds.length q5,.int .i64 x.Tick] ((M4.out.ext MW2.out (by simp;omega)))
theorem lawRestartPart (v:Value) (xs:List By) (w:World) (h:Rs w v xs) :
  Calls Tryz.prog 3 #[v] w fun e w'=>e = .returned (.bool true)∧Ext w w':=by
 obtain ⟨a,c,rfl,hl⟩:=h.form
 have H:=zh h
 clear h
 by_cases hx:xs.length≤1048576
 case neg =>
  have hx2:1048576 < xs.length:=by omega
  clear hx
  go_enter Tryz.func3,Tryz.ntmps3
  go_wp2
  go_ret
  exact ⟨rfl,Ext.refl w⟩
 go_enter Tryz.func3,Tryz.ntmps3
 go_upto_region 4 with (go_at_call 15;refine (spec_DrawRestartPart _ _ _ H.out).mono ?_;rintro e w1 ⟨v1,x,n,rfl,hv,htt,hn,he⟩;obtain ⟨p0,q0,p1,q1,p2,q2,p3,q3,p4,q4,p5,q5,rfl,-⟩:=hv.openMc;have HV:=zh hv.rv;have HTT:=zh htt;have HE:=zh he;clear hv htt he)
 obtain ⟨A,hA⟩:∃ A,A=w1.heap.size:=⟨_,rfl⟩
 refine abs_world (fun u=>Ext w1 u∧Bk u A [.slice p0 x.Plan.Parts.length q0,.slice p1 x.Plan.Channels.length q1,.slice p2 x.Plan.Slots.length q2,.slice p3 x.Programs.length q3,.slice p4 x.Cores.length q4,.slice p5 x.Holds.length q5,.int .i64 x.Tick] 32) ⟨(Ext.refl _).alloc _,by rw [hA];exact Bk.new _ _ _⟩ ?_
 rw [← hA]
 rintro W1 ⟨e1,kA⟩
 clear hA H
 replace HV:=zh (HV.out.ext e1)
 replace HE:=zh (HE.out.tr e1)
 have KA:=zh kA
 clear e1 kA
 have E:=zh (Ext.refl W1)
 obtain ⟨_,_,_,_,_,_,_,_,_,_,_,_,ee,r6,s0,-,s1,-,s2,-,s3,-,s4,-,s5,-⟩:=HV.out.openMachine
 have e9:=congrArg (fun v=>match v with | .agg a=>a.toList | _ => []) ee
 simp only [List.cons.injEq,Value.slice.injEq,and_true,true_and] at e9
 obtain ⟨⟨rfl,rfl⟩,⟨rfl,rfl⟩,⟨rfl,rfl⟩,⟨rfl,rfl⟩,⟨rfl,rfl⟩,⟨rfl,rfl⟩⟩:=e9
 clear ee
 have hxc:x.Cores.length≤200000:=by
  have h1:=M.tot_eq x
  have h2:=tot_len (xs:=x.Cores)
  have:=HTT.out
  omega
 have hxh:x.Holds.length≤200000:=by
  have h1:=M.tot_eq x
  have h2:=tot_len (xs:=x.Holds)
  have:=HTT.out
  omega
 obtain ⟨hn1,hn2⟩:=hn
 obtain ⟨y,hy⟩:∃ y,M.restartPart x n=y:=⟨_,rfl⟩
 have CI:=zh (fun (v:Value) (u:World) (h:Rv u v x)=>impl_RestartPart v x n u h)
 have CS:=zh (fun (v:Value) (u:World) (h:Rv u v x)=>spec_RestartPart v x n u h)
 rw [hy] at CI CS
 have HY:=zh hy
 clear hy
 have faK:=KA.out.ext E.out
 obtain ⟨fa0,fa1,fa2,fa3,fa4,fa5,fa6⟩:=Bk.k7 faK
 have faL:=faK.lt
 clear faK
 go_upto_region 5 with (go_at_call 16;refine (CI.out _ _ HV.out).mono ?_;rintro e w2 ⟨v2,rfl,ho,he⟩;obtain ⟨b0,d0,b1,d1,b2,d2,b3,d3,b4,d4,b5,d5,rfl,y6,t0,-,t1,-,t2,-,t3,-,t4,-,t5,-⟩:=ho.rv.openMachine;have HR:=zh ho.rv;replace E:=zh (E.out.tr he);clear ho he)
 obtain ⟨B,hB⟩:∃ B,B=w2.heap.size:=⟨_,rfl⟩
 refine abs_world (fun u=>Ext w2 u∧Bk u B [.slice b0 y.Plan.Parts.length d0,.slice b1 y.Plan.Channels.length d1,.slice b2 y.Plan.Slots.length d2,.slice b3 y.Programs.length d3,.slice b4 y.Cores.length d4,.slice b5 y.Holds.length d5,.int .i64 y.Tick] 32) ⟨(Ext.refl _).alloc _,by rw [hB];exact Bk.new _ _ _⟩ ?_
 rw [← hB]
 rintro W3 ⟨eb,kb⟩
 clear hB
 have EB:=zh (E.out.tr eb)
 replace HV:=zh (HV.out.ext EB.out)
 replace KA:=zh (KA.out.ext EB.out)
 replace s0:=zh (s0.out.ext EB.out)
 replace s1:=zh (s1.out.ext EB.out)
 replace s2:=zh (s2.out.ext EB.out)
 replace s3:=zh (s3.out.ext EB.out)
 replace s4:=zh (s4.out.ext EB.out)
 replace s5:=zh (s5.out.ext EB.out)
 replace HR:=zh (HR.out.ext eb)
 replace t0:=zh (t0.out.ext eb)
 replace t1:=zh (t1.out.ext eb)
 replace t2:=zh (t2.out.ext eb)
 replace t3:=zh (t3.out.ext eb)
 replace t4:=zh (t4.out.ext eb)
 replace t5:=zh (t5.out.ext eb)
 replace HE:=zh (HE.out.tr EB.out)
 have KB:=zh kb
 clear eb kb EB E
 have E:=zh (Ext.refl W3)
 clear fa0 fa1 fa2 fa3 fa4 fa5 fa6 faL
 have gaK:=KA.out.ext E.out
 obtain ⟨ga0,ga1,ga2,ga3,ga4,ga5,ga6⟩:=Bk.k7 gaK
 have gaL:=gaK.lt
 clear gaK
 have gbK:=KB.out.ext E.out
 obtain ⟨gb0,gb1,gb2,gb3,gb4,gb5,gb6⟩:=Bk.k7 gbK
 have gbL:=gbK.lt
 clear gbK
 go_region_held3 (fun u=>u.cell? ⟨A,0,none⟩=some (.slice p0 x.Plan.Parts.length q0)∧u.cell? ⟨A,1,none⟩=some (.slice p1 x.Plan.Channels.length q1)∧u.cell? ⟨A,2,none⟩=some (.slice p2 x.Plan.Slots.length q2)∧u.cell? ⟨A,3,none⟩=some (.slice p3 x.Programs.length q3)∧u.cell? ⟨A,4,none⟩=some (.slice p4 x.Cores.length q4)∧u.cell? ⟨A,5,none⟩=some (.slice p5 x.Holds.length q5)∧u.cell? ⟨A,6,none⟩=some (.int .i64 x.Tick)∧u.cell? ⟨B,0,none⟩=some (.slice b0 y.Plan.Parts.length d0)∧u.cell? ⟨B,1,none⟩=some (.slice b1 y.Plan.Channels.length d1)∧u.cell? ⟨B,2,none⟩=some (.slice b2 y.Plan.Slots.length d2)∧u.cell? ⟨B,3,none⟩=some (.slice b3 y.Programs.length d3)∧u.cell? ⟨B,4,none⟩=some (.slice b4 y.Cores.length d4)∧u.cell? ⟨B,5,none⟩=some (.slice b5 y.Holds.length d5)∧u.cell? ⟨B,6,none⟩=some (.int .i64 y.Tick))
  (go_keep)
  (first
   | (go_at_call 18;refine (CS.out _ _ (HV.out.ext E.out.drew)).mono ?_;rintro e wa ⟨v4,rfl,ho,he⟩;replace E:=zh (E.out.drew.tr he);have HR4:=zh ho.rv;clear ho;have r0aK:=KA.out.ext E.out;obtain ⟨r0a0,r0a1,r0a2,r0a3,r0a4,r0a5,r0a6⟩:=Bk.k7 r0aK;have r0aL:=r0aK.lt;clear r0aK;have r0bK:=KB.out.ext E.out;obtain ⟨r0b0,r0b1,r0b2,r0b3,r0b4,r0b5,r0b6⟩:=Bk.k7 r0bK;have r0bL:=r0bK.lt;clear r0bK;clear he)
   | (go_at_call 17;refine (law_sameMachine _ _ y _ (HR.out.ext E.out) HR4.out).mono ?_;rintro e wb ⟨rfl,he⟩;replace E:=zh (E.out.tr he);have r1aK:=KA.out.ext E.out;obtain ⟨r1a0,r1a1,r1a2,r1a3,r1a4,r1a5,r1a6⟩:=Bk.k7 r1aK;have r1aL:=r1aK.lt;clear r1aK;have r1bK:=KB.out.ext E.out;obtain ⟨r1b0,r1b1,r1b2,r1b3,r1b4,r1b5,r1b6⟩:=Bk.k7 r1bK;have r1bL:=r1bK.lt;clear r1bK;clear he;clear r0a0 r0a1 r0a2 r0a3 r0a4 r0a5 r0a6 r0b0 r0b1 r0b2 r0b3 r0b4 r0b5 r0b6 r0aL r0bL))
 clear ga0 ga1 ga2 ga3 ga4 ga5 ga6 gb0 gb1 gb2 gb3 gb4 gb5 gb6 gaL gbL
 by_cases hv:M.mv x=true∧M.inn n 0 ((x.Cores.length:Int) - 1)=true
 case neg =>
  have hl:y.Cores.length≤0:=by rw [← HY.out,M.restartPart,if_neg hv];exact Nat.le_refl _
  clear hv
  have haK:=KB.out.ext E.out
  have ha4:=haK.cell (j:=4) rfl
  have haL:=haK.lt
  clear haK
  go_wp2_with (go_at_call 19;refine (law_alive _).mono ?_;rintro e w9 ⟨rfl,he⟩;replace E:=zh (E.out.tr he);clear he)
  go_ret
  exact ⟨rfl,HE.out.tr E.out⟩
 obtain ⟨hg,hg1⟩:=hv
 obtain ⟨hg2,hg3⟩:=M.inn_iff.1 hg1
 obtain ⟨N,rfl⟩:∃ N:Nat,n=N:=⟨n.toNat,by omega⟩
 have hN:N < x.Cores.length:=by omega
 obtain ⟨q,hrs⟩:=M.RS.of hg hN
 rw [HY.out] at hrs
 have RS:=zh hrs
 have hmv:=M.mv_iff.1 hg
 have lp:x.Cores.length≤x.Plan.Parts.length:=by rw [hmv.nc];exact Nat.le_refl _
 have lc1:x.Cores.length≤y.Cores.length:=Nat.le_of_eq hrs.nc.symm
 have lc2:y.Cores.length≤x.Cores.length:=Nat.le_of_eq hrs.nc
 have lh1:x.Holds.length≤y.Holds.length:=Nat.le_of_eq hrs.nh.symm
 have lh2:x.Holds.length≤x.Plan.Channels.length:=by rw [hmv.nh];exact Nat.le_refl _
 have hy0:((y.Cores.length:Int) == 0)=false:=by rw [beq_eq_false_iff_ne];omega
 clear hrs hg hg1 hmv HY
 have haK:=KA.out.ext E.out
 have ha4:=haK.cell (j:=4) rfl
 have haL:=haK.lt
 clear haK
 have hbK:=KB.out.ext E.out
 have hb4:=hbK.cell (j:=4) rfl
 have hbL:=hbK.lt
 clear hbK
 go_wp2
 go_loopw [6] (fun i wr => ∃ k:Nat,k≤x.Cores.length∧i = .int .i64 k∧Ext W3 wr) (fun i _=>x.Cores.length - (intOf i).toNat)
 case atStart=>exact ⟨0,Nat.zero_le _,rfl,E.out⟩
 case round =>
  obtain ⟨k,hk,rfl,er⟩:=hrel
  replace E:=zh er
  clear er ha4 hb4 haL hbL
  by_cases hkt:k < x.Cores.length
  ·by_cases hkq:(k:Int)=N
   ·obtain rfl:k=N:=by omega
    clear hkq
    have iaK:=KA.out.ext E.out
    have ia4:=iaK.cell (j:=4) rfl
    have iaL:=iaK.lt
    clear iaK
    have ibK:=KB.out.ext E.out
    have ib4:=ibK.cell (j:=4) rfl
    have ibL:=ibK.lt
    clear ibK
    go_wp2
    go_big_quiet (fail)
    go_wp2
    exact ⟨⟨k+1,by omega,by go_num,E.out.drewN _⟩,by simp [intOf];omega⟩
   have hb1:((k:Int) != (N:Int))=true:=by simpa using hkq
   have hk2:k < y.Cores.length:=by omega
   obtain ⟨eb1,eo1,er1,ep1,ec1,rfl,hB1,hX1,hF10,hF11,hF12,hR1,hS1,hL1,hV1⟩:=s4.out.atCore k hkt
   have gL1:=Nat.lt_of_lt_of_le hB1 E.out.sz
   have gF10:=(cell_ext E.out hB1).trans hF10
   have gF11:=(cell_ext E.out hB1).trans hF11
   have gF12:=(cell_ext E.out hB1).trans hF12
   obtain ⟨eb2,eo2,er2,ep2,ec2,rfl,hB2,hX2,hF20,hF21,hF22,hR2,hS2,hL2,hV2⟩:=t4.out.atCore k (by omega)
   have gL2:=Nat.lt_of_lt_of_le hB2 E.out.sz
   have gF20:=(cell_ext E.out hB2).trans hF20
   have gF21:=(cell_ext E.out hB2).trans hF21
   have gF22:=(cell_ext E.out hB2).trans hF22
   obtain rfl:er2=er1:=by have h2:=hX2.out;rw [RS.out.cores k hkq,hX1.out] at h2;exact (Option.some.inj h2).symm
   clear hX1 hX2
   have iaK:=KA.out.ext E.out
   have ia4:=iaK.cell (j:=4) rfl
   have iaL:=iaK.lt
   clear iaK
   have ibK:=KB.out.ext E.out
   have ib4:=ibK.cell (j:=4) rfl
   have ibL:=ibK.lt
   clear ibK
   go_wp2
   go_region_held3 (fun u=>u.cell? ⟨A,4,none⟩=some (.slice (some ⟨eb1,eo1,none⟩) x.Cores.length q4)∧u.cell? ⟨B,4,none⟩=some (.slice (some ⟨eb2,eo2,none⟩) y.Cores.length d4)∧u.cell? ⟨eb1,eo1+k * 3,none⟩=some (.slice ep1 er2.Cells.length ec1)∧u.cell? ⟨eb1,eo1+k * 3+1,none⟩=some (.int .i64 er2.At)∧u.cell? ⟨eb1,eo1+k * 3+2,none⟩=some (.bool er2.Stopped)∧u.cell? ⟨eb2,eo2+k * 3,none⟩=some (.slice ep2 er2.Cells.length ec2)∧u.cell? ⟨eb2,eo2+k * 3+1,none⟩=some (.int .i64 er2.At)∧u.cell? ⟨eb2,eo2+k * 3+2,none⟩=some (.bool er2.Stopped))
    (go_keep)
    ((go_at_call 20;refine (law_sameCore _ _ er2 _ (hV2.out.ext E.out.drew) (hV1.out.ext E.out.drew)).mono ?_;rintro e wa ⟨rfl,he⟩;replace E:=zh (E.out.drew.tr he);have r0aK:=KA.out.ext E.out;have r0a4:=r0aK.cell (j:=4) rfl;have r0aL:=r0aK.lt;clear r0aK;have r0bK:=KB.out.ext E.out;have r0b4:=r0bK.cell (j:=4) rfl;have r0bL:=r0bK.lt;clear r0bK;have r0x0:=(cell_ext E.out hB1).trans hF10;have r0x1:=(cell_ext E.out hB1).trans hF11;have r0x2:=(cell_ext E.out hB1).trans hF12;have r0x3:=(cell_ext E.out hB2).trans hF20;have r0x4:=(cell_ext E.out hB2).trans hF21;have r0x5:=(cell_ext E.out hB2).trans hF22;clear he))
   go_wp2
   exact ⟨⟨k+1,by omega,by go_num,E.out⟩,by simp [intOf];omega⟩
  obtain rfl:k=x.Cores.length:=by omega
  have jaK:=KA.out.ext E.out
  have ja4:=jaK.cell (j:=4) rfl
  have ja5:=jaK.cell (j:=5) rfl
  have jaL:=jaK.lt
  clear jaK
  obtain ⟨wo,rfl⟩:∃ wo,wo=wr:=⟨_,rfl⟩
  go_wp2
  clear ja4 ja5 jaL
  go_loopw [7] (fun i wr => ∃ k:Nat,k≤x.Holds.length∧i = .int .i64 k∧Ext W3 wr) (fun i _=>x.Holds.length - (intOf i).toNat)
  case atStart=>exact ⟨0,Nat.zero_le _,rfl,E.out⟩
  case round =>
   obtain ⟨k,hk,rfl,er⟩:=hrel
   replace E:=zh er
   clear er
   by_cases hkt:k < x.Holds.length
   ·have hk1:k < x.Plan.Channels.length:=by omega
    have hk2:k < y.Holds.length:=by omega
    obtain ⟨eb0,eo0,er0,rfl,hB0,hX0,hF00,hF01,hF02,hF03,hR0a,hR0b,hR0c,hR0d,hV0⟩:=s1.out.atChannel k (by omega)
    have gL0:=Nat.lt_of_lt_of_le hB0 E.out.sz
    have gF00:=(cell_ext E.out hB0).trans hF00
    have gF01:=(cell_ext E.out hB0).trans hF01
    have gF02:=(cell_ext E.out hB0).trans hF02
    have gF03:=(cell_ext E.out hB0).trans hF03
    obtain ⟨eb1,eo1,er1,ep1,ec1,rfl,hB1,hX1,hF10,hS1,hL1,hV1⟩:=s5.out.atHold k hkt
    have gL1:=Nat.lt_of_lt_of_le hB1 E.out.sz
    have gF10:=(cell_ext E.out hB1).trans hF10
    obtain ⟨eb2,eo2,er2,ep2,ec2,rfl,hB2,hX2,hF20,hS2,hL2,hV2⟩:=t5.out.atHold k (by omega)
    have gL2:=Nat.lt_of_lt_of_le hB2 E.out.sz
    have gF20:=(cell_ext E.out hB2).trans hF20
    have laK:=KA.out.ext E.out
    have la1:=laK.cell (j:=1) rfl
    have la5:=laK.cell (j:=5) rfl
    have laL:=laK.lt
    clear laK
    have lbK:=KB.out.ext E.out
    have lb5:=lbK.cell (j:=5) rfl
    have lbL:=lbK.lt
    clear lbK
    by_cases h2:er0.To=N
    ·have hb1:(er0.To == (N:Int))=true:=by simpa using h2
     have hb2:(er0.To != (N:Int))=false:=by simpa using h2
     obtain rfl:er2=⟨[]⟩:=by have h3:=hX2.out;rw [RS.out.hold k er0 hX0.out hkt h2] at h3;exact (Option.some.inj h3).symm
     clear h2 hX0 hX1 hX2
     simp only [List.length_nil] at gF20
     go_wp2
     go_big_quiet (fail)
     go_wp2
     exact ⟨⟨k+1,by omega,by go_num,E.out.drewN _⟩,by simp [intOf];omega⟩
    have hbt:(er0.To != (N:Int))=true:=by simpa using h2
    have hbf:(er0.To == (N:Int))=false:=by simpa using h2
    obtain rfl:er2=er1:=by have h3:=hX2.out;rw [RS.out.holds k er0 hX0.out h2,hX1.out] at h3;exact (Option.some.inj h3).symm
    clear hX0 hX1 hX2 h2
    go_wp2
    refine wp_region_held_drew (S:=fun u=>u.cell? ⟨A,1,none⟩=some (.slice (some ⟨eb0,eo0,none⟩) x.Plan.Channels.length q1)∧u.cell? ⟨A,5,none⟩=some (.slice (some ⟨eb1,eo1,none⟩) x.Holds.length q5)∧u.cell? ⟨B,5,none⟩=some (.slice (some ⟨eb2,eo2,none⟩) y.Holds.length d5)∧u.cell? ⟨eb0,eo0+k * 4+2,none⟩=some (.int .i64 er0.To)∧u.cell? ⟨eb1,eo1+k,none⟩=some (.slice ep1 er2.Lst.length ec1)∧u.cell? ⟨eb2,eo2+k,none⟩=some (.slice ep2 er2.Lst.length ec2)) (by kernel_rfl) ?_ (fun hHeld=>?_)
    ·(try dsimp only) <;> go_keep
    refine hT 0 ?_
    refine hT 1 ?_
    refine hT 2 ?_
    refine hT 3 ?_
    refine hT 4 ?_
    refine hT 5 ?_
    refine hT 6 ?_
    refine hT 7 ?_
    refine hT 8 ?_
    refine hT 9 ?_
    refine hU 10 ?_
    refine hU 11 ?_
    refine hU 12 ?_
    refine hU 13 ?_
    refine hU 14 ?_
    refine hU 15 ?_
    refine hU 16 ?_
    refine hU 17 ?_
    refine hT 18 ?_
    refine hT 19 ?_
    refine hT 20 ?_
    refine hT 21 ?_
    refine hT 22 ?_
    refine hT 23 ?_
    refine hT 24 ?_
    refine hT 25 ?_
    refine hT 26 ?_
    refine hT 27 ?_
    refine hT 28 ?_
    refine hT 29 ?_
    refine hT 30 ?_
    refine hT 31 ?_
    refine hT 32 ?_
    refine hT 33 ?_
    refine hT 34 ?_
    refine hT 35 ?_
    refine hT 36 ?_
    refine hT 37 ?_
    refine hT 38 ?_
    refine hT 39 ?_
    refine hT 40 ?_
    refine hT 41 ?_
    refine hC 42 fun K hK=>?_
    go_simp
    (go_at_call 21;refine (law_sameInts _ _ er2.Lst er2.Lst _ (hS2.out.ext E.out.drew) (hS1.out.ext E.out.drew)).mono ?_;rintro e wa ⟨rfl,he⟩;replace E:=zh (E.out.drew.tr he);rw [Eqb.t (rfl:er2.Lst=er2.Lst)];have r0aK:=KA.out.ext E.out;have r0a1:=r0aK.cell (j:=1) rfl;have r0a5:=r0aK.cell (j:=5) rfl;have r0aL:=r0aK.lt;clear r0aK;have r0bK:=KB.out.ext E.out;have r0b5:=r0bK.cell (j:=5) rfl;have r0bL:=r0bK.lt;clear r0bK;have r0x0:=(cell_ext E.out hB0).trans hF02;have r0x1:=(cell_ext E.out hB1).trans hF10;have r0x2:=(cell_ext E.out hB2).trans hF20;clear he)
    try go_wp2_with fail
    refine hK.out _ _ ?_ (fun hHeld=>?_)
    ·(try dsimp only) <;> go_keep
    clear hK K
    try simp only [Act.put,List.setIfInBounds_toArray,List.set_cons_zero,List.set_cons_succ]
    refine hT 43 ?_
    refine hT 44 ?_
    refine hT 45 ?_
    refine wpAnyH_done (by kernel_rfl) ?_ _
    go_wp2
    exact ⟨⟨k+1,by omega,by go_num,E.out⟩,by simp [intOf];omega⟩
   obtain rfl:k=x.Holds.length:=by omega
   obtain ⟨eb3,eo3,er3,ep3,ec3,rfl,hB3,hX3,hF30,hF31,hR3,hS3,hL3,hV3⟩:=s0.out.atPart N (by omega)
   have gL3:=Nat.lt_of_lt_of_le hB3 E.out.sz
   have gF30:=(cell_ext E.out hB3).trans hF30
   have gF31:=(cell_ext E.out hB3).trans hF31
   obtain rfl:er3=q:=by have h3:=hX3.out;rw [RS.out.part] at h3;exact (Option.some.inj h3).symm
   obtain ⟨eb4,eo4,er4,ep4,ec4,rfl,hB4,hX4,hF40,hF41,hF42,hR4,hS4,hL4,hV4⟩:=t4.out.atCore N (by omega)
   have gL4:=Nat.lt_of_lt_of_le hB4 E.out.sz
   have gF40:=(cell_ext E.out hB4).trans hF40
   have gF41:=(cell_ext E.out hB4).trans hF41
   have gF42:=(cell_ext E.out hB4).trans hF42
   obtain rfl:er4=M.newCore er3.Cells:=by have h3:=hX4.out;rw [RS.out.core] at h3;exact (Option.some.inj h3).symm
   clear hX3 hX4
   have hk3:N < x.Plan.Parts.length:=by omega
   have hk4:N < y.Cores.length:=by omega
   have ht1:(y.Tick == x.Tick)=true:=by rw [RS.out.tick];exact beq_self_eq_true _
   have laK:=KA.out.ext E.out
   obtain ⟨la0,la1,la2,la3,la4,la5,la6⟩:=Bk.k7 laK
   have laL:=laK.lt
   clear laK
   have lbK:=KB.out.ext E.out
   obtain ⟨lb0,lb1,lb2,lb3,lb4,lb5,lb6⟩:=Bk.k7 lbK
   have lbL:=lbK.lt
   clear lbK
   go_wp2
   go_region_held3 (fun u=>u.cell? ⟨A,0,none⟩=some (.slice (some ⟨eb3,eo3,none⟩) x.Plan.Parts.length q0)∧u.cell? ⟨A,1,none⟩=some (.slice p1 x.Plan.Channels.length q1)∧u.cell? ⟨A,2,none⟩=some (.slice p2 x.Plan.Slots.length q2)∧u.cell? ⟨A,3,none⟩=some (.slice p3 x.Programs.length q3)∧u.cell? ⟨A,4,none⟩=some (.slice p4 x.Cores.length q4)∧u.cell? ⟨A,5,none⟩=some (.slice p5 x.Holds.length q5)∧u.cell? ⟨A,6,none⟩=some (.int .i64 x.Tick)∧u.cell? ⟨B,0,none⟩=some (.slice b0 y.Plan.Parts.length d0)∧u.cell? ⟨B,1,none⟩=some (.slice b1 y.Plan.Channels.length d1)∧u.cell? ⟨B,2,none⟩=some (.slice b2 y.Plan.Slots.length d2)∧u.cell? ⟨B,3,none⟩=some (.slice b3 y.Programs.length d3)∧u.cell? ⟨B,4,none⟩=some (.slice (some ⟨eb4,eo4,none⟩) y.Cores.length d4)∧u.cell? ⟨B,5,none⟩=some (.slice b5 y.Holds.length d5)∧u.cell? ⟨B,6,none⟩=some (.int .i64 y.Tick)∧u.cell? ⟨eb3,eo3+N * 2,none⟩=some (.slice ep3 er3.Windows.length ec3)∧u.cell? ⟨eb3,eo3+N * 2+1,none⟩=some (.int .i64 er3.Cells)∧u.cell? ⟨eb4,eo4+N * 3,none⟩=some (.slice ep4 (M.newCore er3.Cells).Cells.length ec4)∧u.cell? ⟨eb4,eo4+N * 3+1,none⟩=some (.int .i64 (M.newCore er3.Cells).At)∧u.cell? ⟨eb4,eo4+N * 3+2,none⟩=some (.bool (M.newCore er3.Cells).Stopped))
    (go_keep)
    (first
     | (go_at_call 22;refine (impl_MachineValid _ y _ (HR.out.ext E.out.drew)).mono ?_;rintro e wa ⟨rfl,he⟩;replace E:=zh (E.out.drew.tr he);rw [RS.out.mv];have r0aK:=KA.out.ext E.out;obtain ⟨r0a0,r0a1,r0a2,r0a3,r0a4,r0a5,r0a6⟩:=Bk.k7 r0aK;have r0aL:=r0aK.lt;clear r0aK;have r0bK:=KB.out.ext E.out;obtain ⟨r0b0,r0b1,r0b2,r0b3,r0b4,r0b5,r0b6⟩:=Bk.k7 r0bK;have r0bL:=r0bK.lt;clear r0bK;have r0x0:=(cell_ext E.out hB3).trans hF30;have r0x1:=(cell_ext E.out hB3).trans hF31;have r0x2:=(cell_ext E.out hB4).trans hF40;have r0x3:=(cell_ext E.out hB4).trans hF41;have r0x4:=(cell_ext E.out hB4).trans hF42;clear he)
     | (go_at_call 23;refine (impl_NewCore er3.Cells _).mono ?_;rintro e wb ⟨v7,rfl,ho,he⟩;replace E:=zh (E.out.tr he);have HO7:=zh ho.rv;clear ho;have r1aK:=KA.out.ext E.out;obtain ⟨r1a0,r1a1,r1a2,r1a3,r1a4,r1a5,r1a6⟩:=Bk.k7 r1aK;have r1aL:=r1aK.lt;clear r1aK;have r1bK:=KB.out.ext E.out;obtain ⟨r1b0,r1b1,r1b2,r1b3,r1b4,r1b5,r1b6⟩:=Bk.k7 r1bK;have r1bL:=r1bK.lt;clear r1bK;have r1x0:=(cell_ext E.out hB3).trans hF30;have r1x1:=(cell_ext E.out hB3).trans hF31;have r1x2:=(cell_ext E.out hB4).trans hF40;have r1x3:=(cell_ext E.out hB4).trans hF41;have r1x4:=(cell_ext E.out hB4).trans hF42;clear he;clear r0a0 r0a1 r0a2 r0a3 r0a4 r0a5 r0a6 r0b0 r0b1 r0b2 r0b3 r0b4 r0b5 r0b6 r0aL r0bL r0x0 r0x1 r0x2 r0x3 r0x4)
     | (go_at_call 20;refine (law_sameCore _ _ (M.newCore er3.Cells) _ (hV4.out.ext E.out) HO7.out).mono ?_;rintro e wc ⟨rfl,he⟩;replace E:=zh (E.out.tr he);have r2aK:=KA.out.ext E.out;obtain ⟨r2a0,r2a1,r2a2,r2a3,r2a4,r2a5,r2a6⟩:=Bk.k7 r2aK;have r2aL:=r2aK.lt;clear r2aK;have r2bK:=KB.out.ext E.out;obtain ⟨r2b0,r2b1,r2b2,r2b3,r2b4,r2b5,r2b6⟩:=Bk.k7 r2bK;have r2bL:=r2bK.lt;clear r2bK;have r2x0:=(cell_ext E.out hB3).trans hF30;have r2x1:=(cell_ext E.out hB3).trans hF31;have r2x2:=(cell_ext E.out hB4).trans hF40;have r2x3:=(cell_ext E.out hB4).trans hF41;have r2x4:=(cell_ext E.out hB4).trans hF42;clear he;clear r1a0 r1a1 r1a2 r1a3 r1a4 r1a5 r1a6 r1b0 r1b1 r1b2 r1b3 r1b4 r1b5 r1b6 r1aL r1bL r1x0 r1x1 r1x2 r1x3 r1x4)
     | (go_at_call 16;refine (impl_RestartPart _ y N _ (HR.out.ext E.out)).mono ?_;rintro e wd ⟨v8,rfl,ho,he⟩;replace E:=zh (E.out.tr he);rw [RS.out.idem] at ho;have HO8:=zh ho.rv;clear ho;have r3aK:=KA.out.ext E.out;obtain ⟨r3a0,r3a1,r3a2,r3a3,r3a4,r3a5,r3a6⟩:=Bk.k7 r3aK;have r3aL:=r3aK.lt;clear r3aK;have r3bK:=KB.out.ext E.out;obtain ⟨r3b0,r3b1,r3b2,r3b3,r3b4,r3b5,r3b6⟩:=Bk.k7 r3bK;have r3bL:=r3bK.lt;clear r3bK;have r3x0:=(cell_ext E.out hB3).trans hF30;have r3x1:=(cell_ext E.out hB3).trans hF31;have r3x2:=(cell_ext E.out hB4).trans hF40;have r3x3:=(cell_ext E.out hB4).trans hF41;have r3x4:=(cell_ext E.out hB4).trans hF42;clear he;clear r2a0 r2a1 r2a2 r2a3 r2a4 r2a5 r2a6 r2b0 r2b1 r2b2 r2b3 r2b4 r2b5 r2b6 r2aL r2bL r2x0 r2x1 r2x2 r2x3 r2x4)
     | (go_at_call 17;refine (law_sameMachine _ _ y _ HO8.out (HR.out.ext E.out)).mono ?_;rintro e we ⟨rfl,he⟩;replace E:=zh (E.out.tr he);have r4aK:=KA.out.ext E.out;obtain ⟨r4a0,r4a1,r4a2,r4a3,r4a4,r4a5,r4a6⟩:=Bk.k7 r4aK;have r4aL:=r4aK.lt;clear r4aK;have r4bK:=KB.out.ext E.out;obtain ⟨r4b0,r4b1,r4b2,r4b3,r4b4,r4b5,r4b6⟩:=Bk.k7 r4bK;have r4bL:=r4bK.lt;clear r4bK;have r4x0:=(cell_ext E.out hB3).trans hF30;have r4x1:=(cell_ext E.out hB3).trans hF31;have r4x2:=(cell_ext E.out hB4).trans hF40;have r4x3:=(cell_ext E.out hB4).trans hF41;have r4x4:=(cell_ext E.out hB4).trans hF42;clear he;clear r3a0 r3a1 r3a2 r3a3 r3a4 r3a5 r3a6 r3b0 r3b1 r3b2 r3b3 r3b4 r3b5 r3b6 r3aL r3bL r3x0 r3x1 r3x2 r3x3 r3x4))
   all_goals
    go_wp2
    go_ret
    exact ⟨rfl,HE.out.tr E.out⟩
end Sk
