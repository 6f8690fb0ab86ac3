/- Contracts of functions of the given program, each under the condition that it states. -/
import Derived.Test.YtfbkkjihlncnhaaGreatChecked
import Derived.Deep.CutBlock
import Derived.Deep.CutRange
import Derived.Test.YtfbkkjihlncnhaaGreatZyDm
namespace Sk
open Go Go.Proofs Go.RowKit
set_option maxHeartbeats 4000000
set_option maxRecDepth 100000
set_option linter.unusedVariables false
set_option linter.unusedSimpArgs false
theorem spec_DrawRestartPart (v:Value) (xs:List By) (w:World) (h:Rs w v xs) :
  Calls Tryz.prog 15 #[v] w fun e w' => ∃ v' x n,e = .returned (.tuple #[v',.int .i64 n])∧Rvb (α:=Machine) w.heap.size w' v' x∧GT.tot x≤200000∧(-1≤n∧n≤200000)∧Ext w w':=by
 have H:=zh h
 clear h
 go_enter Tryz.func15,Tryz.ntmps15
 go_upto_region 1 with (fail)
 refine abs_world (fun W0=>Ext w W0∧Bk W0 w.heap.size [.slice none 0 0,.slice none 0 0,.slice none 0 0,.slice none 0 0,.slice none 0 0,.slice none 0 0,.int .i64 0] 32) ⟨(Ext.refl _).alloc _,Bk.new _ _ _⟩ ?_
 rintro W0 ⟨e0,kA⟩
 have HE0:=zh e0
 have KA:=zh kA
 have hA:=kA.lt
 clear e0 kA
 go_wp2_with (first
  | (go_at_call 54;refine (spec_l20Open _ _ _ (H.out.ext HE0.out)).mono ?_;rintro e w1 ⟨b,rfl,hb,he,hr⟩;have HE:=zh he;have hs1:=he.sz;have hb1:=hr.lt;have HR:Hid (Rd W0 w1 b (0+1300)):=zh (hr.le (by omega));clear he hr)
  | (go_at_call 53;refine (spec_l20Spot W0 _ b 0 (HR.out.le (by omega))).mono ?_;rintro e w2 ⟨v2,x,n,rfl,hv,htt,hn,hm,hr⟩;obtain ⟨p0,q0,p1,q1,p2,q2,p3,q3,p4,q4,p5,q5,rfl,-⟩:=hv.openMc;have KA2:=hm.bk (KA.out.ext HE.out) (by simp;omega);obtain ⟨d0,d1,d2,d3,d4,d5,d6⟩:=Bk.k7 KA2;have df:=KA2.fz;have dl:=KA2.lt;have HV:=zh hv;have HTT:=zh htt;have HN:=zh hn;have HM2:=zh (hm.ext (HE0.out.tr HE.out) (by simp;omega));clear hm hr hv htt hn KA2))
 refine bodyPost_ret (v:=.tuple #[.agg #[.slice p0 x.Plan.Parts.length q0,.slice p1 x.Plan.Channels.length q1,.slice p2 x.Plan.Slots.length q2,.slice p3 x.Programs.length q3,.slice p4 x.Cores.length q4,.slice p5 x.Holds.length q5,.int .i64 x.Tick],.int .i64 n]) (by simp [results,Tryz.results15,go_sem,d0,d1,d2,d3,d4,d5,d6]) rfl ⟨_,x,n,rfl,?_,HTT.out,HN.out,?_⟩
 ·exact (Rvb.puts (A:=w.heap.size) (o:=0) (by omega) [.slice p0 x.Plan.Parts.length q0,.slice p1 x.Plan.Channels.length q1,.slice p2 x.Plan.Slots.length q2,.slice p3 x.Programs.length q3,.slice p4 x.Cores.length q4,.slice p5 x.Holds.length q5,.int .i64 x.Tick] HV.out).mono (by omega)
 ·exact Ext.puts (b:=w.heap.size) (o:=0) (Nat.le_refl _) [.slice p0 x.Plan.Parts.length q0,.slice p1 x.Plan.Channels.length q1,.slice p2 x.Plan.Slots.length q2,.slice p3 x.Programs.length q3,.slice p4 x.Cores.length q4,.slice p5 x.Holds.length q5,.int .i64 x.Tick] HM2.out
theorem spec_DrawViewOf (v:Value) (xs:List By) (w:World) (h:Rs w v xs) :
  Calls Tryz.prog 24 #[v] w fun e w' => ∃ v' x n,e = .returned (.tuple #[v',.int .i64 n])∧Rvb (α:=Machine) w.heap.size w' v' x∧GT.tot x≤200000∧(-1≤n∧n≤200000)∧Ext w w':=by
 have H:=zh h
 clear h
 go_enter Tryz.func24,Tryz.ntmps24
 go_upto_region 1 with (fail)
 refine abs_world (fun W0=>Ext w W0∧Bk W0 w.heap.size [.slice none 0 0,.slice none 0 0,.slice none 0 0,.slice none 0 0,.slice none 0 0,.slice none 0 0,.int .i64 0] 32) ⟨(Ext.refl _).alloc _,Bk.new _ _ _⟩ ?_
 rintro W0 ⟨e0,kA⟩
 have HE0:=zh e0
 have KA:=zh kA
 have hA:=kA.lt
 clear e0 kA
 go_wp2_with (first
  | (go_at_call 54;refine (spec_l20Open _ _ _ (H.out.ext HE0.out)).mono ?_;rintro e w1 ⟨b,rfl,hb,he,hr⟩;have HE:=zh he;have hs1:=he.sz;have hb1:=hr.lt;have HR:Hid (Rd W0 w1 b (0+1300)):=zh (hr.le (by omega));clear he hr)
  | (go_at_call 53;refine (spec_l20Spot W0 _ b 0 (HR.out.le (by omega))).mono ?_;rintro e w2 ⟨v2,x,n,rfl,hv,htt,hn,hm,hr⟩;obtain ⟨p0,q0,p1,q1,p2,q2,p3,q3,p4,q4,p5,q5,rfl,-⟩:=hv.openMc;have KA2:=hm.bk (KA.out.ext HE.out) (by simp;omega);obtain ⟨d0,d1,d2,d3,d4,d5,d6⟩:=Bk.k7 KA2;have df:=KA2.fz;have dl:=KA2.lt;have HV:=zh hv;have HTT:=zh htt;have HN:=zh hn;have HM2:=zh (hm.ext (HE0.out.tr HE.out) (by simp;omega));clear hm hr hv htt hn KA2))
 refine bodyPost_ret (v:=.tuple #[.agg #[.slice p0 x.Plan.Parts.length q0,.slice p1 x.Plan.Channels.length q1,.slice p2 x.Plan.Slots.length q2,.slice p3 x.Programs.length q3,.slice p4 x.Cores.length q4,.slice p5 x.Holds.length q5,.int .i64 x.Tick],.int .i64 n]) (by simp [results,Tryz.results24,go_sem,d0,d1,d2,d3,d4,d5,d6]) rfl ⟨_,x,n,rfl,?_,HTT.out,HN.out,?_⟩
 ·exact (Rvb.puts (A:=w.heap.size) (o:=0) (by omega) [.slice p0 x.Plan.Parts.length q0,.slice p1 x.Plan.Channels.length q1,.slice p2 x.Plan.Slots.length q2,.slice p3 x.Programs.length q3,.slice p4 x.Cores.length q4,.slice p5 x.Holds.length q5,.int .i64 x.Tick] HV.out).mono (by omega)
 ·exact Ext.puts (b:=w.heap.size) (o:=0) (Nat.le_refl _) [.slice p0 x.Plan.Parts.length q0,.slice p1 x.Plan.Channels.length q1,.slice p2 x.Plan.Slots.length q2,.slice p3 x.Programs.length q3,.slice p4 x.Cores.length q4,.slice p5 x.Holds.length q5,.int .i64 x.Tick] HM2.out
theorem tick_lit {w:World} {B:Nat} {T:TypeId} {a q z:Int} (h:Bk w B [.int .i64 a,.int .i64 q,.int .i64 (-1),.int .i64 (q+1)] T) (ha:0≤a∧a≤40) (hc:0≤q∧q≤1000) (hz:0≤z∧z≤3) :
  ∃ y:Int,w.cell? ⟨B,z.toNat,none⟩=some (.int .i64 y) ∧ -1≤y∧y≤1001:=by
 obtain rfl | rfl | rfl | rfl:z=0∨z=1∨z=2∨z=3:=by omega
 ·exact ⟨_,h.cell (j:=0) rfl,by omega,by omega⟩
 ·exact ⟨_,h.cell (j:=1) rfl,by omega,by omega⟩
 ·exact ⟨_,h.cell (j:=2) rfl,by omega,by omega⟩
 ·exact ⟨_,h.cell (j:=3) rfl,by omega,by omega⟩
theorem spec_l20Ticks (W w:World) (b m:Nat) (q:Int) (h:Rd W w b (m+2)) (hq:0≤q∧q≤1000) :
  Calls Tryz.prog 81 #[.pointer (some ⟨b,0,none⟩),.int .i64 q] w fun e w' => ∃ z:Int,e = .returned (.int .i64 z)∧(-1≤z∧z≤1001)∧Mw [b] w w'∧Rd W w' b m:=by
 have H:=zh h
 have hbl:=h.lt
 have hw:IntKind.i64.wrap (q+1)=q+1:=wrap_small (by omega) (by omega)
 clear h
 go_enter Tryz.func81,Tryz.ntmps81
 go_wp2_with (first
  | (go_at_call 80;refine (spec_pick W _ b m _ (HR1.out.ext (((Ext.refl w1).alloc _).alloc _)) (rng_sm (by omega) (by omega))).mono ?_;rintro e w3 ⟨k3,rfl,hk,hm,hr⟩;obtain ⟨z,hz1,hz2⟩:=lit_pick (zs:=[0,0,0,0,0,0,0,1,2,3]) hm (by simp;omega) hk rfl (by simp);have hk3:=hk.lt (by omega);obtain ⟨hk31,hk32⟩:=hk3;have hzb:0≤z∧z≤3:=(by simp only [List.mem_cons,List.not_mem_nil,or_false] at hz2;omega);rw [show (w1.alloc (.cells #[.int .i64 k1,.int .i64 q,.int .i64 (-1),.int .i64 (q+1)] 3)).heap.size=w1.heap.size+1 by simp] at hz1;obtain ⟨y,hy1,hy2⟩:=tick_lit (z:=z) (hm.bk ((Bk.new w1 [.int .i64 k1,.int .i64 q,.int .i64 (-1),.int .i64 (q+1)] 3).ext ((Ext.refl _).alloc _)) (by simp;omega)) (by omega) (by omega) hzb;have hlw:=hm.lt;have hlz:w1.heap.size+1 < w3.heap.size:=(by rw [hlw];simp);obtain ⟨hz3,hz4⟩:=hzb;have HM3:=zh ((HM1.out.tr (Mw.ofExt (((Ext.refl w1).alloc _).alloc _))).tr (Mw.ofMo hm));have HR3:=zh hr;clear hk hm hr hlw)
  | (go_at_call 80;refine (spec_pick W _ b _ _ H.out (rng_sm (by omega) (by omega))).mono ?_;rintro e w1 ⟨k1,rfl,hk,hm,hr⟩;have hk1:=hk.lt (by omega);obtain ⟨hk11,hk12⟩:=hk1;have HM1:Hid (Mw [b] w w1):=zh (Mw.ofMo hm);have HR1:=zh hr;have hl1:=hr.lt;clear hk hm hr))
 go_ret
 exact ⟨_,rfl,hy2,HM3.out,HR3.out⟩
theorem spec_DrawRunMachine (v:Value) (xs:List By) (w:World) (h:Rs w v xs) :
  Calls Tryz.prog 41 #[v] w fun e w' => ∃ v' x z,e = .returned (.tuple #[v',.int .i64 z])∧Rvb (α:=Machine) w.heap.size w' v' x∧GT.tot x≤200000∧(-1≤z∧z≤1001)∧Ext w w':=by
 have H:=zh h
 clear h
 go_enter Tryz.func41,Tryz.ntmps41
 go_upto_region 1 with (fail)
 refine abs_world (fun W0=>Ext w W0∧Bk W0 w.heap.size [.slice none 0 0,.slice none 0 0,.slice none 0 0,.slice none 0 0,.slice none 0 0,.slice none 0 0,.int .i64 0] 32) ⟨(Ext.refl _).alloc _,Bk.new _ _ _⟩ ?_
 rintro W0 ⟨e0,kA⟩
 have HE0:=zh e0
 have KA:=zh kA
 have hA:=kA.lt
 clear e0 kA
 go_upto_region 3 with (first
  | (go_at_call 54;refine (spec_l20Open _ _ _ (H.out.ext HE0.out)).mono ?_;rintro e w1 ⟨b,rfl,hb,he,hr⟩;have HE:=zh he;have hs1:=he.sz;have hb1:=hr.lt;have HR:Hid (Rd W0 w1 b (0+1300)):=zh (hr.le (by omega));clear he hr)
  | (go_at_call 88;refine (spec_l20Machine W0 _ b 10 12 (HR.out.le (by omega)) ⟨by omega,by omega⟩).mono ?_;rintro e w2 ⟨v2,x,rfl,hv,htt,-,hm,hr⟩;obtain ⟨p0,q0,p1,q1,p2,q2,p3,q3,p4,q4,p5,q5,rfl,-⟩:=hv.openMc;have KA2:=zh (hm.bk (KA.out.ext HE.out) (by simp;omega));have HV:=zh hv;have HTT:=zh htt;have HM2:=zh (hm.ext (HE0.out.tr HE.out) (by simp;omega));have HRB:Hid (Rd W0 w2 b 10):=zh hr;clear hm hr hv htt))
 obtain ⟨B,hB⟩:∃ B,B=w2.heap.size:=⟨_,rfl⟩
 have hAB:w.heap.size < B:=by have:=KA2.out.lt;omega
 have hbB':b < B:=by have:=HRB.out.lt;omega
 refine abs_world (fun u=>Ext w2 u∧Bk u B [.slice p0 x.Plan.Parts.length q0,.slice p1 x.Plan.Channels.length q1,.slice p2 x.Plan.Slots.length q2,.slice p3 x.Programs.length q3,.slice p4 x.Cores.length q4,.slice p5 x.Holds.length q5,.int .i64 x.Tick] 32) ⟨(Ext.refl _).alloc _,by rw [hB];exact Bk.new _ _ _⟩ ?_
 rw [← hB]
 have hsz:W0.heap.size≤b:=by have:=HE.out.sz;omega
 have hA0:w.heap.size < W0.heap.size:=hA
 clear hB
 rintro W2 ⟨e2,kB⟩
 have ltB:=kB.lt
 obtain ⟨f0,f1,f2,f3,f4,f5,f6⟩:=Bk.k7 kB
 have MW2:=zh (HM2.out.tr e2)
 have KA3:=zh (KA2.out.ext e2)
 have HV2:=zh (HV.out.ext e2)
 have RD2:Hid (Rd W0 W2 b (0+2)):=zh ((HRB.out.ext e2).le (by omega))
 have hbB:B ∉ [b]:=by simp;omega
 have hbA:w.heap.size ∉ [b]:=by simp;omega
 have KB2:=zh kB
 have hneA:B≠w.heap.size:=by omega
 clear e2 kB KA2 HM2 HV HRB KA H HR HE
 go_region_held3 (fun u=>u.cell? ⟨B,0,none⟩=some (.slice p0 x.Plan.Parts.length q0)∧u.cell? ⟨B,1,none⟩=some (.slice p1 x.Plan.Channels.length q1)∧u.cell? ⟨B,2,none⟩=some (.slice p2 x.Plan.Slots.length q2)∧u.cell? ⟨B,3,none⟩=some (.slice p3 x.Programs.length q3)∧u.cell? ⟨B,4,none⟩=some (.slice p4 x.Cores.length q4)∧u.cell? ⟨B,5,none⟩=some (.slice p5 x.Holds.length q5)∧u.cell? ⟨B,6,none⟩=some (.int .i64 x.Tick))
  (first
   | go_keep
   | exact ⟨(KB4.out.puts_ne (b:=B) (c:=w.heap.size) (o:=0) (ds:=[.slice p0 x.Plan.Parts.length q0,.slice p1 x.Plan.Channels.length q1,.slice p2 x.Plan.Slots.length q2,.slice p3 x.Programs.length q3,.slice p4 x.Cores.length q4,.slice p5 x.Holds.length q5,.int .i64 x.Tick]) hneA).cell (j:=0) rfl,(KB4.out.puts_ne (b:=B) (c:=w.heap.size) (o:=0) (ds:=[.slice p0 x.Plan.Parts.length q0,.slice p1 x.Plan.Channels.length q1,.slice p2 x.Plan.Slots.length q2,.slice p3 x.Programs.length q3,.slice p4 x.Cores.length q4,.slice p5 x.Holds.length q5,.int .i64 x.Tick]) hneA).cell (j:=1) rfl,(KB4.out.puts_ne (b:=B) (c:=w.heap.size) (o:=0) (ds:=[.slice p0 x.Plan.Parts.length q0,.slice p1 x.Plan.Channels.length q1,.slice p2 x.Plan.Slots.length q2,.slice p3 x.Programs.length q3,.slice p4 x.Cores.length q4,.slice p5 x.Holds.length q5,.int .i64 x.Tick]) hneA).cell (j:=2) rfl,(KB4.out.puts_ne (b:=B) (c:=w.heap.size) (o:=0) (ds:=[.slice p0 x.Plan.Parts.length q0,.slice p1 x.Plan.Channels.length q1,.slice p2 x.Plan.Slots.length q2,.slice p3 x.Programs.length q3,.slice p4 x.Cores.length q4,.slice p5 x.Holds.length q5,.int .i64 x.Tick]) hneA).cell (j:=3) rfl,(KB4.out.puts_ne (b:=B) (c:=w.heap.size) (o:=0) (ds:=[.slice p0 x.Plan.Parts.length q0,.slice p1 x.Plan.Channels.length q1,.slice p2 x.Plan.Slots.length q2,.slice p3 x.Programs.length q3,.slice p4 x.Cores.length q4,.slice p5 x.Holds.length q5,.int .i64 x.Tick]) hneA).cell (j:=4) rfl,(KB4.out.puts_ne (b:=B) (c:=w.heap.size) (o:=0) (ds:=[.slice p0 x.Plan.Parts.length q0,.slice p1 x.Plan.Channels.length q1,.slice p2 x.Plan.Slots.length q2,.slice p3 x.Programs.length q3,.slice p4 x.Cores.length q4,.slice p5 x.Holds.length q5,.int .i64 x.Tick]) hneA).cell (j:=5) rfl,(KB4.out.puts_ne (b:=B) (c:=w.heap.size) (o:=0) (ds:=[.slice p0 x.Plan.Parts.length q0,.slice p1 x.Plan.Channels.length q1,.slice p2 x.Plan.Slots.length q2,.slice p3 x.Programs.length q3,.slice p4 x.Cores.length q4,.slice p5 x.Holds.length q5,.int .i64 x.Tick]) hneA).cell (j:=6) rfl⟩)
  (first
   | (go_at_call 81;refine (spec_l20Ticks W0 _ b 0 400 (RD2.out.ext (Ext.refl W2).drew) ⟨by omega,by omega⟩).mono ?_;rintro e w4 ⟨z,rfl,hz,hm,hr⟩;have M4:=zh ((Mw.ofExt (F:=[b]) (Ext.refl W2).drew).tr hm);have HZ:=zh hz;have KA4:=zh (M4.out.bk KA3.out hbA);have KB4:=zh (M4.out.bk KB2.out hbB);obtain ⟨h0,h1,h2,h3,h4,h5,h6⟩:=Bk.k7 KB4.out;have ltB4:=KB4.out.lt;obtain ⟨z0,z1,z2,z3,z4,z5,z6⟩:=Bk.k7 KA4.out;have zf:=KA4.out.fz;have ltZ:=KA4.out.lt;clear hz hm hr))
 clear f0 f1 f2 f3 f4 f5 f6 h0 h1 h2 h3 h4 h5 h6
 try go_wp2
 refine bodyPost_ret (v:=.tuple #[.agg #[.slice p0 x.Plan.Parts.length q0,.slice p1 x.Plan.Channels.length q1,.slice p2 x.Plan.Slots.length q2,.slice p3 x.Programs.length q3,.slice p4 x.Cores.length q4,.slice p5 x.Holds.length q5,.int .i64 x.Tick],.int .i64 z]) (by simp [results,Tryz.results41,go_sem,z0,z1,z2,z3,z4,z5,z6]) rfl ⟨_,x,z,rfl,?_,HTT.out,HZ.out,?_⟩
 ·exact (Rvb.puts (A:=w.heap.size) (o:=0) (by omega) [.slice p0 x.Plan.Parts.length q0,.slice p1 x.Plan.Channels.length q1,.slice p2 x.Plan.Slots.length q2,.slice p3 x.Programs.length q3,.slice p4 x.Cores.length q4,.slice p5 x.Holds.length q5,.int .i64 x.Tick] ((HV2.out.mw M4.out (by simp;omega)).mono (L':=w.heap.size+1) (by omega))).mono (by omega)
 ·exact Ext.puts (b:=w.heap.size) (o:=0) (Nat.le_refl _) [.slice p0 x.Plan.Parts.length q0,.slice p1 x.Plan.Channels.length q1,.slice p2 x.Plan.Slots.length q2,.slice p3 x.Programs.length q3,.slice p4 x.Cores.length q4,.slice p5 x.Holds.length q5,.int .i64 x.Tick] ((M4.out.ext MW2.out (by simp;omega)))
theorem spec_DrawViewTrace (v:Value) (xs:List By) (w:World) (h:Rs w v xs) :
  Calls Tryz.prog 45 #[v] w fun e w' => ∃ v' x n z,e = .returned (.tuple #[v',.int .i64 n,.int .i64 z])∧Rvb (α:=Machine) w.heap.size w' v' x∧GT.tot x≤200000∧(-1≤n∧n≤200000)∧(-1≤z∧z≤1001)∧Ext w w':=by
 have H:=zh h
 clear h
 go_enter Tryz.func45,Tryz.ntmps45
 go_upto_region 1 with (fail)
 refine abs_world (fun W0=>Ext w W0∧Bk W0 w.heap.size [.slice none 0 0,.slice none 0 0,.slice none 0 0,.slice none 0 0,.slice none 0 0,.slice none 0 0,.int .i64 0] 32) ⟨(Ext.refl _).alloc _,Bk.new _ _ _⟩ ?_
 rintro W0 ⟨e0,kA⟩
 have HE0:=zh e0
 have KA:=zh kA
 have hA:=kA.lt
 clear e0 kA
 go_upto_region 3 with (first
  | (go_at_call 54;refine (spec_l20Open _ _ _ (H.out.ext HE0.out)).mono ?_;rintro e w1 ⟨b,rfl,hb,he,hr⟩;have HE:=zh he;have hs1:=he.sz;have hb1:=hr.lt;have HR:Hid (Rd W0 w1 b (0+1300)):=zh (hr.le (by omega));clear he hr)
  | (go_at_call 53;refine (spec_l20Spot W0 _ b 10 (HR.out.le (by omega))).mono ?_;rintro e w2 ⟨v2,x,n,rfl,hv,htt,hn,hm,hr⟩;have HN:=zh hn;clear hn;obtain ⟨p0,q0,p1,q1,p2,q2,p3,q3,p4,q4,p5,q5,rfl,-⟩:=hv.openMc;have KA2:=zh (hm.bk (KA.out.ext HE.out) (by simp;omega));have HV:=zh hv;have HTT:=zh htt;have HM2:=zh (hm.ext (HE0.out.tr HE.out) (by simp;omega));have HRB:Hid (Rd W0 w2 b 10):=zh hr;clear hm hr hv htt))
 obtain ⟨B,hB⟩:∃ B,B=w2.heap.size:=⟨_,rfl⟩
 have hAB:w.heap.size < B:=by have:=KA2.out.lt;omega
 have hbB':b < B:=by have:=HRB.out.lt;omega
 refine abs_world (fun u=>Ext w2 u∧Bk u B [.slice p0 x.Plan.Parts.length q0,.slice p1 x.Plan.Channels.length q1,.slice p2 x.Plan.Slots.length q2,.slice p3 x.Programs.length q3,.slice p4 x.Cores.length q4,.slice p5 x.Holds.length q5,.int .i64 x.Tick] 32) ⟨(Ext.refl _).alloc _,by rw [hB];exact Bk.new _ _ _⟩ ?_
 rw [← hB]
 have hsz:W0.heap.size≤b:=by have:=HE.out.sz;omega
 have hA0:w.heap.size < W0.heap.size:=hA
 clear hB
 rintro W2 ⟨e2,kB⟩
 have ltB:=kB.lt
 obtain ⟨f0,f1,f2,f3,f4,f5,f6⟩:=Bk.k7 kB
 have MW2:=zh (HM2.out.tr e2)
 have KA3:=zh (KA2.out.ext e2)
 have HV2:=zh (HV.out.ext e2)
 have RD2:Hid (Rd W0 W2 b (0+2)):=zh ((HRB.out.ext e2).le (by omega))
 have hbB:B ∉ [b]:=by simp;omega
 have hbA:w.heap.size ∉ [b]:=by simp;omega
 have KB2:=zh kB
 have hneA:B≠w.heap.size:=by omega
 clear e2 kB KA2 HM2 HV HRB KA H HR HE
 go_region_held3 (fun u=>u.cell? ⟨B,0,none⟩=some (.slice p0 x.Plan.Parts.length q0)∧u.cell? ⟨B,1,none⟩=some (.slice p1 x.Plan.Channels.length q1)∧u.cell? ⟨B,2,none⟩=some (.slice p2 x.Plan.Slots.length q2)∧u.cell? ⟨B,3,none⟩=some (.slice p3 x.Programs.length q3)∧u.cell? ⟨B,4,none⟩=some (.slice p4 x.Cores.length q4)∧u.cell? ⟨B,5,none⟩=some (.slice p5 x.Holds.length q5)∧u.cell? ⟨B,6,none⟩=some (.int .i64 x.Tick))
  (first
   | go_keep
   | exact ⟨(KB4.out.puts_ne (b:=B) (c:=w.heap.size) (o:=0) (ds:=[.slice p0 x.Plan.Parts.length q0,.slice p1 x.Plan.Channels.length q1,.slice p2 x.Plan.Slots.length q2,.slice p3 x.Programs.length q3,.slice p4 x.Cores.length q4,.slice p5 x.Holds.length q5,.int .i64 x.Tick]) hneA).cell (j:=0) rfl,(KB4.out.puts_ne (b:=B) (c:=w.heap.size) (o:=0) (ds:=[.slice p0 x.Plan.Parts.length q0,.slice p1 x.Plan.Channels.length q1,.slice p2 x.Plan.Slots.length q2,.slice p3 x.Programs.length q3,.slice p4 x.Cores.length q4,.slice p5 x.Holds.length q5,.int .i64 x.Tick]) hneA).cell (j:=1) rfl,(KB4.out.puts_ne (b:=B) (c:=w.heap.size) (o:=0) (ds:=[.slice p0 x.Plan.Parts.length q0,.slice p1 x.Plan.Channels.length q1,.slice p2 x.Plan.Slots.length q2,.slice p3 x.Programs.length q3,.slice p4 x.Cores.length q4,.slice p5 x.Holds.length q5,.int .i64 x.Tick]) hneA).cell (j:=2) rfl,(KB4.out.puts_ne (b:=B) (c:=w.heap.size) (o:=0) (ds:=[.slice p0 x.Plan.Parts.length q0,.slice p1 x.Plan.Channels.length q1,.slice p2 x.Plan.Slots.length q2,.slice p3 x.Programs.length q3,.slice p4 x.Cores.length q4,.slice p5 x.Holds.length q5,.int .i64 x.Tick]) hneA).cell (j:=3) rfl,(KB4.out.puts_ne (b:=B) (c:=w.heap.size) (o:=0) (ds:=[.slice p0 x.Plan.Parts.length q0,.slice p1 x.Plan.Channels.length q1,.slice p2 x.Plan.Slots.length q2,.slice p3 x.Programs.length q3,.slice p4 x.Cores.length q4,.slice p5 x.Holds.length q5,.int .i64 x.Tick]) hneA).cell (j:=4) rfl,(KB4.out.puts_ne (b:=B) (c:=w.heap.size) (o:=0) (ds:=[.slice p0 x.Plan.Parts.length q0,.slice p1 x.Plan.Channels.length q1,.slice p2 x.Plan.Slots.length q2,.slice p3 x.Programs.length q3,.slice p4 x.Cores.length q4,.slice p5 x.Holds.length q5,.int .i64 x.Tick]) hneA).cell (j:=5) rfl,(KB4.out.puts_ne (b:=B) (c:=w.heap.size) (o:=0) (ds:=[.slice p0 x.Plan.Parts.length q0,.slice p1 x.Plan.Channels.length q1,.slice p2 x.Plan.Slots.length q2,.slice p3 x.Programs.length q3,.slice p4 x.Cores.length q4,.slice p5 x.Holds.length q5,.int .i64 x.Tick]) hneA).cell (j:=6) rfl⟩)
  (first
   | (go_at_call 81;refine (spec_l20Ticks W0 _ b 0 200 (RD2.out.ext (Ext.refl W2).drew) ⟨by omega,by omega⟩).mono ?_;rintro e w4 ⟨z,rfl,hz,hm,hr⟩;have M4:=zh ((Mw.ofExt (F:=[b]) (Ext.refl W2).drew).tr hm);have HZ:=zh hz;have KA4:=zh (M4.out.bk KA3.out hbA);have KB4:=zh (M4.out.bk KB2.out hbB);obtain ⟨h0,h1,h2,h3,h4,h5,h6⟩:=Bk.k7 KB4.out;have ltB4:=KB4.out.lt;obtain ⟨z0,z1,z2,z3,z4,z5,z6⟩:=Bk.k7 KA4.out;have zf:=KA4.out.fz;have ltZ:=KA4.out.lt;clear hz hm hr))
 clear f0 f1 f2 f3 f4 f5 f6 h0 h1 h2 h3 h4 h5 h6
 try go_wp2
 refine bodyPost_ret (v:=.tuple #[.agg #[.slice p0 x.Plan.Parts.length q0,.slice p1 x.Plan.Channels.length q1,.slice p2 x.Plan.Slots.length q2,.slice p3 x.Programs.length q3,.slice p4 x.Cores.length q4,.slice p5 x.Holds.length q5,.int .i64 x.Tick],.int .i64 n,.int .i64 z]) (by simp [results,Tryz.results45,go_sem,z0,z1,z2,z3,z4,z5,z6]) rfl ⟨_,x,n,z,rfl,?_,HTT.out,HN.out,HZ.out,?_⟩
 ·exact (Rvb.puts (A:=w.heap.size) (o:=0) (by omega) [.slice p0 x.Plan.Parts.length q0,.slice p1 x.Plan.Channels.length q1,.slice p2 x.Plan.Slots.length q2,.slice p3 x.Programs.length q3,.slice p4 x.Cores.length q4,.slice p5 x.Holds.length q5,.int .i64 x.Tick] ((HV2.out.mw M4.out (by simp;omega)).mono (L':=w.heap.size+1) (by omega))).mono (by omega)
 ·exact Ext.puts (b:=w.heap.size) (o:=0) (Nat.le_refl _) [.slice p0 x.Plan.Parts.length q0,.slice p1 x.Plan.Channels.length q1,.slice p2 x.Plan.Slots.length q2,.slice p3 x.Programs.length q3,.slice p4 x.Cores.length q4,.slice p5 x.Holds.length q5,.int .i64 x.Tick] ((M4.out.ext MW2.out (by simp;omega)))
end Sk
