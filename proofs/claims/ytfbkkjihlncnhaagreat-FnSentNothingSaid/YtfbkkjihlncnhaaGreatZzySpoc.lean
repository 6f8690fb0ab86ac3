/- Contracts of functions of the given program, each under the condition that it states. -/
import Derived.Test.YtfbkkjihlncnhaaGreatChecked
import Derived.Deep.CutBlock
import Derived.Deep.CutRange
import Derived.Test.YtfbkkjihlncnhaaGreatZzrSpot
namespace Sk
open Go Go.Proofs Go.RowKit
set_option maxHeartbeats 4000000
set_option maxRecDepth 100000
set_option linter.unusedVariables false
set_option linter.unusedSimpArgs false
theorem Rvb.chans {L:Nat} {w:World} {v0 v1 v2 v3 v4 v5 v6:Value} {m:Machine} (h:Rvb L w (.agg #[v0,v1,v2,v3,v4,v5,v6]) m):Rsb L w v1 m.Plan.Channels:=by
 obtain ⟨cs,F,e,⟨u0,u1,u2,u3,u4,u5,F0,F1,F2,F3,F4,F5,rfl,h0,h1,h2,h3,h4,h5,r,rfl⟩,hk⟩:=h
 have e2:=congrArg (fun v=>match v with | .agg a=>a.toList | _ => []) e
 simp only [List.cons.injEq,and_true] at e2
 obtain ⟨rfl,rfl,rfl,rfl,rfl,rfl,rfl⟩:=e2
 exact ⟨F1,h1,fun k hk'=>hk k (by simp [hk'])⟩
theorem spec_DrawSentCount (v:Value) (xs:List By) (w:World) (h:Rs w v xs) :
  Calls Tryz.prog 35 #[v] w fun e w' => ∃ v' x n c z,e = .returned (.tuple #[v',.int .i64 n,.int .i64 c,.int .i64 z])∧Rvb (α:=Machine) w.heap.size w' v' x∧GT.tot x≤200000∧rng n∧(-1≤c∧c≤200000)∧(-1≤z∧z≤1001)∧Ext w w':=by
 have H:=zh h
 clear h
 go_enter Tryz.func35,Tryz.ntmps35
 go_upto_region 1 with (fail)
 refine abs_world (fun W0=>Ext w W0∧Bk W0 w.heap.size [.slice none 0 0,.slice none 0 0,.slice none 0 0,.slice none 0 0,.slice none 0 0,.slice none 0 0,.int .i64 0] 32) ⟨(Ext.refl _).alloc _,Bk.new _ _ _⟩ ?_
 rintro W0 ⟨e0,kA⟩
 have HE0:=zh e0
 have KA:=zh kA
 have hA:=kA.lt
 clear e0 kA
 go_upto_region 3 with (first
  | (go_at_call 54;refine (spec_l20Open _ _ _ (H.out.ext HE0.out)).mono ?_;rintro e w1 ⟨b,rfl,hb,he,hr⟩;have HE:=zh he;have hs1:=he.sz;have hb1:=hr.lt;have HR:Hid (Rd W0 w1 b (0+1300)):=zh (hr.le (by omega));clear he hr)
  | (go_at_call 53;refine (spec_l20Spot W0 _ b 20 (HR.out.le (by omega))).mono ?_;rintro e w2 ⟨v2,x,n,rfl,hv,htt,hn,hm,hr⟩;have HN:=zh hn;clear hn;obtain ⟨p0,q0,p1,q1,p2,q2,p3,q3,p4,q4,p5,q5,rfl,-⟩:=hv.openMc;have KA2:=zh (hm.bk (KA.out.ext HE.out) (by simp;omega));have HV:=zh hv;have HTT:=zh htt;have HM2:=zh (hm.ext (HE0.out.tr HE.out) (by simp;omega));have HRB:Hid (Rd W0 w2 b 20):=zh hr;clear hm hr hv htt))
 have hxh:x.Holds.length≤200000:=by
  have h1:=M.tot_eq x
  have h2:=tot_len (xs:=x.Holds)
  have:=HTT.out
  omega
 obtain ⟨B,hB⟩:∃ B,B=w2.heap.size:=⟨_,rfl⟩
 have hAB:w.heap.size < B:=by have:=KA2.out.lt;omega
 have hbB':b < B:=by have:=HRB.out.lt;omega
 refine abs_world (fun u=>Ext w2 u∧Bk u B [.slice p0 x.Plan.Parts.length q0,.slice p1 x.Plan.Channels.length q1,.slice p2 x.Plan.Slots.length q2,.slice p3 x.Programs.length q3,.slice p4 x.Cores.length q4,.slice p5 x.Holds.length q5,.int .i64 x.Tick] 32) ⟨(Ext.refl _).alloc _,by rw [hB];exact Bk.new _ _ _⟩ ?_
 rw [← hB]
 have hsz:W0.heap.size≤b:=by have:=HE.out.sz;omega
 have hA0:w.heap.size < W0.heap.size:=hA
 clear hB
 rintro W2 ⟨e2,kB⟩
 have ltB:=kB.lt
 have g5:=kB.cell (j:=5) rfl
 have MW2:=zh (HM2.out.tr e2)
 have KA3:=zh (KA2.out.ext e2)
 have HV2:=zh (HV.out.ext e2)
 have RD2:Hid (Rd W0 W2 b (10+1+1)):=zh ((HRB.out.ext e2).le (by omega))
 have hbB:B ∉ [b]:=by simp;omega
 have hbA:w.heap.size ∉ [b]:=by simp;omega
 have KB2:=zh kB
 have hneA:B≠w.heap.size:=by omega
 have HS1:Hid (Rsb (b+1) W2 (.slice p1 x.Plan.Channels.length q1) x.Plan.Channels):=zh (by
  exact HV2.out.chans.mono (by omega))
 clear e2 kB KA2 HM2 HV HRB KA H HR HE
 have hwr:IntKind.i64.wrap ((x.Holds.length:Int)+1)=(x.Holds.length:Int)+1:=wrap_small (by omega) (by omega)
 go_upto_region 4 with (first
   | (go_at_call 80;refine (spec_pick W0 _ b (10+1) _ RD2.out (rng_sm (by omega) (by omega))).mono ?_;rintro e w3 ⟨k3,rfl,hk,hm,hr⟩;have hkb3:=hk.lt (by omega);have MM3:=zh ((Mw.refl [b] W2).tr (Mw.ofMo hm));have RR3:=zh hr;have KB3:=zh (MM3.out.bk KB2.out hbB);have u35:=KB3.out.cell (j:=5) rfl;have u31:=KB3.out.cell (j:=1) rfl;have u3L:=KB3.out.lt;clear hk hm hr)
   | (go_at_call 80;refine (spec_pick W0 _ b (10) _ RR3.out (rng_sm (by omega) (by omega))).mono ?_;rintro e w4 ⟨k4,rfl,hk,hm,hr⟩;have hkb4:=hk.lt (by omega);have MM4:=zh (MM3.out.tr (Mw.ofMo hm));have RR4:=zh hr;have KB4:=zh (MM4.out.bk KB2.out hbB);have u45:=KB4.out.cell (j:=5) rfl;have u41:=KB4.out.cell (j:=1) rfl;have u4L:=KB4.out.lt;clear hk hm hr))
 obtain ⟨j1,j2⟩:=hkb4
 obtain ⟨j3,j4⟩:=hkb3
 obtain ⟨c,hc⟩:∃ c,k3 - k4 / 13=c:=⟨_,rfl⟩
 have hcb : -1≤c∧c≤200000:=by omega
 have HC:=zh hcb
 rw [hc]
 clear hc hwr g5 u35 u31 u3L
 have lch:x.Plan.Channels.length≤9223372036854775807:=by
  exact HS1.out.form.choose_spec.choose_spec.2
 have HS4:Hid (Rsb (b+1) _ (.slice p1 x.Plan.Channels.length q1) x.Plan.Channels):=zh (HS1.out.mw MM4.out (by simp))
 by_cases hc0:0≤c
 case neg =>
  have hcd:decide (c ≥ 0)=false:=by simp;omega
  have HRN:rng n:=by have:=HN.out;exact rng_sm (by omega) (by omega)
  go_upto_region 6 with (fail)
  have MU:Hid (Mw [b] W2 _):=zh (MM4.out)
  have RU:Hid (Rd W0 _ b (0+2)):=zh (RR4.out.le (by omega))
  have KU:=zh (MU.out.bk KB2.out hbB)
  obtain ⟨f0,f1,f2,f3,f4,f5,f6⟩:=Bk.k7 KU.out
  have fL:=KU.out.lt
  go_region_held3 (fun u=>u.cell? ⟨B,0,none⟩=some (.slice p0 x.Plan.Parts.length q0)∧u.cell? ⟨B,1,none⟩=some (.slice p1 x.Plan.Channels.length q1)∧u.cell? ⟨B,2,none⟩=some (.slice p2 x.Plan.Slots.length q2)∧u.cell? ⟨B,3,none⟩=some (.slice p3 x.Programs.length q3)∧u.cell? ⟨B,4,none⟩=some (.slice p4 x.Cores.length q4)∧u.cell? ⟨B,5,none⟩=some (.slice p5 x.Holds.length q5)∧u.cell? ⟨B,6,none⟩=some (.int .i64 x.Tick))
   (first
    | go_keep
    | exact ⟨(KB6.out.puts_ne (b:=B) (c:=w.heap.size) (o:=0) (ds:=[.slice p0 x.Plan.Parts.length q0,.slice p1 x.Plan.Channels.length q1,.slice p2 x.Plan.Slots.length q2,.slice p3 x.Programs.length q3,.slice p4 x.Cores.length q4,.slice p5 x.Holds.length q5,.int .i64 x.Tick]) hneA).cell (j:=0) rfl,(KB6.out.puts_ne (b:=B) (c:=w.heap.size) (o:=0) (ds:=[.slice p0 x.Plan.Parts.length q0,.slice p1 x.Plan.Channels.length q1,.slice p2 x.Plan.Slots.length q2,.slice p3 x.Programs.length q3,.slice p4 x.Cores.length q4,.slice p5 x.Holds.length q5,.int .i64 x.Tick]) hneA).cell (j:=1) rfl,(KB6.out.puts_ne (b:=B) (c:=w.heap.size) (o:=0) (ds:=[.slice p0 x.Plan.Parts.length q0,.slice p1 x.Plan.Channels.length q1,.slice p2 x.Plan.Slots.length q2,.slice p3 x.Programs.length q3,.slice p4 x.Cores.length q4,.slice p5 x.Holds.length q5,.int .i64 x.Tick]) hneA).cell (j:=2) rfl,(KB6.out.puts_ne (b:=B) (c:=w.heap.size) (o:=0) (ds:=[.slice p0 x.Plan.Parts.length q0,.slice p1 x.Plan.Channels.length q1,.slice p2 x.Plan.Slots.length q2,.slice p3 x.Programs.length q3,.slice p4 x.Cores.length q4,.slice p5 x.Holds.length q5,.int .i64 x.Tick]) hneA).cell (j:=3) rfl,(KB6.out.puts_ne (b:=B) (c:=w.heap.size) (o:=0) (ds:=[.slice p0 x.Plan.Parts.length q0,.slice p1 x.Plan.Channels.length q1,.slice p2 x.Plan.Slots.length q2,.slice p3 x.Programs.length q3,.slice p4 x.Cores.length q4,.slice p5 x.Holds.length q5,.int .i64 x.Tick]) hneA).cell (j:=4) rfl,(KB6.out.puts_ne (b:=B) (c:=w.heap.size) (o:=0) (ds:=[.slice p0 x.Plan.Parts.length q0,.slice p1 x.Plan.Channels.length q1,.slice p2 x.Plan.Slots.length q2,.slice p3 x.Programs.length q3,.slice p4 x.Cores.length q4,.slice p5 x.Holds.length q5,.int .i64 x.Tick]) hneA).cell (j:=5) rfl,(KB6.out.puts_ne (b:=B) (c:=w.heap.size) (o:=0) (ds:=[.slice p0 x.Plan.Parts.length q0,.slice p1 x.Plan.Channels.length q1,.slice p2 x.Plan.Slots.length q2,.slice p3 x.Programs.length q3,.slice p4 x.Cores.length q4,.slice p5 x.Holds.length q5,.int .i64 x.Tick]) hneA).cell (j:=6) rfl⟩)
   ((go_at_call 81;refine (spec_l20Ticks W0 _ b 0 400 (RU.out.ext (Ext.refl _).drew) ⟨by omega,by omega⟩).mono ?_;rintro e w6 ⟨z,rfl,hz,hm,hr⟩;have M6:=zh ((MU.out.tr (Mw.ofExt (F:=[b]) (Ext.refl _).drew)).tr hm);have HZ:=zh hz;have KA6:=zh (M6.out.bk KA3.out hbA);have KB6:=zh (M6.out.bk KB2.out hbB);obtain ⟨h0,h1,h2,h3,h4,h5,h6⟩:=Bk.k7 KB6.out;have ltB6:=KB6.out.lt;obtain ⟨z0,z1,z2,z3,z4,z5,z6⟩:=Bk.k7 KA6.out;have zf:=KA6.out.fz;have ltZ:=KA6.out.lt;clear hz hm hr))
  clear f0 f1 f2 f3 f4 f5 f6 h0 h1 h2 h3 h4 h5 h6
  try go_wp2
  refine bodyPost_ret (v:=.tuple #[.agg #[.slice p0 x.Plan.Parts.length q0,.slice p1 x.Plan.Channels.length q1,.slice p2 x.Plan.Slots.length q2,.slice p3 x.Programs.length q3,.slice p4 x.Cores.length q4,.slice p5 x.Holds.length q5,.int .i64 x.Tick],.int .i64 n,.int .i64 c,.int .i64 z]) (by simp [results,Tryz.results35,go_sem,z0,z1,z2,z3,z4,z5,z6]) rfl ⟨_,x,n,c,z,rfl,?_,HTT.out,HRN,HC.out,HZ.out,?_⟩
  ·exact (Rvb.puts (A:=w.heap.size) (o:=0) (by omega) [.slice p0 x.Plan.Parts.length q0,.slice p1 x.Plan.Channels.length q1,.slice p2 x.Plan.Slots.length q2,.slice p3 x.Programs.length q3,.slice p4 x.Cores.length q4,.slice p5 x.Holds.length q5,.int .i64 x.Tick] ((HV2.out.mw M6.out (by simp;omega)).mono (L':=w.heap.size+1) (by omega))).mono (by omega)
  ·exact Ext.puts (b:=w.heap.size) (o:=0) (Nat.le_refl _) [.slice p0 x.Plan.Parts.length q0,.slice p1 x.Plan.Channels.length q1,.slice p2 x.Plan.Slots.length q2,.slice p3 x.Programs.length q3,.slice p4 x.Cores.length q4,.slice p5 x.Holds.length q5,.int .i64 x.Tick] ((M6.out.ext MW2.out (by simp;omega)))
 by_cases hc1:c < x.Plan.Channels.length
 case neg =>
  have hcd:decide (c < (x.Plan.Channels.length:Int))=false:=by simp;omega
  have HRN:rng n:=by have:=HN.out;exact rng_sm (by omega) (by omega)
  go_upto_region 6 with (fail)
  have MU:Hid (Mw [b] W2 _):=zh (MM4.out)
  have RU:Hid (Rd W0 _ b (0+2)):=zh (RR4.out.le (by omega))
  have KU:=zh (MU.out.bk KB2.out hbB)
  obtain ⟨f0,f1,f2,f3,f4,f5,f6⟩:=Bk.k7 KU.out
  have fL:=KU.out.lt
  go_region_held3 (fun u=>u.cell? ⟨B,0,none⟩=some (.slice p0 x.Plan.Parts.length q0)∧u.cell? ⟨B,1,none⟩=some (.slice p1 x.Plan.Channels.length q1)∧u.cell? ⟨B,2,none⟩=some (.slice p2 x.Plan.Slots.length q2)∧u.cell? ⟨B,3,none⟩=some (.slice p3 x.Programs.length q3)∧u.cell? ⟨B,4,none⟩=some (.slice p4 x.Cores.length q4)∧u.cell? ⟨B,5,none⟩=some (.slice p5 x.Holds.length q5)∧u.cell? ⟨B,6,none⟩=some (.int .i64 x.Tick))
   (first
    | go_keep
    | exact ⟨(KB6.out.puts_ne (b:=B) (c:=w.heap.size) (o:=0) (ds:=[.slice p0 x.Plan.Parts.length q0,.slice p1 x.Plan.Channels.length q1,.slice p2 x.Plan.Slots.length q2,.slice p3 x.Programs.length q3,.slice p4 x.Cores.length q4,.slice p5 x.Holds.length q5,.int .i64 x.Tick]) hneA).cell (j:=0) rfl,(KB6.out.puts_ne (b:=B) (c:=w.heap.size) (o:=0) (ds:=[.slice p0 x.Plan.Parts.length q0,.slice p1 x.Plan.Channels.length q1,.slice p2 x.Plan.Slots.length q2,.slice p3 x.Programs.length q3,.slice p4 x.Cores.length q4,.slice p5 x.Holds.length q5,.int .i64 x.Tick]) hneA).cell (j:=1) rfl,(KB6.out.puts_ne (b:=B) (c:=w.heap.size) (o:=0) (ds:=[.slice p0 x.Plan.Parts.length q0,.slice p1 x.Plan.Channels.length q1,.slice p2 x.Plan.Slots.length q2,.slice p3 x.Programs.length q3,.slice p4 x.Cores.length q4,.slice p5 x.Holds.length q5,.int .i64 x.Tick]) hneA).cell (j:=2) rfl,(KB6.out.puts_ne (b:=B) (c:=w.heap.size) (o:=0) (ds:=[.slice p0 x.Plan.Parts.length q0,.slice p1 x.Plan.Channels.length q1,.slice p2 x.Plan.Slots.length q2,.slice p3 x.Programs.length q3,.slice p4 x.Cores.length q4,.slice p5 x.Holds.length q5,.int .i64 x.Tick]) hneA).cell (j:=3) rfl,(KB6.out.puts_ne (b:=B) (c:=w.heap.size) (o:=0) (ds:=[.slice p0 x.Plan.Parts.length q0,.slice p1 x.Plan.Channels.length q1,.slice p2 x.Plan.Slots.length q2,.slice p3 x.Programs.length q3,.slice p4 x.Cores.length q4,.slice p5 x.Holds.length q5,.int .i64 x.Tick]) hneA).cell (j:=4) rfl,(KB6.out.puts_ne (b:=B) (c:=w.heap.size) (o:=0) (ds:=[.slice p0 x.Plan.Parts.length q0,.slice p1 x.Plan.Channels.length q1,.slice p2 x.Plan.Slots.length q2,.slice p3 x.Programs.length q3,.slice p4 x.Cores.length q4,.slice p5 x.Holds.length q5,.int .i64 x.Tick]) hneA).cell (j:=5) rfl,(KB6.out.puts_ne (b:=B) (c:=w.heap.size) (o:=0) (ds:=[.slice p0 x.Plan.Parts.length q0,.slice p1 x.Plan.Channels.length q1,.slice p2 x.Plan.Slots.length q2,.slice p3 x.Programs.length q3,.slice p4 x.Cores.length q4,.slice p5 x.Holds.length q5,.int .i64 x.Tick]) hneA).cell (j:=6) rfl⟩)
   ((go_at_call 81;refine (spec_l20Ticks W0 _ b 0 400 (RU.out.ext (Ext.refl _).drew) ⟨by omega,by omega⟩).mono ?_;rintro e w6 ⟨z,rfl,hz,hm,hr⟩;have M6:=zh ((MU.out.tr (Mw.ofExt (F:=[b]) (Ext.refl _).drew)).tr hm);have HZ:=zh hz;have KA6:=zh (M6.out.bk KA3.out hbA);have KB6:=zh (M6.out.bk KB2.out hbB);obtain ⟨h0,h1,h2,h3,h4,h5,h6⟩:=Bk.k7 KB6.out;have ltB6:=KB6.out.lt;obtain ⟨z0,z1,z2,z3,z4,z5,z6⟩:=Bk.k7 KA6.out;have zf:=KA6.out.fz;have ltZ:=KA6.out.lt;clear hz hm hr))
  clear f0 f1 f2 f3 f4 f5 f6 h0 h1 h2 h3 h4 h5 h6
  try go_wp2
  refine bodyPost_ret (v:=.tuple #[.agg #[.slice p0 x.Plan.Parts.length q0,.slice p1 x.Plan.Channels.length q1,.slice p2 x.Plan.Slots.length q2,.slice p3 x.Programs.length q3,.slice p4 x.Cores.length q4,.slice p5 x.Holds.length q5,.int .i64 x.Tick],.int .i64 n,.int .i64 c,.int .i64 z]) (by simp [results,Tryz.results35,go_sem,z0,z1,z2,z3,z4,z5,z6]) rfl ⟨_,x,n,c,z,rfl,?_,HTT.out,HRN,HC.out,HZ.out,?_⟩
  ·exact (Rvb.puts (A:=w.heap.size) (o:=0) (by omega) [.slice p0 x.Plan.Parts.length q0,.slice p1 x.Plan.Channels.length q1,.slice p2 x.Plan.Slots.length q2,.slice p3 x.Programs.length q3,.slice p4 x.Cores.length q4,.slice p5 x.Holds.length q5,.int .i64 x.Tick] ((HV2.out.mw M6.out (by simp;omega)).mono (L':=w.heap.size+1) (by omega))).mono (by omega)
  ·exact Ext.puts (b:=w.heap.size) (o:=0) (Nat.le_refl _) [.slice p0 x.Plan.Parts.length q0,.slice p1 x.Plan.Channels.length q1,.slice p2 x.Plan.Slots.length q2,.slice p3 x.Programs.length q3,.slice p4 x.Cores.length q4,.slice p5 x.Holds.length q5,.int .i64 x.Tick] ((M6.out.ext MW2.out (by simp;omega)))
 go_upto_if 41 with (go_at_call 80;refine (spec_pick W0 _ b (9) _ (RR4.out:Rd W0 _ b (9+1)) (rng_sm (by omega) (by omega))).mono ?_;rintro e w5 ⟨k5,rfl,hk,hm,hr⟩;have hkb5:=hk.lt (by omega);have MM5:=zh (MM4.out.tr (Mw.ofMo hm));have RR5:=zh hr;have KB5:=zh (MM5.out.bk KB2.out hbB);have u55:=KB5.out.cell (j:=5) rfl;have u51:=KB5.out.cell (j:=1) rfl;have u5L:=KB5.out.lt;have HS5:=zh ((HS4.out.mw (Mw.ofMo hm) (by simp)).rs);clear hk hm hr)
 by_cases hz:k5=0
 case neg =>
  have hzb:(k5 == 0)=false:=by simpa using hz
  have HRN:rng n:=by have:=HN.out;exact rng_sm (by omega) (by omega)
  go_upto_region 6 with (fail)
  have MU:Hid (Mw [b] W2 _):=zh (MM5.out)
  have RU:Hid (Rd W0 _ b (0+2)):=zh (RR5.out.le (by omega))
  have KU:=zh (MU.out.bk KB2.out hbB)
  obtain ⟨f0,f1,f2,f3,f4,f5,f6⟩:=Bk.k7 KU.out
  have fL:=KU.out.lt
  go_region_held3 (fun u=>u.cell? ⟨B,0,none⟩=some (.slice p0 x.Plan.Parts.length q0)∧u.cell? ⟨B,1,none⟩=some (.slice p1 x.Plan.Channels.length q1)∧u.cell? ⟨B,2,none⟩=some (.slice p2 x.Plan.Slots.length q2)∧u.cell? ⟨B,3,none⟩=some (.slice p3 x.Programs.length q3)∧u.cell? ⟨B,4,none⟩=some (.slice p4 x.Cores.length q4)∧u.cell? ⟨B,5,none⟩=some (.slice p5 x.Holds.length q5)∧u.cell? ⟨B,6,none⟩=some (.int .i64 x.Tick))
   (first
    | go_keep
    | exact ⟨(KB6.out.puts_ne (b:=B) (c:=w.heap.size) (o:=0) (ds:=[.slice p0 x.Plan.Parts.length q0,.slice p1 x.Plan.Channels.length q1,.slice p2 x.Plan.Slots.length q2,.slice p3 x.Programs.length q3,.slice p4 x.Cores.length q4,.slice p5 x.Holds.length q5,.int .i64 x.Tick]) hneA).cell (j:=0) rfl,(KB6.out.puts_ne (b:=B) (c:=w.heap.size) (o:=0) (ds:=[.slice p0 x.Plan.Parts.length q0,.slice p1 x.Plan.Channels.length q1,.slice p2 x.Plan.Slots.length q2,.slice p3 x.Programs.length q3,.slice p4 x.Cores.length q4,.slice p5 x.Holds.length q5,.int .i64 x.Tick]) hneA).cell (j:=1) rfl,(KB6.out.puts_ne (b:=B) (c:=w.heap.size) (o:=0) (ds:=[.slice p0 x.Plan.Parts.length q0,.slice p1 x.Plan.Channels.length q1,.slice p2 x.Plan.Slots.length q2,.slice p3 x.Programs.length q3,.slice p4 x.Cores.length q4,.slice p5 x.Holds.length q5,.int .i64 x.Tick]) hneA).cell (j:=2) rfl,(KB6.out.puts_ne (b:=B) (c:=w.heap.size) (o:=0) (ds:=[.slice p0 x.Plan.Parts.length q0,.slice p1 x.Plan.Channels.length q1,.slice p2 x.Plan.Slots.length q2,.slice p3 x.Programs.length q3,.slice p4 x.Cores.length q4,.slice p5 x.Holds.length q5,.int .i64 x.Tick]) hneA).cell (j:=3) rfl,(KB6.out.puts_ne (b:=B) (c:=w.heap.size) (o:=0) (ds:=[.slice p0 x.Plan.Parts.length q0,.slice p1 x.Plan.Channels.length q1,.slice p2 x.Plan.Slots.length q2,.slice p3 x.Programs.length q3,.slice p4 x.Cores.length q4,.slice p5 x.Holds.length q5,.int .i64 x.Tick]) hneA).cell (j:=4) rfl,(KB6.out.puts_ne (b:=B) (c:=w.heap.size) (o:=0) (ds:=[.slice p0 x.Plan.Parts.length q0,.slice p1 x.Plan.Channels.length q1,.slice p2 x.Plan.Slots.length q2,.slice p3 x.Programs.length q3,.slice p4 x.Cores.length q4,.slice p5 x.Holds.length q5,.int .i64 x.Tick]) hneA).cell (j:=5) rfl,(KB6.out.puts_ne (b:=B) (c:=w.heap.size) (o:=0) (ds:=[.slice p0 x.Plan.Parts.length q0,.slice p1 x.Plan.Channels.length q1,.slice p2 x.Plan.Slots.length q2,.slice p3 x.Programs.length q3,.slice p4 x.Cores.length q4,.slice p5 x.Holds.length q5,.int .i64 x.Tick]) hneA).cell (j:=6) rfl⟩)
   ((go_at_call 81;refine (spec_l20Ticks W0 _ b 0 400 (RU.out.ext (Ext.refl _).drew) ⟨by omega,by omega⟩).mono ?_;rintro e w6 ⟨z,rfl,hz,hm,hr⟩;have M6:=zh ((MU.out.tr (Mw.ofExt (F:=[b]) (Ext.refl _).drew)).tr hm);have HZ:=zh hz;have KA6:=zh (M6.out.bk KA3.out hbA);have KB6:=zh (M6.out.bk KB2.out hbB);obtain ⟨h0,h1,h2,h3,h4,h5,h6⟩:=Bk.k7 KB6.out;have ltB6:=KB6.out.lt;obtain ⟨z0,z1,z2,z3,z4,z5,z6⟩:=Bk.k7 KA6.out;have zf:=KA6.out.fz;have ltZ:=KA6.out.lt;clear hz hm hr))
  clear f0 f1 f2 f3 f4 f5 f6 h0 h1 h2 h3 h4 h5 h6
  try go_wp2
  refine bodyPost_ret (v:=.tuple #[.agg #[.slice p0 x.Plan.Parts.length q0,.slice p1 x.Plan.Channels.length q1,.slice p2 x.Plan.Slots.length q2,.slice p3 x.Programs.length q3,.slice p4 x.Cores.length q4,.slice p5 x.Holds.length q5,.int .i64 x.Tick],.int .i64 n,.int .i64 c,.int .i64 z]) (by simp [results,Tryz.results35,go_sem,z0,z1,z2,z3,z4,z5,z6]) rfl ⟨_,x,n,c,z,rfl,?_,HTT.out,HRN,HC.out,HZ.out,?_⟩
  ·exact (Rvb.puts (A:=w.heap.size) (o:=0) (by omega) [.slice p0 x.Plan.Parts.length q0,.slice p1 x.Plan.Channels.length q1,.slice p2 x.Plan.Slots.length q2,.slice p3 x.Programs.length q3,.slice p4 x.Cores.length q4,.slice p5 x.Holds.length q5,.int .i64 x.Tick] ((HV2.out.mw M6.out (by simp;omega)).mono (L':=w.heap.size+1) (by omega))).mono (by omega)
  ·exact Ext.puts (b:=w.heap.size) (o:=0) (Nat.le_refl _) [.slice p0 x.Plan.Parts.length q0,.slice p1 x.Plan.Channels.length q1,.slice p2 x.Plan.Slots.length q2,.slice p3 x.Programs.length q3,.slice p4 x.Cores.length q4,.slice p5 x.Holds.length q5,.int .i64 x.Tick] ((M6.out.ext MW2.out (by simp;omega)))
 obtain ⟨K,rfl⟩:∃ K:Nat,c=K:=⟨c.toNat,by omega⟩
 have hK:K < x.Plan.Channels.length:=by omega
 obtain ⟨cb,co,ch,rfl,hcb,hcx,hc0',hc1',hc2',hc3',-,HRN,-,-,-⟩:=HS5.out.atChannel K hK
 clear hc0' hc2' hc3'
 go_upto_region 6 with (fail)
 have MU:Hid (Mw [b] W2 _):=zh (MM5.out)
 have RU:Hid (Rd W0 _ b (0+2)):=zh (RR5.out.le (by omega))
 have KU:=zh (MU.out.bk KB2.out hbB)
 obtain ⟨f0,f1,f2,f3,f4,f5,f6⟩:=Bk.k7 KU.out
 have fL:=KU.out.lt
 go_region_held3 (fun u=>u.cell? ⟨B,0,none⟩=some (.slice p0 x.Plan.Parts.length q0)∧u.cell? ⟨B,1,none⟩=some (.slice (some ⟨cb,co,none⟩) x.Plan.Channels.length q1)∧u.cell? ⟨B,2,none⟩=some (.slice p2 x.Plan.Slots.length q2)∧u.cell? ⟨B,3,none⟩=some (.slice p3 x.Programs.length q3)∧u.cell? ⟨B,4,none⟩=some (.slice p4 x.Cores.length q4)∧u.cell? ⟨B,5,none⟩=some (.slice p5 x.Holds.length q5)∧u.cell? ⟨B,6,none⟩=some (.int .i64 x.Tick))
  (first
   | go_keep
   | exact ⟨(KB6.out.puts_ne (b:=B) (c:=w.heap.size) (o:=0) (ds:=[.slice p0 x.Plan.Parts.length q0,.slice (some ⟨cb,co,none⟩) x.Plan.Channels.length q1,.slice p2 x.Plan.Slots.length q2,.slice p3 x.Programs.length q3,.slice p4 x.Cores.length q4,.slice p5 x.Holds.length q5,.int .i64 x.Tick]) hneA).cell (j:=0) rfl,(KB6.out.puts_ne (b:=B) (c:=w.heap.size) (o:=0) (ds:=[.slice p0 x.Plan.Parts.length q0,.slice (some ⟨cb,co,none⟩) x.Plan.Channels.length q1,.slice p2 x.Plan.Slots.length q2,.slice p3 x.Programs.length q3,.slice p4 x.Cores.length q4,.slice p5 x.Holds.length q5,.int .i64 x.Tick]) hneA).cell (j:=1) rfl,(KB6.out.puts_ne (b:=B) (c:=w.heap.size) (o:=0) (ds:=[.slice p0 x.Plan.Parts.length q0,.slice (some ⟨cb,co,none⟩) x.Plan.Channels.length q1,.slice p2 x.Plan.Slots.length q2,.slice p3 x.Programs.length q3,.slice p4 x.Cores.length q4,.slice p5 x.Holds.length q5,.int .i64 x.Tick]) hneA).cell (j:=2) rfl,(KB6.out.puts_ne (b:=B) (c:=w.heap.size) (o:=0) (ds:=[.slice p0 x.Plan.Parts.length q0,.slice (some ⟨cb,co,none⟩) x.Plan.Channels.length q1,.slice p2 x.Plan.Slots.length q2,.slice p3 x.Programs.length q3,.slice p4 x.Cores.length q4,.slice p5 x.Holds.length q5,.int .i64 x.Tick]) hneA).cell (j:=3) rfl,(KB6.out.puts_ne (b:=B) (c:=w.heap.size) (o:=0) (ds:=[.slice p0 x.Plan.Parts.length q0,.slice (some ⟨cb,co,none⟩) x.Plan.Channels.length q1,.slice p2 x.Plan.Slots.length q2,.slice p3 x.Programs.length q3,.slice p4 x.Cores.length q4,.slice p5 x.Holds.length q5,.int .i64 x.Tick]) hneA).cell (j:=4) rfl,(KB6.out.puts_ne (b:=B) (c:=w.heap.size) (o:=0) (ds:=[.slice p0 x.Plan.Parts.length q0,.slice (some ⟨cb,co,none⟩) x.Plan.Channels.length q1,.slice p2 x.Plan.Slots.length q2,.slice p3 x.Programs.length q3,.slice p4 x.Cores.length q4,.slice p5 x.Holds.length q5,.int .i64 x.Tick]) hneA).cell (j:=5) rfl,(KB6.out.puts_ne (b:=B) (c:=w.heap.size) (o:=0) (ds:=[.slice p0 x.Plan.Parts.length q0,.slice (some ⟨cb,co,none⟩) x.Plan.Channels.length q1,.slice p2 x.Plan.Slots.length q2,.slice p3 x.Programs.length q3,.slice p4 x.Cores.length q4,.slice p5 x.Holds.length q5,.int .i64 x.Tick]) hneA).cell (j:=6) rfl⟩)
  ((go_at_call 81;refine (spec_l20Ticks W0 _ b 0 400 (RU.out.ext (Ext.refl _).drew) ⟨by omega,by omega⟩).mono ?_;rintro e w6 ⟨z,rfl,hz,hm,hr⟩;have M6:=zh ((MU.out.tr (Mw.ofExt (F:=[b]) (Ext.refl _).drew)).tr hm);have HZ:=zh hz;have KA6:=zh (M6.out.bk KA3.out hbA);have KB6:=zh (M6.out.bk KB2.out hbB);obtain ⟨h0,h1,h2,h3,h4,h5,h6⟩:=Bk.k7 KB6.out;have ltB6:=KB6.out.lt;obtain ⟨z0,z1,z2,z3,z4,z5,z6⟩:=Bk.k7 KA6.out;have zf:=KA6.out.fz;have ltZ:=KA6.out.lt;clear hz hm hr))
 clear f0 f1 f2 f3 f4 f5 f6 h0 h1 h2 h3 h4 h5 h6
 try go_wp2
 refine bodyPost_ret (v:=.tuple #[.agg #[.slice p0 x.Plan.Parts.length q0,.slice (some ⟨cb,co,none⟩) x.Plan.Channels.length q1,.slice p2 x.Plan.Slots.length q2,.slice p3 x.Programs.length q3,.slice p4 x.Cores.length q4,.slice p5 x.Holds.length q5,.int .i64 x.Tick],.int .i64 ch.From,.int .i64 K,.int .i64 z]) (by simp [results,Tryz.results35,go_sem,z0,z1,z2,z3,z4,z5,z6]) rfl ⟨_,x,ch.From,K,z,rfl,?_,HTT.out,HRN,HC.out,HZ.out,?_⟩
 ·exact (Rvb.puts (A:=w.heap.size) (o:=0) (by omega) [.slice p0 x.Plan.Parts.length q0,.slice (some ⟨cb,co,none⟩) x.Plan.Channels.length q1,.slice p2 x.Plan.Slots.length q2,.slice p3 x.Programs.length q3,.slice p4 x.Cores.length q4,.slice p5 x.Holds.length q5,.int .i64 x.Tick] ((HV2.out.mw M6.out (by simp;omega)).mono (L':=w.heap.size+1) (by omega))).mono (by omega)
 ·exact Ext.puts (b:=w.heap.size) (o:=0) (Nat.le_refl _) [.slice p0 x.Plan.Parts.length q0,.slice (some ⟨cb,co,none⟩) x.Plan.Channels.length q1,.slice p2 x.Plan.Slots.length q2,.slice p3 x.Programs.length q3,.slice p4 x.Cores.length q4,.slice p5 x.Holds.length q5,.int .i64 x.Tick] ((M6.out.ext MW2.out (by simp;omega)))
end Sk
