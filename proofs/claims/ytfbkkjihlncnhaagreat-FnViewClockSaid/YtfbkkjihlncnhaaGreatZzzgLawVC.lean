/- Contracts of functions of the given program, each under the condition that it states. -/
import Derived.Test.YtfbkkjihlncnhaaGreatChecked
import Derived.Deep.CutBlock
import Derived.Deep.CutRange
import Derived.Test.YtfbkkjihlncnhaaGreatZzzdSentM
import Derived.Test.YtfbkkjihlncnhaaGreatZztVwM
import Derived.Test.YtfbkkjihlncnhaaGreatVVModel
import Derived.Test.YtfbkkjihlncnhaaGreatVWSeen
import Derived.Test.YtfbkkjihlncnhaaGreatVViewS
import Derived.Test.YtfbkkjihlncnhaaGreatZzrSpot
import Derived.Test.YtfbkkjihlncnhaaGreatZyDm
import Derived.Test.YtfbkkjihlncnhaaGreatSame
import Derived.Test.YtfbkkjihlncnhaaGreatXRun
import Derived.Test.YtfbkkjihlncnhaaGreatXTraceS
import Derived.Test.YtfbkkjihlncnhaaGreatMix
namespace Sk
open Go Go.Proofs Go.RowKit
set_option maxHeartbeats 4000000
set_option maxRecDepth 100000
set_option linter.unusedVariables false
set_option linter.unusedSimpArgs false
theorem M.clock_at {x:Machine} (h:M.MV x) {N:Nat} {c:Core} (hc:x.Cores[N]? = some c) (ht:x.Tick+30≤100000):c.Cells.length+3≤(M.viewN (M.run x 30) N).length∧(M.viewN (M.run x 30) N)[c.Cells.length+2]? = some (M.own x.Plan.Slots N x.Tick+(M.ranN x N 30:Nat)):=by
 obtain ⟨h1,h2,h3,h4,h5,h6⟩:=M.run_MV h 30 ht
 have hN:=lt_of_some hc
 obtain ⟨c1,p1,q1,e1,e2,e3,f1,_⟩:=h.at hN
 obtain ⟨c2,p2,q2,d1,d2,d3,f2,_⟩:=h1.at (n:=N) (by rw [h5];exact hN)
 rw [hc] at e1
 obtain rfl:=Option.some.inj e1
 rw [h3,e3] at d3
 obtain rfl:=Option.some.inj d3
 have l1:=(M.fits_iff.1 f1).1
 have l2:=(M.fits_iff.1 f2).1
 have hl:c2.Cells.length=c.Cells.length:=by omega
 obtain ⟨p1,_,p3⟩:=M.viewN_parts d1
 rw [hl] at p1 p3
 refine ⟨p1,?_⟩
 rw [p3,h2,h3]
 have:=M.ranN_own h N 30
 exact congrArg some this
theorem lawViewClock (v:Value) (xs:List By) (w:World) (h:Rs w v xs) :
  Calls Tryz.prog 9 #[v] w fun e w'=>e = .returned (.bool true)∧Ext w w':=by
 obtain ⟨a,c,rfl,hl⟩:=h.form
 have H:=zh h
 clear h
 by_cases hx:xs.length≤1048576
 case neg =>
  have hx2:1048576 < xs.length:=by omega
  clear hx
  go_enter Tryz.func9,Tryz.ntmps9
  go_wp2
  go_ret
  exact ⟨rfl,Ext.refl w⟩
 go_enter Tryz.func9,Tryz.ntmps9
 go_upto_region 4 with (go_at_call 24;refine (spec_DrawViewOf _ _ _ H.out).mono ?_;rintro e w1 ⟨v1,x,n,rfl,hv,htt,hn,he⟩;obtain ⟨p0,q0,p1,q1,p2,q2,p3,q3,p4,q4,p5,q5,rfl,-⟩:=hv.openMc;have HV:=zh hv.rv;have HTT:=zh htt;have HE:=zh he;clear hv htt he)
 obtain ⟨A,hA⟩:∃ A,A=w1.heap.size:=⟨_,rfl⟩
 refine abs_world (fun u=>Ext w1 u∧Bk u A [.slice p0 x.Plan.Parts.length q0,.slice p1 x.Plan.Channels.length q1,.slice p2 x.Plan.Slots.length q2,.slice p3 x.Programs.length q3,.slice p4 x.Cores.length q4,.slice p5 x.Holds.length q5,.int .i64 x.Tick] 32) ⟨(Ext.refl _).alloc _,by rw [hA];exact Bk.new _ _ _⟩ ?_
 rw [← hA]
 rintro W1 ⟨e1,kA⟩
 clear hA H
 replace HV:=zh (HV.out.ext e1)
 replace HE:=zh (HE.out.tr e1)
 have KA:=zh kA
 clear e1 kA
 have E:=zh (Ext.refl W1)
 obtain ⟨_,_,_,_,_,_,_,_,_,_,_,_,ee,r6,s0,-,s1,-,s2,-,s3,-,s4,-,s5,-⟩:=HV.out.openMachine
 have e9:=congrArg (fun v=>match v with | .agg a=>a.toList | _ => []) ee
 simp only [List.cons.injEq,Value.slice.injEq,and_true,true_and] at e9
 obtain ⟨⟨rfl,rfl⟩,⟨rfl,rfl⟩,⟨rfl,rfl⟩,⟨rfl,rfl⟩,⟨rfl,rfl⟩,⟨rfl,rfl⟩⟩:=e9
 clear ee
 have hxc:x.Cores.length≤200000:=by
  have h1:=M.tot_eq x
  have h2:=tot_len (xs:=x.Cores)
  have:=HTT.out
  omega
 have hxh:x.Holds.length≤200000:=by
  have h1:=M.tot_eq x
  have h2:=tot_len (xs:=x.Holds)
  have:=HTT.out
  omega
 obtain ⟨hn1,hn2⟩:=hn
 obtain ⟨y,hy⟩:∃ y,M.viewOf x n=y:=⟨_,rfl⟩
 have CI:=zh (fun (v:Value) (u:World) (h:Rv u v x)=>impl_ViewOf v x n u h)
 have CS:=zh (fun (v:Value) (u:World) (h:Rv u v x)=>spec_ViewOf v x n u h)
 rw [hy] at CI CS
 have HY:=zh hy
 clear hy
 have faK:=KA.out.ext E.out
 obtain ⟨fa0,fa1,fa2,fa3,fa4,fa5,fa6⟩:=Bk.k7 faK
 have faL:=faK.lt
 clear faK
 go_upto_region 5 with (go_at_call 25;refine (CI.out _ _ HV.out).mono ?_;rintro e w2 ⟨v2,rfl,ho,he⟩;obtain ⟨ya,yc,rfl,hyl⟩:=ho.rs.form;have HR0:=zh ho.rs;replace E:=zh (E.out.tr he);clear ho he)
 clear fa0 fa1 fa2 fa3 fa4 fa5 fa6 faL
 refine abs_world (fun u=>Ext W1 u∧Rs u (.slice ya y.length yc) y) ⟨E.out,HR0.out⟩ ?_
 rintro W3 ⟨e3,hr3⟩
 replace E:=zh e3
 have HR:=zh hr3
 clear e3 hr3 HR0
 replace HV:=zh (HV.out.ext E.out)
 replace KA:=zh (KA.out.ext E.out)
 replace s0:=zh (s0.out.ext E.out)
 replace s1:=zh (s1.out.ext E.out)
 replace s2:=zh (s2.out.ext E.out)
 replace s3:=zh (s3.out.ext E.out)
 replace s4:=zh (s4.out.ext E.out)
 replace s5:=zh (s5.out.ext E.out)
 replace HE:=zh (HE.out.tr E.out)
 clear E
 have E:=zh (Ext.refl W3)
 have gaK:=KA.out.ext E.out
 obtain ⟨ga0,ga1,ga2,ga3,ga4,ga5,ga6⟩:=Bk.k7 gaK
 have gaL:=gaK.lt
 clear gaK
 cases g:M.seen x n
 ·have hl:y.length≤0:=by rw [← HY.out,M.viewOf_f g];exact Nat.le_refl _
  have hy0:((y.length:Int) == 0)=true:=by rw [beq_iff_eq];omega
  go_wp2_with (first
    | (go_at_call 26;refine (CS.out _ _ (HV.out.ext E.out)).mono ?_;rintro e wa ⟨v4,rfl,ho,he⟩;replace E:=zh (E.out.tr he);have HR4:=zh ho.rs;clear ho;have r0aK:=KA.out.ext E.out;obtain ⟨r0a0,r0a1,r0a2,r0a3,r0a4,r0a5,r0a6⟩:=Bk.k7 r0aK;have r0aL:=r0aK.lt;clear r0aK;clear he)
    | (go_at_call 21;refine (law_sameInts _ _ y y _ (HR.out.ext E.out) HR4.out).mono ?_;rintro e wb ⟨rfl,he⟩;replace E:=zh (E.out.tr he);rw [Eqb.t (rfl:y=y)];have r1aK:=KA.out.ext E.out;obtain ⟨r1a0,r1a1,r1a2,r1a3,r1a4,r1a5,r1a6⟩:=Bk.k7 r1aK;have r1aL:=r1aK.lt;clear r1aK;clear he;clear r0a0 r0a1 r0a2 r0a3 r0a4 r0a5 r0a6 r0aL)
    | (go_at_call 19;refine (law_alive _).mono ?_;rintro e w9 ⟨rfl,he⟩;replace E:=zh (E.out.tr he);clear he))
  go_ret
  exact ⟨rfl,HE.out.tr E.out⟩
 obtain ⟨hmv,hg2,hg3⟩:=M.seen_iff.1 g
 obtain ⟨N,rfl⟩:∃ N:Nat,n=N:=⟨n.toNat,by omega⟩
 have hN:N < x.Cores.length:=by omega
 have hyv:y=M.viewN x N:=by rw [← HY.out,M.viewOf_t g]
 have hypos:1≤y.length:=by rw [hyv];have:=(M.viewN_len hmv hN).1;omega
 have hy0:((y.length:Int) == 0)=false:=by rw [beq_eq_false_iff_ne];omega
 have HYV:=zh hyv
 clear hyv
 by_cases htt:99970 < x.Tick
 ·have htb:decide (x.Tick > 99970)=true:=decide_eq_true htt
  go_wp2_with (first
    | (go_at_call 26;refine (CS.out _ _ (HV.out.ext E.out)).mono ?_;rintro e wa ⟨v4,rfl,ho,he⟩;replace E:=zh (E.out.tr he);have HR4:=zh ho.rs;clear ho;have r0aK:=KA.out.ext E.out;obtain ⟨r0a0,r0a1,r0a2,r0a3,r0a4,r0a5,r0a6⟩:=Bk.k7 r0aK;have r0aL:=r0aK.lt;clear r0aK;clear he)
    | (go_at_call 21;refine (law_sameInts _ _ y y _ (HR.out.ext E.out) HR4.out).mono ?_;rintro e wb ⟨rfl,he⟩;replace E:=zh (E.out.tr he);rw [Eqb.t (rfl:y=y)];have r1aK:=KA.out.ext E.out;obtain ⟨r1a0,r1a1,r1a2,r1a3,r1a4,r1a5,r1a6⟩:=Bk.k7 r1aK;have r1aL:=r1aK.lt;clear r1aK;clear he;clear r0a0 r0a1 r0a2 r0a3 r0a4 r0a5 r0a6 r0aL)
    | (go_at_call 19;refine (law_alive _).mono ?_;rintro e w9 ⟨rfl,he⟩;replace E:=zh (E.out.tr he);clear he))
  go_ret
  exact ⟨rfl,HE.out.tr E.out⟩
 have htb:decide (x.Tick > 99970)=false:=decide_eq_false htt
 have hsv:M.ssv x.Plan.Slots (x.Cores.length:Int)=true:=by rw [hmv.nc];exact hmv.ssv
 have hT0:=hmv.tick.1
 have hT1:x.Tick≤99970:=by omega
 have ho1:=M.own_bd (xs:=x.Plan.Slots) (n:=N) (t:=x.Tick) (by omega)
 obtain ⟨eb0,eo0,er0,ep0,ec0,rfl,hB0,hX0,hF00,hF01,hF02,hR0,hS0,hL0,hV0⟩:=s4.out.atCore N hN
 have gL0:=Nat.lt_of_lt_of_le hB0 E.out.sz
 have gF00:=(cell_ext E.out hB0).trans hF00
 have gF01:=(cell_ext E.out hB0).trans hF01
 have gF02:=(cell_ext E.out hB0).trans hF02
 obtain ⟨hp1,hp2,hp3⟩:=M.viewN_parts hX0.out
 rw [← HYV.out] at hp1 hp2 hp3
 obtain ⟨kp1,kp3⟩:=M.clock_at hmv hX0.out (by omega)
 have hrunm:M.runM x 30=M.run x 30:=if_pos (M.runs_iff.2 ⟨hmv,⟨by omega,by omega⟩,by omega⟩)
 obtain ⟨g1,g2',g3',g4,g5,g6⟩:=M.run_MV hmv 30 (by omega)
 have hzv:M.viewOf (M.runM x 30) N=M.viewN (M.run x 30) N:=by
  rw [hrunm]
  exact M.viewOf_t (M.seen_iff.2 ⟨g1,by omega,by rw [g5];omega⟩)
 obtain ⟨zz,hzz⟩:∃ q,M.viewN (M.run x 30) N=q:=⟨_,rfl⟩
 have CV:=zh (fun (v:Value) (u:World) (h:Rv u v (M.runM x 30))=>impl_ViewOf v (M.runM x 30) N u h)
 rw [hzv,hzz] at CV
 rw [hzz] at kp1 kp3
 have hc8:=M.fits_len hmv hX0.out
 obtain ⟨L2,hL2⟩:∃ q:Nat,q=er0.Cells.length+2:=⟨_,rfl⟩
 have hw2:IntKind.i64.wrap ((er0.Cells.length:Int)+2)=(L2:Int):=(wrap_small (by omega) (by omega)).trans (by omega)
 have hlt2:L2 < y.length:=by omega
 have hlt3:L2 < zz.length:=by omega
 rw [← hL2] at hp3 kp3
 have HP3:=zh hp3
 have KP3:=zh kp3
 obtain ⟨oa,hoa⟩:∃ q,M.own x.Plan.Slots N x.Tick=q:=⟨_,rfl⟩
 rw [hoa] at HP3 KP3 ho1
 have hw30:IntKind.i64.wrap (x.Tick+30)=x.Tick+30:=wrap_small (by omega) (by omega)
 have HSV:=zh hsv
 clear hp1 hp2 hp3 kp1 kp3 hL2 HYV hsv hmv g HY g1 g2' g3' g4 g5 g6 hzv hzz hrunm hoa htt
 go_upto_region 11 with (first
  | (go_at_call 26;refine (CS.out _ _ (HV.out.ext E.out)).mono ?_;rintro e wa ⟨v4,rfl,ho,he⟩;replace E:=zh (E.out.tr he);have HR4:=zh ho.rs;clear ho;have r0aK:=KA.out.ext E.out;obtain ⟨r0a0,r0a1,r0a2,r0a3,r0a4,r0a5,r0a6⟩:=Bk.k7 r0aK;have r0aL:=r0aK.lt;clear r0aK;have r0x0:=(cell_ext E.out hB0).trans hF00;clear he)
  | (go_at_call 21;refine (law_sameInts _ _ y y _ (HR.out.ext E.out) HR4.out).mono ?_;rintro e wb ⟨rfl,he⟩;replace E:=zh (E.out.tr he);rw [Eqb.t (rfl:y=y)];have r1aK:=KA.out.ext E.out;obtain ⟨r1a0,r1a1,r1a2,r1a3,r1a4,r1a5,r1a6⟩:=Bk.k7 r1aK;have r1aL:=r1aK.lt;clear r1aK;have r1x0:=(cell_ext E.out hB0).trans hF00;clear he;clear r0a0 r0a1 r0a2 r0a3 r0a4 r0a5 r0a6 r0aL r0x0)
  | (go_at_call 39;refine (impl_RunMachine _ x 30 _ (HV.out.ext E.out)).mono ?_;rintro e wc ⟨v5,rfl,ho,he⟩;replace E:=zh (E.out.tr he);have HO5:=zh ho.rv;clear ho;have r2aK:=KA.out.ext E.out;obtain ⟨r2a0,r2a1,r2a2,r2a3,r2a4,r2a5,r2a6⟩:=Bk.k7 r2aK;have r2aL:=r2aK.lt;clear r2aK;have r2x0:=(cell_ext E.out hB0).trans hF00;clear he;clear r1a0 r1a1 r1a2 r1a3 r1a4 r1a5 r1a6 r1aL r1x0)
  | (go_at_call 25;refine (CV.out _ _ HO5.out).mono ?_;rintro e wd ⟨v6,rfl,ho,he⟩;replace E:=zh (E.out.tr he);obtain ⟨za,zc,rfl,hzl⟩:=ho.rs.form;have HZ0:=zh ho.rs;clear ho HO5;have r3aK:=KA.out.ext E.out;obtain ⟨r3a0,r3a1,r3a2,r3a3,r3a4,r3a5,r3a6⟩:=Bk.k7 r3aK;have r3aL:=r3aK.lt;clear r3aK;have r3x0:=(cell_ext E.out hB0).trans hF00;clear he;clear r2a0 r2a1 r2a2 r2a3 r2a4 r2a5 r2a6 r2aL r2x0))
 refine abs_world (fun u=>Ext W3 u∧Rs u (.slice za zz.length zc) zz) ⟨E.out,HZ0.out⟩ ?_
 rintro W5 ⟨e5,hz5⟩
 replace E:=zh e5
 have HZ:=zh hz5
 clear e5 hz5 HZ0 hF00 gL0 gF00 gF01 gF02 CI CS CV r3a0 r3a1 r3a2 r3a3 r3a4 r3a5 r3a6 r3aL r3x0
 replace HV:=zh (HV.out.ext E.out)
 replace KA:=zh (KA.out.ext E.out)
 replace HR:=zh (HR.out.ext E.out)
 replace s0:=zh (s0.out.ext E.out)
 replace s1:=zh (s1.out.ext E.out)
 replace s2:=zh (s2.out.ext E.out)
 replace s3:=zh (s3.out.ext E.out)
 replace s4:=zh (s4.out.ext E.out)
 replace s5:=zh (s5.out.ext E.out)
 replace HE:=zh (HE.out.tr E.out)
 clear E
 have E:=zh (Ext.refl W5)
 have haK:=KA.out.ext E.out
 obtain ⟨ha0,ha1,ha2⟩:=Bk.k3 haK
 have ha4:=haK.cell (j:=4) rfl
 have ha6:=haK.cell (j:=6) rfl
 have haL:=haK.lt
 clear haK
 go_wp2
 go_loopw [8,9] (fun r i wr => ∃ k:Nat,k≤30∧i = .int .i64 (x.Tick+k)∧r = .int .i64 (M.ranN x N k:Nat)∧Ext W5 wr) (fun _ i _=>(x.Tick+30 - intOf i).toNat)
 case atStart=>exact ⟨0,Nat.zero_le _,by simp,rfl,E.out⟩
 case round =>
  obtain ⟨k,hk,rfl,rfl,er⟩:=hrel
  replace E:=zh er
  clear er ha0 ha1 ha2 ha4 ha6 haL
  have hrl:=M.ranN_le x N k
  by_cases hkt:k < 30
  ·have iaK:=KA.out.ext E.out
   obtain ⟨ia0,ia1,ia2⟩:=Bk.k3 iaK
   have ia4:=iaK.cell (j:=4) rfl
   have ia6:=iaK.cell (j:=6) rfl
   have iaL:=iaK.lt
   clear iaK
   have CW:=zh (fun (v:Value) (u:World) (h:Rs u v x.Plan.Slots)=>impl_WhoRuns v x.Plan.Slots x.Cores.length (x.Tick+k) u h HSV.out (by omega) (by omega))
   obtain ⟨q,hq⟩:∃ q,M.who x.Plan.Slots (x.Tick+k)=q:=⟨_,rfl⟩
   rw [hq] at CW
   have hrn:M.ranN x N (k+1)=M.ranN x N k+(if q=N then 1 else 0):=by rw [← hq];rfl
   have HRN:=zh hrn
   have hwk:IntKind.i64.wrap (x.Tick+(k:Int)+1)=x.Tick+((k+1:Nat):Int):=(wrap_small (by omega) (by omega)).trans (by omega)
   have hlk:decide (x.Tick+(k:Int) < x.Tick+30)=true:=decide_eq_true (by omega)
   have hwr:IntKind.i64.wrap ((M.ranN x N k:Int)+1)=(M.ranN x N k:Int)+1:=wrap_small (by omega) (by omega)
   clear hq hrn
   by_cases hqn:q=N
   ·have hqb:(q == (N:Int))=true:=by rw [hqn];exact beq_self_eq_true _
    have hr2:M.ranN x N (k+1)=M.ranN x N k+1:=by rw [HRN.out,if_pos hqn]
    have HR2:=zh hr2
    clear hqn hr2
    go_wp2_with ((go_at_call 40;refine (CW.out _ _ (s2.out.ext E.out)).mono ?_;rintro e wa ⟨rfl,he⟩;replace E:=zh (E.out.tr he);have r0aK:=KA.out.ext E.out;obtain ⟨r0a0,r0a1,r0a2⟩:=Bk.k3 r0aK;have r0a4:=r0aK.cell (j:=4) rfl;have r0a6:=r0aK.cell (j:=6) rfl;have r0aL:=r0aK.lt;clear r0aK;clear he))
    exact ⟨⟨k+1,by omega,rfl,by rw [HR2.out];rfl,E.out⟩,by simp only [intOf];omega⟩
   have hqb:(q == (N:Int))=false:=by simpa using hqn
   have hr2:M.ranN x N (k+1)=M.ranN x N k:=by rw [HRN.out,if_neg hqn];rfl
   have HR2:=zh hr2
   clear hqn hr2
   go_wp2_with ((go_at_call 40;refine (CW.out _ _ (s2.out.ext E.out)).mono ?_;rintro e wa ⟨rfl,he⟩;replace E:=zh (E.out.tr he);have r0aK:=KA.out.ext E.out;obtain ⟨r0a0,r0a1,r0a2⟩:=Bk.k3 r0aK;have r0a4:=r0aK.cell (j:=4) rfl;have r0a6:=r0aK.cell (j:=6) rfl;have r0aL:=r0aK.lt;clear r0aK;clear he))
   exact ⟨⟨k+1,by omega,rfl,by rw [HR2.out],E.out⟩,by simp only [intOf];omega⟩
  obtain rfl:k=30:=by omega
  have hlk:decide (x.Tick+((30:Nat):Int) < x.Tick+30)=false:=decide_eq_false (by omega)
  have hlk2:decide (x.Tick+30 < x.Tick+30)=false:=decide_eq_false (by omega)
  obtain ⟨rn,hrn⟩:∃ q,M.ranN x N 30=q:=⟨_,rfl⟩
  rw [hrn] at hrl
  rw [hrn] at KP3
  rw [hrn]
  clear hrn
  obtain ⟨eb1,eo1,er1,rfl,hB1,hX1,hF10,hR1⟩:=HR.out.atInt L2 (by omega)
  have gL1:=Nat.lt_of_lt_of_le hB1 E.out.sz
  have gF10:=(cell_ext E.out hB1).trans hF10
  obtain rfl:er1=oa:=by have h3:=hX1.out;rw [HP3.out] at h3;exact (Option.some.inj h3).symm
  obtain ⟨eb2,eo2,er2,rfl,hB2,hX2,hF20,hR2⟩:=HZ.out.atInt L2 (by omega)
  have gL2:=Nat.lt_of_lt_of_le hB2 E.out.sz
  have gF20:=(cell_ext E.out hB2).trans hF20
  obtain rfl:er2=er1+(rn:Int):=by have h3:=hX2.out;rw [KP3.out] at h3;exact (Option.some.inj h3).symm
  have hwa:IntKind.i64.wrap (er1+(rn:Int))=er1+(rn:Int):=wrap_small (by omega) (by omega)
  clear HP3 KP3 hX1 hX2
  have jaK:=KA.out.ext E.out
  obtain ⟨ja0,ja1,ja2⟩:=Bk.k3 jaK
  have ja4:=jaK.cell (j:=4) rfl
  have ja6:=jaK.cell (j:=6) rfl
  have jaL:=jaK.lt
  clear jaK
  go_wp2
  go_big_quiet (fail)
  go_wp2
  go_ret
  refine ⟨?_,HE.out.tr (E.out.drewN _)⟩
  first | rfl | simp
theorem lawViewTrace (v:Value) (xs:List By) (w:World) (h:Rs w v xs) :
  Calls Tryz.prog 12 #[v] w fun e w'=>e = .returned (.bool true)∧Ext w w':=by
 obtain ⟨a,c,rfl,hl⟩:=h.form
 have H:=zh h
 clear h
 by_cases hx:xs.length≤1048576
 case neg =>
  have hx2:1048576 < xs.length:=by omega
  clear hx
  go_enter Tryz.func12,Tryz.ntmps12
  go_wp2
  go_ret
  exact ⟨rfl,Ext.refl w⟩
 go_enter Tryz.func12,Tryz.ntmps12
 go_upto_region 4 with (go_at_call 45;refine (spec_DrawViewTrace _ _ _ H.out).mono ?_;rintro e w1 ⟨v1,x,n,z,rfl,hv,htt,hn,hzb,he⟩;obtain ⟨p0,q0,p1,q1,p2,q2,p3,q3,p4,q4,p5,q5,rfl,-⟩:=hv.openMc;have HV:=zh hv.rv;have HTT:=zh htt;have HE:=zh he;clear hv htt he)
 obtain ⟨A,hA⟩:∃ A,A=w1.heap.size:=⟨_,rfl⟩
 refine abs_world (fun u=>Ext w1 u∧Bk u A [.slice p0 x.Plan.Parts.length q0,.slice p1 x.Plan.Channels.length q1,.slice p2 x.Plan.Slots.length q2,.slice p3 x.Programs.length q3,.slice p4 x.Cores.length q4,.slice p5 x.Holds.length q5,.int .i64 x.Tick] 32) ⟨(Ext.refl _).alloc _,by rw [hA];exact Bk.new _ _ _⟩ ?_
 rw [← hA]
 rintro W1 ⟨e1,kA⟩
 clear hA H
 replace HV:=zh (HV.out.ext e1)
 replace HE:=zh (HE.out.tr e1)
 have KA:=zh kA
 clear e1 kA
 have E:=zh (Ext.refl W1)
 obtain ⟨_,_,_,_,_,_,_,_,_,_,_,_,ee,r6,s0,-,s1,-,s2,-,s3,-,s4,-,s5,-⟩:=HV.out.openMachine
 have e9:=congrArg (fun v=>match v with | .agg a=>a.toList | _ => []) ee
 simp only [List.cons.injEq,Value.slice.injEq,and_true,true_and] at e9
 obtain ⟨⟨rfl,rfl⟩,⟨rfl,rfl⟩,⟨rfl,rfl⟩,⟨rfl,rfl⟩,⟨rfl,rfl⟩,⟨rfl,rfl⟩⟩:=e9
 clear ee
 have hxc:x.Cores.length≤200000:=by
  have h1:=M.tot_eq x
  have h2:=tot_len (xs:=x.Cores)
  have:=HTT.out
  omega
 have hxh:x.Holds.length≤200000:=by
  have h1:=M.tot_eq x
  have h2:=tot_len (xs:=x.Holds)
  have:=HTT.out
  omega
 obtain ⟨hn1,hn2⟩:=hn
 have hrz:rng z:=rng_sm (by omega) (by omega)
 obtain ⟨y,hy⟩:∃ y,M.viewTrace x n z=y:=⟨_,rfl⟩
 have CI:=zh (fun (v:Value) (u:World) (h:Rv u v x)=>impl_ViewTrace v x n z u h)
 have CS:=zh (fun (v:Value) (u:World) (h:Rv u v x)=>spec_ViewTrace v x n z u h hrz)
 rw [hy] at CI CS
 have HY:=zh hy
 clear hy
 have faK:=KA.out.ext E.out
 obtain ⟨fa0,fa1,fa2,fa3,fa4,fa5,fa6⟩:=Bk.k7 faK
 have faL:=faK.lt
 clear faK
 go_upto_region 5 with (go_at_call 46;refine (CI.out _ _ HV.out).mono ?_;rintro e w2 ⟨v2,rfl,ho,he⟩;obtain ⟨ya,yc,rfl,hyl⟩:=ho.rs.form;have HR0:=zh ho.rs;replace E:=zh (E.out.tr he);clear ho he)
 clear fa0 fa1 fa2 fa3 fa4 fa5 fa6 faL
 refine abs_world (fun u=>Ext W1 u∧Rs u (.slice ya y.length yc) y) ⟨E.out,HR0.out⟩ ?_
 rintro W3 ⟨e3,hr3⟩
 replace E:=zh e3
 have HR:=zh hr3
 clear e3 hr3 HR0
 replace HV:=zh (HV.out.ext E.out)
 replace KA:=zh (KA.out.ext E.out)
 replace s0:=zh (s0.out.ext E.out)
 replace s1:=zh (s1.out.ext E.out)
 replace s2:=zh (s2.out.ext E.out)
 replace s3:=zh (s3.out.ext E.out)
 replace s4:=zh (s4.out.ext E.out)
 replace s5:=zh (s5.out.ext E.out)
 replace HE:=zh (HE.out.tr E.out)
 clear E
 have E:=zh (Ext.refl W3)
 have gaK:=KA.out.ext E.out
 obtain ⟨ga0,ga1,ga2,ga3,ga4,ga5,ga6⟩:=Bk.k7 gaK
 have gaL:=gaK.lt
 clear gaK
 by_cases hyz:y.length=0
 ·have hy0:((y.length:Int) == 0)=true:=by rw [beq_iff_eq];omega
  have HYZ:=zh hyz
  clear hyz
  go_wp2_with (first
    | (go_at_call 47;refine (CS.out _ _ (HV.out.ext E.out)).mono ?_;rintro e wa ⟨v4,rfl,ho,he⟩;replace E:=zh (E.out.tr he);have HR4:=zh ho.rs;clear ho;have r0aK:=KA.out.ext E.out;obtain ⟨r0a0,r0a1,r0a2,r0a3,r0a4,r0a5,r0a6⟩:=Bk.k7 r0aK;have r0aL:=r0aK.lt;clear r0aK;clear he)
    | (go_at_call 21;refine (law_sameInts _ _ y y _ (HR.out.ext E.out) HR4.out).mono ?_;rintro e wb ⟨rfl,he⟩;replace E:=zh (E.out.tr he);rw [Eqb.t (rfl:y=y)];have r1aK:=KA.out.ext E.out;obtain ⟨r1a0,r1a1,r1a2,r1a3,r1a4,r1a5,r1a6⟩:=Bk.k7 r1aK;have r1aL:=r1aK.lt;clear r1aK;clear he;clear r0a0 r0a1 r0a2 r0a3 r0a4 r0a5 r0a6 r0aL)
    | (go_at_call 19;refine (law_alive _).mono ?_;rintro e w9 ⟨rfl,he⟩;replace E:=zh (E.out.tr he);clear he))
  go_ret
  exact ⟨rfl,HE.out.tr E.out⟩
 have hy0:((y.length:Int) == 0)=false:=by rw [beq_eq_false_iff_ne];omega
 obtain ⟨hv1,hv2⟩:M.seen x n=true∧M.runs x z 200=true:=by
  by_cases h:M.seen x n=true∧M.runs x z 200=true
  ·exact h
  ·have:=HY.out
   rw [M.viewTrace,if_neg h] at this
   rw [← this] at hyz
   exact absurd rfl hyz
 obtain ⟨hmv,hg2,hg3⟩:=M.seen_iff.1 hv1
 obtain ⟨-,⟨hz0,hz1⟩,hz2⟩:=M.runs_iff.1 hv2
 obtain ⟨N,rfl⟩:∃ N:Nat,n=N:=⟨n.toNat,by omega⟩
 obtain ⟨T,rfl⟩:∃ T:Nat,z=T:=⟨z.toNat,by omega⟩
 have hN:N < x.Cores.length:=by omega
 have hyt:y=M.traceN x N T:=by rw [← HY.out,M.viewTrace_t hv1 hv2]
 have hyl2:y.length=T:=by rw [hyt,M.traceN_len]
 obtain ⟨hf,hhf⟩:∃ q:Nat,q=y.length / 2:=⟨_,rfl⟩
 have hfl:hf < y.length:=by omega
 have hfle:hf≤y.length:=by omega
 have hlenb:((y.length:Int) == (T:Int))=true:=by rw [beq_iff_eq];omega
 have hdiv:((y.length:Nat):Int).tdiv 2=(hf:Int):=by rw [hhf];exact (Int.ofNat_tdiv y.length 2).symm
 have hdiv2:((y.length:Nat):Int) / 2=(hf:Int):=by omega
 have hw1:IntKind.i64.wrap ((hf:Int)+1)=(hf:Int)+1:=wrap_small (by omega) (by omega)
 have hvt:M.viewTrace x N hf=y.take hf:=by
  rw [M.viewTrace_t hv1 (M.runs_iff.2 ⟨hmv,⟨by omega,by omega⟩,by omega⟩),hyt,M.traceN_take x N hf T (by omega)]
 have hyg:y[hf]? = some (M.mix 7 (M.viewN (M.run x (hf+1)) N)):=by rw [hyt];exact M.traceN_get x N hf T (by omega)
 obtain ⟨g1,g2,g3,g4,g5,g6⟩:=M.run_MV hmv (hf+1) (by omega)
 have e1:M.runM x ((hf:Int)+1)=M.run x (hf+1):=by
  rw [show (hf:Int)+1=((hf+1:Nat):Int) by omega]
  exact if_pos (M.runs_iff.2 ⟨hmv,⟨by omega,by omega⟩,by omega⟩)
 have e2:M.viewOf (M.runM x ((hf:Int)+1)) N=M.viewN (M.run x (hf+1)) N:=by
  rw [e1]
  exact M.viewOf_t (M.seen_iff.2 ⟨g1,by omega,by rw [g5];omega⟩)
 obtain ⟨zz,hzz⟩:∃ q,M.viewN (M.run x (hf+1)) N=q:=⟨_,rfl⟩
 obtain ⟨mm,hmm⟩:∃ q,M.runM x ((hf:Int)+1)=q:=⟨_,rfl⟩
 obtain ⟨yt,hytk⟩:∃ q,y.take hf=q:=⟨_,rfl⟩
 have CT:=zh (fun (v:Value) (u:World) (h:Rv u v x)=>impl_ViewTrace v x N hf u h)
 have CR:=zh (fun (v:Value) (u:World) (h:Rv u v x)=>impl_RunMachine v x ((hf:Int)+1) u h)
 have CV:=zh (fun (v:Value) (u:World) (h:Rv u v mm)=>impl_ViewOf v mm N u h)
 rw [hvt,hytk] at CT
 rw [hmm] at CR e2
 rw [e2,hzz] at CV
 rw [hzz] at hyg
 have HYG:=zh hyg
 have hcap:hf≤yc:=by
  obtain ⟨_,_,_,e9,h9,_⟩:=HR.out
  cases e9
  omega
 have htk:=HR.out.take hfle
 rw [hytk] at htk
 have HTK:=zh htk
 clear htk hyg e1 e2 g1 g2 g3 g4 g5 g6 hhf hyt hyl2 hv1 hv2 hmv HY hvt hzz hmm hytk hyz
 obtain ⟨eb1,eo1,er1,rfl,hB1,hX1,hF10,hR1⟩:=HR.out.atInt hf hfl
 have gL1:=Nat.lt_of_lt_of_le hB1 E.out.sz
 have gF10:=(cell_ext E.out hB1).trans hF10
 obtain rfl:er1=M.mix 7 zz:=by have h3:=hX1.out;rw [HYG.out] at h3;exact (Option.some.inj h3).symm
 clear hX1 HYG
 go_upto_region 10 with (first
  | (go_at_call 47;refine (CS.out _ _ (HV.out.ext E.out)).mono ?_;rintro e wa ⟨v4,rfl,ho,he⟩;replace E:=zh (E.out.tr he);have HR4:=zh ho.rs;clear ho;have r0aK:=KA.out.ext E.out;obtain ⟨r0a0,r0a1,r0a2,r0a3,r0a4,r0a5,r0a6⟩:=Bk.k7 r0aK;have r0aL:=r0aK.lt;clear r0aK;clear he)
  | (go_at_call 21;refine (law_sameInts _ _ y y _ (HR.out.ext E.out) HR4.out).mono ?_;rintro e wb ⟨rfl,he⟩;replace E:=zh (E.out.tr he);rw [Eqb.t (rfl:y=y)];have r1aK:=KA.out.ext E.out;obtain ⟨r1a0,r1a1,r1a2,r1a3,r1a4,r1a5,r1a6⟩:=Bk.k7 r1aK;have r1aL:=r1aK.lt;clear r1aK;clear he;clear r0a0 r0a1 r0a2 r0a3 r0a4 r0a5 r0a6 r0aL))
 have gL1':=Nat.lt_of_lt_of_le hB1 E.out.sz
 have gF10':=(cell_ext E.out hB1).trans hF10
 clear gL1 gF10
 go_region_held3 (fun u=>u.cell? ⟨A,0,none⟩=some (.slice p0 x.Plan.Parts.length q0)∧u.cell? ⟨A,1,none⟩=some (.slice p1 x.Plan.Channels.length q1)∧u.cell? ⟨A,2,none⟩=some (.slice p2 x.Plan.Slots.length q2)∧u.cell? ⟨A,3,none⟩=some (.slice p3 x.Programs.length q3)∧u.cell? ⟨A,4,none⟩=some (.slice p4 x.Cores.length q4)∧u.cell? ⟨A,5,none⟩=some (.slice p5 x.Holds.length q5)∧u.cell? ⟨A,6,none⟩=some (.int .i64 x.Tick)∧u.cell? ⟨eb1,eo1+hf,none⟩=some (.int .i64 (M.mix 7 zz)))
  (go_keep)
  (first
   | (go_at_call 46;refine (CT.out _ _ (HV.out.ext E.out.drew)).mono ?_;rintro e wa ⟨v5,rfl,ho,he⟩;replace E:=zh (E.out.drew.tr he);have HO5:=zh ho.rs;clear ho CT;have r0aK:=KA.out.ext E.out;obtain ⟨r0a0,r0a1,r0a2,r0a3,r0a4,r0a5,r0a6⟩:=Bk.k7 r0aK;have r0aL:=r0aK.lt;clear r0aK;have r0x0:=(cell_ext E.out hB1).trans hF10;clear he;clear r1a0 r1a1 r1a2 r1a3 r1a4 r1a5 r1a6 r1aL)
   | (go_at_call 21;refine (law_sameInts _ _ yt yt _ HO5.out (HTK.out.ext E.out)).mono ?_;rintro e wb ⟨rfl,he⟩;replace E:=zh (E.out.tr he);rw [Eqb.t (rfl:yt=yt)];clear HO5;have r1aK:=KA.out.ext E.out;obtain ⟨r1a0,r1a1,r1a2,r1a3,r1a4,r1a5,r1a6⟩:=Bk.k7 r1aK;have r1aL:=r1aK.lt;clear r1aK;have r1x0:=(cell_ext E.out hB1).trans hF10;clear he;clear r0a0 r0a1 r0a2 r0a3 r0a4 r0a5 r0a6 r0aL r0x0)
   | (go_at_call 39;refine (CR.out _ _ (HV.out.ext E.out)).mono ?_;rintro e wc ⟨v6,rfl,ho,he⟩;replace E:=zh (E.out.tr he);have HO6:=zh ho.rv;clear ho;have r2aK:=KA.out.ext E.out;obtain ⟨r2a0,r2a1,r2a2,r2a3,r2a4,r2a5,r2a6⟩:=Bk.k7 r2aK;have r2aL:=r2aK.lt;clear r2aK;have r2x0:=(cell_ext E.out hB1).trans hF10;clear he;clear r1a0 r1a1 r1a2 r1a3 r1a4 r1a5 r1a6 r1aL r1x0)
   | (go_at_call 25;refine (CV.out _ _ HO6.out).mono ?_;rintro e wd ⟨v7,rfl,ho,he⟩;replace E:=zh (E.out.tr he);have HO7:=zh ho.rs;clear ho HO6;have r3aK:=KA.out.ext E.out;obtain ⟨r3a0,r3a1,r3a2,r3a3,r3a4,r3a5,r3a6⟩:=Bk.k7 r3aK;have r3aL:=r3aK.lt;clear r3aK;have r3x0:=(cell_ext E.out hB1).trans hF10;clear he;clear r2a0 r2a1 r2a2 r2a3 r2a4 r2a5 r2a6 r2aL r2x0)
   | (go_at_call 48;refine (impl_MixNumbers _ zz 7 _ HO7.out (by decide) (by decide)).mono ?_;rintro e we ⟨rfl,rfl⟩))
 all_goals
  go_wp2
  go_ret
  refine ⟨?_,HE.out.tr E.out⟩
  first | rfl | simp
end Sk
