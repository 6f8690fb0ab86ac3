/- Contracts of functions of the given program, each under the condition that it states. -/
import Derived.Test.YtfbkkjihlncnhaaGreatChecked
import Derived.Deep.CutBlock
import Derived.Deep.CutRange
import Derived.Test.YtfbkkjihlncnhaaGreatVWSeen
import Derived.Test.YtfbkkjihlncnhaaGreatCopy
import Derived.Test.YtfbkkjihlncnhaaGreatZztVwM
import Derived.Test.YtfbkkjihlncnhaaGreatZyDm
import Derived.Test.YtfbkkjihlncnhaaGreatAcc
import Derived.Test.YtfbkkjihlncnhaaGreatMix
import Derived.Test.YtfbkkjihlncnhaaGreatApp
import Derived.Test.YtfbkkjihlncnhaaGreatSame
import Derived.Test.YtfbkkjihlncnhaaGreatNumsS
import Derived.Test.YtfbkkjihlncnhaaGreatBuild
import Derived.Test.YtfbkkjihlncnhaaGreatBase
import Derived.Test.YtfbkkjihlncnhaaGreatTypes
import Derived.Test.YtfbkkjihlncnhaaGreatClone
import Derived.Test.YtfbkkjihlncnhaaGreatVHoldS
import Derived.Test.YtfbkkjihlncnhaaGreatOwnP
import Derived.Test.YtfbkkjihlncnhaaGreatXSentS
import Derived.Test.YtfbkkjihlncnhaaGreatZzySpoc
import Derived.Test.YtfbkkjihlncnhaaGreatTickT
namespace Sk
open Go Go.Proofs Go.RowKit
set_option maxHeartbeats 1000000
set_option linter.unusedVariables false
set_option linter.unusedSimpArgs false
theorem M.own_succ {xs:List Slot} (h:M.SL xs) (n:Int) {t:Int} (ht:0≤t):M.own xs n (t+1)=M.own xs n t+(if M.who xs t=n then 1 else 0):=by
 obtain ⟨T,rfl⟩:∃ T:Nat,t=T:=⟨t.toNat,by omega⟩
 have hL:1≤M.fl xs:=(M.SL.fl h).1
 have e1:((T:Int)+1).toNat=T+1:=by omega
 have hr:T % M.fl xs < M.fl xs:=Nat.mod_lt _ hL
 have hr2:T % M.fl xs < (M.frame xs).length:=hr
 have e2:M.who xs T=(M.frame xs)[T % M.fl xs]:=by
  unfold M.who
  rw [Int.toNat_natCast,List.getD_eq_getElem?_getD,List.getElem?_eq_getElem hr2];rfl
 have e3:((M.frame xs).take (T % M.fl xs+1)).count n=((M.frame xs).take (T % M.fl xs)).count n+(if M.who xs T=n then 1 else 0):=by
  rw [List.take_succ_eq_append_getElem hr2,List.count_append,e2,List.count_singleton]
  simp only [beq_iff_eq]
 have e4:M.fl xs * (T / M.fl xs)+T % M.fl xs=T:=Nat.div_add_mod T (M.fl xs)
 unfold M.own
 rw [e1,Int.toNat_natCast]
 by_cases hlt:T % M.fl xs+1 < M.fl xs
 ·have d1:(T+1) / M.fl xs=T / M.fl xs:=by
   have:T+1=(T % M.fl xs+1)+M.fl xs * (T / M.fl xs):=by omega
   rw [this,Nat.add_mul_div_left _ _ hL,Nat.div_eq_of_lt hlt,Nat.zero_add]
  have d2:(T+1) % M.fl xs=T % M.fl xs+1:=by
   have:T+1=(T % M.fl xs+1)+M.fl xs * (T / M.fl xs):=by omega
   rw [this,Nat.add_mul_mod_self_left,Nat.mod_eq_of_lt hlt]
  rw [d1,d2,e3]
  split <;> omega
 ·have d0:T+1=M.fl xs * (T / M.fl xs+1):=by rw [Nat.mul_succ];omega
  have d1:(T+1) / M.fl xs=T / M.fl xs+1:=by rw [d0,Nat.mul_div_cancel_left _ hL]
  have d2:(T+1) % M.fl xs=0:=by rw [d0,Nat.mul_mod_right]
  have e5:((M.frame xs).take (T % M.fl xs+1)).count n=(M.frame xs).count n:=by
   rw [List.take_of_length_le (by show M.fl xs≤_;omega)]
  rw [e5] at e3
  rw [d1,d2,List.take_zero,List.count_nil,Nat.succ_mul]
  split at e3 <;> split <;> first | omega | contradiction
theorem M.sentN_own {m:Machine} (h:M.MV m) (n c:Int):∀ T:Nat,m.Tick+T≤100000→(M.sentN m n c T:Int)≤M.own m.Plan.Slots n (m.Tick+T) - M.own m.Plan.Slots n m.Tick:=by
 intro T
 induction T with
 | zero=>intro _;simp [M.sentN]
 | succ T ih =>
  intro ht
  have:=ih (by omega)
  obtain ⟨h1,h2,h3,h4,h5,h6⟩:=M.run_MV h T (by omega)
  have h0:=h.tick.1
  have e:=M.own_succ (M.SL.of h.ssv) n (t:=m.Tick+T) (by omega)
  rw [show m.Tick+((T+1:Nat):Int)=m.Tick+T+1 by omega,e]
  cases hs:M.sends (M.run m T) n c
  ·rw [M.sentN_f hs];split <;> omega
  ·rw [M.sentN_t hs]
   have hw:M.who m.Plan.Slots (m.Tick+T)=n:=by
    unfold M.sends at hs
    simp only [Bool.and_eq_true,decide_eq_true_eq] at hs
    rw [← h3,← h2];exact hs.1
   rw [if_pos hw]
   omega
theorem M.sentN_add (m:Machine) (n c:Int) (a:Nat):∀ b,M.sentN m n c a+M.sentN (M.run m a) n c b=M.sentN m n c (a+b):=by
 intro b
 induction b with
 | zero=>rfl
 | succ b ih =>
  show _=M.sentN m n c ((a+b)+1)
  cases hs:M.sends (M.run m (a+b)) n c
  ·rw [M.sentN_f hs,M.sentN_f (by rw [← M.run_add];exact hs),ih]
  ·rw [M.sentN_t hs,M.sentN_t (by rw [← M.run_add];exact hs),← Nat.add_assoc,ih]
theorem M.sentN_zero {m:Machine} {n c:Int}:∀ T:Nat,(∀ k,k < T→M.sends (M.run m k) n c=false)→M.sentN m n c T=0:=by
 intro T
 induction T with
 | zero=>intro _;rfl
 | succ T ih=>intro h;rw [M.sentN_f (h T (by omega))];exact ih (fun k hk=>h k (by omega))
theorem M.sentN_rests {m:Machine} (h:M.MV m) {N C:Nat} {c:Core} (hc:m.Cores[N]? = some c) (hr:c.Stopped=true∨(M.frame m.Plan.Slots).count (N:Int)=0) {T:Nat} (ht:m.Tick+T≤100000):M.sentN m N C T=0:=by
 refine M.sentN_zero T fun k hk=>?_
 obtain ⟨h1,h2,h3,h4,h5,h6⟩:=M.run_MV h k (by omega)
 unfold M.sends
 rcases hr with hr | hr
 ·by_cases hw:M.who (M.run m k).Plan.Slots (M.run m k).Tick=N
  ·have e:=M.run_rests h hc (.inl hr) k (by omega)
   rw [M.over_some hw]
   unfold M.actAt
   rw [M.stepAt_stopped e hr,M.act_oz]
   simp
  ·rw [decide_eq_false hw];rfl
 ·rw [decide_eq_false (by rw [h3];exact M.count_who (M.SL.of h.ssv) hr _)];rfl
theorem M.sentN_from {m:Machine} (h:M.MV m) {N C:Nat} (hN:N < m.Cores.length) {ch:Channel} (hc:m.Plan.Channels[C]? = some ch) (hf:ch.From≠N) {T:Nat} (ht:m.Tick+T≤100000):M.sentN m N C T=0:=by
 refine M.sentN_zero T fun k hk=>?_
 obtain ⟨h1,h2,h3,h4,h5,h6⟩:=M.run_MV h k (by omega)
 obtain ⟨c,p,q,g1,g2,g3,g4,g5,g6,g7⟩:=h1.at (n:=N) (by rw [h5];exact hN)
 obtain ⟨f1,f2,f3⟩:=M.fits_iff.1 g4
 obtain ⟨o,ho,_⟩:=M.prv_at g5 (k:=c.At.toNat) (by omega)
 cases hs:M.sends (M.run m k) N C
 ·rfl
 ·exact absurd ((M.sends_iff h1 g1 g2 ho (by rw [h3];exact hc)).1 hs).2.2.2.2 hf
theorem M.traceN_take (m:Machine) (n h:Nat):∀ T,h≤T→(M.traceN m n T).take h=M.traceN m n h:=by
 intro T
 induction T with
 | zero =>
  intro hh
  obtain rfl:h=0:=by omega
  rfl
 | succ T ih =>
  intro hh
  by_cases e:h=T+1
  ·subst e;rw [List.take_of_length_le (by rw [M.traceN_len];exact Nat.le_refl _)]
  ·show (M.traceN m n T ++ _).take h=_
   rw [List.take_append_of_le_length (by rw [M.traceN_len];omega)]
   exact ih (by omega)
theorem M.traceN_get (m:Machine) (n h:Nat):∀ T,h < T→(M.traceN m n T)[h]? = some (M.mix 7 (M.viewN (M.run m (h+1)) n)):=by
 intro T
 induction T with
 | zero=>intro hh;omega
 | succ T ih =>
  intro hh
  show (M.traceN m n T ++ _)[h]? = _
  by_cases e:h=T
  ·subst e
   rw [List.getElem?_append_right (by rw [M.traceN_len];exact Nat.le_refl _),M.traceN_len,Nat.sub_self];rfl
  ·rw [List.getElem?_append_left (by rw [M.traceN_len];omega)]
   exact ih (by omega)
def M.ranN (m:Machine) (n:Int):Nat→Nat
 | 0=>0
 | k+1=>M.ranN m n k+(if M.who m.Plan.Slots (m.Tick+k)=n then 1 else 0)
theorem M.ranN_le (m:Machine) (n:Int):∀ k,M.ranN m n k≤k:=by
 intro k
 induction k with
 | zero=>exact Nat.le_refl _
 | succ k ih=>show M.ranN m n k+_≤_;split <;> omega
theorem M.ranN_own {m:Machine} (h:M.MV m) (n:Int):∀ T:Nat,M.own m.Plan.Slots n (m.Tick+T)=M.own m.Plan.Slots n m.Tick+M.ranN m n T:=by
 intro T
 induction T with
 | zero=>simp [M.ranN]
 | succ T ih =>
  have h0:=h.tick.1
  have e:=M.own_succ (M.SL.of h.ssv) n (t:=m.Tick+T) (by omega)
  rw [show m.Tick+((T+1:Nat):Int)=m.Tick+T+1 by omega,e,ih]
  show _=_+((M.ranN m n T+_:Nat):Int)
  split <;> omega
set_option maxHeartbeats 4000000
set_option maxRecDepth 100000
theorem lawSentNothing (v:Value) (xs:List By) (w:World) (h:Rs w v xs) :
  Calls Tryz.prog 7 #[v] w fun e w'=>e = .returned (.bool true)∧Ext w w':=by
 obtain ⟨a,c,rfl,hl⟩:=h.form
 have H:=zh h
 clear h
 by_cases hx:xs.length≤1048576
 case neg =>
  have hx2:1048576 < xs.length:=by omega
  clear hx
  go_enter Tryz.func7,Tryz.ntmps7
  go_wp2
  go_ret
  exact ⟨rfl,Ext.refl w⟩
 go_enter Tryz.func7,Tryz.ntmps7
 go_upto_region 4 with (go_at_call 35;refine (spec_DrawSentCount _ _ _ H.out).mono ?_;rintro e w1 ⟨v1,x,n,c,z,rfl,hv,htt,hrn,hcb,hzb,he⟩;obtain ⟨p0,q0,p1,q1,p2,q2,p3,q3,p4,q4,p5,q5,rfl,-⟩:=hv.openMc;have HV:=zh hv.rv;have HTT:=zh htt;have HE:=zh he;clear hv htt he)
 obtain ⟨A,hA⟩:∃ A,A=w1.heap.size:=⟨_,rfl⟩
 refine abs_world (fun u=>Ext w1 u∧Bk u A [.slice p0 x.Plan.Parts.length q0,.slice p1 x.Plan.Channels.length q1,.slice p2 x.Plan.Slots.length q2,.slice p3 x.Programs.length q3,.slice p4 x.Cores.length q4,.slice p5 x.Holds.length q5,.int .i64 x.Tick] 32) ⟨(Ext.refl _).alloc _,by rw [hA];exact Bk.new _ _ _⟩ ?_
 rw [← hA]
 rintro W1 ⟨e1,kA⟩
 clear hA H
 replace HV:=zh (HV.out.ext e1)
 replace HE:=zh (HE.out.tr e1)
 have KA:=zh kA
 clear e1 kA
 have E:=zh (Ext.refl W1)
 obtain ⟨_,_,_,_,_,_,_,_,_,_,_,_,ee,r6,s0,-,s1,-,s2,-,s3,-,s4,-,s5,-⟩:=HV.out.openMachine
 have e9:=congrArg (fun v=>match v with | .agg a=>a.toList | _ => []) ee
 simp only [List.cons.injEq,Value.slice.injEq,and_true,true_and] at e9
 obtain ⟨⟨rfl,rfl⟩,⟨rfl,rfl⟩,⟨rfl,rfl⟩,⟨rfl,rfl⟩,⟨rfl,rfl⟩,⟨rfl,rfl⟩⟩:=e9
 clear ee
 have hxc:x.Cores.length≤200000:=by
  have h1:=M.tot_eq x
  have h2:=tot_len (xs:=x.Cores)
  have:=HTT.out
  omega
 have hxh:x.Holds.length≤200000:=by
  have h1:=M.tot_eq x
  have h2:=tot_len (xs:=x.Holds)
  have:=HTT.out
  omega
 have hrz:rng z:=rng_sm (by omega) (by omega)
 obtain ⟨y,hy⟩:∃ y,M.sentCount x n c z=y:=⟨_,rfl⟩
 have CI:=zh (fun (v:Value) (u:World) (h:Rv u v x)=>impl_SentCount v x n c z u h)
 have CS:=zh (fun (v:Value) (u:World) (h:Rv u v x)=>spec_SentCount v x n c z u h hrz)
 rw [hy] at CI CS
 have HY:=zh hy
 clear hy
 have faK:=KA.out.ext E.out
 obtain ⟨fa0,fa1,fa2,fa3,fa4,fa5,fa6⟩:=Bk.k7 faK
 have faL:=faK.lt
 clear faK
 by_cases hle:y≤0
 ·go_wp2_with (first
    | (go_at_call 36;refine (CI.out _ _ (HV.out.ext E.out)).mono ?_;rintro e wa ⟨rfl,he⟩;replace E:=zh (E.out.tr he);have r0aK:=KA.out.ext E.out;obtain ⟨r0a0,r0a1,r0a2,r0a3,r0a4,r0a5,r0a6⟩:=Bk.k7 r0aK;have r0aL:=r0aK.lt;clear r0aK;clear he)
    | (go_at_call 37;refine (CS.out _ _ (HV.out.ext E.out)).mono ?_;rintro e wb ⟨rfl,he⟩;replace E:=zh (E.out.tr he);have r1aK:=KA.out.ext E.out;obtain ⟨r1a0,r1a1,r1a2,r1a3,r1a4,r1a5,r1a6⟩:=Bk.k7 r1aK;have r1aL:=r1aK.lt;clear r1aK;clear he;clear r0a0 r0a1 r0a2 r0a3 r0a4 r0a5 r0a6 r0aL)
    | (go_at_call 19;refine (law_alive _).mono ?_;rintro e w9 ⟨rfl,he⟩;replace E:=zh (E.out.tr he);clear he))
  go_ret
  exact ⟨rfl,HE.out.tr E.out⟩
 obtain ⟨hv1,hv2,hv3⟩:M.runs x z 400=true∧M.inn n 0 ((x.Cores.length:Int) - 1)=true∧M.inn c 0 ((x.Holds.length:Int) - 1)=true:=by
  by_cases h:M.runs x z 400=true∧M.inn n 0 ((x.Cores.length:Int) - 1)=true∧M.inn c 0 ((x.Holds.length:Int) - 1)=true
  ·exact h
  ·have:=HY.out
   rw [M.sentCount,if_neg h] at this
   omega
 obtain ⟨hmv,⟨hz0,hz1⟩,hz2⟩:=M.runs_iff.1 hv1
 obtain ⟨hn0,hn1⟩:=M.inn_iff.1 hv2
 obtain ⟨hc0,hc1⟩:=M.inn_iff.1 hv3
 obtain ⟨N,rfl⟩:∃ N:Nat,n=N:=⟨n.toNat,by omega⟩
 obtain ⟨C,rfl⟩:∃ C:Nat,c=C:=⟨c.toNat,by omega⟩
 obtain ⟨T,rfl⟩:∃ T:Nat,z=T:=⟨z.toNat,by omega⟩
 have hyt:y=(M.sentN x N C T:Nat):=by rw [← HY.out,M.sentCount_t hv1 hv2 hv3]
 have hN:N < x.Cores.length:=by omega
 have hsv:M.ssv x.Plan.Slots (x.Cores.length:Int)=true:=by rw [hmv.nc];exact hmv.ssv
 obtain ⟨eb0,eo0,er0,ep0,ec0,rfl,hB0,hX0,hF00,hF01,hF02,hR0,hS0,hL0,hV0⟩:=s4.out.atCore N hN
 have gL0:=Nat.lt_of_lt_of_le hB0 E.out.sz
 have gF00:=(cell_ext E.out hB0).trans hF00
 have gF01:=(cell_ext E.out hB0).trans hF01
 have gF02:=(cell_ext E.out hB0).trans hF02
 have hst:er0.Stopped=false:=by
  cases h:er0.Stopped
  ·rfl
  ·have:=M.sentN_rests hmv (C:=C) hX0.out (.inl h) hz2
   omega
 have hcp:(0:Int) < (((M.frame x.Plan.Slots).count (N:Int):Nat):Int):=by
  by_cases h:(M.frame x.Plan.Slots).count (N:Int)=0
  ·have:=M.sentN_rests hmv (C:=C) hX0.out (.inr h) hz2
   omega
  ·omega
 obtain ⟨cn,hcn⟩:∃ q,(M.frame x.Plan.Slots).count (N:Int)=q:=⟨_,rfl⟩
 have CSH:=zh (fun (v:Value) (u:World) (h:Rs u v x.Plan.Slots)=>impl_ShareOf v x.Plan.Slots x.Cores.length N u h hsv (by omega) (by omega))
 rw [hcn] at CSH hcp
 have hyb:decide (y≤0)=false:=decide_eq_false hle
 have hcb2:decide ((cn:Int) > 0)=true:=decide_eq_true hcp
 clear hcn
 rw [hst] at hF02 gF02
 clear hst hyt hmv HY hX0 hv1 hv2 hv3
 go_wp2_with (first
   | (go_at_call 36;refine (CI.out _ _ (HV.out.ext E.out)).mono ?_;rintro e wa ⟨rfl,he⟩;replace E:=zh (E.out.tr he);have r0aK:=KA.out.ext E.out;obtain ⟨r0a0,r0a1,r0a2,r0a3,r0a4,r0a5,r0a6⟩:=Bk.k7 r0aK;have r0aL:=r0aK.lt;clear r0aK;have r0x0:=(cell_ext E.out hB0).trans hF02;clear he)
   | (go_at_call 37;refine (CS.out _ _ (HV.out.ext E.out)).mono ?_;rintro e wb ⟨rfl,he⟩;replace E:=zh (E.out.tr he);have r1aK:=KA.out.ext E.out;obtain ⟨r1a0,r1a1,r1a2,r1a3,r1a4,r1a5,r1a6⟩:=Bk.k7 r1aK;have r1aL:=r1aK.lt;clear r1aK;have r1x0:=(cell_ext E.out hB0).trans hF02;clear he;clear r0a0 r0a1 r0a2 r0a3 r0a4 r0a5 r0a6 r0aL r0x0)
   | (go_at_call 38;refine (CSH.out _ _ (s2.out.ext E.out)).mono ?_;rintro e wc ⟨rfl,he⟩;replace E:=zh (E.out.tr he);have r2aK:=KA.out.ext E.out;obtain ⟨r2a0,r2a1,r2a2,r2a3,r2a4,r2a5,r2a6⟩:=Bk.k7 r2aK;have r2aL:=r2aK.lt;clear r2aK;have r2x0:=(cell_ext E.out hB0).trans hF02;clear he;clear r1a0 r1a1 r1a2 r1a3 r1a4 r1a5 r1a6 r1aL r1x0)
   | (go_at_call 19;refine (law_alive _).mono ?_;rintro e w9 ⟨rfl,he⟩;replace E:=zh (E.out.tr he);clear he))
 go_ret
 exact ⟨rfl,HE.out.tr E.out⟩
theorem lawSentCount (v:Value) (xs:List By) (w:World) (h:Rs w v xs) :
  Calls Tryz.prog 8 #[v] w fun e w'=>e = .returned (.bool true)∧Ext w w':=by
 obtain ⟨a,c,rfl,hl⟩:=h.form
 have H:=zh h
 clear h
 by_cases hx:xs.length≤1048576
 case neg =>
  have hx2:1048576 < xs.length:=by omega
  clear hx
  go_enter Tryz.func8,Tryz.ntmps8
  go_wp2
  go_ret
  exact ⟨rfl,Ext.refl w⟩
 go_enter Tryz.func8,Tryz.ntmps8
 go_upto_region 4 with (go_at_call 35;refine (spec_DrawSentCount _ _ _ H.out).mono ?_;rintro e w1 ⟨v1,x,n,c,z,rfl,hv,htt,hrn,hcb,hzb,he⟩;obtain ⟨p0,q0,p1,q1,p2,q2,p3,q3,p4,q4,p5,q5,rfl,-⟩:=hv.openMc;have HV:=zh hv.rv;have HTT:=zh htt;have HE:=zh he;clear hv htt he)
 obtain ⟨A,hA⟩:∃ A,A=w1.heap.size:=⟨_,rfl⟩
 refine abs_world (fun u=>Ext w1 u∧Bk u A [.slice p0 x.Plan.Parts.length q0,.slice p1 x.Plan.Channels.length q1,.slice p2 x.Plan.Slots.length q2,.slice p3 x.Programs.length q3,.slice p4 x.Cores.length q4,.slice p5 x.Holds.length q5,.int .i64 x.Tick] 32) ⟨(Ext.refl _).alloc _,by rw [hA];exact Bk.new _ _ _⟩ ?_
 rw [← hA]
 rintro W1 ⟨e1,kA⟩
 clear hA H
 replace HV:=zh (HV.out.ext e1)
 replace HE:=zh (HE.out.tr e1)
 have KA:=zh kA
 clear e1 kA
 have E:=zh (Ext.refl W1)
 obtain ⟨_,_,_,_,_,_,_,_,_,_,_,_,ee,r6,s0,-,s1,-,s2,-,s3,-,s4,-,s5,-⟩:=HV.out.openMachine
 have e9:=congrArg (fun v=>match v with | .agg a=>a.toList | _ => []) ee
 simp only [List.cons.injEq,Value.slice.injEq,and_true,true_and] at e9
 obtain ⟨⟨rfl,rfl⟩,⟨rfl,rfl⟩,⟨rfl,rfl⟩,⟨rfl,rfl⟩,⟨rfl,rfl⟩,⟨rfl,rfl⟩⟩:=e9
 clear ee
 have hxc:x.Cores.length≤200000:=by
  have h1:=M.tot_eq x
  have h2:=tot_len (xs:=x.Cores)
  have:=HTT.out
  omega
 have hxh:x.Holds.length≤200000:=by
  have h1:=M.tot_eq x
  have h2:=tot_len (xs:=x.Holds)
  have:=HTT.out
  omega
 have hrz:rng z:=rng_sm (by omega) (by omega)
 obtain ⟨y,hy⟩:∃ y,M.sentCount x n c z=y:=⟨_,rfl⟩
 have CI:=zh (fun (v:Value) (u:World) (h:Rv u v x)=>impl_SentCount v x n c z u h)
 have CS:=zh (fun (v:Value) (u:World) (h:Rv u v x)=>spec_SentCount v x n c z u h hrz)
 rw [hy] at CI CS
 have HY:=zh hy
 clear hy
 have faK:=KA.out.ext E.out
 obtain ⟨fa0,fa1,fa2,fa3,fa4,fa5,fa6⟩:=Bk.k7 faK
 have faL:=faK.lt
 clear faK
 by_cases hle:y < 0
 ·obtain rfl:y = -1:=by
   have:=HY.out
   unfold M.sentCount at this
   split at this <;> omega
  go_wp2_with (first
    | (go_at_call 36;refine (CI.out _ _ (HV.out.ext E.out)).mono ?_;rintro e wa ⟨rfl,he⟩;replace E:=zh (E.out.tr he);have r0aK:=KA.out.ext E.out;obtain ⟨r0a0,r0a1,r0a2,r0a3,r0a4,r0a5,r0a6⟩:=Bk.k7 r0aK;have r0aL:=r0aK.lt;clear r0aK;clear he)
    | (go_at_call 37;refine (CS.out _ _ (HV.out.ext E.out)).mono ?_;rintro e wb ⟨rfl,he⟩;replace E:=zh (E.out.tr he);have r1aK:=KA.out.ext E.out;obtain ⟨r1a0,r1a1,r1a2,r1a3,r1a4,r1a5,r1a6⟩:=Bk.k7 r1aK;have r1aL:=r1aK.lt;clear r1aK;clear he;clear r0a0 r0a1 r0a2 r0a3 r0a4 r0a5 r0a6 r0aL)
    | (go_at_call 19;refine (law_alive _).mono ?_;rintro e w9 ⟨rfl,he⟩;replace E:=zh (E.out.tr he);clear he))
  go_ret
  exact ⟨rfl,HE.out.tr E.out⟩
 obtain ⟨hv1,hv2,hv3⟩:M.runs x z 400=true∧M.inn n 0 ((x.Cores.length:Int) - 1)=true∧M.inn c 0 ((x.Holds.length:Int) - 1)=true:=by
  by_cases h:M.runs x z 400=true∧M.inn n 0 ((x.Cores.length:Int) - 1)=true∧M.inn c 0 ((x.Holds.length:Int) - 1)=true
  ·exact h
  ·have:=HY.out
   rw [M.sentCount,if_neg h] at this
   omega
 obtain ⟨hmv,⟨hz0,hz1⟩,hz2⟩:=M.runs_iff.1 hv1
 obtain ⟨hn0,hn1⟩:=M.inn_iff.1 hv2
 obtain ⟨hc0,hc1⟩:=M.inn_iff.1 hv3
 obtain ⟨N,rfl⟩:∃ N:Nat,n=N:=⟨n.toNat,by omega⟩
 obtain ⟨C,rfl⟩:∃ C:Nat,c=C:=⟨c.toNat,by omega⟩
 obtain ⟨T,rfl⟩:∃ T:Nat,z=T:=⟨z.toNat,by omega⟩
 have hyt:y=(M.sentN x N C T:Nat):=by rw [← HY.out,M.sentCount_t hv1 hv2 hv3]
 have hN:N < x.Cores.length:=by omega
 have hsv:M.ssv x.Plan.Slots (x.Cores.length:Int)=true:=by rw [hmv.nc];exact hmv.ssv
 have hT0:=hmv.tick.1
 have hT1:=hmv.tick.2
 have hso:=M.sentN_own hmv N C T hz2
 have ho1:=M.own_bd (xs:=x.Plan.Slots) (n:=N) (t:=x.Tick) (by omega)
 have ho2:=M.own_bd (xs:=x.Plan.Slots) (n:=N) (t:=x.Tick+T) (by omega)
 have hC:C < x.Plan.Channels.length:=by have:=hmv.nh;omega
 have CO1:=zh (fun (v:Value) (u:World) (h:Rs u v x.Plan.Slots)=>impl_OwnTicks v x.Plan.Slots x.Cores.length N (x.Tick+T) u h hsv (by omega) (by omega) (by omega) (by omega))
 have CO2:=zh (fun (v:Value) (u:World) (h:Rs u v x.Plan.Slots)=>impl_OwnTicks v x.Plan.Slots x.Cores.length N x.Tick u h hsv (by omega) (by omega) hT0 (by omega))
 obtain ⟨hf,hhf⟩:∃ q:Nat,q=T / 2:=⟨_,rfl⟩
 have hfl:hf≤T:=by omega
 have hdiv:(T:Int).tdiv 2=(hf:Int):=by rw [hhf];exact (Int.ofNat_tdiv T 2).symm
 have hdiv2:(T:Int) / 2=(hf:Int):=by omega
 have hsub:IntKind.i64.wrap ((T:Int) - (hf:Int))=(T:Int) - (hf:Int):=wrap_small (by omega) (by omega)
 have hadd:IntKind.i64.wrap (x.Tick+(T:Int))=x.Tick+(T:Int):=wrap_small (by omega) (by omega)
 clear hhf
 obtain ⟨g1,g2,g3,g4,g5,g6⟩:=M.run_MV hmv hf (by omega)
 have e1:M.runM x hf=M.run x hf:=if_pos (M.runs_iff.2 ⟨hmv,⟨by omega,by omega⟩,by omega⟩)
 have hcl:M.sentCount (M.runM x hf) N C ((T:Int) - hf)=(M.sentN (M.run x hf) N C (T - hf):Nat):=by
  rw [e1,show (T:Int) - hf=((T - hf:Nat):Int) by omega]
  exact M.sentCount_t (M.runs_iff.2 ⟨g1,⟨by omega,by omega⟩,by rw [g2];omega⟩) (by rw [g5];exact hv2) (by rw [g6];exact hv3)
 have hcf:M.sentCount x N C hf=(M.sentN x N C hf:Nat):=M.sentCount_t (M.runs_iff.2 ⟨hmv,⟨by omega,by omega⟩,by omega⟩) hv2 hv3
 have hsum:=M.sentN_add x N C hf (T - hf)
 rw [show hf+(T - hf)=T by omega] at hsum
 have hle1:=M.sentN_le x N C hf
 have hle2:=M.sentN_le (M.run x hf) N C (T - hf)
 obtain ⟨l1,hl1⟩:∃ q,M.sentN x N C hf=q:=⟨_,rfl⟩
 obtain ⟨l2,hl2⟩:∃ q,M.sentN (M.run x hf) N C (T - hf)=q:=⟨_,rfl⟩
 obtain ⟨oa,hoa⟩:∃ q,M.own x.Plan.Slots N (x.Tick+T)=q:=⟨_,rfl⟩
 obtain ⟨ob,hob⟩:∃ q,M.own x.Plan.Slots N x.Tick=q:=⟨_,rfl⟩
 have CR:=zh (fun (v:Value) (u:World) (h:Rv u v x)=>impl_RunMachine v x hf u h)
 have CL:=zh (fun (v:Value) (u:World) (h:Rv u v (M.runM x hf))=>impl_SentCount v (M.runM x hf) N C ((T:Int) - hf) u h)
 have CF:=zh (fun (v:Value) (u:World) (h:Rv u v x)=>impl_SentCount v x N C hf u h)
 rw [hcl,hl2] at CL
 rw [hcf,hl1] at CF
 rw [hoa] at CO1
 rw [hob] at CO2
 rw [hl1,hl2] at hsum
 rw [hl1] at hle1
 rw [hl2] at hle2
 rw [hoa] at ho2 hso
 rw [hob] at ho1 hso
 obtain ⟨eb0,eo0,er0,rfl,hB0,hX0,hF00,hF01,hF02,hF03,hR0a,hR0b,hR0c,hR0d,hV0⟩:=s1.out.atChannel C hC
 have gL0:=Nat.lt_of_lt_of_le hB0 E.out.sz
 have gF00:=(cell_ext E.out hB0).trans hF00
 have gF01:=(cell_ext E.out hB0).trans hF01
 have gF02:=(cell_ext E.out hB0).trans hF02
 have gF03:=(cell_ext E.out hB0).trans hF03
 have hfr:er0.From=N∨y=0:=by
  by_cases h:er0.From=N
  ·exact .inl h
  ·right
   have:=M.sentN_from hmv hN hX0.out h hz2
   omega
 have hyn:y=(M.sentN x N C T:Nat):=hyt
 have hson:y≤oa - ob:=by rw [hyn];exact hso
 have hsumn:((l1:Int)+l2)=y:=by rw [hyn];omega
 have hnb:¬ y < 0:=hle
 have hy3:0≤y∧y≤400:=by omega
 have CI2:=CI
 clear hl1 hl2 hoa hob hcl hcf e1 g1 g2 g3 g4 g5 g6 hyt hyn hmv HY hX0 hv1 hv2 hv3 hsv hso hsum CI2
 go_upto_region 9 with (first
  | (go_at_call 36;refine (CI.out _ _ (HV.out.ext E.out)).mono ?_;rintro e wa ⟨rfl,he⟩;replace E:=zh (E.out.tr he);have r0aK:=KA.out.ext E.out;obtain ⟨r0a0,r0a1,r0a2,r0a3,r0a4,r0a5,r0a6⟩:=Bk.k7 r0aK;have r0aL:=r0aK.lt;clear r0aK;have r0x0:=(cell_ext E.out hB0).trans hF01;clear he)
  | (go_at_call 37;refine (CS.out _ _ (HV.out.ext E.out)).mono ?_;rintro e wb ⟨rfl,he⟩;replace E:=zh (E.out.tr he);have r1aK:=KA.out.ext E.out;obtain ⟨r1a0,r1a1,r1a2,r1a3,r1a4,r1a5,r1a6⟩:=Bk.k7 r1aK;have r1aL:=r1aK.lt;clear r1aK;have r1x0:=(cell_ext E.out hB0).trans hF01;clear he;clear r0a0 r0a1 r0a2 r0a3 r0a4 r0a5 r0a6 r0aL r0x0))
 have hw9:IntKind.i64.wrap (oa - ob)=oa - ob:=wrap_small (by omega) (by omega)
 have hown:decide (y≤oa - ob)=true:=decide_eq_true hson
 have hsumw:IntKind.i64.wrap ((l1:Int)+(l2:Int))=y:=(wrap_small (by omega) (by omega)).trans hsumn
 clear hson hsumn
 go_region_held3 (fun u=>u.cell? ⟨A,0,none⟩=some (.slice p0 x.Plan.Parts.length q0)∧u.cell? ⟨A,1,none⟩=some (.slice (some ⟨eb0,eo0,none⟩) x.Plan.Channels.length q1)∧u.cell? ⟨A,2,none⟩=some (.slice p2 x.Plan.Slots.length q2)∧u.cell? ⟨A,3,none⟩=some (.slice p3 x.Programs.length q3)∧u.cell? ⟨A,4,none⟩=some (.slice p4 x.Cores.length q4)∧u.cell? ⟨A,5,none⟩=some (.slice p5 x.Holds.length q5)∧u.cell? ⟨A,6,none⟩=some (.int .i64 x.Tick)∧u.cell? ⟨eb0,eo0+C * 4+1,none⟩=some (.int .i64 er0.From))
  (go_keep)
  (first
   | (go_at_call 27;refine (CO1.out _ _ (s2.out.ext E.out.drew)).mono ?_;rintro e wa ⟨rfl,he⟩;replace E:=zh (E.out.drew.tr he);clear CO1;have r0aK:=KA.out.ext E.out;obtain ⟨r0a0,r0a1,r0a2,r0a3,r0a4,r0a5,r0a6⟩:=Bk.k7 r0aK;have r0aL:=r0aK.lt;clear r0aK;have r0x0:=(cell_ext E.out hB0).trans hF01;clear he;clear r1a0 r1a1 r1a2 r1a3 r1a4 r1a5 r1a6 r1aL r1x0)
   | (go_at_call 27;refine (CO2.out _ _ (s2.out.ext E.out)).mono ?_;rintro e wb ⟨rfl,he⟩;replace E:=zh (E.out.tr he);have r1aK:=KA.out.ext E.out;obtain ⟨r1a0,r1a1,r1a2,r1a3,r1a4,r1a5,r1a6⟩:=Bk.k7 r1aK;have r1aL:=r1aK.lt;clear r1aK;have r1x0:=(cell_ext E.out hB0).trans hF01;clear he;clear r0a0 r0a1 r0a2 r0a3 r0a4 r0a5 r0a6 r0aL r0x0))
 rcases hfr with hfr | hfr
 ·have hfb:(er0.From == (N:Int))=true:=by rw [hfr];exact beq_self_eq_true _
  clear hfr
  go_wp2_with (first
    | (go_at_call 39;refine (CR.out _ _ (HV.out.ext E.out)).mono ?_;rintro e wa ⟨v7,rfl,ho,he⟩;replace E:=zh (E.out.tr he);have HO7:=zh ho.rv;clear ho;have r0aK:=KA.out.ext E.out;obtain ⟨r0a0,r0a1,r0a2,r0a3,r0a4,r0a5,r0a6⟩:=Bk.k7 r0aK;have r0aL:=r0aK.lt;clear r0aK;have r0x0:=(cell_ext E.out hB0).trans hF01;clear he)
    | (go_at_call 36;refine (CL.out _ _ HO7.out).mono ?_;rintro e wb ⟨rfl,he⟩;replace E:=zh (E.out.tr he);clear CL;clear HO7;have r1aK:=KA.out.ext E.out;obtain ⟨r1a0,r1a1,r1a2,r1a3,r1a4,r1a5,r1a6⟩:=Bk.k7 r1aK;have r1aL:=r1aK.lt;clear r1aK;have r1x0:=(cell_ext E.out hB0).trans hF01;clear he;clear r0a0 r0a1 r0a2 r0a3 r0a4 r0a5 r0a6 r0aL r0x0)
    | (go_at_call 36;refine (CF.out _ _ (HV.out.ext E.out)).mono ?_;rintro e wc ⟨rfl,he⟩;replace E:=zh (E.out.tr he);have r2aK:=KA.out.ext E.out;obtain ⟨r2a0,r2a1,r2a2,r2a3,r2a4,r2a5,r2a6⟩:=Bk.k7 r2aK;have r2aL:=r2aK.lt;clear r2aK;have r2x0:=(cell_ext E.out hB0).trans hF01;clear he;clear r1a0 r1a1 r1a2 r1a3 r1a4 r1a5 r1a6 r1aL r1x0))
  go_ret
  refine ⟨?_,HE.out.tr E.out⟩
  first | rfl | simp
 have hy0:(y == 0)=true:=by rw [hfr];rfl
 clear hfr
 cases hfb:er0.From == (N:Int)
 ·go_wp2_with (first
    | (go_at_call 39;refine (CR.out _ _ (HV.out.ext E.out)).mono ?_;rintro e wa ⟨v7,rfl,ho,he⟩;replace E:=zh (E.out.tr he);have HO7:=zh ho.rv;clear ho;have r0aK:=KA.out.ext E.out;obtain ⟨r0a0,r0a1,r0a2,r0a3,r0a4,r0a5,r0a6⟩:=Bk.k7 r0aK;have r0aL:=r0aK.lt;clear r0aK;have r0x0:=(cell_ext E.out hB0).trans hF01;clear he)
    | (go_at_call 36;refine (CL.out _ _ HO7.out).mono ?_;rintro e wb ⟨rfl,he⟩;replace E:=zh (E.out.tr he);clear CL;clear HO7;have r1aK:=KA.out.ext E.out;obtain ⟨r1a0,r1a1,r1a2,r1a3,r1a4,r1a5,r1a6⟩:=Bk.k7 r1aK;have r1aL:=r1aK.lt;clear r1aK;have r1x0:=(cell_ext E.out hB0).trans hF01;clear he;clear r0a0 r0a1 r0a2 r0a3 r0a4 r0a5 r0a6 r0aL r0x0)
    | (go_at_call 36;refine (CF.out _ _ (HV.out.ext E.out)).mono ?_;rintro e wc ⟨rfl,he⟩;replace E:=zh (E.out.tr he);have r2aK:=KA.out.ext E.out;obtain ⟨r2a0,r2a1,r2a2,r2a3,r2a4,r2a5,r2a6⟩:=Bk.k7 r2aK;have r2aL:=r2aK.lt;clear r2aK;have r2x0:=(cell_ext E.out hB0).trans hF01;clear he;clear r1a0 r1a1 r1a2 r1a3 r1a4 r1a5 r1a6 r1aL r1x0))
  go_ret
  refine ⟨?_,HE.out.tr E.out⟩
  first | rfl | simp
 go_wp2_with (first
   | (go_at_call 39;refine (CR.out _ _ (HV.out.ext E.out)).mono ?_;rintro e wa ⟨v7,rfl,ho,he⟩;replace E:=zh (E.out.tr he);have HO7:=zh ho.rv;clear ho;have r0aK:=KA.out.ext E.out;obtain ⟨r0a0,r0a1,r0a2,r0a3,r0a4,r0a5,r0a6⟩:=Bk.k7 r0aK;have r0aL:=r0aK.lt;clear r0aK;have r0x0:=(cell_ext E.out hB0).trans hF01;clear he)
   | (go_at_call 36;refine (CL.out _ _ HO7.out).mono ?_;rintro e wb ⟨rfl,he⟩;replace E:=zh (E.out.tr he);clear CL;clear HO7;have r1aK:=KA.out.ext E.out;obtain ⟨r1a0,r1a1,r1a2,r1a3,r1a4,r1a5,r1a6⟩:=Bk.k7 r1aK;have r1aL:=r1aK.lt;clear r1aK;have r1x0:=(cell_ext E.out hB0).trans hF01;clear he;clear r0a0 r0a1 r0a2 r0a3 r0a4 r0a5 r0a6 r0aL r0x0)
   | (go_at_call 36;refine (CF.out _ _ (HV.out.ext E.out)).mono ?_;rintro e wc ⟨rfl,he⟩;replace E:=zh (E.out.tr he);have r2aK:=KA.out.ext E.out;obtain ⟨r2a0,r2a1,r2a2,r2a3,r2a4,r2a5,r2a6⟩:=Bk.k7 r2aK;have r2aL:=r2aK.lt;clear r2aK;have r2x0:=(cell_ext E.out hB0).trans hF01;clear he;clear r1a0 r1a1 r1a2 r1a3 r1a4 r1a5 r1a6 r1aL r1x0))
 go_ret
 refine ⟨?_,HE.out.tr E.out⟩
 first | rfl | simp
end Sk
