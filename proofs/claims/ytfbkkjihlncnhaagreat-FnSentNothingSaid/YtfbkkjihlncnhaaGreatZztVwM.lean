/- Contracts of functions of the given program, each under the condition that it states. -/
import Derived.Test.YtfbkkjihlncnhaaGreatChecked
import Derived.Deep.CutBlock
import Derived.Deep.CutRange
import Derived.Test.YtfbkkjihlncnhaaGreatVVModel
import Derived.Test.YtfbkkjihlncnhaaGreatZyDm
import Derived.Test.YtfbkkjihlncnhaaGreatSame
import Derived.Test.YtfbkkjihlncnhaaGreatMix
import Derived.Test.YtfbkkjihlncnhaaGreatNums
import Derived.Test.YtfbkkjihlncnhaaGreatBuild
import Derived.Test.YtfbkkjihlncnhaaGreatVWSeen
import Derived.Test.YtfbkkjihlncnhaaGreatVViewS
import Derived.Test.YtfbkkjihlncnhaaGreatRsP
import Derived.Test.YtfbkkjihlncnhaaGreatZzrSpot
import Derived.Test.YtfbkkjihlncnhaaGreatZfPrgs
import Derived.Test.YtfbkkjihlncnhaaGreatUARuns
import Derived.Test.YtfbkkjihlncnhaaGreatVHoldS
namespace Sk
open Go Go.Proofs Go.RowKit
set_option maxHeartbeats 1000000
set_option linter.unusedVariables false
set_option linter.unusedSimpArgs false
theorem M.vch_congr (N:Int):∀ (cs:List Channel) (hs1 hs2:List Hold),hs1.length=hs2.length→(∀ (k:Nat) (c:Channel),cs[k]? = some c→c.To=N→hs1[k]? = hs2[k]?)→(cs.zip hs1).flatMap (M.vch N)=(cs.zip hs2).flatMap (M.vch N):=by
 intro cs
 induction cs with
 | nil=>intro hs1 hs2 _ _;simp
 | cons c cs ih =>
  intro hs1 hs2 hl hh
  cases hs1 with
  | nil =>
   cases hs2 with
   | nil=>rfl
   | cons _ _=>simp at hl
  | cons x hs1 =>
   cases hs2 with
   | nil=>simp at hl
   | cons z hs2 =>
    have e:=ih hs1 hs2 (by simpa using hl) (fun k c hc ht=>by simpa using hh (k+1) c (by simpa using hc) ht)
    simp only [List.zip_cons_cons,List.flatMap_cons,e]
    congr 1
    by_cases ht:c.To=N
    ·have h0:=hh 0 c rfl ht
     simp only [List.getElem?_cons_zero,Option.some.injEq] at h0
     rw [h0]
    ·rw [M.vch_f ht,M.vch_f ht]
theorem M.viewN_congr {a b:Machine} {N:Nat} (hc:a.Cores[N]? = b.Cores[N]?) (hp:a.Plan=b.Plan) (ht:a.Tick=b.Tick) (hl:a.Holds.length=b.Holds.length) (hh:∀ (k:Nat) (ch:Channel),a.Plan.Channels[k]? = some ch→ch.To=N→a.Holds[k]? = b.Holds[k]?):M.viewN a N=M.viewN b N:=by
 have e1:a.Cores.getD N M.cz=b.Cores.getD N M.cz:=by rw [List.getD_eq_getElem?_getD,List.getD_eq_getElem?_getD,hc]
 unfold M.viewN M.vhead M.vz
 rw [e1,ht,← hp,M.vch_congr N _ _ _ hl hh]
theorem M.RS.view {m y:Machine} {k:Nat} {q:Part} (h:M.RS m y k q) {N:Nat} (hN:N < m.Cores.length) (hne:¬ k=N):M.viewOf y N=M.viewN m N:=by
 have hv:=M.mv_iff.1 h.mv
 have hc:=h.nc
 rw [M.viewOf_t (M.seen_iff.2 ⟨hv,by omega,by omega⟩)]
 exact M.viewN_congr (h.cores N (by omega)) h.plan h.tick h.nh (fun j ch hj ht=>h.holds j ch (by rw [← h.plan];exact hj) (by omega))
theorem M.viewN_parts {m:Machine} {N:Nat} {c:Core} (hc:m.Cores[N]? = some c):c.Cells.length+3≤(M.viewN m N).length∧(M.viewN m N).take c.Cells.length=c.Cells∧(M.viewN m N)[c.Cells.length+2]? = some (M.own m.Plan.Slots N m.Tick):=by
 have e1:m.Cores.getD N M.cz=c:=by rw [List.getD_eq_getElem?_getD,hc];rfl
 unfold M.viewN M.vhead
 rw [e1]
 refine ⟨?_,?_,?_⟩
 ·simp only [List.length_append,List.length_cons,List.length_nil];omega
 ·rw [List.append_assoc,List.take_left]
 ·rw [List.append_assoc,List.getElem?_append_right (by omega)]
  simp
set_option maxHeartbeats 4000000
set_option maxRecDepth 100000
theorem lawViewOf (v:Value) (xs:List By) (w:World) (h:Rs w v xs) :
  Calls Tryz.prog 4 #[v] w fun e w'=>e = .returned (.bool true)∧Ext w w':=by
 obtain ⟨a,c,rfl,hl⟩:=h.form
 have H:=zh h
 clear h
 by_cases hx:xs.length≤1048576
 case neg =>
  have hx2:1048576 < xs.length:=by omega
  clear hx
  go_enter Tryz.func4,Tryz.ntmps4
  go_wp2
  go_ret
  exact ⟨rfl,Ext.refl w⟩
 go_enter Tryz.func4,Tryz.ntmps4
 go_upto_region 4 with (go_at_call 24;refine (spec_DrawViewOf _ _ _ H.out).mono ?_;rintro e w1 ⟨v1,x,n,rfl,hv,htt,hn,he⟩;obtain ⟨p0,q0,p1,q1,p2,q2,p3,q3,p4,q4,p5,q5,rfl,-⟩:=hv.openMc;have HV:=zh hv.rv;have HTT:=zh htt;have HE:=zh he;clear hv htt he)
 obtain ⟨A,hA⟩:∃ A,A=w1.heap.size:=⟨_,rfl⟩
 refine abs_world (fun u=>Ext w1 u∧Bk u A [.slice p0 x.Plan.Parts.length q0,.slice p1 x.Plan.Channels.length q1,.slice p2 x.Plan.Slots.length q2,.slice p3 x.Programs.length q3,.slice p4 x.Cores.length q4,.slice p5 x.Holds.length q5,.int .i64 x.Tick] 32) ⟨(Ext.refl _).alloc _,by rw [hA];exact Bk.new _ _ _⟩ ?_
 rw [← hA]
 rintro W1 ⟨e1,kA⟩
 clear hA H
 replace HV:=zh (HV.out.ext e1)
 replace HE:=zh (HE.out.tr e1)
 have KA:=zh kA
 clear e1 kA
 have E:=zh (Ext.refl W1)
 obtain ⟨_,_,_,_,_,_,_,_,_,_,_,_,ee,r6,s0,-,s1,-,s2,-,s3,-,s4,-,s5,-⟩:=HV.out.openMachine
 have e9:=congrArg (fun v=>match v with | .agg a=>a.toList | _ => []) ee
 simp only [List.cons.injEq,Value.slice.injEq,and_true,true_and] at e9
 obtain ⟨⟨rfl,rfl⟩,⟨rfl,rfl⟩,⟨rfl,rfl⟩,⟨rfl,rfl⟩,⟨rfl,rfl⟩,⟨rfl,rfl⟩⟩:=e9
 clear ee
 have hxc:x.Cores.length≤200000:=by
  have h1:=M.tot_eq x
  have h2:=tot_len (xs:=x.Cores)
  have:=HTT.out
  omega
 have hxh:x.Holds.length≤200000:=by
  have h1:=M.tot_eq x
  have h2:=tot_len (xs:=x.Holds)
  have:=HTT.out
  omega
 obtain ⟨hn1,hn2⟩:=hn
 obtain ⟨y,hy⟩:∃ y,M.viewOf x n=y:=⟨_,rfl⟩
 have CI:=zh (fun (v:Value) (u:World) (h:Rv u v x)=>impl_ViewOf v x n u h)
 have CS:=zh (fun (v:Value) (u:World) (h:Rv u v x)=>spec_ViewOf v x n u h)
 rw [hy] at CI CS
 have HY:=zh hy
 clear hy
 have faK:=KA.out.ext E.out
 obtain ⟨fa0,fa1,fa2,fa3,fa4,fa5,fa6⟩:=Bk.k7 faK
 have faL:=faK.lt
 clear faK
 go_upto_region 5 with (go_at_call 25;refine (CI.out _ _ HV.out).mono ?_;rintro e w2 ⟨v2,rfl,ho,he⟩;obtain ⟨ya,yc,rfl,hyl⟩:=ho.rs.form;have HR0:=zh ho.rs;replace E:=zh (E.out.tr he);clear ho he)
 clear fa0 fa1 fa2 fa3 fa4 fa5 fa6 faL
 refine abs_world (fun u=>Ext W1 u∧Rs u (.slice ya y.length yc) y) ⟨E.out,HR0.out⟩ ?_
 rintro W3 ⟨e3,hr3⟩
 replace E:=zh e3
 have HR:=zh hr3
 clear e3 hr3 HR0
 replace HV:=zh (HV.out.ext E.out)
 replace KA:=zh (KA.out.ext E.out)
 replace s0:=zh (s0.out.ext E.out)
 replace s1:=zh (s1.out.ext E.out)
 replace s2:=zh (s2.out.ext E.out)
 replace s3:=zh (s3.out.ext E.out)
 replace s4:=zh (s4.out.ext E.out)
 replace s5:=zh (s5.out.ext E.out)
 replace HE:=zh (HE.out.tr E.out)
 clear E
 have E:=zh (Ext.refl W3)
 have gaK:=KA.out.ext E.out
 obtain ⟨ga0,ga1,ga2,ga3,ga4,ga5,ga6⟩:=Bk.k7 gaK
 have gaL:=gaK.lt
 clear gaK
 cases g:M.seen x n
 ·have hl:y.length≤0:=by rw [← HY.out,M.viewOf_f g];exact Nat.le_refl _
  go_wp2_with (first
    | (go_at_call 26;refine (CS.out _ _ (HV.out.ext E.out)).mono ?_;rintro e wa ⟨v4,rfl,ho,he⟩;replace E:=zh (E.out.tr he);have HR4:=zh ho.rs;clear ho;have r0aK:=KA.out.ext E.out;obtain ⟨r0a0,r0a1,r0a2,r0a3,r0a4,r0a5,r0a6⟩:=Bk.k7 r0aK;have r0aL:=r0aK.lt;clear r0aK;clear he)
    | (go_at_call 21;refine (law_sameInts _ _ y y _ (HR.out.ext E.out) HR4.out).mono ?_;rintro e wb ⟨rfl,he⟩;replace E:=zh (E.out.tr he);rw [Eqb.t (rfl:y=y)];have r1aK:=KA.out.ext E.out;obtain ⟨r1a0,r1a1,r1a2,r1a3,r1a4,r1a5,r1a6⟩:=Bk.k7 r1aK;have r1aL:=r1aK.lt;clear r1aK;clear he;clear r0a0 r0a1 r0a2 r0a3 r0a4 r0a5 r0a6 r0aL)
    | (go_at_call 19;refine (law_alive _).mono ?_;rintro e w9 ⟨rfl,he⟩;replace E:=zh (E.out.tr he);clear he))
  go_ret
  exact ⟨rfl,HE.out.tr E.out⟩
 obtain ⟨hmv,hg2,hg3⟩:=M.seen_iff.1 g
 obtain ⟨N,rfl⟩:∃ N:Nat,n=N:=⟨n.toNat,by omega⟩
 have hN:N < x.Cores.length:=by omega
 have hyv:y=M.viewN x N:=by rw [← HY.out,M.viewOf_t g]
 have hsv:M.ssv x.Plan.Slots (x.Cores.length:Int)=true:=by rw [hmv.nc];exact hmv.ssv
 have hT0:=hmv.tick.1
 have hT1:=hmv.tick.2
 have CO:=zh (fun (v:Value) (u:World) (h:Rs u v x.Plan.Slots)=>impl_OwnTicks v x.Plan.Slots x.Cores.length N x.Tick u h hsv (by omega) (by omega) hT0 (by omega))
 have HK:=zh (fun (k:Nat) (hk:k < x.Cores.length) (hne:¬ k=N)=>by
  obtain ⟨q,hrs⟩:=M.RS.of (M.mv_iff.2 hmv) hk
  rw [hrs.view hN hne,hyv]:∀ k:Nat,k < x.Cores.length→¬ k=N→M.viewOf (M.restartPart x k) N=y)
 have ho1:=M.own_bd (xs:=x.Plan.Slots) (n:=N) (t:=x.Tick) (by omega)
 obtain ⟨eb0,eo0,er0,ep0,ec0,rfl,hB0,hX0,hF00,hF01,hF02,hR0,hS0,hL0,hV0⟩:=s4.out.atCore N hN
 have gL0:=Nat.lt_of_lt_of_le hB0 E.out.sz
 have gF00:=(cell_ext E.out hB0).trans hF00
 have gF01:=(cell_ext E.out hB0).trans hF01
 have gF02:=(cell_ext E.out hB0).trans hF02
 obtain ⟨hp1,hp2,hp3⟩:=M.viewN_parts hX0.out
 rw [← hyv] at hp1 hp2 hp3
 have hc8:=M.fits_len hmv hX0.out
 have HP2:=zh hp2
 have hypos:1≤y.length:=by omega
 have hy0:((y.length:Int) == 0)=false:=by rw [beq_eq_false_iff_ne];omega
 have hge:((er0.Cells.length:Int)+3≤(y.length:Int)):=by omega
 have hge2:decide ((er0.Cells.length:Int)+3≤(y.length:Int))=true:=decide_eq_true hge
 have hw3:IntKind.i64.wrap ((er0.Cells.length:Int)+3)=(er0.Cells.length:Int)+3:=wrap_small (by omega) (by omega)
 obtain ⟨L2,hL2⟩:∃ q:Nat,q=er0.Cells.length+2:=⟨_,rfl⟩
 have hw2:IntKind.i64.wrap ((er0.Cells.length:Int)+2)=(L2:Int):=(wrap_small (by omega) (by omega)).trans (by omega)
 have hlt2:L2 < y.length:=by omega
 rw [← hL2] at hp3
 clear hL2
 have HP3:=zh hp3
 have hle2:er0.Cells.length≤y.length:=by omega
 have hcap:er0.Cells.length≤yc:=by
  obtain ⟨_,_,_,e9,h9,_⟩:=HR.out
  cases e9
  omega
 clear hp2 hp3 hyv hsv hmv g HY
 go_wp2_with (first
   | (go_at_call 26;refine (CS.out _ _ (HV.out.ext E.out)).mono ?_;rintro e wa ⟨v4,rfl,ho,he⟩;replace E:=zh (E.out.tr he);have HR4:=zh ho.rs;clear ho;have r0aK:=KA.out.ext E.out;obtain ⟨r0a0,r0a1,r0a2,r0a3,r0a4,r0a5,r0a6⟩:=Bk.k7 r0aK;have r0aL:=r0aK.lt;clear r0aK;have r0x0:=(cell_ext E.out hB0).trans hF00;clear he)
   | (go_at_call 21;refine (law_sameInts _ _ y y _ (HR.out.ext E.out) HR4.out).mono ?_;rintro e wb ⟨rfl,he⟩;replace E:=zh (E.out.tr he);rw [Eqb.t (rfl:y=y)];have r1aK:=KA.out.ext E.out;obtain ⟨r1a0,r1a1,r1a2,r1a3,r1a4,r1a5,r1a6⟩:=Bk.k7 r1aK;have r1aL:=r1aK.lt;clear r1aK;have r1x0:=(cell_ext E.out hB0).trans hF00;clear he;clear r0a0 r0a1 r0a2 r0a3 r0a4 r0a5 r0a6 r0aL r0x0))
 go_loopw [7] (fun i wr => ∃ k:Nat,k≤x.Cores.length∧i = .int .i64 k∧Ext W3 wr) (fun i _=>x.Cores.length - (intOf i).toNat)
 case atStart=>exact ⟨0,Nat.zero_le _,rfl,E.out⟩
 case round =>
  obtain ⟨k,hk,rfl,er⟩:=hrel
  replace E:=zh er
  clear er
  by_cases hkt:k < x.Cores.length
  ·by_cases hkq:k=N
   ·subst hkq
    have iaK:=KA.out.ext E.out
    have ia4:=iaK.cell (j:=4) rfl
    have iaL:=iaK.lt
    clear iaK
    go_wp2
    exact ⟨⟨k+1,by omega,by go_num,E.out⟩,by simp [intOf];omega⟩
   have hb1:((k:Int) != (N:Int))=true:=by simp;omega
   have hkv:=zh (HK.out k hkt hkq)
   have iaK:=KA.out.ext E.out
   obtain ⟨ia0,ia1,ia2,ia3,ia4,ia5,ia6⟩:=Bk.k7 iaK
   have iaL:=iaK.lt
   clear iaK
   go_wp2_with (first
     | (go_at_call 16;refine (impl_RestartPart _ x k _ (HV.out.ext E.out)).mono ?_;rintro e wa ⟨v5,rfl,ho,he⟩;replace E:=zh (E.out.tr he);have HR5:=zh ho.rv;clear ho;have r0aK:=KA.out.ext E.out;obtain ⟨r0a0,r0a1,r0a2,r0a3,r0a4,r0a5,r0a6⟩:=Bk.k7 r0aK;have r0aL:=r0aK.lt;clear r0aK;clear he)
     | (go_at_call 25;refine (impl_ViewOf _ _ N _ HR5.out).mono ?_;rintro e wb ⟨v6,rfl,ho,he⟩;replace E:=zh (E.out.tr he);rw [hkv.out] at ho;have HR6:=zh ho.rs;clear ho;have r1aK:=KA.out.ext E.out;obtain ⟨r1a0,r1a1,r1a2,r1a3,r1a4,r1a5,r1a6⟩:=Bk.k7 r1aK;have r1aL:=r1aK.lt;clear r1aK;clear he;clear r0a0 r0a1 r0a2 r0a3 r0a4 r0a5 r0a6 r0aL)
     | (go_at_call 21;refine (law_sameInts _ _ y y _ HR6.out (HR.out.ext E.out)).mono ?_;rintro e wc ⟨rfl,he⟩;replace E:=zh (E.out.tr he);rw [Eqb.t (rfl:y=y)];have r2aK:=KA.out.ext E.out;obtain ⟨r2a0,r2a1,r2a2,r2a3,r2a4,r2a5,r2a6⟩:=Bk.k7 r2aK;have r2aL:=r2aK.lt;clear r2aK;clear he;clear r1a0 r1a1 r1a2 r1a3 r1a4 r1a5 r1a6 r1aL))
   go_roundw
   case rel=>exact ⟨k+1,by omega,by go_num,E.out⟩
   case measure=>simp [intOf];omega
  obtain rfl:k=x.Cores.length:=by omega
  have gL0:=Nat.lt_of_lt_of_le hB0 E.out.sz
  have gF00:=(cell_ext E.out hB0).trans hF00
  have gF01:=(cell_ext E.out hB0).trans hF01
  have gF02:=(cell_ext E.out hB0).trans hF02
  obtain ⟨eb1,eo1,er1,rfl,hB1,hX1,hF10,hR1⟩:=HR.out.atInt L2 (by omega)
  have gL1:=Nat.lt_of_lt_of_le hB1 E.out.sz
  have gF10:=(cell_ext E.out hB1).trans hF10
  obtain rfl:er1=M.own x.Plan.Slots N x.Tick:=by have h3:=hX1.out;rw [HP3.out] at h3;exact (Option.some.inj h3).symm
  have HTK:Hid (Rs W3 (.slice (some ⟨eb1,eo1,none⟩) er0.Cells.length yc) er0.Cells):=zh (by have:=HR.out.take (k:=er0.Cells.length) (by omega);rw [HP2.out] at this;exact this)
  clear HP2 HP3 hX0 hX1 HK
  have jaK:=KA.out.ext E.out
  obtain ⟨ja0,ja1,ja2⟩:=Bk.k3 jaK
  have ja4:=jaK.cell (j:=4) rfl
  have ja6:=jaK.cell (j:=6) rfl
  have jaL:=jaK.lt
  clear jaK
  go_wp2
  go_region_held3 (fun u=>u.cell? ⟨A,0,none⟩=some (.slice p0 x.Plan.Parts.length q0)∧u.cell? ⟨A,1,none⟩=some (.slice p1 x.Plan.Channels.length q1)∧u.cell? ⟨A,2,none⟩=some (.slice p2 x.Plan.Slots.length q2)∧u.cell? ⟨A,4,none⟩=some (.slice (some ⟨eb0,eo0,none⟩) x.Cores.length q4)∧u.cell? ⟨A,6,none⟩=some (.int .i64 x.Tick)∧u.cell? ⟨eb0,eo0+N * 3,none⟩=some (.slice ep0 er0.Cells.length ec0)∧u.cell? ⟨eb1,eo1+L2,none⟩=some (.int .i64 (M.own x.Plan.Slots N x.Tick)))
   (go_keep)
   (first
    | (go_at_call 21;refine (law_sameInts _ _ er0.Cells er0.Cells _ (HTK.out.ext E.out.drew) (hS0.out.ext E.out.drew)).mono ?_;rintro e wa ⟨rfl,he⟩;replace E:=zh (E.out.drew.tr he);rw [Eqb.t (rfl:er0.Cells=er0.Cells)];have r0aK:=KA.out.ext E.out;obtain ⟨r0a0,r0a1,r0a2⟩:=Bk.k3 r0aK;have r0a4:=r0aK.cell (j:=4) rfl;have r0a6:=r0aK.cell (j:=6) rfl;have r0aL:=r0aK.lt;clear r0aK;have r0x0:=(cell_ext E.out hB0).trans hF00;have r0x1:=(cell_ext E.out hB1).trans hF10;clear he)
    | (go_at_call 27;refine (CO.out _ _ (s2.out.ext E.out)).mono ?_;rintro e wb ⟨rfl,he⟩;replace E:=zh (E.out.tr he);have r1aK:=KA.out.ext E.out;obtain ⟨r1a0,r1a1,r1a2⟩:=Bk.k3 r1aK;have r1a4:=r1aK.cell (j:=4) rfl;have r1a6:=r1aK.cell (j:=6) rfl;have r1aL:=r1aK.lt;clear r1aK;have r1x0:=(cell_ext E.out hB0).trans hF00;have r1x1:=(cell_ext E.out hB1).trans hF10;clear he;clear r0a0 r0a1 r0a2 r0a4 r0a6 r0aL r0x0 r0x1))
  all_goals
   go_wp2
   go_ret
   refine ⟨?_,HE.out.tr E.out⟩
   first | rfl | simp
set_option maxHeartbeats 1000000
structure M.RN (m y:Machine) (T:Nat):Prop where
 eq:y=M.run m T
 plan:y.Plan=m.Plan
 progs:y.Programs=m.Programs
 tick:y.Tick=m.Tick+T
 mv:M.MV y
 nc:y.Cores.length=m.Cores.length
 nh:y.Holds.length=m.Holds.length
 half:∀ h:Nat,h≤T→M.runM (M.runM m h) ((T:Int) - h)=y
theorem M.RN.of {m:Machine} {T:Nat} (h:M.MV m) (hT:T≤400) (ht:m.Tick+T≤100000):M.RN m (M.run m T) T:=by
 obtain ⟨h1,h2,h3,h4,h5,h6⟩:=M.run_MV h T ht
 refine { eq:=rfl,plan:=h3,progs:=h4,tick:=h2,mv:=h1,nc:=h5,nh:=h6,half:=fun k hk=>?_ }
 obtain ⟨g1,g2,g3,g4,g5,g6⟩:=M.run_MV h k (by omega)
 have e1:M.runM m k=M.run m k:=if_pos (M.runs_iff.2 ⟨h,⟨by omega,by omega⟩,by omega⟩)
 have e2:M.runM (M.run m k) ((T:Int) - k)=M.run (M.run m k) ((T:Int) - k).toNat:=if_pos (M.runs_iff.2 ⟨g1,⟨by omega,by omega⟩,by rw [g2];omega⟩)
 rw [e1,e2,← M.run_add,show k+((T:Int) - k).toNat=T by omega]
theorem M.count_who {xs:List Slot} (h:M.SL xs) {n:Int} (hc:(M.frame xs).count n=0) (t:Int):M.who xs t≠n:=by
 intro e
 have hl:1≤M.fl xs:=(M.SL.fl h).1
 have hlt:t.toNat % M.fl xs < (M.frame xs).length:=Nat.mod_lt _ hl
 have hm:M.who xs t∈M.frame xs:=by
  unfold M.who
  rw [List.getD_eq_getElem?_getD,List.getElem?_eq_getElem hlt]
  exact List.getElem_mem hlt
 rw [e] at hm
 exact absurd hc (Nat.pos_iff_ne_zero.1 (List.count_pos_iff.2 hm))
theorem M.stepAt_stopped {m:Machine} {n:Nat} {c:Core} (hc:m.Cores[n]? = some c) (hs:c.Stopped=true):M.stepAt m n=(c,M.oz):=by
 have e1:m.Cores.getD n M.cz=c:=by rw [List.getD_eq_getElem?_getD,hc];rfl
 unfold M.stepAt M.step
 rw [e1,if_pos hs]
theorem M.act_oz (cs:List Channel) (hs:List Hold) (n:Int) (c:Core):M.act cs hs n c M.oz=(c,hs,-1):=by
 unfold M.act M.oz
 rw [if_neg (by decide),if_neg (by decide)]
theorem M.tick_stopped {m:Machine} {k:Nat} {c:Core} (hc:m.Cores[k]? = some c) (hs:c.Stopped=true):(M.tick m).Cores[k]? = some c:=by
 by_cases h:M.who m.Plan.Slots m.Tick=k
 ·unfold M.tick
  rw [if_neg (by omega),h,Int.toNat_natCast]
  show (m.Cores.set k (M.actAt m k).1)[k]? = _
  have e:(M.actAt m k).1=c:=by unfold M.actAt;rw [M.stepAt_stopped hc hs,M.act_oz]
  rw [e,List.getElem?_set_self (by exact (List.getElem?_eq_some_iff.1 hc).1)]
 ·rw [M.tick_other h];exact hc
theorem M.run_rests {m:Machine} (h:M.MV m) {k:Nat} {c:Core} (hc:m.Cores[k]? = some c) (hr:c.Stopped=true∨(M.frame m.Plan.Slots).count (k:Int)=0):∀ T:Nat,m.Tick+T≤100000→(M.run m T).Cores[k]? = some c:=by
 intro T
 induction T with
 | zero=>intro _;exact hc
 | succ T ih =>
  intro ht
  have e:=ih (by omega)
  obtain ⟨h1,h2,h3,h4,h5,h6⟩:=M.run_MV h T (by omega)
  show (M.tick (M.run m T)).Cores[k]? = _
  rcases hr with hr | hr
  ·exact M.tick_stopped e hr
  ·rw [M.tick_other (by rw [h3];exact M.count_who (M.SL.of h.ssv) hr _)];exact e
end Sk
