/- Contracts of functions of the given program, each under the condition that it states. -/
import Derived.Test.YtfbkkjihlncnhaaGreatChecked
import Derived.Deep.CutBlock
import Derived.Deep.CutRange
import Derived.Test.YtfbkkjihlncnhaaGreatVVModel
import Derived.Test.YtfbkkjihlncnhaaGreatZyDm
import Derived.Test.YtfbkkjihlncnhaaGreatDraw
import Derived.Test.YtfbkkjihlncnhaaGreatMix
import Derived.Test.YtfbkkjihlncnhaaGreatLens
import Derived.Test.YtfbkkjihlncnhaaGreatNums
import Derived.Test.YtfbkkjihlncnhaaGreatBuild
import Derived.Test.YtfbkkjihlncnhaaGreatVWSeen
import Derived.Test.YtfbkkjihlncnhaaGreatVViewS
import Derived.Test.YtfbkkjihlncnhaaGreatRsP
import Derived.Test.YtfbkkjihlncnhaaGreatZzrSpot
import Derived.Test.YtfbkkjihlncnhaaGreatZiFgS
import Derived.Test.YtfbkkjihlncnhaaGreatUARuns
import Derived.Test.YtfbkkjihlncnhaaGreatVHoldS
import Derived.Test.YtfbkkjihlncnhaaGreatXRun
import Derived.Test.YtfbkkjihlncnhaaGreatCutC
namespace Sk
open Go Go.Proofs Go.RowKit
set_option maxHeartbeats 1000000
set_option linter.unusedVariables false
set_option linter.unusedSimpArgs false
theorem M.vch_congr (N:Int):∀ (cs:List Channel) (hs1 hs2:List Hold),hs1.length=hs2.length→(∀ (k:Nat) (c:Channel),cs[k]? = some c→c.To=N→hs1[k]? = hs2[k]?)→(cs.zip hs1).flatMap (M.vch N)=(cs.zip hs2).flatMap (M.vch N):=by
 intro cs
 induction cs with
 | nil=>intro hs1 hs2 _ _;simp
 | cons c cs ih =>
  intro hs1 hs2 hl hh
  cases hs1 with
  | nil =>
   cases hs2 with
   | nil=>rfl
   | cons _ _=>simp at hl
  | cons x hs1 =>
   cases hs2 with
   | nil=>simp at hl
   | cons z hs2 =>
    have e:=ih hs1 hs2 (by simpa using hl) (fun k c hc ht=>by simpa using hh (k+1) c (by simpa using hc) ht)
    simp only [List.zip_cons_cons,List.flatMap_cons,e]
    congr 1
    by_cases ht:c.To=N
    ·have h0:=hh 0 c rfl ht
     simp only [List.getElem?_cons_zero,Option.some.injEq] at h0
     rw [h0]
    ·rw [M.vch_f ht,M.vch_f ht]
theorem M.viewN_congr {a b:Machine} {N:Nat} (hc:a.Cores[N]? = b.Cores[N]?) (hp:a.Plan=b.Plan) (ht:a.Tick=b.Tick) (hl:a.Holds.length=b.Holds.length) (hh:∀ (k:Nat) (ch:Channel),a.Plan.Channels[k]? = some ch→ch.To=N→a.Holds[k]? = b.Holds[k]?):M.viewN a N=M.viewN b N:=by
 have e1:a.Cores.getD N M.cz=b.Cores.getD N M.cz:=by rw [List.getD_eq_getElem?_getD,List.getD_eq_getElem?_getD,hc]
 unfold M.viewN M.vhead M.vz
 rw [e1,ht,← hp,M.vch_congr N _ _ _ hl hh]
theorem M.RS.view {m y:Machine} {k:Nat} {q:Part} (h:M.RS m y k q) {N:Nat} (hN:N < m.Cores.length) (hne:¬ k=N):M.viewOf y N=M.viewN m N:=by
 have hv:=M.mv_iff.1 h.mv
 have hc:=h.nc
 rw [M.viewOf_t (M.seen_iff.2 ⟨hv,by omega,by omega⟩)]
 exact M.viewN_congr (h.cores N (by omega)) h.plan h.tick h.nh (fun j ch hj ht=>h.holds j ch (by rw [← h.plan];exact hj) (by omega))
theorem M.viewN_parts {m:Machine} {N:Nat} {c:Core} (hc:m.Cores[N]? = some c):c.Cells.length+3≤(M.viewN m N).length∧(M.viewN m N).take c.Cells.length=c.Cells∧(M.viewN m N)[c.Cells.length+2]? = some (M.own m.Plan.Slots N m.Tick):=by
 have e1:m.Cores.getD N M.cz=c:=by rw [List.getD_eq_getElem?_getD,hc];rfl
 unfold M.viewN M.vhead
 rw [e1]
 refine ⟨?_,?_,?_⟩
 ·simp only [List.length_append,List.length_cons,List.length_nil];omega
 ·rw [List.append_assoc,List.take_left]
 ·rw [List.append_assoc,List.getElem?_append_right (by omega)]
  simp
set_option maxHeartbeats 4000000
set_option maxRecDepth 100000
theorem lawViewOf (v:Value) (xs:List By) (w:World) (h:Rs w v xs) :
  Calls Tryz.prog 4 #[v] w fun e w'=>e = .returned (.bool true)∧Ext w w':=by
 obtain ⟨a,c,rfl,hl⟩:=h.form
 have H:=zh h
 clear h
 by_cases hx:xs.length≤1048576
 case neg =>
  have hx2:1048576 < xs.length:=by omega
  clear hx
  go_enter Tryz.func4,Tryz.ntmps4
  go_wp2
  go_ret
  exact ⟨rfl,Ext.refl w⟩
 go_enter Tryz.func4,Tryz.ntmps4
 go_upto_region 4 with (go_at_call 24;refine (spec_DrawViewOf _ _ _ H.out).mono ?_;rintro e w1 ⟨v1,x,n,rfl,hv,htt,hn,he⟩;obtain ⟨p0,q0,p1,q1,p2,q2,p3,q3,p4,q4,p5,q5,rfl,-⟩:=hv.openMc;have HV:=zh hv.rv;have HTT:=zh htt;have HE:=zh he;clear hv htt he)
 obtain ⟨A,hA⟩:∃ A,A=w1.heap.size:=⟨_,rfl⟩
 refine abs_world (fun u=>Ext w1 u∧Bk u A [.slice p0 x.Plan.Parts.length q0,.slice p1 x.Plan.Channels.length q1,.slice p2 x.Plan.Slots.length q2,.slice p3 x.Programs.length q3,.slice p4 x.Cores.length q4,.slice p5 x.Holds.length q5,.int .i64 x.Tick] 32) ⟨(Ext.refl _).alloc _,by rw [hA];exact Bk.new _ _ _⟩ ?_
 rw [← hA]
 rintro W1 ⟨e1,kA⟩
 clear hA H
 replace HV:=zh (HV.out.ext e1)
 replace HE:=zh (HE.out.tr e1)
 have KA:=zh kA
 clear e1 kA
 have E:=zh (Ext.refl W1)
 obtain ⟨_,_,_,_,_,_,_,_,_,_,_,_,ee,r6,s0,-,s1,-,s2,-,s3,-,s4,-,s5,-⟩:=HV.out.openMachine
 have e9:=congrArg (fun v=>match v with | .agg a=>a.toList | _ => []) ee
 simp only [List.cons.injEq,Value.slice.injEq,and_true,true_and] at e9
 obtain ⟨⟨rfl,rfl⟩,⟨rfl,rfl⟩,⟨rfl,rfl⟩,⟨rfl,rfl⟩,⟨rfl,rfl⟩,⟨rfl,rfl⟩⟩:=e9
 clear ee
 have hxc:x.Cores.length≤200000:=by
  have h1:=M.tot_eq x
  have h2:=tot_len (xs:=x.Cores)
  have:=HTT.out
  omega
 have hxh:x.Holds.length≤200000:=by
  have h1:=M.tot_eq x
  have h2:=tot_len (xs:=x.Holds)
  have:=HTT.out
  omega
 obtain ⟨hn1,hn2⟩:=hn
 obtain ⟨y,hy⟩:∃ y,M.viewOf x n=y:=⟨_,rfl⟩
 have CI:=zh (fun (v:Value) (u:World) (h:Rv u v x)=>impl_ViewOf v x n u h)
 have CS:=zh (fun (v:Value) (u:World) (h:Rv u v x)=>spec_ViewOf v x n u h)
 rw [hy] at CI CS
 have HY:=zh hy
 clear hy
 have faK:=KA.out.ext E.out
 obtain ⟨fa0,fa1,fa2,fa3,fa4,fa5,fa6⟩:=Bk.k7 faK
 have faL:=faK.lt
 clear faK
 go_upto_region 5 with (go_at_call 25;refine (CI.out _ _ HV.out).mono ?_;rintro e w2 ⟨v2,rfl,ho,he⟩;obtain ⟨ya,yc,rfl,hyl⟩:=ho.rs.form;have HR0:=zh ho.rs;replace E:=zh (E.out.tr he);clear ho he)
 clear fa0 fa1 fa2 fa3 fa4 fa5 fa6 faL
 refine abs_world (fun u=>Ext W1 u∧Rs u (.slice ya y.length yc) y) ⟨E.out,HR0.out⟩ ?_
 rintro W3 ⟨e3,hr3⟩
 replace E:=zh e3
 have HR:=zh hr3
 clear e3 hr3 HR0
 replace HV:=zh (HV.out.ext E.out)
 replace KA:=zh (KA.out.ext E.out)
 replace s0:=zh (s0.out.ext E.out)
 replace s1:=zh (s1.out.ext E.out)
 replace s2:=zh (s2.out.ext E.out)
 replace s3:=zh (s3.out.ext E.out)
 replace s4:=zh (s4.out.ext E.out)
 replace s5:=zh (s5.out.ext E.out)
 replace HE:=zh (HE.out.tr E.out)
 clear E
 have E:=zh (Ext.refl W3)
 have gaK:=KA.out.ext E.out
 obtain ⟨ga0,ga1,ga2,ga3,ga4,ga5,ga6⟩:=Bk.k7 gaK
 have gaL:=gaK.lt
 clear gaK
 cases g:M.seen x n
 ·have hl:y.length≤0:=by rw [← HY.out,M.viewOf_f g];exact Nat.le_refl _
  go_wp2_with (first
    | (go_at_call 26;refine (CS.out _ _ (HV.out.ext E.out)).mono ?_;rintro e wa ⟨v4,rfl,ho,he⟩;replace E:=zh (E.out.tr he);have HR4:=zh ho.rs;clear ho;have r0aK:=KA.out.ext E.out;obtain ⟨r0a0,r0a1,r0a2,r0a3,r0a4,r0a5,r0a6⟩:=Bk.k7 r0aK;have r0aL:=r0aK.lt;clear r0aK;clear he)
    | (go_at_call 21;refine (law_sameInts _ _ y y _ (HR.out.ext E.out) HR4.out).mono ?_;rintro e wb ⟨rfl,he⟩;replace E:=zh (E.out.tr he);rw [Eqb.t (rfl:y=y)];have r1aK:=KA.out.ext E.out;obtain ⟨r1a0,r1a1,r1a2,r1a3,r1a4,r1a5,r1a6⟩:=Bk.k7 r1aK;have r1aL:=r1aK.lt;clear r1aK;clear he;clear r0a0 r0a1 r0a2 r0a3 r0a4 r0a5 r0a6 r0aL)
    | (go_at_call 19;refine (law_alive _).mono ?_;rintro e w9 ⟨rfl,he⟩;replace E:=zh (E.out.tr he);clear he))
  go_ret
  exact ⟨rfl,HE.out.tr E.out⟩
 obtain ⟨hmv,hg2,hg3⟩:=M.seen_iff.1 g
 obtain ⟨N,rfl⟩:∃ N:Nat,n=N:=⟨n.toNat,by omega⟩
 have hN:N < x.Cores.length:=by omega
 have hyv:y=M.viewN x N:=by rw [← HY.out,M.viewOf_t g]
 have hsv:M.ssv x.Plan.Slots (x.Cores.length:Int)=true:=by rw [hmv.nc];exact hmv.ssv
 have hT0:=hmv.tick.1
 have hT1:=hmv.tick.2
 have CO:=zh (fun (v:Value) (u:World) (h:Rs u v x.Plan.Slots)=>impl_OwnTicks v x.Plan.Slots x.Cores.length N x.Tick u h hsv (by omega) (by omega) hT0 (by omega))
 have HK:=zh (fun (k:Nat) (hk:k < x.Cores.length) (hne:¬ k=N)=>by
  obtain ⟨q,hrs⟩:=M.RS.of (M.mv_iff.2 hmv) hk
  rw [hrs.view hN hne,hyv]:∀ k:Nat,k < x.Cores.length→¬ k=N→M.viewOf (M.restartPart x k) N=y)
 have ho1:=M.own_bd (xs:=x.Plan.Slots) (n:=N) (t:=x.Tick) (by omega)
 obtain ⟨eb0,eo0,er0,ep0,ec0,rfl,hB0,hX0,hF00,hF01,hF02,hR0,hS0,hL0,hV0⟩:=s4.out.atCore N hN
 have gL0:=Nat.lt_of_lt_of_le hB0 E.out.sz
 have gF00:=(cell_ext E.out hB0).trans hF00
 have gF01:=(cell_ext E.out hB0).trans hF01
 have gF02:=(cell_ext E.out hB0).trans hF02
 obtain ⟨hp1,hp2,hp3⟩:=M.viewN_parts hX0.out
 rw [← hyv] at hp1 hp2 hp3
 have hc8:=M.fits_len hmv hX0.out
 have HP2:=zh hp2
 have hypos:1≤y.length:=by omega
 have hy0:((y.length:Int) == 0)=false:=by rw [beq_eq_false_iff_ne];omega
 have hge:((er0.Cells.length:Int)+3≤(y.length:Int)):=by omega
 have hge2:decide ((er0.Cells.length:Int)+3≤(y.length:Int))=true:=decide_eq_true hge
 have hw3:IntKind.i64.wrap ((er0.Cells.length:Int)+3)=(er0.Cells.length:Int)+3:=wrap_small (by omega) (by omega)
 obtain ⟨L2,hL2⟩:∃ q:Nat,q=er0.Cells.length+2:=⟨_,rfl⟩
 have hw2:IntKind.i64.wrap ((er0.Cells.length:Int)+2)=(L2:Int):=(wrap_small (by omega) (by omega)).trans (by omega)
 have hlt2:L2 < y.length:=by omega
 rw [← hL2] at hp3
 clear hL2
 have HP3:=zh hp3
 have hle2:er0.Cells.length≤y.length:=by omega
 have hcap:er0.Cells.length≤yc:=by
  obtain ⟨_,_,_,e9,h9,_⟩:=HR.out
  cases e9
  omega
 clear hp2 hp3 hyv hsv hmv g HY
 go_wp2_with (first
   | (go_at_call 26;refine (CS.out _ _ (HV.out.ext E.out)).mono ?_;rintro e wa ⟨v4,rfl,ho,he⟩;replace E:=zh (E.out.tr he);have HR4:=zh ho.rs;clear ho;have r0aK:=KA.out.ext E.out;obtain ⟨r0a0,r0a1,r0a2,r0a3,r0a4,r0a5,r0a6⟩:=Bk.k7 r0aK;have r0aL:=r0aK.lt;clear r0aK;have r0x0:=(cell_ext E.out hB0).trans hF00;clear he)
   | (go_at_call 21;refine (law_sameInts _ _ y y _ (HR.out.ext E.out) HR4.out).mono ?_;rintro e wb ⟨rfl,he⟩;replace E:=zh (E.out.tr he);rw [Eqb.t (rfl:y=y)];have r1aK:=KA.out.ext E.out;obtain ⟨r1a0,r1a1,r1a2,r1a3,r1a4,r1a5,r1a6⟩:=Bk.k7 r1aK;have r1aL:=r1aK.lt;clear r1aK;have r1x0:=(cell_ext E.out hB0).trans hF00;clear he;clear r0a0 r0a1 r0a2 r0a3 r0a4 r0a5 r0a6 r0aL r0x0))
 go_loopw [7] (fun i wr => ∃ k:Nat,k≤x.Cores.length∧i = .int .i64 k∧Ext W3 wr) (fun i _=>x.Cores.length - (intOf i).toNat)
 case atStart=>exact ⟨0,Nat.zero_le _,rfl,E.out⟩
 case round =>
  obtain ⟨k,hk,rfl,er⟩:=hrel
  replace E:=zh er
  clear er
  by_cases hkt:k < x.Cores.length
  ·by_cases hkq:k=N
   ·subst hkq
    have iaK:=KA.out.ext E.out
    have ia4:=iaK.cell (j:=4) rfl
    have iaL:=iaK.lt
    clear iaK
    go_wp2
    exact ⟨⟨k+1,by omega,by go_num,E.out⟩,by simp [intOf];omega⟩
   have hb1:((k:Int) != (N:Int))=true:=by simp;omega
   have hkv:=zh (HK.out k hkt hkq)
   have iaK:=KA.out.ext E.out
   obtain ⟨ia0,ia1,ia2,ia3,ia4,ia5,ia6⟩:=Bk.k7 iaK
   have iaL:=iaK.lt
   clear iaK
   go_wp2_with (first
     | (go_at_call 16;refine (impl_RestartPart _ x k _ (HV.out.ext E.out)).mono ?_;rintro e wa ⟨v5,rfl,ho,he⟩;replace E:=zh (E.out.tr he);have HR5:=zh ho.rv;clear ho;have r0aK:=KA.out.ext E.out;obtain ⟨r0a0,r0a1,r0a2,r0a3,r0a4,r0a5,r0a6⟩:=Bk.k7 r0aK;have r0aL:=r0aK.lt;clear r0aK;clear he)
     | (go_at_call 25;refine (impl_ViewOf _ _ N _ HR5.out).mono ?_;rintro e wb ⟨v6,rfl,ho,he⟩;replace E:=zh (E.out.tr he);rw [hkv.out] at ho;have HR6:=zh ho.rs;clear ho;have r1aK:=KA.out.ext E.out;obtain ⟨r1a0,r1a1,r1a2,r1a3,r1a4,r1a5,r1a6⟩:=Bk.k7 r1aK;have r1aL:=r1aK.lt;clear r1aK;clear he;clear r0a0 r0a1 r0a2 r0a3 r0a4 r0a5 r0a6 r0aL)
     | (go_at_call 21;refine (law_sameInts _ _ y y _ HR6.out (HR.out.ext E.out)).mono ?_;rintro e wc ⟨rfl,he⟩;replace E:=zh (E.out.tr he);rw [Eqb.t (rfl:y=y)];have r2aK:=KA.out.ext E.out;obtain ⟨r2a0,r2a1,r2a2,r2a3,r2a4,r2a5,r2a6⟩:=Bk.k7 r2aK;have r2aL:=r2aK.lt;clear r2aK;clear he;clear r1a0 r1a1 r1a2 r1a3 r1a4 r1a5 r1a6 r1aL))
   go_roundw
   case rel=>exact ⟨k+1,by omega,by go_num,E.out⟩
   case measure=>simp [intOf];omega
  obtain rfl:k=x.Cores.length:=by omega
  have gL0:=Nat.lt_of_lt_of_le hB0 E.out.sz
  have gF00:=(cell_ext E.out hB0).trans hF00
  have gF01:=(cell_ext E.out hB0).trans hF01
  have gF02:=(cell_ext E.out hB0).trans hF02
  obtain ⟨eb1,eo1,er1,rfl,hB1,hX1,hF10,hR1⟩:=HR.out.atInt L2 (by omega)
  have gL1:=Nat.lt_of_lt_of_le hB1 E.out.sz
  have gF10:=(cell_ext E.out hB1).trans hF10
  obtain rfl:er1=M.own x.Plan.Slots N x.Tick:=by have h3:=hX1.out;rw [HP3.out] at h3;exact (Option.some.inj h3).symm
  have HTK:Hid (Rs W3 (.slice (some ⟨eb1,eo1,none⟩) er0.Cells.length yc) er0.Cells):=zh (by have:=HR.out.take (k:=er0.Cells.length) (by omega);rw [HP2.out] at this;exact this)
  clear HP2 HP3 hX0 hX1 HK
  have jaK:=KA.out.ext E.out
  obtain ⟨ja0,ja1,ja2⟩:=Bk.k3 jaK
  have ja4:=jaK.cell (j:=4) rfl
  have ja6:=jaK.cell (j:=6) rfl
  have jaL:=jaK.lt
  clear jaK
  go_wp2
  go_region_held3 (fun u=>u.cell? ⟨A,0,none⟩=some (.slice p0 x.Plan.Parts.length q0)∧u.cell? ⟨A,1,none⟩=some (.slice p1 x.Plan.Channels.length q1)∧u.cell? ⟨A,2,none⟩=some (.slice p2 x.Plan.Slots.length q2)∧u.cell? ⟨A,4,none⟩=some (.slice (some ⟨eb0,eo0,none⟩) x.Cores.length q4)∧u.cell? ⟨A,6,none⟩=some (.int .i64 x.Tick)∧u.cell? ⟨eb0,eo0+N * 3,none⟩=some (.slice ep0 er0.Cells.length ec0)∧u.cell? ⟨eb1,eo1+L2,none⟩=some (.int .i64 (M.own x.Plan.Slots N x.Tick)))
   (go_keep)
   (first
    | (go_at_call 21;refine (law_sameInts _ _ er0.Cells er0.Cells _ (HTK.out.ext E.out.drew) (hS0.out.ext E.out.drew)).mono ?_;rintro e wa ⟨rfl,he⟩;replace E:=zh (E.out.drew.tr he);rw [Eqb.t (rfl:er0.Cells=er0.Cells)];have r0aK:=KA.out.ext E.out;obtain ⟨r0a0,r0a1,r0a2⟩:=Bk.k3 r0aK;have r0a4:=r0aK.cell (j:=4) rfl;have r0a6:=r0aK.cell (j:=6) rfl;have r0aL:=r0aK.lt;clear r0aK;have r0x0:=(cell_ext E.out hB0).trans hF00;have r0x1:=(cell_ext E.out hB1).trans hF10;clear he)
    | (go_at_call 27;refine (CO.out _ _ (s2.out.ext E.out)).mono ?_;rintro e wb ⟨rfl,he⟩;replace E:=zh (E.out.tr he);have r1aK:=KA.out.ext E.out;obtain ⟨r1a0,r1a1,r1a2⟩:=Bk.k3 r1aK;have r1a4:=r1aK.cell (j:=4) rfl;have r1a6:=r1aK.cell (j:=6) rfl;have r1aL:=r1aK.lt;clear r1aK;have r1x0:=(cell_ext E.out hB0).trans hF00;have r1x1:=(cell_ext E.out hB1).trans hF10;clear he;clear r0a0 r0a1 r0a2 r0a4 r0a6 r0aL r0x0 r0x1))
  all_goals
   go_wp2
   go_ret
   refine ⟨?_,HE.out.tr E.out⟩
   first | rfl | simp
set_option maxHeartbeats 1000000
structure M.RN (m y:Machine) (T:Nat):Prop where
 eq:y=M.run m T
 plan:y.Plan=m.Plan
 progs:y.Programs=m.Programs
 tick:y.Tick=m.Tick+T
 mv:M.MV y
 nc:y.Cores.length=m.Cores.length
 nh:y.Holds.length=m.Holds.length
 half:∀ h:Nat,h≤T→M.runM (M.runM m h) ((T:Int) - h)=y
theorem M.RN.of {m:Machine} {T:Nat} (h:M.MV m) (hT:T≤400) (ht:m.Tick+T≤100000):M.RN m (M.run m T) T:=by
 obtain ⟨h1,h2,h3,h4,h5,h6⟩:=M.run_MV h T ht
 refine { eq:=rfl,plan:=h3,progs:=h4,tick:=h2,mv:=h1,nc:=h5,nh:=h6,half:=fun k hk=>?_ }
 obtain ⟨g1,g2,g3,g4,g5,g6⟩:=M.run_MV h k (by omega)
 have e1:M.runM m k=M.run m k:=if_pos (M.runs_iff.2 ⟨h,⟨by omega,by omega⟩,by omega⟩)
 have e2:M.runM (M.run m k) ((T:Int) - k)=M.run (M.run m k) ((T:Int) - k).toNat:=if_pos (M.runs_iff.2 ⟨g1,⟨by omega,by omega⟩,by rw [g2];omega⟩)
 rw [e1,e2,← M.run_add,show k+((T:Int) - k).toNat=T by omega]
theorem M.count_who {xs:List Slot} (h:M.SL xs) {n:Int} (hc:(M.frame xs).count n=0) (t:Int):M.who xs t≠n:=by
 intro e
 have hl:1≤M.fl xs:=(M.SL.fl h).1
 have hlt:t.toNat % M.fl xs < (M.frame xs).length:=Nat.mod_lt _ hl
 have hm:M.who xs t∈M.frame xs:=by
  unfold M.who
  rw [List.getD_eq_getElem?_getD,List.getElem?_eq_getElem hlt]
  exact List.getElem_mem hlt
 rw [e] at hm
 exact absurd hc (Nat.pos_iff_ne_zero.1 (List.count_pos_iff.2 hm))
theorem M.stepAt_stopped {m:Machine} {n:Nat} {c:Core} (hc:m.Cores[n]? = some c) (hs:c.Stopped=true):M.stepAt m n=(c,M.oz):=by
 have e1:m.Cores.getD n M.cz=c:=by rw [List.getD_eq_getElem?_getD,hc];rfl
 unfold M.stepAt M.step
 rw [e1,if_pos hs]
theorem M.act_oz (cs:List Channel) (hs:List Hold) (n:Int) (c:Core):M.act cs hs n c M.oz=(c,hs,-1):=by
 unfold M.act M.oz
 rw [if_neg (by decide),if_neg (by decide)]
theorem M.tick_stopped {m:Machine} {k:Nat} {c:Core} (hc:m.Cores[k]? = some c) (hs:c.Stopped=true):(M.tick m).Cores[k]? = some c:=by
 by_cases h:M.who m.Plan.Slots m.Tick=k
 ·unfold M.tick
  rw [if_neg (by omega),h,Int.toNat_natCast]
  show (m.Cores.set k (M.actAt m k).1)[k]? = _
  have e:(M.actAt m k).1=c:=by unfold M.actAt;rw [M.stepAt_stopped hc hs,M.act_oz]
  rw [e,List.getElem?_set_self (by exact (List.getElem?_eq_some_iff.1 hc).1)]
 ·rw [M.tick_other h];exact hc
theorem M.run_rests {m:Machine} (h:M.MV m) {k:Nat} {c:Core} (hc:m.Cores[k]? = some c) (hr:c.Stopped=true∨(M.frame m.Plan.Slots).count (k:Int)=0):∀ T:Nat,m.Tick+T≤100000→(M.run m T).Cores[k]? = some c:=by
 intro T
 induction T with
 | zero=>intro _;exact hc
 | succ T ih =>
  intro ht
  have e:=ih (by omega)
  obtain ⟨h1,h2,h3,h4,h5,h6⟩:=M.run_MV h T (by omega)
  show (M.tick (M.run m T)).Cores[k]? = _
  rcases hr with hr | hr
  ·exact M.tick_stopped e hr
  ·rw [M.tick_other (by rw [h3];exact M.count_who (M.SL.of h.ssv) hr _)];exact e
set_option maxHeartbeats 4000000
theorem lawRunMachine (v:Value) (xs:List By) (w:World) (h:Rs w v xs) :
  Calls Tryz.prog 11 #[v] w fun e w'=>e = .returned (.bool true)∧Ext w w':=by
 obtain ⟨a,c,rfl,hl⟩:=h.form
 have H:=zh h
 clear h
 by_cases hx:xs.length≤1048576
 case neg =>
  have hx2:1048576 < xs.length:=by omega
  clear hx
  go_enter Tryz.func11,Tryz.ntmps11
  go_wp2
  go_ret
  exact ⟨rfl,Ext.refl w⟩
 go_enter Tryz.func11,Tryz.ntmps11
 go_upto_region 4 with (go_at_call 41;refine (spec_DrawRunMachine _ _ _ H.out).mono ?_;rintro e w1 ⟨v1,x,n,rfl,hv,htt,hn,he⟩;obtain ⟨p0,q0,p1,q1,p2,q2,p3,q3,p4,q4,p5,q5,rfl,-⟩:=hv.openMc;have HV:=zh hv.rv;have HTT:=zh htt;have HE:=zh he;clear hv htt he)
 obtain ⟨A,hA⟩:∃ A,A=w1.heap.size:=⟨_,rfl⟩
 refine abs_world (fun u=>Ext w1 u∧Bk u A [.slice p0 x.Plan.Parts.length q0,.slice p1 x.Plan.Channels.length q1,.slice p2 x.Plan.Slots.length q2,.slice p3 x.Programs.length q3,.slice p4 x.Cores.length q4,.slice p5 x.Holds.length q5,.int .i64 x.Tick] 32) ⟨(Ext.refl _).alloc _,by rw [hA];exact Bk.new _ _ _⟩ ?_
 rw [← hA]
 rintro W1 ⟨e1,kA⟩
 clear hA H
 replace HV:=zh (HV.out.ext e1)
 replace HE:=zh (HE.out.tr e1)
 have KA:=zh kA
 clear e1 kA
 have E:=zh (Ext.refl W1)
 obtain ⟨_,_,_,_,_,_,_,_,_,_,_,_,ee,r6,s0,-,s1,-,s2,-,s3,-,s4,-,s5,-⟩:=HV.out.openMachine
 have e9:=congrArg (fun v=>match v with | .agg a=>a.toList | _ => []) ee
 simp only [List.cons.injEq,Value.slice.injEq,and_true,true_and] at e9
 obtain ⟨⟨rfl,rfl⟩,⟨rfl,rfl⟩,⟨rfl,rfl⟩,⟨rfl,rfl⟩,⟨rfl,rfl⟩,⟨rfl,rfl⟩⟩:=e9
 clear ee
 have hxc:x.Cores.length≤200000:=by
  have h1:=M.tot_eq x
  have h2:=tot_len (xs:=x.Cores)
  have:=HTT.out
  omega
 have hxh:x.Holds.length≤200000:=by
  have h1:=M.tot_eq x
  have h2:=tot_len (xs:=x.Holds)
  have:=HTT.out
  omega
 obtain ⟨hn1,hn2⟩:=hn
 obtain ⟨y,hy⟩:∃ y,M.runM x n=y:=⟨_,rfl⟩
 have CI:=zh (fun (v:Value) (u:World) (h:Rv u v x)=>impl_RunMachine v x n u h)
 have CS:=zh (fun (v:Value) (u:World) (h:Rv u v x)=>spec_RunMachine v x n u h ⟨by omega,by omega⟩)
 rw [hy] at CI CS
 have HY:=zh hy
 clear hy
 have faK:=KA.out.ext E.out
 obtain ⟨fa0,fa1,fa2,fa3,fa4,fa5,fa6⟩:=Bk.k7 faK
 have faL:=faK.lt
 clear faK
 go_upto_region 5 with (go_at_call 39;refine (CI.out _ _ HV.out).mono ?_;rintro e w2 ⟨v2,rfl,ho,he⟩;obtain ⟨b0,d0,b1,d1,b2,d2,b3,d3,b4,d4,b5,d5,rfl,y6,t0,-,t1,-,t2,-,t3,-,t4,-,t5,-⟩:=ho.rv.openMachine;have HR:=zh ho.rv;replace E:=zh (E.out.tr he);clear ho he)
 obtain ⟨B,hB⟩:∃ B,B=w2.heap.size:=⟨_,rfl⟩
 refine abs_world (fun u=>Ext w2 u∧Bk u B [.slice b0 y.Plan.Parts.length d0,.slice b1 y.Plan.Channels.length d1,.slice b2 y.Plan.Slots.length d2,.slice b3 y.Programs.length d3,.slice b4 y.Cores.length d4,.slice b5 y.Holds.length d5,.int .i64 y.Tick] 32) ⟨(Ext.refl _).alloc _,by rw [hB];exact Bk.new _ _ _⟩ ?_
 rw [← hB]
 rintro W3 ⟨eb,kb⟩
 clear hB
 have EB:=zh (E.out.tr eb)
 replace HV:=zh (HV.out.ext EB.out)
 replace KA:=zh (KA.out.ext EB.out)
 replace s0:=zh (s0.out.ext EB.out)
 replace s1:=zh (s1.out.ext EB.out)
 replace s2:=zh (s2.out.ext EB.out)
 replace s3:=zh (s3.out.ext EB.out)
 replace s4:=zh (s4.out.ext EB.out)
 replace s5:=zh (s5.out.ext EB.out)
 replace HR:=zh (HR.out.ext eb)
 replace t0:=zh (t0.out.ext eb)
 replace t1:=zh (t1.out.ext eb)
 replace t2:=zh (t2.out.ext eb)
 replace t3:=zh (t3.out.ext eb)
 replace t4:=zh (t4.out.ext eb)
 replace t5:=zh (t5.out.ext eb)
 replace HE:=zh (HE.out.tr EB.out)
 have KB:=zh kb
 clear eb kb EB E
 have E:=zh (Ext.refl W3)
 clear fa0 fa1 fa2 fa3 fa4 fa5 fa6 faL
 have gaK:=KA.out.ext E.out
 obtain ⟨ga0,ga1,ga2,ga3,ga4,ga5,ga6⟩:=Bk.k7 gaK
 have gaL:=gaK.lt
 clear gaK
 have gbK:=KB.out.ext E.out
 obtain ⟨gb0,gb1,gb2,gb3,gb4,gb5,gb6⟩:=Bk.k7 gbK
 have gbL:=gbK.lt
 clear gbK
 go_region_held3 (fun u=>u.cell? ⟨A,0,none⟩=some (.slice p0 x.Plan.Parts.length q0)∧u.cell? ⟨A,1,none⟩=some (.slice p1 x.Plan.Channels.length q1)∧u.cell? ⟨A,2,none⟩=some (.slice p2 x.Plan.Slots.length q2)∧u.cell? ⟨A,3,none⟩=some (.slice p3 x.Programs.length q3)∧u.cell? ⟨A,4,none⟩=some (.slice p4 x.Cores.length q4)∧u.cell? ⟨A,5,none⟩=some (.slice p5 x.Holds.length q5)∧u.cell? ⟨A,6,none⟩=some (.int .i64 x.Tick)∧u.cell? ⟨B,0,none⟩=some (.slice b0 y.Plan.Parts.length d0)∧u.cell? ⟨B,1,none⟩=some (.slice b1 y.Plan.Channels.length d1)∧u.cell? ⟨B,2,none⟩=some (.slice b2 y.Plan.Slots.length d2)∧u.cell? ⟨B,3,none⟩=some (.slice b3 y.Programs.length d3)∧u.cell? ⟨B,4,none⟩=some (.slice b4 y.Cores.length d4)∧u.cell? ⟨B,5,none⟩=some (.slice b5 y.Holds.length d5)∧u.cell? ⟨B,6,none⟩=some (.int .i64 y.Tick))
  (go_keep)
  (first
   | (go_at_call 42;refine (CS.out _ _ (HV.out.ext E.out.drew)).mono ?_;rintro e wa ⟨v4,rfl,ho,he⟩;replace E:=zh (E.out.drew.tr he);have HR4:=zh ho.rv;clear ho;have r0aK:=KA.out.ext E.out;obtain ⟨r0a0,r0a1,r0a2,r0a3,r0a4,r0a5,r0a6⟩:=Bk.k7 r0aK;have r0aL:=r0aK.lt;clear r0aK;have r0bK:=KB.out.ext E.out;obtain ⟨r0b0,r0b1,r0b2,r0b3,r0b4,r0b5,r0b6⟩:=Bk.k7 r0bK;have r0bL:=r0bK.lt;clear r0bK;clear he)
   | (go_at_call 17;refine (law_sameMachine _ _ y _ (HR.out.ext E.out) HR4.out).mono ?_;rintro e wb ⟨rfl,he⟩;replace E:=zh (E.out.tr he);have r1aK:=KA.out.ext E.out;obtain ⟨r1a0,r1a1,r1a2,r1a3,r1a4,r1a5,r1a6⟩:=Bk.k7 r1aK;have r1aL:=r1aK.lt;clear r1aK;have r1bK:=KB.out.ext E.out;obtain ⟨r1b0,r1b1,r1b2,r1b3,r1b4,r1b5,r1b6⟩:=Bk.k7 r1bK;have r1bL:=r1bK.lt;clear r1bK;clear he;clear r0a0 r0a1 r0a2 r0a3 r0a4 r0a5 r0a6 r0b0 r0b1 r0b2 r0b3 r0b4 r0b5 r0b6 r0aL r0bL))
 clear ga0 ga1 ga2 ga3 ga4 ga5 ga6 gb0 gb1 gb2 gb3 gb4 gb5 gb6 gaL gbL
 clear CI CS
 by_cases hv:M.runs x n 400=true
 case neg =>
  have hl:y.Plan.Slots.length≤0:=by rw [← HY.out,M.runM,if_neg hv];exact Nat.le_refl _
  clear hv
  have haK:=KB.out.ext E.out
  have ha2:=haK.cell (j:=2) rfl
  have haL:=haK.lt
  clear haK
  go_wp2_with (go_at_call 19;refine (law_alive _).mono ?_;rintro e w9 ⟨rfl,he⟩;replace E:=zh (E.out.tr he);clear he)
  go_ret
  exact ⟨rfl,HE.out.tr E.out⟩
 obtain ⟨hmv,⟨hg2,hg3⟩,hg4⟩:=M.runs_iff.1 hv
 obtain ⟨T,rfl⟩:∃ T:Nat,n=T:=⟨n.toNat,by omega⟩
 have hrn:M.RN x y T:=by
  have:=M.RN.of hmv (by omega) hg4
  rw [← HY.out,M.runM,if_pos hv]
  exact this
 have RN:=zh hrn
 have hpos:1≤y.Plan.Slots.length:=by rw [hrn.plan];exact (M.ssv_all hmv.ssv).1
 have HYV:=zh (M.mv_iff.2 hrn.mv)
 have lp1:x.Programs.length≤y.Programs.length:=by rw [hrn.progs];exact Nat.le_refl _
 have lp3:x.Programs.length≤200000:=by have h1:=hmv.pg.np;have h2:=hmv.nc;omega
 obtain ⟨Z,hZ⟩:∃ Z,M.numbers x.Plan=Z:=⟨_,rfl⟩
 have CNX:=zh (fun (u:World) (e:Ext W3 u)=>impl_SetupNumbers _ x.Plan u (Rv.mkSetup (s0.out.ext e) (s1.out.ext e) (s2.out.ext e)))
 have CNY:=zh (fun (u:World) (e:Ext W3 u)=>impl_SetupNumbers _ y.Plan u (Rv.mkSetup (t0.out.ext e) (t1.out.ext e) (t2.out.ext e)))
 have hy0:((y.Plan.Slots.length:Int) == 0)=false:=by rw [beq_eq_false_iff_ne];omega
 obtain ⟨hf,hhf⟩:∃ q:Nat,q=T / 2:=⟨_,rfl⟩
 have hfl:hf≤T:=by omega
 have hdiv:(T:Int).tdiv 2=(hf:Int):=by rw [hhf];exact (Int.ofNat_tdiv T 2).symm
 have hdiv2:(T:Int) / 2=(hf:Int):=by omega
 have hsub:IntKind.i64.wrap ((T:Int) - (hf:Int))=(T:Int) - (hf:Int):=wrap_small (by omega) (by omega)
 clear hhf
 have CR:=zh (fun (v:Value) (u:World) (h:Rv u v x)=>impl_RunMachine v x hf u h)
 have CH:=zh (fun (v:Value) (u:World) (h:Rv u v (M.runM x hf))=>impl_RunMachine v (M.runM x hf) ((T:Int) - hf) u h)
 rw [hrn.half hf hfl] at CH
 rw [show M.numbers y.Plan=Z by rw [hrn.plan];exact hZ] at CNY
 rw [hZ] at CNX
 clear hrn hmv hv hZ HY
 have haK:=KA.out.ext E.out
 have ha3:=haK.cell (j:=3) rfl
 have haL:=haK.lt
 clear haK
 have hbK:=KB.out.ext E.out
 have hb2:=hbK.cell (j:=2) rfl
 have hbL:=hbK.lt
 clear hbK
 go_wp2
 go_loopw [6] (fun i wr => ∃ k:Nat,k≤x.Programs.length∧i = .int .i64 k∧Ext W3 wr) (fun i _=>x.Programs.length - (intOf i).toNat)
 case atStart=>exact ⟨0,Nat.zero_le _,rfl,E.out⟩
 case round =>
  obtain ⟨k,hk,rfl,er⟩:=hrel
  replace E:=zh er
  clear er ha3 hb2 haL hbL
  by_cases hkt:k < x.Programs.length
  ·have hk2:k < y.Programs.length:=by omega
   obtain ⟨eb1,eo1,er1,ep1,ec1,rfl,hB1,hX1,hF10,hS1,hL1⟩:=s3.out.atList k hkt
   have gL1:=Nat.lt_of_lt_of_le hB1 E.out.sz
   have gF10:=(cell_ext E.out hB1).trans hF10
   obtain ⟨eb2,eo2,er2,ep2,ec2,rfl,hB2,hX2,hF20,hS2,hL2⟩:=t3.out.atList k (by omega)
   have gL2:=Nat.lt_of_lt_of_le hB2 E.out.sz
   have gF20:=(cell_ext E.out hB2).trans hF20
   obtain rfl:er2=er1:=by have h2:=hX2.out;rw [RN.out.progs,hX1.out] at h2;exact (Option.some.inj h2).symm
   clear hX1 hX2
   have iaK:=KA.out.ext E.out
   have ia3:=iaK.cell (j:=3) rfl
   have iaL:=iaK.lt
   clear iaK
   have ibK:=KB.out.ext E.out
   have ib3:=ibK.cell (j:=3) rfl
   have ibL:=ibK.lt
   clear ibK
   go_wp2
   go_region_held3 (fun u=>u.cell? ⟨A,3,none⟩=some (.slice (some ⟨eb1,eo1,none⟩) x.Programs.length q3)∧u.cell? ⟨B,3,none⟩=some (.slice (some ⟨eb2,eo2,none⟩) y.Programs.length d3)∧u.cell? ⟨eb1,eo1+k,none⟩=some (.slice ep1 er2.length ec1)∧u.cell? ⟨eb2,eo2+k,none⟩=some (.slice ep2 er2.length ec2))
    (go_keep)
    ((go_at_call 43;refine (law_sameOrders _ _ er2 er2 _ (hS2.out.ext E.out.drew) (hS1.out.ext E.out.drew)).mono ?_;rintro e wa ⟨rfl,he⟩;replace E:=zh (E.out.drew.tr he);rw [Eqb.t (rfl:er2=er2)];have r0aK:=KA.out.ext E.out;have r0a3:=r0aK.cell (j:=3) rfl;have r0aL:=r0aK.lt;clear r0aK;have r0bK:=KB.out.ext E.out;have r0b3:=r0bK.cell (j:=3) rfl;have r0bL:=r0bK.lt;clear r0bK;have r0x0:=(cell_ext E.out hB1).trans hF10;have r0x1:=(cell_ext E.out hB2).trans hF20;clear he))
   go_wp2
   exact ⟨⟨k+1,by omega,by go_num,E.out⟩,by simp [intOf];omega⟩
  obtain rfl:k=x.Programs.length:=by omega
  have jaK:=KA.out.ext E.out
  obtain ⟨ja0,ja1,ja2,ja3,ja4,ja5,ja6⟩:=Bk.k7 jaK
  have jaL:=jaK.lt
  clear jaK
  have jbK:=KB.out.ext E.out
  obtain ⟨jb0,jb1,jb2,jb3,jb4,jb5,jb6⟩:=Bk.k7 jbK
  have jbL:=jbK.lt
  clear jbK
  go_wp2
  go_region_held3 (fun u=>u.cell? ⟨A,0,none⟩=some (.slice p0 x.Plan.Parts.length q0)∧u.cell? ⟨A,1,none⟩=some (.slice p1 x.Plan.Channels.length q1)∧u.cell? ⟨A,2,none⟩=some (.slice p2 x.Plan.Slots.length q2)∧u.cell? ⟨A,3,none⟩=some (.slice p3 x.Programs.length q3)∧u.cell? ⟨A,4,none⟩=some (.slice p4 x.Cores.length q4)∧u.cell? ⟨A,5,none⟩=some (.slice p5 x.Holds.length q5)∧u.cell? ⟨A,6,none⟩=some (.int .i64 x.Tick)∧u.cell? ⟨B,0,none⟩=some (.slice b0 y.Plan.Parts.length d0)∧u.cell? ⟨B,1,none⟩=some (.slice b1 y.Plan.Channels.length d1)∧u.cell? ⟨B,2,none⟩=some (.slice b2 y.Plan.Slots.length d2)∧u.cell? ⟨B,3,none⟩=some (.slice b3 y.Programs.length d3)∧u.cell? ⟨B,4,none⟩=some (.slice b4 y.Cores.length d4)∧u.cell? ⟨B,5,none⟩=some (.slice b5 y.Holds.length d5)∧u.cell? ⟨B,6,none⟩=some (.int .i64 y.Tick))
   (go_keep)
   (first
    | (go_at_call 22;refine (impl_MachineValid _ y _ (HR.out.ext E.out.drew)).mono ?_;rintro e wa ⟨rfl,he⟩;replace E:=zh (E.out.drew.tr he);rw [HYV.out];have r0aK:=KA.out.ext E.out;obtain ⟨r0a0,r0a1,r0a2,r0a3,r0a4,r0a5,r0a6⟩:=Bk.k7 r0aK;have r0aL:=r0aK.lt;clear r0aK;have r0bK:=KB.out.ext E.out;obtain ⟨r0b0,r0b1,r0b2,r0b3,r0b4,r0b5,r0b6⟩:=Bk.k7 r0bK;have r0bL:=r0bK.lt;clear r0bK;clear he)
    | (go_at_call 44;refine (CNY.out _ E.out).mono ?_;rintro e wb ⟨v5,rfl,ho,he⟩;replace E:=zh (E.out.tr he);have HO5:=zh ho.rs;clear ho;clear CNY;have r1aK:=KA.out.ext E.out;obtain ⟨r1a0,r1a1,r1a2,r1a3,r1a4,r1a5,r1a6⟩:=Bk.k7 r1aK;have r1aL:=r1aK.lt;clear r1aK;have r1bK:=KB.out.ext E.out;obtain ⟨r1b0,r1b1,r1b2,r1b3,r1b4,r1b5,r1b6⟩:=Bk.k7 r1bK;have r1bL:=r1bK.lt;clear r1bK;clear he;clear r0a0 r0a1 r0a2 r0a3 r0a4 r0a5 r0a6 r0b0 r0b1 r0b2 r0b3 r0b4 r0b5 r0b6 r0aL r0bL)
    | (go_at_call 44;refine (CNX.out _ E.out).mono ?_;rintro e wc ⟨v6,rfl,ho,he⟩;replace E:=zh (E.out.tr he);have HO6:=zh ho.rs;replace HO5:=zh (HO5.out.ext he);clear ho;clear CNX;have r2aK:=KA.out.ext E.out;obtain ⟨r2a0,r2a1,r2a2,r2a3,r2a4,r2a5,r2a6⟩:=Bk.k7 r2aK;have r2aL:=r2aK.lt;clear r2aK;have r2bK:=KB.out.ext E.out;obtain ⟨r2b0,r2b1,r2b2,r2b3,r2b4,r2b5,r2b6⟩:=Bk.k7 r2bK;have r2bL:=r2bK.lt;clear r2bK;clear he;clear r1a0 r1a1 r1a2 r1a3 r1a4 r1a5 r1a6 r1b0 r1b1 r1b2 r1b3 r1b4 r1b5 r1b6 r1aL r1bL)
    | (go_at_call 21;refine (law_sameInts _ _ Z Z _ HO5.out HO6.out).mono ?_;rintro e wd ⟨rfl,he⟩;replace E:=zh (E.out.tr he);rw [Eqb.t (rfl:Z=Z)];have r3aK:=KA.out.ext E.out;obtain ⟨r3a0,r3a1,r3a2,r3a3,r3a4,r3a5,r3a6⟩:=Bk.k7 r3aK;have r3aL:=r3aK.lt;clear r3aK;have r3bK:=KB.out.ext E.out;obtain ⟨r3b0,r3b1,r3b2,r3b3,r3b4,r3b5,r3b6⟩:=Bk.k7 r3bK;have r3bL:=r3bK.lt;clear r3bK;clear he;clear r2a0 r2a1 r2a2 r2a3 r2a4 r2a5 r2a6 r2b0 r2b1 r2b2 r2b3 r2b4 r2b5 r2b6 r2aL r2bL)
    | (go_at_call 39;refine (CR.out _ _ (HV.out.ext E.out)).mono ?_;rintro e we ⟨v7,rfl,ho,he⟩;replace E:=zh (E.out.tr he);clear CR;have HO7:=zh ho.rv;clear ho;clear HO5;have r4aK:=KA.out.ext E.out;obtain ⟨r4a0,r4a1,r4a2,r4a3,r4a4,r4a5,r4a6⟩:=Bk.k7 r4aK;have r4aL:=r4aK.lt;clear r4aK;have r4bK:=KB.out.ext E.out;obtain ⟨r4b0,r4b1,r4b2,r4b3,r4b4,r4b5,r4b6⟩:=Bk.k7 r4bK;have r4bL:=r4bK.lt;clear r4bK;clear he;clear r3a0 r3a1 r3a2 r3a3 r3a4 r3a5 r3a6 r3b0 r3b1 r3b2 r3b3 r3b4 r3b5 r3b6 r3aL r3bL)
    | (go_at_call 39;refine (CH.out _ _ HO7.out).mono ?_;rintro e wf ⟨v8,rfl,ho,he⟩;replace E:=zh (E.out.tr he);have HO8:=zh ho.rv;clear ho;clear HO7;have r5aK:=KA.out.ext E.out;obtain ⟨r5a0,r5a1,r5a2,r5a3,r5a4,r5a5,r5a6⟩:=Bk.k7 r5aK;have r5aL:=r5aK.lt;clear r5aK;have r5bK:=KB.out.ext E.out;obtain ⟨r5b0,r5b1,r5b2,r5b3,r5b4,r5b5,r5b6⟩:=Bk.k7 r5bK;have r5bL:=r5bK.lt;clear r5bK;clear he;clear r4a0 r4a1 r4a2 r4a3 r4a4 r4a5 r4a6 r4b0 r4b1 r4b2 r4b3 r4b4 r4b5 r4b6 r4aL r4bL)
    | (go_at_call 17;refine (law_sameMachine _ _ y _ HO8.out (HR.out.ext E.out)).mono ?_;rintro e wg ⟨rfl,he⟩;replace E:=zh (E.out.tr he);have r6aK:=KA.out.ext E.out;obtain ⟨r6a0,r6a1,r6a2,r6a3,r6a4,r6a5,r6a6⟩:=Bk.k7 r6aK;have r6aL:=r6aK.lt;clear r6aK;have r6bK:=KB.out.ext E.out;obtain ⟨r6b0,r6b1,r6b2,r6b3,r6b4,r6b5,r6b6⟩:=Bk.k7 r6bK;have r6bL:=r6bK.lt;clear r6bK;clear he;clear r5a0 r5a1 r5a2 r5a3 r5a4 r5a5 r5a6 r5b0 r5b1 r5b2 r5b3 r5b4 r5b5 r5b6 r5aL r5bL))
  go_wp2
  go_ret
  exact ⟨rfl,HE.out.tr E.out⟩
end Sk
