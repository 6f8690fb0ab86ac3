/- Contracts of functions of the given program, each under the condition that it states. -/
import Derived.Test.YtfbkkjihlncnhaaGreatChecked
import Derived.Deep.CutBlock
import Derived.Deep.CutRange
import Derived.Test.YtfbkkjihlncnhaaGreatZztVwM
import Derived.Test.YtfbkkjihlncnhaaGreatXRun
import Derived.Test.YtfbkkjihlncnhaaGreatZzrSpot
import Derived.Test.YtfbkkjihlncnhaaGreatZyDm
import Derived.Test.YtfbkkjihlncnhaaGreatDraw
import Derived.Test.YtfbkkjihlncnhaaGreatVWSeen
import Derived.Test.YtfbkkjihlncnhaaGreatCutC
import Derived.Test.YtfbkkjihlncnhaaGreatFaultS
namespace Sk
open Go Go.Proofs Go.RowKit
set_option maxHeartbeats 4000000
set_option maxRecDepth 100000
set_option linter.unusedVariables false
set_option linter.unusedSimpArgs false
theorem lawMachineRests (v:Value) (xs:List By) (w:World) (h:Rs w v xs) :
  Calls Tryz.prog 10 #[v] w fun e w'=>e = .returned (.bool true)∧Ext w w':=by
 obtain ⟨a,c,rfl,hl⟩:=h.form
 have H:=zh h
 clear h
 by_cases hx:xs.length≤1048576
 case neg =>
  have hx2:1048576 < xs.length:=by omega
  clear hx
  go_enter Tryz.func10,Tryz.ntmps10
  go_wp2
  go_ret
  exact ⟨rfl,Ext.refl w⟩
 go_enter Tryz.func10,Tryz.ntmps10
 go_upto_region 4 with (go_at_call 41;refine (spec_DrawRunMachine _ _ _ H.out).mono ?_;rintro e w1 ⟨v1,x,n,rfl,hv,htt,hn,he⟩;obtain ⟨p0,q0,p1,q1,p2,q2,p3,q3,p4,q4,p5,q5,rfl,-⟩:=hv.openMc;have HV:=zh hv.rv;have HTT:=zh htt;have HE:=zh he;clear hv htt he)
 obtain ⟨A,hA⟩:∃ A,A=w1.heap.size:=⟨_,rfl⟩
 refine abs_world (fun u=>Ext w1 u∧Bk u A [.slice p0 x.Plan.Parts.length q0,.slice p1 x.Plan.Channels.length q1,.slice p2 x.Plan.Slots.length q2,.slice p3 x.Programs.length q3,.slice p4 x.Cores.length q4,.slice p5 x.Holds.length q5,.int .i64 x.Tick] 32) ⟨(Ext.refl _).alloc _,by rw [hA];exact Bk.new _ _ _⟩ ?_
 rw [← hA]
 rintro W1 ⟨e1,kA⟩
 clear hA H
 replace HV:=zh (HV.out.ext e1)
 replace HE:=zh (HE.out.tr e1)
 have KA:=zh kA
 clear e1 kA
 have E:=zh (Ext.refl W1)
 obtain ⟨_,_,_,_,_,_,_,_,_,_,_,_,ee,r6,s0,-,s1,-,s2,-,s3,-,s4,-,s5,-⟩:=HV.out.openMachine
 have e9:=congrArg (fun v=>match v with | .agg a=>a.toList | _ => []) ee
 simp only [List.cons.injEq,Value.slice.injEq,and_true,true_and] at e9
 obtain ⟨⟨rfl,rfl⟩,⟨rfl,rfl⟩,⟨rfl,rfl⟩,⟨rfl,rfl⟩,⟨rfl,rfl⟩,⟨rfl,rfl⟩⟩:=e9
 clear ee
 have hxc:x.Cores.length≤200000:=by
  have h1:=M.tot_eq x
  have h2:=tot_len (xs:=x.Cores)
  have:=HTT.out
  omega
 have hxh:x.Holds.length≤200000:=by
  have h1:=M.tot_eq x
  have h2:=tot_len (xs:=x.Holds)
  have:=HTT.out
  omega
 obtain ⟨hn1,hn2⟩:=hn
 obtain ⟨y,hy⟩:∃ y,M.runM x n=y:=⟨_,rfl⟩
 have CI:=zh (fun (v:Value) (u:World) (h:Rv u v x)=>impl_RunMachine v x n u h)
 have CS:=zh (fun (v:Value) (u:World) (h:Rv u v x)=>spec_RunMachine v x n u h ⟨by omega,by omega⟩)
 rw [hy] at CI CS
 have HY:=zh hy
 clear hy
 have faK:=KA.out.ext E.out
 obtain ⟨fa0,fa1,fa2,fa3,fa4,fa5,fa6⟩:=Bk.k7 faK
 have faL:=faK.lt
 clear faK
 go_upto_region 5 with (go_at_call 39;refine (CI.out _ _ HV.out).mono ?_;rintro e w2 ⟨v2,rfl,ho,he⟩;obtain ⟨b0,d0,b1,d1,b2,d2,b3,d3,b4,d4,b5,d5,rfl,y6,t0,-,t1,-,t2,-,t3,-,t4,-,t5,-⟩:=ho.rv.openMachine;have HR:=zh ho.rv;replace E:=zh (E.out.tr he);clear ho he)
 obtain ⟨B,hB⟩:∃ B,B=w2.heap.size:=⟨_,rfl⟩
 refine abs_world (fun u=>Ext w2 u∧Bk u B [.slice b0 y.Plan.Parts.length d0,.slice b1 y.Plan.Channels.length d1,.slice b2 y.Plan.Slots.length d2,.slice b3 y.Programs.length d3,.slice b4 y.Cores.length d4,.slice b5 y.Holds.length d5,.int .i64 y.Tick] 32) ⟨(Ext.refl _).alloc _,by rw [hB];exact Bk.new _ _ _⟩ ?_
 rw [← hB]
 rintro W3 ⟨eb,kb⟩
 clear hB
 have EB:=zh (E.out.tr eb)
 replace HV:=zh (HV.out.ext EB.out)
 replace KA:=zh (KA.out.ext EB.out)
 replace s0:=zh (s0.out.ext EB.out)
 replace s1:=zh (s1.out.ext EB.out)
 replace s2:=zh (s2.out.ext EB.out)
 replace s3:=zh (s3.out.ext EB.out)
 replace s4:=zh (s4.out.ext EB.out)
 replace s5:=zh (s5.out.ext EB.out)
 replace HR:=zh (HR.out.ext eb)
 replace t0:=zh (t0.out.ext eb)
 replace t1:=zh (t1.out.ext eb)
 replace t2:=zh (t2.out.ext eb)
 replace t3:=zh (t3.out.ext eb)
 replace t4:=zh (t4.out.ext eb)
 replace t5:=zh (t5.out.ext eb)
 replace HE:=zh (HE.out.tr EB.out)
 have KB:=zh kb
 clear eb kb EB E
 have E:=zh (Ext.refl W3)
 clear fa0 fa1 fa2 fa3 fa4 fa5 fa6 faL
 have gaK:=KA.out.ext E.out
 obtain ⟨ga0,ga1,ga2,ga3,ga4,ga5,ga6⟩:=Bk.k7 gaK
 have gaL:=gaK.lt
 clear gaK
 have gbK:=KB.out.ext E.out
 obtain ⟨gb0,gb1,gb2,gb3,gb4,gb5,gb6⟩:=Bk.k7 gbK
 have gbL:=gbK.lt
 clear gbK
 go_region_held3 (fun u=>u.cell? ⟨A,0,none⟩=some (.slice p0 x.Plan.Parts.length q0)∧u.cell? ⟨A,1,none⟩=some (.slice p1 x.Plan.Channels.length q1)∧u.cell? ⟨A,2,none⟩=some (.slice p2 x.Plan.Slots.length q2)∧u.cell? ⟨A,3,none⟩=some (.slice p3 x.Programs.length q3)∧u.cell? ⟨A,4,none⟩=some (.slice p4 x.Cores.length q4)∧u.cell? ⟨A,5,none⟩=some (.slice p5 x.Holds.length q5)∧u.cell? ⟨A,6,none⟩=some (.int .i64 x.Tick)∧u.cell? ⟨B,0,none⟩=some (.slice b0 y.Plan.Parts.length d0)∧u.cell? ⟨B,1,none⟩=some (.slice b1 y.Plan.Channels.length d1)∧u.cell? ⟨B,2,none⟩=some (.slice b2 y.Plan.Slots.length d2)∧u.cell? ⟨B,3,none⟩=some (.slice b3 y.Programs.length d3)∧u.cell? ⟨B,4,none⟩=some (.slice b4 y.Cores.length d4)∧u.cell? ⟨B,5,none⟩=some (.slice b5 y.Holds.length d5)∧u.cell? ⟨B,6,none⟩=some (.int .i64 y.Tick))
  (go_keep)
  (first
   | (go_at_call 42;refine (CS.out _ _ (HV.out.ext E.out.drew)).mono ?_;rintro e wa ⟨v4,rfl,ho,he⟩;replace E:=zh (E.out.drew.tr he);have HR4:=zh ho.rv;clear ho;have r0aK:=KA.out.ext E.out;obtain ⟨r0a0,r0a1,r0a2,r0a3,r0a4,r0a5,r0a6⟩:=Bk.k7 r0aK;have r0aL:=r0aK.lt;clear r0aK;have r0bK:=KB.out.ext E.out;obtain ⟨r0b0,r0b1,r0b2,r0b3,r0b4,r0b5,r0b6⟩:=Bk.k7 r0bK;have r0bL:=r0bK.lt;clear r0bK;clear he)
   | (go_at_call 17;refine (law_sameMachine _ _ y _ (HR.out.ext E.out) HR4.out).mono ?_;rintro e wb ⟨rfl,he⟩;replace E:=zh (E.out.tr he);have r1aK:=KA.out.ext E.out;obtain ⟨r1a0,r1a1,r1a2,r1a3,r1a4,r1a5,r1a6⟩:=Bk.k7 r1aK;have r1aL:=r1aK.lt;clear r1aK;have r1bK:=KB.out.ext E.out;obtain ⟨r1b0,r1b1,r1b2,r1b3,r1b4,r1b5,r1b6⟩:=Bk.k7 r1bK;have r1bL:=r1bK.lt;clear r1bK;clear he;clear r0a0 r0a1 r0a2 r0a3 r0a4 r0a5 r0a6 r0b0 r0b1 r0b2 r0b3 r0b4 r0b5 r0b6 r0aL r0bL))
 clear ga0 ga1 ga2 ga3 ga4 ga5 ga6 gb0 gb1 gb2 gb3 gb4 gb5 gb6 gaL gbL
 clear CI CS
 have HF:Hid (∀ k:Nat,k < y.Cores.length→M.MV x∧y.Cores.length=x.Cores.length∧∀ c,x.Cores[k]? = some c→c.Stopped=true∨(M.frame x.Plan.Slots).count (k:Int)=0→y.Cores[k]? = some c):=zh fun k hk=>by
  by_cases hv:M.runs x n 400=true
  ·obtain ⟨hmv,⟨hg2,hg3⟩,hg4⟩:=M.runs_iff.1 hv
   have e:y=M.run x n.toNat:=by rw [← HY.out,M.runM,if_pos hv]
   have hrn:=M.RN.of (T:=n.toNat) hmv (by omega) (by omega)
   rw [← e] at hrn
   exact ⟨hmv,hrn.nc,fun c hc hr=>by rw [e];exact M.run_rests hmv hc hr _ (by omega)⟩
  ·rw [← HY.out,M.runM,if_neg hv] at hk
   exact absurd hk (Nat.not_lt_zero _)
 have hyc:y.Cores.length≤200000:=by
  by_cases h0:0 < y.Cores.length
  ·rw [(HF.out 0 h0).2.1];exact hxc
  ·omega
 clear HY
 have haK:=KB.out.ext E.out
 have ha4:=haK.cell (j:=4) rfl
 have haL:=haK.lt
 clear haK
 go_wp2
 go_loopw [6] (fun i wr => ∃ k:Nat,k≤y.Cores.length∧i = .int .i64 k∧Ext W3 wr) (fun i _=>y.Cores.length - (intOf i).toNat)
 case atStart=>exact ⟨0,Nat.zero_le _,rfl,E.out⟩
 case round =>
  obtain ⟨k,hk,rfl,er⟩:=hrel
  replace E:=zh er
  clear er ha4 haL
  by_cases hkt:k < y.Cores.length
  ·obtain ⟨hmv,hlc,hrs⟩:=HF.out k hkt
   have HRS:=zh hrs
   have hsv:M.ssv x.Plan.Slots (x.Cores.length:Int)=true:=by rw [hmv.nc];exact hmv.ssv
   have hkx:k < x.Cores.length:=by omega
   have hcn:(M.frame x.Plan.Slots).count (k:Int)≤240:=Nat.le_trans List.count_le_length ((M.SL.of hmv.ssv).fl).2
   clear hrs hlc hmv
   obtain ⟨eb1,eo1,er1,ep1,ec1,rfl,hB1,hX1,hF10,hF11,hF12,hR1,hS1,hL1,hV1⟩:=s4.out.atCore k (by omega)
   obtain ⟨eb2,eo2,er2,ep2,ec2,rfl,hB2,hX2,hF20,hF21,hF22,hR2,hS2,hL2,hV2⟩:=t4.out.atCore k hkt
   have gL1:=Nat.lt_of_lt_of_le hB1 E.out.sz
   have gF12:=(cell_ext E.out hB1).trans hF12
   obtain ⟨sb,hsb⟩:∃ s,er1.Stopped=s:=⟨_,rfl⟩
   rw [hsb] at gF12
   have HSB:=zh hsb
   clear hsb
   have iaK:=KA.out.ext E.out
   have ia2:=iaK.cell (j:=2) rfl
   have ia4:=iaK.cell (j:=4) rfl
   have iaL:=iaK.lt
   clear iaK
   have ibK:=KB.out.ext E.out
   have ib4:=ibK.cell (j:=4) rfl
   have ibL:=ibK.lt
   clear ibK
   cases sb
   ·obtain ⟨zb,hzb⟩:∃ z,((((M.frame x.Plan.Slots).count (k:Int):Nat):Int) == 0)=z:=⟨_,rfl⟩
    cases zb
    ·go_wp2_with (go_at_call 38;refine (impl_ShareOf _ x.Plan.Slots x.Cores.length k _ (s2.out.ext E.out) hsv (by omega) (by omega)).mono ?_;rintro e wz ⟨rfl,he⟩;replace E:=zh (E.out.tr he);clear he)
     go_big_quiet (fail)
     go_wp2
     exact ⟨⟨k+1,by omega,by go_num,E.out.drewN _⟩,by simp [intOf];omega⟩
    obtain rfl:er2=er1:=by have h2:=hX2.out;rw [HRS.out er1 hX1.out (.inr (by simpa using hzb))] at h2;exact (Option.some.inj h2).symm
    go_wp2_with (go_at_call 38;refine (impl_ShareOf _ x.Plan.Slots x.Cores.length k _ (s2.out.ext E.out) hsv (by omega) (by omega)).mono ?_;rintro e wz ⟨rfl,he⟩;replace E:=zh (E.out.tr he);clear he)
    clear gF12 hX1 hX2 HRS hzb
    have gL1:=Nat.lt_of_lt_of_le hB1 E.out.sz
    have gF10:=(cell_ext E.out hB1).trans hF10
    have gF11:=(cell_ext E.out hB1).trans hF11
    have gF12:=(cell_ext E.out hB1).trans hF12
    have gL2:=Nat.lt_of_lt_of_le hB2 E.out.sz
    have gF20:=(cell_ext E.out hB2).trans hF20
    have gF21:=(cell_ext E.out hB2).trans hF21
    have gF22:=(cell_ext E.out hB2).trans hF22
    have maK:=KA.out.ext E.out
    have ma4:=maK.cell (j:=4) rfl
    have maL:=maK.lt
    clear maK
    have mbK:=KB.out.ext E.out
    have mb4:=mbK.cell (j:=4) rfl
    have mbL:=mbK.lt
    clear mbK
    go_region_held3 (fun u=>u.cell? ⟨A,4,none⟩=some (.slice (some ⟨eb1,eo1,none⟩) x.Cores.length q4)∧u.cell? ⟨B,4,none⟩=some (.slice (some ⟨eb2,eo2,none⟩) y.Cores.length d4)∧u.cell? ⟨eb1,eo1+k * 3,none⟩=some (.slice ep1 er2.Cells.length ec1)∧u.cell? ⟨eb1,eo1+k * 3+1,none⟩=some (.int .i64 er2.At)∧u.cell? ⟨eb1,eo1+k * 3+2,none⟩=some (.bool er2.Stopped)∧u.cell? ⟨eb2,eo2+k * 3,none⟩=some (.slice ep2 er2.Cells.length ec2)∧u.cell? ⟨eb2,eo2+k * 3+1,none⟩=some (.int .i64 er2.At)∧u.cell? ⟨eb2,eo2+k * 3+2,none⟩=some (.bool er2.Stopped))
     (go_keep)
     ((go_at_call 20;refine (law_sameCore _ _ er2 _ (hV2.out.ext E.out.drew) (hV1.out.ext E.out.drew)).mono ?_;rintro e wa ⟨rfl,he⟩;replace E:=zh (E.out.drew.tr he);have r0aK:=KA.out.ext E.out;have r0a4:=r0aK.cell (j:=4) rfl;have r0aL:=r0aK.lt;clear r0aK;have r0bK:=KB.out.ext E.out;have r0b4:=r0bK.cell (j:=4) rfl;have r0bL:=r0bK.lt;clear r0bK;have r0x0:=(cell_ext E.out hB1).trans hF10;have r0x1:=(cell_ext E.out hB1).trans hF11;have r0x2:=(cell_ext E.out hB1).trans hF12;have r0x3:=(cell_ext E.out hB2).trans hF20;have r0x4:=(cell_ext E.out hB2).trans hF21;have r0x5:=(cell_ext E.out hB2).trans hF22;clear he))
    go_wp2
    exact ⟨⟨k+1,by omega,by go_num,E.out⟩,by simp [intOf];omega⟩
   obtain rfl:er2=er1:=by have h2:=hX2.out;rw [HRS.out er1 hX1.out (.inl HSB.out)] at h2;exact (Option.some.inj h2).symm
   go_upto_region 11 with (fail)
   clear gF12 hX1 hX2 HRS
   have gL1:=Nat.lt_of_lt_of_le hB1 E.out.sz
   have gF10:=(cell_ext E.out hB1).trans hF10
   have gF11:=(cell_ext E.out hB1).trans hF11
   have gF12:=(cell_ext E.out hB1).trans hF12
   have gL2:=Nat.lt_of_lt_of_le hB2 E.out.sz
   have gF20:=(cell_ext E.out hB2).trans hF20
   have gF21:=(cell_ext E.out hB2).trans hF21
   have gF22:=(cell_ext E.out hB2).trans hF22
   have maK:=KA.out.ext E.out
   have ma4:=maK.cell (j:=4) rfl
   have maL:=maK.lt
   clear maK
   have mbK:=KB.out.ext E.out
   have mb4:=mbK.cell (j:=4) rfl
   have mbL:=mbK.lt
   clear mbK
   go_region_held3 (fun u=>u.cell? ⟨A,4,none⟩=some (.slice (some ⟨eb1,eo1,none⟩) x.Cores.length q4)∧u.cell? ⟨B,4,none⟩=some (.slice (some ⟨eb2,eo2,none⟩) y.Cores.length d4)∧u.cell? ⟨eb1,eo1+k * 3,none⟩=some (.slice ep1 er2.Cells.length ec1)∧u.cell? ⟨eb1,eo1+k * 3+1,none⟩=some (.int .i64 er2.At)∧u.cell? ⟨eb1,eo1+k * 3+2,none⟩=some (.bool er2.Stopped)∧u.cell? ⟨eb2,eo2+k * 3,none⟩=some (.slice ep2 er2.Cells.length ec2)∧u.cell? ⟨eb2,eo2+k * 3+1,none⟩=some (.int .i64 er2.At)∧u.cell? ⟨eb2,eo2+k * 3+2,none⟩=some (.bool er2.Stopped))
    (go_keep)
    ((go_at_call 20;refine (law_sameCore _ _ er2 _ (hV2.out.ext E.out.drew) (hV1.out.ext E.out.drew)).mono ?_;rintro e wa ⟨rfl,he⟩;replace E:=zh (E.out.drew.tr he);have r0aK:=KA.out.ext E.out;have r0a4:=r0aK.cell (j:=4) rfl;have r0aL:=r0aK.lt;clear r0aK;have r0bK:=KB.out.ext E.out;have r0b4:=r0bK.cell (j:=4) rfl;have r0bL:=r0bK.lt;clear r0bK;have r0x0:=(cell_ext E.out hB1).trans hF10;have r0x1:=(cell_ext E.out hB1).trans hF11;have r0x2:=(cell_ext E.out hB1).trans hF12;have r0x3:=(cell_ext E.out hB2).trans hF20;have r0x4:=(cell_ext E.out hB2).trans hF21;have r0x5:=(cell_ext E.out hB2).trans hF22;clear he))
   go_wp2
   exact ⟨⟨k+1,by omega,by go_num,E.out⟩,by simp [intOf];omega⟩
  obtain rfl:k=y.Cores.length:=by omega
  have jaK:=KB.out.ext E.out
  have ja4:=jaK.cell (j:=4) rfl
  have jaL:=jaK.lt
  clear jaK
  go_wp2_with (go_at_call 19;refine (law_alive _).mono ?_;rintro e w9 ⟨rfl,he⟩;replace E:=zh (E.out.tr he);clear he)
  go_ret
  exact ⟨rfl,HE.out.tr E.out⟩
set_option maxHeartbeats 1000000
def M.near (m:Machine) (n:Nat) (k:Int):Prop:=∃ K:Nat,k=K∧(M.flows m.Plan.Channels m.Cores.length n).getD K false=true
theorem M.near_lt {m:Machine} {n:Nat} {k:Int} (h:M.near m n k):k < m.Cores.length:=by
 obtain ⟨K,rfl,h⟩:=h
 have:=getD_lt h
 rw [M.flows_len] at this
 omega
theorem M.near_self {m:Machine} {n:Nat} (h:n < m.Cores.length):M.near m n n:=⟨n,rfl,M.flows_self _ h⟩
theorem M.near_closed {m:Machine} {n:Nat} (hn:n < m.Cores.length) {a b:Nat} (ha:a < m.Cores.length) (h:M.near m n b) (hd:M.dir m.Plan.Channels a b=true):M.near m n a:=by
 have hb:=M.near_lt h
 obtain ⟨K,e,h⟩:=h
 obtain rfl:b=K:=by omega
 exact ⟨a,rfl,M.flows_closed _ hn ha (by omega) h hd⟩
theorem M.near_trans {m:Machine} {n k:Nat} (hn:n < m.Cores.length) (h:M.near m n k) {j:Int} (hj:M.near m k j):M.near m n j:=by
 obtain ⟨K,e,h⟩:=h
 obtain rfl:k=K:=by omega
 obtain ⟨J,rfl,hj⟩:=hj
 exact ⟨J,rfl,M.flows_trans _ hn hj h⟩
theorem M.near_congr {a b:Machine} (hp:a.Plan=b.Plan) (hc:a.Cores.length=b.Cores.length) (n:Nat) (k:Int):M.near a n k ↔ M.near b n k:=by
 unfold M.near;rw [hp,hc]
structure M.SF (a b:Machine) (n:Nat):Prop where
 ma:M.MV a
 mb:M.MV b
 hn:n < a.Cores.length
 tick:a.Tick=b.Tick
 plan:a.Plan=b.Plan
 progs:∀ k:Nat,M.near a n k→a.Programs[k]? = b.Programs[k]?
 cores:∀ k:Nat,M.near a n k→a.Cores[k]? = b.Cores[k]?
 holds:∀ (k:Nat) (ch:Channel),a.Plan.Channels[k]? = some ch→M.near a n ch.To→a.Holds[k]? = b.Holds[k]?
noncomputable def M.sameFor (a b:Machine) (n:Int):Bool:=Bo (∃ N:Nat,n=N∧M.SF a b N)
theorem M.sameFor_iff {a b:Machine} {N:Nat}:M.sameFor a b N=true ↔ M.SF a b N:=by
 unfold M.sameFor
 rw [Bo.iff]
 constructor
 ·rintro ⟨K,e,h⟩
  obtain rfl:N=K:=by omega
  exact h
 ·exact fun h=>⟨N,rfl,h⟩
theorem M.SF.nc {a b:Machine} {n:Nat} (h:M.SF a b n):a.Cores.length=b.Cores.length:=by rw [h.ma.nc,h.mb.nc,h.plan]
theorem M.SF.near {a b:Machine} {n:Nat} (h:M.SF a b n) (k:Int):M.near b n k ↔ M.near a n k:=M.near_congr h.plan.symm h.nc.symm n k
theorem M.SF.symm {a b:Machine} {n:Nat} (h:M.SF a b n):M.SF b a n where
 ma:=h.mb
 mb:=h.ma
 hn:=by rw [← h.nc];exact h.hn
 tick:=h.tick.symm
 plan:=h.plan.symm
 progs:=fun k hk=>(h.progs k ((h.near k).1 hk)).symm
 cores:=fun k hk=>(h.cores k ((h.near k).1 hk)).symm
 holds:=fun k ch hc hk=>(h.holds k ch (by rw [h.plan];exact hc) ((h.near _).1 hk)).symm
theorem M.SF.inner {a b:Machine} {n k:Nat} (h:M.SF a b n) (hk:M.near a n k):M.SF a b k where
 ma:=h.ma
 mb:=h.mb
 hn:=by have:=M.near_lt hk;omega
 tick:=h.tick
 plan:=h.plan
 progs:=fun j hj=>h.progs j (M.near_trans h.hn hk hj)
 cores:=fun j hj=>h.cores j (M.near_trans h.hn hk hj)
 holds:=fun j ch hc hj=>h.holds j ch hc (M.near_trans h.hn hk hj)
theorem M.SF.nh {a b:Machine} {n:Nat} (h:M.SF a b n):a.Holds.length=b.Holds.length:=by rw [h.ma.nh,h.mb.nh,h.plan]
theorem M.SF.view {a b:Machine} {n:Nat} (h:M.SF a b n):M.viewN a n=M.viewN b n :=
 M.viewN_congr (h.cores n (M.near_self h.hn)) h.plan h.tick h.nh (fun k ch hc ht=>h.holds k ch hc (by rw [ht];exact M.near_self h.hn))
theorem M.SF.act {a b:Machine} {n:Nat} (h:M.SF a b n) {j:Nat} (hj:M.near a n j):M.stepAt a j=M.stepAt b j∧(M.actAt a j).1=(M.actAt b j).1∧∀ (k:Nat) (ch:Channel),a.Plan.Channels[k]? = some ch→M.near a n ch.To→(M.actAt a j).2.1[k]? = (M.actAt b j).2.1[k]?:=by
 have e0:M.stepAt a j=M.stepAt b j:=by
  unfold M.stepAt
  rw [List.getD_eq_getElem?_getD,List.getD_eq_getElem?_getD,List.getD_eq_getElem?_getD,List.getD_eq_getElem?_getD,h.cores j hj,h.progs j hj,h.plan,h.tick]
 refine ⟨e0,?_⟩
 unfold M.actAt
 rw [← e0,← h.plan]
 have hjl:j < a.Cores.length:=by have:=M.near_lt hj;omega
 -- what flows
 have hin:∀ (k:Nat) (ch:Channel),a.Plan.Channels[k]? = some ch→ch.To=j→M.near a n ch.To:=fun k ch _ e=>by rw [e];exact hj
 have hcr:∀ (k:Nat) (ch:Channel),a.Plan.Channels[k]? = some ch→ch.From=j→ch.Kind=3→M.near a n ch.To:=fun k ch hc e h3=>by
  obtain ⟨x,y,e1,e2,h1,h2⟩:=M.cv_nat h.ma.pg.set (List.mem_of_getElem? hc)
  rw [e2]
  refine M.near_closed h.hn (by rw [h.ma.nc];exact h2) hj ?_
  unfold M.dir
  rw [Bool.or_eq_true,List.any_eq_true]
  refine .inr ⟨ch,List.mem_of_getElem? hc,?_⟩
  unfold M.dc
  rw [e,e2,h3]
  simp
 have hget:∀ (k:Nat) (ch:Channel),a.Plan.Channels[k]? = some ch→M.near a n ch.To→a.Holds.getD k ⟨[]⟩=b.Holds.getD k ⟨[]⟩:=fun k ch hc hk=>by
  rw [List.getD_eq_getElem?_getD,List.getD_eq_getElem?_getD,h.holds k ch hc hk]
 have hset:∀ (k i:Nat) (ch:Channel) (x y:Hold),a.Plan.Channels[k]? = some ch→M.near a n ch.To→(i=k→x=y)→(a.Holds.set i x)[k]? = (b.Holds.set i y)[k]?:=fun k i ch x y hc hk hxy=>by
  by_cases e:i=k
  ·rw [hxy e,List.getElem?_set,List.getElem?_set,h.nh,h.holds k ch hc hk]
  ·rw [List.getElem?_set_ne e,List.getElem?_set_ne e];exact h.holds k ch hc hk
 generalize (M.stepAt a j).1=c
 generalize (M.stepAt a j).2=o
 unfold M.act
 by_cases h5:o.Op=5
 ·rw [if_pos h5,if_pos h5]
  cases hc:a.Plan.Channels[o.A.toNat]? with
  | none=>exact ⟨rfl,fun k ch hk hn=>h.holds k ch hk hn⟩
  | some ch =>
   by_cases hf:ch.From=j
   ·simp only [if_pos hf]
    refine ⟨?_,fun k c2 hk hn=>hset k _ c2 _ _ hk hn fun e=>?_⟩
    ·by_cases h3:ch.Kind=3
     ·rw [hget _ ch hc (hcr _ ch hc hf h3)]
     ·rw [M.sendC_f rfl h3 rfl rfl,M.sendC_f rfl h3 rfl rfl]
    ·subst e
     rw [hk] at hc
     obtain rfl:=Option.some.inj hc
     rw [hget _ _ hk hn]
   ·simp only [if_neg hf]
    exact ⟨trivial,fun k ch hk hn=>h.holds k ch hk hn⟩
 rw [if_neg h5,if_neg h5]
 by_cases h6:o.Op=6
 ·rw [if_pos h6,if_pos h6]
  cases hc:a.Plan.Channels[o.A.toNat]? with
  | none=>exact ⟨rfl,fun k ch hk hn=>h.holds k ch hk hn⟩
  | some ch =>
   by_cases hf:ch.To=j
   ·simp only [if_pos hf]
    rw [hget _ ch hc (hin _ ch hc hf)]
    exact ⟨rfl,fun k c2 hk hn=>hset k _ c2 _ _ hk hn fun _=>rfl⟩
   ·simp only [if_neg hf]
    exact ⟨trivial,fun k ch hk hn=>h.holds k ch hk hn⟩
 rw [if_neg h6,if_neg h6]
 exact ⟨rfl,fun k ch hk hn=>h.holds k ch hk hn⟩
theorem M.SF.far {a b:Machine} {n:Nat} (h:M.SF a b n) {m:Machine} (hm:m=a∨m=b) {j:Nat} (hjl:j < a.Cores.length) (hj:¬ M.near a n j) (k:Nat) (ch:Channel) (hc:a.Plan.Channels[k]? = some ch) (hn:M.near a n ch.To):(M.actAt m j).2.1[k]? = m.Holds[k]?:=by
 have hp:m.Plan=a.Plan:=hm.elim (fun e=>e ▸ rfl) (fun e=>e ▸ h.plan.symm)
 unfold M.actAt
 rw [hp]
 refine M.act_hold _ _ _ _ _ k ch hc (fun e=>hj ?_) (fun e=>hj ?_)
 ·obtain ⟨x,y,e1,e2,h1,h2⟩:=M.cv_nat h.ma.pg.set (List.mem_of_getElem? hc)
  rw [e2] at hn
  refine M.near_closed h.hn hjl hn ?_
  unfold M.dir
  rw [Bool.or_eq_true,List.any_eq_true]
  refine .inr ⟨ch,List.mem_of_getElem? hc,?_⟩
  unfold M.dc
  rw [e,e2]
  simp
 ·rw [← e];exact hn
theorem M.SF.tickS {a b:Machine} {n:Nat} (h:M.SF a b n) (ht:a.Tick < 100000):M.SF (M.tick a) (M.tick b) n:=by
 have hn:∀ j,M.near (M.tick a) n j ↔ M.near a n j:=M.near_congr (M.tick_plan a) (M.tick_cores a) n
 have hw:M.who a.Plan.Slots a.Tick=M.who b.Plan.Slots b.Tick:=by rw [h.plan,h.tick]
 refine { ma:=M.tick_MV h.ma ht,mb:=M.tick_MV h.mb (by rw [← h.tick];exact ht),hn:=by rw [M.tick_cores];exact h.hn,tick:=by rw [M.tick_tick,M.tick_tick,h.tick],plan:=by rw [M.tick_plan,M.tick_plan,h.plan],progs:=fun k hk=>?_,cores:=fun k hk=>?_,holds:=fun k ch hc hk=>?_ }
 ·rw [M.tick_progs,M.tick_progs];exact h.progs k ((hn _).1 hk)
 ·have hk':=(hn _).1 hk
  by_cases e:(k:Int)=M.who a.Plan.Slots a.Tick
  ·rw [M.tick_some e.symm,M.tick_some (hw ▸ e.symm)]
   show (a.Cores.set k (M.actAt a k).1)[k]? = (b.Cores.set k (M.actAt b k).1)[k]?
   have hl:k < a.Cores.length:=by have:=M.near_lt hk';omega
   rw [List.getElem?_set_self hl,List.getElem?_set_self (by rw [← h.nc];exact hl),(h.act hk').2.1]
  ·rw [M.tick_core a k e,M.tick_core b k (by rw [← hw];exact e)];exact h.cores k hk'
 ·have hk':=(hn _).1 hk
  rw [M.tick_plan] at hc
  rcases h.ma.who a.Tick with e | ⟨j,e,hj⟩
  ·rw [M.tick_none (by omega),M.tick_none (by rw [← hw];omega)];exact h.holds k ch hc hk'
  ·rw [M.tick_some e,M.tick_some (hw ▸ e)]
   show (M.actAt a j).2.1[k]? = (M.actAt b j).2.1[k]?
   by_cases hjn:M.near a n j
   ·exact (h.act hjn).2.2 k ch hc hk'
   ·rw [h.far (.inl rfl) hj hjn k ch hc hk',h.far (.inr rfl) hj hjn k ch hc hk'];exact h.holds k ch hc hk'
theorem M.SF.runS {a b:Machine} {n:Nat} (h:M.SF a b n):∀ T:Nat,a.Tick+T≤100000→M.SF (M.run a T) (M.run b T) n:=by
 intro T
 induction T with
 | zero=>intro _;exact h
 | succ T ih =>
  intro ht
  have:=ih (by omega)
  exact this.tickS (by rw [(M.run_MV h.ma T (by omega)).2.1];omega)
end Sk
