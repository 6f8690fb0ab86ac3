/- Contracts of functions of the given program. -/
import Derived.Test.YtfdeoepbnefckaaGreatZzzzoDnM
import Derived.Test.YtfdeoepbnefckaaGreatZzzzrPcs
namespace Sk
open Go Go.Proofs Go.RowKit
set_option maxHeartbeats 8000000
set_option maxRecDepth 100000
set_option linter.unusedVariables false
set_option linter.unusedSimpArgs false
theorem M.own_le{xs:List Slot}{n:Int}(h:zJ0 xs)(t:Nat):zEx xs n t<=t:=by
 induction t with
 | zero=>rw[show((0:Nat):Int)=0 from rfl,M.own_zero];exact Int.le_refl _
 | succ t ih =>
  rw[show((t+1:Nat):Int)=(t:Int)+1 by omega,M.own_succ h n (by omega)]
  split<;>omega
theorem lawMachineSolo(v:Value)(xs:List By)(w:World)(h:Rs w v xs) :
  Calls Tryz.prog 4 #[v] w fun e w'=>e = .returned (.bool true)/\Ext w w':=by
 obtain⟨a,c,rfl,hl⟩:=h.form;have H:=zh h;clear h;by_cases hx:xs.length<=1048576
 case neg =>
  have hx2:1048576 < xs.length:=by omega
  clear hx;go_enter Tryz.func4,Tryz.ntmps4;go_wp2;go_ret;exact⟨rfl,zr w⟩
 go_enter Tryz.func4,Tryz.ntmps4;go_upto_region 4 with (go_at_call 5;refine(zDv _ _ _ H.out).mono ?_;rintro e w1 ⟨v1,vl,s,ps,rfl,hv,hvl,hd,⟨hpl,hpb⟩,he⟩;obtain⟨p0,q0,p1,q1,p2,q2,rfl,s0,-,s1,-,s2,-⟩:=hv.openSetup;obtain⟨al,cl,rfl,-⟩:=hvl.form;have HV:=zh hv;have HL:=zh hvl;have HD:=zh hd;have HPB:=zh hpb;have HE:=zh he;clear hv hvl hd hpb he)
 obtain⟨A,hA⟩:∃ A,A=w1.heap.size:=⟨_,rfl⟩;refine zA2 (fun u=>Ext w1 u/\Bk u A [.slice p0 s.Parts.length q0,.slice p1 s.Channels.length q1,.slice p2 s.Slots.length q2] 27) ⟨(zr _).alloc _,by rw[hA];exact Bk.new _ _ _⟩ ?_
 rw[<- hA];rintro W1 ⟨e1,kA⟩;clear hA H;replace HV:=zh (HV.out.ext e1);replace HL:=zh (HL.out.ext e1);replace s0:=zh (s0.out.ext e1);replace s1:=zh (s1.out.ext e1);replace s2:=zh (s2.out.ext e1);replace HE:=zh (HE.out.tr e1);have KA:=zh kA;clear e1 kA;have E:=zh (zr W1);have hp6:s.Parts.length<=6:=HD.out.1;have hc9:s.Channels.length<=9:=HD.out.2.2.1;obtain⟨y,hy⟩:∃ y,zBp s ps=y:=⟨_,rfl⟩;have CI:=zh (zFm _ _ s ps _ HV.out HL.out);have CS:=zh (fun(u:World) (h:Rv u (.agg #[.slice p0 s.Parts.length q0,.slice p1 s.Channels.length q1,.slice p2 s.Slots.length q2]) s) (hl:Rs u (.slice al ps.length cl) ps)=>zFw _ _ s ps u h hl)
 rw[hy] at CI CS;have HY:=zh hy;clear hy;obtain⟨fa0,fa1,fa2,faL⟩:=Bk.j3 (KA.out.ext E.out);go_upto_region 5 with (go_at_call 6;refine CI.out.mono ?_;rintro e w2 ⟨v2,rfl,ho,he⟩;obtain⟨b0,d0,b1,d1,b2,d2,b3,d3,b4,d4,b5,d5,rfl,y6,t0,-,t1,-,t2,-,t3,-,t4,-,t5,-⟩:=ho.rv.openMachine;have HR:=zh ho.rv;replace E:=zh (E.out.tr he);clear ho he)
 obtain⟨B,hB⟩:∃ B,B=w2.heap.size:=⟨_,rfl⟩;refine zA2 (fun u=>Ext w2 u/\Bk u B [.slice b0 y.Plan.Parts.length d0,.slice b1 y.Plan.Channels.length d1,.slice b2 y.Plan.Slots.length d2,.slice b3 y.Programs.length d3,.slice b4 y.Cores.length d4,.slice b5 y.Holds.length d5,.int .i64 y.Tick] 34) ⟨(zr _).alloc _,by rw[hB];exact Bk.new _ _ _⟩ ?_
 rw[<- hB];rintro W3 ⟨eb,kb⟩;clear hB;have EB:=zh (E.out.tr eb);replace HV:=zh (HV.out.ext EB.out);replace HL:=zh (HL.out.ext EB.out);replace KA:=zh (KA.out.ext EB.out);replace s0:=zh (s0.out.ext EB.out);replace s1:=zh (s1.out.ext EB.out);replace s2:=zh (s2.out.ext EB.out);replace HR:=zh (HR.out.ext eb);replace t0:=zh (t0.out.ext eb);replace t1:=zh (t1.out.ext eb);replace t2:=zh (t2.out.ext eb);replace t3:=zh (t3.out.ext eb);replace t4:=zh (t4.out.ext eb);replace t5:=zh (t5.out.ext eb);replace HE:=zh (HE.out.tr EB.out);have KB:=zh kb;clear eb kb EB E;have E:=zh (zr W3);clear fa0 fa1 fa2 faL;obtain⟨ga0,ga1,ga2,gaL⟩:=Bk.j3 (KA.out.ext E.out);obtain⟨gb0,gb1,gb2,gb3,gb4,gb5,gb6,gbL⟩:=Bk.j7 (KB.out.ext E.out)
 go_region_held3 (fun u=>u.cell? ⟨A,0,none⟩=some (.slice p0 s.Parts.length q0)/\u.cell? ⟨A,1,none⟩=some (.slice p1 s.Channels.length q1)/\u.cell? ⟨A,2,none⟩=some (.slice p2 s.Slots.length q2)/\u.cell? ⟨B,0,none⟩=some (.slice b0 y.Plan.Parts.length d0)/\u.cell? ⟨B,1,none⟩=some (.slice b1 y.Plan.Channels.length d1)/\u.cell? ⟨B,2,none⟩=some (.slice b2 y.Plan.Slots.length d2)/\u.cell? ⟨B,3,none⟩=some (.slice b3 y.Programs.length d3)/\u.cell? ⟨B,4,none⟩=some (.slice b4 y.Cores.length d4)/\u.cell? ⟨B,5,none⟩=some (.slice b5 y.Holds.length d5)/\u.cell? ⟨B,6,none⟩=some (.int .i64 y.Tick))
  (go_keep)
  (first
   | (go_at_call 8;refine(CS.out _ (HV.out.ext E.out.drew) (HL.out.ext E.out.drew)).mono ?_;rintro e wa ⟨v4,rfl,ho,he⟩;replace E:=zh (E.out.drew.tr he);have HR4:=zh ho.rv;clear ho;obtain⟨r0a0,r0a1,r0a2,r0aL⟩:=Bk.j3 (KA.out.ext E.out);obtain⟨r0b0,r0b1,r0b2,r0b3,r0b4,r0b5,r0b6,r0bL⟩:=Bk.j7 (KB.out.ext E.out);clear he)
   | (go_at_call 7;refine(law_sameMachine _ _ y _ (HR.out.ext E.out) HR4.out).mono ?_;rintro e wb ⟨rfl,he⟩;replace E:=zh (E.out.tr he);obtain⟨r1a0,r1a1,r1a2,r1aL⟩:=Bk.j3 (KA.out.ext E.out);obtain⟨r1b0,r1b1,r1b2,r1b3,r1b4,r1b5,r1b6,r1bL⟩:=Bk.j7 (KB.out.ext E.out);clear he;clear r0a0 r0a1 r0a2 r0b0 r0b1 r0b2 r0b3 r0b4 r0b5 r0b6 r0aL r0bL))
 clear ga0 ga1 ga2 gb0 gb1 gb2 gb3 gb4 gb5 gb6 gaL gbL;clear CI CS;obtain⟨z,hz⟩:∃ z,zJ6 y 60=z:=⟨_,rfl⟩;have CZ:=zh (fun(vv:Value) (u:World) (h:Rv u vv y)=>zJm vv y 60 u h)
 rw[hz] at CZ;have HZ0:=zh hz;clear hz;obtain⟨ha0,ha1,ha2,ha3,ha4,ha5,ha6,haL⟩:=Bk.j7 (KB.out.ext E.out);go_upto_region 8 with (go_at_call 13;refine(CZ.out _ _ (HR.out.ext E.out)).mono ?_;rintro e w4 ⟨v4,rfl,ho,he⟩;obtain⟨g0,h0,g1,h1,g2,h2,g3,h3,g4,h4,g5,h5,rfl,z6,u0,-,u1,-,u2,-,u3,-,u4,-,u5,-⟩:=ho.rv.openMachine;have HZR:=zh ho.rv;replace E:=zh (E.out.tr he);clear ho he)
 obtain⟨C,hC⟩:∃ B,B=w4.heap.size:=⟨_,rfl⟩;refine zA2 (fun u=>Ext w4 u/\Bk u C [.slice g0 z.Plan.Parts.length h0,.slice g1 z.Plan.Channels.length h1,.slice g2 z.Plan.Slots.length h2,.slice g3 z.Programs.length h3,.slice g4 z.Cores.length h4,.slice g5 z.Holds.length h5,.int .i64 z.Tick] 34) ⟨(zr _).alloc _,by rw[hC];exact Bk.new _ _ _⟩ ?_
 rw[<- hC];rintro W5 ⟨eb,kb⟩;clear hC;have EB:=zh (E.out.tr eb);replace HV:=zh (HV.out.ext EB.out);replace HL:=zh (HL.out.ext EB.out);replace KA:=zh (KA.out.ext EB.out);replace s0:=zh (s0.out.ext EB.out);replace s1:=zh (s1.out.ext EB.out);replace s2:=zh (s2.out.ext EB.out);replace KB:=zh (KB.out.ext EB.out);replace HR:=zh (HR.out.ext EB.out);replace t0:=zh (t0.out.ext EB.out);replace t1:=zh (t1.out.ext EB.out);replace t2:=zh (t2.out.ext EB.out);replace t3:=zh (t3.out.ext EB.out);replace t4:=zh (t4.out.ext EB.out);replace t5:=zh (t5.out.ext EB.out);replace HZR:=zh (HZR.out.ext eb);replace u0:=zh (u0.out.ext eb);replace u1:=zh (u1.out.ext eb);replace u2:=zh (u2.out.ext eb);replace u3:=zh (u3.out.ext eb);replace u4:=zh (u4.out.ext eb);replace u5:=zh (u5.out.ext eb);replace HE:=zh (HE.out.tr EB.out);have KC:=zh kb;clear eb kb EB E;have E:=zh (zr W5);clear CZ ha0 ha1 ha2 ha3 ha4 ha5 ha6 haL;by_cases hy0:0 < y.Plan.Slots.length
 case neg =>
  have hb0:((y.Plan.Slots.length:Int) == 0)=true:=by rw[show y.Plan.Slots.length=0 by omega];rfl
  have iaK:=KB.out.ext E.out;have ia2:=iaK.cell (j:=2) rfl;have iaL:=iaK.lt;clear iaK;go_wp2_with (go_at_call 9;refine(law_alive _).mono ?_;rintro e w9 ⟨rfl,he⟩;replace E:=zh (E.out.tr he);clear he)
  go_ret;exact⟨rfl,HE.out.tr E.out⟩
 have hb0:((y.Plan.Slots.length:Int) == 0)=false:=by rw[beq_eq_false_iff_ne];omega
 have HMK:Hid (M.PG s ps/\y=zAl s ps):=zh (by
  cases hp:zGz s ps with
  | false=>rw[<- HY.out,zBd hp] at hy0;exact absurd hy0 (Nat.lt_irrefl _)
  | true=>exact⟨zC4.1 hp,by rw[<- HY.out,zCa hp]⟩)
 have HMV:Hid (zDx y):=zh (by rw[HMK.out.2];exact zFc HMK.out.1)
 have hyt:y.Tick=0:=by rw[HMK.out.2];rfl
 have HZ1:Hid (z=zEy y 60):=zh (by
  rw[<- HZ0.out];exact M.runM_t (t:=60) (zIk.2 ⟨HMV.out,⟨by omega,by omega⟩,by rw[hyt];omega⟩))
 have HSO:Hid (∀ (k:Nat) (c cz:Core) (p:List Order),y.Cores[k]? = some c->z.Cores[k]? = some cz->ps[k]? = some p->(∀ o∈p,o.Op≠5/\o.Op≠6)->cz=M.stepN c p (zEx s.Slots k 60).toNat):=zh (fun k c cz p hc hcz hp hq=>by
  have h1:=M.run_solo HMV.out hyt hc (by rw[HMK.out.2];exact hp) hq 60 (by omega)
  rw[<- HZ1.out,hcz,show y.Plan.Slots=s.Slots by rw[HMK.out.2];rfl] at h1
  exact Option.some.inj h1)
 have HFI:Hid (∀ (k:Nat) (c:Core) (p:List Order) (q:Part),y.Cores[k]? = some c->ps[k]? = some p->s.Parts[k]? = some q->zAr c p.length q.Cells=true/\zBg p q.Cells=true):=zh (fun k c p q hc hp hq=>by
  have h1:=HMV.out;exact⟨h1.fits k c p q hc (by rw[HMK.out.2];exact hp) (by rw[HMK.out.2];exact hq),HMK.out.1.prv k p q hp hq⟩)
 have hzc:z.Cores.length=y.Cores.length:=by
  rw[HZ1.out];exact(M.run_MV HMV.out 60 (by rw[hyt];omega)).2.2.2.2.1
 have hyc:y.Cores.length=s.Parts.length:=by rw[HMK.out.2];simp[zAl]
 have hpl:ps.length=s.Parts.length:=HMK.out.1.np;have hssv:zCg s.Slots s.Parts.length=true:=by
  have h1:=HMV.out.ssv;rw[HMK.out.2] at h1;exact h1
 have hzci:((z.Cores.length:Int) != (y.Cores.length:Int))=false:=by rw[hzc,bne_self_eq_false]
 have hzc':y.Cores.length<=z.Cores.length:=by omega
 have hyc':y.Cores.length<=s.Parts.length:=by omega
 have hpl':s.Parts.length<=ps.length:=by omega
 have HEQ:=zh (And.intro hzc (And.intro hyc hpl));clear HY HMK HZ1 HZ0 hzc hyc hpl hyt;have iaK:=KB.out.ext E.out;have ia2:=iaK.cell (j:=2) rfl;have ia4:=iaK.cell (j:=4) rfl;have iaL:=iaK.lt;clear iaK;have ibK:=KC.out.ext E.out;have ib4:=ibK.cell (j:=4) rfl;have ibL:=ibK.lt;clear ibK;go_wp2;go_loopw [7] (fun i wr => ∃ k:Nat,k<=y.Cores.length/\i = .int .i64 k/\Ext W5 wr) (fun i _=>y.Cores.length - (RowKit.intOf i).toNat)
 case atStart=>exact⟨0,Nat.zero_le _,rfl,E.out⟩
 case round =>
  obtain⟨k,hk,rfl,er⟩:=hrel;replace E:=zh er;clear er ia2 ia4 ib4 iaL ibL;by_cases hkt:k < y.Cores.length
  ·have hk2:k < s.Parts.length:=by omega
   have hk3:k < ps.length:=by omega
   have hk4:k < z.Cores.length:=by omega
   have hki:(k:Int) < (y.Cores.length:Int):=by omega
   have hk2i:(k:Int) < (s.Parts.length:Int):=by omega
   have hk3i:(k:Int) < (ps.length:Int):=by omega
   have hk4i:(k:Int) < (z.Cores.length:Int):=by omega
   obtain⟨eb1,eo1,er1,ep1,ec1,rfl,hB1,hX1,hF10,hF11,hR1,hS1,hL1,hV1⟩:=s0.out.atPart k hk2;have gL1:=zl hB1 E.out.sz;have gF10:=(zA0 E.out hB1).trans hF10;have gF11:=(zA0 E.out hB1).trans hF11;obtain⟨eb3,eo3,er3,ep3,ec3,rfl,hB3,hX3,hF30,hS3,hL3⟩:=HL.out.atList k hk3;have gL3:=zl hB3 E.out.sz;have gF30:=(zA0 E.out hB3).trans hF30;obtain⟨eb2,eo2,er2,ep2,ec2,rfl,hB2,hX2,hF20,hF21,hF22,hR2,hS2,hL2,hV2⟩:=t4.out.atCore k hkt;have gL2:=zl hB2 E.out.sz;have gF20:=(zA0 E.out hB2).trans hF20;have gF21:=(zA0 E.out hB2).trans hF21;have gF22:=(zA0 E.out hB2).trans hF22;obtain⟨eb4,eo4,er4,ep4,ec4,rfl,hB4,hX4,hF40,hF41,hF42,hR4,hS4,hL4,hV4⟩:=u4.out.atCore k hk4;have gL4:=zl hB4 E.out.sz;have gF40:=(zA0 E.out hB4).trans hF40;have gF41:=(zA0 E.out hB4).trans hF41;have gF42:=(zA0 E.out hB4).trans hF42;obtain⟨hfit,hprv⟩:=HFI.out k er2 er3 er1 hX2.out hX3.out hX1.out;obtain⟨l1,hl1⟩:∃ l,M.pch er3 er1.Cells true=l:=⟨_,rfl⟩;obtain⟨l2,hl2⟩:∃ l,M.pch er3 er1.Cells false=l:=⟨_,rfl⟩;have hb1:l1.length<=8:=by rw[<- hl1,M.pch_eq];exact M.pcs_len _ _ _
   have hb2:l2.length<=8:=by rw[<- hl2,M.pch_eq];exact M.pcs_len _ _ _
   have CP1:=zh (fun(u:World) (h:Rs u (.slice ep3 er3.length ec3) er3)=>impl_ProgramChannels _ er3 er1.Cells true u h)
   have CP2:=zh (fun(u:World) (h:Rs u (.slice ep3 er3.length ec3) er3)=>impl_ProgramChannels _ er3 er1.Cells false u h)
   rw[hl1] at CP1;rw[hl2] at CP2;replace hl1:=zh hl1;replace hl2:=zh hl2;have jaK:=KA.out.ext E.out;have ja0:=jaK.cell (j:=0) rfl;have jaL:=jaK.lt;clear jaK;have jbK:=KB.out.ext E.out;have jb4:=jbK.cell (j:=4) rfl;have jbL:=jbK.lt;clear jbK;by_cases hl0:l1.length+l2.length=0
   case neg =>
    have hg0:decide ((0:Int) < (l1.length:Int)+(l2.length:Int))=true:=decide_eq_true (by omega)
    have hgw:decide ((0:Int) < IntKind.i64.wrap ((l1.length:Int)+(l2.length:Int)))=true:=decide_eq_true (by rw[zGk (by omega) (by omega)];omega)
    go_upto_region 14 with (fail)
    go_region_held3 (fun u=>u.cell? ⟨A,0,none⟩=some (.slice (some ⟨eb1,eo1,none⟩) s.Parts.length q0)/\u.cell? ⟨eb3,eo3+k,none⟩=some (.slice ep3 er3.length ec3))
    (go_keep)
    (first
     | (go_at_call 14;refine(CP1.out _ (hS3.out.ext E.out.drew)).mono ?_;rintro e wa ⟨v5,rfl,ho,he⟩;replace E:=zh (E.out.drew.tr he);obtain⟨a5,c5,rfl,-⟩:=ho.rs.form;clear ho;clear CP1;have r0aK:=KA.out.ext E.out;have r0a0:=r0aK.cell (j:=0) rfl;have r0aL:=r0aK.lt;clear r0aK;have r0x0:=(zA0 E.out hB3).trans hF30;clear he)
     | (go_at_call 14;refine(CP2.out _ (hS3.out.ext E.out)).mono ?_;rintro e wb ⟨v6,rfl,ho,he⟩;replace E:=zh (E.out.tr he);obtain⟨a6,c6,rfl,-⟩:=ho.rs.form;clear ho;clear CP2;have r1aK:=KA.out.ext E.out;have r1a0:=r1aK.cell (j:=0) rfl;have r1aL:=r1aK.lt;clear r1aK;have r1x0:=(zA0 E.out hB3).trans hF30;clear he;clear r0a0 r0aL r0x0))
    go_wp2;go_roundw
    case rel=>exact⟨k+1,by omega,by go_num,E.out⟩
    case measure=>simp[RowKit.intOf];omega
   have hg0:decide ((0:Int) < (l1.length:Int)+(l2.length:Int))=false:=decide_eq_false (by omega)
   have hgw:decide ((0:Int) < IntKind.i64.wrap ((l1.length:Int)+(l2.length:Int)))=false:=decide_eq_false (by rw[zGk (by omega) (by omega)];omega)
   have hq0:=M.pch_none hprv (by rw[hl1.out];exact List.length_eq_zero_iff.1 (by omega)) (by rw[hl2.out];exact List.length_eq_zero_iff.1 (by omega))
   have HZC0:=HSO.out k er2 er4 er3 hX2.out hX4.out hX3.out hq0;obtain⟨TT,hTe⟩:∃ TT:Nat,(zEx s.Slots k 60).toNat=TT:=⟨_,rfl⟩;rw[hTe] at HZC0;have hob:=zI9 (xs:=s.Slots) (n:=(k:Int)) (t:=60) (by omega)
   have hown:zEx s.Slots k 60=(TT:Int):=by omega
   have hTT:TT<=200:=by
    have h1:=M.own_le (xs:=s.Slots) (n:=(k:Int)) (zJ0.of hssv) 60;rw[show((60:Nat):Int)=60 from rfl,hown] at h1
    omega
   have HZC:=zh HZC0;have CO:=zh (fun(u:World) (e:Ext W5 u)=>impl_OwnTicks _ s.Slots s.Parts.length k 60 u (s2.out.ext e) hssv (by omega) (by omega) (by omega) (by omega))
   rw[hown] at CO;clear hTe hob hown HZC0 hq0;go_upto_region 14 with (fail)
   go_region_held3 (fun u=>u.cell? ⟨A,0,none⟩=some (.slice (some ⟨eb1,eo1,none⟩) s.Parts.length q0)/\u.cell? ⟨eb3,eo3+k,none⟩=some (.slice ep3 er3.length ec3))
    (go_keep)
    (first
     | (go_at_call 14;refine(CP1.out _ (hS3.out.ext E.out.drew)).mono ?_;rintro e wa ⟨v5,rfl,ho,he⟩;replace E:=zh (E.out.drew.tr he);obtain⟨a5,c5,rfl,-⟩:=ho.rs.form;clear ho;clear CP1;have r0aK:=KA.out.ext E.out;have r0a0:=r0aK.cell (j:=0) rfl;have r0aL:=r0aK.lt;clear r0aK;have r0x0:=(zA0 E.out hB3).trans hF30;clear he)
     | (go_at_call 14;refine(CP2.out _ (hS3.out.ext E.out)).mono ?_;rintro e wb ⟨v6,rfl,ho,he⟩;replace E:=zh (E.out.tr he);obtain⟨a6,c6,rfl,-⟩:=ho.rs.form;clear ho;clear CP2;have r1aK:=KA.out.ext E.out;have r1a0:=r1aK.cell (j:=0) rfl;have r1aL:=r1aK.lt;clear r1aK;have r1x0:=(zA0 E.out hB3).trans hF30;clear he;clear r0a0 r0aL r0x0))
   clear ja0 jb4 jaL jbL;have laK:=KA.out.ext E.out;have la0:=laK.cell (j:=0) rfl;have la2:=laK.cell (j:=2) rfl;have laL:=laK.lt;clear laK;have lbK:=KB.out.ext E.out;have lb4:=lbK.cell (j:=4) rfl;have lbL:=lbK.lt;clear lbK;have lcK:=KC.out.ext E.out;have lc4:=lcK.cell (j:=4) rfl;have lcL:=lcK.lt;clear lcK;have mF30:=(zA0 E.out hB3).trans hF30;have mF20:=(zA0 E.out hB2).trans hF20;have mF21:=(zA0 E.out hB2).trans hF21;have mF22:=(zA0 E.out hB2).trans hF22;have mF40:=(zA0 E.out hB4).trans hF40;have mF41:=(zA0 E.out hB4).trans hF41;have mF42:=(zA0 E.out hB4).trans hF42;go_wp2
   go_region_held3 (fun u=>u.cell? ⟨A,0,none⟩=some (.slice (some ⟨eb1,eo1,none⟩) s.Parts.length q0)/\u.cell? ⟨A,2,none⟩=some (.slice p2 s.Slots.length q2)/\u.cell? ⟨B,4,none⟩=some (.slice (some ⟨eb2,eo2,none⟩) y.Cores.length d4)/\u.cell? ⟨C,4,none⟩=some (.slice (some ⟨eb4,eo4,none⟩) z.Cores.length h4)/\u.cell? ⟨eb3,eo3+k,none⟩=some (.slice ep3 er3.length ec3)/\u.cell? ⟨eb2,eo2+k*3,none⟩=some (.slice ep2 er2.Cells.length ec2)/\u.cell? ⟨eb2,eo2+k*3+1,none⟩=some (.int .i64 er2.At)/\u.cell? ⟨eb2,eo2+k*3+2,none⟩=some (.bool er2.Stopped)/\u.cell? ⟨eb4,eo4+k*3,none⟩=some (.slice ep4 er4.Cells.length ec4)/\u.cell? ⟨eb4,eo4+k*3+1,none⟩=some (.int .i64 er4.At)/\u.cell? ⟨eb4,eo4+k*3+2,none⟩=some (.bool er4.Stopped))
    (go_keep)
    (first
     | (go_at_call 16;refine(CO.out _ E.out.drew).mono ?_;rintro e wa ⟨rfl,he⟩;replace E:=zh (E.out.drew.tr he);have r0aK:=KA.out.ext E.out;have r0a0:=r0aK.cell (j:=0) rfl;have r0a2:=r0aK.cell (j:=2) rfl;have r0aL:=r0aK.lt;clear r0aK;have r0bK:=KB.out.ext E.out;have r0b4:=r0bK.cell (j:=4) rfl;have r0bL:=r0bK.lt;clear r0bK;have r0cK:=KC.out.ext E.out;have r0c4:=r0cK.cell (j:=4) rfl;have r0cL:=r0cK.lt;clear r0cK;have r0x0:=(zA0 E.out hB3).trans hF30;have r0x1:=(zA0 E.out hB2).trans hF20;have r0x2:=(zA0 E.out hB2).trans hF21;have r0x3:=(zA0 E.out hB2).trans hF22;have r0x4:=(zA0 E.out hB4).trans hF40;have r0x5:=(zA0 E.out hB4).trans hF41;have r0x6:=(zA0 E.out hB4).trans hF42;clear he)
     | (go_at_call 15;refine(impl_RunCore _ _ er2 er3 er1.Cells TT _ (hV2.out.ext E.out) (hS3.out.ext E.out) hfit hprv hTT).mono ?_;rintro e wb ⟨v8,rfl,ho,he⟩;replace E:=zh (E.out.tr he);have HO8:=zh ho;rw[<- HZC.out] at HO8;clear ho;have r1aK:=KA.out.ext E.out;have r1a0:=r1aK.cell (j:=0) rfl;have r1a2:=r1aK.cell (j:=2) rfl;have r1aL:=r1aK.lt;clear r1aK;have r1bK:=KB.out.ext E.out;have r1b4:=r1bK.cell (j:=4) rfl;have r1bL:=r1bK.lt;clear r1bK;have r1cK:=KC.out.ext E.out;have r1c4:=r1cK.cell (j:=4) rfl;have r1cL:=r1cK.lt;clear r1cK;have r1x0:=(zA0 E.out hB3).trans hF30;have r1x1:=(zA0 E.out hB2).trans hF20;have r1x2:=(zA0 E.out hB2).trans hF21;have r1x3:=(zA0 E.out hB2).trans hF22;have r1x4:=(zA0 E.out hB4).trans hF40;have r1x5:=(zA0 E.out hB4).trans hF41;have r1x6:=(zA0 E.out hB4).trans hF42;clear he;clear r0a0 r0a2 r0b4 r0c4 r0aL r0bL r0cL r0x0 r0x1 r0x2 r0x3 r0x4 r0x5 r0x6)
     | (go_at_call 10;refine(law_sameCore _ _ er4 _ (hV4.out.ext E.out) HO8.out).mono ?_;rintro e wc ⟨rfl,he⟩;replace E:=zh (E.out.tr he);have r2aK:=KA.out.ext E.out;have r2a0:=r2aK.cell (j:=0) rfl;have r2a2:=r2aK.cell (j:=2) rfl;have r2aL:=r2aK.lt;clear r2aK;have r2bK:=KB.out.ext E.out;have r2b4:=r2bK.cell (j:=4) rfl;have r2bL:=r2bK.lt;clear r2bK;have r2cK:=KC.out.ext E.out;have r2c4:=r2cK.cell (j:=4) rfl;have r2cL:=r2cK.lt;clear r2cK;have r2x0:=(zA0 E.out hB3).trans hF30;have r2x1:=(zA0 E.out hB2).trans hF20;have r2x2:=(zA0 E.out hB2).trans hF21;have r2x3:=(zA0 E.out hB2).trans hF22;have r2x4:=(zA0 E.out hB4).trans hF40;have r2x5:=(zA0 E.out hB4).trans hF41;have r2x6:=(zA0 E.out hB4).trans hF42;clear he;clear r1a0 r1a2 r1b4 r1c4 r1aL r1bL r1cL r1x0 r1x1 r1x2 r1x3 r1x4 r1x5 r1x6))
   go_wp2;exact⟨⟨k+1,by omega,by go_num,E.out⟩,by simp[RowKit.intOf];omega⟩
  obtain rfl:k=y.Cores.length:=by omega
  have naK:=KB.out.ext E.out;have na4:=naK.cell (j:=4) rfl;have naL:=naK.lt;clear naK;go_wp2;go_ret;exact⟨rfl,HE.out.tr E.out⟩
end Sk
