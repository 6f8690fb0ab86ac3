/- Contracts of functions of the given program. -/
import Derived.Test.YtoiekmaenlegcaaGreatZzzwWlM
namespace Sk
open Go Go.Proofs Go.RowKit
set_option maxHeartbeats 16000000
set_option maxRecDepth 100000
set_option linter.unusedVariables false
set_option linter.unusedSimpArgs false
theorem zKr(v:Value)(xs:List By)(w:World)(h:Rs w v xs) :
  Calls Tryz.prog 3 #[v] w fun e w'=>e = .returned (.bool true)/\Ext w w':=by
 obtain⟨a,c,rfl,hl⟩:=h.form;have H:=zh h;clear h;by_cases hx:xs.length<=1048576
 case neg =>
  have hx2:1048576 < xs.length:=by omega
  clear hx;go_enter Tryz.func3,Tryz.ntmps3;go_wp2;go_ret;exact⟨rfl,zr w⟩
 go_enter Tryz.func3,Tryz.ntmps3;go_upto_region 4 with (go_at_call 6;refine(zGa _ _ _ H.out).mono ?_;rintro e w1 ⟨v1,x,vt,t,n,f,rfl,hv,htt,ht,hn,hf,he⟩;obtain⟨p0,q0,p1,q1,p2,q2,p3,q3,p4,q4,p5,q5,p7,q7,rfl,-⟩:=hv.openWc;have HV:=zh hv.rv;have HTT:=zh htt;have HE:=zh he;have HT:=zh ht;obtain⟨ta,tc,rfl,htl⟩:=ht.form;clear ht;clear hv htt he)
 obtain⟨A,hA⟩:∃ A,A=w1.heap.size:=⟨_,rfl⟩;refine zA1 (fun u=>Ext w1 u/\Bk u A [.slice p0 x.Box.Plan.Parts.length q0,.slice p1 x.Box.Plan.Channels.length q1,.slice p2 x.Box.Plan.Slots.length q2,.slice p3 x.Box.Programs.length q3,.slice p4 x.Box.Cores.length q4,.slice p5 x.Box.Holds.length q5,.int .i64 x.Box.Tick,.slice p7 x.States.length q7] 35) ⟨(zr _).alloc _,by rw[hA];exact Bk.new _ _ _⟩ ?_
 rw[<- hA];rintro W1 ⟨e1,kA⟩;clear hA H;replace HV:=zh (HV.out.ext e1);replace HT:=zh (HT.out.ext e1);replace HE:=zh (HE.out.tr e1);have KA:=zh kA;clear e1 kA;have E:=zh (zr W1);obtain⟨_,_,_,_,_,_,_,_,_,_,_,_,_,_,ee,s6,s0,-,s1,-,s2,-,s3,-,s4,-,s5,-,s7,-⟩:=HV.out.openWatch;have e9:=congrArg (fun v=>match v with | .agg a=>a.toList|_ => []) ee
 simp only[List.cons.injEq,Value.slice.injEq,and_true,true_and] at e9;obtain⟨⟨rfl,rfl⟩,⟨rfl,rfl⟩,⟨rfl,rfl⟩,⟨rfl,rfl⟩,⟨rfl,rfl⟩,⟨rfl,rfl⟩,⟨rfl,rfl⟩⟩:=e9;clear ee;obtain⟨hxs,hxc,hxh⟩:=zEb x HTT.out;obtain⟨y,hy⟩:∃ y,(zAu x t n f).1=y:=⟨_,rfl⟩;obtain⟨act,hact⟩:∃ act,(zAu x t n f).2=act:=⟨_,rfl⟩;have CI:=zh (fun(v vt:Value) (u:World) (h:Rv u v x) (k:Rs u vt t)=>zJ7 v vt x t n f u h k)
 have CS:=zh (fun(v vt:Value) (u:World) (h:Rv u v x) (k:Rs u vt t)=>zF6 v vt x t n f u h k)
 have hcs:(y=⟨zI2,[]⟩/\act = -1)\/∃ N:Nat,n=N/\M.WFT x y N act:=by
  rw[<- hy,<- hact];rcases zGf x t n f with e|e
  ·rw[e];exact .inl ⟨rfl,rfl⟩
  ·exact .inr e
 rw[hy,hact] at CI CS;clear hy hact;have hnr:(act != act)=false:=by simp
 obtain⟨fa0,fa1,fa2,fa3,fa4,fa5,fa6,fa7,faL⟩:=Bk.j8 (KA.out.ext E.out);go_upto_region 5 with (go_at_call 7;refine(CI.out _ _ _ HV.out HT.out).mono ?_;rintro e w2 ⟨v2,rfl,ho,he⟩;obtain⟨b0,d0,b1,d1,b2,d2,b3,d3,b4,d4,b5,d5,b7,d7,rfl,y6,t0,-,t1,-,t2,-,t3,-,t4,-,t5,-,t7,-⟩:=ho.rv.openWatch;have HR:=zh ho.rv;replace E:=zh (E.out.tr he);clear ho he CI)
 obtain⟨B,hB⟩:∃ B,B=w2.heap.size:=⟨_,rfl⟩;refine zA1 (fun u=>Ext w2 u/\Bk u B [.slice b0 y.Box.Plan.Parts.length d0,.slice b1 y.Box.Plan.Channels.length d1,.slice b2 y.Box.Plan.Slots.length d2,.slice b3 y.Box.Programs.length d3,.slice b4 y.Box.Cores.length d4,.slice b5 y.Box.Holds.length d5,.int .i64 y.Box.Tick,.slice b7 y.States.length d7] 35) ⟨(zr _).alloc _,by rw[hB];exact Bk.new _ _ _⟩ ?_
 rw[<- hB];rintro W3 ⟨eb,kb⟩;clear hB;have EB:=zh (E.out.tr eb);replace HV:=zh (HV.out.ext EB.out);replace HT:=zh (HT.out.ext EB.out);replace KA:=zh (KA.out.ext EB.out);replace s0:=zh (s0.out.ext EB.out);replace s1:=zh (s1.out.ext EB.out);replace s2:=zh (s2.out.ext EB.out);replace s3:=zh (s3.out.ext EB.out);replace s4:=zh (s4.out.ext EB.out);replace s5:=zh (s5.out.ext EB.out);replace s7:=zh (s7.out.ext EB.out);replace HR:=zh (HR.out.ext eb);replace t0:=zh (t0.out.ext eb);replace t1:=zh (t1.out.ext eb);replace t2:=zh (t2.out.ext eb);replace t3:=zh (t3.out.ext eb);replace t4:=zh (t4.out.ext eb);replace t5:=zh (t5.out.ext eb);replace t7:=zh (t7.out.ext eb);replace HE:=zh (HE.out.tr EB.out);have KB:=zh kb;clear eb kb EB E;have E:=zh (zr W3);clear fa0 fa1 fa2 fa3 fa4 fa5 fa6 fa7 faL;obtain⟨ga0,ga1,ga2,ga3,ga4,ga5,ga6,ga7,gaL⟩:=Bk.j8 (KA.out.ext E.out);go_upto_region 6 with (go_at_call 8;refine(CS.out _ _ _ (HV.out.ext E.out) (HT.out.ext E.out)).mono ?_;rintro e w2 ⟨v2,rfl,ho,he⟩;obtain⟨g0,i0,g1,i1,g2,i2,g3,i3,g4,i4,g5,i5,g7,i7,rfl,cy6,-⟩:=ho.rv.openWatch;have HC:=zh ho.rv;replace E:=zh (E.out.tr he);clear ho he CS)
 obtain⟨C,hC⟩:∃ B,B=w2.heap.size:=⟨_,rfl⟩;refine zA1 (fun u=>Ext w2 u/\Bk u C [.slice g0 y.Box.Plan.Parts.length i0,.slice g1 y.Box.Plan.Channels.length i1,.slice g2 y.Box.Plan.Slots.length i2,.slice g3 y.Box.Programs.length i3,.slice g4 y.Box.Cores.length i4,.slice g5 y.Box.Holds.length i5,.int .i64 y.Box.Tick,.slice g7 y.States.length i7] 35) ⟨(zr _).alloc _,by rw[hC];exact Bk.new _ _ _⟩ ?_
 rw[<- hC];rintro W4 ⟨eb,kb⟩;clear hC;have EB:=zh (E.out.tr eb);replace HV:=zh (HV.out.ext EB.out);replace HT:=zh (HT.out.ext EB.out);replace HR:=zh (HR.out.ext EB.out);replace KA:=zh (KA.out.ext EB.out);replace KB:=zh (KB.out.ext EB.out);replace s0:=zh (s0.out.ext EB.out);replace s1:=zh (s1.out.ext EB.out);replace s2:=zh (s2.out.ext EB.out);replace s3:=zh (s3.out.ext EB.out);replace s4:=zh (s4.out.ext EB.out);replace s5:=zh (s5.out.ext EB.out);replace s7:=zh (s7.out.ext EB.out);replace t0:=zh (t0.out.ext EB.out);replace t1:=zh (t1.out.ext EB.out);replace t2:=zh (t2.out.ext EB.out);replace t3:=zh (t3.out.ext EB.out);replace t4:=zh (t4.out.ext EB.out);replace t5:=zh (t5.out.ext EB.out);replace t7:=zh (t7.out.ext EB.out);replace HC:=zh (HC.out.ext eb);replace HE:=zh (HE.out.tr EB.out);have KC:=zh kb;clear eb kb EB E;have E:=zh (zr W4);clear ga0 ga1 ga2 ga3 ga4 ga5 ga6 ga7 gaL;obtain⟨ha0,ha1,ha2,ha3,ha4,ha5,ha6,ha7,haL⟩:=Bk.j8 (KB.out.ext E.out);obtain⟨hb0,hb1,hb2,hb3,hb4,hb5,hb6,hb7,hbL⟩:=Bk.j8 (KC.out.ext E.out);go_upto_region 8 with (go_at_call 9;refine(law_sameWatch _ _ y _ (HR.out.ext E.out) (HC.out.ext E.out)).mono ?_;rintro e w3 ⟨rfl,he⟩;replace E:=zh (E.out.tr he);clear he)
 clear ha0 ha1 ha2 ha3 ha4 ha5 ha6 ha7 hb0 hb1 hb2 hb3 hb4 hb5 hb6 hb7 haL hbL;rcases hcs with ⟨rfl,rfl⟩ | ⟨N,rfl,wt⟩
 ·have hl:(⟨zI2,[]⟩:Watch).States.length<=0:=Nat.le_refl _;have iaK:=KB.out.ext E.out;have ia7:=iaK.cell (j:=7) rfl;have iaL:=iaK.lt;clear iaK;go_wp2_with (go_at_call 10;refine(law_alive _).mono ?_;rintro e w9 ⟨rfl,he⟩;replace E:=zh (E.out.tr he);clear he)
  go_ret;exact⟨rfl,HE.out.tr E.out⟩
 have ha0:decide (act < 0)=false:=decide_eq_false (by have:=wt.act0;omega)
 have ha9:=wt.act0;have HYV:=zh (zBf.2 wt.wy);have WT:=zh wt;have hNx:N < x.States.length:=wt.hn;have hNy:N < y.Box.Cores.length:=by rw[wt.nc,<- wt.wx.ns];exact wt.hn
 have l1:x.States.length<=y.States.length:=Nat.le_of_eq wt.ns.symm;have l2:x.States.length<=x.Box.Cores.length:=Nat.le_of_eq wt.wx.ns;have l3:x.Box.Cores.length<=y.Box.Cores.length:=Nat.le_of_eq wt.nc.symm;have l4:x.Box.Holds.length<=y.Box.Holds.length:=Nat.le_of_eq wt.nh.symm;have l5:x.Box.Holds.length<=x.Box.Plan.Channels.length:=Nat.le_of_eq wt.wx.box.nh;have hyt:(y.Box.Tick == x.Box.Tick)=true:=by rw[wt.tick];exact beq_self_eq_true _
 clear wt;have jaK:=KA.out.ext E.out;have ja7:=jaK.cell (j:=7) rfl;have jaL:=jaK.lt;clear jaK;go_wp2;clear ja7 jaL;have EO:=zh E.out;go_loopw [11] (fun i wr => ∃ k:Nat,k<=x.States.length/\i = .int .i64 k/\Ext W4 wr) (fun i _=>x.States.length - (intOf i).toNat)
 case atStart=>exact⟨0,Nat.zero_le _,rfl,EO.out⟩
 case round =>
  obtain⟨k,hk,rfl,er⟩:=hrel;replace E:=zh er;clear er;by_cases hkt:k < x.States.length
  ·by_cases hkq:(k:Int)=N
   ·obtain rfl:k=N:=by omega
    clear hkq;have kaK:=KA.out.ext E.out;have ka4:=kaK.cell (j:=4) rfl;have ka7:=kaK.cell (j:=7) rfl;have kaL:=kaK.lt;clear kaK;have kbK:=KB.out.ext E.out;have kb4:=kbK.cell (j:=4) rfl;have kb7:=kbK.cell (j:=7) rfl;have kbL:=kbK.lt;clear kbK;go_wp2;go_big_quiet (fail)
    go_wp2;exact⟨⟨k+1,by omega,by go_num,E.out.drewN _⟩,by simp[intOf];omega⟩
   have hb1:((k:Int) != (N:Int))=true:=by simpa using hkq
   have hk2:k < y.States.length:=by omega
   have hk3:k < x.Box.Cores.length:=by omega
   have hk4:k < y.Box.Cores.length:=by omega
   obtain⟨eb1,eo1,er1,rfl,hB1,hX1,hF10,hF11,hR1,hV1⟩:=s7.out.atHealth k hkt;have gL1:=zl hB1 E.out.sz;have gF10:=(zA0 E.out hB1).trans hF10;have gF11:=(zA0 E.out hB1).trans hF11;obtain⟨eb2,eo2,er2,rfl,hB2,hX2,hF20,hF21,hR2,hV2⟩:=t7.out.atHealth k hk2;have gL2:=zl hB2 E.out.sz;have gF20:=(zA0 E.out hB2).trans hF20;have gF21:=(zA0 E.out hB2).trans hF21;obtain⟨eb3,eo3,er3,ep3,ec3,rfl,hB3,hX3,hF30,hF31,hF32,hR3,hS3,hL3,hV3⟩:=s4.out.atCore k hk3;have gL3:=zl hB3 E.out.sz;have gF30:=(zA0 E.out hB3).trans hF30;have gF31:=(zA0 E.out hB3).trans hF31;have gF32:=(zA0 E.out hB3).trans hF32;obtain⟨eb4,eo4,er4,ep4,ec4,rfl,hB4,hX4,hF40,hF41,hF42,hR4,hS4,hL4,hV4⟩:=t4.out.atCore k hk4;have gL4:=zl hB4 E.out.sz;have gF40:=(zA0 E.out hB4).trans hF40;have gF41:=(zA0 E.out hB4).trans hF41;have gF42:=(zA0 E.out hB4).trans hF42;obtain rfl:er2=er1:=by have h2:=hX2.out;rw[WT.out.states k hkq,hX1.out] at h2;exact(Option.some.inj h2).symm
   obtain rfl:er4=er3:=by have h2:=hX4.out;rw[WT.out.cores k hkq,hX3.out] at h2;exact(Option.some.inj h2).symm
   clear hX1 hX2 hX3 hX4;have q1:(er2.Frozen == er2.Frozen)=true:=by simp
   have q2:(er2.Restarts == er2.Restarts)=true:=by simp
   have kaK:=KA.out.ext E.out;have ka4:=kaK.cell (j:=4) rfl;have ka7:=kaK.cell (j:=7) rfl;have kaL:=kaK.lt;clear kaK;have kbK:=KB.out.ext E.out;have kb4:=kbK.cell (j:=4) rfl;have kb7:=kbK.cell (j:=7) rfl;have kbL:=kbK.lt;clear kbK;go_wp2
   go_region_held3 (fun u=>u.cell? ⟨A,4,none⟩=some (.slice (some ⟨eb3,eo3,none⟩) x.Box.Cores.length q4)/\u.cell? ⟨A,7,none⟩=some (.slice (some ⟨eb1,eo1,none⟩) x.States.length q7)/\u.cell? ⟨B,4,none⟩=some (.slice (some ⟨eb4,eo4,none⟩) y.Box.Cores.length d4)/\u.cell? ⟨B,7,none⟩=some (.slice (some ⟨eb2,eo2,none⟩) y.States.length d7)/\u.cell? ⟨eb1,eo1+k*2,none⟩=some (.bool er2.Frozen)/\u.cell? ⟨eb1,eo1+k*2+1,none⟩=some (.int .i64 er2.Restarts)/\u.cell? ⟨eb2,eo2+k*2,none⟩=some (.bool er2.Frozen)/\u.cell? ⟨eb2,eo2+k*2+1,none⟩=some (.int .i64 er2.Restarts)/\u.cell? ⟨eb3,eo3+k*3,none⟩=some (.slice ep3 er4.Cells.length ec3)/\u.cell? ⟨eb3,eo3+k*3+1,none⟩=some (.int .i64 er4.At)/\u.cell? ⟨eb3,eo3+k*3+2,none⟩=some (.bool er4.Stopped)/\u.cell? ⟨eb4,eo4+k*3,none⟩=some (.slice ep4 er4.Cells.length ec4)/\u.cell? ⟨eb4,eo4+k*3+1,none⟩=some (.int .i64 er4.At)/\u.cell? ⟨eb4,eo4+k*3+2,none⟩=some (.bool er4.Stopped))
    (go_keep)
    ((go_at_call 11;refine(law_sameCore _ _ er4 _ (hV4.out.ext E.out.drew) (hV3.out.ext E.out.drew)).mono ?_;rintro e wa ⟨rfl,he⟩;replace E:=zh (E.out.drew.tr he);have r0aK:=KA.out.ext E.out;have r0a4:=r0aK.cell (j:=4) rfl;have r0a7:=r0aK.cell (j:=7) rfl;have r0aL:=r0aK.lt;clear r0aK;have r0bK:=KB.out.ext E.out;have r0b4:=r0bK.cell (j:=4) rfl;have r0b7:=r0bK.cell (j:=7) rfl;have r0bL:=r0bK.lt;clear r0bK;have r0x0:=(zA0 E.out hB1).trans hF10;have r0x1:=(zA0 E.out hB1).trans hF11;have r0x2:=(zA0 E.out hB2).trans hF20;have r0x3:=(zA0 E.out hB2).trans hF21;have r0x4:=(zA0 E.out hB3).trans hF30;have r0x5:=(zA0 E.out hB3).trans hF31;have r0x6:=(zA0 E.out hB3).trans hF32;have r0x7:=(zA0 E.out hB4).trans hF40;have r0x8:=(zA0 E.out hB4).trans hF41;have r0x9:=(zA0 E.out hB4).trans hF42;clear he))
   go_wp2;exact⟨⟨k+1,by omega,by go_num,E.out⟩,by simp[intOf];omega⟩
  obtain rfl:k=x.States.length:=by omega
  have laK:=KA.out.ext E.out;have la5:=laK.cell (j:=5) rfl;have la7:=laK.cell (j:=7) rfl;have laL:=laK.lt;clear laK;obtain⟨wo,rfl⟩:∃ wo,wo=wr:=⟨_,rfl⟩;go_wp2;clear la5 la7 laL;go_loopw [12] (fun i wr => ∃ k:Nat,k<=x.Box.Holds.length/\i = .int .i64 k/\Ext W4 wr) (fun i _=>x.Box.Holds.length - (intOf i).toNat)
  case atStart=>exact⟨0,Nat.zero_le _,rfl,E.out⟩
  case round =>
   obtain⟨k,hk,rfl,er⟩:=hrel;replace E:=zh er;clear er;by_cases hkt:k < x.Box.Holds.length
   ·have hk1:k < x.Box.Plan.Channels.length:=by omega
    have hk2:k < y.Box.Holds.length:=by omega
    obtain⟨eb0,eo0,er0,rfl,hB0,hX0,hF00,hF01,hF02,hF03,hR0a,hR0b,hR0c,hR0d,hV0⟩:=s1.out.atChannel k (by omega)
    have gL0:=zl hB0 E.out.sz;have gF00:=(zA0 E.out hB0).trans hF00;have gF01:=(zA0 E.out hB0).trans hF01;have gF02:=(zA0 E.out hB0).trans hF02;have gF03:=(zA0 E.out hB0).trans hF03;obtain⟨eb1,eo1,er1,ep1,ec1,rfl,hB1,hX1,hF10,hS1,hL1,hV1⟩:=s5.out.atHold k hkt;have gL1:=zl hB1 E.out.sz;have gF10:=(zA0 E.out hB1).trans hF10;obtain⟨eb2,eo2,er2,ep2,ec2,rfl,hB2,hX2,hF20,hS2,hL2,hV2⟩:=t5.out.atHold k (by omega)
    have gL2:=zl hB2 E.out.sz;have gF20:=(zA0 E.out hB2).trans hF20;have maK:=KA.out.ext E.out;have ma1:=maK.cell (j:=1) rfl;have ma5:=maK.cell (j:=5) rfl;have maL:=maK.lt;clear maK;have mbK:=KB.out.ext E.out;have mb5:=mbK.cell (j:=5) rfl;have mbL:=mbK.lt;clear mbK;by_cases h2:er0.To=N
    ·have hb1:(er0.To != (N:Int))=false:=by simpa using h2
     clear h2 hX0 hX1 hX2;go_wp2;go_big_quiet (fail)
     go_wp2;exact⟨⟨k+1,by omega,by go_num,E.out.drewN _⟩,by simp[intOf];omega⟩
    have hb1:(er0.To != (N:Int))=true:=by simpa using h2
    obtain rfl:er2=er1:=by have h3:=hX2.out;rw[WT.out.holds k er0 hX0.out h2,hX1.out] at h3;exact(Option.some.inj h3).symm
    clear hX0 hX1 hX2 h2;go_wp2
    go_region_held3 (fun u=>u.cell? ⟨A,1,none⟩=some (.slice (some ⟨eb0,eo0,none⟩) x.Box.Plan.Channels.length q1)/\u.cell? ⟨A,5,none⟩=some (.slice (some ⟨eb1,eo1,none⟩) x.Box.Holds.length q5)/\u.cell? ⟨B,5,none⟩=some (.slice (some ⟨eb2,eo2,none⟩) y.Box.Holds.length d5)/\u.cell? ⟨eb0,eo0+k*4+2,none⟩=some (.int .i64 er0.To)/\u.cell? ⟨eb1,eo1+k,none⟩=some (.slice ep1 er2.Lst.length ec1)/\u.cell? ⟨eb2,eo2+k,none⟩=some (.slice ep2 er2.Lst.length ec2))
     (go_keep)
     ((go_at_call 12;refine(law_sameInts _ _ er2.Lst er2.Lst _ (hS2.out.ext E.out.drew) (hS1.out.ext E.out.drew)).mono ?_;rintro e wa ⟨rfl,he⟩;replace E:=zh (E.out.drew.tr he);rw[Eqb.t (rfl:er2.Lst=er2.Lst)];have r0aK:=KA.out.ext E.out;have r0a1:=r0aK.cell (j:=1) rfl;have r0a5:=r0aK.cell (j:=5) rfl;have r0aL:=r0aK.lt;clear r0aK;have r0bK:=KB.out.ext E.out;have r0b5:=r0bK.cell (j:=5) rfl;have r0bL:=r0bK.lt;clear r0bK;have r0x0:=(zA0 E.out hB0).trans hF02;have r0x1:=(zA0 E.out hB1).trans hF10;have r0x2:=(zA0 E.out hB2).trans hF20;clear he))
    go_wp2;exact⟨⟨k+1,by omega,by go_num,E.out⟩,by simp[intOf];omega⟩
   obtain rfl:k=x.Box.Holds.length:=by omega
   have hact3:act=0\/act=1\/act=2:=by omega
   rcases hact3 with rfl|rfl|rfl
   ·clear WT;obtain⟨na0,na1,na2,na3,na4,na5,na6,na7,naL⟩:=Bk.j8 (KA.out.ext E.out);obtain⟨nb0,nb1,nb2,nb3,nb4,nb5,nb6,nb7,nbL⟩:=Bk.j8 (KB.out.ext E.out);go_wp2;refine wp_region_held_drew (S:=fun u=>u.cell? ⟨A,0,none⟩=some (.slice p0 x.Box.Plan.Parts.length q0)/\u.cell? ⟨A,1,none⟩=some (.slice p1 x.Box.Plan.Channels.length q1)/\u.cell? ⟨A,2,none⟩=some (.slice p2 x.Box.Plan.Slots.length q2)/\u.cell? ⟨A,3,none⟩=some (.slice p3 x.Box.Programs.length q3)/\u.cell? ⟨A,4,none⟩=some (.slice p4 x.Box.Cores.length q4)/\u.cell? ⟨A,5,none⟩=some (.slice p5 x.Box.Holds.length q5)/\u.cell? ⟨A,6,none⟩=some (.int .i64 x.Box.Tick)/\u.cell? ⟨A,7,none⟩=some (.slice p7 x.States.length q7)/\u.cell? ⟨B,0,none⟩=some (.slice b0 y.Box.Plan.Parts.length d0)/\u.cell? ⟨B,1,none⟩=some (.slice b1 y.Box.Plan.Channels.length d1)/\u.cell? ⟨B,2,none⟩=some (.slice b2 y.Box.Plan.Slots.length d2)/\u.cell? ⟨B,3,none⟩=some (.slice b3 y.Box.Programs.length d3)/\u.cell? ⟨B,4,none⟩=some (.slice b4 y.Box.Cores.length d4)/\u.cell? ⟨B,5,none⟩=some (.slice b5 y.Box.Holds.length d5)/\u.cell? ⟨B,6,none⟩=some (.int .i64 y.Box.Tick)/\u.cell? ⟨B,7,none⟩=some (.slice b7 y.States.length d7)) (by kernel_rfl) ?_ (fun hHeld=>?_)
    ·(try dsimp only)<;>go_keep
    refine hT 0 ?_;refine hC 1 fun K hK=>?_
    go_simp;(go_at_call 13;refine(zAn _ y _ (HR.out.ext E.out.drew)).mono ?_;rintro e wa ⟨rfl,he⟩;replace E:=zh (E.out.drew.tr he);rw[HYV.out];obtain⟨r0a0,r0a1,r0a2,r0a3,r0a4,r0a5,r0a6,r0a7,r0aL⟩:=Bk.j8 (KA.out.ext E.out);obtain⟨r0b0,r0b1,r0b2,r0b3,r0b4,r0b5,r0b6,r0b7,r0bL⟩:=Bk.j8 (KB.out.ext E.out);clear he);try go_wp2_with fail
    refine hK.out _ _ ?_ (fun hHeld=>?_)
    ·(try dsimp only)<;>go_keep
    clear hK K;try simp only[Act.put,zs]
    refine hT 2 ?_;refine hT 3 ?_;refine hT 4 ?_;refine hT 5 ?_;refine hT 6 ?_;refine hT 7 ?_;refine hT 8 ?_;refine hT 9 ?_;refine hT 10 ?_;refine hT 11 ?_;refine hT 12 ?_;refine hT 13 ?_;refine hT 14 ?_;refine hU 15 ?_;refine hU 16 ?_;refine hU 17 ?_;refine hU 18 ?_;refine hU 19 ?_;refine hU 20 ?_;refine hU 21 ?_;refine hT 22 ?_;refine hT 23 ?_;refine hT 24 ?_;refine hT 25 ?_;refine hT 26 ?_;refine hT 27 ?_;refine hU 28 ?_;refine hU 29 ?_;refine hU 30 ?_;refine hU 31 ?_;refine hU 32 ?_;refine hU 33 ?_;refine hU 34 ?_;refine hT 35 ?_;refine hT 36 ?_;refine hT 37 ?_;refine wpAnyH_done (by kernel_rfl) ?_ _
    go_wp2;go_ret;exact⟨rfl,HE.out.tr E.out⟩
   ·have CR:=zh (fun(v:Value) (u:World) (h:Rv u v x.Box)=>zI7 v x.Box N u h)
    rw[<- WT.out.rest rfl] at CR;clear WT;obtain⟨na0,na1,na2,na3,na4,na5,na6,na7,naL⟩:=Bk.j8 (KA.out.ext E.out);obtain⟨nb0,nb1,nb2,nb3,nb4,nb5,nb6,nb7,nbL⟩:=Bk.j8 (KB.out.ext E.out);go_wp2;refine wp_region_held_drew (S:=fun u=>u.cell? ⟨A,0,none⟩=some (.slice p0 x.Box.Plan.Parts.length q0)/\u.cell? ⟨A,1,none⟩=some (.slice p1 x.Box.Plan.Channels.length q1)/\u.cell? ⟨A,2,none⟩=some (.slice p2 x.Box.Plan.Slots.length q2)/\u.cell? ⟨A,3,none⟩=some (.slice p3 x.Box.Programs.length q3)/\u.cell? ⟨A,4,none⟩=some (.slice p4 x.Box.Cores.length q4)/\u.cell? ⟨A,5,none⟩=some (.slice p5 x.Box.Holds.length q5)/\u.cell? ⟨A,6,none⟩=some (.int .i64 x.Box.Tick)/\u.cell? ⟨A,7,none⟩=some (.slice p7 x.States.length q7)/\u.cell? ⟨B,0,none⟩=some (.slice b0 y.Box.Plan.Parts.length d0)/\u.cell? ⟨B,1,none⟩=some (.slice b1 y.Box.Plan.Channels.length d1)/\u.cell? ⟨B,2,none⟩=some (.slice b2 y.Box.Plan.Slots.length d2)/\u.cell? ⟨B,3,none⟩=some (.slice b3 y.Box.Programs.length d3)/\u.cell? ⟨B,4,none⟩=some (.slice b4 y.Box.Cores.length d4)/\u.cell? ⟨B,5,none⟩=some (.slice b5 y.Box.Holds.length d5)/\u.cell? ⟨B,6,none⟩=some (.int .i64 y.Box.Tick)/\u.cell? ⟨B,7,none⟩=some (.slice b7 y.States.length d7)) (by kernel_rfl) ?_ (fun hHeld=>?_)
    ·(try dsimp only)<;>go_keep
    refine hT 0 ?_;refine hC 1 fun K hK=>?_
    go_simp;(go_at_call 13;refine(zAn _ y _ (HR.out.ext E.out.drew)).mono ?_;rintro e wa ⟨rfl,he⟩;replace E:=zh (E.out.drew.tr he);rw[HYV.out];obtain⟨r0a0,r0a1,r0a2,r0a3,r0a4,r0a5,r0a6,r0a7,r0aL⟩:=Bk.j8 (KA.out.ext E.out);obtain⟨r0b0,r0b1,r0b2,r0b3,r0b4,r0b5,r0b6,r0b7,r0bL⟩:=Bk.j8 (KB.out.ext E.out);clear he);try go_wp2_with fail
    refine hK.out _ _ ?_ (fun hHeld=>?_)
    ·(try dsimp only)<;>go_keep
    clear hK K;try simp only[Act.put,zs]
    refine hT 2 ?_;refine hT 3 ?_;refine hT 4 ?_;refine hT 5 ?_;refine hT 6 ?_;refine hT 7 ?_;refine hT 8 ?_;refine hT 9 ?_;refine hT 10 ?_;refine hT 11 ?_;refine hT 12 ?_;refine hT 13 ?_;refine hT 14 ?_;refine hU 15 ?_;refine hU 16 ?_;refine hU 17 ?_;refine hU 18 ?_;refine hU 19 ?_;refine hU 20 ?_;refine hU 21 ?_;refine hT 22 ?_;refine hT 23 ?_;refine hT 24 ?_;refine hT 25 ?_;refine hT 26 ?_;refine hT 27 ?_;refine hT 28 ?_;refine hT 29 ?_;refine hT 30 ?_;refine hT 31 ?_;refine hT 32 ?_;refine hC 33 fun K hK=>?_
    go_simp;(go_at_call 15;refine(CR.out _ _ (HV.out.wbox.ext E.out)).mono ?_;rintro e wb ⟨v8,rfl,ho,he⟩;replace E:=zh (E.out.tr he);have HO8:=zh ho.rv;clear ho CR;obtain⟨r1a0,r1a1,r1a2,r1a3,r1a4,r1a5,r1a6,r1a7,r1aL⟩:=Bk.j8 (KA.out.ext E.out);obtain⟨r1b0,r1b1,r1b2,r1b3,r1b4,r1b5,r1b6,r1b7,r1bL⟩:=Bk.j8 (KB.out.ext E.out);clear he;clear r0a0 r0a1 r0a2 r0a3 r0a4 r0a5 r0a6 r0a7 r0b0 r0b1 r0b2 r0b3 r0b4 r0b5 r0b6 r0b7 r0aL r0bL);try go_wp2_with fail
    refine hK.out _ _ ?_ (fun hHeld=>?_)
    ·(try dsimp only)<;>go_keep
    clear hK K;try simp only[Act.put,zs]
    refine hC 34 fun K hK=>?_
    go_simp;(go_at_call 14;refine(law_sameMachine _ _ y.Box _ (HR.out.wbox.ext E.out) HO8.out).mono ?_;rintro e wc ⟨rfl,he⟩;replace E:=zh (E.out.tr he);obtain⟨r2a0,r2a1,r2a2,r2a3,r2a4,r2a5,r2a6,r2a7,r2aL⟩:=Bk.j8 (KA.out.ext E.out);obtain⟨r2b0,r2b1,r2b2,r2b3,r2b4,r2b5,r2b6,r2b7,r2bL⟩:=Bk.j8 (KB.out.ext E.out);clear he;clear r1a0 r1a1 r1a2 r1a3 r1a4 r1a5 r1a6 r1a7 r1b0 r1b1 r1b2 r1b3 r1b4 r1b5 r1b6 r1b7 r1aL r1bL);try go_wp2_with fail
    refine hK.out _ _ ?_ (fun hHeld=>?_)
    ·(try dsimp only)<;>go_keep
    clear hK K;try simp only[Act.put,zs]
    refine hT 35 ?_;refine hT 36 ?_;refine hT 37 ?_;refine wpAnyH_done (by kernel_rfl) ?_ _
    go_wp2;go_ret;exact⟨rfl,HE.out.tr E.out⟩
   ·obtain⟨c9,hc9,hst9⟩:=WT.out.stop rfl;obtain⟨eb5,eo5,er5,ep5,ec5,rfl,hB5,hX5,hF50,hF51,hF52,hR5,hS5,hL5,hV5⟩:=t4.out.atCore N hNy;have gL5:=zl hB5 E.out.sz;have gF50:=(zA0 E.out hB5).trans hF50;have gF51:=(zA0 E.out hB5).trans hF51;have gF52:=(zA0 E.out hB5).trans hF52;obtain rfl:er5=c9:=by have h3:=hX5.out;rw[hc9] at h3;exact(Option.some.inj h3).symm
    rw[hst9] at gF52 hF52;clear WT hX5 hc9 hst9;obtain⟨na0,na1,na2,na3,na4,na5,na6,na7,naL⟩:=Bk.j8 (KA.out.ext E.out);obtain⟨nb0,nb1,nb2,nb3,nb4,nb5,nb6,nb7,nbL⟩:=Bk.j8 (KB.out.ext E.out);go_wp2;refine wp_region_held_drew (S:=fun u=>u.cell? ⟨A,0,none⟩=some (.slice p0 x.Box.Plan.Parts.length q0)/\u.cell? ⟨A,1,none⟩=some (.slice p1 x.Box.Plan.Channels.length q1)/\u.cell? ⟨A,2,none⟩=some (.slice p2 x.Box.Plan.Slots.length q2)/\u.cell? ⟨A,3,none⟩=some (.slice p3 x.Box.Programs.length q3)/\u.cell? ⟨A,4,none⟩=some (.slice p4 x.Box.Cores.length q4)/\u.cell? ⟨A,5,none⟩=some (.slice p5 x.Box.Holds.length q5)/\u.cell? ⟨A,6,none⟩=some (.int .i64 x.Box.Tick)/\u.cell? ⟨A,7,none⟩=some (.slice p7 x.States.length q7)/\u.cell? ⟨B,0,none⟩=some (.slice b0 y.Box.Plan.Parts.length d0)/\u.cell? ⟨B,1,none⟩=some (.slice b1 y.Box.Plan.Channels.length d1)/\u.cell? ⟨B,2,none⟩=some (.slice b2 y.Box.Plan.Slots.length d2)/\u.cell? ⟨B,3,none⟩=some (.slice b3 y.Box.Programs.length d3)/\u.cell? ⟨B,4,none⟩=some (.slice (some ⟨eb5,eo5,none⟩) y.Box.Cores.length d4)/\u.cell? ⟨B,5,none⟩=some (.slice b5 y.Box.Holds.length d5)/\u.cell? ⟨B,6,none⟩=some (.int .i64 y.Box.Tick)/\u.cell? ⟨B,7,none⟩=some (.slice b7 y.States.length d7)/\u.cell? ⟨eb5,eo5+N*3+2,none⟩=some (.bool true)) (by kernel_rfl) ?_ (fun hHeld=>?_)
    ·(try dsimp only)<;>go_keep
    refine hT 0 ?_;refine hC 1 fun K hK=>?_
    go_simp;(go_at_call 13;refine(zAn _ y _ (HR.out.ext E.out.drew)).mono ?_;rintro e wa ⟨rfl,he⟩;replace E:=zh (E.out.drew.tr he);rw[HYV.out];obtain⟨r0a0,r0a1,r0a2,r0a3,r0a4,r0a5,r0a6,r0a7,r0aL⟩:=Bk.j8 (KA.out.ext E.out);obtain⟨r0b0,r0b1,r0b2,r0b3,r0b4,r0b5,r0b6,r0b7,r0bL⟩:=Bk.j8 (KB.out.ext E.out);have r0x0:=(zA0 E.out hB5).trans hF52;clear he);try go_wp2_with fail
    refine hK.out _ _ ?_ (fun hHeld=>?_)
    ·(try dsimp only)<;>go_keep
    clear hK K;try simp only[Act.put,zs]
    refine hT 2 ?_;refine hT 3 ?_;refine hT 4 ?_;refine hT 5 ?_;refine hT 6 ?_;refine hT 7 ?_;refine hT 8 ?_;refine hT 9 ?_;refine hT 10 ?_;refine hT 11 ?_;refine hT 12 ?_;refine hT 13 ?_;refine hT 14 ?_;refine hT 15 ?_;refine hT 16 ?_;refine hT 17 ?_;refine hT 18 ?_;refine hT 19 ?_;refine hT 20 ?_;refine hT 21 ?_;refine hT 22 ?_;refine hT 23 ?_;refine hT 24 ?_;refine hT 25 ?_;refine hT 26 ?_;refine hT 27 ?_;refine hU 28 ?_;refine hU 29 ?_;refine hU 30 ?_;refine hU 31 ?_;refine hU 32 ?_;refine hU 33 ?_;refine hU 34 ?_;refine hT 35 ?_;refine hT 36 ?_;refine hT 37 ?_;refine wpAnyH_done (by kernel_rfl) ?_ _
    go_wp2;go_ret;exact⟨rfl,HE.out.tr E.out⟩
end Sk
