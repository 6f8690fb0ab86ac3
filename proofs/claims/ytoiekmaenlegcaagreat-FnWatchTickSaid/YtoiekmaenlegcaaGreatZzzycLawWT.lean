/- Contracts of functions of the given program. -/
import Derived.Test.YtoiekmaenlegcaaGreatZzzwWlM
namespace Sk
open Go Go.Proofs Go.RowKit
set_option maxHeartbeats 16000000
set_option maxRecDepth 100000
set_option linter.unusedVariables false
set_option linter.unusedSimpArgs false
theorem Bk.j7{w:World}{b:Nat}{c0 c1 c2 c3 c4 c5 c6:Value}{l:List Value}{T:TypeId}(h:Bk w b (c0::c1::c2::c3::c4::c5::c6::l) T):w.cell? ⟨b,0,none⟩=some c0/\w.cell? ⟨b,1,none⟩=some c1/\w.cell? ⟨b,2,none⟩=some c2/\w.cell? ⟨b,3,none⟩=some c3/\w.cell? ⟨b,4,none⟩=some c4/\w.cell? ⟨b,5,none⟩=some c5/\w.cell? ⟨b,6,none⟩=some c6/\b < w.heap.size:=⟨h.cell (j:=0) rfl,h.cell (j:=1) rfl,h.cell (j:=2) rfl,h.cell (j:=3) rfl,h.cell (j:=4) rfl,h.cell (j:=5) rfl,h.cell (j:=6) rfl,h.lt⟩
theorem lawWatchTick(v:Value)(xs:List By)(w:World)(h:Rs w v xs) :
  Calls Tryz.prog 4 #[v] w fun e w'=>e = .returned (.bool true)/\Ext w w':=by
 obtain⟨a,c,rfl,hl⟩:=h.form;have H:=zh h;clear h;by_cases hx:xs.length<=1048576
 case neg =>
  have hx2:1048576 < xs.length:=by omega
  clear hx;go_enter Tryz.func4,Tryz.ntmps4;go_wp2;go_ret;exact⟨rfl,zr w⟩
 go_enter Tryz.func4,Tryz.ntmps4;go_upto_region 4 with (go_at_call 16;refine(zMk _ _ _ H.out).mono ?_;rintro e w1 ⟨v1,x,vt,t,rfl,hv,htt,ht,he⟩;obtain⟨p0,q0,p1,q1,p2,q2,p3,q3,p4,q4,p5,q5,p7,q7,rfl,-⟩:=hv.openWc;have HV:=zh hv.rv;have HTT:=zh htt;have HE:=zh he;have HT:=zh ht;obtain⟨ta,tc,rfl,htl⟩:=ht.form;clear ht;clear hv htt he)
 obtain⟨A,hA⟩:∃ A,A=w1.heap.size:=⟨_,rfl⟩;refine zA1 (fun u=>Ext w1 u/\Bk u A [.slice p0 x.Box.Plan.Parts.length q0,.slice p1 x.Box.Plan.Channels.length q1,.slice p2 x.Box.Plan.Slots.length q2,.slice p3 x.Box.Programs.length q3,.slice p4 x.Box.Cores.length q4,.slice p5 x.Box.Holds.length q5,.int .i64 x.Box.Tick,.slice p7 x.States.length q7] 35) ⟨(zr _).alloc _,by rw[hA];exact Bk.new _ _ _⟩ ?_
 rw[<- hA];rintro W1 ⟨e1,kA⟩;clear hA H;replace HV:=zh (HV.out.ext e1);replace HT:=zh (HT.out.ext e1);replace HE:=zh (HE.out.tr e1);have KA:=zh kA;clear e1 kA;have E:=zh (zr W1);obtain⟨_,_,_,_,_,_,_,_,_,_,_,_,_,_,ee,s6,s0,-,s1,-,s2,-,s3,-,s4,-,s5,-,s7,-⟩:=HV.out.openWatch;have e9:=congrArg (fun v=>match v with | .agg a=>a.toList|_ => []) ee
 simp only[List.cons.injEq,Value.slice.injEq,and_true,true_and] at e9;obtain⟨⟨rfl,rfl⟩,⟨rfl,rfl⟩,⟨rfl,rfl⟩,⟨rfl,rfl⟩,⟨rfl,rfl⟩,⟨rfl,rfl⟩,⟨rfl,rfl⟩⟩:=e9;clear ee;obtain⟨hxs,hxc,hxh⟩:=zEb x HTT.out;obtain⟨y,hy⟩:∃ y,zAo x t 1 1=y:=⟨_,rfl⟩;have CI:=zh (fun(v vt:Value) (u:World) (h:Rv u v x) (k:Rs u vt t)=>impl_WatchTick v vt x t u h k)
 have CS:=zh (fun(v vt:Value) (u:World) (h:Rv u v x) (k:Rs u vt t)=>zJw v vt x t u h k (Nat.le_trans HTT.out (by omega)))
 have hcs:=zNb x t;rw[hy] at CI CS hcs;clear hy;obtain⟨fa0,fa1,fa2,fa3,fa4,fa5,fa6,fa7,faL⟩:=Bk.j8 (KA.out.ext E.out);go_upto_region 5 with (go_at_call 17;refine(CI.out _ _ _ HV.out HT.out).mono ?_;rintro e w2 ⟨v2,rfl,ho,he⟩;obtain⟨b0,d0,b1,d1,b2,d2,b3,d3,b4,d4,b5,d5,b7,d7,rfl,y6,t0,-,t1,-,t2,-,t3,-,t4,-,t5,-,t7,-⟩:=ho.rv.openWatch;have HR:=zh ho.rv;replace E:=zh (E.out.tr he);clear ho he CI)
 obtain⟨B,hB⟩:∃ B,B=w2.heap.size:=⟨_,rfl⟩;refine zA1 (fun u=>Ext w2 u/\Bk u B [.slice b0 y.Box.Plan.Parts.length d0,.slice b1 y.Box.Plan.Channels.length d1,.slice b2 y.Box.Plan.Slots.length d2,.slice b3 y.Box.Programs.length d3,.slice b4 y.Box.Cores.length d4,.slice b5 y.Box.Holds.length d5,.int .i64 y.Box.Tick,.slice b7 y.States.length d7] 35) ⟨(zr _).alloc _,by rw[hB];exact Bk.new _ _ _⟩ ?_
 rw[<- hB];rintro W3 ⟨eb,kb⟩;clear hB;have EB:=zh (E.out.tr eb);replace HV:=zh (HV.out.ext EB.out);replace HT:=zh (HT.out.ext EB.out);replace KA:=zh (KA.out.ext EB.out);replace s0:=zh (s0.out.ext EB.out);replace s1:=zh (s1.out.ext EB.out);replace s2:=zh (s2.out.ext EB.out);replace s3:=zh (s3.out.ext EB.out);replace s4:=zh (s4.out.ext EB.out);replace s5:=zh (s5.out.ext EB.out);replace s7:=zh (s7.out.ext EB.out);replace HR:=zh (HR.out.ext eb);replace t0:=zh (t0.out.ext eb);replace t1:=zh (t1.out.ext eb);replace t2:=zh (t2.out.ext eb);replace t3:=zh (t3.out.ext eb);replace t4:=zh (t4.out.ext eb);replace t5:=zh (t5.out.ext eb);replace t7:=zh (t7.out.ext eb);replace HE:=zh (HE.out.tr EB.out);have KB:=zh kb;clear eb kb EB E;have E:=zh (zr W3);clear fa0 fa1 fa2 fa3 fa4 fa5 fa6 fa7 faL;obtain⟨ga0,ga1,ga2,ga3,ga4,ga5,ga6,ga7,gaL⟩:=Bk.j8 (KA.out.ext E.out);obtain⟨gb0,gb1,gb2,gb3,gb4,gb5,gb6,gb7,gbL⟩:=Bk.j8 (KB.out.ext E.out)
 go_region_held3 (fun u=>u.cell? ⟨A,0,none⟩=some (.slice p0 x.Box.Plan.Parts.length q0)/\u.cell? ⟨A,1,none⟩=some (.slice p1 x.Box.Plan.Channels.length q1)/\u.cell? ⟨A,2,none⟩=some (.slice p2 x.Box.Plan.Slots.length q2)/\u.cell? ⟨A,3,none⟩=some (.slice p3 x.Box.Programs.length q3)/\u.cell? ⟨A,4,none⟩=some (.slice p4 x.Box.Cores.length q4)/\u.cell? ⟨A,5,none⟩=some (.slice p5 x.Box.Holds.length q5)/\u.cell? ⟨A,6,none⟩=some (.int .i64 x.Box.Tick)/\u.cell? ⟨A,7,none⟩=some (.slice p7 x.States.length q7)/\u.cell? ⟨B,0,none⟩=some (.slice b0 y.Box.Plan.Parts.length d0)/\u.cell? ⟨B,1,none⟩=some (.slice b1 y.Box.Plan.Channels.length d1)/\u.cell? ⟨B,2,none⟩=some (.slice b2 y.Box.Plan.Slots.length d2)/\u.cell? ⟨B,3,none⟩=some (.slice b3 y.Box.Programs.length d3)/\u.cell? ⟨B,4,none⟩=some (.slice b4 y.Box.Cores.length d4)/\u.cell? ⟨B,5,none⟩=some (.slice b5 y.Box.Holds.length d5)/\u.cell? ⟨B,6,none⟩=some (.int .i64 y.Box.Tick)/\u.cell? ⟨B,7,none⟩=some (.slice b7 y.States.length d7))
  (go_keep)
  (first
   | (go_at_call 18;refine(CS.out _ _ _ (HV.out.ext E.out.drew) (HT.out.ext E.out.drew)).mono ?_;rintro e wa ⟨v4,rfl,ho,he⟩;replace E:=zh (E.out.drew.tr he);have HR4:=zh ho.rv;clear ho CS;obtain⟨r0a0,r0a1,r0a2,r0a3,r0a4,r0a5,r0a6,r0a7,r0aL⟩:=Bk.j8 (KA.out.ext E.out);obtain⟨r0b0,r0b1,r0b2,r0b3,r0b4,r0b5,r0b6,r0b7,r0bL⟩:=Bk.j8 (KB.out.ext E.out);clear he)
   | (go_at_call 9;refine(law_sameWatch _ _ y _ (HR.out.ext E.out) HR4.out).mono ?_;rintro e wb ⟨rfl,he⟩;replace E:=zh (E.out.tr he);obtain⟨r1a0,r1a1,r1a2,r1a3,r1a4,r1a5,r1a6,r1a7,r1aL⟩:=Bk.j8 (KA.out.ext E.out);obtain⟨r1b0,r1b1,r1b2,r1b3,r1b4,r1b5,r1b6,r1b7,r1bL⟩:=Bk.j8 (KB.out.ext E.out);clear he;clear r0a0 r0a1 r0a2 r0a3 r0a4 r0a5 r0a6 r0a7 r0b0 r0b1 r0b2 r0b3 r0b4 r0b5 r0b6 r0b7 r0aL r0bL))
 clear ga0 ga1 ga2 ga3 ga4 ga5 ga6 ga7 gb0 gb1 gb2 gb3 gb4 gb5 gb6 gb7 gaL gbL;rcases hcs with rfl|wt
 ·have hl:(⟨zI2,[]⟩:Watch).Box.Plan.Slots.length<=0:=Nat.le_refl _;have haK:=KB.out.ext E.out;have ha2:=haK.cell (j:=2) rfl;have haL:=haK.lt;clear haK;go_wp2_with (go_at_call 10;refine(law_alive _).mono ?_;rintro e w9 ⟨rfl,he⟩;replace E:=zh (E.out.tr he);clear he)
  go_ret;exact⟨rfl,HE.out.tr E.out⟩
 have hpos:=wt.sl;have hy0:((y.Box.Plan.Slots.length:Int) == 0)=false:=by rw[beq_eq_false_iff_ne];omega
 have HYV:=zh (zBf.2 wt.wy);have CP:=zh (fun(v:Value) (u:World) (h:Rv u v x.Box)=>zNc v x.Box u h)
 obtain⟨pm,hpm⟩:∃ pm,zAk x.Box=pm:=⟨_,rfl⟩;rw[wt.plain,hpm] at CP;have WT:=zh wt;have HPM:=zh hpm;have hns:x.States.length=x.Box.Cores.length:=wt.wx.ns;have hnp:x.Box.Cores.length<=pm.Cores.length:=by rw[<- hpm,zCk];exact Nat.le_refl _
 have hny:x.States.length<=y.States.length:=Nat.le_of_eq wt.ns.symm;have hxs5:x.States.length<=x.Box.Cores.length:=Nat.le_of_eq hns;have hsv:zDa x.Box.Plan.Slots (x.States.length:Int)=true:=by rw[hns,wt.wx.box.nc];exact wt.wx.box.ssv
 have hT0:=wt.wx.box.tick.1;have hT1:=wt.wx.box.tick.2;have hyt:(y.Box.Tick == x.Box.Tick+1)=true:=by rw[wt.tick];simp
 have hwt1:IntKind.i64.wrap (x.Box.Tick+1)=x.Box.Tick+1:=zAx (by omega) (by omega)
 have CW:=zh (fun(v:Value) (u:World) (h:Rs u v x.Box.Plan.Slots)=>impl_WhoRuns v x.Box.Plan.Slots x.States.length x.Box.Tick u h hsv hT0 (by omega))
 clear wt hpm hns hsv;obtain⟨ha0,ha1,ha2,ha3,ha4,ha5,ha6,ha7,haL⟩:=Bk.j8 (KA.out.ext E.out);have hbK:=KB.out.ext E.out;have hb2:=hbK.cell (j:=2) rfl;have hbL:=hbK.lt;clear hbK;go_upto_region 10 with (go_at_call 19;refine(CP.out _ _ (HV.out.wbox.ext E.out)).mono ?_;rintro e w6 ⟨v6,rfl,ho,he⟩;obtain⟨e0,f0,e1,f1,e2,f2,e3,f3,e4,f4,e5,f5,rfl,pm6,r0,-,r1,-,r2,-,r3,-,r4,-,r5,-⟩:=ho.rv.openMachine;have HP:=zh ho.rv;replace E:=zh (E.out.tr he);clear ho he CP)
 obtain⟨P,hP⟩:∃ B,B=w6.heap.size:=⟨_,rfl⟩;refine zA1 (fun u=>Ext w6 u/\Bk u P [.slice e0 pm.Plan.Parts.length f0,.slice e1 pm.Plan.Channels.length f1,.slice e2 pm.Plan.Slots.length f2,.slice e3 pm.Programs.length f3,.slice e4 pm.Cores.length f4,.slice e5 pm.Holds.length f5,.int .i64 pm.Tick] 32) ⟨(zr _).alloc _,by rw[hP];exact Bk.new _ _ _⟩ ?_
 rw[<- hP];rintro W4 ⟨eb,kb⟩;clear hP;have EB:=zh (E.out.tr eb);replace HV:=zh (HV.out.ext EB.out);replace HT:=zh (HT.out.ext EB.out);replace HR:=zh (HR.out.ext EB.out);replace KA:=zh (KA.out.ext EB.out);replace KB:=zh (KB.out.ext EB.out);replace s0:=zh (s0.out.ext EB.out);replace s1:=zh (s1.out.ext EB.out);replace s2:=zh (s2.out.ext EB.out);replace s3:=zh (s3.out.ext EB.out);replace s4:=zh (s4.out.ext EB.out);replace s5:=zh (s5.out.ext EB.out);replace s7:=zh (s7.out.ext EB.out);replace t0:=zh (t0.out.ext EB.out);replace t1:=zh (t1.out.ext EB.out);replace t2:=zh (t2.out.ext EB.out);replace t3:=zh (t3.out.ext EB.out);replace t4:=zh (t4.out.ext EB.out);replace t5:=zh (t5.out.ext EB.out);replace t7:=zh (t7.out.ext EB.out);replace HP:=zh (HP.out.ext eb);replace r0:=zh (r0.out.ext eb);replace r1:=zh (r1.out.ext eb);replace r2:=zh (r2.out.ext eb);replace r3:=zh (r3.out.ext eb);replace r4:=zh (r4.out.ext eb);replace r5:=zh (r5.out.ext eb);replace HE:=zh (HE.out.tr EB.out);have KP:=zh kb;clear eb kb EB E;have E:=zh (zr W4);clear ha0 ha1 ha2 ha3 ha4 ha5 ha6 ha7 hb2 haL hbL;go_wp2;go_loopw [7,8] (fun s i wr => ∃ (k:Nat) (z:Int),k<=x.States.length/\i = .int .i64 k/\s = .int .i64 z/\zK4 x k z/\Ext W4 wr) (fun _ i _=>x.States.length - (intOf i).toNat)
 case atStart=>exact⟨0,-1,Nat.zero_le _,rfl,rfl,.inl ⟨rfl,fun j hj=>by cases hj⟩,zr _⟩
 case round =>
  obtain⟨k,z,hk,rfl,rfl,hz,er⟩:=hrel;have HZ:=zh hz;replace E:=zh er;clear er hz;have caK:=KA.out.ext E.out;have ca4:=caK.cell (j:=4) rfl;have ca7:=caK.cell (j:=7) rfl;have caL:=caK.lt;clear caK;have cbK:=KP.out.ext E.out;have cb4:=cbK.cell (j:=4) rfl;have cbL:=cbK.lt;clear cbK;by_cases hkt:k < x.States.length
  ·have hka:k < x.Box.Cores.length:=by omega
   have hkp:k < pm.Cores.length:=by omega
   obtain⟨eba,eoa,era,epa,eca,rfl,hBa,hXa,hFa0,hFa1,hFa2,hRa,hSa,hLa,hVa⟩:=s4.out.atCore k hka;have gLa:=zl hBa E.out.sz;have gFa0:=(zA0 E.out hBa).trans hFa0;have gFa1:=(zA0 E.out hBa).trans hFa1;have gFa2:=(zA0 E.out hBa).trans hFa2;obtain⟨ebb,eob,erb,epb,ecb,rfl,hBb,hXb,hFb0,hFb1,hFb2,hRb,hSb,hLb,hVb⟩:=r4.out.atCore k hkp;have gLb:=zl hBb E.out.sz;have gFb0:=(zA0 E.out hBb).trans hFb0;have gFb1:=(zA0 E.out hBb).trans hFb1;have gFb2:=(zA0 E.out hBb).trans hFb2;have HIT:Hid (zLq x k ↔ (era.Stopped=false/\erb.Stopped=true)):=zh ⟨fun⟨a,c,h1,h2,h3,h4⟩=>by rw[hXa.out] at h1;rw[HPM.out,hXb.out] at h2;obtain rfl:=Option.some.inj h1;obtain rfl:=Option.some.inj h2;exact⟨h3,h4⟩,fun h=>⟨era,erb,hXa.out,by rw[HPM.out];exact hXb.out,h.1,h.2⟩⟩
   clear hXa hXb;by_cases hh:era.Stopped=false/\erb.Stopped=true
   ·obtain⟨h1,h2⟩:=hh;have hst:=zK4.step HZ.out (HIT.out.2 ⟨h1,h2⟩);rw[h1] at gFa2;rw[h2] at gFb2;clear h1 h2 HIT HZ;go_wp2;exact⟨⟨k+1,_,by omega,by go_num,rfl,hst,E.out⟩,by simp[intOf];omega⟩
   ·have hst:=zK4.skip HZ.out (fun h=>hh (HIT.out.1 h))
    clear HIT HZ;rcases Bool.eq_false_or_eq_true erb.Stopped with h2|h2
    ·have h1:era.Stopped=true:=by
      rcases Bool.eq_false_or_eq_true era.Stopped with h1|h1
      ·exact h1
      ·exact absurd ⟨h1,h2⟩ hh
     rw[h1] at gFa2;rw[h2] at gFb2;clear h1 h2 hh;go_wp2;exact⟨⟨k+1,z,by omega,by go_num,rfl,hst,E.out⟩,by simp[intOf];omega⟩
    ·rw[h2] at gFb2;clear h2 hh;go_wp2;exact⟨⟨k+1,z,by omega,by go_num,rfl,hst,E.out⟩,by simp[intOf];omega⟩
  obtain rfl:k=x.States.length:=by omega
  have HST:Hid (∀ k:Nat,¬ (k:Int)=z->y.States[k]? = x.States[k]?):=zh (fun k hk=>by
   rcases HZ.out with ⟨rfl,hm⟩ | ⟨j,hj,rfl,hh⟩
   ·rw[WT.out.miss hm]
   ·exact WT.out.hit j hh k (fun e=>hk (by rw[e])))
  have hzb : -1<=z/\z<=1000000:=by
   rcases HZ.out with ⟨rfl,hm⟩ | ⟨j,hj,rfl,hh⟩<;>omega
  have EO:=zh E.out;obtain⟨wo,rfl⟩:∃ wo,wo=wr:=⟨_,rfl⟩;go_wp2;clear ca4 ca7 cb4 caL cbL;go_loopw [9] (fun i wr => ∃ k:Nat,k<=x.States.length/\i = .int .i64 k/\Ext W4 wr) (fun i _=>x.States.length - (intOf i).toNat)
  case atStart=>exact⟨0,Nat.zero_le _,rfl,EO.out⟩
  case round =>
   obtain⟨k,hk,rfl,er⟩:=hrel;replace E:=zh er;clear er;have daK:=KA.out.ext E.out;have da7:=daK.cell (j:=7) rfl;have daL:=daK.lt;clear daK;have dbK:=KB.out.ext E.out;have db7:=dbK.cell (j:=7) rfl;have dbL:=dbK.lt;clear dbK;by_cases hkt:k < x.States.length
   ·by_cases hkz:(k:Int)=z
    ·have hb1:((k:Int) != z)=false:=by rw[hkz];simp
     clear hkz;go_wp2;go_big_quiet (fail)
     go_wp2;exact⟨⟨k+1,by omega,by go_num,E.out.drewN _⟩,by simp[intOf];omega⟩
    ·have hb1:((k:Int) != z)=true:=by simpa using hkz
     have hkx:k < x.States.length:=hkt;have hky:k < y.States.length:=by omega
     obtain⟨ebc,eoc,erc,rfl,hBc,hXc,hFc0,hFc1,hRc,hVc⟩:=s7.out.atHealth k hkx;have gLc:=zl hBc E.out.sz;have gFc0:=(zA0 E.out hBc).trans hFc0;have gFc1:=(zA0 E.out hBc).trans hFc1;obtain⟨ebd,eod,erd,rfl,hBd,hXd,hFd0,hFd1,hRd,hVd⟩:=t7.out.atHealth k hky;have gLd:=zl hBd E.out.sz;have gFd0:=(zA0 E.out hBd).trans hFd0;have gFd1:=(zA0 E.out hBd).trans hFd1;obtain rfl:erd=erc:=by have h2:=hXd.out;rw[HST.out k hkz,hXc.out] at h2;exact(Option.some.inj h2).symm
     have q1:(erd.Frozen == erd.Frozen)=true:=by simp
     have q2:(erd.Restarts == erd.Restarts)=true:=by simp
     clear hXc hXd hkz;go_wp2;go_big_quiet (fail)
     go_wp2;exact⟨⟨k+1,by omega,by go_num,E.out.drewN _⟩,by simp[intOf];omega⟩
   clear da7 db7 daL dbL;obtain⟨ia0,ia1,ia2,ia3,ia4,ia5,ia6,ia7,iaL⟩:=Bk.j8 (KA.out.ext E.out);obtain⟨ib0,ib1,ib2,ib3,ib4,ib5,ib6,ib7,ibL⟩:=Bk.j8 (KB.out.ext E.out);obtain⟨ic0,ic1,ic2,ic3,ic4,ic5,ic6,icL⟩:=Bk.j7 (KP.out.ext E.out);rcases HZ.out with ⟨rfl,hm⟩ | ⟨j,hj,rfl,hh⟩
   ·have HB:Hid (y.Box=pm):=zh (by rw[WT.out.miss hm,<- HPM.out])
    clear hm HZ HST EO WT
    go_wp2_with (first
     | (go_at_call 14;refine(law_sameMachine _ _ y.Box _ (HR.out.wbox.ext E.out) (by rw[HB.out];exact HP.out.ext E.out)).mono ?_;rintro e wz ⟨rfl,he⟩;replace E:=zh (E.out.tr he);clear he;obtain⟨ua0,ua1,ua2,ua3,ua4,ua5,ua6,ua7,uaL⟩:=Bk.j8 (KA.out.ext E.out);obtain⟨ub0,ub1,ub2,ub3,ub4,ub5,ub6,ub7,ubL⟩:=Bk.j8 (KB.out.ext E.out);obtain⟨uc0,uc1,uc2,uc3,uc4,uc5,uc6,ucL⟩:=Bk.j7 (KP.out.ext E.out))
     | (go_at_call 13;refine(zAn _ y _ (HR.out.ext E.out)).mono ?_;rintro e wz ⟨rfl,he⟩;rw[HYV.out];replace E:=zh (E.out.tr he);clear he;obtain⟨va0,va1,va2,va3,va4,va5,va6,va7,vaL⟩:=Bk.j8 (KA.out.ext E.out);obtain⟨vb0,vb1,vb2,vb3,vb4,vb5,vb6,vb7,vbL⟩:=Bk.j8 (KB.out.ext E.out);obtain⟨vc0,vc1,vc2,vc3,vc4,vc5,vc6,vcL⟩:=Bk.j7 (KP.out.ext E.out)))
    go_ret;exact⟨rfl,HE.out.tr E.out⟩
   ·rw[M.hit_who hh] at CW;have hz1:decide ((j:Int) ≥ 0)=true:=decide_eq_true (by omega)
    have hz2:decide ((j:Int) < 0)=false:=decide_eq_false (by omega)
    clear hh HZ HST EO WT
    go_wp2_with (first
     | (go_at_call 20;refine(CW.out _ _ (s2.out.ext E.out)).mono ?_;rintro e wz ⟨rfl,he⟩;replace E:=zh (E.out.tr he);clear he;obtain⟨ua0,ua1,ua2,ua3,ua4,ua5,ua6,ua7,uaL⟩:=Bk.j8 (KA.out.ext E.out);obtain⟨ub0,ub1,ub2,ub3,ub4,ub5,ub6,ub7,ubL⟩:=Bk.j8 (KB.out.ext E.out);obtain⟨uc0,uc1,uc2,uc3,uc4,uc5,uc6,ucL⟩:=Bk.j7 (KP.out.ext E.out))
     | (go_at_call 13;refine(zAn _ y _ (HR.out.ext E.out)).mono ?_;rintro e wz ⟨rfl,he⟩;rw[HYV.out];replace E:=zh (E.out.tr he);clear he;obtain⟨va0,va1,va2,va3,va4,va5,va6,va7,vaL⟩:=Bk.j8 (KA.out.ext E.out);obtain⟨vb0,vb1,vb2,vb3,vb4,vb5,vb6,vb7,vbL⟩:=Bk.j8 (KB.out.ext E.out);obtain⟨vc0,vc1,vc2,vc3,vc4,vc5,vc6,vcL⟩:=Bk.j7 (KP.out.ext E.out)))
    go_ret;exact⟨by simp,HE.out.tr E.out⟩
end Sk
