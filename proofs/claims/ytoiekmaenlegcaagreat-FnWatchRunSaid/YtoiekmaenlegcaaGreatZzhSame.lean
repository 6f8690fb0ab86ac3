/- Contracts of functions of the given program. -/
import Derived.Test.YtoiekmaenlegcaaGreatNumsS
import Derived.Test.YtoiekmaenlegcaaGreatZjHth
import Derived.Test.YtoiekmaenlegcaaGreatRsP
import Derived.Test.YtoiekmaenlegcaaGreatZxMch
namespace Sk
open Go Go.Proofs Go.RowKit
set_option maxHeartbeats 8000000
set_option maxRecDepth 100000
set_option linter.unusedVariables false
set_option linter.unusedSimpArgs false
theorem law_sameCore(v1 v2:Value)(x:Core)(w:World)(h1:Rv w v1 x)(h2:Rv w v2 x) :
  Calls Tryz.prog 11 #[v1,v2] w fun e w'=>e = .returned (.bool true)/\Ext w w':=by
 obtain⟨a0,c0,rfl,r1,hs1,l1⟩:=h1.openCore;obtain⟨b0,d0,rfl,r2,hs2,l2⟩:=h2.openCore;clear h1 h2;go_enter Tryz.func11,Tryz.ntmps11;go_upto_region 1 with (fail)
 refine zA1 (fun W=>Ext w W/\Bk W w.heap.size [.slice a0 x.Cells.length c0,.int .i64 x.At,.bool x.Stopped] 47/\Bk W (w.heap.size+1) [.slice b0 x.Cells.length d0,.int .i64 x.At,.bool x.Stopped] 47) ⟨((zr _).alloc _).alloc _,(Bk.new _ _ _).ext ((zr _).alloc _),Bk.new1 _ _ _ _⟩ ?_
 rintro W ⟨e1,kA,kB⟩;have E:=zh e1;have KA:=zh kA;have KB:=zh kB;have ltA:=kA.lt;have ltB:=kB.lt;obtain⟨x0,x1,x2⟩:=Bk.k3 kA;obtain⟨y0,y1,y2⟩:=Bk.k3 kB;clear e1 kA kB;have q1:(x.At == x.At)=true:=by simp
 have q2:(x.Stopped == x.Stopped)=true:=by simp
 go_wp2_with (go_at_call 12;refine(law_sameInts _ _ x.Cells x.Cells _ (hs1.out.ext E.out) (hs2.out.ext E.out)).mono ?_;rintro e w1 ⟨rfl,he⟩;rw[Eqb.t (rfl:x.Cells=x.Cells)];have E1:=zh (E.out.tr he);have p1:=(KA.out.ext he).cell (j:=1) rfl;have p2:=(KA.out.ext he).cell (j:=2) rfl;have s1:=(KB.out.ext he).cell (j:=1) rfl;have s2:=(KB.out.ext he).cell (j:=2) rfl;clear he)
 go_ret;exact⟨(by first|rfl|exact zA2 rfl|simp),E1.out⟩
theorem law_sameStates(v1 v2:Value)(xs:List Health)(w:World)(hv1:Rs w v1 xs)(hv2:Rs w v2 xs) :
  Calls Tryz.prog 39 #[v1,v2] w fun e w'=>e = .returned (.bool true)/\Ext w w':=by
 obtain⟨a,c,rfl,hl⟩:=hv1.form;obtain⟨a2,c2,rfl,hl2⟩:=hv2.form;have H1:=zh hv1;have H2:=zh hv2;clear hv1 hv2;go_enter Tryz.func39,Tryz.ntmps39;go_wp2;go_loopw [5] (fun i wr => ∃ k:Nat,k<=xs.length/\i = .int .i64 k/\Ext w wr) (fun i _=>xs.length - (intOf i).toNat)
 case atStart=>exact⟨0,Nat.zero_le _,rfl,.refl _⟩
 case round =>
  obtain⟨k,hk,rfl,hq⟩:=hrel;have HQ:=zh hq;clear hq;by_cases hlt:k < xs.length
  ·obtain⟨b,o,x,rfl,_,hx1,hc0,hc1,g1,_⟩:=(H1.out.ext HQ.out).atHealth k hlt;obtain⟨b2,o2,y,rfl,_,hx2,hd0,hd1,f1,_⟩:=(H2.out.ext HQ.out).atHealth k hlt;obtain rfl:x=y:=Option.some.inj (hx1.out.symm.trans hx2.out);clear H1 H2 hx1 hx2;have q1:(x.Frozen == x.Frozen)=true:=by simp
   have q2:(x.Restarts == x.Restarts)=true:=by simp
   go_wp2;go_quiet (fail)
   go_wp2;go_roundw
   case rel=>exact⟨k+1,by omega,by go_num,HQ.out.drewN _⟩
   case measure=>simp[intOf];omega
  ·clear H1 H2;go_wp2;go_ret;exact⟨rfl,HQ.out⟩
theorem law_sameMachine(v1 v2:Value)(x:Machine)(w:World)(h1:Rv w v1 x)(h2:Rv w v2 x) :
  Calls Tryz.prog 14 #[v1,v2] w fun e w'=>e = .returned (.bool true)/\Ext w w':=by
 obtain⟨a0,c0,a1,c1,a2,c2,a3,c3,a4,c4,a5,c5,rfl,r6,h0,l0,h1',l1,h2',l2,h3,l3,h4,l4,h5,l5⟩:=h1.openMachine;obtain⟨b0,d0,b1,d1,b2,d2,b3,d3,b4,d4,b5,d5,rfl,s6,g0,m0,g1,m1,g2,m2,g3,m3,g4,m4,g5,m5⟩:=h2.openMachine;clear h1 h2;go_enter Tryz.func14,Tryz.ntmps14;go_upto_region 1 with (fail)
 refine zA1 (fun W=>Ext w W/\Bk W w.heap.size [.slice a0 x.Plan.Parts.length c0,.slice a1 x.Plan.Channels.length c1,.slice a2 x.Plan.Slots.length c2,.slice a3 x.Programs.length c3,.slice a4 x.Cores.length c4,.slice a5 x.Holds.length c5,.int .i64 x.Tick] 32/\Bk W (w.heap.size+1) [.slice b0 x.Plan.Parts.length d0,.slice b1 x.Plan.Channels.length d1,.slice b2 x.Plan.Slots.length d2,.slice b3 x.Programs.length d3,.slice b4 x.Cores.length d4,.slice b5 x.Holds.length d5,.int .i64 x.Tick] 32) ⟨((zr _).alloc _).alloc _,(Bk.new _ _ _).ext ((zr _).alloc _),Bk.new1 _ _ _ _⟩ ?_
 rintro W ⟨e1,kA,kB⟩;have E:=zh e1;have KA:=zh kA;have KB:=zh kB;have ltA:=kA.lt;have ltB:=kB.lt;obtain⟨x0,x1,x2,x3,x4,x5,x6⟩:=Bk.k7 kA;obtain⟨y0,y1,y2,y3,y4,y5,y6⟩:=Bk.k7 kB;clear e1 kA kB;have HS1:=zh (fun(u:World) (e:Ext w u)=>zE8 _ x.Plan u (Rv.mkSetup (h0.out.ext e) (h1'.out.ext e) (h2'.out.ext e)))
 have HS2:=zh (fun(u:World) (e:Ext w u)=>zE8 _ x.Plan u (Rv.mkSetup (g0.out.ext e) (g1.out.ext e) (g2.out.ext e)))
 obtain⟨N,hN⟩:∃ N,zE3 x.Plan=N:=⟨_,rfl⟩;rw[hN] at HS1 HS2;clear hN;have qt:(x.Tick != x.Tick)=false:=by simp
 go_region_held3 (fun u=>u.cell? ⟨w.heap.size,0,none⟩=some (.slice a0 x.Plan.Parts.length c0)/\u.cell? ⟨w.heap.size,1,none⟩=some (.slice a1 x.Plan.Channels.length c1)/\u.cell? ⟨w.heap.size,2,none⟩=some (.slice a2 x.Plan.Slots.length c2)/\u.cell? ⟨w.heap.size,3,none⟩=some (.slice a3 x.Programs.length c3)/\u.cell? ⟨w.heap.size,4,none⟩=some (.slice a4 x.Cores.length c4)/\u.cell? ⟨w.heap.size,5,none⟩=some (.slice a5 x.Holds.length c5)/\u.cell? ⟨w.heap.size,6,none⟩=some (.int .i64 x.Tick)/\u.cell? ⟨w.heap.size+1,0,none⟩=some (.slice b0 x.Plan.Parts.length d0)/\u.cell? ⟨w.heap.size+1,1,none⟩=some (.slice b1 x.Plan.Channels.length d1)/\u.cell? ⟨w.heap.size+1,2,none⟩=some (.slice b2 x.Plan.Slots.length d2)/\u.cell? ⟨w.heap.size+1,3,none⟩=some (.slice b3 x.Programs.length d3)/\u.cell? ⟨w.heap.size+1,4,none⟩=some (.slice b4 x.Cores.length d4)/\u.cell? ⟨w.heap.size+1,5,none⟩=some (.slice b5 x.Holds.length d5)/\u.cell? ⟨w.heap.size+1,6,none⟩=some (.int .i64 x.Tick))
  (go_keep)
  (first
   | (go_at_call 45;refine(HS1.out _ (E.out.tr (zr W).drew)).mono ?_;rintro e w4 ⟨v4,rfl,ho,he⟩;have HO4:=zh ho.rs;obtain⟨p4,q4,rfl,_⟩:=ho.rs.form;have E4:=zh ((zr W).drew.tr he);clear ho he HS1;have KA4:=zh (KA.out.ext E4.out);have KB4:=zh (KB.out.ext E4.out);obtain⟨z0,z1,z2,z3,z4,z5,z6⟩:=Bk.k7 KA4.out;obtain⟨t0,t1,t2,t3,t4,t5,t6⟩:=Bk.k7 KB4.out;clear KA4 KB4)
   | (go_at_call 45;refine(HS2.out _ (E.out.tr E4.out)).mono ?_;rintro e w5 ⟨v5,rfl,ho,he⟩;have HO5:=zh ho.rs;obtain⟨p5,q5,rfl,_⟩:=ho.rs.form;replace HO4:=zh (HO4.out.ext he);replace E4:=zh (E4.out.tr he);clear ho he;have KA4:=zh (KA.out.ext E4.out);have KB4:=zh (KB.out.ext E4.out);obtain⟨z0,z1,z2,z3,z4,z5,z6⟩:=Bk.k7 KA4.out;obtain⟨t0,t1,t2,t3,t4,t5,t6⟩:=Bk.k7 KB4.out;clear KA4 KB4)
   | (go_at_call 12;refine(law_sameInts _ _ N N _ HO4.out HO5.out).mono ?_;rintro e w6 ⟨rfl,he⟩;rw[Eqb.t (rfl:N=N)];replace E4:=zh (E4.out.tr he);clear he;have KA4:=zh (KA.out.ext E4.out);have KB4:=zh (KB.out.ext E4.out);obtain⟨z0,z1,z2,z3,z4,z5,z6⟩:=Bk.k7 KA4.out;obtain⟨t0,t1,t2,t3,t4,t5,t6⟩:=Bk.k7 KB4.out;clear KA4 KB4))
 clear x0 y0 x1 y1 x2 y2 x3 y3 x4 y4 x5 y5 x6 y6;have x3:=(KA.out.ext E4.out).cell (j:=3) rfl;have lA3:=(KA.out.ext E4.out).lt;go_wp2;go_loopw [5] (fun i wr => ∃ k:Nat,k<=x.Programs.length/\i = .int .i64 k/\Ext W wr) (fun i _=>x.Programs.length - (intOf i).toNat)
 case atStart=>exact⟨0,Nat.zero_le _,rfl,E4.out⟩
 case round =>
  obtain⟨k,hk,rfl,er⟩:=hrel;have ER:=zh er;have ka:=KA.out.ext er;have kb:=KB.out.ext er;have u3:=ka.cell (j:=3) rfl;have v3:=kb.cell (j:=3) rfl;have lua:=ka.lt;have lub:=kb.lt;clear er;by_cases hkt:k < x.Programs.length
  ·obtain⟨b,o,p,pa,pc,rfl,hb,hx,hp0,hs0,hl0⟩:=(h3.out.ext (E.out.tr ER.out)).atList k hkt;obtain⟨b2,o2,p2,qa,qc,rfl,hb2,hx2,hq0,hs2,hl2⟩:=(g3.out.ext (E.out.tr ER.out)).atList k hkt;obtain rfl:p2=p:=Option.some.inj (hx2.out.symm.trans hx.out);clear hx hx2;clear ka kb;go_wp2
   go_region_held3 (fun u=>u.cell? ⟨w.heap.size,3,none⟩=some (.slice (some ⟨b,o,none⟩) x.Programs.length c3)/\u.cell? ⟨w.heap.size+1,3,none⟩=some (.slice (some ⟨b2,o2,none⟩) x.Programs.length d3)/\u.cell? ⟨b,o+k,none⟩=some (.slice pa p2.length pc)/\u.cell? ⟨b2,o2+k,none⟩=some (.slice qa p2.length qc))
    (go_keep)
    ((go_at_call 46;refine(law_sameOrders _ _ p2 p2 _ (hs0.out.ext (zr wr).drew) (hs2.out.ext (zr wr).drew)).mono ?_;rintro e w9 ⟨rfl,he⟩;rw[Eqb.t (rfl:p2=p2)];have E9:=zh ((zr wr).drew.tr he);have q0:=(zA0 E9.out lua).trans u3;have q1:=(zA0 E9.out lub).trans v3;have q2:=(zA0 E9.out hb).trans hp0;have q3:=(zA0 E9.out hb2).trans hq0;clear he))
   go_wp2;exact⟨⟨k+1,by omega,by go_num,ER.out.tr E9.out⟩,by simp[intOf];omega⟩
  ·obtain rfl:k=x.Programs.length:=by omega
   have u4:=ka.cell (j:=4) rfl;clear ka kb v3;obtain⟨wo,rfl⟩:∃ wo,wo=wr:=⟨_,rfl⟩;go_wp2;go_loopw [6] (fun i wr => ∃ k:Nat,k<=x.Cores.length/\i = .int .i64 k/\Ext W wr) (fun i _=>x.Cores.length - (intOf i).toNat)
   case atStart=>exact⟨0,Nat.zero_le _,rfl,ER.out⟩
   case round =>
    obtain⟨k,hk,rfl,er⟩:=hrel;have ER:=zh er;have ka:=KA.out.ext er;have kb:=KB.out.ext er;have u4:=ka.cell (j:=4) rfl;have v4:=kb.cell (j:=4) rfl;have lua:=ka.lt;have lub:=kb.lt;clear er;by_cases hkt:k < x.Cores.length
    ·obtain⟨b,o,p,pa,pc,rfl,hb,hx,hp0,hp1,hp2,hr1,hs0,hl0,hv⟩:=(h4.out.ext (E.out.tr ER.out)).atCore k hkt;obtain⟨b2,o2,p2,qa,qc,rfl,hb2,hx2,hq0,hq1,hq2,hr2,hs2,hl2,hv2⟩:=(g4.out.ext (E.out.tr ER.out)).atCore k hkt;obtain rfl:p2=p:=Option.some.inj (hx2.out.symm.trans hx.out);clear hx hx2 hs0 hs2;clear ka kb;go_wp2
     go_region_held3 (fun u=>u.cell? ⟨w.heap.size,4,none⟩=some (.slice (some ⟨b,o,none⟩) x.Cores.length c4)/\u.cell? ⟨w.heap.size+1,4,none⟩=some (.slice (some ⟨b2,o2,none⟩) x.Cores.length d4)/\u.cell? ⟨b,o+k*3,none⟩=some (.slice pa p2.Cells.length pc)/\u.cell? ⟨b,o+k*3+1,none⟩=some (.int .i64 p2.At)/\u.cell? ⟨b,o+k*3+2,none⟩=some (.bool p2.Stopped)/\u.cell? ⟨b2,o2+k*3,none⟩=some (.slice qa p2.Cells.length qc)/\u.cell? ⟨b2,o2+k*3+1,none⟩=some (.int .i64 p2.At)/\u.cell? ⟨b2,o2+k*3+2,none⟩=some (.bool p2.Stopped))
      (go_keep)
      ((go_at_call 11;refine(law_sameCore _ _ p2 _ (hv.out.ext (zr wr).drew) (hv2.out.ext (zr wr).drew)).mono ?_;rintro e w9 ⟨rfl,he⟩;have E9:=zh ((zr wr).drew.tr he);have q0:=(zA0 E9.out lua).trans u4;have q1:=(zA0 E9.out lub).trans v4;have q2:=(zA0 E9.out hb).trans hp0;have q3:=(zA0 E9.out hb).trans hp1;have q4:=(zA0 E9.out hb).trans hp2;have q5:=(zA0 E9.out hb2).trans hq0;have q6:=(zA0 E9.out hb2).trans hq1;have q7:=(zA0 E9.out hb2).trans hq2;clear he))
     go_wp2;exact⟨⟨k+1,by omega,by go_num,ER.out.tr E9.out⟩,by simp[intOf];omega⟩
    ·obtain rfl:k=x.Cores.length:=by omega
     have u5:=ka.cell (j:=5) rfl;clear ka kb v4;obtain⟨wp,rfl⟩:∃ wp,wp=wr:=⟨_,rfl⟩;go_wp2;go_loopw [7] (fun i wr => ∃ k:Nat,k<=x.Holds.length/\i = .int .i64 k/\Ext W wr) (fun i _=>x.Holds.length - (intOf i).toNat)
     case atStart=>exact⟨0,Nat.zero_le _,rfl,ER.out⟩
     case round =>
      obtain⟨k,hk,rfl,er⟩:=hrel;have ER:=zh er;have ka:=KA.out.ext er;have kb:=KB.out.ext er;have u5:=ka.cell (j:=5) rfl;have v5:=kb.cell (j:=5) rfl;have lua:=ka.lt;have lub:=kb.lt;clear er;by_cases hkt:k < x.Holds.length
      ·obtain⟨b,o,p,pa,pc,rfl,hb,hx,hp0,hs0,hl0,hv⟩:=(h5.out.ext (E.out.tr ER.out)).atHold k hkt;obtain⟨b2,o2,p2,qa,qc,rfl,hb2,hx2,hq0,hs2,hl2,hv2⟩:=(g5.out.ext (E.out.tr ER.out)).atHold k hkt;obtain rfl:p2=p:=Option.some.inj (hx2.out.symm.trans hx.out);clear hx hx2;clear ka kb;go_wp2
       go_region_held3 (fun u=>u.cell? ⟨w.heap.size,5,none⟩=some (.slice (some ⟨b,o,none⟩) x.Holds.length c5)/\u.cell? ⟨w.heap.size+1,5,none⟩=some (.slice (some ⟨b2,o2,none⟩) x.Holds.length d5)/\u.cell? ⟨b,o+k,none⟩=some (.slice pa p2.Lst.length pc)/\u.cell? ⟨b2,o2+k,none⟩=some (.slice qa p2.Lst.length qc))
        (go_keep)
        ((go_at_call 12;refine(law_sameInts _ _ p2.Lst p2.Lst _ (hs0.out.ext (zr wr).drew) (hs2.out.ext (zr wr).drew)).mono ?_;rintro e w9 ⟨rfl,he⟩;rw[Eqb.t (rfl:p2.Lst=p2.Lst)];have E9:=zh ((zr wr).drew.tr he);have q0:=(zA0 E9.out lua).trans u5;have q1:=(zA0 E9.out lub).trans v5;have q2:=(zA0 E9.out hb).trans hp0;have q3:=(zA0 E9.out hb2).trans hq0;clear he))
       go_wp2;exact⟨⟨k+1,by omega,by go_num,ER.out.tr E9.out⟩,by simp[intOf];omega⟩
      ·clear ka kb;go_wp2;go_ret;exact⟨rfl,E.out.tr ER.out⟩
set_option maxHeartbeats 4000000
theorem law_sameWatch(v1 v2:Value)(x:Watch)(w:World)(h1:Rv w v1 x)(h2:Rv w v2 x) :
  Calls Tryz.prog 9 #[v1,v2] w fun e w'=>e = .returned (.bool true)/\Ext w w':=by
 obtain⟨a0,c0,a1,c1,a2,c2,a3,c3,a4,c4,a5,c5,a7,c7,rfl,r6,h0,l0,h1',l1,h2',l2,h3,l3,h4,l4,h5,l5,h7,l7⟩:=h1.openWatch;obtain⟨b0,d0,b1,d1,b2,d2,b3,d3,b4,d4,b5,d5,b7,d7,rfl,s6,g0,m0,g1,m1,g2,m2,g3,m3,g4,m4,g5,m5,g7,m7⟩:=h2.openWatch;clear h1 h2;have RA:=zh (Rv.mkMachine (x:=x.Box) h0.out h1'.out h2'.out h3.out h4.out h5.out r6);have RB:=zh (Rv.mkMachine (x:=x.Box) g0.out g1.out g2.out g3.out g4.out g5.out s6);clear h0 h1' h2' h3 h4 h5 g0 g1 g2 g3 g4 g5;go_enter Tryz.func9,Tryz.ntmps9;go_upto_region 1 with (fail)
 refine zA1 (fun W=>Ext w W/\Bk W w.heap.size [.slice a0 x.Box.Plan.Parts.length c0,.slice a1 x.Box.Plan.Channels.length c1,.slice a2 x.Box.Plan.Slots.length c2,.slice a3 x.Box.Programs.length c3,.slice a4 x.Box.Cores.length c4,.slice a5 x.Box.Holds.length c5,.int .i64 x.Box.Tick,.slice a7 x.States.length c7] 35/\Bk W (w.heap.size+1) [.slice b0 x.Box.Plan.Parts.length d0,.slice b1 x.Box.Plan.Channels.length d1,.slice b2 x.Box.Plan.Slots.length d2,.slice b3 x.Box.Programs.length d3,.slice b4 x.Box.Cores.length d4,.slice b5 x.Box.Holds.length d5,.int .i64 x.Box.Tick,.slice b7 x.States.length d7] 35) ⟨((zr _).alloc _).alloc _,(Bk.new _ _ _).ext ((zr _).alloc _),Bk.new1 _ _ _ _⟩ ?_
 rintro W ⟨e1,kA,kB⟩;have E:=zh e1;have KA:=zh kA;have KB:=zh kB;have ltA:=kA.lt;have ltB:=kB.lt;obtain⟨x0,x1,x2,x3,x4,x5,x6,x7⟩:=Bk.k8 kA;obtain⟨y0,y1,y2,y3,y4,y5,y6,y7⟩:=Bk.k8 kB;clear e1 kA kB
 go_wp2_with (first
   | (go_at_call 14;refine(law_sameMachine _ _ x.Box _ (RA.out.ext E.out) (RB.out.ext E.out)).mono ?_;rintro e w4 ⟨rfl,he⟩;have E4:=zh he;clear he;have KA4:=zh (KA.out.ext E4.out);have KB4:=zh (KB.out.ext E4.out);obtain⟨z0,z1,z2,z3,z4,z5,z6,z7⟩:=Bk.k8 KA4.out;obtain⟨t0,t1,t2,t3,t4,t5,t6,t7⟩:=Bk.k8 KB4.out;clear KA4 KB4)
   | (go_at_call 39;refine(law_sameStates _ _ x.States _ (h7.out.ext (E.out.tr E4.out)) (g7.out.ext (E.out.tr E4.out))).mono ?_;rintro e w5 ⟨rfl,he⟩;replace E4:=zh (E4.out.tr he);clear he;have KA4:=zh (KA.out.ext E4.out);have KB4:=zh (KB.out.ext E4.out);obtain⟨z0,z1,z2,z3,z4,z5,z6,z7⟩:=Bk.k8 KA4.out;obtain⟨t0,t1,t2,t3,t4,t5,t6,t7⟩:=Bk.k8 KB4.out;clear KA4 KB4))
 go_ret;exact⟨rfl,E.out.tr E4.out⟩
set_option maxHeartbeats 1000000
theorem zNh(n:Nat)(cs:List Channel)(hs:List Hold)(K k:Nat):(zD5 n cs hs K)[k]? = if k < K/\cs[k]?.map Channel.To=some (n:Int)/\k < hs.length then some ⟨[]⟩ else hs[k]?:=by
 induction K with
 | zero=>simp[zD5]
 | succ K ih =>
  rw[zCg];have hl:=zE2 n cs hs K;unfold zFk;by_cases e:k=K
  ·subst e
   split
   ·rename_i h1
    by_cases h2:k < hs.length
    ·rw[List.getElem?_set_self (by omega),if_pos ⟨by omega,h1,h2⟩]
    ·rw[if_neg (fun h=>h2 h.2.2),List.getElem?_eq_none (by simp;omega),List.getElem?_eq_none (by omega)]
   ·rename_i h1
    rw[ih,if_neg (by omega),if_neg (fun h=>h1 h.2.1)]
  ·have e2:∀ c:Bool,((if c=true then (zD5 n cs hs K).set K ⟨[]⟩ else zD5 n cs hs K))[k]? = (zD5 n cs hs K)[k]?:=fun c=>by
    cases c
    ·rfl
    ·exact List.getElem?_set_ne (by omega)
   have e3:(if cs[K]?.map Channel.To=some (n:Int) then (zD5 n cs hs K).set K ⟨[]⟩ else zD5 n cs hs K)[k]? = (zD5 n cs hs K)[k]?:=by
    split
    ·exact List.getElem?_set_ne (by omega)
    ·rfl
   rw[e3,ih]
   have:(k < K+1) ↔ (k < K):=by omega
   simp only[this]
set_option maxHeartbeats 4000000
theorem tick_lit{w:World}{B:Nat}{T:TypeId}{a q z:Int}(h:Bk w B [.int .i64 a,.int .i64 q,.int .i64 (-1),.int .i64 (q+1)] T)(ha:0<=a/\a<=40)(hc:0<=q/\q<=1000)(hz:0<=z/\z<=3) :
  ∃ y:Int,w.cell? ⟨B,z.toNat,none⟩=some (.int .i64 y) /\ -1<=y/\y<=1001:=by
 obtain rfl|rfl|rfl|rfl:z=0\/z=1\/z=2\/z=3:=by omega
 ·exact⟨_,h.cell (j:=0) rfl,by omega,by omega⟩
 ·exact⟨_,h.cell (j:=1) rfl,by omega,by omega⟩
 ·exact⟨_,h.cell (j:=2) rfl,by omega,by omega⟩
 ·exact⟨_,h.cell (j:=3) rfl,by omega,by omega⟩
theorem zL1(W w:World)(b m:Nat)(q:Int)(h:Rd W w b (m+2))(hq:0<=q/\q<=1000) :
  Calls Tryz.prog 56 #[.pointer (some ⟨b,0,none⟩),.int .i64 q] w fun e w' => ∃ z:Int,e = .returned (.int .i64 z)/\(-1<=z/\z<=1001)/\Mw [b] w w'/\Rd W w' b m:=by
 have H:=zh h;have hbl:=h.lt;have hw:IntKind.i64.wrap (q+1)=q+1:=zAx (by omega) (by omega)
 clear h;go_enter Tryz.func56,Tryz.ntmps56
 go_wp2_with (first
  | (go_at_call 28;refine(zA7 W _ b m _ (HR1.out.ext (((zr w1).alloc _).alloc _)) (zAg (by omega) (by omega))).mono ?_;rintro e w3 ⟨k3,rfl,hk,hm,hr⟩;obtain⟨z,hz1,hz2⟩:=zGn (zs:=[0,0,0,0,0,0,0,1,2,3]) hm (by simp;omega) hk rfl (by simp);have hk3:=hk.lt (by omega);obtain⟨hk31,hk32⟩:=hk3;have hzb:0<=z/\z<=3:=(by simp only[List.mem_cons,List.not_mem_nil,or_false] at hz2;omega);rw[show(w1.alloc (.cells #[.int .i64 k1,.int .i64 q,.int .i64 (-1),.int .i64 (q+1)] 3)).heap.size=w1.heap.size+1 by simp] at hz1;obtain⟨y,hy1,hy2⟩:=tick_lit (z:=z) (hm.bk ((Bk.new w1 [.int .i64 k1,.int .i64 q,.int .i64 (-1),.int .i64 (q+1)] 3).ext ((zr _).alloc _)) (by simp;omega)) (by omega) (by omega) hzb;have hlw:=hm.lt;have hlz:w1.heap.size+1 < w3.heap.size:=(by rw[hlw];simp);obtain⟨hz3,hz4⟩:=hzb;have HM3:=zh ((HM1.out.tr (Mw.ofExt (((zr w1).alloc _).alloc _))).tr (Mw.ofMo hm));have HR3:=zh hr;clear hk hm hr hlw)
  | (go_at_call 28;refine(zA7 W _ b _ _ H.out (zAg (by omega) (by omega))).mono ?_;rintro e w1 ⟨k1,rfl,hk,hm,hr⟩;have hk1:=hk.lt (by omega);obtain⟨hk11,hk12⟩:=hk1;have HM1:Hid (Mw [b] w w1):=zh (Mw.ofMo hm);have HR1:=zh hr;have hl1:=hr.lt;clear hk hm hr))
 go_ret;exact⟨_,rfl,hy2,HM3.out,HR3.out⟩
set_option maxHeartbeats 2000000
def HBox(T:TypeId)(W w:World)(b B0 Q m:Nat)(u:World):Prop:=Mw [b] w u/\Rd W u b m/\Bk u B0 [.bool false,.int .i64 0] T/\∃ (F:Bool) (R:Int),Bk u Q [.bool F,.int .i64 R] T /\ -10<=R/\R<=10
theorem zFq(W w:World)(b m:Nat)(n:Int)(h:Rd W w b (m+5))(hn:rng n) :
  Calls Tryz.prog 60 #[.pointer (some ⟨b,0,none⟩),.int .i64 n] w fun e w' => ∃ x:Health,e = .returned (.agg #[.bool x.Frozen,.int .i64 x.Restarts])/\rng x.Restarts/\Mw [b] w w'/\Rd W w' b m:=by
 have H:=zh h;have hbl:=h.lt;have hbW:=h.1;have hWw:=h.2.1.sz;clear h;go_enter Tryz.func60,Tryz.ntmps60;go_upto_region 1 with (fail)
 refine zA1 (fun W0=>Ext w W0/\Bk W0 w.heap.size [.bool false,.int .i64 0] 44) ⟨(zr _).alloc _,Bk.new _ _ _⟩ ?_
 rintro W0 ⟨e0,KB⟩;have hlB:=KB.lt;have HRD:=zh (H.out.ext e0);have HMW:Hid (Mw [b] w W0):=zh (Mw.ofExt e0);replace KB:=zh KB;clear e0 H
 generalize hB0:w.heap.size=B0 at *
 replace hB0:=zh hB0;go_upto_region 2 with (go_at_call 28;refine(zA7 W _ b _ _ HRD.out (zAg (by omega) (by omega))).mono ?_;rintro e w1 ⟨k,rfl,hk,hm,hr⟩;have hkb:=hk.lt (by omega);have hsz:=Nat.le_of_eq hm.lt.symm;clear hk;replace HMW:=zh (HMW.out.tr (Mw.ofMo hm));replace KB:=zh (hm.bk KB.out (by simp;omega));replace HRD:=zh hr;clear hm hr)
 obtain⟨Q,hQ⟩:∃ Q,Q=w1.heap.size:=⟨_,rfl⟩;have hBQ:B0 < Q:=by omega
 refine zA1 (HBox 44 W w b B0 Q (m+3)) ⟨HMW.out.tr (Mw.ofExt ((zr _).alloc _)),HRD.out.ext ((zr _).alloc _),KB.out.ext ((zr _).alloc _),_,_,by rw[hQ];exact Bk.new _ _ _,by omega,by omega⟩ ?_
 rw[<- hQ];clear HMW HRD KB hQ hlB;have hbQ:b < Q:=by omega
 rintro W1 ⟨mw1,rd1,kb1,F,R,kq1,r1,r2⟩;have HMW:=zh mw1;have HRD:=zh rd1;have KB:=zh kb1;have KQ:=zh kq1;obtain⟨q0,q1⟩:=Bk.k2 kq1;have qf:=kq1.fz;have ql:=kq1.lt;clear mw1 rd1 kb1 kq1;have step:∀ q:Bool,HBox 44 W w b B0 Q (m+3) (W1.setCell ⟨Q,0,none⟩ (.bool q)):=fun q=>⟨HMW.out.set (.inr (by show _<=Q;have:=hB0.out;omega)) _,HRD.out.set (by show b≠Q;omega) (by show _<=Q;have:=hB0.out;omega) _,KB.out.set_ne (by show B0≠Q;omega) _,q,R,by have:=KQ.out.set 0 (.bool q);simpa using this,r1,r2⟩
 have ST:=zh step;clear step HMW HRD KB KQ;have hcase:(F=true\/(F=false/\(R == 3)=true))\/(F=false/\(R == 3)=false):=by
  cases F
  ·cases h:(R == 3);·exact .inr ⟨rfl,rfl⟩
   ·exact .inl (.inr ⟨rfl,rfl⟩)
  ·exact .inl (.inl rfl)
 rcases hcase with (rfl | ⟨rfl,hR⟩) | ⟨rfl,hR⟩
 all_goals
  go_upto_region 3 with (fail)
  refine zA1 (HBox 44 W w b B0 Q (m+3)) (ST.out _) ?_;clear q0 q1 qf ql ST r1 r2;try clear hR
  rintro W1 ⟨mw1,rd1,kb1,F,R,kq1,r1,r2⟩;have HMW:=zh mw1;have HRD:Hid (Rd W W1 b (m+2+1)):=zh rd1;have KB:=zh kb1;have KQ:=zh kq1;clear mw1 rd1 kb1 kq1;go_upto_if 22 with (go_at_call 61;refine(zFg W _ b _ _ HRD.out hn).mono ?_;rintro e w2 ⟨⟨q,rfl⟩,hm,hr⟩;replace HMW:=zh (HMW.out.tr (Mw.ofMo hm));replace KB:=zh (hm.bk KB.out (by simp;omega));replace KQ:=zh (hm.bk KQ.out (by simp;omega));replace HRD:=zh hr;clear hm hr)
  go_cut [] from 7 (fun wc=>HBox 44 W w b B0 Q m wc)
  case first =>
   cases q
   ·go_wp2;go_meet
    exact⟨HMW.out,HRD.out.le (by omega),KB.out,F,R,KQ.out,r1,r2⟩
   ·go_wp2_with (first
     | (go_at_call 28;refine(zA7 W _ b m _ ((HR3.out:Rd W _ b (m+1)).ext ((zr _).alloc _)) (zAg (by omega) (by omega))).mono ?_;rintro e w4 ⟨k4,rfl,hk4,hm4,hr4⟩;obtain⟨z,hz1,hz2⟩:=zGn (zs:=[-1,4]) hm4 hbw3 hk4 rfl (by simp);have hkb4:=hk4.lt (by omega);obtain⟨hk41,hk42⟩:=hkb4;have hzb : -10<=z/\z<=10:=(by simp only[List.mem_cons,List.not_mem_nil,or_false] at hz2;omega);have HM4:=zh ((HM3.out.tr (Mw.ofExt ((zr _).alloc _))).tr (Mw.ofMo hm4));have KB4:=zh (hm4.bk (KB3.out.ext ((zr _).alloc _)) (by simp;omega));have KQ4:=hm4.bk (KQ3.out.ext ((zr _).alloc _)) (by simp;omega);have r0:=KQ4.cell (j:=0) rfl;have r1':=KQ4.cell (j:=1) rfl;have rf:=KQ4.fz;have rl:=KQ4.lt;have KQ4:=zh KQ4;have HR4:=zh hr4;clear hk4 hm4 hr4)
     | (go_at_call 28;refine(zA7 W _ b (m+1) _ HRD.out (zAg (by omega) (by omega))).mono ?_;rintro e w3 ⟨k,rfl,hk,hm,hr⟩;have HM3:=zh (HMW.out.tr (Mw.ofMo hm));have KB3:=zh (hm.bk KB.out (by simp;omega));have KQ3:=hm.bk KQ.out (by simp;omega);obtain⟨q0,q1⟩:=Bk.k2 KQ3;have qf:=KQ3.fz;have ql:=KQ3.lt;have KQ3:=zh KQ3;have HR3:=zh hr;have hbw3:=hr.lt;clear hk hm hr))
    ·go_meet
     exact⟨HM4.out.set (.inr (by show _<=Q;have:=hB0.out;omega)) _,(HR4.out.le (by omega)).set (by show b≠Q;omega) (by show _<=Q;have:=hB0.out;omega) _,KB4.out.set_ne (by show B0≠Q;omega) _,F,z,by have:=KQ4.out.set 1 (.int .i64 z);simpa using this,by omega,by omega⟩
    ·go_meet
     exact⟨(HM3.out.set (p:=⟨Q,0,none⟩) (.inr (by show _<=Q;have:=hB0.out;omega)) _).set (.inr (by show _<=Q;have:=hB0.out;omega)) _,((HR3.out.le (by omega)).set (p:=⟨Q,0,none⟩) (by show b≠Q;omega) (by show _<=Q;have:=hB0.out;omega) _).set (by show b≠Q;omega) (by show _<=Q;have:=hB0.out;omega) _,(KB3.out.set_ne (p:=⟨Q,0,none⟩) (by show B0≠Q;omega) _).set_ne (by show B0≠Q;omega) _,false,3,by have:=(KQ3.out.set 0 (.bool false)).set 1 (.int .i64 3);simpa using this,by omega,by omega⟩
  case rest =>
   clear HMW HRD KB KQ r1 r2;obtain⟨mw1,rd1,kb1,X,Y,kq1,x1,x2⟩:=hcut;obtain⟨b0,b1⟩:=Bk.k2 kb1;have bf:=kb1.fz;have bl:=kb1.lt;obtain⟨q0,q1⟩:=Bk.k2 kq1;have HMW:=zh mw1;have HRD:=zh rd1;clear mw1 rd1 kb1 kq1;go_wp2;refine bodyPost_ret (v:=.agg #[.bool X,.int .i64 Y]) (by simp[results,Tryz.results60,go_sem,b0,b1]) rfl ⟨⟨X,Y⟩,rfl,zAg (by show _<=Y;omega) (by show Y<=_;omega),?_,?_⟩
   ·exact(HMW.out.set (.inr (by show _<=B0;have:=hB0.out;omega)) _).set (.inr (by show _<=B0;have:=hB0.out;omega)) _
   ·exact(HRD.out.set (by show b≠B0;omega) (by show _<=B0;have:=hB0.out;omega) _).set (by show b≠B0;omega) (by show _<=B0;have:=hB0.out;omega) _
theorem Row.intsT{w:World}{g:Nat}{T:TypeId}:∀ (zs:List Int) (pre:List Value),Bk w g (pre++zs.map (Value.int .i64)) T->(∀ z∈zs,rng z)->Row w g pre.length zs []:=by
 intro zs
 induction zs with
 | nil=>intro pre _ _;exact rfl
 | cons z zs ih =>
  intro pre hb hr;refine⟨[.int .i64 z],[],[],⟨rfl,hr z (List.mem_cons_self ..),rfl⟩,fun j v hj=>?_,rfl,?_⟩
  ·match j,hj with
   | 0,hj=>cases hj;exact hb.cell (by simp)
  ·have:=ih (pre ++ [.int .i64 z]) (by simpa using hb) (fun y hy=>hr y (List.mem_cons_of_mem _ hy))
   have h2:Row w g (pre.length+1) zs []:=by simpa using this
   exact h2
theorem Rsb.intsT{L:Nat}{w:World}{g c:Nat}{T:TypeId}(pre:List Value)(zs:List Int)(hb:Bk w g (pre++zs.map (Value.int .i64)) T)(hr:∀ z∈zs,rng z)(hL:L<=g)(h1:zs.length<=c)(h2:c<=1000):Rsb L w (.slice (some ⟨g,pre.length,none⟩) zs.length c) zs:=by
 by_cases hz:zs = []
 ·exact Rsb.nil (by rw[hz];rfl) hz (by omega)
 ·exact⟨[g],⟨_,c,rfl,h1,by unfold maxLen;omega,.inr ⟨hz,g,pre.length,[],rfl,rfl,Row.intsT zs pre hb hr⟩⟩,fun k hk=>by rw[List.mem_singleton] at hk;omega⟩
def ABox(W w:World)(b m:Nat)(v:Value)(u:World):Prop:=Mw [b] w u/\Rd W u b m/\∃ xs:List Int,Rsb w.heap.size u v xs
theorem zDn(W w:World)(b m:Nat)(n:Int)(h:Rd W w b (m+7))(hn:rng n) :
  Calls Tryz.prog 27 #[.pointer (some ⟨b,0,none⟩),.int .i64 n] w fun e w' => ∃ v xs,e = .returned v/\Rsb (α:=Int) w.heap.size w' v xs/\Mw [b] w w'/\Rd W w' b m:=by
 have HRD:=zh h;have HMW:Hid (Mw [b] w w):=zh (Mw.refl _ _);have hbl:=h.lt;have hbW:=h.1;have hWw:=h.2.1.sz;have hs0:w.heap.size<=w.heap.size:=Nat.le_refl _;clear h;go_enter Tryz.func27,Tryz.ntmps27;go_upto_region 2 with (go_at_call 28;refine(zA7 W _ b _ _ HRD.out (zAg (by omega) (by omega))).mono ?_;rintro e w1 ⟨k,rfl,hk,hm,hr⟩;have hkb:=hk.lt (by omega);have hsz:=Nat.le_of_eq hm.lt.symm;clear hk;replace HMW:=zh (HMW.out.tr (Mw.ofMo hm));replace HRD:=zh hr;clear hm hr)
 have hlw:=HMW.out.size;obtain⟨G,hG⟩:∃ G,G=w1.heap.size:=⟨_,rfl⟩;refine zA1 (fun u=>Mw [b] w u/\Rd W u b (m+3+1)/\∃ a c d:Int,Bk u G [.int .i64 a,.int .i64 c,.int .i64 d] 3/\(0<=a/\a<=10)/\(0<=c/\c<=10)/\0<=d/\d<=10) ⟨HMW.out.tr (Mw.ofExt ((zr _).alloc _)),HRD.out.ext ((zr _).alloc _),_,_,_,by rw[hG];exact Bk.new _ _ _,⟨by omega,by omega⟩,⟨by omega,by omega⟩,by omega,by omega⟩ ?_
 rw[<- hG];clear HMW HRD;rintro W1 ⟨mw1,rd1,x,c,d,kg,⟨a1,a2⟩,⟨c1,c2⟩,d1,d2⟩;have HMW:=zh mw1;have HRD:=zh rd1;have KG:=zh kg;have hwG:w.heap.size<=G:=by omega
 have hbG:b < G:=by omega
 clear mw1 rd1 kg hG;have hrg:∀ z:Int,-10<=z->z<=10->rng z:=fun z h1 h2=>zAg (by omega) (by omega)
 go_upto_if 15 with (go_at_call 61;refine(zFg W _ b _ _ HRD.out hn).mono ?_;rintro e w2 ⟨⟨q,rfl⟩,hm,hr⟩;replace HMW:=zh (HMW.out.tr (Mw.ofMo hm));replace KG:=zh (hm.bk KG.out (by simp;omega));replace HRD:=zh hr;clear hm hr)
 go_cut [5] from 9 (fun v5 wc=>ABox W w b m v5 wc)
 case first =>
  cases q
  ·go_wp2;go_meet
   exact⟨HMW.out,HRD.out.le (by omega),[x,c,d],Rsb.intsT [] [x,c,d] KG.out (by simp;exact⟨hrg _ (by omega) (by omega),hrg _ (by omega) (by omega),hrg _ (by omega) (by omega)⟩) hwG (by simp) (by omega)⟩
  ·replace HRD:Hid (Rd W w2 b (m+1+1+1)):=zh HRD.out;go_upto_if 21 with (go_at_call 28;refine(zA7 W _ b _ _ HRD.out (zAg (by omega) (by omega))).mono ?_;rintro e w3 ⟨k9,rfl,hk9,hm,hr⟩;have hkb9:=hk9.lt (by omega);clear hk9;replace HMW:=zh (HMW.out.tr (Mw.ofMo hm));replace KG:=zh (hm.bk KG.out (by simp;omega));replace HRD:=zh hr;clear hm hr)
   obtain rfl|rfl|rfl:k9=0\/k9=1\/k9=2:=by omega
   ·go_wp2_with (first
     | (go_at_call 28;refine(zA7 W _ b m _ (HR4.out.ext ((zr _).alloc _)) (zAg (by omega) (by omega))).mono ?_;rintro e w5 ⟨k5,rfl,hk5,hm5,hr5⟩;obtain⟨z,hz1,hz2⟩:=zGn (zs:=[-1,3]) hm5 hbw4 hk5 rfl (by simp);have hkb5:=hk5.lt (by omega);obtain⟨hk51,hk52⟩:=hkb5;have hzb : -10<=z/\z<=10:=(by simp only[List.mem_cons,List.not_mem_nil,or_false] at hz2;omega);have HM5:=zh ((HM4.out.tr (Mw.ofExt ((zr _).alloc _))).tr (Mw.ofMo hm5));have KG5:=hm5.bk (KG4.out.ext ((zr _).alloc _)) (by simp;omega);obtain⟨vj,hvj⟩:∃ vj,w5.cell? ⟨G,J,none⟩=some vj:=⟨_,KG5.cell (List.getElem?_eq_getElem (by simpa using hJ))⟩;have gf:=KG5.fz;have gl:=KG5.lt;have KG5:=zh KG5;have HR5:=zh hr5;clear hk5 hm5 hr5)
     | (go_at_call 28;refine(zA7 W _ b (m+1) _ HRD.out (zAg (by omega) (by omega))).mono ?_;rintro e w4 ⟨k4,rfl,hk4,hm4,hr4⟩;have hkb4:=hk4.lt (by omega);obtain⟨J,rfl⟩:∃ J:Nat,k4=J:=⟨k4.toNat,by omega⟩;have hJ:J < 3:=(by omega);have HM4:=zh (HMW.out.tr (Mw.ofMo hm4));have KG4:=zh (hm4.bk KG.out (by simp;omega));have HR4:=zh hr4;have hbw4:=hr4.lt;clear hk4 hm4 hr4 hkb4))
    go_meet
    have hz3:=hrg z (by omega) (by omega)
    refine⟨HM5.out.set (p:=⟨G,J,none⟩) (.inr hwG) _,HR5.out.set (p:=⟨G,J,none⟩) (by show b≠G;omega) (by show W.heap.size<=G;omega) _,[x,c,d].set J z,?_⟩
    have kb:=KG5.out.set J (.int .i64 z);have hl:([x,c,d].set J z).length=3:=by simp
    have:=Rsb.intsT (L:=w.heap.size) (c:=3) (g:=G) [] ([x,c,d].set J z) (by rw[List.map_set];exact kb) (fun y hy=>by
     rcases List.mem_or_eq_of_mem_set hy with h|rfl
     ·simp at h;rcases h with rfl|rfl|rfl<;>exact hrg _ (by omega) (by omega)
     ·exact hz3) hwG (by omega) (by omega)
    rw[hl] at this;exact this
   ·go_wp2;go_meet
    exact⟨HMW.out,HRD.out.le (by omega),[c,d],Rsb.intsT [.int .i64 x] [c,d] KG.out (by simp;exact⟨hrg _ (by omega) (by omega),hrg _ (by omega) (by omega)⟩) hwG (by simp) (by omega)⟩
   ·have HS:Hid (Rs w3 (.slice (some ⟨G,0,none⟩) 3 3) [x,c,d]):=zh (Rsb.intsT (L:=0) [] [x,c,d] KG.out (by simp;exact⟨hrg _ (by omega) (by omega),hrg _ (by omega) (by omega),hrg _ (by omega) (by omega)⟩) (Nat.zero_le _) (by simp) (by omega)).rs
    have hw3:=HMW.out.size;go_wp2_with (at_builtin;refine wpl_appG (α:=Int) rfl _ _ 36 rfl 3 Tryz.underlying36 zDq (n:=3) (xs:=[x,c,d]) (ys:=[0]) rfl (HS.out.ext ((zr _).alloc _)) rfl rfl (Row.lit1 (cs:=[.int .i64 0]) ⟨rfl,⟨by decide,by decide⟩,rfl⟩) (by omega) (by simp) ?_;intro v6 w6 hO6 he6;have O6:=zh hO6;have E6:=zh (((zr w3).alloc _).tr he6);clear hO6 he6)
    go_meet
    exact⟨HMW.out.tr (Mw.ofExt E6.out),(HRD.out.le (by omega)).ext E6.out,_,O6.out.rsb.mono (by simp;omega)⟩
 case rest =>
  clear HMW HRD KG;obtain⟨mw1,rd1,xs,hx⟩:=hcut;have HMW:=zh mw1;have HRD:=zh rd1;have HX:=zh hx;clear mw1 rd1 hx;go_wp2;go_ret;exact⟨_,xs,rfl,HX.out,HMW.out,HRD.out⟩
end Sk
