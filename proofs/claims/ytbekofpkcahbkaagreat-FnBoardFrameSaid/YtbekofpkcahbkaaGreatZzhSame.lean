/- Contracts of functions of the given program. -/
import Derived.Test.YtbekofpkcahbkaaGreatNumsS
import Derived.Test.YtbekofpkcahbkaaGreatZxMch
namespace Sk
open Go Go.Proofs Go.RowKit
set_option maxHeartbeats 8000000
set_option maxRecDepth 100000
set_option linter.unusedVariables false
set_option linter.unusedSimpArgs false
theorem law_sameCore(v1 v2:Value)(x:Core)(w:World)(h1:Rv w v1 x)(h2:Rv w v2 x) :
  Calls Tryz.prog 48 #[v1,v2] w fun e w'=>e = .returned (.bool true)/\Ext w w':=by
 obtain⟨a0,c0,rfl,r1,hs1,l1⟩:=h1.openCore;obtain⟨b0,d0,rfl,r2,hs2,l2⟩:=h2.openCore;clear h1 h2;go_enter Tryz.func48,Tryz.ntmps48;go_upto_region 1 with (fail)
 refine zA1 (fun W=>Ext w W/\Bk W w.heap.size [.slice a0 x.Cells.length c0,.int .i64 x.At,.bool x.Stopped] 36/\Bk W (w.heap.size+1) [.slice b0 x.Cells.length d0,.int .i64 x.At,.bool x.Stopped] 36) ⟨((zr _).alloc _).alloc _,(Bk.new _ _ _).ext ((zr _).alloc _),Bk.new1 _ _ _ _⟩ ?_
 rintro W ⟨e1,kA,kB⟩;have E:=zh e1;have KA:=zh kA;have KB:=zh kB;have ltA:=kA.lt;have ltB:=kB.lt;obtain⟨x0,x1,x2⟩:=Bk.k3 kA;obtain⟨y0,y1,y2⟩:=Bk.k3 kB;clear e1 kA kB;have q1:(x.At == x.At)=true:=by simp
 have q2:(x.Stopped == x.Stopped)=true:=by simp
 go_wp2_with (go_at_call 45;refine(law_sameInts _ _ x.Cells x.Cells _ (hs1.out.ext E.out) (hs2.out.ext E.out)).mono ?_;rintro e w1 ⟨rfl,he⟩;rw[Eqb.t (rfl:x.Cells=x.Cells)];have E1:=zh (E.out.tr he);have p1:=(KA.out.ext he).cell (j:=1) rfl;have p2:=(KA.out.ext he).cell (j:=2) rfl;have s1:=(KB.out.ext he).cell (j:=1) rfl;have s2:=(KB.out.ext he).cell (j:=2) rfl;clear he)
 go_ret;exact⟨(by first|rfl|exact zA2 rfl|simp),E1.out⟩
theorem law_sameMachine(v1 v2:Value)(x:Machine)(w:World)(h1:Rv w v1 x)(h2:Rv w v2 x) :
  Calls Tryz.prog 20 #[v1,v2] w fun e w'=>e = .returned (.bool true)/\Ext w w':=by
 obtain⟨a0,c0,a1,c1,a2,c2,a3,c3,a4,c4,a5,c5,rfl,r6,h0,l0,h1',l1,h2',l2,h3,l3,h4,l4,h5,l5⟩:=h1.openMachine;obtain⟨b0,d0,b1,d1,b2,d2,b3,d3,b4,d4,b5,d5,rfl,s6,g0,m0,g1,m1,g2,m2,g3,m3,g4,m4,g5,m5⟩:=h2.openMachine;clear h1 h2;go_enter Tryz.func20,Tryz.ntmps20;go_upto_region 1 with (fail)
 refine zA1 (fun W=>Ext w W/\Bk W w.heap.size [.slice a0 x.Plan.Parts.length c0,.slice a1 x.Plan.Channels.length c1,.slice a2 x.Plan.Slots.length c2,.slice a3 x.Programs.length c3,.slice a4 x.Cores.length c4,.slice a5 x.Holds.length c5,.int .i64 x.Tick] 46/\Bk W (w.heap.size+1) [.slice b0 x.Plan.Parts.length d0,.slice b1 x.Plan.Channels.length d1,.slice b2 x.Plan.Slots.length d2,.slice b3 x.Programs.length d3,.slice b4 x.Cores.length d4,.slice b5 x.Holds.length d5,.int .i64 x.Tick] 46) ⟨((zr _).alloc _).alloc _,(Bk.new _ _ _).ext ((zr _).alloc _),Bk.new1 _ _ _ _⟩ ?_
 rintro W ⟨e1,kA,kB⟩;have E:=zh e1;have KA:=zh kA;have KB:=zh kB;have ltA:=kA.lt;have ltB:=kB.lt;obtain⟨x0,x1,x2,x3,x4,x5,x6⟩:=Bk.k7 kA;obtain⟨y0,y1,y2,y3,y4,y5,y6⟩:=Bk.k7 kB;clear e1 kA kB;have HS1:=zh (fun(u:World) (e:Ext w u)=>zE0 _ x.Plan u (Rv.mkSetup (h0.out.ext e) (h1'.out.ext e) (h2'.out.ext e)))
 have HS2:=zh (fun(u:World) (e:Ext w u)=>zE0 _ x.Plan u (Rv.mkSetup (g0.out.ext e) (g1.out.ext e) (g2.out.ext e)))
 obtain⟨N,hN⟩:∃ N,zDw x.Plan=N:=⟨_,rfl⟩;rw[hN] at HS1 HS2;clear hN;have qt:(x.Tick != x.Tick)=false:=by simp
 go_region_held3 (fun u=>u.cell? ⟨w.heap.size,0,none⟩=some (.slice a0 x.Plan.Parts.length c0)/\u.cell? ⟨w.heap.size,1,none⟩=some (.slice a1 x.Plan.Channels.length c1)/\u.cell? ⟨w.heap.size,2,none⟩=some (.slice a2 x.Plan.Slots.length c2)/\u.cell? ⟨w.heap.size,3,none⟩=some (.slice a3 x.Programs.length c3)/\u.cell? ⟨w.heap.size,4,none⟩=some (.slice a4 x.Cores.length c4)/\u.cell? ⟨w.heap.size,5,none⟩=some (.slice a5 x.Holds.length c5)/\u.cell? ⟨w.heap.size,6,none⟩=some (.int .i64 x.Tick)/\u.cell? ⟨w.heap.size+1,0,none⟩=some (.slice b0 x.Plan.Parts.length d0)/\u.cell? ⟨w.heap.size+1,1,none⟩=some (.slice b1 x.Plan.Channels.length d1)/\u.cell? ⟨w.heap.size+1,2,none⟩=some (.slice b2 x.Plan.Slots.length d2)/\u.cell? ⟨w.heap.size+1,3,none⟩=some (.slice b3 x.Programs.length d3)/\u.cell? ⟨w.heap.size+1,4,none⟩=some (.slice b4 x.Cores.length d4)/\u.cell? ⟨w.heap.size+1,5,none⟩=some (.slice b5 x.Holds.length d5)/\u.cell? ⟨w.heap.size+1,6,none⟩=some (.int .i64 x.Tick))
  (go_keep)
  (first
   | (go_at_call 46;refine(HS1.out _ (E.out.tr (zr W).drew)).mono ?_;rintro e w4 ⟨v4,rfl,ho,he⟩;have HO4:=zh ho.rs;obtain⟨p4,q4,rfl,_⟩:=ho.rs.form;have E4:=zh ((zr W).drew.tr he);clear ho he HS1;have KA4:=zh (KA.out.ext E4.out);have KB4:=zh (KB.out.ext E4.out);obtain⟨z0,z1,z2,z3,z4,z5,z6⟩:=Bk.k7 KA4.out;obtain⟨t0,t1,t2,t3,t4,t5,t6⟩:=Bk.k7 KB4.out;clear KA4 KB4)
   | (go_at_call 46;refine(HS2.out _ (E.out.tr E4.out)).mono ?_;rintro e w5 ⟨v5,rfl,ho,he⟩;have HO5:=zh ho.rs;obtain⟨p5,q5,rfl,_⟩:=ho.rs.form;replace HO4:=zh (HO4.out.ext he);replace E4:=zh (E4.out.tr he);clear ho he;have KA4:=zh (KA.out.ext E4.out);have KB4:=zh (KB.out.ext E4.out);obtain⟨z0,z1,z2,z3,z4,z5,z6⟩:=Bk.k7 KA4.out;obtain⟨t0,t1,t2,t3,t4,t5,t6⟩:=Bk.k7 KB4.out;clear KA4 KB4)
   | (go_at_call 45;refine(law_sameInts _ _ N N _ HO4.out HO5.out).mono ?_;rintro e w6 ⟨rfl,he⟩;rw[Eqb.t (rfl:N=N)];replace E4:=zh (E4.out.tr he);clear he;have KA4:=zh (KA.out.ext E4.out);have KB4:=zh (KB.out.ext E4.out);obtain⟨z0,z1,z2,z3,z4,z5,z6⟩:=Bk.k7 KA4.out;obtain⟨t0,t1,t2,t3,t4,t5,t6⟩:=Bk.k7 KB4.out;clear KA4 KB4))
 clear x0 y0 x1 y1 x2 y2 x3 y3 x4 y4 x5 y5 x6 y6;have x3:=(KA.out.ext E4.out).cell (j:=3) rfl;have lA3:=(KA.out.ext E4.out).lt;go_wp2;go_loopw [5] (fun i wr => ∃ k:Nat,k<=x.Programs.length/\i = .int .i64 k/\Ext W wr) (fun i _=>x.Programs.length - (intOf i).toNat)
 case atStart=>exact⟨0,Nat.zero_le _,rfl,E4.out⟩
 case round =>
  obtain⟨k,hk,rfl,er⟩:=hrel;have ER:=zh er;have ka:=KA.out.ext er;have kb:=KB.out.ext er;have u3:=ka.cell (j:=3) rfl;have v3:=kb.cell (j:=3) rfl;have lua:=ka.lt;have lub:=kb.lt;clear er;by_cases hkt:k < x.Programs.length
  ·obtain⟨b,o,p,pa,pc,rfl,hb,hx,hp0,hs0,hl0⟩:=(h3.out.ext (E.out.tr ER.out)).atList k hkt;obtain⟨b2,o2,p2,qa,qc,rfl,hb2,hx2,hq0,hs2,hl2⟩:=(g3.out.ext (E.out.tr ER.out)).atList k hkt;obtain rfl:p2=p:=Option.some.inj (hx2.out.symm.trans hx.out);clear hx hx2;clear ka kb;go_wp2
   go_region_held3 (fun u=>u.cell? ⟨w.heap.size,3,none⟩=some (.slice (some ⟨b,o,none⟩) x.Programs.length c3)/\u.cell? ⟨w.heap.size+1,3,none⟩=some (.slice (some ⟨b2,o2,none⟩) x.Programs.length d3)/\u.cell? ⟨b,o+k,none⟩=some (.slice pa p2.length pc)/\u.cell? ⟨b2,o2+k,none⟩=some (.slice qa p2.length qc))
    (go_keep)
    ((go_at_call 47;refine(law_sameOrders _ _ p2 p2 _ (hs0.out.ext (zr wr).drew) (hs2.out.ext (zr wr).drew)).mono ?_;rintro e w9 ⟨rfl,he⟩;rw[Eqb.t (rfl:p2=p2)];have E9:=zh ((zr wr).drew.tr he);have q0:=(zA0 E9.out lua).trans u3;have q1:=(zA0 E9.out lub).trans v3;have q2:=(zA0 E9.out hb).trans hp0;have q3:=(zA0 E9.out hb2).trans hq0;clear he))
   go_wp2;exact⟨⟨k+1,by omega,by go_num,ER.out.tr E9.out⟩,by simp[intOf];omega⟩
  ·obtain rfl:k=x.Programs.length:=by omega
   have u4:=ka.cell (j:=4) rfl;clear ka kb v3;obtain⟨wo,rfl⟩:∃ wo,wo=wr:=⟨_,rfl⟩;go_wp2;go_loopw [6] (fun i wr => ∃ k:Nat,k<=x.Cores.length/\i = .int .i64 k/\Ext W wr) (fun i _=>x.Cores.length - (intOf i).toNat)
   case atStart=>exact⟨0,Nat.zero_le _,rfl,ER.out⟩
   case round =>
    obtain⟨k,hk,rfl,er⟩:=hrel;have ER:=zh er;have ka:=KA.out.ext er;have kb:=KB.out.ext er;have u4:=ka.cell (j:=4) rfl;have v4:=kb.cell (j:=4) rfl;have lua:=ka.lt;have lub:=kb.lt;clear er;by_cases hkt:k < x.Cores.length
    ·obtain⟨b,o,p,pa,pc,rfl,hb,hx,hp0,hp1,hp2,hr1,hs0,hl0,hv⟩:=(h4.out.ext (E.out.tr ER.out)).atCore k hkt;obtain⟨b2,o2,p2,qa,qc,rfl,hb2,hx2,hq0,hq1,hq2,hr2,hs2,hl2,hv2⟩:=(g4.out.ext (E.out.tr ER.out)).atCore k hkt;obtain rfl:p2=p:=Option.some.inj (hx2.out.symm.trans hx.out);clear hx hx2 hs0 hs2;clear ka kb;go_wp2
     go_region_held3 (fun u=>u.cell? ⟨w.heap.size,4,none⟩=some (.slice (some ⟨b,o,none⟩) x.Cores.length c4)/\u.cell? ⟨w.heap.size+1,4,none⟩=some (.slice (some ⟨b2,o2,none⟩) x.Cores.length d4)/\u.cell? ⟨b,o+k*3,none⟩=some (.slice pa p2.Cells.length pc)/\u.cell? ⟨b,o+k*3+1,none⟩=some (.int .i64 p2.At)/\u.cell? ⟨b,o+k*3+2,none⟩=some (.bool p2.Stopped)/\u.cell? ⟨b2,o2+k*3,none⟩=some (.slice qa p2.Cells.length qc)/\u.cell? ⟨b2,o2+k*3+1,none⟩=some (.int .i64 p2.At)/\u.cell? ⟨b2,o2+k*3+2,none⟩=some (.bool p2.Stopped))
      (go_keep)
      ((go_at_call 48;refine(law_sameCore _ _ p2 _ (hv.out.ext (zr wr).drew) (hv2.out.ext (zr wr).drew)).mono ?_;rintro e w9 ⟨rfl,he⟩;have E9:=zh ((zr wr).drew.tr he);have q0:=(zA0 E9.out lua).trans u4;have q1:=(zA0 E9.out lub).trans v4;have q2:=(zA0 E9.out hb).trans hp0;have q3:=(zA0 E9.out hb).trans hp1;have q4:=(zA0 E9.out hb).trans hp2;have q5:=(zA0 E9.out hb2).trans hq0;have q6:=(zA0 E9.out hb2).trans hq1;have q7:=(zA0 E9.out hb2).trans hq2;clear he))
     go_wp2;exact⟨⟨k+1,by omega,by go_num,ER.out.tr E9.out⟩,by simp[intOf];omega⟩
    ·obtain rfl:k=x.Cores.length:=by omega
     have u5:=ka.cell (j:=5) rfl;clear ka kb v4;obtain⟨wp,rfl⟩:∃ wp,wp=wr:=⟨_,rfl⟩;go_wp2;go_loopw [7] (fun i wr => ∃ k:Nat,k<=x.Holds.length/\i = .int .i64 k/\Ext W wr) (fun i _=>x.Holds.length - (intOf i).toNat)
     case atStart=>exact⟨0,Nat.zero_le _,rfl,ER.out⟩
     case round =>
      obtain⟨k,hk,rfl,er⟩:=hrel;have ER:=zh er;have ka:=KA.out.ext er;have kb:=KB.out.ext er;have u5:=ka.cell (j:=5) rfl;have v5:=kb.cell (j:=5) rfl;have lua:=ka.lt;have lub:=kb.lt;clear er;by_cases hkt:k < x.Holds.length
      ·obtain⟨b,o,p,pa,pc,rfl,hb,hx,hp0,hs0,hl0,hv⟩:=(h5.out.ext (E.out.tr ER.out)).atHold k hkt;obtain⟨b2,o2,p2,qa,qc,rfl,hb2,hx2,hq0,hs2,hl2,hv2⟩:=(g5.out.ext (E.out.tr ER.out)).atHold k hkt;obtain rfl:p2=p:=Option.some.inj (hx2.out.symm.trans hx.out);clear hx hx2;clear ka kb;go_wp2
       go_region_held3 (fun u=>u.cell? ⟨w.heap.size,5,none⟩=some (.slice (some ⟨b,o,none⟩) x.Holds.length c5)/\u.cell? ⟨w.heap.size+1,5,none⟩=some (.slice (some ⟨b2,o2,none⟩) x.Holds.length d5)/\u.cell? ⟨b,o+k,none⟩=some (.slice pa p2.Lst.length pc)/\u.cell? ⟨b2,o2+k,none⟩=some (.slice qa p2.Lst.length qc))
        (go_keep)
        ((go_at_call 45;refine(law_sameInts _ _ p2.Lst p2.Lst _ (hs0.out.ext (zr wr).drew) (hs2.out.ext (zr wr).drew)).mono ?_;rintro e w9 ⟨rfl,he⟩;rw[Eqb.t (rfl:p2.Lst=p2.Lst)];have E9:=zh ((zr wr).drew.tr he);have q0:=(zA0 E9.out lua).trans u5;have q1:=(zA0 E9.out lub).trans v5;have q2:=(zA0 E9.out hb).trans hp0;have q3:=(zA0 E9.out hb2).trans hq0;clear he))
       go_wp2;exact⟨⟨k+1,by omega,by go_num,ER.out.tr E9.out⟩,by simp[intOf];omega⟩
      ·clear ka kb;go_wp2;go_ret;exact⟨rfl,E.out.tr ER.out⟩
set_option maxHeartbeats 4000000
theorem Oa.slF{α:Type}[GT α]{e:TypeId}{L:Nat}{w:World}{v:Value}{xs:List α}{F:List Nat}(h:Oa e L w v xs F):∃ F',Sl w v xs F'/\∀ k∈F',v.ownBlock=some k\/k∈F:=by
 rcases h with ⟨rfl,rfl,rfl⟩ | ⟨g,cap,cur,rfl,hL,hg,hl,hc,hs,hr,hn⟩
 ·exact⟨[],⟨none,0,rfl,Nat.le_refl _,Nat.zero_le _,.inl ⟨rfl,rfl⟩⟩,fun k hk=>by cases hk⟩
 ·by_cases hx:xs = []
  ·subst hx;exact⟨[],⟨_,cap,rfl,hl,hc,.inl ⟨rfl,rfl⟩⟩,fun k hk=>by cases hk⟩
  ·exact⟨g::F,⟨_,cap,rfl,hl,hc,.inr ⟨hx,g,0,F,rfl,rfl,hr⟩⟩,fun k hk=>by
    rcases List.mem_cons.1 hk with rfl|hk
    ·exact .inl rfl
    ·exact .inr hk⟩
set_option maxHeartbeats 8000000
theorem law_sameBoard(v1 v2:Value)(x:Board)(w:World)(h1:Rv w v1 x)(h2:Rv w v2 x) :
  Calls Tryz.prog 8 #[v1,v2] w fun e w'=>e = .returned (.bool true)/\Ext w w':=by
 obtain⟨a0,c0,a1,c1,rfl,s0,l0,s1,l1⟩:=h1.openBoard;obtain⟨b0,d0,b1,d1,rfl,tb0,m0,tb1,m1⟩:=h2.openBoard;clear h1 h2;go_enter Tryz.func8,Tryz.ntmps8;go_upto_region 1 with (fail)
 refine zA1 (fun W=>Ext w W/\Bk W w.heap.size [.slice a0 x.Boxes.length c0,.slice a1 x.Wires.length c1] 26/\Bk W (w.heap.size+1) [.slice b0 x.Boxes.length d0,.slice b1 x.Wires.length d1] 26) ⟨((zr _).alloc _).alloc _,(Bk.new _ _ _).ext ((zr _).alloc _),Bk.new1 _ _ _ _⟩ ?_
 rintro W ⟨e1,kA,kB⟩;have HE:=zh e1;have KA:=zh kA;have KB:=zh kB;replace s0:=zh (s0.out.ext e1);replace s1:=zh (s1.out.ext e1);replace tb0:=zh (tb0.out.ext e1);replace tb1:=zh (tb1.out.ext e1);clear e1 kA kB;have E:=zh (zr W);have hn0:((x.Boxes.length:Int) != (x.Boxes.length:Int))=false:=by simp
 have hn1:((x.Wires.length:Int) != (x.Wires.length:Int))=false:=by simp
 obtain⟨la0,la1,laL⟩:=Bk.j2 (KA.out.ext E.out);obtain⟨lb0,lb1,lbL⟩:=Bk.j2 (KB.out.ext E.out);go_wp2;go_loopw [5] (fun i wr => ∃ k:Nat,k<=x.Boxes.length/\i = .int .i64 k/\Ext W wr) (fun i _=>x.Boxes.length - (intOf i).toNat)
 case atStart=>exact⟨0,Nat.zero_le _,rfl,E.out⟩
 case round =>
  obtain⟨k,hk,rfl,er⟩:=hrel;replace E:=zh er;clear er la0 la1 lb0 lb1 laL lbL;have f0:=(KA.out.ext E.out).cell (j:=0) rfl;have fL:=(KA.out.ext E.out).lt;have g0:=(KB.out.ext E.out).cell (j:=0) rfl;have gL:=(KB.out.ext E.out).lt;by_cases hkt:k < x.Boxes.length
  ·obtain⟨g,s,m,p0,q0,p1,q1,p2,q2,p3,q3,p4,q4,p5,q5,rfl,hb,hx,hp0,hp1,hp2,hp3,hp4,hp5,hp6,-,-,-,-,-,-,-,-,-,-,-,-,-,hv⟩:=s0.out.atMachine k hkt;obtain⟨g2,s2,m2,r0,t0,r1,t1,r2,t2,r3,t3,r4,t4,r5,t5,rfl,hb2,hx2,hq0,hq1,hq2,hq3,hq4,hq5,hq6,-,-,-,-,-,-,-,-,-,-,-,-,-,hv2⟩:=tb0.out.atMachine k hkt;obtain rfl:m2=m:=Option.some.inj (hx2.out.symm.trans hx.out);clear hx hx2;have j0:=(zA0 E.out hb).trans hp0;have j1:=(zA0 E.out hb).trans hp1;have j2:=(zA0 E.out hb).trans hp2;have j3:=(zA0 E.out hb).trans hp3;have j4:=(zA0 E.out hb).trans hp4;have j5:=(zA0 E.out hb).trans hp5;have j6:=(zA0 E.out hb).trans hp6;have n0:=(zA0 E.out hb2).trans hq0;have n1:=(zA0 E.out hb2).trans hq1;have n2:=(zA0 E.out hb2).trans hq2;have n3:=(zA0 E.out hb2).trans hq3;have n4:=(zA0 E.out hb2).trans hq4;have n5:=(zA0 E.out hb2).trans hq5;have n6:=(zA0 E.out hb2).trans hq6;go_wp2
   go_region_held3 (fun u=>u.cell? ⟨w.heap.size,0,none⟩=some (.slice (some ⟨g,s,none⟩) x.Boxes.length c0)/\u.cell? ⟨w.heap.size+1,0,none⟩=some (.slice (some ⟨g2,s2,none⟩) x.Boxes.length d0)/\u.cell? ⟨g,s+k*7,none⟩=some (.slice p0 m2.Plan.Parts.length q0)/\u.cell? ⟨g,s+k*7+1,none⟩=some (.slice p1 m2.Plan.Channels.length q1)/\u.cell? ⟨g,s+k*7+2,none⟩=some (.slice p2 m2.Plan.Slots.length q2)/\u.cell? ⟨g,s+k*7+3,none⟩=some (.slice p3 m2.Programs.length q3)/\u.cell? ⟨g,s+k*7+4,none⟩=some (.slice p4 m2.Cores.length q4)/\u.cell? ⟨g,s+k*7+5,none⟩=some (.slice p5 m2.Holds.length q5)/\u.cell? ⟨g,s+k*7+6,none⟩=some (.int .i64 m2.Tick)/\u.cell? ⟨g2,s2+k*7,none⟩=some (.slice r0 m2.Plan.Parts.length t0)/\u.cell? ⟨g2,s2+k*7+1,none⟩=some (.slice r1 m2.Plan.Channels.length t1)/\u.cell? ⟨g2,s2+k*7+2,none⟩=some (.slice r2 m2.Plan.Slots.length t2)/\u.cell? ⟨g2,s2+k*7+3,none⟩=some (.slice r3 m2.Programs.length t3)/\u.cell? ⟨g2,s2+k*7+4,none⟩=some (.slice r4 m2.Cores.length t4)/\u.cell? ⟨g2,s2+k*7+5,none⟩=some (.slice r5 m2.Holds.length t5)/\u.cell? ⟨g2,s2+k*7+6,none⟩=some (.int .i64 m2.Tick))
    (go_keep)
    ((go_at_call 20;refine(law_sameMachine _ _ m2 _ (hv.out.ext (E.out.tr (zr _).drew)) (hv2.out.ext (E.out.tr (zr _).drew))).mono ?_;rintro e w9 ⟨rfl,he⟩;replace E:=zh ((E.out.tr (zr wr).drew).tr he);have v0:=(KA.out.ext E.out).cell (j:=0) rfl;have vL:=(KA.out.ext E.out).lt;have z0:=(KB.out.ext E.out).cell (j:=0) rfl;have zL:=(KB.out.ext E.out).lt;have y0:=(zA0 E.out hb).trans hp0;have y1:=(zA0 E.out hb).trans hp1;have y2:=(zA0 E.out hb).trans hp2;have y3:=(zA0 E.out hb).trans hp3;have y4:=(zA0 E.out hb).trans hp4;have y5:=(zA0 E.out hb).trans hp5;have y6:=(zA0 E.out hb).trans hp6;have i0:=(zA0 E.out hb2).trans hq0;have i1:=(zA0 E.out hb2).trans hq1;have i2:=(zA0 E.out hb2).trans hq2;have i3:=(zA0 E.out hb2).trans hq3;have i4:=(zA0 E.out hb2).trans hq4;have i5:=(zA0 E.out hb2).trans hq5;have i6:=(zA0 E.out hb2).trans hq6;clear he))
   go_wp2;exact⟨⟨k+1,by omega,by go_num,E.out⟩,by simp[intOf];omega⟩
  obtain rfl:k=x.Boxes.length:=by omega
  have f1:=(KA.out.ext E.out).cell (j:=1) rfl;obtain⟨wo,rfl⟩:∃ wo,wo=wr:=⟨_,rfl⟩;go_wp2;clear f0 fL g0 gL f1;go_loopw [6] (fun i wr => ∃ k:Nat,k<=x.Wires.length/\i = .int .i64 k/\Ext W wr) (fun i _=>x.Wires.length - (intOf i).toNat)
  case atStart=>exact⟨0,Nat.zero_le _,rfl,E.out⟩
  case round =>
   obtain⟨k,hk,rfl,er⟩:=hrel;replace E:=zh er;clear er;have f1:=(KA.out.ext E.out).cell (j:=1) rfl;have fL:=(KA.out.ext E.out).lt;have g1:=(KB.out.ext E.out).cell (j:=1) rfl;have gL:=(KB.out.ext E.out).lt;by_cases hkt:k < x.Wires.length
   ·obtain⟨g,s,m,rfl,hb,hx,hp0,hp1,hp2,hp3,hp4,hp5,-,-,-,-,-,-,-⟩:=(s1.out.ext E.out).atWire k hkt;obtain⟨g2,s2,m2,rfl,hb2,hx2,hq0,hq1,hq2,hq3,hq4,hq5,-,-,-,-,-,-,-⟩:=(tb1.out.ext E.out).atWire k hkt;obtain rfl:m2=m:=Option.some.inj (hx2.out.symm.trans hx.out);clear hx hx2;have q0:(m2.From == m2.From)=true:=by simp
    have q1:(m2.FromPart == m2.FromPart)=true:=by simp
    have q2:(m2.FromCell == m2.FromCell)=true:=by simp
    have q3:(m2.To == m2.To)=true:=by simp
    have q4:(m2.ToPart == m2.ToPart)=true:=by simp
    have q5:(m2.ToCell == m2.ToCell)=true:=by simp
    go_wp2;go_quiet (fail)
    go_wp2;go_roundw
    case rel=>exact⟨k+1,by omega,by go_num,E.out.drewN _⟩
    case measure=>simp[intOf];omega
   go_wp2;go_ret;exact⟨rfl,HE.out.tr E.out⟩
end Sk
