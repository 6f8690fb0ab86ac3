/- Contracts of functions of the given program. -/
import Derived.Test.YtpjdkfkfmebphaaGreatZyBdT
namespace Sk
open Go Go.Proofs Go.RowKit
set_option maxHeartbeats 4000000
set_option maxRecDepth 100000
set_option linter.unusedVariables false
set_option linter.unusedSimpArgs false
theorem zKk(v:Value)(x:Board)(w:World)(h:Rv w v x)(hv:zMs x) :
  Calls Tryz.prog 47 #[v] w fun e w' => ∃ v',e = .returned v'/\Ov w.heap.size w' v' (M.cw x)/\Ext w w':=by
 obtain⟨a0,c0,a1,c1,rfl,h0,l0,h1,l1⟩:=h.openBoard;clear h;have HV:=zh hv;have HN:Hid (∀ m∈x.Boxes,GT.tot m<=1048576):=zh fun m hm=>Nat.le_trans (zDx (hv.box m hm)) (by omega)
 have hb3:=hv.nb;have hw6:=hv.nw;clear hv;go_enter Tryz.func47,Tryz.ntmps47;go_upto_region 1 with (fail)
 refine zA1 (fun W=>Ext w W/\Bk W w.heap.size [.slice a0 x.Boxes.length c0,.slice a1 x.Wires.length c1] 51/\Bk W (w.heap.size+1) [.slice none 0 0,.slice none 0 0] 51) ⟨((zr _).alloc _).alloc _,(Bk.new _ _ _).ext ((zr _).alloc _),Bk.new1 _ _ _ _⟩ ?_
 rintro W ⟨e1,kA,kB⟩;have E:=zh e1;have KA:=zh kA;have KB:=zh kB;obtain⟨d0,d1⟩:=Bk.k2 kA;have LTB:=zh kB.lt;clear e1 kA kB;go_upto_region 2 with (go_at_call 90;refine(zHt _ x _ (Rv.mkBoard (h0.out.ext E.out) (h1.out.ext E.out)) HN.out (by omega) (by omega)).mono ?_;rintro e w1 ⟨v1,rfl,hov,he⟩;obtain⟨p0,q0,p1,q1,F1,rfl,hen,how⟩:=hov.openBd;have E1:=zh he;have HEN:=zh hen;have HOW:=zh how;clear hen how he hov)
 refine zA1 (fun u=>Ext w1 u/\Bk u w1.heap.size [.slice p0 x.Boxes.length q0,.slice p1 x.Wires.length q1] 51) ⟨(zr _).alloc _,Bk.new _ _ _⟩ ?_
 rintro W2 ⟨e2,k2⟩;have OM0:Hid (Om W.heap.size W2 w1.heap.size 0 (Board.mk (zFx x 0) x.Wires) F1):=zh (Om.ofBkO (x:=x) (GT.ext HEN.out e2) (HOW.out.ext e2) k2 E1.out.sz (fun hm=>by have:=HOW.out.lt hm;omega))
 have E2:=zh (E1.out.tr e2);have f1:=(KA.out.ext E2.out).cell (j:=1) rfl
 generalize w1.heap.size=B at *
 clear e2 k2 HEN HOW d0 d1;go_wp2;go_loopw [11] (fun i wr => ∃ (k:Nat) (F:List Nat),k<=x.Wires.length/\i = .int .i64 k/\Ext W wr/\Om W.heap.size wr B 0 (Board.mk (zFx x k) x.Wires) F) (fun i _=>x.Wires.length - (intOf i).toNat)
 case atStart=>exact⟨0,F1,Nat.zero_le _,rfl,E2.out,OM0.out⟩
 case round =>
  obtain⟨k,Fk,hk,rfl,er,om⟩:=hrel;have ER:=zh er;have OMk:=zh om;clear er om;by_cases hkt:k < x.Wires.length
  ·obtain⟨bw,ow,v,rfl,hbw,hxv,j0,j1,j2,j3,j4,j5,jr0,jr1,jr2,jr3,jr4,jr5,-⟩:=(h1.out.ext (E.out.tr ER.out)).atWire k hkt;obtain⟨X,Y,Z,m,c,e1,e2,e3,hm,hc,hz,hcv,hv1,hv2⟩:=HV.out.src hxv.out;obtain⟨X',Y',Z',m',c',e4,e5,e6,hm',hc',hz',hstep⟩:=HV.out.dst hxv.out;go_upto_region 5 with (fail)
   refine zA1 (fun W=>Ext wr W/\Bk W wr.heap.size [.int .i64 X,.int .i64 Y,.int .i64 Z,.int .i64 X',.int .i64 Y',.int .i64 Z'] 48) ⟨(zr _).alloc _,Bk.new _ _ _⟩ ?_
   rintro W5 ⟨ex5,k5⟩;obtain⟨i0,i1,i2,i3,i4,i5⟩:=Bk.k6 k5;have d0:=(KA.out.ext (ER.out.tr ex5)).cell (j:=0) rfl;obtain⟨g0,s0,n0,g1,s1,n1,g2,s2,n2,y0,y1,y2,y3,yf,hL2,hn2,hput⟩:=(OMk.out.ext (ex5.tr (zr W5).drew)).bcell (x:=(Board.mk (zFx x k) x.Wires)) hm' hc' hz';obtain⟨b9,o9,mm,aa0,cc0,aa1,cc1,aa2,cc2,aa3,cc3,aa4,cc4,aa5,cc5,rfl,hb9,hx9,-,-,-,-,q4,-,-,-,-,-,-,-,-,-,-,-,hs4,-,-,-,-⟩:=(h0.out.ext (E.out.tr (ER.out.tr ex5))).atMachine X (zA7 hm);obtain rfl:mm=m:=Option.some.inj (hx9.out.symm.trans hm);obtain⟨b8,o8,cc,wa,wc,rfl,hb8,hx8,q0,-,-,-,hs8,-,-⟩:=hs4.out.atCore Y (zA7 hc);obtain rfl:cc=c:=Option.some.inj (hx8.out.symm.trans hc);obtain⟨b7,o7,z7,rfl,hb7,hx7,q7,-⟩:=hs8.out.atInt Z hz;obtain rfl:z7=zFg x v:=Option.some.inj (hx7.out.symm.trans hcv);obtain⟨F5,om5⟩:=hput (zFg x v) ⟨by omega,by omega⟩
   rw[<- hstep] at om5;have OM5:=zh om5;have X1:=zA7 hm;have X2:=zA7 hc;have X3:=zA7 hm';have X4:=zA7 hc';have y0':W5.cell? ⟨B,0,none⟩=_:=y0;have y1':W5.cell? ⟨g0,s0+X'*7+4,none⟩=_:=y1;have y2':W5.cell? ⟨g1,s1+Y'*3,none⟩=_:=y2;have EX5:=zh (ER.out.tr (ex5.tr (zr W5).drew));have hs5:=E.out.sz;clear om5 hput hstep ex5 k5 hs4 hs8 hxv j0 j1 j2 j3 j4 j5 hcv e1 e2 e3 e4 e5 e6 hm hc hm' hc';refine zAa 30 (by kernel_rfl) (by kernel_rfl) ?_
   simp only[List.take_succ_cons,List.take_zero,List.drop_succ_cons,List.drop_zero]
   repeat (go_big_quiet_step (fail))
   refine wpQuiet_nil ?_
   change wpList _ _ _ _ _ W5.drew
   clear y0' y1' y2' y0 y1 y2 d0 i0 i1 i2 i3 i4 i5 q0 q4 q7;go_wp2;exact⟨⟨k+1,F5,by omega,by go_num,EX5.out.set (p:=⟨g2,s2+Z',none⟩) hL2 _,OM5.out⟩,by simp[intOf];omega⟩
  ·obtain rfl:k=x.Wires.length:=by omega
   obtain⟨p0,q0,p1,q1,y0,y1,hen,how,hBF⟩:=OMk.out.openBd;have bf:=OMk.out.bk.2.2.2;have ltB:=OMk.out.bk.1;have hLB:=OMk.out.bk.2.1;have KBx:=KB.out.ext ER.out;obtain⟨z0,z1⟩:=Bk.k2 KBx;have zf:=KBx.fz;have ltZ:=KBx.lt;have hs5:=E.out.sz;have hs6:=LTB.out;have hZ:w.heap.size+1 ∉ Fk:=fun hm=>by have:=(how.out.2 _ hm).1;omega
   clear KBx;obtain⟨r,hr⟩:∃ r,M.cw x=r:=⟨_,rfl⟩;have hr2:Board.mk (zFx x x.Wires.length) x.Wires=r:=hr;rw[hr2] at y0 y1 hen;have EQ:=zh hr;clear hr hr2;go_wp2;refine bodyPost_ret (v:=.agg #[.slice p0 r.Boxes.length q0,.slice p1 r.Wires.length q1]) (by simp[results,Tryz.results47,go_sem,z0,z1]) rfl ⟨_,rfl,by rw[EQ.out];exact⟨_,_,rfl,zBp (c:=w.heap.size+1) (o:=0) (ds:=[.slice p0 r.Boxes.length q0,.slice p1 r.Wires.length q1]) hen.out hZ,((how.out.mono (by omega)).puts (b:=w.heap.size+1) (o:=0) [.slice p0 r.Boxes.length q0,.slice p1 r.Wires.length q1])⟩,?_⟩
   exact Ext.puts (b:=w.heap.size+1) (o:=0) (by omega) [.slice p0 r.Boxes.length q0,.slice p1 r.Wires.length q1] (E.out.tr ER.out)
theorem impl_CopyWires(v:Value)(x:Board)(w:World)(h:Rv w v x) :
  Calls Tryz.prog 16 #[v] w fun e w' => ∃ v',e = .returned v'/\Ov w.heap.size w' v' (zGf x)/\Ext w w':=by
 obtain⟨a0,c0,a1,c1,rfl,h0,l0,h1,l1⟩:=h.openBoard;clear h;go_enter Tryz.func16,Tryz.ntmps16;go_upto_region 1 with (fail)
 refine zA1 (fun W=>Ext w W/\Bk W w.heap.size [.slice a0 x.Boxes.length c0,.slice a1 x.Wires.length c1] 51/\Bk W (w.heap.size+1) [.slice none 0 0,.slice none 0 0] 51) ⟨((zr _).alloc _).alloc _,(Bk.new _ _ _).ext ((zr _).alloc _),Bk.new1 _ _ _ _⟩ ?_
 rintro W ⟨e1,kA,kB⟩;have E:=zh e1;have KA:=zh kA;have KB:=zh kB;obtain⟨d0,d1⟩:=Bk.k2 kA;have LTB:=zh kB.lt;clear e1 kA kB;cases g:zO0 x
 ·go_wp2_with (go_at_call 46;refine(zFi _ x _ (Rv.mkBoard (h0.out.ext E.out) (h1.out.ext E.out))).mono ?_;rintro e w1 ⟨rfl,he⟩;rw[g];have E1:=zh (E.out.tr he);have KA1:=zh (KA.out.ext he);have KB1:=zh (KB.out.ext he);obtain⟨x0,x1⟩:=Bk.k2 KA1.out;have ltA1:=KA1.out.lt;obtain⟨z0,z1⟩:=Bk.k2 KB1.out;have zf:=KB1.out.fz;have ltZ:=KB1.out.lt;clear he)
  refine bodyPost_ret (v:=.agg #[.slice none 0 0,.slice none 0 0]) (by simp[results,Tryz.results16,go_sem,z0,z1]) rfl ⟨_,rfl,by rw[zL8 g];exact Ov.bz _ _,(E1.out.set (by simp) _).set (by simp) _⟩
 have HV:=zh (M.bv_iff.1 g);obtain⟨r,hr⟩:∃ r,M.cw x=r:=⟨_,rfl⟩;have EQ:=zh ((zL9 g).trans hr)
 go_wp2_with (first
  | (go_at_call 46;refine(zFi _ x _ (Rv.mkBoard (h0.out.ext E.out) (h1.out.ext E.out))).mono ?_;rintro e w1 ⟨rfl,he⟩;rw[g];have E1:=zh (E.out.tr he);have KA1:=zh (KA.out.ext he);have KB1:=zh (KB.out.ext he);obtain⟨x0,x1⟩:=Bk.k2 KA1.out;have ltA1:=KA1.out.lt;obtain⟨z0,z1⟩:=Bk.k2 KB1.out;have zf:=KB1.out.fz;have ltZ:=KB1.out.lt;clear he)
  | (go_at_call 47;refine(zKk _ x _ (Rv.mkBoard (h0.out.ext E1.out) (h1.out.ext E1.out)) HV.out).mono ?_;rintro e w6 ⟨v6,rfl,hov,he⟩;rw[hr] at hov;obtain⟨b0,n0,b1,n1,F6,rfl,hen6,how6⟩:=hov.openBd;have E6:=zh (E1.out.tr he);have HEN6:=zh hen6;have HOW6:=zh how6;clear x0 x1 z0 z1 zf ltZ;have KBx:=KB1.out.ext he;obtain⟨z0,z1⟩:=Bk.k2 KBx;have zf:=KBx.fz;have ltZ:=KBx.lt;have hsz6:=he.sz;have hsz7:=E1.out.sz;clear hov he hen6 how6 KBx))
 have hs6:=KB1.out.lt;have hZ:w.heap.size+1 ∉ F6:=fun hm=>by have:=(HOW6.out.2 _ hm).1;omega
 refine bodyPost_ret (v:=.agg #[.slice b0 r.Boxes.length n0,.slice b1 r.Wires.length n1]) (by simp[results,Tryz.results16,go_sem,z0,z1]) rfl ⟨_,rfl,by rw[EQ.out];exact⟨_,_,rfl,zBp (c:=w.heap.size+1) (o:=0) (ds:=[.slice b0 r.Boxes.length n0,.slice b1 r.Wires.length n1]) HEN6.out hZ,((HOW6.out.mono (by omega)).puts (b:=w.heap.size+1) (o:=0) [.slice b0 r.Boxes.length n0,.slice b1 r.Wires.length n1])⟩,?_⟩
 exact Ext.puts (b:=w.heap.size+1) (o:=0) (by omega) [.slice b0 r.Boxes.length n0,.slice b1 r.Wires.length n1] (E6.out)
set_option maxHeartbeats 8000000
theorem law_sameCore(v1 v2:Value)(x:Core)(w:World)(h1:Rv w v1 x)(h2:Rv w v2 x) :
  Calls Tryz.prog 26 #[v1,v2] w fun e w'=>e = .returned (.bool true)/\Ext w w':=by
 obtain⟨a0,c0,rfl,r1,hs1,l1⟩:=h1.openCore;obtain⟨b0,d0,rfl,r2,hs2,l2⟩:=h2.openCore;clear h1 h2;go_enter Tryz.func26,Tryz.ntmps26;go_upto_region 1 with (fail)
 refine zA1 (fun W=>Ext w W/\Bk W w.heap.size [.slice a0 x.Cells.length c0,.int .i64 x.At,.bool x.Stopped] 45/\Bk W (w.heap.size+1) [.slice b0 x.Cells.length d0,.int .i64 x.At,.bool x.Stopped] 45) ⟨((zr _).alloc _).alloc _,(Bk.new _ _ _).ext ((zr _).alloc _),Bk.new1 _ _ _ _⟩ ?_
 rintro W ⟨e1,kA,kB⟩;have E:=zh e1;have KA:=zh kA;have KB:=zh kB;have ltA:=kA.lt;have ltB:=kB.lt;obtain⟨x0,x1,x2⟩:=Bk.k3 kA;obtain⟨y0,y1,y2⟩:=Bk.k3 kB;clear e1 kA kB;have q1:(x.At == x.At)=true:=by simp
 have q2:(x.Stopped == x.Stopped)=true:=by simp
 go_wp2_with (go_at_call 12;refine(law_sameInts _ _ x.Cells x.Cells _ (hs1.out.ext E.out) (hs2.out.ext E.out)).mono ?_;rintro e w1 ⟨rfl,he⟩;rw[Eqb.t (rfl:x.Cells=x.Cells)];have E1:=zh (E.out.tr he);have p1:=(KA.out.ext he).cell (j:=1) rfl;have p2:=(KA.out.ext he).cell (j:=2) rfl;have s1:=(KB.out.ext he).cell (j:=1) rfl;have s2:=(KB.out.ext he).cell (j:=2) rfl;clear he)
 go_ret;exact⟨(by first|rfl|exact zA2 rfl|simp),E1.out⟩
theorem law_sameMachine(v1 v2:Value)(x:Machine)(w:World)(h1:Rv w v1 x)(h2:Rv w v2 x) :
  Calls Tryz.prog 7 #[v1,v2] w fun e w'=>e = .returned (.bool true)/\Ext w w':=by
 obtain⟨a0,c0,a1,c1,a2,c2,a3,c3,a4,c4,a5,c5,rfl,r6,h0,l0,h1',l1,h2',l2,h3,l3,h4,l4,h5,l5⟩:=h1.openMachine;obtain⟨b0,d0,b1,d1,b2,d2,b3,d3,b4,d4,b5,d5,rfl,s6,g0,m0,g1,m1,g2,m2,g3,m3,g4,m4,g5,m5⟩:=h2.openMachine;clear h1 h2;go_enter Tryz.func7,Tryz.ntmps7;go_upto_region 1 with (fail)
 refine zA1 (fun W=>Ext w W/\Bk W w.heap.size [.slice a0 x.Plan.Parts.length c0,.slice a1 x.Plan.Channels.length c1,.slice a2 x.Plan.Slots.length c2,.slice a3 x.Programs.length c3,.slice a4 x.Cores.length c4,.slice a5 x.Holds.length c5,.int .i64 x.Tick] 32/\Bk W (w.heap.size+1) [.slice b0 x.Plan.Parts.length d0,.slice b1 x.Plan.Channels.length d1,.slice b2 x.Plan.Slots.length d2,.slice b3 x.Programs.length d3,.slice b4 x.Cores.length d4,.slice b5 x.Holds.length d5,.int .i64 x.Tick] 32) ⟨((zr _).alloc _).alloc _,(Bk.new _ _ _).ext ((zr _).alloc _),Bk.new1 _ _ _ _⟩ ?_
 rintro W ⟨e1,kA,kB⟩;have E:=zh e1;have KA:=zh kA;have KB:=zh kB;have ltA:=kA.lt;have ltB:=kB.lt;obtain⟨x0,x1,x2,x3,x4,x5,x6⟩:=Bk.k7 kA;obtain⟨y0,y1,y2,y3,y4,y5,y6⟩:=Bk.k7 kB;clear e1 kA kB;have HS1:=zh (fun(u:World) (e:Ext w u)=>zEj _ x.Plan u (Rv.mkSetup (h0.out.ext e) (h1'.out.ext e) (h2'.out.ext e)))
 have HS2:=zh (fun(u:World) (e:Ext w u)=>zEj _ x.Plan u (Rv.mkSetup (g0.out.ext e) (g1.out.ext e) (g2.out.ext e)))
 obtain⟨N,hN⟩:∃ N,zAw x.Plan=N:=⟨_,rfl⟩;rw[hN] at HS1 HS2;clear hN;have qt:(x.Tick != x.Tick)=false:=by simp
 go_region_held3 (fun u=>u.cell? ⟨w.heap.size,0,none⟩=some (.slice a0 x.Plan.Parts.length c0)/\u.cell? ⟨w.heap.size,1,none⟩=some (.slice a1 x.Plan.Channels.length c1)/\u.cell? ⟨w.heap.size,2,none⟩=some (.slice a2 x.Plan.Slots.length c2)/\u.cell? ⟨w.heap.size,3,none⟩=some (.slice a3 x.Programs.length c3)/\u.cell? ⟨w.heap.size,4,none⟩=some (.slice a4 x.Cores.length c4)/\u.cell? ⟨w.heap.size,5,none⟩=some (.slice a5 x.Holds.length c5)/\u.cell? ⟨w.heap.size,6,none⟩=some (.int .i64 x.Tick)/\u.cell? ⟨w.heap.size+1,0,none⟩=some (.slice b0 x.Plan.Parts.length d0)/\u.cell? ⟨w.heap.size+1,1,none⟩=some (.slice b1 x.Plan.Channels.length d1)/\u.cell? ⟨w.heap.size+1,2,none⟩=some (.slice b2 x.Plan.Slots.length d2)/\u.cell? ⟨w.heap.size+1,3,none⟩=some (.slice b3 x.Programs.length d3)/\u.cell? ⟨w.heap.size+1,4,none⟩=some (.slice b4 x.Cores.length d4)/\u.cell? ⟨w.heap.size+1,5,none⟩=some (.slice b5 x.Holds.length d5)/\u.cell? ⟨w.heap.size+1,6,none⟩=some (.int .i64 x.Tick))
  (go_keep)
  (first
   | (go_at_call 24;refine(HS1.out _ (E.out.tr (zr W).drew)).mono ?_;rintro e w4 ⟨v4,rfl,ho,he⟩;have HO4:=zh ho.rs;obtain⟨p4,q4,rfl,_⟩:=ho.rs.form;have E4:=zh ((zr W).drew.tr he);clear ho he HS1;have KA4:=zh (KA.out.ext E4.out);have KB4:=zh (KB.out.ext E4.out);obtain⟨z0,z1,z2,z3,z4,z5,z6⟩:=Bk.k7 KA4.out;obtain⟨t0,t1,t2,t3,t4,t5,t6⟩:=Bk.k7 KB4.out;clear KA4 KB4)
   | (go_at_call 24;refine(HS2.out _ (E.out.tr E4.out)).mono ?_;rintro e w5 ⟨v5,rfl,ho,he⟩;have HO5:=zh ho.rs;obtain⟨p5,q5,rfl,_⟩:=ho.rs.form;replace HO4:=zh (HO4.out.ext he);replace E4:=zh (E4.out.tr he);clear ho he;have KA4:=zh (KA.out.ext E4.out);have KB4:=zh (KB.out.ext E4.out);obtain⟨z0,z1,z2,z3,z4,z5,z6⟩:=Bk.k7 KA4.out;obtain⟨t0,t1,t2,t3,t4,t5,t6⟩:=Bk.k7 KB4.out;clear KA4 KB4)
   | (go_at_call 12;refine(law_sameInts _ _ N N _ HO4.out HO5.out).mono ?_;rintro e w6 ⟨rfl,he⟩;rw[Eqb.t (rfl:N=N)];replace E4:=zh (E4.out.tr he);clear he;have KA4:=zh (KA.out.ext E4.out);have KB4:=zh (KB.out.ext E4.out);obtain⟨z0,z1,z2,z3,z4,z5,z6⟩:=Bk.k7 KA4.out;obtain⟨t0,t1,t2,t3,t4,t5,t6⟩:=Bk.k7 KB4.out;clear KA4 KB4))
 clear x0 y0 x1 y1 x2 y2 x3 y3 x4 y4 x5 y5 x6 y6;have x3:=(KA.out.ext E4.out).cell (j:=3) rfl;have lA3:=(KA.out.ext E4.out).lt;go_wp2;go_loopw [5] (fun i wr => ∃ k:Nat,k<=x.Programs.length/\i = .int .i64 k/\Ext W wr) (fun i _=>x.Programs.length - (intOf i).toNat)
 case atStart=>exact⟨0,Nat.zero_le _,rfl,E4.out⟩
 case round =>
  obtain⟨k,hk,rfl,er⟩:=hrel;have ER:=zh er;have ka:=KA.out.ext er;have kb:=KB.out.ext er;have u3:=ka.cell (j:=3) rfl;have v3:=kb.cell (j:=3) rfl;have lua:=ka.lt;have lub:=kb.lt;clear er;by_cases hkt:k < x.Programs.length
  ·obtain⟨b,o,p,pa,pc,rfl,hb,hx,hp0,hs0,hl0⟩:=(h3.out.ext (E.out.tr ER.out)).atList k hkt;obtain⟨b2,o2,p2,qa,qc,rfl,hb2,hx2,hq0,hs2,hl2⟩:=(g3.out.ext (E.out.tr ER.out)).atList k hkt;obtain rfl:p2=p:=Option.some.inj (hx2.out.symm.trans hx.out);clear hx hx2;clear ka kb;go_wp2
   go_region_held3 (fun u=>u.cell? ⟨w.heap.size,3,none⟩=some (.slice (some ⟨b,o,none⟩) x.Programs.length c3)/\u.cell? ⟨w.heap.size+1,3,none⟩=some (.slice (some ⟨b2,o2,none⟩) x.Programs.length d3)/\u.cell? ⟨b,o+k,none⟩=some (.slice pa p2.length pc)/\u.cell? ⟨b2,o2+k,none⟩=some (.slice qa p2.length qc))
    (go_keep)
    ((go_at_call 25;refine(law_sameOrders _ _ p2 p2 _ (hs0.out.ext (zr wr).drew) (hs2.out.ext (zr wr).drew)).mono ?_;rintro e w9 ⟨rfl,he⟩;rw[Eqb.t (rfl:p2=p2)];have E9:=zh ((zr wr).drew.tr he);have q0:=(zA0 E9.out lua).trans u3;have q1:=(zA0 E9.out lub).trans v3;have q2:=(zA0 E9.out hb).trans hp0;have q3:=(zA0 E9.out hb2).trans hq0;clear he))
   go_wp2;exact⟨⟨k+1,by omega,by go_num,ER.out.tr E9.out⟩,by simp[intOf];omega⟩
  ·obtain rfl:k=x.Programs.length:=by omega
   have u4:=ka.cell (j:=4) rfl;clear ka kb v3;obtain⟨wo,rfl⟩:∃ wo,wo=wr:=⟨_,rfl⟩;go_wp2;go_loopw [6] (fun i wr => ∃ k:Nat,k<=x.Cores.length/\i = .int .i64 k/\Ext W wr) (fun i _=>x.Cores.length - (intOf i).toNat)
   case atStart=>exact⟨0,Nat.zero_le _,rfl,ER.out⟩
   case round =>
    obtain⟨k,hk,rfl,er⟩:=hrel;have ER:=zh er;have ka:=KA.out.ext er;have kb:=KB.out.ext er;have u4:=ka.cell (j:=4) rfl;have v4:=kb.cell (j:=4) rfl;have lua:=ka.lt;have lub:=kb.lt;clear er;by_cases hkt:k < x.Cores.length
    ·obtain⟨b,o,p,pa,pc,rfl,hb,hx,hp0,hp1,hp2,hr1,hs0,hl0,hv⟩:=(h4.out.ext (E.out.tr ER.out)).atCore k hkt;obtain⟨b2,o2,p2,qa,qc,rfl,hb2,hx2,hq0,hq1,hq2,hr2,hs2,hl2,hv2⟩:=(g4.out.ext (E.out.tr ER.out)).atCore k hkt;obtain rfl:p2=p:=Option.some.inj (hx2.out.symm.trans hx.out);clear hx hx2 hs0 hs2;clear ka kb;go_wp2
     go_region_held3 (fun u=>u.cell? ⟨w.heap.size,4,none⟩=some (.slice (some ⟨b,o,none⟩) x.Cores.length c4)/\u.cell? ⟨w.heap.size+1,4,none⟩=some (.slice (some ⟨b2,o2,none⟩) x.Cores.length d4)/\u.cell? ⟨b,o+k*3,none⟩=some (.slice pa p2.Cells.length pc)/\u.cell? ⟨b,o+k*3+1,none⟩=some (.int .i64 p2.At)/\u.cell? ⟨b,o+k*3+2,none⟩=some (.bool p2.Stopped)/\u.cell? ⟨b2,o2+k*3,none⟩=some (.slice qa p2.Cells.length qc)/\u.cell? ⟨b2,o2+k*3+1,none⟩=some (.int .i64 p2.At)/\u.cell? ⟨b2,o2+k*3+2,none⟩=some (.bool p2.Stopped))
      (go_keep)
      ((go_at_call 26;refine(law_sameCore _ _ p2 _ (hv.out.ext (zr wr).drew) (hv2.out.ext (zr wr).drew)).mono ?_;rintro e w9 ⟨rfl,he⟩;have E9:=zh ((zr wr).drew.tr he);have q0:=(zA0 E9.out lua).trans u4;have q1:=(zA0 E9.out lub).trans v4;have q2:=(zA0 E9.out hb).trans hp0;have q3:=(zA0 E9.out hb).trans hp1;have q4:=(zA0 E9.out hb).trans hp2;have q5:=(zA0 E9.out hb2).trans hq0;have q6:=(zA0 E9.out hb2).trans hq1;have q7:=(zA0 E9.out hb2).trans hq2;clear he))
     go_wp2;exact⟨⟨k+1,by omega,by go_num,ER.out.tr E9.out⟩,by simp[intOf];omega⟩
    ·obtain rfl:k=x.Cores.length:=by omega
     have u5:=ka.cell (j:=5) rfl;clear ka kb v4;obtain⟨wp,rfl⟩:∃ wp,wp=wr:=⟨_,rfl⟩;go_wp2;go_loopw [7] (fun i wr => ∃ k:Nat,k<=x.Holds.length/\i = .int .i64 k/\Ext W wr) (fun i _=>x.Holds.length - (intOf i).toNat)
     case atStart=>exact⟨0,Nat.zero_le _,rfl,ER.out⟩
     case round =>
      obtain⟨k,hk,rfl,er⟩:=hrel;have ER:=zh er;have ka:=KA.out.ext er;have kb:=KB.out.ext er;have u5:=ka.cell (j:=5) rfl;have v5:=kb.cell (j:=5) rfl;have lua:=ka.lt;have lub:=kb.lt;clear er;by_cases hkt:k < x.Holds.length
      ·obtain⟨b,o,p,pa,pc,rfl,hb,hx,hp0,hs0,hl0,hv⟩:=(h5.out.ext (E.out.tr ER.out)).atHold k hkt;obtain⟨b2,o2,p2,qa,qc,rfl,hb2,hx2,hq0,hs2,hl2,hv2⟩:=(g5.out.ext (E.out.tr ER.out)).atHold k hkt;obtain rfl:p2=p:=Option.some.inj (hx2.out.symm.trans hx.out);clear hx hx2;clear ka kb;go_wp2
       go_region_held3 (fun u=>u.cell? ⟨w.heap.size,5,none⟩=some (.slice (some ⟨b,o,none⟩) x.Holds.length c5)/\u.cell? ⟨w.heap.size+1,5,none⟩=some (.slice (some ⟨b2,o2,none⟩) x.Holds.length d5)/\u.cell? ⟨b,o+k,none⟩=some (.slice pa p2.Lst.length pc)/\u.cell? ⟨b2,o2+k,none⟩=some (.slice qa p2.Lst.length qc))
        (go_keep)
        ((go_at_call 12;refine(law_sameInts _ _ p2.Lst p2.Lst _ (hs0.out.ext (zr wr).drew) (hs2.out.ext (zr wr).drew)).mono ?_;rintro e w9 ⟨rfl,he⟩;rw[Eqb.t (rfl:p2.Lst=p2.Lst)];have E9:=zh ((zr wr).drew.tr he);have q0:=(zA0 E9.out lua).trans u5;have q1:=(zA0 E9.out lub).trans v5;have q2:=(zA0 E9.out hb).trans hp0;have q3:=(zA0 E9.out hb2).trans hq0;clear he))
       go_wp2;exact⟨⟨k+1,by omega,by go_num,ER.out.tr E9.out⟩,by simp[intOf];omega⟩
      ·clear ka kb;go_wp2;go_ret;exact⟨rfl,E.out.tr ER.out⟩
end Sk
