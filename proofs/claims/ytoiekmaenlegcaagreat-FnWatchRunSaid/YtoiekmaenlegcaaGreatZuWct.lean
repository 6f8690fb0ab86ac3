/- Contracts of functions of the given program. -/
import Derived.Test.YtoiekmaenlegcaaGreatZtWtS
namespace Sk
open Go Go.Proofs Go.RowKit
set_option maxHeartbeats 4000000
set_option maxRecDepth 100000
set_option linter.unusedVariables false
set_option linter.unusedSimpArgs false
theorem zK3.tot{x:Watch}(h:zK3 x):GT.tot x<=200000:=by
 have h5:=zC1 h.box;have h6:GT.tot x=GT.tot x.Box+GT.tot x.States:=rfl;have h7:=zCf 0 5 x.States (by have:=h.ns;have:=h.box.nc;have:=zAc h.box.pg.set;omega) (fun y _=>Nat.le_refl 0)
 have h8:=h.ns;have h9:=h.box.nc;have h10:=zAc h.box.pg.set;omega
theorem Bx.openW{L:Nat}{w:World}{b:Nat}{y:Watch}{T:TypeId}(h:Bx L w b y T):∃ p0 q0 p1 q1 p2 q2 p3 q3 p4 q4 p5 q5 p7 q7 F,
  Bk w b [.slice p0 y.Box.Plan.Parts.length q0,.slice p1 y.Box.Plan.Channels.length q1,.slice p2 y.Box.Plan.Slots.length q2,.slice p3 y.Box.Programs.length q3,.slice p4 y.Box.Cores.length q4,.slice p5 y.Box.Holds.length q5,.int .i64 y.Box.Tick,.slice p7 y.States.length q7] T/\GT.enc w [.slice p0 y.Box.Plan.Parts.length q0,.slice p1 y.Box.Plan.Channels.length q1,.slice p2 y.Box.Plan.Slots.length q2,.slice p3 y.Box.Programs.length q3,.slice p4 y.Box.Cores.length q4,.slice p5 y.Box.Holds.length q5,.int .i64 y.Box.Tick,.slice p7 y.States.length q7] y F/\Own L w F:=by
 obtain⟨cs,F,h1,h2,h3⟩:=h;obtain⟨v0,v1,v2,v3,v4,v5,v7,G0,G1,G2,G3,G4,G5,G7,rfl,⟨t0,u0,rfl,_⟩,⟨t1,u1,rfl,_⟩,⟨t2,u2,rfl,_⟩,⟨t3,u3,rfl,_⟩,⟨t4,u4,rfl,_⟩,⟨t5,u5,rfl,_⟩,⟨t7,u7,rfl,_⟩,_,_⟩:=id h2;exact⟨_,_,_,_,_,_,_,_,_,_,_,_,_,_,F,h1,h2,h3⟩
theorem zKz(v vt:Value)(x:Watch)(t:List Int)(T:Int)(w:World)(h:Rv w v x)(ht:Rs w vt t)(hrt:rng T) :
  Calls Tryz.prog 23 #[v,vt,.int .i64 T] w fun e w' => ∃ v',e = .returned v'/\Ov w.heap.size w' v' (zAo x t T 400)/\Ext w w':=by
 have H:=zh h;have HT:=zh ht;obtain⟨ta,tc,rfl,htl⟩:=ht.form;obtain⟨a0,c0,a1,c1,a2,c2,a3,c3,a4,c4,a5,c5,a7,c7,rfl,r6,h0,l0,h1,l1,h2,l2,h3,l3,h4,l4,h5,l5,h7,l7⟩:=h.openWatch;clear h ht;go_enter Tryz.func23,Tryz.ntmps23;go_upto_region 1 with (fail)
 refine zA1 (fun W=>Ext w W/\Bk W w.heap.size [.slice a0 x.Box.Plan.Parts.length c0,.slice a1 x.Box.Plan.Channels.length c1,.slice a2 x.Box.Plan.Slots.length c2,.slice a3 x.Box.Programs.length c3,.slice a4 x.Box.Cores.length c4,.slice a5 x.Box.Holds.length c5,.int .i64 x.Box.Tick,.slice a7 x.States.length c7] 35/\Bk W (w.heap.size+1) [.slice none 0 0,.slice none 0 0,.slice none 0 0,.slice none 0 0,.slice none 0 0,.slice none 0 0,.int .i64 0,.slice none 0 0] 35) ⟨((zr _).alloc _).alloc _,(Bk.new _ _ _).ext ((zr _).alloc _),Bk.new1 _ _ _ _⟩ ?_
 rintro W ⟨e1,kA,kB⟩;have HE0:=zh e1;have KA0:=zh kA;have KB0:=zh kB;obtain⟨d0,d1,d2,d3,d4,d5,d6,d7⟩:=Bk.k8 kA;have ltA:=kA.lt;clear e1 kA kB;cases g0:zBh x
 ·have gg:(zBh x && (zD8 t && zB5 x.Box T 400))=false:=by rw[g0];rfl
  go_wp2_with (first
   | (go_at_call 34;refine(zAq _ x _ (H.out.ext HE0.out)).mono ?_;rintro e w0 ⟨rfl,he⟩;rw[g0];have E:=zh (HE0.out.tr he);have KA:=zh (KA0.out.ext he);have KB:=zh (KB0.out.ext he);obtain⟨x0,x1,x2,x3,x4,x5,x6,x7⟩:=Bk.k8 KA.out;have ltA:=KA.out.lt;obtain⟨z0,z1,z2,z3,z4,z5,z6,z7⟩:=Bk.k8 KB.out;have zf:=KB.out.fz;have ltZ:=KB.out.lt;clear he)
   | (go_at_call 51;refine(zAf _ t _ (HT.out.ext E.out)).mono ?_;rintro e w0' ⟨rfl,he⟩;rw[g1];replace E:=zh (E.out.tr he);replace KA:=zh (KA.out.ext he);replace KB:=zh (KB.out.ext he);obtain⟨x0,x1,x2,x3,x4,x5,x6,x7⟩:=Bk.k8 KA.out;have ltA:=KA.out.lt;obtain⟨z0,z1,z2,z3,z4,z5,z6,z7⟩:=Bk.k8 KB.out;have zf:=KB.out.fz;have ltZ:=KB.out.lt;clear he)
   | (go_at_call 35;refine(zA8 _ _ _ _).mono ?_;rintro e w9 ⟨rfl,rfl⟩;rw[g2]))
  refine bodyPost_ret (v:=.agg #[.slice none 0 0,.slice none 0 0,.slice none 0 0,.slice none 0 0,.slice none 0 0,.slice none 0 0,.int .i64 0,.slice none 0 0]) (by simp[results,Tryz.results23,go_sem,z0,z1,z2,z3,z4,z5,z6,z7]) rfl ⟨_,rfl,by rw[zBs gg];exact Ov.wz _ _,((((((((E.out).set (by simp) _).set (by simp) _).set (by simp) _).set (by simp) _).set (by simp) _).set (by simp) _).set (by simp) _).set (by simp) _⟩
 cases g1:zD8 t
 ·have gg:(zBh x && (zD8 t && zB5 x.Box T 400))=false:=by rw[g1];simp
  go_wp2_with (first
   | (go_at_call 34;refine(zAq _ x _ (H.out.ext HE0.out)).mono ?_;rintro e w0 ⟨rfl,he⟩;rw[g0];have E:=zh (HE0.out.tr he);have KA:=zh (KA0.out.ext he);have KB:=zh (KB0.out.ext he);obtain⟨x0,x1,x2,x3,x4,x5,x6,x7⟩:=Bk.k8 KA.out;have ltA:=KA.out.lt;obtain⟨z0,z1,z2,z3,z4,z5,z6,z7⟩:=Bk.k8 KB.out;have zf:=KB.out.fz;have ltZ:=KB.out.lt;clear he)
   | (go_at_call 51;refine(zAf _ t _ (HT.out.ext E.out)).mono ?_;rintro e w0' ⟨rfl,he⟩;rw[g1];replace E:=zh (E.out.tr he);replace KA:=zh (KA.out.ext he);replace KB:=zh (KB.out.ext he);obtain⟨x0,x1,x2,x3,x4,x5,x6,x7⟩:=Bk.k8 KA.out;have ltA:=KA.out.lt;obtain⟨z0,z1,z2,z3,z4,z5,z6,z7⟩:=Bk.k8 KB.out;have zf:=KB.out.fz;have ltZ:=KB.out.lt;clear he)
   | (go_at_call 35;refine(zA8 _ _ _ _).mono ?_;rintro e w9 ⟨rfl,rfl⟩;rw[g2]))
  refine bodyPost_ret (v:=.agg #[.slice none 0 0,.slice none 0 0,.slice none 0 0,.slice none 0 0,.slice none 0 0,.slice none 0 0,.int .i64 0,.slice none 0 0]) (by simp[results,Tryz.results23,go_sem,z0,z1,z2,z3,z4,z5,z6,z7]) rfl ⟨_,rfl,by rw[zBs gg];exact Ov.wz _ _,((((((((E.out).set (by simp) _).set (by simp) _).set (by simp) _).set (by simp) _).set (by simp) _).set (by simp) _).set (by simp) _).set (by simp) _⟩
 cases g2:zA6 T 0 400
 ·have gg:(zBh x && (zD8 t && zB5 x.Box T 400))=false:=by have h9:zB5 x.Box T 400=false:=(by unfold zB5;rw[g2];simp);rw[h9];simp
  go_wp2_with (first
   | (go_at_call 34;refine(zAq _ x _ (H.out.ext HE0.out)).mono ?_;rintro e w0 ⟨rfl,he⟩;rw[g0];have E:=zh (HE0.out.tr he);have KA:=zh (KA0.out.ext he);have KB:=zh (KB0.out.ext he);obtain⟨x0,x1,x2,x3,x4,x5,x6,x7⟩:=Bk.k8 KA.out;have ltA:=KA.out.lt;obtain⟨z0,z1,z2,z3,z4,z5,z6,z7⟩:=Bk.k8 KB.out;have zf:=KB.out.fz;have ltZ:=KB.out.lt;clear he)
   | (go_at_call 51;refine(zAf _ t _ (HT.out.ext E.out)).mono ?_;rintro e w0' ⟨rfl,he⟩;rw[g1];replace E:=zh (E.out.tr he);replace KA:=zh (KA.out.ext he);replace KB:=zh (KB.out.ext he);obtain⟨x0,x1,x2,x3,x4,x5,x6,x7⟩:=Bk.k8 KA.out;have ltA:=KA.out.lt;obtain⟨z0,z1,z2,z3,z4,z5,z6,z7⟩:=Bk.k8 KB.out;have zf:=KB.out.fz;have ltZ:=KB.out.lt;clear he)
   | (go_at_call 35;refine(zA8 _ _ _ _).mono ?_;rintro e w9 ⟨rfl,rfl⟩;rw[g2]))
  refine bodyPost_ret (v:=.agg #[.slice none 0 0,.slice none 0 0,.slice none 0 0,.slice none 0 0,.slice none 0 0,.slice none 0 0,.int .i64 0,.slice none 0 0]) (by simp[results,Tryz.results23,go_sem,z0,z1,z2,z3,z4,z5,z6,z7]) rfl ⟨_,rfl,by rw[zBs gg];exact Ov.wz _ _,((((((((E.out).set (by simp) _).set (by simp) _).set (by simp) _).set (by simp) _).set (by simp) _).set (by simp) _).set (by simp) _).set (by simp) _⟩
 have hwv:=zBf.1 g0;have htk:=hwv.box.tick;obtain⟨ht0,ht4⟩:=zA5.1 g2;obtain⟨T,rfl⟩:∃ k:Nat,T=k:=⟨T.toNat,by omega⟩
 by_cases hT:x.Box.Tick+T<=100000
 case neg =>
  have gg:(zBh x && (zD8 t && zB5 x.Box T 400))=false:=by
   have:zB5 x.Box T 400=false:=by
    cases e:zB5 x.Box T 400
    ·rfl
    ·exact absurd (zBq.1 e).2.2 hT
   rw[this];simp
  have hgt:decide (x.Box.Tick+(T:Int) > 100000)=true:=decide_eq_true (by omega)
  have hgt2:decide ((100000:Int) < x.Box.Tick+(T:Int))=true:=decide_eq_true (by omega)
  go_wp2_with (first
   | (go_at_call 34;refine(zAq _ x _ (H.out.ext HE0.out)).mono ?_;rintro e w0 ⟨rfl,he⟩;rw[g0];have E:=zh (HE0.out.tr he);have KA:=zh (KA0.out.ext he);have KB:=zh (KB0.out.ext he);obtain⟨x0,x1,x2,x3,x4,x5,x6,x7⟩:=Bk.k8 KA.out;have ltA:=KA.out.lt;obtain⟨z0,z1,z2,z3,z4,z5,z6,z7⟩:=Bk.k8 KB.out;have zf:=KB.out.fz;have ltZ:=KB.out.lt;clear he)
   | (go_at_call 51;refine(zAf _ t _ (HT.out.ext E.out)).mono ?_;rintro e w0' ⟨rfl,he⟩;rw[g1];replace E:=zh (E.out.tr he);replace KA:=zh (KA.out.ext he);replace KB:=zh (KB.out.ext he);obtain⟨x0,x1,x2,x3,x4,x5,x6,x7⟩:=Bk.k8 KA.out;have ltA:=KA.out.lt;obtain⟨z0,z1,z2,z3,z4,z5,z6,z7⟩:=Bk.k8 KB.out;have zf:=KB.out.fz;have ltZ:=KB.out.lt;clear he)
   | (go_at_call 35;refine(zA8 _ _ _ _).mono ?_;rintro e w9 ⟨rfl,rfl⟩;rw[g2]))
  refine bodyPost_ret (v:=.agg #[.slice none 0 0,.slice none 0 0,.slice none 0 0,.slice none 0 0,.slice none 0 0,.slice none 0 0,.int .i64 0,.slice none 0 0]) (by simp[results,Tryz.results23,go_sem,z0,z1,z2,z3,z4,z5,z6,z7]) rfl ⟨_,rfl,by rw[zBs gg];exact Ov.wz _ _,((((((((E.out).set (by simp) _).set (by simp) _).set (by simp) _).set (by simp) _).set (by simp) _).set (by simp) _).set (by simp) _).set (by simp) _⟩
 have hres:=zh (zCv g0 g1 (zBq.2 ⟨hwv.box,⟨ht0,ht4⟩,hT⟩:zB5 x.Box T 400=true));have htot:GT.tot x.Box<=1048576:=Nat.le_trans (zC1 hwv.box) (by omega)
 have hs5:x.States.length<=100:=by have:=hwv.ns;have:=hwv.box.nc;have:=zAc hwv.box.pg.set;omega
 have HWV:=zh hwv;have hgt:decide (x.Box.Tick+(T:Int) > 100000)=false:=decide_eq_false (by omega)
 have hgt2:decide ((100000:Int) < x.Box.Tick+(T:Int))=false:=decide_eq_false (by omega)
 clear hwv;go_upto_region 3 with (first
   | (go_at_call 34;refine(zAq _ x _ (H.out.ext HE0.out)).mono ?_;rintro e w0 ⟨rfl,he⟩;rw[g0];have E:=zh (HE0.out.tr he);have KA:=zh (KA0.out.ext he);have KB:=zh (KB0.out.ext he);obtain⟨x0,x1,x2,x3,x4,x5,x6,x7⟩:=Bk.k8 KA.out;have ltA:=KA.out.lt;obtain⟨z0,z1,z2,z3,z4,z5,z6,z7⟩:=Bk.k8 KB.out;have zf:=KB.out.fz;have ltZ:=KB.out.lt;clear he)
   | (go_at_call 51;refine(zAf _ t _ (HT.out.ext E.out)).mono ?_;rintro e w0' ⟨rfl,he⟩;rw[g1];replace E:=zh (E.out.tr he);replace KA:=zh (KA.out.ext he);replace KB:=zh (KB.out.ext he);obtain⟨x0,x1,x2,x3,x4,x5,x6,x7⟩:=Bk.k8 KA.out;have ltA:=KA.out.lt;obtain⟨z0,z1,z2,z3,z4,z5,z6,z7⟩:=Bk.k8 KB.out;have zf:=KB.out.fz;have ltZ:=KB.out.lt;clear he)
   | (go_at_call 35;refine(zA8 _ _ _ _).mono ?_;rintro e w9 ⟨rfl,rfl⟩;rw[g2]))
 clear x0 x1 x2 x3 x4 x5 x6 x7 z0 z1 z2 z3 z4 z5 z6 z7 d0 d1 d2 d3 d4 d5 d6 d7 zf ltZ hgt hgt2;obtain⟨f0,f1,f2,f3,f4,f5,f6,f7⟩:=Bk.k8 KA.out;have ltBB:=KB.out.lt;refine zAi rfl 9 [(31,[31]),(32,[32]),(33,[33]),(34,[34]),(35,[35]),(36,[36]),(37,[37]),(38,[38,33,37]),(7,[7])]
  (fun i vs u F=>match i,vs with
   | 0,[y]=>y = .pointer (some ⟨w.heap.size,0,none⟩)
   | 1,[y]=>y = .agg #[.slice a0 x.Box.Plan.Parts.length c0,.slice a1 x.Box.Plan.Channels.length c1,.slice a2 x.Box.Plan.Slots.length c2,.slice a3 x.Box.Programs.length c3,.slice a4 x.Box.Cores.length c4,.slice a5 x.Box.Holds.length c5,.int .i64 x.Box.Tick]
   | 2,[y] => ∃ t0 u0 t1 u1 t2 u2 t3 u3 t4 u4 t5 u5,y = .agg #[.slice t0 x.Box.Plan.Parts.length u0,.slice t1 x.Box.Plan.Channels.length u1,.slice t2 x.Box.Plan.Slots.length u2,.slice t3 x.Box.Programs.length u3,.slice t4 x.Box.Cores.length u4,.slice t5 x.Box.Holds.length u5,.int .i64 x.Box.Tick]/\GT.enc u [.slice t0 x.Box.Plan.Parts.length u0,.slice t1 x.Box.Plan.Channels.length u1,.slice t2 x.Box.Plan.Slots.length u2,.slice t3 x.Box.Programs.length u3,.slice t4 x.Box.Cores.length u4,.slice t5 x.Box.Holds.length u5,.int .i64 x.Box.Tick] x.Box F
   | 3,[y] => ∃ B,y = .slice (some ⟨B,0,none⟩) 0 0
   | 4,[y]=>y = .pointer (some ⟨w.heap.size,7,none⟩)
   | 5,[y]=>y = .slice a7 x.States.length c7
   | 6,[y] => ∃ p q,y = .slice p x.States.length q/\Sl u y x.States F
   | 7,[y,z,z1] => ∃ s0 s1 s2 s3 s4 s5,z = .agg #[s0,s1,s2,s3,s4,s5,.int .i64 x.Box.Tick]/\y = .agg #[s0,s1,s2,s3,s4,s5,.int .i64 x.Box.Tick,z1]
   | 8,[y] => ∃ B,y = .pointer (some ⟨B,0,none⟩)/\F = [B]/\Bk u B [.slice none 0 0,.slice none 0 0,.slice none 0 0,.slice none 0 0,.slice none 0 0,.slice none 0 0,.int .i64 0,.slice none 0 0] 35
   | _,_=>False) (by decide +kernel) ?_ ?_
 ·intro i hi o ho U u F hE hd hap;have g0:=(zA0 hE ltA).trans f0;have g1:=(zA0 hE ltA).trans f1;have g2:=(zA0 hE ltA).trans f2;have g3:=(zA0 hE ltA).trans f3;have g4:=(zA0 hE ltA).trans f4;have g5:=(zA0 hE ltA).trans f5;have g6:=(zA0 hE ltA).trans f6;have g7:=(zA0 hE ltA).trans f7;rcases(by omega:i=0\/i=1\/i=2\/i=3\/i=4\/i=5\/i=6\/i=7\/i=8) with rfl|rfl|rfl|rfl|rfl|rfl|rfl|rfl|rfl
  ·cases ho;simp only[fr];intro K hK;go_wp2;exact zk hK _ (fun _ _=>rfl)
  ·cases ho;simp only[fr];obtain⟨⟨d0,-⟩,-⟩:=fa [0] (by decide +kernel) hd
   simp only[fu] at d0;try simp only[d0]
   clear d0;intro K hK;go_wp2;exact zk hK _ (fun _ _=>rfl)
  ·cases ho;simp only[fr];obtain⟨⟨d0,-⟩,⟨d1,-⟩,-⟩:=fa [0,1] (by decide +kernel) hd
   simp only[fu] at d0 d1;try simp only[d0,d1]
   intro K hK;go_wp2_with (go_at_call 37;refine(zD7 _ x.Box _ (Rv.mkMachine (h0.out.ext (E.out.tr hE)) (h1.out.ext (E.out.tr hE)) (h2.out.ext (E.out.tr hE)) (h3.out.ext (E.out.tr hE)) (h4.out.ext (E.out.tr hE)) (h5.out.ext (E.out.tr hE)) r6) htot).mono ?_;rintro e w' ⟨v',rfl,hov,ex1⟩;obtain⟨cs,F',rfl,hen,how⟩:=hov;obtain⟨v0,v1,v2,v3,v4,v5,F0,F1,F2,F3,F4,F5,rfl,⟨r0,t0,rfl,_⟩,⟨r1,t1,rfl,_⟩,⟨r2,t2,rfl,_⟩,⟨r3,t3,rfl,_⟩,⟨r4,t4,rfl,_⟩,⟨r5,t5,rfl,_⟩,_,_⟩:=id hen)
   exact hK _ F' _ ex1 (fun _ h=>⟨_,_,_,_,_,_,_,_,_,_,_,_,rfl,GT.ext hen h⟩) how
  ·cases ho;simp only[fr];intro K hK;go_wp2;exact hK _ [] _ ((zr u).alloc _) (fun _ _=>⟨_,rfl⟩) (Own.nil _ _)
  ·cases ho;simp only[fr];intro K hK;go_wp2;exact zk hK _ (fun _ _=>rfl)
  ·cases ho;simp only[fr];obtain⟨⟨d4,-⟩,-⟩:=fa [4] (by decide +kernel) hd
   simp only[fu] at d4;try simp only[d4]
   clear d4;intro K hK;go_wp2;exact zk hK _ (fun _ _=>rfl)
  ·cases ho;simp only[fr];obtain⟨⟨d0,-⟩,⟨d1,-⟩,⟨d2,o2⟩,⟨d3,o3⟩,⟨d4,-⟩,⟨d5,-⟩,-⟩:=fa [0,1,2,3,4,5] (by decide +kernel) hd
   simp only[fu] at d0 d1 d2 d3 d4 d5;try simp only[d0,d1,d4,d5]
   obtain⟨B3,d3⟩:=d3;simp only[d3];intro K hK;refine zD4 (α:=Health) rfl _ _ 33 rfl 44 Tryz.underlying33 zGj rfl rfl (h7.out.ext (E.out.tr hE)) (by omega) ?_
   intro v' w' F' s1 ow1 ex1;obtain⟨p9,q9,rfl,_⟩:=id s1;go_wp2;exact hK _ F' _ ex1 (fun _ h=>⟨_,_,rfl,s1.ext h⟩) ow1
  ·cases ho;simp only[fr];obtain⟨⟨d0,-⟩,⟨d1,-⟩,⟨d2,o2⟩,⟨d3,o3⟩,⟨d4,-⟩,⟨d5,-⟩,⟨d6,o6⟩,-⟩:=fa [0,1,2,3,4,5,6] (by decide +kernel) hd
   simp only[fu] at d0 d1 d2 d3 d4 d5 d6;try simp only[d0,d1,d4,d5]
   obtain⟨t0,u0,t1,u1,t2,u2,t3,u3,t4,u4,t5,u5,e1,_⟩:=d2;obtain⟨p6,q6,e6,_⟩:=d6;simp only[e1,e6];intro K hK;go_wp2;exact zk hK _ (fun _ _=>⟨_,_,_,_,_,_,e1,by show Value.agg _=Value.agg #[_,_,_,_,_,_,_,U 37];rw[e6]⟩)
  ·cases ho;simp only[fr];intro K hK;go_wp2;have b1:=Bk.new u [.slice none 0 0,.slice none 0 0,.slice none 0 0,.slice none 0 0,.slice none 0 0,.slice none 0 0,.int .i64 0,.slice none 0 0] 35;exact hK _ [u.heap.size] _ ((zr u).alloc _) (fun _ h=>⟨_,rfl,rfl,b1.ext h⟩) (b1.own (Nat.le_refl _))
 intro o ho U u F hE hφ hap;cases ho;simp only[fr];obtain⟨⟨d0,-⟩,⟨d1,-⟩,⟨d2,o2⟩,⟨d3,o3⟩,⟨d4,-⟩,⟨d5,-⟩,⟨d6,o6⟩,⟨d7,o7⟩,⟨d8,o8⟩,-⟩:=fb [0,1,2,3,4,5,6,7,8] (by decide +kernel) hφ
 simp only[fu] at d0 d1 d2 d3 d4 d5 d6 d7 d8;try simp only[d0,d1,d4,d5]
 obtain⟨t0,u0,t1,u1,t2,u2,t3,u3,t4,u4,t5,u5,e1,n1⟩:=d2;obtain⟨p6,q6,e6,n6⟩:=d6;obtain⟨x0,x1,x2,x3,x4,x5,z6,y6⟩:=d7;obtain⟨B,d8,k8,b8⟩:=d8;rw[e1] at z6;have z7:=congrArg Array.toList (zCc z6);simp only[List.cons.injEq] at z7;obtain⟨rfl,rfl,rfl,rfl,rfl,rfl,_⟩:=z7;have a26:=hap 2 6 (by omega) (by omega) (by omega)
 have a28:=hap 2 8 (by omega) (by omega) (by omega)
 have a68:=hap 6 8 (by omega) (by omega) (by omega)
 rw[e6] at y6 n6;have OX:Own w0'.heap.size u (F 2++F 6):=o2.join o6 a26;have EN:=zh (zGk n1 n6);rw[k8] at o8 a28 a68;have nB:B ∉ F 2++F 6:=fun hm=>(List.mem_append.1 hm).elim (fun h=>a28.one h) (fun h=>a68.one h)
 have lB:w0'.heap.size<=B:=(o8.2 B (by simp)).1
 generalize F 2++F 6=FX at *
 clear hap hφ e1 e6 z6 n1 n6 k8 o2 o6 o8 a26 a28 a68 d0 d1 d3 d4 d5;simp only[d8,y6];have BXR:Hid (Bx w0'.heap.size (zA9 u B 0 [.slice t0 x.Box.Plan.Parts.length u0,.slice t1 x.Box.Plan.Channels.length u1,.slice t2 x.Box.Plan.Slots.length u2,.slice t3 x.Box.Programs.length u3,.slice t4 x.Box.Cores.length u4,.slice t5 x.Box.Holds.length u5,.int .i64 x.Box.Tick,.slice p6 x.States.length q6]) B x 35):=zh ⟨_,FX,b8.puts [.slice t0 x.Box.Plan.Parts.length u0,.slice t1 x.Box.Plan.Channels.length u1,.slice t2 x.Box.Plan.Slots.length u2,.slice t3 x.Box.Programs.length u3,.slice t4 x.Box.Cores.length u4,.slice t5 x.Box.Holds.length u5,.int .i64 x.Box.Tick,.slice p6 x.States.length q6] rfl,zAt EN.out nB,OX.puts [.slice t0 x.Box.Plan.Parts.length u0,.slice t1 x.Box.Plan.Channels.length u1,.slice t2 x.Box.Plan.Slots.length u2,.slice t3 x.Box.Programs.length u3,.slice t4 x.Box.Cores.length u4,.slice t5 x.Box.Holds.length u5,.int .i64 x.Box.Tick,.slice p6 x.States.length q6]⟩;have OMR:=zh (Om.newW (T:=35) (c0:=[.slice none 0 0,.slice none 0 0,.slice none 0 0,.slice none 0 0,.slice none 0 0,.slice none 0 0,.int .i64 0,.slice none 0 0]) EN.out OX b8 rfl lB nB);obtain⟨b8_0,b8_1,b8_2,b8_3,b8_4,b8_5,b8_6,b8_7⟩:=Bk.k8 b8;have bf8:=b8.fz;have lt8:=b8.lt;have EX8:=zh hE;clear b8 d8 y6 hE OX EN;go_upto_region 4 with (fail)
 refine zA1 (fun W=>Ext w0' W/\Bx w0'.heap.size W B x 35) ⟨Ext.puts (b:=B) (o:=0) lB [.slice t0 x.Box.Plan.Parts.length u0,.slice t1 x.Box.Plan.Channels.length u1,.slice t2 x.Box.Plan.Slots.length u2,.slice t3 x.Box.Programs.length u3,.slice t4 x.Box.Cores.length u4,.slice t5 x.Box.Holds.length u5,.int .i64 x.Box.Tick,.slice p6 x.States.length q6] EX8.out,BXR.out⟩ ?_
 rintro W4 ⟨e4,bx4⟩;have E7:=zh (E.out.tr e4);have KB6:=zh (KB.out.ext e4);have BXh:=zh bx4;have hwB:w.heap.size<=B:=by have:=E.out.sz;omega
 clear bx4 e4 OMR BXR EX8 f0 f1 f2 f3 f4 f5 f6 f7 KA nB bf8 lt8 E HE0 KA0 KB0;clear b8_0 b8_1 b8_2 b8_3 b8_4 b8_5 b8_6 b8_7;go_wp2;go_loopw [8] (fun i wr => ∃ (k:Nat),k<=T/\i = .int .i64 k/\Ext w wr/\Bx w0'.heap.size wr B (zBo x t k) 35/\Bk wr (w.heap.size+1) [.slice none 0 0,.slice none 0 0,.slice none 0 0,.slice none 0 0,.slice none 0 0,.slice none 0 0,.int .i64 0,.slice none 0 0] 35) (fun i _=>T - (intOf i).toNat)
 case atStart=>exact⟨0,Nat.zero_le _,rfl,E7.out,BXh.out,KB6.out⟩
 case round =>
  obtain⟨k,hk,rfl,er,bx,kz⟩:=hrel;obtain⟨p0,q0,p1,q1,p2,q2,p3,q3,p4,q4,p5,q5,p7,q7,Fk,kb,hen,how⟩:=bx.openW;have ER:=zh er;have KR:=zh kz;have KBB:=zh kb;have HEN:=zh hen;have HOW:=zh how;obtain⟨y0,y1,y2,y3,y4,y5,y6,y7⟩:=Bk.k8 kb;have bf:=kb.fz;have ltB:=kb.lt;clear er kz kb hen how bx;by_cases hkt:k < T
  ·obtain⟨hrv,hrt2⟩:=zGg HWV.out t k (by omega)
   have hne:(zBo x t k).Box.Tick < 100000:=by rw[hrt2];omega
   have HS:=(show zAo (zBo x t k) t 1 1=zBo x t (k+1) from zH1 (zBf.2 hrv) g1 hne)
   obtain⟨mn,hmn⟩:∃ mn,zBo x t (k+1)=mn:=⟨_,rfl⟩;have HC:=zJw _ _ (zBo x t k) t wr ⟨_,Fk,rfl,HEN.out⟩ (HT.out.ext ER.out) (Nat.le_trans hrv.tot (by omega))
   rw[HS,hmn] at HC;replace HC:=zh HC;have hszr:=ER.out.sz;have hRBn:w.heap.size+1≠B:=by omega
   have hR0w:w0'.heap.size<=wr.heap.size:=by omega
   have HMN:=zh hmn;clear hrv hrt2 hne HS hmn
   generalize zBo x t k=mk at *
   go_wp2_with (go_at_call 18;refine HC.out.mono ?_;rintro e w7 ⟨v7,rfl,hov,ex⟩;obtain⟨r0,s0,r1,s1,r2,s2,r3,s3,r4,s4,r5,s5,r7,s7,F7,rfl,hen7,how7⟩:=hov.openW;have EX7:=zh ex;have HEN7:=zh hen7;have HOW7:=zh how7;obtain⟨c70,c71,c72,c73,c74,c75,c76,c77⟩:=Bk.k8 (KBB.out.ext ex);have bf7:=(KBB.out.ext ex).fz;have lt7:=(KBB.out.ext ex).lt;clear ex hen7 how7 hov)
   exact⟨⟨k+1,by omega,by go_num,Ext.puts (b:=B) (o:=0) hwB [.slice r0 mn.Box.Plan.Parts.length s0,.slice r1 mn.Box.Plan.Channels.length s1,.slice r2 mn.Box.Plan.Slots.length s2,.slice r3 mn.Box.Programs.length s3,.slice r4 mn.Box.Cores.length s4,.slice r5 mn.Box.Holds.length s5,.int .i64 mn.Box.Tick,.slice r7 mn.States.length s7] (ER.out.tr EX7.out),(by rw[HMN.out];exact Bx.put (cs:=[.slice r0 mn.Box.Plan.Parts.length s0,.slice r1 mn.Box.Plan.Channels.length s1,.slice r2 mn.Box.Plan.Slots.length s2,.slice r3 mn.Box.Programs.length s3,.slice r4 mn.Box.Cores.length s4,.slice r5 mn.Box.Holds.length s5,.int .i64 mn.Box.Tick,.slice r7 mn.States.length s7]) (KBB.out.ext EX7.out) rfl HEN7.out HOW7.out hR0w ltB),Bk.puts_ne (c:=B) (o:=0) (ds:=[.slice r0 mn.Box.Plan.Parts.length s0,.slice r1 mn.Box.Plan.Channels.length s1,.slice r2 mn.Box.Plan.Slots.length s2,.slice r3 mn.Box.Programs.length s3,.slice r4 mn.Box.Cores.length s4,.slice r5 mn.Box.Holds.length s5,.int .i64 mn.Box.Tick,.slice r7 mn.States.length s7]) (KR.out.ext EX7.out) hRBn⟩,by simp[intOf];omega⟩
  ·obtain rfl:k=T:=by omega
   have hZ:w.heap.size+1 ∉ Fk:=fun hm=>by have:=(HOW.out.2 _ hm).1;omega
   obtain⟨z0,z1,z2,z3,z4,z5,z6,z7⟩:=Bk.k8 KR.out;have zf:=KR.out.fz;have ltZ:=KR.out.lt
   generalize zBo x t k=y at *
   go_wp2;refine bodyPost_ret (v:=.agg #[.slice p0 y.Box.Plan.Parts.length q0,.slice p1 y.Box.Plan.Channels.length q1,.slice p2 y.Box.Plan.Slots.length q2,.slice p3 y.Box.Programs.length q3,.slice p4 y.Box.Cores.length q4,.slice p5 y.Box.Holds.length q5,.int .i64 y.Box.Tick,.slice p7 y.States.length q7]) (by simp[results,Tryz.results23,go_sem,z0,z1,z2,z3,z4,z5,z6,z7]) rfl ⟨_,rfl,by rw[hres.out];exact⟨_,_,rfl,zAt (c:=w.heap.size+1) (o:=0) (ds:=[.slice p0 y.Box.Plan.Parts.length q0,.slice p1 y.Box.Plan.Channels.length q1,.slice p2 y.Box.Plan.Slots.length q2,.slice p3 y.Box.Programs.length q3,.slice p4 y.Box.Cores.length q4,.slice p5 y.Box.Holds.length q5,.int .i64 y.Box.Tick,.slice p7 y.States.length q7]) HEN.out hZ,((HOW.out.mono (by omega)).puts (b:=w.heap.size+1) (o:=0) [.slice p0 y.Box.Plan.Parts.length q0,.slice p1 y.Box.Plan.Channels.length q1,.slice p2 y.Box.Plan.Slots.length q2,.slice p3 y.Box.Programs.length q3,.slice p4 y.Box.Cores.length q4,.slice p5 y.Box.Holds.length q5,.int .i64 y.Box.Tick,.slice p7 y.States.length q7])⟩,?_⟩
   exact Ext.puts (b:=w.heap.size+1) (o:=0) (by omega) [.slice p0 y.Box.Plan.Parts.length q0,.slice p1 y.Box.Plan.Channels.length q1,.slice p2 y.Box.Plan.Slots.length q2,.slice p3 y.Box.Programs.length q3,.slice p4 y.Box.Cores.length q4,.slice p5 y.Box.Holds.length q5,.int .i64 y.Box.Tick,.slice p7 y.States.length q7] ER.out
end Sk
