/- Contracts of functions of the given program. -/
import Derived.Test.YtoiekmaenlegcaaGreatZrWrn
namespace Sk
open Go Go.Proofs Go.RowKit
set_option maxHeartbeats 4000000
set_option maxRecDepth 100000
set_option linter.unusedVariables false
set_option linter.unusedSimpArgs false
theorem zJw(v vt:Value)(x:Watch)(t:List Int)(w:World)(h:Rv w v x)(ht:Rs w vt t)(hn:GT.tot x<=1048576) :
  Calls Tryz.prog 18 #[v,vt] w fun e w' => ∃ v',e = .returned v'/\Ov w.heap.size w' v' (zAo x t 1 1)/\Ext w w':=by
 have H:=zh h;have HT:=zh ht;obtain⟨ta,tc,rfl,htl⟩:=ht.form;obtain⟨a0,c0,a1,c1,a2,c2,a3,c3,a4,c4,a5,c5,a7,c7,rfl,r6,h0,l0,h1,l1,h2,l2,h3,l3,h4,l4,h5,l5,h7,l7⟩:=h.openWatch;clear h ht;go_enter Tryz.func18,Tryz.ntmps18;go_upto_region 1 with (fail)
 refine zA1 (fun W=>Ext w W/\Bk W w.heap.size [.slice a0 x.Box.Plan.Parts.length c0,.slice a1 x.Box.Plan.Channels.length c1,.slice a2 x.Box.Plan.Slots.length c2,.slice a3 x.Box.Programs.length c3,.slice a4 x.Box.Cores.length c4,.slice a5 x.Box.Holds.length c5,.int .i64 x.Box.Tick,.slice a7 x.States.length c7] 35/\Bk W (w.heap.size+1) [.slice none 0 0,.slice none 0 0,.slice none 0 0,.slice none 0 0,.slice none 0 0,.slice none 0 0,.int .i64 0,.slice none 0 0] 35) ⟨((zr _).alloc _).alloc _,(Bk.new _ _ _).ext ((zr _).alloc _),Bk.new1 _ _ _ _⟩ ?_
 rintro W ⟨e1,kA,kB⟩;have HE0:=zh e1;have KA0:=zh kA;have KB0:=zh kB;obtain⟨d0,d1,d2,d3,d4,d5,d6,d7⟩:=Bk.k8 kA;have ltA:=kA.lt;clear e1 kA kB;clear h0 h1 h2 h3 h4 h5 h7;go_upto_region 2 with (go_at_call 50;refine(zJi _ x _ (H.out.ext HE0.out) hn).mono ?_;rintro e w1 ⟨v1,rfl,hov,he⟩;obtain⟨a0,c0,a1,c1,a2,c2,a3,c3,a4,c4,a5,c5,a7,c7,FA,rfl,hen,how⟩:=hov.openW;have X1:=zh he;have HEN1:=zh hen;have HOW1:=zh how;obtain⟨x0,x1,x2,x3,x4,x5,x6,x7⟩:=Bk.k8 (KA0.out.ext he);have ltA:=(KA0.out.ext he).lt;have xf:=(KA0.out.ext he).fz;clear hov hen how he)
 have hs0:=HE0.out.sz;have nA:w.heap.size ∉ FA:=fun hm=>by have:=(HOW1.out.2 _ hm).1;omega
 refine zA1 (fun W2=>Ext w W2/\Bk W2 w.heap.size [.slice a0 x.Box.Plan.Parts.length c0,.slice a1 x.Box.Plan.Channels.length c1,.slice a2 x.Box.Plan.Slots.length c2,.slice a3 x.Box.Programs.length c3,.slice a4 x.Box.Cores.length c4,.slice a5 x.Box.Holds.length c5,.int .i64 x.Box.Tick,.slice a7 x.States.length c7] 35/\Bk W2 (w.heap.size+1) [.slice none 0 0,.slice none 0 0,.slice none 0 0,.slice none 0 0,.slice none 0 0,.slice none 0 0,.int .i64 0,.slice none 0 0] 35/\Rv W2 (.agg #[.slice a0 x.Box.Plan.Parts.length c0,.slice a1 x.Box.Plan.Channels.length c1,.slice a2 x.Box.Plan.Slots.length c2,.slice a3 x.Box.Programs.length c3,.slice a4 x.Box.Cores.length c4,.slice a5 x.Box.Holds.length c5,.int .i64 x.Box.Tick,.slice a7 x.States.length c7]) x) ⟨Ext.puts (b:=w.heap.size) (o:=0) (Nat.le_refl _) [.slice a0 x.Box.Plan.Parts.length c0,.slice a1 x.Box.Plan.Channels.length c1,.slice a2 x.Box.Plan.Slots.length c2,.slice a3 x.Box.Programs.length c3,.slice a4 x.Box.Cores.length c4,.slice a5 x.Box.Holds.length c5,.int .i64 x.Box.Tick,.slice a7 x.States.length c7] (HE0.out.tr X1.out),(KA0.out.ext X1.out).puts [.slice a0 x.Box.Plan.Parts.length c0,.slice a1 x.Box.Plan.Channels.length c1,.slice a2 x.Box.Plan.Slots.length c2,.slice a3 x.Box.Programs.length c3,.slice a4 x.Box.Cores.length c4,.slice a5 x.Box.Holds.length c5,.int .i64 x.Box.Tick,.slice a7 x.States.length c7] rfl,(KB0.out.ext X1.out).puts_ne (c:=w.heap.size) (o:=0) (ds:=[.slice a0 x.Box.Plan.Parts.length c0,.slice a1 x.Box.Plan.Channels.length c1,.slice a2 x.Box.Plan.Slots.length c2,.slice a3 x.Box.Programs.length c3,.slice a4 x.Box.Cores.length c4,.slice a5 x.Box.Holds.length c5,.int .i64 x.Box.Tick,.slice a7 x.States.length c7]) (by omega),⟨_,_,rfl,zAt (c:=w.heap.size) (o:=0) (ds:=[.slice a0 x.Box.Plan.Parts.length c0,.slice a1 x.Box.Plan.Channels.length c1,.slice a2 x.Box.Plan.Slots.length c2,.slice a3 x.Box.Programs.length c3,.slice a4 x.Box.Cores.length c4,.slice a5 x.Box.Holds.length c5,.int .i64 x.Box.Tick,.slice a7 x.States.length c7]) HEN1.out nA⟩⟩ ?_
 rintro W2 ⟨eW,kA,kB,hrv⟩;have EW:=zh eW;have h:=hrv;obtain⟨_,_,_,_,_,_,_,_,_,_,_,_,_,_,ee,-,h0,-,h1,-,h2,-,h3,-,h4,-,h5,-,h7,l7⟩:=h.openWatch;have e9:=congrArg (fun v=>match v with | .agg a=>a.toList|_ => []) ee
 simp only[List.cons.injEq,Value.slice.injEq,and_true,true_and] at e9;obtain⟨⟨rfl,rfl⟩,⟨rfl,rfl⟩,⟨rfl,rfl⟩,⟨rfl,rfl⟩,⟨rfl,rfl⟩,⟨rfl,rfl⟩,⟨rfl,rfl⟩⟩:=e9;replace H:=zh hrv;replace HT:=zh (HT.out.ext eW);replace HE0:=zh (zr W2);replace KA0:=zh kA;replace KB0:=zh kB;clear eW kA kB hrv h ee;obtain⟨d0,d1,d2,d3,d4,d5,d6,d7⟩:=Bk.k8 KA0.out;cases g0:zBh x
 ·go_wp2_with (first
   | (go_at_call 34;refine(zAq _ x _ (H.out.ext HE0.out)).mono ?_;rintro e w0 ⟨rfl,he⟩;rw[g0];have E:=zh (HE0.out.tr he);have KA:=zh (KA0.out.ext he);have KB:=zh (KB0.out.ext he);obtain⟨x0,x1,x2,x3,x4,x5,x6,x7⟩:=Bk.k8 KA.out;have ltA:=KA.out.lt;obtain⟨z0,z1,z2,z3,z4,z5,z6,z7⟩:=Bk.k8 KB.out;have zf:=KB.out.fz;have ltZ:=KB.out.lt;clear he)
   | (go_at_call 51;refine(zAf _ t _ (HT.out.ext E.out)).mono ?_;rintro e w0' ⟨rfl,he⟩;rw[g1];replace E:=zh (E.out.tr he);replace KA:=zh (KA.out.ext he);replace KB:=zh (KB.out.ext he);obtain⟨x0,x1,x2,x3,x4,x5,x6,x7⟩:=Bk.k8 KA.out;have ltA:=KA.out.lt;obtain⟨z0,z1,z2,z3,z4,z5,z6,z7⟩:=Bk.k8 KB.out;have zf:=KB.out.fz;have ltZ:=KB.out.lt;clear he))
  refine bodyPost_ret (v:=.agg #[.slice none 0 0,.slice none 0 0,.slice none 0 0,.slice none 0 0,.slice none 0 0,.slice none 0 0,.int .i64 0,.slice none 0 0]) (by simp[results,Tryz.results18,go_sem,z0,z1,z2,z3,z4,z5,z6,z7]) rfl ⟨_,rfl,by rw[zDt (.inl g0)];exact Ov.wz _ _,((((((((EW.out.tr E.out).set (by simp) _).set (by simp) _).set (by simp) _).set (by simp) _).set (by simp) _).set (by simp) _).set (by simp) _).set (by simp) _⟩
 cases g1:zD8 t
 ·go_wp2_with (first
   | (go_at_call 34;refine(zAq _ x _ (H.out.ext HE0.out)).mono ?_;rintro e w0 ⟨rfl,he⟩;rw[g0];have E:=zh (HE0.out.tr he);have KA:=zh (KA0.out.ext he);have KB:=zh (KB0.out.ext he);obtain⟨x0,x1,x2,x3,x4,x5,x6,x7⟩:=Bk.k8 KA.out;have ltA:=KA.out.lt;obtain⟨z0,z1,z2,z3,z4,z5,z6,z7⟩:=Bk.k8 KB.out;have zf:=KB.out.fz;have ltZ:=KB.out.lt;clear he)
   | (go_at_call 51;refine(zAf _ t _ (HT.out.ext E.out)).mono ?_;rintro e w0' ⟨rfl,he⟩;rw[g1];replace E:=zh (E.out.tr he);replace KA:=zh (KA.out.ext he);replace KB:=zh (KB.out.ext he);obtain⟨x0,x1,x2,x3,x4,x5,x6,x7⟩:=Bk.k8 KA.out;have ltA:=KA.out.lt;obtain⟨z0,z1,z2,z3,z4,z5,z6,z7⟩:=Bk.k8 KB.out;have zf:=KB.out.fz;have ltZ:=KB.out.lt;clear he))
  refine bodyPost_ret (v:=.agg #[.slice none 0 0,.slice none 0 0,.slice none 0 0,.slice none 0 0,.slice none 0 0,.slice none 0 0,.int .i64 0,.slice none 0 0]) (by simp[results,Tryz.results18,go_sem,z0,z1,z2,z3,z4,z5,z6,z7]) rfl ⟨_,rfl,by rw[zDt (.inr (.inl g1))];exact Ov.wz _ _,((((((((EW.out.tr E.out).set (by simp) _).set (by simp) _).set (by simp) _).set (by simp) _).set (by simp) _).set (by simp) _).set (by simp) _).set (by simp) _⟩
 by_cases gT:x.Box.Tick=100000
 ·have gb:(x.Box.Tick == 100000)=true:=by simpa using gT
  have GT:=zh gT;clear gT
  go_wp2_with (first
   | (go_at_call 34;refine(zAq _ x _ (H.out.ext HE0.out)).mono ?_;rintro e w0 ⟨rfl,he⟩;rw[g0];have E:=zh (HE0.out.tr he);have KA:=zh (KA0.out.ext he);have KB:=zh (KB0.out.ext he);obtain⟨x0,x1,x2,x3,x4,x5,x6,x7⟩:=Bk.k8 KA.out;have ltA:=KA.out.lt;obtain⟨z0,z1,z2,z3,z4,z5,z6,z7⟩:=Bk.k8 KB.out;have zf:=KB.out.fz;have ltZ:=KB.out.lt;clear he)
   | (go_at_call 51;refine(zAf _ t _ (HT.out.ext E.out)).mono ?_;rintro e w0' ⟨rfl,he⟩;rw[g1];replace E:=zh (E.out.tr he);replace KA:=zh (KA.out.ext he);replace KB:=zh (KB.out.ext he);obtain⟨x0,x1,x2,x3,x4,x5,x6,x7⟩:=Bk.k8 KA.out;have ltA:=KA.out.lt;obtain⟨z0,z1,z2,z3,z4,z5,z6,z7⟩:=Bk.k8 KB.out;have zf:=KB.out.fz;have ltZ:=KB.out.lt;clear he))
  refine bodyPost_ret (v:=.agg #[.slice none 0 0,.slice none 0 0,.slice none 0 0,.slice none 0 0,.slice none 0 0,.slice none 0 0,.int .i64 0,.slice none 0 0]) (by simp[results,Tryz.results18,go_sem,z0,z1,z2,z3,z4,z5,z6,z7]) rfl ⟨_,rfl,by rw[zDt (.inr (.inr GT.out))];exact Ov.wz _ _,((((((((EW.out.tr E.out).set (by simp) _).set (by simp) _).set (by simp) _).set (by simp) _).set (by simp) _).set (by simp) _).set (by simp) _).set (by simp) _⟩
 have gb:(x.Box.Tick == 100000)=false:=by simpa using gT
 have hwv:=zBf.1 g0;have htk:x.Box.Tick < 100000:=by have:=hwv.box.tick;omega
 have hw1:=zh (zH1 (t:=t) g0 g1 htk);have HWT:=zh (zIz hwv htk);have HMI:=zh (fun h=>zHs hwv (t:=t) h)
 have hlc:=zh (zCk x.Box);obtain⟨mt,hmt⟩:∃ mt,zAk x.Box=mt:=⟨_,rfl⟩;have HHI:=zh (fun(j:Nat) (a c:Core) ha hc h1 h2=>zJ4 (x:=x) (t:=t) (j:=j) (a:=a) (c:=c) ha hc h1 h2)
 rw[hmt] at HWT HMI hlc HHI;have HCT:=zh (fun(u:World) (e:Ext W2 u)=>by
  have:=zIh _ x.Box u (Rv.mkMachine (h0.out.ext e) (h1.out.ext e) (h2.out.ext e) (h3.out.ext e) (h4.out.ext e) (h5.out.ext e) r6)
  rw[zGd (zBj.2 hwv.box) gT,hmt] at this;exact this)
 have HNS:=zh hwv.ns;have hs5:x.States.length<=100:=by have:=hwv.ns;have:=hwv.box.nc;have:=zAc hwv.box.pg.set;omega
 clear hwv hmt gT htk;go_upto_region 4 with (first
   | (go_at_call 34;refine(zAq _ x _ (H.out.ext HE0.out)).mono ?_;rintro e w0 ⟨rfl,he⟩;rw[g0];have E:=zh (HE0.out.tr he);have KA:=zh (KA0.out.ext he);have KB:=zh (KB0.out.ext he);obtain⟨x0,x1,x2,x3,x4,x5,x6,x7⟩:=Bk.k8 KA.out;have ltA:=KA.out.lt;obtain⟨z0,z1,z2,z3,z4,z5,z6,z7⟩:=Bk.k8 KB.out;have zf:=KB.out.fz;have ltZ:=KB.out.lt;clear he)
   | (go_at_call 51;refine(zAf _ t _ (HT.out.ext E.out)).mono ?_;rintro e w0' ⟨rfl,he⟩;rw[g1];replace E:=zh (E.out.tr he);replace KA:=zh (KA.out.ext he);replace KB:=zh (KB.out.ext he);obtain⟨x0,x1,x2,x3,x4,x5,x6,x7⟩:=Bk.k8 KA.out;have ltA:=KA.out.lt;obtain⟨z0,z1,z2,z3,z4,z5,z6,z7⟩:=Bk.k8 KB.out;have zf:=KB.out.fz;have ltZ:=KB.out.lt;clear he))
 clear x0 x1 x2 x3 x4 x5 x6 x7 z0 z1 z2 z3 z4 z5 z6 z7 d0 d1 d2 d3 d4 d5 d6 d7 zf ltZ;obtain⟨f0,f1,f2,f3,f4,f5,f6,f7⟩:=Bk.k8 KA.out;have ltBB:=KB.out.lt;refine zAi rfl 9 [(26,[26]),(27,[27]),(28,[28]),(29,[29]),(30,[30]),(31,[31]),(32,[32]),(33,[33,28,32]),(5,[5])]
  (fun i vs u F=>match i,vs with
   | 0,[y]=>y = .pointer (some ⟨w.heap.size,0,none⟩)
   | 1,[y]=>y = .agg #[.slice a0 x.Box.Plan.Parts.length c0,.slice a1 x.Box.Plan.Channels.length c1,.slice a2 x.Box.Plan.Slots.length c2,.slice a3 x.Box.Programs.length c3,.slice a4 x.Box.Cores.length c4,.slice a5 x.Box.Holds.length c5,.int .i64 x.Box.Tick]
   | 2,[y] => ∃ t0 u0 t1 u1 t2 u2 t3 u3 t4 u4 t5 u5,y = .agg #[.slice t0 mt.Plan.Parts.length u0,.slice t1 mt.Plan.Channels.length u1,.slice t2 mt.Plan.Slots.length u2,.slice t3 mt.Programs.length u3,.slice t4 mt.Cores.length u4,.slice t5 mt.Holds.length u5,.int .i64 mt.Tick]/\GT.enc u [.slice t0 mt.Plan.Parts.length u0,.slice t1 mt.Plan.Channels.length u1,.slice t2 mt.Plan.Slots.length u2,.slice t3 mt.Programs.length u3,.slice t4 mt.Cores.length u4,.slice t5 mt.Holds.length u5,.int .i64 mt.Tick] mt F
   | 3,[y] => ∃ B,y = .slice (some ⟨B,0,none⟩) 0 0
   | 4,[y]=>y = .pointer (some ⟨w.heap.size,7,none⟩)
   | 5,[y]=>y = .slice a7 x.States.length c7
   | 6,[y] => ∃ p q,y = .slice p x.States.length q/\Sl u y x.States F
   | 7,[y,z,z1] => ∃ s0 s1 s2 s3 s4 s5,z = .agg #[s0,s1,s2,s3,s4,s5,.int .i64 mt.Tick]/\y = .agg #[s0,s1,s2,s3,s4,s5,.int .i64 mt.Tick,z1]
   | 8,[y] => ∃ B,y = .pointer (some ⟨B,0,none⟩)/\F = [B]/\Bk u B [.slice none 0 0,.slice none 0 0,.slice none 0 0,.slice none 0 0,.slice none 0 0,.slice none 0 0,.int .i64 0,.slice none 0 0] 35
   | _,_=>False) (by decide +kernel) ?_ ?_
 ·intro i hi o ho U u F hE hd hap;have g0:=(zA0 hE ltA).trans f0;have g1:=(zA0 hE ltA).trans f1;have g2:=(zA0 hE ltA).trans f2;have g3:=(zA0 hE ltA).trans f3;have g4:=(zA0 hE ltA).trans f4;have g5:=(zA0 hE ltA).trans f5;have g6:=(zA0 hE ltA).trans f6;have g7:=(zA0 hE ltA).trans f7;rcases(by omega:i=0\/i=1\/i=2\/i=3\/i=4\/i=5\/i=6\/i=7\/i=8) with rfl|rfl|rfl|rfl|rfl|rfl|rfl|rfl|rfl
  ·cases ho;simp only[fr];intro K hK;go_wp2;exact zk hK _ (fun _ _=>rfl)
  ·cases ho;simp only[fr];obtain⟨⟨d0,-⟩,-⟩:=fa [0] (by decide +kernel) hd
   simp only[fu] at d0;try simp only[d0]
   clear d0;intro K hK;go_wp2;exact zk hK _ (fun _ _=>rfl)
  ·cases ho;simp only[fr];obtain⟨⟨d0,-⟩,⟨d1,-⟩,-⟩:=fa [0,1] (by decide +kernel) hd
   simp only[fu] at d0 d1;try simp only[d0,d1]
   intro K hK;go_wp2_with (go_at_call 52;refine(HCT.out _ (E.out.tr hE)).mono ?_;rintro e w' ⟨v',rfl,hov,ex1⟩;obtain⟨cs,F',rfl,hen,how⟩:=hov;obtain⟨v0,v1,v2,v3,v4,v5,F0,F1,F2,F3,F4,F5,rfl,⟨r0,t0,rfl,_⟩,⟨r1,t1,rfl,_⟩,⟨r2,t2,rfl,_⟩,⟨r3,t3,rfl,_⟩,⟨r4,t4,rfl,_⟩,⟨r5,t5,rfl,_⟩,_,_⟩:=id hen)
   exact hK _ F' _ ex1 (fun _ h=>⟨_,_,_,_,_,_,_,_,_,_,_,_,rfl,GT.ext hen h⟩) how
  ·cases ho;simp only[fr];intro K hK;go_wp2;exact hK _ [] _ ((zr u).alloc _) (fun _ _=>⟨_,rfl⟩) (Own.nil _ _)
  ·cases ho;simp only[fr];intro K hK;go_wp2;exact zk hK _ (fun _ _=>rfl)
  ·cases ho;simp only[fr];obtain⟨⟨d4,-⟩,-⟩:=fa [4] (by decide +kernel) hd
   simp only[fu] at d4;try simp only[d4]
   clear d4;intro K hK;go_wp2;exact zk hK _ (fun _ _=>rfl)
  ·cases ho;simp only[fr];obtain⟨⟨d0,-⟩,⟨d1,-⟩,⟨d2,o2⟩,⟨d3,o3⟩,⟨d4,-⟩,⟨d5,-⟩,-⟩:=fa [0,1,2,3,4,5] (by decide +kernel) hd
   simp only[fu] at d0 d1 d2 d3 d4 d5;try simp only[d0,d1,d4,d5]
   obtain⟨B3,d3⟩:=d3;simp only[d3];intro K hK;refine zD4 (α:=Health) rfl _ _ 33 rfl 44 Tryz.underlying33 zGj rfl rfl (h7.out.ext (E.out.tr hE)) (by omega) ?_
   intro v' w' F' s1 ow1 ex1;obtain⟨p9,q9,rfl,_⟩:=id s1;go_wp2;exact hK _ F' _ ex1 (fun _ h=>⟨_,_,rfl,s1.ext h⟩) ow1
  ·cases ho;simp only[fr];obtain⟨⟨d0,-⟩,⟨d1,-⟩,⟨d2,o2⟩,⟨d3,o3⟩,⟨d4,-⟩,⟨d5,-⟩,⟨d6,o6⟩,-⟩:=fa [0,1,2,3,4,5,6] (by decide +kernel) hd
   simp only[fu] at d0 d1 d2 d3 d4 d5 d6;try simp only[d0,d1,d4,d5]
   obtain⟨t0,u0,t1,u1,t2,u2,t3,u3,t4,u4,t5,u5,e1,_⟩:=d2;obtain⟨p6,q6,e6,_⟩:=d6;simp only[e1,e6];intro K hK;go_wp2;exact zk hK _ (fun _ _=>⟨_,_,_,_,_,_,e1,by show Value.agg _=Value.agg #[_,_,_,_,_,_,_,U 32];rw[e6]⟩)
  ·cases ho;simp only[fr];intro K hK;go_wp2;have b1:=Bk.new u [.slice none 0 0,.slice none 0 0,.slice none 0 0,.slice none 0 0,.slice none 0 0,.slice none 0 0,.int .i64 0,.slice none 0 0] 35;exact hK _ [u.heap.size] _ ((zr u).alloc _) (fun _ h=>⟨_,rfl,rfl,b1.ext h⟩) (b1.own (Nat.le_refl _))
 intro o ho U u F hE hφ hap;cases ho;simp only[fr];obtain⟨⟨d0,-⟩,⟨d1,-⟩,⟨d2,o2⟩,⟨d3,o3⟩,⟨d4,-⟩,⟨d5,-⟩,⟨d6,o6⟩,⟨d7,o7⟩,⟨d8,o8⟩,-⟩:=fb [0,1,2,3,4,5,6,7,8] (by decide +kernel) hφ
 simp only[fu] at d0 d1 d2 d3 d4 d5 d6 d7 d8;try simp only[d0,d1,d4,d5]
 obtain⟨t0,u0,t1,u1,t2,u2,t3,u3,t4,u4,t5,u5,e1,n1⟩:=d2;obtain⟨p6,q6,e6,n6⟩:=d6;obtain⟨x0,x1,x2,x3,x4,x5,z6,y6⟩:=d7;obtain⟨B,d8,k8,b8⟩:=d8;rw[e1] at z6;have z7:=congrArg Array.toList (zCc z6);simp only[List.cons.injEq] at z7;obtain⟨rfl,rfl,rfl,rfl,rfl,rfl,_⟩:=z7;have a26:=hap 2 6 (by omega) (by omega) (by omega)
 have a28:=hap 2 8 (by omega) (by omega) (by omega)
 have a68:=hap 6 8 (by omega) (by omega) (by omega)
 rw[e6] at y6 n6;have OX:Own w0'.heap.size u (F 2++F 6):=o2.join o6 a26;have EN:=zh (zGk n1 n6);rw[k8] at o8 a28 a68;have nB:B ∉ F 2++F 6:=fun hm=>(List.mem_append.1 hm).elim (fun h=>a28.one h) (fun h=>a68.one h)
 have lB:w0'.heap.size<=B:=(o8.2 B (by simp)).1
 generalize F 2++F 6=FX at *
 clear hap hφ e1 e6 z6 n1 n6 k8 o2 o6 o8 a26 a28 a68 d0 d1 d3 d4 d5;simp only[d8,y6];have OMR:=zh (Om.newW (T:=35) (c0:=[.slice none 0 0,.slice none 0 0,.slice none 0 0,.slice none 0 0,.slice none 0 0,.slice none 0 0,.int .i64 0,.slice none 0 0]) EN.out OX b8 rfl lB nB);obtain⟨b8_0,b8_1,b8_2,b8_3,b8_4,b8_5,b8_6,b8_7⟩:=Bk.k8 b8;have bf8:=b8.fz;have lt8:=b8.lt;have EX8:=zh hE;clear b8 d8 y6 hE OX EN;go_upto_region 5 with (fail)
 refine zA1 (fun W=>Ext w0' W/\Om w0'.heap.size W B 0 (⟨mt,x.States⟩:Watch) FX) ⟨Ext.puts (b:=B) (o:=0) lB [.slice t0 mt.Plan.Parts.length u0,.slice t1 mt.Plan.Channels.length u1,.slice t2 mt.Plan.Slots.length u2,.slice t3 mt.Programs.length u3,.slice t4 mt.Cores.length u4,.slice t5 mt.Holds.length u5,.int .i64 mt.Tick,.slice p6 x.States.length q6] EX8.out,OMR.out⟩ ?_
 rintro W5 ⟨e5,om5⟩;obtain⟨z,hz⟩:∃ z,(⟨mt,x.States⟩:Watch)=z:=⟨_,rfl⟩;rw[hz] at om5 HWT HMI HHI;have hzB:Hid (mt=z.Box):=zh (by rw[<- hz])
 have hzS:Hid (z.States=x.States):=zh (by rw[<- hz])
 rw[hzB.out] at hlc HMI HHI;obtain⟨p0,q0,p1,q1,p2,q2,p3,q3,p4,q4,p5,q5,p7,q7,y0,y1,y2,y3,y4,y5,y6,y7,hen5,how5⟩:=om5.openW;obtain⟨v0,v1,v2,v3,v4,v5,v7,G0,G1,G2,G3,G4,G5,G7,e,-,-,-,-,s4,-,-,-,-⟩:=id hen5;simp only[List.cons.injEq] at e;obtain⟨rfl,rfl,rfl,rfl,rfl,rfl,-,rfl,-⟩:=e;have S4:Hid (Rs W5 (.slice p4 z.Box.Cores.length q4) z.Box.Cores):=zh ⟨_,s4⟩;have E5:=zh (E.out.tr e5);have KA5:=KA.out.ext e5;have KB5:=zh (KB.out.ext e5);have hZ0:=KB.out.lt;obtain⟨d0,d1,d2,d3,d4,d5,d6,d7⟩:=Bk.k8 KA5;have HEN5:=zh hen5;have HOW5:=zh how5;clear KA5 hen5 how5 s4 om5 e5 OMR EX8 hz f0 f1 f2 f3 f4 f5 f6 f7 KA KB;go_wp2_with fail
 go_loopw [6] (fun v6 wr => ∃ k:Nat,k<=x.States.length/\v6 = .int .i64 k/\wr=W5/\∀ (j:Nat) (a c:Core),j < k->x.Box.Cores[j]? = some a->z.Box.Cores[j]? = some c->¬ (a.Stopped=false/\c.Stopped=true)) (fun v6 _=>x.States.length - (intOf v6).toNat)
 case atStart=>exact⟨0,Nat.zero_le _,rfl,rfl,fun j a c hj=>by omega⟩
 case round =>
  obtain⟨k,hk,rfl,hwr,hall⟩:=hrel;subst hwr;have HALL:=zh hall;clear hall;by_cases hkt:k < x.States.length
  ·have hkA:k < x.Box.Cores.length:=by have:=HNS.out;omega
   have hkZ:k < z.Box.Cores.length:=by have:=hlc.out;omega
   obtain⟨b4,o4,a,_,_,rfl,hlt4,ha,_,_,hca,_⟩:=(h4.out.ext E5.out).atCore k hkA;obtain⟨b5,o5,c,_,_,rfl,hlt5,hc,_,_,hcc,_⟩:=S4.out.atCore k hkZ;obtain⟨p,hp⟩:∃ p,a.Stopped=p:=⟨_,rfl⟩;obtain⟨q,hq⟩:∃ q,c.Stopped=q:=⟨_,rfl⟩;rw[hp] at hca;rw[hq] at hcc;have HP:=zh hp;have HQ:=zh hq;have HA2:Hid (¬ (p=false/\q=true)->∀ (j:Nat) (a c:Core),j < k+1->x.Box.Cores[j]? = some a->z.Box.Cores[j]? = some c->¬ (a.Stopped=false/\c.Stopped=true)):=zh (fun hn j a' c' hj e1 e2=>by
    by_cases e:j=k
    ·subst e;rw[ha.out] at e1;rw[hc.out] at e2;obtain rfl:=Option.some.inj e1;obtain rfl:=Option.some.inj e2;rw[HP.out,HQ.out];exact hn
    ·exact HALL.out j a' c' (by omega) e1 e2)
   clear hp hq;cases p
   ·cases q
    ·go_wp2;go_roundw
     case rel=>exact⟨k+1,by omega,by go_num,(by first|rfl|trivial),HA2.out (fun h=>by cases h.2)⟩
     case measure=>simp[intOf];omega
    ·have hit:=HHI.out k a c ha.out hc.out HP.out HQ.out;have hkS:k < z.States.length:=by rw[hzS.out];exact hkt
     have hin:zA6 (k:Int) 0 ((z.States.length:Int) - 1)=true:=zA5.2 ⟨by omega,by omega⟩
     have hwf:=zD2 (f:=1) (zBf.2 HWT.out) g1 hin (zA5.2 ⟨by decide,by decide⟩)
     have HC:=fun(v:Value) (u:World) (hv:Rv u v z) (e:Ext W2 u)=>zF6 v _ z t k 1 u hv (HT.out.ext e)
     rw[hwf] at HC;obtain⟨r,hr⟩:∃ r,zEx z t k 1=r:=⟨_,rfl⟩;have hit2:zBd x t=(zEx z t k 1).1:=hit;rw[hr] at HC hit2;obtain⟨y,act⟩:=r;simp only at HC hit2;have hry:=zh (hw1.out.trans hit2);replace HC:=zh HC;clear hit hit2 hwf hr hin;have hs25:=E5.out.sz;go_upto_region 9 with (fail)
     go_upto_region 10 with (go_at_call 8;go_loud (refine(HC.out _ _ ⟨_,_,rfl,HEN5.out⟩ E5.out).mono ?_;rintro e w9 ⟨v9,rfl,hov,he⟩;obtain⟨r0,s0,r1,s1,r2,s2,r3,s3,r4,s4,r5,s5,r7,s7,F9,rfl,hen,how⟩:=hov.openW;have HEN:=zh hen;have HOW:=zh how;have EX:=zh he;have KBx:=zh (KB5.out.ext he);clear hen how he hov))
     have hs9:=EX.out.sz;refine zA1 (fun W=>Ext W2 W/\Bk W w9.heap.size [.slice r0 y.Box.Plan.Parts.length s0,.slice r1 y.Box.Plan.Channels.length s1,.slice r2 y.Box.Plan.Slots.length s2,.slice r3 y.Box.Programs.length s3,.slice r4 y.Box.Cores.length s4,.slice r5 y.Box.Holds.length s5,.int .i64 y.Box.Tick,.slice r7 y.States.length s7] 35/\Bk W (w.heap.size+1) [.slice none 0 0,.slice none 0 0,.slice none 0 0,.slice none 0 0,.slice none 0 0,.slice none 0 0,.int .i64 0,.slice none 0 0] 35/\GT.enc W [.slice r0 y.Box.Plan.Parts.length s0,.slice r1 y.Box.Plan.Channels.length s1,.slice r2 y.Box.Plan.Slots.length s2,.slice r3 y.Box.Programs.length s3,.slice r4 y.Box.Cores.length s4,.slice r5 y.Box.Holds.length s5,.int .i64 y.Box.Tick,.slice r7 y.States.length s7] y F9/\Own wr.heap.size W F9) ⟨(E5.out.tr EX.out).tr ((zr _).alloc _),Bk.new _ _ _,KBx.out.ext ((zr _).alloc _),GT.ext HEN.out ((zr _).alloc _),HOW.out.ext ((zr _).alloc _)⟩ ?_
     rintro W9 ⟨e9,kC,kZ,hen9,how9⟩;have E9:=zh (EW.out.tr e9);have HEN9:=zh hen9;have HOW9:=zh how9;obtain⟨c0,c1,c2,c3,c4,c5,c6,c7⟩:=Bk.k8 kC;have ltC:=kC.lt;obtain⟨z0,z1,z2,z3,z4,z5,z6,z7⟩:=Bk.k8 kZ;have zf:=kZ.fz;have ltZ:=kZ.lt;have hZ:w.heap.size+1 ∉ F9:=fun hm=>by have:=(how9.2 _ hm).1;have:=KB5.out.lt;omega
     have hlt9:w.heap.size+1 < wr.heap.size:=KB5.out.lt;clear e9 kC kZ hen9 how9 HEN HOW EX KBx
     generalize w9.heap.size=C at *
     go_wp2;refine bodyPost_ret (v:=.agg #[.slice r0 y.Box.Plan.Parts.length s0,.slice r1 y.Box.Plan.Channels.length s1,.slice r2 y.Box.Plan.Slots.length s2,.slice r3 y.Box.Programs.length s3,.slice r4 y.Box.Cores.length s4,.slice r5 y.Box.Holds.length s5,.int .i64 y.Box.Tick,.slice r7 y.States.length s7]) (by simp[results,Tryz.results18,go_sem,z0,z1,z2,z3,z4,z5,z6,z7]) rfl ⟨_,rfl,by rw[hry.out];exact⟨_,_,rfl,zAt (c:=w.heap.size+1) (o:=0) (ds:=[.slice r0 y.Box.Plan.Parts.length s0,.slice r1 y.Box.Plan.Channels.length s1,.slice r2 y.Box.Plan.Slots.length s2,.slice r3 y.Box.Programs.length s3,.slice r4 y.Box.Cores.length s4,.slice r5 y.Box.Holds.length s5,.int .i64 y.Box.Tick,.slice r7 y.States.length s7]) HEN9.out hZ,((HOW9.out.mono (by omega)).puts (b:=w.heap.size+1) (o:=0) [.slice r0 y.Box.Plan.Parts.length s0,.slice r1 y.Box.Plan.Channels.length s1,.slice r2 y.Box.Plan.Slots.length s2,.slice r3 y.Box.Programs.length s3,.slice r4 y.Box.Cores.length s4,.slice r5 y.Box.Holds.length s5,.int .i64 y.Box.Tick,.slice r7 y.States.length s7])⟩,?_⟩
     exact Ext.puts (b:=w.heap.size+1) (o:=0) (by omega) [.slice r0 y.Box.Plan.Parts.length s0,.slice r1 y.Box.Plan.Channels.length s1,.slice r2 y.Box.Plan.Slots.length s2,.slice r3 y.Box.Programs.length s3,.slice r4 y.Box.Cores.length s4,.slice r5 y.Box.Holds.length s5,.int .i64 y.Box.Tick,.slice r7 y.States.length s7] E9.out
   ·go_wp2
    all_goals exact⟨⟨k+1,by omega,by go_num,(by first|rfl|trivial),HA2.out (fun h=>by cases h.1)⟩,by simp[intOf];omega⟩
  ·obtain rfl:k=x.States.length:=by omega
   have hry:Hid (zAo x t 1 1=z):=zh (hw1.out.trans (HMI.out HALL.out));have hZ:w.heap.size+1 ∉ FX:=fun hm=>by have:=(HOW5.out.2 _ hm).1;omega
   have hs25:=(EW.out.tr E5.out).sz;have E9:=zh (EW.out.tr E5.out);obtain⟨z0,z1,z2,z3,z4,z5,z6,z7⟩:=Bk.k8 KB5.out;have zf:=KB5.out.fz;have ltZ:=KB5.out.lt;go_wp2;refine bodyPost_ret (v:=.agg #[.slice p0 z.Box.Plan.Parts.length q0,.slice p1 z.Box.Plan.Channels.length q1,.slice p2 z.Box.Plan.Slots.length q2,.slice p3 z.Box.Programs.length q3,.slice p4 z.Box.Cores.length q4,.slice p5 z.Box.Holds.length q5,.int .i64 z.Box.Tick,.slice p7 z.States.length q7]) (by simp[results,Tryz.results18,go_sem,z0,z1,z2,z3,z4,z5,z6,z7]) rfl ⟨_,rfl,by rw[hry.out];exact⟨_,_,rfl,zAt (c:=w.heap.size+1) (o:=0) (ds:=[.slice p0 z.Box.Plan.Parts.length q0,.slice p1 z.Box.Plan.Channels.length q1,.slice p2 z.Box.Plan.Slots.length q2,.slice p3 z.Box.Programs.length q3,.slice p4 z.Box.Cores.length q4,.slice p5 z.Box.Holds.length q5,.int .i64 z.Box.Tick,.slice p7 z.States.length q7]) HEN5.out hZ,((HOW5.out.mono (by omega)).puts (b:=w.heap.size+1) (o:=0) [.slice p0 z.Box.Plan.Parts.length q0,.slice p1 z.Box.Plan.Channels.length q1,.slice p2 z.Box.Plan.Slots.length q2,.slice p3 z.Box.Programs.length q3,.slice p4 z.Box.Cores.length q4,.slice p5 z.Box.Holds.length q5,.int .i64 z.Box.Tick,.slice p7 z.States.length q7])⟩,?_⟩
   exact Ext.puts (b:=w.heap.size+1) (o:=0) (by omega) [.slice p0 z.Box.Plan.Parts.length q0,.slice p1 z.Box.Plan.Channels.length q1,.slice p2 z.Box.Plan.Slots.length q2,.slice p3 z.Box.Programs.length q3,.slice p4 z.Box.Cores.length q4,.slice p5 z.Box.Holds.length q5,.int .i64 z.Box.Tick,.slice p7 z.States.length q7] E9.out
end Sk
