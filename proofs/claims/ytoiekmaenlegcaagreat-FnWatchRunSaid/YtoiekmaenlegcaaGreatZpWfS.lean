/- Contracts of functions of the given program. -/
import Derived.Test.YtoiekmaenlegcaaGreatZnWfI
namespace Sk
open Go Go.Proofs Go.RowKit
set_option maxHeartbeats 4000000
set_option maxRecDepth 100000
set_option linter.unusedVariables false
set_option linter.unusedSimpArgs false
theorem zF6(v vt:Value)(x:Watch)(t:List Int)(n f:Int)(w:World)(h:Rv w v x)(ht:Rs w vt t) :
  Calls Tryz.prog 8 #[v,vt,.int .i64 n,.int .i64 f] w fun e w' => ∃ v',e = .returned (.tuple #[v',.int .i64 (zAu x t n f).2])/\Ov w.heap.size w' v' (zAu x t n f).1/\Ext w w':=by
 have H:=zh h;have HT:=zh ht;obtain⟨ta,tc,rfl,htl⟩:=ht.form;obtain⟨a0,c0,a1,c1,a2,c2,a3,c3,a4,c4,a5,c5,a7,c7,rfl,r6,h0,l0,h1,l1,h2,l2,h3,l3,h4,l4,h5,l5,h7,l7⟩:=h.openWatch;clear h ht;go_enter Tryz.func8,Tryz.ntmps8;go_upto_region 1 with (fail)
 refine zA1 (fun W=>Ext w W/\Bk W w.heap.size [.slice a0 x.Box.Plan.Parts.length c0,.slice a1 x.Box.Plan.Channels.length c1,.slice a2 x.Box.Plan.Slots.length c2,.slice a3 x.Box.Programs.length c3,.slice a4 x.Box.Cores.length c4,.slice a5 x.Box.Holds.length c5,.int .i64 x.Box.Tick,.slice a7 x.States.length c7] 35/\Bk W (w.heap.size+1) [.slice none 0 0,.slice none 0 0,.slice none 0 0,.slice none 0 0,.slice none 0 0,.slice none 0 0,.int .i64 0,.slice none 0 0] 35) ⟨((zr _).alloc _).alloc _,(Bk.new _ _ _).ext ((zr _).alloc _),Bk.new1 _ _ _ _⟩ ?_
 rintro W ⟨e1,kA,kB⟩;have HE0:=zh e1;have KA0:=zh kA;have KB0:=zh kB;obtain⟨d0,d1,d2,d3,d4,d5,d6,d7⟩:=Bk.k8 kA;have ltA:=kA.lt;clear e1 kA kB;have hwr:IntKind.i64.wrap ((x.States.length:Int) - 1)=(x.States.length:Int) - 1:=zAx (by omega) (by omega)
 cases g0:zBh x
 ·have g:(zBh x && (zD8 t && (zA6 n 0 ((x.States.length:Int) - 1) && zA6 f 0 3)))=false:=by rw[g0];simp
  go_wp2_with (first
   | (go_at_call 34;refine(zAq _ x _ (H.out.ext HE0.out)).mono ?_;rintro e w0 ⟨rfl,he⟩;rw[g0];have E:=zh (HE0.out.tr he);have KA:=zh (KA0.out.ext he);have KB:=zh (KB0.out.ext he);obtain⟨x0,x1,x2,x3,x4,x5,x6,x7⟩:=Bk.k8 KA.out;have ltA:=KA.out.lt;obtain⟨z0,z1,z2,z3,z4,z5,z6,z7⟩:=Bk.k8 KB.out;have zf:=KB.out.fz;have ltZ:=KB.out.lt;clear he)
   | (go_at_call 35;refine(zA8 _ _ _ _).mono ?_;rintro e w9 ⟨rfl,rfl⟩;rw[g2]))
  refine bodyPost_ret (v:=.tuple #[.agg #[.slice none 0 0,.slice none 0 0,.slice none 0 0,.slice none 0 0,.slice none 0 0,.slice none 0 0,.int .i64 0,.slice none 0 0],.int .i64 (-1)]) (by simp[results,Tryz.results8,go_sem,z0,z1,z2,z3,z4,z5,z6,z7]) rfl ⟨_,by rw[zAl g],by rw[zAl g];exact Ov.wz _ _,((((((((E.out).set (by simp) _).set (by simp) _).set (by simp) _).set (by simp) _).set (by simp) _).set (by simp) _).set (by simp) _).set (by simp) _⟩
 cases g2:zA6 n 0 ((x.States.length:Int) - 1)
 ·have g:(zBh x && (zD8 t && (zA6 n 0 ((x.States.length:Int) - 1) && zA6 f 0 3)))=false:=by rw[g2];simp
  go_wp2_with (first
   | (go_at_call 34;refine(zAq _ x _ (H.out.ext HE0.out)).mono ?_;rintro e w0 ⟨rfl,he⟩;rw[g0];have E:=zh (HE0.out.tr he);have KA:=zh (KA0.out.ext he);have KB:=zh (KB0.out.ext he);obtain⟨x0,x1,x2,x3,x4,x5,x6,x7⟩:=Bk.k8 KA.out;have ltA:=KA.out.lt;obtain⟨z0,z1,z2,z3,z4,z5,z6,z7⟩:=Bk.k8 KB.out;have zf:=KB.out.fz;have ltZ:=KB.out.lt;clear he)
   | (go_at_call 35;refine(zA8 _ _ _ _).mono ?_;rintro e w9 ⟨rfl,rfl⟩;rw[g2]))
  refine bodyPost_ret (v:=.tuple #[.agg #[.slice none 0 0,.slice none 0 0,.slice none 0 0,.slice none 0 0,.slice none 0 0,.slice none 0 0,.int .i64 0,.slice none 0 0],.int .i64 (-1)]) (by simp[results,Tryz.results8,go_sem,z0,z1,z2,z3,z4,z5,z6,z7]) rfl ⟨_,by rw[zAl g],by rw[zAl g];exact Ov.wz _ _,((((((((E.out).set (by simp) _).set (by simp) _).set (by simp) _).set (by simp) _).set (by simp) _).set (by simp) _).set (by simp) _).set (by simp) _⟩
 obtain⟨b1,b2⟩:=zA5.1 g2;obtain⟨n,rfl⟩:∃ k:Nat,n=k:=⟨n.toNat,by omega⟩
 have hn:n < x.States.length:=by omega
 have hwv:=zBf.1 g0;have htot:GT.tot x.Box<=1048576:=Nat.le_trans (zC1 hwv.box) (by omega)
 have hsl:x.States.length<=100:=by have:=hwv.ns;have:=hwv.box.nc;have:=zAc hwv.box.pg.set;omega
 have hC:n < x.Box.Cores.length:=by have:=hwv.ns;omega
 have HWV:=zh hwv;clear hwv;go_upto_region 3 with (first
   | (go_at_call 34;refine(zAq _ x _ (H.out.ext HE0.out)).mono ?_;rintro e w0 ⟨rfl,he⟩;rw[g0];have E:=zh (HE0.out.tr he);have KA:=zh (KA0.out.ext he);have KB:=zh (KB0.out.ext he);obtain⟨x0,x1,x2,x3,x4,x5,x6,x7⟩:=Bk.k8 KA.out;have ltA:=KA.out.lt;obtain⟨z0,z1,z2,z3,z4,z5,z6,z7⟩:=Bk.k8 KB.out;have zf:=KB.out.fz;have ltZ:=KB.out.lt;clear he)
   | (go_at_call 35;refine(zA8 _ _ _ _).mono ?_;rintro e w9 ⟨rfl,rfl⟩;rw[g2]))
 obtain⟨hb7,ho7,k,rfl,hlt7,hk,hc70,hc71,hrk,hRv⟩:=(h7.out.ext E.out).atHealth n hn;have hhk:zEr k=true:=HWV.out.hh k (List.mem_of_getElem? hk.out);have hgk:x.States.getD n ⟨false,0⟩=k:=by rw[List.getD_eq_getElem?_getD,hk.out];rfl
 cases g13:(zD8 t && zA6 f 0 3)
 ·have g:(zBh x && (zD8 t && (zA6 n 0 ((x.States.length:Int) - 1) && zA6 f 0 3)))=false:=by
   rw[g0,g2]
   revert g13
   cases zD8 t<;>simp
  have hst:zBm k t f=(⟨false,0⟩,-1):=by unfold zBm;rw[hhk,g13];rfl
  have HS:=fun(w1:World) (hw:Ext w0 w1)=>zF5 _ _ k t f w1 (hRv.out.ext hw) (HT.out.ext (E.out.tr hw))
  rw[hst] at HS;replace HS:=zh HS;clear hst hgk;go_upto_region 4 with (go_at_call 36;refine(HS.out _ (zr _)).mono ?_;rintro e w1 ⟨rfl,he⟩;replace E:=zh (E.out.tr he);replace KB:=zh (KB.out.ext he);clear he)
  refine zA1 (fun W=>Ext w W/\Bk W (w.heap.size+1) [.slice none 0 0,.slice none 0 0,.slice none 0 0,.slice none 0 0,.slice none 0 0,.slice none 0 0,.int .i64 0,.slice none 0 0] 35) ⟨E.out.tr ((zr _).alloc _),KB.out.ext ((zr _).alloc _)⟩ ?_
  rintro W3 ⟨e3,kB3⟩;replace E:=zh e3;clear e3 KB z0 z1 z2 z3 z4 z5 z6 z7 zf ltZ;obtain⟨z0,z1,z2,z3,z4,z5,z6,z7⟩:=Bk.k8 kB3;have zf:=kB3.fz;have ltZ:=kB3.lt;clear kB3;go_wp2;refine bodyPost_ret (v:=.tuple #[.agg #[.slice none 0 0,.slice none 0 0,.slice none 0 0,.slice none 0 0,.slice none 0 0,.slice none 0 0,.int .i64 0,.slice none 0 0],.int .i64 (-1)]) (by simp[results,Tryz.results8,go_sem,z0,z1,z2,z3,z4,z5,z6,z7]) rfl ⟨_,by rw[zAl g],by rw[zAl g];exact Ov.wz _ _,((((((((E.out).set (by simp) _).set (by simp) _).set (by simp) _).set (by simp) _).set (by simp) _).set (by simp) _).set (by simp) _).set (by simp) _⟩
 rw[Bool.and_eq_true] at g13;obtain⟨g1,g3⟩:=g13;have hres:=zh (zD2 g0 g1 g2 g3);have hst:zBm k t f=zC0 k t f:=by unfold zBm;rw[hhk,g1,g3];rfl
 have hact:=zIu (h:=k) (t:=t) (f:=f);have hsr:=zL4 (t:=t) (f:=f) hhk;have hwf:zEx x t n f=(⟨zCj x.Box n (zC0 k t f).2,x.States.set n (zC0 k t f).1⟩,(zC0 k t f).2):=by unfold zEx;rw[hgk]
 have HS:=fun(w1:World) (hw:Ext w0 w1)=>zF5 _ _ k t f w1 (hRv.out.ext hw) (HT.out.ext (E.out.tr hw))
 rw[hst] at HS;obtain⟨r,hr⟩:∃ r,zC0 k t f=r:=⟨_,rfl⟩;rw[hr] at hact hsr hwf HS;obtain⟨s',act⟩:=r;simp only at hact hsr hwf HS;replace HS:=zh HS;have HWF:=zh hwf;have hq:x.Box.Plan.Parts[n]? = some (x.Box.Plan.Parts[n]'(by have:=HWV.out.box.nc;omega)):=List.getElem?_eq_getElem _
 generalize x.Box.Plan.Parts[n]'(by have:=HWV.out.box.nc;omega)=q at hq
 have hpc:M.pc x.Box n=q.Cells:=by simp only[M.pc,List.getD_eq_getElem?_getD,hq,Option.getD_some]
 have hrp:Hid (zBg x.Box n=zGc x.Box n):=zh (by rw[zCl (zBj.2 HWV.out.box) hC hq];unfold zGc;rw[hpc])
 clear hst hgk hr hwf hq hpc;go_upto_region 4 with (go_at_call 36;refine(HS.out _ (zr _)).mono ?_;rintro e w1 ⟨rfl,he⟩;have E1:=zh (E.out.tr he);replace KA:=zh (KA.out.ext he);replace KB:=zh (KB.out.ext he);clear he)
 refine zA1 (fun W=>Ext w1 W/\Bk W w1.heap.size [.bool s'.Frozen,.int .i64 s'.Restarts] 44) ⟨(zr _).alloc _,Bk.new _ _ _⟩ ?_
 rintro W3 ⟨e3,kQ⟩;have E3:=zh (E1.out.tr e3);have KA3:=zh (KA.out.ext e3);have KB3:=zh (KB.out.ext e3);have KQ:=zh kQ;obtain⟨f0,f1,f2,f3,f4,f5,f6,f7⟩:=Bk.k8 KA3.out;have ltA:=KA3.out.lt;have hsz3:=E3.out.sz;have ltQ:=kQ.lt;have ltB3:=KB3.out.lt;clear e3 kQ KA KB E1 d0 d1 d2 d3 d4 d5 d6 d7 x0 x1 x2 x3 x4 x5 x6 x7 z0 z1 z2 z3 z4 z5 z6 z7 zf ltZ hc70 hc71 HS;have hnl:decide (act < 0)=false:=decide_eq_false (by omega)
 go_upto_region 6 with (fail)
 refine zAi rfl 9 [(40,[40]),(41,[41]),(42,[42]),(43,[43]),(44,[44]),(45,[45]),(46,[46]),(47,[47,42,46]),(12,[12])]
  (fun i vs u F=>match i,vs with
   | 0,[y]=>y = .pointer (some ⟨w.heap.size,0,none⟩)
   | 1,[y]=>y = .agg #[.slice a0 x.Box.Plan.Parts.length c0,.slice a1 x.Box.Plan.Channels.length c1,.slice a2 x.Box.Plan.Slots.length c2,.slice a3 x.Box.Programs.length c3,.slice a4 x.Box.Cores.length c4,.slice a5 x.Box.Holds.length c5,.int .i64 x.Box.Tick]
   | 2,[y] => ∃ t0 u0 t1 u1 t2 u2 t3 u3 t4 u4 t5 u5,y = .agg #[.slice t0 x.Box.Plan.Parts.length u0,.slice t1 x.Box.Plan.Channels.length u1,.slice t2 x.Box.Plan.Slots.length u2,.slice t3 x.Box.Programs.length u3,.slice t4 x.Box.Cores.length u4,.slice t5 x.Box.Holds.length u5,.int .i64 x.Box.Tick]/\GT.enc u [.slice t0 x.Box.Plan.Parts.length u0,.slice t1 x.Box.Plan.Channels.length u1,.slice t2 x.Box.Plan.Slots.length u2,.slice t3 x.Box.Programs.length u3,.slice t4 x.Box.Cores.length u4,.slice t5 x.Box.Holds.length u5,.int .i64 x.Box.Tick] x.Box F
   | 3,[y] => ∃ B,y = .slice (some ⟨B,0,none⟩) 0 0
   | 4,[y]=>y = .pointer (some ⟨w.heap.size,7,none⟩)
   | 5,[y]=>y = .slice (some ⟨hb7,ho7,none⟩) x.States.length c7
   | 6,[y] => ∃ p q,y = .slice p x.States.length q/\Sl u y x.States F
   | 7,[y,z,z1] => ∃ s0 s1 s2 s3 s4 s5,z = .agg #[s0,s1,s2,s3,s4,s5,.int .i64 x.Box.Tick]/\y = .agg #[s0,s1,s2,s3,s4,s5,.int .i64 x.Box.Tick,z1]
   | 8,[y] => ∃ B,y = .pointer (some ⟨B,0,none⟩)/\F = [B]/\Bk u B [.slice none 0 0,.slice none 0 0,.slice none 0 0,.slice none 0 0,.slice none 0 0,.slice none 0 0,.int .i64 0,.slice none 0 0] 35
   | _,_=>False) (by decide +kernel) ?_ ?_
 ·intro i hi o ho U u F hE hd hap;have g0:=(zA0 hE ltA).trans f0;have g1:=(zA0 hE ltA).trans f1;have g2:=(zA0 hE ltA).trans f2;have g3:=(zA0 hE ltA).trans f3;have g4:=(zA0 hE ltA).trans f4;have g5:=(zA0 hE ltA).trans f5;have g6:=(zA0 hE ltA).trans f6;have g7:=(zA0 hE ltA).trans f7;rcases(by omega:i=0\/i=1\/i=2\/i=3\/i=4\/i=5\/i=6\/i=7\/i=8) with rfl|rfl|rfl|rfl|rfl|rfl|rfl|rfl|rfl
  ·cases ho;simp only[fr];intro K hK;go_wp2;exact zk hK _ (fun _ _=>rfl)
  ·cases ho;simp only[fr];obtain⟨⟨d0,-⟩,-⟩:=fa [0] (by decide +kernel) hd
   simp only[fu] at d0;try simp only[d0]
   clear d0;intro K hK;go_wp2;exact zk hK _ (fun _ _=>rfl)
  ·cases ho;simp only[fr];obtain⟨⟨d0,-⟩,⟨d1,-⟩,-⟩:=fa [0,1] (by decide +kernel) hd
   simp only[fu] at d0 d1;try simp only[d0,d1]
   intro K hK;go_wp2_with (go_at_call 37;refine(zD7 _ x.Box _ (Rv.mkMachine (h0.out.ext (E3.out.tr hE)) (h1.out.ext (E3.out.tr hE)) (h2.out.ext (E3.out.tr hE)) (h3.out.ext (E3.out.tr hE)) (h4.out.ext (E3.out.tr hE)) (h5.out.ext (E3.out.tr hE)) r6) htot).mono ?_;rintro e w' ⟨v',rfl,hov,ex1⟩;obtain⟨cs,F',rfl,hen,how⟩:=hov;obtain⟨v0,v1,v2,v3,v4,v5,F0,F1,F2,F3,F4,F5,rfl,⟨r0,t0,rfl,_⟩,⟨r1,t1,rfl,_⟩,⟨r2,t2,rfl,_⟩,⟨r3,t3,rfl,_⟩,⟨r4,t4,rfl,_⟩,⟨r5,t5,rfl,_⟩,_,_⟩:=id hen)
   exact hK _ F' _ ex1 (fun _ h=>⟨_,_,_,_,_,_,_,_,_,_,_,_,rfl,GT.ext hen h⟩) how
  ·cases ho;simp only[fr];intro K hK;go_wp2;exact hK _ [] _ ((zr u).alloc _) (fun _ _=>⟨_,rfl⟩) (Own.nil _ _)
  ·cases ho;simp only[fr];intro K hK;go_wp2;exact zk hK _ (fun _ _=>rfl)
  ·cases ho;simp only[fr];obtain⟨⟨d4,-⟩,-⟩:=fa [4] (by decide +kernel) hd
   simp only[fu] at d4;try simp only[d4]
   clear d4;intro K hK;go_wp2;exact zk hK _ (fun _ _=>rfl)
  ·cases ho;simp only[fr];obtain⟨⟨d0,-⟩,⟨d1,-⟩,⟨d2,o2⟩,⟨d3,o3⟩,⟨d4,-⟩,⟨d5,-⟩,-⟩:=fa [0,1,2,3,4,5] (by decide +kernel) hd
   simp only[fu] at d0 d1 d2 d3 d4 d5;try simp only[d0,d1,d4,d5]
   obtain⟨B3,d3⟩:=d3;simp only[d3];intro K hK;refine zD4 (α:=Health) rfl _ _ 33 rfl 44 Tryz.underlying33 zGj rfl rfl (h7.out.ext (E3.out.tr hE)) (by omega) ?_
   intro v' w' F' s1 ow1 ex1;obtain⟨p9,q9,rfl,_⟩:=id s1;go_wp2;exact hK _ F' _ ex1 (fun _ h=>⟨_,_,rfl,s1.ext h⟩) ow1
  ·cases ho;simp only[fr];obtain⟨⟨d0,-⟩,⟨d1,-⟩,⟨d2,o2⟩,⟨d3,o3⟩,⟨d4,-⟩,⟨d5,-⟩,⟨d6,o6⟩,-⟩:=fa [0,1,2,3,4,5,6] (by decide +kernel) hd
   simp only[fu] at d0 d1 d2 d3 d4 d5 d6;try simp only[d0,d1,d4,d5]
   obtain⟨t0,u0,t1,u1,t2,u2,t3,u3,t4,u4,t5,u5,e1,_⟩:=d2;obtain⟨p6,q6,e6,_⟩:=d6;simp only[e1,e6];intro K hK;go_wp2;exact zk hK _ (fun _ _=>⟨_,_,_,_,_,_,e1,by show Value.agg _=Value.agg #[_,_,_,_,_,_,_,U 46];rw[e6]⟩)
  ·cases ho;simp only[fr];intro K hK;go_wp2;have b1:=Bk.new u [.slice none 0 0,.slice none 0 0,.slice none 0 0,.slice none 0 0,.slice none 0 0,.slice none 0 0,.int .i64 0,.slice none 0 0] 35;exact hK _ [u.heap.size] _ ((zr u).alloc _) (fun _ h=>⟨_,rfl,rfl,b1.ext h⟩) (b1.own (Nat.le_refl _))
 intro o ho U u F hE hφ hap;cases ho;simp only[fr];obtain⟨⟨d0,-⟩,⟨d1,-⟩,⟨d2,o2⟩,⟨d3,o3⟩,⟨d4,-⟩,⟨d5,-⟩,⟨d6,o6⟩,⟨d7,o7⟩,⟨d8,o8⟩,-⟩:=fb [0,1,2,3,4,5,6,7,8] (by decide +kernel) hφ
 simp only[fu] at d0 d1 d2 d3 d4 d5 d6 d7 d8;try simp only[d0,d1,d4,d5]
 obtain⟨t0,u0,t1,u1,t2,u2,t3,u3,t4,u4,t5,u5,e1,n1⟩:=d2;obtain⟨p6,q6,e6,n6⟩:=d6;obtain⟨x0,x1,x2,x3,x4,x5,z6,y6⟩:=d7;obtain⟨B,d8,k8,b8⟩:=d8;rw[e1] at z6;have z7:=congrArg Array.toList (zCc z6);simp only[List.cons.injEq] at z7;obtain⟨rfl,rfl,rfl,rfl,rfl,rfl,_⟩:=z7;have a26:=hap 2 6 (by omega) (by omega) (by omega)
 have a28:=hap 2 8 (by omega) (by omega) (by omega)
 have a68:=hap 6 8 (by omega) (by omega) (by omega)
 rw[e6] at y6 n6;have OX:Own W3.heap.size u (F 2++F 6):=o2.join o6 a26;have EN:=zh (zGk n1 n6);rw[k8] at o8 a28 a68;have nB:B ∉ F 2++F 6:=fun hm=>(List.mem_append.1 hm).elim (fun h=>a28.one h) (fun h=>a68.one h)
 have lB:W3.heap.size<=B:=(o8.2 B (by simp)).1
 generalize F 2++F 6=FX at *
 clear hap hφ e1 e6 z6 n1 n6 k8 o2 o6 o8 a26 a28 a68 d0 d1 d3 d4 d5;simp only[d8,y6];have OMR:=zh (Om.newW (T:=35) (c0:=[.slice none 0 0,.slice none 0 0,.slice none 0 0,.slice none 0 0,.slice none 0 0,.slice none 0 0,.int .i64 0,.slice none 0 0]) EN.out OX b8 rfl lB nB);obtain⟨b8_0,b8_1,b8_2,b8_3,b8_4,b8_5,b8_6,b8_7⟩:=Bk.k8 b8;have bf8:=b8.fz;have lt8:=b8.lt;have EX8:=zh hE;clear b8 d8 y6 hE OX EN;go_upto_region 7 with (fail)
 refine zA1 (fun W=>Ext W3 W/\Om W3.heap.size W B 0 x FX) ⟨Ext.puts (b:=B) (o:=0) lB [.slice t0 x.Box.Plan.Parts.length u0,.slice t1 x.Box.Plan.Channels.length u1,.slice t2 x.Box.Plan.Slots.length u2,.slice t3 x.Box.Programs.length u3,.slice t4 x.Box.Cores.length u4,.slice t5 x.Box.Holds.length u5,.int .i64 x.Box.Tick,.slice p6 x.States.length q6] EX8.out,OMR.out⟩ ?_
 rintro W4 ⟨e4,om4⟩;have E7:=zh (E3.out.tr e4);have KB6:=zh (KB3.out.ext e4);have KA4:=zh (KA3.out.ext e4);have KQ4:=KQ.out.ext e4;obtain⟨q0,q1⟩:=Bk.k2 KQ4;have ltQ4:=KQ4.lt;obtain⟨g7,s7,w7',g4,s4,w4',y7,y4⟩:=om4.wcells hn hC;obtain⟨k0,Fy,_,omk,hsk,_⟩:=(zDc.refl om4).st y7 hn;obtain⟨_,c0',c1',_⟩:=omk.openHe;have gf7:=omk.bk.2.2.2;have ltg7:=omk.bk.1;have hLg7:=omk.bk.2.1;have ltB4:=om4.bk.1;have WB0:=zh (zDc.refl om4);have Y7:=zh y7;have HF:Hid (∀ y∈FX,W3.heap.size<=y/\y < W4.heap.size):=zh (fun y hy=>by
  obtain⟨_,_,_,ho⟩:=om4;exact⟨(ho.2 y (List.mem_cons_of_mem _ hy)).1,ho.lt (List.mem_cons_of_mem _ hy)⟩)
 have hPA:w.heap.size ∉ FX:=fun hx=>by have:=(HF.out _ hx).1;omega
 have hW34:=e4.sz;clear e4 om4 omk hsk KQ4 OMR f0 f1 f2 f3 f4 f5 f6 f7;go_upto_region 8 with (fail)
 obtain⟨F2,wb2⟩:=WB0.out.putSt Y7.out hn s' hsr;refine zA1 (fun W5=>zDc W3.heap.size B FX W4 W5 { x with States:=x.States.set n s' } F2) wb2 ?_
 rintro W5 wb5;have WB5:=zh wb5;have z4:=(wb5.cl 4 (by decide)).trans y4
 have hsz5:=wb5.ch.sz;clear wb2 wb5 y7 q0 q1 c0' c1' gf7;rcases hact with rfl|rfl|rfl
 ·obtain⟨y,hy⟩:∃ y,({ x with States:=x.States.set n s' }:Watch)=y:=⟨_,rfl⟩
  have hry:Hid (zAu x t n f=(y,0)):=zh (by rw[hres.out,HWF.out,<- hy];rfl)
  rw[hy] at WB5;have WC:=zh WB5.out.wc;clear WB5 hy z4 y4 hres HWF;have KBx:=WC.out.bk KB6.out (by omega) (fun hx=>by have:=(HF.out _ hx).1;omega)
  have EY:=zh (WC.out.ch.ext E7.out (by omega) (fun y hy=>by have:=(HF.out y hy).1;omega))
  have SB:=zh WC.out.sub;have hbf:=WC.out.om.bk.2.2.2;have hb7:=WC.out.lt;obtain⟨p0,q0,p1,q1,p2,q2,p3,q3,p4,q4,p5,q5,p7,q7,y0,y1,y2,y3,y4,y5,y6,y7,hen8,OW⟩:=WC.out.om.openW;obtain⟨z0,z1,z2,z3,z4,z5,z6,z7⟩:=Bk.k8 KBx;have zf:=KBx.fz;have ltZ:=KBx.lt;clear KBx;have HEN:=zh hen8;have HOW:=zh OW;clear hen8 OW;go_wp2;have hZ:w.heap.size+1 ∉ F2:=fun hm=>(SB.out _ hm).elim (fun h=>by have:=(HF.out _ h).1;omega) (fun h=>by omega)
  refine bodyPost_ret (v:=.tuple #[.agg #[.slice p0 y.Box.Plan.Parts.length q0,.slice p1 y.Box.Plan.Channels.length q1,.slice p2 y.Box.Plan.Slots.length q2,.slice p3 y.Box.Programs.length q3,.slice p4 y.Box.Cores.length q4,.slice p5 y.Box.Holds.length q5,.int .i64 y.Box.Tick,.slice p7 y.States.length q7],.int .i64 0]) (by simp[results,Tryz.results8,go_sem,z0,z1,z2,z3,z4,z5,z6,z7]) rfl ⟨_,by rw[hry.out],by rw[hry.out];exact⟨_,_,rfl,zAt (c:=w.heap.size+1) (o:=0) (ds:=[.slice p0 y.Box.Plan.Parts.length q0,.slice p1 y.Box.Plan.Channels.length q1,.slice p2 y.Box.Plan.Slots.length q2,.slice p3 y.Box.Programs.length q3,.slice p4 y.Box.Cores.length q4,.slice p5 y.Box.Holds.length q5,.int .i64 y.Box.Tick,.slice p7 y.States.length q7]) HEN.out hZ,((HOW.out.mono (by omega)).puts (b:=w.heap.size+1) (o:=0) [.slice p0 y.Box.Plan.Parts.length q0,.slice p1 y.Box.Plan.Channels.length q1,.slice p2 y.Box.Plan.Slots.length q2,.slice p3 y.Box.Programs.length q3,.slice p4 y.Box.Cores.length q4,.slice p5 y.Box.Holds.length q5,.int .i64 y.Box.Tick,.slice p7 y.States.length q7])⟩,?_⟩
  exact Ext.puts (b:=w.heap.size+1) (o:=0) (by omega) [.slice p0 y.Box.Plan.Parts.length q0,.slice p1 y.Box.Plan.Channels.length q1,.slice p2 y.Box.Plan.Slots.length q2,.slice p3 y.Box.Programs.length q3,.slice p4 y.Box.Cores.length q4,.slice p5 y.Box.Holds.length q5,.int .i64 y.Box.Tick,.slice p7 y.States.length q7] EY.out
 ·have KA5:=WB5.out.bk KA4.out (by omega) hPA
  obtain⟨d0,d1,d2,d3,d4,d5,d6⟩:=Bk.k7 KA5;have ltA5:=KA5.lt;have E5:=zh (WB5.out.ch.ext E7.out (by omega) (fun y hy=>by have:=(HF.out y hy).1;omega))
  obtain⟨_,_,_,_,_,_,_,_,_,_,_,_,_,_,b80,b81,b82,b83,b84,b85,b86,_,_,_⟩:=WB5.out.om.openW;have bfz:=WB5.out.fz;have ltB5:=WB5.out.lt;clear KA5 z4 y4;go_upto_region 13 with (go_at_call 38;refine(zIf _ x.Box n _ (Rv.mkMachine (h0.out.ext E5.out) (h1.out.ext E5.out) (h2.out.ext E5.out) (h3.out.ext E5.out) (h4.out.ext E5.out) (h5.out.ext E5.out) r6)).mono ?_;rintro e w7 ⟨v7,rfl,hov,he⟩;rw[hrp.out] at hov;obtain⟨r0,i0,r1,i1,r2,i2,r3,i3,r4,i4,r5,i5,G7,rfl,hen7,how7⟩:=hov.openE;have X7:=zh he;have EN7:=zh hen7;have OW7:=zh how7;replace b80:=(zA0 he ltB5).trans b80;replace b81:=(zA0 he ltB5).trans b81;replace b82:=(zA0 he ltB5).trans b82;replace b83:=(zA0 he ltB5).trans b83;replace b84:=(zA0 he ltB5).trans b84;replace b85:=(zA0 he ltB5).trans b85;replace b86:=(zA0 he ltB5).trans b86;replace bfz:=(WB5.out.ext he).fz;have ltB7:=(WB5.out.ext he).lt;clear hov hen7 how7 he)
  obtain⟨F8,wc⟩:=WB5.out.boxNew X7.out EN7.out OW7.out (by omega)
  obtain⟨y,hy⟩:∃ y,(⟨zGc x.Box n,x.States.set n s'⟩:Watch)=y:=⟨_,rfl⟩;have hry:Hid (zAu x t n f=(y,1)):=zh (by rw[hres.out,HWF.out,<- hy];rfl)
  have wc':zNd W3.heap.size B FX W4 _ y F8:=hy ▸ wc;refine zA1 (fun W6=>zNd W3.heap.size B FX W4 W6 y F8) wc' ?_
  clear wc wc' WB5 hy hres HWF b80 b81 b82 b83 b84 b85 b86 bfz X7 EN7 OW7 d0 d1 d2 d3 d4 d5 d6;rintro W6 wc6;have WC:=zh wc6;clear wc6;have KBx:=WC.out.bk KB6.out (by omega) (fun hx=>by have:=(HF.out _ hx).1;omega)
  have EY:=zh (WC.out.ch.ext E7.out (by omega) (fun y hy=>by have:=(HF.out y hy).1;omega))
  have SB:=zh WC.out.sub;have hbf:=WC.out.om.bk.2.2.2;have hb7:=WC.out.lt;obtain⟨p0,q0,p1,q1,p2,q2,p3,q3,p4,q4,p5,q5,p7,q7,y0,y1,y2,y3,y4,y5,y6,y7,hen8,OW⟩:=WC.out.om.openW;obtain⟨z0,z1,z2,z3,z4,z5,z6,z7⟩:=Bk.k8 KBx;have zf:=KBx.fz;have ltZ:=KBx.lt;clear KBx;have HEN:=zh hen8;have HOW:=zh OW;clear hen8 OW;go_wp2;have hZ:w.heap.size+1 ∉ F8:=fun hm=>(SB.out _ hm).elim (fun h=>by have:=(HF.out _ h).1;omega) (fun h=>by omega)
  refine bodyPost_ret (v:=.tuple #[.agg #[.slice p0 y.Box.Plan.Parts.length q0,.slice p1 y.Box.Plan.Channels.length q1,.slice p2 y.Box.Plan.Slots.length q2,.slice p3 y.Box.Programs.length q3,.slice p4 y.Box.Cores.length q4,.slice p5 y.Box.Holds.length q5,.int .i64 y.Box.Tick,.slice p7 y.States.length q7],.int .i64 1]) (by simp[results,Tryz.results8,go_sem,z0,z1,z2,z3,z4,z5,z6,z7]) rfl ⟨_,by rw[hry.out],by rw[hry.out];exact⟨_,_,rfl,zAt (c:=w.heap.size+1) (o:=0) (ds:=[.slice p0 y.Box.Plan.Parts.length q0,.slice p1 y.Box.Plan.Channels.length q1,.slice p2 y.Box.Plan.Slots.length q2,.slice p3 y.Box.Programs.length q3,.slice p4 y.Box.Cores.length q4,.slice p5 y.Box.Holds.length q5,.int .i64 y.Box.Tick,.slice p7 y.States.length q7]) HEN.out hZ,((HOW.out.mono (by omega)).puts (b:=w.heap.size+1) (o:=0) [.slice p0 y.Box.Plan.Parts.length q0,.slice p1 y.Box.Plan.Channels.length q1,.slice p2 y.Box.Plan.Slots.length q2,.slice p3 y.Box.Programs.length q3,.slice p4 y.Box.Cores.length q4,.slice p5 y.Box.Holds.length q5,.int .i64 y.Box.Tick,.slice p7 y.States.length q7])⟩,?_⟩
  exact Ext.puts (b:=w.heap.size+1) (o:=0) (by omega) [.slice p0 y.Box.Plan.Parts.length q0,.slice p1 y.Box.Plan.Channels.length q1,.slice p2 y.Box.Plan.Slots.length q2,.slice p3 y.Box.Programs.length q3,.slice p4 y.Box.Cores.length q4,.slice p5 y.Box.Holds.length q5,.int .i64 y.Box.Tick,.slice p7 y.States.length q7] EY.out
 ·obtain⟨F4,wb4⟩:=WB5.out.stop y4 hC;obtain⟨Fm,om,_,_⟩:=WB5.out.box;obtain⟨k4,Fy4,_,omc,hs4,_⟩:=(zCb.refl om).core z4 hC;obtain⟨_,_,_,_,c42,_,_⟩:=omc.openC;have gf4:=omc.bk.2.2.2;have lt4:=omc.bk.1;obtain⟨y,hy⟩:∃ y,(⟨zFw x.Box n,x.States.set n s'⟩:Watch)=y:=⟨_,rfl⟩;have hry:Hid (zAu x t n f=(y,2)):=zh (by rw[hres.out,HWF.out,<- hy];rfl)
  have wb4':zDc W3.heap.size B FX W4 _ y F4:=hy ▸ wb4;have WC4:=zh wb4'.wc;clear wb4 wb4' om omc hs4 hy hres HWF;go_upto_region 13 with (fail)
  refine zA1 (fun W6=>zNd W3.heap.size B FX W4 W6 y F4) WC4.out ?_
  clear WC4 WB5 z4 y4 c42 gf4;rintro W6 wc6;have WC:=zh wc6;clear wc6;have KBx:=WC.out.bk KB6.out (by omega) (fun hx=>by have:=(HF.out _ hx).1;omega)
  have EY:=zh (WC.out.ch.ext E7.out (by omega) (fun y hy=>by have:=(HF.out y hy).1;omega))
  have SB:=zh WC.out.sub;have hbf:=WC.out.om.bk.2.2.2;have hb7:=WC.out.lt;obtain⟨p0,q0,p1,q1,p2,q2,p3,q3,p4,q4,p5,q5,p7,q7,y0,y1,y2,y3,y4,y5,y6,y7,hen8,OW⟩:=WC.out.om.openW;obtain⟨z0,z1,z2,z3,z4,z5,z6,z7⟩:=Bk.k8 KBx;have zf:=KBx.fz;have ltZ:=KBx.lt;clear KBx;have HEN:=zh hen8;have HOW:=zh OW;clear hen8 OW;go_wp2;have hZ:w.heap.size+1 ∉ F4:=fun hm=>(SB.out _ hm).elim (fun h=>by have:=(HF.out _ h).1;omega) (fun h=>by omega)
  refine bodyPost_ret (v:=.tuple #[.agg #[.slice p0 y.Box.Plan.Parts.length q0,.slice p1 y.Box.Plan.Channels.length q1,.slice p2 y.Box.Plan.Slots.length q2,.slice p3 y.Box.Programs.length q3,.slice p4 y.Box.Cores.length q4,.slice p5 y.Box.Holds.length q5,.int .i64 y.Box.Tick,.slice p7 y.States.length q7],.int .i64 2]) (by simp[results,Tryz.results8,go_sem,z0,z1,z2,z3,z4,z5,z6,z7]) rfl ⟨_,by rw[hry.out],by rw[hry.out];exact⟨_,_,rfl,zAt (c:=w.heap.size+1) (o:=0) (ds:=[.slice p0 y.Box.Plan.Parts.length q0,.slice p1 y.Box.Plan.Channels.length q1,.slice p2 y.Box.Plan.Slots.length q2,.slice p3 y.Box.Programs.length q3,.slice p4 y.Box.Cores.length q4,.slice p5 y.Box.Holds.length q5,.int .i64 y.Box.Tick,.slice p7 y.States.length q7]) HEN.out hZ,((HOW.out.mono (by omega)).puts (b:=w.heap.size+1) (o:=0) [.slice p0 y.Box.Plan.Parts.length q0,.slice p1 y.Box.Plan.Channels.length q1,.slice p2 y.Box.Plan.Slots.length q2,.slice p3 y.Box.Programs.length q3,.slice p4 y.Box.Cores.length q4,.slice p5 y.Box.Holds.length q5,.int .i64 y.Box.Tick,.slice p7 y.States.length q7])⟩,?_⟩
  exact Ext.puts (b:=w.heap.size+1) (o:=0) (by omega) [.slice p0 y.Box.Plan.Parts.length q0,.slice p1 y.Box.Plan.Channels.length q1,.slice p2 y.Box.Plan.Slots.length q2,.slice p3 y.Box.Programs.length q3,.slice p4 y.Box.Cores.length q4,.slice p5 y.Box.Holds.length q5,.int .i64 y.Box.Tick,.slice p7 y.States.length q7] EY.out
set_option maxHeartbeats 3000000
noncomputable def zBd(x:Watch)(t:List Int):Watch :=
 if 0<=zC6 x.Box.Plan.Slots x.Box.Tick/\(x.Box.Cores.getD (zC6 x.Box.Plan.Slots x.Box.Tick).toNat zLo).Stopped=false/\((zAk x.Box).Cores.getD (zC6 x.Box.Plan.Slots x.Box.Tick).toNat zLo).Stopped=true
 then (zEx ⟨zAk x.Box,x.States⟩ t (zC6 x.Box.Plan.Slots x.Box.Tick).toNat 1).1 else ⟨zAk x.Box,x.States⟩
theorem zIz{x:Watch}(h:zK3 x)(ht:x.Box.Tick < 100000):zK3 ⟨zAk x.Box,x.States⟩ :=
 ⟨zLc h.box ht,by show x.States.length=(zAk x.Box).Cores.length;rw[zCk];exact h.ns,h.hh⟩
theorem Oh.cellS{L:Nat}{w:World}{v:Value}{xs:List Core}{F:List Nat}(h:Oh L w v xs F){N:Nat}(hN:N < xs.length) :
  ∃ g,v = .slice (some ⟨g,0,none⟩) xs.length xs.length/\L<=g/\g < w.heap.size/\w.cell? ⟨g,N*3+2,none⟩=some (.bool (xs.getD N zLo).Stopped):=by
 rcases h with ⟨_,rfl,_⟩ | ⟨g,rfl,hL,hf,hm,hr,hg⟩
 ·cases hN
 ·have hRs:Rs w (.slice (some ⟨g,0,none⟩) xs.length xs.length) xs:=⟨g::F,_,_,rfl,Nat.le_refl _,hm,.inr ⟨fun e=>absurd (e ▸ hN:N < ([]:List Core).length) (Nat.not_lt_zero _),g,0,F,rfl,rfl,hr⟩⟩
  obtain⟨b,o,x,wa,wc,e,hb,hx,_,_,c2,_⟩:=hRs.atCore N hN;cases e;refine⟨g,rfl,hL,hb,?_⟩;rw[List.getD_eq_getElem?_getD,hx.out]
  simpa using c2
theorem zN7(L b:Nat)(x:Watch)(F:List Nat)(vt:Value)(t:List Int)(W0 w:World)(h:Om L w b 0 x F)(ht:Rs W0 vt t)(hE:Ext W0 w)(hWL:W0.heap.size<=L)(hL:L<=w.heap.size)(hW:zK3 x)(hT:zD8 t=true)(hlt:x.Box.Tick < 100000) :
  Calls Tryz.prog 87 #[.pointer (some ⟨b,0,none⟩),vt] w fun e w'=>(∃ v,e = .returned v)/\∃ F',zDc L b F w w' (zBd x t) F':=by
 have WB0:=zh (zDc.refl h);obtain⟨_,_,_,_,_,_,_,_,p4,q4,_,_,_,_,-,-,-,-,y4,-,-,-,hen,how⟩:=h.openW;obtain⟨v0,v1,v2,v3,v4,v5,v7,G0,G1,G2,G3,G4,G5,G7,e,-,-,-,-,s4,-,-,-,-⟩:=id hen;simp only[List.cons.injEq] at e;obtain⟨_,_,_,_,rfl,_⟩:=e;have S4:=zh s4;have hLb:=h.bk.2.1;have hlb:=h.bk.1;have HOW:=zh how;have hc5:x.Box.Cores.length<=100000000:=by have:=hW.box.nc;have:=zAc hW.box.pg.set;omega
 have hwho:=hW.box.who x.Box.Tick;have HT:=zh ht;have HE:=zh hE;have HWT:=zh (zIz hW hlt);have HMV:=zh hW.box;have hns:=zh hW.ns;have hdef:=zh (show zBd x t=_ from rfl)
 have hHF:Hid (∀ k∈F,k < w.heap.size/\L<=k):=zh (fun k hk=>⟨HOW.out.lt hk,(HOW.out.2 k hk).1⟩)
 obtain⟨ta,tc,rfl,htl⟩:=ht.form;clear h ht hE hW hen how s4;have WX:∀ (w1:World),Ext w w1->∃ Fm,Om L w1 b 0 x.Box Fm/\(∀ k∈Fm,k < w.heap.size)/\∀ W' m' Fm',zCb L b Fm w1 W' m' Fm'->∃ F2,zDc L b F w W' { x with Box:=m' } F2:=fun w1 e=>by
  obtain⟨Fm,h1,h2,h3⟩:=(WB0.out.ext e).box;exact⟨Fm,h1,fun k hk=>(hHF.out k (h2 k hk).1).1,h3⟩
 go_enter Tryz.func87,Tryz.ntmps87;go_upto_region 1 with (go_at_call 81;refine(zEz _ x.Box.Cores _ _ S4.out hc5).mono ?_;rintro e w1 ⟨v1,F',rfl,oh,_,_,he⟩;have OH:=zh oh;have X1:=zh he;clear oh he)
 obtain⟨Fm,om1,hFm,hback⟩:=WX w1 X1.out;have OM1:=zh om1;have HB:=zh hback;have HFM:=zh hFm;have hL1:L<=w1.heap.size:=Nat.le_trans hL X1.out.sz;have hs1:=X1.out.sz;clear om1 hFm hback WX;go_upto_region 2 with (go_at_call 53;refine(zJd L b x.Box Fm _ OM1.out hL1 HMV.out hlt).mono ?_;rintro e w2 ⟨rfl,F3,tb⟩;obtain⟨F4,wb⟩:=HB.out _ _ _ tb;have TB2:=zh tb;have WB2:=zh wb;clear tb wb)
 have z4:=(WB2.out.cl 4 (by decide)).trans y4
 have hE2:=WB2.out.ch.ext HE.out (by omega) (fun k hk=>by have:=(hHF.out k hk).2;omega)
 have HE2:=zh hE2;have hL2:L<=w2.heap.size:=Nat.le_trans hL1 TB2.out.ch.sz;clear hE2 y4;rcases hwho with hwn | ⟨N,hwn,hNc⟩
 ·have hm:Hid (zBd x t=⟨zAk x.Box,x.States⟩):=zh (by unfold zBd;rw[hwn];exact if_neg (fun h=>absurd h.1 (by decide)))
  rw[hwn];go_wp2;refine bodyPost_end (v:=.tuple #[]) (by simp[results,Tryz.results87,go_sem]) rfl ⟨⟨_,rfl⟩,_,by rw[hm.out];exact WB2.out⟩
 ·obtain⟨g,rfl,hgL,hgl,cg⟩:=OH.out.cellS hNc;have cg2:w2.cell? ⟨g,N*3+2,none⟩=some (.bool (x.Box.Cores.getD N zLo).Stopped):=by
   refine(World.cell?_of_block (TB2.out.ch.keep (k:=g) hgl (show g≠b by omega) (fun hm=>by have:=HFM.out g hm;omega))).trans cg
  have hgl2:=zl hgl TB2.out.ch.sz;have hNt:N < (zAk x.Box).Cores.length:=by rw[zCk];exact hNc
  have hNs:N < x.States.length:=by have:=hns.out;omega
  obtain⟨Fm2,om2,_,_⟩:=WB2.out.box;obtain⟨g4,s4',_,_,e,_⟩:=(show ∃ g s,∃ (_ _:Nat),p4=some ⟨g,s,none⟩/\True from by
   obtain⟨_,_,_,ho⟩:=id om2;obtain⟨Fc,lc⟩:=om2.lMachineCores;obtain⟨g',s',_,_,e,_⟩:=(lc.om ho).idxS (by rw[show 0+4=4 from rfl];exact z4) N hNt
   exact⟨g',s',0,0,e,trivial⟩)
  subst e;obtain⟨k4,Fy4,hk4,omc,_,_⟩:=(zCb.refl om2).core z4 hNt;obtain⟨_,_,_,_,c42,_,_⟩:=omc.openC;have lt4:=omc.bk.1;have hk4':((zAk x.Box).Cores.getD N zLo).Stopped=k4.Stopped:=by rw[List.getD_eq_getElem?_getD,show(zAk x.Box).Cores[N]? = some k4 from hk4];rfl
  clear om2 omc hk4 cg OH TB2;rw[hwn];obtain⟨p,hp⟩:∃ p,(x.Box.Cores.getD N zLo).Stopped=p:=⟨_,rfl⟩;obtain⟨q,hq⟩:∃ q,k4.Stopped=q:=⟨_,rfl⟩;rw[hp] at cg2;rw[hq] at c42 hk4';have hlen:Hid ((zAk x.Box).Cores.length=x.Box.Cores.length):=zh (zCk _);have hm0:Hid ((0<=zC6 x.Box.Plan.Slots x.Box.Tick/\(x.Box.Cores.getD (zC6 x.Box.Plan.Slots x.Box.Tick).toNat zLo).Stopped=false/\((zAk x.Box).Cores.getD (zC6 x.Box.Plan.Slots x.Box.Tick).toNat zLo).Stopped=true) ↔ (p=false/\q=true)):=zh (by
   rw[hwn,Int.toNat_natCast,hp,hk4'];exact⟨fun h=>h.2,fun h=>⟨Int.natCast_nonneg N,h⟩⟩)
  cases p
  ·cases q
   ·have hm:Hid (zBd x t=⟨zAk x.Box,x.States⟩):=zh (if_neg (fun h=>by have:=(hm0.out.1 h).2;cases this))
    clear hm0 hwn hp hq hk4';go_wp2;refine bodyPost_end (v:=.tuple #[]) (by simp[results,Tryz.results87,go_sem]) rfl ⟨⟨_,rfl⟩,_,by rw[hm.out];exact WB2.out⟩
   ·have hm:Hid (zBd x t=(zEx ⟨zAk x.Box,x.States⟩ t N 1).1):=zh ((if_pos (hm0.out.2 ⟨rfl,rfl⟩)).trans (by rw[hwn,Int.toNat_natCast]))
    clear hm0 hwn hp hq hk4';go_wp2_with (go_at_call 33;refine(zKh L b N ⟨zAk x.Box,x.States⟩ F4 _ t 1 _ WB2.out.om (HT.out.ext HE2.out) hL2 HWT.out hT hNs ⟨by decide,by decide⟩).mono ?_;rintro e w5 ⟨rfl,F5,wb5⟩;have WB5:=zh (WB2.out.trans wb5);clear wb5)
    refine bodyPost_end (v:=.tuple #[]) (by simp[results,Tryz.results87,go_sem]) rfl ⟨⟨_,rfl⟩,_,by rw[hm.out];exact WB5.out⟩
  ·have hm:Hid (zBd x t=⟨zAk x.Box,x.States⟩):=zh (if_neg (fun h=>by have:=(hm0.out.1 h).1;cases this))
   clear hm0 hwn hp hq hk4';go_wp2;refine bodyPost_end (v:=.tuple #[]) (by simp[results,Tryz.results87,go_sem]) rfl ⟨⟨_,rfl⟩,_,by rw[hm.out];exact WB2.out⟩
end Sk
