/- Contracts of functions of the given program. -/
import Derived.Test.YtidkncgejgngcaaGreatXRun
namespace Sk
open Go Go.Proofs Go.RowKit
set_option maxHeartbeats 4000000
set_option maxRecDepth 100000
set_option linter.unusedVariables false
set_option linter.unusedSimpArgs false
def Bq{α:Type}[GT α](X:Nat)(w:World)(b:Nat)(x : α)(T:TypeId):Prop:=∃ cs F,Bk w b cs T/\GT.enc w cs x F/\b ∉ F/\X ∉ F
theorem Bq.br{α:Type}[GT α]{X:Nat}{w:World}{b:Nat}{x : α}{T:TypeId}(h:Bq X w b x T):Br w b x T:=by obtain⟨cs,F,h1,h2,h3,_⟩:=h;exact⟨cs,F,h1,h2,h3⟩
theorem Bq.ext{α:Type}[GT α]{X:Nat}{w w':World}{b:Nat}{x : α}{T:TypeId}(h:Bq X w b x T)(he:Ext w w'):Bq X w' b x T:=by obtain⟨cs,F,h1,h2,h3,h4⟩:=h;exact⟨cs,F,h1.ext he,GT.ext h2 he,h3,h4⟩
theorem Bq.start{α:Type}[GT α]{X:Nat}{w W:World}{b:Nat}{cs:List Value}{x : α}{T:TypeId}(h:Rv w (.agg cs.toArray) x)(hk:Bk W b cs T)(he:Ext w W)(hb:w.heap.size<=b)(hX:w.heap.size<=X):Bq X W b x T:=by
 obtain⟨cs',F,e,h1⟩:=h
 have:cs'=cs:=by
  have:=congrArg (fun v=>match v with | .agg a=>a.toList|_ => []) e
  simpa using this.symm
 subst this;exact⟨_,F,hk,GT.ext h1 he,fun hm=>by have:=GT.inh h1 b hm;omega,fun hm=>by have:=GT.inh h1 X hm;omega⟩
theorem Bq.put{α:Type}[GT α]{X M:Nat}{w:World}{b:Nat}{y : α}{T:TypeId}{cs0 cs:List Value}{F:List Nat}(hb:Bk w b cs0 T)(hl:cs0.length=GT.sz α)(hy:GT.enc w cs y F)(hF:Own M w F)(hM:b < M)(hX:X < M):Bq X (zAb w b 0 cs) b y T :=
 have hbF:b ∉ F:=fun hm=>by have:=(hF.2 b hm).1;omega
 ⟨cs,F,hb.puts cs ((GT.len hy).trans hl.symm),zBp hy hbF,hbF,fun hm=>by have:=(hF.2 X hm).1;omega⟩
theorem Bq.other{α:Type}[GT α]{X:Nat}{w:World}{b o:Nat}{x : α}{T:TypeId}{ds:List Value}(h:Bq X w b x T)(hb:b≠X):Bq X (zAb w X o ds) b x T:=by
 obtain⟨cs,F,h1,h2,h3,h4⟩:=h;exact⟨cs,F,h1.puts_ne hb,zBp h2 h4,h3,h4⟩
theorem zHp(v v2:Value)(m p:Machine)(n t:Int)(w:World)(h:Rv w v m)(hk:Rv w v2 p)(hrt:rng t) :
  Calls Tryz.prog 34 #[v,v2,.int .i64 n,.int .i64 t] w fun e w'=>e = .returned (.int .i64 (zC1 m p n t))/\Ext w w':=by
 have H:=zh h;have KP:=zh hk;obtain⟨a0,c0,a1,c1,a2,c2,a3,c3,a4,c4,a5,c5,rfl,rt,-,l0,-,l1,-,l2,-,l3,-,l4,-,l5⟩:=h.openMachine;obtain⟨f0,h0,f1,h1,f2,h2,f3,h3,f4,h4,f5,h5,rfl,rt',-,l0',-,l1',-,l2',-,l3',-,l4',-,l5'⟩:=hk.openMachine;clear h hk;go_enter Tryz.func34,Tryz.ntmps34;go_upto_region 1 with (fail)
 refine zA1 (fun W=>Ext w W/\Bk W w.heap.size [.slice a0 m.Plan.Parts.length c0,.slice a1 m.Plan.Channels.length c1,.slice a2 m.Plan.Slots.length c2,.slice a3 m.Programs.length c3,.slice a4 m.Cores.length c4,.slice a5 m.Holds.length c5,.int .i64 m.Tick] 32/\Bk W (w.heap.size+1) [.slice f0 p.Plan.Parts.length h0,.slice f1 p.Plan.Channels.length h1,.slice f2 p.Plan.Slots.length h2,.slice f3 p.Programs.length h3,.slice f4 p.Cores.length h4,.slice f5 p.Holds.length h5,.int .i64 p.Tick] 32) ⟨((zr _).alloc _).alloc _,(Bk.new _ _ _).ext ((zr _).alloc _),Bk.new1 _ _ _ _⟩ ?_
 rintro W ⟨e1,kA,kB⟩;have HE0:=zh e1;have KA:=zh kA;have KB:=zh kB;have x0:=kA.cell (j:=0) rfl;have y0:=kB.cell (j:=0) rfl;have x1:=kA.cell (j:=1) rfl;have y1:=kB.cell (j:=1) rfl;have x2:=kA.cell (j:=2) rfl;have y2:=kB.cell (j:=2) rfl;have x3:=kA.cell (j:=3) rfl;have y3:=kB.cell (j:=3) rfl;have x4:=kA.cell (j:=4) rfl;have y4:=kB.cell (j:=4) rfl;have x5:=kA.cell (j:=5) rfl;have y5:=kB.cell (j:=5) rfl;have x6:=kA.cell (j:=6) rfl;have y6:=kB.cell (j:=6) rfl;have ltA:=kA.lt;have ltB:=kB.lt;clear e1 kA kB;cases g1:zE9 m
 ·go_wp2_with (go_at_call 38;refine(zA3 _ m _ (H.out.ext HE0.out)).mono ?_;rintro e ws1 ⟨rfl,he⟩;rw[g1];replace HE0:=zh (HE0.out.tr he);replace KA:=zh (KA.out.ext he);replace KB:=zh (KB.out.ext he);have x0:=KA.out.cell (j:=0) rfl;have y0:=KB.out.cell (j:=0) rfl;have x1:=KA.out.cell (j:=1) rfl;have y1:=KB.out.cell (j:=1) rfl;have x2:=KA.out.cell (j:=2) rfl;have y2:=KB.out.cell (j:=2) rfl;have x3:=KA.out.cell (j:=3) rfl;have y3:=KB.out.cell (j:=3) rfl;have x4:=KA.out.cell (j:=4) rfl;have y4:=KB.out.cell (j:=4) rfl;have x5:=KA.out.cell (j:=5) rfl;have y5:=KB.out.cell (j:=5) rfl;have x6:=KA.out.cell (j:=6) rfl;have y6:=KB.out.cell (j:=6) rfl;have ltA:=KA.out.lt;have ltB:=KB.out.lt;clear he;have mAd:=trivial)
  go_ret;exact⟨zD3 (zAr (.inl (by unfold zB5;rw[g1];rfl))).symm,HE0.out⟩
 cases g2:zE9 p
 ·go_wp2_with (first
   | (go_at_call 38;have _t:=mAd;refine(zA3 _ p _ (KP.out.ext HE0.out)).mono ?_;rintro e ws2 ⟨rfl,he⟩;rw[g2];replace HE0:=zh (HE0.out.tr he);replace KA:=zh (KA.out.ext he);replace KB:=zh (KB.out.ext he);have x0:=KA.out.cell (j:=0) rfl;have y0:=KB.out.cell (j:=0) rfl;have x1:=KA.out.cell (j:=1) rfl;have y1:=KB.out.cell (j:=1) rfl;have x2:=KA.out.cell (j:=2) rfl;have y2:=KB.out.cell (j:=2) rfl;have x3:=KA.out.cell (j:=3) rfl;have y3:=KB.out.cell (j:=3) rfl;have x4:=KA.out.cell (j:=4) rfl;have y4:=KB.out.cell (j:=4) rfl;have x5:=KA.out.cell (j:=5) rfl;have y5:=KB.out.cell (j:=5) rfl;have x6:=KA.out.cell (j:=6) rfl;have y6:=KB.out.cell (j:=6) rfl;have ltA:=KA.out.lt;have ltB:=KB.out.lt;clear he)
   | (go_at_call 38;refine(zA3 _ m _ (H.out.ext HE0.out)).mono ?_;rintro e ws1 ⟨rfl,he⟩;rw[g1];replace HE0:=zh (HE0.out.tr he);replace KA:=zh (KA.out.ext he);replace KB:=zh (KB.out.ext he);have x0:=KA.out.cell (j:=0) rfl;have y0:=KB.out.cell (j:=0) rfl;have x1:=KA.out.cell (j:=1) rfl;have y1:=KB.out.cell (j:=1) rfl;have x2:=KA.out.cell (j:=2) rfl;have y2:=KB.out.cell (j:=2) rfl;have x3:=KA.out.cell (j:=3) rfl;have y3:=KB.out.cell (j:=3) rfl;have x4:=KA.out.cell (j:=4) rfl;have y4:=KB.out.cell (j:=4) rfl;have x5:=KA.out.cell (j:=5) rfl;have y5:=KB.out.cell (j:=5) rfl;have x6:=KA.out.cell (j:=6) rfl;have y6:=KB.out.cell (j:=6) rfl;have ltA:=KA.out.lt;have ltB:=KB.out.lt;clear he;have mAd:=trivial))
  go_ret;exact⟨zD3 (zAr (.inr (.inl (by unfold zB5;rw[g2];rfl)))).symm,HE0.out⟩
 cases i1:zA8 n 0 ((m.Cores.length:Int) - 1)
 ·go_wp2_with (first
   | (go_at_call 38;have _t:=mAd;refine(zA3 _ p _ (KP.out.ext HE0.out)).mono ?_;rintro e ws2 ⟨rfl,he⟩;rw[g2];replace HE0:=zh (HE0.out.tr he);replace KA:=zh (KA.out.ext he);replace KB:=zh (KB.out.ext he);have x0:=KA.out.cell (j:=0) rfl;have y0:=KB.out.cell (j:=0) rfl;have x1:=KA.out.cell (j:=1) rfl;have y1:=KB.out.cell (j:=1) rfl;have x2:=KA.out.cell (j:=2) rfl;have y2:=KB.out.cell (j:=2) rfl;have x3:=KA.out.cell (j:=3) rfl;have y3:=KB.out.cell (j:=3) rfl;have x4:=KA.out.cell (j:=4) rfl;have y4:=KB.out.cell (j:=4) rfl;have x5:=KA.out.cell (j:=5) rfl;have y5:=KB.out.cell (j:=5) rfl;have x6:=KA.out.cell (j:=6) rfl;have y6:=KB.out.cell (j:=6) rfl;have ltA:=KA.out.lt;have ltB:=KB.out.lt;clear he)
   | (go_at_call 38;refine(zA3 _ m _ (H.out.ext HE0.out)).mono ?_;rintro e ws1 ⟨rfl,he⟩;rw[g1];replace HE0:=zh (HE0.out.tr he);replace KA:=zh (KA.out.ext he);replace KB:=zh (KB.out.ext he);have x0:=KA.out.cell (j:=0) rfl;have y0:=KB.out.cell (j:=0) rfl;have x1:=KA.out.cell (j:=1) rfl;have y1:=KB.out.cell (j:=1) rfl;have x2:=KA.out.cell (j:=2) rfl;have y2:=KB.out.cell (j:=2) rfl;have x3:=KA.out.cell (j:=3) rfl;have y3:=KB.out.cell (j:=3) rfl;have x4:=KA.out.cell (j:=4) rfl;have y4:=KB.out.cell (j:=4) rfl;have x5:=KA.out.cell (j:=5) rfl;have y5:=KB.out.cell (j:=5) rfl;have x6:=KA.out.cell (j:=6) rfl;have y6:=KB.out.cell (j:=6) rfl;have ltA:=KA.out.lt;have ltB:=KB.out.lt;clear he;have mAd:=trivial)
   | (go_at_call 55;refine(zA9 _ _ _ _).mono ?_;rintro e w9 ⟨rfl,rfl⟩;rw[i1]))
  go_ret;exact⟨zD3 (zAr (.inl (by unfold zB5;rw[g1,i1];rfl))).symm,HE0.out⟩
 cases i2:zA8 n 0 ((p.Cores.length:Int) - 1)
 ·go_wp2_with (first
   | (go_at_call 38;have _t:=mAd;refine(zA3 _ p _ (KP.out.ext HE0.out)).mono ?_;rintro e ws2 ⟨rfl,he⟩;rw[g2];replace HE0:=zh (HE0.out.tr he);replace KA:=zh (KA.out.ext he);replace KB:=zh (KB.out.ext he);have x0:=KA.out.cell (j:=0) rfl;have y0:=KB.out.cell (j:=0) rfl;have x1:=KA.out.cell (j:=1) rfl;have y1:=KB.out.cell (j:=1) rfl;have x2:=KA.out.cell (j:=2) rfl;have y2:=KB.out.cell (j:=2) rfl;have x3:=KA.out.cell (j:=3) rfl;have y3:=KB.out.cell (j:=3) rfl;have x4:=KA.out.cell (j:=4) rfl;have y4:=KB.out.cell (j:=4) rfl;have x5:=KA.out.cell (j:=5) rfl;have y5:=KB.out.cell (j:=5) rfl;have x6:=KA.out.cell (j:=6) rfl;have y6:=KB.out.cell (j:=6) rfl;have ltA:=KA.out.lt;have ltB:=KB.out.lt;clear he)
   | (go_at_call 38;refine(zA3 _ m _ (H.out.ext HE0.out)).mono ?_;rintro e ws1 ⟨rfl,he⟩;rw[g1];replace HE0:=zh (HE0.out.tr he);replace KA:=zh (KA.out.ext he);replace KB:=zh (KB.out.ext he);have x0:=KA.out.cell (j:=0) rfl;have y0:=KB.out.cell (j:=0) rfl;have x1:=KA.out.cell (j:=1) rfl;have y1:=KB.out.cell (j:=1) rfl;have x2:=KA.out.cell (j:=2) rfl;have y2:=KB.out.cell (j:=2) rfl;have x3:=KA.out.cell (j:=3) rfl;have y3:=KB.out.cell (j:=3) rfl;have x4:=KA.out.cell (j:=4) rfl;have y4:=KB.out.cell (j:=4) rfl;have x5:=KA.out.cell (j:=5) rfl;have y5:=KB.out.cell (j:=5) rfl;have x6:=KA.out.cell (j:=6) rfl;have y6:=KB.out.cell (j:=6) rfl;have ltA:=KA.out.lt;have ltB:=KB.out.lt;clear he;have mAd:=trivial)
   | (go_at_call 55;refine(zA9 _ _ _ _).mono ?_;rintro e w9 ⟨rfl,rfl⟩;rw[i1])
   | (go_at_call 55;refine(zA9 _ _ _ _).mono ?_;rintro e w9 ⟨rfl,rfl⟩;rw[i2]))
  go_ret;exact⟨zD3 (zAr (.inr (.inl (by unfold zB5;rw[g2,i2];rfl)))).symm,HE0.out⟩
 cases i3:zA8 t 0 200
 ·go_wp2_with (first
   | (go_at_call 38;have _t:=mAd;refine(zA3 _ p _ (KP.out.ext HE0.out)).mono ?_;rintro e ws2 ⟨rfl,he⟩;rw[g2];replace HE0:=zh (HE0.out.tr he);replace KA:=zh (KA.out.ext he);replace KB:=zh (KB.out.ext he);have x0:=KA.out.cell (j:=0) rfl;have y0:=KB.out.cell (j:=0) rfl;have x1:=KA.out.cell (j:=1) rfl;have y1:=KB.out.cell (j:=1) rfl;have x2:=KA.out.cell (j:=2) rfl;have y2:=KB.out.cell (j:=2) rfl;have x3:=KA.out.cell (j:=3) rfl;have y3:=KB.out.cell (j:=3) rfl;have x4:=KA.out.cell (j:=4) rfl;have y4:=KB.out.cell (j:=4) rfl;have x5:=KA.out.cell (j:=5) rfl;have y5:=KB.out.cell (j:=5) rfl;have x6:=KA.out.cell (j:=6) rfl;have y6:=KB.out.cell (j:=6) rfl;have ltA:=KA.out.lt;have ltB:=KB.out.lt;clear he)
   | (go_at_call 38;refine(zA3 _ m _ (H.out.ext HE0.out)).mono ?_;rintro e ws1 ⟨rfl,he⟩;rw[g1];replace HE0:=zh (HE0.out.tr he);replace KA:=zh (KA.out.ext he);replace KB:=zh (KB.out.ext he);have x0:=KA.out.cell (j:=0) rfl;have y0:=KB.out.cell (j:=0) rfl;have x1:=KA.out.cell (j:=1) rfl;have y1:=KB.out.cell (j:=1) rfl;have x2:=KA.out.cell (j:=2) rfl;have y2:=KB.out.cell (j:=2) rfl;have x3:=KA.out.cell (j:=3) rfl;have y3:=KB.out.cell (j:=3) rfl;have x4:=KA.out.cell (j:=4) rfl;have y4:=KB.out.cell (j:=4) rfl;have x5:=KA.out.cell (j:=5) rfl;have y5:=KB.out.cell (j:=5) rfl;have x6:=KA.out.cell (j:=6) rfl;have y6:=KB.out.cell (j:=6) rfl;have ltA:=KA.out.lt;have ltB:=KB.out.lt;clear he;have mAd:=trivial)
   | (go_at_call 55;refine(zA9 _ _ _ _).mono ?_;rintro e w9 ⟨rfl,rfl⟩;rw[i1])
   | (go_at_call 55;refine(zA9 _ _ _ _).mono ?_;rintro e w9 ⟨rfl,rfl⟩;rw[i2])
   | (go_at_call 55;refine(zA9 _ _ _ _).mono ?_;rintro e w9 ⟨rfl,rfl⟩;rw[i3]))
  go_ret;exact⟨zD3 (zAr (.inr (.inr (.inl (by unfold zBi;rw[g1,i3];rfl))))).symm,HE0.out⟩
 have hv1:=zAu.1 g1;have hv2:=zAu.1 g2;have tk1:=hv1.tick;have tk2:=hv2.tick;obtain⟨ht0,ht4⟩:=zA6.1 i3;obtain⟨T,rfl⟩:∃ T:Nat,t=T:=⟨t.toNat,by omega⟩
 by_cases hTm:m.Tick+T<=100000
 case neg =>
  have g0:zBi m T 200=false:=by unfold zBi;rw[g1,i3,show decide (m.Tick+(T:Int)<=100000)=false from decide_eq_false hTm];rfl
  have hgt:decide (m.Tick+(T:Int) > 100000)=true:=decide_eq_true (by omega)
  have hgt2:decide ((100000:Int) < m.Tick+(T:Int))=true:=decide_eq_true (by omega)
  clear hv1 hv2
  go_wp2_with (first
   | (go_at_call 38;have _t:=mAd;refine(zA3 _ p _ (KP.out.ext HE0.out)).mono ?_;rintro e ws2 ⟨rfl,he⟩;rw[g2];replace HE0:=zh (HE0.out.tr he);replace KA:=zh (KA.out.ext he);replace KB:=zh (KB.out.ext he);have x0:=KA.out.cell (j:=0) rfl;have y0:=KB.out.cell (j:=0) rfl;have x1:=KA.out.cell (j:=1) rfl;have y1:=KB.out.cell (j:=1) rfl;have x2:=KA.out.cell (j:=2) rfl;have y2:=KB.out.cell (j:=2) rfl;have x3:=KA.out.cell (j:=3) rfl;have y3:=KB.out.cell (j:=3) rfl;have x4:=KA.out.cell (j:=4) rfl;have y4:=KB.out.cell (j:=4) rfl;have x5:=KA.out.cell (j:=5) rfl;have y5:=KB.out.cell (j:=5) rfl;have x6:=KA.out.cell (j:=6) rfl;have y6:=KB.out.cell (j:=6) rfl;have ltA:=KA.out.lt;have ltB:=KB.out.lt;clear he)
   | (go_at_call 38;refine(zA3 _ m _ (H.out.ext HE0.out)).mono ?_;rintro e ws1 ⟨rfl,he⟩;rw[g1];replace HE0:=zh (HE0.out.tr he);replace KA:=zh (KA.out.ext he);replace KB:=zh (KB.out.ext he);have x0:=KA.out.cell (j:=0) rfl;have y0:=KB.out.cell (j:=0) rfl;have x1:=KA.out.cell (j:=1) rfl;have y1:=KB.out.cell (j:=1) rfl;have x2:=KA.out.cell (j:=2) rfl;have y2:=KB.out.cell (j:=2) rfl;have x3:=KA.out.cell (j:=3) rfl;have y3:=KB.out.cell (j:=3) rfl;have x4:=KA.out.cell (j:=4) rfl;have y4:=KB.out.cell (j:=4) rfl;have x5:=KA.out.cell (j:=5) rfl;have y5:=KB.out.cell (j:=5) rfl;have x6:=KA.out.cell (j:=6) rfl;have y6:=KB.out.cell (j:=6) rfl;have ltA:=KA.out.lt;have ltB:=KB.out.lt;clear he;have mAd:=trivial)
   | (go_at_call 55;refine(zA9 _ _ _ _).mono ?_;rintro e w9 ⟨rfl,rfl⟩;rw[i1])
   | (go_at_call 55;refine(zA9 _ _ _ _).mono ?_;rintro e w9 ⟨rfl,rfl⟩;rw[i2])
   | (go_at_call 55;refine(zA9 _ _ _ _).mono ?_;rintro e w9 ⟨rfl,rfl⟩;rw[i3]))
  go_ret;exact⟨zD3 (zAr (.inr (.inr (.inl g0)))).symm,HE0.out⟩
 have gm':decide (m.Tick+(T:Int) > 100000)=false:=decide_eq_false (by omega)
 have gm'':decide ((100000:Int) < m.Tick+(T:Int))=false:=decide_eq_false (by omega)
 by_cases hTp:p.Tick+T<=100000
 case neg =>
  have g0:zBi p T 200=false:=by unfold zBi;rw[g2,i3,show decide (p.Tick+(T:Int)<=100000)=false from decide_eq_false hTp];rfl
  have hgt:decide (p.Tick+(T:Int) > 100000)=true:=decide_eq_true (by omega)
  have hgt2:decide ((100000:Int) < p.Tick+(T:Int))=true:=decide_eq_true (by omega)
  clear hv1 hv2
  go_wp2_with (first
   | (go_at_call 38;have _t:=mAd;refine(zA3 _ p _ (KP.out.ext HE0.out)).mono ?_;rintro e ws2 ⟨rfl,he⟩;rw[g2];replace HE0:=zh (HE0.out.tr he);replace KA:=zh (KA.out.ext he);replace KB:=zh (KB.out.ext he);have x0:=KA.out.cell (j:=0) rfl;have y0:=KB.out.cell (j:=0) rfl;have x1:=KA.out.cell (j:=1) rfl;have y1:=KB.out.cell (j:=1) rfl;have x2:=KA.out.cell (j:=2) rfl;have y2:=KB.out.cell (j:=2) rfl;have x3:=KA.out.cell (j:=3) rfl;have y3:=KB.out.cell (j:=3) rfl;have x4:=KA.out.cell (j:=4) rfl;have y4:=KB.out.cell (j:=4) rfl;have x5:=KA.out.cell (j:=5) rfl;have y5:=KB.out.cell (j:=5) rfl;have x6:=KA.out.cell (j:=6) rfl;have y6:=KB.out.cell (j:=6) rfl;have ltA:=KA.out.lt;have ltB:=KB.out.lt;clear he)
   | (go_at_call 38;refine(zA3 _ m _ (H.out.ext HE0.out)).mono ?_;rintro e ws1 ⟨rfl,he⟩;rw[g1];replace HE0:=zh (HE0.out.tr he);replace KA:=zh (KA.out.ext he);replace KB:=zh (KB.out.ext he);have x0:=KA.out.cell (j:=0) rfl;have y0:=KB.out.cell (j:=0) rfl;have x1:=KA.out.cell (j:=1) rfl;have y1:=KB.out.cell (j:=1) rfl;have x2:=KA.out.cell (j:=2) rfl;have y2:=KB.out.cell (j:=2) rfl;have x3:=KA.out.cell (j:=3) rfl;have y3:=KB.out.cell (j:=3) rfl;have x4:=KA.out.cell (j:=4) rfl;have y4:=KB.out.cell (j:=4) rfl;have x5:=KA.out.cell (j:=5) rfl;have y5:=KB.out.cell (j:=5) rfl;have x6:=KA.out.cell (j:=6) rfl;have y6:=KB.out.cell (j:=6) rfl;have ltA:=KA.out.lt;have ltB:=KB.out.lt;clear he;have mAd:=trivial)
   | (go_at_call 55;refine(zA9 _ _ _ _).mono ?_;rintro e w9 ⟨rfl,rfl⟩;rw[i1])
   | (go_at_call 55;refine(zA9 _ _ _ _).mono ?_;rintro e w9 ⟨rfl,rfl⟩;rw[i2])
   | (go_at_call 55;refine(zA9 _ _ _ _).mono ?_;rintro e w9 ⟨rfl,rfl⟩;rw[i3]))
  go_ret;exact⟨zD3 (zAr (.inr (.inr (.inr g0)))).symm,HE0.out⟩
 have gp':decide (p.Tick+(T:Int) > 100000)=false:=decide_eq_false (by omega)
 have gp'':decide ((100000:Int) < p.Tick+(T:Int))=false:=decide_eq_false (by omega)
 have s1:zB5 m n=true:=by unfold zB5;rw[g1,i1];rfl
 have s2:zB5 p n=true:=by unfold zB5;rw[g2,i2];rfl
 have rr1:zBi m T 200=true:=zCm.2 ⟨hv1,⟨ht0,ht4⟩,hTm⟩;have rr2:zBi p T 200=true:=zCm.2 ⟨hv2,⟨ht0,ht4⟩,hTp⟩;obtain⟨n1,n2⟩:=zA6.1 i1;obtain⟨_,n3⟩:=zA6.1 i2;go_upto_region 3 with (first
   | (go_at_call 38;have _t:=mAd;refine(zA3 _ p _ (KP.out.ext HE0.out)).mono ?_;rintro e ws2 ⟨rfl,he⟩;rw[g2];replace HE0:=zh (HE0.out.tr he);replace KA:=zh (KA.out.ext he);replace KB:=zh (KB.out.ext he);have x0:=KA.out.cell (j:=0) rfl;have y0:=KB.out.cell (j:=0) rfl;have x1:=KA.out.cell (j:=1) rfl;have y1:=KB.out.cell (j:=1) rfl;have x2:=KA.out.cell (j:=2) rfl;have y2:=KB.out.cell (j:=2) rfl;have x3:=KA.out.cell (j:=3) rfl;have y3:=KB.out.cell (j:=3) rfl;have x4:=KA.out.cell (j:=4) rfl;have y4:=KB.out.cell (j:=4) rfl;have x5:=KA.out.cell (j:=5) rfl;have y5:=KB.out.cell (j:=5) rfl;have x6:=KA.out.cell (j:=6) rfl;have y6:=KB.out.cell (j:=6) rfl;have ltA:=KA.out.lt;have ltB:=KB.out.lt;clear he)
   | (go_at_call 38;refine(zA3 _ m _ (H.out.ext HE0.out)).mono ?_;rintro e ws1 ⟨rfl,he⟩;rw[g1];replace HE0:=zh (HE0.out.tr he);replace KA:=zh (KA.out.ext he);replace KB:=zh (KB.out.ext he);have x0:=KA.out.cell (j:=0) rfl;have y0:=KB.out.cell (j:=0) rfl;have x1:=KA.out.cell (j:=1) rfl;have y1:=KB.out.cell (j:=1) rfl;have x2:=KA.out.cell (j:=2) rfl;have y2:=KB.out.cell (j:=2) rfl;have x3:=KA.out.cell (j:=3) rfl;have y3:=KB.out.cell (j:=3) rfl;have x4:=KA.out.cell (j:=4) rfl;have y4:=KB.out.cell (j:=4) rfl;have x5:=KA.out.cell (j:=5) rfl;have y5:=KB.out.cell (j:=5) rfl;have x6:=KA.out.cell (j:=6) rfl;have y6:=KB.out.cell (j:=6) rfl;have ltA:=KA.out.lt;have ltB:=KB.out.lt;clear he;have mAd:=trivial)
   | (go_at_call 55;refine(zA9 _ _ _ _).mono ?_;rintro e w9 ⟨rfl,rfl⟩;rw[i1])
   | (go_at_call 55;refine(zA9 _ _ _ _).mono ?_;rintro e w9 ⟨rfl,rfl⟩;rw[i2])
   | (go_at_call 55;refine(zA9 _ _ _ _).mono ?_;rintro e w9 ⟨rfl,rfl⟩;rw[i3]))
 obtain⟨N,rfl⟩:∃ N:Nat,n=N:=⟨n.toNat,by omega⟩
 have hn1:N < m.Cores.length:=by omega
 have hn2:N < p.Cores.length:=by omega
 have HV1:=zh hv1;have HV2:=zh hv2;have hres:=zh (zDd s1 s2 rr1 rr2);have QA:=zh (Bq.start (X:=w.heap.size+1) H.out KA.out HE0.out (Nat.le_refl _) (Nat.le_succ _));have QB:=zh (Bq.start (X:=w.heap.size) KP.out KB.out HE0.out (Nat.le_succ _) (Nat.le_refl _));clear KA KB H KP s1 s2 rr1 rr2 g1 g2 i1 i2 i3 hv1 hv2 n1 n2 n3 gm' gm'' gp' gp'' ltA ltB x0 y0 x1 y1 x2 y2 x3 y3 x4 y4 x5 y5 x6 y6;go_wp2;go_loopw [9] (fun i wr => ∃ (k:Nat),i = .int .i64 k/\Ext w wr/\((k<=T/\Bq (w.heap.size+1) wr w.heap.size (zAj m k) 32/\Bq w.heap.size wr (w.heap.size+1) (zAj p k) 32/\Hid (zJk m p N T 0=zJk m p N (T - k) k))\/(k=T+1/\Hid (zJk m p N T 0 = -1)))) (fun i _=>T+1 - (intOf i).toNat)
 case atStart=>exact⟨0,rfl,HE0.out,.inl ⟨Nat.zero_le _,QA.out,QB.out,zh rfl⟩⟩
 case round =>
  clear QA QB HE0;obtain⟨k,rfl,er,⟨hk,qa,qb,hfd⟩ | ⟨rfl,hfd⟩⟩:=hrel
  ·have ER:=zh er;have QA:=zh qa;have QB:=zh qb;have brA:=qa.br;have brB:=qb.br;obtain⟨hv1,ht1,-,-,hc1,-⟩:=zDh HV1.out k (by omega)
   obtain⟨hv2,ht2,-,-,hc2,-⟩:=zDh HV2.out k (by omega)
   have hsv:zAx (zAj m k) (zAj p k) N=Eqb (zAe (zAj m k) N) (zAe (zAj p k) N):=by
    unfold zAx;rw[zBb.2 ⟨hv1,by omega,by rw[hc1];omega⟩,zBb.2 ⟨hv2,by omega,by rw[hc2];omega⟩];rfl
   have HSA:=zh (fun(h:k < T)=>(show zC4 (zAj m k)=zAj m (k+1) from zFd (zAu.2 hv1) (by rw[ht1];omega)))
   have HSB:=zh (fun(h:k < T)=>(show zC4 (zAj p k)=zAj p (k+1) from zFd (zAu.2 hv2) (by rw[ht2];omega)))
   have hkT:k < T+1:=by omega
   clear er qa qb hv1 hv2 ht1 ht2 hc1 hc2;obtain⟨mn,hmn⟩:∃ mn,zAj m (k+1)=mn:=⟨_,rfl⟩;obtain⟨pn,hpn⟩:∃ pn,zAj p (k+1)=pn:=⟨_,rfl⟩;rw[hmn] at HSA;rw[hpn] at HSB;have HMN:=zh hmn;have HPN:=zh hpn;clear hmn hpn;have hne:Hid (¬ zAe (zAj m k) N=zAe (zAj p k) N->zJk m p N T 0=k):=zh (fun h=>hfd.out.trans (zKi h))
   have hez:Hid (zAe (zAj m k) N=zAe (zAj p k) N->k=T->zJk m p N T 0 = -1):=zh (fun h e=>hfd.out.trans (by subst e;rw[Nat.sub_self];exact zNo h))
   have hes:Hid (zAe (zAj m k) N=zAe (zAj p k) N->k < T->zJk m p N T 0=zJk m p N (T - (k+1)) (k+1)):=zh (fun h e=>hfd.out.trans (by rw[show T - k=(T - (k+1))+1 by omega];exact zNm h))
   clear hfd
   generalize zAj m k=mk at *
   generalize zAj p k=pk at *
   obtain⟨p0,q0,p1,q1,p2,q2,p3,q3,p4,q4,p5,q5,ka,rvA,-⟩:=brA.openM;obtain⟨f0,h0,f1,h1,f2,h2,f3,h3,f4,h4,f5,h5,kb,rvB,-⟩:=brB.openM;have x0:=ka.cell (j:=0) rfl;have y0:=kb.cell (j:=0) rfl;have x1:=ka.cell (j:=1) rfl;have y1:=kb.cell (j:=1) rfl;have x2:=ka.cell (j:=2) rfl;have y2:=kb.cell (j:=2) rfl;have x3:=ka.cell (j:=3) rfl;have y3:=kb.cell (j:=3) rfl;have x4:=ka.cell (j:=4) rfl;have y4:=kb.cell (j:=4) rfl;have x5:=ka.cell (j:=5) rfl;have y5:=kb.cell (j:=5) rfl;have x6:=ka.cell (j:=6) rfl;have y6:=kb.cell (j:=6) rfl;have ltA:=ka.lt;have ltB:=kb.lt;have RVA0:=zh rvA.out;have RVB0:=zh rvB.out;have KA0:=zh ka;have KB0:=zh kb;clear ka kb rvA rvB brA brB;cases hq:Eqb (zAe mk N) (zAe pk N)
   ·have HFD:=zh (hne.out (fun e=>by rw[Eqb.t e] at hq;cases hq))
    rw[hq] at hsv;clear hne hez hes;go_wp2_with (go_at_call 87;refine(zEt _ _ mk pk N _ RVA0.out RVB0.out).mono ?_;rintro e w4 ⟨rfl,he⟩;rw[hsv];replace ER:=zh (ER.out.tr he);clear he)
    go_ret;exact⟨zD3 (by rw[hres.out,HFD.out]),ER.out⟩
   ·have heq:=zh (Eqb.iff.1 hq);rw[hq] at hsv;by_cases hkt:k=T
    ·have HFD:=zh (hez.out heq.out hkt);have hlt:decide ((k:Int) < (T:Int))=false:=decide_eq_false (by omega)
     clear hne hez hes;go_wp2_with (go_at_call 87;refine(zEt _ _ mk pk N _ RVA0.out RVB0.out).mono ?_;rintro e w4 ⟨rfl,he⟩;rw[hsv];replace ER:=zh (ER.out.tr he);clear he)
     go_roundw
     case rel=>exact⟨k+1,by go_num,ER.out,.inr ⟨by omega,HFD⟩⟩
     case measure=>simp[intOf];omega
    ·have hktl:k < T:=by omega
     have HFD:=zh (hes.out heq.out hktl);replace HSA:=zh (HSA.out hktl);replace HSB:=zh (HSB.out hktl);have hlt:decide ((k:Int) < (T:Int))=true:=decide_eq_true (by omega)
     clear hne hez hes heq hkt;go_upto_region 10 with (first
      | (go_at_call 71;refine(zEz _ mk _ RVA.out).mono ?_;rintro e w7 ⟨v7,rfl,hov,ex⟩;rw[HSA.out] at hov;obtain⟨r0,s0,r1,s1,r2,s2,r3,s3,r4,s4,r5,s5,F7,rfl,hen7,how7⟩:=hov.openE;have EX7:=zh ex;have HEN7:=zh hen7;have HOW7:=zh how7;obtain⟨cA0,cA1,cA2,cA3,cA4,cA5,cA6⟩:=Bk.k7 (KCA.out.ext ex);have bf7:=(KCA.out.ext ex).fz;have lt7:=(KCA.out.ext ex).lt;clear ex hen7 how7 hov)
      | (go_at_call 87;refine(zEt _ _ mk pk N _ RVA0.out RVB0.out).mono ?_;rintro e w4 ⟨rfl,he⟩;rw[hsv];replace ER:=zh (ER.out.tr he);have RVA:=zh (RVA0.out.ext he);have KCA:=zh (KA0.out.ext he);have QB4:=zh (QB.out.ext he);obtain⟨u0,u1,u2,u3,u4,u5,u6⟩:=Bk.k7 KCA.out;have ltu:=KCA.out.lt;have ltB4:w.heap.size+1 < w4.heap.size:=zl ltB he.sz;clear he))
     refine zA1 (fun W=>Ext w W/\Bq (w.heap.size+1) W w.heap.size mn 32/\Bq w.heap.size W (w.heap.size+1) pk 32) ⟨Ext.puts (b:=w.heap.size) (o:=0) (Nat.le_refl _) [.slice r0 mn.Plan.Parts.length s0,.slice r1 mn.Plan.Channels.length s1,.slice r2 mn.Plan.Slots.length s2,.slice r3 mn.Programs.length s3,.slice r4 mn.Cores.length s4,.slice r5 mn.Holds.length s5,.int .i64 mn.Tick] (ER.out.tr EX7.out),Bq.put (cs:=[.slice r0 mn.Plan.Parts.length s0,.slice r1 mn.Plan.Channels.length s1,.slice r2 mn.Plan.Slots.length s2,.slice r3 mn.Programs.length s3,.slice r4 mn.Cores.length s4,.slice r5 mn.Holds.length s5,.int .i64 mn.Tick]) (KCA.out.ext EX7.out) rfl HEN7.out HOW7.out ltu ltB4,Bq.other (o:=0) (ds:=[.slice r0 mn.Plan.Parts.length s0,.slice r1 mn.Plan.Channels.length s1,.slice r2 mn.Plan.Slots.length s2,.slice r3 mn.Programs.length s3,.slice r4 mn.Cores.length s4,.slice r5 mn.Holds.length s5,.int .i64 mn.Tick]) (QB4.out.ext EX7.out) (by omega)⟩ ?_
     rintro W8 ⟨e8,qa8,qb8⟩;have E8:=zh e8;have QA8:=zh qa8;have brB:=qb8.br;obtain⟨g0,j0,g1,j1,g2,j2,g3,j3,g4,j4,g5,j5,kb8,rv8,-⟩:=brB.openM;have RVB:=zh rv8.out;have KCB:=zh kb8;obtain⟨z0,z1,z2,z3,z4,z5,z6⟩:=Bk.k7 kb8;have ltz:=kb8.lt;have ltA8:w.heap.size < W8.heap.size:=by omega
     clear e8 qa8 qb8 brB rv8 kb8 EX7 HEN7 HOW7 bf7 lt7 u0 cA0 x0 y0 u1 cA1 x1 y1 u2 cA2 x2 y2 u3 cA3 x3 y3 u4 cA4 x4 y4 u5 cA5 x5 y5 u6 cA6 x6 y6;go_wp2_with (go_at_call 71;refine(zEz _ pk _ RVB.out).mono ?_;rintro e w7 ⟨v7,rfl,hov,ex⟩;rw[HSB.out] at hov;obtain⟨r0,s0,r1,s1,r2,s2,r3,s3,r4,s4,r5,s5,F7,rfl,hen7,how7⟩:=hov.openE;have EX7:=zh ex;have HEN7:=zh hen7;have HOW7:=zh how7;obtain⟨cB0,cB1,cB2,cB3,cB4,cB5,cB6⟩:=Bk.k7 (KCB.out.ext ex);have bf7:=(KCB.out.ext ex).fz;have lt7:=(KCB.out.ext ex).lt;clear ex hen7 how7 hov)
     go_roundw
     case rel=>exact⟨k+1,by go_num,Ext.puts (b:=w.heap.size+1) (o:=0) (Nat.le_succ _) [.slice r0 pn.Plan.Parts.length s0,.slice r1 pn.Plan.Channels.length s1,.slice r2 pn.Plan.Slots.length s2,.slice r3 pn.Programs.length s3,.slice r4 pn.Cores.length s4,.slice r5 pn.Holds.length s5,.int .i64 pn.Tick] (E8.out.tr EX7.out),.inl ⟨by omega,by rw[HMN.out];exact Bq.other (o:=0) (ds:=[.slice r0 pn.Plan.Parts.length s0,.slice r1 pn.Plan.Channels.length s1,.slice r2 pn.Plan.Slots.length s2,.slice r3 pn.Programs.length s3,.slice r4 pn.Cores.length s4,.slice r5 pn.Holds.length s5,.int .i64 pn.Tick]) (QA8.out.ext EX7.out) (by omega),by rw[HPN.out];exact Bq.put (cs:=[.slice r0 pn.Plan.Parts.length s0,.slice r1 pn.Plan.Channels.length s1,.slice r2 pn.Plan.Slots.length s2,.slice r3 pn.Programs.length s3,.slice r4 pn.Cores.length s4,.slice r5 pn.Holds.length s5,.int .i64 pn.Tick]) (KCB.out.ext EX7.out) rfl HEN7.out HOW7.out ltz ltA8,HFD⟩⟩
     case measure=>simp[intOf];omega
  ·have ER:=zh er;clear er;have hle:decide (((T+1:Nat):Int)<=(T:Int))=false:=decide_eq_false (by omega)
   go_wp2;go_ret;exact⟨zD3 (by rw[hres.out,hfd.out]),ER.out⟩
end Sk
