/- Contracts of functions of the given program. -/
import Derived.Test.YtfdeoepbnefckaaGreatHold
namespace Sk
open Go Go.Proofs Go.RowKit
set_option maxHeartbeats 4000000
set_option maxRecDepth 100000
set_option linter.unusedVariables false
set_option linter.unusedSimpArgs false
theorem Mx.ofChg{b o n:Nat}{w w':World}(h:Chg b o n [] w w'):Mx [b] w w':=⟨h.1,h.2.1,fun k hk hn=>h.2.2.1 k hk (fun e=>hn (by simp[e])) (by simp),fun k hk=>h.fzk k hk⟩
theorem Mx.owns{F G:List Nat}{L:Nat}{a b:World}(h:Mx F a b)(ho:Own L a G):Own L b G:=⟨ho.1,fun x hx=>⟨(ho.2 x hx).1,h.2.2.2 x (ho.2 x hx).2⟩⟩
theorem Dc.base{α:Type}[GT α]{L L' lo:Nat}{w:World}{g:Nat}{xs:List α}(h:Dc L lo w g xs 0):Dc L' lo w g xs 0:=by
 obtain⟨F1,F2,h1,h2,h3,h4,h5,h6⟩:=h;exact⟨[],F2,rfl,Own.nil _ _,by simp,h4,h5,h6⟩
theorem Dc.mx{α:Type}[GT α]{L lo:Nat}{w w':World}{g:Nat}{xs:List α}{k:Nat}{F:List Nat}(h:Dc L lo w g xs k)(hc:Mx F w w')(hg:g ∉ F)(hF:∀ x∈F,lo<=x/\x < L):Dc L lo w' g xs k:=by
 obtain⟨F1,F2,h1,h2,h3,h4,h5,h6⟩:=h;have hgk:=hc.2.2.1 g h6.lt hg;have e1:∀ x∈F1,x ∉ F:=fun x hx hm=>by have:=(h2.2 x hx).1;have:=hF x hm;omega
 have e2:∀ x∈F2,x ∉ F:=fun x hx hm=>by have:=h5 x hx;have:=hF x hm;omega
 exact⟨F1,F2,h1.keep hgk (fun x hx=>hc.2.2.1 x (h1.inh x hx) (e1 x hx)),hc.owns h2,h3,h4.keep hgk (fun x hx=>hc.2.2.1 x (h4.inh x hx) (e2 x hx)),h5,hc.2.2.2 g h6⟩
def Dk{α:Type}[GT α](L lo:Nat)(w:World)(ga:Option Addr)(G:List Nat)(xs:List α)(k:Nat):Prop :=
 (xs = []/\G = [])\/∃ g,ga=some ⟨g,0,none⟩/\G = [g]/\lo<=g/\Dc L lo w g xs k
theorem Oq.dk{α:Type}[GT α]{L lo:Nat}{w:World}{v:Value}{xs:List α}{F:List Nat}(h:Oq L w v xs F lo)(hl:lo<=L)(M:Nat):∃ ga,v = .slice ga xs.length xs.length/\Dk M lo w ga F xs 0:=by
 obtain⟨ga,rfl,hm,⟨rfl,rfl⟩ | ⟨g,FP,rfl,rfl,hL,hr,hF,hz⟩⟩:=h
 ·exact⟨ga,rfl,.inl ⟨rfl,rfl⟩⟩
 ·exact⟨_,rfl,.inr ⟨g,rfl,rfl,by omega,Dc.start hr hF hz⟩⟩
theorem Dk.base{α:Type}[GT α]{L L' lo:Nat}{w:World}{ga:Option Addr}{G:List Nat}{xs:List α}(h:Dk L lo w ga G xs 0):Dk L' lo w ga G xs 0 :=
 h.imp (fun h=>h) fun⟨g,h1,h2,h3,h4⟩=>⟨g,h1,h2,h3,h4.base⟩
theorem Dk.mx{α:Type}[GT α]{L lo:Nat}{w w':World}{ga:Option Addr}{G:List Nat}{xs:List α}{k:Nat}{F:List Nat}(h:Dk L lo w ga G xs k)(hc:Mx F w w')(hg:zAw G F)(hF:∀ x∈F,lo<=x/\x < L):Dk L lo w' ga G xs k :=
 h.imp (fun h=>h) fun⟨g,h1,h2,h3,h4⟩=>⟨g,h1,h2,h3,h4.mx hc (fun hm=>hg g (by simp[h2]) hm) hF⟩
theorem Dk.get{α:Type}[GT α]{L lo:Nat}{w:World}{ga:Option Addr}{G:List Nat}{xs:List α}{k j:Nat}{x : α}(h:Dk L lo w ga G xs k)(hx:xs[j]? = some x):∃ g,ga=some ⟨g,0,none⟩/\G = [g]/\lo<=g/\Dc L lo w g xs k:=by
 rcases h with ⟨rfl,_⟩|h
 ·cases hx
 ·exact h
theorem Dk.fin{α:Type}[GT α]{L L' lo:Nat}{w:World}{ga:Option Addr}{G:List Nat}{xs:List α}{n:Nat}(h:Dk L lo w ga G xs n)(hn:xs.length=n)(hG:∀ x∈G,L'<=x)(hl:L'<=L)(hm:n<=maxLen) :
  ∃ F,Sl w (.slice ga n n) xs F/\Own L' w F/\∀ k∈F,k∈G\/L<=k:=by
 rcases h with ⟨rfl,rfl⟩ | ⟨g,rfl,rfl,hg,hd⟩
 ·subst hn;exact⟨[],⟨ga,0,rfl,Nat.le_refl _,Nat.zero_le _,.inl ⟨rfl,rfl⟩⟩,Own.nil _ _,fun k hk=>by cases hk⟩
 ·obtain⟨F,h1,h2,h3⟩:=hd.fin hn (fun _=>rfl) (fun _=>hG g (by simp)) hl (Nat.le_refl _) hm
  exact⟨F,h1,h2,fun k hk=>(h3 k hk).imp (fun e=>by simp[e]) (fun e=>e)⟩
theorem Dc.fz{α:Type}[GT α]{L lo:Nat}{w:World}{g:Nat}{xs:List α}{k:Nat}(h:Dc L lo w g xs k):Fz w g:=by
 obtain⟨F1,F2,h1,h2,h3,h4,h5,h6⟩:=h;exact h6
theorem zF3(v:Value)(x:Core)(w:World)(h:Rv w v x)(hn:x.Cells.length<=100000000) :
  Calls Tryz.prog 41 #[v] w fun e w' => ∃ p q,e = .returned (.agg #[.slice p x.Cells.length q,.int .i64 x.At,.bool x.Stopped])/\Os w.heap.size w' (.slice p x.Cells.length q) x.Cells/\Ext w w':=by
 obtain⟨a0,c0,rfl,hr,hs,hl0⟩:=h.openCore;clear h;go_enter Tryz.func41,Tryz.ntmps41;go_upto_region 1 with (fail)
 refine zA2 (fun W=>Ext w W/\Bk W w.heap.size [.slice a0 x.Cells.length c0,.int .i64 x.At,.bool x.Stopped] 43/\Bk W (w.heap.size+1) [.slice none 0 0,.int .i64 0,.bool false] 43) ⟨((zr _).alloc _).alloc _,(Bk.new _ _ _).ext ((zr _).alloc _),Bk.new1 _ _ _ _⟩ ?_
 rintro W ⟨e1,kA,kB⟩;have HE:=zh e1;have HKA:=zh kA;have d0:=kA.cell (j:=0) rfl;have hA:=kA.lt;have HKB:=zh kB;have hsz:w.heap.size<=W.heap.size:=e1.sz;clear e1 kA kB;go_wp2_with (go_at_call 57;refine(zB4 _ x.Cells _ (hs.out.ext HE.out) hn).mono ?_;rintro e w2 ⟨v2,rfl,ho,he⟩;obtain⟨p2,q2,rfl,_⟩:=ho.form;have HO:=zh ho;have HE2:=zh he;have kA2:=HKA.out.ext he;have hA2:=kA2.lt;obtain⟨a0,a1,a2⟩:=Bk.k3 kA2;have hAf:=kA2.fz;have kB2:=HKB.out.ext he;have hB:=HKB.out.lt;have hB2:=kB2.lt;obtain⟨r0,r1,r2⟩:=Bk.k3 kB2;have hBf:=kB2.fz;clear ho he kA2 kB2)
 refine bodyPost_ret (v:=.agg #[.slice p2 x.Cells.length q2,.int .i64 x.At,.bool x.Stopped]) (by simp[results,Tryz.results41,go_sem,r0,r1,r2]) rfl ⟨p2,q2,rfl,?_,?_⟩
 ·exact(((((HO.out.setLow (p:=⟨w.heap.size,0,none⟩) hA _).setLow (p:=⟨w.heap.size+1,0,none⟩) hB _).setLow (p:=⟨w.heap.size+1,1,none⟩) hB _).setLow (p:=⟨w.heap.size+1,2,none⟩) hB _)).mono hsz
 ·exact((((HE.out.tr HE2.out).set (by simp) _).set (by simp) _).set (by simp) _).set (by simp) _
theorem zBz(v:Value)(m:Machine)(w:World)(h:Rv w v m)(hn:GT.tot m<=1048576) :
  Calls Tryz.prog 22 #[v] w fun e w' => ∃ v',e = .returned v'/\Ov w.heap.size w' v' m/\Ext w w':=by
 have ht:GT.tot m=GT.tot m.Plan+GT.tot m.Programs+GT.tot m.Cores+GT.tot m.Holds+GT.tot m.Tick:=rfl;obtain⟨a0,c0,a1,c1,a2,c2,a3,c3,a4,c4,a5,c5,rfl,rt,h0,l0,h1,l1,h2,l2,h3,l3,h4,l4,h5,l5⟩:=h.openMachine;clear h;have hw3:m.Programs.length<=1048576:=Nat.le_trans zB0 (by omega)
 have hw4:m.Cores.length<=1048576:=Nat.le_trans zB0 (by omega)
 have hw5:m.Holds.length<=1048576:=Nat.le_trans zB0 (by omega)
 have hts:GT.tot m.Plan<=1048576:=by omega
 have ht3:GT.tot m.Programs<=1048576:=by omega
 have ht4:GT.tot m.Cores<=1048576:=by omega
 have ht5:GT.tot m.Holds<=1048576:=by omega
 clear ht hn;obtain⟨H3,sP3⟩:=h3.out;obtain⟨H4,sP4⟩:=h4.out;obtain⟨H5,sP5⟩:=h5.out;replace sP3:=zh sP3;replace sP4:=zh sP4;replace sP5:=zh sP5;go_enter Tryz.func22,Tryz.ntmps22;go_upto_region 1 with (fail)
 refine zA2 (fun W=>Ext w W/\Bk W w.heap.size [.slice a0 m.Plan.Parts.length c0,.slice a1 m.Plan.Channels.length c1,.slice a2 m.Plan.Slots.length c2,.slice a3 m.Programs.length c3,.slice a4 m.Cores.length c4,.slice a5 m.Holds.length c5,.int .i64 m.Tick] 34/\Bk W (w.heap.size+1) [.slice none 0 0,.slice none 0 0,.slice none 0 0,.slice none 0 0,.slice none 0 0,.slice none 0 0,.int .i64 0] 34) ⟨((zr _).alloc _).alloc _,(Bk.new _ _ _).ext ((zr _).alloc _),Bk.new1 _ _ _ _⟩ ?_
 rintro w0 ⟨E,KA,KB⟩;have ltA:=KA.lt;have ltB:=KB.lt;replace E:=zh E;replace KA:=zh KA;replace KB:=zh KB;obtain⟨f0,f1,f2,f3,f4,f5,f6⟩:=Bk.k7 KA.out;refine zAk rfl 16 [(7,[7]),(8,[8]),(9,[9]),(10,[10]),(11,[11]),(12,[12]),(13,[13]),(14,[14]),(15,[15]),(16,[16]),(17,[17]),(18,[18]),(19,[19]),(20,[20]),(21,[21,9,12,15,18]),(3,[3])]
  (fun i vs u F=>match i,vs with
   | 0,[y]=>y = .pointer (some ⟨w.heap.size,0,none⟩)
   | 1,[y]=>y = .agg #[.slice a0 m.Plan.Parts.length c0,.slice a1 m.Plan.Channels.length c1,.slice a2 m.Plan.Slots.length c2]
   | 2,[y] => ∃ p0 q0 p1 q1 p2 q2,y = .agg #[.slice p0 m.Plan.Parts.length q0,.slice p1 m.Plan.Channels.length q1,.slice p2 m.Plan.Slots.length q2]/\GT.enc u [.slice p0 m.Plan.Parts.length q0,.slice p1 m.Plan.Channels.length q1,.slice p2 m.Plan.Slots.length q2] m.Plan F
   | 3,[y]=>y = .pointer (some ⟨w.heap.size,3,none⟩)
   | 4,[y]=>y = .slice a3 m.Programs.length c3
   | 5,[y]=>Oq w0.heap.size u y m.Programs F w.heap.size
   | 6,[y]=>y = .pointer (some ⟨w.heap.size,4,none⟩)
   | 7,[y]=>y = .slice a4 m.Cores.length c4
   | 8,[y]=>Oq w0.heap.size u y m.Cores F w.heap.size
   | 9,[y]=>y = .pointer (some ⟨w.heap.size,5,none⟩)
   | 10,[y]=>y = .slice a5 m.Holds.length c5
   | 11,[y]=>Oq w0.heap.size u y m.Holds F w.heap.size
   | 12,[y]=>y = .pointer (some ⟨w.heap.size,6,none⟩)
   | 13,[y]=>y = .int .i64 m.Tick
   | 14,[y,z,z3,z4,z5] => ∃ s0 s1 s2,z = .agg #[s0,s1,s2]/\y = .agg #[s0,s1,s2,z3,z4,z5,.int .i64 m.Tick]
   | 15,[y] => ∃ B,y = .pointer (some ⟨B,0,none⟩)/\F = [B]/\Bk u B [.slice none 0 0,.slice none 0 0,.slice none 0 0,.slice none 0 0,.slice none 0 0,.slice none 0 0,.int .i64 0] 34
   | _,_=>False) (by decide +kernel) ?_ ?_
 ·intro i hi o ho U u F hE hd hap;have g0:=(zA0 hE ltA).trans f0;have g1:=(zA0 hE ltA).trans f1;have g2:=(zA0 hE ltA).trans f2;have g3:=(zA0 hE ltA).trans f3;have g4:=(zA0 hE ltA).trans f4;have g5:=(zA0 hE ltA).trans f5;have g6:=(zA0 hE ltA).trans f6;rcases(by omega:i=0\/i=1\/i=2\/i=3\/i=4\/i=5\/i=6\/i=7\/i=8\/i=9\/i=10\/i=11\/i=12\/i=13\/i=14\/i=15) with rfl|rfl|rfl|rfl|rfl|rfl|rfl|rfl|rfl|rfl|rfl|rfl|rfl|rfl|rfl|rfl
  ·cases ho;simp only[fr];intro K hK;go_wp2;exact zk hK _ (fun _ _=>rfl)
  ·cases ho;simp only[fr];obtain⟨⟨d0,-⟩,-⟩:=fa [0] (by decide +kernel) hd
   simp only[fu] at d0;try simp only[d0]
   clear d0;intro K hK;go_wp2;exact zk hK _ (fun _ _=>rfl)
  ·cases ho;simp only[fr];obtain⟨⟨d0,-⟩,⟨d1,-⟩,-⟩:=fa [0,1] (by decide +kernel) hd
   simp only[fu] at d0 d1;try simp only[d0,d1]
   intro K hK;go_wp2_with (go_at_call 52;refine(zEg _ m.Plan _ (Rv.mkSetup (h0.out.ext (E.out.tr hE)) (h1.out.ext (E.out.tr hE)) (h2.out.ext (E.out.tr hE))) hts).mono ?_;rintro e w' ⟨v',rfl,hov,ex1⟩;obtain⟨cs,F',rfl,hen,how⟩:=hov;obtain⟨v0,v1,v2,F0,F1,F2,rfl,⟨r0,t0,rfl,_⟩,⟨r1,t1,rfl,_⟩,⟨r2,t2,rfl,_⟩,hFF⟩:=id hen)
   exact hK _ F' _ ex1 (fun _ h=>⟨_,_,_,_,_,_,rfl,GT.ext hen h⟩) how
  ·cases ho;simp only[fr];intro K hK;go_wp2;exact zk hK _ (fun _ _=>rfl)
  ·cases ho;simp only[fr];obtain⟨⟨d3,-⟩,-⟩:=fa [3] (by decide +kernel) hd
   simp only[fu] at d3;try simp only[d3]
   clear d3;intro K hK;go_wp2;exact zk hK _ (fun _ _=>rfl)
  ·cases ho;simp only[fr];obtain⟨⟨d0,-⟩,⟨d1,-⟩,⟨d2,o2⟩,⟨d3,-⟩,⟨d4,-⟩,-⟩:=fa [0,1,2,3,4] (by decide +kernel) hd
   simp only[fu] at d0 d1 d2 d3 d4;try simp only[d0,d1,d3,d4]
   intro K hK;go_wp2_with (go_at_call 53;refine(zEe _ _ _ _ (sP3.out.ext (E.out.tr hE)) (by omega)).mono ?_;rintro e w' ⟨v',F',rfl,ho',hF',_,ex1⟩;obtain⟨F2,s2,ow2⟩:=ho'.oq (fun b hb=>sP3.out.inh b (hF' b hb)))
   exact hK _ F2 _ ex1 (fun _ h=>(s2.mono hE.sz).ext h) ow2
  ·cases ho;simp only[fr];intro K hK;go_wp2;exact zk hK _ (fun _ _=>rfl)
  ·cases ho;simp only[fr];obtain⟨⟨d6,-⟩,-⟩:=fa [6] (by decide +kernel) hd
   simp only[fu] at d6;try simp only[d6]
   clear d6;intro K hK;go_wp2;exact zk hK _ (fun _ _=>rfl)
  ·cases ho;simp only[fr];obtain⟨⟨d0,-⟩,⟨d1,-⟩,⟨d2,o2⟩,⟨d3,-⟩,⟨d4,-⟩,⟨d5,o5⟩,⟨d6,-⟩,⟨d7,-⟩,-⟩:=fa [0,1,2,3,4,5,6,7] (by decide +kernel) hd
   simp only[fu] at d0 d1 d2 d3 d4 d5 d6 d7;try simp only[d0,d1,d3,d4,d6,d7]
   intro K hK;go_wp2_with (go_at_call 54;refine(zFp _ _ _ _ (sP4.out.ext (E.out.tr hE)) (by omega)).mono ?_;rintro e w' ⟨v',F',rfl,ho',hF',_,ex1⟩;obtain⟨F2,s2,ow2⟩:=ho'.oq (fun b hb=>sP4.out.inh b (hF' b hb)))
   exact hK _ F2 _ ex1 (fun _ h=>(s2.mono hE.sz).ext h) ow2
  ·cases ho;simp only[fr];intro K hK;go_wp2;exact zk hK _ (fun _ _=>rfl)
  ·cases ho;simp only[fr];obtain⟨⟨d9,-⟩,-⟩:=fa [9] (by decide +kernel) hd
   simp only[fu] at d9;try simp only[d9]
   clear d9;intro K hK;go_wp2;exact zk hK _ (fun _ _=>rfl)
  ·cases ho;simp only[fr];obtain⟨⟨d0,-⟩,⟨d1,-⟩,⟨d2,o2⟩,⟨d3,-⟩,⟨d4,-⟩,⟨d5,o5⟩,⟨d6,-⟩,⟨d7,-⟩,⟨d8,o8⟩,⟨d9,-⟩,⟨d10,-⟩,-⟩:=fa [0,1,2,3,4,5,6,7,8,9,10] (by decide +kernel) hd
   simp only[fu] at d0 d1 d2 d3 d4 d5 d6 d7 d8 d9 d10;try simp only[d0,d1,d3,d4,d6,d7,d9,d10]
   intro K hK;go_wp2_with (go_at_call 55;refine(zFq _ _ _ _ (sP5.out.ext (E.out.tr hE)) (by omega)).mono ?_;rintro e w' ⟨v',F',rfl,ho',hF',_,ex1⟩;obtain⟨F2,s2,ow2⟩:=ho'.oq (fun b hb=>sP5.out.inh b (hF' b hb)))
   exact hK _ F2 _ ex1 (fun _ h=>(s2.mono hE.sz).ext h) ow2
  ·cases ho;simp only[fr];intro K hK;go_wp2;exact zk hK _ (fun _ _=>rfl)
  ·cases ho;simp only[fr];obtain⟨⟨d12,-⟩,-⟩:=fa [12] (by decide +kernel) hd
   simp only[fu] at d12;try simp only[d12]
   clear d12;intro K hK;go_wp2;exact zk hK _ (fun _ _=>rfl)
  ·cases ho;simp only[fr];obtain⟨⟨d0,-⟩,⟨d1,-⟩,⟨d2,o2⟩,⟨d3,-⟩,⟨d4,-⟩,⟨d5,o5⟩,⟨d6,-⟩,⟨d7,-⟩,⟨d8,o8⟩,⟨d9,-⟩,⟨d10,-⟩,⟨d11,o11⟩,⟨d12,-⟩,⟨d13,-⟩,-⟩:=fa [0,1,2,3,4,5,6,7,8,9,10,11,12,13] (by decide +kernel) hd
   simp only[fu] at d0 d1 d2 d3 d4 d5 d6 d7 d8 d9 d10 d11 d12 d13;try simp only[d0,d1,d3,d4,d6,d7,d9,d10,d12,d13]
   obtain⟨p0,q0,p1,q1,p2,q2,e2,_⟩:=d2;obtain⟨p5,q5,e5,_⟩:=d5.form;obtain⟨p8,q8,e8,_⟩:=d8.form;obtain⟨pz,qz,ez,_⟩:=d11.form;simp only[e2,e5,e8,ez];intro K hK;go_wp2;exact zk hK _ (fun _ _=>⟨_,_,_,e2,by show Value.agg _=Value.agg #[_,_,_,U 12,U 15,U 18,_];rw[e5,e8,ez]⟩)
  ·cases ho;simp only[fr];intro K hK;go_wp2;have b1:=Bk.new u [.slice none 0 0,.slice none 0 0,.slice none 0 0,.slice none 0 0,.slice none 0 0,.slice none 0 0,.int .i64 0] 34;exact hK _ [u.heap.size] _ ((zr u).alloc _) (fun _ h=>⟨_,rfl,rfl,b1.ext h⟩) (b1.own (Nat.le_refl _))
 ·intro o ho U u F hE hφ hap;cases ho;simp only[fr];obtain⟨⟨d0,-⟩,⟨d1,-⟩,⟨d2,o2⟩,⟨d3,-⟩,⟨d4,-⟩,⟨d5,o5⟩,⟨d6,-⟩,⟨d7,-⟩,⟨d8,o8⟩,⟨d9,-⟩,⟨d10,-⟩,⟨d11,o11⟩,⟨d12,-⟩,⟨d13,-⟩,⟨d14,o14⟩,⟨d15,o15⟩,-⟩:=fb [0,1,2,3,4,5,6,7,8,9,10,11,12,13,14,15] (by decide +kernel) hφ
  simp only[fu] at d0 d1 d2 d3 d4 d5 d6 d7 d8 d9 d10 d11 d12 d13 d14 d15;try simp only[d0,d1,d3,d4,d6,d7,d9,d10,d12,d13]
  obtain⟨B,d15,k15,b15⟩:=d15;obtain⟨p0,q0,p1,q1,p2,q2,e2,n2⟩:=d2;obtain⟨s0,s1,s2,z14,y14⟩:=d14;rw[e2] at z14;have z6:=congrArg Array.toList (zDl z14);simp only[List.cons.injEq] at z6;obtain⟨rfl,rfl,rfl,_⟩:=z6;have aP3:=hap 2 5 (by omega) (by omega) (by omega)
  have aP4:=hap 2 8 (by omega) (by omega) (by omega)
  have aP5:=hap 2 11 (by omega) (by omega) (by omega)
  have aPB:=hap 2 15 (by omega) (by omega) (by omega)
  have a34:=hap 5 8 (by omega) (by omega) (by omega)
  have a35:=hap 5 11 (by omega) (by omega) (by omega)
  have a3B:=hap 5 15 (by omega) (by omega) (by omega)
  have a45:=hap 8 11 (by omega) (by omega) (by omega)
  have a4B:=hap 8 15 (by omega) (by omega) (by omega)
  have a5B:=hap 11 15 (by omega) (by omega) (by omega)
  generalize F 2=FP at *
  generalize F 5=G3 at *
  generalize F 8=G4 at *
  generalize F 11=G5 at *
  rw[k15] at o15 aPB a3B a4B a5B;obtain⟨ga3,e5,dk3⟩:=d5.dk (by omega) 0
  obtain⟨ga4,e8,dk4⟩:=d8.dk (by omega) 0
  obtain⟨ga5,e11,dk5⟩:=d11.dk (by omega) 0
  clear k15 hap hφ z14 e2 d5 d8 d11;rw[e5,e8,e11] at y14;simp only[d15,y14];obtain⟨b60,b61,b62,b63,b64,b65,b66⟩:=Bk.k7 b15;have b6f:=b15.fz;have lB:w0.heap.size<=B:=(o15.2 B (by simp)).1
  have ltB2:=b15.lt;have nBP:B ∉ FP:=aPB.one;have nB3:B ∉ G3:=a3B.one;have nB4:B ∉ G4:=a4B.one;have nB5:B ∉ G5:=a5B.one;have gl3:Hid (∀ x∈G3,w0.heap.size<=x/\x < u.heap.size):=zh fun x hx=>⟨(o5.2 x hx).1,o5.lt hx⟩
  have gl4:Hid (∀ x∈G4,w0.heap.size<=x/\x < u.heap.size):=zh fun x hx=>⟨(o8.2 x hx).1,o8.lt hx⟩
  have gl5:Hid (∀ x∈G5,w0.heap.size<=x/\x < u.heap.size):=zh fun x hx=>⟨(o11.2 x hx).1,o11.lt hx⟩
  have HM:∀ x0 x1 x2 x3 x4 x5 x6,Mx [B] u (((((((u.setCell ⟨B,0,none⟩ x0).setCell ⟨B,1,none⟩ x1).setCell ⟨B,2,none⟩ x2).setCell ⟨B,3,none⟩ x3).setCell ⟨B,4,none⟩ x4).setCell ⟨B,5,none⟩ x5).setCell ⟨B,6,none⟩ x6):=fun x0 x1 x2 x3 x4 x5 x6=>Mx.ofMo ((((((((Mo.refl [B] u).set (by simp) _).set (by simp) _).set (by simp) _).set (by simp) _).set (by simp) _).set (by simp) _).set (by simp) _)
  go_upto_region 2 with (fail)
  refine zA2 (fun W=>Ext w W/\B < W.heap.size/\u.heap.size<=W.heap.size/\Bk W B [.slice p0 m.Plan.Parts.length q0,.slice p1 m.Plan.Channels.length q1,.slice p2 m.Plan.Slots.length q2,.slice ga3 m.Programs.length m.Programs.length,.slice ga4 m.Cores.length m.Cores.length,.slice ga5 m.Holds.length m.Holds.length,.int .i64 m.Tick] 34/\GT.enc W [.slice p0 m.Plan.Parts.length q0,.slice p1 m.Plan.Channels.length q1,.slice p2 m.Plan.Slots.length q2] m.Plan FP/\Dk W.heap.size w.heap.size W ga3 G3 m.Programs 0/\Dk W.heap.size w.heap.size W ga4 G4 m.Cores 0/\Dk W.heap.size w.heap.size W ga5 G5 m.Holds 0/\Own w0.heap.size W (FP)/\Bk W w.heap.size [.slice a0 m.Plan.Parts.length c0,.slice a1 m.Plan.Channels.length c1,.slice a2 m.Plan.Slots.length c2,.slice a3 m.Programs.length c3,.slice a4 m.Cores.length c4,.slice a5 m.Holds.length c5,.int .i64 m.Tick] 34/\Bk W (w.heap.size+1) [.slice none 0 0,.slice none 0 0,.slice none 0 0,.slice none 0 0,.slice none 0 0,.slice none 0 0,.int .i64 0] 34) ?_ ?_
  ·exact⟨(HM _ _ _ _ _ _ _).ext (E.out.tr hE) (fun x hx=>by rw[List.mem_singleton] at hx;omega),by simpa using ltB2,by simp,b15.puts [.slice p0 m.Plan.Parts.length q0,.slice p1 m.Plan.Channels.length q1,.slice p2 m.Plan.Slots.length q2,.slice ga3 m.Programs.length m.Programs.length,.slice ga4 m.Cores.length m.Cores.length,.slice ga5 m.Holds.length m.Holds.length,.int .i64 m.Tick] rfl,(HM _ _ _ _ _ _ _).enc n2 aPB,(dk3.base (L':=u.heap.size)).mx (HM _ _ _ _ _ _ _) a3B (fun x hx=>by rw[List.mem_singleton] at hx;omega) |>.base,(dk4.base (L':=u.heap.size)).mx (HM _ _ _ _ _ _ _) a4B (fun x hx=>by rw[List.mem_singleton] at hx;omega) |>.base,(dk5.base (L':=u.heap.size)).mx (HM _ _ _ _ _ _ _) a5B (fun x hx=>by rw[List.mem_singleton] at hx;omega) |>.base,Own.mono ((HM _ _ _ _ _ _ _).owns o2) (by omega),(HM _ _ _ _ _ _ _).bk (KA.out.ext hE) (by simp;omega),(HM _ _ _ _ _ _ _).bk (KB.out.ext hE) (by simp;omega)⟩
  rintro W3 ⟨E3,lt3,lW3,BB3,NP3,D33,D34,D35,OW3,KA3,KB3⟩;replace BB3:=zh BB3;replace KA3:=zh KA3;replace KB3:=zh KB3;replace NP3:=zh NP3;replace OW3:=zh OW3;replace E3:=zh E3;replace D33:=zh D33;replace D34:=zh D34;replace D35:=zh D35;clear hE b15 o15 o2 aPB a3B a4B a5B f0 f1 f2 f3 f4 f5 f6 KA KB E b60 b61 b62 b63 b64 b65 b66 b6f n2 ltB2 HM dk3 dk4 dk5 o5 o8 o11 e5 e8 e11 y14 d0 d1 d3 d4 d6 d7 d9 d10 d12 d13 d15;have B3:=KA3.out.cell (j:=3) rfl;have ltA3:=KA3.out.lt;go_wp2;go_loopw [25] (fun i wr => ∃ (k:Nat),k<=m.Programs.length/\i = .int .i64 k/\Mx G3 W3 wr/\Dk W3.heap.size w.heap.size wr ga3 G3 m.Programs k) (fun i _=>m.Programs.length - (intOf i).toNat)
  case atStart=>exact⟨0,Nat.zero_le _,rfl,Mx.ofExt (zr _),D33.out⟩
  case round =>
   obtain⟨k,hk,rfl,hch,hdc⟩:=hrel;have HC:=zh hch;have HD:=zh hdc;clear hch hdc;have lWr:W3.heap.size<=wr.heap.size:=HC.out.2.1;have EW:=zh (HC.out.ext E3.out (fun x hx=>by have:=gl3.out x hx;omega))
   have BA:=HC.out.bk BB3.out nB3;have KAx:=HC.out.bk KA3.out (fun hx=>by have:=gl3.out _ hx;omega)
   have ltB3:=BA.lt;have ltA3:=KAx.lt;have bj:=BA.cell (j:=3) rfl;have aj:=KAx.cell (j:=3) rfl;replace BA:=zh BA;replace KAx:=zh KAx;by_cases hkt:k < m.Programs.length
   ·obtain⟨b,o,x,wa,wc,rfl,hb,hx,hp0,hs0,hl0⟩:=h3.out.atList k hkt;have hwl:x.length<=1048576:=by
     have:=zEw hx.out
     have h2:x.length<=GT.tot x:=zB0;omega
    obtain⟨g,rfl,rfl,hg1,hdc⟩:=HD.out.get hx.out;replace HD:=zh hdc;have hgz:=hdc.fz;clear hdc;have hgW:=hgz.lt;go_upto_region 5 with (fail)
    refine zAk rfl 10 [(28,[28]),(29,[29]),(30,[30]),(31,[31]),(32,[32]),(33,[33]),(34,[34]),(35,[35]),(36,[36]),(37,[37])]
     (fun i vs u F=>match i,vs with
      | 0,[y]=>y = .pointer (some ⟨B,3,none⟩)
      | 1,[y]=>y = .slice (some ⟨g,0,none⟩) m.Programs.length m.Programs.length
      | 2,[y]=>y = .int .i64 k
      | 3,[y]=>y = .pointer (some ⟨w.heap.size,3,none⟩)
      | 4,[y]=>y = .slice (some ⟨b,o,none⟩) m.Programs.length c3
      | 5,[y]=>y = .int .i64 k
      | 6,[y]=>y = .pointer (some ⟨b,o+k,none⟩)
      | 7,[y]=>y = .slice wa x.length wc
      | 8,[y]=>Sl u y x F
      | 9,[y]=>y = .pointer (some ⟨g,k,none⟩)
      | _,_=>False) (by decide +kernel) ?_ ?_
    ·intro i hi oo ho U u F hE hd hap;have e0:=(zA0 hE ltB3).trans bj;have e1:=(zA0 hE ltA3).trans aj;have e2:=(zA0 hE (zl hb EW.out.sz)).trans ((zA0 EW.out hb).trans hp0);rcases(by omega:i=0\/i=1\/i=2\/i=3\/i=4\/i=5\/i=6\/i=7\/i=8\/i=9) with rfl|rfl|rfl|rfl|rfl|rfl|rfl|rfl|rfl|rfl
     ·cases ho;simp only[fr];intro K hK;go_wp2;exact zk hK _ (fun _ _=>rfl)
     ·cases ho;simp only[fr];obtain⟨⟨d0,-⟩,-⟩:=fa [0] (by decide +kernel) hd
      simp only[fu] at d0;try simp only[d0]
      clear d0;intro K hK;go_wp2;exact zk hK _ (fun _ _=>rfl)
     iterate 2 (·cases ho;simp only[fr];intro K hK;go_wp2;exact zk hK _ (fun _ _=>rfl))
     ·cases ho;simp only[fr];obtain⟨⟨d3,-⟩,-⟩:=fa [3] (by decide +kernel) hd
      simp only[fu] at d3;try simp only[d3]
      clear d3;intro K hK;go_wp2;exact zk hK _ (fun _ _=>rfl)
     ·cases ho;simp only[fr];intro K hK;go_wp2;exact zk hK _ (fun _ _=>rfl)
     ·cases ho;simp only[fr];obtain⟨⟨d3,-⟩,⟨d4,-⟩,⟨d5,-⟩,-⟩:=fa [3,4,5] (by decide +kernel) hd
      simp only[fu] at d3 d4 d5;try simp only[d3,d4,d5]
      clear d3 d4 d5;intro K hK;go_wp2;exact zk hK _ (fun _ _=>rfl)
     ·cases ho;simp only[fr];obtain⟨⟨d3,-⟩,⟨d4,-⟩,⟨d5,-⟩,⟨d6,-⟩,-⟩:=fa [3,4,5,6] (by decide +kernel) hd
      simp only[fu] at d3 d4 d5 d6;try simp only[d3,d4,d5,d6]
      clear d3 d4 d5 d6;intro K hK;go_wp2;exact zk hK _ (fun _ _=>rfl)
     ·cases ho;simp only[fr];obtain⟨⟨d3,-⟩,⟨d4,-⟩,⟨d5,-⟩,⟨d6,-⟩,⟨d7,-⟩,-⟩:=fa [3,4,5,6,7] (by decide +kernel) hd
      simp only[fu] at d3 d4 d5 d6 d7;try simp only[d3,d4,d5,d6,d7]
      intro K hK;obtain⟨G,hG⟩:=hs0.out.ext (EW.out.tr hE);go_wp2_with (go_at_call 56;refine(zF2 _ _ _ _ hG (by omega)).mono ?_;rintro e w' ⟨v',F',rfl,ho',hF',_,ex1⟩;obtain⟨F2,s2,ow2⟩:=ho'.flat)
      exact hK _ F2 _ ex1 (fun _ h=>s2.ext h) ow2
     ·cases ho;simp only[fr];obtain⟨⟨d0,-⟩,⟨d1,-⟩,⟨d2,-⟩,⟨d3,-⟩,⟨d4,-⟩,⟨d5,-⟩,⟨d6,-⟩,⟨d7,-⟩,-⟩:=fa [0,1,2,3,4,5,6,7] (by decide +kernel) hd
      simp only[fu] at d0 d1 d2 d3 d4 d5 d6 d7;try simp only[d0,d1,d2,d3,d4,d5,d6,d7]
      clear d0 d1 d2 d3 d4 d5 d6 d7;intro K hK;go_wp2;exact zk hK _ (fun _ _=>rfl)
    ·intro oo ho U u2 F hE hφ hap;cases ho;simp only[fr];obtain⟨⟨d0,-⟩,⟨d1,-⟩,⟨d2,-⟩,⟨d3,-⟩,⟨d4,-⟩,⟨d5,-⟩,⟨d6,-⟩,⟨d7,-⟩,⟨d8,o8⟩,⟨d9,-⟩,-⟩:=fb [0,1,2,3,4,5,6,7,8,9] (by decide +kernel) hφ
     simp only[fu] at d0 d1 d2 d3 d4 d5 d6 d7 d8 d9;try simp only[d0,d1,d2,d3,d4,d5,d6,d7,d9]
     obtain⟨cs9,F9,he9,ha9,hF9⟩:=(HD.out.ext hE).elem hx.out;obtain⟨v9,rfl,hs9⟩:=he9;have c9:=ha9 0 _ rfl;simp only[GT.sz,Nat.add_zero,Nat.mul_one] at c9;have f9:u2.frozen? ⟨g,k,none⟩=false:=by
      obtain⟨cs,T,hb⟩:=hgz.ext hE;exact hb.fz _
     have hgn:g ∉ F 8:=fun hm=>by have:=(o8.2 g hm).1;omega
     obtain⟨p9,q9,e9,_⟩:=id d8;rw[e9] at d8;simp only[e9];clear d0 d1 d2 d3 d4 d5 d6 d7 d9 hφ hap e9 ha9;have hgu:=zl hgW hE.sz;go_wp2;have hs5:=d8.set (p:=⟨g,k,none⟩) hgn (.slice p9 x.length q9);have hCg:Chg g (k*1) 1 [] wr (u2.setCell ⟨g,k,none⟩ (.slice p9 x.length q9)):=(Chg.ofExt hE hgW).set ⟨by omega,by omega⟩ _
     have hat:At (u2.setCell ⟨g,k,none⟩ (.slice p9 x.length q9)) g (k*1) [.slice p9 x.length q9]:=fun j y hj=>by
      match j,hj with
      | 0,hj=>cases hj;rw[Nat.mul_one];exact zAu c9
     have hD:=HD.out.step (by omega) lWr hx.out hCg ⟨_,rfl,hs5⟩ hat (o8.set _ _)
     exact⟨⟨k+1,by omega,by go_num,HC.out.tr (Mx.ofChg hCg),.inr ⟨g,rfl,rfl,hg1,hD⟩⟩,by simp[intOf];omega⟩
   ·obtain rfl:k=m.Programs.length:=by omega
    obtain⟨F3,S3,O3,Z3⟩:=HD.out.fin (L':=w0.heap.size) rfl (fun x hx=>(gl3.out x hx).1) (by omega) (by unfold maxLen;omega)
    have nB3F:zAw F3 G3->True:=fun _=>trivial
    have NPx:=HC.out.enc NP3.out aP3;have KBx:=HC.out.bk KB3.out (fun hx=>by have:=gl3.out _ hx;omega)
    have Dx4:=(D34.out.mx HC.out a34.symm (fun x hx=>by have:=gl3.out x hx;omega)).base (L':=wr.heap.size)
    have Dx5:=(D35.out.mx HC.out a35.symm (fun x hx=>by have:=gl3.out x hx;omega)).base (L':=wr.heap.size)
    have OX:Own w0.heap.size wr (FP++F3):=(HC.out.owns OW3.out).join O3 (fun y h1 h2=>by
     rcases Z3 y h2 with h3|h3
     ·exact(List.mem_append.1 (by simpa using h1:y∈FP++([]))).elim (fun h=>aP3 y h h3) (fun h=>by simp at h)
     ·have:=OW3.out.lt h1;omega)
    have b34:zAw F3 G4:=fun y h1 h2=>by
     rcases Z3 y h1 with h3|h3
     ·exact a34 y h3 h2
     ·have:=gl4.out y h2;omega
    have b35:zAw F3 G5:=fun y h1 h2=>by
     rcases Z3 y h1 with h3|h3
     ·exact a35 y h3 h2
     ·have:=gl5.out y h2;omega
    have aj2:=KAx.out.cell (j:=4) rfl;go_wp2;refine zA2 (fun W=>Ext w W/\B < W.heap.size/\u.heap.size<=W.heap.size/\Bk W B [.slice p0 m.Plan.Parts.length q0,.slice p1 m.Plan.Channels.length q1,.slice p2 m.Plan.Slots.length q2,.slice ga3 m.Programs.length m.Programs.length,.slice ga4 m.Cores.length m.Cores.length,.slice ga5 m.Holds.length m.Holds.length,.int .i64 m.Tick] 34/\GT.enc W [.slice p0 m.Plan.Parts.length q0,.slice p1 m.Plan.Channels.length q1,.slice p2 m.Plan.Slots.length q2] m.Plan FP/\Sl W (.slice ga3 m.Programs.length m.Programs.length) m.Programs F3/\Dk W.heap.size w.heap.size W ga4 G4 m.Cores 0/\Dk W.heap.size w.heap.size W ga5 G5 m.Holds 0/\Own w0.heap.size W (FP++F3)/\Bk W w.heap.size [.slice a0 m.Plan.Parts.length c0,.slice a1 m.Plan.Channels.length c1,.slice a2 m.Plan.Slots.length c2,.slice a3 m.Programs.length c3,.slice a4 m.Cores.length c4,.slice a5 m.Holds.length c5,.int .i64 m.Tick] 34/\Bk W (w.heap.size+1) [.slice none 0 0,.slice none 0 0,.slice none 0 0,.slice none 0 0,.slice none 0 0,.slice none 0 0,.int .i64 0] 34) ⟨EW.out,by omega,by omega,BA.out,NPx,S3,Dx4,Dx5,OX,KAx.out,KBx⟩ ?_
    rintro W4 ⟨E4,lt4,lW4,BB4,NP4,S43,D44,D45,OW4,KA4,KB4⟩;replace BB4:=zh BB4;replace KA4:=zh KA4;replace KB4:=zh KB4;replace NP4:=zh NP4;replace OW4:=zh OW4;replace E4:=zh E4;replace S43:=zh S43;replace D44:=zh D44;replace D45:=zh D45;clear HC HD EW BA KAx bj aj aj2 ltA3 ltB3 lWr S3 O3 Z3 NPx OX KBx E3 lt3 lW3 BB3 NP3 OW3 KA3 KB3  Dx4 D34 Dx5 D35;go_loopw [42] (fun i wr => ∃ (k:Nat),k<=m.Cores.length/\i = .int .i64 k/\Mx G4 W4 wr/\Dk W4.heap.size w.heap.size wr ga4 G4 m.Cores k) (fun i _=>m.Cores.length - (intOf i).toNat)
    case atStart=>exact⟨0,Nat.zero_le _,rfl,Mx.ofExt (zr _),D44.out⟩
    case round =>
     obtain⟨k,hk,rfl,hch,hdc⟩:=hrel;have HC:=zh hch;have HD:=zh hdc;clear hch hdc;have lWr:W4.heap.size<=wr.heap.size:=HC.out.2.1;have EW:=zh (HC.out.ext E4.out (fun x hx=>by have:=gl4.out x hx;omega))
     have BA:=HC.out.bk BB4.out nB4;have KAx:=HC.out.bk KA4.out (fun hx=>by have:=gl4.out _ hx;omega)
     have ltB3:=BA.lt;have ltA3:=KAx.lt;have bj:=BA.cell (j:=4) rfl;have aj:=KAx.cell (j:=4) rfl;replace BA:=zh BA;replace KAx:=zh KAx;by_cases hkt:k < m.Cores.length
     ·obtain⟨b,o,x,wa,wc,rfl,hb,hx,hp0,hp1,hp2,hr1,hs0,hl0,hv⟩:=h4.out.atCore k hkt;have hwl:x.Cells.length<=1048576:=by
       have:=zEw hx.out
       have h2:x.Cells.length<=GT.tot x.Cells:=zB0;have h3:GT.tot x=GT.tot x.Cells+GT.tot x.At+GT.tot x.Stopped:=rfl;omega
      obtain⟨g,rfl,rfl,hg1,hdc⟩:=HD.out.get hx.out;replace HD:=zh hdc;have hgz:=hdc.fz;clear hdc;have hgW:=hgz.lt;go_upto_region 10 with (fail)
      refine zAk rfl 10 [(45,[45]),(46,[46]),(47,[47]),(48,[48]),(49,[49]),(50,[50]),(51,[51]),(52,[52]),(53,[53]),(54,[54])]
       (fun i vs u F=>match i,vs with
        | 0,[y]=>y = .pointer (some ⟨B,4,none⟩)
        | 1,[y]=>y = .slice (some ⟨g,0,none⟩) m.Cores.length m.Cores.length
        | 2,[y]=>y = .int .i64 k
        | 3,[y]=>y = .pointer (some ⟨w.heap.size,4,none⟩)
        | 4,[y]=>y = .slice (some ⟨b,o,none⟩) m.Cores.length c4
        | 5,[y]=>y = .int .i64 k
        | 6,[y]=>y = .pointer (some ⟨b,o+k*3,none⟩)
        | 7,[y]=>y = .agg #[.slice wa x.Cells.length wc,.int .i64 x.At,.bool x.Stopped]
        | 8,[y] => ∃ p q,y = .agg #[.slice p x.Cells.length q,.int .i64 x.At,.bool x.Stopped]/\Sl u (.slice p x.Cells.length q) x.Cells F
        | 9,[y]=>y = .pointer (some ⟨g,k*3,none⟩)
        | _,_=>False) (by decide +kernel) ?_ ?_
      ·intro i hi oo ho U u F hE hd hap;have e0:=(zA0 hE ltB3).trans bj;have e1:=(zA0 hE ltA3).trans aj;have e2:=(zA0 hE (zl hb EW.out.sz)).trans ((zA0 EW.out hb).trans hp0);have e3:=(zA0 hE (zl hb EW.out.sz)).trans ((zA0 EW.out hb).trans hp1);have e4:=(zA0 hE (zl hb EW.out.sz)).trans ((zA0 EW.out hb).trans hp2);rcases(by omega:i=0\/i=1\/i=2\/i=3\/i=4\/i=5\/i=6\/i=7\/i=8\/i=9) with rfl|rfl|rfl|rfl|rfl|rfl|rfl|rfl|rfl|rfl
       ·cases ho;simp only[fr];intro K hK;go_wp2;exact zk hK _ (fun _ _=>rfl)
       ·cases ho;simp only[fr];obtain⟨⟨d0,-⟩,-⟩:=fa [0] (by decide +kernel) hd
        simp only[fu] at d0;try simp only[d0]
        clear d0;intro K hK;go_wp2;exact zk hK _ (fun _ _=>rfl)
       iterate 2 (·cases ho;simp only[fr];intro K hK;go_wp2;exact zk hK _ (fun _ _=>rfl))
       ·cases ho;simp only[fr];obtain⟨⟨d3,-⟩,-⟩:=fa [3] (by decide +kernel) hd
        simp only[fu] at d3;try simp only[d3]
        clear d3;intro K hK;go_wp2;exact zk hK _ (fun _ _=>rfl)
       ·cases ho;simp only[fr];intro K hK;go_wp2;exact zk hK _ (fun _ _=>rfl)
       ·cases ho;simp only[fr];obtain⟨⟨d3,-⟩,⟨d4,-⟩,⟨d5,-⟩,-⟩:=fa [3,4,5] (by decide +kernel) hd
        simp only[fu] at d3 d4 d5;try simp only[d3,d4,d5]
        clear d3 d4 d5;intro K hK;go_wp2;exact zk hK _ (fun _ _=>rfl)
       ·cases ho;simp only[fr];obtain⟨⟨d3,-⟩,⟨d4,-⟩,⟨d5,-⟩,⟨d6,-⟩,-⟩:=fa [3,4,5,6] (by decide +kernel) hd
        simp only[fu] at d3 d4 d5 d6;try simp only[d3,d4,d5,d6]
        clear d3 d4 d5 d6;intro K hK;go_wp2;exact zk hK _ (fun _ _=>rfl)
       ·cases ho;simp only[fr];obtain⟨⟨d3,-⟩,⟨d4,-⟩,⟨d5,-⟩,⟨d6,-⟩,⟨d7,-⟩,-⟩:=fa [3,4,5,6,7] (by decide +kernel) hd
        simp only[fu] at d3 d4 d5 d6 d7;try simp only[d3,d4,d5,d6,d7]
        intro K hK;go_wp2_with (go_at_call 41;refine(zF3 _ x _ (hv.out.ext (EW.out.tr hE)) (by omega)).mono ?_;rintro e w' ⟨p9,q9,rfl,⟨F2,s2,ow2⟩,ex1⟩)
        exact hK _ F2 _ ex1 (fun _ h=>⟨_,_,rfl,s2.ext h⟩) ow2
       ·cases ho;simp only[fr];obtain⟨⟨d0,-⟩,⟨d1,-⟩,⟨d2,-⟩,⟨d3,-⟩,⟨d4,-⟩,⟨d5,-⟩,⟨d6,-⟩,⟨d7,-⟩,-⟩:=fa [0,1,2,3,4,5,6,7] (by decide +kernel) hd
        simp only[fu] at d0 d1 d2 d3 d4 d5 d6 d7;try simp only[d0,d1,d2,d3,d4,d5,d6,d7]
        clear d0 d1 d2 d3 d4 d5 d6 d7;intro K hK;go_wp2;exact zk hK _ (fun _ _=>rfl)
      ·intro oo ho U u2 F hE hφ hap;cases ho;simp only[fr];obtain⟨⟨d0,-⟩,⟨d1,-⟩,⟨d2,-⟩,⟨d3,-⟩,⟨d4,-⟩,⟨d5,-⟩,⟨d6,-⟩,⟨d7,-⟩,⟨d8,o8⟩,⟨d9,-⟩,-⟩:=fb [0,1,2,3,4,5,6,7,8,9] (by decide +kernel) hφ
       simp only[fu] at d0 d1 d2 d3 d4 d5 d6 d7 d8 d9;try simp only[d0,d1,d2,d3,d4,d5,d6,d7,d9]
       obtain⟨cs9,F9,he9,ha9,hF9⟩:=(HD.out.ext hE).elem hx.out;obtain⟨v9,rfl,hs9,_⟩:=he9;have c9:=ha9 0 _ rfl;have c8:=ha9 1 _ rfl;have c7:=ha9 2 _ rfl;simp only[GT.sz,Nat.add_zero] at c9 c8 c7;have f9:∀ j,u2.frozen? ⟨g,j,none⟩=false:=by
        obtain⟨cs,T,hb⟩:=hgz.ext hE;exact fun j=>hb.fz j
       have hgn:g ∉ F 8:=fun hm=>by have:=(o8.2 g hm).1;omega
       obtain⟨p9,q9,e9,s9⟩:=d8;simp only[e9];clear d0 d1 d2 d3 d4 d5 d6 d7 d9 hφ hap e9 ha9;have hgu:=zl hgW hE.sz;go_wp2;have hs5:=((s9.set (p:=⟨g,k*3,none⟩) hgn (.slice p9 x.Cells.length q9)).set (p:=⟨g,k*3+1,none⟩) hgn (.int .i64 x.At)).set (p:=⟨g,k*3+2,none⟩) hgn (.bool x.Stopped);have hCg:Chg g (k*3) 3 [] wr (((u2.setCell ⟨g,k*3,none⟩ (.slice p9 x.Cells.length q9)).setCell ⟨g,k*3+1,none⟩ (.int .i64 x.At)).setCell ⟨g,k*3+2,none⟩ (.bool x.Stopped)):=(((Chg.ofExt hE hgW).set ⟨by omega,by omega⟩ _).set ⟨by omega,by omega⟩ _).set ⟨by omega,by omega⟩ _
       have hat:At (((u2.setCell ⟨g,k*3,none⟩ (.slice p9 x.Cells.length q9)).setCell ⟨g,k*3+1,none⟩ (.int .i64 x.At)).setCell ⟨g,k*3+2,none⟩ (.bool x.Stopped)) g (k*3) [.slice p9 x.Cells.length q9,.int .i64 x.At,.bool x.Stopped]:=fun j y hj=>by
        match j,hj with
        | 0,hj=>cases hj;exact(zA6 (by omega)).trans ((zA6 (by omega)).trans (zAu c9))
        | 1,hj=>cases hj;exact(zA6 (by omega)).trans (zAu ((zA6 (by omega)).trans c8))
        | 2,hj=>cases hj;exact zAu ((zA6 (by omega)).trans ((zA6 (by omega)).trans c7))
       have hD:=HD.out.step (by omega) lWr hx.out hCg ⟨_,rfl,hs5,hr1⟩ hat (((o8.set _ _).set _ _).set _ _)
       exact⟨⟨k+1,by omega,by go_num,HC.out.tr (Mx.ofChg hCg),.inr ⟨g,rfl,rfl,hg1,hD⟩⟩,by simp[intOf];omega⟩
     ·obtain rfl:k=m.Cores.length:=by omega
      obtain⟨F4,S4,O4,Z4⟩:=HD.out.fin (L':=w0.heap.size) rfl (fun x hx=>(gl4.out x hx).1) (by omega) (by unfold maxLen;omega)
      have nB4F:zAw F4 G4->True:=fun _=>trivial
      have NPx:=HC.out.enc NP4.out aP4;have KBx:=HC.out.bk KB4.out (fun hx=>by have:=gl4.out _ hx;omega)
      have Dx5:=(D45.out.mx HC.out a45.symm (fun x hx=>by have:=gl4.out x hx;omega)).base (L':=wr.heap.size)
      have Sx3:=HC.out.sl S43.out (fun y h1 h2=>b34 y h1 h2)
      have OX:Own w0.heap.size wr (FP++F3++F4):=(HC.out.owns OW4.out).join O4 (fun y h1 h2=>by
       rcases Z4 y h2 with h3|h3
       ·exact(List.mem_append.1 (by simpa using h1:y∈FP++(F3 ++ []))).elim (fun h=>aP4 y h h3) (fun h=>b34 y (by simpa using h) h3)
       ·have:=OW4.out.lt h1;omega)
      have b45:zAw F4 G5:=fun y h1 h2=>by
       rcases Z4 y h1 with h3|h3
       ·exact a45 y h3 h2
       ·have:=gl5.out y h2;omega
      have aj2:=KAx.out.cell (j:=5) rfl;go_wp2;refine zA2 (fun W=>Ext w W/\B < W.heap.size/\u.heap.size<=W.heap.size/\Bk W B [.slice p0 m.Plan.Parts.length q0,.slice p1 m.Plan.Channels.length q1,.slice p2 m.Plan.Slots.length q2,.slice ga3 m.Programs.length m.Programs.length,.slice ga4 m.Cores.length m.Cores.length,.slice ga5 m.Holds.length m.Holds.length,.int .i64 m.Tick] 34/\GT.enc W [.slice p0 m.Plan.Parts.length q0,.slice p1 m.Plan.Channels.length q1,.slice p2 m.Plan.Slots.length q2] m.Plan FP/\Sl W (.slice ga3 m.Programs.length m.Programs.length) m.Programs F3/\Sl W (.slice ga4 m.Cores.length m.Cores.length) m.Cores F4/\Dk W.heap.size w.heap.size W ga5 G5 m.Holds 0/\Own w0.heap.size W (FP++F3++F4)/\Bk W w.heap.size [.slice a0 m.Plan.Parts.length c0,.slice a1 m.Plan.Channels.length c1,.slice a2 m.Plan.Slots.length c2,.slice a3 m.Programs.length c3,.slice a4 m.Cores.length c4,.slice a5 m.Holds.length c5,.int .i64 m.Tick] 34/\Bk W (w.heap.size+1) [.slice none 0 0,.slice none 0 0,.slice none 0 0,.slice none 0 0,.slice none 0 0,.slice none 0 0,.int .i64 0] 34) ⟨EW.out,by omega,by omega,BA.out,NPx,Sx3,S4,Dx5,OX,KAx.out,KBx⟩ ?_
      rintro W5 ⟨E5,lt5,lW5,BB5,NP5,S53,S54,D55,OW5,KA5,KB5⟩;replace BB5:=zh BB5;replace KA5:=zh KA5;replace KB5:=zh KB5;replace NP5:=zh NP5;replace OW5:=zh OW5;replace E5:=zh E5;replace S53:=zh S53;replace S54:=zh S54;replace D55:=zh D55;clear HC HD EW BA KAx bj aj aj2 ltA3 ltB3 lWr S4 O4 Z4 NPx OX KBx E4 lt4 lW4 BB4 NP4 OW4 KA4 KB4 Sx3 S43 Dx5 D45;go_loopw [59] (fun i wr => ∃ (k:Nat),k<=m.Holds.length/\i = .int .i64 k/\Mx G5 W5 wr/\Dk W5.heap.size w.heap.size wr ga5 G5 m.Holds k) (fun i _=>m.Holds.length - (intOf i).toNat)
      case atStart=>exact⟨0,Nat.zero_le _,rfl,Mx.ofExt (zr _),D55.out⟩
      case round =>
       obtain⟨k,hk,rfl,hch,hdc⟩:=hrel;have HC:=zh hch;have HD:=zh hdc;clear hch hdc;have lWr:W5.heap.size<=wr.heap.size:=HC.out.2.1;have EW:=zh (HC.out.ext E5.out (fun x hx=>by have:=gl5.out x hx;omega))
       have BA:=HC.out.bk BB5.out nB5;have KAx:=HC.out.bk KA5.out (fun hx=>by have:=gl5.out _ hx;omega)
       have ltB3:=BA.lt;have ltA3:=KAx.lt;have bj:=BA.cell (j:=5) rfl;have aj:=KAx.cell (j:=5) rfl;replace BA:=zh BA;replace KAx:=zh KAx;by_cases hkt:k < m.Holds.length
       ·obtain⟨b,o,x,wa,wc,rfl,hb,hx,hp0,hs0,hl0,hv⟩:=h5.out.atHold k hkt;have hwl:x.Lst.length<=1048576:=by
         have:=zEw hx.out
         have h2:x.Lst.length<=GT.tot x.Lst:=zB0;have h3:GT.tot x=GT.tot x.Lst:=rfl;omega
        obtain⟨g,rfl,rfl,hg1,hdc⟩:=HD.out.get hx.out;replace HD:=zh hdc;have hgz:=hdc.fz;clear hdc;have hgW:=hgz.lt;go_upto_region 15 with (fail)
        refine zAk rfl 12 [(62,[62]),(63,[63]),(64,[64]),(65,[65]),(66,[66]),(67,[67]),(68,[68]),(69,[69]),(70,[70]),(71,[71]),(72,[72]),(73,[73])]
         (fun i vs u F=>match i,vs with
          | 0,[y]=>y = .pointer (some ⟨B,5,none⟩)
          | 1,[y]=>y = .slice (some ⟨g,0,none⟩) m.Holds.length m.Holds.length
          | 2,[y]=>y = .int .i64 k
          | 3,[y]=>y = .pointer (some ⟨w.heap.size,5,none⟩)
          | 4,[y]=>y = .slice (some ⟨b,o,none⟩) m.Holds.length c5
          | 5,[y]=>y = .int .i64 k
          | 6,[y]=>y = .pointer (some ⟨b,o+k,none⟩)
          | 7,[y]=>y = .pointer (some ⟨b,o+k,none⟩)
          | 8,[y]=>y = .slice wa x.Lst.length wc
          | 9,[y]=>Sl u y x.Lst F
          | 10,[y]=>y = .pointer (some ⟨g,k,none⟩)
          | 11,[y]=>y = .pointer (some ⟨g,k,none⟩)
          | _,_=>False) (by decide +kernel) ?_ ?_
        ·intro i hi oo ho U u F hE hd hap;have e0:=(zA0 hE ltB3).trans bj;have e1:=(zA0 hE ltA3).trans aj;have e2:=(zA0 hE (zl hb EW.out.sz)).trans ((zA0 EW.out hb).trans hp0);rcases(by omega:i=0\/i=1\/i=2\/i=3\/i=4\/i=5\/i=6\/i=7\/i=8\/i=9\/i=10\/i=11) with rfl|rfl|rfl|rfl|rfl|rfl|rfl|rfl|rfl|rfl|rfl|rfl
         ·cases ho;simp only[fr];intro K hK;go_wp2;exact zk hK _ (fun _ _=>rfl)
         ·cases ho;simp only[fr];obtain⟨⟨d0,-⟩,-⟩:=fa [0] (by decide +kernel) hd
          simp only[fu] at d0;try simp only[d0]
          clear d0;intro K hK;go_wp2;exact zk hK _ (fun _ _=>rfl)
         iterate 2 (·cases ho;simp only[fr];intro K hK;go_wp2;exact zk hK _ (fun _ _=>rfl))
         ·cases ho;simp only[fr];obtain⟨⟨d3,-⟩,-⟩:=fa [3] (by decide +kernel) hd
          simp only[fu] at d3;try simp only[d3]
          clear d3;intro K hK;go_wp2;exact zk hK _ (fun _ _=>rfl)
         ·cases ho;simp only[fr];intro K hK;go_wp2;exact zk hK _ (fun _ _=>rfl)
         ·cases ho;simp only[fr];obtain⟨⟨d3,-⟩,⟨d4,-⟩,⟨d5,-⟩,-⟩:=fa [3,4,5] (by decide +kernel) hd
          simp only[fu] at d3 d4 d5;try simp only[d3,d4,d5]
          clear d3 d4 d5;intro K hK;go_wp2;exact zk hK _ (fun _ _=>rfl)
         ·cases ho;simp only[fr];obtain⟨⟨d3,-⟩,⟨d4,-⟩,⟨d5,-⟩,⟨d6,-⟩,-⟩:=fa [3,4,5,6] (by decide +kernel) hd
          simp only[fu] at d3 d4 d5 d6;try simp only[d3,d4,d5,d6]
          clear d3 d4 d5 d6;intro K hK;go_wp2;exact zk hK _ (fun _ _=>rfl)
         ·cases ho;simp only[fr];obtain⟨⟨d3,-⟩,⟨d4,-⟩,⟨d5,-⟩,⟨d6,-⟩,⟨d7,-⟩,-⟩:=fa [3,4,5,6,7] (by decide +kernel) hd
          simp only[fu] at d3 d4 d5 d6 d7;try simp only[d3,d4,d5,d6,d7]
          clear d3 d4 d5 d6 d7;intro K hK;go_wp2;exact zk hK _ (fun _ _=>rfl)
         ·cases ho;simp only[fr];obtain⟨⟨d3,-⟩,⟨d4,-⟩,⟨d5,-⟩,⟨d6,-⟩,⟨d7,-⟩,⟨d8,-⟩,-⟩:=fa [3,4,5,6,7,8] (by decide +kernel) hd
          simp only[fu] at d3 d4 d5 d6 d7 d8;try simp only[d3,d4,d5,d6,d7,d8]
          intro K hK;go_wp2_with (go_at_call 57;refine(zB4 _ x.Lst _ (hs0.out.ext (EW.out.tr hE)) (by omega)).mono ?_;rintro e w' ⟨v',rfl,⟨F2,s2,ow2⟩,ex1⟩)
          exact hK _ F2 _ ex1 (fun _ h=>s2.ext h) ow2
         ·cases ho;simp only[fr];obtain⟨⟨d0,-⟩,⟨d1,-⟩,⟨d2,-⟩,⟨d3,-⟩,⟨d4,-⟩,⟨d5,-⟩,⟨d6,-⟩,⟨d7,-⟩,⟨d8,-⟩,-⟩:=fa [0,1,2,3,4,5,6,7,8] (by decide +kernel) hd
          simp only[fu] at d0 d1 d2 d3 d4 d5 d6 d7 d8;try simp only[d0,d1,d2,d3,d4,d5,d6,d7,d8]
          clear d0 d1 d2 d3 d4 d5 d6 d7 d8;intro K hK;go_wp2;exact zk hK _ (fun _ _=>rfl)
         ·cases ho;simp only[fr];obtain⟨⟨d0,-⟩,⟨d1,-⟩,⟨d2,-⟩,⟨d3,-⟩,⟨d4,-⟩,⟨d5,-⟩,⟨d6,-⟩,⟨d7,-⟩,⟨d8,-⟩,⟨d10,-⟩,-⟩:=fa [0,1,2,3,4,5,6,7,8,10] (by decide +kernel) hd
          simp only[fu] at d0 d1 d2 d3 d4 d5 d6 d7 d8 d10;try simp only[d0,d1,d2,d3,d4,d5,d6,d7,d8,d10]
          clear d0 d1 d2 d3 d4 d5 d6 d7 d8 d10;intro K hK;go_wp2;exact zk hK _ (fun _ _=>rfl)
        ·intro oo ho U u2 F hE hφ hap;cases ho;simp only[fr];obtain⟨⟨d0,-⟩,⟨d1,-⟩,⟨d2,-⟩,⟨d3,-⟩,⟨d4,-⟩,⟨d5,-⟩,⟨d6,-⟩,⟨d7,-⟩,⟨d8,-⟩,⟨d9,o9⟩,⟨d10,-⟩,⟨d11,-⟩,-⟩:=fb [0,1,2,3,4,5,6,7,8,9,10,11] (by decide +kernel) hφ
         simp only[fu] at d0 d1 d2 d3 d4 d5 d6 d7 d8 d9 d10 d11;try simp only[d0,d1,d2,d3,d4,d5,d6,d7,d8,d10,d11]
         obtain⟨cs9,F9,he9,ha9,hF9⟩:=(HD.out.ext hE).elem hx.out;obtain⟨v9,rfl,hs9⟩:=he9;have c9:=ha9 0 _ rfl;simp only[GT.sz,Nat.add_zero,Nat.mul_one] at c9;have f9:u2.frozen? ⟨g,k,none⟩=false:=by
          obtain⟨cs,T,hb⟩:=hgz.ext hE;exact hb.fz _
         have hgn:g ∉ F 9:=fun hm=>by have:=(o9.2 g hm).1;omega
         obtain⟨p9,q9,e9,_⟩:=id d9;rw[e9] at d9;simp only[e9];clear d0 d1 d2 d3 d4 d5 d6 d7 d8 d10 d11 hφ hap e9 ha9;have hgu:=zl hgW hE.sz;go_wp2;have hs5:=d9.set (p:=⟨g,k,none⟩) hgn (.slice p9 x.Lst.length q9);have hCg:Chg g (k*1) 1 [] wr (u2.setCell ⟨g,k,none⟩ (.slice p9 x.Lst.length q9)):=(Chg.ofExt hE hgW).set ⟨by omega,by omega⟩ _
         have hat:At (u2.setCell ⟨g,k,none⟩ (.slice p9 x.Lst.length q9)) g (k*1) [.slice p9 x.Lst.length q9]:=fun j y hj=>by
          match j,hj with
          | 0,hj=>cases hj;rw[Nat.mul_one];exact zAu c9
         have hD:=HD.out.step (by omega) lWr hx.out hCg ⟨_,rfl,hs5⟩ hat (o9.set _ _)
         exact⟨⟨k+1,by omega,by go_num,HC.out.tr (Mx.ofChg hCg),.inr ⟨g,rfl,rfl,hg1,hD⟩⟩,by simp[intOf];omega⟩
       ·obtain rfl:k=m.Holds.length:=by omega
        obtain⟨F5,S5,O5,Z5⟩:=HD.out.fin (L':=w0.heap.size) rfl (fun x hx=>(gl5.out x hx).1) (by omega) (by unfold maxLen;omega)
        have nB5F:zAw F5 G5->True:=fun _=>trivial
        have NPx:=HC.out.enc NP5.out aP5;have KBx:=HC.out.bk KB5.out (fun hx=>by have:=gl5.out _ hx;omega)
        have Sx3:=HC.out.sl S53.out (fun y h1 h2=>b35 y h1 h2)
        have Sx4:=HC.out.sl S54.out (fun y h1 h2=>b45 y h1 h2)
        have OX:Own w0.heap.size wr (FP++F3++F4++F5):=(HC.out.owns OW5.out).join O5 (fun y h1 h2=>by
         rcases Z5 y h2 with h3|h3
         ·exact(List.mem_append.1 (by simpa using h1:y∈FP++(F3++F4 ++ []))).elim (fun h=>aP5 y h h3) (fun h=>(List.mem_append.1 (by simpa using h:y∈F3++F4)).elim (fun h=>b35 y h h3) (fun h=>b45 y h h3))
         ·have:=OW5.out.lt h1;omega)
        have hc1:=BA.out.cell (j:=0) rfl;have hc2:=BA.out.cell (j:=1) rfl;have hc3:=BA.out.cell (j:=2) rfl;have hc4:=BA.out.cell (j:=3) rfl;have hc5:=BA.out.cell (j:=4) rfl;have hc6:=BA.out.cell (j:=5) rfl;have hc7:=BA.out.cell (j:=6) rfl;obtain⟨z0,z1,z2,z3,z4,z5,z6⟩:=Bk.k7 KBx;have zf:=KBx.fz;have ltZ:=KBx.lt;have hZ:w.heap.size+1 ∉ FP++F3++F4++F5:=fun hm=>by have:=(OX.2 _ hm).1;omega
        have EN:=zh (zGg NPx Sx3 Sx4 S5 rt);replace OX:=zh OX;clear O5 Z5 BA KAx Sx3 Sx4 S5 NPx HC HD KBx;go_wp2;refine bodyPost_ret (v:=.agg #[.slice p0 m.Plan.Parts.length q0,.slice p1 m.Plan.Channels.length q1,.slice p2 m.Plan.Slots.length q2,.slice ga3 m.Programs.length m.Programs.length,.slice ga4 m.Cores.length m.Cores.length,.slice ga5 m.Holds.length m.Holds.length,.int .i64 m.Tick]) (by simp[results,Tryz.results22,go_sem,z0,z1,z2,z3,z4,z5,z6]) rfl ⟨_,rfl,⟨_,_,rfl,zD2 (c:=w.heap.size+1) (o:=0) (ds:=[.slice p0 m.Plan.Parts.length q0,.slice p1 m.Plan.Channels.length q1,.slice p2 m.Plan.Slots.length q2,.slice ga3 m.Programs.length m.Programs.length,.slice ga4 m.Cores.length m.Cores.length,.slice ga5 m.Holds.length m.Holds.length,.int .i64 m.Tick]) EN.out hZ,((OX.out.mono (by omega)).put (b:=w.heap.size+1) (o:=0) (cs:=[.slice p0 m.Plan.Parts.length q0,.slice p1 m.Plan.Channels.length q1,.slice p2 m.Plan.Slots.length q2,.slice ga3 m.Programs.length m.Programs.length,.slice ga4 m.Cores.length m.Cores.length,.slice ga5 m.Holds.length m.Holds.length,.int .i64 m.Tick]))⟩,?_⟩
        exact(((((((EW.out).set (by simp) _).set (by simp) _).set (by simp) _).set (by simp) _).set (by simp) _).set (by simp) _).set (by simp) _
end Sk
