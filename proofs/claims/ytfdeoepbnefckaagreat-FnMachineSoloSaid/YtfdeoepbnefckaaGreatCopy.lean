/- Contracts of functions of the given program. -/
import Derived.Deep.CutRange
import Derived.Test.YtfdeoepbnefckaaGreatBuild
namespace Sk
open Go Go.Proofs Go.RowKit
set_option maxHeartbeats 4000000
set_option maxRecDepth 100000
set_option linter.unusedVariables false
set_option linter.unusedSimpArgs false
def Dc{α:Type}[GT α](L lo:Nat)(w:World)(g:Nat)(xs:List α)(k:Nat):Prop :=
 ∃ F1 F2,Row w g 0 (xs.take k) F1/\Own L w F1/\g ∉ F1/\Row w g (k*GT.sz α) (xs.drop k) F2/\(∀ b∈F2,b < lo)/\Fz w g
theorem Dc.start{α:Type}[GT α]{L lo:Nat}{w:World}{g:Nat}{xs:List α}{F:List Nat}(h:Row w g 0 xs F)(hF:∀ b∈F,b < lo)(hz:Fz w g):Dc L lo w g xs 0 :=
 ⟨[],F,rfl,Own.nil _ _,by simp,by simpa using h,hF,hz⟩
theorem Dc.elem{α:Type}[GT α]{L lo:Nat}{w:World}{g:Nat}{xs:List α}{k:Nat}{x : α}(h:Dc L lo w g xs k)(hx:xs[k]? = some x):∃ cs F,GT.enc w cs x F/\At w g (k*GT.sz α) cs/\∀ b∈F,b < lo:=by
 obtain⟨F1,F2,h1,h2,h3,h4,h5,h6⟩:=h;have hk:=(List.getElem?_eq_some_iff.1 hx).1;have hd:xs.drop k=x::xs.drop (k+1):=by rw[List.drop_eq_getElem_cons hk];congr 1;exact(List.getElem?_eq_some_iff.1 hx).2
 rw[hd] at h4;obtain⟨cs,G1,G2,he,ha,rfl,hr⟩:=h4;exact⟨cs,G1,he,ha,fun b hb=>h5 b (List.mem_append_left _ hb)⟩
theorem Dc.ext{α:Type}[GT α]{L lo:Nat}{w w':World}{g:Nat}{xs:List α}{k:Nat}(h:Dc L lo w g xs k)(he:Ext w w'):Dc L lo w' g xs k:=by
 obtain⟨F1,F2,h1,h2,h3,h4,h5,h6⟩:=h;have hg:=he.block g h6.lt;exact⟨F1,F2,h1.keep hg (fun b hb=>he.block b (h1.inh b hb)),h2.ext he,h3,h4.keep hg (fun b hb=>he.block b (h4.inh b hb)),h5,h6.ext he⟩
theorem Dc.keep{α:Type}[GT α]{L lo:Nat}{w w':World}{g:Nat}{xs:List α}{k:Nat}{b o n:Nat}(h:Dc L lo w g xs k)(hc:Chg b o n [] w w')(hg:b≠g)(hb:b < L)(hl:lo<=b):Dc L lo w' g xs k:=by
 obtain⟨F1,F2,h1,h2,h3,h4,h5,h6⟩:=h;have hg:=hc.keep h6.lt (Ne.symm hg) (by simp)
 exact⟨F1,F2,h1.keep hg (fun x hx=>hc.keep (h1.inh x hx) (fun e=>by have:=(h2.2 x hx).1;omega) (by simp)),h2.chg hc,h3,h4.keep hg (fun x hx=>hc.keep (h4.inh x hx) (fun e=>by have:=h5 x hx;omega) (by simp)),h5,hc.fzk g h6⟩
theorem Dc.step{α:Type}[GT α]{L lo:Nat}{w w':World}{g:Nat}{xs:List α}{k:Nat}{x : α}{cs:List Value}{F:List Nat}(h:Dc L lo w g xs k)(hl:lo<=g)(hL:L<=w.heap.size)(hx:xs[k]? = some x)
  (hc:Chg g (k*GT.sz α) (GT.sz α) [] w w') (he:GT.enc w' cs x F) (ha:At w' g (k*GT.sz α) cs) (ho:Own w.heap.size w' F):Dc L lo w' g xs (k+1):=by
 obtain⟨F1,F2,h1,h2,h3,h4,h5,h6⟩:=h;have hk:=(List.getElem?_eq_some_iff.1 hx).1;have hd:xs.drop k=x::xs.drop (k+1):=by rw[List.drop_eq_getElem_cons hk];congr 1;exact(List.getElem?_eq_some_iff.1 hx).2
 rw[hd] at h4;obtain⟨cs0,G1,G2,he0,ha0,rfl,hr⟩:=h4;have hlt:=h6.lt;have hn:(xs.take k).length=k:=by rw[List.length_take];omega
 refine⟨F1++F,G2,?_,?_,?_,?_,fun b hb=>h5 b (List.mem_append_right _ hb),hc.fzk g h6⟩
 ·rw[zAd hx];refine Row.snoc (h1.move (fun b hb=>hc.keep (h1.inh b hb) (fun e=>h3 (e ▸ hb)) (by simp)) fun j u hj hu=>?_) he ?_
  ·rw[hn] at hj;rw[hc.cell (by left;omega)];exact hu
  ·rw[hn,Nat.zero_add];exact ha
 ·exact(h2.chg hc).join (ho.mono hL) (zAw.far (fun b hb=>h2.lt hb) (fun b hb=>(ho.2 b hb).1))
 ·intro hm;rcases List.mem_append.1 hm with hm|hm
  ·exact h3 hm
  ·have:=(ho.2 g hm).1;omega
 ·have hs:k*GT.sz α + GT.sz α = (k+1)*GT.sz α:=by rw[Nat.succ_mul]
  rw[hs] at hr;refine hr.move (fun b hb=>hc.keep (hr.inh b hb) (fun e=>by have:=h5 b (List.mem_append_right _ hb);omega) (by simp)) fun j u hj hu=>?_
  rw[hc.cell (by right;omega)];exact hu
theorem Dc.fin{α:Type}[GT α]{L L' lo:Nat}{w:World}{g:Nat}{xs:List α}{ga:Option Addr}{n c:Nat}(h:Dc L lo w g xs n)(hn:xs.length=n)(hga:0 < n->ga=some ⟨g,0,none⟩)(hg:0 < n->L'<=g)(hl:L'<=L)(hc:n<=c)(hm:c<=maxLen) :
  ∃ F,Sl w (.slice ga n c) xs F/\Own L' w F/\∀ k∈F,k=g\/L<=k:=by
 subst hn;obtain⟨F1,F2,h1,h2,h3,h4,h5,h6⟩:=h;rw[List.take_of_length_le (Nat.le_refl _)] at h1;by_cases hx:xs = []
 ·subst hx;exact⟨[],⟨_,c,rfl,hc,hm,.inl ⟨rfl,rfl⟩⟩,Own.nil _ _,fun k hk=>by cases hk⟩
 ·have hp:0 < xs.length:=List.length_pos_iff.2 hx;refine⟨g::F1,⟨_,c,rfl,hc,hm,.inr ⟨hx,g,0,F1,hga hp,rfl,h1⟩⟩,⟨List.nodup_cons.2 ⟨h3,h2.1⟩,fun b hb=>?_⟩,fun k hk=>?_⟩
  ·rcases List.mem_cons.1 hb with rfl|hb
   ·exact⟨hg hp,h6⟩
   ·exact⟨Nat.le_trans hl (h2.2 b hb).1,(h2.2 b hb).2⟩
  ·rcases List.mem_cons.1 hk with rfl|hk
   ·exact .inl rfl
   ·exact .inr (h2.2 k hk).1
def Oq{α:Type}[GT α](L:Nat)(w:World)(v:Value)(xs:List α)(F:List Nat)(lo:Nat):Prop :=
 ∃ ga,v = .slice ga xs.length xs.length/\xs.length<=maxLen/\((xs = []/\F = [])\/∃ g FP,ga=some ⟨g,0,none⟩/\F = [g]/\L<=g/\Row w g 0 xs FP/\(∀ b∈FP,b < lo)/\Fz w g)
theorem Oq.ext{α:Type}[GT α]{L lo:Nat}{w w':World}{v:Value}{xs:List α}{F:List Nat}(h:Oq L w v xs F lo)(he:Ext w w'):Oq L w' v xs F lo:=by
 obtain⟨ga,rfl,hm,h⟩:=h;refine⟨ga,rfl,hm,h.imp (fun h=>h) ?_⟩
 rintro⟨g,FP,h1,h2,h3,h4,h5,h6⟩;exact⟨g,FP,h1,h2,h3,h4.keep (he.block g h6.lt) (fun b hb=>he.block b (h4.inh b hb)),h5,h6.ext he⟩
theorem Oq.mono{α:Type}[GT α]{L L' lo:Nat}{w:World}{v:Value}{xs:List α}{F:List Nat}(h:Oq L w v xs F lo)(hl:L'<=L):Oq L' w v xs F lo:=by
 obtain⟨ga,rfl,hm,h⟩:=h;exact⟨ga,rfl,hm,h.imp (fun h=>h) fun⟨g,FP,h1,h2,h3,h4⟩=>⟨g,FP,h1,h2,Nat.le_trans hl h3,h4⟩⟩
theorem Oq.form{α:Type}[GT α]{L lo:Nat}{w:World}{v:Value}{xs:List α}{F:List Nat}(h:Oq L w v xs F lo):∃ a c,v = .slice a xs.length c/\xs.length<=maxLen:=by
 obtain⟨ga,rfl,hm,h⟩:=h;exact⟨_,_,rfl,hm⟩
theorem Oh.oq{α:Type}[GT α]{L lo:Nat}{w:World}{v:Value}{xs:List α}{F:List Nat}(h:Oh L w v xs F)(hF:∀ b∈F,b < lo):∃ G,Oq L w v xs G lo/\Own L w G:=by
 rcases h with ⟨rfl,rfl,rfl⟩ | ⟨g,rfl,hL,hz,hm,hr,hn⟩
 ·exact⟨[],⟨none,rfl,Nat.zero_le _,.inl ⟨rfl,rfl⟩⟩,Own.nil _ _⟩
 ·exact⟨[g],⟨_,rfl,hm,.inr ⟨g,F,rfl,rfl,hL,hr,hF,hz⟩⟩,by simp,fun b hb=>by rw[List.mem_singleton] at hb;subst hb;exact⟨hL,hz⟩⟩
theorem Oh.flat{α:Type}[GT α][Fl α]{L:Nat}{w:World}{v:Value}{xs:List α}{F:List Nat}(h:Oh L w v xs F):Os L w v xs:=by
 have:F = []:=by
  rcases h with ⟨_,_,rfl⟩ | ⟨g,rfl,hL,hz,hl,hr,_⟩
  ·rfl
  ·exact hr.fl
 subst this;exact h.os
theorem Oq.dc{α:Type}[GT α]{L lo:Nat}{w:World}{v:Value}{xs:List α}{F:List Nat}(h:Oq L w v xs F lo)(M d:Nat)(hd:Fz w d):∃ g ga,v = .slice ga xs.length xs.length/\xs.length<=maxLen/\(xs ≠ []->ga=some ⟨g,0,none⟩/\F = [g])/\(xs = []->g=d)/\Dc M lo w g xs 0:=by
 obtain⟨ga,rfl,hm,⟨rfl,rfl⟩ | ⟨g,FP,rfl,rfl,hL,hr,hF,hz⟩⟩:=h
 ·exact⟨d,ga,rfl,hm,fun h=>absurd rfl h,fun _=>rfl,Dc.start (F:=[]) rfl (by simp) hd⟩
 ·by_cases hx:xs = []
  ·subst hx;exact⟨d,_,rfl,hm,fun h=>absurd rfl h,fun _=>rfl,Dc.start (F:=[]) rfl (by simp) hd⟩
  ·exact⟨g,_,rfl,hm,fun _=>⟨rfl,rfl⟩,fun h=>absurd h hx,Dc.start hr hF hz⟩
theorem zEg(v:Value)(s:Setup)(w:World)(h:Rv w v s)(hn:GT.tot s<=1048576) :
  Calls Tryz.prog 52 #[v] w fun e w' => ∃ v',e = .returned v'/\Ov w.heap.size w' v' s/\Ext w w':=by
 have ht:GT.tot s=GT.tot s.Parts+GT.tot s.Channels+GT.tot s.Slots:=rfl;obtain⟨a0,c0,a1,c1,a2,c2,rfl,h0,hl0,h1,hl1,h2,hl2⟩:=h.openSetup;clear h;have hnl:s.Parts.length<=1048576:=Nat.le_trans zB0 (by omega)
 have hw1:s.Channels.length<=1048576:=Nat.le_trans zB0 (by omega)
 have hw2:s.Slots.length<=1048576:=Nat.le_trans zB0 (by omega)
 obtain⟨FP,sP⟩:=h0.out;replace sP:=zh sP
 generalize hn':s.Parts.length=n at *
 go_enter Tryz.func52,Tryz.ntmps52;go_upto_region 1 with (fail)
 refine zA2 (fun W=>Ext w W/\Bk W w.heap.size [.slice a0 n c0,.slice a1 s.Channels.length c1,.slice a2 s.Slots.length c2] 27/\Bk W (w.heap.size+1) [.slice none 0 0,.slice none 0 0,.slice none 0 0] 27) ⟨((zr _).alloc _).alloc _,(Bk.new _ _ _).ext ((zr _).alloc _),Bk.new1 _ _ _ _⟩ ?_
 rintro w0 ⟨E,KA,KB⟩;have ltA:=KA.lt;have ltB:=KB.lt;replace E:=zh E;replace KA:=zh KA;replace KB:=zh KB;obtain⟨f0,f1,f2⟩:=Bk.k3 KA.out;refine zAk rfl 11 [(6,[6]),(7,[7]),(8,[8]),(9,[9]),(10,[10]),(11,[11]),(12,[12]),(13,[13]),(14,[14]),(15,[15,8,11,14]),(3,[3])]
  (fun i vs u F=>match i,vs with
   | 0,[y]=>y = .pointer (some ⟨w.heap.size,0,none⟩)
   | 1,[y]=>y = .slice a0 n c0
   | 2,[y]=>Oq w0.heap.size u y s.Parts F w.heap.size
   | 3,[y]=>y = .pointer (some ⟨w.heap.size,1,none⟩)
   | 4,[y]=>y = .slice a1 s.Channels.length c1
   | 5,[y]=>Sl u y s.Channels F
   | 6,[y]=>y = .pointer (some ⟨w.heap.size,2,none⟩)
   | 7,[y]=>y = .slice a2 s.Slots.length c2
   | 8,[y]=>Sl u y s.Slots F
   | 9,[y,z,z1,z2]=>y = .agg #[z,z1,z2]
   | 10,[y] => ∃ B,y = .pointer (some ⟨B,0,none⟩)/\F = [B]/\Bk u B [.slice none 0 0,.slice none 0 0,.slice none 0 0] 27
   | _,_=>False) (by decide +kernel) ?_ ?_
 ·intro i hi o ho U u F hE hd hap;have g0:=(zA0 hE ltA).trans f0;have g1:=(zA0 hE ltA).trans f1;have g2:=(zA0 hE ltA).trans f2;rcases(by omega:i=0\/i=1\/i=2\/i=3\/i=4\/i=5\/i=6\/i=7\/i=8\/i=9\/i=10) with rfl|rfl|rfl|rfl|rfl|rfl|rfl|rfl|rfl|rfl|rfl
  ·cases ho;simp only[fr];intro K hK;go_wp2;exact zk hK _ (fun _ _=>rfl)
  ·cases ho;simp only[fr];obtain⟨⟨d0,-⟩,-⟩:=fa [0] (by decide +kernel) hd
   simp only[fu] at d0;try simp only[d0]
   clear d0;intro K hK;go_wp2;exact zk hK _ (fun _ _=>rfl)
  ·cases ho;simp only[fr];obtain⟨⟨d0,-⟩,⟨d1,-⟩,-⟩:=fa [0,1] (by decide +kernel) hd
   simp only[fu] at d0 d1;try simp only[d0,d1]
   intro K hK;go_wp2_with (go_at_call 88;refine(zFr _ _ _ _ (sP.out.ext (E.out.tr hE)) (by omega)).mono ?_;rintro e w' ⟨v',F',rfl,ho',hF',_,ex1⟩;obtain⟨F2,s2,ow2⟩:=ho'.oq (fun b hb=>sP.out.inh b (hF' b hb)))
   exact hK _ F2 _ ex1 (fun _ h=>(s2.mono hE.sz).ext h) ow2
  ·cases ho;simp only[fr];intro K hK;go_wp2;exact zk hK _ (fun _ _=>rfl)
  ·cases ho;simp only[fr];obtain⟨⟨d3,-⟩,-⟩:=fa [3] (by decide +kernel) hd
   simp only[fu] at d3;try simp only[d3]
   clear d3;intro K hK;go_wp2;exact zk hK _ (fun _ _=>rfl)
  ·cases ho;simp only[fr];obtain⟨⟨d0,-⟩,⟨d1,-⟩,⟨d2,o2⟩,⟨d3,-⟩,⟨d4,-⟩,-⟩:=fa [0,1,2,3,4] (by decide +kernel) hd
   simp only[fu] at d0 d1 d2 d3 d4;try simp only[d0,d1,d3,d4]
   intro K hK;obtain⟨G,hG⟩:=(h1.out.ext (E.out.tr hE));go_wp2_with (go_at_call 89;refine(zE3 _ _ _ _ hG (by omega)).mono ?_;rintro e w' ⟨v',F',rfl,ho',hF',_,ex1⟩;obtain⟨F2,s2,ow2⟩:=ho'.flat)
   exact hK _ F2 _ ex1 (fun _ h=>s2.ext h) ow2
  ·cases ho;simp only[fr];intro K hK;go_wp2;exact zk hK _ (fun _ _=>rfl)
  ·cases ho;simp only[fr];obtain⟨⟨d6,-⟩,-⟩:=fa [6] (by decide +kernel) hd
   simp only[fu] at d6;try simp only[d6]
   clear d6;intro K hK;go_wp2;exact zk hK _ (fun _ _=>rfl)
  ·cases ho;simp only[fr];obtain⟨⟨d0,-⟩,⟨d1,-⟩,⟨d2,o2⟩,⟨d3,-⟩,⟨d4,-⟩,⟨d5,o5⟩,⟨d6,-⟩,⟨d7,-⟩,-⟩:=fa [0,1,2,3,4,5,6,7] (by decide +kernel) hd
   simp only[fu] at d0 d1 d2 d3 d4 d5 d6 d7;try simp only[d0,d1,d3,d4,d6,d7]
   intro K hK;obtain⟨G,hG⟩:=(h2.out.ext (E.out.tr hE));go_wp2_with (go_at_call 90;refine(zFs _ _ _ _ hG (by omega)).mono ?_;rintro e w' ⟨v',F',rfl,ho',hF',_,ex1⟩;obtain⟨F2,s2,ow2⟩:=ho'.flat)
   exact hK _ F2 _ ex1 (fun _ h=>s2.ext h) ow2
  ·cases ho;simp only[fr];obtain⟨⟨d0,-⟩,⟨d1,-⟩,⟨d2,o2⟩,⟨d3,-⟩,⟨d4,-⟩,⟨d5,o5⟩,⟨d6,-⟩,⟨d7,-⟩,⟨d8,o8⟩,-⟩:=fa [0,1,2,3,4,5,6,7,8] (by decide +kernel) hd
   simp only[fu] at d0 d1 d2 d3 d4 d5 d6 d7 d8;try simp only[d0,d1,d3,d4,d6,d7]
   obtain⟨p2,q2,g2,_⟩:=d2.form;rw[hn'] at g2;obtain⟨p5,q5,g5,_⟩:=d5;obtain⟨p8,q8,g8,_⟩:=d8;simp only[g2,g5,g8];intro K hK;go_wp2;exact zk hK _ (fun _ _=>by show Value.agg _=Value.agg #[U 8,U 11,U 14];rw[g2,g5,g8])
  ·cases ho;simp only[fr];intro K hK;go_wp2;have b1:=Bk.new u [.slice none 0 0,.slice none 0 0,.slice none 0 0] 27;exact hK _ [u.heap.size] _ ((zr u).alloc _) (fun _ h=>⟨_,rfl,rfl,b1.ext h⟩) (b1.own (Nat.le_refl _))
 ·intro o ho U u F hE hφ hap;cases ho;simp only[fr];obtain⟨⟨d0,-⟩,⟨d1,-⟩,⟨d2,o2⟩,⟨d3,-⟩,⟨d4,-⟩,⟨d5,o5⟩,⟨d6,-⟩,⟨d7,-⟩,⟨d8,o8⟩,⟨d9,-⟩,⟨d10,o10⟩,-⟩:=fb [0,1,2,3,4,5,6,7,8,9,10] (by decide +kernel) hφ
  simp only[fu] at d0 d1 d2 d3 d4 d5 d6 d7 d8 d9 d10;try simp only[d0,d1,d3,d4,d6,d7,d9]
  obtain⟨B,d10,k10,b10⟩:=d10;have a25:=hap 2 5 (by omega) (by omega) (by omega)
  have a28:=hap 2 8 (by omega) (by omega) (by omega)
  have a58:=hap 5 8 (by omega) (by omega) (by omega)
  have a2B:=hap 2 10 (by omega) (by omega) (by omega)
  have a5B:=hap 5 10 (by omega) (by omega) (by omega)
  have a8B:=hap 8 10 (by omega) (by omega) (by omega)
  generalize F 2=F2 at *
  generalize F 5=F5 at *
  generalize F 8=F8 at *
  rw[k10] at o10 a2B a5B a8B;clear k10 hap hφ;have hZ:Fz u (w.heap.size+1):=(Fz.ext ⟨_,_,KB.out⟩ hE);obtain⟨g,ga,g2,_,hne,heq,hdc⟩:=d2.dc u.heap.size (w.heap.size+1) hZ;obtain⟨p5,q5,g5,x5⟩:=id d5;obtain⟨p8,q8,g8,x8⟩:=id d8;rw[hn'] at g2;rw[g5] at d5;rw[g8] at d8;simp only[d10,g2,g5,g8];clear x5 x8 d2;obtain⟨b90,b91,b92⟩:=Bk.k3 b10;have b9f:=b10.fz;have lB:w0.heap.size<=B:=(o10.2 B (by simp)).1
  have ltB2:=b10.lt;have hgl:(w.heap.size+1<=g/\g≠B/\g ∉ F5/\g ∉ F8)/\(0 < n->w0.heap.size<=g):=by
   by_cases hx:s.Parts = []
   ·rw[heq hx];exact⟨⟨Nat.le_refl _,by omega,fun hm=>by have:=(o5.2 _ hm).1;omega,fun hm=>by have:=(o8.2 _ hm).1;omega⟩,fun h=>by rw[hx] at hn';simp at hn';omega⟩
   ·obtain⟨h1,h2⟩:=hne hx;rw[h2] at o2 a25 a28 a2B
    have:=(o2.2 g (by simp)).1
    exact⟨⟨by omega,fun e=>a2B.one (by simp[e]),a25.symm.one,a28.symm.one⟩,fun _=>this⟩
  have hga:0 < n->ga=some ⟨g,0,none⟩:=fun h=>(hne (fun e=>by rw[e] at hn';simp at hn';omega)).1
  clear hne heq o2 a25 a28 a2B;have hlow:Hid (∀ j∈F5++F8,j < u.heap.size):=zh fun j hj=>(List.mem_append.1 hj).elim (fun h=>o5.lt h) (fun h=>o8.lt h)
  have hCh:∀ a b c,Chg B 0 3 [] u (((u.setCell ⟨B,0,none⟩ a).setCell ⟨B,1,none⟩ b).setCell ⟨B,2,none⟩ c):=fun a b c=>(((Chg.refl _ _ _ _ _).set ⟨by omega,by omega⟩ _).set ⟨by omega,by omega⟩ _).set ⟨by omega,by omega⟩ _
  go_upto_region 2 with (fail)
  refine zA2 (fun W=>Ext w W/\u.heap.size<=W.heap.size/\Bk W B [.slice ga n n,.slice p5 s.Channels.length q5,.slice p8 s.Slots.length q8] 27/\Sl W (.slice p5 s.Channels.length q5) s.Channels F5/\Sl W (.slice p8 s.Slots.length q8) s.Slots F8/\Own w0.heap.size W (F5++F8 ++ [B])/\Bk W w.heap.size [.slice a0 n c0,.slice a1 s.Channels.length c1,.slice a2 s.Slots.length c2] 27/\Bk W (w.heap.size+1) [.slice none 0 0,.slice none 0 0,.slice none 0 0] 27/\Dc u.heap.size w.heap.size W g s.Parts 0) ?_ ?_
  ·refine⟨(((E.out.tr hE).set (by show _<=B;omega) _).set (by show _<=B;omega) _).set (by show _<=B;omega) _,by simp,((b10.set 0 _).set 1 _).set 2 _,((d5.set a5B.one _).set a5B.one _).set a5B.one _,((d8.set a8B.one _).set a8B.one _).set a8B.one _,((((o5.join o8 a58).join o10 (a5B.app a8B)).set _ _).set _ _).set _ _,?_,?_,hdc.keep (hCh _ _ _) (fun e=>hgl.1.2.1 e.symm) ltB2 (by omega)⟩
   ·exact(((KA.out.ext hE).set_ne (by show _≠B;omega) _).set_ne (by show _≠B;omega) _).set_ne (by show _≠B;omega) _
   ·exact(((KB.out.ext hE).set_ne (by show _≠B;omega) _).set_ne (by show _≠B;omega) _).set_ne (by show _≠B;omega) _
  rintro W ⟨E1,lW,BB,S5,S8,OW,KA1,KB1,D0⟩;replace BB:=zh BB;replace KB1:=zh KB1;replace S5:=zh S5;replace S8:=zh S8;replace OW:=zh OW;replace E1:=zh E1;replace D0:=zh D0;have a10:=KA1.cell (j:=0) rfl;replace KA1:=zh KA1;clear hE b10 o10 o5 o8 a5B a8B a58 f0 f1 f2 KA KB E b90 b91 b92 b9f d5 d8 hdc hCh hZ d0 d1 d3 d4 d6 d7 d9 d10 g2 g5 g8;have lB2:B < W.heap.size:=by omega
  go_wp2;go_loopw [19] (fun i wr => ∃ (k:Nat),k<=n/\i = .int .i64 k/\Chg g 0 (n*2) [] W wr/\Dc u.heap.size w.heap.size wr g s.Parts k) (fun i _=>n - (intOf i).toNat)
  case atStart=>exact⟨0,Nat.zero_le _,rfl,Chg.refl _ _ _ _ _,D0.out⟩
  case round =>
   obtain⟨k,hk,rfl,hch,hdc⟩:=hrel;have HC:=zh hch;have HD:=zh hdc;clear hch hdc;have lWr:W.heap.size<=wr.heap.size:=HC.out.sz;by_cases hkt:k < n
   ·obtain⟨⟨hg1,hg2,hg4,hg5⟩,hg3⟩:=hgl;have hg3:=hg3 (by omega)
    have hga2:=hga (by omega)
    subst hga2;have EW:=zh (HC.out.ext E1.out (by omega) (by simp))
    have hB0:=(HC.out.bk BB.out (Ne.symm hg2) (by simp)).cell (j:=0) rfl
    obtain⟨b,o,x,wa,wc,rfl,hb,hx,hp0,hp1,hr1,hs0,hl0,hv⟩:=h0.out.atPart k (by rw[hn'];exact hkt)
    have hwl:x.Windows.length<=1048576:=by
     have:=zEw hx.out
     have h2:x.Windows.length<=GT.tot x.Windows:=zB0;have h3:GT.tot x=GT.tot x.Windows+GT.tot x.Cells:=rfl;omega
    have w1:=(zA0 EW.out hb).trans hp0;have w2:=(zA0 EW.out hb).trans hp1;go_upto_region 5 with (fail)
    have hxl:wr.heap.size < (wr.alloc (.cells #[.slice wa x.Windows.length wc,.int .i64 x.Cells] 47)).heap.size:=by simp
    refine zA2 (fun W2=>Ext wr W2/\Bk W2 wr.heap.size [.slice wa x.Windows.length wc,.int .i64 x.Cells] 47) ⟨(zr _).alloc _,Bk.new _ _ _⟩ ?_
    rintro W2 ⟨EX,BX⟩;replace EX:=zh EX;have x0:=BX.cell (j:=0) rfl;have ltX:=BX.lt;clear BX hxl;refine zAk rfl 8 [(24,[24]),(25,[25]),(26,[26]),(27,[27]),(28,[28]),(29,[29]),(30,[30]),(31,[31])]
     (fun i vs u F=>match i,vs with
      | 0,[y]=>y = .pointer (some ⟨B,0,none⟩)
      | 1,[y]=>y = .slice (some ⟨g,0,none⟩) n n
      | 2,[y]=>y = .int .i64 k
      | 3,[y]=>y = .pointer (some ⟨wr.heap.size,0,none⟩)
      | 4,[y]=>y = .slice wa x.Windows.length wc
      | 5,[y]=>Sl u y x.Windows F
      | 6,[y]=>y = .pointer (some ⟨g,k*2,none⟩)
      | 7,[y]=>y = .pointer (some ⟨g,k*2,none⟩)
      | _,_=>False) (by decide +kernel) ?_ ?_
    ·intro i hi o ho U u F hE hd hap;have hEw:=EW.out.tr (EX.out.tr hE);have e0:=(zA0 (EX.out.tr hE) (by omega:B < wr.heap.size)).trans hB0
     have e1:=(zA0 hE ltX).trans x0;rcases(by omega:i=0\/i=1\/i=2\/i=3\/i=4\/i=5\/i=6\/i=7) with rfl|rfl|rfl|rfl|rfl|rfl|rfl|rfl
     ·cases ho;simp only[fr];intro K hK;go_wp2;exact zk hK _ (fun _ _=>rfl)
     ·cases ho;simp only[fr];obtain⟨⟨d0,-⟩,-⟩:=fa [0] (by decide +kernel) hd
      simp only[fu] at d0;try simp only[d0]
      clear d0;intro K hK;go_wp2;exact zk hK _ (fun _ _=>rfl)
     iterate 2 (·cases ho;simp only[fr];intro K hK;go_wp2;exact zk hK _ (fun _ _=>rfl))
     ·cases ho;simp only[fr];obtain⟨⟨d3,-⟩,-⟩:=fa [3] (by decide +kernel) hd
      simp only[fu] at d3;try simp only[d3]
      clear d3;intro K hK;go_wp2;exact zk hK _ (fun _ _=>rfl)
     ·cases ho;simp only[fr];obtain⟨⟨d3,-⟩,⟨d4,-⟩,-⟩:=fa [3,4] (by decide +kernel) hd
      simp only[fu] at d3 d4;try simp only[d3,d4]
      intro K hK;obtain⟨G,hG⟩:=hs0.out.ext hEw;go_wp2_with (go_at_call 91;refine(zEf _ _ _ _ hG (by omega)).mono ?_;rintro e w' ⟨v',F',rfl,ho',hF',_,ex1⟩;obtain⟨F2,s2,ow2⟩:=ho'.flat)
      exact hK _ F2 _ ex1 (fun _ h=>s2.ext h) ow2
     ·cases ho;simp only[fr];obtain⟨⟨d0,-⟩,⟨d1,-⟩,⟨d2,-⟩,⟨d3,-⟩,⟨d4,-⟩,-⟩:=fa [0,1,2,3,4] (by decide +kernel) hd
      simp only[fu] at d0 d1 d2 d3 d4;try simp only[d0,d1,d2,d3,d4]
      clear d0 d1 d2 d3 d4;intro K hK;go_wp2;exact zk hK _ (fun _ _=>rfl)
     ·cases ho;simp only[fr];obtain⟨⟨d0,-⟩,⟨d1,-⟩,⟨d2,-⟩,⟨d3,-⟩,⟨d4,-⟩,⟨d6,-⟩,-⟩:=fa [0,1,2,3,4,6] (by decide +kernel) hd
      simp only[fu] at d0 d1 d2 d3 d4 d6;try simp only[d0,d1,d2,d3,d4,d6]
      clear d0 d1 d2 d3 d4 d6;intro K hK;go_wp2;exact zk hK _ (fun _ _=>rfl)
    ·intro oo ho U u2 F hE hφ hap;cases ho;simp only[fr];obtain⟨⟨d0,-⟩,⟨d1,-⟩,⟨d2,-⟩,⟨d3,-⟩,⟨d4,-⟩,⟨d5,o5⟩,⟨d6,-⟩,⟨d7,-⟩,-⟩:=fb [0,1,2,3,4,5,6,7] (by decide +kernel) hφ
     simp only[fu] at d0 d1 d2 d3 d4 d5 d6 d7;try simp only[d0,d1,d2,d3,d4,d6,d7]
     obtain⟨cs9,F9,he9,ha9,hF9⟩:=(HD.out.ext (EX.out.tr hE)).elem hx.out;obtain⟨v9,rfl,hs9,_⟩:=he9;have c9:=ha9 0 _ rfl;simp only[GT.sz,Nat.add_zero] at c9;have hgz:=HD.out;have f9:u2.frozen? ⟨g,k*2,none⟩=false:=by
      obtain⟨_,_,_,_,_,_,_,hz⟩:=hgz;obtain⟨cs,T,hb⟩:=hz.ext (EX.out.tr hE);exact hb.fz _
     have hgn:g ∉ F 5:=fun hm=>by
      have:=(o5.2 g hm).1
      obtain⟨_,_,_,_,_,_,_,hz⟩:=hgz
      have:=hz.lt
      have:=EX.out.sz
      omega
     obtain⟨p9,q9,e9,_⟩:=id d5;rw[e9] at d5;simp only[e9];clear d0 d1 d2 d3 d4 d6 d7 hφ hap e9 hgz ha9;have hgW:g < wr.heap.size:=by
      obtain⟨_,_,_,_,_,_,_,hz⟩:=HD.out;exact hz.lt
     have hCu:Chg g (k*2) 2 [] wr u2:=Chg.ofExt (EX.out.tr hE) hgW;have cC:u2.cell? ⟨g,k*2+1,none⟩=some (.int .i64 x.Cells):=by
      obtain⟨cs8,F8,he8,ha8,_⟩:=(HD.out.ext (EX.out.tr hE)).elem hx.out;obtain⟨v8,rfl,hs8,_⟩:=he8;exact ha8 1 _ rfl
     go_wp2;have hs5:=d5.set (p:=⟨g,k*2,none⟩) hgn (.slice p9 x.Windows.length q9);have hCg:Chg g (k*2) 2 [] wr (u2.setCell ⟨g,k*2,none⟩ (.slice p9 x.Windows.length q9)):=hCu.set ⟨by omega,by omega⟩ _
     have hC1:(u2.setCell ⟨g,k*2,none⟩ (.slice p9 x.Windows.length q9)).cell? ⟨g,k*2+1,none⟩=some (.int .i64 x.Cells):=(zA6 (by omega)).trans cC
     have hat:At (u2.setCell ⟨g,k*2,none⟩ (.slice p9 x.Windows.length q9)) g (k*2) [.slice p9 x.Windows.length q9,.int .i64 x.Cells]:=fun j y hj=>by
      match j,hj with
      | 0,hj=>cases hj;exact zAu c9
      | 1,hj=>cases hj;exact hC1
     have hD:=HD.out.step (by omega) (Nat.le_trans lW lWr) hx.out hCg ⟨_,rfl,hs5,hr1⟩ hat ((o5.mono EX.out.sz).set _ _)
     exact⟨⟨k+1,by omega,by go_num,HC.out.trF (hCg.wide (by omega) (by omega) (fun _ h=>h)) (fun _ h=>by cases h),hD⟩,by simp[intOf];omega⟩
   ·obtain rfl:k=n:=by omega
    obtain⟨⟨hg1,hg2,hg4,hg5⟩,hg3⟩:=hgl;have lZ:w.heap.size+1 < W.heap.size:=by omega
    have EW:=HC.out.ext E1.out (by omega) (by simp)
    have BB2:=HC.out.bk BB.out (Ne.symm hg2) (by simp)
    obtain⟨hc0,hc1,hc2⟩:=Bk.k3 BB2;have zc:∀ j,wr.cell? ⟨w.heap.size+1,j,none⟩=W.cell? ⟨w.heap.size+1,j,none⟩:=fun j=>by
     by_cases e:g=w.heap.size+1
     ·by_cases hk0:0 < k
      ·have:=hg3 hk0;omega
      ·obtain rfl:k=0:=by omega
       have:=HC.out.cell (j:=j) (by omega)
       rwa [e] at this
     ·exact World.cell?_of_block (HC.out.keep lZ (fun h=>e h.symm) (by simp))
    have z0:=(zc 0).trans (KB1.out.cell (j:=0) rfl);have z1:=(zc 1).trans (KB1.out.cell (j:=1) rfl);have z2:=(zc 2).trans (KB1.out.cell (j:=2) rfl);have zf:∀ j,wr.frozen? ⟨w.heap.size+1,j,none⟩=false:=by
     obtain⟨cs,T,hb⟩:=HC.out.fzk (w.heap.size+1) ⟨_,_,KB1.out⟩;exact hb.fz
    obtain⟨F0,S0,O0,H0⟩:=HD.out.fin (L':=w0.heap.size) hn' hga hg3 (by omega) (Nat.le_refl _) (by unfold maxLen;omega)
    have C5:=HC.out.sl S5.out hg4 (fun _ _ h=>by cases h)
    have C8:=HC.out.sl S8.out hg5 (fun _ _ h=>by cases h)
    have O58:=OW.out.left.chg HC.out;have hZ:w.heap.size+1 ∉ F0:=fun hm=>by have:=(O0.2 _ hm).1;omega
    have hZ2:w.heap.size+1 ∉ F5++F8:=fun hm=>by have:=(O58.2 _ hm).1;omega
    have hg58:g ∉ F5++F8:=fun hm=>(List.mem_append.1 hm).elim hg4 hg5
    have OO:Own w.heap.size wr (F0++(F5++F8)):=(O0.mono (by omega)).join (O58.mono (by omega)) fun j h1 h2=>by
     rcases H0 j h1 with rfl|h3
     ·exact hg58 h2
     ·have:=hlow.out j h2;omega
    replace S0:=zh S0;replace C5:=zh C5;replace C8:=zh C8;replace OO:=zh OO;replace EW:=zh EW;clear O0 O58 H0 zc BB2;go_wp2;refine bodyPost_ret (v:=.agg #[.slice ga k k,.slice p5 s.Channels.length q5,.slice p8 s.Slots.length q8]) (by simp[results,Tryz.results52,go_sem,z0,z1,z2]) rfl ⟨_,rfl,⟨_,_,rfl,⟨_,_,_,_,_,_,rfl,((S0.out.set hZ _).set hZ _).set hZ _,((C5.out.set (fun h=>hZ2 (List.mem_append_left _ h)) _).set (fun h=>hZ2 (List.mem_append_left _ h)) _).set (fun h=>hZ2 (List.mem_append_left _ h)) _,((C8.out.set (fun h=>hZ2 (List.mem_append_right _ h)) _).set (fun h=>hZ2 (List.mem_append_right _ h)) _).set (fun h=>hZ2 (List.mem_append_right _ h)) _,rfl⟩,((OO.out.set _ _).set _ _).set _ _⟩,?_⟩
    exact((EW.out.set (by simp) _).set (by simp) _).set (by simp) _
end Sk
