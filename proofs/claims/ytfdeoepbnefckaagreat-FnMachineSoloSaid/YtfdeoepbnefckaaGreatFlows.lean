/- Contracts of functions of the given program. -/
import Derived.Test.YtfdeoepbnefckaaGreatNums
namespace Sk
open Go Go.Proofs Go.RowKit
set_option maxHeartbeats 400000
set_option maxRecDepth 100000
set_option linter.unusedVariables false
set_option linter.unusedSimpArgs false
theorem Os.mono{α:Type}[GT α]{L L':Nat}{w:World}{v:Value}{xs:List α}(h:Os L w v xs)(hl:L'<=L):Os L' w v xs:=by
 obtain⟨F,h,o⟩:=h;exact⟨F,h,o.mono hl⟩
end Sk
namespace Sk
open Go Go.RowKit
set_option linter.unusedVariables false
set_option linter.unusedSimpArgs false
def FzK(w w':World):Prop:=∀ k cs T,Bk w k cs T->∃ cs',cs'.length=cs.length/\Bk w' k cs' T
theorem FzK.refl(w:World):FzK w w:=fun k cs T h=>⟨cs,rfl,h⟩
theorem FzK.tr{a b c:World}(h:FzK a b)(k:FzK b c):FzK a c:=fun x cs T hx=>by
 obtain⟨c1,h1,h2⟩:=h x cs T hx;obtain⟨c2,h3,h4⟩:=k x c1 T h2;exact⟨c2,h3.trans h1,h4⟩
theorem FzK.ofExt{a b:World}(h:Ext a b):FzK a b:=fun x cs T hx=>⟨cs,rfl,hx.ext h⟩
theorem FzK.set{a b:World}(h:FzK a b)(p:Addr)(u:Value):FzK a (b.setCell p u):=fun x cs T hx=>by
 obtain⟨c1,h1,h2⟩:=h x cs T hx;by_cases hb:x=p.block
 ·subst hb;unfold Bk at h2;refine⟨(if p.spot.isSome then c1.toArray else c1.toArray.setIfInBounds p.off u).toList,?_,Bk.ofA (cs:=if p.spot.isSome then c1.toArray else c1.toArray.setIfInBounds p.off u) ?_⟩
  ·split<;>simp[h1]
  ·simp[World.setCell,Array.getElem?_modify,h2]
 ·exact⟨c1,h1,h2.set_ne hb u⟩
theorem FzK.fz{a b:World}(h:FzK a b){k:Nat}(hk:Fz a k):Fz b k:=by
 obtain⟨cs,T,h1⟩:=hk;obtain⟨c1,_,h2⟩:=h k cs T h1;exact⟨c1,T,h2⟩
def Chg(b o n:Nat)(F:List Nat)(w w':World):Prop :=
 Ext {w with heap:=#[]} {w' with heap:=#[]} /\ w.heap.size<=w'.heap.size/\(∀ k,k < w.heap.size->k≠b->k ∉ F->w'.heap[k]? = w.heap[k]?) /\
 (∀ j,(j < o\/o+n<=j)->w'.cell? ⟨b,j,none⟩=w.cell? ⟨b,j,none⟩)/\FzK w w'
theorem Chg.fzk{b o n:Nat}{F:List Nat}{w w':World}(h:Chg b o n F w w')(k:Nat)(hk:Fz w k):Fz w' k:=h.2.2.2.2.fz hk
theorem Chg.refl(b o n:Nat)(F:List Nat)(w:World):Chg b o n F w w:=⟨zr _,Nat.le_refl _,fun _ _ _ _=>rfl,fun _ _=>rfl,FzK.refl _⟩
theorem Chg.tr{b o n:Nat}{F:List Nat}{a c d:World}(h:Chg b o n F a c)(k:Chg b o n F c d):Chg b o n F a d :=
 ⟨h.1.tr k.1,Nat.le_trans h.2.1 k.2.1,fun x hx h1 h2=>(k.2.2.1 x (zl hx h.2.1) h1 h2).trans (h.2.2.1 x hx h1 h2),fun j hj=>(k.2.2.2.1 j hj).trans (h.2.2.2.1 j hj),h.2.2.2.2.tr k.2.2.2.2⟩
theorem Chg.ofExt{b o n:Nat}{F:List Nat}{w w':World}(h:Ext w w')(hb:b < w.heap.size):Chg b o n F w w' :=
 ⟨⟨h.os,h.tape,h.output,Nat.le_refl _,fun b hb=>by cases hb⟩,h.sz,fun k hk _ _=>h.block k hk,fun j _=>(zDm h).1 b j hb,FzK.ofExt h⟩
theorem Chg.trF{b o n:Nat}{F G:List Nat}{a c d:World}(h:Chg b o n F a c)(k:Chg b o n G c d)(hG:∀ x∈G,x∈F\/a.heap.size<=x):Chg b o n F a d :=
 ⟨h.1.tr k.1,Nat.le_trans h.2.1 k.2.1,fun x hx h1 h2=>(k.2.2.1 x (zl hx h.2.1) h1 (fun hm=>(hG x hm).elim (fun h3=>h2 h3) (fun h3=>by omega))).trans (h.2.2.1 x hx h1 h2),fun j hj=>(k.2.2.2.1 j hj).trans (h.2.2.2.1 j hj),h.2.2.2.2.tr k.2.2.2.2⟩
theorem Chg.set{b o n:Nat}{F:List Nat}{a c:World}(h:Chg b o n F a c){j:Nat}(hj:o<=j/\j < o+n)(u:Value):Chg b o n F a (c.setCell ⟨b,j,none⟩ u):=by
 refine⟨?_,by simpa using h.2.1,fun x hx h1 h2=>by rw[zA8 h1];exact h.2.2.1 x hx h1 h2,fun i hi=>by rw[zA6 (by omega)];exact h.2.2.2.1 i hi,h.2.2.2.2.set _ u⟩
 obtain⟨h1,h2,h3,h4,h5⟩:=h.1;exact⟨h1,h2,h3,h4,h5⟩
theorem Chg.sz{b o n:Nat}{F:List Nat}{a c:World}(h:Chg b o n F a c):a.heap.size<=c.heap.size:=h.2.1
theorem Chg.wide{b o n o' n':Nat}{F G:List Nat}{a c:World}(h:Chg b o n F a c)(h1:o'<=o)(h2:o+n<=o'+n')(hF:∀ x∈F,x∈G):Chg b o' n' G a c :=
 ⟨h.1,h.2.1,fun x hx hb hn=>h.2.2.1 x hx hb (fun hm=>hn (hF x hm)),fun j hj=>h.2.2.2.1 j (by omega),h.2.2.2.2⟩
theorem Chg.up{b o n b' o' n':Nat}{F G:List Nat}{a c:World}(h:Chg b' o' n' G a c)(hb:b ∉ b'::G)(hlt:b < a.heap.size)(hG:∀ x∈b'::G,x∈F):Chg b o n F a c:=by
 refine⟨h.1,h.2.1,fun x hx h1 h2=>h.2.2.1 x hx (fun e=>h2 (e ▸ hG b' (List.mem_cons_self ..))) (fun hm=>h2 (hG x (List.mem_cons_of_mem _ hm))),fun j _=>?_,h.2.2.2.2⟩
 exact World.cell?_of_block (h.2.2.1 b hlt (fun e=>hb (e ▸ List.mem_cons_self ..)) (fun hm=>hb (List.mem_cons_of_mem _ hm)))
theorem Chg.ext{b o n:Nat}{F:List Nat}{W a c:World}(h:Chg b o n F a c)(he:Ext W a)(hb:W.heap.size<=b)(hF:∀ x∈F,W.heap.size<=x):Ext W c:=by
 obtain⟨h1,h2,h3,h4,h5⟩:=he;obtain⟨k1,k2,k3,k4,k5⟩:=h.1;exact⟨k1.trans h1,k2.trans h2,k3.trans h3,Nat.le_trans h4 h.2.1,fun x hx=>(h.2.2.1 x (zl hx h4) (by omega) (fun hm=>by have:=hF x hm;omega)).trans (h5 x hx)⟩
theorem Chg.keep{b o n:Nat}{F:List Nat}{a c:World}(h:Chg b o n F a c){k:Nat}(hk:k < a.heap.size)(hb:k≠b)(hF:k ∉ F):c.heap[k]? = a.heap[k]?:=h.2.2.1 k hk hb hF
theorem Chg.cell{b o n:Nat}{F:List Nat}{a c:World}(h:Chg b o n F a c){j:Nat}(hj:j < o\/o+n<=j):c.cell? ⟨b,j,none⟩=a.cell? ⟨b,j,none⟩:=h.2.2.2.1 j hj
theorem Fz.lt{w:World}{b:Nat}(h:Fz w b):b < w.heap.size:=by obtain⟨cs,T,h⟩:=h;exact h.lt
theorem Own.lt{L:Nat}{w:World}{F:List Nat}(h:Own L w F){k:Nat}(hk:k∈F):k < w.heap.size:=(h.2 k hk).2.lt
def Om{α:Type}[GT α](L:Nat)(w:World)(b o:Nat)(x : α)(F:List Nat):Prop:=∃ cs,GT.enc w cs x F/\At w b o cs/\Own L w (b::F)
theorem Om.ext{α:Type}[GT α]{L:Nat}{w w':World}{b o:Nat}{x : α}{F:List Nat}(h:Om L w b o x F)(he:Ext w w'):Om L w' b o x F:=by
 obtain⟨cs,h1,h2,h3⟩:=h;exact⟨cs,GT.ext h1 he,h2.keep (he.block b (h3.lt (List.mem_cons_self ..))),h3.ext he⟩
theorem Om.bk{α:Type}[GT α]{L:Nat}{w:World}{b o:Nat}{x : α}{F:List Nat}(h:Om L w b o x F):b < w.heap.size/\L<=b/\b ∉ F/\∀ j,w.frozen? ⟨b,j,none⟩=false:=by
 obtain⟨cs,h1,h2,h3⟩:=h;have h4:=(h3.2 b (List.mem_cons_self ..));obtain⟨_,cs',T,h5⟩:=id h4;exact⟨h4.2.lt,h4.1,(List.nodup_cons.1 h3.1).1,h5.fz⟩
structure Lens {α β:Type} [GT α] [GT β] (w:World) (b o:Nat) (x : α) (F:List Nat) (b' o':Nat) (y : β) (Fy:List Nat) (put : β -> α):Prop where
 sub:∀ k∈b'::Fy,k∈b::F
 nd:(b'::Fy).Nodup
 enc:∃ cs,GT.enc w cs y Fy/\At w b' o' cs
 back:∀ L w' y' Fy',Own L w (b::F)->Chg b' o' (GT.sz β) Fy w w'->Om L w' b' o' y' Fy'->(∀ k∈Fy',k∈Fy\/w.heap.size<=k) ->
  ∃ F',Om L w' b o (put y') F'/\(∀ k∈F',k∈F\/k∈Fy')/\Chg b o (GT.sz α) F w w'
theorem Lens.om{α β:Type}[GT α][GT β]{L:Nat}{w:World}{b o:Nat}{x : α}{F:List Nat}{b' o':Nat}{y : β}{Fy:List Nat}{put : β -> α}(h:Lens w b o x F b' o' y Fy put)(ho:Own L w (b::F)):Om L w b' o' y Fy:=by
 obtain⟨cs,h1,h2⟩:=h.enc;exact⟨cs,h1,h2,h.nd,fun k hk=>ho.2 k (h.sub k hk)⟩
theorem Lens.comp{α β γ:Type}[GT α][GT β][GT γ]{w:World}{b o:Nat}{x : α}{F:List Nat}{b1 o1:Nat}{y : β}{F1:List Nat}{put1 : β -> α}{b2 o2:Nat}{z : γ}{F2:List Nat}{put2 : γ -> β}
  (h:Lens w b o x F b1 o1 y F1 put1) (k:Lens w b1 o1 y F1 b2 o2 z F2 put2):Lens w b o x F b2 o2 z F2 (fun z=>put1 (put2 z)) where
 sub:=fun i hi=>h.sub i (k.sub i hi)
 nd:=k.nd
 enc:=k.enc
 back:=fun L w' z' Fz' ho hc hz hf=>by
  obtain⟨F1',h1,h2,h3⟩:=k.back L w' z' Fz' ⟨h.nd,fun i hi=>ho.2 i (h.sub i hi)⟩ hc hz hf
  have hb1:=h1.bk.2.2.1;obtain⟨F',g1,g2,g3⟩:=h.back L w' _ F1' ho h3 h1 (fun i hi=>(h2 i hi).elim .inl (fun hz'=>(hf i hz').elim (fun h4=>by
   rcases List.mem_cons.1 (k.sub i (List.mem_cons_of_mem _ h4)) with e|h5
   ·exact absurd (e ▸ hi) hb1
   ·exact .inl h5) .inr))
  have hb:=g1.bk.2.2.1;exact⟨F',g1,fun i hi=>(g2 i hi).elim .inl (fun h5=>(h2 i h5).elim (fun h6=>by
   rcases List.mem_cons.1 (h.sub i (List.mem_cons_of_mem _ h6)) with e|h7
   ·exact absurd (e ▸ hi) hb
   ·exact .inl h7) .inr),g3⟩
theorem zAp{F1 Fy F2:List Nat}{k:Nat}:k∈F1++(Fy++F2) ↔ k∈F1\/k∈Fy\/k∈F2:=by simp
theorem Lens.field{α β:Type}[GT α][GT β]{w:World}{b o:Nat}{x : α}{y : β}{put : β -> α}{A csy B:List Value}{F1 Fy F2:List Nat}(d:Nat)(hA:A.length=d)(hd:d+csy.length+B.length=GT.sz α)
  (hat:At w b o (A++(csy++B))) (hnd:(b::(F1++(Fy++F2))).Nodup) (hlt:∀ k∈b::(F1++(Fy++F2)),k < w.heap.size) (hy:GT.enc w csy y Fy)
  (hp:∀ w' csy' y' Fy',(∀ k,k∈F1\/k∈F2->w'.heap[k]? = w.heap[k]?)->GT.enc w' csy' y' Fy'->GT.enc w' (A++(csy'++B)) (put y') (F1++(Fy'++F2))) :
  Lens w b o x (F1++(Fy++F2)) b (o+d) y Fy put where
 sub:=fun k hk=>by
  rcases List.mem_cons.1 hk with rfl|hk
  ·exact List.mem_cons_self ..
  ·exact List.mem_cons_of_mem _ (zAp.2 (.inr (.inl hk)))
 nd:=by
  have h1:=List.nodup_cons.1 hnd;refine List.nodup_cons.2 ⟨fun hm=>h1.1 (zAp.2 (.inr (.inl hm))),?_⟩
  have:=h1.2
  simp only[List.nodup_append] at this;exact this.2.1.1
 enc:=⟨csy,hy,fun j u hj=>by
  have hj2:=(List.getElem?_eq_some_iff.1 hj).1
  have:=hat (d+j) u (by rw[List.getElem?_append_right (by omega),List.getElem?_append_left (by omega),hA,Nat.add_sub_cancel_left];exact hj)
  rwa [<- Nat.add_assoc] at this⟩
 back:=fun L w' y' Fy' ho hc hz hf=>by
  obtain⟨csy',h1,h2,h3⟩:=hz;have hl:=GT.len hy;have hl':=GT.len h1;have hnb:=(List.nodup_cons.1 hnd).1;have hn2:=(List.nodup_cons.1 hnd).2;have hdis:∀ k,k∈F1\/k∈F2->k≠b/\k ∉ Fy/\k < w.heap.size:=fun k hk=>by
   have hm:k∈F1++(Fy++F2):=zAp.2 (hk.elim .inl (fun h => .inr (.inr h)))
   refine⟨fun e=>hnb (e ▸ hm),fun hy=>?_,hlt k (List.mem_cons_of_mem _ hm)⟩
   simp only[List.nodup_append,List.mem_append] at hn2;rcases hk with hk|hk
   ·exact hn2.2.2 k hk k (.inl hy) rfl
   ·exact hn2.2.1.2.2 k hy k hk rfl
  have hkeep:∀ k,k∈F1\/k∈F2->w'.heap[k]? = w.heap[k]?:=fun k hk=>hc.keep (hdis k hk).2.2 (hdis k hk).1 (hdis k hk).2.1
  refine⟨F1++(Fy'++F2),⟨_,hp w' csy' y' Fy' hkeep h1,fun j u hj=>?_,?_,?_⟩,fun k hk=>?_,hc.wide (by omega) (by omega) (fun k hk=>zAp.2 (.inr (.inl hk)))⟩
  ·by_cases hj1:j < d
   ·have h:=hat j u (by rw[List.getElem?_append_left (by omega)] at hj ⊢;exact hj)
    rw[hc.cell (by omega)];exact h
   ·rw[List.getElem?_append_right (by omega),hA] at hj
    by_cases hj2:j - d < csy'.length
    ·rw[List.getElem?_append_left hj2] at hj
     have:=h2 _ u hj
     rwa [show o+d+(j - d)=o+j by omega] at this
    ·rw[List.getElem?_append_right (by omega)] at hj
     have h:=hat j u (by rw[List.getElem?_append_right (by omega),List.getElem?_append_right (by omega),hA,hl,<- hl'];exact hj)
     rw[hc.cell (by omega)];exact h
  ·have h3n:=List.nodup_cons.1 h3.1;refine List.nodup_cons.2 ⟨fun hm=>?_,zFt hn2 h3n.2 fun k hk=>?_⟩
   ·rcases zAp.1 hm with hm|hm|hm
    ·exact hnb (zAp.2 (.inl hm))
    ·exact h3n.1 hm
    ·exact hnb (zAp.2 (.inr (.inr hm)))
   ·rcases hf k hk with h|h
    ·exact⟨fun hm=>(hdis k (.inl hm)).2.1 h,fun hm=>(hdis k (.inr hm)).2.1 h⟩
    ·exact⟨fun hm=>by have:=(hdis k (.inl hm)).2.2;omega,fun hm=>by have:=(hdis k (.inr hm)).2.2;omega⟩
  ·intro k hk;rcases List.mem_cons.1 hk with rfl|hk
   ·exact h3.2 k (List.mem_cons_self ..)
   ·rcases zAp.1 hk with hm|hm|hm
    ·have:=ho.2 k (List.mem_cons_of_mem _ (zAp.2 (.inl hm)))
     exact⟨this.1,hc.fzk k this.2⟩
    ·exact h3.2 k (List.mem_cons_of_mem _ hm)
    ·have:=ho.2 k (List.mem_cons_of_mem _ (zAp.2 (.inr (.inr hm))))
     exact⟨this.1,hc.fzk k this.2⟩
  ·rcases zAp.1 hk with hm|hm|hm
   ·exact .inl (zAp.2 (.inl hm))
   ·exact .inr hm
   ·exact .inl (zAp.2 (.inr (.inr hm)))
end Sk
