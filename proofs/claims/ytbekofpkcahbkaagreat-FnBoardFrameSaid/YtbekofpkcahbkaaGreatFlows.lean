/- Contracts of functions of the given program. -/
import Derived.Test.YtbekofpkcahbkaaGreatNums
namespace Sk
open Go Go.Proofs Go.RowKit
set_option maxHeartbeats 400000
set_option maxRecDepth 100000
set_option linter.unusedVariables false
set_option linter.unusedSimpArgs false
theorem Os.mono{α:Type}[GT α]{L L':Nat}{w:World}{v:Value}{xs:List α}(h:Os L w v xs)(hl:L'<=L):Os L' w v xs:=by
 obtain⟨F,h,o⟩:=h;exact⟨F,h,o.mono hl⟩
end Sk
namespace Sk
open Go Go.RowKit
set_option linter.unusedVariables false
set_option linter.unusedSimpArgs false
def FzK(w w':World):Prop:=∀ k cs T,Bk w k cs T->∃ cs',cs'.length=cs.length/\Bk w' k cs' T
theorem FzK.refl(w:World):FzK w w:=fun k cs T h=>⟨cs,rfl,h⟩
theorem FzK.tr{a b c:World}(h:FzK a b)(k:FzK b c):FzK a c:=fun x cs T hx=>by
 obtain⟨c1,h1,h2⟩:=h x cs T hx;obtain⟨c2,h3,h4⟩:=k x c1 T h2;exact⟨c2,h3.trans h1,h4⟩
theorem FzK.ofExt{a b:World}(h:Ext a b):FzK a b:=fun x cs T hx=>⟨cs,rfl,hx.ext h⟩
theorem FzK.set{a b:World}(h:FzK a b)(p:Addr)(u:Value):FzK a (b.setCell p u):=fun x cs T hx=>by
 obtain⟨c1,h1,h2⟩:=h x cs T hx;by_cases hb:x=p.block
 ·subst hb;unfold Bk at h2;refine⟨(if p.spot.isSome then c1.toArray else c1.toArray.setIfInBounds p.off u).toList,?_,Bk.ofA (cs:=if p.spot.isSome then c1.toArray else c1.toArray.setIfInBounds p.off u) ?_⟩
  ·split<;>simp[h1]
  ·simp[World.setCell,Array.getElem?_modify,h2]
 ·exact⟨c1,h1,h2.set_ne hb u⟩
theorem FzK.fz{a b:World}(h:FzK a b){k:Nat}(hk:Fz a k):Fz b k:=by
 obtain⟨cs,T,h1⟩:=hk;obtain⟨c1,_,h2⟩:=h k cs T h1;exact⟨c1,T,h2⟩
def Chg(b o n:Nat)(F:List Nat)(w w':World):Prop :=
 Ext {w with heap:=#[]} {w' with heap:=#[]} /\ w.heap.size<=w'.heap.size/\(∀ k,k < w.heap.size->k≠b->k ∉ F->w'.heap[k]? = w.heap[k]?) /\
 (∀ j,(j < o\/o+n<=j)->w'.cell? ⟨b,j,none⟩=w.cell? ⟨b,j,none⟩)/\FzK w w'
theorem Chg.fzk{b o n:Nat}{F:List Nat}{w w':World}(h:Chg b o n F w w')(k:Nat)(hk:Fz w k):Fz w' k:=h.2.2.2.2.fz hk
theorem Chg.refl(b o n:Nat)(F:List Nat)(w:World):Chg b o n F w w:=⟨zr _,Nat.le_refl _,fun _ _ _ _=>rfl,fun _ _=>rfl,FzK.refl _⟩
theorem Chg.tr{b o n:Nat}{F:List Nat}{a c d:World}(h:Chg b o n F a c)(k:Chg b o n F c d):Chg b o n F a d :=
 ⟨h.1.tr k.1,Nat.le_trans h.2.1 k.2.1,fun x hx h1 h2=>(k.2.2.1 x (zl hx h.2.1) h1 h2).trans (h.2.2.1 x hx h1 h2),fun j hj=>(k.2.2.2.1 j hj).trans (h.2.2.2.1 j hj),h.2.2.2.2.tr k.2.2.2.2⟩
theorem Chg.ofExt{b o n:Nat}{F:List Nat}{w w':World}(h:Ext w w')(hb:b < w.heap.size):Chg b o n F w w' :=
 ⟨⟨h.os,h.tape,h.output,Nat.le_refl _,fun b hb=>by cases hb⟩,h.sz,fun k hk _ _=>h.block k hk,fun j _=>(zFn h).1 b j hb,FzK.ofExt h⟩
theorem Chg.trF{b o n:Nat}{F G:List Nat}{a c d:World}(h:Chg b o n F a c)(k:Chg b o n G c d)(hG:∀ x∈G,x∈F\/a.heap.size<=x):Chg b o n F a d :=
 ⟨h.1.tr k.1,Nat.le_trans h.2.1 k.2.1,fun x hx h1 h2=>(k.2.2.1 x (zl hx h.2.1) h1 (fun hm=>(hG x hm).elim (fun h3=>h2 h3) (fun h3=>by omega))).trans (h.2.2.1 x hx h1 h2),fun j hj=>(k.2.2.2.1 j hj).trans (h.2.2.2.1 j hj),h.2.2.2.2.tr k.2.2.2.2⟩
theorem Chg.set{b o n:Nat}{F:List Nat}{a c:World}(h:Chg b o n F a c){j:Nat}(hj:o<=j/\j < o+n)(u:Value):Chg b o n F a (c.setCell ⟨b,j,none⟩ u):=by
 refine⟨?_,by simpa using h.2.1,fun x hx h1 h2=>by rw[zA4 h1];exact h.2.2.1 x hx h1 h2,fun i hi=>by rw[zA6 (by omega)];exact h.2.2.2.1 i hi,h.2.2.2.2.set _ u⟩
 obtain⟨h1,h2,h3,h4,h5⟩:=h.1;exact⟨h1,h2,h3,h4,h5⟩
theorem Chg.sz{b o n:Nat}{F:List Nat}{a c:World}(h:Chg b o n F a c):a.heap.size<=c.heap.size:=h.2.1
theorem Chg.wide{b o n o' n':Nat}{F G:List Nat}{a c:World}(h:Chg b o n F a c)(h1:o'<=o)(h2:o+n<=o'+n')(hF:∀ x∈F,x∈G):Chg b o' n' G a c :=
 ⟨h.1,h.2.1,fun x hx hb hn=>h.2.2.1 x hx hb (fun hm=>hn (hF x hm)),fun j hj=>h.2.2.2.1 j (by omega),h.2.2.2.2⟩
theorem Chg.up{b o n b' o' n':Nat}{F G:List Nat}{a c:World}(h:Chg b' o' n' G a c)(hb:b ∉ b'::G)(hlt:b < a.heap.size)(hG:∀ x∈b'::G,x∈F):Chg b o n F a c:=by
 refine⟨h.1,h.2.1,fun x hx h1 h2=>h.2.2.1 x hx (fun e=>h2 (e ▸ hG b' (List.mem_cons_self ..))) (fun hm=>h2 (hG x (List.mem_cons_of_mem _ hm))),fun j _=>?_,h.2.2.2.2⟩
 exact World.cell?_of_block (h.2.2.1 b hlt (fun e=>hb (e ▸ List.mem_cons_self ..)) (fun hm=>hb (List.mem_cons_of_mem _ hm)))
theorem Chg.ext{b o n:Nat}{F:List Nat}{W a c:World}(h:Chg b o n F a c)(he:Ext W a)(hb:W.heap.size<=b)(hF:∀ x∈F,W.heap.size<=x):Ext W c:=by
 obtain⟨h1,h2,h3,h4,h5⟩:=he;obtain⟨k1,k2,k3,k4,k5⟩:=h.1;exact⟨k1.trans h1,k2.trans h2,k3.trans h3,Nat.le_trans h4 h.2.1,fun x hx=>(h.2.2.1 x (zl hx h4) (by omega) (fun hm=>by have:=hF x hm;omega)).trans (h5 x hx)⟩
theorem Chg.keep{b o n:Nat}{F:List Nat}{a c:World}(h:Chg b o n F a c){k:Nat}(hk:k < a.heap.size)(hb:k≠b)(hF:k ∉ F):c.heap[k]? = a.heap[k]?:=h.2.2.1 k hk hb hF
theorem Chg.cell{b o n:Nat}{F:List Nat}{a c:World}(h:Chg b o n F a c){j:Nat}(hj:j < o\/o+n<=j):c.cell? ⟨b,j,none⟩=a.cell? ⟨b,j,none⟩:=h.2.2.2.1 j hj
theorem Fz.lt{w:World}{b:Nat}(h:Fz w b):b < w.heap.size:=by obtain⟨cs,T,h⟩:=h;exact h.lt
theorem Own.lt{L:Nat}{w:World}{F:List Nat}(h:Own L w F){k:Nat}(hk:k∈F):k < w.heap.size:=(h.2 k hk).2.lt
def Om{α:Type}[GT α](L:Nat)(w:World)(b o:Nat)(x : α)(F:List Nat):Prop:=∃ cs,GT.enc w cs x F/\At w b o cs/\Own L w (b::F)
theorem Om.ext{α:Type}[GT α]{L:Nat}{w w':World}{b o:Nat}{x : α}{F:List Nat}(h:Om L w b o x F)(he:Ext w w'):Om L w' b o x F:=by
 obtain⟨cs,h1,h2,h3⟩:=h;exact⟨cs,GT.ext h1 he,h2.keep (he.block b (h3.lt (List.mem_cons_self ..))),h3.ext he⟩
theorem Om.bk{α:Type}[GT α]{L:Nat}{w:World}{b o:Nat}{x : α}{F:List Nat}(h:Om L w b o x F):b < w.heap.size/\L<=b/\b ∉ F/\∀ j,w.frozen? ⟨b,j,none⟩=false:=by
 obtain⟨cs,h1,h2,h3⟩:=h;have h4:=(h3.2 b (List.mem_cons_self ..));obtain⟨_,cs',T,h5⟩:=id h4;exact⟨h4.2.lt,h4.1,(List.nodup_cons.1 h3.1).1,h5.fz⟩
structure Lens {α β:Type} [GT α] [GT β] (w:World) (b o:Nat) (x : α) (F:List Nat) (b' o':Nat) (y : β) (Fy:List Nat) (put : β -> α):Prop where
 sub:∀ k∈b'::Fy,k∈b::F
 nd:(b'::Fy).Nodup
 enc:∃ cs,GT.enc w cs y Fy/\At w b' o' cs
 back:∀ L w' y' Fy',Own L w (b::F)->Chg b' o' (GT.sz β) Fy w w'->Om L w' b' o' y' Fy'->(∀ k∈Fy',k∈Fy\/w.heap.size<=k) ->
  ∃ F',Om L w' b o (put y') F'/\(∀ k∈F',k∈F\/k∈Fy')/\Chg b o (GT.sz α) F w w'
theorem Lens.om{α β:Type}[GT α][GT β]{L:Nat}{w:World}{b o:Nat}{x : α}{F:List Nat}{b' o':Nat}{y : β}{Fy:List Nat}{put : β -> α}(h:Lens w b o x F b' o' y Fy put)(ho:Own L w (b::F)):Om L w b' o' y Fy:=by
 obtain⟨cs,h1,h2⟩:=h.enc;exact⟨cs,h1,h2,h.nd,fun k hk=>ho.2 k (h.sub k hk)⟩
theorem Lens.comp{α β γ:Type}[GT α][GT β][GT γ]{w:World}{b o:Nat}{x : α}{F:List Nat}{b1 o1:Nat}{y : β}{F1:List Nat}{put1 : β -> α}{b2 o2:Nat}{z : γ}{F2:List Nat}{put2 : γ -> β}
  (h:Lens w b o x F b1 o1 y F1 put1) (k:Lens w b1 o1 y F1 b2 o2 z F2 put2):Lens w b o x F b2 o2 z F2 (fun z=>put1 (put2 z)) where
 sub:=fun i hi=>h.sub i (k.sub i hi)
 nd:=k.nd
 enc:=k.enc
 back:=fun L w' z' Fz' ho hc hz hf=>by
  obtain⟨F1',h1,h2,h3⟩:=k.back L w' z' Fz' ⟨h.nd,fun i hi=>ho.2 i (h.sub i hi)⟩ hc hz hf
  have hb1:=h1.bk.2.2.1;obtain⟨F',g1,g2,g3⟩:=h.back L w' _ F1' ho h3 h1 (fun i hi=>(h2 i hi).elim .inl (fun hz'=>(hf i hz').elim (fun h4=>by
   rcases List.mem_cons.1 (k.sub i (List.mem_cons_of_mem _ h4)) with e|h5
   ·exact absurd (e ▸ hi) hb1
   ·exact .inl h5) .inr))
  have hb:=g1.bk.2.2.1;exact⟨F',g1,fun i hi=>(g2 i hi).elim .inl (fun h5=>(h2 i h5).elim (fun h6=>by
   rcases List.mem_cons.1 (h.sub i (List.mem_cons_of_mem _ h6)) with e|h7
   ·exact absurd (e ▸ hi) hb
   ·exact .inl h7) .inr),g3⟩
theorem zAv{F1 Fy F2:List Nat}{k:Nat}:k∈F1++(Fy++F2) ↔ k∈F1\/k∈Fy\/k∈F2:=by simp
theorem Lens.field{α β:Type}[GT α][GT β]{w:World}{b o:Nat}{x : α}{y : β}{put : β -> α}{A csy B:List Value}{F1 Fy F2:List Nat}(d:Nat)(hA:A.length=d)(hd:d+csy.length+B.length=GT.sz α)
  (hat:At w b o (A++(csy++B))) (hnd:(b::(F1++(Fy++F2))).Nodup) (hlt:∀ k∈b::(F1++(Fy++F2)),k < w.heap.size) (hy:GT.enc w csy y Fy)
  (hp:∀ w' csy' y' Fy',(∀ k,k∈F1\/k∈F2->w'.heap[k]? = w.heap[k]?)->GT.enc w' csy' y' Fy'->GT.enc w' (A++(csy'++B)) (put y') (F1++(Fy'++F2))) :
  Lens w b o x (F1++(Fy++F2)) b (o+d) y Fy put where
 sub:=fun k hk=>by
  rcases List.mem_cons.1 hk with rfl|hk
  ·exact List.mem_cons_self ..
  ·exact List.mem_cons_of_mem _ (zAv.2 (.inr (.inl hk)))
 nd:=by
  have h1:=List.nodup_cons.1 hnd;refine List.nodup_cons.2 ⟨fun hm=>h1.1 (zAv.2 (.inr (.inl hm))),?_⟩
  have:=h1.2
  simp only[List.nodup_append] at this;exact this.2.1.1
 enc:=⟨csy,hy,fun j u hj=>by
  have hj2:=(List.getElem?_eq_some_iff.1 hj).1
  have:=hat (d+j) u (by rw[List.getElem?_append_right (by omega),List.getElem?_append_left (by omega),hA,Nat.add_sub_cancel_left];exact hj)
  rwa [<- Nat.add_assoc] at this⟩
 back:=fun L w' y' Fy' ho hc hz hf=>by
  obtain⟨csy',h1,h2,h3⟩:=hz;have hl:=GT.len hy;have hl':=GT.len h1;have hnb:=(List.nodup_cons.1 hnd).1;have hn2:=(List.nodup_cons.1 hnd).2;have hdis:∀ k,k∈F1\/k∈F2->k≠b/\k ∉ Fy/\k < w.heap.size:=fun k hk=>by
   have hm:k∈F1++(Fy++F2):=zAv.2 (hk.elim .inl (fun h => .inr (.inr h)))
   refine⟨fun e=>hnb (e ▸ hm),fun hy=>?_,hlt k (List.mem_cons_of_mem _ hm)⟩
   simp only[List.nodup_append,List.mem_append] at hn2;rcases hk with hk|hk
   ·exact hn2.2.2 k hk k (.inl hy) rfl
   ·exact hn2.2.1.2.2 k hy k hk rfl
  have hkeep:∀ k,k∈F1\/k∈F2->w'.heap[k]? = w.heap[k]?:=fun k hk=>hc.keep (hdis k hk).2.2 (hdis k hk).1 (hdis k hk).2.1
  refine⟨F1++(Fy'++F2),⟨_,hp w' csy' y' Fy' hkeep h1,fun j u hj=>?_,?_,?_⟩,fun k hk=>?_,hc.wide (by omega) (by omega) (fun k hk=>zAv.2 (.inr (.inl hk)))⟩
  ·by_cases hj1:j < d
   ·have h:=hat j u (by rw[List.getElem?_append_left (by omega)] at hj ⊢;exact hj)
    rw[hc.cell (by omega)];exact h
   ·rw[List.getElem?_append_right (by omega),hA] at hj
    by_cases hj2:j - d < csy'.length
    ·rw[List.getElem?_append_left hj2] at hj
     have:=h2 _ u hj
     rwa [show o+d+(j - d)=o+j by omega] at this
    ·rw[List.getElem?_append_right (by omega)] at hj
     have h:=hat j u (by rw[List.getElem?_append_right (by omega),List.getElem?_append_right (by omega),hA,hl,<- hl'];exact hj)
     rw[hc.cell (by omega)];exact h
  ·have h3n:=List.nodup_cons.1 h3.1;refine List.nodup_cons.2 ⟨fun hm=>?_,zIn hn2 h3n.2 fun k hk=>?_⟩
   ·rcases zAv.1 hm with hm|hm|hm
    ·exact hnb (zAv.2 (.inl hm))
    ·exact h3n.1 hm
    ·exact hnb (zAv.2 (.inr (.inr hm)))
   ·rcases hf k hk with h|h
    ·exact⟨fun hm=>(hdis k (.inl hm)).2.1 h,fun hm=>(hdis k (.inr hm)).2.1 h⟩
    ·exact⟨fun hm=>by have:=(hdis k (.inl hm)).2.2;omega,fun hm=>by have:=(hdis k (.inr hm)).2.2;omega⟩
  ·intro k hk;rcases List.mem_cons.1 hk with rfl|hk
   ·exact h3.2 k (List.mem_cons_self ..)
   ·rcases zAv.1 hk with hm|hm|hm
    ·have:=ho.2 k (List.mem_cons_of_mem _ (zAv.2 (.inl hm)))
     exact⟨this.1,hc.fzk k this.2⟩
    ·exact h3.2 k (List.mem_cons_of_mem _ hm)
    ·have:=ho.2 k (List.mem_cons_of_mem _ (zAv.2 (.inr (.inr hm))))
     exact⟨this.1,hc.fzk k this.2⟩
  ·rcases zAv.1 hk with hm|hm|hm
   ·exact .inl (zAv.2 (.inl hm))
   ·exact .inr hm
   ·exact .inl (zAv.2 (.inr (.inr hm)))
def Osb{α:Type}[GT α](L M:Nat)(w:World)(v:Value)(xs:List α):Prop:=∃ F,Sl w v xs F/\Own L w F/\∀ k∈F,k < M
theorem Os.osb{α:Type}[GT α]{L:Nat}{w:World}{v:Value}{xs:List α}(h:Os L w v xs):Osb L w.heap.size w v xs:=by
 obtain⟨F,h1,h2⟩:=h;exact⟨F,h1,h2,fun k hk=>h2.lt hk⟩
theorem Osb.os{α:Type}[GT α]{L M:Nat}{w:World}{v:Value}{xs:List α}(h:Osb L M w v xs):Os L w v xs:=by
 obtain⟨F,h1,h2,_⟩:=h;exact⟨F,h1,h2⟩
theorem Om.lCoreCells{L:Nat}{w:World}{b o:Nat}{x:Core}{F:List Nat}(h:Om L w b o x F):∃ Fy,Lens w b o x F b (o+0) x.Cells Fy (fun y => { x with Cells:=y }):=by
 obtain⟨cs,⟨v0,rfl,h0,r1⟩,hat,ho⟩:=h;refine⟨F,?_⟩;have hl:=Lens.field (x:=x) (y:=x.Cells) (put:=fun y => { x with Cells:=y }) (A:=[]) (csy:=[v0]) (B:=[.int .i64 x.At,.bool x.Stopped]) (F1:=[]) (Fy:=F) (F2:=[]) 0 rfl rfl (by simpa using hat) (by simpa [List.append_assoc] using ho.1) (fun k hk=>ho.lt (by simpa [List.append_assoc] using hk)) ⟨_,rfl,h0⟩ ?_
 ·simpa [List.append_assoc] using hl
 ·intro w' csy' y' Fy' hk hy;obtain⟨v,rfl,k⟩:=hy;simp only[List.nil_append,List.append_nil];exact⟨_,rfl,k,r1⟩
theorem Om.lCoreAt{L:Nat}{w:World}{b o:Nat}{x:Core}{F:List Nat}(h:Om L w b o x F):∃ Fy,Lens w b o x F b (o+1) x.At Fy (fun y => { x with At:=y }):=by
 obtain⟨cs,⟨v0,rfl,h0,r1⟩,hat,ho⟩:=h;refine⟨[],?_⟩;have hl:=Lens.field (x:=x) (y:=x.At) (put:=fun y => { x with At:=y }) (A:=[v0]) (csy:=[.int .i64 x.At]) (B:=[.bool x.Stopped]) (F1:=F) (Fy:=[]) (F2:=[]) 1 rfl rfl (by simpa using hat) (by simpa [List.append_assoc] using ho.1) (fun k hk=>ho.lt (by simpa [List.append_assoc] using hk)) ⟨rfl,r1,rfl⟩ ?_
 ·simpa [List.append_assoc] using hl
 ·intro w' csy' y' Fy' hk hy;obtain⟨rfl,q,rfl⟩:=hy;simp only[List.nil_append,List.append_nil];exact⟨_,rfl,h0.keep (fun k h=>hk k (by simp[h])),q⟩
theorem Om.lCoreStopped{L:Nat}{w:World}{b o:Nat}{x:Core}{F:List Nat}(h:Om L w b o x F):∃ Fy,Lens w b o x F b (o+2) x.Stopped Fy (fun y => { x with Stopped:=y }):=by
 obtain⟨cs,⟨v0,rfl,h0,r1⟩,hat,ho⟩:=h;refine⟨[],?_⟩;have hl:=Lens.field (x:=x) (y:=x.Stopped) (put:=fun y => { x with Stopped:=y }) (A:=[v0,.int .i64 x.At]) (csy:=[.bool x.Stopped]) (B:=[]) (F1:=F) (Fy:=[]) (F2:=[]) 2 rfl rfl (by simpa using hat) (by simpa [List.append_assoc] using ho.1) (fun k hk=>ho.lt (by simpa [List.append_assoc] using hk)) ⟨rfl,rfl⟩ ?_
 ·simpa [List.append_assoc] using hl
 ·intro w' csy' y' Fy' hk hy;obtain⟨rfl,rfl⟩:=hy;simp only[List.nil_append,List.append_nil];exact⟨_,rfl,h0.keep (fun k h=>hk k (by simp[h])),r1⟩
theorem Om.lMachineCores{L:Nat}{w:World}{b o:Nat}{x:Machine}{F:List Nat}(h:Om L w b o x F):∃ Fy,Lens w b o x F b (o+4) x.Cores Fy (fun y => { x with Cores:=y }):=by
 obtain⟨cs,⟨v0,v1,v2,v3,v4,v5,F0,F1,F2,F3,F4,F5,rfl,h0,h1,h2,h3,h4,h5,r6,rfl⟩,hat,ho⟩:=h;refine⟨F4,?_⟩;have hl:=Lens.field (x:=x) (y:=x.Cores) (put:=fun y => { x with Cores:=y }) (A:=[v0,v1,v2,v3]) (csy:=[v4]) (B:=[v5,.int .i64 x.Tick]) (F1:=F0++(F1++(F2++F3))) (Fy:=F4) (F2:=F5) 4 rfl rfl (by simpa using hat) (by simpa [List.append_assoc] using ho.1) (fun k hk=>ho.lt (by simpa [List.append_assoc] using hk)) ⟨_,rfl,h4⟩ ?_
 ·simpa [List.append_assoc] using hl
 ·intro w' csy' y' Fy' hk hy;obtain⟨v,rfl,k⟩:=hy;exact⟨_,_,_,_,_,_,_,_,_,_,_,_,rfl,h0.keep (fun k h=>hk k (by simp[h])),h1.keep (fun k h=>hk k (by simp[h])),h2.keep (fun k h=>hk k (by simp[h])),h3.keep (fun k h=>hk k (by simp[h])),k,h5.keep (fun k h=>hk k (by simp[h])),r6,by simp[List.append_assoc]⟩
theorem Om.lMachineHolds{L:Nat}{w:World}{b o:Nat}{x:Machine}{F:List Nat}(h:Om L w b o x F):∃ Fy,Lens w b o x F b (o+5) x.Holds Fy (fun y => { x with Holds:=y }):=by
 obtain⟨cs,⟨v0,v1,v2,v3,v4,v5,F0,F1,F2,F3,F4,F5,rfl,h0,h1,h2,h3,h4,h5,r6,rfl⟩,hat,ho⟩:=h;refine⟨F5,?_⟩;have hl:=Lens.field (x:=x) (y:=x.Holds) (put:=fun y => { x with Holds:=y }) (A:=[v0,v1,v2,v3,v4]) (csy:=[v5]) (B:=[.int .i64 x.Tick]) (F1:=F0++(F1++(F2++(F3++F4)))) (Fy:=F5) (F2:=[]) 5 rfl rfl (by simpa using hat) (by simpa [List.append_assoc] using ho.1) (fun k hk=>ho.lt (by simpa [List.append_assoc] using hk)) ⟨_,rfl,h5⟩ ?_
 ·simpa [List.append_assoc] using hl
 ·intro w' csy' y' Fy' hk hy;obtain⟨v,rfl,k⟩:=hy;exact⟨_,_,_,_,_,_,_,_,_,_,_,_,rfl,h0.keep (fun k h=>hk k (by simp[h])),h1.keep (fun k h=>hk k (by simp[h])),h2.keep (fun k h=>hk k (by simp[h])),h3.keep (fun k h=>hk k (by simp[h])),h4.keep (fun k h=>hk k (by simp[h])),k,r6,by simp[List.append_assoc]⟩
theorem Om.lMachineTick{L:Nat}{w:World}{b o:Nat}{x:Machine}{F:List Nat}(h:Om L w b o x F):∃ Fy,Lens w b o x F b (o+6) x.Tick Fy (fun y => { x with Tick:=y }):=by
 obtain⟨cs,⟨v0,v1,v2,v3,v4,v5,F0,F1,F2,F3,F4,F5,rfl,h0,h1,h2,h3,h4,h5,r6,rfl⟩,hat,ho⟩:=h;refine⟨[],?_⟩;have hl:=Lens.field (x:=x) (y:=x.Tick) (put:=fun y => { x with Tick:=y }) (A:=[v0,v1,v2,v3,v4,v5]) (csy:=[.int .i64 x.Tick]) (B:=[]) (F1:=F0++(F1++(F2++(F3++(F4++F5))))) (Fy:=[]) (F2:=[]) 6 rfl rfl (by simpa using hat) (by simpa [List.append_assoc] using ho.1) (fun k hk=>ho.lt (by simpa [List.append_assoc] using hk)) ⟨rfl,r6,rfl⟩ ?_
 ·simpa [List.append_assoc] using hl
 ·intro w' csy' y' Fy' hk hy;obtain⟨rfl,q,rfl⟩:=hy;exact⟨_,_,_,_,_,_,_,_,_,_,_,_,rfl,h0.keep (fun k h=>hk k (by simp[h])),h1.keep (fun k h=>hk k (by simp[h])),h2.keep (fun k h=>hk k (by simp[h])),h3.keep (fun k h=>hk k (by simp[h])),h4.keep (fun k h=>hk k (by simp[h])),h5.keep (fun k h=>hk k (by simp[h])),q,by simp[List.append_assoc]⟩
theorem Om.lBoardBoxes{L:Nat}{w:World}{b o:Nat}{x:Board}{F:List Nat}(h:Om L w b o x F):∃ Fy,Lens w b o x F b (o+0) x.Boxes Fy (fun y => { x with Boxes:=y }):=by
 obtain⟨cs,⟨v0,v1,F0,F1,rfl,h0,h1,rfl⟩,hat,ho⟩:=h;refine⟨F0,?_⟩;have hl:=Lens.field (x:=x) (y:=x.Boxes) (put:=fun y => { x with Boxes:=y }) (A:=[]) (csy:=[v0]) (B:=[v1]) (F1:=[]) (Fy:=F0) (F2:=F1) 0 rfl rfl (by simpa using hat) (by simpa [List.append_assoc] using ho.1) (fun k hk=>ho.lt (by simpa [List.append_assoc] using hk)) ⟨_,rfl,h0⟩ ?_
 ·simpa [List.append_assoc] using hl
 ·intro w' csy' y' Fy' hk hy;obtain⟨v,rfl,k⟩:=hy;exact⟨_,_,_,_,rfl,k,h1.keep (fun k h=>hk k (by simp[h])),by simp[List.append_assoc]⟩
class Fl (α:Type) [GT α]:Prop where
 nof:∀ {w:World} {cs:List Value} {x : α} {F:List Nat},GT.enc w cs x F->F = []
instance:Fl Int:=⟨by rintro w cs x F ⟨_,_,rfl⟩;rfl⟩
instance:Fl Window:=⟨by rintro w cs x F ⟨_,_,_,rfl⟩;rfl⟩
instance:Fl Channel:=⟨by rintro w cs x F ⟨_,_,_,_,_,rfl⟩;rfl⟩
instance:Fl Slot:=⟨by rintro w cs x F ⟨_,_,_,rfl⟩;rfl⟩
instance:Fl Order:=⟨by rintro w cs x F ⟨_,_,_,_,rfl⟩;rfl⟩
instance:Fl Wire:=⟨by rintro w cs x F ⟨_,_,_,_,_,_,_,rfl⟩;rfl⟩
theorem Row.fl{α:Type}[GT α][Fl α]{w:World}{b:Nat}{xs:List α}:∀ {o:Nat} {F:List Nat},Row w b o xs F->F = []:=by
 induction xs with
 | nil=>intro o F h;exact h
 | cons x xs ih =>
  intro o F h;obtain⟨cs,F1,F2,he,ha,rfl,hr⟩:=h;rw[Fl.nof he,ih hr];rfl
theorem Oa.fl{α:Type}[GT α][Fl α]{e:TypeId}{L:Nat}{w:World}{v:Value}{xs:List α}{F:List Nat}(h:Oa e L w v xs F):F = []:=by
 rcases h with ⟨_,_,rfl⟩ | ⟨g,cap,cur,rfl,hL,hg,hl,hc,hs,hr,hn⟩
 ·rfl
 ·exact hr.fl
theorem Oa.osF{α:Type}[GT α][Fl α]{e:TypeId}{L:Nat}{w:World}{v:Value}{xs:List α}{F:List Nat}(h:Oa e L w v xs F):Os L w v xs:=by
 have:=h.fl;subst this;exact h.os (Own.nil _ _)
theorem zEr{P:Program}{w:World}(t ty e:TypeId)(i:TypeInfo)(ht:P.underlying t=some (.slice e))(hi:P.info? e=some i)(ad a:Option Addr)(n cap c:Nat)(hn:n<=cap) :
  (Builtin.append_ #[t,t] ty #[.slice ad n cap,.slice a 0 c]).run P w = .ok (.slice ad n cap) w:=by
 cases ad<;>cases a<;>simp[Builtin.append_,run_underlying ht,Go.sizeOf,typeInfo,hi,Builtin.lenOf,Builtin.firstCells,loadCells,loadCellsFrom,storeCells,hn]
theorem zN1(w:World)(row:Option Nat):w.grownBy w row:=⟨rfl,rfl,rfl,Nat.le_refl _,fun _ _ _=>rfl⟩
theorem wp_appF{α:Type}[GT α][Fl α]{P:Program}{w:World}{o:Oper}{a:Act}{K:Act->World->Prop}{Q:Exit->Act->World->Prop}(s x:Operand)(t:TypeId)
  (ho:o.op = .call { callee:=.builtin .append,args:=#[s,x],argTypes:=#[t,t] }) (e:TypeId) (ht:P.underlying t=some (.slice e)) (hel:El P e α)
  {L:Nat} {v:Value} {xs ys:List α} (hs:a.eval s=v) (hO:Oa e L w v xs []) {vx:Value} (hx:a.eval x=vx) (hy:Rs w vx ys) (hlen:xs.length+ys.length<=4294967296) (hL:L<=w.heap.size)
  (h:∀ v' w',Oa e L w' v' (xs++ys) []->w.grownBy w' v.ownBlock->K (a.put o.dst v') w'):o.wp P a w K Q:=by
 obtain⟨F,ax,cx,rfl,hl,hc,⟨rfl,rfl⟩ | ⟨hne,b,o',F',rfl,rfl,hr⟩⟩:=hy
 ·obtain⟨i,z,bytes,hi,_⟩:=hel;have hv:∃ ad n cap,v = .slice ad n cap/\n<=cap:=by
   rcases hO with ⟨rfl,_⟩ | ⟨g,cap,cur,rfl,_,_,hn,_⟩
   ·exact⟨_,_,_,rfl,Nat.le_refl _⟩
   ·exact⟨_,_,_,rfl,hn⟩
  obtain⟨ad,n,cap,rfl,hn⟩:=hv;have hr:=zEr (P:=P) (w:=w) t o.type e i ht hi ad ax n cap cx hn;unfold Oper.wp execOp;simp only[ho,resolve,invoke,builtin,Sem.run_bind,Sem.run_pure,Result.andThen_ok,List.map_toArray,List.map_cons,List.map_nil,hs,hx,List.length_nil,hr];exact h _ w (by rw[List.append_nil];exact hO) (zN1 _ _)
 ·have:=hr.fl;subst this
  exact wp_app s x t ho e ht hel hs hO hx rfl hr (List.length_pos_iff.2 hne) (fun k hk=>by cases hk) hlen hL h
theorem zB7{α:Type}[GT α][Fl α]{P:Program}{w:World}{ops:Array Oper}{rest:List Oper}{o:Oper}{a:Act}{Q:Exit->Act->World->Prop}(hgd:o.guard=none)(s x:Operand)(t:TypeId)
  (ho:o.op = .call { callee:=.builtin .append,args:=#[s,x],argTypes:=#[t,t] }) (e:TypeId) (ht:P.underlying t=some (.slice e)) (hel:El P e α)
  {L:Nat} {v:Value} {xs ys:List α} (hs:a.eval s=v) (hO:Oa e L w v xs []) {vx:Value} (hx:a.eval x=vx) (hy:Rs w vx ys) (hlen:xs.length+ys.length<=4294967296) (hL:L<=w.heap.size)
  (h:∀ v' w',Oa e L w' v' (xs++ys) []->w.grownBy w' v.ownBlock->wpList P ops Q rest (a.put o.dst v') w'):wpList P ops Q (o::rest) a w :=
 wpList_plain hgd fun _ hK=>wp_appF s x t ho e ht hel hs hO hx hy hlen hL fun v' w' h1 h2=>hK _ _ (h v' w' h1 h2)
theorem wp_lit0c{α:Type}[GT α][Fl α]{P:Program}{w:World}{o:Oper}{a:Act}{K:Act->World->Prop}{Q:Exit->Act->World->Prop}(s x:Operand)(t:TypeId)
  (ho:o.op = .call { callee:=.builtin .append,args:=#[s,x],argTypes:=#[t,t] }) (e:TypeId) (ht:P.underlying t=some (.slice e)) (hel:El P e α)
  {B:Nat} {ys:List α} (hs:a.eval s = .slice (some ⟨B,0,none⟩) 0 0) {vx:Value} (hx:a.eval x=vx) (hy:Rs w vx ys) (hne:ys ≠ []) (hlen:ys.length<=4294967296)
  (h:∀ cap C,Os w.heap.size (w.drew.alloc (.cells C e)) (.slice (some ⟨w.heap.size,0,none⟩) ys.length cap) ys->K (a.put o.dst (.slice (some ⟨w.heap.size,0,none⟩) ys.length cap)) (w.drew.alloc (.cells C e))):o.wp P a w K Q:=by
 obtain⟨F,ax,cx,rfl,hl,hc,⟨rfl,rfl⟩ | ⟨_,b,o',F',rfl,rfl,hr⟩⟩:=hy
 ·exact absurd rfl hne
 have hf:=hr.fl;subst hf;obtain⟨i,z,bytes,hi,hz,hsz,hby,hzc,hb⟩:=hel;have hzl:z.cells.size=GT.sz α:=by rw[<- GT.len (GT.zero (α:=α) w),<- hzc];simp
 obtain⟨news,hnl,hnat,hn1⟩:=hr.cells;have hadd:∀ (b' o' j:Nat),Addr.add ⟨b',o',none⟩ j=⟨b',o'+j,none⟩:=fun b' o' j=>by
  unfold Addr.add;split;·subst j;rfl
  ·rfl
 have hpos:0 < ys.length:=List.length_pos_iff.2 hne;have hbytes:(0+ys.length)*i.bytes<=140737488355328:=by
  rw[Nat.zero_add,hby]
  have:=Nat.mul_le_mul hlen hb
  omega
 have hrun:=run_append_grow (P:=P) w t o.type e i z ht hi hz ⟨B,0,none⟩ 0 0 [] (by simp) (fun j u hj=>by simp at hj) ⟨b,o',none⟩ ys.length cx news (by rw[hsz];exact hnl) (fun j u hj=>by rw[hadd];exact hnat j u hj) (by omega) (by omega) (growslice_fits (by omega) hbytes)
 rw[Nat.zero_add] at hrun;have hge:=grownCap_ge w ys.length 0 e;have hcm:grownCap w ys.length 0 e<=maxLen:=grownCap_le_maxLen w ys.length 0 e (by unfold maxLen;omega)
 unfold Oper.wp execOp;simp only[ho,resolve,invoke,builtin,Sem.run_bind,Sem.run_pure,Result.andThen_ok,List.map_toArray,List.map_cons,List.map_nil,hs,hx,hrun];refine h (grownCap w ys.length 0 e) _ ?_;have hB:(w.drew.alloc (.cells (([]:List Value).toArray++news.toArray++Builtin.zeroCells z.cells (grownCap w ys.length 0 e - ys.length)) e)).heap[w.heap.size]? = some (.cells (([]:List Value).toArray++news.toArray++Builtin.zeroCells z.cells (grownCap w ys.length 0 e - ys.length)) e (0,0)):=by
  show(w.heap.push _)[w.heap.size]? = _
  simp
 refine⟨[w.heap.size],⟨_,_,rfl,hge,hcm,.inr ⟨hne,w.heap.size,0,[],rfl,rfl,?_⟩⟩,by simp,fun k hk=>?_⟩
 ·refine hr.move (fun k hk=>by cases hk) fun j u hj hu=>?_
  have hj2:j < news.length:=by omega
  have h1:=hnat j news[j] (by simp[hj2])
  rw[h1] at hu;cases hu;rw[Nat.zero_add];refine(Bk.ofA hB).cell ?_;simp only[Array.toList_append,List.nil_append,List.append_assoc];rw[List.getElem?_append_left (by simpa using hj2)]
  simp[hj2]
 ·rw[List.mem_singleton] at hk;subst hk;exact⟨Nat.le_refl _,_,_,Bk.ofA hB⟩
theorem zMk{P:Program}{w:World}{o:Oper}{a:Act}{K:Act->World->Prop}{Q:Exit->Act->World->Prop}(s x:Operand)(t:TypeId)
  (ho:o.op = .call { callee:=.builtin .append,args:=#[s,x],argTypes:=#[t,t] }) (e:TypeId) (ht:P.underlying t=some (.slice e)) {α:Type} [GT α] (hel:El P e α)
  {B:Nat} (hs:a.eval s = .slice (some ⟨B,0,none⟩) 0 0) {ax:Option Addr} {cx n:Nat} (hx:a.eval x = .slice ax n cx) (hn:n=0)
  (h:K (a.put o.dst (.slice (some ⟨B,0,none⟩) 0 0)) w):o.wp P a w K Q:=by
 subst hn;obtain⟨i,z,bytes,hi,_⟩:=hel;have hr:=zEr (P:=P) (w:=w) t o.type e i ht hi (some ⟨B,0,none⟩) ax 0 0 cx (Nat.le_refl _);unfold Oper.wp execOp;simp only[ho,resolve,invoke,builtin,Sem.run_bind,Sem.run_pure,Result.andThen_ok,List.map_toArray,List.map_cons,List.map_nil,hs,hx,hr];exact h
theorem Own.grown{L:Nat}{w w':World}{F:List Nat}{row:Option Nat}(h:Own L w F)(hg:w.grownBy w' row)(hne:∀ k∈F,row≠some k):Own L w' F:=by
 refine⟨h.1,fun b hb=>⟨(h.2 b hb).1,?_⟩⟩
 obtain⟨_,cs,T,hbk⟩:=h.2 b hb;exact⟨cs,T,by unfold Bk at *;rw[hg.block b (Bk.lt hbk) (fun e=>hne b hb e.symm)];exact hbk⟩
theorem Sl.grown{α:Type}[GT α]{w w':World}{v:Value}{xs:List α}{F:List Nat}{row:Option Nat}(h:Sl w v xs F)(hg:w.grownBy w' row)(hne:∀ k∈F,row≠some k):Sl w' v xs F :=
 h.keep fun k hk=>hg.block k (h.inh k hk) (fun e=>hne k hk e.symm)
theorem zIf{α:Type}[GT α]{w w':World}{cs:List Value}{x : α}{F:List Nat}{row:Option Nat}(h:GT.enc w cs x F)(hg:w.grownBy w' row)(hne:∀ k∈F,row≠some k):GT.enc w' cs x F :=
 GT.keep h fun k hk=>hg.block k (GT.inh h k hk) (fun e=>hne k hk e.symm)
theorem Bk.grown{w w':World}{b:Nat}{cs:List Value}{T:TypeId}{row:Option Nat}(h:Bk w b cs T)(hg:w.grownBy w' row)(hne:row≠some b):Bk w' b cs T:=by
 have:=hg.block b h.lt (fun e=>hne e.symm)
 unfold Bk at *;rw[this];exact h
def Oo{α:Type}[GT α](e:TypeId)(L:Nat)(w:World)(v:Value)(xs:List α):Prop:=∃ F,Oa e L w v xs F/\Own L w F
theorem Oo.nil{α:Type}[GT α](e:TypeId)(L:Nat)(w:World):Oo (α:=α) e L w (.slice none 0 0) []:=⟨[],Oa.nil e L w,Own.nil _ _⟩
theorem Oo.lit0{α:Type}[GT α](e:TypeId)(w:World):Oo (α:=α) e w.heap.size (w.alloc (.cells #[] e (0,0))) (.slice (some ⟨w.heap.size,0,none⟩) 0 0) []:=⟨[],Oa.lit0 e w,Own.nil _ _⟩
theorem Oo.ext{α:Type}[GT α]{e:TypeId}{L:Nat}{w w':World}{v:Value}{xs:List α}(h:Oo e L w v xs)(he:Ext w w'):Oo e L w' v xs:=by
 obtain⟨F,h,o⟩:=h;exact⟨F,h.ext he,o.ext he⟩
theorem Oo.mono{α:Type}[GT α]{e:TypeId}{L L':Nat}{w:World}{v:Value}{xs:List α}(h:Oo e L w v xs)(hl:L'<=L):Oo e L' w v xs:=by
 obtain⟨F,h,o⟩:=h;exact⟨F,h.mono hl,o.mono hl⟩
theorem Oo.os{α:Type}[GT α]{e:TypeId}{L:Nat}{w:World}{v:Value}{xs:List α}(h:Oo e L w v xs):Os L w v xs:=by
 obtain⟨F,h,o⟩:=h;exact h.os o
theorem Oo.rs{α:Type}[GT α]{e:TypeId}{L:Nat}{w:World}{v:Value}{xs:List α}(h:Oo e L w v xs):Rs w v xs:=h.os.rs
theorem Oo.form{α:Type}[GT α]{e:TypeId}{L:Nat}{w:World}{v:Value}{xs:List α}(h:Oo e L w v xs):∃ a c,v = .slice a xs.length c/\xs.length<=9223372036854775807:=by
 obtain⟨F,h,o⟩:=h;exact h.form
theorem Oo.sh{α:Type}[GT α]{e:TypeId}{L:Nat}{w:World}{v:Value}{xs:List α}(h:Oo e L w v xs):∃ a n c,v = .slice a n c:=by
 obtain⟨a,c,rfl,_⟩:=h.form;exact⟨_,_,_,rfl⟩
theorem Oo.own{α:Type}[GT α]{e:TypeId}{L:Nat}{w:World}{v:Value}{xs:List α}(h:Oo e L w v xs):∀ k,v.ownBlock=some k->L<=k:=by
 obtain⟨F,h,o⟩:=h;exact h.own
theorem Oo.lt{α:Type}[GT α]{e:TypeId}{L:Nat}{w:World}{v:Value}{xs:List α}(h:Oo e L w v xs):∀ k,v.ownBlock=some k->k < w.heap.size:=by
 obtain⟨F,h,o⟩:=h;exact h.lt
theorem Oo.ofA{α:Type}[GT α][Fl α]{e:TypeId}{L:Nat}{w:World}{v:Value}{xs:List α}{F:List Nat}(h:Oa e L w v xs F):Oo e L w v xs:=by
 have:=h.fl;subst this;exact⟨[],h,Own.nil _ _⟩
theorem Oo.oa{α:Type}[GT α][Fl α]{e:TypeId}{L:Nat}{w:World}{v:Value}{xs:List α}(h:Oo e L w v xs):Oa e L w v xs []:=by
 obtain⟨F,h,o⟩:=h;have:=h.fl;subst this;exact h
theorem Row.lit1{α:Type}[GT α]{w:World}{cs:List Value}{x : α}{F:List Nat}{T:TypeId}(h:GT.enc w cs x F):Row (w.alloc (.cells cs.toArray T (0,0))) w.heap.size 0 [x] F :=
 Row.one (GT.ext h ((zr w).alloc _)) (fun j u hj=>by rw[Nat.zero_add];exact(Bk.new w cs T).cell hj)
theorem zMj{α:Type}[GT α]{P:Program}{u w:World}{o:Oper}{a:Act}{K:Act->World->Prop}{Q:Exit->Act->World->Prop}(s x:Operand)(t:TypeId)
  (ho:o.op = .call { callee:=.builtin .append,args:=#[s,x],argTypes:=#[t,t] }) (e:TypeId) (ht:P.underlying t=some (.slice e)) (hel:El P e α)
  {L:Nat} {v:Value} {xs ys:List α} {Fy:List Nat} (hs:a.eval s=v) (hO:Oo e L u v xs) (he:Ext u w) (hL:L<=u.heap.size) {ab ao m c:Nat} (hx:a.eval x = .slice (some ⟨ab,ao,none⟩) m c) (hm:ys.length=m) (hy:Row w ab ao ys Fy)
  (hm0:0 < m) (hown:Own u.heap.size w Fy) (hlen:xs.length+m<=4294967296)
  (h:∀ v' w',Oo e L w' v' (xs++ys)->w.grownBy w' v.ownBlock->(v'.ownBlock=v.ownBlock\/v'.ownBlock=some w.heap.size)->K (a.put o.dst v') w'):o.wp P a w K Q:=by
 have hlt:=hO.lt;obtain⟨F,hA,hF⟩:=hO;have hd:∀ k∈Fy,v.ownBlock≠some k:=fun k hk e=>by have:=(hown.2 k hk).1;have:=hlt k e;omega
 refine zKa s x t ho e ht hel hs (hA.ext he) hx hm hy hm0 hd hlen (Nat.le_trans hL he.sz) fun v' w' h1 h2 h3=>h v' w' ⟨_,h1,?_⟩ h2 h3
 have hnF:∀ k∈F,v.ownBlock≠some k:=fun k hk e=>by
  rcases hA with ⟨rfl,_,_⟩ | ⟨g,cap,cur,rfl,_,_,_,_,_,_,hg⟩
  ·cases e
  ·cases e;exact hg hk
 refine Own.grown (row:=v.ownBlock) (w:=w) (Own.app (hF.ext he) hown (fun b hb=>hF.lt hb) hL) h2 fun k hk=>?_
 rcases List.mem_append.1 hk with hk|hk
 ·exact hnF k hk
 ·exact hd k hk
theorem wp_appO{α:Type}[GT α]{P:Program}{u w:World}{o:Oper}{a:Act}{K:Act->World->Prop}{Q:Exit->Act->World->Prop}(s x:Operand)(t:TypeId)
  (ho:o.op = .call { callee:=.builtin .append,args:=#[s,x],argTypes:=#[t,t] }) (e:TypeId) (ht:P.underlying t=some (.slice e)) (hel:El P e α)
  {L:Nat} {v:Value} {xs ys:List α} {Fy:List Nat} (hs:a.eval s=v) (hO:Oo e L u v xs) (he:Ext u w) (hL:L<=u.heap.size) {ab ao m c:Nat} (hx:a.eval x = .slice (some ⟨ab,ao,none⟩) m c) (hm:ys.length=m) (hy:Row w ab ao ys Fy)
  (hm0:0 < m) (hown:Own u.heap.size w Fy) (hlen:xs.length+m<=4294967296)
  (h:∀ v' w',Oo e L w' v' (xs++ys)->w.grownBy w' v.ownBlock->K (a.put o.dst v') w'):o.wp P a w K Q :=
 zMj s x t ho e ht hel hs hO he hL hx hm hy hm0 hown hlen fun v' w' h1 h2 _=>h v' w' h1 h2
theorem zB9{α:Type}[GT α]{P:Program}{u w:World}{ops:Array Oper}{rest:List Oper}{o:Oper}{a:Act}{Q:Exit->Act->World->Prop}(hgd:o.guard=none)(s x:Operand)(t:TypeId)
  (ho:o.op = .call { callee:=.builtin .append,args:=#[s,x],argTypes:=#[t,t] }) (e:TypeId) (ht:P.underlying t=some (.slice e)) (hel:El P e α)
  {L:Nat} {v:Value} {xs ys:List α} {Fy:List Nat} (hs:a.eval s=v) (hO:Oo e L u v xs) (he:Ext u w) (hL:L<=u.heap.size) {ab ao m c:Nat} (hx:a.eval x = .slice (some ⟨ab,ao,none⟩) m c) (hm:ys.length=m) (hy:Row w ab ao ys Fy)
  (hm0:0 < m) (hown:Own u.heap.size w Fy) (hlen:xs.length+m<=4294967296)
  (h:∀ v' w',Oo e L w' v' (xs++ys)->w.grownBy w' v.ownBlock->wpList P ops Q rest (a.put o.dst v') w'):wpList P ops Q (o::rest) a w :=
 wpList_plain hgd fun _ hK=>wp_appO s x t ho e ht hel hs hO he hL hx hm hy hm0 hown hlen fun v' w' h1 h2=>hK _ _ (h v' w' h1 h2)
theorem zIx{α:Type}[GT α]{P:Program}{u w:World}{ops:Array Oper}{rest:List Oper}{o:Oper}{a:Act}{Q:Exit->Act->World->Prop}(hgd:o.guard=none)(s x:Operand)(t:TypeId)
  (ho:o.op = .call { callee:=.builtin .append,args:=#[s,x],argTypes:=#[t,t] }) (e:TypeId) (ht:P.underlying t=some (.slice e)) (hel:El P e α)
  {L:Nat} {v:Value} {xs ys:List α} {Fy:List Nat} (hs:a.eval s=v) (hO:Oo e L u v xs) (he:Ext u w) (hL:L<=u.heap.size) {ab ao m c:Nat} (hx:a.eval x = .slice (some ⟨ab,ao,none⟩) m c) (hm:ys.length=m) (hy:Row w ab ao ys Fy)
  (hm0:0 < m) (hown:Own u.heap.size w Fy) (hlen:xs.length+m<=4294967296)
  (h:∀ v' w',Oo e L w' v' (xs++ys)->w.grownBy w' v.ownBlock->(v'.ownBlock=v.ownBlock\/v'.ownBlock=some w.heap.size)->wpList P ops Q rest (a.put o.dst v') w'):wpList P ops Q (o::rest) a w :=
 wpList_plain hgd fun _ hK=>zMj s x t ho e ht hel hs hO he hL hx hm hy hm0 hown hlen fun v' w' h1 h2 h3=>hK _ _ (h v' w' h1 h2 h3)
end Sk
