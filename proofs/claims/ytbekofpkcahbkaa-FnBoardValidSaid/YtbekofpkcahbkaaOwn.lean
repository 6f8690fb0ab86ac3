/- Contracts of functions of the given program. -/
import Derived.Test.YtbekofpkcahbkaaBase
namespace Sk
open Go Go.RowKit
def Bk(w:World)(b:Nat)(cs:List Value)(T:TypeId):Prop:=w.heap[b]? = some (.cells cs.toArray T (0,0))
theorem Bk.ofA{w:World}{b:Nat}{cs:Array Value}{T:TypeId}(h:w.heap[b]? = some (.cells cs T (0,0))):Bk w b cs.toList T:=by unfold Bk;simpa using h
theorem Bk.cell{w:World}{b:Nat}{cs:List Value}{T:TypeId}(h:Bk w b cs T){j:Nat}{u:Value}(hj:cs[j]? = some u):w.cell? ⟨b,j,none⟩=some u:=by
 unfold Bk at h;simp[World.cell?,h,hj]
theorem Bk.k2{w:World}{b:Nat}{c0 c1:Value}{l:List Value}{T:TypeId}(h:Bk w b (c0::c1::l) T):w.cell? ⟨b,0,none⟩=some c0/\w.cell? ⟨b,1,none⟩=some c1:=⟨h.cell (j:=0) rfl,h.cell (j:=1) rfl⟩
theorem Bk.k3{w:World}{b:Nat}{c0 c1 c2:Value}{l:List Value}{T:TypeId}(h:Bk w b (c0::c1::c2::l) T):w.cell? ⟨b,0,none⟩=some c0/\w.cell? ⟨b,1,none⟩=some c1/\w.cell? ⟨b,2,none⟩=some c2:=⟨h.cell (j:=0) rfl,h.cell (j:=1) rfl,h.cell (j:=2) rfl⟩
theorem Bk.k4{w:World}{b:Nat}{c0 c1 c2 c3:Value}{l:List Value}{T:TypeId}(h:Bk w b (c0::c1::c2::c3::l) T):w.cell? ⟨b,0,none⟩=some c0/\w.cell? ⟨b,1,none⟩=some c1/\w.cell? ⟨b,2,none⟩=some c2/\w.cell? ⟨b,3,none⟩=some c3:=⟨h.cell (j:=0) rfl,h.cell (j:=1) rfl,h.cell (j:=2) rfl,h.cell (j:=3) rfl⟩
theorem Bk.k6{w:World}{b:Nat}{c0 c1 c2 c3 c4 c5:Value}{l:List Value}{T:TypeId}(h:Bk w b (c0::c1::c2::c3::c4::c5::l) T):w.cell? ⟨b,0,none⟩=some c0/\w.cell? ⟨b,1,none⟩=some c1/\w.cell? ⟨b,2,none⟩=some c2/\w.cell? ⟨b,3,none⟩=some c3/\w.cell? ⟨b,4,none⟩=some c4/\w.cell? ⟨b,5,none⟩=some c5:=⟨h.cell (j:=0) rfl,h.cell (j:=1) rfl,h.cell (j:=2) rfl,h.cell (j:=3) rfl,h.cell (j:=4) rfl,h.cell (j:=5) rfl⟩
theorem Bk.k7{w:World}{b:Nat}{c0 c1 c2 c3 c4 c5 c6:Value}{l:List Value}{T:TypeId}(h:Bk w b (c0::c1::c2::c3::c4::c5::c6::l) T):w.cell? ⟨b,0,none⟩=some c0/\w.cell? ⟨b,1,none⟩=some c1/\w.cell? ⟨b,2,none⟩=some c2/\w.cell? ⟨b,3,none⟩=some c3/\w.cell? ⟨b,4,none⟩=some c4/\w.cell? ⟨b,5,none⟩=some c5/\w.cell? ⟨b,6,none⟩=some c6:=⟨h.cell (j:=0) rfl,h.cell (j:=1) rfl,h.cell (j:=2) rfl,h.cell (j:=3) rfl,h.cell (j:=4) rfl,h.cell (j:=5) rfl,h.cell (j:=6) rfl⟩
theorem Bk.fz{w:World}{b:Nat}{cs:List Value}{T:TypeId}(h:Bk w b cs T)(j:Nat):w.frozen? ⟨b,j,none⟩=false:=by
 unfold Bk at h;simp[World.frozen?,h]
theorem Bk.set{w:World}{b:Nat}{cs:List Value}{T:TypeId}(h:Bk w b cs T)(j:Nat)(u:Value):Bk (w.setCell ⟨b,j,none⟩ u) b (cs.set j u) T:=by
 unfold Bk at *;simp[World.setCell,Array.getElem?_modify,h]
theorem zA3{w:World}{p:Addr}{u:Value}{b:Nat}(hb:b≠p.block):(w.setCell p u).heap[b]? = w.heap[b]?:=Below.heap_setCell _ _ _ _ hb
theorem Bk.set_ne{w:World}{b:Nat}{cs:List Value}{T:TypeId}(h:Bk w b cs T){p:Addr}(hp:b≠p.block)(u:Value):Bk (w.setCell p u) b cs T:=by
 unfold Bk at *;rw[zA3 hp];exact h
theorem Bk.lt{w:World}{b:Nat}{cs:List Value}{T:TypeId}(h:Bk w b cs T):b < w.heap.size:=by
 unfold Bk at h;by_cases hb:b < w.heap.size
 ·exact hb
 ·rw[Array.getElem?_eq_none (by omega)] at h;cases h
theorem Bk.j2{w:World}{b:Nat}{c0 c1:Value}{l:List Value}{T:TypeId}(h:Bk w b (c0::c1::l) T):w.cell? ⟨b,0,none⟩=some c0/\w.cell? ⟨b,1,none⟩=some c1/\b < w.heap.size:=⟨h.cell (j:=0) rfl,h.cell (j:=1) rfl,h.lt⟩
theorem Bk.ext{w w':World}{b:Nat}{cs:List Value}{T:TypeId}(h:Bk w b cs T)(he:Ext w w'):Bk w' b cs T:=by
 have:=he.block b h.lt
 unfold Bk at *;rw[this];exact h
theorem Bk.new(w:World)(cs:List Value)(T:TypeId):Bk (w.alloc (.cells cs.toArray T (0,0))) w.heap.size cs T:=by
 unfold Bk World.alloc;simp
def Fz(w:World)(b:Nat):Prop:=∃ cs T,Bk w b cs T
theorem Fz.ext{w w':World}{b:Nat}(h:Fz w b)(he:Ext w w'):Fz w' b:=by obtain⟨cs,T,h⟩:=h;exact⟨cs,T,h.ext he⟩
theorem Fz.set{w:World}{b:Nat}(h:Fz w b)(p:Addr)(u:Value):Fz (w.setCell p u) b:=by
 obtain⟨cs,T,h⟩:=h;by_cases hb:b=p.block
 ·subst hb;unfold Bk at h;refine⟨_,T,Bk.ofA (cs:=if p.spot.isSome then cs.toArray else cs.toArray.setIfInBounds p.off u) ?_⟩
  simp[World.setCell,Array.getElem?_modify,h]
 ·exact⟨cs,T,h.set_ne hb u⟩
def Own(L:Nat)(w:World)(F:List Nat):Prop:=F.Nodup/\∀ b∈F,L<=b/\Fz w b
theorem Own.ext{L:Nat}{w w':World}{F:List Nat}(h:Own L w F)(he:Ext w w'):Own L w' F:=⟨h.1,fun b hb=>⟨(h.2 b hb).1,(h.2 b hb).2.ext he⟩⟩
theorem Own.mono{L L':Nat}{w:World}{F:List Nat}(h:Own L w F)(hl:L'<=L):Own L' w F:=⟨h.1,fun b hb=>⟨Nat.le_trans hl (h.2 b hb).1,(h.2 b hb).2⟩⟩
theorem Own.nil(L:Nat)(w:World):Own L w []:=⟨List.nodup_nil,fun b hb=>by cases hb⟩
theorem zk{V:Type}{u:World}{φ:V->List Nat->World->Prop}{G:World->World->Prop}{R:V->World->Prop}(hK:∀ v F w,Ext u w->(∀ w2,G w w2 -> φ v F w2)->Own u.heap.size w F->R v w)(v:V)(h:∀ w2,G u w2 -> φ v [] w2):R v u:=hK v [] u (zr u) h (Own.nil _ _)
theorem zs:(∀ {α:Type} {l:List α} {i:Nat} {a : α},l.toArray.setIfInBounds i a=(l.set i a).toArray)/\(∀ {α:Type} {x y : α} {l:List α},(x::l).set 0 y=y::l)/\(∀ {α:Type} {x y : α} {l:List α} {n:Nat},(x::l).set (n+1) y=x::l.set n y):=⟨List.setIfInBounds_toArray _ _ _,List.set_cons_zero,List.set_cons_succ⟩
theorem Own.app{L M:Nat}{w:World}{F G:List Nat}(h:Own L w F)(hG:Own M w G)(hF:∀ b∈F,b < M)(hl:L<=M):Own L w (F++G):=by
 refine⟨List.nodup_append.2 ⟨h.1,hG.1,fun a ha b hb e=>?_⟩,fun b hb=>?_⟩
 ·have:=hF a ha;have:=(hG.2 b hb).1;omega
 ·rcases List.mem_append.1 hb with hb|hb
  ·exact h.2 b hb
  ·exact⟨Nat.le_trans hl (hG.2 b hb).1,(hG.2 b hb).2⟩
theorem Own.set{L:Nat}{w:World}{F:List Nat}(h:Own L w F)(p:Addr)(u:Value):Own L (w.setCell p u) F:=⟨h.1,fun b hb=>⟨(h.2 b hb).1,(h.2 b hb).2.set p u⟩⟩
def Os{α:Type}[GT α](L:Nat)(w:World)(v:Value)(xs:List α):Prop:=∃ F,Sl w v xs F/\Own L w F
theorem Os.ext{α:Type}[GT α]{L:Nat}{w w':World}{v:Value}{xs:List α}(h:Os L w v xs)(he:Ext w w'):Os L w' v xs:=by
 obtain⟨F,h,o⟩:=h;exact⟨F,h.ext he,o.ext he⟩
theorem Os.rs{α:Type}[GT α]{L:Nat}{w:World}{v:Value}{xs:List α}(h:Os L w v xs):Rs w v xs:=by obtain⟨F,h,o⟩:=h;exact⟨F,h⟩
theorem Row.append{α:Type}[GT α]{w:World}{b:Nat}{xs ys:List α}:∀ {o:Nat} {F G:List Nat},Row w b o xs F->Row w b (o+xs.length*GT.sz α) ys G->Row w b o (xs++ys) (F++G):=by
 induction xs with
 | nil=>intro o F G h k;simp only[Row] at h;subst h;simpa using k
 | cons x xs ih =>
  intro o F G h k;obtain⟨cs,F1,F2,he,ha,rfl,hr⟩:=h;refine⟨cs,F1,F2++G,he,ha,by simp,ih hr ?_⟩
  rw[List.length_cons,Nat.succ_mul] at k;rw[show o+GT.sz α + xs.length*GT.sz α = o+(xs.length*GT.sz α + GT.sz α) by omega]
  exact k
theorem Row.one{α:Type}[GT α]{w:World}{b o:Nat}{x : α}{cs:List Value}{F:List Nat}(h:GT.enc w cs x F)(ha:At w b o cs):Row w b o [x] F :=
 ⟨cs,F,[],h,ha,by simp,rfl⟩
theorem Row.split{α:Type}[GT α]{w:World}{b:Nat}{xs ys:List α}:∀ {o:Nat} {F:List Nat},Row w b o (xs++ys) F ->
  ∃ F1 F2,F=F1++F2/\Row w b o xs F1/\Row w b (o+xs.length*GT.sz α) ys F2:=by
 induction xs with
 | nil=>intro o F h;exact⟨[],F,rfl,rfl,by simpa using h⟩
 | cons x xs ih =>
  intro o F h;obtain⟨cs,F1,F2,he,ha,rfl,hr⟩:=h;obtain⟨G1,G2,rfl,h1,h2⟩:=ih hr;refine⟨F1++G1,G2,by simp,⟨cs,F1,G1,he,ha,rfl,h1⟩,?_⟩
  rw[List.length_cons,Nat.succ_mul,show o+(xs.length*GT.sz α + GT.sz α)=o+GT.sz α + xs.length*GT.sz α by omega]
  exact h2
theorem Row.move{α:Type}[GT α]{w w':World}{b b':Nat}{xs:List α}:∀ {o o':Nat} {F:List Nat},Row w b o xs F->(∀ k∈F,w'.heap[k]? = w.heap[k]?) ->
  (∀ j u,j < xs.length*GT.sz α -> w.cell? ⟨b,o+j,none⟩=some u->w'.cell? ⟨b',o'+j,none⟩=some u)->Row w' b' o' xs F:=by
 induction xs with
 | nil=>intro o o' F h _ _;exact h
 | cons x xs ih =>
  intro o o' F h hk hc;obtain⟨cs,F1,F2,he,ha,rfl,hr⟩:=h;have hlen:=GT.len he;refine⟨cs,F1,F2,GT.keep he (fun k hk'=>hk k (List.mem_append_left _ hk')),fun j u hj=>hc j u ?_ (ha j u hj),rfl,ih hr (fun k hk'=>hk k (List.mem_append_right _ hk')) fun j u hj hu=>?_⟩
  ·have:=(List.getElem?_eq_some_iff.1 hj).1
   rw[List.length_cons,Nat.succ_mul];omega
  ·have:=hc (GT.sz α + j) u (by rw[List.length_cons,Nat.succ_mul];omega) (by rw[<- Nat.add_assoc];exact hu)
   rw[<- Nat.add_assoc] at this;exact this
def zA8(w:World)(b:Nat):Nat->List Value->World
 | _,[]=>w
 | o,c::cs=>zA8 (w.setCell ⟨b,o,none⟩ c) b (o+1) cs
theorem zBk{b:Nat}{cs:List Value}:∀ {w:World} {o:Nat} {k:Nat},k≠b->(zA8 w b o cs).heap[k]? = w.heap[k]?:=by
 induction cs with
 | nil=>intro w o k _;rfl
 | cons c cs ih=>intro w o k hk;rw[zA8,ih hk,zA3 hk]
theorem zA7{w:World}{b o o':Nat}{u:Value}(h:o≠o'):(w.setCell ⟨b,o,none⟩ u).cell? ⟨b,o',none⟩=w.cell? ⟨b,o',none⟩ :=
 World.cell?_setCell_other _ _ _ _ (by intro e;cases e;exact h rfl)
theorem zEq{b:Nat}{cs:List Value}:∀ {w:World} {o o':Nat},(o' < o\/o+cs.length<=o')->(zA8 w b o cs).cell? ⟨b,o',none⟩=w.cell? ⟨b,o',none⟩:=by
 induction cs with
 | nil=>intro w o o' _;rfl
 | cons c cs ih =>
  intro w o o' h;rw[List.length_cons] at h;rw[zA8,ih (by omega),zA7 (by omega)]
theorem zDz{b:Nat}{cs:List Value}:∀ {w:World} {o:Nat},(∀ j,j < cs.length->∃ u,w.cell? ⟨b,o+j,none⟩=some u)->At (zA8 w b o cs) b o cs:=by
 induction cs with
 | nil=>intro w o _ j u hj;simp at hj
 | cons c cs ih =>
  intro w o h j u hj;have h0:=h 0 (by simp)
  simp only[Nat.add_zero] at h0;obtain⟨u0,h0⟩:=h0;cases j with
  | zero =>
   simp at hj;subst hj;rw[zA8,zEq (by omega)]
   exact World.cell?_setCell_same _ _ _ h0
  | succ j =>
   have:=ih (w:=w.setCell ⟨b,o,none⟩ c) (o:=o+1) (fun j hj=>by
    obtain⟨u,hu⟩:=h (j+1) (by rw[List.length_cons];omega)
    exact⟨u,by rw[zA7 (by omega),show o+1+j=o+(j+1) by omega];exact hu⟩) j u (by simpa using hj)
   rw[zA8,show o+(j+1)=o+1+j by omega]
   exact this
theorem zBq{b:Nat}{cs:List Value}:∀ {w:World} {o:Nat} {k:Nat},Fz w k->Fz (zA8 w b o cs) k:=by
 induction cs with
 | nil=>intro w o k h;exact h
 | cons c cs ih=>intro w o k h;exact ih (h.set _ _)
theorem Own.put{L:Nat}{w:World}{F:List Nat}{b o:Nat}{cs:List Value}(h:Own L w F):Own L (zA8 w b o cs) F :=
 ⟨h.1,fun k hk=>⟨(h.2 k hk).1,zBq (h.2 k hk).2⟩⟩
theorem Row.upd{α:Type}[GT α]{w w':World}{b:Nat}{y : α}{cs:List Value}{Fy:List Nat}{xs:List α}:∀ {o:Nat} {F:List Nat} (i:Nat),Row w b o xs F->i < xs.length ->
  (∀ k∈F,w'.heap[k]? = w.heap[k]?) ->
  (∀ o',(o' < o+i*GT.sz α \/ o+i*GT.sz α + GT.sz α <= o')->w'.cell? ⟨b,o',none⟩=w.cell? ⟨b,o',none⟩) ->
  GT.enc w' cs y Fy->At w' b (o+i*GT.sz α) cs ->
  ∃ F1 F0 F2:List Nat,F=F1++(F0++F2)/\(∃ cs0 x0,xs[i]? = some x0/\GT.enc w cs0 x0 F0/\At w b (o+i*GT.sz α) cs0)/\Row w' b o (xs.set i y) (F1++(Fy++F2)):=by
 induction xs with
 | nil=>intro o F i _ hi;cases hi
 | cons x xs ih =>
  intro o F i h hi hk hc hy hat;obtain⟨cs0,F1,F2,he,ha,rfl,hr⟩:=h;have hl0:=GT.len he;cases i with
  | zero =>
   refine⟨[],F1,F2,rfl,⟨cs0,x,rfl,he,by simpa using ha⟩,?_⟩
   refine⟨cs,Fy,F2,hy,by simpa using hat,rfl,hr.move (fun k hk'=>hk k (List.mem_append_right _ hk')) fun j u _ hu=>?_⟩
   rw[hc _ (by right;rw[Nat.zero_mul];omega)]
   exact hu
  | succ i =>
   rw[Nat.succ_mul] at hc hat;obtain⟨G1,G0,G2,rfl,⟨cs0',x',hx0,hx1,hx2⟩,hrow⟩:=ih (o:=o+GT.sz α) i hr (by simpa using hi) (fun k hk'=>hk k (List.mem_append_right _ hk'))
    (fun o' ho=>hc o' (by omega)) hy (by rw[show o+GT.sz α + i*GT.sz α = o+(i*GT.sz α + GT.sz α) by omega];exact hat)
   refine⟨F1++G1,G0,G2,by simp,⟨cs0',x',hx0,hx1,by rw[Nat.succ_mul,show o+(i*GT.sz α + GT.sz α)=o+GT.sz α + i*GT.sz α by omega];exact hx2⟩,?_⟩
   refine⟨cs0,F1,G1++(Fy++G2),GT.keep he (fun k hk'=>hk k (List.mem_append_left _ hk')),fun j u hj=>?_,by simp,hrow⟩
   have:=(List.getElem?_eq_some_iff.1 hj).1
   rw[hc _ (by left;omega)]
   exact ha j u hj
theorem zG0{α:Type}{xs:List α}{i:Nat}{y : α}(h:xs ≠ []):xs.set i y ≠ []:=by
 intro e
 have:=congrArg List.length e
 rw[List.length_set] at this;exact h (List.eq_nil_of_length_eq_zero this)
theorem zFc{F1 F0 F2 Fy:List Nat}(h:(F1++(F0++F2)).Nodup)(hy:Fy.Nodup)(hd:∀ k∈Fy,k ∉ F1/\k ∉ F2):(F1++(Fy++F2)).Nodup:=by
 simp only[List.nodup_append,List.mem_append] at *;obtain⟨h1,⟨h2,h3,h4⟩,h5⟩:=h;refine⟨h1,⟨hy,h3,fun a ha b hb e=>?_⟩,fun a ha b hb e=>?_⟩
 ·exact(hd a ha).2 (e ▸ hb)
 ·subst e;rcases hb with hb|hb
  ·exact(hd a hb).1 ha
  ·exact h5 a ha a (.inr hb) rfl
theorem Sl.put{α:Type}[GT α]{L:Nat}{w:World}{b o n c i:Nat}{xs:List α}{F Fy:List Nat}{y : α}{cs:List Value}
  (h:Sl w (.slice (some ⟨b,o,none⟩) n c) xs F) (ho:Own L w F) (hi:i < xs.length) (hy:GT.enc w cs y Fy) (hyo:Own L w Fy) (hd:∀ k∈Fy,k ∉ F) :
  ∃ F',Sl (zA8 w b (o+i*GT.sz α) cs) (.slice (some ⟨b,o,none⟩) n c) (xs.set i y) F'/\Own L (zA8 w b (o+i*GT.sz α) cs) F'/\∀ k∈F',k∈F\/k∈Fy:=by
 obtain⟨a,c',he,hl,hc,⟨rfl,rfl⟩ | ⟨hne,b',o',F',ha,rfl,hr⟩⟩:=h
 ·cases hi
 ·cases he;cases ha;have hnd:=List.nodup_cons.1 ho.1;have hbY:b ∉ Fy:=fun hb=>hd b hb (List.mem_cons_self ..)
  obtain⟨cs0,F1',x0,_,hx,hxa,_⟩:=hr.get i hi;have hlc:=GT.len hy;have hlc0:=GT.len hx;have hat:At (zA8 w b (o+i*GT.sz α) cs) b (o+i*GT.sz α) cs:=zDz fun j hj=>by
   have:j < cs0.length:=by omega
   exact⟨cs0[j],hxa j _ (by simp[this])⟩
  have hyk:GT.enc (zA8 w b (o+i*GT.sz α) cs) cs y Fy:=GT.keep hy fun k hk=>zBk (fun e=>hbY (e ▸ hk))
  obtain⟨F1,F0,F2,rfl,_,hrow⟩:=hr.upd (w':=zA8 w b (o+i*GT.sz α) cs) i hi (fun k hk=>zBk (fun e=>hnd.1 (e ▸ hk))) (fun o' ho'=>zEq (by omega)) hyk hat
  refine⟨b::(F1++(Fy++F2)),⟨_,c,by simp,by simpa using hl,hc,.inr ⟨zG0 hne,b,o,_,rfl,rfl,hrow⟩⟩,⟨?_,?_⟩,?_⟩
  ·have hdy:∀ k∈Fy,k ∉ F1/\k ∉ F2:=fun k hk=>⟨fun h1=>hd k hk (by simp[h1]),fun h1=>hd k hk (by simp[h1])⟩
   refine List.nodup_cons.2 ⟨?_,zFc hnd.2 hyo.1 hdy⟩
   have:=hnd.1
   simp only[List.mem_append] at this ⊢;rintro(h1|h1|h1)
   ·exact this (.inl h1)
   ·exact hbY h1
   ·exact this (.inr (.inr h1))
  ·intro k hk;have hm:k∈b::(F1++(F0++F2))\/k∈Fy:=by
    simp only[List.mem_cons,List.mem_append] at hk ⊢;rcases hk with h1|h1|h1|h1<;>simp[h1]
   rcases hm with hm|hm
   ·exact⟨(ho.2 k hm).1,zBq (ho.2 k hm).2⟩
   ·exact⟨(hyo.2 k hm).1,zBq (hyo.2 k hm).2⟩
  ·intro k hk;simp only[List.mem_cons,List.mem_append] at hk ⊢;rcases hk with h1|h1|h1|h1<;>simp[h1]
def Ow{α:Type}[GT α](L:Nat)(w:World)(cs:List Value)(x : α):Prop:=∃ F,GT.enc w cs x F/\Own L w F
theorem Os.put{α:Type}[GT α]{L:Nat}{w w1:World}{b o n c i:Nat}{xs:List α}{y : α}{cs:List Value}
  (h:Os L w (.slice (some ⟨b,o,none⟩) n c) xs) (he:Ext w w1) (hi:i < xs.length) (hL:L<=w.heap.size) (hy:Ow w.heap.size w1 cs y) :
  Os L (zA8 w1 b (o+i*GT.sz α) cs) (.slice (some ⟨b,o,none⟩) n c) (xs.set i y):=by
 obtain⟨F,hs,ho⟩:=h;obtain⟨Fy,hy,hyo⟩:=hy;obtain⟨F',h1,h2,_⟩:=(hs.ext he).put (ho.ext he) hi hy (hyo.mono hL) (fun k hk hk'=>by have:=(hyo.2 k hk).1;have:=hs.inh k hk';omega)
 exact⟨F',h1,h2⟩
theorem Os.form{α:Type}[GT α]{L:Nat}{w:World}{v:Value}{xs:List α}(h:Os L w v xs):∃ a c,v = .slice a xs.length c/\xs.length<=9223372036854775807:=h.rs.form
theorem Os.at{α:Type}[GT α]{L:Nat}{w:World}{a:Option Addr}{n c:Nat}{xs:List α}(h:Os L w (.slice a n c) xs)(k:Nat)(hk:k < xs.length) :
  ∃ b o cs F x,a=some ⟨b,o,none⟩/\Hid (xs[k]? = some x)/\L<=b/\GT.enc w cs x F/\At w b (o+k*GT.sz α) cs/\∀ j,w.frozen? ⟨b,j,none⟩=false:=by
 obtain⟨F,hs,ho⟩:=h;obtain⟨a',c',he,hl,hc,⟨rfl,rfl⟩ | ⟨hne,b,o,F',rfl,rfl,hr⟩⟩:=hs
 ·cases hk
 ·cases he;obtain⟨cs,F1,x,h0,h1,h2,_⟩:=hr.get k hk;obtain⟨hb1,cs',T,hb2⟩:=ho.2 b (List.mem_cons_self ..);exact⟨b,o,cs,F1,x,rfl,h0,hb1,h1,h2,hb2.fz⟩
theorem Row.zeros{α:Type}[GT α]{w:World}{b:Nat}{n:Nat}:∀ {o:Nat},(∀ j,j < n*GT.sz α -> w.cell? ⟨b,o+j,none⟩=(GT.zc α)[j % GT.sz α]?)->Row w b o (List.replicate n (default : α)) []:=by
 induction n with
 | zero=>intro o _;rfl
 | succ n ih =>
  intro o h;have hl:=GT.len (GT.zero (α:=α) w);have hp:=GT.pos (α:=α);refine⟨GT.zc α,[],[],GT.zero w,fun j u hj=>?_,rfl,ih fun j hj=>?_⟩
  ·have hj2:=(List.getElem?_eq_some_iff.1 hj).1
   have:=h j (by rw[Nat.succ_mul];omega)
   rw[Nat.mod_eq_of_lt (by omega)] at this
   rw[this,hj]
  ·have:=h (GT.sz α + j) (by rw[Nat.succ_mul];omega)
   rw[Nat.add_mod_left] at this;rw[Nat.add_assoc];exact this
theorem Os.made{α:Type}[GT α](w:World)(n:Nat)(T:TypeId)(z:Array Value)(d : α)(hz:z.toList=GT.zc α)(hd:default=d)(hn:n<=9223372036854775807) :
  Os (α:=α) w.heap.size (w.alloc (.cells (madeCells z (n*GT.sz α)) T)) (.slice (some ⟨w.heap.size,0,none⟩) n n) (List.replicate n d):=by
 subst hd;have hl:=GT.len (GT.zero (α:=α) w);have hp:=GT.pos (α:=α);have hzs:z.size=GT.sz α:=by rw[<- hl,<- hz];simp
 by_cases h0:n=0
 ·subst h0;exact⟨[],⟨_,0,rfl,Nat.le_refl _,Nat.zero_le _,.inl ⟨rfl,rfl⟩⟩,Own.nil _ _⟩
 ·have hB:(w.alloc (.cells (madeCells z (n*GT.sz α)) T)).heap[w.heap.size]? = some (.cells (madeCells z (n*GT.sz α)) T (0,0)):=by
   show(w.heap.push _)[w.heap.size]? = _
   simp
  refine⟨[w.heap.size],⟨some ⟨w.heap.size,0,none⟩,n,by simp,by simp,by simpa [maxLen] using hn,.inr ⟨by intro e;have:=congrArg List.length e;simp at this;exact h0 this,w.heap.size,0,[],rfl,rfl,Row.zeros fun j hj=>?_⟩⟩,?_⟩
  ·simp only[World.cell?,hB,Nat.zero_add];have hj2:j % GT.sz α < z.size:=by rw[hzs];exact Nat.mod_lt _ hp
   simp[madeCells,hj,<- hz,hzs];rw[getElem!_pos z (j % GT.sz α) hj2,Array.getElem?_eq_getElem hj2]
  ·refine⟨by simp,fun b hb=>?_⟩
   rw[List.mem_singleton] at hb;subst hb;exact⟨Nat.le_refl _,_,T,Bk.ofA hB⟩
end Sk
