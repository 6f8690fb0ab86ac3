/- Contracts of functions of the given program. -/
import Derived.ProofKit
import Derived.OpenShut
import Derived.Deep.Slices
import Derived.Test.YtfdeoepbnefckaaGreatBase
namespace Sk
open Go Go.RowKit
def Bk(w:World)(b:Nat)(cs:List Value)(T:TypeId):Prop:=w.heap[b]? = some (.cells cs.toArray T (0,0))
theorem Bk.ofA{w:World}{b:Nat}{cs:Array Value}{T:TypeId}(h:w.heap[b]? = some (.cells cs T (0,0))):Bk w b cs.toList T:=by unfold Bk;simpa using h
theorem Bk.cell{w:World}{b:Nat}{cs:List Value}{T:TypeId}(h:Bk w b cs T){j:Nat}{u:Value}(hj:cs[j]? = some u):w.cell? ⟨b,j,none⟩=some u:=by
 unfold Bk at h;simp[World.cell?,h,hj]
theorem Bk.k2{w:World}{b:Nat}{c0 c1:Value}{l:List Value}{T:TypeId}(h:Bk w b (c0::c1::l) T):w.cell? ⟨b,0,none⟩=some c0/\w.cell? ⟨b,1,none⟩=some c1:=⟨h.cell (j:=0) rfl,h.cell (j:=1) rfl⟩
theorem Bk.k3{w:World}{b:Nat}{c0 c1 c2:Value}{l:List Value}{T:TypeId}(h:Bk w b (c0::c1::c2::l) T):w.cell? ⟨b,0,none⟩=some c0/\w.cell? ⟨b,1,none⟩=some c1/\w.cell? ⟨b,2,none⟩=some c2:=⟨h.cell (j:=0) rfl,h.cell (j:=1) rfl,h.cell (j:=2) rfl⟩
theorem Bk.k4{w:World}{b:Nat}{c0 c1 c2 c3:Value}{l:List Value}{T:TypeId}(h:Bk w b (c0::c1::c2::c3::l) T):w.cell? ⟨b,0,none⟩=some c0/\w.cell? ⟨b,1,none⟩=some c1/\w.cell? ⟨b,2,none⟩=some c2/\w.cell? ⟨b,3,none⟩=some c3:=⟨h.cell (j:=0) rfl,h.cell (j:=1) rfl,h.cell (j:=2) rfl,h.cell (j:=3) rfl⟩
theorem Bk.k7{w:World}{b:Nat}{c0 c1 c2 c3 c4 c5 c6:Value}{l:List Value}{T:TypeId}(h:Bk w b (c0::c1::c2::c3::c4::c5::c6::l) T):w.cell? ⟨b,0,none⟩=some c0/\w.cell? ⟨b,1,none⟩=some c1/\w.cell? ⟨b,2,none⟩=some c2/\w.cell? ⟨b,3,none⟩=some c3/\w.cell? ⟨b,4,none⟩=some c4/\w.cell? ⟨b,5,none⟩=some c5/\w.cell? ⟨b,6,none⟩=some c6:=⟨h.cell (j:=0) rfl,h.cell (j:=1) rfl,h.cell (j:=2) rfl,h.cell (j:=3) rfl,h.cell (j:=4) rfl,h.cell (j:=5) rfl,h.cell (j:=6) rfl⟩
theorem Bk.fz{w:World}{b:Nat}{cs:List Value}{T:TypeId}(h:Bk w b cs T)(j:Nat):w.frozen? ⟨b,j,none⟩=false:=by
 unfold Bk at h;simp[World.frozen?,h]
theorem Bk.set{w:World}{b:Nat}{cs:List Value}{T:TypeId}(h:Bk w b cs T)(j:Nat)(u:Value):Bk (w.setCell ⟨b,j,none⟩ u) b (cs.set j u) T:=by
 unfold Bk at *;simp[World.setCell,Array.getElem?_modify,h]
theorem zA8{w:World}{p:Addr}{u:Value}{b:Nat}(hb:b≠p.block):(w.setCell p u).heap[b]? = w.heap[b]?:=Below.heap_setCell _ _ _ _ hb
theorem Bk.set_ne{w:World}{b:Nat}{cs:List Value}{T:TypeId}(h:Bk w b cs T){p:Addr}(hp:b≠p.block)(u:Value):Bk (w.setCell p u) b cs T:=by
 unfold Bk at *;rw[zA8 hp];exact h
theorem Bk.lt{w:World}{b:Nat}{cs:List Value}{T:TypeId}(h:Bk w b cs T):b < w.heap.size:=by
 unfold Bk at h;by_cases hb:b < w.heap.size
 ·exact hb
 ·rw[Array.getElem?_eq_none (by omega)] at h;cases h
theorem Bk.j3{w:World}{b:Nat}{c0 c1 c2:Value}{l:List Value}{T:TypeId}(h:Bk w b (c0::c1::c2::l) T):w.cell? ⟨b,0,none⟩=some c0/\w.cell? ⟨b,1,none⟩=some c1/\w.cell? ⟨b,2,none⟩=some c2/\b < w.heap.size:=⟨h.cell (j:=0) rfl,h.cell (j:=1) rfl,h.cell (j:=2) rfl,h.lt⟩
theorem Bk.j7{w:World}{b:Nat}{c0 c1 c2 c3 c4 c5 c6:Value}{l:List Value}{T:TypeId}(h:Bk w b (c0::c1::c2::c3::c4::c5::c6::l) T):w.cell? ⟨b,0,none⟩=some c0/\w.cell? ⟨b,1,none⟩=some c1/\w.cell? ⟨b,2,none⟩=some c2/\w.cell? ⟨b,3,none⟩=some c3/\w.cell? ⟨b,4,none⟩=some c4/\w.cell? ⟨b,5,none⟩=some c5/\w.cell? ⟨b,6,none⟩=some c6/\b < w.heap.size:=⟨h.cell (j:=0) rfl,h.cell (j:=1) rfl,h.cell (j:=2) rfl,h.cell (j:=3) rfl,h.cell (j:=4) rfl,h.cell (j:=5) rfl,h.cell (j:=6) rfl,h.lt⟩
theorem Bk.ext{w w':World}{b:Nat}{cs:List Value}{T:TypeId}(h:Bk w b cs T)(he:Ext w w'):Bk w' b cs T:=by
 have:=he.block b h.lt
 unfold Bk at *;rw[this];exact h
theorem Bk.new(w:World)(cs:List Value)(T:TypeId):Bk (w.alloc (.cells cs.toArray T (0,0))) w.heap.size cs T:=by
 unfold Bk World.alloc;simp
def Fz(w:World)(b:Nat):Prop:=∃ cs T,Bk w b cs T
theorem Fz.ext{w w':World}{b:Nat}(h:Fz w b)(he:Ext w w'):Fz w' b:=by obtain⟨cs,T,h⟩:=h;exact⟨cs,T,h.ext he⟩
theorem Fz.set{w:World}{b:Nat}(h:Fz w b)(p:Addr)(u:Value):Fz (w.setCell p u) b:=by
 obtain⟨cs,T,h⟩:=h;by_cases hb:b=p.block
 ·subst hb;unfold Bk at h;refine⟨_,T,Bk.ofA (cs:=if p.spot.isSome then cs.toArray else cs.toArray.setIfInBounds p.off u) ?_⟩
  simp[World.setCell,Array.getElem?_modify,h]
 ·exact⟨cs,T,h.set_ne hb u⟩
def Own(L:Nat)(w:World)(F:List Nat):Prop:=F.Nodup/\∀ b∈F,L<=b/\Fz w b
theorem Own.ext{L:Nat}{w w':World}{F:List Nat}(h:Own L w F)(he:Ext w w'):Own L w' F:=⟨h.1,fun b hb=>⟨(h.2 b hb).1,(h.2 b hb).2.ext he⟩⟩
theorem Own.mono{L L':Nat}{w:World}{F:List Nat}(h:Own L w F)(hl:L'<=L):Own L' w F:=⟨h.1,fun b hb=>⟨Nat.le_trans hl (h.2 b hb).1,(h.2 b hb).2⟩⟩
theorem Own.nil(L:Nat)(w:World):Own L w []:=⟨List.nodup_nil,fun b hb=>by cases hb⟩
theorem zk{V:Type}{u:World}{φ:V->List Nat->World->Prop}{G:World->World->Prop}{R:V->World->Prop}(hK:∀ v F w,Ext u w->(∀ w2,G w w2 -> φ v F w2)->Own u.heap.size w F->R v w)(v:V)(h:∀ w2,G u w2 -> φ v [] w2):R v u:=hK v [] u (zr u) h (Own.nil _ _)
theorem zs:(∀ {α:Type} {l:List α} {i:Nat} {a : α},l.toArray.setIfInBounds i a=(l.set i a).toArray)/\(∀ {α:Type} {x y : α} {l:List α},(x::l).set 0 y=y::l)/\(∀ {α:Type} {x y : α} {l:List α} {n:Nat},(x::l).set (n+1) y=x::l.set n y):=⟨List.setIfInBounds_toArray _ _ _,List.set_cons_zero,List.set_cons_succ⟩
theorem Own.app{L M:Nat}{w:World}{F G:List Nat}(h:Own L w F)(hG:Own M w G)(hF:∀ b∈F,b < M)(hl:L<=M):Own L w (F++G):=by
 refine⟨List.nodup_append.2 ⟨h.1,hG.1,fun a ha b hb e=>?_⟩,fun b hb=>?_⟩
 ·have:=hF a ha;have:=(hG.2 b hb).1;omega
 ·rcases List.mem_append.1 hb with hb|hb
  ·exact h.2 b hb
  ·exact⟨Nat.le_trans hl (hG.2 b hb).1,(hG.2 b hb).2⟩
theorem Own.set{L:Nat}{w:World}{F:List Nat}(h:Own L w F)(p:Addr)(u:Value):Own L (w.setCell p u) F:=⟨h.1,fun b hb=>⟨(h.2 b hb).1,(h.2 b hb).2.set p u⟩⟩
def Os{α:Type}[GT α](L:Nat)(w:World)(v:Value)(xs:List α):Prop:=∃ F,Sl w v xs F/\Own L w F
theorem Os.ext{α:Type}[GT α]{L:Nat}{w w':World}{v:Value}{xs:List α}(h:Os L w v xs)(he:Ext w w'):Os L w' v xs:=by
 obtain⟨F,h,o⟩:=h;exact⟨F,h.ext he,o.ext he⟩
theorem Os.rs{α:Type}[GT α]{L:Nat}{w:World}{v:Value}{xs:List α}(h:Os L w v xs):Rs w v xs:=by obtain⟨F,h,o⟩:=h;exact⟨F,h⟩
theorem Row.append{α:Type}[GT α]{w:World}{b:Nat}{xs ys:List α}:∀ {o:Nat} {F G:List Nat},Row w b o xs F->Row w b (o+xs.length*GT.sz α) ys G->Row w b o (xs++ys) (F++G):=by
 induction xs with
 | nil=>intro o F G h k;simp only[Row] at h;subst h;simpa using k
 | cons x xs ih =>
  intro o F G h k;obtain⟨cs,F1,F2,he,ha,rfl,hr⟩:=h;refine⟨cs,F1,F2++G,he,ha,by simp,ih hr ?_⟩
  rw[List.length_cons,Nat.succ_mul] at k;rw[show o+GT.sz α + xs.length*GT.sz α = o+(xs.length*GT.sz α + GT.sz α) by omega]
  exact k
theorem Row.one{α:Type}[GT α]{w:World}{b o:Nat}{x : α}{cs:List Value}{F:List Nat}(h:GT.enc w cs x F)(ha:At w b o cs):Row w b o [x] F :=
 ⟨cs,F,[],h,ha,by simp,rfl⟩
theorem Row.snoc{α:Type}[GT α]{w:World}{b o:Nat}{xs:List α}{x : α}{cs:List Value}{F G:List Nat}(h:Row w b o xs F)(hx:GT.enc w cs x G)
  (ha:At w b (o+xs.length*GT.sz α) cs):Row w b o (xs ++ [x]) (F++G):=h.append (.one hx ha)
theorem Row.split{α:Type}[GT α]{w:World}{b:Nat}{xs ys:List α}:∀ {o:Nat} {F:List Nat},Row w b o (xs++ys) F ->
  ∃ F1 F2,F=F1++F2/\Row w b o xs F1/\Row w b (o+xs.length*GT.sz α) ys F2:=by
 induction xs with
 | nil=>intro o F h;exact⟨[],F,rfl,rfl,by simpa using h⟩
 | cons x xs ih =>
  intro o F h;obtain⟨cs,F1,F2,he,ha,rfl,hr⟩:=h;obtain⟨G1,G2,rfl,h1,h2⟩:=ih hr;refine⟨F1++G1,G2,by simp,⟨cs,F1,G1,he,ha,rfl,h1⟩,?_⟩
  rw[List.length_cons,Nat.succ_mul,show o+(xs.length*GT.sz α + GT.sz α)=o+GT.sz α + xs.length*GT.sz α by omega]
  exact h2
theorem Row.move{α:Type}[GT α]{w w':World}{b b':Nat}{xs:List α}:∀ {o o':Nat} {F:List Nat},Row w b o xs F->(∀ k∈F,w'.heap[k]? = w.heap[k]?) ->
  (∀ j u,j < xs.length*GT.sz α -> w.cell? ⟨b,o+j,none⟩=some u->w'.cell? ⟨b',o'+j,none⟩=some u)->Row w' b' o' xs F:=by
 induction xs with
 | nil=>intro o o' F h _ _;exact h
 | cons x xs ih =>
  intro o o' F h hk hc;obtain⟨cs,F1,F2,he,ha,rfl,hr⟩:=h;have hlen:=GT.len he;refine⟨cs,F1,F2,GT.keep he (fun k hk'=>hk k (List.mem_append_left _ hk')),fun j u hj=>hc j u ?_ (ha j u hj),rfl,ih hr (fun k hk'=>hk k (List.mem_append_right _ hk')) fun j u hj hu=>?_⟩
  ·have:=(List.getElem?_eq_some_iff.1 hj).1
   rw[List.length_cons,Nat.succ_mul];omega
  ·have:=hc (GT.sz α + j) u (by rw[List.length_cons,Nat.succ_mul];omega) (by rw[<- Nat.add_assoc];exact hu)
   rw[<- Nat.add_assoc] at this;exact this
def zAq(w:World)(b:Nat):Nat->List Value->World
 | _,[]=>w
 | o,c::cs=>zAq (w.setCell ⟨b,o,none⟩ c) b (o+1) cs
theorem zBh{b:Nat}{cs:List Value}:∀ {w:World} {o:Nat} {k:Nat},k≠b->(zAq w b o cs).heap[k]? = w.heap[k]?:=by
 induction cs with
 | nil=>intro w o k _;rfl
 | cons c cs ih=>intro w o k hk;rw[zAq,ih hk,zA8 hk]
theorem zA6{w:World}{b o o':Nat}{u:Value}(h:o≠o'):(w.setCell ⟨b,o,none⟩ u).cell? ⟨b,o',none⟩=w.cell? ⟨b,o',none⟩ :=
 World.cell?_setCell_other _ _ _ _ (by intro e;cases e;exact h rfl)
theorem zEt{b:Nat}{cs:List Value}:∀ {w:World} {o o':Nat},(o' < o\/o+cs.length<=o')->(zAq w b o cs).cell? ⟨b,o',none⟩=w.cell? ⟨b,o',none⟩:=by
 induction cs with
 | nil=>intro w o o' _;rfl
 | cons c cs ih =>
  intro w o o' h;rw[List.length_cons] at h;rw[zAq,ih (by omega),zA6 (by omega)]
theorem zI3{b:Nat}{cs:List Value}:∀ {w:World} {o:Nat},(∀ j,j < cs.length->∃ u,w.cell? ⟨b,o+j,none⟩=some u)->At (zAq w b o cs) b o cs:=by
 induction cs with
 | nil=>intro w o _ j u hj;simp at hj
 | cons c cs ih =>
  intro w o h j u hj;have h0:=h 0 (by simp)
  simp only[Nat.add_zero] at h0;obtain⟨u0,h0⟩:=h0;cases j with
  | zero =>
   simp at hj;subst hj;rw[zAq,zEt (by omega)]
   exact World.cell?_setCell_same _ _ _ h0
  | succ j =>
   have:=ih (w:=w.setCell ⟨b,o,none⟩ c) (o:=o+1) (fun j hj=>by
    obtain⟨u,hu⟩:=h (j+1) (by rw[List.length_cons];omega)
    exact⟨u,by rw[zA6 (by omega),show o+1+j=o+(j+1) by omega];exact hu⟩) j u (by simpa using hj)
   rw[zAq,show o+(j+1)=o+1+j by omega]
   exact this
theorem zDr{b:Nat}{cs:List Value}:∀ {w:World} {o:Nat} {k:Nat},Fz w k->Fz (zAq w b o cs) k:=by
 induction cs with
 | nil=>intro w o k h;exact h
 | cons c cs ih=>intro w o k h;exact ih (h.set _ _)
theorem Own.put{L:Nat}{w:World}{F:List Nat}{b o:Nat}{cs:List Value}(h:Own L w F):Own L (zAq w b o cs) F :=
 ⟨h.1,fun k hk=>⟨(h.2 k hk).1,zDr (h.2 k hk).2⟩⟩
theorem Row.upd{α:Type}[GT α]{w w':World}{b:Nat}{y : α}{cs:List Value}{Fy:List Nat}{xs:List α}:∀ {o:Nat} {F:List Nat} (i:Nat),Row w b o xs F->i < xs.length ->
  (∀ k∈F,w'.heap[k]? = w.heap[k]?) ->
  (∀ o',(o' < o+i*GT.sz α \/ o+i*GT.sz α + GT.sz α <= o')->w'.cell? ⟨b,o',none⟩=w.cell? ⟨b,o',none⟩) ->
  GT.enc w' cs y Fy->At w' b (o+i*GT.sz α) cs ->
  ∃ F1 F0 F2:List Nat,F=F1++(F0++F2)/\(∃ cs0 x0,xs[i]? = some x0/\GT.enc w cs0 x0 F0/\At w b (o+i*GT.sz α) cs0)/\Row w' b o (xs.set i y) (F1++(Fy++F2)):=by
 induction xs with
 | nil=>intro o F i _ hi;cases hi
 | cons x xs ih =>
  intro o F i h hi hk hc hy hat;obtain⟨cs0,F1,F2,he,ha,rfl,hr⟩:=h;have hl0:=GT.len he;cases i with
  | zero =>
   refine⟨[],F1,F2,rfl,⟨cs0,x,rfl,he,by simpa using ha⟩,?_⟩
   refine⟨cs,Fy,F2,hy,by simpa using hat,rfl,hr.move (fun k hk'=>hk k (List.mem_append_right _ hk')) fun j u _ hu=>?_⟩
   rw[hc _ (by right;rw[Nat.zero_mul];omega)]
   exact hu
  | succ i =>
   rw[Nat.succ_mul] at hc hat;obtain⟨G1,G0,G2,rfl,⟨cs0',x',hx0,hx1,hx2⟩,hrow⟩:=ih (o:=o+GT.sz α) i hr (by simpa using hi) (fun k hk'=>hk k (List.mem_append_right _ hk'))
    (fun o' ho=>hc o' (by omega)) hy (by rw[show o+GT.sz α + i*GT.sz α = o+(i*GT.sz α + GT.sz α) by omega];exact hat)
   refine⟨F1++G1,G0,G2,by simp,⟨cs0',x',hx0,hx1,by rw[Nat.succ_mul,show o+(i*GT.sz α + GT.sz α)=o+GT.sz α + i*GT.sz α by omega];exact hx2⟩,?_⟩
   refine⟨cs0,F1,G1++(Fy++G2),GT.keep he (fun k hk'=>hk k (List.mem_append_left _ hk')),fun j u hj=>?_,by simp,hrow⟩
   have:=(List.getElem?_eq_some_iff.1 hj).1
   rw[hc _ (by left;omega)]
   exact ha j u hj
theorem zGj{α:Type}{xs:List α}{i:Nat}{y : α}(h:xs ≠ []):xs.set i y ≠ []:=by
 intro e
 have:=congrArg List.length e
 rw[List.length_set] at this;exact h (List.eq_nil_of_length_eq_zero this)
theorem zFt{F1 F0 F2 Fy:List Nat}(h:(F1++(F0++F2)).Nodup)(hy:Fy.Nodup)(hd:∀ k∈Fy,k ∉ F1/\k ∉ F2):(F1++(Fy++F2)).Nodup:=by
 simp only[List.nodup_append,List.mem_append] at *;obtain⟨h1,⟨h2,h3,h4⟩,h5⟩:=h;refine⟨h1,⟨hy,h3,fun a ha b hb e=>?_⟩,fun a ha b hb e=>?_⟩
 ·exact(hd a ha).2 (e ▸ hb)
 ·subst e;rcases hb with hb|hb
  ·exact(hd a hb).1 ha
  ·exact h5 a ha a (.inr hb) rfl
theorem Sl.put{α:Type}[GT α]{L:Nat}{w:World}{b o n c i:Nat}{xs:List α}{F Fy:List Nat}{y : α}{cs:List Value}
  (h:Sl w (.slice (some ⟨b,o,none⟩) n c) xs F) (ho:Own L w F) (hi:i < xs.length) (hy:GT.enc w cs y Fy) (hyo:Own L w Fy) (hd:∀ k∈Fy,k ∉ F) :
  ∃ F',Sl (zAq w b (o+i*GT.sz α) cs) (.slice (some ⟨b,o,none⟩) n c) (xs.set i y) F'/\Own L (zAq w b (o+i*GT.sz α) cs) F'/\∀ k∈F',k∈F\/k∈Fy:=by
 obtain⟨a,c',he,hl,hc,⟨rfl,rfl⟩ | ⟨hne,b',o',F',ha,rfl,hr⟩⟩:=h
 ·cases hi
 ·cases he;cases ha;have hnd:=List.nodup_cons.1 ho.1;have hbY:b ∉ Fy:=fun hb=>hd b hb (List.mem_cons_self ..)
  obtain⟨cs0,F1',x0,_,hx,hxa,_⟩:=hr.get i hi;have hlc:=GT.len hy;have hlc0:=GT.len hx;have hat:At (zAq w b (o+i*GT.sz α) cs) b (o+i*GT.sz α) cs:=zI3 fun j hj=>by
   have:j < cs0.length:=by omega
   exact⟨cs0[j],hxa j _ (by simp[this])⟩
  have hyk:GT.enc (zAq w b (o+i*GT.sz α) cs) cs y Fy:=GT.keep hy fun k hk=>zBh (fun e=>hbY (e ▸ hk))
  obtain⟨F1,F0,F2,rfl,_,hrow⟩:=hr.upd (w':=zAq w b (o+i*GT.sz α) cs) i hi (fun k hk=>zBh (fun e=>hnd.1 (e ▸ hk))) (fun o' ho'=>zEt (by omega)) hyk hat
  refine⟨b::(F1++(Fy++F2)),⟨_,c,by simp,by simpa using hl,hc,.inr ⟨zGj hne,b,o,_,rfl,rfl,hrow⟩⟩,⟨?_,?_⟩,?_⟩
  ·have hdy:∀ k∈Fy,k ∉ F1/\k ∉ F2:=fun k hk=>⟨fun h1=>hd k hk (by simp[h1]),fun h1=>hd k hk (by simp[h1])⟩
   refine List.nodup_cons.2 ⟨?_,zFt hnd.2 hyo.1 hdy⟩
   have:=hnd.1
   simp only[List.mem_append] at this ⊢;rintro(h1|h1|h1)
   ·exact this (.inl h1)
   ·exact hbY h1
   ·exact this (.inr (.inr h1))
  ·intro k hk;have hm:k∈b::(F1++(F0++F2))\/k∈Fy:=by
    simp only[List.mem_cons,List.mem_append] at hk ⊢;rcases hk with h1|h1|h1|h1<;>simp[h1]
   rcases hm with hm|hm
   ·exact⟨(ho.2 k hm).1,zDr (ho.2 k hm).2⟩
   ·exact⟨(hyo.2 k hm).1,zDr (hyo.2 k hm).2⟩
  ·intro k hk;simp only[List.mem_cons,List.mem_append] at hk ⊢;rcases hk with h1|h1|h1|h1<;>simp[h1]
def Ow{α:Type}[GT α](L:Nat)(w:World)(cs:List Value)(x : α):Prop:=∃ F,GT.enc w cs x F/\Own L w F
theorem Os.put{α:Type}[GT α]{L:Nat}{w w1:World}{b o n c i:Nat}{xs:List α}{y : α}{cs:List Value}
  (h:Os L w (.slice (some ⟨b,o,none⟩) n c) xs) (he:Ext w w1) (hi:i < xs.length) (hL:L<=w.heap.size) (hy:Ow w.heap.size w1 cs y) :
  Os L (zAq w1 b (o+i*GT.sz α) cs) (.slice (some ⟨b,o,none⟩) n c) (xs.set i y):=by
 obtain⟨F,hs,ho⟩:=h;obtain⟨Fy,hy,hyo⟩:=hy;obtain⟨F',h1,h2,_⟩:=(hs.ext he).put (ho.ext he) hi hy (hyo.mono hL) (fun k hk hk'=>by have:=(hyo.2 k hk).1;have:=hs.inh k hk';omega)
 exact⟨F',h1,h2⟩
theorem Os.form{α:Type}[GT α]{L:Nat}{w:World}{v:Value}{xs:List α}(h:Os L w v xs):∃ a c,v = .slice a xs.length c/\xs.length<=9223372036854775807:=h.rs.form
theorem Os.at{α:Type}[GT α]{L:Nat}{w:World}{a:Option Addr}{n c:Nat}{xs:List α}(h:Os L w (.slice a n c) xs)(k:Nat)(hk:k < xs.length) :
  ∃ b o cs F x,a=some ⟨b,o,none⟩/\Hid (xs[k]? = some x)/\L<=b/\GT.enc w cs x F/\At w b (o+k*GT.sz α) cs/\∀ j,w.frozen? ⟨b,j,none⟩=false:=by
 obtain⟨F,hs,ho⟩:=h;obtain⟨a',c',he,hl,hc,⟨rfl,rfl⟩ | ⟨hne,b,o,F',rfl,rfl,hr⟩⟩:=hs
 ·cases hk
 ·cases he;obtain⟨cs,F1,x,h0,h1,h2,_⟩:=hr.get k hk;obtain⟨hb1,cs',T,hb2⟩:=ho.2 b (List.mem_cons_self ..);exact⟨b,o,cs,F1,x,rfl,h0,hb1,h1,h2,hb2.fz⟩
theorem Row.zeros{α:Type}[GT α]{w:World}{b:Nat}{n:Nat}:∀ {o:Nat},(∀ j,j < n*GT.sz α -> w.cell? ⟨b,o+j,none⟩=(GT.zc α)[j % GT.sz α]?)->Row w b o (List.replicate n (default : α)) []:=by
 induction n with
 | zero=>intro o _;rfl
 | succ n ih =>
  intro o h;have hl:=GT.len (GT.zero (α:=α) w);have hp:=GT.pos (α:=α);refine⟨GT.zc α,[],[],GT.zero w,fun j u hj=>?_,rfl,ih fun j hj=>?_⟩
  ·have hj2:=(List.getElem?_eq_some_iff.1 hj).1
   have:=h j (by rw[Nat.succ_mul];omega)
   rw[Nat.mod_eq_of_lt (by omega)] at this
   rw[this,hj]
  ·have:=h (GT.sz α + j) (by rw[Nat.succ_mul];omega)
   rw[Nat.add_mod_left] at this;rw[Nat.add_assoc];exact this
theorem Os.made{α:Type}[GT α](w:World)(n:Nat)(T:TypeId)(z:Array Value)(d : α)(hz:z.toList=GT.zc α)(hd:default=d)(hn:n<=9223372036854775807) :
  Os (α:=α) w.heap.size (w.alloc (.cells (madeCells z (n*GT.sz α)) T)) (.slice (some ⟨w.heap.size,0,none⟩) n n) (List.replicate n d):=by
 subst hd;have hl:=GT.len (GT.zero (α:=α) w);have hp:=GT.pos (α:=α);have hzs:z.size=GT.sz α:=by rw[<- hl,<- hz];simp
 by_cases h0:n=0
 ·subst h0;exact⟨[],⟨_,0,rfl,Nat.le_refl _,Nat.zero_le _,.inl ⟨rfl,rfl⟩⟩,Own.nil _ _⟩
 ·have hB:(w.alloc (.cells (madeCells z (n*GT.sz α)) T)).heap[w.heap.size]? = some (.cells (madeCells z (n*GT.sz α)) T (0,0)):=by
   show(w.heap.push _)[w.heap.size]? = _
   simp
  refine⟨[w.heap.size],⟨some ⟨w.heap.size,0,none⟩,n,by simp,by simp,by simpa [maxLen] using hn,.inr ⟨by intro e;have:=congrArg List.length e;simp at this;exact h0 this,w.heap.size,0,[],rfl,rfl,Row.zeros fun j hj=>?_⟩⟩,?_⟩
  ·simp only[World.cell?,hB,Nat.zero_add];have hj2:j % GT.sz α < z.size:=by rw[hzs];exact Nat.mod_lt _ hp
   simp[madeCells,hj,<- hz,hzs];rw[getElem!_pos z (j % GT.sz α) hj2,Array.getElem?_eq_getElem hj2]
  ·refine⟨by simp,fun b hb=>?_⟩
   rw[List.mem_singleton] at hb;subst hb;exact⟨Nat.le_refl _,_,T,Bk.ofA hB⟩
open Go.ChangeAt Go.ChangeShapes Go.Deep Go.WideShapes
structure Rdr (P:Program) (t:TypeId) (α:Type) [GT α]:Prop where
 cells:P.cellsOf t=GT.sz α
 rd:∀ {H:Type} {enc:TypeId × Value->H} {w:World} {base:Nat} {spare:Nat->Bool} {held:Bool} {fuel:Nat} {cs:List Value} {x:DataW H × List MemPlace},
  DataW.trod enc P w base spare held fuel t cs=some x->∃ (y : α) (F:List Nat),GT.enc w cs y F
theorem zJo{n:Int}(h:(Lit.int .i64 n).wf=true):rng n:=by
 have:=bounds_i64 h
 exact⟨by omega,by omega⟩
theorem Rdr.int{P:Program}{t:TypeId}(ht:P.underlying t=some (.int .i64))(hc:P.cellsOf t=1):Rdr P t Int :=
 ⟨hc,fun h=>by
  obtain⟨n,rfl,_,hw⟩:=DataW.trod_int ht h;exact⟨n,[],rfl,zJo hw,rfl⟩⟩
theorem zGf{w:World}{base:Nat}{a:Addr}{n:Nat}{cs:List Value}(h:w.cells? base a n=some cs)(hn:0 < n):a.spot=none/\At w a.block a.off cs:=by
 obtain⟨_,hl,hc⟩:=World.cells?_some h;have hs:a.spot=none:=by
  have:=hc 0 hn
  rw[List.getElem?_eq_getElem (by omega)] at this
  simp only[Addr.add,if_true] at this;unfold World.cell? at this;cases hsp:a.spot with
  | none=>rfl
  | some s=>simp[hsp] at this;split at this<;>simp at this
 refine⟨hs,fun j u hj=>?_⟩
 have hjn:j < n:=by rw[<- hl];exact(List.getElem?_eq_some_iff.1 hj).1
 rw[<- hj,<- hc j hjn]
 congr 1
 unfold Addr.add;obtain⟨b,o,s⟩:=a;simp only at hs;subst hs
 split
 ·subst j;rfl
 ·rfl
theorem Rdr.row{P:Program}{e:TypeId}{α:Type}[GT α](he:Rdr P e α){H:Type}{enc:TypeId × Value->H}{w:World}{base:Nat}{spare:Nat->Bool}{held:Bool}{n:Nat}{D:Nat->DataW H}{Pl:Nat->List MemPlace}{b o:Nat} :
  ∀ (len i0:Nat),(∀ i,i < len->∃ cs',At w b (o+i0*GT.sz α + i*GT.sz α) cs'/\DataW.trod enc P w base spare held n e cs'=some (D (i0+i),Pl (i0+i))) ->
  ∃ (xs:List α) (F:List Nat),xs.length=len/\Row w b (o+i0*GT.sz α) xs F:=by
 intro len
 induction len with
 | zero=>intro i0 _;exact⟨[],[],rfl,rfl⟩
 | succ len ih =>
  intro i0 h;obtain⟨cs,hat,ht⟩:=h 0 (by omega)
  obtain⟨x,F1,hx⟩:=he.rd ht;obtain⟨xs,F,hl,hr⟩:=ih (i0+1) (fun i hi=>by
   obtain⟨cs',h1,h2⟩:=h (i+1) (by omega)
   refine⟨cs',?_,by rw[show i0+1+i=i0+(i+1) by omega];exact h2⟩
   rw[show o+(i0+1)*GT.sz α + i*GT.sz α = o+i0*GT.sz α + (i+1)*GT.sz α by rw[Nat.succ_mul,Nat.succ_mul];omega]
   exact h1)
  refine⟨x::xs,F1++F,by simp[hl],cs,F1,F,hx,by simpa using hat,rfl,?_⟩
  rw[show o+i0*GT.sz α + GT.sz α = o+(i0+1)*GT.sz α by rw[Nat.succ_mul];omega]
  exact hr
theorem Rdr.slice{P:Program}{t e:TypeId}{α:Type}[GT α](he:Rdr P e α)(ht:P.underlying t=some (.slice e))(hc:P.cellsOf t=1):Rdr P t (List α) :=
 ⟨hc,fun {H enc w base spare held fuel cs x} h=>by
  rcases open_slice ht h with ⟨rfl,_⟩ | ⟨a,len,cap,m,n,D,Pl,rfl,hb,hl,hm,hmm,rfl,hx⟩
  ·exact⟨[],[],_,rfl,none,0,rfl,Nat.le_refl _,Nat.zero_le _,.inl ⟨rfl,rfl⟩⟩
  ·have hlm:len<=m:=by rw[hmm];split<;>omega
   have hp:=GT.pos (α:=α);by_cases h0:len=0
   ·subst h0;exact⟨[],[],_,rfl,some a,cap,rfl,by simp,hm,.inl ⟨rfl,rfl⟩⟩
   ·have hspot:a.spot=none:=by
     obtain⟨cs',h1,_⟩:=hx 0 (by omega)
     rw[Nat.zero_mul] at h1;exact(zGf (a:=a.add 0) h1 (by rw[he.cells];omega)).1
    obtain⟨b,o,s⟩:=a;simp only at hspot;subst hspot;obtain⟨xs,F,hxl,hr⟩:=he.row (H:=H) (enc:=enc) (w:=w) (base:=base) (spare:=spare) (held:=held) (n:=n) (D:=D) (Pl:=Pl) (b:=b) (o:=o) len 0 (fun i hi=>by
     obtain⟨cs',h1,h2⟩:=hx i (by omega)
     rw[he.cells] at h1;refine⟨cs',?_,by rw[Nat.zero_add];exact h2⟩
     have:=(zGf h1 hp).2
     unfold Addr.add at this
     split at this
     ·rename_i hz
      simp only at this;rw[hz];simpa using this
     ·simpa using this)
    rw[Nat.zero_mul,Nat.add_zero] at hr;exact⟨xs,b::F,_,rfl,some ⟨b,o,none⟩,cap,by rw[hxl],by omega,hm,.inr ⟨by intro e;rw[e] at hxl;simp at hxl;omega,b,o,F,rfl,rfl,hr⟩⟩⟩
theorem zJi{H:Type}{enc:TypeId × Value->H}{P:Program}(hl:laidOutB P=true){W W':World}(hb:Ext W W') :
  ∀ (ts:List TypeId) {vs:List Value} {ds:List (DataW H)} {ps:List MemPlace},(∀ t∈ts,P.readableRec t=true/\t < P.types.size)->(∀ x∈ps,x.block < W.heap.size) ->
  DataW.TrodAll enc P W 0 (fun _=>true) true ts vs ds ps->DataW.TrodAll enc P W' 0 (fun b=>decide (b < W.heap.size)) true ts vs ds ps:=by
 intro ts
 induction ts with
 | nil=>intro vs ds ps _ _ h;obtain⟨rfl,rfl,rfl⟩:=trodAll_nil h;exact trodAll_mk0
 | cons t ts ih =>
  intro vs ds ps ht hlt h;obtain⟨v,vs',d,ds',p,q,rfl,rfl,rfl,h1,h2⟩:=trodAll_cons h;exact trodAll_cons_mk (Below.trod hl (ht t (List.mem_cons_self ..)).1 (ht t (List.mem_cons_self ..)).2 h1 hb (fun x hx=>hlt x (List.mem_append_left _ hx)))
   (ih (fun t h=>ht t (List.mem_cons_of_mem _ h)) (fun x hx=>hlt x (List.mem_append_right _ hx)) h2)
theorem law_post{H:Type}{enc:TypeId × Value->H}{P:Program}{f:Func}{s:ChangeSpec}{W W':World}{args:Array Value}{ds gs:List (DataW H)}{before:List MemPlace}{tb:TypeId}
  (hl:laidOutB P=true) (hvars:s.vars = []) (hts:∀ t∈f.params.toList,P.readableRec t=true/\t < P.types.size) (hres:f.resultTypes = #[tb]) (htb:P.underlying tb=some .bool)
  (hW:DataW.Whole enc P f.params.toList s.vars false W args.toList ds gs before) (hfn:(s.fn H (ds++gs)).results = [.lit (.bool true)]) (hfa:(s.fn H (ds++gs)).args=ds) (hfv:(s.fn H (ds++gs)).vars = [])
  (hb:Ext W W'):s.post enc P f false true false false W args (.bool true) W':=by
 have hW':=hW;obtain⟨p,q,hA,hV,rfl,hfz,hnd⟩:=hW;rw[hvars] at hV;obtain⟨rfl,rfl⟩:=trodVars_none hV;have hlt:=hW'.lt;refine⟨ds,[],p ++ [],[],p,[],hW',?_,?_,?_,hb.frame _,fun h=>by cases h⟩
 ·rw[hres,hfn];exact trodAll_mk1 (shut_bool htb _)
 ·rw[hfa];exact zJi hl hb _ hts (fun x hx=>hlt x (List.mem_append_left _ hx)) hA
 ·rw[hvars,hfv];rfl
end Sk
