/- Contracts of functions of the given program. -/
import Derived.Test.YtbhedbaafflndaaFlat
namespace Sk
open Go Go.RowKit
set_option linter.unusedVariables false
set_option linter.unusedSimpArgs false
theorem Own.grown{L:Nat}{w w':World}{F:List Nat}{row:Option Nat}(h:Own L w F)(hg:w.grownBy w' row)(hne:∀ k∈F,row≠some k):Own L w' F:=by
 refine⟨h.1,fun b hb=>⟨(h.2 b hb).1,?_⟩⟩
 obtain⟨_,cs,T,hbk⟩:=h.2 b hb;exact⟨cs,T,by unfold Bk at *;rw[hg.block b (Bk.lt hbk) (fun e=>hne b hb e.symm)];exact hbk⟩
def Oo{α:Type}[GT α](e:TypeId)(L:Nat)(w:World)(v:Value)(xs:List α):Prop:=∃ F,Oa e L w v xs F/\Own L w F
theorem Oo.lit0{α:Type}[GT α](e:TypeId)(w:World):Oo (α:=α) e w.heap.size (w.alloc (.cells #[] e (0,0))) (.slice (some ⟨w.heap.size,0,none⟩) 0 0) []:=⟨[],Oa.lit0 e w,Own.nil _ _⟩
theorem Oo.os{α:Type}[GT α]{e:TypeId}{L:Nat}{w:World}{v:Value}{xs:List α}(h:Oo e L w v xs):Os L w v xs:=by
 obtain⟨F,h,o⟩:=h;exact h.os o
theorem Oo.form{α:Type}[GT α]{e:TypeId}{L:Nat}{w:World}{v:Value}{xs:List α}(h:Oo e L w v xs):∃ a c,v = .slice a xs.length c/\xs.length<=9223372036854775807:=by
 obtain⟨F,h,o⟩:=h;exact h.form
theorem Oo.sh{α:Type}[GT α]{e:TypeId}{L:Nat}{w:World}{v:Value}{xs:List α}(h:Oo e L w v xs):∃ a n c,v = .slice a n c:=by
 obtain⟨a,c,rfl,_⟩:=h.form;exact⟨_,_,_,rfl⟩
theorem Oo.lt{α:Type}[GT α]{e:TypeId}{L:Nat}{w:World}{v:Value}{xs:List α}(h:Oo e L w v xs):∀ k,v.ownBlock=some k->k < w.heap.size:=by
 obtain⟨F,h,o⟩:=h;exact h.lt
theorem Row.lit1{α:Type}[GT α]{w:World}{cs:List Value}{x : α}{F:List Nat}{T:TypeId}(h:GT.enc w cs x F):Row (w.alloc (.cells cs.toArray T (0,0))) w.heap.size 0 [x] F :=
 Row.one (GT.ext h ((zr w).alloc _)) (fun j u hj=>by rw[Nat.zero_add];exact(Bk.new w cs T).cell hj)
end Sk
