/- Contracts of functions of the given program. -/
import Derived.Test.YtbhedbaafflndaaLens
namespace Sk
open Go Go.RowKit
set_option linter.unusedVariables false
set_option linter.unusedSimpArgs false
class Fl (α:Type) [GT α]:Prop where
 nof:∀ {w:World} {cs:List Value} {x : α} {F:List Nat},GT.enc w cs x F->F = []
instance:Fl Int:=⟨by rintro w cs x F ⟨_,_,rfl⟩;rfl⟩
instance:Fl Order:=⟨by rintro w cs x F ⟨_,_,_,_,rfl⟩;rfl⟩
theorem Row.fl{α:Type}[GT α][Fl α]{w:World}{b:Nat}{xs:List α}:∀ {o:Nat} {F:List Nat},Row w b o xs F->F = []:=by
 induction xs with
 | nil=>intro o F h;exact h
 | cons x xs ih =>
  intro o F h;obtain⟨cs,F1,F2,he,ha,rfl,hr⟩:=h;rw[Fl.nof he,ih hr];rfl
theorem Oa.fl{α:Type}[GT α][Fl α]{e:TypeId}{L:Nat}{w:World}{v:Value}{xs:List α}{F:List Nat}(h:Oa e L w v xs F):F = []:=by
 rcases h with ⟨_,_,rfl⟩ | ⟨g,cap,cur,rfl,hL,hg,hl,hc,hs,hr,hn⟩
 ·rfl
 ·exact hr.fl
theorem Oa.osF{α:Type}[GT α][Fl α]{e:TypeId}{L:Nat}{w:World}{v:Value}{xs:List α}{F:List Nat}(h:Oa e L w v xs F):Os L w v xs:=by
 have:=h.fl;subst this;exact h.os (Own.nil _ _)
end Sk
