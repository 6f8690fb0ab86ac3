/- Contracts of functions of the given program. -/
import Derived.Deep.CutRange
import Derived.Test.YtbhedbaafflndaaRefc
import Derived.Test.YtbhedbaafflndaaFlows
import Derived.Test.YtbhedbaafflndaaBuild
import Derived.Test.YtbhedbaafflndaaSame
namespace Sk
open Go Go.Proofs Go.RowKit
set_option maxHeartbeats 4000000
set_option maxRecDepth 100000
set_option linter.unusedVariables false
set_option linter.unusedSimpArgs false
theorem Mo.bk{F:List Nat}{a b:World}{p:Nat}{cs:List Value}{T:TypeId}(h:Mo F a b)(k:Bk a p cs T)(hp:p ∉ F):Bk b p cs T:=(Mx.ofMo h).bk k hp
theorem Mo.cell{F:List Nat}{a b:World}(h:Mo F a b){p o:Nat}(hp:p ∉ F):b.cell? ⟨p,o,none⟩=a.cell? ⟨p,o,none⟩:=World.cell?_of_block (h.2.2.1 p hp)
theorem Oo.mo{α:Type}[GT α]{e:TypeId}{L:Nat}{w w':World}{v:Value}{xs:List α}{F:List Nat}(h:Oo e L w v xs)(k:Mo F w w')(hF:∀ x∈F,x < L):Oo e L w' v xs:=by
 obtain⟨G,h1,h2⟩:=h;exact⟨G,h1.keep (fun x hx=>k.2.2.1 x (fun hm=>by have:=h1.own x hx;have:=hF x hm;omega)) (fun x hx=>k.2.2.1 x (fun hm=>by have:=(h2.2 x hx).1;have:=hF x hm;omega)),k.own h2⟩
theorem Mo.drewN{F:List Nat}{a b:World}(h:Mo F a b)(n:Nat):Mo F a (b.drewN n):=by
 obtain⟨h1,h2,h3,h4⟩:=h;exact⟨h1,⟨h2.os,h2.tape,h2.output,Nat.le_refl _,fun b hb=>by cases hb⟩,h3,fun k hk=>(h4 k hk).ext ((zr _).drewN n)⟩
end Sk
