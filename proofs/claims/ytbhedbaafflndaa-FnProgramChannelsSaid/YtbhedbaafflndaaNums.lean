/- Contracts of functions of the given program. -/
import Derived.Test.YtbhedbaafflndaaApp
import Derived.Test.YtbhedbaafflndaaValid
namespace Sk
open Go Go.Proofs Go.RowKit
set_option maxHeartbeats 400000
set_option maxRecDepth 100000
set_option linter.unusedVariables false
set_option linter.unusedSimpArgs false
theorem elInt:El Try.prog 3 Int:=El.of (z:=.int .i64 0) (n:=1) (b:=8) (by kernel_rfl) rfl rfl (by decide)
def CI(w:World)(b:Nat):Nat->List Int->Prop
 | _,[]=>True
 | o,n::ns=>w.cell? ⟨b,o,none⟩=some (.int .i64 n)/\rng n/\CI w b (o+1) ns
theorem CI.row{w:World}{b:Nat}{ns:List Int}:∀ {o:Nat},CI w b o ns->Row w b o ns []:=by
 induction ns with
 | nil=>intro o _;rfl
 | cons n ns ih =>
  intro o h;exact⟨[.int .i64 n],[],[],⟨rfl,h.2.1,rfl⟩,fun j u hj=>by
   cases j with
   | zero=>simp at hj;subst hj;exact h.1
   | succ j=>simp at hj,rfl,ih h.2.2⟩
theorem rng_of{n:Int}(h1 : -9223372036854775808<=n)(h2:n<=9223372036854775807):rng n:=⟨h1,h2⟩
theorem zAc(v:Value)(xs:List Int)(w:World)(a:Option Addr)(c:Nat)(hv:v = .slice a xs.length c)(hc:xs.length<=c)(hl:c<=9223372036854775807) :
  Calls Try.prog 14 #[v] w fun e w'=>e = .returned (.slice a xs.length xs.length)/\w=w':=by
 subst hv;go_enter Try.func14,Try.ntmps14;go_wp2;go_ret;exact⟨rfl,rfl⟩
end Sk
