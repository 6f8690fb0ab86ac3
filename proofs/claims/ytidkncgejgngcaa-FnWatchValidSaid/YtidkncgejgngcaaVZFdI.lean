/- Contracts of functions of the given program. -/
import Derived.Test.YtidkncgejgngcaaTickB
namespace Sk
open Go Go.Proofs Go.RowKit
set_option maxHeartbeats 4000000
set_option maxRecDepth 100000
set_option linter.unusedVariables false
set_option linter.unusedSimpArgs false
theorem Om.ofBk{α:Type}[GT α]{L:Nat}{w:World}{b:Nat}{cs:List Value}{x : α}{F:List Nat}{T:TypeId}(hb:Bk w b cs T)(he:GT.enc w cs x F)(ho:Own L w F)(hL:L<=b)(hF:b ∉ F):Om L w b 0 x F :=
 ⟨cs,he,fun j u hj=>by rw[Nat.zero_add];exact hb.cell hj,List.nodup_cons.2 ⟨hF,ho.1⟩,fun k hk=>by
  rcases List.mem_cons.1 hk with rfl|hk
  ·exact⟨hL,_,_,hb⟩
  ·exact ho.2 k hk⟩
end Sk
