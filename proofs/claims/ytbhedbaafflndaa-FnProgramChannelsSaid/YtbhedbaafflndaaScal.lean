/- Contracts of functions of the given program. -/
import Derived.Test.YtbhedbaafflndaaChecked
import Derived.Test.YtbhedbaafflndaaTypes
namespace Sk
open Go Go.Proofs Go.RowKit
set_option maxHeartbeats 400000
set_option maxRecDepth 100000
set_option linter.unusedVariables false
set_option linter.unusedSimpArgs false
def zA1(n lo hi:Int):Bool:=decide (lo<=n) && decide (n<=hi)
theorem zA5{n lo hi:Int}:zA1 n lo hi=true ↔ lo<=n/\n<=hi:=by simp[zA1]
theorem zAr(n lo hi:Int)(w:World):Calls Try.prog 25 #[.int .i64 n,.int .i64 lo,.int .i64 hi] w fun e w'=>e = .returned (.bool (zA1 n lo hi))/\w=w':=by
 by_cases h1:lo<=n
 ·have hm:Hid (zA1 n lo hi=decide (n<=hi)):=by simp[zA1,h1,Hid]
  go_enter Try.func25,Try.ntmps25;go_wp2
  all_goals go_ret
  all_goals exact⟨by rw[hm.out];rfl,rfl⟩
 ·have hm:Hid (zA1 n lo hi=false):=by simp[zA1,h1,Hid]
  go_enter Try.func25,Try.ntmps25;go_wp2
  all_goals go_ret
  all_goals exact⟨by rw[hm.out];rfl,rfl⟩
theorem zAb(n lo hi:Int)(w:World):Calls Try.prog 19 #[.int .i64 n,.int .i64 lo,.int .i64 hi] w fun e w'=>e = .returned (.bool (zA1 n lo hi))/\w=w':=by
 by_cases h1:lo<=n
 ·have hm:Hid (zA1 n lo hi=decide (n<=hi)):=by simp[zA1,h1,Hid]
  go_enter Try.func19,Try.ntmps19;go_wp2
  all_goals go_ret
  all_goals exact⟨by rw[hm.out];rfl,rfl⟩
 ·have hm:Hid (zA1 n lo hi=false):=by simp[zA1,h1,Hid]
  go_enter Try.func19,Try.ntmps19;go_wp2
  all_goals go_ret
  all_goals exact⟨by rw[hm.out];rfl,rfl⟩
end Sk
