/- Contracts of functions of the given program. -/
import Derived.Test.YtbhedbaafflndaaApp
import Derived.Test.YtbhedbaafflndaaScal
namespace Sk
open Go Go.Proofs Go.RowKit
set_option maxHeartbeats 400000
set_option maxRecDepth 100000
set_option linter.unusedVariables false
set_option linter.unusedSimpArgs false
theorem Bk.new1(w:World)(A:Obj)(cs:List Value)(T:TypeId):Bk ((w.alloc A).alloc (.cells cs.toArray T (0,0))) (w.heap.size+1) cs T:=by
 have h:=Bk.new (w.alloc A) cs T
 rwa [show(w.alloc A).heap.size=w.heap.size+1 by simp] at h
end Sk
