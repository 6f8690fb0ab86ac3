/- Contracts of functions of the given program. -/
import Derived.Test.YtbhedbaafflndaaDraw
namespace Sk
open Go Go.Proofs Go.RowKit
set_option maxHeartbeats 1600000
set_option maxRecDepth 100000
set_option linter.unusedVariables false
set_option linter.unusedSimpArgs false
theorem zA3{n:Int}(h1 : -1000000<=n)(h2:n<=1000000):rng n:=⟨by omega,by omega⟩
theorem PickR.lt{n k:Int}(h:PickR n k)(hn:1<=n):0<=k/\k < n:=⟨h.1,h.2.1 hn⟩
theorem zCc{u w':World}{b:Nat}{zs:List Int}{T:TypeId}{k n:Int}(hm:Mo [b] (u.alloc (.cells (zs.map fun z=>Value.int .i64 z).toArray T (0,0))) w')(hb:b < u.heap.size)(hk:PickR n k)(hn:n=zs.length)(hz:0 < zs.length) :
  ∃ z,w'.cell? ⟨u.heap.size,k.toNat,none⟩=some (.int .i64 z)/\z∈zs:=by
 have h1:=hk.lt (by omega)
 have hk2:k.toNat < zs.length:=by omega
 refine⟨zs[k.toNat],?_,List.getElem_mem _⟩;rw[hm.cell (by simp;omega)]
 refine(Bk.new u (zs.map fun z=>Value.int .i64 z) T).cell ?_
 simp[hk2]
end Sk
