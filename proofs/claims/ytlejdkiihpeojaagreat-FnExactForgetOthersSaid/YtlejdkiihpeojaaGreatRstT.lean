/- Contracts of functions of the given program, and lemmas for them: each theorem states the condition under which it holds. -/
import Derived.Test.YtlejdkiihpeojaaGreatChecked
import Derived.Test.YtlejdkiihpeojaaGreatRst
import Derived.Test.YtlejdkiihpeojaaGreatNewT
import Derived.Test.YtlejdkiihpeojaaGreatMachV
import Derived.Test.YtlejdkiihpeojaaGreatFrame
import Derived.Test.YtlejdkiihpeojaaGreatValid
import Derived.Test.YtlejdkiihpeojaaGreatBuild
import Derived.Test.YtlejdkiihpeojaaGreatRds
import Derived.Test.YtlejdkiihpeojaaGreatApp
import Derived.Test.YtlejdkiihpeojaaGreatScal
import Derived.Test.YtlejdkiihpeojaaGreatRefc
import Derived.Test.YtlejdkiihpeojaaGreatChan
import Derived.Test.YtlejdkiihpeojaaGreatNums
import Derived.Test.YtlejdkiihpeojaaGreatFind
import Derived.Test.YtlejdkiihpeojaaGreatTot
import Derived.Test.YtlejdkiihpeojaaGreatAcc
import Derived.Test.YtlejdkiihpeojaaGreatFld
namespace Sk
open Go Go.Proofs Go.RowKit
set_option maxHeartbeats 1000000
set_option maxRecDepth 100000
set_option linter.unusedVariables false
set_option linter.unusedSimpArgs false
theorem M.clrK_get (n : Nat) (cs : List Channel) (hs : List Hold) (K : Nat) : ∀ (k : Nat) (h : Hold), (M.clrK n cs hs K)[k]? = some h → h = ⟨[]⟩ ∨ hs[k]? = some h := by
 induction K with
 | zero => intro k h hk; exact .inr hk
 | succ K ih =>
  intro k h hk
  rw [M.clrK_succ] at hk
  unfold M.clr1 at hk
  split at hk
  ·rw [List.getElem?_set] at hk
   split at hk
   ·split at hk
    ·exact .inl (Option.some.inj hk).symm
    ·cases hk
   ·exact ih k h hk
  ·exact ih k h hk
theorem M.fits_new {p : List Order} {c : Int} (h : M.prv p c = true) : M.fits (M.newCore c) p.length c = true := by
 have hb := M.prv_bd h
 obtain ⟨n, hn⟩ : ∃ n : Nat, c = n := ⟨c.toNat, by omega⟩
 subst hn
 rw [M.newCore_t (M.inn_iff.2 hb.2)]
 simp only [M.fits, M.vals, Bool.and_eq_true, M.inn_iff, List.all_eq_true, List.length_replicate, beq_self_eq_true]
 refine ⟨trivial, ⟨by omega, by omega⟩, fun x hx => ?_⟩
 obtain rfl := List.eq_of_mem_replicate hx
 exact ⟨by decide, by decide⟩
end Sk
namespace Sk
open Go Go.Proofs Go.RowKit
set_option maxHeartbeats 1000000
set_option linter.unusedVariables false
set_option linter.unusedSimpArgs false
def M.oz : Order := ⟨0, 0, 0⟩
/-- What a core of one's own looks like. -/
theorem Om.openC {L : Nat} {w : World} {b o : Nat} {c : Core} {F : List Nat} (h : Om L w b o c F) : ∃ a0 c0, w.cell? ⟨b, o, none⟩ = some (.slice a0 c.Cells.length c0) ∧ w.cell? ⟨b, o + 1, none⟩ = some (.int .i64 c.At) ∧ w.cell? ⟨b, o + 2, none⟩ = some (.bool c.Stopped) ∧ Rs w (.slice a0 c.Cells.length c0) c.Cells ∧ rng c.At := by
 obtain ⟨cs, ⟨v0, rfl, h0, h1⟩, hat, ho⟩ := h
 obtain ⟨a0, c0, rfl, _⟩ := id h0
 exact ⟨a0, c0, by simpa using hat 0 _ rfl, by simpa using hat 1 _ rfl, by simpa using hat 2 _ rfl, ⟨_, h0⟩, h1⟩
end Sk
namespace Sk
open Go Go.Proofs Go.RowKit
set_option maxHeartbeats 1000000
set_option linter.unusedVariables false
set_option linter.unusedSimpArgs false
theorem M.MV.csv {m : Machine} (h : M.MV m) : M.csv m.Plan.Channels m.Plan.Parts.length = true := by
 have := h.pg.set
 simp only [M.setv, Bool.and_eq_true] at this
 exact this.2.1
end Sk
