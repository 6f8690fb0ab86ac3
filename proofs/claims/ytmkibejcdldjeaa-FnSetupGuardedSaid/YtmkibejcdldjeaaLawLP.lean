/- Contracts of functions of the given program, and lemmas for them: each theorem states the condition under which it holds. -/
import Derived.Test.YtmkibejcdldjeaaChecked
import Derived.Deep.CutBlock
import Derived.Deep.CutRange
import Derived.Test.YtmkibejcdldjeaaCopy
import Derived.Test.YtmkibejcdldjeaaBuild
import Derived.Test.YtmkibejcdldjeaaRead
import Derived.Test.YtmkibejcdldjeaaTypes
import Derived.Test.YtmkibejcdldjeaaNums
import Derived.Test.YtmkibejcdldjeaaGaps
import Derived.Test.YtmkibejcdldjeaaClash
import Derived.Test.YtmkibejcdldjeaaAcc
import Derived.Test.YtmkibejcdldjeaaDrawPV
import Derived.Test.YtmkibejcdldjeaaFoc
import Derived.Test.YtmkibejcdldjeaaDrawW
import Derived.Test.YtmkibejcdldjeaaParse
namespace Sk
open Go Go.Proofs Go.RowKit
set_option maxHeartbeats 1600000
set_option maxRecDepth 100000
set_option linter.unusedVariables false
set_option linter.unusedSimpArgs false
theorem rs_one {w : World} {T : TypeId} {z : Int} (h : rng z) : Rs (w.alloc (.cells #[.int .i64 z] T)) (.slice (some ⟨w.heap.size, 0, none⟩) 1 1) [z] :=
  ⟨[w.heap.size], _, 1, rfl, by simp, by unfold maxLen; omega, .inr ⟨by simp, w.heap.size, 0, [], rfl, rfl, Row.lit1 (cs := [.int .i64 z]) ⟨rfl, h, rfl⟩⟩⟩
theorem Rs.row {α : Type} [GT α] [Fl α] {w : World} {a : Option Addr} {n c : Nat} {xs : List α} (h : Rs w (.slice a n c) xs) (hx : 0 < xs.length) : ∃ g o, a = some ⟨g, o, none⟩ ∧ n = xs.length ∧ Row w g o xs [] := by
  obtain ⟨F, a', c', he, hl, hc, hr⟩ := h
  cases he
  rcases hr with ⟨rfl, _⟩ | ⟨_, b, o, F', rfl, rfl, hr⟩
  · cases hx
  · have := hr.fl
    subst this
    exact ⟨b, o, rfl, rfl, hr⟩
theorem Os.own1 {α : Type} [GT α] [Fl α] {e : TypeId} {L : Nat} {w : World} {v : Value} {xs : List α} (h : Oo e L w v xs) : ∃ F, GT.enc w [v] xs F ∧ Own L w F := by
  obtain ⟨F, h1, h2⟩ := h.os
  exact ⟨F, ⟨v, rfl, h1⟩, h2⟩
end Sk

namespace Sk
open Go Go.Proofs Go.RowKit
set_option maxHeartbeats 800000
set_option maxRecDepth 100000
set_option linter.unusedVariables false
set_option linter.unusedSimpArgs false
theorem Mx.own {F G : List Nat} {L : Nat} {a b : World} (h : Mx F a b) (ho : Own L a G) : Own L b G := ⟨ho.1, fun x hx => ⟨(ho.2 x hx).1, h.2.2.2 x (ho.2 x hx).2⟩⟩
theorem mkT_ct_Setup (x : Setup) (k : Int) : (x.mkT k).ctT = x.ctT := GT.mkE_ct _ _
theorem mkT_idem_Setup (x : Setup) (k : Int) : (x.mkT k).mkT k = x.mkT k := GT.mkE_idem _ _
theorem mkT_ct_Board (x : Board) (k : Int) : (x.mkT k).ctT = x.ctT := GT.mkE_ct _ _
theorem mkT_idem_Board (x : Board) (k : Int) : (x.mkT k).mkT k = x.mkT k := GT.mkE_idem _ _
theorem mkT_ct_Machine (x : Machine) (k : Int) : (x.mkT k).ctT = x.ctT := by simp only [Machine.mkT, Machine.ctT, GT.mkE_ct]
theorem mkT_idem_Machine (x : Machine) (k : Int) : (x.mkT k).mkT k = x.mkT k := by simp only [Machine.mkT, GT.mkE_ct, GT.mkE_idem]
theorem mkT_ct_Watch (x : Watch) (k : Int) : (x.mkT k).ctT = x.ctT := by simp only [Watch.mkT, Watch.ctT, GT.mkE_ct, mkT_ct_Machine]
theorem mkT_idem_Watch (x : Watch) (k : Int) : (x.mkT k).mkT k = x.mkT k := by simp only [Watch.mkT, mkT_ct_Machine, mkT_idem_Machine, GT.mkE_idem]
end Sk

namespace Sk
open Go Go.Proofs Go.RowKit
set_option maxHeartbeats 3000000
set_option maxRecDepth 100000
set_option linter.unusedVariables false
set_option linter.unusedSimpArgs false
/-- How far the influences of a policy were seen to go on. -/
def OnTo (q : List (List Bool)) (n ka kb kc : Nat) (o : Bool) : Prop :=
  o = true → ∀ a b c, a < n → b < n → c < n → (a < ka ∨ (a = ka ∧ (b < kb ∨ (b = kb ∧ c < kc)))) → M.at2 q a b = true → M.at2 q b c = true → M.at2 q a c = true
theorem OnTo.zero (q : List (List Bool)) (n : Nat) (o : Bool) : OnTo q n 0 0 0 o := fun _ a b c _ _ _ h => by omega
theorem OnTo.off (q : List (List Bool)) (n ka kb kc : Nat) : OnTo q n ka kb kc false := fun h => by cases h
theorem OnTo.nextA {q : List (List Bool)} {n ka : Nat} {o : Bool} (h : OnTo q n ka n 0 o) : OnTo q n (ka + 1) 0 0 o :=
  fun ho a b c ha hb hc hk => h ho a b c ha hb hc (by omega)
theorem OnTo.nextB {q : List (List Bool)} {n ka kb : Nat} {o : Bool} (h : OnTo q n ka kb n o) : OnTo q n ka (kb + 1) 0 o :=
  fun ho a b c ha hb hc hk => h ho a b c ha hb hc (by omega)
theorem OnTo.nextC {q : List (List Bool)} {n ka kb kc : Nat} {o : Bool} (h : OnTo q n ka kb kc o) (hk : M.at2 q ka kb = true → M.at2 q kb kc = true → M.at2 q ka kc = true) : OnTo q n ka kb (kc + 1) o :=
  fun ho a b c ha hb hc hk2 h1 h2 => by
    by_cases he : a = ka ∧ b = kb ∧ c = kc
    · obtain ⟨rfl, rfl, rfl⟩ := he; exact hk h1 h2
    · exact h ho a b c ha hb hc (by omega) h1 h2
theorem OnTo.all {q : List (List Bool)} {n : Nat} {o : Bool} (h : OnTo q n n 0 0 o) (ho : o = true) : ∀ a b c, a < n → b < n → c < n → M.at2 q a b = true → M.at2 q b c = true → M.at2 q a c = true :=
  fun a b c ha hb hc => h ho a b c ha hb hc (by omega)
end Sk

