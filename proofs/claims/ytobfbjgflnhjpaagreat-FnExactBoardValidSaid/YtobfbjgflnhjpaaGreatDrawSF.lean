/- Contracts of functions of the given program, and lemmas for them: each theorem states the condition under which it holds. -/
import Derived.Test.YtobfbjgflnhjpaaGreatChecked
import Derived.Deep.CutBlock
import Derived.Deep.CutRange
import Derived.Test.YtobfbjgflnhjpaaGreatDrawS
import Derived.Test.YtobfbjgflnhjpaaGreatReadI
import Derived.Test.YtobfbjgflnhjpaaGreatNums
import Derived.Test.YtobfbjgflnhjpaaGreatTop
import Derived.Test.YtobfbjgflnhjpaaGreatBuild
import Derived.Test.YtobfbjgflnhjpaaGreatAcc
import Derived.Test.YtobfbjgflnhjpaaGreatRds
import Derived.Test.YtobfbjgflnhjpaaGreatRefc
import Derived.Test.YtobfbjgflnhjpaaGreatTypes
import Derived.Test.YtobfbjgflnhjpaaGreatGaps
import Derived.Test.YtobfbjgflnhjpaaGreatValid
import Derived.Test.YtobfbjgflnhjpaaGreatFind
import Derived.Test.YtobfbjgflnhjpaaGreatTo
import Derived.Test.YtobfbjgflnhjpaaGreatEq
import Derived.Test.YtobfbjgflnhjpaaGreatSz
import Derived.Test.YtobfbjgflnhjpaaGreatDel
import Derived.Test.YtobfbjgflnhjpaaGreatChan
namespace Sk
open Go Go.Proofs Go.RowKit
set_option maxHeartbeats 2000000
set_option maxRecDepth 100000
set_option linter.unusedVariables false
set_option linter.unusedSimpArgs false
theorem Rvb.slots {L : Nat} {w : World} {a0 a1 a2 a : Option Addr} {n0 n1 n2 n c0 c1 c2 c : Nat} {s : Setup} {xs : List Slot} (h : Rvb L w (.agg #[.slice a0 n0 c0, .slice a1 n1 c1, .slice a2 n2 c2]) s) (k : Rsb L w (.slice a n c) xs) :
    Rvb L w (.agg #[.slice a0 n0 c0, .slice a1 n1 c1, .slice a n c]) { s with Slots := xs } := by
  obtain ⟨cs, F, he, ⟨v0, v1, v2, F0, F1, F2, rfl, h0, h1, h2, rfl⟩, hF⟩ := h
  have hq := agg_inj he
  have : #[Value.slice a0 n0 c0, .slice a1 n1 c1, .slice a2 n2 c2].toList = [v0, v1, v2] := by rw [hq]
  simp at this
  obtain ⟨rfl, rfl, rfl⟩ := this
  obtain ⟨G, hG, hG2⟩ := k
  refine ⟨_, F0 ++ (F1 ++ G), rfl, ⟨_, _, _, F0, F1, G, rfl, h0, h1, hG, rfl⟩, fun y hy => ?_⟩
  rcases List.mem_append.1 hy with hy | hy
  · exact hF y (List.mem_append_left _ hy)
  · rcases List.mem_append.1 hy with hy | hy
    · exact hF y (List.mem_append_right _ (List.mem_append_left _ hy))
    · exact hG2 y hy
theorem Rvb.at' {α : Type} [GT α] {L : Nat} {w w' : World} {v : Value} {x : α} (h : Rvb L w v x) (hk : ∀ k, L ≤ k → k < w.heap.size → w'.heap[k]? = w.heap[k]?) : Rvb L w' v x := by
  obtain ⟨cs, F, h1, h2, h3⟩ := h
  exact ⟨cs, F, h1, GT.keep h2 (fun k m => hk k (h3 k m) (GT.inh h2 k m)), h3⟩
theorem Row.slots2 {w : World} {T : TypeId} {x y : Slot} (h1 : rng x.Who) (h2 : rng x.Ticks) (h3 : rng y.Who) (h4 : rng y.Ticks) :
    Row (w.alloc (.cells #[.int .i64 x.Who, .int .i64 x.Ticks, .int .i64 y.Who, .int .i64 y.Ticks] T)) w.heap.size 0 [x, y] [] := by
  have k := Bk.new w [.int .i64 x.Who, .int .i64 x.Ticks, .int .i64 y.Who, .int .i64 y.Ticks] T
  refine ⟨[.int .i64 x.Who, .int .i64 x.Ticks], [], [], ⟨rfl, h1, h2, rfl⟩, fun j u hj => ?_, rfl, [.int .i64 y.Who, .int .i64 y.Ticks], [], [], ⟨rfl, h3, h4, rfl⟩, fun j u hj => ?_, rfl, rfl⟩
  · rcases j with _ | _ | j
    · cases hj; exact k.cell (j := 0) rfl
    · cases hj; exact k.cell (j := 1) rfl
    · cases hj
  · rcases j with _ | _ | j
    · cases hj; exact k.cell (j := 2) rfl
    · cases hj; exact k.cell (j := 3) rfl
    · cases hj
def M.gslots (k : Nat) : List Slot := (List.range k).flatMap fun (i : Nat) => [(⟨(i : Int), 2⟩ : Slot), ⟨-1, 1⟩]
theorem M.gslots_next (k : Nat) : M.gslots (k + 1) = M.gslots k ++ [(⟨(k : Int), 2⟩ : Slot), ⟨-1, 1⟩] := by
  unfold M.gslots; rw [List.range_succ, List.flatMap_append]; simp
theorem M.gslots_len (k : Nat) : (M.gslots k).length = 2 * k := by
  induction k with
  | zero => rfl
  | succ k ih => rw [M.gslots_next, List.length_append, ih]; simp; omega
end Sk

namespace Sk
open Go Go.Proofs Go.RowKit
set_option maxHeartbeats 1600000
set_option maxRecDepth 100000
set_option linter.unusedVariables false
set_option linter.unusedSimpArgs false
theorem rs_one {w : World} {T : TypeId} {z : Int} (h : rng z) : Rs (w.alloc (.cells #[.int .i64 z] T)) (.slice (some ⟨w.heap.size, 0, none⟩) 1 1) [z] :=
  ⟨[w.heap.size], _, 1, rfl, by simp, by unfold maxLen; omega, .inr ⟨by simp, w.heap.size, 0, [], rfl, rfl, Row.lit1 (cs := [.int .i64 z]) ⟨rfl, h, rfl⟩⟩⟩
theorem Rs.row {α : Type} [GT α] [Fl α] {w : World} {a : Option Addr} {n c : Nat} {xs : List α} (h : Rs w (.slice a n c) xs) (hx : 0 < xs.length) : ∃ g o, a = some ⟨g, o, none⟩ ∧ n = xs.length ∧ Row w g o xs [] := by
  obtain ⟨F, a', c', he, hl, hc, hr⟩ := h
  cases he
  rcases hr with ⟨rfl, _⟩ | ⟨_, b, o, F', rfl, rfl, hr⟩
  · cases hx
  · have := hr.fl
    subst this
    exact ⟨b, o, rfl, rfl, hr⟩
theorem Os.own1 {α : Type} [GT α] [Fl α] {e : TypeId} {L : Nat} {w : World} {v : Value} {xs : List α} (h : Oo e L w v xs) : ∃ F, GT.enc w [v] xs F ∧ Own L w F := by
  obtain ⟨F, h1, h2⟩ := h.os
  exact ⟨F, ⟨v, rfl, h1⟩, h2⟩
end Sk

namespace Sk
open Go Go.Proofs Go.RowKit
set_option maxHeartbeats 800000
set_option maxRecDepth 100000
set_option linter.unusedVariables false
set_option linter.unusedSimpArgs false
theorem Mx.own {F G : List Nat} {L : Nat} {a b : World} (h : Mx F a b) (ho : Own L a G) : Own L b G := ⟨ho.1, fun x hx => ⟨(ho.2 x hx).1, h.2.2.2 x (ho.2 x hx).2⟩⟩
theorem mkT_ct_Setup (x : Setup) (k : Int) : (x.mkT k).ctT = x.ctT := GT.mkE_ct _ _
theorem mkT_idem_Setup (x : Setup) (k : Int) : (x.mkT k).mkT k = x.mkT k := GT.mkE_idem _ _
theorem mkT_ct_Board (x : Board) (k : Int) : (x.mkT k).ctT = x.ctT := GT.mkE_ct _ _
theorem mkT_idem_Board (x : Board) (k : Int) : (x.mkT k).mkT k = x.mkT k := GT.mkE_idem _ _
theorem mkT_ct_Machine (x : Machine) (k : Int) : (x.mkT k).ctT = x.ctT := by simp only [Machine.mkT, Machine.ctT, GT.mkE_ct]
theorem mkT_idem_Machine (x : Machine) (k : Int) : (x.mkT k).mkT k = x.mkT k := by simp only [Machine.mkT, GT.mkE_ct, GT.mkE_idem]
theorem mkT_ct_Watch (x : Watch) (k : Int) : (x.mkT k).ctT = x.ctT := by simp only [Watch.mkT, Watch.ctT, GT.mkE_ct, mkT_ct_Machine]
theorem mkT_idem_Watch (x : Watch) (k : Int) : (x.mkT k).mkT k = x.mkT k := by simp only [Watch.mkT, mkT_ct_Machine, mkT_idem_Machine, GT.mkE_idem]
end Sk

namespace Sk
open Go Go.Proofs Go.RowKit
set_option maxHeartbeats 3000000
set_option maxRecDepth 100000
set_option linter.unusedVariables false
set_option linter.unusedSimpArgs false
/-- How far the influences of a policy were seen to go on. -/
def OnTo (q : List (List Bool)) (n ka kb kc : Nat) (o : Bool) : Prop :=
  o = true → ∀ a b c, a < n → b < n → c < n → (a < ka ∨ (a = ka ∧ (b < kb ∨ (b = kb ∧ c < kc)))) → M.at2 q a b = true → M.at2 q b c = true → M.at2 q a c = true
theorem OnTo.zero (q : List (List Bool)) (n : Nat) (o : Bool) : OnTo q n 0 0 0 o := fun _ a b c _ _ _ h => by omega
theorem OnTo.off (q : List (List Bool)) (n ka kb kc : Nat) : OnTo q n ka kb kc false := fun h => by cases h
theorem OnTo.nextA {q : List (List Bool)} {n ka : Nat} {o : Bool} (h : OnTo q n ka n 0 o) : OnTo q n (ka + 1) 0 0 o :=
  fun ho a b c ha hb hc hk => h ho a b c ha hb hc (by omega)
theorem OnTo.nextB {q : List (List Bool)} {n ka kb : Nat} {o : Bool} (h : OnTo q n ka kb n o) : OnTo q n ka (kb + 1) 0 o :=
  fun ho a b c ha hb hc hk => h ho a b c ha hb hc (by omega)
theorem OnTo.nextC {q : List (List Bool)} {n ka kb kc : Nat} {o : Bool} (h : OnTo q n ka kb kc o) (hk : M.at2 q ka kb = true → M.at2 q kb kc = true → M.at2 q ka kc = true) : OnTo q n ka kb (kc + 1) o :=
  fun ho a b c ha hb hc hk2 h1 h2 => by
    by_cases he : a = ka ∧ b = kb ∧ c = kc
    · obtain ⟨rfl, rfl, rfl⟩ := he; exact hk h1 h2
    · exact h ho a b c ha hb hc (by omega) h1 h2
theorem OnTo.all {q : List (List Bool)} {n : Nat} {o : Bool} (h : OnTo q n n 0 0 o) (ho : o = true) : ∀ a b c, a < n → b < n → c < n → M.at2 q a b = true → M.at2 q b c = true → M.at2 q a c = true :=
  fun a b c ha hb hc => h ho a b c ha hb hc (by omega)
end Sk

namespace Sk
open Go Go.Proofs Go.RowKit
set_option maxHeartbeats 3000000
set_option maxRecDepth 100000
set_option linter.unusedVariables false
set_option linter.unusedSimpArgs false
theorem Rv.slots' {w : World} {a0 a1 a2 : Option Addr} {n0 n1 n2 c0 c1 c2 : Nat} {s : Setup} (h : Rv w (.agg #[.slice a0 n0 c0, .slice a1 n1 c1, .slice a2 n2 c2]) s) : Rs w (.slice a2 n2 c2) s.Slots := by
  obtain ⟨cs, F, he, v0, v1, v2, F0, F1, F2, rfl, h0, h1, h2, rfl⟩ := h
  have hq := agg_inj he
  have : #[Value.slice a0 n0 c0, .slice a1 n1 c1, .slice a2 n2 c2].toList = [v0, v1, v2] := by rw [hq]
  simp at this
  obtain ⟨rfl, rfl, rfl⟩ := this
  exact ⟨F2, h2⟩
theorem Rv.same {α : Type} [GT α] {w w' : World} {v : Value} {x : α} (h : Rv w v x) (hk : ∀ k, k < w.heap.size → w'.heap[k]? = w.heap[k]?) : Rv w' v x := by
  obtain ⟨cs, F, h1, h2⟩ := h
  exact ⟨cs, F, h1, GT.keep h2 (fun k m => hk k (GT.inh h2 k m))⟩
theorem Rv.withSlots {w : World} {a0 a1 a2 a : Option Addr} {n0 n1 n2 n c0 c1 c2 c : Nat} {s : Setup} {xs : List Slot} (h : Rv w (.agg #[.slice a0 n0 c0, .slice a1 n1 c1, .slice a2 n2 c2]) s) (k : Rs w (.slice a n c) xs) :
    Rv w (.agg #[.slice a0 n0 c0, .slice a1 n1 c1, .slice a n c]) { s with Slots := xs } := by
  obtain ⟨cs, F, he, v0, v1, v2, F0, F1, F2, rfl, h0, h1, h2, rfl⟩ := h
  have hq := agg_inj he
  have : #[Value.slice a0 n0 c0, .slice a1 n1 c1, .slice a2 n2 c2].toList = [v0, v1, v2] := by rw [hq]
  simp at this
  obtain ⟨rfl, rfl, rfl⟩ := this
  obtain ⟨G, hG⟩ := k
  exact ⟨_, F0 ++ (F1 ++ G), rfl, _, _, _, F0, F1, G, rfl, h0, h1, hG, rfl⟩
theorem Bk.slots2 {w : World} {b : Nat} {T : TypeId} {x y : Slot} (k : Bk w b [.int .i64 x.Who, .int .i64 x.Ticks, .int .i64 y.Who, .int .i64 y.Ticks] T) (h1 : rng x.Who) (h2 : rng x.Ticks) (h3 : rng y.Who) (h4 : rng y.Ticks) : Row w b 0 [x, y] [] := by
  refine ⟨[.int .i64 x.Who, .int .i64 x.Ticks], [], [], ⟨rfl, h1, h2, rfl⟩, fun j u hj => ?_, rfl, [.int .i64 y.Who, .int .i64 y.Ticks], [], [], ⟨rfl, h3, h4, rfl⟩, fun j u hj => ?_, rfl, rfl⟩
  · rcases j with _ | _ | j
    · cases hj; exact k.cell (j := 0) rfl
    · cases hj; exact k.cell (j := 1) rfl
    · cases hj
  · rcases j with _ | _ | j
    · cases hj; exact k.cell (j := 2) rfl
    · cases hj; exact k.cell (j := 3) rfl
    · cases hj
end Sk

