/- Contracts of functions of the given program, and lemmas for them: each theorem states the condition under which it holds. -/
import Derived.Test.YtobfbjgflnhjpaaGreatChecked
import Derived.Deep.CutBlock
import Derived.Deep.CutRange
import Derived.ChangeArms
import Derived.Test.YtobfbjgflnhjpaaGreatDel
import Derived.Test.YtobfbjgflnhjpaaGreatLeast
import Derived.Test.YtobfbjgflnhjpaaGreatTo
import Derived.Test.YtobfbjgflnhjpaaGreatValid
import Derived.Test.YtobfbjgflnhjpaaGreatFind
import Derived.Test.YtobfbjgflnhjpaaGreatChan
import Derived.Test.YtobfbjgflnhjpaaGreatAcc
import Derived.Test.YtobfbjgflnhjpaaGreatApp
import Derived.Test.YtobfbjgflnhjpaaGreatBuild
import Derived.Test.YtobfbjgflnhjpaaGreatClone
import Derived.Test.YtobfbjgflnhjpaaGreatTypes
import Derived.Test.YtobfbjgflnhjpaaGreatEq
import Derived.Test.YtobfbjgflnhjpaaGreatSz
import Derived.Test.YtobfbjgflnhjpaaGreatTop
import Derived.Test.YtobfbjgflnhjpaaGreatSetupS
import Derived.Test.YtobfbjgflnhjpaaGreatFlow
namespace Sk
open Go Go.Proofs Go.RowKit
set_option maxHeartbeats 1600000
set_option maxRecDepth 100000
set_option linter.unusedVariables false
set_option linter.unusedSimpArgs false
/-- The length in a slice's header. -/
def lenOf : Value → Nat
  | .slice _ n _ => n
  | _ => 0
/-- The first element of a list of one's own, and what the list becomes when it is turned. -/
theorem Oo.head {α : Type} [GT α] {e : TypeId} {L : Nat} {w : World} {a : Option Addr} {n c : Nat} {x : α} {xs : List α} (h : Oo e L w (.slice a n c) (x :: xs)) :
    ∃ G cs F1, a = some ⟨G, 0, none⟩ ∧ n = xs.length + 1 ∧ n ≤ c ∧ c ≤ 9223372036854775807 ∧ L ≤ G ∧ G < w.heap.size ∧ Hid (GT.enc w cs x F1) ∧ Hid (At w G 0 cs) ∧ Hid (∀ j, w.frozen? ⟨G, j, none⟩ = false) ∧ Hid (∀ k ∈ F1, L ≤ k ∧ k ≠ G) ∧
      Hid (∀ w' cs' y F', (∀ j, GT.sz α ≤ j → w'.cell? ⟨G, j, none⟩ = w.cell? ⟨G, j, none⟩) → (∀ k, k < w.heap.size → k ≠ G → L ≤ k → w'.heap[k]? = w.heap[k]?) → GT.enc w' cs' y F' → At w' G 0 cs' → (∀ k ∈ F', L ≤ k) →
        Rsb L w' (.slice a n c) (y :: xs)) := by
  obtain ⟨F, h, ho⟩ := h
  rcases h with ⟨_, h, _⟩ | ⟨G, cap, cur, he, hL, hg, hl, hc, hs, hr, hn⟩
  · cases h
  · cases he
    obtain ⟨cs, F1, F2, hx, ha, rfl, hr2⟩ := hr
    refine ⟨G, cs, F1, rfl, by simp, hl, by unfold maxLen at hc; omega, hL, (Bk.ofA hg).lt, hx, ha, fun j => (Bk.ofA hg).fz j, fun k hk => ⟨(ho.2 k (List.mem_append_left _ hk)).1, fun e => hn (e ▸ List.mem_append_left _ hk)⟩, ?_⟩
    intro w' cs' y F' h1 h2 h3 h4 h5
    have hrr : Row w' G (0 + GT.sz α) xs F2 := hr2.move (fun k hk => h2 k (hr2.inh k hk) (fun e => hn (e ▸ List.mem_append_right _ hk)) (ho.2 k (List.mem_append_right _ hk)).1) (fun j u hj hu => by rw [h1 _ (by omega)]; exact hu)
    refine ⟨G :: (F' ++ F2), ⟨_, c, by simp, hl, hc, .inr ⟨by simp, G, 0, _, rfl, rfl, cs', F', F2, h3, h4, rfl, hrr⟩⟩, fun k hk => ?_⟩
    rcases List.mem_cons.1 hk with rfl | hk
    · exact hL
    · rcases List.mem_append.1 hk with hk | hk
      · exact h5 k hk
      · exact (ho.2 k (List.mem_append_right _ hk)).1
theorem At.two {w : World} {G : Nat} {u v : Value} (h0 : w.cell? ⟨G, 0, none⟩ = some u) (h1 : w.cell? ⟨G, 1, none⟩ = some v) : At w G 0 [u, v] := fun j x hj => by
  rcases j with _ | _ | j
  · cases hj; exact h0
  · cases hj; exact h1
  · cases hj
end Sk

namespace Sk
open Go Go.Proofs Go.RowKit
set_option maxHeartbeats 1600000
set_option maxRecDepth 100000
set_option linter.unusedVariables false
set_option linter.unusedSimpArgs false
/-- A slice that one reads through blocks from L on, none of them of G. -/
def Rsx {α : Type} [GT α] (G : List Nat) (L : Nat) (w : World) (v : Value) (xs : List α) : Prop := ∃ F, Sl w v xs F ∧ ∀ k ∈ F, L ≤ k ∧ k ∉ G
theorem Rsx.mw {α : Type} [GT α] {G F : List Nat} {L : Nat} {w w' : World} {v : Value} {xs : List α} (h : Rsx G L w v xs) (k : Mw F w w') (hF : ∀ x ∈ F, x ∈ G) : Rsx G L w' v xs := by
  obtain ⟨K, h1, h2⟩ := h
  exact ⟨K, k.sl h1 (fun y hy hf => (h2 y hy).2 (hF y hf)), h2⟩
theorem Rsb.x {α : Type} [GT α] {G : List Nat} {L L' : Nat} {w : World} {v : Value} {xs : List α} (h : Rsb L w v xs) (hG : ∀ x ∈ G, x < L ∨ w.heap.size ≤ x) (hL : L' ≤ L) : Rsx G L' w v xs := by
  obtain ⟨K, h1, h2⟩ := h
  exact ⟨K, h1, fun k hk => ⟨Nat.le_trans hL (h2 k hk), fun hm => by have := h1.inh k hk; have := h2 k hk; rcases hG k hm with h | h <;> omega⟩⟩
theorem Rsx.ext {α : Type} [GT α] {G : List Nat} {L : Nat} {w w' : World} {v : Value} {xs : List α} (h : Rsx G L w v xs) (k : Ext w w') : Rsx G L w' v xs := h.mw (F := []) (Mw.ofExt k) (by simp)
theorem Rsx.set {α : Type} [GT α] {G : List Nat} {L : Nat} {w : World} {v : Value} {xs : List α} (h : Rsx G L w v xs) {p : Addr} (hp : p.block ∈ G) (u : Value) : Rsx G L (w.setCell p u) v xs :=
  h.mw (F := [p.block]) (Mw.ofMo ((Mo.refl _ _).set (by simp) u)) (by simpa using hp)
theorem M.drawn_tot {s : Setup} (h5 : s.Parts.length ≤ 6) (hw : ∀ x ∈ s.Parts, x.Windows.length ≤ 20) (h8 : s.Channels.length ≤ 9) (h12 : s.Slots.length ≤ 13) : GT.tot s ≤ 1000 := by
  have hp := tot_list 30 6 s.Parts h5 (fun x hx => by
    have := tot_list 0 20 x.Windows (hw x hx) (fun y _ => Nat.le_refl _)
    show GT.tot x.Windows + GT.tot x.Cells ≤ _
    have h0 : GT.tot x.Cells = 0 := rfl
    omega)
  have hc := tot_list 0 9 s.Channels h8 (fun y _ => Nat.le_refl _)
  have hs := tot_list 0 13 s.Slots h12 (fun y _ => Nat.le_refl _)
  show GT.tot s.Parts + GT.tot s.Channels + GT.tot s.Slots ≤ _
  omega
end Sk

namespace Sk
open Go Go.Proofs Go.RowKit Go.ChangeShapes Go.WideShapes Go.ChangeAt Go.Deep
set_option maxHeartbeats 1600000
set_option maxRecDepth 100000
set_option linter.unusedVariables false
set_option linter.unusedSimpArgs false
theorem Rdr.byte {P : Program} {t : TypeId} (ht : P.underlying t = some (.int .u8)) (hc : P.cellsOf t = 1) : Rdr P t By :=
  ⟨hc, fun h => by
    obtain ⟨n, rfl, _, hw⟩ := DataW.trod_int ht h
    obtain ⟨h1, h2⟩ := bounds_u8 hw
    exact ⟨⟨n⟩, [], rfl, h1, h2, rfl⟩⟩
end Sk

namespace Sk
open Go Go.Proofs Go.RowKit
set_option maxHeartbeats 1600000
set_option maxRecDepth 100000
set_option linter.unusedVariables false
set_option linter.unusedSimpArgs false
theorem Rsb.take {α : Type} [GT α] {L : Nat} {w : World} {a : Option Addr} {n c k : Nat} {xs : List α} (h : Rsb L w (.slice a n c) xs) (hk : k ≤ xs.length) : Rsb L w (.slice a k c) (xs.take k) := by
  obtain ⟨F, ⟨a', c', he, hl, hc, hr⟩, hL⟩ := h
  cases he
  have hlen : (xs.take k).length = k := by rw [List.length_take]; omega
  rcases hr with ⟨rfl, rfl⟩ | ⟨_, b, o, F', rfl, rfl, hr⟩
  · exact ⟨[], ⟨_, c, by rw [hlen], by rw [hlen]; exact Nat.le_trans hk hl, hc, .inl ⟨by simp, rfl⟩⟩, hL⟩
  · rw [← List.take_append_drop k xs] at hr
    obtain ⟨F1, F2, rfl, h1, _⟩ := hr.split
    by_cases hx : xs.take k = []
    · exact ⟨[], ⟨_, c, by rw [hlen], by rw [hlen]; exact Nat.le_trans hk hl, hc, .inl ⟨hx, rfl⟩⟩, fun k hk => by cases hk⟩
    · exact ⟨b :: F1, ⟨_, c, by rw [hlen], by rw [hlen]; exact Nat.le_trans hk hl, hc, .inr ⟨hx, b, o, F1, rfl, rfl, h1⟩⟩, fun k hk => hL k (by
        rcases List.mem_cons.1 hk with rfl | hk
        · exact List.mem_cons_self ..
        · exact List.mem_cons_of_mem _ (List.mem_append_left _ hk))⟩
end Sk

namespace Sk
open Go Go.Proofs Go.RowKit
set_option maxHeartbeats 1600000
set_option maxRecDepth 100000
set_option linter.unusedVariables false
set_option linter.unusedSimpArgs false
theorem Rvb.openS {L : Nat} {w : World} {v : Value} {s : Setup} (h : Rvb L w v s) : ∃ a0 c0 a1 c1 a2 c2, v = .agg #[.slice a0 s.Parts.length c0, .slice a1 s.Channels.length c1, .slice a2 s.Slots.length c2] ∧ s.Parts.length ≤ 9223372036854775807 ∧ s.Channels.length ≤ 9223372036854775807 ∧ s.Slots.length ≤ 9223372036854775807 := by
  obtain ⟨cs, F, rfl, ⟨v0, v1, v2, F0, F1, F2, rfl, h0, h1, h2, rfl⟩, _⟩ := h
  obtain ⟨a0, c0, rfl, g0⟩ := (show Rs w v0 s.Parts from ⟨_, h0⟩).form
  obtain ⟨a1, c1, rfl, g1⟩ := (show Rs w v1 s.Channels from ⟨_, h1⟩).form
  obtain ⟨a2, c2, rfl, g2⟩ := (show Rs w v2 s.Slots from ⟨_, h2⟩).form
  exact ⟨_, _, _, _, _, _, rfl, g0, g1, g2⟩
theorem Rvb.ext {α : Type} [GT α] {L : Nat} {w w' : World} {v : Value} {x : α} (h : Rvb L w v x) (k : Ext w w') : Rvb L w' v x := by
  obtain ⟨cs, F, h1, h2, h3⟩ := h
  exact ⟨cs, F, h1, GT.ext h2 k, h3⟩
theorem Rvb.set {α : Type} [GT α] {L : Nat} {w : World} {v : Value} {x : α} (h : Rvb L w v x) {p : Addr} (hp : p.block < L) (u : Value) : Rvb L (w.setCell p u) v x := by
  obtain ⟨cs, F, h1, h2, h3⟩ := h
  exact ⟨cs, F, h1, GT.keep h2 (fun k hk => heap_set_ne (by have := h3 k hk; omega)), h3⟩
theorem Rvb.mw {α : Type} [GT α] {L : Nat} {w w' : World} {v : Value} {x : α} {F : List Nat} (h : Rvb L w v x) (k : Mw F w w') (hF : ∀ y ∈ F, y < L) : Rvb L w' v x := by
  obtain ⟨cs, G, h1, h2, h3⟩ := h
  exact ⟨cs, G, h1, k.enc h2 (fun y hy hf => by have := h3 y hy; have := hF y hf; omega), h3⟩
theorem Rvb.mono {α : Type} [GT α] {L L' : Nat} {w : World} {v : Value} {x : α} (h : Rvb L w v x) (k : L' ≤ L) : Rvb L' w v x := by
  obtain ⟨cs, F, h1, h2, h3⟩ := h
  exact ⟨cs, F, h1, h2, fun y hy => Nat.le_trans k (h3 y hy)⟩
end Sk

namespace Sk
open Go Go.Proofs Go.RowKit
set_option maxHeartbeats 2000000
set_option maxRecDepth 100000
set_option linter.unusedVariables false
set_option linter.unusedSimpArgs false
theorem Rvb.slots {L : Nat} {w : World} {a0 a1 a2 a : Option Addr} {n0 n1 n2 n c0 c1 c2 c : Nat} {s : Setup} {xs : List Slot} (h : Rvb L w (.agg #[.slice a0 n0 c0, .slice a1 n1 c1, .slice a2 n2 c2]) s) (k : Rsb L w (.slice a n c) xs) :
    Rvb L w (.agg #[.slice a0 n0 c0, .slice a1 n1 c1, .slice a n c]) { s with Slots := xs } := by
  obtain ⟨cs, F, he, ⟨v0, v1, v2, F0, F1, F2, rfl, h0, h1, h2, rfl⟩, hF⟩ := h
  have hq := agg_inj he
  have : #[Value.slice a0 n0 c0, .slice a1 n1 c1, .slice a2 n2 c2].toList = [v0, v1, v2] := by rw [hq]
  simp at this
  obtain ⟨rfl, rfl, rfl⟩ := this
  obtain ⟨G, hG, hG2⟩ := k
  refine ⟨_, F0 ++ (F1 ++ G), rfl, ⟨_, _, _, F0, F1, G, rfl, h0, h1, hG, rfl⟩, fun y hy => ?_⟩
  rcases List.mem_append.1 hy with hy | hy
  · exact hF y (List.mem_append_left _ hy)
  · rcases List.mem_append.1 hy with hy | hy
    · exact hF y (List.mem_append_right _ (List.mem_append_left _ hy))
    · exact hG2 y hy
theorem Rvb.at' {α : Type} [GT α] {L : Nat} {w w' : World} {v : Value} {x : α} (h : Rvb L w v x) (hk : ∀ k, L ≤ k → k < w.heap.size → w'.heap[k]? = w.heap[k]?) : Rvb L w' v x := by
  obtain ⟨cs, F, h1, h2, h3⟩ := h
  exact ⟨cs, F, h1, GT.keep h2 (fun k m => hk k (h3 k m) (GT.inh h2 k m)), h3⟩
theorem Row.slots2 {w : World} {T : TypeId} {x y : Slot} (h1 : rng x.Who) (h2 : rng x.Ticks) (h3 : rng y.Who) (h4 : rng y.Ticks) :
    Row (w.alloc (.cells #[.int .i64 x.Who, .int .i64 x.Ticks, .int .i64 y.Who, .int .i64 y.Ticks] T)) w.heap.size 0 [x, y] [] := by
  have k := Bk.new w [.int .i64 x.Who, .int .i64 x.Ticks, .int .i64 y.Who, .int .i64 y.Ticks] T
  refine ⟨[.int .i64 x.Who, .int .i64 x.Ticks], [], [], ⟨rfl, h1, h2, rfl⟩, fun j u hj => ?_, rfl, [.int .i64 y.Who, .int .i64 y.Ticks], [], [], ⟨rfl, h3, h4, rfl⟩, fun j u hj => ?_, rfl, rfl⟩
  · rcases j with _ | _ | j
    · cases hj; exact k.cell (j := 0) rfl
    · cases hj; exact k.cell (j := 1) rfl
    · cases hj
  · rcases j with _ | _ | j
    · cases hj; exact k.cell (j := 2) rfl
    · cases hj; exact k.cell (j := 3) rfl
    · cases hj
def M.gslots (k : Nat) : List Slot := (List.range k).flatMap fun (i : Nat) => [(⟨(i : Int), 2⟩ : Slot), ⟨-1, 1⟩]
theorem M.gslots_next (k : Nat) : M.gslots (k + 1) = M.gslots k ++ [(⟨(k : Int), 2⟩ : Slot), ⟨-1, 1⟩] := by
  unfold M.gslots; rw [List.range_succ, List.flatMap_append]; simp
theorem M.gslots_len (k : Nat) : (M.gslots k).length = 2 * k := by
  induction k with
  | zero => rfl
  | succ k ih => rw [M.gslots_next, List.length_append, ih]; simp; omega
end Sk

namespace Sk
open Go Go.Proofs Go.RowKit
set_option maxHeartbeats 1600000
set_option maxRecDepth 100000
set_option linter.unusedVariables false
set_option linter.unusedSimpArgs false
theorem rs_one {w : World} {T : TypeId} {z : Int} (h : rng z) : Rs (w.alloc (.cells #[.int .i64 z] T)) (.slice (some ⟨w.heap.size, 0, none⟩) 1 1) [z] :=
  ⟨[w.heap.size], _, 1, rfl, by simp, by unfold maxLen; omega, .inr ⟨by simp, w.heap.size, 0, [], rfl, rfl, Row.lit1 (cs := [.int .i64 z]) ⟨rfl, h, rfl⟩⟩⟩
theorem Rs.row {α : Type} [GT α] [Fl α] {w : World} {a : Option Addr} {n c : Nat} {xs : List α} (h : Rs w (.slice a n c) xs) (hx : 0 < xs.length) : ∃ g o, a = some ⟨g, o, none⟩ ∧ n = xs.length ∧ Row w g o xs [] := by
  obtain ⟨F, a', c', he, hl, hc, hr⟩ := h
  cases he
  rcases hr with ⟨rfl, _⟩ | ⟨_, b, o, F', rfl, rfl, hr⟩
  · cases hx
  · have := hr.fl
    subst this
    exact ⟨b, o, rfl, rfl, hr⟩
theorem Os.own1 {α : Type} [GT α] [Fl α] {e : TypeId} {L : Nat} {w : World} {v : Value} {xs : List α} (h : Oo e L w v xs) : ∃ F, GT.enc w [v] xs F ∧ Own L w F := by
  obtain ⟨F, h1, h2⟩ := h.os
  exact ⟨F, ⟨v, rfl, h1⟩, h2⟩
end Sk

namespace Sk
open Go Go.Proofs Go.RowKit
set_option maxHeartbeats 800000
set_option maxRecDepth 100000
set_option linter.unusedVariables false
set_option linter.unusedSimpArgs false
theorem Mx.own {F G : List Nat} {L : Nat} {a b : World} (h : Mx F a b) (ho : Own L a G) : Own L b G := ⟨ho.1, fun x hx => ⟨(ho.2 x hx).1, h.2.2.2 x (ho.2 x hx).2⟩⟩
theorem mkT_ct_Setup (x : Setup) (k : Int) : (x.mkT k).ctT = x.ctT := GT.mkE_ct _ _
theorem mkT_idem_Setup (x : Setup) (k : Int) : (x.mkT k).mkT k = x.mkT k := GT.mkE_idem _ _
theorem mkT_ct_Board (x : Board) (k : Int) : (x.mkT k).ctT = x.ctT := GT.mkE_ct _ _
theorem mkT_idem_Board (x : Board) (k : Int) : (x.mkT k).mkT k = x.mkT k := GT.mkE_idem _ _
theorem mkT_ct_Machine (x : Machine) (k : Int) : (x.mkT k).ctT = x.ctT := by simp only [Machine.mkT, Machine.ctT, GT.mkE_ct]
theorem mkT_idem_Machine (x : Machine) (k : Int) : (x.mkT k).mkT k = x.mkT k := by simp only [Machine.mkT, GT.mkE_ct, GT.mkE_idem]
theorem mkT_ct_Watch (x : Watch) (k : Int) : (x.mkT k).ctT = x.ctT := by simp only [Watch.mkT, Watch.ctT, GT.mkE_ct, mkT_ct_Machine]
theorem mkT_idem_Watch (x : Watch) (k : Int) : (x.mkT k).mkT k = x.mkT k := by simp only [Watch.mkT, mkT_ct_Machine, mkT_idem_Machine, GT.mkE_idem]
end Sk

namespace Sk
open Go Go.Proofs Go.RowKit
set_option maxHeartbeats 3000000
set_option maxRecDepth 100000
set_option linter.unusedVariables false
set_option linter.unusedSimpArgs false
/-- How far the influences of a policy were seen to go on. -/
def OnTo (q : List (List Bool)) (n ka kb kc : Nat) (o : Bool) : Prop :=
  o = true → ∀ a b c, a < n → b < n → c < n → (a < ka ∨ (a = ka ∧ (b < kb ∨ (b = kb ∧ c < kc)))) → M.at2 q a b = true → M.at2 q b c = true → M.at2 q a c = true
theorem OnTo.zero (q : List (List Bool)) (n : Nat) (o : Bool) : OnTo q n 0 0 0 o := fun _ a b c _ _ _ h => by omega
theorem OnTo.off (q : List (List Bool)) (n ka kb kc : Nat) : OnTo q n ka kb kc false := fun h => by cases h
theorem OnTo.nextA {q : List (List Bool)} {n ka : Nat} {o : Bool} (h : OnTo q n ka n 0 o) : OnTo q n (ka + 1) 0 0 o :=
  fun ho a b c ha hb hc hk => h ho a b c ha hb hc (by omega)
theorem OnTo.nextB {q : List (List Bool)} {n ka kb : Nat} {o : Bool} (h : OnTo q n ka kb n o) : OnTo q n ka (kb + 1) 0 o :=
  fun ho a b c ha hb hc hk => h ho a b c ha hb hc (by omega)
theorem OnTo.nextC {q : List (List Bool)} {n ka kb kc : Nat} {o : Bool} (h : OnTo q n ka kb kc o) (hk : M.at2 q ka kb = true → M.at2 q kb kc = true → M.at2 q ka kc = true) : OnTo q n ka kb (kc + 1) o :=
  fun ho a b c ha hb hc hk2 h1 h2 => by
    by_cases he : a = ka ∧ b = kb ∧ c = kc
    · obtain ⟨rfl, rfl, rfl⟩ := he; exact hk h1 h2
    · exact h ho a b c ha hb hc (by omega) h1 h2
theorem OnTo.all {q : List (List Bool)} {n : Nat} {o : Bool} (h : OnTo q n n 0 0 o) (ho : o = true) : ∀ a b c, a < n → b < n → c < n → M.at2 q a b = true → M.at2 q b c = true → M.at2 q a c = true :=
  fun a b c ha hb hc => h ho a b c ha hb hc (by omega)
end Sk

namespace Sk
open Go Go.Proofs Go.RowKit
set_option maxHeartbeats 3000000
set_option maxRecDepth 100000
set_option linter.unusedVariables false
set_option linter.unusedSimpArgs false
theorem Rv.slots' {w : World} {a0 a1 a2 : Option Addr} {n0 n1 n2 c0 c1 c2 : Nat} {s : Setup} (h : Rv w (.agg #[.slice a0 n0 c0, .slice a1 n1 c1, .slice a2 n2 c2]) s) : Rs w (.slice a2 n2 c2) s.Slots := by
  obtain ⟨cs, F, he, v0, v1, v2, F0, F1, F2, rfl, h0, h1, h2, rfl⟩ := h
  have hq := agg_inj he
  have : #[Value.slice a0 n0 c0, .slice a1 n1 c1, .slice a2 n2 c2].toList = [v0, v1, v2] := by rw [hq]
  simp at this
  obtain ⟨rfl, rfl, rfl⟩ := this
  exact ⟨F2, h2⟩
theorem Rv.same {α : Type} [GT α] {w w' : World} {v : Value} {x : α} (h : Rv w v x) (hk : ∀ k, k < w.heap.size → w'.heap[k]? = w.heap[k]?) : Rv w' v x := by
  obtain ⟨cs, F, h1, h2⟩ := h
  exact ⟨cs, F, h1, GT.keep h2 (fun k m => hk k (GT.inh h2 k m))⟩
theorem Rv.withSlots {w : World} {a0 a1 a2 a : Option Addr} {n0 n1 n2 n c0 c1 c2 c : Nat} {s : Setup} {xs : List Slot} (h : Rv w (.agg #[.slice a0 n0 c0, .slice a1 n1 c1, .slice a2 n2 c2]) s) (k : Rs w (.slice a n c) xs) :
    Rv w (.agg #[.slice a0 n0 c0, .slice a1 n1 c1, .slice a n c]) { s with Slots := xs } := by
  obtain ⟨cs, F, he, v0, v1, v2, F0, F1, F2, rfl, h0, h1, h2, rfl⟩ := h
  have hq := agg_inj he
  have : #[Value.slice a0 n0 c0, .slice a1 n1 c1, .slice a2 n2 c2].toList = [v0, v1, v2] := by rw [hq]
  simp at this
  obtain ⟨rfl, rfl, rfl⟩ := this
  obtain ⟨G, hG⟩ := k
  exact ⟨_, F0 ++ (F1 ++ G), rfl, _, _, _, F0, F1, G, rfl, h0, h1, hG, rfl⟩
theorem Bk.slots2 {w : World} {b : Nat} {T : TypeId} {x y : Slot} (k : Bk w b [.int .i64 x.Who, .int .i64 x.Ticks, .int .i64 y.Who, .int .i64 y.Ticks] T) (h1 : rng x.Who) (h2 : rng x.Ticks) (h3 : rng y.Who) (h4 : rng y.Ticks) : Row w b 0 [x, y] [] := by
  refine ⟨[.int .i64 x.Who, .int .i64 x.Ticks], [], [], ⟨rfl, h1, h2, rfl⟩, fun j u hj => ?_, rfl, [.int .i64 y.Who, .int .i64 y.Ticks], [], [], ⟨rfl, h3, h4, rfl⟩, fun j u hj => ?_, rfl, rfl⟩
  · rcases j with _ | _ | j
    · cases hj; exact k.cell (j := 0) rfl
    · cases hj; exact k.cell (j := 1) rfl
    · cases hj
  · rcases j with _ | _ | j
    · cases hj; exact k.cell (j := 2) rfl
    · cases hj; exact k.cell (j := 3) rfl
    · cases hj
end Sk

