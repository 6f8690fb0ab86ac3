/- Contracts of functions of the given program, and lemmas for them: each theorem states the condition under which it holds. -/
import Derived.Test.YtobfbjgflnhjpaaGreatChecked
import Derived.Deep.CutBlock
import Derived.Deep.CutRange
import Derived.Test.YtobfbjgflnhjpaaGreatBuild
import Derived.Test.YtobfbjgflnhjpaaGreatGaps
namespace Sk
open Go Go.Proofs Go.RowKit
set_option maxHeartbeats 4000000
set_option maxRecDepth 100000
set_option linter.unusedVariables false
set_option linter.unusedSimpArgs false
/-- A row of which the first k elements are one's own; the rest still reach the elder memory. -/
def Dc {α : Type} [GT α] (L lo : Nat) (w : World) (g : Nat) (xs : List α) (k : Nat) : Prop :=
  ∃ F1 F2, Row w g 0 (xs.take k) F1 ∧ Own L w F1 ∧ g ∉ F1 ∧ Row w g (k * GT.sz α) (xs.drop k) F2 ∧ (∀ b ∈ F2, b < lo) ∧ Fz w g
theorem Dc.start {α : Type} [GT α] {L lo : Nat} {w : World} {g : Nat} {xs : List α} {F : List Nat} (h : Row w g 0 xs F) (hF : ∀ b ∈ F, b < lo) (hz : Fz w g) : Dc L lo w g xs 0 :=
  ⟨[], F, rfl, Own.nil _ _, by simp, by simpa using h, hF, hz⟩
theorem Dc.elem {α : Type} [GT α] {L lo : Nat} {w : World} {g : Nat} {xs : List α} {k : Nat} {x : α} (h : Dc L lo w g xs k) (hx : xs[k]? = some x) : ∃ cs F, GT.enc w cs x F ∧ At w g (k * GT.sz α) cs ∧ ∀ b ∈ F, b < lo := by
  obtain ⟨F1, F2, h1, h2, h3, h4, h5, h6⟩ := h
  have hk := (List.getElem?_eq_some_iff.1 hx).1
  have hd : xs.drop k = x :: xs.drop (k + 1) := by rw [List.drop_eq_getElem_cons hk]; congr 1; exact (List.getElem?_eq_some_iff.1 hx).2
  rw [hd] at h4
  obtain ⟨cs, G1, G2, he, ha, rfl, hr⟩ := h4
  exact ⟨cs, G1, he, ha, fun b hb => h5 b (List.mem_append_left _ hb)⟩
theorem Dc.ext {α : Type} [GT α] {L lo : Nat} {w w' : World} {g : Nat} {xs : List α} {k : Nat} (h : Dc L lo w g xs k) (he : Ext w w') : Dc L lo w' g xs k := by
  obtain ⟨F1, F2, h1, h2, h3, h4, h5, h6⟩ := h
  have hg := he.block g h6.lt
  exact ⟨F1, F2, h1.keep hg (fun b hb => he.block b (h1.inh b hb)), h2.ext he, h3, h4.keep hg (fun b hb => he.block b (h4.inh b hb)), h5, h6.ext he⟩
theorem Dc.keep {α : Type} [GT α] {L lo : Nat} {w w' : World} {g : Nat} {xs : List α} {k : Nat} {b o n : Nat} (h : Dc L lo w g xs k) (hc : Chg b o n [] w w') (hg : b ≠ g) (hb : b < L) (hl : lo ≤ b) : Dc L lo w' g xs k := by
  obtain ⟨F1, F2, h1, h2, h3, h4, h5, h6⟩ := h
  have hg := hc.keep h6.lt (Ne.symm hg) (by simp)
  exact ⟨F1, F2, h1.keep hg (fun x hx => hc.keep (h1.inh x hx) (fun e => by have := (h2.2 x hx).1; omega) (by simp)), h2.chg hc, h3, h4.keep hg (fun x hx => hc.keep (h4.inh x hx) (fun e => by have := h5 x hx; omega) (by simp)), h5, hc.2.2.2.2 g h6⟩
theorem Dc.step {α : Type} [GT α] {L lo : Nat} {w w' : World} {g : Nat} {xs : List α} {k : Nat} {x : α} {cs : List Value} {F : List Nat} (h : Dc L lo w g xs k) (hl : lo ≤ g) (hL : L ≤ w.heap.size) (hx : xs[k]? = some x)
    (hc : Chg g (k * GT.sz α) (GT.sz α) [] w w') (he : GT.enc w' cs x F) (ha : At w' g (k * GT.sz α) cs) (ho : Own w.heap.size w' F) : Dc L lo w' g xs (k + 1) := by
  obtain ⟨F1, F2, h1, h2, h3, h4, h5, h6⟩ := h
  have hk := (List.getElem?_eq_some_iff.1 hx).1
  have hd : xs.drop k = x :: xs.drop (k + 1) := by rw [List.drop_eq_getElem_cons hk]; congr 1; exact (List.getElem?_eq_some_iff.1 hx).2
  rw [hd] at h4
  obtain ⟨cs0, G1, G2, he0, ha0, rfl, hr⟩ := h4
  have hlt := h6.lt
  have hn : (xs.take k).length = k := by rw [List.length_take]; omega
  refine ⟨F1 ++ F, G2, ?_, ?_, ?_, ?_, fun b hb => h5 b (List.mem_append_right _ hb), hc.2.2.2.2 g h6⟩
  · rw [take_snoc hx]
    refine Row.snoc (h1.move (fun b hb => hc.keep (h1.inh b hb) (fun e => h3 (e ▸ hb)) (by simp)) fun j u hj hu => ?_) he ?_
    · rw [hn] at hj
      rw [hc.cell (by left; omega)]; exact hu
    · rw [hn, Nat.zero_add]; exact ha
  · exact (h2.chg hc).join (ho.mono hL) (Apart.far (fun b hb => h2.lt hb) (fun b hb => (ho.2 b hb).1))
  · intro hm
    rcases List.mem_append.1 hm with hm | hm
    · exact h3 hm
    · have := (ho.2 g hm).1; omega
  · have hs : k * GT.sz α + GT.sz α = (k + 1) * GT.sz α := by rw [Nat.succ_mul]
    rw [hs] at hr
    refine hr.move (fun b hb => hc.keep (hr.inh b hb) (fun e => by have := h5 b (List.mem_append_right _ hb); omega) (by simp)) fun j u hj hu => ?_
    rw [hc.cell (by right; omega)]; exact hu
theorem Dc.fin {α : Type} [GT α] {L L' lo : Nat} {w : World} {g : Nat} {xs : List α} {ga : Option Addr} {n c : Nat} (h : Dc L lo w g xs n) (hn : xs.length = n) (hga : 0 < n → ga = some ⟨g, 0, none⟩) (hg : 0 < n → L' ≤ g) (hl : L' ≤ L) (hc : n ≤ c) (hm : c ≤ maxLen) :
    ∃ F, Sl w (.slice ga n c) xs F ∧ Own L' w F ∧ ∀ k ∈ F, k = g ∨ L ≤ k := by
  subst hn
  obtain ⟨F1, F2, h1, h2, h3, h4, h5, h6⟩ := h
  rw [List.take_of_length_le (Nat.le_refl _)] at h1
  by_cases hx : xs = []
  · subst hx; exact ⟨[], ⟨_, c, rfl, hc, hm, .inl ⟨rfl, rfl⟩⟩, Own.nil _ _, fun k hk => by cases hk⟩
  · have hp : 0 < xs.length := List.length_pos_iff.2 hx
    refine ⟨g :: F1, ⟨_, c, rfl, hc, hm, .inr ⟨hx, g, 0, F1, hga hp, rfl, h1⟩⟩, ⟨List.nodup_cons.2 ⟨h3, h2.1⟩, fun b hb => ?_⟩, fun k hk => ?_⟩
    · rcases List.mem_cons.1 hb with rfl | hb
      · exact ⟨hg hp, h6⟩
      · exact ⟨Nat.le_trans hl (h2.2 b hb).1, (h2.2 b hb).2⟩
    · rcases List.mem_cons.1 hk with rfl | hk
      · exact .inl rfl
      · exact .inr (h2.2 k hk).1
/-- A header block of one's own; the elements may reach elder memory, below lo. -/
def Oq {α : Type} [GT α] (L : Nat) (w : World) (v : Value) (xs : List α) (F : List Nat) (lo : Nat) : Prop :=
  ∃ ga, v = .slice ga xs.length xs.length ∧ xs.length ≤ maxLen ∧ ((xs = [] ∧ F = []) ∨ ∃ g FP, ga = some ⟨g, 0, none⟩ ∧ F = [g] ∧ L ≤ g ∧ Row w g 0 xs FP ∧ (∀ b ∈ FP, b < lo) ∧ Fz w g)
theorem Oq.ext {α : Type} [GT α] {L lo : Nat} {w w' : World} {v : Value} {xs : List α} {F : List Nat} (h : Oq L w v xs F lo) (he : Ext w w') : Oq L w' v xs F lo := by
  obtain ⟨ga, rfl, hm, h⟩ := h
  refine ⟨ga, rfl, hm, h.imp (fun h => h) ?_⟩
  rintro ⟨g, FP, h1, h2, h3, h4, h5, h6⟩
  exact ⟨g, FP, h1, h2, h3, h4.keep (he.block g h6.lt) (fun b hb => he.block b (h4.inh b hb)), h5, h6.ext he⟩
theorem Oq.mono {α : Type} [GT α] {L L' lo : Nat} {w : World} {v : Value} {xs : List α} {F : List Nat} (h : Oq L w v xs F lo) (hl : L' ≤ L) : Oq L' w v xs F lo := by
  obtain ⟨ga, rfl, hm, h⟩ := h
  exact ⟨ga, rfl, hm, h.imp (fun h => h) fun ⟨g, FP, h1, h2, h3, h4⟩ => ⟨g, FP, h1, h2, Nat.le_trans hl h3, h4⟩⟩
theorem Oq.form {α : Type} [GT α] {L lo : Nat} {w : World} {v : Value} {xs : List α} {F : List Nat} (h : Oq L w v xs F lo) : ∃ a c, v = .slice a xs.length c ∧ xs.length ≤ maxLen := by
  obtain ⟨ga, rfl, hm, h⟩ := h; exact ⟨_, _, rfl, hm⟩
theorem Oh.oq {α : Type} [GT α] {L lo : Nat} {w : World} {v : Value} {xs : List α} {F : List Nat} (h : Oh L w v xs F) (hF : ∀ b ∈ F, b < lo) : ∃ G, Oq L w v xs G lo ∧ Own L w G := by
  rcases h with ⟨rfl, rfl, rfl⟩ | ⟨g, rfl, hL, hz, hm, hr, hn⟩
  · exact ⟨[], ⟨none, rfl, Nat.zero_le _, .inl ⟨rfl, rfl⟩⟩, Own.nil _ _⟩
  · exact ⟨[g], ⟨_, rfl, hm, .inr ⟨g, F, rfl, rfl, hL, hr, hF, hz⟩⟩, by simp, fun b hb => by rw [List.mem_singleton] at hb; subst hb; exact ⟨hL, hz⟩⟩
theorem Oh.flat {α : Type} [GT α] [Fl α] {L : Nat} {w : World} {v : Value} {xs : List α} {F : List Nat} (h : Oh L w v xs F) : Os L w v xs := by
  have : F = [] := by
    rcases h with ⟨_, _, rfl⟩ | ⟨g, rfl, hL, hz, hl, hr, _⟩
    · rfl
    · exact hr.fl
  subst this; exact h.os
/-- What the copying begins with. -/
theorem Oq.dc {α : Type} [GT α] {L lo : Nat} {w : World} {v : Value} {xs : List α} {F : List Nat} (h : Oq L w v xs F lo) (M d : Nat) (hd : Fz w d) : ∃ g ga, v = .slice ga xs.length xs.length ∧ xs.length ≤ maxLen ∧ (xs ≠ [] → ga = some ⟨g, 0, none⟩ ∧ F = [g]) ∧ (xs = [] → g = d) ∧ Dc M lo w g xs 0 := by
  obtain ⟨ga, rfl, hm, ⟨rfl, rfl⟩ | ⟨g, FP, rfl, rfl, hL, hr, hF, hz⟩⟩ := h
  · exact ⟨d, ga, rfl, hm, fun h => absurd rfl h, fun _ => rfl, Dc.start (F := []) rfl (by simp) hd⟩
  · by_cases hx : xs = []
    · subst hx; exact ⟨d, _, rfl, hm, fun h => absurd rfl h, fun _ => rfl, Dc.start (F := []) rfl (by simp) hd⟩
    · exact ⟨g, _, rfl, hm, fun _ => ⟨rfl, rfl⟩, fun h => absurd h hx, Dc.start hr hF hz⟩
end Sk

