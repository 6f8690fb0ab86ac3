/- Contracts of functions of the given program, and lemmas for them: each theorem states the condition under which it holds. -/
import Derived.Test.YtmkibejcdldjeaaChecked
import Derived.Deep.CutBlock
import Derived.Deep.CutRange
import Derived.Lib.SliceRun
import Derived.Test.YtmkibejcdldjeaaBuild
import Derived.Test.YtmkibejcdldjeaaGaps
import Derived.Test.YtmkibejcdldjeaaNums
import Derived.Test.YtmkibejcdldjeaaTypes
namespace Sk
open Go Go.Proofs Go.RowKit
set_option maxHeartbeats 4000000
set_option maxRecDepth 100000
set_option linter.unusedVariables false
set_option linter.unusedSimpArgs false
/-- A row of which the first k elements are one's own; the rest still reach the elder memory. -/
def Dc {α : Type} [GT α] (L lo : Nat) (w : World) (g : Nat) (xs : List α) (k : Nat) : Prop :=
  ∃ F1 F2, Row w g 0 (xs.take k) F1 ∧ Own L w F1 ∧ g ∉ F1 ∧ Row w g (k * GT.sz α) (xs.drop k) F2 ∧ (∀ b ∈ F2, b < lo) ∧ Fz w g
theorem Dc.start {α : Type} [GT α] {L lo : Nat} {w : World} {g : Nat} {xs : List α} {F : List Nat} (h : Row w g 0 xs F) (hF : ∀ b ∈ F, b < lo) (hz : Fz w g) : Dc L lo w g xs 0 :=
  ⟨[], F, rfl, Own.nil _ _, by simp, by simpa using h, hF, hz⟩
theorem Dc.elem {α : Type} [GT α] {L lo : Nat} {w : World} {g : Nat} {xs : List α} {k : Nat} {x : α} (h : Dc L lo w g xs k) (hx : xs[k]? = some x) : ∃ cs F, GT.enc w cs x F ∧ At w g (k * GT.sz α) cs ∧ ∀ b ∈ F, b < lo := by
  obtain ⟨F1, F2, h1, h2, h3, h4, h5, h6⟩ := h
  have hk := (List.getElem?_eq_some_iff.1 hx).1
  have hd : xs.drop k = x :: xs.drop (k + 1) := by rw [List.drop_eq_getElem_cons hk]; congr 1; exact (List.getElem?_eq_some_iff.1 hx).2
  rw [hd] at h4
  obtain ⟨cs, G1, G2, he, ha, rfl, hr⟩ := h4
  exact ⟨cs, G1, he, ha, fun b hb => h5 b (List.mem_append_left _ hb)⟩
theorem Dc.ext {α : Type} [GT α] {L lo : Nat} {w w' : World} {g : Nat} {xs : List α} {k : Nat} (h : Dc L lo w g xs k) (he : Ext w w') : Dc L lo w' g xs k := by
  obtain ⟨F1, F2, h1, h2, h3, h4, h5, h6⟩ := h
  have hg := he.block g h6.lt
  exact ⟨F1, F2, h1.keep hg (fun b hb => he.block b (h1.inh b hb)), h2.ext he, h3, h4.keep hg (fun b hb => he.block b (h4.inh b hb)), h5, h6.ext he⟩
theorem Dc.keep {α : Type} [GT α] {L lo : Nat} {w w' : World} {g : Nat} {xs : List α} {k : Nat} {b o n : Nat} (h : Dc L lo w g xs k) (hc : Chg b o n [] w w') (hg : b ≠ g) (hb : b < L) (hl : lo ≤ b) : Dc L lo w' g xs k := by
  obtain ⟨F1, F2, h1, h2, h3, h4, h5, h6⟩ := h
  have hg := hc.keep h6.lt (Ne.symm hg) (by simp)
  exact ⟨F1, F2, h1.keep hg (fun x hx => hc.keep (h1.inh x hx) (fun e => by have := (h2.2 x hx).1; omega) (by simp)), h2.chg hc, h3, h4.keep hg (fun x hx => hc.keep (h4.inh x hx) (fun e => by have := h5 x hx; omega) (by simp)), h5, hc.2.2.2.2 g h6⟩
theorem Dc.step {α : Type} [GT α] {L lo : Nat} {w w' : World} {g : Nat} {xs : List α} {k : Nat} {x : α} {cs : List Value} {F : List Nat} (h : Dc L lo w g xs k) (hl : lo ≤ g) (hL : L ≤ w.heap.size) (hx : xs[k]? = some x)
    (hc : Chg g (k * GT.sz α) (GT.sz α) [] w w') (he : GT.enc w' cs x F) (ha : At w' g (k * GT.sz α) cs) (ho : Own w.heap.size w' F) : Dc L lo w' g xs (k + 1) := by
  obtain ⟨F1, F2, h1, h2, h3, h4, h5, h6⟩ := h
  have hk := (List.getElem?_eq_some_iff.1 hx).1
  have hd : xs.drop k = x :: xs.drop (k + 1) := by rw [List.drop_eq_getElem_cons hk]; congr 1; exact (List.getElem?_eq_some_iff.1 hx).2
  rw [hd] at h4
  obtain ⟨cs0, G1, G2, he0, ha0, rfl, hr⟩ := h4
  have hlt := h6.lt
  have hn : (xs.take k).length = k := by rw [List.length_take]; omega
  refine ⟨F1 ++ F, G2, ?_, ?_, ?_, ?_, fun b hb => h5 b (List.mem_append_right _ hb), hc.2.2.2.2 g h6⟩
  · rw [take_snoc hx]
    refine Row.snoc (h1.move (fun b hb => hc.keep (h1.inh b hb) (fun e => h3 (e ▸ hb)) (by simp)) fun j u hj hu => ?_) he ?_
    · rw [hn] at hj
      rw [hc.cell (by left; omega)]; exact hu
    · rw [hn, Nat.zero_add]; exact ha
  · exact (h2.chg hc).join (ho.mono hL) (Apart.far (fun b hb => h2.lt hb) (fun b hb => (ho.2 b hb).1))
  · intro hm
    rcases List.mem_append.1 hm with hm | hm
    · exact h3 hm
    · have := (ho.2 g hm).1; omega
  · have hs : k * GT.sz α + GT.sz α = (k + 1) * GT.sz α := by rw [Nat.succ_mul]
    rw [hs] at hr
    refine hr.move (fun b hb => hc.keep (hr.inh b hb) (fun e => by have := h5 b (List.mem_append_right _ hb); omega) (by simp)) fun j u hj hu => ?_
    rw [hc.cell (by right; omega)]; exact hu
theorem Dc.fin {α : Type} [GT α] {L L' lo : Nat} {w : World} {g : Nat} {xs : List α} {ga : Option Addr} {n c : Nat} (h : Dc L lo w g xs n) (hn : xs.length = n) (hga : 0 < n → ga = some ⟨g, 0, none⟩) (hg : 0 < n → L' ≤ g) (hl : L' ≤ L) (hc : n ≤ c) (hm : c ≤ maxLen) :
    ∃ F, Sl w (.slice ga n c) xs F ∧ Own L' w F ∧ ∀ k ∈ F, k = g ∨ L ≤ k := by
  subst hn
  obtain ⟨F1, F2, h1, h2, h3, h4, h5, h6⟩ := h
  rw [List.take_of_length_le (Nat.le_refl _)] at h1
  by_cases hx : xs = []
  · subst hx; exact ⟨[], ⟨_, c, rfl, hc, hm, .inl ⟨rfl, rfl⟩⟩, Own.nil _ _, fun k hk => by cases hk⟩
  · have hp : 0 < xs.length := List.length_pos_iff.2 hx
    refine ⟨g :: F1, ⟨_, c, rfl, hc, hm, .inr ⟨hx, g, 0, F1, hga hp, rfl, h1⟩⟩, ⟨List.nodup_cons.2 ⟨h3, h2.1⟩, fun b hb => ?_⟩, fun k hk => ?_⟩
    · rcases List.mem_cons.1 hb with rfl | hb
      · exact ⟨hg hp, h6⟩
      · exact ⟨Nat.le_trans hl (h2.2 b hb).1, (h2.2 b hb).2⟩
    · rcases List.mem_cons.1 hk with rfl | hk
      · exact .inl rfl
      · exact .inr (h2.2 k hk).1
/-- A header block of one's own; the elements may reach elder memory, below lo. -/
def Oq {α : Type} [GT α] (L : Nat) (w : World) (v : Value) (xs : List α) (F : List Nat) (lo : Nat) : Prop :=
  ∃ ga, v = .slice ga xs.length xs.length ∧ xs.length ≤ maxLen ∧ ((xs = [] ∧ F = []) ∨ ∃ g FP, ga = some ⟨g, 0, none⟩ ∧ F = [g] ∧ L ≤ g ∧ Row w g 0 xs FP ∧ (∀ b ∈ FP, b < lo) ∧ Fz w g)
theorem Oq.ext {α : Type} [GT α] {L lo : Nat} {w w' : World} {v : Value} {xs : List α} {F : List Nat} (h : Oq L w v xs F lo) (he : Ext w w') : Oq L w' v xs F lo := by
  obtain ⟨ga, rfl, hm, h⟩ := h
  refine ⟨ga, rfl, hm, h.imp (fun h => h) ?_⟩
  rintro ⟨g, FP, h1, h2, h3, h4, h5, h6⟩
  exact ⟨g, FP, h1, h2, h3, h4.keep (he.block g h6.lt) (fun b hb => he.block b (h4.inh b hb)), h5, h6.ext he⟩
theorem Oq.mono {α : Type} [GT α] {L L' lo : Nat} {w : World} {v : Value} {xs : List α} {F : List Nat} (h : Oq L w v xs F lo) (hl : L' ≤ L) : Oq L' w v xs F lo := by
  obtain ⟨ga, rfl, hm, h⟩ := h
  exact ⟨ga, rfl, hm, h.imp (fun h => h) fun ⟨g, FP, h1, h2, h3, h4⟩ => ⟨g, FP, h1, h2, Nat.le_trans hl h3, h4⟩⟩
theorem Oq.form {α : Type} [GT α] {L lo : Nat} {w : World} {v : Value} {xs : List α} {F : List Nat} (h : Oq L w v xs F lo) : ∃ a c, v = .slice a xs.length c ∧ xs.length ≤ maxLen := by
  obtain ⟨ga, rfl, hm, h⟩ := h; exact ⟨_, _, rfl, hm⟩
theorem Oh.oq {α : Type} [GT α] {L lo : Nat} {w : World} {v : Value} {xs : List α} {F : List Nat} (h : Oh L w v xs F) (hF : ∀ b ∈ F, b < lo) : ∃ G, Oq L w v xs G lo ∧ Own L w G := by
  rcases h with ⟨rfl, rfl, rfl⟩ | ⟨g, rfl, hL, hz, hm, hr, hn⟩
  · exact ⟨[], ⟨none, rfl, Nat.zero_le _, .inl ⟨rfl, rfl⟩⟩, Own.nil _ _⟩
  · exact ⟨[g], ⟨_, rfl, hm, .inr ⟨g, F, rfl, rfl, hL, hr, hF, hz⟩⟩, by simp, fun b hb => by rw [List.mem_singleton] at hb; subst hb; exact ⟨hL, hz⟩⟩
theorem Oh.flat {α : Type} [GT α] [Fl α] {L : Nat} {w : World} {v : Value} {xs : List α} {F : List Nat} (h : Oh L w v xs F) : Os L w v xs := by
  have : F = [] := by
    rcases h with ⟨_, _, rfl⟩ | ⟨g, rfl, hL, hz, hl, hr, _⟩
    · rfl
    · exact hr.fl
  subst this; exact h.os
/-- What the copying begins with. -/
theorem Oq.dc {α : Type} [GT α] {L lo : Nat} {w : World} {v : Value} {xs : List α} {F : List Nat} (h : Oq L w v xs F lo) (M d : Nat) (hd : Fz w d) : ∃ g ga, v = .slice ga xs.length xs.length ∧ xs.length ≤ maxLen ∧ (xs ≠ [] → ga = some ⟨g, 0, none⟩ ∧ F = [g]) ∧ (xs = [] → g = d) ∧ Dc M lo w g xs 0 := by
  obtain ⟨ga, rfl, hm, ⟨rfl, rfl⟩ | ⟨g, FP, rfl, rfl, hL, hr, hF, hz⟩⟩ := h
  · exact ⟨d, ga, rfl, hm, fun h => absurd rfl h, fun _ => rfl, Dc.start (F := []) rfl (by simp) hd⟩
  · by_cases hx : xs = []
    · subst hx; exact ⟨d, _, rfl, hm, fun h => absurd rfl h, fun _ => rfl, Dc.start (F := []) rfl (by simp) hd⟩
    · exact ⟨g, _, rfl, hm, fun _ => ⟨rfl, rfl⟩, fun h => absurd h hx, Dc.start hr hF hz⟩
end Sk

namespace Sk
open Go Go.Proofs Go.RowKit
set_option maxHeartbeats 4000000
set_option maxRecDepth 100000
set_option linter.unusedVariables false
set_option linter.unusedSimpArgs false
theorem chg_setCells (b : Nat) : ∀ (vs : List Value) (o : Nat) (w : World), Chg b o vs.length [] w (w.setCells b o vs)
  | [], o, w => Chg.refl _ _ _ _ _
  | v :: vs, o, w => by
    have h1 : Chg b o (vs.length + 1) [] w (w.setCell ⟨b, o, none⟩ v) := (Chg.refl _ _ _ _ _).set ⟨Nat.le_refl _, by omega⟩ _
    have h2 := chg_setCells b vs (o + 1) (w.setCell ⟨b, o, none⟩ v)
    exact h1.trF (h2.wide (by omega) (by omega) (fun _ h => h)) (fun _ h => by cases h)
theorem run_clear {α : Type} [GT α] {P : Program} (w : World) (t e : TypeId) (ht : P.underlying t = some (.slice e)) (hel : El P e α) (b o n c : Nat)
    (hc : ∀ j, j < n * GT.sz α → ∃ u, w.cell? ⟨b, o + j, none⟩ = some u) (hf : ∀ j, w.frozen? ⟨b, j, none⟩ = false) :
    ∃ w', (∀ ty, (Builtin.clear_ #[t] ty #[.slice (some ⟨b, o, none⟩) n c]).run P w = .ok (.tuple #[]) w') ∧ Chg b o (n * GT.sz α) [] w w' := by
  by_cases hn : n = 0
  · subst hn
    exact ⟨w, fun ty => by simp [Builtin.clear_, run_underlying ht], by rw [Nat.zero_mul]; exact Chg.refl _ _ _ _ _⟩
  · obtain ⟨i, z, bytes, hi, hz, hsz, hby, hzc, hb⟩ := hel
    have hzl : z.cells.size = GT.sz α := by rw [← GT.len (GT.zero (α := α) w), ← hzc]; simp
    have hlen : (Builtin.zeroCells z.cells n).toList.length = n * GT.sz α := by simp [Builtin.zeroCells, hzl]
    have h1 : ∀ v ∈ (Builtin.zeroCells z.cells n).toList, v.oneCell' = true := by
      intro v hv
      simp only [Builtin.zeroCells, Array.toList_map, List.mem_map, Array.mem_toList_iff, Array.mem_range] at hv
      obtain ⟨k, hk, rfl⟩ := hv
      have hp : 0 < z.cells.size := by rw [hzl]; exact GT.pos
      have hm := Nat.mod_lt k hp
      rw [getElem!_pos z.cells _ hm]
      exact GT.one (GT.zero (α := α) w) _ (by rw [← hzc]; simp)
    have hst := run_storeCells_cells (P := P) b o (Builtin.zeroCells z.cells n).toList 0 w (fun j hj => by rw [hlen] at hj; obtain ⟨u, hu⟩ := hc j hj; simp [hu]) (fun j hj => hf _) h1
    simp only [Nat.add_zero] at hst
    obtain ⟨m, rfl⟩ : ∃ m, n = m + 1 := ⟨n - 1, by omega⟩
    have hv : (zeroValue e).run P w = .ok z w := by simp [zeroValue, typeInfo, hi, hz]
    refine ⟨_, fun ty => by simp [Builtin.clear_, run_underlying ht, hv, hst]; rfl, ?_⟩
    have := chg_setCells b (Builtin.zeroCells z.cells (m + 1)).toList o w
    rwa [hlen] at this
theorem Chg.gb {b o n : Nat} {a c : World} (h : Chg b o n [] a c) : a.grownBy c (some b) := ⟨h.1.os, h.1.tape, h.1.output, h.sz, fun k hk hne => h.keep hk (fun e => hne (by rw [e])) (by simp)⟩
end Sk

namespace Sk
open Go Go.Proofs Go.RowKit
set_option maxHeartbeats 400000
set_option maxRecDepth 100000
set_option linter.unusedVariables false
set_option linter.unusedSimpArgs false
theorem beq_cases {α : Type} [BEq α] [LawfulBEq α] (x y : α) : (x = y ∧ (x == y) = true ∧ (x != y) = false) ∨ (x ≠ y ∧ (x == y) = false ∧ (x != y) = true) := by
  by_cases h : x = y
  · exact .inl ⟨h, by simpa using h, by simpa using h⟩
  · exact .inr ⟨h, by simpa using h, by simpa using h⟩
theorem law_sameInts (v1 v2 : Value) (xs ys : List Int) (w : World) (hv1 : Rs w v1 xs) (hv2 : Rs w v2 ys) :
   Calls Try.prog 9 #[v1, v2] w fun e w' => e = .returned (.bool (Eqb xs ys)) ∧ Ext w w' := by
  obtain ⟨a, c, rfl, hl⟩ := hv1.form
  obtain ⟨a2, c2, rfl, hl2⟩ := hv2.form
  by_cases hne : xs.length = ys.length
  · have H := Lib.hid hne
    rw [← hne] at hv2 hl2 ⊢
    clear hne
    have H1 := Lib.hid hv1
    have H2 := Lib.hid hv2
    clear hv1 hv2
    go_enter Try.func9, Try.ntmps9
    go_wp2
    go_loopw [5] (fun i wr => ∃ k : Nat, k ≤ xs.length ∧ i = .int .i64 k ∧ xs.take k = ys.take k ∧ Ext w wr) (fun i _ => xs.length - (intOf i).toNat)
    case atStart => exact ⟨0, Nat.zero_le _, rfl, rfl, .refl _⟩
    case round =>
      obtain ⟨k, hk, rfl, he, hq⟩ := hrel
      have HE := Lib.hid he
      have HQ := Lib.hid hq
      clear he hq
      by_cases hlt : k < xs.length
      · obtain ⟨b, o, x, rfl, _, hx1, hc1, g0⟩ := (H1.out.ext HQ.out).atInt k hlt
        obtain ⟨b2, o2, y, rfl, _, hx2, hc2, g1⟩ := (H2.out.ext HQ.out).atInt k (by have := H.out; omega)
        clear H1 H2
        rcases beq_cases x y with ⟨hx, q1, q2⟩ | ⟨hx, q1, q2⟩
        · have hx3 := Lib.hid hx
          clear hx
          go_wp2
          go_quiet (fail)
          go_wp2
          go_roundw
          case rel => exact ⟨k + 1, by omega, by go_num, take_eq_succ hx1.out (by first | exact hx2.out | exact hx3.out ▸ hx2.out) HE.out, HQ.out.drewN _⟩
          case measure => simp [intOf]; omega
        · have HN := Lib.hid (Eqb.f (ne_at hx1.out hx2.out hx))
          clear hx
          go_wp2
          go_quiet (fail)
          go_wp2
          go_ret
          exact ⟨wp_cond_ret HN.out.symm, HQ.out.drewN _⟩
      · have HN := Lib.hid (Eqb.t (take_eq_all xs ys k H.out (by omega) HE.out))
        clear H1 H2
        go_wp2
        go_ret
        exact ⟨wp_cond_ret HN.out.symm, HQ.out⟩
  · have HN := Lib.hid (Eqb.f (fun h => hne (by rw [h]) : xs ≠ ys))
    have hb : decide (xs.length = ys.length) = false := by simpa using hne
    clear hv1 hv2
    go_enter Try.func9, Try.ntmps9
    go_wp2
    all_goals go_ret
    all_goals exact ⟨wp_cond_ret HN.out.symm, .refl _⟩
end Sk

namespace Sk
open Go Go.Proofs Go.RowKit
set_option maxHeartbeats 4000000
set_option maxRecDepth 100000
set_option linter.unusedVariables false
set_option linter.unusedSimpArgs false
theorem Rs.tailI {W : World} {b o n c : Nat} {x : Int} {xs : List Int} (h : Rs W (.slice (some ⟨b, o, none⟩) n c) (x :: xs)) : Rs W (.slice (some ⟨b, o + 1, none⟩) (n - 1) (c - 1)) xs := by
  obtain ⟨F, a, c', he, hl, hc, ⟨h1, _⟩ | ⟨_, b', o', F', h1, rfl, hr⟩⟩ := h
  · cases h1
  · cases he; cases h1
    obtain ⟨cs, F1, F2, _, _, rfl, hr⟩ := hr
    simp only [List.length_cons] at hl
    by_cases hx : xs = []
    · subst hx; exact ⟨[], some ⟨b, o + 1, none⟩, c - 1, by simp, by simp, by unfold maxLen at *; omega, .inl ⟨rfl, rfl⟩⟩
    · exact ⟨b :: F2, some ⟨b, o + 1, none⟩, c - 1, by simp, by omega, by unfold maxLen at *; omega, .inr ⟨hx, b, o + 1, F2, rfl, rfl, by simpa [GT.sz] using hr⟩⟩
def M.hd : List Int → Int
  | [] => 0
  | x :: _ => x
theorem Rs.nilI {W : World} {a : Option Addr} {c : Nat} (hc : c ≤ 9223372036854775807) : Rs (α := Int) W (.slice a 0 c) [] := ⟨[], a, c, rfl, Nat.zero_le _, hc, .inl ⟨rfl, rfl⟩⟩
theorem Mo.bk {F : List Nat} {a b : World} {p : Nat} {cs : List Value} {T : TypeId} (h : Mo F a b) (k : Bk a p cs T) (hp : p ∉ F) : Bk b p cs T := (Mx.ofMo h).bk k hp
theorem Mo.cell {F : List Nat} {a b : World} (h : Mo F a b) {p o : Nat} (hp : p ∉ F) : b.cell? ⟨p, o, none⟩ = a.cell? ⟨p, o, none⟩ := World.cell?_of_block (h.2.2.1 p hp)
theorem Oo.mo {α : Type} [GT α] {e : TypeId} {L : Nat} {w w' : World} {v : Value} {xs : List α} {F : List Nat} (h : Oo e L w v xs) (k : Mo F w w') (hF : ∀ x ∈ F, x < L) : Oo e L w' v xs := by
  obtain ⟨G, h1, h2⟩ := h
  exact ⟨G, h1.keep (fun x hx => k.2.2.1 x (fun hm => by have := h1.own x hx; have := hF x hm; omega)) (fun x hx => k.2.2.1 x (fun hm => by have := (h2.2 x hx).1; have := hF x hm; omega)), k.own h2⟩
theorem Mo.drewN {F : List Nat} {a b : World} (h : Mo F a b) (n : Nat) : Mo F a (b.drewN n) := by
  obtain ⟨h1, h2, h3, h4⟩ := h
  exact ⟨h1, ⟨h2.os, h2.tape, h2.output, Nat.le_refl _, fun b hb => by cases hb⟩, h3, fun k hk => (h4 k hk).ext ((Ext.refl _).drewN n)⟩
theorem Mo.lt {F : List Nat} {a b : World} (h : Mo F a b) : b.heap.size = a.heap.size := h.1
def M.many (xs : List Int) (m : Int) : Int := if M.inn (M.hd xs) 0 m then M.hd xs else 0
def M.manyB (xs : List Int) (bad : Bool) (m : Int) : Bool := (bad || xs.isEmpty) || !M.inn (M.hd xs) 0 m
end Sk

