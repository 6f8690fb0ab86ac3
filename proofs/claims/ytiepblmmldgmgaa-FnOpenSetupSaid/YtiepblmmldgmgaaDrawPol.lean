/- Contracts of functions of the given program, and lemmas for them: each theorem states the condition under which it holds. -/
import Derived.Test.YtiepblmmldgmgaaChecked
import Derived.Deep.CutBlock
import Derived.Deep.CutRange
import Derived.Test.YtiepblmmldgmgaaDrawW
import Derived.Test.YtiepblmmldgmgaaRefc
namespace Sk
open Go Go.Proofs Go.RowKit
set_option maxHeartbeats 1600000
set_option maxRecDepth 100000
set_option linter.unusedVariables false
set_option linter.unusedSimpArgs false
/-- A row of flags that one may append to. -/
structure Ab where
  v : List Bool
instance instGTAb : GT Ab where
  default := ⟨[]⟩
  sz := 1
  enc w cs x F := ∃ val, cs = [val] ∧ Oa 4 0 w val x.v [] ∧ F = val.ownBlock.toList
  pos := Nat.one_pos
  len := by rintro w cs x F ⟨v, rfl, _⟩; rfl
  one := by
    rintro w cs x F ⟨v, rfl, h, _⟩ u hu
    obtain ⟨a, c, rfl, _⟩ := h.form
    simp at hu; subst hu; rfl
  inh := by rintro w cs x F ⟨v, rfl, h, rfl⟩ b hb; exact h.lt b (Option.mem_toList.1 hb)
  keep := by
    rintro w w' cs x F ⟨v, rfl, h, rfl⟩ hk
    exact ⟨v, rfl, h.keep (fun k hv => hk k (Option.mem_toList.2 hv)) (fun k hk => by cases hk), rfl⟩
  tot x := x.v.length
  ct _ := 1
  mkE x _ := x
  mkE_ct _ _ := rfl
  mkE_idem _ _ := rfl
  zc := [.slice none 0 0]
  zero w := ⟨_, rfl, Oa.nil _ _ _, rfl⟩
theorem elAb : El Try.prog 41 Ab := El.of (z := .slice none 0 0) (n := 1) (b := 24) (by kernel_rfl) rfl rfl (by decide)
theorem Oa.slS {w : World} {e : TypeId} {L : Nat} {v : Value} {xs : List Bool} (h : Oa e L w v xs []) : ∃ F, Sl w v xs F ∧ ∀ k ∈ F, v.ownBlock = some k := by
  rcases h with ⟨rfl, rfl, _⟩ | ⟨g, cap, cur, rfl, hL, hg, hl, hc, hs, hr, hn⟩
  · exact ⟨[], ⟨none, 0, rfl, Nat.le_refl _, Nat.zero_le _, .inl ⟨rfl, rfl⟩⟩, fun k hk => by cases hk⟩
  · by_cases hx : xs = []
    · subst hx
      exact ⟨[], ⟨_, cap, rfl, hl, hc, .inl ⟨rfl, rfl⟩⟩, fun k hk => by cases hk⟩
    · exact ⟨[g], ⟨_, cap, rfl, hl, hc, .inr ⟨hx, g, 0, [], rfl, rfl, hr⟩⟩, fun k hk => by rw [List.mem_singleton] at hk; subst hk; rfl⟩
theorem Row.abs {w : World} {b : Nat} {xs : List Ab} : ∀ {o : Nat} {F : List Nat}, Row w b o xs F → ∃ F', Row w b o (xs.map Ab.v) F' ∧ ∀ k ∈ F', k ∈ F := by
  induction xs with
  | nil => intro o F h; exact ⟨[], rfl, fun k hk => by cases hk⟩
  | cons x xs ih =>
    intro o F h
    obtain ⟨cs, F1, F2, ⟨v, rfl, hv, rfl⟩, ha, rfl, hr⟩ := h
    obtain ⟨G, h1, h2⟩ := ih hr
    obtain ⟨G1, h3, h4⟩ := hv.slS
    refine ⟨G1 ++ G, ⟨[v], G1, G, ⟨v, rfl, h3⟩, ha, rfl, h1⟩, fun k hk => ?_⟩
    rcases List.mem_append.1 hk with hk | hk
    · exact List.mem_append_left _ (Option.mem_toList.2 (h4 k hk))
    · exact List.mem_append_right _ (h2 k hk)
theorem Oo.abs {L : Nat} {w : World} {v : Value} {xs : List Ab} (h : Oo 41 L w v xs) : Rsb L w v (xs.map Ab.v) := by
  obtain ⟨F, h, ho⟩ := h
  have hown := h.own
  rcases h with ⟨rfl, rfl, _⟩ | ⟨g, cap, cur, rfl, hL, hg, hl, hc, hs, hr, hn⟩
  · exact ⟨[], ⟨none, 0, rfl, Nat.le_refl _, Nat.zero_le _, .inl ⟨rfl, rfl⟩⟩, fun k hk => by cases hk⟩
  · by_cases hx : xs = []
    · subst hx
      exact ⟨[], ⟨_, cap, rfl, hl, hc, .inl ⟨rfl, rfl⟩⟩, fun k hk => by cases hk⟩
    · obtain ⟨F', h1, h2⟩ := hr.abs
      refine ⟨g :: F', ⟨_, cap, by simp, by simpa using hl, hc, .inr ⟨by simpa using hx, g, 0, F', rfl, rfl, h1⟩⟩, fun k hk => ?_⟩
      rcases List.mem_cons.1 hk with rfl | hk
      · exact hL
      · exact (ho.2 k (h2 k hk)).1
/-- What is known of a list of rows with a first row that is not empty. -/
theorem Oo.first {L : Nat} {w : World} {a : Option Addr} {n c : Nat} {x : Ab} {xs : List Ab} (h : Oo 41 L w (.slice a n c) (x :: xs)) (hx : 0 < x.v.length) :
    ∃ G g c0 q, a = some ⟨G, 0, none⟩ ∧ n = xs.length + 1 ∧ n ≤ c ∧ c ≤ 9223372036854775807 ∧ w.cell? ⟨G, 0, none⟩ = some (.slice (some ⟨g, 0, none⟩) x.v.length c0) ∧ x.v.length ≤ c0 ∧ c0 ≤ 9223372036854775807 ∧ w.cell? ⟨g, 0, none⟩ = some (.bool q) ∧ w.frozen? ⟨G, 0, none⟩ = false ∧ w.frozen? ⟨g, 0, none⟩ = false ∧
      L ≤ G ∧ L ≤ g ∧ G ≠ g ∧ G < w.heap.size ∧ g < w.heap.size ∧ Hid (Oa 4 L w (.slice (some ⟨g, 0, none⟩) x.v.length c0) x.v []) ∧
      Hid (∀ w' v' ys F', (∀ j, 1 ≤ j → w'.cell? ⟨G, j, none⟩ = w.cell? ⟨G, j, none⟩) → w'.cell? ⟨G, 0, none⟩ = some v' → (∀ k, k < w.heap.size → k ≠ G → k ≠ g → w'.heap[k]? = w.heap[k]?) → Sl w' v' ys F' → (∀ k ∈ F', L ≤ k) →
        Rsb L w' (.slice a n c) (ys :: xs.map Ab.v)) ∧ Hid (Rsb L w (.slice (some ⟨G, 1, none⟩) xs.length (c - 1)) (xs.map Ab.v)) := by
  obtain ⟨F, h, ho⟩ := h
  have hown := h.own
  rcases h with ⟨_, h, _⟩ | ⟨G, cap, cur, he, hL, hg, hl, hc, hs, hr, hn⟩
  · cases h
  · cases he
    obtain ⟨cs, F1, F2, ⟨v0, rfl, hv, rfl⟩, ha, rfl, hr2⟩ := hr
    rcases id hv with ⟨_, h, _⟩ | ⟨g, c0, cur0, rfl, _, hg0, hl0, hc0, hs0, hr0, hgn⟩
    · rw [h] at hx; cases hx
    · have hG0 := ha 0 _ rfl
      rw [Nat.zero_add] at hG0
      obtain ⟨q, ys, hq⟩ : ∃ q ys, x.v = q :: ys := by
        cases hv : x.v with
        | nil => rw [hv] at hx; cases hx
        | cons q ys => exact ⟨q, ys, rfl⟩
      have hq0 : w.cell? ⟨g, 0, none⟩ = some (.bool q) := by
        rw [hq] at hr0
        obtain ⟨cs, F3, F4, ⟨rfl, _⟩, h2, _⟩ := hr0
        exact h2 0 _ rfl
      have hgm : g ∈ Option.toList (Value.ownBlock (.slice (some ⟨g, 0, none⟩) x.v.length c0)) := Option.mem_toList.2 rfl
      have hFg := ho.2 g (List.mem_append_left _ hgm)
      have hnd := List.nodup_append.1 ho.1
      have hGg : G ≠ g := fun e => hn (by rw [e]; exact List.mem_append_left _ hgm)
      have hva : Oa 4 L w (.slice (some ⟨g, 0, none⟩) x.v.length c0) x.v [] := .inr ⟨g, c0, cur0, rfl, hFg.1, hg0, hl0, hc0, hs0, hr0, hgn⟩
      unfold maxLen at hc hc0
      obtain ⟨F2', hr2a, hr2s⟩ := hr2.abs
      refine ⟨G, g, c0, q, rfl, by simp, hl, hc, hG0, hl0, hc0, hq0, (Bk.ofA hg).fz 0, (Bk.ofA hg0).fz 0, hL, hFg.1, hGg, (Bk.ofA hg).lt, (Bk.ofA hg0).lt, hva, ?_, ?_⟩
      · intro w' v' zs F' h1 h2 h3 h4 h5
        have hrr : Row w' G 1 xs F2 := by
          refine hr2.move (fun k hk => h3 k (hr2.inh k hk) ?_ ?_) fun j u hj hu => ?_
          · intro e; exact hn (e ▸ List.mem_append_right _ hk)
          · intro e; exact hnd.2.2 g hgm k hk e.symm
          · have e0 : (0 : Nat) + GT.sz Ab + j = 1 + j := by show 0 + 1 + j = _; omega
            rw [e0] at hu
            rw [h1 (1 + j) (by omega)]; exact hu
        obtain ⟨F3, h6, h7⟩ := hrr.abs
        refine ⟨G :: (F' ++ F3), ⟨_, c, by simp, by simpa using hl, by unfold maxLen; omega, .inr ⟨by simp, G, 0, _, rfl, rfl, [v'], F', F3, ⟨v', rfl, h4⟩, fun j u hj => ?_, rfl, h6⟩⟩, fun k hk => ?_⟩
        · cases j with
          | zero => cases hj; exact h2
          | succ j => cases hj
        · rcases List.mem_cons.1 hk with rfl | hk
          · exact hL
          · rcases List.mem_append.1 hk with hk | hk
            · exact h5 k hk
            · exact (ho.2 k (List.mem_append_right _ (h7 k hk))).1
      · have hl' : xs.length + 1 ≤ c := by simpa using hl
        by_cases hxs : xs = []
        · subst hxs
          exact ⟨[], ⟨_, c - 1, rfl, Nat.zero_le _, by unfold maxLen; omega, .inl ⟨rfl, rfl⟩⟩, fun k hk => by cases hk⟩
        · refine ⟨G :: F2', ⟨_, c - 1, by simp, by simp; omega, by unfold maxLen; omega, .inr ⟨by simpa using hxs, G, 1, F2', rfl, rfl, hr2a⟩⟩, fun k hk => ?_⟩
          rcases List.mem_cons.1 hk with rfl | hk
          · exact hL
          · exact (ho.2 k (List.mem_append_right _ (hr2s k hk))).1
theorem Oo.ownB {e : TypeId} {L : Nat} {w : World} {v : Value} {xs : List Bool} (h : Oo e L w v xs) : Own L w v.ownBlock.toList := by
  obtain ⟨F, h, _⟩ := h
  rcases h with ⟨rfl, _⟩ | ⟨g, cap, cur, rfl, hL, hg, _⟩
  · exact Own.nil _ _
  · exact ⟨by simp [Value.ownBlock], fun k hk => by have := Option.mem_toList.1 hk; cases this; exact ⟨hL, _, _, Bk.ofA hg⟩⟩
theorem Rsb.nil {α : Type} [GT α] {L : Nat} {w : World} {a : Option Addr} {n c : Nat} {xs : List α} (h : n = 0) (hx : xs = []) (hc : c ≤ 9223372036854775807) : Rsb L w (.slice a n c) xs := by
  subst h; subst hx
  exact ⟨[], ⟨_, c, rfl, Nat.zero_le _, by unfold maxLen; omega, .inl ⟨rfl, rfl⟩⟩, fun k hk => by cases hk⟩
theorem Oa.turn0 {w : World} {e : TypeId} {L g n c : Nat} {xs : List Bool} (h : Oa e L w (.slice (some ⟨g, 0, none⟩) n c) xs []) (hx : 0 < xs.length) (y : Bool) :
    Sl (w.setCell ⟨g, 0, none⟩ (.bool y)) (.slice (some ⟨g, 0, none⟩) n c) (xs.set 0 y) [g] := by
  rcases h with ⟨h, _⟩ | ⟨g, cap, cur, he, hL, hg, hl, hc, hs, hr, hn⟩
  · cases h
  · cases he
    cases xs with
    | nil => cases hx
    | cons x xs =>
      obtain ⟨cs, F1, F2, ⟨rfl, rfl⟩, ha, hF, hr2⟩ := hr
      obtain ⟨_, rfl⟩ := List.append_eq_nil_iff.1 hF.symm
      refine ⟨_, c, by simp, by simpa using hl, hc, .inr ⟨by simp, g, 0, [], rfl, rfl, [.bool y], [], [], ⟨rfl, rfl⟩, fun j u hj => ?_, rfl, hr2.move (fun k hk => by cases hk) fun j u _ hu => ?_⟩⟩
      · cases j with
        | zero => cases hj; exact World.cell?_setCell_same _ _ _ (ha 0 _ rfl)
        | succ j => cases hj
      · rw [cell_set_other (by show 0 ≠ 0 + 1 + j; omega)]; exact hu
theorem wpl_appC {α : Type} [GT α] {P : Program} {w : World} {ops : Array Oper} {rest : List Oper} {o : Oper} {a : Act} {Q : Exit → Act → World → Prop} (hgd : o.guard = none) (s x : Operand) (t : TypeId)
    (ho : o.op = .call { callee := .builtin .append, args := #[s, x], argTypes := #[t, t] }) (e : TypeId) (ht : P.underlying t = some (.slice e)) (hel : El P e α)
    {L M : Nat} {v : Value} {xs ys : List α} {Fy : List Nat} (hs : a.eval s = v) (hO : Oob e L M w v xs) (hL : L ≤ M) (hM : M ≤ w.heap.size) {ab ao m c : Nat} (hx : a.eval x = .slice (some ⟨ab, ao, none⟩) m c) (hm : ys.length = m) (hy : Row w ab ao ys Fy)
    (hm0 : 0 < m) (hown : Own M w Fy) (hlen : xs.length + m ≤ 4294967296)
    (h : ∀ v' w', Oo e L w' v' (xs ++ ys) → Mw v.ownBlock.toList w w' → (v'.ownBlock = v.ownBlock ∨ v'.ownBlock = some w.heap.size) → wpList P ops Q rest (a.put o.dst v') w') : wpList P ops Q (o :: rest) a w :=
  wpList_plain hgd fun _ hK => wp_appB s x t ho e ht hel hs hO hL hM hx hm hy hm0 hown hlen fun v' w' h1 h2 h3 => hK _ _ (h v' w' h1 h2 h3)
end Sk

namespace Sk
open Go Go.Proofs Go.RowKit
set_option maxHeartbeats 1600000
set_option maxRecDepth 100000
set_option linter.unusedVariables false
set_option linter.unusedSimpArgs false
/-- The length in a slice's header. -/
def lenOf : Value → Nat
  | .slice _ n _ => n
  | _ => 0
/-- The first element of a list of one's own, and what the list becomes when it is turned. -/
theorem Oo.head {α : Type} [GT α] {e : TypeId} {L : Nat} {w : World} {a : Option Addr} {n c : Nat} {x : α} {xs : List α} (h : Oo e L w (.slice a n c) (x :: xs)) :
    ∃ G cs F1, a = some ⟨G, 0, none⟩ ∧ n = xs.length + 1 ∧ n ≤ c ∧ c ≤ 9223372036854775807 ∧ L ≤ G ∧ G < w.heap.size ∧ Hid (GT.enc w cs x F1) ∧ Hid (At w G 0 cs) ∧ Hid (∀ j, w.frozen? ⟨G, j, none⟩ = false) ∧ Hid (∀ k ∈ F1, L ≤ k ∧ k ≠ G) ∧
      Hid (∀ w' cs' y F', (∀ j, GT.sz α ≤ j → w'.cell? ⟨G, j, none⟩ = w.cell? ⟨G, j, none⟩) → (∀ k, k < w.heap.size → k ≠ G → L ≤ k → w'.heap[k]? = w.heap[k]?) → GT.enc w' cs' y F' → At w' G 0 cs' → (∀ k ∈ F', L ≤ k) →
        Rsb L w' (.slice a n c) (y :: xs)) := by
  obtain ⟨F, h, ho⟩ := h
  rcases h with ⟨_, h, _⟩ | ⟨G, cap, cur, he, hL, hg, hl, hc, hs, hr, hn⟩
  · cases h
  · cases he
    obtain ⟨cs, F1, F2, hx, ha, rfl, hr2⟩ := hr
    refine ⟨G, cs, F1, rfl, by simp, hl, by unfold maxLen at hc; omega, hL, (Bk.ofA hg).lt, hx, ha, fun j => (Bk.ofA hg).fz j, fun k hk => ⟨(ho.2 k (List.mem_append_left _ hk)).1, fun e => hn (e ▸ List.mem_append_left _ hk)⟩, ?_⟩
    intro w' cs' y F' h1 h2 h3 h4 h5
    have hrr : Row w' G (0 + GT.sz α) xs F2 := hr2.move (fun k hk => h2 k (hr2.inh k hk) (fun e => hn (e ▸ List.mem_append_right _ hk)) (ho.2 k (List.mem_append_right _ hk)).1) (fun j u hj hu => by rw [h1 _ (by omega)]; exact hu)
    refine ⟨G :: (F' ++ F2), ⟨_, c, by simp, hl, hc, .inr ⟨by simp, G, 0, _, rfl, rfl, cs', F', F2, h3, h4, rfl, hrr⟩⟩, fun k hk => ?_⟩
    rcases List.mem_cons.1 hk with rfl | hk
    · exact hL
    · rcases List.mem_append.1 hk with hk | hk
      · exact h5 k hk
      · exact (ho.2 k (List.mem_append_right _ hk)).1
theorem At.two {w : World} {G : Nat} {u v : Value} (h0 : w.cell? ⟨G, 0, none⟩ = some u) (h1 : w.cell? ⟨G, 1, none⟩ = some v) : At w G 0 [u, v] := fun j x hj => by
  rcases j with _ | _ | j
  · cases hj; exact h0
  · cases hj; exact h1
  · cases hj
theorem spec_l20Slots (W w : World) (b m K : Nat) (n : Int) (h : Rd W w b (m + 20)) (hK : K ≤ 1000) (hn1 : -1000000 ≤ n) (hn2 : n ≤ 1000000) :
    Calls Try.prog 65 #[.pointer (some ⟨b, 0, none⟩), .int .i64 K, .int .i64 n] w fun e w' => ∃ v xs, e = .returned v ∧ Rsb (α := Slot) w.heap.size w' v xs ∧ xs.length ≤ 13 ∧ Mw [b] w w' ∧ Rd W w' b m := by
  have H := Lib.hid h
  have hbl := h.lt
  have hbW := h.1
  have hWw := h.2.1.sz
  clear h
  go_enter Try.func65, Try.ntmps65
  go_upto_region 2 with (fail)
  refine abs_world (fun W0 => Ext w W0 ∧ Oo (α := Slot) 65 w.heap.size W0 (.slice (some ⟨w.heap.size, 0, none⟩) 0 0) []) ⟨(Ext.refl _).alloc _, Oo.lit0 _ _⟩ ?_
  rintro W0 ⟨e0, ho0⟩
  have HRD := Lib.hid (H.out.ext e0)
  have HMW : Hid (Mw [b] w W0) := Lib.hid (Mw.ofExt e0)
  have HO := Lib.hid ho0
  clear e0 H ho0
  go_upto_block 0 with (go_at_call 62; refine (spec_pick W _ b _ _ HRD.out (rng_sm (by omega) (by omega))).mono ?_; rintro e w1 ⟨k, rfl, hk, hm, hr⟩; have hkb := hk.lt (by omega); replace HMW := Lib.hid (HMW.out.tr (Mw.ofMo hm)); replace HO := Lib.hid (HO.out.mo hm (by simp; omega)); replace HRD := Lib.hid hr; clear hk hm hr)
  obtain ⟨hk1, hk2⟩ := hkb
  obtain ⟨J, hJ⟩ : ∃ J : Nat, 1 + k = J := ⟨(1 + k).toNat, by omega⟩
  rw [hJ]
  have hJ1 : 1 ≤ J := by omega
  have hJ6 : J ≤ 6 := by omega
  clear hk1 hk2 hJ
  go_cut [7] from 9 (fun v7 wc => ∃ (ao : Option Addr) (no co : Nat) (xs : List Slot), v7 = .slice ao no co ∧ Oo 65 w.heap.size wc (.slice ao no co) xs ∧ 1 ≤ xs.length ∧ xs.length ≤ 6 ∧ Mw [b] w wc ∧ Rd W wc b (m + 5))
  case first =>
    go_wp2_with fail
    go_loopw [7, 8] (fun v7 i wr => ∃ (j : Nat) (ao : Option Addr) (no co : Nat) (xs : List Slot), j ≤ J ∧ i = .int .i64 (J - j : Int) ∧ v7 = .slice ao no co ∧ Oo 65 w.heap.size wr (.slice ao no co) xs ∧ xs.length = j ∧ Mw [b] w wr ∧ Rd W wr b (m + 19 - 2 * j)) (fun _ i _ => (intOf i).toNat)
    case atStart => exact ⟨0, _, _, _, [], Nat.zero_le _, by simp, rfl, HO.out, rfl, HMW.out, HRD.out⟩
    case round =>
      obtain ⟨j, ao, no, co, xs, hj, rfl, rfl, hoo, hxl, hmw, hrd⟩ := hrel
      have HMW2 := Lib.hid hmw
      have HO2 := Lib.hid hoo
      have hs1 := hmw.size
      have HRD2 : Hid (Rd W wr b ((m + 18 - 2 * j) + 1)) := Lib.hid (hrd.le (by omega))
      clear hmw hoo hrd
      by_cases hjt : j < J
      · go_wp2_with (first
          | (go_at_call 62; refine (spec_pick W _ b (m + 17 - 2 * j) _ (HR2.out.le (by omega)) (rng_sm (by omega) (by omega))).mono ?_; rintro e w3 ⟨k2, rfl, hk, hm, hr⟩; have hkb2 := hk.lt (by omega); have HM3 := Lib.hid (HM2.out.tr (Mw.ofMo hm)); have HO4 := Lib.hid (HO3.out.of (w' := w3) (fun k h1 h2 => (Mw.ofMo hm).2.2 k (by omega) (by simp; omega))); have hs3 := (Mw.ofMo hm).size; have HR3 := Lib.hid hr; clear hk hm hr)
          | (go_at_call 62; refine (spec_pick W _ b _ _ HRD2.out (rng_sm (by omega) (by omega))).mono ?_; rintro e w2 ⟨k1, rfl, hk, hm, hr⟩; have hkb1 := hk.lt (by omega); have HM2 := Lib.hid (HMW2.out.tr (Mw.ofMo hm)); have HO3 := Lib.hid (HO2.out.ob.of (w' := w2) (fun k h1 h2 => (Mw.ofMo hm).2.2 k h2 (by simp; omega))); have hs2 := (Mw.ofMo hm).size; have HR2 := Lib.hid hr; clear hk hm hr)
          | (at_builtin; refine wpl_appB (α := Slot) rfl _ _ 25 rfl 65 Try.underlying25 elSlot (v := .slice ao no co) (ys := [⟨k1 - 1, 1 + k2⟩]) rfl (HO4.out.of (fun k _ h => ((Ext.refl w3).alloc _).block k (by omega))) (by omega) (by simp; omega) rfl rfl (Row.lit1 (cs := [_, _]) ⟨rfl, rng_sm (by show _ ≤ k1 - 1; omega) (by show k1 - 1 ≤ _; omega), rng_sm (by show _ ≤ 1 + k2; omega) (by show 1 + k2 ≤ _; omega), rfl⟩) (by simp) (Own.nil _ _) (by omega) ?_; intro v5 w5 hO5 hg5; have hrow5 := HO4.out.own; have HG5 := Lib.hid ((HM3.out.tr (Mw.ofExt ((Ext.refl _).alloc _))).trF hg5 (fun x hx => .inr (hrow5 x (Option.mem_toList.1 hx)).1)); have HR5 := Lib.hid ((HR3.out.ext ((Ext.refl _).alloc _)).mw hg5 (fun hm => by have := hrow5 _ (Option.mem_toList.1 hm); omega) (fun x hx => by have := hrow5 x (Option.mem_toList.1 hx); omega)); have HO5 := Lib.hid hO5; obtain ⟨p5, k5, q5, rfl⟩ := HO5.sh; clear hO5 hg5))
        go_roundw
        case rel => exact ⟨j + 1, _, _, _, _, by omega, congrArg _ (by omega), rfl, HO5.out, by simp [hxl], HG5.out, HR5.out.le (by omega)⟩
        case measure => simp [intOf]; omega
      · obtain rfl : j = J := by omega
        go_wp2
        go_meet
        exact ⟨_, _, _, _, rfl, HO2.out, by omega, by omega, HMW2.out, HRD2.out.le (by omega)⟩
  case rest =>
    clear HMW HO HRD
    obtain ⟨ao, no, co, xs, rfl, hoo, hx1, hx6, hmw, hrd⟩ := hcut
    have HMW := Lib.hid hmw
    have HO := Lib.hid hoo
    have HRD := Lib.hid hrd
    have hsc := hmw.size
    clear hmw hoo hrd
    go_upto_if 31 with (go_at_call 55; refine (spec_odd W _ b _ _ HRD.out (rng_sm (by omega) (by omega))).mono ?_; rintro e w2 ⟨⟨q, rfl⟩, hm, hr⟩; have hs2 := (Mw.ofMo hm).size; replace HMW := Lib.hid (HMW.out.tr (Mw.ofMo hm)); replace HO := Lib.hid (HO.out.mo hm (by simp; omega)); replace HRD := Lib.hid hr; clear hm hr)
    cases q
    · go_wp2
      go_ret
      exact ⟨_, xs, rfl, HO.out.rsb, by omega, HMW.out, HRD.out.le (by omega)⟩
    · go_upto_if 41 with (go_at_call 62; refine (spec_pick W _ b _ _ HRD.out (rng_sm (by omega) (by omega))).mono ?_; rintro e w3 ⟨k, rfl, hk, hm, hr⟩; have hkb := hk.lt (by omega); have hs3 := (Mw.ofMo hm).size; replace HMW := Lib.hid (HMW.out.tr (Mw.ofMo hm)); replace HO := Lib.hid (HO.out.mo hm (by simp; omega)); replace HRD := Lib.hid hr; clear hk hm hr)
      obtain ⟨x, xs, rfl⟩ : ∃ x ys, xs = x :: ys := by
        cases xs with
        | nil => simp at hx1
        | cons x ys => exact ⟨x, ys, rfl⟩
      have hxl6 : xs.length + 1 ≤ 6 := by simpa using hx6
      clear hx1 hx6
      have hs4 := Nat.le_trans hsc (Nat.le_trans hs2 hs3)
      obtain rfl | rfl | rfl | rfl : k = 0 ∨ k = 1 ∨ k = 2 ∨ k = 3 := by omega
      · clear hkb
        go_wp2_with (go_at_call 62; refine (spec_pick W _ b (m + 2) _ (HRD.out.ext ((Ext.refl _).alloc _)) (rng_sm (by omega) (by omega))).mono ?_; rintro e w4 ⟨k4, rfl, hk4, hm4, hr4⟩; obtain ⟨z, hz1, hz2⟩ := lit_pick (zs := [-2, (K : Int)]) hm4 HRD.out.lt hk4 rfl (by simp); have hkb4 := hk4.lt (by omega); obtain ⟨hk41, hk42⟩ := hkb4; have hzb : -10000 ≤ z ∧ z ≤ 10000 := (by simp only [List.mem_cons, List.not_mem_nil, or_false] at hz2; omega); have HM4 := Lib.hid ((HMW.out.tr (Mw.ofExt ((Ext.refl _).alloc _))).tr (Mw.ofMo hm4)); have HO4 := (HO.out.ext ((Ext.refl _).alloc _)).mo hm4 (by simp; omega); obtain ⟨G, cs, F1, rfl, rfl, hc1, hc2, hG1, hG2, ⟨rfl, rx, ry, rfl⟩, HA, HF, _, HB⟩ := HO4.head; have g0 : w4.cell? ⟨G, 0, none⟩ = _ := HA.out 0 _ rfl; have g1 : w4.cell? ⟨G, 1, none⟩ = _ := HA.out 1 _ rfl; have gf := HF.out 0; have HR4 := Lib.hid hr4; clear hk4 hm4 hr4 HO4)
        go_ret
        exact ⟨_, ⟨z, x.Ticks⟩ :: xs, rfl, HB.out _ _ ⟨z, x.Ticks⟩ [] (fun j hj => cell_set_other (by have : 2 ≤ j := hj; omega)) (fun k h1 h2 h3 => heap_set_ne h2) ⟨rfl, rng_sm (by show _ ≤ z; omega) (by show z ≤ _; omega), ry, rfl⟩ (At.two (cell_set g0) ((cell_set_other (by omega)).trans g1)) (fun k hk => by cases hk), by simp; omega, HM4.out.set (.inr hG1) _, (HR4.out.set (by show b ≠ G; omega) (by show _ ≤ G; omega) _).le (by omega)⟩
      · clear hkb
        go_wp2_with (go_at_call 62; refine (spec_pick W _ b (m + 2) _ (HRD.out.ext ((Ext.refl _).alloc _)) (rng_sm (by omega) (by omega))).mono ?_; rintro e w4 ⟨k4, rfl, hk4, hm4, hr4⟩; obtain ⟨z, hz1, hz2⟩ := lit_pick (zs := [0, 21]) hm4 HRD.out.lt hk4 rfl (by simp); have hkb4 := hk4.lt (by omega); obtain ⟨hk41, hk42⟩ := hkb4; have hzb : -10000 ≤ z ∧ z ≤ 10000 := (by simp only [List.mem_cons, List.not_mem_nil, or_false] at hz2; omega); have HM4 := Lib.hid ((HMW.out.tr (Mw.ofExt ((Ext.refl _).alloc _))).tr (Mw.ofMo hm4)); have HO4 := (HO.out.ext ((Ext.refl _).alloc _)).mo hm4 (by simp; omega); obtain ⟨G, cs, F1, rfl, rfl, hc1, hc2, hG1, hG2, ⟨rfl, rx, ry, rfl⟩, HA, HF, _, HB⟩ := HO4.head; have g0 : w4.cell? ⟨G, 0, none⟩ = _ := HA.out 0 _ rfl; have g1 : w4.cell? ⟨G, 1, none⟩ = _ := HA.out 1 _ rfl; have gf := HF.out 1; have HR4 := Lib.hid hr4; clear hk4 hm4 hr4 HO4)
        go_ret
        exact ⟨_, ⟨x.Who, z⟩ :: xs, rfl, HB.out _ _ ⟨x.Who, z⟩ [] (fun j hj => cell_set_other (by have : 2 ≤ j := hj; omega)) (fun k h1 h2 h3 => heap_set_ne h2) ⟨rfl, rx, rng_sm (by show _ ≤ z; omega) (by show z ≤ _; omega), rfl⟩ (At.two ((cell_set_other (by omega)).trans g0) (cell_set g1)) (fun k hk => by cases hk), by simp; omega, HM4.out.set (.inr hG1) _, (HR4.out.set (by show b ≠ G; omega) (by show _ ≤ G; omega) _).le (by omega)⟩
      · clear hkb
        go_wp2
        go_ret
        exact ⟨_, [], rfl, (Oo.lit0 (α := Slot) 65 w3).rsb.mono hs4, by simp, HMW.out.tr (Mw.ofExt ((Ext.refl _).alloc _)), (HRD.out.ext ((Ext.refl _).alloc _)).le (by omega)⟩
      · clear hkb
        simp only [show ((3 : Int) == 0) = false from rfl]
        go_wp2_with fail
        go_loopw [7] (fun v7 wr => ∃ (ao : Option Addr) (no co : Nat) (ys : List Slot), v7 = .slice ao no co ∧ Oo 65 w.heap.size wr (.slice ao no co) ys ∧ ys.length ≤ 13 ∧ Mw [b] w wr ∧ Rd W wr b m) (fun v7 _ => 13 - lenOf v7)
        case atStart =>
          have h := HO.out
          obtain ⟨_, _, he, _⟩ := h.form
          cases he
          exact ⟨_, _, _, _, rfl, h, by simp; omega, HMW.out, HRD.out.le (by omega)⟩
        case round =>
          obtain ⟨a2, n2, c2, ys, rfl, hoo, hyl, hmw, hrd⟩ := hrel
          obtain rfl : ys.length = n2 := by
            obtain ⟨_, _, he, _⟩ := hoo.form
            cases he; rfl
          clear HMW HO HRD
          have HMW := Lib.hid hmw
          have HO := Lib.hid hoo.ob
          have HRD := Lib.hid hrd
          have HOO := Lib.hid hoo
          have hsr := hmw.size
          have hrow := hoo.ob.own
          clear hmw hoo hrd
          by_cases hlt : ys.length ≤ 12
          · go_wp2_with (at_builtin; refine wpl_appB (α := Slot) rfl _ _ 25 rfl 65 Try.underlying25 elSlot (v := .slice a2 ys.length c2) (ys := [⟨-1, 1⟩]) rfl (HO.out.of (fun k _ h => ((Ext.refl wr).alloc _).block k (by omega))) (by omega) (by simp) rfl rfl (Row.lit1 (cs := [_, _]) ⟨rfl, rng_sm (by show _ ≤ (-1 : Int); omega) (by show (-1 : Int) ≤ _; omega), rng_sm (by show _ ≤ (1 : Int); omega) (by show (1 : Int) ≤ _; omega), rfl⟩) (by simp) (Own.nil _ _) (by omega) ?_; intro v5 w5 hO5 hg5; have HG5 := Lib.hid ((HMW.out.tr (Mw.ofExt ((Ext.refl _).alloc _))).trF hg5 (fun x hx => .inr (hrow x (Option.mem_toList.1 hx)).1)); have HR5 := Lib.hid ((HRD.out.ext ((Ext.refl _).alloc _)).mw hg5 (fun hm => by have := hrow _ (Option.mem_toList.1 hm); omega) (fun x hx => by have := hrow x (Option.mem_toList.1 hx); omega)); have HO5 := Lib.hid hO5; obtain ⟨p5, k5, q5, rfl⟩ := HO5.out.sh; clear hO5 hg5)
            go_roundw
            case rel => exact ⟨_, _, _, _, rfl, HO5.out, by simp; omega, HG5.out, HR5.out⟩
            case measure =>
              obtain ⟨_, _, he, _⟩ := HO5.out.form
              cases he
              simp [lenOf]; omega
          · have hlt2 : (12 : Int) < ys.length := by omega
            go_wp2
            go_ret
            exact ⟨_, ys, rfl, HOO.out.rsb, hyl, HMW.out, HRD.out⟩
end Sk

