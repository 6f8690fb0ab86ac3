/- Contracts of functions of the given program, and lemmas for them: each theorem states the condition under which it holds. -/
import Derived.Test.YtmkibejcdldjeaaChecked
import Derived.Deep.CutBlock
import Derived.Deep.CutRange
import Derived.Test.YtmkibejcdldjeaaDrawW
import Derived.Test.YtmkibejcdldjeaaRefc
namespace Sk
open Go Go.Proofs Go.RowKit
set_option maxHeartbeats 1600000
set_option maxRecDepth 100000
set_option linter.unusedVariables false
set_option linter.unusedSimpArgs false
/-- A row of flags that one may append to. -/
structure Ab where
  v : List Bool
instance instGTAb : GT Ab where
  default := ⟨[]⟩
  sz := 1
  enc w cs x F := ∃ val, cs = [val] ∧ Oa 4 0 w val x.v [] ∧ F = val.ownBlock.toList
  pos := Nat.one_pos
  len := by rintro w cs x F ⟨v, rfl, _⟩; rfl
  one := by
    rintro w cs x F ⟨v, rfl, h, _⟩ u hu
    obtain ⟨a, c, rfl, _⟩ := h.form
    simp at hu; subst hu; rfl
  inh := by rintro w cs x F ⟨v, rfl, h, rfl⟩ b hb; exact h.lt b (Option.mem_toList.1 hb)
  keep := by
    rintro w w' cs x F ⟨v, rfl, h, rfl⟩ hk
    exact ⟨v, rfl, h.keep (fun k hv => hk k (Option.mem_toList.2 hv)) (fun k hk => by cases hk), rfl⟩
  tot x := x.v.length
  ct _ := 1
  mkE x _ := x
  mkE_ct _ _ := rfl
  mkE_idem _ _ := rfl
  zc := [.slice none 0 0]
  zero w := ⟨_, rfl, Oa.nil _ _ _, rfl⟩
theorem elAb : El Try.prog 36 Ab := El.of (z := .slice none 0 0) (n := 1) (b := 24) (by kernel_rfl) rfl rfl (by decide)
theorem Oa.slS {w : World} {e : TypeId} {L : Nat} {v : Value} {xs : List Bool} (h : Oa e L w v xs []) : ∃ F, Sl w v xs F ∧ ∀ k ∈ F, v.ownBlock = some k := by
  rcases h with ⟨rfl, rfl, _⟩ | ⟨g, cap, cur, rfl, hL, hg, hl, hc, hs, hr, hn⟩
  · exact ⟨[], ⟨none, 0, rfl, Nat.le_refl _, Nat.zero_le _, .inl ⟨rfl, rfl⟩⟩, fun k hk => by cases hk⟩
  · by_cases hx : xs = []
    · subst hx
      exact ⟨[], ⟨_, cap, rfl, hl, hc, .inl ⟨rfl, rfl⟩⟩, fun k hk => by cases hk⟩
    · exact ⟨[g], ⟨_, cap, rfl, hl, hc, .inr ⟨hx, g, 0, [], rfl, rfl, hr⟩⟩, fun k hk => by rw [List.mem_singleton] at hk; subst hk; rfl⟩
theorem Row.abs {w : World} {b : Nat} {xs : List Ab} : ∀ {o : Nat} {F : List Nat}, Row w b o xs F → ∃ F', Row w b o (xs.map Ab.v) F' ∧ ∀ k ∈ F', k ∈ F := by
  induction xs with
  | nil => intro o F h; exact ⟨[], rfl, fun k hk => by cases hk⟩
  | cons x xs ih =>
    intro o F h
    obtain ⟨cs, F1, F2, ⟨v, rfl, hv, rfl⟩, ha, rfl, hr⟩ := h
    obtain ⟨G, h1, h2⟩ := ih hr
    obtain ⟨G1, h3, h4⟩ := hv.slS
    refine ⟨G1 ++ G, ⟨[v], G1, G, ⟨v, rfl, h3⟩, ha, rfl, h1⟩, fun k hk => ?_⟩
    rcases List.mem_append.1 hk with hk | hk
    · exact List.mem_append_left _ (Option.mem_toList.2 (h4 k hk))
    · exact List.mem_append_right _ (h2 k hk)
theorem Oo.abs {L : Nat} {w : World} {v : Value} {xs : List Ab} (h : Oo 36 L w v xs) : Rsb L w v (xs.map Ab.v) := by
  obtain ⟨F, h, ho⟩ := h
  have hown := h.own
  rcases h with ⟨rfl, rfl, _⟩ | ⟨g, cap, cur, rfl, hL, hg, hl, hc, hs, hr, hn⟩
  · exact ⟨[], ⟨none, 0, rfl, Nat.le_refl _, Nat.zero_le _, .inl ⟨rfl, rfl⟩⟩, fun k hk => by cases hk⟩
  · by_cases hx : xs = []
    · subst hx
      exact ⟨[], ⟨_, cap, rfl, hl, hc, .inl ⟨rfl, rfl⟩⟩, fun k hk => by cases hk⟩
    · obtain ⟨F', h1, h2⟩ := hr.abs
      refine ⟨g :: F', ⟨_, cap, by simp, by simpa using hl, hc, .inr ⟨by simpa using hx, g, 0, F', rfl, rfl, h1⟩⟩, fun k hk => ?_⟩
      rcases List.mem_cons.1 hk with rfl | hk
      · exact hL
      · exact (ho.2 k (h2 k hk)).1
/-- What is known of a list of rows with a first row that is not empty. -/
theorem Oo.first {L : Nat} {w : World} {a : Option Addr} {n c : Nat} {x : Ab} {xs : List Ab} (h : Oo 36 L w (.slice a n c) (x :: xs)) (hx : 0 < x.v.length) :
    ∃ G g c0 q, a = some ⟨G, 0, none⟩ ∧ n = xs.length + 1 ∧ n ≤ c ∧ c ≤ 9223372036854775807 ∧ w.cell? ⟨G, 0, none⟩ = some (.slice (some ⟨g, 0, none⟩) x.v.length c0) ∧ x.v.length ≤ c0 ∧ c0 ≤ 9223372036854775807 ∧ w.cell? ⟨g, 0, none⟩ = some (.bool q) ∧ w.frozen? ⟨G, 0, none⟩ = false ∧ w.frozen? ⟨g, 0, none⟩ = false ∧
      L ≤ G ∧ L ≤ g ∧ G ≠ g ∧ G < w.heap.size ∧ g < w.heap.size ∧ Hid (Oa 4 L w (.slice (some ⟨g, 0, none⟩) x.v.length c0) x.v []) ∧
      Hid (∀ w' v' ys F', (∀ j, 1 ≤ j → w'.cell? ⟨G, j, none⟩ = w.cell? ⟨G, j, none⟩) → w'.cell? ⟨G, 0, none⟩ = some v' → (∀ k, k < w.heap.size → k ≠ G → k ≠ g → w'.heap[k]? = w.heap[k]?) → Sl w' v' ys F' → (∀ k ∈ F', L ≤ k) →
        Rsb L w' (.slice a n c) (ys :: xs.map Ab.v)) ∧ Hid (Rsb L w (.slice (some ⟨G, 1, none⟩) xs.length (c - 1)) (xs.map Ab.v)) := by
  obtain ⟨F, h, ho⟩ := h
  have hown := h.own
  rcases h with ⟨_, h, _⟩ | ⟨G, cap, cur, he, hL, hg, hl, hc, hs, hr, hn⟩
  · cases h
  · cases he
    obtain ⟨cs, F1, F2, ⟨v0, rfl, hv, rfl⟩, ha, rfl, hr2⟩ := hr
    rcases id hv with ⟨_, h, _⟩ | ⟨g, c0, cur0, rfl, _, hg0, hl0, hc0, hs0, hr0, hgn⟩
    · rw [h] at hx; cases hx
    · have hG0 := ha 0 _ rfl
      rw [Nat.zero_add] at hG0
      obtain ⟨q, ys, hq⟩ : ∃ q ys, x.v = q :: ys := by
        cases hv : x.v with
        | nil => rw [hv] at hx; cases hx
        | cons q ys => exact ⟨q, ys, rfl⟩
      have hq0 : w.cell? ⟨g, 0, none⟩ = some (.bool q) := by
        rw [hq] at hr0
        obtain ⟨cs, F3, F4, ⟨rfl, _⟩, h2, _⟩ := hr0
        exact h2 0 _ rfl
      have hgm : g ∈ Option.toList (Value.ownBlock (.slice (some ⟨g, 0, none⟩) x.v.length c0)) := Option.mem_toList.2 rfl
      have hFg := ho.2 g (List.mem_append_left _ hgm)
      have hnd := List.nodup_append.1 ho.1
      have hGg : G ≠ g := fun e => hn (by rw [e]; exact List.mem_append_left _ hgm)
      have hva : Oa 4 L w (.slice (some ⟨g, 0, none⟩) x.v.length c0) x.v [] := .inr ⟨g, c0, cur0, rfl, hFg.1, hg0, hl0, hc0, hs0, hr0, hgn⟩
      unfold maxLen at hc hc0
      obtain ⟨F2', hr2a, hr2s⟩ := hr2.abs
      refine ⟨G, g, c0, q, rfl, by simp, hl, hc, hG0, hl0, hc0, hq0, (Bk.ofA hg).fz 0, (Bk.ofA hg0).fz 0, hL, hFg.1, hGg, (Bk.ofA hg).lt, (Bk.ofA hg0).lt, hva, ?_, ?_⟩
      · intro w' v' zs F' h1 h2 h3 h4 h5
        have hrr : Row w' G 1 xs F2 := by
          refine hr2.move (fun k hk => h3 k (hr2.inh k hk) ?_ ?_) fun j u hj hu => ?_
          · intro e; exact hn (e ▸ List.mem_append_right _ hk)
          · intro e; exact hnd.2.2 g hgm k hk e.symm
          · have e0 : (0 : Nat) + GT.sz Ab + j = 1 + j := by show 0 + 1 + j = _; omega
            rw [e0] at hu
            rw [h1 (1 + j) (by omega)]; exact hu
        obtain ⟨F3, h6, h7⟩ := hrr.abs
        refine ⟨G :: (F' ++ F3), ⟨_, c, by simp, by simpa using hl, by unfold maxLen; omega, .inr ⟨by simp, G, 0, _, rfl, rfl, [v'], F', F3, ⟨v', rfl, h4⟩, fun j u hj => ?_, rfl, h6⟩⟩, fun k hk => ?_⟩
        · cases j with
          | zero => cases hj; exact h2
          | succ j => cases hj
        · rcases List.mem_cons.1 hk with rfl | hk
          · exact hL
          · rcases List.mem_append.1 hk with hk | hk
            · exact h5 k hk
            · exact (ho.2 k (List.mem_append_right _ (h7 k hk))).1
      · have hl' : xs.length + 1 ≤ c := by simpa using hl
        by_cases hxs : xs = []
        · subst hxs
          exact ⟨[], ⟨_, c - 1, rfl, Nat.zero_le _, by unfold maxLen; omega, .inl ⟨rfl, rfl⟩⟩, fun k hk => by cases hk⟩
        · refine ⟨G :: F2', ⟨_, c - 1, by simp, by simp; omega, by unfold maxLen; omega, .inr ⟨by simpa using hxs, G, 1, F2', rfl, rfl, hr2a⟩⟩, fun k hk => ?_⟩
          rcases List.mem_cons.1 hk with rfl | hk
          · exact hL
          · exact (ho.2 k (List.mem_append_right _ (hr2s k hk))).1
theorem Oo.ownB {e : TypeId} {L : Nat} {w : World} {v : Value} {xs : List Bool} (h : Oo e L w v xs) : Own L w v.ownBlock.toList := by
  obtain ⟨F, h, _⟩ := h
  rcases h with ⟨rfl, _⟩ | ⟨g, cap, cur, rfl, hL, hg, _⟩
  · exact Own.nil _ _
  · exact ⟨by simp [Value.ownBlock], fun k hk => by have := Option.mem_toList.1 hk; cases this; exact ⟨hL, _, _, Bk.ofA hg⟩⟩
theorem Rsb.nil {α : Type} [GT α] {L : Nat} {w : World} {a : Option Addr} {n c : Nat} {xs : List α} (h : n = 0) (hx : xs = []) (hc : c ≤ 9223372036854775807) : Rsb L w (.slice a n c) xs := by
  subst h; subst hx
  exact ⟨[], ⟨_, c, rfl, Nat.zero_le _, by unfold maxLen; omega, .inl ⟨rfl, rfl⟩⟩, fun k hk => by cases hk⟩
/-- What is known of a policy that was drawn. -/
def M.drawnP (ps : List (List Bool)) : Prop := ps.length ≤ 6 ∧ ∀ r ∈ ps, r.length ≤ 7
theorem M.drawnP.nil : M.drawnP [] := ⟨by simp, fun r hr => by cases hr⟩
theorem M.drawnP.map {xs : List Ab} (h : xs.length ≤ 6) (k : ∀ x ∈ xs, x.v.length ≤ 6) : M.drawnP (xs.map Ab.v) :=
  ⟨by simpa using h, fun r hr => by obtain ⟨x, hx, rfl⟩ := List.mem_map.1 hr; have := k x hx; omega⟩
theorem M.drawnP.cons {r : List Bool} {xs : List Ab} (hr : r.length ≤ 7) (h : xs.length + 1 ≤ 6) (k : ∀ x ∈ xs, x.v.length ≤ 6) : M.drawnP (r :: xs.map Ab.v) :=
  ⟨by simpa using h, fun q hq => by
    rcases List.mem_cons.1 hq with rfl | hq
    · exact hr
    · obtain ⟨x, hx, rfl⟩ := List.mem_map.1 hq; have := k x hx; omega⟩
theorem Oa.turn0 {w : World} {e : TypeId} {L g n c : Nat} {xs : List Bool} (h : Oa e L w (.slice (some ⟨g, 0, none⟩) n c) xs []) (hx : 0 < xs.length) (y : Bool) :
    Sl (w.setCell ⟨g, 0, none⟩ (.bool y)) (.slice (some ⟨g, 0, none⟩) n c) (xs.set 0 y) [g] := by
  rcases h with ⟨h, _⟩ | ⟨g, cap, cur, he, hL, hg, hl, hc, hs, hr, hn⟩
  · cases h
  · cases he
    cases xs with
    | nil => cases hx
    | cons x xs =>
      obtain ⟨cs, F1, F2, ⟨rfl, rfl⟩, ha, hF, hr2⟩ := hr
      obtain ⟨_, rfl⟩ := List.append_eq_nil_iff.1 hF.symm
      refine ⟨_, c, by simp, by simpa using hl, hc, .inr ⟨by simp, g, 0, [], rfl, rfl, [.bool y], [], [], ⟨rfl, rfl⟩, fun j u hj => ?_, rfl, hr2.move (fun k hk => by cases hk) fun j u _ hu => ?_⟩⟩
      · cases j with
        | zero => cases hj; exact World.cell?_setCell_same _ _ _ (ha 0 _ rfl)
        | succ j => cases hj
      · rw [cell_set_other (by show 0 ≠ 0 + 1 + j; omega)]; exact hu
theorem wpl_appC {α : Type} [GT α] {P : Program} {w : World} {ops : Array Oper} {rest : List Oper} {o : Oper} {a : Act} {Q : Exit → Act → World → Prop} (hgd : o.guard = none) (s x : Operand) (t : TypeId)
    (ho : o.op = .call { callee := .builtin .append, args := #[s, x], argTypes := #[t, t] }) (e : TypeId) (ht : P.underlying t = some (.slice e)) (hel : El P e α)
    {L M : Nat} {v : Value} {xs ys : List α} {Fy : List Nat} (hs : a.eval s = v) (hO : Oob e L M w v xs) (hL : L ≤ M) (hM : M ≤ w.heap.size) {ab ao m c : Nat} (hx : a.eval x = .slice (some ⟨ab, ao, none⟩) m c) (hm : ys.length = m) (hy : Row w ab ao ys Fy)
    (hm0 : 0 < m) (hown : Own M w Fy) (hlen : xs.length + m ≤ 4294967296)
    (h : ∀ v' w', Oo e L w' v' (xs ++ ys) → Mw v.ownBlock.toList w w' → (v'.ownBlock = v.ownBlock ∨ v'.ownBlock = some w.heap.size) → wpList P ops Q rest (a.put o.dst v') w') : wpList P ops Q (o :: rest) a w :=
  wpList_plain hgd fun _ hK => wp_appB s x t ho e ht hel hs hO hL hM hx hm hy hm0 hown hlen fun v' w' h1 h2 h3 => hK _ _ (h v' w' h1 h2 h3)
theorem spec_l20Policy (W w : World) (b m K : Nat) (n : Int) (h : Rd W w b (m + 60)) (hK : K ≤ 6) (hn1 : -1000000 ≤ n) (hn2 : n ≤ 1000000) :
    Calls Try.prog 50 #[.pointer (some ⟨b, 0, none⟩), .int .i64 K, .int .i64 n] w fun e w' => ∃ v ps, e = .returned v ∧ Rsb (α := List Bool) w.heap.size w' v ps ∧ M.drawnP ps ∧ Mw [b] w w' ∧ Rd W w' b m := by
  have H := Lib.hid h
  have hbl := h.lt
  have hbW := h.1
  have hWw := h.2.1.sz
  clear h
  go_enter Try.func50, Try.ntmps50
  go_upto_block 0 with (fail)
  refine abs_world (fun W0 => Ext w W0 ∧ Oo (α := Ab) 36 w.heap.size W0 (.slice (some ⟨w.heap.size, 0, none⟩) 0 0) []) ⟨(Ext.refl _).alloc _, Oo.lit0 _ _⟩ ?_
  rintro W0 ⟨e0, ho0⟩
  have HRD := Lib.hid (H.out.ext e0)
  have HMW : Hid (Mw [b] w W0) := Lib.hid (Mw.ofExt e0)
  have HO := Lib.hid ho0
  clear e0 H ho0
  go_cut [7] from 8 (fun v7 wc => ∃ (ao : Option Addr) (no co : Nat) (xs : List Ab), v7 = .slice ao no co ∧ Oo 36 w.heap.size wc (.slice ao no co) xs ∧ xs.length = K ∧ (∀ x ∈ xs, x.v.length = K) ∧ Mw [b] w wc ∧ Rd W wc b (m + 5))
  case first =>
    go_wp2_with fail
    go_loopw [7, 8] (fun v7 i wr => ∃ (j : Nat) (ao : Option Addr) (no co : Nat) (xs : List Ab), j ≤ K ∧ i = .int .i64 j ∧ v7 = .slice ao no co ∧ Oo 36 w.heap.size wr (.slice ao no co) xs ∧ xs.length = j ∧ (∀ x ∈ xs, x.v.length = K) ∧ Mw [b] w wr ∧ Rd W wr b (m + 50 - 7 * j)) (fun _ i _ => K - (intOf i).toNat)
    case atStart => exact ⟨0, _, _, _, [], Nat.zero_le _, rfl, rfl, HO.out, rfl, (fun x hx => by cases hx), HMW.out, HRD.out.le (by omega)⟩
    case round =>
      obtain ⟨j, ao, no, co, xs, hj, rfl, rfl, hoo, hxl, hxK, hmw, hrd⟩ := hrel
      by_cases hjt : j < K
      · clear HMW HO HRD
        have HMW := Lib.hid hmw
        have HO := Lib.hid hoo.ob
        have HXK := Lib.hid hxK
        have HXL := Lib.hid hxl
        have hwr := hmw.size
        have HRD : Hid (Rd W wr b (m + 50 - 7 * j)) := Lib.hid hrd
        have hbr := hrd.lt
        clear hmw hoo hrd hxK hxl
        obtain ⟨wo, rfl⟩ : ∃ wo, wo = wr := ⟨_, rfl⟩
        go_upto_block 2 with (fail)
        refine abs_world (fun W1 => Ext wo W1 ∧ Oo (α := Bool) 4 wo.heap.size W1 (.slice (some ⟨wo.heap.size, 0, none⟩) 0 0) []) ⟨(Ext.refl _).alloc _, Oo.lit0 _ _⟩ ?_
        rintro W1 ⟨e1, ho1⟩
        have HR1 := Lib.hid (HRD.out.ext e1)
        have HM1 : Hid (Mw [b] wo W1) := Lib.hid (Mw.ofExt e1)
        have HO1 := Lib.hid ho1
        clear e1 ho1
        go_wp2_with fail
        go_loopw [9, 10] (fun v9 i wi => ∃ (q : Nat) (a9 : Option Addr) (n9 c9 : Nat) (ys : List Bool), q ≤ K ∧ i = .int .i64 q ∧ v9 = .slice a9 n9 c9 ∧ Oo 4 wo.heap.size wi (.slice a9 n9 c9) ys ∧ ys.length = q ∧ Mw [b] wo wi ∧ Rd W wi b (m + 50 - 7 * j - q)) (fun _ i _ => K - (intOf i).toNat)
        case atStart => exact ⟨0, _, _, _, [], Nat.zero_le _, rfl, rfl, HO1.out, rfl, HM1.out, HR1.out⟩
        case round =>
          obtain ⟨q, a9, n9, c9, ys, hq, rfl, rfl, hoo, hyl, hmw, hrd⟩ := hrel
          clear HM1 HO1 HR1
          have HOB := Lib.hid hoo
          have HO3 := Lib.hid hoo.ob
          have HM3 := Lib.hid hmw
          have HYL := Lib.hid hyl
          have hwr := hmw.size
          have hrow := hoo.ob.own
          by_cases hqt : q < K
          · have hrd' : Hid (Rd W wr b ((m + 49 - 7 * j - q) + 1)) := Lib.hid (hrd.le (by omega))
            clear hoo hmw hyl hrd
            by_cases hqj : j = q
            · obtain rfl : q = j := hqj.symm
              go_wp2_with (at_builtin; refine wpl_appB (α := Bool) rfl _ _ 36 rfl 4 Try.underlying36 elBool (v := .slice a9 n9 c9) (ys := [_]) rfl (HO3.out.of (fun k _ h => ((Ext.refl wr).alloc _).block k (by omega))) (by omega) (by simp) rfl rfl (Row.lit1 (cs := [_]) ⟨rfl, rfl⟩) (by simp) (Own.nil _ _) (by have := HYL.out; omega) ?_; intro v5 w5 hO5 hg5; have HG5 := Lib.hid ((HM3.out.tr (Mw.ofExt ((Ext.refl _).alloc _))).trF hg5 (fun x hx => .inr (hrow x (Option.mem_toList.1 hx)).1)); have HR5 := Lib.hid ((hrd'.out.ext ((Ext.refl _).alloc _)).mw hg5 (fun hm => by have := (hrow _ (Option.mem_toList.1 hm)).1; omega) (fun x hx => by have := (hrow x (Option.mem_toList.1 hx)).1; omega)); have HO5 := Lib.hid hO5; obtain ⟨p5, k5, q5, rfl⟩ := HO5.out.sh; clear hO5 hg5)
              go_roundw
              case rel => exact ⟨q + 1, _, _, _, _, by omega, by go_num, rfl, HO5.out, by simp [HYL.out], HG5.out, HR5.out.le (by omega)⟩
              case measure => simp [intOf]; omega
            · have hbe : ((j : Int) == (q : Int)) = false := by simp; omega
              clear hqj
              go_wp2_with (first
                | (go_at_call 43; refine (spec_pick W _ b _ _ hrd'.out (rng_sm (by omega) (by omega))).mono ?_; rintro e w2 ⟨k, rfl, hk, hm, hr⟩; have HM4 := Lib.hid (HM3.out.tr (Mw.ofMo hm)); have HO4 := Lib.hid (HO3.out.of (w' := w2) (fun k h1 h2 => (Mw.ofMo hm).2.2 k h2 (by simp; omega))); have hs2 := (Mw.ofMo hm).size; have HR4 := Lib.hid hr; clear hk hm hr)
                | (at_builtin; refine wpl_appB (α := Bool) rfl _ _ 36 rfl 4 Try.underlying36 elBool (v := .slice a9 n9 c9) (ys := [_]) rfl (HO4.out.of (fun k _ h => ((Ext.refl w2).alloc _).block k (by omega))) (by omega) (by simp; omega) rfl rfl (Row.lit1 (cs := [_]) ⟨rfl, rfl⟩) (by simp) (Own.nil _ _) (by have := HYL.out; omega) ?_; intro v5 w5 hO5 hg5; have HG5 := Lib.hid ((HM4.out.tr (Mw.ofExt ((Ext.refl _).alloc _))).trF hg5 (fun x hx => .inr (hrow x (Option.mem_toList.1 hx)).1)); have HR5 := Lib.hid ((HR4.out.ext ((Ext.refl _).alloc _)).mw hg5 (fun hm => by have := (hrow _ (Option.mem_toList.1 hm)).1; omega) (fun x hx => by have := (hrow x (Option.mem_toList.1 hx)).1; omega)); have HO5 := Lib.hid hO5; obtain ⟨p5, k5, q5, rfl⟩ := HO5.out.sh; clear hO5 hg5))
              all_goals go_roundw
              case rel => exact ⟨q + 1, _, _, _, _, by omega, by go_num, rfl, HO5.out, by simp [HYL.out], HG5.out, HR5.out.le (by omega)⟩
              case measure => simp [intOf]; omega
          · obtain rfl : q = K := by omega
            have hrd' : Hid (Rd W wr b (m + 50 - 7 * j - q)) := Lib.hid hrd
            have HON := Lib.hid hoo.ownB
            have HOA := Lib.hid (hoo.oa.mono (Nat.zero_le _))
            clear hoo hmw hyl hrd
            have HO6 := Lib.hid (HO.out.of (w' := wr) (fun k h1 h2 => HM3.out.2.2 k h2 (by simp; omega)))
            have hrow6 := HO6.out.own
            go_wp2_with (at_builtin; refine wpl_appB (α := Ab) rfl _ _ 28 rfl 36 Try.underlying28 elAb (v := .slice ao no co) (ys := [⟨ys⟩]) rfl (HO6.out.of (fun k _ h => ((Ext.refl wr).alloc _).block k (by omega))) (by omega) (by simp; omega) rfl rfl (Row.lit1 (cs := [_]) ⟨_, rfl, HOA.out, rfl⟩) (by simp) (HON.out.ext ((Ext.refl wr).alloc _)) (by have := HXL.out; omega) ?_; intro v5 w5 hO5 hg5; have HG5 := Lib.hid ((HMW.out.trF (HM3.out.tr (Mw.ofExt ((Ext.refl _).alloc _))) (by simp)).trF hg5 (fun x hx => .inr (hrow6 x (Option.mem_toList.1 hx)).1)); have HR5 := Lib.hid ((hrd'.out.ext ((Ext.refl _).alloc _)).mw hg5 (fun hm => by have := (hrow6 _ (Option.mem_toList.1 hm)).1; omega) (fun x hx => by have := (hrow6 x (Option.mem_toList.1 hx)).1; omega)); have HO5 := Lib.hid hO5; obtain ⟨p5, k5, q5, rfl⟩ := HO5.out.sh; clear hO5 hg5)
            go_roundw
            case rel => exact ⟨j + 1, _, _, _, _, by omega, by go_num, rfl, HO5.out, by simp [HXL.out], (fun x hx => by rcases List.mem_append.1 hx with hx | hx; exact HXK.out x hx; rw [List.mem_singleton] at hx; subst hx; exact HYL.out), HG5.out, HR5.out.le (by omega)⟩
            case measure => simp [intOf]; omega
      · obtain rfl : j = K := by omega
        go_wp2
        go_meet
        exact ⟨_, _, _, _, rfl, hoo, hxl, hxK, hmw, hrd.le (by omega)⟩
  case rest =>
    clear HMW HO HRD
    obtain ⟨ao, no, co, xs, rfl, hoo, hxl, hxK, hmw, hrd⟩ := hcut
    by_cases hK0 : K = 0
    · obtain rfl : xs = [] := List.eq_nil_of_length_eq_zero (by omega)
      obtain ⟨_, _, he, _⟩ := hoo.form
      cases he
      have HMW := Lib.hid hmw
      have HO := Lib.hid hoo.abs
      have HRD := Lib.hid hrd
      clear hmw hoo hrd hxl hxK hK0
      go_wp2
      go_ret
      exact ⟨_, _, rfl, HO.out, M.drawnP.nil, HMW.out, HRD.out.le (by omega)⟩
    · obtain ⟨x, xs, rfl⟩ : ∃ x ys, xs = x :: ys := by
        cases xs with
        | nil => simp at hxl; omega
        | cons x ys => exact ⟨x, ys, rfl⟩
      have hxp : 0 < x.v.length := by rw [hxK x (List.mem_cons_self ..)]; omega
      have HK6 : Hid (∀ y ∈ x :: xs, y.v.length ≤ 6) := Lib.hid (fun y hy => by rw [hxK y hy]; omega)
      have HK7 : Hid (∀ y ∈ xs, y.v.length ≤ 6) := Lib.hid (fun y hy => HK6.out y (List.mem_cons_of_mem _ hy))
      have hxp5 : x.v.length ≤ 6 := by rw [hxK x (List.mem_cons_self ..)]; omega
      have hl5 : xs.length + 1 ≤ 6 := by simp at hxl; omega
      obtain rfl : xs.length + 1 = no := by
        obtain ⟨_, _, he, _⟩ := hoo.form
        cases he; simp
      have HMW := Lib.hid hmw
      have HO := Lib.hid hoo.ob
      have HRD := Lib.hid hrd
      have hwc := hmw.size
      clear hmw hoo hrd hxl hxK hK0
      go_upto_if 45 with (go_at_call 51; refine (spec_odd W _ b _ _ HRD.out (rng_sm (by omega) (by omega))).mono ?_; rintro e w2 ⟨⟨q, rfl⟩, hm, hr⟩; have hs2 := (Mw.ofMo hm).size; replace HMW := Lib.hid (HMW.out.tr (Mw.ofMo hm)); replace HO := Lib.hid (HO.out.of (w' := w2) (fun k h1 h2 => (Mw.ofMo hm).2.2 k h2 (by simp; omega))); replace HRD := Lib.hid hr; clear hm hr)
      cases q
      · go_wp2
        go_ret
        exact ⟨_, _, rfl, HO.out.oo.abs, M.drawnP.map (by simpa using hl5) HK6.out, HMW.out, HRD.out.le (by omega)⟩
      · go_upto_if 50 with (go_at_call 43; refine (spec_pick W _ b _ _ HRD.out (rng_sm (by omega) (by omega))).mono ?_; rintro e w3 ⟨k, rfl, hk, hm, hr⟩; have hkb := hk.lt (by omega); have hs3 := (Mw.ofMo hm).size; replace HMW := Lib.hid (HMW.out.tr (Mw.ofMo hm)); replace HO := Lib.hid (HO.out.of (w' := w3) (fun k h1 h2 => (Mw.ofMo hm).2.2 k (by omega) (by simp; omega))); replace HRD := Lib.hid hr; clear hk hm hr)
        obtain ⟨G, g, c0, q, rfl, _, hc1, hc2, hG0, hc3, hc4, hg0, hGf, hgf, hLG, hLg, hGg, hGl, hgl, HOA, HB, HT⟩ := HO.out.oo.first hxp
        obtain rfl | rfl | rfl : k = 0 ∨ k = 1 ∨ k = 2 := by omega
        · clear hkb
          go_wp2
          go_ret
          exact ⟨_, rfl, _, HB.out _ _ (x.v.set 0 false) [g] (fun j _ => World.cell?_of_block (heap_set_ne hGg)) ((World.cell?_of_block (heap_set_ne hGg)).trans hG0) (fun k _ _ h => heap_set_ne h) (HOA.out.turn0 hxp false) (fun k hk => by rw [List.mem_singleton] at hk; omega), M.drawnP.cons (by simp; omega) hl5 HK7.out, HMW.out.set (.inr hLg) _, (HRD.out.set (by show b ≠ g; omega) (by show _ ≤ g; omega) _).le (by omega)⟩
        · clear hkb
          go_wp2_with (at_builtin; refine wpl_appC (α := Bool) rfl _ _ 36 rfl 4 Try.underlying36 elBool (v := .slice (some ⟨g, 0, none⟩) x.v.length c0) (ys := [true]) rfl (show Oob 4 w.heap.size w3.heap.size _ _ x.v from ⟨[], HOA.out.ext ((Ext.refl _).alloc _), Own.nil _ _, (fun k hk => by cases hk), (fun k hk => by cases hk; exact hgl)⟩) (by omega) (by simp) rfl rfl (Row.lit1 (cs := [_]) ⟨rfl, rfl⟩) (by simp) (Own.nil _ _) (by omega) ?_; intro v5 w5 hO5 hg5 hat5; obtain ⟨p5, k5, q5, rfl⟩ := hO5.sh; have hw5 := (Mw.ofExt (F := [g]) ((Ext.refl w3).alloc _)).tr hg5; have hG5 : w5.cell? ⟨G, 0, none⟩ = _ := (hw5.cell (by simpa using hGg) hGl).trans hG0; have HW5 := Lib.hid hw5; have hGf5 : w5.frozen? ⟨G, 0, none⟩ = false := (World.frozen?_of_block (w := w3) (hw5.2.2 G hGl (by simpa using hGg))).trans hGf; have HO5 := Lib.hid hO5; have HAT := Lib.hid hat5; clear hO5 hg5 hat5 hw5)
          go_ret
          obtain ⟨F5, hF5, hF6⟩ := HO5.out.oa.slS
          have hF7 : ∀ k ∈ F5, k ≠ G := by
            intro k hk e
            have h6 := hF6 k hk
            rcases HAT.out with h | h
            · rw [h] at h6; cases h6; exact hGg e.symm
            · rw [h] at h6; simp at h6; omega
          exact ⟨_, rfl, _, HB.out _ _ (x.v ++ [true]) F5 (fun j hj => (cell_set_other (by omega)).trans (HW5.out.cell (by simpa using hGg) hGl)) (cell_set hG5) (fun k h1 h2 h3 => (heap_set_ne h2).trans (HW5.out.2.2 k h1 (by simpa using h3))) (hF5.keep fun k hk => heap_set_ne (hF7 k hk)) (fun k hk => HO5.out.own k (hF6 k hk)), M.drawnP.cons (by simp; omega) hl5 HK7.out, (HMW.out.trF HW5.out (by simp; omega)).set (.inr hLG) _, ((HRD.out.mw HW5.out (by simp; omega) (by simp; omega)).set (by show b ≠ G; omega) (by show _ ≤ G; omega) _).le (by omega)⟩
        · clear hkb
          by_cases hco : co = 1
          · go_wp2
            go_ret
            exact ⟨_, rfl, _, Rsb.nil (xs := []) (by omega) rfl (by omega), M.drawnP.nil, HMW.out, HRD.out.le (by omega)⟩
          · go_wp2
            go_ret
            exact ⟨_, rfl, _, HT.out, M.drawnP.map (by omega) HK7.out, HMW.out, HRD.out.le (by omega)⟩
end Sk

