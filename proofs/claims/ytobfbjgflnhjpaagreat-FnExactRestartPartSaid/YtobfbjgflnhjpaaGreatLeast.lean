/- Contracts of functions of the given program, and lemmas for them: each theorem states the condition under which it holds. -/
import Derived.Test.YtobfbjgflnhjpaaGreatChecked
import Derived.Test.YtobfbjgflnhjpaaGreatFlow
import Derived.Test.YtobfbjgflnhjpaaGreatFld
namespace Sk
open Go Go.Proofs Go.RowKit
set_option maxHeartbeats 400000
set_option maxRecDepth 100000
set_option linter.unusedVariables false
set_option linter.unusedSimpArgs false
/-- The influence of all on all, column by column: b columns, and a elements of one more. -/
def M.cols (cs : List Channel) (n b a : Nat) : List (List Bool) :=
  (List.range n).map fun i => (List.range n).map fun c => (decide (c < b) || (decide (c = b) && decide (i < a))) && (M.flows cs n c).getD i false
def M.least (cs : List Channel) (n : Nat) : List (List Bool) := (List.range n).map fun i => (List.range n).map fun c => (M.flows cs n c).getD i false
theorem M.cols_len (cs : List Channel) (n b a : Nat) : (M.cols cs n b a).length = n := by simp [M.cols]
theorem M.cols_zero (cs : List Channel) (n : Nat) : M.cols cs n 0 0 = List.replicate n (List.replicate n false) := by
  unfold M.cols
  refine List.ext_getElem (by simp) fun i h1 h2 => ?_
  simp only [List.getElem_map, List.getElem_replicate]
  refine List.ext_getElem (by simp) fun j h3 h4 => ?_
  simp
theorem M.cols_all (cs : List Channel) (n : Nat) : M.cols cs n n 0 = M.least cs n := by
  unfold M.cols M.least
  refine List.ext_getElem (by simp) fun i h1 h2 => ?_
  simp only [List.getElem_map]
  refine List.ext_getElem (by simp) fun j h3 h4 => ?_
  have : j < n := by simpa using h3
  simp [this]
theorem M.cols_next (cs : List Channel) (n b : Nat) : M.cols cs n b n = M.cols cs n (b + 1) 0 := by
  unfold M.cols
  refine List.ext_getElem (by simp) fun i h1 h2 => ?_
  have hi : i < n := by simpa using h1
  simp only [List.getElem_map]
  refine List.ext_getElem (by simp) fun j h3 h4 => ?_
  simp only [List.getElem_map, List.getElem_range, hi, decide_true, Bool.and_true, Nat.not_lt_zero, decide_false, Bool.and_false, Bool.or_false]
  congr 1
  rw [← Bool.decide_or]
  exact decide_eq_decide.2 (by omega)
/-- Row i while column b is filled. -/
def M.colr (cs : List Channel) (n b i : Nat) (d : Bool) : List Bool := (List.range n).map fun c => (decide (c < b) || (decide (c = b) && d)) && (M.flows cs n c).getD i false
theorem M.colr_len (cs : List Channel) (n b i : Nat) (d : Bool) : (M.colr cs n b i d).length = n := by simp [M.colr]
theorem M.cols_at (cs : List Channel) {n b i : Nat} (hi : i < n) : (M.cols cs n b i)[i]? = some (M.colr cs n b i false) := by
  unfold M.cols M.colr; simp [hi]
theorem M.cols_set (cs : List Channel) {n b i : Nat} (hb : b < n) (hi : i < n) : (M.cols cs n b i).set i ((M.colr cs n b i false).set b ((M.flows cs n b).getD i false)) = M.cols cs n b (i + 1) := by
  refine List.ext_getElem (by simp [M.cols]) fun k h1 h2 => ?_
  have hk : k < n := by simpa [M.cols] using h1
  rw [List.getElem_set]
  split
  · subst k
    simp only [M.cols, List.getElem_map, List.getElem_range, M.colr]
    refine List.ext_getElem (by simp) fun j h3 h4 => ?_
    rw [List.getElem_set]
    simp only [List.getElem_map, List.getElem_range, Bool.and_false, Bool.or_false, Nat.lt_succ_self, decide_true, Bool.and_true]
    split
    · subst j; simp
    · have : ¬ j = b := by omega
      simp [this]
  · rename_i hne
    simp only [M.cols, List.getElem_map, List.getElem_range]
    refine List.ext_getElem (by simp) fun j h3 h4 => ?_
    simp only [List.getElem_map, List.getElem_range]
    congr 3
    exact decide_eq_decide.2 (by omega)
theorem Os.hi {α : Type} [GT α] {n : Nat} {w w' : World} {v : Value} {xs : List α} (h : Os n w v xs) (hi : Hi n w w') : Os n w' v xs := by
  obtain ⟨F, h1, h2⟩ := h
  refine ⟨F, h1.keep fun k hk => hi.2 k (h2.2 k hk).1, h2.1, fun k hk => ⟨(h2.2 k hk).1, ?_⟩⟩
  obtain ⟨hk1, cs, T, h3⟩ := h2.2 k hk
  exact ⟨cs, T, by unfold Bk at *; rw [hi.2 k hk1]; exact h3⟩
end Sk

namespace Sk
open Go Go.RowKit
set_option linter.unusedVariables false
set_option linter.unusedSimpArgs false
/-- A type whose values reach no memory. -/
class Fl (α : Type) [GT α] : Prop where
  nof : ∀ {w : World} {cs : List Value} {x : α} {F : List Nat}, GT.enc w cs x F → F = []
instance : Fl Int := ⟨by rintro w cs x F ⟨_, _, rfl⟩; rfl⟩
instance : Fl Bool := ⟨by rintro w cs x F ⟨_, rfl⟩; rfl⟩
instance : Fl Window := ⟨by rintro w cs x F ⟨_, _, _, rfl⟩; rfl⟩
instance : Fl Channel := ⟨by rintro w cs x F ⟨_, _, _, _, _, rfl⟩; rfl⟩
instance : Fl Slot := ⟨by rintro w cs x F ⟨_, _, _, rfl⟩; rfl⟩
instance : Fl Order := ⟨by rintro w cs x F ⟨_, _, _, _, rfl⟩; rfl⟩
instance : Fl Health := ⟨by rintro w cs x F ⟨_, _, rfl⟩; rfl⟩
instance : Fl Wire := ⟨by rintro w cs x F ⟨_, _, _, _, _, _, _, rfl⟩; rfl⟩
theorem Row.fl {α : Type} [GT α] [Fl α] {w : World} {b : Nat} {xs : List α} : ∀ {o : Nat} {F : List Nat}, Row w b o xs F → F = [] := by
  induction xs with
  | nil => intro o F h; exact h
  | cons x xs ih =>
    intro o F h
    obtain ⟨cs, F1, F2, he, ha, rfl, hr⟩ := h
    rw [Fl.nof he, ih hr]; rfl
theorem Oa.fl {α : Type} [GT α] [Fl α] {e : TypeId} {L : Nat} {w : World} {v : Value} {xs : List α} {F : List Nat} (h : Oa e L w v xs F) : F = [] := by
  rcases h with ⟨_, _, rfl⟩ | ⟨g, cap, cur, rfl, hL, hg, hl, hc, hs, hr, hn⟩
  · rfl
  · exact hr.fl
theorem Oa.osF {α : Type} [GT α] [Fl α] {e : TypeId} {L : Nat} {w : World} {v : Value} {xs : List α} {F : List Nat} (h : Oa e L w v xs F) : Os L w v xs := by
  have := h.fl; subst this; exact h.os (Own.nil _ _)
theorem run_append_none {P : Program} {w : World} (t ty e : TypeId) (i : TypeInfo) (ht : P.underlying t = some (.slice e)) (hi : P.info? e = some i) (ad a : Option Addr) (n cap c : Nat) (hn : n ≤ cap) :
    (Builtin.append_ #[t, t] ty #[.slice ad n cap, .slice a 0 c]).run P w = .ok (.slice ad n cap) w := by
  cases ad <;> cases a <;> simp [Builtin.append_, run_underlying ht, Go.sizeOf, typeInfo, hi, Builtin.lenOf, Builtin.firstCells, loadCells, loadCellsFrom, storeCells, hn]
theorem grown_refl (w : World) (row : Option Nat) : w.grownBy w row := ⟨rfl, rfl, rfl, Nat.le_refl _, fun _ _ _ => rfl⟩
/-- APPEND of a whole slice, maybe an empty one, of a type whose values reach no memory. -/
theorem wp_appF {α : Type} [GT α] [Fl α] {P : Program} {w : World} {o : Oper} {a : Act} {K : Act → World → Prop} {Q : Exit → Act → World → Prop} (s x : Operand) (t : TypeId)
    (ho : o.op = .call { callee := .builtin .append, args := #[s, x], argTypes := #[t, t] }) (e : TypeId) (ht : P.underlying t = some (.slice e)) (hel : El P e α)
    {L : Nat} {v : Value} {xs ys : List α} (hs : a.eval s = v) (hO : Oa e L w v xs []) {vx : Value} (hx : a.eval x = vx) (hy : Rs w vx ys) (hlen : xs.length + ys.length ≤ 4294967296) (hL : L ≤ w.heap.size)
    (h : ∀ v' w', Oa e L w' v' (xs ++ ys) [] → w.grownBy w' v.ownBlock → K (a.put o.dst v') w') : o.wp P a w K Q := by
  obtain ⟨F, ax, cx, rfl, hl, hc, ⟨rfl, rfl⟩ | ⟨hne, b, o', F', rfl, rfl, hr⟩⟩ := hy
  · obtain ⟨i, z, bytes, hi, _⟩ := hel
    have hv : ∃ ad n cap, v = .slice ad n cap ∧ n ≤ cap := by
      rcases hO with ⟨rfl, _⟩ | ⟨g, cap, cur, rfl, _, _, hn, _⟩
      · exact ⟨_, _, _, rfl, Nat.le_refl _⟩
      · exact ⟨_, _, _, rfl, hn⟩
    obtain ⟨ad, n, cap, rfl, hn⟩ := hv
    have hr := run_append_none (P := P) (w := w) t o.type e i ht hi ad ax n cap cx hn
    unfold Oper.wp execOp
    simp only [ho, resolve, invoke, builtin, Sem.run_bind, Sem.run_pure, Result.andThen_ok, List.map_toArray, List.map_cons, List.map_nil, hs, hx, List.length_nil, hr]
    exact h _ w (by rw [List.append_nil]; exact hO) (grown_refl _ _)
  · have := hr.fl; subst this
    exact wp_app s x t ho e ht hel hs hO hx rfl hr (List.length_pos_iff.2 hne) (fun k hk => by cases hk) hlen hL h
theorem wpl_appF {α : Type} [GT α] [Fl α] {P : Program} {w : World} {ops : Array Oper} {rest : List Oper} {o : Oper} {a : Act} {Q : Exit → Act → World → Prop} (hgd : o.guard = none) (s x : Operand) (t : TypeId)
    (ho : o.op = .call { callee := .builtin .append, args := #[s, x], argTypes := #[t, t] }) (e : TypeId) (ht : P.underlying t = some (.slice e)) (hel : El P e α)
    {L : Nat} {v : Value} {xs ys : List α} (hs : a.eval s = v) (hO : Oa e L w v xs []) {vx : Value} (hx : a.eval x = vx) (hy : Rs w vx ys) (hlen : xs.length + ys.length ≤ 4294967296) (hL : L ≤ w.heap.size)
    (h : ∀ v' w', Oa e L w' v' (xs ++ ys) [] → w.grownBy w' v.ownBlock → wpList P ops Q rest (a.put o.dst v') w') : wpList P ops Q (o :: rest) a w :=
  wpList_plain hgd fun _ hK => wp_appF s x t ho e ht hel hs hO hx hy hlen hL fun v' w' h1 h2 => hK _ _ (h v' w' h1 h2)
theorem step_appF {α : Type} [GT α] [Fl α] {P : Program} {w : World} {ops : Array Oper} {o : Oper} {a : Act} {K : Act → World → Prop} {Q : Exit → Act → World → Prop} {E : Prop} (hgd : o.guard = none) (s x : Operand) (t : TypeId)
    (ho : o.op = .call { callee := .builtin .append, args := #[s, x], argTypes := #[t, t] }) (e : TypeId) (ht : P.underlying t = some (.slice e)) (hel : El P e α)
    {L : Nat} {v : Value} {xs ys : List α} (hs : a.eval s = v) (hO : Oa e L w v xs []) {vx : Value} (hx : a.eval x = vx) (hy : Rs w vx ys) (hlen : xs.length + ys.length ≤ 4294967296) (hL : L ≤ w.heap.size)
    (h : ∀ v' w', Oa e L w' v' (xs ++ ys) [] → w.grownBy w' v.ownBlock → K (a.put o.dst v') w') :
    if Region.wanted o (yielded ops a.tmps) = true then Oper.wp P o a w K Q else E := by
  have hw : Region.wanted o (yielded ops a.tmps) = true := by simp [Region.wanted, hgd]
  rw [if_pos hw]
  exact wp_appF s x t ho e ht hel hs hO hx hy hlen hL h
/-- APPEND of a whole slice to a new literal without elements: what becomes of the world is written out. -/
theorem wp_lit0c {α : Type} [GT α] [Fl α] {P : Program} {w : World} {o : Oper} {a : Act} {K : Act → World → Prop} {Q : Exit → Act → World → Prop} (s x : Operand) (t : TypeId)
    (ho : o.op = .call { callee := .builtin .append, args := #[s, x], argTypes := #[t, t] }) (e : TypeId) (ht : P.underlying t = some (.slice e)) (hel : El P e α)
    {B : Nat} {ys : List α} (hs : a.eval s = .slice (some ⟨B, 0, none⟩) 0 0) {vx : Value} (hx : a.eval x = vx) (hy : Rs w vx ys) (hne : ys ≠ []) (hlen : ys.length ≤ 4294967296)
    (h : ∀ cap C, Os w.heap.size (w.drew.alloc (.cells C e)) (.slice (some ⟨w.heap.size, 0, none⟩) ys.length cap) ys → K (a.put o.dst (.slice (some ⟨w.heap.size, 0, none⟩) ys.length cap)) (w.drew.alloc (.cells C e))) : o.wp P a w K Q := by
  obtain ⟨F, ax, cx, rfl, hl, hc, ⟨rfl, rfl⟩ | ⟨_, b, o', F', rfl, rfl, hr⟩⟩ := hy
  · exact absurd rfl hne
  have hf := hr.fl
  subst hf
  obtain ⟨i, z, bytes, hi, hz, hsz, hby, hzc, hb⟩ := hel
  have hzl : z.cells.size = GT.sz α := by rw [← GT.len (GT.zero (α := α) w), ← hzc]; simp
  obtain ⟨news, hnl, hnat, hn1⟩ := hr.cells
  have hadd : ∀ (b' o' j : Nat), Addr.add ⟨b', o', none⟩ j = ⟨b', o' + j, none⟩ := fun b' o' j => by
    unfold Addr.add; split
    · subst j; rfl
    · rfl
  have hpos : 0 < ys.length := List.length_pos_iff.2 hne
  have hbytes : (0 + ys.length) * i.bytes ≤ 140737488355328 := by
    rw [Nat.zero_add, hby]
    have := Nat.mul_le_mul hlen hb
    omega
  have hrun := run_append_grow (P := P) w t o.type e i z ht hi hz ⟨B, 0, none⟩ 0 0 [] (by simp) (fun j u hj => by simp at hj) ⟨b, o', none⟩ ys.length cx news (by rw [hsz]; exact hnl) (fun j u hj => by rw [hadd]; exact hnat j u hj) (by omega) (by omega) (growslice_fits (by omega) hbytes)
  rw [Nat.zero_add] at hrun
  have hge := grownCap_ge w ys.length 0 e
  have hcm : grownCap w ys.length 0 e ≤ maxLen := grownCap_le_maxLen w ys.length 0 e (by unfold maxLen; omega)
  unfold Oper.wp execOp
  simp only [ho, resolve, invoke, builtin, Sem.run_bind, Sem.run_pure, Result.andThen_ok, List.map_toArray, List.map_cons, List.map_nil, hs, hx, hrun]
  refine h (grownCap w ys.length 0 e) _ ?_
  have hB : (w.drew.alloc (.cells (([] : List Value).toArray ++ news.toArray ++ Builtin.zeroCells z.cells (grownCap w ys.length 0 e - ys.length)) e)).heap[w.heap.size]? = some (.cells (([] : List Value).toArray ++ news.toArray ++ Builtin.zeroCells z.cells (grownCap w ys.length 0 e - ys.length)) e (0, 0)) := by
    show (w.heap.push _)[w.heap.size]? = _
    simp
  refine ⟨[w.heap.size], ⟨_, _, rfl, hge, hcm, .inr ⟨hne, w.heap.size, 0, [], rfl, rfl, ?_⟩⟩, by simp, fun k hk => ?_⟩
  · refine hr.move (fun k hk => by cases hk) fun j u hj hu => ?_
    have hj2 : j < news.length := by omega
    have h1 := hnat j news[j] (by simp [hj2])
    rw [h1] at hu; cases hu
    rw [Nat.zero_add]
    refine (Bk.ofA hB).cell ?_
    simp only [Array.toList_append, List.nil_append, List.append_assoc]
    rw [List.getElem?_append_left (by simpa using hj2)]
    simp [hj2]
  · rw [List.mem_singleton] at hk; subst hk
    exact ⟨Nat.le_refl _, _, _, Bk.ofA hB⟩
theorem wp_lit0n {P : Program} {w : World} {o : Oper} {a : Act} {K : Act → World → Prop} {Q : Exit → Act → World → Prop} (s x : Operand) (t : TypeId)
    (ho : o.op = .call { callee := .builtin .append, args := #[s, x], argTypes := #[t, t] }) (e : TypeId) (ht : P.underlying t = some (.slice e)) {α : Type} [GT α] (hel : El P e α)
    {B : Nat} (hs : a.eval s = .slice (some ⟨B, 0, none⟩) 0 0) {ax : Option Addr} {cx n : Nat} (hx : a.eval x = .slice ax n cx) (hn : n = 0)
    (h : K (a.put o.dst (.slice (some ⟨B, 0, none⟩) 0 0)) w) : o.wp P a w K Q := by
  subst hn
  obtain ⟨i, z, bytes, hi, _⟩ := hel
  have hr := run_append_none (P := P) (w := w) t o.type e i ht hi (some ⟨B, 0, none⟩) ax 0 0 cx (Nat.le_refl _)
  unfold Oper.wp execOp
  simp only [ho, resolve, invoke, builtin, Sem.run_bind, Sem.run_pure, Result.andThen_ok, List.map_toArray, List.map_cons, List.map_nil, hs, hx, hr]
  exact h
theorem step_lit0c {α : Type} [GT α] [Fl α] {P : Program} {w : World} {ops : Array Oper} {o : Oper} {a : Act} {K : Act → World → Prop} {Q : Exit → Act → World → Prop} {E : Prop} (hgd : o.guard = none) (s x : Operand) (t : TypeId)
    (ho : o.op = .call { callee := .builtin .append, args := #[s, x], argTypes := #[t, t] }) (e : TypeId) (ht : P.underlying t = some (.slice e)) (hel : El P e α)
    {B : Nat} {ys : List α} (hs : a.eval s = .slice (some ⟨B, 0, none⟩) 0 0) {vx : Value} (hx : a.eval x = vx) (hy : Rs w vx ys) (hne : ys ≠ []) (hlen : ys.length ≤ 4294967296)
    (h : ∀ cap C, Os w.heap.size (w.drew.alloc (.cells C e)) (.slice (some ⟨w.heap.size, 0, none⟩) ys.length cap) ys → K (a.put o.dst (.slice (some ⟨w.heap.size, 0, none⟩) ys.length cap)) (w.drew.alloc (.cells C e))) :
    if Region.wanted o (yielded ops a.tmps) = true then Oper.wp P o a w K Q else E := by
  have hw : Region.wanted o (yielded ops a.tmps) = true := by simp [Region.wanted, hgd]
  rw [if_pos hw]
  exact wp_lit0c s x t ho e ht hel hs hx hy hne hlen h
theorem step_lit0n {P : Program} {w : World} {ops : Array Oper} {o : Oper} {a : Act} {K : Act → World → Prop} {Q : Exit → Act → World → Prop} {E : Prop} (hgd : o.guard = none) (s x : Operand) (t : TypeId)
    (ho : o.op = .call { callee := .builtin .append, args := #[s, x], argTypes := #[t, t] }) (e : TypeId) (ht : P.underlying t = some (.slice e)) {α : Type} [GT α] (hel : El P e α)
    {B : Nat} (hs : a.eval s = .slice (some ⟨B, 0, none⟩) 0 0) {ax : Option Addr} {cx n : Nat} (hx : a.eval x = .slice ax n cx) (hn : n = 0)
    (h : K (a.put o.dst (.slice (some ⟨B, 0, none⟩) 0 0)) w) :
    if Region.wanted o (yielded ops a.tmps) = true then Oper.wp P o a w K Q else E := by
  have hw : Region.wanted o (yielded ops a.tmps) = true := by simp [Region.wanted, hgd]
  rw [if_pos hw]
  exact wp_lit0n s x t ho e ht hel hs hx hn h
end Sk

