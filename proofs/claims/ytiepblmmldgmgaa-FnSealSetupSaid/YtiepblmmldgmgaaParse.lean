/- Contracts of functions of the given program, and lemmas for them: each theorem states the condition under which it holds. -/
import Derived.Test.YtiepblmmldgmgaaChecked
import Derived.Test.YtiepblmmldgmgaaDel
namespace Sk
open Go Go.Proofs Go.RowKit
set_option linter.unusedVariables false
set_option linter.unusedSimpArgs false
abbrev M.St := List Int × Bool
def M.nx (s : M.St) : Int := M.hd s.1
def M.ns (s : M.St) : M.St := (s.1.tail, s.2 || s.1.isEmpty)
def M.mx (m : Int) (s : M.St) : Int := M.many s.1 m
def M.ms (m : Int) (s : M.St) : M.St := (s.1.tail, M.manyB s.1 s.2 m)
/-- One less, as the machine reckons. -/
def M.dec (x : Int) : Int := if x = -9223372036854775808 then 9223372036854775807 else x - 1
def M.iter {α : Type} (f : M.St → α × M.St) : Nat → M.St → List α × M.St
  | 0, s => ([], s)
  | n + 1, s => ((M.iter f n s).1 ++ [(f (M.iter f n s).2).1], (f (M.iter f n s).2).2)
/-- The same, but nothing is read any more once reading has failed. -/
def M.iterB {α : Type} (f : M.St → α × M.St) : Nat → M.St → List α × M.St
  | 0, s => ([], s)
  | n + 1, s => if (M.iterB f n s).2.2 then M.iterB f n s else ((M.iterB f n s).1 ++ [(f (M.iterB f n s).2).1], (f (M.iterB f n s).2).2)
theorem M.iter_len {α : Type} (f : M.St → α × M.St) (n : Nat) (s : M.St) : (M.iter f n s).1.length = n := by
  induction n with
  | zero => rfl
  | succ n ih => simp only [M.iter, List.length_append, ih, List.length_cons, List.length_nil]
theorem M.iterB_len {α : Type} (f : M.St → α × M.St) (n : Nat) (s : M.St) : (M.iterB f n s).1.length ≤ n := by
  induction n with
  | zero => exact Nat.le_refl _
  | succ n ih =>
    simp only [M.iterB]
    split
    · omega
    · simp only [List.length_append, List.length_cons, List.length_nil]; omega
theorem M.iterB_bad {α : Type} (f : M.St → α × M.St) (s : M.St) : ∀ {n : Nat} (k : Nat), (M.iterB f n s).2.2 = true → M.iterB f (n + k) s = M.iterB f n s := by
  intro n k h
  induction k with
  | zero => rfl
  | succ k ih => rw [← Nat.add_assoc, M.iterB, ih, if_pos h]
def M.iW1 (s : M.St) : Window × M.St := (⟨M.nx s, M.nx (M.ns s), M.nx (M.ns (M.ns s)) == 1⟩, M.ns (M.ns (M.ns s)))
def M.iP1 (s : M.St) : Part × M.St :=
  (⟨(M.iter M.iW1 (M.mx 12 (M.ns s)).toNat (M.ms 12 (M.ns s))).1, M.nx s⟩, (M.iter M.iW1 (M.mx 12 (M.ns s)).toNat (M.ms 12 (M.ns s))).2)
def M.iC1 (s : M.St) : Channel × M.St := (⟨M.nx s, M.nx (M.ns s), M.nx (M.ns (M.ns s)), M.nx (M.ns (M.ns (M.ns s)))⟩, M.ns (M.ns (M.ns (M.ns s))))
def M.iS1 (s : M.St) : Slot × M.St := (⟨M.dec (M.nx s), M.nx (M.ns s)⟩, M.ns (M.ns s))
def M.iPs (s : M.St) : List Part × M.St := M.iter M.iP1 (M.mx 5 s).toNat (M.ms 5 s)
def M.iCs (s : M.St) : List Channel × M.St := M.iter M.iC1 (M.mx 8 s).toNat (M.ms 8 s)
def M.iSs (s : M.St) : List Slot × M.St := M.iter M.iS1 (M.mx 12 s).toNat (M.ms 12 s)
def M.iAll (s : M.St) : Setup := ⟨(M.iPs s).1, (M.iCs (M.iPs s).2).1, (M.iSs (M.iCs (M.iPs s).2).2).1⟩
def M.iEnd (s : M.St) : M.St := (M.iSs (M.iCs (M.iPs s).2).2).2
def M.sW1 (s : M.St) : Window × M.St := (⟨M.nx s, M.nx (M.ns s), M.nx (M.ns (M.ns s)) == 1⟩, ((M.ns (M.ns (M.ns s))).1, (M.ns (M.ns (M.ns s))).2 || !M.inn (M.nx (M.ns (M.ns s))) 0 1))
def M.sP1 (s : M.St) : Part × M.St :=
  (⟨(M.iterB M.sW1 (M.mx 12 (M.ns s)).toNat (M.ms 12 (M.ns s))).1, M.nx s⟩, (M.iterB M.sW1 (M.mx 12 (M.ns s)).toNat (M.ms 12 (M.ns s))).2)
def M.sPs (s : M.St) : List Part × M.St := M.iterB M.sP1 (M.mx 5 s).toNat (M.ms 5 s)
def M.sCs (s : M.St) : List Channel × M.St := M.iterB M.iC1 (M.mx 8 s).toNat (M.ms 8 s)
def M.sSs (s : M.St) : List Slot × M.St := M.iterB M.iS1 (M.mx 12 s).toNat (M.ms 12 s)
def M.sAll (s : M.St) : Setup := ⟨(M.sPs s).1, (M.sCs (M.sPs s).2).1, (M.sSs (M.sCs (M.sPs s).2).2).1⟩
def M.sEnd (s : M.St) : M.St := (M.sSs (M.sCs (M.sPs s).2).2).2
theorem M.many_bd (xs : List Int) {m : Int} (hm : 0 ≤ m) : 0 ≤ M.many xs m ∧ M.many xs m ≤ m := by
  unfold M.many
  split
  · rename_i h; exact M.inn_iff.1 h
  · exact ⟨Int.le_refl _, hm⟩
theorem M.hd_rng {W w : World} {v : Value} {xs : List Int} (h : Rs w v xs) : rng (M.hd xs) := by
  cases xs with
  | nil => exact rng_zero
  | cons x xs =>
    obtain ⟨a, c, rfl, _⟩ := h.form
    obtain ⟨b, o, y, _, _, hx, _, hr⟩ := h.atInt 0 (by simp)
    have := hx.out
    simp at this
    subst this; exact hr
end Sk
namespace Sk
open Go
/-- The setup whose numbers a list is, if there is one. -/
noncomputable def M.readS (xs : List Int) : Setup × Bool := @dite _ (∃ s, M.setv s = true ∧ M.nums s = xs) (Classical.propDecidable _) (fun h => (Classical.choose h, true)) (fun _ => (default, false))
theorem M.ns_cons (x : Int) (xs : List Int) (b : Bool) : M.ns (x :: xs, b) = (xs, b) := by simp [M.ns]
theorem M.nx_cons (x : Int) (xs : List Int) (b : Bool) : M.nx (x :: xs, b) = x := rfl
theorem M.ms_cons {x m : Int} (xs : List Int) (b : Bool) (h : M.inn x 0 m = true) : M.ms m (x :: xs, b) = (xs, b) := by simp [M.ms, M.manyB, M.hd, h]
theorem M.mx_cons {x m : Int} (xs : List Int) (b : Bool) (h : M.inn x 0 m = true) : M.mx m (x :: xs, b) = x := by simp [M.mx, M.many, M.hd, h]
/-- A reader that takes what a printer lays reads a list of them. -/
theorem M.iter_flat {α : Type} {f : M.St → α × M.St} {g : α → List Int} {ok : α → Prop} (h : ∀ x rest, ok x → f (g x ++ rest, false) = (x, (rest, false))) (rest : List Int) :
    ∀ (xs : List α) (ys : List α), (∀ x ∈ ys ++ xs, ok x) → ∀ s, M.iter f ys.length s = (ys, (xs.flatMap g ++ rest, false)) → M.iter f (ys ++ xs).length s = (ys ++ xs, (rest, false)) := by
  intro xs
  induction xs with
  | nil => intro ys _ s hs; simpa using hs
  | cons x xs ih =>
    intro ys hok s hs
    have h1 : M.iter f (ys ++ [x]).length s = (ys ++ [x], (xs.flatMap g ++ rest, false)) := by
      rw [List.length_append, List.length_singleton, M.iter, hs, List.flatMap_cons, List.append_assoc, h x _ (hok x (by simp))]
    have := ih (ys ++ [x]) (by simpa using hok) s h1
    simpa using this
theorem M.iter_all {α : Type} {f : M.St → α × M.St} {g : α → List Int} {ok : α → Prop} (h : ∀ x rest, ok x → f (g x ++ rest, false) = (x, (rest, false))) (rest : List Int) (xs : List α) (hok : ∀ x ∈ xs, ok x) :
    M.iter f xs.length (xs.flatMap g ++ rest, false) = (xs, (rest, false)) := by
  have := M.iter_flat h rest xs [] (by simpa using hok) (xs.flatMap g ++ rest, false) rfl
  simpa using this
theorem M.iterB_flat {α : Type} {f : M.St → α × M.St} {g : α → List Int} {ok : α → Prop} (h : ∀ x rest, ok x → f (g x ++ rest, false) = (x, (rest, false))) (rest : List Int) :
    ∀ (xs : List α) (ys : List α), (∀ x ∈ ys ++ xs, ok x) → ∀ s, M.iterB f ys.length s = (ys, (xs.flatMap g ++ rest, false)) → M.iterB f (ys ++ xs).length s = (ys ++ xs, (rest, false)) := by
  intro xs
  induction xs with
  | nil => intro ys _ s hs; simpa using hs
  | cons x xs ih =>
    intro ys hok s hs
    have h1 : M.iterB f (ys ++ [x]).length s = (ys ++ [x], (xs.flatMap g ++ rest, false)) := by
      rw [List.length_append, List.length_singleton, M.iterB, hs, List.flatMap_cons, List.append_assoc, h x _ (hok x (by simp))]
      simp
    have := ih (ys ++ [x]) (by simpa using hok) s h1
    simpa using this
theorem M.iterB_all {α : Type} {f : M.St → α × M.St} {g : α → List Int} {ok : α → Prop} (h : ∀ x rest, ok x → f (g x ++ rest, false) = (x, (rest, false))) (rest : List Int) (xs : List α) (hok : ∀ x ∈ xs, ok x) :
    M.iterB f xs.length (xs.flatMap g ++ rest, false) = (xs, (rest, false)) := by
  have := M.iterB_flat h rest xs [] (by simpa using hok) (xs.flatMap g ++ rest, false) rfl
  simpa using this
theorem M.bit_eq (b : Bool) : (M.bit b == 1) = b := by cases b <;> rfl
theorem M.iW1_ok (x : Window) (rest : List Int) : M.iW1 (M.wn x ++ rest, false) = (x, (rest, false)) := by
  simp only [M.wn, List.cons_append, List.nil_append, M.iW1, M.ns_cons, M.nx_cons, M.bit_eq]
theorem M.sW1_ok (x : Window) (rest : List Int) : M.sW1 (M.wn x ++ rest, false) = (x, (rest, false)) := by
  simp only [M.wn, List.cons_append, List.nil_append, M.sW1, M.ns_cons, M.nx_cons, M.bit_eq]
  have : M.inn (M.bit x.Write) 0 1 = true := by cases x.Write <;> rfl
  rw [this]; rfl
theorem M.inn_len {n : Nat} {m : Int} (h : (n : Int) ≤ m) : M.inn (n : Int) 0 m = true := M.inn_iff.2 ⟨by omega, h⟩
theorem M.iP1_ok (x : Part) (rest : List Int) (h : x.Windows.length ≤ 12) : M.iP1 (M.pn x ++ rest, false) = (x, (rest, false)) := by
  have hi : M.inn (x.Windows.length : Int) 0 12 = true := M.inn_len (by omega)
  have := M.iter_all (f := M.iW1) (g := M.wn) (ok := fun _ => True) (fun x r _ => M.iW1_ok x r) rest x.Windows (fun _ _ => trivial)
  simp only [M.pn, List.cons_append, List.nil_append, M.iP1, M.ns_cons, M.nx_cons, M.ms_cons _ _ hi, M.mx_cons _ _ hi, Int.toNat_natCast, this]
theorem M.sP1_ok (x : Part) (rest : List Int) (h : x.Windows.length ≤ 12) : M.sP1 (M.pn x ++ rest, false) = (x, (rest, false)) := by
  have hi : M.inn (x.Windows.length : Int) 0 12 = true := M.inn_len (by omega)
  have := M.iterB_all (f := M.sW1) (g := M.wn) (ok := fun _ => True) (fun x r _ => M.sW1_ok x r) rest x.Windows (fun _ _ => trivial)
  simp only [M.pn, List.cons_append, List.nil_append, M.sP1, M.ns_cons, M.nx_cons, M.ms_cons _ _ hi, M.mx_cons _ _ hi, Int.toNat_natCast, this]
theorem M.iC1_ok (x : Channel) (rest : List Int) : M.iC1 (M.cn x ++ rest, false) = (x, (rest, false)) := by
  simp only [M.cn, List.cons_append, List.nil_append, M.iC1, M.ns_cons, M.nx_cons]
theorem M.dec_of {x : Int} (h : -1 ≤ x) : M.dec (x + 1) = x := by unfold M.dec; rw [if_neg (by omega)]; omega
theorem M.iS1_ok (x : Slot) (rest : List Int) (h : -1 ≤ x.Who) : M.iS1 (M.sn x ++ rest, false) = (x, (rest, false)) := by
  simp only [M.sn, List.cons_append, List.nil_append, M.iS1, M.ns_cons, M.nx_cons, M.dec_of h]
theorem M.iRead {s : Setup} (h : M.setv s = true) : M.iAll (M.nums s, false) = s ∧ M.iEnd (M.nums s, false) = ([], false) := by
  have h5 := M.setv_parts h
  have h8 := M.setv_chans h
  have h12 := M.setv_slots h
  have i5 : M.inn (s.Parts.length : Int) 0 5 = true := M.inn_len (by omega)
  have i8 : M.inn (s.Channels.length : Int) 0 8 = true := M.inn_len (by omega)
  have i12 : M.inn (s.Slots.length : Int) 0 12 = true := M.inn_len (by omega)
  have hn : M.nums s = (s.Parts.length : Int) :: (s.Parts.flatMap M.pn ++ ((s.Channels.length : Int) :: (s.Channels.flatMap M.cn ++ ((s.Slots.length : Int) :: (s.Slots.flatMap M.sn ++ []))))) := by simp [M.nums]
  have hP := M.iter_all (f := M.iP1) (g := M.pn) (ok := fun x => x.Windows.length ≤ 12) (fun x r hx => M.iP1_ok x r hx) ((s.Channels.length : Int) :: (s.Channels.flatMap M.cn ++ ((s.Slots.length : Int) :: (s.Slots.flatMap M.sn ++ [])))) s.Parts
    (fun x hx => by obtain ⟨k, hk⟩ := List.getElem?_of_mem hx; exact M.setv_win h hk)
  have hC := M.iter_all (f := M.iC1) (g := M.cn) (ok := fun _ => True) (fun x r _ => M.iC1_ok x r) ((s.Slots.length : Int) :: (s.Slots.flatMap M.sn ++ [])) s.Channels (fun _ _ => trivial)
  have hS := M.iter_all (f := M.iS1) (g := M.sn) (ok := fun x => -1 ≤ x.Who) (fun x r hx => M.iS1_ok x r hx) [] s.Slots (fun x hx => (M.setv_who h hx).1)
  rw [hn]
  simp only [M.iAll, M.iEnd, M.iPs, M.iCs, M.iSs, M.mx_cons _ _ i5, M.ms_cons _ _ i5, Int.toNat_natCast, hP, M.mx_cons _ _ i8, M.ms_cons _ _ i8, hC, M.mx_cons _ _ i12, M.ms_cons _ _ i12, hS]
  exact ⟨trivial, trivial⟩
theorem M.sRead {s : Setup} (h : M.setv s = true) : M.sAll (M.nums s, false) = s ∧ M.sEnd (M.nums s, false) = ([], false) := by
  have h5 := M.setv_parts h
  have h8 := M.setv_chans h
  have h12 := M.setv_slots h
  have i5 : M.inn (s.Parts.length : Int) 0 5 = true := M.inn_len (by omega)
  have i8 : M.inn (s.Channels.length : Int) 0 8 = true := M.inn_len (by omega)
  have i12 : M.inn (s.Slots.length : Int) 0 12 = true := M.inn_len (by omega)
  have hn : M.nums s = (s.Parts.length : Int) :: (s.Parts.flatMap M.pn ++ ((s.Channels.length : Int) :: (s.Channels.flatMap M.cn ++ ((s.Slots.length : Int) :: (s.Slots.flatMap M.sn ++ []))))) := by simp [M.nums]
  have hP := M.iterB_all (f := M.sP1) (g := M.pn) (ok := fun x => x.Windows.length ≤ 12) (fun x r hx => M.sP1_ok x r hx) ((s.Channels.length : Int) :: (s.Channels.flatMap M.cn ++ ((s.Slots.length : Int) :: (s.Slots.flatMap M.sn ++ [])))) s.Parts
    (fun x hx => by obtain ⟨k, hk⟩ := List.getElem?_of_mem hx; exact M.setv_win h hk)
  have hC := M.iterB_all (f := M.iC1) (g := M.cn) (ok := fun _ => True) (fun x r _ => M.iC1_ok x r) ((s.Slots.length : Int) :: (s.Slots.flatMap M.sn ++ [])) s.Channels (fun _ _ => trivial)
  have hS := M.iterB_all (f := M.iS1) (g := M.sn) (ok := fun x => -1 ≤ x.Who) (fun x r hx => M.iS1_ok x r hx) [] s.Slots (fun x hx => (M.setv_who h hx).1)
  rw [hn]
  simp only [M.sAll, M.sEnd, M.sPs, M.sCs, M.sSs, M.mx_cons _ _ i5, M.ms_cons _ _ i5, Int.toNat_natCast, hP, M.mx_cons _ _ i8, M.ms_cons _ _ i8, hC, M.mx_cons _ _ i12, M.ms_cons _ _ i12, hS]
  exact ⟨trivial, trivial⟩
theorem M.nums_inj {s t : Setup} (hs : M.setv s = true) (ht : M.setv t = true) (h : M.nums s = M.nums t) : s = t := by
  have h1 := (M.iRead hs).1
  rw [h, (M.iRead ht).1] at h1
  exact h1.symm
theorem M.readS_of {s : Setup} (h : M.setv s = true) : M.readS (M.nums s) = (s, true) := by
  have hx : ∃ t, M.setv t = true ∧ M.nums t = M.nums s := ⟨s, h, rfl⟩
  unfold M.readS
  rw [@dif_pos _ (Classical.propDecidable _) hx]
  have := Classical.choose_spec hx
  rw [M.nums_inj this.1 h this.2]
theorem M.readS_none {xs : List Int} (h : ∀ s, M.setv s = true → M.nums s ≠ xs) : M.readS xs = (default, false) := by
  unfold M.readS
  rw [@dif_neg _ (Classical.propDecidable _) (fun ⟨s, h1, h2⟩ => h s h1 h2)]
/-- The program's reading. -/
theorem M.readI_f {xs : List Int} (h : (M.iEnd (xs, false)).2 = true ∨ M.setv (M.iAll (xs, false)) = false ∨ M.nums (M.iAll (xs, false)) ≠ xs) : M.readS xs = (default, false) := by
  refine M.readS_none fun s hs e => ?_
  subst e
  obtain ⟨h1, h2⟩ := M.iRead hs
  rw [h1, h2] at h
  rcases h with h | h | h
  · cases h
  · rw [hs] at h; cases h
  · exact h rfl
theorem M.readI_t {xs : List Int} (h : M.setv (M.iAll (xs, false)) = true) (k : M.nums (M.iAll (xs, false)) = xs) : M.readS xs = (M.iAll (xs, false), true) := by
  have := M.readS_of h
  rwa [k] at this
/-- A reader that fails never succeeds again, and says what it has read. -/
def M.Says {α : Type} (f : M.St → α × M.St) (g : α → List Int) (ok : α → Prop) : Prop := ∀ s, (f s).2.2 = false → s.2 = false ∧ (ok (f s).1 → s.1 = g (f s).1 ++ (f s).2.1)
theorem M.ns_says (s : M.St) (h : (M.ns s).2 = false) : s.2 = false ∧ s.1 = M.nx s :: (M.ns s).1 := by
  obtain ⟨xs, b⟩ := s
  simp only [M.ns, Bool.or_eq_false_iff] at h
  obtain ⟨h1, h2⟩ := h
  cases xs with
  | nil => cases h2
  | cons x xs => exact ⟨h1, rfl⟩
theorem M.ms_says (m : Int) (s : M.St) (h : (M.ms m s).2 = false) : s.2 = false ∧ s.1 = M.mx m s :: (M.ms m s).1 ∧ 0 ≤ M.mx m s ∧ M.mx m s ≤ m := by
  obtain ⟨xs, b⟩ := s
  simp only [M.ms, M.manyB, Bool.or_eq_false_iff, Bool.not_eq_false'] at h
  obtain ⟨⟨h1, h2⟩, h3⟩ := h
  cases xs with
  | nil => cases h2
  | cons x xs =>
    have h4 := M.inn_iff.1 h3
    have hm : M.mx m (x :: xs, b) = x := M.mx_cons xs b h3
    rw [hm]
    exact ⟨h1, rfl, h4.1, h4.2⟩
theorem M.iterB_says {α : Type} {f : M.St → α × M.St} {g : α → List Int} {ok : α → Prop} (hf : M.Says f g ok) (n : Nat) (s : M.St) : (M.iterB f n s).2.2 = false →
    s.2 = false ∧ (M.iterB f n s).1.length = n ∧ ((∀ x ∈ (M.iterB f n s).1, ok x) → s.1 = (M.iterB f n s).1.flatMap g ++ (M.iterB f n s).2.1) := by
  induction n with
  | zero => intro h; exact ⟨h, rfl, fun _ => by simp [M.iterB]⟩
  | succ n ih =>
    intro h
    by_cases hb : (M.iterB f n s).2.2 = true
    · rw [M.iterB, if_pos hb, hb] at h; cases h
    · rw [M.iterB, if_neg hb] at h ⊢
      obtain ⟨h1, h2⟩ := hf _ h
      obtain ⟨k1, k2, k3⟩ := ih h1
      refine ⟨k1, by simp [k2], fun hok => ?_⟩
      have h3 := h2 (hok _ (by simp))
      rw [k3 (fun x hx => hok x (by simp [hx]))]
      simp only [List.flatMap_append, List.flatMap_cons, List.flatMap_nil, List.append_nil, List.append_assoc]
      rw [← h3]
theorem M.sW1_says : M.Says M.sW1 M.wn (fun _ => True) := fun s h => by
  simp only [M.sW1, Bool.or_eq_false_iff, Bool.not_eq_false'] at h
  obtain ⟨h, hi⟩ := h
  obtain ⟨h3, e3⟩ := M.ns_says _ h
  obtain ⟨h2, e2⟩ := M.ns_says _ h3
  obtain ⟨h1, e1⟩ := M.ns_says _ h2
  refine ⟨h1, fun _ => ?_⟩
  have hb := M.inn_iff.1 hi
  have : M.bit (M.nx (M.ns (M.ns s)) == 1) = M.nx (M.ns (M.ns s)) := by
    by_cases hx : M.nx (M.ns (M.ns s)) = 1
    · rw [hx]; rfl
    · have h0 : M.nx (M.ns (M.ns s)) = 0 := by omega
      rw [h0]; rfl
  simp only [M.sW1, M.wn, this, List.cons_append, List.nil_append]
  rw [← e3, ← e2, ← e1]
theorem M.iC1_says : M.Says M.iC1 M.cn (fun _ => True) := fun s h => by
  obtain ⟨h4, e4⟩ := M.ns_says _ h
  obtain ⟨h3, e3⟩ := M.ns_says _ h4
  obtain ⟨h2, e2⟩ := M.ns_says _ h3
  obtain ⟨h1, e1⟩ := M.ns_says _ h2
  refine ⟨h1, fun _ => ?_⟩
  simp only [M.iC1, M.cn, List.cons_append, List.nil_append]
  rw [← e4, ← e3, ← e2, ← e1]
theorem M.iS1_says : M.Says M.iS1 M.sn (fun x => x.Who ≤ 5) := fun s h => by
  obtain ⟨h2, e2⟩ := M.ns_says _ h
  obtain ⟨h1, e1⟩ := M.ns_says _ h2
  refine ⟨h1, fun hok => ?_⟩
  have : M.dec (M.nx s) + 1 = M.nx s := by
    have hok : M.dec (M.nx s) ≤ 5 := hok
    unfold M.dec at *
    split at hok <;> omega
  simp only [M.iS1, M.sn, this, List.cons_append, List.nil_append]
  rw [← e2, ← e1]
theorem M.sP1_says : M.Says M.sP1 M.pn (fun _ => True) := fun s h => by
  obtain ⟨h3, hl, e3⟩ := M.iterB_says M.sW1_says _ _ h
  obtain ⟨h2, e2, hb⟩ := M.ms_says _ _ h3
  obtain ⟨h1, e1⟩ := M.ns_says _ h2
  refine ⟨h1, fun _ => ?_⟩
  have e3 := e3 (fun _ _ => trivial)
  have hl2 : ((M.iterB M.sW1 (M.mx 12 (M.ns s)).toNat (M.ms 12 (M.ns s))).1.length : Int) = M.mx 12 (M.ns s) := by rw [hl]; omega
  simp only [M.sP1, M.pn, hl2, List.cons_append, List.nil_append, List.append_assoc]
  rw [← e3, ← e2, ← e1]
theorem M.readR_f {xs : List Int} (h : (M.sEnd (xs, false)).2 = true ∨ (M.sEnd (xs, false)).1 ≠ [] ∨ M.setv (M.sAll (xs, false)) = false) : M.readS xs = (default, false) := by
  refine M.readS_none fun s hs e => ?_
  subst e
  obtain ⟨h1, h2⟩ := M.sRead hs
  rw [h1, h2] at h
  rcases h with h | h | h
  · cases h
  · exact h rfl
  · rw [hs] at h; cases h
theorem M.readR_t {xs : List Int} (h : (M.sEnd (xs, false)).2 = false) (h2 : (M.sEnd (xs, false)).1 = []) (h3 : M.setv (M.sAll (xs, false)) = true) : M.readS xs = (M.sAll (xs, false), true) := by
  have key : M.nums (M.sAll (xs, false)) = xs := by
    obtain ⟨g1, l1, e1⟩ := M.iterB_says M.iS1_says _ _ h
    obtain ⟨g2, e2, b2, _⟩ := M.ms_says _ _ g1
    obtain ⟨g3, l3, e3⟩ := M.iterB_says M.iC1_says _ _ g2
    obtain ⟨g4, e4, b4, _⟩ := M.ms_says _ _ g3
    obtain ⟨g5, l5, e5⟩ := M.iterB_says M.sP1_says _ _ g4
    obtain ⟨g6, e6, b6, _⟩ := M.ms_says _ _ g5
    have e1 := e1 (fun x hx => (M.setv_who h3 hx).2)
    have e3 := e3 (fun _ _ => trivial)
    have e5 := e5 (fun _ _ => trivial)
    have q1 : ((M.sPs (xs, false)).1.length : Int) = M.mx 5 (xs, false) := by unfold M.sPs; rw [l5]; omega
    have q2 : ((M.sCs (M.sPs (xs, false)).2).1.length : Int) = M.mx 8 (M.sPs (xs, false)).2 := by unfold M.sCs; rw [l3]; omega
    have q3 : ((M.sSs (M.sCs (M.sPs (xs, false)).2).2).1.length : Int) = M.mx 12 (M.sCs (M.sPs (xs, false)).2).2 := by unfold M.sSs; rw [l1]; omega
    have hn : ∀ s : Setup, M.nums s = (s.Parts.length : Int) :: (s.Parts.flatMap M.pn ++ ((s.Channels.length : Int) :: (s.Channels.flatMap M.cn ++ ((s.Slots.length : Int) :: (s.Slots.flatMap M.sn ++ []))))) := fun s => by simp [M.nums]
    rw [hn]
    simp only [M.sAll]
    rw [q1, q2, q3]
    have e1' : (M.ms 12 (M.sCs (M.sPs (xs, false)).2).2).1 = (M.sSs (M.sCs (M.sPs (xs, false)).2).2).1.flatMap M.sn ++ [] := by
      rw [← h2]; exact e1
    rw [← e1', ← e2]
    have e3' : (M.ms 8 (M.sPs (xs, false)).2).1 = (M.sCs (M.sPs (xs, false)).2).1.flatMap M.cn ++ (M.sCs (M.sPs (xs, false)).2).2.1 := e3
    rw [← e3', ← e4]
    have e5' : (M.ms 5 (xs, false)).1 = (M.sPs (xs, false)).1.flatMap M.pn ++ (M.sPs (xs, false)).2.1 := e5
    rw [← e5', ← e6]
  have := M.readS_of h3
  rwa [key] at this
end Sk

