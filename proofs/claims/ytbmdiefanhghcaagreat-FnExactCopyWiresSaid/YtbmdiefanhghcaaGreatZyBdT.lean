/- Contracts of functions of the given program, each under the condition that it states. -/
import Derived.Test.YtbmdiefanhghcaaGreatChecked
import Derived.Test.YtbmdiefanhghcaaGreatBoardV
import Derived.Test.YtbmdiefanhghcaaGreatUARuns
import Derived.Test.YtbmdiefanhghcaaGreatTickT
import Derived.Test.YtbmdiefanhghcaaGreatVHoldS
import Derived.Test.YtbmdiefanhghcaaGreatThr
namespace Sk
open Go Go.Proofs Go.RowKit
set_option maxHeartbeats 1000000
set_option linter.unusedVariables false
set_option linter.unusedSimpArgs false
def M.wval (b : Board) (v : Wire) : Int := ((b.Boxes.getD v.From.toNat M.mz).Cores.getD v.FromPart.toNat M.cz).Cells.getD v.FromCell.toNat 0
def M.pcel (m : Machine) (y z : Nat) (n : Int) : Machine := { m with Cores := m.Cores.set y { m.Cores.getD y M.cz with Cells := (m.Cores.getD y M.cz).Cells.set z n } }
def M.cw1 (b : Board) (xs : List Machine) (v : Wire) : List Machine := xs.set v.To.toNat (M.pcel (xs.getD v.To.toNat M.mz) v.ToPart.toNat v.ToCell.toNat (M.wval b v))
def M.cwK (b : Board) (k : Nat) : List Machine := (b.Wires.take k).foldl (M.cw1 b) b.Boxes
theorem M.cwK_succ {b : Board} {k : Nat} {v : Wire} (h : b.Wires[k]? = some v) : M.cwK b (k + 1) = M.cw1 b (M.cwK b k) v := by
 unfold M.cwK; rw [take_snoc h, List.foldl_append]; rfl
def M.cw (b : Board) : Board := ⟨M.cwK b b.Wires.length, b.Wires⟩
def M.bz : Board := ⟨[], []⟩
noncomputable def M.copyWires (b : Board) : Board := if M.bv b then M.cw b else M.bz
theorem M.copyWires_t {b : Board} (h : M.bv b = true) : M.copyWires b = M.cw b := if_pos h
theorem M.copyWires_f {b : Board} (h : M.bv b = false) : M.copyWires b = M.bz := if_neg (by rw [h]; decide)
theorem M.hc_iff {b : Board} {x y z : Int} : M.hc b x y z = true ↔ ∃ (X Y Z : Nat) (m : Machine) (c : Core), x = X ∧ y = Y ∧ z = Z ∧ b.Boxes[X]? = some m ∧ m.Cores[Y]? = some c ∧ Z < c.Cells.length := by
 unfold M.hc
 constructor
 ·intro h
  rw [Bool.and_eq_true, M.inn_iff] at h
  obtain ⟨h1, h2⟩ := h
  cases hm : b.Boxes[x.toNat]? with
  | none => rw [hm] at h2; cases h2
  | some m =>
   rw [hm] at h2
   simp only [Bool.and_eq_true, M.inn_iff] at h2
   obtain ⟨h3, h4⟩ := h2
   cases hc : m.Cores[y.toNat]? with
   | none => rw [hc] at h4; cases h4
   | some c =>
    rw [hc] at h4
    simp only [M.inn_iff] at h4
    exact ⟨x.toNat, y.toNat, z.toNat, m, c, by omega, by omega, by omega, hm, hc, by omega⟩
 ·rintro ⟨X, Y, Z, m, c, rfl, rfl, rfl, hm, hc, hz⟩
  have h1 := lt_of_some hm
  have h2 := lt_of_some hc
  simp only [Int.toNat_natCast, hm, hc, Bool.and_eq_true, M.inn_iff]
  omega
theorem M.plan_at {xs ys : List Machine} (hp : xs.map (·.Plan) = ys.map (·.Plan)) {k : Nat} {m : Machine} (hm : ys[k]? = some m) : ∃ m', xs[k]? = some m' ∧ m'.Plan = m.Plan := by
 have e := congrArg (fun l => l[k]?) hp
 simp only [List.getElem?_map, hm, Option.map_some] at e
 cases h : xs[k]? with
 | none => rw [h] at e; cases e
 | some m' => rw [h] at e; exact ⟨m', rfl, Option.some.inj e⟩
theorem M.MV.shape {m m' : Machine} (h : M.MV m) (h' : M.MV m') (hp : m'.Plan = m.Plan) {k : Nat} {c : Core} (hc : m.Cores[k]? = some c) : ∃ c', m'.Cores[k]? = some c' ∧ c'.Cells.length = c.Cells.length := by
 have hk := lt_of_some hc
 have n1 := h.nc
 have n2 := h'.nc
 rw [hp] at n2
 obtain ⟨c1, p1, q1, a1, a2, a3, a4, _⟩ := h.at hk
 obtain ⟨c2, p2, q2, b1, b2, b3, b4, _⟩ := h'.at (n := k) (by omega)
 rw [hc] at a1; cases a1
 rw [hp, a3] at b3; cases b3
 have e1 := (M.fits_iff.1 a4).1
 have e2 := (M.fits_iff.1 b4).1
 exact ⟨c2, b1, by omega⟩
theorem M.hc_of {b b' : Board} (h : ∀ m ∈ b.Boxes, M.MV m) (h' : ∀ m ∈ b'.Boxes, M.MV m) (hp : b'.Boxes.map (·.Plan) = b.Boxes.map (·.Plan)) {x y z : Int} (hc : M.hc b x y z = true) : M.hc b' x y z = true := by
 obtain ⟨X, Y, Z, m, c, rfl, rfl, rfl, hm, hcc, hz⟩ := M.hc_iff.1 hc
 obtain ⟨m', hm', e⟩ := M.plan_at hp hm
 obtain ⟨c', hc', e2⟩ := M.MV.shape (h m (List.mem_of_getElem? hm)) (h' m' (List.mem_of_getElem? hm')) e hcc
 exact M.hc_iff.2 ⟨X, Y, Z, m', c', rfl, rfl, rfl, hm', hc', by omega⟩
theorem M.BV.box {b : Board} (h : M.BV b) : ∀ m ∈ b.Boxes, M.MV m := fun m hm => M.mv_iff.1 (h.mv m hm)
theorem M.BV.of {b b' : Board} (h : M.BV b) (hw : b'.Wires = b.Wires) (h' : ∀ m ∈ b'.Boxes, M.MV m) (hp : b'.Boxes.map (·.Plan) = b.Boxes.map (·.Plan)) : M.BV b' where
 nb := by have := congrArg List.length hp; simp only [List.length_map] at this; rw [this]; exact h.nb
 nw := by rw [hw]; exact h.nw
 mv := fun m hm => M.mv_iff.2 (h' m hm)
 ok := fun k w hk => by
  rw [hw] at hk ⊢
  obtain ⟨h1, h2, h3⟩ := h.ok k w hk
  exact ⟨M.hc_of h.box h' hp h1, M.hc_of h.box h' hp h2, h3⟩
theorem M.BV.src {b : Board} (h : M.BV b) {k : Nat} {v : Wire} (hk : b.Wires[k]? = some v) : ∃ (X Y Z : Nat) (m : Machine) (c : Core), v.From = X ∧ v.FromPart = Y ∧ v.FromCell = Z ∧ b.Boxes[X]? = some m ∧ m.Cores[Y]? = some c ∧ Z < c.Cells.length ∧ c.Cells[Z]? = some (M.wval b v) ∧ 0 ≤ M.wval b v ∧ M.wval b v ≤ 255 := by
 obtain ⟨X, Y, Z, m, c, e1, e2, e3, hm, hc, hz⟩ := M.hc_iff.1 (h.ok k v hk).1
 have hv : c.Cells[Z]? = some (M.wval b v) := by
  unfold M.wval
  rw [e1, e2, e3]
  simp only [Int.toNat_natCast, List.getD_eq_getElem?_getD, hm, hc, Option.getD_some, List.getElem?_eq_getElem hz]
 obtain ⟨c1, p1, q1, a1, a2, a3, a4, _⟩ := (h.box m (List.mem_of_getElem? hm)).at (lt_of_some hc)
 rw [hc] at a1; cases a1
 exact ⟨X, Y, Z, m, c, e1, e2, e3, hm, hc, hz, hv, (M.fits_iff.1 a4).2.2 _ (List.mem_of_getElem? hv)⟩
theorem M.pcel_MV {m : Machine} (h : M.MV m) {y z : Nat} {c : Core} (hc : m.Cores[y]? = some c) {n : Int} (hn : 0 ≤ n ∧ n ≤ 255) : M.MV (M.pcel m y z n) := by
 obtain ⟨c1, p1, q1, a1, a2, a3, a4, _⟩ := h.at (lt_of_some hc)
 rw [hc] at a1; cases a1
 have e : m.Cores.getD y M.cz = c := by rw [List.getD_eq_getElem?_getD, hc]; rfl
 obtain ⟨f1, f2, f3⟩ := M.fits_iff.1 a4
 unfold M.pcel
 rw [e]
 exact h.set (c := { c with Cells := c.Cells.set z n }) (t := m.Tick) a2 a3 (M.fits_iff.2 ⟨by simpa using f1, f2, fun x hx => by
  rcases List.mem_or_eq_of_mem_set hx with h1 | h1
  ·exact f3 x h1
  ·rw [h1]; exact hn⟩) h.tick
theorem M.cw1_ok {b : Board} {xs : List Machine} (hx : ∀ m ∈ xs, M.MV m) {v : Wire} {X Y : Nat} {m : Machine} {c : Core} (e1 : v.To = X) (e2 : v.ToPart = Y) (hm : xs[X]? = some m) (hc : m.Cores[Y]? = some c) (hn : 0 ≤ M.wval b v ∧ M.wval b v ≤ 255) :
  (∀ m ∈ M.cw1 b xs v, M.MV m) ∧ (M.cw1 b xs v).map (·.Plan) = xs.map (·.Plan) ∧ (M.cw1 b xs v).map (·.Tick) = xs.map (·.Tick) := by
 have e : xs.getD v.To.toNat M.mz = m := by rw [e1, List.getD_eq_getElem?_getD, Int.toNat_natCast, hm]; rfl
 unfold M.cw1
 rw [e, e1, e2, Int.toNat_natCast, Int.toNat_natCast]
 refine ⟨fun m' hm' => ?_, ?_, ?_⟩
 ·rcases List.mem_or_eq_of_mem_set hm' with h1 | h1
  ·exact hx m' h1
  ·rw [h1]; exact M.pcel_MV (hx m (List.mem_of_getElem? hm)) hc hn
 all_goals
  rw [List.map_set]
  apply List.ext_getElem? fun j => ?_
  rw [List.getElem?_set]
  split
  ·rename_i ej
   subst ej
   split
   ·rename_i hl
    rw [List.getElem?_map, hm]; rfl
   ·rename_i hl
    exact (List.getElem?_eq_none (by omega)).symm
  ·rfl
theorem M.cwK_ok {b : Board} (h : M.BV b) : ∀ k, k ≤ b.Wires.length → (∀ m ∈ M.cwK b k, M.MV m) ∧ (M.cwK b k).map (·.Plan) = b.Boxes.map (·.Plan) ∧ (M.cwK b k).map (·.Tick) = b.Boxes.map (·.Tick) := by
 intro k
 induction k with
 | zero => intro _; exact ⟨h.box, rfl, rfl⟩
 | succ k ih =>
  intro hk
  obtain ⟨h1, h2, h3⟩ := ih (by omega)
  obtain ⟨v, hv⟩ : ∃ v, b.Wires[k]? = some v := ⟨_, List.getElem?_eq_getElem (by omega)⟩
  obtain ⟨_, _, _, _, _, _, _, _, _, _, _, _, hr⟩ := h.src hv
  obtain ⟨X, Y, Z, m, c, e1, e2, e3, hm, hc, hz⟩ := M.hc_iff.1 (M.hc_of (b' := ⟨M.cwK b k, b.Wires⟩) h.box h1 h2 (h.ok k v hv).2.1)
  obtain ⟨g1, g2, g3⟩ := M.cw1_ok (b := b) h1 e1 e2 hm hc hr
  rw [M.cwK_succ hv]
  exact ⟨g1, g2.trans h2, g3.trans h3⟩
theorem M.BV.dst {b : Board} (h : M.BV b) {k : Nat} {v : Wire} (hv : b.Wires[k]? = some v) : ∃ (X Y Z : Nat) (m : Machine) (c : Core), v.To = X ∧ v.ToPart = Y ∧ v.ToCell = Z ∧ (M.cwK b k)[X]? = some m ∧ m.Cores[Y]? = some c ∧ Z < c.Cells.length ∧ M.cwK b (k + 1) = (M.cwK b k).set X { m with Cores := m.Cores.set Y { c with Cells := c.Cells.set Z (M.wval b v) } } := by
 have hk := lt_of_some hv
 obtain ⟨h1, h2, h3⟩ := M.cwK_ok h k (by omega)
 obtain ⟨X, Y, Z, m, c, e1, e2, e3, hm, hc, hz⟩ := M.hc_iff.1 (M.hc_of (b' := ⟨M.cwK b k, b.Wires⟩) h.box h1 h2 (h.ok k v hv).2.1)
 refine ⟨X, Y, Z, m, c, e1, e2, e3, hm, hc, hz, ?_⟩
 rw [M.cwK_succ hv]
 simp only [M.cw1, M.pcel, e1, e2, e3, Int.toNat_natCast, List.getD_eq_getElem?_getD, Option.getD_some] at hm ⊢
 rw [hm]
 simp only [Option.getD_some, hc]
theorem M.cw_BV {b : Board} (h : M.BV b) : M.BV (M.cw b) := by
 obtain ⟨h1, h2, _⟩ := M.cwK_ok h b.Wires.length (Nat.le_refl _)
 exact h.of rfl h1 h2
theorem M.cw_len {b : Board} (h : M.BV b) : (M.cw b).Boxes.length = b.Boxes.length := by
 obtain ⟨_, h2, _⟩ := M.cwK_ok h b.Wires.length (Nat.le_refl _)
 have := congrArg List.length h2
 simp only [List.length_map] at this
 exact this
def M.fT (m : Machine) : Nat := M.fl m.Plan.Slots
def M.okF (b : Board) : Bool := b.Boxes.all fun m => decide (m.Tick + M.fT m ≤ 100000)
def M.runF (b : Board) : Board := ⟨b.Boxes.map fun m => M.run m (M.fT m), b.Wires⟩
def M.bfr (b : Board) : Board := M.cw (M.runF b)
theorem M.okF_iff {b : Board} : M.okF b = true ↔ ∀ m ∈ b.Boxes, m.Tick + M.fT m ≤ 100000 := by
 unfold M.okF; simp only [List.all_eq_true, decide_eq_true_eq]
theorem M.runF_BV {b : Board} (h : M.BV b) (ho : M.okF b = true) : M.BV (M.runF b) := by
 refine h.of rfl (fun m hm => ?_) ?_
 ·obtain ⟨m0, h0, rfl⟩ := List.mem_map.1 hm
  exact (M.run_MV (h.box m0 h0) _ (M.okF_iff.1 ho m0 h0)).1
 ·show (b.Boxes.map _).map _ = _
  rw [List.map_map]
  refine List.map_congr_left fun m0 h0 => ?_
  exact (M.run_MV (h.box m0 h0) _ (M.okF_iff.1 ho m0 h0)).2.2.1
theorem M.bfr_BV {b : Board} (h : M.BV b) (ho : M.okF b = true) : M.BV (M.bfr b) := M.cw_BV (M.runF_BV h ho)
theorem M.bfr_len {b : Board} (h : M.BV b) (ho : M.okF b = true) : (M.bfr b).Boxes.length = b.Boxes.length := by
 unfold M.bfr; rw [M.cw_len (M.runF_BV h ho)]; simp [M.runF]
theorem M.fT_le {m : Machine} (h : M.MV m) : 1 ≤ M.fT m ∧ M.fT m ≤ 240 := (M.SL.of h.ssv).fl
def M.bruns (b : Board) : Nat → Option Board
 | 0 => some b
 | k + 1 => match M.bruns b k with
  | some x => if M.okF x then some (M.bfr x) else none
  | none => none
theorem M.bruns_some {b x : Board} {k : Nat} (h : M.bruns b k = some x) (ho : M.okF x = true) : M.bruns b (k + 1) = some (M.bfr x) := by
 show (match M.bruns b k with | some x => _ | none => _) = _
 rw [h]; exact if_pos ho
theorem M.bruns_stop {b x : Board} {k : Nat} (h : M.bruns b k = some x) (ho : M.okF x = false) : M.bruns b (k + 1) = none := by
 show (match M.bruns b k with | some x => _ | none => _) = _
 rw [h]; exact if_neg (by rw [ho]; decide)
theorem M.bruns_none {b : Board} {k n : Nat} (h : M.bruns b k = none) (hn : k ≤ n) : M.bruns b n = none := by
 induction n with
 | zero =>
  obtain rfl : k = 0 := by omega
  exact h
 | succ n ih =>
  by_cases e : k = n + 1
  ·rw [← e]; exact h
  ·show (match M.bruns b n with | some x => _ | none => _) = _
   rw [ih (by omega)]
theorem M.bruns_BV {b : Board} (h : M.BV b) : ∀ {k : Nat} {x : Board}, M.bruns b k = some x → M.BV x ∧ x.Boxes.length = b.Boxes.length := by
 intro k
 induction k with
 | zero => intro x hx; cases hx; exact ⟨h, rfl⟩
 | succ k ih =>
  intro x hx
  replace hx : (match M.bruns b k with | some x => if M.okF x then some (M.bfr x) else none | none => none) = some x := hx
  cases hy : M.bruns b k with
  | none => rw [hy] at hx; cases hx
  | some y =>
   rw [hy] at hx
   obtain ⟨h1, h2⟩ := ih hy
   by_cases ho : M.okF y = true
   ·have hx2 : some (M.bfr y) = some x := (if_pos ho).symm.trans hx
    cases hx2
    exact ⟨M.bfr_BV h1 ho, (M.bfr_len h1 ho).trans h2⟩
   ·have hx2 : none = some x := (if_neg ho).symm.trans hx
    cases hx2
noncomputable def M.boardRun (b : Board) (n : Int) : Board := if M.bv b && M.inn n 0 10 then (M.bruns b n.toNat).getD M.bz else M.bz
theorem M.boardRun_t {b x : Board} {n : Nat} (h : M.bv b = true) (hn : n ≤ 10) (hx : M.bruns b n = some x) : M.boardRun b n = x := by
 have e : M.inn (n : Int) 0 10 = true := M.inn_iff.2 (by omega)
 refine (if_pos (by rw [h, e]; rfl)).trans ?_
 rw [Int.toNat_natCast, hx]; rfl
theorem M.boardRun_n {b : Board} {n : Nat} (h : M.bruns b n = none) : M.boardRun b n = M.bz := by
 unfold M.boardRun
 rw [Int.toNat_natCast, h]; split <;> rfl
theorem M.boardRun_f {b : Board} {n : Int} (h : M.bv b = false ∨ M.inn n 0 10 = false) : M.boardRun b n = M.bz := by
 refine if_neg fun k => ?_
 rw [Bool.and_eq_true] at k
 rcases h with h | h
 ·rw [h] at k; cases k.1
 ·rw [h] at k; cases k.2
theorem M.BV.tot {b : Board} (h : M.BV b) : GT.tot b ≤ 400000 := by
 have e : GT.tot b = GT.tot b.Boxes + GT.tot b.Wires := rfl
 have h1 := tot_list 100000 3 b.Boxes h.nb (fun m hm => M.mv_tot (h.box m hm))
 have h2 := tot_list 0 6 b.Wires h.nw (fun w _ => Nat.le_refl _)
 omega
noncomputable def M.frB (b : Board) : Board := if M.bv b && M.okF b then M.bfr b else M.bz
theorem M.frB_t {b : Board} (h : M.bv b = true) (ho : M.okF b = true) : M.frB b = M.bfr b := if_pos (by rw [h, ho]; rfl)
theorem M.frB_f {b : Board} (h : M.bv b = false ∨ M.okF b = false) : M.frB b = M.bz := by
 refine if_neg fun k => ?_
 rw [Bool.and_eq_true] at k
 rcases h with h | h
 ·rw [h] at k; cases k.1
 ·rw [h] at k; cases k.2
theorem M.boardRun1 (b : Board) : M.boardRun b 1 = M.frB b := by
 cases h : M.bv b
 ·rw [M.boardRun_f (.inl h), M.frB_f (.inl h)]
 ·cases ho : M.okF b
  ·rw [M.frB_f (.inr ho)]
   exact M.boardRun_n (n := 1) (M.bruns_stop (k := 0) rfl ho)
  ·rw [M.frB_t h ho]
   exact M.boardRun_t (n := 1) h (by omega) (M.bruns_some (k := 0) rfl ho)
theorem M.okF_ne {b : Board} (h : M.okF b = false) : b.Boxes.length ≠ 0 := fun e => by
 rw [List.length_eq_zero_iff] at e
 unfold M.okF at h
 rw [e] at h; cases h
theorem Om.bbox {L : Nat} {w : World} {b : Nat} {x : Board} {F : List Nat} (h : Om L w b 0 x F) {X : Nat} (hX : X < x.Boxes.length) : ∃ g s c m Fy,
  w.cell? ⟨b, 0, none⟩ = some (.slice (some ⟨g, s, none⟩) x.Boxes.length c) ∧ x.Boxes[X]? = some m ∧ Om L w g (s + X * 7) m Fy ∧ (∀ k ∈ g :: Fy, k ∈ F ∧ k ≠ b) ∧
   ∀ w' m' Fy', Chg g (s + X * 7) 7 Fy w w' → Om L w' g (s + X * 7) m' Fy' → (∀ k ∈ Fy', k ∈ Fy ∨ w.heap.size ≤ k) → ∃ F', Om L w' b 0 { x with Boxes := x.Boxes.set X m' } F' ∧ (∀ k ∈ F', k ∈ F ∨ w.heap.size ≤ k) ∧ Chg b 0 2 F w w' := by
 obtain ⟨cs, ⟨v0, v1, F0, F1, rfl, h0, h1, rfl⟩, hat, ho⟩ := id h
 obtain ⟨a0, c0, rfl, _⟩ := id h0
 obtain ⟨Fc, lc⟩ := h.lBoardBoxes
 have hv : w.cell? ⟨b, 0 + 0, none⟩ = some (.slice a0 x.Boxes.length c0) := hat 0 _ rfl
 obtain ⟨g, s, Fy, m, rfl, hx, hsub, li⟩ := (lc.om ho).idxS hv X hX
 have LC := lc.comp li
 have hs : ∀ y ∈ g :: Fy, y ∈ F0 ++ F1 ∧ y ≠ b := fun y hy => Lens.fsub lc ho y (hsub y hy)
 refine ⟨g, s, c0, m, Fy, by simpa using hv, hx.out, LC.om ho, hs, fun w' m' Fy' hc hm' hf => ?_⟩
 obtain ⟨F2, g1, g2, g3⟩ := LC.back L w' m' Fy' ho hc hm' hf
 exact ⟨F2, g1, fun k hk => (g2 k hk).elim .inl (fun e => (hf k e).elim (fun e => .inl (hs k (List.mem_cons_of_mem _ e)).1) .inr), g3⟩
theorem Om.bcell {L : Nat} {w : World} {b : Nat} {x : Board} {F : List Nat} (h : Om L w b 0 x F) {X Y Z : Nat} {m : Machine} {c : Core} (hm : x.Boxes[X]? = some m) (hc : m.Cores[Y]? = some c) (hz : Z < c.Cells.length) : ∃ g0 s0 n0 g1 s1 n1 g2 s2 n2,
  w.cell? ⟨b, 0, none⟩ = some (.slice (some ⟨g0, s0, none⟩) x.Boxes.length n0) ∧ w.cell? ⟨g0, s0 + X * 7 + 4, none⟩ = some (.slice (some ⟨g1, s1, none⟩) m.Cores.length n1) ∧ w.cell? ⟨g1, s1 + Y * 3, none⟩ = some (.slice (some ⟨g2, s2, none⟩) c.Cells.length n2) ∧
  w.cell? ⟨g2, s2 + Z, none⟩ = some (.int .i64 (c.Cells.getD Z 0)) ∧ (∀ j, w.frozen? ⟨g2, j, none⟩ = false) ∧ L ≤ g2 ∧ g2 ≠ b ∧
   ∀ u, rng u → ∃ F', Om L (w.setCell ⟨g2, s2 + Z, none⟩ (.int .i64 u)) b 0 { x with Boxes := x.Boxes.set X { m with Cores := m.Cores.set Y { c with Cells := c.Cells.set Z u } } } F' := by
 obtain ⟨g0, s0, n0, m', Fm, y0, hm', om0, sub0, back0⟩ := h.bbox (lt_of_some hm)
 obtain rfl : m' = m := Option.some.inj (hm'.symm.trans hm)
 obtain ⟨g1, s1, n1, c', Fc, y1, hc', om1, sub1, back1⟩ := om0.mcore (lt_of_some hc)
 obtain rfl : c' = c := Option.some.inj (hc'.symm.trans hc)
 obtain ⟨a2, n2, y2, _⟩ := om1.openC
 obtain ⟨g2, s2, rfl, ne2, mem2, lt2, y3, fz2, r2, put2⟩ := om1.cellC y2 Z hz
 have hF := (sub1 g2 (List.mem_cons_of_mem _ mem2)).1
 obtain ⟨_, _, _, ho⟩ := id h
 have hF2 := sub0 g2 (List.mem_cons_of_mem _ hF)
 refine ⟨g0, s0, n0, g1, s1, n1, g2, s2, n2, y0, y1, y2, y3, fz2, (ho.2 g2 (List.mem_cons_of_mem _ hF2.1)).1, hF2.2, fun u hu => ?_⟩
 obtain ⟨F3, p1, p2, p3⟩ := put2 u hu
 obtain ⟨F4, q1, q2, q3⟩ := back1 _ _ _ p3 p1 (fun y hy => .inl (p2 y hy))
 obtain ⟨F5, r1, _, _⟩ := back0 _ _ _ q3 q1 q2
 exact ⟨F5, r1⟩
theorem encBoard {w : World} {x : Board} {v0 v1 : Value} {F0 F1 : List Nat} (h0 : Sl w v0 x.Boxes F0) (h1 : Sl w v1 x.Wires F1) : GT.enc w [v0, v1] x (F0 ++ F1) := ⟨v0, v1, F0, F1, rfl, h0, h1, rfl⟩
theorem Om.openBd {L : Nat} {w : World} {b : Nat} {x : Board} {F : List Nat} (h : Om L w b 0 x F) : ∃ a0 c0 a1 c1, w.cell? ⟨b, 0, none⟩ = some (.slice a0 x.Boxes.length c0) ∧ w.cell? ⟨b, 1, none⟩ = some (.slice a1 x.Wires.length c1) ∧ Hid (GT.enc w [.slice a0 x.Boxes.length c0, .slice a1 x.Wires.length c1] x F) ∧ Hid (Own L w F) ∧ b ∉ F := by
 obtain ⟨cs, hen, hat, ho⟩ := h
 obtain ⟨v0, v1, F0, F1, rfl, h0, h1, rfl⟩ := id hen
 obtain ⟨a0, c0, rfl, _⟩ := id h0
 obtain ⟨a1, c1, rfl, _⟩ := id h1
 exact ⟨a0, c0, a1, c1, by simpa using hat 0 _ rfl, by simpa using hat 1 _ rfl, zh hen, zh ⟨(List.nodup_cons.1 ho.1).2, fun k hk => ho.2 k (List.mem_cons_of_mem _ hk)⟩, (List.nodup_cons.1 ho.1).1⟩
theorem Ov.openBd {L : Nat} {w : World} {v : Value} {x : Board} (h : Ov L w v x) : ∃ a0 c0 a1 c1 F, v = .agg #[.slice a0 x.Boxes.length c0, .slice a1 x.Wires.length c1] ∧ GT.enc w [.slice a0 x.Boxes.length c0, .slice a1 x.Wires.length c1] x F ∧ Own L w F := by
 obtain ⟨cs, F, rfl, hen, ho⟩ := h
 obtain ⟨v0, v1, F0, F1, rfl, h0, h1, rfl⟩ := id hen
 obtain ⟨a0, c0, rfl, _⟩ := id h0
 obtain ⟨a1, c1, rfl, _⟩ := id h1
 exact ⟨a0, c0, a1, c1, _, rfl, hen, ho⟩
theorem Ov.openBd2 {L : Nat} {w : World} {v : Value} {x : Board} (h : Ov L w v x) : ∃ a0 c0 a1 c1 F0 F1, v = .agg #[.slice a0 x.Boxes.length c0, .slice a1 x.Wires.length c1] ∧ Sl w (.slice a0 x.Boxes.length c0) x.Boxes F0 ∧ Sl w (.slice a1 x.Wires.length c1) x.Wires F1 ∧ (∀ k, k ∈ F0 ∨ k ∈ F1 → L ≤ k) := by
 obtain ⟨cs, F, rfl, hen, ho⟩ := h
 obtain ⟨v0, v1, F0, F1, rfl, h0, h1, rfl⟩ := id hen
 obtain ⟨a0, c0, rfl, _⟩ := id h0
 obtain ⟨a1, c1, rfl, _⟩ := id h1
 exact ⟨a0, c0, a1, c1, F0, F1, rfl, h0, h1, fun k hk => (ho.2 k (List.mem_append.2 hk)).1⟩
theorem Ov.bz (L : Nat) (w : World) : Ov L w (.agg #[.slice none 0 0, .slice none 0 0]) M.bz := ⟨_, [], rfl, GT.zero (α := Board) w, Own.nil _ _⟩
theorem Bx.openBd {L : Nat} {w : World} {b : Nat} {x : Board} {T : TypeId} (h : Bx L w b x T) : ∃ p0 q0 p1 q1 F, Bk w b [.slice p0 x.Boxes.length q0, .slice p1 x.Wires.length q1] T ∧ GT.enc w [.slice p0 x.Boxes.length q0, .slice p1 x.Wires.length q1] x F ∧ Own L w F := by
 obtain ⟨cs, F, hb, hen, ho⟩ := h
 obtain ⟨v0, v1, F0, F1, rfl, h0, h1, rfl⟩ := id hen
 obtain ⟨a0, c0, rfl, _⟩ := id h0
 obtain ⟨a1, c1, rfl, _⟩ := id h1
 exact ⟨a0, c0, a1, c1, _, hb, hen, ho⟩
def M.runK (x : Board) (k : Nat) : List Machine := (x.Boxes.take k).map (fun m => M.run m (M.fT m)) ++ x.Boxes.drop k
theorem M.runK_len (x : Board) (k : Nat) : (M.runK x k).length = x.Boxes.length := by
 simp [M.runK]; omega
theorem M.runK_zero (x : Board) : M.runK x 0 = x.Boxes := by simp [M.runK]
theorem M.runK_all (x : Board) : M.runK x x.Boxes.length = (M.runF x).Boxes := by simp [M.runK, M.runF]
theorem M.runK_at {x : Board} {k : Nat} {m : Machine} (h : x.Boxes[k]? = some m) : (M.runK x k)[k]? = some m := by
 have hk := lt_of_some h
 unfold M.runK
 rw [List.getElem?_append_right (by simp; omega)]
 simp only [List.length_map, List.length_take, Nat.min_eq_left (Nat.le_of_lt hk), Nat.sub_self, List.getElem?_drop, Nat.add_zero]
 exact h
theorem M.runK_self {x : Board} {k : Nat} {m : Machine} (h : x.Boxes[k]? = some m) : (M.runK x k).set k (M.run m 0) = M.runK x k := by
 have h1 := M.runK_at h
 apply List.ext_getElem? fun j => ?_
 rw [List.getElem?_set]
 split
 ·rename_i e
  subst e
  rw [if_pos (lt_of_some h1), h1]; rfl
 ·rfl
theorem M.runK_next {x : Board} {k : Nat} {m : Machine} (h : x.Boxes[k]? = some m) : (M.runK x k).set k (M.run m (M.fT m)) = M.runK x (k + 1) := by
 have hk := lt_of_some h
 unfold M.runK
 rw [List.set_append_right _ _ (by simp; omega), take_snoc h, List.map_append]
 have hd : x.Boxes.drop k = m :: x.Boxes.drop (k + 1) := by rw [List.drop_eq_getElem_cons hk]; congr 1; exact (List.getElem?_eq_some_iff.1 h).2
 simp [hd, Nat.min_eq_left (Nat.le_of_lt hk)]
noncomputable def M.frO (x : Board) : Board := if M.okF x then M.bfr x else M.bz
theorem M.frO_t {x : Board} (h : M.okF x = true) : M.frO x = M.bfr x := if_pos h
theorem M.frO_f {x : Board} (h : M.okF x = false) : M.frO x = M.bz := if_neg (by rw [h]; decide)
end Sk
