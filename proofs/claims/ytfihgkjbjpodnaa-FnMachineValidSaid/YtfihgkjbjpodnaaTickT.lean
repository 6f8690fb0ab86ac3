/- Contracts of functions of the given program, each under the condition that it states. -/
import Derived.Test.YtfihgkjbjpodnaaChecked
import Derived.Test.YtfihgkjbjpodnaaTickM
import Derived.Test.YtfihgkjbjpodnaaFrame
namespace Sk
open Go Go.Proofs Go.RowKit
set_option maxHeartbeats 1000000
set_option linter.unusedVariables false
set_option linter.unusedSimpArgs false
def M.stop (c : Core) : Core := { c with Stopped := true }
def M.put (c : Core) (k u : Int) : Core := { c with Cells := c.Cells.set k.toNat u }
def M.cz : Core := ⟨[], 0, false⟩
def M.sendC (ch : Channel) (h : Hold) (c : Core) (o : Order) : Core × Hold :=
 (if ch.Kind = 3 then M.put c o.B (M.send h ch.Kind ch.Size (c.Cells.getD o.B.toNat 0)).2 else c, (M.send h ch.Kind ch.Size (c.Cells.getD o.B.toNat 0)).1)
def M.takeC (ch : Channel) (h : Hold) (c : Core) (o : Order) : Core × Hold :=
 (if 0 ≤ (M.take h ch.Kind).2 then M.put c o.B (M.take h ch.Kind).2 else c, (M.take h ch.Kind).1)
theorem M.sendC_t {ch : Channel} {h : Hold} {c : Core} {o : Order} {vv r2 : Int} {r1 : Hold} (hv : c.Cells.getD o.B.toNat 0 = vv) (hk : ch.Kind = 3) (h1 : (M.send h ch.Kind ch.Size vv).1 = r1) (h2 : (M.send h ch.Kind ch.Size vv).2 = r2) : M.sendC ch h c o = (M.put c o.B r2, r1) := by
 unfold M.sendC; rw [hv, h1, h2, if_pos hk]
theorem M.sendC_f {ch : Channel} {h : Hold} {c : Core} {o : Order} {vv r2 : Int} {r1 : Hold} (hv : c.Cells.getD o.B.toNat 0 = vv) (hk : ¬ ch.Kind = 3) (h1 : (M.send h ch.Kind ch.Size vv).1 = r1) (h2 : (M.send h ch.Kind ch.Size vv).2 = r2) : M.sendC ch h c o = (c, r1) := by
 unfold M.sendC; rw [hv, h1, if_neg hk]
theorem M.takeC_t {ch : Channel} {h : Hold} {c : Core} {o : Order} {r2 : Int} {r1 : Hold} (hk : 0 ≤ r2) (h1 : (M.take h ch.Kind).1 = r1) (h2 : (M.take h ch.Kind).2 = r2) : M.takeC ch h c o = (M.put c o.B r2, r1) := by
 unfold M.takeC; rw [h1, h2, if_pos hk]
theorem M.takeC_f {ch : Channel} {h : Hold} {c : Core} {o : Order} {r2 : Int} {r1 : Hold} (hk : ¬ 0 ≤ r2) (h1 : (M.take h ch.Kind).1 = r1) (h2 : (M.take h ch.Kind).2 = r2) : M.takeC ch h c o = (c, r1) := by
 unfold M.takeC; rw [h1, h2, if_neg hk]
def M.act (cs : List Channel) (hs : List Hold) (n : Int) (c : Core) (o : Order) : Core × List Hold × Int :=
 if o.Op = 5 then
  match cs[o.A.toNat]? with
  | some ch => if ch.From = n then ((M.sendC ch (hs.getD o.A.toNat ⟨[]⟩) c o).1, hs.set o.A.toNat (M.sendC ch (hs.getD o.A.toNat ⟨[]⟩) c o).2, o.A) else (M.stop c, hs, -1)
  | none => (M.stop c, hs, -1)
 else if o.Op = 6 then
  match cs[o.A.toNat]? with
  | some ch => if ch.To = n then ((M.takeC ch (hs.getD o.A.toNat ⟨[]⟩) c o).1, hs.set o.A.toNat (M.takeC ch (hs.getD o.A.toNat ⟨[]⟩) c o).2, -1) else (M.stop c, hs, -1)
  | none => (M.stop c, hs, -1)
 else (c, hs, -1)
def M.stepAt (m : Machine) (n : Nat) : Core × Order := M.step (m.Cores.getD n M.cz) (m.Programs.getD n []) (M.own m.Plan.Slots n m.Tick)
def M.actAt (m : Machine) (n : Nat) : Core × List Hold × Int := M.act m.Plan.Channels m.Holds n (M.stepAt m n).1 (M.stepAt m n).2
def M.run1 (m : Machine) (n : Nat) : Machine := { m with Cores := m.Cores.set n (M.actAt m n).1, Holds := (M.actAt m n).2.1, Tick := m.Tick + 1 }
def M.tick (m : Machine) : Machine := if M.who m.Plan.Slots m.Tick < 0 then { m with Tick := m.Tick + 1 } else M.run1 m (M.who m.Plan.Slots m.Tick).toNat
theorem M.MV.ssv {m : Machine} (h : M.MV m) : M.ssv m.Plan.Slots m.Plan.Parts.length = true := by
 have := h.pg.set
 simp only [M.setv, Bool.and_eq_true] at this
 exact this.2.2
theorem M.MV.who {m : Machine} (h : M.MV m) (t : Int) : M.who m.Plan.Slots t = -1 ∨ ∃ n : Nat, M.who m.Plan.Slots t = n ∧ n < m.Cores.length := by
 obtain ⟨x, hx, e⟩ := M.who_mem (M.SL.of h.ssv) t
 have h1 := ((M.ssv_all h.ssv).2.2.2 x hx).2
 have h2 := h.nc
 by_cases hn : M.who m.Plan.Slots t < 0
 ·left; omega
 ·right; exact ⟨(M.who m.Plan.Slots t).toNat, by omega, by omega⟩
theorem M.MV.at {m : Machine} (h : M.MV m) {n : Nat} (hn : n < m.Cores.length) : ∃ c p q, m.Cores[n]? = some c ∧ m.Programs[n]? = some p ∧ m.Plan.Parts[n]? = some q ∧ M.fits c p.length q.Cells = true ∧ M.prv p q.Cells = true ∧ m.Cores.getD n M.cz = c ∧ m.Programs.getD n [] = p := by
 have h1 := h.nc
 have h2 := h.pg.np
 have e1 : m.Cores[n]? = some m.Cores[n] := List.getElem?_eq_getElem hn
 have e2 : m.Programs[n]? = some (m.Programs[n]'(by omega)) := List.getElem?_eq_getElem (by omega)
 have e3 : m.Plan.Parts[n]? = some (m.Plan.Parts[n]'(by omega)) := List.getElem?_eq_getElem (by omega)
 exact ⟨_, _, _, e1, e2, e3, h.fits n _ _ _ e1 e2 e3, h.pg.prv n _ _ e2 e3, by rw [List.getD_eq_getElem?_getD, e1]; rfl, by rw [List.getD_eq_getElem?_getD, e2]; rfl⟩
theorem M.hv_iff {h : Hold} {k s : Int} : M.hv h k s = true ↔ M.sized k s = true ∧ (h.Lst.length : Int) ≤ s ∧ ∀ x ∈ h.Lst, 0 ≤ x ∧ x ≤ 255 := by
 unfold M.hv
 simp only [Bool.and_eq_true, decide_eq_true_eq, M.vals_iff]
theorem M.send_hv {h : Hold} {k s u : Int} (hv : M.hv h k s = true) (hu : 0 ≤ u ∧ u ≤ 255) : M.hv (M.send h k s u).1 k s = true := by
 obtain ⟨h1, h2, h3⟩ := M.hv_iff.1 hv
 unfold M.send
 have hs := M.sized_pos h1
 split
 ·exact M.hv_iff.2 ⟨h1, by show ((1 : Nat) : Int) ≤ s; omega, fun x hx => by rw [List.mem_singleton.1 hx]; exact hu⟩
 split
 ·refine M.hv_iff.2 ⟨h1, by show (((h.Lst ++ [u]).length : Nat) : Int) ≤ s; simp; omega, fun x hx => ?_⟩
  rcases List.mem_append.1 hx with hx | hx
  ·exact h3 x hx
  ·rw [List.mem_singleton.1 hx]; exact hu
 ·exact hv
theorem M.send_bd {h : Hold} {k s u : Int} : 0 ≤ (M.send h k s u).2 ∧ (M.send h k s u).2 ≤ 1 := by
 unfold M.send
 split
 ·exact ⟨by show (0 : Int) ≤ 0; decide, by show (0 : Int) ≤ 1; decide⟩
 split
 ·exact ⟨by show (0 : Int) ≤ 0; decide, by show (0 : Int) ≤ 1; decide⟩
 ·show 0 ≤ M.bit _ ∧ M.bit _ ≤ 1
  cases (k == 3) <;> exact ⟨by decide, by decide⟩
theorem M.take_hv {h : Hold} {k s : Int} (hv : M.hv h k s = true) : M.hv (M.take h k).1 k s = true := by
 obtain ⟨h1, h2, h3⟩ := M.hv_iff.1 hv
 obtain ⟨l⟩ := h
 unfold M.take
 cases l with
 | nil => exact hv
 | cons x r =>
  simp only
  split
  ·exact hv
  ·exact M.hv_iff.2 ⟨h1, by simp at h2; show ((r.length : Nat) : Int) ≤ s; omega, fun y hy => h3 y (List.mem_cons_of_mem _ hy)⟩
theorem M.take_bd {h : Hold} {k s : Int} (hv : M.hv h k s = true) : -1 ≤ (M.take h k).2 ∧ (M.take h k).2 ≤ 255 := by
 obtain ⟨h1, h2, h3⟩ := M.hv_iff.1 hv
 obtain ⟨l⟩ := h
 unfold M.take
 cases l with
 | nil => exact ⟨by show (-1 : Int) ≤ -1; decide, by show (-1 : Int) ≤ 255; decide⟩
 | cons x r =>
  have := h3 x (List.mem_cons_self ..)
  simp only
  split
  ·exact ⟨by show -1 ≤ x; omega, this.2⟩
  ·exact ⟨by show -1 ≤ x; omega, this.2⟩
theorem M.put_fits {c : Core} {n : Nat} {q k u : Int} (h : M.fits c n q = true) (hu : 0 ≤ u ∧ u ≤ 255) : M.fits (M.put c k u) n q = true := by
 obtain ⟨h1, h2, h3⟩ := M.fits_iff.1 h
 exact M.fits_iff.2 ⟨by simpa [M.put] using h1, h2, M.vals_set h3 _ hu⟩
theorem M.stop_fits {c : Core} {n : Nat} {q : Int} (h : M.fits c n q = true) : M.fits (M.stop c) n q = true := h
theorem M.sendC_ok {ch : Channel} {h : Hold} {c : Core} {o : Order} {n : Nat} {q : Int} (hv : M.hv h ch.Kind ch.Size = true) (hf : M.fits c n q = true) :
  M.fits (M.sendC ch h c o).1 n q = true ∧ M.hv (M.sendC ch h c o).2 ch.Kind ch.Size = true := by
 obtain ⟨_, _, h3⟩ := M.fits_iff.1 hf
 refine ⟨?_, M.send_hv hv (M.vals_at h3 _)⟩
 unfold M.sendC
 simp only
 split
 ·exact M.put_fits hf (by have := M.send_bd (h := h) (k := ch.Kind) (s := ch.Size) (u := c.Cells.getD o.B.toNat 0); omega)
 ·exact hf
theorem M.takeC_ok {ch : Channel} {h : Hold} {c : Core} {o : Order} {n : Nat} {q : Int} (hv : M.hv h ch.Kind ch.Size = true) (hf : M.fits c n q = true) :
  M.fits (M.takeC ch h c o).1 n q = true ∧ M.hv (M.takeC ch h c o).2 ch.Kind ch.Size = true := by
 refine ⟨?_, M.take_hv hv⟩
 unfold M.takeC
 simp only
 split
 ·exact M.put_fits hf ⟨by assumption, (M.take_bd hv).2⟩
 ·exact hf
inductive M.Act4 (cs : List Channel) (hs : List Hold) (n : Int) (c : Core) (o : Order) : Prop
 | none (h5 : o.Op ≠ 5) (h6 : o.Op ≠ 6) (e : M.act cs hs n c o = (c, hs, -1))
 | stop (h56 : o.Op = 5 ∨ o.Op = 6) (h : cs.length ≤ o.A.toNat ∨ ∃ ch, cs[o.A.toNat]? = some ch ∧ ((o.Op = 5 ∧ ch.From ≠ n) ∨ (o.Op = 6 ∧ ch.To ≠ n))) (e : M.act cs hs n c o = (M.stop c, hs, -1))
 | send (h5 : o.Op = 5) (ch : Channel) (hc : cs[o.A.toNat]? = some ch) (hn : ch.From = n) (e : M.act cs hs n c o = ((M.sendC ch (hs.getD o.A.toNat ⟨[]⟩) c o).1, hs.set o.A.toNat (M.sendC ch (hs.getD o.A.toNat ⟨[]⟩) c o).2, o.A))
 | take (h6 : o.Op = 6) (ch : Channel) (hc : cs[o.A.toNat]? = some ch) (hn : ch.To = n) (e : M.act cs hs n c o = ((M.takeC ch (hs.getD o.A.toNat ⟨[]⟩) c o).1, hs.set o.A.toNat (M.takeC ch (hs.getD o.A.toNat ⟨[]⟩) c o).2, -1))
theorem M.act4 (cs : List Channel) (hs : List Hold) (n : Int) (c : Core) (o : Order) : M.Act4 cs hs n c o := by
 have key : ∀ k, k = o.A.toNat → (cs.length ≤ k ∧ cs[k]? = Option.none) ∨ ∃ ch, cs[k]? = some ch := fun k _ => by
  by_cases h : k < cs.length
  ·exact .inr ⟨_, List.getElem?_eq_getElem h⟩
  ·exact .inl ⟨by omega, List.getElem?_eq_none (by omega)⟩
 by_cases h5 : o.Op = 5
 ·rcases key _ rfl with ⟨hl, hc⟩ | ⟨ch, hc⟩
  ·exact .stop (.inl h5) (.inl hl) (by unfold M.act; rw [if_pos h5, hc])
  ·by_cases hn : ch.From = n
   ·exact .send h5 ch hc hn (by unfold M.act; rw [if_pos h5, hc]; exact if_pos hn)
   ·exact .stop (.inl h5) (.inr ⟨ch, hc, .inl ⟨h5, hn⟩⟩) (by unfold M.act; rw [if_pos h5, hc]; exact if_neg hn)
 by_cases h6 : o.Op = 6
 ·rcases key _ rfl with ⟨hl, hc⟩ | ⟨ch, hc⟩
  ·exact .stop (.inr h6) (.inl hl) (by unfold M.act; rw [if_neg h5, if_pos h6, hc])
  ·by_cases hn : ch.To = n
   ·exact .take h6 ch hc hn (by unfold M.act; rw [if_neg h5, if_pos h6, hc]; exact if_pos hn)
   ·exact .stop (.inr h6) (.inr ⟨ch, hc, .inr ⟨h6, hn⟩⟩) (by unfold M.act; rw [if_neg h5, if_pos h6, hc]; exact if_neg hn)
 ·exact .none h5 h6 (by unfold M.act; rw [if_neg h5, if_neg h6])
theorem M.MV.hold {m : Machine} (h : M.MV m) {k : Nat} {ch : Channel} (hc : m.Plan.Channels[k]? = some ch) : ∃ x, m.Holds[k]? = some x ∧ M.hv x ch.Kind ch.Size = true ∧ m.Holds.getD k ⟨[]⟩ = x := by
 have h1 := lt_of_some hc
 have h2 := h.nh
 have e : m.Holds[k]? = some (m.Holds[k]'(by omega)) := List.getElem?_eq_getElem (by omega)
 exact ⟨_, e, h.hv k _ _ e hc, by rw [List.getD_eq_getElem?_getD, e]; rfl⟩
theorem M.MV.set {m : Machine} (h : M.MV m) {n : Nat} {c : Core} {p : List Order} {q : Part} (hp : m.Programs[n]? = some p) (hq : m.Plan.Parts[n]? = some q) (hf : M.fits c p.length q.Cells = true) {t : Int} (ht : 0 ≤ t ∧ t ≤ 100000) : M.MV { m with Cores := m.Cores.set n c, Tick := t } where
 pg := h.pg
 nc := by simpa using h.nc
 nh := h.nh
 hv := h.hv
 tick := ht
 fits := fun k c' p' q' h1 h2 h3 => by
  simp only at h1 h2 h3
  rw [List.getElem?_set] at h1
  split at h1
  ·subst k
   split at h1
   ·cases h1
    rw [hp] at h2; rw [hq] at h3
    cases h2; cases h3
    exact hf
   ·cases h1
  ·exact h.fits k c' p' q' h1 h2 h3
theorem M.MV.setH {m : Machine} (h : M.MV m) {k : Nat} {ch : Channel} (hc : m.Plan.Channels[k]? = some ch) {x : Hold} (hv : M.hv x ch.Kind ch.Size = true) : M.MV { m with Holds := m.Holds.set k x } where
 pg := h.pg
 nc := h.nc
 nh := by simpa using h.nh
 fits := h.fits
 tick := h.tick
 hv := fun j x' c' h1 h2 => by
  simp only at h1 h2
  rw [List.getElem?_set] at h1
  split at h1
  ·subst j
   split at h1
   ·cases h1
    rw [hc] at h2; cases h2
    exact hv
   ·cases h1
  ·exact h.hv j x' c' h1 h2
theorem M.run1_MV {m : Machine} (h : M.MV m) (ht : m.Tick < 100000) {n : Nat} (hn : n < m.Cores.length) : M.MV (M.run1 m n) := by
 obtain ⟨c, p, q, h1, h2, h3, h4, h5, e1, e2⟩ := h.at hn
 have ht0 := h.tick
 have hs : M.fits (M.stepAt m n).1 p.length q.Cells = true := by
  unfold M.stepAt
  rw [e1, e2]
  exact M.step_fits h4 h5 (M.own_bd (by omega)).1
 have htk : 0 ≤ m.Tick + 1 ∧ m.Tick + 1 ≤ 100000 := by omega
 unfold M.run1 M.actAt
 rcases M.act4 m.Plan.Channels m.Holds n (M.stepAt m n).1 (M.stepAt m n).2 with ⟨_, _, e⟩ | ⟨_, _, e⟩ | ⟨_, ch, hc, _, e⟩ | ⟨_, ch, hc, _, e⟩
 ·rw [e]; exact h.set h2 h3 hs htk
 ·rw [e]; exact h.set h2 h3 (M.stop_fits hs) htk
 ·obtain ⟨x, hx, hxv, ex⟩ := h.hold hc
  rw [e, ex]
  obtain ⟨k1, k2⟩ := M.sendC_ok (o := (M.stepAt m n).2) hxv hs
  exact (h.set h2 h3 k1 htk).setH hc k2
 ·obtain ⟨x, hx, hxv, ex⟩ := h.hold hc
  rw [e, ex]
  obtain ⟨k1, k2⟩ := M.takeC_ok (o := (M.stepAt m n).2) hxv hs
  exact (h.set h2 h3 k1 htk).setH hc k2
theorem M.tick_MV {m : Machine} (h : M.MV m) (ht : m.Tick < 100000) : M.MV (M.tick m) := by
 have ht0 := h.tick
 unfold M.tick
 split
 ·exact ⟨h.pg, h.nc, h.nh, h.fits, h.hv, (by show 0 ≤ m.Tick + 1 ∧ m.Tick + 1 ≤ 100000; omega)⟩
 ·rename_i hn
  rcases h.who m.Tick with e | ⟨n, e, hl⟩
  ·omega
  ·rw [e]; exact M.run1_MV h ht hl
theorem M.tick_none {m : Machine} (h : M.who m.Plan.Slots m.Tick < 0) : M.tick m = ⟨m.Plan, m.Programs, m.Cores, m.Holds, m.Tick + 1⟩ := if_pos h
theorem M.tick_some {m : Machine} {n : Nat} (h : M.who m.Plan.Slots m.Tick = n) : M.tick m = M.run1 m n := by unfold M.tick; rw [if_neg (by omega), h]; rfl
theorem M.tick_plan (m : Machine) : (M.tick m).Plan = m.Plan := by unfold M.tick M.run1; split <;> rfl
theorem M.tick_progs (m : Machine) : (M.tick m).Programs = m.Programs := by unfold M.tick M.run1; split <;> rfl
theorem M.tick_tick (m : Machine) : (M.tick m).Tick = m.Tick + 1 := by unfold M.tick M.run1; split <;> rfl
theorem M.tick_cores (m : Machine) : (M.tick m).Cores.length = m.Cores.length := by unfold M.tick M.run1; split <;> simp
theorem M.act_len (cs : List Channel) (hs : List Hold) (n : Int) (c : Core) (o : Order) : (M.act cs hs n c o).2.1.length = hs.length := by
 rcases M.act4 cs hs n c o with ⟨_, _, e⟩ | ⟨_, _, e⟩ | ⟨_, ch, _, _, e⟩ | ⟨_, ch, _, _, e⟩ <;> rw [e] <;> simp
theorem M.tick_holds (m : Machine) : (M.tick m).Holds.length = m.Holds.length := by
 unfold M.tick M.run1; split
 ·rfl
 ·exact M.act_len _ _ _ _ _
end Sk
