/- Contracts of functions of the given program, each under the condition that it states. -/
import Derived.Test.YtbmdiefanhghcaaGreatChecked
import Derived.Deep.CutBlock
import Derived.Deep.CutRange
import Derived.Test.YtbmdiefanhghcaaGreatTickI
import Derived.Test.YtbmdiefanhghcaaGreatCopyM
import Derived.Test.YtbmdiefanhghcaaGreatNewT
namespace Sk
open Go Go.Proofs Go.RowKit
set_option maxHeartbeats 4000000
set_option maxRecDepth 100000
set_option linter.unusedVariables false
set_option linter.unusedSimpArgs false
noncomputable def M.runs (m : Machine) (t q : Int) : Bool := M.mv m && (M.inn t 0 q && decide (m.Tick + t ≤ 100000))
theorem M.runs_iff {m : Machine} {t q : Int} : M.runs m t q = true ↔ M.MV m ∧ (0 ≤ t ∧ t ≤ q) ∧ m.Tick + t ≤ 100000 := by
 unfold M.runs
 simp only [Bool.and_eq_true, M.mv_iff, M.inn_iff, decide_eq_true_eq]
def M.run (m : Machine) : Nat → Machine
 | 0 => m
 | k + 1 => M.tick (M.run m k)
theorem M.run_MV {m : Machine} (h : M.MV m) : ∀ k : Nat, m.Tick + k ≤ 100000 → M.MV (M.run m k) ∧ (M.run m k).Tick = m.Tick + k ∧ (M.run m k).Plan = m.Plan ∧ (M.run m k).Programs = m.Programs ∧ (M.run m k).Cores.length = m.Cores.length ∧ (M.run m k).Holds.length = m.Holds.length := by
 intro k
 induction k with
 | zero => intro _; exact ⟨h, (Int.add_zero _).symm, rfl, rfl, rfl, rfl⟩
 | succ k ih =>
  intro hk
  obtain ⟨h1, h2, h3, h4, h5, h6⟩ := ih (by omega)
  refine ⟨M.tick_MV h1 (by omega), ?_, ?_, ?_, ?_, ?_⟩
  ·show (M.tick _).Tick = _
   rw [M.tick_tick, h2]; show _ = m.Tick + ((k + 1 : Nat) : Int); omega
  ·show (M.tick _).Plan = _
   rw [M.tick_plan, h3]
  ·show (M.tick _).Programs = _
   rw [M.tick_progs, h4]
  ·show (M.tick _).Cores.length = _
   rw [M.tick_cores, h5]
  ·show (M.tick _).Holds.length = _
   rw [M.tick_holds, h6]
noncomputable def M.runM (m : Machine) (t : Int) : Machine := if M.runs m t 400 = true then M.run m t.toNat else M.mz
theorem M.runM_f {m : Machine} {t : Int} (h : M.runs m t 400 = false) : M.runM m t = M.mz := if_neg (fun k => by rw [h] at k; cases k)
theorem M.runM_t {m : Machine} {t : Nat} (h : M.runs m t 400 = true) : M.runM m t = M.run m t := if_pos h
noncomputable def M.tickM (m : Machine) : Machine := if M.mv m = true ∧ ¬ m.Tick = 100000 then M.tick m else M.mz
theorem M.tickM_f1 {m : Machine} (h : M.mv m = false) : M.tickM m = M.mz := if_neg (fun k => by rw [h] at k; cases k.1)
theorem M.tickM_f2 {m : Machine} (h : m.Tick = 100000) : M.tickM m = M.mz := if_neg (fun k => k.2 h)
theorem M.tickM_t {m : Machine} (h : M.mv m = true) (ht : ¬ m.Tick = 100000) : M.tickM m = M.tick m := if_pos ⟨h, ht⟩
def Bx {α : Type} [GT α] (L : Nat) (w : World) (b : Nat) (x : α) (T : TypeId) : Prop := ∃ cs F, Bk w b cs T ∧ GT.enc w cs x F ∧ Own L w F
theorem Ext.puts {a : World} {b : Nat} (hb : a.heap.size ≤ b) (cs : List Value) : ∀ {w : World} {o : Nat}, Ext a w → Ext a (putCells w b o cs) := by
 induction cs with
 | nil => intro w o h; exact h
 | cons c cs ih => intro w o h; rw [putCells]; exact ih (h.set (p := ⟨b, o, none⟩) hb c)
theorem Own.puts {L b : Nat} {F : List Nat} (cs : List Value) : ∀ {w : World} {o : Nat}, Own L w F → Own L (putCells w b o cs) F := by
 induction cs with
 | nil => intro w o h; exact h
 | cons c cs ih => intro w o h; rw [putCells]; exact ih (h.set ⟨b, o, none⟩ c)
theorem Bx.put {α : Type} [GT α] {L M : Nat} {w : World} {b : Nat} {y : α} {T : TypeId} {cs0 cs : List Value} {F : List Nat} (hb : Bk w b cs0 T) (hl : cs0.length = GT.sz α) (hy : GT.enc w cs y F) (ho : Own M w F) (hL : L ≤ M) (hM : b < M) : Bx L (putCells w b 0 cs) b y T :=
 ⟨cs, F, hb.puts cs ((GT.len hy).trans hl.symm), enc_puts hy (fun hm => by have := (ho.2 b hm).1; omega), (ho.mono hL).puts cs⟩
theorem Bx.openM {L : Nat} {w : World} {b : Nat} {m : Machine} {T : TypeId} (h : Bx L w b m T) : ∃ p0 q0 p1 q1 p2 q2 p3 q3 p4 q4 p5 q5 F,
  Bk w b [.slice p0 m.Plan.Parts.length q0, .slice p1 m.Plan.Channels.length q1, .slice p2 m.Plan.Slots.length q2, .slice p3 m.Programs.length q3, .slice p4 m.Cores.length q4, .slice p5 m.Holds.length q5, .int .i64 m.Tick] T ∧
  GT.enc w [.slice p0 m.Plan.Parts.length q0, .slice p1 m.Plan.Channels.length q1, .slice p2 m.Plan.Slots.length q2, .slice p3 m.Programs.length q3, .slice p4 m.Cores.length q4, .slice p5 m.Holds.length q5, .int .i64 m.Tick] m F ∧ Own L w F := by
 obtain ⟨cs, F, h1, h2, h3⟩ := h
 obtain ⟨v0, v1, v2, v3, v4, v5, G0, G1, G2, G3, G4, G5, rfl, ⟨t0, u0, rfl, _⟩, ⟨t1, u1, rfl, _⟩, ⟨t2, u2, rfl, _⟩, ⟨t3, u3, rfl, _⟩, ⟨t4, u4, rfl, _⟩, ⟨t5, u5, rfl, _⟩, _, _⟩ := id h2
 exact ⟨_, _, _, _, _, _, _, _, _, _, _, _, F, h1, h2, h3⟩
theorem Ov.openE {L : Nat} {w : World} {v : Value} {m : Machine} (h : Ov L w v m) : ∃ p0 q0 p1 q1 p2 q2 p3 q3 p4 q4 p5 q5 F,
  v = .agg #[.slice p0 m.Plan.Parts.length q0, .slice p1 m.Plan.Channels.length q1, .slice p2 m.Plan.Slots.length q2, .slice p3 m.Programs.length q3, .slice p4 m.Cores.length q4, .slice p5 m.Holds.length q5, .int .i64 m.Tick] ∧
  GT.enc w [.slice p0 m.Plan.Parts.length q0, .slice p1 m.Plan.Channels.length q1, .slice p2 m.Plan.Slots.length q2, .slice p3 m.Programs.length q3, .slice p4 m.Cores.length q4, .slice p5 m.Holds.length q5, .int .i64 m.Tick] m F ∧ Own L w F := by
 obtain ⟨cs, F, rfl, h2, h3⟩ := h
 obtain ⟨v0, v1, v2, v3, v4, v5, G0, G1, G2, G3, G4, G5, rfl, ⟨t0, u0, rfl, _⟩, ⟨t1, u1, rfl, _⟩, ⟨t2, u2, rfl, _⟩, ⟨t3, u3, rfl, _⟩, ⟨t4, u4, rfl, _⟩, ⟨t5, u5, rfl, _⟩, _, _⟩ := id h2
 exact ⟨_, _, _, _, _, _, _, _, _, _, _, _, F, rfl, h2, h3⟩
end Sk
