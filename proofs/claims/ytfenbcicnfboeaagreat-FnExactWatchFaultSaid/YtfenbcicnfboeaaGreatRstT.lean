/- Contracts of functions of the given program, and lemmas for them: each theorem states the condition under which it holds. -/
import Derived.Test.YtfenbcicnfboeaaGreatChecked
import Derived.Deep.CutBlock
import Derived.Deep.CutRange
import Derived.Test.YtfenbcicnfboeaaGreatRst
import Derived.Test.YtfenbcicnfboeaaGreatNewC
import Derived.Test.YtfenbcicnfboeaaGreatMachV
import Derived.Test.YtfenbcicnfboeaaGreatFrame
import Derived.Test.YtfenbcicnfboeaaGreatValid
import Derived.Test.YtfenbcicnfboeaaGreatBuild
import Derived.Test.YtfenbcicnfboeaaGreatRds
import Derived.Test.YtfenbcicnfboeaaGreatApp
import Derived.Test.YtfenbcicnfboeaaGreatScal
import Derived.Test.YtfenbcicnfboeaaGreatRefc
import Derived.Test.YtfenbcicnfboeaaGreatChan
import Derived.Test.YtfenbcicnfboeaaGreatNums
import Derived.Test.YtfenbcicnfboeaaGreatFind
import Derived.Test.YtfenbcicnfboeaaGreatTot
import Derived.Test.YtfenbcicnfboeaaGreatAcc
import Derived.Test.YtfenbcicnfboeaaGreatFld
import Derived.Test.YtfenbcicnfboeaaGreatCopyM
import Derived.Test.YtfenbcicnfboeaaGreatCopy
import Derived.Test.YtfenbcicnfboeaaGreatFlows
namespace Sk
open Go Go.Proofs Go.RowKit
set_option maxHeartbeats 1000000
set_option maxRecDepth 100000
set_option linter.unusedVariables false
set_option linter.unusedSimpArgs false
theorem M.clrK_get (n : Nat) (cs : List Channel) (hs : List Hold) (K : Nat) : ∀ (k : Nat) (h : Hold), (M.clrK n cs hs K)[k]? = some h → h = ⟨[]⟩ ∨ hs[k]? = some h := by
 induction K with
 | zero => intro k h hk; exact .inr hk
 | succ K ih =>
  intro k h hk
  rw [M.clrK_succ] at hk
  unfold M.clr1 at hk
  split at hk
  ·rw [List.getElem?_set] at hk
   split at hk
   ·split at hk
    ·exact .inl (Option.some.inj hk).symm
    ·cases hk
   ·exact ih k h hk
  ·exact ih k h hk
theorem M.fits_new {p : List Order} {c : Int} (h : M.prv p c = true) : M.fits (M.newCore c) p.length c = true := by
 have hb := M.prv_bd h
 obtain ⟨n, hn⟩ : ∃ n : Nat, c = n := ⟨c.toNat, by omega⟩
 subst hn
 rw [M.newCore_t (M.inn_iff.2 hb.2)]
 simp only [M.fits, M.vals, Bool.and_eq_true, M.inn_iff, List.all_eq_true, List.length_replicate, beq_self_eq_true]
 refine ⟨trivial, ⟨by omega, by omega⟩, fun x hx => ?_⟩
 obtain rfl := List.eq_of_mem_replicate hx
 exact ⟨by decide, by decide⟩
theorem M.rst_MV {m : Machine} (h : M.MV m) {n : Nat} {q : Part} (hq : m.Plan.Parts[n]? = some q) (K : Nat) : M.MV (M.rst m n (M.newCore q.Cells) K) := by
 refine ⟨h.pg, by simpa [M.rst] using h.nc, by simpa [M.rst, M.clrK_len] using h.nh, ?_, ?_, h.tick⟩
 ·intro k c p r hc hp hr
  simp only [M.rst] at hc hp hr
  rw [List.getElem?_set] at hc
  split at hc
  ·rename_i e
   subst e
   split at hc
   ·obtain rfl := Option.some.inj hc
    rw [hq] at hr
    obtain rfl := Option.some.inj hr
    exact M.fits_new (h.pg.prv n p q hp hq)
   ·cases hc
  ·exact h.fits k c p r hc hp hr
 ·intro k x c hx hc
  simp only [M.rst] at hx hc
  rcases M.clrK_get _ _ _ _ k x hx with rfl | hx
  ·have hz := M.setv_sized h.pg.set hc
   have hp := M.sized_pos hz
   simp only [M.hv, hz, M.vals, List.all_nil, Bool.and_true, Bool.true_and, List.length_nil, decide_eq_true_eq]
   omega
  ·exact h.hv k x c hx hc
end Sk
namespace Sk
open Go Go.Proofs Go.RowKit
set_option maxHeartbeats 1000000
set_option linter.unusedVariables false
set_option linter.unusedSimpArgs false
theorem Lens.putB {α : Type} [GT α] {L : Nat} {w : World} {b o : Nat} {x : α} {F : List Nat} {b' o' : Nat} {y : Bool} {Fy : List Nat} {put : Bool → α} (h : Lens w b o x F b' o' y Fy put) (ho : Own L w (b :: F)) (u : Bool) :
  ∃ F', Om L (w.setCell ⟨b', o', none⟩ (.bool u)) b o (put u) F' ∧ (∀ k ∈ F', k ∈ F) ∧ Chg b o (GT.sz α) F w (w.setCell ⟨b', o', none⟩ (.bool u)) := by
 obtain ⟨cs, ⟨rfl, rfl⟩, hat⟩ := h.enc
 have h0 := hat 0 _ rfl
 rw [Nat.add_zero] at h0
 have hbo : Own L w [b'] := ⟨by simp, fun k hk => ho.2 k (h.sub k hk)⟩
 obtain ⟨F', h1, h2, h3⟩ := h.back L _ u [] ho ((Chg.refl b' o' 1 [] w).set ⟨Nat.le_refl _, by omega⟩ (.bool u)) ⟨[.bool u], ⟨rfl, rfl⟩, fun j v hj => by
  match j, hj with
  | 0, hj => cases hj; exact cell_set h0, hbo.set _ _⟩ (fun k hk => by cases hk)
 exact ⟨F', h1, fun k hk => (h2 k hk).elim (fun h => h) (fun h => by cases h), h3⟩
/-- What a core of one's own looks like. -/
theorem Om.openC {L : Nat} {w : World} {b o : Nat} {c : Core} {F : List Nat} (h : Om L w b o c F) : ∃ a0 c0, w.cell? ⟨b, o, none⟩ = some (.slice a0 c.Cells.length c0) ∧ w.cell? ⟨b, o + 1, none⟩ = some (.int .i64 c.At) ∧ w.cell? ⟨b, o + 2, none⟩ = some (.bool c.Stopped) ∧ Rs w (.slice a0 c.Cells.length c0) c.Cells ∧ rng c.At := by
 obtain ⟨cs, ⟨v0, rfl, h0, h1⟩, hat, ho⟩ := h
 obtain ⟨a0, c0, rfl, _⟩ := id h0
 exact ⟨a0, c0, by simpa using hat 0 _ rfl, by simpa using hat 1 _ rfl, by simpa using hat 2 _ rfl, ⟨_, h0⟩, h1⟩
end Sk
namespace Sk
open Go Go.Proofs Go.RowKit
set_option maxHeartbeats 1000000
set_option linter.unusedVariables false
set_option linter.unusedSimpArgs false
def M.stop (c : Core) : Core := { c with Stopped := true }
def M.cz : Core := ⟨[], 0, false⟩
end Sk
namespace Sk
open Go Go.Proofs Go.RowKit
set_option maxHeartbeats 1000000
set_option linter.unusedVariables false
set_option linter.unusedSimpArgs false
/-- A machine at (b, 0), of one's own, that came of the one at w: what may have turned, and what has not. -/
structure M.TB (L b : Nat) (F : List Nat) (w W : World) (m : Machine) (F' : List Nat) : Prop where
 om : Om L W b 0 m F'
 ch : Chg b 0 7 F w W
 sub : ∀ k ∈ F', k ∈ F ∨ w.heap.size ≤ k
 cl : ∀ j, j ≠ 6 → W.cell? ⟨b, j, none⟩ = w.cell? ⟨b, j, none⟩
theorem M.TB.refl {L b : Nat} {F : List Nat} {w : World} {m : Machine} (h : Om L w b 0 m F) : M.TB L b F w w m F := ⟨h, Chg.refl _ _ _ _ _, fun _ h => .inl h, fun _ _ => rfl⟩
theorem M.TB.lt {L b : Nat} {F F' : List Nat} {w W : World} {m : Machine} (h : M.TB L b F w W m F') : b < W.heap.size := h.om.bk.1
/-- The core of a partition. -/
theorem M.TB.core {L b : Nat} {F F' : List Nat} {w W : World} {m : Machine} (h : M.TB L b F w W m F') {g s n c N : Nat} (hv : w.cell? ⟨b, 4, none⟩ = some (.slice (some ⟨g, s, none⟩) n c)) (hN : N < m.Cores.length) :
  ∃ k Fy, m.Cores[N]? = some k ∧ Om L W g (s + N * 3) k Fy ∧ (∀ x ∈ g :: Fy, x ∈ F' ∧ x ≠ b) ∧
   ∀ W' k' Fy', Chg g (s + N * 3) 3 Fy W W' → Om L W' g (s + N * 3) k' Fy' → (∀ x ∈ Fy', x ∈ Fy ∨ W.heap.size ≤ x) → ∃ F2, M.TB L b F w W' { m with Cores := m.Cores.set N k' } F2 := by
 obtain ⟨_, _, _, ho⟩ := id h.om
 obtain ⟨Fc, lc⟩ := h.om.lMachineCores
 obtain ⟨g', s', Fy, k, e, hx, hsub, li⟩ := (lc.om ho).idxS (by rw [show 0 + 4 = 4 from rfl]; exact (h.cl 4 (by decide)).trans hv) N hN
 cases e
 have LC := lc.comp li
 have hs : ∀ x ∈ g :: Fy, x ∈ F' ∧ x ≠ b := fun x hx => Lens.fsub lc ho x (hsub x hx)
 refine ⟨k, Fy, hx.out, LC.om ho, hs, fun W' k' Fy' hc hk' hf => ?_⟩
 obtain ⟨F2, h1, h2, h3⟩ := LC.back L W' k' Fy' ho hc hk' hf
 have hb : ∀ j, W'.cell? ⟨b, j, none⟩ = W.cell? ⟨b, j, none⟩ := fun j => World.cell?_of_block (hc.keep h.lt (fun e => (hs g (List.mem_cons_self ..)).2 e.symm) (fun hm => (hs b (List.mem_cons_of_mem _ hm)).2 rfl))
 refine ⟨F2, h1, h.ch.trF h3 h.sub, fun x hx => ?_, fun j hj => (hb j).trans (h.cl j hj)⟩
 rcases h2 x hx with h4 | h4
 ·exact h.sub x h4
 ·rcases hf x h4 with h5 | h5
  ·exact h.sub x (hs x (List.mem_cons_of_mem _ h5)).1
  ·exact .inr (Nat.le_trans h.ch.sz h5)
end Sk
namespace Sk
open Go Go.Proofs Go.RowKit
set_option maxHeartbeats 4000000
set_option maxRecDepth 100000
set_option linter.unusedVariables false
set_option linter.unusedSimpArgs false
theorem Ext.puts {a : World} {b : Nat} (hb : a.heap.size ≤ b) (cs : List Value) : ∀ {w : World} {o : Nat}, Ext a w → Ext a (putCells w b o cs) := by
 induction cs with
 | nil => intro w o h; exact h
 | cons c cs ih => intro w o h; rw [putCells]; exact ih (h.set (p := ⟨b, o, none⟩) hb c)
theorem Own.puts {L b : Nat} {F : List Nat} (cs : List Value) : ∀ {w : World} {o : Nat}, Own L w F → Own L (putCells w b o cs) F := by
 induction cs with
 | nil => intro w o h; exact h
 | cons c cs ih => intro w o h; rw [putCells]; exact ih (h.set ⟨b, o, none⟩ c)
theorem Ov.openE {L : Nat} {w : World} {v : Value} {m : Machine} (h : Ov L w v m) : ∃ p0 q0 p1 q1 p2 q2 p3 q3 p4 q4 p5 q5 F,
  v = .agg #[.slice p0 m.Plan.Parts.length q0, .slice p1 m.Plan.Channels.length q1, .slice p2 m.Plan.Slots.length q2, .slice p3 m.Programs.length q3, .slice p4 m.Cores.length q4, .slice p5 m.Holds.length q5, .int .i64 m.Tick] ∧
  GT.enc w [.slice p0 m.Plan.Parts.length q0, .slice p1 m.Plan.Channels.length q1, .slice p2 m.Plan.Slots.length q2, .slice p3 m.Programs.length q3, .slice p4 m.Cores.length q4, .slice p5 m.Holds.length q5, .int .i64 m.Tick] m F ∧ Own L w F := by
 obtain ⟨cs, F, rfl, h2, h3⟩ := h
 obtain ⟨v0, v1, v2, v3, v4, v5, G0, G1, G2, G3, G4, G5, rfl, ⟨t0, u0, rfl, _⟩, ⟨t1, u1, rfl, _⟩, ⟨t2, u2, rfl, _⟩, ⟨t3, u3, rfl, _⟩, ⟨t4, u4, rfl, _⟩, ⟨t5, u5, rfl, _⟩, _, _⟩ := id h2
 exact ⟨_, _, _, _, _, _, _, _, _, _, _, _, F, rfl, h2, h3⟩
end Sk
namespace Sk
open Go Go.Proofs Go.RowKit
set_option maxHeartbeats 1600000
set_option maxRecDepth 100000
set_option linter.unusedVariables false
set_option linter.unusedSimpArgs false
/-- The cells of a partition. -/
def M.pc (m : Machine) (k : Nat) : Int := (m.Plan.Parts.getD k ⟨[], 0⟩).Cells
end Sk
