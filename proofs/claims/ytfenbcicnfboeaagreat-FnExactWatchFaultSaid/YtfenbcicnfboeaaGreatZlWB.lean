/- Contracts of functions of the given program, and lemmas for them: each theorem states the condition under which it holds. -/
import Derived.Test.YtfenbcicnfboeaaGreatChecked
import Derived.Deep.CutBlock
import Derived.Deep.CutRange
import Derived.Test.YtfenbcicnfboeaaGreatZkWch
import Derived.Test.YtfenbcicnfboeaaGreatRstT
namespace Sk
open Go Go.Proofs Go.RowKit
set_option maxHeartbeats 1600000
set_option maxRecDepth 100000
set_option linter.unusedVariables false
set_option linter.unusedSimpArgs false
/-- What a fault does to the machine; to the monitor. -/
def M.stp (m : Machine) (n : Nat) : Machine := { m with Cores := m.Cores.set n (M.stop (m.Cores.getD n M.cz)) }
def M.rs1 (m : Machine) (n : Nat) : Machine := M.rst m n (M.newCore (M.pc m n)) m.Plan.Channels.length
def M.fltB (m : Machine) (n : Nat) (a : Int) : Machine := if a = 1 then M.rs1 m n else if a = 2 then M.stp m n else m
def M.wfl (x : Watch) (t : List Int) (n : Nat) (f : Int) : Watch × Int :=
 (⟨M.fltB x.Box n (M.aft (x.States.getD n ⟨false, 0⟩) t f).2, x.States.set n (M.aft (x.States.getD n ⟨false, 0⟩) t f).1⟩, (M.aft (x.States.getD n ⟨false, 0⟩) t f).2)
theorem M.stp_MV {m : Machine} (h : M.MV m) (n : Nat) : M.MV (M.stp m n) := by
 refine ⟨h.pg, by simpa [M.stp] using h.nc, h.nh, fun k c p q hc hp hq => ?_, h.hv, h.tick⟩
 simp only [M.stp, List.getElem?_set] at hc
 split at hc
 ·rename_i e
  subst e
  split at hc
  ·rename_i hn
   obtain rfl := Option.some.inj hc
   have e : m.Cores.getD n M.cz = m.Cores[n] := by simp [List.getD_eq_getElem?_getD, hn]
   rw [e]
   have := h.fits n _ p q (List.getElem?_eq_getElem hn) hp hq
   exact this
  ·cases hc
 ·exact h.fits k c p q hc hp hq
theorem M.rs1_MV {m : Machine} (h : M.MV m) {n : Nat} (hn : n < m.Cores.length) : M.MV (M.rs1 m n) := by
 have hnp : n < m.Plan.Parts.length := by have := h.nc; omega
 have hq : m.Plan.Parts[n]? = some m.Plan.Parts[n] := List.getElem?_eq_getElem hnp
 have e : M.pc m n = (m.Plan.Parts[n]).Cells := by simp only [M.pc, List.getD_eq_getElem?_getD, hq, Option.getD_some]
 unfold M.rs1
 rw [e]
 exact M.rst_MV h hq _
theorem M.fltB_MV {m : Machine} (h : M.MV m) {n : Nat} (hn : n < m.Cores.length) (a : Int) : M.MV (M.fltB m n a) := by
 unfold M.fltB
 split
 ·exact M.rs1_MV h hn
 ·split
  ·exact M.stp_MV h n
  ·exact h
theorem M.fltB_len (m : Machine) (n : Nat) (a : Int) : (M.fltB m n a).Cores.length = m.Cores.length ∧ (M.fltB m n a).Plan = m.Plan ∧ (M.fltB m n a).Tick = m.Tick ∧ (M.fltB m n a).Holds.length = m.Holds.length := by
 unfold M.fltB
 split
 ·simp [M.rs1, M.rst, M.clrK_len]
 ·split
  ·simp [M.stp]
  ·exact ⟨rfl, rfl, rfl, rfl⟩
theorem M.wfl_WV {x : Watch} (h : M.WV x) {n : Nat} (hn : n < x.States.length) (t : List Int) (f : Int) : M.WV (M.wfl x t n f).1 := by
 have hs := h.ns
 have hnb : n < x.Box.Cores.length := by omega
 refine ⟨M.fltB_MV h.box hnb _, ?_, fun y hy => ?_⟩
 ·show (x.States.set n _).length = (M.fltB x.Box n _).Cores.length
  rw [List.length_set, (M.fltB_len _ _ _).1]
  exact hs
 ·rcases List.mem_or_eq_of_mem_set hy with hy | rfl
  ·exact h.hh y hy
  ·refine M.aft_hh (h.hh _ ?_)
   simp [List.getD_eq_getElem?_getD, hn]
/-- A monitor at (b, 0), of one's own, that came of the one at w. -/
structure M.WB (L b : Nat) (F : List Nat) (w W : World) (x : Watch) (F' : List Nat) : Prop where
 om : Om L W b 0 x F'
 ch : Chg b 0 8 F w W
 sub : ∀ k ∈ F', k ∈ F ∨ w.heap.size ≤ k
 cl : ∀ j, j ≠ 6 → W.cell? ⟨b, j, none⟩ = w.cell? ⟨b, j, none⟩
theorem M.WB.refl {L b : Nat} {F : List Nat} {w : World} {x : Watch} (h : Om L w b 0 x F) : M.WB L b F w w x F := ⟨h, Chg.refl _ _ _ _ _, fun _ h => .inl h, fun _ _ => rfl⟩
theorem M.WB.lt {L b : Nat} {F F' : List Nat} {w W : World} {x : Watch} (h : M.WB L b F w W x F') : b < W.heap.size := h.om.bk.1
theorem M.WB.fz {L b : Nat} {F F' : List Nat} {w W : World} {x : Watch} (h : M.WB L b F w W x F') : ∀ j, W.frozen? ⟨b, j, none⟩ = false := h.om.bk.2.2.2
theorem M.WB.ext {L b : Nat} {F F' : List Nat} {w W W' : World} {x : Watch} (h : M.WB L b F w W x F') (he : Ext W W') : M.WB L b F w W' x F' :=
 ⟨h.om.ext he, h.ch.tr (Chg.ofExt he h.lt), h.sub, fun j hj => (cell_ext he h.lt).trans (h.cl j hj)⟩
theorem M.WB.bk {L b : Nat} {F F' : List Nat} {w W : World} {x : Watch} (h : M.WB L b F w W x F') {k : Nat} {cs : List Value} {T : TypeId} (hk : Bk w k cs T) (hb : k ≠ b) (hF : k ∉ F) : Bk W k cs T := h.ch.bk hk hb hF
/-- The machine of a monitor. -/
theorem M.WB.box {L b : Nat} {F F' : List Nat} {w W : World} {x : Watch} (h : M.WB L b F w W x F') :
  ∃ Fm, Om L W b 0 x.Box Fm ∧ (∀ k ∈ Fm, k ∈ F' ∧ k ≠ b) ∧ ∀ W' m' Fm', M.TB L b Fm W W' m' Fm' → ∃ F2, M.WB L b F w W' { x with Box := m' } F2 := by
 obtain ⟨_, _, _, ho⟩ := id h.om
 obtain ⟨Fm, lb⟩ := h.om.lWatchBox
 refine ⟨Fm, lb.om ho, Lens.fsub lb ho, fun W' m' Fm' tb => ?_⟩
 obtain ⟨F2, h1, h2, h3⟩ := lb.back L W' m' Fm' ho tb.ch tb.om tb.sub
 refine ⟨F2, h1, h.ch.trF h3 h.sub, fun k hk => ?_, fun j hj => (tb.cl j hj).trans (h.cl j hj)⟩
 rcases h2 k hk with h4 | h4
 ·exact h.sub k h4
 ·rcases tb.sub k h4 with h5 | h5
  ·exact h.sub k (Lens.fsub lb ho k h5).1
  ·exact .inr (Nat.le_trans h.ch.sz h5)
/-- A state of a monitor. -/
theorem M.WB.st {L b : Nat} {F F' : List Nat} {w W : World} {x : Watch} (h : M.WB L b F w W x F') {g s n c N : Nat} (hv : w.cell? ⟨b, 7, none⟩ = some (.slice (some ⟨g, s, none⟩) n c)) (hN : N < x.States.length) :
  ∃ k Fy, x.States[N]? = some k ∧ Om L W g (s + N * 2) k Fy ∧ (∀ y ∈ g :: Fy, y ∈ F' ∧ y ≠ b) ∧
   ∀ W' k' Fy', Chg g (s + N * 2) 2 Fy W W' → Om L W' g (s + N * 2) k' Fy' → (∀ y ∈ Fy', y ∈ Fy ∨ W.heap.size ≤ y) → ∃ F2, M.WB L b F w W' { x with States := x.States.set N k' } F2 := by
 obtain ⟨_, _, _, ho⟩ := id h.om
 obtain ⟨Fc, lc⟩ := h.om.lWatchStates
 obtain ⟨g', s', Fy, k, e, hx, hsub, li⟩ := (lc.om ho).idxS (by rw [show 0 + 7 = 7 from rfl]; exact (h.cl 7 (by decide)).trans hv) N hN
 cases e
 have LC := lc.comp li
 have hs : ∀ y ∈ g :: Fy, y ∈ F' ∧ y ≠ b := fun y hy => Lens.fsub lc ho y (hsub y hy)
 refine ⟨k, Fy, hx.out, LC.om ho, hs, fun W' k' Fy' hc hk' hf => ?_⟩
 obtain ⟨F2, h1, h2, h3⟩ := LC.back L W' k' Fy' ho hc hk' hf
 have hb : ∀ j, W'.cell? ⟨b, j, none⟩ = W.cell? ⟨b, j, none⟩ := fun j => World.cell?_of_block (hc.keep h.lt (fun e => (hs g (List.mem_cons_self ..)).2 e.symm) (fun hm => (hs b (List.mem_cons_of_mem _ hm)).2 rfl))
 refine ⟨F2, h1, h.ch.trF h3 h.sub, fun y hy => ?_, fun j hj => (hb j).trans (h.cl j hj)⟩
 rcases h2 y hy with h4 | h4
 ·exact h.sub y h4
 ·rcases hf y h4 with h5 | h5
  ·exact h.sub y (hs y (List.mem_cons_of_mem _ h5)).1
  ·exact .inr (Nat.le_trans h.ch.sz h5)
theorem Om.openHe {L : Nat} {w : World} {b o : Nat} {x : Health} {F : List Nat} (h : Om L w b o x F) : F = [] ∧ w.cell? ⟨b, o, none⟩ = some (.bool x.Frozen) ∧ w.cell? ⟨b, o + 1, none⟩ = some (.int .i64 x.Restarts) ∧ rng x.Restarts := by
 obtain ⟨cs, ⟨rfl, r, rfl⟩, hat, _⟩ := h
 exact ⟨rfl, by simpa using hat 0 _ rfl, hat 1 _ rfl, r⟩
theorem M.WB.putSt {L b : Nat} {F F' : List Nat} {w W : World} {x : Watch} (h : M.WB L b F w W x F') {g s n c N : Nat} (hv : w.cell? ⟨b, 7, none⟩ = some (.slice (some ⟨g, s, none⟩) n c)) (hN : N < x.States.length) (k' : Health) (hr : rng k'.Restarts) :
  ∃ F2, M.WB L b F w ((W.setCell ⟨g, s + N * 2, none⟩ (.bool k'.Frozen)).setCell ⟨g, s + N * 2 + 1, none⟩ (.int .i64 k'.Restarts)) { x with States := x.States.set N k' } F2 := by
 obtain ⟨k, Fy, _, om, hs, hback⟩ := h.st hv hN
 obtain ⟨rfl, c0, c1, _⟩ := om.openHe
 obtain ⟨_, hen, hat, hown⟩ := id om
 refine hback _ k' [] (((Chg.refl _ _ _ _ _).set ⟨Nat.le_refl _, by omega⟩ _).set ⟨by omega, by omega⟩ _) ⟨[.bool k'.Frozen, .int .i64 k'.Restarts], ⟨rfl, hr, rfl⟩, ?_, (hown.set _ _).set _ _⟩ (fun x hx => by cases hx)
 intro j u hj
 match j, hj with
 | 0, hj => cases hj; exact (cell_set_other (by omega)).trans (cell_set c0)
 | 1, hj => cases hj; exact cell_set ((cell_set_other (by omega)).trans c1)
/-- A core of a monitor is stopped. -/
theorem M.WB.stop {L b : Nat} {F F' : List Nat} {w W : World} {x : Watch} (h : M.WB L b F w W x F') {g s n c N : Nat} (hv : w.cell? ⟨b, 4, none⟩ = some (.slice (some ⟨g, s, none⟩) n c)) (hN : N < x.Box.Cores.length) :
  ∃ F2, M.WB L b F w (W.setCell ⟨g, s + N * 3 + 2, none⟩ (.bool true)) { x with Box := M.stp x.Box N } F2 := by
 obtain ⟨Fm, om, _, hback⟩ := h.box
 obtain ⟨k, Fy, hk, omc, hs, hb2⟩ := (M.TB.refl om).core ((h.cl 4 (by decide)).trans hv) hN
 obtain ⟨_, _, _, hoc⟩ := id omc
 obtain ⟨Fs, ls⟩ := omc.lCoreStopped
 obtain ⟨F3, h1, h2, h3⟩ := ls.putB hoc true
 have e : x.Box.Cores.getD N M.cz = k := by rw [List.getD_eq_getElem?_getD, hk]; rfl
 obtain ⟨F4, tb⟩ := hb2 _ _ _ h3 h1 (fun y hy => .inl (h2 y hy))
 unfold M.stp
 rw [e]
 exact hback _ _ _ tb
theorem Om.wcells {L b : Nat} {F : List Nat} {w : World} {x : Watch} (h : Om L w b 0 x F) {N : Nat} (hN : N < x.States.length) (hC : N < x.Box.Cores.length) :
  ∃ g7 s7 u7 g4 s4 u4, w.cell? ⟨b, 7, none⟩ = some (.slice (some ⟨g7, s7, none⟩) x.States.length u7) ∧ w.cell? ⟨b, 4, none⟩ = some (.slice (some ⟨g4, s4, none⟩) x.Box.Cores.length u4) := by
 obtain ⟨_, _, _, ho⟩ := id h
 obtain ⟨F7, l7⟩ := h.lWatchStates
 obtain ⟨a7, u7, e7, _⟩ := (l7.om ho).cell
 obtain ⟨g7, s7, _, _, e, _⟩ := (l7.om ho).idxS e7 N hN
 subst e
 obtain ⟨Fm, lb⟩ := h.lWatchBox
 obtain ⟨_, _, _, ho2⟩ := id (lb.om ho)
 obtain ⟨F4, l4⟩ := (lb.om ho).lMachineCores
 obtain ⟨a4, u4, e4, _⟩ := (l4.om ho2).cell
 obtain ⟨g4, s4, _, _, e, _⟩ := (l4.om ho2).idxS e4 N hC
 subst e
 exact ⟨g7, s7, u7, g4, s4, u4, e7, e4⟩
theorem M.aft_rng {h : Health} {t : List Int} {f : Int} (hv : M.hh h = true) : rng (M.aft h t f).1.Restarts := by
 have := (M.hh_iff.1 (M.aft_hh (t := t) (f := f) hv)).1
 exact ⟨by omega, by omega⟩
end Sk
