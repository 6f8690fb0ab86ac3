/- Contracts of functions of the given program, each under the condition that it states. -/
import Derived.Test.YtbmdiefanhghcaaGreatChecked
import Derived.Deep.CutBlock
import Derived.Deep.CutRange
import Derived.Test.YtbmdiefanhghcaaGreatZkWch
import Derived.Test.YtbmdiefanhghcaaGreatZgFgT
import Derived.Test.YtbmdiefanhghcaaGreatRst
import Derived.Test.YtbmdiefanhghcaaGreatL18M
import Derived.Test.YtbmdiefanhghcaaGreatRsP
namespace Sk
open Go Go.Proofs Go.RowKit
set_option maxHeartbeats 1600000
set_option maxRecDepth 100000
set_option linter.unusedVariables false
set_option linter.unusedSimpArgs false
def M.stp (m : Machine) (n : Nat) : Machine := { m with Cores := m.Cores.set n (M.stop (m.Cores.getD n M.cz)) }
def M.rs1 (m : Machine) (n : Nat) : Machine := M.rst m n (M.newCore (M.pc m n)) m.Plan.Channels.length
def M.fltB (m : Machine) (n : Nat) (a : Int) : Machine := if a = 1 then M.rs1 m n else if a = 2 then M.stp m n else m
def M.wfl (x : Watch) (t : List Int) (n : Nat) (f : Int) : Watch × Int :=
 (⟨M.fltB x.Box n (M.aft (x.States.getD n ⟨false, 0⟩) t f).2, x.States.set n (M.aft (x.States.getD n ⟨false, 0⟩) t f).1⟩, (M.aft (x.States.getD n ⟨false, 0⟩) t f).2)
theorem M.stp_MV {m : Machine} (h : M.MV m) (n : Nat) : M.MV (M.stp m n) := by
 refine ⟨h.pg, by simpa [M.stp] using h.nc, h.nh, fun k c p q hc hp hq => ?_, h.hv, h.tick⟩
 simp only [M.stp, List.getElem?_set] at hc
 split at hc
 ·rename_i e
  subst e
  split at hc
  ·rename_i hn
   obtain rfl := Option.some.inj hc
   have e : m.Cores.getD n M.cz = m.Cores[n] := by simp [List.getD_eq_getElem?_getD, hn]
   rw [e]
   have := h.fits n _ p q (List.getElem?_eq_getElem hn) hp hq
   exact this
  ·cases hc
 ·exact h.fits k c p q hc hp hq
theorem M.rs1_MV {m : Machine} (h : M.MV m) {n : Nat} (hn : n < m.Cores.length) : M.MV (M.rs1 m n) := by
 have hnp : n < m.Plan.Parts.length := by have := h.nc; omega
 have hq : m.Plan.Parts[n]? = some m.Plan.Parts[n] := List.getElem?_eq_getElem hnp
 have e : M.pc m n = (m.Plan.Parts[n]).Cells := by simp only [M.pc, List.getD_eq_getElem?_getD, hq, Option.getD_some]
 unfold M.rs1
 rw [e]
 exact M.rst_MV h hq _
theorem M.fltB_MV {m : Machine} (h : M.MV m) {n : Nat} (hn : n < m.Cores.length) (a : Int) : M.MV (M.fltB m n a) := by
 unfold M.fltB
 split
 ·exact M.rs1_MV h hn
 ·split
  ·exact M.stp_MV h n
  ·exact h
theorem M.fltB_len (m : Machine) (n : Nat) (a : Int) : (M.fltB m n a).Cores.length = m.Cores.length ∧ (M.fltB m n a).Plan = m.Plan ∧ (M.fltB m n a).Tick = m.Tick ∧ (M.fltB m n a).Holds.length = m.Holds.length := by
 unfold M.fltB
 split
 ·simp [M.rs1, M.rst, M.clrK_len]
 ·split
  ·simp [M.stp]
  ·exact ⟨rfl, rfl, rfl, rfl⟩
theorem M.wfl_WV {x : Watch} (h : M.WV x) {n : Nat} (hn : n < x.States.length) (t : List Int) (f : Int) : M.WV (M.wfl x t n f).1 := by
 have hs := h.ns
 have hnb : n < x.Box.Cores.length := by omega
 refine ⟨M.fltB_MV h.box hnb _, ?_, fun y hy => ?_⟩
 ·show (x.States.set n _).length = (M.fltB x.Box n _).Cores.length
  rw [List.length_set, (M.fltB_len _ _ _).1]
  exact hs
 ·rcases List.mem_or_eq_of_mem_set hy with hy | rfl
  ·exact h.hh y hy
  ·refine M.aft_hh (h.hh _ ?_)
   simp [List.getD_eq_getElem?_getD, hn]
structure M.WB (L b : Nat) (F : List Nat) (w W : World) (x : Watch) (F' : List Nat) : Prop where
 om : Om L W b 0 x F'
 ch : Chg b 0 8 F w W
 sub : ∀ k ∈ F', k ∈ F ∨ w.heap.size ≤ k
 cl : ∀ j, j ≠ 6 → W.cell? ⟨b, j, none⟩ = w.cell? ⟨b, j, none⟩
theorem M.WB.refl {L b : Nat} {F : List Nat} {w : World} {x : Watch} (h : Om L w b 0 x F) : M.WB L b F w w x F := ⟨h, Chg.refl _ _ _ _ _, fun _ h => .inl h, fun _ _ => rfl⟩
theorem M.WB.lt {L b : Nat} {F F' : List Nat} {w W : World} {x : Watch} (h : M.WB L b F w W x F') : b < W.heap.size := h.om.bk.1
theorem M.WB.fz {L b : Nat} {F F' : List Nat} {w W : World} {x : Watch} (h : M.WB L b F w W x F') : ∀ j, W.frozen? ⟨b, j, none⟩ = false := h.om.bk.2.2.2
theorem M.WB.ext {L b : Nat} {F F' : List Nat} {w W W' : World} {x : Watch} (h : M.WB L b F w W x F') (he : Ext W W') : M.WB L b F w W' x F' :=
 ⟨h.om.ext he, h.ch.tr (Chg.ofExt he h.lt), h.sub, fun j hj => (cell_ext he h.lt).trans (h.cl j hj)⟩
theorem M.WB.trans {L b : Nat} {F F1 F2 : List Nat} {w W W' : World} {x x' : Watch} (h : M.WB L b F w W x F1) (k : M.WB L b F1 W W' x' F2) : M.WB L b F w W' x' F2 :=
 ⟨k.om, h.ch.trF k.ch h.sub, fun y hy => (k.sub y hy).elim (fun h1 => h.sub y h1) (fun h1 => .inr (Nat.le_trans h.ch.sz h1)), fun j hj => (k.cl j hj).trans (h.cl j hj)⟩
theorem M.WB.bk {L b : Nat} {F F' : List Nat} {w W : World} {x : Watch} (h : M.WB L b F w W x F') {k : Nat} {cs : List Value} {T : TypeId} (hk : Bk w k cs T) (hb : k ≠ b) (hF : k ∉ F) : Bk W k cs T := h.ch.bk hk hb hF
theorem M.WB.box {L b : Nat} {F F' : List Nat} {w W : World} {x : Watch} (h : M.WB L b F w W x F') :
  ∃ Fm, Om L W b 0 x.Box Fm ∧ (∀ k ∈ Fm, k ∈ F' ∧ k ≠ b) ∧ ∀ W' m' Fm', M.TB L b Fm W W' m' Fm' → ∃ F2, M.WB L b F w W' { x with Box := m' } F2 := by
 obtain ⟨_, _, _, ho⟩ := id h.om
 obtain ⟨Fm, lb⟩ := h.om.lWatchBox
 refine ⟨Fm, lb.om ho, Lens.fsub lb ho, fun W' m' Fm' tb => ?_⟩
 obtain ⟨F2, h1, h2, h3⟩ := lb.back L W' m' Fm' ho tb.ch tb.om tb.sub
 refine ⟨F2, h1, h.ch.trF h3 h.sub, fun k hk => ?_, fun j hj => (tb.cl j hj).trans (h.cl j hj)⟩
 rcases h2 k hk with h4 | h4
 ·exact h.sub k h4
 ·rcases tb.sub k h4 with h5 | h5
  ·exact h.sub k (Lens.fsub lb ho k h5).1
  ·exact .inr (Nat.le_trans h.ch.sz h5)
theorem M.WB.st {L b : Nat} {F F' : List Nat} {w W : World} {x : Watch} (h : M.WB L b F w W x F') {g s n c N : Nat} (hv : w.cell? ⟨b, 7, none⟩ = some (.slice (some ⟨g, s, none⟩) n c)) (hN : N < x.States.length) :
  ∃ k Fy, x.States[N]? = some k ∧ Om L W g (s + N * 2) k Fy ∧ (∀ y ∈ g :: Fy, y ∈ F' ∧ y ≠ b) ∧
   ∀ W' k' Fy', Chg g (s + N * 2) 2 Fy W W' → Om L W' g (s + N * 2) k' Fy' → (∀ y ∈ Fy', y ∈ Fy ∨ W.heap.size ≤ y) → ∃ F2, M.WB L b F w W' { x with States := x.States.set N k' } F2 := by
 obtain ⟨_, _, _, ho⟩ := id h.om
 obtain ⟨Fc, lc⟩ := h.om.lWatchStates
 obtain ⟨g', s', Fy, k, e, hx, hsub, li⟩ := (lc.om ho).idxS (by rw [show 0 + 7 = 7 from rfl]; exact (h.cl 7 (by decide)).trans hv) N hN
 cases e
 have LC := lc.comp li
 have hs : ∀ y ∈ g :: Fy, y ∈ F' ∧ y ≠ b := fun y hy => Lens.fsub lc ho y (hsub y hy)
 refine ⟨k, Fy, hx.out, LC.om ho, hs, fun W' k' Fy' hc hk' hf => ?_⟩
 obtain ⟨F2, h1, h2, h3⟩ := LC.back L W' k' Fy' ho hc hk' hf
 have hb : ∀ j, W'.cell? ⟨b, j, none⟩ = W.cell? ⟨b, j, none⟩ := fun j => World.cell?_of_block (hc.keep h.lt (fun e => (hs g (List.mem_cons_self ..)).2 e.symm) (fun hm => (hs b (List.mem_cons_of_mem _ hm)).2 rfl))
 refine ⟨F2, h1, h.ch.trF h3 h.sub, fun y hy => ?_, fun j hj => (hb j).trans (h.cl j hj)⟩
 rcases h2 y hy with h4 | h4
 ·exact h.sub y h4
 ·rcases hf y h4 with h5 | h5
  ·exact h.sub y (hs y (List.mem_cons_of_mem _ h5)).1
  ·exact .inr (Nat.le_trans h.ch.sz h5)
theorem Om.openHe {L : Nat} {w : World} {b o : Nat} {x : Health} {F : List Nat} (h : Om L w b o x F) : F = [] ∧ w.cell? ⟨b, o, none⟩ = some (.bool x.Frozen) ∧ w.cell? ⟨b, o + 1, none⟩ = some (.int .i64 x.Restarts) ∧ rng x.Restarts := by
 obtain ⟨cs, ⟨rfl, r, rfl⟩, hat, _⟩ := h
 exact ⟨rfl, by simpa using hat 0 _ rfl, hat 1 _ rfl, r⟩
theorem M.WB.putSt {L b : Nat} {F F' : List Nat} {w W : World} {x : Watch} (h : M.WB L b F w W x F') {g s n c N : Nat} (hv : w.cell? ⟨b, 7, none⟩ = some (.slice (some ⟨g, s, none⟩) n c)) (hN : N < x.States.length) (k' : Health) (hr : rng k'.Restarts) :
  ∃ F2, M.WB L b F w ((W.setCell ⟨g, s + N * 2, none⟩ (.bool k'.Frozen)).setCell ⟨g, s + N * 2 + 1, none⟩ (.int .i64 k'.Restarts)) { x with States := x.States.set N k' } F2 := by
 obtain ⟨k, Fy, _, om, hs, hback⟩ := h.st hv hN
 obtain ⟨rfl, c0, c1, _⟩ := om.openHe
 obtain ⟨_, hen, hat, hown⟩ := id om
 refine hback _ k' [] (((Chg.refl _ _ _ _ _).set ⟨Nat.le_refl _, by omega⟩ _).set ⟨by omega, by omega⟩ _) ⟨[.bool k'.Frozen, .int .i64 k'.Restarts], ⟨rfl, hr, rfl⟩, ?_, (hown.set _ _).set _ _⟩ (fun x hx => by cases hx)
 intro j u hj
 match j, hj with
 | 0, hj => cases hj; exact (cell_set_other (by omega)).trans (cell_set c0)
 | 1, hj => cases hj; exact cell_set ((cell_set_other (by omega)).trans c1)
theorem M.WB.stop {L b : Nat} {F F' : List Nat} {w W : World} {x : Watch} (h : M.WB L b F w W x F') {g s n c N : Nat} (hv : w.cell? ⟨b, 4, none⟩ = some (.slice (some ⟨g, s, none⟩) n c)) (hN : N < x.Box.Cores.length) :
  ∃ F2, M.WB L b F w (W.setCell ⟨g, s + N * 3 + 2, none⟩ (.bool true)) { x with Box := M.stp x.Box N } F2 := by
 obtain ⟨Fm, om, _, hback⟩ := h.box
 obtain ⟨k, Fy, hk, omc, hs, hb2⟩ := (M.TB.refl om).core ((h.cl 4 (by decide)).trans hv) hN
 obtain ⟨_, _, _, hoc⟩ := id omc
 obtain ⟨Fs, ls⟩ := omc.lCoreStopped
 obtain ⟨F3, h1, h2, h3⟩ := ls.putB hoc true
 have e : x.Box.Cores.getD N M.cz = k := by rw [List.getD_eq_getElem?_getD, hk]; rfl
 obtain ⟨F4, tb⟩ := hb2 _ _ _ h3 h1 (fun y hy => .inl (h2 y hy))
 unfold M.stp
 rw [e]
 exact hback _ _ _ tb
theorem Om.wcells {L b : Nat} {F : List Nat} {w : World} {x : Watch} (h : Om L w b 0 x F) {N : Nat} (hN : N < x.States.length) (hC : N < x.Box.Cores.length) :
  ∃ g7 s7 u7 g4 s4 u4, w.cell? ⟨b, 7, none⟩ = some (.slice (some ⟨g7, s7, none⟩) x.States.length u7) ∧ w.cell? ⟨b, 4, none⟩ = some (.slice (some ⟨g4, s4, none⟩) x.Box.Cores.length u4) := by
 obtain ⟨_, _, _, ho⟩ := id h
 obtain ⟨F7, l7⟩ := h.lWatchStates
 obtain ⟨a7, u7, e7, _⟩ := (l7.om ho).cell
 obtain ⟨g7, s7, _, _, e, _⟩ := (l7.om ho).idxS e7 N hN
 subst e
 obtain ⟨Fm, lb⟩ := h.lWatchBox
 obtain ⟨_, _, _, ho2⟩ := id (lb.om ho)
 obtain ⟨F4, l4⟩ := (lb.om ho).lMachineCores
 obtain ⟨a4, u4, e4, _⟩ := (l4.om ho2).cell
 obtain ⟨g4, s4, _, _, e, _⟩ := (l4.om ho2).idxS e4 N hC
 subst e
 exact ⟨g7, s7, u7, g4, s4, u4, e7, e4⟩
theorem M.aft_rng {h : Health} {t : List Int} {f : Int} (hv : M.hh h = true) : rng (M.aft h t f).1.Restarts := by
 have := (M.hh_iff.1 (M.aft_hh (t := t) (f := f) hv)).1
 exact ⟨by omega, by omega⟩
set_option maxHeartbeats 2000000
theorem cell_ne2 {w : World} {A B o i j : Nat} {u0 u1 x : Value} (h : w.cell? ⟨B, o, none⟩ = some x) (hne : B ≠ A) : ((w.setCell ⟨A, i, none⟩ u0).setCell ⟨A, j, none⟩ u1).cell? ⟨B, o, none⟩ = some x :=
 (World.cell?_of_block (heap_set_ne hne)).trans ((World.cell?_of_block (heap_set_ne hne)).trans h)
theorem cell_ne2d {w : World} {A B o i j : Nat} {u0 u1 x : Value} (h : w.cell? ⟨B, o, none⟩ = some x) (hne : B ≠ A) : (((w.setCell ⟨A, i, none⟩ u0).setCell ⟨A, j, none⟩ u1).drew).cell? ⟨B, o, none⟩ = some x :=
 (World.cell?_of_block (w := (w.setCell ⟨A, i, none⟩ u0).setCell ⟨A, j, none⟩ u1) rfl).trans (cell_ne2 h hne)
theorem impl_fault (L b n : Nat) (x : Watch) (F : List Nat) (vt : Value) (t : List Int) (f : Int) (w : World) (h : Om L w b 0 x F) (ht : Rs w vt t) (hL : L ≤ w.heap.size) (hW : M.WV x) (hT : M.ht t = true) (hn : n < x.States.length) (hf : 0 ≤ f ∧ f ≤ 3) :
  Calls Tryz.prog 150 #[.pointer (some ⟨b, 0, none⟩), vt, .int .i64 n, .int .i64 f] w fun e w' => e = .returned (.int .i64 (M.wfl x t n f).2) ∧ ∃ F', M.WB L b F w w' (M.wfl x t n f).1 F' := by
 have hns := hW.ns
 have hC : n < x.Box.Cores.length := by omega
 obtain ⟨g7, s7, u7, g4, s4, u4, y7, y4⟩ := h.wcells hn hC
 have WB0 := zh (M.WB.refl h)
 have y7' := y7
 obtain ⟨k, Fy, hk, omk, hsk, _⟩ := (M.WB.refl h).st y7 hn
 obtain ⟨_, c0, c1, hrk⟩ := omk.openHe
 have gf7 := omk.bk.2.2.2
 have ltg7 := omk.bk.1
 have hb7 : b ≠ g7 := fun e => (hsk g7 (List.mem_cons_self ..)).2 e.symm
 have hlb := h.bk.1
 have hLb := h.bk.2.1
 have hhk : M.hh k = true := hW.hh k (List.mem_of_getElem? hk)
 have hgk : x.States.getD n ⟨false, 0⟩ = k := by rw [List.getD_eq_getElem?_getD, hk]; rfl
 have hRv : Hid (Rv w (.agg #[.bool k.Frozen, .int .i64 k.Restarts]) k) := zh ⟨[.bool k.Frozen, .int .i64 k.Restarts], [], rfl, rfl, hrk, rfl⟩
 have HT := zh ht
 obtain ⟨ta, tc, rfl, htl⟩ := ht.form
 have hq : x.Box.Plan.Parts[n]? = some (x.Box.Plan.Parts[n]'(by have := hW.box.nc; omega)) := List.getElem?_eq_getElem _
 generalize x.Box.Plan.Parts[n]'(by have := hW.box.nc; omega) = q at hq
 have HQ := zh hq
 have hpc := zh (show M.pc x.Box n = q.Cells by simp only [M.pc, List.getD_eq_getElem?_getD, hq, Option.getD_some])
 have hp5 := M.setv_parts hW.box.pg.set
 have hc8 := M.setv_chans hW.box.pg.set
 have hhl : x.Box.Plan.Channels.length ≤ x.Box.Holds.length := by have := hW.box.nh; omega
 have hn5 : n ≤ 5 := by have := hW.box.nc; omega
 have hact := M.aft_act (h := k) (t := t) (f := f)
 have hsr := M.aft_rng (t := t) (f := f) hhk
 have hwf : M.wfl x t n f = (⟨M.fltB x.Box n (M.aft k t f).2, x.States.set n (M.aft k t f).1⟩, (M.aft k t f).2) := by unfold M.wfl; rw [hgk]
 have HA := fun (v : Value) (w1 : World) (hv : Rv w1 v k) (e : Ext w w1) => impl_after v _ k t f w1 hv (HT.out.ext e) hhk hT hf
 obtain ⟨r, hr⟩ : ∃ r, M.aft k t f = r := ⟨_, rfl⟩
 rw [hr] at hact hsr hwf HA
 obtain ⟨s', act⟩ := r
 simp only at hact hsr hwf HA
 replace HA := zh HA
 have HWF := zh hwf
 clear h ht hW hT hf omk hsk hk hgk hq hr hwf htl hns hhk
 go_enter Tryz.func150, Tryz.ntmps150
 go_upto_region 2 with (go_at_call 205; refine (HA.out _ _ hRv.out (Ext.refl _)).mono ?_; rintro e w1 ⟨rfl, he⟩; have X1 := zh he; clear he)
 refine abs_world (fun W => Ext w W ∧ w1.heap.size < W.heap.size ∧ Bk W w1.heap.size [.bool s'.Frozen, .int .i64 s'.Restarts] 116) ⟨X1.out.tr ((Ext.refl _).alloc _), by simp, Bk.new _ _ _⟩ ?_
 rintro W2 ⟨E2, _, kQ⟩
 have E := zh E2
 obtain ⟨q0, q1⟩ := Bk.k2 kQ
 have ltQ := kQ.lt
 have z7 := (cell_ext E2 hlb).trans y7
 have hQ7 : w1.heap.size ≠ g7 := by have := X1.out.sz; omega
 have ltb2 := Nat.lt_of_lt_of_le hlb E2.sz
 have lt72 := Nat.lt_of_lt_of_le ltg7 E2.sz
 have gf72 : ∀ j, W2.frozen? ⟨g7, j, none⟩ = false := fun j => (World.frozen?_of_block (E2.block g7 ltg7)).trans (gf7 j)
 have c02 := (cell_ext E2 ltg7).trans c0
 have c12 := (cell_ext E2 ltg7).trans c1
 have hnn : n < x.States.length := hn
 replace y7' := zh y7'
 clear E2 kQ y7 c0 c1 gf7 X1 HA
 have zz1 : (((W2.setCell ⟨g7, s7 + n * 2, none⟩ (.bool s'.Frozen)).setCell ⟨g7, s7 + n * 2 + 1, none⟩ (.int .i64 s'.Restarts)).drew).cell? ⟨b, 7, none⟩ = some (.slice (some ⟨g7, s7, none⟩) x.States.length u7) := cell_ne2d z7 hb7
 have zz2 : (((W2.setCell ⟨g7, s7 + n * 2, none⟩ (.bool s'.Frozen)).setCell ⟨g7, s7 + n * 2 + 1, none⟩ (.int .i64 s'.Restarts)).drew).cell? ⟨w1.heap.size, 0, none⟩ = some (.bool s'.Frozen) := cell_ne2d q0 hQ7
 have zz3 : (((W2.setCell ⟨g7, s7 + n * 2, none⟩ (.bool s'.Frozen)).setCell ⟨g7, s7 + n * 2 + 1, none⟩ (.int .i64 s'.Restarts)).drew).cell? ⟨w1.heap.size, 1, none⟩ = some (.int .i64 s'.Restarts) := cell_ne2d q1 hQ7
 go_region_held3 (fun u => u.cell? ⟨b, 7, none⟩ = some (.slice (some ⟨g7, s7, none⟩) x.States.length u7) ∧ u.cell? ⟨w1.heap.size, 0, none⟩ = some (.bool s'.Frozen) ∧ u.cell? ⟨w1.heap.size, 1, none⟩ = some (.int .i64 s'.Restarts))
  (go_keep)
  (fail)
 clear zz1 zz2 zz3
 go_upto_region 3 with (fail)
 obtain ⟨F2, wb2'⟩ := (WB0.out.ext E.out).putSt y7'.out hn s' hsr
 have wb2 := wb2'.ext (Ext.refl _).drew
 refine abs_world (fun W3 => M.WB L b F w W3 { x with States := x.States.set n s' } F2) wb2 ?_
 rintro W3 wb3
 have WB3 := zh wb3
 have z4 := (wb3.cl 4 (by decide)).trans y4
 clear wb2 wb2' wb3 z7 q0 q1 c02 c12 gf72
 rcases hact with rfl | rfl | rfl
 ·go_wp2
  go_ret
  exact ⟨ret_i (by rw [HWF.out]), _, by rw [HWF.out]; exact WB3.out⟩
 ·obtain ⟨Fm, om, _, hback⟩ := WB3.out.box
  have OM := zh om
  have HB := zh hback
  have hL3 : L ≤ W3.heap.size := Nat.le_trans hL WB3.out.ch.sz
  clear om hback
  go_wp2_with (go_at_call 206; refine (impl_restart L b n x.Box Fm q _ OM.out hL3 hC HQ.out hhl hc8 hn5).mono ?_; rintro e w10 ⟨F3, om10, ch10, sub10, ⟨vr, rfl⟩, cl10⟩; obtain ⟨F4, wb10⟩ := HB.out _ _ F3 ⟨om10, ch10, sub10, fun j _ => cl10 j⟩; have WB10 := zh wb10; clear om10 ch10 sub10 cl10 wb10)
  go_ret
  exact ⟨ret_i (by rw [HWF.out]), _, by rw [HWF.out]; show M.WB L b F w _ ⟨M.rs1 x.Box n, _⟩ _; unfold M.rs1; rw [hpc.out]; exact WB10.out⟩
 ·obtain ⟨F4, wb4⟩ := WB3.out.stop y4 hC
  obtain ⟨Fm, om, _, _⟩ := WB3.out.box
  obtain ⟨k4, Fy4, _, omc, hs4, _⟩ := (M.TB.refl om).core z4 hC
  obtain ⟨_, _, _, _, c42, _, _⟩ := omc.openC
  have gf4 := omc.bk.2.2.2
  have lt4 := omc.bk.1
  have WB4 := zh wb4
  clear wb4 om omc hs4
  go_wp2
  go_ret
  exact ⟨ret_i (by rw [HWF.out]), _, by rw [HWF.out]; exact WB4.out⟩
set_option maxHeartbeats 4000000
theorem Om.openW {L : Nat} {w : World} {b : Nat} {x : Watch} {F : List Nat} (h : Om L w b 0 x F) : ∃ p0 q0 p1 q1 p2 q2 p3 q3 p4 q4 p5 q5 p7 q7,
  w.cell? ⟨b, 0, none⟩ = some (.slice p0 x.Box.Plan.Parts.length q0) ∧ w.cell? ⟨b, 1, none⟩ = some (.slice p1 x.Box.Plan.Channels.length q1) ∧ w.cell? ⟨b, 2, none⟩ = some (.slice p2 x.Box.Plan.Slots.length q2) ∧ w.cell? ⟨b, 3, none⟩ = some (.slice p3 x.Box.Programs.length q3) ∧ w.cell? ⟨b, 4, none⟩ = some (.slice p4 x.Box.Cores.length q4) ∧ w.cell? ⟨b, 5, none⟩ = some (.slice p5 x.Box.Holds.length q5) ∧ w.cell? ⟨b, 6, none⟩ = some (.int .i64 x.Box.Tick) ∧ w.cell? ⟨b, 7, none⟩ = some (.slice p7 x.States.length q7) ∧
  GT.enc w [.slice p0 x.Box.Plan.Parts.length q0, .slice p1 x.Box.Plan.Channels.length q1, .slice p2 x.Box.Plan.Slots.length q2, .slice p3 x.Box.Programs.length q3, .slice p4 x.Box.Cores.length q4, .slice p5 x.Box.Holds.length q5, .int .i64 x.Box.Tick, .slice p7 x.States.length q7] x F ∧ Own L w F := by
 obtain ⟨cs, hen, hat, ho⟩ := h
 obtain ⟨v0, v1, v2, v3, v4, v5, v7, G0, G1, G2, G3, G4, G5, G7, rfl, ⟨t0, u0, rfl, _⟩, ⟨t1, u1, rfl, _⟩, ⟨t2, u2, rfl, _⟩, ⟨t3, u3, rfl, _⟩, ⟨t4, u4, rfl, _⟩, ⟨t5, u5, rfl, _⟩, ⟨t7, u7, rfl, _⟩, _, _⟩ := id hen
 exact ⟨_, _, _, _, _, _, _, _, _, _, _, _, _, _, by simpa using hat 0 _ rfl, by simpa using hat 1 _ rfl, by simpa using hat 2 _ rfl, by simpa using hat 3 _ rfl, by simpa using hat 4 _ rfl, by simpa using hat 5 _ rfl, by simpa using hat 6 _ rfl, by simpa using hat 7 _ rfl, hen, (List.nodup_cons.1 ho.1).2, fun k hk => ho.2 k (List.mem_cons_of_mem _ hk)⟩
noncomputable def M.watchFault (x : Watch) (t : List Int) (n f : Int) : Watch × Int :=
 if M.wat x && (M.ht t && (M.inn n 0 ((x.States.length : Int) - 1) && M.inn f 0 3)) then M.wfl x t n.toNat f else (⟨M.mz, []⟩, -1)
theorem M.watchFault_f {x : Watch} {t : List Int} {n f : Int} (h : (M.wat x && (M.ht t && (M.inn n 0 ((x.States.length : Int) - 1) && M.inn f 0 3))) = false) : M.watchFault x t n f = (⟨M.mz, []⟩, -1) := if_neg (by rw [h]; decide)
theorem M.watchFault_t {x : Watch} {t : List Int} {n : Nat} {f : Int} (h0 : M.wat x = true) (h1 : M.ht t = true) (h2 : M.inn n 0 ((x.States.length : Int) - 1) = true) (h3 : M.inn f 0 3 = true) : M.watchFault x t n f = M.wfl x t n f := by
 unfold M.watchFault; rw [h0, h1, h2, h3]; rfl
set_option maxHeartbeats 1600000
theorem Chg.puts {b n : Nat} {F : List Nat} {a : World} (cs : List Value) : ∀ {c : World} {o : Nat}, Chg b 0 n F a c → o + cs.length ≤ n → Chg b 0 n F a (putCells c b o cs) := by
 induction cs with
 | nil => intro c o h _; exact h
 | cons x cs ih =>
  intro c o h hl
  rw [putCells]
  simp only [List.length_cons] at hl
  exact ih (h.set ⟨Nat.zero_le _, by omega⟩ x) (by omega)
structure M.WC (L b : Nat) (F : List Nat) (w W : World) (x : Watch) (F' : List Nat) : Prop where
 om : Om L W b 0 x F'
 ch : Chg b 0 8 F w W
 sub : ∀ k ∈ F', k ∈ F ∨ w.heap.size ≤ k
theorem M.WB.wc {L b : Nat} {F F' : List Nat} {w W : World} {x : Watch} (h : M.WB L b F w W x F') : M.WC L b F w W x F' := ⟨h.om, h.ch, h.sub⟩
theorem M.WC.lt {L b : Nat} {F F' : List Nat} {w W : World} {x : Watch} (h : M.WC L b F w W x F') : b < W.heap.size := h.om.bk.1
theorem M.WC.bk {L b : Nat} {F F' : List Nat} {w W : World} {x : Watch} (h : M.WC L b F w W x F') {k : Nat} {cs : List Value} {T : TypeId} (hk : Bk w k cs T) (hb : k ≠ b) (hF : k ∉ F) : Bk W k cs T := h.ch.bk hk hb hF
theorem M.WB.boxNew {L b : Nat} {F F' : List Nat} {w W W2 : World} {x : Watch} (h : M.WB L b F w W x F') (he : Ext W W2) {m' : Machine} {cs : List Value} {K : List Nat} (hen : GT.enc W2 cs m' K) (how : Own W.heap.size W2 K) (hL : L ≤ W.heap.size) :
  ∃ F2, M.WC L b F w (putCells W2 b 0 cs) { x with Box := m' } F2 := by
 obtain ⟨_, _, _, ho⟩ := id h.om
 obtain ⟨Fm, lb⟩ := h.om.lWatchBox
 have hl := GT.len hen
 have hlt := h.lt
 have hbK : b ∉ K := fun hm => by have := (how.2 b hm).1; omega
 obtain ⟨c0, e0, a0⟩ := lb.enc
 have hl0 := GT.len e0
 have hat : At (putCells W2 b 0 cs) b (0 + 0) cs := putCells_in (fun j hj => by
  obtain ⟨v, hv⟩ : ∃ v, c0[j]? = some v := ⟨_, List.getElem?_eq_getElem (by omega)⟩
  have := a0 j v hv
  rw [Nat.add_zero] at this
  exact ⟨v, (cell_ext he hlt).trans this⟩)
 have hfb := (h.om.own0.ext he)
 obtain ⟨F2, h1, h2, h3⟩ := lb.back L (putCells W2 b 0 cs) m' K ho (Chg.puts cs (Chg.ofExt he hlt) (by rw [hl]; exact Nat.le_refl _)) ⟨cs, enc_puts hen hbK, hat, List.nodup_cons.2 ⟨hbK, how.1⟩, fun k hk => by
  rcases List.mem_cons.1 hk with rfl | hk
  ·exact ⟨h.om.bk.2.1, putCells_fz hfb⟩
  ·exact ⟨Nat.le_trans hL (how.2 k hk).1, putCells_fz (how.2 k hk).2⟩⟩ (fun k hk => .inr (how.2 k hk).1)
 refine ⟨F2, h1, h.ch.trF h3 h.sub, fun k hk => ?_⟩
 rcases h2 k hk with h4 | h4
 ·exact h.sub k h4
 ·exact .inr (Nat.le_trans h.ch.sz (how.2 k h4).1)
theorem Om.newW {L : Nat} {u : World} {B : Nat} {cs : List Value} {F : List Nat} {x : Watch} {T : TypeId} {c0 : List Value} (hen : GT.enc u cs x F) (how : Own L u F) (hb : Bk u B c0 T) (h0 : c0.length = 8) (hL : L ≤ B) (hB : B ∉ F) : Om L (putCells u B 0 cs) B 0 x F := by
 have hl := GT.len hen
 have hk := hb.puts cs (by rw [h0, hl]; rfl)
 exact ⟨cs, enc_puts hen hB, fun j v hj => by rw [Nat.zero_add]; exact hk.cell hj, List.nodup_cons.2 ⟨hB, how.1⟩, fun k hk2 => by
  rcases List.mem_cons.1 hk2 with rfl | hk2
  ·exact ⟨hL, _, _, hk⟩
  ·exact ⟨(how.2 k hk2).1, putCells_fz (how.2 k hk2).2⟩⟩
end Sk
