/- Contracts of functions of the given program, each under the condition that it states. -/
import Derived.Test.YtbmdiefanhghcaaGreatChecked
import Derived.Deep.CutBlock
import Derived.Deep.CutRange
import Derived.Test.YtbmdiefanhghcaaGreatHold
import Derived.Test.YtbmdiefanhghcaaGreatFrame
import Derived.Test.YtbmdiefanhghcaaGreatMachV
import Derived.Test.YtbmdiefanhghcaaGreatTot
import Derived.Test.YtbmdiefanhghcaaGreatCopyM
import Derived.Test.YtbmdiefanhghcaaGreatTo
import Derived.Test.YtbmdiefanhghcaaGreatL18M
namespace Sk
open Go Go.Proofs Go.RowKit
set_option maxHeartbeats 4000000
set_option maxRecDepth 100000
set_option linter.unusedVariables false
set_option linter.unusedSimpArgs false
def M.newCore (c : Int) : Core := if M.inn c 1 8 then ⟨List.replicate c.toNat 0, 0, false⟩ else ⟨[], 0, false⟩
theorem M.newCore_f {c : Int} (h : M.inn c 1 8 = false) : M.newCore c = ⟨[], 0, false⟩ := by simp [M.newCore, h]
theorem M.newCore_t {n : Nat} (h : M.inn (n : Int) 1 8 = true) : M.newCore (n : Int) = ⟨List.replicate n 0, 0, false⟩ := by simp [M.newCore, h]
theorem Ov.core0 (L : Nat) (w : World) : Ov L w (.agg #[.slice none 0 0, .int .i64 0, .bool false]) (⟨[], 0, false⟩ : Core) := ⟨_, [], rfl, GT.zero (α := Core) w, Own.nil _ _⟩
theorem Ov.core {L : Nat} {w : World} {v : Value} {x : Core} (h : Os L w v x.Cells) (hr : rng x.At) : Ov L w (.agg #[v, .int .i64 x.At, .bool x.Stopped]) x := by
 obtain ⟨F, h1, h2⟩ := h
 exact ⟨_, F, rfl, ⟨_, rfl, h1, hr⟩, h2⟩
theorem impl_NewCore (c : Int) (w : World) :
  Calls Tryz.prog 236 #[.int .i64 c] w fun e w' => ∃ v', e = .returned v' ∧ Ov w.heap.size w' v' (M.newCore c) ∧ Ext w w' := by
 cases g : M.inn c 1 8
 ·go_enter Tryz.func236, Tryz.ntmps236
  go_wp2_with (go_at_call 64; refine (impl_in _ _ _ _).mono ?_; rintro e w' ⟨rfl, rfl⟩; rw [g])
  refine bodyPost_ret (v := .agg #[.slice none 0 0, .int .i64 0, .bool false]) (by simp [results, Tryz.results236, go_sem]) rfl ⟨_, rfl, by rw [M.newCore_f g]; exact Ov.core0 _ _, ?_⟩
  repeat (first | exact Ext.refl _ | refine Ext.alloc ?_ _ | refine Ext.set ?_ (by simp) _)
 ·obtain ⟨h1, h2⟩ := M.inn_iff.1 g
  obtain ⟨n, rfl⟩ : ∃ n : Nat, c = n := ⟨c.toNat, by omega⟩
  have hmk : ∀ u : World, (Instr.makeSlice 35 (.int .i64 n) (.int .i64 n)).run Tryz.prog u = .ok (.slice (some ⟨u.heap.size, 0, none⟩) n n) (u.alloc (.cells (madeCells #[.int .i64 0] (n * 1)) 3)) := make_int n (by omega)
  have HO : ∀ u : World, Os u.heap.size (u.alloc (.cells (madeCells #[.int .i64 0] (n * 1)) 3)) (.slice (some ⟨u.heap.size, 0, none⟩) n n) (List.replicate n (0 : Int)) := fun u => Os.made (α := Int) u n 3 #[.int .i64 0] 0 rfl rfl (by omega)
  go_enter Tryz.func236, Tryz.ntmps236
  go_upto_region 3 with (go_at_call 64; refine (impl_in _ _ _ _).mono ?_; rintro e w' ⟨rfl, rfl⟩; rw [g])
  refine abs_world (fun W => Ext w W ∧ Bk W w.heap.size [.slice none 0 0, .int .i64 0, .bool false] 91) ⟨(Ext.refl _).alloc _, Bk.new _ _ _⟩ ?_
  rintro W ⟨e1, kA⟩
  have HE := zh e1
  have hA := kA.lt
  obtain ⟨z0, z1, z2⟩ := Bk.k3 kA
  have zf := kA.fz
  have hsz : w.heap.size ≤ W.heap.size := e1.sz
  have HK := zh kA
  clear e1 kA
  go_wp2
  have hs : (((W.setCell ⟨w.heap.size, 0, none⟩ (.slice (some ⟨W.heap.size, 0, none⟩) n n)).setCell ⟨w.heap.size, 1, none⟩ (.int .i64 0)).setCell ⟨w.heap.size, 2, none⟩ (.bool false)).heap.size = W.heap.size := by simp
  have HO1 := HO (((W.setCell ⟨w.heap.size, 0, none⟩ (.slice (some ⟨W.heap.size, 0, none⟩) n n)).setCell ⟨w.heap.size, 1, none⟩ (.int .i64 0)).setCell ⟨w.heap.size, 2, none⟩ (.bool false))
  rw [hs, Nat.mul_one] at HO1
  have kz := (((HK.out.set 0 (.slice (some ⟨W.heap.size, 0, none⟩) n n)).set 1 (.int .i64 0)).set 2 (.bool false)).alc (.cells (madeCells #[.int .i64 0] n) 3)
  obtain ⟨y0, y1, y2⟩ := Bk.k3 kz
  refine bodyPost_ret (v := .agg #[.slice (some ⟨W.heap.size, 0, none⟩) n n, .int .i64 0, .bool false]) (by simp [results, Tryz.results236, go_sem, y0, y1, y2]) rfl ⟨_, rfl, by rw [M.newCore_t g]; exact Ov.core (x := ⟨List.replicate n 0, 0, false⟩) (HO1.mono hsz) ⟨by show (-9223372036854775808 : Int) ≤ 0; decide, by show (0 : Int) ≤ 9223372036854775807; decide⟩, (((HE.out.set (by simp) _).set (by simp) _).set (by simp) _).alloc _⟩
theorem spec_NewCore (c : Int) (w : World) :
  Calls Tryz.prog 166 #[.int .i64 c] w fun e w' => ∃ v', e = .returned v' ∧ Ov w.heap.size w' v' (M.newCore c) ∧ Ext w w' := by
 cases g : M.inn c 1 8
 ·go_enter Tryz.func166, Tryz.ntmps166
  go_wp2_with (go_at_call 35; refine (spec_In _ _ _ _).mono ?_; rintro e w' ⟨rfl, rfl⟩; rw [g])
  refine bodyPost_ret (v := .agg #[.slice none 0 0, .int .i64 0, .bool false]) (by simp [results, Tryz.results166, go_sem]) rfl ⟨_, rfl, by rw [M.newCore_f g]; exact Ov.core0 _ _, ?_⟩
  repeat (first | exact Ext.refl _ | refine Ext.alloc ?_ _ | refine Ext.set ?_ (by simp) _)
 ·obtain ⟨h1, h2⟩ := M.inn_iff.1 g
  obtain ⟨n, rfl⟩ : ∃ n : Nat, c = n := ⟨c.toNat, by omega⟩
  have hmk : ∀ u : World, (Instr.makeSlice 35 (.int .i64 n) (.int .i64 n)).run Tryz.prog u = .ok (.slice (some ⟨u.heap.size, 0, none⟩) n n) (u.alloc (.cells (madeCells #[.int .i64 0] (n * 1)) 3)) := make_int n (by omega)
  have HO : ∀ u : World, Os u.heap.size (u.alloc (.cells (madeCells #[.int .i64 0] (n * 1)) 3)) (.slice (some ⟨u.heap.size, 0, none⟩) n n) (List.replicate n (0 : Int)) := fun u => Os.made (α := Int) u n 3 #[.int .i64 0] 0 rfl rfl (by omega)
  go_enter Tryz.func166, Tryz.ntmps166
  go_upto_region 3 with (go_at_call 35; refine (spec_In _ _ _ _).mono ?_; rintro e w' ⟨rfl, rfl⟩; rw [g])
  refine abs_world (fun W => Ext w W ∧ Bk W w.heap.size [.slice none 0 0, .int .i64 0, .bool false] 91) ⟨(Ext.refl _).alloc _, Bk.new _ _ _⟩ ?_
  rintro W ⟨e1, kA⟩
  have HE := zh e1
  have hA := kA.lt
  obtain ⟨z0, z1, z2⟩ := Bk.k3 kA
  have zf := kA.fz
  have hsz : w.heap.size ≤ W.heap.size := e1.sz
  have HK := zh kA
  clear e1 kA
  go_wp2
  have hs : (((W.setCell ⟨w.heap.size, 0, none⟩ (.slice (some ⟨W.heap.size, 0, none⟩) n n)).setCell ⟨w.heap.size, 1, none⟩ (.int .i64 0)).setCell ⟨w.heap.size, 2, none⟩ (.bool false)).heap.size = W.heap.size := by simp
  have HO1 := HO (((W.setCell ⟨w.heap.size, 0, none⟩ (.slice (some ⟨W.heap.size, 0, none⟩) n n)).setCell ⟨w.heap.size, 1, none⟩ (.int .i64 0)).setCell ⟨w.heap.size, 2, none⟩ (.bool false))
  rw [hs, Nat.mul_one] at HO1
  have kz := (((HK.out.set 0 (.slice (some ⟨W.heap.size, 0, none⟩) n n)).set 1 (.int .i64 0)).set 2 (.bool false)).alc (.cells (madeCells #[.int .i64 0] n) 3)
  obtain ⟨y0, y1, y2⟩ := Bk.k3 kz
  refine bodyPost_ret (v := .agg #[.slice (some ⟨W.heap.size, 0, none⟩) n n, .int .i64 0, .bool false]) (by simp [results, Tryz.results166, go_sem, y0, y1, y2]) rfl ⟨_, rfl, by rw [M.newCore_t g]; exact Ov.core (x := ⟨List.replicate n 0, 0, false⟩) (HO1.mono hsz) ⟨by show (-9223372036854775808 : Int) ≤ 0; decide, by show (0 : Int) ≤ 9223372036854775807; decide⟩, (((HE.out.set (by simp) _).set (by simp) _).set (by simp) _).alloc _⟩
set_option maxHeartbeats 1000000
def M.mz : Machine := ⟨⟨[], [], []⟩, [], [], [], 0⟩
theorem M.setv_sized {s : Setup} (h : M.setv s = true) {k : Nat} {c : Channel} (hk : s.Channels[k]? = some c) : M.sized c.Kind c.Size = true := by
 simp only [M.setv, M.csv, Bool.and_eq_true, List.all_eq_true] at h
 have := h.2.1.2.2 c (List.mem_of_getElem? hk)
 simp only [M.cv, Bool.and_eq_true] at this
 exact this.1
theorem M.sized_pos {k s : Int} (h : M.sized k s = true) : 1 ≤ s ∧ s ≤ 4 := by
 rcases M.sized_iff.1 h with ⟨_, rfl⟩ | ⟨_, h1, h2⟩
 ·exact ⟨by decide, by decide⟩
 ·exact ⟨h1, h2⟩
theorem M.prv_bd {p : List Order} {c : Int} (h : M.prv p c = true) : (1 ≤ p.length ∧ p.length ≤ 20) ∧ 1 ≤ c ∧ c ≤ 8 := by
 simp only [M.prv, Bool.and_eq_true, M.inn_iff] at h
 exact ⟨⟨by omega, by omega⟩, h.2.1⟩
theorem M.mv_tot {m : Machine} (h : M.MV m) : GT.tot m ≤ 100000 := by
 have h1 := M.setv_tot h.pg.set
 have h5 := M.setv_parts h.pg.set
 have h8 := M.setv_chans h.pg.set
 have hnp := h.pg.np
 have hq : ∀ {k : Nat}, k < m.Programs.length → ∃ q, m.Plan.Parts[k]? = some q := fun {k} hk => ⟨_, List.getElem?_eq_getElem (by omega)⟩
 have hp := tot_list 20 5 m.Programs (by omega) (fun x hx => by
  obtain ⟨k, hk⟩ := List.getElem?_of_mem hx
  obtain ⟨q, hq⟩ := hq (List.getElem?_eq_some_iff.1 hk).1
  have hb := M.prv_bd (h.pg.prv k x q hk hq)
  have := tot_list 0 20 x hb.1.2 (fun y _ => Nat.le_refl _)
  omega)
 have hc := tot_list 8 5 m.Cores (by have := h.nc; omega) (fun x hx => by
  obtain ⟨k, hk⟩ := List.getElem?_of_mem hx
  have hkl := (List.getElem?_eq_some_iff.1 hk).1
  have hnc := h.nc
  obtain ⟨q, hq⟩ := hq (k := k) (by omega)
  have hpk : m.Programs[k]? = some m.Programs[k] := List.getElem?_eq_getElem (by omega)
  have hb := M.prv_bd (h.pg.prv k _ q hpk hq)
  have hf := h.fits k x _ q hk hpk hq
  simp only [M.fits, Bool.and_eq_true, beq_iff_eq] at hf
  have := tot_list 0 8 x.Cells (by omega) (fun y _ => Nat.le_refl _)
  show GT.tot x.Cells + GT.tot x.At + GT.tot x.Stopped ≤ _
  have h0 : GT.tot x.At = 0 := rfl
  have h2 : GT.tot x.Stopped = 0 := rfl
  omega)
 have hh := tot_list 4 8 m.Holds (by have := h.nh; omega) (fun x hx => by
  obtain ⟨k, hk⟩ := List.getElem?_of_mem hx
  have hkl := (List.getElem?_eq_some_iff.1 hk).1
  have hnh := h.nh
  have hck : m.Plan.Channels[k]? = some m.Plan.Channels[k] := List.getElem?_eq_getElem (by omega)
  have hv := h.hv k x _ hk hck
  have hz := M.sized_pos (M.setv_sized h.pg.set hck)
  simp only [M.hv, Bool.and_eq_true, decide_eq_true_eq] at hv
  have := tot_list 0 4 x.Lst (by omega) (fun y _ => Nat.le_refl _)
  show GT.tot x.Lst ≤ _
  omega)
 show GT.tot m.Plan + GT.tot m.Programs + GT.tot m.Cores + GT.tot m.Holds + GT.tot m.Tick ≤ _
 have h0 : GT.tot m.Tick = 0 := rfl
 omega
set_option maxHeartbeats 4000000
theorem Ov.mz (L : Nat) (w : World) : Ov L w (.agg #[.slice none 0 0, .slice none 0 0, .slice none 0 0, .slice none 0 0, .slice none 0 0, .slice none 0 0, .int .i64 0]) M.mz := ⟨_, [], rfl, GT.zero (α := Machine) w, Own.nil _ _⟩
theorem Ov.wz (L : Nat) (w : World) : Ov L w (.agg #[.slice none 0 0, .slice none 0 0, .slice none 0 0, .slice none 0 0, .slice none 0 0, .slice none 0 0, .int .i64 0, .slice none 0 0]) (⟨M.mz, []⟩ : Watch) := ⟨_, [], rfl, GT.zero (α := Watch) w, Own.nil _ _⟩
theorem encWatch {w : World} {m : Machine} {st : List Health} {v0 v1 v2 v3 v4 v5 v7 : Value} {FM F7 : List Nat} (hm : GT.enc w [v0, v1, v2, v3, v4, v5, .int .i64 m.Tick] m FM) (h7 : Sl w v7 st F7) : GT.enc w [v0, v1, v2, v3, v4, v5, .int .i64 m.Tick, v7] (⟨m, st⟩ : Watch) (FM ++ F7) := by
 obtain ⟨w0, w1, w2, w3, w4, w5, F0, F1, F2, F3, F4, F5, e, s0, s1, s2, s3, s4, s5, r, rfl⟩ := hm
 simp only [List.cons.injEq] at e
 obtain ⟨rfl, rfl, rfl, rfl, rfl, rfl, _⟩ := e
 exact ⟨_, _, _, _, _, _, _, F0, F1, F2, F3, F4, F5, F7, rfl, s0, s1, s2, s3, s4, s5, h7, r, by simp [List.append_assoc]⟩
end Sk
