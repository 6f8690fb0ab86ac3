/- Contracts of functions of the given program, and lemmas for them: each theorem states the condition under which it holds. -/
import Derived.Test.YtobfbjgflnhjpaaGreatChecked
import Derived.Deep.CutBlock
import Derived.Deep.CutRange
import Derived.Test.YtobfbjgflnhjpaaGreatRst
import Derived.Test.YtobfbjgflnhjpaaGreatNewC
namespace Sk
open Go Go.Proofs Go.RowKit
set_option maxHeartbeats 4000000
set_option maxRecDepth 100000
set_option linter.unusedVariables false
set_option linter.unusedSimpArgs false
/-- A machine in which a partition has been restarted. -/
noncomputable def M.restartPart (m : Machine) (n : Int) : Machine := if M.mv m = true ∧ M.inn n 0 ((m.Cores.length : Int) - 1) = true then M.rst m n.toNat (M.newCore ((m.Plan.Parts[n.toNat]?).getD ⟨[], 0⟩).Cells) m.Plan.Channels.length else M.mz
theorem M.restartPart_f1 {m : Machine} {n : Int} (h : M.mv m = false) : M.restartPart m n = M.mz := if_neg (fun k => by rw [h] at k; cases k.1)
theorem M.restartPart_f2 {m : Machine} {n : Int} (h : M.inn n 0 ((m.Cores.length : Int) - 1) = false) : M.restartPart m n = M.mz := if_neg (fun k => by rw [h] at k; cases k.2)
theorem M.restartPart_t {m : Machine} {n : Nat} {q : Part} (h : M.mv m = true) (hn : n < m.Cores.length) (hq : m.Plan.Parts[n]? = some q) : M.restartPart m n = M.rst m n (M.newCore q.Cells) m.Plan.Channels.length := by
  have h2 : M.inn (n : Int) 0 ((m.Cores.length : Int) - 1) = true := M.inn_iff.2 ⟨by omega, by omega⟩
  unfold M.restartPart
  rw [if_pos ⟨h, h2⟩]
  simp [hq]
theorem impl_RestartPart (v : Value) (m : Machine) (ni : Int) (w : World) (h : Rv w v m) :
    Calls Tryz.prog 28 #[v, .int .i64 ni] w fun e w' => ∃ v', e = .returned v' ∧ Ov w.heap.size w' v' (M.restartPart m ni) ∧ Ext w w' := by
  have H := Lib.hid h
  obtain ⟨a0, c0, a1, c1, a2, c2, a3, c3, a4, c4, a5, c5, rfl, rt, h0, l0, h1, l1, h2, l2, h3, l3, h4, l4, h5, l5⟩ := h.openMachine
  clear h h0 h1 h2 h3 h4 h5
  have hwr : IntKind.i64.wrap ((m.Cores.length : Int) - 1) = (m.Cores.length : Int) - 1 := wrap_small (by omega) (by omega)
  go_enter Tryz.func28, Tryz.ntmps28
  go_upto_region 1 with (fail)
  refine abs_world (fun W => Ext w W ∧ Bk W w.heap.size [.slice a0 m.Plan.Parts.length c0, .slice a1 m.Plan.Channels.length c1, .slice a2 m.Plan.Slots.length c2, .slice a3 m.Programs.length c3, .slice a4 m.Cores.length c4, .slice a5 m.Holds.length c5, .int .i64 m.Tick] 52 ∧ Bk W (w.heap.size + 1) [.slice none 0 0, .slice none 0 0, .slice none 0 0, .slice none 0 0, .slice none 0 0, .slice none 0 0, .int .i64 0] 52) ⟨((Ext.refl _).alloc _).alloc _, (Bk.new _ _ _).ext ((Ext.refl _).alloc _), Bk.new1 _ _ _ _⟩ ?_
  rintro W ⟨e1, kA, kB⟩
  have HE0 := Lib.hid e1
  have d0 := kA.cell (j := 0) rfl
  have d1 := kA.cell (j := 1) rfl
  have d2 := kA.cell (j := 2) rfl
  have d3 := kA.cell (j := 3) rfl
  have d4 := kA.cell (j := 4) rfl
  have d5 := kA.cell (j := 5) rfl
  have d6 := kA.cell (j := 6) rfl
  have KA := Lib.hid kA
  have KB := Lib.hid kB
  clear e1 kA kB
  cases g : M.mv m
  · go_wp2_with (go_at_call 42; refine (impl_MachineValid _ m _ (H.out.ext HE0.out)).mono ?_; rintro e w0 ⟨rfl, he⟩; rw [g]; have E := Lib.hid (HE0.out.tr he); have KAx := KA.out.ext he; have ltA := KAx.lt; have x0 := KAx.cell (j := 0) rfl; have x1 := KAx.cell (j := 1) rfl; have x2 := KAx.cell (j := 2) rfl; have x3 := KAx.cell (j := 3) rfl; have x4 := KAx.cell (j := 4) rfl; have x5 := KAx.cell (j := 5) rfl; have x6 := KAx.cell (j := 6) rfl; have KBx := KB.out.ext he; have z0 := KBx.cell (j := 0) rfl; have z1 := KBx.cell (j := 1) rfl; have z2 := KBx.cell (j := 2) rfl; have z3 := KBx.cell (j := 3) rfl; have z4 := KBx.cell (j := 4) rfl; have z5 := KBx.cell (j := 5) rfl; have z6 := KBx.cell (j := 6) rfl; have zf := KBx.fz; have ltZ := KBx.lt; clear KBx; clear he KAx)
    refine bodyPost_ret (v := .agg #[.slice none 0 0, .slice none 0 0, .slice none 0 0, .slice none 0 0, .slice none 0 0, .slice none 0 0, .int .i64 0]) (by simp [results, Tryz.results28, go_sem, z0, z1, z2, z3, z4, z5, z6]) rfl ⟨_, rfl, by rw [M.restartPart_f1 g]; exact Ov.mz _ _, (((((((E.out).set (by simp) _).set (by simp) _).set (by simp) _).set (by simp) _).set (by simp) _).set (by simp) _).set (by simp) _⟩
  have hmv := M.mv_iff.1 g
  have hnc := hmv.nc
  have hp5 := M.setv_parts hmv.pg.set
  have hc8 := M.setv_chans hmv.pg.set
  have htot : GT.tot m ≤ 1048576 := Nat.le_trans (M.mv_tot hmv) (by omega)
  cases g1 : M.inn ni 0 ((m.Cores.length : Int) - 1)
  · clear hnc
    go_wp2_with (first
      | (go_at_call 42; refine (impl_MachineValid _ m _ (H.out.ext HE0.out)).mono ?_; rintro e w0 ⟨rfl, he⟩; rw [g]; have E := Lib.hid (HE0.out.tr he); have KAx := KA.out.ext he; have ltA := KAx.lt; have x0 := KAx.cell (j := 0) rfl; have x1 := KAx.cell (j := 1) rfl; have x2 := KAx.cell (j := 2) rfl; have x3 := KAx.cell (j := 3) rfl; have x4 := KAx.cell (j := 4) rfl; have x5 := KAx.cell (j := 5) rfl; have x6 := KAx.cell (j := 6) rfl; have KBx := KB.out.ext he; have z0 := KBx.cell (j := 0) rfl; have z1 := KBx.cell (j := 1) rfl; have z2 := KBx.cell (j := 2) rfl; have z3 := KBx.cell (j := 3) rfl; have z4 := KBx.cell (j := 4) rfl; have z5 := KBx.cell (j := 5) rfl; have z6 := KBx.cell (j := 6) rfl; have zf := KBx.fz; have ltZ := KBx.lt; clear KBx; clear he KAx)
      | (go_at_call 83; refine (impl_in _ _ _ _).mono ?_; rintro e w9 ⟨rfl, rfl⟩; rw [g1]))
    refine bodyPost_ret (v := .agg #[.slice none 0 0, .slice none 0 0, .slice none 0 0, .slice none 0 0, .slice none 0 0, .slice none 0 0, .int .i64 0]) (by simp [results, Tryz.results28, go_sem, z0, z1, z2, z3, z4, z5, z6]) rfl ⟨_, rfl, by rw [M.restartPart_f2 g1]; exact Ov.mz _ _, (((((((E.out).set (by simp) _).set (by simp) _).set (by simp) _).set (by simp) _).set (by simp) _).set (by simp) _).set (by simp) _⟩
  obtain ⟨b1, b2⟩ := M.inn_iff.1 g1
  obtain ⟨n, rfl⟩ : ∃ n : Nat, ni = n := ⟨ni.toNat, by omega⟩
  have hn : n < m.Cores.length := by omega
  have hq : m.Plan.Parts[n]? = some m.Plan.Parts[n] := List.getElem?_eq_getElem (by omega)
  generalize m.Plan.Parts[n] = q at hq
  have hh : m.Plan.Channels.length ≤ m.Holds.length := by have := hmv.nh; omega
  have hn5 : n ≤ 5 := by omega
  clear hnc
  go_upto_region 3 with (first
    | (go_at_call 42; refine (impl_MachineValid _ m _ (H.out.ext HE0.out)).mono ?_; rintro e w0 ⟨rfl, he⟩; rw [g]; have E := Lib.hid (HE0.out.tr he); have KAx := KA.out.ext he; have ltA := KAx.lt; have x0 := KAx.cell (j := 0) rfl; have x1 := KAx.cell (j := 1) rfl; have x2 := KAx.cell (j := 2) rfl; have x3 := KAx.cell (j := 3) rfl; have x4 := KAx.cell (j := 4) rfl; have x5 := KAx.cell (j := 5) rfl; have x6 := KAx.cell (j := 6) rfl; replace KB := Lib.hid (KB.out.ext he); clear he KAx)
    | (go_at_call 83; refine (impl_in _ _ _ _).mono ?_; rintro e w9 ⟨rfl, rfl⟩; rw [g1]))
  have ltB0 := KB.out.lt
  go_upto_region 4 with (go_at_call 61; refine (impl_copyOf_Machine _ m _ (H.out.ext E.out) htot).mono ?_; rintro e w5 ⟨v5, rfl, hov, ex⟩; obtain ⟨cs5, F5, rfl, hen, how⟩ := hov; obtain ⟨v0, v1, v2, v3, v4, v5, G0, G1, G2, G3, G4, G5, rfl, ⟨t0, u0, rfl, _⟩, ⟨t1, u1, rfl, _⟩, ⟨t2, u2, rfl, _⟩, ⟨t3, u3, rfl, _⟩, ⟨t4, u4, rfl, _⟩, ⟨t5, u5, rfl, _⟩, _, _⟩ := id hen; have HEN := Lib.hid hen; have HOW := Lib.hid how; have EX := Lib.hid ex; replace KB := Lib.hid (KB.out.ext ex); clear hen how ex)
  refine abs_world (fun W6 => Ext w5 W6 ∧ Bk W6 w5.heap.size [.slice t0 m.Plan.Parts.length u0, .slice t1 m.Plan.Channels.length u1, .slice t2 m.Plan.Slots.length u2, .slice t3 m.Programs.length u3, .slice t4 m.Cores.length u4, .slice t5 m.Holds.length u5, .int .i64 m.Tick] 52) ⟨(Ext.refl _).alloc _, Bk.new _ _ _⟩ ?_
  rintro W6 ⟨E6, K6⟩
  have hs05 := EX.out.sz
  have hw0 := E.out.sz
  have ltB5 := KB.out.lt
  have om : Om w0.heap.size W6 w5.heap.size 0 m F5 := ⟨_, GT.ext HEN.out E6, fun j u hj => by rw [Nat.zero_add]; exact K6.cell hj, List.nodup_cons.2 ⟨fun hm => Nat.lt_irrefl _ (HOW.out.lt hm), HOW.out.1⟩, fun k hk => by
    rcases List.mem_cons.1 hk with rfl | hk
    · exact ⟨hs05, ⟨_, _, K6⟩⟩
    · exact ⟨(HOW.out.2 k hk).1, ((HOW.out.2 k hk).2).ext E6⟩⟩
  have HR := Lib.hid (impl_restart w0.heap.size w5.heap.size n m F5 q W6 om (by have := E6.sz; omega) hn hq hh hc8 hn5)
  have E7 := Lib.hid ((E.out.tr EX.out).tr E6)
  have KB6 := Lib.hid (KB.out.ext E6)
  have HF : Hid (∀ x ∈ F5, w0.heap.size ≤ x) := Lib.hid (fun x hx => (HOW.out.2 x hx).1)
  have hs6 := E6.sz
  clear om K6 E6
  obtain ⟨kc, hkc⟩ : ∃ kc, M.newCore q.Cells = kc := ⟨_, rfl⟩
  rw [hkc] at HR
  have hres := M.restartPart_t g hn hq
  rw [hkc] at hres
  replace hres := Lib.hid hres
  have ltA0 := ltA
  go_wp2_with (go_at_call 84; go_loud (refine HR.out.mono ?_; rintro e w7 ⟨F7, om7, ch7, sub7, ⟨v7, rfl⟩, bx7⟩; obtain ⟨p0, q0, p1, q1, p2, q2, p3, q3, p4, q4, p5, q5, y0, y1, y2, y3, y4, y5, y6, _⟩ := om7.openM; have EY := Lib.hid (ch7.ext E7.out (by omega) (fun x hx => by have := HF.out x hx; omega)); have OM7 := Lib.hid om7; have SB := Lib.hid sub7; have hb7 := om7.bk.1; have KBx := ch7.bk KB6.out (by omega) (fun hx => by have := HF.out _ hx; omega); have z0 := KBx.cell (j := 0) rfl; have z1 := KBx.cell (j := 1) rfl; have z2 := KBx.cell (j := 2) rfl; have z3 := KBx.cell (j := 3) rfl; have z4 := KBx.cell (j := 4) rfl; have z5 := KBx.cell (j := 5) rfl; have z6 := KBx.cell (j := 6) rfl; have zf := KBx.fz; have ltZ := KBx.lt; clear om7 ch7 sub7 bx7 KBx))
  obtain ⟨cs8, hen8, hat8, hown8⟩ := OM7.out
  obtain ⟨v0, v1, v2, v3, v4, v5, _, _, _, _, _, _, rfl, _⟩ := id hen8
  obtain rfl := Option.some.inj ((hat8 0 _ rfl).symm.trans y0)
  obtain rfl := Option.some.inj ((hat8 1 _ rfl).symm.trans y1)
  obtain rfl := Option.some.inj ((hat8 2 _ rfl).symm.trans y2)
  obtain rfl := Option.some.inj ((hat8 3 _ rfl).symm.trans y3)
  obtain rfl := Option.some.inj ((hat8 4 _ rfl).symm.trans y4)
  obtain rfl := Option.some.inj ((hat8 5 _ rfl).symm.trans y5)
  have hZ : w.heap.size + 1 ∉ F7 := fun hm => (SB.out _ hm).elim (fun h => by have := HF.out _ h; omega) (fun h => by omega)
  have OW : Own w0.heap.size w7 F7 := ⟨(List.nodup_cons.1 hown8.1).2, fun k hk => hown8.2 k (List.mem_cons_of_mem _ hk)⟩
  refine bodyPost_ret (v := .agg #[.slice p0 (M.rst m n kc m.Plan.Channels.length).Plan.Parts.length q0, .slice p1 (M.rst m n kc m.Plan.Channels.length).Plan.Channels.length q1, .slice p2 (M.rst m n kc m.Plan.Channels.length).Plan.Slots.length q2, .slice p3 (M.rst m n kc m.Plan.Channels.length).Programs.length q3, .slice p4 (M.rst m n kc m.Plan.Channels.length).Cores.length q4, .slice p5 (M.rst m n kc m.Plan.Channels.length).Holds.length q5, .int .i64 (M.rst m n kc m.Plan.Channels.length).Tick]) (by simp [results, Tryz.results28, go_sem, z0, z1, z2, z3, z4, z5, z6]) rfl ⟨_, rfl, by rw [hres.out]; exact ⟨_, _, rfl, enc_puts (c := w.heap.size + 1) (o := 0) (ds := [.slice p0 (M.rst m n kc m.Plan.Channels.length).Plan.Parts.length q0, .slice p1 (M.rst m n kc m.Plan.Channels.length).Plan.Channels.length q1, .slice p2 (M.rst m n kc m.Plan.Channels.length).Plan.Slots.length q2, .slice p3 (M.rst m n kc m.Plan.Channels.length).Programs.length q3, .slice p4 (M.rst m n kc m.Plan.Channels.length).Cores.length q4, .slice p5 (M.rst m n kc m.Plan.Channels.length).Holds.length q5, .int .i64 (M.rst m n kc m.Plan.Channels.length).Tick]) hen8 hZ, ((OW.mono (by omega)).put (b := w.heap.size + 1) (o := 0) (cs := [.slice p0 (M.rst m n kc m.Plan.Channels.length).Plan.Parts.length q0, .slice p1 (M.rst m n kc m.Plan.Channels.length).Plan.Channels.length q1, .slice p2 (M.rst m n kc m.Plan.Channels.length).Plan.Slots.length q2, .slice p3 (M.rst m n kc m.Plan.Channels.length).Programs.length q3, .slice p4 (M.rst m n kc m.Plan.Channels.length).Cores.length q4, .slice p5 (M.rst m n kc m.Plan.Channels.length).Holds.length q5, .int .i64 (M.rst m n kc m.Plan.Channels.length).Tick]))⟩, ?_⟩
  exact (((((((EY.out).set (by simp) _).set (by simp) _).set (by simp) _).set (by simp) _).set (by simp) _).set (by simp) _).set (by simp) _
end Sk

