/- Contracts of functions of the given program, and lemmas for them: each theorem states the condition under which it holds. -/
import Derived.Test.YtmkibejcdldjeaaChecked
import Derived.Deep.CutBlock
import Derived.Deep.CutRange
import Derived.Test.YtmkibejcdldjeaaValid
import Derived.Test.YtmkibejcdldjeaaBuild
import Derived.Test.YtmkibejcdldjeaaRead
import Derived.Test.YtmkibejcdldjeaaTypes
import Derived.Test.YtmkibejcdldjeaaNums
import Derived.Test.YtmkibejcdldjeaaAcc
namespace Sk
open Go Go.Proofs Go.RowKit
set_option maxHeartbeats 2000000
set_option maxRecDepth 100000
set_option linter.unusedVariables false
set_option linter.unusedSimpArgs false
/-- Two windows have a place in common. -/
def M.lapw (a b : Window) : Bool := !(decide (min (a.Base + a.Size) (b.Base + b.Size) ≤ max a.Base b.Base))
def M.hitw (a b : Window) : Bool := M.lapw a b && (a.Write || b.Write)
def M.clash (ws vs : List Window) : Bool := ws.any fun a => vs.any fun b => M.hitw a b
theorem M.hitw_comm (a b : Window) : M.hitw a b = M.hitw b a := by
  unfold M.hitw M.lapw
  rw [Int.min_comm, Int.max_comm, Bool.or_comm]
theorem M.clash_comm (ws vs : List Window) : M.clash ws vs = M.clash vs ws := by
  refine Bool.eq_iff_iff.2 ?_
  unfold M.clash
  simp only [List.any_eq_true]
  constructor
  · rintro ⟨a, ha, b, hb, h⟩; exact ⟨b, hb, a, ha, by rw [M.hitw_comm]; exact h⟩
  · rintro ⟨a, ha, b, hb, h⟩; exact ⟨b, hb, a, ha, by rw [M.hitw_comm]; exact h⟩
theorem M.clash_f {ws vs : List Window} (h : ∀ k x, k < ws.length → ws[k]? = some x → (vs.any fun b => M.hitw x b) = false) : M.clash ws vs = false := by
  unfold M.clash
  rw [List.any_eq_false]
  intro x hx
  obtain ⟨k, hk⟩ := List.getElem?_of_mem hx
  rw [h k x (List.getElem?_eq_some_iff.1 hk).1 hk]; decide
theorem M.clash_t {ws vs : List Window} {x y : Window} (hx : x ∈ ws) (hy : y ∈ vs) (h : M.hitw x y = true) : M.clash ws vs = true :=
  List.any_eq_true.2 ⟨x, hx, List.any_eq_true.2 ⟨y, hy, h⟩⟩
theorem any_take_f {α : Type} {p : α → Bool} {xs : List α} {k : Nat} {x : α} (h : (xs.take k).any p = false) (hk : xs[k]? = some x) (hx : p x = false) : (xs.take (k + 1)).any p = false := by
  rw [take_snoc hk, List.any_append, h]; simp [hx]
theorem impl_meet (v v1 : Value) (a b : Window) (w : World) (h : Rv w v a) (h1 : Rv w v1 b) (ha : M.wv a = true) (hb : M.wv b = true) :
    Calls Try.prog 100 #[v, v1] w fun e w' => (∃ x : Window, e = .returned (.tuple #[.agg #[.int .i64 x.Base, .int .i64 x.Size, .bool x.Write], .bool (M.lapw a b)])) ∧ Ext w w' := by
  obtain ⟨rfl, h2, h3⟩ := h.openWindow
  obtain ⟨rfl, h4, h5⟩ := h1.openWindow
  clear h h1
  simp only [M.wv, Bool.and_eq_true, M.inn_iff] at ha hb
  obtain ⟨⟨ha1, ha2⟩, ha3, ha4⟩ := ha
  obtain ⟨⟨hb1, hb2⟩, hb3, hb4⟩ := hb
  have hm : Hid (M.lapw a b = !(decide (min (a.Base + a.Size) (b.Base + b.Size) ≤ max a.Base b.Base))) := Lib.hid (rfl : M.lapw a b = !(decide (min (a.Base + a.Size) (b.Base + b.Size) ≤ max a.Base b.Base)))
  have hs1 : IntKind.i64.wrap (a.Base + a.Size) = a.Base + a.Size := by rw [IntKind.wrap_i64]; omega
  have hs2 : IntKind.i64.wrap (b.Base + b.Size) = b.Base + b.Size := by rw [IntKind.wrap_i64]; omega
  have e0 := Lib.hid ((((Ext.refl w).alloc (.cells #[.int .i64 a.Base, .int .i64 a.Size, .bool a.Write] 55)).alloc (.cells #[.int .i64 b.Base, .int .i64 b.Size, .bool b.Write] 55)).alloc (.cells #[.int .i64 0, .int .i64 0, .bool false] 55))
  go_enter Try.func100, Try.ntmps100
  go_upto_region 1 with (fail)
  refine abs_world (fun W => Ext w W ∧ Bk W w.heap.size [.int .i64 a.Base, .int .i64 a.Size, .bool a.Write] 55 ∧ Bk W (w.heap.size + 1) [.int .i64 b.Base, .int .i64 b.Size, .bool b.Write] 55 ∧ Bk W (w.heap.size + 2) [.int .i64 0, .int .i64 0, .bool false] 55) ⟨e0.out, ?_, ?_, ?_⟩ ?_
  · exact ((Bk.new w _ _).alc _).alc _
  · have := (Bk.new (w.alloc (.cells #[.int .i64 a.Base, .int .i64 a.Size, .bool a.Write] 55)) [.int .i64 b.Base, .int .i64 b.Size, .bool b.Write] 55).alc (.cells #[.int .i64 0, .int .i64 0, .bool false] 55)
    simpa using this
  · have := Bk.new ((w.alloc (.cells #[.int .i64 a.Base, .int .i64 a.Size, .bool a.Write] 55)).alloc (.cells #[.int .i64 b.Base, .int .i64 b.Size, .bool b.Write] 55)) [.int .i64 0, .int .i64 0, .bool false] 55
    simpa using this
  rintro W ⟨ew, k0, k1, k2⟩
  have f0 := k0.cell (j := 0) rfl
  have f1 := k0.cell (j := 1) rfl
  have f2 := k0.cell (j := 2) rfl
  have g0 := k1.cell (j := 0) rfl
  have g1 := k1.cell (j := 1) rfl
  have g2 := k1.cell (j := 2) rfl
  have r0 := k2.cell (j := 0) rfl
  have r1 := k2.cell (j := 1) rfl
  have r2 := k2.cell (j := 2) rfl
  have rf := k2.fz
  have rl := k2.lt
  have EW := Lib.hid ew
  clear ew k0 k1 k2 e0
  obtain ⟨mx, hmxe, hmx⟩ : ∃ mx, (if a.Base < b.Base then b.Base else a.Base) = mx ∧ max a.Base b.Base = mx := ⟨_, rfl, by split <;> omega⟩
  obtain ⟨mn, hmne, hmn⟩ : ∃ mn, (if b.Base + b.Size < a.Base + a.Size then b.Base + b.Size else a.Base + a.Size) = mn ∧ min (a.Base + a.Size) (b.Base + b.Size) = mn := ⟨_, rfl, by split <;> omega⟩
  have hmn1 : mn ≤ 4096 := by omega
  have hmn2 : 0 ≤ mn := by omega
  have hmx1 : mx ≤ 4095 := by omega
  have hmx2 : 0 ≤ mx := by omega
  have hcase : (mn ≤ mx ∧ M.lapw a b = false) ∨ (¬ mn ≤ mx ∧ M.lapw a b = true) := by
    have h := hm.out
    rw [hmx, hmn] at h
    by_cases hle : mn ≤ mx
    · exact .inl ⟨hle, by rw [h, decide_eq_true hle]; rfl⟩
    · exact .inr ⟨hle, by rw [h, decide_eq_false hle]; rfl⟩
  clear hmx hmn
  go_quiet (fail)
  rcases hcase with ⟨hle, hl⟩ | ⟨hle, hl⟩
  · replace hl := Lib.hid hl
    go_wp2
    refine bodyPost_ret (v := .tuple #[.agg #[.int .i64 0, .int .i64 0, .bool false], .bool false]) (by simp [results, Try.results100, go_sem, r0, r1, r2]) rfl ⟨⟨⟨0, 0, false⟩, by rw [hl.out]⟩, ?_⟩
    exact (((EW.out.drewN _).set (by show _ ≤ w.heap.size + 2; omega) _).set (by show _ ≤ w.heap.size + 2; omega) _).set (by show _ ≤ w.heap.size + 2; omega) _
  · replace hl := Lib.hid hl
    cases hW : a.Write
    · rw [hW] at f2
      go_wp2
      refine bodyPost_ret (v := .tuple #[.agg #[.int .i64 mx, .int .i64 (mn - mx), .bool false], .bool true]) (by simp [results, Try.results100, go_sem, r0, r1, r2]) rfl ⟨⟨⟨_, _, _⟩, by rw [hl.out]⟩, ?_⟩
      exact (((EW.out.drewN _).set (by show _ ≤ w.heap.size + 2; omega) _).set (by show _ ≤ w.heap.size + 2; omega) _).set (by show _ ≤ w.heap.size + 2; omega) _
    · rw [hW] at f2
      go_wp2
      refine bodyPost_ret (v := .tuple #[.agg #[.int .i64 mx, .int .i64 (mn - mx), .bool b.Write], .bool true]) (by simp [results, Try.results100, go_sem, r0, r1, r2]) rfl ⟨⟨⟨_, _, _⟩, by rw [hl.out]⟩, ?_⟩
      exact (((EW.out.drewN _).set (by show _ ≤ w.heap.size + 2; omega) _).set (by show _ ≤ w.heap.size + 2; omega) _).set (by show _ ≤ w.heap.size + 2; omega) _
theorem impl_clash (v v1 : Value) (ws vs : List Window) (w : World) (h : Rs w v ws) (h1 : Rs w v1 vs) (hw : ∀ x ∈ ws, M.wv x = true) (hv : ∀ x ∈ vs, M.wv x = true) :
    Calls Try.prog 78 #[v, v1] w fun e w' => e = .returned (.bool (M.clash ws vs)) ∧ Ext w w' := by
  obtain ⟨a, c, rfl, hl⟩ := h.form
  obtain ⟨a', c', rfl, hl'⟩ := h1.form
  have H := Lib.hid h
  have H1 := Lib.hid h1
  have HWV := Lib.hid hw
  have HVV := Lib.hid hv
  clear h h1 hw hv
  go_enter Try.func78, Try.ntmps78
  go_wp2
  go_loopw [13] (fun i wr => ∃ k : Nat, k ≤ ws.length ∧ i = .int .i64 k ∧ (ws.take k).any (fun x => vs.any (M.hitw x)) = false ∧ Ext w wr) (fun i _ => ws.length - (intOf i).toNat)
  case atStart => exact ⟨0, Nat.zero_le _, rfl, rfl, Ext.refl _⟩
  case round =>
    obtain ⟨k, hk, rfl, hinv, hq⟩ := hrel
    have HQ := Lib.hid hq
    have HI := Lib.hid hinv
    clear hq hinv
    obtain ⟨wo, rfl⟩ : ∃ wo, wo = wr := ⟨_, rfl⟩
    by_cases hkt : k < ws.length
    · obtain ⟨b3, o3, x, rfl, hb3, hx, hd0, hd1, hd2, hs1, hs2, hv3⟩ := (H.out.ext HQ.out).atWindow k hkt
      have hxw := HWV.out x (List.mem_of_getElem? hx.out)
      have HXW := Lib.hid hxw
      go_upto_block 2 with (fail)
      refine abs_world (fun W => Ext wo W ∧ Bk W wo.heap.size [.int .i64 x.Base, .int .i64 x.Size, .bool x.Write] 55) ⟨(Ext.refl _).alloc _, Bk.new _ _ _⟩ ?_
      rintro W ⟨e0, kA⟩
      have HW := Lib.hid (HQ.out.tr e0)
      have KA := Lib.hid kA
      clear e0 kA hxw
      go_wp2_with fail
      go_loopw [19] (fun i wr => ∃ j : Nat, j ≤ vs.length ∧ i = .int .i64 j ∧ (vs.take j).any (M.hitw x) = false ∧ Ext W wr) (fun i _ => vs.length - (intOf i).toNat)
      case atStart => exact ⟨0, Nat.zero_le _, rfl, rfl, Ext.refl _⟩
      case round =>
        obtain ⟨j, hj, rfl, hinv, hq⟩ := hrel
        have HQ2 := Lib.hid hq
        have HI2 := Lib.hid hinv
        have kB := KA.out.ext hq
        have f0 := kB.cell (j := 0) rfl
        have f1 := kB.cell (j := 1) rfl
        have f2 := kB.cell (j := 2) rfl
        have hBl := kB.lt
        replace kB := Lib.hid kB
        clear hq hinv
        obtain ⟨wi, rfl⟩ : ∃ wi, wi = wr := ⟨_, rfl⟩
        by_cases hjt : j < vs.length
        · obtain ⟨b4, o4, y, rfl, hb4, hy, he0, he1, he2, ht1, ht2, hv4⟩ := (H1.out.ext (HW.out.tr HQ2.out)).atWindow j hjt
          have hyv := HVV.out y (List.mem_of_getElem? hy.out)
          go_upto_region 7 with (fail)
          refine abs_world (fun W1 => Ext wi W1 ∧ Bk W1 wi.heap.size [.int .i64 y.Base, .int .i64 y.Size, .bool y.Write] 55) ⟨(Ext.refl _).alloc _, Bk.new _ _ _⟩ ?_
          rintro W1 ⟨e1, kC⟩
          have g0 := kC.cell (j := 0) rfl
          have g1 := kC.cell (j := 1) rfl
          have g2 := kC.cell (j := 2) rfl
          have hCl := kC.lt
          have k0 := (cell_ext e1 hBl).trans f0
          have k1 := (cell_ext e1 hBl).trans f1
          have k2 := (cell_ext e1 hBl).trans f2
          have hBl2 := Nat.lt_of_lt_of_le hBl e1.sz
          have HE1 := Lib.hid (HQ2.out.tr e1)
          clear e1 kC he0 he1 he2 hd0 hd1 hd2 f0 f1 f2
          obtain ⟨q, hq⟩ : ∃ q, M.lapw x y = q := ⟨_, rfl⟩
          replace hq := Lib.hid hq
          go_upto_region 8 with (go_at_call 100; refine (impl_meet _ _ x y _ ⟨_, [], rfl, rfl, hs1, hs2, rfl⟩ ⟨_, [], rfl, rfl, ht1, ht2, rfl⟩ HXW.out hyv).mono ?_; rintro e w5 ⟨⟨z, rfl⟩, he⟩; rw [hq.out]; have HE5 := Lib.hid (HE1.out.tr he); have m2 := (cell_ext he hBl2).trans k2; have n2 := (cell_ext he hCl).trans g2; have hB5 := Nat.lt_of_lt_of_le hBl2 he.sz; have hC5 := Nat.lt_of_lt_of_le hCl he.sz; clear he)
          refine abs_world (fun W9 => Ext w5 W9) ((Ext.refl _).alloc _) ?_
          intro W9 e9
          have p2 := (cell_ext e9 hB5).trans m2
          have r2 := (cell_ext e9 hC5).trans n2
          have HE9 := Lib.hid (HE5.out.tr e9)
          have hB9 := Nat.lt_of_lt_of_le hB5 e9.sz
          have hC9 := Nat.lt_of_lt_of_le hC5 e9.sz
          clear e9 m2 n2 k0 k1 k2 g0 g1 g2
          have hh0 : M.hitw x y = (q && (x.Write || y.Write)) := by unfold M.hitw; rw [hq.out]
          cases q
          · have hh : Hid (M.hitw x y = false) := Lib.hid (by rw [hh0]; rfl)
            clear hh0
            go_wp2
            go_roundw
            case rel => exact ⟨j + 1, by omega, by go_num, any_take_f HI2.out hy.out hh.out, HE9.out⟩
            case measure => simp [intOf]; omega
          · rcases Bool.eq_false_or_eq_true x.Write with hxw | hxw
            rotate_left
            · rw [hxw] at p2
              rcases Bool.eq_false_or_eq_true y.Write with hyw | hyw
              rotate_left
              · rw [hyw] at r2
                have hh : Hid (M.hitw x y = false) := Lib.hid (by rw [hh0, hxw, hyw]; rfl)
                clear hh0 hxw hyw
                go_wp2
                go_roundw
                case rel => exact ⟨j + 1, by omega, by go_num, any_take_f HI2.out hy.out hh.out, HE9.out⟩
                case measure => simp [intOf]; omega
              · rw [hyw] at r2
                have hh : Hid (M.hitw x y = true) := Lib.hid (by rw [hh0, hxw, hyw]; rfl)
                clear hh0 hxw hyw
                go_wp2
                go_ret
                exact ⟨wp_cond_ret (M.clash_t (List.mem_of_getElem? hx.out) (List.mem_of_getElem? hy.out) hh.out).symm, HW.out.tr HE9.out⟩
            · rw [hxw] at p2
              have hh : Hid (M.hitw x y = true) := Lib.hid (by rw [hh0, hxw]; rfl)
              clear hh0 hxw
              go_wp2
              go_ret
              exact ⟨wp_cond_ret (M.clash_t (List.mem_of_getElem? hx.out) (List.mem_of_getElem? hy.out) hh.out).symm, HW.out.tr HE9.out⟩
        · obtain rfl : j = vs.length := by omega
          have HF := Lib.hid (by have := HI2.out; rwa [List.take_length] at this : vs.any (M.hitw x) = false)
          go_wp2
          go_roundw
          case rel => exact ⟨k + 1, by omega, by go_num, any_take_f HI.out hx.out HF.out, HW.out.tr HQ2.out⟩
          case measure => simp [intOf]; omega
    · obtain rfl : k = ws.length := by omega
      have HF := Lib.hid (by have := HI.out; rw [List.take_length] at this; exact this : M.clash ws vs = false)
      go_wp2
      go_ret
      exact ⟨wp_cond_ret HF.out.symm, HQ.out⟩
theorem spec_WindowsMeet (v v1 : Value) (a b : Window) (w : World) (h : Rv w v a) (h1 : Rv w v1 b) (ha : M.wv a = true) (hb : M.wv b = true) :
    Calls Try.prog 101 #[v, v1] w fun e w' => (∃ x : Window, e = .returned (.tuple #[.agg #[.int .i64 x.Base, .int .i64 x.Size, .bool x.Write], .bool (M.lapw a b)])) ∧ Ext w w' := by
  have HA := Lib.hid ha
  have HB := Lib.hid hb
  have HVA := Lib.hid h
  have HVB := Lib.hid h1
  obtain ⟨rfl, h2, h3⟩ := h.openWindow
  obtain ⟨rfl, h4, h5⟩ := h1.openWindow
  clear h h1
  simp only [M.wv, Bool.and_eq_true, M.inn_iff] at ha hb
  obtain ⟨⟨ha1, ha2⟩, ha3, ha4⟩ := ha
  obtain ⟨⟨hb1, hb2⟩, hb3, hb4⟩ := hb
  have hm : Hid (M.lapw a b = !(decide (min (a.Base + a.Size) (b.Base + b.Size) ≤ max a.Base b.Base))) := Lib.hid (rfl : M.lapw a b = !(decide (min (a.Base + a.Size) (b.Base + b.Size) ≤ max a.Base b.Base)))
  have e0 := Lib.hid ((((Ext.refl w).alloc (.cells #[.int .i64 a.Base, .int .i64 a.Size, .bool a.Write] 55)).alloc (.cells #[.int .i64 b.Base, .int .i64 b.Size, .bool b.Write] 55)).alloc (.cells #[.int .i64 0, .int .i64 0, .bool false] 55))
  go_enter Try.func101, Try.ntmps101
  go_upto_region 1 with (fail)
  refine abs_world (fun W => Ext w W ∧ Bk W w.heap.size [.int .i64 a.Base, .int .i64 a.Size, .bool a.Write] 55 ∧ Bk W (w.heap.size + 1) [.int .i64 b.Base, .int .i64 b.Size, .bool b.Write] 55 ∧ Bk W (w.heap.size + 2) [.int .i64 0, .int .i64 0, .bool false] 55) ⟨e0.out, ?_, ?_, ?_⟩ ?_
  · exact ((Bk.new w _ _).alc _).alc _
  · have := (Bk.new (w.alloc (.cells #[.int .i64 a.Base, .int .i64 a.Size, .bool a.Write] 55)) [.int .i64 b.Base, .int .i64 b.Size, .bool b.Write] 55).alc (.cells #[.int .i64 0, .int .i64 0, .bool false] 55)
    simpa using this
  · have := Bk.new ((w.alloc (.cells #[.int .i64 a.Base, .int .i64 a.Size, .bool a.Write] 55)).alloc (.cells #[.int .i64 b.Base, .int .i64 b.Size, .bool b.Write] 55)) [.int .i64 0, .int .i64 0, .bool false] 55
    simpa using this
  rintro W ⟨ew, k0, k1, k2⟩
  have f0 := k0.cell (j := 0) rfl
  have f1 := k0.cell (j := 1) rfl
  have f2 := k0.cell (j := 2) rfl
  have g0 := k1.cell (j := 0) rfl
  have g1 := k1.cell (j := 1) rfl
  have g2 := k1.cell (j := 2) rfl
  have EW := Lib.hid ew
  have K0 := Lib.hid k0
  have K1 := Lib.hid k1
  have K2 := Lib.hid k2
  replace HVA := Lib.hid (HVA.out.ext ew)
  replace HVB := Lib.hid (HVB.out.ext ew)
  clear ew k0 k1 k2 e0
  obtain ⟨mx, hmxe, hmx⟩ : ∃ mx, (if a.Base < b.Base then b.Base else a.Base) = mx ∧ max a.Base b.Base = mx := ⟨_, rfl, by split <;> omega⟩
  obtain ⟨mn, hmne, hmn⟩ : ∃ mn, (if b.Base + b.Size < a.Base + a.Size then b.Base + b.Size else a.Base + a.Size) = mn ∧ min (a.Base + a.Size) (b.Base + b.Size) = mn := ⟨_, rfl, by split <;> omega⟩
  have hmn1 : mn ≤ 4096 := by omega
  have hmn2 : 0 ≤ mn := by omega
  have hmx1 : mx ≤ 4095 := by omega
  have hmx2 : 0 ≤ mx := by omega
  have hcase : (mn ≤ mx ∧ M.lapw a b = false) ∨ (¬ mn ≤ mx ∧ M.lapw a b = true) := by
    have h := hm.out
    rw [hmx, hmn] at h
    by_cases hle : mn ≤ mx
    · exact .inl ⟨hle, by rw [h, decide_eq_true hle]; rfl⟩
    · exact .inr ⟨hle, by rw [h, decide_eq_false hle]; rfl⟩
  clear hmx hmn
  go_upto_region 2 with (fail)
  rcases hcase with ⟨hle, hl⟩ | ⟨hle, hl⟩
  all_goals
    replace hl := Lib.hid hl
    go_upto_if 34 with (first
      | (go_at_call 98; refine (spec_Window_valid _ b w1 (HVB.out.ext HE1.out)).mono ?_; rintro e w2 ⟨rfl, he⟩; rw [HB.out]; have HE2 := Lib.hid (HE1.out.tr he); have kk0 := K0.out.ext HE2.out; have kk1 := K1.out.ext HE2.out; have kk2 := K2.out.ext HE2.out; have f0 := kk0.cell (j := 0) rfl; have f1 := kk0.cell (j := 1) rfl; have f2 := kk0.cell (j := 2) rfl; have g0 := kk1.cell (j := 0) rfl; have g1 := kk1.cell (j := 1) rfl; have g2 := kk1.cell (j := 2) rfl; have r0 := kk2.cell (j := 0) rfl; have r1 := kk2.cell (j := 1) rfl; have r2 := kk2.cell (j := 2) rfl; have rf := kk2.fz; have rl := kk2.lt; clear he)
      | (go_at_call 98; refine (spec_Window_valid _ a W HVA.out).mono ?_; rintro e w1 ⟨rfl, he⟩; rw [HA.out]; have HE1 := Lib.hid he; have kk1 := K1.out.ext he; have g0 := kk1.cell (j := 0) rfl; have g1 := kk1.cell (j := 1) rfl; have g2 := kk1.cell (j := 2) rfl; clear he))
  · go_wp2
    refine bodyPost_ret (v := .tuple #[.agg #[.int .i64 0, .int .i64 0, .bool false], .bool false]) (by simp [results, Try.results101, go_sem, r0, r1, r2]) rfl ⟨⟨⟨0, 0, false⟩, by rw [hl.out]⟩, ?_⟩
    exact (((EW.out.tr HE2.out).set (by show _ ≤ w.heap.size + 2; omega) _).set (by show _ ≤ w.heap.size + 2; omega) _).set (by show _ ≤ w.heap.size + 2; omega) _
  · cases hW : a.Write
    · rw [hW] at f2
      go_wp2
      refine bodyPost_ret (v := .tuple #[.agg #[.int .i64 mx, .int .i64 (mn - mx), .bool false], .bool true]) (by simp [results, Try.results101, go_sem, r0, r1, r2]) rfl ⟨⟨⟨_, _, _⟩, by rw [hl.out]⟩, ?_⟩
      exact (((EW.out.tr HE2.out).set (by show _ ≤ w.heap.size + 2; omega) _).set (by show _ ≤ w.heap.size + 2; omega) _).set (by show _ ≤ w.heap.size + 2; omega) _
    · rw [hW] at f2
      go_wp2
      refine bodyPost_ret (v := .tuple #[.agg #[.int .i64 mx, .int .i64 (mn - mx), .bool b.Write], .bool true]) (by simp [results, Try.results101, go_sem, r0, r1, r2]) rfl ⟨⟨⟨_, _, _⟩, by rw [hl.out]⟩, ?_⟩
      exact (((EW.out.tr HE2.out).set (by show _ ≤ w.heap.size + 2; omega) _).set (by show _ ≤ w.heap.size + 2; omega) _).set (by show _ ≤ w.heap.size + 2; omega) _
end Sk

