/- Contracts of functions of the given program, and lemmas for them: each theorem states the condition under which it holds. -/
import Derived.Test.YtobfbjgflnhjpaaGreatChecked
import Derived.Deep.CutBlock
import Derived.Deep.CutRange
import Derived.Test.YtobfbjgflnhjpaaGreatBoardV
import Derived.Test.YtobfbjgflnhjpaaGreatDrawSF
import Derived.Test.YtobfbjgflnhjpaaGreatRefc
import Derived.Test.YtobfbjgflnhjpaaGreatHold
import Derived.Test.YtobfbjgflnhjpaaGreatGaps
import Derived.Test.YtobfbjgflnhjpaaGreatBuild
import Derived.Test.YtobfbjgflnhjpaaGreatMachV
namespace Sk
open Go Go.Proofs Go.RowKit
set_option maxHeartbeats 2000000
set_option maxRecDepth 100000
set_option linter.unusedVariables false
set_option linter.unusedSimpArgs false
theorem lawExactBoardValid (v0 : Value) (x : Board) (w : World) (h0 : Rv w v0 x) :
   Calls Tryz.prog 3 #[v0] w fun e w' => e = .returned (.bool true) ∧ Ext w w' := by
  have H := Lib.hid h0
  obtain ⟨a0, c0, a1, c1, rfl, p0, l0, p1, l1⟩ := h0.openBoard
  clear h0 p0 p1
  go_enter Tryz.func3, Tryz.ntmps3
  go_upto_region 2 with (fail)
  refine abs_world (fun W => Ext w W ∧ Bk W w.heap.size [.slice a0 x.Boxes.length c0, .slice a1 x.Wires.length c1] 25) ⟨(Ext.refl _).alloc _, Bk.new _ _ _⟩ ?_
  rintro W0 ⟨E, KA⟩
  replace E := Lib.hid E; replace KA := Lib.hid KA
  have f0 := KA.out.cell (j := 0) rfl
  have f1 := KA.out.cell (j := 1) rfl
  replace H := Lib.hid (H.out.ext E.out)
  go_upto_region 5 with (go_at_call 7; refine (szBoard _ _ _ _ H.out (by omega) (by omega)).mono ?_; rintro e u1 ⟨⟨s0, rfl, hs0a, hs0b, hs0c⟩, he⟩; have HR0 := Lib.hid hs0c; have X := Lib.hid he; clear hs0c he)
  · go_ret
    exact ⟨rfl, E.out.tr X.out⟩
  have S0 : Hid (GT.tot x ≤ 1048576) := Lib.hid (by have := HR0.out (by omega); omega)
  clear HR0 f0 f1
  replace E := Lib.hid (E.out.tr X.out); replace KA := Lib.hid (KA.out.ext X.out); replace H := Lib.hid (H.out.ext X.out); clear X
  have f0 := KA.out.cell (j := 0) rfl
  have f1 := KA.out.cell (j := 1) rfl
  go_upto_region 6 with (first
    | (go_at_call 9; refine (toBoard _ x _ H.out S0.out).mono ?_; rintro e u2 ⟨v1, rfl, ho, he⟩; have HC := Lib.hid ho.rv; have X1 := Lib.hid he; obtain ⟨p0, q0, p1, q1, rfl, _⟩ := ho.rv.openBoard; clear ho he)
    | (go_at_call 8; refine (spec_BoardValid _ x _ HC.out).mono ?_; rintro e u3 ⟨rfl, he⟩; have X2 := Lib.hid (X1.out.tr he); clear he))
  replace E := Lib.hid (E.out.tr X2.out); replace KA := Lib.hid (KA.out.ext X2.out); replace H := Lib.hid (H.out.ext X2.out); clear X1 X2 HC f0 f1
  have f0 := KA.out.cell (j := 0) rfl
  have f1 := KA.out.cell (j := 1) rfl
  go_upto_region 7 with (go_at_call 9; refine (toBoard _ x _ H.out S0.out).mono ?_; rintro e u4 ⟨v1, rfl, ho, he⟩; have HC := Lib.hid ho.rv; have X1 := Lib.hid he; obtain ⟨g0, h0, g1, h1, rfl, _⟩ := ho.rv.openBoard; clear ho he)
  refine abs_world (fun W => Ext u4 W ∧ Bk W u4.heap.size [.slice g0 x.Boxes.length h0, .slice g1 x.Wires.length h1] 31) ⟨(Ext.refl _).alloc _, Bk.new _ _ _⟩ ?_
  rintro u5 ⟨e5, kB⟩
  have X5 := Lib.hid e5
  have KB := Lib.hid kB
  replace E := Lib.hid (E.out.tr (X1.out.tr X5.out)); replace KA := Lib.hid (KA.out.ext (X1.out.tr X5.out)); replace H := Lib.hid (H.out.ext (X1.out.tr X5.out)); replace HC := Lib.hid (HC.out.ext X5.out); clear e5 kB X1 X5 f0 f1
  have b0 := KB.out.cell (j := 0) rfl
  have b1 := KB.out.cell (j := 1) rfl
  go_upto_region 8 with (go_at_call 10; refine (impl_BoardValid _ x _ HC.out).mono ?_; rintro e u6 ⟨rfl, he⟩; have X6 := Lib.hid he; clear he)
  replace E := Lib.hid (E.out.tr X6.out); replace KA := Lib.hid (KA.out.ext X6.out); replace KB := Lib.hid (KB.out.ext X6.out); replace H := Lib.hid (H.out.ext X6.out); replace HC := Lib.hid (HC.out.ext X6.out); clear X6 b0 b1
  have b0 := KB.out.cell (j := 0) rfl
  have b1 := KB.out.cell (j := 1) rfl
  have f0 := KA.out.cell (j := 0) rfl
  have f1 := KA.out.cell (j := 1) rfl
  have ltA := KA.out.lt
  have ltB := KB.out.lt
  obtain ⟨r, hr⟩ : ∃ r, M.bv x = r := ⟨_, rfl⟩
  rw [hr]
  have hrr : (r != r) = false := by cases r <;> rfl
  go_upto_region 10 with (fail)
  go_region_held3 (fun u => u.cell? ⟨w.heap.size, 0, none⟩ = some (.slice a0 x.Boxes.length c0) ∧ u.cell? ⟨w.heap.size, 1, none⟩ = some (.slice a1 x.Wires.length c1) ∧ u.cell? ⟨u4.heap.size, 0, none⟩ = some (.slice g0 x.Boxes.length h0) ∧ u.cell? ⟨u4.heap.size, 1, none⟩ = some (.slice g1 x.Wires.length h1))
    (first
      | exact ⟨(cell_ext X7.out ltA).trans f0, (cell_ext X7.out ltA).trans f1, (cell_ext X7.out ltB).trans b0, (cell_ext X7.out ltB).trans b1⟩
      | go_keep)
    (first
      | (go_at_call 11; refine (eqBoard _ _ x x _ (HC.out.ext X7.out) HD.out).mono ?_; rintro e u8 ⟨rfl, he⟩; rw [Eqb.t (rfl : x = x)]; replace X7 := Lib.hid (X7.out.tr he); clear he)
      | (go_at_call 9; refine (toBoard _ x _ (H.out.ext (Ext.refl _).drew) S0.out).mono ?_; rintro e u7 ⟨v1, rfl, ho, he⟩; have HD := Lib.hid ho.rv; have X7 := Lib.hid ((Ext.refl _).drew.tr he); clear ho he))
  go_wp2
  go_ret
  exact ⟨rfl, E.out.tr X7.out⟩
end Sk

namespace Sk
open Go Go.Proofs Go.RowKit
set_option maxHeartbeats 4000000
set_option maxRecDepth 100000
set_option linter.unusedVariables false
set_option linter.unusedSimpArgs false
/-- A block laid anew whole. -/
theorem Bk.putsAux {b : Nat} {T : TypeId} (cs : List Value) : ∀ {w : World} (pre rest : List Value), Bk w b (pre ++ rest) T → cs.length = rest.length → Bk (putCells w b pre.length cs) b (pre ++ cs) T := by
  induction cs with
  | nil => intro w pre rest h hl; obtain rfl : rest = [] := List.length_eq_zero_iff.1 hl.symm; exact h
  | cons c cs ih =>
    intro w pre rest h hl
    cases rest with
    | nil => cases hl
    | cons r rest =>
      have h1 := h.set pre.length c
      rw [List.set_append_right _ _ (Nat.le_refl _), Nat.sub_self, List.set_cons_zero] at h1
      have h2 := ih (w := w.setCell ⟨b, pre.length, none⟩ c) (pre ++ [c]) rest (by simpa using h1) (by simpa using hl)
      rw [List.length_append, List.length_singleton] at h2
      rw [putCells]
      simpa using h2
theorem Bk.puts {w : World} {b : Nat} {cs0 : List Value} {T : TypeId} (h : Bk w b cs0 T) (cs : List Value) (hl : cs.length = cs0.length) : Bk (putCells w b 0 cs) b cs T := by
  have := Bk.putsAux cs (w := w) [] cs0 h hl
  simpa using this
theorem Bk.puts_ne {w : World} {b c o : Nat} {cs ds : List Value} {T : TypeId} (h : Bk w b cs T) (hb : b ≠ c) : Bk (putCells w c o ds) b cs T := by
  unfold Bk at *; rw [putCells_heap hb]; exact h
theorem enc_puts {α : Type} [GT α] {w : World} {c o : Nat} {cs ds : List Value} {x : α} {F : List Nat} (h : GT.enc w cs x F) (hc : c ∉ F) : GT.enc (putCells w c o ds) cs x F :=
  GT.keep h fun k hk => putCells_heap (fun e => hc (e ▸ hk))
theorem Sl.puts {α : Type} [GT α] {w : World} {c o : Nat} {v : Value} {ds : List Value} {x : List α} {F : List Nat} (h : Sl w v x F) (hc : c ∉ F) : Sl (putCells w c o ds) v x F :=
  h.keep fun k hk => putCells_heap (fun e => hc (e ▸ hk))
theorem Bk.cellq {w : World} {b : Nat} {cs : List Value} {T : TypeId} (h : Bk w b cs T) (j : Nat) : w.cell? ⟨b, j, none⟩ = cs[j]? := by
  unfold Bk at h; simp [World.cell?, h]
/-- A block in which one cell alone was changed. -/
theorem Chg.one {b o : Nat} {F : List Nat} {a c : World} {cs : List Value} {T : TypeId} {v : Value} (h : Chg b o 1 F a c) (hb : Bk a b cs T) (ho : o < cs.length) (hv : c.cell? ⟨b, o, none⟩ = some v) : ∃ T', Bk c b (cs.set o v) T' := by
  obtain ⟨cs', T', hb'⟩ := h.2.2.2.2 b ⟨_, _, hb⟩
  have e : cs' = cs.set o v := by
    apply List.ext_getElem?
    intro j
    rw [← hb'.cellq j, List.getElem?_set]
    by_cases hj : o = j
    · subst hj; rw [if_pos rfl, if_pos ho]; exact hv
    · rw [if_neg hj, h.cell (by omega)]; exact hb.cellq j
  exact ⟨T', e ▸ hb'⟩
theorem encMachine {w : World} {m : Machine} {p0 p1 p2 v3 v4 v5 : Value} {FP F3 F4 F5 : List Nat} (hp : GT.enc w [p0, p1, p2] m.Plan FP) (h3 : Sl w v3 m.Programs F3) (h4 : Sl w v4 m.Cores F4) (h5 : Sl w v5 m.Holds F5) (r : rng m.Tick) : GT.enc w [p0, p1, p2, v3, v4, v5, .int .i64 m.Tick] m (FP ++ F3 ++ F4 ++ F5) := by
  obtain ⟨v0, v1, v2, F0, F1, F2, e, s0, s1, s2, rfl⟩ := hp
  simp only [List.cons.injEq] at e
  obtain ⟨rfl, rfl, rfl, _⟩ := e
  exact ⟨_, _, _, _, _, _, F0, F1, F2, F3, F4, F5, rfl, s0, s1, s2, h3, h4, h5, r, by simp [List.append_assoc]⟩
theorem Chg.enc {α : Type} [GT α] {b o n : Nat} {F G : List Nat} {a c : World} {cs : List Value} {x : α} (h : Chg b o n F a c) (hs : GT.enc a cs x G) (hb : b ∉ G) (hF : Apart G F) : GT.enc c cs x G :=
  GT.keep hs fun k hk => h.keep (GT.inh hs k hk) (fun e => hb (e ▸ hk)) (fun hm => hF k hk hm)
end Sk

