/- Contracts of functions of the given program, and lemmas for them: each theorem states the condition under which it holds. -/
import Derived.Test.YtfenbcicnfboeaaGreatChecked
import Derived.Deep.CutBlock
import Derived.Deep.CutRange
import Derived.Laws.CopyOwn
import Derived.Test.YtfenbcicnfboeaaGreatCv
import Derived.Test.YtfenbcicnfboeaaGreatNums
import Derived.Test.YtfenbcicnfboeaaGreatValid
import Derived.Test.YtfenbcicnfboeaaGreatBuild
import Derived.Test.YtfenbcicnfboeaaGreatRds
import Derived.Test.YtfenbcicnfboeaaGreatApp
import Derived.Test.YtfenbcicnfboeaaGreatScal
import Derived.Test.YtfenbcicnfboeaaGreatRefc
import Derived.Test.YtfenbcicnfboeaaGreatChan
import Derived.Test.YtfenbcicnfboeaaGreatFind
import Derived.Test.YtfenbcicnfboeaaGreatTot
import Derived.Test.YtfenbcicnfboeaaGreatAcc
import Derived.Test.YtfenbcicnfboeaaGreatCopy
import Derived.Test.YtfenbcicnfboeaaGreatClone
import Derived.Test.YtfenbcicnfboeaaGreatFld
import Derived.Test.YtfenbcicnfboeaaGreatSetupS
import Derived.Test.YtfenbcicnfboeaaGreatMachV
namespace Sk
open Go Go.Proofs Go.RowKit
set_option maxHeartbeats 1000000
set_option maxRecDepth 100000
set_option linter.unusedVariables false
set_option linter.unusedSimpArgs false
theorem info_int : (Tryz.prog.info? 3).map (fun i => (i.zero, i.size, i.bytes)) = some (some (.int .i64 0), 1, 8) := by kernel_rfl
theorem make_int (xs : Nat) (hl : xs ≤ 1048576) (u : World) : (Instr.makeSlice 35 (.int .i64 xs) (.int .i64 xs)).run Tryz.prog u =
   .ok (.slice (some ⟨u.heap.size, 0, none⟩) xs xs) (u.alloc (.cells (madeCells #[.int .i64 0] (xs * 1)) 3)) := by
 obtain ⟨i1, hi1, hq0, hq1, hq2⟩ := info_parts info_int
 have h := run_make (P := Tryz.prog) u 35 3 i1 (.int .i64 0) Tryz.underlying35 hi1 hq0 .i64 .i64 xs xs (by omega) (Int.le_refl _) (by rw [hq2]; omega) (by omega)
 simpa [hq1, Value.cells] using h
end Sk
namespace Sk
open Go Go.Proofs Go.RowKit
set_option maxHeartbeats 1500000
set_option maxRecDepth 100000
set_option linter.unusedVariables false
set_option linter.unusedSimpArgs false
theorem impl_clone_int (v : Value) (xs : List Int) (w : World) (h : Rs w v xs) (hn : xs.length ≤ 100000000) :
  Calls Tryz.prog 98 #[v] w fun e w' => ∃ v', e = .returned v' ∧ Os w.heap.size w' v' xs ∧ Ext w w' := by
 obtain ⟨F, hF⟩ := h
 refine (impl_clone_Int v xs w F hF hn).mono ?_
 rintro e w' ⟨v', F', rfl, ho, _, _, he⟩
 exact ⟨v', rfl, ho.flat, he⟩
theorem Os.setLow {α : Type} [GT α] {L : Nat} {w : World} {v : Value} {xs : List α} (h : Os L w v xs) {p : Addr} (hp : p.block < L) (u : Value) : Os L (w.setCell p u) v xs := by
 obtain ⟨F, h1, h2⟩ := h
 exact ⟨F, h1.set (fun hm => by have := (h2.2 _ hm).1; omega) u, h2.set p u⟩
end Sk
namespace Sk
open Go Go.Proofs Go.RowKit
set_option maxHeartbeats 4000000
set_option maxRecDepth 100000
set_option linter.unusedVariables false
set_option linter.unusedSimpArgs false
/-- A block laid anew whole. -/
theorem Bk.putsAux {b : Nat} {T : TypeId} (cs : List Value) : ∀ {w : World} (pre rest : List Value), Bk w b (pre ++ rest) T → cs.length = rest.length → Bk (putCells w b pre.length cs) b (pre ++ cs) T := by
 induction cs with
 | nil => intro w pre rest h hl; obtain rfl : rest = [] := List.length_eq_zero_iff.1 hl.symm; exact h
 | cons c cs ih =>
  intro w pre rest h hl
  cases rest with
  | nil => cases hl
  | cons r rest =>
   have h1 := h.set pre.length c
   rw [List.set_append_right _ _ (Nat.le_refl _), Nat.sub_self, List.set_cons_zero] at h1
   have h2 := ih (w := w.setCell ⟨b, pre.length, none⟩ c) (pre ++ [c]) rest (by simpa using h1) (by simpa using hl)
   rw [List.length_append, List.length_singleton] at h2
   rw [putCells]
   simpa using h2
theorem Bk.puts {w : World} {b : Nat} {cs0 : List Value} {T : TypeId} (h : Bk w b cs0 T) (cs : List Value) (hl : cs.length = cs0.length) : Bk (putCells w b 0 cs) b cs T := by
 have := Bk.putsAux cs (w := w) [] cs0 h hl
 simpa using this
theorem Bk.puts_ne {w : World} {b c o : Nat} {cs ds : List Value} {T : TypeId} (h : Bk w b cs T) (hb : b ≠ c) : Bk (putCells w c o ds) b cs T := by
 unfold Bk at *; rw [putCells_heap hb]; exact h
theorem enc_puts {α : Type} [GT α] {w : World} {c o : Nat} {cs ds : List Value} {x : α} {F : List Nat} (h : GT.enc w cs x F) (hc : c ∉ F) : GT.enc (putCells w c o ds) cs x F :=
 GT.keep h fun k hk => putCells_heap (fun e => hc (e ▸ hk))
theorem Bk.cellq {w : World} {b : Nat} {cs : List Value} {T : TypeId} (h : Bk w b cs T) (j : Nat) : w.cell? ⟨b, j, none⟩ = cs[j]? := by
 unfold Bk at h; simp [World.cell?, h]
/-- A block in which one cell alone was changed. -/
theorem Chg.one {b o : Nat} {F : List Nat} {a c : World} {cs : List Value} {T : TypeId} {v : Value} (h : Chg b o 1 F a c) (hb : Bk a b cs T) (ho : o < cs.length) (hv : c.cell? ⟨b, o, none⟩ = some v) : ∃ T', Bk c b (cs.set o v) T' := by
 obtain ⟨cs', T', hb'⟩ := h.2.2.2.2 b ⟨_, _, hb⟩
 have e : cs' = cs.set o v := by
  apply List.ext_getElem?
  intro j
  rw [← hb'.cellq j, List.getElem?_set]
  by_cases hj : o = j
  ·subst hj; rw [if_pos rfl, if_pos ho]; exact hv
  ·rw [if_neg hj, h.cell (by omega)]; exact hb.cellq j
 exact ⟨T', e ▸ hb'⟩
theorem encMachine {w : World} {m : Machine} {p0 p1 p2 v3 v4 v5 : Value} {FP F3 F4 F5 : List Nat} (hp : GT.enc w [p0, p1, p2] m.Plan FP) (h3 : Sl w v3 m.Programs F3) (h4 : Sl w v4 m.Cores F4) (h5 : Sl w v5 m.Holds F5) (r : rng m.Tick) : GT.enc w [p0, p1, p2, v3, v4, v5, .int .i64 m.Tick] m (FP ++ F3 ++ F4 ++ F5) := by
 obtain ⟨v0, v1, v2, F0, F1, F2, e, s0, s1, s2, rfl⟩ := hp
 simp only [List.cons.injEq] at e
 obtain ⟨rfl, rfl, rfl, _⟩ := e
 exact ⟨_, _, _, _, _, _, F0, F1, F2, F3, F4, F5, rfl, s0, s1, s2, h3, h4, h5, r, by simp [List.append_assoc]⟩
theorem Chg.enc {α : Type} [GT α] {b o n : Nat} {F G : List Nat} {a c : World} {cs : List Value} {x : α} (h : Chg b o n F a c) (hs : GT.enc a cs x G) (hb : b ∉ G) (hF : Apart G F) : GT.enc c cs x G :=
 GT.keep hs fun k hk => h.keep (GT.inh hs k hk) (fun e => hb (e ▸ hk)) (fun hm => hF k hk hm)
end Sk
