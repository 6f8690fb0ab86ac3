/- The given statement FnExactWatchTick holds of the given program for every input of its domain; no condition is added. -/
import Derived.Test.YtbmdiefanhghcaaGreatChecked
import Derived.Test.YtbmdiefanhghcaaGreatRows
import Derived.Test.YtbmdiefanhghcaaGreatOwn
import Derived.Test.YtbmdiefanhghcaaGreatTypes
import Derived.Test.YtbmdiefanhghcaaGreatApp
import Derived.Test.YtbmdiefanhghcaaGreatExWatchTick
namespace Go.Proofs.YtbmdiefanhghcaaGreat
open Go.ChangeShapes Go.WideShapes Go.ChangeAt Go.RowKit Sk
set_option maxRecDepth 100000
set_option linter.unusedVariables false
theorem own_knob : ownKnob Tryz.prog.godebug = none := by kernel_rfl
theorem laid_out : laidOutB Tryz.prog = true := by kernel_rfl
theorem ts_ExactWatchTick : ∀ t ∈ Tryz.f4.params.toList, Tryz.prog.readableRec t = true ∧ t < Tryz.prog.types.size := by
 rw [Tryz.params4]
 intro t ht
 rw [List.mem_cons, List.mem_cons] at ht
 rcases ht with rfl | rfl | ht
 ·exact ⟨by kernel_rfl, of_decide_eq_true (by kernel_rfl)⟩
 ·exact ⟨by kernel_rfl, of_decide_eq_true (by kernel_rfl)⟩
 ·cases ht
theorem res_ExactWatchTick : Tryz.f4.resultTypes = #[4] := by kernel_rfl
theorem contract_ExactWatchTick (H : Type) (enc : TypeId × Value → H) (W : World) (base : Nat) (args : Array Value) (ds gs : List (DataW H)) (before : List MemPlace)
  (hval : ∀ (j : Nat) t v, Tryz.f4.params[j]? = some t → args[j]? = some v → Value.okWide Tryz.prog W .any base t v)
  (hW : DataW.Whole enc Tryz.prog Tryz.f4.params.toList Rows.fnExactWatchTickSpec.vars false W args.toList ds gs before) :
  Calls Tryz.prog 4 args W fun e W' => ∃ v, e = .returned v ∧ Rows.fnExactWatchTickSpec.post enc Tryz.prog Tryz.f4 false true false false W args v W' := by
 have hW' := hW
 obtain ⟨p, q, hA0, hV, rfl, hfz, hnd⟩ := hW
 have hA : DataW.TrodAll enc Tryz.prog W 0 (fun _ => true) true Tryz.f4.params.toList args.toList ds p := hA0
 rw [Tryz.params4] at hA hval
 obtain ⟨v0, vs0, d0, ds0, p0, q0, hargs, rfl, rfl, h0, r0⟩ := trodAll_cons hA
 obtain ⟨v1, vs1, d1, ds1, p1, q1, rfl, rfl, rfl, h1, r1⟩ := trodAll_cons r0
 obtain ⟨rfl, rfl, rfl⟩ := trodAll_nil r1
 obtain rfl : args = #[v0, v1] := by cases args; simp_all
 obtain ⟨rfl, rfl⟩ := trodVars_none hV
 obtain ⟨cs0, rfl, hz0⟩ := okWide_struct Tryz.underlying34 (hval 0 34 v0 rfl rfl)
 obtain ⟨fuel0, hf0⟩ := h0
 obtain ⟨x0, F0, e0⟩ := rd_Watch.rd hf0
 simp only [Value.cells] at e0
 obtain ⟨a1, len1, cap1, rfl⟩ := okWide_slice Tryz.underlying35 (hval 1 35 v1 rfl rfl)
 obtain ⟨fuel1, hf1⟩ := h1
 obtain ⟨x1, F1, u1, hv1, hs1⟩ := rd_IntS.rd hf1
 simp only [Value.cells] at hv1
 obtain rfl : Value.slice a1 len1 cap1 = u1 := by simpa using hv1
 refine (lawExactWatchTick _ x0 _ x1 W ⟨cs0.toList, F0, by simp, e0⟩ ⟨F1, hs1⟩).mono fun e W' ⟨he, hg⟩ => ?_
 subst he
 exact ⟨_, rfl, law_post laid_out rfl ts_ExactWatchTick res_ExactWatchTick Tryz.underlying4 hW' rfl rfl rfl hg⟩
theorem lifted_ExactWatchTick (os : Os) (started : os.Started) (H : Type) (enc : TypeId × Value → H) :
  ReturnsInHanded {} Tryz.checked os 4 .any (Rows.fnExactWatchTickSpec.pre6 enc Tryz.prog Tryz.f4 Rows.fnExactWatchTickRow.domain false) (Rows.fnExactWatchTickSpec.post enc Tryz.prog Tryz.f4 false true false false) := by
 refine returnsInHanded_of_change (C := Tryz.checked) own_knob started (by kernel_rfl) Tryz.func4
  (ChangeSpec.witness6 (enc := enc) (C := Tryz.checked) false ⟨#[], #[.agg #[.slice none 0 0, .slice none 0 0, .slice none 0 0, .slice none 0 0, .slice none 0 0, .slice none 0 0, .int .i64 0, .slice none 0 0], .slice none 0 0], []⟩ 8 (by kernel_rfl) (by kernel_rfl) (by kernel_rfl) (by kernel_rfl)) ?_
 intro W base args ds gs before hval hW _ _
 exact contract_ExactWatchTick H enc W base args ds gs before hval hW
theorem law_FnExactWatchTick : Rows.FnExactWatchTickSaid :=
 OpenClaim.holds_of_wide 4 Tryz.f4 rfl rfl rfl rfl rfl rfl rfl ⟨rfl, rfl, rfl, rfl, rfl⟩ rfl rfl rfl rfl rfl (by kernel_rfl) Tryz.func4 (by kernel_rfl)
  (of_decide_eq_true (by kernel_rfl)) (by unfold Func.isWrapper; first | (rw [if_pos (by decide +kernel)]; kernel_rfl) | (rw [if_neg (by decide +kernel)]; exact ⟨rfl, rfl⟩))
  (fun os started H enc _ => lifted_ExactWatchTick os started H enc)
end Go.Proofs.YtbmdiefanhghcaaGreat

