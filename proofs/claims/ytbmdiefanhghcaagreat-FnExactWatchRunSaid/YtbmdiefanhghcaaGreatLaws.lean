/- The given statement FnExactWatchRun holds of the given program for every input of its domain; no condition is added. -/
import Derived.Test.YtbmdiefanhghcaaGreatChecked
import Derived.Test.YtbmdiefanhghcaaGreatRows
import Derived.Test.YtbmdiefanhghcaaGreatOwn
import Derived.Test.YtbmdiefanhghcaaGreatTypes
import Derived.Test.YtbmdiefanhghcaaGreatApp
import Derived.Test.YtbmdiefanhghcaaGreatExWatchRun
namespace Go.Proofs.YtbmdiefanhghcaaGreat
open Go.ChangeShapes Go.WideShapes Go.ChangeAt Go.RowKit Sk
set_option maxRecDepth 100000
set_option linter.unusedVariables false
theorem own_knob : ownKnob Tryz.prog.godebug = none := by kernel_rfl
theorem laid_out : laidOutB Tryz.prog = true := by kernel_rfl
theorem ts_ExactWatchRun : ∀ t ∈ Tryz.f3.params.toList, Tryz.prog.readableRec t = true ∧ t < Tryz.prog.types.size := by
 rw [Tryz.params3]
 intro t ht
 rw [List.mem_cons, List.mem_cons, List.mem_cons] at ht
 rcases ht with rfl | rfl | rfl | ht
 ·exact ⟨by kernel_rfl, of_decide_eq_true (by kernel_rfl)⟩
 ·exact ⟨by kernel_rfl, of_decide_eq_true (by kernel_rfl)⟩
 ·exact ⟨by kernel_rfl, of_decide_eq_true (by kernel_rfl)⟩
 ·cases ht
theorem res_ExactWatchRun : Tryz.f3.resultTypes = #[4] := by kernel_rfl
theorem contract_ExactWatchRun (H : Type) (enc : TypeId × Value → H) (W : World) (base : Nat) (args : Array Value) (ds gs : List (DataW H)) (before : List MemPlace)
  (hval : ∀ (j : Nat) t v, Tryz.f3.params[j]? = some t → args[j]? = some v → Value.okWide Tryz.prog W .any base t v)
  (hW : DataW.Whole enc Tryz.prog Tryz.f3.params.toList Rows.fnExactWatchRunSpec.vars false W args.toList ds gs before) :
  Calls Tryz.prog 3 args W fun e W' => ∃ v, e = .returned v ∧ Rows.fnExactWatchRunSpec.post enc Tryz.prog Tryz.f3 false true false false W args v W' := by
 have hW' := hW
 obtain ⟨p, q, hA0, hV, rfl, hfz, hnd⟩ := hW
 have hA : DataW.TrodAll enc Tryz.prog W 0 (fun _ => true) true Tryz.f3.params.toList args.toList ds p := hA0
 rw [Tryz.params3] at hA hval
 obtain ⟨v0, vs0, d0, ds0, p0, q0, hargs, rfl, rfl, h0, r0⟩ := trodAll_cons hA
 obtain ⟨v1, vs1, d1, ds1, p1, q1, rfl, rfl, rfl, h1, r1⟩ := trodAll_cons r0
 obtain ⟨v2, vs2, d2, ds2, p2, q2, rfl, rfl, rfl, h2, r2⟩ := trodAll_cons r1
 obtain ⟨rfl, rfl, rfl⟩ := trodAll_nil r2
 obtain rfl : args = #[v0, v1, v2] := by cases args; simp_all
 obtain ⟨rfl, rfl⟩ := trodVars_none hV
 obtain ⟨cs0, rfl, hz0⟩ := okWide_struct Tryz.underlying34 (hval 0 34 v0 rfl rfl)
 obtain ⟨fuel0, hf0⟩ := h0
 obtain ⟨x0, F0, e0⟩ := rd_Watch.rd hf0
 simp only [Value.cells] at e0
 obtain ⟨a1, len1, cap1, rfl⟩ := okWide_slice Tryz.underlying35 (hval 1 35 v1 rfl rfl)
 obtain ⟨fuel1, hf1⟩ := h1
 obtain ⟨x1, F1, u1, hv1, hs1⟩ := rd_IntS.rd hf1
 simp only [Value.cells] at hv1
 obtain rfl : Value.slice a1 len1 cap1 = u1 := by simpa using hv1
 obtain ⟨n2, rfl, rfl, rfl, wn2⟩ := open_int Tryz.underlying3 (hval 2 3 v2 rfl rfl) h2
 refine (lawExactWatchRun _ x0 _ x1 n2 W ⟨cs0.toList, F0, by simp, e0⟩ ⟨F1, hs1⟩ (rng_of_wf wn2)).mono fun e W' ⟨he, hg⟩ => ?_
 subst he
 exact ⟨_, rfl, law_post laid_out rfl ts_ExactWatchRun res_ExactWatchRun Tryz.underlying4 hW' rfl rfl rfl hg⟩
theorem lifted_ExactWatchRun (os : Os) (started : os.Started) (H : Type) (enc : TypeId × Value → H) :
  ReturnsInHanded {} Tryz.checked os 3 .any (Rows.fnExactWatchRunSpec.pre6 enc Tryz.prog Tryz.f3 Rows.fnExactWatchRunRow.domain false) (Rows.fnExactWatchRunSpec.post enc Tryz.prog Tryz.f3 false true false false) := by
 refine returnsInHanded_of_change (C := Tryz.checked) own_knob started (by kernel_rfl) Tryz.func3
  (ChangeSpec.witness6 (enc := enc) (C := Tryz.checked) false ⟨#[], #[.agg #[.slice none 0 0, .slice none 0 0, .slice none 0 0, .slice none 0 0, .slice none 0 0, .slice none 0 0, .int .i64 0, .slice none 0 0], .slice none 0 0, .int .i64 0], []⟩ 8 (by kernel_rfl) (by kernel_rfl) (by kernel_rfl) (by kernel_rfl)) ?_
 intro W base args ds gs before hval hW _ _
 exact contract_ExactWatchRun H enc W base args ds gs before hval hW
theorem law_FnExactWatchRun : Rows.FnExactWatchRunSaid :=
 OpenClaim.holds_of_wide 3 Tryz.f3 rfl rfl rfl rfl rfl rfl rfl ⟨rfl, rfl, rfl, rfl, rfl⟩ rfl rfl rfl rfl rfl (by kernel_rfl) Tryz.func3 (by kernel_rfl)
  (of_decide_eq_true (by kernel_rfl)) (by unfold Func.isWrapper; first | (rw [if_pos (by decide +kernel)]; kernel_rfl) | (rw [if_neg (by decide +kernel)]; exact ⟨rfl, rfl⟩))
  (fun os started H enc _ => lifted_ExactWatchRun os started H enc)
end Go.Proofs.YtbmdiefanhghcaaGreat

