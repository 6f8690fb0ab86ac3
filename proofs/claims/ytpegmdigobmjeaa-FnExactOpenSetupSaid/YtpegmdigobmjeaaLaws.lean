/- The given statement FnExactOpenSetup holds of the given program for every input of its domain; no condition is added. -/
import Derived.Test.YtpegmdigobmjeaaChecked
import Derived.Test.YtpegmdigobmjeaaRows
import Derived.Test.YtpegmdigobmjeaaRead
import Derived.Test.YtpegmdigobmjeaaTypes
import Derived.Test.YtpegmdigobmjeaaRds
import Derived.Test.YtpegmdigobmjeaaExPol
import Derived.Test.YtpegmdigobmjeaaExBase
import Derived.Test.YtpegmdigobmjeaaLeastS
import Derived.Test.YtpegmdigobmjeaaGaps
import Derived.Test.YtpegmdigobmjeaaCutC
import Derived.Test.YtpegmdigobmjeaaBuild
import Derived.Test.YtpegmdigobmjeaaTot
import Derived.Test.YtpegmdigobmjeaaExReadSetup
import Derived.Test.YtpegmdigobmjeaaExOpenSetup
namespace Go.Proofs.Ytpegmdigobmjeaa
open Go.ChangeShapes Go.WideShapes Go.ChangeAt Go.RowKit Sk
set_option maxRecDepth 100000
set_option linter.unusedVariables false
theorem own_knob : ownKnob Try.prog.godebug = none := by kernel_rfl
theorem laid_out : laidOutB Try.prog = true := by kernel_rfl
theorem ts_ExactOpenSetup : ∀ t ∈ Try.f5.params.toList, Try.prog.readableRec t = true ∧ t < Try.prog.types.size := by
  rw [Try.params5]
  intro t ht
  rw [List.mem_cons, List.mem_cons] at ht
  rcases ht with rfl | rfl | ht
  · exact ⟨by kernel_rfl, of_decide_eq_true (by kernel_rfl)⟩
  · exact ⟨by kernel_rfl, of_decide_eq_true (by kernel_rfl)⟩
  · cases ht
theorem res_ExactOpenSetup : Try.f5.resultTypes = #[4] := by kernel_rfl
theorem contract_ExactOpenSetup (H : Type) (enc : TypeId × Value → H) (W : World) (base : Nat) (args : Array Value) (ds gs : List (DataW H)) (before : List MemPlace)
    (hval : ∀ (j : Nat) t v, Try.f5.params[j]? = some t → args[j]? = some v → Value.okWide Try.prog W .any base t v)
    (hW : DataW.Whole enc Try.prog Try.f5.params.toList Rows.fnExactOpenSetupSpec.vars false W args.toList ds gs before) :
    Calls Try.prog 5 args W fun e W' => ∃ v, e = .returned v ∧ Rows.fnExactOpenSetupSpec.post enc Try.prog Try.f5 false true false false W args v W' := by
  have hW' := hW
  obtain ⟨p, q, hA0, hV, rfl, hfz, hnd⟩ := hW
  have hA : DataW.TrodAll enc Try.prog W 0 (fun _ => true) true Try.f5.params.toList args.toList ds p := hA0
  rw [Try.params5] at hA hval
  obtain ⟨v0, vs0, d0, ds0, p0, q0, hargs, rfl, rfl, h0, r0⟩ := trodAll_cons hA
  obtain ⟨v1, vs1, d1, ds1, p1, q1, rfl, rfl, rfl, h1, r1⟩ := trodAll_cons r0
  obtain ⟨rfl, rfl, rfl⟩ := trodAll_nil r1
  obtain rfl : args = #[v0, v1] := by cases args; simp_all
  obtain ⟨rfl, rfl⟩ := trodVars_none hV
  obtain ⟨a0, len0, cap0, rfl⟩ := okWide_slice Try.underlying22 (hval 0 22 v0 rfl rfl)
  obtain ⟨fuel0, hf0⟩ := h0
  obtain ⟨x0, F0, u0, hv0, hs0⟩ := rd_IntS.rd hf0
  simp only [Value.cells] at hv0
  obtain rfl : Value.slice a0 len0 cap0 = u0 := by simpa using hv0
  obtain ⟨n1, rfl, rfl, rfl, wn1⟩ := open_int Try.underlying3 (hval 1 3 v1 rfl rfl) h1
  refine (lawExactOpenSetup _ x0 n1 W ⟨F0, hs0⟩ (rng_of_wf wn1)).mono fun e W' ⟨he, hg⟩ => ?_
  subst he
  exact ⟨_, rfl, law_post laid_out rfl ts_ExactOpenSetup res_ExactOpenSetup Try.underlying4 hW' rfl rfl rfl hg⟩
theorem lifted_ExactOpenSetup (os : Os) (started : os.Started) (H : Type) (enc : TypeId × Value → H) :
    ReturnsInHanded {} Try.checked os 5 .any (Rows.fnExactOpenSetupSpec.pre6 enc Try.prog Try.f5 Rows.fnExactOpenSetupRow.domain false) (Rows.fnExactOpenSetupSpec.post enc Try.prog Try.f5 false true false false) := by
  refine returnsInHanded_of_change (C := Try.checked) own_knob started (by kernel_rfl) Try.func5
    (ChangeSpec.witness6 (enc := enc) (C := Try.checked) false ⟨#[], #[.slice none 0 0, .int .i64 0], []⟩ 8 (by kernel_rfl) (by kernel_rfl) (by kernel_rfl) (by kernel_rfl)) ?_
  intro W base args ds gs before hval hW _ _
  exact contract_ExactOpenSetup H enc W base args ds gs before hval hW
theorem law_FnExactOpenSetup : Rows.FnExactOpenSetupSaid :=
  OpenClaim.holds_of_wide 5 Try.f5 rfl rfl rfl rfl rfl rfl rfl ⟨rfl, rfl, rfl, rfl, rfl⟩ rfl rfl rfl rfl rfl (by kernel_rfl) Try.func5 (by kernel_rfl)
    (of_decide_eq_true (by kernel_rfl)) (by unfold Func.isWrapper; first | (rw [if_pos (by decide +kernel)]; kernel_rfl) | (rw [if_neg (by decide +kernel)]; exact ⟨rfl, rfl⟩))
    (fun os started H enc _ => lifted_ExactOpenSetup os started H enc)
end Go.Proofs.Ytpegmdigobmjeaa

