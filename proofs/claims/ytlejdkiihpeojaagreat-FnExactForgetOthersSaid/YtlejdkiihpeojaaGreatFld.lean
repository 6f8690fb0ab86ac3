/- Contracts of functions of the given program, and lemmas for them: each theorem states the condition under which it holds. -/
import Derived.Test.YtlejdkiihpeojaaGreatLens
namespace Sk
open Go Go.RowKit
set_option linter.unusedVariables false
set_option linter.unusedSimpArgs false
theorem Om.lMachinePrograms {L : Nat} {w : World} {b o : Nat} {x : Machine} {F : List Nat} (h : Om L w b o x F) : ∃ Fy, Lens w b o x F b (o + 3) x.Programs Fy (fun y => { x with Programs := y }) := by
 obtain ⟨cs, ⟨v0, v1, v2, v3, v4, v5, F0, F1, F2, F3, F4, F5, rfl, h0, h1, h2, h3, h4, h5, r6, rfl⟩, hat, ho⟩ := h
 refine ⟨F3, ?_⟩
 have hl := Lens.field (x := x) (y := x.Programs) (put := fun y => { x with Programs := y }) (A := [v0, v1, v2]) (csy := [v3]) (B := [v4, v5, .int .i64 x.Tick]) (F1 := F0 ++ (F1 ++ F2)) (Fy := F3) (F2 := F4 ++ F5) 3 rfl rfl (by simpa using hat) (by simpa [List.append_assoc] using ho.1) (fun k hk => ho.lt (by simpa [List.append_assoc] using hk)) ⟨_, rfl, h3⟩ ?_
 ·simpa [List.append_assoc] using hl
 ·intro w' csy' y' Fy' hk hy
  obtain ⟨v, rfl, k⟩ := hy
  exact ⟨_, _, _, _, _, _, _, _, _, _, _, _, rfl, h0.keep (fun k h => hk k (by simp [h])), h1.keep (fun k h => hk k (by simp [h])), h2.keep (fun k h => hk k (by simp [h])), k, h4.keep (fun k h => hk k (by simp [h])), h5.keep (fun k h => hk k (by simp [h])), r6, by simp [List.append_assoc]⟩
theorem Om.lMachineCores {L : Nat} {w : World} {b o : Nat} {x : Machine} {F : List Nat} (h : Om L w b o x F) : ∃ Fy, Lens w b o x F b (o + 4) x.Cores Fy (fun y => { x with Cores := y }) := by
 obtain ⟨cs, ⟨v0, v1, v2, v3, v4, v5, F0, F1, F2, F3, F4, F5, rfl, h0, h1, h2, h3, h4, h5, r6, rfl⟩, hat, ho⟩ := h
 refine ⟨F4, ?_⟩
 have hl := Lens.field (x := x) (y := x.Cores) (put := fun y => { x with Cores := y }) (A := [v0, v1, v2, v3]) (csy := [v4]) (B := [v5, .int .i64 x.Tick]) (F1 := F0 ++ (F1 ++ (F2 ++ F3))) (Fy := F4) (F2 := F5) 4 rfl rfl (by simpa using hat) (by simpa [List.append_assoc] using ho.1) (fun k hk => ho.lt (by simpa [List.append_assoc] using hk)) ⟨_, rfl, h4⟩ ?_
 ·simpa [List.append_assoc] using hl
 ·intro w' csy' y' Fy' hk hy
  obtain ⟨v, rfl, k⟩ := hy
  exact ⟨_, _, _, _, _, _, _, _, _, _, _, _, rfl, h0.keep (fun k h => hk k (by simp [h])), h1.keep (fun k h => hk k (by simp [h])), h2.keep (fun k h => hk k (by simp [h])), h3.keep (fun k h => hk k (by simp [h])), k, h5.keep (fun k h => hk k (by simp [h])), r6, by simp [List.append_assoc]⟩
theorem Om.lMachineHolds {L : Nat} {w : World} {b o : Nat} {x : Machine} {F : List Nat} (h : Om L w b o x F) : ∃ Fy, Lens w b o x F b (o + 5) x.Holds Fy (fun y => { x with Holds := y }) := by
 obtain ⟨cs, ⟨v0, v1, v2, v3, v4, v5, F0, F1, F2, F3, F4, F5, rfl, h0, h1, h2, h3, h4, h5, r6, rfl⟩, hat, ho⟩ := h
 refine ⟨F5, ?_⟩
 have hl := Lens.field (x := x) (y := x.Holds) (put := fun y => { x with Holds := y }) (A := [v0, v1, v2, v3, v4]) (csy := [v5]) (B := [.int .i64 x.Tick]) (F1 := F0 ++ (F1 ++ (F2 ++ (F3 ++ F4)))) (Fy := F5) (F2 := []) 5 rfl rfl (by simpa using hat) (by simpa [List.append_assoc] using ho.1) (fun k hk => ho.lt (by simpa [List.append_assoc] using hk)) ⟨_, rfl, h5⟩ ?_
 ·simpa [List.append_assoc] using hl
 ·intro w' csy' y' Fy' hk hy
  obtain ⟨v, rfl, k⟩ := hy
  exact ⟨_, _, _, _, _, _, _, _, _, _, _, _, rfl, h0.keep (fun k h => hk k (by simp [h])), h1.keep (fun k h => hk k (by simp [h])), h2.keep (fun k h => hk k (by simp [h])), h3.keep (fun k h => hk k (by simp [h])), h4.keep (fun k h => hk k (by simp [h])), k, r6, by simp [List.append_assoc]⟩
end Sk
