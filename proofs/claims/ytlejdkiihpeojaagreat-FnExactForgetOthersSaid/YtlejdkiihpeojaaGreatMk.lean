/- Contracts of functions of the given program, and lemmas for them: each theorem states the condition under which it holds. -/
import Derived.Test.YtlejdkiihpeojaaGreatChecked
import Derived.Test.YtlejdkiihpeojaaGreatNums
namespace Sk
open Go Go.Proofs Go.RowKit
set_option maxHeartbeats 400000
set_option maxRecDepth 100000
set_option linter.unusedVariables false
set_option linter.unusedSimpArgs false
theorem Oe.mkPart {w : World} {x : Part} {v0 : Value} {M0 M1 : Nat} (p0 : Oe M0 M1 w [v0] x.Windows) (r1 : rng x.Cells) : Oe M0 M1 w [v0, .int .i64 x.Cells] x := by
 obtain ⟨F0, ⟨u0, e0, h0⟩, s0⟩ := p0
 obtain rfl : v0 = u0 := by simpa using e0
 have s := s0
 refine ⟨_, ⟨_, rfl, h0, r1⟩, ?_⟩
 exact s
theorem Rv.mkSetup {w : World} {x : Setup} {v0 v1 v2 : Value} (h0 : Rs w v0 x.Parts) (h1 : Rs w v1 x.Channels) (h2 : Rs w v2 x.Slots)  : Rv w (.agg #[v0, v1, v2]) x := by
 obtain ⟨F0, h0⟩ := h0
 obtain ⟨F1, h1⟩ := h1
 obtain ⟨F2, h2⟩ := h2
 exact ⟨_, _, rfl, _, _, _, _, _, _, rfl, h0, h1, h2, rfl⟩
theorem Oe.mkSetup {w : World} {x : Setup} {v0 v1 v2 : Value} {M0 M1 M2 M3 : Nat} (p0 : Oe M0 M1 w [v0] x.Parts) (p1 : Oe M1 M2 w [v1] x.Channels) (p2 : Oe M2 M3 w [v2] x.Slots) : Oe M0 M3 w [v0, v1, v2] x := by
 obtain ⟨F0, ⟨u0, e0, h0⟩, s0⟩ := p0
 obtain rfl : v0 = u0 := by simpa using e0
 obtain ⟨F1, ⟨u1, e1, h1⟩, s1⟩ := p1
 obtain rfl : v1 = u1 := by simpa using e1
 obtain ⟨F2, ⟨u2, e2, h2⟩, s2⟩ := p2
 obtain rfl : v2 = u2 := by simpa using e2
 have s := s0.app (s1.app (s2))
 refine ⟨_, ⟨_, _, _, _, _, _, rfl, h0, h1, h2, rfl⟩, ?_⟩
 exact s
theorem Oe.mkCore {w : World} {x : Core} {v0 : Value} {M0 M1 : Nat} (p0 : Oe M0 M1 w [v0] x.Cells) (r1 : rng x.At) : Oe M0 M1 w [v0, .int .i64 x.At, .bool x.Stopped] x := by
 obtain ⟨F0, ⟨u0, e0, h0⟩, s0⟩ := p0
 obtain rfl : v0 = u0 := by simpa using e0
 have s := s0
 refine ⟨_, ⟨_, rfl, h0, r1⟩, ?_⟩
 exact s
theorem Oe.mkHold {w : World} {x : Hold} {v0 : Value} {M0 M1 : Nat} (p0 : Oe M0 M1 w [v0] x.Lst) : Oe M0 M1 w [v0] x := by
 obtain ⟨F0, ⟨u0, e0, h0⟩, s0⟩ := p0
 obtain rfl : v0 = u0 := by simpa using e0
 have s := s0
 refine ⟨_, ⟨_, rfl, h0⟩, ?_⟩
 exact s
theorem Oe.mkMachine {w : World} {x : Machine} {v0 v1 v2 v3 v4 v5 : Value} {M0 M1 M2 M3 M4 : Nat} (p0 : Oe M0 M1 w [v0, v1, v2] x.Plan) (p1 : Oe M1 M2 w [v3] x.Programs) (p2 : Oe M2 M3 w [v4] x.Cores) (p3 : Oe M3 M4 w [v5] x.Holds) (r6 : rng x.Tick) : Oe M0 M4 w [v0, v1, v2, v3, v4, v5, .int .i64 x.Tick] x := by
 obtain ⟨FF, ⟨u0, u1, u2, F0, F1, F2, e0, h0, h1, h2, rfl⟩, s0⟩ := p0
 simp only [List.cons.injEq, and_true, true_and] at e0
 obtain ⟨rfl, rfl, rfl⟩ := e0
 obtain ⟨F3, ⟨u3, e3, h3⟩, s1⟩ := p1
 obtain rfl : v3 = u3 := by simpa using e3
 obtain ⟨F4, ⟨u4, e4, h4⟩, s2⟩ := p2
 obtain rfl : v4 = u4 := by simpa using e4
 obtain ⟨F5, ⟨u5, e5, h5⟩, s3⟩ := p3
 obtain rfl : v5 = u5 := by simpa using e5
 have s := s0.app (s1.app (s2.app (s3)))
 refine ⟨_, ⟨_, _, _, _, _, _, _, _, _, _, _, _, rfl, h0, h1, h2, h3, h4, h5, r6, rfl⟩, ?_⟩
 simpa only [List.append_assoc] using s
end Sk
