/- Contracts of functions of the given program, and lemmas for them: each theorem states the condition under which it holds. -/
import Derived.Test.YtpegmdigobmjeaaChecked
import Derived.Test.YtpegmdigobmjeaaHelp
namespace Sk
open Go Go.Proofs Go.RowKit
set_option maxHeartbeats 400000
set_option maxRecDepth 100000
set_option linter.unusedVariables false
set_option linter.unusedSimpArgs false
theorem Rv.mkPart {w : World} {x : Part} {v0 : Value} (h0 : Rs w v0 x.Windows) (r1 : rng x.Cells) : Rv w (.agg #[v0, .int .i64 x.Cells]) x := by
  obtain ⟨F0, h0⟩ := h0
  exact ⟨_, _, rfl, _, rfl, h0, r1⟩
theorem Oe.mkPart {w : World} {x : Part} {v0 : Value} {M0 M1 : Nat} (p0 : Oe M0 M1 w [v0] x.Windows) (r1 : rng x.Cells) : Oe M0 M1 w [v0, .int .i64 x.Cells] x := by
  obtain ⟨F0, ⟨u0, e0, h0⟩, s0⟩ := p0
  obtain rfl : v0 = u0 := by simpa using e0
  have s := s0
  refine ⟨_, ⟨_, rfl, h0, r1⟩, ?_⟩
  exact s
theorem Rv.mkSetup {w : World} {x : Setup} {v0 v1 v2 : Value} (h0 : Rs w v0 x.Parts) (h1 : Rs w v1 x.Channels) (h2 : Rs w v2 x.Slots)  : Rv w (.agg #[v0, v1, v2]) x := by
  obtain ⟨F0, h0⟩ := h0
  obtain ⟨F1, h1⟩ := h1
  obtain ⟨F2, h2⟩ := h2
  exact ⟨_, _, rfl, _, _, _, _, _, _, rfl, h0, h1, h2, rfl⟩
theorem Oe.mkSetup {w : World} {x : Setup} {v0 v1 v2 : Value} {M0 M1 M2 M3 : Nat} (p0 : Oe M0 M1 w [v0] x.Parts) (p1 : Oe M1 M2 w [v1] x.Channels) (p2 : Oe M2 M3 w [v2] x.Slots) : Oe M0 M3 w [v0, v1, v2] x := by
  obtain ⟨F0, ⟨u0, e0, h0⟩, s0⟩ := p0
  obtain rfl : v0 = u0 := by simpa using e0
  obtain ⟨F1, ⟨u1, e1, h1⟩, s1⟩ := p1
  obtain rfl : v1 = u1 := by simpa using e1
  obtain ⟨F2, ⟨u2, e2, h2⟩, s2⟩ := p2
  obtain rfl : v2 = u2 := by simpa using e2
  have s := s0.app (s1.app (s2))
  refine ⟨_, ⟨_, _, _, _, _, _, rfl, h0, h1, h2, rfl⟩, ?_⟩
  exact s
end Sk

