/- Contracts of functions of the given program, each under the condition that it states. -/
import Derived.Test.YtfihgkjbjpodnaaChecked
import Derived.Deep.CutBlock
import Derived.Deep.CutRange
import Derived.Test.YtfihgkjbjpodnaaFrame
import Derived.Test.YtfihgkjbjpodnaaBuild
import Derived.Test.YtfihgkjbjpodnaaAcc
import Derived.Test.YtfihgkjbjpodnaaNums
import Derived.Test.YtfihgkjbjpodnaaFld
import Derived.Test.YtfihgkjbjpodnaaApp
import Derived.Test.YtfihgkjbjpodnaaScal
import Derived.Test.YtfihgkjbjpodnaaSetupS
import Derived.Test.YtfihgkjbjpodnaaMachV
namespace Sk
open Go Go.Proofs Go.RowKit
set_option maxHeartbeats 1500000
set_option maxRecDepth 100000
set_option linter.unusedVariables false
set_option linter.unusedSimpArgs false
def M.send (x : Hold) (k s m : Int) : Hold × Int :=
 if k = 1 then (⟨[m]⟩, 0) else if (x.Lst.length : Int) < s then (⟨x.Lst ++ [m]⟩, 0) else (x, M.bit (k == 3))
def M.take (x : Hold) (k : Int) : Hold × Int :=
 match x.Lst with
 | [] => (x, -1)
 | m :: rest => if k = 1 then (x, m) else (⟨rest⟩, m)
theorem M.send1 {x : Hold} {k s m : Int} (h : k = 1) : M.send x k s m = (⟨[m]⟩, 0) := if_pos h
theorem M.send2 {x : Hold} {k s m : Int} (h : ¬ k = 1) (h2 : (x.Lst.length : Int) < s) : M.send x k s m = (⟨x.Lst ++ [m]⟩, 0) := by unfold M.send; rw [if_neg h, if_pos h2]
theorem M.send3 {x : Hold} {k s m : Int} (h : ¬ k = 1) (h2 : ¬ (x.Lst.length : Int) < s) : M.send x k s m = (x, M.bit (k == 3)) := by unfold M.send; rw [if_neg h, if_neg h2]
theorem M.take0 {x : Hold} {k : Int} (h : x.Lst = []) : M.take x k = (x, -1) := by unfold M.take; rw [h]
theorem M.take1 {x : Hold} {k m : Int} {r : List Int} (h : x.Lst = m :: r) (hk : k = 1) : M.take x k = (x, m) := by unfold M.take; rw [h]; exact if_pos hk
theorem M.take2 {x : Hold} {k m : Int} {r : List Int} (h : x.Lst = m :: r) (hk : ¬ k = 1) : M.take x k = (⟨r⟩, m) := by unfold M.take; rw [h]; exact if_neg hk
theorem Ov.hold {L : Nat} {w : World} {v : Value} {xs : List Int} (h : Os L w v xs) : Ov L w (.agg #[v]) (⟨xs⟩ : Hold) := by
 obtain ⟨F, h, ho⟩ := h; exact ⟨[v], F, rfl, ⟨v, rfl, h⟩, ho⟩
theorem Os.lit1 (w : World) (x : Int) (hr : rng x) : Os w.heap.size (w.alloc (.cells #[.int .i64 x] 3)) (.slice (some ⟨w.heap.size, 0, none⟩) 1 1) [x] := by
 have h := Oa.lit (α := Int) 3 w [.int .i64 x] [x] (n := 1) rfl (by simp [GT.sz]) (by simp) (Row.lit1 (cs := [_]) ⟨rfl, hr, rfl⟩) (fun k hk => by cases hk)
 exact h.os (Own.nil _ _)
theorem Os.setLow {α : Type} [GT α] {L : Nat} {w : World} {v : Value} {xs : List α} (h : Os L w v xs) {p : Addr} (hp : p.block < L) (u : Value) : Os L (w.setCell p u) v xs := by
 obtain ⟨F, h1, h2⟩ := h
 exact ⟨F, h1.set (fun hm => by have := (h2.2 _ hm).1; omega) u, h2.set p u⟩
theorem cell_setB {w : World} {b o k j : Nat} {u : Value} (h : b ≠ k) : (w.setCell ⟨k, j, none⟩ u).cell? ⟨b, o, none⟩ = w.cell? ⟨b, o, none⟩ := World.cell?_of_block (heap_set_ne h)
set_option maxHeartbeats 4000000
theorem Bk.putsAux {b : Nat} {T : TypeId} (cs : List Value) : ∀ {w : World} (pre rest : List Value), Bk w b (pre ++ rest) T → cs.length = rest.length → Bk (putCells w b pre.length cs) b (pre ++ cs) T := by
 induction cs with
 | nil => intro w pre rest h hl; obtain rfl : rest = [] := List.length_eq_zero_iff.1 hl.symm; exact h
 | cons c cs ih =>
  intro w pre rest h hl
  cases rest with
  | nil => cases hl
  | cons r rest =>
   have h1 := h.set pre.length c
   rw [List.set_append_right _ _ (Nat.le_refl _), Nat.sub_self, List.set_cons_zero] at h1
   have h2 := ih (w := w.setCell ⟨b, pre.length, none⟩ c) (pre ++ [c]) rest (by simpa using h1) (by simpa using hl)
   rw [List.length_append, List.length_singleton] at h2
   rw [putCells]
   simpa using h2
theorem Bk.puts {w : World} {b : Nat} {cs0 : List Value} {T : TypeId} (h : Bk w b cs0 T) (cs : List Value) (hl : cs.length = cs0.length) : Bk (putCells w b 0 cs) b cs T := by
 have := Bk.putsAux cs (w := w) [] cs0 h hl
 simpa using this
theorem Bk.puts_ne {w : World} {b c o : Nat} {cs ds : List Value} {T : TypeId} (h : Bk w b cs T) (hb : b ≠ c) : Bk (putCells w c o ds) b cs T := by
 unfold Bk at *; rw [putCells_heap hb]; exact h
theorem enc_puts {α : Type} [GT α] {w : World} {c o : Nat} {cs ds : List Value} {x : α} {F : List Nat} (h : GT.enc w cs x F) (hc : c ∉ F) : GT.enc (putCells w c o ds) cs x F :=
 GT.keep h fun k hk => putCells_heap (fun e => hc (e ▸ hk))
theorem Sl.puts {α : Type} [GT α] {w : World} {c o : Nat} {v : Value} {ds : List Value} {x : List α} {F : List Nat} (h : Sl w v x F) (hc : c ∉ F) : Sl (putCells w c o ds) v x F :=
 h.keep fun k hk => putCells_heap (fun e => hc (e ▸ hk))
theorem Bk.cellq {w : World} {b : Nat} {cs : List Value} {T : TypeId} (h : Bk w b cs T) (j : Nat) : w.cell? ⟨b, j, none⟩ = cs[j]? := by
 unfold Bk at h; simp [World.cell?, h]
theorem Chg.one {b o : Nat} {F : List Nat} {a c : World} {cs : List Value} {T : TypeId} {v : Value} (h : Chg b o 1 F a c) (hb : Bk a b cs T) (ho : o < cs.length) (hv : c.cell? ⟨b, o, none⟩ = some v) : ∃ T', Bk c b (cs.set o v) T' := by
 obtain ⟨cs', T', hb'⟩ := h.fzk b ⟨_, _, hb⟩
 have e : cs' = cs.set o v := by
  apply List.ext_getElem?
  intro j
  rw [← hb'.cellq j, List.getElem?_set]
  by_cases hj : o = j
  ·subst hj; rw [if_pos rfl, if_pos ho]; exact hv
  ·rw [if_neg hj, h.cell (by omega)]; exact hb.cellq j
 exact ⟨T', e ▸ hb'⟩
theorem encMachine {w : World} {m : Machine} {p0 p1 p2 v3 v4 v5 : Value} {FP F3 F4 F5 : List Nat} (hp : GT.enc w [p0, p1, p2] m.Plan FP) (h3 : Sl w v3 m.Programs F3) (h4 : Sl w v4 m.Cores F4) (h5 : Sl w v5 m.Holds F5) (r : rng m.Tick) : GT.enc w [p0, p1, p2, v3, v4, v5, .int .i64 m.Tick] m (FP ++ F3 ++ F4 ++ F5) := by
 obtain ⟨v0, v1, v2, F0, F1, F2, e, s0, s1, s2, rfl⟩ := hp
 simp only [List.cons.injEq] at e
 obtain ⟨rfl, rfl, rfl, _⟩ := e
 exact ⟨_, _, _, _, _, _, F0, F1, F2, F3, F4, F5, rfl, s0, s1, s2, h3, h4, h5, r, by simp [List.append_assoc]⟩
theorem Chg.enc {α : Type} [GT α] {b o n : Nat} {F G : List Nat} {a c : World} {cs : List Value} {x : α} (h : Chg b o n F a c) (hs : GT.enc a cs x G) (hb : b ∉ G) (hF : Apart G F) : GT.enc c cs x G :=
 GT.keep hs fun k hk => h.keep (GT.inh hs k hk) (fun e => hb (e ▸ hk)) (fun hm => hF k hk hm)
end Sk
