/- Contracts of functions of the given program, and lemmas for them: each theorem states the condition under which it holds. -/
import Derived.Test.YtobfbjgflnhjpaaGreatChecked
import Derived.Lib.SliceRun
import Derived.Test.YtobfbjgflnhjpaaGreatFoc
import Derived.Test.YtobfbjgflnhjpaaGreatApp
import Derived.Test.YtobfbjgflnhjpaaGreatNums
import Derived.Test.YtobfbjgflnhjpaaGreatTo
namespace Sk
open Go Go.Proofs Go.RowKit
set_option maxHeartbeats 400000
set_option maxRecDepth 100000
set_option linter.unusedVariables false
set_option linter.unusedSimpArgs false
/-- A machine with its lists marked: what a struct handed over by value shows. -/
def Machine.mkT (x : Machine) (k : Int) : Machine :=
  { Plan := GT.mkE x.Plan k, Programs := GT.mkE x.Programs (k + (GT.ct x.Plan : Nat)), Cores := GT.mkE x.Cores (k + (GT.ct x.Plan : Nat) + (GT.ct x.Programs : Nat)), Holds := GT.mkE x.Holds (k + (GT.ct x.Plan : Nat) + (GT.ct x.Programs : Nat) + (GT.ct x.Cores : Nat)), Tick := x.Tick }
def Machine.ctT (x : Machine) : Nat := GT.ct x.Plan + GT.ct x.Programs + GT.ct x.Cores + GT.ct x.Holds
def Watch.mkT (x : Watch) (k : Int) : Watch := { Box := x.Box.mkT k, States := GT.mkE x.States (k + (x.Box.ctT : Nat)) }
def Watch.ctT (x : Watch) : Nat := x.Box.ctT + GT.ct x.States
def Setup.mkT (x : Setup) (k : Int) : Setup := GT.mkE x k
def Setup.ctT (x : Setup) : Nat := GT.ct x
def Board.mkT (x : Board) (k : Int) : Board := GT.mkE x k
def Board.ctT (x : Board) : Nat := GT.ct x
end Sk

namespace Sk
open Go Go.Proofs Go.RowKit
set_option maxHeartbeats 400000
set_option maxRecDepth 100000
set_option linter.unusedVariables false
set_option linter.unusedSimpArgs false
/-- A list whose own block is new; its elements lie in F. -/
def Oh {α : Type} [GT α] (L : Nat) (w : World) (v : Value) (xs : List α) (F : List Nat) : Prop :=
  (v = .slice none 0 0 ∧ xs = [] ∧ F = []) ∨ ∃ g, v = .slice (some ⟨g, 0, none⟩) xs.length xs.length ∧ L ≤ g ∧ Fz w g ∧ xs.length ≤ maxLen ∧ Row w g 0 xs F ∧ g ∉ F
theorem Oa.oh {α : Type} [GT α] {e : TypeId} {L : Nat} {w : World} {a : Option Addr} {n c : Nat} {xs : List α} {F : List Nat} (h : Oa e L w (.slice a n c) xs F) : Oh L w (.slice a n n) xs F := by
  rcases h with ⟨h, rfl, rfl⟩ | ⟨g, cap, cur, h, hL, hg, hl, hc, hs, hr, hn⟩
  · cases h; exact .inl ⟨rfl, rfl, rfl⟩
  · cases h; exact .inr ⟨g, rfl, hL, ⟨_, _, Bk.ofA hg⟩, Nat.le_trans hl hc, hr, hn⟩
theorem Oh.os {α : Type} [GT α] {L : Nat} {w : World} {v : Value} {xs : List α} (h : Oh L w v xs []) : Os L w v xs := by
  rcases h with ⟨rfl, rfl, _⟩ | ⟨g, rfl, hL, hz, hl, hr, _⟩
  · exact ⟨[], ⟨none, 0, rfl, Nat.le_refl _, Nat.zero_le _, .inl ⟨rfl, rfl⟩⟩, Own.nil _ _⟩
  · by_cases hx : xs = []
    · subst hx; exact ⟨[], ⟨some ⟨g, 0, none⟩, 0, rfl, Nat.le_refl _, Nat.zero_le _, .inl ⟨rfl, rfl⟩⟩, Own.nil _ _⟩
    · exact ⟨[g], ⟨_, _, rfl, Nat.le_refl _, hl, .inr ⟨hx, g, 0, [], rfl, rfl, hr⟩⟩, by simp, fun b hb => by rw [List.mem_singleton] at hb; subst hb; exact ⟨hL, hz⟩⟩
theorem slices_Clone_Int (v : Value) (xs : List Int) (w : World) (F : List Nat) (h : Sl w v xs F) (hn : xs.length ≤ 100000000) :
    Calls Tryz.prog 160 #[v] w fun e w' => ∃ v' F', e = .returned v' ∧ Oa 3 w.heap.size w' v' xs F' ∧ (∀ b ∈ F', b ∈ F) ∧ F'.Sublist F ∧ Ext w w' := by
  have hnil : ∀ (a : Option Addr) (n c : Nat), (binOp .eql 98 (.slice a n c) (.slice none 0 0)).run Tryz.prog w = .ok (.bool a.isNone) w := fun a n c => Go.Lib.run_eql_slice_nil w 98 3 a n c 0 0 Tryz.underlying98
  obtain ⟨a, c, rfl, hl, hc, ⟨rfl, rfl⟩ | ⟨hne, b, o, F', rfl, rfl, hr⟩⟩ := h
  · cases a with
    | none =>
      go_enter Tryz.func160, Tryz.ntmps160
      go_wp2
      go_ret
      exact ⟨_, [], rfl, Oa.nil _ _ _, by simp, by simp, Ext.refl _⟩
    | some p =>
      go_enter Tryz.func160, Tryz.ntmps160
      go_wp2
      go_ret
      exact ⟨_, [], rfl, Oa.lit0 _ _, by simp, by simp, (Ext.refl _).alloc _⟩
  · have hpos : 0 < xs.length := List.length_pos_iff.2 hne
    have HR : Hid (∀ ob, Row (w.alloc ob) b o xs F') := Lib.hid (fun ob => hr.keep (((Ext.refl w).alloc ob).block b (hr.lt hne)) (fun k hk => ((Ext.refl w).alloc ob).block k (hr.inh k hk)))
    have HI : Hid (∀ k ∈ F', k < w.heap.size) := Lib.hid hr.inh
    clear hr
    go_enter Tryz.func160, Tryz.ntmps160
    go_wp2_with (at_builtin; refine wpl_app (α := Int) rfl _ _ 98 rfl 3 Tryz.underlying98 elInt (L := w.heap.size) (v := .slice (some ⟨w.heap.size, 0, none⟩) 0 0) (xs := []) (ys := xs) rfl (Oa.lit0 _ _) rfl rfl (HR.out _) (by omega) (fun k hk e => by cases e; exact absurd (HI.out _ hk) (Nat.lt_irrefl _)) (by simp; omega) (by simp) ?_; intro v' w' hO' hgr; have HO2 := Lib.hid hO'; have HQ2 := Lib.hid (Ext.grown ((Ext.refl w).alloc _) hgr (fun k hk => by cases hk; exact Nat.le_refl _)); clear hO' hgr; obtain ⟨ao2, co2, rfl, _⟩ := HO2.out.form)
    go_ret
    exact ⟨_, F', rfl, by simpa using HO2.out, fun b hb => by simp [hb], List.sublist_cons_self _ _, HQ2.out⟩
theorem impl_clone_Int (v : Value) (xs : List Int) (w : World) (F : List Nat) (h : Sl w v xs F) (hn : xs.length ≤ 100000000) :
    Calls Tryz.prog 113 #[v] w fun e w' => ∃ v' F', e = .returned v' ∧ Oh w.heap.size w' v' xs F' ∧ (∀ b ∈ F', b ∈ F) ∧ F'.Sublist F ∧ Ext w w' := by
  obtain ⟨a, c, rfl, hl⟩ := Rs.form ⟨F, h⟩
  have H := Lib.hid h
  clear h
  go_enter Tryz.func113, Tryz.ntmps113
  go_wp2_with fail
  refine (slices_Clone_Int _ _ _ _ H.out hn).mono ?_
  rintro e w1 ⟨v1, F1, rfl, ho, hF, hsub, he⟩
  obtain ⟨a1, c1, rfl, _⟩ := ho.form
  have hcp := ho.cap
  have HO := Lib.hid ho.oh
  have HX := Lib.hid (And.intro hF (And.intro hsub he))
  clear ho hF hsub he
  go_wp2_with fail
  refine (slices_Clip_int _ xs _ _ _ rfl hcp.1 hcp.2).mono ?_
  rintro e w2 ⟨rfl, rfl⟩
  go_wp2
  go_ret
  exact ⟨_, F1, rfl, HO.out, HX.out⟩
end Sk

namespace Sk
open Go Go.Proofs Go.RowKit
set_option maxHeartbeats 400000
set_option maxRecDepth 100000
set_option linter.unusedVariables false
set_option linter.unusedSimpArgs false
/-- A channel that lets something flow from f to t. -/
def M.dc (f t : Int) (c : Channel) : Bool := (c.From == f && c.To == t) || (c.Kind == 3 && c.From == t && c.To == f)
def M.dir (cs : List Channel) (f t : Int) : Bool := (f == t) || cs.any (M.dc f t)
end Sk

namespace Sk
open Go Go.Proofs Go.RowKit
set_option maxHeartbeats 400000
set_option maxRecDepth 100000
set_option linter.unusedVariables false
set_option linter.unusedSimpArgs false
/-- k steps of f. -/
def M.upto {β : Type} (f : β → Nat → β) (b : β) : Nat → β
  | 0 => b
  | k + 1 => f (M.upto f b k) k
theorem M.upto_inv {β : Type} {f : β → Nat → β} {b : β} (P : β → Prop) (h0 : P b) (hs : ∀ x k, P x → P (f x k)) (k : Nat) : P (M.upto f b k) := by
  induction k with
  | zero => exact h0
  | succ k ih => exact hs _ _ ih
def M.fstep (cs : List Channel) (a : Nat) (out : List Bool) (b : Nat) : List Bool := out.set a (out.getD a false || (out.getD b false && M.dir cs a b))
def M.frow (cs : List Channel) (n : Nat) (out : List Bool) (a : Nat) : List Bool := M.upto (M.fstep cs a) out n
def M.fround (cs : List Channel) (n : Nat) (out : List Bool) (_ : Nat) : List Bool := M.upto (M.frow cs n) out n
/-- Which partitions may have influence on k. -/
def M.flows (cs : List Channel) (n k : Nat) : List Bool := M.upto (M.fround cs n) ((List.replicate n false).set k true) n
theorem M.fstep_t {cs : List Channel} {a b : Nat} {out : List Bool} (h : out.getD a false = true) : M.fstep cs a out b = out.set a true := by unfold M.fstep; rw [h]; rfl
theorem M.fstep_f {cs : List Channel} {a b : Nat} {out : List Bool} (h : out.getD a false = false) (k : out.getD b false = false) : M.fstep cs a out b = out.set a false := by unfold M.fstep; rw [h, k]; rfl
theorem M.fstep_d {cs : List Channel} {a b : Nat} {out : List Bool} (h : out.getD a false = false) (k : out.getD b false = true) : M.fstep cs a out b = out.set a (M.dir cs a b) := by unfold M.fstep; rw [h, k]; rfl
theorem M.fstep_len {cs : List Channel} {a : Nat} {out : List Bool} {b : Nat} : (M.fstep cs a out b).length = out.length := List.length_set ..
theorem M.frow_len {cs : List Channel} {n a : Nat} {out : List Bool} {k : Nat} : (M.upto (M.fstep cs a) out k).length = out.length :=
  M.upto_inv (fun x : List Bool => x.length = out.length) rfl (fun x k h => M.fstep_len.trans h) k
theorem M.fround_len {cs : List Channel} {n : Nat} {out : List Bool} {k : Nat} : (M.upto (M.frow cs n) out k).length = out.length :=
  M.upto_inv (fun x : List Bool => x.length = out.length) rfl (fun x k h => (M.frow_len (n := n)).trans h) k
theorem M.flows_len' {cs : List Channel} {n : Nat} {out : List Bool} {k : Nat} : (M.upto (M.fround cs n) out k).length = out.length :=
  M.upto_inv (fun x : List Bool => x.length = out.length) rfl (fun x k h => M.fround_len.trans h) k
theorem M.flows_len (cs : List Channel) (n k : Nat) : (M.flows cs n k).length = n := by
  unfold M.flows; rw [M.flows_len']; simp
theorem Os.mono {α : Type} [GT α] {L L' : Nat} {w : World} {v : Value} {xs : List α} (h : Os L w v xs) (hl : L' ≤ L) : Os L' w v xs := by
  obtain ⟨F, h, o⟩ := h; exact ⟨F, h, o.mono hl⟩
theorem Os.bool {L : Nat} {w : World} {b o n c : Nat} {xs : List Bool} (h : Os L w (.slice (some ⟨b, o, none⟩) n c) xs) (k : Nat) (hk : k < xs.length) :
    w.cell? ⟨b, o + k, none⟩ = some (.bool (xs.getD k false)) ∧ w.frozen? ⟨b, o + k, none⟩ = false ∧ b < w.heap.size := by
  obtain ⟨b', o', x, hb, hlt, hx, hc⟩ := h.rs.atBool k hk
  cases hb
  obtain ⟨b2, o2, cs2, F2, x0, hb2, _, _, _, _, hf⟩ := h.at k hk
  cases hb2
  rw [List.getD_eq_getElem?_getD, hx.out]
  exact ⟨hc, hf _, hlt⟩
theorem Os.setB {L : Nat} {w : World} {b n c : Nat} {xs : List Bool} (h : Os L w (.slice (some ⟨b, 0, none⟩) n c) xs) (hL : L ≤ w.heap.size) (k : Nat) (hk : k < xs.length) (y : Bool) :
    Os L (w.setCell ⟨b, k, none⟩ (.bool y)) (.slice (some ⟨b, 0, none⟩) n c) (xs.set k y) := by
  have := h.put (i := k) (Ext.refl _) hk hL (⟨[], ⟨rfl, rfl⟩, Own.nil _ _⟩ : Ow _ _ [.bool y] y)
  simpa only [GT.sz, putCells, Nat.mul_one, Nat.zero_add] using this
end Sk

