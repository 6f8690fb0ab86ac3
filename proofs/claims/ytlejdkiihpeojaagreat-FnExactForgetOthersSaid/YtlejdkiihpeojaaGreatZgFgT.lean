/- Contracts of functions of the given program, and lemmas for them: each theorem states the condition under which it holds. -/
import Derived.Test.YtlejdkiihpeojaaGreatChecked
import Derived.Deep.CutBlock
import Derived.Deep.CutRange
import Derived.Test.YtlejdkiihpeojaaGreatVVModel
import Derived.Test.YtlejdkiihpeojaaGreatRstT
import Derived.Test.YtlejdkiihpeojaaGreatTickB
import Derived.Test.YtlejdkiihpeojaaGreatFlows
namespace Sk
open Go Go.Proofs Go.RowKit
set_option maxHeartbeats 1600000
set_option maxRecDepth 100000
set_option linter.unusedVariables false
set_option linter.unusedSimpArgs false
/-- The cells of a partition. -/
def M.pc (m : Machine) (k : Nat) : Int := (m.Plan.Parts.getD k ⟨[], 0⟩).Cells
/-- A partition forgotten: as the model says it, and as the code does it. -/
def M.fgs1 (x : Machine) (k : Nat) : Machine := { x with Programs := x.Programs.set k [M.oz], Cores := x.Cores.set k (M.newCore (M.pc x k)) }
def M.fgi1 (x : Machine) (k : Nat) : Machine := M.rst { x with Programs := x.Programs.set k [M.oz] } k (M.newCore (M.pc x k)) x.Plan.Channels.length
def M.fgS (f : Nat → Bool) (m : Machine) : Nat → Machine
 | 0 => m
 | k + 1 => if f k then M.fgS f m k else M.fgs1 (M.fgS f m k) k
def M.fgI (f : Nat → Bool) (m : Machine) : Nat → Machine
 | 0 => m
 | k + 1 => if f k then M.fgI f m k else M.fgi1 (M.fgI f m k) k
/-- What the channels hold, of which those to a forgotten partition are empty. -/
def M.fgh1 (f : Nat → Bool) (cs : List Channel) (hs : List Hold) (k : Nat) : List Hold :=
 match cs[k]? with
 | some c => if f c.To.toNat then hs else hs.set k ⟨[]⟩
 | none => hs
def M.fgH (f : Nat → Bool) (cs : List Channel) (hs : List Hold) : Nat → List Hold
 | 0 => hs
 | k + 1 => M.fgh1 f cs (M.fgH f cs hs k) k
/-- Which partitions may have influence. -/
def M.fgf (m : Machine) (n : Int) (k : Nat) : Bool := (M.flows m.Plan.Channels m.Cores.length n.toNat).getD k false
noncomputable def M.forget (m : Machine) (n : Int) : Machine := if M.seen m n then M.fgI (M.fgf m n) m m.Cores.length else M.mz
theorem M.forget_f {m : Machine} {n : Int} (h : M.seen m n = false) : M.forget m n = M.mz := by unfold M.forget; rw [h]; rfl
theorem M.forget_t {m : Machine} {n : Int} (h : M.seen m n = true) : M.forget m n = M.fgI (M.fgf m n) m m.Cores.length := by unfold M.forget; rw [h]; rfl
theorem M.fgI_fld (f : Nat → Bool) (m : Machine) : ∀ k, (M.fgI f m k).Plan = m.Plan ∧ (M.fgS f m k).Plan = m.Plan ∧ (M.fgI f m k).Programs = (M.fgS f m k).Programs ∧ (M.fgI f m k).Cores = (M.fgS f m k).Cores ∧ (M.fgI f m k).Tick = m.Tick ∧ (M.fgS f m k).Tick = m.Tick ∧
  (M.fgI f m k).Cores.length = m.Cores.length ∧ (M.fgI f m k).Programs.length = m.Programs.length ∧ (M.fgI f m k).Holds.length = m.Holds.length ∧ (M.fgS f m k).Holds = m.Holds := by
 intro k
 induction k with
 | zero => exact ⟨rfl, rfl, rfl, rfl, rfl, rfl, rfl, rfl, rfl, rfl⟩
 | succ k ih =>
  obtain ⟨h1, h2, h3, h4, h5, h6, h7, h8, h9, h10⟩ := ih
  unfold M.fgI M.fgS
  cases f k
  ·simp only [Bool.false_eq_true, if_false, M.fgi1, M.fgs1, M.rst, M.pc, List.length_set, M.clrK_len]
   refine ⟨h1, h2, by rw [h3], by rw [h4, h1, h2], h5, h6, h7, h8, h9, h10⟩
  ·simp only [if_true]
   exact ⟨h1, h2, h3, h4, h5, h6, h7, h8, h9, h10⟩
theorem M.clrK_at (n : Nat) (cs : List Channel) (hs : List Hold) (K j : Nat) : (M.clrK n cs hs K)[j]? = if j < K ∧ cs[j]?.map Channel.To = some (n : Int) then hs[j]?.map (fun _ => ⟨[]⟩) else hs[j]? := by
 induction K with
 | zero => simp [M.clrK]
 | succ K ih =>
  rw [M.clrK_succ]
  unfold M.clr1
  split
  ·rename_i hc
   rw [List.getElem?_set, M.clrK_len]
   split
   ·rename_i e
    subst e
    by_cases hl : K < hs.length
    ·rw [if_pos hl, if_pos ⟨Nat.lt_succ_self _, hc⟩, List.getElem?_eq_getElem hl]; rfl
    ·rw [if_neg hl, if_pos ⟨Nat.lt_succ_self _, hc⟩, List.getElem?_eq_none (by omega)]; rfl
   ·rename_i e
    rw [ih]
    congr 1
    simp only [eq_iff_iff]
    constructor
    ·rintro ⟨h1, h2⟩; exact ⟨by omega, h2⟩
    ·rintro ⟨h1, h2⟩; exact ⟨by omega, h2⟩
  ·rename_i hc
   rw [ih]
   congr 1
   simp only [eq_iff_iff]
   constructor
   ·rintro ⟨h1, h2⟩; exact ⟨by omega, h2⟩
   ·rintro ⟨h1, h2⟩
    refine ⟨?_, h2⟩
    by_cases e : j = K
    ·subst e; exact absurd h2 hc
    ·omega
open Classical in
theorem M.fgI_at (f : Nat → Bool) (m : Machine) (j : Nat) : ∀ k, (M.fgI f m k).Holds[j]? = if (∃ c, m.Plan.Channels[j]? = some c ∧ 0 ≤ c.To ∧ c.To < k ∧ f c.To.toNat = false) then m.Holds[j]?.map (fun _ => ⟨[]⟩) else m.Holds[j]? := by
 intro k
 induction k with
 | zero =>
  rw [if_neg]
  ·rfl
  ·rintro ⟨c, _, h1, h2, _⟩; omega
 | succ k ih =>
  have hp := (M.fgI_fld f m k).1
  cases g : f k
  ·have e : M.fgI f m (k + 1) = M.fgi1 (M.fgI f m k) k := by show (if f k then _ else _) = _; rw [g]; rfl
   rw [e]
   simp only [M.fgi1, M.rst]
   rw [hp, M.clrK_at, ih]
   by_cases h1 : ∃ c, m.Plan.Channels[j]? = some c ∧ 0 ≤ c.To ∧ c.To < k ∧ f c.To.toNat = false
   ·have he : ∀ o : Option Hold, (o.map (fun _ => (⟨[]⟩ : Hold))).map (fun _ => (⟨[]⟩ : Hold)) = o.map (fun _ => ⟨[]⟩) := fun o => by cases o <;> rfl
    rw [if_pos h1, he, ite_self]
    split
    ·rfl
    ·rename_i hh
     obtain ⟨c, a1, a2, a3, a4⟩ := h1
     exact absurd ⟨c, a1, a2, by omega, a4⟩ hh
   ·rw [if_neg h1]
    by_cases h2 : m.Plan.Channels[j]?.map Channel.To = some (k : Int)
    ·obtain ⟨c, a1, a2⟩ := Option.map_eq_some_iff.1 h2
     rw [if_pos ⟨(List.getElem?_eq_some_iff.1 a1).1, h2⟩]
     split
     ·rfl
     ·rename_i hh
      exact absurd ⟨c, a1, by omega, by omega, by rw [a2]; simpa using g⟩ hh
    ·rw [if_neg (fun h => h2 h.2)]
     split
     ·rename_i hh
      obtain ⟨c, a1, a2, a3, a4⟩ := hh
      by_cases e : c.To = k
      ·exact absurd (by rw [a1]; simp [e]) h2
      ·exact absurd ⟨c, a1, a2, by omega, a4⟩ h1
     ·rfl
  ·have e : M.fgI f m (k + 1) = M.fgI f m k := by show (if f k then _ else _) = _; rw [g]; rfl
   rw [e, ih]
   congr 1
   simp only [eq_iff_iff]
   constructor
   ·rintro ⟨c, a1, a2, a3, a4⟩; exact ⟨c, a1, a2, by omega, a4⟩
   ·rintro ⟨c, a1, a2, a3, a4⟩
    refine ⟨c, a1, a2, ?_, a4⟩
    by_cases e : c.To = k
    ·rw [e, Int.toNat_natCast, g] at a4; cases a4
    ·omega
theorem M.fgH_len (f : Nat → Bool) (cs : List Channel) (hs : List Hold) : ∀ k, (M.fgH f cs hs k).length = hs.length := by
 intro k
 induction k with
 | zero => rfl
 | succ k ih =>
  show (M.fgh1 f cs (M.fgH f cs hs k) k).length = _
  unfold M.fgh1
  split
  ·split
   ·exact ih
   ·rw [List.length_set, ih]
  ·exact ih
open Classical in
theorem M.fgH_at (f : Nat → Bool) (cs : List Channel) (hs : List Hold) (j : Nat) : ∀ k, (M.fgH f cs hs k)[j]? = if (j < k ∧ ∃ c, cs[j]? = some c ∧ f c.To.toNat = false) then hs[j]?.map (fun _ => ⟨[]⟩) else hs[j]? := by
 intro k
 induction k with
 | zero => rw [if_neg (fun h => by omega)]; rfl
 | succ k ih =>
  show (M.fgh1 f cs (M.fgH f cs hs k) k)[j]? = _
  by_cases hk : j = k
  ·subst hk
   rw [if_neg (fun h => by omega)] at ih
   unfold M.fgh1
   split
   ·rename_i c hc
    split
    ·rename_i g
     rw [ih, if_neg]
     rintro ⟨_, c', h1, h2⟩
     rw [hc] at h1; obtain rfl := Option.some.inj h1
     rw [g] at h2; cases h2
    ·rename_i g
     rw [if_pos ⟨Nat.lt_succ_self _, c, hc, by simpa using g⟩, List.getElem?_set, if_pos rfl, M.fgH_len]
     split
     ·rename_i hl; rw [List.getElem?_eq_getElem hl]; rfl
     ·rename_i hl; rw [List.getElem?_eq_none (by omega)]; rfl
   ·rename_i hc
    rw [ih, if_neg]
    rintro ⟨_, c', h1, h2⟩
    rw [hc] at h1; cases h1
  ·have e : (M.fgh1 f cs (M.fgH f cs hs k) k)[j]? = (M.fgH f cs hs k)[j]? := by
    unfold M.fgh1
    split
    ·split
     ·rfl
     ·rw [List.getElem?_set, if_neg (fun e => hk e.symm)]
    ·rfl
   rw [e, ih]
   congr 1
   simp only [eq_iff_iff]
   constructor
   ·rintro ⟨h1, h2⟩; exact ⟨by omega, h2⟩
   ·rintro ⟨h1, h2⟩; exact ⟨by omega, h2⟩
/-- Both ways to forget come to the same. -/
theorem M.fg_eq {m : Machine} (h : M.MV m) (f : Nat → Bool) : ({ M.fgS f m m.Cores.length with Holds := M.fgH f m.Plan.Channels m.Holds m.Holds.length } : Machine) = M.fgI f m m.Cores.length := by
 obtain ⟨h1, h2, h3, h4, h5, h6, h7, h8, h9, h10⟩ := M.fgI_fld f m m.Cores.length
 have hh : M.fgH f m.Plan.Channels m.Holds m.Holds.length = (M.fgI f m m.Cores.length).Holds := by
  apply List.ext_getElem?
  intro j
  rw [M.fgH_at, M.fgI_at]
  congr 1
  simp only [eq_iff_iff]
  constructor
  ·rintro ⟨a0, c, a1, a2⟩
   have hv := h.csv
   simp only [M.csv, Bool.and_eq_true, List.all_eq_true] at hv
   have hc := hv.2.2 c (List.mem_of_getElem? a1)
   simp only [M.cv, Bool.and_eq_true, M.inn_iff] at hc
   have hn := h.nc
   exact ⟨c, a1, by omega, by omega, a2⟩
  ·rintro ⟨c, a1, a2, a3, a4⟩
   exact ⟨by have := (List.getElem?_eq_some_iff.1 a1).1; have := h.nh; omega, c, a1, a4⟩
 rw [hh]
 generalize M.fgI f m m.Cores.length = y at *
 generalize M.fgS f m m.Cores.length = x at *
 obtain ⟨a1, a2, a3, a4, a5⟩ := y
 obtain ⟨b1, b2, b3, b4, b5⟩ := x
 simp only at *
 subst h1 h2 h3 h4 h5 h6
 rfl
theorem M.prv_oz {c : Int} (h1 : 1 ≤ c) (h8 : c ≤ 8) : M.prv [M.oz] c = true := by
 simp only [M.prv, M.oz, Bool.and_eq_true, M.inn_iff, List.all_eq_true, List.length_singleton, List.mem_singleton, forall_eq]
 refine ⟨⟨by omega, by omega⟩, ⟨h1, h8⟩, ?_⟩
 unfold M.ov M.ovh
 simp
theorem M.fgi1_MV {x : Machine} (h : M.MV x) {k : Nat} (hk : k < x.Cores.length) : M.MV (M.fgi1 x k) := by
 have hkp : k < x.Plan.Parts.length := by have := h.nc; omega
 have hq : x.Plan.Parts[k]? = some x.Plan.Parts[k] := List.getElem?_eq_getElem hkp
 have hpc : M.pc x k = (x.Plan.Parts[k]).Cells := by simp only [M.pc, List.getD_eq_getElem?_getD, hq, Option.getD_some]
 have hpp : k < x.Programs.length := by have := h.pg.np; have := h.nc; omega
 have hb := M.prv_bd (h.pg.prv k _ _ (List.getElem?_eq_getElem hpp) hq)
 have hz := M.prv_oz hb.2.1 hb.2.2
 unfold M.fgi1
 rw [hpc]
 generalize x.Plan.Parts[k] = q at *
 refine ⟨⟨h.pg.set, by simpa [M.rst] using h.pg.np, ?_⟩, by simpa [M.rst] using h.nc, by simpa [M.rst, M.clrK_len] using h.nh, ?_, ?_, h.tick⟩
 ·intro j p r hp hr
  simp only [M.rst] at hp hr
  rw [List.getElem?_set] at hp
  split at hp
  ·rename_i e
   subst e
   obtain rfl := Option.some.inj hp
   rw [hq] at hr
   obtain rfl := Option.some.inj hr
   exact hz
  ·exact h.pg.prv j p r hp hr
 ·intro j c p r hc hp hr
  simp only [M.rst] at hc hp hr
  rw [List.getElem?_set] at hc hp
  split at hc
  ·rename_i e
   subst e
   rw [if_pos rfl, if_pos hpp] at hp
   obtain rfl := Option.some.inj hc
   obtain rfl := Option.some.inj hp
   rw [hq] at hr
   obtain rfl := Option.some.inj hr
   exact M.fits_new hz
  ·rename_i e
   rw [if_neg e] at hp
   exact h.fits j c p r hc hp hr
 ·intro j y c hx hc
  simp only [M.rst] at hx hc
  rcases M.clrK_get _ _ _ _ j y hx with rfl | hx
  ·have hz := M.setv_sized h.pg.set hc
   have hp := M.sized_pos hz
   simp only [M.hv, hz, M.vals, List.all_nil, Bool.and_true, Bool.true_and, List.length_nil, decide_eq_true_eq]
   omega
  ·exact h.hv j y c hx hc
theorem M.fgI_MV {m : Machine} (h : M.MV m) (f : Nat → Bool) : ∀ k, k ≤ m.Cores.length → M.MV (M.fgI f m k) := by
 intro k
 induction k with
 | zero => intro _; exact h
 | succ k ih =>
  intro hk
  have h1 := ih (by omega)
  show M.MV (if f k then M.fgI f m k else M.fgi1 (M.fgI f m k) k)
  split
  ·exact h1
  ·exact M.fgi1_MV h1 (by rw [(M.fgI_fld f m k).2.2.2.2.2.2.1]; omega)
theorem M.forget_ct (m : Machine) (n : Int) : (M.forget m n).ctT ≤ 100000000 := by
 cases g : M.seen m n
 ·rw [M.forget_f g]
  decide
 obtain ⟨hmv, h0, h4⟩ := M.seen_iff.1 g
 rw [M.forget_t g]
 have h1 := ctT_Machine (M.fgI (M.fgf m n) m m.Cores.length)
 have h2 := M.mv_tot (M.fgI_MV hmv (M.fgf m n) _ (Nat.le_refl _))
 omega
/-- The program of a partition. -/
theorem M.TB.prog {L b : Nat} {F F' : List Nat} {w W : World} {m : Machine} (h : M.TB L b F w W m F') {g s n c N : Nat} (hv : w.cell? ⟨b, 3, none⟩ = some (.slice (some ⟨g, s, none⟩) n c)) (hN : N < m.Programs.length) :
  ∃ k Fy, m.Programs[N]? = some k ∧ Om L W g (s + N) k Fy ∧ (∀ x ∈ g :: Fy, x ∈ F' ∧ x ≠ b) ∧
   ∀ W' k' Fy', Chg g (s + N) 1 Fy W W' → Om L W' g (s + N) k' Fy' → (∀ x ∈ Fy', x ∈ Fy ∨ W.heap.size ≤ x) → ∃ F2, M.TB L b F w W' { m with Programs := m.Programs.set N k' } F2 := by
 obtain ⟨_, _, _, ho⟩ := id h.om
 obtain ⟨Fc, lc⟩ := h.om.lMachinePrograms
 obtain ⟨g', s', Fy, k, e, hx, hsub, li⟩ := (lc.om ho).idxS (by rw [show 0 + 3 = 3 from rfl]; exact (h.cl 3 (by decide)).trans hv) N hN
 cases e
 have LC := lc.comp li
 have hs : ∀ x ∈ g :: Fy, x ∈ F' ∧ x ≠ b := fun x hx => Lens.fsub lc ho x (hsub x hx)
 simp only [GT.sz, Nat.mul_one] at LC
 refine ⟨k, Fy, hx.out, LC.om ho, hs, fun W' k' Fy' hc hk' hf => ?_⟩
 obtain ⟨F2, h1, h2, h3⟩ := LC.back L W' k' Fy' ho hc hk' hf
 have hb : ∀ j, W'.cell? ⟨b, j, none⟩ = W.cell? ⟨b, j, none⟩ := fun j => World.cell?_of_block (hc.keep h.lt (fun e => (hs g (List.mem_cons_self ..)).2 e.symm) (fun hm => (hs b (List.mem_cons_of_mem _ hm)).2 rfl))
 refine ⟨F2, h1, h.ch.trF h3 h.sub, fun x hx => ?_, fun j hj => (hb j).trans (h.cl j hj)⟩
 rcases h2 x hx with h4 | h4
 ·exact h.sub x h4
 ·rcases hf x h4 with h5 | h5
  ·exact h.sub x (hs x (List.mem_cons_of_mem _ h5)).1
  ·exact .inr (Nat.le_trans h.ch.sz h5)
/-- A program of one instruction that does nothing, laid anew. -/
theorem M.TB.progZ {L b : Nat} {F F' : List Nat} {w W : World} {m : Machine} (h : M.TB L b F w W m F') (hL : L ≤ W.heap.size) {g s n c N : Nat} (hv : w.cell? ⟨b, 3, none⟩ = some (.slice (some ⟨g, s, none⟩) n c)) (hN : N < m.Programs.length) :
  ∃ F2, M.TB L b F w ((W.alloc (.cells #[.int .i64 0, .int .i64 0, .int .i64 0] 68)).setCell ⟨g, s + N, none⟩ (.slice (some ⟨W.heap.size, 0, none⟩) 1 1)) { m with Programs := m.Programs.set N [M.oz] } F2 := by
 obtain ⟨k, Fy, _, om, hs, hback⟩ := h.prog hv hN
 have hg := om.bk
 have ha : Ext W (W.alloc (.cells #[.int .i64 0, .int .i64 0, .int .i64 0] 68)) := (Ext.refl _).alloc _
 have hz := Bk.new W [.int .i64 0, .int .i64 0, .int .i64 0] 68
 have hne : W.heap.size ≠ g := by omega
 obtain ⟨vs, hen, hat, hown⟩ := id om
 refine hback _ [M.oz] [W.heap.size] ((Chg.ofExt ha hg.1).set ⟨Nat.le_refl _, by omega⟩ _) ⟨[.slice (some ⟨W.heap.size, 0, none⟩) 1 1], ?_, ?_, ?_⟩ (fun x hx => by rw [List.mem_singleton] at hx; subst hx; exact .inr (Nat.le_refl _))
 ·refine ⟨_, rfl, _, _, rfl, Nat.le_refl _, by simp [maxLen], .inr ⟨by simp, W.heap.size, 0, [], rfl, rfl, ?_⟩⟩
  exact Row.one (α := Order) (x := M.oz) (cs := [.int .i64 0, .int .i64 0, .int .i64 0]) ⟨rfl, rng_zero, rng_zero, rng_zero, rfl⟩ (fun j u hj => by rw [Nat.zero_add]; exact (World.cell?_of_block (heap_set_ne hne)).trans (hz.cell hj))
 ·intro j u hj
  match j, hj with
  | 0, hj =>
   obtain ⟨v0, hv0⟩ : ∃ v, W.cell? ⟨g, s + N, none⟩ = some v := by
    cases vs with
    | nil => have := GT.len hen; simp [GT.sz] at this
    | cons v _ => exact ⟨v, by simpa using hat 0 v rfl⟩
   cases hj
   exact cell_set ((cell_ext ha hg.1).trans hv0)
 ·refine ⟨by simp; omega, fun x hx => ?_⟩
  rcases List.mem_cons.1 hx with rfl | hx
  ·exact ⟨hg.2.1, ((hown.2 x (List.mem_cons_self ..)).2.ext ha).set _ _⟩
  ·rw [List.mem_singleton] at hx; subst hx
   exact ⟨hL, Fz.set (show Fz _ _ from ⟨_, _, hz⟩) _ _⟩

end Sk
