/- Contracts of functions of the given program, and lemmas for them: each theorem states the condition under which it holds. -/
import Derived.Test.YtlejdkiihpeojaaGreatChecked
import Derived.Deep.CutBlock
import Derived.Deep.CutRange
import Derived.Test.YtlejdkiihpeojaaGreatVWSeen
import Derived.Test.YtlejdkiihpeojaaGreatXRun
import Derived.Test.YtlejdkiihpeojaaGreatVViewS
namespace Sk
open Go Go.Proofs Go.RowKit
set_option maxHeartbeats 4000000
set_option maxRecDepth 100000
set_option linter.unusedVariables false
set_option linter.unusedSimpArgs false
theorem Os.mono0 {α : Type} [GT α] {L L' : Nat} {w : World} {v : Value} {xs : List α} (h : Os L w v xs) (hl : L' ≤ L) : Os L' w v xs := by
 obtain ⟨F, h1, h2⟩ := h; exact ⟨F, h1, h2.mono hl⟩
/-- A value in a box, to be read, that lies apart from the blocks S. -/
def Bn {α : Type} [GT α] (S : Option Nat) (w : World) (b : Nat) (x : α) (T : TypeId) : Prop := S ≠ some b ∧ ∃ cs F, Bk w b cs T ∧ GT.enc w cs x F ∧ b ∉ F ∧ ∀ k ∈ F, S ≠ some k
theorem Bn.br {α : Type} [GT α] {S : Option Nat} {w : World} {b : Nat} {x : α} {T : TypeId} (h : Bn S w b x T) : Br w b x T := by
 obtain ⟨_, cs, F, h1, h2, h3, _⟩ := h; exact ⟨cs, F, h1, h2, h3⟩
theorem Bn.ext {α : Type} [GT α] {S : Option Nat} {w w' : World} {b : Nat} {x : α} {T : TypeId} (h : Bn S w b x T) (he : Ext w w') : Bn S w' b x T := by
 obtain ⟨h0, cs, F, h1, h2, h3, h4⟩ := h; exact ⟨h0, cs, F, h1.ext he, GT.ext h2 he, h3, h4⟩
theorem Bn.start {α : Type} [GT α] {S : Option Nat} {w W : World} {b : Nat} {cs : List Value} {x : α} {T : TypeId} (h : Rv w (.agg cs.toArray) x) (hk : Bk W b cs T) (he : Ext w W) (hb : w.heap.size ≤ b) (hS : ∀ k, S = some k → b < k) : Bn S W b x T := by
 obtain ⟨cs', F, e, h1⟩ := h
 have : cs' = cs := by
  have := congrArg (fun v => match v with | .agg a => a.toList | _ => []) e
  simpa using this.symm
 subst this
 exact ⟨fun e => by have := hS _ e; omega, _, F, hk, GT.ext h1 he, fun hm => by have := GT.inh h1 b hm; omega, fun k hk e => by have := GT.inh h1 k hk; have := hS k e; omega⟩
theorem Bn.put {α : Type} [GT α] {S : Option Nat} {M : Nat} {w : World} {b : Nat} {y : α} {T : TypeId} {cs0 cs : List Value} {F : List Nat} (hS0 : S ≠ some b) (hb : Bk w b cs0 T) (hl : cs0.length = GT.sz α) (hy : GT.enc w cs y F) (hF : Own M w F) (hM : b < M) (hS : ∀ k, S = some k → k < M) : Bn S (putCells w b 0 cs) b y T :=
 have hbF : b ∉ F := fun hm => by have := (hF.2 b hm).1; omega
 ⟨hS0, cs, F, hb.puts cs ((GT.len hy).trans hl.symm), enc_puts hy hbF, hbF, fun k hk e => by have := (hF.2 k hk).1; have := hS k e; omega⟩
theorem Bn.grown {α : Type} [GT α] {S S' : Option Nat} {w w' : World} {b : Nat} {x : α} {T : TypeId} (h : Bn S w b x T) (hg : w.grownBy w' S) (hx : S' = S ∨ S' = some w.heap.size) : Bn S' w' b x T := by
 obtain ⟨h0, cs, F, h1, h2, h3, h4⟩ := h
 have hb := h1.lt
 refine ⟨fun e => ?_, cs, F, h1.grown hg h0, enc_grown h2 hg (fun k hk e => h4 k hk e), h3, fun k hk e => ?_⟩
 ·rcases hx with rfl | rfl
  ·exact h0 e
  ·cases e; omega
 ·have := GT.inh h2 k hk
  rcases hx with rfl | rfl
  ·exact h4 k hk e
  ·cases e; omega
theorem Oa.puts {α : Type} [GT α] [Fl α] {e : TypeId} {L b o : Nat} {w : World} {v : Value} {xs : List α} {cs : List Value} (h : Oa e L w v xs []) (hb : b < L) : Oa e L (putCells w b o cs) v xs [] :=
 h.keep (fun k hk => putCells_heap (fun e => by have := h.own k hk; omega)) (fun k hk => by cases hk)
theorem spec_ViewTrace (v : Value) (m : Machine) (n t : Int) (w : World) (h : Rv w v m) (hrt : rng t) :
  Calls Tryz.prog 20 #[v, .int .i64 n, .int .i64 t] w fun e w' => ∃ v', e = .returned v' ∧ Os w.heap.size w' v' (M.viewTrace m n t) ∧ Ext w w' := by
 have H := Lib.hid h
 obtain ⟨a0, c0, a1, c1, a2, c2, a3, c3, a4, c4, a5, c5, rfl, rt, h0, l0, h1, l1, h2, l2, h3, l3, h4, l4, h5, l5⟩ := h.openMachine
 clear h h0 h1 h2 h3 h4 h5
 go_enter Tryz.func20, Tryz.ntmps20
 go_upto_region 1 with (fail)
 refine abs_world (fun W => Ext w W ∧ Bk W w.heap.size [.slice a0 m.Plan.Parts.length c0, .slice a1 m.Plan.Channels.length c1, .slice a2 m.Plan.Slots.length c2, .slice a3 m.Programs.length c3, .slice a4 m.Cores.length c4, .slice a5 m.Holds.length c5, .int .i64 m.Tick] 42) ⟨(Ext.refl _).alloc _, Bk.new _ _ _⟩ ?_
 rintro W ⟨e1, kA⟩
 have HE0 := Lib.hid e1
 have hsW : w.heap.size + 1 ≤ W.heap.size := kA.lt
 go_upto_region 2 with (fail)
 obtain ⟨V, hV⟩ : ∃ V : Value, V = .slice (some ⟨W.heap.size, 0, none⟩) 0 0 := ⟨_, rfl⟩
 rw [← hV]
 refine abs_world (fun W1 => Ext W W1 ∧ Oa (α := Int) 3 (w.heap.size + 1) W1 V [] []) ⟨(Ext.refl _).alloc _, by rw [hV]; exact (Oa.lit0 (α := Int) 3 W).mono hsW⟩ ?_
 rintro W1 ⟨e11, hol⟩
 obtain ⟨vo, vn, vc, hvv⟩ := Oa.sh0 hol
 clear hV
 subst hvv
 have HOL := Lib.hid hol
 clear hol
 replace e1 := e1.tr e11
 replace kA := kA.ext e11
 replace HE0 := Lib.hid e1
 clear e11 hsW
 have d0 := kA.cell (j := 0) rfl
 have d1 := kA.cell (j := 1) rfl
 have d2 := kA.cell (j := 2) rfl
 have d3 := kA.cell (j := 3) rfl
 have d4 := kA.cell (j := 4) rfl
 have d5 := kA.cell (j := 5) rfl
 have d6 := kA.cell (j := 6) rfl
 have KA := Lib.hid kA
 clear e1 kA
 cases g : M.mv m
 ·have g0 : M.seen m n = false := by unfold M.seen; rw [g]; rfl
  go_wp2_with (go_at_call 33; refine (spec_MachineValid _ m _ (H.out.ext HE0.out)).mono ?_; rintro e w0 ⟨rfl, he⟩; rw [g]; have E := Lib.hid (HE0.out.tr he); have KAx := KA.out.ext he; have ltA := KAx.lt; replace HOL := Lib.hid (HOL.out.ext he); have x0 := KAx.cell (j := 0) rfl; have x1 := KAx.cell (j := 1) rfl; have x2 := KAx.cell (j := 2) rfl; have x3 := KAx.cell (j := 3) rfl; have x4 := KAx.cell (j := 4) rfl; have x5 := KAx.cell (j := 5) rfl; have x6 := KAx.cell (j := 6) rfl;  clear he KAx)
  go_ret
  exact ⟨_, rfl, by rw [M.viewTrace_f1 g0]; exact ((HOL.out.os (Own.nil _ _))).mono0 (Nat.le_succ _), E.out⟩
 have hmv := M.mv_iff.1 g
 have htk := hmv.tick
 cases g1 : M.inn n 0 ((m.Cores.length : Int) - 1)
 ·have g0 : M.seen m n = false := by unfold M.seen; rw [g, g1]; rfl
  go_wp2_with (first
   | (go_at_call 33; refine (spec_MachineValid _ m _ (H.out.ext HE0.out)).mono ?_; rintro e w0 ⟨rfl, he⟩; rw [g]; have E := Lib.hid (HE0.out.tr he); have KAx := KA.out.ext he; have ltA := KAx.lt; replace HOL := Lib.hid (HOL.out.ext he); have x0 := KAx.cell (j := 0) rfl; have x1 := KAx.cell (j := 1) rfl; have x2 := KAx.cell (j := 2) rfl; have x3 := KAx.cell (j := 3) rfl; have x4 := KAx.cell (j := 4) rfl; have x5 := KAx.cell (j := 5) rfl; have x6 := KAx.cell (j := 6) rfl;  clear he KAx)
   | (go_at_call 59; refine (spec_In _ _ _ _).mono ?_; rintro e w9 ⟨rfl, rfl⟩; rw [g1]))
  go_ret
  exact ⟨_, rfl, by rw [M.viewTrace_f1 g0]; exact ((HOL.out.os (Own.nil _ _))).mono0 (Nat.le_succ _), E.out⟩
 cases g2 : M.inn t 0 200
 ·have g0 : M.runs m t 200 = false := by unfold M.runs; rw [g, g2]; rfl
  go_wp2_with (first
   | (go_at_call 33; refine (spec_MachineValid _ m _ (H.out.ext HE0.out)).mono ?_; rintro e w0 ⟨rfl, he⟩; rw [g]; have E := Lib.hid (HE0.out.tr he); have KAx := KA.out.ext he; have ltA := KAx.lt; replace HOL := Lib.hid (HOL.out.ext he); have x0 := KAx.cell (j := 0) rfl; have x1 := KAx.cell (j := 1) rfl; have x2 := KAx.cell (j := 2) rfl; have x3 := KAx.cell (j := 3) rfl; have x4 := KAx.cell (j := 4) rfl; have x5 := KAx.cell (j := 5) rfl; have x6 := KAx.cell (j := 6) rfl;  clear he KAx)
   | (go_at_call 59; refine (spec_In _ _ _ _).mono ?_; rintro e w9 ⟨rfl, rfl⟩; rw [g1])
   | (go_at_call 59; refine (spec_In _ _ _ _).mono ?_; rintro e w9 ⟨rfl, rfl⟩; rw [g2]))
  go_ret
  exact ⟨_, rfl, by rw [M.viewTrace_f2 g0]; exact ((HOL.out.os (Own.nil _ _))).mono0 (Nat.le_succ _), E.out⟩
 obtain ⟨ht0, ht4⟩ := M.inn_iff.1 g2
 obtain ⟨T, rfl⟩ : ∃ T : Nat, t = T := ⟨t.toNat, by omega⟩
 by_cases hT : m.Tick + T ≤ 100000
 case neg =>
  have g0 : M.runs m T 200 = false := by unfold M.runs; rw [g, g2, show decide (m.Tick + (T : Int) ≤ 100000) = false from decide_eq_false hT]; rfl
  have hgt : decide (m.Tick + (T : Int) > 100000) = true := decide_eq_true (by omega)
  have hgt2 : decide ((100000 : Int) < m.Tick + (T : Int)) = true := decide_eq_true (by omega)
  go_wp2_with (first
   | (go_at_call 33; refine (spec_MachineValid _ m _ (H.out.ext HE0.out)).mono ?_; rintro e w0 ⟨rfl, he⟩; rw [g]; have E := Lib.hid (HE0.out.tr he); have KAx := KA.out.ext he; have ltA := KAx.lt; replace HOL := Lib.hid (HOL.out.ext he); have x0 := KAx.cell (j := 0) rfl; have x1 := KAx.cell (j := 1) rfl; have x2 := KAx.cell (j := 2) rfl; have x3 := KAx.cell (j := 3) rfl; have x4 := KAx.cell (j := 4) rfl; have x5 := KAx.cell (j := 5) rfl; have x6 := KAx.cell (j := 6) rfl;  clear he KAx)
   | (go_at_call 59; refine (spec_In _ _ _ _).mono ?_; rintro e w9 ⟨rfl, rfl⟩; rw [g1])
   | (go_at_call 59; refine (spec_In _ _ _ _).mono ?_; rintro e w9 ⟨rfl, rfl⟩; rw [g2]))
  go_ret
  exact ⟨_, rfl, by rw [M.viewTrace_f2 g0]; exact ((HOL.out.os (Own.nil _ _))).mono0 (Nat.le_succ _), E.out⟩
 have g0 : M.runs m T 200 = true := M.runs_iff.2 ⟨hmv, ⟨ht0, ht4⟩, hT⟩
 have gs : M.seen m n = true := by unfold M.seen; rw [g, g1]; rfl
 have hgt : decide (m.Tick + (T : Int) > 100000) = false := decide_eq_false (by omega)
 have hgt2 : decide ((100000 : Int) < m.Tick + (T : Int)) = false := decide_eq_false (by omega)
 obtain ⟨n1, n2⟩ := M.inn_iff.1 g1
 go_upto_region 4 with (first
   | (go_at_call 33; refine (spec_MachineValid _ m _ (H.out.ext HE0.out)).mono ?_; rintro e w0 ⟨rfl, he⟩; rw [g]; have E := Lib.hid (HE0.out.tr he); have KAx := KA.out.ext he; have ltA := KAx.lt; replace HOL := Lib.hid (HOL.out.ext he); have x0 := KAx.cell (j := 0) rfl; have x1 := KAx.cell (j := 1) rfl; have x2 := KAx.cell (j := 2) rfl; have x3 := KAx.cell (j := 3) rfl; have x4 := KAx.cell (j := 4) rfl; have x5 := KAx.cell (j := 5) rfl; have x6 := KAx.cell (j := 6) rfl; replace KA := Lib.hid KAx; clear he KAx)
   | (go_at_call 59; refine (spec_In _ _ _ _).mono ?_; rintro e w9 ⟨rfl, rfl⟩; rw [g1])
   | (go_at_call 59; refine (spec_In _ _ _ _).mono ?_; rintro e w9 ⟨rfl, rfl⟩; rw [g2]))
 obtain ⟨N, rfl⟩ : ∃ N : Nat, n = N := ⟨n.toNat, by omega⟩
 have hN : N < m.Cores.length := by omega
 have HV := Lib.hid hmv
 have hres := Lib.hid (M.viewTrace_t gs g0)
 have BR0 := Lib.hid (Bn.start (S := (Value.slice vo vn vc).ownBlock) H.out KA.out E.out (Nat.le_refl _) (fun k hk => HOL.out.own k hk))
 clear KA d0 d1 d2 d3 d4 d5 d6 x0 x1 x2 x3 x4 x5 x6 HE0 ltA hgt hgt2 hmv n1 n2 l0 l1 l2 l3 l4 l5 rt H g0 gs g g1 g2
 go_wp2
 go_loopw [7, 8] (fun out i wr => ∃ (k : Nat) (ao : Option Addr) (no co : Nat), k ≤ T ∧ out = .slice ao no co ∧ i = .int .i64 k ∧ Oa (α := Int) 3 (w.heap.size + 1) wr (.slice ao no co) (M.traceN m N k) [] ∧ Ext w wr ∧ Bn (Value.slice ao no co).ownBlock wr w.heap.size (M.run m k) 42) (fun _ i _ => T - (intOf i).toNat)
 case atStart => exact ⟨0, _, _, _, Nat.zero_le _, rfl, rfl, HOL.out, E.out, BR0.out⟩
 case round =>
  clear E BR0 HOL
  obtain ⟨k, ao, no, co, hk, rfl, rfl, ho, er, br⟩ := hrel
  by_cases hkt : k < T
  ·obtain ⟨hrv, hrt2, -⟩ := M.run_MV HV.out k (by omega)
   obtain ⟨hrv1, -, -, -, hrc1, -⟩ := M.run_MV HV.out (k + 1) (by omega)
   have hne : ¬ (M.run m k).Tick = 100000 := by rw [hrt2]; omega
   have HS := Lib.hid (show M.tickM (M.run m k) = M.run m (k + 1) from M.tickM_t (M.mv_iff.2 hrv) hne)
   have hvw : M.seen (M.run m (k + 1)) N = true := M.seen_iff.2 ⟨hrv1, by omega, by rw [hrc1]; omega⟩
   have HVW := Lib.hid (M.viewOf_t hvw)
   have HTN := Lib.hid (show M.traceN m N (k + 1) = M.traceN m N k ++ [M.mix 7 (M.viewN (M.run m (k + 1)) N)] from rfl)
   have HTL := Lib.hid (M.traceN_len m N k)
   have HMR := M.mix_rg 7 (M.viewN (M.run m (k + 1)) N) (by decide) (by decide)
   clear hrv hrt2 hrv1 hrc1 hne hvw
   obtain ⟨mn, hmn⟩ : ∃ mn, M.run m (k + 1) = mn := ⟨_, rfl⟩
   rw [hmn] at HS HVW HTN HMR
   have HMN := Lib.hid hmn
   clear hmn
   generalize M.run m k = mk at *
   obtain ⟨p0, q0, p1, q1, p2, q2, p3, q3, p4, q4, p5, q5, ka, rv, -⟩ := br.br.openM
   have HS0 := Lib.hid br.1
   have RV3 := Lib.hid rv.out
   have KA3 := Lib.hid ka
   have ER := Lib.hid er
   have HO := Lib.hid ho
   have y0 := ka.cell (j := 0) rfl
   have y1 := ka.cell (j := 1) rfl
   have y2 := ka.cell (j := 2) rfl
   have y3 := ka.cell (j := 3) rfl
   have y4 := ka.cell (j := 4) rfl
   have y5 := ka.cell (j := 5) rfl
   have y6 := ka.cell (j := 6) rfl
   have ltA := ka.lt
   clear er ka br rv ho
   go_upto_region 8 with (go_at_call 10; refine (spec_TickMachine _ mk _ RV3.out).mono ?_; rintro e w7 ⟨v7, rfl, hov, ex⟩; rw [HS.out] at hov; obtain ⟨r0, s0, r1, s1, r2, s2, r3, s3, r4, s4, r5, s5, F7, rfl, hen7, how7⟩ := hov.openE; have EX7 := Lib.hid ex; have HEN7 := Lib.hid hen7; have HOW7 := Lib.hid how7; have c70 := (KA3.out.ext ex).cell (j := 0) rfl; have c71 := (KA3.out.ext ex).cell (j := 1) rfl; have c72 := (KA3.out.ext ex).cell (j := 2) rfl; have c73 := (KA3.out.ext ex).cell (j := 3) rfl; have c74 := (KA3.out.ext ex).cell (j := 4) rfl; have c75 := (KA3.out.ext ex).cell (j := 5) rfl; have c76 := (KA3.out.ext ex).cell (j := 6) rfl; have bf7 := (KA3.out.ext ex).fz; have lt7 := (KA3.out.ext ex).lt; clear ex hen7 how7 hov)
   refine abs_world (fun W => Ext w W ∧ Bn (Value.slice ao no co).ownBlock W w.heap.size mn 42 ∧ Oa (α := Int) 3 (w.heap.size + 1) W (.slice ao no co) (M.traceN m N k) []) ⟨Ext.puts (b := w.heap.size) (o := 0) (Nat.le_refl _) [.slice r0 mn.Plan.Parts.length s0, .slice r1 mn.Plan.Channels.length s1, .slice r2 mn.Plan.Slots.length s2, .slice r3 mn.Programs.length s3, .slice r4 mn.Cores.length s4, .slice r5 mn.Holds.length s5, .int .i64 mn.Tick] (ER.out.tr EX7.out), Bn.put (cs := [.slice r0 mn.Plan.Parts.length s0, .slice r1 mn.Plan.Channels.length s1, .slice r2 mn.Plan.Slots.length s2, .slice r3 mn.Programs.length s3, .slice r4 mn.Cores.length s4, .slice r5 mn.Holds.length s5, .int .i64 mn.Tick]) HS0.out (KA3.out.ext EX7.out) rfl HEN7.out HOW7.out ltA (fun k hk => HO.out.lt k hk), Oa.puts (b := w.heap.size) (o := 0) (cs := [.slice r0 mn.Plan.Parts.length s0, .slice r1 mn.Plan.Channels.length s1, .slice r2 mn.Plan.Slots.length s2, .slice r3 mn.Programs.length s3, .slice r4 mn.Cores.length s4, .slice r5 mn.Holds.length s5, .int .i64 mn.Tick]) (HO.out.ext EX7.out) (Nat.lt_succ_self _)⟩ ?_
   rintro W8 ⟨e8, br8, ho8⟩
   obtain ⟨p0', q0', p1', q1', p2', q2', p3', q3', p4', q4', p5', q5', ka8, rv8, -⟩ := br8.br.openM
   have E8 := Lib.hid e8
   have BR8 := Lib.hid br8
   have HO8 := Lib.hid ho8
   have RV8 := Lib.hid rv8.out
   have z0 := ka8.cell (j := 0) rfl
   have z1 := ka8.cell (j := 1) rfl
   have z2 := ka8.cell (j := 2) rfl
   have z3 := ka8.cell (j := 3) rfl
   have z4 := ka8.cell (j := 4) rfl
   have z5 := ka8.cell (j := 5) rfl
   have z6 := ka8.cell (j := 6) rfl
   have ltA8 := ka8.lt
   clear e8 br8 ho8 rv8 ka8 HO ER KA3 RV3 y0 y1 y2 y3 y4 y5 y6 c70 c71 c72 c73 c74 c75 c76 bf7 lt7
   go_wp2_with (first
    | (go_at_call 63; refine (spec_ViewOf _ mn N _ RV8.out).mono ?_; rintro e w9 ⟨v9, rfl, ho, he⟩; have HR9 := Lib.hid ho.rs; have E9 := Lib.hid he; clear ho he)
    | (go_at_call 62; refine (spec_MixNumbers _ (M.viewOf mn N) 7 _ HR9.out (by decide) (by decide)).mono ?_; rintro e wa ⟨rfl, rfl⟩; rw [HVW.out])
    | (at_builtin; refine wpl_appOX (u := w9) (α := Int) rfl _ _ 52 rfl 3 Tryz.underlying52 elInt (L := w.heap.size + 1) (v := .slice ao no co) (ys := [M.mix 7 (M.viewN mn N)]) rfl (Oo.ofA (HO8.out.ext E9.out)) ((Ext.refl _).alloc _) (Nat.le_trans ltA8 E9.out.sz) rfl rfl (CI.row ⟨(Bk.new w9 [.int .i64 (M.mix 7 (M.viewN mn N))] 3).cell (j := 0) rfl, HMR, trivial⟩) (by simp) (Own.nil _ _) (by rw [HTL.out]; omega) ?_; intro v5 w5 hO5 hg5 hx5; have HO5 := Lib.hid hO5.oa; have HE5 := Lib.hid ((((E8.out.tr E9.out).alloc (.cells #[.int .i64 (M.mix 7 (M.viewN mn N))] 3))).grown hg5 (fun k hk => Nat.le_of_succ_le (HO8.out.own k hk))); have BR5 := Lib.hid (Bn.grown (S' := v5.ownBlock) ((BR8.out.ext E9.out).ext ((Ext.refl _).alloc (.cells #[.int .i64 (M.mix 7 (M.viewN mn N))] 3))) hg5 hx5); obtain ⟨p5, n5, q5, rfl⟩ := hO5.sh; clear hO5 hg5 hx5))
   go_roundw
   case rel => exact ⟨k + 1, _, _, _, by omega, rfl, by go_num, by rw [HTN.out]; exact HO5.out, HE5.out, by rw [HMN.out]; exact BR5.out⟩
   case measure => simp [intOf]; omega
  ·obtain rfl : k = T := by omega
   have ER := Lib.hid er
   have HO := Lib.hid ho
   clear er br ho
   go_wp2
   go_ret
   exact ⟨_, rfl, by rw [hres.out]; exact (HO.out.os (Own.nil _ _)).mono0 (Nat.le_succ _), ER.out⟩
end Sk
