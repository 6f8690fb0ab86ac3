/- Contracts of functions of the given program, and lemmas for them: each theorem states the condition under which it holds. -/
import Derived.Test.YtiepblmmldgmgaaChecked
import Derived.Deep.CutBlock
import Derived.Deep.CutRange
import Derived.Test.YtiepblmmldgmgaaReadI
import Derived.Test.YtiepblmmldgmgaaMix
import Derived.Test.YtiepblmmldgmgaaClone
namespace Sk
open Go Go.Proofs Go.RowKit
set_option maxHeartbeats 4000000
set_option maxRecDepth 100000
set_option linter.unusedVariables false
set_option linter.unusedSimpArgs false
/-- The second reader (type 77) has numbers of a word. -/
theorem Sn.rngs {W w : World} {b : Nat} {xs : List Int} {s : M.St} (h : Sn W w b xs s.1 s.2) : RngS s := by
  obtain ⟨_, _, p, a, c, _, e, _, h4⟩ := h
  intro x hx
  rw [e] at hx
  exact h4.rngs x (List.mem_of_mem_drop hx)
/-- A struct's value whose blocks lie from L on. -/
def Rvb {α : Type} [GT α] (L : Nat) (w : World) (v : Value) (x : α) : Prop := ∃ cs F, v = .agg cs.toArray ∧ GT.enc w cs x F ∧ ∀ k ∈ F, L ≤ k
theorem Rvb.rv {α : Type} [GT α] {L : Nat} {w : World} {v : Value} {x : α} (h : Rvb L w v x) : Rv w v x := by
  obtain ⟨cs, F, h1, h2, _⟩ := h
  exact ⟨cs, F, h1, h2⟩
theorem rvb_zero {α : Type} [GT α] {L : Nat} {w : World} : Rvb L w (.agg (GT.zc α).toArray) (default : α) := ⟨_, [], rfl, GT.zero w, fun k hk => by cases hk⟩
end Sk

namespace Sk
open Go Go.Proofs Go.RowKit
set_option maxHeartbeats 1600000
set_option maxRecDepth 100000
set_option linter.unusedVariables false
set_option linter.unusedSimpArgs false
/-- APPEND to a slice that is full: it moves to a new block. -/
theorem wp_appG {α : Type} [GT α] [Fl α] {P : Program} {w : World} {o : Oper} {a : Act} {K : Act → World → Prop} {Q : Exit → Act → World → Prop} (s x : Operand) (t : TypeId)
    (ho : o.op = .call { callee := .builtin .append, args := #[s, x], argTypes := #[t, t] }) (e : TypeId) (ht : P.underlying t = some (.slice e)) (hel : El P e α)
    {sa : Option Addr} {n : Nat} {xs ys : List α} (hs : a.eval s = .slice sa n n) (hS : Rs w (.slice sa n n) xs) {ab ao m c : Nat} (hx : a.eval x = .slice (some ⟨ab, ao, none⟩) m c) (hm : ys.length = m) {Fy : List Nat} (hy : Row w ab ao ys Fy)
    (hm0 : 0 < m) (hlen : xs.length + m ≤ 2147483648)
    (h : ∀ v' w', Os w.heap.size w' v' (xs ++ ys) → Ext w w' → K (a.put o.dst v') w') : o.wp P a w K Q := by
  have hFy := hy.fl
  subst hFy
  obtain ⟨F, a', c', he, hl, hc, hr⟩ := hS
  cases he
  by_cases hsn : sa = none
  · subst hsn
    have hx0 : xs = [] := by
      rcases hr with ⟨h, _⟩ | ⟨_, b, o', F', h, _⟩
      · exact h
      · cases h
    subst hx0
    exact wp_app (L := w.heap.size) s x t ho e ht hel hs (Oa.nil e _ w) hx hm hy hm0 (fun k hk => by cases hk) (by omega) (Nat.le_refl _) fun v' w' h1 h2 => h v' w' (Oo.ofA h1).os (Ext.ofGb (by
      have : (Value.slice none 0 0).ownBlock = none := rfl
      simpa [this] using h2))
  · obtain ⟨⟨b, o', sp⟩, rfl⟩ := Option.ne_none_iff_exists'.1 hsn
    obtain ⟨i, z, bytes, hi, hz, hsz, hby, hzc, hb⟩ := hel
    have hp := GT.pos (α := α)
    obtain ⟨news, hnl, hnat, hn1⟩ := hy.cells
    have hadd : ∀ (b' o' j : Nat), Addr.add ⟨b', o', none⟩ j = ⟨b', o' + j, none⟩ := fun b' o' j => by
      unfold Addr.add; split
      · subst j; rfl
      · rfl
    have holds : ∃ olds : List Value, olds.length = xs.length * GT.sz α ∧ (∀ j u, olds[j]? = some u → w.cell? (Addr.add ⟨b, o', sp⟩ j) = some u) ∧ (∀ u ∈ olds, u.oneCell' = true) ∧ ∀ w' g, (∀ j u, olds[j]? = some u → w'.cell? ⟨g, j, none⟩ = some u) → Row w' g 0 xs [] := by
      rcases hr with ⟨rfl, _⟩ | ⟨_, b', o'', F', h1, rfl, hr⟩
      · exact ⟨[], by simp, fun j u hj => by simp at hj, fun u hu => (by cases hu), fun w' g _ => rfl⟩
      · cases h1
        have := hr.fl
        subst this
        obtain ⟨olds, h1, h2, h3⟩ := hr.cells
        refine ⟨olds, h1, fun j u hj => by rw [hadd]; exact h2 j u hj, h3, fun w' g hc => hr.move (fun k hk => by cases hk) fun j u hj hu => ?_⟩
        have hj2 : j < olds.length := by omega
        have h4 := h2 j olds[j] (by simp [hj2])
        rw [h4] at hu; cases hu
        rw [Nat.zero_add]
        exact hc j _ (by simp [hj2])
    obtain ⟨olds, hol, holc, ho1, hmv⟩ := holds
    have hbytes : (xs.length + m) * i.bytes ≤ 140737488355328 := by
      rw [hby]
      have := Nat.mul_le_mul (show xs.length + m ≤ 4294967296 by omega) hb
      omega
    have hrun := run_append_grow (P := P) w t o.type e i z ht hi hz ⟨b, o', sp⟩ xs.length xs.length olds (by rw [hsz]; exact hol) holc ⟨ab, ao, none⟩ m c news (by rw [hsz, ← hm]; exact hnl) (fun j u hj => by rw [hadd]; exact hnat j u hj) (by omega) (by omega) (growslice_fits (by omega) hbytes)
    have hge := grownCap_ge w (xs.length + m) xs.length e
    have hcm : grownCap w (xs.length + m) xs.length e ≤ maxLen := grownCap_le_maxLen w (xs.length + m) xs.length e (by unfold maxLen; omega)
    unfold Oper.wp execOp
    simp only [ho, resolve, invoke, builtin, Sem.run_bind, Sem.run_pure, Result.andThen_ok, List.map_toArray, List.map_cons, List.map_nil, hs, hx, hrun]
    refine h _ _ ?_ ((Ext.refl w).drew.alloc _)
    generalize hC : olds.toArray ++ news.toArray ++ Builtin.zeroCells z.cells (grownCap w (xs.length + m) xs.length e - (xs.length + m)) = C
    have hB : (w.drew.alloc (.cells C e)).heap[w.heap.size]? = some (.cells C e (0, 0)) := by
      show (w.heap.push _)[w.heap.size]? = _
      simp
    have hcell : ∀ j u, (olds ++ news)[j]? = some u → (w.drew.alloc (.cells C e)).cell? ⟨w.heap.size, j, none⟩ = some u := fun j u hj => by
      refine (Bk.ofA hB).cell ?_
      have hj2 := (List.getElem?_eq_some_iff.1 hj).1
      rw [← hC]
      simp only [Array.toList_append, List.append_assoc]
      rw [← List.append_assoc, List.getElem?_append_left (by simpa using hj2)]
      simpa using hj
    refine ⟨[w.heap.size], ⟨_, _, by rw [List.length_append, hm], by rw [List.length_append, hm]; exact hge, hcm, .inr ⟨fun e => by have := congrArg List.length e; rw [List.length_append, hm, List.length_nil] at this; omega, w.heap.size, 0, [], rfl, rfl, ?_⟩⟩, by simp, fun k hk => ?_⟩
    · refine Row.append (F := []) (G := []) (hmv _ _ fun j u hj => hcell j u (by rw [List.getElem?_append_left (List.getElem?_eq_some_iff.1 hj).1]; exact hj)) (hy.move (fun k hk => by cases hk) fun j u hj hu => ?_)
      have hj2 : j < news.length := by omega
      have h1 := hnat j news[j] (by simp [hj2])
      rw [h1] at hu; cases hu
      rw [Nat.zero_add, ← hol]
      exact hcell _ _ (by rw [List.getElem?_append_right (by omega), Nat.add_sub_cancel_left]; simp [hj2])
    · rw [List.mem_singleton] at hk; subst hk
      exact ⟨Nat.le_refl _, _, _, Bk.ofA hB⟩
theorem wpl_appG {α : Type} [GT α] [Fl α] {P : Program} {w : World} {ops : Array Oper} {rest : List Oper} {o : Oper} {a : Act} {Q : Exit → Act → World → Prop} (hgd : o.guard = none) (s x : Operand) (t : TypeId)
    (ho : o.op = .call { callee := .builtin .append, args := #[s, x], argTypes := #[t, t] }) (e : TypeId) (ht : P.underlying t = some (.slice e)) (hel : El P e α)
    {sa : Option Addr} {n : Nat} {xs ys : List α} (hs : a.eval s = .slice sa n n) (hS : Rs w (.slice sa n n) xs) {ab ao m c : Nat} (hx : a.eval x = .slice (some ⟨ab, ao, none⟩) m c) (hm : ys.length = m) {Fy : List Nat} (hy : Row w ab ao ys Fy)
    (hm0 : 0 < m) (hlen : xs.length + m ≤ 2147483648)
    (h : ∀ v' w', Os w.heap.size w' v' (xs ++ ys) → Ext w w' → wpList P ops Q rest (a.put o.dst v') w') : wpList P ops Q (o :: rest) a w :=
  wpList_plain hgd fun _ hK => wp_appG s x t ho e ht hel hs hS hx hm hy hm0 hlen fun v' w' h1 h2 => hK _ _ (h v' w' h1 h2)
noncomputable def M.sealed (s : Setup) (key : Int) : List Int := if M.setv s && M.inn key 0 1048572 then M.nums s ++ [M.mix key (M.nums s)] else []
theorem M.nums_len {s : Setup} (h : M.setv s = true) : (M.nums s).length ≤ 1000 := by
  have h5 := M.setv_parts h
  have h8 := M.setv_chans h
  have h12 := M.setv_slots h
  have a1 := flat_len M.pn s.Parts s.Parts.length 38 (fun y hy => M.pn_len h hy)
  have a2 := flat_len M.cn s.Channels s.Channels.length 4 (fun y _ => by simp [M.cn])
  have a3 := flat_len M.sn s.Slots s.Slots.length 2 (fun y _ => by simp [M.sn])
  rw [List.take_length] at a1 a2 a3
  simp only [M.nums, List.length_append, List.length_cons, List.length_nil]
  omega
theorem M.mix_rng {key : Int} (h : 0 ≤ key ∧ key ≤ 1048572) (xs : List Int) : 0 ≤ M.mix key xs ∧ M.mix key xs ≤ 1048572 := by
  rcases List.eq_nil_or_concat xs with rfl | ⟨ys, y, rfl⟩
  · exact h
  · rw [List.concat_eq_append, M.mix_snoc]; exact M.mix1_rng _ _
theorem impl_SealSetup (v : Value) (s : Setup) (key : Int) (w : World) (h : Rv w v s) :
    Calls Try.prog 27 #[v, .int .i64 key] w fun e w' => ∃ v', e = .returned v' ∧ Os w.heap.size w' v' (M.sealed s key) ∧ Ext w w' := by
  have H := Lib.hid h
  obtain ⟨a0, c0, a1, c1, a2, c2, rfl, h0, hl0, h1, hl1, h2, hl2⟩ := h.openSetup
  clear h h0 h1 h2
  have e0 := Lib.hid ((Ext.refl w).alloc (.cells #[.slice a0 s.Parts.length c0, .slice a1 s.Channels.length c1, .slice a2 s.Slots.length c2] 27))
  cases g : M.setv s
  · have hm : Hid (M.sealed s key = []) := Lib.hid (by unfold M.sealed; rw [g]; rfl)
    go_enter Try.func27, Try.ntmps27
    go_wp2_with (go_at_call 17; refine (impl_SetupValid _ s _ (H.out.ext e0.out)).mono ?_; rintro e w1 ⟨he, he1⟩; rw [g] at he; subst he; have E1 := Lib.hid (e0.out.tr he1); clear he1)
    go_ret
    exact ⟨_, rfl, by rw [hm.out]; exact (Oa.nil 3 w.heap.size _).os (Own.nil _ _), E1.out⟩
  · cases k : M.inn key 0 1048572
    · have hm : Hid (M.sealed s key = []) := Lib.hid (by unfold M.sealed; rw [g, k]; rfl)
      go_enter Try.func27, Try.ntmps27
      go_wp2_with (first
        | (go_at_call 17; refine (impl_SetupValid _ s _ (H.out.ext e0.out)).mono ?_; rintro e w1 ⟨he, he1⟩; rw [g] at he; subst he; have E1 := Lib.hid (e0.out.tr he1); clear he1)
        | (go_at_call 58; refine (impl_isKey _ _).mono ?_; rintro e w2 ⟨he, rfl⟩; rw [k] at he; subst he))
      go_ret
      exact ⟨_, rfl, by rw [hm.out]; exact (Oa.nil 3 w.heap.size _).os (Own.nil _ _), E1.out⟩
    · have hm : Hid (M.sealed s key = M.nums s ++ [M.mix key (M.nums s)]) := Lib.hid (by unfold M.sealed; rw [g, k]; rfl)
      have hSL := Lib.hid hm.out.symm
      have hsl : (M.sealed s key).length ≤ 2000 := by rw [hm.out, List.length_append, List.length_singleton]; have := M.nums_len g; omega
      have hN : Hid (M.numbers s = M.nums s) := Lib.hid (by unfold M.numbers; rw [if_pos g])
      have hnl := M.nums_len g
      have hk := M.inn_iff.1 k
      obtain ⟨hk0, hk1⟩ := hk
      have hmr := M.mix_rng ⟨hk0, hk1⟩ (M.nums s)
      go_enter Try.func27, Try.ntmps27
      go_upto_region 4 with (first
        | (go_at_call 17; refine (impl_SetupValid _ s _ (H.out.ext e0.out)).mono ?_; rintro e w1 ⟨he, he1⟩; rw [g] at he; subst he; have E1 := Lib.hid (e0.out.tr he1); obtain ⟨hz, x0, x1, x2⟩ := box3 he1; clear he1)
        | (go_at_call 58; refine (impl_isKey _ _).mono ?_; rintro e w2 ⟨he, rfl⟩; rw [k] at he; subst he)
        | (go_at_call 10; refine (impl_SetupNumbersC _ s _ (H.out.ext E1.out)).mono ?_; rintro e w3 ⟨v3, rfl, ho, ⟨a3, rfl⟩, he3⟩; rw [hN.out] at ho ⊢; have HO := Lib.hid ho.rs; have E3 := Lib.hid (E1.out.tr he3); clear ho he3))
      go_wp2_with (first
        | (go_at_call 60; refine (impl_MixNumbers _ (M.nums s) key _ HO.out hk0 hk1).mono ?_; rintro e w4 ⟨rfl, rfl⟩)
        | (at_builtin; refine wpl_appG (α := Int) rfl _ _ 29 rfl 3 Try.underlying29 elInt (ys := [M.mix key (M.nums s)]) rfl (HO.out.ext ((Ext.refl _).alloc _)) rfl rfl (CI.row ⟨by simp, rng_of (by omega) (by omega), trivial⟩) (by omega) (by omega) ?_; intro v5 w5 hO5 he5; rw [hSL.out] at hO5; obtain ⟨F5, hs5, _⟩ := hO5; have HO5 := Lib.hid hs5; obtain ⟨p5, q5, rfl, _, _⟩ := id hs5; have E5 := Lib.hid ((E3.out.alloc _).tr he5); clear hs5 he5)
        | (go_at_call 59; refine (impl_clone_Int _ _ _ _ HO5.out (by omega)).mono ?_; rintro e w6 ⟨v6, F6, rfl, ho6, _, _, he6⟩; obtain ⟨G6, s6, ow6⟩ := ho6.flat; have S6 := Lib.hid s6; have O6 := Lib.hid ow6; have E6 := Lib.hid (E5.out.tr he6); clear s6 ow6 he6 ho6))
      go_ret
      exact ⟨_, rfl, ⟨G6, S6.out, O6.out.mono E5.out.sz⟩, E6.out⟩
end Sk

namespace Sk
open Go Go.Proofs Go.RowKit
set_option maxHeartbeats 1600000
set_option maxRecDepth 100000
set_option linter.unusedVariables false
set_option linter.unusedSimpArgs false
theorem Rs.init {α : Type} [GT α] {w : World} {a : Option Addr} {n c : Nat} {xs : List α} {y : α} (h : Rs w (.slice a n c) (xs ++ [y])) : Rs w (.slice a xs.length c) xs := by
  obtain ⟨F, a', c', he, hl, hc, hr⟩ := h
  cases he
  rw [List.length_append, List.length_singleton] at hl
  rcases hr with ⟨h, _⟩ | ⟨_, b, o, F', rfl, rfl, hr⟩
  · simp at h
  · obtain ⟨F1, F2, rfl, h1, _⟩ := hr.split
    by_cases hx : xs = []
    · subst hx; exact ⟨[], _, c, rfl, by simp, hc, .inl ⟨rfl, rfl⟩⟩
    · exact ⟨b :: F1, _, c, rfl, by omega, hc, .inr ⟨hx, b, o, F1, rfl, rfl, h1⟩⟩
noncomputable def M.openS (xs : List Int) (key : Int) : Setup × Bool :=
  if M.inn key 0 1048572 && (!xs.isEmpty && (M.mix key xs.dropLast == xs.getLastD 0)) then M.readS xs.dropLast else (default, false)
theorem M.openS_nil (key : Int) : M.openS [] key = (default, false) := by unfold M.openS; rw [if_neg (by simp)]
theorem M.openS_key {key : Int} (h : M.inn key 0 1048572 = false) (xs : List Int) : M.openS xs key = (default, false) := by unfold M.openS; rw [if_neg (by simp [h])]
theorem M.openS_eq {key : Int} (h : M.inn key 0 1048572 = true) (ys : List Int) (y : Int) : M.openS (ys ++ [y]) key = if (M.mix key ys == y) = true then M.readS ys else (default, false) := by
  unfold M.openS
  have : (ys ++ [y]).getLastD 0 = y := by simp [List.getLastD_eq_getLast?]
  rw [this]
  simp [h]
theorem M.readS_cases (ys : List Int) : (∃ s, M.setv s = true ∧ M.nums s = ys ∧ M.readS ys = (s, true)) ∨ M.readS ys = (default, false) := by
  by_cases h : ∃ s, M.setv s = true ∧ M.nums s = ys
  · obtain ⟨s, hs, rfl⟩ := h
    exact .inl ⟨s, hs, rfl, M.readS_of hs⟩
  · exact .inr (M.readS_none (fun s hs e => h ⟨s, hs, e⟩))
theorem impl_OpenSetup (v : Value) (xs : List Int) (key : Int) (w : World) (h : Rs w v xs) :
    Calls Try.prog 29 #[v, .int .i64 key] w fun e w' => ∃ v', e = .returned (.tuple #[v', .bool (M.openS xs key).2]) ∧ Ov w.heap.size w' v' (M.openS xs key).1 ∧ Ext w w' := by
  obtain ⟨a, c, rfl, hl⟩ := h.form
  have K0 := Bk.new w [.slice none 0 0, .slice none 0 0, .slice none 0 0] 27
  have k0 := K0.cell (j := 0) rfl
  have kf := K0.fz
  replace K0 := Lib.hid K0
  have E0 := Lib.hid ((Ext.refl w).alloc (.cells #[.slice none 0 0, .slice none 0 0, .slice none 0 0] 27))
  clear k0 kf
  rcases List.eq_nil_or_concat xs with rfl | ⟨ys, y, rfl⟩
  · have HM := Lib.hid (M.openS_nil key)
    clear h
    go_enter Try.func29, Try.ntmps29
    go_wp2
    refine bodyPost_ret (v := .tuple #[.agg #[.slice none 0 0, .slice none 0 0, .slice none 0 0], .bool false]) (by simp [results, Try.results29, go_sem]) rfl ⟨_, by rw [HM.out], by rw [HM.out]; exact ov_zero, ?_⟩
    exact E0.out
  · rw [List.concat_eq_append] at h hl ⊢
    have H := Lib.hid h
    have HY := Lib.hid h.init
    have hcap : ys.length + 1 ≤ c := by
      obtain ⟨_, _, _, e, h1, _⟩ := id h
      cases e; simpa using h1
    have hcap1 : ys.length ≤ c := by omega
    have hcap2 : (ys.length : Int) ≤ (c : Int) := by omega
    clear h
    have hlen : (ys ++ [y]).length = ys.length + 1 := by simp
    rw [hlen] at hl H ⊢
    clear hlen
    cases k : M.inn key 0 1048572
    · have HM := Lib.hid (M.openS_key k (ys ++ [y]))
      go_enter Try.func29, Try.ntmps29
      go_wp2_with (go_at_call 58; refine (impl_isKey _ _).mono ?_; rintro e w2 ⟨he, rfl⟩; rw [k] at he; subst he)
      refine bodyPost_ret (v := .tuple #[.agg #[.slice none 0 0, .slice none 0 0, .slice none 0 0], .bool false]) (by simp [results, Try.results29, go_sem]) rfl ⟨_, by rw [HM.out], by rw [HM.out]; exact ov_zero, ?_⟩
      exact E0.out
    · have hopen := M.openS_eq k ys y
      have hcases := M.readS_cases ys
      have HRS := impl_ReadSetup _ ys _ (HY.out.ext E0.out)
      obtain ⟨rs, rb, hrd⟩ : ∃ rs rb, M.readS ys = (rs, rb) := ⟨_, _, rfl⟩
      rw [hrd] at hopen hcases HRS
      replace HRS := Lib.hid HRS
      replace hopen := Lib.hid hopen
      replace hcases := Lib.hid hcases
      clear hrd
      go_enter Try.func29, Try.ntmps29
      go_upto_region 4 with (first
        | (go_at_call 58; refine (impl_isKey _ _).mono ?_; rintro e w2 ⟨he, rfl⟩; rw [k] at he; subst he)
        | (go_at_call 14; refine HRS.out.mono ?_; rintro e w3 ⟨v3, rfl, ho, he3⟩; have HO := Lib.hid ho; obtain ⟨p0, q0, p1, q1, p2, q2, rfl, _⟩ := ho.rv.openSetup; have E3 := Lib.hid he3; clear ho he3))
      refine abs_world (fun W => Ext w3 W ∧ Bk W w3.heap.size [.slice p0 rs.Parts.length q0, .slice p1 rs.Channels.length q1, .slice p2 rs.Slots.length q2] 27) ⟨(Ext.refl _).alloc _, Bk.new _ _ _⟩ ?_
      rintro W ⟨eW, KW⟩
      have j0 := KW.cell (j := 0) rfl
      have j1 := KW.cell (j := 1) rfl
      have j2 := KW.cell (j := 2) rfl
      have jl := KW.lt
      have EWA := Lib.hid (E3.out.tr eW)
      have EW := Lib.hid (E0.out.tr EWA.out)
      have KWh := Lib.hid KW
      have b0 := (K0.out.ext EWA.out).cell (j := 0) rfl
      have b1 := (K0.out.ext EWA.out).cell (j := 1) rfl
      have b2 := (K0.out.ext EWA.out).cell (j := 2) rfl
      have bf := (K0.out.ext EWA.out).fz
      have bl := (K0.out.ext EWA.out).lt
      have l3 : w.heap.size < w3.heap.size := by have := E3.out.sz; simp at this; omega
      have HOW : Hid (Ov (w.heap.size + 1) W (.agg #[.slice p0 rs.Parts.length q0, .slice p1 rs.Channels.length q1, .slice p2 rs.Slots.length q2]) rs) := Lib.hid (by
        obtain ⟨cs, F, h1, h2, h3⟩ := HO.out
        exact ⟨cs, F, h1, GT.ext h2 eW, by simpa using h3.ext eW⟩)
      have hne : w3.heap.size ≠ w.heap.size := by omega
      have hne2 : w.heap.size ≠ w3.heap.size := by omega
      clear eW HO KW
      cases rb
      · have HZ : Hid (M.openS (ys ++ [y]) key = (default, false)) := Lib.hid (by
          have h1 := hcases.out
          have h2 := hopen.out
          rcases h1 with ⟨s, _, _, h⟩ | h
          · cases h
          · rw [h2]; split
            · exact h
            · rfl)
        go_wp2
        refine bodyPost_ret (v := .tuple #[.agg #[.slice none 0 0, .slice none 0 0, .slice none 0 0], .bool false]) (by simp [results, Try.results29, go_sem, b0, b1, b2]) rfl ⟨_, by rw [HZ.out], by rw [HZ.out]; exact ov_zero, ?_⟩
        exact ((EW.out.set (by show w.heap.size ≤ w.heap.size; omega) _).set (by show w.heap.size ≤ w.heap.size; omega) _).set (by show w.heap.size ≤ w.heap.size; omega) _
      · obtain ⟨hs, hn⟩ : M.setv rs = true ∧ M.nums rs = ys := by
          rcases hcases.out with ⟨s, h1, h2, h⟩ | h
          · cases h; exact ⟨h1, h2⟩
          · cases h
        have hseal : Hid (M.sealed rs key = ys ++ [M.mix key ys]) := Lib.hid (by unfold M.sealed; rw [hs, k, hn]; rfl)
        replace hn := Lib.hid hn
        cases hq : Eqb (M.sealed rs key) (ys ++ [y])
        · have HZ : Hid (M.openS (ys ++ [y]) key = (default, false)) := Lib.hid (by
            rw [hopen.out, if_neg]
            intro h
            rw [beq_iff_eq] at h
            rw [Eqb.t (by rw [hseal.out, h])] at hq
            cases hq)
          go_upto_region 5 with (first
            | (go_at_call 27; refine (impl_SealSetup _ rs key _ HOW.out.rv).mono ?_; rintro e w4 ⟨v4, rfl, ho4, he4⟩; have HO4 := Lib.hid ho4.rs; obtain ⟨p4, q4, rfl, _⟩ := ho4.form; have E4 := Lib.hid he4; clear ho4 he4)
            | (go_at_call 40; refine (impl_Equal_int _ _ (M.sealed rs key) (ys ++ [y]) _ HO4.out (H.out.ext (EW.out.tr E4.out))).mono ?_; rintro e w5 ⟨he, he5⟩; rw [hq] at he; subst he; have E5 := Lib.hid (E4.out.tr he5); have y0 := (K0.out.ext (EWA.out.tr E5.out)).cell (j := 0) rfl; have y1 := (K0.out.ext (EWA.out.tr E5.out)).cell (j := 1) rfl; have y2 := (K0.out.ext (EWA.out.tr E5.out)).cell (j := 2) rfl; have yf := (K0.out.ext (EWA.out.tr E5.out)).fz; have yl := (K0.out.ext (EWA.out.tr E5.out)).lt; clear he5))
          go_wp2
          refine bodyPost_ret (v := .tuple #[.agg #[.slice none 0 0, .slice none 0 0, .slice none 0 0], .bool false]) (by simp [results, Try.results29, go_sem, y0, y1, y2]) rfl ⟨_, by rw [HZ.out], by rw [HZ.out]; exact ov_zero, ?_⟩
          exact (((EW.out.tr E5.out).set (by show w.heap.size ≤ w.heap.size; omega) _).set (by show w.heap.size ≤ w.heap.size; omega) _).set (by show w.heap.size ≤ w.heap.size; omega) _
        · have HZ : Hid (M.openS (ys ++ [y]) key = (rs, true)) := Lib.hid (by
            rw [hopen.out, if_pos]
            have := Eqb.iff.1 hq
            rw [hseal.out] at this
            simpa using this)
          go_upto_region 6 with (first
            | (go_at_call 27; refine (impl_SealSetup _ rs key _ HOW.out.rv).mono ?_; rintro e w4 ⟨v4, rfl, ho4, he4⟩; have HO4 := Lib.hid ho4.rs; obtain ⟨p4, q4, rfl, _⟩ := ho4.form; have E4 := Lib.hid he4; clear ho4 he4)
            | (go_at_call 40; refine (impl_Equal_int _ _ (M.sealed rs key) (ys ++ [y]) _ HO4.out (H.out.ext (EW.out.tr E4.out))).mono ?_; rintro e w5 ⟨he, he5⟩; rw [hq] at he; subst he; have E5 := Lib.hid (E4.out.tr he5); have y0 := (K0.out.ext (EWA.out.tr E5.out)).cell (j := 0) rfl; have y1 := (K0.out.ext (EWA.out.tr E5.out)).cell (j := 1) rfl; have y2 := (K0.out.ext (EWA.out.tr E5.out)).cell (j := 2) rfl; have yf := (K0.out.ext (EWA.out.tr E5.out)).fz; have yl := (K0.out.ext (EWA.out.tr E5.out)).lt; have z0 := (KWh.out.ext E5.out).cell (j := 0) rfl; have z1 := (KWh.out.ext E5.out).cell (j := 1) rfl; have z2 := (KWh.out.ext E5.out).cell (j := 2) rfl; clear he5))
          go_wp2
          refine bodyPost_ret (v := .tuple #[.agg #[.slice p0 rs.Parts.length q0, .slice p1 rs.Channels.length q1, .slice p2 rs.Slots.length q2], .bool true]) (by simp [results, Try.results29, go_sem, y0, y1, y2]) rfl ⟨_, by rw [HZ.out], ?_, ?_⟩
          · rw [HZ.out]
            obtain ⟨cs, F, h1, h2, h3⟩ := HOW.out
            have hk : ∀ k ∈ F, k ≠ w.heap.size := fun k hk => by have := (h3.2 k hk).1; omega
            refine ⟨cs, F, h1, GT.keep (GT.ext h2 E5.out) (fun k hm => ?_), ((((h3.mono (by omega)).ext E5.out).set _ _).set _ _).set _ _⟩
            rw [heap_set_ne (by show k ≠ w.heap.size; exact hk k hm), heap_set_ne (by show k ≠ w.heap.size; exact hk k hm), heap_set_ne (by show k ≠ w.heap.size; exact hk k hm)]
          · exact (((EW.out.tr E5.out).set (by show w.heap.size ≤ w.heap.size; omega) _).set (by show w.heap.size ≤ w.heap.size; omega) _).set (by show w.heap.size ≤ w.heap.size; omega) _
end Sk

