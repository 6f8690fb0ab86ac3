/- Contracts of functions of the given program, each under the condition that it states. -/
import Derived.Test.YtfihgkjbjpodnaaChecked
import Derived.Deep.CutBlock
import Derived.Deep.CutRange
import Derived.Test.YtfihgkjbjpodnaaZxMch
namespace Sk
open Go Go.Proofs Go.RowKit
set_option maxHeartbeats 4000000
set_option maxRecDepth 100000
set_option linter.unusedVariables false
set_option linter.unusedSimpArgs false
theorem Rvb.openMc {L : Nat} {w : World} {v : Value} {x : Machine} (h : Rvb L w v x) : ∃ p0 q0 p1 q1 p2 q2 p3 q3 p4 q4 p5 q5, v = .agg #[.slice p0 x.Plan.Parts.length q0, .slice p1 x.Plan.Channels.length q1, .slice p2 x.Plan.Slots.length q2, .slice p3 x.Programs.length q3, .slice p4 x.Cores.length q4, .slice p5 x.Holds.length q5, .int .i64 x.Tick] ∧ x.Cores.length ≤ 9223372036854775807 := by
 obtain ⟨cs, F, rfl, ⟨v0, v1, v2, v3, v4, v5, F0, F1, F2, F3, F4, F5, rfl, ⟨_, _, rfl, _⟩, ⟨_, _, rfl, _⟩, ⟨_, _, rfl, _⟩, ⟨_, _, rfl, _⟩, h4, ⟨_, _, rfl, _⟩, _⟩, _⟩ := h
 obtain ⟨a4, c4, rfl, g4⟩ := Rs.form ⟨_, h4⟩
 exact ⟨_, _, _, _, _, _, _, _, _, _, _, _, rfl, g4⟩
theorem spec_DrawMachineValid (v : Value) (xs : List By) (w : World) (h : Rs w v xs) :
  Calls Try.prog 4 #[v] w fun e w' => ∃ v' x, e = .returned v' ∧ Rvb (α := Machine) w.heap.size w' v' x ∧ GT.tot x ≤ 200000 ∧ Ext w w' := by
 have H := zh h
 clear h
 go_enter Try.func4, Try.ntmps4
 go_upto_region 1 with (fail)
 refine abs_world (fun W0 => Ext w W0 ∧ Bk W0 w.heap.size [.slice none 0 0, .slice none 0 0, .slice none 0 0, .slice none 0 0, .slice none 0 0, .slice none 0 0, .int .i64 0] 32) ⟨(Ext.refl _).alloc _, Bk.new _ _ _⟩ ?_
 rintro W0 ⟨e0, kA⟩
 have HE0 := zh e0
 have KA := zh kA
 have hA := kA.lt
 clear e0 kA
 go_wp2_with (first
  | (go_at_call 9; refine (spec_l20Open _ _ _ (H.out.ext HE0.out)).mono ?_; rintro e w1 ⟨b, rfl, hb, he, hr⟩; have HE := zh he; have hs1 := he.sz; have HR : Hid (Rd W0 w1 b (0 + 1100)) := zh (hr.le (by omega)); clear he hr)
  | (go_at_call 8; refine (spec_l20Machine W0 _ b 0 2 HR.out ⟨by omega, by omega⟩).mono ?_; rintro e w2 ⟨v2, x, rfl, hv, htt, -, hm, hr⟩; obtain ⟨p0, q0, p1, q1, p2, q2, p3, q3, p4, q4, p5, q5, rfl, -⟩ := hv.openMc; have KA2 := hm.bk (KA.out.ext HE.out) (by simp; omega); obtain ⟨d0, d1, d2, d3, d4, d5, d6⟩ := Bk.k7 KA2; have df := KA2.fz; have dl := KA2.lt; have HV := zh hv; have HTT := zh htt; have HM2 := zh (hm.ext (HE0.out.tr HE.out) (by simp; omega)); clear hm hr hv htt KA2))
 refine bodyPost_ret (v := .agg #[.slice p0 x.Plan.Parts.length q0, .slice p1 x.Plan.Channels.length q1, .slice p2 x.Plan.Slots.length q2, .slice p3 x.Programs.length q3, .slice p4 x.Cores.length q4, .slice p5 x.Holds.length q5, .int .i64 x.Tick]) (by simp [results, Try.results4, go_sem, d0, d1, d2, d3, d4, d5, d6]) rfl ⟨_, x, rfl, ?_, HTT.out, ?_⟩
 ·exact (Rvb.puts (A := w.heap.size) (o := 0) (by omega) [.slice p0 x.Plan.Parts.length q0, .slice p1 x.Plan.Channels.length q1, .slice p2 x.Plan.Slots.length q2, .slice p3 x.Programs.length q3, .slice p4 x.Cores.length q4, .slice p5 x.Holds.length q5, .int .i64 x.Tick] HV.out).mono (by omega)
 ·exact Ext.puts (b := w.heap.size) (o := 0) (Nat.le_refl _) [.slice p0 x.Plan.Parts.length q0, .slice p1 x.Plan.Channels.length q1, .slice p2 x.Plan.Slots.length q2, .slice p3 x.Programs.length q3, .slice p4 x.Cores.length q4, .slice p5 x.Holds.length q5, .int .i64 x.Tick] HM2.out
theorem Oa.slF {α : Type} [GT α] {e : TypeId} {L : Nat} {w : World} {v : Value} {xs : List α} {F : List Nat} (h : Oa e L w v xs F) : ∃ F', Sl w v xs F' ∧ ∀ k ∈ F', v.ownBlock = some k ∨ k ∈ F := by
 rcases h with ⟨rfl, rfl, rfl⟩ | ⟨g, cap, cur, rfl, hL, hg, hl, hc, hs, hr, hn⟩
 ·exact ⟨[], ⟨none, 0, rfl, Nat.le_refl _, Nat.zero_le _, .inl ⟨rfl, rfl⟩⟩, fun k hk => by cases hk⟩
 ·by_cases hx : xs = []
  ·subst hx
   exact ⟨[], ⟨_, cap, rfl, hl, hc, .inl ⟨rfl, rfl⟩⟩, fun k hk => by cases hk⟩
  ·exact ⟨g :: F, ⟨_, cap, rfl, hl, hc, .inr ⟨hx, g, 0, F, rfl, rfl, hr⟩⟩, fun k hk => by
    rcases List.mem_cons.1 hk with rfl | hk
    ·exact .inl rfl
    ·exact .inr hk⟩
theorem wpl_appRs {α : Type} [GT α] {P : Program} {W w : World} {ops : Array Oper} {rest : List Oper} {o : Oper} {a : Act} {Q : Exit → Act → World → Prop} (hgd : o.guard = none) (s x : Operand) (t : TypeId)
  (ho : o.op = .call { callee := .builtin .append, args := #[s, x], argTypes := #[t, t] }) (e : TypeId) (ht : P.underlying t = some (.slice e)) (hel : El P e α)
  {L : Nat} {v : Value} {xs ys : List α} {F : List Nat} (hs : a.eval s = v) (hO : Oa e L w v xs F) {vx : Value} (hx : a.eval x = vx) (hy : Rs W vx ys) (hE : Ext W w) (hB : ∀ k, v.ownBlock = some k → W.heap.size ≤ k) (hlen : xs.length + ys.length ≤ 4294967296) (hL : L ≤ w.heap.size)
  (h : ∀ v' w' F', Sl w' v' (xs ++ ys) F' → (∀ k ∈ F', k < W.heap.size ∨ k ∈ F ∨ v.ownBlock = some k ∨ k = w.heap.size) → w.grownBy w' v.ownBlock → wpList P ops Q rest (a.put o.dst v') w') : wpList P ops Q (o :: rest) a w := by
 refine wpList_plain hgd fun _ hK => ?_
 obtain ⟨F', ax, cx, rfl, hl, hc, ⟨rfl, rfl⟩ | ⟨hne, b, o', G, rfl, rfl, hr⟩⟩ := hy
 ·obtain ⟨i, z, bytes, hi, _⟩ := hel
  have hv : ∃ ad n cap, v = .slice ad n cap ∧ n ≤ cap := by
   rcases hO with ⟨rfl, _⟩ | ⟨g, cap, cur, rfl, _, _, hn, _⟩
   ·exact ⟨_, _, _, rfl, Nat.le_refl _⟩
   ·exact ⟨_, _, _, rfl, hn⟩
  obtain ⟨ad, n, cap, rfl, hn⟩ := hv
  have hr := run_append_none (P := P) (w := w) t o.type e i ht hi ad ax n cap cx hn
  unfold Oper.wp execOp
  simp only [ho, resolve, invoke, builtin, Sem.run_bind, Sem.run_pure, Result.andThen_ok, List.map_toArray, List.map_cons, List.map_nil, hs, hx, List.length_nil, hr]
  obtain ⟨G, hG, hG2⟩ := hO.slF
  exact hK _ _ (h _ w G (by rw [List.append_nil]; exact hG) (fun k hk => (hG2 k hk).elim (fun e => .inr (.inr (.inl e))) (fun e => .inr (.inl e))) (grown_refl _ _))
 ·have hr2 := hr.keep (hE.block b (hr.lt hne)) (fun k hk => hE.block k (hr.inh k hk))
  refine wp_appX s x t ho e ht hel hs hO hx rfl hr2 (List.length_pos_iff.2 hne) (fun k hk e9 => by have := hB k e9; have := hr.inh k hk; omega) hlen hL fun v' w' h1 h2 h3 => hK _ _ ?_
  obtain ⟨G', hG, hG2⟩ := h1.slF
  refine h v' w' G' hG (fun k hk => ?_) h2
  rcases hG2 k hk with e9 | e9
  ·rcases h3 with h3 | h3
   ·exact .inr (.inr (.inl (h3 ▸ e9)))
   ·rw [h3] at e9
    exact .inr (.inr (.inr (Option.some.inj e9).symm))
  ·rcases List.mem_append.1 e9 with e9 | e9
   ·exact .inr (.inl e9)
   ·exact .inl (hr.inh k e9)
end Sk
