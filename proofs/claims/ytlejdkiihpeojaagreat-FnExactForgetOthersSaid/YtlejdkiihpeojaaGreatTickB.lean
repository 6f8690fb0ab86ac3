/- Contracts of functions of the given program, and lemmas for them: each theorem states the condition under which it holds. -/
import Derived.Test.YtlejdkiihpeojaaGreatChecked
import Derived.Test.YtlejdkiihpeojaaGreatRstT
import Derived.Test.YtlejdkiihpeojaaGreatBuild
namespace Sk
open Go Go.Proofs Go.RowKit
set_option maxHeartbeats 1000000
set_option linter.unusedVariables false
set_option linter.unusedSimpArgs false
/-- A machine at (b, 0), of one's own, that came of the one at w: what may have turned, and what has not. -/
structure M.TB (L b : Nat) (F : List Nat) (w W : World) (m : Machine) (F' : List Nat) : Prop where
 om : Om L W b 0 m F'
 ch : Chg b 0 7 F w W
 sub : ∀ k ∈ F', k ∈ F ∨ w.heap.size ≤ k
 cl : ∀ j, j ≠ 6 → W.cell? ⟨b, j, none⟩ = w.cell? ⟨b, j, none⟩
theorem M.TB.refl {L b : Nat} {F : List Nat} {w : World} {m : Machine} (h : Om L w b 0 m F) : M.TB L b F w w m F := ⟨h, Chg.refl _ _ _ _ _, fun _ h => .inl h, fun _ _ => rfl⟩
theorem M.TB.lt {L b : Nat} {F F' : List Nat} {w W : World} {m : Machine} (h : M.TB L b F w W m F') : b < W.heap.size := h.om.bk.1
theorem M.TB.trans {L b : Nat} {F F1 F2 : List Nat} {w W W' : World} {m m' : Machine} (h : M.TB L b F w W m F1) (k : M.TB L b F1 W W' m' F2) : M.TB L b F w W' m' F2 :=
 ⟨k.om, h.ch.trF k.ch h.sub, fun x hx => (k.sub x hx).elim (fun h1 => h.sub x h1) (fun h1 => .inr (Nat.le_trans h.ch.sz h1)), fun j hj => (k.cl j hj).trans (h.cl j hj)⟩
theorem M.TB.bk {L b : Nat} {F F' : List Nat} {w W : World} {m : Machine} (h : M.TB L b F w W m F') {k : Nat} {cs : List Value} {T : TypeId} (hk : Bk w k cs T) (hb : k ≠ b) (hF : k ∉ F) : Bk W k cs T := h.ch.bk hk hb hF
/-- The core of a partition. -/
theorem M.TB.core {L b : Nat} {F F' : List Nat} {w W : World} {m : Machine} (h : M.TB L b F w W m F') {g s n c N : Nat} (hv : w.cell? ⟨b, 4, none⟩ = some (.slice (some ⟨g, s, none⟩) n c)) (hN : N < m.Cores.length) :
  ∃ k Fy, m.Cores[N]? = some k ∧ Om L W g (s + N * 3) k Fy ∧ (∀ x ∈ g :: Fy, x ∈ F' ∧ x ≠ b) ∧
   ∀ W' k' Fy', Chg g (s + N * 3) 3 Fy W W' → Om L W' g (s + N * 3) k' Fy' → (∀ x ∈ Fy', x ∈ Fy ∨ W.heap.size ≤ x) → ∃ F2, M.TB L b F w W' { m with Cores := m.Cores.set N k' } F2 := by
 obtain ⟨_, _, _, ho⟩ := id h.om
 obtain ⟨Fc, lc⟩ := h.om.lMachineCores
 obtain ⟨g', s', Fy, k, e, hx, hsub, li⟩ := (lc.om ho).idxS (by rw [show 0 + 4 = 4 from rfl]; exact (h.cl 4 (by decide)).trans hv) N hN
 cases e
 have LC := lc.comp li
 have hs : ∀ x ∈ g :: Fy, x ∈ F' ∧ x ≠ b := fun x hx => Lens.fsub lc ho x (hsub x hx)
 refine ⟨k, Fy, hx.out, LC.om ho, hs, fun W' k' Fy' hc hk' hf => ?_⟩
 obtain ⟨F2, h1, h2, h3⟩ := LC.back L W' k' Fy' ho hc hk' hf
 have hb : ∀ j, W'.cell? ⟨b, j, none⟩ = W.cell? ⟨b, j, none⟩ := fun j => World.cell?_of_block (hc.keep h.lt (fun e => (hs g (List.mem_cons_self ..)).2 e.symm) (fun hm => (hs b (List.mem_cons_of_mem _ hm)).2 rfl))
 refine ⟨F2, h1, h.ch.trF h3 h.sub, fun x hx => ?_, fun j hj => (hb j).trans (h.cl j hj)⟩
 rcases h2 x hx with h4 | h4
 ·exact h.sub x h4
 ·rcases hf x h4 with h5 | h5
  ·exact h.sub x (hs x (List.mem_cons_of_mem _ h5)).1
  ·exact .inr (Nat.le_trans h.ch.sz h5)
/-- What a channel holds. -/
theorem M.TB.hold {L b : Nat} {F F' : List Nat} {w W : World} {m : Machine} (h : M.TB L b F w W m F') {g s n c N : Nat} (hv : w.cell? ⟨b, 5, none⟩ = some (.slice (some ⟨g, s, none⟩) n c)) (hN : N < m.Holds.length) :
  ∃ k Fy, m.Holds[N]? = some k ∧ Om L W g (s + N) k Fy ∧ (∀ x ∈ g :: Fy, x ∈ F' ∧ x ≠ b) ∧
   ∀ W' k' Fy', Chg g (s + N) 1 Fy W W' → Om L W' g (s + N) k' Fy' → (∀ x ∈ Fy', x ∈ Fy ∨ W.heap.size ≤ x) → ∃ F2, M.TB L b F w W' { m with Holds := m.Holds.set N k' } F2 := by
 obtain ⟨_, _, _, ho⟩ := id h.om
 obtain ⟨Fc, lc⟩ := h.om.lMachineHolds
 obtain ⟨g', s', Fy, k, e, hx, hsub, li⟩ := (lc.om ho).idxS (by rw [show 0 + 5 = 5 from rfl]; exact (h.cl 5 (by decide)).trans hv) N hN
 cases e
 have LC := lc.comp li
 have hs : ∀ x ∈ g :: Fy, x ∈ F' ∧ x ≠ b := fun x hx => Lens.fsub lc ho x (hsub x hx)
 simp only [GT.sz, Nat.mul_one] at LC
 refine ⟨k, Fy, hx.out, LC.om ho, hs, fun W' k' Fy' hc hk' hf => ?_⟩
 obtain ⟨F2, h1, h2, h3⟩ := LC.back L W' k' Fy' ho hc hk' hf
 have hb : ∀ j, W'.cell? ⟨b, j, none⟩ = W.cell? ⟨b, j, none⟩ := fun j => World.cell?_of_block (hc.keep h.lt (fun e => (hs g (List.mem_cons_self ..)).2 e.symm) (fun hm => (hs b (List.mem_cons_of_mem _ hm)).2 rfl))
 refine ⟨F2, h1, h.ch.trF h3 h.sub, fun x hx => ?_, fun j hj => (hb j).trans (h.cl j hj)⟩
 rcases h2 x hx with h4 | h4
 ·exact h.sub x h4
 ·rcases hf x h4 with h5 | h5
  ·exact h.sub x (hs x (List.mem_cons_of_mem _ h5)).1
  ·exact .inr (Nat.le_trans h.ch.sz h5)
theorem Om.openH {L : Nat} {w : World} {b o : Nat} {x : Hold} {F : List Nat} (h : Om L w b o x F) : ∃ v, w.cell? ⟨b, o, none⟩ = some v ∧ Rv w (.agg #[v]) x := by
 obtain ⟨cs, he, hat, ho⟩ := h
 obtain ⟨v, rfl, hs⟩ := id he
 exact ⟨v, by simpa using hat 0 _ rfl, [v], F, rfl, he⟩
theorem Om.openHs {L : Nat} {w : World} {b o : Nat} {x : Hold} {F : List Nat} (h : Om L w b o x F) : ∃ a c, w.cell? ⟨b, o, none⟩ = some (.slice a x.Lst.length c) ∧ Rv w (.agg #[.slice a x.Lst.length c]) x := by
 obtain ⟨cs, he, hat, ho⟩ := h
 obtain ⟨v, rfl, hs⟩ := id he
 obtain ⟨a, c, rfl, _⟩ := id hs
 exact ⟨a, c, by simpa using hat 0 _ rfl, _, F, rfl, he⟩
/-- A content of one's own is stored. -/
theorem Om.putHold {L M : Nat} {w W : World} {g o : Nat} {x y : Hold} {F G : List Nat} {v : Value} (h : Om L w g o x F) (he : Ext w W) (hL : L ≤ M) (hM : w.heap.size ≤ M) (hy : GT.enc W [v] y G) (hG : Own M W G) :
  Chg g o 1 F w (W.setCell ⟨g, o, none⟩ v) ∧ Om L (W.setCell ⟨g, o, none⟩ v) g o y G ∧ ∀ k ∈ G, w.heap.size ≤ k := by
 obtain ⟨hlt, hLg, hgF, _⟩ := h.bk
 obtain ⟨u, hc, _⟩ := h.openH
 have hgG : g ∉ G := fun hm => by have := (hG.2 g hm).1; omega
 refine ⟨(Chg.ofExt he hlt).set ⟨Nat.le_refl _, by omega⟩ v, ⟨[v], GT.keep hy (fun k hk => heap_set_ne (fun e => hgG (by have e : k = g := e; rw [← e]; exact hk))), fun j u hj => ?_, List.nodup_cons.2 ⟨hgG, hG.1⟩, fun k hk => ?_⟩, fun k hk => Nat.le_trans hM (hG.2 k hk).1⟩
 ·match j, hj with
  | 0, hj => cases hj; exact cell_set ((cell_ext he hlt).trans hc)
 ·rcases List.mem_cons.1 hk with rfl | hk
  ·exact ⟨hLg, (h.own0.ext he).set _ _⟩
  ·exact ⟨Nat.le_trans hL (hG.2 k hk).1, (hG.2 k hk).2.set _ _⟩
end Sk
