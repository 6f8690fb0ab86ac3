/- Contracts of functions of the given program, and lemmas for them: each theorem states the condition under which it holds. -/
import Derived.Test.YtobfbjgflnhjpaaGreatFlow
namespace Sk
open Go Go.RowKit
set_option linter.unusedVariables false
set_option linter.unusedSimpArgs false
/-- An element of a slice in a cell. -/
theorem Om.idx {α : Type} [GT α] {L : Nat} {w : World} {b o : Nat} {xs : List α} {F : List Nat} (h : Om L w b o xs F) {a : Option Addr} {n c : Nat} (hv : w.cell? ⟨b, o, none⟩ = some (.slice a n c)) (i : Nat) (hi : i < xs.length) :
    ∃ g s Fy x, a = some ⟨g, s, none⟩ ∧ Hid (xs[i]? = some x) ∧ Lens w b o xs F g (s + i * GT.sz α) x Fy (fun y => xs.set i y) := by
  obtain ⟨cs, ⟨v, rfl, hs⟩, hat, ho⟩ := h
  have h0 := hat 0 v rfl
  rw [Nat.add_zero, hv] at h0
  cases h0
  exact Lens.index hs hat ho.1 (fun k hk => ho.lt hk) i hi
theorem Om.cell {α : Type} [GT α] {L : Nat} {w : World} {b o : Nat} {xs : List α} {F : List Nat} (h : Om L w b o xs F) : ∃ a c, w.cell? ⟨b, o, none⟩ = some (.slice a xs.length c) ∧ xs.length ≤ c ∧ xs.length ≤ 9223372036854775807 ∧ Sl w (.slice a xs.length c) xs F := by
  obtain ⟨cs, ⟨v, rfl, hs⟩, hat, ho⟩ := h
  have hs2 := hs
  obtain ⟨a, c, rfl, h1, h2, _⟩ := hs
  unfold maxLen at h2
  exact ⟨a, c, by simpa using hat 0 _ rfl, h1, by omega, hs2⟩
/-- An element of a slice in a slot. -/
theorem Sl.idx {α : Type} [GT α] {L : Nat} {w : World} {xs : List α} {a : Option Addr} {n c : Nat} {F : List Nat} (hs : Sl w (.slice a n c) xs F) (ho : Own L w F) (i : Nat) (hi : i < xs.length) :
    ∃ g s Fy x, a = some ⟨g, s, none⟩ ∧ Hid (xs[i]? = some x) ∧ Om L w g (s + i * GT.sz α) x Fy ∧ (∀ k ∈ g :: Fy, k ∈ F) ∧ ∀ w' y' Fy', Chg g (s + i * GT.sz α) (GT.sz α) Fy w w' → Om L w' g (s + i * GT.sz α) y' Fy' → (∀ k ∈ Fy', k ∈ Fy ∨ w.heap.size ≤ k) → ∃ F', Sl w' (.slice a n c) (xs.set i y') F' ∧ Own L w' F' ∧ ∀ k ∈ F', k ∈ F ∨ k ∈ Fy' := by
  have hnd := ho.1
  have hlt : ∀ k ∈ F, k < w.heap.size := fun k hk => ho.lt hk
  obtain ⟨a', c', he, hl, hc, ⟨rfl, rfl⟩ | ⟨hne, g, s, F', rfl, rfl, hr⟩⟩ := hs
  · cases hi
  cases he
  have hsp : xs = xs.take i ++ xs[i] :: xs.drop (i + 1) := by rw [List.getElem_cons_drop, List.take_append_drop]
  have hr' := hr
  rw [hsp] at hr'
  obtain ⟨F1, F2, rfl, hr1, hr2⟩ := hr'.split
  have hlen : (xs.take i).length = i := by rw [List.length_take]; omega
  rw [hlen] at hr2
  obtain ⟨cs, F0, F3, henc, hate, rfl, hr3⟩ := hr2
  have hg := (List.nodup_cons.1 hnd).1
  have hnd2 := (List.nodup_cons.1 hnd).2
  have hlc := GT.len henc
  have hdis : ∀ k, k ∈ F1 ∨ k ∈ F3 → k ≠ g ∧ k ∉ F0 ∧ k < w.heap.size := fun k hk => by
    have hm : k ∈ F1 ++ (F0 ++ F3) := mem_mid.2 (hk.elim .inl (fun h => .inr (.inr h)))
    refine ⟨fun e => hg (e ▸ hm), fun hy => ?_, hlt k (List.mem_cons_of_mem _ hm)⟩
    simp only [List.nodup_append, List.mem_append] at hnd2
    rcases hk with hk | hk
    · exact hnd2.2.2 k hk k (.inl hy) rfl
    · exact hnd2.2.1.2.2 k hy k hk rfl
  refine ⟨g, s, F0, xs[i], rfl, by unfold Hid; simp [hi], ⟨cs, henc, hate, ?_, fun k hk => ho.2 k ?_⟩, ?_, fun w' y' Fy' hch hz hf => ?_⟩
  · refine List.nodup_cons.2 ⟨fun hm => hg (mem_mid.2 (.inr (.inl hm))), ?_⟩
    simp only [List.nodup_append] at hnd2
    exact hnd2.2.1.1
  · rcases List.mem_cons.1 hk with rfl | hk
    · simp
    · simp [hk]
  · intro k hk
    rcases List.mem_cons.1 hk with rfl | hk
    · simp
    · simp [hk]
  · obtain ⟨csy, h1, h2, h3⟩ := hz
    have hl' := GT.len h1
    have hkeep : ∀ k, k ∈ F1 ∨ k ∈ F3 → w'.heap[k]? = w.heap[k]? := fun k hk => hch.keep (hdis k hk).2.2 (hdis k hk).1 (hdis k hk).2.1
    have hset : xs.set i y' = xs.take i ++ y' :: xs.drop (i + 1) := by rw [List.set_eq_take_append_cons_drop, if_pos hi]
    have h3n := List.nodup_cons.1 h3.1
    refine ⟨g :: (F1 ++ (Fy' ++ F3)), ⟨some ⟨g, s, none⟩, c, by simp, by simpa using hl, hc, .inr ⟨set_ne_nil hne, g, s, _, rfl, rfl, ?_⟩⟩, ⟨?_, ?_⟩, ?_⟩
    · rw [hset]
      refine Row.append (hr1.move (fun k hk' => hkeep k (.inl hk')) fun j u hj hu => ?_) ?_
      · rw [hlen] at hj
        rw [hch.cell (by left; omega)]; exact hu
      · rw [hlen]
        refine ⟨csy, Fy', F3, h1, h2, rfl, hr3.move (fun k hk' => hkeep k (.inr hk')) fun j u hj hu => ?_⟩
        rw [hch.cell (by right; omega)]; exact hu
    · have hgn : g ∉ F1 ++ (Fy' ++ F3) := fun hm => by
        rcases mem_mid.1 hm with hm | hm | hm
        · exact hg (mem_mid.2 (.inl hm))
        · exact h3n.1 hm
        · exact hg (mem_mid.2 (.inr (.inr hm)))
      refine List.nodup_cons.2 ⟨hgn, mid_nodup hnd2 h3n.2 fun k hk => ?_⟩
      rcases hf k hk with h | h
      · exact ⟨fun hm => (hdis k (.inl hm)).2.1 h, fun hm => (hdis k (.inr hm)).2.1 h⟩
      · exact ⟨fun hm => by have := (hdis k (.inl hm)).2.2; omega, fun hm => by have := (hdis k (.inr hm)).2.2; omega⟩
    · intro k hk
      have hold : ∀ k, k ∈ g :: (F1 ++ (F0 ++ F3)) → L ≤ k ∧ Fz w' k := fun k hk => ⟨(ho.2 k hk).1, hch.2.2.2.2 k (ho.2 k hk).2⟩
      rcases List.mem_cons.1 hk with rfl | hk
      · exact hold _ (by simp)
      rcases mem_mid.1 hk with hm | hm | hm
      · exact hold k (by simp [hm])
      · exact h3.2 k (List.mem_cons_of_mem _ hm)
      · exact hold k (by simp [hm])
    · intro k hk
      rcases List.mem_cons.1 hk with rfl | hk
      · exact .inl (List.mem_cons_self ..)
      rcases mem_mid.1 hk with hm | hm | hm
      · exact .inl (by simp [hm])
      · exact .inr hm
      · exact .inl (by simp [hm])
theorem Os.idx {α : Type} [GT α] {L : Nat} {w : World} {xs : List α} {a : Option Addr} {n c : Nat} (h : Os L w (.slice a n c) xs) (i : Nat) (hi : i < xs.length) :
    ∃ g s Fy x, a = some ⟨g, s, none⟩ ∧ Hid (xs[i]? = some x) ∧ Om L w g (s + i * GT.sz α) x Fy ∧ ∀ w' y' Fy', Chg g (s + i * GT.sz α) (GT.sz α) Fy w w' → Om L w' g (s + i * GT.sz α) y' Fy' → (∀ k ∈ Fy', k ∈ Fy ∨ w.heap.size ≤ k) → Os L w' (.slice a n c) (xs.set i y') := by
  obtain ⟨F, hs, ho⟩ := h
  obtain ⟨g, s, Fy, x, h1, h2, h3, _, h5⟩ := hs.idx ho i hi
  exact ⟨g, s, Fy, x, h1, h2, h3, fun w' y' Fy' a b c => by obtain ⟨F', g1, g2, _⟩ := h5 w' y' Fy' a b c; exact ⟨F', g1, g2⟩⟩
/-- A slice of one's own whose blocks lie below M. -/
def Osb {α : Type} [GT α] (L M : Nat) (w : World) (v : Value) (xs : List α) : Prop := ∃ F, Sl w v xs F ∧ Own L w F ∧ ∀ k ∈ F, k < M
theorem Os.osb {α : Type} [GT α] {L : Nat} {w : World} {v : Value} {xs : List α} (h : Os L w v xs) : Osb L w.heap.size w v xs := by
  obtain ⟨F, h1, h2⟩ := h; exact ⟨F, h1, h2, fun k hk => h2.lt hk⟩
theorem Osb.os {α : Type} [GT α] {L M : Nat} {w : World} {v : Value} {xs : List α} (h : Osb L M w v xs) : Os L w v xs := by
  obtain ⟨F, h1, h2, _⟩ := h; exact ⟨F, h1, h2⟩
theorem Osb.ext {α : Type} [GT α] {L M : Nat} {w w' : World} {v : Value} {xs : List α} (h : Osb L M w v xs) (he : Ext w w') : Osb L M w' v xs := by
  obtain ⟨F, h1, h2, h3⟩ := h; exact ⟨F, h1.ext he, h2.ext he, h3⟩
theorem Om.lWindowBase {L : Nat} {w : World} {b o : Nat} {x : Window} {F : List Nat} (h : Om L w b o x F) : ∃ Fy, Lens w b o x F b (o + 0) x.Base Fy (fun y => { x with Base := y }) := by
  obtain ⟨cs, ⟨rfl, r0, r1, rfl⟩, hat, ho⟩ := h
  refine ⟨[], ?_⟩
  have hl := Lens.field (x := x) (y := x.Base) (put := fun y => { x with Base := y }) (A := []) (csy := [.int .i64 x.Base]) (B := [.int .i64 x.Size, .bool x.Write]) (F1 := []) (Fy := []) (F2 := []) 0 rfl rfl (by simpa using hat) (by simp) (fun k hk => ho.lt (by simpa [List.append_assoc] using hk)) ⟨rfl, r0, rfl⟩ ?_
  · simpa [List.append_assoc] using hl
  · intro w' csy' y' Fy' hk hy
    obtain ⟨rfl, q, rfl⟩ := hy
    exact ⟨rfl, q, r1, by simp [List.append_assoc]⟩
theorem Om.lWindowSize {L : Nat} {w : World} {b o : Nat} {x : Window} {F : List Nat} (h : Om L w b o x F) : ∃ Fy, Lens w b o x F b (o + 1) x.Size Fy (fun y => { x with Size := y }) := by
  obtain ⟨cs, ⟨rfl, r0, r1, rfl⟩, hat, ho⟩ := h
  refine ⟨[], ?_⟩
  have hl := Lens.field (x := x) (y := x.Size) (put := fun y => { x with Size := y }) (A := [.int .i64 x.Base]) (csy := [.int .i64 x.Size]) (B := [.bool x.Write]) (F1 := []) (Fy := []) (F2 := []) 1 rfl rfl (by simpa using hat) (by simp) (fun k hk => ho.lt (by simpa [List.append_assoc] using hk)) ⟨rfl, r1, rfl⟩ ?_
  · simpa [List.append_assoc] using hl
  · intro w' csy' y' Fy' hk hy
    obtain ⟨rfl, q, rfl⟩ := hy
    exact ⟨rfl, r0, q, by simp [List.append_assoc]⟩
theorem Om.lWindowWrite {L : Nat} {w : World} {b o : Nat} {x : Window} {F : List Nat} (h : Om L w b o x F) : ∃ Fy, Lens w b o x F b (o + 2) x.Write Fy (fun y => { x with Write := y }) := by
  obtain ⟨cs, ⟨rfl, r0, r1, rfl⟩, hat, ho⟩ := h
  refine ⟨[], ?_⟩
  have hl := Lens.field (x := x) (y := x.Write) (put := fun y => { x with Write := y }) (A := [.int .i64 x.Base, .int .i64 x.Size]) (csy := [.bool x.Write]) (B := []) (F1 := []) (Fy := []) (F2 := []) 2 rfl rfl (by simpa using hat) (by simp) (fun k hk => ho.lt (by simpa [List.append_assoc] using hk)) ⟨rfl, rfl⟩ ?_
  · simpa [List.append_assoc] using hl
  · intro w' csy' y' Fy' hk hy
    obtain ⟨rfl, rfl⟩ := hy
    exact ⟨rfl, r0, r1, by simp [List.append_assoc]⟩
theorem Om.lPartWindows {L : Nat} {w : World} {b o : Nat} {x : Part} {F : List Nat} (h : Om L w b o x F) : ∃ Fy, Lens w b o x F b (o + 0) x.Windows Fy (fun y => { x with Windows := y }) := by
  obtain ⟨cs, ⟨v0, rfl, h0, r1⟩, hat, ho⟩ := h
  refine ⟨F, ?_⟩
  have hl := Lens.field (x := x) (y := x.Windows) (put := fun y => { x with Windows := y }) (A := []) (csy := [v0]) (B := [.int .i64 x.Cells]) (F1 := []) (Fy := F) (F2 := []) 0 rfl rfl (by simpa using hat) (by simpa [List.append_assoc] using ho.1) (fun k hk => ho.lt (by simpa [List.append_assoc] using hk)) ⟨_, rfl, h0⟩ ?_
  · simpa [List.append_assoc] using hl
  · intro w' csy' y' Fy' hk hy
    obtain ⟨v, rfl, k⟩ := hy
    simp only [List.nil_append, List.append_nil]
    exact ⟨_, rfl, k, r1⟩
theorem Om.lPartCells {L : Nat} {w : World} {b o : Nat} {x : Part} {F : List Nat} (h : Om L w b o x F) : ∃ Fy, Lens w b o x F b (o + 1) x.Cells Fy (fun y => { x with Cells := y }) := by
  obtain ⟨cs, ⟨v0, rfl, h0, r1⟩, hat, ho⟩ := h
  refine ⟨[], ?_⟩
  have hl := Lens.field (x := x) (y := x.Cells) (put := fun y => { x with Cells := y }) (A := [v0]) (csy := [.int .i64 x.Cells]) (B := []) (F1 := F) (Fy := []) (F2 := []) 1 rfl rfl (by simpa using hat) (by simpa [List.append_assoc] using ho.1) (fun k hk => ho.lt (by simpa [List.append_assoc] using hk)) ⟨rfl, r1, rfl⟩ ?_
  · simpa [List.append_assoc] using hl
  · intro w' csy' y' Fy' hk hy
    obtain ⟨rfl, q, rfl⟩ := hy
    simp only [List.nil_append, List.append_nil]
    exact ⟨_, rfl, h0.keep (fun k h => hk k (by simp [h])), q⟩
theorem Om.lChannelKind {L : Nat} {w : World} {b o : Nat} {x : Channel} {F : List Nat} (h : Om L w b o x F) : ∃ Fy, Lens w b o x F b (o + 0) x.Kind Fy (fun y => { x with Kind := y }) := by
  obtain ⟨cs, ⟨rfl, r0, r1, r2, r3, rfl⟩, hat, ho⟩ := h
  refine ⟨[], ?_⟩
  have hl := Lens.field (x := x) (y := x.Kind) (put := fun y => { x with Kind := y }) (A := []) (csy := [.int .i64 x.Kind]) (B := [.int .i64 x.From, .int .i64 x.To, .int .i64 x.Size]) (F1 := []) (Fy := []) (F2 := []) 0 rfl rfl (by simpa using hat) (by simp) (fun k hk => ho.lt (by simpa [List.append_assoc] using hk)) ⟨rfl, r0, rfl⟩ ?_
  · simpa [List.append_assoc] using hl
  · intro w' csy' y' Fy' hk hy
    obtain ⟨rfl, q, rfl⟩ := hy
    exact ⟨rfl, q, r1, r2, r3, by simp [List.append_assoc]⟩
theorem Om.lChannelFrom {L : Nat} {w : World} {b o : Nat} {x : Channel} {F : List Nat} (h : Om L w b o x F) : ∃ Fy, Lens w b o x F b (o + 1) x.From Fy (fun y => { x with From := y }) := by
  obtain ⟨cs, ⟨rfl, r0, r1, r2, r3, rfl⟩, hat, ho⟩ := h
  refine ⟨[], ?_⟩
  have hl := Lens.field (x := x) (y := x.From) (put := fun y => { x with From := y }) (A := [.int .i64 x.Kind]) (csy := [.int .i64 x.From]) (B := [.int .i64 x.To, .int .i64 x.Size]) (F1 := []) (Fy := []) (F2 := []) 1 rfl rfl (by simpa using hat) (by simp) (fun k hk => ho.lt (by simpa [List.append_assoc] using hk)) ⟨rfl, r1, rfl⟩ ?_
  · simpa [List.append_assoc] using hl
  · intro w' csy' y' Fy' hk hy
    obtain ⟨rfl, q, rfl⟩ := hy
    exact ⟨rfl, r0, q, r2, r3, by simp [List.append_assoc]⟩
theorem Om.lChannelTo {L : Nat} {w : World} {b o : Nat} {x : Channel} {F : List Nat} (h : Om L w b o x F) : ∃ Fy, Lens w b o x F b (o + 2) x.To Fy (fun y => { x with To := y }) := by
  obtain ⟨cs, ⟨rfl, r0, r1, r2, r3, rfl⟩, hat, ho⟩ := h
  refine ⟨[], ?_⟩
  have hl := Lens.field (x := x) (y := x.To) (put := fun y => { x with To := y }) (A := [.int .i64 x.Kind, .int .i64 x.From]) (csy := [.int .i64 x.To]) (B := [.int .i64 x.Size]) (F1 := []) (Fy := []) (F2 := []) 2 rfl rfl (by simpa using hat) (by simp) (fun k hk => ho.lt (by simpa [List.append_assoc] using hk)) ⟨rfl, r2, rfl⟩ ?_
  · simpa [List.append_assoc] using hl
  · intro w' csy' y' Fy' hk hy
    obtain ⟨rfl, q, rfl⟩ := hy
    exact ⟨rfl, r0, r1, q, r3, by simp [List.append_assoc]⟩
theorem Om.lChannelSize {L : Nat} {w : World} {b o : Nat} {x : Channel} {F : List Nat} (h : Om L w b o x F) : ∃ Fy, Lens w b o x F b (o + 3) x.Size Fy (fun y => { x with Size := y }) := by
  obtain ⟨cs, ⟨rfl, r0, r1, r2, r3, rfl⟩, hat, ho⟩ := h
  refine ⟨[], ?_⟩
  have hl := Lens.field (x := x) (y := x.Size) (put := fun y => { x with Size := y }) (A := [.int .i64 x.Kind, .int .i64 x.From, .int .i64 x.To]) (csy := [.int .i64 x.Size]) (B := []) (F1 := []) (Fy := []) (F2 := []) 3 rfl rfl (by simpa using hat) (by simp) (fun k hk => ho.lt (by simpa [List.append_assoc] using hk)) ⟨rfl, r3, rfl⟩ ?_
  · simpa [List.append_assoc] using hl
  · intro w' csy' y' Fy' hk hy
    obtain ⟨rfl, q, rfl⟩ := hy
    exact ⟨rfl, r0, r1, r2, q, by simp [List.append_assoc]⟩
theorem Om.lSlotWho {L : Nat} {w : World} {b o : Nat} {x : Slot} {F : List Nat} (h : Om L w b o x F) : ∃ Fy, Lens w b o x F b (o + 0) x.Who Fy (fun y => { x with Who := y }) := by
  obtain ⟨cs, ⟨rfl, r0, r1, rfl⟩, hat, ho⟩ := h
  refine ⟨[], ?_⟩
  have hl := Lens.field (x := x) (y := x.Who) (put := fun y => { x with Who := y }) (A := []) (csy := [.int .i64 x.Who]) (B := [.int .i64 x.Ticks]) (F1 := []) (Fy := []) (F2 := []) 0 rfl rfl (by simpa using hat) (by simp) (fun k hk => ho.lt (by simpa [List.append_assoc] using hk)) ⟨rfl, r0, rfl⟩ ?_
  · simpa [List.append_assoc] using hl
  · intro w' csy' y' Fy' hk hy
    obtain ⟨rfl, q, rfl⟩ := hy
    exact ⟨rfl, q, r1, by simp [List.append_assoc]⟩
theorem Om.lSlotTicks {L : Nat} {w : World} {b o : Nat} {x : Slot} {F : List Nat} (h : Om L w b o x F) : ∃ Fy, Lens w b o x F b (o + 1) x.Ticks Fy (fun y => { x with Ticks := y }) := by
  obtain ⟨cs, ⟨rfl, r0, r1, rfl⟩, hat, ho⟩ := h
  refine ⟨[], ?_⟩
  have hl := Lens.field (x := x) (y := x.Ticks) (put := fun y => { x with Ticks := y }) (A := [.int .i64 x.Who]) (csy := [.int .i64 x.Ticks]) (B := []) (F1 := []) (Fy := []) (F2 := []) 1 rfl rfl (by simpa using hat) (by simp) (fun k hk => ho.lt (by simpa [List.append_assoc] using hk)) ⟨rfl, r1, rfl⟩ ?_
  · simpa [List.append_assoc] using hl
  · intro w' csy' y' Fy' hk hy
    obtain ⟨rfl, q, rfl⟩ := hy
    exact ⟨rfl, r0, q, by simp [List.append_assoc]⟩
theorem Om.lSetupParts {L : Nat} {w : World} {b o : Nat} {x : Setup} {F : List Nat} (h : Om L w b o x F) : ∃ Fy, Lens w b o x F b (o + 0) x.Parts Fy (fun y => { x with Parts := y }) := by
  obtain ⟨cs, ⟨v0, v1, v2, F0, F1, F2, rfl, h0, h1, h2, rfl⟩, hat, ho⟩ := h
  refine ⟨F0, ?_⟩
  have hl := Lens.field (x := x) (y := x.Parts) (put := fun y => { x with Parts := y }) (A := []) (csy := [v0]) (B := [v1, v2]) (F1 := []) (Fy := F0) (F2 := F1 ++ F2) 0 rfl rfl (by simpa using hat) (by simpa [List.append_assoc] using ho.1) (fun k hk => ho.lt (by simpa [List.append_assoc] using hk)) ⟨_, rfl, h0⟩ ?_
  · simpa [List.append_assoc] using hl
  · intro w' csy' y' Fy' hk hy
    obtain ⟨v, rfl, k⟩ := hy
    exact ⟨_, _, _, _, _, _, rfl, k, h1.keep (fun k h => hk k (by simp [h])), h2.keep (fun k h => hk k (by simp [h])), by simp [List.append_assoc]⟩
theorem Om.lSetupChannels {L : Nat} {w : World} {b o : Nat} {x : Setup} {F : List Nat} (h : Om L w b o x F) : ∃ Fy, Lens w b o x F b (o + 1) x.Channels Fy (fun y => { x with Channels := y }) := by
  obtain ⟨cs, ⟨v0, v1, v2, F0, F1, F2, rfl, h0, h1, h2, rfl⟩, hat, ho⟩ := h
  refine ⟨F1, ?_⟩
  have hl := Lens.field (x := x) (y := x.Channels) (put := fun y => { x with Channels := y }) (A := [v0]) (csy := [v1]) (B := [v2]) (F1 := F0) (Fy := F1) (F2 := F2) 1 rfl rfl (by simpa using hat) (by simpa [List.append_assoc] using ho.1) (fun k hk => ho.lt (by simpa [List.append_assoc] using hk)) ⟨_, rfl, h1⟩ ?_
  · simpa [List.append_assoc] using hl
  · intro w' csy' y' Fy' hk hy
    obtain ⟨v, rfl, k⟩ := hy
    exact ⟨_, _, _, _, _, _, rfl, h0.keep (fun k h => hk k (by simp [h])), k, h2.keep (fun k h => hk k (by simp [h])), by simp [List.append_assoc]⟩
theorem Om.lSetupSlots {L : Nat} {w : World} {b o : Nat} {x : Setup} {F : List Nat} (h : Om L w b o x F) : ∃ Fy, Lens w b o x F b (o + 2) x.Slots Fy (fun y => { x with Slots := y }) := by
  obtain ⟨cs, ⟨v0, v1, v2, F0, F1, F2, rfl, h0, h1, h2, rfl⟩, hat, ho⟩ := h
  refine ⟨F2, ?_⟩
  have hl := Lens.field (x := x) (y := x.Slots) (put := fun y => { x with Slots := y }) (A := [v0, v1]) (csy := [v2]) (B := []) (F1 := F0 ++ F1) (Fy := F2) (F2 := []) 2 rfl rfl (by simpa using hat) (by simpa [List.append_assoc] using ho.1) (fun k hk => ho.lt (by simpa [List.append_assoc] using hk)) ⟨_, rfl, h2⟩ ?_
  · simpa [List.append_assoc] using hl
  · intro w' csy' y' Fy' hk hy
    obtain ⟨v, rfl, k⟩ := hy
    exact ⟨_, _, _, _, _, _, rfl, h0.keep (fun k h => hk k (by simp [h])), h1.keep (fun k h => hk k (by simp [h])), k, by simp [List.append_assoc]⟩
theorem Om.lOrderOp {L : Nat} {w : World} {b o : Nat} {x : Order} {F : List Nat} (h : Om L w b o x F) : ∃ Fy, Lens w b o x F b (o + 0) x.Op Fy (fun y => { x with Op := y }) := by
  obtain ⟨cs, ⟨rfl, r0, r1, r2, rfl⟩, hat, ho⟩ := h
  refine ⟨[], ?_⟩
  have hl := Lens.field (x := x) (y := x.Op) (put := fun y => { x with Op := y }) (A := []) (csy := [.int .i64 x.Op]) (B := [.int .i64 x.A, .int .i64 x.B]) (F1 := []) (Fy := []) (F2 := []) 0 rfl rfl (by simpa using hat) (by simp) (fun k hk => ho.lt (by simpa [List.append_assoc] using hk)) ⟨rfl, r0, rfl⟩ ?_
  · simpa [List.append_assoc] using hl
  · intro w' csy' y' Fy' hk hy
    obtain ⟨rfl, q, rfl⟩ := hy
    exact ⟨rfl, q, r1, r2, by simp [List.append_assoc]⟩
theorem Om.lOrderA {L : Nat} {w : World} {b o : Nat} {x : Order} {F : List Nat} (h : Om L w b o x F) : ∃ Fy, Lens w b o x F b (o + 1) x.A Fy (fun y => { x with A := y }) := by
  obtain ⟨cs, ⟨rfl, r0, r1, r2, rfl⟩, hat, ho⟩ := h
  refine ⟨[], ?_⟩
  have hl := Lens.field (x := x) (y := x.A) (put := fun y => { x with A := y }) (A := [.int .i64 x.Op]) (csy := [.int .i64 x.A]) (B := [.int .i64 x.B]) (F1 := []) (Fy := []) (F2 := []) 1 rfl rfl (by simpa using hat) (by simp) (fun k hk => ho.lt (by simpa [List.append_assoc] using hk)) ⟨rfl, r1, rfl⟩ ?_
  · simpa [List.append_assoc] using hl
  · intro w' csy' y' Fy' hk hy
    obtain ⟨rfl, q, rfl⟩ := hy
    exact ⟨rfl, r0, q, r2, by simp [List.append_assoc]⟩
theorem Om.lOrderB {L : Nat} {w : World} {b o : Nat} {x : Order} {F : List Nat} (h : Om L w b o x F) : ∃ Fy, Lens w b o x F b (o + 2) x.B Fy (fun y => { x with B := y }) := by
  obtain ⟨cs, ⟨rfl, r0, r1, r2, rfl⟩, hat, ho⟩ := h
  refine ⟨[], ?_⟩
  have hl := Lens.field (x := x) (y := x.B) (put := fun y => { x with B := y }) (A := [.int .i64 x.Op, .int .i64 x.A]) (csy := [.int .i64 x.B]) (B := []) (F1 := []) (Fy := []) (F2 := []) 2 rfl rfl (by simpa using hat) (by simp) (fun k hk => ho.lt (by simpa [List.append_assoc] using hk)) ⟨rfl, r2, rfl⟩ ?_
  · simpa [List.append_assoc] using hl
  · intro w' csy' y' Fy' hk hy
    obtain ⟨rfl, q, rfl⟩ := hy
    exact ⟨rfl, r0, r1, q, by simp [List.append_assoc]⟩
theorem Om.lCoreCells {L : Nat} {w : World} {b o : Nat} {x : Core} {F : List Nat} (h : Om L w b o x F) : ∃ Fy, Lens w b o x F b (o + 0) x.Cells Fy (fun y => { x with Cells := y }) := by
  obtain ⟨cs, ⟨v0, rfl, h0, r1⟩, hat, ho⟩ := h
  refine ⟨F, ?_⟩
  have hl := Lens.field (x := x) (y := x.Cells) (put := fun y => { x with Cells := y }) (A := []) (csy := [v0]) (B := [.int .i64 x.At, .bool x.Stopped]) (F1 := []) (Fy := F) (F2 := []) 0 rfl rfl (by simpa using hat) (by simpa [List.append_assoc] using ho.1) (fun k hk => ho.lt (by simpa [List.append_assoc] using hk)) ⟨_, rfl, h0⟩ ?_
  · simpa [List.append_assoc] using hl
  · intro w' csy' y' Fy' hk hy
    obtain ⟨v, rfl, k⟩ := hy
    simp only [List.nil_append, List.append_nil]
    exact ⟨_, rfl, k, r1⟩
theorem Om.lCoreAt {L : Nat} {w : World} {b o : Nat} {x : Core} {F : List Nat} (h : Om L w b o x F) : ∃ Fy, Lens w b o x F b (o + 1) x.At Fy (fun y => { x with At := y }) := by
  obtain ⟨cs, ⟨v0, rfl, h0, r1⟩, hat, ho⟩ := h
  refine ⟨[], ?_⟩
  have hl := Lens.field (x := x) (y := x.At) (put := fun y => { x with At := y }) (A := [v0]) (csy := [.int .i64 x.At]) (B := [.bool x.Stopped]) (F1 := F) (Fy := []) (F2 := []) 1 rfl rfl (by simpa using hat) (by simpa [List.append_assoc] using ho.1) (fun k hk => ho.lt (by simpa [List.append_assoc] using hk)) ⟨rfl, r1, rfl⟩ ?_
  · simpa [List.append_assoc] using hl
  · intro w' csy' y' Fy' hk hy
    obtain ⟨rfl, q, rfl⟩ := hy
    simp only [List.nil_append, List.append_nil]
    exact ⟨_, rfl, h0.keep (fun k h => hk k (by simp [h])), q⟩
theorem Om.lCoreStopped {L : Nat} {w : World} {b o : Nat} {x : Core} {F : List Nat} (h : Om L w b o x F) : ∃ Fy, Lens w b o x F b (o + 2) x.Stopped Fy (fun y => { x with Stopped := y }) := by
  obtain ⟨cs, ⟨v0, rfl, h0, r1⟩, hat, ho⟩ := h
  refine ⟨[], ?_⟩
  have hl := Lens.field (x := x) (y := x.Stopped) (put := fun y => { x with Stopped := y }) (A := [v0, .int .i64 x.At]) (csy := [.bool x.Stopped]) (B := []) (F1 := F) (Fy := []) (F2 := []) 2 rfl rfl (by simpa using hat) (by simpa [List.append_assoc] using ho.1) (fun k hk => ho.lt (by simpa [List.append_assoc] using hk)) ⟨rfl, rfl⟩ ?_
  · simpa [List.append_assoc] using hl
  · intro w' csy' y' Fy' hk hy
    obtain ⟨rfl, rfl⟩ := hy
    simp only [List.nil_append, List.append_nil]
    exact ⟨_, rfl, h0.keep (fun k h => hk k (by simp [h])), r1⟩
theorem Om.lHoldLst {L : Nat} {w : World} {b o : Nat} {x : Hold} {F : List Nat} (h : Om L w b o x F) : ∃ Fy, Lens w b o x F b (o + 0) x.Lst Fy (fun y => { x with Lst := y }) := by
  obtain ⟨cs, ⟨v0, rfl, h0⟩, hat, ho⟩ := h
  refine ⟨F, ?_⟩
  have hl := Lens.field (x := x) (y := x.Lst) (put := fun y => { x with Lst := y }) (A := []) (csy := [v0]) (B := []) (F1 := []) (Fy := F) (F2 := []) 0 rfl rfl (by simpa using hat) (by simpa [List.append_assoc] using ho.1) (fun k hk => ho.lt (by simpa [List.append_assoc] using hk)) ⟨_, rfl, h0⟩ ?_
  · simpa [List.append_assoc] using hl
  · intro w' csy' y' Fy' hk hy
    obtain ⟨v, rfl, k⟩ := hy
    simp only [List.nil_append, List.append_nil]
    exact ⟨_, rfl, k⟩
theorem Om.lMachinePlan {L : Nat} {w : World} {b o : Nat} {x : Machine} {F : List Nat} (h : Om L w b o x F) : ∃ Fy, Lens w b o x F b (o + 0) x.Plan Fy (fun y => { x with Plan := y }) := by
  obtain ⟨cs, ⟨v0, v1, v2, v3, v4, v5, F0, F1, F2, F3, F4, F5, rfl, h0, h1, h2, h3, h4, h5, r6, rfl⟩, hat, ho⟩ := h
  refine ⟨F0 ++ (F1 ++ F2), ?_⟩
  have hl := Lens.field (x := x) (y := x.Plan) (put := fun y => { x with Plan := y }) (A := []) (csy := [v0, v1, v2]) (B := [v3, v4, v5, .int .i64 x.Tick]) (F1 := []) (Fy := F0 ++ (F1 ++ F2)) (F2 := F3 ++ (F4 ++ F5)) 0 rfl rfl (by simpa using hat) (by simpa [List.append_assoc] using ho.1) (fun k hk => ho.lt (by simpa [List.append_assoc] using hk)) ⟨_, _, _, _, _, _, rfl, h0, h1, h2, rfl⟩ ?_
  · simpa [List.append_assoc] using hl
  · intro w' csy' y' Fy' hk hy
    obtain ⟨w0, w1, w2, G0, G1, G2, rfl, k0, k1, k2, rfl⟩ := hy
    exact ⟨_, _, _, _, _, _, _, _, _, _, _, _, rfl, k0, k1, k2, h3.keep (fun k h => hk k (by simp [h])), h4.keep (fun k h => hk k (by simp [h])), h5.keep (fun k h => hk k (by simp [h])), r6, by simp [List.append_assoc]⟩
theorem Om.lMachinePrograms {L : Nat} {w : World} {b o : Nat} {x : Machine} {F : List Nat} (h : Om L w b o x F) : ∃ Fy, Lens w b o x F b (o + 3) x.Programs Fy (fun y => { x with Programs := y }) := by
  obtain ⟨cs, ⟨v0, v1, v2, v3, v4, v5, F0, F1, F2, F3, F4, F5, rfl, h0, h1, h2, h3, h4, h5, r6, rfl⟩, hat, ho⟩ := h
  refine ⟨F3, ?_⟩
  have hl := Lens.field (x := x) (y := x.Programs) (put := fun y => { x with Programs := y }) (A := [v0, v1, v2]) (csy := [v3]) (B := [v4, v5, .int .i64 x.Tick]) (F1 := F0 ++ (F1 ++ F2)) (Fy := F3) (F2 := F4 ++ F5) 3 rfl rfl (by simpa using hat) (by simpa [List.append_assoc] using ho.1) (fun k hk => ho.lt (by simpa [List.append_assoc] using hk)) ⟨_, rfl, h3⟩ ?_
  · simpa [List.append_assoc] using hl
  · intro w' csy' y' Fy' hk hy
    obtain ⟨v, rfl, k⟩ := hy
    exact ⟨_, _, _, _, _, _, _, _, _, _, _, _, rfl, h0.keep (fun k h => hk k (by simp [h])), h1.keep (fun k h => hk k (by simp [h])), h2.keep (fun k h => hk k (by simp [h])), k, h4.keep (fun k h => hk k (by simp [h])), h5.keep (fun k h => hk k (by simp [h])), r6, by simp [List.append_assoc]⟩
theorem Om.lMachineCores {L : Nat} {w : World} {b o : Nat} {x : Machine} {F : List Nat} (h : Om L w b o x F) : ∃ Fy, Lens w b o x F b (o + 4) x.Cores Fy (fun y => { x with Cores := y }) := by
  obtain ⟨cs, ⟨v0, v1, v2, v3, v4, v5, F0, F1, F2, F3, F4, F5, rfl, h0, h1, h2, h3, h4, h5, r6, rfl⟩, hat, ho⟩ := h
  refine ⟨F4, ?_⟩
  have hl := Lens.field (x := x) (y := x.Cores) (put := fun y => { x with Cores := y }) (A := [v0, v1, v2, v3]) (csy := [v4]) (B := [v5, .int .i64 x.Tick]) (F1 := F0 ++ (F1 ++ (F2 ++ F3))) (Fy := F4) (F2 := F5) 4 rfl rfl (by simpa using hat) (by simpa [List.append_assoc] using ho.1) (fun k hk => ho.lt (by simpa [List.append_assoc] using hk)) ⟨_, rfl, h4⟩ ?_
  · simpa [List.append_assoc] using hl
  · intro w' csy' y' Fy' hk hy
    obtain ⟨v, rfl, k⟩ := hy
    exact ⟨_, _, _, _, _, _, _, _, _, _, _, _, rfl, h0.keep (fun k h => hk k (by simp [h])), h1.keep (fun k h => hk k (by simp [h])), h2.keep (fun k h => hk k (by simp [h])), h3.keep (fun k h => hk k (by simp [h])), k, h5.keep (fun k h => hk k (by simp [h])), r6, by simp [List.append_assoc]⟩
theorem Om.lMachineHolds {L : Nat} {w : World} {b o : Nat} {x : Machine} {F : List Nat} (h : Om L w b o x F) : ∃ Fy, Lens w b o x F b (o + 5) x.Holds Fy (fun y => { x with Holds := y }) := by
  obtain ⟨cs, ⟨v0, v1, v2, v3, v4, v5, F0, F1, F2, F3, F4, F5, rfl, h0, h1, h2, h3, h4, h5, r6, rfl⟩, hat, ho⟩ := h
  refine ⟨F5, ?_⟩
  have hl := Lens.field (x := x) (y := x.Holds) (put := fun y => { x with Holds := y }) (A := [v0, v1, v2, v3, v4]) (csy := [v5]) (B := [.int .i64 x.Tick]) (F1 := F0 ++ (F1 ++ (F2 ++ (F3 ++ F4)))) (Fy := F5) (F2 := []) 5 rfl rfl (by simpa using hat) (by simpa [List.append_assoc] using ho.1) (fun k hk => ho.lt (by simpa [List.append_assoc] using hk)) ⟨_, rfl, h5⟩ ?_
  · simpa [List.append_assoc] using hl
  · intro w' csy' y' Fy' hk hy
    obtain ⟨v, rfl, k⟩ := hy
    exact ⟨_, _, _, _, _, _, _, _, _, _, _, _, rfl, h0.keep (fun k h => hk k (by simp [h])), h1.keep (fun k h => hk k (by simp [h])), h2.keep (fun k h => hk k (by simp [h])), h3.keep (fun k h => hk k (by simp [h])), h4.keep (fun k h => hk k (by simp [h])), k, r6, by simp [List.append_assoc]⟩
theorem Om.lMachineTick {L : Nat} {w : World} {b o : Nat} {x : Machine} {F : List Nat} (h : Om L w b o x F) : ∃ Fy, Lens w b o x F b (o + 6) x.Tick Fy (fun y => { x with Tick := y }) := by
  obtain ⟨cs, ⟨v0, v1, v2, v3, v4, v5, F0, F1, F2, F3, F4, F5, rfl, h0, h1, h2, h3, h4, h5, r6, rfl⟩, hat, ho⟩ := h
  refine ⟨[], ?_⟩
  have hl := Lens.field (x := x) (y := x.Tick) (put := fun y => { x with Tick := y }) (A := [v0, v1, v2, v3, v4, v5]) (csy := [.int .i64 x.Tick]) (B := []) (F1 := F0 ++ (F1 ++ (F2 ++ (F3 ++ (F4 ++ F5))))) (Fy := []) (F2 := []) 6 rfl rfl (by simpa using hat) (by simpa [List.append_assoc] using ho.1) (fun k hk => ho.lt (by simpa [List.append_assoc] using hk)) ⟨rfl, r6, rfl⟩ ?_
  · simpa [List.append_assoc] using hl
  · intro w' csy' y' Fy' hk hy
    obtain ⟨rfl, q, rfl⟩ := hy
    exact ⟨_, _, _, _, _, _, _, _, _, _, _, _, rfl, h0.keep (fun k h => hk k (by simp [h])), h1.keep (fun k h => hk k (by simp [h])), h2.keep (fun k h => hk k (by simp [h])), h3.keep (fun k h => hk k (by simp [h])), h4.keep (fun k h => hk k (by simp [h])), h5.keep (fun k h => hk k (by simp [h])), q, by simp [List.append_assoc]⟩
theorem Om.lHealthFrozen {L : Nat} {w : World} {b o : Nat} {x : Health} {F : List Nat} (h : Om L w b o x F) : ∃ Fy, Lens w b o x F b (o + 0) x.Frozen Fy (fun y => { x with Frozen := y }) := by
  obtain ⟨cs, ⟨rfl, r1, rfl⟩, hat, ho⟩ := h
  refine ⟨[], ?_⟩
  have hl := Lens.field (x := x) (y := x.Frozen) (put := fun y => { x with Frozen := y }) (A := []) (csy := [.bool x.Frozen]) (B := [.int .i64 x.Restarts]) (F1 := []) (Fy := []) (F2 := []) 0 rfl rfl (by simpa using hat) (by simp) (fun k hk => ho.lt (by simpa [List.append_assoc] using hk)) ⟨rfl, rfl⟩ ?_
  · simpa [List.append_assoc] using hl
  · intro w' csy' y' Fy' hk hy
    obtain ⟨rfl, rfl⟩ := hy
    exact ⟨rfl, r1, by simp [List.append_assoc]⟩
theorem Om.lHealthRestarts {L : Nat} {w : World} {b o : Nat} {x : Health} {F : List Nat} (h : Om L w b o x F) : ∃ Fy, Lens w b o x F b (o + 1) x.Restarts Fy (fun y => { x with Restarts := y }) := by
  obtain ⟨cs, ⟨rfl, r1, rfl⟩, hat, ho⟩ := h
  refine ⟨[], ?_⟩
  have hl := Lens.field (x := x) (y := x.Restarts) (put := fun y => { x with Restarts := y }) (A := [.bool x.Frozen]) (csy := [.int .i64 x.Restarts]) (B := []) (F1 := []) (Fy := []) (F2 := []) 1 rfl rfl (by simpa using hat) (by simp) (fun k hk => ho.lt (by simpa [List.append_assoc] using hk)) ⟨rfl, r1, rfl⟩ ?_
  · simpa [List.append_assoc] using hl
  · intro w' csy' y' Fy' hk hy
    obtain ⟨rfl, q, rfl⟩ := hy
    exact ⟨rfl, q, by simp [List.append_assoc]⟩
theorem Om.lWatchBox {L : Nat} {w : World} {b o : Nat} {x : Watch} {F : List Nat} (h : Om L w b o x F) : ∃ Fy, Lens w b o x F b (o + 0) x.Box Fy (fun y => { x with Box := y }) := by
  obtain ⟨cs, ⟨v0, v1, v2, v3, v4, v5, v7, F0, F1, F2, F3, F4, F5, F7, rfl, h0, h1, h2, h3, h4, h5, h7, r6, rfl⟩, hat, ho⟩ := h
  refine ⟨F0 ++ (F1 ++ (F2 ++ (F3 ++ (F4 ++ F5)))), ?_⟩
  have hl := Lens.field (x := x) (y := x.Box) (put := fun y => { x with Box := y }) (A := []) (csy := [v0, v1, v2, v3, v4, v5, .int .i64 x.Box.Tick]) (B := [v7]) (F1 := []) (Fy := F0 ++ (F1 ++ (F2 ++ (F3 ++ (F4 ++ F5))))) (F2 := F7) 0 rfl rfl (by simpa using hat) (by simpa [List.append_assoc] using ho.1) (fun k hk => ho.lt (by simpa [List.append_assoc] using hk)) ⟨_, _, _, _, _, _, _, _, _, _, _, _, rfl, h0, h1, h2, h3, h4, h5, r6, rfl⟩ ?_
  · simpa [List.append_assoc] using hl
  · intro w' csy' y' Fy' hk hy
    obtain ⟨w0, w1, w2, w3, w4, w5, G0, G1, G2, G3, G4, G5, rfl, k0, k1, k2, k3, k4, k5, q6, rfl⟩ := hy
    exact ⟨_, _, _, _, _, _, _, _, _, _, _, _, _, _, rfl, k0, k1, k2, k3, k4, k5, h7.keep (fun k h => hk k (by simp [h])), q6, by simp [List.append_assoc]⟩
theorem Om.lWatchStates {L : Nat} {w : World} {b o : Nat} {x : Watch} {F : List Nat} (h : Om L w b o x F) : ∃ Fy, Lens w b o x F b (o + 7) x.States Fy (fun y => { x with States := y }) := by
  obtain ⟨cs, ⟨v0, v1, v2, v3, v4, v5, v7, F0, F1, F2, F3, F4, F5, F7, rfl, h0, h1, h2, h3, h4, h5, h7, r6, rfl⟩, hat, ho⟩ := h
  refine ⟨F7, ?_⟩
  have hl := Lens.field (x := x) (y := x.States) (put := fun y => { x with States := y }) (A := [v0, v1, v2, v3, v4, v5, .int .i64 x.Box.Tick]) (csy := [v7]) (B := []) (F1 := F0 ++ (F1 ++ (F2 ++ (F3 ++ (F4 ++ F5))))) (Fy := F7) (F2 := []) 7 rfl rfl (by simpa using hat) (by simpa [List.append_assoc] using ho.1) (fun k hk => ho.lt (by simpa [List.append_assoc] using hk)) ⟨_, rfl, h7⟩ ?_
  · simpa [List.append_assoc] using hl
  · intro w' csy' y' Fy' hk hy
    obtain ⟨v, rfl, k⟩ := hy
    exact ⟨_, _, _, _, _, _, _, _, _, _, _, _, _, _, rfl, h0.keep (fun k h => hk k (by simp [h])), h1.keep (fun k h => hk k (by simp [h])), h2.keep (fun k h => hk k (by simp [h])), h3.keep (fun k h => hk k (by simp [h])), h4.keep (fun k h => hk k (by simp [h])), h5.keep (fun k h => hk k (by simp [h])), k, r6, by simp [List.append_assoc]⟩
theorem Om.lWireFrom {L : Nat} {w : World} {b o : Nat} {x : Wire} {F : List Nat} (h : Om L w b o x F) : ∃ Fy, Lens w b o x F b (o + 0) x.From Fy (fun y => { x with From := y }) := by
  obtain ⟨cs, ⟨rfl, r0, r1, r2, r3, r4, r5, rfl⟩, hat, ho⟩ := h
  refine ⟨[], ?_⟩
  have hl := Lens.field (x := x) (y := x.From) (put := fun y => { x with From := y }) (A := []) (csy := [.int .i64 x.From]) (B := [.int .i64 x.FromPart, .int .i64 x.FromCell, .int .i64 x.To, .int .i64 x.ToPart, .int .i64 x.ToCell]) (F1 := []) (Fy := []) (F2 := []) 0 rfl rfl (by simpa using hat) (by simp) (fun k hk => ho.lt (by simpa [List.append_assoc] using hk)) ⟨rfl, r0, rfl⟩ ?_
  · simpa [List.append_assoc] using hl
  · intro w' csy' y' Fy' hk hy
    obtain ⟨rfl, q, rfl⟩ := hy
    exact ⟨rfl, q, r1, r2, r3, r4, r5, by simp [List.append_assoc]⟩
theorem Om.lWireFromPart {L : Nat} {w : World} {b o : Nat} {x : Wire} {F : List Nat} (h : Om L w b o x F) : ∃ Fy, Lens w b o x F b (o + 1) x.FromPart Fy (fun y => { x with FromPart := y }) := by
  obtain ⟨cs, ⟨rfl, r0, r1, r2, r3, r4, r5, rfl⟩, hat, ho⟩ := h
  refine ⟨[], ?_⟩
  have hl := Lens.field (x := x) (y := x.FromPart) (put := fun y => { x with FromPart := y }) (A := [.int .i64 x.From]) (csy := [.int .i64 x.FromPart]) (B := [.int .i64 x.FromCell, .int .i64 x.To, .int .i64 x.ToPart, .int .i64 x.ToCell]) (F1 := []) (Fy := []) (F2 := []) 1 rfl rfl (by simpa using hat) (by simp) (fun k hk => ho.lt (by simpa [List.append_assoc] using hk)) ⟨rfl, r1, rfl⟩ ?_
  · simpa [List.append_assoc] using hl
  · intro w' csy' y' Fy' hk hy
    obtain ⟨rfl, q, rfl⟩ := hy
    exact ⟨rfl, r0, q, r2, r3, r4, r5, by simp [List.append_assoc]⟩
theorem Om.lWireFromCell {L : Nat} {w : World} {b o : Nat} {x : Wire} {F : List Nat} (h : Om L w b o x F) : ∃ Fy, Lens w b o x F b (o + 2) x.FromCell Fy (fun y => { x with FromCell := y }) := by
  obtain ⟨cs, ⟨rfl, r0, r1, r2, r3, r4, r5, rfl⟩, hat, ho⟩ := h
  refine ⟨[], ?_⟩
  have hl := Lens.field (x := x) (y := x.FromCell) (put := fun y => { x with FromCell := y }) (A := [.int .i64 x.From, .int .i64 x.FromPart]) (csy := [.int .i64 x.FromCell]) (B := [.int .i64 x.To, .int .i64 x.ToPart, .int .i64 x.ToCell]) (F1 := []) (Fy := []) (F2 := []) 2 rfl rfl (by simpa using hat) (by simp) (fun k hk => ho.lt (by simpa [List.append_assoc] using hk)) ⟨rfl, r2, rfl⟩ ?_
  · simpa [List.append_assoc] using hl
  · intro w' csy' y' Fy' hk hy
    obtain ⟨rfl, q, rfl⟩ := hy
    exact ⟨rfl, r0, r1, q, r3, r4, r5, by simp [List.append_assoc]⟩
theorem Om.lWireTo {L : Nat} {w : World} {b o : Nat} {x : Wire} {F : List Nat} (h : Om L w b o x F) : ∃ Fy, Lens w b o x F b (o + 3) x.To Fy (fun y => { x with To := y }) := by
  obtain ⟨cs, ⟨rfl, r0, r1, r2, r3, r4, r5, rfl⟩, hat, ho⟩ := h
  refine ⟨[], ?_⟩
  have hl := Lens.field (x := x) (y := x.To) (put := fun y => { x with To := y }) (A := [.int .i64 x.From, .int .i64 x.FromPart, .int .i64 x.FromCell]) (csy := [.int .i64 x.To]) (B := [.int .i64 x.ToPart, .int .i64 x.ToCell]) (F1 := []) (Fy := []) (F2 := []) 3 rfl rfl (by simpa using hat) (by simp) (fun k hk => ho.lt (by simpa [List.append_assoc] using hk)) ⟨rfl, r3, rfl⟩ ?_
  · simpa [List.append_assoc] using hl
  · intro w' csy' y' Fy' hk hy
    obtain ⟨rfl, q, rfl⟩ := hy
    exact ⟨rfl, r0, r1, r2, q, r4, r5, by simp [List.append_assoc]⟩
theorem Om.lWireToPart {L : Nat} {w : World} {b o : Nat} {x : Wire} {F : List Nat} (h : Om L w b o x F) : ∃ Fy, Lens w b o x F b (o + 4) x.ToPart Fy (fun y => { x with ToPart := y }) := by
  obtain ⟨cs, ⟨rfl, r0, r1, r2, r3, r4, r5, rfl⟩, hat, ho⟩ := h
  refine ⟨[], ?_⟩
  have hl := Lens.field (x := x) (y := x.ToPart) (put := fun y => { x with ToPart := y }) (A := [.int .i64 x.From, .int .i64 x.FromPart, .int .i64 x.FromCell, .int .i64 x.To]) (csy := [.int .i64 x.ToPart]) (B := [.int .i64 x.ToCell]) (F1 := []) (Fy := []) (F2 := []) 4 rfl rfl (by simpa using hat) (by simp) (fun k hk => ho.lt (by simpa [List.append_assoc] using hk)) ⟨rfl, r4, rfl⟩ ?_
  · simpa [List.append_assoc] using hl
  · intro w' csy' y' Fy' hk hy
    obtain ⟨rfl, q, rfl⟩ := hy
    exact ⟨rfl, r0, r1, r2, r3, q, r5, by simp [List.append_assoc]⟩
theorem Om.lWireToCell {L : Nat} {w : World} {b o : Nat} {x : Wire} {F : List Nat} (h : Om L w b o x F) : ∃ Fy, Lens w b o x F b (o + 5) x.ToCell Fy (fun y => { x with ToCell := y }) := by
  obtain ⟨cs, ⟨rfl, r0, r1, r2, r3, r4, r5, rfl⟩, hat, ho⟩ := h
  refine ⟨[], ?_⟩
  have hl := Lens.field (x := x) (y := x.ToCell) (put := fun y => { x with ToCell := y }) (A := [.int .i64 x.From, .int .i64 x.FromPart, .int .i64 x.FromCell, .int .i64 x.To, .int .i64 x.ToPart]) (csy := [.int .i64 x.ToCell]) (B := []) (F1 := []) (Fy := []) (F2 := []) 5 rfl rfl (by simpa using hat) (by simp) (fun k hk => ho.lt (by simpa [List.append_assoc] using hk)) ⟨rfl, r5, rfl⟩ ?_
  · simpa [List.append_assoc] using hl
  · intro w' csy' y' Fy' hk hy
    obtain ⟨rfl, q, rfl⟩ := hy
    exact ⟨rfl, r0, r1, r2, r3, r4, q, by simp [List.append_assoc]⟩
theorem Om.lBoardBoxes {L : Nat} {w : World} {b o : Nat} {x : Board} {F : List Nat} (h : Om L w b o x F) : ∃ Fy, Lens w b o x F b (o + 0) x.Boxes Fy (fun y => { x with Boxes := y }) := by
  obtain ⟨cs, ⟨v0, v1, F0, F1, rfl, h0, h1, rfl⟩, hat, ho⟩ := h
  refine ⟨F0, ?_⟩
  have hl := Lens.field (x := x) (y := x.Boxes) (put := fun y => { x with Boxes := y }) (A := []) (csy := [v0]) (B := [v1]) (F1 := []) (Fy := F0) (F2 := F1) 0 rfl rfl (by simpa using hat) (by simpa [List.append_assoc] using ho.1) (fun k hk => ho.lt (by simpa [List.append_assoc] using hk)) ⟨_, rfl, h0⟩ ?_
  · simpa [List.append_assoc] using hl
  · intro w' csy' y' Fy' hk hy
    obtain ⟨v, rfl, k⟩ := hy
    exact ⟨_, _, _, _, rfl, k, h1.keep (fun k h => hk k (by simp [h])), by simp [List.append_assoc]⟩
theorem Om.lBoardWires {L : Nat} {w : World} {b o : Nat} {x : Board} {F : List Nat} (h : Om L w b o x F) : ∃ Fy, Lens w b o x F b (o + 1) x.Wires Fy (fun y => { x with Wires := y }) := by
  obtain ⟨cs, ⟨v0, v1, F0, F1, rfl, h0, h1, rfl⟩, hat, ho⟩ := h
  refine ⟨F1, ?_⟩
  have hl := Lens.field (x := x) (y := x.Wires) (put := fun y => { x with Wires := y }) (A := [v0]) (csy := [v1]) (B := []) (F1 := F0) (Fy := F1) (F2 := []) 1 rfl rfl (by simpa using hat) (by simpa [List.append_assoc] using ho.1) (fun k hk => ho.lt (by simpa [List.append_assoc] using hk)) ⟨_, rfl, h1⟩ ?_
  · simpa [List.append_assoc] using hl
  · intro w' csy' y' Fy' hk hy
    obtain ⟨v, rfl, k⟩ := hy
    exact ⟨_, _, _, _, rfl, h0.keep (fun k h => hk k (by simp [h])), k, by simp [List.append_assoc]⟩
end Sk

