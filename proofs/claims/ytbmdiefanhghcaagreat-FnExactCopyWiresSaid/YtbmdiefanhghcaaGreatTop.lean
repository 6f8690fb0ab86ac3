/- Contracts of functions of the given program, each under the condition that it states. -/
import Derived.Test.YtbmdiefanhghcaaGreatChecked
import Derived.Test.YtbmdiefanhghcaaGreatFoc
import Derived.Test.YtbmdiefanhghcaaGreatMark
import Derived.Test.YtbmdiefanhghcaaGreatHeld
namespace Sk
open Go Go.Proofs Go.RowKit
set_option maxHeartbeats 400000
set_option maxRecDepth 100000
set_option linter.unusedVariables false
set_option linter.unusedSimpArgs false
def Setup.mkT (x : Setup) (k : Int) : Setup := GT.mkE x k
def Setup.ctT (x : Setup) : Nat := GT.ct x
def Board.mkT (x : Board) (k : Int) : Board := GT.mkE x k
def Board.ctT (x : Board) : Nat := GT.ct x
theorem heldSetup (v : Value) (x : Setup) (k : Int) (w : World) (h : Rv w v x) (hmk : x.mkT k = x) (hk0 : 0 ≤ k) (hk1 : k + (x.ctT : Nat) ≤ 1000000000000) :
  Calls Tryz.prog 94 #[v, .int .i64 k] w fun e w' => e = .returned (.int .i64 (k + (x.ctT : Nat))) ∧ Ext w w' := by
 have hct : x.ctT = GT.ct x.Parts + GT.ct x.Channels + GT.ct x.Slots := rfl
 obtain ⟨a0, c0, a1, c1, a2, c2, rfl, h0, l0, h1, l1, h2, l2⟩ := h.openSetup
 clear h
 have q0 : Hid (GT.mkE x.Parts (k) = x.Parts) := zh (congrArg (fun z : Setup => z.Parts) hmk)
 have q1 : Hid (GT.mkE x.Channels (k + (GT.ct x.Parts : Nat)) = x.Channels) := zh (congrArg (fun z : Setup => z.Channels) hmk)
 have q2 : Hid (GT.mkE x.Slots (k + (GT.ct x.Parts : Nat) + (GT.ct x.Channels : Nat)) = x.Slots) := zh (congrArg (fun z : Setup => z.Slots) hmk)
 clear hmk
 have E0 := zh ((Ext.refl w).alloc (.cells #[.slice a0 x.Parts.length c0, .slice a1 x.Channels.length c1, .slice a2 x.Slots.length c2] 41))
 have X0 := zh (Ext.refl (w.alloc (.cells #[.slice a0 x.Parts.length c0, .slice a1 x.Channels.length c1, .slice a2 x.Slots.length c2] 41)))
 go_enter Tryz.func94, Tryz.ntmps94
 go_wp2_with fail
 refine (heldPartS _ _ _ _ (h0.out.ext E0.out) q0.out (by omega) (by omega)).mono ?_
 rintro e w0x ⟨rfl, rfl⟩
 go_wp2_with fail
 refine (heldChannelS _ _ _ _ (h1.out.ext E0.out) q1.out (by omega) (by omega)).mono ?_
 rintro e w1x ⟨rfl, rfl⟩
 go_wp2_with fail
 refine (heldSlotS _ _ _ _ (h2.out.ext E0.out) q2.out (by omega) (by omega)).mono ?_
 rintro e w2x ⟨rfl, rfl⟩
 go_wp2
 go_ret
 exact ⟨ret_i (by omega), E0.out⟩
theorem heldBoard (v : Value) (x : Board) (k : Int) (w : World) (h : Rv w v x) (hmk : x.mkT k = x) (hk0 : 0 ≤ k) (hk1 : k + (x.ctT : Nat) ≤ 1000000000000) :
  Calls Tryz.prog 26 #[v, .int .i64 k] w fun e w' => e = .returned (.int .i64 (k + (x.ctT : Nat))) ∧ Ext w w' := by
 have hct : x.ctT = GT.ct x.Boxes + GT.ct x.Wires := rfl
 obtain ⟨a0, c0, a1, c1, rfl, h0, l0, h1, l1⟩ := h.openBoard
 clear h
 have q0 : Hid (GT.mkE x.Boxes (k) = x.Boxes) := zh (congrArg (fun z : Board => z.Boxes) hmk)
 have q1 : Hid (GT.mkE x.Wires (k + (GT.ct x.Boxes : Nat)) = x.Wires) := zh (congrArg (fun z : Board => z.Wires) hmk)
 clear hmk
 have E0 := zh ((Ext.refl w).alloc (.cells #[.slice a0 x.Boxes.length c0, .slice a1 x.Wires.length c1] 68))
 have X0 := zh (Ext.refl (w.alloc (.cells #[.slice a0 x.Boxes.length c0, .slice a1 x.Wires.length c1] 68)))
 go_enter Tryz.func26, Tryz.ntmps26
 go_wp2_with fail
 refine (heldMachineS _ _ _ _ (h0.out.ext E0.out) q0.out (by omega) (by omega)).mono ?_
 rintro e w0x ⟨rfl, rfl⟩
 go_wp2_with fail
 refine (heldWireS _ _ _ _ (h1.out.ext E0.out) q1.out (by omega) (by omega)).mono ?_
 rintro e w1x ⟨rfl, rfl⟩
 go_wp2
 go_ret
 exact ⟨ret_i (by omega), E0.out⟩
theorem markSetup (cs : List Value) (x : Setup) (k : Int) (w : World) (F : List Nat) (h : GT.enc w cs x F) (hnd : F.Nodup) (hfz : ∀ b ∈ F, Fz w b) (hk0 : 0 ≤ k) (hk1 : k + (x.ctT : Nat) ≤ 1000000000000) :
  Calls Tryz.prog 90 #[.agg cs.toArray, .int .i64 k] w fun e w' => e = .returned (.int .i64 (k + (x.ctT : Nat))) ∧ GT.enc w' cs (x.mkT k) F ∧ Mx F w w' := by
 have hct : x.ctT = GT.ct x.Parts + GT.ct x.Channels + GT.ct x.Slots := rfl
 have hin : ∀ y ∈ F, y < w.heap.size := GT.inh h
 obtain ⟨v0, v1, v2, G0, G1, G2, rfl, h0, h1, h2, rfl⟩ := h
 obtain ⟨a0, c0, rfl, hl0⟩ := Rs.form ⟨_, h0⟩
 obtain ⟨a1, c1, rfl, hl1⟩ := Rs.form ⟨_, h1⟩
 obtain ⟨a2, c2, rfl, hl2⟩ := Rs.form ⟨_, h2⟩
 have D0_1 : ∀ y, y ∈ G0 → y ∈ G1 → False := fun y p0 p1 => (List.nodup_append.1 hnd).2.2 y p0 y (by (try simp only [List.mem_append] at p1); (try simp only [List.mem_append]); simp [p1]) rfl
 have D0_2 : ∀ y, y ∈ G0 → y ∈ G2 → False := fun y p0 p1 => (List.nodup_append.1 hnd).2.2 y p0 y (by (try simp only [List.mem_append] at p1); (try simp only [List.mem_append]); simp [p1]) rfl
 have N0 := zh (List.nodup_append.1 hnd).1
 have nd1 := (List.nodup_append.1 hnd).2.1
 have D1_2 : ∀ y, y ∈ G1 → y ∈ G2 → False := fun y p0 p1 => (List.nodup_append.1 nd1).2.2 y p0 y (by (try simp only [List.mem_append] at p1); (try simp only [List.mem_append]); simp [p1]) rfl
 have N1 := zh (List.nodup_append.1 nd1).1
 have nd2 := (List.nodup_append.1 nd1).2.1
 have N2 := zh nd2
 have Z0 : Hid (∀ y ∈ G0, Fz w y) := zh (fun y hy => hfz y (by (try simp only [List.mem_append] at hy); (try simp only [List.mem_append]); simp [hy]))
 have I0 : Hid (w.heap.size ∉ G0) := zh (fun hy => Nat.lt_irrefl _ (hin _ (by (try simp only [List.mem_append] at hy); (try simp only [List.mem_append]); simp [hy])))
 have S0 := zh h0
 have Z1 : Hid (∀ y ∈ G1, Fz w y) := zh (fun y hy => hfz y (by (try simp only [List.mem_append] at hy); (try simp only [List.mem_append]); simp [hy]))
 have I1 : Hid (w.heap.size ∉ G1) := zh (fun hy => Nat.lt_irrefl _ (hin _ (by (try simp only [List.mem_append] at hy); (try simp only [List.mem_append]); simp [hy])))
 have S1 := zh h1
 have Z2 : Hid (∀ y ∈ G2, Fz w y) := zh (fun y hy => hfz y (by (try simp only [List.mem_append] at hy); (try simp only [List.mem_append]); simp [hy]))
 have I2 : Hid (w.heap.size ∉ G2) := zh (fun hy => Nat.lt_irrefl _ (hin _ (by (try simp only [List.mem_append] at hy); (try simp only [List.mem_append]); simp [hy])))
 have S2 := zh h2
 have E0 : Ext w (w.alloc (.cells #[.slice a0 x.Parts.length c0, .slice a1 x.Channels.length c1, .slice a2 x.Slots.length c2] 41)) := (Ext.refl w).alloc _
 replace S0 := zh (S0.out.ext E0)
 replace Z0 := zh (fun y hy => (Z0.out y hy).ext E0 : ∀ y ∈ G0, Fz (w.alloc (.cells #[.slice a0 x.Parts.length c0, .slice a1 x.Channels.length c1, .slice a2 x.Slots.length c2] 41)) y)
 replace S1 := zh (S1.out.ext E0)
 replace Z1 := zh (fun y hy => (Z1.out y hy).ext E0 : ∀ y ∈ G1, Fz (w.alloc (.cells #[.slice a0 x.Parts.length c0, .slice a1 x.Channels.length c1, .slice a2 x.Slots.length c2] 41)) y)
 replace S2 := zh (S2.out.ext E0)
 replace Z2 := zh (fun y hy => (Z2.out y hy).ext E0 : ∀ y ∈ G2, Fz (w.alloc (.cells #[.slice a0 x.Parts.length c0, .slice a1 x.Channels.length c1, .slice a2 x.Slots.length c2] 41)) y)
 have KA : Hid (Bk (w.alloc (.cells #[.slice a0 x.Parts.length c0, .slice a1 x.Channels.length c1, .slice a2 x.Slots.length c2] 41)) w.heap.size [.slice a0 x.Parts.length c0, .slice a1 x.Channels.length c1, .slice a2 x.Slots.length c2] 41) := zh (Bk.new _ _ _)
 have M0 : Hid (Mx (G0 ++ (G1 ++ (G2))) w (w.alloc (.cells #[.slice a0 x.Parts.length c0, .slice a1 x.Channels.length c1, .slice a2 x.Slots.length c2] 41))) := zh (Mx.ofExt E0)
 clear hnd hfz hin E0 nd1 nd2 h0 h1 h2
 go_enter Tryz.func90, Tryz.ntmps90
 go_wp2_with fail
 refine (markPartS _ _ _ _ G0 S0.out N0.out Z0.out (by omega) (by omega)).mono ?_
 rintro e w1 ⟨rfl, hs, hm0⟩
 have hm : Mx G0 _ w1 := Mx.ofMo hm0
 replace S0 := zh hs
 replace Z0 := zh (fun y hy => hm.2.2.2 y (Z0.out y hy) : ∀ y ∈ G0, Fz w1 y)
 replace S1 := zh (hm.sl S1.out (fun y p0 p1 => D0_1 y p1 p0))
 replace Z1 := zh (fun y hy => hm.2.2.2 y (Z1.out y hy) : ∀ y ∈ G1, Fz w1 y)
 replace S2 := zh (hm.sl S2.out (fun y p0 p1 => D0_2 y p1 p0))
 replace Z2 := zh (fun y hy => hm.2.2.2 y (Z2.out y hy) : ∀ y ∈ G2, Fz w1 y)
 replace KA := zh (hm.bk KA.out I0.out)
 have M1 := zh (M0.out.tr (hm.wide (fun y hy => by (try simp only [List.mem_append] at hy); (try simp only [List.mem_append]); simp [hy])))
 obtain ⟨f0, f1, f2⟩ := Bk.k3 KA.out
 clear hs hm0 hm
 go_wp2_with fail
 refine (markChannelS _ _ _ _ G1 S1.out N1.out Z1.out (by omega) (by omega)).mono ?_
 rintro e w2 ⟨rfl, hs, hm0⟩
 have hm : Mx G1 _ w2 := Mx.ofMo hm0
 replace S1 := zh hs
 replace S0 := zh (hm.sl S0.out (D0_1))
 replace Z0 := zh (fun y hy => hm.2.2.2 y (Z0.out y hy) : ∀ y ∈ G0, Fz w2 y)
 replace Z1 := zh (fun y hy => hm.2.2.2 y (Z1.out y hy) : ∀ y ∈ G1, Fz w2 y)
 replace S2 := zh (hm.sl S2.out (fun y p0 p1 => D1_2 y p1 p0))
 replace Z2 := zh (fun y hy => hm.2.2.2 y (Z2.out y hy) : ∀ y ∈ G2, Fz w2 y)
 replace KA := zh (hm.bk KA.out I1.out)
 have M2 := zh (M1.out.tr (hm.wide (fun y hy => by (try simp only [List.mem_append] at hy); (try simp only [List.mem_append]); simp [hy])))
 clear f0 f1 f2
 obtain ⟨f0, f1, f2⟩ := Bk.k3 KA.out
 clear hs hm0 hm
 go_wp2_with fail
 refine (markSlotS _ _ _ _ G2 S2.out N2.out Z2.out (by omega) (by omega)).mono ?_
 rintro e w3 ⟨rfl, hs, hm0⟩
 have hm : Mx G2 _ w3 := Mx.ofMo hm0
 replace S2 := zh hs
 replace S0 := zh (hm.sl S0.out (D0_2))
 replace Z0 := zh (fun y hy => hm.2.2.2 y (Z0.out y hy) : ∀ y ∈ G0, Fz w3 y)
 replace S1 := zh (hm.sl S1.out (D1_2))
 replace Z1 := zh (fun y hy => hm.2.2.2 y (Z1.out y hy) : ∀ y ∈ G1, Fz w3 y)
 replace Z2 := zh (fun y hy => hm.2.2.2 y (Z2.out y hy) : ∀ y ∈ G2, Fz w3 y)
 replace KA := zh (hm.bk KA.out I2.out)
 have M3 := zh (M2.out.tr (hm.wide (fun y hy => by (try simp only [List.mem_append] at hy); (try simp only [List.mem_append]); simp [hy])))
 clear hs hm0 hm
 go_wp2
 go_ret
 refine ⟨ret_i (by omega), ?_, M3.out⟩
 exact ⟨_, _, _, _, _, _, rfl, S0.out, S1.out, S2.out, rfl⟩
theorem markBoard (cs : List Value) (x : Board) (k : Int) (w : World) (F : List Nat) (h : GT.enc w cs x F) (hnd : F.Nodup) (hfz : ∀ b ∈ F, Fz w b) (hk0 : 0 ≤ k) (hk1 : k + (x.ctT : Nat) ≤ 1000000000000) :
  Calls Tryz.prog 25 #[.agg cs.toArray, .int .i64 k] w fun e w' => e = .returned (.int .i64 (k + (x.ctT : Nat))) ∧ GT.enc w' cs (x.mkT k) F ∧ Mx F w w' := by
 have hct : x.ctT = GT.ct x.Boxes + GT.ct x.Wires := rfl
 have hin : ∀ y ∈ F, y < w.heap.size := GT.inh h
 obtain ⟨v0, v1, G0, G1, rfl, h0, h1, rfl⟩ := h
 obtain ⟨a0, c0, rfl, hl0⟩ := Rs.form ⟨_, h0⟩
 obtain ⟨a1, c1, rfl, hl1⟩ := Rs.form ⟨_, h1⟩
 have D0_1 : ∀ y, y ∈ G0 → y ∈ G1 → False := fun y p0 p1 => (List.nodup_append.1 hnd).2.2 y p0 y (by (try simp only [List.mem_append] at p1); (try simp only [List.mem_append]); simp [p1]) rfl
 have N0 := zh (List.nodup_append.1 hnd).1
 have nd1 := (List.nodup_append.1 hnd).2.1
 have N1 := zh nd1
 have Z0 : Hid (∀ y ∈ G0, Fz w y) := zh (fun y hy => hfz y (by (try simp only [List.mem_append] at hy); (try simp only [List.mem_append]); simp [hy]))
 have I0 : Hid (w.heap.size ∉ G0) := zh (fun hy => Nat.lt_irrefl _ (hin _ (by (try simp only [List.mem_append] at hy); (try simp only [List.mem_append]); simp [hy])))
 have S0 := zh h0
 have Z1 : Hid (∀ y ∈ G1, Fz w y) := zh (fun y hy => hfz y (by (try simp only [List.mem_append] at hy); (try simp only [List.mem_append]); simp [hy]))
 have I1 : Hid (w.heap.size ∉ G1) := zh (fun hy => Nat.lt_irrefl _ (hin _ (by (try simp only [List.mem_append] at hy); (try simp only [List.mem_append]); simp [hy])))
 have S1 := zh h1
 have E0 : Ext w (w.alloc (.cells #[.slice a0 x.Boxes.length c0, .slice a1 x.Wires.length c1] 68)) := (Ext.refl w).alloc _
 replace S0 := zh (S0.out.ext E0)
 replace Z0 := zh (fun y hy => (Z0.out y hy).ext E0 : ∀ y ∈ G0, Fz (w.alloc (.cells #[.slice a0 x.Boxes.length c0, .slice a1 x.Wires.length c1] 68)) y)
 replace S1 := zh (S1.out.ext E0)
 replace Z1 := zh (fun y hy => (Z1.out y hy).ext E0 : ∀ y ∈ G1, Fz (w.alloc (.cells #[.slice a0 x.Boxes.length c0, .slice a1 x.Wires.length c1] 68)) y)
 have KA : Hid (Bk (w.alloc (.cells #[.slice a0 x.Boxes.length c0, .slice a1 x.Wires.length c1] 68)) w.heap.size [.slice a0 x.Boxes.length c0, .slice a1 x.Wires.length c1] 68) := zh (Bk.new _ _ _)
 have M0 : Hid (Mx (G0 ++ (G1)) w (w.alloc (.cells #[.slice a0 x.Boxes.length c0, .slice a1 x.Wires.length c1] 68))) := zh (Mx.ofExt E0)
 clear hnd hfz hin E0 nd1 h0 h1
 go_enter Tryz.func25, Tryz.ntmps25
 go_wp2_with fail
 refine (markMachineS _ _ _ _ G0 S0.out N0.out Z0.out (by omega) (by omega)).mono ?_
 rintro e w1 ⟨rfl, hs, hm0⟩
 have hm : Mx G0 _ w1 := Mx.ofMo hm0
 replace S0 := zh hs
 replace Z0 := zh (fun y hy => hm.2.2.2 y (Z0.out y hy) : ∀ y ∈ G0, Fz w1 y)
 replace S1 := zh (hm.sl S1.out (fun y p0 p1 => D0_1 y p1 p0))
 replace Z1 := zh (fun y hy => hm.2.2.2 y (Z1.out y hy) : ∀ y ∈ G1, Fz w1 y)
 replace KA := zh (hm.bk KA.out I0.out)
 have M1 := zh (M0.out.tr (hm.wide (fun y hy => by (try simp only [List.mem_append] at hy); (try simp only [List.mem_append]); simp [hy])))
 obtain ⟨f0, f1⟩ := Bk.k2 KA.out
 clear hs hm0 hm
 go_wp2_with fail
 refine (markWireS _ _ _ _ G1 S1.out N1.out Z1.out (by omega) (by omega)).mono ?_
 rintro e w2 ⟨rfl, hs, hm0⟩
 have hm : Mx G1 _ w2 := Mx.ofMo hm0
 replace S1 := zh hs
 replace S0 := zh (hm.sl S0.out (D0_1))
 replace Z0 := zh (fun y hy => hm.2.2.2 y (Z0.out y hy) : ∀ y ∈ G0, Fz w2 y)
 replace Z1 := zh (fun y hy => hm.2.2.2 y (Z1.out y hy) : ∀ y ∈ G1, Fz w2 y)
 replace KA := zh (hm.bk KA.out I1.out)
 have M2 := zh (M1.out.tr (hm.wide (fun y hy => by (try simp only [List.mem_append] at hy); (try simp only [List.mem_append]); simp [hy])))
 clear hs hm0 hm
 go_wp2
 go_ret
 refine ⟨ret_i (by omega), ?_, M2.out⟩
 exact ⟨_, _, _, _, rfl, S0.out, S1.out, rfl⟩
end Sk
