/- Contracts of functions of the given program, each under the condition that it states. -/
import Derived.Test.YtbmdiefanhghcaaGreatChecked
import Derived.Test.YtbmdiefanhghcaaGreatFoc
import Derived.Test.YtbmdiefanhghcaaGreatMark
import Derived.Test.YtbmdiefanhghcaaGreatHeld
namespace Sk
open Go Go.Proofs Go.RowKit
set_option maxHeartbeats 400000
set_option maxRecDepth 100000
set_option linter.unusedVariables false
set_option linter.unusedSimpArgs false
def Machine.mkT (x : Machine) (k : Int) : Machine :=
 { Plan := GT.mkE x.Plan k, Programs := GT.mkE x.Programs (k + (GT.ct x.Plan : Nat)), Cores := GT.mkE x.Cores (k + (GT.ct x.Plan : Nat) + (GT.ct x.Programs : Nat)), Holds := GT.mkE x.Holds (k + (GT.ct x.Plan : Nat) + (GT.ct x.Programs : Nat) + (GT.ct x.Cores : Nat)), Tick := x.Tick }
def Machine.ctT (x : Machine) : Nat := GT.ct x.Plan + GT.ct x.Programs + GT.ct x.Cores + GT.ct x.Holds
def Watch.mkT (x : Watch) (k : Int) : Watch := { Box := x.Box.mkT k, States := GT.mkE x.States (k + (x.Box.ctT : Nat)) }
def Watch.ctT (x : Watch) : Nat := x.Box.ctT + GT.ct x.States
def Setup.mkT (x : Setup) (k : Int) : Setup := GT.mkE x k
def Setup.ctT (x : Setup) : Nat := GT.ct x
theorem heldSetup (v : Value) (x : Setup) (k : Int) (w : World) (h : Rv w v x) (hmk : x.mkT k = x) (hk0 : 0 ≤ k) (hk1 : k + (x.ctT : Nat) ≤ 1000000000000) :
  Calls Tryz.prog 94 #[v, .int .i64 k] w fun e w' => e = .returned (.int .i64 (k + (x.ctT : Nat))) ∧ Ext w w' := by
 have hct : x.ctT = GT.ct x.Parts + GT.ct x.Channels + GT.ct x.Slots := rfl
 obtain ⟨a0, c0, a1, c1, a2, c2, rfl, h0, l0, h1, l1, h2, l2⟩ := h.openSetup
 clear h
 have q0 : Hid (GT.mkE x.Parts (k) = x.Parts) := zh (congrArg (fun z : Setup => z.Parts) hmk)
 have q1 : Hid (GT.mkE x.Channels (k + (GT.ct x.Parts : Nat)) = x.Channels) := zh (congrArg (fun z : Setup => z.Channels) hmk)
 have q2 : Hid (GT.mkE x.Slots (k + (GT.ct x.Parts : Nat) + (GT.ct x.Channels : Nat)) = x.Slots) := zh (congrArg (fun z : Setup => z.Slots) hmk)
 clear hmk
 have E0 := zh ((Ext.refl w).alloc (.cells #[.slice a0 x.Parts.length c0, .slice a1 x.Channels.length c1, .slice a2 x.Slots.length c2] 41))
 have X0 := zh (Ext.refl (w.alloc (.cells #[.slice a0 x.Parts.length c0, .slice a1 x.Channels.length c1, .slice a2 x.Slots.length c2] 41)))
 go_enter Tryz.func94, Tryz.ntmps94
 go_wp2_with fail
 refine (heldPartS _ _ _ _ (h0.out.ext E0.out) q0.out (by omega) (by omega)).mono ?_
 rintro e w0x ⟨rfl, rfl⟩
 go_wp2_with fail
 refine (heldChannelS _ _ _ _ (h1.out.ext E0.out) q1.out (by omega) (by omega)).mono ?_
 rintro e w1x ⟨rfl, rfl⟩
 go_wp2_with fail
 refine (heldSlotS _ _ _ _ (h2.out.ext E0.out) q2.out (by omega) (by omega)).mono ?_
 rintro e w2x ⟨rfl, rfl⟩
 go_wp2
 go_ret
 exact ⟨ret_i (by omega), E0.out⟩
theorem heldMachine (v : Value) (x : Machine) (k : Int) (w : World) (h : Rv w v x) (hmk : x.mkT k = x) (hk0 : 0 ≤ k) (hk1 : k + (x.ctT : Nat) ≤ 1000000000000) :
  Calls Tryz.prog 44 #[v, .int .i64 k] w fun e w' => e = .returned (.int .i64 (k + (x.ctT : Nat))) ∧ Ext w w' := by
 have hct : x.ctT = x.Plan.ctT + GT.ct x.Programs + GT.ct x.Cores + GT.ct x.Holds := rfl
 obtain ⟨a0, c0, a1, c1, a2, c2, a3, c3, a4, c4, a5, c5, rfl, r6, h0, l0, h1, l1, h2, l2, h3, l3, h4, l4, h5, l5⟩ := h.openMachine
 clear h
 have q0 : Hid (x.Plan.mkT (k) = x.Plan) := zh (congrArg (fun z : Machine => z.Plan) hmk)
 have q1 : Hid (GT.mkE x.Programs (k + (x.Plan.ctT : Nat)) = x.Programs) := zh (congrArg (fun z : Machine => z.Programs) hmk)
 have q2 : Hid (GT.mkE x.Cores (k + (x.Plan.ctT : Nat) + (GT.ct x.Programs : Nat)) = x.Cores) := zh (congrArg (fun z : Machine => z.Cores) hmk)
 have q3 : Hid (GT.mkE x.Holds (k + (x.Plan.ctT : Nat) + (GT.ct x.Programs : Nat) + (GT.ct x.Cores : Nat)) = x.Holds) := zh (congrArg (fun z : Machine => z.Holds) hmk)
 clear hmk
 have E0 := zh ((Ext.refl w).alloc (.cells #[.slice a0 x.Plan.Parts.length c0, .slice a1 x.Plan.Channels.length c1, .slice a2 x.Plan.Slots.length c2, .slice a3 x.Programs.length c3, .slice a4 x.Cores.length c4, .slice a5 x.Holds.length c5, .int .i64 x.Tick] 46))
 have X0 := zh (Ext.refl (w.alloc (.cells #[.slice a0 x.Plan.Parts.length c0, .slice a1 x.Plan.Channels.length c1, .slice a2 x.Plan.Slots.length c2, .slice a3 x.Programs.length c3, .slice a4 x.Cores.length c4, .slice a5 x.Holds.length c5, .int .i64 x.Tick] 46)))
 go_enter Tryz.func44, Tryz.ntmps44
 go_wp2_with fail
 refine (heldSetup _ _ _ _ (Rv.mkSetup (h0.out.ext E0.out) (h1.out.ext E0.out) (h2.out.ext E0.out)) q0.out (by omega) (by omega)).mono ?_
 rintro e w1 ⟨rfl, he⟩
 have E1 := zh (E0.out.tr he)
 have X1 := zh (X0.out.tr he)
 obtain ⟨hcb, hfb⟩ := bcell X1.out
 clear he
 go_wp2_with fail
 refine (heldOrderSS _ _ _ _ (h3.out.ext E1.out) q1.out (by omega) (by omega)).mono ?_
 rintro e w1x ⟨rfl, rfl⟩
 go_wp2_with fail
 refine (heldCoreS _ _ _ _ (h4.out.ext E1.out) q2.out (by omega) (by omega)).mono ?_
 rintro e w2x ⟨rfl, rfl⟩
 go_wp2_with fail
 refine (heldHoldS _ _ _ _ (h5.out.ext E1.out) q3.out (by omega) (by omega)).mono ?_
 rintro e w3x ⟨rfl, rfl⟩
 go_wp2
 go_ret
 exact ⟨ret_i (by omega), E1.out⟩
theorem heldWatch (v : Value) (x : Watch) (k : Int) (w : World) (h : Rv w v x) (hmk : x.mkT k = x) (hk0 : 0 ≤ k) (hk1 : k + (x.ctT : Nat) ≤ 1000000000000) :
  Calls Tryz.prog 17 #[v, .int .i64 k] w fun e w' => e = .returned (.int .i64 (k + (x.ctT : Nat))) ∧ Ext w w' := by
 have hct : x.ctT = x.Box.ctT + GT.ct x.States := rfl
 obtain ⟨a0, c0, a1, c1, a2, c2, a3, c3, a4, c4, a5, c5, a7, c7, rfl, r6, h0, l0, h1, l1, h2, l2, h3, l3, h4, l4, h5, l5, h7, l7⟩ := h.openWatch
 clear h
 have q0 : Hid (x.Box.mkT (k) = x.Box) := zh (congrArg (fun z : Watch => z.Box) hmk)
 have q1 : Hid (GT.mkE x.States (k + (x.Box.ctT : Nat)) = x.States) := zh (congrArg (fun z : Watch => z.States) hmk)
 clear hmk
 have E0 := zh ((Ext.refl w).alloc (.cells #[.slice a0 x.Box.Plan.Parts.length c0, .slice a1 x.Box.Plan.Channels.length c1, .slice a2 x.Box.Plan.Slots.length c2, .slice a3 x.Box.Programs.length c3, .slice a4 x.Box.Cores.length c4, .slice a5 x.Box.Holds.length c5, .int .i64 x.Box.Tick, .slice a7 x.States.length c7] 49))
 have X0 := zh (Ext.refl (w.alloc (.cells #[.slice a0 x.Box.Plan.Parts.length c0, .slice a1 x.Box.Plan.Channels.length c1, .slice a2 x.Box.Plan.Slots.length c2, .slice a3 x.Box.Programs.length c3, .slice a4 x.Box.Cores.length c4, .slice a5 x.Box.Holds.length c5, .int .i64 x.Box.Tick, .slice a7 x.States.length c7] 49)))
 go_enter Tryz.func17, Tryz.ntmps17
 go_wp2_with fail
 refine (heldMachine _ _ _ _ (Rv.mkMachine (h0.out.ext E0.out) (h1.out.ext E0.out) (h2.out.ext E0.out) (h3.out.ext E0.out) (h4.out.ext E0.out) (h5.out.ext E0.out) r6) q0.out (by omega) (by omega)).mono ?_
 rintro e w1 ⟨rfl, he⟩
 have E1 := zh (E0.out.tr he)
 have X1 := zh (X0.out.tr he)
 obtain ⟨hcb, hfb⟩ := bcell X1.out
 clear he
 go_wp2_with fail
 refine (heldHealthS _ _ _ _ (h7.out.ext E1.out) q1.out (by omega) (by omega)).mono ?_
 rintro e w1x ⟨rfl, rfl⟩
 go_wp2
 go_ret
 exact ⟨ret_i (by omega), E1.out⟩
theorem markSetup (cs : List Value) (x : Setup) (k : Int) (w : World) (F : List Nat) (h : GT.enc w cs x F) (hnd : F.Nodup) (hfz : ∀ b ∈ F, Fz w b) (hk0 : 0 ≤ k) (hk1 : k + (x.ctT : Nat) ≤ 1000000000000) :
  Calls Tryz.prog 90 #[.agg cs.toArray, .int .i64 k] w fun e w' => e = .returned (.int .i64 (k + (x.ctT : Nat))) ∧ GT.enc w' cs (x.mkT k) F ∧ Mx F w w' := by
 have hct : x.ctT = GT.ct x.Parts + GT.ct x.Channels + GT.ct x.Slots := rfl
 have hin : ∀ y ∈ F, y < w.heap.size := GT.inh h
 obtain ⟨v0, v1, v2, G0, G1, G2, rfl, h0, h1, h2, rfl⟩ := h
 obtain ⟨a0, c0, rfl, hl0⟩ := Rs.form ⟨_, h0⟩
 obtain ⟨a1, c1, rfl, hl1⟩ := Rs.form ⟨_, h1⟩
 obtain ⟨a2, c2, rfl, hl2⟩ := Rs.form ⟨_, h2⟩
 have D0_1 : ∀ y, y ∈ G0 → y ∈ G1 → False := fun y p0 p1 => (List.nodup_append.1 hnd).2.2 y p0 y (by (try simp only [List.mem_append] at p1); (try simp only [List.mem_append]); simp [p1]) rfl
 have D0_2 : ∀ y, y ∈ G0 → y ∈ G2 → False := fun y p0 p1 => (List.nodup_append.1 hnd).2.2 y p0 y (by (try simp only [List.mem_append] at p1); (try simp only [List.mem_append]); simp [p1]) rfl
 have N0 := zh (List.nodup_append.1 hnd).1
 have nd1 := (List.nodup_append.1 hnd).2.1
 have D1_2 : ∀ y, y ∈ G1 → y ∈ G2 → False := fun y p0 p1 => (List.nodup_append.1 nd1).2.2 y p0 y (by (try simp only [List.mem_append] at p1); (try simp only [List.mem_append]); simp [p1]) rfl
 have N1 := zh (List.nodup_append.1 nd1).1
 have nd2 := (List.nodup_append.1 nd1).2.1
 have N2 := zh nd2
 have Z0 : Hid (∀ y ∈ G0, Fz w y) := zh (fun y hy => hfz y (by (try simp only [List.mem_append] at hy); (try simp only [List.mem_append]); simp [hy]))
 have I0 : Hid (w.heap.size ∉ G0) := zh (fun hy => Nat.lt_irrefl _ (hin _ (by (try simp only [List.mem_append] at hy); (try simp only [List.mem_append]); simp [hy])))
 have S0 := zh h0
 have Z1 : Hid (∀ y ∈ G1, Fz w y) := zh (fun y hy => hfz y (by (try simp only [List.mem_append] at hy); (try simp only [List.mem_append]); simp [hy]))
 have I1 : Hid (w.heap.size ∉ G1) := zh (fun hy => Nat.lt_irrefl _ (hin _ (by (try simp only [List.mem_append] at hy); (try simp only [List.mem_append]); simp [hy])))
 have S1 := zh h1
 have Z2 : Hid (∀ y ∈ G2, Fz w y) := zh (fun y hy => hfz y (by (try simp only [List.mem_append] at hy); (try simp only [List.mem_append]); simp [hy]))
 have I2 : Hid (w.heap.size ∉ G2) := zh (fun hy => Nat.lt_irrefl _ (hin _ (by (try simp only [List.mem_append] at hy); (try simp only [List.mem_append]); simp [hy])))
 have S2 := zh h2
 have E0 : Ext w (w.alloc (.cells #[.slice a0 x.Parts.length c0, .slice a1 x.Channels.length c1, .slice a2 x.Slots.length c2] 41)) := (Ext.refl w).alloc _
 replace S0 := zh (S0.out.ext E0)
 replace Z0 := zh (fun y hy => (Z0.out y hy).ext E0 : ∀ y ∈ G0, Fz (w.alloc (.cells #[.slice a0 x.Parts.length c0, .slice a1 x.Channels.length c1, .slice a2 x.Slots.length c2] 41)) y)
 replace S1 := zh (S1.out.ext E0)
 replace Z1 := zh (fun y hy => (Z1.out y hy).ext E0 : ∀ y ∈ G1, Fz (w.alloc (.cells #[.slice a0 x.Parts.length c0, .slice a1 x.Channels.length c1, .slice a2 x.Slots.length c2] 41)) y)
 replace S2 := zh (S2.out.ext E0)
 replace Z2 := zh (fun y hy => (Z2.out y hy).ext E0 : ∀ y ∈ G2, Fz (w.alloc (.cells #[.slice a0 x.Parts.length c0, .slice a1 x.Channels.length c1, .slice a2 x.Slots.length c2] 41)) y)
 have KA : Hid (Bk (w.alloc (.cells #[.slice a0 x.Parts.length c0, .slice a1 x.Channels.length c1, .slice a2 x.Slots.length c2] 41)) w.heap.size [.slice a0 x.Parts.length c0, .slice a1 x.Channels.length c1, .slice a2 x.Slots.length c2] 41) := zh (Bk.new _ _ _)
 have M0 : Hid (Mx (G0 ++ (G1 ++ (G2))) w (w.alloc (.cells #[.slice a0 x.Parts.length c0, .slice a1 x.Channels.length c1, .slice a2 x.Slots.length c2] 41))) := zh (Mx.ofExt E0)
 clear hnd hfz hin E0 nd1 nd2 h0 h1 h2
 go_enter Tryz.func90, Tryz.ntmps90
 go_wp2_with fail
 refine (markPartS _ _ _ _ G0 S0.out N0.out Z0.out (by omega) (by omega)).mono ?_
 rintro e w1 ⟨rfl, hs, hm0⟩
 have hm : Mx G0 _ w1 := Mx.ofMo hm0
 replace S0 := zh hs
 replace Z0 := zh (fun y hy => hm.2.2.2 y (Z0.out y hy) : ∀ y ∈ G0, Fz w1 y)
 replace S1 := zh (hm.sl S1.out (fun y p0 p1 => D0_1 y p1 p0))
 replace Z1 := zh (fun y hy => hm.2.2.2 y (Z1.out y hy) : ∀ y ∈ G1, Fz w1 y)
 replace S2 := zh (hm.sl S2.out (fun y p0 p1 => D0_2 y p1 p0))
 replace Z2 := zh (fun y hy => hm.2.2.2 y (Z2.out y hy) : ∀ y ∈ G2, Fz w1 y)
 replace KA := zh (hm.bk KA.out I0.out)
 have M1 := zh (M0.out.tr (hm.wide (fun y hy => by (try simp only [List.mem_append] at hy); (try simp only [List.mem_append]); simp [hy])))
 obtain ⟨f0, f1, f2⟩ := Bk.k3 KA.out
 clear hs hm0 hm
 go_wp2_with fail
 refine (markChannelS _ _ _ _ G1 S1.out N1.out Z1.out (by omega) (by omega)).mono ?_
 rintro e w2 ⟨rfl, hs, hm0⟩
 have hm : Mx G1 _ w2 := Mx.ofMo hm0
 replace S1 := zh hs
 replace S0 := zh (hm.sl S0.out (D0_1))
 replace Z0 := zh (fun y hy => hm.2.2.2 y (Z0.out y hy) : ∀ y ∈ G0, Fz w2 y)
 replace Z1 := zh (fun y hy => hm.2.2.2 y (Z1.out y hy) : ∀ y ∈ G1, Fz w2 y)
 replace S2 := zh (hm.sl S2.out (fun y p0 p1 => D1_2 y p1 p0))
 replace Z2 := zh (fun y hy => hm.2.2.2 y (Z2.out y hy) : ∀ y ∈ G2, Fz w2 y)
 replace KA := zh (hm.bk KA.out I1.out)
 have M2 := zh (M1.out.tr (hm.wide (fun y hy => by (try simp only [List.mem_append] at hy); (try simp only [List.mem_append]); simp [hy])))
 clear f0 f1 f2
 obtain ⟨f0, f1, f2⟩ := Bk.k3 KA.out
 clear hs hm0 hm
 go_wp2_with fail
 refine (markSlotS _ _ _ _ G2 S2.out N2.out Z2.out (by omega) (by omega)).mono ?_
 rintro e w3 ⟨rfl, hs, hm0⟩
 have hm : Mx G2 _ w3 := Mx.ofMo hm0
 replace S2 := zh hs
 replace S0 := zh (hm.sl S0.out (D0_2))
 replace Z0 := zh (fun y hy => hm.2.2.2 y (Z0.out y hy) : ∀ y ∈ G0, Fz w3 y)
 replace S1 := zh (hm.sl S1.out (D1_2))
 replace Z1 := zh (fun y hy => hm.2.2.2 y (Z1.out y hy) : ∀ y ∈ G1, Fz w3 y)
 replace Z2 := zh (fun y hy => hm.2.2.2 y (Z2.out y hy) : ∀ y ∈ G2, Fz w3 y)
 replace KA := zh (hm.bk KA.out I2.out)
 have M3 := zh (M2.out.tr (hm.wide (fun y hy => by (try simp only [List.mem_append] at hy); (try simp only [List.mem_append]); simp [hy])))
 clear hs hm0 hm
 go_wp2
 go_ret
 refine ⟨ret_i (by omega), ?_, M3.out⟩
 exact ⟨_, _, _, _, _, _, rfl, S0.out, S1.out, S2.out, rfl⟩
theorem markMachine (cs : List Value) (x : Machine) (k : Int) (w : World) (F : List Nat) (h : GT.enc w cs x F) (hnd : F.Nodup) (hfz : ∀ b ∈ F, Fz w b) (hk0 : 0 ≤ k) (hk1 : k + (x.ctT : Nat) ≤ 1000000000000) :
  Calls Tryz.prog 42 #[.agg cs.toArray, .int .i64 k] w fun e w' => e = .returned (.int .i64 (k + (x.ctT : Nat))) ∧ GT.enc w' cs (x.mkT k) F ∧ Mx F w w' := by
 have hct : x.ctT = x.Plan.ctT + GT.ct x.Programs + GT.ct x.Cores + GT.ct x.Holds := rfl
 have hin : ∀ y ∈ F, y < w.heap.size := GT.inh h
 obtain ⟨v0, v1, v2, v3, v4, v5, G0, G1, G2, G3, G4, G5, rfl, h0, h1, h2, h3, h4, h5, g6, rfl⟩ := h
 obtain ⟨a0, c0, rfl, hl0⟩ := Rs.form ⟨_, h0⟩
 obtain ⟨a1, c1, rfl, hl1⟩ := Rs.form ⟨_, h1⟩
 obtain ⟨a2, c2, rfl, hl2⟩ := Rs.form ⟨_, h2⟩
 obtain ⟨a3, c3, rfl, hl3⟩ := Rs.form ⟨_, h3⟩
 obtain ⟨a4, c4, rfl, hl4⟩ := Rs.form ⟨_, h4⟩
 obtain ⟨a5, c5, rfl, hl5⟩ := Rs.form ⟨_, h5⟩
 have P_Plan : GT.enc w [.slice a0 x.Plan.Parts.length c0, .slice a1 x.Plan.Channels.length c1, .slice a2 x.Plan.Slots.length c2] x.Plan (G0 ++ (G1 ++ (G2))) := ⟨_, _, _, _, _, _, rfl, h0, h1, h2, rfl⟩
 have hass : G0 ++ (G1 ++ (G2 ++ (G3 ++ (G4 ++ (G5))))) = (G0 ++ (G1 ++ (G2))) ++ (G3 ++ (G4 ++ (G5))) := by simp only [List.append_assoc]
 rw [hass] at hnd hfz hin ⊢
 have D0_1 : ∀ y, y ∈ (G0 ++ (G1 ++ (G2))) → y ∈ G3 → False := fun y p0 p1 => (List.nodup_append.1 hnd).2.2 y p0 y (by (try simp only [List.mem_append] at p1); (try simp only [List.mem_append]); simp [p1]) rfl
 have D0_2 : ∀ y, y ∈ (G0 ++ (G1 ++ (G2))) → y ∈ G4 → False := fun y p0 p1 => (List.nodup_append.1 hnd).2.2 y p0 y (by (try simp only [List.mem_append] at p1); (try simp only [List.mem_append]); simp [p1]) rfl
 have D0_3 : ∀ y, y ∈ (G0 ++ (G1 ++ (G2))) → y ∈ G5 → False := fun y p0 p1 => (List.nodup_append.1 hnd).2.2 y p0 y (by (try simp only [List.mem_append] at p1); (try simp only [List.mem_append]); simp [p1]) rfl
 have N0 := zh (List.nodup_append.1 hnd).1
 have nd1 := (List.nodup_append.1 hnd).2.1
 have D1_2 : ∀ y, y ∈ G3 → y ∈ G4 → False := fun y p0 p1 => (List.nodup_append.1 nd1).2.2 y p0 y (by (try simp only [List.mem_append] at p1); (try simp only [List.mem_append]); simp [p1]) rfl
 have D1_3 : ∀ y, y ∈ G3 → y ∈ G5 → False := fun y p0 p1 => (List.nodup_append.1 nd1).2.2 y p0 y (by (try simp only [List.mem_append] at p1); (try simp only [List.mem_append]); simp [p1]) rfl
 have N1 := zh (List.nodup_append.1 nd1).1
 have nd2 := (List.nodup_append.1 nd1).2.1
 have D2_3 : ∀ y, y ∈ G4 → y ∈ G5 → False := fun y p0 p1 => (List.nodup_append.1 nd2).2.2 y p0 y (by (try simp only [List.mem_append] at p1); (try simp only [List.mem_append]); simp [p1]) rfl
 have N2 := zh (List.nodup_append.1 nd2).1
 have nd3 := (List.nodup_append.1 nd2).2.1
 have N3 := zh nd3
 have Z0 : Hid (∀ y ∈ (G0 ++ (G1 ++ (G2))), Fz w y) := zh (fun y hy => hfz y (by (try simp only [List.mem_append] at hy); (try simp only [List.mem_append]); simp [hy]))
 have I0 : Hid (w.heap.size ∉ (G0 ++ (G1 ++ (G2)))) := zh (fun hy => Nat.lt_irrefl _ (hin _ (by (try simp only [List.mem_append] at hy); (try simp only [List.mem_append]); simp [hy])))
 have S0 := zh P_Plan
 have Z1 : Hid (∀ y ∈ G3, Fz w y) := zh (fun y hy => hfz y (by (try simp only [List.mem_append] at hy); (try simp only [List.mem_append]); simp [hy]))
 have I1 : Hid (w.heap.size ∉ G3) := zh (fun hy => Nat.lt_irrefl _ (hin _ (by (try simp only [List.mem_append] at hy); (try simp only [List.mem_append]); simp [hy])))
 have S1 := zh h3
 have Z2 : Hid (∀ y ∈ G4, Fz w y) := zh (fun y hy => hfz y (by (try simp only [List.mem_append] at hy); (try simp only [List.mem_append]); simp [hy]))
 have I2 : Hid (w.heap.size ∉ G4) := zh (fun hy => Nat.lt_irrefl _ (hin _ (by (try simp only [List.mem_append] at hy); (try simp only [List.mem_append]); simp [hy])))
 have S2 := zh h4
 have Z3 : Hid (∀ y ∈ G5, Fz w y) := zh (fun y hy => hfz y (by (try simp only [List.mem_append] at hy); (try simp only [List.mem_append]); simp [hy]))
 have I3 : Hid (w.heap.size ∉ G5) := zh (fun hy => Nat.lt_irrefl _ (hin _ (by (try simp only [List.mem_append] at hy); (try simp only [List.mem_append]); simp [hy])))
 have S3 := zh h5
 have E0 : Ext w (w.alloc (.cells #[.slice a0 x.Plan.Parts.length c0, .slice a1 x.Plan.Channels.length c1, .slice a2 x.Plan.Slots.length c2, .slice a3 x.Programs.length c3, .slice a4 x.Cores.length c4, .slice a5 x.Holds.length c5, .int .i64 x.Tick] 46)) := (Ext.refl w).alloc _
 replace S0 := zh (GT.ext S0.out E0)
 replace Z0 := zh (fun y hy => (Z0.out y hy).ext E0 : ∀ y ∈ (G0 ++ (G1 ++ (G2))), Fz (w.alloc (.cells #[.slice a0 x.Plan.Parts.length c0, .slice a1 x.Plan.Channels.length c1, .slice a2 x.Plan.Slots.length c2, .slice a3 x.Programs.length c3, .slice a4 x.Cores.length c4, .slice a5 x.Holds.length c5, .int .i64 x.Tick] 46)) y)
 replace S1 := zh (S1.out.ext E0)
 replace Z1 := zh (fun y hy => (Z1.out y hy).ext E0 : ∀ y ∈ G3, Fz (w.alloc (.cells #[.slice a0 x.Plan.Parts.length c0, .slice a1 x.Plan.Channels.length c1, .slice a2 x.Plan.Slots.length c2, .slice a3 x.Programs.length c3, .slice a4 x.Cores.length c4, .slice a5 x.Holds.length c5, .int .i64 x.Tick] 46)) y)
 replace S2 := zh (S2.out.ext E0)
 replace Z2 := zh (fun y hy => (Z2.out y hy).ext E0 : ∀ y ∈ G4, Fz (w.alloc (.cells #[.slice a0 x.Plan.Parts.length c0, .slice a1 x.Plan.Channels.length c1, .slice a2 x.Plan.Slots.length c2, .slice a3 x.Programs.length c3, .slice a4 x.Cores.length c4, .slice a5 x.Holds.length c5, .int .i64 x.Tick] 46)) y)
 replace S3 := zh (S3.out.ext E0)
 replace Z3 := zh (fun y hy => (Z3.out y hy).ext E0 : ∀ y ∈ G5, Fz (w.alloc (.cells #[.slice a0 x.Plan.Parts.length c0, .slice a1 x.Plan.Channels.length c1, .slice a2 x.Plan.Slots.length c2, .slice a3 x.Programs.length c3, .slice a4 x.Cores.length c4, .slice a5 x.Holds.length c5, .int .i64 x.Tick] 46)) y)
 have KA : Hid (Bk (w.alloc (.cells #[.slice a0 x.Plan.Parts.length c0, .slice a1 x.Plan.Channels.length c1, .slice a2 x.Plan.Slots.length c2, .slice a3 x.Programs.length c3, .slice a4 x.Cores.length c4, .slice a5 x.Holds.length c5, .int .i64 x.Tick] 46)) w.heap.size [.slice a0 x.Plan.Parts.length c0, .slice a1 x.Plan.Channels.length c1, .slice a2 x.Plan.Slots.length c2, .slice a3 x.Programs.length c3, .slice a4 x.Cores.length c4, .slice a5 x.Holds.length c5, .int .i64 x.Tick] 46) := zh (Bk.new _ _ _)
 have M0 : Hid (Mx ((G0 ++ (G1 ++ (G2))) ++ (G3 ++ (G4 ++ (G5)))) w (w.alloc (.cells #[.slice a0 x.Plan.Parts.length c0, .slice a1 x.Plan.Channels.length c1, .slice a2 x.Plan.Slots.length c2, .slice a3 x.Programs.length c3, .slice a4 x.Cores.length c4, .slice a5 x.Holds.length c5, .int .i64 x.Tick] 46))) := zh (Mx.ofExt E0)
 clear hnd hfz hin E0 nd1 nd2 nd3 h0 h1 h2 h3 h4 h5 P_Plan
 go_enter Tryz.func42, Tryz.ntmps42
 go_wp2_with fail
 refine (markSetup _ _ _ _ (G0 ++ (G1 ++ (G2))) S0.out N0.out Z0.out (by omega) (by omega)).mono ?_
 rintro e w1 ⟨rfl, hs, hm0⟩
 have hm : Mx (G0 ++ (G1 ++ (G2))) _ w1 := hm0
 replace S0 := zh hs
 replace Z0 := zh (fun y hy => hm.2.2.2 y (Z0.out y hy) : ∀ y ∈ (G0 ++ (G1 ++ (G2))), Fz w1 y)
 replace S1 := zh (hm.sl S1.out (fun y p0 p1 => D0_1 y p1 p0))
 replace Z1 := zh (fun y hy => hm.2.2.2 y (Z1.out y hy) : ∀ y ∈ G3, Fz w1 y)
 replace S2 := zh (hm.sl S2.out (fun y p0 p1 => D0_2 y p1 p0))
 replace Z2 := zh (fun y hy => hm.2.2.2 y (Z2.out y hy) : ∀ y ∈ G4, Fz w1 y)
 replace S3 := zh (hm.sl S3.out (fun y p0 p1 => D0_3 y p1 p0))
 replace Z3 := zh (fun y hy => hm.2.2.2 y (Z3.out y hy) : ∀ y ∈ G5, Fz w1 y)
 replace KA := zh (hm.bk KA.out I0.out)
 have M1 := zh (M0.out.tr (hm.wide (fun y hy => by (try simp only [List.mem_append] at hy); (try simp only [List.mem_append]); simp [hy])))
 obtain ⟨f0, f1, f2, f3, f4, f5, f6⟩ := Bk.k7 KA.out
 clear hs hm0 hm
 go_wp2_with fail
 refine (markOrderSS _ _ _ _ G3 S1.out N1.out Z1.out (by omega) (by omega)).mono ?_
 rintro e w2 ⟨rfl, hs, hm0⟩
 have hm : Mx G3 _ w2 := Mx.ofMo hm0
 replace S1 := zh hs
 replace S0 := zh (hm.enc S0.out (D0_1))
 replace Z0 := zh (fun y hy => hm.2.2.2 y (Z0.out y hy) : ∀ y ∈ (G0 ++ (G1 ++ (G2))), Fz w2 y)
 replace Z1 := zh (fun y hy => hm.2.2.2 y (Z1.out y hy) : ∀ y ∈ G3, Fz w2 y)
 replace S2 := zh (hm.sl S2.out (fun y p0 p1 => D1_2 y p1 p0))
 replace Z2 := zh (fun y hy => hm.2.2.2 y (Z2.out y hy) : ∀ y ∈ G4, Fz w2 y)
 replace S3 := zh (hm.sl S3.out (fun y p0 p1 => D1_3 y p1 p0))
 replace Z3 := zh (fun y hy => hm.2.2.2 y (Z3.out y hy) : ∀ y ∈ G5, Fz w2 y)
 replace KA := zh (hm.bk KA.out I1.out)
 have M2 := zh (M1.out.tr (hm.wide (fun y hy => by (try simp only [List.mem_append] at hy); (try simp only [List.mem_append]); simp [hy])))
 clear f0 f1 f2 f3 f4 f5 f6
 obtain ⟨f0, f1, f2, f3, f4, f5, f6⟩ := Bk.k7 KA.out
 clear hs hm0 hm
 go_wp2_with fail
 refine (markCoreS _ _ _ _ G4 S2.out N2.out Z2.out (by omega) (by omega)).mono ?_
 rintro e w3 ⟨rfl, hs, hm0⟩
 have hm : Mx G4 _ w3 := Mx.ofMo hm0
 replace S2 := zh hs
 replace S0 := zh (hm.enc S0.out (D0_2))
 replace Z0 := zh (fun y hy => hm.2.2.2 y (Z0.out y hy) : ∀ y ∈ (G0 ++ (G1 ++ (G2))), Fz w3 y)
 replace S1 := zh (hm.sl S1.out (D1_2))
 replace Z1 := zh (fun y hy => hm.2.2.2 y (Z1.out y hy) : ∀ y ∈ G3, Fz w3 y)
 replace Z2 := zh (fun y hy => hm.2.2.2 y (Z2.out y hy) : ∀ y ∈ G4, Fz w3 y)
 replace S3 := zh (hm.sl S3.out (fun y p0 p1 => D2_3 y p1 p0))
 replace Z3 := zh (fun y hy => hm.2.2.2 y (Z3.out y hy) : ∀ y ∈ G5, Fz w3 y)
 replace KA := zh (hm.bk KA.out I2.out)
 have M3 := zh (M2.out.tr (hm.wide (fun y hy => by (try simp only [List.mem_append] at hy); (try simp only [List.mem_append]); simp [hy])))
 clear f0 f1 f2 f3 f4 f5 f6
 obtain ⟨f0, f1, f2, f3, f4, f5, f6⟩ := Bk.k7 KA.out
 clear hs hm0 hm
 go_wp2_with fail
 refine (markHoldS _ _ _ _ G5 S3.out N3.out Z3.out (by omega) (by omega)).mono ?_
 rintro e w4 ⟨rfl, hs, hm0⟩
 have hm : Mx G5 _ w4 := Mx.ofMo hm0
 replace S3 := zh hs
 replace S0 := zh (hm.enc S0.out (D0_3))
 replace Z0 := zh (fun y hy => hm.2.2.2 y (Z0.out y hy) : ∀ y ∈ (G0 ++ (G1 ++ (G2))), Fz w4 y)
 replace S1 := zh (hm.sl S1.out (D1_3))
 replace Z1 := zh (fun y hy => hm.2.2.2 y (Z1.out y hy) : ∀ y ∈ G3, Fz w4 y)
 replace S2 := zh (hm.sl S2.out (D2_3))
 replace Z2 := zh (fun y hy => hm.2.2.2 y (Z2.out y hy) : ∀ y ∈ G4, Fz w4 y)
 replace Z3 := zh (fun y hy => hm.2.2.2 y (Z3.out y hy) : ∀ y ∈ G5, Fz w4 y)
 replace KA := zh (hm.bk KA.out I3.out)
 have M4 := zh (M3.out.tr (hm.wide (fun y hy => by (try simp only [List.mem_append] at hy); (try simp only [List.mem_append]); simp [hy])))
 clear hs hm0 hm
 go_wp2
 go_ret
 refine ⟨ret_i (by omega), ?_, M4.out⟩
 obtain ⟨u0, u1, u2, H0, H1, H2, e0, h0, h1, h2, hF0⟩ := S0.out
 simp only [List.cons.injEq, and_true] at e0
 obtain ⟨rfl, rfl, rfl⟩ := e0
 rw [hF0]
 exact ⟨_, _, _, _, _, _, _, _, _, _, _, _, rfl, h0, h1, h2, S1.out, S2.out, S3.out, g6, by simp only [List.append_assoc]⟩
theorem markWatch (cs : List Value) (x : Watch) (k : Int) (w : World) (F : List Nat) (h : GT.enc w cs x F) (hnd : F.Nodup) (hfz : ∀ b ∈ F, Fz w b) (hk0 : 0 ≤ k) (hk1 : k + (x.ctT : Nat) ≤ 1000000000000) :
  Calls Tryz.prog 15 #[.agg cs.toArray, .int .i64 k] w fun e w' => e = .returned (.int .i64 (k + (x.ctT : Nat))) ∧ GT.enc w' cs (x.mkT k) F ∧ Mx F w w' := by
 have hct : x.ctT = x.Box.ctT + GT.ct x.States := rfl
 have hin : ∀ y ∈ F, y < w.heap.size := GT.inh h
 obtain ⟨v0, v1, v2, v3, v4, v5, v7, G0, G1, G2, G3, G4, G5, G7, rfl, h0, h1, h2, h3, h4, h5, h7, g6, rfl⟩ := h
 obtain ⟨a0, c0, rfl, hl0⟩ := Rs.form ⟨_, h0⟩
 obtain ⟨a1, c1, rfl, hl1⟩ := Rs.form ⟨_, h1⟩
 obtain ⟨a2, c2, rfl, hl2⟩ := Rs.form ⟨_, h2⟩
 obtain ⟨a3, c3, rfl, hl3⟩ := Rs.form ⟨_, h3⟩
 obtain ⟨a4, c4, rfl, hl4⟩ := Rs.form ⟨_, h4⟩
 obtain ⟨a5, c5, rfl, hl5⟩ := Rs.form ⟨_, h5⟩
 obtain ⟨a7, c7, rfl, hl7⟩ := Rs.form ⟨_, h7⟩
 have P_Box : GT.enc w [.slice a0 x.Box.Plan.Parts.length c0, .slice a1 x.Box.Plan.Channels.length c1, .slice a2 x.Box.Plan.Slots.length c2, .slice a3 x.Box.Programs.length c3, .slice a4 x.Box.Cores.length c4, .slice a5 x.Box.Holds.length c5, .int .i64 x.Box.Tick] x.Box (G0 ++ (G1 ++ (G2 ++ (G3 ++ (G4 ++ (G5)))))) := ⟨_, _, _, _, _, _, _, _, _, _, _, _, rfl, h0, h1, h2, h3, h4, h5, g6, rfl⟩
 have hass : G0 ++ (G1 ++ (G2 ++ (G3 ++ (G4 ++ (G5 ++ (G7)))))) = (G0 ++ (G1 ++ (G2 ++ (G3 ++ (G4 ++ (G5)))))) ++ (G7) := by simp only [List.append_assoc]
 rw [hass] at hnd hfz hin ⊢
 have D0_1 : ∀ y, y ∈ (G0 ++ (G1 ++ (G2 ++ (G3 ++ (G4 ++ (G5)))))) → y ∈ G7 → False := fun y p0 p1 => (List.nodup_append.1 hnd).2.2 y p0 y (by (try simp only [List.mem_append] at p1); (try simp only [List.mem_append]); simp [p1]) rfl
 have N0 := zh (List.nodup_append.1 hnd).1
 have nd1 := (List.nodup_append.1 hnd).2.1
 have N1 := zh nd1
 have Z0 : Hid (∀ y ∈ (G0 ++ (G1 ++ (G2 ++ (G3 ++ (G4 ++ (G5)))))), Fz w y) := zh (fun y hy => hfz y (by (try simp only [List.mem_append] at hy); (try simp only [List.mem_append]); simp [hy]))
 have I0 : Hid (w.heap.size ∉ (G0 ++ (G1 ++ (G2 ++ (G3 ++ (G4 ++ (G5))))))) := zh (fun hy => Nat.lt_irrefl _ (hin _ (by (try simp only [List.mem_append] at hy); (try simp only [List.mem_append]); simp [hy])))
 have S0 := zh P_Box
 have Z1 : Hid (∀ y ∈ G7, Fz w y) := zh (fun y hy => hfz y (by (try simp only [List.mem_append] at hy); (try simp only [List.mem_append]); simp [hy]))
 have I1 : Hid (w.heap.size ∉ G7) := zh (fun hy => Nat.lt_irrefl _ (hin _ (by (try simp only [List.mem_append] at hy); (try simp only [List.mem_append]); simp [hy])))
 have S1 := zh h7
 have E0 : Ext w (w.alloc (.cells #[.slice a0 x.Box.Plan.Parts.length c0, .slice a1 x.Box.Plan.Channels.length c1, .slice a2 x.Box.Plan.Slots.length c2, .slice a3 x.Box.Programs.length c3, .slice a4 x.Box.Cores.length c4, .slice a5 x.Box.Holds.length c5, .int .i64 x.Box.Tick, .slice a7 x.States.length c7] 49)) := (Ext.refl w).alloc _
 replace S0 := zh (GT.ext S0.out E0)
 replace Z0 := zh (fun y hy => (Z0.out y hy).ext E0 : ∀ y ∈ (G0 ++ (G1 ++ (G2 ++ (G3 ++ (G4 ++ (G5)))))), Fz (w.alloc (.cells #[.slice a0 x.Box.Plan.Parts.length c0, .slice a1 x.Box.Plan.Channels.length c1, .slice a2 x.Box.Plan.Slots.length c2, .slice a3 x.Box.Programs.length c3, .slice a4 x.Box.Cores.length c4, .slice a5 x.Box.Holds.length c5, .int .i64 x.Box.Tick, .slice a7 x.States.length c7] 49)) y)
 replace S1 := zh (S1.out.ext E0)
 replace Z1 := zh (fun y hy => (Z1.out y hy).ext E0 : ∀ y ∈ G7, Fz (w.alloc (.cells #[.slice a0 x.Box.Plan.Parts.length c0, .slice a1 x.Box.Plan.Channels.length c1, .slice a2 x.Box.Plan.Slots.length c2, .slice a3 x.Box.Programs.length c3, .slice a4 x.Box.Cores.length c4, .slice a5 x.Box.Holds.length c5, .int .i64 x.Box.Tick, .slice a7 x.States.length c7] 49)) y)
 have KA : Hid (Bk (w.alloc (.cells #[.slice a0 x.Box.Plan.Parts.length c0, .slice a1 x.Box.Plan.Channels.length c1, .slice a2 x.Box.Plan.Slots.length c2, .slice a3 x.Box.Programs.length c3, .slice a4 x.Box.Cores.length c4, .slice a5 x.Box.Holds.length c5, .int .i64 x.Box.Tick, .slice a7 x.States.length c7] 49)) w.heap.size [.slice a0 x.Box.Plan.Parts.length c0, .slice a1 x.Box.Plan.Channels.length c1, .slice a2 x.Box.Plan.Slots.length c2, .slice a3 x.Box.Programs.length c3, .slice a4 x.Box.Cores.length c4, .slice a5 x.Box.Holds.length c5, .int .i64 x.Box.Tick, .slice a7 x.States.length c7] 49) := zh (Bk.new _ _ _)
 have M0 : Hid (Mx ((G0 ++ (G1 ++ (G2 ++ (G3 ++ (G4 ++ (G5)))))) ++ (G7)) w (w.alloc (.cells #[.slice a0 x.Box.Plan.Parts.length c0, .slice a1 x.Box.Plan.Channels.length c1, .slice a2 x.Box.Plan.Slots.length c2, .slice a3 x.Box.Programs.length c3, .slice a4 x.Box.Cores.length c4, .slice a5 x.Box.Holds.length c5, .int .i64 x.Box.Tick, .slice a7 x.States.length c7] 49))) := zh (Mx.ofExt E0)
 clear hnd hfz hin E0 nd1 h0 h1 h2 h3 h4 h5 h7 P_Box
 go_enter Tryz.func15, Tryz.ntmps15
 go_wp2_with fail
 refine (markMachine _ _ _ _ (G0 ++ (G1 ++ (G2 ++ (G3 ++ (G4 ++ (G5)))))) S0.out N0.out Z0.out (by omega) (by omega)).mono ?_
 rintro e w1 ⟨rfl, hs, hm0⟩
 have hm : Mx (G0 ++ (G1 ++ (G2 ++ (G3 ++ (G4 ++ (G5)))))) _ w1 := hm0
 replace S0 := zh hs
 replace Z0 := zh (fun y hy => hm.2.2.2 y (Z0.out y hy) : ∀ y ∈ (G0 ++ (G1 ++ (G2 ++ (G3 ++ (G4 ++ (G5)))))), Fz w1 y)
 replace S1 := zh (hm.sl S1.out (fun y p0 p1 => D0_1 y p1 p0))
 replace Z1 := zh (fun y hy => hm.2.2.2 y (Z1.out y hy) : ∀ y ∈ G7, Fz w1 y)
 replace KA := zh (hm.bk KA.out I0.out)
 have M1 := zh (M0.out.tr (hm.wide (fun y hy => by (try simp only [List.mem_append] at hy); (try simp only [List.mem_append]); simp [hy])))
 obtain ⟨f0, f1, f2, f3, f4, f5, f6, f7⟩ := Bk.k8 KA.out
 clear hs hm0 hm
 go_wp2_with fail
 refine (markHealthS _ _ _ _ G7 S1.out N1.out Z1.out (by omega) (by omega)).mono ?_
 rintro e w2 ⟨rfl, hs, hm0⟩
 have hm : Mx G7 _ w2 := Mx.ofMo hm0
 replace S1 := zh hs
 replace S0 := zh (hm.enc S0.out (D0_1))
 replace Z0 := zh (fun y hy => hm.2.2.2 y (Z0.out y hy) : ∀ y ∈ (G0 ++ (G1 ++ (G2 ++ (G3 ++ (G4 ++ (G5)))))), Fz w2 y)
 replace Z1 := zh (fun y hy => hm.2.2.2 y (Z1.out y hy) : ∀ y ∈ G7, Fz w2 y)
 replace KA := zh (hm.bk KA.out I1.out)
 have M2 := zh (M1.out.tr (hm.wide (fun y hy => by (try simp only [List.mem_append] at hy); (try simp only [List.mem_append]); simp [hy])))
 clear hs hm0 hm
 go_wp2
 go_ret
 refine ⟨ret_i (by omega), ?_, M2.out⟩
 obtain ⟨u0, u1, u2, u3, u4, u5, H0, H1, H2, H3, H4, H5, e0, h0, h1, h2, h3, h4, h5, g6, hF0⟩ := S0.out
 simp only [List.cons.injEq, and_true] at e0
 obtain ⟨rfl, rfl, rfl, rfl, rfl, rfl, _⟩ := e0
 rw [hF0]
 exact ⟨_, _, _, _, _, _, _, _, _, _, _, _, _, _, rfl, h0, h1, h2, h3, h4, h5, S1.out, g6, by simp only [List.append_assoc]⟩
end Sk
