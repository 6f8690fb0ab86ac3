/- Contracts of functions of the given program. -/
import Derived.Lib.SliceRun
import Derived.Test.YtfbkkjihlncnhaaGreatNums
namespace Sk
open Go Go.Proofs Go.RowKit
set_option maxHeartbeats 400000
set_option maxRecDepth 100000
set_option linter.unusedVariables false
set_option linter.unusedSimpArgs false
def Oh {α:Type} [GT α] (L:Nat) (w:World) (v:Value) (xs:List α) (F:List Nat):Prop :=
 (v = .slice none 0 0∧xs = []∧F = [])∨∃ g,v = .slice (some ⟨g,0,none⟩) xs.length xs.length∧L≤g∧Fz w g∧xs.length≤maxLen∧Row w g 0 xs F∧g ∉ F
theorem Oa.oh {α:Type} [GT α] {e:TypeId} {L:Nat} {w:World} {a:Option Addr} {n c:Nat} {xs:List α} {F:List Nat} (h:Oa e L w (.slice a n c) xs F):Oh L w (.slice a n n) xs F:=by
 rcases h with ⟨h,rfl,rfl⟩ | ⟨g,cap,cur,h,hL,hg,hl,hc,hs,hr,hn⟩
 ·cases h;exact .inl ⟨rfl,rfl,rfl⟩
 ·cases h;exact .inr ⟨g,rfl,hL,⟨_,_,Bk.ofA hg⟩,Nat.le_trans hl hc,hr,hn⟩
theorem Oh.os {α:Type} [GT α] {L:Nat} {w:World} {v:Value} {xs:List α} (h:Oh L w v xs []):Os L w v xs:=by
 rcases h with ⟨rfl,rfl,_⟩ | ⟨g,rfl,hL,hz,hl,hr,_⟩
 ·exact⟨[],⟨none,0,rfl,Nat.le_refl _,Nat.zero_le _,.inl ⟨rfl,rfl⟩⟩,Own.nil _ _⟩
 ·by_cases hx:xs = []
  ·subst hx;exact⟨[],⟨some ⟨g,0,none⟩,0,rfl,Nat.le_refl _,Nat.zero_le _,.inl ⟨rfl,rfl⟩⟩,Own.nil _ _⟩
  ·exact⟨[g],⟨_,_,rfl,Nat.le_refl _,hl,.inr ⟨hx,g,0,[],rfl,rfl,hr⟩⟩,by simp,fun b hb=>by rw[List.mem_singleton] at hb;subst hb;exact⟨hL,hz⟩⟩
theorem slices_Clone_Int (v:Value) (xs:List Int) (w:World) (F:List Nat) (h:Sl w v xs F) (hn:xs.length≤100000000) :
  Calls Tryz.prog 150 #[v] w fun e w' => ∃ v' F',e = .returned v'∧Oa 3 w.heap.size w' v' xs F'∧(∀ b∈F',b∈F)∧F'.Sublist F∧Ext w w':=by
 have hnil:∀ (a:Option Addr) (n c:Nat),(binOp .eql 39 (.slice a n c) (.slice none 0 0)).run Tryz.prog w = .ok (.bool a.isNone) w:=fun a n c=>Go.Lib.run_eql_slice_nil w 39 3 a n c 0 0 Tryz.underlying39
 obtain⟨a,c,rfl,hl,hc,⟨rfl,rfl⟩ | ⟨hne,b,o,F',rfl,rfl,hr⟩⟩:=h
 ·cases a with
  | none =>
   go_enter Tryz.func150,Tryz.ntmps150;go_wp2;go_ret;exact⟨_,[],rfl,Oa.nil _ _ _,by simp,by simp,Ext.refl _⟩
  | some p =>
   go_enter Tryz.func150,Tryz.ntmps150;go_wp2;go_ret;exact⟨_,[],rfl,Oa.lit0 _ _,by simp,by simp,(Ext.refl _).alloc _⟩
 ·have hpos:0 < xs.length:=List.length_pos_iff.2 hne;have HR:Hid (∀ ob,Row (w.alloc ob) b o xs F'):=zh (fun ob=>hr.keep (((Ext.refl w).alloc ob).block b (hr.lt hne)) (fun k hk=>((Ext.refl w).alloc ob).block k (hr.inh k hk)))
  have HI:Hid (∀ k∈F',k < w.heap.size):=zh hr.inh;clear hr;go_enter Tryz.func150,Tryz.ntmps150;go_wp2_with (at_builtin;refine wpl_app (α:=Int) rfl _ _ 39 rfl 3 Tryz.underlying39 elInt (L:=w.heap.size) (v:=.slice (some ⟨w.heap.size,0,none⟩) 0 0) (xs:=[]) (ys:=xs) rfl (Oa.lit0 _ _) rfl rfl (HR.out _) (by omega) (fun k hk e=>by cases e;exact absurd (HI.out _ hk) (Nat.lt_irrefl _)) (by simp;omega) (by simp) ?_;intro v' w' hO' hgr;have HO2:=zh hO';have HQ2:=zh (Ext.grown ((Ext.refl w).alloc _) hgr (fun k hk=>by cases hk;exact Nat.le_refl _));clear hO' hgr;obtain⟨ao2,co2,rfl,_⟩:=HO2.out.form)
  go_ret;exact⟨_,F',rfl,by simpa using HO2.out,fun b hb=>by simp[hb],List.sublist_cons_self _ _,HQ2.out⟩
theorem impl_clone_Int (v:Value) (xs:List Int) (w:World) (F:List Nat) (h:Sl w v xs F) (hn:xs.length≤100000000) :
  Calls Tryz.prog 100 #[v] w fun e w' => ∃ v' F',e = .returned v'∧Oh w.heap.size w' v' xs F'∧(∀ b∈F',b∈F)∧F'.Sublist F∧Ext w w':=by
 obtain⟨a,c,rfl,hl⟩:=Rs.form ⟨F,h⟩;have H:=zh h;clear h;go_enter Tryz.func100,Tryz.ntmps100;go_wp2_with fail
 refine(slices_Clone_Int _ _ _ _ H.out hn).mono ?_;rintro e w1 ⟨v1,F1,rfl,ho,hF,hsub,he⟩;obtain⟨a1,c1,rfl,_⟩:=ho.form;have hcp:=ho.cap;have HO:=zh ho.oh;have HX:=zh (And.intro hF (And.intro hsub he));clear ho hF hsub he;go_wp2_with fail
 refine(slices_Clip_int _ xs _ _ _ rfl hcp.1 hcp.2).mono ?_;rintro e w2 ⟨rfl,rfl⟩;go_wp2;go_ret;exact⟨_,F1,rfl,HO.out,HX.out⟩
theorem elWindow:El Tryz.prog 80 Window:=El.of (z:=.agg #[.int .i64 0,.int .i64 0,.bool false]) (n:=3) (b:=24) (by kernel_rfl) rfl rfl (by decide)
theorem slices_Clone_Window (v:Value) (xs:List Window) (w:World) (F:List Nat) (h:Sl w v xs F) (hn:xs.length≤100000000) :
  Calls Tryz.prog 181 #[v] w fun e w' => ∃ v' F',e = .returned v'∧Oa 80 w.heap.size w' v' xs F'∧(∀ b∈F',b∈F)∧F'.Sublist F∧Ext w w':=by
 have hnil:∀ (a:Option Addr) (n c:Nat),(binOp .eql 49 (.slice a n c) (.slice none 0 0)).run Tryz.prog w = .ok (.bool a.isNone) w:=fun a n c=>Go.Lib.run_eql_slice_nil w 49 80 a n c 0 0 Tryz.underlying49
 obtain⟨a,c,rfl,hl,hc,⟨rfl,rfl⟩ | ⟨hne,b,o,F',rfl,rfl,hr⟩⟩:=h
 ·cases a with
  | none =>
   go_enter Tryz.func181,Tryz.ntmps181;go_wp2;go_ret;exact⟨_,[],rfl,Oa.nil _ _ _,by simp,by simp,Ext.refl _⟩
  | some p =>
   go_enter Tryz.func181,Tryz.ntmps181;go_wp2;go_ret;exact⟨_,[],rfl,Oa.lit0 _ _,by simp,by simp,(Ext.refl _).alloc _⟩
 ·have hpos:0 < xs.length:=List.length_pos_iff.2 hne;have HR:Hid (∀ ob,Row (w.alloc ob) b o xs F'):=zh (fun ob=>hr.keep (((Ext.refl w).alloc ob).block b (hr.lt hne)) (fun k hk=>((Ext.refl w).alloc ob).block k (hr.inh k hk)))
  have HI:Hid (∀ k∈F',k < w.heap.size):=zh hr.inh;clear hr;go_enter Tryz.func181,Tryz.ntmps181;go_wp2_with (at_builtin;refine wpl_app (α:=Window) rfl _ _ 49 rfl 80 Tryz.underlying49 elWindow (L:=w.heap.size) (v:=.slice (some ⟨w.heap.size,0,none⟩) 0 0) (xs:=[]) (ys:=xs) rfl (Oa.lit0 _ _) rfl rfl (HR.out _) (by omega) (fun k hk e=>by cases e;exact absurd (HI.out _ hk) (Nat.lt_irrefl _)) (by simp;omega) (by simp) ?_;intro v' w' hO' hgr;have HO2:=zh hO';have HQ2:=zh (Ext.grown ((Ext.refl w).alloc _) hgr (fun k hk=>by cases hk;exact Nat.le_refl _));clear hO' hgr;obtain⟨ao2,co2,rfl,_⟩:=HO2.out.form)
  go_ret;exact⟨_,F',rfl,by simpa using HO2.out,fun b hb=>by simp[hb],List.sublist_cons_self _ _,HQ2.out⟩
theorem slices_Clip_Window (n c:Nat) (w:World) (a:Option Addr) (hc:n≤c) (hl:c≤9223372036854775807) :
  Calls Tryz.prog 180 #[.slice a n c] w fun e w'=>e = .returned (.slice a n n)∧w=w':=by
 go_enter Tryz.func180,Tryz.ntmps180;go_wp2;go_ret;exact⟨rfl,rfl⟩
theorem impl_clone_Window (v:Value) (xs:List Window) (w:World) (F:List Nat) (h:Sl w v xs F) (hn:xs.length≤100000000) :
  Calls Tryz.prog 141 #[v] w fun e w' => ∃ v' F',e = .returned v'∧Oh w.heap.size w' v' xs F'∧(∀ b∈F',b∈F)∧F'.Sublist F∧Ext w w':=by
 obtain⟨a,c,rfl,hl⟩:=Rs.form ⟨F,h⟩;have H:=zh h;clear h;go_enter Tryz.func141,Tryz.ntmps141;go_wp2_with fail
 refine(slices_Clone_Window _ _ _ _ H.out hn).mono ?_;rintro e w1 ⟨v1,F1,rfl,ho,hF,hsub,he⟩;obtain⟨a1,c1,rfl,_⟩:=ho.form;have hcp:=ho.cap;have HO:=zh ho.oh;have HX:=zh (And.intro hF (And.intro hsub he));clear ho hF hsub he;go_wp2_with fail
 refine(slices_Clip_Window _ _ _ _ hcp.1 hcp.2).mono ?_;rintro e w2 ⟨rfl,rfl⟩;go_wp2;go_ret;exact⟨_,F1,rfl,HO.out,HX.out⟩
theorem elPart:El Tryz.prog 51 Part:=El.of (z:=.agg #[.slice none 0 0,.int .i64 0]) (n:=2) (b:=32) (by kernel_rfl) rfl rfl (by decide)
theorem slices_Clone_Part (v:Value) (xs:List Part) (w:World) (F:List Nat) (h:Sl w v xs F) (hn:xs.length≤100000000) :
  Calls Tryz.prog 175 #[v] w fun e w' => ∃ v' F',e = .returned v'∧Oa 51 w.heap.size w' v' xs F'∧(∀ b∈F',b∈F)∧F'.Sublist F∧Ext w w':=by
 have hnil:∀ (a:Option Addr) (n c:Nat),(binOp .eql 23 (.slice a n c) (.slice none 0 0)).run Tryz.prog w = .ok (.bool a.isNone) w:=fun a n c=>Go.Lib.run_eql_slice_nil w 23 51 a n c 0 0 Tryz.underlying23
 obtain⟨a,c,rfl,hl,hc,⟨rfl,rfl⟩ | ⟨hne,b,o,F',rfl,rfl,hr⟩⟩:=h
 ·cases a with
  | none =>
   go_enter Tryz.func175,Tryz.ntmps175;go_wp2;go_ret;exact⟨_,[],rfl,Oa.nil _ _ _,by simp,by simp,Ext.refl _⟩
  | some p =>
   go_enter Tryz.func175,Tryz.ntmps175;go_wp2;go_ret;exact⟨_,[],rfl,Oa.lit0 _ _,by simp,by simp,(Ext.refl _).alloc _⟩
 ·have hpos:0 < xs.length:=List.length_pos_iff.2 hne;have HR:Hid (∀ ob,Row (w.alloc ob) b o xs F'):=zh (fun ob=>hr.keep (((Ext.refl w).alloc ob).block b (hr.lt hne)) (fun k hk=>((Ext.refl w).alloc ob).block k (hr.inh k hk)))
  have HI:Hid (∀ k∈F',k < w.heap.size):=zh hr.inh;clear hr;go_enter Tryz.func175,Tryz.ntmps175;go_wp2_with (at_builtin;refine wpl_app (α:=Part) rfl _ _ 23 rfl 51 Tryz.underlying23 elPart (L:=w.heap.size) (v:=.slice (some ⟨w.heap.size,0,none⟩) 0 0) (xs:=[]) (ys:=xs) rfl (Oa.lit0 _ _) rfl rfl (HR.out _) (by omega) (fun k hk e=>by cases e;exact absurd (HI.out _ hk) (Nat.lt_irrefl _)) (by simp;omega) (by simp) ?_;intro v' w' hO' hgr;have HO2:=zh hO';have HQ2:=zh (Ext.grown ((Ext.refl w).alloc _) hgr (fun k hk=>by cases hk;exact Nat.le_refl _));clear hO' hgr;obtain⟨ao2,co2,rfl,_⟩:=HO2.out.form)
  go_ret;exact⟨_,F',rfl,by simpa using HO2.out,fun b hb=>by simp[hb],List.sublist_cons_self _ _,HQ2.out⟩
theorem slices_Clip_Part (n c:Nat) (w:World) (a:Option Addr) (hc:n≤c) (hl:c≤9223372036854775807) :
  Calls Tryz.prog 174 #[.slice a n c] w fun e w'=>e = .returned (.slice a n n)∧w=w':=by
 go_enter Tryz.func174,Tryz.ntmps174;go_wp2;go_ret;exact⟨rfl,rfl⟩
theorem impl_clone_Part (v:Value) (xs:List Part) (w:World) (F:List Nat) (h:Sl w v xs F) (hn:xs.length≤100000000) :
  Calls Tryz.prog 138 #[v] w fun e w' => ∃ v' F',e = .returned v'∧Oh w.heap.size w' v' xs F'∧(∀ b∈F',b∈F)∧F'.Sublist F∧Ext w w':=by
 obtain⟨a,c,rfl,hl⟩:=Rs.form ⟨F,h⟩;have H:=zh h;clear h;go_enter Tryz.func138,Tryz.ntmps138;go_wp2_with fail
 refine(slices_Clone_Part _ _ _ _ H.out hn).mono ?_;rintro e w1 ⟨v1,F1,rfl,ho,hF,hsub,he⟩;obtain⟨a1,c1,rfl,_⟩:=ho.form;have hcp:=ho.cap;have HO:=zh ho.oh;have HX:=zh (And.intro hF (And.intro hsub he));clear ho hF hsub he;go_wp2_with fail
 refine(slices_Clip_Part _ _ _ _ hcp.1 hcp.2).mono ?_;rintro e w2 ⟨rfl,rfl⟩;go_wp2;go_ret;exact⟨_,F1,rfl,HO.out,HX.out⟩
theorem elChannel:El Tryz.prog 43 Channel:=El.of (z:=.agg #[.int .i64 0,.int .i64 0,.int .i64 0,.int .i64 0]) (n:=4) (b:=32) (by kernel_rfl) rfl rfl (by decide)
theorem slices_Clone_Channel (v:Value) (xs:List Channel) (w:World) (F:List Nat) (h:Sl w v xs F) (hn:xs.length≤100000000) :
  Calls Tryz.prog 177 #[v] w fun e w' => ∃ v' F',e = .returned v'∧Oa 43 w.heap.size w' v' xs F'∧(∀ b∈F',b∈F)∧F'.Sublist F∧Ext w w':=by
 have hnil:∀ (a:Option Addr) (n c:Nat),(binOp .eql 24 (.slice a n c) (.slice none 0 0)).run Tryz.prog w = .ok (.bool a.isNone) w:=fun a n c=>Go.Lib.run_eql_slice_nil w 24 43 a n c 0 0 Tryz.underlying24
 obtain⟨a,c,rfl,hl,hc,⟨rfl,rfl⟩ | ⟨hne,b,o,F',rfl,rfl,hr⟩⟩:=h
 ·cases a with
  | none =>
   go_enter Tryz.func177,Tryz.ntmps177;go_wp2;go_ret;exact⟨_,[],rfl,Oa.nil _ _ _,by simp,by simp,Ext.refl _⟩
  | some p =>
   go_enter Tryz.func177,Tryz.ntmps177;go_wp2;go_ret;exact⟨_,[],rfl,Oa.lit0 _ _,by simp,by simp,(Ext.refl _).alloc _⟩
 ·have hpos:0 < xs.length:=List.length_pos_iff.2 hne;have HR:Hid (∀ ob,Row (w.alloc ob) b o xs F'):=zh (fun ob=>hr.keep (((Ext.refl w).alloc ob).block b (hr.lt hne)) (fun k hk=>((Ext.refl w).alloc ob).block k (hr.inh k hk)))
  have HI:Hid (∀ k∈F',k < w.heap.size):=zh hr.inh;clear hr;go_enter Tryz.func177,Tryz.ntmps177;go_wp2_with (at_builtin;refine wpl_app (α:=Channel) rfl _ _ 24 rfl 43 Tryz.underlying24 elChannel (L:=w.heap.size) (v:=.slice (some ⟨w.heap.size,0,none⟩) 0 0) (xs:=[]) (ys:=xs) rfl (Oa.lit0 _ _) rfl rfl (HR.out _) (by omega) (fun k hk e=>by cases e;exact absurd (HI.out _ hk) (Nat.lt_irrefl _)) (by simp;omega) (by simp) ?_;intro v' w' hO' hgr;have HO2:=zh hO';have HQ2:=zh (Ext.grown ((Ext.refl w).alloc _) hgr (fun k hk=>by cases hk;exact Nat.le_refl _));clear hO' hgr;obtain⟨ao2,co2,rfl,_⟩:=HO2.out.form)
  go_ret;exact⟨_,F',rfl,by simpa using HO2.out,fun b hb=>by simp[hb],List.sublist_cons_self _ _,HQ2.out⟩
theorem slices_Clip_Channel (n c:Nat) (w:World) (a:Option Addr) (hc:n≤c) (hl:c≤9223372036854775807) :
  Calls Tryz.prog 176 #[.slice a n c] w fun e w'=>e = .returned (.slice a n n)∧w=w':=by
 go_enter Tryz.func176,Tryz.ntmps176;go_wp2;go_ret;exact⟨rfl,rfl⟩
theorem impl_clone_Channel (v:Value) (xs:List Channel) (w:World) (F:List Nat) (h:Sl w v xs F) (hn:xs.length≤100000000) :
  Calls Tryz.prog 139 #[v] w fun e w' => ∃ v' F',e = .returned v'∧Oh w.heap.size w' v' xs F'∧(∀ b∈F',b∈F)∧F'.Sublist F∧Ext w w':=by
 obtain⟨a,c,rfl,hl⟩:=Rs.form ⟨F,h⟩;have H:=zh h;clear h;go_enter Tryz.func139,Tryz.ntmps139;go_wp2_with fail
 refine(slices_Clone_Channel _ _ _ _ H.out hn).mono ?_;rintro e w1 ⟨v1,F1,rfl,ho,hF,hsub,he⟩;obtain⟨a1,c1,rfl,_⟩:=ho.form;have hcp:=ho.cap;have HO:=zh ho.oh;have HX:=zh (And.intro hF (And.intro hsub he));clear ho hF hsub he;go_wp2_with fail
 refine(slices_Clip_Channel _ _ _ _ hcp.1 hcp.2).mono ?_;rintro e w2 ⟨rfl,rfl⟩;go_wp2;go_ret;exact⟨_,F1,rfl,HO.out,HX.out⟩
theorem elSlot:El Tryz.prog 102 Slot:=El.of (z:=.agg #[.int .i64 0,.int .i64 0]) (n:=2) (b:=16) (by kernel_rfl) rfl rfl (by decide)
theorem slices_Clone_Slot (v:Value) (xs:List Slot) (w:World) (F:List Nat) (h:Sl w v xs F) (hn:xs.length≤100000000) :
  Calls Tryz.prog 179 #[v] w fun e w' => ∃ v' F',e = .returned v'∧Oa 102 w.heap.size w' v' xs F'∧(∀ b∈F',b∈F)∧F'.Sublist F∧Ext w w':=by
 have hnil:∀ (a:Option Addr) (n c:Nat),(binOp .eql 25 (.slice a n c) (.slice none 0 0)).run Tryz.prog w = .ok (.bool a.isNone) w:=fun a n c=>Go.Lib.run_eql_slice_nil w 25 102 a n c 0 0 Tryz.underlying25
 obtain⟨a,c,rfl,hl,hc,⟨rfl,rfl⟩ | ⟨hne,b,o,F',rfl,rfl,hr⟩⟩:=h
 ·cases a with
  | none =>
   go_enter Tryz.func179,Tryz.ntmps179;go_wp2;go_ret;exact⟨_,[],rfl,Oa.nil _ _ _,by simp,by simp,Ext.refl _⟩
  | some p =>
   go_enter Tryz.func179,Tryz.ntmps179;go_wp2;go_ret;exact⟨_,[],rfl,Oa.lit0 _ _,by simp,by simp,(Ext.refl _).alloc _⟩
 ·have hpos:0 < xs.length:=List.length_pos_iff.2 hne;have HR:Hid (∀ ob,Row (w.alloc ob) b o xs F'):=zh (fun ob=>hr.keep (((Ext.refl w).alloc ob).block b (hr.lt hne)) (fun k hk=>((Ext.refl w).alloc ob).block k (hr.inh k hk)))
  have HI:Hid (∀ k∈F',k < w.heap.size):=zh hr.inh;clear hr;go_enter Tryz.func179,Tryz.ntmps179;go_wp2_with (at_builtin;refine wpl_app (α:=Slot) rfl _ _ 25 rfl 102 Tryz.underlying25 elSlot (L:=w.heap.size) (v:=.slice (some ⟨w.heap.size,0,none⟩) 0 0) (xs:=[]) (ys:=xs) rfl (Oa.lit0 _ _) rfl rfl (HR.out _) (by omega) (fun k hk e=>by cases e;exact absurd (HI.out _ hk) (Nat.lt_irrefl _)) (by simp;omega) (by simp) ?_;intro v' w' hO' hgr;have HO2:=zh hO';have HQ2:=zh (Ext.grown ((Ext.refl w).alloc _) hgr (fun k hk=>by cases hk;exact Nat.le_refl _));clear hO' hgr;obtain⟨ao2,co2,rfl,_⟩:=HO2.out.form)
  go_ret;exact⟨_,F',rfl,by simpa using HO2.out,fun b hb=>by simp[hb],List.sublist_cons_self _ _,HQ2.out⟩
theorem slices_Clip_Slot (n c:Nat) (w:World) (a:Option Addr) (hc:n≤c) (hl:c≤9223372036854775807) :
  Calls Tryz.prog 178 #[.slice a n c] w fun e w'=>e = .returned (.slice a n n)∧w=w':=by
 go_enter Tryz.func178,Tryz.ntmps178;go_wp2;go_ret;exact⟨rfl,rfl⟩
theorem impl_clone_Slot (v:Value) (xs:List Slot) (w:World) (F:List Nat) (h:Sl w v xs F) (hn:xs.length≤100000000) :
  Calls Tryz.prog 140 #[v] w fun e w' => ∃ v' F',e = .returned v'∧Oh w.heap.size w' v' xs F'∧(∀ b∈F',b∈F)∧F'.Sublist F∧Ext w w':=by
 obtain⟨a,c,rfl,hl⟩:=Rs.form ⟨F,h⟩;have H:=zh h;clear h;go_enter Tryz.func140,Tryz.ntmps140;go_wp2_with fail
 refine(slices_Clone_Slot _ _ _ _ H.out hn).mono ?_;rintro e w1 ⟨v1,F1,rfl,ho,hF,hsub,he⟩;obtain⟨a1,c1,rfl,_⟩:=ho.form;have hcp:=ho.cap;have HO:=zh ho.oh;have HX:=zh (And.intro hF (And.intro hsub he));clear ho hF hsub he;go_wp2_with fail
 refine(slices_Clip_Slot _ _ _ _ hcp.1 hcp.2).mono ?_;rintro e w2 ⟨rfl,rfl⟩;go_wp2;go_ret;exact⟨_,F1,rfl,HO.out,HX.out⟩
theorem elOrder:El Tryz.prog 89 Order:=El.of (z:=.agg #[.int .i64 0,.int .i64 0,.int .i64 0]) (n:=3) (b:=24) (by kernel_rfl) rfl rfl (by decide)
theorem slices_Clone_Order (v:Value) (xs:List Order) (w:World) (F:List Nat) (h:Sl w v xs F) (hn:xs.length≤100000000) :
  Calls Tryz.prog 149 #[v] w fun e w' => ∃ v' F',e = .returned v'∧Oa 89 w.heap.size w' v' xs F'∧(∀ b∈F',b∈F)∧F'.Sublist F∧Ext w w':=by
 have hnil:∀ (a:Option Addr) (n c:Nat),(binOp .eql 65 (.slice a n c) (.slice none 0 0)).run Tryz.prog w = .ok (.bool a.isNone) w:=fun a n c=>Go.Lib.run_eql_slice_nil w 65 89 a n c 0 0 Tryz.underlying65
 obtain⟨a,c,rfl,hl,hc,⟨rfl,rfl⟩ | ⟨hne,b,o,F',rfl,rfl,hr⟩⟩:=h
 ·cases a with
  | none =>
   go_enter Tryz.func149,Tryz.ntmps149;go_wp2;go_ret;exact⟨_,[],rfl,Oa.nil _ _ _,by simp,by simp,Ext.refl _⟩
  | some p =>
   go_enter Tryz.func149,Tryz.ntmps149;go_wp2;go_ret;exact⟨_,[],rfl,Oa.lit0 _ _,by simp,by simp,(Ext.refl _).alloc _⟩
 ·have hpos:0 < xs.length:=List.length_pos_iff.2 hne;have HR:Hid (∀ ob,Row (w.alloc ob) b o xs F'):=zh (fun ob=>hr.keep (((Ext.refl w).alloc ob).block b (hr.lt hne)) (fun k hk=>((Ext.refl w).alloc ob).block k (hr.inh k hk)))
  have HI:Hid (∀ k∈F',k < w.heap.size):=zh hr.inh;clear hr;go_enter Tryz.func149,Tryz.ntmps149;go_wp2_with (at_builtin;refine wpl_app (α:=Order) rfl _ _ 65 rfl 89 Tryz.underlying65 elOrder (L:=w.heap.size) (v:=.slice (some ⟨w.heap.size,0,none⟩) 0 0) (xs:=[]) (ys:=xs) rfl (Oa.lit0 _ _) rfl rfl (HR.out _) (by omega) (fun k hk e=>by cases e;exact absurd (HI.out _ hk) (Nat.lt_irrefl _)) (by simp;omega) (by simp) ?_;intro v' w' hO' hgr;have HO2:=zh hO';have HQ2:=zh (Ext.grown ((Ext.refl w).alloc _) hgr (fun k hk=>by cases hk;exact Nat.le_refl _));clear hO' hgr;obtain⟨ao2,co2,rfl,_⟩:=HO2.out.form)
  go_ret;exact⟨_,F',rfl,by simpa using HO2.out,fun b hb=>by simp[hb],List.sublist_cons_self _ _,HQ2.out⟩
theorem slices_Clip_Order (n c:Nat) (w:World) (a:Option Addr) (hc:n≤c) (hl:c≤9223372036854775807) :
  Calls Tryz.prog 148 #[.slice a n c] w fun e w'=>e = .returned (.slice a n n)∧w=w':=by
 go_enter Tryz.func148,Tryz.ntmps148;go_wp2;go_ret;exact⟨rfl,rfl⟩
theorem impl_clone_Order (v:Value) (xs:List Order) (w:World) (F:List Nat) (h:Sl w v xs F) (hn:xs.length≤100000000) :
  Calls Tryz.prog 98 #[v] w fun e w' => ∃ v' F',e = .returned v'∧Oh w.heap.size w' v' xs F'∧(∀ b∈F',b∈F)∧F'.Sublist F∧Ext w w':=by
 obtain⟨a,c,rfl,hl⟩:=Rs.form ⟨F,h⟩;have H:=zh h;clear h;go_enter Tryz.func98,Tryz.ntmps98;go_wp2_with fail
 refine(slices_Clone_Order _ _ _ _ H.out hn).mono ?_;rintro e w1 ⟨v1,F1,rfl,ho,hF,hsub,he⟩;obtain⟨a1,c1,rfl,_⟩:=ho.form;have hcp:=ho.cap;have HO:=zh ho.oh;have HX:=zh (And.intro hF (And.intro hsub he));clear ho hF hsub he;go_wp2_with fail
 refine(slices_Clip_Order _ _ _ _ hcp.1 hcp.2).mono ?_;rintro e w2 ⟨rfl,rfl⟩;go_wp2;go_ret;exact⟨_,F1,rfl,HO.out,HX.out⟩
theorem elOrderS:El Tryz.prog 65 (List Order):=El.of (z:=.slice none 0 0) (n:=1) (b:=24) (by kernel_rfl) rfl rfl (by decide)
theorem slices_Clone_OrderS (v:Value) (xs:List (List Order)) (w:World) (F:List Nat) (h:Sl w v xs F) (hn:xs.length≤100000000) :
  Calls Tryz.prog 143 #[v] w fun e w' => ∃ v' F',e = .returned v'∧Oa 65 w.heap.size w' v' xs F'∧(∀ b∈F',b∈F)∧F'.Sublist F∧Ext w w':=by
 have hnil:∀ (a:Option Addr) (n c:Nat),(binOp .eql 28 (.slice a n c) (.slice none 0 0)).run Tryz.prog w = .ok (.bool a.isNone) w:=fun a n c=>Go.Lib.run_eql_slice_nil w 28 65 a n c 0 0 Tryz.underlying28
 obtain⟨a,c,rfl,hl,hc,⟨rfl,rfl⟩ | ⟨hne,b,o,F',rfl,rfl,hr⟩⟩:=h
 ·cases a with
  | none =>
   go_enter Tryz.func143,Tryz.ntmps143;go_wp2;go_ret;exact⟨_,[],rfl,Oa.nil _ _ _,by simp,by simp,Ext.refl _⟩
  | some p =>
   go_enter Tryz.func143,Tryz.ntmps143;go_wp2;go_ret;exact⟨_,[],rfl,Oa.lit0 _ _,by simp,by simp,(Ext.refl _).alloc _⟩
 ·have hpos:0 < xs.length:=List.length_pos_iff.2 hne;have HR:Hid (∀ ob,Row (w.alloc ob) b o xs F'):=zh (fun ob=>hr.keep (((Ext.refl w).alloc ob).block b (hr.lt hne)) (fun k hk=>((Ext.refl w).alloc ob).block k (hr.inh k hk)))
  have HI:Hid (∀ k∈F',k < w.heap.size):=zh hr.inh;clear hr;go_enter Tryz.func143,Tryz.ntmps143;go_wp2_with (at_builtin;refine wpl_app (α:=(List Order)) rfl _ _ 28 rfl 65 Tryz.underlying28 elOrderS (L:=w.heap.size) (v:=.slice (some ⟨w.heap.size,0,none⟩) 0 0) (xs:=[]) (ys:=xs) rfl (Oa.lit0 _ _) rfl rfl (HR.out _) (by omega) (fun k hk e=>by cases e;exact absurd (HI.out _ hk) (Nat.lt_irrefl _)) (by simp;omega) (by simp) ?_;intro v' w' hO' hgr;have HO2:=zh hO';have HQ2:=zh (Ext.grown ((Ext.refl w).alloc _) hgr (fun k hk=>by cases hk;exact Nat.le_refl _));clear hO' hgr;obtain⟨ao2,co2,rfl,_⟩:=HO2.out.form)
  go_ret;exact⟨_,F',rfl,by simpa using HO2.out,fun b hb=>by simp[hb],List.sublist_cons_self _ _,HQ2.out⟩
theorem slices_Clip_OrderS (n c:Nat) (w:World) (a:Option Addr) (hc:n≤c) (hl:c≤9223372036854775807) :
  Calls Tryz.prog 142 #[.slice a n c] w fun e w'=>e = .returned (.slice a n n)∧w=w':=by
 go_enter Tryz.func142,Tryz.ntmps142;go_wp2;go_ret;exact⟨rfl,rfl⟩
theorem impl_clone_OrderS (v:Value) (xs:List (List Order)) (w:World) (F:List Nat) (h:Sl w v xs F) (hn:xs.length≤100000000) :
  Calls Tryz.prog 95 #[v] w fun e w' => ∃ v' F',e = .returned v'∧Oh w.heap.size w' v' xs F'∧(∀ b∈F',b∈F)∧F'.Sublist F∧Ext w w':=by
 obtain⟨a,c,rfl,hl⟩:=Rs.form ⟨F,h⟩;have H:=zh h;clear h;go_enter Tryz.func95,Tryz.ntmps95;go_wp2_with fail
 refine(slices_Clone_OrderS _ _ _ _ H.out hn).mono ?_;rintro e w1 ⟨v1,F1,rfl,ho,hF,hsub,he⟩;obtain⟨a1,c1,rfl,_⟩:=ho.form;have hcp:=ho.cap;have HO:=zh ho.oh;have HX:=zh (And.intro hF (And.intro hsub he));clear ho hF hsub he;go_wp2_with fail
 refine(slices_Clip_OrderS _ _ _ _ hcp.1 hcp.2).mono ?_;rintro e w2 ⟨rfl,rfl⟩;go_wp2;go_ret;exact⟨_,F1,rfl,HO.out,HX.out⟩
theorem elCore:El Tryz.prog 41 Core:=El.of (z:=.agg #[.slice none 0 0,.int .i64 0,.bool false]) (n:=3) (b:=40) (by kernel_rfl) rfl rfl (by decide)
theorem slices_Clone_Core (v:Value) (xs:List Core) (w:World) (F:List Nat) (h:Sl w v xs F) (hn:xs.length≤100000000) :
  Calls Tryz.prog 145 #[v] w fun e w' => ∃ v' F',e = .returned v'∧Oa 41 w.heap.size w' v' xs F'∧(∀ b∈F',b∈F)∧F'.Sublist F∧Ext w w':=by
 have hnil:∀ (a:Option Addr) (n c:Nat),(binOp .eql 29 (.slice a n c) (.slice none 0 0)).run Tryz.prog w = .ok (.bool a.isNone) w:=fun a n c=>Go.Lib.run_eql_slice_nil w 29 41 a n c 0 0 Tryz.underlying29
 obtain⟨a,c,rfl,hl,hc,⟨rfl,rfl⟩ | ⟨hne,b,o,F',rfl,rfl,hr⟩⟩:=h
 ·cases a with
  | none =>
   go_enter Tryz.func145,Tryz.ntmps145;go_wp2;go_ret;exact⟨_,[],rfl,Oa.nil _ _ _,by simp,by simp,Ext.refl _⟩
  | some p =>
   go_enter Tryz.func145,Tryz.ntmps145;go_wp2;go_ret;exact⟨_,[],rfl,Oa.lit0 _ _,by simp,by simp,(Ext.refl _).alloc _⟩
 ·have hpos:0 < xs.length:=List.length_pos_iff.2 hne;have HR:Hid (∀ ob,Row (w.alloc ob) b o xs F'):=zh (fun ob=>hr.keep (((Ext.refl w).alloc ob).block b (hr.lt hne)) (fun k hk=>((Ext.refl w).alloc ob).block k (hr.inh k hk)))
  have HI:Hid (∀ k∈F',k < w.heap.size):=zh hr.inh;clear hr;go_enter Tryz.func145,Tryz.ntmps145;go_wp2_with (at_builtin;refine wpl_app (α:=Core) rfl _ _ 29 rfl 41 Tryz.underlying29 elCore (L:=w.heap.size) (v:=.slice (some ⟨w.heap.size,0,none⟩) 0 0) (xs:=[]) (ys:=xs) rfl (Oa.lit0 _ _) rfl rfl (HR.out _) (by omega) (fun k hk e=>by cases e;exact absurd (HI.out _ hk) (Nat.lt_irrefl _)) (by simp;omega) (by simp) ?_;intro v' w' hO' hgr;have HO2:=zh hO';have HQ2:=zh (Ext.grown ((Ext.refl w).alloc _) hgr (fun k hk=>by cases hk;exact Nat.le_refl _));clear hO' hgr;obtain⟨ao2,co2,rfl,_⟩:=HO2.out.form)
  go_ret;exact⟨_,F',rfl,by simpa using HO2.out,fun b hb=>by simp[hb],List.sublist_cons_self _ _,HQ2.out⟩
theorem slices_Clip_Core (n c:Nat) (w:World) (a:Option Addr) (hc:n≤c) (hl:c≤9223372036854775807) :
  Calls Tryz.prog 144 #[.slice a n c] w fun e w'=>e = .returned (.slice a n n)∧w=w':=by
 go_enter Tryz.func144,Tryz.ntmps144;go_wp2;go_ret;exact⟨rfl,rfl⟩
theorem impl_clone_Core (v:Value) (xs:List Core) (w:World) (F:List Nat) (h:Sl w v xs F) (hn:xs.length≤100000000) :
  Calls Tryz.prog 96 #[v] w fun e w' => ∃ v' F',e = .returned v'∧Oh w.heap.size w' v' xs F'∧(∀ b∈F',b∈F)∧F'.Sublist F∧Ext w w':=by
 obtain⟨a,c,rfl,hl⟩:=Rs.form ⟨F,h⟩;have H:=zh h;clear h;go_enter Tryz.func96,Tryz.ntmps96;go_wp2_with fail
 refine(slices_Clone_Core _ _ _ _ H.out hn).mono ?_;rintro e w1 ⟨v1,F1,rfl,ho,hF,hsub,he⟩;obtain⟨a1,c1,rfl,_⟩:=ho.form;have hcp:=ho.cap;have HO:=zh ho.oh;have HX:=zh (And.intro hF (And.intro hsub he));clear ho hF hsub he;go_wp2_with fail
 refine(slices_Clip_Core _ _ _ _ hcp.1 hcp.2).mono ?_;rintro e w2 ⟨rfl,rfl⟩;go_wp2;go_ret;exact⟨_,F1,rfl,HO.out,HX.out⟩
theorem elHold:El Tryz.prog 45 Hold:=El.of (z:=.agg #[.slice none 0 0]) (n:=1) (b:=24) (by kernel_rfl) rfl rfl (by decide)
theorem slices_Clone_Hold (v:Value) (xs:List Hold) (w:World) (F:List Nat) (h:Sl w v xs F) (hn:xs.length≤100000000) :
  Calls Tryz.prog 147 #[v] w fun e w' => ∃ v' F',e = .returned v'∧Oa 45 w.heap.size w' v' xs F'∧(∀ b∈F',b∈F)∧F'.Sublist F∧Ext w w':=by
 have hnil:∀ (a:Option Addr) (n c:Nat),(binOp .eql 30 (.slice a n c) (.slice none 0 0)).run Tryz.prog w = .ok (.bool a.isNone) w:=fun a n c=>Go.Lib.run_eql_slice_nil w 30 45 a n c 0 0 Tryz.underlying30
 obtain⟨a,c,rfl,hl,hc,⟨rfl,rfl⟩ | ⟨hne,b,o,F',rfl,rfl,hr⟩⟩:=h
 ·cases a with
  | none =>
   go_enter Tryz.func147,Tryz.ntmps147;go_wp2;go_ret;exact⟨_,[],rfl,Oa.nil _ _ _,by simp,by simp,Ext.refl _⟩
  | some p =>
   go_enter Tryz.func147,Tryz.ntmps147;go_wp2;go_ret;exact⟨_,[],rfl,Oa.lit0 _ _,by simp,by simp,(Ext.refl _).alloc _⟩
 ·have hpos:0 < xs.length:=List.length_pos_iff.2 hne;have HR:Hid (∀ ob,Row (w.alloc ob) b o xs F'):=zh (fun ob=>hr.keep (((Ext.refl w).alloc ob).block b (hr.lt hne)) (fun k hk=>((Ext.refl w).alloc ob).block k (hr.inh k hk)))
  have HI:Hid (∀ k∈F',k < w.heap.size):=zh hr.inh;clear hr;go_enter Tryz.func147,Tryz.ntmps147;go_wp2_with (at_builtin;refine wpl_app (α:=Hold) rfl _ _ 30 rfl 45 Tryz.underlying30 elHold (L:=w.heap.size) (v:=.slice (some ⟨w.heap.size,0,none⟩) 0 0) (xs:=[]) (ys:=xs) rfl (Oa.lit0 _ _) rfl rfl (HR.out _) (by omega) (fun k hk e=>by cases e;exact absurd (HI.out _ hk) (Nat.lt_irrefl _)) (by simp;omega) (by simp) ?_;intro v' w' hO' hgr;have HO2:=zh hO';have HQ2:=zh (Ext.grown ((Ext.refl w).alloc _) hgr (fun k hk=>by cases hk;exact Nat.le_refl _));clear hO' hgr;obtain⟨ao2,co2,rfl,_⟩:=HO2.out.form)
  go_ret;exact⟨_,F',rfl,by simpa using HO2.out,fun b hb=>by simp[hb],List.sublist_cons_self _ _,HQ2.out⟩
theorem slices_Clip_Hold (n c:Nat) (w:World) (a:Option Addr) (hc:n≤c) (hl:c≤9223372036854775807) :
  Calls Tryz.prog 146 #[.slice a n c] w fun e w'=>e = .returned (.slice a n n)∧w=w':=by
 go_enter Tryz.func146,Tryz.ntmps146;go_wp2;go_ret;exact⟨rfl,rfl⟩
theorem impl_clone_Hold (v:Value) (xs:List Hold) (w:World) (F:List Nat) (h:Sl w v xs F) (hn:xs.length≤100000000) :
  Calls Tryz.prog 97 #[v] w fun e w' => ∃ v' F',e = .returned v'∧Oh w.heap.size w' v' xs F'∧(∀ b∈F',b∈F)∧F'.Sublist F∧Ext w w':=by
 obtain⟨a,c,rfl,hl⟩:=Rs.form ⟨F,h⟩;have H:=zh h;clear h;go_enter Tryz.func97,Tryz.ntmps97;go_wp2_with fail
 refine(slices_Clone_Hold _ _ _ _ H.out hn).mono ?_;rintro e w1 ⟨v1,F1,rfl,ho,hF,hsub,he⟩;obtain⟨a1,c1,rfl,_⟩:=ho.form;have hcp:=ho.cap;have HO:=zh ho.oh;have HX:=zh (And.intro hF (And.intro hsub he));clear ho hF hsub he;go_wp2_with fail
 refine(slices_Clip_Hold _ _ _ _ hcp.1 hcp.2).mono ?_;rintro e w2 ⟨rfl,rfl⟩;go_wp2;go_ret;exact⟨_,F1,rfl,HO.out,HX.out⟩
end Sk
