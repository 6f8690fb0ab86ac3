/- Contracts of functions of the given program. -/
import Derived.Lib.SliceRun
import Derived.Test.YtcghnbjifpfbjaaGreatNums
namespace Sk
open Go Go.Proofs Go.RowKit
set_option maxHeartbeats 400000
set_option maxRecDepth 100000
set_option linter.unusedVariables false
set_option linter.unusedSimpArgs false
def Oh{α:Type}[GT α](L:Nat)(w:World)(v:Value)(xs:List α)(F:List Nat):Prop :=
 (v = .slice none 0 0/\xs = []/\F = [])\/∃ g,v = .slice (some ⟨g,0,none⟩) xs.length xs.length/\L<=g/\Fz w g/\xs.length<=maxLen/\Row w g 0 xs F/\g ∉ F
theorem Oa.oh{α:Type}[GT α]{e:TypeId}{L:Nat}{w:World}{a:Option Addr}{n c:Nat}{xs:List α}{F:List Nat}(h:Oa e L w (.slice a n c) xs F):Oh L w (.slice a n n) xs F:=by
 rcases h with ⟨h,rfl,rfl⟩ | ⟨g,cap,cur,h,hL,hg,hl,hc,hs,hr,hn⟩
 ·cases h;exact .inl ⟨rfl,rfl,rfl⟩
 ·cases h;exact .inr ⟨g,rfl,hL,⟨_,_,Bk.ofA hg⟩,Nat.le_trans hl hc,hr,hn⟩
theorem Oh.os{α:Type}[GT α]{L:Nat}{w:World}{v:Value}{xs:List α}(h:Oh L w v xs []):Os L w v xs:=by
 rcases h with ⟨rfl,rfl,_⟩ | ⟨g,rfl,hL,hz,hl,hr,_⟩
 ·exact⟨[],⟨none,0,rfl,Nat.le_refl _,Nat.zero_le _,.inl ⟨rfl,rfl⟩⟩,Own.nil _ _⟩
 ·by_cases hx:xs = []
  ·subst hx;exact⟨[],⟨some ⟨g,0,none⟩,0,rfl,Nat.le_refl _,Nat.zero_le _,.inl ⟨rfl,rfl⟩⟩,Own.nil _ _⟩
  ·exact⟨[g],⟨_,_,rfl,Nat.le_refl _,hl,.inr ⟨hx,g,0,[],rfl,rfl,hr⟩⟩,by simp,fun b hb=>by rw[List.mem_singleton] at hb;subst hb;exact⟨hL,hz⟩⟩
theorem zI4(v:Value)(xs:List Int)(w:World)(F:List Nat)(h:Sl w v xs F)(hn:xs.length<=100000000) :
  Calls Tryz.prog 117 #[v] w fun e w' => ∃ v' F',e = .returned v'/\Oa 3 w.heap.size w' v' xs F'/\(∀ b∈F',b∈F)/\F'.Sublist F/\Ext w w':=by
 have hnil:∀ (a:Option Addr) (n c:Nat),(binOp .eql 41 (.slice a n c) (.slice none 0 0)).run Tryz.prog w = .ok (.bool a.isNone) w:=fun a n c=>Go.Lib.run_eql_slice_nil w 41 3 a n c 0 0 Tryz.underlying41
 obtain⟨a,c,rfl,hl,hc,⟨rfl,rfl⟩ | ⟨hne,b,o,F',rfl,rfl,hr⟩⟩:=h
 ·cases a with
  | none =>
   go_enter Tryz.func117,Tryz.ntmps117;go_wp2;go_ret;exact⟨_,[],rfl,Oa.nil _ _ _,by simp,by simp,zr _⟩
  | some p =>
   go_enter Tryz.func117,Tryz.ntmps117;go_wp2;go_ret;exact⟨_,[],rfl,Oa.lit0 _ _,by simp,by simp,(zr _).alloc _⟩
 ·have hpos:0 < xs.length:=List.length_pos_iff.2 hne;have HR:Hid (∀ ob,Row (w.alloc ob) b o xs F'):=zh (fun ob=>hr.keep (((zr w).alloc ob).block b (hr.lt hne)) (fun k hk=>((zr w).alloc ob).block k (hr.inh k hk)))
  have HI:Hid (∀ k∈F',k < w.heap.size):=zh hr.inh;clear hr;go_enter Tryz.func117,Tryz.ntmps117;go_wp2_with (at_builtin;refine zCq (α:=Int) rfl _ _ 41 rfl 3 Tryz.underlying41 zBy (L:=w.heap.size) (v:=.slice (some ⟨w.heap.size,0,none⟩) 0 0) (xs:=[]) (ys:=xs) rfl (Oa.lit0 _ _) rfl rfl (HR.out _) (by omega) (fun k hk e=>by cases e;exact absurd (HI.out _ hk) (Nat.lt_irrefl _)) (by simp;omega) (by simp) ?_;intro v' w' hO' hgr;have HO2:=zh hO';have HQ2:=zh (Ext.grown ((zr w).alloc _) hgr (fun k hk=>by cases hk;exact Nat.le_refl _));clear hO' hgr;obtain⟨ao2,co2,rfl,_⟩:=HO2.out.form)
  go_ret;exact⟨_,F',rfl,by simpa using HO2.out,fun b hb=>by simp[hb],List.sublist_cons_self _ _,HQ2.out⟩
theorem zJj(v:Value)(xs:List Int)(w:World)(F:List Nat)(h:Sl w v xs F)(hn:xs.length<=100000000) :
  Calls Tryz.prog 71 #[v] w fun e w' => ∃ v' F',e = .returned v'/\Oh w.heap.size w' v' xs F'/\(∀ b∈F',b∈F)/\F'.Sublist F/\Ext w w':=by
 obtain⟨a,c,rfl,hl⟩:=Rs.form ⟨F,h⟩;have H:=zh h;clear h;go_enter Tryz.func71,Tryz.ntmps71;go_wp2_with fail
 refine(zI4 _ _ _ _ H.out hn).mono ?_;rintro e w1 ⟨v1,F1,rfl,ho,hF,hsub,he⟩;obtain⟨a1,c1,rfl,_⟩:=ho.form;have hcp:=ho.cap;have HO:=zh ho.oh;have HX:=zh (And.intro hF (And.intro hsub he));clear ho hF hsub he;go_wp2_with fail
 refine(zCn _ xs _ _ _ rfl hcp.1 hcp.2).mono ?_;rintro e w2 ⟨rfl,rfl⟩;go_wp2;go_ret;exact⟨_,F1,rfl,HO.out,HX.out⟩
theorem zKl:El Tryz.prog 71 Window:=El.of (z:=.agg #[.int .i64 0,.int .i64 0,.bool false]) (n:=3) (b:=24) (by kernel_rfl) rfl rfl (by decide)
theorem zG8(v:Value)(xs:List Window)(w:World)(F:List Nat)(h:Sl w v xs F)(hn:xs.length<=100000000) :
  Calls Tryz.prog 149 #[v] w fun e w' => ∃ v' F',e = .returned v'/\Oa 71 w.heap.size w' v' xs F'/\(∀ b∈F',b∈F)/\F'.Sublist F/\Ext w w':=by
 have hnil:∀ (a:Option Addr) (n c:Nat),(binOp .eql 72 (.slice a n c) (.slice none 0 0)).run Tryz.prog w = .ok (.bool a.isNone) w:=fun a n c=>Go.Lib.run_eql_slice_nil w 72 71 a n c 0 0 Tryz.underlying72
 obtain⟨a,c,rfl,hl,hc,⟨rfl,rfl⟩ | ⟨hne,b,o,F',rfl,rfl,hr⟩⟩:=h
 ·cases a with
  | none =>
   go_enter Tryz.func149,Tryz.ntmps149;go_wp2;go_ret;exact⟨_,[],rfl,Oa.nil _ _ _,by simp,by simp,zr _⟩
  | some p =>
   go_enter Tryz.func149,Tryz.ntmps149;go_wp2;go_ret;exact⟨_,[],rfl,Oa.lit0 _ _,by simp,by simp,(zr _).alloc _⟩
 ·have hpos:0 < xs.length:=List.length_pos_iff.2 hne;have HR:Hid (∀ ob,Row (w.alloc ob) b o xs F'):=zh (fun ob=>hr.keep (((zr w).alloc ob).block b (hr.lt hne)) (fun k hk=>((zr w).alloc ob).block k (hr.inh k hk)))
  have HI:Hid (∀ k∈F',k < w.heap.size):=zh hr.inh;clear hr;go_enter Tryz.func149,Tryz.ntmps149;go_wp2_with (at_builtin;refine zCq (α:=Window) rfl _ _ 72 rfl 71 Tryz.underlying72 zKl (L:=w.heap.size) (v:=.slice (some ⟨w.heap.size,0,none⟩) 0 0) (xs:=[]) (ys:=xs) rfl (Oa.lit0 _ _) rfl rfl (HR.out _) (by omega) (fun k hk e=>by cases e;exact absurd (HI.out _ hk) (Nat.lt_irrefl _)) (by simp;omega) (by simp) ?_;intro v' w' hO' hgr;have HO2:=zh hO';have HQ2:=zh (Ext.grown ((zr w).alloc _) hgr (fun k hk=>by cases hk;exact Nat.le_refl _));clear hO' hgr;obtain⟨ao2,co2,rfl,_⟩:=HO2.out.form)
  go_ret;exact⟨_,F',rfl,by simpa using HO2.out,fun b hb=>by simp[hb],List.sublist_cons_self _ _,HQ2.out⟩
theorem zGo(n c:Nat)(w:World)(a:Option Addr)(hc:n<=c)(hl:c<=9223372036854775807) :
  Calls Tryz.prog 148 #[.slice a n c] w fun e w'=>e = .returned (.slice a n n)/\w=w':=by
 go_enter Tryz.func148,Tryz.ntmps148;go_wp2;go_ret;exact⟨rfl,rfl⟩
theorem zH4(v:Value)(xs:List Window)(w:World)(F:List Nat)(h:Sl w v xs F)(hn:xs.length<=100000000) :
  Calls Tryz.prog 108 #[v] w fun e w' => ∃ v' F',e = .returned v'/\Oh w.heap.size w' v' xs F'/\(∀ b∈F',b∈F)/\F'.Sublist F/\Ext w w':=by
 obtain⟨a,c,rfl,hl⟩:=Rs.form ⟨F,h⟩;have H:=zh h;clear h;go_enter Tryz.func108,Tryz.ntmps108;go_wp2_with fail
 refine(zG8 _ _ _ _ H.out hn).mono ?_;rintro e w1 ⟨v1,F1,rfl,ho,hF,hsub,he⟩;obtain⟨a1,c1,rfl,_⟩:=ho.form;have hcp:=ho.cap;have HO:=zh ho.oh;have HX:=zh (And.intro hF (And.intro hsub he));clear ho hF hsub he;go_wp2_with fail
 refine(zGo _ _ _ _ hcp.1 hcp.2).mono ?_;rintro e w2 ⟨rfl,rfl⟩;go_wp2;go_ret;exact⟨_,F1,rfl,HO.out,HX.out⟩
theorem zNt:El Tryz.prog 80 Part:=El.of (z:=.agg #[.slice none 0 0,.int .i64 0]) (n:=2) (b:=32) (by kernel_rfl) rfl rfl (by decide)
theorem zH9(v:Value)(xs:List Part)(w:World)(F:List Nat)(h:Sl w v xs F)(hn:xs.length<=100000000) :
  Calls Tryz.prog 143 #[v] w fun e w' => ∃ v' F',e = .returned v'/\Oa 80 w.heap.size w' v' xs F'/\(∀ b∈F',b∈F)/\F'.Sublist F/\Ext w w':=by
 have hnil:∀ (a:Option Addr) (n c:Nat),(binOp .eql 23 (.slice a n c) (.slice none 0 0)).run Tryz.prog w = .ok (.bool a.isNone) w:=fun a n c=>Go.Lib.run_eql_slice_nil w 23 80 a n c 0 0 Tryz.underlying23
 obtain⟨a,c,rfl,hl,hc,⟨rfl,rfl⟩ | ⟨hne,b,o,F',rfl,rfl,hr⟩⟩:=h
 ·cases a with
  | none =>
   go_enter Tryz.func143,Tryz.ntmps143;go_wp2;go_ret;exact⟨_,[],rfl,Oa.nil _ _ _,by simp,by simp,zr _⟩
  | some p =>
   go_enter Tryz.func143,Tryz.ntmps143;go_wp2;go_ret;exact⟨_,[],rfl,Oa.lit0 _ _,by simp,by simp,(zr _).alloc _⟩
 ·have hpos:0 < xs.length:=List.length_pos_iff.2 hne;have HR:Hid (∀ ob,Row (w.alloc ob) b o xs F'):=zh (fun ob=>hr.keep (((zr w).alloc ob).block b (hr.lt hne)) (fun k hk=>((zr w).alloc ob).block k (hr.inh k hk)))
  have HI:Hid (∀ k∈F',k < w.heap.size):=zh hr.inh;clear hr;go_enter Tryz.func143,Tryz.ntmps143;go_wp2_with (at_builtin;refine zCq (α:=Part) rfl _ _ 23 rfl 80 Tryz.underlying23 zNt (L:=w.heap.size) (v:=.slice (some ⟨w.heap.size,0,none⟩) 0 0) (xs:=[]) (ys:=xs) rfl (Oa.lit0 _ _) rfl rfl (HR.out _) (by omega) (fun k hk e=>by cases e;exact absurd (HI.out _ hk) (Nat.lt_irrefl _)) (by simp;omega) (by simp) ?_;intro v' w' hO' hgr;have HO2:=zh hO';have HQ2:=zh (Ext.grown ((zr w).alloc _) hgr (fun k hk=>by cases hk;exact Nat.le_refl _));clear hO' hgr;obtain⟨ao2,co2,rfl,_⟩:=HO2.out.form)
  go_ret;exact⟨_,F',rfl,by simpa using HO2.out,fun b hb=>by simp[hb],List.sublist_cons_self _ _,HQ2.out⟩
theorem zI2(n c:Nat)(w:World)(a:Option Addr)(hc:n<=c)(hl:c<=9223372036854775807) :
  Calls Tryz.prog 142 #[.slice a n c] w fun e w'=>e = .returned (.slice a n n)/\w=w':=by
 go_enter Tryz.func142,Tryz.ntmps142;go_wp2;go_ret;exact⟨rfl,rfl⟩
theorem zJ0(v:Value)(xs:List Part)(w:World)(F:List Nat)(h:Sl w v xs F)(hn:xs.length<=100000000) :
  Calls Tryz.prog 105 #[v] w fun e w' => ∃ v' F',e = .returned v'/\Oh w.heap.size w' v' xs F'/\(∀ b∈F',b∈F)/\F'.Sublist F/\Ext w w':=by
 obtain⟨a,c,rfl,hl⟩:=Rs.form ⟨F,h⟩;have H:=zh h;clear h;go_enter Tryz.func105,Tryz.ntmps105;go_wp2_with fail
 refine(zH9 _ _ _ _ H.out hn).mono ?_;rintro e w1 ⟨v1,F1,rfl,ho,hF,hsub,he⟩;obtain⟨a1,c1,rfl,_⟩:=ho.form;have hcp:=ho.cap;have HO:=zh ho.oh;have HX:=zh (And.intro hF (And.intro hsub he));clear ho hF hsub he;go_wp2_with fail
 refine(zI2 _ _ _ _ hcp.1 hcp.2).mono ?_;rintro e w2 ⟨rfl,rfl⟩;go_wp2;go_ret;exact⟨_,F1,rfl,HO.out,HX.out⟩
theorem zIs:El Tryz.prog 65 Channel:=El.of (z:=.agg #[.int .i64 0,.int .i64 0,.int .i64 0,.int .i64 0]) (n:=4) (b:=32) (by kernel_rfl) rfl rfl (by decide)
theorem zFk(v:Value)(xs:List Channel)(w:World)(F:List Nat)(h:Sl w v xs F)(hn:xs.length<=100000000) :
  Calls Tryz.prog 145 #[v] w fun e w' => ∃ v' F',e = .returned v'/\Oa 65 w.heap.size w' v' xs F'/\(∀ b∈F',b∈F)/\F'.Sublist F/\Ext w w':=by
 have hnil:∀ (a:Option Addr) (n c:Nat),(binOp .eql 24 (.slice a n c) (.slice none 0 0)).run Tryz.prog w = .ok (.bool a.isNone) w:=fun a n c=>Go.Lib.run_eql_slice_nil w 24 65 a n c 0 0 Tryz.underlying24
 obtain⟨a,c,rfl,hl,hc,⟨rfl,rfl⟩ | ⟨hne,b,o,F',rfl,rfl,hr⟩⟩:=h
 ·cases a with
  | none =>
   go_enter Tryz.func145,Tryz.ntmps145;go_wp2;go_ret;exact⟨_,[],rfl,Oa.nil _ _ _,by simp,by simp,zr _⟩
  | some p =>
   go_enter Tryz.func145,Tryz.ntmps145;go_wp2;go_ret;exact⟨_,[],rfl,Oa.lit0 _ _,by simp,by simp,(zr _).alloc _⟩
 ·have hpos:0 < xs.length:=List.length_pos_iff.2 hne;have HR:Hid (∀ ob,Row (w.alloc ob) b o xs F'):=zh (fun ob=>hr.keep (((zr w).alloc ob).block b (hr.lt hne)) (fun k hk=>((zr w).alloc ob).block k (hr.inh k hk)))
  have HI:Hid (∀ k∈F',k < w.heap.size):=zh hr.inh;clear hr;go_enter Tryz.func145,Tryz.ntmps145;go_wp2_with (at_builtin;refine zCq (α:=Channel) rfl _ _ 24 rfl 65 Tryz.underlying24 zIs (L:=w.heap.size) (v:=.slice (some ⟨w.heap.size,0,none⟩) 0 0) (xs:=[]) (ys:=xs) rfl (Oa.lit0 _ _) rfl rfl (HR.out _) (by omega) (fun k hk e=>by cases e;exact absurd (HI.out _ hk) (Nat.lt_irrefl _)) (by simp;omega) (by simp) ?_;intro v' w' hO' hgr;have HO2:=zh hO';have HQ2:=zh (Ext.grown ((zr w).alloc _) hgr (fun k hk=>by cases hk;exact Nat.le_refl _));clear hO' hgr;obtain⟨ao2,co2,rfl,_⟩:=HO2.out.form)
  go_ret;exact⟨_,F',rfl,by simpa using HO2.out,fun b hb=>by simp[hb],List.sublist_cons_self _ _,HQ2.out⟩
theorem zG6(n c:Nat)(w:World)(a:Option Addr)(hc:n<=c)(hl:c<=9223372036854775807) :
  Calls Tryz.prog 144 #[.slice a n c] w fun e w'=>e = .returned (.slice a n n)/\w=w':=by
 go_enter Tryz.func144,Tryz.ntmps144;go_wp2;go_ret;exact⟨rfl,rfl⟩
theorem zGm(v:Value)(xs:List Channel)(w:World)(F:List Nat)(h:Sl w v xs F)(hn:xs.length<=100000000) :
  Calls Tryz.prog 106 #[v] w fun e w' => ∃ v' F',e = .returned v'/\Oh w.heap.size w' v' xs F'/\(∀ b∈F',b∈F)/\F'.Sublist F/\Ext w w':=by
 obtain⟨a,c,rfl,hl⟩:=Rs.form ⟨F,h⟩;have H:=zh h;clear h;go_enter Tryz.func106,Tryz.ntmps106;go_wp2_with fail
 refine(zFk _ _ _ _ H.out hn).mono ?_;rintro e w1 ⟨v1,F1,rfl,ho,hF,hsub,he⟩;obtain⟨a1,c1,rfl,_⟩:=ho.form;have hcp:=ho.cap;have HO:=zh ho.oh;have HX:=zh (And.intro hF (And.intro hsub he));clear ho hF hsub he;go_wp2_with fail
 refine(zG6 _ _ _ _ hcp.1 hcp.2).mono ?_;rintro e w2 ⟨rfl,rfl⟩;go_wp2;go_ret;exact⟨_,F1,rfl,HO.out,HX.out⟩
theorem zNu:El Tryz.prog 93 Slot:=El.of (z:=.agg #[.int .i64 0,.int .i64 0]) (n:=2) (b:=16) (by kernel_rfl) rfl rfl (by decide)
theorem zHa(v:Value)(xs:List Slot)(w:World)(F:List Nat)(h:Sl w v xs F)(hn:xs.length<=100000000) :
  Calls Tryz.prog 147 #[v] w fun e w' => ∃ v' F',e = .returned v'/\Oa 93 w.heap.size w' v' xs F'/\(∀ b∈F',b∈F)/\F'.Sublist F/\Ext w w':=by
 have hnil:∀ (a:Option Addr) (n c:Nat),(binOp .eql 25 (.slice a n c) (.slice none 0 0)).run Tryz.prog w = .ok (.bool a.isNone) w:=fun a n c=>Go.Lib.run_eql_slice_nil w 25 93 a n c 0 0 Tryz.underlying25
 obtain⟨a,c,rfl,hl,hc,⟨rfl,rfl⟩ | ⟨hne,b,o,F',rfl,rfl,hr⟩⟩:=h
 ·cases a with
  | none =>
   go_enter Tryz.func147,Tryz.ntmps147;go_wp2;go_ret;exact⟨_,[],rfl,Oa.nil _ _ _,by simp,by simp,zr _⟩
  | some p =>
   go_enter Tryz.func147,Tryz.ntmps147;go_wp2;go_ret;exact⟨_,[],rfl,Oa.lit0 _ _,by simp,by simp,(zr _).alloc _⟩
 ·have hpos:0 < xs.length:=List.length_pos_iff.2 hne;have HR:Hid (∀ ob,Row (w.alloc ob) b o xs F'):=zh (fun ob=>hr.keep (((zr w).alloc ob).block b (hr.lt hne)) (fun k hk=>((zr w).alloc ob).block k (hr.inh k hk)))
  have HI:Hid (∀ k∈F',k < w.heap.size):=zh hr.inh;clear hr;go_enter Tryz.func147,Tryz.ntmps147;go_wp2_with (at_builtin;refine zCq (α:=Slot) rfl _ _ 25 rfl 93 Tryz.underlying25 zNu (L:=w.heap.size) (v:=.slice (some ⟨w.heap.size,0,none⟩) 0 0) (xs:=[]) (ys:=xs) rfl (Oa.lit0 _ _) rfl rfl (HR.out _) (by omega) (fun k hk e=>by cases e;exact absurd (HI.out _ hk) (Nat.lt_irrefl _)) (by simp;omega) (by simp) ?_;intro v' w' hO' hgr;have HO2:=zh hO';have HQ2:=zh (Ext.grown ((zr w).alloc _) hgr (fun k hk=>by cases hk;exact Nat.le_refl _));clear hO' hgr;obtain⟨ao2,co2,rfl,_⟩:=HO2.out.form)
  go_ret;exact⟨_,F',rfl,by simpa using HO2.out,fun b hb=>by simp[hb],List.sublist_cons_self _ _,HQ2.out⟩
theorem zI3(n c:Nat)(w:World)(a:Option Addr)(hc:n<=c)(hl:c<=9223372036854775807) :
  Calls Tryz.prog 146 #[.slice a n c] w fun e w'=>e = .returned (.slice a n n)/\w=w':=by
 go_enter Tryz.func146,Tryz.ntmps146;go_wp2;go_ret;exact⟨rfl,rfl⟩
theorem zJ1(v:Value)(xs:List Slot)(w:World)(F:List Nat)(h:Sl w v xs F)(hn:xs.length<=100000000) :
  Calls Tryz.prog 107 #[v] w fun e w' => ∃ v' F',e = .returned v'/\Oh w.heap.size w' v' xs F'/\(∀ b∈F',b∈F)/\F'.Sublist F/\Ext w w':=by
 obtain⟨a,c,rfl,hl⟩:=Rs.form ⟨F,h⟩;have H:=zh h;clear h;go_enter Tryz.func107,Tryz.ntmps107;go_wp2_with fail
 refine(zHa _ _ _ _ H.out hn).mono ?_;rintro e w1 ⟨v1,F1,rfl,ho,hF,hsub,he⟩;obtain⟨a1,c1,rfl,_⟩:=ho.form;have hcp:=ho.cap;have HO:=zh ho.oh;have HX:=zh (And.intro hF (And.intro hsub he));clear ho hF hsub he;go_wp2_with fail
 refine(zI3 _ _ _ _ hcp.1 hcp.2).mono ?_;rintro e w2 ⟨rfl,rfl⟩;go_wp2;go_ret;exact⟨_,F1,rfl,HO.out,HX.out⟩
theorem zLw:El Tryz.prog 63 Order:=El.of (z:=.agg #[.int .i64 0,.int .i64 0,.int .i64 0]) (n:=3) (b:=24) (by kernel_rfl) rfl rfl (by decide)
theorem zGp(v:Value)(xs:List Order)(w:World)(F:List Nat)(h:Sl w v xs F)(hn:xs.length<=100000000) :
  Calls Tryz.prog 116 #[v] w fun e w' => ∃ v' F',e = .returned v'/\Oa 63 w.heap.size w' v' xs F'/\(∀ b∈F',b∈F)/\F'.Sublist F/\Ext w w':=by
 have hnil:∀ (a:Option Addr) (n c:Nat),(binOp .eql 61 (.slice a n c) (.slice none 0 0)).run Tryz.prog w = .ok (.bool a.isNone) w:=fun a n c=>Go.Lib.run_eql_slice_nil w 61 63 a n c 0 0 Tryz.underlying61
 obtain⟨a,c,rfl,hl,hc,⟨rfl,rfl⟩ | ⟨hne,b,o,F',rfl,rfl,hr⟩⟩:=h
 ·cases a with
  | none =>
   go_enter Tryz.func116,Tryz.ntmps116;go_wp2;go_ret;exact⟨_,[],rfl,Oa.nil _ _ _,by simp,by simp,zr _⟩
  | some p =>
   go_enter Tryz.func116,Tryz.ntmps116;go_wp2;go_ret;exact⟨_,[],rfl,Oa.lit0 _ _,by simp,by simp,(zr _).alloc _⟩
 ·have hpos:0 < xs.length:=List.length_pos_iff.2 hne;have HR:Hid (∀ ob,Row (w.alloc ob) b o xs F'):=zh (fun ob=>hr.keep (((zr w).alloc ob).block b (hr.lt hne)) (fun k hk=>((zr w).alloc ob).block k (hr.inh k hk)))
  have HI:Hid (∀ k∈F',k < w.heap.size):=zh hr.inh;clear hr;go_enter Tryz.func116,Tryz.ntmps116;go_wp2_with (at_builtin;refine zCq (α:=Order) rfl _ _ 61 rfl 63 Tryz.underlying61 zLw (L:=w.heap.size) (v:=.slice (some ⟨w.heap.size,0,none⟩) 0 0) (xs:=[]) (ys:=xs) rfl (Oa.lit0 _ _) rfl rfl (HR.out _) (by omega) (fun k hk e=>by cases e;exact absurd (HI.out _ hk) (Nat.lt_irrefl _)) (by simp;omega) (by simp) ?_;intro v' w' hO' hgr;have HO2:=zh hO';have HQ2:=zh (Ext.grown ((zr w).alloc _) hgr (fun k hk=>by cases hk;exact Nat.le_refl _));clear hO' hgr;obtain⟨ao2,co2,rfl,_⟩:=HO2.out.form)
  go_ret;exact⟨_,F',rfl,by simpa using HO2.out,fun b hb=>by simp[hb],List.sublist_cons_self _ _,HQ2.out⟩
theorem zH6(n c:Nat)(w:World)(a:Option Addr)(hc:n<=c)(hl:c<=9223372036854775807) :
  Calls Tryz.prog 115 #[.slice a n c] w fun e w'=>e = .returned (.slice a n n)/\w=w':=by
 go_enter Tryz.func115,Tryz.ntmps115;go_wp2;go_ret;exact⟨rfl,rfl⟩
theorem zHx(v:Value)(xs:List Order)(w:World)(F:List Nat)(h:Sl w v xs F)(hn:xs.length<=100000000) :
  Calls Tryz.prog 69 #[v] w fun e w' => ∃ v' F',e = .returned v'/\Oh w.heap.size w' v' xs F'/\(∀ b∈F',b∈F)/\F'.Sublist F/\Ext w w':=by
 obtain⟨a,c,rfl,hl⟩:=Rs.form ⟨F,h⟩;have H:=zh h;clear h;go_enter Tryz.func69,Tryz.ntmps69;go_wp2_with fail
 refine(zGp _ _ _ _ H.out hn).mono ?_;rintro e w1 ⟨v1,F1,rfl,ho,hF,hsub,he⟩;obtain⟨a1,c1,rfl,_⟩:=ho.form;have hcp:=ho.cap;have HO:=zh ho.oh;have HX:=zh (And.intro hF (And.intro hsub he));clear ho hF hsub he;go_wp2_with fail
 refine(zH6 _ _ _ _ hcp.1 hcp.2).mono ?_;rintro e w2 ⟨rfl,rfl⟩;go_wp2;go_ret;exact⟨_,F1,rfl,HO.out,HX.out⟩
theorem zKk:El Tryz.prog 61 (List Order):=El.of (z:=.slice none 0 0) (n:=1) (b:=24) (by kernel_rfl) rfl rfl (by decide)
theorem zG7(v:Value)(xs:List (List Order))(w:World)(F:List Nat)(h:Sl w v xs F)(hn:xs.length<=100000000) :
  Calls Tryz.prog 110 #[v] w fun e w' => ∃ v' F',e = .returned v'/\Oa 61 w.heap.size w' v' xs F'/\(∀ b∈F',b∈F)/\F'.Sublist F/\Ext w w':=by
 have hnil:∀ (a:Option Addr) (n c:Nat),(binOp .eql 28 (.slice a n c) (.slice none 0 0)).run Tryz.prog w = .ok (.bool a.isNone) w:=fun a n c=>Go.Lib.run_eql_slice_nil w 28 61 a n c 0 0 Tryz.underlying28
 obtain⟨a,c,rfl,hl,hc,⟨rfl,rfl⟩ | ⟨hne,b,o,F',rfl,rfl,hr⟩⟩:=h
 ·cases a with
  | none =>
   go_enter Tryz.func110,Tryz.ntmps110;go_wp2;go_ret;exact⟨_,[],rfl,Oa.nil _ _ _,by simp,by simp,zr _⟩
  | some p =>
   go_enter Tryz.func110,Tryz.ntmps110;go_wp2;go_ret;exact⟨_,[],rfl,Oa.lit0 _ _,by simp,by simp,(zr _).alloc _⟩
 ·have hpos:0 < xs.length:=List.length_pos_iff.2 hne;have HR:Hid (∀ ob,Row (w.alloc ob) b o xs F'):=zh (fun ob=>hr.keep (((zr w).alloc ob).block b (hr.lt hne)) (fun k hk=>((zr w).alloc ob).block k (hr.inh k hk)))
  have HI:Hid (∀ k∈F',k < w.heap.size):=zh hr.inh;clear hr;go_enter Tryz.func110,Tryz.ntmps110;go_wp2_with (at_builtin;refine zCq (α:=(List Order)) rfl _ _ 28 rfl 61 Tryz.underlying28 zKk (L:=w.heap.size) (v:=.slice (some ⟨w.heap.size,0,none⟩) 0 0) (xs:=[]) (ys:=xs) rfl (Oa.lit0 _ _) rfl rfl (HR.out _) (by omega) (fun k hk e=>by cases e;exact absurd (HI.out _ hk) (Nat.lt_irrefl _)) (by simp;omega) (by simp) ?_;intro v' w' hO' hgr;have HO2:=zh hO';have HQ2:=zh (Ext.grown ((zr w).alloc _) hgr (fun k hk=>by cases hk;exact Nat.le_refl _));clear hO' hgr;obtain⟨ao2,co2,rfl,_⟩:=HO2.out.form)
  go_ret;exact⟨_,F',rfl,by simpa using HO2.out,fun b hb=>by simp[hb],List.sublist_cons_self _ _,HQ2.out⟩
theorem zGn(n c:Nat)(w:World)(a:Option Addr)(hc:n<=c)(hl:c<=9223372036854775807) :
  Calls Tryz.prog 109 #[.slice a n c] w fun e w'=>e = .returned (.slice a n n)/\w=w':=by
 go_enter Tryz.func109,Tryz.ntmps109;go_wp2;go_ret;exact⟨rfl,rfl⟩
theorem zH3(v:Value)(xs:List (List Order))(w:World)(F:List Nat)(h:Sl w v xs F)(hn:xs.length<=100000000) :
  Calls Tryz.prog 66 #[v] w fun e w' => ∃ v' F',e = .returned v'/\Oh w.heap.size w' v' xs F'/\(∀ b∈F',b∈F)/\F'.Sublist F/\Ext w w':=by
 obtain⟨a,c,rfl,hl⟩:=Rs.form ⟨F,h⟩;have H:=zh h;clear h;go_enter Tryz.func66,Tryz.ntmps66;go_wp2_with fail
 refine(zG7 _ _ _ _ H.out hn).mono ?_;rintro e w1 ⟨v1,F1,rfl,ho,hF,hsub,he⟩;obtain⟨a1,c1,rfl,_⟩:=ho.form;have hcp:=ho.cap;have HO:=zh ho.oh;have HX:=zh (And.intro hF (And.intro hsub he));clear ho hF hsub he;go_wp2_with fail
 refine(zGn _ _ _ _ hcp.1 hcp.2).mono ?_;rintro e w2 ⟨rfl,rfl⟩;go_wp2;go_ret;exact⟨_,F1,rfl,HO.out,HX.out⟩
theorem zNr:El Tryz.prog 59 Core:=El.of (z:=.agg #[.slice none 0 0,.int .i64 0,.bool false]) (n:=3) (b:=40) (by kernel_rfl) rfl rfl (by decide)
theorem zH7(v:Value)(xs:List Core)(w:World)(F:List Nat)(h:Sl w v xs F)(hn:xs.length<=100000000) :
  Calls Tryz.prog 112 #[v] w fun e w' => ∃ v' F',e = .returned v'/\Oa 59 w.heap.size w' v' xs F'/\(∀ b∈F',b∈F)/\F'.Sublist F/\Ext w w':=by
 have hnil:∀ (a:Option Addr) (n c:Nat),(binOp .eql 29 (.slice a n c) (.slice none 0 0)).run Tryz.prog w = .ok (.bool a.isNone) w:=fun a n c=>Go.Lib.run_eql_slice_nil w 29 59 a n c 0 0 Tryz.underlying29
 obtain⟨a,c,rfl,hl,hc,⟨rfl,rfl⟩ | ⟨hne,b,o,F',rfl,rfl,hr⟩⟩:=h
 ·cases a with
  | none =>
   go_enter Tryz.func112,Tryz.ntmps112;go_wp2;go_ret;exact⟨_,[],rfl,Oa.nil _ _ _,by simp,by simp,zr _⟩
  | some p =>
   go_enter Tryz.func112,Tryz.ntmps112;go_wp2;go_ret;exact⟨_,[],rfl,Oa.lit0 _ _,by simp,by simp,(zr _).alloc _⟩
 ·have hpos:0 < xs.length:=List.length_pos_iff.2 hne;have HR:Hid (∀ ob,Row (w.alloc ob) b o xs F'):=zh (fun ob=>hr.keep (((zr w).alloc ob).block b (hr.lt hne)) (fun k hk=>((zr w).alloc ob).block k (hr.inh k hk)))
  have HI:Hid (∀ k∈F',k < w.heap.size):=zh hr.inh;clear hr;go_enter Tryz.func112,Tryz.ntmps112;go_wp2_with (at_builtin;refine zCq (α:=Core) rfl _ _ 29 rfl 59 Tryz.underlying29 zNr (L:=w.heap.size) (v:=.slice (some ⟨w.heap.size,0,none⟩) 0 0) (xs:=[]) (ys:=xs) rfl (Oa.lit0 _ _) rfl rfl (HR.out _) (by omega) (fun k hk e=>by cases e;exact absurd (HI.out _ hk) (Nat.lt_irrefl _)) (by simp;omega) (by simp) ?_;intro v' w' hO' hgr;have HO2:=zh hO';have HQ2:=zh (Ext.grown ((zr w).alloc _) hgr (fun k hk=>by cases hk;exact Nat.le_refl _));clear hO' hgr;obtain⟨ao2,co2,rfl,_⟩:=HO2.out.form)
  go_ret;exact⟨_,F',rfl,by simpa using HO2.out,fun b hb=>by simp[hb],List.sublist_cons_self _ _,HQ2.out⟩
theorem zI0(n c:Nat)(w:World)(a:Option Addr)(hc:n<=c)(hl:c<=9223372036854775807) :
  Calls Tryz.prog 111 #[.slice a n c] w fun e w'=>e = .returned (.slice a n n)/\w=w':=by
 go_enter Tryz.func111,Tryz.ntmps111;go_wp2;go_ret;exact⟨rfl,rfl⟩
theorem zIy(v:Value)(xs:List Core)(w:World)(F:List Nat)(h:Sl w v xs F)(hn:xs.length<=100000000) :
  Calls Tryz.prog 67 #[v] w fun e w' => ∃ v' F',e = .returned v'/\Oh w.heap.size w' v' xs F'/\(∀ b∈F',b∈F)/\F'.Sublist F/\Ext w w':=by
 obtain⟨a,c,rfl,hl⟩:=Rs.form ⟨F,h⟩;have H:=zh h;clear h;go_enter Tryz.func67,Tryz.ntmps67;go_wp2_with fail
 refine(zH7 _ _ _ _ H.out hn).mono ?_;rintro e w1 ⟨v1,F1,rfl,ho,hF,hsub,he⟩;obtain⟨a1,c1,rfl,_⟩:=ho.form;have hcp:=ho.cap;have HO:=zh ho.oh;have HX:=zh (And.intro hF (And.intro hsub he));clear ho hF hsub he;go_wp2_with fail
 refine(zI0 _ _ _ _ hcp.1 hcp.2).mono ?_;rintro e w2 ⟨rfl,rfl⟩;go_wp2;go_ret;exact⟨_,F1,rfl,HO.out,HX.out⟩
theorem zNs:El Tryz.prog 67 Hold:=El.of (z:=.agg #[.slice none 0 0]) (n:=1) (b:=24) (by kernel_rfl) rfl rfl (by decide)
theorem zH8(v:Value)(xs:List Hold)(w:World)(F:List Nat)(h:Sl w v xs F)(hn:xs.length<=100000000) :
  Calls Tryz.prog 114 #[v] w fun e w' => ∃ v' F',e = .returned v'/\Oa 67 w.heap.size w' v' xs F'/\(∀ b∈F',b∈F)/\F'.Sublist F/\Ext w w':=by
 have hnil:∀ (a:Option Addr) (n c:Nat),(binOp .eql 30 (.slice a n c) (.slice none 0 0)).run Tryz.prog w = .ok (.bool a.isNone) w:=fun a n c=>Go.Lib.run_eql_slice_nil w 30 67 a n c 0 0 Tryz.underlying30
 obtain⟨a,c,rfl,hl,hc,⟨rfl,rfl⟩ | ⟨hne,b,o,F',rfl,rfl,hr⟩⟩:=h
 ·cases a with
  | none =>
   go_enter Tryz.func114,Tryz.ntmps114;go_wp2;go_ret;exact⟨_,[],rfl,Oa.nil _ _ _,by simp,by simp,zr _⟩
  | some p =>
   go_enter Tryz.func114,Tryz.ntmps114;go_wp2;go_ret;exact⟨_,[],rfl,Oa.lit0 _ _,by simp,by simp,(zr _).alloc _⟩
 ·have hpos:0 < xs.length:=List.length_pos_iff.2 hne;have HR:Hid (∀ ob,Row (w.alloc ob) b o xs F'):=zh (fun ob=>hr.keep (((zr w).alloc ob).block b (hr.lt hne)) (fun k hk=>((zr w).alloc ob).block k (hr.inh k hk)))
  have HI:Hid (∀ k∈F',k < w.heap.size):=zh hr.inh;clear hr;go_enter Tryz.func114,Tryz.ntmps114;go_wp2_with (at_builtin;refine zCq (α:=Hold) rfl _ _ 30 rfl 67 Tryz.underlying30 zNs (L:=w.heap.size) (v:=.slice (some ⟨w.heap.size,0,none⟩) 0 0) (xs:=[]) (ys:=xs) rfl (Oa.lit0 _ _) rfl rfl (HR.out _) (by omega) (fun k hk e=>by cases e;exact absurd (HI.out _ hk) (Nat.lt_irrefl _)) (by simp;omega) (by simp) ?_;intro v' w' hO' hgr;have HO2:=zh hO';have HQ2:=zh (Ext.grown ((zr w).alloc _) hgr (fun k hk=>by cases hk;exact Nat.le_refl _));clear hO' hgr;obtain⟨ao2,co2,rfl,_⟩:=HO2.out.form)
  go_ret;exact⟨_,F',rfl,by simpa using HO2.out,fun b hb=>by simp[hb],List.sublist_cons_self _ _,HQ2.out⟩
theorem zI1(n c:Nat)(w:World)(a:Option Addr)(hc:n<=c)(hl:c<=9223372036854775807) :
  Calls Tryz.prog 113 #[.slice a n c] w fun e w'=>e = .returned (.slice a n n)/\w=w':=by
 go_enter Tryz.func113,Tryz.ntmps113;go_wp2;go_ret;exact⟨rfl,rfl⟩
theorem zIz(v:Value)(xs:List Hold)(w:World)(F:List Nat)(h:Sl w v xs F)(hn:xs.length<=100000000) :
  Calls Tryz.prog 68 #[v] w fun e w' => ∃ v' F',e = .returned v'/\Oh w.heap.size w' v' xs F'/\(∀ b∈F',b∈F)/\F'.Sublist F/\Ext w w':=by
 obtain⟨a,c,rfl,hl⟩:=Rs.form ⟨F,h⟩;have H:=zh h;clear h;go_enter Tryz.func68,Tryz.ntmps68;go_wp2_with fail
 refine(zH8 _ _ _ _ H.out hn).mono ?_;rintro e w1 ⟨v1,F1,rfl,ho,hF,hsub,he⟩;obtain⟨a1,c1,rfl,_⟩:=ho.form;have hcp:=ho.cap;have HO:=zh ho.oh;have HX:=zh (And.intro hF (And.intro hsub he));clear ho hF hsub he;go_wp2_with fail
 refine(zI1 _ _ _ _ hcp.1 hcp.2).mono ?_;rintro e w2 ⟨rfl,rfl⟩;go_wp2;go_ret;exact⟨_,F1,rfl,HO.out,HX.out⟩
end Sk
