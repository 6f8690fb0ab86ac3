/- Contracts of functions of the given program. -/
import Derived.Lib.SliceRun
import Derived.Test.YtpjdkfkfmebphaaGreatNums
namespace Sk
open Go Go.Proofs Go.RowKit
set_option maxHeartbeats 400000
set_option maxRecDepth 100000
set_option linter.unusedVariables false
set_option linter.unusedSimpArgs false
def Oh{α:Type}[GT α](L:Nat)(w:World)(v:Value)(xs:List α)(F:List Nat):Prop :=
 (v = .slice none 0 0/\xs = []/\F = [])\/∃ g,v = .slice (some ⟨g,0,none⟩) xs.length xs.length/\L<=g/\Fz w g/\xs.length<=maxLen/\Row w g 0 xs F/\g ∉ F
theorem Oa.oh{α:Type}[GT α]{e:TypeId}{L:Nat}{w:World}{a:Option Addr}{n c:Nat}{xs:List α}{F:List Nat}(h:Oa e L w (.slice a n c) xs F):Oh L w (.slice a n n) xs F:=by
 rcases h with ⟨h,rfl,rfl⟩ | ⟨g,cap,cur,h,hL,hg,hl,hc,hs,hr,hn⟩
 ·cases h;exact .inl ⟨rfl,rfl,rfl⟩
 ·cases h;exact .inr ⟨g,rfl,hL,⟨_,_,Bk.ofA hg⟩,Nat.le_trans hl hc,hr,hn⟩
theorem Oh.os{α:Type}[GT α]{L:Nat}{w:World}{v:Value}{xs:List α}(h:Oh L w v xs []):Os L w v xs:=by
 rcases h with ⟨rfl,rfl,_⟩ | ⟨g,rfl,hL,hz,hl,hr,_⟩
 ·exact⟨[],⟨none,0,rfl,Nat.le_refl _,Nat.zero_le _,.inl ⟨rfl,rfl⟩⟩,Own.nil _ _⟩
 ·by_cases hx:xs = []
  ·subst hx;exact⟨[],⟨some ⟨g,0,none⟩,0,rfl,Nat.le_refl _,Nat.zero_le _,.inl ⟨rfl,rfl⟩⟩,Own.nil _ _⟩
  ·exact⟨[g],⟨_,_,rfl,Nat.le_refl _,hl,.inr ⟨hx,g,0,[],rfl,rfl,hr⟩⟩,by simp,fun b hb=>by rw[List.mem_singleton] at hb;subst hb;exact⟨hL,hz⟩⟩
theorem zIx(v:Value)(xs:List Int)(w:World)(F:List Nat)(h:Sl w v xs F)(hn:xs.length<=100000000) :
  Calls Tryz.prog 108 #[v] w fun e w' => ∃ v' F',e = .returned v'/\Oa 3 w.heap.size w' v' xs F'/\(∀ b∈F',b∈F)/\F'.Sublist F/\Ext w w':=by
 have hnil:∀ (a:Option Addr) (n c:Nat),(binOp .eql 41 (.slice a n c) (.slice none 0 0)).run Tryz.prog w = .ok (.bool a.isNone) w:=fun a n c=>Go.Lib.run_eql_slice_nil w 41 3 a n c 0 0 Tryz.underlying41
 obtain⟨a,c,rfl,hl,hc,⟨rfl,rfl⟩ | ⟨hne,b,o,F',rfl,rfl,hr⟩⟩:=h
 ·cases a with
  | none =>
   go_enter Tryz.func108,Tryz.ntmps108;go_wp2;go_ret;exact⟨_,[],rfl,Oa.nil _ _ _,by simp,by simp,zr _⟩
  | some p =>
   go_enter Tryz.func108,Tryz.ntmps108;go_wp2;go_ret;exact⟨_,[],rfl,Oa.lit0 _ _,by simp,by simp,(zr _).alloc _⟩
 ·have hpos:0 < xs.length:=List.length_pos_iff.2 hne;have HR:Hid (∀ ob,Row (w.alloc ob) b o xs F'):=zh (fun ob=>hr.keep (((zr w).alloc ob).block b (hr.lt hne)) (fun k hk=>((zr w).alloc ob).block k (hr.inh k hk)))
  have HI:Hid (∀ k∈F',k < w.heap.size):=zh hr.inh;clear hr;go_enter Tryz.func108,Tryz.ntmps108;go_wp2_with (at_builtin;refine zC9 (α:=Int) rfl _ _ 41 rfl 3 Tryz.underlying41 zCj (L:=w.heap.size) (v:=.slice (some ⟨w.heap.size,0,none⟩) 0 0) (xs:=[]) (ys:=xs) rfl (Oa.lit0 _ _) rfl rfl (HR.out _) (by omega) (fun k hk e=>by cases e;exact absurd (HI.out _ hk) (Nat.lt_irrefl _)) (by simp;omega) (by simp) ?_;intro v' w' hO' hgr;have HO2:=zh hO';have HQ2:=zh (Ext.grown ((zr w).alloc _) hgr (fun k hk=>by cases hk;exact Nat.le_refl _));clear hO' hgr;obtain⟨ao2,co2,rfl,_⟩:=HO2.out.form)
  go_ret;exact⟨_,F',rfl,by simpa using HO2.out,fun b hb=>by simp[hb],List.sublist_cons_self _ _,HQ2.out⟩
theorem zKj(v:Value)(xs:List Int)(w:World)(F:List Nat)(h:Sl w v xs F)(hn:xs.length<=100000000) :
  Calls Tryz.prog 56 #[v] w fun e w' => ∃ v' F',e = .returned v'/\Oh w.heap.size w' v' xs F'/\(∀ b∈F',b∈F)/\F'.Sublist F/\Ext w w':=by
 obtain⟨a,c,rfl,hl⟩:=Rs.form ⟨F,h⟩;have H:=zh h;clear h;go_enter Tryz.func56,Tryz.ntmps56;go_wp2_with fail
 refine(zIx _ _ _ _ H.out hn).mono ?_;rintro e w1 ⟨v1,F1,rfl,ho,hF,hsub,he⟩;obtain⟨a1,c1,rfl,_⟩:=ho.form;have hcp:=ho.cap;have HO:=zh ho.oh;have HX:=zh (And.intro hF (And.intro hsub he));clear ho hF hsub he;go_wp2_with fail
 refine(zCs _ xs _ _ _ rfl hcp.1 hcp.2).mono ?_;rintro e w2 ⟨rfl,rfl⟩;go_wp2;go_ret;exact⟨_,F1,rfl,HO.out,HX.out⟩
theorem zLo:El Tryz.prog 80 Window:=El.of (z:=.agg #[.int .i64 0,.int .i64 0,.bool false]) (n:=3) (b:=24) (by kernel_rfl) rfl rfl (by decide)
theorem zGs(v:Value)(xs:List Window)(w:World)(F:List Nat)(h:Sl w v xs F)(hn:xs.length<=100000000) :
  Calls Tryz.prog 141 #[v] w fun e w' => ∃ v' F',e = .returned v'/\Oa 80 w.heap.size w' v' xs F'/\(∀ b∈F',b∈F)/\F'.Sublist F/\Ext w w':=by
 have hnil:∀ (a:Option Addr) (n c:Nat),(binOp .eql 73 (.slice a n c) (.slice none 0 0)).run Tryz.prog w = .ok (.bool a.isNone) w:=fun a n c=>Go.Lib.run_eql_slice_nil w 73 80 a n c 0 0 Tryz.underlying73
 obtain⟨a,c,rfl,hl,hc,⟨rfl,rfl⟩ | ⟨hne,b,o,F',rfl,rfl,hr⟩⟩:=h
 ·cases a with
  | none =>
   go_enter Tryz.func141,Tryz.ntmps141;go_wp2;go_ret;exact⟨_,[],rfl,Oa.nil _ _ _,by simp,by simp,zr _⟩
  | some p =>
   go_enter Tryz.func141,Tryz.ntmps141;go_wp2;go_ret;exact⟨_,[],rfl,Oa.lit0 _ _,by simp,by simp,(zr _).alloc _⟩
 ·have hpos:0 < xs.length:=List.length_pos_iff.2 hne;have HR:Hid (∀ ob,Row (w.alloc ob) b o xs F'):=zh (fun ob=>hr.keep (((zr w).alloc ob).block b (hr.lt hne)) (fun k hk=>((zr w).alloc ob).block k (hr.inh k hk)))
  have HI:Hid (∀ k∈F',k < w.heap.size):=zh hr.inh;clear hr;go_enter Tryz.func141,Tryz.ntmps141;go_wp2_with (at_builtin;refine zC9 (α:=Window) rfl _ _ 73 rfl 80 Tryz.underlying73 zLo (L:=w.heap.size) (v:=.slice (some ⟨w.heap.size,0,none⟩) 0 0) (xs:=[]) (ys:=xs) rfl (Oa.lit0 _ _) rfl rfl (HR.out _) (by omega) (fun k hk e=>by cases e;exact absurd (HI.out _ hk) (Nat.lt_irrefl _)) (by simp;omega) (by simp) ?_;intro v' w' hO' hgr;have HO2:=zh hO';have HQ2:=zh (Ext.grown ((zr w).alloc _) hgr (fun k hk=>by cases hk;exact Nat.le_refl _));clear hO' hgr;obtain⟨ao2,co2,rfl,_⟩:=HO2.out.form)
  go_ret;exact⟨_,F',rfl,by simpa using HO2.out,fun b hb=>by simp[hb],List.sublist_cons_self _ _,HQ2.out⟩
theorem zHc(n c:Nat)(w:World)(a:Option Addr)(hc:n<=c)(hl:c<=9223372036854775807) :
  Calls Tryz.prog 140 #[.slice a n c] w fun e w'=>e = .returned (.slice a n n)/\w=w':=by
 go_enter Tryz.func140,Tryz.ntmps140;go_wp2;go_ret;exact⟨rfl,rfl⟩
theorem zHs(v:Value)(xs:List Window)(w:World)(F:List Nat)(h:Sl w v xs F)(hn:xs.length<=100000000) :
  Calls Tryz.prog 99 #[v] w fun e w' => ∃ v' F',e = .returned v'/\Oh w.heap.size w' v' xs F'/\(∀ b∈F',b∈F)/\F'.Sublist F/\Ext w w':=by
 obtain⟨a,c,rfl,hl⟩:=Rs.form ⟨F,h⟩;have H:=zh h;clear h;go_enter Tryz.func99,Tryz.ntmps99;go_wp2_with fail
 refine(zGs _ _ _ _ H.out hn).mono ?_;rintro e w1 ⟨v1,F1,rfl,ho,hF,hsub,he⟩;obtain⟨a1,c1,rfl,_⟩:=ho.form;have hcp:=ho.cap;have HO:=zh ho.oh;have HX:=zh (And.intro hF (And.intro hsub he));clear ho hF hsub he;go_wp2_with fail
 refine(zHc _ _ _ _ hcp.1 hcp.2).mono ?_;rintro e w2 ⟨rfl,rfl⟩;go_wp2;go_ret;exact⟨_,F1,rfl,HO.out,HX.out⟩
theorem zPk:El Tryz.prog 75 Part:=El.of (z:=.agg #[.slice none 0 0,.int .i64 0]) (n:=2) (b:=32) (by kernel_rfl) rfl rfl (by decide)
theorem zHz(v:Value)(xs:List Part)(w:World)(F:List Nat)(h:Sl w v xs F)(hn:xs.length<=100000000) :
  Calls Tryz.prog 135 #[v] w fun e w' => ∃ v' F',e = .returned v'/\Oa 75 w.heap.size w' v' xs F'/\(∀ b∈F',b∈F)/\F'.Sublist F/\Ext w w':=by
 have hnil:∀ (a:Option Addr) (n c:Nat),(binOp .eql 23 (.slice a n c) (.slice none 0 0)).run Tryz.prog w = .ok (.bool a.isNone) w:=fun a n c=>Go.Lib.run_eql_slice_nil w 23 75 a n c 0 0 Tryz.underlying23
 obtain⟨a,c,rfl,hl,hc,⟨rfl,rfl⟩ | ⟨hne,b,o,F',rfl,rfl,hr⟩⟩:=h
 ·cases a with
  | none =>
   go_enter Tryz.func135,Tryz.ntmps135;go_wp2;go_ret;exact⟨_,[],rfl,Oa.nil _ _ _,by simp,by simp,zr _⟩
  | some p =>
   go_enter Tryz.func135,Tryz.ntmps135;go_wp2;go_ret;exact⟨_,[],rfl,Oa.lit0 _ _,by simp,by simp,(zr _).alloc _⟩
 ·have hpos:0 < xs.length:=List.length_pos_iff.2 hne;have HR:Hid (∀ ob,Row (w.alloc ob) b o xs F'):=zh (fun ob=>hr.keep (((zr w).alloc ob).block b (hr.lt hne)) (fun k hk=>((zr w).alloc ob).block k (hr.inh k hk)))
  have HI:Hid (∀ k∈F',k < w.heap.size):=zh hr.inh;clear hr;go_enter Tryz.func135,Tryz.ntmps135;go_wp2_with (at_builtin;refine zC9 (α:=Part) rfl _ _ 23 rfl 75 Tryz.underlying23 zPk (L:=w.heap.size) (v:=.slice (some ⟨w.heap.size,0,none⟩) 0 0) (xs:=[]) (ys:=xs) rfl (Oa.lit0 _ _) rfl rfl (HR.out _) (by omega) (fun k hk e=>by cases e;exact absurd (HI.out _ hk) (Nat.lt_irrefl _)) (by simp;omega) (by simp) ?_;intro v' w' hO' hgr;have HO2:=zh hO';have HQ2:=zh (Ext.grown ((zr w).alloc _) hgr (fun k hk=>by cases hk;exact Nat.le_refl _));clear hO' hgr;obtain⟨ao2,co2,rfl,_⟩:=HO2.out.form)
  go_ret;exact⟨_,F',rfl,by simpa using HO2.out,fun b hb=>by simp[hb],List.sublist_cons_self _ _,HQ2.out⟩
theorem zIu(n c:Nat)(w:World)(a:Option Addr)(hc:n<=c)(hl:c<=9223372036854775807) :
  Calls Tryz.prog 134 #[.slice a n c] w fun e w'=>e = .returned (.slice a n n)/\w=w':=by
 go_enter Tryz.func134,Tryz.ntmps134;go_wp2;go_ret;exact⟨rfl,rfl⟩
theorem zJx(v:Value)(xs:List Part)(w:World)(F:List Nat)(h:Sl w v xs F)(hn:xs.length<=100000000) :
  Calls Tryz.prog 96 #[v] w fun e w' => ∃ v' F',e = .returned v'/\Oh w.heap.size w' v' xs F'/\(∀ b∈F',b∈F)/\F'.Sublist F/\Ext w w':=by
 obtain⟨a,c,rfl,hl⟩:=Rs.form ⟨F,h⟩;have H:=zh h;clear h;go_enter Tryz.func96,Tryz.ntmps96;go_wp2_with fail
 refine(zHz _ _ _ _ H.out hn).mono ?_;rintro e w1 ⟨v1,F1,rfl,ho,hF,hsub,he⟩;obtain⟨a1,c1,rfl,_⟩:=ho.form;have hcp:=ho.cap;have HO:=zh ho.oh;have HX:=zh (And.intro hF (And.intro hsub he));clear ho hF hsub he;go_wp2_with fail
 refine(zIu _ _ _ _ hcp.1 hcp.2).mono ?_;rintro e w2 ⟨rfl,rfl⟩;go_wp2;go_ret;exact⟨_,F1,rfl,HO.out,HX.out⟩
theorem zJo:El Tryz.prog 77 Channel:=El.of (z:=.agg #[.int .i64 0,.int .i64 0,.int .i64 0,.int .i64 0]) (n:=4) (b:=32) (by kernel_rfl) rfl rfl (by decide)
theorem zG3(v:Value)(xs:List Channel)(w:World)(F:List Nat)(h:Sl w v xs F)(hn:xs.length<=100000000) :
  Calls Tryz.prog 137 #[v] w fun e w' => ∃ v' F',e = .returned v'/\Oa 77 w.heap.size w' v' xs F'/\(∀ b∈F',b∈F)/\F'.Sublist F/\Ext w w':=by
 have hnil:∀ (a:Option Addr) (n c:Nat),(binOp .eql 24 (.slice a n c) (.slice none 0 0)).run Tryz.prog w = .ok (.bool a.isNone) w:=fun a n c=>Go.Lib.run_eql_slice_nil w 24 77 a n c 0 0 Tryz.underlying24
 obtain⟨a,c,rfl,hl,hc,⟨rfl,rfl⟩ | ⟨hne,b,o,F',rfl,rfl,hr⟩⟩:=h
 ·cases a with
  | none =>
   go_enter Tryz.func137,Tryz.ntmps137;go_wp2;go_ret;exact⟨_,[],rfl,Oa.nil _ _ _,by simp,by simp,zr _⟩
  | some p =>
   go_enter Tryz.func137,Tryz.ntmps137;go_wp2;go_ret;exact⟨_,[],rfl,Oa.lit0 _ _,by simp,by simp,(zr _).alloc _⟩
 ·have hpos:0 < xs.length:=List.length_pos_iff.2 hne;have HR:Hid (∀ ob,Row (w.alloc ob) b o xs F'):=zh (fun ob=>hr.keep (((zr w).alloc ob).block b (hr.lt hne)) (fun k hk=>((zr w).alloc ob).block k (hr.inh k hk)))
  have HI:Hid (∀ k∈F',k < w.heap.size):=zh hr.inh;clear hr;go_enter Tryz.func137,Tryz.ntmps137;go_wp2_with (at_builtin;refine zC9 (α:=Channel) rfl _ _ 24 rfl 77 Tryz.underlying24 zJo (L:=w.heap.size) (v:=.slice (some ⟨w.heap.size,0,none⟩) 0 0) (xs:=[]) (ys:=xs) rfl (Oa.lit0 _ _) rfl rfl (HR.out _) (by omega) (fun k hk e=>by cases e;exact absurd (HI.out _ hk) (Nat.lt_irrefl _)) (by simp;omega) (by simp) ?_;intro v' w' hO' hgr;have HO2:=zh hO';have HQ2:=zh (Ext.grown ((zr w).alloc _) hgr (fun k hk=>by cases hk;exact Nat.le_refl _));clear hO' hgr;obtain⟨ao2,co2,rfl,_⟩:=HO2.out.form)
  go_ret;exact⟨_,F',rfl,by simpa using HO2.out,fun b hb=>by simp[hb],List.sublist_cons_self _ _,HQ2.out⟩
theorem zGp(n c:Nat)(w:World)(a:Option Addr)(hc:n<=c)(hl:c<=9223372036854775807) :
  Calls Tryz.prog 136 #[.slice a n c] w fun e w'=>e = .returned (.slice a n n)/\w=w':=by
 go_enter Tryz.func136,Tryz.ntmps136;go_wp2;go_ret;exact⟨rfl,rfl⟩
theorem zH9(v:Value)(xs:List Channel)(w:World)(F:List Nat)(h:Sl w v xs F)(hn:xs.length<=100000000) :
  Calls Tryz.prog 97 #[v] w fun e w' => ∃ v' F',e = .returned v'/\Oh w.heap.size w' v' xs F'/\(∀ b∈F',b∈F)/\F'.Sublist F/\Ext w w':=by
 obtain⟨a,c,rfl,hl⟩:=Rs.form ⟨F,h⟩;have H:=zh h;clear h;go_enter Tryz.func97,Tryz.ntmps97;go_wp2_with fail
 refine(zG3 _ _ _ _ H.out hn).mono ?_;rintro e w1 ⟨v1,F1,rfl,ho,hF,hsub,he⟩;obtain⟨a1,c1,rfl,_⟩:=ho.form;have hcp:=ho.cap;have HO:=zh ho.oh;have HX:=zh (And.intro hF (And.intro hsub he));clear ho hF hsub he;go_wp2_with fail
 refine(zGp _ _ _ _ hcp.1 hcp.2).mono ?_;rintro e w2 ⟨rfl,rfl⟩;go_wp2;go_ret;exact⟨_,F1,rfl,HO.out,HX.out⟩
theorem zPl:El Tryz.prog 107 Slot:=El.of (z:=.agg #[.int .i64 0,.int .i64 0]) (n:=2) (b:=16) (by kernel_rfl) rfl rfl (by decide)
theorem zI0(v:Value)(xs:List Slot)(w:World)(F:List Nat)(h:Sl w v xs F)(hn:xs.length<=100000000) :
  Calls Tryz.prog 139 #[v] w fun e w' => ∃ v' F',e = .returned v'/\Oa 107 w.heap.size w' v' xs F'/\(∀ b∈F',b∈F)/\F'.Sublist F/\Ext w w':=by
 have hnil:∀ (a:Option Addr) (n c:Nat),(binOp .eql 25 (.slice a n c) (.slice none 0 0)).run Tryz.prog w = .ok (.bool a.isNone) w:=fun a n c=>Go.Lib.run_eql_slice_nil w 25 107 a n c 0 0 Tryz.underlying25
 obtain⟨a,c,rfl,hl,hc,⟨rfl,rfl⟩ | ⟨hne,b,o,F',rfl,rfl,hr⟩⟩:=h
 ·cases a with
  | none =>
   go_enter Tryz.func139,Tryz.ntmps139;go_wp2;go_ret;exact⟨_,[],rfl,Oa.nil _ _ _,by simp,by simp,zr _⟩
  | some p =>
   go_enter Tryz.func139,Tryz.ntmps139;go_wp2;go_ret;exact⟨_,[],rfl,Oa.lit0 _ _,by simp,by simp,(zr _).alloc _⟩
 ·have hpos:0 < xs.length:=List.length_pos_iff.2 hne;have HR:Hid (∀ ob,Row (w.alloc ob) b o xs F'):=zh (fun ob=>hr.keep (((zr w).alloc ob).block b (hr.lt hne)) (fun k hk=>((zr w).alloc ob).block k (hr.inh k hk)))
  have HI:Hid (∀ k∈F',k < w.heap.size):=zh hr.inh;clear hr;go_enter Tryz.func139,Tryz.ntmps139;go_wp2_with (at_builtin;refine zC9 (α:=Slot) rfl _ _ 25 rfl 107 Tryz.underlying25 zPl (L:=w.heap.size) (v:=.slice (some ⟨w.heap.size,0,none⟩) 0 0) (xs:=[]) (ys:=xs) rfl (Oa.lit0 _ _) rfl rfl (HR.out _) (by omega) (fun k hk e=>by cases e;exact absurd (HI.out _ hk) (Nat.lt_irrefl _)) (by simp;omega) (by simp) ?_;intro v' w' hO' hgr;have HO2:=zh hO';have HQ2:=zh (Ext.grown ((zr w).alloc _) hgr (fun k hk=>by cases hk;exact Nat.le_refl _));clear hO' hgr;obtain⟨ao2,co2,rfl,_⟩:=HO2.out.form)
  go_ret;exact⟨_,F',rfl,by simpa using HO2.out,fun b hb=>by simp[hb],List.sublist_cons_self _ _,HQ2.out⟩
theorem zIv(n c:Nat)(w:World)(a:Option Addr)(hc:n<=c)(hl:c<=9223372036854775807) :
  Calls Tryz.prog 138 #[.slice a n c] w fun e w'=>e = .returned (.slice a n n)/\w=w':=by
 go_enter Tryz.func138,Tryz.ntmps138;go_wp2;go_ret;exact⟨rfl,rfl⟩
theorem zJy(v:Value)(xs:List Slot)(w:World)(F:List Nat)(h:Sl w v xs F)(hn:xs.length<=100000000) :
  Calls Tryz.prog 98 #[v] w fun e w' => ∃ v' F',e = .returned v'/\Oh w.heap.size w' v' xs F'/\(∀ b∈F',b∈F)/\F'.Sublist F/\Ext w w':=by
 obtain⟨a,c,rfl,hl⟩:=Rs.form ⟨F,h⟩;have H:=zh h;clear h;go_enter Tryz.func98,Tryz.ntmps98;go_wp2_with fail
 refine(zI0 _ _ _ _ H.out hn).mono ?_;rintro e w1 ⟨v1,F1,rfl,ho,hF,hsub,he⟩;obtain⟨a1,c1,rfl,_⟩:=ho.form;have hcp:=ho.cap;have HO:=zh ho.oh;have HX:=zh (And.intro hF (And.intro hsub he));clear ho hF hsub he;go_wp2_with fail
 refine(zIv _ _ _ _ hcp.1 hcp.2).mono ?_;rintro e w2 ⟨rfl,rfl⟩;go_wp2;go_ret;exact⟨_,F1,rfl,HO.out,HX.out⟩
theorem zN6:El Tryz.prog 62 Order:=El.of (z:=.agg #[.int .i64 0,.int .i64 0,.int .i64 0]) (n:=3) (b:=24) (by kernel_rfl) rfl rfl (by decide)
theorem zHd(v:Value)(xs:List Order)(w:World)(F:List Nat)(h:Sl w v xs F)(hn:xs.length<=100000000) :
  Calls Tryz.prog 107 #[v] w fun e w' => ∃ v' F',e = .returned v'/\Oa 62 w.heap.size w' v' xs F'/\(∀ b∈F',b∈F)/\F'.Sublist F/\Ext w w':=by
 have hnil:∀ (a:Option Addr) (n c:Nat),(binOp .eql 63 (.slice a n c) (.slice none 0 0)).run Tryz.prog w = .ok (.bool a.isNone) w:=fun a n c=>Go.Lib.run_eql_slice_nil w 63 62 a n c 0 0 Tryz.underlying63
 obtain⟨a,c,rfl,hl,hc,⟨rfl,rfl⟩ | ⟨hne,b,o,F',rfl,rfl,hr⟩⟩:=h
 ·cases a with
  | none =>
   go_enter Tryz.func107,Tryz.ntmps107;go_wp2;go_ret;exact⟨_,[],rfl,Oa.nil _ _ _,by simp,by simp,zr _⟩
  | some p =>
   go_enter Tryz.func107,Tryz.ntmps107;go_wp2;go_ret;exact⟨_,[],rfl,Oa.lit0 _ _,by simp,by simp,(zr _).alloc _⟩
 ·have hpos:0 < xs.length:=List.length_pos_iff.2 hne;have HR:Hid (∀ ob,Row (w.alloc ob) b o xs F'):=zh (fun ob=>hr.keep (((zr w).alloc ob).block b (hr.lt hne)) (fun k hk=>((zr w).alloc ob).block k (hr.inh k hk)))
  have HI:Hid (∀ k∈F',k < w.heap.size):=zh hr.inh;clear hr;go_enter Tryz.func107,Tryz.ntmps107;go_wp2_with (at_builtin;refine zC9 (α:=Order) rfl _ _ 63 rfl 62 Tryz.underlying63 zN6 (L:=w.heap.size) (v:=.slice (some ⟨w.heap.size,0,none⟩) 0 0) (xs:=[]) (ys:=xs) rfl (Oa.lit0 _ _) rfl rfl (HR.out _) (by omega) (fun k hk e=>by cases e;exact absurd (HI.out _ hk) (Nat.lt_irrefl _)) (by simp;omega) (by simp) ?_;intro v' w' hO' hgr;have HO2:=zh hO';have HQ2:=zh (Ext.grown ((zr w).alloc _) hgr (fun k hk=>by cases hk;exact Nat.le_refl _));clear hO' hgr;obtain⟨ao2,co2,rfl,_⟩:=HO2.out.form)
  go_ret;exact⟨_,F',rfl,by simpa using HO2.out,fun b hb=>by simp[hb],List.sublist_cons_self _ _,HQ2.out⟩
theorem zHw(n c:Nat)(w:World)(a:Option Addr)(hc:n<=c)(hl:c<=9223372036854775807) :
  Calls Tryz.prog 106 #[.slice a n c] w fun e w'=>e = .returned (.slice a n n)/\w=w':=by
 go_enter Tryz.func106,Tryz.ntmps106;go_wp2;go_ret;exact⟨rfl,rfl⟩
theorem zIp(v:Value)(xs:List Order)(w:World)(F:List Nat)(h:Sl w v xs F)(hn:xs.length<=100000000) :
  Calls Tryz.prog 54 #[v] w fun e w' => ∃ v' F',e = .returned v'/\Oh w.heap.size w' v' xs F'/\(∀ b∈F',b∈F)/\F'.Sublist F/\Ext w w':=by
 obtain⟨a,c,rfl,hl⟩:=Rs.form ⟨F,h⟩;have H:=zh h;clear h;go_enter Tryz.func54,Tryz.ntmps54;go_wp2_with fail
 refine(zHd _ _ _ _ H.out hn).mono ?_;rintro e w1 ⟨v1,F1,rfl,ho,hF,hsub,he⟩;obtain⟨a1,c1,rfl,_⟩:=ho.form;have hcp:=ho.cap;have HO:=zh ho.oh;have HX:=zh (And.intro hF (And.intro hsub he));clear ho hF hsub he;go_wp2_with fail
 refine(zHw _ _ _ _ hcp.1 hcp.2).mono ?_;rintro e w2 ⟨rfl,rfl⟩;go_wp2;go_ret;exact⟨_,F1,rfl,HO.out,HX.out⟩
theorem zLn:El Tryz.prog 63 (List Order):=El.of (z:=.slice none 0 0) (n:=1) (b:=24) (by kernel_rfl) rfl rfl (by decide)
theorem zGr(v:Value)(xs:List (List Order))(w:World)(F:List Nat)(h:Sl w v xs F)(hn:xs.length<=100000000) :
  Calls Tryz.prog 101 #[v] w fun e w' => ∃ v' F',e = .returned v'/\Oa 63 w.heap.size w' v' xs F'/\(∀ b∈F',b∈F)/\F'.Sublist F/\Ext w w':=by
 have hnil:∀ (a:Option Addr) (n c:Nat),(binOp .eql 28 (.slice a n c) (.slice none 0 0)).run Tryz.prog w = .ok (.bool a.isNone) w:=fun a n c=>Go.Lib.run_eql_slice_nil w 28 63 a n c 0 0 Tryz.underlying28
 obtain⟨a,c,rfl,hl,hc,⟨rfl,rfl⟩ | ⟨hne,b,o,F',rfl,rfl,hr⟩⟩:=h
 ·cases a with
  | none =>
   go_enter Tryz.func101,Tryz.ntmps101;go_wp2;go_ret;exact⟨_,[],rfl,Oa.nil _ _ _,by simp,by simp,zr _⟩
  | some p =>
   go_enter Tryz.func101,Tryz.ntmps101;go_wp2;go_ret;exact⟨_,[],rfl,Oa.lit0 _ _,by simp,by simp,(zr _).alloc _⟩
 ·have hpos:0 < xs.length:=List.length_pos_iff.2 hne;have HR:Hid (∀ ob,Row (w.alloc ob) b o xs F'):=zh (fun ob=>hr.keep (((zr w).alloc ob).block b (hr.lt hne)) (fun k hk=>((zr w).alloc ob).block k (hr.inh k hk)))
  have HI:Hid (∀ k∈F',k < w.heap.size):=zh hr.inh;clear hr;go_enter Tryz.func101,Tryz.ntmps101;go_wp2_with (at_builtin;refine zC9 (α:=(List Order)) rfl _ _ 28 rfl 63 Tryz.underlying28 zLn (L:=w.heap.size) (v:=.slice (some ⟨w.heap.size,0,none⟩) 0 0) (xs:=[]) (ys:=xs) rfl (Oa.lit0 _ _) rfl rfl (HR.out _) (by omega) (fun k hk e=>by cases e;exact absurd (HI.out _ hk) (Nat.lt_irrefl _)) (by simp;omega) (by simp) ?_;intro v' w' hO' hgr;have HO2:=zh hO';have HQ2:=zh (Ext.grown ((zr w).alloc _) hgr (fun k hk=>by cases hk;exact Nat.le_refl _));clear hO' hgr;obtain⟨ao2,co2,rfl,_⟩:=HO2.out.form)
  go_ret;exact⟨_,F',rfl,by simpa using HO2.out,fun b hb=>by simp[hb],List.sublist_cons_self _ _,HQ2.out⟩
theorem zHb(n c:Nat)(w:World)(a:Option Addr)(hc:n<=c)(hl:c<=9223372036854775807) :
  Calls Tryz.prog 100 #[.slice a n c] w fun e w'=>e = .returned (.slice a n n)/\w=w':=by
 go_enter Tryz.func100,Tryz.ntmps100;go_wp2;go_ret;exact⟨rfl,rfl⟩
theorem zHr(v:Value)(xs:List (List Order))(w:World)(F:List Nat)(h:Sl w v xs F)(hn:xs.length<=100000000) :
  Calls Tryz.prog 51 #[v] w fun e w' => ∃ v' F',e = .returned v'/\Oh w.heap.size w' v' xs F'/\(∀ b∈F',b∈F)/\F'.Sublist F/\Ext w w':=by
 obtain⟨a,c,rfl,hl⟩:=Rs.form ⟨F,h⟩;have H:=zh h;clear h;go_enter Tryz.func51,Tryz.ntmps51;go_wp2_with fail
 refine(zGr _ _ _ _ H.out hn).mono ?_;rintro e w1 ⟨v1,F1,rfl,ho,hF,hsub,he⟩;obtain⟨a1,c1,rfl,_⟩:=ho.form;have hcp:=ho.cap;have HO:=zh ho.oh;have HX:=zh (And.intro hF (And.intro hsub he));clear ho hF hsub he;go_wp2_with fail
 refine(zHb _ _ _ _ hcp.1 hcp.2).mono ?_;rintro e w2 ⟨rfl,rfl⟩;go_wp2;go_ret;exact⟨_,F1,rfl,HO.out,HX.out⟩
theorem zPh:El Tryz.prog 45 Core:=El.of (z:=.agg #[.slice none 0 0,.int .i64 0,.bool false]) (n:=3) (b:=40) (by kernel_rfl) rfl rfl (by decide)
theorem zHx(v:Value)(xs:List Core)(w:World)(F:List Nat)(h:Sl w v xs F)(hn:xs.length<=100000000) :
  Calls Tryz.prog 103 #[v] w fun e w' => ∃ v' F',e = .returned v'/\Oa 45 w.heap.size w' v' xs F'/\(∀ b∈F',b∈F)/\F'.Sublist F/\Ext w w':=by
 have hnil:∀ (a:Option Addr) (n c:Nat),(binOp .eql 29 (.slice a n c) (.slice none 0 0)).run Tryz.prog w = .ok (.bool a.isNone) w:=fun a n c=>Go.Lib.run_eql_slice_nil w 29 45 a n c 0 0 Tryz.underlying29
 obtain⟨a,c,rfl,hl,hc,⟨rfl,rfl⟩ | ⟨hne,b,o,F',rfl,rfl,hr⟩⟩:=h
 ·cases a with
  | none =>
   go_enter Tryz.func103,Tryz.ntmps103;go_wp2;go_ret;exact⟨_,[],rfl,Oa.nil _ _ _,by simp,by simp,zr _⟩
  | some p =>
   go_enter Tryz.func103,Tryz.ntmps103;go_wp2;go_ret;exact⟨_,[],rfl,Oa.lit0 _ _,by simp,by simp,(zr _).alloc _⟩
 ·have hpos:0 < xs.length:=List.length_pos_iff.2 hne;have HR:Hid (∀ ob,Row (w.alloc ob) b o xs F'):=zh (fun ob=>hr.keep (((zr w).alloc ob).block b (hr.lt hne)) (fun k hk=>((zr w).alloc ob).block k (hr.inh k hk)))
  have HI:Hid (∀ k∈F',k < w.heap.size):=zh hr.inh;clear hr;go_enter Tryz.func103,Tryz.ntmps103;go_wp2_with (at_builtin;refine zC9 (α:=Core) rfl _ _ 29 rfl 45 Tryz.underlying29 zPh (L:=w.heap.size) (v:=.slice (some ⟨w.heap.size,0,none⟩) 0 0) (xs:=[]) (ys:=xs) rfl (Oa.lit0 _ _) rfl rfl (HR.out _) (by omega) (fun k hk e=>by cases e;exact absurd (HI.out _ hk) (Nat.lt_irrefl _)) (by simp;omega) (by simp) ?_;intro v' w' hO' hgr;have HO2:=zh hO';have HQ2:=zh (Ext.grown ((zr w).alloc _) hgr (fun k hk=>by cases hk;exact Nat.le_refl _));clear hO' hgr;obtain⟨ao2,co2,rfl,_⟩:=HO2.out.form)
  go_ret;exact⟨_,F',rfl,by simpa using HO2.out,fun b hb=>by simp[hb],List.sublist_cons_self _ _,HQ2.out⟩
theorem zIs(n c:Nat)(w:World)(a:Option Addr)(hc:n<=c)(hl:c<=9223372036854775807) :
  Calls Tryz.prog 102 #[.slice a n c] w fun e w'=>e = .returned (.slice a n n)/\w=w':=by
 go_enter Tryz.func102,Tryz.ntmps102;go_wp2;go_ret;exact⟨rfl,rfl⟩
theorem zJv(v:Value)(xs:List Core)(w:World)(F:List Nat)(h:Sl w v xs F)(hn:xs.length<=100000000) :
  Calls Tryz.prog 52 #[v] w fun e w' => ∃ v' F',e = .returned v'/\Oh w.heap.size w' v' xs F'/\(∀ b∈F',b∈F)/\F'.Sublist F/\Ext w w':=by
 obtain⟨a,c,rfl,hl⟩:=Rs.form ⟨F,h⟩;have H:=zh h;clear h;go_enter Tryz.func52,Tryz.ntmps52;go_wp2_with fail
 refine(zHx _ _ _ _ H.out hn).mono ?_;rintro e w1 ⟨v1,F1,rfl,ho,hF,hsub,he⟩;obtain⟨a1,c1,rfl,_⟩:=ho.form;have hcp:=ho.cap;have HO:=zh ho.oh;have HX:=zh (And.intro hF (And.intro hsub he));clear ho hF hsub he;go_wp2_with fail
 refine(zIs _ _ _ _ hcp.1 hcp.2).mono ?_;rintro e w2 ⟨rfl,rfl⟩;go_wp2;go_ret;exact⟨_,F1,rfl,HO.out,HX.out⟩
theorem zPi:El Tryz.prog 69 Hold:=El.of (z:=.agg #[.slice none 0 0]) (n:=1) (b:=24) (by kernel_rfl) rfl rfl (by decide)
theorem zHy(v:Value)(xs:List Hold)(w:World)(F:List Nat)(h:Sl w v xs F)(hn:xs.length<=100000000) :
  Calls Tryz.prog 105 #[v] w fun e w' => ∃ v' F',e = .returned v'/\Oa 69 w.heap.size w' v' xs F'/\(∀ b∈F',b∈F)/\F'.Sublist F/\Ext w w':=by
 have hnil:∀ (a:Option Addr) (n c:Nat),(binOp .eql 30 (.slice a n c) (.slice none 0 0)).run Tryz.prog w = .ok (.bool a.isNone) w:=fun a n c=>Go.Lib.run_eql_slice_nil w 30 69 a n c 0 0 Tryz.underlying30
 obtain⟨a,c,rfl,hl,hc,⟨rfl,rfl⟩ | ⟨hne,b,o,F',rfl,rfl,hr⟩⟩:=h
 ·cases a with
  | none =>
   go_enter Tryz.func105,Tryz.ntmps105;go_wp2;go_ret;exact⟨_,[],rfl,Oa.nil _ _ _,by simp,by simp,zr _⟩
  | some p =>
   go_enter Tryz.func105,Tryz.ntmps105;go_wp2;go_ret;exact⟨_,[],rfl,Oa.lit0 _ _,by simp,by simp,(zr _).alloc _⟩
 ·have hpos:0 < xs.length:=List.length_pos_iff.2 hne;have HR:Hid (∀ ob,Row (w.alloc ob) b o xs F'):=zh (fun ob=>hr.keep (((zr w).alloc ob).block b (hr.lt hne)) (fun k hk=>((zr w).alloc ob).block k (hr.inh k hk)))
  have HI:Hid (∀ k∈F',k < w.heap.size):=zh hr.inh;clear hr;go_enter Tryz.func105,Tryz.ntmps105;go_wp2_with (at_builtin;refine zC9 (α:=Hold) rfl _ _ 30 rfl 69 Tryz.underlying30 zPi (L:=w.heap.size) (v:=.slice (some ⟨w.heap.size,0,none⟩) 0 0) (xs:=[]) (ys:=xs) rfl (Oa.lit0 _ _) rfl rfl (HR.out _) (by omega) (fun k hk e=>by cases e;exact absurd (HI.out _ hk) (Nat.lt_irrefl _)) (by simp;omega) (by simp) ?_;intro v' w' hO' hgr;have HO2:=zh hO';have HQ2:=zh (Ext.grown ((zr w).alloc _) hgr (fun k hk=>by cases hk;exact Nat.le_refl _));clear hO' hgr;obtain⟨ao2,co2,rfl,_⟩:=HO2.out.form)
  go_ret;exact⟨_,F',rfl,by simpa using HO2.out,fun b hb=>by simp[hb],List.sublist_cons_self _ _,HQ2.out⟩
theorem zIt(n c:Nat)(w:World)(a:Option Addr)(hc:n<=c)(hl:c<=9223372036854775807) :
  Calls Tryz.prog 104 #[.slice a n c] w fun e w'=>e = .returned (.slice a n n)/\w=w':=by
 go_enter Tryz.func104,Tryz.ntmps104;go_wp2;go_ret;exact⟨rfl,rfl⟩
theorem zJw(v:Value)(xs:List Hold)(w:World)(F:List Nat)(h:Sl w v xs F)(hn:xs.length<=100000000) :
  Calls Tryz.prog 53 #[v] w fun e w' => ∃ v' F',e = .returned v'/\Oh w.heap.size w' v' xs F'/\(∀ b∈F',b∈F)/\F'.Sublist F/\Ext w w':=by
 obtain⟨a,c,rfl,hl⟩:=Rs.form ⟨F,h⟩;have H:=zh h;clear h;go_enter Tryz.func53,Tryz.ntmps53;go_wp2_with fail
 refine(zHy _ _ _ _ H.out hn).mono ?_;rintro e w1 ⟨v1,F1,rfl,ho,hF,hsub,he⟩;obtain⟨a1,c1,rfl,_⟩:=ho.form;have hcp:=ho.cap;have HO:=zh ho.oh;have HX:=zh (And.intro hF (And.intro hsub he));clear ho hF hsub he;go_wp2_with fail
 refine(zIt _ _ _ _ hcp.1 hcp.2).mono ?_;rintro e w2 ⟨rfl,rfl⟩;go_wp2;go_ret;exact⟨_,F1,rfl,HO.out,HX.out⟩
theorem zPj:El Tryz.prog 32 Machine:=El.of (z:=.agg #[.slice none 0 0,.slice none 0 0,.slice none 0 0,.slice none 0 0,.slice none 0 0,.slice none 0 0,.int .i64 0]) (n:=7) (b:=152) (by kernel_rfl) rfl rfl (by decide)
theorem zG4(v:Value)(xs:List Machine)(w:World)(F:List Nat)(h:Sl w v xs F)(hn:xs.length<=100000000) :
  Calls Tryz.prog 152 #[v] w fun e w' => ∃ v' F',e = .returned v'/\Oa 32 w.heap.size w' v' xs F'/\(∀ b∈F',b∈F)/\F'.Sublist F/\Ext w w':=by
 have hnil:∀ (a:Option Addr) (n c:Nat),(binOp .eql 46 (.slice a n c) (.slice none 0 0)).run Tryz.prog w = .ok (.bool a.isNone) w:=fun a n c=>Go.Lib.run_eql_slice_nil w 46 32 a n c 0 0 Tryz.underlying46
 obtain⟨a,c,rfl,hl,hc,⟨rfl,rfl⟩ | ⟨hne,b,o,F',rfl,rfl,hr⟩⟩:=h
 ·cases a with
  | none =>
   go_enter Tryz.func152,Tryz.ntmps152;go_wp2;go_ret;exact⟨_,[],rfl,Oa.nil _ _ _,by simp,by simp,zr _⟩
  | some p =>
   go_enter Tryz.func152,Tryz.ntmps152;go_wp2;go_ret;exact⟨_,[],rfl,Oa.lit0 _ _,by simp,by simp,(zr _).alloc _⟩
 ·have hpos:0 < xs.length:=List.length_pos_iff.2 hne;have HR:Hid (∀ ob,Row (w.alloc ob) b o xs F'):=zh (fun ob=>hr.keep (((zr w).alloc ob).block b (hr.lt hne)) (fun k hk=>((zr w).alloc ob).block k (hr.inh k hk)))
  have HI:Hid (∀ k∈F',k < w.heap.size):=zh hr.inh;clear hr;go_enter Tryz.func152,Tryz.ntmps152;go_wp2_with (at_builtin;refine zC9 (α:=Machine) rfl _ _ 46 rfl 32 Tryz.underlying46 zPj (L:=w.heap.size) (v:=.slice (some ⟨w.heap.size,0,none⟩) 0 0) (xs:=[]) (ys:=xs) rfl (Oa.lit0 _ _) rfl rfl (HR.out _) (by omega) (fun k hk e=>by cases e;exact absurd (HI.out _ hk) (Nat.lt_irrefl _)) (by simp;omega) (by simp) ?_;intro v' w' hO' hgr;have HO2:=zh hO';have HQ2:=zh (Ext.grown ((zr w).alloc _) hgr (fun k hk=>by cases hk;exact Nat.le_refl _));clear hO' hgr;obtain⟨ao2,co2,rfl,_⟩:=HO2.out.form)
  go_ret;exact⟨_,F',rfl,by simpa using HO2.out,fun b hb=>by simp[hb],List.sublist_cons_self _ _,HQ2.out⟩
theorem zGq(n c:Nat)(w:World)(a:Option Addr)(hc:n<=c)(hl:c<=9223372036854775807) :
  Calls Tryz.prog 151 #[.slice a n c] w fun e w'=>e = .returned (.slice a n n)/\w=w':=by
 go_enter Tryz.func151,Tryz.ntmps151;go_wp2;go_ret;exact⟨rfl,rfl⟩
theorem zHa(v:Value)(xs:List Machine)(w:World)(F:List Nat)(h:Sl w v xs F)(hn:xs.length<=100000000) :
  Calls Tryz.prog 126 #[v] w fun e w' => ∃ v' F',e = .returned v'/\Oh w.heap.size w' v' xs F'/\(∀ b∈F',b∈F)/\F'.Sublist F/\Ext w w':=by
 obtain⟨a,c,rfl,hl⟩:=Rs.form ⟨F,h⟩;have H:=zh h;clear h;go_enter Tryz.func126,Tryz.ntmps126;go_wp2_with fail
 refine(zG4 _ _ _ _ H.out hn).mono ?_;rintro e w1 ⟨v1,F1,rfl,ho,hF,hsub,he⟩;obtain⟨a1,c1,rfl,_⟩:=ho.form;have hcp:=ho.cap;have HO:=zh ho.oh;have HX:=zh (And.intro hF (And.intro hsub he));clear ho hF hsub he;go_wp2_with fail
 refine(zGq _ _ _ _ hcp.1 hcp.2).mono ?_;rintro e w2 ⟨rfl,rfl⟩;go_wp2;go_ret;exact⟨_,F1,rfl,HO.out,HX.out⟩
theorem elWire:El Tryz.prog 48 Wire:=El.of (z:=.agg #[.int .i64 0,.int .i64 0,.int .i64 0,.int .i64 0,.int .i64 0,.int .i64 0]) (n:=6) (b:=48) (by kernel_rfl) rfl rfl (by decide)
theorem zI1(v:Value)(xs:List Wire)(w:World)(F:List Nat)(h:Sl w v xs F)(hn:xs.length<=100000000) :
  Calls Tryz.prog 154 #[v] w fun e w' => ∃ v' F',e = .returned v'/\Oa 48 w.heap.size w' v' xs F'/\(∀ b∈F',b∈F)/\F'.Sublist F/\Ext w w':=by
 have hnil:∀ (a:Option Addr) (n c:Nat),(binOp .eql 49 (.slice a n c) (.slice none 0 0)).run Tryz.prog w = .ok (.bool a.isNone) w:=fun a n c=>Go.Lib.run_eql_slice_nil w 49 48 a n c 0 0 Tryz.underlying49
 obtain⟨a,c,rfl,hl,hc,⟨rfl,rfl⟩ | ⟨hne,b,o,F',rfl,rfl,hr⟩⟩:=h
 ·cases a with
  | none =>
   go_enter Tryz.func154,Tryz.ntmps154;go_wp2;go_ret;exact⟨_,[],rfl,Oa.nil _ _ _,by simp,by simp,zr _⟩
  | some p =>
   go_enter Tryz.func154,Tryz.ntmps154;go_wp2;go_ret;exact⟨_,[],rfl,Oa.lit0 _ _,by simp,by simp,(zr _).alloc _⟩
 ·have hpos:0 < xs.length:=List.length_pos_iff.2 hne;have HR:Hid (∀ ob,Row (w.alloc ob) b o xs F'):=zh (fun ob=>hr.keep (((zr w).alloc ob).block b (hr.lt hne)) (fun k hk=>((zr w).alloc ob).block k (hr.inh k hk)))
  have HI:Hid (∀ k∈F',k < w.heap.size):=zh hr.inh;clear hr;go_enter Tryz.func154,Tryz.ntmps154;go_wp2_with (at_builtin;refine zC9 (α:=Wire) rfl _ _ 49 rfl 48 Tryz.underlying49 elWire (L:=w.heap.size) (v:=.slice (some ⟨w.heap.size,0,none⟩) 0 0) (xs:=[]) (ys:=xs) rfl (Oa.lit0 _ _) rfl rfl (HR.out _) (by omega) (fun k hk e=>by cases e;exact absurd (HI.out _ hk) (Nat.lt_irrefl _)) (by simp;omega) (by simp) ?_;intro v' w' hO' hgr;have HO2:=zh hO';have HQ2:=zh (Ext.grown ((zr w).alloc _) hgr (fun k hk=>by cases hk;exact Nat.le_refl _));clear hO' hgr;obtain⟨ao2,co2,rfl,_⟩:=HO2.out.form)
  go_ret;exact⟨_,F',rfl,by simpa using HO2.out,fun b hb=>by simp[hb],List.sublist_cons_self _ _,HQ2.out⟩
theorem zIw(n c:Nat)(w:World)(a:Option Addr)(hc:n<=c)(hl:c<=9223372036854775807) :
  Calls Tryz.prog 153 #[.slice a n c] w fun e w'=>e = .returned (.slice a n n)/\w=w':=by
 go_enter Tryz.func153,Tryz.ntmps153;go_wp2;go_ret;exact⟨rfl,rfl⟩
theorem zJz(v:Value)(xs:List Wire)(w:World)(F:List Nat)(h:Sl w v xs F)(hn:xs.length<=100000000) :
  Calls Tryz.prog 127 #[v] w fun e w' => ∃ v' F',e = .returned v'/\Oh w.heap.size w' v' xs F'/\(∀ b∈F',b∈F)/\F'.Sublist F/\Ext w w':=by
 obtain⟨a,c,rfl,hl⟩:=Rs.form ⟨F,h⟩;have H:=zh h;clear h;go_enter Tryz.func127,Tryz.ntmps127;go_wp2_with fail
 refine(zI1 _ _ _ _ H.out hn).mono ?_;rintro e w1 ⟨v1,F1,rfl,ho,hF,hsub,he⟩;obtain⟨a1,c1,rfl,_⟩:=ho.form;have hcp:=ho.cap;have HO:=zh ho.oh;have HX:=zh (And.intro hF (And.intro hsub he));clear ho hF hsub he;go_wp2_with fail
 refine(zIw _ _ _ _ hcp.1 hcp.2).mono ?_;rintro e w2 ⟨rfl,rfl⟩;go_wp2;go_ret;exact⟨_,F1,rfl,HO.out,HX.out⟩
end Sk
