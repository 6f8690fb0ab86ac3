/- Contracts of functions of the given program. -/
import Derived.Lib.SliceRun
import Derived.Test.YtoiekmaenlegcaaGreatNums
namespace Sk
open Go Go.Proofs Go.RowKit
set_option maxHeartbeats 400000
set_option maxRecDepth 100000
set_option linter.unusedVariables false
set_option linter.unusedSimpArgs false
def Oh{α:Type}[GT α](L:Nat)(w:World)(v:Value)(xs:List α)(F:List Nat):Prop :=
 (v = .slice none 0 0/\xs = []/\F = [])\/∃ g,v = .slice (some ⟨g,0,none⟩) xs.length xs.length/\L<=g/\Fz w g/\xs.length<=maxLen/\Row w g 0 xs F/\g ∉ F
theorem Oa.oh{α:Type}[GT α]{e:TypeId}{L:Nat}{w:World}{a:Option Addr}{n c:Nat}{xs:List α}{F:List Nat}(h:Oa e L w (.slice a n c) xs F):Oh L w (.slice a n n) xs F:=by
 rcases h with ⟨h,rfl,rfl⟩ | ⟨g,cap,cur,h,hL,hg,hl,hc,hs,hr,hn⟩
 ·cases h;exact .inl ⟨rfl,rfl,rfl⟩
 ·cases h;exact .inr ⟨g,rfl,hL,⟨_,_,Bk.ofA hg⟩,Nat.le_trans hl hc,hr,hn⟩
theorem Oh.os{α:Type}[GT α]{L:Nat}{w:World}{v:Value}{xs:List α}(h:Oh L w v xs []):Os L w v xs:=by
 rcases h with ⟨rfl,rfl,_⟩ | ⟨g,rfl,hL,hz,hl,hr,_⟩
 ·exact⟨[],⟨none,0,rfl,Nat.le_refl _,Nat.zero_le _,.inl ⟨rfl,rfl⟩⟩,Own.nil _ _⟩
 ·by_cases hx:xs = []
  ·subst hx;exact⟨[],⟨some ⟨g,0,none⟩,0,rfl,Nat.le_refl _,Nat.zero_le _,.inl ⟨rfl,rfl⟩⟩,Own.nil _ _⟩
  ·exact⟨[g],⟨_,_,rfl,Nat.le_refl _,hl,.inr ⟨hx,g,0,[],rfl,rfl,hr⟩⟩,by simp,fun b hb=>by rw[List.mem_singleton] at hb;subst hb;exact⟨hL,hz⟩⟩
theorem zIe(v:Value)(xs:List Int)(w:World)(F:List Nat)(h:Sl w v xs F)(hn:xs.length<=100000000) :
  Calls Tryz.prog 135 #[v] w fun e w' => ∃ v' F',e = .returned v'/\Oa 3 w.heap.size w' v' xs F'/\(∀ b∈F',b∈F)/\F'.Sublist F/\Ext w w':=by
 have hnil:∀ (a:Option Addr) (n c:Nat),(binOp .eql 36 (.slice a n c) (.slice none 0 0)).run Tryz.prog w = .ok (.bool a.isNone) w:=fun a n c=>Go.Lib.run_eql_slice_nil w 36 3 a n c 0 0 Tryz.underlying36
 obtain⟨a,c,rfl,hl,hc,⟨rfl,rfl⟩ | ⟨hne,b,o,F',rfl,rfl,hr⟩⟩:=h
 ·cases a with
  | none =>
   go_enter Tryz.func135,Tryz.ntmps135;go_wp2;go_ret;exact⟨_,[],rfl,Oa.nil _ _ _,by simp,by simp,zr _⟩
  | some p =>
   go_enter Tryz.func135,Tryz.ntmps135;go_wp2;go_ret;exact⟨_,[],rfl,Oa.lit0 _ _,by simp,by simp,(zr _).alloc _⟩
 ·have hpos:0 < xs.length:=List.length_pos_iff.2 hne;have HR:Hid (∀ ob,Row (w.alloc ob) b o xs F'):=zh (fun ob=>hr.keep (((zr w).alloc ob).block b (hr.lt hne)) (fun k hk=>((zr w).alloc ob).block k (hr.inh k hk)))
  have HI:Hid (∀ k∈F',k < w.heap.size):=zh hr.inh;clear hr;go_enter Tryz.func135,Tryz.ntmps135;go_wp2_with (at_builtin;refine zE1 (α:=Int) rfl _ _ 36 rfl 3 Tryz.underlying36 zDq (L:=w.heap.size) (v:=.slice (some ⟨w.heap.size,0,none⟩) 0 0) (xs:=[]) (ys:=xs) rfl (Oa.lit0 _ _) rfl rfl (HR.out _) (by omega) (fun k hk e=>by cases e;exact absurd (HI.out _ hk) (Nat.lt_irrefl _)) (by simp;omega) (by simp) ?_;intro v' w' hO' hgr;have HO2:=zh hO';have HQ2:=zh (Ext.grown ((zr w).alloc _) hgr (fun k hk=>by cases hk;exact Nat.le_refl _));clear hO' hgr;obtain⟨ao2,co2,rfl,_⟩:=HO2.out.form)
  go_ret;exact⟨_,F',rfl,by simpa using HO2.out,fun b hb=>by simp[hb],List.sublist_cons_self _ _,HQ2.out⟩
theorem zJt(v:Value)(xs:List Int)(w:World)(F:List Nat)(h:Sl w v xs F)(hn:xs.length<=100000000) :
  Calls Tryz.prog 85 #[v] w fun e w' => ∃ v' F',e = .returned v'/\Oh w.heap.size w' v' xs F'/\(∀ b∈F',b∈F)/\F'.Sublist F/\Ext w w':=by
 obtain⟨a,c,rfl,hl⟩:=Rs.form ⟨F,h⟩;have H:=zh h;clear h;go_enter Tryz.func85,Tryz.ntmps85;go_wp2_with fail
 refine(zIe _ _ _ _ H.out hn).mono ?_;rintro e w1 ⟨v1,F1,rfl,ho,hF,hsub,he⟩;obtain⟨a1,c1,rfl,_⟩:=ho.form;have hcp:=ho.cap;have HO:=zh ho.oh;have HX:=zh (And.intro hF (And.intro hsub he));clear ho hF hsub he;go_wp2_with fail
 refine(zF2 _ xs _ _ _ rfl hcp.1 hcp.2).mono ?_;rintro e w2 ⟨rfl,rfl⟩;go_wp2;go_ret;exact⟨_,F1,rfl,HO.out,HX.out⟩
theorem zIt:El Tryz.prog 80 Window:=El.of (z:=.agg #[.int .i64 0,.int .i64 0,.bool false]) (n:=3) (b:=24) (by kernel_rfl) rfl rfl (by decide)
theorem zG9(v:Value)(xs:List Window)(w:World)(F:List Nat)(h:Sl w v xs F)(hn:xs.length<=100000000) :
  Calls Tryz.prog 166 #[v] w fun e w' => ∃ v' F',e = .returned v'/\Oa 80 w.heap.size w' v' xs F'/\(∀ b∈F',b∈F)/\F'.Sublist F/\Ext w w':=by
 have hnil:∀ (a:Option Addr) (n c:Nat),(binOp .eql 81 (.slice a n c) (.slice none 0 0)).run Tryz.prog w = .ok (.bool a.isNone) w:=fun a n c=>Go.Lib.run_eql_slice_nil w 81 80 a n c 0 0 Tryz.underlying81
 obtain⟨a,c,rfl,hl,hc,⟨rfl,rfl⟩ | ⟨hne,b,o,F',rfl,rfl,hr⟩⟩:=h
 ·cases a with
  | none =>
   go_enter Tryz.func166,Tryz.ntmps166;go_wp2;go_ret;exact⟨_,[],rfl,Oa.nil _ _ _,by simp,by simp,zr _⟩
  | some p =>
   go_enter Tryz.func166,Tryz.ntmps166;go_wp2;go_ret;exact⟨_,[],rfl,Oa.lit0 _ _,by simp,by simp,(zr _).alloc _⟩
 ·have hpos:0 < xs.length:=List.length_pos_iff.2 hne;have HR:Hid (∀ ob,Row (w.alloc ob) b o xs F'):=zh (fun ob=>hr.keep (((zr w).alloc ob).block b (hr.lt hne)) (fun k hk=>((zr w).alloc ob).block k (hr.inh k hk)))
  have HI:Hid (∀ k∈F',k < w.heap.size):=zh hr.inh;clear hr;go_enter Tryz.func166,Tryz.ntmps166;go_wp2_with (at_builtin;refine zE1 (α:=Window) rfl _ _ 81 rfl 80 Tryz.underlying81 zIt (L:=w.heap.size) (v:=.slice (some ⟨w.heap.size,0,none⟩) 0 0) (xs:=[]) (ys:=xs) rfl (Oa.lit0 _ _) rfl rfl (HR.out _) (by omega) (fun k hk e=>by cases e;exact absurd (HI.out _ hk) (Nat.lt_irrefl _)) (by simp;omega) (by simp) ?_;intro v' w' hO' hgr;have HO2:=zh hO';have HQ2:=zh (Ext.grown ((zr w).alloc _) hgr (fun k hk=>by cases hk;exact Nat.le_refl _));clear hO' hgr;obtain⟨ao2,co2,rfl,_⟩:=HO2.out.form)
  go_ret;exact⟨_,F',rfl,by simpa using HO2.out,fun b hb=>by simp[hb],List.sublist_cons_self _ _,HQ2.out⟩
theorem zGq(n c:Nat)(w:World)(a:Option Addr)(hc:n<=c)(hl:c<=9223372036854775807) :
  Calls Tryz.prog 165 #[.slice a n c] w fun e w'=>e = .returned (.slice a n n)/\w=w':=by
 go_enter Tryz.func165,Tryz.ntmps165;go_wp2;go_ret;exact⟨rfl,rfl⟩
theorem zH8(v:Value)(xs:List Window)(w:World)(F:List Nat)(h:Sl w v xs F)(hn:xs.length<=100000000) :
  Calls Tryz.prog 125 #[v] w fun e w' => ∃ v' F',e = .returned v'/\Oh w.heap.size w' v' xs F'/\(∀ b∈F',b∈F)/\F'.Sublist F/\Ext w w':=by
 obtain⟨a,c,rfl,hl⟩:=Rs.form ⟨F,h⟩;have H:=zh h;clear h;go_enter Tryz.func125,Tryz.ntmps125;go_wp2_with fail
 refine(zG9 _ _ _ _ H.out hn).mono ?_;rintro e w1 ⟨v1,F1,rfl,ho,hF,hsub,he⟩;obtain⟨a1,c1,rfl,_⟩:=ho.form;have hcp:=ho.cap;have HO:=zh ho.oh;have HX:=zh (And.intro hF (And.intro hsub he));clear ho hF hsub he;go_wp2_with fail
 refine(zGq _ _ _ _ hcp.1 hcp.2).mono ?_;rintro e w2 ⟨rfl,rfl⟩;go_wp2;go_ret;exact⟨_,F1,rfl,HO.out,HX.out⟩
theorem zMg:El Tryz.prog 110 Part:=El.of (z:=.agg #[.slice none 0 0,.int .i64 0]) (n:=2) (b:=32) (by kernel_rfl) rfl rfl (by decide)
theorem zHe(v:Value)(xs:List Part)(w:World)(F:List Nat)(h:Sl w v xs F)(hn:xs.length<=100000000) :
  Calls Tryz.prog 160 #[v] w fun e w' => ∃ v' F',e = .returned v'/\Oa 110 w.heap.size w' v' xs F'/\(∀ b∈F',b∈F)/\F'.Sublist F/\Ext w w':=by
 have hnil:∀ (a:Option Addr) (n c:Nat),(binOp .eql 23 (.slice a n c) (.slice none 0 0)).run Tryz.prog w = .ok (.bool a.isNone) w:=fun a n c=>Go.Lib.run_eql_slice_nil w 23 110 a n c 0 0 Tryz.underlying23
 obtain⟨a,c,rfl,hl,hc,⟨rfl,rfl⟩ | ⟨hne,b,o,F',rfl,rfl,hr⟩⟩:=h
 ·cases a with
  | none =>
   go_enter Tryz.func160,Tryz.ntmps160;go_wp2;go_ret;exact⟨_,[],rfl,Oa.nil _ _ _,by simp,by simp,zr _⟩
  | some p =>
   go_enter Tryz.func160,Tryz.ntmps160;go_wp2;go_ret;exact⟨_,[],rfl,Oa.lit0 _ _,by simp,by simp,(zr _).alloc _⟩
 ·have hpos:0 < xs.length:=List.length_pos_iff.2 hne;have HR:Hid (∀ ob,Row (w.alloc ob) b o xs F'):=zh (fun ob=>hr.keep (((zr w).alloc ob).block b (hr.lt hne)) (fun k hk=>((zr w).alloc ob).block k (hr.inh k hk)))
  have HI:Hid (∀ k∈F',k < w.heap.size):=zh hr.inh;clear hr;go_enter Tryz.func160,Tryz.ntmps160;go_wp2_with (at_builtin;refine zE1 (α:=Part) rfl _ _ 23 rfl 110 Tryz.underlying23 zMg (L:=w.heap.size) (v:=.slice (some ⟨w.heap.size,0,none⟩) 0 0) (xs:=[]) (ys:=xs) rfl (Oa.lit0 _ _) rfl rfl (HR.out _) (by omega) (fun k hk e=>by cases e;exact absurd (HI.out _ hk) (Nat.lt_irrefl _)) (by simp;omega) (by simp) ?_;intro v' w' hO' hgr;have HO2:=zh hO';have HQ2:=zh (Ext.grown ((zr w).alloc _) hgr (fun k hk=>by cases hk;exact Nat.le_refl _));clear hO' hgr;obtain⟨ao2,co2,rfl,_⟩:=HO2.out.form)
  go_ret;exact⟨_,F',rfl,by simpa using HO2.out,fun b hb=>by simp[hb],List.sublist_cons_self _ _,HQ2.out⟩
theorem zIc(n c:Nat)(w:World)(a:Option Addr)(hc:n<=c)(hl:c<=9223372036854775807) :
  Calls Tryz.prog 159 #[.slice a n c] w fun e w'=>e = .returned (.slice a n n)/\w=w':=by
 go_enter Tryz.func159,Tryz.ntmps159;go_wp2;go_ret;exact⟨rfl,rfl⟩
theorem zJb(v:Value)(xs:List Part)(w:World)(F:List Nat)(h:Sl w v xs F)(hn:xs.length<=100000000) :
  Calls Tryz.prog 122 #[v] w fun e w' => ∃ v' F',e = .returned v'/\Oh w.heap.size w' v' xs F'/\(∀ b∈F',b∈F)/\F'.Sublist F/\Ext w w':=by
 obtain⟨a,c,rfl,hl⟩:=Rs.form ⟨F,h⟩;have H:=zh h;clear h;go_enter Tryz.func122,Tryz.ntmps122;go_wp2_with fail
 refine(zHe _ _ _ _ H.out hn).mono ?_;rintro e w1 ⟨v1,F1,rfl,ho,hF,hsub,he⟩;obtain⟨a1,c1,rfl,_⟩:=ho.form;have hcp:=ho.cap;have HO:=zh ho.oh;have HX:=zh (And.intro hF (And.intro hsub he));clear ho hF hsub he;go_wp2_with fail
 refine(zIc _ _ _ _ hcp.1 hcp.2).mono ?_;rintro e w2 ⟨rfl,rfl⟩;go_wp2;go_ret;exact⟨_,F1,rfl,HO.out,HX.out⟩
theorem zGi:El Tryz.prog 49 Channel:=El.of (z:=.agg #[.int .i64 0,.int .i64 0,.int .i64 0,.int .i64 0]) (n:=4) (b:=32) (by kernel_rfl) rfl rfl (by decide)
theorem zFj(v:Value)(xs:List Channel)(w:World)(F:List Nat)(h:Sl w v xs F)(hn:xs.length<=100000000) :
  Calls Tryz.prog 162 #[v] w fun e w' => ∃ v' F',e = .returned v'/\Oa 49 w.heap.size w' v' xs F'/\(∀ b∈F',b∈F)/\F'.Sublist F/\Ext w w':=by
 have hnil:∀ (a:Option Addr) (n c:Nat),(binOp .eql 24 (.slice a n c) (.slice none 0 0)).run Tryz.prog w = .ok (.bool a.isNone) w:=fun a n c=>Go.Lib.run_eql_slice_nil w 24 49 a n c 0 0 Tryz.underlying24
 obtain⟨a,c,rfl,hl,hc,⟨rfl,rfl⟩ | ⟨hne,b,o,F',rfl,rfl,hr⟩⟩:=h
 ·cases a with
  | none =>
   go_enter Tryz.func162,Tryz.ntmps162;go_wp2;go_ret;exact⟨_,[],rfl,Oa.nil _ _ _,by simp,by simp,zr _⟩
  | some p =>
   go_enter Tryz.func162,Tryz.ntmps162;go_wp2;go_ret;exact⟨_,[],rfl,Oa.lit0 _ _,by simp,by simp,(zr _).alloc _⟩
 ·have hpos:0 < xs.length:=List.length_pos_iff.2 hne;have HR:Hid (∀ ob,Row (w.alloc ob) b o xs F'):=zh (fun ob=>hr.keep (((zr w).alloc ob).block b (hr.lt hne)) (fun k hk=>((zr w).alloc ob).block k (hr.inh k hk)))
  have HI:Hid (∀ k∈F',k < w.heap.size):=zh hr.inh;clear hr;go_enter Tryz.func162,Tryz.ntmps162;go_wp2_with (at_builtin;refine zE1 (α:=Channel) rfl _ _ 24 rfl 49 Tryz.underlying24 zGi (L:=w.heap.size) (v:=.slice (some ⟨w.heap.size,0,none⟩) 0 0) (xs:=[]) (ys:=xs) rfl (Oa.lit0 _ _) rfl rfl (HR.out _) (by omega) (fun k hk e=>by cases e;exact absurd (HI.out _ hk) (Nat.lt_irrefl _)) (by simp;omega) (by simp) ?_;intro v' w' hO' hgr;have HO2:=zh hO';have HQ2:=zh (Ext.grown ((zr w).alloc _) hgr (fun k hk=>by cases hk;exact Nat.le_refl _));clear hO' hgr;obtain⟨ao2,co2,rfl,_⟩:=HO2.out.form)
  go_ret;exact⟨_,F',rfl,by simpa using HO2.out,fun b hb=>by simp[hb],List.sublist_cons_self _ _,HQ2.out⟩
theorem zG6(n c:Nat)(w:World)(a:Option Addr)(hc:n<=c)(hl:c<=9223372036854775807) :
  Calls Tryz.prog 161 #[.slice a n c] w fun e w'=>e = .returned (.slice a n n)/\w=w':=by
 go_enter Tryz.func161,Tryz.ntmps161;go_wp2;go_ret;exact⟨rfl,rfl⟩
theorem zGm(v:Value)(xs:List Channel)(w:World)(F:List Nat)(h:Sl w v xs F)(hn:xs.length<=100000000) :
  Calls Tryz.prog 123 #[v] w fun e w' => ∃ v' F',e = .returned v'/\Oh w.heap.size w' v' xs F'/\(∀ b∈F',b∈F)/\F'.Sublist F/\Ext w w':=by
 obtain⟨a,c,rfl,hl⟩:=Rs.form ⟨F,h⟩;have H:=zh h;clear h;go_enter Tryz.func123,Tryz.ntmps123;go_wp2_with fail
 refine(zFj _ _ _ _ H.out hn).mono ?_;rintro e w1 ⟨v1,F1,rfl,ho,hF,hsub,he⟩;obtain⟨a1,c1,rfl,_⟩:=ho.form;have hcp:=ho.cap;have HO:=zh ho.oh;have HX:=zh (And.intro hF (And.intro hsub he));clear ho hF hsub he;go_wp2_with fail
 refine(zG6 _ _ _ _ hcp.1 hcp.2).mono ?_;rintro e w2 ⟨rfl,rfl⟩;go_wp2;go_ret;exact⟨_,F1,rfl,HO.out,HX.out⟩
theorem zMh:El Tryz.prog 120 Slot:=El.of (z:=.agg #[.int .i64 0,.int .i64 0]) (n:=2) (b:=16) (by kernel_rfl) rfl rfl (by decide)
theorem zHf(v:Value)(xs:List Slot)(w:World)(F:List Nat)(h:Sl w v xs F)(hn:xs.length<=100000000) :
  Calls Tryz.prog 164 #[v] w fun e w' => ∃ v' F',e = .returned v'/\Oa 120 w.heap.size w' v' xs F'/\(∀ b∈F',b∈F)/\F'.Sublist F/\Ext w w':=by
 have hnil:∀ (a:Option Addr) (n c:Nat),(binOp .eql 25 (.slice a n c) (.slice none 0 0)).run Tryz.prog w = .ok (.bool a.isNone) w:=fun a n c=>Go.Lib.run_eql_slice_nil w 25 120 a n c 0 0 Tryz.underlying25
 obtain⟨a,c,rfl,hl,hc,⟨rfl,rfl⟩ | ⟨hne,b,o,F',rfl,rfl,hr⟩⟩:=h
 ·cases a with
  | none =>
   go_enter Tryz.func164,Tryz.ntmps164;go_wp2;go_ret;exact⟨_,[],rfl,Oa.nil _ _ _,by simp,by simp,zr _⟩
  | some p =>
   go_enter Tryz.func164,Tryz.ntmps164;go_wp2;go_ret;exact⟨_,[],rfl,Oa.lit0 _ _,by simp,by simp,(zr _).alloc _⟩
 ·have hpos:0 < xs.length:=List.length_pos_iff.2 hne;have HR:Hid (∀ ob,Row (w.alloc ob) b o xs F'):=zh (fun ob=>hr.keep (((zr w).alloc ob).block b (hr.lt hne)) (fun k hk=>((zr w).alloc ob).block k (hr.inh k hk)))
  have HI:Hid (∀ k∈F',k < w.heap.size):=zh hr.inh;clear hr;go_enter Tryz.func164,Tryz.ntmps164;go_wp2_with (at_builtin;refine zE1 (α:=Slot) rfl _ _ 25 rfl 120 Tryz.underlying25 zMh (L:=w.heap.size) (v:=.slice (some ⟨w.heap.size,0,none⟩) 0 0) (xs:=[]) (ys:=xs) rfl (Oa.lit0 _ _) rfl rfl (HR.out _) (by omega) (fun k hk e=>by cases e;exact absurd (HI.out _ hk) (Nat.lt_irrefl _)) (by simp;omega) (by simp) ?_;intro v' w' hO' hgr;have HO2:=zh hO';have HQ2:=zh (Ext.grown ((zr w).alloc _) hgr (fun k hk=>by cases hk;exact Nat.le_refl _));clear hO' hgr;obtain⟨ao2,co2,rfl,_⟩:=HO2.out.form)
  go_ret;exact⟨_,F',rfl,by simpa using HO2.out,fun b hb=>by simp[hb],List.sublist_cons_self _ _,HQ2.out⟩
theorem zId(n c:Nat)(w:World)(a:Option Addr)(hc:n<=c)(hl:c<=9223372036854775807) :
  Calls Tryz.prog 163 #[.slice a n c] w fun e w'=>e = .returned (.slice a n n)/\w=w':=by
 go_enter Tryz.func163,Tryz.ntmps163;go_wp2;go_ret;exact⟨rfl,rfl⟩
theorem zJc(v:Value)(xs:List Slot)(w:World)(F:List Nat)(h:Sl w v xs F)(hn:xs.length<=100000000) :
  Calls Tryz.prog 124 #[v] w fun e w' => ∃ v' F',e = .returned v'/\Oh w.heap.size w' v' xs F'/\(∀ b∈F',b∈F)/\F'.Sublist F/\Ext w w':=by
 obtain⟨a,c,rfl,hl⟩:=Rs.form ⟨F,h⟩;have H:=zh h;clear h;go_enter Tryz.func124,Tryz.ntmps124;go_wp2_with fail
 refine(zHf _ _ _ _ H.out hn).mono ?_;rintro e w1 ⟨v1,F1,rfl,ho,hF,hsub,he⟩;obtain⟨a1,c1,rfl,_⟩:=ho.form;have hcp:=ho.cap;have HO:=zh ho.oh;have HX:=zh (And.intro hF (And.intro hsub he));clear ho hF hsub he;go_wp2_with fail
 refine(zId _ _ _ _ hcp.1 hcp.2).mono ?_;rintro e w2 ⟨rfl,rfl⟩;go_wp2;go_ret;exact⟨_,F1,rfl,HO.out,HX.out⟩
theorem zKp:El Tryz.prog 122 Order:=El.of (z:=.agg #[.int .i64 0,.int .i64 0,.int .i64 0]) (n:=3) (b:=24) (by kernel_rfl) rfl rfl (by decide)
theorem zGr(v:Value)(xs:List Order)(w:World)(F:List Nat)(h:Sl w v xs F)(hn:xs.length<=100000000) :
  Calls Tryz.prog 133 #[v] w fun e w' => ∃ v' F',e = .returned v'/\Oa 122 w.heap.size w' v' xs F'/\(∀ b∈F',b∈F)/\F'.Sublist F/\Ext w w':=by
 have hnil:∀ (a:Option Addr) (n c:Nat),(binOp .eql 87 (.slice a n c) (.slice none 0 0)).run Tryz.prog w = .ok (.bool a.isNone) w:=fun a n c=>Go.Lib.run_eql_slice_nil w 87 122 a n c 0 0 Tryz.underlying87
 obtain⟨a,c,rfl,hl,hc,⟨rfl,rfl⟩ | ⟨hne,b,o,F',rfl,rfl,hr⟩⟩:=h
 ·cases a with
  | none =>
   go_enter Tryz.func133,Tryz.ntmps133;go_wp2;go_ret;exact⟨_,[],rfl,Oa.nil _ _ _,by simp,by simp,zr _⟩
  | some p =>
   go_enter Tryz.func133,Tryz.ntmps133;go_wp2;go_ret;exact⟨_,[],rfl,Oa.lit0 _ _,by simp,by simp,(zr _).alloc _⟩
 ·have hpos:0 < xs.length:=List.length_pos_iff.2 hne;have HR:Hid (∀ ob,Row (w.alloc ob) b o xs F'):=zh (fun ob=>hr.keep (((zr w).alloc ob).block b (hr.lt hne)) (fun k hk=>((zr w).alloc ob).block k (hr.inh k hk)))
  have HI:Hid (∀ k∈F',k < w.heap.size):=zh hr.inh;clear hr;go_enter Tryz.func133,Tryz.ntmps133;go_wp2_with (at_builtin;refine zE1 (α:=Order) rfl _ _ 87 rfl 122 Tryz.underlying87 zKp (L:=w.heap.size) (v:=.slice (some ⟨w.heap.size,0,none⟩) 0 0) (xs:=[]) (ys:=xs) rfl (Oa.lit0 _ _) rfl rfl (HR.out _) (by omega) (fun k hk e=>by cases e;exact absurd (HI.out _ hk) (Nat.lt_irrefl _)) (by simp;omega) (by simp) ?_;intro v' w' hO' hgr;have HO2:=zh hO';have HQ2:=zh (Ext.grown ((zr w).alloc _) hgr (fun k hk=>by cases hk;exact Nat.le_refl _));clear hO' hgr;obtain⟨ao2,co2,rfl,_⟩:=HO2.out.form)
  go_ret;exact⟨_,F',rfl,by simpa using HO2.out,fun b hb=>by simp[hb],List.sublist_cons_self _ _,HQ2.out⟩
theorem zHb(n c:Nat)(w:World)(a:Option Addr)(hc:n<=c)(hl:c<=9223372036854775807) :
  Calls Tryz.prog 132 #[.slice a n c] w fun e w'=>e = .returned (.slice a n n)/\w=w':=by
 go_enter Tryz.func132,Tryz.ntmps132;go_wp2;go_ret;exact⟨rfl,rfl⟩
theorem zI8(v:Value)(xs:List Order)(w:World)(F:List Nat)(h:Sl w v xs F)(hn:xs.length<=100000000) :
  Calls Tryz.prog 83 #[v] w fun e w' => ∃ v' F',e = .returned v'/\Oh w.heap.size w' v' xs F'/\(∀ b∈F',b∈F)/\F'.Sublist F/\Ext w w':=by
 obtain⟨a,c,rfl,hl⟩:=Rs.form ⟨F,h⟩;have H:=zh h;clear h;go_enter Tryz.func83,Tryz.ntmps83;go_wp2_with fail
 refine(zGr _ _ _ _ H.out hn).mono ?_;rintro e w1 ⟨v1,F1,rfl,ho,hF,hsub,he⟩;obtain⟨a1,c1,rfl,_⟩:=ho.form;have hcp:=ho.cap;have HO:=zh ho.oh;have HX:=zh (And.intro hF (And.intro hsub he));clear ho hF hsub he;go_wp2_with fail
 refine(zHb _ _ _ _ hcp.1 hcp.2).mono ?_;rintro e w2 ⟨rfl,rfl⟩;go_wp2;go_ret;exact⟨_,F1,rfl,HO.out,HX.out⟩
theorem zIs:El Tryz.prog 87 (List Order):=El.of (z:=.slice none 0 0) (n:=1) (b:=24) (by kernel_rfl) rfl rfl (by decide)
theorem zG8(v:Value)(xs:List (List Order))(w:World)(F:List Nat)(h:Sl w v xs F)(hn:xs.length<=100000000) :
  Calls Tryz.prog 127 #[v] w fun e w' => ∃ v' F',e = .returned v'/\Oa 87 w.heap.size w' v' xs F'/\(∀ b∈F',b∈F)/\F'.Sublist F/\Ext w w':=by
 have hnil:∀ (a:Option Addr) (n c:Nat),(binOp .eql 28 (.slice a n c) (.slice none 0 0)).run Tryz.prog w = .ok (.bool a.isNone) w:=fun a n c=>Go.Lib.run_eql_slice_nil w 28 87 a n c 0 0 Tryz.underlying28
 obtain⟨a,c,rfl,hl,hc,⟨rfl,rfl⟩ | ⟨hne,b,o,F',rfl,rfl,hr⟩⟩:=h
 ·cases a with
  | none =>
   go_enter Tryz.func127,Tryz.ntmps127;go_wp2;go_ret;exact⟨_,[],rfl,Oa.nil _ _ _,by simp,by simp,zr _⟩
  | some p =>
   go_enter Tryz.func127,Tryz.ntmps127;go_wp2;go_ret;exact⟨_,[],rfl,Oa.lit0 _ _,by simp,by simp,(zr _).alloc _⟩
 ·have hpos:0 < xs.length:=List.length_pos_iff.2 hne;have HR:Hid (∀ ob,Row (w.alloc ob) b o xs F'):=zh (fun ob=>hr.keep (((zr w).alloc ob).block b (hr.lt hne)) (fun k hk=>((zr w).alloc ob).block k (hr.inh k hk)))
  have HI:Hid (∀ k∈F',k < w.heap.size):=zh hr.inh;clear hr;go_enter Tryz.func127,Tryz.ntmps127;go_wp2_with (at_builtin;refine zE1 (α:=(List Order)) rfl _ _ 28 rfl 87 Tryz.underlying28 zIs (L:=w.heap.size) (v:=.slice (some ⟨w.heap.size,0,none⟩) 0 0) (xs:=[]) (ys:=xs) rfl (Oa.lit0 _ _) rfl rfl (HR.out _) (by omega) (fun k hk e=>by cases e;exact absurd (HI.out _ hk) (Nat.lt_irrefl _)) (by simp;omega) (by simp) ?_;intro v' w' hO' hgr;have HO2:=zh hO';have HQ2:=zh (Ext.grown ((zr w).alloc _) hgr (fun k hk=>by cases hk;exact Nat.le_refl _));clear hO' hgr;obtain⟨ao2,co2,rfl,_⟩:=HO2.out.form)
  go_ret;exact⟨_,F',rfl,by simpa using HO2.out,fun b hb=>by simp[hb],List.sublist_cons_self _ _,HQ2.out⟩
theorem zGp(n c:Nat)(w:World)(a:Option Addr)(hc:n<=c)(hl:c<=9223372036854775807) :
  Calls Tryz.prog 126 #[.slice a n c] w fun e w'=>e = .returned (.slice a n n)/\w=w':=by
 go_enter Tryz.func126,Tryz.ntmps126;go_wp2;go_ret;exact⟨rfl,rfl⟩
theorem zH7(v:Value)(xs:List (List Order))(w:World)(F:List Nat)(h:Sl w v xs F)(hn:xs.length<=100000000) :
  Calls Tryz.prog 80 #[v] w fun e w' => ∃ v' F',e = .returned v'/\Oh w.heap.size w' v' xs F'/\(∀ b∈F',b∈F)/\F'.Sublist F/\Ext w w':=by
 obtain⟨a,c,rfl,hl⟩:=Rs.form ⟨F,h⟩;have H:=zh h;clear h;go_enter Tryz.func80,Tryz.ntmps80;go_wp2_with fail
 refine(zG8 _ _ _ _ H.out hn).mono ?_;rintro e w1 ⟨v1,F1,rfl,ho,hF,hsub,he⟩;obtain⟨a1,c1,rfl,_⟩:=ho.form;have hcp:=ho.cap;have HO:=zh ho.oh;have HX:=zh (And.intro hF (And.intro hsub he));clear ho hF hsub he;go_wp2_with fail
 refine(zGp _ _ _ _ hcp.1 hcp.2).mono ?_;rintro e w2 ⟨rfl,rfl⟩;go_wp2;go_ret;exact⟨_,F1,rfl,HO.out,HX.out⟩
theorem zMe:El Tryz.prog 47 Core:=El.of (z:=.agg #[.slice none 0 0,.int .i64 0,.bool false]) (n:=3) (b:=40) (by kernel_rfl) rfl rfl (by decide)
theorem zHc(v:Value)(xs:List Core)(w:World)(F:List Nat)(h:Sl w v xs F)(hn:xs.length<=100000000) :
  Calls Tryz.prog 129 #[v] w fun e w' => ∃ v' F',e = .returned v'/\Oa 47 w.heap.size w' v' xs F'/\(∀ b∈F',b∈F)/\F'.Sublist F/\Ext w w':=by
 have hnil:∀ (a:Option Addr) (n c:Nat),(binOp .eql 29 (.slice a n c) (.slice none 0 0)).run Tryz.prog w = .ok (.bool a.isNone) w:=fun a n c=>Go.Lib.run_eql_slice_nil w 29 47 a n c 0 0 Tryz.underlying29
 obtain⟨a,c,rfl,hl,hc,⟨rfl,rfl⟩ | ⟨hne,b,o,F',rfl,rfl,hr⟩⟩:=h
 ·cases a with
  | none =>
   go_enter Tryz.func129,Tryz.ntmps129;go_wp2;go_ret;exact⟨_,[],rfl,Oa.nil _ _ _,by simp,by simp,zr _⟩
  | some p =>
   go_enter Tryz.func129,Tryz.ntmps129;go_wp2;go_ret;exact⟨_,[],rfl,Oa.lit0 _ _,by simp,by simp,(zr _).alloc _⟩
 ·have hpos:0 < xs.length:=List.length_pos_iff.2 hne;have HR:Hid (∀ ob,Row (w.alloc ob) b o xs F'):=zh (fun ob=>hr.keep (((zr w).alloc ob).block b (hr.lt hne)) (fun k hk=>((zr w).alloc ob).block k (hr.inh k hk)))
  have HI:Hid (∀ k∈F',k < w.heap.size):=zh hr.inh;clear hr;go_enter Tryz.func129,Tryz.ntmps129;go_wp2_with (at_builtin;refine zE1 (α:=Core) rfl _ _ 29 rfl 47 Tryz.underlying29 zMe (L:=w.heap.size) (v:=.slice (some ⟨w.heap.size,0,none⟩) 0 0) (xs:=[]) (ys:=xs) rfl (Oa.lit0 _ _) rfl rfl (HR.out _) (by omega) (fun k hk e=>by cases e;exact absurd (HI.out _ hk) (Nat.lt_irrefl _)) (by simp;omega) (by simp) ?_;intro v' w' hO' hgr;have HO2:=zh hO';have HQ2:=zh (Ext.grown ((zr w).alloc _) hgr (fun k hk=>by cases hk;exact Nat.le_refl _));clear hO' hgr;obtain⟨ao2,co2,rfl,_⟩:=HO2.out.form)
  go_ret;exact⟨_,F',rfl,by simpa using HO2.out,fun b hb=>by simp[hb],List.sublist_cons_self _ _,HQ2.out⟩
theorem zIa(n c:Nat)(w:World)(a:Option Addr)(hc:n<=c)(hl:c<=9223372036854775807) :
  Calls Tryz.prog 128 #[.slice a n c] w fun e w'=>e = .returned (.slice a n n)/\w=w':=by
 go_enter Tryz.func128,Tryz.ntmps128;go_wp2;go_ret;exact⟨rfl,rfl⟩
theorem zEz(v:Value)(xs:List Core)(w:World)(F:List Nat)(h:Sl w v xs F)(hn:xs.length<=100000000) :
  Calls Tryz.prog 81 #[v] w fun e w' => ∃ v' F',e = .returned v'/\Oh w.heap.size w' v' xs F'/\(∀ b∈F',b∈F)/\F'.Sublist F/\Ext w w':=by
 obtain⟨a,c,rfl,hl⟩:=Rs.form ⟨F,h⟩;have H:=zh h;clear h;go_enter Tryz.func81,Tryz.ntmps81;go_wp2_with fail
 refine(zHc _ _ _ _ H.out hn).mono ?_;rintro e w1 ⟨v1,F1,rfl,ho,hF,hsub,he⟩;obtain⟨a1,c1,rfl,_⟩:=ho.form;have hcp:=ho.cap;have HO:=zh ho.oh;have HX:=zh (And.intro hF (And.intro hsub he));clear ho hF hsub he;go_wp2_with fail
 refine(zIa _ _ _ _ hcp.1 hcp.2).mono ?_;rintro e w2 ⟨rfl,rfl⟩;go_wp2;go_ret;exact⟨_,F1,rfl,HO.out,HX.out⟩
theorem zMf:El Tryz.prog 52 Hold:=El.of (z:=.agg #[.slice none 0 0]) (n:=1) (b:=24) (by kernel_rfl) rfl rfl (by decide)
theorem zHd(v:Value)(xs:List Hold)(w:World)(F:List Nat)(h:Sl w v xs F)(hn:xs.length<=100000000) :
  Calls Tryz.prog 131 #[v] w fun e w' => ∃ v' F',e = .returned v'/\Oa 52 w.heap.size w' v' xs F'/\(∀ b∈F',b∈F)/\F'.Sublist F/\Ext w w':=by
 have hnil:∀ (a:Option Addr) (n c:Nat),(binOp .eql 30 (.slice a n c) (.slice none 0 0)).run Tryz.prog w = .ok (.bool a.isNone) w:=fun a n c=>Go.Lib.run_eql_slice_nil w 30 52 a n c 0 0 Tryz.underlying30
 obtain⟨a,c,rfl,hl,hc,⟨rfl,rfl⟩ | ⟨hne,b,o,F',rfl,rfl,hr⟩⟩:=h
 ·cases a with
  | none =>
   go_enter Tryz.func131,Tryz.ntmps131;go_wp2;go_ret;exact⟨_,[],rfl,Oa.nil _ _ _,by simp,by simp,zr _⟩
  | some p =>
   go_enter Tryz.func131,Tryz.ntmps131;go_wp2;go_ret;exact⟨_,[],rfl,Oa.lit0 _ _,by simp,by simp,(zr _).alloc _⟩
 ·have hpos:0 < xs.length:=List.length_pos_iff.2 hne;have HR:Hid (∀ ob,Row (w.alloc ob) b o xs F'):=zh (fun ob=>hr.keep (((zr w).alloc ob).block b (hr.lt hne)) (fun k hk=>((zr w).alloc ob).block k (hr.inh k hk)))
  have HI:Hid (∀ k∈F',k < w.heap.size):=zh hr.inh;clear hr;go_enter Tryz.func131,Tryz.ntmps131;go_wp2_with (at_builtin;refine zE1 (α:=Hold) rfl _ _ 30 rfl 52 Tryz.underlying30 zMf (L:=w.heap.size) (v:=.slice (some ⟨w.heap.size,0,none⟩) 0 0) (xs:=[]) (ys:=xs) rfl (Oa.lit0 _ _) rfl rfl (HR.out _) (by omega) (fun k hk e=>by cases e;exact absurd (HI.out _ hk) (Nat.lt_irrefl _)) (by simp;omega) (by simp) ?_;intro v' w' hO' hgr;have HO2:=zh hO';have HQ2:=zh (Ext.grown ((zr w).alloc _) hgr (fun k hk=>by cases hk;exact Nat.le_refl _));clear hO' hgr;obtain⟨ao2,co2,rfl,_⟩:=HO2.out.form)
  go_ret;exact⟨_,F',rfl,by simpa using HO2.out,fun b hb=>by simp[hb],List.sublist_cons_self _ _,HQ2.out⟩
theorem zIb(n c:Nat)(w:World)(a:Option Addr)(hc:n<=c)(hl:c<=9223372036854775807) :
  Calls Tryz.prog 130 #[.slice a n c] w fun e w'=>e = .returned (.slice a n n)/\w=w':=by
 go_enter Tryz.func130,Tryz.ntmps130;go_wp2;go_ret;exact⟨rfl,rfl⟩
theorem zJa(v:Value)(xs:List Hold)(w:World)(F:List Nat)(h:Sl w v xs F)(hn:xs.length<=100000000) :
  Calls Tryz.prog 82 #[v] w fun e w' => ∃ v' F',e = .returned v'/\Oh w.heap.size w' v' xs F'/\(∀ b∈F',b∈F)/\F'.Sublist F/\Ext w w':=by
 obtain⟨a,c,rfl,hl⟩:=Rs.form ⟨F,h⟩;have H:=zh h;clear h;go_enter Tryz.func82,Tryz.ntmps82;go_wp2_with fail
 refine(zHd _ _ _ _ H.out hn).mono ?_;rintro e w1 ⟨v1,F1,rfl,ho,hF,hsub,he⟩;obtain⟨a1,c1,rfl,_⟩:=ho.form;have hcp:=ho.cap;have HO:=zh ho.oh;have HX:=zh (And.intro hF (And.intro hsub he));clear ho hF hsub he;go_wp2_with fail
 refine(zIb _ _ _ _ hcp.1 hcp.2).mono ?_;rintro e w2 ⟨rfl,rfl⟩;go_wp2;go_ret;exact⟨_,F1,rfl,HO.out,HX.out⟩
theorem zGj:El Tryz.prog 44 Health:=El.of (z:=.agg #[.bool false,.int .i64 0]) (n:=2) (b:=16) (by kernel_rfl) rfl rfl (by decide)
theorem zG7(v:Value)(xs:List Health)(w:World)(F:List Nat)(h:Sl w v xs F)(hn:xs.length<=100000000) :
  Calls Tryz.prog 107 #[v] w fun e w' => ∃ v' F',e = .returned v'/\Oa 44 w.heap.size w' v' xs F'/\(∀ b∈F',b∈F)/\F'.Sublist F/\Ext w w':=by
 have hnil:∀ (a:Option Addr) (n c:Nat),(binOp .eql 33 (.slice a n c) (.slice none 0 0)).run Tryz.prog w = .ok (.bool a.isNone) w:=fun a n c=>Go.Lib.run_eql_slice_nil w 33 44 a n c 0 0 Tryz.underlying33
 obtain⟨a,c,rfl,hl,hc,⟨rfl,rfl⟩ | ⟨hne,b,o,F',rfl,rfl,hr⟩⟩:=h
 ·cases a with
  | none =>
   go_enter Tryz.func107,Tryz.ntmps107;go_wp2;go_ret;exact⟨_,[],rfl,Oa.nil _ _ _,by simp,by simp,zr _⟩
  | some p =>
   go_enter Tryz.func107,Tryz.ntmps107;go_wp2;go_ret;exact⟨_,[],rfl,Oa.lit0 _ _,by simp,by simp,(zr _).alloc _⟩
 ·have hpos:0 < xs.length:=List.length_pos_iff.2 hne;have HR:Hid (∀ ob,Row (w.alloc ob) b o xs F'):=zh (fun ob=>hr.keep (((zr w).alloc ob).block b (hr.lt hne)) (fun k hk=>((zr w).alloc ob).block k (hr.inh k hk)))
  have HI:Hid (∀ k∈F',k < w.heap.size):=zh hr.inh;clear hr;go_enter Tryz.func107,Tryz.ntmps107;go_wp2_with (at_builtin;refine zE1 (α:=Health) rfl _ _ 33 rfl 44 Tryz.underlying33 zGj (L:=w.heap.size) (v:=.slice (some ⟨w.heap.size,0,none⟩) 0 0) (xs:=[]) (ys:=xs) rfl (Oa.lit0 _ _) rfl rfl (HR.out _) (by omega) (fun k hk e=>by cases e;exact absurd (HI.out _ hk) (Nat.lt_irrefl _)) (by simp;omega) (by simp) ?_;intro v' w' hO' hgr;have HO2:=zh hO';have HQ2:=zh (Ext.grown ((zr w).alloc _) hgr (fun k hk=>by cases hk;exact Nat.le_refl _));clear hO' hgr;obtain⟨ao2,co2,rfl,_⟩:=HO2.out.form)
  go_ret;exact⟨_,F',rfl,by simpa using HO2.out,fun b hb=>by simp[hb],List.sublist_cons_self _ _,HQ2.out⟩
theorem zGo(n c:Nat)(w:World)(a:Option Addr)(hc:n<=c)(hl:c<=9223372036854775807) :
  Calls Tryz.prog 106 #[.slice a n c] w fun e w'=>e = .returned (.slice a n n)/\w=w':=by
 go_enter Tryz.func106,Tryz.ntmps106;go_wp2;go_ret;exact⟨rfl,rfl⟩
theorem zH6(v:Value)(xs:List Health)(w:World)(F:List Nat)(h:Sl w v xs F)(hn:xs.length<=100000000) :
  Calls Tryz.prog 64 #[v] w fun e w' => ∃ v' F',e = .returned v'/\Oh w.heap.size w' v' xs F'/\(∀ b∈F',b∈F)/\F'.Sublist F/\Ext w w':=by
 obtain⟨a,c,rfl,hl⟩:=Rs.form ⟨F,h⟩;have H:=zh h;clear h;go_enter Tryz.func64,Tryz.ntmps64;go_wp2_with fail
 refine(zG7 _ _ _ _ H.out hn).mono ?_;rintro e w1 ⟨v1,F1,rfl,ho,hF,hsub,he⟩;obtain⟨a1,c1,rfl,_⟩:=ho.form;have hcp:=ho.cap;have HO:=zh ho.oh;have HX:=zh (And.intro hF (And.intro hsub he));clear ho hF hsub he;go_wp2_with fail
 refine(zGo _ _ _ _ hcp.1 hcp.2).mono ?_;rintro e w2 ⟨rfl,rfl⟩;go_wp2;go_ret;exact⟨_,F1,rfl,HO.out,HX.out⟩
end Sk
