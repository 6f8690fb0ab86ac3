/- Contracts of functions of the given program. -/
import Derived.Lib.SliceRun
import Derived.Test.YtidkncgejgngcaaGreatNums
namespace Sk
open Go Go.Proofs Go.RowKit
set_option maxHeartbeats 400000
set_option maxRecDepth 100000
set_option linter.unusedVariables false
set_option linter.unusedSimpArgs false
def Oh{α:Type}[GT α](L:Nat)(w:World)(v:Value)(xs:List α)(F:List Nat):Prop :=
 (v = .slice none 0 0/\xs = []/\F = [])\/∃ g,v = .slice (some ⟨g,0,none⟩) xs.length xs.length/\L<=g/\Fz w g/\xs.length<=maxLen/\Row w g 0 xs F/\g ∉ F
theorem Oa.oh{α:Type}[GT α]{e:TypeId}{L:Nat}{w:World}{a:Option Addr}{n c:Nat}{xs:List α}{F:List Nat}(h:Oa e L w (.slice a n c) xs F):Oh L w (.slice a n n) xs F:=by
 rcases h with ⟨h,rfl,rfl⟩ | ⟨g,cap,cur,h,hL,hg,hl,hc,hs,hr,hn⟩
 ·cases h;exact .inl ⟨rfl,rfl,rfl⟩
 ·cases h;exact .inr ⟨g,rfl,hL,⟨_,_,Bk.ofA hg⟩,Nat.le_trans hl hc,hr,hn⟩
theorem Oh.os{α:Type}[GT α]{L:Nat}{w:World}{v:Value}{xs:List α}(h:Oh L w v xs []):Os L w v xs:=by
 rcases h with ⟨rfl,rfl,_⟩ | ⟨g,rfl,hL,hz,hl,hr,_⟩
 ·exact⟨[],⟨none,0,rfl,Nat.le_refl _,Nat.zero_le _,.inl ⟨rfl,rfl⟩⟩,Own.nil _ _⟩
 ·by_cases hx:xs = []
  ·subst hx;exact⟨[],⟨some ⟨g,0,none⟩,0,rfl,Nat.le_refl _,Nat.zero_le _,.inl ⟨rfl,rfl⟩⟩,Own.nil _ _⟩
  ·exact⟨[g],⟨_,_,rfl,Nat.le_refl _,hl,.inr ⟨hx,g,0,[],rfl,rfl,hr⟩⟩,by simp,fun b hb=>by rw[List.mem_singleton] at hb;subst hb;exact⟨hL,hz⟩⟩
theorem zIg(v:Value)(xs:List Int)(w:World)(F:List Nat)(h:Sl w v xs F)(hn:xs.length<=100000000) :
  Calls Tryz.prog 182 #[v] w fun e w' => ∃ v' F',e = .returned v'/\Oa 3 w.heap.size w' v' xs F'/\(∀ b∈F',b∈F)/\F'.Sublist F/\Ext w w':=by
 have hnil:∀ (a:Option Addr) (n c:Nat),(binOp .eql 36 (.slice a n c) (.slice none 0 0)).run Tryz.prog w = .ok (.bool a.isNone) w:=fun a n c=>Go.Lib.run_eql_slice_nil w 36 3 a n c 0 0 Tryz.underlying36
 obtain⟨a,c,rfl,hl,hc,⟨rfl,rfl⟩ | ⟨hne,b,o,F',rfl,rfl,hr⟩⟩:=h
 ·cases a with
  | none =>
   go_enter Tryz.func182,Tryz.ntmps182;go_wp2;go_ret;exact⟨_,[],rfl,Oa.nil _ _ _,by simp,by simp,zr _⟩
  | some p =>
   go_enter Tryz.func182,Tryz.ntmps182;go_wp2;go_ret;exact⟨_,[],rfl,Oa.lit0 _ _,by simp,by simp,(zr _).alloc _⟩
 ·have hpos:0 < xs.length:=List.length_pos_iff.2 hne;have HR:Hid (∀ ob,Row (w.alloc ob) b o xs F'):=zh (fun ob=>hr.keep (((zr w).alloc ob).block b (hr.lt hne)) (fun k hk=>((zr w).alloc ob).block k (hr.inh k hk)))
  have HI:Hid (∀ k∈F',k < w.heap.size):=zh hr.inh;clear hr;go_enter Tryz.func182,Tryz.ntmps182;go_wp2_with (at_builtin;refine zCw (α:=Int) rfl _ _ 36 rfl 3 Tryz.underlying36 zC0 (L:=w.heap.size) (v:=.slice (some ⟨w.heap.size,0,none⟩) 0 0) (xs:=[]) (ys:=xs) rfl (Oa.lit0 _ _) rfl rfl (HR.out _) (by omega) (fun k hk e=>by cases e;exact absurd (HI.out _ hk) (Nat.lt_irrefl _)) (by simp;omega) (by simp) ?_;intro v' w' hO' hgr;have HO2:=zh hO';have HQ2:=zh (Ext.grown ((zr w).alloc _) hgr (fun k hk=>by cases hk;exact Nat.le_refl _));clear hO' hgr;obtain⟨ao2,co2,rfl,_⟩:=HO2.out.form)
  go_ret;exact⟨_,F',rfl,by simpa using HO2.out,fun b hb=>by simp[hb],List.sublist_cons_self _ _,HQ2.out⟩
theorem zJt(v:Value)(xs:List Int)(w:World)(F:List Nat)(h:Sl w v xs F)(hn:xs.length<=100000000) :
  Calls Tryz.prog 120 #[v] w fun e w' => ∃ v' F',e = .returned v'/\Oh w.heap.size w' v' xs F'/\(∀ b∈F',b∈F)/\F'.Sublist F/\Ext w w':=by
 obtain⟨a,c,rfl,hl⟩:=Rs.form ⟨F,h⟩;have H:=zh h;clear h;go_enter Tryz.func120,Tryz.ntmps120;go_wp2_with fail
 refine(zIg _ _ _ _ H.out hn).mono ?_;rintro e w1 ⟨v1,F1,rfl,ho,hF,hsub,he⟩;obtain⟨a1,c1,rfl,_⟩:=ho.form;have hcp:=ho.cap;have HO:=zh ho.oh;have HX:=zh (And.intro hF (And.intro hsub he));clear ho hF hsub he;go_wp2_with fail
 refine(zCt _ xs _ _ _ rfl hcp.1 hcp.2).mono ?_;rintro e w2 ⟨rfl,rfl⟩;go_wp2;go_ret;exact⟨_,F1,rfl,HO.out,HX.out⟩
theorem zKt:El Tryz.prog 98 Window:=El.of (z:=.agg #[.int .i64 0,.int .i64 0,.bool false]) (n:=3) (b:=24) (by kernel_rfl) rfl rfl (by decide)
theorem zGh(v:Value)(xs:List Window)(w:World)(F:List Nat)(h:Sl w v xs F)(hn:xs.length<=100000000) :
  Calls Tryz.prog 217 #[v] w fun e w' => ∃ v' F',e = .returned v'/\Oa 98 w.heap.size w' v' xs F'/\(∀ b∈F',b∈F)/\F'.Sublist F/\Ext w w':=by
 have hnil:∀ (a:Option Addr) (n c:Nat),(binOp .eql 99 (.slice a n c) (.slice none 0 0)).run Tryz.prog w = .ok (.bool a.isNone) w:=fun a n c=>Go.Lib.run_eql_slice_nil w 99 98 a n c 0 0 Tryz.underlying99
 obtain⟨a,c,rfl,hl,hc,⟨rfl,rfl⟩ | ⟨hne,b,o,F',rfl,rfl,hr⟩⟩:=h
 ·cases a with
  | none =>
   go_enter Tryz.func217,Tryz.ntmps217;go_wp2;go_ret;exact⟨_,[],rfl,Oa.nil _ _ _,by simp,by simp,zr _⟩
  | some p =>
   go_enter Tryz.func217,Tryz.ntmps217;go_wp2;go_ret;exact⟨_,[],rfl,Oa.lit0 _ _,by simp,by simp,(zr _).alloc _⟩
 ·have hpos:0 < xs.length:=List.length_pos_iff.2 hne;have HR:Hid (∀ ob,Row (w.alloc ob) b o xs F'):=zh (fun ob=>hr.keep (((zr w).alloc ob).block b (hr.lt hne)) (fun k hk=>((zr w).alloc ob).block k (hr.inh k hk)))
  have HI:Hid (∀ k∈F',k < w.heap.size):=zh hr.inh;clear hr;go_enter Tryz.func217,Tryz.ntmps217;go_wp2_with (at_builtin;refine zCw (α:=Window) rfl _ _ 99 rfl 98 Tryz.underlying99 zKt (L:=w.heap.size) (v:=.slice (some ⟨w.heap.size,0,none⟩) 0 0) (xs:=[]) (ys:=xs) rfl (Oa.lit0 _ _) rfl rfl (HR.out _) (by omega) (fun k hk e=>by cases e;exact absurd (HI.out _ hk) (Nat.lt_irrefl _)) (by simp;omega) (by simp) ?_;intro v' w' hO' hgr;have HO2:=zh hO';have HQ2:=zh (Ext.grown ((zr w).alloc _) hgr (fun k hk=>by cases hk;exact Nat.le_refl _));clear hO' hgr;obtain⟨ao2,co2,rfl,_⟩:=HO2.out.form)
  go_ret;exact⟨_,F',rfl,by simpa using HO2.out,fun b hb=>by simp[hb],List.sublist_cons_self _ _,HQ2.out⟩
theorem zH1(n c:Nat)(w:World)(a:Option Addr)(hc:n<=c)(hl:c<=9223372036854775807) :
  Calls Tryz.prog 216 #[.slice a n c] w fun e w'=>e = .returned (.slice a n n)/\w=w':=by
 go_enter Tryz.func216,Tryz.ntmps216;go_wp2;go_ret;exact⟨rfl,rfl⟩
theorem zHi(v:Value)(xs:List Window)(w:World)(F:List Nat)(h:Sl w v xs F)(hn:xs.length<=100000000) :
  Calls Tryz.prog 173 #[v] w fun e w' => ∃ v' F',e = .returned v'/\Oh w.heap.size w' v' xs F'/\(∀ b∈F',b∈F)/\F'.Sublist F/\Ext w w':=by
 obtain⟨a,c,rfl,hl⟩:=Rs.form ⟨F,h⟩;have H:=zh h;clear h;go_enter Tryz.func173,Tryz.ntmps173;go_wp2_with fail
 refine(zGh _ _ _ _ H.out hn).mono ?_;rintro e w1 ⟨v1,F1,rfl,ho,hF,hsub,he⟩;obtain⟨a1,c1,rfl,_⟩:=ho.form;have hcp:=ho.cap;have HO:=zh ho.oh;have HX:=zh (And.intro hF (And.intro hsub he));clear ho hF hsub he;go_wp2_with fail
 refine(zH1 _ _ _ _ hcp.1 hcp.2).mono ?_;rintro e w2 ⟨rfl,rfl⟩;go_wp2;go_ret;exact⟨_,F1,rfl,HO.out,HX.out⟩
theorem zOd:El Tryz.prog 125 Part:=El.of (z:=.agg #[.slice none 0 0,.int .i64 0]) (n:=2) (b:=32) (by kernel_rfl) rfl rfl (by decide)
theorem zHn(v:Value)(xs:List Part)(w:World)(F:List Nat)(h:Sl w v xs F)(hn:xs.length<=100000000) :
  Calls Tryz.prog 211 #[v] w fun e w' => ∃ v' F',e = .returned v'/\Oa 125 w.heap.size w' v' xs F'/\(∀ b∈F',b∈F)/\F'.Sublist F/\Ext w w':=by
 have hnil:∀ (a:Option Addr) (n c:Nat),(binOp .eql 23 (.slice a n c) (.slice none 0 0)).run Tryz.prog w = .ok (.bool a.isNone) w:=fun a n c=>Go.Lib.run_eql_slice_nil w 23 125 a n c 0 0 Tryz.underlying23
 obtain⟨a,c,rfl,hl,hc,⟨rfl,rfl⟩ | ⟨hne,b,o,F',rfl,rfl,hr⟩⟩:=h
 ·cases a with
  | none =>
   go_enter Tryz.func211,Tryz.ntmps211;go_wp2;go_ret;exact⟨_,[],rfl,Oa.nil _ _ _,by simp,by simp,zr _⟩
  | some p =>
   go_enter Tryz.func211,Tryz.ntmps211;go_wp2;go_ret;exact⟨_,[],rfl,Oa.lit0 _ _,by simp,by simp,(zr _).alloc _⟩
 ·have hpos:0 < xs.length:=List.length_pos_iff.2 hne;have HR:Hid (∀ ob,Row (w.alloc ob) b o xs F'):=zh (fun ob=>hr.keep (((zr w).alloc ob).block b (hr.lt hne)) (fun k hk=>((zr w).alloc ob).block k (hr.inh k hk)))
  have HI:Hid (∀ k∈F',k < w.heap.size):=zh hr.inh;clear hr;go_enter Tryz.func211,Tryz.ntmps211;go_wp2_with (at_builtin;refine zCw (α:=Part) rfl _ _ 23 rfl 125 Tryz.underlying23 zOd (L:=w.heap.size) (v:=.slice (some ⟨w.heap.size,0,none⟩) 0 0) (xs:=[]) (ys:=xs) rfl (Oa.lit0 _ _) rfl rfl (HR.out _) (by omega) (fun k hk e=>by cases e;exact absurd (HI.out _ hk) (Nat.lt_irrefl _)) (by simp;omega) (by simp) ?_;intro v' w' hO' hgr;have HO2:=zh hO';have HQ2:=zh (Ext.grown ((zr w).alloc _) hgr (fun k hk=>by cases hk;exact Nat.le_refl _));clear hO' hgr;obtain⟨ao2,co2,rfl,_⟩:=HO2.out.form)
  go_ret;exact⟨_,F',rfl,by simpa using HO2.out,fun b hb=>by simp[hb],List.sublist_cons_self _ _,HQ2.out⟩
theorem zIe(n c:Nat)(w:World)(a:Option Addr)(hc:n<=c)(hl:c<=9223372036854775807) :
  Calls Tryz.prog 210 #[.slice a n c] w fun e w'=>e = .returned (.slice a n n)/\w=w':=by
 go_enter Tryz.func210,Tryz.ntmps210;go_wp2;go_ret;exact⟨rfl,rfl⟩
theorem zJ8(v:Value)(xs:List Part)(w:World)(F:List Nat)(h:Sl w v xs F)(hn:xs.length<=100000000) :
  Calls Tryz.prog 170 #[v] w fun e w' => ∃ v' F',e = .returned v'/\Oh w.heap.size w' v' xs F'/\(∀ b∈F',b∈F)/\F'.Sublist F/\Ext w w':=by
 obtain⟨a,c,rfl,hl⟩:=Rs.form ⟨F,h⟩;have H:=zh h;clear h;go_enter Tryz.func170,Tryz.ntmps170;go_wp2_with fail
 refine(zHn _ _ _ _ H.out hn).mono ?_;rintro e w1 ⟨v1,F1,rfl,ho,hF,hsub,he⟩;obtain⟨a1,c1,rfl,_⟩:=ho.form;have hcp:=ho.cap;have HO:=zh ho.oh;have HX:=zh (And.intro hF (And.intro hsub he));clear ho hF hsub he;go_wp2_with fail
 refine(zIe _ _ _ _ hcp.1 hcp.2).mono ?_;rintro e w2 ⟨rfl,rfl⟩;go_wp2;go_ret;exact⟨_,F1,rfl,HO.out,HX.out⟩
theorem zJ1:El Tryz.prog 49 Channel:=El.of (z:=.agg #[.int .i64 0,.int .i64 0,.int .i64 0,.int .i64 0]) (n:=4) (b:=32) (by kernel_rfl) rfl rfl (by decide)
theorem zG0(v:Value)(xs:List Channel)(w:World)(F:List Nat)(h:Sl w v xs F)(hn:xs.length<=100000000) :
  Calls Tryz.prog 213 #[v] w fun e w' => ∃ v' F',e = .returned v'/\Oa 49 w.heap.size w' v' xs F'/\(∀ b∈F',b∈F)/\F'.Sublist F/\Ext w w':=by
 have hnil:∀ (a:Option Addr) (n c:Nat),(binOp .eql 24 (.slice a n c) (.slice none 0 0)).run Tryz.prog w = .ok (.bool a.isNone) w:=fun a n c=>Go.Lib.run_eql_slice_nil w 24 49 a n c 0 0 Tryz.underlying24
 obtain⟨a,c,rfl,hl,hc,⟨rfl,rfl⟩ | ⟨hne,b,o,F',rfl,rfl,hr⟩⟩:=h
 ·cases a with
  | none =>
   go_enter Tryz.func213,Tryz.ntmps213;go_wp2;go_ret;exact⟨_,[],rfl,Oa.nil _ _ _,by simp,by simp,zr _⟩
  | some p =>
   go_enter Tryz.func213,Tryz.ntmps213;go_wp2;go_ret;exact⟨_,[],rfl,Oa.lit0 _ _,by simp,by simp,(zr _).alloc _⟩
 ·have hpos:0 < xs.length:=List.length_pos_iff.2 hne;have HR:Hid (∀ ob,Row (w.alloc ob) b o xs F'):=zh (fun ob=>hr.keep (((zr w).alloc ob).block b (hr.lt hne)) (fun k hk=>((zr w).alloc ob).block k (hr.inh k hk)))
  have HI:Hid (∀ k∈F',k < w.heap.size):=zh hr.inh;clear hr;go_enter Tryz.func213,Tryz.ntmps213;go_wp2_with (at_builtin;refine zCw (α:=Channel) rfl _ _ 24 rfl 49 Tryz.underlying24 zJ1 (L:=w.heap.size) (v:=.slice (some ⟨w.heap.size,0,none⟩) 0 0) (xs:=[]) (ys:=xs) rfl (Oa.lit0 _ _) rfl rfl (HR.out _) (by omega) (fun k hk e=>by cases e;exact absurd (HI.out _ hk) (Nat.lt_irrefl _)) (by simp;omega) (by simp) ?_;intro v' w' hO' hgr;have HO2:=zh hO';have HQ2:=zh (Ext.grown ((zr w).alloc _) hgr (fun k hk=>by cases hk;exact Nat.le_refl _));clear hO' hgr;obtain⟨ao2,co2,rfl,_⟩:=HO2.out.form)
  go_ret;exact⟨_,F',rfl,by simpa using HO2.out,fun b hb=>by simp[hb],List.sublist_cons_self _ _,HQ2.out⟩
theorem zGf(n c:Nat)(w:World)(a:Option Addr)(hc:n<=c)(hl:c<=9223372036854775807) :
  Calls Tryz.prog 212 #[.slice a n c] w fun e w'=>e = .returned (.slice a n n)/\w=w':=by
 go_enter Tryz.func212,Tryz.ntmps212;go_wp2;go_ret;exact⟨rfl,rfl⟩
theorem zGy(v:Value)(xs:List Channel)(w:World)(F:List Nat)(h:Sl w v xs F)(hn:xs.length<=100000000) :
  Calls Tryz.prog 171 #[v] w fun e w' => ∃ v' F',e = .returned v'/\Oh w.heap.size w' v' xs F'/\(∀ b∈F',b∈F)/\F'.Sublist F/\Ext w w':=by
 obtain⟨a,c,rfl,hl⟩:=Rs.form ⟨F,h⟩;have H:=zh h;clear h;go_enter Tryz.func171,Tryz.ntmps171;go_wp2_with fail
 refine(zG0 _ _ _ _ H.out hn).mono ?_;rintro e w1 ⟨v1,F1,rfl,ho,hF,hsub,he⟩;obtain⟨a1,c1,rfl,_⟩:=ho.form;have hcp:=ho.cap;have HO:=zh ho.oh;have HX:=zh (And.intro hF (And.intro hsub he));clear ho hF hsub he;go_wp2_with fail
 refine(zGf _ _ _ _ hcp.1 hcp.2).mono ?_;rintro e w2 ⟨rfl,rfl⟩;go_wp2;go_ret;exact⟨_,F1,rfl,HO.out,HX.out⟩
theorem zOe:El Tryz.prog 148 Slot:=El.of (z:=.agg #[.int .i64 0,.int .i64 0]) (n:=2) (b:=16) (by kernel_rfl) rfl rfl (by decide)
theorem zHo(v:Value)(xs:List Slot)(w:World)(F:List Nat)(h:Sl w v xs F)(hn:xs.length<=100000000) :
  Calls Tryz.prog 215 #[v] w fun e w' => ∃ v' F',e = .returned v'/\Oa 148 w.heap.size w' v' xs F'/\(∀ b∈F',b∈F)/\F'.Sublist F/\Ext w w':=by
 have hnil:∀ (a:Option Addr) (n c:Nat),(binOp .eql 25 (.slice a n c) (.slice none 0 0)).run Tryz.prog w = .ok (.bool a.isNone) w:=fun a n c=>Go.Lib.run_eql_slice_nil w 25 148 a n c 0 0 Tryz.underlying25
 obtain⟨a,c,rfl,hl,hc,⟨rfl,rfl⟩ | ⟨hne,b,o,F',rfl,rfl,hr⟩⟩:=h
 ·cases a with
  | none =>
   go_enter Tryz.func215,Tryz.ntmps215;go_wp2;go_ret;exact⟨_,[],rfl,Oa.nil _ _ _,by simp,by simp,zr _⟩
  | some p =>
   go_enter Tryz.func215,Tryz.ntmps215;go_wp2;go_ret;exact⟨_,[],rfl,Oa.lit0 _ _,by simp,by simp,(zr _).alloc _⟩
 ·have hpos:0 < xs.length:=List.length_pos_iff.2 hne;have HR:Hid (∀ ob,Row (w.alloc ob) b o xs F'):=zh (fun ob=>hr.keep (((zr w).alloc ob).block b (hr.lt hne)) (fun k hk=>((zr w).alloc ob).block k (hr.inh k hk)))
  have HI:Hid (∀ k∈F',k < w.heap.size):=zh hr.inh;clear hr;go_enter Tryz.func215,Tryz.ntmps215;go_wp2_with (at_builtin;refine zCw (α:=Slot) rfl _ _ 25 rfl 148 Tryz.underlying25 zOe (L:=w.heap.size) (v:=.slice (some ⟨w.heap.size,0,none⟩) 0 0) (xs:=[]) (ys:=xs) rfl (Oa.lit0 _ _) rfl rfl (HR.out _) (by omega) (fun k hk e=>by cases e;exact absurd (HI.out _ hk) (Nat.lt_irrefl _)) (by simp;omega) (by simp) ?_;intro v' w' hO' hgr;have HO2:=zh hO';have HQ2:=zh (Ext.grown ((zr w).alloc _) hgr (fun k hk=>by cases hk;exact Nat.le_refl _));clear hO' hgr;obtain⟨ao2,co2,rfl,_⟩:=HO2.out.form)
  go_ret;exact⟨_,F',rfl,by simpa using HO2.out,fun b hb=>by simp[hb],List.sublist_cons_self _ _,HQ2.out⟩
theorem zIf(n c:Nat)(w:World)(a:Option Addr)(hc:n<=c)(hl:c<=9223372036854775807) :
  Calls Tryz.prog 214 #[.slice a n c] w fun e w'=>e = .returned (.slice a n n)/\w=w':=by
 go_enter Tryz.func214,Tryz.ntmps214;go_wp2;go_ret;exact⟨rfl,rfl⟩
theorem zJ9(v:Value)(xs:List Slot)(w:World)(F:List Nat)(h:Sl w v xs F)(hn:xs.length<=100000000) :
  Calls Tryz.prog 172 #[v] w fun e w' => ∃ v' F',e = .returned v'/\Oh w.heap.size w' v' xs F'/\(∀ b∈F',b∈F)/\F'.Sublist F/\Ext w w':=by
 obtain⟨a,c,rfl,hl⟩:=Rs.form ⟨F,h⟩;have H:=zh h;clear h;go_enter Tryz.func172,Tryz.ntmps172;go_wp2_with fail
 refine(zHo _ _ _ _ H.out hn).mono ?_;rintro e w1 ⟨v1,F1,rfl,ho,hF,hsub,he⟩;obtain⟨a1,c1,rfl,_⟩:=ho.form;have hcp:=ho.cap;have HO:=zh ho.oh;have HX:=zh (And.intro hF (And.intro hsub he));clear ho hF hsub he;go_wp2_with fail
 refine(zIf _ _ _ _ hcp.1 hcp.2).mono ?_;rintro e w2 ⟨rfl,rfl⟩;go_wp2;go_ret;exact⟨_,F1,rfl,HO.out,HX.out⟩
theorem zMh:El Tryz.prog 119 Order:=El.of (z:=.agg #[.int .i64 0,.int .i64 0,.int .i64 0]) (n:=3) (b:=24) (by kernel_rfl) rfl rfl (by decide)
theorem zH2(v:Value)(xs:List Order)(w:World)(F:List Nat)(h:Sl w v xs F)(hn:xs.length<=100000000) :
  Calls Tryz.prog 181 #[v] w fun e w' => ∃ v' F',e = .returned v'/\Oa 119 w.heap.size w' v' xs F'/\(∀ b∈F',b∈F)/\F'.Sublist F/\Ext w w':=by
 have hnil:∀ (a:Option Addr) (n c:Nat),(binOp .eql 104 (.slice a n c) (.slice none 0 0)).run Tryz.prog w = .ok (.bool a.isNone) w:=fun a n c=>Go.Lib.run_eql_slice_nil w 104 119 a n c 0 0 Tryz.underlying104
 obtain⟨a,c,rfl,hl,hc,⟨rfl,rfl⟩ | ⟨hne,b,o,F',rfl,rfl,hr⟩⟩:=h
 ·cases a with
  | none =>
   go_enter Tryz.func181,Tryz.ntmps181;go_wp2;go_ret;exact⟨_,[],rfl,Oa.nil _ _ _,by simp,by simp,zr _⟩
  | some p =>
   go_enter Tryz.func181,Tryz.ntmps181;go_wp2;go_ret;exact⟨_,[],rfl,Oa.lit0 _ _,by simp,by simp,(zr _).alloc _⟩
 ·have hpos:0 < xs.length:=List.length_pos_iff.2 hne;have HR:Hid (∀ ob,Row (w.alloc ob) b o xs F'):=zh (fun ob=>hr.keep (((zr w).alloc ob).block b (hr.lt hne)) (fun k hk=>((zr w).alloc ob).block k (hr.inh k hk)))
  have HI:Hid (∀ k∈F',k < w.heap.size):=zh hr.inh;clear hr;go_enter Tryz.func181,Tryz.ntmps181;go_wp2_with (at_builtin;refine zCw (α:=Order) rfl _ _ 104 rfl 119 Tryz.underlying104 zMh (L:=w.heap.size) (v:=.slice (some ⟨w.heap.size,0,none⟩) 0 0) (xs:=[]) (ys:=xs) rfl (Oa.lit0 _ _) rfl rfl (HR.out _) (by omega) (fun k hk e=>by cases e;exact absurd (HI.out _ hk) (Nat.lt_irrefl _)) (by simp;omega) (by simp) ?_;intro v' w' hO' hgr;have HO2:=zh hO';have HQ2:=zh (Ext.grown ((zr w).alloc _) hgr (fun k hk=>by cases hk;exact Nat.le_refl _));clear hO' hgr;obtain⟨ao2,co2,rfl,_⟩:=HO2.out.form)
  go_ret;exact⟨_,F',rfl,by simpa using HO2.out,fun b hb=>by simp[hb],List.sublist_cons_self _ _,HQ2.out⟩
theorem zHk(n c:Nat)(w:World)(a:Option Addr)(hc:n<=c)(hl:c<=9223372036854775807) :
  Calls Tryz.prog 180 #[.slice a n c] w fun e w'=>e = .returned (.slice a n n)/\w=w':=by
 go_enter Tryz.func180,Tryz.ntmps180;go_wp2;go_ret;exact⟨rfl,rfl⟩
theorem zIa(v:Value)(xs:List Order)(w:World)(F:List Nat)(h:Sl w v xs F)(hn:xs.length<=100000000) :
  Calls Tryz.prog 118 #[v] w fun e w' => ∃ v' F',e = .returned v'/\Oh w.heap.size w' v' xs F'/\(∀ b∈F',b∈F)/\F'.Sublist F/\Ext w w':=by
 obtain⟨a,c,rfl,hl⟩:=Rs.form ⟨F,h⟩;have H:=zh h;clear h;go_enter Tryz.func118,Tryz.ntmps118;go_wp2_with fail
 refine(zH2 _ _ _ _ H.out hn).mono ?_;rintro e w1 ⟨v1,F1,rfl,ho,hF,hsub,he⟩;obtain⟨a1,c1,rfl,_⟩:=ho.form;have hcp:=ho.cap;have HO:=zh ho.oh;have HX:=zh (And.intro hF (And.intro hsub he));clear ho hF hsub he;go_wp2_with fail
 refine(zHk _ _ _ _ hcp.1 hcp.2).mono ?_;rintro e w2 ⟨rfl,rfl⟩;go_wp2;go_ret;exact⟨_,F1,rfl,HO.out,HX.out⟩
theorem zKs:El Tryz.prog 104 (List Order):=El.of (z:=.slice none 0 0) (n:=1) (b:=24) (by kernel_rfl) rfl rfl (by decide)
theorem zGg(v:Value)(xs:List (List Order))(w:World)(F:List Nat)(h:Sl w v xs F)(hn:xs.length<=100000000) :
  Calls Tryz.prog 175 #[v] w fun e w' => ∃ v' F',e = .returned v'/\Oa 104 w.heap.size w' v' xs F'/\(∀ b∈F',b∈F)/\F'.Sublist F/\Ext w w':=by
 have hnil:∀ (a:Option Addr) (n c:Nat),(binOp .eql 28 (.slice a n c) (.slice none 0 0)).run Tryz.prog w = .ok (.bool a.isNone) w:=fun a n c=>Go.Lib.run_eql_slice_nil w 28 104 a n c 0 0 Tryz.underlying28
 obtain⟨a,c,rfl,hl,hc,⟨rfl,rfl⟩ | ⟨hne,b,o,F',rfl,rfl,hr⟩⟩:=h
 ·cases a with
  | none =>
   go_enter Tryz.func175,Tryz.ntmps175;go_wp2;go_ret;exact⟨_,[],rfl,Oa.nil _ _ _,by simp,by simp,zr _⟩
  | some p =>
   go_enter Tryz.func175,Tryz.ntmps175;go_wp2;go_ret;exact⟨_,[],rfl,Oa.lit0 _ _,by simp,by simp,(zr _).alloc _⟩
 ·have hpos:0 < xs.length:=List.length_pos_iff.2 hne;have HR:Hid (∀ ob,Row (w.alloc ob) b o xs F'):=zh (fun ob=>hr.keep (((zr w).alloc ob).block b (hr.lt hne)) (fun k hk=>((zr w).alloc ob).block k (hr.inh k hk)))
  have HI:Hid (∀ k∈F',k < w.heap.size):=zh hr.inh;clear hr;go_enter Tryz.func175,Tryz.ntmps175;go_wp2_with (at_builtin;refine zCw (α:=(List Order)) rfl _ _ 28 rfl 104 Tryz.underlying28 zKs (L:=w.heap.size) (v:=.slice (some ⟨w.heap.size,0,none⟩) 0 0) (xs:=[]) (ys:=xs) rfl (Oa.lit0 _ _) rfl rfl (HR.out _) (by omega) (fun k hk e=>by cases e;exact absurd (HI.out _ hk) (Nat.lt_irrefl _)) (by simp;omega) (by simp) ?_;intro v' w' hO' hgr;have HO2:=zh hO';have HQ2:=zh (Ext.grown ((zr w).alloc _) hgr (fun k hk=>by cases hk;exact Nat.le_refl _));clear hO' hgr;obtain⟨ao2,co2,rfl,_⟩:=HO2.out.form)
  go_ret;exact⟨_,F',rfl,by simpa using HO2.out,fun b hb=>by simp[hb],List.sublist_cons_self _ _,HQ2.out⟩
theorem zH0(n c:Nat)(w:World)(a:Option Addr)(hc:n<=c)(hl:c<=9223372036854775807) :
  Calls Tryz.prog 174 #[.slice a n c] w fun e w'=>e = .returned (.slice a n n)/\w=w':=by
 go_enter Tryz.func174,Tryz.ntmps174;go_wp2;go_ret;exact⟨rfl,rfl⟩
theorem zHh(v:Value)(xs:List (List Order))(w:World)(F:List Nat)(h:Sl w v xs F)(hn:xs.length<=100000000) :
  Calls Tryz.prog 115 #[v] w fun e w' => ∃ v' F',e = .returned v'/\Oh w.heap.size w' v' xs F'/\(∀ b∈F',b∈F)/\F'.Sublist F/\Ext w w':=by
 obtain⟨a,c,rfl,hl⟩:=Rs.form ⟨F,h⟩;have H:=zh h;clear h;go_enter Tryz.func115,Tryz.ntmps115;go_wp2_with fail
 refine(zGg _ _ _ _ H.out hn).mono ?_;rintro e w1 ⟨v1,F1,rfl,ho,hF,hsub,he⟩;obtain⟨a1,c1,rfl,_⟩:=ho.form;have hcp:=ho.cap;have HO:=zh ho.oh;have HX:=zh (And.intro hF (And.intro hsub he));clear ho hF hsub he;go_wp2_with fail
 refine(zH0 _ _ _ _ hcp.1 hcp.2).mono ?_;rintro e w2 ⟨rfl,rfl⟩;go_wp2;go_ret;exact⟨_,F1,rfl,HO.out,HX.out⟩
theorem zOb:El Tryz.prog 47 Core:=El.of (z:=.agg #[.slice none 0 0,.int .i64 0,.bool false]) (n:=3) (b:=40) (by kernel_rfl) rfl rfl (by decide)
theorem zHl(v:Value)(xs:List Core)(w:World)(F:List Nat)(h:Sl w v xs F)(hn:xs.length<=100000000) :
  Calls Tryz.prog 177 #[v] w fun e w' => ∃ v' F',e = .returned v'/\Oa 47 w.heap.size w' v' xs F'/\(∀ b∈F',b∈F)/\F'.Sublist F/\Ext w w':=by
 have hnil:∀ (a:Option Addr) (n c:Nat),(binOp .eql 29 (.slice a n c) (.slice none 0 0)).run Tryz.prog w = .ok (.bool a.isNone) w:=fun a n c=>Go.Lib.run_eql_slice_nil w 29 47 a n c 0 0 Tryz.underlying29
 obtain⟨a,c,rfl,hl,hc,⟨rfl,rfl⟩ | ⟨hne,b,o,F',rfl,rfl,hr⟩⟩:=h
 ·cases a with
  | none =>
   go_enter Tryz.func177,Tryz.ntmps177;go_wp2;go_ret;exact⟨_,[],rfl,Oa.nil _ _ _,by simp,by simp,zr _⟩
  | some p =>
   go_enter Tryz.func177,Tryz.ntmps177;go_wp2;go_ret;exact⟨_,[],rfl,Oa.lit0 _ _,by simp,by simp,(zr _).alloc _⟩
 ·have hpos:0 < xs.length:=List.length_pos_iff.2 hne;have HR:Hid (∀ ob,Row (w.alloc ob) b o xs F'):=zh (fun ob=>hr.keep (((zr w).alloc ob).block b (hr.lt hne)) (fun k hk=>((zr w).alloc ob).block k (hr.inh k hk)))
  have HI:Hid (∀ k∈F',k < w.heap.size):=zh hr.inh;clear hr;go_enter Tryz.func177,Tryz.ntmps177;go_wp2_with (at_builtin;refine zCw (α:=Core) rfl _ _ 29 rfl 47 Tryz.underlying29 zOb (L:=w.heap.size) (v:=.slice (some ⟨w.heap.size,0,none⟩) 0 0) (xs:=[]) (ys:=xs) rfl (Oa.lit0 _ _) rfl rfl (HR.out _) (by omega) (fun k hk e=>by cases e;exact absurd (HI.out _ hk) (Nat.lt_irrefl _)) (by simp;omega) (by simp) ?_;intro v' w' hO' hgr;have HO2:=zh hO';have HQ2:=zh (Ext.grown ((zr w).alloc _) hgr (fun k hk=>by cases hk;exact Nat.le_refl _));clear hO' hgr;obtain⟨ao2,co2,rfl,_⟩:=HO2.out.form)
  go_ret;exact⟨_,F',rfl,by simpa using HO2.out,fun b hb=>by simp[hb],List.sublist_cons_self _ _,HQ2.out⟩
theorem zIc(n c:Nat)(w:World)(a:Option Addr)(hc:n<=c)(hl:c<=9223372036854775807) :
  Calls Tryz.prog 176 #[.slice a n c] w fun e w'=>e = .returned (.slice a n n)/\w=w':=by
 go_enter Tryz.func176,Tryz.ntmps176;go_wp2;go_ret;exact⟨rfl,rfl⟩
theorem zJ6(v:Value)(xs:List Core)(w:World)(F:List Nat)(h:Sl w v xs F)(hn:xs.length<=100000000) :
  Calls Tryz.prog 116 #[v] w fun e w' => ∃ v' F',e = .returned v'/\Oh w.heap.size w' v' xs F'/\(∀ b∈F',b∈F)/\F'.Sublist F/\Ext w w':=by
 obtain⟨a,c,rfl,hl⟩:=Rs.form ⟨F,h⟩;have H:=zh h;clear h;go_enter Tryz.func116,Tryz.ntmps116;go_wp2_with fail
 refine(zHl _ _ _ _ H.out hn).mono ?_;rintro e w1 ⟨v1,F1,rfl,ho,hF,hsub,he⟩;obtain⟨a1,c1,rfl,_⟩:=ho.form;have hcp:=ho.cap;have HO:=zh ho.oh;have HX:=zh (And.intro hF (And.intro hsub he));clear ho hF hsub he;go_wp2_with fail
 refine(zIc _ _ _ _ hcp.1 hcp.2).mono ?_;rintro e w2 ⟨rfl,rfl⟩;go_wp2;go_ret;exact⟨_,F1,rfl,HO.out,HX.out⟩
theorem zOc:El Tryz.prog 52 Hold:=El.of (z:=.agg #[.slice none 0 0]) (n:=1) (b:=24) (by kernel_rfl) rfl rfl (by decide)
theorem zHm(v:Value)(xs:List Hold)(w:World)(F:List Nat)(h:Sl w v xs F)(hn:xs.length<=100000000) :
  Calls Tryz.prog 179 #[v] w fun e w' => ∃ v' F',e = .returned v'/\Oa 52 w.heap.size w' v' xs F'/\(∀ b∈F',b∈F)/\F'.Sublist F/\Ext w w':=by
 have hnil:∀ (a:Option Addr) (n c:Nat),(binOp .eql 30 (.slice a n c) (.slice none 0 0)).run Tryz.prog w = .ok (.bool a.isNone) w:=fun a n c=>Go.Lib.run_eql_slice_nil w 30 52 a n c 0 0 Tryz.underlying30
 obtain⟨a,c,rfl,hl,hc,⟨rfl,rfl⟩ | ⟨hne,b,o,F',rfl,rfl,hr⟩⟩:=h
 ·cases a with
  | none =>
   go_enter Tryz.func179,Tryz.ntmps179;go_wp2;go_ret;exact⟨_,[],rfl,Oa.nil _ _ _,by simp,by simp,zr _⟩
  | some p =>
   go_enter Tryz.func179,Tryz.ntmps179;go_wp2;go_ret;exact⟨_,[],rfl,Oa.lit0 _ _,by simp,by simp,(zr _).alloc _⟩
 ·have hpos:0 < xs.length:=List.length_pos_iff.2 hne;have HR:Hid (∀ ob,Row (w.alloc ob) b o xs F'):=zh (fun ob=>hr.keep (((zr w).alloc ob).block b (hr.lt hne)) (fun k hk=>((zr w).alloc ob).block k (hr.inh k hk)))
  have HI:Hid (∀ k∈F',k < w.heap.size):=zh hr.inh;clear hr;go_enter Tryz.func179,Tryz.ntmps179;go_wp2_with (at_builtin;refine zCw (α:=Hold) rfl _ _ 30 rfl 52 Tryz.underlying30 zOc (L:=w.heap.size) (v:=.slice (some ⟨w.heap.size,0,none⟩) 0 0) (xs:=[]) (ys:=xs) rfl (Oa.lit0 _ _) rfl rfl (HR.out _) (by omega) (fun k hk e=>by cases e;exact absurd (HI.out _ hk) (Nat.lt_irrefl _)) (by simp;omega) (by simp) ?_;intro v' w' hO' hgr;have HO2:=zh hO';have HQ2:=zh (Ext.grown ((zr w).alloc _) hgr (fun k hk=>by cases hk;exact Nat.le_refl _));clear hO' hgr;obtain⟨ao2,co2,rfl,_⟩:=HO2.out.form)
  go_ret;exact⟨_,F',rfl,by simpa using HO2.out,fun b hb=>by simp[hb],List.sublist_cons_self _ _,HQ2.out⟩
theorem zId(n c:Nat)(w:World)(a:Option Addr)(hc:n<=c)(hl:c<=9223372036854775807) :
  Calls Tryz.prog 178 #[.slice a n c] w fun e w'=>e = .returned (.slice a n n)/\w=w':=by
 go_enter Tryz.func178,Tryz.ntmps178;go_wp2;go_ret;exact⟨rfl,rfl⟩
theorem zJ7(v:Value)(xs:List Hold)(w:World)(F:List Nat)(h:Sl w v xs F)(hn:xs.length<=100000000) :
  Calls Tryz.prog 117 #[v] w fun e w' => ∃ v' F',e = .returned v'/\Oh w.heap.size w' v' xs F'/\(∀ b∈F',b∈F)/\F'.Sublist F/\Ext w w':=by
 obtain⟨a,c,rfl,hl⟩:=Rs.form ⟨F,h⟩;have H:=zh h;clear h;go_enter Tryz.func117,Tryz.ntmps117;go_wp2_with fail
 refine(zHm _ _ _ _ H.out hn).mono ?_;rintro e w1 ⟨v1,F1,rfl,ho,hF,hsub,he⟩;obtain⟨a1,c1,rfl,_⟩:=ho.form;have hcp:=ho.cap;have HO:=zh ho.oh;have HX:=zh (And.intro hF (And.intro hsub he));clear ho hF hsub he;go_wp2_with fail
 refine(zId _ _ _ _ hcp.1 hcp.2).mono ?_;rintro e w2 ⟨rfl,rfl⟩;go_wp2;go_ret;exact⟨_,F1,rfl,HO.out,HX.out⟩
end Sk
