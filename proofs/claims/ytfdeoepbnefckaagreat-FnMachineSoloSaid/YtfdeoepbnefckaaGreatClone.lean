/- Contracts of functions of the given program. -/
import Derived.Lib.SliceRun
import Derived.Test.YtfdeoepbnefckaaGreatNums
namespace Sk
open Go Go.Proofs Go.RowKit
set_option maxHeartbeats 400000
set_option maxRecDepth 100000
set_option linter.unusedVariables false
set_option linter.unusedSimpArgs false
def Oh{α:Type}[GT α](L:Nat)(w:World)(v:Value)(xs:List α)(F:List Nat):Prop :=
 (v = .slice none 0 0/\xs = []/\F = [])\/∃ g,v = .slice (some ⟨g,0,none⟩) xs.length xs.length/\L<=g/\Fz w g/\xs.length<=maxLen/\Row w g 0 xs F/\g ∉ F
theorem Oa.oh{α:Type}[GT α]{e:TypeId}{L:Nat}{w:World}{a:Option Addr}{n c:Nat}{xs:List α}{F:List Nat}(h:Oa e L w (.slice a n c) xs F):Oh L w (.slice a n n) xs F:=by
 rcases h with ⟨h,rfl,rfl⟩ | ⟨g,cap,cur,h,hL,hg,hl,hc,hs,hr,hn⟩
 ·cases h;exact .inl ⟨rfl,rfl,rfl⟩
 ·cases h;exact .inr ⟨g,rfl,hL,⟨_,_,Bk.ofA hg⟩,Nat.le_trans hl hc,hr,hn⟩
theorem Oh.os{α:Type}[GT α]{L:Nat}{w:World}{v:Value}{xs:List α}(h:Oh L w v xs []):Os L w v xs:=by
 rcases h with ⟨rfl,rfl,_⟩ | ⟨g,rfl,hL,hz,hl,hr,_⟩
 ·exact⟨[],⟨none,0,rfl,Nat.le_refl _,Nat.zero_le _,.inl ⟨rfl,rfl⟩⟩,Own.nil _ _⟩
 ·by_cases hx:xs = []
  ·subst hx;exact⟨[],⟨some ⟨g,0,none⟩,0,rfl,Nat.le_refl _,Nat.zero_le _,.inl ⟨rfl,rfl⟩⟩,Own.nil _ _⟩
  ·exact⟨[g],⟨_,_,rfl,Nat.le_refl _,hl,.inr ⟨hx,g,0,[],rfl,rfl,hr⟩⟩,by simp,fun b hb=>by rw[List.mem_singleton] at hb;subst hb;exact⟨hL,hz⟩⟩
theorem zF9(v:Value)(xs:List Int)(w:World)(F:List Nat)(h:Sl w v xs F)(hn:xs.length<=100000000) :
  Calls Tryz.prog 100 #[v] w fun e w' => ∃ v' F',e = .returned v'/\Oa 3 w.heap.size w' v' xs F'/\(∀ b∈F',b∈F)/\F'.Sublist F/\Ext w w':=by
 have hnil:∀ (a:Option Addr) (n c:Nat),(binOp .eql 38 (.slice a n c) (.slice none 0 0)).run Tryz.prog w = .ok (.bool a.isNone) w:=fun a n c=>Go.Lib.run_eql_slice_nil w 38 3 a n c 0 0 Tryz.underlying38
 obtain⟨a,c,rfl,hl,hc,⟨rfl,rfl⟩ | ⟨hne,b,o,F',rfl,rfl,hr⟩⟩:=h
 ·cases a with
  | none =>
   go_enter Tryz.func100,Tryz.ntmps100;go_wp2;go_ret;exact⟨_,[],rfl,Oa.nil _ _ _,by simp,by simp,zr _⟩
  | some p =>
   go_enter Tryz.func100,Tryz.ntmps100;go_wp2;go_ret;exact⟨_,[],rfl,Oa.lit0 _ _,by simp,by simp,(zr _).alloc _⟩
 ·have hpos:0 < xs.length:=List.length_pos_iff.2 hne;have HR:Hid (∀ ob,Row (w.alloc ob) b o xs F'):=zh (fun ob=>hr.keep (((zr w).alloc ob).block b (hr.lt hne)) (fun k hk=>((zr w).alloc ob).block k (hr.inh k hk)))
  have HI:Hid (∀ k∈F',k < w.heap.size):=zh hr.inh;clear hr;go_enter Tryz.func100,Tryz.ntmps100;go_wp2_with (at_builtin;refine zCq (α:=Int) rfl _ _ 38 rfl 3 Tryz.underlying38 zEa (L:=w.heap.size) (v:=.slice (some ⟨w.heap.size,0,none⟩) 0 0) (xs:=[]) (ys:=xs) rfl (Oa.lit0 _ _) rfl rfl (HR.out _) (by omega) (fun k hk e=>by cases e;exact absurd (HI.out _ hk) (Nat.lt_irrefl _)) (by simp;omega) (by simp) ?_;intro v' w' hO' hgr;have HO2:=zh hO';have HQ2:=zh (Ext.grown ((zr w).alloc _) hgr (fun k hk=>by cases hk;exact Nat.le_refl _));clear hO' hgr;obtain⟨ao2,co2,rfl,_⟩:=HO2.out.form)
  go_ret;exact⟨_,F',rfl,by simpa using HO2.out,fun b hb=>by simp[hb],List.sublist_cons_self _ _,HQ2.out⟩
theorem zG4(v:Value)(xs:List Int)(w:World)(F:List Nat)(h:Sl w v xs F)(hn:xs.length<=100000000) :
  Calls Tryz.prog 57 #[v] w fun e w' => ∃ v' F',e = .returned v'/\Oh w.heap.size w' v' xs F'/\(∀ b∈F',b∈F)/\F'.Sublist F/\Ext w w':=by
 obtain⟨a,c,rfl,hl⟩:=Rs.form ⟨F,h⟩;have H:=zh h;clear h;go_enter Tryz.func57,Tryz.ntmps57;go_wp2_with fail
 refine(zF9 _ _ _ _ H.out hn).mono ?_;rintro e w1 ⟨v1,F1,rfl,ho,hF,hsub,he⟩;obtain⟨a1,c1,rfl,_⟩:=ho.form;have hcp:=ho.cap;have HO:=zh ho.oh;have HX:=zh (And.intro hF (And.intro hsub he));clear ho hF hsub he;go_wp2_with fail
 refine(zCz _ xs _ _ _ rfl hcp.1 hcp.2).mono ?_;rintro e w2 ⟨rfl,rfl⟩;go_wp2;go_ret;exact⟨_,F1,rfl,HO.out,HX.out⟩
theorem zFg:El Tryz.prog 71 Window:=El.of (z:=.agg #[.int .i64 0,.int .i64 0,.bool false]) (n:=3) (b:=24) (by kernel_rfl) rfl rfl (by decide)
theorem zDu(v:Value)(xs:List Window)(w:World)(F:List Nat)(h:Sl w v xs F)(hn:xs.length<=100000000) :
  Calls Tryz.prog 135 #[v] w fun e w' => ∃ v' F',e = .returned v'/\Oa 71 w.heap.size w' v' xs F'/\(∀ b∈F',b∈F)/\F'.Sublist F/\Ext w w':=by
 have hnil:∀ (a:Option Addr) (n c:Nat),(binOp .eql 45 (.slice a n c) (.slice none 0 0)).run Tryz.prog w = .ok (.bool a.isNone) w:=fun a n c=>Go.Lib.run_eql_slice_nil w 45 71 a n c 0 0 Tryz.underlying45
 obtain⟨a,c,rfl,hl,hc,⟨rfl,rfl⟩ | ⟨hne,b,o,F',rfl,rfl,hr⟩⟩:=h
 ·cases a with
  | none =>
   go_enter Tryz.func135,Tryz.ntmps135;go_wp2;go_ret;exact⟨_,[],rfl,Oa.nil _ _ _,by simp,by simp,zr _⟩
  | some p =>
   go_enter Tryz.func135,Tryz.ntmps135;go_wp2;go_ret;exact⟨_,[],rfl,Oa.lit0 _ _,by simp,by simp,(zr _).alloc _⟩
 ·have hpos:0 < xs.length:=List.length_pos_iff.2 hne;have HR:Hid (∀ ob,Row (w.alloc ob) b o xs F'):=zh (fun ob=>hr.keep (((zr w).alloc ob).block b (hr.lt hne)) (fun k hk=>((zr w).alloc ob).block k (hr.inh k hk)))
  have HI:Hid (∀ k∈F',k < w.heap.size):=zh hr.inh;clear hr;go_enter Tryz.func135,Tryz.ntmps135;go_wp2_with (at_builtin;refine zCq (α:=Window) rfl _ _ 45 rfl 71 Tryz.underlying45 zFg (L:=w.heap.size) (v:=.slice (some ⟨w.heap.size,0,none⟩) 0 0) (xs:=[]) (ys:=xs) rfl (Oa.lit0 _ _) rfl rfl (HR.out _) (by omega) (fun k hk e=>by cases e;exact absurd (HI.out _ hk) (Nat.lt_irrefl _)) (by simp;omega) (by simp) ?_;intro v' w' hO' hgr;have HO2:=zh hO';have HQ2:=zh (Ext.grown ((zr w).alloc _) hgr (fun k hk=>by cases hk;exact Nat.le_refl _));clear hO' hgr;obtain⟨ao2,co2,rfl,_⟩:=HO2.out.form)
  go_ret;exact⟨_,F',rfl,by simpa using HO2.out,fun b hb=>by simp[hb],List.sublist_cons_self _ _,HQ2.out⟩
theorem zE5(n c:Nat)(w:World)(a:Option Addr)(hc:n<=c)(hl:c<=9223372036854775807) :
  Calls Tryz.prog 134 #[.slice a n c] w fun e w'=>e = .returned (.slice a n n)/\w=w':=by
 go_enter Tryz.func134,Tryz.ntmps134;go_wp2;go_ret;exact⟨rfl,rfl⟩
theorem zEf(v:Value)(xs:List Window)(w:World)(F:List Nat)(h:Sl w v xs F)(hn:xs.length<=100000000) :
  Calls Tryz.prog 91 #[v] w fun e w' => ∃ v' F',e = .returned v'/\Oh w.heap.size w' v' xs F'/\(∀ b∈F',b∈F)/\F'.Sublist F/\Ext w w':=by
 obtain⟨a,c,rfl,hl⟩:=Rs.form ⟨F,h⟩;have H:=zh h;clear h;go_enter Tryz.func91,Tryz.ntmps91;go_wp2_with fail
 refine(zDu _ _ _ _ H.out hn).mono ?_;rintro e w1 ⟨v1,F1,rfl,ho,hF,hsub,he⟩;obtain⟨a1,c1,rfl,_⟩:=ho.form;have hcp:=ho.cap;have HO:=zh ho.oh;have HX:=zh (And.intro hF (And.intro hsub he));clear ho hF hsub he;go_wp2_with fail
 refine(zE5 _ _ _ _ hcp.1 hcp.2).mono ?_;rintro e w2 ⟨rfl,rfl⟩;go_wp2;go_ret;exact⟨_,F1,rfl,HO.out,HX.out⟩
theorem zIc:El Tryz.prog 47 Part:=El.of (z:=.agg #[.slice none 0 0,.int .i64 0]) (n:=2) (b:=32) (by kernel_rfl) rfl rfl (by decide)
theorem zEl(v:Value)(xs:List Part)(w:World)(F:List Nat)(h:Sl w v xs F)(hn:xs.length<=100000000) :
  Calls Tryz.prog 129 #[v] w fun e w' => ∃ v' F',e = .returned v'/\Oa 47 w.heap.size w' v' xs F'/\(∀ b∈F',b∈F)/\F'.Sublist F/\Ext w w':=by
 have hnil:∀ (a:Option Addr) (n c:Nat),(binOp .eql 23 (.slice a n c) (.slice none 0 0)).run Tryz.prog w = .ok (.bool a.isNone) w:=fun a n c=>Go.Lib.run_eql_slice_nil w 23 47 a n c 0 0 Tryz.underlying23
 obtain⟨a,c,rfl,hl,hc,⟨rfl,rfl⟩ | ⟨hne,b,o,F',rfl,rfl,hr⟩⟩:=h
 ·cases a with
  | none =>
   go_enter Tryz.func129,Tryz.ntmps129;go_wp2;go_ret;exact⟨_,[],rfl,Oa.nil _ _ _,by simp,by simp,zr _⟩
  | some p =>
   go_enter Tryz.func129,Tryz.ntmps129;go_wp2;go_ret;exact⟨_,[],rfl,Oa.lit0 _ _,by simp,by simp,(zr _).alloc _⟩
 ·have hpos:0 < xs.length:=List.length_pos_iff.2 hne;have HR:Hid (∀ ob,Row (w.alloc ob) b o xs F'):=zh (fun ob=>hr.keep (((zr w).alloc ob).block b (hr.lt hne)) (fun k hk=>((zr w).alloc ob).block k (hr.inh k hk)))
  have HI:Hid (∀ k∈F',k < w.heap.size):=zh hr.inh;clear hr;go_enter Tryz.func129,Tryz.ntmps129;go_wp2_with (at_builtin;refine zCq (α:=Part) rfl _ _ 23 rfl 47 Tryz.underlying23 zIc (L:=w.heap.size) (v:=.slice (some ⟨w.heap.size,0,none⟩) 0 0) (xs:=[]) (ys:=xs) rfl (Oa.lit0 _ _) rfl rfl (HR.out _) (by omega) (fun k hk e=>by cases e;exact absurd (HI.out _ hk) (Nat.lt_irrefl _)) (by simp;omega) (by simp) ?_;intro v' w' hO' hgr;have HO2:=zh hO';have HQ2:=zh (Ext.grown ((zr w).alloc _) hgr (fun k hk=>by cases hk;exact Nat.le_refl _));clear hO' hgr;obtain⟨ao2,co2,rfl,_⟩:=HO2.out.form)
  go_ret;exact⟨_,F',rfl,by simpa using HO2.out,fun b hb=>by simp[hb],List.sublist_cons_self _ _,HQ2.out⟩
theorem zF7(n c:Nat)(w:World)(a:Option Addr)(hc:n<=c)(hl:c<=9223372036854775807) :
  Calls Tryz.prog 128 #[.slice a n c] w fun e w'=>e = .returned (.slice a n n)/\w=w':=by
 go_enter Tryz.func128,Tryz.ntmps128;go_wp2;go_ret;exact⟨rfl,rfl⟩
theorem zFr(v:Value)(xs:List Part)(w:World)(F:List Nat)(h:Sl w v xs F)(hn:xs.length<=100000000) :
  Calls Tryz.prog 88 #[v] w fun e w' => ∃ v' F',e = .returned v'/\Oh w.heap.size w' v' xs F'/\(∀ b∈F',b∈F)/\F'.Sublist F/\Ext w w':=by
 obtain⟨a,c,rfl,hl⟩:=Rs.form ⟨F,h⟩;have H:=zh h;clear h;go_enter Tryz.func88,Tryz.ntmps88;go_wp2_with fail
 refine(zEl _ _ _ _ H.out hn).mono ?_;rintro e w1 ⟨v1,F1,rfl,ho,hF,hsub,he⟩;obtain⟨a1,c1,rfl,_⟩:=ho.form;have hcp:=ho.cap;have HO:=zh ho.oh;have HX:=zh (And.intro hF (And.intro hsub he));clear ho hF hsub he;go_wp2_with fail
 refine(zF7 _ _ _ _ hcp.1 hcp.2).mono ?_;rintro e w2 ⟨rfl,rfl⟩;go_wp2;go_ret;exact⟨_,F1,rfl,HO.out,HX.out⟩
theorem zBw:El Tryz.prog 75 Channel:=El.of (z:=.agg #[.int .i64 0,.int .i64 0,.int .i64 0,.int .i64 0]) (n:=4) (b:=32) (by kernel_rfl) rfl rfl (by decide)
theorem zDa(v:Value)(xs:List Channel)(w:World)(F:List Nat)(h:Sl w v xs F)(hn:xs.length<=100000000) :
  Calls Tryz.prog 131 #[v] w fun e w' => ∃ v' F',e = .returned v'/\Oa 75 w.heap.size w' v' xs F'/\(∀ b∈F',b∈F)/\F'.Sublist F/\Ext w w':=by
 have hnil:∀ (a:Option Addr) (n c:Nat),(binOp .eql 24 (.slice a n c) (.slice none 0 0)).run Tryz.prog w = .ok (.bool a.isNone) w:=fun a n c=>Go.Lib.run_eql_slice_nil w 24 75 a n c 0 0 Tryz.underlying24
 obtain⟨a,c,rfl,hl,hc,⟨rfl,rfl⟩ | ⟨hne,b,o,F',rfl,rfl,hr⟩⟩:=h
 ·cases a with
  | none =>
   go_enter Tryz.func131,Tryz.ntmps131;go_wp2;go_ret;exact⟨_,[],rfl,Oa.nil _ _ _,by simp,by simp,zr _⟩
  | some p =>
   go_enter Tryz.func131,Tryz.ntmps131;go_wp2;go_ret;exact⟨_,[],rfl,Oa.lit0 _ _,by simp,by simp,(zr _).alloc _⟩
 ·have hpos:0 < xs.length:=List.length_pos_iff.2 hne;have HR:Hid (∀ ob,Row (w.alloc ob) b o xs F'):=zh (fun ob=>hr.keep (((zr w).alloc ob).block b (hr.lt hne)) (fun k hk=>((zr w).alloc ob).block k (hr.inh k hk)))
  have HI:Hid (∀ k∈F',k < w.heap.size):=zh hr.inh;clear hr;go_enter Tryz.func131,Tryz.ntmps131;go_wp2_with (at_builtin;refine zCq (α:=Channel) rfl _ _ 24 rfl 75 Tryz.underlying24 zBw (L:=w.heap.size) (v:=.slice (some ⟨w.heap.size,0,none⟩) 0 0) (xs:=[]) (ys:=xs) rfl (Oa.lit0 _ _) rfl rfl (HR.out _) (by omega) (fun k hk e=>by cases e;exact absurd (HI.out _ hk) (Nat.lt_irrefl _)) (by simp;omega) (by simp) ?_;intro v' w' hO' hgr;have HO2:=zh hO';have HQ2:=zh (Ext.grown ((zr w).alloc _) hgr (fun k hk=>by cases hk;exact Nat.le_refl _));clear hO' hgr;obtain⟨ao2,co2,rfl,_⟩:=HO2.out.form)
  go_ret;exact⟨_,F',rfl,by simpa using HO2.out,fun b hb=>by simp[hb],List.sublist_cons_self _ _,HQ2.out⟩
theorem zDs(n c:Nat)(w:World)(a:Option Addr)(hc:n<=c)(hl:c<=9223372036854775807) :
  Calls Tryz.prog 130 #[.slice a n c] w fun e w'=>e = .returned (.slice a n n)/\w=w':=by
 go_enter Tryz.func130,Tryz.ntmps130;go_wp2;go_ret;exact⟨rfl,rfl⟩
theorem zE3(v:Value)(xs:List Channel)(w:World)(F:List Nat)(h:Sl w v xs F)(hn:xs.length<=100000000) :
  Calls Tryz.prog 89 #[v] w fun e w' => ∃ v' F',e = .returned v'/\Oh w.heap.size w' v' xs F'/\(∀ b∈F',b∈F)/\F'.Sublist F/\Ext w w':=by
 obtain⟨a,c,rfl,hl⟩:=Rs.form ⟨F,h⟩;have H:=zh h;clear h;go_enter Tryz.func89,Tryz.ntmps89;go_wp2_with fail
 refine(zDa _ _ _ _ H.out hn).mono ?_;rintro e w1 ⟨v1,F1,rfl,ho,hF,hsub,he⟩;obtain⟨a1,c1,rfl,_⟩:=ho.form;have hcp:=ho.cap;have HO:=zh ho.oh;have HX:=zh (And.intro hF (And.intro hsub he));clear ho hF hsub he;go_wp2_with fail
 refine(zDs _ _ _ _ hcp.1 hcp.2).mono ?_;rintro e w2 ⟨rfl,rfl⟩;go_wp2;go_ret;exact⟨_,F1,rfl,HO.out,HX.out⟩
theorem zId:El Tryz.prog 101 Slot:=El.of (z:=.agg #[.int .i64 0,.int .i64 0]) (n:=2) (b:=16) (by kernel_rfl) rfl rfl (by decide)
theorem zEm(v:Value)(xs:List Slot)(w:World)(F:List Nat)(h:Sl w v xs F)(hn:xs.length<=100000000) :
  Calls Tryz.prog 133 #[v] w fun e w' => ∃ v' F',e = .returned v'/\Oa 101 w.heap.size w' v' xs F'/\(∀ b∈F',b∈F)/\F'.Sublist F/\Ext w w':=by
 have hnil:∀ (a:Option Addr) (n c:Nat),(binOp .eql 25 (.slice a n c) (.slice none 0 0)).run Tryz.prog w = .ok (.bool a.isNone) w:=fun a n c=>Go.Lib.run_eql_slice_nil w 25 101 a n c 0 0 Tryz.underlying25
 obtain⟨a,c,rfl,hl,hc,⟨rfl,rfl⟩ | ⟨hne,b,o,F',rfl,rfl,hr⟩⟩:=h
 ·cases a with
  | none =>
   go_enter Tryz.func133,Tryz.ntmps133;go_wp2;go_ret;exact⟨_,[],rfl,Oa.nil _ _ _,by simp,by simp,zr _⟩
  | some p =>
   go_enter Tryz.func133,Tryz.ntmps133;go_wp2;go_ret;exact⟨_,[],rfl,Oa.lit0 _ _,by simp,by simp,(zr _).alloc _⟩
 ·have hpos:0 < xs.length:=List.length_pos_iff.2 hne;have HR:Hid (∀ ob,Row (w.alloc ob) b o xs F'):=zh (fun ob=>hr.keep (((zr w).alloc ob).block b (hr.lt hne)) (fun k hk=>((zr w).alloc ob).block k (hr.inh k hk)))
  have HI:Hid (∀ k∈F',k < w.heap.size):=zh hr.inh;clear hr;go_enter Tryz.func133,Tryz.ntmps133;go_wp2_with (at_builtin;refine zCq (α:=Slot) rfl _ _ 25 rfl 101 Tryz.underlying25 zId (L:=w.heap.size) (v:=.slice (some ⟨w.heap.size,0,none⟩) 0 0) (xs:=[]) (ys:=xs) rfl (Oa.lit0 _ _) rfl rfl (HR.out _) (by omega) (fun k hk e=>by cases e;exact absurd (HI.out _ hk) (Nat.lt_irrefl _)) (by simp;omega) (by simp) ?_;intro v' w' hO' hgr;have HO2:=zh hO';have HQ2:=zh (Ext.grown ((zr w).alloc _) hgr (fun k hk=>by cases hk;exact Nat.le_refl _));clear hO' hgr;obtain⟨ao2,co2,rfl,_⟩:=HO2.out.form)
  go_ret;exact⟨_,F',rfl,by simpa using HO2.out,fun b hb=>by simp[hb],List.sublist_cons_self _ _,HQ2.out⟩
theorem zF8(n c:Nat)(w:World)(a:Option Addr)(hc:n<=c)(hl:c<=9223372036854775807) :
  Calls Tryz.prog 132 #[.slice a n c] w fun e w'=>e = .returned (.slice a n n)/\w=w':=by
 go_enter Tryz.func132,Tryz.ntmps132;go_wp2;go_ret;exact⟨rfl,rfl⟩
theorem zFs(v:Value)(xs:List Slot)(w:World)(F:List Nat)(h:Sl w v xs F)(hn:xs.length<=100000000) :
  Calls Tryz.prog 90 #[v] w fun e w' => ∃ v' F',e = .returned v'/\Oh w.heap.size w' v' xs F'/\(∀ b∈F',b∈F)/\F'.Sublist F/\Ext w w':=by
 obtain⟨a,c,rfl,hl⟩:=Rs.form ⟨F,h⟩;have H:=zh h;clear h;go_enter Tryz.func90,Tryz.ntmps90;go_wp2_with fail
 refine(zEm _ _ _ _ H.out hn).mono ?_;rintro e w1 ⟨v1,F1,rfl,ho,hF,hsub,he⟩;obtain⟨a1,c1,rfl,_⟩:=ho.form;have hcp:=ho.cap;have HO:=zh ho.oh;have HX:=zh (And.intro hF (And.intro hsub he));clear ho hF hsub he;go_wp2_with fail
 refine(zF8 _ _ _ _ hcp.1 hcp.2).mono ?_;rintro e w2 ⟨rfl,rfl⟩;go_wp2;go_ret;exact⟨_,F1,rfl,HO.out,HX.out⟩
theorem zHy:El Tryz.prog 61 Order:=El.of (z:=.agg #[.int .i64 0,.int .i64 0,.int .i64 0]) (n:=3) (b:=24) (by kernel_rfl) rfl rfl (by decide)
theorem zE6(v:Value)(xs:List Order)(w:World)(F:List Nat)(h:Sl w v xs F)(hn:xs.length<=100000000) :
  Calls Tryz.prog 99 #[v] w fun e w' => ∃ v' F',e = .returned v'/\Oa 61 w.heap.size w' v' xs F'/\(∀ b∈F',b∈F)/\F'.Sublist F/\Ext w w':=by
 have hnil:∀ (a:Option Addr) (n c:Nat),(binOp .eql 52 (.slice a n c) (.slice none 0 0)).run Tryz.prog w = .ok (.bool a.isNone) w:=fun a n c=>Go.Lib.run_eql_slice_nil w 52 61 a n c 0 0 Tryz.underlying52
 obtain⟨a,c,rfl,hl,hc,⟨rfl,rfl⟩ | ⟨hne,b,o,F',rfl,rfl,hr⟩⟩:=h
 ·cases a with
  | none =>
   go_enter Tryz.func99,Tryz.ntmps99;go_wp2;go_ret;exact⟨_,[],rfl,Oa.nil _ _ _,by simp,by simp,zr _⟩
  | some p =>
   go_enter Tryz.func99,Tryz.ntmps99;go_wp2;go_ret;exact⟨_,[],rfl,Oa.lit0 _ _,by simp,by simp,(zr _).alloc _⟩
 ·have hpos:0 < xs.length:=List.length_pos_iff.2 hne;have HR:Hid (∀ ob,Row (w.alloc ob) b o xs F'):=zh (fun ob=>hr.keep (((zr w).alloc ob).block b (hr.lt hne)) (fun k hk=>((zr w).alloc ob).block k (hr.inh k hk)))
  have HI:Hid (∀ k∈F',k < w.heap.size):=zh hr.inh;clear hr;go_enter Tryz.func99,Tryz.ntmps99;go_wp2_with (at_builtin;refine zCq (α:=Order) rfl _ _ 52 rfl 61 Tryz.underlying52 zHy (L:=w.heap.size) (v:=.slice (some ⟨w.heap.size,0,none⟩) 0 0) (xs:=[]) (ys:=xs) rfl (Oa.lit0 _ _) rfl rfl (HR.out _) (by omega) (fun k hk e=>by cases e;exact absurd (HI.out _ hk) (Nat.lt_irrefl _)) (by simp;omega) (by simp) ?_;intro v' w' hO' hgr;have HO2:=zh hO';have HQ2:=zh (Ext.grown ((zr w).alloc _) hgr (fun k hk=>by cases hk;exact Nat.le_refl _));clear hO' hgr;obtain⟨ao2,co2,rfl,_⟩:=HO2.out.form)
  go_ret;exact⟨_,F',rfl,by simpa using HO2.out,fun b hb=>by simp[hb],List.sublist_cons_self _ _,HQ2.out⟩
theorem zEi(n c:Nat)(w:World)(a:Option Addr)(hc:n<=c)(hl:c<=9223372036854775807) :
  Calls Tryz.prog 98 #[.slice a n c] w fun e w'=>e = .returned (.slice a n n)/\w=w':=by
 go_enter Tryz.func98,Tryz.ntmps98;go_wp2;go_ret;exact⟨rfl,rfl⟩
theorem zF2(v:Value)(xs:List Order)(w:World)(F:List Nat)(h:Sl w v xs F)(hn:xs.length<=100000000) :
  Calls Tryz.prog 56 #[v] w fun e w' => ∃ v' F',e = .returned v'/\Oh w.heap.size w' v' xs F'/\(∀ b∈F',b∈F)/\F'.Sublist F/\Ext w w':=by
 obtain⟨a,c,rfl,hl⟩:=Rs.form ⟨F,h⟩;have H:=zh h;clear h;go_enter Tryz.func56,Tryz.ntmps56;go_wp2_with fail
 refine(zE6 _ _ _ _ H.out hn).mono ?_;rintro e w1 ⟨v1,F1,rfl,ho,hF,hsub,he⟩;obtain⟨a1,c1,rfl,_⟩:=ho.form;have hcp:=ho.cap;have HO:=zh ho.oh;have HX:=zh (And.intro hF (And.intro hsub he));clear ho hF hsub he;go_wp2_with fail
 refine(zEi _ _ _ _ hcp.1 hcp.2).mono ?_;rintro e w2 ⟨rfl,rfl⟩;go_wp2;go_ret;exact⟨_,F1,rfl,HO.out,HX.out⟩
theorem zFf:El Tryz.prog 52 (List Order):=El.of (z:=.slice none 0 0) (n:=1) (b:=24) (by kernel_rfl) rfl rfl (by decide)
theorem zDt(v:Value)(xs:List (List Order))(w:World)(F:List Nat)(h:Sl w v xs F)(hn:xs.length<=100000000) :
  Calls Tryz.prog 93 #[v] w fun e w' => ∃ v' F',e = .returned v'/\Oa 52 w.heap.size w' v' xs F'/\(∀ b∈F',b∈F)/\F'.Sublist F/\Ext w w':=by
 have hnil:∀ (a:Option Addr) (n c:Nat),(binOp .eql 28 (.slice a n c) (.slice none 0 0)).run Tryz.prog w = .ok (.bool a.isNone) w:=fun a n c=>Go.Lib.run_eql_slice_nil w 28 52 a n c 0 0 Tryz.underlying28
 obtain⟨a,c,rfl,hl,hc,⟨rfl,rfl⟩ | ⟨hne,b,o,F',rfl,rfl,hr⟩⟩:=h
 ·cases a with
  | none =>
   go_enter Tryz.func93,Tryz.ntmps93;go_wp2;go_ret;exact⟨_,[],rfl,Oa.nil _ _ _,by simp,by simp,zr _⟩
  | some p =>
   go_enter Tryz.func93,Tryz.ntmps93;go_wp2;go_ret;exact⟨_,[],rfl,Oa.lit0 _ _,by simp,by simp,(zr _).alloc _⟩
 ·have hpos:0 < xs.length:=List.length_pos_iff.2 hne;have HR:Hid (∀ ob,Row (w.alloc ob) b o xs F'):=zh (fun ob=>hr.keep (((zr w).alloc ob).block b (hr.lt hne)) (fun k hk=>((zr w).alloc ob).block k (hr.inh k hk)))
  have HI:Hid (∀ k∈F',k < w.heap.size):=zh hr.inh;clear hr;go_enter Tryz.func93,Tryz.ntmps93;go_wp2_with (at_builtin;refine zCq (α:=(List Order)) rfl _ _ 28 rfl 52 Tryz.underlying28 zFf (L:=w.heap.size) (v:=.slice (some ⟨w.heap.size,0,none⟩) 0 0) (xs:=[]) (ys:=xs) rfl (Oa.lit0 _ _) rfl rfl (HR.out _) (by omega) (fun k hk e=>by cases e;exact absurd (HI.out _ hk) (Nat.lt_irrefl _)) (by simp;omega) (by simp) ?_;intro v' w' hO' hgr;have HO2:=zh hO';have HQ2:=zh (Ext.grown ((zr w).alloc _) hgr (fun k hk=>by cases hk;exact Nat.le_refl _));clear hO' hgr;obtain⟨ao2,co2,rfl,_⟩:=HO2.out.form)
  go_ret;exact⟨_,F',rfl,by simpa using HO2.out,fun b hb=>by simp[hb],List.sublist_cons_self _ _,HQ2.out⟩
theorem zE4(n c:Nat)(w:World)(a:Option Addr)(hc:n<=c)(hl:c<=9223372036854775807) :
  Calls Tryz.prog 92 #[.slice a n c] w fun e w'=>e = .returned (.slice a n n)/\w=w':=by
 go_enter Tryz.func92,Tryz.ntmps92;go_wp2;go_ret;exact⟨rfl,rfl⟩
theorem zEe(v:Value)(xs:List (List Order))(w:World)(F:List Nat)(h:Sl w v xs F)(hn:xs.length<=100000000) :
  Calls Tryz.prog 53 #[v] w fun e w' => ∃ v' F',e = .returned v'/\Oh w.heap.size w' v' xs F'/\(∀ b∈F',b∈F)/\F'.Sublist F/\Ext w w':=by
 obtain⟨a,c,rfl,hl⟩:=Rs.form ⟨F,h⟩;have H:=zh h;clear h;go_enter Tryz.func53,Tryz.ntmps53;go_wp2_with fail
 refine(zDt _ _ _ _ H.out hn).mono ?_;rintro e w1 ⟨v1,F1,rfl,ho,hF,hsub,he⟩;obtain⟨a1,c1,rfl,_⟩:=ho.form;have hcp:=ho.cap;have HO:=zh ho.oh;have HX:=zh (And.intro hF (And.intro hsub he));clear ho hF hsub he;go_wp2_with fail
 refine(zE4 _ _ _ _ hcp.1 hcp.2).mono ?_;rintro e w2 ⟨rfl,rfl⟩;go_wp2;go_ret;exact⟨_,F1,rfl,HO.out,HX.out⟩
theorem zIb:El Tryz.prog 43 Core:=El.of (z:=.agg #[.slice none 0 0,.int .i64 0,.bool false]) (n:=3) (b:=40) (by kernel_rfl) rfl rfl (by decide)
theorem zEj(v:Value)(xs:List Core)(w:World)(F:List Nat)(h:Sl w v xs F)(hn:xs.length<=100000000) :
  Calls Tryz.prog 95 #[v] w fun e w' => ∃ v' F',e = .returned v'/\Oa 43 w.heap.size w' v' xs F'/\(∀ b∈F',b∈F)/\F'.Sublist F/\Ext w w':=by
 have hnil:∀ (a:Option Addr) (n c:Nat),(binOp .eql 31 (.slice a n c) (.slice none 0 0)).run Tryz.prog w = .ok (.bool a.isNone) w:=fun a n c=>Go.Lib.run_eql_slice_nil w 31 43 a n c 0 0 Tryz.underlying31
 obtain⟨a,c,rfl,hl,hc,⟨rfl,rfl⟩ | ⟨hne,b,o,F',rfl,rfl,hr⟩⟩:=h
 ·cases a with
  | none =>
   go_enter Tryz.func95,Tryz.ntmps95;go_wp2;go_ret;exact⟨_,[],rfl,Oa.nil _ _ _,by simp,by simp,zr _⟩
  | some p =>
   go_enter Tryz.func95,Tryz.ntmps95;go_wp2;go_ret;exact⟨_,[],rfl,Oa.lit0 _ _,by simp,by simp,(zr _).alloc _⟩
 ·have hpos:0 < xs.length:=List.length_pos_iff.2 hne;have HR:Hid (∀ ob,Row (w.alloc ob) b o xs F'):=zh (fun ob=>hr.keep (((zr w).alloc ob).block b (hr.lt hne)) (fun k hk=>((zr w).alloc ob).block k (hr.inh k hk)))
  have HI:Hid (∀ k∈F',k < w.heap.size):=zh hr.inh;clear hr;go_enter Tryz.func95,Tryz.ntmps95;go_wp2_with (at_builtin;refine zCq (α:=Core) rfl _ _ 31 rfl 43 Tryz.underlying31 zIb (L:=w.heap.size) (v:=.slice (some ⟨w.heap.size,0,none⟩) 0 0) (xs:=[]) (ys:=xs) rfl (Oa.lit0 _ _) rfl rfl (HR.out _) (by omega) (fun k hk e=>by cases e;exact absurd (HI.out _ hk) (Nat.lt_irrefl _)) (by simp;omega) (by simp) ?_;intro v' w' hO' hgr;have HO2:=zh hO';have HQ2:=zh (Ext.grown ((zr w).alloc _) hgr (fun k hk=>by cases hk;exact Nat.le_refl _));clear hO' hgr;obtain⟨ao2,co2,rfl,_⟩:=HO2.out.form)
  go_ret;exact⟨_,F',rfl,by simpa using HO2.out,fun b hb=>by simp[hb],List.sublist_cons_self _ _,HQ2.out⟩
theorem zF5(n c:Nat)(w:World)(a:Option Addr)(hc:n<=c)(hl:c<=9223372036854775807) :
  Calls Tryz.prog 94 #[.slice a n c] w fun e w'=>e = .returned (.slice a n n)/\w=w':=by
 go_enter Tryz.func94,Tryz.ntmps94;go_wp2;go_ret;exact⟨rfl,rfl⟩
theorem zFp(v:Value)(xs:List Core)(w:World)(F:List Nat)(h:Sl w v xs F)(hn:xs.length<=100000000) :
  Calls Tryz.prog 54 #[v] w fun e w' => ∃ v' F',e = .returned v'/\Oh w.heap.size w' v' xs F'/\(∀ b∈F',b∈F)/\F'.Sublist F/\Ext w w':=by
 obtain⟨a,c,rfl,hl⟩:=Rs.form ⟨F,h⟩;have H:=zh h;clear h;go_enter Tryz.func54,Tryz.ntmps54;go_wp2_with fail
 refine(zEj _ _ _ _ H.out hn).mono ?_;rintro e w1 ⟨v1,F1,rfl,ho,hF,hsub,he⟩;obtain⟨a1,c1,rfl,_⟩:=ho.form;have hcp:=ho.cap;have HO:=zh ho.oh;have HX:=zh (And.intro hF (And.intro hsub he));clear ho hF hsub he;go_wp2_with fail
 refine(zF5 _ _ _ _ hcp.1 hcp.2).mono ?_;rintro e w2 ⟨rfl,rfl⟩;go_wp2;go_ret;exact⟨_,F1,rfl,HO.out,HX.out⟩
theorem elHold:El Tryz.prog 40 Hold:=El.of (z:=.agg #[.slice none 0 0]) (n:=1) (b:=24) (by kernel_rfl) rfl rfl (by decide)
theorem zEk(v:Value)(xs:List Hold)(w:World)(F:List Nat)(h:Sl w v xs F)(hn:xs.length<=100000000) :
  Calls Tryz.prog 97 #[v] w fun e w' => ∃ v' F',e = .returned v'/\Oa 40 w.heap.size w' v' xs F'/\(∀ b∈F',b∈F)/\F'.Sublist F/\Ext w w':=by
 have hnil:∀ (a:Option Addr) (n c:Nat),(binOp .eql 32 (.slice a n c) (.slice none 0 0)).run Tryz.prog w = .ok (.bool a.isNone) w:=fun a n c=>Go.Lib.run_eql_slice_nil w 32 40 a n c 0 0 Tryz.underlying32
 obtain⟨a,c,rfl,hl,hc,⟨rfl,rfl⟩ | ⟨hne,b,o,F',rfl,rfl,hr⟩⟩:=h
 ·cases a with
  | none =>
   go_enter Tryz.func97,Tryz.ntmps97;go_wp2;go_ret;exact⟨_,[],rfl,Oa.nil _ _ _,by simp,by simp,zr _⟩
  | some p =>
   go_enter Tryz.func97,Tryz.ntmps97;go_wp2;go_ret;exact⟨_,[],rfl,Oa.lit0 _ _,by simp,by simp,(zr _).alloc _⟩
 ·have hpos:0 < xs.length:=List.length_pos_iff.2 hne;have HR:Hid (∀ ob,Row (w.alloc ob) b o xs F'):=zh (fun ob=>hr.keep (((zr w).alloc ob).block b (hr.lt hne)) (fun k hk=>((zr w).alloc ob).block k (hr.inh k hk)))
  have HI:Hid (∀ k∈F',k < w.heap.size):=zh hr.inh;clear hr;go_enter Tryz.func97,Tryz.ntmps97;go_wp2_with (at_builtin;refine zCq (α:=Hold) rfl _ _ 32 rfl 40 Tryz.underlying32 elHold (L:=w.heap.size) (v:=.slice (some ⟨w.heap.size,0,none⟩) 0 0) (xs:=[]) (ys:=xs) rfl (Oa.lit0 _ _) rfl rfl (HR.out _) (by omega) (fun k hk e=>by cases e;exact absurd (HI.out _ hk) (Nat.lt_irrefl _)) (by simp;omega) (by simp) ?_;intro v' w' hO' hgr;have HO2:=zh hO';have HQ2:=zh (Ext.grown ((zr w).alloc _) hgr (fun k hk=>by cases hk;exact Nat.le_refl _));clear hO' hgr;obtain⟨ao2,co2,rfl,_⟩:=HO2.out.form)
  go_ret;exact⟨_,F',rfl,by simpa using HO2.out,fun b hb=>by simp[hb],List.sublist_cons_self _ _,HQ2.out⟩
theorem zF6(n c:Nat)(w:World)(a:Option Addr)(hc:n<=c)(hl:c<=9223372036854775807) :
  Calls Tryz.prog 96 #[.slice a n c] w fun e w'=>e = .returned (.slice a n n)/\w=w':=by
 go_enter Tryz.func96,Tryz.ntmps96;go_wp2;go_ret;exact⟨rfl,rfl⟩
theorem zFq(v:Value)(xs:List Hold)(w:World)(F:List Nat)(h:Sl w v xs F)(hn:xs.length<=100000000) :
  Calls Tryz.prog 55 #[v] w fun e w' => ∃ v' F',e = .returned v'/\Oh w.heap.size w' v' xs F'/\(∀ b∈F',b∈F)/\F'.Sublist F/\Ext w w':=by
 obtain⟨a,c,rfl,hl⟩:=Rs.form ⟨F,h⟩;have H:=zh h;clear h;go_enter Tryz.func55,Tryz.ntmps55;go_wp2_with fail
 refine(zEk _ _ _ _ H.out hn).mono ?_;rintro e w1 ⟨v1,F1,rfl,ho,hF,hsub,he⟩;obtain⟨a1,c1,rfl,_⟩:=ho.form;have hcp:=ho.cap;have HO:=zh ho.oh;have HX:=zh (And.intro hF (And.intro hsub he));clear ho hF hsub he;go_wp2_with fail
 refine(zF6 _ _ _ _ hcp.1 hcp.2).mono ?_;rintro e w2 ⟨rfl,rfl⟩;go_wp2;go_ret;exact⟨_,F1,rfl,HO.out,HX.out⟩
end Sk
