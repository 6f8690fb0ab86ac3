/- Contracts of functions of the given program. -/
import Derived.Test.YtbhedbaafflndaaScal
import Derived.Test.YtbhedbaafflndaaFind
namespace Sk
open Go Go.Proofs Go.RowKit
set_option maxHeartbeats 400000
set_option maxRecDepth 100000
set_option linter.unusedVariables false
set_option linter.unusedSimpArgs false
theorem zBk{α:Type}(f : α -> Bool)(xs:List α):(!xs.any fun x => !f x)=xs.all f:=by
 induction xs with
 | nil=>rfl
 | cons x xs ih=>simp only[List.any_cons,List.all_cons,Bool.not_or,Bool.not_not,ih]
theorem zAl{a b:Bool}(h:a=true):(a && b)=b:=by simp[h]
theorem zAh{a b:Bool}(h:a=false):(a && b)=false:=by simp[h]
def M.wv(x:Window):Bool:=zA1 x.Base 0 4095 && zA1 x.Size 1 (4096 - x.Base)
theorem zB8(v:Value)(x:Window)(w:World)(h:Rv w v x) :
  Calls Try.prog 44 #[v] w fun e w'=>e = .returned (.bool (M.wv x))/\Ext w w':=by
 obtain⟨rfl,h1,h2⟩:=h.openWindow;by_cases hb:zA1 x.Base 0 4095=true
 ·have hm:=zh (zAl hb:M.wv x=_);have hb2:=zA5.1 hb;obtain⟨hb3,hb4⟩:=hb2;go_enter Try.func44,Try.ntmps44;go_wp2_with (go_at_call 19;refine(zAb _ _ _ _).mono ?_;rintro e w' ⟨rfl,rfl⟩)
  go_ret;exact⟨zA2 hm.out.symm,(zr w).alloc _⟩
 ·rw[Bool.not_eq_true] at hb;have hm:=zh (zAh hb:M.wv x=_);go_enter Try.func44,Try.ntmps44;go_wp2_with (go_at_call 19;refine(zAb _ _ _ _).mono ?_;rintro e w' ⟨rfl,rfl⟩)
  go_ret;exact⟨zA2 hm.out.symm,(zr w).alloc _⟩
theorem zAz(v:Value)(x:Window)(w:World)(h:Rv w v x) :
  Calls Try.prog 43 #[v] w fun e w'=>e = .returned (.bool (!M.wv x))/\Ext w w':=by
 have H:=zh h;obtain⟨rfl,h1,h2⟩:=h.openWindow;clear h;go_enter Try.func43,Try.ntmps43;go_wp2_with (go_at_call 44;refine(zB8 _ x _ (H.out.ext ((zr w).alloc _))).mono ?_;rintro e w' ⟨rfl,he⟩)
 go_ret;exact⟨rfl,((zr w).alloc _).tr he⟩
def M.wsv(xs:List Window):Bool:=decide (xs.length<=12) && xs.all M.wv
theorem zB9(v:Value)(xs:List Window)(w:World)(h:Rs w v xs) :
  Calls Try.prog 26 #[v] w fun e w'=>e = .returned (.bool (M.wsv xs))/\Ext w w':=by
 have HX:=zh (zCd 43 #[] (fun x => !M.wv x) v xs w h (zBy Try.func43 (by kernel_rfl) (by kernel_rfl)) (fun w1 v x _ _ hv=>zAz v x w1 hv))
 obtain⟨a,c,rfl,hl⟩:=h.form;clear h;by_cases hle:xs.length<=12
 ·have hm:=zh ((zBk M.wv xs).trans (zAl (decide_eq_true hle)).symm:_=M.wsv xs);go_enter Try.func26,Try.ntmps26;go_wp2_with (go_at_call 42;refine HX.out.mono ?_;rintro e w' ⟨rfl,he⟩)
  go_ret;exact⟨zA2 hm.out,he⟩
 ·have hm:=zh (zAh (decide_eq_false hle):M.wsv xs=_);go_enter Try.func26,Try.ntmps26;go_wp2;go_ret;exact⟨zA2 hm.out.symm,.refl _⟩
end Sk
