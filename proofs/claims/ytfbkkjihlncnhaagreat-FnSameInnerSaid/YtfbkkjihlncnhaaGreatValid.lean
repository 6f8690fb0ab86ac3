/- Contracts of functions of the given program. -/
import Derived.Test.YtfbkkjihlncnhaaGreatApp
namespace Sk
open Go Go.Proofs Go.RowKit
set_option maxHeartbeats 400000
set_option maxRecDepth 100000
set_option linter.unusedVariables false
set_option linter.unusedSimpArgs false
theorem not_any_not {α:Type} (f : α → Bool) (xs:List α):(!xs.any fun x => !f x)=xs.all f:=by
 induction xs with
 | nil=>rfl
 | cons x xs ih=>simp only[List.any_cons,List.all_cons,Bool.not_or,Bool.not_not,ih]
theorem and_t {a b:Bool} (h:a=true):(a && b)=b:=by simp[h]
theorem and_f {a b:Bool} (h:a=false):(a && b)=false:=by simp[h]
def M.wv (x:Window):Bool:=M.inn x.Base 0 4095 && M.inn x.Size 1 (4096 - x.Base)
theorem impl_Window_valid (v:Value) (x:Window) (w:World) (h:Rv w v x) :
  Calls Tryz.prog 155 #[v] w fun e w'=>e = .returned (.bool (M.wv x))∧Ext w w':=by
 obtain⟨rfl,h1,h2⟩:=h.openWindow;by_cases hb:M.inn x.Base 0 4095=true
 ·have hm:=zh (and_t hb:M.wv x=_);have hb2:=M.inn_iff.1 hb;obtain⟨hb3,hb4⟩:=hb2;go_enter Tryz.func155,Tryz.ntmps155;go_wp2_with (go_at_call 55;refine(impl_in _ _ _ _).mono ?_;rintro e w' ⟨rfl,rfl⟩)
  go_ret;exact⟨wp_cond_ret hm.out.symm,(Ext.refl w).alloc _⟩
 ·rw[Bool.not_eq_true] at hb;have hm:=zh (and_f hb:M.wv x=_);go_enter Tryz.func155,Tryz.ntmps155;go_wp2_with (go_at_call 55;refine(impl_in _ _ _ _).mono ?_;rintro e w' ⟨rfl,rfl⟩)
  go_ret;exact⟨wp_cond_ret hm.out.symm,(Ext.refl w).alloc _⟩
theorem spec_Window_valid (v:Value) (x:Window) (w:World) (h:Rv w v x) :
  Calls Tryz.prog 188 #[v] w fun e w'=>e = .returned (.bool (M.wv x))∧Ext w w':=by
 obtain⟨rfl,h1,h2⟩:=h.openWindow;by_cases hb:M.inn x.Base 0 4095=true
 ·have hm:=zh (and_t hb:M.wv x=_);obtain⟨hb3,hb4⟩:=M.inn_iff.1 hb;go_enter Tryz.func188,Tryz.ntmps188;go_wp2_with (go_at_call 60;refine(spec_In _ _ _ _).mono ?_;rintro e w' ⟨rfl,rfl⟩)
  go_ret;exact⟨wp_cond_ret hm.out.symm,(Ext.refl w).alloc _⟩
 ·rw[Bool.not_eq_true] at hb;have hm:=zh (and_f hb:M.wv x=_);go_enter Tryz.func188,Tryz.ntmps188;go_wp2_with (go_at_call 60;refine(spec_In _ _ _ _).mono ?_;rintro e w' ⟨rfl,rfl⟩)
  go_ret;exact⟨wp_cond_ret hm.out.symm,(Ext.refl w).alloc _⟩
theorem impl_WindowsValid_1 (v:Value) (x:Window) (w:World) (h:Rv w v x) :
  Calls Tryz.prog 154 #[v] w fun e w'=>e = .returned (.bool (!M.wv x))∧Ext w w':=by
 have H:=zh h;obtain⟨rfl,h1,h2⟩:=h.openWindow;clear h;go_enter Tryz.func154,Tryz.ntmps154;go_wp2_with (go_at_call 155;refine(impl_Window_valid _ x _ (H.out.ext ((Ext.refl w).alloc _))).mono ?_;rintro e w' ⟨rfl,he⟩)
 go_ret;exact⟨rfl,((Ext.refl w).alloc _).tr he⟩
def M.wsv (xs:List Window):Bool:=decide (xs.length≤12) && xs.all M.wv
theorem impl_WindowsValid (v:Value) (xs:List Window) (w:World) (h:Rs w v xs) :
  Calls Tryz.prog 105 #[v] w fun e w'=>e = .returned (.bool (M.wsv xs))∧Ext w w':=by
 have HX:=zh (has_Window 154 #[] (fun x => !M.wv x) v xs w h (enter_of Tryz.func154 (by kernel_rfl) (by kernel_rfl)) (fun w1 v x _ _ hv=>impl_WindowsValid_1 v x w1 hv))
 obtain⟨a,c,rfl,hl⟩:=h.form;clear h;by_cases hle:xs.length≤12
 ·have hm:=zh ((not_any_not M.wv xs).trans (and_t (decide_eq_true hle)).symm:_=M.wsv xs);go_enter Tryz.func105,Tryz.ntmps105;go_wp2_with (go_at_call 153;refine HX.out.mono ?_;rintro e w' ⟨rfl,he⟩)
  go_ret;exact⟨wp_cond_ret hm.out,he⟩
 ·have hm:=zh (and_f (decide_eq_false hle):M.wsv xs=_);go_enter Tryz.func105,Tryz.ntmps105;go_wp2;go_ret;exact⟨wp_cond_ret hm.out.symm,.refl _⟩
theorem spec_WindowsValid (v:Value) (xs:List Window) (w:World) (h:Rs w v xs) :
  Calls Tryz.prog 182 #[v] w fun e w'=>e = .returned (.bool (M.wsv xs))∧Ext w w':=by
 obtain⟨a,c,rfl,hl⟩:=h.form;have H:=zh h;clear h;go_enter Tryz.func182,Tryz.ntmps182;go_wp2;go_loopw [3] (fun i wr => ∃ k:Nat,k≤xs.length∧i = .int .i64 k∧(xs.take k).all M.wv=true∧Ext w wr) (fun i _=>xs.length - (intOf i).toNat)
 case atStart=>exact⟨0,Nat.zero_le _,rfl,rfl,.refl _⟩
 case round =>
  obtain⟨k,hk,rfl,he,hq⟩:=hrel;have HE:=zh he;have HQ:=zh hq;clear he hq;by_cases hlt:k < xs.length
  ·obtain⟨b,o,x,rfl,hb,hx,hc0,hc1,hc2,hr0,hr1,hv⟩:=(H.out.ext HQ.out).atWindow k hlt;clear H;by_cases hw:M.wv x=true
   ·have HN:=zh (all_take_succ M.wv hx.out);go_wp2_with (go_at_call 188;refine(spec_Window_valid _ x _ hv.out).mono ?_;rintro e w' ⟨rfl,he⟩;have HE2:=zh (HQ.out.tr he);clear he)
    go_roundw
    case rel=>exact⟨k+1,by omega,by go_num,by rw[HN.out,HE.out,hw];rfl,HE2.out⟩
    case measure=>simp[intOf];omega
   ·rw[Bool.not_eq_true] at hw;have HN:Hid (M.wsv xs=false):=zh (by unfold M.wsv;rw[all_false_at M.wv hx.out hw,Bool.and_false])
    go_wp2_with (go_at_call 188;refine(spec_Window_valid _ x _ hv.out).mono ?_;rintro e w' ⟨rfl,he⟩;have HE2:=zh (HQ.out.tr he);clear he)
    go_ret;exact⟨wp_cond_ret HN.out.symm,HE2.out⟩
  ·have HN:Hid (M.wsv xs=decide (xs.length≤12)):=zh (by
    unfold M.wsv;rw[← all_take_all M.wv xs k (by omega),HE.out,Bool.and_true])
   clear H;by_cases hle:xs.length≤12
   ·go_wp2;go_ret;exact⟨wp_cond_ret (by rw[HN.out,decide_eq_true hle];exact decide_eq_true (by omega)),HQ.out⟩
   ·go_wp2;go_ret;exact⟨wp_cond_ret (by rw[HN.out,decide_eq_false hle];exact decide_eq_false (by omega)),HQ.out⟩
def M.pv1 (p:Part):Bool:=M.wsv p.Windows && M.inn p.Cells 1 8
def M.psv (xs:List Part):Bool:=decide (xs.length≤5) && xs.all M.pv1
theorem impl_PartsValid_1 (v:Value) (x:Part) (w:World) (h:Rv w v x) :
  Calls Tryz.prog 173 #[v] w fun e w'=>e = .returned (.bool (!M.pv1 x))∧Ext w w':=by
 obtain⟨a0,c0,rfl,hr1,hs,hl⟩:=h.openPart;clear h;have e0:=zh ((Ext.refl w).alloc (.cells #[.slice a0 x.Windows.length c0,.int .i64 x.Cells] 51));by_cases hw:M.wsv x.Windows=true
 ·have hm:=zh (congrArg (! ·) (and_t hw:M.pv1 x=_))
  go_enter Tryz.func173,Tryz.ntmps173;go_wp2_with fail
  refine(impl_WindowsValid _ _ _ (hs.out.ext e0.out)).mono ?_;rintro e w1 ⟨rfl,he⟩;obtain⟨hcb,hfb⟩:=bcell he;go_wp2_with (go_at_call 55;refine(impl_in _ _ _ _).mono ?_;rintro e w' ⟨rfl,rfl⟩)
  go_ret;exact⟨wp_cond_ret hm.out.symm,e0.out.tr he⟩
 ·rw[Bool.not_eq_true] at hw;have hm:=zh (congrArg (! ·) (and_f hw:M.pv1 x=_))
  go_enter Tryz.func173,Tryz.ntmps173;go_wp2_with fail
  refine(impl_WindowsValid _ _ _ (hs.out.ext e0.out)).mono ?_;rintro e w1 ⟨rfl,he⟩;have HE:=zh he;clear he;go_wp2;go_ret;exact⟨wp_cond_ret hm.out.symm,e0.out.tr HE.out⟩
theorem impl_PartsValid (v:Value) (xs:List Part) (w:World) (h:Rs w v xs) :
  Calls Tryz.prog 137 #[v] w fun e w'=>e = .returned (.bool (M.psv xs))∧Ext w w':=by
 have HX:=zh (has_Part 173 #[] (fun x => !M.pv1 x) v xs w h (enter_of Tryz.func173 (by kernel_rfl) (by kernel_rfl)) (fun w1 v x _ _ hv=>impl_PartsValid_1 v x w1 hv))
 obtain⟨a,c,rfl,hl⟩:=h.form;clear h;by_cases hle:xs.length≤5
 ·have hm:=zh ((not_any_not M.pv1 xs).trans (and_t (decide_eq_true hle)).symm:_=M.psv xs);go_enter Tryz.func137,Tryz.ntmps137;go_wp2_with (go_at_call 172;refine HX.out.mono ?_;rintro e w' ⟨rfl,he⟩)
  go_ret;exact⟨wp_cond_ret hm.out,he⟩
 ·have hm:=zh (and_f (decide_eq_false hle):M.psv xs=_);go_enter Tryz.func137,Tryz.ntmps137;go_wp2;go_ret;exact⟨wp_cond_ret hm.out.symm,.refl _⟩
theorem spec_PartsValid (v:Value) (xs:List Part) (w:World) (h:Rs w v xs) :
  Calls Tryz.prog 151 #[v] w fun e w'=>e = .returned (.bool (M.psv xs))∧Ext w w':=by
 obtain⟨a,c,rfl,hl⟩:=h.form;have H:=zh h;clear h;go_enter Tryz.func151,Tryz.ntmps151;go_wp2;go_loopw [3] (fun i wr => ∃ k:Nat,k≤xs.length∧i = .int .i64 k∧(xs.take k).all M.pv1=true∧Ext w wr) (fun i _=>xs.length - (intOf i).toNat)
 case atStart=>exact⟨0,Nat.zero_le _,rfl,rfl,.refl _⟩
 case round =>
  obtain⟨k,hk,rfl,he,hq⟩:=hrel;have HE:=zh he;have HQ:=zh hq;clear he hq;by_cases hlt:k < xs.length
  ·obtain⟨b,o,x,a0,c0,rfl,hb,hx,hc0,hc1,hr1,hs0,hl0,hv⟩:=(H.out.ext HQ.out).atPart k hlt;clear H;by_cases hw:M.wsv x.Windows=true
   ·by_cases hi:M.inn x.Cells 1 8=true
    ·have hp:M.pv1 x=true:=by unfold M.pv1;rw[hw,hi];rfl
     have HN:=zh ((all_take_succ M.pv1 hx.out).trans (by rw[HE.out,hp];rfl:_=true))
     clear hp;go_wp2_with fail
     refine(spec_WindowsValid _ _ _ hs0.out).mono ?_;rintro e w1 ⟨rfl,he⟩;obtain⟨hcb,hfb⟩:=bcell he;go_wp2_with (go_at_call 60;refine(spec_In _ _ _ _).mono ?_;rintro e w' ⟨rfl,rfl⟩)
     go_roundw
     case rel=>exact⟨k+1,by omega,by go_num,HN.out,HQ.out.tr he⟩
     case measure=>simp[intOf];omega
    ·rw[Bool.not_eq_true] at hi;have HN:Hid (M.psv xs=false):=zh (by unfold M.psv;rw[all_false_at M.pv1 hx.out (by unfold M.pv1;rw[hi,Bool.and_false]),Bool.and_false])
     go_wp2_with fail
     refine(spec_WindowsValid _ _ _ hs0.out).mono ?_;rintro e w1 ⟨rfl,he⟩;obtain⟨hcb,hfb⟩:=bcell he;go_wp2_with (go_at_call 60;refine(spec_In _ _ _ _).mono ?_;rintro e w' ⟨rfl,rfl⟩)
     go_ret;exact⟨wp_cond_ret HN.out.symm,HQ.out.tr he⟩
   ·rw[Bool.not_eq_true] at hw;have HN:Hid (M.psv xs=false):=zh (by unfold M.psv;rw[all_false_at M.pv1 hx.out (by unfold M.pv1;rw[hw,Bool.false_and]),Bool.and_false])
    go_wp2_with fail
    refine(spec_WindowsValid _ _ _ hs0.out).mono ?_;rintro e w1 ⟨rfl,he⟩;have HE2:=zh (HQ.out.tr he);clear he;go_wp2;go_ret;exact⟨wp_cond_ret HN.out.symm,HE2.out⟩
  ·have HN:Hid (M.psv xs=decide (xs.length≤5)):=zh (by
    unfold M.psv;rw[← all_take_all M.pv1 xs k (by omega),HE.out,Bool.and_true])
   clear H;by_cases hle:xs.length≤5
   ·go_wp2;go_ret;exact⟨wp_cond_ret (by rw[HN.out,decide_eq_true hle];exact decide_eq_true (by omega)),HQ.out⟩
   ·go_wp2;go_ret;exact⟨wp_cond_ret (by rw[HN.out,decide_eq_false hle];exact decide_eq_false (by omega)),HQ.out⟩
def M.slv (n:Int) (x:Slot):Bool:=M.inn x.Ticks 1 20 && M.inn x.Who (-1) (n - 1)
def M.ssv (xs:List Slot) (n:Int):Bool:=M.inn n 0 5 && (M.inn xs.length 1 12 && xs.all (M.slv n))
theorem impl_SlotsValid_1 (v:Value) (x:Slot) (b:Nat) (n:Int) (w:World) (h:Rv w v x) (hb:b < w.heap.size) (hc:w.cell? ⟨b,0,none⟩=some (.int .i64 n)) (hn1:0≤n) (hn2:n≤5) :
  Calls Tryz.prog 119 #[v,.pointer (some ⟨b,0,none⟩)] w fun e w'=>e = .returned (.bool (!M.slv n x))∧Ext w w':=by
 obtain⟨rfl,hr0,hr1⟩:=h.openSlot;clear h;by_cases hw:M.inn x.Ticks 1 20=true
 ·have hm:=zh (congrArg (! ·) (and_t hw:M.slv n x=_))
  go_enter Tryz.func119,Tryz.ntmps119;go_wp2_with (go_at_call 55;refine(impl_in _ _ _ _).mono ?_;rintro e w' ⟨rfl,rfl⟩)
  go_ret;exact⟨wp_cond_ret hm.out.symm,(Ext.refl w).alloc _⟩
 ·rw[Bool.not_eq_true] at hw;have hm:=zh (congrArg (! ·) (and_f hw:M.slv n x=_))
  go_enter Tryz.func119,Tryz.ntmps119;go_wp2_with (go_at_call 55;refine(impl_in _ _ _ _).mono ?_;rintro e w' ⟨rfl,rfl⟩)
  go_ret;exact⟨wp_cond_ret hm.out.symm,(Ext.refl w).alloc _⟩
theorem box_cell {w w1:World} {c:Value} {T:TypeId} (he:Ext (w.alloc (.cells #[c] T)) w1):w.heap.size < w1.heap.size∧w1.cell? ⟨w.heap.size,0,none⟩=some c:=by
 have hs:w.heap.size < (w.alloc (.cells #[c] T)).heap.size:=by simp
 refine⟨Nat.lt_of_lt_of_le hs he.sz,?_⟩;rw[(bcell he).1 _ _ hs];simp
theorem impl_SlotsValid (v:Value) (xs:List Slot) (n:Int) (w:World) (h:Rs w v xs) :
  Calls Tryz.prog 70 #[v,.int .i64 n] w fun e w'=>e = .returned (.bool (M.ssv xs n))∧Ext w w':=by
 have e0:=zh ((Ext.refl w).alloc (.cells #[.int .i64 n] 3));have H:=zh h;obtain⟨a,c,rfl,hl⟩:=h.form;clear h;by_cases h1:M.inn n 0 5=true
 ·obtain⟨hn1,hn2⟩:=M.inn_iff.1 h1;have HX:=zh (has_Slot 119 #[.pointer (some ⟨w.heap.size,0,none⟩)] (fun x => !M.slv n x) _ xs _ (H.out.ext e0.out) (enter_of Tryz.func119 (by kernel_rfl) (by kernel_rfl))
   (fun w1 v x he _ hv=>impl_SlotsValid_1 v x _ n w1 hv (box_cell he).1 (box_cell he).2 hn1 hn2))
  by_cases h2:M.inn xs.length 1 12=true
  ·have hm:=zh ((not_any_not (M.slv n) xs).trans ((and_t h1).trans (and_t h2)).symm:_=M.ssv xs n);go_enter Tryz.func70,Tryz.ntmps70;go_wp2_with (first|(go_at_call 55;refine(impl_in _ _ _ _).mono ?_;rintro e w' ⟨rfl,rfl⟩)|(go_at_call 118;refine HX.out.mono ?_;rintro e w' ⟨rfl,he⟩))
   go_ret;exact⟨wp_cond_ret hm.out,e0.out.tr he⟩
  ·rw[Bool.not_eq_true] at h2;have hm:=zh (((and_t h1).trans (and_f h2)).symm:_=M.ssv xs n);go_enter Tryz.func70,Tryz.ntmps70;go_wp2_with (go_at_call 55;refine(impl_in _ _ _ _).mono ?_;rintro e w' ⟨rfl,rfl⟩)
   go_ret;exact⟨wp_cond_ret hm.out,e0.out⟩
 ·rw[Bool.not_eq_true] at h1;have hm:=zh ((and_f h1).symm:_=M.ssv xs n);go_enter Tryz.func70,Tryz.ntmps70;go_wp2_with (go_at_call 55;refine(impl_in _ _ _ _).mono ?_;rintro e w' ⟨rfl,rfl⟩)
  go_ret;exact⟨wp_cond_ret hm.out,e0.out⟩
theorem spec_SlotsValid (v:Value) (xs:List Slot) (n:Int) (w:World) (h:Rs w v xs) :
    Calls Tryz.prog 116 #[v,.int .i64 n] w fun e w'=>e = .returned (.bool (M.ssv xs n))∧Ext w w':=by
  obtain⟨a,c,rfl,hl⟩:=h.form;have H:=zh h;clear h;by_cases h1:M.inn n 0 5=true
  · obtain⟨hn1,hn2⟩:=M.inn_iff.1 h1;go_enter Tryz.func116,Tryz.ntmps116;go_wp2;go_loopw [5] (fun i wr => ∃ k:Nat,k≤xs.length∧i = .int .i64 k∧(xs.take k).all (M.slv n)=true∧Ext w wr) (fun i _=>xs.length - (intOf i).toNat)
    case atStart=>exact⟨0,Nat.zero_le _,rfl,rfl,.refl _⟩
    case round =>
      obtain⟨k,hk,rfl,he,hq⟩:=hrel;have HE:=zh he;have HQ:=zh hq;clear he hq;by_cases hlt:k < xs.length
      · obtain⟨b,o,x,rfl,hb,hx,hc0,hc1,hr0,hr1,hv⟩:=(H.out.ext HQ.out).atSlot k hlt;clear H;by_cases hw:M.inn x.Ticks 1 20=true
        · by_cases hi:M.inn x.Who (-1) (n - 1)=true
          · have hp:M.slv n x=true:=by unfold M.slv;rw[hw,hi];rfl
            have HN:=zh ((all_take_succ (M.slv n) hx.out).trans (by rw[HE.out,hp];rfl:_=true))
            clear hp;go_wp2_with (go_at_call 60;refine(spec_In _ _ _ _).mono ?_;rintro e w' ⟨rfl,rfl⟩)
            go_roundw
            case rel=>exact⟨k+1,by omega,by go_num,HN.out,HQ.out⟩
            case measure=>simp[intOf];omega
          · rw[Bool.not_eq_true] at hi;have HN:Hid (M.ssv xs n=false):=zh (by unfold M.ssv;rw[all_false_at (M.slv n) hx.out (by unfold M.slv;rw[hi,Bool.and_false]),Bool.and_false,Bool.and_false])
            go_wp2_with (go_at_call 60;refine(spec_In _ _ _ _).mono ?_;rintro e w' ⟨rfl,rfl⟩)
            go_ret;exact⟨wp_cond_ret HN.out.symm,HQ.out⟩
        · rw[Bool.not_eq_true] at hw;have HN:Hid (M.ssv xs n=false):=zh (by unfold M.ssv;rw[all_false_at (M.slv n) hx.out (by unfold M.slv;rw[hw,Bool.false_and]),Bool.and_false,Bool.and_false])
          go_wp2_with (go_at_call 60;refine(spec_In _ _ _ _).mono ?_;rintro e w' ⟨rfl,rfl⟩)
          go_ret;exact⟨wp_cond_ret HN.out.symm,HQ.out⟩
      · have HN:Hid (M.ssv xs n=M.inn xs.length 1 12):=zh (by
          unfold M.ssv;rw[← all_take_all (M.slv n) xs k (by omega),HE.out,Bool.and_true,h1,Bool.true_and])
        clear H;cases h2:M.inn xs.length 1 12
        all_goals
          go_wp2_with (go_at_call 60;refine(spec_In _ _ _ _).mono ?_;rintro e w' ⟨rfl,rfl⟩)
          go_ret;exact⟨wp_cond_ret (by rw[HN.out,h2]),HQ.out⟩
  · rw[Bool.not_eq_true] at h1;have HN:Hid (M.ssv xs n=false):=zh (and_f h1);go_enter Tryz.func116,Tryz.ntmps116;go_wp2;go_loopw [5] (fun i wr => ∃ k:Nat,k≤xs.length∧i = .int .i64 k∧Ext w wr) (fun i _=>xs.length - (intOf i).toNat)
    case atStart=>exact⟨0,Nat.zero_le _,rfl,.refl _⟩
    case round =>
      obtain⟨k,hk,rfl,hq⟩:=hrel;have HQ:=zh hq;clear hq;by_cases hlt:k < xs.length
      · obtain⟨b,o,x,rfl,hb,hx,hc0,hc1,hr0,hr1,hv⟩:=(H.out.ext HQ.out).atSlot k hlt;clear H;go_wp2_with (go_at_call 60;refine(spec_In _ _ _ _).mono ?_;rintro e w' ⟨rfl,rfl⟩)
        all_goals first
          | (go_ret;exact⟨wp_cond_ret HN.out.symm,HQ.out⟩)
          | (go_roundw
             case rel=>exact⟨k+1,by omega,by go_num,HQ.out⟩
             case measure=>simp[intOf];omega)
      · clear H;go_wp2_with (go_at_call 60;refine(spec_In _ _ _ _).mono ?_;rintro e w' ⟨rfl,rfl⟩)
        all_goals go_ret
        all_goals exact⟨wp_cond_ret HN.out.symm,HQ.out⟩
theorem not_f {b:Bool} (h:b=false):(!b)=true:=by rw[h];rfl
theorem not_t {b:Bool} (h:b=true):(!b)=false:=by rw[h];rfl
noncomputable def M.cv (n:Int) (c:Channel):Bool:=M.sized c.Kind c.Size && (M.inn c.From 0 (n - 1) && (M.inn c.To 0 (n - 1) && !(c.From == c.To)))
noncomputable def M.csv (xs:List Channel) (n:Int):Bool:=M.inn n 0 5 && (decide (xs.length≤8) && xs.all (M.cv n))
theorem M.sized_iff {k s:Int}:M.sized k s=true ↔ (k=1∧s=1∨(k=2∨k=3)∧1≤s∧s≤4):=Bo.iff
theorem M.cv_iff {n:Int} {c:Channel}:M.cv n c=true ↔ (c.Kind=1∧c.Size=1∨(c.Kind=2∨c.Kind=3)∧1≤c.Size∧c.Size≤4)∧(0≤c.From∧c.From≤n - 1)∧(0≤c.To∧c.To≤n - 1)∧c.From≠c.To:=by
 unfold M.cv;simp only[Bool.and_eq_true,M.sized_iff,M.inn_iff,Bool.not_eq_true',beq_eq_false_iff_ne]
theorem impl_ChannelsValid_1 (v:Value) (x:Channel) (b:Nat) (n:Int) (w:World) (h:Rv w v x) (hb:b < w.heap.size) (hc:w.cell? ⟨b,0,none⟩=some (.int .i64 n)) (hn1:0≤n) (hn2:n≤5) :
  Calls Tryz.prog 126 #[v,.pointer (some ⟨b,0,none⟩)] w fun e w'=>e = .returned (.bool (!M.cv n x))∧Ext w w':=by
 obtain⟨rfl,hr0,hr1,hr2,hr3⟩:=h.openChannel;clear h;cases h1:M.sized x.Kind x.Size
 ·have hm:=zh (congrArg (! ·) (and_f h1:M.cv n x=_))
  go_enter Tryz.func126,Tryz.ntmps126;go_wp2_with (first|(go_at_call 113;refine(impl_sized _ _ _).mono ?_;rintro e w' ⟨rfl,rfl⟩)|(go_at_call 55;refine(impl_in _ _ _ _).mono ?_;rintro e w' ⟨rfl,rfl⟩))
  go_ret;exact⟨wp_cond_ret hm.out.symm,(Ext.refl w).alloc _⟩
 ·cases h2:M.inn x.From 0 (n - 1)
  ·have hm:=zh (congrArg (! ·) ((and_t h1).trans (and_f h2):M.cv n x=_))
   go_enter Tryz.func126,Tryz.ntmps126;go_wp2_with (first|(go_at_call 113;refine(impl_sized _ _ _).mono ?_;rintro e w' ⟨rfl,rfl⟩)|(go_at_call 55;refine(impl_in _ _ _ _).mono ?_;rintro e w' ⟨rfl,rfl⟩))
   go_ret;exact⟨wp_cond_ret hm.out.symm,(Ext.refl w).alloc _⟩
  ·cases h3:M.inn x.To 0 (n - 1)
   ·have hm:=zh (congrArg (! ·) ((and_t h1).trans ((and_t h2).trans (and_f h3)):M.cv n x=_))
    go_enter Tryz.func126,Tryz.ntmps126;go_wp2_with (first|(go_at_call 113;refine(impl_sized _ _ _).mono ?_;rintro e w' ⟨rfl,rfl⟩)|(go_at_call 55;refine(impl_in _ _ _ _).mono ?_;rintro e w' ⟨rfl,rfl⟩))
    go_ret;exact⟨wp_cond_ret hm.out.symm,(Ext.refl w).alloc _⟩
   ·have hm:Hid ((!M.cv n x)=(x.From == x.To)):=zh (by unfold M.cv;rw[h1,h2,h3];simp)
    go_enter Tryz.func126,Tryz.ntmps126;go_wp2_with (first|(go_at_call 113;refine(impl_sized _ _ _).mono ?_;rintro e w' ⟨rfl,rfl⟩)|(go_at_call 55;refine(impl_in _ _ _ _).mono ?_;rintro e w' ⟨rfl,rfl⟩))
    all_goals go_ret
    all_goals exact⟨wp_cond_ret hm.out.symm,(Ext.refl w).alloc _⟩
theorem impl_ChannelsValid (v:Value) (xs:List Channel) (n:Int) (w:World) (h:Rs w v xs) :
  Calls Tryz.prog 79 #[v,.int .i64 n] w fun e w'=>e = .returned (.bool (M.csv xs n))∧Ext w w':=by
 have e0:=zh ((Ext.refl w).alloc (.cells #[.int .i64 n] 3));have H:=zh h;obtain⟨a,c,rfl,hl⟩:=h.form;clear h;cases h1:M.inn n 0 5
 ·have hm:=zh ((and_f h1).symm:_=M.csv xs n);go_enter Tryz.func79,Tryz.ntmps79;go_wp2_with (go_at_call 55;refine(impl_in _ _ _ _).mono ?_;rintro e w' ⟨rfl,rfl⟩)
  go_ret;exact⟨wp_cond_ret hm.out,e0.out⟩
 ·obtain⟨hn1,hn2⟩:=M.inn_iff.1 h1;have HX:=zh (has_Channel 126 #[.pointer (some ⟨w.heap.size,0,none⟩)] (fun x => !M.cv n x) _ xs _ (H.out.ext e0.out) (enter_of Tryz.func126 (by kernel_rfl) (by kernel_rfl))
   (fun w1 v x he _ hv=>impl_ChannelsValid_1 v x _ n w1 hv (box_cell he).1 (box_cell he).2 hn1 hn2))
  by_cases h2:xs.length≤8
  ·have hm:=zh ((not_any_not (M.cv n) xs).trans ((and_t h1).trans (and_t (decide_eq_true h2))).symm:_=M.csv xs n);go_enter Tryz.func79,Tryz.ntmps79;go_wp2_with (first|(go_at_call 55;refine(impl_in _ _ _ _).mono ?_;rintro e w' ⟨rfl,rfl⟩)|(go_at_call 125;refine HX.out.mono ?_;rintro e w' ⟨rfl,he⟩))
   go_ret;exact⟨wp_cond_ret hm.out,e0.out.tr he⟩
  ·have hm:=zh (((and_t h1).trans (and_f (decide_eq_false h2))).symm:_=M.csv xs n);go_enter Tryz.func79,Tryz.ntmps79;go_wp2_with (go_at_call 55;refine(impl_in _ _ _ _).mono ?_;rintro e w' ⟨rfl,rfl⟩)
   go_ret;exact⟨wp_cond_ret hm.out,e0.out⟩
def M.cvs (n:Int) (c:Channel):Bool:=M.inn c.Kind 1 3 && (M.inn c.From 0 (n - 1) && (M.inn c.To 0 (n - 1) && (!(c.From == c.To) && (M.inn c.Size 1 4 && !(c.Kind == 1 && !(c.Size == 1))))))
theorem M.cvs_eq (n:Int) (c:Channel):M.cvs n c=M.cv n c:=by
 rw[Bool.eq_iff_iff,M.cv_iff];unfold M.cvs;simp only[Bool.and_eq_true,M.inn_iff,Bool.not_eq_true',beq_eq_false_iff_ne,Bool.and_eq_false_iff,Bool.not_eq_false',beq_iff_eq];omega
theorem spec_ChannelsValid (v:Value) (xs:List Channel) (n:Int) (w:World) (h:Rs w v xs) :
    Calls Tryz.prog 123 #[v,.int .i64 n] w fun e w'=>e = .returned (.bool (M.csv xs n))∧Ext w w':=by
  obtain⟨a,c,rfl,hl⟩:=h.form;have H:=zh h;clear h;cases h1:M.inn n 0 5
  · have HN:Hid (M.csv xs n=false):=zh (and_f h1);go_enter Tryz.func123,Tryz.ntmps123;go_wp2;go_loopw [5,6] (fun i _ wr => ∃ k:Nat,k≤xs.length∧i = .int .i64 k∧Ext w wr) (fun i _ _=>xs.length - (intOf i).toNat)
    case atStart=>exact⟨0,Nat.zero_le _,rfl,.refl _⟩
    case round =>
      obtain⟨k,hk,rfl,hq⟩:=hrel;have HQ:=zh hq;clear hq;by_cases hlt:k < xs.length
      · obtain⟨b,o,x,rfl,hb,hx,hc0,hc1,hc2,hc3,hr0,hr1,hr2,hr3,hv⟩:=(H.out.ext HQ.out).atChannel k hlt;clear H;go_wp2_with (go_at_call 60;refine(spec_In _ _ _ _).mono ?_;rintro e w' ⟨rfl,rfl⟩)
        all_goals first
          | (go_ret;exact⟨wp_cond_ret HN.out.symm,(HQ.out.alloc _).set (Nat.le_trans HQ.out.sz (by simp)) _⟩)
          | (go_ret;exact⟨wp_cond_ret HN.out.symm,HQ.out.alloc _⟩)
          | (go_roundw
             case rel=>exact⟨k+1,by omega,by go_num,HQ.out.alloc _⟩
             case measure=>simp[intOf];omega)
      · clear H;go_wp2_with (go_at_call 60;refine(spec_In _ _ _ _).mono ?_;rintro e w' ⟨rfl,rfl⟩)
        all_goals go_ret
        all_goals exact⟨wp_cond_ret HN.out.symm,HQ.out⟩
  · obtain⟨hn1,hn2⟩:=M.inn_iff.1 h1;go_enter Tryz.func123,Tryz.ntmps123;go_wp2;go_loopw [5,6] (fun i _ wr => ∃ k:Nat,k≤xs.length∧i = .int .i64 k∧(xs.take k).all (M.cv n)=true∧Ext w wr) (fun i _ _=>xs.length - (intOf i).toNat)
    case atStart=>exact⟨0,Nat.zero_le _,rfl,rfl,.refl _⟩
    case round =>
      obtain⟨k,hk,rfl,he,hq⟩:=hrel;have HE:=zh he;have HQ:=zh hq;clear he hq;by_cases hlt:k < xs.length
      · obtain⟨b,o,x,rfl,hb,hx,hc0,hc1,hc2,hc3,hr0,hr1,hr2,hr3,hv⟩:=(H.out.ext HQ.out).atChannel k hlt;clear H;have key:M.cv n x=false→M.csv xs n=false:=fun hp=>by unfold M.csv;rw[all_false_at (M.cv n) hx.out hp,Bool.and_false,Bool.and_false]
        rw[← M.cvs_eq] at key;have hst:=zh ((all_take_succ (M.cv n) hx.out).trans (by rw[HE.out,← M.cvs_eq,Bool.true_and]))
        have KEY:=zh key;clear key;cases g1:M.inn x.Kind 1 3
        · have HN:=zh (KEY.out (and_f g1));go_wp2_with (go_at_call 60;refine(spec_In _ _ _ _).mono ?_;rintro e w' ⟨rfl,rfl⟩)
          go_ret;exact⟨wp_cond_ret HN.out.symm,HQ.out.alloc _⟩
        · cases g2:M.inn x.From 0 (n - 1)
          · have HN:=zh (KEY.out ((and_t g1).trans (and_f g2)));go_wp2_with (go_at_call 60;refine(spec_In _ _ _ _).mono ?_;rintro e w' ⟨rfl,rfl⟩)
            go_ret;exact⟨wp_cond_ret HN.out.symm,HQ.out.alloc _⟩
          · cases g3:M.inn x.To 0 (n - 1)
            · have HN:=zh (KEY.out ((and_t g1).trans ((and_t g2).trans (and_f g3))));go_wp2_with (go_at_call 60;refine(spec_In _ _ _ _).mono ?_;rintro e w' ⟨rfl,rfl⟩)
              go_ret;exact⟨wp_cond_ret HN.out.symm,HQ.out.alloc _⟩
            · cases g4:(x.From == x.To)
              · cases g5:M.inn x.Size 1 4
                · have HN:=zh (KEY.out ((and_t g1).trans ((and_t g2).trans ((and_t g3).trans ((and_t (not_f g4)).trans (and_f g5))))));go_wp2_with (go_at_call 60;refine(spec_In _ _ _ _).mono ?_;rintro e w' ⟨rfl,rfl⟩)
                  go_ret;exact⟨wp_cond_ret HN.out.symm,HQ.out.alloc _⟩
                · have hcvs:M.cvs n x = !(x.Kind == 1 && !(x.Size == 1)):=(and_t g1).trans ((and_t g2).trans ((and_t g3).trans ((and_t (not_f g4)).trans (and_t g5))));cases g6:(x.Kind == 1)
                  · have HN:=zh ((hst.out.trans (hcvs.trans (by simp[g6]))):_=true)
                    clear hcvs;go_wp2_with (go_at_call 60;refine(spec_In _ _ _ _).mono ?_;rintro e w' ⟨rfl,rfl⟩)
                    go_roundw
                    case rel=>exact⟨k+1,by omega,by go_num,HN.out,HQ.out.alloc _⟩
                    case measure=>simp[intOf];omega
                  · cases g7:(x.Size == 1)
                    · have HN:=zh (KEY.out (hcvs.trans (by simp[g6,g7])))
                      clear hcvs;go_wp2_with (go_at_call 60;refine(spec_In _ _ _ _).mono ?_;rintro e w' ⟨rfl,rfl⟩)
                      go_ret;exact⟨wp_cond_ret HN.out.symm,HQ.out.alloc _⟩
                    · have HN:=zh ((hst.out.trans (hcvs.trans (by simp[g6,g7]))):_=true)
                      clear hcvs;go_wp2_with (go_at_call 60;refine(spec_In _ _ _ _).mono ?_;rintro e w' ⟨rfl,rfl⟩)
                      go_roundw
                      case rel=>exact⟨k+1,by omega,by go_num,HN.out,HQ.out.alloc _⟩
                      case measure=>simp[intOf];omega
              · have HN:=zh (KEY.out ((and_t g1).trans ((and_t g2).trans ((and_t g3).trans (and_f (not_t g4))))));go_wp2_with (go_at_call 60;refine(spec_In _ _ _ _).mono ?_;rintro e w' ⟨rfl,rfl⟩)
                go_ret;exact⟨wp_cond_ret HN.out.symm,HQ.out.alloc _⟩
      · have HN:Hid (M.csv xs n=decide (xs.length≤8)):=zh (by
          unfold M.csv;rw[← all_take_all (M.cv n) xs k (by omega),HE.out,Bool.and_true,h1,Bool.true_and])
        clear H;by_cases hle:xs.length≤8
        · go_wp2_with (go_at_call 60;refine(spec_In _ _ _ _).mono ?_;rintro e w' ⟨rfl,rfl⟩)
          go_ret;exact⟨wp_cond_ret (HN.out.trans (decide_eq_true hle)).symm,HQ.out⟩
        · go_wp2_with (go_at_call 60;refine(spec_In _ _ _ _).mono ?_;rintro e w' ⟨rfl,rfl⟩)
          go_ret;exact⟨wp_cond_ret (HN.out.trans (decide_eq_false hle)).symm,HQ.out⟩
noncomputable def M.setv (s:Setup):Bool:=M.psv s.Parts && (M.csv s.Channels s.Parts.length && M.ssv s.Slots s.Parts.length)
theorem impl_SetupValid (v:Value) (s:Setup) (w:World) (h:Rv w v s) :
  Calls Tryz.prog 89 #[v] w fun e w'=>e = .returned (.bool (M.setv s))∧Ext w w':=by
 obtain⟨a0,c0,a1,c1,a2,c2,rfl,h0,hl0,h1,hl1,h2,hl2⟩:=h.openSetup;clear h;have e0:=zh ((Ext.refl w).alloc (.cells #[.slice a0 s.Parts.length c0,.slice a1 s.Channels.length c1,.slice a2 s.Slots.length c2] 27));cases g0:M.psv s.Parts
 ·have hm:=zh ((and_f g0).symm:_=M.setv s);go_enter Tryz.func89,Tryz.ntmps89;go_wp2_with fail
  refine(impl_PartsValid _ _ _ (h0.out.ext e0.out)).mono ?_;rintro e w1 ⟨rfl,he1⟩;have E1:=zh (e0.out.tr he1);clear he1;go_wp2;go_ret;exact⟨wp_cond_ret hm.out,E1.out⟩
 ·cases g1:M.csv s.Channels s.Parts.length
  ·have hm:=zh (((and_t g0).trans (and_f g1)).symm:_=M.setv s);go_enter Tryz.func89,Tryz.ntmps89;go_wp2_with fail
   refine(impl_PartsValid _ _ _ (h0.out.ext e0.out)).mono ?_;rintro e w1 ⟨rfl,he1⟩;have E1:=zh (e0.out.tr he1);obtain⟨hcb,hfb⟩:=bcell he1;go_wp2_with fail
   refine(impl_ChannelsValid _ _ _ _ (h1.out.ext E1.out)).mono ?_;rintro e w2 ⟨rfl,he2⟩;have E2:=zh (E1.out.tr he2);clear he1 he2 hcb hfb;go_wp2;go_ret;exact⟨wp_cond_ret hm.out,E2.out⟩
  ·have hm:=zh (((and_t g0).trans (and_t g1)).symm:_=M.setv s);go_enter Tryz.func89,Tryz.ntmps89;go_wp2_with fail
   refine(impl_PartsValid _ _ _ (h0.out.ext e0.out)).mono ?_;rintro e w1 ⟨rfl,he1⟩;have E1:=zh (e0.out.tr he1);obtain⟨hcb,hfb⟩:=bcell he1;go_wp2_with fail
   refine(impl_ChannelsValid _ _ _ _ (h1.out.ext E1.out)).mono ?_;rintro e w2 ⟨rfl,he2⟩;have E2:=zh (E1.out.tr he2);obtain⟨hcb2,hfb2⟩:=bcell (he1.tr he2);clear he1 he2 hcb hfb;go_wp2_with fail
   refine(impl_SlotsValid _ _ _ _ (h2.out.ext E2.out)).mono ?_;rintro e w3 ⟨rfl,he3⟩;have E3:=zh (E2.out.tr he3);clear he3;go_wp2;go_ret;exact⟨wp_cond_ret hm.out,E3.out⟩
theorem spec_SetupValid (v:Value) (s:Setup) (w:World) (h:Rv w v s) :
  Calls Tryz.prog 101 #[v] w fun e w'=>e = .returned (.bool (M.setv s))∧Ext w w':=by
 obtain⟨a0,c0,a1,c1,a2,c2,rfl,h0,hl0,h1,hl1,h2,hl2⟩:=h.openSetup;clear h;have e0:=zh ((Ext.refl w).alloc (.cells #[.slice a0 s.Parts.length c0,.slice a1 s.Channels.length c1,.slice a2 s.Slots.length c2] 27));cases g0:M.psv s.Parts
 ·have hm:=zh ((and_f g0).symm:_=M.setv s);go_enter Tryz.func101,Tryz.ntmps101;go_wp2_with fail
  refine(spec_PartsValid _ _ _ (h0.out.ext e0.out)).mono ?_;rintro e w1 ⟨rfl,he1⟩;have E1:=zh (e0.out.tr he1);clear he1;go_wp2;go_ret;exact⟨wp_cond_ret hm.out,E1.out⟩
 ·cases g1:M.csv s.Channels s.Parts.length
  ·have hm:=zh (((and_t g0).trans (and_f g1)).symm:_=M.setv s);go_enter Tryz.func101,Tryz.ntmps101;go_wp2_with fail
   refine(spec_PartsValid _ _ _ (h0.out.ext e0.out)).mono ?_;rintro e w1 ⟨rfl,he1⟩;have E1:=zh (e0.out.tr he1);obtain⟨hcb,hfb⟩:=bcell he1;go_wp2_with fail
   refine(spec_ChannelsValid _ _ _ _ (h1.out.ext E1.out)).mono ?_;rintro e w2 ⟨rfl,he2⟩;have E2:=zh (E1.out.tr he2);clear he1 he2 hcb hfb;go_wp2;go_ret;exact⟨wp_cond_ret hm.out,E2.out⟩
  ·have hm:=zh (((and_t g0).trans (and_t g1)).symm:_=M.setv s);go_enter Tryz.func101,Tryz.ntmps101;go_wp2_with fail
   refine(spec_PartsValid _ _ _ (h0.out.ext e0.out)).mono ?_;rintro e w1 ⟨rfl,he1⟩;have E1:=zh (e0.out.tr he1);obtain⟨hcb,hfb⟩:=bcell he1;go_wp2_with fail
   refine(spec_ChannelsValid _ _ _ _ (h1.out.ext E1.out)).mono ?_;rintro e w2 ⟨rfl,he2⟩;have E2:=zh (E1.out.tr he2);obtain⟨hcb2,hfb2⟩:=bcell (he1.tr he2);clear he1 he2 hcb hfb;go_wp2_with fail
   refine(spec_SlotsValid _ _ _ _ (h2.out.ext E2.out)).mono ?_;rintro e w3 ⟨rfl,he3⟩;have E3:=zh (E2.out.tr he3);clear he3;go_wp2;go_ret;exact⟨wp_cond_ret hm.out,E3.out⟩
end Sk
