/- Contracts of functions of the given program. -/
import Derived.Test.YtcghnbjifpfbjaaGreatApp
namespace Sk
open Go Go.Proofs Go.RowKit
set_option maxHeartbeats 400000
set_option maxRecDepth 100000
set_option linter.unusedVariables false
set_option linter.unusedSimpArgs false
theorem zCd{α:Type}(f : α -> Bool)(xs:List α):(!xs.any fun x => !f x)=xs.all f:=by
 induction xs with
 | nil=>rfl
 | cons x xs ih=>simp only[List.any_cons,List.all_cons,Bool.not_or,Bool.not_not,ih]
theorem zAy{a b:Bool}(h:a=true):(a && b)=b:=by simp[h]
theorem zB7{a b:Bool}(h:a=false):(a && b)=false:=by simp[h]
def zJb(x:Window):Bool:=zA8 x.Base 0 4095 && zA8 x.Size 1 (4096 - x.Base)
theorem zH2(v:Value)(x:Window)(w:World)(h:Rv w v x) :
  Calls Tryz.prog 102 #[v] w fun e w'=>e = .returned (.bool (zJb x))/\Ext w w':=by
 obtain⟨rfl,h1,h2⟩:=h.openWindow;by_cases hb:zA8 x.Base 0 4095=true
 ·have hm:=zh (zAy hb:zJb x=_);have hb2:=zA7.1 hb;obtain⟨hb3,hb4⟩:=hb2;go_enter Tryz.func102,Tryz.ntmps102;go_wp2_with (go_at_call 42;refine(zAm _ _ _ _).mono ?_;rintro e w' ⟨rfl,rfl⟩)
  go_ret;exact⟨zA2 hm.out.symm,(zr w).alloc _⟩
 ·rw[Bool.not_eq_true] at hb;have hm:=zh (zB7 hb:zJb x=_);go_enter Tryz.func102,Tryz.ntmps102;go_wp2_with (go_at_call 42;refine(zAm _ _ _ _).mono ?_;rintro e w' ⟨rfl,rfl⟩)
  go_ret;exact⟨zA2 hm.out.symm,(zr w).alloc _⟩
theorem zE6(v:Value)(x:Window)(w:World)(h:Rv w v x) :
  Calls Tryz.prog 162 #[v] w fun e w'=>e = .returned (.bool (zJb x))/\Ext w w':=by
 obtain⟨rfl,h1,h2⟩:=h.openWindow;by_cases hb:zA8 x.Base 0 4095=true
 ·have hm:=zh (zAy hb:zJb x=_);obtain⟨hb3,hb4⟩:=zA7.1 hb;go_enter Tryz.func162,Tryz.ntmps162;go_wp2_with (go_at_call 29;refine(zAf _ _ _ _).mono ?_;rintro e w' ⟨rfl,rfl⟩)
  go_ret;exact⟨zA2 hm.out.symm,(zr w).alloc _⟩
 ·rw[Bool.not_eq_true] at hb;have hm:=zh (zB7 hb:zJb x=_);go_enter Tryz.func162,Tryz.ntmps162;go_wp2_with (go_at_call 29;refine(zAf _ _ _ _).mono ?_;rintro e w' ⟨rfl,rfl⟩)
  go_ret;exact⟨zA2 hm.out.symm,(zr w).alloc _⟩
theorem zG2(v:Value)(x:Window)(w:World)(h:Rv w v x) :
  Calls Tryz.prog 101 #[v] w fun e w'=>e = .returned (.bool (!zJb x))/\Ext w w':=by
 have H:=zh h;obtain⟨rfl,h1,h2⟩:=h.openWindow;clear h;go_enter Tryz.func101,Tryz.ntmps101;go_wp2_with (go_at_call 102;refine(zH2 _ x _ (H.out.ext ((zr w).alloc _))).mono ?_;rintro e w' ⟨rfl,he⟩)
 go_ret;exact⟨rfl,((zr w).alloc _).tr he⟩
def zFz(xs:List Window):Bool:=decide (xs.length<=12) && xs.all zJb
theorem zCv(v:Value)(xs:List Window)(w:World)(h:Rs w v xs) :
  Calls Tryz.prog 59 #[v] w fun e w'=>e = .returned (.bool (zFz xs))/\Ext w w':=by
 have HX:=zh (zMt 101 #[] (fun x => !zJb x) v xs w h (zD8 Tryz.func101 (by kernel_rfl) (by kernel_rfl)) (fun w1 v x _ _ hv=>zG2 v x w1 hv))
 obtain⟨a,c,rfl,hl⟩:=h.form;clear h;by_cases hle:xs.length<=12
 ·have hm:=zh ((zCd zJb xs).trans (zAy (decide_eq_true hle)).symm:_=zFz xs);go_enter Tryz.func59,Tryz.ntmps59;go_wp2_with (go_at_call 100;refine HX.out.mono ?_;rintro e w' ⟨rfl,he⟩)
  go_ret;exact⟨zA2 hm.out,he⟩
 ·have hm:=zh (zB7 (decide_eq_false hle):zFz xs=_);go_enter Tryz.func59,Tryz.ntmps59;go_wp2;go_ret;exact⟨zA2 hm.out.symm,.refl _⟩
theorem zCz(v:Value)(xs:List Window)(w:World)(h:Rs w v xs) :
  Calls Tryz.prog 140 #[v] w fun e w'=>e = .returned (.bool (zFz xs))/\Ext w w':=by
 obtain⟨a,c,rfl,hl⟩:=h.form;have H:=zh h;clear h;go_enter Tryz.func140,Tryz.ntmps140;go_wp2;go_loopw [3] (fun i wr => ∃ k:Nat,k<=xs.length/\i = .int .i64 k/\(xs.take k).all zJb=true/\Ext w wr) (fun i _=>xs.length - (intOf i).toNat)
 case atStart=>exact⟨0,Nat.zero_le _,rfl,rfl,.refl _⟩
 case round =>
  obtain⟨k,hk,rfl,he,hq⟩:=hrel;have HE:=zh he;have HQ:=zh hq;clear he hq;by_cases hlt:k < xs.length
  ·obtain⟨b,o,x,rfl,hb,hx,hc0,hc1,hc2,hr0,hr1,hv⟩:=(H.out.ext HQ.out).atWindow k hlt;clear H;by_cases hw:zJb x=true
   ·have HN:=zh (zBv zJb hx.out);go_wp2_with (go_at_call 162;refine(zE6 _ x _ hv.out).mono ?_;rintro e w' ⟨rfl,he⟩;have HE2:=zh (HQ.out.tr he);clear he)
    go_roundw
    case rel=>exact⟨k+1,by omega,by go_num,by rw[HN.out,HE.out,hw];rfl,HE2.out⟩
    case measure=>simp[intOf];omega
   ·rw[Bool.not_eq_true] at hw;have HN:Hid (zFz xs=false):=zh (by unfold zFz;rw[zBl zJb hx.out hw,Bool.and_false])
    go_wp2_with (go_at_call 162;refine(zE6 _ x _ hv.out).mono ?_;rintro e w' ⟨rfl,he⟩;have HE2:=zh (HQ.out.tr he);clear he)
    go_ret;exact⟨zA2 HN.out.symm,HE2.out⟩
  ·have HN:Hid (zFz xs=decide (xs.length<=12)):=zh (by
    unfold zFz;rw[<- zC5 zJb xs k (by omega),HE.out,Bool.and_true])
   clear H;by_cases hle:xs.length<=12
   ·go_wp2;go_ret;exact⟨zA2 (by rw[HN.out,decide_eq_true hle];exact decide_eq_true (by omega)),HQ.out⟩
   ·go_wp2;go_ret;exact⟨zA2 (by rw[HN.out,decide_eq_false hle];exact decide_eq_false (by omega)),HQ.out⟩
def zDf(p:Part):Bool:=zFz p.Windows && zA8 p.Cells 1 8
def zEs(xs:List Part):Bool:=decide (xs.length<=5) && xs.all zDf
theorem zH0(v:Value)(x:Part)(w:World)(h:Rv w v x) :
  Calls Tryz.prog 135 #[v] w fun e w'=>e = .returned (.bool (!zDf x))/\Ext w w':=by
 obtain⟨a0,c0,rfl,hr1,hs,hl⟩:=h.openPart;clear h;have e0:=zh ((zr w).alloc (.cells #[.slice a0 x.Windows.length c0,.int .i64 x.Cells] 80));by_cases hw:zFz x.Windows=true
 ·have hm:=zh (congrArg (! ·) (zAy hw:zDf x=_))
  go_enter Tryz.func135,Tryz.ntmps135;go_wp2_with fail
  refine(zCv _ _ _ (hs.out.ext e0.out)).mono ?_;rintro e w1 ⟨rfl,he⟩;obtain⟨hcb,hfb⟩:=zD5 he;go_wp2_with (go_at_call 42;refine(zAm _ _ _ _).mono ?_;rintro e w' ⟨rfl,rfl⟩)
  go_ret;exact⟨zA2 hm.out.symm,e0.out.tr he⟩
 ·rw[Bool.not_eq_true] at hw;have hm:=zh (congrArg (! ·) (zB7 hw:zDf x=_))
  go_enter Tryz.func135,Tryz.ntmps135;go_wp2_with fail
  refine(zCv _ _ _ (hs.out.ext e0.out)).mono ?_;rintro e w1 ⟨rfl,he⟩;have HE:=zh he;clear he;go_wp2;go_ret;exact⟨zA2 hm.out.symm,e0.out.tr HE.out⟩
theorem zDm(v:Value)(xs:List Part)(w:World)(h:Rs w v xs) :
  Calls Tryz.prog 92 #[v] w fun e w'=>e = .returned (.bool (zEs xs))/\Ext w w':=by
 have HX:=zh (has_Part 135 #[] (fun x => !zDf x) v xs w h (zD8 Tryz.func135 (by kernel_rfl) (by kernel_rfl)) (fun w1 v x _ _ hv=>zH0 v x w1 hv))
 obtain⟨a,c,rfl,hl⟩:=h.form;clear h;by_cases hle:xs.length<=5
 ·have hm:=zh ((zCd zDf xs).trans (zAy (decide_eq_true hle)).symm:_=zEs xs);go_enter Tryz.func92,Tryz.ntmps92;go_wp2_with (go_at_call 134;refine HX.out.mono ?_;rintro e w' ⟨rfl,he⟩)
  go_ret;exact⟨zA2 hm.out,he⟩
 ·have hm:=zh (zB7 (decide_eq_false hle):zEs xs=_);go_enter Tryz.func92,Tryz.ntmps92;go_wp2;go_ret;exact⟨zA2 hm.out.symm,.refl _⟩
theorem zDn(v:Value)(xs:List Part)(w:World)(h:Rs w v xs) :
  Calls Tryz.prog 97 #[v] w fun e w'=>e = .returned (.bool (zEs xs))/\Ext w w':=by
 obtain⟨a,c,rfl,hl⟩:=h.form;have H:=zh h;clear h;go_enter Tryz.func97,Tryz.ntmps97;go_wp2;go_loopw [3] (fun i wr => ∃ k:Nat,k<=xs.length/\i = .int .i64 k/\(xs.take k).all zDf=true/\Ext w wr) (fun i _=>xs.length - (intOf i).toNat)
 case atStart=>exact⟨0,Nat.zero_le _,rfl,rfl,.refl _⟩
 case round =>
  obtain⟨k,hk,rfl,he,hq⟩:=hrel;have HE:=zh he;have HQ:=zh hq;clear he hq;by_cases hlt:k < xs.length
  ·obtain⟨b,o,x,a0,c0,rfl,hb,hx,hc0,hc1,hr1,hs0,hl0,hv⟩:=(H.out.ext HQ.out).atPart k hlt;clear H;by_cases hw:zFz x.Windows=true
   ·by_cases hi:zA8 x.Cells 1 8=true
    ·have hp:zDf x=true:=by unfold zDf;rw[hw,hi];rfl
     have HN:=zh ((zBv zDf hx.out).trans (by rw[HE.out,hp];rfl:_=true))
     clear hp;go_wp2_with fail
     refine(zCz _ _ _ hs0.out).mono ?_;rintro e w1 ⟨rfl,he⟩;obtain⟨hcb,hfb⟩:=zD5 he;go_wp2_with (go_at_call 29;refine(zAf _ _ _ _).mono ?_;rintro e w' ⟨rfl,rfl⟩)
     go_roundw
     case rel=>exact⟨k+1,by omega,by go_num,HN.out,HQ.out.tr he⟩
     case measure=>simp[intOf];omega
    ·rw[Bool.not_eq_true] at hi;have HN:Hid (zEs xs=false):=zh (by unfold zEs;rw[zBl zDf hx.out (by unfold zDf;rw[hi,Bool.and_false]),Bool.and_false])
     go_wp2_with fail
     refine(zCz _ _ _ hs0.out).mono ?_;rintro e w1 ⟨rfl,he⟩;obtain⟨hcb,hfb⟩:=zD5 he;go_wp2_with (go_at_call 29;refine(zAf _ _ _ _).mono ?_;rintro e w' ⟨rfl,rfl⟩)
     go_ret;exact⟨zA2 HN.out.symm,HQ.out.tr he⟩
   ·rw[Bool.not_eq_true] at hw;have HN:Hid (zEs xs=false):=zh (by unfold zEs;rw[zBl zDf hx.out (by unfold zDf;rw[hw,Bool.false_and]),Bool.and_false])
    go_wp2_with fail
    refine(zCz _ _ _ hs0.out).mono ?_;rintro e w1 ⟨rfl,he⟩;have HE2:=zh (HQ.out.tr he);clear he;go_wp2;go_ret;exact⟨zA2 HN.out.symm,HE2.out⟩
  ·have HN:Hid (zEs xs=decide (xs.length<=5)):=zh (by
    unfold zEs;rw[<- zC5 zDf xs k (by omega),HE.out,Bool.and_true])
   clear H;by_cases hle:xs.length<=5
   ·go_wp2;go_ret;exact⟨zA2 (by rw[HN.out,decide_eq_true hle];exact decide_eq_true (by omega)),HQ.out⟩
   ·go_wp2;go_ret;exact⟨zA2 (by rw[HN.out,decide_eq_false hle];exact decide_eq_false (by omega)),HQ.out⟩
def zDp(n:Int)(x:Slot):Bool:=zA8 x.Ticks 1 20 && zA8 x.Who (-1) (n - 1)
def zDh(xs:List Slot)(n:Int):Bool:=zA8 n 0 5 && (zA8 xs.length 1 12 && xs.all (zDp n))
theorem zH1(v:Value)(x:Slot)(b:Nat)(n:Int)(w:World)(h:Rv w v x)(hb:b < w.heap.size)(hc:w.cell? ⟨b,0,none⟩=some (.int .i64 n))(hn1:0<=n)(hn2:n<=5) :
  Calls Tryz.prog 138 #[v,.pointer (some ⟨b,0,none⟩)] w fun e w'=>e = .returned (.bool (!zDp n x))/\Ext w w':=by
 obtain⟨rfl,hr0,hr1⟩:=h.openSlot;clear h;by_cases hw:zA8 x.Ticks 1 20=true
 ·have hm:=zh (congrArg (! ·) (zAy hw:zDp n x=_))
  go_enter Tryz.func138,Tryz.ntmps138;go_wp2_with (go_at_call 42;refine(zAm _ _ _ _).mono ?_;rintro e w' ⟨rfl,rfl⟩)
  go_ret;exact⟨zA2 hm.out.symm,(zr w).alloc _⟩
 ·rw[Bool.not_eq_true] at hw;have hm:=zh (congrArg (! ·) (zB7 hw:zDp n x=_))
  go_enter Tryz.func138,Tryz.ntmps138;go_wp2_with (go_at_call 42;refine(zAm _ _ _ _).mono ?_;rintro e w' ⟨rfl,rfl⟩)
  go_ret;exact⟨zA2 hm.out.symm,(zr w).alloc _⟩
theorem zIg{w w1:World}{c:Value}{T:TypeId}(he:Ext (w.alloc (.cells #[c] T)) w1):w.heap.size < w1.heap.size/\w1.cell? ⟨w.heap.size,0,none⟩=some c:=by
 have hs:w.heap.size < (w.alloc (.cells #[c] T)).heap.size:=by simp
 refine⟨zl hs he.sz,?_⟩;rw[(zD5 he).1 _ _ hs];simp
theorem zIv(v:Value)(xs:List Slot)(n:Int)(w:World)(h:Rs w v xs) :
  Calls Tryz.prog 94 #[v,.int .i64 n] w fun e w'=>e = .returned (.bool (zDh xs n))/\Ext w w':=by
 have e0:=zh ((zr w).alloc (.cells #[.int .i64 n] 3));have H:=zh h;obtain⟨a,c,rfl,hl⟩:=h.form;clear h;by_cases h1:zA8 n 0 5=true
 ·obtain⟨hn1,hn2⟩:=zA7.1 h1;have HX:=zh (has_Slot 138 #[.pointer (some ⟨w.heap.size,0,none⟩)] (fun x => !zDp n x) _ xs _ (H.out.ext e0.out) (zD8 Tryz.func138 (by kernel_rfl) (by kernel_rfl))
   (fun w1 v x he _ hv=>zH1 v x _ n w1 hv (zIg he).1 (zIg he).2 hn1 hn2))
  by_cases h2:zA8 xs.length 1 12=true
  ·have hm:=zh ((zCd (zDp n) xs).trans ((zAy h1).trans (zAy h2)).symm:_=zDh xs n);go_enter Tryz.func94,Tryz.ntmps94;go_wp2_with (first|(go_at_call 42;refine(zAm _ _ _ _).mono ?_;rintro e w' ⟨rfl,rfl⟩)|(go_at_call 137;refine HX.out.mono ?_;rintro e w' ⟨rfl,he⟩))
   go_ret;exact⟨zA2 hm.out,e0.out.tr he⟩
  ·rw[Bool.not_eq_true] at h2;have hm:=zh (((zAy h1).trans (zB7 h2)).symm:_=zDh xs n);go_enter Tryz.func94,Tryz.ntmps94;go_wp2_with (go_at_call 42;refine(zAm _ _ _ _).mono ?_;rintro e w' ⟨rfl,rfl⟩)
   go_ret;exact⟨zA2 hm.out,e0.out⟩
 ·rw[Bool.not_eq_true] at h1;have hm:=zh ((zB7 h1).symm:_=zDh xs n);go_enter Tryz.func94,Tryz.ntmps94;go_wp2_with (go_at_call 42;refine(zAm _ _ _ _).mono ?_;rintro e w' ⟨rfl,rfl⟩)
  go_ret;exact⟨zA2 hm.out,e0.out⟩
theorem zCo(v:Value)(xs:List Slot)(n:Int)(w:World)(h:Rs w v xs) :
    Calls Tryz.prog 98 #[v,.int .i64 n] w fun e w'=>e = .returned (.bool (zDh xs n))/\Ext w w':=by
  obtain⟨a,c,rfl,hl⟩:=h.form;have H:=zh h;clear h;by_cases h1:zA8 n 0 5=true
  · obtain⟨hn1,hn2⟩:=zA7.1 h1;go_enter Tryz.func98,Tryz.ntmps98;go_wp2;go_loopw [5] (fun i wr => ∃ k:Nat,k<=xs.length/\i = .int .i64 k/\(xs.take k).all (zDp n)=true/\Ext w wr) (fun i _=>xs.length - (intOf i).toNat)
    case atStart=>exact⟨0,Nat.zero_le _,rfl,rfl,.refl _⟩
    case round =>
      obtain⟨k,hk,rfl,he,hq⟩:=hrel;have HE:=zh he;have HQ:=zh hq;clear he hq;by_cases hlt:k < xs.length
      · obtain⟨b,o,x,rfl,hb,hx,hc0,hc1,hr0,hr1,hv⟩:=(H.out.ext HQ.out).atSlot k hlt;clear H;by_cases hw:zA8 x.Ticks 1 20=true
        · by_cases hi:zA8 x.Who (-1) (n - 1)=true
          · have hp:zDp n x=true:=by unfold zDp;rw[hw,hi];rfl
            have HN:=zh ((zBv (zDp n) hx.out).trans (by rw[HE.out,hp];rfl:_=true))
            clear hp;go_wp2_with (go_at_call 29;refine(zAf _ _ _ _).mono ?_;rintro e w' ⟨rfl,rfl⟩)
            go_roundw
            case rel=>exact⟨k+1,by omega,by go_num,HN.out,HQ.out⟩
            case measure=>simp[intOf];omega
          · rw[Bool.not_eq_true] at hi;have HN:Hid (zDh xs n=false):=zh (by unfold zDh;rw[zBl (zDp n) hx.out (by unfold zDp;rw[hi,Bool.and_false]),Bool.and_false,Bool.and_false])
            go_wp2_with (go_at_call 29;refine(zAf _ _ _ _).mono ?_;rintro e w' ⟨rfl,rfl⟩)
            go_ret;exact⟨zA2 HN.out.symm,HQ.out⟩
        · rw[Bool.not_eq_true] at hw;have HN:Hid (zDh xs n=false):=zh (by unfold zDh;rw[zBl (zDp n) hx.out (by unfold zDp;rw[hw,Bool.false_and]),Bool.and_false,Bool.and_false])
          go_wp2_with (go_at_call 29;refine(zAf _ _ _ _).mono ?_;rintro e w' ⟨rfl,rfl⟩)
          go_ret;exact⟨zA2 HN.out.symm,HQ.out⟩
      · have HN:Hid (zDh xs n=zA8 xs.length 1 12):=zh (by
          unfold zDh;rw[<- zC5 (zDp n) xs k (by omega),HE.out,Bool.and_true,h1,Bool.true_and])
        clear H;cases h2:zA8 xs.length 1 12
        all_goals
          go_wp2_with (go_at_call 29;refine(zAf _ _ _ _).mono ?_;rintro e w' ⟨rfl,rfl⟩)
          go_ret;exact⟨zA2 (by rw[HN.out,h2]),HQ.out⟩
  · rw[Bool.not_eq_true] at h1;have HN:Hid (zDh xs n=false):=zh (zB7 h1);go_enter Tryz.func98,Tryz.ntmps98;go_wp2;go_loopw [5] (fun i wr => ∃ k:Nat,k<=xs.length/\i = .int .i64 k/\Ext w wr) (fun i _=>xs.length - (intOf i).toNat)
    case atStart=>exact⟨0,Nat.zero_le _,rfl,.refl _⟩
    case round =>
      obtain⟨k,hk,rfl,hq⟩:=hrel;have HQ:=zh hq;clear hq;by_cases hlt:k < xs.length
      · obtain⟨b,o,x,rfl,hb,hx,hc0,hc1,hr0,hr1,hv⟩:=(H.out.ext HQ.out).atSlot k hlt;clear H;go_wp2_with (go_at_call 29;refine(zAf _ _ _ _).mono ?_;rintro e w' ⟨rfl,rfl⟩)
        all_goals first
          | (go_ret;exact⟨zA2 HN.out.symm,HQ.out⟩)
          | (go_roundw
             case rel=>exact⟨k+1,by omega,by go_num,HQ.out⟩
             case measure=>simp[intOf];omega)
      · clear H;go_wp2_with (go_at_call 29;refine(zAf _ _ _ _).mono ?_;rintro e w' ⟨rfl,rfl⟩)
        all_goals go_ret
        all_goals exact⟨zA2 HN.out.symm,HQ.out⟩
theorem not_f{b:Bool}(h:b=false):(!b)=true:=by rw[h];rfl
theorem not_t{b:Bool}(h:b=true):(!b)=false:=by rw[h];rfl
noncomputable def zI9(n:Int)(c:Channel):Bool:=zC4 c.Kind c.Size && (zA8 c.From 0 (n - 1) && (zA8 c.To 0 (n - 1) && !(c.From == c.To)))
noncomputable def zCr(xs:List Channel)(n:Int):Bool:=zA8 n 0 5 && (decide (xs.length<=8) && xs.all (zI9 n))
theorem zFv{k s:Int}:zC4 k s=true ↔ (k=1/\s=1\/(k=2\/k=3)/\1<=s/\s<=4):=Bo.iff
theorem zIa{n:Int}{c:Channel}:zI9 n c=true ↔ (c.Kind=1/\c.Size=1\/(c.Kind=2\/c.Kind=3)/\1<=c.Size/\c.Size<=4)/\(0<=c.From/\c.From<=n - 1)/\(0<=c.To/\c.To<=n - 1)/\c.From≠c.To:=by
 unfold zI9;simp only[Bool.and_eq_true,zFv,zA7,Bool.not_eq_true',beq_eq_false_iff_ne]
theorem zFj(v:Value)(x:Channel)(b:Nat)(n:Int)(w:World)(h:Rv w v x)(hb:b < w.heap.size)(hc:w.cell? ⟨b,0,none⟩=some (.int .i64 n))(hn1:0<=n)(hn2:n<=5) :
  Calls Tryz.prog 136 #[v,.pointer (some ⟨b,0,none⟩)] w fun e w'=>e = .returned (.bool (!zI9 n x))/\Ext w w':=by
 obtain⟨rfl,hr0,hr1,hr2,hr3⟩:=h.openChannel;clear h;cases h1:zC4 x.Kind x.Size
 ·have hm:=zh (congrArg (! ·) (zB7 h1:zI9 n x=_))
  go_enter Tryz.func136,Tryz.ntmps136;go_wp2_with (first|(go_at_call 81;refine(zCw _ _ _).mono ?_;rintro e w' ⟨rfl,rfl⟩)|(go_at_call 42;refine(zAm _ _ _ _).mono ?_;rintro e w' ⟨rfl,rfl⟩))
  go_ret;exact⟨zA2 hm.out.symm,(zr w).alloc _⟩
 ·cases h2:zA8 x.From 0 (n - 1)
  ·have hm:=zh (congrArg (! ·) ((zAy h1).trans (zB7 h2):zI9 n x=_))
   go_enter Tryz.func136,Tryz.ntmps136;go_wp2_with (first|(go_at_call 81;refine(zCw _ _ _).mono ?_;rintro e w' ⟨rfl,rfl⟩)|(go_at_call 42;refine(zAm _ _ _ _).mono ?_;rintro e w' ⟨rfl,rfl⟩))
   go_ret;exact⟨zA2 hm.out.symm,(zr w).alloc _⟩
  ·cases h3:zA8 x.To 0 (n - 1)
   ·have hm:=zh (congrArg (! ·) ((zAy h1).trans ((zAy h2).trans (zB7 h3)):zI9 n x=_))
    go_enter Tryz.func136,Tryz.ntmps136;go_wp2_with (first|(go_at_call 81;refine(zCw _ _ _).mono ?_;rintro e w' ⟨rfl,rfl⟩)|(go_at_call 42;refine(zAm _ _ _ _).mono ?_;rintro e w' ⟨rfl,rfl⟩))
    go_ret;exact⟨zA2 hm.out.symm,(zr w).alloc _⟩
   ·have hm:Hid ((!zI9 n x)=(x.From == x.To)):=zh (by unfold zI9;rw[h1,h2,h3];simp)
    go_enter Tryz.func136,Tryz.ntmps136;go_wp2_with (first|(go_at_call 81;refine(zCw _ _ _).mono ?_;rintro e w' ⟨rfl,rfl⟩)|(go_at_call 42;refine(zAm _ _ _ _).mono ?_;rintro e w' ⟨rfl,rfl⟩))
    all_goals go_ret
    all_goals exact⟨zA2 hm.out.symm,(zr w).alloc _⟩
theorem zDr(v:Value)(xs:List Channel)(n:Int)(w:World)(h:Rs w v xs) :
  Calls Tryz.prog 93 #[v,.int .i64 n] w fun e w'=>e = .returned (.bool (zCr xs n))/\Ext w w':=by
 have e0:=zh ((zr w).alloc (.cells #[.int .i64 n] 3));have H:=zh h;obtain⟨a,c,rfl,hl⟩:=h.form;clear h;cases h1:zA8 n 0 5
 ·have hm:=zh ((zB7 h1).symm:_=zCr xs n);go_enter Tryz.func93,Tryz.ntmps93;go_wp2_with (go_at_call 42;refine(zAm _ _ _ _).mono ?_;rintro e w' ⟨rfl,rfl⟩)
  go_ret;exact⟨zA2 hm.out,e0.out⟩
 ·obtain⟨hn1,hn2⟩:=zA7.1 h1;have HX:=zh (zIu 136 #[.pointer (some ⟨w.heap.size,0,none⟩)] (fun x => !zI9 n x) _ xs _ (H.out.ext e0.out) (zD8 Tryz.func136 (by kernel_rfl) (by kernel_rfl))
   (fun w1 v x he _ hv=>zFj v x _ n w1 hv (zIg he).1 (zIg he).2 hn1 hn2))
  by_cases h2:xs.length<=8
  ·have hm:=zh ((zCd (zI9 n) xs).trans ((zAy h1).trans (zAy (decide_eq_true h2))).symm:_=zCr xs n);go_enter Tryz.func93,Tryz.ntmps93;go_wp2_with (first|(go_at_call 42;refine(zAm _ _ _ _).mono ?_;rintro e w' ⟨rfl,rfl⟩)|(go_at_call 95;refine HX.out.mono ?_;rintro e w' ⟨rfl,he⟩))
   go_ret;exact⟨zA2 hm.out,e0.out.tr he⟩
  ·have hm:=zh (((zAy h1).trans (zB7 (decide_eq_false h2))).symm:_=zCr xs n);go_enter Tryz.func93,Tryz.ntmps93;go_wp2_with (go_at_call 42;refine(zAm _ _ _ _).mono ?_;rintro e w' ⟨rfl,rfl⟩)
   go_ret;exact⟨zA2 hm.out,e0.out⟩
def M.cvs(n:Int)(c:Channel):Bool:=zA8 c.Kind 1 3 && (zA8 c.From 0 (n - 1) && (zA8 c.To 0 (n - 1) && (!(c.From == c.To) && (zA8 c.Size 1 4 && !(c.Kind == 1 && !(c.Size == 1))))))
theorem zM6(n:Int)(c:Channel):M.cvs n c=zI9 n c:=by
 rw[Bool.eq_iff_iff,zIa];unfold M.cvs;simp only[Bool.and_eq_true,zA7,Bool.not_eq_true',beq_eq_false_iff_ne,Bool.and_eq_false_iff,Bool.not_eq_false',beq_iff_eq];omega
theorem zAu(v:Value)(xs:List Channel)(n:Int)(w:World)(h:Rs w v xs) :
    Calls Tryz.prog 57 #[v,.int .i64 n] w fun e w'=>e = .returned (.bool (zCr xs n))/\Ext w w':=by
  obtain⟨a,c,rfl,hl⟩:=h.form;have H:=zh h;clear h;cases h1:zA8 n 0 5
  · have HN:Hid (zCr xs n=false):=zh (zB7 h1);go_enter Tryz.func57,Tryz.ntmps57;go_wp2;go_loopw [5,6] (fun i _ wr => ∃ k:Nat,k<=xs.length/\i = .int .i64 k/\Ext w wr) (fun i _ _=>xs.length - (intOf i).toNat)
    case atStart=>exact⟨0,Nat.zero_le _,rfl,.refl _⟩
    case round =>
      obtain⟨k,hk,rfl,hq⟩:=hrel;have HQ:=zh hq;clear hq;by_cases hlt:k < xs.length
      · obtain⟨b,o,x,rfl,hb,hx,hc0,hc1,hc2,hc3,hr0,hr1,hr2,hr3,hv⟩:=(H.out.ext HQ.out).atChannel k hlt;clear H;go_wp2_with (go_at_call 29;refine(zAf _ _ _ _).mono ?_;rintro e w' ⟨rfl,rfl⟩)
        all_goals first
          | (go_ret;exact⟨zA2 HN.out.symm,(HQ.out.alloc _).set (Nat.le_trans HQ.out.sz (by simp)) _⟩)
          | (go_ret;exact⟨zA2 HN.out.symm,HQ.out.alloc _⟩)
          | (go_roundw
             case rel=>exact⟨k+1,by omega,by go_num,HQ.out.alloc _⟩
             case measure=>simp[intOf];omega)
      · clear H;go_wp2_with (go_at_call 29;refine(zAf _ _ _ _).mono ?_;rintro e w' ⟨rfl,rfl⟩)
        all_goals go_ret
        all_goals exact⟨zA2 HN.out.symm,HQ.out⟩
  · obtain⟨hn1,hn2⟩:=zA7.1 h1;go_enter Tryz.func57,Tryz.ntmps57;go_wp2;go_loopw [5,6] (fun i _ wr => ∃ k:Nat,k<=xs.length/\i = .int .i64 k/\(xs.take k).all (zI9 n)=true/\Ext w wr) (fun i _ _=>xs.length - (intOf i).toNat)
    case atStart=>exact⟨0,Nat.zero_le _,rfl,rfl,.refl _⟩
    case round =>
      obtain⟨k,hk,rfl,he,hq⟩:=hrel;have HE:=zh he;have HQ:=zh hq;clear he hq;by_cases hlt:k < xs.length
      · obtain⟨b,o,x,rfl,hb,hx,hc0,hc1,hc2,hc3,hr0,hr1,hr2,hr3,hv⟩:=(H.out.ext HQ.out).atChannel k hlt;clear H;have key:zI9 n x=false->zCr xs n=false:=fun hp=>by unfold zCr;rw[zBl (zI9 n) hx.out hp,Bool.and_false,Bool.and_false]
        rw[<- zM6] at key;have hst:=zh ((zBv (zI9 n) hx.out).trans (by rw[HE.out,<- zM6,Bool.true_and]))
        have KEY:=zh key;clear key;cases g1:zA8 x.Kind 1 3
        · have HN:=zh (KEY.out (zB7 g1));go_wp2_with (go_at_call 29;refine(zAf _ _ _ _).mono ?_;rintro e w' ⟨rfl,rfl⟩)
          go_ret;exact⟨zA2 HN.out.symm,HQ.out.alloc _⟩
        · cases g2:zA8 x.From 0 (n - 1)
          · have HN:=zh (KEY.out ((zAy g1).trans (zB7 g2)));go_wp2_with (go_at_call 29;refine(zAf _ _ _ _).mono ?_;rintro e w' ⟨rfl,rfl⟩)
            go_ret;exact⟨zA2 HN.out.symm,HQ.out.alloc _⟩
          · cases g3:zA8 x.To 0 (n - 1)
            · have HN:=zh (KEY.out ((zAy g1).trans ((zAy g2).trans (zB7 g3))));go_wp2_with (go_at_call 29;refine(zAf _ _ _ _).mono ?_;rintro e w' ⟨rfl,rfl⟩)
              go_ret;exact⟨zA2 HN.out.symm,HQ.out.alloc _⟩
            · cases g4:(x.From == x.To)
              · cases g5:zA8 x.Size 1 4
                · have HN:=zh (KEY.out ((zAy g1).trans ((zAy g2).trans ((zAy g3).trans ((zAy (not_f g4)).trans (zB7 g5))))));go_wp2_with (go_at_call 29;refine(zAf _ _ _ _).mono ?_;rintro e w' ⟨rfl,rfl⟩)
                  go_ret;exact⟨zA2 HN.out.symm,HQ.out.alloc _⟩
                · have hcvs:M.cvs n x = !(x.Kind == 1 && !(x.Size == 1)):=(zAy g1).trans ((zAy g2).trans ((zAy g3).trans ((zAy (not_f g4)).trans (zAy g5))));cases g6:(x.Kind == 1)
                  · have HN:=zh ((hst.out.trans (hcvs.trans (by simp[g6]))):_=true)
                    clear hcvs;go_wp2_with (go_at_call 29;refine(zAf _ _ _ _).mono ?_;rintro e w' ⟨rfl,rfl⟩)
                    go_roundw
                    case rel=>exact⟨k+1,by omega,by go_num,HN.out,HQ.out.alloc _⟩
                    case measure=>simp[intOf];omega
                  · cases g7:(x.Size == 1)
                    · have HN:=zh (KEY.out (hcvs.trans (by simp[g6,g7])))
                      clear hcvs;go_wp2_with (go_at_call 29;refine(zAf _ _ _ _).mono ?_;rintro e w' ⟨rfl,rfl⟩)
                      go_ret;exact⟨zA2 HN.out.symm,HQ.out.alloc _⟩
                    · have HN:=zh ((hst.out.trans (hcvs.trans (by simp[g6,g7]))):_=true)
                      clear hcvs;go_wp2_with (go_at_call 29;refine(zAf _ _ _ _).mono ?_;rintro e w' ⟨rfl,rfl⟩)
                      go_roundw
                      case rel=>exact⟨k+1,by omega,by go_num,HN.out,HQ.out.alloc _⟩
                      case measure=>simp[intOf];omega
              · have HN:=zh (KEY.out ((zAy g1).trans ((zAy g2).trans ((zAy g3).trans (zB7 (not_t g4))))));go_wp2_with (go_at_call 29;refine(zAf _ _ _ _).mono ?_;rintro e w' ⟨rfl,rfl⟩)
                go_ret;exact⟨zA2 HN.out.symm,HQ.out.alloc _⟩
      · have HN:Hid (zCr xs n=decide (xs.length<=8)):=zh (by
          unfold zCr;rw[<- zC5 (zI9 n) xs k (by omega),HE.out,Bool.and_true,h1,Bool.true_and])
        clear H;by_cases hle:xs.length<=8
        · go_wp2_with (go_at_call 29;refine(zAf _ _ _ _).mono ?_;rintro e w' ⟨rfl,rfl⟩)
          go_ret;exact⟨zA2 (HN.out.trans (decide_eq_true hle)).symm,HQ.out⟩
        · go_wp2_with (go_at_call 29;refine(zAf _ _ _ _).mono ?_;rintro e w' ⟨rfl,rfl⟩)
          go_ret;exact⟨zA2 (HN.out.trans (decide_eq_false hle)).symm,HQ.out⟩
noncomputable def zAo(s:Setup):Bool:=zEs s.Parts && (zCr s.Channels s.Parts.length && zDh s.Slots s.Parts.length)
theorem zC6(v:Value)(s:Setup)(w:World)(h:Rv w v s) :
  Calls Tryz.prog 50 #[v] w fun e w'=>e = .returned (.bool (zAo s))/\Ext w w':=by
 obtain⟨a0,c0,a1,c1,a2,c2,rfl,h0,hl0,h1,hl1,h2,hl2⟩:=h.openSetup;clear h;have e0:=zh ((zr w).alloc (.cells #[.slice a0 s.Parts.length c0,.slice a1 s.Channels.length c1,.slice a2 s.Slots.length c2] 27));cases g0:zEs s.Parts
 ·have hm:=zh ((zB7 g0).symm:_=zAo s);go_enter Tryz.func50,Tryz.ntmps50;go_wp2_with fail
  refine(zDm _ _ _ (h0.out.ext e0.out)).mono ?_;rintro e w1 ⟨rfl,he1⟩;have E1:=zh (e0.out.tr he1);clear he1;go_wp2;go_ret;exact⟨zA2 hm.out,E1.out⟩
 ·cases g1:zCr s.Channels s.Parts.length
  ·have hm:=zh (((zAy g0).trans (zB7 g1)).symm:_=zAo s);go_enter Tryz.func50,Tryz.ntmps50;go_wp2_with fail
   refine(zDm _ _ _ (h0.out.ext e0.out)).mono ?_;rintro e w1 ⟨rfl,he1⟩;have E1:=zh (e0.out.tr he1);obtain⟨hcb,hfb⟩:=zD5 he1;go_wp2_with fail
   refine(zDr _ _ _ _ (h1.out.ext E1.out)).mono ?_;rintro e w2 ⟨rfl,he2⟩;have E2:=zh (E1.out.tr he2);clear he1 he2 hcb hfb;go_wp2;go_ret;exact⟨zA2 hm.out,E2.out⟩
  ·have hm:=zh (((zAy g0).trans (zAy g1)).symm:_=zAo s);go_enter Tryz.func50,Tryz.ntmps50;go_wp2_with fail
   refine(zDm _ _ _ (h0.out.ext e0.out)).mono ?_;rintro e w1 ⟨rfl,he1⟩;have E1:=zh (e0.out.tr he1);obtain⟨hcb,hfb⟩:=zD5 he1;go_wp2_with fail
   refine(zDr _ _ _ _ (h1.out.ext E1.out)).mono ?_;rintro e w2 ⟨rfl,he2⟩;have E2:=zh (E1.out.tr he2);obtain⟨hcb2,hfb2⟩:=zD5 (he1.tr he2);clear he1 he2 hcb hfb;go_wp2_with fail
   refine(zIv _ _ _ _ (h2.out.ext E2.out)).mono ?_;rintro e w3 ⟨rfl,he3⟩;have E3:=zh (E2.out.tr he3);clear he3;go_wp2;go_ret;exact⟨zA2 hm.out,E3.out⟩
theorem zAw(v:Value)(s:Setup)(w:World)(h:Rv w v s) :
  Calls Tryz.prog 54 #[v] w fun e w'=>e = .returned (.bool (zAo s))/\Ext w w':=by
 obtain⟨a0,c0,a1,c1,a2,c2,rfl,h0,hl0,h1,hl1,h2,hl2⟩:=h.openSetup;clear h;have e0:=zh ((zr w).alloc (.cells #[.slice a0 s.Parts.length c0,.slice a1 s.Channels.length c1,.slice a2 s.Slots.length c2] 27));cases g0:zEs s.Parts
 ·have hm:=zh ((zB7 g0).symm:_=zAo s);go_enter Tryz.func54,Tryz.ntmps54;go_wp2_with fail
  refine(zDn _ _ _ (h0.out.ext e0.out)).mono ?_;rintro e w1 ⟨rfl,he1⟩;have E1:=zh (e0.out.tr he1);clear he1;go_wp2;go_ret;exact⟨zA2 hm.out,E1.out⟩
 ·cases g1:zCr s.Channels s.Parts.length
  ·have hm:=zh (((zAy g0).trans (zB7 g1)).symm:_=zAo s);go_enter Tryz.func54,Tryz.ntmps54;go_wp2_with fail
   refine(zDn _ _ _ (h0.out.ext e0.out)).mono ?_;rintro e w1 ⟨rfl,he1⟩;have E1:=zh (e0.out.tr he1);obtain⟨hcb,hfb⟩:=zD5 he1;go_wp2_with fail
   refine(zAu _ _ _ _ (h1.out.ext E1.out)).mono ?_;rintro e w2 ⟨rfl,he2⟩;have E2:=zh (E1.out.tr he2);clear he1 he2 hcb hfb;go_wp2;go_ret;exact⟨zA2 hm.out,E2.out⟩
  ·have hm:=zh (((zAy g0).trans (zAy g1)).symm:_=zAo s);go_enter Tryz.func54,Tryz.ntmps54;go_wp2_with fail
   refine(zDn _ _ _ (h0.out.ext e0.out)).mono ?_;rintro e w1 ⟨rfl,he1⟩;have E1:=zh (e0.out.tr he1);obtain⟨hcb,hfb⟩:=zD5 he1;go_wp2_with fail
   refine(zAu _ _ _ _ (h1.out.ext E1.out)).mono ?_;rintro e w2 ⟨rfl,he2⟩;have E2:=zh (E1.out.tr he2);obtain⟨hcb2,hfb2⟩:=zD5 (he1.tr he2);clear he1 he2 hcb hfb;go_wp2_with fail
   refine(zCo _ _ _ _ (h2.out.ext E2.out)).mono ?_;rintro e w3 ⟨rfl,he3⟩;have E3:=zh (E2.out.tr he3);clear he3;go_wp2;go_ret;exact⟨zA2 hm.out,E3.out⟩
end Sk
