/- Contracts of functions of the given program. -/
import Derived.Test.YtoiekmaenlegcaaGreatApp
namespace Sk
open Go Go.Proofs Go.RowKit
set_option maxHeartbeats 400000
set_option maxRecDepth 100000
set_option linter.unusedVariables false
set_option linter.unusedSimpArgs false
theorem zBv{α:Type}(f : α -> Bool)(xs:List α):(!xs.any fun x => !f x)=xs.all f:=by
 induction xs with
 | nil=>rfl
 | cons x xs ih=>simp only[List.any_cons,List.all_cons,Bool.not_or,Bool.not_not,ih]
theorem zAy{a b:Bool}(h:a=true):(a && b)=b:=by simp[h]
theorem zBb{a b:Bool}(h:a=false):(a && b)=false:=by simp[h]
def zJo(x:Window):Bool:=zA6 x.Base 0 4095 && zA6 x.Size 1 (4096 - x.Base)
theorem zH5(v:Value)(x:Window)(w:World)(h:Rv w v x) :
  Calls Tryz.prog 112 #[v] w fun e w'=>e = .returned (.bool (zJo x))/\Ext w w':=by
 obtain⟨rfl,h1,h2⟩:=h.openWindow;by_cases hb:zA6 x.Base 0 4095=true
 ·have hm:=zh (zAy hb:zJo x=_);have hb2:=zA5.1 hb;obtain⟨hb3,hb4⟩:=hb2;go_enter Tryz.func112,Tryz.ntmps112;go_wp2_with (go_at_call 30;refine(zAe _ _ _ _).mono ?_;rintro e w' ⟨rfl,rfl⟩)
  go_ret;exact⟨zA2 hm.out.symm,(zr w).alloc _⟩
 ·rw[Bool.not_eq_true] at hb;have hm:=zh (zBb hb:zJo x=_);go_enter Tryz.func112,Tryz.ntmps112;go_wp2_with (go_at_call 30;refine(zAe _ _ _ _).mono ?_;rintro e w' ⟨rfl,rfl⟩)
  go_ret;exact⟨zA2 hm.out.symm,(zr w).alloc _⟩
theorem zEa(v:Value)(x:Window)(w:World)(h:Rv w v x) :
  Calls Tryz.prog 176 #[v] w fun e w'=>e = .returned (.bool (zJo x))/\Ext w w':=by
 obtain⟨rfl,h1,h2⟩:=h.openWindow;by_cases hb:zA6 x.Base 0 4095=true
 ·have hm:=zh (zAy hb:zJo x=_);obtain⟨hb3,hb4⟩:=zA5.1 hb;go_enter Tryz.func176,Tryz.ntmps176;go_wp2_with (go_at_call 35;refine(zA8 _ _ _ _).mono ?_;rintro e w' ⟨rfl,rfl⟩)
  go_ret;exact⟨zA2 hm.out.symm,(zr w).alloc _⟩
 ·rw[Bool.not_eq_true] at hb;have hm:=zh (zBb hb:zJo x=_);go_enter Tryz.func176,Tryz.ntmps176;go_wp2_with (go_at_call 35;refine(zA8 _ _ _ _).mono ?_;rintro e w' ⟨rfl,rfl⟩)
  go_ret;exact⟨zA2 hm.out.symm,(zr w).alloc _⟩
theorem zG3(v:Value)(x:Window)(w:World)(h:Rv w v x) :
  Calls Tryz.prog 111 #[v] w fun e w'=>e = .returned (.bool (!zJo x))/\Ext w w':=by
 have H:=zh h;obtain⟨rfl,h1,h2⟩:=h.openWindow;clear h;go_enter Tryz.func111,Tryz.ntmps111;go_wp2_with (go_at_call 112;refine(zH5 _ x _ (H.out.ext ((zr w).alloc _))).mono ?_;rintro e w' ⟨rfl,he⟩)
 go_ret;exact⟨rfl,((zr w).alloc _).tr he⟩
def zFz(xs:List Window):Bool:=decide (xs.length<=12) && xs.all zJo
theorem zCw(v:Value)(xs:List Window)(w:World)(h:Rs w v xs) :
  Calls Tryz.prog 70 #[v] w fun e w'=>e = .returned (.bool (zFz xs))/\Ext w w':=by
 have HX:=zh (zN3 111 #[] (fun x => !zJo x) v xs w h (zD3 Tryz.func111 (by kernel_rfl) (by kernel_rfl)) (fun w1 v x _ _ hv=>zG3 v x w1 hv))
 obtain⟨a,c,rfl,hl⟩:=h.form;clear h;by_cases hle:xs.length<=12
 ·have hm:=zh ((zBv zJo xs).trans (zAy (decide_eq_true hle)).symm:_=zFz xs);go_enter Tryz.func70,Tryz.ntmps70;go_wp2_with (go_at_call 110;refine HX.out.mono ?_;rintro e w' ⟨rfl,he⟩)
  go_ret;exact⟨zA2 hm.out,he⟩
 ·have hm:=zh (zBb (decide_eq_false hle):zFz xs=_);go_enter Tryz.func70,Tryz.ntmps70;go_wp2;go_ret;exact⟨zA2 hm.out.symm,.refl _⟩
theorem zCz(v:Value)(xs:List Window)(w:World)(h:Rs w v xs) :
  Calls Tryz.prog 158 #[v] w fun e w'=>e = .returned (.bool (zFz xs))/\Ext w w':=by
 obtain⟨a,c,rfl,hl⟩:=h.form;have H:=zh h;clear h;go_enter Tryz.func158,Tryz.ntmps158;go_wp2;go_loopw [3] (fun i wr => ∃ k:Nat,k<=xs.length/\i = .int .i64 k/\(xs.take k).all zJo=true/\Ext w wr) (fun i _=>xs.length - (intOf i).toNat)
 case atStart=>exact⟨0,Nat.zero_le _,rfl,rfl,.refl _⟩
 case round =>
  obtain⟨k,hk,rfl,he,hq⟩:=hrel;have HE:=zh he;have HQ:=zh hq;clear he hq;by_cases hlt:k < xs.length
  ·obtain⟨b,o,x,rfl,hb,hx,hc0,hc1,hc2,hr0,hr1,hv⟩:=(H.out.ext HQ.out).atWindow k hlt;clear H;by_cases hw:zJo x=true
   ·have HN:=zh (zBt zJo hx.out);go_wp2_with (go_at_call 176;refine(zEa _ x _ hv.out).mono ?_;rintro e w' ⟨rfl,he⟩;have HE2:=zh (HQ.out.tr he);clear he)
    go_roundw
    case rel=>exact⟨k+1,by omega,by go_num,by rw[HN.out,HE.out,hw];rfl,HE2.out⟩
    case measure=>simp[intOf];omega
   ·rw[Bool.not_eq_true] at hw;have HN:Hid (zFz xs=false):=zh (by unfold zFz;rw[zBl zJo hx.out hw,Bool.and_false])
    go_wp2_with (go_at_call 176;refine(zEa _ x _ hv.out).mono ?_;rintro e w' ⟨rfl,he⟩;have HE2:=zh (HQ.out.tr he);clear he)
    go_ret;exact⟨zA2 HN.out.symm,HE2.out⟩
  ·have HN:Hid (zFz xs=decide (xs.length<=12)):=zh (by
    unfold zFz;rw[<- zC7 zJo xs k (by omega),HE.out,Bool.and_true])
   clear H;by_cases hle:xs.length<=12
   ·go_wp2;go_ret;exact⟨zA2 (by rw[HN.out,decide_eq_true hle];exact decide_eq_true (by omega)),HQ.out⟩
   ·go_wp2;go_ret;exact⟨zA2 (by rw[HN.out,decide_eq_false hle];exact decide_eq_false (by omega)),HQ.out⟩
def zDg(p:Part):Bool:=zFz p.Windows && zA6 p.Cells 1 8
def zEv(xs:List Part):Bool:=decide (xs.length<=5) && xs.all zDg
theorem zH2(v:Value)(x:Part)(w:World)(h:Rv w v x) :
  Calls Tryz.prog 172 #[v] w fun e w'=>e = .returned (.bool (!zDg x))/\Ext w w':=by
 obtain⟨a0,c0,rfl,hr1,hs,hl⟩:=h.openPart;clear h;have e0:=zh ((zr w).alloc (.cells #[.slice a0 x.Windows.length c0,.int .i64 x.Cells] 110));by_cases hw:zFz x.Windows=true
 ·have hm:=zh (congrArg (! ·) (zAy hw:zDg x=_))
  go_enter Tryz.func172,Tryz.ntmps172;go_wp2_with fail
  refine(zCw _ _ _ (hs.out.ext e0.out)).mono ?_;rintro e w1 ⟨rfl,he⟩;obtain⟨hcb,hfb⟩:=zG0 he;go_wp2_with (go_at_call 30;refine(zAe _ _ _ _).mono ?_;rintro e w' ⟨rfl,rfl⟩)
  go_ret;exact⟨zA2 hm.out.symm,e0.out.tr he⟩
 ·rw[Bool.not_eq_true] at hw;have hm:=zh (congrArg (! ·) (zBb hw:zDg x=_))
  go_enter Tryz.func172,Tryz.ntmps172;go_wp2_with fail
  refine(zCw _ _ _ (hs.out.ext e0.out)).mono ?_;rintro e w1 ⟨rfl,he⟩;have HE:=zh he;clear he;go_wp2;go_ret;exact⟨zA2 hm.out.symm,e0.out.tr HE.out⟩
theorem zDk(v:Value)(xs:List Part)(w:World)(h:Rs w v xs) :
  Calls Tryz.prog 153 #[v] w fun e w'=>e = .returned (.bool (zEv xs))/\Ext w w':=by
 have HX:=zh (has_Part 172 #[] (fun x => !zDg x) v xs w h (zD3 Tryz.func172 (by kernel_rfl) (by kernel_rfl)) (fun w1 v x _ _ hv=>zH2 v x w1 hv))
 obtain⟨a,c,rfl,hl⟩:=h.form;clear h;by_cases hle:xs.length<=5
 ·have hm:=zh ((zBv zDg xs).trans (zAy (decide_eq_true hle)).symm:_=zEv xs);go_enter Tryz.func153,Tryz.ntmps153;go_wp2_with (go_at_call 171;refine HX.out.mono ?_;rintro e w' ⟨rfl,he⟩)
  go_ret;exact⟨zA2 hm.out,he⟩
 ·have hm:=zh (zBb (decide_eq_false hle):zEv xs=_);go_enter Tryz.func153,Tryz.ntmps153;go_wp2;go_ret;exact⟨zA2 hm.out.symm,.refl _⟩
theorem zDm(v:Value)(xs:List Part)(w:World)(h:Rs w v xs) :
  Calls Tryz.prog 119 #[v] w fun e w'=>e = .returned (.bool (zEv xs))/\Ext w w':=by
 obtain⟨a,c,rfl,hl⟩:=h.form;have H:=zh h;clear h;go_enter Tryz.func119,Tryz.ntmps119;go_wp2;go_loopw [3] (fun i wr => ∃ k:Nat,k<=xs.length/\i = .int .i64 k/\(xs.take k).all zDg=true/\Ext w wr) (fun i _=>xs.length - (intOf i).toNat)
 case atStart=>exact⟨0,Nat.zero_le _,rfl,rfl,.refl _⟩
 case round =>
  obtain⟨k,hk,rfl,he,hq⟩:=hrel;have HE:=zh he;have HQ:=zh hq;clear he hq;by_cases hlt:k < xs.length
  ·obtain⟨b,o,x,a0,c0,rfl,hb,hx,hc0,hc1,hr1,hs0,hl0,hv⟩:=(H.out.ext HQ.out).atPart k hlt;clear H;by_cases hw:zFz x.Windows=true
   ·by_cases hi:zA6 x.Cells 1 8=true
    ·have hp:zDg x=true:=by unfold zDg;rw[hw,hi];rfl
     have HN:=zh ((zBt zDg hx.out).trans (by rw[HE.out,hp];rfl:_=true))
     clear hp;go_wp2_with fail
     refine(zCz _ _ _ hs0.out).mono ?_;rintro e w1 ⟨rfl,he⟩;obtain⟨hcb,hfb⟩:=zG0 he;go_wp2_with (go_at_call 35;refine(zA8 _ _ _ _).mono ?_;rintro e w' ⟨rfl,rfl⟩)
     go_roundw
     case rel=>exact⟨k+1,by omega,by go_num,HN.out,HQ.out.tr he⟩
     case measure=>simp[intOf];omega
    ·rw[Bool.not_eq_true] at hi;have HN:Hid (zEv xs=false):=zh (by unfold zEv;rw[zBl zDg hx.out (by unfold zDg;rw[hi,Bool.and_false]),Bool.and_false])
     go_wp2_with fail
     refine(zCz _ _ _ hs0.out).mono ?_;rintro e w1 ⟨rfl,he⟩;obtain⟨hcb,hfb⟩:=zG0 he;go_wp2_with (go_at_call 35;refine(zA8 _ _ _ _).mono ?_;rintro e w' ⟨rfl,rfl⟩)
     go_ret;exact⟨zA2 HN.out.symm,HQ.out.tr he⟩
   ·rw[Bool.not_eq_true] at hw;have HN:Hid (zEv xs=false):=zh (by unfold zEv;rw[zBl zDg hx.out (by unfold zDg;rw[hw,Bool.false_and]),Bool.and_false])
    go_wp2_with fail
    refine(zCz _ _ _ hs0.out).mono ?_;rintro e w1 ⟨rfl,he⟩;have HE2:=zh (HQ.out.tr he);clear he;go_wp2;go_ret;exact⟨zA2 HN.out.symm,HE2.out⟩
  ·have HN:Hid (zEv xs=decide (xs.length<=5)):=zh (by
    unfold zEv;rw[<- zC7 zDg xs k (by omega),HE.out,Bool.and_true])
   clear H;by_cases hle:xs.length<=5
   ·go_wp2;go_ret;exact⟨zA2 (by rw[HN.out,decide_eq_true hle];exact decide_eq_true (by omega)),HQ.out⟩
   ·go_wp2;go_ret;exact⟨zA2 (by rw[HN.out,decide_eq_false hle];exact decide_eq_false (by omega)),HQ.out⟩
def zDp(n:Int)(x:Slot):Bool:=zA6 x.Ticks 1 20 && zA6 x.Who (-1) (n - 1)
def zDa(xs:List Slot)(n:Int):Bool:=zA6 n 0 5 && (zA6 xs.length 1 12 && xs.all (zDp n))
theorem zH3(v:Value)(x:Slot)(b:Nat)(n:Int)(w:World)(h:Rv w v x)(hb:b < w.heap.size)(hc:w.cell? ⟨b,0,none⟩=some (.int .i64 n))(hn1:0<=n)(hn2:n<=5) :
  Calls Tryz.prog 99 #[v,.pointer (some ⟨b,0,none⟩)] w fun e w'=>e = .returned (.bool (!zDp n x))/\Ext w w':=by
 obtain⟨rfl,hr0,hr1⟩:=h.openSlot;clear h;by_cases hw:zA6 x.Ticks 1 20=true
 ·have hm:=zh (congrArg (! ·) (zAy hw:zDp n x=_))
  go_enter Tryz.func99,Tryz.ntmps99;go_wp2_with (go_at_call 30;refine(zAe _ _ _ _).mono ?_;rintro e w' ⟨rfl,rfl⟩)
  go_ret;exact⟨zA2 hm.out.symm,(zr w).alloc _⟩
 ·rw[Bool.not_eq_true] at hw;have hm:=zh (congrArg (! ·) (zBb hw:zDp n x=_))
  go_enter Tryz.func99,Tryz.ntmps99;go_wp2_with (go_at_call 30;refine(zAe _ _ _ _).mono ?_;rintro e w' ⟨rfl,rfl⟩)
  go_ret;exact⟨zA2 hm.out.symm,(zr w).alloc _⟩
theorem zIr{w w1:World}{c:Value}{T:TypeId}(he:Ext (w.alloc (.cells #[c] T)) w1):w.heap.size < w1.heap.size/\w1.cell? ⟨w.heap.size,0,none⟩=some c:=by
 have hs:w.heap.size < (w.alloc (.cells #[c] T)).heap.size:=by simp
 refine⟨zl hs he.sz,?_⟩;rw[(zG0 he).1 _ _ hs];simp
theorem zEy(v:Value)(xs:List Slot)(n:Int)(w:World)(h:Rs w v xs) :
  Calls Tryz.prog 54 #[v,.int .i64 n] w fun e w'=>e = .returned (.bool (zDa xs n))/\Ext w w':=by
 have e0:=zh ((zr w).alloc (.cells #[.int .i64 n] 3));have H:=zh h;obtain⟨a,c,rfl,hl⟩:=h.form;clear h;by_cases h1:zA6 n 0 5=true
 ·obtain⟨hn1,hn2⟩:=zA5.1 h1;have HX:=zh (has_Slot 99 #[.pointer (some ⟨w.heap.size,0,none⟩)] (fun x => !zDp n x) _ xs _ (H.out.ext e0.out) (zD3 Tryz.func99 (by kernel_rfl) (by kernel_rfl))
   (fun w1 v x he _ hv=>zH3 v x _ n w1 hv (zIr he).1 (zIr he).2 hn1 hn2))
  by_cases h2:zA6 xs.length 1 12=true
  ·have hm:=zh ((zBv (zDp n) xs).trans ((zAy h1).trans (zAy h2)).symm:_=zDa xs n);go_enter Tryz.func54,Tryz.ntmps54;go_wp2_with (first|(go_at_call 30;refine(zAe _ _ _ _).mono ?_;rintro e w' ⟨rfl,rfl⟩)|(go_at_call 98;refine HX.out.mono ?_;rintro e w' ⟨rfl,he⟩))
   go_ret;exact⟨zA2 hm.out,e0.out.tr he⟩
  ·rw[Bool.not_eq_true] at h2;have hm:=zh (((zAy h1).trans (zBb h2)).symm:_=zDa xs n);go_enter Tryz.func54,Tryz.ntmps54;go_wp2_with (go_at_call 30;refine(zAe _ _ _ _).mono ?_;rintro e w' ⟨rfl,rfl⟩)
   go_ret;exact⟨zA2 hm.out,e0.out⟩
 ·rw[Bool.not_eq_true] at h1;have hm:=zh ((zBb h1).symm:_=zDa xs n);go_enter Tryz.func54,Tryz.ntmps54;go_wp2_with (go_at_call 30;refine(zAe _ _ _ _).mono ?_;rintro e w' ⟨rfl,rfl⟩)
  go_ret;exact⟨zA2 hm.out,e0.out⟩
theorem zCp(v:Value)(xs:List Slot)(n:Int)(w:World)(h:Rs w v xs) :
    Calls Tryz.prog 121 #[v,.int .i64 n] w fun e w'=>e = .returned (.bool (zDa xs n))/\Ext w w':=by
  obtain⟨a,c,rfl,hl⟩:=h.form;have H:=zh h;clear h;by_cases h1:zA6 n 0 5=true
  · obtain⟨hn1,hn2⟩:=zA5.1 h1;go_enter Tryz.func121,Tryz.ntmps121;go_wp2;go_loopw [5] (fun i wr => ∃ k:Nat,k<=xs.length/\i = .int .i64 k/\(xs.take k).all (zDp n)=true/\Ext w wr) (fun i _=>xs.length - (intOf i).toNat)
    case atStart=>exact⟨0,Nat.zero_le _,rfl,rfl,.refl _⟩
    case round =>
      obtain⟨k,hk,rfl,he,hq⟩:=hrel;have HE:=zh he;have HQ:=zh hq;clear he hq;by_cases hlt:k < xs.length
      · obtain⟨b,o,x,rfl,hb,hx,hc0,hc1,hr0,hr1,hv⟩:=(H.out.ext HQ.out).atSlot k hlt;clear H;by_cases hw:zA6 x.Ticks 1 20=true
        · by_cases hi:zA6 x.Who (-1) (n - 1)=true
          · have hp:zDp n x=true:=by unfold zDp;rw[hw,hi];rfl
            have HN:=zh ((zBt (zDp n) hx.out).trans (by rw[HE.out,hp];rfl:_=true))
            clear hp;go_wp2_with (go_at_call 35;refine(zA8 _ _ _ _).mono ?_;rintro e w' ⟨rfl,rfl⟩)
            go_roundw
            case rel=>exact⟨k+1,by omega,by go_num,HN.out,HQ.out⟩
            case measure=>simp[intOf];omega
          · rw[Bool.not_eq_true] at hi;have HN:Hid (zDa xs n=false):=zh (by unfold zDa;rw[zBl (zDp n) hx.out (by unfold zDp;rw[hi,Bool.and_false]),Bool.and_false,Bool.and_false])
            go_wp2_with (go_at_call 35;refine(zA8 _ _ _ _).mono ?_;rintro e w' ⟨rfl,rfl⟩)
            go_ret;exact⟨zA2 HN.out.symm,HQ.out⟩
        · rw[Bool.not_eq_true] at hw;have HN:Hid (zDa xs n=false):=zh (by unfold zDa;rw[zBl (zDp n) hx.out (by unfold zDp;rw[hw,Bool.false_and]),Bool.and_false,Bool.and_false])
          go_wp2_with (go_at_call 35;refine(zA8 _ _ _ _).mono ?_;rintro e w' ⟨rfl,rfl⟩)
          go_ret;exact⟨zA2 HN.out.symm,HQ.out⟩
      · have HN:Hid (zDa xs n=zA6 xs.length 1 12):=zh (by
          unfold zDa;rw[<- zC7 (zDp n) xs k (by omega),HE.out,Bool.and_true,h1,Bool.true_and])
        clear H;cases h2:zA6 xs.length 1 12
        all_goals
          go_wp2_with (go_at_call 35;refine(zA8 _ _ _ _).mono ?_;rintro e w' ⟨rfl,rfl⟩)
          go_ret;exact⟨zA2 (by rw[HN.out,h2]),HQ.out⟩
  · rw[Bool.not_eq_true] at h1;have HN:Hid (zDa xs n=false):=zh (zBb h1);go_enter Tryz.func121,Tryz.ntmps121;go_wp2;go_loopw [5] (fun i wr => ∃ k:Nat,k<=xs.length/\i = .int .i64 k/\Ext w wr) (fun i _=>xs.length - (intOf i).toNat)
    case atStart=>exact⟨0,Nat.zero_le _,rfl,.refl _⟩
    case round =>
      obtain⟨k,hk,rfl,hq⟩:=hrel;have HQ:=zh hq;clear hq;by_cases hlt:k < xs.length
      · obtain⟨b,o,x,rfl,hb,hx,hc0,hc1,hr0,hr1,hv⟩:=(H.out.ext HQ.out).atSlot k hlt;clear H;go_wp2_with (go_at_call 35;refine(zA8 _ _ _ _).mono ?_;rintro e w' ⟨rfl,rfl⟩)
        all_goals first
          | (go_ret;exact⟨zA2 HN.out.symm,HQ.out⟩)
          | (go_roundw
             case rel=>exact⟨k+1,by omega,by go_num,HQ.out⟩
             case measure=>simp[intOf];omega)
      · clear H;go_wp2_with (go_at_call 35;refine(zA8 _ _ _ _).mono ?_;rintro e w' ⟨rfl,rfl⟩)
        all_goals go_ret
        all_goals exact⟨zA2 HN.out.symm,HQ.out⟩
theorem not_f{b:Bool}(h:b=false):(!b)=true:=by rw[h];rfl
theorem not_t{b:Bool}(h:b=true):(!b)=false:=by rw[h];rfl
noncomputable def zIv(n:Int)(c:Channel):Bool:=zC4 c.Kind c.Size && (zA6 c.From 0 (n - 1) && (zA6 c.To 0 (n - 1) && !(c.From == c.To)))
noncomputable def zEd(xs:List Channel)(n:Int):Bool:=zA6 n 0 5 && (decide (xs.length<=8) && xs.all (zIv n))
theorem zFu{k s:Int}:zC4 k s=true ↔ (k=1/\s=1\/(k=2\/k=3)/\1<=s/\s<=4):=Bo.iff
theorem zKl{n:Int}{c:Channel}:zIv n c=true ↔ (c.Kind=1/\c.Size=1\/(c.Kind=2\/c.Kind=3)/\1<=c.Size/\c.Size<=4)/\(0<=c.From/\c.From<=n - 1)/\(0<=c.To/\c.To<=n - 1)/\c.From≠c.To:=by
 unfold zIv;simp only[Bool.and_eq_true,zFu,zA5,Bool.not_eq_true',beq_eq_false_iff_ne]
theorem zFi(v:Value)(x:Channel)(b:Nat)(n:Int)(w:World)(h:Rv w v x)(hb:b < w.heap.size)(hc:w.cell? ⟨b,0,none⟩=some (.int .i64 n))(hn1:0<=n)(hn2:n<=5) :
  Calls Tryz.prog 174 #[v,.pointer (some ⟨b,0,none⟩)] w fun e w'=>e = .returned (.bool (!zIv n x))/\Ext w w':=by
 obtain⟨rfl,hr0,hr1,hr2,hr3⟩:=h.openChannel;clear h;cases h1:zC4 x.Kind x.Size
 ·have hm:=zh (congrArg (! ·) (zBb h1:zIv n x=_))
  go_enter Tryz.func174,Tryz.ntmps174;go_wp2_with (first|(go_at_call 117;refine(zCx _ _ _).mono ?_;rintro e w' ⟨rfl,rfl⟩)|(go_at_call 30;refine(zAe _ _ _ _).mono ?_;rintro e w' ⟨rfl,rfl⟩))
  go_ret;exact⟨zA2 hm.out.symm,(zr w).alloc _⟩
 ·cases h2:zA6 x.From 0 (n - 1)
  ·have hm:=zh (congrArg (! ·) ((zAy h1).trans (zBb h2):zIv n x=_))
   go_enter Tryz.func174,Tryz.ntmps174;go_wp2_with (first|(go_at_call 117;refine(zCx _ _ _).mono ?_;rintro e w' ⟨rfl,rfl⟩)|(go_at_call 30;refine(zAe _ _ _ _).mono ?_;rintro e w' ⟨rfl,rfl⟩))
   go_ret;exact⟨zA2 hm.out.symm,(zr w).alloc _⟩
  ·cases h3:zA6 x.To 0 (n - 1)
   ·have hm:=zh (congrArg (! ·) ((zAy h1).trans ((zAy h2).trans (zBb h3)):zIv n x=_))
    go_enter Tryz.func174,Tryz.ntmps174;go_wp2_with (first|(go_at_call 117;refine(zCx _ _ _).mono ?_;rintro e w' ⟨rfl,rfl⟩)|(go_at_call 30;refine(zAe _ _ _ _).mono ?_;rintro e w' ⟨rfl,rfl⟩))
    go_ret;exact⟨zA2 hm.out.symm,(zr w).alloc _⟩
   ·have hm:Hid ((!zIv n x)=(x.From == x.To)):=zh (by unfold zIv;rw[h1,h2,h3];simp)
    go_enter Tryz.func174,Tryz.ntmps174;go_wp2_with (first|(go_at_call 117;refine(zCx _ _ _).mono ?_;rintro e w' ⟨rfl,rfl⟩)|(go_at_call 30;refine(zAe _ _ _ _).mono ?_;rintro e w' ⟨rfl,rfl⟩))
    all_goals go_ret
    all_goals exact⟨zA2 hm.out.symm,(zr w).alloc _⟩
theorem zDv(v:Value)(xs:List Channel)(n:Int)(w:World)(h:Rs w v xs) :
  Calls Tryz.prog 154 #[v,.int .i64 n] w fun e w'=>e = .returned (.bool (zEd xs n))/\Ext w w':=by
 have e0:=zh ((zr w).alloc (.cells #[.int .i64 n] 3));have H:=zh h;obtain⟨a,c,rfl,hl⟩:=h.form;clear h;cases h1:zA6 n 0 5
 ·have hm:=zh ((zBb h1).symm:_=zEd xs n);go_enter Tryz.func154,Tryz.ntmps154;go_wp2_with (go_at_call 30;refine(zAe _ _ _ _).mono ?_;rintro e w' ⟨rfl,rfl⟩)
  go_ret;exact⟨zA2 hm.out,e0.out⟩
 ·obtain⟨hn1,hn2⟩:=zA5.1 h1;have HX:=zh (zLy 174 #[.pointer (some ⟨w.heap.size,0,none⟩)] (fun x => !zIv n x) _ xs _ (H.out.ext e0.out) (zD3 Tryz.func174 (by kernel_rfl) (by kernel_rfl))
   (fun w1 v x he _ hv=>zFi v x _ n w1 hv (zIr he).1 (zIr he).2 hn1 hn2))
  by_cases h2:xs.length<=8
  ·have hm:=zh ((zBv (zIv n) xs).trans ((zAy h1).trans (zAy (decide_eq_true h2))).symm:_=zEd xs n);go_enter Tryz.func154,Tryz.ntmps154;go_wp2_with (first|(go_at_call 30;refine(zAe _ _ _ _).mono ?_;rintro e w' ⟨rfl,rfl⟩)|(go_at_call 173;refine HX.out.mono ?_;rintro e w' ⟨rfl,he⟩))
   go_ret;exact⟨zA2 hm.out,e0.out.tr he⟩
  ·have hm:=zh (((zAy h1).trans (zBb (decide_eq_false h2))).symm:_=zEd xs n);go_enter Tryz.func154,Tryz.ntmps154;go_wp2_with (go_at_call 30;refine(zAe _ _ _ _).mono ?_;rintro e w' ⟨rfl,rfl⟩)
   go_ret;exact⟨zA2 hm.out,e0.out⟩
def M.cvs(n:Int)(c:Channel):Bool:=zA6 c.Kind 1 3 && (zA6 c.From 0 (n - 1) && (zA6 c.To 0 (n - 1) && (!(c.From == c.To) && (zA6 c.Size 1 4 && !(c.Kind == 1 && !(c.Size == 1))))))
theorem zM9(n:Int)(c:Channel):M.cvs n c=zIv n c:=by
 rw[Bool.eq_iff_iff,zKl];unfold M.cvs;simp only[Bool.and_eq_true,zA5,Bool.not_eq_true',beq_eq_false_iff_ne,Bool.and_eq_false_iff,Bool.not_eq_false',beq_iff_eq];omega
theorem zBe(v:Value)(xs:List Channel)(n:Int)(w:World)(h:Rs w v xs) :
    Calls Tryz.prog 120 #[v,.int .i64 n] w fun e w'=>e = .returned (.bool (zEd xs n))/\Ext w w':=by
  obtain⟨a,c,rfl,hl⟩:=h.form;have H:=zh h;clear h;cases h1:zA6 n 0 5
  · have HN:Hid (zEd xs n=false):=zh (zBb h1);go_enter Tryz.func120,Tryz.ntmps120;go_wp2;go_loopw [5,6] (fun i _ wr => ∃ k:Nat,k<=xs.length/\i = .int .i64 k/\Ext w wr) (fun i _ _=>xs.length - (intOf i).toNat)
    case atStart=>exact⟨0,Nat.zero_le _,rfl,.refl _⟩
    case round =>
      obtain⟨k,hk,rfl,hq⟩:=hrel;have HQ:=zh hq;clear hq;by_cases hlt:k < xs.length
      · obtain⟨b,o,x,rfl,hb,hx,hc0,hc1,hc2,hc3,hr0,hr1,hr2,hr3,hv⟩:=(H.out.ext HQ.out).atChannel k hlt;clear H;go_wp2_with (go_at_call 35;refine(zA8 _ _ _ _).mono ?_;rintro e w' ⟨rfl,rfl⟩)
        all_goals first
          | (go_ret;exact⟨zA2 HN.out.symm,(HQ.out.alloc _).set (Nat.le_trans HQ.out.sz (by simp)) _⟩)
          | (go_ret;exact⟨zA2 HN.out.symm,HQ.out.alloc _⟩)
          | (go_roundw
             case rel=>exact⟨k+1,by omega,by go_num,HQ.out.alloc _⟩
             case measure=>simp[intOf];omega)
      · clear H;go_wp2_with (go_at_call 35;refine(zA8 _ _ _ _).mono ?_;rintro e w' ⟨rfl,rfl⟩)
        all_goals go_ret
        all_goals exact⟨zA2 HN.out.symm,HQ.out⟩
  · obtain⟨hn1,hn2⟩:=zA5.1 h1;go_enter Tryz.func120,Tryz.ntmps120;go_wp2;go_loopw [5,6] (fun i _ wr => ∃ k:Nat,k<=xs.length/\i = .int .i64 k/\(xs.take k).all (zIv n)=true/\Ext w wr) (fun i _ _=>xs.length - (intOf i).toNat)
    case atStart=>exact⟨0,Nat.zero_le _,rfl,rfl,.refl _⟩
    case round =>
      obtain⟨k,hk,rfl,he,hq⟩:=hrel;have HE:=zh he;have HQ:=zh hq;clear he hq;by_cases hlt:k < xs.length
      · obtain⟨b,o,x,rfl,hb,hx,hc0,hc1,hc2,hc3,hr0,hr1,hr2,hr3,hv⟩:=(H.out.ext HQ.out).atChannel k hlt;clear H;have key:zIv n x=false->zEd xs n=false:=fun hp=>by unfold zEd;rw[zBl (zIv n) hx.out hp,Bool.and_false,Bool.and_false]
        rw[<- zM9] at key;have hst:=zh ((zBt (zIv n) hx.out).trans (by rw[HE.out,<- zM9,Bool.true_and]))
        have KEY:=zh key;clear key;cases g1:zA6 x.Kind 1 3
        · have HN:=zh (KEY.out (zBb g1));go_wp2_with (go_at_call 35;refine(zA8 _ _ _ _).mono ?_;rintro e w' ⟨rfl,rfl⟩)
          go_ret;exact⟨zA2 HN.out.symm,HQ.out.alloc _⟩
        · cases g2:zA6 x.From 0 (n - 1)
          · have HN:=zh (KEY.out ((zAy g1).trans (zBb g2)));go_wp2_with (go_at_call 35;refine(zA8 _ _ _ _).mono ?_;rintro e w' ⟨rfl,rfl⟩)
            go_ret;exact⟨zA2 HN.out.symm,HQ.out.alloc _⟩
          · cases g3:zA6 x.To 0 (n - 1)
            · have HN:=zh (KEY.out ((zAy g1).trans ((zAy g2).trans (zBb g3))));go_wp2_with (go_at_call 35;refine(zA8 _ _ _ _).mono ?_;rintro e w' ⟨rfl,rfl⟩)
              go_ret;exact⟨zA2 HN.out.symm,HQ.out.alloc _⟩
            · cases g4:(x.From == x.To)
              · cases g5:zA6 x.Size 1 4
                · have HN:=zh (KEY.out ((zAy g1).trans ((zAy g2).trans ((zAy g3).trans ((zAy (not_f g4)).trans (zBb g5))))));go_wp2_with (go_at_call 35;refine(zA8 _ _ _ _).mono ?_;rintro e w' ⟨rfl,rfl⟩)
                  go_ret;exact⟨zA2 HN.out.symm,HQ.out.alloc _⟩
                · have hcvs:M.cvs n x = !(x.Kind == 1 && !(x.Size == 1)):=(zAy g1).trans ((zAy g2).trans ((zAy g3).trans ((zAy (not_f g4)).trans (zAy g5))));cases g6:(x.Kind == 1)
                  · have HN:=zh ((hst.out.trans (hcvs.trans (by simp[g6]))):_=true)
                    clear hcvs;go_wp2_with (go_at_call 35;refine(zA8 _ _ _ _).mono ?_;rintro e w' ⟨rfl,rfl⟩)
                    go_roundw
                    case rel=>exact⟨k+1,by omega,by go_num,HN.out,HQ.out.alloc _⟩
                    case measure=>simp[intOf];omega
                  · cases g7:(x.Size == 1)
                    · have HN:=zh (KEY.out (hcvs.trans (by simp[g6,g7])))
                      clear hcvs;go_wp2_with (go_at_call 35;refine(zA8 _ _ _ _).mono ?_;rintro e w' ⟨rfl,rfl⟩)
                      go_ret;exact⟨zA2 HN.out.symm,HQ.out.alloc _⟩
                    · have HN:=zh ((hst.out.trans (hcvs.trans (by simp[g6,g7]))):_=true)
                      clear hcvs;go_wp2_with (go_at_call 35;refine(zA8 _ _ _ _).mono ?_;rintro e w' ⟨rfl,rfl⟩)
                      go_roundw
                      case rel=>exact⟨k+1,by omega,by go_num,HN.out,HQ.out.alloc _⟩
                      case measure=>simp[intOf];omega
              · have HN:=zh (KEY.out ((zAy g1).trans ((zAy g2).trans ((zAy g3).trans (zBb (not_t g4))))));go_wp2_with (go_at_call 35;refine(zA8 _ _ _ _).mono ?_;rintro e w' ⟨rfl,rfl⟩)
                go_ret;exact⟨zA2 HN.out.symm,HQ.out.alloc _⟩
      · have HN:Hid (zEd xs n=decide (xs.length<=8)):=zh (by
          unfold zEd;rw[<- zC7 (zIv n) xs k (by omega),HE.out,Bool.and_true,h1,Bool.true_and])
        clear H;by_cases hle:xs.length<=8
        · go_wp2_with (go_at_call 35;refine(zA8 _ _ _ _).mono ?_;rintro e w' ⟨rfl,rfl⟩)
          go_ret;exact⟨zA2 (HN.out.trans (decide_eq_true hle)).symm,HQ.out⟩
        · go_wp2_with (go_at_call 35;refine(zA8 _ _ _ _).mono ?_;rintro e w' ⟨rfl,rfl⟩)
          go_ret;exact⟨zA2 (HN.out.trans (decide_eq_false hle)).symm,HQ.out⟩
noncomputable def zBa(s:Setup):Bool:=zEv s.Parts && (zEd s.Channels s.Parts.length && zDa s.Slots s.Parts.length)
theorem zDl(v:Value)(s:Setup)(w:World)(h:Rv w v s) :
  Calls Tryz.prog 113 #[v] w fun e w'=>e = .returned (.bool (zBa s))/\Ext w w':=by
 obtain⟨a0,c0,a1,c1,a2,c2,rfl,h0,hl0,h1,hl1,h2,hl2⟩:=h.openSetup;clear h;have e0:=zh ((zr w).alloc (.cells #[.slice a0 s.Parts.length c0,.slice a1 s.Channels.length c1,.slice a2 s.Slots.length c2] 27));cases g0:zEv s.Parts
 ·have hm:=zh ((zBb g0).symm:_=zBa s);go_enter Tryz.func113,Tryz.ntmps113;go_wp2_with fail
  refine(zDk _ _ _ (h0.out.ext e0.out)).mono ?_;rintro e w1 ⟨rfl,he1⟩;have E1:=zh (e0.out.tr he1);clear he1;go_wp2;go_ret;exact⟨zA2 hm.out,E1.out⟩
 ·cases g1:zEd s.Channels s.Parts.length
  ·have hm:=zh (((zAy g0).trans (zBb g1)).symm:_=zBa s);go_enter Tryz.func113,Tryz.ntmps113;go_wp2_with fail
   refine(zDk _ _ _ (h0.out.ext e0.out)).mono ?_;rintro e w1 ⟨rfl,he1⟩;have E1:=zh (e0.out.tr he1);obtain⟨hcb,hfb⟩:=zG0 he1;go_wp2_with fail
   refine(zDv _ _ _ _ (h1.out.ext E1.out)).mono ?_;rintro e w2 ⟨rfl,he2⟩;have E2:=zh (E1.out.tr he2);clear he1 he2 hcb hfb;go_wp2;go_ret;exact⟨zA2 hm.out,E2.out⟩
  ·have hm:=zh (((zAy g0).trans (zAy g1)).symm:_=zBa s);go_enter Tryz.func113,Tryz.ntmps113;go_wp2_with fail
   refine(zDk _ _ _ (h0.out.ext e0.out)).mono ?_;rintro e w1 ⟨rfl,he1⟩;have E1:=zh (e0.out.tr he1);obtain⟨hcb,hfb⟩:=zG0 he1;go_wp2_with fail
   refine(zDv _ _ _ _ (h1.out.ext E1.out)).mono ?_;rintro e w2 ⟨rfl,he2⟩;have E2:=zh (E1.out.tr he2);obtain⟨hcb2,hfb2⟩:=zG0 (he1.tr he2);clear he1 he2 hcb hfb;go_wp2_with fail
   refine(zEy _ _ _ _ (h2.out.ext E2.out)).mono ?_;rintro e w3 ⟨rfl,he3⟩;have E3:=zh (E2.out.tr he3);clear he3;go_wp2;go_ret;exact⟨zA2 hm.out,E3.out⟩
theorem zAz(v:Value)(s:Setup)(w:World)(h:Rv w v s) :
  Calls Tryz.prog 78 #[v] w fun e w'=>e = .returned (.bool (zBa s))/\Ext w w':=by
 obtain⟨a0,c0,a1,c1,a2,c2,rfl,h0,hl0,h1,hl1,h2,hl2⟩:=h.openSetup;clear h;have e0:=zh ((zr w).alloc (.cells #[.slice a0 s.Parts.length c0,.slice a1 s.Channels.length c1,.slice a2 s.Slots.length c2] 27));cases g0:zEv s.Parts
 ·have hm:=zh ((zBb g0).symm:_=zBa s);go_enter Tryz.func78,Tryz.ntmps78;go_wp2_with fail
  refine(zDm _ _ _ (h0.out.ext e0.out)).mono ?_;rintro e w1 ⟨rfl,he1⟩;have E1:=zh (e0.out.tr he1);clear he1;go_wp2;go_ret;exact⟨zA2 hm.out,E1.out⟩
 ·cases g1:zEd s.Channels s.Parts.length
  ·have hm:=zh (((zAy g0).trans (zBb g1)).symm:_=zBa s);go_enter Tryz.func78,Tryz.ntmps78;go_wp2_with fail
   refine(zDm _ _ _ (h0.out.ext e0.out)).mono ?_;rintro e w1 ⟨rfl,he1⟩;have E1:=zh (e0.out.tr he1);obtain⟨hcb,hfb⟩:=zG0 he1;go_wp2_with fail
   refine(zBe _ _ _ _ (h1.out.ext E1.out)).mono ?_;rintro e w2 ⟨rfl,he2⟩;have E2:=zh (E1.out.tr he2);clear he1 he2 hcb hfb;go_wp2;go_ret;exact⟨zA2 hm.out,E2.out⟩
  ·have hm:=zh (((zAy g0).trans (zAy g1)).symm:_=zBa s);go_enter Tryz.func78,Tryz.ntmps78;go_wp2_with fail
   refine(zDm _ _ _ (h0.out.ext e0.out)).mono ?_;rintro e w1 ⟨rfl,he1⟩;have E1:=zh (e0.out.tr he1);obtain⟨hcb,hfb⟩:=zG0 he1;go_wp2_with fail
   refine(zBe _ _ _ _ (h1.out.ext E1.out)).mono ?_;rintro e w2 ⟨rfl,he2⟩;have E2:=zh (E1.out.tr he2);obtain⟨hcb2,hfb2⟩:=zG0 (he1.tr he2);clear he1 he2 hcb hfb;go_wp2_with fail
   refine(zCp _ _ _ _ (h2.out.ext E2.out)).mono ?_;rintro e w3 ⟨rfl,he3⟩;have E3:=zh (E2.out.tr he3);clear he3;go_wp2;go_ret;exact⟨zA2 hm.out,E3.out⟩
end Sk
