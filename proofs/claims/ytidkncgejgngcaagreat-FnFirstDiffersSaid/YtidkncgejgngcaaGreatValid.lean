/- Contracts of functions of the given program. -/
import Derived.Test.YtidkncgejgngcaaGreatApp
namespace Sk
open Go Go.Proofs Go.RowKit
set_option maxHeartbeats 400000
set_option maxRecDepth 100000
set_option linter.unusedVariables false
set_option linter.unusedSimpArgs false
theorem zCj{α:Type}(f : α -> Bool)(xs:List α):(!xs.any fun x => !f x)=xs.all f:=by
 induction xs with
 | nil=>rfl
 | cons x xs ih=>simp only[List.any_cons,List.all_cons,Bool.not_or,Bool.not_not,ih]
theorem zB8{a b:Bool}(h:a=true):(a && b)=b:=by simp[h]
theorem zBf{a b:Bool}(h:a=false):(a && b)=false:=by simp[h]
def zJl(x:Window):Bool:=zA8 x.Base 0 4095 && zA8 x.Size 1 (4096 - x.Base)
theorem zHg(v:Value)(x:Window)(w:World)(h:Rv w v x) :
  Calls Tryz.prog 169 #[v] w fun e w'=>e = .returned (.bool (zJl x))/\Ext w w':=by
 obtain⟨rfl,h1,h2⟩:=h.openWindow;by_cases hb:zA8 x.Base 0 4095=true
 ·have hm:=zh (zB8 hb:zJl x=_);have hb2:=zA6.1 hb;obtain⟨hb3,hb4⟩:=hb2;go_enter Tryz.func169,Tryz.ntmps169;go_wp2_with (go_at_call 50;refine(zAp _ _ _ _).mono ?_;rintro e w' ⟨rfl,rfl⟩)
  go_ret;exact⟨zA2 hm.out.symm,(zr w).alloc _⟩
 ·rw[Bool.not_eq_true] at hb;have hm:=zh (zBf hb:zJl x=_);go_enter Tryz.func169,Tryz.ntmps169;go_wp2_with (go_at_call 50;refine(zAp _ _ _ _).mono ?_;rintro e w' ⟨rfl,rfl⟩)
  go_ret;exact⟨zA2 hm.out.symm,(zr w).alloc _⟩
theorem zEm(v:Value)(x:Window)(w:World)(h:Rv w v x) :
  Calls Tryz.prog 225 #[v] w fun e w'=>e = .returned (.bool (zJl x))/\Ext w w':=by
 obtain⟨rfl,h1,h2⟩:=h.openWindow;by_cases hb:zA8 x.Base 0 4095=true
 ·have hm:=zh (zB8 hb:zJl x=_);obtain⟨hb3,hb4⟩:=zA6.1 hb;go_enter Tryz.func225,Tryz.ntmps225;go_wp2_with (go_at_call 55;refine(zA9 _ _ _ _).mono ?_;rintro e w' ⟨rfl,rfl⟩)
  go_ret;exact⟨zA2 hm.out.symm,(zr w).alloc _⟩
 ·rw[Bool.not_eq_true] at hb;have hm:=zh (zBf hb:zJl x=_);go_enter Tryz.func225,Tryz.ntmps225;go_wp2_with (go_at_call 55;refine(zA9 _ _ _ _).mono ?_;rintro e w' ⟨rfl,rfl⟩)
  go_ret;exact⟨zA2 hm.out.symm,(zr w).alloc _⟩
theorem zGd(v:Value)(x:Window)(w:World)(h:Rv w v x) :
  Calls Tryz.prog 168 #[v] w fun e w'=>e = .returned (.bool (!zJl x))/\Ext w w':=by
 have H:=zh h;obtain⟨rfl,h1,h2⟩:=h.openWindow;clear h;go_enter Tryz.func168,Tryz.ntmps168;go_wp2_with (go_at_call 169;refine(zHg _ x _ (H.out.ext ((zr w).alloc _))).mono ?_;rintro e w' ⟨rfl,he⟩)
 go_ret;exact⟨rfl,((zr w).alloc _).tr he⟩
def zGb(xs:List Window):Bool:=decide (xs.length<=12) && xs.all zJl
theorem zD0(v:Value)(xs:List Window)(w:World)(h:Rs w v xs) :
  Calls Tryz.prog 109 #[v] w fun e w'=>e = .returned (.bool (zGb xs))/\Ext w w':=by
 have HX:=zh (zNd 168 #[] (fun x => !zJl x) v xs w h (zDj Tryz.func168 (by kernel_rfl) (by kernel_rfl)) (fun w1 v x _ _ hv=>zGd v x w1 hv))
 obtain⟨a,c,rfl,hl⟩:=h.form;clear h;by_cases hle:xs.length<=12
 ·have hm:=zh ((zCj zJl xs).trans (zB8 (decide_eq_true hle)).symm:_=zGb xs);go_enter Tryz.func109,Tryz.ntmps109;go_wp2_with (go_at_call 167;refine HX.out.mono ?_;rintro e w' ⟨rfl,he⟩)
  go_ret;exact⟨zA2 hm.out,he⟩
 ·have hm:=zh (zBf (decide_eq_false hle):zGb xs=_);go_enter Tryz.func109,Tryz.ntmps109;go_wp2;go_ret;exact⟨zA2 hm.out.symm,.refl _⟩
theorem zD5(v:Value)(xs:List Window)(w:World)(h:Rs w v xs) :
  Calls Tryz.prog 200 #[v] w fun e w'=>e = .returned (.bool (zGb xs))/\Ext w w':=by
 obtain⟨a,c,rfl,hl⟩:=h.form;have H:=zh h;clear h;go_enter Tryz.func200,Tryz.ntmps200;go_wp2;go_loopw [3] (fun i wr => ∃ k:Nat,k<=xs.length/\i = .int .i64 k/\(xs.take k).all zJl=true/\Ext w wr) (fun i _=>xs.length - (intOf i).toNat)
 case atStart=>exact⟨0,Nat.zero_le _,rfl,rfl,.refl _⟩
 case round =>
  obtain⟨k,hk,rfl,he,hq⟩:=hrel;have HE:=zh he;have HQ:=zh hq;clear he hq;by_cases hlt:k < xs.length
  ·obtain⟨b,o,x,rfl,hb,hx,hc0,hc1,hc2,hr0,hr1,hv⟩:=(H.out.ext HQ.out).atWindow k hlt;clear H;by_cases hw:zJl x=true
   ·have HN:=zh (zBx zJl hx.out);go_wp2_with (go_at_call 225;refine(zEm _ x _ hv.out).mono ?_;rintro e w' ⟨rfl,he⟩;have HE2:=zh (HQ.out.tr he);clear he)
    go_roundw
    case rel=>exact⟨k+1,by omega,by go_num,by rw[HN.out,HE.out,hw];rfl,HE2.out⟩
    case measure=>simp[intOf];omega
   ·rw[Bool.not_eq_true] at hw;have HN:Hid (zGb xs=false):=zh (by unfold zGb;rw[zBq zJl hx.out hw,Bool.and_false])
    go_wp2_with (go_at_call 225;refine(zEm _ x _ hv.out).mono ?_;rintro e w' ⟨rfl,he⟩;have HE2:=zh (HQ.out.tr he);clear he)
    go_ret;exact⟨zA2 HN.out.symm,HE2.out⟩
  ·have HN:Hid (zGb xs=decide (xs.length<=12)):=zh (by
    unfold zGb;rw[<- zC9 zJl xs k (by omega),HE.out,Bool.and_true])
   clear H;by_cases hle:xs.length<=12
   ·go_wp2;go_ret;exact⟨zA2 (by rw[HN.out,decide_eq_true hle];exact decide_eq_true (by omega)),HQ.out⟩
   ·go_wp2;go_ret;exact⟨zA2 (by rw[HN.out,decide_eq_false hle];exact decide_eq_false (by omega)),HQ.out⟩
def zDs(p:Part):Bool:=zGb p.Windows && zA8 p.Cells 1 8
def zF9(xs:List Part):Bool:=decide (xs.length<=5) && xs.all zDs
theorem zHe(v:Value)(x:Part)(w:World)(h:Rv w v x) :
  Calls Tryz.prog 221 #[v] w fun e w'=>e = .returned (.bool (!zDs x))/\Ext w w':=by
 obtain⟨a0,c0,rfl,hr1,hs,hl⟩:=h.openPart;clear h;have e0:=zh ((zr w).alloc (.cells #[.slice a0 x.Windows.length c0,.int .i64 x.Cells] 125));by_cases hw:zGb x.Windows=true
 ·have hm:=zh (congrArg (! ·) (zB8 hw:zDs x=_))
  go_enter Tryz.func221,Tryz.ntmps221;go_wp2_with fail
  refine(zD0 _ _ _ (hs.out.ext e0.out)).mono ?_;rintro e w1 ⟨rfl,he⟩;obtain⟨hcb,hfb⟩:=zDg he;go_wp2_with (go_at_call 50;refine(zAp _ _ _ _).mono ?_;rintro e w' ⟨rfl,rfl⟩)
  go_ret;exact⟨zA2 hm.out.symm,e0.out.tr he⟩
 ·rw[Bool.not_eq_true] at hw;have hm:=zh (congrArg (! ·) (zBf hw:zDs x=_))
  go_enter Tryz.func221,Tryz.ntmps221;go_wp2_with fail
  refine(zD0 _ _ _ (hs.out.ext e0.out)).mono ?_;rintro e w1 ⟨rfl,he⟩;have HE:=zh he;clear he;go_wp2;go_ret;exact⟨zA2 hm.out.symm,e0.out.tr HE.out⟩
theorem zDz(v:Value)(xs:List Part)(w:World)(h:Rs w v xs) :
  Calls Tryz.prog 192 #[v] w fun e w'=>e = .returned (.bool (zF9 xs))/\Ext w w':=by
 have HX:=zh (has_Part 221 #[] (fun x => !zDs x) v xs w h (zDj Tryz.func221 (by kernel_rfl) (by kernel_rfl)) (fun w1 v x _ _ hv=>zHe v x w1 hv))
 obtain⟨a,c,rfl,hl⟩:=h.form;clear h;by_cases hle:xs.length<=5
 ·have hm:=zh ((zCj zDs xs).trans (zB8 (decide_eq_true hle)).symm:_=zF9 xs);go_enter Tryz.func192,Tryz.ntmps192;go_wp2_with (go_at_call 220;refine HX.out.mono ?_;rintro e w' ⟨rfl,he⟩)
  go_ret;exact⟨zA2 hm.out,he⟩
 ·have hm:=zh (zBf (decide_eq_false hle):zF9 xs=_);go_enter Tryz.func192,Tryz.ntmps192;go_wp2;go_ret;exact⟨zA2 hm.out.symm,.refl _⟩
theorem zE0(v:Value)(xs:List Part)(w:World)(h:Rs w v xs) :
  Calls Tryz.prog 150 #[v] w fun e w'=>e = .returned (.bool (zF9 xs))/\Ext w w':=by
 obtain⟨a,c,rfl,hl⟩:=h.form;have H:=zh h;clear h;go_enter Tryz.func150,Tryz.ntmps150;go_wp2;go_loopw [3] (fun i wr => ∃ k:Nat,k<=xs.length/\i = .int .i64 k/\(xs.take k).all zDs=true/\Ext w wr) (fun i _=>xs.length - (intOf i).toNat)
 case atStart=>exact⟨0,Nat.zero_le _,rfl,rfl,.refl _⟩
 case round =>
  obtain⟨k,hk,rfl,he,hq⟩:=hrel;have HE:=zh he;have HQ:=zh hq;clear he hq;by_cases hlt:k < xs.length
  ·obtain⟨b,o,x,a0,c0,rfl,hb,hx,hc0,hc1,hr1,hs0,hl0,hv⟩:=(H.out.ext HQ.out).atPart k hlt;clear H;by_cases hw:zGb x.Windows=true
   ·by_cases hi:zA8 x.Cells 1 8=true
    ·have hp:zDs x=true:=by unfold zDs;rw[hw,hi];rfl
     have HN:=zh ((zBx zDs hx.out).trans (by rw[HE.out,hp];rfl:_=true))
     clear hp;go_wp2_with fail
     refine(zD5 _ _ _ hs0.out).mono ?_;rintro e w1 ⟨rfl,he⟩;obtain⟨hcb,hfb⟩:=zDg he;go_wp2_with (go_at_call 55;refine(zA9 _ _ _ _).mono ?_;rintro e w' ⟨rfl,rfl⟩)
     go_roundw
     case rel=>exact⟨k+1,by omega,by go_num,HN.out,HQ.out.tr he⟩
     case measure=>simp[intOf];omega
    ·rw[Bool.not_eq_true] at hi;have HN:Hid (zF9 xs=false):=zh (by unfold zF9;rw[zBq zDs hx.out (by unfold zDs;rw[hi,Bool.and_false]),Bool.and_false])
     go_wp2_with fail
     refine(zD5 _ _ _ hs0.out).mono ?_;rintro e w1 ⟨rfl,he⟩;obtain⟨hcb,hfb⟩:=zDg he;go_wp2_with (go_at_call 55;refine(zA9 _ _ _ _).mono ?_;rintro e w' ⟨rfl,rfl⟩)
     go_ret;exact⟨zA2 HN.out.symm,HQ.out.tr he⟩
   ·rw[Bool.not_eq_true] at hw;have HN:Hid (zF9 xs=false):=zh (by unfold zF9;rw[zBq zDs hx.out (by unfold zDs;rw[hw,Bool.false_and]),Bool.and_false])
    go_wp2_with fail
    refine(zD5 _ _ _ hs0.out).mono ?_;rintro e w1 ⟨rfl,he⟩;have HE2:=zh (HQ.out.tr he);clear he;go_wp2;go_ret;exact⟨zA2 HN.out.symm,HE2.out⟩
  ·have HN:Hid (zF9 xs=decide (xs.length<=5)):=zh (by
    unfold zF9;rw[<- zC9 zDs xs k (by omega),HE.out,Bool.and_true])
   clear H;by_cases hle:xs.length<=5
   ·go_wp2;go_ret;exact⟨zA2 (by rw[HN.out,decide_eq_true hle];exact decide_eq_true (by omega)),HQ.out⟩
   ·go_wp2;go_ret;exact⟨zA2 (by rw[HN.out,decide_eq_false hle];exact decide_eq_false (by omega)),HQ.out⟩
def zE3(n:Int)(x:Slot):Bool:=zA8 x.Ticks 1 20 && zA8 x.Who (-1) (n - 1)
def zDv(xs:List Slot)(n:Int):Bool:=zA8 n 0 5 && (zA8 xs.length 1 12 && xs.all (zE3 n))
theorem zHf(v:Value)(x:Slot)(b:Nat)(n:Int)(w:World)(h:Rv w v x)(hb:b < w.heap.size)(hc:w.cell? ⟨b,0,none⟩=some (.int .i64 n))(hn1:0<=n)(hn2:n<=5) :
  Calls Tryz.prog 134 #[v,.pointer (some ⟨b,0,none⟩)] w fun e w'=>e = .returned (.bool (!zE3 n x))/\Ext w w':=by
 obtain⟨rfl,hr0,hr1⟩:=h.openSlot;clear h;by_cases hw:zA8 x.Ticks 1 20=true
 ·have hm:=zh (congrArg (! ·) (zB8 hw:zE3 n x=_))
  go_enter Tryz.func134,Tryz.ntmps134;go_wp2_with (go_at_call 50;refine(zAp _ _ _ _).mono ?_;rintro e w' ⟨rfl,rfl⟩)
  go_ret;exact⟨zA2 hm.out.symm,(zr w).alloc _⟩
 ·rw[Bool.not_eq_true] at hw;have hm:=zh (congrArg (! ·) (zBf hw:zE3 n x=_))
  go_enter Tryz.func134,Tryz.ntmps134;go_wp2_with (go_at_call 50;refine(zAp _ _ _ _).mono ?_;rintro e w' ⟨rfl,rfl⟩)
  go_ret;exact⟨zA2 hm.out.symm,(zr w).alloc _⟩
theorem zIr{w w1:World}{c:Value}{T:TypeId}(he:Ext (w.alloc (.cells #[c] T)) w1):w.heap.size < w1.heap.size/\w1.cell? ⟨w.heap.size,0,none⟩=some c:=by
 have hs:w.heap.size < (w.alloc (.cells #[c] T)).heap.size:=by simp
 refine⟨zl hs he.sz,?_⟩;rw[(zDg he).1 _ _ hs];simp
theorem zJ3(v:Value)(xs:List Slot)(n:Int)(w:World)(h:Rs w v xs) :
  Calls Tryz.prog 73 #[v,.int .i64 n] w fun e w'=>e = .returned (.bool (zDv xs n))/\Ext w w':=by
 have e0:=zh ((zr w).alloc (.cells #[.int .i64 n] 3));have H:=zh h;obtain⟨a,c,rfl,hl⟩:=h.form;clear h;by_cases h1:zA8 n 0 5=true
 ·obtain⟨hn1,hn2⟩:=zA6.1 h1;have HX:=zh (has_Slot 134 #[.pointer (some ⟨w.heap.size,0,none⟩)] (fun x => !zE3 n x) _ xs _ (H.out.ext e0.out) (zDj Tryz.func134 (by kernel_rfl) (by kernel_rfl))
   (fun w1 v x he _ hv=>zHf v x _ n w1 hv (zIr he).1 (zIr he).2 hn1 hn2))
  by_cases h2:zA8 xs.length 1 12=true
  ·have hm:=zh ((zCj (zE3 n) xs).trans ((zB8 h1).trans (zB8 h2)).symm:_=zDv xs n);go_enter Tryz.func73,Tryz.ntmps73;go_wp2_with (first|(go_at_call 50;refine(zAp _ _ _ _).mono ?_;rintro e w' ⟨rfl,rfl⟩)|(go_at_call 133;refine HX.out.mono ?_;rintro e w' ⟨rfl,he⟩))
   go_ret;exact⟨zA2 hm.out,e0.out.tr he⟩
  ·rw[Bool.not_eq_true] at h2;have hm:=zh (((zB8 h1).trans (zBf h2)).symm:_=zDv xs n);go_enter Tryz.func73,Tryz.ntmps73;go_wp2_with (go_at_call 50;refine(zAp _ _ _ _).mono ?_;rintro e w' ⟨rfl,rfl⟩)
   go_ret;exact⟨zA2 hm.out,e0.out⟩
 ·rw[Bool.not_eq_true] at h1;have hm:=zh ((zBf h1).symm:_=zDv xs n);go_enter Tryz.func73,Tryz.ntmps73;go_wp2_with (go_at_call 50;refine(zAp _ _ _ _).mono ?_;rintro e w' ⟨rfl,rfl⟩)
  go_ret;exact⟨zA2 hm.out,e0.out⟩
theorem zCu(v:Value)(xs:List Slot)(n:Int)(w:World)(h:Rs w v xs) :
    Calls Tryz.prog 151 #[v,.int .i64 n] w fun e w'=>e = .returned (.bool (zDv xs n))/\Ext w w':=by
  obtain⟨a,c,rfl,hl⟩:=h.form;have H:=zh h;clear h;by_cases h1:zA8 n 0 5=true
  · obtain⟨hn1,hn2⟩:=zA6.1 h1;go_enter Tryz.func151,Tryz.ntmps151;go_wp2;go_loopw [5] (fun i wr => ∃ k:Nat,k<=xs.length/\i = .int .i64 k/\(xs.take k).all (zE3 n)=true/\Ext w wr) (fun i _=>xs.length - (intOf i).toNat)
    case atStart=>exact⟨0,Nat.zero_le _,rfl,rfl,.refl _⟩
    case round =>
      obtain⟨k,hk,rfl,he,hq⟩:=hrel;have HE:=zh he;have HQ:=zh hq;clear he hq;by_cases hlt:k < xs.length
      · obtain⟨b,o,x,rfl,hb,hx,hc0,hc1,hr0,hr1,hv⟩:=(H.out.ext HQ.out).atSlot k hlt;clear H;by_cases hw:zA8 x.Ticks 1 20=true
        · by_cases hi:zA8 x.Who (-1) (n - 1)=true
          · have hp:zE3 n x=true:=by unfold zE3;rw[hw,hi];rfl
            have HN:=zh ((zBx (zE3 n) hx.out).trans (by rw[HE.out,hp];rfl:_=true))
            clear hp;go_wp2_with (go_at_call 55;refine(zA9 _ _ _ _).mono ?_;rintro e w' ⟨rfl,rfl⟩)
            go_roundw
            case rel=>exact⟨k+1,by omega,by go_num,HN.out,HQ.out⟩
            case measure=>simp[intOf];omega
          · rw[Bool.not_eq_true] at hi;have HN:Hid (zDv xs n=false):=zh (by unfold zDv;rw[zBq (zE3 n) hx.out (by unfold zE3;rw[hi,Bool.and_false]),Bool.and_false,Bool.and_false])
            go_wp2_with (go_at_call 55;refine(zA9 _ _ _ _).mono ?_;rintro e w' ⟨rfl,rfl⟩)
            go_ret;exact⟨zA2 HN.out.symm,HQ.out⟩
        · rw[Bool.not_eq_true] at hw;have HN:Hid (zDv xs n=false):=zh (by unfold zDv;rw[zBq (zE3 n) hx.out (by unfold zE3;rw[hw,Bool.false_and]),Bool.and_false,Bool.and_false])
          go_wp2_with (go_at_call 55;refine(zA9 _ _ _ _).mono ?_;rintro e w' ⟨rfl,rfl⟩)
          go_ret;exact⟨zA2 HN.out.symm,HQ.out⟩
      · have HN:Hid (zDv xs n=zA8 xs.length 1 12):=zh (by
          unfold zDv;rw[<- zC9 (zE3 n) xs k (by omega),HE.out,Bool.and_true,h1,Bool.true_and])
        clear H;cases h2:zA8 xs.length 1 12
        all_goals
          go_wp2_with (go_at_call 55;refine(zA9 _ _ _ _).mono ?_;rintro e w' ⟨rfl,rfl⟩)
          go_ret;exact⟨zA2 (by rw[HN.out,h2]),HQ.out⟩
  · rw[Bool.not_eq_true] at h1;have HN:Hid (zDv xs n=false):=zh (zBf h1);go_enter Tryz.func151,Tryz.ntmps151;go_wp2;go_loopw [5] (fun i wr => ∃ k:Nat,k<=xs.length/\i = .int .i64 k/\Ext w wr) (fun i _=>xs.length - (intOf i).toNat)
    case atStart=>exact⟨0,Nat.zero_le _,rfl,.refl _⟩
    case round =>
      obtain⟨k,hk,rfl,hq⟩:=hrel;have HQ:=zh hq;clear hq;by_cases hlt:k < xs.length
      · obtain⟨b,o,x,rfl,hb,hx,hc0,hc1,hr0,hr1,hv⟩:=(H.out.ext HQ.out).atSlot k hlt;clear H;go_wp2_with (go_at_call 55;refine(zA9 _ _ _ _).mono ?_;rintro e w' ⟨rfl,rfl⟩)
        all_goals first
          | (go_ret;exact⟨zA2 HN.out.symm,HQ.out⟩)
          | (go_roundw
             case rel=>exact⟨k+1,by omega,by go_num,HQ.out⟩
             case measure=>simp[intOf];omega)
      · clear H;go_wp2_with (go_at_call 55;refine(zA9 _ _ _ _).mono ?_;rintro e w' ⟨rfl,rfl⟩)
        all_goals go_ret
        all_goals exact⟨zA2 HN.out.symm,HQ.out⟩
theorem not_f{b:Bool}(h:b=false):(!b)=true:=by rw[h];rfl
theorem not_t{b:Bool}(h:b=true):(!b)=false:=by rw[h];rfl
noncomputable def zIl(n:Int)(c:Channel):Bool:=zC7 c.Kind c.Size && (zA8 c.From 0 (n - 1) && (zA8 c.To 0 (n - 1) && !(c.From == c.To)))
noncomputable def zCx(xs:List Channel)(n:Int):Bool:=zA8 n 0 5 && (decide (xs.length<=8) && xs.all (zIl n))
theorem zG8{k s:Int}:zC7 k s=true ↔ (k=1/\s=1\/(k=2\/k=3)/\1<=s/\s<=4):=Bo.iff
theorem zIm{n:Int}{c:Channel}:zIl n c=true ↔ (c.Kind=1/\c.Size=1\/(c.Kind=2\/c.Kind=3)/\1<=c.Size/\c.Size<=4)/\(0<=c.From/\c.From<=n - 1)/\(0<=c.To/\c.To<=n - 1)/\c.From≠c.To:=by
 unfold zIl;simp only[Bool.and_eq_true,zG8,zA6,Bool.not_eq_true',beq_eq_false_iff_ne]
theorem zFz(v:Value)(x:Channel)(b:Nat)(n:Int)(w:World)(h:Rv w v x)(hb:b < w.heap.size)(hc:w.cell? ⟨b,0,none⟩=some (.int .i64 n))(hn1:0<=n)(hn2:n<=5) :
  Calls Tryz.prog 222 #[v,.pointer (some ⟨b,0,none⟩)] w fun e w'=>e = .returned (.bool (!zIl n x))/\Ext w w':=by
 obtain⟨rfl,hr0,hr1,hr2,hr3⟩:=h.openChannel;clear h;cases h1:zC7 x.Kind x.Size
 ·have hm:=zh (congrArg (! ·) (zBf h1:zIl n x=_))
  go_enter Tryz.func222,Tryz.ntmps222;go_wp2_with (first|(go_at_call 148;refine(zD1 _ _ _).mono ?_;rintro e w' ⟨rfl,rfl⟩)|(go_at_call 50;refine(zAp _ _ _ _).mono ?_;rintro e w' ⟨rfl,rfl⟩))
  go_ret;exact⟨zA2 hm.out.symm,(zr w).alloc _⟩
 ·cases h2:zA8 x.From 0 (n - 1)
  ·have hm:=zh (congrArg (! ·) ((zB8 h1).trans (zBf h2):zIl n x=_))
   go_enter Tryz.func222,Tryz.ntmps222;go_wp2_with (first|(go_at_call 148;refine(zD1 _ _ _).mono ?_;rintro e w' ⟨rfl,rfl⟩)|(go_at_call 50;refine(zAp _ _ _ _).mono ?_;rintro e w' ⟨rfl,rfl⟩))
   go_ret;exact⟨zA2 hm.out.symm,(zr w).alloc _⟩
  ·cases h3:zA8 x.To 0 (n - 1)
   ·have hm:=zh (congrArg (! ·) ((zB8 h1).trans ((zB8 h2).trans (zBf h3)):zIl n x=_))
    go_enter Tryz.func222,Tryz.ntmps222;go_wp2_with (first|(go_at_call 148;refine(zD1 _ _ _).mono ?_;rintro e w' ⟨rfl,rfl⟩)|(go_at_call 50;refine(zAp _ _ _ _).mono ?_;rintro e w' ⟨rfl,rfl⟩))
    go_ret;exact⟨zA2 hm.out.symm,(zr w).alloc _⟩
   ·have hm:Hid ((!zIl n x)=(x.From == x.To)):=zh (by unfold zIl;rw[h1,h2,h3];simp)
    go_enter Tryz.func222,Tryz.ntmps222;go_wp2_with (first|(go_at_call 148;refine(zD1 _ _ _).mono ?_;rintro e w' ⟨rfl,rfl⟩)|(go_at_call 50;refine(zAp _ _ _ _).mono ?_;rintro e w' ⟨rfl,rfl⟩))
    all_goals go_ret
    all_goals exact⟨zA2 hm.out.symm,(zr w).alloc _⟩
theorem zE6(v:Value)(xs:List Channel)(n:Int)(w:World)(h:Rs w v xs) :
  Calls Tryz.prog 193 #[v,.int .i64 n] w fun e w'=>e = .returned (.bool (zCx xs n))/\Ext w w':=by
 have e0:=zh ((zr w).alloc (.cells #[.int .i64 n] 3));have H:=zh h;obtain⟨a,c,rfl,hl⟩:=h.form;clear h;cases h1:zA8 n 0 5
 ·have hm:=zh ((zBf h1).symm:_=zCx xs n);go_enter Tryz.func193,Tryz.ntmps193;go_wp2_with (go_at_call 50;refine(zAp _ _ _ _).mono ?_;rintro e w' ⟨rfl,rfl⟩)
  go_ret;exact⟨zA2 hm.out,e0.out⟩
 ·obtain⟨hn1,hn2⟩:=zA6.1 h1;have HX:=zh (zJ2 222 #[.pointer (some ⟨w.heap.size,0,none⟩)] (fun x => !zIl n x) _ xs _ (H.out.ext e0.out) (zDj Tryz.func222 (by kernel_rfl) (by kernel_rfl))
   (fun w1 v x he _ hv=>zFz v x _ n w1 hv (zIr he).1 (zIr he).2 hn1 hn2))
  by_cases h2:xs.length<=8
  ·have hm:=zh ((zCj (zIl n) xs).trans ((zB8 h1).trans (zB8 (decide_eq_true h2))).symm:_=zCx xs n);go_enter Tryz.func193,Tryz.ntmps193;go_wp2_with (first|(go_at_call 50;refine(zAp _ _ _ _).mono ?_;rintro e w' ⟨rfl,rfl⟩)|(go_at_call 194;refine HX.out.mono ?_;rintro e w' ⟨rfl,he⟩))
   go_ret;exact⟨zA2 hm.out,e0.out.tr he⟩
  ·have hm:=zh (((zB8 h1).trans (zBf (decide_eq_false h2))).symm:_=zCx xs n);go_enter Tryz.func193,Tryz.ntmps193;go_wp2_with (go_at_call 50;refine(zAp _ _ _ _).mono ?_;rintro e w' ⟨rfl,rfl⟩)
   go_ret;exact⟨zA2 hm.out,e0.out⟩
def M.cvs(n:Int)(c:Channel):Bool:=zA8 c.Kind 1 3 && (zA8 c.From 0 (n - 1) && (zA8 c.To 0 (n - 1) && (!(c.From == c.To) && (zA8 c.Size 1 4 && !(c.Kind == 1 && !(c.Size == 1))))))
theorem zMr(n:Int)(c:Channel):M.cvs n c=zIl n c:=by
 rw[Bool.eq_iff_iff,zIm];unfold M.cvs;simp only[Bool.and_eq_true,zA6,Bool.not_eq_true',beq_eq_false_iff_ne,Bool.and_eq_false_iff,Bool.not_eq_false',beq_iff_eq];omega
theorem zB4(v:Value)(xs:List Channel)(n:Int)(w:World)(h:Rs w v xs) :
    Calls Tryz.prog 141 #[v,.int .i64 n] w fun e w'=>e = .returned (.bool (zCx xs n))/\Ext w w':=by
  obtain⟨a,c,rfl,hl⟩:=h.form;have H:=zh h;clear h;cases h1:zA8 n 0 5
  · have HN:Hid (zCx xs n=false):=zh (zBf h1);go_enter Tryz.func141,Tryz.ntmps141;go_wp2;go_loopw [5,6] (fun i _ wr => ∃ k:Nat,k<=xs.length/\i = .int .i64 k/\Ext w wr) (fun i _ _=>xs.length - (intOf i).toNat)
    case atStart=>exact⟨0,Nat.zero_le _,rfl,.refl _⟩
    case round =>
      obtain⟨k,hk,rfl,hq⟩:=hrel;have HQ:=zh hq;clear hq;by_cases hlt:k < xs.length
      · obtain⟨b,o,x,rfl,hb,hx,hc0,hc1,hc2,hc3,hr0,hr1,hr2,hr3,hv⟩:=(H.out.ext HQ.out).atChannel k hlt;clear H;go_wp2_with (go_at_call 55;refine(zA9 _ _ _ _).mono ?_;rintro e w' ⟨rfl,rfl⟩)
        all_goals first
          | (go_ret;exact⟨zA2 HN.out.symm,(HQ.out.alloc _).set (Nat.le_trans HQ.out.sz (by simp)) _⟩)
          | (go_ret;exact⟨zA2 HN.out.symm,HQ.out.alloc _⟩)
          | (go_roundw
             case rel=>exact⟨k+1,by omega,by go_num,HQ.out.alloc _⟩
             case measure=>simp[intOf];omega)
      · clear H;go_wp2_with (go_at_call 55;refine(zA9 _ _ _ _).mono ?_;rintro e w' ⟨rfl,rfl⟩)
        all_goals go_ret
        all_goals exact⟨zA2 HN.out.symm,HQ.out⟩
  · obtain⟨hn1,hn2⟩:=zA6.1 h1;go_enter Tryz.func141,Tryz.ntmps141;go_wp2;go_loopw [5,6] (fun i _ wr => ∃ k:Nat,k<=xs.length/\i = .int .i64 k/\(xs.take k).all (zIl n)=true/\Ext w wr) (fun i _ _=>xs.length - (intOf i).toNat)
    case atStart=>exact⟨0,Nat.zero_le _,rfl,rfl,.refl _⟩
    case round =>
      obtain⟨k,hk,rfl,he,hq⟩:=hrel;have HE:=zh he;have HQ:=zh hq;clear he hq;by_cases hlt:k < xs.length
      · obtain⟨b,o,x,rfl,hb,hx,hc0,hc1,hc2,hc3,hr0,hr1,hr2,hr3,hv⟩:=(H.out.ext HQ.out).atChannel k hlt;clear H;have key:zIl n x=false->zCx xs n=false:=fun hp=>by unfold zCx;rw[zBq (zIl n) hx.out hp,Bool.and_false,Bool.and_false]
        rw[<- zMr] at key;have hst:=zh ((zBx (zIl n) hx.out).trans (by rw[HE.out,<- zMr,Bool.true_and]))
        have KEY:=zh key;clear key;cases g1:zA8 x.Kind 1 3
        · have HN:=zh (KEY.out (zBf g1));go_wp2_with (go_at_call 55;refine(zA9 _ _ _ _).mono ?_;rintro e w' ⟨rfl,rfl⟩)
          go_ret;exact⟨zA2 HN.out.symm,HQ.out.alloc _⟩
        · cases g2:zA8 x.From 0 (n - 1)
          · have HN:=zh (KEY.out ((zB8 g1).trans (zBf g2)));go_wp2_with (go_at_call 55;refine(zA9 _ _ _ _).mono ?_;rintro e w' ⟨rfl,rfl⟩)
            go_ret;exact⟨zA2 HN.out.symm,HQ.out.alloc _⟩
          · cases g3:zA8 x.To 0 (n - 1)
            · have HN:=zh (KEY.out ((zB8 g1).trans ((zB8 g2).trans (zBf g3))));go_wp2_with (go_at_call 55;refine(zA9 _ _ _ _).mono ?_;rintro e w' ⟨rfl,rfl⟩)
              go_ret;exact⟨zA2 HN.out.symm,HQ.out.alloc _⟩
            · cases g4:(x.From == x.To)
              · cases g5:zA8 x.Size 1 4
                · have HN:=zh (KEY.out ((zB8 g1).trans ((zB8 g2).trans ((zB8 g3).trans ((zB8 (not_f g4)).trans (zBf g5))))));go_wp2_with (go_at_call 55;refine(zA9 _ _ _ _).mono ?_;rintro e w' ⟨rfl,rfl⟩)
                  go_ret;exact⟨zA2 HN.out.symm,HQ.out.alloc _⟩
                · have hcvs:M.cvs n x = !(x.Kind == 1 && !(x.Size == 1)):=(zB8 g1).trans ((zB8 g2).trans ((zB8 g3).trans ((zB8 (not_f g4)).trans (zB8 g5))));cases g6:(x.Kind == 1)
                  · have HN:=zh ((hst.out.trans (hcvs.trans (by simp[g6]))):_=true)
                    clear hcvs;go_wp2_with (go_at_call 55;refine(zA9 _ _ _ _).mono ?_;rintro e w' ⟨rfl,rfl⟩)
                    go_roundw
                    case rel=>exact⟨k+1,by omega,by go_num,HN.out,HQ.out.alloc _⟩
                    case measure=>simp[intOf];omega
                  · cases g7:(x.Size == 1)
                    · have HN:=zh (KEY.out (hcvs.trans (by simp[g6,g7])))
                      clear hcvs;go_wp2_with (go_at_call 55;refine(zA9 _ _ _ _).mono ?_;rintro e w' ⟨rfl,rfl⟩)
                      go_ret;exact⟨zA2 HN.out.symm,HQ.out.alloc _⟩
                    · have HN:=zh ((hst.out.trans (hcvs.trans (by simp[g6,g7]))):_=true)
                      clear hcvs;go_wp2_with (go_at_call 55;refine(zA9 _ _ _ _).mono ?_;rintro e w' ⟨rfl,rfl⟩)
                      go_roundw
                      case rel=>exact⟨k+1,by omega,by go_num,HN.out,HQ.out.alloc _⟩
                      case measure=>simp[intOf];omega
              · have HN:=zh (KEY.out ((zB8 g1).trans ((zB8 g2).trans ((zB8 g3).trans (zBf (not_t g4))))));go_wp2_with (go_at_call 55;refine(zA9 _ _ _ _).mono ?_;rintro e w' ⟨rfl,rfl⟩)
                go_ret;exact⟨zA2 HN.out.symm,HQ.out.alloc _⟩
      · have HN:Hid (zCx xs n=decide (xs.length<=8)):=zh (by
          unfold zCx;rw[<- zC9 (zIl n) xs k (by omega),HE.out,Bool.and_true,h1,Bool.true_and])
        clear H;by_cases hle:xs.length<=8
        · go_wp2_with (go_at_call 55;refine(zA9 _ _ _ _).mono ?_;rintro e w' ⟨rfl,rfl⟩)
          go_ret;exact⟨zA2 (HN.out.trans (decide_eq_true hle)).symm,HQ.out⟩
        · go_wp2_with (go_at_call 55;refine(zA9 _ _ _ _).mono ?_;rintro e w' ⟨rfl,rfl⟩)
          go_ret;exact⟨zA2 (HN.out.trans (decide_eq_false hle)).symm,HQ.out⟩
noncomputable def zB0(s:Setup):Bool:=zF9 s.Parts && (zCx s.Channels s.Parts.length && zDv s.Slots s.Parts.length)
theorem zCa(v:Value)(s:Setup)(w:World)(h:Rv w v s) :
  Calls Tryz.prog 137 #[v] w fun e w'=>e = .returned (.bool (zB0 s))/\Ext w w':=by
 obtain⟨a0,c0,a1,c1,a2,c2,rfl,h0,hl0,h1,hl1,h2,hl2⟩:=h.openSetup;clear h;have e0:=zh ((zr w).alloc (.cells #[.slice a0 s.Parts.length c0,.slice a1 s.Channels.length c1,.slice a2 s.Slots.length c2] 27));cases g0:zF9 s.Parts
 ·have hm:=zh ((zBf g0).symm:_=zB0 s);go_enter Tryz.func137,Tryz.ntmps137;go_wp2_with fail
  refine(zDz _ _ _ (h0.out.ext e0.out)).mono ?_;rintro e w1 ⟨rfl,he1⟩;have E1:=zh (e0.out.tr he1);clear he1;go_wp2;go_ret;exact⟨zA2 hm.out,E1.out⟩
 ·cases g1:zCx s.Channels s.Parts.length
  ·have hm:=zh (((zB8 g0).trans (zBf g1)).symm:_=zB0 s);go_enter Tryz.func137,Tryz.ntmps137;go_wp2_with fail
   refine(zDz _ _ _ (h0.out.ext e0.out)).mono ?_;rintro e w1 ⟨rfl,he1⟩;have E1:=zh (e0.out.tr he1);obtain⟨hcb,hfb⟩:=zDg he1;go_wp2_with fail
   refine(zE6 _ _ _ _ (h1.out.ext E1.out)).mono ?_;rintro e w2 ⟨rfl,he2⟩;have E2:=zh (E1.out.tr he2);clear he1 he2 hcb hfb;go_wp2;go_ret;exact⟨zA2 hm.out,E2.out⟩
  ·have hm:=zh (((zB8 g0).trans (zB8 g1)).symm:_=zB0 s);go_enter Tryz.func137,Tryz.ntmps137;go_wp2_with fail
   refine(zDz _ _ _ (h0.out.ext e0.out)).mono ?_;rintro e w1 ⟨rfl,he1⟩;have E1:=zh (e0.out.tr he1);obtain⟨hcb,hfb⟩:=zDg he1;go_wp2_with fail
   refine(zE6 _ _ _ _ (h1.out.ext E1.out)).mono ?_;rintro e w2 ⟨rfl,he2⟩;have E2:=zh (E1.out.tr he2);obtain⟨hcb2,hfb2⟩:=zDg (he1.tr he2);clear he1 he2 hcb hfb;go_wp2_with fail
   refine(zJ3 _ _ _ _ (h2.out.ext E2.out)).mono ?_;rintro e w3 ⟨rfl,he3⟩;have E3:=zh (E2.out.tr he3);clear he3;go_wp2;go_ret;exact⟨zA2 hm.out,E3.out⟩
theorem zB6(v:Value)(s:Setup)(w:World)(h:Rv w v s) :
  Calls Tryz.prog 92 #[v] w fun e w'=>e = .returned (.bool (zB0 s))/\Ext w w':=by
 obtain⟨a0,c0,a1,c1,a2,c2,rfl,h0,hl0,h1,hl1,h2,hl2⟩:=h.openSetup;clear h;have e0:=zh ((zr w).alloc (.cells #[.slice a0 s.Parts.length c0,.slice a1 s.Channels.length c1,.slice a2 s.Slots.length c2] 27));cases g0:zF9 s.Parts
 ·have hm:=zh ((zBf g0).symm:_=zB0 s);go_enter Tryz.func92,Tryz.ntmps92;go_wp2_with fail
  refine(zE0 _ _ _ (h0.out.ext e0.out)).mono ?_;rintro e w1 ⟨rfl,he1⟩;have E1:=zh (e0.out.tr he1);clear he1;go_wp2;go_ret;exact⟨zA2 hm.out,E1.out⟩
 ·cases g1:zCx s.Channels s.Parts.length
  ·have hm:=zh (((zB8 g0).trans (zBf g1)).symm:_=zB0 s);go_enter Tryz.func92,Tryz.ntmps92;go_wp2_with fail
   refine(zE0 _ _ _ (h0.out.ext e0.out)).mono ?_;rintro e w1 ⟨rfl,he1⟩;have E1:=zh (e0.out.tr he1);obtain⟨hcb,hfb⟩:=zDg he1;go_wp2_with fail
   refine(zB4 _ _ _ _ (h1.out.ext E1.out)).mono ?_;rintro e w2 ⟨rfl,he2⟩;have E2:=zh (E1.out.tr he2);clear he1 he2 hcb hfb;go_wp2;go_ret;exact⟨zA2 hm.out,E2.out⟩
  ·have hm:=zh (((zB8 g0).trans (zB8 g1)).symm:_=zB0 s);go_enter Tryz.func92,Tryz.ntmps92;go_wp2_with fail
   refine(zE0 _ _ _ (h0.out.ext e0.out)).mono ?_;rintro e w1 ⟨rfl,he1⟩;have E1:=zh (e0.out.tr he1);obtain⟨hcb,hfb⟩:=zDg he1;go_wp2_with fail
   refine(zB4 _ _ _ _ (h1.out.ext E1.out)).mono ?_;rintro e w2 ⟨rfl,he2⟩;have E2:=zh (E1.out.tr he2);obtain⟨hcb2,hfb2⟩:=zDg (he1.tr he2);clear he1 he2 hcb hfb;go_wp2_with fail
   refine(zCu _ _ _ _ (h2.out.ext E2.out)).mono ?_;rintro e w3 ⟨rfl,he3⟩;have E3:=zh (E2.out.tr he3);clear he3;go_wp2;go_ret;exact⟨zA2 hm.out,E3.out⟩
end Sk
