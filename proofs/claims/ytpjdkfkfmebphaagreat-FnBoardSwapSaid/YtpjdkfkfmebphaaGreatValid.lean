/- Contracts of functions of the given program. -/
import Derived.Test.YtpjdkfkfmebphaaGreatApp
import Derived.Test.YtpjdkfkfmebphaaGreatFind
namespace Sk
open Go Go.Proofs Go.RowKit
set_option maxHeartbeats 400000
set_option maxRecDepth 100000
set_option linter.unusedVariables false
set_option linter.unusedSimpArgs false
theorem zCg{α:Type}(f : α -> Bool)(xs:List α):(!xs.any fun x => !f x)=xs.all f:=by
 induction xs with
 | nil=>rfl
 | cons x xs ih=>simp only[List.any_cons,List.all_cons,Bool.not_or,Bool.not_not,ih]
theorem zAt{a b:Bool}(h:a=true):(a && b)=b:=by simp[h]
theorem zB4{a b:Bool}(h:a=false):(a && b)=false:=by simp[h]
def zKa(x:Window):Bool:=zA8 x.Base 0 4095 && zA8 x.Size 1 (4096 - x.Base)
theorem zHq(v:Value)(x:Window)(w:World)(h:Rv w v x) :
  Calls Tryz.prog 113 #[v] w fun e w'=>e = .returned (.bool (zKa x))/\Ext w w':=by
 obtain⟨rfl,h1,h2⟩:=h.openWindow;by_cases hb:zA8 x.Base 0 4095=true
 ·have hm:=zh (zAt hb:zKa x=_);have hb2:=zA6.1 hb;obtain⟨hb3,hb4⟩:=hb2;go_enter Tryz.func113,Tryz.ntmps113;go_wp2_with (go_at_call 35;refine(zAj _ _ _ _).mono ?_;rintro e w' ⟨rfl,rfl⟩)
  go_ret;exact⟨zA2 hm.out.symm,(zr w).alloc _⟩
 ·rw[Bool.not_eq_true] at hb;have hm:=zh (zB4 hb:zKa x=_);go_enter Tryz.func113,Tryz.ntmps113;go_wp2_with (go_at_call 35;refine(zAj _ _ _ _).mono ?_;rintro e w' ⟨rfl,rfl⟩)
  go_ret;exact⟨zA2 hm.out.symm,(zr w).alloc _⟩
theorem zEk(v:Value)(x:Window)(w:World)(h:Rv w v x) :
  Calls Tryz.prog 150 #[v] w fun e w'=>e = .returned (.bool (zKa x))/\Ext w w':=by
 obtain⟨rfl,h1,h2⟩:=h.openWindow;by_cases hb:zA8 x.Base 0 4095=true
 ·have hm:=zh (zAt hb:zKa x=_);obtain⟨hb3,hb4⟩:=zA6.1 hb;go_enter Tryz.func150,Tryz.ntmps150;go_wp2_with (go_at_call 27;refine(zAe _ _ _ _).mono ?_;rintro e w' ⟨rfl,rfl⟩)
  go_ret;exact⟨zA2 hm.out.symm,(zr w).alloc _⟩
 ·rw[Bool.not_eq_true] at hb;have hm:=zh (zB4 hb:zKa x=_);go_enter Tryz.func150,Tryz.ntmps150;go_wp2_with (go_at_call 27;refine(zAe _ _ _ _).mono ?_;rintro e w' ⟨rfl,rfl⟩)
  go_ret;exact⟨zA2 hm.out.symm,(zr w).alloc _⟩
theorem zGm(v:Value)(x:Window)(w:World)(h:Rv w v x) :
  Calls Tryz.prog 112 #[v] w fun e w'=>e = .returned (.bool (!zKa x))/\Ext w w':=by
 have H:=zh h;obtain⟨rfl,h1,h2⟩:=h.openWindow;clear h;go_enter Tryz.func112,Tryz.ntmps112;go_wp2_with (go_at_call 113;refine(zHq _ x _ (H.out.ext ((zr w).alloc _))).mono ?_;rintro e w' ⟨rfl,he⟩)
 go_ret;exact⟨rfl,((zr w).alloc _).tr he⟩
def zGj(xs:List Window):Bool:=decide (xs.length<=12) && xs.all zKa
theorem zCz(v:Value)(xs:List Window)(w:World)(h:Rs w v xs) :
  Calls Tryz.prog 62 #[v] w fun e w'=>e = .returned (.bool (zGj xs))/\Ext w w':=by
 have HX:=zh (zOk 112 #[] (fun x => !zKa x) v xs w h (zCo Tryz.func112 (by kernel_rfl) (by kernel_rfl)) (fun w1 v x _ _ hv=>zGm v x w1 hv))
 obtain⟨a,c,rfl,hl⟩:=h.form;clear h;by_cases hle:xs.length<=12
 ·have hm:=zh ((zCg zKa xs).trans (zAt (decide_eq_true hle)).symm:_=zGj xs);go_enter Tryz.func62,Tryz.ntmps62;go_wp2_with (go_at_call 111;refine HX.out.mono ?_;rintro e w' ⟨rfl,he⟩)
  go_ret;exact⟨zA2 hm.out,he⟩
 ·have hm:=zh (zB4 (decide_eq_false hle):zGj xs=_);go_enter Tryz.func62,Tryz.ntmps62;go_wp2;go_ret;exact⟨zA2 hm.out.symm,.refl _⟩
theorem zD3(v:Value)(xs:List Window)(w:World)(h:Rs w v xs) :
  Calls Tryz.prog 123 #[v] w fun e w'=>e = .returned (.bool (zGj xs))/\Ext w w':=by
 obtain⟨a,c,rfl,hl⟩:=h.form;have H:=zh h;clear h;go_enter Tryz.func123,Tryz.ntmps123;go_wp2;go_loopw [3] (fun i wr => ∃ k:Nat,k<=xs.length/\i = .int .i64 k/\(xs.take k).all zKa=true/\Ext w wr) (fun i _=>xs.length - (intOf i).toNat)
 case atStart=>exact⟨0,Nat.zero_le _,rfl,rfl,.refl _⟩
 case round =>
  obtain⟨k,hk,rfl,he,hq⟩:=hrel;have HE:=zh he;have HQ:=zh hq;clear he hq;by_cases hlt:k < xs.length
  ·obtain⟨b,o,x,rfl,hb,hx,hc0,hc1,hc2,hr0,hr1,hv⟩:=(H.out.ext HQ.out).atWindow k hlt;clear H;by_cases hw:zKa x=true
   ·have HN:=zh (zBo zKa hx.out);go_wp2_with (go_at_call 150;refine(zEk _ x _ hv.out).mono ?_;rintro e w' ⟨rfl,he⟩;have HE2:=zh (HQ.out.tr he);clear he)
    go_roundw
    case rel=>exact⟨k+1,by omega,by go_num,by rw[HN.out,HE.out,hw];rfl,HE2.out⟩
    case measure=>simp[intOf];omega
   ·rw[Bool.not_eq_true] at hw;have HN:Hid (zGj xs=false):=zh (by unfold zGj;rw[zBf zKa hx.out hw,Bool.and_false])
    go_wp2_with (go_at_call 150;refine(zEk _ x _ hv.out).mono ?_;rintro e w' ⟨rfl,he⟩;have HE2:=zh (HQ.out.tr he);clear he)
    go_ret;exact⟨zA2 HN.out.symm,HE2.out⟩
  ·have HN:Hid (zGj xs=decide (xs.length<=12)):=zh (by
    unfold zGj;rw[<- zC4 zKa xs k (by omega),HE.out,Bool.and_true])
   clear H;by_cases hle:xs.length<=12
   ·go_wp2;go_ret;exact⟨zA2 (by rw[HN.out,decide_eq_true hle];exact decide_eq_true (by omega)),HQ.out⟩
   ·go_wp2;go_ret;exact⟨zA2 (by rw[HN.out,decide_eq_false hle];exact decide_eq_false (by omega)),HQ.out⟩
def zDl(p:Part):Bool:=zGj p.Windows && zA8 p.Cells 1 8
def zF8(xs:List Part):Bool:=decide (xs.length<=5) && xs.all zDl
theorem zHo(v:Value)(x:Part)(w:World)(h:Rv w v x) :
  Calls Tryz.prog 144 #[v] w fun e w'=>e = .returned (.bool (!zDl x))/\Ext w w':=by
 obtain⟨a0,c0,rfl,hr1,hs,hl⟩:=h.openPart;clear h;have e0:=zh ((zr w).alloc (.cells #[.slice a0 x.Windows.length c0,.int .i64 x.Cells] 75));by_cases hw:zGj x.Windows=true
 ·have hm:=zh (congrArg (! ·) (zAt hw:zDl x=_))
  go_enter Tryz.func144,Tryz.ntmps144;go_wp2_with fail
  refine(zCz _ _ _ (hs.out.ext e0.out)).mono ?_;rintro e w1 ⟨rfl,he⟩;obtain⟨hcb,hfb⟩:=zD9 he;go_wp2_with (go_at_call 35;refine(zAj _ _ _ _).mono ?_;rintro e w' ⟨rfl,rfl⟩)
  go_ret;exact⟨zA2 hm.out.symm,e0.out.tr he⟩
 ·rw[Bool.not_eq_true] at hw;have hm:=zh (congrArg (! ·) (zB4 hw:zDl x=_))
  go_enter Tryz.func144,Tryz.ntmps144;go_wp2_with fail
  refine(zCz _ _ _ (hs.out.ext e0.out)).mono ?_;rintro e w1 ⟨rfl,he⟩;have HE:=zh he;clear he;go_wp2;go_ret;exact⟨zA2 hm.out.symm,e0.out.tr HE.out⟩
theorem zDs(v:Value)(xs:List Part)(w:World)(h:Rs w v xs) :
  Calls Tryz.prog 114 #[v] w fun e w'=>e = .returned (.bool (zF8 xs))/\Ext w w':=by
 have HX:=zh (has_Part 144 #[] (fun x => !zDl x) v xs w h (zCo Tryz.func144 (by kernel_rfl) (by kernel_rfl)) (fun w1 v x _ _ hv=>zHo v x w1 hv))
 obtain⟨a,c,rfl,hl⟩:=h.form;clear h;by_cases hle:xs.length<=5
 ·have hm:=zh ((zCg zDl xs).trans (zAt (decide_eq_true hle)).symm:_=zF8 xs);go_enter Tryz.func114,Tryz.ntmps114;go_wp2_with (go_at_call 143;refine HX.out.mono ?_;rintro e w' ⟨rfl,he⟩)
  go_ret;exact⟨zA2 hm.out,he⟩
 ·have hm:=zh (zB4 (decide_eq_false hle):zF8 xs=_);go_enter Tryz.func114,Tryz.ntmps114;go_wp2;go_ret;exact⟨zA2 hm.out.symm,.refl _⟩
theorem zDt(v:Value)(xs:List Part)(w:World)(h:Rs w v xs) :
  Calls Tryz.prog 82 #[v] w fun e w'=>e = .returned (.bool (zF8 xs))/\Ext w w':=by
 obtain⟨a,c,rfl,hl⟩:=h.form;have H:=zh h;clear h;go_enter Tryz.func82,Tryz.ntmps82;go_wp2;go_loopw [3] (fun i wr => ∃ k:Nat,k<=xs.length/\i = .int .i64 k/\(xs.take k).all zDl=true/\Ext w wr) (fun i _=>xs.length - (intOf i).toNat)
 case atStart=>exact⟨0,Nat.zero_le _,rfl,rfl,.refl _⟩
 case round =>
  obtain⟨k,hk,rfl,he,hq⟩:=hrel;have HE:=zh he;have HQ:=zh hq;clear he hq;by_cases hlt:k < xs.length
  ·obtain⟨b,o,x,a0,c0,rfl,hb,hx,hc0,hc1,hr1,hs0,hl0,hv⟩:=(H.out.ext HQ.out).atPart k hlt;clear H;by_cases hw:zGj x.Windows=true
   ·by_cases hi:zA8 x.Cells 1 8=true
    ·have hp:zDl x=true:=by unfold zDl;rw[hw,hi];rfl
     have HN:=zh ((zBo zDl hx.out).trans (by rw[HE.out,hp];rfl:_=true))
     clear hp;go_wp2_with fail
     refine(zD3 _ _ _ hs0.out).mono ?_;rintro e w1 ⟨rfl,he⟩;obtain⟨hcb,hfb⟩:=zD9 he;go_wp2_with (go_at_call 27;refine(zAe _ _ _ _).mono ?_;rintro e w' ⟨rfl,rfl⟩)
     go_roundw
     case rel=>exact⟨k+1,by omega,by go_num,HN.out,HQ.out.tr he⟩
     case measure=>simp[intOf];omega
    ·rw[Bool.not_eq_true] at hi;have HN:Hid (zF8 xs=false):=zh (by unfold zF8;rw[zBf zDl hx.out (by unfold zDl;rw[hi,Bool.and_false]),Bool.and_false])
     go_wp2_with fail
     refine(zD3 _ _ _ hs0.out).mono ?_;rintro e w1 ⟨rfl,he⟩;obtain⟨hcb,hfb⟩:=zD9 he;go_wp2_with (go_at_call 27;refine(zAe _ _ _ _).mono ?_;rintro e w' ⟨rfl,rfl⟩)
     go_ret;exact⟨zA2 HN.out.symm,HQ.out.tr he⟩
   ·rw[Bool.not_eq_true] at hw;have HN:Hid (zF8 xs=false):=zh (by unfold zF8;rw[zBf zDl hx.out (by unfold zDl;rw[hw,Bool.false_and]),Bool.and_false])
    go_wp2_with fail
    refine(zD3 _ _ _ hs0.out).mono ?_;rintro e w1 ⟨rfl,he⟩;have HE2:=zh (HQ.out.tr he);clear he;go_wp2;go_ret;exact⟨zA2 HN.out.symm,HE2.out⟩
  ·have HN:Hid (zF8 xs=decide (xs.length<=5)):=zh (by
    unfold zF8;rw[<- zC4 zDl xs k (by omega),HE.out,Bool.and_true])
   clear H;by_cases hle:xs.length<=5
   ·go_wp2;go_ret;exact⟨zA2 (by rw[HN.out,decide_eq_true hle];exact decide_eq_true (by omega)),HQ.out⟩
   ·go_wp2;go_ret;exact⟨zA2 (by rw[HN.out,decide_eq_false hle];exact decide_eq_false (by omega)),HQ.out⟩
def zDv(n:Int)(x:Slot):Bool:=zA8 x.Ticks 1 20 && zA8 x.Who (-1) (n - 1)
def zDo(xs:List Slot)(n:Int):Bool:=zA8 n 0 5 && (zA8 xs.length 1 12 && xs.all (zDv n))
theorem zHp(v:Value)(x:Slot)(b:Nat)(n:Int)(w:World)(h:Rv w v x)(hb:b < w.heap.size)(hc:w.cell? ⟨b,0,none⟩=some (.int .i64 n))(hn1:0<=n)(hn2:n<=5) :
  Calls Tryz.prog 147 #[v,.pointer (some ⟨b,0,none⟩)] w fun e w'=>e = .returned (.bool (!zDv n x))/\Ext w w':=by
 obtain⟨rfl,hr0,hr1⟩:=h.openSlot;clear h;by_cases hw:zA8 x.Ticks 1 20=true
 ·have hm:=zh (congrArg (! ·) (zAt hw:zDv n x=_))
  go_enter Tryz.func147,Tryz.ntmps147;go_wp2_with (go_at_call 35;refine(zAj _ _ _ _).mono ?_;rintro e w' ⟨rfl,rfl⟩)
  go_ret;exact⟨zA2 hm.out.symm,(zr w).alloc _⟩
 ·rw[Bool.not_eq_true] at hw;have hm:=zh (congrArg (! ·) (zB4 hw:zDv n x=_))
  go_enter Tryz.func147,Tryz.ntmps147;go_wp2_with (go_at_call 35;refine(zAj _ _ _ _).mono ?_;rintro e w' ⟨rfl,rfl⟩)
  go_ret;exact⟨zA2 hm.out.symm,(zr w).alloc _⟩
theorem zJ8{w w1:World}{c:Value}{T:TypeId}(he:Ext (w.alloc (.cells #[c] T)) w1):w.heap.size < w1.heap.size/\w1.cell? ⟨w.heap.size,0,none⟩=some c:=by
 have hs:w.heap.size < (w.alloc (.cells #[c] T)).heap.size:=by simp
 refine⟨zl hs he.sz,?_⟩;rw[(zD9 he).1 _ _ hs];simp
theorem zJs(v:Value)(xs:List Slot)(n:Int)(w:World)(h:Rs w v xs) :
  Calls Tryz.prog 116 #[v,.int .i64 n] w fun e w'=>e = .returned (.bool (zDo xs n))/\Ext w w':=by
 have e0:=zh ((zr w).alloc (.cells #[.int .i64 n] 3));have H:=zh h;obtain⟨a,c,rfl,hl⟩:=h.form;clear h;by_cases h1:zA8 n 0 5=true
 ·obtain⟨hn1,hn2⟩:=zA6.1 h1;have HX:=zh (has_Slot 147 #[.pointer (some ⟨w.heap.size,0,none⟩)] (fun x => !zDv n x) _ xs _ (H.out.ext e0.out) (zCo Tryz.func147 (by kernel_rfl) (by kernel_rfl))
   (fun w1 v x he _ hv=>zHp v x _ n w1 hv (zJ8 he).1 (zJ8 he).2 hn1 hn2))
  by_cases h2:zA8 xs.length 1 12=true
  ·have hm:=zh ((zCg (zDv n) xs).trans ((zAt h1).trans (zAt h2)).symm:_=zDo xs n);go_enter Tryz.func116,Tryz.ntmps116;go_wp2_with (first|(go_at_call 35;refine(zAj _ _ _ _).mono ?_;rintro e w' ⟨rfl,rfl⟩)|(go_at_call 146;refine HX.out.mono ?_;rintro e w' ⟨rfl,he⟩))
   go_ret;exact⟨zA2 hm.out,e0.out.tr he⟩
  ·rw[Bool.not_eq_true] at h2;have hm:=zh (((zAt h1).trans (zB4 h2)).symm:_=zDo xs n);go_enter Tryz.func116,Tryz.ntmps116;go_wp2_with (go_at_call 35;refine(zAj _ _ _ _).mono ?_;rintro e w' ⟨rfl,rfl⟩)
   go_ret;exact⟨zA2 hm.out,e0.out⟩
 ·rw[Bool.not_eq_true] at h1;have hm:=zh ((zB4 h1).symm:_=zDo xs n);go_enter Tryz.func116,Tryz.ntmps116;go_wp2_with (go_at_call 35;refine(zAj _ _ _ _).mono ?_;rintro e w' ⟨rfl,rfl⟩)
  go_ret;exact⟨zA2 hm.out,e0.out⟩
theorem zCt(v:Value)(xs:List Slot)(n:Int)(w:World)(h:Rs w v xs) :
    Calls Tryz.prog 83 #[v,.int .i64 n] w fun e w'=>e = .returned (.bool (zDo xs n))/\Ext w w':=by
  obtain⟨a,c,rfl,hl⟩:=h.form;have H:=zh h;clear h;by_cases h1:zA8 n 0 5=true
  · obtain⟨hn1,hn2⟩:=zA6.1 h1;go_enter Tryz.func83,Tryz.ntmps83;go_wp2;go_loopw [5] (fun i wr => ∃ k:Nat,k<=xs.length/\i = .int .i64 k/\(xs.take k).all (zDv n)=true/\Ext w wr) (fun i _=>xs.length - (intOf i).toNat)
    case atStart=>exact⟨0,Nat.zero_le _,rfl,rfl,.refl _⟩
    case round =>
      obtain⟨k,hk,rfl,he,hq⟩:=hrel;have HE:=zh he;have HQ:=zh hq;clear he hq;by_cases hlt:k < xs.length
      · obtain⟨b,o,x,rfl,hb,hx,hc0,hc1,hr0,hr1,hv⟩:=(H.out.ext HQ.out).atSlot k hlt;clear H;by_cases hw:zA8 x.Ticks 1 20=true
        · by_cases hi:zA8 x.Who (-1) (n - 1)=true
          · have hp:zDv n x=true:=by unfold zDv;rw[hw,hi];rfl
            have HN:=zh ((zBo (zDv n) hx.out).trans (by rw[HE.out,hp];rfl:_=true))
            clear hp;go_wp2_with (go_at_call 27;refine(zAe _ _ _ _).mono ?_;rintro e w' ⟨rfl,rfl⟩)
            go_roundw
            case rel=>exact⟨k+1,by omega,by go_num,HN.out,HQ.out⟩
            case measure=>simp[intOf];omega
          · rw[Bool.not_eq_true] at hi;have HN:Hid (zDo xs n=false):=zh (by unfold zDo;rw[zBf (zDv n) hx.out (by unfold zDv;rw[hi,Bool.and_false]),Bool.and_false,Bool.and_false])
            go_wp2_with (go_at_call 27;refine(zAe _ _ _ _).mono ?_;rintro e w' ⟨rfl,rfl⟩)
            go_ret;exact⟨zA2 HN.out.symm,HQ.out⟩
        · rw[Bool.not_eq_true] at hw;have HN:Hid (zDo xs n=false):=zh (by unfold zDo;rw[zBf (zDv n) hx.out (by unfold zDv;rw[hw,Bool.false_and]),Bool.and_false,Bool.and_false])
          go_wp2_with (go_at_call 27;refine(zAe _ _ _ _).mono ?_;rintro e w' ⟨rfl,rfl⟩)
          go_ret;exact⟨zA2 HN.out.symm,HQ.out⟩
      · have HN:Hid (zDo xs n=zA8 xs.length 1 12):=zh (by
          unfold zDo;rw[<- zC4 (zDv n) xs k (by omega),HE.out,Bool.and_true,h1,Bool.true_and])
        clear H;cases h2:zA8 xs.length 1 12
        all_goals
          go_wp2_with (go_at_call 27;refine(zAe _ _ _ _).mono ?_;rintro e w' ⟨rfl,rfl⟩)
          go_ret;exact⟨zA2 (by rw[HN.out,h2]),HQ.out⟩
  · rw[Bool.not_eq_true] at h1;have HN:Hid (zDo xs n=false):=zh (zB4 h1);go_enter Tryz.func83,Tryz.ntmps83;go_wp2;go_loopw [5] (fun i wr => ∃ k:Nat,k<=xs.length/\i = .int .i64 k/\Ext w wr) (fun i _=>xs.length - (intOf i).toNat)
    case atStart=>exact⟨0,Nat.zero_le _,rfl,.refl _⟩
    case round =>
      obtain⟨k,hk,rfl,hq⟩:=hrel;have HQ:=zh hq;clear hq;by_cases hlt:k < xs.length
      · obtain⟨b,o,x,rfl,hb,hx,hc0,hc1,hr0,hr1,hv⟩:=(H.out.ext HQ.out).atSlot k hlt;clear H;go_wp2_with (go_at_call 27;refine(zAe _ _ _ _).mono ?_;rintro e w' ⟨rfl,rfl⟩)
        all_goals first
          | (go_ret;exact⟨zA2 HN.out.symm,HQ.out⟩)
          | (go_roundw
             case rel=>exact⟨k+1,by omega,by go_num,HQ.out⟩
             case measure=>simp[intOf];omega)
      · clear H;go_wp2_with (go_at_call 27;refine(zAe _ _ _ _).mono ?_;rintro e w' ⟨rfl,rfl⟩)
        all_goals go_ret
        all_goals exact⟨zA2 HN.out.symm,HQ.out⟩
theorem not_f{b:Bool}(h:b=false):(!b)=true:=by rw[h];rfl
theorem not_t{b:Bool}(h:b=true):(!b)=false:=by rw[h];rfl
noncomputable def zIk(n:Int)(c:Channel):Bool:=zC2 c.Kind c.Size && (zA8 c.From 0 (n - 1) && (zA8 c.To 0 (n - 1) && !(c.From == c.To)))
noncomputable def zCk(xs:List Channel)(n:Int):Bool:=zA8 n 0 5 && (decide (xs.length<=8) && xs.all (zIk n))
theorem zGg{k s:Int}:zC2 k s=true ↔ (k=1/\s=1\/(k=2\/k=3)/\1<=s/\s<=4):=Bo.iff
theorem zJ2{n:Int}{c:Channel}:zIk n c=true ↔ (c.Kind=1/\c.Size=1\/(c.Kind=2\/c.Kind=3)/\1<=c.Size/\c.Size<=4)/\(0<=c.From/\c.From<=n - 1)/\(0<=c.To/\c.To<=n - 1)/\c.From≠c.To:=by
 unfold zIk;simp only[Bool.and_eq_true,zGg,zA6,Bool.not_eq_true',beq_eq_false_iff_ne]
theorem zG1(v:Value)(x:Channel)(b:Nat)(n:Int)(w:World)(h:Rv w v x)(hb:b < w.heap.size)(hc:w.cell? ⟨b,0,none⟩=some (.int .i64 n))(hn1:0<=n)(hn2:n<=5) :
  Calls Tryz.prog 145 #[v,.pointer (some ⟨b,0,none⟩)] w fun e w'=>e = .returned (.bool (!zIk n x))/\Ext w w':=by
 obtain⟨rfl,hr0,hr1,hr2,hr3⟩:=h.openChannel;clear h;cases h1:zC2 x.Kind x.Size
 ·have hm:=zh (congrArg (! ·) (zB4 h1:zIk n x=_))
  go_enter Tryz.func145,Tryz.ntmps145;go_wp2_with (first|(go_at_call 71;refine(zD0 _ _ _).mono ?_;rintro e w' ⟨rfl,rfl⟩)|(go_at_call 35;refine(zAj _ _ _ _).mono ?_;rintro e w' ⟨rfl,rfl⟩))
  go_ret;exact⟨zA2 hm.out.symm,(zr w).alloc _⟩
 ·cases h2:zA8 x.From 0 (n - 1)
  ·have hm:=zh (congrArg (! ·) ((zAt h1).trans (zB4 h2):zIk n x=_))
   go_enter Tryz.func145,Tryz.ntmps145;go_wp2_with (first|(go_at_call 71;refine(zD0 _ _ _).mono ?_;rintro e w' ⟨rfl,rfl⟩)|(go_at_call 35;refine(zAj _ _ _ _).mono ?_;rintro e w' ⟨rfl,rfl⟩))
   go_ret;exact⟨zA2 hm.out.symm,(zr w).alloc _⟩
  ·cases h3:zA8 x.To 0 (n - 1)
   ·have hm:=zh (congrArg (! ·) ((zAt h1).trans ((zAt h2).trans (zB4 h3)):zIk n x=_))
    go_enter Tryz.func145,Tryz.ntmps145;go_wp2_with (first|(go_at_call 71;refine(zD0 _ _ _).mono ?_;rintro e w' ⟨rfl,rfl⟩)|(go_at_call 35;refine(zAj _ _ _ _).mono ?_;rintro e w' ⟨rfl,rfl⟩))
    go_ret;exact⟨zA2 hm.out.symm,(zr w).alloc _⟩
   ·have hm:Hid ((!zIk n x)=(x.From == x.To)):=zh (by unfold zIk;rw[h1,h2,h3];simp)
    go_enter Tryz.func145,Tryz.ntmps145;go_wp2_with (first|(go_at_call 71;refine(zD0 _ _ _).mono ?_;rintro e w' ⟨rfl,rfl⟩)|(go_at_call 35;refine(zAj _ _ _ _).mono ?_;rintro e w' ⟨rfl,rfl⟩))
    all_goals go_ret
    all_goals exact⟨zA2 hm.out.symm,(zr w).alloc _⟩
theorem zE1(v:Value)(xs:List Channel)(n:Int)(w:World)(h:Rs w v xs) :
  Calls Tryz.prog 115 #[v,.int .i64 n] w fun e w'=>e = .returned (.bool (zCk xs n))/\Ext w w':=by
 have e0:=zh ((zr w).alloc (.cells #[.int .i64 n] 3));have H:=zh h;obtain⟨a,c,rfl,hl⟩:=h.form;clear h;cases h1:zA8 n 0 5
 ·have hm:=zh ((zB4 h1).symm:_=zCk xs n);go_enter Tryz.func115,Tryz.ntmps115;go_wp2_with (go_at_call 35;refine(zAj _ _ _ _).mono ?_;rintro e w' ⟨rfl,rfl⟩)
  go_ret;exact⟨zA2 hm.out,e0.out⟩
 ·obtain⟨hn1,hn2⟩:=zA6.1 h1;have HX:=zh (zJq 145 #[.pointer (some ⟨w.heap.size,0,none⟩)] (fun x => !zIk n x) _ xs _ (H.out.ext e0.out) (zCo Tryz.func145 (by kernel_rfl) (by kernel_rfl))
   (fun w1 v x he _ hv=>zG1 v x _ n w1 hv (zJ8 he).1 (zJ8 he).2 hn1 hn2))
  by_cases h2:xs.length<=8
  ·have hm:=zh ((zCg (zIk n) xs).trans ((zAt h1).trans (zAt (decide_eq_true h2))).symm:_=zCk xs n);go_enter Tryz.func115,Tryz.ntmps115;go_wp2_with (first|(go_at_call 35;refine(zAj _ _ _ _).mono ?_;rintro e w' ⟨rfl,rfl⟩)|(go_at_call 109;refine HX.out.mono ?_;rintro e w' ⟨rfl,he⟩))
   go_ret;exact⟨zA2 hm.out,e0.out.tr he⟩
  ·have hm:=zh (((zAt h1).trans (zB4 (decide_eq_false h2))).symm:_=zCk xs n);go_enter Tryz.func115,Tryz.ntmps115;go_wp2_with (go_at_call 35;refine(zAj _ _ _ _).mono ?_;rintro e w' ⟨rfl,rfl⟩)
   go_ret;exact⟨zA2 hm.out,e0.out⟩
def M.cvs(n:Int)(c:Channel):Bool:=zA8 c.Kind 1 3 && (zA8 c.From 0 (n - 1) && (zA8 c.To 0 (n - 1) && (!(c.From == c.To) && (zA8 c.Size 1 4 && !(c.Kind == 1 && !(c.Size == 1))))))
theorem zNg(n:Int)(c:Channel):M.cvs n c=zIk n c:=by
 rw[Bool.eq_iff_iff,zJ2];unfold M.cvs;simp only[Bool.and_eq_true,zA6,Bool.not_eq_true',beq_eq_false_iff_ne,Bool.and_eq_false_iff,Bool.not_eq_false',beq_iff_eq];omega
theorem zAv(v:Value)(xs:List Channel)(n:Int)(w:World)(h:Rs w v xs) :
    Calls Tryz.prog 60 #[v,.int .i64 n] w fun e w'=>e = .returned (.bool (zCk xs n))/\Ext w w':=by
  obtain⟨a,c,rfl,hl⟩:=h.form;have H:=zh h;clear h;cases h1:zA8 n 0 5
  · have HN:Hid (zCk xs n=false):=zh (zB4 h1);go_enter Tryz.func60,Tryz.ntmps60;go_wp2;go_loopw [5,6] (fun i _ wr => ∃ k:Nat,k<=xs.length/\i = .int .i64 k/\Ext w wr) (fun i _ _=>xs.length - (intOf i).toNat)
    case atStart=>exact⟨0,Nat.zero_le _,rfl,.refl _⟩
    case round =>
      obtain⟨k,hk,rfl,hq⟩:=hrel;have HQ:=zh hq;clear hq;by_cases hlt:k < xs.length
      · obtain⟨b,o,x,rfl,hb,hx,hc0,hc1,hc2,hc3,hr0,hr1,hr2,hr3,hv⟩:=(H.out.ext HQ.out).atChannel k hlt;clear H;go_wp2_with (go_at_call 27;refine(zAe _ _ _ _).mono ?_;rintro e w' ⟨rfl,rfl⟩)
        all_goals first
          | (go_ret;exact⟨zA2 HN.out.symm,(HQ.out.alloc _).set (Nat.le_trans HQ.out.sz (by simp)) _⟩)
          | (go_ret;exact⟨zA2 HN.out.symm,HQ.out.alloc _⟩)
          | (go_roundw
             case rel=>exact⟨k+1,by omega,by go_num,HQ.out.alloc _⟩
             case measure=>simp[intOf];omega)
      · clear H;go_wp2_with (go_at_call 27;refine(zAe _ _ _ _).mono ?_;rintro e w' ⟨rfl,rfl⟩)
        all_goals go_ret
        all_goals exact⟨zA2 HN.out.symm,HQ.out⟩
  · obtain⟨hn1,hn2⟩:=zA6.1 h1;go_enter Tryz.func60,Tryz.ntmps60;go_wp2;go_loopw [5,6] (fun i _ wr => ∃ k:Nat,k<=xs.length/\i = .int .i64 k/\(xs.take k).all (zIk n)=true/\Ext w wr) (fun i _ _=>xs.length - (intOf i).toNat)
    case atStart=>exact⟨0,Nat.zero_le _,rfl,rfl,.refl _⟩
    case round =>
      obtain⟨k,hk,rfl,he,hq⟩:=hrel;have HE:=zh he;have HQ:=zh hq;clear he hq;by_cases hlt:k < xs.length
      · obtain⟨b,o,x,rfl,hb,hx,hc0,hc1,hc2,hc3,hr0,hr1,hr2,hr3,hv⟩:=(H.out.ext HQ.out).atChannel k hlt;clear H;have key:zIk n x=false->zCk xs n=false:=fun hp=>by unfold zCk;rw[zBf (zIk n) hx.out hp,Bool.and_false,Bool.and_false]
        rw[<- zNg] at key;have hst:=zh ((zBo (zIk n) hx.out).trans (by rw[HE.out,<- zNg,Bool.true_and]))
        have KEY:=zh key;clear key;cases g1:zA8 x.Kind 1 3
        · have HN:=zh (KEY.out (zB4 g1));go_wp2_with (go_at_call 27;refine(zAe _ _ _ _).mono ?_;rintro e w' ⟨rfl,rfl⟩)
          go_ret;exact⟨zA2 HN.out.symm,HQ.out.alloc _⟩
        · cases g2:zA8 x.From 0 (n - 1)
          · have HN:=zh (KEY.out ((zAt g1).trans (zB4 g2)));go_wp2_with (go_at_call 27;refine(zAe _ _ _ _).mono ?_;rintro e w' ⟨rfl,rfl⟩)
            go_ret;exact⟨zA2 HN.out.symm,HQ.out.alloc _⟩
          · cases g3:zA8 x.To 0 (n - 1)
            · have HN:=zh (KEY.out ((zAt g1).trans ((zAt g2).trans (zB4 g3))));go_wp2_with (go_at_call 27;refine(zAe _ _ _ _).mono ?_;rintro e w' ⟨rfl,rfl⟩)
              go_ret;exact⟨zA2 HN.out.symm,HQ.out.alloc _⟩
            · cases g4:(x.From == x.To)
              · cases g5:zA8 x.Size 1 4
                · have HN:=zh (KEY.out ((zAt g1).trans ((zAt g2).trans ((zAt g3).trans ((zAt (not_f g4)).trans (zB4 g5))))));go_wp2_with (go_at_call 27;refine(zAe _ _ _ _).mono ?_;rintro e w' ⟨rfl,rfl⟩)
                  go_ret;exact⟨zA2 HN.out.symm,HQ.out.alloc _⟩
                · have hcvs:M.cvs n x = !(x.Kind == 1 && !(x.Size == 1)):=(zAt g1).trans ((zAt g2).trans ((zAt g3).trans ((zAt (not_f g4)).trans (zAt g5))));cases g6:(x.Kind == 1)
                  · have HN:=zh ((hst.out.trans (hcvs.trans (by simp[g6]))):_=true)
                    clear hcvs;go_wp2_with (go_at_call 27;refine(zAe _ _ _ _).mono ?_;rintro e w' ⟨rfl,rfl⟩)
                    go_roundw
                    case rel=>exact⟨k+1,by omega,by go_num,HN.out,HQ.out.alloc _⟩
                    case measure=>simp[intOf];omega
                  · cases g7:(x.Size == 1)
                    · have HN:=zh (KEY.out (hcvs.trans (by simp[g6,g7])))
                      clear hcvs;go_wp2_with (go_at_call 27;refine(zAe _ _ _ _).mono ?_;rintro e w' ⟨rfl,rfl⟩)
                      go_ret;exact⟨zA2 HN.out.symm,HQ.out.alloc _⟩
                    · have HN:=zh ((hst.out.trans (hcvs.trans (by simp[g6,g7]))):_=true)
                      clear hcvs;go_wp2_with (go_at_call 27;refine(zAe _ _ _ _).mono ?_;rintro e w' ⟨rfl,rfl⟩)
                      go_roundw
                      case rel=>exact⟨k+1,by omega,by go_num,HN.out,HQ.out.alloc _⟩
                      case measure=>simp[intOf];omega
              · have HN:=zh (KEY.out ((zAt g1).trans ((zAt g2).trans ((zAt g3).trans (zB4 (not_t g4))))));go_wp2_with (go_at_call 27;refine(zAe _ _ _ _).mono ?_;rintro e w' ⟨rfl,rfl⟩)
                go_ret;exact⟨zA2 HN.out.symm,HQ.out.alloc _⟩
      · have HN:Hid (zCk xs n=decide (xs.length<=8)):=zh (by
          unfold zCk;rw[<- zC4 (zIk n) xs k (by omega),HE.out,Bool.and_true,h1,Bool.true_and])
        clear H;by_cases hle:xs.length<=8
        · go_wp2_with (go_at_call 27;refine(zAe _ _ _ _).mono ?_;rintro e w' ⟨rfl,rfl⟩)
          go_ret;exact⟨zA2 (HN.out.trans (decide_eq_true hle)).symm,HQ.out⟩
        · go_wp2_with (go_at_call 27;refine(zAe _ _ _ _).mono ?_;rintro e w' ⟨rfl,rfl⟩)
          go_ret;exact⟨zA2 (HN.out.trans (decide_eq_false hle)).symm,HQ.out⟩
noncomputable def zAr(s:Setup):Bool:=zF8 s.Parts && (zCk s.Channels s.Parts.length && zDo s.Slots s.Parts.length)
theorem zC5(v:Value)(s:Setup)(w:World)(h:Rv w v s) :
  Calls Tryz.prog 66 #[v] w fun e w'=>e = .returned (.bool (zAr s))/\Ext w w':=by
 obtain⟨a0,c0,a1,c1,a2,c2,rfl,h0,hl0,h1,hl1,h2,hl2⟩:=h.openSetup;clear h;have e0:=zh ((zr w).alloc (.cells #[.slice a0 s.Parts.length c0,.slice a1 s.Channels.length c1,.slice a2 s.Slots.length c2] 27));cases g0:zF8 s.Parts
 ·have hm:=zh ((zB4 g0).symm:_=zAr s);go_enter Tryz.func66,Tryz.ntmps66;go_wp2_with fail
  refine(zDs _ _ _ (h0.out.ext e0.out)).mono ?_;rintro e w1 ⟨rfl,he1⟩;have E1:=zh (e0.out.tr he1);clear he1;go_wp2;go_ret;exact⟨zA2 hm.out,E1.out⟩
 ·cases g1:zCk s.Channels s.Parts.length
  ·have hm:=zh (((zAt g0).trans (zB4 g1)).symm:_=zAr s);go_enter Tryz.func66,Tryz.ntmps66;go_wp2_with fail
   refine(zDs _ _ _ (h0.out.ext e0.out)).mono ?_;rintro e w1 ⟨rfl,he1⟩;have E1:=zh (e0.out.tr he1);obtain⟨hcb,hfb⟩:=zD9 he1;go_wp2_with fail
   refine(zE1 _ _ _ _ (h1.out.ext E1.out)).mono ?_;rintro e w2 ⟨rfl,he2⟩;have E2:=zh (E1.out.tr he2);clear he1 he2 hcb hfb;go_wp2;go_ret;exact⟨zA2 hm.out,E2.out⟩
  ·have hm:=zh (((zAt g0).trans (zAt g1)).symm:_=zAr s);go_enter Tryz.func66,Tryz.ntmps66;go_wp2_with fail
   refine(zDs _ _ _ (h0.out.ext e0.out)).mono ?_;rintro e w1 ⟨rfl,he1⟩;have E1:=zh (e0.out.tr he1);obtain⟨hcb,hfb⟩:=zD9 he1;go_wp2_with fail
   refine(zE1 _ _ _ _ (h1.out.ext E1.out)).mono ?_;rintro e w2 ⟨rfl,he2⟩;have E2:=zh (E1.out.tr he2);obtain⟨hcb2,hfb2⟩:=zD9 (he1.tr he2);clear he1 he2 hcb hfb;go_wp2_with fail
   refine(zJs _ _ _ _ (h2.out.ext E2.out)).mono ?_;rintro e w3 ⟨rfl,he3⟩;have E3:=zh (E2.out.tr he3);clear he3;go_wp2;go_ret;exact⟨zA2 hm.out,E3.out⟩
theorem zAx(v:Value)(s:Setup)(w:World)(h:Rv w v s) :
  Calls Tryz.prog 43 #[v] w fun e w'=>e = .returned (.bool (zAr s))/\Ext w w':=by
 obtain⟨a0,c0,a1,c1,a2,c2,rfl,h0,hl0,h1,hl1,h2,hl2⟩:=h.openSetup;clear h;have e0:=zh ((zr w).alloc (.cells #[.slice a0 s.Parts.length c0,.slice a1 s.Channels.length c1,.slice a2 s.Slots.length c2] 27));cases g0:zF8 s.Parts
 ·have hm:=zh ((zB4 g0).symm:_=zAr s);go_enter Tryz.func43,Tryz.ntmps43;go_wp2_with fail
  refine(zDt _ _ _ (h0.out.ext e0.out)).mono ?_;rintro e w1 ⟨rfl,he1⟩;have E1:=zh (e0.out.tr he1);clear he1;go_wp2;go_ret;exact⟨zA2 hm.out,E1.out⟩
 ·cases g1:zCk s.Channels s.Parts.length
  ·have hm:=zh (((zAt g0).trans (zB4 g1)).symm:_=zAr s);go_enter Tryz.func43,Tryz.ntmps43;go_wp2_with fail
   refine(zDt _ _ _ (h0.out.ext e0.out)).mono ?_;rintro e w1 ⟨rfl,he1⟩;have E1:=zh (e0.out.tr he1);obtain⟨hcb,hfb⟩:=zD9 he1;go_wp2_with fail
   refine(zAv _ _ _ _ (h1.out.ext E1.out)).mono ?_;rintro e w2 ⟨rfl,he2⟩;have E2:=zh (E1.out.tr he2);clear he1 he2 hcb hfb;go_wp2;go_ret;exact⟨zA2 hm.out,E2.out⟩
  ·have hm:=zh (((zAt g0).trans (zAt g1)).symm:_=zAr s);go_enter Tryz.func43,Tryz.ntmps43;go_wp2_with fail
   refine(zDt _ _ _ (h0.out.ext e0.out)).mono ?_;rintro e w1 ⟨rfl,he1⟩;have E1:=zh (e0.out.tr he1);obtain⟨hcb,hfb⟩:=zD9 he1;go_wp2_with fail
   refine(zAv _ _ _ _ (h1.out.ext E1.out)).mono ?_;rintro e w2 ⟨rfl,he2⟩;have E2:=zh (E1.out.tr he2);obtain⟨hcb2,hfb2⟩:=zD9 (he1.tr he2);clear he1 he2 hcb hfb;go_wp2_with fail
   refine(zCt _ _ _ _ (h2.out.ext E2.out)).mono ?_;rintro e w3 ⟨rfl,he3⟩;have E3:=zh (E2.out.tr he3);clear he3;go_wp2;go_ret;exact⟨zA2 hm.out,E3.out⟩
end Sk
