/- Contracts of functions of the given program. -/
import Derived.Test.YtbekofpkcahbkaaGreatApp
import Derived.Test.YtbekofpkcahbkaaGreatFind
namespace Sk
open Go Go.Proofs Go.RowKit
set_option maxHeartbeats 400000
set_option maxRecDepth 100000
set_option linter.unusedVariables false
set_option linter.unusedSimpArgs false
theorem zC5{α:Type}(f : α -> Bool)(xs:List α):(!xs.any fun x => !f x)=xs.all f:=by
 induction xs with
 | nil=>rfl
 | cons x xs ih=>simp only[List.any_cons,List.all_cons,Bool.not_or,Bool.not_not,ih]
theorem zAm{a b:Bool}(h:a=true):(a && b)=b:=by simp[h]
theorem zAt{a b:Bool}(h:a=false):(a && b)=false:=by simp[h]
def zIy(x:Window):Bool:=zA8 x.Base 0 4095 && zA8 x.Size 1 (4096 - x.Base)
theorem zGr(v:Value)(x:Window)(w:World)(h:Rv w v x) :
  Calls Tryz.prog 95 #[v] w fun e w'=>e = .returned (.bool (zIy x))/\Ext w w':=by
 obtain⟨rfl,h1,h2⟩:=h.openWindow;by_cases hb:zA8 x.Base 0 4095=true
 ·have hm:=zh (zAm hb:zIy x=_);have hb2:=zA5.1 hb;obtain⟨hb3,hb4⟩:=hb2;go_enter Tryz.func95,Tryz.ntmps95;go_wp2_with (go_at_call 36;refine(zAi _ _ _ _).mono ?_;rintro e w' ⟨rfl,rfl⟩)
  go_ret;exact⟨zA2 hm.out.symm,(zr w).alloc _⟩
 ·rw[Bool.not_eq_true] at hb;have hm:=zh (zAt hb:zIy x=_);go_enter Tryz.func95,Tryz.ntmps95;go_wp2_with (go_at_call 36;refine(zAi _ _ _ _).mono ?_;rintro e w' ⟨rfl,rfl⟩)
  go_ret;exact⟨zA2 hm.out.symm,(zr w).alloc _⟩
theorem zE1(v:Value)(x:Window)(w:World)(h:Rv w v x) :
  Calls Tryz.prog 162 #[v] w fun e w'=>e = .returned (.bool (zIy x))/\Ext w w':=by
 obtain⟨rfl,h1,h2⟩:=h.openWindow;by_cases hb:zA8 x.Base 0 4095=true
 ·have hm:=zh (zAm hb:zIy x=_);obtain⟨hb3,hb4⟩:=zA5.1 hb;go_enter Tryz.func162,Tryz.ntmps162;go_wp2_with (go_at_call 39;refine(zAb _ _ _ _).mono ?_;rintro e w' ⟨rfl,rfl⟩)
  go_ret;exact⟨zA2 hm.out.symm,(zr w).alloc _⟩
 ·rw[Bool.not_eq_true] at hb;have hm:=zh (zAt hb:zIy x=_);go_enter Tryz.func162,Tryz.ntmps162;go_wp2_with (go_at_call 39;refine(zAb _ _ _ _).mono ?_;rintro e w' ⟨rfl,rfl⟩)
  go_ret;exact⟨zA2 hm.out.symm,(zr w).alloc _⟩
theorem zFp(v:Value)(x:Window)(w:World)(h:Rv w v x) :
  Calls Tryz.prog 94 #[v] w fun e w'=>e = .returned (.bool (!zIy x))/\Ext w w':=by
 have H:=zh h;obtain⟨rfl,h1,h2⟩:=h.openWindow;clear h;go_enter Tryz.func94,Tryz.ntmps94;go_wp2_with (go_at_call 95;refine(zGr _ x _ (H.out.ext ((zr w).alloc _))).mono ?_;rintro e w' ⟨rfl,he⟩)
 go_ret;exact⟨rfl,((zr w).alloc _).tr he⟩
def zFm(xs:List Window):Bool:=decide (xs.length<=12) && xs.all zIy
theorem zCl(v:Value)(xs:List Window)(w:World)(h:Rs w v xs) :
  Calls Tryz.prog 58 #[v] w fun e w'=>e = .returned (.bool (zFm xs))/\Ext w w':=by
 have HX:=zh (zN2 94 #[] (fun x => !zIy x) v xs w h (zCs Tryz.func94 (by kernel_rfl) (by kernel_rfl)) (fun w1 v x _ _ hv=>zFp v x w1 hv))
 obtain⟨a,c,rfl,hl⟩:=h.form;clear h;by_cases hle:xs.length<=12
 ·have hm:=zh ((zC5 zIy xs).trans (zAm (decide_eq_true hle)).symm:_=zFm xs);go_enter Tryz.func58,Tryz.ntmps58;go_wp2_with (go_at_call 93;refine HX.out.mono ?_;rintro e w' ⟨rfl,he⟩)
  go_ret;exact⟨zA2 hm.out,he⟩
 ·have hm:=zh (zAt (decide_eq_false hle):zFm xs=_);go_enter Tryz.func58,Tryz.ntmps58;go_wp2;go_ret;exact⟨zA2 hm.out.symm,.refl _⟩
theorem zCq(v:Value)(xs:List Window)(w:World)(h:Rs w v xs) :
  Calls Tryz.prog 137 #[v] w fun e w'=>e = .returned (.bool (zFm xs))/\Ext w w':=by
 obtain⟨a,c,rfl,hl⟩:=h.form;have H:=zh h;clear h;go_enter Tryz.func137,Tryz.ntmps137;go_wp2;go_loopw [3] (fun i wr => ∃ k:Nat,k<=xs.length/\i = .int .i64 k/\(xs.take k).all zIy=true/\Ext w wr) (fun i _=>xs.length - (intOf i).toNat)
 case atStart=>exact⟨0,Nat.zero_le _,rfl,rfl,.refl _⟩
 case round =>
  obtain⟨k,hk,rfl,he,hq⟩:=hrel;have HE:=zh he;have HQ:=zh hq;clear he hq;by_cases hlt:k < xs.length
  ·obtain⟨b,o,x,rfl,hb,hx,hc0,hc1,hc2,hr0,hr1,hv⟩:=(H.out.ext HQ.out).atWindow k hlt;clear H;by_cases hw:zIy x=true
   ·have HN:=zh (zBh zIy hx.out);go_wp2_with (go_at_call 162;refine(zE1 _ x _ hv.out).mono ?_;rintro e w' ⟨rfl,he⟩;have HE2:=zh (HQ.out.tr he);clear he)
    go_roundw
    case rel=>exact⟨k+1,by omega,by go_num,by rw[HN.out,HE.out,hw];rfl,HE2.out⟩
    case measure=>simp[intOf];omega
   ·rw[Bool.not_eq_true] at hw;have HN:Hid (zFm xs=false):=zh (by unfold zFm;rw[zB8 zIy hx.out hw,Bool.and_false])
    go_wp2_with (go_at_call 162;refine(zE1 _ x _ hv.out).mono ?_;rintro e w' ⟨rfl,he⟩;have HE2:=zh (HQ.out.tr he);clear he)
    go_ret;exact⟨zA2 HN.out.symm,HE2.out⟩
  ·have HN:Hid (zFm xs=decide (xs.length<=12)):=zh (by
    unfold zFm;rw[<- zBu zIy xs k (by omega),HE.out,Bool.and_true])
   clear H;by_cases hle:xs.length<=12
   ·go_wp2;go_ret;exact⟨zA2 (by rw[HN.out,decide_eq_true hle];exact decide_eq_true (by omega)),HQ.out⟩
   ·go_wp2;go_ret;exact⟨zA2 (by rw[HN.out,decide_eq_false hle];exact decide_eq_false (by omega)),HQ.out⟩
def zD8(p:Part):Bool:=zFm p.Windows && zA8 p.Cells 1 8
def zEm(xs:List Part):Bool:=decide (xs.length<=5) && xs.all zD8
theorem zGp(v:Value)(x:Part)(w:World)(h:Rv w v x) :
  Calls Tryz.prog 164 #[v] w fun e w'=>e = .returned (.bool (!zD8 x))/\Ext w w':=by
 obtain⟨a0,c0,rfl,hr1,hs,hl⟩:=h.openPart;clear h;have e0:=zh ((zr w).alloc (.cells #[.slice a0 x.Windows.length c0,.int .i64 x.Cells] 93));by_cases hw:zFm x.Windows=true
 ·have hm:=zh (congrArg (! ·) (zAm hw:zD8 x=_))
  go_enter Tryz.func164,Tryz.ntmps164;go_wp2_with fail
  refine(zCl _ _ _ (hs.out.ext e0.out)).mono ?_;rintro e w1 ⟨rfl,he⟩;obtain⟨hcb,hfb⟩:=zFn he;go_wp2_with (go_at_call 36;refine(zAi _ _ _ _).mono ?_;rintro e w' ⟨rfl,rfl⟩)
  go_ret;exact⟨zA2 hm.out.symm,e0.out.tr he⟩
 ·rw[Bool.not_eq_true] at hw;have hm:=zh (congrArg (! ·) (zAt hw:zD8 x=_))
  go_enter Tryz.func164,Tryz.ntmps164;go_wp2_with fail
  refine(zCl _ _ _ (hs.out.ext e0.out)).mono ?_;rintro e w1 ⟨rfl,he⟩;have HE:=zh he;clear he;go_wp2;go_ret;exact⟨zA2 hm.out.symm,e0.out.tr HE.out⟩
theorem zDe(v:Value)(xs:List Part)(w:World)(h:Rs w v xs) :
  Calls Tryz.prog 138 #[v] w fun e w'=>e = .returned (.bool (zEm xs))/\Ext w w':=by
 have HX:=zh (has_Part 164 #[] (fun x => !zD8 x) v xs w h (zCs Tryz.func164 (by kernel_rfl) (by kernel_rfl)) (fun w1 v x _ _ hv=>zGp v x w1 hv))
 obtain⟨a,c,rfl,hl⟩:=h.form;clear h;by_cases hle:xs.length<=5
 ·have hm:=zh ((zC5 zD8 xs).trans (zAm (decide_eq_true hle)).symm:_=zEm xs);go_enter Tryz.func138,Tryz.ntmps138;go_wp2_with (go_at_call 163;refine HX.out.mono ?_;rintro e w' ⟨rfl,he⟩)
  go_ret;exact⟨zA2 hm.out,he⟩
 ·have hm:=zh (zAt (decide_eq_false hle):zEm xs=_);go_enter Tryz.func138,Tryz.ntmps138;go_wp2;go_ret;exact⟨zA2 hm.out.symm,.refl _⟩
theorem zDi(v:Value)(xs:List Part)(w:World)(h:Rs w v xs) :
  Calls Tryz.prog 90 #[v] w fun e w'=>e = .returned (.bool (zEm xs))/\Ext w w':=by
 obtain⟨a,c,rfl,hl⟩:=h.form;have H:=zh h;clear h;go_enter Tryz.func90,Tryz.ntmps90;go_wp2;go_loopw [3] (fun i wr => ∃ k:Nat,k<=xs.length/\i = .int .i64 k/\(xs.take k).all zD8=true/\Ext w wr) (fun i _=>xs.length - (intOf i).toNat)
 case atStart=>exact⟨0,Nat.zero_le _,rfl,rfl,.refl _⟩
 case round =>
  obtain⟨k,hk,rfl,he,hq⟩:=hrel;have HE:=zh he;have HQ:=zh hq;clear he hq;by_cases hlt:k < xs.length
  ·obtain⟨b,o,x,a0,c0,rfl,hb,hx,hc0,hc1,hr1,hs0,hl0,hv⟩:=(H.out.ext HQ.out).atPart k hlt;clear H;by_cases hw:zFm x.Windows=true
   ·by_cases hi:zA8 x.Cells 1 8=true
    ·have hp:zD8 x=true:=by unfold zD8;rw[hw,hi];rfl
     have HN:=zh ((zBh zD8 hx.out).trans (by rw[HE.out,hp];rfl:_=true))
     clear hp;go_wp2_with fail
     refine(zCq _ _ _ hs0.out).mono ?_;rintro e w1 ⟨rfl,he⟩;obtain⟨hcb,hfb⟩:=zFn he;go_wp2_with (go_at_call 39;refine(zAb _ _ _ _).mono ?_;rintro e w' ⟨rfl,rfl⟩)
     go_roundw
     case rel=>exact⟨k+1,by omega,by go_num,HN.out,HQ.out.tr he⟩
     case measure=>simp[intOf];omega
    ·rw[Bool.not_eq_true] at hi;have HN:Hid (zEm xs=false):=zh (by unfold zEm;rw[zB8 zD8 hx.out (by unfold zD8;rw[hi,Bool.and_false]),Bool.and_false])
     go_wp2_with fail
     refine(zCq _ _ _ hs0.out).mono ?_;rintro e w1 ⟨rfl,he⟩;obtain⟨hcb,hfb⟩:=zFn he;go_wp2_with (go_at_call 39;refine(zAb _ _ _ _).mono ?_;rintro e w' ⟨rfl,rfl⟩)
     go_ret;exact⟨zA2 HN.out.symm,HQ.out.tr he⟩
   ·rw[Bool.not_eq_true] at hw;have HN:Hid (zEm xs=false):=zh (by unfold zEm;rw[zB8 zD8 hx.out (by unfold zD8;rw[hw,Bool.false_and]),Bool.and_false])
    go_wp2_with fail
    refine(zCq _ _ _ hs0.out).mono ?_;rintro e w1 ⟨rfl,he⟩;have HE2:=zh (HQ.out.tr he);clear he;go_wp2;go_ret;exact⟨zA2 HN.out.symm,HE2.out⟩
  ·have HN:Hid (zEm xs=decide (xs.length<=5)):=zh (by
    unfold zEm;rw[<- zBu zD8 xs k (by omega),HE.out,Bool.and_true])
   clear H;by_cases hle:xs.length<=5
   ·go_wp2;go_ret;exact⟨zA2 (by rw[HN.out,decide_eq_true hle];exact decide_eq_true (by omega)),HQ.out⟩
   ·go_wp2;go_ret;exact⟨zA2 (by rw[HN.out,decide_eq_false hle];exact decide_eq_false (by omega)),HQ.out⟩
def zDk(n:Int)(x:Slot):Bool:=zA8 x.Ticks 1 20 && zA8 x.Who (-1) (n - 1)
def zCv(xs:List Slot)(n:Int):Bool:=zA8 n 0 5 && (zA8 xs.length 1 12 && xs.all (zDk n))
theorem zGq(v:Value)(x:Slot)(b:Nat)(n:Int)(w:World)(h:Rv w v x)(hb:b < w.heap.size)(hc:w.cell? ⟨b,0,none⟩=some (.int .i64 n))(hn1:0<=n)(hn2:n<=5) :
  Calls Tryz.prog 73 #[v,.pointer (some ⟨b,0,none⟩)] w fun e w'=>e = .returned (.bool (!zDk n x))/\Ext w w':=by
 obtain⟨rfl,hr0,hr1⟩:=h.openSlot;clear h;by_cases hw:zA8 x.Ticks 1 20=true
 ·have hm:=zh (congrArg (! ·) (zAm hw:zDk n x=_))
  go_enter Tryz.func73,Tryz.ntmps73;go_wp2_with (go_at_call 36;refine(zAi _ _ _ _).mono ?_;rintro e w' ⟨rfl,rfl⟩)
  go_ret;exact⟨zA2 hm.out.symm,(zr w).alloc _⟩
 ·rw[Bool.not_eq_true] at hw;have hm:=zh (congrArg (! ·) (zAt hw:zDk n x=_))
  go_enter Tryz.func73,Tryz.ntmps73;go_wp2_with (go_at_call 36;refine(zAi _ _ _ _).mono ?_;rintro e w' ⟨rfl,rfl⟩)
  go_ret;exact⟨zA2 hm.out.symm,(zr w).alloc _⟩
theorem zI0{w w1:World}{c:Value}{T:TypeId}(he:Ext (w.alloc (.cells #[c] T)) w1):w.heap.size < w1.heap.size/\w1.cell? ⟨w.heap.size,0,none⟩=some c:=by
 have hs:w.heap.size < (w.alloc (.cells #[c] T)).heap.size:=by simp
 refine⟨zl hs he.sz,?_⟩;rw[(zFn he).1 _ _ hs];simp
theorem zEq(v:Value)(xs:List Slot)(n:Int)(w:World)(h:Rs w v xs) :
  Calls Tryz.prog 43 #[v,.int .i64 n] w fun e w'=>e = .returned (.bool (zCv xs n))/\Ext w w':=by
 have e0:=zh ((zr w).alloc (.cells #[.int .i64 n] 3));have H:=zh h;obtain⟨a,c,rfl,hl⟩:=h.form;clear h;by_cases h1:zA8 n 0 5=true
 ·obtain⟨hn1,hn2⟩:=zA5.1 h1;have HX:=zh (has_Slot 73 #[.pointer (some ⟨w.heap.size,0,none⟩)] (fun x => !zDk n x) _ xs _ (H.out.ext e0.out) (zCs Tryz.func73 (by kernel_rfl) (by kernel_rfl))
   (fun w1 v x he _ hv=>zGq v x _ n w1 hv (zI0 he).1 (zI0 he).2 hn1 hn2))
  by_cases h2:zA8 xs.length 1 12=true
  ·have hm:=zh ((zC5 (zDk n) xs).trans ((zAm h1).trans (zAm h2)).symm:_=zCv xs n);go_enter Tryz.func43,Tryz.ntmps43;go_wp2_with (first|(go_at_call 36;refine(zAi _ _ _ _).mono ?_;rintro e w' ⟨rfl,rfl⟩)|(go_at_call 72;refine HX.out.mono ?_;rintro e w' ⟨rfl,he⟩))
   go_ret;exact⟨zA2 hm.out,e0.out.tr he⟩
  ·rw[Bool.not_eq_true] at h2;have hm:=zh (((zAm h1).trans (zAt h2)).symm:_=zCv xs n);go_enter Tryz.func43,Tryz.ntmps43;go_wp2_with (go_at_call 36;refine(zAi _ _ _ _).mono ?_;rintro e w' ⟨rfl,rfl⟩)
   go_ret;exact⟨zA2 hm.out,e0.out⟩
 ·rw[Bool.not_eq_true] at h1;have hm:=zh ((zAt h1).symm:_=zCv xs n);go_enter Tryz.func43,Tryz.ntmps43;go_wp2_with (go_at_call 36;refine(zAi _ _ _ _).mono ?_;rintro e w' ⟨rfl,rfl⟩)
  go_ret;exact⟨zA2 hm.out,e0.out⟩
theorem zCg(v:Value)(xs:List Slot)(n:Int)(w:World)(h:Rs w v xs) :
    Calls Tryz.prog 70 #[v,.int .i64 n] w fun e w'=>e = .returned (.bool (zCv xs n))/\Ext w w':=by
  obtain⟨a,c,rfl,hl⟩:=h.form;have H:=zh h;clear h;by_cases h1:zA8 n 0 5=true
  · obtain⟨hn1,hn2⟩:=zA5.1 h1;go_enter Tryz.func70,Tryz.ntmps70;go_wp2;go_loopw [5] (fun i wr => ∃ k:Nat,k<=xs.length/\i = .int .i64 k/\(xs.take k).all (zDk n)=true/\Ext w wr) (fun i _=>xs.length - (intOf i).toNat)
    case atStart=>exact⟨0,Nat.zero_le _,rfl,rfl,.refl _⟩
    case round =>
      obtain⟨k,hk,rfl,he,hq⟩:=hrel;have HE:=zh he;have HQ:=zh hq;clear he hq;by_cases hlt:k < xs.length
      · obtain⟨b,o,x,rfl,hb,hx,hc0,hc1,hr0,hr1,hv⟩:=(H.out.ext HQ.out).atSlot k hlt;clear H;by_cases hw:zA8 x.Ticks 1 20=true
        · by_cases hi:zA8 x.Who (-1) (n - 1)=true
          · have hp:zDk n x=true:=by unfold zDk;rw[hw,hi];rfl
            have HN:=zh ((zBh (zDk n) hx.out).trans (by rw[HE.out,hp];rfl:_=true))
            clear hp;go_wp2_with (go_at_call 39;refine(zAb _ _ _ _).mono ?_;rintro e w' ⟨rfl,rfl⟩)
            go_roundw
            case rel=>exact⟨k+1,by omega,by go_num,HN.out,HQ.out⟩
            case measure=>simp[intOf];omega
          · rw[Bool.not_eq_true] at hi;have HN:Hid (zCv xs n=false):=zh (by unfold zCv;rw[zB8 (zDk n) hx.out (by unfold zDk;rw[hi,Bool.and_false]),Bool.and_false,Bool.and_false])
            go_wp2_with (go_at_call 39;refine(zAb _ _ _ _).mono ?_;rintro e w' ⟨rfl,rfl⟩)
            go_ret;exact⟨zA2 HN.out.symm,HQ.out⟩
        · rw[Bool.not_eq_true] at hw;have HN:Hid (zCv xs n=false):=zh (by unfold zCv;rw[zB8 (zDk n) hx.out (by unfold zDk;rw[hw,Bool.false_and]),Bool.and_false,Bool.and_false])
          go_wp2_with (go_at_call 39;refine(zAb _ _ _ _).mono ?_;rintro e w' ⟨rfl,rfl⟩)
          go_ret;exact⟨zA2 HN.out.symm,HQ.out⟩
      · have HN:Hid (zCv xs n=zA8 xs.length 1 12):=zh (by
          unfold zCv;rw[<- zBu (zDk n) xs k (by omega),HE.out,Bool.and_true,h1,Bool.true_and])
        clear H;cases h2:zA8 xs.length 1 12
        all_goals
          go_wp2_with (go_at_call 39;refine(zAb _ _ _ _).mono ?_;rintro e w' ⟨rfl,rfl⟩)
          go_ret;exact⟨zA2 (by rw[HN.out,h2]),HQ.out⟩
  · rw[Bool.not_eq_true] at h1;have HN:Hid (zCv xs n=false):=zh (zAt h1);go_enter Tryz.func70,Tryz.ntmps70;go_wp2;go_loopw [5] (fun i wr => ∃ k:Nat,k<=xs.length/\i = .int .i64 k/\Ext w wr) (fun i _=>xs.length - (intOf i).toNat)
    case atStart=>exact⟨0,Nat.zero_le _,rfl,.refl _⟩
    case round =>
      obtain⟨k,hk,rfl,hq⟩:=hrel;have HQ:=zh hq;clear hq;by_cases hlt:k < xs.length
      · obtain⟨b,o,x,rfl,hb,hx,hc0,hc1,hr0,hr1,hv⟩:=(H.out.ext HQ.out).atSlot k hlt;clear H;go_wp2_with (go_at_call 39;refine(zAb _ _ _ _).mono ?_;rintro e w' ⟨rfl,rfl⟩)
        all_goals first
          | (go_ret;exact⟨zA2 HN.out.symm,HQ.out⟩)
          | (go_roundw
             case rel=>exact⟨k+1,by omega,by go_num,HQ.out⟩
             case measure=>simp[intOf];omega)
      · clear H;go_wp2_with (go_at_call 39;refine(zAb _ _ _ _).mono ?_;rintro e w' ⟨rfl,rfl⟩)
        all_goals go_ret
        all_goals exact⟨zA2 HN.out.symm,HQ.out⟩
theorem not_f{b:Bool}(h:b=false):(!b)=true:=by rw[h];rfl
theorem not_t{b:Bool}(h:b=true):(!b)=false:=by rw[h];rfl
noncomputable def zI6(n:Int)(c:Channel):Bool:=zBt c.Kind c.Size && (zA8 c.From 0 (n - 1) && (zA8 c.To 0 (n - 1) && !(c.From == c.To)))
noncomputable def zE4(xs:List Channel)(n:Int):Bool:=zA8 n 0 5 && (decide (xs.length<=8) && xs.all (zI6 n))
theorem zFk{k s:Int}:zBt k s=true ↔ (k=1/\s=1\/(k=2\/k=3)/\1<=s/\s<=4):=Bo.iff
theorem zJs{n:Int}{c:Channel}:zI6 n c=true ↔ (c.Kind=1/\c.Size=1\/(c.Kind=2\/c.Kind=3)/\1<=c.Size/\c.Size<=4)/\(0<=c.From/\c.From<=n - 1)/\(0<=c.To/\c.To<=n - 1)/\c.From≠c.To:=by
 unfold zI6;simp only[Bool.and_eq_true,zFk,zA5,Bool.not_eq_true',beq_eq_false_iff_ne]
theorem zF6(v:Value)(x:Channel)(b:Nat)(n:Int)(w:World)(h:Rv w v x)(hb:b < w.heap.size)(hc:w.cell? ⟨b,0,none⟩=some (.int .i64 n))(hn1:0<=n)(hn2:n<=5) :
  Calls Tryz.prog 166 #[v,.pointer (some ⟨b,0,none⟩)] w fun e w'=>e = .returned (.bool (!zI6 n x))/\Ext w w':=by
 obtain⟨rfl,hr0,hr1,hr2,hr3⟩:=h.openChannel;clear h;cases h1:zBt x.Kind x.Size
 ·have hm:=zh (congrArg (! ·) (zAt h1:zI6 n x=_))
  go_enter Tryz.func166,Tryz.ntmps166;go_wp2_with (first|(go_at_call 101;refine(zCn _ _ _).mono ?_;rintro e w' ⟨rfl,rfl⟩)|(go_at_call 36;refine(zAi _ _ _ _).mono ?_;rintro e w' ⟨rfl,rfl⟩))
  go_ret;exact⟨zA2 hm.out.symm,(zr w).alloc _⟩
 ·cases h2:zA8 x.From 0 (n - 1)
  ·have hm:=zh (congrArg (! ·) ((zAm h1).trans (zAt h2):zI6 n x=_))
   go_enter Tryz.func166,Tryz.ntmps166;go_wp2_with (first|(go_at_call 101;refine(zCn _ _ _).mono ?_;rintro e w' ⟨rfl,rfl⟩)|(go_at_call 36;refine(zAi _ _ _ _).mono ?_;rintro e w' ⟨rfl,rfl⟩))
   go_ret;exact⟨zA2 hm.out.symm,(zr w).alloc _⟩
  ·cases h3:zA8 x.To 0 (n - 1)
   ·have hm:=zh (congrArg (! ·) ((zAm h1).trans ((zAm h2).trans (zAt h3)):zI6 n x=_))
    go_enter Tryz.func166,Tryz.ntmps166;go_wp2_with (first|(go_at_call 101;refine(zCn _ _ _).mono ?_;rintro e w' ⟨rfl,rfl⟩)|(go_at_call 36;refine(zAi _ _ _ _).mono ?_;rintro e w' ⟨rfl,rfl⟩))
    go_ret;exact⟨zA2 hm.out.symm,(zr w).alloc _⟩
   ·have hm:Hid ((!zI6 n x)=(x.From == x.To)):=zh (by unfold zI6;rw[h1,h2,h3];simp)
    go_enter Tryz.func166,Tryz.ntmps166;go_wp2_with (first|(go_at_call 101;refine(zCn _ _ _).mono ?_;rintro e w' ⟨rfl,rfl⟩)|(go_at_call 36;refine(zAi _ _ _ _).mono ?_;rintro e w' ⟨rfl,rfl⟩))
    all_goals go_ret
    all_goals exact⟨zA2 hm.out.symm,(zr w).alloc _⟩
theorem zDp(v:Value)(xs:List Channel)(n:Int)(w:World)(h:Rs w v xs) :
  Calls Tryz.prog 139 #[v,.int .i64 n] w fun e w'=>e = .returned (.bool (zE4 xs n))/\Ext w w':=by
 have e0:=zh ((zr w).alloc (.cells #[.int .i64 n] 3));have H:=zh h;obtain⟨a,c,rfl,hl⟩:=h.form;clear h;cases h1:zA8 n 0 5
 ·have hm:=zh ((zAt h1).symm:_=zE4 xs n);go_enter Tryz.func139,Tryz.ntmps139;go_wp2_with (go_at_call 36;refine(zAi _ _ _ _).mono ?_;rintro e w' ⟨rfl,rfl⟩)
  go_ret;exact⟨zA2 hm.out,e0.out⟩
 ·obtain⟨hn1,hn2⟩:=zA5.1 h1;have HX:=zh (zLs 166 #[.pointer (some ⟨w.heap.size,0,none⟩)] (fun x => !zI6 n x) _ xs _ (H.out.ext e0.out) (zCs Tryz.func166 (by kernel_rfl) (by kernel_rfl))
   (fun w1 v x he _ hv=>zF6 v x _ n w1 hv (zI0 he).1 (zI0 he).2 hn1 hn2))
  by_cases h2:xs.length<=8
  ·have hm:=zh ((zC5 (zI6 n) xs).trans ((zAm h1).trans (zAm (decide_eq_true h2))).symm:_=zE4 xs n);go_enter Tryz.func139,Tryz.ntmps139;go_wp2_with (first|(go_at_call 36;refine(zAi _ _ _ _).mono ?_;rintro e w' ⟨rfl,rfl⟩)|(go_at_call 165;refine HX.out.mono ?_;rintro e w' ⟨rfl,he⟩))
   go_ret;exact⟨zA2 hm.out,e0.out.tr he⟩
  ·have hm:=zh (((zAm h1).trans (zAt (decide_eq_false h2))).symm:_=zE4 xs n);go_enter Tryz.func139,Tryz.ntmps139;go_wp2_with (go_at_call 36;refine(zAi _ _ _ _).mono ?_;rintro e w' ⟨rfl,rfl⟩)
   go_ret;exact⟨zA2 hm.out,e0.out⟩
def M.cvs(n:Int)(c:Channel):Bool:=zA8 c.Kind 1 3 && (zA8 c.From 0 (n - 1) && (zA8 c.To 0 (n - 1) && (!(c.From == c.To) && (zA8 c.Size 1 4 && !(c.Kind == 1 && !(c.Size == 1))))))
theorem zM2(n:Int)(c:Channel):M.cvs n c=zI6 n c:=by
 rw[Bool.eq_iff_iff,zJs];unfold M.cvs;simp only[Bool.and_eq_true,zA5,Bool.not_eq_true',beq_eq_false_iff_ne,Bool.and_eq_false_iff,Bool.not_eq_false',beq_iff_eq];omega
theorem zB4(v:Value)(xs:List Channel)(n:Int)(w:World)(h:Rs w v xs) :
    Calls Tryz.prog 91 #[v,.int .i64 n] w fun e w'=>e = .returned (.bool (zE4 xs n))/\Ext w w':=by
  obtain⟨a,c,rfl,hl⟩:=h.form;have H:=zh h;clear h;cases h1:zA8 n 0 5
  · have HN:Hid (zE4 xs n=false):=zh (zAt h1);go_enter Tryz.func91,Tryz.ntmps91;go_wp2;go_loopw [5,6] (fun i _ wr => ∃ k:Nat,k<=xs.length/\i = .int .i64 k/\Ext w wr) (fun i _ _=>xs.length - (intOf i).toNat)
    case atStart=>exact⟨0,Nat.zero_le _,rfl,.refl _⟩
    case round =>
      obtain⟨k,hk,rfl,hq⟩:=hrel;have HQ:=zh hq;clear hq;by_cases hlt:k < xs.length
      · obtain⟨b,o,x,rfl,hb,hx,hc0,hc1,hc2,hc3,hr0,hr1,hr2,hr3,hv⟩:=(H.out.ext HQ.out).atChannel k hlt;clear H;go_wp2_with (go_at_call 39;refine(zAb _ _ _ _).mono ?_;rintro e w' ⟨rfl,rfl⟩)
        all_goals first
          | (go_ret;exact⟨zA2 HN.out.symm,(HQ.out.alloc _).set (Nat.le_trans HQ.out.sz (by simp)) _⟩)
          | (go_ret;exact⟨zA2 HN.out.symm,HQ.out.alloc _⟩)
          | (go_roundw
             case rel=>exact⟨k+1,by omega,by go_num,HQ.out.alloc _⟩
             case measure=>simp[intOf];omega)
      · clear H;go_wp2_with (go_at_call 39;refine(zAb _ _ _ _).mono ?_;rintro e w' ⟨rfl,rfl⟩)
        all_goals go_ret
        all_goals exact⟨zA2 HN.out.symm,HQ.out⟩
  · obtain⟨hn1,hn2⟩:=zA5.1 h1;go_enter Tryz.func91,Tryz.ntmps91;go_wp2;go_loopw [5,6] (fun i _ wr => ∃ k:Nat,k<=xs.length/\i = .int .i64 k/\(xs.take k).all (zI6 n)=true/\Ext w wr) (fun i _ _=>xs.length - (intOf i).toNat)
    case atStart=>exact⟨0,Nat.zero_le _,rfl,rfl,.refl _⟩
    case round =>
      obtain⟨k,hk,rfl,he,hq⟩:=hrel;have HE:=zh he;have HQ:=zh hq;clear he hq;by_cases hlt:k < xs.length
      · obtain⟨b,o,x,rfl,hb,hx,hc0,hc1,hc2,hc3,hr0,hr1,hr2,hr3,hv⟩:=(H.out.ext HQ.out).atChannel k hlt;clear H;have key:zI6 n x=false->zE4 xs n=false:=fun hp=>by unfold zE4;rw[zB8 (zI6 n) hx.out hp,Bool.and_false,Bool.and_false]
        rw[<- zM2] at key;have hst:=zh ((zBh (zI6 n) hx.out).trans (by rw[HE.out,<- zM2,Bool.true_and]))
        have KEY:=zh key;clear key;cases g1:zA8 x.Kind 1 3
        · have HN:=zh (KEY.out (zAt g1));go_wp2_with (go_at_call 39;refine(zAb _ _ _ _).mono ?_;rintro e w' ⟨rfl,rfl⟩)
          go_ret;exact⟨zA2 HN.out.symm,HQ.out.alloc _⟩
        · cases g2:zA8 x.From 0 (n - 1)
          · have HN:=zh (KEY.out ((zAm g1).trans (zAt g2)));go_wp2_with (go_at_call 39;refine(zAb _ _ _ _).mono ?_;rintro e w' ⟨rfl,rfl⟩)
            go_ret;exact⟨zA2 HN.out.symm,HQ.out.alloc _⟩
          · cases g3:zA8 x.To 0 (n - 1)
            · have HN:=zh (KEY.out ((zAm g1).trans ((zAm g2).trans (zAt g3))));go_wp2_with (go_at_call 39;refine(zAb _ _ _ _).mono ?_;rintro e w' ⟨rfl,rfl⟩)
              go_ret;exact⟨zA2 HN.out.symm,HQ.out.alloc _⟩
            · cases g4:(x.From == x.To)
              · cases g5:zA8 x.Size 1 4
                · have HN:=zh (KEY.out ((zAm g1).trans ((zAm g2).trans ((zAm g3).trans ((zAm (not_f g4)).trans (zAt g5))))));go_wp2_with (go_at_call 39;refine(zAb _ _ _ _).mono ?_;rintro e w' ⟨rfl,rfl⟩)
                  go_ret;exact⟨zA2 HN.out.symm,HQ.out.alloc _⟩
                · have hcvs:M.cvs n x = !(x.Kind == 1 && !(x.Size == 1)):=(zAm g1).trans ((zAm g2).trans ((zAm g3).trans ((zAm (not_f g4)).trans (zAm g5))));cases g6:(x.Kind == 1)
                  · have HN:=zh ((hst.out.trans (hcvs.trans (by simp[g6]))):_=true)
                    clear hcvs;go_wp2_with (go_at_call 39;refine(zAb _ _ _ _).mono ?_;rintro e w' ⟨rfl,rfl⟩)
                    go_roundw
                    case rel=>exact⟨k+1,by omega,by go_num,HN.out,HQ.out.alloc _⟩
                    case measure=>simp[intOf];omega
                  · cases g7:(x.Size == 1)
                    · have HN:=zh (KEY.out (hcvs.trans (by simp[g6,g7])))
                      clear hcvs;go_wp2_with (go_at_call 39;refine(zAb _ _ _ _).mono ?_;rintro e w' ⟨rfl,rfl⟩)
                      go_ret;exact⟨zA2 HN.out.symm,HQ.out.alloc _⟩
                    · have HN:=zh ((hst.out.trans (hcvs.trans (by simp[g6,g7]))):_=true)
                      clear hcvs;go_wp2_with (go_at_call 39;refine(zAb _ _ _ _).mono ?_;rintro e w' ⟨rfl,rfl⟩)
                      go_roundw
                      case rel=>exact⟨k+1,by omega,by go_num,HN.out,HQ.out.alloc _⟩
                      case measure=>simp[intOf];omega
              · have HN:=zh (KEY.out ((zAm g1).trans ((zAm g2).trans ((zAm g3).trans (zAt (not_t g4))))));go_wp2_with (go_at_call 39;refine(zAb _ _ _ _).mono ?_;rintro e w' ⟨rfl,rfl⟩)
                go_ret;exact⟨zA2 HN.out.symm,HQ.out.alloc _⟩
      · have HN:Hid (zE4 xs n=decide (xs.length<=8)):=zh (by
          unfold zE4;rw[<- zBu (zI6 n) xs k (by omega),HE.out,Bool.and_true,h1,Bool.true_and])
        clear H;by_cases hle:xs.length<=8
        · go_wp2_with (go_at_call 39;refine(zAb _ _ _ _).mono ?_;rintro e w' ⟨rfl,rfl⟩)
          go_ret;exact⟨zA2 (HN.out.trans (decide_eq_true hle)).symm,HQ.out⟩
        · go_wp2_with (go_at_call 39;refine(zAb _ _ _ _).mono ?_;rintro e w' ⟨rfl,rfl⟩)
          go_ret;exact⟨zA2 (HN.out.trans (decide_eq_false hle)).symm,HQ.out⟩
noncomputable def zB0(s:Setup):Bool:=zEm s.Parts && (zE4 s.Channels s.Parts.length && zCv s.Slots s.Parts.length)
theorem zDf(v:Value)(s:Setup)(w:World)(h:Rv w v s) :
  Calls Tryz.prog 96 #[v] w fun e w'=>e = .returned (.bool (zB0 s))/\Ext w w':=by
 obtain⟨a0,c0,a1,c1,a2,c2,rfl,h0,hl0,h1,hl1,h2,hl2⟩:=h.openSetup;clear h;have e0:=zh ((zr w).alloc (.cells #[.slice a0 s.Parts.length c0,.slice a1 s.Channels.length c1,.slice a2 s.Slots.length c2] 41));cases g0:zEm s.Parts
 ·have hm:=zh ((zAt g0).symm:_=zB0 s);go_enter Tryz.func96,Tryz.ntmps96;go_wp2_with fail
  refine(zDe _ _ _ (h0.out.ext e0.out)).mono ?_;rintro e w1 ⟨rfl,he1⟩;have E1:=zh (e0.out.tr he1);clear he1;go_wp2;go_ret;exact⟨zA2 hm.out,E1.out⟩
 ·cases g1:zE4 s.Channels s.Parts.length
  ·have hm:=zh (((zAm g0).trans (zAt g1)).symm:_=zB0 s);go_enter Tryz.func96,Tryz.ntmps96;go_wp2_with fail
   refine(zDe _ _ _ (h0.out.ext e0.out)).mono ?_;rintro e w1 ⟨rfl,he1⟩;have E1:=zh (e0.out.tr he1);obtain⟨hcb,hfb⟩:=zFn he1;go_wp2_with fail
   refine(zDp _ _ _ _ (h1.out.ext E1.out)).mono ?_;rintro e w2 ⟨rfl,he2⟩;have E2:=zh (E1.out.tr he2);clear he1 he2 hcb hfb;go_wp2;go_ret;exact⟨zA2 hm.out,E2.out⟩
  ·have hm:=zh (((zAm g0).trans (zAm g1)).symm:_=zB0 s);go_enter Tryz.func96,Tryz.ntmps96;go_wp2_with fail
   refine(zDe _ _ _ (h0.out.ext e0.out)).mono ?_;rintro e w1 ⟨rfl,he1⟩;have E1:=zh (e0.out.tr he1);obtain⟨hcb,hfb⟩:=zFn he1;go_wp2_with fail
   refine(zDp _ _ _ _ (h1.out.ext E1.out)).mono ?_;rintro e w2 ⟨rfl,he2⟩;have E2:=zh (E1.out.tr he2);obtain⟨hcb2,hfb2⟩:=zFn (he1.tr he2);clear he1 he2 hcb hfb;go_wp2_with fail
   refine(zEq _ _ _ _ (h2.out.ext E2.out)).mono ?_;rintro e w3 ⟨rfl,he3⟩;have E3:=zh (E2.out.tr he3);clear he3;go_wp2;go_ret;exact⟨zA2 hm.out,E3.out⟩
theorem zAq(v:Value)(s:Setup)(w:World)(h:Rv w v s) :
  Calls Tryz.prog 55 #[v] w fun e w'=>e = .returned (.bool (zB0 s))/\Ext w w':=by
 obtain⟨a0,c0,a1,c1,a2,c2,rfl,h0,hl0,h1,hl1,h2,hl2⟩:=h.openSetup;clear h;have e0:=zh ((zr w).alloc (.cells #[.slice a0 s.Parts.length c0,.slice a1 s.Channels.length c1,.slice a2 s.Slots.length c2] 41));cases g0:zEm s.Parts
 ·have hm:=zh ((zAt g0).symm:_=zB0 s);go_enter Tryz.func55,Tryz.ntmps55;go_wp2_with fail
  refine(zDi _ _ _ (h0.out.ext e0.out)).mono ?_;rintro e w1 ⟨rfl,he1⟩;have E1:=zh (e0.out.tr he1);clear he1;go_wp2;go_ret;exact⟨zA2 hm.out,E1.out⟩
 ·cases g1:zE4 s.Channels s.Parts.length
  ·have hm:=zh (((zAm g0).trans (zAt g1)).symm:_=zB0 s);go_enter Tryz.func55,Tryz.ntmps55;go_wp2_with fail
   refine(zDi _ _ _ (h0.out.ext e0.out)).mono ?_;rintro e w1 ⟨rfl,he1⟩;have E1:=zh (e0.out.tr he1);obtain⟨hcb,hfb⟩:=zFn he1;go_wp2_with fail
   refine(zB4 _ _ _ _ (h1.out.ext E1.out)).mono ?_;rintro e w2 ⟨rfl,he2⟩;have E2:=zh (E1.out.tr he2);clear he1 he2 hcb hfb;go_wp2;go_ret;exact⟨zA2 hm.out,E2.out⟩
  ·have hm:=zh (((zAm g0).trans (zAm g1)).symm:_=zB0 s);go_enter Tryz.func55,Tryz.ntmps55;go_wp2_with fail
   refine(zDi _ _ _ (h0.out.ext e0.out)).mono ?_;rintro e w1 ⟨rfl,he1⟩;have E1:=zh (e0.out.tr he1);obtain⟨hcb,hfb⟩:=zFn he1;go_wp2_with fail
   refine(zB4 _ _ _ _ (h1.out.ext E1.out)).mono ?_;rintro e w2 ⟨rfl,he2⟩;have E2:=zh (E1.out.tr he2);obtain⟨hcb2,hfb2⟩:=zFn (he1.tr he2);clear he1 he2 hcb hfb;go_wp2_with fail
   refine(zCg _ _ _ _ (h2.out.ext E2.out)).mono ?_;rintro e w3 ⟨rfl,he3⟩;have E3:=zh (E2.out.tr he3);clear he3;go_wp2;go_ret;exact⟨zA2 hm.out,E3.out⟩
end Sk
