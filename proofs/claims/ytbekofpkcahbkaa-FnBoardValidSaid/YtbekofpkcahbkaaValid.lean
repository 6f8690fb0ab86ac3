/- Contracts of functions of the given program. -/
import Derived.Test.YtbekofpkcahbkaaApp
import Derived.Test.YtbekofpkcahbkaaFind
namespace Sk
open Go Go.Proofs Go.RowKit
set_option maxHeartbeats 400000
set_option maxRecDepth 100000
set_option linter.unusedVariables false
set_option linter.unusedSimpArgs false
theorem zBe{α:Type}(f : α -> Bool)(xs:List α):(!xs.any fun x => !f x)=xs.all f:=by
 induction xs with
 | nil=>rfl
 | cons x xs ih=>simp only[List.any_cons,List.all_cons,Bool.not_or,Bool.not_not,ih]
theorem zAg{a b:Bool}(h:a=true):(a && b)=b:=by simp[h]
theorem zAj{a b:Bool}(h:a=false):(a && b)=false:=by simp[h]
def zFi(x:Window):Bool:=zA5 x.Base 0 4095 && zA5 x.Size 1 (4096 - x.Base)
theorem zEh(v:Value)(x:Window)(w:World)(h:Rv w v x) :
  Calls Try.prog 53 #[v] w fun e w'=>e = .returned (.bool (zFi x))/\Ext w w':=by
 obtain⟨rfl,h1,h2⟩:=h.openWindow;by_cases hb:zA5 x.Base 0 4095=true
 ·have hm:=zh (zAg hb:zFi x=_);have hb2:=zA4.1 hb;obtain⟨hb3,hb4⟩:=hb2;go_enter Try.func53,Try.ntmps53;go_wp2_with (go_at_call 26;refine(zAf _ _ _ _).mono ?_;rintro e w' ⟨rfl,rfl⟩)
  go_ret;exact⟨zA1 hm.out.symm,(zr w).alloc _⟩
 ·rw[Bool.not_eq_true] at hb;have hm:=zh (zAj hb:zFi x=_);go_enter Try.func53,Try.ntmps53;go_wp2_with (go_at_call 26;refine(zAf _ _ _ _).mono ?_;rintro e w' ⟨rfl,rfl⟩)
  go_ret;exact⟨zA1 hm.out.symm,(zr w).alloc _⟩
theorem zCw(v:Value)(x:Window)(w:World)(h:Rv w v x) :
  Calls Try.prog 84 #[v] w fun e w'=>e = .returned (.bool (zFi x))/\Ext w w':=by
 obtain⟨rfl,h1,h2⟩:=h.openWindow;by_cases hb:zA5 x.Base 0 4095=true
 ·have hm:=zh (zAg hb:zFi x=_);obtain⟨hb3,hb4⟩:=zA4.1 hb;go_enter Try.func84,Try.ntmps84;go_wp2_with (go_at_call 31;refine(zAa _ _ _ _).mono ?_;rintro e w' ⟨rfl,rfl⟩)
  go_ret;exact⟨zA1 hm.out.symm,(zr w).alloc _⟩
 ·rw[Bool.not_eq_true] at hb;have hm:=zh (zAj hb:zFi x=_);go_enter Try.func84,Try.ntmps84;go_wp2_with (go_at_call 31;refine(zAa _ _ _ _).mono ?_;rintro e w' ⟨rfl,rfl⟩)
  go_ret;exact⟨zA1 hm.out.symm,(zr w).alloc _⟩
theorem zDy(v:Value)(x:Window)(w:World)(h:Rv w v x) :
  Calls Try.prog 52 #[v] w fun e w'=>e = .returned (.bool (!zFi x))/\Ext w w':=by
 have H:=zh h;obtain⟨rfl,h1,h2⟩:=h.openWindow;clear h;go_enter Try.func52,Try.ntmps52;go_wp2_with (go_at_call 53;refine(zEh _ x _ (H.out.ext ((zr w).alloc _))).mono ?_;rintro e w' ⟨rfl,he⟩)
 go_ret;exact⟨rfl,((zr w).alloc _).tr he⟩
def zDv(xs:List Window):Bool:=decide (xs.length<=12) && xs.all zFi
theorem zBo(v:Value)(xs:List Window)(w:World)(h:Rs w v xs) :
  Calls Try.prog 32 #[v] w fun e w'=>e = .returned (.bool (zDv xs))/\Ext w w':=by
 have HX:=zh (zIl 52 #[] (fun x => !zFi x) v xs w h (zBu Try.func52 (by kernel_rfl) (by kernel_rfl)) (fun w1 v x _ _ hv=>zDy v x w1 hv))
 obtain⟨a,c,rfl,hl⟩:=h.form;clear h;by_cases hle:xs.length<=12
 ·have hm:=zh ((zBe zFi xs).trans (zAg (decide_eq_true hle)).symm:_=zDv xs);go_enter Try.func32,Try.ntmps32;go_wp2_with (go_at_call 51;refine HX.out.mono ?_;rintro e w' ⟨rfl,he⟩)
  go_ret;exact⟨zA1 hm.out,he⟩
 ·have hm:=zh (zAj (decide_eq_false hle):zDv xs=_);go_enter Try.func32,Try.ntmps32;go_wp2;go_ret;exact⟨zA1 hm.out.symm,.refl _⟩
theorem zBs(v:Value)(xs:List Window)(w:World)(h:Rs w v xs) :
  Calls Try.prog 69 #[v] w fun e w'=>e = .returned (.bool (zDv xs))/\Ext w w':=by
 obtain⟨a,c,rfl,hl⟩:=h.form;have H:=zh h;clear h;go_enter Try.func69,Try.ntmps69;go_wp2;go_loopw [3] (fun i wr => ∃ k:Nat,k<=xs.length/\i = .int .i64 k/\(xs.take k).all zFi=true/\Ext w wr) (fun i _=>xs.length - (intOf i).toNat)
 case atStart=>exact⟨0,Nat.zero_le _,rfl,rfl,.refl _⟩
 case round =>
  obtain⟨k,hk,rfl,he,hq⟩:=hrel;have HE:=zh he;have HQ:=zh hq;clear he hq;by_cases hlt:k < xs.length
  ·obtain⟨b,o,x,rfl,hb,hx,hc0,hc1,hc2,hr0,hr1,hv⟩:=(H.out.ext HQ.out).atWindow k hlt;clear H;by_cases hw:zFi x=true
   ·have HN:=zh (zAy zFi hx.out);go_wp2_with (go_at_call 84;refine(zCw _ x _ hv.out).mono ?_;rintro e w' ⟨rfl,he⟩;have HE2:=zh (HQ.out.tr he);clear he)
    go_roundw
    case rel=>exact⟨k+1,by omega,by go_num,by rw[HN.out,HE.out,hw];rfl,HE2.out⟩
    case measure=>simp[intOf];omega
   ·rw[Bool.not_eq_true] at hw;have HN:Hid (zDv xs=false):=zh (by unfold zDv;rw[zAu zFi hx.out hw,Bool.and_false])
    go_wp2_with (go_at_call 84;refine(zCw _ x _ hv.out).mono ?_;rintro e w' ⟨rfl,he⟩;have HE2:=zh (HQ.out.tr he);clear he)
    go_ret;exact⟨zA1 HN.out.symm,HE2.out⟩
  ·have HN:Hid (zDv xs=decide (xs.length<=12)):=zh (by
    unfold zDv;rw[<- zB4 zFi xs k (by omega),HE.out,Bool.and_true])
   clear H;by_cases hle:xs.length<=12
   ·go_wp2;go_ret;exact⟨zA1 (by rw[HN.out,decide_eq_true hle];exact decide_eq_true (by omega)),HQ.out⟩
   ·go_wp2;go_ret;exact⟨zA1 (by rw[HN.out,decide_eq_false hle];exact decide_eq_false (by omega)),HQ.out⟩
def zC7(p:Part):Bool:=zDv p.Windows && zA5 p.Cells 1 8
def zD7(xs:List Part):Bool:=decide (xs.length<=5) && xs.all zC7
theorem zEf(v:Value)(x:Part)(w:World)(h:Rv w v x) :
  Calls Try.prog 78 #[v] w fun e w'=>e = .returned (.bool (!zC7 x))/\Ext w w':=by
 obtain⟨a0,c0,rfl,hr1,hs,hl⟩:=h.openPart;clear h;have e0:=zh ((zr w).alloc (.cells #[.slice a0 x.Windows.length c0,.int .i64 x.Cells] 69));by_cases hw:zDv x.Windows=true
 ·have hm:=zh (congrArg (! ·) (zAg hw:zC7 x=_))
  go_enter Try.func78,Try.ntmps78;go_wp2_with fail
  refine(zBo _ _ _ (hs.out.ext e0.out)).mono ?_;rintro e w1 ⟨rfl,he⟩;obtain⟨hcb,hfb⟩:=zE5 he;go_wp2_with (go_at_call 26;refine(zAf _ _ _ _).mono ?_;rintro e w' ⟨rfl,rfl⟩)
  go_ret;exact⟨zA1 hm.out.symm,e0.out.tr he⟩
 ·rw[Bool.not_eq_true] at hw;have hm:=zh (congrArg (! ·) (zAj hw:zC7 x=_))
  go_enter Try.func78,Try.ntmps78;go_wp2_with fail
  refine(zBo _ _ _ (hs.out.ext e0.out)).mono ?_;rintro e w1 ⟨rfl,he⟩;have HE:=zh he;clear he;go_wp2;go_ret;exact⟨zA1 hm.out.symm,e0.out.tr HE.out⟩
theorem zCf(v:Value)(xs:List Part)(w:World)(h:Rs w v xs) :
  Calls Try.prog 62 #[v] w fun e w'=>e = .returned (.bool (zD7 xs))/\Ext w w':=by
 have HX:=zh (has_Part 78 #[] (fun x => !zC7 x) v xs w h (zBu Try.func78 (by kernel_rfl) (by kernel_rfl)) (fun w1 v x _ _ hv=>zEf v x w1 hv))
 obtain⟨a,c,rfl,hl⟩:=h.form;clear h;by_cases hle:xs.length<=5
 ·have hm:=zh ((zBe zC7 xs).trans (zAg (decide_eq_true hle)).symm:_=zD7 xs);go_enter Try.func62,Try.ntmps62;go_wp2_with (go_at_call 77;refine HX.out.mono ?_;rintro e w' ⟨rfl,he⟩)
  go_ret;exact⟨zA1 hm.out,he⟩
 ·have hm:=zh (zAj (decide_eq_false hle):zD7 xs=_);go_enter Try.func62,Try.ntmps62;go_wp2;go_ret;exact⟨zA1 hm.out.symm,.refl _⟩
theorem zCi(v:Value)(xs:List Part)(w:World)(h:Rs w v xs) :
  Calls Try.prog 47 #[v] w fun e w'=>e = .returned (.bool (zD7 xs))/\Ext w w':=by
 obtain⟨a,c,rfl,hl⟩:=h.form;have H:=zh h;clear h;go_enter Try.func47,Try.ntmps47;go_wp2;go_loopw [3] (fun i wr => ∃ k:Nat,k<=xs.length/\i = .int .i64 k/\(xs.take k).all zC7=true/\Ext w wr) (fun i _=>xs.length - (intOf i).toNat)
 case atStart=>exact⟨0,Nat.zero_le _,rfl,rfl,.refl _⟩
 case round =>
  obtain⟨k,hk,rfl,he,hq⟩:=hrel;have HE:=zh he;have HQ:=zh hq;clear he hq;by_cases hlt:k < xs.length
  ·obtain⟨b,o,x,a0,c0,rfl,hb,hx,hc0,hc1,hr1,hs0,hl0,hv⟩:=(H.out.ext HQ.out).atPart k hlt;clear H;by_cases hw:zDv x.Windows=true
   ·by_cases hi:zA5 x.Cells 1 8=true
    ·have hp:zC7 x=true:=by unfold zC7;rw[hw,hi];rfl
     have HN:=zh ((zAy zC7 hx.out).trans (by rw[HE.out,hp];rfl:_=true))
     clear hp;go_wp2_with fail
     refine(zBs _ _ _ hs0.out).mono ?_;rintro e w1 ⟨rfl,he⟩;obtain⟨hcb,hfb⟩:=zE5 he;go_wp2_with (go_at_call 31;refine(zAa _ _ _ _).mono ?_;rintro e w' ⟨rfl,rfl⟩)
     go_roundw
     case rel=>exact⟨k+1,by omega,by go_num,HN.out,HQ.out.tr he⟩
     case measure=>simp[intOf];omega
    ·rw[Bool.not_eq_true] at hi;have HN:Hid (zD7 xs=false):=zh (by unfold zD7;rw[zAu zC7 hx.out (by unfold zC7;rw[hi,Bool.and_false]),Bool.and_false])
     go_wp2_with fail
     refine(zBs _ _ _ hs0.out).mono ?_;rintro e w1 ⟨rfl,he⟩;obtain⟨hcb,hfb⟩:=zE5 he;go_wp2_with (go_at_call 31;refine(zAa _ _ _ _).mono ?_;rintro e w' ⟨rfl,rfl⟩)
     go_ret;exact⟨zA1 HN.out.symm,HQ.out.tr he⟩
   ·rw[Bool.not_eq_true] at hw;have HN:Hid (zD7 xs=false):=zh (by unfold zD7;rw[zAu zC7 hx.out (by unfold zC7;rw[hw,Bool.false_and]),Bool.and_false])
    go_wp2_with fail
    refine(zBs _ _ _ hs0.out).mono ?_;rintro e w1 ⟨rfl,he⟩;have HE2:=zh (HQ.out.tr he);clear he;go_wp2;go_ret;exact⟨zA1 HN.out.symm,HE2.out⟩
  ·have HN:Hid (zD7 xs=decide (xs.length<=5)):=zh (by
    unfold zD7;rw[<- zB4 zC7 xs k (by omega),HE.out,Bool.and_true])
   clear H;by_cases hle:xs.length<=5
   ·go_wp2;go_ret;exact⟨zA1 (by rw[HN.out,decide_eq_true hle];exact decide_eq_true (by omega)),HQ.out⟩
   ·go_wp2;go_ret;exact⟨zA1 (by rw[HN.out,decide_eq_false hle];exact decide_eq_false (by omega)),HQ.out⟩
def zCl(n:Int)(x:Slot):Bool:=zA5 x.Ticks 1 20 && zA5 x.Who (-1) (n - 1)
def zCa(xs:List Slot)(n:Int):Bool:=zA5 n 0 5 && (zA5 xs.length 1 12 && xs.all (zCl n))
theorem zEg(v:Value)(x:Slot)(b:Nat)(n:Int)(w:World)(h:Rv w v x)(hb:b < w.heap.size)(hc:w.cell? ⟨b,0,none⟩=some (.int .i64 n))(hn1:0<=n)(hn2:n<=5) :
  Calls Try.prog 82 #[v,.pointer (some ⟨b,0,none⟩)] w fun e w'=>e = .returned (.bool (!zCl n x))/\Ext w w':=by
 obtain⟨rfl,hr0,hr1⟩:=h.openSlot;clear h;by_cases hw:zA5 x.Ticks 1 20=true
 ·have hm:=zh (congrArg (! ·) (zAg hw:zCl n x=_))
  go_enter Try.func82,Try.ntmps82;go_wp2_with (go_at_call 26;refine(zAf _ _ _ _).mono ?_;rintro e w' ⟨rfl,rfl⟩)
  go_ret;exact⟨zA1 hm.out.symm,(zr w).alloc _⟩
 ·rw[Bool.not_eq_true] at hw;have hm:=zh (congrArg (! ·) (zAj hw:zCl n x=_))
  go_enter Try.func82,Try.ntmps82;go_wp2_with (go_at_call 26;refine(zAf _ _ _ _).mono ?_;rintro e w' ⟨rfl,rfl⟩)
  go_ret;exact⟨zA1 hm.out.symm,(zr w).alloc _⟩
theorem zF1{w w1:World}{c:Value}{T:TypeId}(he:Ext (w.alloc (.cells #[c] T)) w1):w.heap.size < w1.heap.size/\w1.cell? ⟨w.heap.size,0,none⟩=some c:=by
 have hs:w.heap.size < (w.alloc (.cells #[c] T)).heap.size:=by simp
 refine⟨zl hs he.sz,?_⟩;rw[(zE5 he).1 _ _ hs];simp
theorem zF9(v:Value)(xs:List Slot)(n:Int)(w:World)(h:Rs w v xs) :
  Calls Try.prog 64 #[v,.int .i64 n] w fun e w'=>e = .returned (.bool (zCa xs n))/\Ext w w':=by
 have e0:=zh ((zr w).alloc (.cells #[.int .i64 n] 3));have H:=zh h;obtain⟨a,c,rfl,hl⟩:=h.form;clear h;by_cases h1:zA5 n 0 5=true
 ·obtain⟨hn1,hn2⟩:=zA4.1 h1;have HX:=zh (has_Slot 82 #[.pointer (some ⟨w.heap.size,0,none⟩)] (fun x => !zCl n x) _ xs _ (H.out.ext e0.out) (zBu Try.func82 (by kernel_rfl) (by kernel_rfl))
   (fun w1 v x he _ hv=>zEg v x _ n w1 hv (zF1 he).1 (zF1 he).2 hn1 hn2))
  by_cases h2:zA5 xs.length 1 12=true
  ·have hm:=zh ((zBe (zCl n) xs).trans ((zAg h1).trans (zAg h2)).symm:_=zCa xs n);go_enter Try.func64,Try.ntmps64;go_wp2_with (first|(go_at_call 26;refine(zAf _ _ _ _).mono ?_;rintro e w' ⟨rfl,rfl⟩)|(go_at_call 81;refine HX.out.mono ?_;rintro e w' ⟨rfl,he⟩))
   go_ret;exact⟨zA1 hm.out,e0.out.tr he⟩
  ·rw[Bool.not_eq_true] at h2;have hm:=zh (((zAg h1).trans (zAj h2)).symm:_=zCa xs n);go_enter Try.func64,Try.ntmps64;go_wp2_with (go_at_call 26;refine(zAf _ _ _ _).mono ?_;rintro e w' ⟨rfl,rfl⟩)
   go_ret;exact⟨zA1 hm.out,e0.out⟩
 ·rw[Bool.not_eq_true] at h1;have hm:=zh ((zAj h1).symm:_=zCa xs n);go_enter Try.func64,Try.ntmps64;go_wp2_with (go_at_call 26;refine(zAf _ _ _ _).mono ?_;rintro e w' ⟨rfl,rfl⟩)
  go_ret;exact⟨zA1 hm.out,e0.out⟩
theorem zBl(v:Value)(xs:List Slot)(n:Int)(w:World)(h:Rs w v xs) :
    Calls Try.prog 49 #[v,.int .i64 n] w fun e w'=>e = .returned (.bool (zCa xs n))/\Ext w w':=by
  obtain⟨a,c,rfl,hl⟩:=h.form;have H:=zh h;clear h;by_cases h1:zA5 n 0 5=true
  · obtain⟨hn1,hn2⟩:=zA4.1 h1;go_enter Try.func49,Try.ntmps49;go_wp2;go_loopw [5] (fun i wr => ∃ k:Nat,k<=xs.length/\i = .int .i64 k/\(xs.take k).all (zCl n)=true/\Ext w wr) (fun i _=>xs.length - (intOf i).toNat)
    case atStart=>exact⟨0,Nat.zero_le _,rfl,rfl,.refl _⟩
    case round =>
      obtain⟨k,hk,rfl,he,hq⟩:=hrel;have HE:=zh he;have HQ:=zh hq;clear he hq;by_cases hlt:k < xs.length
      · obtain⟨b,o,x,rfl,hb,hx,hc0,hc1,hr0,hr1,hv⟩:=(H.out.ext HQ.out).atSlot k hlt;clear H;by_cases hw:zA5 x.Ticks 1 20=true
        · by_cases hi:zA5 x.Who (-1) (n - 1)=true
          · have hp:zCl n x=true:=by unfold zCl;rw[hw,hi];rfl
            have HN:=zh ((zAy (zCl n) hx.out).trans (by rw[HE.out,hp];rfl:_=true))
            clear hp;go_wp2_with (go_at_call 31;refine(zAa _ _ _ _).mono ?_;rintro e w' ⟨rfl,rfl⟩)
            go_roundw
            case rel=>exact⟨k+1,by omega,by go_num,HN.out,HQ.out⟩
            case measure=>simp[intOf];omega
          · rw[Bool.not_eq_true] at hi;have HN:Hid (zCa xs n=false):=zh (by unfold zCa;rw[zAu (zCl n) hx.out (by unfold zCl;rw[hi,Bool.and_false]),Bool.and_false,Bool.and_false])
            go_wp2_with (go_at_call 31;refine(zAa _ _ _ _).mono ?_;rintro e w' ⟨rfl,rfl⟩)
            go_ret;exact⟨zA1 HN.out.symm,HQ.out⟩
        · rw[Bool.not_eq_true] at hw;have HN:Hid (zCa xs n=false):=zh (by unfold zCa;rw[zAu (zCl n) hx.out (by unfold zCl;rw[hw,Bool.false_and]),Bool.and_false,Bool.and_false])
          go_wp2_with (go_at_call 31;refine(zAa _ _ _ _).mono ?_;rintro e w' ⟨rfl,rfl⟩)
          go_ret;exact⟨zA1 HN.out.symm,HQ.out⟩
      · have HN:Hid (zCa xs n=zA5 xs.length 1 12):=zh (by
          unfold zCa;rw[<- zB4 (zCl n) xs k (by omega),HE.out,Bool.and_true,h1,Bool.true_and])
        clear H;cases h2:zA5 xs.length 1 12
        all_goals
          go_wp2_with (go_at_call 31;refine(zAa _ _ _ _).mono ?_;rintro e w' ⟨rfl,rfl⟩)
          go_ret;exact⟨zA1 (by rw[HN.out,h2]),HQ.out⟩
  · rw[Bool.not_eq_true] at h1;have HN:Hid (zCa xs n=false):=zh (zAj h1);go_enter Try.func49,Try.ntmps49;go_wp2;go_loopw [5] (fun i wr => ∃ k:Nat,k<=xs.length/\i = .int .i64 k/\Ext w wr) (fun i _=>xs.length - (intOf i).toNat)
    case atStart=>exact⟨0,Nat.zero_le _,rfl,.refl _⟩
    case round =>
      obtain⟨k,hk,rfl,hq⟩:=hrel;have HQ:=zh hq;clear hq;by_cases hlt:k < xs.length
      · obtain⟨b,o,x,rfl,hb,hx,hc0,hc1,hr0,hr1,hv⟩:=(H.out.ext HQ.out).atSlot k hlt;clear H;go_wp2_with (go_at_call 31;refine(zAa _ _ _ _).mono ?_;rintro e w' ⟨rfl,rfl⟩)
        all_goals first
          | (go_ret;exact⟨zA1 HN.out.symm,HQ.out⟩)
          | (go_roundw
             case rel=>exact⟨k+1,by omega,by go_num,HQ.out⟩
             case measure=>simp[intOf];omega)
      · clear H;go_wp2_with (go_at_call 31;refine(zAa _ _ _ _).mono ?_;rintro e w' ⟨rfl,rfl⟩)
        all_goals go_ret
        all_goals exact⟨zA1 HN.out.symm,HQ.out⟩
end Sk
