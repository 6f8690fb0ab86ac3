/- Contracts of functions of the given program. -/
import Derived.Test.YtfdeoepbnefckaaGreatApp
import Derived.Test.YtfdeoepbnefckaaGreatFind
namespace Sk
open Go Go.Proofs Go.RowKit
set_option maxHeartbeats 400000
set_option maxRecDepth 100000
set_option linter.unusedVariables false
set_option linter.unusedSimpArgs false
theorem zBe{α:Type}(f : α -> Bool)(xs:List α):(!xs.any fun x => !f x)=xs.all f:=by
 induction xs with
 | nil=>rfl
 | cons x xs ih=>simp only[List.any_cons,List.all_cons,Bool.not_or,Bool.not_not,ih]
theorem zAj{a b:Bool}(h:a=true):(a && b)=b:=by simp[h]
theorem zAs{a b:Bool}(h:a=false):(a && b)=false:=by simp[h]
def zHw(x:Window):Bool:=zA4 x.Base 0 4095 && zA4 x.Size 1 (4096 - x.Base)
theorem zEd(v:Value)(x:Window)(w:World)(h:Rv w v x) :
  Calls Tryz.prog 105 #[v] w fun e w'=>e = .returned (.bool (zHw x))/\Ext w w':=by
 obtain⟨rfl,h1,h2⟩:=h.openWindow;by_cases hb:zA4 x.Base 0 4095=true
 ·have hm:=zh (zAj hb:zHw x=_);have hb2:=zA7.1 hb;obtain⟨hb3,hb4⟩:=hb2;go_enter Tryz.func105,Tryz.ntmps105;go_wp2_with (go_at_call 31;refine(zAc _ _ _ _).mono ?_;rintro e w' ⟨rfl,rfl⟩)
  go_ret;exact⟨zA1 hm.out.symm,(zr w).alloc _⟩
 ·rw[Bool.not_eq_true] at hb;have hm:=zh (zAs hb:zHw x=_);go_enter Tryz.func105,Tryz.ntmps105;go_wp2_with (go_at_call 31;refine(zAc _ _ _ _).mono ?_;rintro e w' ⟨rfl,rfl⟩)
  go_ret;exact⟨zA1 hm.out.symm,(zr w).alloc _⟩
theorem zCk(v:Value)(x:Window)(w:World)(h:Rv w v x) :
  Calls Tryz.prog 136 #[v] w fun e w'=>e = .returned (.bool (zHw x))/\Ext w w':=by
 obtain⟨rfl,h1,h2⟩:=h.openWindow;by_cases hb:zA4 x.Base 0 4095=true
 ·have hm:=zh (zAj hb:zHw x=_);obtain⟨hb3,hb4⟩:=zA7.1 hb;go_enter Tryz.func136,Tryz.ntmps136;go_wp2_with (go_at_call 61;refine(zAb _ _ _ _).mono ?_;rintro e w' ⟨rfl,rfl⟩)
  go_ret;exact⟨zA1 hm.out.symm,(zr w).alloc _⟩
 ·rw[Bool.not_eq_true] at hb;have hm:=zh (zAs hb:zHw x=_);go_enter Tryz.func136,Tryz.ntmps136;go_wp2_with (go_at_call 61;refine(zAb _ _ _ _).mono ?_;rintro e w' ⟨rfl,rfl⟩)
  go_ret;exact⟨zA1 hm.out.symm,(zr w).alloc _⟩
theorem zDp(v:Value)(x:Window)(w:World)(h:Rv w v x) :
  Calls Tryz.prog 104 #[v] w fun e w'=>e = .returned (.bool (!zHw x))/\Ext w w':=by
 have H:=zh h;obtain⟨rfl,h1,h2⟩:=h.openWindow;clear h;go_enter Tryz.func104,Tryz.ntmps104;go_wp2_with (go_at_call 105;refine(zEd _ x _ (H.out.ext ((zr w).alloc _))).mono ?_;rintro e w' ⟨rfl,he⟩)
 go_ret;exact⟨rfl,((zr w).alloc _).tr he⟩
def zE1(xs:List Window):Bool:=decide (xs.length<=12) && xs.all zHw
theorem zBj(v:Value)(xs:List Window)(w:World)(h:Rs w v xs) :
  Calls Tryz.prog 65 #[v] w fun e w'=>e = .returned (.bool (zE1 xs))/\Ext w w':=by
 have HX:=zh (zIv 104 #[] (fun x => !zHw x) v xs w h (zC5 Tryz.func104 (by kernel_rfl) (by kernel_rfl)) (fun w1 v x _ _ hv=>zDp v x w1 hv))
 obtain⟨a,c,rfl,hl⟩:=h.form;clear h;by_cases hle:xs.length<=12
 ·have hm:=zh ((zBe zHw xs).trans (zAj (decide_eq_true hle)).symm:_=zE1 xs);go_enter Tryz.func65,Tryz.ntmps65;go_wp2_with (go_at_call 103;refine HX.out.mono ?_;rintro e w' ⟨rfl,he⟩)
  go_ret;exact⟨zA1 hm.out,he⟩
 ·have hm:=zh (zAs (decide_eq_false hle):zE1 xs=_);go_enter Tryz.func65,Tryz.ntmps65;go_wp2;go_ret;exact⟨zA1 hm.out.symm,.refl _⟩
theorem zBm(v:Value)(xs:List Window)(w:World)(h:Rs w v xs) :
  Calls Tryz.prog 101 #[v] w fun e w'=>e = .returned (.bool (zE1 xs))/\Ext w w':=by
 obtain⟨a,c,rfl,hl⟩:=h.form;have H:=zh h;clear h;go_enter Tryz.func101,Tryz.ntmps101;go_wp2;go_loopw [3] (fun i wr => ∃ k:Nat,k<=xs.length/\i = .int .i64 k/\(xs.take k).all zHw=true/\Ext w wr) (fun i _=>xs.length - (intOf i).toNat)
 case atStart=>exact⟨0,Nat.zero_le _,rfl,rfl,.refl _⟩
 case round =>
  obtain⟨k,hk,rfl,he,hq⟩:=hrel;have HE:=zh he;have HQ:=zh hq;clear he hq;by_cases hlt:k < xs.length
  ·obtain⟨b,o,x,rfl,hb,hx,hc0,hc1,hc2,hr0,hr1,hv⟩:=(H.out.ext HQ.out).atWindow k hlt;clear H;by_cases hw:zHw x=true
   ·have HN:=zh (zB2 zHw hx.out);go_wp2_with (go_at_call 136;refine(zCk _ x _ hv.out).mono ?_;rintro e w' ⟨rfl,he⟩;have HE2:=zh (HQ.out.tr he);clear he)
    go_roundw
    case rel=>exact⟨k+1,by omega,by go_num,by rw[HN.out,HE.out,hw];rfl,HE2.out⟩
    case measure=>simp[intOf];omega
   ·rw[Bool.not_eq_true] at hw;have HN:Hid (zE1 xs=false):=zh (by unfold zE1;rw[zAy zHw hx.out hw,Bool.and_false])
    go_wp2_with (go_at_call 136;refine(zCk _ x _ hv.out).mono ?_;rintro e w' ⟨rfl,he⟩;have HE2:=zh (HQ.out.tr he);clear he)
    go_ret;exact⟨zA1 HN.out.symm,HE2.out⟩
  ·have HN:Hid (zE1 xs=decide (xs.length<=12)):=zh (by
    unfold zE1;rw[<- zB7 zHw xs k (by omega),HE.out,Bool.and_true])
   clear H;by_cases hle:xs.length<=12
   ·go_wp2;go_ret;exact⟨zA1 (by rw[HN.out,decide_eq_true hle];exact decide_eq_true (by omega)),HQ.out⟩
   ·go_wp2;go_ret;exact⟨zA1 (by rw[HN.out,decide_eq_false hle];exact decide_eq_false (by omega)),HQ.out⟩
def zD8(p:Part):Bool:=zE1 p.Windows && zA4 p.Cells 1 8
def zDi(xs:List Part):Bool:=decide (xs.length<=5) && xs.all zD8
theorem zEb(v:Value)(x:Part)(w:World)(h:Rv w v x) :
  Calls Tryz.prog 125 #[v] w fun e w'=>e = .returned (.bool (!zD8 x))/\Ext w w':=by
 obtain⟨a0,c0,rfl,hr1,hs,hl⟩:=h.openPart;clear h;have e0:=zh ((zr w).alloc (.cells #[.slice a0 x.Windows.length c0,.int .i64 x.Cells] 47));by_cases hw:zE1 x.Windows=true
 ·have hm:=zh (congrArg (! ·) (zAj hw:zD8 x=_))
  go_enter Tryz.func125,Tryz.ntmps125;go_wp2_with fail
  refine(zBj _ _ _ (hs.out.ext e0.out)).mono ?_;rintro e w1 ⟨rfl,he⟩;obtain⟨hcb,hfb⟩:=zDm he;go_wp2_with (go_at_call 31;refine(zAc _ _ _ _).mono ?_;rintro e w' ⟨rfl,rfl⟩)
  go_ret;exact⟨zA1 hm.out.symm,e0.out.tr he⟩
 ·rw[Bool.not_eq_true] at hw;have hm:=zh (congrArg (! ·) (zAs hw:zD8 x=_))
  go_enter Tryz.func125,Tryz.ntmps125;go_wp2_with fail
  refine(zBj _ _ _ (hs.out.ext e0.out)).mono ?_;rintro e w1 ⟨rfl,he⟩;have HE:=zh he;clear he;go_wp2;go_ret;exact⟨zA1 hm.out.symm,e0.out.tr HE.out⟩
theorem zBx(v:Value)(xs:List Part)(w:World)(h:Rs w v xs) :
  Calls Tryz.prog 86 #[v] w fun e w'=>e = .returned (.bool (zDi xs))/\Ext w w':=by
 have HX:=zh (has_Part 125 #[] (fun x => !zD8 x) v xs w h (zC5 Tryz.func125 (by kernel_rfl) (by kernel_rfl)) (fun w1 v x _ _ hv=>zEb v x w1 hv))
 obtain⟨a,c,rfl,hl⟩:=h.form;clear h;by_cases hle:xs.length<=5
 ·have hm:=zh ((zBe zD8 xs).trans (zAj (decide_eq_true hle)).symm:_=zDi xs);go_enter Tryz.func86,Tryz.ntmps86;go_wp2_with (go_at_call 124;refine HX.out.mono ?_;rintro e w' ⟨rfl,he⟩)
  go_ret;exact⟨zA1 hm.out,he⟩
 ·have hm:=zh (zAs (decide_eq_false hle):zDi xs=_);go_enter Tryz.func86,Tryz.ntmps86;go_wp2;go_ret;exact⟨zA1 hm.out.symm,.refl _⟩
theorem zC0(v:Value)(xs:List Part)(w:World)(h:Rs w v xs) :
  Calls Tryz.prog 58 #[v] w fun e w'=>e = .returned (.bool (zDi xs))/\Ext w w':=by
 obtain⟨a,c,rfl,hl⟩:=h.form;have H:=zh h;clear h;go_enter Tryz.func58,Tryz.ntmps58;go_wp2;go_loopw [3] (fun i wr => ∃ k:Nat,k<=xs.length/\i = .int .i64 k/\(xs.take k).all zD8=true/\Ext w wr) (fun i _=>xs.length - (intOf i).toNat)
 case atStart=>exact⟨0,Nat.zero_le _,rfl,rfl,.refl _⟩
 case round =>
  obtain⟨k,hk,rfl,he,hq⟩:=hrel;have HE:=zh he;have HQ:=zh hq;clear he hq;by_cases hlt:k < xs.length
  ·obtain⟨b,o,x,a0,c0,rfl,hb,hx,hc0,hc1,hr1,hs0,hl0,hv⟩:=(H.out.ext HQ.out).atPart k hlt;clear H;by_cases hw:zE1 x.Windows=true
   ·by_cases hi:zA4 x.Cells 1 8=true
    ·have hp:zD8 x=true:=by unfold zD8;rw[hw,hi];rfl
     have HN:=zh ((zB2 zD8 hx.out).trans (by rw[HE.out,hp];rfl:_=true))
     clear hp;go_wp2_with fail
     refine(zBm _ _ _ hs0.out).mono ?_;rintro e w1 ⟨rfl,he⟩;obtain⟨hcb,hfb⟩:=zDm he;go_wp2_with (go_at_call 61;refine(zAb _ _ _ _).mono ?_;rintro e w' ⟨rfl,rfl⟩)
     go_roundw
     case rel=>exact⟨k+1,by omega,by go_num,HN.out,HQ.out.tr he⟩
     case measure=>simp[intOf];omega
    ·rw[Bool.not_eq_true] at hi;have HN:Hid (zDi xs=false):=zh (by unfold zDi;rw[zAy zD8 hx.out (by unfold zD8;rw[hi,Bool.and_false]),Bool.and_false])
     go_wp2_with fail
     refine(zBm _ _ _ hs0.out).mono ?_;rintro e w1 ⟨rfl,he⟩;obtain⟨hcb,hfb⟩:=zDm he;go_wp2_with (go_at_call 61;refine(zAb _ _ _ _).mono ?_;rintro e w' ⟨rfl,rfl⟩)
     go_ret;exact⟨zA1 HN.out.symm,HQ.out.tr he⟩
   ·rw[Bool.not_eq_true] at hw;have HN:Hid (zDi xs=false):=zh (by unfold zDi;rw[zAy zD8 hx.out (by unfold zD8;rw[hw,Bool.false_and]),Bool.and_false])
    go_wp2_with fail
    refine(zBm _ _ _ hs0.out).mono ?_;rintro e w1 ⟨rfl,he⟩;have HE2:=zh (HQ.out.tr he);clear he;go_wp2;go_ret;exact⟨zA1 HN.out.symm,HE2.out⟩
  ·have HN:Hid (zDi xs=decide (xs.length<=5)):=zh (by
    unfold zDi;rw[<- zB7 zD8 xs k (by omega),HE.out,Bool.and_true])
   clear H;by_cases hle:xs.length<=5
   ·go_wp2;go_ret;exact⟨zA1 (by rw[HN.out,decide_eq_true hle];exact decide_eq_true (by omega)),HQ.out⟩
   ·go_wp2;go_ret;exact⟨zA1 (by rw[HN.out,decide_eq_false hle];exact decide_eq_false (by omega)),HQ.out⟩
def zCw(n:Int)(x:Slot):Bool:=zA4 x.Ticks 1 20 && zA4 x.Who (-1) (n - 1)
def zCg(xs:List Slot)(n:Int):Bool:=zA4 n 0 5 && (zA4 xs.length 1 12 && xs.all (zCw n))
theorem zEc(v:Value)(x:Slot)(b:Nat)(n:Int)(w:World)(h:Rv w v x)(hb:b < w.heap.size)(hc:w.cell? ⟨b,0,none⟩=some (.int .i64 n))(hn1:0<=n)(hn2:n<=5) :
  Calls Tryz.prog 83 #[v,.pointer (some ⟨b,0,none⟩)] w fun e w'=>e = .returned (.bool (!zCw n x))/\Ext w w':=by
 obtain⟨rfl,hr0,hr1⟩:=h.openSlot;clear h;by_cases hw:zA4 x.Ticks 1 20=true
 ·have hm:=zh (congrArg (! ·) (zAj hw:zCw n x=_))
  go_enter Tryz.func83,Tryz.ntmps83;go_wp2_with (go_at_call 31;refine(zAc _ _ _ _).mono ?_;rintro e w' ⟨rfl,rfl⟩)
  go_ret;exact⟨zA1 hm.out.symm,(zr w).alloc _⟩
 ·rw[Bool.not_eq_true] at hw;have hm:=zh (congrArg (! ·) (zAs hw:zCw n x=_))
  go_enter Tryz.func83,Tryz.ntmps83;go_wp2_with (go_at_call 31;refine(zAc _ _ _ _).mono ?_;rintro e w' ⟨rfl,rfl⟩)
  go_ret;exact⟨zA1 hm.out.symm,(zr w).alloc _⟩
theorem zFe{w w1:World}{c:Value}{T:TypeId}(he:Ext (w.alloc (.cells #[c] T)) w1):w.heap.size < w1.heap.size/\w1.cell? ⟨w.heap.size,0,none⟩=some c:=by
 have hs:w.heap.size < (w.alloc (.cells #[c] T)).heap.size:=by simp
 refine⟨zl hs he.sz,?_⟩;rw[(zDm he).1 _ _ hs];simp
theorem zCx(v:Value)(xs:List Slot)(n:Int)(w:World)(h:Rs w v xs) :
  Calls Tryz.prog 43 #[v,.int .i64 n] w fun e w'=>e = .returned (.bool (zCg xs n))/\Ext w w':=by
 have e0:=zh ((zr w).alloc (.cells #[.int .i64 n] 3));have H:=zh h;obtain⟨a,c,rfl,hl⟩:=h.form;clear h;by_cases h1:zA4 n 0 5=true
 ·obtain⟨hn1,hn2⟩:=zA7.1 h1;have HX:=zh (has_Slot 83 #[.pointer (some ⟨w.heap.size,0,none⟩)] (fun x => !zCw n x) _ xs _ (H.out.ext e0.out) (zC5 Tryz.func83 (by kernel_rfl) (by kernel_rfl))
   (fun w1 v x he _ hv=>zEc v x _ n w1 hv (zFe he).1 (zFe he).2 hn1 hn2))
  by_cases h2:zA4 xs.length 1 12=true
  ·have hm:=zh ((zBe (zCw n) xs).trans ((zAj h1).trans (zAj h2)).symm:_=zCg xs n);go_enter Tryz.func43,Tryz.ntmps43;go_wp2_with (first|(go_at_call 31;refine(zAc _ _ _ _).mono ?_;rintro e w' ⟨rfl,rfl⟩)|(go_at_call 82;refine HX.out.mono ?_;rintro e w' ⟨rfl,he⟩))
   go_ret;exact⟨zA1 hm.out,e0.out.tr he⟩
  ·rw[Bool.not_eq_true] at h2;have hm:=zh (((zAj h1).trans (zAs h2)).symm:_=zCg xs n);go_enter Tryz.func43,Tryz.ntmps43;go_wp2_with (go_at_call 31;refine(zAc _ _ _ _).mono ?_;rintro e w' ⟨rfl,rfl⟩)
   go_ret;exact⟨zA1 hm.out,e0.out⟩
 ·rw[Bool.not_eq_true] at h1;have hm:=zh ((zAs h1).symm:_=zCg xs n);go_enter Tryz.func43,Tryz.ntmps43;go_wp2_with (go_at_call 31;refine(zAc _ _ _ _).mono ?_;rintro e w' ⟨rfl,rfl⟩)
  go_ret;exact⟨zA1 hm.out,e0.out⟩
theorem zFx(v:Value)(xs:List Slot)(n:Int)(w:World)(h:Rs w v xs) :
    Calls Tryz.prog 60 #[v,.int .i64 n] w fun e w'=>e = .returned (.bool (zCg xs n))/\Ext w w':=by
  obtain⟨a,c,rfl,hl⟩:=h.form;have H:=zh h;clear h;by_cases h1:zA4 n 0 5=true
  · obtain⟨hn1,hn2⟩:=zA7.1 h1;go_enter Tryz.func60,Tryz.ntmps60;go_wp2;go_loopw [5] (fun i wr => ∃ k:Nat,k<=xs.length/\i = .int .i64 k/\(xs.take k).all (zCw n)=true/\Ext w wr) (fun i _=>xs.length - (intOf i).toNat)
    case atStart=>exact⟨0,Nat.zero_le _,rfl,rfl,.refl _⟩
    case round =>
      obtain⟨k,hk,rfl,he,hq⟩:=hrel;have HE:=zh he;have HQ:=zh hq;clear he hq;by_cases hlt:k < xs.length
      · obtain⟨b,o,x,rfl,hb,hx,hc0,hc1,hr0,hr1,hv⟩:=(H.out.ext HQ.out).atSlot k hlt;clear H;by_cases hw:zA4 x.Ticks 1 20=true
        · by_cases hi:zA4 x.Who (-1) (n - 1)=true
          · have hp:zCw n x=true:=by unfold zCw;rw[hw,hi];rfl
            have HN:=zh ((zB2 (zCw n) hx.out).trans (by rw[HE.out,hp];rfl:_=true))
            clear hp;go_wp2_with (go_at_call 61;refine(zAb _ _ _ _).mono ?_;rintro e w' ⟨rfl,rfl⟩)
            go_roundw
            case rel=>exact⟨k+1,by omega,by go_num,HN.out,HQ.out⟩
            case measure=>simp[intOf];omega
          · rw[Bool.not_eq_true] at hi;have HN:Hid (zCg xs n=false):=zh (by unfold zCg;rw[zAy (zCw n) hx.out (by unfold zCw;rw[hi,Bool.and_false]),Bool.and_false,Bool.and_false])
            go_wp2_with (go_at_call 61;refine(zAb _ _ _ _).mono ?_;rintro e w' ⟨rfl,rfl⟩)
            go_ret;exact⟨zA1 HN.out.symm,HQ.out⟩
        · rw[Bool.not_eq_true] at hw;have HN:Hid (zCg xs n=false):=zh (by unfold zCg;rw[zAy (zCw n) hx.out (by unfold zCw;rw[hw,Bool.false_and]),Bool.and_false,Bool.and_false])
          go_wp2_with (go_at_call 61;refine(zAb _ _ _ _).mono ?_;rintro e w' ⟨rfl,rfl⟩)
          go_ret;exact⟨zA1 HN.out.symm,HQ.out⟩
      · have HN:Hid (zCg xs n=zA4 xs.length 1 12):=zh (by
          unfold zCg;rw[<- zB7 (zCw n) xs k (by omega),HE.out,Bool.and_true,h1,Bool.true_and])
        clear H;cases h2:zA4 xs.length 1 12
        all_goals
          go_wp2_with (go_at_call 61;refine(zAb _ _ _ _).mono ?_;rintro e w' ⟨rfl,rfl⟩)
          go_ret;exact⟨zA1 (by rw[HN.out,h2]),HQ.out⟩
  · rw[Bool.not_eq_true] at h1;have HN:Hid (zCg xs n=false):=zh (zAs h1);go_enter Tryz.func60,Tryz.ntmps60;go_wp2;go_loopw [5] (fun i wr => ∃ k:Nat,k<=xs.length/\i = .int .i64 k/\Ext w wr) (fun i _=>xs.length - (intOf i).toNat)
    case atStart=>exact⟨0,Nat.zero_le _,rfl,.refl _⟩
    case round =>
      obtain⟨k,hk,rfl,hq⟩:=hrel;have HQ:=zh hq;clear hq;by_cases hlt:k < xs.length
      · obtain⟨b,o,x,rfl,hb,hx,hc0,hc1,hr0,hr1,hv⟩:=(H.out.ext HQ.out).atSlot k hlt;clear H;go_wp2_with (go_at_call 61;refine(zAb _ _ _ _).mono ?_;rintro e w' ⟨rfl,rfl⟩)
        all_goals first
          | (go_ret;exact⟨zA1 HN.out.symm,HQ.out⟩)
          | (go_roundw
             case rel=>exact⟨k+1,by omega,by go_num,HQ.out⟩
             case measure=>simp[intOf];omega)
      · clear H;go_wp2_with (go_at_call 61;refine(zAb _ _ _ _).mono ?_;rintro e w' ⟨rfl,rfl⟩)
        all_goals go_ret
        all_goals exact⟨zA1 HN.out.symm,HQ.out⟩
end Sk
