/- Contracts of functions of the given program. -/
import Derived.Test.YtfjimbnblklhdaaGreatApp
import Derived.Test.YtfjimbnblklhdaaGreatFind
namespace Sk
open Go Go.Proofs Go.RowKit
set_option maxHeartbeats 400000
set_option maxRecDepth 100000
set_option linter.unusedVariables false
set_option linter.unusedSimpArgs false
theorem zBt{α:Type}(f : α -> Bool)(xs:List α):(!xs.any fun x => !f x)=xs.all f:=by
 induction xs with
 | nil=>rfl
 | cons x xs ih=>simp only[List.any_cons,List.all_cons,Bool.not_or,Bool.not_not,ih]
theorem zB1{a b:Bool}(h:a=true):(a && b)=b:=by simp[h]
theorem zB9{a b:Bool}(h:a=false):(a && b)=false:=by simp[h]
def zKd(x:Window):Bool:=zA8 x.Base 0 4095 && zA8 x.Size 1 (4096 - x.Base)
theorem zHv(v:Value)(x:Window)(w:World)(h:Rv w v x) :
  Calls Tryz.prog 82 #[v] w fun e w'=>e = .returned (.bool (zKd x))/\Ext w w':=by
 obtain⟨rfl,h1,h2⟩:=h.openWindow;by_cases hb:zA8 x.Base 0 4095=true
 ·have hm:=zh (zB1 hb:zKd x=_);have hb2:=zA6.1 hb;obtain⟨hb3,hb4⟩:=hb2;go_enter Tryz.func82,Tryz.ntmps82;go_wp2_with (go_at_call 37;refine(zAm _ _ _ _).mono ?_;rintro e w' ⟨rfl,rfl⟩)
  go_ret;exact⟨zA2 hm.out.symm,(zr w).alloc _⟩
 ·rw[Bool.not_eq_true] at hb;have hm:=zh (zB9 hb:zKd x=_);go_enter Tryz.func82,Tryz.ntmps82;go_wp2_with (go_at_call 37;refine(zAm _ _ _ _).mono ?_;rintro e w' ⟨rfl,rfl⟩)
  go_ret;exact⟨zA2 hm.out.symm,(zr w).alloc _⟩
theorem zEu(v:Value)(x:Window)(w:World)(h:Rv w v x) :
  Calls Tryz.prog 151 #[v] w fun e w'=>e = .returned (.bool (zKd x))/\Ext w w':=by
 obtain⟨rfl,h1,h2⟩:=h.openWindow;by_cases hb:zA8 x.Base 0 4095=true
 ·have hm:=zh (zB1 hb:zKd x=_);obtain⟨hb3,hb4⟩:=zA6.1 hb;go_enter Tryz.func151,Tryz.ntmps151;go_wp2_with (go_at_call 22;refine(zAf _ _ _ _).mono ?_;rintro e w' ⟨rfl,rfl⟩)
  go_ret;exact⟨zA2 hm.out.symm,(zr w).alloc _⟩
 ·rw[Bool.not_eq_true] at hb;have hm:=zh (zB9 hb:zKd x=_);go_enter Tryz.func151,Tryz.ntmps151;go_wp2_with (go_at_call 22;refine(zAf _ _ _ _).mono ?_;rintro e w' ⟨rfl,rfl⟩)
  go_ret;exact⟨zA2 hm.out.symm,(zr w).alloc _⟩
theorem zGo(v:Value)(x:Window)(w:World)(h:Rv w v x) :
  Calls Tryz.prog 81 #[v] w fun e w'=>e = .returned (.bool (!zKd x))/\Ext w w':=by
 have H:=zh h;obtain⟨rfl,h1,h2⟩:=h.openWindow;clear h;go_enter Tryz.func81,Tryz.ntmps81;go_wp2_with (go_at_call 82;refine(zHv _ x _ (H.out.ext ((zr w).alloc _))).mono ?_;rintro e w' ⟨rfl,he⟩)
 go_ret;exact⟨rfl,((zr w).alloc _).tr he⟩
def zGl(xs:List Window):Bool:=decide (xs.length<=12) && xs.all zKd
theorem zDa(v:Value)(xs:List Window)(w:World)(h:Rs w v xs) :
  Calls Tryz.prog 47 #[v] w fun e w'=>e = .returned (.bool (zGl xs))/\Ext w w':=by
 have HX:=zh (zOk 81 #[] (fun x => !zKd x) v xs w h (zCv Tryz.func81 (by kernel_rfl) (by kernel_rfl)) (fun w1 v x _ _ hv=>zGo v x w1 hv))
 obtain⟨a,c,rfl,hl⟩:=h.form;clear h;by_cases hle:xs.length<=12
 ·have hm:=zh ((zBt zKd xs).trans (zB1 (decide_eq_true hle)).symm:_=zGl xs);go_enter Tryz.func47,Tryz.ntmps47;go_wp2_with (go_at_call 80;refine HX.out.mono ?_;rintro e w' ⟨rfl,he⟩)
  go_ret;exact⟨zA2 hm.out,he⟩
 ·have hm:=zh (zB9 (decide_eq_false hle):zGl xs=_);go_enter Tryz.func47,Tryz.ntmps47;go_wp2;go_ret;exact⟨zA2 hm.out.symm,.refl _⟩
theorem zDe(v:Value)(xs:List Window)(w:World)(h:Rs w v xs) :
  Calls Tryz.prog 122 #[v] w fun e w'=>e = .returned (.bool (zGl xs))/\Ext w w':=by
 obtain⟨a,c,rfl,hl⟩:=h.form;have H:=zh h;clear h;go_enter Tryz.func122,Tryz.ntmps122;go_wp2;go_loopw [3] (fun i wr => ∃ k:Nat,k<=xs.length/\i = .int .i64 k/\(xs.take k).all zKd=true/\Ext w wr) (fun i _=>xs.length - (intOf i).toNat)
 case atStart=>exact⟨0,Nat.zero_le _,rfl,rfl,.refl _⟩
 case round =>
  obtain⟨k,hk,rfl,he,hq⟩:=hrel;have HE:=zh he;have HQ:=zh hq;clear he hq;by_cases hlt:k < xs.length
  ·obtain⟨b,o,x,rfl,hb,hx,hc0,hc1,hc2,hr0,hr1,hv⟩:=(H.out.ext HQ.out).atWindow k hlt;clear H;by_cases hw:zKd x=true
   ·have HN:=zh (zBs zKd hx.out);go_wp2_with (go_at_call 151;refine(zEu _ x _ hv.out).mono ?_;rintro e w' ⟨rfl,he⟩;have HE2:=zh (HQ.out.tr he);clear he)
    go_roundw
    case rel=>exact⟨k+1,by omega,by go_num,by rw[HN.out,HE.out,hw];rfl,HE2.out⟩
    case measure=>simp[intOf];omega
   ·rw[Bool.not_eq_true] at hw;have HN:Hid (zGl xs=false):=zh (by unfold zGl;rw[zBl zKd hx.out hw,Bool.and_false])
    go_wp2_with (go_at_call 151;refine(zEu _ x _ hv.out).mono ?_;rintro e w' ⟨rfl,he⟩;have HE2:=zh (HQ.out.tr he);clear he)
    go_ret;exact⟨zA2 HN.out.symm,HE2.out⟩
  ·have HN:Hid (zGl xs=decide (xs.length<=12)):=zh (by
    unfold zGl;rw[<- zCa zKd xs k (by omega),HE.out,Bool.and_true])
   clear H;by_cases hle:xs.length<=12
   ·go_wp2;go_ret;exact⟨zA2 (by rw[HN.out,decide_eq_true hle];exact decide_eq_true (by omega)),HQ.out⟩
   ·go_wp2;go_ret;exact⟨zA2 (by rw[HN.out,decide_eq_false hle];exact decide_eq_false (by omega)),HQ.out⟩
def zDv(p:Part):Bool:=zGl p.Windows && zA8 p.Cells 1 8
def zFf(xs:List Part):Bool:=decide (xs.length<=5) && xs.all zDv
theorem zHs(v:Value)(x:Part)(w:World)(h:Rv w v x) :
  Calls Tryz.prog 117 #[v] w fun e w'=>e = .returned (.bool (!zDv x))/\Ext w w':=by
 obtain⟨a0,c0,rfl,hr1,hs,hl⟩:=h.openPart;clear h;have e0:=zh ((zr w).alloc (.cells #[.slice a0 x.Windows.length c0,.int .i64 x.Cells] 83));by_cases hw:zGl x.Windows=true
 ·have hm:=zh (congrArg (! ·) (zB1 hw:zDv x=_))
  go_enter Tryz.func117,Tryz.ntmps117;go_wp2_with fail
  refine(zDa _ _ _ (hs.out.ext e0.out)).mono ?_;rintro e w1 ⟨rfl,he⟩;obtain⟨hcb,hfb⟩:=zDi he;go_wp2_with (go_at_call 37;refine(zAm _ _ _ _).mono ?_;rintro e w' ⟨rfl,rfl⟩)
  go_ret;exact⟨zA2 hm.out.symm,e0.out.tr he⟩
 ·rw[Bool.not_eq_true] at hw;have hm:=zh (congrArg (! ·) (zB9 hw:zDv x=_))
  go_enter Tryz.func117,Tryz.ntmps117;go_wp2_with fail
  refine(zDa _ _ _ (hs.out.ext e0.out)).mono ?_;rintro e w1 ⟨rfl,he⟩;have HE:=zh he;clear he;go_wp2;go_ret;exact⟨zA2 hm.out.symm,e0.out.tr HE.out⟩
theorem zE1(v:Value)(xs:List Part)(w:World)(h:Rs w v xs) :
  Calls Tryz.prog 72 #[v] w fun e w'=>e = .returned (.bool (zFf xs))/\Ext w w':=by
 have HX:=zh (has_Part 117 #[] (fun x => !zDv x) v xs w h (zCv Tryz.func117 (by kernel_rfl) (by kernel_rfl)) (fun w1 v x _ _ hv=>zHs v x w1 hv))
 obtain⟨a,c,rfl,hl⟩:=h.form;clear h;by_cases hle:xs.length<=5
 ·have hm:=zh ((zBt zDv xs).trans (zB1 (decide_eq_true hle)).symm:_=zFf xs);go_enter Tryz.func72,Tryz.ntmps72;go_wp2_with (go_at_call 116;refine HX.out.mono ?_;rintro e w' ⟨rfl,he⟩)
  go_ret;exact⟨zA2 hm.out,he⟩
 ·have hm:=zh (zB9 (decide_eq_false hle):zFf xs=_);go_enter Tryz.func72,Tryz.ntmps72;go_wp2;go_ret;exact⟨zA2 hm.out.symm,.refl _⟩
theorem zE3(v:Value)(xs:List Part)(w:World)(h:Rs w v xs) :
  Calls Tryz.prog 77 #[v] w fun e w'=>e = .returned (.bool (zFf xs))/\Ext w w':=by
 obtain⟨a,c,rfl,hl⟩:=h.form;have H:=zh h;clear h;go_enter Tryz.func77,Tryz.ntmps77;go_wp2;go_loopw [3] (fun i wr => ∃ k:Nat,k<=xs.length/\i = .int .i64 k/\(xs.take k).all zDv=true/\Ext w wr) (fun i _=>xs.length - (intOf i).toNat)
 case atStart=>exact⟨0,Nat.zero_le _,rfl,rfl,.refl _⟩
 case round =>
  obtain⟨k,hk,rfl,he,hq⟩:=hrel;have HE:=zh he;have HQ:=zh hq;clear he hq;by_cases hlt:k < xs.length
  ·obtain⟨b,o,x,a0,c0,rfl,hb,hx,hc0,hc1,hr1,hs0,hl0,hv⟩:=(H.out.ext HQ.out).atPart k hlt;clear H;by_cases hw:zGl x.Windows=true
   ·by_cases hi:zA8 x.Cells 1 8=true
    ·have hp:zDv x=true:=by unfold zDv;rw[hw,hi];rfl
     have HN:=zh ((zBs zDv hx.out).trans (by rw[HE.out,hp];rfl:_=true))
     clear hp;go_wp2_with fail
     refine(zDe _ _ _ hs0.out).mono ?_;rintro e w1 ⟨rfl,he⟩;obtain⟨hcb,hfb⟩:=zDi he;go_wp2_with (go_at_call 22;refine(zAf _ _ _ _).mono ?_;rintro e w' ⟨rfl,rfl⟩)
     go_roundw
     case rel=>exact⟨k+1,by omega,by go_num,HN.out,HQ.out.tr he⟩
     case measure=>simp[intOf];omega
    ·rw[Bool.not_eq_true] at hi;have HN:Hid (zFf xs=false):=zh (by unfold zFf;rw[zBl zDv hx.out (by unfold zDv;rw[hi,Bool.and_false]),Bool.and_false])
     go_wp2_with fail
     refine(zDe _ _ _ hs0.out).mono ?_;rintro e w1 ⟨rfl,he⟩;obtain⟨hcb,hfb⟩:=zDi he;go_wp2_with (go_at_call 22;refine(zAf _ _ _ _).mono ?_;rintro e w' ⟨rfl,rfl⟩)
     go_ret;exact⟨zA2 HN.out.symm,HQ.out.tr he⟩
   ·rw[Bool.not_eq_true] at hw;have HN:Hid (zFf xs=false):=zh (by unfold zFf;rw[zBl zDv hx.out (by unfold zDv;rw[hw,Bool.false_and]),Bool.and_false])
    go_wp2_with fail
    refine(zDe _ _ _ hs0.out).mono ?_;rintro e w1 ⟨rfl,he⟩;have HE2:=zh (HQ.out.tr he);clear he;go_wp2;go_ret;exact⟨zA2 HN.out.symm,HE2.out⟩
  ·have HN:Hid (zFf xs=decide (xs.length<=5)):=zh (by
    unfold zFf;rw[<- zCa zDv xs k (by omega),HE.out,Bool.and_true])
   clear H;by_cases hle:xs.length<=5
   ·go_wp2;go_ret;exact⟨zA2 (by rw[HN.out,decide_eq_true hle];exact decide_eq_true (by omega)),HQ.out⟩
   ·go_wp2;go_ret;exact⟨zA2 (by rw[HN.out,decide_eq_false hle];exact decide_eq_false (by omega)),HQ.out⟩
def zE5(n:Int)(x:Slot):Bool:=zA8 x.Ticks 1 20 && zA8 x.Who (-1) (n - 1)
def zDy(xs:List Slot)(n:Int):Bool:=zA8 n 0 5 && (zA8 xs.length 1 12 && xs.all (zE5 n))
theorem zHt(v:Value)(x:Slot)(b:Nat)(n:Int)(w:World)(h:Rv w v x)(hb:b < w.heap.size)(hc:w.cell? ⟨b,0,none⟩=some (.int .i64 n))(hn1:0<=n)(hn2:n<=5) :
  Calls Tryz.prog 120 #[v,.pointer (some ⟨b,0,none⟩)] w fun e w'=>e = .returned (.bool (!zE5 n x))/\Ext w w':=by
 obtain⟨rfl,hr0,hr1⟩:=h.openSlot;clear h;by_cases hw:zA8 x.Ticks 1 20=true
 ·have hm:=zh (congrArg (! ·) (zB1 hw:zE5 n x=_))
  go_enter Tryz.func120,Tryz.ntmps120;go_wp2_with (go_at_call 37;refine(zAm _ _ _ _).mono ?_;rintro e w' ⟨rfl,rfl⟩)
  go_ret;exact⟨zA2 hm.out.symm,(zr w).alloc _⟩
 ·rw[Bool.not_eq_true] at hw;have hm:=zh (congrArg (! ·) (zB9 hw:zE5 n x=_))
  go_enter Tryz.func120,Tryz.ntmps120;go_wp2_with (go_at_call 37;refine(zAm _ _ _ _).mono ?_;rintro e w' ⟨rfl,rfl⟩)
  go_ret;exact⟨zA2 hm.out.symm,(zr w).alloc _⟩
theorem zJd{w w1:World}{c:Value}{T:TypeId}(he:Ext (w.alloc (.cells #[c] T)) w1):w.heap.size < w1.heap.size/\w1.cell? ⟨w.heap.size,0,none⟩=some c:=by
 have hs:w.heap.size < (w.alloc (.cells #[c] T)).heap.size:=by simp
 refine⟨zl hs he.sz,?_⟩;rw[(zDi he).1 _ _ hs];simp
theorem zJv(v:Value)(xs:List Slot)(n:Int)(w:World)(h:Rs w v xs) :
  Calls Tryz.prog 74 #[v,.int .i64 n] w fun e w'=>e = .returned (.bool (zDy xs n))/\Ext w w':=by
 have e0:=zh ((zr w).alloc (.cells #[.int .i64 n] 3));have H:=zh h;obtain⟨a,c,rfl,hl⟩:=h.form;clear h;by_cases h1:zA8 n 0 5=true
 ·obtain⟨hn1,hn2⟩:=zA6.1 h1;have HX:=zh (has_Slot 120 #[.pointer (some ⟨w.heap.size,0,none⟩)] (fun x => !zE5 n x) _ xs _ (H.out.ext e0.out) (zCv Tryz.func120 (by kernel_rfl) (by kernel_rfl))
   (fun w1 v x he _ hv=>zHt v x _ n w1 hv (zJd he).1 (zJd he).2 hn1 hn2))
  by_cases h2:zA8 xs.length 1 12=true
  ·have hm:=zh ((zBt (zE5 n) xs).trans ((zB1 h1).trans (zB1 h2)).symm:_=zDy xs n);go_enter Tryz.func74,Tryz.ntmps74;go_wp2_with (first|(go_at_call 37;refine(zAm _ _ _ _).mono ?_;rintro e w' ⟨rfl,rfl⟩)|(go_at_call 119;refine HX.out.mono ?_;rintro e w' ⟨rfl,he⟩))
   go_ret;exact⟨zA2 hm.out,e0.out.tr he⟩
  ·rw[Bool.not_eq_true] at h2;have hm:=zh (((zB1 h1).trans (zB9 h2)).symm:_=zDy xs n);go_enter Tryz.func74,Tryz.ntmps74;go_wp2_with (go_at_call 37;refine(zAm _ _ _ _).mono ?_;rintro e w' ⟨rfl,rfl⟩)
   go_ret;exact⟨zA2 hm.out,e0.out⟩
 ·rw[Bool.not_eq_true] at h1;have hm:=zh ((zB9 h1).symm:_=zDy xs n);go_enter Tryz.func74,Tryz.ntmps74;go_wp2_with (go_at_call 37;refine(zAm _ _ _ _).mono ?_;rintro e w' ⟨rfl,rfl⟩)
  go_ret;exact⟨zA2 hm.out,e0.out⟩
theorem zD1(v:Value)(xs:List Slot)(n:Int)(w:World)(h:Rs w v xs) :
    Calls Tryz.prog 78 #[v,.int .i64 n] w fun e w'=>e = .returned (.bool (zDy xs n))/\Ext w w':=by
  obtain⟨a,c,rfl,hl⟩:=h.form;have H:=zh h;clear h;by_cases h1:zA8 n 0 5=true
  · obtain⟨hn1,hn2⟩:=zA6.1 h1;go_enter Tryz.func78,Tryz.ntmps78;go_wp2;go_loopw [5] (fun i wr => ∃ k:Nat,k<=xs.length/\i = .int .i64 k/\(xs.take k).all (zE5 n)=true/\Ext w wr) (fun i _=>xs.length - (intOf i).toNat)
    case atStart=>exact⟨0,Nat.zero_le _,rfl,rfl,.refl _⟩
    case round =>
      obtain⟨k,hk,rfl,he,hq⟩:=hrel;have HE:=zh he;have HQ:=zh hq;clear he hq;by_cases hlt:k < xs.length
      · obtain⟨b,o,x,rfl,hb,hx,hc0,hc1,hr0,hr1,hv⟩:=(H.out.ext HQ.out).atSlot k hlt;clear H;by_cases hw:zA8 x.Ticks 1 20=true
        · by_cases hi:zA8 x.Who (-1) (n - 1)=true
          · have hp:zE5 n x=true:=by unfold zE5;rw[hw,hi];rfl
            have HN:=zh ((zBs (zE5 n) hx.out).trans (by rw[HE.out,hp];rfl:_=true))
            clear hp;go_wp2_with (go_at_call 22;refine(zAf _ _ _ _).mono ?_;rintro e w' ⟨rfl,rfl⟩)
            go_roundw
            case rel=>exact⟨k+1,by omega,by go_num,HN.out,HQ.out⟩
            case measure=>simp[intOf];omega
          · rw[Bool.not_eq_true] at hi;have HN:Hid (zDy xs n=false):=zh (by unfold zDy;rw[zBl (zE5 n) hx.out (by unfold zE5;rw[hi,Bool.and_false]),Bool.and_false,Bool.and_false])
            go_wp2_with (go_at_call 22;refine(zAf _ _ _ _).mono ?_;rintro e w' ⟨rfl,rfl⟩)
            go_ret;exact⟨zA2 HN.out.symm,HQ.out⟩
        · rw[Bool.not_eq_true] at hw;have HN:Hid (zDy xs n=false):=zh (by unfold zDy;rw[zBl (zE5 n) hx.out (by unfold zE5;rw[hw,Bool.false_and]),Bool.and_false,Bool.and_false])
          go_wp2_with (go_at_call 22;refine(zAf _ _ _ _).mono ?_;rintro e w' ⟨rfl,rfl⟩)
          go_ret;exact⟨zA2 HN.out.symm,HQ.out⟩
      · have HN:Hid (zDy xs n=zA8 xs.length 1 12):=zh (by
          unfold zDy;rw[<- zCa (zE5 n) xs k (by omega),HE.out,Bool.and_true,h1,Bool.true_and])
        clear H;cases h2:zA8 xs.length 1 12
        all_goals
          go_wp2_with (go_at_call 22;refine(zAf _ _ _ _).mono ?_;rintro e w' ⟨rfl,rfl⟩)
          go_ret;exact⟨zA2 (by rw[HN.out,h2]),HQ.out⟩
  · rw[Bool.not_eq_true] at h1;have HN:Hid (zDy xs n=false):=zh (zB9 h1);go_enter Tryz.func78,Tryz.ntmps78;go_wp2;go_loopw [5] (fun i wr => ∃ k:Nat,k<=xs.length/\i = .int .i64 k/\Ext w wr) (fun i _=>xs.length - (intOf i).toNat)
    case atStart=>exact⟨0,Nat.zero_le _,rfl,.refl _⟩
    case round =>
      obtain⟨k,hk,rfl,hq⟩:=hrel;have HQ:=zh hq;clear hq;by_cases hlt:k < xs.length
      · obtain⟨b,o,x,rfl,hb,hx,hc0,hc1,hr0,hr1,hv⟩:=(H.out.ext HQ.out).atSlot k hlt;clear H;go_wp2_with (go_at_call 22;refine(zAf _ _ _ _).mono ?_;rintro e w' ⟨rfl,rfl⟩)
        all_goals first
          | (go_ret;exact⟨zA2 HN.out.symm,HQ.out⟩)
          | (go_roundw
             case rel=>exact⟨k+1,by omega,by go_num,HQ.out⟩
             case measure=>simp[intOf];omega)
      · clear H;go_wp2_with (go_at_call 22;refine(zAf _ _ _ _).mono ?_;rintro e w' ⟨rfl,rfl⟩)
        all_goals go_ret
        all_goals exact⟨zA2 HN.out.symm,HQ.out⟩
theorem not_f{b:Bool}(h:b=false):(!b)=true:=by rw[h];rfl
theorem not_t{b:Bool}(h:b=true):(!b)=false:=by rw[h];rfl
noncomputable def zJ4(n:Int)(c:Channel):Bool:=zC7 c.Kind c.Size && (zA8 c.From 0 (n - 1) && (zA8 c.To 0 (n - 1) && !(c.From == c.To)))
noncomputable def zD3(xs:List Channel)(n:Int):Bool:=zA8 n 0 5 && (decide (xs.length<=8) && xs.all (zJ4 n))
theorem zGh{k s:Int}:zC7 k s=true ↔ (k=1/\s=1\/(k=2\/k=3)/\1<=s/\s<=4):=Bo.iff
theorem zJ5{n:Int}{c:Channel}:zJ4 n c=true ↔ (c.Kind=1/\c.Size=1\/(c.Kind=2\/c.Kind=3)/\1<=c.Size/\c.Size<=4)/\(0<=c.From/\c.From<=n - 1)/\(0<=c.To/\c.To<=n - 1)/\c.From≠c.To:=by
 unfold zJ4;simp only[Bool.and_eq_true,zGh,zA6,Bool.not_eq_true',beq_eq_false_iff_ne]
theorem zG5(v:Value)(x:Channel)(b:Nat)(n:Int)(w:World)(h:Rv w v x)(hb:b < w.heap.size)(hc:w.cell? ⟨b,0,none⟩=some (.int .i64 n))(hn1:0<=n)(hn2:n<=5) :
  Calls Tryz.prog 118 #[v,.pointer (some ⟨b,0,none⟩)] w fun e w'=>e = .returned (.bool (!zJ4 n x))/\Ext w w':=by
 obtain⟨rfl,hr0,hr1,hr2,hr3⟩:=h.openChannel;clear h;cases h1:zC7 x.Kind x.Size
 ·have hm:=zh (congrArg (! ·) (zB9 h1:zJ4 n x=_))
  go_enter Tryz.func118,Tryz.ntmps118;go_wp2_with (first|(go_at_call 94;refine(zDb _ _ _).mono ?_;rintro e w' ⟨rfl,rfl⟩)|(go_at_call 37;refine(zAm _ _ _ _).mono ?_;rintro e w' ⟨rfl,rfl⟩))
  go_ret;exact⟨zA2 hm.out.symm,(zr w).alloc _⟩
 ·cases h2:zA8 x.From 0 (n - 1)
  ·have hm:=zh (congrArg (! ·) ((zB1 h1).trans (zB9 h2):zJ4 n x=_))
   go_enter Tryz.func118,Tryz.ntmps118;go_wp2_with (first|(go_at_call 94;refine(zDb _ _ _).mono ?_;rintro e w' ⟨rfl,rfl⟩)|(go_at_call 37;refine(zAm _ _ _ _).mono ?_;rintro e w' ⟨rfl,rfl⟩))
   go_ret;exact⟨zA2 hm.out.symm,(zr w).alloc _⟩
  ·cases h3:zA8 x.To 0 (n - 1)
   ·have hm:=zh (congrArg (! ·) ((zB1 h1).trans ((zB1 h2).trans (zB9 h3)):zJ4 n x=_))
    go_enter Tryz.func118,Tryz.ntmps118;go_wp2_with (first|(go_at_call 94;refine(zDb _ _ _).mono ?_;rintro e w' ⟨rfl,rfl⟩)|(go_at_call 37;refine(zAm _ _ _ _).mono ?_;rintro e w' ⟨rfl,rfl⟩))
    go_ret;exact⟨zA2 hm.out.symm,(zr w).alloc _⟩
   ·have hm:Hid ((!zJ4 n x)=(x.From == x.To)):=zh (by unfold zJ4;rw[h1,h2,h3];simp)
    go_enter Tryz.func118,Tryz.ntmps118;go_wp2_with (first|(go_at_call 94;refine(zDb _ _ _).mono ?_;rintro e w' ⟨rfl,rfl⟩)|(go_at_call 37;refine(zAm _ _ _ _).mono ?_;rintro e w' ⟨rfl,rfl⟩))
    all_goals go_ret
    all_goals exact⟨zA2 hm.out.symm,(zr w).alloc _⟩
theorem zE9(v:Value)(xs:List Channel)(n:Int)(w:World)(h:Rs w v xs) :
  Calls Tryz.prog 73 #[v,.int .i64 n] w fun e w'=>e = .returned (.bool (zD3 xs n))/\Ext w w':=by
 have e0:=zh ((zr w).alloc (.cells #[.int .i64 n] 3));have H:=zh h;obtain⟨a,c,rfl,hl⟩:=h.form;clear h;cases h1:zA8 n 0 5
 ·have hm:=zh ((zB9 h1).symm:_=zD3 xs n);go_enter Tryz.func73,Tryz.ntmps73;go_wp2_with (go_at_call 37;refine(zAm _ _ _ _).mono ?_;rintro e w' ⟨rfl,rfl⟩)
  go_ret;exact⟨zA2 hm.out,e0.out⟩
 ·obtain⟨hn1,hn2⟩:=zA6.1 h1;have HX:=zh (zJu 118 #[.pointer (some ⟨w.heap.size,0,none⟩)] (fun x => !zJ4 n x) _ xs _ (H.out.ext e0.out) (zCv Tryz.func118 (by kernel_rfl) (by kernel_rfl))
   (fun w1 v x he _ hv=>zG5 v x _ n w1 hv (zJd he).1 (zJd he).2 hn1 hn2))
  by_cases h2:xs.length<=8
  ·have hm:=zh ((zBt (zJ4 n) xs).trans ((zB1 h1).trans (zB1 (decide_eq_true h2))).symm:_=zD3 xs n);go_enter Tryz.func73,Tryz.ntmps73;go_wp2_with (first|(go_at_call 37;refine(zAm _ _ _ _).mono ?_;rintro e w' ⟨rfl,rfl⟩)|(go_at_call 75;refine HX.out.mono ?_;rintro e w' ⟨rfl,he⟩))
   go_ret;exact⟨zA2 hm.out,e0.out.tr he⟩
  ·have hm:=zh (((zB1 h1).trans (zB9 (decide_eq_false h2))).symm:_=zD3 xs n);go_enter Tryz.func73,Tryz.ntmps73;go_wp2_with (go_at_call 37;refine(zAm _ _ _ _).mono ?_;rintro e w' ⟨rfl,rfl⟩)
   go_ret;exact⟨zA2 hm.out,e0.out⟩
def M.cvs(n:Int)(c:Channel):Bool:=zA8 c.Kind 1 3 && (zA8 c.From 0 (n - 1) && (zA8 c.To 0 (n - 1) && (!(c.From == c.To) && (zA8 c.Size 1 4 && !(c.Kind == 1 && !(c.Size == 1))))))
theorem zNh(n:Int)(c:Channel):M.cvs n c=zJ4 n c:=by
 rw[Bool.eq_iff_iff,zJ5];unfold M.cvs;simp only[Bool.and_eq_true,zA6,Bool.not_eq_true',beq_eq_false_iff_ne,Bool.and_eq_false_iff,Bool.not_eq_false',beq_iff_eq];omega
theorem zB0(v:Value)(xs:List Channel)(n:Int)(w:World)(h:Rs w v xs) :
    Calls Tryz.prog 45 #[v,.int .i64 n] w fun e w'=>e = .returned (.bool (zD3 xs n))/\Ext w w':=by
  obtain⟨a,c,rfl,hl⟩:=h.form;have H:=zh h;clear h;cases h1:zA8 n 0 5
  · have HN:Hid (zD3 xs n=false):=zh (zB9 h1);go_enter Tryz.func45,Tryz.ntmps45;go_wp2;go_loopw [5,6] (fun i _ wr => ∃ k:Nat,k<=xs.length/\i = .int .i64 k/\Ext w wr) (fun i _ _=>xs.length - (intOf i).toNat)
    case atStart=>exact⟨0,Nat.zero_le _,rfl,.refl _⟩
    case round =>
      obtain⟨k,hk,rfl,hq⟩:=hrel;have HQ:=zh hq;clear hq;by_cases hlt:k < xs.length
      · obtain⟨b,o,x,rfl,hb,hx,hc0,hc1,hc2,hc3,hr0,hr1,hr2,hr3,hv⟩:=(H.out.ext HQ.out).atChannel k hlt;clear H;go_wp2_with (go_at_call 22;refine(zAf _ _ _ _).mono ?_;rintro e w' ⟨rfl,rfl⟩)
        all_goals first
          | (go_ret;exact⟨zA2 HN.out.symm,(HQ.out.alloc _).set (Nat.le_trans HQ.out.sz (by simp)) _⟩)
          | (go_ret;exact⟨zA2 HN.out.symm,HQ.out.alloc _⟩)
          | (go_roundw
             case rel=>exact⟨k+1,by omega,by go_num,HQ.out.alloc _⟩
             case measure=>simp[intOf];omega)
      · clear H;go_wp2_with (go_at_call 22;refine(zAf _ _ _ _).mono ?_;rintro e w' ⟨rfl,rfl⟩)
        all_goals go_ret
        all_goals exact⟨zA2 HN.out.symm,HQ.out⟩
  · obtain⟨hn1,hn2⟩:=zA6.1 h1;go_enter Tryz.func45,Tryz.ntmps45;go_wp2;go_loopw [5,6] (fun i _ wr => ∃ k:Nat,k<=xs.length/\i = .int .i64 k/\(xs.take k).all (zJ4 n)=true/\Ext w wr) (fun i _ _=>xs.length - (intOf i).toNat)
    case atStart=>exact⟨0,Nat.zero_le _,rfl,rfl,.refl _⟩
    case round =>
      obtain⟨k,hk,rfl,he,hq⟩:=hrel;have HE:=zh he;have HQ:=zh hq;clear he hq;by_cases hlt:k < xs.length
      · obtain⟨b,o,x,rfl,hb,hx,hc0,hc1,hc2,hc3,hr0,hr1,hr2,hr3,hv⟩:=(H.out.ext HQ.out).atChannel k hlt;clear H;have key:zJ4 n x=false->zD3 xs n=false:=fun hp=>by unfold zD3;rw[zBl (zJ4 n) hx.out hp,Bool.and_false,Bool.and_false]
        rw[<- zNh] at key;have hst:=zh ((zBs (zJ4 n) hx.out).trans (by rw[HE.out,<- zNh,Bool.true_and]))
        have KEY:=zh key;clear key;cases g1:zA8 x.Kind 1 3
        · have HN:=zh (KEY.out (zB9 g1));go_wp2_with (go_at_call 22;refine(zAf _ _ _ _).mono ?_;rintro e w' ⟨rfl,rfl⟩)
          go_ret;exact⟨zA2 HN.out.symm,HQ.out.alloc _⟩
        · cases g2:zA8 x.From 0 (n - 1)
          · have HN:=zh (KEY.out ((zB1 g1).trans (zB9 g2)));go_wp2_with (go_at_call 22;refine(zAf _ _ _ _).mono ?_;rintro e w' ⟨rfl,rfl⟩)
            go_ret;exact⟨zA2 HN.out.symm,HQ.out.alloc _⟩
          · cases g3:zA8 x.To 0 (n - 1)
            · have HN:=zh (KEY.out ((zB1 g1).trans ((zB1 g2).trans (zB9 g3))));go_wp2_with (go_at_call 22;refine(zAf _ _ _ _).mono ?_;rintro e w' ⟨rfl,rfl⟩)
              go_ret;exact⟨zA2 HN.out.symm,HQ.out.alloc _⟩
            · cases g4:(x.From == x.To)
              · cases g5:zA8 x.Size 1 4
                · have HN:=zh (KEY.out ((zB1 g1).trans ((zB1 g2).trans ((zB1 g3).trans ((zB1 (not_f g4)).trans (zB9 g5))))));go_wp2_with (go_at_call 22;refine(zAf _ _ _ _).mono ?_;rintro e w' ⟨rfl,rfl⟩)
                  go_ret;exact⟨zA2 HN.out.symm,HQ.out.alloc _⟩
                · have hcvs:M.cvs n x = !(x.Kind == 1 && !(x.Size == 1)):=(zB1 g1).trans ((zB1 g2).trans ((zB1 g3).trans ((zB1 (not_f g4)).trans (zB1 g5))));cases g6:(x.Kind == 1)
                  · have HN:=zh ((hst.out.trans (hcvs.trans (by simp[g6]))):_=true)
                    clear hcvs;go_wp2_with (go_at_call 22;refine(zAf _ _ _ _).mono ?_;rintro e w' ⟨rfl,rfl⟩)
                    go_roundw
                    case rel=>exact⟨k+1,by omega,by go_num,HN.out,HQ.out.alloc _⟩
                    case measure=>simp[intOf];omega
                  · cases g7:(x.Size == 1)
                    · have HN:=zh (KEY.out (hcvs.trans (by simp[g6,g7])))
                      clear hcvs;go_wp2_with (go_at_call 22;refine(zAf _ _ _ _).mono ?_;rintro e w' ⟨rfl,rfl⟩)
                      go_ret;exact⟨zA2 HN.out.symm,HQ.out.alloc _⟩
                    · have HN:=zh ((hst.out.trans (hcvs.trans (by simp[g6,g7]))):_=true)
                      clear hcvs;go_wp2_with (go_at_call 22;refine(zAf _ _ _ _).mono ?_;rintro e w' ⟨rfl,rfl⟩)
                      go_roundw
                      case rel=>exact⟨k+1,by omega,by go_num,HN.out,HQ.out.alloc _⟩
                      case measure=>simp[intOf];omega
              · have HN:=zh (KEY.out ((zB1 g1).trans ((zB1 g2).trans ((zB1 g3).trans (zB9 (not_t g4))))));go_wp2_with (go_at_call 22;refine(zAf _ _ _ _).mono ?_;rintro e w' ⟨rfl,rfl⟩)
                go_ret;exact⟨zA2 HN.out.symm,HQ.out.alloc _⟩
      · have HN:Hid (zD3 xs n=decide (xs.length<=8)):=zh (by
          unfold zD3;rw[<- zCa (zJ4 n) xs k (by omega),HE.out,Bool.and_true,h1,Bool.true_and])
        clear H;by_cases hle:xs.length<=8
        · go_wp2_with (go_at_call 22;refine(zAf _ _ _ _).mono ?_;rintro e w' ⟨rfl,rfl⟩)
          go_ret;exact⟨zA2 (HN.out.trans (decide_eq_true hle)).symm,HQ.out⟩
        · go_wp2_with (go_at_call 22;refine(zAf _ _ _ _).mono ?_;rintro e w' ⟨rfl,rfl⟩)
          go_ret;exact⟨zA2 (HN.out.trans (decide_eq_false hle)).symm,HQ.out⟩
noncomputable def zAu(s:Setup):Bool:=zFf s.Parts && (zD3 s.Channels s.Parts.length && zDy s.Slots s.Parts.length)
theorem zCb(v:Value)(s:Setup)(w:World)(h:Rv w v s) :
  Calls Tryz.prog 38 #[v] w fun e w'=>e = .returned (.bool (zAu s))/\Ext w w':=by
 obtain⟨a0,c0,a1,c1,a2,c2,rfl,h0,hl0,h1,hl1,h2,hl2⟩:=h.openSetup;clear h;have e0:=zh ((zr w).alloc (.cells #[.slice a0 s.Parts.length c0,.slice a1 s.Channels.length c1,.slice a2 s.Slots.length c2] 27));cases g0:zFf s.Parts
 ·have hm:=zh ((zB9 g0).symm:_=zAu s);go_enter Tryz.func38,Tryz.ntmps38;go_wp2_with fail
  refine(zE1 _ _ _ (h0.out.ext e0.out)).mono ?_;rintro e w1 ⟨rfl,he1⟩;have E1:=zh (e0.out.tr he1);clear he1;go_wp2;go_ret;exact⟨zA2 hm.out,E1.out⟩
 ·cases g1:zD3 s.Channels s.Parts.length
  ·have hm:=zh (((zB1 g0).trans (zB9 g1)).symm:_=zAu s);go_enter Tryz.func38,Tryz.ntmps38;go_wp2_with fail
   refine(zE1 _ _ _ (h0.out.ext e0.out)).mono ?_;rintro e w1 ⟨rfl,he1⟩;have E1:=zh (e0.out.tr he1);obtain⟨hcb,hfb⟩:=zDi he1;go_wp2_with fail
   refine(zE9 _ _ _ _ (h1.out.ext E1.out)).mono ?_;rintro e w2 ⟨rfl,he2⟩;have E2:=zh (E1.out.tr he2);clear he1 he2 hcb hfb;go_wp2;go_ret;exact⟨zA2 hm.out,E2.out⟩
  ·have hm:=zh (((zB1 g0).trans (zB1 g1)).symm:_=zAu s);go_enter Tryz.func38,Tryz.ntmps38;go_wp2_with fail
   refine(zE1 _ _ _ (h0.out.ext e0.out)).mono ?_;rintro e w1 ⟨rfl,he1⟩;have E1:=zh (e0.out.tr he1);obtain⟨hcb,hfb⟩:=zDi he1;go_wp2_with fail
   refine(zE9 _ _ _ _ (h1.out.ext E1.out)).mono ?_;rintro e w2 ⟨rfl,he2⟩;have E2:=zh (E1.out.tr he2);obtain⟨hcb2,hfb2⟩:=zDi (he1.tr he2);clear he1 he2 hcb hfb;go_wp2_with fail
   refine(zJv _ _ _ _ (h2.out.ext E2.out)).mono ?_;rintro e w3 ⟨rfl,he3⟩;have E3:=zh (E2.out.tr he3);clear he3;go_wp2;go_ret;exact⟨zA2 hm.out,E3.out⟩
theorem zB3(v:Value)(s:Setup)(w:World)(h:Rv w v s) :
  Calls Tryz.prog 42 #[v] w fun e w'=>e = .returned (.bool (zAu s))/\Ext w w':=by
 obtain⟨a0,c0,a1,c1,a2,c2,rfl,h0,hl0,h1,hl1,h2,hl2⟩:=h.openSetup;clear h;have e0:=zh ((zr w).alloc (.cells #[.slice a0 s.Parts.length c0,.slice a1 s.Channels.length c1,.slice a2 s.Slots.length c2] 27));cases g0:zFf s.Parts
 ·have hm:=zh ((zB9 g0).symm:_=zAu s);go_enter Tryz.func42,Tryz.ntmps42;go_wp2_with fail
  refine(zE3 _ _ _ (h0.out.ext e0.out)).mono ?_;rintro e w1 ⟨rfl,he1⟩;have E1:=zh (e0.out.tr he1);clear he1;go_wp2;go_ret;exact⟨zA2 hm.out,E1.out⟩
 ·cases g1:zD3 s.Channels s.Parts.length
  ·have hm:=zh (((zB1 g0).trans (zB9 g1)).symm:_=zAu s);go_enter Tryz.func42,Tryz.ntmps42;go_wp2_with fail
   refine(zE3 _ _ _ (h0.out.ext e0.out)).mono ?_;rintro e w1 ⟨rfl,he1⟩;have E1:=zh (e0.out.tr he1);obtain⟨hcb,hfb⟩:=zDi he1;go_wp2_with fail
   refine(zB0 _ _ _ _ (h1.out.ext E1.out)).mono ?_;rintro e w2 ⟨rfl,he2⟩;have E2:=zh (E1.out.tr he2);clear he1 he2 hcb hfb;go_wp2;go_ret;exact⟨zA2 hm.out,E2.out⟩
  ·have hm:=zh (((zB1 g0).trans (zB1 g1)).symm:_=zAu s);go_enter Tryz.func42,Tryz.ntmps42;go_wp2_with fail
   refine(zE3 _ _ _ (h0.out.ext e0.out)).mono ?_;rintro e w1 ⟨rfl,he1⟩;have E1:=zh (e0.out.tr he1);obtain⟨hcb,hfb⟩:=zDi he1;go_wp2_with fail
   refine(zB0 _ _ _ _ (h1.out.ext E1.out)).mono ?_;rintro e w2 ⟨rfl,he2⟩;have E2:=zh (E1.out.tr he2);obtain⟨hcb2,hfb2⟩:=zDi (he1.tr he2);clear he1 he2 hcb hfb;go_wp2_with fail
   refine(zD1 _ _ _ _ (h2.out.ext E2.out)).mono ?_;rintro e w3 ⟨rfl,he3⟩;have E3:=zh (E2.out.tr he3);clear he3;go_wp2;go_ret;exact⟨zA2 hm.out,E3.out⟩
end Sk
