/- Contracts of functions of the given program. -/
import Derived.Deep.CutRange
import Derived.Test.YtfdeoepbnefckaaGreatBuild
namespace Sk
open Go Go.Proofs Go.RowKit
set_option maxHeartbeats 2000000
set_option maxRecDepth 100000
set_option linter.unusedVariables false
set_option linter.unusedSimpArgs false
def M.tk(xs:List Slot)(k:Nat):Int:=((xs.take k).map (·.Ticks)).sum
theorem zJg{xs:List Slot}{k:Nat}{x:Slot}(h:xs[k]? = some x):M.tk xs (k+1)=M.tk xs k+x.Ticks:=by
 unfold M.tk;rw[zAd h];simp
theorem zFk{xs:List Slot}{n:Int}(h:zCg xs n=true):1<=xs.length/\xs.length<=12/\(0<=n/\n<=5)/\∀ x∈xs,(1<=x.Ticks/\x.Ticks<=20) /\ -1<=x.Who/\x.Who<=n - 1:=by
 unfold zCg at h;simp only[Bool.and_eq_true,zA7,List.all_eq_true,zCw] at h;exact⟨by omega,by omega,h.1,fun x hx=>h.2.2 x hx⟩
theorem zJf{xs:List Slot}(h:∀ x∈xs,1<=x.Ticks/\x.Ticks<=20):∀ k,k<=xs.length->(k:Int)<=M.tk xs k/\M.tk xs k<=20*k:=by
 intro k
 induction k with
 | zero=>intro _;exact⟨Int.le_refl _,Int.le_refl _⟩
 | succ k ih =>
  intro hk;obtain⟨x,hx⟩:∃ x,xs[k]? = some x:=⟨_,List.getElem?_eq_getElem (by omega)⟩
  rw[zJg hx]
  have:=ih (by omega)
  have:=h x (List.mem_of_getElem? hx)
  omega
set_option maxHeartbeats 1000000
def zC2(h n:Int)(x:Order):Bool :=
 if x.Op=1 then zA4 x.A 0 h && zA4 x.B 0 255
 else if x.Op=2\/x.Op=3 then zA4 x.A 0 h && zA4 x.B 0 h
 else if x.Op=4 then zA4 x.A 0 (n - 1) && zA4 x.B 0 h
 else if x.Op=5\/x.Op=6 then zA4 x.A 0 7 && zA4 x.B 0 h
 else if x.Op=7 then zA4 x.A 0 h && x.B == 0
 else if x.Op=0\/x.Op=8 then x.A == 0 && x.B == 0 else false
def zDw(c n:Int)(x:Order):Bool:=zC2 (c - 1) n x
def zBg(xs:List Order)(c:Int):Bool:=zA4 xs.length 1 20 && (zA4 c 1 8 && xs.all (zDw c xs.length))
theorem zGk{n:Int}(h1 : -9223372036854775808<=n)(h2:n<=9223372036854775807):IntKind.i64.wrap n=n:=by
 rw[IntKind.wrap_i64];omega
theorem zF1(v:Value)(x:Order)(c n:Int)(w:World)(h:Rv w v x)(hc1:1<=c)(hc2:c<=8)(hn1:1<=n)(hn2:n<=20) :
  Calls Tryz.prog 79 #[v,.int .i64 c,.int .i64 n] w fun e w'=>e = .returned (.bool (zDw c n x))/\Ext w w':=by
 obtain⟨rfl,hr0,hr1,hr2⟩:=h.openOrder;clear h;obtain⟨op,a,b⟩:=x;simp only at hr0 hr1 hr2 ⊢;have e0:=zh ((zr w).alloc (.cells #[.int .i64 op,.int .i64 a,.int .i64 b] 61));go_enter Tryz.func79,Tryz.ntmps79;go_upto_region 1 with (fail)
 refine zA2 (fun W=>Ext w W/\Bk W w.heap.size [.int .i64 op,.int .i64 a,.int .i64 b] 61) ⟨(zr _).alloc _,Bk.new _ _ _⟩ ?_
 rintro W ⟨e1,kA⟩;have HE:=zh e1;obtain⟨d0,d1,d2⟩:=Bk.k3 kA;have hA:=kA.lt;clear e1 kA
 go_region_held3 (fun u=>u.cell? ⟨w.heap.size,1,none⟩=some (.int .i64 a)/\u.cell? ⟨w.heap.size,2,none⟩=some (.int .i64 b)) (first
  | go_keep
  | exact⟨d1,d2⟩)
  (first
  | (go_at_call 31;refine(zAc _ _ _ _).mono ?_;rintro e w' ⟨rfl,rfl⟩))
 have HW:=zh HE.out.drew;go_upto_block 0 with (fail)
 clear HE;by_cases h1:op=1
 ·subst h1;have hm:Hid (zDw c n ⟨1,a,b⟩=((zA4 a 0 (c - 1)) && (zA4 b 0 255))):=zh rfl;go_wp2_with (go_at_call 31;refine(zAc _ _ _ _).mono ?_;rintro e w' ⟨rfl,rfl⟩)
  all_goals go_ret
  all_goals first
   | exact⟨by rw[hm.out,zAj (by assumption)];rfl,HW.out⟩
   | exact⟨by rw[hm.out,zAs (Bool.eq_false_iff.2 (by assumption))];rfl,HW.out⟩
 by_cases h2:op=2
 ·subst h2;have hm:Hid (zDw c n ⟨2,a,b⟩=((zA4 a 0 (c - 1)) && (zA4 b 0 (c - 1)))):=zh rfl;go_wp2_with (go_at_call 31;refine(zAc _ _ _ _).mono ?_;rintro e w' ⟨rfl,rfl⟩)
  all_goals go_ret
  all_goals first
   | exact⟨by rw[hm.out,zAj (by assumption)];rfl,HW.out⟩
   | exact⟨by rw[hm.out,zAs (Bool.eq_false_iff.2 (by assumption))];rfl,HW.out⟩
 by_cases h3:op=3
 ·subst h3;have hm:Hid (zDw c n ⟨3,a,b⟩=((zA4 a 0 (c - 1)) && (zA4 b 0 (c - 1)))):=zh rfl;go_wp2_with (go_at_call 31;refine(zAc _ _ _ _).mono ?_;rintro e w' ⟨rfl,rfl⟩)
  all_goals go_ret
  all_goals first
   | exact⟨by rw[hm.out,zAj (by assumption)];rfl,HW.out⟩
   | exact⟨by rw[hm.out,zAs (Bool.eq_false_iff.2 (by assumption))];rfl,HW.out⟩
 by_cases h4:op=4
 ·subst h4;have hm:Hid (zDw c n ⟨4,a,b⟩=((zA4 a 0 (n - 1)) && (zA4 b 0 (c - 1)))):=zh rfl;go_wp2_with (go_at_call 31;refine(zAc _ _ _ _).mono ?_;rintro e w' ⟨rfl,rfl⟩)
  all_goals go_ret
  all_goals first
   | exact⟨by rw[hm.out,zAj (by assumption)];rfl,HW.out⟩
   | exact⟨by rw[hm.out,zAs (Bool.eq_false_iff.2 (by assumption))];rfl,HW.out⟩
 by_cases h5:op=5
 ·subst h5;have hm:Hid (zDw c n ⟨5,a,b⟩=((zA4 a 0 7) && (zA4 b 0 (c - 1)))):=zh rfl;go_wp2_with (go_at_call 31;refine(zAc _ _ _ _).mono ?_;rintro e w' ⟨rfl,rfl⟩)
  all_goals go_ret
  all_goals first
   | exact⟨by rw[hm.out,zAj (by assumption)];rfl,HW.out⟩
   | exact⟨by rw[hm.out,zAs (Bool.eq_false_iff.2 (by assumption))];rfl,HW.out⟩
 by_cases h6:op=6
 ·subst h6;have hm:Hid (zDw c n ⟨6,a,b⟩=((zA4 a 0 7) && (zA4 b 0 (c - 1)))):=zh rfl;go_wp2_with (go_at_call 31;refine(zAc _ _ _ _).mono ?_;rintro e w' ⟨rfl,rfl⟩)
  all_goals go_ret
  all_goals first
   | exact⟨by rw[hm.out,zAj (by assumption)];rfl,HW.out⟩
   | exact⟨by rw[hm.out,zAs (Bool.eq_false_iff.2 (by assumption))];rfl,HW.out⟩
 by_cases h7:op=7
 ·subst h7;have hm:Hid (zDw c n ⟨7,a,b⟩=((zA4 a 0 (c - 1)) && (b == 0))):=zh rfl;go_wp2_with (go_at_call 31;refine(zAc _ _ _ _).mono ?_;rintro e w' ⟨rfl,rfl⟩)
  all_goals go_ret
  all_goals first
   | exact⟨by rw[hm.out,zAj (by assumption)];rfl,HW.out⟩
   | exact⟨by rw[hm.out,zAs (Bool.eq_false_iff.2 (by assumption))];rfl,HW.out⟩
 by_cases h0:op=0
 ·subst h0;have hm:Hid (zDw c n ⟨0,a,b⟩=((a == 0) && (b == 0))):=zh rfl;by_cases ha:a=0
  ·subst ha;go_wp2;go_ret;exact⟨by rw[hm.out];rfl,HW.out⟩
  ·have ha2:(a == 0)=false:=by simpa using ha
   have HM:=zh (hm.out.trans (zAs ha2));clear hm;go_wp2;go_ret;exact⟨by rw[HM.out];first|done|rfl,HW.out⟩
 by_cases h8:op=8
 ·subst h8;have hm:Hid (zDw c n ⟨8,a,b⟩=((a == 0) && (b == 0))):=zh rfl;by_cases ha:a=0
  ·subst ha;go_wp2;go_ret;exact⟨by rw[hm.out];rfl,HW.out⟩
  ·have ha2:(a == 0)=false:=by simpa using ha
   have HM:=zh (hm.out.trans (zAs ha2));clear hm;go_wp2;go_ret;exact⟨by rw[HM.out];first|done|rfl,HW.out⟩
 have hm:Hid (zDw c n ⟨op,a,b⟩=false):=zh (by unfold zDw zC2;simp[h1,h2,h3,h4,h5,h6,h7,h0,h8])
 replace h1:(op == 1)=false:=by simpa using h1
 replace h2:(op == 2)=false:=by simpa using h2
 replace h3:(op == 3)=false:=by simpa using h3
 replace h4:(op == 4)=false:=by simpa using h4
 replace h5:(op == 5)=false:=by simpa using h5
 replace h6:(op == 6)=false:=by simpa using h6
 replace h7:(op == 7)=false:=by simpa using h7
 replace h0:(op == 0)=false:=by simpa using h0
 replace h8:(op == 8)=false:=by simpa using h8
 go_wp2;go_ret;exact⟨by rw[hm.out];first|done|rfl,HW.out⟩
theorem zDo(v:Value)(x:Order)(b1 b2:Nat)(c:Int)(n:Nat)(a:Option Addr)(cp:Nat)(w:World)(h:Rv w v x)(hb1:b1 < w.heap.size)(hb2:b2 < w.heap.size)
  (hc:w.cell? ⟨b1,0,none⟩=some (.int .i64 c)) (hl:w.cell? ⟨b2,0,none⟩=some (.slice a n cp)) (hc1:1<=c) (hc2:c<=8) (hn1:1<=n) (hn2:n<=20) :
  Calls Tryz.prog 78 #[v,.pointer (some ⟨b1,0,none⟩),.pointer (some ⟨b2,0,none⟩)] w fun e w'=>e = .returned (.bool (!zDw c n x))/\Ext w w':=by
 have H:=zh h;obtain⟨rfl,hr0,hr1,hr2⟩:=h.openOrder;clear h;go_enter Tryz.func78,Tryz.ntmps78;go_wp2_with (go_at_call 79;refine(zF1 _ x c n _ (H.out.ext ((zr w).alloc _)) hc1 hc2 (by omega) (by omega)).mono ?_;rintro e w' ⟨rfl,he⟩;have HE:=zh he;clear he)
 go_ret;exact⟨rfl,((zr w).alloc _).tr HE.out⟩
theorem zB9(v:Value)(xs:List Order)(c:Int)(w:World)(h:Rs w v xs) :
  Calls Tryz.prog 36 #[v,.int .i64 c] w fun e w'=>e = .returned (.bool (zBg xs c))/\Ext w w':=by
 have H:=zh h;obtain⟨a,cp,rfl,hl⟩:=h.form;have e0:=zh (((zr w).alloc (.cells #[.slice a xs.length cp] 52)).alloc (.cells #[.int .i64 c] 3));clear h;cases h1:zA4 xs.length 1 20
 ·have hm:=zh ((zAs h1).symm:_=zBg xs c);go_enter Tryz.func36,Tryz.ntmps36;go_wp2_with (go_at_call 31;refine(zAc _ _ _ _).mono ?_;rintro e w' ⟨rfl,rfl⟩;rw[h1])
  go_ret;exact⟨zA1 hm.out,e0.out⟩
 ·obtain⟨hn1,hn2⟩:=zA7.1 h1;cases h2:zA4 c 1 8
  ·have hm:=zh (((zAj h1).trans (zAs h2)).symm:_=zBg xs c);go_enter Tryz.func36,Tryz.ntmps36;go_wp2_with (go_at_call 31;refine(zAc _ _ _ _).mono ?_;rintro e w' ⟨rfl,rfl⟩;first|rw[h1]|rw[h2])
   go_ret;exact⟨zA1 hm.out,e0.out⟩
  ·obtain⟨hc1,hc2⟩:=zA7.1 h2;have HX:=zh (zJj 78 #[.pointer (some ⟨w.heap.size+1,0,none⟩),.pointer (some ⟨w.heap.size,0,none⟩)] (fun x => !zDw c xs.length x) _ xs _ (H.out.ext e0.out) (zC5 Tryz.func78 (by kernel_rfl) (by kernel_rfl))
    (fun w1 v x he _ hv=>zDo v x _ _ c xs.length a cp w1 hv (by have:=he.sz;simp at this;omega) (by have:=he.sz;simp at this;omega)
     ((zA0 he (by simp<;>omega)).trans ((Bk.new1 _ _ _ _).cell (j:=0) rfl)) ((zA0 he (by simp<;>omega)).trans (((Bk.new _ _ _).ext ((zr _).alloc _)).cell (j:=0) rfl)) hc1 hc2 (by omega) (by omega)))
   have hm:=zh ((zBe (zDw c xs.length) xs).trans ((zAj h1).trans (zAj h2)).symm:_=zBg xs c);go_enter Tryz.func36,Tryz.ntmps36;go_wp2_with (first|(go_at_call 31;refine(zAc _ _ _ _).mono ?_;rintro e w' ⟨rfl,rfl⟩;first|rw[h1]|rw[h2])|(go_at_call 77;refine HX.out.mono ?_;rintro e w' ⟨rfl,he⟩))
   go_ret;exact⟨zA1 hm.out,e0.out.tr he⟩
theorem zBl(v:Value)(xs:List Order)(c:Int)(w:World)(h:Rs w v xs) :
  Calls Tryz.prog 102 #[v,.int .i64 c] w fun e w'=>e = .returned (.bool (zBg xs c))/\Ext w w':=by
 have H:=zh h;obtain⟨a,cp,rfl,hl⟩:=h.form;clear h;obtain⟨C,hC⟩:∃ C,IntKind.i64.wrap (c - 1)=C:=⟨_,rfl⟩;have hn1:0<=(xs.length:Int):=by omega
 go_enter Tryz.func102,Tryz.ntmps102;go_wp2;go_loopw [5,6,7,8,9] (fun i _ _ _ _ wr => ∃ k:Nat,k<=xs.length/\i = .int .i64 k/\(xs.take k).all (zC2 C xs.length)=true/\Ext w wr) (fun i _ _ _ _ _=>xs.length - (intOf i).toNat)
 case atStart=>exact⟨0,Nat.zero_le _,rfl,rfl,.refl _⟩
 case round =>
  obtain⟨k,hk,rfl,he,hq⟩:=hrel;have HE:=zh he;have HQ:=zh hq;clear he hq;by_cases hlt:k < xs.length
  ·obtain⟨b0,o0,x,rfl,hb,hx,hc0,hc1,hc2,hr0,hr1,hr2,hv⟩:=(H.out.ext HQ.out).atOrder k hlt;obtain⟨op,a,b⟩:=x;simp only at hx hc0 hc1 hc2 hr0 hr1 hr2;go_upto_block 2 with (go_at_call 61;refine(zAb _ _ _ _).mono ?_;rintro e w' ⟨rfl,rfl⟩)
   try simp only[hC]
   refine zA2 (fun W=>Ext wr W/\Bk W wr.heap.size [.int .i64 op,.int .i64 a,.int .i64 b] 61) ⟨(zr _).alloc _,Bk.new _ _ _⟩ ?_
   rintro W ⟨e1,kA⟩;have d1:=kA.cell (j:=1) rfl;have d2:=kA.cell (j:=2) rfl;have hA:=kA.lt;have HW:=zh (HQ.out.tr e1);clear e1 kA hc0 hc1 hc2;replace hC:=zh hC;go_cut [7,8,9] from 10 to 87 (fun _ _ ok wc=>ok = .bool (zC2 C xs.length ⟨op,a,b⟩)/\Ext w wc)
   case first =>
    by_cases h1:op=1
    ·subst h1;have hm:Hid (zC2 C xs.length ⟨1,a,b⟩=((zA4 a 0 C) && (zA4 b 0 255))):=zh rfl;go_wp2_with (go_at_call 61;refine(zAb _ _ _ _).mono ?_;rintro e w' ⟨rfl,rfl⟩)
     all_goals go_meet
     all_goals first
      | exact⟨by rw[hm.out,zAj (by assumption)];first|done|rfl,HW.out⟩
      | exact⟨by rw[hm.out,zAs (Bool.eq_false_iff.2 (by assumption))];first|done|rfl,HW.out⟩
    by_cases h2:op=2
    ·subst h2;have hm:Hid (zC2 C xs.length ⟨2,a,b⟩=((zA4 a 0 C) && (zA4 b 0 C))):=zh rfl;go_wp2_with (go_at_call 61;refine(zAb _ _ _ _).mono ?_;rintro e w' ⟨rfl,rfl⟩)
     all_goals go_meet
     all_goals first
      | exact⟨by rw[hm.out,zAj (by assumption)];first|done|rfl,HW.out⟩
      | exact⟨by rw[hm.out,zAs (Bool.eq_false_iff.2 (by assumption))];first|done|rfl,HW.out⟩
    by_cases h3:op=3
    ·subst h3;have hm:Hid (zC2 C xs.length ⟨3,a,b⟩=((zA4 a 0 C) && (zA4 b 0 C))):=zh rfl;go_wp2_with (go_at_call 61;refine(zAb _ _ _ _).mono ?_;rintro e w' ⟨rfl,rfl⟩)
     all_goals go_meet
     all_goals first
      | exact⟨by rw[hm.out,zAj (by assumption)];first|done|rfl,HW.out⟩
      | exact⟨by rw[hm.out,zAs (Bool.eq_false_iff.2 (by assumption))];first|done|rfl,HW.out⟩
    by_cases h4:op=4
    ·subst h4;have hm:Hid (zC2 C xs.length ⟨4,a,b⟩=((zA4 a 0 (xs.length - 1)) && (zA4 b 0 C))):=zh rfl;go_wp2_with (go_at_call 61;refine(zAb _ _ _ _).mono ?_;rintro e w' ⟨rfl,rfl⟩)
     all_goals go_meet
     all_goals first
      | exact⟨by rw[hm.out,zAj (by assumption)];first|done|rfl,HW.out⟩
      | exact⟨by rw[hm.out,zAs (Bool.eq_false_iff.2 (by assumption))];first|done|rfl,HW.out⟩
    by_cases h5:op=5
    ·subst h5;have hm:Hid (zC2 C xs.length ⟨5,a,b⟩=((zA4 a 0 7) && (zA4 b 0 C))):=zh rfl;go_wp2_with (go_at_call 61;refine(zAb _ _ _ _).mono ?_;rintro e w' ⟨rfl,rfl⟩)
     all_goals go_meet
     all_goals first
      | exact⟨by rw[hm.out,zAj (by assumption)];first|done|rfl,HW.out⟩
      | exact⟨by rw[hm.out,zAs (Bool.eq_false_iff.2 (by assumption))];first|done|rfl,HW.out⟩
    by_cases h6:op=6
    ·subst h6;have hm:Hid (zC2 C xs.length ⟨6,a,b⟩=((zA4 a 0 7) && (zA4 b 0 C))):=zh rfl;go_wp2_with (go_at_call 61;refine(zAb _ _ _ _).mono ?_;rintro e w' ⟨rfl,rfl⟩)
     all_goals go_meet
     all_goals first
      | exact⟨by rw[hm.out,zAj (by assumption)];first|done|rfl,HW.out⟩
      | exact⟨by rw[hm.out,zAs (Bool.eq_false_iff.2 (by assumption))];first|done|rfl,HW.out⟩
    by_cases h7:op=7
    ·subst h7;have hm:Hid (zC2 C xs.length ⟨7,a,b⟩=((zA4 a 0 C) && (b == 0))):=zh rfl;go_wp2_with (go_at_call 61;refine(zAb _ _ _ _).mono ?_;rintro e w' ⟨rfl,rfl⟩)
     all_goals go_meet
     all_goals first
      | exact⟨by rw[hm.out,zAj (by assumption)];first|done|rfl,HW.out⟩
      | exact⟨by rw[hm.out,zAs (Bool.eq_false_iff.2 (by assumption))];first|done|rfl,HW.out⟩
    by_cases h0:op=0
    ·subst h0;have hm:Hid (zC2 C xs.length ⟨0,a,b⟩=((a == 0) && (b == 0))):=zh rfl;by_cases ha:a=0
     ·subst ha;go_wp2;go_meet
      exact⟨by rw[hm.out];first|done|rfl,HW.out⟩
     ·have ha2:(a == 0)=false:=by simpa using ha
      have HM:=zh (hm.out.trans (zAs ha2));clear hm;go_wp2;go_meet
      exact⟨by rw[HM.out];first|done|rfl,HW.out⟩
    by_cases h8:op=8
    ·subst h8;have hm:Hid (zC2 C xs.length ⟨8,a,b⟩=((a == 0) && (b == 0))):=zh rfl;by_cases ha:a=0
     ·subst ha;go_wp2;go_meet
      exact⟨by rw[hm.out];first|done|rfl,HW.out⟩
     ·have ha2:(a == 0)=false:=by simpa using ha
      have HM:=zh (hm.out.trans (zAs ha2));clear hm;go_wp2;go_meet
      exact⟨by rw[HM.out];first|done|rfl,HW.out⟩
    have hm:Hid (zC2 C xs.length ⟨op,a,b⟩=false):=zh (by unfold zC2;simp[h1,h2,h3,h4,h5,h6,h7,h0,h8])
    replace h1:(op == 1)=false:=by simpa using h1
    replace h2:(op == 2)=false:=by simpa using h2
    replace h3:(op == 3)=false:=by simpa using h3
    replace h4:(op == 4)=false:=by simpa using h4
    replace h5:(op == 5)=false:=by simpa using h5
    replace h6:(op == 6)=false:=by simpa using h6
    replace h7:(op == 7)=false:=by simpa using h7
    replace h0:(op == 0)=false:=by simpa using h0
    replace h8:(op == 8)=false:=by simpa using h8
    go_wp2;go_meet
    exact⟨by rw[hm.out];first|done|rfl,HW.out⟩
   case rest =>
    obtain⟨rfl,hqc⟩:=hcut;have HQC:=zh hqc;clear hqc hA d1 d2;obtain⟨r,hr⟩:∃ r,zC2 C xs.length ⟨op,a,b⟩=r:=⟨_,rfl⟩;rw[hr];have HN:=zh (zB2 (zC2 C xs.length) hx.out);cases r
    ·have HF:Hid (zBg xs c=false):=zh (by
      have h1:=zAy (zC2 C xs.length) hx.out hr;unfold zBg;cases h2:zA4 c 1 8;·simp
      ·have h3:=zA7.1 h2
       have:C=c - 1:=by rw[<- hC.out];exact zGk (by omega) (by omega)
       unfold zDw;rw[<- this,h1];simp)
     replace hr:=zh hr;go_wp2;go_ret;exact⟨zA1 HF.out.symm,HQC.out⟩
    ·replace hr:=zh hr;go_wp2;go_roundw
     case rel=>exact⟨k+1,by omega,by go_num,by rw[HN.out,HE.out,hr.out];rfl,HQC.out⟩
     case measure=>simp[intOf];omega
  ·have HA:Hid (xs.all (zC2 C xs.length)=true):=zh (by rw[<- zB7 (zC2 C xs.length) xs k (by omega)];exact HE.out)
   have HF:Hid (zBg xs c=(zA4 xs.length 1 20 && zA4 c 1 8)):=zh (by
    unfold zBg;cases h2:zA4 c 1 8;·simp
    ·have h3:=zA7.1 h2
     have:C=c - 1:=by rw[<- hC];exact zGk (by omega) (by omega)
     unfold zDw;rw[<- this,HA.out];simp)
   clear hC;go_wp2_with (go_at_call 61;refine(zAb _ _ _ _).mono ?_;rintro e w' ⟨rfl,rfl⟩)
   all_goals go_ret
   all_goals first
    | exact⟨by rw[HF.out,zAj (by assumption)];first|done|rfl,HQ.out⟩
    | exact⟨by rw[HF.out,zAs (Bool.eq_false_iff.2 (by assumption))];first|done|rfl,HQ.out⟩
end Sk
