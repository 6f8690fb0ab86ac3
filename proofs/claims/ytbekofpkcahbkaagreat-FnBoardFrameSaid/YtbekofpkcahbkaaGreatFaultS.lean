/- Contracts of functions of the given program. -/
import Derived.Deep.CutRange
import Derived.Test.YtbekofpkcahbkaaGreatCt
import Derived.Test.YtbekofpkcahbkaaGreatRefc
namespace Sk
open Go Go.Proofs Go.RowKit
set_option maxHeartbeats 2000000
set_option maxRecDepth 100000
set_option linter.unusedVariables false
set_option linter.unusedSimpArgs false
def zFy(xs:List Slot)(k:Nat):Int:=((xs.take k).map (·.Ticks)).sum
theorem zKr(xs:List Slot):zFy xs 0=0:=rfl
theorem zFz{xs:List Slot}{k:Nat}{x:Slot}(h:xs[k]? = some x):zFy xs (k+1)=zFy xs k+x.Ticks:=by
 unfold zFy;rw[zAe h];simp
theorem zEp{xs:List Slot}{n:Int}(h:zCv xs n=true):1<=xs.length/\xs.length<=12/\(0<=n/\n<=5)/\∀ x∈xs,(1<=x.Ticks/\x.Ticks<=20) /\ -1<=x.Who/\x.Who<=n - 1:=by
 unfold zCv at h;simp only[Bool.and_eq_true,zA5,List.all_eq_true,zDk] at h;exact⟨by omega,by omega,h.1,fun x hx=>h.2.2 x hx⟩
theorem zIe{xs:List Slot}(h:∀ x∈xs,1<=x.Ticks/\x.Ticks<=20):∀ k,k<=xs.length->(k:Int)<=zFy xs k/\zFy xs k<=20*k:=by
 intro k
 induction k with
 | zero=>intro _;exact⟨Int.le_refl _,Int.le_refl _⟩
 | succ k ih =>
  intro hk;obtain⟨x,hx⟩:∃ x,xs[k]? = some x:=⟨_,List.getElem?_eq_getElem (by omega)⟩
  rw[zFz hx]
  have:=ih (by omega)
  have:=h x (List.mem_of_getElem? hx)
  omega
theorem zDh(v:Value)(xs:List Slot)(n:Int)(w:World)(h:Rs w v xs)(hv:zCv xs n=true) :
  Calls Tryz.prog 41 #[v,.int .i64 n] w fun e w'=>e = .returned (.int .i64 (zFy xs xs.length))/\Ext w w':=by
 obtain⟨a,c,rfl,hl⟩:=h.form;have H:=zh h;have hall:=zEp hv;have HV:=zh hv;obtain⟨hx1,hx12,_,hxx⟩:=hall;have HT:=zh (zIe (fun x hx=>(hxx x hx).1))
 clear h hv hxx;go_enter Tryz.func41,Tryz.ntmps41;go_wp2_with (go_at_call 70;refine(zCg _ xs n w H.out).mono ?_;rintro e w1 ⟨rfl,he⟩;rw[HV.out];have HE1:=zh he;clear he)
 go_loopw [5,6] (fun t i wr => ∃ k:Nat,k<=xs.length/\t = .int .i64 (zFy xs k)/\i = .int .i64 k/\Ext w wr) (fun _ i _=>xs.length - (intOf i).toNat)
 case atStart=>exact⟨0,Nat.zero_le _,rfl,rfl,HE1.out⟩
 case round =>
  clear HE1;obtain⟨k,hk,rfl,rfl,hq⟩:=hrel;have HQ:=zh hq;clear hq;have hb:=HT.out k hk;by_cases hkt:k < xs.length
  ·obtain⟨b,o,x,rfl,hbl,hx,hc0,hc1,hr0,hr1,hvx⟩:=(H.out.ext HQ.out).atSlot k hkt;have hb2:=HT.out (k+1) (by omega)
   have HN:=zh (zFz hx.out);have hb3:zFy xs (k+1)=zFy xs k+x.Ticks:=HN.out;rw[hb3] at hb2;clear hb3;go_wp2;go_roundw
   case rel=>exact⟨k+1,by omega,by rw[HN.out],by go_num,HQ.out⟩
   case measure=>simp[intOf];omega
  ·obtain rfl:k=xs.length:=by omega
   go_wp2;go_ret;exact⟨rfl,HQ.out⟩
set_option maxHeartbeats 1000000
def zD7(h n:Int)(x:Order):Bool :=
 if x.Op=1 then zA8 x.A 0 h && zA8 x.B 0 255
 else if x.Op=2\/x.Op=3 then zA8 x.A 0 h && zA8 x.B 0 h
 else if x.Op=4 then zA8 x.A 0 (n - 1) && zA8 x.B 0 h
 else if x.Op=5\/x.Op=6 then zA8 x.A 0 7 && zA8 x.B 0 h
 else if x.Op=7 then zA8 x.A 0 h && x.B == 0
 else if x.Op=0\/x.Op=8 then x.A == 0 && x.B == 0 else false
def zEh(c n:Int)(x:Order):Bool:=zD7 (c - 1) n x
def zBr(xs:List Order)(c:Int):Bool:=zA8 xs.length 1 20 && (zA8 c 1 8 && xs.all (zEh c xs.length))
theorem zH7{n:Int}(h1 : -9223372036854775808<=n)(h2:n<=9223372036854775807):IntKind.i64.wrap n=n:=by
 rw[IntKind.wrap_i64];omega
theorem zHl(v:Value)(x:Order)(c n:Int)(w:World)(h:Rv w v x)(hc1:1<=c)(hc2:c<=8)(hn1:1<=n)(hn2:n<=20) :
  Calls Tryz.prog 142 #[v,.int .i64 c,.int .i64 n] w fun e w'=>e = .returned (.bool (zEh c n x))/\Ext w w':=by
 obtain⟨rfl,hr0,hr1,hr2⟩:=h.openOrder;clear h;obtain⟨op,a,b⟩:=x;simp only at hr0 hr1 hr2 ⊢;have e0:=zh ((zr w).alloc (.cells #[.int .i64 op,.int .i64 a,.int .i64 b] 112));go_enter Tryz.func142,Tryz.ntmps142;go_upto_region 1 with (fail)
 refine zA1 (fun W=>Ext w W/\Bk W w.heap.size [.int .i64 op,.int .i64 a,.int .i64 b] 112) ⟨(zr _).alloc _,Bk.new _ _ _⟩ ?_
 rintro W ⟨e1,kA⟩;have HE:=zh e1;obtain⟨d0,d1,d2⟩:=Bk.k3 kA;have hA:=kA.lt;clear e1 kA
 go_region_held3 (fun u=>u.cell? ⟨w.heap.size,1,none⟩=some (.int .i64 a)/\u.cell? ⟨w.heap.size,2,none⟩=some (.int .i64 b)) (first
  | go_keep
  | exact⟨d1,d2⟩)
  (first
  | (go_at_call 36;refine(zAi _ _ _ _).mono ?_;rintro e w' ⟨rfl,rfl⟩))
 have HW:=zh HE.out.drew;go_upto_block 0 with (fail)
 clear HE;by_cases h1:op=1
 ·subst h1;have hm:Hid (zEh c n ⟨1,a,b⟩=((zA8 a 0 (c - 1)) && (zA8 b 0 255))):=zh rfl;go_wp2_with (go_at_call 36;refine(zAi _ _ _ _).mono ?_;rintro e w' ⟨rfl,rfl⟩)
  all_goals go_ret
  all_goals first
   | exact⟨by rw[hm.out,zAm (by assumption)];rfl,HW.out⟩
   | exact⟨by rw[hm.out,zAt (Bool.eq_false_iff.2 (by assumption))];rfl,HW.out⟩
 by_cases h2:op=2
 ·subst h2;have hm:Hid (zEh c n ⟨2,a,b⟩=((zA8 a 0 (c - 1)) && (zA8 b 0 (c - 1)))):=zh rfl;go_wp2_with (go_at_call 36;refine(zAi _ _ _ _).mono ?_;rintro e w' ⟨rfl,rfl⟩)
  all_goals go_ret
  all_goals first
   | exact⟨by rw[hm.out,zAm (by assumption)];rfl,HW.out⟩
   | exact⟨by rw[hm.out,zAt (Bool.eq_false_iff.2 (by assumption))];rfl,HW.out⟩
 by_cases h3:op=3
 ·subst h3;have hm:Hid (zEh c n ⟨3,a,b⟩=((zA8 a 0 (c - 1)) && (zA8 b 0 (c - 1)))):=zh rfl;go_wp2_with (go_at_call 36;refine(zAi _ _ _ _).mono ?_;rintro e w' ⟨rfl,rfl⟩)
  all_goals go_ret
  all_goals first
   | exact⟨by rw[hm.out,zAm (by assumption)];rfl,HW.out⟩
   | exact⟨by rw[hm.out,zAt (Bool.eq_false_iff.2 (by assumption))];rfl,HW.out⟩
 by_cases h4:op=4
 ·subst h4;have hm:Hid (zEh c n ⟨4,a,b⟩=((zA8 a 0 (n - 1)) && (zA8 b 0 (c - 1)))):=zh rfl;go_wp2_with (go_at_call 36;refine(zAi _ _ _ _).mono ?_;rintro e w' ⟨rfl,rfl⟩)
  all_goals go_ret
  all_goals first
   | exact⟨by rw[hm.out,zAm (by assumption)];rfl,HW.out⟩
   | exact⟨by rw[hm.out,zAt (Bool.eq_false_iff.2 (by assumption))];rfl,HW.out⟩
 by_cases h5:op=5
 ·subst h5;have hm:Hid (zEh c n ⟨5,a,b⟩=((zA8 a 0 7) && (zA8 b 0 (c - 1)))):=zh rfl;go_wp2_with (go_at_call 36;refine(zAi _ _ _ _).mono ?_;rintro e w' ⟨rfl,rfl⟩)
  all_goals go_ret
  all_goals first
   | exact⟨by rw[hm.out,zAm (by assumption)];rfl,HW.out⟩
   | exact⟨by rw[hm.out,zAt (Bool.eq_false_iff.2 (by assumption))];rfl,HW.out⟩
 by_cases h6:op=6
 ·subst h6;have hm:Hid (zEh c n ⟨6,a,b⟩=((zA8 a 0 7) && (zA8 b 0 (c - 1)))):=zh rfl;go_wp2_with (go_at_call 36;refine(zAi _ _ _ _).mono ?_;rintro e w' ⟨rfl,rfl⟩)
  all_goals go_ret
  all_goals first
   | exact⟨by rw[hm.out,zAm (by assumption)];rfl,HW.out⟩
   | exact⟨by rw[hm.out,zAt (Bool.eq_false_iff.2 (by assumption))];rfl,HW.out⟩
 by_cases h7:op=7
 ·subst h7;have hm:Hid (zEh c n ⟨7,a,b⟩=((zA8 a 0 (c - 1)) && (b == 0))):=zh rfl;go_wp2_with (go_at_call 36;refine(zAi _ _ _ _).mono ?_;rintro e w' ⟨rfl,rfl⟩)
  all_goals go_ret
  all_goals first
   | exact⟨by rw[hm.out,zAm (by assumption)];rfl,HW.out⟩
   | exact⟨by rw[hm.out,zAt (Bool.eq_false_iff.2 (by assumption))];rfl,HW.out⟩
 by_cases h0:op=0
 ·subst h0;have hm:Hid (zEh c n ⟨0,a,b⟩=((a == 0) && (b == 0))):=zh rfl;by_cases ha:a=0
  ·subst ha;go_wp2;go_ret;exact⟨by rw[hm.out];rfl,HW.out⟩
  ·have ha2:(a == 0)=false:=by simpa using ha
   have HM:=zh (hm.out.trans (zAt ha2));clear hm;go_wp2;go_ret;exact⟨by rw[HM.out];first|done|rfl,HW.out⟩
 by_cases h8:op=8
 ·subst h8;have hm:Hid (zEh c n ⟨8,a,b⟩=((a == 0) && (b == 0))):=zh rfl;by_cases ha:a=0
  ·subst ha;go_wp2;go_ret;exact⟨by rw[hm.out];rfl,HW.out⟩
  ·have ha2:(a == 0)=false:=by simpa using ha
   have HM:=zh (hm.out.trans (zAt ha2));clear hm;go_wp2;go_ret;exact⟨by rw[HM.out];first|done|rfl,HW.out⟩
 have hm:Hid (zEh c n ⟨op,a,b⟩=false):=zh (by unfold zEh zD7;simp[h1,h2,h3,h4,h5,h6,h7,h0,h8])
 replace h1:(op == 1)=false:=by simpa using h1
 replace h2:(op == 2)=false:=by simpa using h2
 replace h3:(op == 3)=false:=by simpa using h3
 replace h4:(op == 4)=false:=by simpa using h4
 replace h5:(op == 5)=false:=by simpa using h5
 replace h6:(op == 6)=false:=by simpa using h6
 replace h7:(op == 7)=false:=by simpa using h7
 replace h0:(op == 0)=false:=by simpa using h0
 replace h8:(op == 8)=false:=by simpa using h8
 go_wp2;go_ret;exact⟨by rw[hm.out];first|done|rfl,HW.out⟩
theorem zFo(v:Value)(x:Order)(b1 b2:Nat)(c:Int)(n:Nat)(a:Option Addr)(cp:Nat)(w:World)(h:Rv w v x)(hb1:b1 < w.heap.size)(hb2:b2 < w.heap.size)
  (hc:w.cell? ⟨b1,0,none⟩=some (.int .i64 c)) (hl:w.cell? ⟨b2,0,none⟩=some (.slice a n cp)) (hc1:1<=c) (hc2:c<=8) (hn1:1<=n) (hn2:n<=20) :
  Calls Tryz.prog 141 #[v,.pointer (some ⟨b1,0,none⟩),.pointer (some ⟨b2,0,none⟩)] w fun e w'=>e = .returned (.bool (!zEh c n x))/\Ext w w':=by
 have H:=zh h;obtain⟨rfl,hr0,hr1,hr2⟩:=h.openOrder;clear h;go_enter Tryz.func141,Tryz.ntmps141;go_wp2_with (go_at_call 142;refine(zHl _ x c n _ (H.out.ext ((zr w).alloc _)) hc1 hc2 (by omega) (by omega)).mono ?_;rintro e w' ⟨rfl,he⟩;have HE:=zh he;clear he)
 go_ret;exact⟨rfl,((zr w).alloc _).tr HE.out⟩
theorem zDz(v:Value)(xs:List Order)(c:Int)(w:World)(h:Rs w v xs) :
  Calls Tryz.prog 97 #[v,.int .i64 c] w fun e w'=>e = .returned (.bool (zBr xs c))/\Ext w w':=by
 have H:=zh h;obtain⟨a,cp,rfl,hl⟩:=h.form;have e0:=zh (((zr w).alloc (.cells #[.slice a xs.length cp] 77)).alloc (.cells #[.int .i64 c] 3));clear h;cases h1:zA8 xs.length 1 20
 ·have hm:=zh ((zAt h1).symm:_=zBr xs c);go_enter Tryz.func97,Tryz.ntmps97;go_wp2_with (go_at_call 36;refine(zAi _ _ _ _).mono ?_;rintro e w' ⟨rfl,rfl⟩;rw[h1])
  go_ret;exact⟨zA2 hm.out,e0.out⟩
 ·obtain⟨hn1,hn2⟩:=zA5.1 h1;cases h2:zA8 c 1 8
  ·have hm:=zh (((zAm h1).trans (zAt h2)).symm:_=zBr xs c);go_enter Tryz.func97,Tryz.ntmps97;go_wp2_with (go_at_call 36;refine(zAi _ _ _ _).mono ?_;rintro e w' ⟨rfl,rfl⟩;first|rw[h1]|rw[h2])
   go_ret;exact⟨zA2 hm.out,e0.out⟩
  ·obtain⟨hc1,hc2⟩:=zA5.1 h2;have HX:=zh (zNy 141 #[.pointer (some ⟨w.heap.size+1,0,none⟩),.pointer (some ⟨w.heap.size,0,none⟩)] (fun x => !zEh c xs.length x) _ xs _ (H.out.ext e0.out) (zCs Tryz.func141 (by kernel_rfl) (by kernel_rfl))
    (fun w1 v x he _ hv=>zFo v x _ _ c xs.length a cp w1 hv (by have:=he.sz;simp at this;omega) (by have:=he.sz;simp at this;omega)
     ((zA0 he (by simp<;>omega)).trans ((Bk.new1 _ _ _ _).cell (j:=0) rfl)) ((zA0 he (by simp<;>omega)).trans (((Bk.new _ _ _).ext ((zr _).alloc _)).cell (j:=0) rfl)) hc1 hc2 (by omega) (by omega)))
   have hm:=zh ((zC5 (zEh c xs.length) xs).trans ((zAm h1).trans (zAm h2)).symm:_=zBr xs c);go_enter Tryz.func97,Tryz.ntmps97;go_wp2_with (first|(go_at_call 36;refine(zAi _ _ _ _).mono ?_;rintro e w' ⟨rfl,rfl⟩;first|rw[h1]|rw[h2])|(go_at_call 140;refine HX.out.mono ?_;rintro e w' ⟨rfl,he⟩))
   go_ret;exact⟨zA2 hm.out,e0.out.tr he⟩
theorem zCp(v:Value)(xs:List Order)(c:Int)(w:World)(h:Rs w v xs) :
  Calls Tryz.prog 92 #[v,.int .i64 c] w fun e w'=>e = .returned (.bool (zBr xs c))/\Ext w w':=by
 have H:=zh h;obtain⟨a,cp,rfl,hl⟩:=h.form;clear h;obtain⟨C,hC⟩:∃ C,IntKind.i64.wrap (c - 1)=C:=⟨_,rfl⟩;have hn1:0<=(xs.length:Int):=by omega
 go_enter Tryz.func92,Tryz.ntmps92;go_wp2;go_loopw [5,6,7,8,9] (fun i _ _ _ _ wr => ∃ k:Nat,k<=xs.length/\i = .int .i64 k/\(xs.take k).all (zD7 C xs.length)=true/\Ext w wr) (fun i _ _ _ _ _=>xs.length - (intOf i).toNat)
 case atStart=>exact⟨0,Nat.zero_le _,rfl,rfl,.refl _⟩
 case round =>
  obtain⟨k,hk,rfl,he,hq⟩:=hrel;have HE:=zh he;have HQ:=zh hq;clear he hq;by_cases hlt:k < xs.length
  ·obtain⟨b0,o0,x,rfl,hb,hx,hc0,hc1,hc2,hr0,hr1,hr2,hv⟩:=(H.out.ext HQ.out).atOrder k hlt;obtain⟨op,a,b⟩:=x;simp only at hx hc0 hc1 hc2 hr0 hr1 hr2;go_upto_block 2 with (go_at_call 39;refine(zAb _ _ _ _).mono ?_;rintro e w' ⟨rfl,rfl⟩)
   try simp only[hC]
   refine zA1 (fun W=>Ext wr W/\Bk W wr.heap.size [.int .i64 op,.int .i64 a,.int .i64 b] 112) ⟨(zr _).alloc _,Bk.new _ _ _⟩ ?_
   rintro W ⟨e1,kA⟩;have d1:=kA.cell (j:=1) rfl;have d2:=kA.cell (j:=2) rfl;have hA:=kA.lt;have HW:=zh (HQ.out.tr e1);clear e1 kA hc0 hc1 hc2;replace hC:=zh hC;go_cut [7,8,9] from 10 to 87 (fun _ _ ok wc=>ok = .bool (zD7 C xs.length ⟨op,a,b⟩)/\Ext w wc)
   case first =>
    by_cases h1:op=1
    ·subst h1;have hm:Hid (zD7 C xs.length ⟨1,a,b⟩=((zA8 a 0 C) && (zA8 b 0 255))):=zh rfl;go_wp2_with (go_at_call 39;refine(zAb _ _ _ _).mono ?_;rintro e w' ⟨rfl,rfl⟩)
     all_goals go_meet
     all_goals first
      | exact⟨by rw[hm.out,zAm (by assumption)];first|done|rfl,HW.out⟩
      | exact⟨by rw[hm.out,zAt (Bool.eq_false_iff.2 (by assumption))];first|done|rfl,HW.out⟩
    by_cases h2:op=2
    ·subst h2;have hm:Hid (zD7 C xs.length ⟨2,a,b⟩=((zA8 a 0 C) && (zA8 b 0 C))):=zh rfl;go_wp2_with (go_at_call 39;refine(zAb _ _ _ _).mono ?_;rintro e w' ⟨rfl,rfl⟩)
     all_goals go_meet
     all_goals first
      | exact⟨by rw[hm.out,zAm (by assumption)];first|done|rfl,HW.out⟩
      | exact⟨by rw[hm.out,zAt (Bool.eq_false_iff.2 (by assumption))];first|done|rfl,HW.out⟩
    by_cases h3:op=3
    ·subst h3;have hm:Hid (zD7 C xs.length ⟨3,a,b⟩=((zA8 a 0 C) && (zA8 b 0 C))):=zh rfl;go_wp2_with (go_at_call 39;refine(zAb _ _ _ _).mono ?_;rintro e w' ⟨rfl,rfl⟩)
     all_goals go_meet
     all_goals first
      | exact⟨by rw[hm.out,zAm (by assumption)];first|done|rfl,HW.out⟩
      | exact⟨by rw[hm.out,zAt (Bool.eq_false_iff.2 (by assumption))];first|done|rfl,HW.out⟩
    by_cases h4:op=4
    ·subst h4;have hm:Hid (zD7 C xs.length ⟨4,a,b⟩=((zA8 a 0 (xs.length - 1)) && (zA8 b 0 C))):=zh rfl;go_wp2_with (go_at_call 39;refine(zAb _ _ _ _).mono ?_;rintro e w' ⟨rfl,rfl⟩)
     all_goals go_meet
     all_goals first
      | exact⟨by rw[hm.out,zAm (by assumption)];first|done|rfl,HW.out⟩
      | exact⟨by rw[hm.out,zAt (Bool.eq_false_iff.2 (by assumption))];first|done|rfl,HW.out⟩
    by_cases h5:op=5
    ·subst h5;have hm:Hid (zD7 C xs.length ⟨5,a,b⟩=((zA8 a 0 7) && (zA8 b 0 C))):=zh rfl;go_wp2_with (go_at_call 39;refine(zAb _ _ _ _).mono ?_;rintro e w' ⟨rfl,rfl⟩)
     all_goals go_meet
     all_goals first
      | exact⟨by rw[hm.out,zAm (by assumption)];first|done|rfl,HW.out⟩
      | exact⟨by rw[hm.out,zAt (Bool.eq_false_iff.2 (by assumption))];first|done|rfl,HW.out⟩
    by_cases h6:op=6
    ·subst h6;have hm:Hid (zD7 C xs.length ⟨6,a,b⟩=((zA8 a 0 7) && (zA8 b 0 C))):=zh rfl;go_wp2_with (go_at_call 39;refine(zAb _ _ _ _).mono ?_;rintro e w' ⟨rfl,rfl⟩)
     all_goals go_meet
     all_goals first
      | exact⟨by rw[hm.out,zAm (by assumption)];first|done|rfl,HW.out⟩
      | exact⟨by rw[hm.out,zAt (Bool.eq_false_iff.2 (by assumption))];first|done|rfl,HW.out⟩
    by_cases h7:op=7
    ·subst h7;have hm:Hid (zD7 C xs.length ⟨7,a,b⟩=((zA8 a 0 C) && (b == 0))):=zh rfl;go_wp2_with (go_at_call 39;refine(zAb _ _ _ _).mono ?_;rintro e w' ⟨rfl,rfl⟩)
     all_goals go_meet
     all_goals first
      | exact⟨by rw[hm.out,zAm (by assumption)];first|done|rfl,HW.out⟩
      | exact⟨by rw[hm.out,zAt (Bool.eq_false_iff.2 (by assumption))];first|done|rfl,HW.out⟩
    by_cases h0:op=0
    ·subst h0;have hm:Hid (zD7 C xs.length ⟨0,a,b⟩=((a == 0) && (b == 0))):=zh rfl;by_cases ha:a=0
     ·subst ha;go_wp2;go_meet
      exact⟨by rw[hm.out];first|done|rfl,HW.out⟩
     ·have ha2:(a == 0)=false:=by simpa using ha
      have HM:=zh (hm.out.trans (zAt ha2));clear hm;go_wp2;go_meet
      exact⟨by rw[HM.out];first|done|rfl,HW.out⟩
    by_cases h8:op=8
    ·subst h8;have hm:Hid (zD7 C xs.length ⟨8,a,b⟩=((a == 0) && (b == 0))):=zh rfl;by_cases ha:a=0
     ·subst ha;go_wp2;go_meet
      exact⟨by rw[hm.out];first|done|rfl,HW.out⟩
     ·have ha2:(a == 0)=false:=by simpa using ha
      have HM:=zh (hm.out.trans (zAt ha2));clear hm;go_wp2;go_meet
      exact⟨by rw[HM.out];first|done|rfl,HW.out⟩
    have hm:Hid (zD7 C xs.length ⟨op,a,b⟩=false):=zh (by unfold zD7;simp[h1,h2,h3,h4,h5,h6,h7,h0,h8])
    replace h1:(op == 1)=false:=by simpa using h1
    replace h2:(op == 2)=false:=by simpa using h2
    replace h3:(op == 3)=false:=by simpa using h3
    replace h4:(op == 4)=false:=by simpa using h4
    replace h5:(op == 5)=false:=by simpa using h5
    replace h6:(op == 6)=false:=by simpa using h6
    replace h7:(op == 7)=false:=by simpa using h7
    replace h0:(op == 0)=false:=by simpa using h0
    replace h8:(op == 8)=false:=by simpa using h8
    go_wp2;go_meet
    exact⟨by rw[hm.out];first|done|rfl,HW.out⟩
   case rest =>
    obtain⟨rfl,hqc⟩:=hcut;have HQC:=zh hqc;clear hqc hA d1 d2;obtain⟨r,hr⟩:∃ r,zD7 C xs.length ⟨op,a,b⟩=r:=⟨_,rfl⟩;rw[hr];have HN:=zh (zBh (zD7 C xs.length) hx.out);cases r
    ·have HF:Hid (zBr xs c=false):=zh (by
      have h1:=zB8 (zD7 C xs.length) hx.out hr;unfold zBr;cases h2:zA8 c 1 8;·simp
      ·have h3:=zA5.1 h2
       have:C=c - 1:=by rw[<- hC.out];exact zH7 (by omega) (by omega)
       unfold zEh;rw[<- this,h1];simp)
     replace hr:=zh hr;go_wp2;go_ret;exact⟨zA2 HF.out.symm,HQC.out⟩
    ·replace hr:=zh hr;go_wp2;go_roundw
     case rel=>exact⟨k+1,by omega,by go_num,by rw[HN.out,HE.out,hr.out];rfl,HQC.out⟩
     case measure=>simp[intOf];omega
  ·have HA:Hid (xs.all (zD7 C xs.length)=true):=zh (by rw[<- zBu (zD7 C xs.length) xs k (by omega)];exact HE.out)
   have HF:Hid (zBr xs c=(zA8 xs.length 1 20 && zA8 c 1 8)):=zh (by
    unfold zBr;cases h2:zA8 c 1 8;·simp
    ·have h3:=zA5.1 h2
     have:C=c - 1:=by rw[<- hC];exact zH7 (by omega) (by omega)
     unfold zEh;rw[<- this,HA.out];simp)
   clear hC;go_wp2_with (go_at_call 39;refine(zAb _ _ _ _).mono ?_;rintro e w' ⟨rfl,rfl⟩)
   all_goals go_ret
   all_goals first
    | exact⟨by rw[HF.out,zAm (by assumption)];first|done|rfl,HQ.out⟩
    | exact⟨by rw[HF.out,zAt (Bool.eq_false_iff.2 (by assumption))];first|done|rfl,HQ.out⟩
def zEd(xs:List Int):Bool:=xs.all (fun n=>zA8 n 0 255)
def zAu(x:Core)(n:Nat)(c:Int):Bool:=(x.Cells.length:Int) == c && (zA8 x.At 0 (n - 1) && zEd x.Cells)
noncomputable def zFj(x:Hold)(k s:Int):Bool:=zBt k s && (decide ((x.Lst.length:Int)<=s) && zEd x.Lst)
theorem zHj(n:Int)(w:World):Calls Tryz.prog 99 #[.int .i64 n] w fun e w'=>e = .returned (.bool (!zA8 n 0 255))/\w=w':=by
 go_enter Tryz.func99,Tryz.ntmps99;go_wp2_with (go_at_call 100;refine(zHf _ _).mono ?_;rintro e w' ⟨rfl,rfl⟩)
 go_ret;exact⟨rfl,rfl⟩
theorem zHk(n:Int)(w:World):Calls Tryz.prog 102 #[.int .i64 n] w fun e w'=>e = .returned (.bool (!zA8 n 0 255))/\w=w':=by
 go_enter Tryz.func102,Tryz.ntmps102;go_wp2_with (go_at_call 100;refine(zHf _ _).mono ?_;rintro e w' ⟨rfl,rfl⟩)
 go_ret;exact⟨rfl,rfl⟩
theorem zFc(v vl:Value)(x:Core)(xs:List Order)(c:Int)(w:World)(h:Rv w v x)(hl:Rs w vl xs) :
  Calls Tryz.prog 64 #[v,vl,.int .i64 c] w fun e w'=>e = .returned (.bool (zAu x xs.length c))/\Ext w w':=by
 obtain⟨a0,c0,rfl,hr,hs,hl0⟩:=h.openCore;obtain⟨al,cl,rfl,hll⟩:=hl.form;clear h hl;have e0:=zh ((zr w).alloc (.cells #[.slice a0 x.Cells.length c0,.int .i64 x.At,.bool x.Stopped] 36));have hn0:0<=(xs.length:Int):=by omega
 by_cases h1:(x.Cells.length:Int)=c
 ·have h1':((x.Cells.length:Int) == c)=true:=by simpa using h1
  cases h2:zA8 x.At 0 (xs.length - 1)
  ·have hm:=zh (((zAm h1').trans (zAt h2)).symm:_=zAu x xs.length c);subst h1;go_enter Tryz.func64,Tryz.ntmps64;go_wp2_with (go_at_call 36;refine(zAi _ _ _ _).mono ?_;rintro e w' ⟨rfl,rfl⟩;rw[h2])
   go_ret;exact⟨zA2 hm.out,e0.out⟩
  ·have hm:=zh ((zC5 (fun n=>zA8 n 0 255) x.Cells).trans ((zAm h1').trans (zAm h2)).symm:_=zAu x xs.length c)
   have HX:=zh (zNz 99 #[] (fun n => !zA8 n 0 255) _ x.Cells _ (hs.out.ext e0.out) (zCs Tryz.func99 (by kernel_rfl) (by kernel_rfl))
    (fun w1 n _ _ _=>(zHj n w1).mono (by rintro e w' ⟨rfl,rfl⟩;exact⟨rfl,zr _⟩)))
   subst h1;go_enter Tryz.func64,Tryz.ntmps64;go_wp2_with (first|(go_at_call 36;refine(zAi _ _ _ _).mono ?_;rintro e w' ⟨rfl,rfl⟩;rw[h2])|(go_at_call 98;refine HX.out.mono ?_;rintro e w' ⟨rfl,he⟩))
   go_ret;exact⟨zA2 hm.out,e0.out.tr he⟩
 ·have h1':((x.Cells.length:Int) == c)=false:=by simpa using h1
  have hm:=zh ((zAt h1').symm:_=zAu x xs.length c);clear h1;go_enter Tryz.func64,Tryz.ntmps64;go_wp2;go_ret;exact⟨zA2 hm.out,e0.out⟩
theorem zDt(v vl:Value)(x:Core)(xs:List Order)(c:Int)(w:World)(h:Rv w v x)(hl:Rs w vl xs) :
  Calls Tryz.prog 56 #[v,vl,.int .i64 c] w fun e w'=>e = .returned (.bool (zBr xs c && zAu x xs.length c))/\Ext w w':=by
 have HL:=zh hl;obtain⟨a0,c0,rfl,hr,hs,hl0⟩:=h.openCore;obtain⟨al,cl,rfl,hll⟩:=hl.form;clear h hl;have hn0:0<=(xs.length:Int):=by omega
 go_enter Tryz.func56,Tryz.ntmps56;go_upto_region 1 with (fail)
 refine zA1 (fun W=>Ext w W/\Bk W w.heap.size [.slice a0 x.Cells.length c0,.int .i64 x.At,.bool x.Stopped] 36) ⟨(zr _).alloc _,Bk.new _ _ _⟩ ?_
 rintro W ⟨e1,kA⟩;have HE0:=zh e1;obtain⟨d0,d1⟩:=Bk.k2 kA;have hA:=kA.lt;replace HL:=zh (HL.out.ext e1);replace hs:=zh (hs.out.ext e1);clear e1 kA;go_wp2;go_loopw [7] (fun i wr => ∃ k:Nat,k<=x.Cells.length/\i = .int .i64 k/\(x.Cells.take k).all (fun n=>zA8 n 0 255)=true/\wr=W) (fun i _=>x.Cells.length - (intOf i).toNat)
 case atStart=>exact⟨0,Nat.zero_le _,rfl,rfl,rfl⟩
 case round =>
  obtain⟨k,hk,rfl,he,rfl⟩:=hrel;have HE:=zh he;clear he;by_cases hlt:k < x.Cells.length
  ·obtain⟨b,o,n,rfl,hb,hx,hc,hrn⟩:=hs.out.atInt k hlt;have HN:=zh (zBh (fun n=>zA8 n 0 255) hx.out)
   cases h2:zA8 n 0 255
   ·have HF:Hid ((zBr xs c && zAu x xs.length c)=false):=zh (by unfold zAu zEd;rw[zB8 (fun n=>zA8 n 0 255) hx.out h2];simp)
    go_wp2_with (go_at_call 39;refine(zAb _ _ _ _).mono ?_;rintro e w' ⟨rfl,rfl⟩;rw[h2])
    go_ret;exact⟨zA2 HF.out.symm,HE0.out⟩
   ·have H2:=zh h2;clear h2;go_wp2_with (go_at_call 39;refine(zAb _ _ _ _).mono ?_;rintro e w' ⟨rfl,rfl⟩;rw[H2.out])
    go_roundw
    case rel=>exact⟨k+1,by omega,by go_num,by rw[HN.out,HE.out,H2.out];rfl,by trivial⟩
    case measure=>simp[intOf];omega
  ·have HA:Hid (zEd x.Cells=true):=zh (by unfold zEd;rw[<- zBu (fun n=>zA8 n 0 255) x.Cells k (by omega)];exact HE.out)
   have HF:Hid (zAu x xs.length c=((x.Cells.length:Int) == c && zA8 x.At 0 (xs.length - 1))):=zh (by unfold zAu;rw[HA.out,Bool.and_true])
   cases h1:zBr xs c
   ·have HP:=zh h1;clear h1;go_wp2_with (go_at_call 92;refine(zCp _ xs c _ HL.out).mono ?_;rintro e w1 ⟨rfl,he⟩;rw[HP.out];have HE1:=zh he;clear he)
    go_ret;exact⟨by rw[HP.out];rfl,HE0.out.tr HE1.out⟩
   ·have HP:=zh h1;clear h1;have hA2:=hA;by_cases h3:(x.Cells.length:Int)=c
    ·have h3':=zh (by simpa using h3:((x.Cells.length:Int) == c)=true)
     subst h3
     go_wp2_with (first
      | (go_at_call 92;refine(zCp _ xs _ _ HL.out).mono ?_;rintro e w1 ⟨rfl,he⟩;rw[HP.out];have f0:=(zA0 he hA2).trans d0;have f1:=(zA0 he hA2).trans d1;have HE1:=zh he;clear he)
      | (go_at_call 39;refine(zAb _ _ _ _).mono ?_;rintro e w' ⟨rfl,rfl⟩))
     go_ret;exact⟨by rw[HP.out,HF.out,h3'.out];simp,HE0.out.tr HE1.out⟩
    ·have h3':((x.Cells.length:Int) == c)=false:=by simpa using h3
     have HF2:=zh (HF.out.trans (zAt h3'));clear h3
     go_wp2_with (first
      | (go_at_call 92;refine(zCp _ xs _ _ HL.out).mono ?_;rintro e w1 ⟨rfl,he⟩;rw[HP.out];have f0:=(zA0 he hA2).trans d0;have f1:=(zA0 he hA2).trans d1;have HE1:=zh he;clear he))
     go_ret;exact⟨by rw[HP.out,HF2.out];first|done|rfl,HE0.out.tr HE1.out⟩
theorem zFd(v:Value)(x:Hold)(k s:Int)(w:World)(h:Rv w v x) :
  Calls Tryz.prog 65 #[v,.int .i64 k,.int .i64 s] w fun e w'=>e = .returned (.bool (zFj x k s))/\Ext w w':=by
 obtain⟨a0,c0,rfl,hs,hl0⟩:=h.openHold;clear h;have e0:=zh ((zr w).alloc (.cells #[.slice a0 x.Lst.length c0] 80));cases h1:zBt k s
 ·have hm:=zh ((zAt h1).symm:_=zFj x k s);go_enter Tryz.func65,Tryz.ntmps65;go_wp2_with (go_at_call 101;refine(zCn _ _ _).mono ?_;rintro e w' ⟨rfl,rfl⟩;rw[h1])
  go_ret;exact⟨zA2 hm.out,e0.out⟩
 ·by_cases h2:(x.Lst.length:Int)<=s
  ·have hm:=zh ((zC5 (fun n=>zA8 n 0 255) x.Lst).trans ((zAm h1).trans (zAm (decide_eq_true h2))).symm:_=zFj x k s)
   have HX:=zh (zNz 102 #[] (fun n => !zA8 n 0 255) _ x.Lst _ (hs.out.ext e0.out) (zCs Tryz.func102 (by kernel_rfl) (by kernel_rfl))
    (fun w1 n _ _ _=>(zHk n w1).mono (by rintro e w' ⟨rfl,rfl⟩;exact⟨rfl,zr _⟩)))
   have h2':decide ((x.Lst.length:Int)<=s)=true:=decide_eq_true h2;go_enter Tryz.func65,Tryz.ntmps65;go_wp2_with (first|(go_at_call 101;refine(zCn _ _ _).mono ?_;rintro e w' ⟨rfl,rfl⟩;rw[h1])|(go_at_call 98;refine HX.out.mono ?_;rintro e w' ⟨rfl,he⟩))
   go_ret;exact⟨zA2 hm.out,e0.out.tr he⟩
  ·have hm:=zh (((zAm h1).trans (zAt (decide_eq_false h2))).symm:_=zFj x k s);have h2':decide ((x.Lst.length:Int)<=s)=false:=decide_eq_false h2;go_enter Tryz.func65,Tryz.ntmps65;go_wp2_with (go_at_call 101;refine(zCn _ _ _).mono ?_;rintro e w' ⟨rfl,rfl⟩;rw[h1])
   go_ret;exact⟨zA2 hm.out,e0.out⟩
theorem zNp(k s:Int):zBt k s=(zA8 k 1 3 && (zA8 s 1 4 && (!(k == 1) || (s == 1)))):=by
 rw[Bool.eq_iff_iff,zFk];simp only[Bool.and_eq_true,Bool.or_eq_true,zA5,Bool.not_eq_true',beq_eq_false_iff_ne,beq_iff_eq];omega
theorem zBz(v:Value)(x:Hold)(q s:Int)(w:World)(h:Rv w v x) :
  Calls Tryz.prog 57 #[v,.int .i64 q,.int .i64 s] w fun e w'=>e = .returned (.bool (zFj x q s))/\Ext w w':=by
 obtain⟨a0,c0,rfl,hs,hl0⟩:=h.openHold;clear h;go_enter Tryz.func57,Tryz.ntmps57;go_upto_region 1 with (fail)
 refine zA1 (fun W=>Ext w W/\Bk W w.heap.size [.slice a0 x.Lst.length c0] 80) ⟨(zr _).alloc _,Bk.new _ _ _⟩ ?_
 rintro W ⟨e1,kA⟩;have HE0:=zh e1;have d0:=kA.cell (j:=0) rfl;have hA:=kA.lt;replace hs:=zh (hs.out.ext e1);clear e1 kA;go_wp2;go_loopw [7] (fun i wr => ∃ k:Nat,k<=x.Lst.length/\i = .int .i64 k/\(x.Lst.take k).all (fun n=>zA8 n 0 255)=true/\wr=W) (fun i _=>x.Lst.length - (intOf i).toNat)
 case atStart=>exact⟨0,Nat.zero_le _,rfl,rfl,rfl⟩
 case round =>
  obtain⟨k,hk,rfl,he,rfl⟩:=hrel;have HE:=zh he;clear he;by_cases hlt:k < x.Lst.length
  ·obtain⟨b,o,n,rfl,hb,hx,hc,hrn⟩:=hs.out.atInt k hlt;have HN:=zh (zBh (fun n=>zA8 n 0 255) hx.out)
   cases h2:zA8 n 0 255
   ·have HF:Hid (zFj x q s=false):=zh (by unfold zFj zEd;rw[zB8 (fun n=>zA8 n 0 255) hx.out h2];simp)
    go_wp2_with (go_at_call 39;refine(zAb _ _ _ _).mono ?_;rintro e w' ⟨rfl,rfl⟩;rw[h2])
    go_ret;exact⟨zA2 HF.out.symm,HE0.out⟩
   ·have H2:=zh h2;clear h2;go_wp2_with (go_at_call 39;refine(zAb _ _ _ _).mono ?_;rintro e w' ⟨rfl,rfl⟩;rw[H2.out])
    go_roundw
    case rel=>exact⟨k+1,by omega,by go_num,by rw[HN.out,HE.out,H2.out];rfl,by trivial⟩
    case measure=>simp[intOf];omega
  ·have HA:Hid (zEd x.Lst=true):=zh (by unfold zEd;rw[<- zBu (fun n=>zA8 n 0 255) x.Lst k (by omega)];exact HE.out)
   have HF:Hid (zFj x q s=(zA8 q 1 3 && (zA8 s 1 4 && ((!(q == 1) || (s == 1)) && decide ((x.Lst.length:Int)<=s))))):=zh (by unfold zFj;rw[HA.out,Bool.and_true,zNp];simp only[Bool.and_assoc])
   cases h1:zA8 q 1 3
   ·have HG:=zh (HF.out.trans (zAt h1));go_wp2_with (go_at_call 39;refine(zAb _ _ _ _).mono ?_;rintro e w' ⟨rfl,rfl⟩;rw[h1])
    go_ret;exact⟨by rw[HG.out];first|done|rfl,HE0.out⟩
   cases h2:zA8 s 1 4
   ·have HG:=zh (HF.out.trans ((zAm h1).trans (zAt h2)));go_wp2_with (go_at_call 39;refine(zAb _ _ _ _).mono ?_;rintro e w' ⟨rfl,rfl⟩;first|rw[h1]|rw[h2])
    go_ret;exact⟨by rw[HG.out];first|done|rfl,HE0.out⟩
   have HG:=zh (HF.out.trans ((zAm h1).trans (zAm h2)));clear HF;by_cases h3:q=1
   ·subst h3;by_cases h4:s=1
    ·subst h4;go_wp2_with (go_at_call 39;refine(zAb _ _ _ _).mono ?_;rintro e w' ⟨rfl,rfl⟩;first|rw[h1]|rw[h2])
     go_ret;exact⟨by rw[HG.out];first|done|rfl,HE0.out⟩
    ·have h4':(s == 1)=false:=by simpa using h4
     have HK:=zh (HG.out.trans (zAt (by rw[h4'];rfl)))
     clear h4;go_wp2_with (go_at_call 39;refine(zAb _ _ _ _).mono ?_;rintro e w' ⟨rfl,rfl⟩;first|rw[h1]|rw[h2])
     go_ret;exact⟨by rw[HK.out];first|done|rfl,HE0.out⟩
   ·have h3':(q == 1)=false:=by simpa using h3
    have HK:=zh (HG.out.trans (zAm (by rw[h3'];rfl)))
    have h3n:(q != 1)=true:=by simpa using h3
    go_wp2_with (go_at_call 39;refine(zAb _ _ _ _).mono ?_;rintro e w' ⟨rfl,rfl⟩;first|rw[h1]|rw[h2])
    go_ret;exact⟨by rw[HK.out];first|done|rfl,HE0.out⟩
end Sk
