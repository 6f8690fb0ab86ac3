/- Contracts of functions of the given program. -/
import Derived.Test.YtfbkkjihlncnhaaGreatNumsS
import Derived.Test.YtfbkkjihlncnhaaGreatDraw
namespace Sk
open Go Go.Proofs Go.RowKit
set_option maxHeartbeats 2000000
set_option maxRecDepth 100000
set_option linter.unusedVariables false
set_option linter.unusedSimpArgs false
def M.tk (xs:List Slot) (k:Nat):Int:=((xs.take k).map (·.Ticks)).sum
theorem M.tk_zero (xs:List Slot):M.tk xs 0=0:=rfl
theorem M.tk_next {xs:List Slot} {k:Nat} {x:Slot} (h:xs[k]? = some x):M.tk xs (k+1)=M.tk xs k+x.Ticks:=by
 unfold M.tk;rw[take_snoc h];simp
theorem M.ssv_all {xs:List Slot} {n:Int} (h:M.ssv xs n=true):1≤xs.length∧xs.length≤12∧(0≤n∧n≤5)∧∀ x∈xs,(1≤x.Ticks∧x.Ticks≤20) ∧ -1≤x.Who∧x.Who≤n - 1:=by
 unfold M.ssv at h;simp only[Bool.and_eq_true,M.inn_iff,List.all_eq_true,M.slv] at h;exact⟨by omega,by omega,h.1,fun x hx=>h.2.2 x hx⟩
theorem M.tk_bd {xs:List Slot} (h:∀ x∈xs,1≤x.Ticks∧x.Ticks≤20):∀ k,k≤xs.length→(k:Int)≤M.tk xs k∧M.tk xs k≤20*k:=by
 intro k
 induction k with
 | zero=>intro _;exact⟨Int.le_refl _,Int.le_refl _⟩
 | succ k ih =>
  intro hk;obtain⟨x,hx⟩:∃ x,xs[k]? = some x:=⟨_,List.getElem?_eq_getElem (by omega)⟩
  rw[M.tk_next hx]
  have:=ih (by omega)
  have:=h x (List.mem_of_getElem? hx)
  omega
theorem spec_FrameTicks (v:Value) (xs:List Slot) (n:Int) (w:World) (h:Rs w v xs) (hv:M.ssv xs n=true) :
  Calls Tryz.prog 117 #[v,.int .i64 n] w fun e w'=>e = .returned (.int .i64 (M.tk xs xs.length))∧Ext w w':=by
 obtain⟨a,c,rfl,hl⟩:=h.form;have H:=zh h;have hall:=M.ssv_all hv;have HV:=zh hv;obtain⟨hx1,hx12,_,hxx⟩:=hall;have HT:=zh (M.tk_bd (fun x hx=>(hxx x hx).1))
 clear h hv hxx;go_enter Tryz.func117,Tryz.ntmps117;go_wp2_with (go_at_call 116;refine(spec_SlotsValid _ xs n w H.out).mono ?_;rintro e w1 ⟨rfl,he⟩;rw[HV.out];have HE1:=zh he;clear he)
 go_loopw [5,6] (fun t i wr => ∃ k:Nat,k≤xs.length∧t = .int .i64 (M.tk xs k)∧i = .int .i64 k∧Ext w wr) (fun _ i _=>xs.length - (intOf i).toNat)
 case atStart=>exact⟨0,Nat.zero_le _,rfl,rfl,HE1.out⟩
 case round =>
  clear HE1;obtain⟨k,hk,rfl,rfl,hq⟩:=hrel;have HQ:=zh hq;clear hq;have hb:=HT.out k hk;by_cases hkt:k < xs.length
  ·obtain⟨b,o,x,rfl,hbl,hx,hc0,hc1,hr0,hr1,hvx⟩:=(H.out.ext HQ.out).atSlot k hkt;have hb2:=HT.out (k+1) (by omega)
   have HN:=zh (M.tk_next hx.out);have hb3:M.tk xs (k+1)=M.tk xs k+x.Ticks:=HN.out;rw[hb3] at hb2;clear hb3;go_wp2;go_roundw
   case rel=>exact⟨k+1,by omega,by rw[HN.out],by go_num,HQ.out⟩
   case measure=>simp[intOf];omega
  ·obtain rfl:k=xs.length:=by omega
   go_wp2;go_ret;exact⟨rfl,HQ.out⟩
set_option maxHeartbeats 1600000
theorem M.iReadR {s:Setup} (h:M.setv s=true) (rest:List Int):M.iAll (M.nums s++rest,false)=s∧M.iEnd (M.nums s++rest,false)=(rest,false):=by
 have h5:=M.setv_parts h;have h8:=M.setv_chans h;have h12:=M.setv_slots h;have i5:M.inn (s.Parts.length:Int) 0 5=true:=M.inn_len (by omega)
 have i8:M.inn (s.Channels.length:Int) 0 8=true:=M.inn_len (by omega)
 have i12:M.inn (s.Slots.length:Int) 0 12=true:=M.inn_len (by omega)
 have hn:M.nums s++rest=(s.Parts.length:Int)::(s.Parts.flatMap M.pn++((s.Channels.length:Int)::(s.Channels.flatMap M.cn++((s.Slots.length:Int)::(s.Slots.flatMap M.sn++rest))))):=by simp[M.nums]
 have hP:=M.iter_all (f:=M.iP1) (g:=M.pn) (ok:=fun x=>x.Windows.length≤12) (fun x r hx=>M.iP1_ok x r hx) ((s.Channels.length:Int)::(s.Channels.flatMap M.cn++((s.Slots.length:Int)::(s.Slots.flatMap M.sn++rest)))) s.Parts
  (fun x hx=>by obtain⟨k,hk⟩:=List.getElem?_of_mem hx;exact M.setv_win h hk)
 have hC:=M.iter_all (f:=M.iC1) (g:=M.cn) (ok:=fun _=>True) (fun x r _=>M.iC1_ok x r) ((s.Slots.length:Int)::(s.Slots.flatMap M.sn++rest)) s.Channels (fun _ _=>trivial)
 have hS:=M.iter_all (f:=M.iS1) (g:=M.sn) (ok:=fun x => -1≤x.Who) (fun x r hx=>M.iS1_ok x r hx) rest s.Slots (fun x hx=>(M.setv_who h hx).1)
 rw[hn];simp only[M.iAll,M.iEnd,M.iPs,M.iCs,M.iSs,M.mx_cons _ _ i5,M.ms_cons _ _ i5,Int.toNat_natCast,hP,M.mx_cons _ _ i8,M.ms_cons _ _ i8,hC,M.mx_cons _ _ i12,M.ms_cons _ _ i12,hS];exact⟨trivial,trivial⟩
theorem M.numbers_cases (s:Setup):(M.setv s=true∧M.numbers s=M.nums s)∨(M.setv s=false∧M.numbers s = []):=by
 unfold M.numbers;cases h:M.setv s;·exact .inr ⟨rfl,rfl⟩
 ·exact .inl ⟨rfl,rfl⟩
set_option maxHeartbeats 1000000
def M.ovh (h n:Int) (x:Order):Bool :=
 if x.Op=1 then M.inn x.A 0 h && M.inn x.B 0 255
 else if x.Op=2∨x.Op=3 then M.inn x.A 0 h && M.inn x.B 0 h
 else if x.Op=4 then M.inn x.A 0 (n - 1) && M.inn x.B 0 h
 else if x.Op=5∨x.Op=6 then M.inn x.A 0 7 && M.inn x.B 0 h
 else if x.Op=7 then M.inn x.A 0 h && x.B == 0
 else if x.Op=0∨x.Op=8 then x.A == 0 && x.B == 0 else false
def M.ov (c n:Int) (x:Order):Bool:=M.ovh (c - 1) n x
def M.prv (xs:List Order) (c:Int):Bool:=M.inn xs.length 1 20 && (M.inn c 1 8 && xs.all (M.ov c xs.length))
theorem wrap_small {n:Int} (h1 : -9223372036854775808≤n) (h2:n≤9223372036854775807):IntKind.i64.wrap n=n:=by
 rw[IntKind.wrap_i64];omega
theorem impl_Order_valid (v:Value) (x:Order) (c n:Int) (w:World) (h:Rv w v x) (hc1:1≤c) (hc2:c≤8) (hn1:1≤n) (hn2:n≤20) :
  Calls Tryz.prog 158 #[v,.int .i64 c,.int .i64 n] w fun e w'=>e = .returned (.bool (M.ov c n x))∧Ext w w':=by
 obtain⟨rfl,hr0,hr1,hr2⟩:=h.openOrder;clear h;obtain⟨op,a,b⟩:=x;simp only at hr0 hr1 hr2 ⊢;have e0:=zh ((Ext.refl w).alloc (.cells #[.int .i64 op,.int .i64 a,.int .i64 b] 89));go_enter Tryz.func158,Tryz.ntmps158;go_upto_region 1 with (fail)
 refine abs_world (fun W=>Ext w W∧Bk W w.heap.size [.int .i64 op,.int .i64 a,.int .i64 b] 89) ⟨(Ext.refl _).alloc _,Bk.new _ _ _⟩ ?_
 rintro W ⟨e1,kA⟩;have HE:=zh e1;obtain⟨d0,d1,d2⟩:=Bk.k3 kA;have hA:=kA.lt;clear e1 kA
 go_region_held3 (fun u=>u.cell? ⟨w.heap.size,1,none⟩=some (.int .i64 a)∧u.cell? ⟨w.heap.size,2,none⟩=some (.int .i64 b)) (first
  | go_keep
  | exact⟨d1,d2⟩)
  (first
  | (go_at_call 55;refine(impl_in _ _ _ _).mono ?_;rintro e w' ⟨rfl,rfl⟩))
 have HW:=zh HE.out.drew;go_upto_block 0 with (fail)
 clear HE;by_cases h1:op=1
 ·subst h1;have hm:Hid (M.ov c n ⟨1,a,b⟩=((M.inn a 0 (c - 1)) && (M.inn b 0 255))):=zh rfl;go_wp2_with (go_at_call 55;refine(impl_in _ _ _ _).mono ?_;rintro e w' ⟨rfl,rfl⟩)
  all_goals go_ret
  all_goals first
   | exact⟨by rw[hm.out,and_t (by assumption)];rfl,HW.out⟩
   | exact⟨by rw[hm.out,and_f (Bool.eq_false_iff.2 (by assumption))];rfl,HW.out⟩
 by_cases h2:op=2
 ·subst h2;have hm:Hid (M.ov c n ⟨2,a,b⟩=((M.inn a 0 (c - 1)) && (M.inn b 0 (c - 1)))):=zh rfl;go_wp2_with (go_at_call 55;refine(impl_in _ _ _ _).mono ?_;rintro e w' ⟨rfl,rfl⟩)
  all_goals go_ret
  all_goals first
   | exact⟨by rw[hm.out,and_t (by assumption)];rfl,HW.out⟩
   | exact⟨by rw[hm.out,and_f (Bool.eq_false_iff.2 (by assumption))];rfl,HW.out⟩
 by_cases h3:op=3
 ·subst h3;have hm:Hid (M.ov c n ⟨3,a,b⟩=((M.inn a 0 (c - 1)) && (M.inn b 0 (c - 1)))):=zh rfl;go_wp2_with (go_at_call 55;refine(impl_in _ _ _ _).mono ?_;rintro e w' ⟨rfl,rfl⟩)
  all_goals go_ret
  all_goals first
   | exact⟨by rw[hm.out,and_t (by assumption)];rfl,HW.out⟩
   | exact⟨by rw[hm.out,and_f (Bool.eq_false_iff.2 (by assumption))];rfl,HW.out⟩
 by_cases h4:op=4
 ·subst h4;have hm:Hid (M.ov c n ⟨4,a,b⟩=((M.inn a 0 (n - 1)) && (M.inn b 0 (c - 1)))):=zh rfl;go_wp2_with (go_at_call 55;refine(impl_in _ _ _ _).mono ?_;rintro e w' ⟨rfl,rfl⟩)
  all_goals go_ret
  all_goals first
   | exact⟨by rw[hm.out,and_t (by assumption)];rfl,HW.out⟩
   | exact⟨by rw[hm.out,and_f (Bool.eq_false_iff.2 (by assumption))];rfl,HW.out⟩
 by_cases h5:op=5
 ·subst h5;have hm:Hid (M.ov c n ⟨5,a,b⟩=((M.inn a 0 7) && (M.inn b 0 (c - 1)))):=zh rfl;go_wp2_with (go_at_call 55;refine(impl_in _ _ _ _).mono ?_;rintro e w' ⟨rfl,rfl⟩)
  all_goals go_ret
  all_goals first
   | exact⟨by rw[hm.out,and_t (by assumption)];rfl,HW.out⟩
   | exact⟨by rw[hm.out,and_f (Bool.eq_false_iff.2 (by assumption))];rfl,HW.out⟩
 by_cases h6:op=6
 ·subst h6;have hm:Hid (M.ov c n ⟨6,a,b⟩=((M.inn a 0 7) && (M.inn b 0 (c - 1)))):=zh rfl;go_wp2_with (go_at_call 55;refine(impl_in _ _ _ _).mono ?_;rintro e w' ⟨rfl,rfl⟩)
  all_goals go_ret
  all_goals first
   | exact⟨by rw[hm.out,and_t (by assumption)];rfl,HW.out⟩
   | exact⟨by rw[hm.out,and_f (Bool.eq_false_iff.2 (by assumption))];rfl,HW.out⟩
 by_cases h7:op=7
 ·subst h7;have hm:Hid (M.ov c n ⟨7,a,b⟩=((M.inn a 0 (c - 1)) && (b == 0))):=zh rfl;go_wp2_with (go_at_call 55;refine(impl_in _ _ _ _).mono ?_;rintro e w' ⟨rfl,rfl⟩)
  all_goals go_ret
  all_goals first
   | exact⟨by rw[hm.out,and_t (by assumption)];rfl,HW.out⟩
   | exact⟨by rw[hm.out,and_f (Bool.eq_false_iff.2 (by assumption))];rfl,HW.out⟩
 by_cases h0:op=0
 ·subst h0;have hm:Hid (M.ov c n ⟨0,a,b⟩=((a == 0) && (b == 0))):=zh rfl;by_cases ha:a=0
  ·subst ha;go_wp2;go_ret;exact⟨by rw[hm.out];rfl,HW.out⟩
  ·have ha2:(a == 0)=false:=by simpa using ha
   have HM:=zh (hm.out.trans (and_f ha2));clear hm;go_wp2;go_ret;exact⟨by rw[HM.out];first|done|rfl,HW.out⟩
 by_cases h8:op=8
 ·subst h8;have hm:Hid (M.ov c n ⟨8,a,b⟩=((a == 0) && (b == 0))):=zh rfl;by_cases ha:a=0
  ·subst ha;go_wp2;go_ret;exact⟨by rw[hm.out];rfl,HW.out⟩
  ·have ha2:(a == 0)=false:=by simpa using ha
   have HM:=zh (hm.out.trans (and_f ha2));clear hm;go_wp2;go_ret;exact⟨by rw[HM.out];first|done|rfl,HW.out⟩
 have hm:Hid (M.ov c n ⟨op,a,b⟩=false):=zh (by unfold M.ov M.ovh;simp[h1,h2,h3,h4,h5,h6,h7,h0,h8])
 replace h1:(op == 1)=false:=by simpa using h1
 replace h2:(op == 2)=false:=by simpa using h2
 replace h3:(op == 3)=false:=by simpa using h3
 replace h4:(op == 4)=false:=by simpa using h4
 replace h5:(op == 5)=false:=by simpa using h5
 replace h6:(op == 6)=false:=by simpa using h6
 replace h7:(op == 7)=false:=by simpa using h7
 replace h0:(op == 0)=false:=by simpa using h0
 replace h8:(op == 8)=false:=by simpa using h8
 go_wp2;go_ret;exact⟨by rw[hm.out];first|done|rfl,HW.out⟩
theorem impl_ProgramValid_1 (v:Value) (x:Order) (b1 b2:Nat) (c:Int) (n:Nat) (a:Option Addr) (cp:Nat) (w:World) (h:Rv w v x) (hb1:b1 < w.heap.size) (hb2:b2 < w.heap.size)
  (hc:w.cell? ⟨b1,0,none⟩=some (.int .i64 c)) (hl:w.cell? ⟨b2,0,none⟩=some (.slice a n cp)) (hc1:1≤c) (hc2:c≤8) (hn1:1≤n) (hn2:n≤20) :
  Calls Tryz.prog 157 #[v,.pointer (some ⟨b1,0,none⟩),.pointer (some ⟨b2,0,none⟩)] w fun e w'=>e = .returned (.bool (!M.ov c n x))∧Ext w w':=by
 have H:=zh h;obtain⟨rfl,hr0,hr1,hr2⟩:=h.openOrder;clear h;go_enter Tryz.func157,Tryz.ntmps157;go_wp2_with (go_at_call 158;refine(impl_Order_valid _ x c n _ (H.out.ext ((Ext.refl w).alloc _)) hc1 hc2 (by omega) (by omega)).mono ?_;rintro e w' ⟨rfl,he⟩;have HE:=zh he;clear he)
 go_ret;exact⟨rfl,((Ext.refl w).alloc _).tr HE.out⟩
theorem impl_ProgramValid (v:Value) (xs:List Order) (c:Int) (w:World) (h:Rs w v xs) :
  Calls Tryz.prog 109 #[v,.int .i64 c] w fun e w'=>e = .returned (.bool (M.prv xs c))∧Ext w w':=by
 have H:=zh h;obtain⟨a,cp,rfl,hl⟩:=h.form;have e0:=zh (((Ext.refl w).alloc (.cells #[.slice a xs.length cp] 65)).alloc (.cells #[.int .i64 c] 3));clear h;cases h1:M.inn xs.length 1 20
 ·have hm:=zh ((and_f h1).symm:_=M.prv xs c);go_enter Tryz.func109,Tryz.ntmps109;go_wp2_with (go_at_call 55;refine(impl_in _ _ _ _).mono ?_;rintro e w' ⟨rfl,rfl⟩;rw[h1])
  go_ret;exact⟨wp_cond_ret hm.out,e0.out⟩
 ·obtain⟨hn1,hn2⟩:=M.inn_iff.1 h1;cases h2:M.inn c 1 8
  ·have hm:=zh (((and_t h1).trans (and_f h2)).symm:_=M.prv xs c);go_enter Tryz.func109,Tryz.ntmps109;go_wp2_with (go_at_call 55;refine(impl_in _ _ _ _).mono ?_;rintro e w' ⟨rfl,rfl⟩;first|rw[h1]|rw[h2])
   go_ret;exact⟨wp_cond_ret hm.out,e0.out⟩
  ·obtain⟨hc1,hc2⟩:=M.inn_iff.1 h2;have HX:=zh (has_Order 157 #[.pointer (some ⟨w.heap.size+1,0,none⟩),.pointer (some ⟨w.heap.size,0,none⟩)] (fun x => !M.ov c xs.length x) _ xs _ (H.out.ext e0.out) (enter_of Tryz.func157 (by kernel_rfl) (by kernel_rfl))
    (fun w1 v x he _ hv=>impl_ProgramValid_1 v x _ _ c xs.length a cp w1 hv (by have:=he.sz;simp at this;omega) (by have:=he.sz;simp at this;omega)
     ((cell_ext he (by simp<;>omega)).trans ((Bk.new1 _ _ _ _).cell (j:=0) rfl)) ((cell_ext he (by simp<;>omega)).trans (((Bk.new _ _ _).ext ((Ext.refl _).alloc _)).cell (j:=0) rfl)) hc1 hc2 (by omega) (by omega)))
   have hm:=zh ((not_any_not (M.ov c xs.length) xs).trans ((and_t h1).trans (and_t h2)).symm:_=M.prv xs c);go_enter Tryz.func109,Tryz.ntmps109;go_wp2_with (first|(go_at_call 55;refine(impl_in _ _ _ _).mono ?_;rintro e w' ⟨rfl,rfl⟩;first|rw[h1]|rw[h2])|(go_at_call 156;refine HX.out.mono ?_;rintro e w' ⟨rfl,he⟩))
   go_ret;exact⟨wp_cond_ret hm.out,e0.out.tr he⟩
theorem spec_ProgramValid (v:Value) (xs:List Order) (c:Int) (w:World) (h:Rs w v xs) :
  Calls Tryz.prog 152 #[v,.int .i64 c] w fun e w'=>e = .returned (.bool (M.prv xs c))∧Ext w w':=by
 have H:=zh h;obtain⟨a,cp,rfl,hl⟩:=h.form;clear h;obtain⟨C,hC⟩:∃ C,IntKind.i64.wrap (c - 1)=C:=⟨_,rfl⟩;have hn1:0≤(xs.length:Int):=by omega
 go_enter Tryz.func152,Tryz.ntmps152;go_wp2;go_loopw [5,6,7,8,9] (fun i _ _ _ _ wr => ∃ k:Nat,k≤xs.length∧i = .int .i64 k∧(xs.take k).all (M.ovh C xs.length)=true∧Ext w wr) (fun i _ _ _ _ _=>xs.length - (intOf i).toNat)
 case atStart=>exact⟨0,Nat.zero_le _,rfl,rfl,.refl _⟩
 case round =>
  obtain⟨k,hk,rfl,he,hq⟩:=hrel;have HE:=zh he;have HQ:=zh hq;clear he hq;by_cases hlt:k < xs.length
  ·obtain⟨b0,o0,x,rfl,hb,hx,hc0,hc1,hc2,hr0,hr1,hr2,hv⟩:=(H.out.ext HQ.out).atOrder k hlt;obtain⟨op,a,b⟩:=x;simp only at hx hc0 hc1 hc2 hr0 hr1 hr2;go_upto_block 2 with (go_at_call 60;refine(spec_In _ _ _ _).mono ?_;rintro e w' ⟨rfl,rfl⟩)
   try simp only[hC]
   refine abs_world (fun W=>Ext wr W∧Bk W wr.heap.size [.int .i64 op,.int .i64 a,.int .i64 b] 89) ⟨(Ext.refl _).alloc _,Bk.new _ _ _⟩ ?_
   rintro W ⟨e1,kA⟩;have d1:=kA.cell (j:=1) rfl;have d2:=kA.cell (j:=2) rfl;have hA:=kA.lt;have HW:=zh (HQ.out.tr e1);clear e1 kA hc0 hc1 hc2;replace hC:=zh hC;go_cut [7,8,9] from 10 to 87 (fun _ _ ok wc=>ok = .bool (M.ovh C xs.length ⟨op,a,b⟩)∧Ext w wc)
   case first =>
    by_cases h1:op=1
    ·subst h1;have hm:Hid (M.ovh C xs.length ⟨1,a,b⟩=((M.inn a 0 C) && (M.inn b 0 255))):=zh rfl;go_wp2_with (go_at_call 60;refine(spec_In _ _ _ _).mono ?_;rintro e w' ⟨rfl,rfl⟩)
     all_goals go_meet
     all_goals first
      | exact⟨by rw[hm.out,and_t (by assumption)];first|done|rfl,HW.out⟩
      | exact⟨by rw[hm.out,and_f (Bool.eq_false_iff.2 (by assumption))];first|done|rfl,HW.out⟩
    by_cases h2:op=2
    ·subst h2;have hm:Hid (M.ovh C xs.length ⟨2,a,b⟩=((M.inn a 0 C) && (M.inn b 0 C))):=zh rfl;go_wp2_with (go_at_call 60;refine(spec_In _ _ _ _).mono ?_;rintro e w' ⟨rfl,rfl⟩)
     all_goals go_meet
     all_goals first
      | exact⟨by rw[hm.out,and_t (by assumption)];first|done|rfl,HW.out⟩
      | exact⟨by rw[hm.out,and_f (Bool.eq_false_iff.2 (by assumption))];first|done|rfl,HW.out⟩
    by_cases h3:op=3
    ·subst h3;have hm:Hid (M.ovh C xs.length ⟨3,a,b⟩=((M.inn a 0 C) && (M.inn b 0 C))):=zh rfl;go_wp2_with (go_at_call 60;refine(spec_In _ _ _ _).mono ?_;rintro e w' ⟨rfl,rfl⟩)
     all_goals go_meet
     all_goals first
      | exact⟨by rw[hm.out,and_t (by assumption)];first|done|rfl,HW.out⟩
      | exact⟨by rw[hm.out,and_f (Bool.eq_false_iff.2 (by assumption))];first|done|rfl,HW.out⟩
    by_cases h4:op=4
    ·subst h4;have hm:Hid (M.ovh C xs.length ⟨4,a,b⟩=((M.inn a 0 (xs.length - 1)) && (M.inn b 0 C))):=zh rfl;go_wp2_with (go_at_call 60;refine(spec_In _ _ _ _).mono ?_;rintro e w' ⟨rfl,rfl⟩)
     all_goals go_meet
     all_goals first
      | exact⟨by rw[hm.out,and_t (by assumption)];first|done|rfl,HW.out⟩
      | exact⟨by rw[hm.out,and_f (Bool.eq_false_iff.2 (by assumption))];first|done|rfl,HW.out⟩
    by_cases h5:op=5
    ·subst h5;have hm:Hid (M.ovh C xs.length ⟨5,a,b⟩=((M.inn a 0 7) && (M.inn b 0 C))):=zh rfl;go_wp2_with (go_at_call 60;refine(spec_In _ _ _ _).mono ?_;rintro e w' ⟨rfl,rfl⟩)
     all_goals go_meet
     all_goals first
      | exact⟨by rw[hm.out,and_t (by assumption)];first|done|rfl,HW.out⟩
      | exact⟨by rw[hm.out,and_f (Bool.eq_false_iff.2 (by assumption))];first|done|rfl,HW.out⟩
    by_cases h6:op=6
    ·subst h6;have hm:Hid (M.ovh C xs.length ⟨6,a,b⟩=((M.inn a 0 7) && (M.inn b 0 C))):=zh rfl;go_wp2_with (go_at_call 60;refine(spec_In _ _ _ _).mono ?_;rintro e w' ⟨rfl,rfl⟩)
     all_goals go_meet
     all_goals first
      | exact⟨by rw[hm.out,and_t (by assumption)];first|done|rfl,HW.out⟩
      | exact⟨by rw[hm.out,and_f (Bool.eq_false_iff.2 (by assumption))];first|done|rfl,HW.out⟩
    by_cases h7:op=7
    ·subst h7;have hm:Hid (M.ovh C xs.length ⟨7,a,b⟩=((M.inn a 0 C) && (b == 0))):=zh rfl;go_wp2_with (go_at_call 60;refine(spec_In _ _ _ _).mono ?_;rintro e w' ⟨rfl,rfl⟩)
     all_goals go_meet
     all_goals first
      | exact⟨by rw[hm.out,and_t (by assumption)];first|done|rfl,HW.out⟩
      | exact⟨by rw[hm.out,and_f (Bool.eq_false_iff.2 (by assumption))];first|done|rfl,HW.out⟩
    by_cases h0:op=0
    ·subst h0;have hm:Hid (M.ovh C xs.length ⟨0,a,b⟩=((a == 0) && (b == 0))):=zh rfl;by_cases ha:a=0
     ·subst ha;go_wp2;go_meet
      exact⟨by rw[hm.out];first|done|rfl,HW.out⟩
     ·have ha2:(a == 0)=false:=by simpa using ha
      have HM:=zh (hm.out.trans (and_f ha2));clear hm;go_wp2;go_meet
      exact⟨by rw[HM.out];first|done|rfl,HW.out⟩
    by_cases h8:op=8
    ·subst h8;have hm:Hid (M.ovh C xs.length ⟨8,a,b⟩=((a == 0) && (b == 0))):=zh rfl;by_cases ha:a=0
     ·subst ha;go_wp2;go_meet
      exact⟨by rw[hm.out];first|done|rfl,HW.out⟩
     ·have ha2:(a == 0)=false:=by simpa using ha
      have HM:=zh (hm.out.trans (and_f ha2));clear hm;go_wp2;go_meet
      exact⟨by rw[HM.out];first|done|rfl,HW.out⟩
    have hm:Hid (M.ovh C xs.length ⟨op,a,b⟩=false):=zh (by unfold M.ovh;simp[h1,h2,h3,h4,h5,h6,h7,h0,h8])
    replace h1:(op == 1)=false:=by simpa using h1
    replace h2:(op == 2)=false:=by simpa using h2
    replace h3:(op == 3)=false:=by simpa using h3
    replace h4:(op == 4)=false:=by simpa using h4
    replace h5:(op == 5)=false:=by simpa using h5
    replace h6:(op == 6)=false:=by simpa using h6
    replace h7:(op == 7)=false:=by simpa using h7
    replace h0:(op == 0)=false:=by simpa using h0
    replace h8:(op == 8)=false:=by simpa using h8
    go_wp2;go_meet
    exact⟨by rw[hm.out];first|done|rfl,HW.out⟩
   case rest =>
    obtain⟨rfl,hqc⟩:=hcut;have HQC:=zh hqc;clear hqc hA d1 d2;obtain⟨r,hr⟩:∃ r,M.ovh C xs.length ⟨op,a,b⟩=r:=⟨_,rfl⟩;rw[hr];have HN:=zh (all_take_succ (M.ovh C xs.length) hx.out);cases r
    ·have HF:Hid (M.prv xs c=false):=zh (by
      have h1:=all_false_at (M.ovh C xs.length) hx.out hr;unfold M.prv;cases h2:M.inn c 1 8;·simp
      ·have h3:=M.inn_iff.1 h2
       have:C=c - 1:=by rw[← hC.out];exact wrap_small (by omega) (by omega)
       unfold M.ov;rw[← this,h1];simp)
     replace hr:=zh hr;go_wp2;go_ret;exact⟨wp_cond_ret HF.out.symm,HQC.out⟩
    ·replace hr:=zh hr;go_wp2;go_roundw
     case rel=>exact⟨k+1,by omega,by go_num,by rw[HN.out,HE.out,hr.out];rfl,HQC.out⟩
     case measure=>simp[intOf];omega
  ·have HA:Hid (xs.all (M.ovh C xs.length)=true):=zh (by rw[← all_take_all (M.ovh C xs.length) xs k (by omega)];exact HE.out)
   have HF:Hid (M.prv xs c=(M.inn xs.length 1 20 && M.inn c 1 8)):=zh (by
    unfold M.prv;cases h2:M.inn c 1 8;·simp
    ·have h3:=M.inn_iff.1 h2
     have:C=c - 1:=by rw[← hC];exact wrap_small (by omega) (by omega)
     unfold M.ov;rw[← this,HA.out];simp)
   clear hC;go_wp2_with (go_at_call 60;refine(spec_In _ _ _ _).mono ?_;rintro e w' ⟨rfl,rfl⟩)
   all_goals go_ret
   all_goals first
    | exact⟨by rw[HF.out,and_t (by assumption)];first|done|rfl,HQ.out⟩
    | exact⟨by rw[HF.out,and_f (Bool.eq_false_iff.2 (by assumption))];first|done|rfl,HQ.out⟩
def M.vals (xs:List Int):Bool:=xs.all (fun n=>M.inn n 0 255)
def M.fits (x:Core) (n:Nat) (c:Int):Bool:=(x.Cells.length:Int) == c && (M.inn x.At 0 (n - 1) && M.vals x.Cells)
noncomputable def M.hv (x:Hold) (k s:Int):Bool:=M.sized k s && (decide ((x.Lst.length:Int)≤s) && M.vals x.Lst)
theorem impl_Core_fits_1 (n:Int) (w:World):Calls Tryz.prog 111 #[.int .i64 n] w fun e w'=>e = .returned (.bool (!M.inn n 0 255))∧w=w':=by
 go_enter Tryz.func111,Tryz.ntmps111;go_wp2_with (go_at_call 112;refine(impl_isValue _ _).mono ?_;rintro e w' ⟨rfl,rfl⟩)
 go_ret;exact⟨rfl,rfl⟩
theorem impl_HoldValid_1 (n:Int) (w:World):Calls Tryz.prog 114 #[.int .i64 n] w fun e w'=>e = .returned (.bool (!M.inn n 0 255))∧w=w':=by
 go_enter Tryz.func114,Tryz.ntmps114;go_wp2_with (go_at_call 112;refine(impl_isValue _ _).mono ?_;rintro e w' ⟨rfl,rfl⟩)
 go_ret;exact⟨rfl,rfl⟩
theorem impl_Core_fits (v vl:Value) (x:Core) (xs:List Order) (c:Int) (w:World) (h:Rv w v x) (hl:Rs w vl xs) :
  Calls Tryz.prog 65 #[v,vl,.int .i64 c] w fun e w'=>e = .returned (.bool (M.fits x xs.length c))∧Ext w w':=by
 obtain⟨a0,c0,rfl,hr,hs,hl0⟩:=h.openCore;obtain⟨al,cl,rfl,hll⟩:=hl.form;clear h hl;have e0:=zh ((Ext.refl w).alloc (.cells #[.slice a0 x.Cells.length c0,.int .i64 x.At,.bool x.Stopped] 41));have hn0:0≤(xs.length:Int):=by omega
 by_cases h1:(x.Cells.length:Int)=c
 ·have h1':((x.Cells.length:Int) == c)=true:=by simpa using h1
  cases h2:M.inn x.At 0 (xs.length - 1)
  ·have hm:=zh (((and_t h1').trans (and_f h2)).symm:_=M.fits x xs.length c);subst h1;go_enter Tryz.func65,Tryz.ntmps65;go_wp2_with (go_at_call 55;refine(impl_in _ _ _ _).mono ?_;rintro e w' ⟨rfl,rfl⟩;rw[h2])
   go_ret;exact⟨wp_cond_ret hm.out,e0.out⟩
  ·have hm:=zh ((not_any_not (fun n=>M.inn n 0 255) x.Cells).trans ((and_t h1').trans (and_t h2)).symm:_=M.fits x xs.length c)
   have HX:=zh (has_int 111 #[] (fun n => !M.inn n 0 255) _ x.Cells _ (hs.out.ext e0.out) (enter_of Tryz.func111 (by kernel_rfl) (by kernel_rfl))
    (fun w1 n _ _ _=>(impl_Core_fits_1 n w1).mono (by rintro e w' ⟨rfl,rfl⟩;exact⟨rfl,Ext.refl _⟩)))
   subst h1;go_enter Tryz.func65,Tryz.ntmps65;go_wp2_with (first|(go_at_call 55;refine(impl_in _ _ _ _).mono ?_;rintro e w' ⟨rfl,rfl⟩;rw[h2])|(go_at_call 110;refine HX.out.mono ?_;rintro e w' ⟨rfl,he⟩))
   go_ret;exact⟨wp_cond_ret hm.out,e0.out.tr he⟩
 ·have h1':((x.Cells.length:Int) == c)=false:=by simpa using h1
  have hm:=zh ((and_f h1').symm:_=M.fits x xs.length c);clear h1;go_enter Tryz.func65,Tryz.ntmps65;go_wp2;go_ret;exact⟨wp_cond_ret hm.out,e0.out⟩
theorem spec_CoreValid (v vl:Value) (x:Core) (xs:List Order) (c:Int) (w:World) (h:Rv w v x) (hl:Rs w vl xs) :
  Calls Tryz.prog 102 #[v,vl,.int .i64 c] w fun e w'=>e = .returned (.bool (M.prv xs c && M.fits x xs.length c))∧Ext w w':=by
 have HL:=zh hl;obtain⟨a0,c0,rfl,hr,hs,hl0⟩:=h.openCore;obtain⟨al,cl,rfl,hll⟩:=hl.form;clear h hl;have hn0:0≤(xs.length:Int):=by omega
 go_enter Tryz.func102,Tryz.ntmps102;go_upto_region 1 with (fail)
 refine abs_world (fun W=>Ext w W∧Bk W w.heap.size [.slice a0 x.Cells.length c0,.int .i64 x.At,.bool x.Stopped] 41) ⟨(Ext.refl _).alloc _,Bk.new _ _ _⟩ ?_
 rintro W ⟨e1,kA⟩;have HE0:=zh e1;obtain⟨d0,d1⟩:=Bk.k2 kA;have hA:=kA.lt;replace HL:=zh (HL.out.ext e1);replace hs:=zh (hs.out.ext e1);clear e1 kA;go_wp2;go_loopw [7] (fun i wr => ∃ k:Nat,k≤x.Cells.length∧i = .int .i64 k∧(x.Cells.take k).all (fun n=>M.inn n 0 255)=true∧wr=W) (fun i _=>x.Cells.length - (intOf i).toNat)
 case atStart=>exact⟨0,Nat.zero_le _,rfl,rfl,rfl⟩
 case round =>
  obtain⟨k,hk,rfl,he,rfl⟩:=hrel;have HE:=zh he;clear he;by_cases hlt:k < x.Cells.length
  ·obtain⟨b,o,n,rfl,hb,hx,hc,hrn⟩:=hs.out.atInt k hlt;have HN:=zh (all_take_succ (fun n=>M.inn n 0 255) hx.out)
   cases h2:M.inn n 0 255
   ·have HF:Hid ((M.prv xs c && M.fits x xs.length c)=false):=zh (by unfold M.fits M.vals;rw[all_false_at (fun n=>M.inn n 0 255) hx.out h2];simp)
    go_wp2_with (go_at_call 60;refine(spec_In _ _ _ _).mono ?_;rintro e w' ⟨rfl,rfl⟩;rw[h2])
    go_ret;exact⟨wp_cond_ret HF.out.symm,HE0.out⟩
   ·have H2:=zh h2;clear h2;go_wp2_with (go_at_call 60;refine(spec_In _ _ _ _).mono ?_;rintro e w' ⟨rfl,rfl⟩;rw[H2.out])
    go_roundw
    case rel=>exact⟨k+1,by omega,by go_num,by rw[HN.out,HE.out,H2.out];rfl,by trivial⟩
    case measure=>simp[intOf];omega
  ·have HA:Hid (M.vals x.Cells=true):=zh (by unfold M.vals;rw[← all_take_all (fun n=>M.inn n 0 255) x.Cells k (by omega)];exact HE.out)
   have HF:Hid (M.fits x xs.length c=((x.Cells.length:Int) == c && M.inn x.At 0 (xs.length - 1))):=zh (by unfold M.fits;rw[HA.out,Bool.and_true])
   cases h1:M.prv xs c
   ·have HP:=zh h1;clear h1;go_wp2_with (go_at_call 152;refine(spec_ProgramValid _ xs c _ HL.out).mono ?_;rintro e w1 ⟨rfl,he⟩;rw[HP.out];have HE1:=zh he;clear he)
    go_ret;exact⟨by rw[HP.out];rfl,HE0.out.tr HE1.out⟩
   ·have HP:=zh h1;clear h1;have hA2:=hA;by_cases h3:(x.Cells.length:Int)=c
    ·have h3':=zh (by simpa using h3:((x.Cells.length:Int) == c)=true)
     subst h3
     go_wp2_with (first
      | (go_at_call 152;refine(spec_ProgramValid _ xs _ _ HL.out).mono ?_;rintro e w1 ⟨rfl,he⟩;rw[HP.out];have f0:=(cell_ext he hA2).trans d0;have f1:=(cell_ext he hA2).trans d1;have HE1:=zh he;clear he)
      | (go_at_call 60;refine(spec_In _ _ _ _).mono ?_;rintro e w' ⟨rfl,rfl⟩))
     go_ret;exact⟨by rw[HP.out,HF.out,h3'.out];simp,HE0.out.tr HE1.out⟩
    ·have h3':((x.Cells.length:Int) == c)=false:=by simpa using h3
     have HF2:=zh (HF.out.trans (and_f h3'));clear h3
     go_wp2_with (first
      | (go_at_call 152;refine(spec_ProgramValid _ xs _ _ HL.out).mono ?_;rintro e w1 ⟨rfl,he⟩;rw[HP.out];have f0:=(cell_ext he hA2).trans d0;have f1:=(cell_ext he hA2).trans d1;have HE1:=zh he;clear he))
     go_ret;exact⟨by rw[HP.out,HF2.out];first|done|rfl,HE0.out.tr HE1.out⟩
theorem impl_HoldValid (v:Value) (x:Hold) (k s:Int) (w:World) (h:Rv w v x) :
  Calls Tryz.prog 66 #[v,.int .i64 k,.int .i64 s] w fun e w'=>e = .returned (.bool (M.hv x k s))∧Ext w w':=by
 obtain⟨a0,c0,rfl,hs,hl0⟩:=h.openHold;clear h;have e0:=zh ((Ext.refl w).alloc (.cells #[.slice a0 x.Lst.length c0] 45));cases h1:M.sized k s
 ·have hm:=zh ((and_f h1).symm:_=M.hv x k s);go_enter Tryz.func66,Tryz.ntmps66;go_wp2_with (go_at_call 113;refine(impl_sized _ _ _).mono ?_;rintro e w' ⟨rfl,rfl⟩;rw[h1])
  go_ret;exact⟨wp_cond_ret hm.out,e0.out⟩
 ·by_cases h2:(x.Lst.length:Int)≤s
  ·have hm:=zh ((not_any_not (fun n=>M.inn n 0 255) x.Lst).trans ((and_t h1).trans (and_t (decide_eq_true h2))).symm:_=M.hv x k s)
   have HX:=zh (has_int 114 #[] (fun n => !M.inn n 0 255) _ x.Lst _ (hs.out.ext e0.out) (enter_of Tryz.func114 (by kernel_rfl) (by kernel_rfl))
    (fun w1 n _ _ _=>(impl_HoldValid_1 n w1).mono (by rintro e w' ⟨rfl,rfl⟩;exact⟨rfl,Ext.refl _⟩)))
   have h2':decide ((x.Lst.length:Int)≤s)=true:=decide_eq_true h2;go_enter Tryz.func66,Tryz.ntmps66;go_wp2_with (first|(go_at_call 113;refine(impl_sized _ _ _).mono ?_;rintro e w' ⟨rfl,rfl⟩;rw[h1])|(go_at_call 110;refine HX.out.mono ?_;rintro e w' ⟨rfl,he⟩))
   go_ret;exact⟨wp_cond_ret hm.out,e0.out.tr he⟩
  ·have hm:=zh (((and_t h1).trans (and_f (decide_eq_false h2))).symm:_=M.hv x k s);have h2':decide ((x.Lst.length:Int)≤s)=false:=decide_eq_false h2;go_enter Tryz.func66,Tryz.ntmps66;go_wp2_with (go_at_call 113;refine(impl_sized _ _ _).mono ?_;rintro e w' ⟨rfl,rfl⟩;rw[h1])
   go_ret;exact⟨wp_cond_ret hm.out,e0.out⟩
theorem M.sized_s (k s:Int):M.sized k s=(M.inn k 1 3 && (M.inn s 1 4 && (!(k == 1) || (s == 1)))):=by
 rw[Bool.eq_iff_iff,M.sized_iff];simp only[Bool.and_eq_true,Bool.or_eq_true,M.inn_iff,Bool.not_eq_true',beq_eq_false_iff_ne,beq_iff_eq];omega
theorem spec_HoldValid (v:Value) (x:Hold) (q s:Int) (w:World) (h:Rv w v x) :
  Calls Tryz.prog 103 #[v,.int .i64 q,.int .i64 s] w fun e w'=>e = .returned (.bool (M.hv x q s))∧Ext w w':=by
 obtain⟨a0,c0,rfl,hs,hl0⟩:=h.openHold;clear h;go_enter Tryz.func103,Tryz.ntmps103;go_upto_region 1 with (fail)
 refine abs_world (fun W=>Ext w W∧Bk W w.heap.size [.slice a0 x.Lst.length c0] 45) ⟨(Ext.refl _).alloc _,Bk.new _ _ _⟩ ?_
 rintro W ⟨e1,kA⟩;have HE0:=zh e1;have d0:=kA.cell (j:=0) rfl;have hA:=kA.lt;replace hs:=zh (hs.out.ext e1);clear e1 kA;go_wp2;go_loopw [7] (fun i wr => ∃ k:Nat,k≤x.Lst.length∧i = .int .i64 k∧(x.Lst.take k).all (fun n=>M.inn n 0 255)=true∧wr=W) (fun i _=>x.Lst.length - (intOf i).toNat)
 case atStart=>exact⟨0,Nat.zero_le _,rfl,rfl,rfl⟩
 case round =>
  obtain⟨k,hk,rfl,he,rfl⟩:=hrel;have HE:=zh he;clear he;by_cases hlt:k < x.Lst.length
  ·obtain⟨b,o,n,rfl,hb,hx,hc,hrn⟩:=hs.out.atInt k hlt;have HN:=zh (all_take_succ (fun n=>M.inn n 0 255) hx.out)
   cases h2:M.inn n 0 255
   ·have HF:Hid (M.hv x q s=false):=zh (by unfold M.hv M.vals;rw[all_false_at (fun n=>M.inn n 0 255) hx.out h2];simp)
    go_wp2_with (go_at_call 60;refine(spec_In _ _ _ _).mono ?_;rintro e w' ⟨rfl,rfl⟩;rw[h2])
    go_ret;exact⟨wp_cond_ret HF.out.symm,HE0.out⟩
   ·have H2:=zh h2;clear h2;go_wp2_with (go_at_call 60;refine(spec_In _ _ _ _).mono ?_;rintro e w' ⟨rfl,rfl⟩;rw[H2.out])
    go_roundw
    case rel=>exact⟨k+1,by omega,by go_num,by rw[HN.out,HE.out,H2.out];rfl,by trivial⟩
    case measure=>simp[intOf];omega
  ·have HA:Hid (M.vals x.Lst=true):=zh (by unfold M.vals;rw[← all_take_all (fun n=>M.inn n 0 255) x.Lst k (by omega)];exact HE.out)
   have HF:Hid (M.hv x q s=(M.inn q 1 3 && (M.inn s 1 4 && ((!(q == 1) || (s == 1)) && decide ((x.Lst.length:Int)≤s))))):=zh (by unfold M.hv;rw[HA.out,Bool.and_true,M.sized_s];simp only[Bool.and_assoc])
   cases h1:M.inn q 1 3
   ·have HG:=zh (HF.out.trans (and_f h1));go_wp2_with (go_at_call 60;refine(spec_In _ _ _ _).mono ?_;rintro e w' ⟨rfl,rfl⟩;rw[h1])
    go_ret;exact⟨by rw[HG.out];first|done|rfl,HE0.out⟩
   cases h2:M.inn s 1 4
   ·have HG:=zh (HF.out.trans ((and_t h1).trans (and_f h2)));go_wp2_with (go_at_call 60;refine(spec_In _ _ _ _).mono ?_;rintro e w' ⟨rfl,rfl⟩;first|rw[h1]|rw[h2])
    go_ret;exact⟨by rw[HG.out];first|done|rfl,HE0.out⟩
   have HG:=zh (HF.out.trans ((and_t h1).trans (and_t h2)));clear HF;by_cases h3:q=1
   ·subst h3;by_cases h4:s=1
    ·subst h4;go_wp2_with (go_at_call 60;refine(spec_In _ _ _ _).mono ?_;rintro e w' ⟨rfl,rfl⟩;first|rw[h1]|rw[h2])
     go_ret;exact⟨by rw[HG.out];first|done|rfl,HE0.out⟩
    ·have h4':(s == 1)=false:=by simpa using h4
     have HK:=zh (HG.out.trans (and_f (by rw[h4'];rfl)))
     clear h4;go_wp2_with (go_at_call 60;refine(spec_In _ _ _ _).mono ?_;rintro e w' ⟨rfl,rfl⟩;first|rw[h1]|rw[h2])
     go_ret;exact⟨by rw[HK.out];first|done|rfl,HE0.out⟩
   ·have h3':(q == 1)=false:=by simpa using h3
    have HK:=zh (HG.out.trans (and_t (by rw[h3'];rfl)))
    have h3n:(q != 1)=true:=by simpa using h3
    go_wp2_with (go_at_call 60;refine(spec_In _ _ _ _).mono ?_;rintro e w' ⟨rfl,rfl⟩;first|rw[h1]|rw[h2])
    go_ret;exact⟨by rw[HK.out];first|done|rfl,HE0.out⟩
end Sk
