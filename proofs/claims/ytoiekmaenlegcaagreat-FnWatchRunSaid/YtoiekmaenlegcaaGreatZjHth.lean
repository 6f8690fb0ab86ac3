/- Contracts of functions of the given program. -/
import Derived.Test.YtoiekmaenlegcaaGreatMachV
namespace Sk
open Go Go.Proofs Go.RowKit
set_option maxHeartbeats 1600000
set_option maxRecDepth 100000
set_option linter.unusedVariables false
set_option linter.unusedSimpArgs false
def zEr(h:Health):Bool:=zA6 h.Restarts 0 3 && (h.Frozen || decide (h.Restarts < 3))
def zD8(t:List Int):Bool:=decide (t.length=3) && t.all (fun x=>zA6 x 0 2)
def zC0(h:Health)(t:List Int)(f:Int):Health × Int :=
 if f=0\/h.Frozen=true then (h,0)
 else if t.getD (f - 1).toNat 0=1 then (if h.Restarts+1=3 then (⟨true,h.Restarts+1⟩,2) else (⟨false,h.Restarts+1⟩,1))
 else if t.getD (f - 1).toNat 0=2 then (⟨true,h.Restarts⟩,2) else (⟨false,h.Restarts⟩,0)
def zBm(h:Health)(t:List Int)(f:Int):Health × Int:=if zEr h && (zD8 t && zA6 f 0 3) then zC0 h t f else (⟨false,0⟩,-1)
theorem zDr{h:Health}:zEr h=true ↔ (0<=h.Restarts/\h.Restarts<=3)/\(h.Frozen=true\/h.Restarts < 3):=by
 unfold zEr;simp only[Bool.and_eq_true,zA5,Bool.or_eq_true,decide_eq_true_eq]
theorem zIm{t:List Int}:zD8 t=true ↔ t.length=3/\∀ x∈t,0<=x/\x<=2:=by
 unfold zD8;simp only[Bool.and_eq_true,zA5,List.all_eq_true,decide_eq_true_eq]
theorem zM8{h:Health}{t:List Int}{f:Int}(hv:zEr h=true):zEr (zC0 h t f).1=true:=by
 have h1:=zDr.1 hv;unfold zC0
 split
 ·exact hv
 ·rename_i hn
  have hf:¬ h.Frozen=true:=fun h=>hn (.inr h)
  have h2:h.Restarts < 3:=h1.2.resolve_left hf
  split
  ·split
   ·exact zDr.2 ⟨⟨by show 0<=h.Restarts+1;omega,by show h.Restarts+1<=3;omega⟩,.inl rfl⟩
   ·exact zDr.2 ⟨⟨by show 0<=h.Restarts+1;omega,by show h.Restarts+1<=3;omega⟩,.inr (by show h.Restarts+1 < 3;omega)⟩
  ·split
   ·exact zDr.2 ⟨h1.1,.inl rfl⟩
   ·exact zDr.2 ⟨h1.1,.inr h2⟩
theorem zIu{h:Health}{t:List Int}{f:Int}:(zC0 h t f).2=0\/(zC0 h t f).2=1\/(zC0 h t f).2=2:=by
 unfold zC0
 split
 ·exact .inl rfl
 ·split
  ·split
   ·exact .inr (.inr rfl)
   ·exact .inr (.inl rfl)
  ·split
   ·exact .inr (.inr rfl)
   ·exact .inl rfl
theorem zI4(v:Value)(h:Health)(w:World)(hh:Rv w v h) :
  Calls Tryz.prog 44 #[v] w fun e w'=>e = .returned (.bool (zEr h))/\Ext w w':=by
 obtain⟨rfl,hr⟩:=hh.openHealth;clear hh;obtain⟨fz,r⟩:=h;simp only at hr ⊢;cases g:zA6 r 0 3
 ·have hm:Hid (zEr ⟨fz,r⟩=false):=zh (by unfold zEr;rw[g];rfl)
  go_enter Tryz.func44,Tryz.ntmps44;go_wp2_with (go_at_call 30;refine(zAe _ _ _ _).mono ?_;rintro e w' ⟨rfl,rfl⟩;rw[g])
  go_ret;exact⟨zA2 hm.out.symm,(zr w).alloc _⟩
 ·cases fz
  ·by_cases h3:r < 3
   ·have hm:Hid (zEr ⟨false,r⟩=true):=zh (by unfold zEr;rw[g];simpa using h3)
    go_enter Tryz.func44,Tryz.ntmps44;go_wp2_with (go_at_call 30;refine(zAe _ _ _ _).mono ?_;rintro e w' ⟨rfl,rfl⟩;rw[g])
    go_ret;exact⟨zA2 hm.out.symm,(zr w).alloc _⟩
   ·have hm:Hid (zEr ⟨false,r⟩=false):=zh (by unfold zEr;rw[g];simpa using h3)
    go_enter Tryz.func44,Tryz.ntmps44;go_wp2_with (go_at_call 30;refine(zAe _ _ _ _).mono ?_;rintro e w' ⟨rfl,rfl⟩;rw[g])
    go_ret;exact⟨zA2 (by rw[hm.out];first|rfl|exact decide_eq_false (by omega)),(zr w).alloc _⟩
  ·have hm:Hid (zEr ⟨true,r⟩=true):=zh (by unfold zEr;rw[g];rfl)
   go_enter Tryz.func44,Tryz.ntmps44;go_wp2_with (go_at_call 30;refine(zAe _ _ _ _).mono ?_;rintro e w' ⟨rfl,rfl⟩;rw[g])
   all_goals go_ret
   all_goals exact⟨zA2 hm.out.symm,(zr w).alloc _⟩
theorem zB6(v:Value)(h:Health)(w:World)(hh:Rv w v h) :
  Calls Tryz.prog 66 #[v] w fun e w'=>e = .returned (.bool (zEr h))/\Ext w w':=by
 obtain⟨rfl,hr⟩:=hh.openHealth;clear hh;obtain⟨fz,r⟩:=h;simp only at hr ⊢;cases g:zA6 r 0 3
 ·have hm:Hid (zEr ⟨fz,r⟩=false):=zh (by unfold zEr;rw[g];rfl)
  go_enter Tryz.func66,Tryz.ntmps66;go_wp2_with (go_at_call 35;refine(zA8 _ _ _ _).mono ?_;rintro e w' ⟨rfl,rfl⟩;rw[g])
  go_ret;exact⟨zA2 hm.out.symm,(zr w).alloc _⟩
 ·cases fz
  ·by_cases h3:r < 3
   ·have hm:Hid (zEr ⟨false,r⟩=true):=zh (by unfold zEr;rw[g];simpa using h3)
    go_enter Tryz.func66,Tryz.ntmps66;go_wp2_with (go_at_call 35;refine(zA8 _ _ _ _).mono ?_;rintro e w' ⟨rfl,rfl⟩;rw[g])
    go_ret;exact⟨zA2 hm.out.symm,(zr w).alloc _⟩
   ·have hm:Hid (zEr ⟨false,r⟩=false):=zh (by unfold zEr;rw[g];simpa using h3)
    go_enter Tryz.func66,Tryz.ntmps66;go_wp2_with (go_at_call 35;refine(zA8 _ _ _ _).mono ?_;rintro e w' ⟨rfl,rfl⟩;rw[g])
    go_ret;exact⟨zA2 (by rw[hm.out];first|rfl|exact decide_eq_false (by omega)),(zr w).alloc _⟩
  ·have hm:Hid (zEr ⟨true,r⟩=true):=zh (by unfold zEr;rw[g];rfl)
   go_enter Tryz.func66,Tryz.ntmps66;go_wp2_with (go_at_call 35;refine(zA8 _ _ _ _).mono ?_;rintro e w' ⟨rfl,rfl⟩;rw[g])
   all_goals go_ret
   all_goals exact⟨zA2 hm.out.symm,(zr w).alloc _⟩
theorem zGl(x:Int)(w:World) :
  Calls Tryz.prog 63 #[.int .i64 x] w fun e w'=>e = .returned (.bool (!zA6 x 0 2))/\Ext w w':=by
 go_enter Tryz.func63,Tryz.ntmps63;go_wp2_with (go_at_call 30;refine(zAe _ _ _ _).mono ?_;rintro e w' ⟨rfl,rfl⟩)
 go_ret;exact⟨rfl,zr _⟩
theorem zB0(v:Value)(xs:List Int)(w:World)(h:Rs w v xs) :
  Calls Tryz.prog 29 #[v] w fun e w'=>e = .returned (.bool (zD8 xs))/\Ext w w':=by
 have HX:=zh (zLz 63 #[] (fun x => !zA6 x 0 2) v xs w h (zD3 Tryz.func63 (by kernel_rfl) (by kernel_rfl)) (fun w1 x _ _ _=>zGl x w1))
 obtain⟨a,c,rfl,hl⟩:=h.form;clear h;by_cases hle:xs.length=3
 ·have hm:=zh ((zBv (fun x=>zA6 x 0 2) xs).trans (zAy (decide_eq_true hle)).symm:_=zD8 xs)
  have hb:((xs.length:Int) == 3)=true:=by simpa using (by omega:(xs.length:Int)=3)
  clear hle;go_enter Tryz.func29,Tryz.ntmps29;go_wp2_with (go_at_call 62;refine HX.out.mono ?_;rintro e w' ⟨rfl,he⟩)
  go_ret;exact⟨zA2 hm.out,he⟩
 ·have hm:=zh (zBb (decide_eq_false hle):zD8 xs=_);have hb:((xs.length:Int) == 3)=false:=by simpa using (by omega:¬ (xs.length:Int)=3)
  clear hle;go_enter Tryz.func29,Tryz.ntmps29;go_wp2;go_ret;exact⟨zA2 hm.out.symm,.refl _⟩
theorem zAf(v:Value)(xs:List Int)(w:World)(h:Rs w v xs) :
  Calls Tryz.prog 51 #[v] w fun e w'=>e = .returned (.bool (zD8 xs))/\Ext w w':=by
 have H:=zh h;obtain⟨a,c,rfl,hl⟩:=h.form;clear h;go_enter Tryz.func51,Tryz.ntmps51;go_wp2;go_loopw [3] (fun i wr => ∃ k:Nat,k<=xs.length/\i = .int .i64 k/\Ext w wr/\∀ (j:Nat) (x:Int),j < k->xs[j]? = some x->zA6 x 0 2=true) (fun i _=>xs.length - (intOf i).toNat)
 case atStart=>exact⟨0,Nat.zero_le _,rfl,zr _,fun j x hj _=>by omega⟩
 case round =>
  obtain⟨k,hk,rfl,er,hall⟩:=hrel;have ER:=zh er;have HA:=zh hall;clear er hall;by_cases hkt:k < xs.length
  ·obtain⟨b,o,x,rfl,hlt,hx,hc,hrx⟩:=(H.out.ext ER.out).atInt k hkt;cases g:zA6 x 0 2
   ·have hm:Hid (zD8 xs=false):=zh (by
     cases e:zD8 xs
     ·rfl
     ·have:=(zIm.1 e).2 x (List.mem_of_getElem? hx.out)
      rw[zA5.2 this] at g;cases g)
    go_wp2_with (go_at_call 35;refine(zA8 _ _ _ _).mono ?_;rintro e w' ⟨rfl,rfl⟩;rw[g])
    go_ret;exact⟨zA2 hm.out.symm,ER.out⟩
   ·go_wp2_with (go_at_call 35;refine(zA8 _ _ _ _).mono ?_;rintro e w' ⟨rfl,rfl⟩;rw[g])
    go_roundw
    case rel=>exact⟨k+1,by omega,by go_num,ER.out,fun j y hj hy=>by
     by_cases e:j=k
     ·subst e;rw[hx.out] at hy;obtain rfl:=Option.some.inj hy;exact g
     ·exact HA.out j y (by omega) hy⟩
    case measure=>simp[intOf];omega
  ·obtain rfl:k=xs.length:=by omega
   have hA:∀ x∈xs,0<=x/\x<=2:=fun x hx=>by
    obtain⟨j,hj,rfl⟩:=List.getElem_of_mem hx;exact zA5.1 (HA.out j _ hj (List.getElem?_eq_getElem hj))
   have hm:Hid (zD8 xs=decide (xs.length=3)):=zh (by
    by_cases e:xs.length=3
    ·rw[decide_eq_true e];exact zIm.2 ⟨e,hA⟩
    ·rw[decide_eq_false e];unfold zD8;rw[decide_eq_false e];rfl)
   clear hA;by_cases e:xs.length=3
   ·have hb:((xs.length:Int) == 3)=true:=by simpa using (by omega:(xs.length:Int)=3)
    have hm2:Hid (zD8 xs=true):=zh (hm.out.trans (decide_eq_true e));clear e hk hkt;go_wp2;go_ret;exact⟨zA2 hm2.out.symm,ER.out⟩
   ·have hb:((xs.length:Int) == 3)=false:=by simpa using (by omega:¬ (xs.length:Int)=3)
    have hm2:Hid (zD8 xs=false):=zh (hm.out.trans (decide_eq_false e));clear e hk hkt;go_wp2;go_ret;exact⟨zA2 hm2.out.symm,ER.out⟩
theorem zG5{p q:Health × Int}(h:p=q):Ending.returned (.tuple #[.agg #[.bool p.1.Frozen,.int .i64 p.1.Restarts],.int .i64 p.2]) = .returned (.tuple #[.agg #[.bool q.1.Frozen,.int .i64 q.1.Restarts],.int .i64 q.2]):=by rw[h]
theorem zKk{h:Health}{t:List Int}{f:Int}(hf:f=0\/h.Frozen=true):zC0 h t f=(h,0):=if_pos hf
theorem zNf{fz:Bool}{r:Int}{t:List Int}{f a:Int}(h0:¬ f=0)(h1:fz=false)(ht:t.getD (f - 1).toNat 0=a):zC0 ⟨fz,r⟩ t f=if a=1 then (if r+1=3 then (⟨true,r+1⟩,2) else (⟨false,r+1⟩,1)) else if a=2 then (⟨true,r⟩,2) else (⟨false,r⟩,0):=by
 unfold zC0;rw[if_neg (by rw[h1];rintro(h|h);exact h0 h;cases h),ht]
theorem zN5(v vt:Value)(h:Health)(t:List Int)(f:Int)(w:World)(hh:Rv w v h)(ht:Rs w vt t)(hv:zEr h=true)(hvt:zD8 t=true)(hf:0<=f/\f<=3) :
  Calls Tryz.prog 65 #[v,vt,.int .i64 f] w fun e w'=>e = .returned (.tuple #[.agg #[.bool (zC0 h t f).1.Frozen,.int .i64 (zC0 h t f).1.Restarts],.int .i64 (zC0 h t f).2])/\Ext w w':=by
 obtain⟨rfl,hr⟩:=hh.openHealth;have H:=zh ht;obtain⟨a,c,rfl,hl⟩:=ht.form;have h1:=zDr.1 hv;have h2:=zIm.1 hvt;clear hh ht hv hvt;obtain⟨fz,r⟩:=h;simp only at hr h1 ⊢;obtain⟨⟨hr0,hr3⟩,hfr⟩:=h1;obtain⟨h3,hta⟩:=h2;have H3:=zh h3;have HTA:=zh hta;clear h3 hta;go_enter Tryz.func65,Tryz.ntmps65;go_upto_region 1 with (fail)
 refine zA1 (fun W=>Ext w W/\Bk W w.heap.size [.bool fz,.int .i64 r] 44/\Bk W (w.heap.size+1) [.bool false,.int .i64 0] 44) ⟨((zr _).alloc _).alloc _,(Bk.new _ _ _).ext ((zr _).alloc _),Bk.new1 _ _ _ _⟩ ?_
 rintro W ⟨e1,kA,kB⟩;have E:=zh e1;obtain⟨x0,x1⟩:=Bk.k2 kA;have xf:=kA.fz;have ltA:=kA.lt;obtain⟨z0,z1⟩:=Bk.k2 kB;have zf:=kB.fz;have ltB:=kB.lt;clear e1 kA kB;by_cases hf0:f=0
 ·subst hf0;have hm:Hid (zC0 ⟨fz,r⟩ t 0=(⟨fz,r⟩,0)):=zh (zKk (.inl rfl));go_wp2;refine bodyPost_ret (v:=.tuple #[.agg #[.bool fz,.int .i64 (r)],.int .i64 0]) (by simp[results,Tryz.results65,go_sem,x0,x1,z0,z1]) rfl ⟨zG5 hm.out.symm,((E.out).set (by simp) _).set (by simp) _⟩
 have hfb:(f == 0)=false:=by simpa using hf0
 cases fz
 case true =>
  have hm:Hid (zC0 ⟨true,r⟩ t f=(⟨true,r⟩,0)):=zh (zKk (.inr rfl));go_wp2;refine bodyPost_ret (v:=.tuple #[.agg #[.bool true,.int .i64 (r)],.int .i64 0]) (by simp[results,Tryz.results65,go_sem,x0,x1,z0,z1]) rfl ⟨zG5 hm.out.symm,((E.out).set (by simp) _).set (by simp) _⟩
 have hr2:r < 3:=by rcases hfr with h|h;cases h;exact h
 obtain⟨k,hk⟩:∃ k:Nat,f - 1=k:=⟨(f - 1).toNat,by omega⟩
 have hwf:IntKind.i64.wrap (f - 1)=(k:Int):=(zAx (by omega) (by omega)).trans hk
 have hkl:k < t.length:=by have:=H3.out;omega
 obtain⟨b,o,x,rfl,hlt,hx,hc,hrx⟩:=(H.out.ext E.out).atInt k hkl;have hxv:=HTA.out x (List.mem_of_getElem? hx.out);have hm0:=zh (zNf (fz:=false) (r:=r) hf0 rfl (show t.getD (f - 1).toNat 0=x by rw[hk,Int.toNat_natCast,List.getD_eq_getElem?_getD,hx.out];rfl))
 clear hfr hf0 hk;obtain⟨hx0,hx2⟩:=hxv
 have:x=0\/x=1\/x=2:=by omega
 rcases this with rfl|rfl|rfl
 ·have hm:Hid (zC0 ⟨false,r⟩ t f=(⟨false,r⟩,0)):=zh (by rw[hm0.out];rfl)
  go_wp2;refine bodyPost_ret (v:=.tuple #[.agg #[.bool false,.int .i64 (r)],.int .i64 0]) (by simp[results,Tryz.results65,go_sem,x0,x1,z0,z1]) rfl ⟨zG5 hm.out.symm,(((E.out).set (by simp) _).set (by simp) _).set (by simp) _⟩
 ·by_cases hr1:r+1=3
  ·have hm:Hid (zC0 ⟨false,r⟩ t f=(⟨true,r+1⟩,2)):=zh (by rw[hm0.out,if_pos rfl,if_pos hr1])
   have hrb:(r+1 == 3)=true:=by simpa using hr1
   have hwr:IntKind.i64.wrap (r+1)=r+1:=zAx (by omega) (by omega)
   clear hr1;go_wp2;refine bodyPost_ret (v:=.tuple #[.agg #[.bool true,.int .i64 (r+1)],.int .i64 2]) (by simp[results,Tryz.results65,go_sem,x0,x1,z0,z1]) rfl ⟨zG5 hm.out.symm,((((E.out).set (by simp) _).set (by simp) _).set (by simp) _).set (by simp) _⟩
  ·have hm:Hid (zC0 ⟨false,r⟩ t f=(⟨false,r+1⟩,1)):=zh (by rw[hm0.out,if_pos rfl,if_neg hr1])
   have hrb:(r+1 == 3)=false:=by simpa using hr1
   have hwr:IntKind.i64.wrap (r+1)=r+1:=zAx (by omega) (by omega)
   clear hr1;go_wp2;refine bodyPost_ret (v:=.tuple #[.agg #[.bool false,.int .i64 (r+1)],.int .i64 1]) (by simp[results,Tryz.results65,go_sem,x0,x1,z0,z1]) rfl ⟨zG5 hm.out.symm,((((E.out).set (by simp) _).set (by simp) _).set (by simp) _).set (by simp) _⟩
 ·have hm:Hid (zC0 ⟨false,r⟩ t f=(⟨true,r⟩,2)):=zh (by rw[hm0.out];rfl)
  go_wp2;refine bodyPost_ret (v:=.tuple #[.agg #[.bool true,.int .i64 (r)],.int .i64 2]) (by simp[results,Tryz.results65,go_sem,x0,x1,z0,z1]) rfl ⟨zG5 hm.out.symm,(((E.out).set (by simp) _).set (by simp) _).set (by simp) _⟩
theorem zF5(v vt:Value)(h:Health)(t:List Int)(f:Int)(w:World)(hh:Rv w v h)(ht:Rs w vt t) :
  Calls Tryz.prog 36 #[v,vt,.int .i64 f] w fun e w'=>e = .returned (.tuple #[.agg #[.bool (zBm h t f).1.Frozen,.int .i64 (zBm h t f).1.Restarts],.int .i64 (zBm h t f).2])/\Ext w w':=by
 obtain⟨rfl,hr⟩:=hh.openHealth;have H:=zh ht;have HV0:=zh hh;obtain⟨a,c,rfl,hl⟩:=ht.form;clear hh ht;obtain⟨fz,r⟩:=h;simp only at hr HV0 ⊢;go_enter Tryz.func36,Tryz.ntmps36;go_upto_region 1 with (fail)
 refine zA1 (fun W=>Ext w W/\Bk W w.heap.size [.bool fz,.int .i64 r] 44/\Bk W (w.heap.size+1) [.bool false,.int .i64 0] 44) ⟨((zr _).alloc _).alloc _,(Bk.new _ _ _).ext ((zr _).alloc _),Bk.new1 _ _ _ _⟩ ?_
 rintro W ⟨e1,kA,kB⟩;have E:=zh e1;have KA:=zh kA;have KB:=zh kB;obtain⟨x0,x1⟩:=Bk.k2 kA;clear e1 kA kB;cases g0:zEr ⟨fz,r⟩
 ·have hm:Hid (zBm ⟨fz,r⟩ t f=(⟨false,0⟩,-1)):=zh (by unfold zBm;rw[g0];rfl)
  go_wp2_with (first
     | (go_at_call 66;refine(zB6 _ ⟨_,r⟩ _ (HV0.out.ext E.out)).mono ?_;rintro e w1 ⟨rfl,he⟩;rw[g0];have EA:=zh (E.out.tr he);replace KA:=zh (KA.out.ext he);replace KB:=zh (KB.out.ext he);obtain⟨x0,x1⟩:=Bk.k2 KA.out;have xf:=KA.out.fz;have ltA:=KA.out.lt;obtain⟨z0,z1⟩:=Bk.k2 KB.out;have zf:=KB.out.fz;have ltB:=KB.out.lt;clear he)
     | (go_at_call 51;refine(zAf _ t _ (H.out.ext EA.out)).mono ?_;rintro e w2 ⟨rfl,he⟩;rw[g1];replace EA:=zh (EA.out.tr he);replace KA:=zh (KA.out.ext he);replace KB:=zh (KB.out.ext he);obtain⟨x0,x1⟩:=Bk.k2 KA.out;have xf:=KA.out.fz;have ltA:=KA.out.lt;obtain⟨z0,z1⟩:=Bk.k2 KB.out;have zf:=KB.out.fz;have ltB:=KB.out.lt;clear he)
     | (go_at_call 35;refine(zA8 _ _ _ _).mono ?_;rintro e w9 ⟨rfl,rfl⟩;rw[g2]))
  refine bodyPost_ret (v:=.tuple #[.agg #[.bool false,.int .i64 (0)],.int .i64 (-1)]) (by simp[results,Tryz.results36,go_sem,x0,x1,z0,z1]) rfl ⟨zG5 hm.out.symm,((EA.out).set (by simp) _).set (by simp) _⟩
 cases g1:zD8 t
 ·have hm:Hid (zBm ⟨fz,r⟩ t f=(⟨false,0⟩,-1)):=zh (by unfold zBm;rw[g0,g1];rfl)
  go_wp2_with (first
     | (go_at_call 66;refine(zB6 _ ⟨_,r⟩ _ (HV0.out.ext E.out)).mono ?_;rintro e w1 ⟨rfl,he⟩;rw[g0];have EA:=zh (E.out.tr he);replace KA:=zh (KA.out.ext he);replace KB:=zh (KB.out.ext he);obtain⟨x0,x1⟩:=Bk.k2 KA.out;have xf:=KA.out.fz;have ltA:=KA.out.lt;obtain⟨z0,z1⟩:=Bk.k2 KB.out;have zf:=KB.out.fz;have ltB:=KB.out.lt;clear he)
     | (go_at_call 51;refine(zAf _ t _ (H.out.ext EA.out)).mono ?_;rintro e w2 ⟨rfl,he⟩;rw[g1];replace EA:=zh (EA.out.tr he);replace KA:=zh (KA.out.ext he);replace KB:=zh (KB.out.ext he);obtain⟨x0,x1⟩:=Bk.k2 KA.out;have xf:=KA.out.fz;have ltA:=KA.out.lt;obtain⟨z0,z1⟩:=Bk.k2 KB.out;have zf:=KB.out.fz;have ltB:=KB.out.lt;clear he)
     | (go_at_call 35;refine(zA8 _ _ _ _).mono ?_;rintro e w9 ⟨rfl,rfl⟩;rw[g2]))
  refine bodyPost_ret (v:=.tuple #[.agg #[.bool false,.int .i64 (0)],.int .i64 (-1)]) (by simp[results,Tryz.results36,go_sem,x0,x1,z0,z1]) rfl ⟨zG5 hm.out.symm,((EA.out).set (by simp) _).set (by simp) _⟩
 cases g2:zA6 f 0 3
 ·have hm:Hid (zBm ⟨fz,r⟩ t f=(⟨false,0⟩,-1)):=zh (by unfold zBm;rw[g0,g1,g2];rfl)
  go_wp2_with (first
     | (go_at_call 66;refine(zB6 _ ⟨_,r⟩ _ (HV0.out.ext E.out)).mono ?_;rintro e w1 ⟨rfl,he⟩;rw[g0];have EA:=zh (E.out.tr he);replace KA:=zh (KA.out.ext he);replace KB:=zh (KB.out.ext he);obtain⟨x0,x1⟩:=Bk.k2 KA.out;have xf:=KA.out.fz;have ltA:=KA.out.lt;obtain⟨z0,z1⟩:=Bk.k2 KB.out;have zf:=KB.out.fz;have ltB:=KB.out.lt;clear he)
     | (go_at_call 51;refine(zAf _ t _ (H.out.ext EA.out)).mono ?_;rintro e w2 ⟨rfl,he⟩;rw[g1];replace EA:=zh (EA.out.tr he);replace KA:=zh (KA.out.ext he);replace KB:=zh (KB.out.ext he);obtain⟨x0,x1⟩:=Bk.k2 KA.out;have xf:=KA.out.fz;have ltA:=KA.out.lt;obtain⟨z0,z1⟩:=Bk.k2 KB.out;have zf:=KB.out.fz;have ltB:=KB.out.lt;clear he)
     | (go_at_call 35;refine(zA8 _ _ _ _).mono ?_;rintro e w9 ⟨rfl,rfl⟩;rw[g2]))
  refine bodyPost_ret (v:=.tuple #[.agg #[.bool false,.int .i64 (0)],.int .i64 (-1)]) (by simp[results,Tryz.results36,go_sem,x0,x1,z0,z1]) rfl ⟨zG5 hm.out.symm,((EA.out).set (by simp) _).set (by simp) _⟩
 have hst:Hid (zBm ⟨fz,r⟩ t f=zC0 ⟨fz,r⟩ t f):=zh (by unfold zBm;rw[g0,g1,g2];rfl)
 have hf:=zA5.1 g2;have h1:=zDr.1 g0;have h2:=zIm.1 g1;simp only at h1;obtain⟨⟨hr0,hr3⟩,hfr⟩:=h1;obtain⟨h3,hta⟩:=h2;have H3:=zh h3;have HTA:=zh hta;clear h3 hta;by_cases hf0:f=0
 ·subst hf0;have hm:Hid (zBm ⟨fz,r⟩ t 0=(⟨fz,r⟩,0)):=zh (hst.out.trans (zKk (.inl rfl)))
  go_wp2_with (first
   | (go_at_call 66;refine(zB6 _ ⟨_,r⟩ _ (HV0.out.ext E.out)).mono ?_;rintro e w1 ⟨rfl,he⟩;rw[g0];have EA:=zh (E.out.tr he);replace KA:=zh (KA.out.ext he);replace KB:=zh (KB.out.ext he);obtain⟨x0,x1⟩:=Bk.k2 KA.out;have xf:=KA.out.fz;have ltA:=KA.out.lt;obtain⟨z0,z1⟩:=Bk.k2 KB.out;have zf:=KB.out.fz;have ltB:=KB.out.lt;clear he)
   | (go_at_call 51;refine(zAf _ t _ (H.out.ext EA.out)).mono ?_;rintro e w2 ⟨rfl,he⟩;rw[g1];replace EA:=zh (EA.out.tr he);replace KA:=zh (KA.out.ext he);replace KB:=zh (KB.out.ext he);obtain⟨x0,x1⟩:=Bk.k2 KA.out;have xf:=KA.out.fz;have ltA:=KA.out.lt;obtain⟨z0,z1⟩:=Bk.k2 KB.out;have zf:=KB.out.fz;have ltB:=KB.out.lt;clear he)
   | (go_at_call 35;refine(zA8 _ _ _ _).mono ?_;rintro e w9 ⟨rfl,rfl⟩;rw[g2]))
  refine bodyPost_ret (v:=.tuple #[.agg #[.bool fz,.int .i64 (r)],.int .i64 0]) (by simp[results,Tryz.results36,go_sem,x0,x1,z0,z1]) rfl ⟨zG5 hm.out.symm,((EA.out).set (by simp) _).set (by simp) _⟩
 have hfb:(f == 0)=false:=by simpa using hf0
 cases fz
 case true =>
  have hm:Hid (zBm ⟨true,r⟩ t f=(⟨true,r⟩,0)):=zh (hst.out.trans (zKk (.inr rfl)))
  go_wp2_with (first
   | (go_at_call 66;refine(zB6 _ ⟨_,r⟩ _ (HV0.out.ext E.out)).mono ?_;rintro e w1 ⟨rfl,he⟩;rw[g0];have EA:=zh (E.out.tr he);replace KA:=zh (KA.out.ext he);replace KB:=zh (KB.out.ext he);obtain⟨x0,x1⟩:=Bk.k2 KA.out;have xf:=KA.out.fz;have ltA:=KA.out.lt;obtain⟨z0,z1⟩:=Bk.k2 KB.out;have zf:=KB.out.fz;have ltB:=KB.out.lt;clear he)
   | (go_at_call 51;refine(zAf _ t _ (H.out.ext EA.out)).mono ?_;rintro e w2 ⟨rfl,he⟩;rw[g1];replace EA:=zh (EA.out.tr he);replace KA:=zh (KA.out.ext he);replace KB:=zh (KB.out.ext he);obtain⟨x0,x1⟩:=Bk.k2 KA.out;have xf:=KA.out.fz;have ltA:=KA.out.lt;obtain⟨z0,z1⟩:=Bk.k2 KB.out;have zf:=KB.out.fz;have ltB:=KB.out.lt;clear he)
   | (go_at_call 35;refine(zA8 _ _ _ _).mono ?_;rintro e w9 ⟨rfl,rfl⟩;rw[g2]))
  refine bodyPost_ret (v:=.tuple #[.agg #[.bool true,.int .i64 (r)],.int .i64 0]) (by simp[results,Tryz.results36,go_sem,x0,x1,z0,z1]) rfl ⟨zG5 hm.out.symm,((EA.out).set (by simp) _).set (by simp) _⟩
 have hr2:r < 3:=by rcases hfr with h|h;cases h;exact h
 obtain⟨k,hk⟩:∃ k:Nat,f - 1=k:=⟨(f - 1).toNat,by omega⟩
 have hwf:IntKind.i64.wrap (f - 1)=(k:Int):=(zAx (by omega) (by omega)).trans hk
 have hkl:k < t.length:=by have:=H3.out;omega
 clear hfr;go_upto_region 5 with (first
   | (go_at_call 66;refine(zB6 _ ⟨_,r⟩ _ (HV0.out.ext E.out)).mono ?_;rintro e w1 ⟨rfl,he⟩;rw[g0];have EA:=zh (E.out.tr he);replace KA:=zh (KA.out.ext he);replace KB:=zh (KB.out.ext he);obtain⟨x0,x1⟩:=Bk.k2 KA.out;have xf:=KA.out.fz;have ltA:=KA.out.lt;obtain⟨z0,z1⟩:=Bk.k2 KB.out;have zf:=KB.out.fz;have ltB:=KB.out.lt;clear he)
   | (go_at_call 51;refine(zAf _ t _ (H.out.ext EA.out)).mono ?_;rintro e w2 ⟨rfl,he⟩;rw[g1];replace EA:=zh (EA.out.tr he);replace KA:=zh (KA.out.ext he);replace KB:=zh (KB.out.ext he);obtain⟨x0,x1⟩:=Bk.k2 KA.out;have xf:=KA.out.fz;have ltA:=KA.out.lt;obtain⟨z0,z1⟩:=Bk.k2 KB.out;have zf:=KB.out.fz;have ltB:=KB.out.lt;clear he)
   | (go_at_call 35;refine(zA8 _ _ _ _).mono ?_;rintro e w9 ⟨rfl,rfl⟩;rw[g2]))
 obtain⟨b,o,x,rfl,hlt,hx,hc,hrx⟩:=(H.out.ext EA.out).atInt k hkl;have hxv:=HTA.out x (List.mem_of_getElem? hx.out);have hm0:=zh (hst.out.trans (zNf (fz:=false) (r:=r) hf0 rfl (show t.getD (f - 1).toNat 0=x by rw[hk,Int.toNat_natCast,List.getD_eq_getElem?_getD,hx.out];rfl)))
 clear hf0 hk;obtain⟨hx0,hx2⟩:=hxv
 have:x=0\/x=1\/x=2:=by omega
 rcases this with rfl|rfl|rfl
 ·have hm:Hid (zBm ⟨false,r⟩ t f=(⟨false,r⟩,0)):=zh (by rw[hm0.out];rfl)
  go_wp2;refine bodyPost_ret (v:=.tuple #[.agg #[.bool false,.int .i64 (r)],.int .i64 0]) (by simp[results,Tryz.results36,go_sem,x0,x1,z0,z1]) rfl ⟨zG5 hm.out.symm,((EA.out).set (by simp) _).set (by simp) _⟩
 ·by_cases hr1:r+1=3
  ·have hm:Hid (zBm ⟨false,r⟩ t f=(⟨true,r+1⟩,2)):=zh (by rw[hm0.out,if_pos rfl,if_pos hr1])
   have hrb:(r+1 == 3)=true:=by simpa using hr1
   have hwr:IntKind.i64.wrap (r+1)=r+1:=zAx (by omega) (by omega)
   clear hr1;go_wp2;refine bodyPost_ret (v:=.tuple #[.agg #[.bool true,.int .i64 (r+1)],.int .i64 2]) (by simp[results,Tryz.results36,go_sem,x0,x1,z0,z1]) rfl ⟨zG5 hm.out.symm,((((EA.out).set (by simp) _).set (by simp) _).set (by simp) _).set (by simp) _⟩
  ·have hm:Hid (zBm ⟨false,r⟩ t f=(⟨false,r+1⟩,1)):=zh (by rw[hm0.out,if_pos rfl,if_neg hr1])
   have hrb:(r+1 == 3)=false:=by simpa using hr1
   have hwr:IntKind.i64.wrap (r+1)=r+1:=zAx (by omega) (by omega)
   clear hr1;go_wp2;refine bodyPost_ret (v:=.tuple #[.agg #[.bool false,.int .i64 (r+1)],.int .i64 1]) (by simp[results,Tryz.results36,go_sem,x0,x1,z0,z1]) rfl ⟨zG5 hm.out.symm,(((EA.out).set (by simp) _).set (by simp) _).set (by simp) _⟩
 ·have hm:Hid (zBm ⟨false,r⟩ t f=(⟨true,r⟩,2)):=zh (by rw[hm0.out];rfl)
  go_wp2;refine bodyPost_ret (v:=.tuple #[.agg #[.bool true,.int .i64 (r)],.int .i64 2]) (by simp[results,Tryz.results36,go_sem,x0,x1,z0,z1]) rfl ⟨zG5 hm.out.symm,(((EA.out).set (by simp) _).set (by simp) _).set (by simp) _⟩
end Sk
