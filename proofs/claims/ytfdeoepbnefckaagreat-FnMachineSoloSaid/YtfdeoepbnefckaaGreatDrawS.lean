/- Contracts of functions of the given program. -/
import Derived.Test.YtfdeoepbnefckaaGreatDrawW
namespace Sk
open Go Go.Proofs Go.RowKit
set_option maxHeartbeats 1600000
set_option maxRecDepth 100000
set_option linter.unusedVariables false
set_option linter.unusedSimpArgs false
def lenOf:Value->Nat
 | .slice _ n _=>n
 | _=>0
theorem Oo.head{α:Type}[GT α]{e:TypeId}{L:Nat}{w:World}{a:Option Addr}{n c:Nat}{x : α}{xs:List α}(h:Oo e L w (.slice a n c) (x::xs)) :
  ∃ G cs F1,a=some ⟨G,0,none⟩/\n=xs.length+1/\n<=c/\c<=9223372036854775807/\L<=G/\G < w.heap.size/\Hid (GT.enc w cs x F1)/\Hid (At w G 0 cs)/\Hid (∀ j,w.frozen? ⟨G,j,none⟩=false)/\Hid (∀ k∈F1,L<=k/\k≠G) /\
   Hid (∀ w' cs' y F',(∀ j,GT.sz α <= j->w'.cell? ⟨G,j,none⟩=w.cell? ⟨G,j,none⟩)->(∀ k,k < w.heap.size->k≠G->L<=k->w'.heap[k]? = w.heap[k]?)->GT.enc w' cs' y F'->At w' G 0 cs'->(∀ k∈F',L<=k) ->
    Rsb L w' (.slice a n c) (y::xs)):=by
 obtain⟨F,h,ho⟩:=h;rcases h with ⟨_,h,_⟩ | ⟨G,cap,cur,he,hL,hg,hl,hc,hs,hr,hn⟩
 ·cases h
 ·cases he;obtain⟨cs,F1,F2,hx,ha,rfl,hr2⟩:=hr;refine⟨G,cs,F1,rfl,by simp,hl,by unfold maxLen at hc;omega,hL,(Bk.ofA hg).lt,hx,ha,fun j=>(Bk.ofA hg).fz j,fun k hk=>⟨(ho.2 k (List.mem_append_left _ hk)).1,fun e=>hn (e ▸ List.mem_append_left _ hk)⟩,?_⟩
  intro w' cs' y F' h1 h2 h3 h4 h5;have hrr:Row w' G (0+GT.sz α) xs F2:=hr2.move (fun k hk=>h2 k (hr2.inh k hk) (fun e=>hn (e ▸ List.mem_append_right _ hk)) (ho.2 k (List.mem_append_right _ hk)).1) (fun j u hj hu=>by rw[h1 _ (by omega)];exact hu)
  refine⟨G::(F'++F2),⟨_,c,by simp,hl,hc,.inr ⟨by simp,G,0,_,rfl,rfl,cs',F',F2,h3,h4,rfl,hrr⟩⟩,fun k hk=>?_⟩
  rcases List.mem_cons.1 hk with rfl|hk
  ·exact hL
  ·rcases List.mem_append.1 hk with hk|hk
   ·exact h5 k hk
   ·exact(ho.2 k (List.mem_append_right _ hk)).1
theorem At.two{w:World}{G:Nat}{u v:Value}(h0:w.cell? ⟨G,0,none⟩=some u)(h1:w.cell? ⟨G,1,none⟩=some v):At w G 0 [u,v]:=fun j x hj=>by
 rcases j with _|_|j
 ·cases hj;exact h0
 ·cases hj;exact h1
 ·cases hj
theorem zGv(W w:World)(b m K:Nat)(n:Int)(h:Rd W w b (m+20))(hK:K<=1000)(hn1 : -1000000<=n)(hn2:n<=1000000) :
  Calls Tryz.prog 47 #[.pointer (some ⟨b,0,none⟩),.int .i64 K,.int .i64 n] w fun e w' => ∃ v xs,e = .returned v/\Rsb (α:=Slot) w.heap.size w' v xs/\xs.length<=13/\Mw [b] w w'/\Rd W w' b m:=by
 have H:=zh h;have hbl:=h.lt;have hbW:=h.1;have hWw:=h.2.1.sz;clear h;go_enter Tryz.func47,Tryz.ntmps47;go_upto_region 2 with (fail)
 refine zA2 (fun W0=>Ext w W0/\Oo (α:=Slot) 101 w.heap.size W0 (.slice (some ⟨w.heap.size,0,none⟩) 0 0) []) ⟨(zr _).alloc _,Oo.lit0 _ _⟩ ?_
 rintro W0 ⟨e0,ho0⟩;have HRD:=zh (H.out.ext e0);have HMW:Hid (Mw [b] w W0):=zh (Mw.ofExt e0);have HO:=zh ho0;clear e0 H ho0;go_upto_block 0 with (go_at_call 49;refine(zA3 W _ b _ _ HRD.out (zA5 (by omega) (by omega))).mono ?_;rintro e w1 ⟨k,rfl,hk,hm,hr⟩;have hkb:=hk.lt (by omega);replace HMW:=zh (HMW.out.tr (Mw.ofMo hm));replace HO:=zh (HO.out.mo hm (by simp;omega));replace HRD:=zh hr;clear hk hm hr)
 obtain⟨hk1,hk2⟩:=hkb;obtain⟨J,hJ⟩:∃ J:Nat,1+k=J:=⟨(1+k).toNat,by omega⟩
 rw[hJ];have hJ1:1<=J:=by omega
 have hJ6:J<=6:=by omega
 clear hk1 hk2 hJ;go_cut [7] from 9 (fun v7 wc => ∃ (ao:Option Addr) (no co:Nat) (xs:List Slot),v7 = .slice ao no co/\Oo 101 w.heap.size wc (.slice ao no co) xs/\1<=xs.length/\xs.length<=6/\Mw [b] w wc/\Rd W wc b (m+5))
 case first =>
  go_wp2_with fail
  go_loopw [7,8] (fun v7 i wr => ∃ (j:Nat) (ao:Option Addr) (no co:Nat) (xs:List Slot),j<=J/\i = .int .i64 (J - j:Int)/\v7 = .slice ao no co/\Oo 101 w.heap.size wr (.slice ao no co) xs/\xs.length=j/\Mw [b] w wr/\Rd W wr b (m+19 - 2*j)) (fun _ i _=>(intOf i).toNat)
  case atStart=>exact⟨0,_,_,_,[],Nat.zero_le _,by simp,rfl,HO.out,rfl,HMW.out,HRD.out⟩
  case round =>
   obtain⟨j,ao,no,co,xs,hj,rfl,rfl,hoo,hxl,hmw,hrd⟩:=hrel;have HMW2:=zh hmw;have HO2:=zh hoo;have hs1:=hmw.size;have HRD2:Hid (Rd W wr b ((m+18 - 2*j)+1)):=zh (hrd.le (by omega))
   clear hmw hoo hrd;by_cases hjt:j < J
   ·go_wp2_with (first
     | (go_at_call 49;refine(zA3 W _ b (m+17 - 2*j) _ (HR2.out.le (by omega)) (zA5 (by omega) (by omega))).mono ?_;rintro e w3 ⟨k2,rfl,hk,hm,hr⟩;have hkb2:=hk.lt (by omega);have HM3:=zh (HM2.out.tr (Mw.ofMo hm));have HO4:=zh (HO3.out.of (w':=w3) (fun k h1 h2=>(Mw.ofMo hm).2.2 k (by omega) (by simp;omega)));have hs3:=(Mw.ofMo hm).size;have HR3:=zh hr;clear hk hm hr)
     | (go_at_call 49;refine(zA3 W _ b _ _ HRD2.out (zA5 (by omega) (by omega))).mono ?_;rintro e w2 ⟨k1,rfl,hk,hm,hr⟩;have hkb1:=hk.lt (by omega);have HM2:=zh (HMW2.out.tr (Mw.ofMo hm));have HO3:=zh (HO2.out.ob.of (w':=w2) (fun k h1 h2=>(Mw.ofMo hm).2.2 k h2 (by simp;omega)));have hs2:=(Mw.ofMo hm).size;have HR2:=zh hr;clear hk hm hr)
     | (at_builtin;refine zBa (α:=Slot) rfl _ _ 25 rfl 101 Tryz.underlying25 zId (v:=.slice ao no co) (ys:=[⟨k1 - 1,1+k2⟩]) rfl (HO4.out.of (fun k _ h=>((zr w3).alloc _).block k (by omega))) (by omega) (by simp;omega) rfl rfl (Row.lit1 (cs:=[_,_]) ⟨rfl,zA5 (by show _<=k1 - 1;omega) (by show k1 - 1<=_;omega),zA5 (by show _<=1+k2;omega) (by show 1+k2<=_;omega),rfl⟩) (by simp) (Own.nil _ _) (by omega) ?_;intro v5 w5 hO5 hg5;have hrow5:=HO4.out.own;have HG5:=zh ((HM3.out.tr (Mw.ofExt ((zr _).alloc _))).trF hg5 (fun x hx => .inr (hrow5 x (Option.mem_toList.1 hx)).1));have HR5:=zh ((HR3.out.ext ((zr _).alloc _)).mw hg5 (fun hm=>by have:=hrow5 _ (Option.mem_toList.1 hm);omega) (fun x hx=>by have:=hrow5 x (Option.mem_toList.1 hx);omega));have HO5:=zh hO5;obtain⟨p5,k5,q5,rfl⟩:=HO5.sh;clear hO5 hg5))
    go_roundw
    case rel=>exact⟨j+1,_,_,_,_,by omega,congrArg _ (by omega),rfl,HO5.out,by simp[hxl],HG5.out,HR5.out.le (by omega)⟩
    case measure=>simp[intOf];omega
   ·obtain rfl:j=J:=by omega
    go_wp2;go_meet
    exact⟨_,_,_,_,rfl,HO2.out,by omega,by omega,HMW2.out,HRD2.out.le (by omega)⟩
 case rest =>
  clear HMW HO HRD;obtain⟨ao,no,co,xs,rfl,hoo,hx1,hx6,hmw,hrd⟩:=hcut;have HMW:=zh hmw;have HO:=zh hoo;have HRD:=zh hrd;have hsc:=hmw.size;clear hmw hoo hrd;go_upto_if 31 with (go_at_call 20;refine(zC8 W _ b _ _ HRD.out (zA5 (by omega) (by omega))).mono ?_;rintro e w2 ⟨⟨q,rfl⟩,hm,hr⟩;have hs2:=(Mw.ofMo hm).size;replace HMW:=zh (HMW.out.tr (Mw.ofMo hm));replace HO:=zh (HO.out.mo hm (by simp;omega));replace HRD:=zh hr;clear hm hr)
  cases q
  ·go_wp2;go_ret;exact⟨_,xs,rfl,HO.out.rsb,by omega,HMW.out,HRD.out.le (by omega)⟩
  ·go_upto_if 41 with (go_at_call 49;refine(zA3 W _ b _ _ HRD.out (zA5 (by omega) (by omega))).mono ?_;rintro e w3 ⟨k,rfl,hk,hm,hr⟩;have hkb:=hk.lt (by omega);have hs3:=(Mw.ofMo hm).size;replace HMW:=zh (HMW.out.tr (Mw.ofMo hm));replace HO:=zh (HO.out.mo hm (by simp;omega));replace HRD:=zh hr;clear hk hm hr)
   obtain⟨x,xs,rfl⟩:∃ x ys,xs=x::ys:=by
    cases xs with
    | nil=>simp at hx1
    | cons x ys=>exact⟨x,ys,rfl⟩
   have hxl6:xs.length+1<=6:=by simpa using hx6
   clear hx1 hx6;have hs4:=Nat.le_trans hsc (Nat.le_trans hs2 hs3);obtain rfl|rfl|rfl|rfl:k=0\/k=1\/k=2\/k=3:=by omega
   ·clear hkb;go_wp2_with (go_at_call 49;refine(zA3 W _ b (m+2) _ (HRD.out.ext ((zr _).alloc _)) (zA5 (by omega) (by omega))).mono ?_;rintro e w4 ⟨k4,rfl,hk4,hm4,hr4⟩;obtain⟨z,hz1,hz2⟩:=zCn (zs:=[-2,(K:Int)]) hm4 HRD.out.lt hk4 rfl (by simp);have hkb4:=hk4.lt (by omega);obtain⟨hk41,hk42⟩:=hkb4;have hzb : -10000<=z/\z<=10000:=(by simp only[List.mem_cons,List.not_mem_nil,or_false] at hz2;omega);have HM4:=zh ((HMW.out.tr (Mw.ofExt ((zr _).alloc _))).tr (Mw.ofMo hm4));have HO4:=(HO.out.ext ((zr _).alloc _)).mo hm4 (by simp;omega);obtain⟨G,cs,F1,rfl,rfl,hc1,hc2,hG1,hG2,⟨rfl,rx,ry,rfl⟩,HA,HF,_,HB⟩:=HO4.head;have g0:w4.cell? ⟨G,0,none⟩=_:=HA.out 0 _ rfl;have g1:w4.cell? ⟨G,1,none⟩=_:=HA.out 1 _ rfl;have gf:=HF.out 0;have HR4:=zh hr4;clear hk4 hm4 hr4 HO4)
    go_ret;exact⟨_,⟨z,x.Ticks⟩::xs,rfl,HB.out _ _ ⟨z,x.Ticks⟩ [] (fun j hj=>zA6 (by have:2<=j:=hj;omega)) (fun k h1 h2 h3=>zA8 h2) ⟨rfl,zA5 (by show _<=z;omega) (by show z<=_;omega),ry,rfl⟩ (At.two (zAu g0) ((zA6 (by omega)).trans g1)) (fun k hk=>by cases hk),by simp;omega,HM4.out.set (.inr hG1) _,(HR4.out.set (by show b≠G;omega) (by show _<=G;omega) _).le (by omega)⟩
   ·clear hkb;go_wp2_with (go_at_call 49;refine(zA3 W _ b (m+2) _ (HRD.out.ext ((zr _).alloc _)) (zA5 (by omega) (by omega))).mono ?_;rintro e w4 ⟨k4,rfl,hk4,hm4,hr4⟩;obtain⟨z,hz1,hz2⟩:=zCn (zs:=[0,21]) hm4 HRD.out.lt hk4 rfl (by simp);have hkb4:=hk4.lt (by omega);obtain⟨hk41,hk42⟩:=hkb4;have hzb : -10000<=z/\z<=10000:=(by simp only[List.mem_cons,List.not_mem_nil,or_false] at hz2;omega);have HM4:=zh ((HMW.out.tr (Mw.ofExt ((zr _).alloc _))).tr (Mw.ofMo hm4));have HO4:=(HO.out.ext ((zr _).alloc _)).mo hm4 (by simp;omega);obtain⟨G,cs,F1,rfl,rfl,hc1,hc2,hG1,hG2,⟨rfl,rx,ry,rfl⟩,HA,HF,_,HB⟩:=HO4.head;have g0:w4.cell? ⟨G,0,none⟩=_:=HA.out 0 _ rfl;have g1:w4.cell? ⟨G,1,none⟩=_:=HA.out 1 _ rfl;have gf:=HF.out 1;have HR4:=zh hr4;clear hk4 hm4 hr4 HO4)
    go_ret;exact⟨_,⟨x.Who,z⟩::xs,rfl,HB.out _ _ ⟨x.Who,z⟩ [] (fun j hj=>zA6 (by have:2<=j:=hj;omega)) (fun k h1 h2 h3=>zA8 h2) ⟨rfl,rx,zA5 (by show _<=z;omega) (by show z<=_;omega),rfl⟩ (At.two ((zA6 (by omega)).trans g0) (zAu g1)) (fun k hk=>by cases hk),by simp;omega,HM4.out.set (.inr hG1) _,(HR4.out.set (by show b≠G;omega) (by show _<=G;omega) _).le (by omega)⟩
   ·clear hkb;go_wp2;go_ret;exact⟨_,[],rfl,(Oo.lit0 (α:=Slot) 101 w3).rsb.mono hs4,by simp,HMW.out.tr (Mw.ofExt ((zr _).alloc _)),(HRD.out.ext ((zr _).alloc _)).le (by omega)⟩
   ·clear hkb;simp only[show((3:Int) == 0)=false from rfl]
    go_wp2_with fail
    go_loopw [7] (fun v7 wr => ∃ (ao:Option Addr) (no co:Nat) (ys:List Slot),v7 = .slice ao no co/\Oo 101 w.heap.size wr (.slice ao no co) ys/\ys.length<=13/\Mw [b] w wr/\Rd W wr b m) (fun v7 _=>13 - lenOf v7)
    case atStart =>
     have h:=HO.out;obtain⟨_,_,he,_⟩:=h.form;cases he;exact⟨_,_,_,_,rfl,h,by simp;omega,HMW.out,HRD.out.le (by omega)⟩
    case round =>
     obtain⟨a2,n2,c2,ys,rfl,hoo,hyl,hmw,hrd⟩:=hrel;obtain rfl:ys.length=n2:=by
      obtain⟨_,_,he,_⟩:=hoo.form;cases he;rfl
     clear HMW HO HRD;have HMW:=zh hmw;have HO:=zh hoo.ob;have HRD:=zh hrd;have HOO:=zh hoo;have hsr:=hmw.size;have hrow:=hoo.ob.own;clear hmw hoo hrd;by_cases hlt:ys.length<=12
     ·go_wp2_with (at_builtin;refine zBa (α:=Slot) rfl _ _ 25 rfl 101 Tryz.underlying25 zId (v:=.slice a2 ys.length c2) (ys:=[⟨-1,1⟩]) rfl (HO.out.of (fun k _ h=>((zr wr).alloc _).block k (by omega))) (by omega) (by simp) rfl rfl (Row.lit1 (cs:=[_,_]) ⟨rfl,zA5 (by show _<=(-1:Int);omega) (by show(-1:Int)<=_;omega),zA5 (by show _<=(1:Int);omega) (by show(1:Int)<=_;omega),rfl⟩) (by simp) (Own.nil _ _) (by omega) ?_;intro v5 w5 hO5 hg5;have HG5:=zh ((HMW.out.tr (Mw.ofExt ((zr _).alloc _))).trF hg5 (fun x hx => .inr (hrow x (Option.mem_toList.1 hx)).1));have HR5:=zh ((HRD.out.ext ((zr _).alloc _)).mw hg5 (fun hm=>by have:=hrow _ (Option.mem_toList.1 hm);omega) (fun x hx=>by have:=hrow x (Option.mem_toList.1 hx);omega));have HO5:=zh hO5;obtain⟨p5,k5,q5,rfl⟩:=HO5.out.sh;clear hO5 hg5)
      go_roundw
      case rel=>exact⟨_,_,_,_,rfl,HO5.out,by simp;omega,HG5.out,HR5.out⟩
      case measure =>
       obtain⟨_,_,he,_⟩:=HO5.out.form;cases he;simp[lenOf];omega
     ·have hlt2:(12:Int) < ys.length:=by omega
      go_wp2;go_ret;exact⟨_,ys,rfl,HOO.out.rsb,hyl,HMW.out,HRD.out⟩
end Sk
