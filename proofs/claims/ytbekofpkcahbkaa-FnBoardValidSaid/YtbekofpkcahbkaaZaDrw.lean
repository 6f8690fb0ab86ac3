/- Contracts of functions of the given program. -/
import Derived.Test.YtbekofpkcahbkaaDrawW
namespace Sk
open Go Go.Proofs Go.RowKit
set_option maxHeartbeats 1600000
set_option maxRecDepth 100000
set_option linter.unusedVariables false
set_option linter.unusedSimpArgs false
theorem zCj(W w:World)(b m:Nat)(h:Rd W w b m) :
  Calls Try.prog 10 #[.pointer (some ⟨b,0,none⟩),.int .i64 0] w fun e w'=>e = .returned (.bool false)/\Mo [b] w w'/\Rd W w' b m:=by
 have H:=zh h;clear h;go_enter Try.func10,Try.ntmps10;go_wp2;go_ret;exact⟨rfl,Mo.refl _ _,H.out⟩
def WBoxV(W w:World)(b B0 Q m:Nat)(u:World):Prop:=Mw [b] w u/\Rd W u b m/\Bk u B0 [.int .i64 0,.int .i64 0,.bool false] 55 /\
 ∃ (X Y:Int) (Z:Bool),Bk u Q [.int .i64 X,.int .i64 Y,.bool Z] 55/\(0<=X/\X<=4095/\1<=Y/\Y<=12/\X+Y<=4096)
theorem zFf(W w:World)(b m:Nat)(h:Rd W w b (m+8)) :
  Calls Try.prog 85 #[.pointer (some ⟨b,0,none⟩),.int .i64 0] w fun e w' => ∃ x:Window,e = .returned (.agg #[.int .i64 x.Base,.int .i64 x.Size,.bool x.Write])/\rng x.Base/\rng x.Size/\zFi x=true/\Mw [b] w w'/\Rd W w' b m:=by
 have H:=zh h;have hbl:=h.lt;have hbW:=h.1;have hWw:=h.2.1.sz;clear h;go_enter Try.func85,Try.ntmps85;go_upto_region 1 with (fail)
 refine zA2 (fun W0=>Ext w W0/\Bk W0 w.heap.size [.int .i64 0,.int .i64 0,.bool false] 55) ⟨(zr _).alloc _,Bk.new _ _ _⟩ ?_
 rintro W0 ⟨e0,KB⟩;have hlB:=KB.lt;have HRD:=zh (H.out.ext e0);have HMW:Hid (Mw [b] w W0):=zh (Mw.ofExt e0);replace KB:=zh KB;clear e0 H
 generalize hB0:w.heap.size=B0 at *
 replace hB0:=zh hB0;go_upto_region 2 with (go_at_call 20;refine(zA6 W _ b _ _ HRD.out (zAb (by omega) (by omega))).mono ?_;rintro e w1 ⟨k,rfl,hk,hm,hr⟩;have hkb:=hk.lt (by omega);have hsz:=Nat.le_of_eq hm.lt.symm;replace HMW:=zh (HMW.out.tr (Mw.ofMo hm));replace KB:=zh (hm.bk KB.out (by simp;omega));replace HRD:=zh hr;clear hk hm hr)
 obtain⟨Q,hQ⟩:∃ Q,Q=w1.heap.size:=⟨_,rfl⟩;have hBQ:B0 < Q:=by omega
 refine zA2 (WBoxV W w b B0 Q (m+5)) ⟨HMW.out.tr (Mw.ofExt ((zr _).alloc _)),HRD.out.ext ((zr _).alloc _),KB.out.ext ((zr _).alloc _),_,_,_,by rw[hQ];exact Bk.new _ _ _,by omega⟩ ?_
 rw[<- hQ];clear HMW HRD KB hQ hlB;have hbQ:b < Q:=by omega
 rintro W1 ⟨mw1,rd1,kb1,X,Y,Z,kq1,hxy⟩;have HMW:=zh mw1;have HRD:=zh rd1;have KB:=zh kb1;have KQ:=zh kq1;clear mw1 rd1 kb1 kq1;go_upto_if 16 with (go_at_call 10;refine(zE7 W _ b _ _ HRD.out (zAb (by omega) (by omega))).mono ?_;rintro e w2 ⟨⟨q,rfl⟩,hm,hr⟩;replace HMW:=zh (HMW.out.tr (Mw.ofMo hm));replace KB:=zh (hm.bk KB.out (by simp;omega));replace KQ:=zh (hm.bk KQ.out (by simp;omega));replace HRD:=zh hr;clear hm hr)
 go_cut [] from 6 (fun wc=>WBoxV W w b B0 Q (m+4) wc)
 case first =>
  obtain⟨q0,q1⟩:=Bk.k2 KQ.out;have qf:=KQ.out.fz;have ql:=KQ.out.lt;cases q
  ·go_wp2;go_meet
   exact⟨HMW.out,HRD.out,KB.out,X,Y,Z,KQ.out,by omega⟩
  ·go_wp2;go_meet
   exact⟨HMW.out.set (.inr (by show _<=Q;have:=hB0.out;omega)) _,HRD.out.set (by show b≠Q;omega) (by show _<=Q;have:=hB0.out;omega) _,KB.out.set_ne (by show B0≠Q;omega) _,4096 - Y,Y,Z,by have:=KQ.out.set 0 (.int .i64 (4096 - Y));simpa using this,by omega⟩
 case rest =>
  clear HMW HRD KB KQ hxy;obtain⟨mw1,rd1,kb1,X,Y,Z,kq1,hxy⟩:=hcut;have HMW:=zh mw1;have HRD:=zh rd1;have KB:=zh kb1;have KQ:=zh kq1;clear mw1 rd1 kb1 kq1;go_upto_if 23 with (go_at_call 10;refine(zCj W _ b _ HRD.out).mono ?_;rintro e w2 ⟨rfl,hm,hr⟩;replace HMW:=zh (HMW.out.tr (Mw.ofMo hm));replace KB:=zh (hm.bk KB.out (by simp;omega));replace KQ:=zh (hm.bk KQ.out (by simp;omega));replace HRD:=zh hr;clear hm hr)
  obtain⟨b0,b1,b2⟩:=Bk.k3 KB.out;have bf:=KB.out.fz;have bl:=KB.out.lt;obtain⟨q0,q1,q2⟩:=Bk.k3 KQ.out;have hwv:zFi ⟨X,Y,Z⟩=true:=by simp only[zFi,Bool.and_eq_true,zA4];omega
  clear KB KQ;go_wp2;refine bodyPost_ret (v:=.agg #[.int .i64 X,.int .i64 Y,.bool Z]) (by simp[results,Try.results85,go_sem,b0,b1,b2]) rfl ⟨⟨X,Y,Z⟩,rfl,zAb (by show _<=X;omega) (by show X<=_;omega),zAb (by show _<=Y;omega) (by show Y<=_;omega),hwv,?_,?_⟩
  ·exact((HMW.out.set (.inr (by show _<=B0;have:=hB0.out;omega)) _).set (.inr (by show _<=B0;have:=hB0.out;omega)) _).set (.inr (by show _<=B0;have:=hB0.out;omega)) _
  ·exact(((HRD.out.set (by show b≠B0;omega) (by show _<=B0;have:=hB0.out;omega) _).set (by show b≠B0;omega) (by show _<=B0;have:=hB0.out;omega) _).set (by show b≠B0;omega) (by show _<=B0;have:=hB0.out;omega) _).le (by omega)
theorem zEy(W w:World)(b m:Nat)(most:Int)(h:Rd W w b (m+60))(hm1:0<=most)(hm2:most<=4) :
  Calls Try.prog 70 #[.pointer (some ⟨b,0,none⟩),.int .i64 most,.int .i64 0] w fun e w' => ∃ v xs,e = .returned v/\Os (α:=Window) w.heap.size w' v xs/\(xs.length<=4/\∀ x∈xs,zFi x=true)/\Mw [b] w w'/\Rd W w' b m:=by
 have H:=zh h;have hbl:=h.lt;have hbW:=h.1;have hWw:=h.2.1.sz;clear h;go_enter Try.func70,Try.ntmps70;go_upto_region 2 with (fail)
 refine zA2 (fun W0=>Ext w W0/\Oo (α:=Window) 55 w.heap.size W0 (.slice (some ⟨w.heap.size,0,none⟩) 0 0) []) ⟨(zr _).alloc _,Oo.lit0 _ _⟩ ?_
 rintro W0 ⟨e0,ho0⟩;have HRD:=zh (H.out.ext e0);have HMW:Hid (Mw [b] w W0):=zh (Mw.ofExt e0);have HO:=zh ho0;clear e0 H ho0;go_upto_block 0 with (go_at_call 20;refine(zA6 W _ b _ _ HRD.out (zAb (by omega) (by omega))).mono ?_;rintro e w1 ⟨k,rfl,hk,hm,hr⟩;have hkb:=hk.lt (by omega);replace HMW:=zh (HMW.out.tr (Mw.ofMo hm));replace HO:=zh (HO.out.mo hm (by simp;omega));replace HRD:=zh hr;clear hk hm hr)
 obtain⟨hk1,hk2⟩:=hkb;obtain⟨K,rfl⟩:∃ K:Nat,k=K:=⟨k.toNat,by omega⟩
 have hK:K<=4:=by omega
 go_cut [7] from 9 (fun v7 wc => ∃ (ao:Option Addr) (no co:Nat) (xs:List Window),v7 = .slice ao no co/\Oo 55 w.heap.size wc (.slice ao no co) xs/\xs.length<=4/\(∀ x∈xs,zFi x=true)/\Mw [b] w wc/\Rd W wc b (m+20))
 case first =>
  go_wp2_with fail
  go_loopw [7,8] (fun v7 i wr => ∃ (j:Nat) (ao:Option Addr) (no co:Nat) (xs:List Window),j<=K/\i = .int .i64 (K - j:Int)/\v7 = .slice ao no co/\Oo 55 w.heap.size wr (.slice ao no co) xs/\xs.length=j/\(∀ x∈xs,zFi x=true)/\Mw [b] w wr/\Rd W wr b (m+59 - 8*j)) (fun _ i _=>(intOf i).toNat)
  case atStart=>exact⟨0,_,_,_,[],Nat.zero_le _,by simp,rfl,HO.out,rfl,(fun x hx=>by cases hx),HMW.out,HRD.out⟩
  case round =>
   obtain⟨j,ao,no,co,xs,hj,rfl,rfl,hoo,hxl,hxv,hmw,hrd⟩:=hrel;have HXV:=zh hxv;clear hxv;have HMW2:=zh hmw;have HO2:=zh hoo;have HRD2:Hid (Rd W wr b ((m+51 - 8*j)+8)):=zh (hrd.le (by omega))
   clear hmw hoo hrd;by_cases hjt:j < K
   ·go_wp2_with (first
     | (go_at_call 85;refine(zFf W _ b _ HRD2.out).mono ?_;rintro e w2 ⟨x,rfl,rx,ry,hwv,hm,hr⟩;have HWV:=zh hwv;clear hwv;have HM2:=zh (HMW2.out.tr hm);have HO3:=zh (HO2.out.ob.of (w':=w2) (fun k h1 h2=>hm.2.2 k (by omega) (by simp;omega)));have hs2:=hm.size;have HR2:=zh hr;clear hm hr)
     | (at_builtin;refine zDj (α:=Window) rfl _ _ 56 rfl 55 Try.underlying56 zHy (v:=.slice ao no co) (ys:=[x]) rfl (HO3.out.of (fun k _ h=>((zr w2).alloc _).block k (by omega))) (by have:=HMW2.out.size;omega) (by simp;omega) rfl rfl (Row.lit1 (cs:=[_,_,_]) ⟨rfl,rx,ry,rfl⟩) (by simp) (Own.nil _ _) (by omega) ?_;intro v5 w5 hO5 hg5;have hrow5:=HO3.out.own;have HG5:=zh ((HM2.out.tr (Mw.ofExt ((zr _).alloc _))).trF hg5 (fun x hx => .inr (hrow5 x (Option.mem_toList.1 hx)).1));have HR5:=zh ((HR2.out.ext ((zr _).alloc _)).mw hg5 (fun hm=>by have:=hrow5 _ (Option.mem_toList.1 hm);omega) (fun x hx=>by have:=hrow5 x (Option.mem_toList.1 hx);omega));have HO5:=zh hO5;obtain⟨p5,k5,q5,rfl⟩:=hO5.sh;clear hO5 hg5))
    go_roundw
    case rel=>exact⟨j+1,_,_,_,_,by omega,congrArg _ (by omega),rfl,HO5.out,by simp[hxl],(fun y hy=>by rcases List.mem_append.1 hy with hy|hy;exact HXV.out y hy;rw[List.mem_singleton] at hy;subst hy;exact HWV.out),HG5.out,HR5.out.le (by omega)⟩
    case measure=>simp[intOf];omega
   ·obtain rfl:j=K:=by omega
    go_wp2;go_meet
    exact⟨_,_,_,_,rfl,HO2.out,by omega,HXV.out,HMW2.out,HRD2.out.le (by omega)⟩
 case rest =>
  clear HMW HO HRD;obtain⟨ao,no,co,xs,rfl,hoo,hxl,hxv,hmw,hrd⟩:=hcut;have HMW:=zh hmw;have HO:=zh hoo;have HRD:=zh hrd;have HXV:=zh hxv;have hsc:=hmw.size;clear hmw hoo hrd hxv;go_upto_if 25 with (go_at_call 10;refine(zCj W _ b _ HRD.out).mono ?_;rintro e w2 ⟨rfl,hm,hr⟩;replace HMW:=zh (HMW.out.tr (Mw.ofMo hm));replace HO:=zh (HO.out.mo hm (by simp;omega));replace HRD:=zh hr;clear hm hr)
  go_wp2;go_ret;exact⟨_,xs,rfl,HO.out.os,⟨hxl,HXV.out⟩,HMW.out,HRD.out.le (by omega)⟩
theorem M.pv1_of{ws:List Window}{c:Int}(h:ws.length<=4)(hv:∀ x∈ws,zFi x=true)(h1:1<=c)(h2:c<=8):zC7 ⟨ws,c⟩=true:=by
 simp only[zC7,zDv,Bool.and_eq_true,decide_eq_true_eq,List.all_eq_true,zA4];exact⟨⟨by omega,hv⟩,h1,h2⟩
theorem zFm(W w:World)(b m:Nat)(h:Rd W w b (m+400)) :
  Calls Try.prog 54 #[.pointer (some ⟨b,0,none⟩),.int .i64 0] w fun e w' => ∃ v xs,e = .returned v/\Rsb (α:=Part) w.heap.size w' v xs/\(1<=xs.length/\xs.length<=4/\∀ x∈xs,zC7 x=true)/\Mw [b] w w'/\Rd W w' b m:=by
 have H:=zh h;have hbl:=h.lt;have hbW:=h.1;have hWw:=h.2.1.sz;clear h;go_enter Try.func54,Try.ntmps54;go_upto_region 2 with (fail)
 refine zA2 (fun W0=>Ext w W0/\Oo (α:=Part) 69 w.heap.size W0 (.slice (some ⟨w.heap.size,0,none⟩) 0 0) []) ⟨(zr _).alloc _,Oo.lit0 _ _⟩ ?_
 rintro W0 ⟨e0,ho0⟩;have HRD:=zh (H.out.ext e0);have HMW:Hid (Mw [b] w W0):=zh (Mw.ofExt e0);have HO:=zh ho0;clear e0 H ho0;go_upto_block 0 with (go_at_call 20;refine(zA6 W _ b _ _ HRD.out (zAb (by omega) (by omega))).mono ?_;rintro e w1 ⟨k,rfl,hk,hm,hr⟩;have hkb:=hk.lt (by omega);replace HMW:=zh (HMW.out.tr (Mw.ofMo hm));replace HO:=zh (HO.out.mo hm (by simp;omega));replace HRD:=zh hr;clear hk hm hr)
 obtain⟨hk1,hk2⟩:=hkb;obtain⟨J,hJ⟩:∃ J:Nat,1+k=J:=⟨(1+k).toNat,by omega⟩
 rw[hJ];have hJ1:1<=J:=by omega
 have hJ4:J<=4:=by omega
 clear hk1 hk2 hJ;go_cut [5] from 7 (fun v5 wc => ∃ (ao:Option Addr) (no co:Nat) (xs:List Part),v5 = .slice ao no co/\Oo 69 w.heap.size wc (.slice ao no co) xs/\(1<=xs.length/\xs.length<=4/\∀ x∈xs,zC7 x=true)/\Mw [b] w wc/\Rd W wc b (m+100))
 case first =>
  go_wp2_with fail
  go_loopw [5,6] (fun v5 i wr => ∃ (j:Nat) (ao:Option Addr) (no co:Nat) (xs:List Part),j<=J/\i = .int .i64 (J - j:Int)/\v5 = .slice ao no co/\Oo 69 w.heap.size wr (.slice ao no co) xs/\xs.length=j/\(∀ x∈xs,zC7 x=true)/\Mw [b] w wr/\Rd W wr b (m+399 - 61*j)) (fun _ i _=>(intOf i).toNat)
  case atStart=>exact⟨0,_,_,_,[],Nat.zero_le _,by simp,rfl,HO.out,rfl,(fun x hx=>by cases hx),HMW.out,HRD.out⟩
  case round =>
   obtain⟨j,ao,no,co,xs,hj,rfl,rfl,hoo,hxl,hxw,hmw,hrd⟩:=hrel;have HMW2:=zh hmw;have HO2:=zh hoo;have HXL:=zh hxl;have HXW:=zh hxw;have hs1:=hmw.size;have hxl4:xs.length<=4:=by omega
   have HRD2:Hid (Rd W wr b ((m+339 - 61*j)+60)):=zh (hrd.le (by omega))
   clear hmw hoo hrd hxl hxw;by_cases hjt:j < J
   ·go_wp2_with (first
     | (go_at_call 70;refine(zEy W _ b _ _ HRD2.out (by omega) (by omega)).mono ?_;rintro e w2 ⟨v2,ws,rfl,hw,hwl,hm,hr⟩;have HWL:=zh hwl;clear hwl;obtain⟨pw,cw,rfl,hcw⟩:=hw.form;have HM2:=zh (HMW2.out.tr hm);have HO3:=zh (HO2.out.ob.of (w':=w2) (fun k h1 h2=>hm.2.2 k h2 (by simp;omega)));have hs2:=hm.size;have HR2:=zh hr;have HW2:=zh hw.osb;clear hm hr hw)
     | (go_at_call 20;refine(zA6 W _ b (m+338 - 61*j) _ (HR2.out.le (by omega)) (zAb (by omega) (by omega))).mono ?_;rintro e w3 ⟨k2,rfl,hk,hm,hr⟩;have hkb2:=hk.lt (by omega);have HM3:=zh (HM2.out.tr (Mw.ofMo hm));have HO4:=zh (HO3.out.of (w':=w3) (fun k h1 h2=>(Mw.ofMo hm).2.2 k (by omega) (by simp;omega)));have hs3:=(Mw.ofMo hm).size;have HR3:=zh hr;obtain⟨FW,hsw,how⟩:=(HW2.out.of (w':=w3) (fun k h1 h2=>(Mw.ofMo hm).2.2 k h2 (by simp;omega))).os;have HSW:=zh hsw;have HOW:=zh how;clear hk hm hr hsw how)
     | (at_builtin;refine zDj (α:=Part) rfl _ _ 38 rfl 69 Try.underlying38 elPart (v:=.slice ao no co) (ys:=[⟨ws,1+k2⟩]) (Fy:=FW) rfl (HO4.out.of (fun k _ h=>((zr w3).alloc _).block k (by omega))) (by omega) (by simp;omega) rfl rfl (Row.lit1 (cs:=[_,_]) ⟨_,rfl,HSW.out,zAb (by show _<=1+k2;omega) (by show 1+k2<=_;omega)⟩) (by simp) (HOW.out.ext ((zr w3).alloc _)) (by omega) ?_;intro v5 w5 hO5 hg5;have hrow5:=HO4.out.own;have HG5:=zh ((HM3.out.tr (Mw.ofExt ((zr _).alloc _))).trF hg5 (fun x hx => .inr (hrow5 x (Option.mem_toList.1 hx)).1));have HR5:=zh ((HR3.out.ext ((zr _).alloc _)).mw hg5 (fun hm=>by have:=hrow5 _ (Option.mem_toList.1 hm);omega) (fun x hx=>by have:=hrow5 x (Option.mem_toList.1 hx);omega));have HO5:=zh hO5;obtain⟨p5,k5,q5,rfl⟩:=HO5.sh;clear hO5 hg5))
    go_roundw
    case rel=>exact⟨j+1,_,_,_,_,by omega,congrArg _ (by omega),rfl,HO5.out,by simp[HXL.out],(fun x hx=>by rcases List.mem_append.1 hx with hx|hx;exact HXW.out x hx;rw[List.mem_singleton] at hx;subst hx;exact M.pv1_of HWL.out.1 HWL.out.2 (by show 1<=1+k2;omega) (by show 1+k2<=8;omega)),HG5.out,HR5.out.le (by omega)⟩
    case measure=>simp[intOf];omega
   ·obtain rfl:j=J:=by omega
    go_wp2;go_meet
    exact⟨_,_,_,_,rfl,HO2.out,⟨by have:=HXL.out;omega,hxl4,HXW.out⟩,HMW2.out,HRD2.out.le (by omega)⟩
 case rest =>
  clear HMW HO HRD;obtain⟨ao,no,co,xs,rfl,hoo,⟨hx1,hx4,hxw⟩,hmw,hrd⟩:=hcut;have HMW:=zh hmw;have HO:=zh hoo;have HRD:=zh hrd;have HXW:=zh hxw;have hsc:=hmw.size;clear hmw hoo hrd hxw;go_upto_if 26 with (go_at_call 10;refine(zCj W _ b _ HRD.out).mono ?_;rintro e w2 ⟨rfl,hm,hr⟩;have hs2:=(Mw.ofMo hm).size;replace HMW:=zh (HMW.out.tr (Mw.ofMo hm));replace HO:=zh (HO.out.mo hm (by simp;omega));replace HRD:=zh hr;clear hm hr)
  go_wp2;go_ret;exact⟨_,xs,rfl,HO.out.rsb,⟨hx1,hx4,HXW.out⟩,HMW.out,HRD.out.le (by omega)⟩
theorem zFo(W w:World)(b m K:Nat)(h:Rd W w b (m+20))(hK1:1<=K)(hK:K<=1000) :
  Calls Try.prog 56 #[.pointer (some ⟨b,0,none⟩),.int .i64 K,.int .i64 0] w fun e w' => ∃ v xs,e = .returned v/\Rsb (α:=Slot) w.heap.size w' v xs/\(1<=xs.length/\xs.length<=6/\∀ x∈xs,zCl K x=true)/\Mw [b] w w'/\Rd W w' b m:=by
 have H:=zh h;have hbl:=h.lt;have hbW:=h.1;have hWw:=h.2.1.sz;clear h;go_enter Try.func56,Try.ntmps56;go_upto_region 2 with (fail)
 refine zA2 (fun W0=>Ext w W0/\Oo (α:=Slot) 104 w.heap.size W0 (.slice (some ⟨w.heap.size,0,none⟩) 0 0) []) ⟨(zr _).alloc _,Oo.lit0 _ _⟩ ?_
 rintro W0 ⟨e0,ho0⟩;have HRD:=zh (H.out.ext e0);have HMW:Hid (Mw [b] w W0):=zh (Mw.ofExt e0);have HO:=zh ho0;clear e0 H ho0;go_upto_block 0 with (go_at_call 20;refine(zA6 W _ b _ _ HRD.out (zAb (by omega) (by omega))).mono ?_;rintro e w1 ⟨k,rfl,hk,hm,hr⟩;have hkb:=hk.lt (by omega);replace HMW:=zh (HMW.out.tr (Mw.ofMo hm));replace HO:=zh (HO.out.mo hm (by simp;omega));replace HRD:=zh hr;clear hk hm hr)
 obtain⟨hk1,hk2⟩:=hkb;obtain⟨J,hJ⟩:∃ J:Nat,1+k=J:=⟨(1+k).toNat,by omega⟩
 rw[hJ];have hJ1:1<=J:=by omega
 have hJ6:J<=6:=by omega
 clear hk1 hk2 hJ;go_cut [7] from 9 (fun v7 wc => ∃ (ao:Option Addr) (no co:Nat) (xs:List Slot),v7 = .slice ao no co/\Oo 104 w.heap.size wc (.slice ao no co) xs/\1<=xs.length/\xs.length<=6/\(∀ x∈xs,zCl K x=true)/\Mw [b] w wc/\Rd W wc b (m+5))
 case first =>
  go_wp2_with fail
  go_loopw [7,8] (fun v7 i wr => ∃ (j:Nat) (ao:Option Addr) (no co:Nat) (xs:List Slot),j<=J/\i = .int .i64 (J - j:Int)/\v7 = .slice ao no co/\Oo 104 w.heap.size wr (.slice ao no co) xs/\xs.length=j/\(∀ x∈xs,zCl K x=true)/\Mw [b] w wr/\Rd W wr b (m+19 - 2*j)) (fun _ i _=>(intOf i).toNat)
  case atStart=>exact⟨0,_,_,_,[],Nat.zero_le _,by simp,rfl,HO.out,rfl,(fun x hx=>by cases hx),HMW.out,HRD.out⟩
  case round =>
   obtain⟨j,ao,no,co,xs,hj,rfl,rfl,hoo,hxl,hxv,hmw,hrd⟩:=hrel;have HXV:=zh hxv;clear hxv;have HMW2:=zh hmw;have HO2:=zh hoo;have hs1:=hmw.size;have HRD2:Hid (Rd W wr b ((m+18 - 2*j)+1)):=zh (hrd.le (by omega))
   clear hmw hoo hrd;by_cases hjt:j < J
   ·go_wp2_with (first
     | (go_at_call 20;refine(zA6 W _ b (m+17 - 2*j) _ (HR2.out.le (by omega)) (zAb (by omega) (by omega))).mono ?_;rintro e w3 ⟨k2,rfl,hk,hm,hr⟩;have hkb2:=hk.lt (by omega);have HM3:=zh (HM2.out.tr (Mw.ofMo hm));have HO4:=zh (HO3.out.of (w':=w3) (fun k h1 h2=>(Mw.ofMo hm).2.2 k (by omega) (by simp;omega)));have hs3:=(Mw.ofMo hm).size;have HR3:=zh hr;clear hk hm hr)
     | (go_at_call 20;refine(zA6 W _ b _ _ HRD2.out (zAb (by omega) (by omega))).mono ?_;rintro e w2 ⟨k1,rfl,hk,hm,hr⟩;have hkb1:=hk.lt (by omega);have HM2:=zh (HMW2.out.tr (Mw.ofMo hm));have HO3:=zh (HO2.out.ob.of (w':=w2) (fun k h1 h2=>(Mw.ofMo hm).2.2 k h2 (by simp;omega)));have hs2:=(Mw.ofMo hm).size;have HR2:=zh hr;clear hk hm hr)
     | (at_builtin;refine zDj (α:=Slot) rfl _ _ 40 rfl 104 Try.underlying40 elSlot (v:=.slice ao no co) (ys:=[⟨k1 - 1,1+k2⟩]) rfl (HO4.out.of (fun k _ h=>((zr w3).alloc _).block k (by omega))) (by omega) (by simp;omega) rfl rfl (Row.lit1 (cs:=[_,_]) ⟨rfl,zAb (by show _<=k1 - 1;omega) (by show k1 - 1<=_;omega),zAb (by show _<=1+k2;omega) (by show 1+k2<=_;omega),rfl⟩) (by simp) (Own.nil _ _) (by omega) ?_;intro v5 w5 hO5 hg5;have hrow5:=HO4.out.own;have HG5:=zh ((HM3.out.tr (Mw.ofExt ((zr _).alloc _))).trF hg5 (fun x hx => .inr (hrow5 x (Option.mem_toList.1 hx)).1));have HR5:=zh ((HR3.out.ext ((zr _).alloc _)).mw hg5 (fun hm=>by have:=hrow5 _ (Option.mem_toList.1 hm);omega) (fun x hx=>by have:=hrow5 x (Option.mem_toList.1 hx);omega));have HO5:=zh hO5;obtain⟨p5,k5,q5,rfl⟩:=HO5.sh;clear hO5 hg5))
    go_roundw
    case rel=>exact⟨j+1,_,_,_,_,by omega,congrArg _ (by omega),rfl,HO5.out,by simp[hxl],(fun y hy=>by rcases List.mem_append.1 hy with hy|hy;exact HXV.out y hy;rw[List.mem_singleton] at hy;subst hy;simp only[zCl,Bool.and_eq_true,zA4];omega),HG5.out,HR5.out.le (by omega)⟩
    case measure=>simp[intOf];omega
   ·obtain rfl:j=J:=by omega
    go_wp2;go_meet
    exact⟨_,_,_,_,rfl,HO2.out,by omega,by omega,HXV.out,HMW2.out,HRD2.out.le (by omega)⟩
 case rest =>
  clear HMW HO HRD;obtain⟨ao,no,co,xs,rfl,hoo,hx1,hx6,hxv,hmw,hrd⟩:=hcut;have HMW:=zh hmw;have HO:=zh hoo;have HRD:=zh hrd;have HXV:=zh hxv;have hsc:=hmw.size;clear hmw hoo hrd hxv;go_upto_if 31 with (go_at_call 10;refine(zCj W _ b _ HRD.out).mono ?_;rintro e w2 ⟨rfl,hm,hr⟩;have hs2:=(Mw.ofMo hm).size;replace HMW:=zh (HMW.out.tr (Mw.ofMo hm));replace HO:=zh (HO.out.mo hm (by simp;omega));replace HRD:=zh hr;clear hm hr)
  go_wp2;go_ret;exact⟨_,xs,rfl,HO.out.rsb,⟨hx1,hx6,HXV.out⟩,HMW.out,HRD.out.le (by omega)⟩
end Sk
