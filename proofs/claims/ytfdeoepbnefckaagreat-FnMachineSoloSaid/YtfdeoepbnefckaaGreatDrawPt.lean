/- Contracts of functions of the given program. -/
import Derived.Test.YtfdeoepbnefckaaGreatDrawS
namespace Sk
open Go Go.Proofs Go.RowKit
set_option maxHeartbeats 1600000
set_option maxRecDepth 100000
set_option linter.unusedVariables false
set_option linter.unusedSimpArgs false
theorem zGt(W w:World)(b m:Nat)(n:Int)(h:Rd W w b (m+400))(hn1 : -1000000<=n)(hn2:n<=1000000) :
  Calls Tryz.prog 45 #[.pointer (some ⟨b,0,none⟩),.int .i64 n] w fun e w' => ∃ v xs,e = .returned v/\Rsb (α:=Part) w.heap.size w' v xs/\(xs.length<=6/\∀ x∈xs,x.Windows.length<=20)/\Mw [b] w w'/\Rd W w' b m:=by
 have H:=zh h;have hbl:=h.lt;have hbW:=h.1;have hWw:=h.2.1.sz;clear h;go_enter Tryz.func45,Tryz.ntmps45;go_upto_region 2 with (fail)
 refine zA2 (fun W0=>Ext w W0/\Oo (α:=Part) 47 w.heap.size W0 (.slice (some ⟨w.heap.size,0,none⟩) 0 0) []) ⟨(zr _).alloc _,Oo.lit0 _ _⟩ ?_
 rintro W0 ⟨e0,ho0⟩;have HRD:=zh (H.out.ext e0);have HMW:Hid (Mw [b] w W0):=zh (Mw.ofExt e0);have HO:=zh ho0;clear e0 H ho0;go_upto_block 0 with (go_at_call 49;refine(zA3 W _ b _ _ HRD.out (zA5 (by omega) (by omega))).mono ?_;rintro e w1 ⟨k,rfl,hk,hm,hr⟩;have hkb:=hk.lt (by omega);replace HMW:=zh (HMW.out.tr (Mw.ofMo hm));replace HO:=zh (HO.out.mo hm (by simp;omega));replace HRD:=zh hr;clear hk hm hr)
 obtain⟨hk1,hk2⟩:=hkb;obtain⟨J,hJ⟩:∃ J:Nat,1+k=J:=⟨(1+k).toNat,by omega⟩
 rw[hJ];have hJ1:1<=J:=by omega
 have hJ4:J<=4:=by omega
 clear hk1 hk2 hJ;go_cut [5] from 7 (fun v5 wc => ∃ (ao:Option Addr) (no co:Nat) (xs:List Part),v5 = .slice ao no co/\Oo 47 w.heap.size wc (.slice ao no co) xs/\(1<=xs.length/\xs.length<=4/\∀ x∈xs,x.Windows.length<=20)/\Mw [b] w wc/\Rd W wc b (m+100))
 case first =>
  go_wp2_with fail
  go_loopw [5,6] (fun v5 i wr => ∃ (j:Nat) (ao:Option Addr) (no co:Nat) (xs:List Part),j<=J/\i = .int .i64 (J - j:Int)/\v5 = .slice ao no co/\Oo 47 w.heap.size wr (.slice ao no co) xs/\xs.length=j/\(∀ x∈xs,x.Windows.length<=20)/\Mw [b] w wr/\Rd W wr b (m+399 - 61*j)) (fun _ i _=>(intOf i).toNat)
  case atStart=>exact⟨0,_,_,_,[],Nat.zero_le _,by simp,rfl,HO.out,rfl,(fun x hx=>by cases hx),HMW.out,HRD.out⟩
  case round =>
   obtain⟨j,ao,no,co,xs,hj,rfl,rfl,hoo,hxl,hxw,hmw,hrd⟩:=hrel;have HMW2:=zh hmw;have HO2:=zh hoo;have HXL:=zh hxl;have HXW:=zh hxw;have hs1:=hmw.size;have hxl4:xs.length<=4:=by omega
   have HRD2:Hid (Rd W wr b ((m+339 - 61*j)+60)):=zh (hrd.le (by omega))
   clear hmw hoo hrd hxl hxw;by_cases hjt:j < J
   ·go_wp2_with (first
     | (go_at_call 85;refine(zD0 W _ b _ _ _ HRD2.out (by omega) (by omega) (by omega) (by omega)).mono ?_;rintro e w2 ⟨v2,ws,rfl,hw,hwl,hm,hr⟩;obtain⟨pw,cw,rfl,hcw⟩:=hw.form;have HM2:=zh (HMW2.out.tr hm);have HO3:=zh (HO2.out.ob.of (w':=w2) (fun k h1 h2=>hm.2.2 k h2 (by simp;omega)));have hs2:=hm.size;have HR2:=zh hr;have HW2:=zh hw.osb;clear hm hr hw)
     | (go_at_call 49;refine(zA3 W _ b (m+338 - 61*j) _ (HR2.out.le (by omega)) (zA5 (by omega) (by omega))).mono ?_;rintro e w3 ⟨k2,rfl,hk,hm,hr⟩;have hkb2:=hk.lt (by omega);have HM3:=zh (HM2.out.tr (Mw.ofMo hm));have HO4:=zh (HO3.out.of (w':=w3) (fun k h1 h2=>(Mw.ofMo hm).2.2 k (by omega) (by simp;omega)));have hs3:=(Mw.ofMo hm).size;have HR3:=zh hr;obtain⟨FW,hsw,how⟩:=(HW2.out.of (w':=w3) (fun k h1 h2=>(Mw.ofMo hm).2.2 k h2 (by simp;omega))).os;have HSW:=zh hsw;have HOW:=zh how;clear hk hm hr hsw how)
     | (at_builtin;refine zBa (α:=Part) rfl _ _ 23 rfl 47 Tryz.underlying23 zIc (v:=.slice ao no co) (ys:=[⟨ws,1+k2⟩]) (Fy:=FW) rfl (HO4.out.of (fun k _ h=>((zr w3).alloc _).block k (by omega))) (by omega) (by simp;omega) rfl rfl (Row.lit1 (cs:=[_,_]) ⟨_,rfl,HSW.out,zA5 (by show _<=1+k2;omega) (by show 1+k2<=_;omega)⟩) (by simp) (HOW.out.ext ((zr w3).alloc _)) (by omega) ?_;intro v5 w5 hO5 hg5;have hrow5:=HO4.out.own;have HG5:=zh ((HM3.out.tr (Mw.ofExt ((zr _).alloc _))).trF hg5 (fun x hx => .inr (hrow5 x (Option.mem_toList.1 hx)).1));have HR5:=zh ((HR3.out.ext ((zr _).alloc _)).mw hg5 (fun hm=>by have:=hrow5 _ (Option.mem_toList.1 hm);omega) (fun x hx=>by have:=hrow5 x (Option.mem_toList.1 hx);omega));have HO5:=zh hO5;obtain⟨p5,k5,q5,rfl⟩:=HO5.sh;clear hO5 hg5))
    go_roundw
    case rel=>exact⟨j+1,_,_,_,_,by omega,congrArg _ (by omega),rfl,HO5.out,by simp[HXL.out],(fun x hx=>by rcases List.mem_append.1 hx with hx|hx;exact HXW.out x hx;rw[List.mem_singleton] at hx;subst hx;exact hwl),HG5.out,HR5.out.le (by omega)⟩
    case measure=>simp[intOf];omega
   ·obtain rfl:j=J:=by omega
    go_wp2;go_meet
    exact⟨_,_,_,_,rfl,HO2.out,⟨by have:=HXL.out;omega,hxl4,HXW.out⟩,HMW2.out,HRD2.out.le (by omega)⟩
 case rest =>
  clear HMW HO HRD;obtain⟨ao,no,co,xs,rfl,hoo,⟨hx1,hx4,hxw⟩,hmw,hrd⟩:=hcut;have HMW:=zh hmw;have HO:=zh hoo;have HRD:=zh hrd;have HXW:=zh hxw;have hsc:=hmw.size;clear hmw hoo hrd hxw;go_upto_if 26 with (go_at_call 20;refine(zC8 W _ b _ _ HRD.out (zA5 (by omega) (by omega))).mono ?_;rintro e w2 ⟨⟨q,rfl⟩,hm,hr⟩;have hs2:=(Mw.ofMo hm).size;replace HMW:=zh (HMW.out.tr (Mw.ofMo hm));replace HO:=zh (HO.out.mo hm (by simp;omega));replace HRD:=zh hr;clear hm hr)
  cases q
  ·go_wp2;go_ret;exact⟨_,xs,rfl,HO.out.rsb,⟨by omega,HXW.out⟩,HMW.out,HRD.out.le (by omega)⟩
  ·go_upto_if 36 with (go_at_call 49;refine(zA3 W _ b _ _ HRD.out (zA5 (by omega) (by omega))).mono ?_;rintro e w3 ⟨k,rfl,hk,hm,hr⟩;have hkb:=hk.lt (by omega);have hs3:=(Mw.ofMo hm).size;replace HMW:=zh (HMW.out.tr (Mw.ofMo hm));replace HO:=zh (HO.out.mo hm (by simp;omega));replace HRD:=zh hr;clear hk hm hr)
   obtain⟨x,xs,rfl⟩:∃ x ys,xs=x::ys:=by
    cases xs with
    | nil=>simp at hx1
    | cons x ys=>exact⟨x,ys,rfl⟩
   have hxl6:xs.length+1<=4:=by simpa using hx4
   have HX0:=zh (HXW.out x (List.mem_cons_self ..));have HXS:=zh (fun y hy=>HXW.out y (List.mem_cons_of_mem _ hy))
   clear hx1 hx4;have hs4:=Nat.le_trans hsc (Nat.le_trans hs2 hs3);obtain rfl|rfl|rfl:k=0\/k=1\/k=2:=by omega
   ·clear hkb;go_wp2_with (go_at_call 49;refine(zA3 W _ b (m+2) _ ((HRD.out.ext ((zr _).alloc _)).le (by omega)) (zA5 (by omega) (by omega))).mono ?_;rintro e w4 ⟨k4,rfl,hk4,hm4,hr4⟩;obtain⟨z,hz1,hz2⟩:=zCn (zs:=[0,9]) hm4 HRD.out.lt hk4 rfl (by simp);have hkb4:=hk4.lt (by omega);obtain⟨hk41,hk42⟩:=hkb4;have hzb : -10000<=z/\z<=10000:=(by simp only[List.mem_cons,List.not_mem_nil,or_false] at hz2;omega);have HM4:=zh ((HMW.out.tr (Mw.ofExt ((zr _).alloc _))).tr (Mw.ofMo hm4));have HO4:=(HO.out.ext ((zr _).alloc _)).mo hm4 (by simp;omega);obtain⟨G,cs,F1,rfl,rfl,hc1,hc2,hG1,hG2,HE,HA,HF,HN,HB⟩:=HO4.head;obtain⟨v0,rfl,hsl,rx⟩:=HE.out;have HSL:=zh hsl;obtain⟨p0,q0,rfl,hq0⟩:=(show Rs w4 v0 x.Windows from⟨_,hsl⟩).form;have g0:w4.cell? ⟨G,0,none⟩=_:=HA.out 0 _ rfl;have g1:w4.cell? ⟨G,1,none⟩=_:=HA.out 1 _ rfl;have gf:=HF.out 1;have HR4:=zh hr4;clear hk4 hm4 hr4 HO4 hsl HE)
    go_ret;exact⟨_,⟨x.Windows,z⟩::xs,rfl,HB.out _ _ ⟨x.Windows,z⟩ F1 (fun j hj=>zA6 (by have:2<=j:=hj;omega)) (fun k h1 h2 h3=>zA8 h2) ⟨_,rfl,HSL.out.keep (fun k hk=>zA8 (HN.out k hk).2),zA5 (by show _<=z;omega) (by show z<=_;omega)⟩ (At.two ((zA6 (by omega)).trans g0) (zAu g1)) (fun k hk=>(HN.out k hk).1),⟨by simp;omega,fun y hy=>by rcases List.mem_cons.1 hy with rfl|hy;exact HX0.out;exact HXS.out y hy⟩,HM4.out.set (.inr hG1) _,(HR4.out.set (by show b≠G;omega) (by show _<=G;omega) _).le (by omega)⟩
   ·clear hkb;go_wp2_with (go_at_call 85;refine(zD0 W _ b (m+30) _ _ (HRD.out.le (by omega)) (by omega) (by omega) (by omega) (by omega)).mono ?_;rintro e w4 ⟨v4,ws,rfl,hw,hwl,hm4,hr4⟩;obtain⟨pw,cw,rfl,hcw⟩:=hw.form;have HM4:=zh (HMW.out.tr hm4);have HO4:=(HO.out.ob.of (w':=w4) (fun k h1 h2=>hm4.2.2 k h2 (by simp;omega)));have hown4:=HO4.own;obtain⟨FW,hsw,how⟩:=hw;have HSW:=zh hsw;have HOW:=zh how;obtain⟨G,cs,F1,rfl,rfl,hc1,hc2,hG1,hG2,HE,HA,HF,HN,HB⟩:=HO4.oo.head;obtain⟨v0,rfl,hsl,rx⟩:=HE.out;obtain⟨p0,q0,rfl,hq0⟩:=(show Rs w4 v0 x.Windows from⟨_,hsl⟩).form;have hG3:=(hown4 G rfl).2;have g0:w4.cell? ⟨G,0,none⟩=_:=HA.out 0 _ rfl;have g1:w4.cell? ⟨G,1,none⟩=_:=HA.out 1 _ rfl;have gf:=HF.out 0;have HR4:=zh hr4;clear hm4 hr4 HO4 hsl HE hsw how hown4)
    go_ret;exact⟨_,⟨ws,x.Cells⟩::xs,rfl,HB.out _ _ ⟨ws,x.Cells⟩ FW (fun j hj=>zA6 (by have:2<=j:=hj;omega)) (fun k h1 h2 h3=>zA8 h2) ⟨_,rfl,HSW.out.keep (fun k hk=>zA8 (by have:=(HOW.out.2 k hk).1;show k≠G;omega)),rx⟩ (At.two (zAu g0) ((zA6 (by omega)).trans g1)) (fun k hk=>by have:=(HOW.out.2 k hk).1;omega),⟨by simp;omega,fun y hy=>by rcases List.mem_cons.1 hy with rfl|hy;exact hwl;exact HXS.out y hy⟩,HM4.out.set (.inr hG1) _,(HR4.out.set (by show b≠G;omega) (by show _<=G;omega) _).le (by omega)⟩
   ·clear hkb;simp only[show((2:Int) == 0)=false from rfl]
    go_wp2_with fail
    go_loopw [5] (fun v5 wr => ∃ (ao:Option Addr) (no co:Nat) (ys:List Part),v5 = .slice ao no co/\Oo 47 w.heap.size wr (.slice ao no co) ys/\(ys.length<=6/\∀ y∈ys,y.Windows.length<=20)/\Mw [b] w wr/\Rd W wr b m) (fun v5 _=>6 - lenOf v5)
    case atStart =>
     have h:=HO.out;obtain⟨_,_,he,_⟩:=h.form;cases he;exact⟨_,_,_,_,rfl,h,⟨by simp;omega,HXW.out⟩,HMW.out,HRD.out.le (by omega)⟩
    case round =>
     obtain⟨a2,n2,c2,ys,rfl,hoo,⟨hyl,hyw⟩,hmw,hrd⟩:=hrel;obtain rfl:ys.length=n2:=by
      obtain⟨_,_,he,_⟩:=hoo.form;cases he;rfl
     clear HMW HO HRD;have HMW:=zh hmw;have HO:=zh hoo.ob;have HRD:=zh hrd;have HOO:=zh hoo;have HYW:=zh hyw;have hsr:=hmw.size;have hrow:=hoo.ob.own;clear hmw hoo hrd hyw;by_cases hlt:ys.length<=5
     ·go_wp2_with (at_builtin;refine zBa (α:=Part) rfl _ _ 23 rfl 47 Tryz.underlying23 zIc (v:=.slice a2 ys.length c2) (ys:=[⟨[],1⟩]) (Fy:=[]) rfl (HO.out.of (fun k _ h=>((zr wr).alloc _).block k (by omega))) (by omega) (by simp) rfl rfl (Row.lit1 (cs:=[_,_]) ⟨_,rfl,⟨none,0,rfl,Nat.le_refl _,Nat.zero_le _,.inl ⟨rfl,rfl⟩⟩,zA5 (by show _<=(1:Int);omega) (by show(1:Int)<=_;omega)⟩) (by simp) (Own.nil _ _) (by omega) ?_;intro v5 w5 hO5 hg5;have HG5:=zh ((HMW.out.tr (Mw.ofExt ((zr _).alloc _))).trF hg5 (fun x hx => .inr (hrow x (Option.mem_toList.1 hx)).1));have HR5:=zh ((HRD.out.ext ((zr _).alloc _)).mw hg5 (fun hm=>by have:=hrow _ (Option.mem_toList.1 hm);omega) (fun x hx=>by have:=hrow x (Option.mem_toList.1 hx);omega));have HO5:=zh hO5;obtain⟨p5,k5,q5,rfl⟩:=HO5.out.sh;clear hO5 hg5)
      go_roundw
      case rel=>exact⟨_,_,_,_,rfl,HO5.out,⟨by simp;omega,fun y hy=>by rcases List.mem_append.1 hy with hy|hy;exact HYW.out y hy;rw[List.mem_singleton] at hy;subst hy;simp⟩,HG5.out,HR5.out⟩
      case measure =>
       obtain⟨_,_,he,_⟩:=HO5.out.form;cases he;simp[lenOf];omega
     ·have hlt2:(5:Int) < ys.length:=by omega
      go_wp2;go_ret;exact⟨_,ys,rfl,HOO.out.rsb,⟨hyl,HYW.out⟩,HMW.out,HRD.out⟩
theorem zFo(w:World):Calls Tryz.prog 68 #[.agg #[.int .i64 5,.int .i64 2,.bool false],.int .i64 6] w fun e w'=>e = .returned (.bool true)/\Ext w w':=by
 have hi:zA4 6 5 6=true:=by decide
 go_enter Tryz.func68,Tryz.ntmps68;go_wp2_with (go_at_call 31;refine(zAc _ _ _ _).mono ?_;rintro e w' ⟨rfl,rfl⟩)
 go_ret;exact⟨rfl,(zr w).alloc _⟩
theorem zFn(p q:Nat)(w:World)(hp:w.cell? ⟨p,0,none⟩=some (.int .i64 6))(hq:w.cell? ⟨q,0,none⟩=some (.bool false))(hpl:p < w.heap.size)(hql:q < w.heap.size) :
  Calls Tryz.prog 67 #[.agg #[.int .i64 5,.int .i64 2,.bool false],.pointer (some ⟨p,0,none⟩),.pointer (some ⟨q,0,none⟩)] w fun e w'=>e = .returned (.bool true)/\Ext w w':=by
 have HQ:=zh hq;clear hq;go_enter Tryz.func67,Tryz.ntmps67;have HB:=zh ((zr w).alloc (.cells #[.int .i64 5,.int .i64 2,.bool false] 71));have b2:=(Bk.new w [.int .i64 5,.int .i64 2,.bool false] 71);go_wp2_with (go_at_call 68;refine(zFo _).mono ?_;rintro e w1 ⟨rfl,he⟩;have c2:=(b2.ext he).cell (j:=2) rfl;have cq:w1.cell? ⟨q,0,none⟩=some (.bool false):=((zDm (HB.out.tr he)).1 q 0 hql).trans HQ.out;have HE:=zh (HB.out.tr he);clear he)
 go_ret;exact⟨rfl,HE.out⟩
theorem zG3(v:Value)(w:World)(h:Rs (α:=Window) w v [⟨5,2,false⟩]) :
  Calls Tryz.prog 30 #[v,.int .i64 6,.bool false] w fun e w'=>e = .returned (.int .i64 0)/\Ext w w':=by
 have H:=zh h;obtain⟨a,c,rfl,hl⟩:=h.form;have hv:zE1 [⟨5,2,false⟩]=true:=by decide
 clear h;go_enter Tryz.func30,Tryz.ntmps30;go_upto_region 1 with (fail)
 refine zA2 (fun W=>Ext w W/\W.cell? ⟨w.heap.size,0,none⟩=some (.int .i64 6)/\W.cell? ⟨w.heap.size+1,0,none⟩=some (.bool false)/\w.heap.size+1 < W.heap.size) ⟨((zr w).alloc _).alloc _,((Bk.new w [.int .i64 6] 3).ext ((zr _).alloc _)).cell (j:=0) rfl,(Bk.new1 _ _ _ _).cell (j:=0) rfl,by simp⟩ ?_
 rintro W ⟨e0,c0,c1,hz⟩;have HE:=zh e0;have C0:=zh c0;have C1:=zh c1;clear e0 c0 c1
 go_wp2_with (first
  | (go_at_call 65;refine(zBj _ _ _ (H.out.ext HE.out)).mono ?_;rintro e w1 ⟨rfl,he⟩;have HE1:=zh he;have hs1:=he.sz;clear he)
  | (go_at_call 66;refine(zGh 67 #[.pointer (some ⟨w.heap.size,0,none⟩),.pointer (some ⟨w.heap.size+1,0,none⟩)] (fun _=>true) _ _ _ (H.out.ext (HE.out.tr HE1.out)) (zC5 Tryz.func67 (by kernel_rfl) (by kernel_rfl)) ?_).mono ?_))
 ·intro w3 v3 x3 he hx hv3;rw[List.mem_singleton] at hx;subst hx;obtain⟨rfl,_,_⟩:=hv3.openWindow;have hb:=(zDm (HE1.out.tr he)).1;exact zFn _ _ w3 ((hb _ 0 (by omega)).trans C0.out) ((hb _ 0 (by omega)).trans C1.out) (by have:=he.sz;omega) (by have:=he.sz;omega)
 ·rintro e w3 ⟨rfl,he3⟩;have hi:zCl (fun _=>true) [(⟨5,2,false⟩:Window)]=0:=rfl
  have HE3:=zh he3;clear he3;simp only[hi];go_wp2;go_ret;exact⟨rfl,(HE.out.tr HE1.out).tr HE3.out⟩
theorem law_alive(w:World):Calls Tryz.prog 9 #[] w fun e w'=>e = .returned (.bool true)/\Ext w w':=by
 have hr:Rs (α:=Window) ((w.alloc (.cells #[.int .i64 5,.int .i64 2,.bool false] 71))) (.slice (some ⟨w.heap.size,0,none⟩) 1 1) [⟨5,2,false⟩] :=
  ⟨[w.heap.size],_,1,rfl,by simp,by unfold maxLen;omega,.inr ⟨by simp,w.heap.size,0,[],rfl,rfl,Row.lit1 (cs:=[.int .i64 5,.int .i64 2,.bool false]) ⟨rfl,⟨by show _<=(5:Int);omega,by show(5:Int)<=_;omega⟩,⟨by show _<=(2:Int);omega,by show(2:Int)<=_;omega⟩,rfl⟩⟩⟩
 have HR:=zh hr;clear hr;go_enter Tryz.func9,Tryz.ntmps9;go_wp2_with (go_at_call 30;refine(zG3 _ _ HR.out).mono ?_;rintro e w1 ⟨rfl,he⟩;have HE:=zh (((zr w).alloc _).tr he);clear he)
 go_ret;exact⟨rfl,HE.out⟩
end Sk
