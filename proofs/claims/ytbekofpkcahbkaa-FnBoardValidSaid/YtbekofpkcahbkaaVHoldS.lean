/- Contracts of functions of the given program. -/
import Derived.Test.YtbekofpkcahbkaaTickT
namespace Sk
open Go Go.Proofs Go.RowKit
set_option maxHeartbeats 2000000
set_option maxRecDepth 100000
set_option linter.unusedVariables false
set_option linter.unusedSimpArgs false
theorem Os.setBox{L:Nat}{w:World}{v:Value}{xs:List Int}(h:Os L w v xs){C:Nat}{s:Value}{T:TypeId}(hk:Bk w C [s] T)(hs:∀ n,s ≠ .int .i64 n)(u:Value):Os L (w.setCell ⟨C,0,none⟩ u) v xs:=by
 obtain⟨F,⟨a,c,rfl,hl,hc,hx⟩,ho⟩:=h;rcases hx with ⟨rfl,rfl⟩ | ⟨hne,b,o,F',rfl,rfl,hr⟩
 ·exact⟨[],⟨a,c,rfl,hl,hc,.inl ⟨rfl,rfl⟩⟩,Own.nil _ _⟩
 ·have hF:∀ (ys:List Int) (o:Nat) (F:List Nat),Row w b o ys F->F = []:=by
   intro ys
   induction ys with
   | nil=>intro o F h;exact h
   | cons y ys ih =>
    intro o F h;obtain⟨cs,F1,F2,⟨_,_,rfl⟩,_,rfl,h2⟩:=h;rw[ih _ _ h2]
  have hF':=hF _ _ _ hr;subst hF';have hb:C≠b:=fun e=>by
   obtain⟨cs,F1,x,_,⟨rfl,_,_⟩,hat,_⟩:=hr.get 0 (List.length_pos_iff.2 hne);have h1:=hat 0 _ rfl;rw[<- e] at h1;simp only[Nat.zero_mul,Nat.add_zero] at h1;unfold Bk at hk;simp only[World.cell?,hk] at h1;cases o with
   | zero=>exact hs _ (by simpa using h1)
   | succ o=>simp at h1
  exact⟨[b],Sl.set ⟨some ⟨b,o,none⟩,c,rfl,hl,hc,.inr ⟨hne,b,o,[],rfl,rfl,hr⟩⟩ (by simpa using hb) u,ho.set _ _⟩
theorem zGb(v:Value)(x:Hold)(k s u:Int)(w:World)(h:Rv w v x)(hv:zDt x k s=true)(hu:0<=u/\u<=255) :
  Calls Try.prog 75 #[v,.int .i64 k,.int .i64 s,.int .i64 u] w fun e w' => ∃ v',e = .returned (.tuple #[v',.int .i64 (zBg x k s u).2])/\Ov w.heap.size w' v' (zBg x k s u).1/\Ext w w':=by
 obtain⟨hz,hl,hx⟩:=zCm.1 hv;have hs4:=zC9 hz;have hlen:x.Lst.length<=4:=by omega
 have H:=zh h;obtain⟨a0,c0,rfl,hs,hl0⟩:=h.openHold;clear h hs hx hl;have HV:=zh hv;have htot:GT.tot x<=1048576:=by show GT.tot x.Lst<=_;rw[zGh];omega
 have hin:Hid (zA5 u 0 255=true):=zh (zA4.2 hu);have hru:rng u:=⟨by omega,by omega⟩
 go_enter Try.func75,Try.ntmps75;go_upto_region 1 with (fail)
 refine zA2 (fun W=>Ext w W/\Bk W w.heap.size [.slice a0 x.Lst.length c0] 71/\Bk W (w.heap.size+1) [.slice none 0 0] 71) ⟨((zr _).alloc _).alloc _,(Bk.new _ _ _).ext ((zr _).alloc _),Bk.new1 _ _ _ _⟩ ?_
 rintro W0 ⟨e1,kA,kB⟩;have d0:=kA.cell (j:=0) rfl;have ltA:=kA.lt;have E0:=zh e1;have KA:=zh kA;have KB:=zh kB;clear e1 kA kB;go_upto_region 2 with (go_at_call 88;refine(zDr _ x _ (H.out.ext E0.out) htot).mono ?_;rintro e w1 ⟨v1,rfl,ho,he⟩;obtain⟨a1,c1,rfl,hr1,hl1⟩:=ho.rv.openHold;have HO1:=zh ho;have HE1:=zh he;have kA1:=KA.out.ext he;have f0:=kA1.cell (j:=0) rfl;have ff:=kA1.fz;have ltA1:=kA1.lt;have KA1:=zh kA1;clear ho he kA1)
 have KP:=zh (KA1.out.set 0 (.slice a1 x.Lst.length c1));have KR:=zh ((KB.out.ext HE1.out).set_ne (p:=⟨w.heap.size,0,none⟩) (by show w.heap.size+1≠w.heap.size;omega) (.slice a1 x.Lst.length c1))
 have EW:=zh ((E0.out.tr HE1.out).set (p:=⟨w.heap.size,0,none⟩) (Nat.le_refl _) (.slice a1 x.Lst.length c1));have HRv:Hid (Rv (w1.setCell ⟨w.heap.size,0,none⟩ (.slice a1 x.Lst.length c1)) (.agg #[.slice a1 x.Lst.length c1]) x):=zh (by
  obtain⟨cs,F,hcs,he,ho⟩:=HO1.out;exact⟨cs,F,hcs,GT.keep he (fun z hz=>zA3 (fun e=>by have:=(ho.2 z hz).1;have e2:z=w.heap.size:=e;omega))⟩)
 refine zA2 (fun W=>Ext w W/\Bk W w.heap.size [.slice a1 x.Lst.length c1] 71/\Bk W (w.heap.size+1) [.slice none 0 0] 71/\Rv W (.agg #[.slice a1 x.Lst.length c1]) x) ⟨EW.out,KP.out,KR.out,HRv.out⟩ ?_
 rintro W ⟨e2,kP,kR,rv⟩;clear KA1 KP KR EW HRv HO1 HE1 f0 ff ltA1 d0 hr1;obtain⟨a1',c1',e1',hsl,_⟩:=rv.openHold;obtain⟨rfl,rfl⟩:a1=a1'/\c1=c1':=by
  have:=zD9 e1'
  simp at this;exact⟨this.1,this.2⟩
 clear e1';have p0:=kP.cell (j:=0) rfl;have r0:=kR.cell (j:=0) rfl;have rf:=kR.fz;have E:=zh e2;have KP:=zh kP;have KR:=zh kR;have RV:=zh rv;have ltR:=kR.lt;have ltP:=kP.lt;have hsW:w.heap.size<=W.heap.size:=e2.sz;clear e2 kP kR rv E0 KA KB ltA;have VA:=zh (show True from trivial)
 by_cases hk1:k=1
 ·have hE:=zh (M.send1 (x:=x) (s:=s) (m:=u) hk1);subst hk1;go_upto_region 5 with (first
   | (go_at_call 30;refine(zBb _ x 1 s _ RV.out).mono ?_;rintro e w2 ⟨rfl,he⟩;rw[HV.out];have E2:=zh (E.out.tr he);have KR2:=zh (KR.out.ext he);clear he)
   | (go_at_call 31;refine(zAa _ _ _ _).mono ?_;rintro e w3 ⟨rfl,rfl⟩;rw[hin.out]))
  have r02:=KR2.out.cell (j:=0) rfl;have rf2:=KR2.out.fz;have ltR2:=KR2.out.lt;obtain⟨V,hV⟩:∃ V:Value,V = .slice (some ⟨w2.heap.size,0,none⟩) 1 1:=⟨_,rfl⟩;have HO:Hid (Os w.heap.size ((w2.setCell ⟨w.heap.size+1,0,none⟩ V).alloc (.cells #[.int .i64 u] 3)) V [u]):=zh (by
   have h:=Os.lit1 (w2.setCell ⟨w.heap.size+1,0,none⟩ V) u hru;rw[show(w2.setCell ⟨w.heap.size+1,0,none⟩ V).heap.size=w2.heap.size by simp,<- hV] at h
   exact h.mono E2.out.sz)
  have kz:=((KR2.out.set 0 V).alc (.cells #[.int .i64 u] 3)).cell (j:=0) rfl;have HX:Hid (Ext w ((w2.setCell ⟨w.heap.size+1,0,none⟩ V).alloc (.cells #[.int .i64 u] 3))):=zh ((E2.out.set (by show w.heap.size<=w.heap.size+1;omega) _).alloc _)
  subst hV;go_wp2;refine bodyPost_ret (v:=.tuple #[.agg #[.slice (some ⟨w2.heap.size,0,none⟩) 1 1],.int .i64 0]) (by simp[results,Try.results75,go_sem,kz]) rfl ⟨_,by rw[hE.out],by rw[hE.out];exact Ov.hold HO.out,HX.out⟩
 have hk1':(k == 1)=false:=by simpa using hk1
 have HK1:=zh hk1;clear hk1;go_upto_region 6 with (first
   | (go_at_call 30;refine(zBb _ x k s _ RV.out).mono ?_;rintro e w2 ⟨rfl,he⟩;rw[HV.out];have E2:=zh (E.out.tr he);have KR2:=zh (KR.out.ext he);have KP2:=zh (KP.out.ext he);have HS2:=zh (hsl.out.ext he);clear he)
   | (go_at_call 31;refine(zAa _ _ _ _).mono ?_;rintro e w3 ⟨rfl,rfl⟩;rw[hin.out]))
 have p02:=KP2.out.cell (j:=0) rfl;have ltP2:=KP2.out.lt;have ltR2:=KR2.out.lt;go_upto_region 7 with (at_builtin;refine zC2 (α:=Int) (L:=w2.heap.size) (xs:=[]) (ys:=x.Lst) rfl _ _ 61 rfl 3 Try.underlying61 zEs (v:=.slice (some ⟨w2.heap.size,0,none⟩) 0 0) rfl (Oo.lit0 3 w2).oa rfl (HS2.out.ext ((zr _).alloc _)) (by simp;omega) (by simp) ?_;intro v6 w6 hO6 hg6;have O6:=zh hO6;have E6:=zh (Ext.grown ((zr w2).alloc _) hg6 (fun z hz=>by simp only[Value.ownBlock,Option.some.injEq] at hz;omega));obtain⟨a6,n6,c6,rfl⟩:=(Oo.ofA hO6).sh;clear hO6 hg6)
 have hO6:=O6.out;rw[List.nil_append] at hO6;obtain⟨_,_,e6,hl6⟩:=(Oo.ofA hO6).form;obtain rfl:n6=x.Lst.length:=by injection e6
 clear e6;refine zA2 (fun W6=>Ext w6 W6/\Bk W6 w6.heap.size [.slice a6 x.Lst.length c6] 71) ⟨(zr _).alloc _,Bk.new _ _ _⟩ ?_
 rintro W6 ⟨e7,kC⟩;have O7:=zh (hO6.ext e7);have E7:=zh ((E2.out.tr E6.out).tr e7);have KP7:=KP2.out.ext (E6.out.tr e7);have KR7:=zh (KR2.out.ext (E6.out.tr e7));have p07:=KP7.cell (j:=0) rfl;have c07:=kC.cell (j:=0) rfl;have cf7:=kC.fz;have KC:=zh kC;have ltC:=kC.lt;have hsz6:=E6.out.sz;have own6:=(Oo.ofA hO6).lt;have own7:=(Oo.ofA hO6).own;have OWN:=zh (And.intro own6 own7);have r07:=KR7.out.cell (j:=0) rfl;have rf7:=KR7.out.fz;have ltR7:=KR7.out.lt;have hsz7:=e7.sz
 generalize hC:w6.heap.size=C at *
 clear KP7 e7 kC O6 E6 hO6 own6 own7 p02 KP KR KP2 HS2;by_cases hls:(x.Lst.length:Int) < s
 ·have hE:=zh (M.send2 (m:=u) HK1.out hls);have hls':decide ((x.Lst.length:Int) < s)=true:=decide_eq_true hls;clear hls;go_wp2_with (at_builtin;go_loud (refine zC2 (α:=Int) (L:=w2.heap.size) (xs:=x.Lst) (ys:=[u]) rfl _ _ 61 rfl 3 Try.underlying61 zEs (v:=.slice a6 x.Lst.length c6) rfl (O7.out.ext ((zr _).alloc _)) rfl (Os.lit1 W6 u hru).rs (by simp;omega) (by simp;omega) ?_;intro v9 w9 hO9 hg9;have O9:=zh (Oo.ofA hO9);have E9:=zh (Ext.grown (E7.out.alloc _) hg9 (fun z hz=>by have:=OWN.out.2 z hz;omega));have G9:=zh hg9;obtain⟨a9,n9,c9,rfl⟩:=(Oo.ofA hO9).sh;have KC9:Hid (Bk w9 C [.slice a6 x.Lst.length c6] 71):=zh (by have:=hg9.block C (by simp;omega) (fun e=>by have:=OWN.out.1 C e.symm;omega);unfold Bk;rw[this];exact(KC.out.alc _));have KR9:Hid (Bk w9 (w.heap.size+1) [.slice none 0 0] 71):=zh (by have:=hg9.block (w.heap.size+1) (by simp;omega) (fun e=>by have:=OWN.out.2 (w.heap.size+1) e.symm;omega);unfold Bk;rw[this];exact(KR7.out.alc _));have cf9:=KC9.out.fz;have c09:=KC9.out.cell (j:=0) rfl;have r09:=KR9.out.cell (j:=0) rfl;have rf9:=KR9.out.fz;clear hO9 hg9))
  have hCR:w.heap.size+1≠C:=by omega
  have kz:=((KR9.out.set_ne (p:=⟨C,0,none⟩) hCR (.slice a9 n9 c9)).set 0 (.slice a9 n9 c9)).cell (j:=0) rfl;have HO2:=zh (((O9.out.os.setBox KC9.out (fun n h=>by cases h) (.slice a9 n9 c9)).setLow (p:=⟨w.heap.size+1,0,none⟩) (by show w.heap.size+1 < w2.heap.size;omega) (.slice a9 n9 c9)).mono E2.out.sz)
  have HX:=zh ((E9.out.set (p:=⟨C,0,none⟩) (by show w.heap.size<=C;omega) (.slice a9 n9 c9)).set (p:=⟨w.heap.size+1,0,none⟩) (by show w.heap.size<=w.heap.size+1;omega) (.slice a9 n9 c9))
  refine bodyPost_ret (v:=.tuple #[.agg #[.slice a9 n9 c9],.int .i64 0]) (by simp[results,Try.results75,go_sem,kz]) rfl ⟨_,by rw[hE.out],by rw[hE.out];exact Ov.hold HO2.out,HX.out⟩
 ·have hE:=zh (M.send3 (m:=u) HK1.out hls);have hls':decide ((x.Lst.length:Int) < s)=false:=decide_eq_false hls;clear hls;have kz:=(KR7.out.set 0 (.slice a6 x.Lst.length c6)).cell (j:=0) rfl;have HO2:=zh ((((Oo.ofA O7.out).set (p:=⟨w.heap.size+1,0,none⟩) (by show w.heap.size+1 < w2.heap.size;omega) (.slice a6 x.Lst.length c6)).os).mono (E2.out.sz))
  have HX:=zh (E7.out.set (p:=⟨w.heap.size+1,0,none⟩) (by show w.heap.size<=w.heap.size+1;omega) (.slice a6 x.Lst.length c6))
  by_cases hk3:k=3
  ·have hk3':(k == 3)=true:=by simpa using hk3
   have HB:=zh (show zI4 (k == 3)=1 by rw[hk3'];rfl)
   clear hk3;go_wp2;refine bodyPost_ret (v:=.tuple #[.agg #[.slice a6 x.Lst.length c6],.int .i64 1]) (by simp[results,Try.results75,go_sem,kz]) rfl ⟨_,by rw[hE.out,HB.out],by rw[hE.out];exact Ov.hold HO2.out,HX.out⟩
  ·have hk3':(k == 3)=false:=by simpa using hk3
   have HB:=zh (show zI4 (k == 3)=0 by rw[hk3'];rfl)
   clear hk3;go_wp2;refine bodyPost_ret (v:=.tuple #[.agg #[.slice a6 x.Lst.length c6],.int .i64 0]) (by simp[results,Try.results75,go_sem,kz]) rfl ⟨_,by rw[hE.out,HB.out],by rw[hE.out];exact Ov.hold HO2.out,HX.out⟩
theorem zGc(v:Value)(x:Hold)(k s:Int)(w:World)(h:Rv w v x)(hv:zDt x k s=true) :
  Calls Try.prog 76 #[v,.int .i64 k,.int .i64 s] w fun e w' => ∃ v',e = .returned (.tuple #[v',.int .i64 (zB9 x k).2])/\Ov w.heap.size w' v' (zB9 x k).1/\Ext w w':=by
 obtain⟨hz,hl,hx⟩:=zCm.1 hv;have hs4:=zC9 hz;have hlen:x.Lst.length<=4:=by omega
 have H:=zh h;obtain⟨a0,c0,rfl,hs,hl0⟩:=h.openHold;clear h hs hx hl;have HV:=zh hv;have htot:GT.tot x<=1048576:=by show GT.tot x.Lst<=_;rw[zGh];omega
 go_enter Try.func76,Try.ntmps76;go_upto_region 1 with (fail)
 refine zA2 (fun W=>Ext w W/\Bk W w.heap.size [.slice a0 x.Lst.length c0] 71/\Bk W (w.heap.size+1) [.slice none 0 0] 71) ⟨((zr _).alloc _).alloc _,(Bk.new _ _ _).ext ((zr _).alloc _),Bk.new1 _ _ _ _⟩ ?_
 rintro W0 ⟨e1,kA,kB⟩;have d0:=kA.cell (j:=0) rfl;have ltA:=kA.lt;have E0:=zh e1;have KA:=zh kA;have KB:=zh kB;clear e1 kA kB;go_upto_region 2 with (go_at_call 88;refine(zDr _ x _ (H.out.ext E0.out) htot).mono ?_;rintro e w1 ⟨v1,rfl,ho,he⟩;obtain⟨a1,c1,rfl,hr1,hl1⟩:=ho.rv.openHold;have HO1:=zh ho;have HE1:=zh he;have kA1:=KA.out.ext he;have f0:=kA1.cell (j:=0) rfl;have ff:=kA1.fz;have ltA1:=kA1.lt;have KA1:=zh kA1;clear ho he kA1)
 have KP:=zh (KA1.out.set 0 (.slice a1 x.Lst.length c1));have KR:=zh ((KB.out.ext HE1.out).set_ne (p:=⟨w.heap.size,0,none⟩) (by show w.heap.size+1≠w.heap.size;omega) (.slice a1 x.Lst.length c1))
 have EW:=zh ((E0.out.tr HE1.out).set (p:=⟨w.heap.size,0,none⟩) (Nat.le_refl _) (.slice a1 x.Lst.length c1));have HRv:Hid (Rv (w1.setCell ⟨w.heap.size,0,none⟩ (.slice a1 x.Lst.length c1)) (.agg #[.slice a1 x.Lst.length c1]) x):=zh (by
  obtain⟨cs,F,hcs,he,ho⟩:=HO1.out;exact⟨cs,F,hcs,GT.keep he (fun z hz=>zA3 (fun e=>by have:=(ho.2 z hz).1;have e2:z=w.heap.size:=e;omega))⟩)
 refine zA2 (fun W=>Ext w W/\Bk W w.heap.size [.slice a1 x.Lst.length c1] 71/\Bk W (w.heap.size+1) [.slice none 0 0] 71/\Rv W (.agg #[.slice a1 x.Lst.length c1]) x) ⟨EW.out,KP.out,KR.out,HRv.out⟩ ?_
 rintro W ⟨e2,kP,kR,rv⟩;clear KA1 KP KR EW HRv HO1 HE1 f0 ff ltA1 d0 hr1;obtain⟨a1',c1',e1',hsl,_⟩:=rv.openHold;obtain⟨rfl,rfl⟩:a1=a1'/\c1=c1':=by
  have:=zD9 e1'
  simp at this;exact⟨this.1,this.2⟩
 clear e1';have p0:=kP.cell (j:=0) rfl;have r0:=kR.cell (j:=0) rfl;have rf:=kR.fz;have E:=zh e2;have KP:=zh kP;have KR:=zh kR;have RV:=zh rv;have ltR:=kR.lt;have ltP:=kP.lt;have hsW:w.heap.size<=W.heap.size:=e2.sz;clear e2 kP kR rv E0 KA KB ltA;go_upto_region 4 with (go_at_call 30;refine(zBb _ x k s _ RV.out).mono ?_;rintro e w2 ⟨rfl,he⟩;rw[HV.out];have E2:=zh (E.out.tr he);have KR2:=zh (KR.out.ext he);have KP2:=zh (KP.out.ext he);have HS2:=zh (hsl.out.ext he);clear he)
 have p02:=KP2.out.cell (j:=0) rfl;have ltP2:=KP2.out.lt;have ltR2:=KR2.out.lt;go_upto_region 5 with (at_builtin;refine zC2 (α:=Int) (L:=w2.heap.size) (xs:=[]) (ys:=x.Lst) rfl _ _ 61 rfl 3 Try.underlying61 zEs (v:=.slice (some ⟨w2.heap.size,0,none⟩) 0 0) rfl (Oo.lit0 3 w2).oa rfl (HS2.out.ext ((zr _).alloc _)) (by simp;omega) (by simp) ?_;intro v6 w6 hO6 hg6;have O6:=zh hO6;have E6:=zh (Ext.grown ((zr w2).alloc _) hg6 (fun z hz=>by simp only[Value.ownBlock,Option.some.injEq] at hz;omega));obtain⟨a6,n6,c6,rfl⟩:=(Oo.ofA hO6).sh;clear hO6 hg6)
 have hO6:=O6.out;rw[List.nil_append] at hO6;obtain⟨_,_,e6,hl6⟩:=(Oo.ofA hO6).form;obtain rfl:n6=x.Lst.length:=by injection e6
 clear e6;refine zA2 (fun W6=>Ext w6 W6/\Bk W6 w6.heap.size [.slice a6 x.Lst.length c6] 71) ⟨(zr _).alloc _,Bk.new _ _ _⟩ ?_
 rintro W6 ⟨e7,kC⟩;have O7:=zh (hO6.ext e7);have E7:=zh ((E2.out.tr E6.out).tr e7);have KP7:=KP2.out.ext (E6.out.tr e7);have KR7:=zh (KR2.out.ext (E6.out.tr e7));have HS7:=zh (HS2.out.ext (E6.out.tr e7));have p07:=KP7.cell (j:=0) rfl;have c07:=kC.cell (j:=0) rfl;have cf7:=kC.fz;have KC:=zh kC;have ltC:=kC.lt;have hsz6:=E6.out.sz;have r07:=KR7.out.cell (j:=0) rfl;have rf7:=KR7.out.fz;have ltR7:=KR7.out.lt;have hsz7:=e7.sz;have hCw:w.heap.size+1 < w6.heap.size:=by omega
 generalize hC:w6.heap.size=C at *
 clear e7 kC O6 E6 hO6 p02 KP KR KP2 HS2;replace KP7:=zh KP7;obtain⟨l⟩:=x;simp only at *;cases l with
 | nil =>
  have hE:=zh (M.take0 (x:=⟨[]⟩) (k:=k) rfl);have kz:=(KR7.out.set 0 (.slice a6 0 c6)).cell (j:=0) rfl;have HO2:=zh ((((Oo.ofA O7.out).set (p:=⟨w.heap.size+1,0,none⟩) (by show w.heap.size+1 < w2.heap.size;omega) (.slice a6 0 c6)).os).mono (E2.out.sz))
  have HX:=zh (E7.out.set (p:=⟨w.heap.size+1,0,none⟩) (by show w.heap.size<=w.heap.size+1;omega) (.slice a6 0 c6))
  simp only[List.length_nil] at *;go_wp2;refine bodyPost_ret (v:=.tuple #[.agg #[.slice a6 0 c6],.int .i64 (-1)]) (by simp[results,Try.results76,go_sem,kz]) rfl ⟨_,by rw[hE.out],by rw[hE.out];exact Ov.hold HO2.out,HX.out⟩
 | cons m rest =>
  rw[List.length_cons] at *;have hne:((rest.length:Int)+1 == 0)=false:=beq_eq_false_iff_ne.2 (by omega)
  obtain⟨b,o,m',rfl,hb,hm,hc,hr⟩:=HS7.out.atInt 0 (by simp)
  obtain rfl:m=m':=by have:=hm.out;simpa using this
  rw[Nat.add_zero] at hc;by_cases hk1:k=1
  ·have hE:=zh (M.take1 (x:=⟨m::rest⟩) rfl hk1);subst hk1;go_upto_region 9 with (fail)
   refine zA2 (fun W=>Ext w W/\Bk W C [.slice a6 (rest.length+1) c6] 71/\Bk W w.heap.size [.slice (some ⟨b,o,none⟩) (rest.length+1) c1] 71/\Bk W (w.heap.size+1) [.slice none 0 0] 71/\W.cell? ⟨b,o,none⟩=some (.int .i64 m)/\Os w2.heap.size W (.slice a6 (rest.length+1) c6) (m::rest)) ⟨E7.out,KC.out,KP7.out,KR7.out,hc,(Oo.ofA O7.out).os⟩ ?_
   rintro W9 ⟨x1,x2,x3,x4,x5,x6⟩;have y1:=x2.cell (j:=0) rfl;have y2:=x3.cell (j:=0) rfl;have y3:=x4.cell (j:=0) rfl;have y4:=x4.fz;have hbR:b≠w.heap.size+1:=fun e=>by
    have h1:=x5;rw[e] at h1;have h2:=x4;unfold Bk at h2;simp only[World.cell?,h2] at h1;cases o with
    | zero=>simp at h1
    | succ o=>simp at h1
   have hCR:C≠w.heap.size+1:=by omega
   have hPR:w.heap.size≠w.heap.size+1:=by omega
   have KZ:=zh ((x4.set 0 (.slice a6 (rest.length+1) c6)));have HO2:=zh (((x6.setLow (p:=⟨w.heap.size+1,0,none⟩) (by show w.heap.size+1 < w2.heap.size;omega) (.slice a6 (rest.length+1) c6))).mono (E2.out.sz))
   have HX:=zh (x1.set (p:=⟨w.heap.size+1,0,none⟩) (by show w.heap.size<=w.heap.size+1;omega) (.slice a6 (rest.length+1) c6))
   have Y5:=zh x5;clear x1 x2 x3 x4 x6 KC KP7 KR7 p07 c07 cf7 r07 rf7
   go_region_held3 (fun u=>u.cell? ⟨C,0,none⟩=some (.slice a6 (rest.length+1) c6)/\u.cell? ⟨w.heap.size,0,none⟩=some (.slice (some ⟨b,o,none⟩) (rest.length+1) c1)/\u.cell? ⟨b,o,none⟩=some (.int .i64 m))
    (first|exact⟨y1,y2,Y5.out⟩|exact⟨(zB5 hCR).trans y1,(zB5 hPR).trans y2,(zB5 hbR).trans Y5.out⟩|go_keep) (fail)
   go_wp2;have kz:=(KZ.out.ext (zr _).drew).cell (j:=0) rfl;refine bodyPost_ret (v:=.tuple #[.agg #[.slice a6 (rest.length+1) c6],.int .i64 m]) (by simp[results,Try.results76,go_sem,kz]) rfl ⟨_,by rw[hE.out],by rw[hE.out];exact Ov.hold (HO2.out.ext (zr _).drew),HX.out.tr (zr _).drew⟩
  ·have hE:=zh (M.take2 (x:=⟨m::rest⟩) rfl hk1);have hk1':(k != 1)=true:=by simpa using hk1
   have HT:=zh HS7.out.tailI;have ltP7:=KP7.out.lt;clear hk1;by_cases hco:c1=1
   ·have hr0:rest.length=0:=by
     obtain⟨_,_,_,e,h1,_⟩:=HS7.out;cases e;simp at h1;omega
    obtain rfl:rest = []:=List.length_eq_zero_iff.1 hr0;have HN:Hid (Rs W6 (.slice (some ⟨b,o,none⟩) 0 0) ([]:List Int)):=zh ⟨[],_,0,rfl,Nat.le_refl _,Nat.zero_le _,.inl ⟨rfl,rfl⟩⟩;subst hco;simp only[List.length_nil,Nat.zero_add] at *;go_upto_region 9 with (at_builtin;go_loud (refine zC2 (α:=Int) (L:=W6.heap.size) (xs:=[]) (ys:=([]:List Int)) rfl _ _ 61 rfl 3 Try.underlying61 zEs (v:=.slice (some ⟨W6.heap.size,0,none⟩) 0 0) rfl (Oo.lit0 3 W6).oa rfl (HN.out.ext ((zr _).alloc _)) (by simp) (by simp) ?_;intro v9 w9 hO9 hg9;have E09:=Ext.grown ((zr W6).alloc _) hg9 (fun z hz=>by simp only[Value.ownBlock,Option.some.injEq] at hz;omega);have E9:=zh (E7.out.tr E09);have O90:=zh (Oo.ofA hO9);have KC90:=zh (KC.out.ext E09);have KP90:=zh (KP7.out.ext E09);have KR90:=zh (KR7.out.ext E09);have hc90:=zh ((zA0 E09 hb).trans hc);have cf9:=KC90.out.fz;have c09:=KC90.out.cell (j:=0) rfl;obtain⟨a9,n9,c9,rfl⟩:=(Oo.ofA hO9).sh;clear hO9 hg9 E09))
    have hO9:=O90.out;rw[List.nil_append] at hO9;have hbC:b≠C:=fun e=>by
     have h1:=hc;rw[e] at h1;have h2:=KC.out;unfold Bk at h2;simp only[World.cell?,h2] at h1;cases o with
     | zero=>simp at h1
     | succ o=>simp at h1
    have hCR0:C≠w.heap.size+1:=by omega
    have hCP0:C≠w.heap.size:=by omega
    have KC9:=zh (KC90.out.set 0 (.slice a9 n9 c9));have KP9:=zh (KP90.out.set_ne (p:=⟨C,0,none⟩) hCP0.symm (.slice a9 n9 c9));have KR9:=zh (KR90.out.set_ne (p:=⟨C,0,none⟩) hCR0.symm (.slice a9 n9 c9));have hc9:=zh ((zB5 (j:=0) (u:=.slice a9 n9 c9) hbC).trans hc90.out);have O9:Hid (Os w2.heap.size _ _ _):=zh (((hO9.os.mono (show w2.heap.size<=W6.heap.size by omega))).setBox KC90.out (fun n h=>by cases h) (.slice a9 n9 c9))
    replace E9:=zh (E9.out.set (p:=⟨C,0,none⟩) (by show w.heap.size<=C;omega) (.slice a9 n9 c9))
    clear KC90 KP90 KR90 hc90 hO9 O90 KC KP7 KR7 p07 c07 cf7 r07 rf7 c09 cf9;refine zA2 (fun W=>Ext w W/\Bk W C [.slice a9 n9 c9] 71/\Bk W w.heap.size [.slice (some ⟨b,o,none⟩) 1 1] 71/\Bk W (w.heap.size+1) [.slice none 0 0] 71/\W.cell? ⟨b,o,none⟩=some (.int .i64 m)/\Os w2.heap.size W (.slice a9 n9 c9) []) ⟨E9.out,KC9.out,KP9.out,KR9.out,hc9.out,O9.out⟩ ?_
    rintro W9 ⟨x1,x2,x3,x4,x5,x6⟩;have y1:=x2.cell (j:=0) rfl;have y2:=x3.cell (j:=0) rfl;have y3:=x4.cell (j:=0) rfl;have y4:=x4.fz;have hbR:b≠w.heap.size+1:=fun e=>by
     have h1:=x5;rw[e] at h1;have h2:=x4;unfold Bk at h2;simp only[World.cell?,h2] at h1;cases o with
     | zero=>simp at h1
     | succ o=>simp at h1
    have hCR:C≠w.heap.size+1:=by omega
    have hPR:w.heap.size≠w.heap.size+1:=by omega
    have KZ:=zh ((x4.set 0 (.slice a9 n9 c9)));have HO2:=zh (((x6.setLow (p:=⟨w.heap.size+1,0,none⟩) (by show w.heap.size+1 < w2.heap.size;omega) (.slice a9 n9 c9))).mono (E2.out.sz))
    have HX:=zh (x1.set (p:=⟨w.heap.size+1,0,none⟩) (by show w.heap.size<=w.heap.size+1;omega) (.slice a9 n9 c9))
    have Y5:=zh x5;clear x1 x2 x3 x4 x6
    go_region_held3 (fun u=>u.cell? ⟨C,0,none⟩=some (.slice a9 n9 c9)/\u.cell? ⟨w.heap.size,0,none⟩=some (.slice (some ⟨b,o,none⟩) 1 1)/\u.cell? ⟨b,o,none⟩=some (.int .i64 m))
     (first|exact⟨y1,y2,Y5.out⟩|exact⟨(zB5 hCR).trans y1,(zB5 hPR).trans y2,(zB5 hbR).trans Y5.out⟩|go_keep) (fail)
    go_wp2;have kz:=(KZ.out.ext (zr _).drew).cell (j:=0) rfl;refine bodyPost_ret (v:=.tuple #[.agg #[.slice a9 n9 c9],.int .i64 m]) (by simp[results,Try.results76,go_sem,kz]) rfl ⟨_,by rw[hE.out],by rw[hE.out];exact Ov.hold (HO2.out.ext (zr _).drew),HX.out.tr (zr _).drew⟩
   ·have hc1:1<=c1:=by
     obtain⟨_,_,_,e,h1,_⟩:=HS7.out;cases e;simp at h1;omega
    have hcI:(rest.length:Int)+1<=(c1:Int):=by
     obtain⟨_,_,_,e,h1,_⟩:=HS7.out;cases e;simp at h1;omega
    have hcN:rest.length+1<=c1:=by omega
    have hco2:¬ (c1 - 1=0):=by omega
    have hr1:(1:Int)<=(rest.length:Int)+1:=by omega
    have hr2:(0:Int)<=(rest.length:Int):=by omega
    go_upto_region 9 with (at_builtin;go_loud (refine zC2 (α:=Int) (L:=W6.heap.size) (xs:=[]) (ys:=rest) rfl _ _ 61 rfl 3 Try.underlying61 zEs (v:=.slice (some ⟨W6.heap.size,0,none⟩) 0 0) (vx:=.slice (some ⟨b,o+1,none⟩) rest.length (c1 - 1)) rfl (Oo.lit0 3 W6).oa rfl ((show Rs W6 (.slice (some ⟨b,o+1,none⟩) rest.length (c1 - 1)) rest by simpa using HT.out).ext ((zr _).alloc _)) (by simp;omega) (by simp) ?_;intro v9 w9 hO9 hg9;have E09:=Ext.grown ((zr W6).alloc _) hg9 (fun z hz=>by simp only[Value.ownBlock,Option.some.injEq] at hz;omega);have E9:=zh (E7.out.tr E09);have O90:=zh (Oo.ofA hO9);have KC90:=zh (KC.out.ext E09);have KP90:=zh (KP7.out.ext E09);have KR90:=zh (KR7.out.ext E09);have hc90:=zh ((zA0 E09 hb).trans hc);have cf9:=KC90.out.fz;have c09:=KC90.out.cell (j:=0) rfl;obtain⟨a9,n9,c9,rfl⟩:=(Oo.ofA hO9).sh;clear hO9 hg9 E09))
    have hO9:=O90.out;rw[List.nil_append] at hO9;have hbC:b≠C:=fun e=>by
     have h1:=hc;rw[e] at h1;have h2:=KC.out;unfold Bk at h2;simp only[World.cell?,h2] at h1;cases o with
     | zero=>simp at h1
     | succ o=>simp at h1
    have hCR0:C≠w.heap.size+1:=by omega
    have hCP0:C≠w.heap.size:=by omega
    have KC9:=zh (KC90.out.set 0 (.slice a9 n9 c9));have KP9:=zh (KP90.out.set_ne (p:=⟨C,0,none⟩) hCP0.symm (.slice a9 n9 c9));have KR9:=zh (KR90.out.set_ne (p:=⟨C,0,none⟩) hCR0.symm (.slice a9 n9 c9));have hc9:=zh ((zB5 (j:=0) (u:=.slice a9 n9 c9) hbC).trans hc90.out);have O9:Hid (Os w2.heap.size _ _ _):=zh (((hO9.os.mono (show w2.heap.size<=W6.heap.size by omega))).setBox KC90.out (fun n h=>by cases h) (.slice a9 n9 c9))
    replace E9:=zh (E9.out.set (p:=⟨C,0,none⟩) (by show w.heap.size<=C;omega) (.slice a9 n9 c9))
    clear KC90 KP90 KR90 hc90 hO9 O90 KC KP7 KR7 p07 c07 cf7 r07 rf7 c09 cf9;refine zA2 (fun W=>Ext w W/\Bk W C [.slice a9 n9 c9] 71/\Bk W w.heap.size [.slice (some ⟨b,o,none⟩) (rest.length+1) c1] 71/\Bk W (w.heap.size+1) [.slice none 0 0] 71/\W.cell? ⟨b,o,none⟩=some (.int .i64 m)/\Os w2.heap.size W (.slice a9 n9 c9) rest) ⟨E9.out,KC9.out,KP9.out,KR9.out,hc9.out,O9.out⟩ ?_
    rintro W9 ⟨x1,x2,x3,x4,x5,x6⟩;have y1:=x2.cell (j:=0) rfl;have y2:=x3.cell (j:=0) rfl;have y3:=x4.cell (j:=0) rfl;have y4:=x4.fz;have hbR:b≠w.heap.size+1:=fun e=>by
     have h1:=x5;rw[e] at h1;have h2:=x4;unfold Bk at h2;simp only[World.cell?,h2] at h1;cases o with
     | zero=>simp at h1
     | succ o=>simp at h1
    have hCR:C≠w.heap.size+1:=by omega
    have hPR:w.heap.size≠w.heap.size+1:=by omega
    have KZ:=zh ((x4.set 0 (.slice a9 n9 c9)));have HO2:=zh (((x6.setLow (p:=⟨w.heap.size+1,0,none⟩) (by show w.heap.size+1 < w2.heap.size;omega) (.slice a9 n9 c9))).mono (E2.out.sz))
    have HX:=zh (x1.set (p:=⟨w.heap.size+1,0,none⟩) (by show w.heap.size<=w.heap.size+1;omega) (.slice a9 n9 c9))
    have Y5:=zh x5;clear x1 x2 x3 x4 x6
    go_region_held3 (fun u=>u.cell? ⟨C,0,none⟩=some (.slice a9 n9 c9)/\u.cell? ⟨w.heap.size,0,none⟩=some (.slice (some ⟨b,o,none⟩) (rest.length+1) c1)/\u.cell? ⟨b,o,none⟩=some (.int .i64 m))
     (first|exact⟨y1,y2,Y5.out⟩|exact⟨(zB5 hCR).trans y1,(zB5 hPR).trans y2,(zB5 hbR).trans Y5.out⟩|go_keep) (fail)
    go_wp2;have kz:=(KZ.out.ext (zr _).drew).cell (j:=0) rfl;refine bodyPost_ret (v:=.tuple #[.agg #[.slice a9 n9 c9],.int .i64 m]) (by simp[results,Try.results76,go_sem,kz]) rfl ⟨_,by rw[hE.out],by rw[hE.out];exact Ov.hold (HO2.out.ext (zr _).drew),HX.out.tr (zr _).drew⟩
end Sk
