/- Contracts of functions of the given program. -/
import Derived.Test.YtbekofpkcahbkaaZbDrwC
namespace Sk
open Go Go.Proofs Go.RowKit
set_option maxHeartbeats 1600000
set_option maxRecDepth 100000
set_option linter.unusedVariables false
set_option linter.unusedSimpArgs false
theorem zIw{ps:List Part}{cs:List Channel}{ss:List Slot}(h1:1<=ps.length)(h2:ps.length<=4)(h3:∀ x∈ps,zC7 x=true)(h4:cs.length<=5)(h5:∀ x∈cs,zF3 ps.length x=true)(h6:1<=ss.length)(h7:ss.length<=6)(h8:∀ x∈ss,zCl ps.length x=true):zAr ⟨ps,cs,ss⟩=true:=by
 simp only[zAr,zD7,zCx,zCa,Bool.and_eq_true,decide_eq_true_eq,List.all_eq_true,zA4];exact⟨⟨by omega,h3⟩,⟨⟨by omega,by omega⟩,by omega,h5⟩,⟨by omega,by omega⟩,⟨by omega,by omega⟩,h8⟩
theorem zFn(W w:World)(b m:Nat)(h:Rd W w b (m+500)) :
  Calls Try.prog 36 #[.pointer (some ⟨b,0,none⟩),.int .i64 0] w fun e w' => ∃ v s,e = .returned v/\Rvb (α:=Setup) w.heap.size w' v s/\(zAr s=true/\1<=s.Parts.length)/\Mw [b] w w'/\Rd W w' b m:=by
 have H:=zh h;have hbl:=h.lt;have hbW:=h.1;have hWw:=h.2.1.sz;clear h;go_enter Try.func36,Try.ntmps36;go_upto_region 1 with (fail)
 refine zA2 (fun W0=>Ext w W0/\Bk W0 w.heap.size [.slice none 0 0,.slice none 0 0,.slice none 0 0] 42) ⟨(zr _).alloc _,Bk.new _ _ _⟩ ?_
 rintro W0 ⟨e0,kA⟩;have HRD:=zh (H.out.ext e0);have HMW:Hid (Mw [b] w W0):=zh (Mw.ofExt e0);have hAl:=kA.lt;have KA:=zh kA;clear e0 H kA;go_upto_region 2 with (go_at_call 54;refine(zFm W _ b (m+100) HRD.out).mono ?_;rintro e w1 ⟨v0,ps,rfl,hp,⟨hp1,hpl,hpw⟩,hm,hr⟩;obtain⟨p0,q0,rfl,hq0⟩:=hp.form;have hs1:=hm.size;replace HMW:=zh (HMW.out.tr hm);replace KA:=zh (hm.bk KA.out (by simp;omega));replace HRD:=zh hr;have HP:=zh hp;have HPW:=zh hpw;clear hm hr hp hpw)
 obtain⟨B,hB⟩:∃ B,B=w1.heap.size:=⟨_,rfl⟩;have hBA:w.heap.size < B:=by omega
 refine zA2 (fun u=>Mw [b] w u/\Rd W u b (m+100)/\Bk u w.heap.size [.slice none 0 0,.slice none 0 0,.slice none 0 0] 42/\Bk u B [.slice p0 ps.length q0,.slice none 0 0,.slice none 0 0] 42/\Rsx [b,w.heap.size,B] w.heap.size u (.slice p0 ps.length q0) ps)
  ⟨HMW.out.tr (Mw.ofExt ((zr _).alloc _)),HRD.out.ext ((zr _).alloc _),KA.out.ext ((zr _).alloc _),by rw[hB];exact Bk.new _ _ _,(HP.out.x (by simp;omega) (by omega)).ext ((zr _).alloc _)⟩ ?_
 rw[<- hB];clear HMW HRD KA HP hB;rintro w2 ⟨mw2,rd2,ka2,kb2,hx2⟩;have HMW:=zh mw2;have HRD:=zh rd2;have KA:=zh ka2;have KB:=zh kb2;have HX:=zh hx2;have hBl:=kb2.lt;have c0:=kb2.cell (j:=0) rfl;clear mw2 rd2 ka2 kb2 hx2;go_upto_region 3 with (go_at_call 55;refine(zEk W _ b (m+60) _ HRD.out (by omega)).mono ?_;rintro e w3 ⟨v1,cs,rfl,hp,⟨hcl,hcv⟩,hm,hr⟩;have HCV:=zh hcv;clear hcv;obtain⟨p1,q1,rfl,hq1⟩:=hp.form;have hs3:=hm.size;replace HMW:=zh (HMW.out.tr hm);replace KA:=zh (hm.bk KA.out (by simp;omega));replace KB:=zh (hm.bk KB.out (by simp;omega));replace HX:=zh (HX.out.mw hm (by simp));replace HRD:=zh hr;have HC:=zh (hp.x (G:=[b,w.heap.size,B]) (L':=w.heap.size) (by simp;omega) (by omega));have b1:=KB.out.cell (j:=1) rfl;have bf:=KB.out.fz 1;clear hm hr hp)
 refine zA2 (fun u=>Mw [b] w u/\Rd W u b (m+60)/\Bk u w.heap.size [.slice none 0 0,.slice none 0 0,.slice none 0 0] 42/\Bk u B [.slice p0 ps.length q0,.slice p1 cs.length q1,.slice none 0 0] 42/\Rsx [b,w.heap.size,B] w.heap.size u (.slice p0 ps.length q0) ps/\Rsx [b,w.heap.size,B] w.heap.size u (.slice p1 cs.length q1) cs/\B < u.heap.size)
  ⟨HMW.out.set (.inr (by show _<=B;omega)) _,HRD.out.set (by show b≠B;omega) (by show _<=B;omega) _,KA.out.set_ne (by show w.heap.size≠B;omega) _,by have:=KB.out.set 1 (.slice p1 cs.length q1);simpa using this,HX.out.set (by simp) _,HC.out.set (by simp) _,by simp;omega⟩ ?_
 clear HMW HRD KA KB HX HC b1 bf;rintro w4 ⟨mw2,rd2,ka2,kb2,hx2,hc2,hBl4⟩;have HMW:=zh mw2;have HRD:=zh rd2;have KA:=zh ka2;have KB:=zh kb2;have HX:=zh hx2;have HC:=zh hc2;have c4:=kb2.cell (j:=0) rfl;clear mw2 rd2 ka2 kb2 hx2 hc2 c0;go_upto_region 4 with (go_at_call 56;refine(zFo W _ b (m+30) _ (HRD.out.le (by omega)) (by omega) (by omega)).mono ?_;rintro e w5 ⟨v2,ss,rfl,hp,⟨hsl1,hsl,hsv⟩,hm,hr⟩;have HSV:=zh hsv;clear hsv;obtain⟨p2,q2,rfl,hq2⟩:=hp.form;have hs5:=hm.size;replace HMW:=zh (HMW.out.tr hm);replace KA:=zh (hm.bk KA.out (by simp;omega));replace KB:=zh (hm.bk KB.out (by simp;omega));replace HX:=zh (HX.out.mw hm (by simp));replace HC:=zh (HC.out.mw hm (by simp));replace HRD:=zh hr;have HS:=zh (hp.x (G:=[b,w.heap.size,B]) (L':=w.heap.size) (by simp;omega) (by omega));have b2:=KB.out.cell (j:=2) rfl;have bf:=KB.out.fz 2;clear hm hr hp)
 refine zA2 (fun u=>Mw [b] w u/\Rd W u b m/\Bk u w.heap.size [.slice none 0 0,.slice none 0 0,.slice none 0 0] 42/\Bk u B [.slice p0 ps.length q0,.slice p1 cs.length q1,.slice p2 ss.length q2] 42/\Rsx [b,w.heap.size,B] w.heap.size u (.slice p0 ps.length q0) ps/\Rsx [b,w.heap.size,B] w.heap.size u (.slice p1 cs.length q1) cs/\Rsx [b,w.heap.size,B] w.heap.size u (.slice p2 ss.length q2) ss)
  ⟨HMW.out.set (.inr (by show _<=B;omega)) _,(HRD.out.set (by show b≠B;omega) (by show _<=B;omega) _).le (by omega),KA.out.set_ne (by show w.heap.size≠B;omega) _,by have:=KB.out.set 2 (.slice p2 ss.length q2);simpa using this,HX.out.set (by simp) _,HC.out.set (by simp) _,HS.out.set (by simp) _⟩ ?_
 clear HMW HRD KA KB HX HC HS b2 bf c4;rintro w6 ⟨mw2,rd2,ka2,kb2,hx2,hc2,hs2⟩;obtain⟨a0,a1,a2⟩:=Bk.k3 ka2;have af:=ka2.fz;have al:=ka2.lt;obtain⟨b0,b1,b2⟩:=Bk.k3 kb2;have bl:=kb2.lt;have HMW:=zh mw2;have HRD:=zh rd2;have HX:=zh hx2;have HC:=zh hc2;have HS:=zh hs2;clear mw2 rd2 ka2 kb2 hx2 hc2 hs2;go_wp2;refine bodyPost_ret (v:=.agg #[.slice p0 ps.length q0,.slice p1 cs.length q1,.slice p2 ss.length q2]) (by simp[results,Try.results36,go_sem,a0,a1,a2]) rfl ⟨_,⟨ps,cs,ss⟩,rfl,?_,⟨zIw hp1 hpl HPW.out hcl HCV.out hsl1 hsl HSV.out,hp1⟩,?_,?_⟩
 ·obtain⟨F0,h0,k0⟩:=((HX.out.set (p:=⟨w.heap.size,0,none⟩) (by simp) (.slice p0 ps.length q0)).set (p:=⟨w.heap.size,1,none⟩) (by simp) (.slice p1 cs.length q1)).set (p:=⟨w.heap.size,2,none⟩) (by simp) (.slice p2 ss.length q2)
  obtain⟨F1,h1,k1⟩:=((HC.out.set (p:=⟨w.heap.size,0,none⟩) (by simp) (.slice p0 ps.length q0)).set (p:=⟨w.heap.size,1,none⟩) (by simp) (.slice p1 cs.length q1)).set (p:=⟨w.heap.size,2,none⟩) (by simp) (.slice p2 ss.length q2)
  obtain⟨F2,h2,k2⟩:=((HS.out.set (p:=⟨w.heap.size,0,none⟩) (by simp) (.slice p0 ps.length q0)).set (p:=⟨w.heap.size,1,none⟩) (by simp) (.slice p1 cs.length q1)).set (p:=⟨w.heap.size,2,none⟩) (by simp) (.slice p2 ss.length q2)
  exact⟨[_,_,_],_,rfl,⟨_,_,_,F0,F1,F2,rfl,h0,h1,h2,rfl⟩,fun k hk=>by
   rcases List.mem_append.1 hk with hk|hk
   ·exact(k0 k hk).1
   ·rcases List.mem_append.1 hk with hk|hk
    ·exact(k1 k hk).1
    ·exact(k2 k hk).1⟩
 ·exact((HMW.out.set (.inr (Nat.le_refl _)) _).set (.inr (Nat.le_refl _)) _).set (.inr (Nat.le_refl _)) _
 ·exact((HRD.out.set (by show b≠w.heap.size;omega) hWw _).set (by show b≠w.heap.size;omega) hWw _).set (by show b≠w.heap.size;omega) hWw _
end Sk
