/- Contracts of functions of the given program. -/
import Derived.Test.YtfdeoepbnefckaaGreatDrawPt
import Derived.Test.YtfdeoepbnefckaaGreatDrawCh
namespace Sk
open Go Go.Proofs Go.RowKit
set_option maxHeartbeats 1600000
set_option maxRecDepth 100000
set_option linter.unusedVariables false
set_option linter.unusedSimpArgs false
def Rsx{α:Type}[GT α](G:List Nat)(L:Nat)(w:World)(v:Value)(xs:List α):Prop:=∃ F,Sl w v xs F/\∀ k∈F,L<=k/\k ∉ G
theorem Rsx.mw{α:Type}[GT α]{G F:List Nat}{L:Nat}{w w':World}{v:Value}{xs:List α}(h:Rsx G L w v xs)(k:Mw F w w')(hF:∀ x∈F,x∈G):Rsx G L w' v xs:=by
 obtain⟨K,h1,h2⟩:=h;exact⟨K,k.sl h1 (fun y hy hf=>(h2 y hy).2 (hF y hf)),h2⟩
theorem Rsb.x{α:Type}[GT α]{G:List Nat}{L L':Nat}{w:World}{v:Value}{xs:List α}(h:Rsb L w v xs)(hG:∀ x∈G,x < L\/w.heap.size<=x)(hL:L'<=L):Rsx G L' w v xs:=by
 obtain⟨K,h1,h2⟩:=h;exact⟨K,h1,fun k hk=>⟨Nat.le_trans hL (h2 k hk),fun hm=>by have:=h1.inh k hk;have:=h2 k hk;rcases hG k hm with h|h<;>omega⟩⟩
theorem Rsx.ext{α:Type}[GT α]{G:List Nat}{L:Nat}{w w':World}{v:Value}{xs:List α}(h:Rsx G L w v xs)(k:Ext w w'):Rsx G L w' v xs:=h.mw (F:=[]) (Mw.ofExt k) (by simp)
theorem Rsx.set{α:Type}[GT α]{G:List Nat}{L:Nat}{w:World}{v:Value}{xs:List α}(h:Rsx G L w v xs){p:Addr}(hp:p.block∈G)(u:Value):Rsx G L (w.setCell p u) v xs :=
 h.mw (F:=[p.block]) (Mw.ofMo ((Mo.refl _ _).set (by simp) u)) (by simpa using hp)
def zHn(s:Setup):Prop:=s.Parts.length<=6/\(∀ x∈s.Parts,x.Windows.length<=20)/\s.Channels.length<=9/\s.Slots.length<=13
theorem zGu(W w:World)(b m:Nat)(n:Int)(h:Rd W w b (m+500))(hn1 : -1000000<=n)(hn2:n<=1000000) :
  Calls Tryz.prog 18 #[.pointer (some ⟨b,0,none⟩),.int .i64 n] w fun e w' => ∃ v s,e = .returned v/\Rvb (α:=Setup) w.heap.size w' v s/\zHn s/\Mw [b] w w'/\Rd W w' b m:=by
 have H:=zh h;have hbl:=h.lt;have hbW:=h.1;have hWw:=h.2.1.sz;clear h;go_enter Tryz.func18,Tryz.ntmps18;go_upto_region 1 with (fail)
 refine zA2 (fun W0=>Ext w W0/\Bk W0 w.heap.size [.slice none 0 0,.slice none 0 0,.slice none 0 0] 27) ⟨(zr _).alloc _,Bk.new _ _ _⟩ ?_
 rintro W0 ⟨e0,kA⟩;have HRD:=zh (H.out.ext e0);have HMW:Hid (Mw [b] w W0):=zh (Mw.ofExt e0);have hAl:=kA.lt;have KA:=zh kA;clear e0 H kA;go_upto_region 2 with (go_at_call 45;refine(zGt W _ b (m+100) _ HRD.out (by omega) (by omega)).mono ?_;rintro e w1 ⟨v0,ps,rfl,hp,⟨hpl,hpw⟩,hm,hr⟩;obtain⟨p0,q0,rfl,hq0⟩:=hp.form;have hs1:=hm.size;replace HMW:=zh (HMW.out.tr hm);replace KA:=zh (hm.bk KA.out (by simp;omega));replace HRD:=zh hr;have HP:=zh hp;have HPW:=zh hpw;clear hm hr hp hpw)
 obtain⟨B,hB⟩:∃ B,B=w1.heap.size:=⟨_,rfl⟩;have hBA:w.heap.size < B:=by omega
 refine zA2 (fun u=>Mw [b] w u/\Rd W u b (m+100)/\Bk u w.heap.size [.slice none 0 0,.slice none 0 0,.slice none 0 0] 27/\Bk u B [.slice p0 ps.length q0,.slice none 0 0,.slice none 0 0] 27/\Rsx [b,w.heap.size,B] w.heap.size u (.slice p0 ps.length q0) ps)
  ⟨HMW.out.tr (Mw.ofExt ((zr _).alloc _)),HRD.out.ext ((zr _).alloc _),KA.out.ext ((zr _).alloc _),by rw[hB];exact Bk.new _ _ _,(HP.out.x (by simp;omega) (by omega)).ext ((zr _).alloc _)⟩ ?_
 rw[<- hB];clear HMW HRD KA HP hB;rintro w2 ⟨mw2,rd2,ka2,kb2,hx2⟩;have HMW:=zh mw2;have HRD:=zh rd2;have KA:=zh ka2;have KB:=zh kb2;have HX:=zh hx2;have hBl:=kb2.lt;have c0:=kb2.cell (j:=0) rfl;clear mw2 rd2 ka2 kb2 hx2;go_upto_region 3 with (go_at_call 46;refine(zFa W _ b (m+60) _ _ HRD.out (by omega) (by omega) (by omega)).mono ?_;rintro e w3 ⟨v1,cs,rfl,hp,hcl,hm,hr⟩;obtain⟨p1,q1,rfl,hq1⟩:=hp.form;have hs3:=hm.size;replace HMW:=zh (HMW.out.tr hm);replace KA:=zh (hm.bk KA.out (by simp;omega));replace KB:=zh (hm.bk KB.out (by simp;omega));replace HX:=zh (HX.out.mw hm (by simp));replace HRD:=zh hr;have HC:=zh (hp.x (G:=[b,w.heap.size,B]) (L':=w.heap.size) (by simp;omega) (by omega));have b1:=KB.out.cell (j:=1) rfl;have bf:=KB.out.fz 1;clear hm hr hp)
 refine zA2 (fun u=>Mw [b] w u/\Rd W u b (m+60)/\Bk u w.heap.size [.slice none 0 0,.slice none 0 0,.slice none 0 0] 27/\Bk u B [.slice p0 ps.length q0,.slice p1 cs.length q1,.slice none 0 0] 27/\Rsx [b,w.heap.size,B] w.heap.size u (.slice p0 ps.length q0) ps/\Rsx [b,w.heap.size,B] w.heap.size u (.slice p1 cs.length q1) cs/\B < u.heap.size)
  ⟨HMW.out.set (.inr (by show _<=B;omega)) _,HRD.out.set (by show b≠B;omega) (by show _<=B;omega) _,KA.out.set_ne (by show w.heap.size≠B;omega) _,by have:=KB.out.set 1 (.slice p1 cs.length q1);simpa using this,HX.out.set (by simp) _,HC.out.set (by simp) _,by simp;omega⟩ ?_
 clear HMW HRD KA KB HX HC b1 bf;rintro w4 ⟨mw2,rd2,ka2,kb2,hx2,hc2,hBl4⟩;have HMW:=zh mw2;have HRD:=zh rd2;have KA:=zh ka2;have KB:=zh kb2;have HX:=zh hx2;have HC:=zh hc2;have c4:=kb2.cell (j:=0) rfl;clear mw2 rd2 ka2 kb2 hx2 hc2 c0;go_upto_region 4 with (go_at_call 47;refine(zGv W _ b (m+30) _ _ (HRD.out.le (by omega)) (by omega) (by omega) (by omega)).mono ?_;rintro e w5 ⟨v2,ss,rfl,hp,hsl,hm,hr⟩;obtain⟨p2,q2,rfl,hq2⟩:=hp.form;have hs5:=hm.size;replace HMW:=zh (HMW.out.tr hm);replace KA:=zh (hm.bk KA.out (by simp;omega));replace KB:=zh (hm.bk KB.out (by simp;omega));replace HX:=zh (HX.out.mw hm (by simp));replace HC:=zh (HC.out.mw hm (by simp));replace HRD:=zh hr;have HS:=zh (hp.x (G:=[b,w.heap.size,B]) (L':=w.heap.size) (by simp;omega) (by omega));have b2:=KB.out.cell (j:=2) rfl;have bf:=KB.out.fz 2;clear hm hr hp)
 refine zA2 (fun u=>Mw [b] w u/\Rd W u b m/\Bk u w.heap.size [.slice none 0 0,.slice none 0 0,.slice none 0 0] 27/\Bk u B [.slice p0 ps.length q0,.slice p1 cs.length q1,.slice p2 ss.length q2] 27/\Rsx [b,w.heap.size,B] w.heap.size u (.slice p0 ps.length q0) ps/\Rsx [b,w.heap.size,B] w.heap.size u (.slice p1 cs.length q1) cs/\Rsx [b,w.heap.size,B] w.heap.size u (.slice p2 ss.length q2) ss)
  ⟨HMW.out.set (.inr (by show _<=B;omega)) _,(HRD.out.set (by show b≠B;omega) (by show _<=B;omega) _).le (by omega),KA.out.set_ne (by show w.heap.size≠B;omega) _,by have:=KB.out.set 2 (.slice p2 ss.length q2);simpa using this,HX.out.set (by simp) _,HC.out.set (by simp) _,HS.out.set (by simp) _⟩ ?_
 clear HMW HRD KA KB HX HC HS b2 bf c4;rintro w6 ⟨mw2,rd2,ka2,kb2,hx2,hc2,hs2⟩;obtain⟨a0,a1,a2⟩:=Bk.k3 ka2;have af:=ka2.fz;have al:=ka2.lt;obtain⟨b0,b1,b2⟩:=Bk.k3 kb2;have bl:=kb2.lt;have HMW:=zh mw2;have HRD:=zh rd2;have HX:=zh hx2;have HC:=zh hc2;have HS:=zh hs2;clear mw2 rd2 ka2 kb2 hx2 hc2 hs2;go_wp2;refine bodyPost_ret (v:=.agg #[.slice p0 ps.length q0,.slice p1 cs.length q1,.slice p2 ss.length q2]) (by simp[results,Tryz.results18,go_sem,a0,a1,a2]) rfl ⟨_,⟨ps,cs,ss⟩,rfl,?_,⟨hpl,HPW.out,hcl,hsl⟩,?_,?_⟩
 ·obtain⟨F0,h0,k0⟩:=((HX.out.set (p:=⟨w.heap.size,0,none⟩) (by simp) (.slice p0 ps.length q0)).set (p:=⟨w.heap.size,1,none⟩) (by simp) (.slice p1 cs.length q1)).set (p:=⟨w.heap.size,2,none⟩) (by simp) (.slice p2 ss.length q2)
  obtain⟨F1,h1,k1⟩:=((HC.out.set (p:=⟨w.heap.size,0,none⟩) (by simp) (.slice p0 ps.length q0)).set (p:=⟨w.heap.size,1,none⟩) (by simp) (.slice p1 cs.length q1)).set (p:=⟨w.heap.size,2,none⟩) (by simp) (.slice p2 ss.length q2)
  obtain⟨F2,h2,k2⟩:=((HS.out.set (p:=⟨w.heap.size,0,none⟩) (by simp) (.slice p0 ps.length q0)).set (p:=⟨w.heap.size,1,none⟩) (by simp) (.slice p1 cs.length q1)).set (p:=⟨w.heap.size,2,none⟩) (by simp) (.slice p2 ss.length q2)
  exact⟨[_,_,_],_,rfl,⟨_,_,_,F0,F1,F2,rfl,h0,h1,h2,rfl⟩,fun k hk=>by
   rcases List.mem_append.1 hk with hk|hk
   ·exact(k0 k hk).1
   ·rcases List.mem_append.1 hk with hk|hk
    ·exact(k1 k hk).1
    ·exact(k2 k hk).1⟩
 ·exact((HMW.out.set (.inr (Nat.le_refl _)) _).set (.inr (Nat.le_refl _)) _).set (.inr (Nat.le_refl _)) _
 ·exact((HRD.out.set (by show b≠w.heap.size;omega) hWw _).set (by show b≠w.heap.size;omega) hWw _).set (by show b≠w.heap.size;omega) hWw _
theorem Rvb.openS{L:Nat}{w:World}{v:Value}{s:Setup}(h:Rvb L w v s):∃ a0 c0 a1 c1 a2 c2,v = .agg #[.slice a0 s.Parts.length c0,.slice a1 s.Channels.length c1,.slice a2 s.Slots.length c2]/\s.Parts.length<=9223372036854775807/\s.Channels.length<=9223372036854775807/\s.Slots.length<=9223372036854775807:=by
 obtain⟨cs,F,rfl,⟨v0,v1,v2,F0,F1,F2,rfl,h0,h1,h2,rfl⟩,_⟩:=h;obtain⟨a0,c0,rfl,g0⟩:=(show Rs w v0 s.Parts from⟨_,h0⟩).form
 obtain⟨a1,c1,rfl,g1⟩:=(show Rs w v1 s.Channels from⟨_,h1⟩).form
 obtain⟨a2,c2,rfl,g2⟩:=(show Rs w v2 s.Slots from⟨_,h2⟩).form
 exact⟨_,_,_,_,_,_,rfl,g0,g1,g2⟩
theorem Rvb.ext{α:Type}[GT α]{L:Nat}{w w':World}{v:Value}{x : α}(h:Rvb L w v x)(k:Ext w w'):Rvb L w' v x:=by
 obtain⟨cs,F,h1,h2,h3⟩:=h;exact⟨cs,F,h1,GT.ext h2 k,h3⟩
theorem Rvb.mw{α:Type}[GT α]{L:Nat}{w w':World}{v:Value}{x : α}{F:List Nat}(h:Rvb L w v x)(k:Mw F w w')(hF:∀ y∈F,y < L):Rvb L w' v x:=by
 obtain⟨cs,G,h1,h2,h3⟩:=h;exact⟨cs,G,h1,k.enc h2 (fun y hy hf=>by have:=h3 y hy;have:=hF y hf;omega),h3⟩
theorem Rvb.mono{α:Type}[GT α]{L L':Nat}{w:World}{v:Value}{x : α}(h:Rvb L w v x)(k:L'<=L):Rvb L' w v x:=by
 obtain⟨cs,F,h1,h2,h3⟩:=h;exact⟨cs,F,h1,h2,fun y hy=>Nat.le_trans k (h3 y hy)⟩
end Sk
