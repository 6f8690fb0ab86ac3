/- Contracts of functions of the given program. -/
import Derived.Test.YtfjimbnblklhdaaGreatZyDm
namespace Sk
open Go Go.Proofs Go.RowKit
set_option maxHeartbeats 1000000
set_option linter.unusedVariables false
set_option linter.unusedSimpArgs false
theorem set_map{α:Type}(l:List α)(k:Nat)(v : α):(l.set k v)[k]? = l[k]?.map (fun _=>v):=by
 by_cases h:k < l.length
 ·rw[List.getElem?_set_self h,List.getElem?_eq_getElem h];rfl
 ·rw[List.getElem?_eq_none (by simpa using Nat.le_of_not_lt h),List.getElem?_eq_none (by omega)];rfl
def RQ{α:Type}[GT α](G:List Nat)(L:Nat)(u:World)(g s:Nat)(xs:List α):Prop :=
 ∀ k x,xs[k]? = some x->∃ cs F,GT.enc u cs x F/\At u g (s+k*GT.sz α) cs/\∀ y∈F,L<=y/\y ∉ G
theorem RQ.ofRow{α:Type}[GT α]{G:List Nat}{L:Nat}{u:World}{g s:Nat}{xs:List α}{F:List Nat}(h:Row u g s xs F)(hF:∀ y∈F,L<=y/\y ∉ G):RQ G L u g s xs:=fun k x hk=>by
 obtain⟨cs,F1,x',h0,h1,h2,h3⟩:=h.get k (zAc hk);rw[hk] at h0;obtain rfl:=Option.some.inj h0;exact⟨cs,F1,h1,h2,fun y hy=>hF y (h3 y hy)⟩
theorem RQ.row{α:Type}[GT α]{G:List Nat}{L:Nat}{u:World}{g:Nat}{xs:List α}:∀ {s:Nat},RQ G L u g s xs->∃ F,Row u g s xs F/\∀ y∈F,L<=y/\y ∉ G:=by
 induction xs with
 | nil=>intro s _;exact⟨[],rfl,fun y hy=>by cases hy⟩
 | cons x xs ih =>
  intro s h;obtain⟨cs,F1,h1,h2,h3⟩:=h 0 x rfl;obtain⟨F2,k1,k2⟩:=ih (s:=s+GT.sz α) (fun k y hk=>by
   obtain⟨cs',F',g1,g2,g3⟩:=h (k+1) y (by simpa using hk)
   exact⟨cs',F',g1,by rwa [show s+(k+1)*GT.sz α = s+GT.sz α + k*GT.sz α by rw[Nat.succ_mul];omega] at g2,g3⟩)
  refine⟨F1++F2,⟨cs,F1,F2,h1,by simpa using h2,rfl,k1⟩,fun y hy=>?_⟩
  rcases List.mem_append.1 hy with hy|hy
  ·exact h3 y hy
  ·exact k2 y hy
theorem RQ.rsb{α:Type}[GT α]{G:List Nat}{L:Nat}{u:World}{g s c:Nat}{xs:List α}(h:RQ G L u g s xs)(hL:L<=g)(h1:xs.length<=c)(h2:c<=maxLen):Rsb L u (.slice (some ⟨g,s,none⟩) xs.length c) xs:=by
 by_cases hx:xs = []
 ·subst hx;exact⟨[],⟨_,c,rfl,h1,h2,.inl ⟨rfl,rfl⟩⟩,fun k hk=>by cases hk⟩
 ·obtain⟨F,k1,k2⟩:=h.row;exact⟨g::F,⟨_,c,rfl,h1,h2,.inr ⟨hx,g,s,F,rfl,rfl,k1⟩⟩,fun k hk=>by
   rcases List.mem_cons.1 hk with rfl|hk
   ·exact hL
   ·exact(k2 k hk).1⟩
theorem RQ.keep{α:Type}[GT α]{G F:List Nat}{L:Nat}{u u':World}{g s:Nat}{xs:List α}(h:RQ G L u g s xs)(hm:Mw F u u')(hF:∀ x∈F,x∈G)(hc:xs = []\/∀ j,u'.cell? ⟨g,j,none⟩=u.cell? ⟨g,j,none⟩):RQ G L u' g s xs:=fun k x hk=>by
 obtain⟨cs,F1,h1,h2,h3⟩:=h k x hk;rcases hc with rfl|hc
 ·cases hk
 exact⟨cs,F1,hm.enc h1 (fun y hy hf=>(h3 y hy).2 (hF y hf)),fun j v hj=>(hc _).trans (h2 j v hj),h3⟩
theorem RQ.upd{α:Type}[GT α]{G F:List Nat}{L:Nat}{u u':World}{g s:Nat}{xs:List α}(h:RQ G L u g s xs)(hm:Mw F u u')(hF:∀ x∈F,x∈G){k:Nat}{y : α}{cs':List Value}{F':List Nat}
  (hc:∀ j,j < s+k*GT.sz α \/ s+k*GT.sz α + GT.sz α <= j->u'.cell? ⟨g,j,none⟩=u.cell? ⟨g,j,none⟩) (hen:GT.enc u' cs' y F') (hat:At u' g (s+k*GT.sz α) cs') (hF':∀ z∈F',L<=z/\z ∉ G):RQ G L u' g s (xs.set k y):=fun i x hi=>by
 by_cases e:i=k
 ·subst e;rw[set_map] at hi;obtain⟨_,_,rfl⟩:=Option.map_eq_some_iff.1 hi;exact⟨cs',F',hen,hat,hF'⟩
 ·rw[List.getElem?_set_ne (by omega)] at hi
  obtain⟨cs,F1,h1,h2,h3⟩:=h i x hi;refine⟨cs,F1,hm.enc h1 (fun y hy hf=>(h3 y hy).2 (hF y hf)),fun j v hj=>(hc _ ?_).trans (h2 j v hj),h3⟩
  have hl:=GT.len h1;have hj2:j < cs.length:=zAc hj;have hp:=GT.pos (α:=α);rcases Nat.lt_or_ge i k with hlt|hge
  ·left
   have:=Nat.mul_le_mul_right (GT.sz α) (show i+1<=k from hlt)
   rw[Nat.succ_mul] at this;omega
  ·right
   have:=Nat.mul_le_mul_right (GT.sz α) (show k+1<=i by omega)
   rw[Nat.succ_mul] at this;omega
theorem Rsx.wide{α:Type}[GT α]{G:List Nat}{L L':Nat}{w:World}{v:Value}{xs:List α}(h:Rsx G L w v xs)(k:L'<=L):Rsx G L' w v xs:=by
 obtain⟨F,h1,h2⟩:=h;exact⟨F,h1,fun y hy=>⟨Nat.le_trans k (h2 y hy).1,(h2 y hy).2⟩⟩
theorem Rsx.rsb{α:Type}[GT α]{G:List Nat}{L:Nat}{w:World}{v:Value}{xs:List α}(h:Rsx G L w v xs):Rsb L w v xs:=by
 obtain⟨F,h1,h2⟩:=h;exact⟨F,h1,fun y hy=>(h2 y hy).1⟩
structure zFs (W0:World) (b gP sP gC sC gH sH L n:Nat) (m:Machine) (u:World) (ps:List (List Order)) (cs:List Core) (hs:List Hold):Prop where
 mw:Mw [b,gP,gC,gH] W0 u
 rp:RQ [b,gP,gC,gH] L u gP sP ps
 rc:RQ [b,gP,gC,gH] L u gC sC cs
 rh:RQ [b,gP,gC,gH] L u gH sH hs
 fz:Fz u gP/\Fz u gC/\(hs = []\/Fz u gH)
 ne:b≠gP/\b≠gC/\gP≠gC/\(hs = []\/(gH≠gP/\gH≠gC/\gH≠b))
 len:ps.length=m.Programs.length/\cs.length=m.Cores.length/\hs.length=m.Holds.length
theorem zFs.pick{W0:World}{b gP sP gC sC gH sH L n:Nat}{m:Machine}{u u':World}{ps:List (List Order)}{cs:List Core}{hs:List Hold}(h:zFs W0 b gP sP gC sC gH sH L n m u ps cs hs)(hm:Mo [b] u u'):zFs W0 b gP sP gC sC gH sH L n m u' ps cs hs where
 mw:=h.mw.tr (Mw.wide (Mw.ofMo hm) (by simp))
 rp:=h.rp.keep (Mw.ofMo hm) (by simp) (.inr fun j=>hm.cell (by simp[h.ne.1.symm]))
 rc:=h.rc.keep (Mw.ofMo hm) (by simp) (.inr fun j=>hm.cell (by simp[h.ne.2.1.symm]))
 rh:=h.rh.keep (Mw.ofMo hm) (by simp) (h.ne.2.2.2.imp id fun k j=>hm.cell (by simp[k.2.2]))
 fz:=⟨hm.2.2.2 _ h.fz.1,hm.2.2.2 _ h.fz.2.1,h.fz.2.2.imp id (hm.2.2.2 _)⟩
 ne:=h.ne
 len:=h.len
theorem zFs.ext{W0:World}{b gP sP gC sC gH sH L n:Nat}{m:Machine}{u u':World}{ps:List (List Order)}{cs:List Core}{hs:List Hold}(h:zFs W0 b gP sP gC sC gH sH L n m u ps cs hs)(he:Ext u u'):zFs W0 b gP sP gC sC gH sH L n m u' ps cs hs where
 mw:=h.mw.tr (Mw.ofExt he)
 rp:=h.rp.keep (F:=[]) (Mw.ofExt he) (by simp) (.inr fun j=>zA0 he h.fz.1.lt)
 rc:=h.rc.keep (F:=[]) (Mw.ofExt he) (by simp) (.inr fun j=>zA0 he h.fz.2.1.lt)
 rh:=h.rh.keep (F:=[]) (Mw.ofExt he) (by simp) (h.fz.2.2.imp id fun k j=>zA0 he k.lt)
 fz:=⟨h.fz.1.ext he,h.fz.2.1.ext he,h.fz.2.2.imp id (fun k=>k.ext he)⟩
 ne:=h.ne
 len:=h.len
theorem zFs.prog{W0:World}{b gP sP gC sC gH sH L n:Nat}{m:Machine}{u:World}{ps:List (List Order)}{cs:List Core}{hs:List Hold}(h:zFs W0 b gP sP gC sC gH sH L n m u ps cs hs){k:Nat}(hk:k < ps.length){v:Value}{p:List Order}(hv:Rsx [b,gP,gC,gH] L u v p) :
  zFs W0 b gP sP gC sC gH sH L n m (u.setCell ⟨gP,sP+k,none⟩ v) (ps.set k p) cs hs where
 mw:=h.mw.set (.inl (by simp)) _
 rp:=by
  have hmw:Mw [gP] u (u.setCell ⟨gP,sP+k,none⟩ v):=Mw.ofMo ((Mo.refl _ _).set (by simp) _)
  obtain⟨F,h1,h2⟩:=hv;obtain⟨ocs,oF,o1,o2,o3⟩:=h.rp k ps[k] (List.getElem?_eq_getElem hk);obtain⟨ov,rfl,_⟩:=o1;have hc0:=o2 0 ov rfl;simp only[GT.sz,Nat.mul_one,Nat.add_zero] at hc0;refine h.rp.upd hmw (by simp) (cs':=[v]) (F':=F) (fun j hj=>zA3 ?_) ⟨v,rfl,hmw.sl h1 (fun y hy hf=>(h2 y hy).2 (by simp at hf;simp[hf]))⟩ (fun j w hj=>?_) h2
  ·simp only[GT.sz,Nat.mul_one] at hj;omega
  ·match j,hj with
   | 0,hj=>cases hj;simp only[GT.sz,Nat.mul_one,Nat.add_zero];exact zAq hc0
 rc:=h.rc.keep (F:=[gP]) (Mw.ofMo ((Mo.refl _ _).set (by simp) _)) (by simp) (.inr fun j=>World.cell?_of_block (zA4 h.ne.2.2.1.symm))
 rh:=h.rh.keep (F:=[gP]) (Mw.ofMo ((Mo.refl _ _).set (by simp) _)) (by simp) (h.ne.2.2.2.imp id fun q j=>World.cell?_of_block (zA4 q.1))
 fz:=⟨h.fz.1.set _ _,h.fz.2.1.set _ _,h.fz.2.2.imp id (fun q=>q.set _ _)⟩
 ne:=h.ne
 len:=⟨by rw[List.length_set];exact h.len.1,h.len.2⟩
theorem zFs.hold{W0:World}{b gP sP gC sC gH sH L n:Nat}{m:Machine}{u:World}{ps:List (List Order)}{cs:List Core}{hs:List Hold}(h:zFs W0 b gP sP gC sC gH sH L n m u ps cs hs){k:Nat}(hk:k < hs.length){v:Value}{p:List Int}(hv:Rsx [b,gP,gC,gH] L u v p) :
  zFs W0 b gP sP gC sC gH sH L n m (u.setCell ⟨gH,sH+k,none⟩ v) ps cs (hs.set k ⟨p⟩):=by
 have hne:hs ≠ []:=fun e=>by rw[e] at hk;cases hk
 have hq:=h.ne.2.2.2.resolve_left hne;have hfz:=h.fz.2.2.resolve_left hne;have hmw:Mw [gH] u (u.setCell ⟨gH,sH+k,none⟩ v):=Mw.ofMo ((Mo.refl _ _).set (by simp) _)
 refine { mw:=h.mw.set (.inl (by simp)) _,rp:=?_,rc:=?_,rh:=?_,fz:=⟨h.fz.1.set _ _,h.fz.2.1.set _ _,.inr (hfz.set _ _)⟩,ne:=⟨h.ne.1,h.ne.2.1,h.ne.2.2.1,.inr hq⟩,len:=⟨h.len.1,h.len.2.1,by rw[List.length_set];exact h.len.2.2⟩ }
 ·exact h.rp.keep hmw (by simp) (.inr fun j=>World.cell?_of_block (zA4 hq.1.symm))
 ·exact h.rc.keep hmw (by simp) (.inr fun j=>World.cell?_of_block (zA4 hq.2.1.symm))
 ·obtain⟨F,h1,h2⟩:=hv;obtain⟨ocs,oF,o1,o2,o3⟩:=h.rh k hs[k] (List.getElem?_eq_getElem hk);obtain⟨ov,rfl,_⟩:=o1;have hc0:=o2 0 ov rfl;simp only[GT.sz,Nat.mul_one,Nat.add_zero] at hc0;refine h.rh.upd hmw (by simp) (cs':=[v]) (F':=F) (fun j hj=>zA3 ?_) ⟨v,rfl,hmw.sl h1 (fun y hy hf=>(h2 y hy).2 (by simp at hf;simp[hf]))⟩ (fun j w hj=>?_) h2
  ·simp only[GT.sz,Nat.mul_one] at hj;omega
  ·match j,hj with
   | 0,hj=>cases hj;simp only[GT.sz,Nat.mul_one,Nat.add_zero];exact zAq hc0
theorem zFs.core{W0:World}{b gP sP gC sC gH sH L n:Nat}{m:Machine}{u u':World}{ps:List (List Order)}{cs:List Core}{hs:List Hold}(h:zFs W0 b gP sP gC sC gH sH L n m u ps cs hs){k:Nat}(hk:k < cs.length){F:List Nat}{y:Core}
  (hm:Mw [b,gC] u u') (hc:∀ j,j < sC+k*3\/sC+k*3+3<=j->u'.cell? ⟨gC,j,none⟩=u.cell? ⟨gC,j,none⟩) (hz:Fz u' gC) (hy:Om L u' gC (sC+k*3) y F) (hF:∀ z∈F,z ∉ [b,gP,gC,gH]):zFs W0 b gP sP gC sC gH sH L n m u' ps (cs.set k y) hs:=by
 have hpc:∀ j,u'.cell? ⟨gP,j,none⟩=u.cell? ⟨gP,j,none⟩:=fun j=>hm.cell (by simp[h.ne.1.symm,h.ne.2.2.1]) h.fz.1.lt
 refine { mw:=h.mw.tr (hm.wide (by simp)),rp:=h.rp.keep hm (by simp) (.inr hpc),rc:=?_,rh:=?_,fz:=⟨h.fz.1.of (hm.2.2 _ h.fz.1.lt (by simp[h.ne.1.symm,h.ne.2.2.1])),hz,?_⟩,ne:=h.ne,len:=⟨h.len.1,by rw[List.length_set];exact h.len.2.1,h.len.2.2⟩ }
 ·obtain⟨cs',h1,h2,h3⟩:=hy;exact h.rc.upd hm (by simp) hc h1 h2 (fun z hz=>⟨(h3.2 z (List.mem_cons_of_mem _ hz)).1,hF z hz⟩)
 ·refine h.rh.keep hm (by simp) ?_
  rcases h.ne.2.2.2 with e|q
  ·exact .inl e
  ·rcases h.fz.2.2 with e|f
   ·exact .inl e
   ·exact .inr fun j=>hm.cell (by simp[q.2.1,q.2.2]) f.lt
 ·rcases h.ne.2.2.2 with e|q
  ·exact .inl e
  ·exact h.fz.2.2.imp id fun f=>f.of (hm.2.2 _ f.lt (by simp[q.2.1,q.2.2]))
theorem RQ.mono{α:Type}[GT α]{G:List Nat}{L L':Nat}{u:World}{g s:Nat}{xs:List α}(h:RQ G L u g s xs)(k:L'<=L):RQ G L' u g s xs:=fun i x hi=>by
 obtain⟨cs,F,h1,h2,h3⟩:=h i x hi;exact⟨cs,F,h1,h2,fun y hy=>⟨Nat.le_trans k (h3 y hy).1,(h3 y hy).2⟩⟩
theorem Rsx.blk{α:Type}[GT α]{G:List Nat}{L:Nat}{w:World}{g s n c:Nat}{xs:List α}(h:Rsx G L w (.slice (some ⟨g,s,none⟩) n c) xs)(hx:0 < xs.length):g ∉ G/\L<=g:=by
 obtain⟨F,⟨a,c',e,_,_,⟨e2,_⟩ | ⟨_,b,o,F',e3,rfl,_⟩⟩,h2⟩:=h
 ·rw[e2] at hx;cases hx
 ·cases e;cases e3
  have:=h2 g (List.mem_cons_self ..)
  exact⟨this.2,this.1⟩
theorem Rsx.rs{α:Type}[GT α]{G:List Nat}{L:Nat}{w:World}{v:Value}{xs:List α}(h:Rsx G L w v xs):Rs w v xs:=h.rsb.rs
theorem zFs.mwb{W0:World}{b gP sP gC sC gH sH L n:Nat}{m:Machine}{u u':World}{ps:List (List Order)}{cs:List Core}{hs:List Hold}(h:zFs W0 b gP sP gC sC gH sH L n m u ps cs hs)(hm:Mw [b] u u'):zFs W0 b gP sP gC sC gH sH L n m u' ps cs hs where
 mw:=h.mw.tr (hm.wide (by simp))
 rp:=h.rp.keep hm (by simp) (.inr fun j=>hm.cell (by simp[h.ne.1.symm]) h.fz.1.lt)
 rc:=h.rc.keep hm (by simp) (.inr fun j=>hm.cell (by simp[h.ne.2.1.symm]) h.fz.2.1.lt)
 rh:=h.rh.keep hm (by simp) (by
  rcases h.ne.2.2.2 with e|q
  ·exact .inl e
  ·exact h.fz.2.2.imp id fun f j=>hm.cell (by simp[q.2.2]) f.lt)
 fz:=⟨h.fz.1.of (hm.2.2 _ h.fz.1.lt (by simp[h.ne.1.symm])),h.fz.2.1.of (hm.2.2 _ h.fz.2.1.lt (by simp[h.ne.2.1.symm])),by
  rcases h.ne.2.2.2 with e|q
  ·exact .inl e
  ·exact h.fz.2.2.imp id fun f=>f.of (hm.2.2 _ f.lt (by simp[q.2.2]))⟩
 ne:=h.ne
 len:=h.len
theorem zFs.base{W0:World}{b gP sP gC sC gH sH L n:Nat}{m:Machine}{u:World}{ps:List (List Order)}{cs:List Core}{hs:List Hold}(h:zFs W0 b gP sP gC sC gH sH L n m u ps cs hs):zFs u b gP sP gC sC gH sH L n m u ps cs hs:={ h with mw:=Mw.refl _ _ }
theorem core_new{L M:Nat}{u w:World}{g o:Nat}{a c d v:Value}{y:Core}{G:List Nat}(he:Ext u w)(hz:Fz u g)(h0:u.cell? ⟨g,o,none⟩=some a)(h1:u.cell? ⟨g,o+1,none⟩=some c)(h2:u.cell? ⟨g,o+2,none⟩=some d)(hen:GT.enc w [v,.int .i64 y.At,.bool y.Stopped] y G)(how:Own M w G)(hM:u.heap.size<=M)(hL:L<=g)(hLM:L<=M) :
  Om L (((w.setCell ⟨g,o,none⟩ v).setCell ⟨g,o+1,none⟩ (.int .i64 y.At)).setCell ⟨g,o+2,none⟩ (.bool y.Stopped)) g o y G/\Mw [g] u (((w.setCell ⟨g,o,none⟩ v).setCell ⟨g,o+1,none⟩ (.int .i64 y.At)).setCell ⟨g,o+2,none⟩ (.bool y.Stopped)) /\
   (∀ j,j < o\/o+3<=j->(((w.setCell ⟨g,o,none⟩ v).setCell ⟨g,o+1,none⟩ (.int .i64 y.At)).setCell ⟨g,o+2,none⟩ (.bool y.Stopped)).cell? ⟨g,j,none⟩=u.cell? ⟨g,j,none⟩)/\(∀ z∈G,M<=z):=by
 have hg:g < u.heap.size:=hz.lt;have hgG:g ∉ G:=fun hm=>by have:=(how.2 g hm).1;omega
 have e0:=(zA0 he hg).trans h0;have e1:=(zA0 he hg).trans h1;have e2:=(zA0 he hg).trans h2;refine⟨⟨_,GT.keep hen (fun k hk=>?_),?_,?_⟩,(((Mw.ofExt he).set (p:=⟨g,o,none⟩) (.inl (by simp)) _).set (p:=⟨g,o+1,none⟩) (.inl (by simp)) _).set (p:=⟨g,o+2,none⟩) (.inl (by simp)) _,fun j hj=>?_,fun z hz=>(how.2 z hz).1⟩
 ·have hne:k≠g:=fun e=>hgG (e ▸ hk)
  rw[zA4 (by exact hne),zA4 (by exact hne),zA4 (by exact hne)]
 ·intro j x hj
  match j,hj with
  | 0,hj=>cases hj;rw[zA3 (by omega),zA3 (by omega)];exact zAq e0
  | 1,hj=>cases hj;rw[zA3 (by omega)];exact zAq ((zA3 (by omega)).trans e1)
  | 2,hj=>cases hj;exact zAq ((zA3 (by omega)).trans ((zA3 (by omega)).trans e2))
 ·refine⟨List.nodup_cons.2 ⟨hgG,how.1⟩,fun k hk=>?_⟩
  rcases List.mem_cons.1 hk with rfl|hk
  ·exact⟨hL,(((hz.ext he).set _ _).set _ _).set _ _⟩
  ·exact⟨Nat.le_trans hLM (how.2 k hk).1,((((how.2 k hk).2).set _ _).set _ _).set _ _⟩
 ·rw[zA3 (by omega),zA3 (by omega),zA3 (by omega)];exact zA0 he hg
def M.OI(W0 W:World)(b gP sP gC sC gH sH L r:Nat)(m:Machine)(u:World):Prop:=∃ ps cs hs,zFs W0 b gP sP gC sC gH sH L 0 m u ps cs hs/\Rd W u b r
theorem zFs.cell0{W0 Ub Uc Ud:World}{b gP sP gC sC gH sH L n:Nat}{m:Machine}{ps:List (List Order)}{cs:List Core}{hs:List Hold}{k:Nat}{kc:Core}{FN:List Nat}{kk:Int}{g9 s9 n9 c9:Nat}(h:zFs W0 b gP sP gC sC gH sH L n m Ub ps cs hs)(hk:k < cs.length)
  (mwc:Mw [gC] Ub Uc) (cfar:∀ j,j < sC+k*3\/sC+k*3+3<=j->Uc.cell? ⟨gC,j,none⟩=Ub.cell? ⟨gC,j,none⟩) (hb:b < Ub.heap.size) (hgH:gH < Ub.heap.size) (hFN:∀ z∈FN,Ub.heap.size<=z) (md:Mw [b] Uc Ud) (om:Om L Ud gC (sC+k*3) kc FN)
  (ycc:Ud.cell? ⟨gC,sC+k*3,none⟩=some (.slice (some ⟨g9,s9,none⟩) n9 c9)) (h0:0 < kc.Cells.length) (hr:rng kk):zFs W0 b gP sP gC sC gH sH L n m (Ud.setCell ⟨g9,s9,none⟩ (.int .i64 kk)) ps (cs.set k { kc with Cells:=kc.Cells.set 0 kk }) hs:=by
 obtain⟨g,s,e,hgne,hgF,hgl,hg0,hgf,hgr,hset⟩:=om.cellC ycc 0 h0;cases e;obtain⟨F',om',hsub,_⟩:=hset kk hr;rw[Nat.add_zero] at om';have hge:=hFN g9 hgF;have hCg:gC≠g9:=hgne.symm;have l1:=h.fz.1.lt;have l2:=h.fz.2.1.lt;refine h.core hk (F:=F') (((mwc.wide (by simp)).tr (md.wide (by simp))).set (.inr hge) _) (fun j hj=>(World.cell?_of_block (zA4 hCg)).trans ((md.cell (by simp[h.ne.2.1.symm]) (zl l2 mwc.size)).trans (cfar j hj))) om'.own0 om' (fun z hz hm=>?_)
 have:=hFN z (hsub z hz)
 simp only[List.mem_cons,List.not_mem_nil,or_false] at hm;omega
theorem Rsx.lit1{G:List Nat}{L:Nat}{u:World}{z:Int}{T:TypeId}(hz:rng z)(hL:L<=u.heap.size)(hG:∀ g∈G,g < u.heap.size):Rsx G L (u.alloc (.cells #[.int .i64 z] T (0,0))) (.slice (some ⟨u.heap.size,0,none⟩) 1 1) [z] :=
 ⟨[u.heap.size],⟨_,1,rfl,by simp,by unfold maxLen;omega,.inr ⟨by simp,u.heap.size,0,[],rfl,rfl,Row.lit1 (cs:=[.int .i64 z]) ⟨rfl,hz,rfl⟩⟩⟩,fun k hk=>by
  rw[List.mem_singleton] at hk;subst hk;exact⟨hL,fun hm=>by have:=hG _ hm;omega⟩⟩
theorem zFs.held{W0 u Ud:World}{b gP sP gC sC gH sH L n:Nat}{m:Machine}{ps:List (List Order)}{cs:List Core}{hs:List Hold}{k:Nat}{kk:Int}{T:TypeId}(h:zFs W0 b gP sP gC sC gH sH L n m u ps cs hs)(hk:k < hs.length)(md:Mw [b] u Ud)(hr:rng kk)(hL:L<=Ud.heap.size)(hb:b < Ud.heap.size) :
  zFs W0 b gP sP gC sC gH sH L n m ((Ud.alloc (.cells #[.int .i64 kk] T (0,0))).setCell ⟨gH,sH+k,none⟩ (.slice (some ⟨Ud.heap.size,0,none⟩) 1 1)) ps cs (hs.set k ⟨[kk]⟩):=by
 have hne:hs ≠ []:=fun e=>by rw[e] at hk;cases hk
 have h2:=h.mwb md;have l1:=h2.fz.1.lt;have l2:=h2.fz.2.1.lt;have l3:=(h2.fz.2.2.resolve_left hne).lt;exact(h2.ext ((zr Ud).alloc _)).hold hk (Rsx.lit1 hr hL (fun g hg=>by
  simp only[List.mem_cons,List.not_mem_nil,or_false] at hg
  omega))
theorem zFs.rvb{W0 u:World}{b gP sP gC sC gH sH L n u3 u4 u5:Nat}{t5:Option Addr}{x:Machine}{ps:List (List Order)}{cs:List Core}{hs:List Hold}{v0 v1 v2:Value}(h:zFs W0 b gP sP gC sC gH sH L n x u ps cs hs)(h0:Rsx [b,gP,gC,gH] L u v0 x.Plan.Parts)(h1:Rsx [b,gP,gC,gH] L u v1 x.Plan.Channels)(h2:Rsx [b,gP,gC,gH] L u v2 x.Plan.Slots)
  (hP:L<=gP) (hC:L<=gC) (hH:L<=gH) (k3:x.Programs.length<=u3/\u3<=maxLen) (k4:x.Cores.length<=u4/\u4<=maxLen) (k5:x.Holds.length<=u5/\u5<=maxLen) (hv5:x.Holds = []\/∃ n c,Value.slice t5 x.Holds.length u5 = .slice (some ⟨gH,sH,none⟩) n c) (r:rng x.Tick) :
  Rvb (α:=Machine) L u (.agg #[v0,v1,v2,.slice (some ⟨gP,sP,none⟩) x.Programs.length u3,.slice (some ⟨gC,sC,none⟩) x.Cores.length u4,.slice t5 x.Holds.length u5,.int .i64 x.Tick]) { x with Programs:=ps,Cores:=cs,Holds:=hs }:=by
 obtain⟨l1,l2,l3⟩:=h.len;refine Rvb.mkM (m:={ x with Programs:=ps,Cores:=cs,Holds:=hs }) h0.rsb h1.rsb h2.rsb ?_ ?_ ?_ r
 ·rw[<- l1] at k3 ⊢;exact h.rp.rsb hP k3.1 k3.2
 ·rw[<- l2] at k4 ⊢;exact h.rc.rsb hC k4.1 k4.2
 ·rcases hv5 with e | ⟨n,c,e⟩
  ·exact Rsb.nil (by rw[e];rfl) (List.eq_nil_of_length_eq_zero (by rw[l3,e];rfl)) (by have:=k5.2;unfold maxLen at this;omega)
  ·cases e;rw[<- l3] at k5 ⊢;exact h.rh.rsb hH k5.1 k5.2
end Sk
