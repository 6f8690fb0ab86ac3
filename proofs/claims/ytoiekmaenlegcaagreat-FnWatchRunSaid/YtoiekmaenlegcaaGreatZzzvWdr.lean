/- Contracts of functions of the given program. -/
import Derived.Test.YtoiekmaenlegcaaGreatZzhSame
import Derived.Test.YtoiekmaenlegcaaGreatZkWch
namespace Sk
open Go Go.Proofs Go.RowKit
set_option maxHeartbeats 4000000
set_option maxRecDepth 100000
set_option linter.unusedVariables false
set_option linter.unusedSimpArgs false
theorem zI1{α:Type}[GT α](xs:List α)(y : α):∀ (i:Nat) (x : α),xs[i]? = some x->GT.tot y=GT.tot x->GT.tot (xs.set i y)=GT.tot xs:=by
 intro i x hx he
 show(xs.set i y).length+((xs.set i y).map GT.tot).sum=xs.length+(xs.map GT.tot).sum
 have h:((xs.set i y).map GT.tot).sum=(xs.map GT.tot).sum:=by
  induction xs generalizing i with
  | nil=>simp
  | cons a xs ih =>
   cases i with
   | zero =>
    obtain rfl:a=x:=by simpa using hx
    simp only[List.set_cons_zero,List.map_cons,List.sum_cons,he]
   | succ i=>have:=ih i (by simpa using hx);simp only[List.set_cons_succ,List.map_cons,List.sum_cons];omega
 rw[List.length_set,h]
theorem zNs{m:Machine}{n:Nat}(h:n < m.Cores.length):GT.tot (zFw m n)=GT.tot m:=by
 rw[zD1,zD1];have e:GT.tot (zFw m n).Cores=GT.tot m.Cores:=by
  have hk:m.Cores[n]? = some m.Cores[n]:=List.getElem?_eq_getElem h
  show GT.tot (m.Cores.set n (zCs (m.Cores.getD n zLo)))=_
  refine zI1 _ _ n _ hk ?_;rw[List.getD_eq_getElem?_getD,hk]
  rfl
 rw[e]
 rfl
theorem zNa(x:Watch)(n:Nat)(k:Health):GT.tot ({ x with States:=x.States.set n k }:Watch)=GT.tot x:=by
 have h6:∀ x:Watch,GT.tot x=GT.tot x.Box+GT.tot x.States:=fun _=>rfl
 rw[h6,h6];by_cases h:n < x.States.length
 ·rw[show GT.tot (x.States.set n k)=GT.tot x.States from zI1 _ _ n _ (List.getElem?_eq_getElem h) rfl]
 ·rw[List.set_eq_of_length_le (by omega)]
theorem Om.rvbkW{L L':Nat}{u:World}{X:Nat}{y:Watch}{F:List Nat}{c0 c1 c2 c3 c4 c5 c6 c7:Value}{T:TypeId}(h:Om L u X 0 y F)(k:Bk u X [c0,c1,c2,c3,c4,c5,c6,c7] T)(hL:L'<=L):Rvb L' u (.agg #[c0,c1,c2,c3,c4,c5,c6,c7]) y:=by
 obtain⟨cs,hen,hat,ho⟩:=h;obtain⟨v0,v1,v2,v3,v4,v5,v7,F0,F1,F2,F3,F4,F5,F7,rfl,h0,h1,h2,h3,h4,h5,h7,r,hF⟩:=id hen;have e:∀ (j:Nat) (v w:Value),[v0,v1,v2,v3,v4,v5,.int .i64 y.Box.Tick,v7][j]? = some v -> [c0,c1,c2,c3,c4,c5,c6,c7][j]? = some w->v=w:=fun j v w h1 h2=>by
  have g1:=hat j v h1;rw[Nat.zero_add] at g1;exact Option.some.inj (g1.symm.trans (k.cell h2))
 obtain rfl:=e 0 _ _ rfl rfl;obtain rfl:=e 1 _ _ rfl rfl;obtain rfl:=e 2 _ _ rfl rfl;obtain rfl:=e 3 _ _ rfl rfl;obtain rfl:=e 4 _ _ rfl rfl;obtain rfl:=e 5 _ _ rfl rfl;obtain rfl:=e 6 _ _ rfl rfl;obtain rfl:=e 7 _ _ rfl rfl;exact⟨_,_,rfl,hen,fun k hk=>Nat.le_trans hL (ho.2 k (List.mem_cons_of_mem _ hk)).1⟩
theorem Rvb.states{L:Nat}{w:World}{c0 c1 c2 c3 c4 c5 c6 c7:Value}{x:Watch}(h:Rvb L w (.agg #[c0,c1,c2,c3,c4,c5,c6,c7]) x):Rsb L w c7 x.States/\∀ (v:Value) (ys:List Health),Rsb L w v ys->Rvb L w (.agg #[c0,c1,c2,c3,c4,c5,c6,v]) ({ x with States:=ys }:Watch):=by
 obtain⟨cs,F,e,⟨v0,v1,v2,v3,v4,v5,v7,F0,F1,F2,F3,F4,F5,F7,rfl,h0,h1,h2,h3,h4,h5,h7,r,rfl⟩,hk⟩:=h;have e2:=congrArg (fun v=>match v with | .agg a=>a.toList|_ => []) e
 simp only[List.cons.injEq,and_true] at e2;obtain⟨rfl,rfl,rfl,rfl,rfl,rfl,rfl,rfl⟩:=e2;refine⟨⟨F7,h7,fun k hk'=>hk k (by simp[hk'])⟩,fun v ys ⟨G,g1,g2⟩=>⟨_,_,rfl,⟨_,_,_,_,_,_,_,F0,F1,F2,F3,F4,F5,G,rfl,h0,h1,h2,h3,h4,h5,g1,r,rfl⟩,fun k hk'=>?_⟩⟩
 simp only[List.mem_append] at hk hk';rcases hk' with h|h|h|h|h|h|h
 ·exact hk k (.inl h)
 ·exact hk k (.inr (.inl h))
 ·exact hk k (.inr (.inr (.inl h)))
 ·exact hk k (.inr (.inr (.inr (.inl h))))
 ·exact hk k (.inr (.inr (.inr (.inr (.inl h)))))
 ·exact hk k (.inr (.inr (.inr (.inr (.inr (.inl h))))))
 ·exact g2 k h
theorem Rvb.openWc{L:Nat}{w:World}{v:Value}{x:Watch}(h:Rvb L w v x):∃ p0 q0 p1 q1 p2 q2 p3 q3 p4 q4 p5 q5 p7 q7,v = .agg #[.slice p0 x.Box.Plan.Parts.length q0,.slice p1 x.Box.Plan.Channels.length q1,.slice p2 x.Box.Plan.Slots.length q2,.slice p3 x.Box.Programs.length q3,.slice p4 x.Box.Cores.length q4,.slice p5 x.Box.Holds.length q5,.int .i64 x.Box.Tick,.slice p7 x.States.length q7]/\x.States.length<=9223372036854775807:=by
 obtain⟨cs,F,rfl,⟨v0,v1,v2,v3,v4,v5,v7,F0,F1,F2,F3,F4,F5,F7,rfl,⟨_,_,rfl,_⟩,⟨_,_,rfl,_⟩,⟨_,_,rfl,_⟩,⟨_,_,rfl,_⟩,⟨_,_,rfl,_⟩,⟨_,_,rfl,_⟩,h7,_⟩,_⟩:=h;obtain⟨a7,c7,rfl,g7⟩:=Rs.form ⟨_,h7⟩;exact⟨_,_,_,_,_,_,_,_,_,_,_,_,_,_,rfl,g7⟩
def zFs(T:TypeId)(W w:World)(b r R B L N tt:Nat)(cs:List Value)(u:World):Prop:=∃ (x:Watch) (F:List Nat),Om L u B 0 x F/\x.States.length=N/\x.Box.Cores.length=N/\GT.tot x=tt/\Mw [b] w u/\Rd W u b r/\Bk u R [.slice none 0 0,.slice none 0 0,.slice none 0 0,.slice none 0 0,.slice none 0 0,.slice none 0 0,.int .i64 0,.slice none 0 0] T/\Bk u B cs T
def M.WR(T:TypeId)(W w:World)(b r R B:Nat)(u:World):Prop:=∃ (x:Watch) (v0 v1 v2 v3 v4 v5 v6 v7:Value),Rvb (α:=Watch) (w.heap.size+1) u (.agg #[v0,v1,v2,v3,v4,v5,v6,v7]) x/\GT.tot x<=300000/\Mw [b] w u/\Rd W u b r/\Bk u R [.slice none 0 0,.slice none 0 0,.slice none 0 0,.slice none 0 0,.slice none 0 0,.slice none 0 0,.int .i64 0,.slice none 0 0] T/\Bk u B [v0,v1,v2,v3,v4,v5,v6,v7] T
theorem zFs.wr{T:TypeId}{W w:World}{b r r' R B L N tt:Nat}{v0 v1 v2 v3 v4 v5 v6 v7:Value}{u:World}(h:zFs T W w b r R B L N tt [v0,v1,v2,v3,v4,v5,v6,v7] u)(hL:w.heap.size+1<=L)(ht:tt<=300000)(hr:r'<=r):M.WR T W w b r' R B u:=by
 obtain⟨x,F,om,-,-,e,mw,rd,kr,kb⟩:=h;exact⟨x,_,_,_,_,_,_,_,_,om.rvbkW kb hL,by omega,mw,rd.le hr,kr,kb⟩
theorem zFs.ext{T:TypeId}{W w:World}{b r R B L N tt:Nat}{cs:List Value}{u u':World}(h:zFs T W w b r R B L N tt cs u)(he:Ext u u'):zFs T W w b r R B L N tt cs u':=by
 obtain⟨x,F,om,h1,h2,e,mw,rd,kr,kb⟩:=h;exact⟨x,F,om.ext he,h1,h2,e,mw.tr (Mw.ofExt he),rd.ext he,kr.ext he,kb.ext he⟩
theorem zFs.call{T:TypeId}{W w:World}{b r r' R B L N tt:Nat}{cs:List Value}{u u':World}(h:zFs T W w b r R B L N tt cs u)(hm:Mw [b] u u')(hr:Rd W u' b r')(hb:b < L)(hR:R≠b):zFs T W w b r' R B L N tt cs u':=by
 obtain⟨x,F,om,h1,h2,e,mw,rd,kr,kb⟩:=h
 have:=om.bk.2.1
 exact⟨x,F,om.mw hm (by simp;omega),h1,h2,e,mw.tr hm,hr,hm.bk kr (by simp;omega),hm.bk kb (by simp;omega)⟩
theorem zFs.put{T:TypeId}{W w:World}{b r R B L N tt g s n c k:Nat}{cs:List Value}{u:World}(h:zFs T W w b r R B L N tt cs u)(h7:cs[7]? = some (.slice (some ⟨g,s,none⟩) n c))(hk:k < N)(y:Health)(hy:rng y.Restarts)(hwL:w.heap.size<=L)(hWL:W.heap.size<=L)(hb:b < L)(hR:R < L) :
  zFs T W w b r R B L N tt cs ((u.setCell ⟨g,s+k*2,none⟩ (.bool y.Frozen)).setCell ⟨g,s+k*2+1,none⟩ (.int .i64 y.Restarts)):=by
 obtain⟨x,F,om,h1,h2,e,mw,rd,kr,kb⟩:=h;have wb:=zDc.refl om;have hv:=kb.cell h7;obtain⟨k0,Fy,-,omk,hs,-⟩:=wb.st hv (N:=k) (by omega)
 have hg:=omk.bk.2.1;have hgB:g≠B:=(hs g (List.mem_cons_self ..)).2;obtain⟨F2,wb2⟩:=wb.putSt hv (N:=k) (by omega) y hy
 refine⟨{ x with States:=x.States.set k y },F2,wb2.om,by simpa using h1,h2,by rw[<- e];exact zNa x k y,(mw.set (p:=⟨g,s+k*2,none⟩) (.inr (by show w.heap.size<=g;omega)) _).set (p:=⟨g,s+k*2+1,none⟩) (.inr (by show w.heap.size<=g;omega)) _,(rd.set (p:=⟨g,s+k*2,none⟩) (by show b≠g;omega) (by show W.heap.size<=g;omega) _).set (p:=⟨g,s+k*2+1,none⟩) (by show b≠g;omega) (by show W.heap.size<=g;omega) _,(kr.set_ne (p:=⟨g,s+k*2,none⟩) (by show R≠g;omega) _).set_ne (p:=⟨g,s+k*2+1,none⟩) (by show R≠g;omega) _,(kb.set_ne (p:=⟨g,s+k*2,none⟩) (by show B≠g;omega) _).set_ne (p:=⟨g,s+k*2+1,none⟩) (by show B≠g;omega) _⟩
theorem zFs.stop{T:TypeId}{W w:World}{b r R B L N tt g s n c k:Nat}{cs:List Value}{u:World}(h:zFs T W w b r R B L N tt cs u)(h4:cs[4]? = some (.slice (some ⟨g,s,none⟩) n c))(hk:k < N)(hwL:w.heap.size<=L)(hWL:W.heap.size<=L)(hb:b < L)(hR:R < L) :
  zFs T W w b r R B L N tt cs (u.setCell ⟨g,s+k*3+2,none⟩ (.bool true)):=by
 obtain⟨x,F,om,h1,h2,e,mw,rd,kr,kb⟩:=h;have wb:=zDc.refl om;have hv:=kb.cell h4;obtain⟨Fm,omm,hsm,-⟩:=wb.box;obtain⟨k0,Fy,-,omk,hs,-⟩:=(zCb.refl omm).core hv (N:=k) (by omega)
 have hg:=omk.bk.2.1;have hgB:g≠B:=(hs g (List.mem_cons_self ..)).2;obtain⟨F2,wb2⟩:=wb.stop hv (N:=k) (by omega)
 refine⟨{ x with Box:=zFw x.Box k },F2,wb2.om,h1,by simpa [zFw] using h2,?_,mw.set (p:=⟨g,s+k*3+2,none⟩) (.inr (by show w.heap.size<=g;omega)) _,rd.set (p:=⟨g,s+k*3+2,none⟩) (by show b≠g;omega) (by show W.heap.size<=g;omega) _,kr.set_ne (p:=⟨g,s+k*3+2,none⟩) (by show R≠g;omega) _,kb.set_ne (p:=⟨g,s+k*3+2,none⟩) (by show B≠g;omega) _⟩
 rw[<- e]
 show GT.tot (zFw x.Box k)+GT.tot x.States=GT.tot x.Box+GT.tot x.States
 rw[zNs (by omega)]
theorem zFs.kb{T:TypeId}{W w:World}{b r R B L N tt:Nat}{cs:List Value}{u:World}(h:zFs T W w b r R B L N tt cs u):Bk u B cs T:=by obtain⟨x,F,om,h1,h2,e,mw,rd,kr,kb⟩:=h;exact kb
theorem zFs.rdr{T:TypeId}{W w:World}{b r R B L N tt:Nat}{cs:List Value}{u:World}(h:zFs T W w b r R B L N tt cs u):Rd W u b r:=by obtain⟨x,F,om,h1,h2,e,mw,rd,kr,kb⟩:=h;exact rd
theorem zFs.le{T:TypeId}{W w:World}{b r r' R B L N tt:Nat}{cs:List Value}{u:World}(h:zFs T W w b r R B L N tt cs u)(k:r'<=r):zFs T W w b r' R B L N tt cs u:=by obtain⟨x,F,om,h1,h2,e,mw,rd,kr,kb⟩:=h;exact⟨x,F,om,h1,h2,e,mw,rd.le k,kr,kb⟩
theorem zFs.tail{T:TypeId}{W w:World}{b r r' R B L N tt g s c:Nat}{v0 v1 v2 v3 v4 v5 v6:Value}{u:World}(h:zFs T W w b r R B L N tt [v0,v1,v2,v3,v4,v5,v6,.slice (some ⟨g,s,none⟩) N c] u)(hN:1<=N)(hL:w.heap.size+1<=L)(ht:tt<=300000)(hr:r'<=r)(hWL:W.heap.size<=L)(hb:b < L)(hR:R < L)(v':Value)
  (hv:v' = .slice (some ⟨g,s+2,none⟩) (N - 1) (c - 1)\/(N=1/\∃ a,v' = .slice a 0 0)):M.WR T W w b r' R B (u.setCell ⟨B,7,none⟩ v'):=by
 obtain⟨x,F,om,h1,h2,e,mw,rd,kr,kb⟩:=h;have hlB:=om.bk.2.1;have hBF:=om.bk.2.2.1;have rv:=om.rvbkW kb hL;have rv2:Rvb (α:=Watch) (w.heap.size+1) (u.setCell ⟨B,7,none⟩ v') (.agg #[v0,v1,v2,v3,v4,v5,v6,.slice (some ⟨g,s,none⟩) N c]) x:=by
  obtain⟨cs,hen,hat,ho⟩:=om;obtain⟨cs',F',e',hen',hF'⟩:=rv;have hcs:cs'=cs:=by
   have hl1:=GT.len hen;have hl2:=GT.len hen';have e2:=congrArg (fun v=>match v with | .agg a=>a.toList|_ => []) e'
   simp only at e2;refine List.ext_getElem? fun j=>?_
   rw[<- e2];by_cases hj:j < 8
   ·have g1:=hat j _ (List.getElem?_eq_getElem (by rw[hl1];exact hj))
    rw[Nat.zero_add] at g1;have hj2:j < [v0,v1,v2,v3,v4,v5,v6,.slice (some ⟨g,s,none⟩) N c].length:=hj;have g2:=kb.cell (List.getElem?_eq_getElem hj2);rw[List.getElem?_eq_getElem hj2,List.getElem?_eq_getElem (by rw[hl1];exact hj)]
    exact(g2.symm.trans g1)
   ·rw[List.getElem?_eq_none (by show 8<=j;omega),List.getElem?_eq_none (by rw[hl1];show 8<=j;omega)]
  subst hcs;exact⟨_,F,e',GT.keep hen (fun k hk=>zA4 (fun e=>hBF (by have e':k=B:=e;rw[<- e'];exact hk))),fun k hk=>Nat.le_trans hL (ho.2 k (List.mem_cons_of_mem _ hk)).1⟩
 obtain⟨q1,q2⟩:=rv2.states;obtain⟨a,l,hal⟩:∃ a l,x.States=a::l:=by
  cases hx:x.States with
  | nil=>rw[hx] at h1;simp at h1;omega
  | cons a l=>exact⟨a,l,rfl⟩
 have hl:l.length=N - 1:=by rw[hal] at h1;simp at h1;omega
 have q3:Rsb (w.heap.size+1) (u.setCell ⟨B,7,none⟩ v') v' l:=by
  rcases hv with rfl | ⟨hN1,a,rfl⟩
  ·rw[hal] at q1;exact Rsb.tail q1
  ·exact Rsb.nil rfl (List.length_eq_zero_iff.1 (by omega)) (by omega)
 refine⟨{ x with States:=l },_,_,_,_,_,_,_,_,q2 _ _ q3,?_,mw.set (p:=⟨B,7,none⟩) (.inr (by show w.heap.size<=B;omega)) _,(rd.set (p:=⟨B,7,none⟩) (by show b≠B;omega) (by show W.heap.size<=B;omega) _).le hr,kr.set_ne (p:=⟨B,7,none⟩) (by show R≠B;omega) _,by have:=kb.set 7 v';simpa using this⟩
 have e1:GT.tot x=GT.tot x.Box+GT.tot x.States:=rfl;have e2:GT.tot ({ x with States:=l }:Watch)=GT.tot x.Box+GT.tot l:=rfl
 have e3:=zMl a l;rw[hal] at e1;omega
theorem zFs.at7{T:TypeId}{W w:World}{b r R B L N tt n c k:Nat}{ad:Option Addr}{cs:List Value}{u:World}(h:zFs T W w b r R B L N tt cs u)(h7:cs[7]? = some (.slice ad n c))(hk:k < N):∃ g s fz rs,ad=some ⟨g,s,none⟩/\n=N/\u.cell? ⟨g,s+k*2,none⟩=some (.bool fz)/\u.cell? ⟨g,s+k*2+1,none⟩=some (.int .i64 rs)/\(∀ j,u.frozen? ⟨g,j,none⟩=false)/\g < u.heap.size/\L<=g/\g≠B:=by
 obtain⟨x,F,om,h1,h2,e,mw,rd,kr,kb⟩:=h;obtain⟨g7,s7,u7,g4,s4,u4,e7,e4⟩:=om.wcells (N:=k) (by omega) (by omega)
 have hv:=kb.cell h7;rw[e7] at hv;have hv':=Option.some.inj hv;simp only[Value.slice.injEq] at hv';obtain⟨rfl,rfl,rfl⟩:=hv';obtain⟨k0,Fy,-,omk,hs,-⟩:=(zDc.refl om).st e7 (N:=k) (by omega)
 obtain⟨-,c0,c1,-⟩:=omk.openHe;exact⟨g7,s7,_,_,rfl,h1,c0,c1,omk.bk.2.2.2,omk.bk.1,omk.bk.2.1,(hs g7 (List.mem_cons_self ..)).2⟩
theorem zFs.at4{T:TypeId}{W w:World}{b r R B L N tt n c k:Nat}{ad:Option Addr}{cs:List Value}{u:World}(h:zFs T W w b r R B L N tt cs u)(h4:cs[4]? = some (.slice ad n c))(hk:k < N):∃ g s st,ad=some ⟨g,s,none⟩/\n=N/\u.cell? ⟨g,s+k*3+2,none⟩=some (.bool st)/\(∀ j,u.frozen? ⟨g,j,none⟩=false)/\g < u.heap.size/\L<=g/\g≠B:=by
 obtain⟨x,F,om,h1,h2,e,mw,rd,kr,kb⟩:=h;obtain⟨g7,s7,u7,g4,s4,u4,e7,e4⟩:=om.wcells (N:=k) (by omega) (by omega)
 have hv:=kb.cell h4;rw[e4] at hv;have hv':=Option.some.inj hv;simp only[Value.slice.injEq] at hv';obtain⟨rfl,rfl,rfl⟩:=hv';obtain⟨Fm,omm,hsm,-⟩:=(zDc.refl om).box;obtain⟨k0,Fy,-,omk,hs,-⟩:=(zCb.refl omm).core e4 (N:=k) (by omega)
 obtain⟨_,_,-,-,c2,-⟩:=omk.openC;exact⟨g4,s4,_,rfl,h2,c2,omk.bk.2.2.2,omk.bk.1,omk.bk.2.1,(hs g4 (List.mem_cons_self ..)).2⟩
theorem zEj(W w:World)(b m:Nat)(n:Int)(h:Rd W w b (m+100+1100))(hn:rng n) :
  Calls Tryz.prog 26 #[.pointer (some ⟨b,0,none⟩),.int .i64 n] w fun e w' => ∃ v' x,e = .returned v'/\Rvb (α:=Watch) w.heap.size w' v' x/\GT.tot x<=300000/\Mw [b] w w'/\Rd W w' b m:=by
 have H:=zh h;have hbl:=h.lt;have hbW:=h.1;have hWw:=h.2.1.sz;clear h;go_enter Tryz.func26,Tryz.ntmps26;go_upto_region 1 with (fail)
 refine zA1 (fun u=>Ext w u/\Bk u w.heap.size [.slice none 0 0,.slice none 0 0,.slice none 0 0,.slice none 0 0,.slice none 0 0,.slice none 0 0,.int .i64 0,.slice none 0 0] 35) ⟨(zr _).alloc _,Bk.new _ _ _⟩ ?_
 rintro W0 ⟨e0,kR⟩;have HE0:=zh e0;have KR0:=zh kR;have lR0:=kR.lt;clear e0 kR;go_upto_region 2 with (first
  | (go_at_call 58;refine(zKw _ mm _ HV.out.rv).mono ?_;rintro e w3 ⟨v3,rfl,ho,he⟩;obtain⟨x0,hx0⟩:∃ x0,zF9 mm=x0:=⟨_,rfl⟩;rw[hx0] at ho;obtain⟨cs3,F3,rfl,hen,how⟩:=ho;obtain⟨v0,v1',v2,v3',v4,v5,v7,G0,G1,G2,G3,G4,G5,G7,rfl,⟨t0,u0,rfl,-⟩,⟨t1,u1,rfl,-⟩,⟨t2,u2,rfl,-⟩,⟨t3,u3,rfl,-⟩,⟨t4,u4,rfl,-⟩,⟨t5,u5,rfl,-⟩,⟨t7,u7,rfl,h7l,h7m,-⟩,-,-⟩:=id hen;have HX0:=zh hx0;have HEN:=zh hen;have HOW:=zh how;have E13:=zh he;clear hen how he hx0)
  | (go_at_call 59;refine(zJj W _ b (m+100) n (H.out.ext HE0.out) hn).mono ?_;rintro e w1 ⟨v1,mm,rfl,hv,htt,-,hm,hr⟩;have HV:=zh hv;have HTT:=zh htt;have KR1:=zh (hm.bk KR0.out (by simp;omega));have MW1:=zh ((Mw.ofExt HE0.out).tr hm);have RD1:=zh hr;clear hv htt hm hr))
 have hx0:=HX0.out;obtain⟨N,hN⟩:∃ N,x0.States.length=N:=⟨_,rfl⟩;have hfacts:x0.Box.Cores.length=N/\N<=5/\GT.tot x0<=300000:=by
  rw[<- hN,<- hx0];cases g:zEm mm;·rw[zHn g];exact⟨rfl,Nat.zero_le _,by decide⟩
  ·rw[zHo g];have h5:=zAc (zBj.1 g).pg.set;have h6:=(zBj.1 g).nc;have h7:=HTT.out;refine⟨by simp,by simp;omega,?_⟩
   show GT.tot mm+GT.tot (List.replicate mm.Cores.length (⟨false,0⟩:Health))<=_
   have h8:=zCf 0 5 (List.replicate mm.Cores.length (⟨false,0⟩:Health)) (by simp;omega) (fun y _=>Nat.le_refl 0)
   omega
 clear hx0 HX0;obtain⟨hNc,hN5,htx⟩:=hfacts;obtain⟨L,hL⟩:∃ L,L=w1.heap.size:=⟨_,rfl⟩;rw[<- hL] at HOW;obtain⟨B,hB⟩:∃ B,B=w3.heap.size:=⟨_,rfl⟩;have hLB:L<=B:=by have:=E13.out.sz;omega
 have hRL:w.heap.size < L:=by have:=KR1.out.lt;omega
 have hBF:B ∉ F3:=fun hm=>by have:=GT.inh HEN.out B hm;omega
 have hbL:b < L:=by omega
 have hWL:W.heap.size<=L:=by omega
 refine zA1 (zFs 35 W w b (m+100) w.heap.size B L N (GT.tot x0) [.slice t0 x0.Box.Plan.Parts.length u0,.slice t1 x0.Box.Plan.Channels.length u1,.slice t2 x0.Box.Plan.Slots.length u2,.slice t3 x0.Box.Programs.length u3,.slice t4 x0.Box.Cores.length u4,.slice t5 x0.Box.Holds.length u5,.int .i64 x0.Box.Tick,.slice t7 x0.States.length u7]) ⟨x0,F3,Om.ofBk (by rw[hB];exact Bk.new _ _ _) (GT.ext HEN.out ((zr _).alloc _)) (HOW.out.ext ((zr _).alloc _)) hLB hBF,hN,hNc,rfl,(MW1.out.tr (Mw.ofExt E13.out)).tr (Mw.ofExt ((zr _).alloc _)),(RD1.out.ext E13.out).ext ((zr _).alloc _),(KR1.out.ext E13.out).ext ((zr _).alloc _),by rw[hB];exact Bk.new _ _ _⟩ ?_
 rw[<- hB];rintro W2 hwl;rw[hN,hNc] at hwl;have HWL:=zh hwl;obtain⟨tt,htt⟩:∃ tt,GT.tot x0=tt:=⟨_,rfl⟩;rw[htt] at HWL htx;obtain⟨n0,hn0⟩:∃ n0,x0.Box.Plan.Parts.length=n0:=⟨_,rfl⟩;obtain⟨n1,hn1⟩:∃ n1,x0.Box.Plan.Channels.length=n1:=⟨_,rfl⟩;obtain⟨n2,hn2⟩:∃ n2,x0.Box.Plan.Slots.length=n2:=⟨_,rfl⟩;obtain⟨n3,hn3⟩:∃ n3,x0.Box.Programs.length=n3:=⟨_,rfl⟩;obtain⟨n5,hn5⟩:∃ n5,x0.Box.Holds.length=n5:=⟨_,rfl⟩;obtain⟨tk,htk⟩:∃ tk,x0.Box.Tick=tk:=⟨_,rfl⟩;rw[hn0,hn1,hn2,hn3,hn5,htk] at HWL;rw[hN] at h7l;have hu2:u7<=9223372036854775807:=by unfold maxLen at h7m;omega
 clear HEN HOW MW1 RD1 KR1 KR0 HV HTT hL hB hBF E13 H HE0 hwl htt hN hNc hn0 hn1 hn2 hn3 hn5 htk h7m;go_wp2;go_loopw [6] (fun i wr => ∃ k:Nat,k<=N/\i = .int .i64 k/\zFs 35 W w b (m+50+6*(N - k)) w.heap.size B L N tt [.slice t0 n0 u0,.slice t1 n1 u1,.slice t2 n2 u2,.slice t3 n3 u3,.slice t4 N u4,.slice t5 n5 u5,.int .i64 tk,.slice t7 N u7] wr) (fun i _=>N - (intOf i).toNat)
 case atStart=>exact⟨0,Nat.zero_le _,rfl,HWL.out.le (by omega)⟩
 case round =>
  clear HWL;obtain⟨k,hk,rfl,hwl⟩:=hrel;have HWL:=zh hwl;have f4:=hwl.kb.cell (j:=4) rfl;have f7:=hwl.kb.cell (j:=7) rfl;have fL:=hwl.kb.lt;by_cases hkt:k < N
  ·obtain⟨g,s,fz,rs,rfl,-,-,-,-,glt,gL,gB⟩:=hwl.at7 rfl hkt;clear hwl;go_upto_region 5 with (fail)
   go_region_held3 (fun u=>u.cell? ⟨B,7,none⟩=some (.slice (some ⟨g,s,none⟩) N u7))
    (go_keep)
    ((go_at_call 60;refine(zFq W _ b (m+50+6*(N - (k+1))) 0 ((HWL.out.rdr.ext (zr wr).drew).le (by omega)) ⟨by omega,by omega⟩).mono ?_;rintro e w4 ⟨y,rfl,hy,hm,hr⟩;have WL4:=zh ((HWL.out.ext (zr wr).drew).call hm hr hbL (by omega));have f74:=WL4.out.kb.cell (j:=7) rfl;have fL4:=WL4.out.kb.lt;obtain⟨_,_,fz4,rs4,e,-,d0,d1,gz4,gl4,-,-⟩:=WL4.out.at7 (k:=k) rfl hkt;cases e;clear hm hr))
   go_upto_region 6 with (fail)
   refine zA1 (zFs 35 W w b (m+50+6*(N - (k+1))) w.heap.size B L N tt [.slice t0 n0 u0,.slice t1 n1 u1,.slice t2 n2 u2,.slice t3 n3 u3,.slice t4 N u4,.slice t5 n5 u5,.int .i64 tk,.slice (some ⟨g,s,none⟩) N u7]) (WL4.out.put rfl hkt y hy (by omega) (by omega) hbL (by omega)) ?_
   clear WL4 HWL f4 f7 fL f74 fL4 d0 d1 gz4 gl4 hy;rintro w5 hwl;have HWL:=zh hwl;have f4:=hwl.kb.cell (j:=4) rfl;have f7:=hwl.kb.cell (j:=7) rfl;have fL:=hwl.kb.lt;obtain⟨_,_,fz5,rs5,e,-,d0,d1,gz5,gl5,-,-⟩:=hwl.at7 (k:=k) rfl hkt;cases e;obtain⟨g4,s4,st4,rfl,-,d2,gz6,gl6,-,-⟩:=hwl.at4 (k:=k) rfl hkt;clear hwl;cases fz5
   ·go_wp2;exact⟨⟨k+1,by omega,by go_num,HWL.out⟩,by simp[intOf];omega⟩
   ·go_wp2;exact⟨⟨k+1,by omega,by go_num,HWL.out.stop rfl hkt (by omega) (by omega) hbL (by omega)⟩,by simp[intOf];omega⟩
  obtain rfl:k=N:=by omega
  replace HWL:Hid (zFs 35 W w b (m+20) w.heap.size B L k tt [.slice t0 n0 u0,.slice t1 n1 u1,.slice t2 n2 u2,.slice t3 n3 u3,.slice t4 k u4,.slice t5 n5 u5,.int .i64 tk,.slice t7 k u7] wr):=zh (hwl.le (by omega))
  clear hwl f4;by_cases hl:0 < k
  case neg =>
   have hlb:decide ((k:Int) > 0)=false:=decide_eq_false (by omega)
   go_upto_region 12 with (fail)
   refine zA1 (M.WR 35 W w b m w.heap.size B) (HWL.out.wr (by omega) htx (by omega)) ?_
   clear HWL f7 fL;rintro u9 ⟨x,v0,v1,v2,v3,v4,v5,v6,v7,rv9,tt9,mw9,rd9,kr9,kb9⟩;obtain⟨p0,q0,p1,q1,p2,q2,p3,q3,p4,q4,p5,q5,p7,q7,ee,-⟩:=rv9.openWc;have e9:=congrArg (fun v=>match v with | .agg a=>a.toList|_ => []) ee
   simp only[List.cons.injEq,and_true] at e9;obtain⟨rfl,rfl,rfl,rfl,rfl,rfl,rfl,rfl⟩:=e9;clear ee;have RV:=zh rv9;have MW:=zh mw9;have RD:=zh rd9;obtain⟨f0,f1,f2,f3,f4,f5,f6,f7⟩:=Bk.k8 kb9;have fL9:=kb9.lt;obtain⟨z0,z1,z2,z3,z4,z5,z6,z7⟩:=Bk.k8 kr9;have zf:=kr9.fz;have zl:=kr9.lt;clear rv9 mw9 rd9 kr9 kb9;go_wp2;refine bodyPost_ret (v:=.agg #[.slice p0 x.Box.Plan.Parts.length q0,.slice p1 x.Box.Plan.Channels.length q1,.slice p2 x.Box.Plan.Slots.length q2,.slice p3 x.Box.Programs.length q3,.slice p4 x.Box.Cores.length q4,.slice p5 x.Box.Holds.length q5,.int .i64 x.Box.Tick,.slice p7 x.States.length q7]) (by simp[results,Tryz.results26,go_sem,z0,z1,z2,z3,z4,z5,z6,z7]) rfl ⟨_,x,rfl,?_,tt9,?_,?_⟩
   ·exact(Rvb.puts (A:=w.heap.size) (o:=0) (by omega) [.slice p0 x.Box.Plan.Parts.length q0,.slice p1 x.Box.Plan.Channels.length q1,.slice p2 x.Box.Plan.Slots.length q2,.slice p3 x.Box.Programs.length q3,.slice p4 x.Box.Cores.length q4,.slice p5 x.Box.Holds.length q5,.int .i64 x.Box.Tick,.slice p7 x.States.length q7] RV.out).mono (by omega)
   ·exact Mw.puts (b:=w.heap.size) (o:=0) (.inr (Nat.le_refl _)) [.slice p0 x.Box.Plan.Parts.length q0,.slice p1 x.Box.Plan.Channels.length q1,.slice p2 x.Box.Plan.Slots.length q2,.slice p3 x.Box.Programs.length q3,.slice p4 x.Box.Cores.length q4,.slice p5 x.Box.Holds.length q5,.int .i64 x.Box.Tick,.slice p7 x.States.length q7] MW.out
   ·exact Rd.puts (c:=w.heap.size) (o:=0) (by omega) (by omega) [.slice p0 x.Box.Plan.Parts.length q0,.slice p1 x.Box.Plan.Channels.length q1,.slice p2 x.Box.Plan.Slots.length q2,.slice p3 x.Box.Programs.length q3,.slice p4 x.Box.Cores.length q4,.slice p5 x.Box.Holds.length q5,.int .i64 x.Box.Tick,.slice p7 x.States.length q7] RD.out
  have hlb:decide ((k:Int) > 0)=true:=decide_eq_true (by omega)
  have h1k:1<=k:=hl;obtain⟨g,s,fz,rs,rfl,-,-,-,-,glt,gL,gB⟩:=HWL.out.at7 (k:=0) rfl hl;go_upto_if 44 with (go_at_call 61;refine(zFg W _ b (m+10) _ (HWL.out.rdr.le (by omega)) hn).mono ?_;rintro e w5 ⟨⟨q,rfl⟩,hm,hr⟩;have WL5:=zh (HWL.out.call (Mw.ofMo hm) hr hbL (by omega));have f75:=WL5.out.kb.cell (j:=7) rfl;have fL5:=WL5.out.kb.lt;clear hm hr)
  clear f7 fL HWL;go_cut [] from 12 (fun wc=>M.WR 35 W w b m w.heap.size B wc)
  case first =>
   cases q
   ·go_wp2;go_meet
    exact WL5.out.wr (by omega) htx (by omega)
   go_upto_if 47 with (go_at_call 28;refine(zA7 W _ b (m+9) _ (WL5.out.rdr.le (by omega)) (zAg (by omega) (by omega))).mono ?_;rintro e w6 ⟨k6,rfl,hk6,hm,hr⟩;have WL6:=zh (WL5.out.call (Mw.ofMo hm) hr hbL (by omega));have f76:=WL6.out.kb.cell (j:=7) rfl;have fz6:=WL6.out.kb.fz;have fL6:=WL6.out.kb.lt;clear hm hr hk6)
   clear f75 fL5 WL5;by_cases hz:k6=0
   ·have hzb:(k6 == 0)=true:=beq_iff_eq.2 hz;clear hz;go_upto_region 10 with (fail)
    go_region_held3 (fun u=>u.cell? ⟨B,7,none⟩=some (.slice (some ⟨g,s,none⟩) k u7))
     (go_keep)
     ((go_at_call 60;refine(zFq W _ b m 1 ((WL6.out.rdr.ext (zr w6).drew).le (by omega)) ⟨by omega,by omega⟩).mono ?_;rintro e w7 ⟨y,rfl,hy,hm,hr⟩;have WL7:=zh ((WL6.out.ext (zr w6).drew).call hm hr hbL (by omega));have f77:=WL7.out.kb.cell (j:=7) rfl;have fL7:=WL7.out.kb.lt;obtain⟨_,_,fz7,rs7,e,-,d0,d1,gz7,gl7,-,-⟩:=WL7.out.at7 (k:=0) rfl hl;cases e;simp only[Nat.zero_mul,Nat.add_zero] at d0 d1;clear hm hr))
    have hput:=WL7.out.put (k:=0) rfl hl y hy (by omega) (by omega) hbL (by omega)
    simp only[Nat.zero_mul,Nat.add_zero] at hput;have HPUT:=zh hput;clear hput WL7 f76 fL6 f77 fL7 WL6 d0 d1 gz7 gl7;go_wp2;go_meet
    exact HPUT.out.wr (by omega) htx (by omega)
   ·have hzb:(k6 == 0)=false:=beq_eq_false_iff_ne.2 hz;clear hz;have hu1:1<=u7:=by omega
    by_cases hq1:u7=1
    ·subst hq1;obtain rfl:k=1:=by omega
     go_wp2;go_meet
     exact WL6.out.tail (by omega) (by omega) htx (by omega) (by omega) hbL (by omega) _ (.inr ⟨rfl,_,rfl⟩)
    ·go_wp2;go_meet
     exact WL6.out.tail (by omega) (by omega) htx (by omega) (by omega) hbL (by omega) _ (.inl (by simp))
  case rest =>
   clear WL5 f75 fL5;obtain⟨x,v0,v1,v2,v3,v4,v5,v6,v7,rv9,tt9,mw9,rd9,kr9,kb9⟩:=hcut;obtain⟨p0,q0,p1,q1,p2,q2,p3,q3,p4,q4,p5,q5,p7,q7,ee,-⟩:=rv9.openWc;have e9:=congrArg (fun v=>match v with | .agg a=>a.toList|_ => []) ee
   simp only[List.cons.injEq,and_true] at e9;obtain⟨rfl,rfl,rfl,rfl,rfl,rfl,rfl,rfl⟩:=e9;clear ee;have RV:=zh rv9;have MW:=zh mw9;have RD:=zh rd9;obtain⟨f0,f1,f2,f3,f4,f5,f6,f7⟩:=Bk.k8 kb9;have fL9:=kb9.lt;obtain⟨z0,z1,z2,z3,z4,z5,z6,z7⟩:=Bk.k8 kr9;have zf:=kr9.fz;have zl:=kr9.lt;clear rv9 mw9 rd9 kr9 kb9;go_wp2;refine bodyPost_ret (v:=.agg #[.slice p0 x.Box.Plan.Parts.length q0,.slice p1 x.Box.Plan.Channels.length q1,.slice p2 x.Box.Plan.Slots.length q2,.slice p3 x.Box.Programs.length q3,.slice p4 x.Box.Cores.length q4,.slice p5 x.Box.Holds.length q5,.int .i64 x.Box.Tick,.slice p7 x.States.length q7]) (by simp[results,Tryz.results26,go_sem,z0,z1,z2,z3,z4,z5,z6,z7]) rfl ⟨_,x,rfl,?_,tt9,?_,?_⟩
   ·exact(Rvb.puts (A:=w.heap.size) (o:=0) (by omega) [.slice p0 x.Box.Plan.Parts.length q0,.slice p1 x.Box.Plan.Channels.length q1,.slice p2 x.Box.Plan.Slots.length q2,.slice p3 x.Box.Programs.length q3,.slice p4 x.Box.Cores.length q4,.slice p5 x.Box.Holds.length q5,.int .i64 x.Box.Tick,.slice p7 x.States.length q7] RV.out).mono (by omega)
   ·exact Mw.puts (b:=w.heap.size) (o:=0) (.inr (Nat.le_refl _)) [.slice p0 x.Box.Plan.Parts.length q0,.slice p1 x.Box.Plan.Channels.length q1,.slice p2 x.Box.Plan.Slots.length q2,.slice p3 x.Box.Programs.length q3,.slice p4 x.Box.Cores.length q4,.slice p5 x.Box.Holds.length q5,.int .i64 x.Box.Tick,.slice p7 x.States.length q7] MW.out
   ·exact Rd.puts (c:=w.heap.size) (o:=0) (by omega) (by omega) [.slice p0 x.Box.Plan.Parts.length q0,.slice p1 x.Box.Plan.Channels.length q1,.slice p2 x.Box.Plan.Slots.length q2,.slice p3 x.Box.Programs.length q3,.slice p4 x.Box.Cores.length q4,.slice p5 x.Box.Holds.length q5,.int .i64 x.Box.Tick,.slice p7 x.States.length q7] RD.out
end Sk
