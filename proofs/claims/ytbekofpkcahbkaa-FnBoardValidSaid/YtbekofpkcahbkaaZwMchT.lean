/- Contracts of functions of the given program. -/
import Derived.Test.YtbekofpkcahbkaaNewMS
import Derived.Test.YtbekofpkcahbkaaZfPrgs
import Derived.Test.YtbekofpkcahbkaaVPut
namespace Sk
open Go Go.Proofs Go.RowKit
set_option maxHeartbeats 4000000
set_option maxRecDepth 100000
set_option linter.unusedVariables false
set_option linter.unusedSimpArgs false
theorem Om.reput{α:Type}[GT α]{L:Nat}{u:World}{B:Nat}{cs:List Value}{F G:List Nat}{x y : α}(h:Om L u B 0 x F)(hen:GT.enc u cs y G)(how:Own L u G)(hB:B ∉ G):Om L (zA8 u B 0 cs) B 0 y G:=by
 obtain⟨c0,e0,a0,ho⟩:=h;have hl:=GT.len hen;have hl0:=GT.len e0;have hat:At (zA8 u B 0 cs) B 0 cs:=zDz (fun j hj=>⟨_,a0 j _ (List.getElem?_eq_getElem (by omega))⟩)
 have hfb:=ho.2 B (List.mem_cons_self ..);exact⟨cs,zCo hen hB,hat,List.nodup_cons.2 ⟨hB,how.1⟩,fun k hk2=>by
  rcases List.mem_cons.1 hk2 with rfl|hk2
  ·exact⟨hfb.1,zBq hfb.2⟩
  ·exact⟨(how.2 k hk2).1,zBq (how.2 k hk2).2⟩⟩
theorem Om.reput5{L:Nat}{u:World}{B:Nat}{F:List Nat}{x:Machine}(h:Om L u B 0 x F){u0 u1 u2 u3 u4 u5 u6:Value}:(zA8 u B 0 [u0,u1,u2,u3,u4,u5,u6]).cell? ⟨B,5,none⟩=some u5:=by
 obtain⟨c0,e0,a0,ho⟩:=h;have hl0:c0.length=7:=GT.len e0;have hat:At (zA8 u B 0 [u0,u1,u2,u3,u4,u5,u6]) B 0 [u0,u1,u2,u3,u4,u5,u6]:=zDz (fun j hj=>⟨_,a0 j _ (List.getElem?_eq_getElem (by simp at hj;omega))⟩)
 simpa using hat 5 _ rfl
theorem Sp.puts{e:TypeId}{z L b:Nat}{v:Value}(cs:List Value):∀ {w:World} {o:Nat},Sp e z L w v->Sp e z L (zA8 w b o cs) v:=by
 induction cs with
 | nil=>intro w o h;exact h
 | cons c cs ih=>intro w o h;rw[zA8];exact ih (h.set ⟨b,o,none⟩ c)
theorem zHc{x:Machine}(h:zBm x)(ht:x.Tick=0){k:Nat}(hk:k < 40):zHu x k=zCt x k/\zBm (zCt x k)/\(zCt x k).Plan=x.Plan :=
 ⟨zHv (zFv.2 ⟨h,⟨by omega,by omega⟩,by omega⟩),(zG8 h k (by omega)).1,(zG8 h k (by omega)).2.2.1⟩
theorem Om.mw{α:Type}[GT α]{L:Nat}{w w':World}{b o:Nat}{x : α}{F G:List Nat}(h:Om L w b o x F)(k:Mw G w w')(hG:∀ y∈G,y < L):Om L w' b o x F:=by
 obtain⟨cs,h1,h2,h3⟩:=h;have hd:∀ y,y∈b::F->y ∉ G:=fun y hy hm=>by have:=(h3.2 y hy).1;have:=hG y hm;omega
 exact⟨cs,k.enc h1 (fun y hy hm=>hd y (List.mem_cons_of_mem _ hy) hm),h2.keep (k.2.2 b (h3.lt (List.mem_cons_self ..)) (hd b (List.mem_cons_self ..))),k.own h3 hd⟩
theorem Sp.mw{e:TypeId}{z L:Nat}{w w':World}{v:Value}{G:List Nat}(h:Sp e z L w v)(k:Mw G w w')(hG:∀ y∈G,y < L):Sp e z L w' v:=by
 rcases h with h | ⟨g,n,cap,cs,h1,h2,h3,h4,h5,h6⟩
 ·exact .inl h
 ·exact .inr ⟨g,n,cap,cs,h1,h2,h3,h4,k.bk h5 (fun hm=>by have:=hG g hm;omega),h6⟩
theorem SpH.mono{e:TypeId}{L L':Nat}{w:World}{v:Value}(h:SpH e L w v)(k:L'<=L):SpH e L' w v:=by
 obtain⟨a,b,c,d,f,h',t,e1,s⟩:=h;exact⟨a,b,c,d,f,h',t,e1,s.mono k⟩
theorem SpH.mw{e:TypeId}{L:Nat}{w w':World}{v:Value}{G:List Nat}(h:SpH e L w v)(k:Mw G w w')(hG:∀ y∈G,y < L):SpH e L w' v:=by
 obtain⟨a,b,c,d,f,h',t,e1,s⟩:=h;exact⟨a,b,c,d,f,h',t,e1,s.mw k hG⟩
theorem Mw.puts{F:List Nat}{a:World}{b:Nat}(hb:b∈F\/a.heap.size<=b)(cs:List Value):∀ {w:World} {o:Nat},Mw F a w->Mw F a (zA8 w b o cs):=by
 induction cs with
 | nil=>intro w o h;exact h
 | cons c cs ih=>intro w o h;rw[zA8];exact ih (h.set (p:=⟨b,o,none⟩) hb c)
theorem Rd.puts{W:World}{b c m:Nat}(h1:b≠c)(h2:W.heap.size<=c)(cs:List Value):∀ {w:World} {o:Nat},Rd W w b m->Rd W (zA8 w c o cs) b m:=by
 induction cs with
 | nil=>intro w o h;exact h
 | cons x cs ih=>intro w o h;rw[zA8];exact ih (h.set (p:=⟨c,o,none⟩) h1 h2 x)
theorem Rvb.puts{α:Type}[GT α]{L A:Nat}{v:Value}{x : α}(hA:A < L)(cs:List Value):∀ {w:World} {o:Nat},Rvb L w v x->Rvb L (zA8 w A o cs) v x:=by
 induction cs with
 | nil=>intro w o h;exact h
 | cons c cs ih=>intro w o h;rw[zA8];exact ih (h.set (p:=⟨A,o,none⟩) hA c)
theorem zJ9(W w:World)(b m:Nat)(n:Int)(h:Rd W w b (m+1))(hn:rng n) :
  Calls Try.prog 10 #[.pointer (some ⟨b,0,none⟩),.int .i64 n] w fun e w' => ∃ q:Bool,e = .returned (.bool q)/\(n=0->q=false)/\Mo [b] w w'/\Rd W w' b m:=by
 by_cases h0:n=0
 ·subst h0;exact(zCj W w b m (h.le (by omega))).mono fun e w' ⟨h1,h2,h3⟩=>⟨false,h1,fun _=>rfl,h2,h3⟩
 ·exact(zE7 W w b m n h hn).mono fun e w' ⟨⟨q,h1⟩,h2,h3⟩=>⟨q,h1,fun e=>absurd e h0,h2,h3⟩
theorem Rsb.tail{α:Type}[GT α]{L:Nat}{w:World}{g s n c:Nat}{x : α}{xs:List α}(h:Rsb L w (.slice (some ⟨g,s,none⟩) n c) (x::xs)):Rsb L w (.slice (some ⟨g,s+GT.sz α,none⟩) (n - 1) (c - 1)) xs:=by
 obtain⟨F,⟨a',c',he,hl,hc,hr⟩,hL⟩:=h;have he':some ⟨g,s,none⟩=a'/\n=(x::xs).length/\c=c':=by simpa using he
 obtain⟨rfl,rfl,rfl⟩:=he';simp only[List.length_cons] at hl ⊢;rcases hr with ⟨h,_⟩ | ⟨_,b,o,F',e',rfl,hr⟩
 ·cases h
 ·have e8:g=b/\s=o:=by simpa using e'
  obtain⟨rfl,rfl⟩:=e8;obtain⟨cs,F1,F2,h1,h2,rfl,h3⟩:=hr;by_cases hx:xs = []
  ·subst hx;exact⟨[],⟨_,c - 1,rfl,by simp,by omega,.inl ⟨rfl,rfl⟩⟩,fun k hk=>by cases hk⟩
  ·exact⟨g::F2,⟨_,c - 1,by simp,by omega,by omega,.inr ⟨hx,g,s+GT.sz α,F2,rfl,rfl,h3⟩⟩,fun k hk=>hL k (by
    rcases List.mem_cons.1 hk with rfl|hk
    ·exact List.mem_cons_self ..
    ·exact List.mem_cons_of_mem _ (List.mem_append_right _ hk))⟩
theorem Rvb.mkM{L:Nat}{w:World}{v0 v1 v2 v3 v4 v5:Value}{m:Machine}(h0:Rsb L w v0 m.Plan.Parts)(h1:Rsb L w v1 m.Plan.Channels)(h2:Rsb L w v2 m.Plan.Slots)(h3:Rsb L w v3 m.Programs)(h4:Rsb L w v4 m.Cores)(h5:Rsb L w v5 m.Holds)(r:rng m.Tick):Rvb L w (.agg #[v0,v1,v2,v3,v4,v5,.int .i64 m.Tick]) m:=by
 obtain⟨F0,s0,b0⟩:=h0;obtain⟨F1,s1,b1⟩:=h1;obtain⟨F2,s2,b2⟩:=h2;obtain⟨F3,s3,b3⟩:=h3;obtain⟨F4,s4,b4⟩:=h4;obtain⟨F5,s5,b5⟩:=h5;exact⟨_,_,rfl,⟨_,_,_,_,_,_,_,_,_,_,_,_,rfl,s0,s1,s2,s3,s4,s5,r,rfl⟩,fun k hk=>by
  simp only[List.mem_append] at hk;rcases hk with hk|hk|hk|hk|hk|hk
  ·exact b0 k hk
  ·exact b1 k hk
  ·exact b2 k hk
  ·exact b3 k hk
  ·exact b4 k hk
  ·exact b5 k hk⟩
theorem Om.lists{L:Nat}{w:World}{b:Nat}{m:Machine}{F:List Nat}(h:Om L w b 0 m F):∃ a0 c0 a1 c1 a2 c2 a3 c3 a4 c4 a5 c5,
  w.cell? ⟨b,0,none⟩=some (.slice a0 m.Plan.Parts.length c0)/\w.cell? ⟨b,1,none⟩=some (.slice a1 m.Plan.Channels.length c1)/\w.cell? ⟨b,2,none⟩=some (.slice a2 m.Plan.Slots.length c2)/\w.cell? ⟨b,3,none⟩=some (.slice a3 m.Programs.length c3)/\w.cell? ⟨b,4,none⟩=some (.slice a4 m.Cores.length c4)/\w.cell? ⟨b,5,none⟩=some (.slice a5 m.Holds.length c5)/\w.cell? ⟨b,6,none⟩=some (.int .i64 m.Tick)/\rng m.Tick /\
  Hid (GT.enc w [.slice a0 m.Plan.Parts.length c0,.slice a1 m.Plan.Channels.length c1,.slice a2 m.Plan.Slots.length c2,.slice a3 m.Programs.length c3,.slice a4 m.Cores.length c4,.slice a5 m.Holds.length c5,.int .i64 m.Tick] m F)/\Hid (Own L w F)/\Hid (Os L w (.slice a0 m.Plan.Parts.length c0) m.Plan.Parts/\Os L w (.slice a1 m.Plan.Channels.length c1) m.Plan.Channels/\Os L w (.slice a2 m.Plan.Slots.length c2) m.Plan.Slots/\Os L w (.slice a3 m.Programs.length c3) m.Programs/\Os L w (.slice a4 m.Cores.length c4) m.Cores/\Os L w (.slice a5 m.Holds.length c5) m.Holds):=by
 obtain⟨cs,hen,hat,ho⟩:=h;obtain⟨v0,v1,v2,v3,v4,v5,G0,G1,G2,G3,G4,G5,rfl,s0,s1,s2,s3,s4,s5,r,rfl⟩:=id hen;obtain⟨t0,u0,rfl,-⟩:=id s0;obtain⟨t1,u1,rfl,-⟩:=id s1;obtain⟨t2,u2,rfl,-⟩:=id s2;obtain⟨t3,u3,rfl,-⟩:=id s3;obtain⟨t4,u4,rfl,-⟩:=id s4;obtain⟨t5,u5,rfl,-⟩:=id s5;have hnd:=(List.nodup_cons.1 ho.1).2;have hO:∀ G,G.Sublist (G0++(G1++(G2++(G3++(G4++G5)))))->Own L w G:=fun G hs=>⟨hs.nodup hnd,fun k hk=>ho.2 k (List.mem_cons_of_mem _ (hs.subset hk))⟩
 refine⟨_,_,_,_,_,_,_,_,_,_,_,_,by simpa using hat 0 _ rfl,by simpa using hat 1 _ rfl,by simpa using hat 2 _ rfl,by simpa using hat 3 _ rfl,by simpa using hat 4 _ rfl,by simpa using hat 5 _ rfl,by simpa using hat 6 _ rfl,r,zh hen,zh ⟨hnd,fun k hk=>ho.2 k (List.mem_cons_of_mem _ hk)⟩,zh ⟨⟨_,s0,hO _ ?_⟩,⟨_,s1,hO _ ?_⟩,⟨_,s2,hO _ ?_⟩,⟨_,s3,hO _ ?_⟩,⟨_,s4,hO _ ?_⟩,⟨_,s5,hO _ ?_⟩⟩⟩
 ·exact(List.sublist_append_left _ _)
 ·exact((List.sublist_append_left _ _).trans (List.sublist_append_right _ _))
 ·exact(((List.sublist_append_left _ _).trans (List.sublist_append_right _ _)).trans (List.sublist_append_right _ _))
 ·exact((((List.sublist_append_left _ _).trans (List.sublist_append_right _ _)).trans (List.sublist_append_right _ _)).trans (List.sublist_append_right _ _))
 ·exact(((((List.sublist_append_left _ _).trans (List.sublist_append_right _ _)).trans (List.sublist_append_right _ _)).trans (List.sublist_append_right _ _)).trans (List.sublist_append_right _ _))
 ·exact(((((List.sublist_append_right _ _).trans (List.sublist_append_right _ _)).trans (List.sublist_append_right _ _)).trans (List.sublist_append_right _ _)).trans (List.sublist_append_right _ _))
theorem tot_set{α:Type}[GT α](xs:List α)(y : α):∀ i:Nat,GT.tot (xs.set i y)<=GT.tot xs+GT.tot y:=by
 intro i
 show(xs.set i y).length+((xs.set i y).map GT.tot).sum<=xs.length+(xs.map GT.tot).sum+GT.tot y
 have h:((xs.set i y).map GT.tot).sum<=(xs.map GT.tot).sum+GT.tot y:=by
  induction xs generalizing i with
  | nil=>simp
  | cons x xs ih =>
   cases i with
   | zero=>simp only[List.set_cons_zero,List.map_cons,List.sum_cons];omega
   | succ i=>have:=ih i;simp only[List.set_cons_succ,List.map_cons,List.sum_cons];omega
 simp only[List.length_set];omega
theorem tot_tail{α:Type}[GT α](x : α)(xs:List α):GT.tot xs<=GT.tot (x::xs):=by
 show xs.length+(xs.map GT.tot).sum<=(x::xs).length+((x::xs).map GT.tot).sum
 simp only[List.length_cons,List.map_cons,List.sum_cons];omega
theorem zGi{α:Type}[GT α](x : α)(xs:List α):GT.tot (xs ++ [x])=GT.tot xs+1+GT.tot x:=by
 show(xs ++ [x]).length+((xs ++ [x]).map GT.tot).sum=xs.length+(xs.map GT.tot).sum+1+GT.tot x
 simp;omega
theorem zBm.tick100{m:Machine}(h:zBm m):zBm { m with Tick:=100000 }:=⟨h.pg,h.nc,h.nh,h.fits,h.hv,⟨by show(0:Int)<=100000;decide,by show(100000:Int)<=100000;decide⟩⟩
structure zHp (T:TypeId) (W w:World) (b m A B:Nat) (x:Machine) (u:World):Prop where
 mw:Mw [b] w u
 rd:Rd W u b m
 ka:Bk u A [.slice none 0 0,.slice none 0 0,.slice none 0 0,.slice none 0 0,.slice none 0 0,.slice none 0 0,.int .i64 0] T
 lt:B < u.heap.size
 cl:∃ p0 q0 p1 q1 p2 q2 p3 q3 p4 q4 p5 q5 n4 n5,u.cell? ⟨B,0,none⟩=some (.slice p0 x.Plan.Parts.length q0)/\u.cell? ⟨B,1,none⟩=some (.slice p1 x.Plan.Channels.length q1)/\u.cell? ⟨B,2,none⟩=some (.slice p2 x.Plan.Slots.length q2)/\u.cell? ⟨B,3,none⟩=some (.slice p3 x.Programs.length q3)/\u.cell? ⟨B,4,none⟩=some (.slice p4 n4 q4)/\u.cell? ⟨B,5,none⟩=some (.slice p5 n5 q5)/\u.cell? ⟨B,6,none⟩=some (.int .i64 x.Tick) /\
  Rvb (A+1) u (.agg #[.slice p0 x.Plan.Parts.length q0,.slice p1 x.Plan.Channels.length q1,.slice p2 x.Plan.Slots.length q2,.slice p3 x.Programs.length q3,.slice p4 n4 q4,.slice p5 n5 q5,.int .i64 x.Tick]) x
theorem zHp.om{T:TypeId}{W w:World}{b m A B:Nat}{x:Machine}{u:World}{F:List Nat}(h1:Mw [b] w u)(h2:Rd W u b m)(h3:Bk u A [.slice none 0 0,.slice none 0 0,.slice none 0 0,.slice none 0 0,.slice none 0 0,.slice none 0 0,.int .i64 0] T)(h:Om (A+1) u B 0 x F):zHp T W w b m A B x u:=by
 obtain⟨p0,q0,p1,q1,p2,q2,p3,q3,p4,q4,p5,q5,y0,y1,y2,y3,y4,y5,y6,-,en,ow,-⟩:=h.lists;exact⟨h1,h2,h3,h.bk.1,p0,q0,p1,q1,p2,q2,p3,q3,p4,q4,p5,q5,_,_,y0,y1,y2,y3,y4,y5,y6,_,_,rfl,en.out,fun k hk=>(ow.out.2 k hk).1⟩
theorem zGo{L B:Nat}{w:World}{m:Machine}{F:List Nat}{e:TypeId}{v0 v1 v2 v3 v4 v5 t:Value}(hen:GT.enc w [v0,v1,v2,v3,v4,v5,t] m F)(ho:Own L w F)(hB:B ∉ F)(hsp:Sp e 1 L w v5) :
  ∀ w',Mw (B::v5.ownBlock.toList) w w'->Rsb L w' v0 m.Plan.Parts/\Rsb L w' v1 m.Plan.Channels/\Rsb L w' v2 m.Plan.Slots/\Rsb L w' v3 m.Programs/\Rsb L w' v4 m.Cores:=by
 obtain⟨_,_,_,_,_,_,G0,G1,G2,G3,G4,G5,e9,s0,s1,s2,s3,s4,s5,r,rfl⟩:=hen;simp only[List.cons.injEq] at e9;obtain⟨rfl,rfl,rfl,rfl,rfl,rfl,_⟩:=e9;have hg:∀ k,v5.ownBlock=some k->k∈G5:=fun k hk=>by
  rcases hsp with h | ⟨g,n,cap,cs,h1,h2,h3,h4,h5,h6⟩
  ·rw[h] at hk;cases hk
  ·subst h1;have hl:n=m.Holds.length:=by
    obtain⟨a,c,e8,_⟩:=id s5;have h':(some ⟨g,0,none⟩:Option Addr)=a/\n=m.Holds.length/\cap=c:=by simpa using e8
    exact h'.2.1
   have:=Sl.hd s5 (by omega)
   simp[Value.ownBlock] at hk
   rwa [<- hk]
 have hn:=ho.1;simp only[List.nodup_append,List.mem_append] at hn;have hx:∀ k,k∈G0\/k∈G1\/k∈G2\/k∈G3\/k∈G4->k∈G5->False:=fun k h1 h2=>by
  obtain⟨_,⟨_,⟨_,⟨_,⟨_,_,a4⟩,a3⟩,a2⟩,a1⟩,a0⟩:=hn;rcases h1 with h|h|h|h|h
  ·exact a0 k h k (.inr (.inr (.inr (.inr h2)))) rfl
  ·exact a1 k h k (.inr (.inr (.inr h2))) rfl
  ·exact a2 k h k (.inr (.inr h2)) rfl
  ·exact a3 k h k (.inr h2) rfl
  ·exact a4 k h k h2 rfl
 intro w' hm;have hk:∀ k,k∈G0\/k∈G1\/k∈G2\/k∈G3\/k∈G4->k∈B::v5.ownBlock.toList->False:=fun k h1 h2=>by
  rcases List.mem_cons.1 h2 with rfl|h2
  ·exact hB (by simp only[List.mem_append];rcases h1 with h|h|h|h|h<;>simp[h])
  ·exact hx k h1 (hg k (by simpa using h2))
 refine⟨⟨G0,hm.sl s0 fun y a=>hk y (.inl a),fun k a=>(ho.2 k ?_).1⟩,⟨G1,hm.sl s1 fun y a=>hk y (.inr (.inl a)),fun k a=>(ho.2 k ?_).1⟩,⟨G2,hm.sl s2 fun y a=>hk y (.inr (.inr (.inl a))),fun k a=>(ho.2 k ?_).1⟩,⟨G3,hm.sl s3 fun y a=>hk y (.inr (.inr (.inr (.inl a)))),fun k a=>(ho.2 k ?_).1⟩,⟨G4,hm.sl s4 fun y a=>hk y (.inr (.inr (.inr (.inr a)))),fun k a=>(ho.2 k ?_).1⟩⟩<;>simp[a]
theorem zEz{L b:Nat}{w:World}{m:Machine}{F:List Nat}{v0 v1 v2 v3 v4 v5 t:Value}(hen:GT.enc w [v0,v1,v2,v3,v4,v5,t] m F)(how:Own L w F)(hb:b ∉ F)(j:Nat)(u:Value) :
  Rsb L (w.setCell ⟨b,j,none⟩ u) v0 m.Plan.Parts/\Rsb L (w.setCell ⟨b,j,none⟩ u) v1 m.Plan.Channels/\Rsb L (w.setCell ⟨b,j,none⟩ u) v2 m.Plan.Slots/\Rsb L (w.setCell ⟨b,j,none⟩ u) v3 m.Programs/\Rsb L (w.setCell ⟨b,j,none⟩ u) v4 m.Cores/\Rsb L (w.setCell ⟨b,j,none⟩ u) v5 m.Holds:=by
 obtain⟨_,_,_,_,_,_,G0,G1,G2,G3,G4,G5,e9,s0,s1,s2,s3,s4,s5,r,rfl⟩:=hen;simp only[List.cons.injEq] at e9;obtain⟨rfl,rfl,rfl,rfl,rfl,rfl,_⟩:=e9;exact⟨⟨G0,s0.set (p:=⟨b,j,none⟩) (fun hm=>hb (by have hm:b∈G0:=hm;simp[hm])) u,fun k hk=>(how.2 k (by simp[hk])).1⟩,⟨G1,s1.set (p:=⟨b,j,none⟩) (fun hm=>hb (by have hm:b∈G1:=hm;simp[hm])) u,fun k hk=>(how.2 k (by simp[hk])).1⟩,⟨G2,s2.set (p:=⟨b,j,none⟩) (fun hm=>hb (by have hm:b∈G2:=hm;simp[hm])) u,fun k hk=>(how.2 k (by simp[hk])).1⟩,⟨G3,s3.set (p:=⟨b,j,none⟩) (fun hm=>hb (by have hm:b∈G3:=hm;simp[hm])) u,fun k hk=>(how.2 k (by simp[hk])).1⟩,⟨G4,s4.set (p:=⟨b,j,none⟩) (fun hm=>hb (by have hm:b∈G4:=hm;simp[hm])) u,fun k hk=>(how.2 k (by simp[hk])).1⟩,⟨G5,s5.set (p:=⟨b,j,none⟩) (fun hm=>hb (by have hm:b∈G5:=hm;simp[hm])) u,fun k hk=>(how.2 k (by simp[hk])).1⟩⟩
theorem zI6{L:Nat}{w:World}{m:Machine}{F:List Nat}{v0 v1 v2 v3 v4 v5 t:Value}(hen:GT.enc w [v0,v1,v2,v3,v4,v5,t] m F)(how:Own L w F):Os L w v5 m.Holds:=by
 obtain⟨_,_,_,_,_,_,G0,G1,G2,G3,G4,G5,e9,s0,s1,s2,s3,s4,s5,r,rfl⟩:=hen;simp only[List.cons.injEq] at e9;obtain⟨rfl,rfl,rfl,rfl,rfl,rfl,_⟩:=e9;have hn:=how.1;simp only[List.nodup_append] at hn;exact⟨G5,s5,hn.2.1.2.1.2.1.2.1.2.1,fun k hk=>how.2 k (by simp[hk])⟩
theorem Rsb.set9{α:Type}[GT α]{L:Nat}{w:World}{v:Value}{xs:List α}(h:Rsb L w v xs){p:Addr}(hp:p.block < L)(u:Value):Rsb L (w.setCell p u) v xs:=by
 obtain⟨F,s,b⟩:=h;exact⟨F,s.set (fun hm=>by have:=b _ hm;omega) u,b⟩
theorem zCy(m:Machine):GT.tot m=GT.tot m.Plan+GT.tot m.Programs+GT.tot m.Cores+GT.tot m.Holds+GT.tot m.Tick:=rfl
end Sk
