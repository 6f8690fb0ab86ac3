/- Contracts of functions of the given program. -/
import Derived.Test.YtfjimbnblklhdaaGreatZzzlOther
namespace Sk
open Go Go.Proofs Go.RowKit
set_option maxHeartbeats 1000000
set_option linter.unusedVariables false
set_option linter.unusedSimpArgs false
theorem zDp.off{a a' b:Machine}{n:Nat}(h:zDp a b n)(hv:zC6 a')(hp:a'.Plan=a.Plan)(hr:a'.Programs=a.Programs)(ht:a'.Tick=a.Tick)(hc:∀ k:Nat,zAj a n k->a'.Cores[k]? = a.Cores[k]?)(hh:∀ (k:Nat) (ch:Channel),a.Plan.Channels[k]? = some ch->zAj a n ch.To->a'.Holds[k]? = a.Holds[k]?):zDp a' b n:=by
 have hl:a'.Cores.length=a.Cores.length:=by rw[hv.nc,h.ma.nc,hp]
 have hn:=zBj hp hl n;exact { ma:=hv,mb:=h.mb,hn:=by rw[hl];exact h.hn,tick:=ht.trans h.tick,plan:=hp.trans h.plan,progs:=fun k hk=>by rw[hr];exact h.progs k ((hn _).1 hk),cores:=fun k hk=>by rw[hc k ((hn _).1 hk)];exact h.cores k ((hn _).1 hk),holds:=fun k ch hc' hk=>by rw[hp] at hc';rw[hh k ch hc' ((hn _).1 hk)];exact h.holds k ch hc' ((hn _).1 hk) }
theorem zNm{m:Machine}(h:zC6 m){n:Nat}(hn:n < m.Cores.length):zJk m n=zBk m n:=by
 have hq:m.Plan.Parts[n]? = some (m.Plan.Parts[n]'(by rw[<- h.nc];exact hn)):=List.getElem?_eq_getElem _
 rw[zDw (zAw.2 h) hn hq];unfold zJk M.pc;rw[List.getD_eq_getElem?_getD,hq]
 rfl
theorem zDp.fltB1{a b:Machine}{n j:Nat}(h:zDp a b n)(hj:¬ zAj a n j)(hl:j < a.Cores.length)(act:Int):zDp (zCe a j act) b n:=by
 obtain⟨e1,e2,e3,e4⟩:=zD5 a j act;have hk:∀ k:Nat,zAj a n k->¬ j=k:=fun k hk e=>hj (by rw[e];exact hk)
 refine h.off (zM0 h.ma hl act) e2 ?_ e3 (fun k hn=>?_) (fun k ch hc hn=>?_)
 ·unfold zCe zJk zCm zH4;split
  ·rfl
  ·split<;>rfl
 ·unfold zCe zJk zCm zH4;split;·exact List.getElem?_set_ne (hk k hn)
  ·split
   ·exact List.getElem?_set_ne (hk k hn)
   ·rfl
 ·have ht:ch.To≠j:=fun e=>hj (by rw[<- e];exact hn)
  unfold zCe zJk zCm zH4;split
  ·show(zCh _ _ _ _)[k]? = _
   rw[zF8,if_neg (fun h=>ht (by have:=h.2.1;rw[hc] at this;simpa using this))]
  ·split<;>rfl
theorem zDp.fltB2{a b:Machine}{n j:Nat}(h:zDp a b n)(hj:zAj a n j)(act:Int):zDp (zCe a j act) (zCe b j act) n:=by
 have hl:j < a.Cores.length:=by have:=zCi hj;omega
 have hl2:j < b.Cores.length:=by rw[<- h.nc];exact hl
 unfold zCe
 split
 ·rw[zNm h.ma hl,zNm h.mb hl2];exact h.restart hl
 split
 ·have hn:∀ k,zAj (zH4 a j) n k ↔ zAj a n k:=zBj (a:=zH4 a j) (b:=a) rfl (by simp[zH4]) n
  refine { ma:=zLf h.ma j,mb:=zLf h.mb j,hn:=by simpa [zH4] using h.hn,tick:=h.tick,plan:=h.plan,progs:=fun k hk=>h.progs k ((hn _).1 hk),cores:=fun k hk=>?_,holds:=fun k ch hc hk=>h.holds k ch hc ((hn _).1 hk) }
  have hk':=(hn _).1 hk
  show(a.Cores.set j _)[k]? = (b.Cores.set j _)[k]?
  by_cases e:j=k
  ·subst e;rw[List.getElem?_set_self hl,List.getElem?_set_self hl2,List.getD_eq_getElem?_getD,List.getD_eq_getElem?_getD,h.cores j hj]
  ·rw[List.getElem?_set_ne e,List.getElem?_set_ne e];exact h.cores k hk'
 ·exact h
structure zJe (x y:Watch) (n:Nat):Prop where
 wx:zO2 x
 wy:zO2 y
 sf:zDp x.Box y.Box n
 st:∀ k:Nat,zAj x.Box n k->x.States[k]? = y.States[k]?
theorem zJe.symm{x y:Watch}{n:Nat}(h:zJe x y n):zJe y x n:=⟨h.wy,h.wx,h.sf.symm,fun k hk=>(h.st k ((h.sf.near k).1 hk)).symm⟩
theorem zJe.fault1{x y:Watch}{n j:Nat}(h:zJe x y n)(hj:¬ zAj x.Box n j)(hl:j < x.Box.Cores.length)(t:List Int)(f:Int):zJe (zJq x t j f).1 y n:=by
 have hn:∀ k,zAj (zCe x.Box j (zCg (x.States.getD j ⟨false,0⟩) t f).2) n k ↔ zAj x.Box n k:=zBj (zD5 _ _ _).2.1 (zD5 _ _ _).1 n;refine⟨zJc h.wx (by rw[h.wx.ns];exact hl) t f,h.wy,h.sf.fltB1 hj hl _,fun k hk=>?_⟩
 have hk':=(hn k).1 hk
 show(x.States.set j _)[k]? = _
 rw[List.getElem?_set_ne (fun e=>hj (by rw[e];exact hk'))]
 exact h.st k hk'
theorem zJe.fault2{x y:Watch}{n j:Nat}(h:zJe x y n)(hj:zAj x.Box n j)(t:List Int)(f:Int):zJe (zJq x t j f).1 (zJq y t j f).1 n:=by
 have hl:j < x.Box.Cores.length:=by have:=zCi hj;omega
 have hl2:j < y.Box.Cores.length:=by rw[<- h.sf.nc];exact hl
 have hn:∀ k,zAj (zCe x.Box j (zCg (x.States.getD j ⟨false,0⟩) t f).2) n k ↔ zAj x.Box n k:=zBj (zD5 _ _ _).2.1 (zD5 _ _ _).1 n;have e:x.States.getD j ⟨false,0⟩=y.States.getD j ⟨false,0⟩:=by rw[List.getD_eq_getElem?_getD,List.getD_eq_getElem?_getD,h.st j hj]
 refine⟨zJc h.wx (by rw[h.wx.ns];exact hl) t f,zJc h.wy (by rw[h.wy.ns];exact hl2) t f,?_,fun k hk=>?_⟩
 ·show zDp (zCe x.Box j (zCg (x.States.getD j ⟨false,0⟩) t f).2) (zCe y.Box j (zCg (y.States.getD j ⟨false,0⟩) t f).2) n
  rw[e];exact h.sf.fltB2 hj _
 ·have hk':=(hn k).1 hk
  show(x.States.set j (zCg (x.States.getD j ⟨false,0⟩) t f).1)[k]? = (y.States.set j (zCg (y.States.getD j ⟨false,0⟩) t f).1)[k]?
  rw[e];by_cases ee:j=k
  ·subst ee;rw[List.getElem?_set_self (by rw[h.wx.ns];exact hl),List.getElem?_set_self (by rw[h.wy.ns];exact hl2)]
  ·rw[List.getElem?_set_ne ee,List.getElem?_set_ne ee];exact h.st k hk'
theorem zJe.tick0{x y:Watch}{n:Nat}(h:zJe x y n)(ht:x.Box.Tick < 100000):zJe ⟨zAk x.Box,x.States⟩ ⟨zAk y.Box,y.States⟩ n :=
 ⟨zH6 h.wx ht,zH6 h.wy (by rw[<- h.sf.tick];exact ht),h.sf.tickS ht,fun k hk=>h.st k ((zBj (zCn x.Box) (zBf x.Box) n k).1 hk)⟩
theorem zJe.tickS{x y:Watch}{n:Nat}(h:zJe x y n)(t:List Int)(ht:x.Box.Tick < 100000):zJe (zCf x t) (zCf y t) n:=by
 have h0:=h.tick0 ht;have hw:zC0 x.Box.Plan.Slots x.Box.Tick=zC0 y.Box.Plan.Slots y.Box.Tick:=by rw[h.sf.plan,h.sf.tick]
 have hn:∀ k,zAj (zAk x.Box) n k ↔ zAj x.Box n k:=zBj (zCn x.Box) (zBf x.Box) n;unfold zCf;rw[<- hw];rcases h.wx.box.who x.Box.Tick with e | ⟨j,e,hj⟩
 ·rw[if_neg (fun k=>by have:=k.1;rw[e] at this;exact absurd this (by decide)),if_neg (fun k=>by have:=k.1;rw[e] at this;exact absurd this (by decide))]
  exact h0
 rw[e,Int.toNat_natCast];by_cases hnj:zAj x.Box n j
 ·have e1:x.Box.Cores.getD j zKb=y.Box.Cores.getD j zKb:=by rw[List.getD_eq_getElem?_getD,List.getD_eq_getElem?_getD,h.sf.cores j hnj]
  have e2:(zAk x.Box).Cores.getD j zKb=(zAk y.Box).Cores.getD j zKb:=by rw[List.getD_eq_getElem?_getD,List.getD_eq_getElem?_getD,h0.sf.cores j ((hn j).2 hnj)]
  rw[<- e1,<- e2]
  split
  ·exact h0.fault2 ((hn j).2 hnj) t 1
  ·exact h0
 ·have hx:∀ y',zJe ⟨zAk x.Box,x.States⟩ y' n->∀ (P:Prop) [Decidable P],zJe (if P then (zJq ⟨zAk x.Box,x.States⟩ t j 1).1 else ⟨zAk x.Box,x.States⟩) y' n:=fun y' hy P _=>by
   split
   ·exact hy.fault1 (fun k=>hnj ((hn j).1 k)) (by show j < (zAk x.Box).Cores.length;rw[zBf];exact hj) t 1
   ·exact hy
  refine hx _ ?_ _
  split
  ·refine(h0.symm.fault1 (fun k=>hnj ((hn j).1 ((h0.sf.near j).1 k))) ?_ t 1).symm
   show j < (zAk y.Box).Cores.length
   rw[zBf,<- h.sf.nc];exact hj
  ·exact h0
theorem zJe.runS{x y:Watch}{n:Nat}(h:zJe x y n)(t:List Int):∀ T:Nat,x.Box.Tick+T<=100000->zJe (zEq x t T) (zEq y t T) n:=by
 intro T
 induction T with
 | zero=>intro _;exact h
 | succ T ih =>
  intro ht
  have:=ih (by omega)
  exact this.tickS t (by rw[(zMf h.wx t T (by omega)).2];omega)
theorem zJe.new{a b:Machine}{n:Nat}(h:zDp a b n):zJe (zBh a) (zBh b) n:=by
 rw[zDg (zAw.2 h.ma),zDg (zAw.2 h.mb)];refine⟨⟨h.ma,List.length_replicate ..,fun y hy=>?_⟩,⟨h.mb,List.length_replicate ..,fun y hy=>?_⟩,h,fun k _=>?_⟩
 iterate 2 (·obtain rfl:=List.eq_of_mem_replicate hy;decide)
 ·show(List.replicate _ _)[k]? = (List.replicate _ _)[k]?
  rw[h.nc]
theorem zDp.watched{a b:Machine}{n:Nat}(h:zDp a b n){t:List Int}(ht:zJ8 t=true){T:Nat}(hT:T<=400)(hl:a.Tick+T<=100000):zDp (zC9 (zBh a) t T 400).Box (zC9 (zBh b) t T 400).Box n:=by
 have hw:=zJe.new h;have e1:(zBh a).Box=a:=by rw[zDg (zAw.2 h.ma)]
 have e2:(zBh b).Box=b:=by rw[zDg (zAw.2 h.mb)]
 rw[zGk (zJp.2 hw.wx) ht (zEl.2 ⟨hw.wx.box,⟨by omega,by omega⟩,by rw[e1];exact hl⟩),zGk (zJp.2 hw.wy) ht (zEl.2 ⟨hw.wy.box,⟨by omega,by omega⟩,by rw[e2,<- h.tick];exact hl⟩)]
 exact(hw.runS t T (by rw[e1];exact hl)).sf
set_option maxHeartbeats 4000000
set_option maxRecDepth 100000
structure zOu (T:TypeId) (W w:World) (b m A X:Nat) (x y:Machine) (u:World):Prop where
 mw:Mw [b] w u
 rd:Rd W u b m
 k2:Bk u w.heap.size [.slice none 0 0,.slice none 0 0,.slice none 0 0,.slice none 0 0,.slice none 0 0,.slice none 0 0,.int .i64 0] T
 k3:Bk u (w.heap.size+1) [.slice none 0 0,.slice none 0 0,.slice none 0 0,.slice none 0 0,.slice none 0 0,.slice none 0 0,.int .i64 0] T
 ra:∃ a0 a1 a2 a3 a4 a5 a6,Bk u A [a0,a1,a2,a3,a4,a5,a6] T/\Rvb (α:=Machine) (w.heap.size+2) u (.agg #[a0,a1,a2,a3,a4,a5,a6]) x
 rx:∃ c0 c1 c2 c3 c4 c5 c6,Bk u X [c0,c1,c2,c3,c4,c5,c6] T/\Rvb (α:=Machine) (w.heap.size+2) u (.agg #[c0,c1,c2,c3,c4,c5,c6]) y
theorem zOu.ext{T:TypeId}{W w:World}{b m A X:Nat}{x y:Machine}{u u':World}(h:zOu T W w b m A X x y u)(he:Ext u u'):zOu T W w b m A X x y u':=by
 obtain⟨h1,h2,h3,h4,⟨a0,a1,a2,a3,a4,a5,a6,ka,ra⟩,⟨c0,c1,c2,c3,c4,c5,c6,kx,rx⟩⟩:=h;exact⟨h1.tr (Mw.ofExt he),h2.ext he,h3.ext he,h4.ext he,⟨_,_,_,_,_,_,_,ka.ext he,ra.ext he⟩,⟨_,_,_,_,_,_,_,kx.ext he,rx.ext he⟩⟩
theorem Om.rvbk{L L':Nat}{u:World}{X:Nat}{y:Machine}{F:List Nat}{c0 c1 c2 c3 c4 c5 c6:Value}{T:TypeId}(h:Om L u X 0 y F)(k:Bk u X [c0,c1,c2,c3,c4,c5,c6] T)(hL:L'<=L):Rvb L' u (.agg #[c0,c1,c2,c3,c4,c5,c6]) y:=by
 obtain⟨cs,hen,hat,ho⟩:=h;obtain⟨v0,v1,v2,v3,v4,v5,F0,F1,F2,F3,F4,F5,rfl,h0,h1,h2,h3,h4,h5,r,hF⟩:=id hen;have e:∀ (j:Nat) (v w:Value),[v0,v1,v2,v3,v4,v5,.int .i64 y.Tick][j]? = some v -> [c0,c1,c2,c3,c4,c5,c6][j]? = some w->v=w:=fun j v w h1 h2=>by
  have g1:=hat j v h1;rw[Nat.zero_add] at g1;exact Option.some.inj (g1.symm.trans (k.cell h2))
 obtain rfl:=e 0 _ _ rfl rfl;obtain rfl:=e 1 _ _ rfl rfl;obtain rfl:=e 2 _ _ rfl rfl;obtain rfl:=e 3 _ _ rfl rfl;obtain rfl:=e 4 _ _ rfl rfl;obtain rfl:=e 5 _ _ rfl rfl;obtain rfl:=e 6 _ _ rfl rfl;exact⟨_,_,rfl,hen,fun k hk=>Nat.le_trans hL (ho.2 k (List.mem_cons_of_mem _ hk)).1⟩
theorem Om.core0{L:Nat}{u:World}{X:Nat}{y:Machine}{F:List Nat}{K g s n c g9 s9 n9 c9:Nat}{k0:Core}{kk:Int}(h:Om L u X 0 y F)(hK:K < y.Cores.length)(z4:u.cell? ⟨X,4,none⟩=some (.slice (some ⟨g,s,none⟩) n c))(hk0:y.Cores[K]? = some k0)
  (hcc:u.cell? ⟨g,s+K*3,none⟩=some (.slice (some ⟨g9,s9,none⟩) n9 c9)) (h0:0 < k0.Cells.length) (hr:rng kk):∃ F',Om L (u.setCell ⟨g9,s9,none⟩ (.int .i64 kk)) X 0 { y with Cores:=y.Cores.set K { k0 with Cells:=k0.Cells.set 0 kk } } F':=by
 obtain⟨g',s',c',k',Fy,z,e0,omc,hsub,back⟩:=h.mcore hK;rw[hk0] at e0;obtain rfl:=Option.some.inj e0;have ez:=Option.some.inj (z.symm.trans z4);simp only[Value.slice.injEq,Option.some.injEq,Addr.mk.injEq,and_true] at ez;obtain⟨⟨rfl,rfl⟩,-,-⟩:=ez;obtain⟨g1,s1,e,hgne,hgF,hgl,hg0,hgf,hgr,hset⟩:=omc.cellC hcc 0 h0;cases e;obtain⟨F',om',hsub',hch⟩:=hset kk hr;rw[Nat.add_zero] at om' hch;obtain⟨F2,o2,-,-⟩:=back _ _ _ hch om' (fun y hy => .inl (hsub' y hy))
 exact⟨F2,o2⟩
theorem Om.coreStop{L:Nat}{u:World}{X:Nat}{y:Machine}{F:List Nat}{K g s n c:Nat}{k0:Core}{q:Bool}(h:Om L u X 0 y F)(hK:K < y.Cores.length)(z4:u.cell? ⟨X,4,none⟩=some (.slice (some ⟨g,s,none⟩) n c))(hk0:y.Cores[K]? = some k0):∃ F',Om L (u.setCell ⟨g,s+K*3+2,none⟩ (.bool q)) X 0 { y with Cores:=y.Cores.set K { k0 with Stopped:=q } } F':=by
 obtain⟨g',s',c',k',Fy,z,e0,omc,hsub,back⟩:=h.mcore hK;rw[hk0] at e0;obtain rfl:=Option.some.inj e0;have ez:=Option.some.inj (z.symm.trans z4);simp only[Value.slice.injEq,Option.some.injEq,Addr.mk.injEq,and_true] at ez;obtain⟨⟨rfl,rfl⟩,-,-⟩:=ez;obtain⟨F',om',hsub',hch⟩:=omc.putStop q;obtain⟨F2,o2,-,-⟩:=back _ _ _ hch om' (fun y hy => .inl (hsub' y hy))
 exact⟨F2,o2⟩
theorem zC6.cell1{m:Machine}(h:zC6 m){k:Nat}{c:Core}(hc:m.Cores[k]? = some c):0 < c.Cells.length:=by
 have hk:k < m.Cores.length:=(List.getElem?_eq_some_iff.1 hc).1;have hp:m.Programs[k]? = some (m.Programs[k]'(by rw[h.pg.np,<- h.nc];exact hk)):=List.getElem?_eq_getElem _
 have hq:m.Plan.Parts[k]? = some (m.Plan.Parts[k]'(by rw[<- h.nc];exact hk)):=List.getElem?_eq_getElem _
 have hf:=h.fits k _ _ _ hc hp hq;have hi:=zA6.1 (zHr h.pg.set (List.mem_of_getElem? hq)).2;simp only[zB4,Bool.and_eq_true,beq_iff_eq] at hf
 have:=hf.1
 omega
theorem zMo(W w:World)(b m:Nat)(h:Rd W w b (m+700+1200)) :
  Calls Tryz.prog 13 #[.pointer (some ⟨b,0,none⟩)] w fun e w' => ∃ v1 v2 x y n,e = .returned (.tuple #[v1,v2,.int .i64 n])/\Rvb (α:=Machine) w.heap.size w' v1 x/\Rvb (α:=Machine) w.heap.size w' v2 y/\GT.tot x<=200000/\(-1<=n/\n<=200000)/\Mw [b] w w'/\Rd W w' b m:=by
 have H:=zh h;have hbl:=h.lt;have hbW:=h.1;have hWw:=h.2.1.sz;clear h;go_enter Tryz.func13,Tryz.ntmps13;go_upto_region 1 with (fail)
 refine zA1 (fun u=>Ext w u/\Bk u w.heap.size [.slice none 0 0,.slice none 0 0,.slice none 0 0,.slice none 0 0,.slice none 0 0,.slice none 0 0,.int .i64 0] 32/\Bk u (w.heap.size+1) [.slice none 0 0,.slice none 0 0,.slice none 0 0,.slice none 0 0,.slice none 0 0,.slice none 0 0,.int .i64 0] 32) ⟨((zr _).alloc _).alloc _,(Bk.new _ _ _).ext ((zr _).alloc _),Bk.new1 _ _ _ _⟩ ?_
 rintro W0 ⟨e0,k2,k3⟩;have HE0:=zh e0;have K20:=zh k2;have K30:=zh k3;have l30:=k3.lt;clear e0 k2 k3;go_upto_region 2 with (go_at_call 32;refine(zMp W _ b (m+700) (H.out.ext HE0.out)).mono ?_;rintro e w1 ⟨v1,x,n,rfl,hv,htt,hn,hm,hr⟩;obtain⟨p0,q0,p1,q1,p2,q2,p3,q3,p4,q4,p5,q5,rfl,-⟩:=hv.openMc;have HV:=zh (hv.mono (L':=w.heap.size+2) (by omega));have HTT:=zh htt;have HN:=zh hn;have MW:=zh ((Mw.ofExt HE0.out).tr hm);have K2:=zh (hm.bk K20.out (by simp;omega));have K3:=zh (hm.bk K30.out (by simp;omega));have RD:=zh hr;clear hm hr hv htt hn)
 obtain⟨A,hA⟩:∃ A,A=w1.heap.size:=⟨_,rfl⟩;have hA3:w.heap.size+1 < A:=by have:=K3.out.lt;omega
 have hAW:W.heap.size<=A:=by omega
 refine zA1 (fun u=>Ext w1 u/\Bk u A [.slice p0 x.Plan.Parts.length q0,.slice p1 x.Plan.Channels.length q1,.slice p2 x.Plan.Slots.length q2,.slice p3 x.Programs.length q3,.slice p4 x.Cores.length q4,.slice p5 x.Holds.length q5,.int .i64 x.Tick] 32) ⟨(zr _).alloc _,by rw[hA];exact Bk.new _ _ _⟩ ?_
 rw[<- hA];rintro W2 ⟨e2,kA⟩;clear hA;replace MW:=zh (MW.out.tr (Mw.ofExt e2));replace HV:=zh (HV.out.ext e2);replace K2:=zh (K2.out.ext e2);replace K3:=zh (K3.out.ext e2);replace RD:Hid (Rd W W2 b (m+90+600)):=zh ((RD.out.ext e2).le (by omega))
 have KA:=zh kA;have hb2:w.heap.size ∉ [b]:=by simp;omega
 have hb3:w.heap.size+1 ∉ [b]:=by simp;omega
 have hbA:A ∉ [b]:=by simp;omega
 have szW2:w.heap.size+2<=W2.heap.size:=by have:=kA.lt;omega
 obtain⟨f0,f1,f2,f3,f4,f5,f6⟩:=Bk.k7 kA;have fL:=kA.lt;clear e2 kA;go_upto_region 3 with (go_at_call 33;refine(zLw W _ b (m+90) (w.heap.size+2) _ x n RD.out HV.out (by omega) (by omega)).mono ?_;rintro e w3 ⟨v3,y,rfl,hv,hm,hr⟩;obtain⟨c0,d0,c1,d1,c2,d2,c3,d3,c4,d4,c5,d5,rfl,hyl⟩:=hv.openMc;have HY:=zh hv;replace HV:=zh (HV.out.mw hm (by simp;omega));replace MW:=zh (MW.out.tr hm);replace K2:=zh (hm.bk K2.out hb2);replace K3:=zh (hm.bk K3.out hb3);replace KA:=zh (hm.bk KA.out hbA);replace RD:=zh hr;clear hm hr hv)
 clear f0 f1 f2 f3 f4 f5 f6 fL;obtain⟨X,hX⟩:∃ X,X=w3.heap.size:=⟨_,rfl⟩;have hAX:A < X:=by have:=KA.out.lt;omega
 have hX3:w3.heap.size<=X:=by omega
 refine zA1 (fun u=>Ext w3 u/\Bk u X [.slice c0 y.Plan.Parts.length d0,.slice c1 y.Plan.Channels.length d1,.slice c2 y.Plan.Slots.length d2,.slice c3 y.Programs.length d3,.slice c4 y.Cores.length d4,.slice c5 y.Holds.length d5,.int .i64 y.Tick] 32) ⟨(zr _).alloc _,by rw[hX];exact Bk.new _ _ _⟩ ?_
 rw[<- hX];rintro W4 ⟨e4,kX⟩;clear hX;have ltX:=kX.lt;have MW3:Hid (Mw [b] w3 W4):=zh (Mw.ofExt e4);have HV3:=zh HV.out;replace HV:=zh (HV.out.ext e4);replace HY:=zh (HY.out.ext e4);replace MW:=zh (MW.out.tr (Mw.ofExt e4));replace K2:=zh (K2.out.ext e4);replace K3:=zh (K3.out.ext e4);replace KA:=zh (KA.out.ext e4);replace RD:Hid (Rd W W4 b (m+80+1)):=zh ((RD.out.ext e4).le (by omega))
 have KX:=zh kX;have hbX:X ∉ [b]:=by simp;omega
 clear e4 kX;have hXW:W.heap.size<=X:=by omega
 have PR0:=zh (fun(u:World) (h1:Mw [b] W4 u) (h2:Rd W u b (m+80))=>(⟨MW.out.tr h1,h2.le (by omega),h1.bk K2.out hb2,h1.bk K3.out hb3,⟨_,_,_,_,_,_,_,h1.bk KA.out hbA,HV.out.mw h1 (by simp;omega)⟩,⟨_,_,_,_,_,_,_,h1.bk KX.out hbX,HY.out.mw h1 (by simp;omega)⟩⟩:zOu 32 W w b m A X x y u))
 have DO:=zh (And.intro hyl hyl);by_cases hl:0 < y.Cores.length
 case' neg =>
  have hlb:decide ((y.Cores.length:Int) > 0)=false:=decide_eq_false (by omega)
  go_upto_if 29 with (go_at_call 34;refine(zF2 W _ b (m+80) _ RD.out (zAg (by omega) (by omega))).mono ?_;rintro e w5 ⟨⟨q,rfl⟩,hm,hr⟩;have MS:=zh (Mw.ofMo hm:Mw [b] W4 w5);have RD5:=zh hr;obtain⟨g0,g1,g2,g3,g4,g5,g6⟩:=Bk.k7 (MS.out.bk KX.out hbX);have gL:=(MS.out.bk KX.out hbX).lt;clear hm hr)
  all_goals
   go_upto_region 12 with (fail)
   refine zA1 (zOu 32 W w b m A X x y) (PR0.out _ MS.out RD5.out) ?_;clear PR0 MS RD5 KX KA K2 K3 HV HY MW RD HV3 MW3;rintro u9 ⟨mw9,rd9,k29,k39,⟨a0,a1,a2,a3,a4,a5,a6,ka9,hx9⟩,⟨c0,c1,c2,c3,c4,c5,c6,kx9,hy9⟩⟩;obtain⟨yr,hyr⟩:∃ yr,y=yr:=⟨_,rfl⟩;rw[hyr] at hy9;clear hyr
 rotate_right 1
 focus
  have hlb:decide ((y.Cores.length:Int) > 0)=true:=decide_eq_true (by omega)
  cases gv:zEh y
  focus
   go_upto_if 29 with (first|(go_at_call 34;refine(zF2 W _ b (m+80) _ RD.out (zAg (by omega) (by omega))).mono ?_;rintro e w5 ⟨⟨q,rfl⟩,hm,hr⟩;have MS:=zh (Mw.ofMo hm:Mw [b] W4 w5);have RD5:=zh hr;obtain⟨g0,g1,g2,g3,g4,g5,g6⟩:=Bk.k7 (MS.out.bk KX.out hbX);have gL:=(MS.out.bk KX.out hbX).lt;clear hm hr)|(go_at_call 21;refine(zA7 _ y _ ((HY.out.mw MS.out (by simp;omega)).rv)).mono ?_;rintro e w6 ⟨rfl,he⟩;rw[gv];replace RD5:=zh (RD5.out.ext he);replace MS:=zh (MS.out.tr (Mw.ofExt he));clear he))
   all_goals
    go_upto_region 12 with (fail)
    refine zA1 (zOu 32 W w b m A X x y) (PR0.out _ MS.out RD5.out) ?_;clear PR0 MS RD5 KX KA K2 K3 HV HY MW RD HV3 MW3;rintro u9 ⟨mw9,rd9,k29,k39,⟨a0,a1,a2,a3,a4,a5,a6,ka9,hx9⟩,⟨c0,c1,c2,c3,c4,c5,c6,kx9,hy9⟩⟩;obtain⟨yr,hyr⟩:∃ yr,y=yr:=⟨_,rfl⟩;rw[hyr] at hy9;clear hyr
  rotate_right 1
  go_upto_if 29 with (first|(go_at_call 34;refine(zF2 W _ b (m+80) _ RD.out (zAg (by omega) (by omega))).mono ?_;rintro e w5 ⟨⟨q,rfl⟩,hm,hr⟩;have MS:=zh (Mw.ofMo hm:Mw [b] W4 w5);have RD5:=zh hr;obtain⟨g0,g1,g2,g3,g4,g5,g6⟩:=Bk.k7 (MS.out.bk KX.out hbX);have gL:=(MS.out.bk KX.out hbX).lt;clear hm hr)|(go_at_call 21;refine(zA7 _ y _ ((HY.out.mw MS.out (by simp;omega)).rv)).mono ?_;rintro e w6 ⟨rfl,he⟩;rw[gv];replace RD5:=zh (RD5.out.ext he);replace MS:=zh (MS.out.tr (Mw.ofExt he));clear he))
  focus
   have hmv:=zAw.1 gv;have HMV:=zh hmv;have htot:GT.tot y<=1048576:=Nat.le_trans (zE6 hmv) (by omega)
   have hyc5:y.Cores.length<=5:=by rw[hmv.nc];exact zAh hmv.pg.set
   have htk:=hmv.tick;clear hmv gv PR0 DO;have MW3c:=zh (MW3.out.tr MS.out);have K2c:=zh (MS.out.bk K2.out hb2);have K3c:=zh (MS.out.bk K3.out hb3);have KAc:=zh (MS.out.bk KA.out hbA);have KXc:=zh (MS.out.bk KX.out hbX);have HYc:=zh (HY.out.mw MS.out (by simp;omega))
   have MWc:=zh (MW.out.tr MS.out);clear K2 K3 KA KX HY MW MW3 MS RD;obtain⟨h0,h1,h2,h3,h4,h5,h6⟩:=Bk.k7 KXc.out;have gXL:=KXc.out.lt;go_upto_region 5 with (go_at_call 35;refine(zFq _ y _ HYc.out.rv htot).mono ?_;rintro e U5 ⟨v5,rfl,hov,ex⟩;obtain⟨cs5,F5,rfl,hen,how⟩:=hov;obtain⟨v0,v1,v2,v3,v4,v5,G0,G1,G2,G3,G4,G5,rfl,⟨t0,u0,rfl,-⟩,⟨t1,u1,rfl,-⟩,⟨t2,u2,rfl,-⟩,⟨t3,u3,rfl,-⟩,⟨t4,u4,rfl,-⟩,⟨t5,u5,rfl,-⟩,-,-⟩:=id hen;have HEN:=zh hen;have HOW:=zh how;have EX:=zh ex;have KX5:=zh (KXc.out.ext ex);obtain⟨x0,x1,x2,x3,x4,x5,x6⟩:=Bk.k7 (KXc.out.ext ex);have xf:=(KXc.out.ext ex).fz;have xL:=(KXc.out.ext ex).lt;clear hen how ex)
   have hXF:X ∉ F5:=fun hm=>by have:=(HOW.out.2 X hm).1;omega
   have OMN:Hid (Om X (zAe U5 X 0 [.slice t0 y.Plan.Parts.length u0,.slice t1 y.Plan.Channels.length u1,.slice t2 y.Plan.Slots.length u2,.slice t3 y.Programs.length u3,.slice t4 y.Cores.length u4,.slice t5 y.Holds.length u5,.int .i64 y.Tick]) X 0 y F5):=zh (Om.newG (cs:=[.slice t0 y.Plan.Parts.length u0,.slice t1 y.Plan.Channels.length u1,.slice t2 y.Plan.Slots.length u2,.slice t3 y.Programs.length u3,.slice t4 y.Cores.length u4,.slice t5 y.Holds.length u5,.int .i64 y.Tick]) (B:=X) (u:=U5) HEN.out (HOW.out.mono (by omega)) KX5.out rfl (Nat.le_refl X) hXF)
   refine zA1 (fun u=>Mw [b] w3 u/\Mw [b] w u/\Rd W u b (m+70)/\Bk u w.heap.size [.slice none 0 0,.slice none 0 0,.slice none 0 0,.slice none 0 0,.slice none 0 0,.slice none 0 0,.int .i64 0] 32/\Bk u (w.heap.size+1) [.slice none 0 0,.slice none 0 0,.slice none 0 0,.slice none 0 0,.slice none 0 0,.slice none 0 0,.int .i64 0] 32/\Bk u A [.slice p0 x.Plan.Parts.length q0,.slice p1 x.Plan.Channels.length q1,.slice p2 x.Plan.Slots.length q2,.slice p3 x.Programs.length q3,.slice p4 x.Cores.length q4,.slice p5 x.Holds.length q5,.int .i64 x.Tick] 32/\Bk u X [.slice t0 y.Plan.Parts.length u0,.slice t1 y.Plan.Channels.length u1,.slice t2 y.Plan.Slots.length u2,.slice t3 y.Programs.length u3,.slice t4 y.Cores.length u4,.slice t5 y.Holds.length u5,.int .i64 y.Tick] 32/\Om X u X 0 y F5)
    ⟨Mw.puts (b:=X) (o:=0) (.inr hX3) [.slice t0 y.Plan.Parts.length u0,.slice t1 y.Plan.Channels.length u1,.slice t2 y.Plan.Slots.length u2,.slice t3 y.Programs.length u3,.slice t4 y.Cores.length u4,.slice t5 y.Holds.length u5,.int .i64 y.Tick] (MW3c.out.tr (Mw.ofExt EX.out)),Mw.puts (b:=X) (o:=0) (.inr (by omega)) [.slice t0 y.Plan.Parts.length u0,.slice t1 y.Plan.Channels.length u1,.slice t2 y.Plan.Slots.length u2,.slice t3 y.Programs.length u3,.slice t4 y.Cores.length u4,.slice t5 y.Holds.length u5,.int .i64 y.Tick] (MWc.out.tr (Mw.ofExt EX.out)),Rd.puts (c:=X) (o:=0) (by omega) (by omega) [.slice t0 y.Plan.Parts.length u0,.slice t1 y.Plan.Channels.length u1,.slice t2 y.Plan.Slots.length u2,.slice t3 y.Programs.length u3,.slice t4 y.Cores.length u4,.slice t5 y.Holds.length u5,.int .i64 y.Tick] ((RD5.out.ext EX.out).le (by omega)),(K2c.out.ext EX.out).puts_ne (c:=X) (o:=0) (ds:=[.slice t0 y.Plan.Parts.length u0,.slice t1 y.Plan.Channels.length u1,.slice t2 y.Plan.Slots.length u2,.slice t3 y.Programs.length u3,.slice t4 y.Cores.length u4,.slice t5 y.Holds.length u5,.int .i64 y.Tick]) (by omega),(K3c.out.ext EX.out).puts_ne (c:=X) (o:=0) (ds:=[.slice t0 y.Plan.Parts.length u0,.slice t1 y.Plan.Channels.length u1,.slice t2 y.Plan.Slots.length u2,.slice t3 y.Programs.length u3,.slice t4 y.Cores.length u4,.slice t5 y.Holds.length u5,.int .i64 y.Tick]) (by omega),(KAc.out.ext EX.out).puts_ne (c:=X) (o:=0) (ds:=[.slice t0 y.Plan.Parts.length u0,.slice t1 y.Plan.Channels.length u1,.slice t2 y.Plan.Slots.length u2,.slice t3 y.Programs.length u3,.slice t4 y.Cores.length u4,.slice t5 y.Holds.length u5,.int .i64 y.Tick]) (by omega),KX5.out.puts [.slice t0 y.Plan.Parts.length u0,.slice t1 y.Plan.Channels.length u1,.slice t2 y.Plan.Slots.length u2,.slice t3 y.Programs.length u3,.slice t4 y.Cores.length u4,.slice t5 y.Holds.length u5,.int .i64 y.Tick] rfl,OMN.out⟩ ?_
   clear MW3c K2c K3c KAc KXc HYc MWc RD5 EX KX5 HEN HOW OMN xf xL x0 x1 x2 x3 x4 x5 x6 h0 h1 h2 h3 h4 h5 h6 gXL;rintro W6 ⟨mw3,mw6,rd6,k26,k36,ka6,kx6,om6⟩;have M36:=zh mw3;have M06:=zh mw6;have RD6:Hid (Rd W W6 b (m+60+1+1)):=zh (rd6.le (by omega));have K26:=zh k26;have K36:=zh k36;have KA6:=zh ka6;have KX6:=zh kx6;have OM6:=zh om6
   have f4:=kx6.cell (j:=4) rfl;have fL6:=kx6.lt;clear mw3 mw6 rd6 k26 k36 ka6 kx6 om6;go_upto_region 8 with (first
    | (go_at_call 36;refine(zA9 W _ b (m+60) _ RD7.out (zAg (by omega) (by omega))).mono ?_;rintro e W8 ⟨k8,rfl,hk,hm,hr⟩;have hkb8:=hk.lt (by omega);have RD8:=zh hr;have M68:=zh (M67.out.tr (Mw.ofMo hm));clear hk hm hr)
    | (go_at_call 36;refine(zA9 W _ b (m+60+1) _ RD6.out (zAg (by omega) (by omega))).mono ?_;rintro e W7 ⟨k7,rfl,hk,hm,hr⟩;have hkb7:=hk.lt (by omega);have RD7:=zh hr;have M67:Hid (Mw [b] W6 W7):=zh (Mw.ofMo hm);clear hk hm hr))
   obtain⟨K,rfl⟩:∃ K:Nat,k7=K:=⟨k7.toNat,by omega⟩
   have hK:K < y.Cores.length:=by omega
   have M38:=zh (M36.out.tr M68.out);have M08:=zh (M06.out.tr M68.out);have K28:=zh (M68.out.bk K26.out hb2);have K38:=zh (M68.out.bk K36.out hb3);have KA8:=zh (M68.out.bk KA6.out hbA);have KX8:=zh (M68.out.bk KX6.out hbX);have OM8:=zh (OM6.out.mw M68.out (by simp;omega))
   clear M36 M06 K26 K36 KA6 KX6 OM6 M67 M68 RD7 RD6 f4 fL6;have FIN:=zh (fun(u:World) (yr:Machine) (Fr:List Nat) (h1:Mw [b] w3 u) (h0:Mw [b] w u) (h2:Rd W u b m) (h3:Bk u w.heap.size [.slice none 0 0,.slice none 0 0,.slice none 0 0,.slice none 0 0,.slice none 0 0,.slice none 0 0,.int .i64 0] 32) (h4:Bk u (w.heap.size+1) [.slice none 0 0,.slice none 0 0,.slice none 0 0,.slice none 0 0,.slice none 0 0,.slice none 0 0,.int .i64 0] 32) (h5:Bk u A [.slice p0 x.Plan.Parts.length q0,.slice p1 x.Plan.Channels.length q1,.slice p2 x.Plan.Slots.length q2,.slice p3 x.Programs.length q3,.slice p4 x.Cores.length q4,.slice p5 x.Holds.length q5,.int .i64 x.Tick] 32) (c0 c1 c2 c3 c4 c5 c6:Value) (h6:Bk u X [c0,c1,c2,c3,c4,c5,c6] 32) (h7:Om X u X 0 yr Fr)=>(⟨h0,h2,h3,h4,⟨_,_,_,_,_,_,_,h5,HV3.out.mw h1 (by simp;omega)⟩,⟨_,_,_,_,_,_,_,h6,h7.rvbk h6 (by omega)⟩⟩:zOu 32 W w b m A X x yr u))
   obtain⟨g,s,c4,k0,Fy,z4,hk0,omc,hsub,-⟩:=OM8.out.mcore (Y:=K) hK;have y4:=KX8.out.cell (j:=4) rfl;have ey4:=Option.some.inj (y4.symm.trans (by simpa using z4))
   simp only[Value.slice.injEq,true_and] at ey4;obtain⟨rfl,rfl⟩:=ey4;have hgX:X≠g:=fun e=>(hsub g (List.mem_cons_self ..)).2 e.symm
   have hgL:X<=g:=OM8.out.ge.2 g (hsub g (List.mem_cons_self ..)).1;obtain⟨a9,c9,hcc,hcs,hst,-⟩:=omc.openC;have hcsl:0 < k0.Cells.length:=HMV.out.cell1 hk0;obtain⟨g9,s9,rfl,hgne,hgF,hgl,hg0,hgf,hgr,-⟩:=omc.cellC hcc 0 hcsl;rw[Nat.add_zero] at hg0;have hg9X:X≠g9:=fun e=>(hsub g9 (List.mem_cons_of_mem _ hgF)).2 e.symm
   have hg9L:X<=g9:=OM8.out.ge.2 g9 (hsub g9 (List.mem_cons_of_mem _ hgF)).1;have hgg9:g≠g9:=fun e=>hgne e.symm
   have gcf:=omc.bk.2.2.2;have gcl:=omc.bk.1;have ltX8:=KX8.out.lt;have xf8:=KX8.out.fz;have hXb:X ∉ [b]:=hbX;have hgb:g ∉ [b]:=by simp;omega
   have hg9b:g9 ∉ [b]:=by simp;omega
   have HK0:=zh hk0;have Z4:=zh y4;have HOMC:=zh omc;clear omc hsub hk0 z4;obtain rfl|rfl|rfl:k8=0\/k8=1\/k8=2:=by omega
   focus
    clear hkb8;go_upto_region 9 with (fail)
    go_region_held3 (fun u=>u.cell? ⟨X,4,none⟩=some (.slice (some ⟨g,s,none⟩) y.Cores.length u4)/\u.cell? ⟨g,s+K*3,none⟩=some (.slice (some ⟨g9,s9,none⟩) k0.Cells.length c9))
     (first
      | exact⟨(World.cell?_of_block (zA4 hg9X)).trans yx4,(World.cell?_of_block (zA4 hgg9)).trans ycc⟩
      | go_keep)
     ((go_at_call 36;refine(zA9 W _ b (m+50) _ ((RD8.out.ext (zr W8).drew).le (by omega)) (zAg (by omega) (by omega))).mono ?_;rintro e Ud ⟨kk,rfl,hkk,hm,hr⟩;have hbk:=hkk.lt (by omega);have yx4:=(hm.cell hXb).trans y4;have ycc:=(hm.cell hgb).trans hcc;have y9:=(hm.cell hg9b).trans hg0;have MD:Hid (Mw [b] W8 Ud):=zh ((Mw.ofExt (F:=[b]) (zr W8).drew).tr (Mw.ofMo hm));have RDD:=zh hr;have OMD:=zh (OM8.out.mw MD.out (by simp;omega));have yfl:=zl hgl MD.out.size;have yff:∀ j,Ud.frozen? ⟨g9,j,none⟩=false:=(fun j=>(World.frozen?_of_block (MD.out.2.2 g9 hgl hg9b)).trans (hgf j));clear hkk hm hr))
    obtain⟨F9,o9⟩:=OMD.out.core0 hK yx4 HK0.out ycc hcsl (zAg (n:=kk) (by omega) (by omega))
    have O9:=zh o9;have PRn:=zh (FIN.out _ ({ y with Cores:=y.Cores.set K { k0 with Cells:=k0.Cells.set 0 kk } }:Machine) F9 ((M38.out.tr MD.out).set (p:=⟨g9,s9,none⟩) (.inr (by show w3.heap.size<=g9;omega)) _) ((M08.out.tr MD.out).set (p:=⟨g9,s9,none⟩) (.inr (by show w.heap.size<=g9;omega)) _) ((RDD.out.set (p:=⟨g9,s9,none⟩) (by show b≠g9;omega) (by show W.heap.size<=g9;omega) _).le (by omega)) ((MD.out.bk K28.out hb2).set_ne (p:=⟨g9,s9,none⟩) (by show w.heap.size≠g9;omega) _) ((MD.out.bk K38.out hb3).set_ne (p:=⟨g9,s9,none⟩) (by show w.heap.size+1≠g9;omega) _) ((MD.out.bk KA8.out hbA).set_ne (p:=⟨g9,s9,none⟩) (by show A≠g9;omega) _) _ _ _ _ _ _ _ ((MD.out.bk KX8.out hbX).set_ne (p:=⟨g9,s9,none⟩) (by show X≠g9;exact hg9X) (.int .i64 kk)) O9.out)
    clear o9 O9 MD RDD OMD yx4 ycc y9 yfl yff;clear FIN M38 M08 RD8 K28 K38 KA8 KX8 OM8 HK0 Z4 HOMC y4 hcc hcs hst hg0 hgf hgr gcf gcl ltX8 xf8 hgl HMV HV HV3;go_upto_region 12 with (fail)
    refine zA1 (zOu 32 W w b m A X x ({ y with Cores:=y.Cores.set K { k0 with Cells:=k0.Cells.set 0 kk } }:Machine)) PRn.out ?_
    clear PRn;rintro u9 ⟨mw9,rd9,k29,k39,⟨a0,a1,a2,a3,a4,a5,a6,ka9,hx9⟩,⟨c0,c1,c2,c3,c4,c5,c6,kx9,hy9⟩⟩;obtain⟨yr,hyr⟩:∃ yr,({ y with Cores:=y.Cores.set K { k0 with Cells:=k0.Cells.set 0 kk } }:Machine)=yr:=⟨_,rfl⟩
    rw[hyr] at hy9;clear hyr
   rotate_left 1
   focus
    clear hkb8;go_upto_region 11 with (fail)
    go_region
    obtain⟨F9,o9⟩:=OM8.out.coreStop (q:=!k0.Stopped) hK y4 HK0.out;have O9:=zh o9;have PRn:=zh (FIN.out _ ({ y with Cores:=y.Cores.set K { k0 with Stopped:=!k0.Stopped } }:Machine) F9 (M38.out.set (p:=⟨g,s+K*3+2,none⟩) (.inr (by show w3.heap.size<=g;omega)) _) (M08.out.set (p:=⟨g,s+K*3+2,none⟩) (.inr (by show w.heap.size<=g;omega)) _) ((RD8.out.set (p:=⟨g,s+K*3+2,none⟩) (by show b≠g;omega) (by show W.heap.size<=g;omega) _).le (by omega)) (K28.out.set_ne (p:=⟨g,s+K*3+2,none⟩) (by show w.heap.size≠g;omega) _) (K38.out.set_ne (p:=⟨g,s+K*3+2,none⟩) (by show w.heap.size+1≠g;omega) _) (KA8.out.set_ne (p:=⟨g,s+K*3+2,none⟩) (by show A≠g;omega) _) _ _ _ _ _ _ _ (KX8.out.set_ne (p:=⟨g,s+K*3+2,none⟩) (by show X≠g;exact hgX) (.bool (!k0.Stopped))) O9.out)
    clear o9 O9;clear FIN M38 M08 RD8 K28 K38 KA8 KX8 OM8 HK0 Z4 HOMC y4 hcc hcs hst hg0 hgf hgr gcf gcl ltX8 xf8 hgl HMV HV HV3;go_upto_region 12 with (fail)
    refine zA1 (zOu 32 W w b m A X x ({ y with Cores:=y.Cores.set K { k0 with Stopped:=!k0.Stopped } }:Machine)) (PRn.out.ext (zr _).drew) ?_
    clear PRn;rintro u9 ⟨mw9,rd9,k29,k39,⟨a0,a1,a2,a3,a4,a5,a6,ka9,hx9⟩,⟨c0,c1,c2,c3,c4,c5,c6,kx9,hy9⟩⟩;obtain⟨yr,hyr⟩:∃ yr,({ y with Cores:=y.Cores.set K { k0 with Stopped:=!k0.Stopped } }:Machine)=yr:=⟨_,rfl⟩
    rw[hyr] at hy9;clear hyr
   rotate_left 1
   focus
    clear hkb8;have y6:=KX8.out.cell (j:=6) rfl;have hw6:IntKind.i64.wrap (y.Tick+1)=y.Tick+1:=zBy (by omega) (by omega)
    obtain⟨F9,o9,-,-⟩:=OM8.out.putTick (y.Tick+1) ⟨by omega,by omega⟩
    have O9:=zh o9;have PRn:=zh (FIN.out _ ({ y with Tick:=y.Tick+1 }:Machine) F9 (M38.out.set (p:=⟨X,6,none⟩) (.inr (by show w3.heap.size<=X;omega)) _) (M08.out.set (p:=⟨X,6,none⟩) (.inr (by show w.heap.size<=X;omega)) _) ((RD8.out.set (p:=⟨X,6,none⟩) (by show b≠X;omega) (by show W.heap.size<=X;omega) _).le (by omega)) (K28.out.set_ne (p:=⟨X,6,none⟩) (by show w.heap.size≠X;omega) _) (K38.out.set_ne (p:=⟨X,6,none⟩) (by show w.heap.size+1≠X;omega) _) (KA8.out.set_ne (p:=⟨X,6,none⟩) (by show A≠X;omega) _) _ _ _ _ _ _ _ (KX8.out.set 6 (.int .i64 (y.Tick+1))) O9.out)
    clear o9 O9;go_upto_region 12 with (fail)
    refine zA1 (zOu 32 W w b m A X x ({ y with Tick:=y.Tick+1 }:Machine)) PRn.out ?_
    clear PRn y6;clear FIN M38 M08 RD8 K28 K38 KA8 KX8 OM8 HK0 Z4 HOMC y4 hcc hcs hst hg0 hgf hgr gcf gcl ltX8 xf8 hgl HMV HV HV3;rintro u9 ⟨mw9,rd9,k29,k39,⟨a0,a1,a2,a3,a4,a5,a6,ka9,hx9⟩,⟨c0,c1,c2,c3,c4,c5,c6,kx9,hy9⟩⟩;obtain⟨yr,hyr⟩:∃ yr,({ y with Tick:=y.Tick+1 }:Machine)=yr:=⟨_,rfl⟩
    rw[hyr] at hy9;clear hyr
   rotate_left 1
  rotate_left 3
  focus
   go_upto_region 12 with (fail)
   refine zA1 (zOu 32 W w b m A X x y) (PR0.out _ MS.out RD5.out) ?_;clear PR0 MS RD5 KX KA K2 K3 HV HY MW RD HV3 MW3;rintro u9 ⟨mw9,rd9,k29,k39,⟨a0,a1,a2,a3,a4,a5,a6,ka9,hx9⟩,⟨c0,c1,c2,c3,c4,c5,c6,kx9,hy9⟩⟩;obtain⟨yr,hyr⟩:∃ yr,y=yr:=⟨_,rfl⟩;rw[hyr] at hy9;clear hyr
  rotate_left 1
 all_goals
  obtain⟨p0,q0,p1,q1,p2,q2,p3,q3,p4,q4,p5,q5,ee,-⟩:=hx9.openMc;have e9:=congrArg (fun v=>match v with | .agg a=>a.toList|_ => []) ee
  simp only[List.cons.injEq,and_true] at e9;obtain⟨rfl,rfl,rfl,rfl,rfl,rfl,rfl⟩:=e9;clear ee;obtain⟨c0,d0,c1,d1,c2,d2,c3,d3,c4,d4,c5,d5,ee,-⟩:=hy9.openMc;have e9:=congrArg (fun v=>match v with | .agg a=>a.toList|_ => []) ee
  simp only[List.cons.injEq,and_true] at e9;obtain⟨rfl,rfl,rfl,rfl,rfl,rfl,rfl⟩:=e9;clear ee;have MW9:=zh mw9;have RD9:=zh rd9;have K29:=zh k29;have K39:=zh k39;have KA9:=zh ka9;have HX9:=zh hx9;have KX9:=zh kx9;have HY9:=zh hy9;obtain⟨f0,f1,f2,f3,f4,f5,f6⟩:=Bk.k7 ka9;obtain⟨g0,g1,g2,g3,g4,g5,g6⟩:=Bk.k7 kx9;have ltA9:=ka9.lt;have ltX9:=kx9.lt;obtain⟨z0,z1,z2,z3,z4,z5,z6⟩:=Bk.k7 k29;have z2f:=k29.fz;have z2l:=k29.lt;obtain⟨y0,y1,y2,y3,y4,y5,y6⟩:=Bk.k7 k39;have z3f:=k39.fz;have z3l:=k39.lt;have hne23:w.heap.size≠w.heap.size+1:=by omega
  have hAn2:A≠w.heap.size:=by omega
  have hAn3:A≠w.heap.size+1:=by omega
  have hXn2:X≠w.heap.size:=by omega
  have hXn3:X≠w.heap.size+1:=by omega
  clear mw9 rd9 k29 k39 ka9 hx9 kx9 hy9;go_region
  try go_wp2
  refine bodyPost_ret (v:=.tuple #[.agg #[.slice p0 x.Plan.Parts.length q0,.slice p1 x.Plan.Channels.length q1,.slice p2 x.Plan.Slots.length q2,.slice p3 x.Programs.length q3,.slice p4 x.Cores.length q4,.slice p5 x.Holds.length q5,.int .i64 x.Tick],.agg #[.slice c0 yr.Plan.Parts.length d0,.slice c1 yr.Plan.Channels.length d1,.slice c2 yr.Plan.Slots.length d2,.slice c3 yr.Programs.length d3,.slice c4 yr.Cores.length d4,.slice c5 yr.Holds.length d5,.int .i64 yr.Tick],.int .i64 n]) (by simp[results,Tryz.results13,go_sem,z0,y0,z1,y1,z2,y2,z3,y3,z4,y4,z5,y5,z6,y6]) rfl ⟨_,_,x,yr,n,rfl,?_,?_,HTT.out,HN.out,?_,?_⟩
  ·exact((Rvb.puts (A:=w.heap.size+1) (o:=0) (by omega) [.slice c0 yr.Plan.Parts.length d0,.slice c1 yr.Plan.Channels.length d1,.slice c2 yr.Plan.Slots.length d2,.slice c3 yr.Programs.length d3,.slice c4 yr.Cores.length d4,.slice c5 yr.Holds.length d5,.int .i64 yr.Tick] (Rvb.puts (A:=w.heap.size) (o:=0) (by omega) [.slice p0 x.Plan.Parts.length q0,.slice p1 x.Plan.Channels.length q1,.slice p2 x.Plan.Slots.length q2,.slice p3 x.Programs.length q3,.slice p4 x.Cores.length q4,.slice p5 x.Holds.length q5,.int .i64 x.Tick] HX9.out)).mono (by omega)).ext (zr _).drew
  ·exact((Rvb.puts (A:=w.heap.size+1) (o:=0) (by omega) [.slice c0 yr.Plan.Parts.length d0,.slice c1 yr.Plan.Channels.length d1,.slice c2 yr.Plan.Slots.length d2,.slice c3 yr.Programs.length d3,.slice c4 yr.Cores.length d4,.slice c5 yr.Holds.length d5,.int .i64 yr.Tick] (Rvb.puts (A:=w.heap.size) (o:=0) (by omega) [.slice p0 x.Plan.Parts.length q0,.slice p1 x.Plan.Channels.length q1,.slice p2 x.Plan.Slots.length q2,.slice p3 x.Programs.length q3,.slice p4 x.Cores.length q4,.slice p5 x.Holds.length q5,.int .i64 x.Tick] HY9.out)).mono (by omega)).ext (zr _).drew
  ·exact(Mw.puts (b:=w.heap.size+1) (o:=0) (.inr (by omega)) [.slice c0 yr.Plan.Parts.length d0,.slice c1 yr.Plan.Channels.length d1,.slice c2 yr.Plan.Slots.length d2,.slice c3 yr.Programs.length d3,.slice c4 yr.Cores.length d4,.slice c5 yr.Holds.length d5,.int .i64 yr.Tick] (Mw.puts (b:=w.heap.size) (o:=0) (.inr (by omega)) [.slice p0 x.Plan.Parts.length q0,.slice p1 x.Plan.Channels.length q1,.slice p2 x.Plan.Slots.length q2,.slice p3 x.Programs.length q3,.slice p4 x.Cores.length q4,.slice p5 x.Holds.length q5,.int .i64 x.Tick] MW9.out)).tr (Mw.ofExt (zr _).drew)
  ·exact((Rd.puts (c:=w.heap.size+1) (o:=0) (by omega) (by omega) [.slice c0 yr.Plan.Parts.length d0,.slice c1 yr.Plan.Channels.length d1,.slice c2 yr.Plan.Slots.length d2,.slice c3 yr.Programs.length d3,.slice c4 yr.Cores.length d4,.slice c5 yr.Holds.length d5,.int .i64 yr.Tick] (Rd.puts (c:=w.heap.size) (o:=0) (by omega) (by omega) [.slice p0 x.Plan.Parts.length q0,.slice p1 x.Plan.Channels.length q1,.slice p2 x.Plan.Slots.length q2,.slice p3 x.Programs.length q3,.slice p4 x.Cores.length q4,.slice p5 x.Holds.length q5,.int .i64 x.Tick] RD9.out)).ext (zr _).drew)
end Sk
