/- Contracts of functions of the given program. -/
import Derived.Test.YtbekofpkcahbkaaGreatVHoldS
namespace Sk
open Go Go.Proofs Go.RowKit
set_option maxHeartbeats 1000000
set_option linter.unusedVariables false
set_option linter.unusedSimpArgs false
def zDc(b:Board)(v:Wire):Int:=((b.Boxes.getD v.From.toNat zNh).Cores.getD v.FromPart.toNat M.cz).Cells.getD v.FromCell.toNat 0
def zM6(m:Machine)(y z:Nat)(n:Int):Machine:={ m with Cores:=m.Cores.set y { m.Cores.getD y M.cz with Cells:=(m.Cores.getD y M.cz).Cells.set z n } }
def zL8(b:Board)(xs:List Machine)(v:Wire):List Machine:=xs.set v.To.toNat (zM6 (xs.getD v.To.toNat zNh) v.ToPart.toNat v.ToCell.toNat (zDc b v))
def zD3(b:Board)(k:Nat):List Machine:=(b.Wires.take k).foldl (zL8 b) b.Boxes
theorem zJh{b:Board}{k:Nat}{v:Wire}(h:b.Wires[k]? = some v):zD3 b (k+1)=zL8 b (zD3 b k) v:=by
 unfold zD3;rw[zAe h,List.foldl_append];rfl
def zJt(b:Board):Board:=⟨zD3 b b.Wires.length,b.Wires⟩
def zN8:Board:=⟨[],[]⟩
noncomputable def zCj(b:Board):Board:=if zE2 b then zJt b else zN8
theorem zCy{b:Board}(h:zE2 b=true):zCj b=zJt b:=if_pos h
theorem zE3{b:Board}(h:zE2 b=false):zCj b=zN8:=if_neg (by rw[h];decide)
theorem zEy{b:Board}{x y z:Int}:zJ2 b x y z=true ↔ ∃ (X Y Z:Nat) (m:Machine) (c:Core),x=X/\y=Y/\z=Z/\b.Boxes[X]? = some m/\m.Cores[Y]? = some c/\Z < c.Cells.length:=by
 unfold zJ2;constructor
 ·intro h;rw[Bool.and_eq_true,zA5] at h;obtain⟨h1,h2⟩:=h;cases hm:b.Boxes[x.toNat]? with
  | none=>rw[hm] at h2;cases h2
  | some m =>
   rw[hm] at h2;simp only[Bool.and_eq_true,zA5] at h2;obtain⟨h3,h4⟩:=h2;cases hc:m.Cores[y.toNat]? with
   | none=>rw[hc] at h4;cases h4
   | some c =>
    rw[hc] at h4;simp only[zA5] at h4;exact⟨x.toNat,y.toNat,z.toNat,m,c,by omega,by omega,by omega,hm,hc,by omega⟩
 ·rintro⟨X,Y,Z,m,c,rfl,rfl,rfl,hm,hc,hz⟩;have h1:=zA3 hm;have h2:=zA3 hc;simp only[Int.toNat_natCast,hm,hc,Bool.and_eq_true,zA5];omega
theorem zKf{xs ys:List Machine}(hp:xs.map (·.Plan)=ys.map (·.Plan)){k:Nat}{m:Machine}(hm:ys[k]? = some m):∃ m',xs[k]? = some m'/\m'.Plan=m.Plan:=by
 have e:=congrArg (fun l=>l[k]?) hp
 simp only[List.getElem?_map,hm,Option.map_some] at e;cases h:xs[k]? with
 | none=>rw[h] at e;cases e
 | some m'=>rw[h] at e;exact⟨m',rfl,Option.some.inj e⟩
theorem zBj.shape{m m':Machine}(h:zBj m)(h':zBj m')(hp:m'.Plan=m.Plan){k:Nat}{c:Core}(hc:m.Cores[k]? = some c):∃ c',m'.Cores[k]? = some c'/\c'.Cells.length=c.Cells.length:=by
 have hk:=zA3 hc;have n1:=h.nc;have n2:=h'.nc;rw[hp] at n2;obtain⟨c1,p1,q1,a1,a2,a3,a4,_⟩:=h.at hk;obtain⟨c2,p2,q2,b1,b2,b3,b4,_⟩:=h'.at (n:=k) (by omega)
 rw[hc] at a1;cases a1;rw[hp,a3] at b3;cases b3;have e1:=(zAg.1 a4).1;have e2:=(zAg.1 b4).1;exact⟨c2,b1,by omega⟩
theorem zJv{b b':Board}(h:∀ m∈b.Boxes,zBj m)(h':∀ m∈b'.Boxes,zBj m)(hp:b'.Boxes.map (·.Plan)=b.Boxes.map (·.Plan)){x y z:Int}(hc:zJ2 b x y z=true):zJ2 b' x y z=true:=by
 obtain⟨X,Y,Z,m,c,rfl,rfl,rfl,hm,hcc,hz⟩:=zEy.1 hc;obtain⟨m',hm',e⟩:=zKf hp hm;obtain⟨c',hc',e2⟩:=zBj.shape (h m (List.mem_of_getElem? hm)) (h' m' (List.mem_of_getElem? hm')) e hcc;exact zEy.2 ⟨X,Y,Z,m',c',rfl,rfl,rfl,hm',hc',by omega⟩
theorem zGd.box{b:Board}(h:zGd b):∀ m∈b.Boxes,zBj m:=fun m hm=>zCz.1 (h.mv m hm)
theorem zGd.of{b b':Board}(h:zGd b)(hw:b'.Wires=b.Wires)(h':∀ m∈b'.Boxes,zBj m)(hp:b'.Boxes.map (·.Plan)=b.Boxes.map (·.Plan)):zGd b' where
 nb:=by have:=congrArg List.length hp;simp only[List.length_map] at this;rw[this];exact h.nb
 nw:=by rw[hw];exact h.nw
 mv:=fun m hm=>zCz.2 (h' m hm)
 ok:=fun k w hk=>by
  rw[hw] at hk ⊢;obtain⟨h1,h2,h3⟩:=h.ok k w hk;exact⟨zJv h.box h' hp h1,zJv h.box h' hp h2,h3⟩
theorem zGd.src{b:Board}(h:zGd b){k:Nat}{v:Wire}(hk:b.Wires[k]? = some v):∃ (X Y Z:Nat) (m:Machine) (c:Core),v.From=X/\v.FromPart=Y/\v.FromCell=Z/\b.Boxes[X]? = some m/\m.Cores[Y]? = some c/\Z < c.Cells.length/\c.Cells[Z]? = some (zDc b v)/\0<=zDc b v/\zDc b v<=255:=by
 obtain⟨X,Y,Z,m,c,e1,e2,e3,hm,hc,hz⟩:=zEy.1 (h.ok k v hk).1;have hv:c.Cells[Z]? = some (zDc b v):=by
  unfold zDc;rw[e1,e2,e3];simp only[Int.toNat_natCast,List.getD_eq_getElem?_getD,hm,hc,Option.getD_some,List.getElem?_eq_getElem hz]
 obtain⟨c1,p1,q1,a1,a2,a3,a4,_⟩:=(h.box m (List.mem_of_getElem? hm)).at (zA3 hc);rw[hc] at a1;cases a1;exact⟨X,Y,Z,m,c,e1,e2,e3,hm,hc,hz,hv,(zAg.1 a4).2.2 _ (List.mem_of_getElem? hv)⟩
theorem zNi{m:Machine}(h:zBj m){y z:Nat}{c:Core}(hc:m.Cores[y]? = some c){n:Int}(hn:0<=n/\n<=255):zBj (zM6 m y z n):=by
 obtain⟨c1,p1,q1,a1,a2,a3,a4,_⟩:=h.at (zA3 hc);rw[hc] at a1;cases a1;have e:m.Cores.getD y M.cz=c:=by rw[List.getD_eq_getElem?_getD,hc];rfl
 obtain⟨f1,f2,f3⟩:=zAg.1 a4;unfold zM6;rw[e];exact h.set (c:={ c with Cells:=c.Cells.set z n }) (t:=m.Tick) a2 a3 (zAg.2 ⟨by simpa using f1,f2,fun x hx=>by
  rcases List.mem_or_eq_of_mem_set hx with h1|h1
  ·exact f3 x h1
  ·rw[h1];exact hn⟩) h.tick
theorem M.cw1_ok{b:Board}{xs:List Machine}(hx:∀ m∈xs,zBj m){v:Wire}{X Y:Nat}{m:Machine}{c:Core}(e1:v.To=X)(e2:v.ToPart=Y)(hm:xs[X]? = some m)(hc:m.Cores[Y]? = some c)(hn:0<=zDc b v/\zDc b v<=255) :
  (∀ m∈zL8 b xs v,zBj m)/\(zL8 b xs v).map (·.Plan)=xs.map (·.Plan)/\(zL8 b xs v).map (·.Tick)=xs.map (·.Tick):=by
 have e:xs.getD v.To.toNat zNh=m:=by rw[e1,List.getD_eq_getElem?_getD,Int.toNat_natCast,hm];rfl
 unfold zL8;rw[e,e1,e2,Int.toNat_natCast,Int.toNat_natCast];refine⟨fun m' hm'=>?_,?_,?_⟩
 ·rcases List.mem_or_eq_of_mem_set hm' with h1|h1
  ·exact hx m' h1
  ·rw[h1];exact zNi (hx m (List.mem_of_getElem? hm)) hc hn
 all_goals
  rw[List.map_set];apply List.ext_getElem? fun j=>?_
  rw[List.getElem?_set]
  split
  ·rename_i ej
   subst ej
   split
   ·rename_i hl
    rw[List.getElem?_map,hm];rfl
   ·rename_i hl
    exact(List.getElem?_eq_none (by omega)).symm
  ·rfl
theorem zFv{b:Board}(h:zGd b):∀ k,k<=b.Wires.length->(∀ m∈zD3 b k,zBj m)/\(zD3 b k).map (·.Plan)=b.Boxes.map (·.Plan)/\(zD3 b k).map (·.Tick)=b.Boxes.map (·.Tick):=by
 intro k
 induction k with
 | zero=>intro _;exact⟨h.box,rfl,rfl⟩
 | succ k ih =>
  intro hk;obtain⟨h1,h2,h3⟩:=ih (by omega)
  obtain⟨v,hv⟩:∃ v,b.Wires[k]? = some v:=⟨_,List.getElem?_eq_getElem (by omega)⟩
  obtain⟨_,_,_,_,_,_,_,_,_,_,_,_,hr⟩:=h.src hv;obtain⟨X,Y,Z,m,c,e1,e2,e3,hm,hc,hz⟩:=zEy.1 (zJv (b':=⟨zD3 b k,b.Wires⟩) h.box h1 h2 (h.ok k v hv).2.1);obtain⟨g1,g2,g3⟩:=M.cw1_ok (b:=b) h1 e1 e2 hm hc hr;rw[zJh hv];exact⟨g1,g2.trans h2,g3.trans h3⟩
theorem zGd.dst{b:Board}(h:zGd b){k:Nat}{v:Wire}(hv:b.Wires[k]? = some v):∃ (X Y Z:Nat) (m:Machine) (c:Core),v.To=X/\v.ToPart=Y/\v.ToCell=Z/\(zD3 b k)[X]? = some m/\m.Cores[Y]? = some c/\Z < c.Cells.length/\zD3 b (k+1)=(zD3 b k).set X { m with Cores:=m.Cores.set Y { c with Cells:=c.Cells.set Z (zDc b v) } }:=by
 have hk:=zA3 hv;obtain⟨h1,h2,h3⟩:=zFv h k (by omega)
 obtain⟨X,Y,Z,m,c,e1,e2,e3,hm,hc,hz⟩:=zEy.1 (zJv (b':=⟨zD3 b k,b.Wires⟩) h.box h1 h2 (h.ok k v hv).2.1);refine⟨X,Y,Z,m,c,e1,e2,e3,hm,hc,hz,?_⟩;rw[zJh hv];simp only[zL8,zM6,e1,e2,e3,Int.toNat_natCast,List.getD_eq_getElem?_getD,Option.getD_some] at hm ⊢;rw[hm];simp only[Option.getD_some,hc]
theorem zNb{b:Board}(h:zGd b):zGd (zJt b):=by
 obtain⟨h1,h2,_⟩:=zFv h b.Wires.length (Nat.le_refl _);exact h.of rfl h1 h2
theorem M.cw_len{b:Board}(h:zGd b):(zJt b).Boxes.length=b.Boxes.length:=by
 obtain⟨_,h2,_⟩:=zFv h b.Wires.length (Nat.le_refl _)
 have:=congrArg List.length h2
 simp only[List.length_map] at this;exact this
def zGe(m:Machine):Nat:=zJ0 m.Plan.Slots
def zC2(b:Board):Bool:=b.Boxes.all fun m=>decide (m.Tick+zGe m<=100000)
def zEc(b:Board):Board:=⟨b.Boxes.map fun m=>zBd m (zGe m),b.Wires⟩
def zGf(b:Board):Board:=zJt (zEc b)
theorem zD6{b:Board}:zC2 b=true ↔ ∀ m∈b.Boxes,m.Tick+zGe m<=100000:=by
 unfold zC2;simp only[List.all_eq_true,decide_eq_true_eq]
theorem zEo{b:Board}(h:zGd b)(ho:zC2 b=true):zGd (zEc b):=by
 refine h.of rfl (fun m hm=>?_) ?_
 ·obtain⟨m0,h0,rfl⟩:=List.mem_map.1 hm;exact(zDn (h.box m0 h0) _ (zD6.1 ho m0 h0)).1
 ·show(b.Boxes.map _).map _=_
  rw[List.map_map];refine List.map_congr_left fun m0 h0=>?_
  exact(zDn (h.box m0 h0) _ (zD6.1 ho m0 h0)).2.2.1
theorem zM1{b:Board}(h:zGd b)(ho:zC2 b=true):zGd (zGf b):=zNb (zEo h ho)
theorem zI5{b:Board}(h:zGd b)(ho:zC2 b=true):(zGf b).Boxes.length=b.Boxes.length:=by
 unfold zGf;rw[M.cw_len (zEo h ho)];simp[zEc]
theorem zLa{m:Machine}(h:zBj m):1<=zGe m/\zGe m<=240:=(zKd.of h.ssv).fl
def zAz(b:Board):Nat->Option Board
 | 0=>some b
 | k+1=>match zAz b k with
  | some x=>if zC2 x then some (zGf x) else none
  | none=>none
theorem zEj{b x:Board}{k:Nat}(h:zAz b k=some x)(ho:zC2 x=true):zAz b (k+1)=some (zGf x):=by
 show(match zAz b k with|some x=>_|none=>_)=_
 rw[h];exact if_pos ho
theorem zEk{b x:Board}{k:Nat}(h:zAz b k=some x)(ho:zC2 x=false):zAz b (k+1)=none:=by
 show(match zAz b k with|some x=>_|none=>_)=_
 rw[h];exact if_neg (by rw[ho];decide)
theorem zH8{b:Board}{k n:Nat}(h:zAz b k=none)(hn:k<=n):zAz b n=none:=by
 induction n with
 | zero =>
  obtain rfl:k=0:=by omega
  exact h
 | succ n ih =>
  by_cases e:k=n+1
  ·rw[<- e];exact h
  ·show(match zAz b n with|some x=>_|none=>_)=_
   rw[ih (by omega)]
theorem zEx{b:Board}(h:zGd b):∀ {k:Nat} {x:Board},zAz b k=some x->zGd x/\x.Boxes.length=b.Boxes.length:=by
 intro k
 induction k with
 | zero=>intro x hx;cases hx;exact⟨h,rfl⟩
 | succ k ih =>
  intro x hx;replace hx:(match zAz b k with|some x=>if zC2 x then some (zGf x) else none|none=>none)=some x:=hx
  cases hy:zAz b k with
  | none=>rw[hy] at hx;cases hx
  | some y =>
   rw[hy] at hx;obtain⟨h1,h2⟩:=ih hy;by_cases ho:zC2 y=true
   ·have hx2:some (zGf y)=some x:=(if_pos ho).symm.trans hx;cases hx2;exact⟨zM1 h1 ho,(zI5 h1 ho).trans h2⟩
   ·have hx2:none=some x:=(if_neg ho).symm.trans hx;cases hx2
noncomputable def zAy(b:Board)(n:Int):Board:=if zE2 b && zA8 n 0 10 then (zAz b n.toNat).getD zN8 else zN8
theorem zBq{b x:Board}{n:Nat}(h:zE2 b=true)(hn:n<=10)(hx:zAz b n=some x):zAy b n=x:=by
 have e:zA8 (n:Int) 0 10=true:=zA5.2 (by omega)
 refine(if_pos (by rw[h,e];rfl)).trans ?_
 rw[Int.toNat_natCast,hx];rfl
theorem zDl{b:Board}{n:Nat}(h:zAz b n=none):zAy b n=zN8:=by
 unfold zAy;rw[Int.toNat_natCast,h];split<;>rfl
theorem zBp{b:Board}{n:Int}(h:zE2 b=false\/zA8 n 0 10=false):zAy b n=zN8:=by
 refine if_neg fun k=>?_
 rw[Bool.and_eq_true] at k;rcases h with h|h
 ·rw[h] at k;cases k.1
 ·rw[h] at k;cases k.2
theorem zGd.tot{b:Board}(h:zGd b):GT.tot b<=400000:=by
 have e:GT.tot b=GT.tot b.Boxes+GT.tot b.Wires:=rfl;have h1:=zBo 100000 3 b.Boxes h.nb (fun m hm=>zC0 (h.box m hm))
 have h2:=zBo 0 6 b.Wires h.nw (fun w _=>Nat.le_refl _)
 omega
noncomputable def zGg(b:Board):Board:=if zE2 b && zC2 b then zGf b else zN8
theorem zGh{b:Board}(h:zE2 b=true)(ho:zC2 b=true):zGg b=zGf b:=if_pos (by rw[h,ho];rfl)
theorem zFi{b:Board}(h:zE2 b=false\/zC2 b=false):zGg b=zN8:=by
 refine if_neg fun k=>?_
 rw[Bool.and_eq_true] at k;rcases h with h|h
 ·rw[h] at k;cases k.1
 ·rw[h] at k;cases k.2
theorem zL6(b:Board):zAy b 1=zGg b:=by
 cases h:zE2 b;·rw[zBp (.inl h),zFi (.inl h)]
 ·cases ho:zC2 b
  ·rw[zFi (.inr ho)];exact zDl (n:=1) (zEk (k:=0) rfl ho)
  ·rw[zGh h ho];exact zBq (n:=1) h (by omega) (zEj (k:=0) rfl ho)
theorem M.okF_ne{b:Board}(h:zC2 b=false):b.Boxes.length≠0:=fun e=>by
 rw[List.length_eq_zero_iff] at e;unfold zC2 at h;rw[e] at h;cases h
theorem Om.bbox{L:Nat}{w:World}{b:Nat}{x:Board}{F:List Nat}(h:Om L w b 0 x F){X:Nat}(hX:X < x.Boxes.length):∃ g s c m Fy,
  w.cell? ⟨b,0,none⟩=some (.slice (some ⟨g,s,none⟩) x.Boxes.length c)/\x.Boxes[X]? = some m/\Om L w g (s+X*7) m Fy/\(∀ k∈g::Fy,k∈F/\k≠b) /\
   ∀ w' m' Fy',Chg g (s+X*7) 7 Fy w w'->Om L w' g (s+X*7) m' Fy'->(∀ k∈Fy',k∈Fy\/w.heap.size<=k)->∃ F',Om L w' b 0 { x with Boxes:=x.Boxes.set X m' } F'/\(∀ k∈F',k∈F\/w.heap.size<=k)/\Chg b 0 2 F w w':=by
 obtain⟨cs,⟨v0,v1,F0,F1,rfl,h0,h1,rfl⟩,hat,ho⟩:=id h;obtain⟨a0,c0,rfl,_⟩:=id h0;obtain⟨Fc,lc⟩:=h.lBoardBoxes;have hv:w.cell? ⟨b,0+0,none⟩=some (.slice a0 x.Boxes.length c0):=hat 0 _ rfl;obtain⟨g,s,Fy,m,rfl,hx,hsub,li⟩:=(lc.om ho).idxS hv X hX;have LC:=lc.comp li;have hs:∀ y∈g::Fy,y∈F0++F1/\y≠b:=fun y hy=>Lens.fsub lc ho y (hsub y hy)
 refine⟨g,s,c0,m,Fy,by simpa using hv,hx.out,LC.om ho,hs,fun w' m' Fy' hc hm' hf=>?_⟩
 obtain⟨F2,g1,g2,g3⟩:=LC.back L w' m' Fy' ho hc hm' hf;exact⟨F2,g1,fun k hk=>(g2 k hk).elim .inl (fun e=>(hf k e).elim (fun e => .inl (hs k (List.mem_cons_of_mem _ e)).1) .inr),g3⟩
theorem Om.bcell{L:Nat}{w:World}{b:Nat}{x:Board}{F:List Nat}(h:Om L w b 0 x F){X Y Z:Nat}{m:Machine}{c:Core}(hm:x.Boxes[X]? = some m)(hc:m.Cores[Y]? = some c)(hz:Z < c.Cells.length):∃ g0 s0 n0 g1 s1 n1 g2 s2 n2,
  w.cell? ⟨b,0,none⟩=some (.slice (some ⟨g0,s0,none⟩) x.Boxes.length n0)/\w.cell? ⟨g0,s0+X*7+4,none⟩=some (.slice (some ⟨g1,s1,none⟩) m.Cores.length n1)/\w.cell? ⟨g1,s1+Y*3,none⟩=some (.slice (some ⟨g2,s2,none⟩) c.Cells.length n2) /\
  w.cell? ⟨g2,s2+Z,none⟩=some (.int .i64 (c.Cells.getD Z 0))/\(∀ j,w.frozen? ⟨g2,j,none⟩=false)/\L<=g2/\g2≠b /\
   ∀ u,rng u->∃ F',Om L (w.setCell ⟨g2,s2+Z,none⟩ (.int .i64 u)) b 0 { x with Boxes:=x.Boxes.set X { m with Cores:=m.Cores.set Y { c with Cells:=c.Cells.set Z u } } } F':=by
 obtain⟨g0,s0,n0,m',Fm,y0,hm',om0,sub0,back0⟩:=h.bbox (zA3 hm);obtain rfl:m'=m:=Option.some.inj (hm'.symm.trans hm);obtain⟨g1,s1,n1,c',Fc,y1,hc',om1,sub1,back1⟩:=om0.mcore (zA3 hc);obtain rfl:c'=c:=Option.some.inj (hc'.symm.trans hc);obtain⟨a2,n2,y2,_⟩:=om1.openC;obtain⟨g2,s2,rfl,ne2,mem2,lt2,y3,fz2,r2,put2⟩:=om1.cellC y2 Z hz;have hF:=(sub1 g2 (List.mem_cons_of_mem _ mem2)).1;obtain⟨_,_,_,ho⟩:=id h;have hF2:=sub0 g2 (List.mem_cons_of_mem _ hF);refine⟨g0,s0,n0,g1,s1,n1,g2,s2,n2,y0,y1,y2,y3,fz2,(ho.2 g2 (List.mem_cons_of_mem _ hF2.1)).1,hF2.2,fun u hu=>?_⟩
 obtain⟨F3,p1,p2,p3⟩:=put2 u hu;obtain⟨F4,q1,q2,q3⟩:=back1 _ _ _ p3 p1 (fun y hy => .inl (p2 y hy))
 obtain⟨F5,r1,_,_⟩:=back0 _ _ _ q3 q1 q2;exact⟨F5,r1⟩
theorem zJz{w:World}{x:Board}{v0 v1:Value}{F0 F1:List Nat}(h0:Sl w v0 x.Boxes F0)(h1:Sl w v1 x.Wires F1):GT.enc w [v0,v1] x (F0++F1):=⟨v0,v1,F0,F1,rfl,h0,h1,rfl⟩
theorem Om.openBd{L:Nat}{w:World}{b:Nat}{x:Board}{F:List Nat}(h:Om L w b 0 x F):∃ a0 c0 a1 c1,w.cell? ⟨b,0,none⟩=some (.slice a0 x.Boxes.length c0)/\w.cell? ⟨b,1,none⟩=some (.slice a1 x.Wires.length c1)/\Hid (GT.enc w [.slice a0 x.Boxes.length c0,.slice a1 x.Wires.length c1] x F)/\Hid (Own L w F)/\b ∉ F:=by
 obtain⟨cs,hen,hat,ho⟩:=h;obtain⟨v0,v1,F0,F1,rfl,h0,h1,rfl⟩:=id hen;obtain⟨a0,c0,rfl,_⟩:=id h0;obtain⟨a1,c1,rfl,_⟩:=id h1;exact⟨a0,c0,a1,c1,by simpa using hat 0 _ rfl,by simpa using hat 1 _ rfl,zh hen,zh ⟨(List.nodup_cons.1 ho.1).2,fun k hk=>ho.2 k (List.mem_cons_of_mem _ hk)⟩,(List.nodup_cons.1 ho.1).1⟩
theorem Ov.openBd{L:Nat}{w:World}{v:Value}{x:Board}(h:Ov L w v x):∃ a0 c0 a1 c1 F,v = .agg #[.slice a0 x.Boxes.length c0,.slice a1 x.Wires.length c1]/\GT.enc w [.slice a0 x.Boxes.length c0,.slice a1 x.Wires.length c1] x F/\Own L w F:=by
 obtain⟨cs,F,rfl,hen,ho⟩:=h;obtain⟨v0,v1,F0,F1,rfl,h0,h1,rfl⟩:=id hen;obtain⟨a0,c0,rfl,_⟩:=id h0;obtain⟨a1,c1,rfl,_⟩:=id h1;exact⟨a0,c0,a1,c1,_,rfl,hen,ho⟩
theorem Ov.openBd2{L:Nat}{w:World}{v:Value}{x:Board}(h:Ov L w v x):∃ a0 c0 a1 c1 F0 F1,v = .agg #[.slice a0 x.Boxes.length c0,.slice a1 x.Wires.length c1]/\Sl w (.slice a0 x.Boxes.length c0) x.Boxes F0/\Sl w (.slice a1 x.Wires.length c1) x.Wires F1/\(∀ k,k∈F0\/k∈F1->L<=k):=by
 obtain⟨cs,F,rfl,hen,ho⟩:=h;obtain⟨v0,v1,F0,F1,rfl,h0,h1,rfl⟩:=id hen;obtain⟨a0,c0,rfl,_⟩:=id h0;obtain⟨a1,c1,rfl,_⟩:=id h1;exact⟨a0,c0,a1,c1,F0,F1,rfl,h0,h1,fun k hk=>(ho.2 k (List.mem_append.2 hk)).1⟩
theorem Ov.bz(L:Nat)(w:World):Ov L w (.agg #[.slice none 0 0,.slice none 0 0]) zN8:=⟨_,[],rfl,GT.zero (α:=Board) w,Own.nil _ _⟩
theorem Bx.openBd{L:Nat}{w:World}{b:Nat}{x:Board}{T:TypeId}(h:Bx L w b x T):∃ p0 q0 p1 q1 F,Bk w b [.slice p0 x.Boxes.length q0,.slice p1 x.Wires.length q1] T/\GT.enc w [.slice p0 x.Boxes.length q0,.slice p1 x.Wires.length q1] x F/\Own L w F:=by
 obtain⟨cs,F,hb,hen,ho⟩:=h;obtain⟨v0,v1,F0,F1,rfl,h0,h1,rfl⟩:=id hen;obtain⟨a0,c0,rfl,_⟩:=id h0;obtain⟨a1,c1,rfl,_⟩:=id h1;exact⟨a0,c0,a1,c1,_,hb,hen,ho⟩
def zC8(x:Board)(k:Nat):List Machine:=(x.Boxes.take k).map (fun m=>zBd m (zGe m))++x.Boxes.drop k
theorem zGk(x:Board)(k:Nat):(zC8 x k).length=x.Boxes.length:=by
 simp[zC8];omega
theorem zLn(x:Board):zC8 x 0=x.Boxes:=by simp[zC8]
theorem zMs(x:Board):zC8 x x.Boxes.length=(zEc x).Boxes:=by simp[zC8,zEc]
theorem zKg{x:Board}{k:Nat}{m:Machine}(h:x.Boxes[k]? = some m):(zC8 x k)[k]? = some m:=by
 have hk:=zA3 h;unfold zC8;rw[List.getElem?_append_right (by simp;omega)]
 simp only[List.length_map,List.length_take,Nat.min_eq_left (Nat.le_of_lt hk),Nat.sub_self,List.getElem?_drop,Nat.add_zero];exact h
theorem zLm{x:Board}{k:Nat}{m:Machine}(h:x.Boxes[k]? = some m):(zC8 x k).set k (zBd m 0)=zC8 x k:=by
 have h1:=zKg h;apply List.ext_getElem? fun j=>?_
 rw[List.getElem?_set]
 split
 ·rename_i e
  subst e;rw[if_pos (zA3 h1),h1];rfl
 ·rfl
theorem zLl{x:Board}{k:Nat}{m:Machine}(h:x.Boxes[k]? = some m):(zC8 x k).set k (zBd m (zGe m))=zC8 x (k+1):=by
 have hk:=zA3 h;unfold zC8;rw[List.set_append_right _ _ (by simp;omega),zAe h,List.map_append]
 have hd:x.Boxes.drop k=m::x.Boxes.drop (k+1):=by rw[List.drop_eq_getElem_cons hk];congr 1;exact(List.getElem?_eq_some_iff.1 h).2
 simp[hd,Nat.min_eq_left (Nat.le_of_lt hk)]
noncomputable def zNc(x:Board):Board:=if zC2 x then zGf x else zN8
theorem zNd{x:Board}(h:zC2 x=true):zNc x=zGf x:=if_pos h
theorem M.frO_f{x:Board}(h:zC2 x=false):zNc x=zN8:=if_neg (by rw[h];decide)
set_option maxHeartbeats 4000000
set_option maxRecDepth 100000
theorem zCm(v:Value)(x:Board)(w:World)(h:Rv w v x)(hn:∀ m∈x.Boxes,GT.tot m<=1048576)(hb:x.Boxes.length<=1000)(hw:x.Wires.length<=1000) :
  Calls Tryz.prog 37 #[v] w fun e w' => ∃ v',e = .returned v'/\Ov w.heap.size w' v' x/\Ext w w':=by
 obtain⟨a0,c0,a1,c1,rfl,h0,l0,h1,l1⟩:=h.openBoard;clear h;have HN:=zh hn;obtain⟨H0,sP0⟩:=h0.out;obtain⟨H1,sP1⟩:=h1.out;replace sP0:=zh sP0;replace sP1:=zh sP1;clear hn;go_enter Tryz.func37,Tryz.ntmps37;go_upto_region 1 with (fail)
 refine zA1 (fun W=>Ext w W/\Bk W w.heap.size [.slice a0 x.Boxes.length c0,.slice a1 x.Wires.length c1] 26/\Bk W (w.heap.size+1) [.slice none 0 0,.slice none 0 0] 26) ⟨((zr _).alloc _).alloc _,(Bk.new _ _ _).ext ((zr _).alloc _),Bk.new1 _ _ _ _⟩ ?_
 rintro w0 ⟨E,KA,KB⟩;have ltA:=KA.lt;have ltB:=KB.lt;have hs0:=E.sz;replace E:=zh E;replace KA:=zh KA;replace KB:=zh KB;obtain⟨f0,f1⟩:=Bk.k2 KA.out;refine zAl rfl 8 [(6,[6]),(7,[7]),(8,[8]),(9,[9]),(10,[10]),(11,[11]),(12,[12,8,11]),(3,[3])]
  (fun i vs u F=>match i,vs with
   | 0,[y]=>y = .pointer (some ⟨w.heap.size,0,none⟩)
   | 1,[y]=>y = .slice a0 x.Boxes.length c0
   | 2,[y]=>Oq w0.heap.size u y x.Boxes F w.heap.size
   | 3,[y]=>y = .pointer (some ⟨w.heap.size,1,none⟩)
   | 4,[y]=>y = .slice a1 x.Wires.length c1
   | 5,[y] => ∃ p q,y = .slice p x.Wires.length q/\Sl u y x.Wires F
   | 6,[y,z,z1]=>y = .agg #[z,z1]
   | 7,[y] => ∃ B,y = .pointer (some ⟨B,0,none⟩)/\F = [B]/\Bk u B [.slice none 0 0,.slice none 0 0] 26
   | _,_=>False) (by decide +kernel) ?_ ?_
 ·intro i hi o ho U u F hE hd hap;have g0:=(zA0 hE ltA).trans f0;have g1:=(zA0 hE ltA).trans f1;rcases(by omega:i=0\/i=1\/i=2\/i=3\/i=4\/i=5\/i=6\/i=7) with rfl|rfl|rfl|rfl|rfl|rfl|rfl|rfl
  ·cases ho;simp only[fr];intro K hK;go_wp2;exact zk hK _ (fun _ _=>rfl)
  ·cases ho;simp only[fr];obtain⟨⟨d0,-⟩,-⟩:=fa [0] (by decide +kernel) hd
   simp only[fu] at d0;try simp only[d0]
   clear d0;intro K hK;go_wp2;exact zk hK _ (fun _ _=>rfl)
  ·cases ho;simp only[fr];obtain⟨⟨d0,-⟩,⟨d1,-⟩,-⟩:=fa [0,1] (by decide +kernel) hd
   simp only[fu] at d0 d1;try simp only[d0,d1]
   intro K hK;go_wp2_with (go_at_call 67;refine(zG4 _ _ _ _ (sP0.out.ext (E.out.tr hE)) (by omega)).mono ?_;rintro e w' ⟨v',F',rfl,ho',hF',_,ex1⟩;obtain⟨F2,s2,ow2⟩:=ho'.oq (fun b hb=>sP0.out.inh b (hF' b hb)))
   exact hK _ F2 _ ex1 (fun _ h=>(s2.mono hE.sz).ext h) ow2
  ·cases ho;simp only[fr];intro K hK;go_wp2;exact zk hK _ (fun _ _=>rfl)
  ·cases ho;simp only[fr];obtain⟨⟨d3,-⟩,-⟩:=fa [3] (by decide +kernel) hd
   simp only[fu] at d3;try simp only[d3]
   clear d3;intro K hK;go_wp2;exact zk hK _ (fun _ _=>rfl)
  ·cases ho;simp only[fr];obtain⟨⟨d0,-⟩,⟨d1,-⟩,⟨d2,o2⟩,⟨d3,-⟩,⟨d4,-⟩,-⟩:=fa [0,1,2,3,4] (by decide +kernel) hd
   simp only[fu] at d0 d1 d2 d3 d4;try simp only[d0,d1,d3,d4]
   intro K hK;go_wp2_with (go_at_call 68;refine(zIm _ _ _ _ (sP1.out.ext (E.out.tr hE)) (by omega)).mono ?_;rintro e w' ⟨v',F',rfl,ho',hF',_,ex1⟩;obtain⟨F2,s2,ow2⟩:=ho'.flat;obtain⟨p2,q2,rfl,_⟩:=id s2)
   exact hK _ F2 _ ex1 (fun _ h=>⟨_,_,rfl,s2.ext h⟩) ow2
  ·cases ho;simp only[fr];obtain⟨⟨d0,-⟩,⟨d1,-⟩,⟨d2,o2⟩,⟨d3,-⟩,⟨d4,-⟩,⟨d5,o5⟩,-⟩:=fa [0,1,2,3,4,5] (by decide +kernel) hd
   simp only[fu] at d0 d1 d2 d3 d4 d5;try simp only[d0,d1,d3,d4]
   obtain⟨p2,q2,e2,_⟩:=d2.form;obtain⟨p5,q5,e5,_⟩:=d5;simp only[e2,e5];intro K hK;go_wp2;exact zk hK _ (fun _ _=>by show Value.agg _=Value.agg #[U 8,U 11];rw[e2,e5])
  ·cases ho;simp only[fr];intro K hK;go_wp2;have b1:=Bk.new u [.slice none 0 0,.slice none 0 0] 26;exact hK _ [u.heap.size] _ ((zr u).alloc _) (fun _ h=>⟨_,rfl,rfl,b1.ext h⟩) (b1.own (Nat.le_refl _))
 intro o ho U u F hE hφ hap;cases ho;simp only[fr];obtain⟨⟨d0,-⟩,⟨d1,-⟩,⟨d2,o2⟩,⟨d3,-⟩,⟨d4,-⟩,⟨d5,o5⟩,⟨d6,-⟩,⟨d7,o7⟩,-⟩:=fb [0,1,2,3,4,5,6,7] (by decide +kernel) hφ
 simp only[fu] at d0 d1 d2 d3 d4 d5 d6 d7;try simp only[d0,d1,d3,d4,d6]
 obtain⟨B,d7,k7,b7⟩:=d7;obtain⟨p1,q1,e5,s5⟩:=d5;have aWM:=hap 5 2 (by omega) (by omega) (by omega)
 have aWB:=hap 5 7 (by omega) (by omega) (by omega)
 have aMB:=hap 2 7 (by omega) (by omega) (by omega)
 generalize F 2=G at *
 generalize F 5=FW at *
 rw[k7] at o7 aWB aMB;obtain⟨ga,e2,dk⟩:=d2.dk (by omega) 0
 rw[e5] at s5;clear k7 hap hφ d2;rw[e2,e5] at d6;simp only[d7,d6];obtain⟨b60,b61⟩:=Bk.k2 b7;have b6f:=b7.fz;have lB:w0.heap.size<=B:=(o7.2 B (by simp)).1
 have ltB2:=b7.lt;have nBW:B ∉ FW:=aWB.one;have nBM:B ∉ G:=aMB.one;have gl:Hid (∀ y∈G,w0.heap.size<=y/\y < u.heap.size):=zh fun y hy=>⟨(o2.2 y hy).1,o2.lt hy⟩
 have HM:∀ x0 x1,Mx [B] u ((u.setCell ⟨B,0,none⟩ x0).setCell ⟨B,1,none⟩ x1):=fun x0 x1=>Mx.ofMo (((Mo.refl [B] u).set (by simp) _).set (by simp) _)
 have hSW:Sl ((u.setCell ⟨B,0,none⟩ (.slice ga x.Boxes.length x.Boxes.length)).setCell ⟨B,1,none⟩ (.slice p1 x.Wires.length q1)) (.slice p1 x.Wires.length q1) x.Wires FW:=(s5.set (p:=⟨B,0,none⟩) nBW _).set (p:=⟨B,1,none⟩) nBW _;go_upto_region 2 with (fail)
 refine zA1 (fun W=>Ext w W/\B < W.heap.size/\u.heap.size<=W.heap.size/\Bk W B [.slice ga x.Boxes.length x.Boxes.length,.slice p1 x.Wires.length q1] 26/\Sl W (.slice p1 x.Wires.length q1) x.Wires FW/\Dk W.heap.size w.heap.size W ga G x.Boxes 0/\Own w0.heap.size W FW/\Bk W w.heap.size [.slice a0 x.Boxes.length c0,.slice a1 x.Wires.length c1] 26/\Bk W (w.heap.size+1) [.slice none 0 0,.slice none 0 0] 26) ?_ ?_
 ·exact⟨(HM _ _).ext (E.out.tr hE) (fun y hy=>by rw[List.mem_singleton] at hy;omega),by simpa using ltB2,by simp,b7.puts [.slice ga x.Boxes.length x.Boxes.length,.slice p1 x.Wires.length q1] rfl,hSW,(dk.base (L':=u.heap.size)).mx (HM _ _) aMB (fun y hy=>by rw[List.mem_singleton] at hy;omega) |>.base,Own.mono ((HM _ _).owns o5) (by omega),(HM _ _).bk (KA.out.ext hE) (by simp;omega),(HM _ _).bk (KB.out.ext hE) (by simp;omega)⟩
 rintro W3 ⟨E3,lt3,lW3,BB3,SW3,D3,OW3,KA3,KB3⟩;replace BB3:=zh BB3;replace KB3:=zh KB3;replace SW3:=zh SW3;replace OW3:=zh OW3;replace E3:=zh E3;replace D3:=zh D3;have B3:=KA3.cell (j:=0) rfl;have ltA3:=KA3.lt;clear hE b7 o7 o2 o5 aWB aMB f0 f1 KA KB E b60 b61 b6f s5 ltB2 HM hSW dk e2 e5 d0 d1 d3 d4 d6 d7 KA3;go_wp2;go_loopw [16] (fun i wr => ∃ (k:Nat),k<=x.Boxes.length/\i = .int .i64 k/\Mx G W3 wr/\Dk W3.heap.size w.heap.size wr ga G x.Boxes k) (fun i _=>x.Boxes.length - (intOf i).toNat)
 case atStart=>exact⟨0,Nat.zero_le _,rfl,Mx.ofExt (zr _),D3.out⟩
 case round =>
  obtain⟨k,hk,rfl,hch,hdc⟩:=hrel;have HC:=zh hch;have HD:=zh hdc;clear hch hdc;have lWr:W3.heap.size<=wr.heap.size:=HC.out.2.1;have EW:=zh (HC.out.ext E3.out (fun y hy=>by have:=gl.out y hy;omega))
  have BA:=HC.out.bk BB3.out nBM;have ltB3:=BA.lt;have bj:=BA.cell (j:=0) rfl;have bj1:=BA.cell (j:=1) rfl;replace BA:=zh BA;by_cases hkt:k < x.Boxes.length
  ·obtain⟨b,o,y,aa0,cc0,aa1,cc1,aa2,cc2,aa3,cc3,aa4,cc4,aa5,cc5,rfl,hb9,hx,j0,j1,j2,j3,j4,j5,j6,jr6,-,-,-,-,-,-,-,-,-,-,-,-,hv⟩:=(h0.out.ext EW.out).atMachine k hkt;have hyt:=HN.out y (List.mem_of_getElem? hx.out);obtain⟨g,rfl,rfl,hg1,hdc⟩:=HD.out.get hx.out;replace HD:=zh hdc;have hgz:=hdc.fz;clear hdc;have hgW:=hgz.lt;go_upto_region 5 with (fail)
   refine zA1 (fun W=>Ext wr W/\Bk W wr.heap.size [.slice aa0 y.Plan.Parts.length cc0,.slice aa1 y.Plan.Channels.length cc1,.slice aa2 y.Plan.Slots.length cc2,.slice aa3 y.Programs.length cc3,.slice aa4 y.Cores.length cc4,.slice aa5 y.Holds.length cc5,.int .i64 y.Tick] 46) ⟨(zr _).alloc _,Bk.new _ _ _⟩ ?_
   rintro W5 ⟨e5,k5⟩;have lt5:=k5.lt;have E5:=zh e5;obtain⟨z0,z1,z2,z3,z4,z5,z6⟩:=Bk.k7 k5;have bj5:=(zA0 e5 ltB3).trans bj;have ltB5:B < W5.heap.size:=zl ltB3 e5.sz;have hv5:=zh (hv.out.ext e5);clear e5 k5 j0 j1 j2 j3 j4 j5 j6 hv;refine zAl rfl 6 [(21,[21]),(22,[22]),(23,[23]),(24,[24]),(25,[25]),(26,[26])]
    (fun i vs u F=>match i,vs with
     | 0,[z]=>z = .pointer (some ⟨B,0,none⟩)
     | 1,[z]=>z = .slice (some ⟨g,0,none⟩) x.Boxes.length x.Boxes.length
     | 2,[z]=>z = .int .i64 k
     | 3,[z]=>z = .agg #[.slice aa0 y.Plan.Parts.length cc0,.slice aa1 y.Plan.Channels.length cc1,.slice aa2 y.Plan.Slots.length cc2,.slice aa3 y.Programs.length cc3,.slice aa4 y.Cores.length cc4,.slice aa5 y.Holds.length cc5,.int .i64 y.Tick]
     | 4,[z] => ∃ t0 u0 t1 u1 t2 u2 t3 u3 t4 u4 t5 u5,z = .agg #[.slice t0 y.Plan.Parts.length u0,.slice t1 y.Plan.Channels.length u1,.slice t2 y.Plan.Slots.length u2,.slice t3 y.Programs.length u3,.slice t4 y.Cores.length u4,.slice t5 y.Holds.length u5,.int .i64 y.Tick]/\GT.enc u [.slice t0 y.Plan.Parts.length u0,.slice t1 y.Plan.Channels.length u1,.slice t2 y.Plan.Slots.length u2,.slice t3 y.Programs.length u3,.slice t4 y.Cores.length u4,.slice t5 y.Holds.length u5,.int .i64 y.Tick] y F
     | 5,[z]=>z = .pointer (some ⟨g,k*7,none⟩)
     | _,_=>False) (by decide +kernel) ?_ ?_
   ·intro i hi oo ho U u F hE hd hap;have e0:=(zA0 hE ltB5).trans bj5;have i0:=(zA0 hE lt5).trans z0;have i1:=(zA0 hE lt5).trans z1;have i2:=(zA0 hE lt5).trans z2;have i3:=(zA0 hE lt5).trans z3;have i4:=(zA0 hE lt5).trans z4;have i5:=(zA0 hE lt5).trans z5;have i6:=(zA0 hE lt5).trans z6;rcases(by omega:i=0\/i=1\/i=2\/i=3\/i=4\/i=5) with rfl|rfl|rfl|rfl|rfl|rfl
    ·cases ho;simp only[fr];intro K hK;go_wp2;exact zk hK _ (fun _ _=>rfl)
    ·cases ho;simp only[fr];obtain⟨⟨d0,-⟩,-⟩:=fa [0] (by decide +kernel) hd
     simp only[fu] at d0;try simp only[d0]
     clear d0;intro K hK;go_wp2;exact zk hK _ (fun _ _=>rfl)
    iterate 2 (·cases ho;simp only[fr];intro K hK;go_wp2;exact zk hK _ (fun _ _=>rfl))
    ·cases ho;simp only[fr];obtain⟨⟨d3,-⟩,-⟩:=fa [3] (by decide +kernel) hd
     simp only[fu] at d3;try simp only[d3]
     intro K hK;go_wp2_with (go_at_call 50;refine(zDg _ y _ (hv5.out.ext hE) hyt).mono ?_;rintro e w' ⟨v9,rfl,hov,ex1⟩;obtain⟨t0,u0,t1,u1,t2,u2,t3,u3,t4,u4,t5,u5,F2,rfl,en2,ow2⟩:=hov.openE)
     exact hK _ F2 _ ex1 (fun _ h=>⟨_,_,_,_,_,_,_,_,_,_,_,_,rfl,GT.ext en2 h⟩) ow2
    ·cases ho;simp only[fr];obtain⟨⟨d0,-⟩,⟨d1,-⟩,⟨d2,-⟩,⟨d3,-⟩,-⟩:=fa [0,1,2,3] (by decide +kernel) hd
     simp only[fu] at d0 d1 d2 d3;try simp only[d0,d1,d2,d3]
     clear d0 d1 d2 d3;intro K hK;go_wp2;exact zk hK _ (fun _ _=>rfl)
   ·intro oo ho U u2 F hE hφ hap;cases ho;simp only[fr];obtain⟨⟨d0,-⟩,⟨d1,-⟩,⟨d2,-⟩,⟨d3,-⟩,⟨d4,o4⟩,⟨d5,-⟩,-⟩:=fb [0,1,2,3,4,5] (by decide +kernel) hφ
    simp only[fu] at d0 d1 d2 d3 d4 d5;try simp only[d0,d1,d2,d3,d5]
    obtain⟨t0,u0,t1,u1,t2,u2',t3,u3,t4,u4,t5,u5,e4,n4⟩:=d4;obtain⟨cs9,F9,he9,ha9,hF9⟩:=((HD.out.ext E5.out).ext hE).elem hx.out;have hl9:cs9.length=7:=GT.len he9;obtain⟨_,_,_,_,_,_,_,_,_,_,_,_,rfl,_⟩:=id he9;have c0:=ha9 0 _ rfl;have c1:=ha9 1 _ rfl;have c2:=ha9 2 _ rfl;have c3:=ha9 3 _ rfl;have c4:=ha9 4 _ rfl;have c5:=ha9 5 _ rfl;have c6:=ha9 6 _ rfl;simp only[GT.sz,Nat.add_zero] at c0 c1 c2 c3 c4 c5 c6;have f9:∀ j,u2.frozen? ⟨g,j,none⟩=false:=by
     obtain⟨cs,T,hb⟩:=(hgz.ext E5.out).ext hE;exact hb.fz
    have hgn:g ∉ F 4:=fun hm=>by have:=(o4.2 g hm).1;have:=E5.out.sz;omega
    have hgW5:g < W5.heap.size:=zl hgW E5.out.sz;have hin:At (zAa u2 g (k*7) [.slice t0 y.Plan.Parts.length u0,.slice t1 y.Plan.Channels.length u1,.slice t2 y.Plan.Slots.length u2',.slice t3 y.Programs.length u3,.slice t4 y.Cores.length u4,.slice t5 y.Holds.length u5,.int .i64 y.Tick]) g (k*7) [.slice t0 y.Plan.Parts.length u0,.slice t1 y.Plan.Channels.length u1,.slice t2 y.Plan.Slots.length u2',.slice t3 y.Programs.length u3,.slice t4 y.Cores.length u4,.slice t5 y.Holds.length u5,.int .i64 y.Tick]:=zE8 (fun j hj=>⟨_,ha9 j _ (List.getElem?_eq_getElem (by rw[hl9];simpa using hj))⟩)
    have hen:=zB3 (c:=g) (o:=k*7) (ds:=[.slice t0 y.Plan.Parts.length u0,.slice t1 y.Plan.Channels.length u1,.slice t2 y.Plan.Slots.length u2',.slice t3 y.Programs.length u3,.slice t4 y.Cores.length u4,.slice t5 y.Holds.length u5,.int .i64 y.Tick]) n4 hgn;have how:=o4.puts (b:=g) (o:=k*7) [.slice t0 y.Plan.Parts.length u0,.slice t1 y.Plan.Channels.length u1,.slice t2 y.Plan.Slots.length u2',.slice t3 y.Programs.length u3,.slice t4 y.Cores.length u4,.slice t5 y.Holds.length u5,.int .i64 y.Tick];have hCg:Chg g (k*7) 7 [] wr (zAa u2 g (k*7) [.slice t0 y.Plan.Parts.length u0,.slice t1 y.Plan.Channels.length u1,.slice t2 y.Plan.Slots.length u2',.slice t3 y.Programs.length u3,.slice t4 y.Cores.length u4,.slice t5 y.Holds.length u5,.int .i64 y.Tick]):=Chg.putsO [.slice t0 y.Plan.Parts.length u0,.slice t1 y.Plan.Channels.length u1,.slice t2 y.Plan.Slots.length u2',.slice t3 y.Programs.length u3,.slice t4 y.Cores.length u4,.slice t5 y.Holds.length u5,.int .i64 y.Tick] (Chg.ofExt (E5.out.tr hE) hgW) (Nat.le_refl _) (by simp)
    have hD:=zh (HD.out.step (by omega) lWr hx.out hCg hen hin (how.mono (E5.out.sz)))
    have HCg:=zh hCg;clear d0 d1 d2 d3 d5 hφ hap ha9 he9 n4 o4 hin hen how hCg;simp only[e4];clear e4;go_wp2;exact⟨⟨k+1,by omega,by go_num,HC.out.tr (Mx.ofChg HCg.out),.inr ⟨g,rfl,rfl,hg1,hD.out⟩⟩,by simp[intOf];omega⟩
  ·obtain rfl:k=x.Boxes.length:=by omega
   obtain⟨F3,S3,O3,Z3⟩:=HD.out.fin (L':=w0.heap.size) rfl (fun y hy=>(gl.out y hy).1) (by omega) (by unfold maxLen;omega)
   have SWx:=HC.out.sl SW3.out aWM;have KBx:=HC.out.bk KB3.out (fun hx=>by have:=gl.out _ hx;omega)
   obtain⟨z0,z1⟩:=Bk.k2 KBx;have zf:=KBx.fz;have ltZ:=KBx.lt;have OX:Own w0.heap.size wr (F3++FW):=O3.join (HC.out.owns OW3.out) (fun y h2 h1=>by
    rcases Z3 y h2 with h3|h3
    ·exact aWM y h1 h3
    ·have:=OW3.out.lt h1;omega)
   have hZ:w.heap.size+1 ∉ F3++FW:=fun hm=>by have:=(OX.2 _ hm).1;omega
   have EN:=zh (zJz S3 SWx);clear S3 SWx O3 KBx;go_wp2;refine bodyPost_ret (v:=.agg #[.slice ga x.Boxes.length x.Boxes.length,.slice p1 x.Wires.length q1]) (by simp[results,Tryz.results37,go_sem,z0,z1]) rfl ⟨_,rfl,⟨_,_,rfl,zB3 (c:=w.heap.size+1) (o:=0) (ds:=[.slice ga x.Boxes.length x.Boxes.length,.slice p1 x.Wires.length q1]) EN.out hZ,((OX.mono (by omega)).puts (b:=w.heap.size+1) (o:=0) [.slice ga x.Boxes.length x.Boxes.length,.slice p1 x.Wires.length q1])⟩,?_⟩
   exact Ext.puts (b:=w.heap.size+1) (o:=0) (by omega) [.slice ga x.Boxes.length x.Boxes.length,.slice p1 x.Wires.length q1] EW.out
end Sk
