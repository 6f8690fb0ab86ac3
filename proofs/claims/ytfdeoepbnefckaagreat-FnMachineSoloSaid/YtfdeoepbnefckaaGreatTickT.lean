/- Contracts of functions of the given program. -/
import Derived.Test.YtfdeoepbnefckaaGreatRst
namespace Sk
open Go Go.Proofs Go.RowKit
set_option maxHeartbeats 1000000
set_option linter.unusedVariables false
set_option linter.unusedSimpArgs false
def zGd(c:Core):Core:={ c with Stopped:=true }
def zIj(c:Core)(k u:Int):Core:={ c with Cells:=c.Cells.set k.toNat u }
def M.cz:Core:=⟨[],0,false⟩
def zBs(ch:Channel)(h:Hold)(c:Core)(o:Order):Core × Hold :=
 (if ch.Kind=3 then zIj c o.B (zBf h ch.Kind ch.Size (c.Cells.getD o.B.toNat 0)).2 else c,(zBf h ch.Kind ch.Size (c.Cells.getD o.B.toNat 0)).1)
def zBu(ch:Channel)(h:Hold)(c:Core)(o:Order):Core × Hold :=
 (if 0<=(zBc h ch.Kind).2 then zIj c o.B (zBc h ch.Kind).2 else c,(zBc h ch.Kind).1)
theorem zJ8{ch:Channel}{h:Hold}{c:Core}{o:Order}{vv r2:Int}{r1:Hold}(hv:c.Cells.getD o.B.toNat 0=vv)(hk:ch.Kind=3)(h1:(zBf h ch.Kind ch.Size vv).1=r1)(h2:(zBf h ch.Kind ch.Size vv).2=r2):zBs ch h c o=(zIj c o.B r2,r1):=by
 unfold zBs;rw[hv,h1,h2,if_pos hk]
theorem zJ7{ch:Channel}{h:Hold}{c:Core}{o:Order}{vv r2:Int}{r1:Hold}(hv:c.Cells.getD o.B.toNat 0=vv)(hk:¬ ch.Kind=3)(h1:(zBf h ch.Kind ch.Size vv).1=r1)(h2:(zBf h ch.Kind ch.Size vv).2=r2):zBs ch h c o=(c,r1):=by
 unfold zBs;rw[hv,h1,if_neg hk]
theorem zJc{ch:Channel}{h:Hold}{c:Core}{o:Order}{r2:Int}{r1:Hold}(hk:0<=r2)(h1:(zBc h ch.Kind).1=r1)(h2:(zBc h ch.Kind).2=r2):zBu ch h c o=(zIj c o.B r2,r1):=by
 unfold zBu;rw[h1,h2,if_pos hk]
theorem zJb{ch:Channel}{h:Hold}{c:Core}{o:Order}{r2:Int}{r1:Hold}(hk:¬ 0<=r2)(h1:(zBc h ch.Kind).1=r1)(h2:(zBc h ch.Kind).2=r2):zBu ch h c o=(c,r1):=by
 unfold zBu;rw[h1,h2,if_neg hk]
def zD7(cs:List Channel)(hs:List Hold)(n:Int)(c:Core)(o:Order):Core × List Hold × Int :=
 if o.Op=5 then
  match cs[o.A.toNat]? with
  | some ch=>if ch.From=n then ((zBs ch (hs.getD o.A.toNat ⟨[]⟩) c o).1,hs.set o.A.toNat (zBs ch (hs.getD o.A.toNat ⟨[]⟩) c o).2,o.A) else (zGd c,hs,-1)
  | none=>(zGd c,hs,-1)
 else if o.Op=6 then
  match cs[o.A.toNat]? with
  | some ch=>if ch.To=n then ((zBu ch (hs.getD o.A.toNat ⟨[]⟩) c o).1,hs.set o.A.toNat (zBu ch (hs.getD o.A.toNat ⟨[]⟩) c o).2,-1) else (zGd c,hs,-1)
  | none=>(zGd c,hs,-1)
 else (c,hs,-1)
def zBn(m:Machine)(n:Nat):Core × Order:=zBb (m.Cores.getD n M.cz) (m.Programs.getD n []) (zEx m.Plan.Slots n m.Tick)
def zDg(m:Machine)(n:Nat):Core × List Hold × Int:=zD7 m.Plan.Channels m.Holds n (zBn m n).1 (zBn m n).2
def zCu(m:Machine)(n:Nat):Machine:={ m with Cores:=m.Cores.set n (zDg m n).1,Holds:=(zDg m n).2.1,Tick:=m.Tick+1 }
def zB1(m:Machine):Machine:=if zBq m.Plan.Slots m.Tick < 0 then { m with Tick:=m.Tick+1 } else zCu m (zBq m.Plan.Slots m.Tick).toNat
def zGb(m:Machine):Int:=if zBq m.Plan.Slots m.Tick < 0 then -1 else (zDg m (zBq m.Plan.Slots m.Tick).toNat).2.2
theorem zDx.ssv{m:Machine}(h:zDx m):zCg m.Plan.Slots m.Plan.Parts.length=true:=by
 have:=h.pg.set
 simp only[zAx,Bool.and_eq_true] at this;exact this.2.2
theorem zDx.who{m:Machine}(h:zDx m)(t:Int):zBq m.Plan.Slots t = -1\/∃ n:Nat,zBq m.Plan.Slots t=n/\n < m.Cores.length:=by
 obtain⟨x,hx,e⟩:=zJh (zJ0.of h.ssv) t;have h1:=((zFk h.ssv).2.2.2 x hx).2;have h2:=h.nc;by_cases hn:zBq m.Plan.Slots t < 0
 ·left;omega
 ·right;exact⟨(zBq m.Plan.Slots t).toNat,by omega,by omega⟩
theorem zDx.at{m:Machine}(h:zDx m){n:Nat}(hn:n < m.Cores.length):∃ c p q,m.Cores[n]? = some c/\m.Programs[n]? = some p/\m.Plan.Parts[n]? = some q/\zAr c p.length q.Cells=true/\zBg p q.Cells=true/\m.Cores.getD n M.cz=c/\m.Programs.getD n []=p:=by
 have h1:=h.nc;have h2:=h.pg.np;have e1:m.Cores[n]? = some m.Cores[n]:=List.getElem?_eq_getElem hn;have e2:m.Programs[n]? = some (m.Programs[n]'(by omega)):=List.getElem?_eq_getElem (by omega)
 have e3:m.Plan.Parts[n]? = some (m.Plan.Parts[n]'(by omega)):=List.getElem?_eq_getElem (by omega)
 exact⟨_,_,_,e1,e2,e3,h.fits n _ _ _ e1 e2 e3,h.pg.prv n _ _ e2 e3,by rw[List.getD_eq_getElem?_getD,e1];rfl,by rw[List.getD_eq_getElem?_getD,e2];rfl⟩
theorem zC3{h:Hold}{k s:Int}:zDy h k s=true ↔ zB6 k s=true/\(h.Lst.length:Int)<=s/\∀ x∈h.Lst,0<=x/\x<=255:=by
 unfold zDy;simp only[Bool.and_eq_true,decide_eq_true_eq,zGe]
theorem zJ9{h:Hold}{k s u:Int}(hv:zDy h k s=true)(hu:0<=u/\u<=255):zDy (zBf h k s u).1 k s=true:=by
 obtain⟨h1,h2,h3⟩:=zC3.1 hv;unfold zBf;have hs:=zBt h1
 split
 ·exact zC3.2 ⟨h1,by show((1:Nat):Int)<=s;omega,fun x hx=>by rw[List.mem_singleton.1 hx];exact hu⟩
 split
 ·refine zC3.2 ⟨h1,by show(((h.Lst ++ [u]).length:Nat):Int)<=s;simp;omega,fun x hx=>?_⟩
  rcases List.mem_append.1 hx with hx|hx
  ·exact h3 x hx
  ·rw[List.mem_singleton.1 hx];exact hu
 ·exact hv
theorem zH1{h:Hold}{k s u:Int}:0<=(zBf h k s u).2/\(zBf h k s u).2<=1:=by
 unfold zBf
 split
 ·exact⟨by show(0:Int)<=0;decide,by show(0:Int)<=1;decide⟩
 split
 ·exact⟨by show(0:Int)<=0;decide,by show(0:Int)<=1;decide⟩
 ·show 0<=zE8 _/\zE8 _<=1
  cases (k == 3)<;>exact⟨by decide,by decide⟩
theorem zJd{h:Hold}{k s:Int}(hv:zDy h k s=true):zDy (zBc h k).1 k s=true:=by
 obtain⟨h1,h2,h3⟩:=zC3.1 hv;obtain⟨l⟩:=h;unfold zBc;cases l with
 | nil=>exact hv
 | cons x r =>
  simp only
  split
  ·exact hv
  ·exact zC3.2 ⟨h1,by simp at h2;show((r.length:Nat):Int)<=s;omega,fun y hy=>h3 y (List.mem_cons_of_mem _ hy)⟩
theorem zH4{h:Hold}{k s:Int}(hv:zDy h k s=true) : -1<=(zBc h k).2/\(zBc h k).2<=255:=by
 obtain⟨h1,h2,h3⟩:=zC3.1 hv;obtain⟨l⟩:=h;unfold zBc;cases l with
 | nil=>exact⟨by show(-1:Int) <= -1;decide,by show(-1:Int)<=255;decide⟩
 | cons x r =>
  have:=h3 x (List.mem_cons_self ..)
  simp only
  split
  iterate 2 (·exact⟨by show -1<=x;omega,this.2⟩)
theorem zGc{c:Core}{n:Nat}{q k u:Int}(h:zAr c n q=true)(hu:0<=u/\u<=255):zAr (zIj c k u) n q=true:=by
 obtain⟨h1,h2,h3⟩:=zAo.1 h;exact zAo.2 ⟨by simpa [zIj] using h1,h2,zCh h3 _ hu⟩
theorem zHr{c:Core}{n:Nat}{q:Int}(h:zAr c n q=true):zAr (zGd c) n q=true:=h
theorem zIl{ch:Channel}{h:Hold}{c:Core}{o:Order}{n:Nat}{q:Int}(hv:zDy h ch.Kind ch.Size=true)(hf:zAr c n q=true) :
  zAr (zBs ch h c o).1 n q=true/\zDy (zBs ch h c o).2 ch.Kind ch.Size=true:=by
 obtain⟨_,_,h3⟩:=zAo.1 hf;refine⟨?_,zJ9 hv (zE0 h3 _)⟩;unfold zBs;simp only
 split
 ·exact zGc hf (by have:=zH1 (h:=h) (k:=ch.Kind) (s:=ch.Size) (u:=c.Cells.getD o.B.toNat 0);omega)
 ·exact hf
theorem zIr{ch:Channel}{h:Hold}{c:Core}{o:Order}{n:Nat}{q:Int}(hv:zDy h ch.Kind ch.Size=true)(hf:zAr c n q=true) :
  zAr (zBu ch h c o).1 n q=true/\zDy (zBu ch h c o).2 ch.Kind ch.Size=true:=by
 refine⟨?_,zJd hv⟩;unfold zBu;simp only
 split
 ·exact zGc hf ⟨by assumption,(zH4 hv).2⟩
 ·exact hf
inductive M.Act4 (cs:List Channel) (hs:List Hold) (n:Int) (c:Core) (o:Order):Prop
 | none (h5:o.Op≠5) (h6:o.Op≠6) (e:zD7 cs hs n c o=(c,hs,-1))
 | stop (h56:o.Op=5\/o.Op=6) (h:cs.length<=o.A.toNat\/∃ ch,cs[o.A.toNat]? = some ch/\((o.Op=5/\ch.From≠n)\/(o.Op=6/\ch.To≠n))) (e:zD7 cs hs n c o=(zGd c,hs,-1))
 | send (h5:o.Op=5) (ch:Channel) (hc:cs[o.A.toNat]? = some ch) (hn:ch.From=n) (e:zD7 cs hs n c o=((zBs ch (hs.getD o.A.toNat ⟨[]⟩) c o).1,hs.set o.A.toNat (zBs ch (hs.getD o.A.toNat ⟨[]⟩) c o).2,o.A))
 | take (h6:o.Op=6) (ch:Channel) (hc:cs[o.A.toNat]? = some ch) (hn:ch.To=n) (e:zD7 cs hs n c o=((zBu ch (hs.getD o.A.toNat ⟨[]⟩) c o).1,hs.set o.A.toNat (zBu ch (hs.getD o.A.toNat ⟨[]⟩) c o).2,-1))
theorem zJ1(cs:List Channel)(hs:List Hold)(n:Int)(c:Core)(o:Order):M.Act4 cs hs n c o:=by
 have key:∀ k,k=o.A.toNat->(cs.length<=k/\cs[k]? = Option.none)\/∃ ch,cs[k]? = some ch:=fun k _=>by
  by_cases h:k < cs.length
  ·exact .inr ⟨_,List.getElem?_eq_getElem h⟩
  ·exact .inl ⟨by omega,List.getElem?_eq_none (by omega)⟩
 by_cases h5:o.Op=5
 ·rcases key _ rfl with ⟨hl,hc⟩ | ⟨ch,hc⟩
  ·exact .stop (.inl h5) (.inl hl) (by unfold zD7;rw[if_pos h5,hc])
  ·by_cases hn:ch.From=n
   ·exact .send h5 ch hc hn (by unfold zD7;rw[if_pos h5,hc];exact if_pos hn)
   ·exact .stop (.inl h5) (.inr ⟨ch,hc,.inl ⟨h5,hn⟩⟩) (by unfold zD7;rw[if_pos h5,hc];exact if_neg hn)
 by_cases h6:o.Op=6
 ·rcases key _ rfl with ⟨hl,hc⟩ | ⟨ch,hc⟩
  ·exact .stop (.inr h6) (.inl hl) (by unfold zD7;rw[if_neg h5,if_pos h6,hc])
  ·by_cases hn:ch.To=n
   ·exact .take h6 ch hc hn (by unfold zD7;rw[if_neg h5,if_pos h6,hc];exact if_pos hn)
   ·exact .stop (.inr h6) (.inr ⟨ch,hc,.inr ⟨h6,hn⟩⟩) (by unfold zD7;rw[if_neg h5,if_pos h6,hc];exact if_neg hn)
 ·exact .none h5 h6 (by unfold zD7;rw[if_neg h5,if_neg h6])
theorem zDx.hold{m:Machine}(h:zDx m){k:Nat}{ch:Channel}(hc:m.Plan.Channels[k]? = some ch):∃ x,m.Holds[k]? = some x/\zDy x ch.Kind ch.Size=true/\m.Holds.getD k ⟨[]⟩=x:=by
 have h1:=zAh hc;have h2:=h.nh;have e:m.Holds[k]? = some (m.Holds[k]'(by omega)):=List.getElem?_eq_getElem (by omega)
 exact⟨_,e,h.hv k _ _ e hc,by rw[List.getD_eq_getElem?_getD,e];rfl⟩
theorem zDx.set{m:Machine}(h:zDx m){n:Nat}{c:Core}{p:List Order}{q:Part}(hp:m.Programs[n]? = some p)(hq:m.Plan.Parts[n]? = some q)(hf:zAr c p.length q.Cells=true){t:Int}(ht:0<=t/\t<=100000):zDx { m with Cores:=m.Cores.set n c,Tick:=t } where
 pg:=h.pg
 nc:=by simpa using h.nc
 nh:=h.nh
 hv:=h.hv
 tick:=ht
 fits:=fun k c' p' q' h1 h2 h3=>by
  simp only at h1 h2 h3;rw[List.getElem?_set] at h1
  split at h1
  ·subst k
   split at h1
   ·cases h1;rw[hp] at h2;rw[hq] at h3;cases h2;cases h3;exact hf
   ·cases h1
  ·exact h.fits k c' p' q' h1 h2 h3
theorem zDx.setH{m:Machine}(h:zDx m){k:Nat}{ch:Channel}(hc:m.Plan.Channels[k]? = some ch){x:Hold}(hv:zDy x ch.Kind ch.Size=true):zDx { m with Holds:=m.Holds.set k x } where
 pg:=h.pg
 nc:=h.nc
 nh:=by simpa using h.nh
 fits:=h.fits
 tick:=h.tick
 hv:=fun j x' c' h1 h2=>by
  simp only at h1 h2;rw[List.getElem?_set] at h1
  split at h1
  ·subst j
   split at h1
   ·cases h1;rw[hc] at h2;cases h2;exact hv
   ·cases h1
  ·exact h.hv j x' c' h1 h2
theorem zJ5{m:Machine}(h:zDx m)(ht:m.Tick < 100000){n:Nat}(hn:n < m.Cores.length):zDx (zCu m n):=by
 obtain⟨c,p,q,h1,h2,h3,h4,h5,e1,e2⟩:=h.at hn;have ht0:=h.tick;have hs:zAr (zBn m n).1 p.length q.Cells=true:=by
  unfold zBn;rw[e1,e2];exact zFl h4 h5 (zI9 (by omega)).1
 have htk:0<=m.Tick+1/\m.Tick+1<=100000:=by omega
 unfold zCu zDg;rcases zJ1 m.Plan.Channels m.Holds n (zBn m n).1 (zBn m n).2 with ⟨_,_,e⟩ | ⟨_,_,e⟩ | ⟨_,ch,hc,_,e⟩ | ⟨_,ch,hc,_,e⟩
 ·rw[e];exact h.set h2 h3 hs htk
 ·rw[e];exact h.set h2 h3 (zHr hs) htk
 ·obtain⟨x,hx,hxv,ex⟩:=h.hold hc;rw[e,ex];obtain⟨k1,k2⟩:=zIl (o:=(zBn m n).2) hxv hs;exact(h.set h2 h3 k1 htk).setH hc k2
 ·obtain⟨x,hx,hxv,ex⟩:=h.hold hc;rw[e,ex];obtain⟨k1,k2⟩:=zIr (o:=(zBn m n).2) hxv hs;exact(h.set h2 h3 k1 htk).setH hc k2
theorem zJe{m:Machine}(h:zDx m)(ht:m.Tick < 100000):zDx (zB1 m):=by
 have ht0:=h.tick;unfold zB1
 split
 ·exact⟨h.pg,h.nc,h.nh,h.fits,h.hv,(by show 0<=m.Tick+1/\m.Tick+1<=100000;omega)⟩
 ·rename_i hn
  rcases h.who m.Tick with e | ⟨n,e,hl⟩
  ·omega
  ·rw[e];exact zJ5 h ht hl
theorem zHs{m:Machine}(h:zBq m.Plan.Slots m.Tick < 0):zB1 m=⟨m.Plan,m.Programs,m.Cores,m.Holds,m.Tick+1⟩:=if_pos h
theorem zHo{m:Machine}(h:zBq m.Plan.Slots m.Tick < 0):zGb m = -1:=if_pos h
theorem zHu{m:Machine}{n:Nat}(h:zBq m.Plan.Slots m.Tick=n):zB1 m=zCu m n:=by unfold zB1;rw[if_neg (by omega),h];rfl
theorem zHp{m:Machine}{n:Nat}(h:zBq m.Plan.Slots m.Tick=n):zGb m=(zDg m n).2.2:=by unfold zGb;rw[if_neg (by omega),h];rfl
theorem zHt(m:Machine):(zB1 m).Plan=m.Plan:=by unfold zB1 zCu;split<;>rfl
theorem zH7(m:Machine):(zB1 m).Programs=m.Programs:=by unfold zB1 zCu;split<;>rfl
theorem zHv(m:Machine):(zB1 m).Tick=m.Tick+1:=by unfold zB1 zCu;split<;>rfl
theorem zH5(m:Machine):(zB1 m).Cores.length=m.Cores.length:=by unfold zB1 zCu;split<;>simp
theorem zJ2(cs:List Channel)(hs:List Hold)(n:Int)(c:Core)(o:Order):(zD7 cs hs n c o).2.1.length=hs.length:=by
 rcases zJ1 cs hs n c o with ⟨_,_,e⟩ | ⟨_,_,e⟩ | ⟨_,ch,_,_,e⟩ | ⟨_,ch,_,_,e⟩<;>rw[e]<;>simp
theorem zH6(m:Machine):(zB1 m).Holds.length=m.Holds.length:=by
 unfold zB1 zCu;split
 ·rfl
 ·exact zJ2 _ _ _ _ _
end Sk
