/- Contracts of functions of the given program. -/
import Derived.Test.YtbekofpkcahbkaaRst
namespace Sk
open Go Go.Proofs Go.RowKit
set_option maxHeartbeats 1000000
set_option linter.unusedVariables false
set_option linter.unusedSimpArgs false
def zCb(c:Core):Core:={ c with Stopped:=true }
def zI9(c:Core)(k u:Int):Core:={ c with Cells:=c.Cells.set k.toNat u }
def M.cz:Core:=⟨[],0,false⟩
def zC8(ch:Channel)(h:Hold)(c:Core)(o:Order):Core × Hold :=
 (if ch.Kind=3 then zI9 c o.B (zBg h ch.Kind ch.Size (c.Cells.getD o.B.toNat 0)).2 else c,(zBg h ch.Kind ch.Size (c.Cells.getD o.B.toNat 0)).1)
def zCc(ch:Channel)(h:Hold)(c:Core)(o:Order):Core × Hold :=
 (if 0<=(zB9 h ch.Kind).2 then zI9 c o.B (zB9 h ch.Kind).2 else c,(zB9 h ch.Kind).1)
theorem zIu{ch:Channel}{h:Hold}{c:Core}{o:Order}{vv r2:Int}{r1:Hold}(hv:c.Cells.getD o.B.toNat 0=vv)(hk:ch.Kind=3)(h1:(zBg h ch.Kind ch.Size vv).1=r1)(h2:(zBg h ch.Kind ch.Size vv).2=r2):zC8 ch h c o=(zI9 c o.B r2,r1):=by
 unfold zC8;rw[hv,h1,h2,if_pos hk]
theorem zIt{ch:Channel}{h:Hold}{c:Core}{o:Order}{vv r2:Int}{r1:Hold}(hv:c.Cells.getD o.B.toNat 0=vv)(hk:¬ ch.Kind=3)(h1:(zBg h ch.Kind ch.Size vv).1=r1)(h2:(zBg h ch.Kind ch.Size vv).2=r2):zC8 ch h c o=(c,r1):=by
 unfold zC8;rw[hv,h1,if_neg hk]
theorem zIz{ch:Channel}{h:Hold}{c:Core}{o:Order}{r2:Int}{r1:Hold}(hk:0<=r2)(h1:(zB9 h ch.Kind).1=r1)(h2:(zB9 h ch.Kind).2=r2):zCc ch h c o=(zI9 c o.B r2,r1):=by
 unfold zCc;rw[h1,h2,if_pos hk]
theorem zIy{ch:Channel}{h:Hold}{c:Core}{o:Order}{r2:Int}{r1:Hold}(hk:¬ 0<=r2)(h1:(zB9 h ch.Kind).1=r1)(h2:(zB9 h ch.Kind).2=r2):zCc ch h c o=(c,r1):=by
 unfold zCc;rw[h1,h2,if_neg hk]
def zDs(cs:List Channel)(hs:List Hold)(n:Int)(c:Core)(o:Order):Core × List Hold × Int :=
 if o.Op=5 then
  match cs[o.A.toNat]? with
  | some ch=>if ch.From=n then ((zC8 ch (hs.getD o.A.toNat ⟨[]⟩) c o).1,hs.set o.A.toNat (zC8 ch (hs.getD o.A.toNat ⟨[]⟩) c o).2,o.A) else (zCb c,hs,-1)
  | none=>(zCb c,hs,-1)
 else if o.Op=6 then
  match cs[o.A.toNat]? with
  | some ch=>if ch.To=n then ((zCc ch (hs.getD o.A.toNat ⟨[]⟩) c o).1,hs.set o.A.toNat (zCc ch (hs.getD o.A.toNat ⟨[]⟩) c o).2,-1) else (zCb c,hs,-1)
  | none=>(zCb c,hs,-1)
 else (c,hs,-1)
def zBt(m:Machine)(n:Nat):Core × Order:=zB2 (m.Cores.getD n M.cz) (m.Programs.getD n []) (zG5 m.Plan.Slots n m.Tick)
def zG2(m:Machine)(n:Nat):Core × List Hold × Int:=zDs m.Plan.Channels m.Holds n (zBt m n).1 (zBt m n).2
def zDo(m:Machine)(n:Nat):Machine:={ m with Cores:=m.Cores.set n (zG2 m n).1,Holds:=(zG2 m n).2.1,Tick:=m.Tick+1 }
def zB3(m:Machine):Machine:=if zE4 m.Plan.Slots m.Tick < 0 then { m with Tick:=m.Tick+1 } else zDo m (zE4 m.Plan.Slots m.Tick).toNat
theorem zBm.ssv{m:Machine}(h:zBm m):zCa m.Plan.Slots m.Plan.Parts.length=true:=by
 have:=h.pg.set
 simp only[zAr,Bool.and_eq_true] at this;exact this.2.2
theorem zBm.who{m:Machine}(h:zBm m)(t:Int):zE4 m.Plan.Slots t = -1\/∃ n:Nat,zE4 m.Plan.Slots t=n/\n < m.Cores.length:=by
 obtain⟨x,hx,e⟩:=zJ2 (M.SL.of h.ssv) t;have h1:=((zD8 h.ssv).2.2.2 x hx).2;have h2:=h.nc;by_cases hn:zE4 m.Plan.Slots t < 0
 ·left;omega
 ·right;exact⟨(zE4 m.Plan.Slots t).toNat,by omega,by omega⟩
theorem zBm.at{m:Machine}(h:zBm m){n:Nat}(hn:n < m.Cores.length):∃ c p q,m.Cores[n]? = some c/\m.Programs[n]? = some p/\m.Plan.Parts[n]? = some q/\zAm c p.length q.Cells=true/\zB7 p q.Cells=true/\m.Cores.getD n M.cz=c/\m.Programs.getD n []=p:=by
 have h1:=h.nc;have h2:=h.pg.np;have e1:m.Cores[n]? = some m.Cores[n]:=List.getElem?_eq_getElem hn;have e2:m.Programs[n]? = some (m.Programs[n]'(by omega)):=List.getElem?_eq_getElem (by omega)
 have e3:m.Plan.Parts[n]? = some (m.Plan.Parts[n]'(by omega)):=List.getElem?_eq_getElem (by omega)
 exact⟨_,_,_,e1,e2,e3,h.fits n _ _ _ e1 e2 e3,h.pg.prv n _ _ e2 e3,by rw[List.getD_eq_getElem?_getD,e1];rfl,by rw[List.getD_eq_getElem?_getD,e2];rfl⟩
theorem zCm{h:Hold}{k s:Int}:zDt h k s=true ↔ zB1 k s=true/\(h.Lst.length:Int)<=s/\∀ x∈h.Lst,0<=x/\x<=255:=by
 unfold zDt;simp only[Bool.and_eq_true,decide_eq_true_eq,zFx]
theorem zIv{h:Hold}{k s u:Int}(hv:zDt h k s=true)(hu:0<=u/\u<=255):zDt (zBg h k s u).1 k s=true:=by
 obtain⟨h1,h2,h3⟩:=zCm.1 hv;unfold zBg;have hs:=zC9 h1
 split
 ·exact zCm.2 ⟨h1,by show((1:Nat):Int)<=s;omega,fun x hx=>by rw[List.mem_singleton.1 hx];exact hu⟩
 split
 ·refine zCm.2 ⟨h1,by show(((h.Lst ++ [u]).length:Nat):Int)<=s;simp;omega,fun x hx=>?_⟩
  rcases List.mem_append.1 hx with hx|hx
  ·exact h3 x hx
  ·rw[List.mem_singleton.1 hx];exact hu
 ·exact hv
theorem zGp{h:Hold}{k s u:Int}:0<=(zBg h k s u).2/\(zBg h k s u).2<=1:=by
 unfold zBg
 split
 ·exact⟨by show(0:Int)<=0;decide,by show(0:Int)<=1;decide⟩
 split
 ·exact⟨by show(0:Int)<=0;decide,by show(0:Int)<=1;decide⟩
 ·show 0<=zI4 _/\zI4 _<=1
  cases (k == 3)<;>exact⟨by decide,by decide⟩
theorem zJ0{h:Hold}{k s:Int}(hv:zDt h k s=true):zDt (zB9 h k).1 k s=true:=by
 obtain⟨h1,h2,h3⟩:=zCm.1 hv;obtain⟨l⟩:=h;unfold zB9;cases l with
 | nil=>exact hv
 | cons x r =>
  simp only
  split
  ·exact hv
  ·exact zCm.2 ⟨h1,by simp at h2;show((r.length:Nat):Int)<=s;omega,fun y hy=>h3 y (List.mem_cons_of_mem _ hy)⟩
theorem zGu{h:Hold}{k s:Int}(hv:zDt h k s=true) : -1<=(zB9 h k).2/\(zB9 h k).2<=255:=by
 obtain⟨h1,h2,h3⟩:=zCm.1 hv;obtain⟨l⟩:=h;unfold zB9;cases l with
 | nil=>exact⟨by show(-1:Int) <= -1;decide,by show(-1:Int)<=255;decide⟩
 | cons x r =>
  have:=h3 x (List.mem_cons_self ..)
  simp only
  split
  iterate 2 (·exact⟨by show -1<=x;omega,this.2⟩)
theorem zFu{c:Core}{n:Nat}{q k u:Int}(h:zAm c n q=true)(hu:0<=u/\u<=255):zAm (zI9 c k u) n q=true:=by
 obtain⟨h1,h2,h3⟩:=zAh.1 h;exact zAh.2 ⟨by simpa [zI9] using h1,h2,zCu h3 _ hu⟩
theorem zHe{c:Core}{n:Nat}{q:Int}(h:zAm c n q=true):zAm (zCb c) n q=true:=h
theorem zIa{ch:Channel}{h:Hold}{c:Core}{o:Order}{n:Nat}{q:Int}(hv:zDt h ch.Kind ch.Size=true)(hf:zAm c n q=true) :
  zAm (zC8 ch h c o).1 n q=true/\zDt (zC8 ch h c o).2 ch.Kind ch.Size=true:=by
 obtain⟨_,_,h3⟩:=zAh.1 hf;refine⟨?_,zIv hv (zCd h3 _)⟩;unfold zC8;simp only
 split
 ·exact zFu hf (by have:=zGp (h:=h) (k:=ch.Kind) (s:=ch.Size) (u:=c.Cells.getD o.B.toNat 0);omega)
 ·exact hf
theorem zIf{ch:Channel}{h:Hold}{c:Core}{o:Order}{n:Nat}{q:Int}(hv:zDt h ch.Kind ch.Size=true)(hf:zAm c n q=true) :
  zAm (zCc ch h c o).1 n q=true/\zDt (zCc ch h c o).2 ch.Kind ch.Size=true:=by
 refine⟨?_,zJ0 hv⟩;unfold zCc;simp only
 split
 ·exact zFu hf ⟨by assumption,(zGu hv).2⟩
 ·exact hf
inductive M.Act4 (cs:List Channel) (hs:List Hold) (n:Int) (c:Core) (o:Order):Prop
 | none (h5:o.Op≠5) (h6:o.Op≠6) (e:zDs cs hs n c o=(c,hs,-1))
 | stop (h56:o.Op=5\/o.Op=6) (h:cs.length<=o.A.toNat\/∃ ch,cs[o.A.toNat]? = some ch/\((o.Op=5/\ch.From≠n)\/(o.Op=6/\ch.To≠n))) (e:zDs cs hs n c o=(zCb c,hs,-1))
 | send (h5:o.Op=5) (ch:Channel) (hc:cs[o.A.toNat]? = some ch) (hn:ch.From=n) (e:zDs cs hs n c o=((zC8 ch (hs.getD o.A.toNat ⟨[]⟩) c o).1,hs.set o.A.toNat (zC8 ch (hs.getD o.A.toNat ⟨[]⟩) c o).2,o.A))
 | take (h6:o.Op=6) (ch:Channel) (hc:cs[o.A.toNat]? = some ch) (hn:ch.To=n) (e:zDs cs hs n c o=((zCc ch (hs.getD o.A.toNat ⟨[]⟩) c o).1,hs.set o.A.toNat (zCc ch (hs.getD o.A.toNat ⟨[]⟩) c o).2,-1))
theorem zIo(cs:List Channel)(hs:List Hold)(n:Int)(c:Core)(o:Order):M.Act4 cs hs n c o:=by
 have key:∀ k,k=o.A.toNat->(cs.length<=k/\cs[k]? = Option.none)\/∃ ch,cs[k]? = some ch:=fun k _=>by
  by_cases h:k < cs.length
  ·exact .inr ⟨_,List.getElem?_eq_getElem h⟩
  ·exact .inl ⟨by omega,List.getElem?_eq_none (by omega)⟩
 by_cases h5:o.Op=5
 ·rcases key _ rfl with ⟨hl,hc⟩ | ⟨ch,hc⟩
  ·exact .stop (.inl h5) (.inl hl) (by unfold zDs;rw[if_pos h5,hc])
  ·by_cases hn:ch.From=n
   ·exact .send h5 ch hc hn (by unfold zDs;rw[if_pos h5,hc];exact if_pos hn)
   ·exact .stop (.inl h5) (.inr ⟨ch,hc,.inl ⟨h5,hn⟩⟩) (by unfold zDs;rw[if_pos h5,hc];exact if_neg hn)
 by_cases h6:o.Op=6
 ·rcases key _ rfl with ⟨hl,hc⟩ | ⟨ch,hc⟩
  ·exact .stop (.inr h6) (.inl hl) (by unfold zDs;rw[if_neg h5,if_pos h6,hc])
  ·by_cases hn:ch.To=n
   ·exact .take h6 ch hc hn (by unfold zDs;rw[if_neg h5,if_pos h6,hc];exact if_pos hn)
   ·exact .stop (.inr h6) (.inr ⟨ch,hc,.inr ⟨h6,hn⟩⟩) (by unfold zDs;rw[if_neg h5,if_pos h6,hc];exact if_neg hn)
 ·exact .none h5 h6 (by unfold zDs;rw[if_neg h5,if_neg h6])
theorem zBm.hold{m:Machine}(h:zBm m){k:Nat}{ch:Channel}(hc:m.Plan.Channels[k]? = some ch):∃ x,m.Holds[k]? = some x/\zDt x ch.Kind ch.Size=true/\m.Holds.getD k ⟨[]⟩=x:=by
 have h1:=zAc hc;have h2:=h.nh;have e:m.Holds[k]? = some (m.Holds[k]'(by omega)):=List.getElem?_eq_getElem (by omega)
 exact⟨_,e,h.hv k _ _ e hc,by rw[List.getD_eq_getElem?_getD,e];rfl⟩
theorem zBm.set{m:Machine}(h:zBm m){n:Nat}{c:Core}{p:List Order}{q:Part}(hp:m.Programs[n]? = some p)(hq:m.Plan.Parts[n]? = some q)(hf:zAm c p.length q.Cells=true){t:Int}(ht:0<=t/\t<=100000):zBm { m with Cores:=m.Cores.set n c,Tick:=t } where
 pg:=h.pg
 nc:=by simpa using h.nc
 nh:=h.nh
 hv:=h.hv
 tick:=ht
 fits:=fun k c' p' q' h1 h2 h3=>by
  simp only at h1 h2 h3;rw[List.getElem?_set] at h1
  split at h1
  ·subst k
   split at h1
   ·cases h1;rw[hp] at h2;rw[hq] at h3;cases h2;cases h3;exact hf
   ·cases h1
  ·exact h.fits k c' p' q' h1 h2 h3
theorem zBm.setH{m:Machine}(h:zBm m){k:Nat}{ch:Channel}(hc:m.Plan.Channels[k]? = some ch){x:Hold}(hv:zDt x ch.Kind ch.Size=true):zBm { m with Holds:=m.Holds.set k x } where
 pg:=h.pg
 nc:=h.nc
 nh:=by simpa using h.nh
 fits:=h.fits
 tick:=h.tick
 hv:=fun j x' c' h1 h2=>by
  simp only at h1 h2;rw[List.getElem?_set] at h1
  split at h1
  ·subst j
   split at h1
   ·cases h1;rw[hc] at h2;cases h2;exact hv
   ·cases h1
  ·exact h.hv j x' c' h1 h2
theorem zIs{m:Machine}(h:zBm m)(ht:m.Tick < 100000){n:Nat}(hn:n < m.Cores.length):zBm (zDo m n):=by
 obtain⟨c,p,q,h1,h2,h3,h4,h5,e1,e2⟩:=h.at hn;have ht0:=h.tick;have hs:zAm (zBt m n).1 p.length q.Cells=true:=by
  unfold zBt;rw[e1,e2];exact zF6 h4 h5 (zHt (by omega)).1
 have htk:0<=m.Tick+1/\m.Tick+1<=100000:=by omega
 unfold zDo zG2;rcases zIo m.Plan.Channels m.Holds n (zBt m n).1 (zBt m n).2 with ⟨_,_,e⟩ | ⟨_,_,e⟩ | ⟨_,ch,hc,_,e⟩ | ⟨_,ch,hc,_,e⟩
 ·rw[e];exact h.set h2 h3 hs htk
 ·rw[e];exact h.set h2 h3 (zHe hs) htk
 ·obtain⟨x,hx,hxv,ex⟩:=h.hold hc;rw[e,ex];obtain⟨k1,k2⟩:=zIa (o:=(zBt m n).2) hxv hs;exact(h.set h2 h3 k1 htk).setH hc k2
 ·obtain⟨x,hx,hxv,ex⟩:=h.hold hc;rw[e,ex];obtain⟨k1,k2⟩:=zIf (o:=(zBt m n).2) hxv hs;exact(h.set h2 h3 k1 htk).setH hc k2
theorem zJ1{m:Machine}(h:zBm m)(ht:m.Tick < 100000):zBm (zB3 m):=by
 have ht0:=h.tick;unfold zB3
 split
 ·exact⟨h.pg,h.nc,h.nh,h.fits,h.hv,(by show 0<=m.Tick+1/\m.Tick+1<=100000;omega)⟩
 ·rename_i hn
  rcases h.who m.Tick with e | ⟨n,e,hl⟩
  ·omega
  ·rw[e];exact zIs h ht hl
theorem zHf{m:Machine}(h:zE4 m.Plan.Slots m.Tick < 0):zB3 m=⟨m.Plan,m.Programs,m.Cores,m.Holds,m.Tick+1⟩:=if_pos h
theorem zHh{m:Machine}{n:Nat}(h:zE4 m.Plan.Slots m.Tick=n):zB3 m=zDo m n:=by unfold zB3;rw[if_neg (by omega),h];rfl
theorem zHg(m:Machine):(zB3 m).Plan=m.Plan:=by unfold zB3 zDo;split<;>rfl
theorem zGy(m:Machine):(zB3 m).Programs=m.Programs:=by unfold zB3 zDo;split<;>rfl
theorem zHi(m:Machine):(zB3 m).Tick=m.Tick+1:=by unfold zB3 zDo;split<;>rfl
theorem zGw(m:Machine):(zB3 m).Cores.length=m.Cores.length:=by unfold zB3 zDo;split<;>simp
theorem zIp(cs:List Channel)(hs:List Hold)(n:Int)(c:Core)(o:Order):(zDs cs hs n c o).2.1.length=hs.length:=by
 rcases zIo cs hs n c o with ⟨_,_,e⟩ | ⟨_,_,e⟩ | ⟨_,ch,_,_,e⟩ | ⟨_,ch,_,_,e⟩<;>rw[e]<;>simp
theorem zGx(m:Machine):(zB3 m).Holds.length=m.Holds.length:=by
 unfold zB3 zDo;split
 ·rfl
 ·exact zIp _ _ _ _ _
end Sk
