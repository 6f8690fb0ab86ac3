/- Contracts of functions of the given program. -/
import Derived.Test.YtpjdkfkfmebphaaGreatRstT
namespace Sk
open Go Go.Proofs Go.RowKit
set_option maxHeartbeats 1000000
set_option linter.unusedVariables false
set_option linter.unusedSimpArgs false
def zDp(c:Core):Core:={ c with Stopped:=true }
def zOb(c:Core)(k u:Int):Core:={ c with Cells:=c.Cells.set k.toNat u }
def zOr:Core:=⟨[],0,false⟩
def zDn(ch:Channel)(h:Hold)(c:Core)(o:Order):Core × Hold :=
 (if ch.Kind=3 then zOb c o.B (zBx h ch.Kind ch.Size (c.Cells.getD o.B.toNat 0)).2 else c,(zBx h ch.Kind ch.Size (c.Cells.getD o.B.toNat 0)).1)
def zDq(ch:Channel)(h:Hold)(c:Core)(o:Order):Core × Hold :=
 (if 0<=(zBm h ch.Kind).2 then zOb c o.B (zBm h ch.Kind).2 else c,(zBm h ch.Kind).1)
theorem zM9{ch:Channel}{h:Hold}{c:Core}{o:Order}{vv r2:Int}{r1:Hold}(hv:c.Cells.getD o.B.toNat 0=vv)(hk:ch.Kind=3)(h1:(zBx h ch.Kind ch.Size vv).1=r1)(h2:(zBx h ch.Kind ch.Size vv).2=r2):zDn ch h c o=(zOb c o.B r2,r1):=by
 unfold zDn;rw[hv,h1,h2,if_pos hk]
theorem zH5{ch:Channel}{h:Hold}{c:Core}{o:Order}{vv r2:Int}{r1:Hold}(hv:c.Cells.getD o.B.toNat 0=vv)(hk:¬ ch.Kind=3)(h1:(zBx h ch.Kind ch.Size vv).1=r1)(h2:(zBx h ch.Kind ch.Size vv).2=r2):zDn ch h c o=(c,r1):=by
 unfold zDn;rw[hv,h1,if_neg hk]
theorem zMd{ch:Channel}{h:Hold}{c:Core}{o:Order}{r2:Int}{r1:Hold}(hk:0<=r2)(h1:(zBm h ch.Kind).1=r1)(h2:(zBm h ch.Kind).2=r2):zDq ch h c o=(zOb c o.B r2,r1):=by
 unfold zDq;rw[h1,h2,if_pos hk]
theorem zMc{ch:Channel}{h:Hold}{c:Core}{o:Order}{r2:Int}{r1:Hold}(hk:¬ 0<=r2)(h1:(zBm h ch.Kind).1=r1)(h2:(zBm h ch.Kind).2=r2):zDq ch h c o=(c,r1):=by
 unfold zDq;rw[h1,h2,if_neg hk]
def zE5(cs:List Channel)(hs:List Hold)(n:Int)(c:Core)(o:Order):Core × List Hold × Int :=
 if o.Op=5 then
  match cs[o.A.toNat]? with
  | some ch=>if ch.From=n then ((zDn ch (hs.getD o.A.toNat ⟨[]⟩) c o).1,hs.set o.A.toNat (zDn ch (hs.getD o.A.toNat ⟨[]⟩) c o).2,o.A) else (zDp c,hs,-1)
  | none=>(zDp c,hs,-1)
 else if o.Op=6 then
  match cs[o.A.toNat]? with
  | some ch=>if ch.To=n then ((zDq ch (hs.getD o.A.toNat ⟨[]⟩) c o).1,hs.set o.A.toNat (zDq ch (hs.getD o.A.toNat ⟨[]⟩) c o).2,-1) else (zDp c,hs,-1)
  | none=>(zDp c,hs,-1)
 else (c,hs,-1)
def zBa(m:Machine)(n:Nat):Core × Order:=zB2 (m.Cores.getD n zOr) (m.Programs.getD n []) (zEb m.Plan.Slots n m.Tick)
def zBn(m:Machine)(n:Nat):Core × List Hold × Int:=zE5 m.Plan.Channels m.Holds n (zBa m n).1 (zBa m n).2
def zF9(m:Machine)(n:Nat):Machine:={ m with Cores:=m.Cores.set n (zBn m n).1,Holds:=(zBn m n).2.1,Tick:=m.Tick+1 }
def zBd(m:Machine):Machine:=if zC8 m.Plan.Slots m.Tick < 0 then { m with Tick:=m.Tick+1 } else zF9 m (zC8 m.Plan.Slots m.Tick).toNat
def zJh(m:Machine):Int:=if zC8 m.Plan.Slots m.Tick < 0 then -1 else (zBn m (zC8 m.Plan.Slots m.Tick).toNat).2.2
theorem zBl.ssv{m:Machine}(h:zBl m):zDo m.Plan.Slots m.Plan.Parts.length=true:=by
 have:=h.pg.set
 simp only[zAr,Bool.and_eq_true] at this;exact this.2.2
theorem zBl.csv{m:Machine}(h:zBl m):zCk m.Plan.Channels m.Plan.Parts.length=true:=by
 have:=h.pg.set
 simp only[zAr,Bool.and_eq_true] at this;exact this.2.1
theorem zBl.who{m:Machine}(h:zBl m)(t:Int):zC8 m.Plan.Slots t = -1\/∃ n:Nat,zC8 m.Plan.Slots t=n/\n < m.Cores.length:=by
 obtain⟨x,hx,e⟩:=zPe (zM2.of h.ssv) t;have h1:=((zEe h.ssv).2.2.2 x hx).2;have h2:=h.nc;by_cases hn:zC8 m.Plan.Slots t < 0
 ·left;omega
 ·right;exact⟨(zC8 m.Plan.Slots t).toNat,by omega,by omega⟩
theorem zBl.at{m:Machine}(h:zBl m){n:Nat}(hn:n < m.Cores.length):∃ c p q,m.Cores[n]? = some c/\m.Programs[n]? = some p/\m.Plan.Parts[n]? = some q/\zAy c p.length q.Cells=true/\zBr p q.Cells=true/\m.Cores.getD n zOr=c/\m.Programs.getD n []=p:=by
 have h1:=h.nc;have h2:=h.pg.np;have e1:m.Cores[n]? = some m.Cores[n]:=List.getElem?_eq_getElem hn;have e2:m.Programs[n]? = some (m.Programs[n]'(by omega)):=List.getElem?_eq_getElem (by omega)
 have e3:m.Plan.Parts[n]? = some (m.Plan.Parts[n]'(by omega)):=List.getElem?_eq_getElem (by omega)
 exact⟨_,_,_,e1,e2,e3,h.fits n _ _ _ e1 e2 e3,h.pg.prv n _ _ e2 e3,by rw[List.getD_eq_getElem?_getD,e1];rfl,by rw[List.getD_eq_getElem?_getD,e2];rfl⟩
theorem zCm{h:Hold}{k s:Int}:zFz h k s=true ↔ zC2 k s=true/\(h.Lst.length:Int)<=s/\∀ x∈h.Lst,0<=x/\x<=255:=by
 unfold zFz;simp only[Bool.and_eq_true,decide_eq_true_eq,zL1]
theorem zP4{h:Hold}{k s u:Int}(hv:zFz h k s=true)(hu:0<=u/\u<=255):zFz (zBx h k s u).1 k s=true:=by
 obtain⟨h1,h2,h3⟩:=zCm.1 hv;unfold zBx;have hs:=zC3 h1
 split
 ·exact zCm.2 ⟨h1,by show((1:Nat):Int)<=s;omega,fun x hx=>by rw[List.mem_singleton.1 hx];exact hu⟩
 split
 ·refine zCm.2 ⟨h1,by show(((h.Lst ++ [u]).length:Nat):Int)<=s;simp;omega,fun x hx=>?_⟩
  rcases List.mem_append.1 hx with hx|hx
  ·exact h3 x hx
  ·rw[List.mem_singleton.1 hx];exact hu
 ·exact hv
theorem zJi{h:Hold}{k s u:Int}:0<=(zBx h k s u).2/\(zBx h k s u).2<=1:=by
 unfold zBx
 split
 ·exact⟨by show(0:Int)<=0;decide,by show(0:Int)<=1;decide⟩
 split
 ·exact⟨by show(0:Int)<=0;decide,by show(0:Int)<=1;decide⟩
 ·show 0<=zCv _/\zCv _<=1
  cases (k == 3)<;>exact⟨by decide,by decide⟩
theorem zPc{h:Hold}{k s:Int}(hv:zFz h k s=true):zFz (zBm h k).1 k s=true:=by
 obtain⟨h1,h2,h3⟩:=zCm.1 hv;obtain⟨l⟩:=h;unfold zBm;cases l with
 | nil=>exact hv
 | cons x r =>
  simp only
  split
  ·exact hv
  ·exact zCm.2 ⟨h1,by simp at h2;show((r.length:Nat):Int)<=s;omega,fun y hy=>h3 y (List.mem_cons_of_mem _ hy)⟩
theorem zJk{h:Hold}{k s:Int}(hv:zFz h k s=true) : -1<=(zBm h k).2/\(zBm h k).2<=255:=by
 obtain⟨h1,h2,h3⟩:=zCm.1 hv;obtain⟨l⟩:=h;unfold zBm;cases l with
 | nil=>exact⟨by show(-1:Int) <= -1;decide,by show(-1:Int)<=255;decide⟩
 | cons x r =>
  have:=h3 x (List.mem_cons_self ..)
  simp only
  split
  iterate 2 (·exact⟨by show -1<=x;omega,this.2⟩)
theorem zKx{c:Core}{n:Nat}{q k u:Int}(h:zAy c n q=true)(hu:0<=u/\u<=255):zAy (zOb c k u) n q=true:=by
 obtain⟨h1,h2,h3⟩:=zAh.1 h;exact zAh.2 ⟨by simpa [zOb] using h1,h2,zEf h3 _ hu⟩
theorem zN0{c:Core}{n:Nat}{q:Int}(h:zAy c n q=true):zAy (zDp c) n q=true:=h
theorem zOc{ch:Channel}{h:Hold}{c:Core}{o:Order}{n:Nat}{q:Int}(hv:zFz h ch.Kind ch.Size=true)(hf:zAy c n q=true) :
  zAy (zDn ch h c o).1 n q=true/\zFz (zDn ch h c o).2 ch.Kind ch.Size=true:=by
 obtain⟨_,_,h3⟩:=zAh.1 hf;refine⟨?_,zP4 hv (zCn h3 _)⟩;unfold zDn;simp only
 split
 ·exact zKx hf (by have:=zJi (h:=h) (k:=ch.Kind) (s:=ch.Size) (u:=c.Cells.getD o.B.toNat 0);omega)
 ·exact hf
theorem zOf{ch:Channel}{h:Hold}{c:Core}{o:Order}{n:Nat}{q:Int}(hv:zFz h ch.Kind ch.Size=true)(hf:zAy c n q=true) :
  zAy (zDq ch h c o).1 n q=true/\zFz (zDq ch h c o).2 ch.Kind ch.Size=true:=by
 refine⟨?_,zPc hv⟩;unfold zDq;simp only
 split
 ·exact zKx hf ⟨by assumption,(zJk hv).2⟩
 ·exact hf
inductive M.Act4 (cs:List Channel) (hs:List Hold) (n:Int) (c:Core) (o:Order):Prop
 | none (h5:o.Op≠5) (h6:o.Op≠6) (e:zE5 cs hs n c o=(c,hs,-1))
 | stop (h56:o.Op=5\/o.Op=6) (h:cs.length<=o.A.toNat\/∃ ch,cs[o.A.toNat]? = some ch/\((o.Op=5/\ch.From≠n)\/(o.Op=6/\ch.To≠n))) (e:zE5 cs hs n c o=(zDp c,hs,-1))
 | send (h5:o.Op=5) (ch:Channel) (hc:cs[o.A.toNat]? = some ch) (hn:ch.From=n) (e:zE5 cs hs n c o=((zDn ch (hs.getD o.A.toNat ⟨[]⟩) c o).1,hs.set o.A.toNat (zDn ch (hs.getD o.A.toNat ⟨[]⟩) c o).2,o.A))
 | take (h6:o.Op=6) (ch:Channel) (hc:cs[o.A.toNat]? = some ch) (hn:ch.To=n) (e:zE5 cs hs n c o=((zDq ch (hs.getD o.A.toNat ⟨[]⟩) c o).1,hs.set o.A.toNat (zDq ch (hs.getD o.A.toNat ⟨[]⟩) c o).2,-1))
theorem zNf(cs:List Channel)(hs:List Hold)(n:Int)(c:Core)(o:Order):M.Act4 cs hs n c o:=by
 have key:∀ k,k=o.A.toNat->(cs.length<=k/\cs[k]? = Option.none)\/∃ ch,cs[k]? = some ch:=fun k _=>by
  by_cases h:k < cs.length
  ·exact .inr ⟨_,List.getElem?_eq_getElem h⟩
  ·exact .inl ⟨by omega,List.getElem?_eq_none (by omega)⟩
 by_cases h5:o.Op=5
 ·rcases key _ rfl with ⟨hl,hc⟩ | ⟨ch,hc⟩
  ·exact .stop (.inl h5) (.inl hl) (by unfold zE5;rw[if_pos h5,hc])
  ·by_cases hn:ch.From=n
   ·exact .send h5 ch hc hn (by unfold zE5;rw[if_pos h5,hc];exact if_pos hn)
   ·exact .stop (.inl h5) (.inr ⟨ch,hc,.inl ⟨h5,hn⟩⟩) (by unfold zE5;rw[if_pos h5,hc];exact if_neg hn)
 by_cases h6:o.Op=6
 ·rcases key _ rfl with ⟨hl,hc⟩ | ⟨ch,hc⟩
  ·exact .stop (.inr h6) (.inl hl) (by unfold zE5;rw[if_neg h5,if_pos h6,hc])
  ·by_cases hn:ch.To=n
   ·exact .take h6 ch hc hn (by unfold zE5;rw[if_neg h5,if_pos h6,hc];exact if_pos hn)
   ·exact .stop (.inr h6) (.inr ⟨ch,hc,.inr ⟨h6,hn⟩⟩) (by unfold zE5;rw[if_neg h5,if_pos h6,hc];exact if_neg hn)
 ·exact .none h5 h6 (by unfold zE5;rw[if_neg h5,if_neg h6])
theorem zBl.hold{m:Machine}(h:zBl m){k:Nat}{ch:Channel}(hc:m.Plan.Channels[k]? = some ch):∃ x,m.Holds[k]? = some x/\zFz x ch.Kind ch.Size=true/\m.Holds.getD k ⟨[]⟩=x:=by
 have h1:=zA7 hc;have h2:=h.nh;have e:m.Holds[k]? = some (m.Holds[k]'(by omega)):=List.getElem?_eq_getElem (by omega)
 exact⟨_,e,h.hv k _ _ e hc,by rw[List.getD_eq_getElem?_getD,e];rfl⟩
theorem zBl.set{m:Machine}(h:zBl m){n:Nat}{c:Core}{p:List Order}{q:Part}(hp:m.Programs[n]? = some p)(hq:m.Plan.Parts[n]? = some q)(hf:zAy c p.length q.Cells=true){t:Int}(ht:0<=t/\t<=100000):zBl { m with Cores:=m.Cores.set n c,Tick:=t } where
 pg:=h.pg
 nc:=by simpa using h.nc
 nh:=h.nh
 hv:=h.hv
 tick:=ht
 fits:=fun k c' p' q' h1 h2 h3=>by
  simp only at h1 h2 h3;rw[List.getElem?_set] at h1
  split at h1
  ·subst k
   split at h1
   ·cases h1;rw[hp] at h2;rw[hq] at h3;cases h2;cases h3;exact hf
   ·cases h1
  ·exact h.fits k c' p' q' h1 h2 h3
theorem zBl.setH{m:Machine}(h:zBl m){k:Nat}{ch:Channel}(hc:m.Plan.Channels[k]? = some ch){x:Hold}(hv:zFz x ch.Kind ch.Size=true):zBl { m with Holds:=m.Holds.set k x } where
 pg:=h.pg
 nc:=h.nc
 nh:=by simpa using h.nh
 fits:=h.fits
 tick:=h.tick
 hv:=fun j x' c' h1 h2=>by
  simp only at h1 h2;rw[List.getElem?_set] at h1
  split at h1
  ·subst j
   split at h1
   ·cases h1;rw[hc] at h2;cases h2;exact hv
   ·cases h1
  ·exact h.hv j x' c' h1 h2
theorem zP0{m:Machine}(h:zBl m)(ht:m.Tick < 100000){n:Nat}(hn:n < m.Cores.length):zBl (zF9 m n):=by
 obtain⟨c,p,q,h1,h2,h3,h4,h5,e1,e2⟩:=h.at hn;have ht0:=h.tick;have hs:zAy (zBa m n).1 p.length q.Cells=true:=by
  unfold zBa;rw[e1,e2];exact zGh h4 h5 (zJ4 (by omega)).1
 have htk:0<=m.Tick+1/\m.Tick+1<=100000:=by omega
 unfold zF9 zBn;rcases zNf m.Plan.Channels m.Holds n (zBa m n).1 (zBa m n).2 with ⟨_,_,e⟩ | ⟨_,_,e⟩ | ⟨_,ch,hc,_,e⟩ | ⟨_,ch,hc,_,e⟩
 ·rw[e];exact h.set h2 h3 hs htk
 ·rw[e];exact h.set h2 h3 (zN0 hs) htk
 ·obtain⟨x,hx,hxv,ex⟩:=h.hold hc;rw[e,ex];obtain⟨k1,k2⟩:=zOc (o:=(zBa m n).2) hxv hs;exact(h.set h2 h3 k1 htk).setH hc k2
 ·obtain⟨x,hx,hxv,ex⟩:=h.hold hc;rw[e,ex];obtain⟨k1,k2⟩:=zOf (o:=(zBa m n).2) hxv hs;exact(h.set h2 h3 k1 htk).setH hc k2
theorem zJl{m:Machine}(h:zBl m)(ht:m.Tick < 100000):zBl (zBd m):=by
 have ht0:=h.tick;unfold zBd
 split
 ·exact⟨h.pg,h.nc,h.nh,h.fits,h.hv,(by show 0<=m.Tick+1/\m.Tick+1<=100000;omega)⟩
 ·rename_i hn
  rcases h.who m.Tick with e | ⟨n,e,hl⟩
  ·omega
  ·rw[e];exact zP0 h ht hl
theorem zEq{m:Machine}(h:zC8 m.Plan.Slots m.Tick < 0):zBd m=⟨m.Plan,m.Programs,m.Cores,m.Holds,m.Tick+1⟩:=if_pos h
theorem zMy{m:Machine}(h:zC8 m.Plan.Slots m.Tick < 0):zJh m = -1:=if_pos h
theorem zCx{m:Machine}{n:Nat}(h:zC8 m.Plan.Slots m.Tick=n):zBd m=zF9 m n:=by unfold zBd;rw[if_neg (by omega),h];rfl
theorem zMz{m:Machine}{n:Nat}(h:zC8 m.Plan.Slots m.Tick=n):zJh m=(zBn m n).2.2:=by unfold zJh;rw[if_neg (by omega),h];rfl
theorem zDr(m:Machine):(zBd m).Plan=m.Plan:=by unfold zBd zF9;split<;>rfl
theorem zFe(m:Machine):(zBd m).Programs=m.Programs:=by unfold zBd zF9;split<;>rfl
theorem zGi(m:Machine):(zBd m).Tick=m.Tick+1:=by unfold zBd zF9;split<;>rfl
theorem zFd(m:Machine):(zBd m).Cores.length=m.Cores.length:=by unfold zBd zF9;split<;>simp
theorem zOp(cs:List Channel)(hs:List Hold)(n:Int)(c:Core)(o:Order):(zE5 cs hs n c o).2.1.length=hs.length:=by
 rcases zNf cs hs n c o with ⟨_,_,e⟩ | ⟨_,_,e⟩ | ⟨_,ch,_,_,e⟩ | ⟨_,ch,_,_,e⟩<;>rw[e]<;>simp
theorem zMf(m:Machine):(zBd m).Holds.length=m.Holds.length:=by
 unfold zBd zF9;split
 ·rfl
 ·exact zOp _ _ _ _ _
theorem Om.putTickO{L:Nat}{w:World}{b off:Nat}{m:Machine}{F:List Nat}(h:Om L w b off m F)(u:Int)(hu:rng u):∃ F',Om L (w.setCell ⟨b,off+6,none⟩ (.int .i64 u)) b off { m with Tick:=u } F'/\(∀ k∈F',k∈F)/\Chg b off 7 F w (w.setCell ⟨b,off+6,none⟩ (.int .i64 u)):=by
 obtain⟨_,_,_,ho⟩:=id h;obtain⟨Fc,lc⟩:=h.lMachineTick;exact lc.putI ho u hu
theorem Om.putTick{L:Nat}{w:World}{b:Nat}{m:Machine}{F:List Nat}(h:Om L w b 0 m F)(u:Int)(hu:rng u):∃ F',Om L (w.setCell ⟨b,6,none⟩ (.int .i64 u)) b 0 { m with Tick:=u } F'/\(∀ k∈F',k∈F)/\Chg b 0 7 F w (w.setCell ⟨b,6,none⟩ (.int .i64 u)):=by simpa using h.putTickO u hu
theorem Om.openMo{L:Nat}{w:World}{b off:Nat}{m:Machine}{F:List Nat}(h:Om L w b off m F):∃ a0 c0 a1 c1 a2 c2 a3 c3 a4 c4 a5 c5,w.cell? ⟨b,off+0,none⟩=some (.slice a0 m.Plan.Parts.length c0)/\w.cell? ⟨b,off+1,none⟩=some (.slice a1 m.Plan.Channels.length c1)/\w.cell? ⟨b,off+2,none⟩=some (.slice a2 m.Plan.Slots.length c2)/\w.cell? ⟨b,off+3,none⟩=some (.slice a3 m.Programs.length c3)/\w.cell? ⟨b,off+4,none⟩=some (.slice a4 m.Cores.length c4)/\w.cell? ⟨b,off+5,none⟩=some (.slice a5 m.Holds.length c5)/\w.cell? ⟨b,off+6,none⟩=some (.int .i64 m.Tick)/\Rs w (.slice a0 m.Plan.Parts.length c0) m.Plan.Parts/\Rs w (.slice a1 m.Plan.Channels.length c1) m.Plan.Channels/\Rs w (.slice a2 m.Plan.Slots.length c2) m.Plan.Slots/\Rs w (.slice a3 m.Programs.length c3) m.Programs/\Rs w (.slice a4 m.Cores.length c4) m.Cores/\Rs w (.slice a5 m.Holds.length c5) m.Holds:=by
 obtain⟨cs,⟨v0,v1,v2,v3,v4,v5,F0,F1,F2,F3,F4,F5,rfl,h0,h1,h2,h3,h4,h5,r6,rfl⟩,hat,ho⟩:=h;obtain⟨a0,c0,rfl,_⟩:=id h0;obtain⟨a1,c1,rfl,_⟩:=id h1;obtain⟨a2,c2,rfl,_⟩:=id h2;obtain⟨a3,c3,rfl,_⟩:=id h3;obtain⟨a4,c4,rfl,_⟩:=id h4;obtain⟨a5,c5,rfl,_⟩:=id h5;exact⟨_,_,_,_,_,_,_,_,_,_,_,_,hat 0 _ rfl,hat 1 _ rfl,hat 2 _ rfl,hat 3 _ rfl,hat 4 _ rfl,hat 5 _ rfl,hat 6 _ rfl,⟨_,h0⟩,⟨_,h1⟩,⟨_,h2⟩,⟨_,h3⟩,⟨_,h4⟩,⟨_,h5⟩⟩
structure zBq (L b off:Nat) (F:List Nat) (w W:World) (m:Machine) (F':List Nat):Prop where
 om:Om L W b off m F'
 ch:Chg b off 7 F w W
 sub:∀ k∈F',k∈F\/w.heap.size<=k
 cl:∀ j,j≠6->W.cell? ⟨b,off+j,none⟩=w.cell? ⟨b,off+j,none⟩
theorem zBq.refl{L b off:Nat}{F:List Nat}{w:World}{m:Machine}(h:Om L w b off m F):zBq L b off F w w m F:=⟨h,Chg.refl _ _ _ _ _,fun _ h => .inl h,fun _ _=>rfl⟩
theorem zBq.lt{L b off:Nat}{F F':List Nat}{w W:World}{m:Machine}(h:zBq L b off F w W m F'):b < W.heap.size:=h.om.bk.1
theorem zBq.ltF{L b off:Nat}{F F':List Nat}{w W:World}{m:Machine}(h:zBq L b off F w W m F'):∀ k∈F',k < W.heap.size:=fun k hk=>by
 obtain⟨_,_,_,ho⟩:=id h.om;exact ho.lt (List.mem_cons_of_mem _ hk)
theorem zBq.fz{L b off:Nat}{F F':List Nat}{w W:World}{m:Machine}(h:zBq L b off F w W m F'):∀ j,W.frozen? ⟨b,j,none⟩=false:=h.om.bk.2.2.2
theorem zBq.ext{L b off:Nat}{F F':List Nat}{w W W':World}{m:Machine}(h:zBq L b off F w W m F')(he:Ext W W'):zBq L b off F w W' m F' :=
 ⟨h.om.ext he,h.ch.tr (Chg.ofExt he h.lt),h.sub,fun j hj=>(zA0 he h.lt).trans (h.cl j hj)⟩
theorem zBq.trans{L b off:Nat}{F F1 F2:List Nat}{w W W':World}{m m':Machine}(h:zBq L b off F w W m F1)(k:zBq L b off F1 W W' m' F2):zBq L b off F w W' m' F2 :=
 ⟨k.om,h.ch.trF k.ch h.sub,fun x hx=>(k.sub x hx).elim (fun h1=>h.sub x h1) (fun h1 => .inr (Nat.le_trans h.ch.sz h1)),fun j hj=>(k.cl j hj).trans (h.cl j hj)⟩
theorem zBq.bk{L b off:Nat}{F F':List Nat}{w W:World}{m:Machine}(h:zBq L b off F w W m F'){k:Nat}{cs:List Value}{T:TypeId}(hk:Bk w k cs T)(hb:k≠b)(hF:k ∉ F):Bk W k cs T:=h.ch.bk hk hb hF
theorem zBq.tick{L b off:Nat}{F F':List Nat}{w W:World}{m:Machine}(h:zBq L b off F w W m F')(u:Int)(hu:rng u):∃ F2,zBq L b off F w (W.setCell ⟨b,off+6,none⟩ (.int .i64 u)) { m with Tick:=u } F2:=by
 obtain⟨F2,h1,h2,h3⟩:=h.om.putTickO u hu;exact⟨F2,h1,h.ch.trF h3 h.sub,fun k hk=>h.sub k (h2 k hk),fun j hj=>(zA5 (fun e=>hj (by omega))).trans (h.cl j hj)⟩
theorem zBq.core{L b off:Nat}{F F':List Nat}{w W:World}{m:Machine}(h:zBq L b off F w W m F'){g s n c N:Nat}(hv:w.cell? ⟨b,off+4,none⟩=some (.slice (some ⟨g,s,none⟩) n c))(hN:N < m.Cores.length) :
  ∃ k Fy,m.Cores[N]? = some k/\Om L W g (s+N*3) k Fy/\(∀ x∈g::Fy,x∈F'/\x≠b) /\
   ∀ W' k' Fy',Chg g (s+N*3) 3 Fy W W'->Om L W' g (s+N*3) k' Fy'->(∀ x∈Fy',x∈Fy\/W.heap.size<=x)->∃ F2,zBq L b off F w W' { m with Cores:=m.Cores.set N k' } F2:=by
 obtain⟨_,_,_,ho⟩:=id h.om;obtain⟨Fc,lc⟩:=h.om.lMachineCores;obtain⟨g',s',Fy,k,e,hx,hsub,li⟩:=(lc.om ho).idxS ((h.cl 4 (by decide)).trans hv) N hN
 cases e;have LC:=lc.comp li;have hs:∀ x∈g::Fy,x∈F'/\x≠b:=fun x hx=>Lens.fsub lc ho x (hsub x hx)
 refine⟨k,Fy,hx.out,LC.om ho,hs,fun W' k' Fy' hc hk' hf=>?_⟩
 obtain⟨F2,h1,h2,h3⟩:=LC.back L W' k' Fy' ho hc hk' hf;have hb:∀ j,W'.cell? ⟨b,off+j,none⟩=W.cell? ⟨b,off+j,none⟩:=fun j=>World.cell?_of_block (hc.keep h.lt (fun e=>(hs g (List.mem_cons_self ..)).2 e.symm) (fun hm=>(hs b (List.mem_cons_of_mem _ hm)).2 rfl))
 refine⟨F2,h1,h.ch.trF h3 h.sub,fun x hx=>?_,fun j hj=>(hb j).trans (h.cl j hj)⟩
 rcases h2 x hx with h4|h4
 ·exact h.sub x h4
 ·rcases hf x h4 with h5|h5
  ·exact h.sub x (hs x (List.mem_cons_of_mem _ h5)).1
  ·exact .inr (Nat.le_trans h.ch.sz h5)
theorem zBq.hold{L b off:Nat}{F F':List Nat}{w W:World}{m:Machine}(h:zBq L b off F w W m F'){g s n c N:Nat}(hv:w.cell? ⟨b,off+5,none⟩=some (.slice (some ⟨g,s,none⟩) n c))(hN:N < m.Holds.length) :
  ∃ k Fy,m.Holds[N]? = some k/\Om L W g (s+N) k Fy/\(∀ x∈g::Fy,x∈F'/\x≠b) /\
   ∀ W' k' Fy',Chg g (s+N) 1 Fy W W'->Om L W' g (s+N) k' Fy'->(∀ x∈Fy',x∈Fy\/W.heap.size<=x)->∃ F2,zBq L b off F w W' { m with Holds:=m.Holds.set N k' } F2:=by
 obtain⟨_,_,_,ho⟩:=id h.om;obtain⟨Fc,lc⟩:=h.om.lMachineHolds;obtain⟨g',s',Fy,k,e,hx,hsub,li⟩:=(lc.om ho).idxS ((h.cl 5 (by decide)).trans hv) N hN
 cases e;have LC:=lc.comp li;have hs:∀ x∈g::Fy,x∈F'/\x≠b:=fun x hx=>Lens.fsub lc ho x (hsub x hx)
 simp only[GT.sz,Nat.mul_one] at LC;refine⟨k,Fy,hx.out,LC.om ho,hs,fun W' k' Fy' hc hk' hf=>?_⟩
 obtain⟨F2,h1,h2,h3⟩:=LC.back L W' k' Fy' ho hc hk' hf;have hb:∀ j,W'.cell? ⟨b,off+j,none⟩=W.cell? ⟨b,off+j,none⟩:=fun j=>World.cell?_of_block (hc.keep h.lt (fun e=>(hs g (List.mem_cons_self ..)).2 e.symm) (fun hm=>(hs b (List.mem_cons_of_mem _ hm)).2 rfl))
 refine⟨F2,h1,h.ch.trF h3 h.sub,fun x hx=>?_,fun j hj=>(hb j).trans (h.cl j hj)⟩
 rcases h2 x hx with h4|h4
 ·exact h.sub x h4
 ·rcases hf x h4 with h5|h5
  ·exact h.sub x (hs x (List.mem_cons_of_mem _ h5)).1
  ·exact .inr (Nat.le_trans h.ch.sz h5)
structure zBz (L b:Nat) (F:List Nat) (w W:World) (m:Machine) (F':List Nat):Prop where
 om:Om L W b 0 m F'
 ch:Chg b 0 7 F w W
 sub:∀ k∈F',k∈F\/w.heap.size<=k
 cl:∀ j,j≠6->W.cell? ⟨b,j,none⟩=w.cell? ⟨b,j,none⟩
theorem zBq.tb{L b:Nat}{F F':List Nat}{w W:World}{m:Machine}(h:zBq L b 0 F w W m F'):zBz L b F w W m F':=⟨h.om,h.ch,h.sub,fun j hj=>by simpa using h.cl j hj⟩
theorem zBz.tbo{L b:Nat}{F F':List Nat}{w W:World}{m:Machine}(h:zBz L b F w W m F'):zBq L b 0 F w W m F':=⟨h.om,h.ch,h.sub,fun j hj=>by simpa using h.cl j hj⟩
theorem zBz.refl{L b:Nat}{F:List Nat}{w:World}{m:Machine}(h:Om L w b 0 m F):zBz L b F w w m F:=(zBq.refl h).tb
theorem zBz.lt{L b:Nat}{F F':List Nat}{w W:World}{m:Machine}(h:zBz L b F w W m F'):b < W.heap.size:=h.om.bk.1
theorem zBz.ltF{L b:Nat}{F F':List Nat}{w W:World}{m:Machine}(h:zBz L b F w W m F'):∀ k∈F',k < W.heap.size:=h.tbo.ltF
theorem zBz.fz{L b:Nat}{F F':List Nat}{w W:World}{m:Machine}(h:zBz L b F w W m F'):∀ j,W.frozen? ⟨b,j,none⟩=false:=h.om.bk.2.2.2
theorem zBz.ext{L b:Nat}{F F':List Nat}{w W W':World}{m:Machine}(h:zBz L b F w W m F')(he:Ext W W'):zBz L b F w W' m F':=(h.tbo.ext he).tb
theorem zBz.trans{L b:Nat}{F F1 F2:List Nat}{w W W':World}{m m':Machine}(h:zBz L b F w W m F1)(k:zBz L b F1 W W' m' F2):zBz L b F w W' m' F2:=(h.tbo.trans k.tbo).tb
theorem zBz.bk{L b:Nat}{F F':List Nat}{w W:World}{m:Machine}(h:zBz L b F w W m F'){k:Nat}{cs:List Value}{T:TypeId}(hk:Bk w k cs T)(hb:k≠b)(hF:k ∉ F):Bk W k cs T:=h.ch.bk hk hb hF
theorem zBz.tick{L b:Nat}{F F':List Nat}{w W:World}{m:Machine}(h:zBz L b F w W m F')(u:Int)(hu:rng u):∃ F2,zBz L b F w (W.setCell ⟨b,6,none⟩ (.int .i64 u)) { m with Tick:=u } F2:=by
 obtain⟨F2,h2⟩:=h.tbo.tick u hu;exact⟨F2,by simpa using h2.tb⟩
theorem zBz.core{L b:Nat}{F F':List Nat}{w W:World}{m:Machine}(h:zBz L b F w W m F'){g s n c N:Nat}(hv:w.cell? ⟨b,4,none⟩=some (.slice (some ⟨g,s,none⟩) n c))(hN:N < m.Cores.length) :
  ∃ k Fy,m.Cores[N]? = some k/\Om L W g (s+N*3) k Fy/\(∀ x∈g::Fy,x∈F'/\x≠b) /\
   ∀ W' k' Fy',Chg g (s+N*3) 3 Fy W W'->Om L W' g (s+N*3) k' Fy'->(∀ x∈Fy',x∈Fy\/W.heap.size<=x)->∃ F2,zBz L b F w W' { m with Cores:=m.Cores.set N k' } F2:=by
 obtain⟨k,Fy,h1,h2,h3,h4⟩:=h.tbo.core (g:=g) (s:=s) (n:=n) (c:=c) (by simpa using hv) hN
 exact⟨k,Fy,h1,h2,h3,fun W' k' Fy' a b c=>(h4 W' k' Fy' a b c).imp fun _ h=>h.tb⟩
theorem zBz.hold{L b:Nat}{F F':List Nat}{w W:World}{m:Machine}(h:zBz L b F w W m F'){g s n c N:Nat}(hv:w.cell? ⟨b,5,none⟩=some (.slice (some ⟨g,s,none⟩) n c))(hN:N < m.Holds.length) :
  ∃ k Fy,m.Holds[N]? = some k/\Om L W g (s+N) k Fy/\(∀ x∈g::Fy,x∈F'/\x≠b) /\
   ∀ W' k' Fy',Chg g (s+N) 1 Fy W W'->Om L W' g (s+N) k' Fy'->(∀ x∈Fy',x∈Fy\/W.heap.size<=x)->∃ F2,zBz L b F w W' { m with Holds:=m.Holds.set N k' } F2:=by
 obtain⟨k,Fy,h1,h2,h3,h4⟩:=h.tbo.hold (g:=g) (s:=s) (n:=n) (c:=c) (by simpa using hv) hN
 exact⟨k,Fy,h1,h2,h3,fun W' k' Fy' a b c=>(h4 W' k' Fy' a b c).imp fun _ h=>h.tb⟩
theorem Om.openH{L:Nat}{w:World}{b o:Nat}{x:Hold}{F:List Nat}(h:Om L w b o x F):∃ v,w.cell? ⟨b,o,none⟩=some v/\Rv w (.agg #[v]) x:=by
 obtain⟨cs,he,hat,ho⟩:=h;obtain⟨v,rfl,hs⟩:=id he;exact⟨v,by simpa using hat 0 _ rfl,[v],F,rfl,he⟩
theorem Om.openHs{L:Nat}{w:World}{b o:Nat}{x:Hold}{F:List Nat}(h:Om L w b o x F):∃ a c,w.cell? ⟨b,o,none⟩=some (.slice a x.Lst.length c)/\Rv w (.agg #[.slice a x.Lst.length c]) x:=by
 obtain⟨cs,he,hat,ho⟩:=h;obtain⟨v,rfl,hs⟩:=id he;obtain⟨a,c,rfl,_⟩:=id hs;exact⟨a,c,by simpa using hat 0 _ rfl,_,F,rfl,he⟩
theorem Om.putHold{L M:Nat}{w W:World}{g o:Nat}{x y:Hold}{F G:List Nat}{v:Value}(h:Om L w g o x F)(he:Ext w W)(hL:L<=M)(hM:w.heap.size<=M)(hy:GT.enc W [v] y G)(hG:Own M W G) :
  Chg g o 1 F w (W.setCell ⟨g,o,none⟩ v)/\Om L (W.setCell ⟨g,o,none⟩ v) g o y G/\∀ k∈G,w.heap.size<=k:=by
 obtain⟨hlt,hLg,hgF,_⟩:=h.bk;obtain⟨u,hc,_⟩:=h.openH;have hgG:g ∉ G:=fun hm=>by have:=(hG.2 g hm).1;omega
 refine⟨(Chg.ofExt he hlt).set ⟨Nat.le_refl _,by omega⟩ v,⟨[v],GT.keep hy (fun k hk=>zA3 (fun e=>hgG (by have e:k=g:=e;rw[<- e];exact hk))),fun j u hj=>?_,List.nodup_cons.2 ⟨hgG,hG.1⟩,fun k hk=>?_⟩,fun k hk=>Nat.le_trans hM (hG.2 k hk).1⟩
 ·match j,hj with
  | 0,hj=>cases hj;exact zB0 ((zA0 he hlt).trans hc)
 ·rcases List.mem_cons.1 hk with rfl|hk
  ·exact⟨hLg,(h.own0.ext he).set _ _⟩
  ·exact⟨Nat.le_trans hL (hG.2 k hk).1,(hG.2 k hk).2.set _ _⟩
end Sk
