/- Contracts of functions of the given program. -/
import Derived.Test.YtbekofpkcahbkaaGreatRst
namespace Sk
open Go Go.Proofs Go.RowKit
set_option maxHeartbeats 1000000
set_option linter.unusedVariables false
set_option linter.unusedSimpArgs false
def zDa(c:Core):Core:={ c with Stopped:=true }
def zMr(c:Core)(k u:Int):Core:={ c with Cells:=c.Cells.set k.toNat u }
def M.cz:Core:=⟨[],0,false⟩
def zD9(ch:Channel)(h:Hold)(c:Core)(o:Order):Core × Hold :=
 (if ch.Kind=3 then zMr c o.B (zBn h ch.Kind ch.Size (c.Cells.getD o.B.toNat 0)).2 else c,(zBn h ch.Kind ch.Size (c.Cells.getD o.B.toNat 0)).1)
def zDb(ch:Channel)(h:Hold)(c:Core)(o:Order):Core × Hold :=
 (if 0<=(zBf h ch.Kind).2 then zMr c o.B (zBf h ch.Kind).2 else c,(zBf h ch.Kind).1)
theorem zKi{ch:Channel}{h:Hold}{c:Core}{o:Order}{vv r2:Int}{r1:Hold}(hv:c.Cells.getD o.B.toNat 0=vv)(hk:ch.Kind=3)(h1:(zBn h ch.Kind ch.Size vv).1=r1)(h2:(zBn h ch.Kind ch.Size vv).2=r2):zD9 ch h c o=(zMr c o.B r2,r1):=by
 unfold zD9;rw[hv,h1,h2,if_pos hk]
theorem zKh{ch:Channel}{h:Hold}{c:Core}{o:Order}{vv r2:Int}{r1:Hold}(hv:c.Cells.getD o.B.toNat 0=vv)(hk:¬ ch.Kind=3)(h1:(zBn h ch.Kind ch.Size vv).1=r1)(h2:(zBn h ch.Kind ch.Size vv).2=r2):zD9 ch h c o=(c,r1):=by
 unfold zD9;rw[hv,h1,if_neg hk]
theorem zKm{ch:Channel}{h:Hold}{c:Core}{o:Order}{r2:Int}{r1:Hold}(hk:0<=r2)(h1:(zBf h ch.Kind).1=r1)(h2:(zBf h ch.Kind).2=r2):zDb ch h c o=(zMr c o.B r2,r1):=by
 unfold zDb;rw[h1,h2,if_pos hk]
theorem zKl{ch:Channel}{h:Hold}{c:Core}{o:Order}{r2:Int}{r1:Hold}(hk:¬ 0<=r2)(h1:(zBf h ch.Kind).1=r1)(h2:(zBf h ch.Kind).2=r2):zDb ch h c o=(c,r1):=by
 unfold zDb;rw[h1,h2,if_neg hk]
def zEg(cs:List Channel)(hs:List Hold)(n:Int)(c:Core)(o:Order):Core × List Hold × Int :=
 if o.Op=5 then
  match cs[o.A.toNat]? with
  | some ch=>if ch.From=n then ((zD9 ch (hs.getD o.A.toNat ⟨[]⟩) c o).1,hs.set o.A.toNat (zD9 ch (hs.getD o.A.toNat ⟨[]⟩) c o).2,o.A) else (zDa c,hs,-1)
  | none=>(zDa c,hs,-1)
 else if o.Op=6 then
  match cs[o.A.toNat]? with
  | some ch=>if ch.To=n then ((zDb ch (hs.getD o.A.toNat ⟨[]⟩) c o).1,hs.set o.A.toNat (zDb ch (hs.getD o.A.toNat ⟨[]⟩) c o).2,-1) else (zDa c,hs,-1)
  | none=>(zDa c,hs,-1)
 else (c,hs,-1)
def zC1(m:Machine)(n:Nat):Core × Order:=zAs (m.Cores.getD n M.cz) (m.Programs.getD n []) (zGj m.Plan.Slots n m.Tick)
def zEi(m:Machine)(n:Nat):Core × List Hold × Int:=zEg m.Plan.Channels m.Holds n (zC1 m n).1 (zC1 m n).2
def zEn(m:Machine)(n:Nat):Machine:={ m with Cores:=m.Cores.set n (zEi m n).1,Holds:=(zEi m n).2.1,Tick:=m.Tick+1 }
def zBg(m:Machine):Machine:=if zD0 m.Plan.Slots m.Tick < 0 then { m with Tick:=m.Tick+1 } else zEn m (zD0 m.Plan.Slots m.Tick).toNat
def zJi(m:Machine):Int:=if zD0 m.Plan.Slots m.Tick < 0 then -1 else (zEi m (zD0 m.Plan.Slots m.Tick).toNat).2.2
theorem zBj.ssv{m:Machine}(h:zBj m):zCv m.Plan.Slots m.Plan.Parts.length=true:=by
 have:=h.pg.set
 simp only[zB0,Bool.and_eq_true] at this;exact this.2.2
theorem zBj.who{m:Machine}(h:zBj m)(t:Int):zD0 m.Plan.Slots t = -1\/∃ n:Nat,zD0 m.Plan.Slots t=n/\n < m.Cores.length:=by
 obtain⟨x,hx,e⟩:=zNw (zKd.of h.ssv) t;have h1:=((zEp h.ssv).2.2.2 x hx).2;have h2:=h.nc;by_cases hn:zD0 m.Plan.Slots t < 0
 ·left;omega
 ·right;exact⟨(zD0 m.Plan.Slots t).toNat,by omega,by omega⟩
theorem zBj.at{m:Machine}(h:zBj m){n:Nat}(hn:n < m.Cores.length):∃ c p q,m.Cores[n]? = some c/\m.Programs[n]? = some p/\m.Plan.Parts[n]? = some q/\zAu c p.length q.Cells=true/\zBr p q.Cells=true/\m.Cores.getD n M.cz=c/\m.Programs.getD n []=p:=by
 have h1:=h.nc;have h2:=h.pg.np;have e1:m.Cores[n]? = some m.Cores[n]:=List.getElem?_eq_getElem hn;have e2:m.Programs[n]? = some (m.Programs[n]'(by omega)):=List.getElem?_eq_getElem (by omega)
 have e3:m.Plan.Parts[n]? = some (m.Plan.Parts[n]'(by omega)):=List.getElem?_eq_getElem (by omega)
 exact⟨_,_,_,e1,e2,e3,h.fits n _ _ _ e1 e2 e3,h.pg.prv n _ _ e2 e3,by rw[List.getD_eq_getElem?_getD,e1];rfl,by rw[List.getD_eq_getElem?_getD,e2];rfl⟩
theorem zCr{h:Hold}{k s:Int}:zFj h k s=true ↔ zBt k s=true/\(h.Lst.length:Int)<=s/\∀ x∈h.Lst,0<=x/\x<=255:=by
 unfold zFj;simp only[Bool.and_eq_true,decide_eq_true_eq,zJm]
theorem zNn{h:Hold}{k s u:Int}(hv:zFj h k s=true)(hu:0<=u/\u<=255):zFj (zBn h k s u).1 k s=true:=by
 obtain⟨h1,h2,h3⟩:=zCr.1 hv;unfold zBn;have hs:=zC4 h1
 split
 ·exact zCr.2 ⟨h1,by show((1:Nat):Int)<=s;omega,fun x hx=>by rw[List.mem_singleton.1 hx];exact hu⟩
 split
 ·refine zCr.2 ⟨h1,by show(((h.Lst ++ [u]).length:Nat):Int)<=s;simp;omega,fun x hx=>?_⟩
  rcases List.mem_append.1 hx with hx|hx
  ·exact h3 x hx
  ·rw[List.mem_singleton.1 hx];exact hu
 ·exact hv
theorem zIa{h:Hold}{k s u:Int}:0<=(zBn h k s u).2/\(zBn h k s u).2<=1:=by
 unfold zBn
 split
 ·exact⟨by show(0:Int)<=0;decide,by show(0:Int)<=1;decide⟩
 split
 ·exact⟨by show(0:Int)<=0;decide,by show(0:Int)<=1;decide⟩
 ·show 0<=zFh _/\zFh _<=1
  cases (k == 3)<;>exact⟨by decide,by decide⟩
theorem zNt{h:Hold}{k s:Int}(hv:zFj h k s=true):zFj (zBf h k).1 k s=true:=by
 obtain⟨h1,h2,h3⟩:=zCr.1 hv;obtain⟨l⟩:=h;unfold zBf;cases l with
 | nil=>exact hv
 | cons x r =>
  simp only
  split
  ·exact hv
  ·exact zCr.2 ⟨h1,by simp at h2;show((r.length:Nat):Int)<=s;omega,fun y hy=>h3 y (List.mem_cons_of_mem _ hy)⟩
theorem zIb{h:Hold}{k s:Int}(hv:zFj h k s=true) : -1<=(zBf h k).2/\(zBf h k).2<=255:=by
 obtain⟨h1,h2,h3⟩:=zCr.1 hv;obtain⟨l⟩:=h;unfold zBf;cases l with
 | nil=>exact⟨by show(-1:Int) <= -1;decide,by show(-1:Int)<=255;decide⟩
 | cons x r =>
  have:=h3 x (List.mem_cons_self ..)
  simp only
  split
  iterate 2 (·exact⟨by show -1<=x;omega,this.2⟩)
theorem zJj{c:Core}{n:Nat}{q k u:Int}(h:zAu c n q=true)(hu:0<=u/\u<=255):zAu (zMr c k u) n q=true:=by
 obtain⟨h1,h2,h3⟩:=zAg.1 h;exact zAg.2 ⟨by simpa [zMr] using h1,h2,zDy h3 _ hu⟩
theorem zLo{c:Core}{n:Nat}{q:Int}(h:zAu c n q=true):zAu (zDa c) n q=true:=h
theorem zMt{ch:Channel}{h:Hold}{c:Core}{o:Order}{n:Nat}{q:Int}(hv:zFj h ch.Kind ch.Size=true)(hf:zAu c n q=true) :
  zAu (zD9 ch h c o).1 n q=true/\zFj (zD9 ch h c o).2 ch.Kind ch.Size=true:=by
 obtain⟨_,_,h3⟩:=zAg.1 hf;refine⟨?_,zNn hv (zCc h3 _)⟩;unfold zD9;simp only
 split
 ·exact zJj hf (by have:=zIa (h:=h) (k:=ch.Kind) (s:=ch.Size) (u:=c.Cells.getD o.B.toNat 0);omega)
 ·exact hf
theorem zMw{ch:Channel}{h:Hold}{c:Core}{o:Order}{n:Nat}{q:Int}(hv:zFj h ch.Kind ch.Size=true)(hf:zAu c n q=true) :
  zAu (zDb ch h c o).1 n q=true/\zFj (zDb ch h c o).2 ch.Kind ch.Size=true:=by
 refine⟨?_,zNt hv⟩;unfold zDb;simp only
 split
 ·exact zJj hf ⟨by assumption,(zIb hv).2⟩
 ·exact hf
inductive M.Act4 (cs:List Channel) (hs:List Hold) (n:Int) (c:Core) (o:Order):Prop
 | none (h5:o.Op≠5) (h6:o.Op≠6) (e:zEg cs hs n c o=(c,hs,-1))
 | stop (h56:o.Op=5\/o.Op=6) (h:cs.length<=o.A.toNat\/∃ ch,cs[o.A.toNat]? = some ch/\((o.Op=5/\ch.From≠n)\/(o.Op=6/\ch.To≠n))) (e:zEg cs hs n c o=(zDa c,hs,-1))
 | send (h5:o.Op=5) (ch:Channel) (hc:cs[o.A.toNat]? = some ch) (hn:ch.From=n) (e:zEg cs hs n c o=((zD9 ch (hs.getD o.A.toNat ⟨[]⟩) c o).1,hs.set o.A.toNat (zD9 ch (hs.getD o.A.toNat ⟨[]⟩) c o).2,o.A))
 | take (h6:o.Op=6) (ch:Channel) (hc:cs[o.A.toNat]? = some ch) (hn:ch.To=n) (e:zEg cs hs n c o=((zDb ch (hs.getD o.A.toNat ⟨[]⟩) c o).1,hs.set o.A.toNat (zDb ch (hs.getD o.A.toNat ⟨[]⟩) c o).2,-1))
theorem zM0(cs:List Channel)(hs:List Hold)(n:Int)(c:Core)(o:Order):M.Act4 cs hs n c o:=by
 have key:∀ k,k=o.A.toNat->(cs.length<=k/\cs[k]? = Option.none)\/∃ ch,cs[k]? = some ch:=fun k _=>by
  by_cases h:k < cs.length
  ·exact .inr ⟨_,List.getElem?_eq_getElem h⟩
  ·exact .inl ⟨by omega,List.getElem?_eq_none (by omega)⟩
 by_cases h5:o.Op=5
 ·rcases key _ rfl with ⟨hl,hc⟩ | ⟨ch,hc⟩
  ·exact .stop (.inl h5) (.inl hl) (by unfold zEg;rw[if_pos h5,hc])
  ·by_cases hn:ch.From=n
   ·exact .send h5 ch hc hn (by unfold zEg;rw[if_pos h5,hc];exact if_pos hn)
   ·exact .stop (.inl h5) (.inr ⟨ch,hc,.inl ⟨h5,hn⟩⟩) (by unfold zEg;rw[if_pos h5,hc];exact if_neg hn)
 by_cases h6:o.Op=6
 ·rcases key _ rfl with ⟨hl,hc⟩ | ⟨ch,hc⟩
  ·exact .stop (.inr h6) (.inl hl) (by unfold zEg;rw[if_neg h5,if_pos h6,hc])
  ·by_cases hn:ch.To=n
   ·exact .take h6 ch hc hn (by unfold zEg;rw[if_neg h5,if_pos h6,hc];exact if_pos hn)
   ·exact .stop (.inr h6) (.inr ⟨ch,hc,.inr ⟨h6,hn⟩⟩) (by unfold zEg;rw[if_neg h5,if_pos h6,hc];exact if_neg hn)
 ·exact .none h5 h6 (by unfold zEg;rw[if_neg h5,if_neg h6])
theorem zBj.hold{m:Machine}(h:zBj m){k:Nat}{ch:Channel}(hc:m.Plan.Channels[k]? = some ch):∃ x,m.Holds[k]? = some x/\zFj x ch.Kind ch.Size=true/\m.Holds.getD k ⟨[]⟩=x:=by
 have h1:=zA3 hc;have h2:=h.nh;have e:m.Holds[k]? = some (m.Holds[k]'(by omega)):=List.getElem?_eq_getElem (by omega)
 exact⟨_,e,h.hv k _ _ e hc,by rw[List.getD_eq_getElem?_getD,e];rfl⟩
theorem zBj.set{m:Machine}(h:zBj m){n:Nat}{c:Core}{p:List Order}{q:Part}(hp:m.Programs[n]? = some p)(hq:m.Plan.Parts[n]? = some q)(hf:zAu c p.length q.Cells=true){t:Int}(ht:0<=t/\t<=100000):zBj { m with Cores:=m.Cores.set n c,Tick:=t } where
 pg:=h.pg
 nc:=by simpa using h.nc
 nh:=h.nh
 hv:=h.hv
 tick:=ht
 fits:=fun k c' p' q' h1 h2 h3=>by
  simp only at h1 h2 h3;rw[List.getElem?_set] at h1
  split at h1
  ·subst k
   split at h1
   ·cases h1;rw[hp] at h2;rw[hq] at h3;cases h2;cases h3;exact hf
   ·cases h1
  ·exact h.fits k c' p' q' h1 h2 h3
theorem zBj.setH{m:Machine}(h:zBj m){k:Nat}{ch:Channel}(hc:m.Plan.Channels[k]? = some ch){x:Hold}(hv:zFj x ch.Kind ch.Size=true):zBj { m with Holds:=m.Holds.set k x } where
 pg:=h.pg
 nc:=h.nc
 nh:=by simpa using h.nh
 fits:=h.fits
 tick:=h.tick
 hv:=fun j x' c' h1 h2=>by
  simp only at h1 h2;rw[List.getElem?_set] at h1
  split at h1
  ·subst j
   split at h1
   ·cases h1;rw[hc] at h2;cases h2;exact hv
   ·cases h1
  ·exact h.hv j x' c' h1 h2
theorem zNj{m:Machine}(h:zBj m)(ht:m.Tick < 100000){n:Nat}(hn:n < m.Cores.length):zBj (zEn m n):=by
 obtain⟨c,p,q,h1,h2,h3,h4,h5,e1,e2⟩:=h.at hn;have ht0:=h.tick;have hs:zAu (zC1 m n).1 p.length q.Cells=true:=by
  unfold zC1;rw[e1,e2];exact zFl h4 h5 (zJx (by omega)).1
 have htk:0<=m.Tick+1/\m.Tick+1<=100000:=by omega
 unfold zEn zEi;rcases zM0 m.Plan.Channels m.Holds n (zC1 m n).1 (zC1 m n).2 with ⟨_,_,e⟩ | ⟨_,_,e⟩ | ⟨_,ch,hc,_,e⟩ | ⟨_,ch,hc,_,e⟩
 ·rw[e];exact h.set h2 h3 hs htk
 ·rw[e];exact h.set h2 h3 (zLo hs) htk
 ·obtain⟨x,hx,hxv,ex⟩:=h.hold hc;rw[e,ex];obtain⟨k1,k2⟩:=zMt (o:=(zC1 m n).2) hxv hs;exact(h.set h2 h3 k1 htk).setH hc k2
 ·obtain⟨x,hx,hxv,ex⟩:=h.hold hc;rw[e,ex];obtain⟨k1,k2⟩:=zMw (o:=(zC1 m n).2) hxv hs;exact(h.set h2 h3 k1 htk).setH hc k2
theorem zNu{m:Machine}(h:zBj m)(ht:m.Tick < 100000):zBj (zBg m):=by
 have ht0:=h.tick;unfold zBg
 split
 ·exact⟨h.pg,h.nc,h.nh,h.fits,h.hv,(by show 0<=m.Tick+1/\m.Tick+1<=100000;omega)⟩
 ·rename_i hn
  rcases h.who m.Tick with e | ⟨n,e,hl⟩
  ·omega
  ·rw[e];exact zNj h ht hl
theorem zIc{m:Machine}(h:zD0 m.Plan.Slots m.Tick < 0):zBg m=⟨m.Plan,m.Programs,m.Cores,m.Holds,m.Tick+1⟩:=if_pos h
theorem zLi{m:Machine}(h:zD0 m.Plan.Slots m.Tick < 0):zJi m = -1:=if_pos h
theorem zId{m:Machine}{n:Nat}(h:zD0 m.Plan.Slots m.Tick=n):zBg m=zEn m n:=by unfold zBg;rw[if_neg (by omega),h];rfl
theorem zLj{m:Machine}{n:Nat}(h:zD0 m.Plan.Slots m.Tick=n):zJi m=(zEi m n).2.2:=by unfold zJi;rw[if_neg (by omega),h];rfl
theorem zLp(m:Machine):(zBg m).Plan=m.Plan:=by unfold zBg zEn;split<;>rfl
theorem zKq(m:Machine):(zBg m).Programs=m.Programs:=by unfold zBg zEn;split<;>rfl
theorem zLq(m:Machine):(zBg m).Tick=m.Tick+1:=by unfold zBg zEn;split<;>rfl
theorem zKo(m:Machine):(zBg m).Cores.length=m.Cores.length:=by unfold zBg zEn;split<;>simp
theorem zN5(cs:List Channel)(hs:List Hold)(n:Int)(c:Core)(o:Order):(zEg cs hs n c o).2.1.length=hs.length:=by
 rcases zM0 cs hs n c o with ⟨_,_,e⟩ | ⟨_,_,e⟩ | ⟨_,ch,_,_,e⟩ | ⟨_,ch,_,_,e⟩<;>rw[e]<;>simp
theorem zKp(m:Machine):(zBg m).Holds.length=m.Holds.length:=by
 unfold zBg zEn;split
 ·rfl
 ·exact zN5 _ _ _ _ _
theorem Om.putTickO{L:Nat}{w:World}{b off:Nat}{m:Machine}{F:List Nat}(h:Om L w b off m F)(u:Int)(hu:rng u):∃ F',Om L (w.setCell ⟨b,off+6,none⟩ (.int .i64 u)) b off { m with Tick:=u } F'/\(∀ k∈F',k∈F)/\Chg b off 7 F w (w.setCell ⟨b,off+6,none⟩ (.int .i64 u)):=by
 obtain⟨_,_,_,ho⟩:=id h;obtain⟨Fc,lc⟩:=h.lMachineTick;exact lc.putI ho u hu
theorem Om.putTick{L:Nat}{w:World}{b:Nat}{m:Machine}{F:List Nat}(h:Om L w b 0 m F)(u:Int)(hu:rng u):∃ F',Om L (w.setCell ⟨b,6,none⟩ (.int .i64 u)) b 0 { m with Tick:=u } F'/\(∀ k∈F',k∈F)/\Chg b 0 7 F w (w.setCell ⟨b,6,none⟩ (.int .i64 u)):=by simpa using h.putTickO u hu
theorem Om.openMo{L:Nat}{w:World}{b off:Nat}{m:Machine}{F:List Nat}(h:Om L w b off m F):∃ a0 c0 a1 c1 a2 c2 a3 c3 a4 c4 a5 c5,w.cell? ⟨b,off+0,none⟩=some (.slice a0 m.Plan.Parts.length c0)/\w.cell? ⟨b,off+1,none⟩=some (.slice a1 m.Plan.Channels.length c1)/\w.cell? ⟨b,off+2,none⟩=some (.slice a2 m.Plan.Slots.length c2)/\w.cell? ⟨b,off+3,none⟩=some (.slice a3 m.Programs.length c3)/\w.cell? ⟨b,off+4,none⟩=some (.slice a4 m.Cores.length c4)/\w.cell? ⟨b,off+5,none⟩=some (.slice a5 m.Holds.length c5)/\w.cell? ⟨b,off+6,none⟩=some (.int .i64 m.Tick)/\Rs w (.slice a0 m.Plan.Parts.length c0) m.Plan.Parts/\Rs w (.slice a1 m.Plan.Channels.length c1) m.Plan.Channels/\Rs w (.slice a2 m.Plan.Slots.length c2) m.Plan.Slots/\Rs w (.slice a3 m.Programs.length c3) m.Programs/\Rs w (.slice a4 m.Cores.length c4) m.Cores/\Rs w (.slice a5 m.Holds.length c5) m.Holds:=by
 obtain⟨cs,⟨v0,v1,v2,v3,v4,v5,F0,F1,F2,F3,F4,F5,rfl,h0,h1,h2,h3,h4,h5,r6,rfl⟩,hat,ho⟩:=h;obtain⟨a0,c0,rfl,_⟩:=id h0;obtain⟨a1,c1,rfl,_⟩:=id h1;obtain⟨a2,c2,rfl,_⟩:=id h2;obtain⟨a3,c3,rfl,_⟩:=id h3;obtain⟨a4,c4,rfl,_⟩:=id h4;obtain⟨a5,c5,rfl,_⟩:=id h5;exact⟨_,_,_,_,_,_,_,_,_,_,_,_,hat 0 _ rfl,hat 1 _ rfl,hat 2 _ rfl,hat 3 _ rfl,hat 4 _ rfl,hat 5 _ rfl,hat 6 _ rfl,⟨_,h0⟩,⟨_,h1⟩,⟨_,h2⟩,⟨_,h3⟩,⟨_,h4⟩,⟨_,h5⟩⟩
structure zBk (L b off:Nat) (F:List Nat) (w W:World) (m:Machine) (F':List Nat):Prop where
 om:Om L W b off m F'
 ch:Chg b off 7 F w W
 sub:∀ k∈F',k∈F\/w.heap.size<=k
 cl:∀ j,j≠6->W.cell? ⟨b,off+j,none⟩=w.cell? ⟨b,off+j,none⟩
theorem zBk.refl{L b off:Nat}{F:List Nat}{w:World}{m:Machine}(h:Om L w b off m F):zBk L b off F w w m F:=⟨h,Chg.refl _ _ _ _ _,fun _ h => .inl h,fun _ _=>rfl⟩
theorem zBk.lt{L b off:Nat}{F F':List Nat}{w W:World}{m:Machine}(h:zBk L b off F w W m F'):b < W.heap.size:=h.om.bk.1
theorem zBk.ltF{L b off:Nat}{F F':List Nat}{w W:World}{m:Machine}(h:zBk L b off F w W m F'):∀ k∈F',k < W.heap.size:=fun k hk=>by
 obtain⟨_,_,_,ho⟩:=id h.om;exact ho.lt (List.mem_cons_of_mem _ hk)
theorem zBk.fz{L b off:Nat}{F F':List Nat}{w W:World}{m:Machine}(h:zBk L b off F w W m F'):∀ j,W.frozen? ⟨b,j,none⟩=false:=h.om.bk.2.2.2
theorem zBk.ext{L b off:Nat}{F F':List Nat}{w W W':World}{m:Machine}(h:zBk L b off F w W m F')(he:Ext W W'):zBk L b off F w W' m F' :=
 ⟨h.om.ext he,h.ch.tr (Chg.ofExt he h.lt),h.sub,fun j hj=>(zA0 he h.lt).trans (h.cl j hj)⟩
theorem zBk.trans{L b off:Nat}{F F1 F2:List Nat}{w W W':World}{m m':Machine}(h:zBk L b off F w W m F1)(k:zBk L b off F1 W W' m' F2):zBk L b off F w W' m' F2 :=
 ⟨k.om,h.ch.trF k.ch h.sub,fun x hx=>(k.sub x hx).elim (fun h1=>h.sub x h1) (fun h1 => .inr (Nat.le_trans h.ch.sz h1)),fun j hj=>(k.cl j hj).trans (h.cl j hj)⟩
theorem zBk.bk{L b off:Nat}{F F':List Nat}{w W:World}{m:Machine}(h:zBk L b off F w W m F'){k:Nat}{cs:List Value}{T:TypeId}(hk:Bk w k cs T)(hb:k≠b)(hF:k ∉ F):Bk W k cs T:=h.ch.bk hk hb hF
theorem zBk.tick{L b off:Nat}{F F':List Nat}{w W:World}{m:Machine}(h:zBk L b off F w W m F')(u:Int)(hu:rng u):∃ F2,zBk L b off F w (W.setCell ⟨b,off+6,none⟩ (.int .i64 u)) { m with Tick:=u } F2:=by
 obtain⟨F2,h1,h2,h3⟩:=h.om.putTickO u hu;exact⟨F2,h1,h.ch.trF h3 h.sub,fun k hk=>h.sub k (h2 k hk),fun j hj=>(zA6 (fun e=>hj (by omega))).trans (h.cl j hj)⟩
theorem zBk.core{L b off:Nat}{F F':List Nat}{w W:World}{m:Machine}(h:zBk L b off F w W m F'){g s n c N:Nat}(hv:w.cell? ⟨b,off+4,none⟩=some (.slice (some ⟨g,s,none⟩) n c))(hN:N < m.Cores.length) :
  ∃ k Fy,m.Cores[N]? = some k/\Om L W g (s+N*3) k Fy/\(∀ x∈g::Fy,x∈F'/\x≠b) /\
   ∀ W' k' Fy',Chg g (s+N*3) 3 Fy W W'->Om L W' g (s+N*3) k' Fy'->(∀ x∈Fy',x∈Fy\/W.heap.size<=x)->∃ F2,zBk L b off F w W' { m with Cores:=m.Cores.set N k' } F2:=by
 obtain⟨_,_,_,ho⟩:=id h.om;obtain⟨Fc,lc⟩:=h.om.lMachineCores;obtain⟨g',s',Fy,k,e,hx,hsub,li⟩:=(lc.om ho).idxS ((h.cl 4 (by decide)).trans hv) N hN
 cases e;have LC:=lc.comp li;have hs:∀ x∈g::Fy,x∈F'/\x≠b:=fun x hx=>Lens.fsub lc ho x (hsub x hx)
 refine⟨k,Fy,hx.out,LC.om ho,hs,fun W' k' Fy' hc hk' hf=>?_⟩
 obtain⟨F2,h1,h2,h3⟩:=LC.back L W' k' Fy' ho hc hk' hf;have hb:∀ j,W'.cell? ⟨b,off+j,none⟩=W.cell? ⟨b,off+j,none⟩:=fun j=>World.cell?_of_block (hc.keep h.lt (fun e=>(hs g (List.mem_cons_self ..)).2 e.symm) (fun hm=>(hs b (List.mem_cons_of_mem _ hm)).2 rfl))
 refine⟨F2,h1,h.ch.trF h3 h.sub,fun x hx=>?_,fun j hj=>(hb j).trans (h.cl j hj)⟩
 rcases h2 x hx with h4|h4
 ·exact h.sub x h4
 ·rcases hf x h4 with h5|h5
  ·exact h.sub x (hs x (List.mem_cons_of_mem _ h5)).1
  ·exact .inr (Nat.le_trans h.ch.sz h5)
theorem zBk.hold{L b off:Nat}{F F':List Nat}{w W:World}{m:Machine}(h:zBk L b off F w W m F'){g s n c N:Nat}(hv:w.cell? ⟨b,off+5,none⟩=some (.slice (some ⟨g,s,none⟩) n c))(hN:N < m.Holds.length) :
  ∃ k Fy,m.Holds[N]? = some k/\Om L W g (s+N) k Fy/\(∀ x∈g::Fy,x∈F'/\x≠b) /\
   ∀ W' k' Fy',Chg g (s+N) 1 Fy W W'->Om L W' g (s+N) k' Fy'->(∀ x∈Fy',x∈Fy\/W.heap.size<=x)->∃ F2,zBk L b off F w W' { m with Holds:=m.Holds.set N k' } F2:=by
 obtain⟨_,_,_,ho⟩:=id h.om;obtain⟨Fc,lc⟩:=h.om.lMachineHolds;obtain⟨g',s',Fy,k,e,hx,hsub,li⟩:=(lc.om ho).idxS ((h.cl 5 (by decide)).trans hv) N hN
 cases e;have LC:=lc.comp li;have hs:∀ x∈g::Fy,x∈F'/\x≠b:=fun x hx=>Lens.fsub lc ho x (hsub x hx)
 simp only[GT.sz,Nat.mul_one] at LC;refine⟨k,Fy,hx.out,LC.om ho,hs,fun W' k' Fy' hc hk' hf=>?_⟩
 obtain⟨F2,h1,h2,h3⟩:=LC.back L W' k' Fy' ho hc hk' hf;have hb:∀ j,W'.cell? ⟨b,off+j,none⟩=W.cell? ⟨b,off+j,none⟩:=fun j=>World.cell?_of_block (hc.keep h.lt (fun e=>(hs g (List.mem_cons_self ..)).2 e.symm) (fun hm=>(hs b (List.mem_cons_of_mem _ hm)).2 rfl))
 refine⟨F2,h1,h.ch.trF h3 h.sub,fun x hx=>?_,fun j hj=>(hb j).trans (h.cl j hj)⟩
 rcases h2 x hx with h4|h4
 ·exact h.sub x h4
 ·rcases hf x h4 with h5|h5
  ·exact h.sub x (hs x (List.mem_cons_of_mem _ h5)).1
  ·exact .inr (Nat.le_trans h.ch.sz h5)
structure zCb (L b:Nat) (F:List Nat) (w W:World) (m:Machine) (F':List Nat):Prop where
 om:Om L W b 0 m F'
 ch:Chg b 0 7 F w W
 sub:∀ k∈F',k∈F\/w.heap.size<=k
 cl:∀ j,j≠6->W.cell? ⟨b,j,none⟩=w.cell? ⟨b,j,none⟩
theorem zBk.tb{L b:Nat}{F F':List Nat}{w W:World}{m:Machine}(h:zBk L b 0 F w W m F'):zCb L b F w W m F':=⟨h.om,h.ch,h.sub,fun j hj=>by simpa using h.cl j hj⟩
theorem zCb.tbo{L b:Nat}{F F':List Nat}{w W:World}{m:Machine}(h:zCb L b F w W m F'):zBk L b 0 F w W m F':=⟨h.om,h.ch,h.sub,fun j hj=>by simpa using h.cl j hj⟩
theorem zCb.refl{L b:Nat}{F:List Nat}{w:World}{m:Machine}(h:Om L w b 0 m F):zCb L b F w w m F:=(zBk.refl h).tb
theorem zCb.lt{L b:Nat}{F F':List Nat}{w W:World}{m:Machine}(h:zCb L b F w W m F'):b < W.heap.size:=h.om.bk.1
theorem zCb.ltF{L b:Nat}{F F':List Nat}{w W:World}{m:Machine}(h:zCb L b F w W m F'):∀ k∈F',k < W.heap.size:=h.tbo.ltF
theorem zCb.fz{L b:Nat}{F F':List Nat}{w W:World}{m:Machine}(h:zCb L b F w W m F'):∀ j,W.frozen? ⟨b,j,none⟩=false:=h.om.bk.2.2.2
theorem zCb.ext{L b:Nat}{F F':List Nat}{w W W':World}{m:Machine}(h:zCb L b F w W m F')(he:Ext W W'):zCb L b F w W' m F':=(h.tbo.ext he).tb
theorem zCb.trans{L b:Nat}{F F1 F2:List Nat}{w W W':World}{m m':Machine}(h:zCb L b F w W m F1)(k:zCb L b F1 W W' m' F2):zCb L b F w W' m' F2:=(h.tbo.trans k.tbo).tb
theorem zCb.bk{L b:Nat}{F F':List Nat}{w W:World}{m:Machine}(h:zCb L b F w W m F'){k:Nat}{cs:List Value}{T:TypeId}(hk:Bk w k cs T)(hb:k≠b)(hF:k ∉ F):Bk W k cs T:=h.ch.bk hk hb hF
theorem zCb.tick{L b:Nat}{F F':List Nat}{w W:World}{m:Machine}(h:zCb L b F w W m F')(u:Int)(hu:rng u):∃ F2,zCb L b F w (W.setCell ⟨b,6,none⟩ (.int .i64 u)) { m with Tick:=u } F2:=by
 obtain⟨F2,h2⟩:=h.tbo.tick u hu;exact⟨F2,by simpa using h2.tb⟩
theorem zCb.core{L b:Nat}{F F':List Nat}{w W:World}{m:Machine}(h:zCb L b F w W m F'){g s n c N:Nat}(hv:w.cell? ⟨b,4,none⟩=some (.slice (some ⟨g,s,none⟩) n c))(hN:N < m.Cores.length) :
  ∃ k Fy,m.Cores[N]? = some k/\Om L W g (s+N*3) k Fy/\(∀ x∈g::Fy,x∈F'/\x≠b) /\
   ∀ W' k' Fy',Chg g (s+N*3) 3 Fy W W'->Om L W' g (s+N*3) k' Fy'->(∀ x∈Fy',x∈Fy\/W.heap.size<=x)->∃ F2,zCb L b F w W' { m with Cores:=m.Cores.set N k' } F2:=by
 obtain⟨k,Fy,h1,h2,h3,h4⟩:=h.tbo.core (g:=g) (s:=s) (n:=n) (c:=c) (by simpa using hv) hN
 exact⟨k,Fy,h1,h2,h3,fun W' k' Fy' a b c=>(h4 W' k' Fy' a b c).imp fun _ h=>h.tb⟩
theorem zCb.hold{L b:Nat}{F F':List Nat}{w W:World}{m:Machine}(h:zCb L b F w W m F'){g s n c N:Nat}(hv:w.cell? ⟨b,5,none⟩=some (.slice (some ⟨g,s,none⟩) n c))(hN:N < m.Holds.length) :
  ∃ k Fy,m.Holds[N]? = some k/\Om L W g (s+N) k Fy/\(∀ x∈g::Fy,x∈F'/\x≠b) /\
   ∀ W' k' Fy',Chg g (s+N) 1 Fy W W'->Om L W' g (s+N) k' Fy'->(∀ x∈Fy',x∈Fy\/W.heap.size<=x)->∃ F2,zCb L b F w W' { m with Holds:=m.Holds.set N k' } F2:=by
 obtain⟨k,Fy,h1,h2,h3,h4⟩:=h.tbo.hold (g:=g) (s:=s) (n:=n) (c:=c) (by simpa using hv) hN
 exact⟨k,Fy,h1,h2,h3,fun W' k' Fy' a b c=>(h4 W' k' Fy' a b c).imp fun _ h=>h.tb⟩
theorem Om.openH{L:Nat}{w:World}{b o:Nat}{x:Hold}{F:List Nat}(h:Om L w b o x F):∃ v,w.cell? ⟨b,o,none⟩=some v/\Rv w (.agg #[v]) x:=by
 obtain⟨cs,he,hat,ho⟩:=h;obtain⟨v,rfl,hs⟩:=id he;exact⟨v,by simpa using hat 0 _ rfl,[v],F,rfl,he⟩
theorem Om.openHs{L:Nat}{w:World}{b o:Nat}{x:Hold}{F:List Nat}(h:Om L w b o x F):∃ a c,w.cell? ⟨b,o,none⟩=some (.slice a x.Lst.length c)/\Rv w (.agg #[.slice a x.Lst.length c]) x:=by
 obtain⟨cs,he,hat,ho⟩:=h;obtain⟨v,rfl,hs⟩:=id he;obtain⟨a,c,rfl,_⟩:=id hs;exact⟨a,c,by simpa using hat 0 _ rfl,_,F,rfl,he⟩
theorem Om.putHold{L M:Nat}{w W:World}{g o:Nat}{x y:Hold}{F G:List Nat}{v:Value}(h:Om L w g o x F)(he:Ext w W)(hL:L<=M)(hM:w.heap.size<=M)(hy:GT.enc W [v] y G)(hG:Own M W G) :
  Chg g o 1 F w (W.setCell ⟨g,o,none⟩ v)/\Om L (W.setCell ⟨g,o,none⟩ v) g o y G/\∀ k∈G,w.heap.size<=k:=by
 obtain⟨hlt,hLg,hgF,_⟩:=h.bk;obtain⟨u,hc,_⟩:=h.openH;have hgG:g ∉ G:=fun hm=>by have:=(hG.2 g hm).1;omega
 refine⟨(Chg.ofExt he hlt).set ⟨Nat.le_refl _,by omega⟩ v,⟨[v],GT.keep hy (fun k hk=>zA4 (fun e=>hgG (by have e:k=g:=e;rw[<- e];exact hk))),fun j u hj=>?_,List.nodup_cons.2 ⟨hgG,hG.1⟩,fun k hk=>?_⟩,fun k hk=>Nat.le_trans hM (hG.2 k hk).1⟩
 ·match j,hj with
  | 0,hj=>cases hj;exact zAw ((zA0 he hlt).trans hc)
 ·rcases List.mem_cons.1 hk with rfl|hk
  ·exact⟨hLg,(h.own0.ext he).set _ _⟩
  ·exact⟨Nat.le_trans hL (hG.2 k hk).1,(hG.2 k hk).2.set _ _⟩
end Sk
