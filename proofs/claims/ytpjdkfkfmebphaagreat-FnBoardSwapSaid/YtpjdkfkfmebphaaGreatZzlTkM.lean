/- Contracts of functions of the given program. -/
import Derived.Test.YtpjdkfkfmebphaaGreatZzbCwI
namespace Sk
open Go Go.Proofs Go.RowKit
set_option maxHeartbeats 1000000
set_option linter.unusedVariables false
set_option linter.unusedSimpArgs false
theorem zNz(cs:List Channel)(hs:List Hold)(n:Int)(c:Core)(o:Order)(k:Nat)(ch:Channel)(hk:cs[k]? = some ch)(h1:ch.From≠n)(h2:ch.To≠n):(zE5 cs hs n c o).2.1[k]? = hs[k]?:=by
 have hne:∀ ch',cs[o.A.toNat]? = some ch'->(ch'.From=n\/ch'.To=n)->o.A.toNat≠k:=fun ch' h3 h4 e=>by
  rw[e,hk] at h3;cases h3;exact h4.elim h1 h2
 unfold zE5
 split
 ·split
  ·split
   ·exact List.getElem?_set_ne (hne _ ‹_› (.inl ‹_›))
   ·rfl
  ·rfl
 split
 ·split
  ·split
   ·exact List.getElem?_set_ne (hne _ ‹_› (.inr ‹_›))
   ·rfl
  ·rfl
 ·rfl
theorem zJm(m:Machine)(k:Nat)(h1:(k:Int)≠zC8 m.Plan.Slots m.Tick):(zBd m).Cores[k]? = m.Cores[k]?:=by
 unfold zBd
 split
 ·rfl
 ·exact List.getElem?_set_ne (by omega)
set_option maxHeartbeats 4000000
set_option maxRecDepth 100000
theorem zPw(v:Value)(xs:List By)(w:World)(h:Rs w v xs) :
  Calls Tryz.prog 14 #[v] w fun e w' => ∃ v' x n,e = .returned (.tuple #[v',.int .i64 n])/\Rvb (α:=Machine) w.heap.size w' v' x/\GT.tot x<=200000/\(-1<=n/\n<=200000)/\Ext w w':=by
 have H:=zh h;clear h;go_enter Tryz.func14,Tryz.ntmps14;go_upto_region 1 with (fail)
 refine zA1 (fun W0=>Ext w W0/\Bk W0 w.heap.size [.slice none 0 0,.slice none 0 0,.slice none 0 0,.slice none 0 0,.slice none 0 0,.slice none 0 0,.int .i64 0] 32) ⟨(zr _).alloc _,Bk.new _ _ _⟩ ?_
 rintro W0 ⟨e0,kA⟩;have HE0:=zh e0;have KA:=zh kA;have hA:=kA.lt;clear e0 kA
 go_wp2_with (first
  | (go_at_call 19;refine(zIi _ _ _ (H.out.ext HE0.out)).mono ?_;rintro e w1 ⟨b,rfl,hb,he,hr⟩;have HE:=zh he;have hs1:=he.sz;have hb1:=hr.lt;have HR:Hid (Rd W0 w1 b (0+1300)):=zh (hr.le (by omega));clear he hr)
  | (go_at_call 18;refine(zIj W0 _ b 0 (HR.out.le (by omega))).mono ?_;rintro e w2 ⟨v2,x,n,rfl,hv,htt,hn,hm,hr⟩;obtain⟨p0,q0,p1,q1,p2,q2,p3,q3,p4,q4,p5,q5,rfl,-⟩:=hv.openMc;have KA2:=hm.bk (KA.out.ext HE.out) (by simp;omega);obtain⟨d0,d1,d2,d3,d4,d5,d6⟩:=Bk.k7 KA2;have df:=KA2.fz;have dl:=KA2.lt;have HV:=zh hv;have HTT:=zh htt;have HN:=zh hn;have HM2:=zh (hm.ext (HE0.out.tr HE.out) (by simp;omega));clear hm hr hv htt hn KA2))
 refine bodyPost_ret (v:=.tuple #[.agg #[.slice p0 x.Plan.Parts.length q0,.slice p1 x.Plan.Channels.length q1,.slice p2 x.Plan.Slots.length q2,.slice p3 x.Programs.length q3,.slice p4 x.Cores.length q4,.slice p5 x.Holds.length q5,.int .i64 x.Tick],.int .i64 n]) (by simp[results,Tryz.results14,go_sem,d0,d1,d2,d3,d4,d5,d6]) rfl ⟨_,x,n,rfl,?_,HTT.out,HN.out,?_⟩
 ·exact(Rvb.puts (A:=w.heap.size) (o:=0) (by omega) [.slice p0 x.Plan.Parts.length q0,.slice p1 x.Plan.Channels.length q1,.slice p2 x.Plan.Slots.length q2,.slice p3 x.Programs.length q3,.slice p4 x.Cores.length q4,.slice p5 x.Holds.length q5,.int .i64 x.Tick] HV.out).mono (by omega)
 ·exact Ext.puts (b:=w.heap.size) (o:=0) (Nat.le_refl _) [.slice p0 x.Plan.Parts.length q0,.slice p1 x.Plan.Channels.length q1,.slice p2 x.Plan.Slots.length q2,.slice p3 x.Programs.length q3,.slice p4 x.Cores.length q4,.slice p5 x.Holds.length q5,.int .i64 x.Tick] HM2.out
theorem zFl(v:Value)(xs:List By)(w:World)(h:Rs w v xs) :
  Calls Tryz.prog 5 #[v] w fun e w' => ∃ v' x n,e = .returned (.tuple #[v',.int .i64 n])/\Rvb (α:=Machine) w.heap.size w' v' x/\GT.tot x<=200000/\(-1<=n/\n<=200000)/\Ext w w':=by
 have H:=zh h;clear h;go_enter Tryz.func5,Tryz.ntmps5;go_upto_region 1 with (fail)
 refine zA1 (fun W0=>Ext w W0/\Bk W0 w.heap.size [.slice none 0 0,.slice none 0 0,.slice none 0 0,.slice none 0 0,.slice none 0 0,.slice none 0 0,.int .i64 0] 32) ⟨(zr _).alloc _,Bk.new _ _ _⟩ ?_
 rintro W0 ⟨e0,kA⟩;have HE0:=zh e0;have KA:=zh kA;have hA:=kA.lt;clear e0 kA
 go_wp2_with (first
  | (go_at_call 19;refine(zIi _ _ _ (H.out.ext HE0.out)).mono ?_;rintro e w1 ⟨b,rfl,hb,he,hr⟩;have HE:=zh he;have hs1:=he.sz;have hb1:=hr.lt;have HR:Hid (Rd W0 w1 b (0+1300)):=zh (hr.le (by omega));clear he hr)
  | (go_at_call 18;refine(zIj W0 _ b 0 (HR.out.le (by omega))).mono ?_;rintro e w2 ⟨v2,x,n,rfl,hv,htt,hn,hm,hr⟩;obtain⟨p0,q0,p1,q1,p2,q2,p3,q3,p4,q4,p5,q5,rfl,-⟩:=hv.openMc;have KA2:=hm.bk (KA.out.ext HE.out) (by simp;omega);obtain⟨d0,d1,d2,d3,d4,d5,d6⟩:=Bk.k7 KA2;have df:=KA2.fz;have dl:=KA2.lt;have HV:=zh hv;have HTT:=zh htt;have HN:=zh hn;have HM2:=zh (hm.ext (HE0.out.tr HE.out) (by simp;omega));clear hm hr hv htt hn KA2))
 refine bodyPost_ret (v:=.tuple #[.agg #[.slice p0 x.Plan.Parts.length q0,.slice p1 x.Plan.Channels.length q1,.slice p2 x.Plan.Slots.length q2,.slice p3 x.Programs.length q3,.slice p4 x.Cores.length q4,.slice p5 x.Holds.length q5,.int .i64 x.Tick],.int .i64 n]) (by simp[results,Tryz.results5,go_sem,d0,d1,d2,d3,d4,d5,d6]) rfl ⟨_,x,n,rfl,?_,HTT.out,HN.out,?_⟩
 ·exact(Rvb.puts (A:=w.heap.size) (o:=0) (by omega) [.slice p0 x.Plan.Parts.length q0,.slice p1 x.Plan.Channels.length q1,.slice p2 x.Plan.Slots.length q2,.slice p3 x.Programs.length q3,.slice p4 x.Cores.length q4,.slice p5 x.Holds.length q5,.int .i64 x.Tick] HV.out).mono (by omega)
 ·exact Ext.puts (b:=w.heap.size) (o:=0) (Nat.le_refl _) [.slice p0 x.Plan.Parts.length q0,.slice p1 x.Plan.Channels.length q1,.slice p2 x.Plan.Slots.length q2,.slice p3 x.Programs.length q3,.slice p4 x.Cores.length q4,.slice p5 x.Holds.length q5,.int .i64 x.Tick] HM2.out
set_option maxHeartbeats 1000000
theorem zN1(N:Int):∀ (cs:List Channel) (hs1 hs2:List Hold),hs1.length=hs2.length->(∀ (k:Nat) (c:Channel),cs[k]? = some c->c.To=N->hs1[k]? = hs2[k]?)->(cs.zip hs1).flatMap (zH7 N)=(cs.zip hs2).flatMap (zH7 N):=by
 intro cs
 induction cs with
 | nil=>intro hs1 hs2 _ _;simp
 | cons c cs ih =>
  intro hs1 hs2 hl hh;cases hs1 with
  | nil =>
   cases hs2 with
   | nil=>rfl
   | cons _ _=>simp at hl
  | cons x hs1 =>
   cases hs2 with
   | nil=>simp at hl
   | cons z hs2 =>
    have e:=ih hs1 hs2 (by simpa using hl) (fun k c hc ht=>by simpa using hh (k+1) c (by simpa using hc) ht)
    simp only[List.zip_cons_cons,List.flatMap_cons,e]
    congr 1
    by_cases ht:c.To=N
    ·have h0:=hh 0 c rfl ht;simp only[List.getElem?_cons_zero,Option.some.injEq] at h0;rw[h0]
    ·rw[zN2 ht,zN2 ht]
theorem zLk{a b:Machine}{N:Nat}(hc:a.Cores[N]? = b.Cores[N]?)(hp:a.Plan=b.Plan)(ht:a.Tick=b.Tick)(hl:a.Holds.length=b.Holds.length)(hh:∀ (k:Nat) (ch:Channel),a.Plan.Channels[k]? = some ch->ch.To=N->a.Holds[k]? = b.Holds[k]?):zBw a N=zBw b N:=by
 have e1:a.Cores.getD N zOr=b.Cores.getD N zOr:=by rw[List.getD_eq_getElem?_getD,List.getD_eq_getElem?_getD,hc]
 unfold zBw zFf zNo;rw[e1,ht,<- hp,zN1 N _ _ _ hl hh]
def zB8(m:Machine)(n:Nat)(k:Int):Prop:=∃ K:Nat,k=K/\(zBc m.Plan.Channels m.Cores.length n).getD K false=true
theorem zE9{m:Machine}{n:Nat}{k:Int}(h:zB8 m n k):k < m.Cores.length:=by
 obtain⟨K,rfl,h⟩:=h
 have:=zJp h
 rw[zC0] at this;omega
theorem zJf{m:Machine}{n:Nat}(h:n < m.Cores.length):zB8 m n n:=⟨n,rfl,zM4 _ h⟩
theorem zH0{m:Machine}{n:Nat}(hn:n < m.Cores.length){a b:Nat}(ha:a < m.Cores.length)(h:zB8 m n b)(hd:zFy m.Plan.Channels a b=true):zB8 m n a:=by
 have hb:=zE9 h;obtain⟨K,e,h⟩:=h;obtain rfl:b=K:=by omega
 exact⟨a,rfl,zG5 _ hn ha (by omega) h hd⟩
theorem zF5{m:Machine}{n k:Nat}(hn:n < m.Cores.length)(h:zB8 m n k){j:Int}(hj:zB8 m k j):zB8 m n j:=by
 obtain⟨K,e,h⟩:=h;obtain rfl:k=K:=by omega
 obtain⟨J,rfl,hj⟩:=hj;exact⟨J,rfl,zLd _ hn hj h⟩
theorem zF4{a b:Machine}(hp:a.Plan=b.Plan)(hc:a.Cores.length=b.Cores.length)(n:Nat)(k:Int):zB8 a n k ↔ zB8 b n k:=by
 unfold zB8;rw[hp,hc]
structure zGd (a b:Machine) (n:Nat):Prop where
 ma:zBl a
 mb:zBl b
 hn:n < a.Cores.length
 tick:a.Tick=b.Tick
 plan:a.Plan=b.Plan
 progs:∀ k:Nat,zB8 a n k->a.Programs[k]? = b.Programs[k]?
 cores:∀ k:Nat,zB8 a n k->a.Cores[k]? = b.Cores[k]?
 holds:∀ (k:Nat) (ch:Channel),a.Plan.Channels[k]? = some ch->zB8 a n ch.To->a.Holds[k]? = b.Holds[k]?
noncomputable def zH4(a b:Machine)(n:Int):Bool:=Bo (∃ N:Nat,n=N/\zGd a b N)
theorem zEp{a b:Machine}{N:Nat}:zH4 a b N=true ↔ zGd a b N:=by
 unfold zH4;rw[Bo.iff];constructor
 ·rintro⟨K,e,h⟩;obtain rfl:N=K:=by omega
  exact h
 ·exact fun h=>⟨N,rfl,h⟩
theorem zGd.nc{a b:Machine}{n:Nat}(h:zGd a b n):a.Cores.length=b.Cores.length:=by rw[h.ma.nc,h.mb.nc,h.plan]
theorem zGd.near{a b:Machine}{n:Nat}(h:zGd a b n)(k:Int):zB8 b n k ↔ zB8 a n k:=zF4 h.plan.symm h.nc.symm n k
theorem zGd.symm{a b:Machine}{n:Nat}(h:zGd a b n):zGd b a n where
 ma:=h.mb
 mb:=h.ma
 hn:=by rw[<- h.nc];exact h.hn
 tick:=h.tick.symm
 plan:=h.plan.symm
 progs:=fun k hk=>(h.progs k ((h.near k).1 hk)).symm
 cores:=fun k hk=>(h.cores k ((h.near k).1 hk)).symm
 holds:=fun k ch hc hk=>(h.holds k ch (by rw[h.plan];exact hc) ((h.near _).1 hk)).symm
theorem zGd.inner{a b:Machine}{n k:Nat}(h:zGd a b n)(hk:zB8 a n k):zGd a b k where
 ma:=h.ma
 mb:=h.mb
 hn:=by have:=zE9 hk;omega
 tick:=h.tick
 plan:=h.plan
 progs:=fun j hj=>h.progs j (zF5 h.hn hk hj)
 cores:=fun j hj=>h.cores j (zF5 h.hn hk hj)
 holds:=fun j ch hc hj=>h.holds j ch hc (zF5 h.hn hk hj)
theorem zGd.nh{a b:Machine}{n:Nat}(h:zGd a b n):a.Holds.length=b.Holds.length:=by rw[h.ma.nh,h.mb.nh,h.plan]
theorem zGd.view{a b:Machine}{n:Nat}(h:zGd a b n):zBw a n=zBw b n :=
 zLk (h.cores n (zJf h.hn)) h.plan h.tick h.nh (fun k ch hc ht=>h.holds k ch hc (by rw[ht];exact zJf h.hn))
theorem zGd.act{a b:Machine}{n:Nat}(h:zGd a b n){j:Nat}(hj:zB8 a n j):zBa a j=zBa b j/\(zBn a j).1=(zBn b j).1/\∀ (k:Nat) (ch:Channel),a.Plan.Channels[k]? = some ch->zB8 a n ch.To->(zBn a j).2.1[k]? = (zBn b j).2.1[k]?:=by
 have e0:zBa a j=zBa b j:=by
  unfold zBa;rw[List.getD_eq_getElem?_getD,List.getD_eq_getElem?_getD,List.getD_eq_getElem?_getD,List.getD_eq_getElem?_getD,h.cores j hj,h.progs j hj,h.plan,h.tick]
 refine⟨e0,?_⟩;unfold zBn;rw[<- e0,<- h.plan];have hjl:j < a.Cores.length:=by have:=zE9 hj;omega
 -- what flows
 have hin:∀ (k:Nat) (ch:Channel),a.Plan.Channels[k]? = some ch->ch.To=j->zB8 a n ch.To:=fun k ch _ e=>by rw[e];exact hj
 have hcr:∀ (k:Nat) (ch:Channel),a.Plan.Channels[k]? = some ch->ch.From=j->ch.Kind=3->zB8 a n ch.To:=fun k ch hc e h3=>by
  obtain⟨x,y,e1,e2,h1,h2⟩:=zLa h.ma.pg.set (List.mem_of_getElem? hc);rw[e2];refine zH0 h.hn (by rw[h.ma.nc];exact h2) hj ?_
  unfold zFy;rw[Bool.or_eq_true,List.any_eq_true];refine .inr ⟨ch,List.mem_of_getElem? hc,?_⟩;unfold zO3;rw[e,e2,h3];simp
 have hget:∀ (k:Nat) (ch:Channel),a.Plan.Channels[k]? = some ch->zB8 a n ch.To->a.Holds.getD k ⟨[]⟩=b.Holds.getD k ⟨[]⟩:=fun k ch hc hk=>by
  rw[List.getD_eq_getElem?_getD,List.getD_eq_getElem?_getD,h.holds k ch hc hk]
 have hset:∀ (k i:Nat) (ch:Channel) (x y:Hold),a.Plan.Channels[k]? = some ch->zB8 a n ch.To->(i=k->x=y)->(a.Holds.set i x)[k]? = (b.Holds.set i y)[k]?:=fun k i ch x y hc hk hxy=>by
  by_cases e:i=k
  ·rw[hxy e,List.getElem?_set,List.getElem?_set,h.nh,h.holds k ch hc hk]
  ·rw[List.getElem?_set_ne e,List.getElem?_set_ne e];exact h.holds k ch hc hk
 generalize (zBa a j).1=c
 generalize (zBa a j).2=o
 unfold zE5;by_cases h5:o.Op=5
 ·rw[if_pos h5,if_pos h5];cases hc:a.Plan.Channels[o.A.toNat]? with
  | none=>exact⟨rfl,fun k ch hk hn=>h.holds k ch hk hn⟩
  | some ch =>
   by_cases hf:ch.From=j
   ·simp only[if_pos hf];refine⟨?_,fun k c2 hk hn=>hset k _ c2 _ _ hk hn fun e=>?_⟩
    ·by_cases h3:ch.Kind=3
     ·rw[hget _ ch hc (hcr _ ch hc hf h3)]
     ·rw[zH5 rfl h3 rfl rfl,zH5 rfl h3 rfl rfl]
    ·subst e;rw[hk] at hc;obtain rfl:=Option.some.inj hc;rw[hget _ _ hk hn]
   ·simp only[if_neg hf];exact⟨trivial,fun k ch hk hn=>h.holds k ch hk hn⟩
 rw[if_neg h5,if_neg h5];by_cases h6:o.Op=6
 ·rw[if_pos h6,if_pos h6];cases hc:a.Plan.Channels[o.A.toNat]? with
  | none=>exact⟨rfl,fun k ch hk hn=>h.holds k ch hk hn⟩
  | some ch =>
   by_cases hf:ch.To=j
   ·simp only[if_pos hf];rw[hget _ ch hc (hin _ ch hc hf)];exact⟨rfl,fun k c2 hk hn=>hset k _ c2 _ _ hk hn fun _=>rfl⟩
   ·simp only[if_neg hf];exact⟨trivial,fun k ch hk hn=>h.holds k ch hk hn⟩
 rw[if_neg h6,if_neg h6];exact⟨rfl,fun k ch hk hn=>h.holds k ch hk hn⟩
theorem zGd.far{a b:Machine}{n:Nat}(h:zGd a b n){m:Machine}(hm:m=a\/m=b){j:Nat}(hjl:j < a.Cores.length)(hj:¬ zB8 a n j)(k:Nat)(ch:Channel)(hc:a.Plan.Channels[k]? = some ch)(hn:zB8 a n ch.To):(zBn m j).2.1[k]? = m.Holds[k]?:=by
 have hp:m.Plan=a.Plan:=hm.elim (fun e=>e ▸ rfl) (fun e=>e ▸ h.plan.symm)
 unfold zBn;rw[hp];refine zNz _ _ _ _ _ k ch hc (fun e=>hj ?_) (fun e=>hj ?_)
 ·obtain⟨x,y,e1,e2,h1,h2⟩:=zLa h.ma.pg.set (List.mem_of_getElem? hc);rw[e2] at hn;refine zH0 h.hn hjl hn ?_;unfold zFy;rw[Bool.or_eq_true,List.any_eq_true];refine .inr ⟨ch,List.mem_of_getElem? hc,?_⟩;unfold zO3;rw[e,e2];simp
 ·rw[<- e];exact hn
theorem zGd.tickS{a b:Machine}{n:Nat}(h:zGd a b n)(ht:a.Tick < 100000):zGd (zBd a) (zBd b) n:=by
 have hn:∀ j,zB8 (zBd a) n j ↔ zB8 a n j:=zF4 (zDr a) (zFd a) n;have hw:zC8 a.Plan.Slots a.Tick=zC8 b.Plan.Slots b.Tick:=by rw[h.plan,h.tick]
 refine { ma:=zJl h.ma ht,mb:=zJl h.mb (by rw[<- h.tick];exact ht),hn:=by rw[zFd];exact h.hn,tick:=by rw[zGi,zGi,h.tick],plan:=by rw[zDr,zDr,h.plan],progs:=fun k hk=>?_,cores:=fun k hk=>?_,holds:=fun k ch hc hk=>?_ }
 ·rw[zFe,zFe];exact h.progs k ((hn _).1 hk)
 ·have hk':=(hn _).1 hk;by_cases e:(k:Int)=zC8 a.Plan.Slots a.Tick
  ·rw[zCx e.symm,zCx (hw ▸ e.symm)]
   show(a.Cores.set k (zBn a k).1)[k]? = (b.Cores.set k (zBn b k).1)[k]?
   have hl:k < a.Cores.length:=by have:=zE9 hk';omega
   rw[List.getElem?_set_self hl,List.getElem?_set_self (by rw[<- h.nc];exact hl),(h.act hk').2.1]
  ·rw[zJm a k e,zJm b k (by rw[<- hw];exact e)];exact h.cores k hk'
 ·have hk':=(hn _).1 hk;rw[zDr] at hc;rcases h.ma.who a.Tick with e | ⟨j,e,hj⟩
  ·rw[zEq (by omega),zEq (by rw[<- hw];omega)];exact h.holds k ch hc hk'
  ·rw[zCx e,zCx (hw ▸ e)]
   show(zBn a j).2.1[k]? = (zBn b j).2.1[k]?
   by_cases hjn:zB8 a n j
   ·exact(h.act hjn).2.2 k ch hc hk'
   ·rw[h.far (.inl rfl) hj hjn k ch hc hk',h.far (.inr rfl) hj hjn k ch hc hk'];exact h.holds k ch hc hk'
theorem zGd.runS{a b:Machine}{n:Nat}(h:zGd a b n):∀ T:Nat,a.Tick+T<=100000->zGd (zC1 a T) (zC1 b T) n:=by
 intro T
 induction T with
 | zero=>intro _;exact h
 | succ T ih =>
  intro ht
  have:=ih (by omega)
  exact this.tickS (by rw[(zEo h.ma T (by omega)).2.1];omega)
end Sk
