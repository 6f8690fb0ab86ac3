/- Contracts of functions of the given program. -/
import Derived.Test.YtcghnbjifpfbjaaGreatZxMch
namespace Sk
open Go Go.Proofs Go.RowKit
set_option maxHeartbeats 4000000
set_option maxRecDepth 100000
set_option linter.unusedVariables false
set_option linter.unusedSimpArgs false
theorem Rvb.openMc{L:Nat}{w:World}{v:Value}{x:Machine}(h:Rvb L w v x):∃ p0 q0 p1 q1 p2 q2 p3 q3 p4 q4 p5 q5,v = .agg #[.slice p0 x.Plan.Parts.length q0,.slice p1 x.Plan.Channels.length q1,.slice p2 x.Plan.Slots.length q2,.slice p3 x.Programs.length q3,.slice p4 x.Cores.length q4,.slice p5 x.Holds.length q5,.int .i64 x.Tick]/\x.Cores.length<=9223372036854775807:=by
 obtain⟨cs,F,rfl,⟨v0,v1,v2,v3,v4,v5,F0,F1,F2,F3,F4,F5,rfl,⟨_,_,rfl,_⟩,⟨_,_,rfl,_⟩,⟨_,_,rfl,_⟩,⟨_,_,rfl,_⟩,h4,⟨_,_,rfl,_⟩,_⟩,_⟩:=h;obtain⟨a4,c4,rfl,g4⟩:=Rs.form ⟨_,h4⟩;exact⟨_,_,_,_,_,_,_,_,_,_,_,_,rfl,g4⟩
theorem zLf(W w:World)(b m:Nat)(h:Rd W w b (m+1200)) :
  Calls Tryz.prog 45 #[.pointer (some ⟨b,0,none⟩)] w fun e w' => ∃ v' x n,e = .returned (.tuple #[v',.int .i64 n])/\Rvb (α:=Machine) w.heap.size w' v' x/\GT.tot x<=200000/\(-1<=n/\n<=200000)/\Mw [b] w w'/\Rd W w' b m:=by
 have H:=zh h;have hbl:=h.lt;have hbW:=h.1;have hWw:=h.2.1.sz;clear h;go_enter Tryz.func45,Tryz.ntmps45;go_upto_region 1 with (fail)
 refine zA1 (fun W0=>Ext w W0/\Bk W0 w.heap.size [.slice none 0 0,.slice none 0 0,.slice none 0 0,.slice none 0 0,.slice none 0 0,.slice none 0 0,.int .i64 0] 32) ⟨(zr _).alloc _,Bk.new _ _ _⟩ ?_
 rintro W0 ⟨e0,kA⟩;have HE0:=zh e0;have KA:=zh kA;have hA:=kA.lt;clear e0 kA;go_upto_region 2 with (go_at_call 88;refine(zJ8 W _ b (m+100) 14 (H.out.ext HE0.out) ⟨by omega,by omega⟩).mono ?_;rintro e w1 ⟨v1,x,rfl,hv,htt,-,hm,hr⟩;obtain⟨p0,q0,p1,q1,p2,q2,p3,q3,p4,q4,p5,q5,rfl,hcl⟩:=hv.openMc;have KA1:=zh (hm.bk KA.out (by simp;omega));have HV:=zh (hv.mono (L':=w.heap.size+1) (by omega));have HTT:=zh htt;have MW:=zh ((Mw.ofExt HE0.out).tr hm);have RD:=zh hr;clear hm hr hv htt)
 have hxc:x.Cores.length<=200000:=by
  have h1:=zD7 x;have h2:=zBd (xs:=x.Cores)
  have:=HTT.out
  omega
 obtain⟨B,hB⟩:∃ B,B=w1.heap.size:=⟨_,rfl⟩;have hAB:w.heap.size < B:=by have:=KA1.out.lt;omega
 refine zA1 (fun u=>Ext w1 u/\Bk u B [.slice p0 x.Plan.Parts.length q0,.slice p1 x.Plan.Channels.length q1,.slice p2 x.Plan.Slots.length q2,.slice p3 x.Programs.length q3,.slice p4 x.Cores.length q4,.slice p5 x.Holds.length q5,.int .i64 x.Tick] 32) ⟨(zr _).alloc _,by rw[hB];exact Bk.new _ _ _⟩ ?_
 rw[<- hB];clear hB;rintro W2 ⟨e2,kB⟩;have ltB:=kB.lt;obtain⟨f0,f1,f2,f3,f4,f5,f6⟩:=Bk.k7 kB;have MW2:=zh (MW.out.tr (Mw.ofExt e2));have KA2:=zh (KA1.out.ext e2);have HV2:=zh (HV.out.ext e2);have RD2:Hid (Rd W W2 b (m+98+1+1)):=zh ((RD.out.ext e2).le (by omega))
 have hbB:B ∉ [b]:=by simp;omega
 have hbA:w.heap.size ∉ [b]:=by simp;omega
 have KB2:=zh kB;have hneA:B≠w.heap.size:=by omega
 clear e2 kB KA1 MW HV RD KA H;have hwr:IntKind.i64.wrap ((x.Cores.length:Int)+1)=(x.Cores.length:Int)+1:=zD1 (by omega) (by omega)
 go_region_held3 (fun u=>u.cell? ⟨B,0,none⟩=some (.slice p0 x.Plan.Parts.length q0)/\u.cell? ⟨B,1,none⟩=some (.slice p1 x.Plan.Channels.length q1)/\u.cell? ⟨B,2,none⟩=some (.slice p2 x.Plan.Slots.length q2)/\u.cell? ⟨B,3,none⟩=some (.slice p3 x.Programs.length q3)/\u.cell? ⟨B,4,none⟩=some (.slice p4 x.Cores.length q4)/\u.cell? ⟨B,5,none⟩=some (.slice p5 x.Holds.length q5)/\u.cell? ⟨B,6,none⟩=some (.int .i64 x.Tick))
  (first
   | go_keep
   | exact⟨(KB4.out.puts_ne (b:=B) (c:=w.heap.size) (o:=0) (ds:=[.slice p0 x.Plan.Parts.length q0,.slice p1 x.Plan.Channels.length q1,.slice p2 x.Plan.Slots.length q2,.slice p3 x.Programs.length q3,.slice p4 x.Cores.length q4,.slice p5 x.Holds.length q5,.int .i64 x.Tick]) hneA).cell (j:=0) rfl,(KB4.out.puts_ne (b:=B) (c:=w.heap.size) (o:=0) (ds:=[.slice p0 x.Plan.Parts.length q0,.slice p1 x.Plan.Channels.length q1,.slice p2 x.Plan.Slots.length q2,.slice p3 x.Programs.length q3,.slice p4 x.Cores.length q4,.slice p5 x.Holds.length q5,.int .i64 x.Tick]) hneA).cell (j:=1) rfl,(KB4.out.puts_ne (b:=B) (c:=w.heap.size) (o:=0) (ds:=[.slice p0 x.Plan.Parts.length q0,.slice p1 x.Plan.Channels.length q1,.slice p2 x.Plan.Slots.length q2,.slice p3 x.Programs.length q3,.slice p4 x.Cores.length q4,.slice p5 x.Holds.length q5,.int .i64 x.Tick]) hneA).cell (j:=2) rfl,(KB4.out.puts_ne (b:=B) (c:=w.heap.size) (o:=0) (ds:=[.slice p0 x.Plan.Parts.length q0,.slice p1 x.Plan.Channels.length q1,.slice p2 x.Plan.Slots.length q2,.slice p3 x.Programs.length q3,.slice p4 x.Cores.length q4,.slice p5 x.Holds.length q5,.int .i64 x.Tick]) hneA).cell (j:=3) rfl,(KB4.out.puts_ne (b:=B) (c:=w.heap.size) (o:=0) (ds:=[.slice p0 x.Plan.Parts.length q0,.slice p1 x.Plan.Channels.length q1,.slice p2 x.Plan.Slots.length q2,.slice p3 x.Programs.length q3,.slice p4 x.Cores.length q4,.slice p5 x.Holds.length q5,.int .i64 x.Tick]) hneA).cell (j:=4) rfl,(KB4.out.puts_ne (b:=B) (c:=w.heap.size) (o:=0) (ds:=[.slice p0 x.Plan.Parts.length q0,.slice p1 x.Plan.Channels.length q1,.slice p2 x.Plan.Slots.length q2,.slice p3 x.Programs.length q3,.slice p4 x.Cores.length q4,.slice p5 x.Holds.length q5,.int .i64 x.Tick]) hneA).cell (j:=5) rfl,(KB4.out.puts_ne (b:=B) (c:=w.heap.size) (o:=0) (ds:=[.slice p0 x.Plan.Parts.length q0,.slice p1 x.Plan.Channels.length q1,.slice p2 x.Plan.Slots.length q2,.slice p3 x.Programs.length q3,.slice p4 x.Cores.length q4,.slice p5 x.Holds.length q5,.int .i64 x.Tick]) hneA).cell (j:=6) rfl⟩)
  (first
   | (go_at_call 49;refine(zA9 W _ b (m+98+1) _ (RD2.out.ext (zr W2).drew) (zAg (by omega) (by omega))).mono ?_;rintro e w3 ⟨k,rfl,hk,hm,hr⟩;have hkb:=hk.lt (by omega);have M3:=zh ((Mw.ofExt (F:=[b]) (zr W2).drew).tr (Mw.ofMo hm));have RD3:=zh hr;have KB3:=zh (M3.out.bk KB2.out hbB);obtain⟨g0,g1,g2,g3,g4,g5,g6⟩:=Bk.k7 KB3.out;have ltB3:=KB3.out.lt;clear hk hm hr)
   | (go_at_call 49;refine(zA9 W _ b (m+98) _ RD3.out (zAg (by omega) (by omega))).mono ?_;rintro e w4 ⟨k2,rfl,hk,hm,hr⟩;have hkb2:=hk.lt (by omega);have M4:=zh (M3.out.tr (Mw.ofMo hm));have RD4:=zh hr;have KA4:=zh (M4.out.bk KA2.out hbA);have KB4:=zh (M4.out.bk KB2.out hbB);obtain⟨h0,h1,h2,h3,h4,h5,h6⟩:=Bk.k7 KB4.out;have ltB4:=KB4.out.lt;obtain⟨z0,z1,z2,z3,z4,z5,z6⟩:=Bk.k7 KA4.out;have zf:=KA4.out.fz;have ltZ:=KA4.out.lt;clear hk hm hr))
 obtain⟨j1,j2⟩:=hkb2;obtain⟨j3,j4⟩:=hkb;have hq:0<=k2.tdiv 13/\k2.tdiv 13<=1:=by rw[Int.tdiv_eq_ediv_of_nonneg j1];omega
 obtain⟨q,hq0⟩:∃ q,k2.tdiv 13=q:=⟨_,rfl⟩;rw[hq0] at hq ⊢;have hw1:IntKind.i64.wrap q=q:=zD1 (by omega) (by omega)
 rw[hw1];have hw2:IntKind.i64.wrap (k - q)=k - q:=zD1 (by omega) (by omega)
 rw[hw2];obtain⟨n,hn⟩:∃ n,k - q=n:=⟨_,rfl⟩;have hnb : -1<=n/\n<=200000:=by omega
 rw[hn];clear hn hq0 hw1 hw2 hwr;clear f0 f1 f2 f3 f4 f5 f6 g0 g1 g2 g3 g4 g5 g6 h0 h1 h2 h3 h4 h5 h6;go_wp2;refine bodyPost_ret (v:=.tuple #[.agg #[.slice p0 x.Plan.Parts.length q0,.slice p1 x.Plan.Channels.length q1,.slice p2 x.Plan.Slots.length q2,.slice p3 x.Programs.length q3,.slice p4 x.Cores.length q4,.slice p5 x.Holds.length q5,.int .i64 x.Tick],.int .i64 n]) (by simp[results,Tryz.results45,go_sem,z0,z1,z2,z3,z4,z5,z6]) rfl ⟨_,x,n,rfl,?_,HTT.out,hnb,?_,?_⟩
 ·exact(Rvb.puts (A:=w.heap.size) (o:=0) (by omega) [.slice p0 x.Plan.Parts.length q0,.slice p1 x.Plan.Channels.length q1,.slice p2 x.Plan.Slots.length q2,.slice p3 x.Programs.length q3,.slice p4 x.Cores.length q4,.slice p5 x.Holds.length q5,.int .i64 x.Tick] (HV2.out.mw M4.out (by simp;omega))).mono (by omega)
 ·exact Mw.puts (b:=w.heap.size) (o:=0) (.inr (Nat.le_refl _)) [.slice p0 x.Plan.Parts.length q0,.slice p1 x.Plan.Channels.length q1,.slice p2 x.Plan.Slots.length q2,.slice p3 x.Programs.length q3,.slice p4 x.Cores.length q4,.slice p5 x.Holds.length q5,.int .i64 x.Tick] (MW2.out.tr M4.out)
 ·exact(Rd.puts (c:=w.heap.size) (o:=0) (by omega) (by omega) [.slice p0 x.Plan.Parts.length q0,.slice p1 x.Plan.Channels.length q1,.slice p2 x.Plan.Slots.length q2,.slice p3 x.Programs.length q3,.slice p4 x.Cores.length q4,.slice p5 x.Holds.length q5,.int .i64 x.Tick] RD4.out).le (by omega)
set_option maxHeartbeats 1000000
theorem zMj(cs:List Channel)(hs:List Hold)(n:Int)(c:Core)(o:Order)(k:Nat)(ch:Channel)(hk:cs[k]? = some ch)(h1:ch.From≠n)(h2:ch.To≠n):(zDt cs hs n c o).2.1[k]? = hs[k]?:=by
 have hne:∀ ch',cs[o.A.toNat]? = some ch'->(ch'.From=n\/ch'.To=n)->o.A.toNat≠k:=fun ch' h3 h4 e=>by
  rw[e,hk] at h3;cases h3;exact h4.elim h1 h2
 unfold zDt
 split
 ·split
  ·split
   ·exact List.getElem?_set_ne (hne _ ‹_› (.inl ‹_›))
   ·rfl
  ·rfl
 split
 ·split
  ·split
   ·exact List.getElem?_set_ne (hne _ ‹_› (.inr ‹_›))
   ·rfl
  ·rfl
 ·rfl
theorem zIp(m:Machine)(k:Nat)(h1:(k:Int)≠zCs m.Plan.Slots m.Tick):(zB9 m).Cores[k]? = m.Cores[k]?:=by
 unfold zB9
 split
 ·rfl
 ·exact List.getElem?_set_ne (by omega)
theorem zLq(N:Int):∀ (cs:List Channel) (hs1 hs2:List Hold),hs1.length=hs2.length->(∀ (k:Nat) (c:Channel),cs[k]? = some c->c.To=N->hs1[k]? = hs2[k]?)->(cs.zip hs1).flatMap (zE2 N)=(cs.zip hs2).flatMap (zE2 N):=by
 intro cs
 induction cs with
 | nil=>intro hs1 hs2 _ _;simp
 | cons c cs ih =>
  intro hs1 hs2 hl hh;cases hs1 with
  | nil =>
   cases hs2 with
   | nil=>rfl
   | cons _ _=>simp at hl
  | cons x hs1 =>
   cases hs2 with
   | nil=>simp at hl
   | cons z hs2 =>
    have e:=ih hs1 hs2 (by simpa using hl) (fun k c hc ht=>by simpa using hh (k+1) c (by simpa using hc) ht)
    simp only[List.zip_cons_cons,List.flatMap_cons,e]
    congr 1
    by_cases ht:c.To=N
    ·have h0:=hh 0 c rfl ht;simp only[List.getElem?_cons_zero,Option.some.injEq] at h0;rw[h0]
    ·rw[zIr ht,zIr ht]
theorem zKf{a b:Machine}{N:Nat}(hc:a.Cores[N]? = b.Cores[N]?)(hp:a.Plan=b.Plan)(ht:a.Tick=b.Tick)(hl:a.Holds.length=b.Holds.length)(hh:∀ (k:Nat) (ch:Channel),a.Plan.Channels[k]? = some ch->ch.To=N->a.Holds[k]? = b.Holds[k]?):zAz a N=zAz b N:=by
 have e1:a.Cores.getD N M.cz=b.Cores.getD N M.cz:=by rw[List.getD_eq_getElem?_getD,List.getD_eq_getElem?_getD,hc]
 unfold zAz zDl zKg;rw[e1,ht,<- hp,zLq N _ _ _ hl hh]
def zB3(m:Machine)(n:Nat)(k:Int):Prop:=∃ K:Nat,k=K/\(zBf m.Plan.Channels m.Cores.length n).getD K false=true
theorem zD4{m:Machine}{n:Nat}{k:Int}(h:zB3 m n k):k < m.Cores.length:=by
 obtain⟨K,rfl,h⟩:=h
 have:=zIt h
 rw[zCb] at this;omega
theorem zIj{m:Machine}{n:Nat}(h:n < m.Cores.length):zB3 m n n:=⟨n,rfl,zKy _ h⟩
theorem zGd{m:Machine}{n:Nat}(hn:n < m.Cores.length){a b:Nat}(ha:a < m.Cores.length)(h:zB3 m n b)(hd:zFh m.Plan.Channels a b=true):zB3 m n a:=by
 have hb:=zD4 h;obtain⟨K,e,h⟩:=h;obtain rfl:b=K:=by omega
 exact⟨a,rfl,zFl _ hn ha (by omega) h hd⟩
theorem zEp{m:Machine}{n k:Nat}(hn:n < m.Cores.length)(h:zB3 m n k){j:Int}(hj:zB3 m k j):zB3 m n j:=by
 obtain⟨K,e,h⟩:=h;obtain rfl:k=K:=by omega
 obtain⟨J,rfl,hj⟩:=hj;exact⟨J,rfl,zK9 _ hn hj h⟩
theorem zHh{a b:Machine}(hp:a.Plan=b.Plan)(hc:a.Cores.length=b.Cores.length)(n:Nat)(k:Int):zB3 a n k ↔ zB3 b n k:=by
 unfold zB3;rw[hp,hc]
structure zFg (a b:Machine) (n:Nat):Prop where
 ma:zCg a
 mb:zCg b
 hn:n < a.Cores.length
 tick:a.Tick=b.Tick
 plan:a.Plan=b.Plan
 progs:∀ k:Nat,zB3 a n k->a.Programs[k]? = b.Programs[k]?
 cores:∀ k:Nat,zB3 a n k->a.Cores[k]? = b.Cores[k]?
 holds:∀ (k:Nat) (ch:Channel),a.Plan.Channels[k]? = some ch->zB3 a n ch.To->a.Holds[k]? = b.Holds[k]?
noncomputable def zBx(a b:Machine)(n:Int):Bool:=Bo (∃ N:Nat,n=N/\zFg a b N)
theorem zD6{a b:Machine}{N:Nat}:zBx a b N=true ↔ zFg a b N:=by
 unfold zBx;rw[Bo.iff];constructor
 ·rintro⟨K,e,h⟩;obtain rfl:N=K:=by omega
  exact h
 ·exact fun h=>⟨N,rfl,h⟩
theorem zFg.nc{a b:Machine}{n:Nat}(h:zFg a b n):a.Cores.length=b.Cores.length:=by rw[h.ma.nc,h.mb.nc,h.plan]
theorem zFg.near{a b:Machine}{n:Nat}(h:zFg a b n)(k:Int):zB3 b n k ↔ zB3 a n k:=zHh h.plan.symm h.nc.symm n k
theorem zFg.symm{a b:Machine}{n:Nat}(h:zFg a b n):zFg b a n where
 ma:=h.mb
 mb:=h.ma
 hn:=by rw[<- h.nc];exact h.hn
 tick:=h.tick.symm
 plan:=h.plan.symm
 progs:=fun k hk=>(h.progs k ((h.near k).1 hk)).symm
 cores:=fun k hk=>(h.cores k ((h.near k).1 hk)).symm
 holds:=fun k ch hc hk=>(h.holds k ch (by rw[h.plan];exact hc) ((h.near _).1 hk)).symm
theorem zJd(a b:Machine)(n:Int):zBx a b n=zBx b a n:=by
 have key:∀ a b:Machine,zBx a b n=true->zBx b a n=true:=fun a b h=>by
  obtain⟨N,e,h'⟩:=Bo.iff.1 h;rw[e];exact zD6.2 h'.symm
 cases h1:zBx a b n
 ·cases h2:zBx b a n
  ·rfl
  ·exact absurd (key _ _ h2) (by rw[h1];decide)
 ·exact(key _ _ h1).symm
theorem zFg.inner{a b:Machine}{n k:Nat}(h:zFg a b n)(hk:zB3 a n k):zFg a b k where
 ma:=h.ma
 mb:=h.mb
 hn:=by have:=zD4 hk;omega
 tick:=h.tick
 plan:=h.plan
 progs:=fun j hj=>h.progs j (zEp h.hn hk hj)
 cores:=fun j hj=>h.cores j (zEp h.hn hk hj)
 holds:=fun j ch hc hj=>h.holds j ch hc (zEp h.hn hk hj)
theorem zFg.nh{a b:Machine}{n:Nat}(h:zFg a b n):a.Holds.length=b.Holds.length:=by rw[h.ma.nh,h.mb.nh,h.plan]
theorem zFg.view{a b:Machine}{n:Nat}(h:zFg a b n):zAz a n=zAz b n :=
 zKf (h.cores n (zIj h.hn)) h.plan h.tick h.nh (fun k ch hc ht=>h.holds k ch hc (by rw[ht];exact zIj h.hn))
theorem zFg.sameView{a b:Machine}{n:Nat}(h:zFg a b n):zB0 a b n=true:=by
 have h1:zBp a n=true:=zBz.2 ⟨h.ma,by omega,by have:=h.hn;omega⟩
 have h2:zBp b n=true:=zBz.2 ⟨h.mb,by omega,by have:=h.hn;have:=h.nc;omega⟩
 unfold zB0;rw[h1,h2,Int.toNat_natCast,h.view,Eqb.t rfl]
 rfl
theorem zFg.act{a b:Machine}{n:Nat}(h:zFg a b n){j:Nat}(hj:zB3 a n j):zBg a j=zBg b j/\(zBt a j).1=(zBt b j).1/\∀ (k:Nat) (ch:Channel),a.Plan.Channels[k]? = some ch->zB3 a n ch.To->(zBt a j).2.1[k]? = (zBt b j).2.1[k]?:=by
 have e0:zBg a j=zBg b j:=by
  unfold zBg;rw[List.getD_eq_getElem?_getD,List.getD_eq_getElem?_getD,List.getD_eq_getElem?_getD,List.getD_eq_getElem?_getD,h.cores j hj,h.progs j hj,h.plan,h.tick]
 refine⟨e0,?_⟩;unfold zBt;rw[<- e0,<- h.plan];have hjl:j < a.Cores.length:=by have:=zD4 hj;omega
 -- what flows
 have hin:∀ (k:Nat) (ch:Channel),a.Plan.Channels[k]? = some ch->ch.To=j->zB3 a n ch.To:=fun k ch _ e=>by rw[e];exact hj
 have hcr:∀ (k:Nat) (ch:Channel),a.Plan.Channels[k]? = some ch->ch.From=j->ch.Kind=3->zB3 a n ch.To:=fun k ch hc e h3=>by
  obtain⟨x,y,e1,e2,h1,h2⟩:=zIb h.ma.pg.set (List.mem_of_getElem? hc);rw[e2];refine zGd h.hn (by rw[h.ma.nc];exact h2) hj ?_
  unfold zFh;rw[Bool.or_eq_true,List.any_eq_true];refine .inr ⟨ch,List.mem_of_getElem? hc,?_⟩;unfold zMk;rw[e,e2,h3];simp
 have hget:∀ (k:Nat) (ch:Channel),a.Plan.Channels[k]? = some ch->zB3 a n ch.To->a.Holds.getD k ⟨[]⟩=b.Holds.getD k ⟨[]⟩:=fun k ch hc hk=>by
  rw[List.getD_eq_getElem?_getD,List.getD_eq_getElem?_getD,h.holds k ch hc hk]
 have hset:∀ (k i:Nat) (ch:Channel) (x y:Hold),a.Plan.Channels[k]? = some ch->zB3 a n ch.To->(i=k->x=y)->(a.Holds.set i x)[k]? = (b.Holds.set i y)[k]?:=fun k i ch x y hc hk hxy=>by
  by_cases e:i=k
  ·rw[hxy e,List.getElem?_set,List.getElem?_set,h.nh,h.holds k ch hc hk]
  ·rw[List.getElem?_set_ne e,List.getElem?_set_ne e];exact h.holds k ch hc hk
 generalize (zBg a j).1=c
 generalize (zBg a j).2=o
 unfold zDt;by_cases h5:o.Op=5
 ·rw[if_pos h5,if_pos h5];cases hc:a.Plan.Channels[o.A.toNat]? with
  | none=>exact⟨rfl,fun k ch hk hn=>h.holds k ch hk hn⟩
  | some ch =>
   by_cases hf:ch.From=j
   ·simp only[if_pos hf];refine⟨?_,fun k c2 hk hn=>hset k _ c2 _ _ hk hn fun e=>?_⟩
    ·by_cases h3:ch.Kind=3
     ·rw[hget _ ch hc (hcr _ ch hc hf h3)]
     ·rw[zGj rfl h3 rfl rfl,zGj rfl h3 rfl rfl]
    ·subst e;rw[hk] at hc;obtain rfl:=Option.some.inj hc;rw[hget _ _ hk hn]
   ·simp only[if_neg hf];exact⟨trivial,fun k ch hk hn=>h.holds k ch hk hn⟩
 rw[if_neg h5,if_neg h5];by_cases h6:o.Op=6
 ·rw[if_pos h6,if_pos h6];cases hc:a.Plan.Channels[o.A.toNat]? with
  | none=>exact⟨rfl,fun k ch hk hn=>h.holds k ch hk hn⟩
  | some ch =>
   by_cases hf:ch.To=j
   ·simp only[if_pos hf];rw[hget _ ch hc (hin _ ch hc hf)];exact⟨rfl,fun k c2 hk hn=>hset k _ c2 _ _ hk hn fun _=>rfl⟩
   ·simp only[if_neg hf];exact⟨trivial,fun k ch hk hn=>h.holds k ch hk hn⟩
 rw[if_neg h6,if_neg h6];exact⟨rfl,fun k ch hk hn=>h.holds k ch hk hn⟩
theorem zFg.far{a b:Machine}{n:Nat}(h:zFg a b n){m:Machine}(hm:m=a\/m=b){j:Nat}(hjl:j < a.Cores.length)(hj:¬ zB3 a n j)(k:Nat)(ch:Channel)(hc:a.Plan.Channels[k]? = some ch)(hn:zB3 a n ch.To):(zBt m j).2.1[k]? = m.Holds[k]?:=by
 have hp:m.Plan=a.Plan:=hm.elim (fun e=>e ▸ rfl) (fun e=>e ▸ h.plan.symm)
 unfold zBt;rw[hp];refine zMj _ _ _ _ _ k ch hc (fun e=>hj ?_) (fun e=>hj ?_)
 ·obtain⟨x,y,e1,e2,h1,h2⟩:=zIb h.ma.pg.set (List.mem_of_getElem? hc);rw[e2] at hn;refine zGd h.hn hjl hn ?_;unfold zFh;rw[Bool.or_eq_true,List.any_eq_true];refine .inr ⟨ch,List.mem_of_getElem? hc,?_⟩;unfold zMk;rw[e,e2];simp
 ·rw[<- e];exact hn
theorem zFg.tickS{a b:Machine}{n:Nat}(h:zFg a b n)(ht:a.Tick < 100000):zFg (zB9 a) (zB9 b) n:=by
 have hn:∀ j,zB3 (zB9 a) n j ↔ zB3 a n j:=zHh (zDk a) (zEv a) n;have hw:zCs a.Plan.Slots a.Tick=zCs b.Plan.Slots b.Tick:=by rw[h.plan,h.tick]
 refine { ma:=zIo h.ma ht,mb:=zIo h.mb (by rw[<- h.tick];exact ht),hn:=by rw[zEv];exact h.hn,tick:=by rw[zFx,zFx,h.tick],plan:=by rw[zDk,zDk,h.plan],progs:=fun k hk=>?_,cores:=fun k hk=>?_,holds:=fun k ch hc hk=>?_ }
 ·rw[zEw,zEw];exact h.progs k ((hn _).1 hk)
 ·have hk':=(hn _).1 hk;by_cases e:(k:Int)=zCs a.Plan.Slots a.Tick
  ·rw[zCu e.symm,zCu (hw ▸ e.symm)]
   show(a.Cores.set k (zBt a k).1)[k]? = (b.Cores.set k (zBt b k).1)[k]?
   have hl:k < a.Cores.length:=by have:=zD4 hk';omega
   rw[List.getElem?_set_self hl,List.getElem?_set_self (by rw[<- h.nc];exact hl),(h.act hk').2.1]
  ·rw[zIp a k e,zIp b k (by rw[<- hw];exact e)];exact h.cores k hk'
 ·have hk':=(hn _).1 hk;rw[zDk] at hc;rcases h.ma.who a.Tick with e | ⟨j,e,hj⟩
  ·rw[zEb (by omega),zEb (by rw[<- hw];omega)];exact h.holds k ch hc hk'
  ·rw[zCu e,zCu (hw ▸ e)]
   show(zBt a j).2.1[k]? = (zBt b j).2.1[k]?
   by_cases hjn:zB3 a n j
   ·exact(h.act hjn).2.2 k ch hc hk'
   ·rw[h.far (.inl rfl) hj hjn k ch hc hk',h.far (.inr rfl) hj hjn k ch hc hk'];exact h.holds k ch hc hk'
end Sk
