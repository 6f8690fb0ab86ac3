/- Contracts of functions of the given program. -/
import Derived.Test.YtfjimbnblklhdaaGreatZxMch
import Derived.Test.YtfjimbnblklhdaaGreatZrWrn
namespace Sk
open Go Go.Proofs Go.RowKit
set_option maxHeartbeats 4000000
set_option maxRecDepth 100000
set_option linter.unusedVariables false
set_option linter.unusedSimpArgs false
theorem Rvb.openMc{L:Nat}{w:World}{v:Value}{x:Machine}(h:Rvb L w v x):∃ p0 q0 p1 q1 p2 q2 p3 q3 p4 q4 p5 q5,v = .agg #[.slice p0 x.Plan.Parts.length q0,.slice p1 x.Plan.Channels.length q1,.slice p2 x.Plan.Slots.length q2,.slice p3 x.Programs.length q3,.slice p4 x.Cores.length q4,.slice p5 x.Holds.length q5,.int .i64 x.Tick]/\x.Cores.length<=9223372036854775807:=by
 obtain⟨cs,F,rfl,⟨v0,v1,v2,v3,v4,v5,F0,F1,F2,F3,F4,F5,rfl,⟨_,_,rfl,_⟩,⟨_,_,rfl,_⟩,⟨_,_,rfl,_⟩,⟨_,_,rfl,_⟩,h4,⟨_,_,rfl,_⟩,_⟩,_⟩:=h;obtain⟨a4,c4,rfl,g4⟩:=Rs.form ⟨_,h4⟩;exact⟨_,_,_,_,_,_,_,_,_,_,_,_,rfl,g4⟩
theorem zMp(W w:World)(b m:Nat)(h:Rd W w b (m+1200)) :
  Calls Tryz.prog 32 #[.pointer (some ⟨b,0,none⟩)] w fun e w' => ∃ v' x n,e = .returned (.tuple #[v',.int .i64 n])/\Rvb (α:=Machine) w.heap.size w' v' x/\GT.tot x<=200000/\(-1<=n/\n<=200000)/\Mw [b] w w'/\Rd W w' b m:=by
 have H:=zh h;have hbl:=h.lt;have hbW:=h.1;have hWw:=h.2.1.sz;clear h;go_enter Tryz.func32,Tryz.ntmps32;go_upto_region 1 with (fail)
 refine zA1 (fun W0=>Ext w W0/\Bk W0 w.heap.size [.slice none 0 0,.slice none 0 0,.slice none 0 0,.slice none 0 0,.slice none 0 0,.slice none 0 0,.int .i64 0] 32) ⟨(zr _).alloc _,Bk.new _ _ _⟩ ?_
 rintro W0 ⟨e0,kA⟩;have HE0:=zh e0;have KA:=zh kA;have hA:=kA.lt;clear e0 kA;go_upto_region 2 with (go_at_call 68;refine(zK7 W _ b (m+100) 14 (H.out.ext HE0.out) ⟨by omega,by omega⟩).mono ?_;rintro e w1 ⟨v1,x,rfl,hv,htt,-,hm,hr⟩;obtain⟨p0,q0,p1,q1,p2,q2,p3,q3,p4,q4,p5,q5,rfl,hcl⟩:=hv.openMc;have KA1:=zh (hm.bk KA.out (by simp;omega));have HV:=zh (hv.mono (L':=w.heap.size+1) (by omega));have HTT:=zh htt;have MW:=zh ((Mw.ofExt HE0.out).tr hm);have RD:=zh hr;clear hm hr hv htt)
 have hxc:x.Cores.length<=200000:=by
  have h1:=zDk x;have h2:=zBc (xs:=x.Cores)
  have:=HTT.out
  omega
 obtain⟨B,hB⟩:∃ B,B=w1.heap.size:=⟨_,rfl⟩;have hAB:w.heap.size < B:=by have:=KA1.out.lt;omega
 refine zA1 (fun u=>Ext w1 u/\Bk u B [.slice p0 x.Plan.Parts.length q0,.slice p1 x.Plan.Channels.length q1,.slice p2 x.Plan.Slots.length q2,.slice p3 x.Programs.length q3,.slice p4 x.Cores.length q4,.slice p5 x.Holds.length q5,.int .i64 x.Tick] 32) ⟨(zr _).alloc _,by rw[hB];exact Bk.new _ _ _⟩ ?_
 rw[<- hB];clear hB;rintro W2 ⟨e2,kB⟩;have ltB:=kB.lt;obtain⟨f0,f1,f2,f3,f4,f5,f6⟩:=Bk.k7 kB;have MW2:=zh (MW.out.tr (Mw.ofExt e2));have KA2:=zh (KA1.out.ext e2);have HV2:=zh (HV.out.ext e2);have RD2:Hid (Rd W W2 b (m+98+1+1)):=zh ((RD.out.ext e2).le (by omega))
 have hbB:B ∉ [b]:=by simp;omega
 have hbA:w.heap.size ∉ [b]:=by simp;omega
 have KB2:=zh kB;have hneA:B≠w.heap.size:=by omega
 clear e2 kB KA1 MW HV RD KA H;have hwr:IntKind.i64.wrap ((x.Cores.length:Int)+1)=(x.Cores.length:Int)+1:=zBy (by omega) (by omega)
 go_region_held3 (fun u=>u.cell? ⟨B,0,none⟩=some (.slice p0 x.Plan.Parts.length q0)/\u.cell? ⟨B,1,none⟩=some (.slice p1 x.Plan.Channels.length q1)/\u.cell? ⟨B,2,none⟩=some (.slice p2 x.Plan.Slots.length q2)/\u.cell? ⟨B,3,none⟩=some (.slice p3 x.Programs.length q3)/\u.cell? ⟨B,4,none⟩=some (.slice p4 x.Cores.length q4)/\u.cell? ⟨B,5,none⟩=some (.slice p5 x.Holds.length q5)/\u.cell? ⟨B,6,none⟩=some (.int .i64 x.Tick))
  (first
   | go_keep
   | exact⟨(KB4.out.puts_ne (b:=B) (c:=w.heap.size) (o:=0) (ds:=[.slice p0 x.Plan.Parts.length q0,.slice p1 x.Plan.Channels.length q1,.slice p2 x.Plan.Slots.length q2,.slice p3 x.Programs.length q3,.slice p4 x.Cores.length q4,.slice p5 x.Holds.length q5,.int .i64 x.Tick]) hneA).cell (j:=0) rfl,(KB4.out.puts_ne (b:=B) (c:=w.heap.size) (o:=0) (ds:=[.slice p0 x.Plan.Parts.length q0,.slice p1 x.Plan.Channels.length q1,.slice p2 x.Plan.Slots.length q2,.slice p3 x.Programs.length q3,.slice p4 x.Cores.length q4,.slice p5 x.Holds.length q5,.int .i64 x.Tick]) hneA).cell (j:=1) rfl,(KB4.out.puts_ne (b:=B) (c:=w.heap.size) (o:=0) (ds:=[.slice p0 x.Plan.Parts.length q0,.slice p1 x.Plan.Channels.length q1,.slice p2 x.Plan.Slots.length q2,.slice p3 x.Programs.length q3,.slice p4 x.Cores.length q4,.slice p5 x.Holds.length q5,.int .i64 x.Tick]) hneA).cell (j:=2) rfl,(KB4.out.puts_ne (b:=B) (c:=w.heap.size) (o:=0) (ds:=[.slice p0 x.Plan.Parts.length q0,.slice p1 x.Plan.Channels.length q1,.slice p2 x.Plan.Slots.length q2,.slice p3 x.Programs.length q3,.slice p4 x.Cores.length q4,.slice p5 x.Holds.length q5,.int .i64 x.Tick]) hneA).cell (j:=3) rfl,(KB4.out.puts_ne (b:=B) (c:=w.heap.size) (o:=0) (ds:=[.slice p0 x.Plan.Parts.length q0,.slice p1 x.Plan.Channels.length q1,.slice p2 x.Plan.Slots.length q2,.slice p3 x.Programs.length q3,.slice p4 x.Cores.length q4,.slice p5 x.Holds.length q5,.int .i64 x.Tick]) hneA).cell (j:=4) rfl,(KB4.out.puts_ne (b:=B) (c:=w.heap.size) (o:=0) (ds:=[.slice p0 x.Plan.Parts.length q0,.slice p1 x.Plan.Channels.length q1,.slice p2 x.Plan.Slots.length q2,.slice p3 x.Programs.length q3,.slice p4 x.Cores.length q4,.slice p5 x.Holds.length q5,.int .i64 x.Tick]) hneA).cell (j:=5) rfl,(KB4.out.puts_ne (b:=B) (c:=w.heap.size) (o:=0) (ds:=[.slice p0 x.Plan.Parts.length q0,.slice p1 x.Plan.Channels.length q1,.slice p2 x.Plan.Slots.length q2,.slice p3 x.Programs.length q3,.slice p4 x.Cores.length q4,.slice p5 x.Holds.length q5,.int .i64 x.Tick]) hneA).cell (j:=6) rfl⟩)
  (first
   | (go_at_call 36;refine(zA9 W _ b (m+98+1) _ (RD2.out.ext (zr W2).drew) (zAg (by omega) (by omega))).mono ?_;rintro e w3 ⟨k,rfl,hk,hm,hr⟩;have hkb:=hk.lt (by omega);have M3:=zh ((Mw.ofExt (F:=[b]) (zr W2).drew).tr (Mw.ofMo hm));have RD3:=zh hr;have KB3:=zh (M3.out.bk KB2.out hbB);obtain⟨g0,g1,g2,g3,g4,g5,g6⟩:=Bk.k7 KB3.out;have ltB3:=KB3.out.lt;clear hk hm hr)
   | (go_at_call 36;refine(zA9 W _ b (m+98) _ RD3.out (zAg (by omega) (by omega))).mono ?_;rintro e w4 ⟨k2,rfl,hk,hm,hr⟩;have hkb2:=hk.lt (by omega);have M4:=zh (M3.out.tr (Mw.ofMo hm));have RD4:=zh hr;have KA4:=zh (M4.out.bk KA2.out hbA);have KB4:=zh (M4.out.bk KB2.out hbB);obtain⟨h0,h1,h2,h3,h4,h5,h6⟩:=Bk.k7 KB4.out;have ltB4:=KB4.out.lt;obtain⟨z0,z1,z2,z3,z4,z5,z6⟩:=Bk.k7 KA4.out;have zf:=KA4.out.fz;have ltZ:=KA4.out.lt;clear hk hm hr))
 obtain⟨j1,j2⟩:=hkb2;obtain⟨j3,j4⟩:=hkb;have hq:0<=k2.tdiv 13/\k2.tdiv 13<=1:=by rw[Int.tdiv_eq_ediv_of_nonneg j1];omega
 obtain⟨q,hq0⟩:∃ q,k2.tdiv 13=q:=⟨_,rfl⟩;rw[hq0] at hq ⊢;have hw1:IntKind.i64.wrap q=q:=zBy (by omega) (by omega)
 rw[hw1];have hw2:IntKind.i64.wrap (k - q)=k - q:=zBy (by omega) (by omega)
 rw[hw2];obtain⟨n,hn⟩:∃ n,k - q=n:=⟨_,rfl⟩;have hnb : -1<=n/\n<=200000:=by omega
 rw[hn];clear hn hq0 hw1 hw2 hwr;clear f0 f1 f2 f3 f4 f5 f6 g0 g1 g2 g3 g4 g5 g6 h0 h1 h2 h3 h4 h5 h6;go_wp2;refine bodyPost_ret (v:=.tuple #[.agg #[.slice p0 x.Plan.Parts.length q0,.slice p1 x.Plan.Channels.length q1,.slice p2 x.Plan.Slots.length q2,.slice p3 x.Programs.length q3,.slice p4 x.Cores.length q4,.slice p5 x.Holds.length q5,.int .i64 x.Tick],.int .i64 n]) (by simp[results,Tryz.results32,go_sem,z0,z1,z2,z3,z4,z5,z6]) rfl ⟨_,x,n,rfl,?_,HTT.out,hnb,?_,?_⟩
 ·exact(Rvb.puts (A:=w.heap.size) (o:=0) (by omega) [.slice p0 x.Plan.Parts.length q0,.slice p1 x.Plan.Channels.length q1,.slice p2 x.Plan.Slots.length q2,.slice p3 x.Programs.length q3,.slice p4 x.Cores.length q4,.slice p5 x.Holds.length q5,.int .i64 x.Tick] (HV2.out.mw M4.out (by simp;omega))).mono (by omega)
 ·exact Mw.puts (b:=w.heap.size) (o:=0) (.inr (Nat.le_refl _)) [.slice p0 x.Plan.Parts.length q0,.slice p1 x.Plan.Channels.length q1,.slice p2 x.Plan.Slots.length q2,.slice p3 x.Programs.length q3,.slice p4 x.Cores.length q4,.slice p5 x.Holds.length q5,.int .i64 x.Tick] (MW2.out.tr M4.out)
 ·exact(Rd.puts (c:=w.heap.size) (o:=0) (by omega) (by omega) [.slice p0 x.Plan.Parts.length q0,.slice p1 x.Plan.Channels.length q1,.slice p2 x.Plan.Slots.length q2,.slice p3 x.Programs.length q3,.slice p4 x.Cores.length q4,.slice p5 x.Holds.length q5,.int .i64 x.Tick] RD4.out).le (by omega)
set_option maxHeartbeats 1000000
theorem zO3(cs:List Channel)(hs:List Hold)(n:Int)(c:Core)(o:Order)(k:Nat)(ch:Channel)(hk:cs[k]? = some ch)(h1:ch.From≠n)(h2:ch.To≠n):(zEc cs hs n c o).2.1[k]? = hs[k]?:=by
 have hne:∀ ch',cs[o.A.toNat]? = some ch'->(ch'.From=n\/ch'.To=n)->o.A.toNat≠k:=fun ch' h3 h4 e=>by
  rw[e,hk] at h3;cases h3;exact h4.elim h1 h2
 unfold zEc
 split
 ·split
  ·split
   ·exact List.getElem?_set_ne (hne _ ‹_› (.inl ‹_›))
   ·rfl
  ·rfl
 split
 ·split
  ·split
   ·exact List.getElem?_set_ne (hne _ ‹_› (.inr ‹_›))
   ·rfl
  ·rfl
 ·rfl
theorem zJn(m:Machine)(k:Nat)(h1:(k:Int)≠zC0 m.Plan.Slots m.Tick):(zAk m).Cores[k]? = m.Cores[k]?:=by
 unfold zAk
 split
 ·rfl
 ·exact List.getElem?_set_ne (by omega)
theorem zF8(n:Nat)(cs:List Channel)(hs:List Hold)(K k:Nat):(zCh n cs hs K)[k]? = if k < K/\cs[k]?.map Channel.To=some (n:Int)/\k < hs.length then some ⟨[]⟩ else hs[k]?:=by
 induction K with
 | zero=>simp[zCh]
 | succ K ih =>
  rw[zDq];have hl:=zDn n cs hs K;unfold zI9;by_cases e:k=K
  ·subst e
   split
   ·rename_i h1
    by_cases h2:k < hs.length
    ·rw[List.getElem?_set_self (by omega),if_pos ⟨by omega,h1,h2⟩]
    ·rw[if_neg (fun h=>h2 h.2.2),List.getElem?_eq_none (by simp;omega),List.getElem?_eq_none (by omega)]
   ·rename_i h1
    rw[ih,if_neg (by omega),if_neg (fun h=>h1 h.2.1)]
  ·have e2:∀ c:Bool,((if c=true then (zCh n cs hs K).set K ⟨[]⟩ else zCh n cs hs K))[k]? = (zCh n cs hs K)[k]?:=fun c=>by
    cases c
    ·rfl
    ·exact List.getElem?_set_ne (by omega)
   have e3:(if cs[K]?.map Channel.To=some (n:Int) then (zCh n cs hs K).set K ⟨[]⟩ else zCh n cs hs K)[k]? = (zCh n cs hs K)[k]?:=by
    split
    ·exact List.getElem?_set_ne (by omega)
    ·rfl
   rw[e3,ih]
   have:(k < K+1) ↔ (k < K):=by omega
   simp only[this]
theorem zMt(n:Nat)(cs:List Channel)(hs:List Hold)(K:Nat):zCh n cs (zCh n cs hs K) K=zCh n cs hs K:=by
 refine List.ext_getElem? fun k=>?_
 rw[zF8,zF8,zDn]
 split<;>rename_i h<;>rfl
structure M.RS (m y:Machine) (n:Nat) (q:Part):Prop where
 part:m.Plan.Parts[n]? = some q
 plan:y.Plan=m.Plan
 progs:y.Programs=m.Programs
 tick:y.Tick=m.Tick
 mv:zEh y=true
 nc:y.Cores.length=m.Cores.length
 nh:y.Holds.length=m.Holds.length
 core:y.Cores[n]? = some (zAo q.Cells)
 cores:∀ k:Nat,(k:Int)≠n->y.Cores[k]? = m.Cores[k]?
 hold:∀ (k:Nat) (ch:Channel),m.Plan.Channels[k]? = some ch->k < m.Holds.length->ch.To=n->y.Holds[k]? = some ⟨[]⟩
 holds:∀ (k:Nat) (ch:Channel),m.Plan.Channels[k]? = some ch->ch.To≠n->y.Holds[k]? = m.Holds[k]?
 idem:zBk y n=y
theorem M.RS.of{m:Machine}{n:Nat}(h:zEh m=true)(hn:n < m.Cores.length):∃ q,M.RS m (zBk m n) n q:=by
 have hv:=zAw.1 h;obtain⟨q,hq⟩:∃ q,m.Plan.Parts[n]? = some q:=⟨_,List.getElem?_eq_getElem (by rw[<- hv.nc];exact hn)⟩
 have e:=zDw h hn hq;have hy:zEh (zCm m n (zAo q.Cells) m.Plan.Channels.length)=true:=zAw.2 (zNn hv hq _);refine⟨q,?_⟩;rw[e];refine { part:=hq,plan:=rfl,progs:=rfl,tick:=rfl,mv:=hy,nc:=by simp[zCm],nh:=zDn _ _ _ _,core:=?_,cores:=?_,hold:=?_,holds:=?_,idem:=?_ }
 ·show(m.Cores.set n _)[n]? = _
  exact List.getElem?_set_self hn
 ·intro k hk
  show(m.Cores.set n _)[k]? = _
  exact List.getElem?_set_ne (by omega)
 ·intro k ch hc hl ht
  show(zCh _ _ _ _)[k]? = _
  rw[zF8,if_pos ⟨by have:=hv.nh;omega,by rw[hc];simp[ht],hl⟩]
 ·intro k ch hc ht
  show(zCh _ _ _ _)[k]? = _
  rw[zF8,if_neg (fun h=>ht (by have:=h.2.1;rw[hc] at this;simpa using this))]
 ·rw[zDw (m:=zCm m n (zAo q.Cells) m.Plan.Channels.length) hy (by simpa [zCm] using hn) (show m.Plan.Parts[n]? = some q from hq)]
  unfold zCm;simp only[List.set_set,zMt]
theorem zN0(N:Int):∀ (cs:List Channel) (hs1 hs2:List Hold),hs1.length=hs2.length->(∀ (k:Nat) (c:Channel),cs[k]? = some c->c.To=N->hs1[k]? = hs2[k]?)->(cs.zip hs1).flatMap (zH8 N)=(cs.zip hs2).flatMap (zH8 N):=by
 intro cs
 induction cs with
 | nil=>intro hs1 hs2 _ _;simp
 | cons c cs ih =>
  intro hs1 hs2 hl hh;cases hs1 with
  | nil =>
   cases hs2 with
   | nil=>rfl
   | cons _ _=>simp at hl
  | cons x hs1 =>
   cases hs2 with
   | nil=>simp at hl
   | cons z hs2 =>
    have e:=ih hs1 hs2 (by simpa using hl) (fun k c hc ht=>by simpa using hh (k+1) c (by simpa using hc) ht)
    simp only[List.zip_cons_cons,List.flatMap_cons,e]
    congr 1
    by_cases ht:c.To=N
    ·have h0:=hh 0 c rfl ht;simp only[List.getElem?_cons_zero,Option.some.injEq] at h0;rw[h0]
    ·rw[zN1 ht,zN1 ht]
theorem zLg{a b:Machine}{N:Nat}(hc:a.Cores[N]? = b.Cores[N]?)(hp:a.Plan=b.Plan)(ht:a.Tick=b.Tick)(hl:a.Holds.length=b.Holds.length)(hh:∀ (k:Nat) (ch:Channel),a.Plan.Channels[k]? = some ch->ch.To=N->a.Holds[k]? = b.Holds[k]?):zBz a N=zBz b N:=by
 have e1:a.Cores.getD N zKb=b.Cores.getD N zKb:=by rw[List.getD_eq_getElem?_getD,List.getD_eq_getElem?_getD,hc]
 unfold zBz zFk zNq;rw[e1,ht,<- hp,zN0 N _ _ _ hl hh]
def zAj(m:Machine)(n:Nat)(k:Int):Prop:=∃ K:Nat,k=K/\(zBd m.Plan.Channels m.Cores.length n).getD K false=true
theorem zCi{m:Machine}{n:Nat}{k:Int}(h:zAj m n k):k < m.Cores.length:=by
 obtain⟨K,rfl,h⟩:=h
 have:=zJt h
 rw[zCl] at this;omega
theorem zJi{m:Machine}{n:Nat}(h:n < m.Cores.length):zAj m n n:=⟨n,rfl,zLz _ h⟩
theorem zGy{m:Machine}{n:Nat}(hn:n < m.Cores.length){a b:Nat}(ha:a < m.Cores.length)(h:zAj m n b)(hd:zG1 m.Plan.Channels a b=true):zAj m n a:=by
 have hb:=zCi h;obtain⟨K,e,h⟩:=h;obtain rfl:b=K:=by omega
 exact⟨a,rfl,zG8 _ hn ha (by omega) h hd⟩
theorem zFc{m:Machine}{n k:Nat}(hn:n < m.Cores.length)(h:zAj m n k){j:Int}(hj:zAj m k j):zAj m n j:=by
 obtain⟨K,e,h⟩:=h;obtain rfl:k=K:=by omega
 obtain⟨J,rfl,hj⟩:=hj;exact⟨J,rfl,zL9 _ hn hj h⟩
theorem zBj{a b:Machine}(hp:a.Plan=b.Plan)(hc:a.Cores.length=b.Cores.length)(n:Nat)(k:Int):zAj a n k ↔ zAj b n k:=by
 unfold zAj;rw[hp,hc]
structure zDp (a b:Machine) (n:Nat):Prop where
 ma:zC6 a
 mb:zC6 b
 hn:n < a.Cores.length
 tick:a.Tick=b.Tick
 plan:a.Plan=b.Plan
 progs:∀ k:Nat,zAj a n k->a.Programs[k]? = b.Programs[k]?
 cores:∀ k:Nat,zAj a n k->a.Cores[k]? = b.Cores[k]?
 holds:∀ (k:Nat) (ch:Channel),a.Plan.Channels[k]? = some ch->zAj a n ch.To->a.Holds[k]? = b.Holds[k]?
noncomputable def zEm(a b:Machine)(n:Int):Bool:=Bo (∃ N:Nat,n=N/\zDp a b N)
theorem zEz{a b:Machine}{N:Nat}:zEm a b N=true ↔ zDp a b N:=by
 unfold zEm;rw[Bo.iff];constructor
 ·rintro⟨K,e,h⟩;obtain rfl:N=K:=by omega
  exact h
 ·exact fun h=>⟨N,rfl,h⟩
theorem zDp.nc{a b:Machine}{n:Nat}(h:zDp a b n):a.Cores.length=b.Cores.length:=by rw[h.ma.nc,h.mb.nc,h.plan]
theorem zDp.near{a b:Machine}{n:Nat}(h:zDp a b n)(k:Int):zAj b n k ↔ zAj a n k:=zBj h.plan.symm h.nc.symm n k
theorem zDp.symm{a b:Machine}{n:Nat}(h:zDp a b n):zDp b a n where
 ma:=h.mb
 mb:=h.ma
 hn:=by rw[<- h.nc];exact h.hn
 tick:=h.tick.symm
 plan:=h.plan.symm
 progs:=fun k hk=>(h.progs k ((h.near k).1 hk)).symm
 cores:=fun k hk=>(h.cores k ((h.near k).1 hk)).symm
 holds:=fun k ch hc hk=>(h.holds k ch (by rw[h.plan];exact hc) ((h.near _).1 hk)).symm
theorem zDp.inner{a b:Machine}{n k:Nat}(h:zDp a b n)(hk:zAj a n k):zDp a b k where
 ma:=h.ma
 mb:=h.mb
 hn:=by have:=zCi hk;omega
 tick:=h.tick
 plan:=h.plan
 progs:=fun j hj=>h.progs j (zFc h.hn hk hj)
 cores:=fun j hj=>h.cores j (zFc h.hn hk hj)
 holds:=fun j ch hc hj=>h.holds j ch hc (zFc h.hn hk hj)
theorem zDp.nh{a b:Machine}{n:Nat}(h:zDp a b n):a.Holds.length=b.Holds.length:=by rw[h.ma.nh,h.mb.nh,h.plan]
theorem zDp.view{a b:Machine}{n:Nat}(h:zDp a b n):zBz a n=zBz b n :=
 zLg (h.cores n (zJi h.hn)) h.plan h.tick h.nh (fun k ch hc ht=>h.holds k ch hc (by rw[ht];exact zJi h.hn))
theorem zDp.sameView{a b:Machine}{n:Nat}(h:zDp a b n):zD8 a b n=true:=by
 have h1:zEn a n=true:=zCr.2 ⟨h.ma,by omega,by have:=h.hn;omega⟩
 have h2:zEn b n=true:=zCr.2 ⟨h.mb,by omega,by have:=h.hn;have:=h.nc;omega⟩
 unfold zD8;rw[h1,h2,Int.toNat_natCast,h.view,Eqb.t rfl]
 rfl
theorem zDp.restart{a b:Machine}{n:Nat}(h:zDp a b n){k:Nat}(hk:k < a.Cores.length):zDp (zBk a k) (zBk b k) n:=by
 obtain⟨q,ha⟩:=M.RS.of (zAw.2 h.ma) hk;obtain⟨r,hb⟩:=M.RS.of (zAw.2 h.mb) (by rw[<- h.nc];exact hk)
 have hqr:q=r:=by have h1:=ha.part;have h2:=hb.part;rw[h.plan,h2] at h1;exact(Option.some.inj h1).symm
 subst hqr;have hn:∀ j,zAj (zBk a k) n j ↔ zAj a n j:=zBj ha.plan ha.nc n;refine { ma:=zAw.1 ha.mv,mb:=zAw.1 hb.mv,hn:=by rw[ha.nc];exact h.hn,tick:=by rw[ha.tick,hb.tick,h.tick],plan:=by rw[ha.plan,hb.plan,h.plan],progs:=fun j hj=>?_,cores:=fun j hj=>?_,holds:=fun j ch hc hj=>?_ }
 ·rw[ha.progs,hb.progs];exact h.progs j ((hn _).1 hj)
 ·by_cases e:(j:Int)=k
  ·obtain rfl:j=k:=by omega
   rw[ha.core,hb.core]
  ·rw[ha.cores j e,hb.cores j e];exact h.cores j ((hn _).1 hj)
 ·rw[ha.plan] at hc;have hc2:b.Plan.Channels[j]? = some ch:=by rw[<- h.plan];exact hc
  by_cases e:ch.To=k
  ·have hl:j < a.Holds.length:=by rw[h.ma.nh];exact(List.getElem?_eq_some_iff.1 hc).1
   rw[ha.hold j ch hc hl e,hb.hold j ch hc2 (by rw[<- h.nh];exact hl) e]
  ·rw[ha.holds j ch hc e,hb.holds j ch hc2 e];exact h.holds j ch hc ((hn _).1 hj)
theorem zDp.act{a b:Machine}{n:Nat}(h:zDp a b n){j:Nat}(hj:zAj a n j):zBe a j=zBe b j/\(zBr a j).1=(zBr b j).1/\∀ (k:Nat) (ch:Channel),a.Plan.Channels[k]? = some ch->zAj a n ch.To->(zBr a j).2.1[k]? = (zBr b j).2.1[k]?:=by
 have e0:zBe a j=zBe b j:=by
  unfold zBe;rw[List.getD_eq_getElem?_getD,List.getD_eq_getElem?_getD,List.getD_eq_getElem?_getD,List.getD_eq_getElem?_getD,h.cores j hj,h.progs j hj,h.plan,h.tick]
 refine⟨e0,?_⟩;unfold zBr;rw[<- e0,<- h.plan];have hjl:j < a.Cores.length:=by have:=zCi hj;omega
 -- what flows
 have hin:∀ (k:Nat) (ch:Channel),a.Plan.Channels[k]? = some ch->ch.To=j->zAj a n ch.To:=fun k ch _ e=>by rw[e];exact hj
 have hcr:∀ (k:Nat) (ch:Channel),a.Plan.Channels[k]? = some ch->ch.From=j->ch.Kind=3->zAj a n ch.To:=fun k ch hc e h3=>by
  obtain⟨x,y,e1,e2,h1,h2⟩:=zJ6 h.ma.pg.set (List.mem_of_getElem? hc);rw[e2];refine zGy h.hn (by rw[h.ma.nc];exact h2) hj ?_
  unfold zG1;rw[Bool.or_eq_true,List.any_eq_true];refine .inr ⟨ch,List.mem_of_getElem? hc,?_⟩;unfold zO6;rw[e,e2,h3];simp
 have hget:∀ (k:Nat) (ch:Channel),a.Plan.Channels[k]? = some ch->zAj a n ch.To->a.Holds.getD k ⟨[]⟩=b.Holds.getD k ⟨[]⟩:=fun k ch hc hk=>by
  rw[List.getD_eq_getElem?_getD,List.getD_eq_getElem?_getD,h.holds k ch hc hk]
 have hset:∀ (k i:Nat) (ch:Channel) (x y:Hold),a.Plan.Channels[k]? = some ch->zAj a n ch.To->(i=k->x=y)->(a.Holds.set i x)[k]? = (b.Holds.set i y)[k]?:=fun k i ch x y hc hk hxy=>by
  by_cases e:i=k
  ·rw[hxy e,List.getElem?_set,List.getElem?_set,h.nh,h.holds k ch hc hk]
  ·rw[List.getElem?_set_ne e,List.getElem?_set_ne e];exact h.holds k ch hc hk
 generalize (zBe a j).1=c
 generalize (zBe a j).2=o
 unfold zEc;by_cases h5:o.Op=5
 ·rw[if_pos h5,if_pos h5];cases hc:a.Plan.Channels[o.A.toNat]? with
  | none=>exact⟨rfl,fun k ch hk hn=>h.holds k ch hk hn⟩
  | some ch =>
   by_cases hf:ch.From=j
   ·simp only[if_pos hf];refine⟨?_,fun k c2 hk hn=>hset k _ c2 _ _ hk hn fun e=>?_⟩
    ·by_cases h3:ch.Kind=3
     ·rw[hget _ ch hc (hcr _ ch hc hf h3)]
     ·rw[zH3 rfl h3 rfl rfl,zH3 rfl h3 rfl rfl]
    ·subst e;rw[hk] at hc;obtain rfl:=Option.some.inj hc;rw[hget _ _ hk hn]
   ·simp only[if_neg hf];exact⟨trivial,fun k ch hk hn=>h.holds k ch hk hn⟩
 rw[if_neg h5,if_neg h5];by_cases h6:o.Op=6
 ·rw[if_pos h6,if_pos h6];cases hc:a.Plan.Channels[o.A.toNat]? with
  | none=>exact⟨rfl,fun k ch hk hn=>h.holds k ch hk hn⟩
  | some ch =>
   by_cases hf:ch.To=j
   ·simp only[if_pos hf];rw[hget _ ch hc (hin _ ch hc hf)];exact⟨rfl,fun k c2 hk hn=>hset k _ c2 _ _ hk hn fun _=>rfl⟩
   ·simp only[if_neg hf];exact⟨trivial,fun k ch hk hn=>h.holds k ch hk hn⟩
 rw[if_neg h6,if_neg h6];exact⟨rfl,fun k ch hk hn=>h.holds k ch hk hn⟩
theorem zDp.far{a b:Machine}{n:Nat}(h:zDp a b n){m:Machine}(hm:m=a\/m=b){j:Nat}(hjl:j < a.Cores.length)(hj:¬ zAj a n j)(k:Nat)(ch:Channel)(hc:a.Plan.Channels[k]? = some ch)(hn:zAj a n ch.To):(zBr m j).2.1[k]? = m.Holds[k]?:=by
 have hp:m.Plan=a.Plan:=hm.elim (fun e=>e ▸ rfl) (fun e=>e ▸ h.plan.symm)
 unfold zBr;rw[hp];refine zO3 _ _ _ _ _ k ch hc (fun e=>hj ?_) (fun e=>hj ?_)
 ·obtain⟨x,y,e1,e2,h1,h2⟩:=zJ6 h.ma.pg.set (List.mem_of_getElem? hc);rw[e2] at hn;refine zGy h.hn hjl hn ?_;unfold zG1;rw[Bool.or_eq_true,List.any_eq_true];refine .inr ⟨ch,List.mem_of_getElem? hc,?_⟩;unfold zO6;rw[e,e2];simp
 ·rw[<- e];exact hn
theorem zDp.tickS{a b:Machine}{n:Nat}(h:zDp a b n)(ht:a.Tick < 100000):zDp (zAk a) (zAk b) n:=by
 have hn:∀ j,zAj (zAk a) n j ↔ zAj a n j:=zBj (zCn a) (zBf a) n;have hw:zC0 a.Plan.Slots a.Tick=zC0 b.Plan.Slots b.Tick:=by rw[h.plan,h.tick]
 refine { ma:=zH5 h.ma ht,mb:=zH5 h.mb (by rw[<- h.tick];exact ht),hn:=by rw[zBf];exact h.hn,tick:=by rw[zE0,zE0,h.tick],plan:=by rw[zCn,zCn,h.plan],progs:=fun k hk=>?_,cores:=fun k hk=>?_,holds:=fun k ch hc hk=>?_ }
 ·rw[zFj,zFj];exact h.progs k ((hn _).1 hk)
 ·have hk':=(hn _).1 hk;by_cases e:(k:Int)=zC0 a.Plan.Slots a.Tick
  ·rw[zD9 e.symm,zD9 (hw ▸ e.symm)]
   show(a.Cores.set k (zBr a k).1)[k]? = (b.Cores.set k (zBr b k).1)[k]?
   have hl:k < a.Cores.length:=by have:=zCi hk';omega
   rw[List.getElem?_set_self hl,List.getElem?_set_self (by rw[<- h.nc];exact hl),(h.act hk').2.1]
  ·rw[zJn a k e,zJn b k (by rw[<- hw];exact e)];exact h.cores k hk'
 ·have hk':=(hn _).1 hk;rw[zCn] at hc;rcases h.ma.who a.Tick with e | ⟨j,e,hj⟩
  ·rw[zF0 (by omega),zF0 (by rw[<- hw];omega)];exact h.holds k ch hc hk'
  ·rw[zD9 e,zD9 (hw ▸ e)]
   show(zBr a j).2.1[k]? = (zBr b j).2.1[k]?
   by_cases hjn:zAj a n j
   ·exact(h.act hjn).2.2 k ch hc hk'
   ·rw[h.far (.inl rfl) hj hjn k ch hc hk',h.far (.inr rfl) hj hjn k ch hc hk'];exact h.holds k ch hc hk'
end Sk
