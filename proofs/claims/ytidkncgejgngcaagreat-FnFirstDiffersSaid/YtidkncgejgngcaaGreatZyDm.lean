/- Contracts of functions of the given program. -/
import Derived.Test.YtidkncgejgngcaaGreatZxMch
namespace Sk
open Go Go.Proofs Go.RowKit
set_option maxHeartbeats 4000000
set_option maxRecDepth 100000
set_option linter.unusedVariables false
set_option linter.unusedSimpArgs false
theorem Rvb.openMc{L:Nat}{w:World}{v:Value}{x:Machine}(h:Rvb L w v x):∃ p0 q0 p1 q1 p2 q2 p3 q3 p4 q4 p5 q5,v = .agg #[.slice p0 x.Plan.Parts.length q0,.slice p1 x.Plan.Channels.length q1,.slice p2 x.Plan.Slots.length q2,.slice p3 x.Programs.length q3,.slice p4 x.Cores.length q4,.slice p5 x.Holds.length q5,.int .i64 x.Tick]/\x.Cores.length<=9223372036854775807:=by
 obtain⟨cs,F,rfl,⟨v0,v1,v2,v3,v4,v5,F0,F1,F2,F3,F4,F5,rfl,⟨_,_,rfl,_⟩,⟨_,_,rfl,_⟩,⟨_,_,rfl,_⟩,⟨_,_,rfl,_⟩,h4,⟨_,_,rfl,_⟩,_⟩,_⟩:=h;obtain⟨a4,c4,rfl,g4⟩:=Rs.form ⟨_,h4⟩;exact⟨_,_,_,_,_,_,_,_,_,_,_,_,rfl,g4⟩
theorem zLw(W w:World)(b m:Nat)(h:Rd W w b (m+1200)) :
  Calls Tryz.prog 88 #[.pointer (some ⟨b,0,none⟩)] w fun e w' => ∃ v' x n,e = .returned (.tuple #[v',.int .i64 n])/\Rvb (α:=Machine) w.heap.size w' v' x/\GT.tot x<=200000/\(-1<=n/\n<=200000)/\Mw [b] w w'/\Rd W w' b m:=by
 have H:=zh h;have hbl:=h.lt;have hbW:=h.1;have hWw:=h.2.1.sz;clear h;go_enter Tryz.func88,Tryz.ntmps88;go_upto_region 1 with (fail)
 refine zA1 (fun W0=>Ext w W0/\Bk W0 w.heap.size [.slice none 0 0,.slice none 0 0,.slice none 0 0,.slice none 0 0,.slice none 0 0,.slice none 0 0,.int .i64 0] 32) ⟨(zr _).alloc _,Bk.new _ _ _⟩ ?_
 rintro W0 ⟨e0,kA⟩;have HE0:=zh e0;have KA:=zh kA;have hA:=kA.lt;clear e0 kA;go_upto_region 2 with (go_at_call 100;refine(zJg W _ b (m+100) 14 (H.out.ext HE0.out) ⟨by omega,by omega⟩).mono ?_;rintro e w1 ⟨v1,x,rfl,hv,htt,-,hm,hr⟩;obtain⟨p0,q0,p1,q1,p2,q2,p3,q3,p4,q4,p5,q5,rfl,hcl⟩:=hv.openMc;have KA1:=zh (hm.bk KA.out (by simp;omega));have HV:=zh (hv.mono (L':=w.heap.size+1) (by omega));have HTT:=zh htt;have MW:=zh ((Mw.ofExt HE0.out).tr hm);have RD:=zh hr;clear hm hr hv htt)
 have hxc:x.Cores.length<=200000:=by
  have h1:=zD8 x;have h2:=zBh (xs:=x.Cores)
  have:=HTT.out
  omega
 obtain⟨B,hB⟩:∃ B,B=w1.heap.size:=⟨_,rfl⟩;have hAB:w.heap.size < B:=by have:=KA1.out.lt;omega
 refine zA1 (fun u=>Ext w1 u/\Bk u B [.slice p0 x.Plan.Parts.length q0,.slice p1 x.Plan.Channels.length q1,.slice p2 x.Plan.Slots.length q2,.slice p3 x.Programs.length q3,.slice p4 x.Cores.length q4,.slice p5 x.Holds.length q5,.int .i64 x.Tick] 32) ⟨(zr _).alloc _,by rw[hB];exact Bk.new _ _ _⟩ ?_
 rw[<- hB];clear hB;rintro W2 ⟨e2,kB⟩;have ltB:=kB.lt;obtain⟨f0,f1,f2,f3,f4,f5,f6⟩:=Bk.k7 kB;have MW2:=zh (MW.out.tr (Mw.ofExt e2));have KA2:=zh (KA1.out.ext e2);have HV2:=zh (HV.out.ext e2);have RD2:Hid (Rd W W2 b (m+98+1+1)):=zh ((RD.out.ext e2).le (by omega))
 have hbB:B ∉ [b]:=by simp;omega
 have hbA:w.heap.size ∉ [b]:=by simp;omega
 have KB2:=zh kB;have hneA:B≠w.heap.size:=by omega
 clear e2 kB KA1 MW HV RD KA H;have hwr:IntKind.i64.wrap ((x.Cores.length:Int)+1)=(x.Cores.length:Int)+1:=zCe (by omega) (by omega)
 go_region_held3 (fun u=>u.cell? ⟨B,0,none⟩=some (.slice p0 x.Plan.Parts.length q0)/\u.cell? ⟨B,1,none⟩=some (.slice p1 x.Plan.Channels.length q1)/\u.cell? ⟨B,2,none⟩=some (.slice p2 x.Plan.Slots.length q2)/\u.cell? ⟨B,3,none⟩=some (.slice p3 x.Programs.length q3)/\u.cell? ⟨B,4,none⟩=some (.slice p4 x.Cores.length q4)/\u.cell? ⟨B,5,none⟩=some (.slice p5 x.Holds.length q5)/\u.cell? ⟨B,6,none⟩=some (.int .i64 x.Tick))
  (first
   | go_keep
   | exact⟨(KB4.out.puts_ne (b:=B) (c:=w.heap.size) (o:=0) (ds:=[.slice p0 x.Plan.Parts.length q0,.slice p1 x.Plan.Channels.length q1,.slice p2 x.Plan.Slots.length q2,.slice p3 x.Programs.length q3,.slice p4 x.Cores.length q4,.slice p5 x.Holds.length q5,.int .i64 x.Tick]) hneA).cell (j:=0) rfl,(KB4.out.puts_ne (b:=B) (c:=w.heap.size) (o:=0) (ds:=[.slice p0 x.Plan.Parts.length q0,.slice p1 x.Plan.Channels.length q1,.slice p2 x.Plan.Slots.length q2,.slice p3 x.Programs.length q3,.slice p4 x.Cores.length q4,.slice p5 x.Holds.length q5,.int .i64 x.Tick]) hneA).cell (j:=1) rfl,(KB4.out.puts_ne (b:=B) (c:=w.heap.size) (o:=0) (ds:=[.slice p0 x.Plan.Parts.length q0,.slice p1 x.Plan.Channels.length q1,.slice p2 x.Plan.Slots.length q2,.slice p3 x.Programs.length q3,.slice p4 x.Cores.length q4,.slice p5 x.Holds.length q5,.int .i64 x.Tick]) hneA).cell (j:=2) rfl,(KB4.out.puts_ne (b:=B) (c:=w.heap.size) (o:=0) (ds:=[.slice p0 x.Plan.Parts.length q0,.slice p1 x.Plan.Channels.length q1,.slice p2 x.Plan.Slots.length q2,.slice p3 x.Programs.length q3,.slice p4 x.Cores.length q4,.slice p5 x.Holds.length q5,.int .i64 x.Tick]) hneA).cell (j:=3) rfl,(KB4.out.puts_ne (b:=B) (c:=w.heap.size) (o:=0) (ds:=[.slice p0 x.Plan.Parts.length q0,.slice p1 x.Plan.Channels.length q1,.slice p2 x.Plan.Slots.length q2,.slice p3 x.Programs.length q3,.slice p4 x.Cores.length q4,.slice p5 x.Holds.length q5,.int .i64 x.Tick]) hneA).cell (j:=4) rfl,(KB4.out.puts_ne (b:=B) (c:=w.heap.size) (o:=0) (ds:=[.slice p0 x.Plan.Parts.length q0,.slice p1 x.Plan.Channels.length q1,.slice p2 x.Plan.Slots.length q2,.slice p3 x.Programs.length q3,.slice p4 x.Cores.length q4,.slice p5 x.Holds.length q5,.int .i64 x.Tick]) hneA).cell (j:=5) rfl,(KB4.out.puts_ne (b:=B) (c:=w.heap.size) (o:=0) (ds:=[.slice p0 x.Plan.Parts.length q0,.slice p1 x.Plan.Channels.length q1,.slice p2 x.Plan.Slots.length q2,.slice p3 x.Programs.length q3,.slice p4 x.Cores.length q4,.slice p5 x.Holds.length q5,.int .i64 x.Tick]) hneA).cell (j:=6) rfl⟩)
  (first
   | (go_at_call 48;refine(zAa W _ b (m+98+1) _ (RD2.out.ext (zr W2).drew) (zAh (by omega) (by omega))).mono ?_;rintro e w3 ⟨k,rfl,hk,hm,hr⟩;have hkb:=hk.lt (by omega);have M3:=zh ((Mw.ofExt (F:=[b]) (zr W2).drew).tr (Mw.ofMo hm));have RD3:=zh hr;have KB3:=zh (M3.out.bk KB2.out hbB);obtain⟨g0,g1,g2,g3,g4,g5,g6⟩:=Bk.k7 KB3.out;have ltB3:=KB3.out.lt;clear hk hm hr)
   | (go_at_call 48;refine(zAa W _ b (m+98) _ RD3.out (zAh (by omega) (by omega))).mono ?_;rintro e w4 ⟨k2,rfl,hk,hm,hr⟩;have hkb2:=hk.lt (by omega);have M4:=zh (M3.out.tr (Mw.ofMo hm));have RD4:=zh hr;have KA4:=zh (M4.out.bk KA2.out hbA);have KB4:=zh (M4.out.bk KB2.out hbB);obtain⟨h0,h1,h2,h3,h4,h5,h6⟩:=Bk.k7 KB4.out;have ltB4:=KB4.out.lt;obtain⟨z0,z1,z2,z3,z4,z5,z6⟩:=Bk.k7 KA4.out;have zf:=KA4.out.fz;have ltZ:=KA4.out.lt;clear hk hm hr))
 obtain⟨j1,j2⟩:=hkb2;obtain⟨j3,j4⟩:=hkb;have hq:0<=k2.tdiv 13/\k2.tdiv 13<=1:=by rw[Int.tdiv_eq_ediv_of_nonneg j1];omega
 obtain⟨q,hq0⟩:∃ q,k2.tdiv 13=q:=⟨_,rfl⟩;rw[hq0] at hq ⊢;have hw1:IntKind.i64.wrap q=q:=zCe (by omega) (by omega)
 rw[hw1];have hw2:IntKind.i64.wrap (k - q)=k - q:=zCe (by omega) (by omega)
 rw[hw2];obtain⟨n,hn⟩:∃ n,k - q=n:=⟨_,rfl⟩;have hnb : -1<=n/\n<=200000:=by omega
 rw[hn];clear hn hq0 hw1 hw2 hwr;clear f0 f1 f2 f3 f4 f5 f6 g0 g1 g2 g3 g4 g5 g6 h0 h1 h2 h3 h4 h5 h6;go_wp2;refine bodyPost_ret (v:=.tuple #[.agg #[.slice p0 x.Plan.Parts.length q0,.slice p1 x.Plan.Channels.length q1,.slice p2 x.Plan.Slots.length q2,.slice p3 x.Programs.length q3,.slice p4 x.Cores.length q4,.slice p5 x.Holds.length q5,.int .i64 x.Tick],.int .i64 n]) (by simp[results,Tryz.results88,go_sem,z0,z1,z2,z3,z4,z5,z6]) rfl ⟨_,x,n,rfl,?_,HTT.out,hnb,?_,?_⟩
 ·exact(Rvb.puts (A:=w.heap.size) (o:=0) (by omega) [.slice p0 x.Plan.Parts.length q0,.slice p1 x.Plan.Channels.length q1,.slice p2 x.Plan.Slots.length q2,.slice p3 x.Programs.length q3,.slice p4 x.Cores.length q4,.slice p5 x.Holds.length q5,.int .i64 x.Tick] (HV2.out.mw M4.out (by simp;omega))).mono (by omega)
 ·exact Mw.puts (b:=w.heap.size) (o:=0) (.inr (Nat.le_refl _)) [.slice p0 x.Plan.Parts.length q0,.slice p1 x.Plan.Channels.length q1,.slice p2 x.Plan.Slots.length q2,.slice p3 x.Programs.length q3,.slice p4 x.Cores.length q4,.slice p5 x.Holds.length q5,.int .i64 x.Tick] (MW2.out.tr M4.out)
 ·exact(Rd.puts (c:=w.heap.size) (o:=0) (by omega) (by omega) [.slice p0 x.Plan.Parts.length q0,.slice p1 x.Plan.Channels.length q1,.slice p2 x.Plan.Slots.length q2,.slice p3 x.Programs.length q3,.slice p4 x.Cores.length q4,.slice p5 x.Holds.length q5,.int .i64 x.Tick] RD4.out).le (by omega)
set_option maxHeartbeats 1000000
theorem zGk(n:Nat)(cs:List Channel)(hs:List Hold)(K k:Nat):(zCl n cs hs K)[k]? = if k < K/\cs[k]?.map Channel.To=some (n:Int)/\k < hs.length then some ⟨[]⟩ else hs[k]?:=by
 induction K with
 | zero=>simp[zCl]
 | succ K ih =>
  rw[zDo];have hl:=zEa n cs hs K;unfold zHs;by_cases e:k=K
  ·subst e
   split
   ·rename_i h1
    by_cases h2:k < hs.length
    ·rw[List.getElem?_set_self (by omega),if_pos ⟨by omega,h1,h2⟩]
    ·rw[if_neg (fun h=>h2 h.2.2),List.getElem?_eq_none (by simp;omega),List.getElem?_eq_none (by omega)]
   ·rename_i h1
    rw[ih,if_neg (by omega),if_neg (fun h=>h1 h.2.1)]
  ·have e2:∀ c:Bool,((if c=true then (zCl n cs hs K).set K ⟨[]⟩ else zCl n cs hs K))[k]? = (zCl n cs hs K)[k]?:=fun c=>by
    cases c
    ·rfl
    ·exact List.getElem?_set_ne (by omega)
   have e3:(if cs[K]?.map Channel.To=some (n:Int) then (zCl n cs hs K).set K ⟨[]⟩ else zCl n cs hs K)[k]? = (zCl n cs hs K)[k]?:=by
    split
    ·exact List.getElem?_set_ne (by omega)
    ·rfl
   rw[e3,ih]
   have:(k < K+1) ↔ (k < K):=by omega
   simp only[this]
theorem zM1(n:Nat)(cs:List Channel)(hs:List Hold)(K:Nat):zCl n cs (zCl n cs hs K) K=zCl n cs hs K:=by
 refine List.ext_getElem? fun k=>?_
 rw[zGk,zGk,zEa]
 split<;>rename_i h<;>rfl
structure M.RS (m y:Machine) (n:Nat) (q:Part):Prop where
 part:m.Plan.Parts[n]? = some q
 plan:y.Plan=m.Plan
 progs:y.Programs=m.Programs
 tick:y.Tick=m.Tick
 mv:zE9 y=true
 nc:y.Cores.length=m.Cores.length
 nh:y.Holds.length=m.Holds.length
 core:y.Cores[n]? = some (zAq q.Cells)
 cores:∀ k:Nat,(k:Int)≠n->y.Cores[k]? = m.Cores[k]?
 hold:∀ (k:Nat) (ch:Channel),m.Plan.Channels[k]? = some ch->k < m.Holds.length->ch.To=n->y.Holds[k]? = some ⟨[]⟩
 holds:∀ (k:Nat) (ch:Channel),m.Plan.Channels[k]? = some ch->ch.To≠n->y.Holds[k]? = m.Holds[k]?
 idem:zAv y n=y
theorem M.RS.of{m:Machine}{n:Nat}(h:zE9 m=true)(hn:n < m.Cores.length):∃ q,M.RS m (zAv m n) n q:=by
 have hv:=zAu.1 h;obtain⟨q,hq⟩:∃ q,m.Plan.Parts[n]? = some q:=⟨_,List.getElem?_eq_getElem (by rw[<- hv.nc];exact hn)⟩
 have e:=zDt h hn hq;have hy:zE9 (zBo m n (zAq q.Cells) m.Plan.Channels.length)=true:=zAu.2 (M.rst_MV hv hq _);refine⟨q,?_⟩;rw[e];refine { part:=hq,plan:=rfl,progs:=rfl,tick:=rfl,mv:=hy,nc:=by simp[zBo],nh:=zEa _ _ _ _,core:=?_,cores:=?_,hold:=?_,holds:=?_,idem:=?_ }
 ·show(m.Cores.set n _)[n]? = _
  exact List.getElem?_set_self hn
 ·intro k hk
  show(m.Cores.set n _)[k]? = _
  exact List.getElem?_set_ne (by omega)
 ·intro k ch hc hl ht
  show(zCl _ _ _ _)[k]? = _
  rw[zGk,if_pos ⟨by have:=hv.nh;omega,by rw[hc];simp[ht],hl⟩]
 ·intro k ch hc ht
  show(zCl _ _ _ _)[k]? = _
  rw[zGk,if_neg (fun h=>ht (by have:=h.2.1;rw[hc] at this;simpa using this))]
 ·rw[zDt (m:=zBo m n (zAq q.Cells) m.Plan.Channels.length) hy (by simpa [zBo] using hn) (show m.Plan.Parts[n]? = some q from hq)]
  unfold zBo;simp only[List.set_set,zM1]
set_option maxHeartbeats 4000000
theorem tick_lit{w:World}{B:Nat}{T:TypeId}{a q z:Int}(h:Bk w B [.int .i64 a,.int .i64 q,.int .i64 (-1),.int .i64 (q+1)] T)(ha:0<=a/\a<=40)(hc:0<=q/\q<=1000)(hz:0<=z/\z<=3) :
  ∃ y:Int,w.cell? ⟨B,z.toNat,none⟩=some (.int .i64 y) /\ -1<=y/\y<=1001:=by
 obtain rfl|rfl|rfl|rfl:z=0\/z=1\/z=2\/z=3:=by omega
 ·exact⟨_,h.cell (j:=0) rfl,by omega,by omega⟩
 ·exact⟨_,h.cell (j:=1) rfl,by omega,by omega⟩
 ·exact⟨_,h.cell (j:=2) rfl,by omega,by omega⟩
 ·exact⟨_,h.cell (j:=3) rfl,by omega,by omega⟩
theorem zL4(W w:World)(b m:Nat)(q:Int)(h:Rd W w b (m+2))(hq:0<=q/\q<=1000) :
  Calls Tryz.prog 75 #[.pointer (some ⟨b,0,none⟩),.int .i64 q] w fun e w' => ∃ z:Int,e = .returned (.int .i64 z)/\(-1<=z/\z<=1001)/\Mw [b] w w'/\Rd W w' b m:=by
 have H:=zh h;have hbl:=h.lt;have hw:IntKind.i64.wrap (q+1)=q+1:=zCe (by omega) (by omega)
 clear h;go_enter Tryz.func75,Tryz.ntmps75
 go_wp2_with (first
  | (go_at_call 48;refine(zAa W _ b m _ (HR1.out.ext (((zr w1).alloc _).alloc _)) (zAh (by omega) (by omega))).mono ?_;rintro e w3 ⟨k3,rfl,hk,hm,hr⟩;obtain⟨z,hz1,hz2⟩:=zKw (zs:=[0,0,0,0,0,0,0,1,2,3]) hm (by simp;omega) hk rfl (by simp);have hk3:=hk.lt (by omega);obtain⟨hk31,hk32⟩:=hk3;have hzb:0<=z/\z<=3:=(by simp only[List.mem_cons,List.not_mem_nil,or_false] at hz2;omega);rw[show(w1.alloc (.cells #[.int .i64 k1,.int .i64 q,.int .i64 (-1),.int .i64 (q+1)] 3)).heap.size=w1.heap.size+1 by simp] at hz1;obtain⟨y,hy1,hy2⟩:=tick_lit (z:=z) (hm.bk ((Bk.new w1 [.int .i64 k1,.int .i64 q,.int .i64 (-1),.int .i64 (q+1)] 3).ext ((zr _).alloc _)) (by simp;omega)) (by omega) (by omega) hzb;have hlw:=hm.lt;have hlz:w1.heap.size+1 < w3.heap.size:=(by rw[hlw];simp);obtain⟨hz3,hz4⟩:=hzb;have HM3:=zh ((HM1.out.tr (Mw.ofExt (((zr w1).alloc _).alloc _))).tr (Mw.ofMo hm));have HR3:=zh hr;clear hk hm hr hlw)
  | (go_at_call 48;refine(zAa W _ b _ _ H.out (zAh (by omega) (by omega))).mono ?_;rintro e w1 ⟨k1,rfl,hk,hm,hr⟩;have hk1:=hk.lt (by omega);obtain⟨hk11,hk12⟩:=hk1;have HM1:Hid (Mw [b] w w1):=zh (Mw.ofMo hm);have HR1:=zh hr;have hl1:=hr.lt;clear hk hm hr))
 go_ret;exact⟨_,rfl,hy2,HM3.out,HR3.out⟩
set_option maxHeartbeats 1000000
theorem zMb(N:Int):∀ (cs:List Channel) (hs1 hs2:List Hold),hs1.length=hs2.length->(∀ (k:Nat) (c:Channel),cs[k]? = some c->c.To=N->hs1[k]? = hs2[k]?)->(cs.zip hs1).flatMap (zEg N)=(cs.zip hs2).flatMap (zEg N):=by
 intro cs
 induction cs with
 | nil=>intro hs1 hs2 _ _;simp
 | cons c cs ih =>
  intro hs1 hs2 hl hh;cases hs1 with
  | nil =>
   cases hs2 with
   | nil=>rfl
   | cons _ _=>simp at hl
  | cons x hs1 =>
   cases hs2 with
   | nil=>simp at hl
   | cons z hs2 =>
    have e:=ih hs1 hs2 (by simpa using hl) (fun k c hc ht=>by simpa using hh (k+1) c (by simpa using hc) ht)
    simp only[List.zip_cons_cons,List.flatMap_cons,e]
    congr 1
    by_cases ht:c.To=N
    ·have h0:=hh 0 c rfl ht;simp only[List.getElem?_cons_zero,Option.some.injEq] at h0;rw[h0]
    ·rw[zJ0 ht,zJ0 ht]
theorem zKn{a b:Machine}{N:Nat}(hc:a.Cores[N]? = b.Cores[N]?)(hp:a.Plan=b.Plan)(ht:a.Tick=b.Tick)(hl:a.Holds.length=b.Holds.length)(hh:∀ (k:Nat) (ch:Channel),a.Plan.Channels[k]? = some ch->ch.To=N->a.Holds[k]? = b.Holds[k]?):zAe a N=zAe b N:=by
 have e1:a.Cores.getD N M.cz=b.Cores.getD N M.cz:=by rw[List.getD_eq_getElem?_getD,List.getD_eq_getElem?_getD,hc]
 unfold zAe zDy zKo;rw[e1,ht,<- hp,zMb N _ _ _ hl hh]
def zCg(m:Machine)(n:Nat)(k:Int):Prop:=∃ K:Nat,k=K/\(zDe m.Plan.Channels m.Cores.length n).getD K false=true
theorem zGo{m:Machine}{n:Nat}{k:Int}(h:zCg m n k):k < m.Cores.length:=by
 obtain⟨K,rfl,h⟩:=h
 have:=zOf h
 rw[zCy] at this;omega
theorem zIs{m:Machine}{n:Nat}(h:n < m.Cores.length):zCg m n n:=⟨n,rfl,zL8 _ h⟩
theorem zLd{a b:Machine}(hp:a.Plan=b.Plan)(hc:a.Cores.length=b.Cores.length)(n:Nat)(k:Int):zCg a n k ↔ zCg b n k:=by
 unfold zCg;rw[hp,hc]
structure zL7 (a b:Machine) (n:Nat):Prop where
 ma:zCf a
 mb:zCf b
 hn:n < a.Cores.length
 tick:a.Tick=b.Tick
 plan:a.Plan=b.Plan
 progs:∀ k:Nat,zCg a n k->a.Programs[k]? = b.Programs[k]?
 cores:∀ k:Nat,zCg a n k->a.Cores[k]? = b.Cores[k]?
 holds:∀ (k:Nat) (ch:Channel),a.Plan.Channels[k]? = some ch->zCg a n ch.To->a.Holds[k]? = b.Holds[k]?
noncomputable def zCo(a b:Machine)(n:Int):Bool:=Bo (∃ N:Nat,n=N/\zL7 a b N)
theorem zDi{a b:Machine}{N:Nat}:zCo a b N=true ↔ zL7 a b N:=by
 unfold zCo;rw[Bo.iff];constructor
 ·rintro⟨K,e,h⟩;obtain rfl:N=K:=by omega
  exact h
 ·exact fun h=>⟨N,rfl,h⟩
theorem zL7.nc{a b:Machine}{n:Nat}(h:zL7 a b n):a.Cores.length=b.Cores.length:=by rw[h.ma.nc,h.mb.nc,h.plan]
theorem zL7.nh{a b:Machine}{n:Nat}(h:zL7 a b n):a.Holds.length=b.Holds.length:=by rw[h.ma.nh,h.mb.nh,h.plan]
theorem zL7.view{a b:Machine}{n:Nat}(h:zL7 a b n):zAe a n=zAe b n :=
 zKn (h.cores n (zIs h.hn)) h.plan h.tick h.nh (fun k ch hc ht=>h.holds k ch hc (by rw[ht];exact zIs h.hn))
theorem zL7.sameView{a b:Machine}{n:Nat}(h:zL7 a b n):zAx a b n=true:=by
 have h1:zB5 a n=true:=zBb.2 ⟨h.ma,by omega,by have:=h.hn;omega⟩
 have h2:zB5 b n=true:=zBb.2 ⟨h.mb,by omega,by have:=h.hn;have:=h.nc;omega⟩
 unfold zAx;rw[h1,h2,Int.toNat_natCast,h.view,Eqb.t rfl]
 rfl
theorem zL7.restart{a b:Machine}{n:Nat}(h:zL7 a b n){k:Nat}(hk:k < a.Cores.length):zL7 (zAv a k) (zAv b k) n:=by
 obtain⟨q,ha⟩:=M.RS.of (zAu.2 h.ma) hk;obtain⟨r,hb⟩:=M.RS.of (zAu.2 h.mb) (by rw[<- h.nc];exact hk)
 have hqr:q=r:=by have h1:=ha.part;have h2:=hb.part;rw[h.plan,h2] at h1;exact(Option.some.inj h1).symm
 subst hqr;have hn:∀ j,zCg (zAv a k) n j ↔ zCg a n j:=zLd ha.plan ha.nc n;refine { ma:=zAu.1 ha.mv,mb:=zAu.1 hb.mv,hn:=by rw[ha.nc];exact h.hn,tick:=by rw[ha.tick,hb.tick,h.tick],plan:=by rw[ha.plan,hb.plan,h.plan],progs:=fun j hj=>?_,cores:=fun j hj=>?_,holds:=fun j ch hc hj=>?_ }
 ·rw[ha.progs,hb.progs];exact h.progs j ((hn _).1 hj)
 ·by_cases e:(j:Int)=k
  ·obtain rfl:j=k:=by omega
   rw[ha.core,hb.core]
  ·rw[ha.cores j e,hb.cores j e];exact h.cores j ((hn _).1 hj)
 ·rw[ha.plan] at hc;have hc2:b.Plan.Channels[j]? = some ch:=by rw[<- h.plan];exact hc
  by_cases e:ch.To=k
  ·have hl:j < a.Holds.length:=by rw[h.ma.nh];exact(List.getElem?_eq_some_iff.1 hc).1
   rw[ha.hold j ch hc hl e,hb.hold j ch hc2 (by rw[<- h.nh];exact hl) e]
  ·rw[ha.holds j ch hc e,hb.holds j ch hc2 e];exact h.holds j ch hc ((hn _).1 hj)
end Sk
