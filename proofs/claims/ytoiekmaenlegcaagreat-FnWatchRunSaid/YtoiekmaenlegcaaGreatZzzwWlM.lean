/- Contracts of functions of the given program. -/
import Derived.Test.YtoiekmaenlegcaaGreatZzzvxWd
import Derived.Test.YtoiekmaenlegcaaGreatZuWct
namespace Sk
open Go Go.Proofs Go.RowKit
set_option maxHeartbeats 1000000
set_option linter.unusedVariables false
set_option linter.unusedSimpArgs false
theorem zHt(x:Watch)(t:List Int):(zBd x t).Box.Plan=x.Box.Plan:=by
 unfold zBd
 split
 ·show(zCj (zAk x.Box) _ _).Plan=_
  rw[(zF8 _ _ _).2.1,zFx]
 ·exact zFx _
theorem zLw(x:Watch)(t:List Int):∀ T:Nat,(zBo x t T).Box.Plan=x.Box.Plan:=by
 intro T
 induction T with
 | zero=>rfl
 | succ T ih=>show(zBd _ t).Box.Plan=_;rw[zHt,ih]
theorem zMz(x:Watch)(t:List Int)(a:Nat):∀ b,zBo x t (a+b)=zBo (zBo x t a) t b:=by
 intro b
 induction b with
 | zero=>rfl
 | succ b ih=>show zBd (zBo x t (a+b)) t=zBd (zBo (zBo x t a) t b) t;rw[ih]
theorem zMn(h:Health):(zC0 h [0,0,0] 1).2=0:=by
 unfold zC0
 split
 iterate 2 (·rfl)
theorem zLg(x:Watch):(zBd x [0,0,0]).Box=zAk x.Box:=by
 unfold zBd
 split
 ·show zCj (zAk x.Box) _ _=_
  rw[zMn]
  rfl
 ·rfl
theorem zLv(x:Watch):∀ T:Nat,(zBo x [0,0,0] T).Box=zD9 x.Box T:=by
 intro T
 induction T with
 | zero=>rfl
 | succ T ih=>show(zBd _ _).Box=zAk _;rw[zLg,ih]
structure M.WU (x y:Watch) (t:List Int) (T:Nat):Prop where
 wx:zK3 x
 wy:zK3 y
 le:T<=400
 sl:1<=y.Box.Plan.Slots.length
 half:∀ h:Nat,h<=T->zAo (zAo x t h 400) t ((T:Int) - h) 400=y
 calm:(zAo x [0,0,0] T 400).Box=zK7 x.Box T
theorem zJ3(x:Watch)(t:List Int)(T:Int):zAo x t T 400=⟨zI2,[]⟩\/∃ N:Nat,T=N/\M.WU x (zAo x t T 400) t N:=by
 cases h:(zBh x && (zD8 t && zB5 x.Box T 400));·exact .inl (zBs h)
 right;simp only[Bool.and_eq_true] at h;obtain⟨h0,h1,h2⟩:=h;obtain⟨hm,⟨t0,t1⟩,tl⟩:=zBq.1 h2;obtain⟨N,rfl⟩:∃ N:Nat,T=N:=⟨T.toNat,by omega⟩
 have hw:=zBf.1 h0;have e:∀ (k:Nat),k<=N->zAo x t k 400=zBo x t k:=fun k hk=>zCv h0 h1 (zBq.2 ⟨hm,⟨by omega,by omega⟩,by omega⟩)
 have e0:=e N (Nat.le_refl _);refine⟨N,rfl,?_⟩;rw[e0];have wv:=zGg hw t N tl;refine { wx:=hw,wy:=wv.1,le:=by omega,sl:=?_,half:=fun h hh=>?_,calm:=?_ }
 ·rw[zLw];exact(zDi hm.ssv).1
 ·rw[e h hh];obtain⟨q1,q2⟩:=zGg hw t h (by omega)
  have e3:((N:Int) - h)=((N - h:Nat):Int):=by omega
  rw[e3,zCv (zBf.2 q1) h1 (zBq.2 ⟨q1.box,⟨by omega,by omega⟩,by rw[q2];omega⟩),<- zMz,Nat.add_sub_cancel' hh]
 ·rw[zCv h0 (by decide) h2,zLv,zIp h2]
def zLq(x:Watch)(j:Nat):Prop:=∃ a c,x.Box.Cores[j]? = some a/\(zAk x.Box).Cores[j]? = some c/\a.Stopped=false/\c.Stopped=true
theorem M.hit_who{x:Watch}{j:Nat}(h:zLq x j):zC6 x.Box.Plan.Slots x.Box.Tick=j:=by
 obtain⟨a,c,ha,hc,h1,h2⟩:=h;refine Classical.byContradiction fun hn=>?_
 have:=zHr (m:=x.Box) hn
 rw[hc,ha] at this;obtain rfl:=Option.some.inj this;rw[h1] at h2;cases h2
structure M.WTK (x y:Watch) (t:List Int):Prop where
 wx:zK3 x
 wy:zK3 y
 sl:1<=y.Box.Plan.Slots.length
 tick:y.Box.Tick=x.Box.Tick+1
 plain:zCh x.Box=zAk x.Box
 miss:(∀ j:Nat,j < x.States.length->¬ zLq x j)->y=⟨zAk x.Box,x.States⟩
 hit:∀ j:Nat,zLq x j->∀ k:Nat,¬ k=j->y.States[k]? = x.States[k]?
 ns:y.States.length=x.States.length
theorem zNb(x:Watch)(t:List Int):zAo x t 1 1=⟨zI2,[]⟩\/M.WTK x (zAo x t 1 1) t:=by
 by_cases h:zBh x=true/\zD8 t=true/\x.Box.Tick < 100000
 case neg =>
  left;refine zDt ?_;cases h0:zBh x;·exact .inl rfl
  cases h1:zD8 t;·exact .inr (.inl rfl)
  ·have:=(zBf.1 h0).box.tick
   have h3:¬ x.Box.Tick < 100000:=fun e=>h ⟨h0,h1,e⟩
   exact .inr (.inr (by omega))
 obtain⟨h0,h1,h2⟩:=h;right;have hw:=zBf.1 h0;rw[zH1 h0 h1 h2];obtain⟨q1,q2⟩:=zKd hw h2 t;refine { wx:=hw,wy:=q1,sl:=?_,tick:=q2,plain:=if_pos ⟨zBj.2 hw.box,by omega⟩,miss:=fun hm=>?_,hit:=fun j hj k hk=>?_,ns:=?_ }
 ·rw[zHt];exact(zDi hw.box.ssv).1
 ·exact zHs hw (fun j a c hj ha hc h=>hm j hj ⟨a,c,ha,hc,h.1,h.2⟩)
 ·obtain⟨a,c,ha,hc,g1,g2⟩:=hj;rw[zJ4 ha hc g1 g2]
  show(x.States.set j _)[k]? = _
  exact List.getElem?_set_ne (by omega)
 ·unfold zBd
  split
  ·show(x.States.set _ _).length=_
   rw[List.length_set]
  ·rfl
def zK4(x:Watch)(k:Nat)(s:Int):Prop:=(s = -1/\∀ j:Nat,j < k->¬ zLq x j)\/∃ j:Nat,j < k/\s=j/\zLq x j
theorem zK4.step{x:Watch}{k:Nat}{s:Int}(_:zK4 x k s)(hk:zLq x k):zK4 x (k+1) k:=.inr ⟨k,by omega,rfl,hk⟩
theorem zK4.skip{x:Watch}{k:Nat}{s:Int}(h:zK4 x k s)(hk:¬ zLq x k):zK4 x (k+1) s:=by
 rcases h with ⟨h1,h2⟩ | ⟨j,h1,h2,h3⟩
 ·exact .inl ⟨h1,fun j hj=>by
   by_cases e:j=k
   ·rw[e];exact hk
   ·exact h2 j (by omega)⟩
 ·exact .inr ⟨j,by omega,h2,h3⟩
structure M.WFT (x y:Watch) (N:Nat) (act:Int):Prop where
 wx:zK3 x
 wy:zK3 y
 hn:N < x.States.length
 act0:0<=act/\act<=2
 ns:y.States.length=x.States.length
 nc:y.Box.Cores.length=x.Box.Cores.length
 nh:y.Box.Holds.length=x.Box.Holds.length
 tick:y.Box.Tick=x.Box.Tick
 states:∀ k:Nat,(k:Int)≠N->y.States[k]? = x.States[k]?
 cores:∀ k:Nat,(k:Int)≠N->y.Box.Cores[k]? = x.Box.Cores[k]?
 holds:∀ (k:Nat) (ch:Channel),x.Box.Plan.Channels[k]? = some ch->ch.To≠N->y.Box.Holds[k]? = x.Box.Holds[k]?
 stop:act=2->∃ c,y.Box.Cores[N]? = some c/\c.Stopped=true
 rest:act=1->y.Box=zBg x.Box N
theorem zNk{m:Machine}(h:zCr m){n:Nat}(hn:n < m.Cores.length):zGc m n=zBg m n:=by
 have hq:m.Plan.Parts[n]? = some (m.Plan.Parts[n]'(by rw[<- h.nc];exact hn)):=List.getElem?_eq_getElem _
 rw[zCl (zBj.2 h) hn hq];unfold zGc M.pc;rw[List.getD_eq_getElem?_getD,hq]
 rfl
theorem zGf(x:Watch)(t:List Int)(n f:Int):zAu x t n f=(⟨zI2,[]⟩,-1)\/∃ N:Nat,n=N/\M.WFT x (zAu x t n f).1 N (zAu x t n f).2:=by
 cases h:(zBh x && (zD8 t && (zA6 n 0 ((x.States.length:Int) - 1) && zA6 f 0 3)));·exact .inl (zAl h)
 right;simp only[Bool.and_eq_true] at h;obtain⟨h0,h1,h2,h3⟩:=h;have hi:=zA5.1 h2;obtain⟨N,rfl⟩:∃ N:Nat,n=N:=⟨n.toNat,by omega⟩
 have hw:=zBf.1 h0;have hN:N < x.States.length:=by omega
 have hNc:N < x.Box.Cores.length:=by have:=hw.ns;omega
 refine⟨N,rfl,?_⟩;rw[zD2 h0 h1 h2 h3];obtain⟨act,hact⟩:∃ act,(zC0 (x.States.getD N ⟨false,0⟩) t f).2=act:=⟨_,rfl⟩;obtain⟨st,hst⟩:∃ st,(zC0 (x.States.getD N ⟨false,0⟩) t f).1=st:=⟨_,rfl⟩;have e:zEx x t N f=(⟨zCj x.Box N act,x.States.set N st⟩,act):=by unfold zEx;rw[hact,hst]
 have hwv:=zMd hw hN t f;rw[e] at hwv ⊢;have hl:=zF8 x.Box N act;have ha:=zIu (h:=x.States.getD N ⟨false,0⟩) (t:=t) (f:=f);rw[hact] at ha;refine { wx:=hw,wy:=hwv,hn:=hN,act0:=by show 0<=act/\act<=2;omega,ns:=List.length_set ..,nc:=hl.1,nh:=hl.2.2.2,tick:=hl.2.2.1,states:=fun k hk=>List.getElem?_set_ne (by omega),cores:=fun k hk=>?_,holds:=fun k ch hc ht=>?_,stop:=fun h2=>?_,rest:=fun h1=>?_ }
 ·show(zCj x.Box N act).Cores[k]? = _
  unfold zCj zGc zB1 zFw;split;·exact List.getElem?_set_ne (by omega)
  ·split
   ·exact List.getElem?_set_ne (by omega)
   ·rfl
 ·show(zCj x.Box N act).Holds[k]? = _
  unfold zCj zGc zB1 zFw;split
  ·show(zD5 _ _ _ _)[k]? = _
   rw[zNh,if_neg (fun h=>ht (by have:=h.2.1;rw[hc] at this;simpa using this))]
  ·split<;>rfl
 ·have h2':act=2:=h2;subst h2';refine⟨zCs (x.Box.Cores.getD N zLo),?_,rfl⟩
  show(zCj x.Box N 2).Cores[N]? = _
  show(x.Box.Cores.set N _)[N]? = _
  exact List.getElem?_set_self hNc
 ·have h1':act=1:=h1;subst h1'
  show zGc x.Box N=_
  exact zNk hw.box hNc
set_option maxRecDepth 100000
theorem Rv.wbox{w:World}{v0 v1 v2 v3 v4 v5 v6 v7:Value}{x:Watch}(h:Rv w (.agg #[v0,v1,v2,v3,v4,v5,v6,v7]) x):Rv w (.agg #[v0,v1,v2,v3,v4,v5,v6]) x.Box:=by
 obtain⟨cs,F,e,⟨u0,u1,u2,u3,u4,u5,u7,F0,F1,F2,F3,F4,F5,F7,rfl,h0,h1,h2,h3,h4,h5,h7,r,rfl⟩⟩:=h;have e2:=congrArg (fun v=>match v with | .agg a=>a.toList|_ => []) e
 simp only[List.cons.injEq,and_true] at e2;obtain⟨rfl,rfl,rfl,rfl,rfl,rfl,rfl,rfl⟩:=e2;exact⟨_,_,rfl,⟨_,_,_,_,_,_,_,_,_,_,_,_,rfl,h0,h1,h2,h3,h4,h5,r,rfl⟩⟩
set_option maxHeartbeats 4000000
theorem lawWatchRun(v:Value)(xs:List By)(w:World)(h:Rs w v xs) :
  Calls Tryz.prog 5 #[v] w fun e w'=>e = .returned (.bool true)/\Ext w w':=by
 obtain⟨a,c,rfl,hl⟩:=h.form;have H:=zh h;clear h;by_cases hx:xs.length<=1048576
 case neg =>
  have hx2:1048576 < xs.length:=by omega
  clear hx;go_enter Tryz.func5,Tryz.ntmps5;go_wp2;go_ret;exact⟨rfl,zr w⟩
 go_enter Tryz.func5,Tryz.ntmps5;go_upto_region 4 with (go_at_call 21;refine(zHg _ _ _ H.out).mono ?_;rintro e w1 ⟨v1,x,vt,t,tk,rfl,hv,htt,ht,htk,he⟩;obtain⟨p0,q0,p1,q1,p2,q2,p3,q3,p4,q4,p5,q5,p7,q7,rfl,-⟩:=hv.openWc;have HV:=zh hv.rv;have HTT:=zh htt;have HE:=zh he;have HT:=zh ht;obtain⟨ta,tc,rfl,htl⟩:=ht.form;clear ht;clear hv htt he)
 obtain⟨A,hA⟩:∃ A,A=w1.heap.size:=⟨_,rfl⟩;refine zA1 (fun u=>Ext w1 u/\Bk u A [.slice p0 x.Box.Plan.Parts.length q0,.slice p1 x.Box.Plan.Channels.length q1,.slice p2 x.Box.Plan.Slots.length q2,.slice p3 x.Box.Programs.length q3,.slice p4 x.Box.Cores.length q4,.slice p5 x.Box.Holds.length q5,.int .i64 x.Box.Tick,.slice p7 x.States.length q7] 35) ⟨(zr _).alloc _,by rw[hA];exact Bk.new _ _ _⟩ ?_
 rw[<- hA];rintro W1 ⟨e1,kA⟩;clear hA H;replace HV:=zh (HV.out.ext e1);replace HT:=zh (HT.out.ext e1);replace HE:=zh (HE.out.tr e1);have KA:=zh kA;clear e1 kA;have E:=zh (zr W1);obtain⟨_,_,_,_,_,_,_,_,_,_,_,_,_,_,ee,s6,s0,-,s1,-,s2,-,s3,-,s4,-,s5,-,s7,-⟩:=HV.out.openWatch;have e9:=congrArg (fun v=>match v with | .agg a=>a.toList|_ => []) ee
 simp only[List.cons.injEq,Value.slice.injEq,and_true,true_and] at e9;obtain⟨⟨rfl,rfl⟩,⟨rfl,rfl⟩,⟨rfl,rfl⟩,⟨rfl,rfl⟩,⟨rfl,rfl⟩,⟨rfl,rfl⟩,⟨rfl,rfl⟩⟩:=e9;clear ee;obtain⟨hxs,hxc,hxh⟩:=zEb x HTT.out;obtain⟨y,hy⟩:∃ y,zAo x t tk 400=y:=⟨_,rfl⟩;have CI:=zh (fun(v vt:Value) (u:World) (h:Rv u v x) (k:Rs u vt t)=>zDb v vt x t tk u h k)
 have CS:=zh (fun(v vt:Value) (u:World) (h:Rv u v x) (k:Rs u vt t)=>zKz v vt x t tk u h k (zAg (by have:=htk.1;omega) (by have:=htk.2;omega)))
 have hcs:=zJ3 x t tk;rw[hy] at CI CS hcs;clear hy;obtain⟨fa0,fa1,fa2,fa3,fa4,fa5,fa6,fa7,faL⟩:=Bk.j8 (KA.out.ext E.out);go_upto_region 5 with (go_at_call 22;refine(CI.out _ _ _ HV.out HT.out).mono ?_;rintro e w2 ⟨v2,rfl,ho,he⟩;obtain⟨b0,d0,b1,d1,b2,d2,b3,d3,b4,d4,b5,d5,b7,d7,rfl,y6,t0,-,t1,-,t2,-,t3,-,t4,-,t5,-,t7,-⟩:=ho.rv.openWatch;have HR:=zh ho.rv;replace E:=zh (E.out.tr he);clear ho he CI)
 obtain⟨B,hB⟩:∃ B,B=w2.heap.size:=⟨_,rfl⟩;refine zA1 (fun u=>Ext w2 u/\Bk u B [.slice b0 y.Box.Plan.Parts.length d0,.slice b1 y.Box.Plan.Channels.length d1,.slice b2 y.Box.Plan.Slots.length d2,.slice b3 y.Box.Programs.length d3,.slice b4 y.Box.Cores.length d4,.slice b5 y.Box.Holds.length d5,.int .i64 y.Box.Tick,.slice b7 y.States.length d7] 35) ⟨(zr _).alloc _,by rw[hB];exact Bk.new _ _ _⟩ ?_
 rw[<- hB];rintro W3 ⟨eb,kb⟩;clear hB;have EB:=zh (E.out.tr eb);replace HV:=zh (HV.out.ext EB.out);replace HT:=zh (HT.out.ext EB.out);replace KA:=zh (KA.out.ext EB.out);replace s0:=zh (s0.out.ext EB.out);replace s1:=zh (s1.out.ext EB.out);replace s2:=zh (s2.out.ext EB.out);replace s3:=zh (s3.out.ext EB.out);replace s4:=zh (s4.out.ext EB.out);replace s5:=zh (s5.out.ext EB.out);replace s7:=zh (s7.out.ext EB.out);replace HR:=zh (HR.out.ext eb);replace t0:=zh (t0.out.ext eb);replace t1:=zh (t1.out.ext eb);replace t2:=zh (t2.out.ext eb);replace t3:=zh (t3.out.ext eb);replace t4:=zh (t4.out.ext eb);replace t5:=zh (t5.out.ext eb);replace t7:=zh (t7.out.ext eb);replace HE:=zh (HE.out.tr EB.out);have KB:=zh kb;clear eb kb EB E;have E:=zh (zr W3);clear fa0 fa1 fa2 fa3 fa4 fa5 fa6 fa7 faL;obtain⟨ga0,ga1,ga2,ga3,ga4,ga5,ga6,ga7,gaL⟩:=Bk.j8 (KA.out.ext E.out);obtain⟨gb0,gb1,gb2,gb3,gb4,gb5,gb6,gb7,gbL⟩:=Bk.j8 (KB.out.ext E.out)
 go_region_held3 (fun u=>u.cell? ⟨A,0,none⟩=some (.slice p0 x.Box.Plan.Parts.length q0)/\u.cell? ⟨A,1,none⟩=some (.slice p1 x.Box.Plan.Channels.length q1)/\u.cell? ⟨A,2,none⟩=some (.slice p2 x.Box.Plan.Slots.length q2)/\u.cell? ⟨A,3,none⟩=some (.slice p3 x.Box.Programs.length q3)/\u.cell? ⟨A,4,none⟩=some (.slice p4 x.Box.Cores.length q4)/\u.cell? ⟨A,5,none⟩=some (.slice p5 x.Box.Holds.length q5)/\u.cell? ⟨A,6,none⟩=some (.int .i64 x.Box.Tick)/\u.cell? ⟨A,7,none⟩=some (.slice p7 x.States.length q7)/\u.cell? ⟨B,0,none⟩=some (.slice b0 y.Box.Plan.Parts.length d0)/\u.cell? ⟨B,1,none⟩=some (.slice b1 y.Box.Plan.Channels.length d1)/\u.cell? ⟨B,2,none⟩=some (.slice b2 y.Box.Plan.Slots.length d2)/\u.cell? ⟨B,3,none⟩=some (.slice b3 y.Box.Programs.length d3)/\u.cell? ⟨B,4,none⟩=some (.slice b4 y.Box.Cores.length d4)/\u.cell? ⟨B,5,none⟩=some (.slice b5 y.Box.Holds.length d5)/\u.cell? ⟨B,6,none⟩=some (.int .i64 y.Box.Tick)/\u.cell? ⟨B,7,none⟩=some (.slice b7 y.States.length d7))
  (go_keep)
  (first
   | (go_at_call 23;refine(CS.out _ _ _ (HV.out.ext E.out.drew) (HT.out.ext E.out.drew)).mono ?_;rintro e wa ⟨v4,rfl,ho,he⟩;replace E:=zh (E.out.drew.tr he);have HR4:=zh ho.rv;clear ho CS;obtain⟨r0a0,r0a1,r0a2,r0a3,r0a4,r0a5,r0a6,r0a7,r0aL⟩:=Bk.j8 (KA.out.ext E.out);obtain⟨r0b0,r0b1,r0b2,r0b3,r0b4,r0b5,r0b6,r0b7,r0bL⟩:=Bk.j8 (KB.out.ext E.out);clear he)
   | (go_at_call 9;refine(law_sameWatch _ _ y _ (HR.out.ext E.out) HR4.out).mono ?_;rintro e wb ⟨rfl,he⟩;replace E:=zh (E.out.tr he);obtain⟨r1a0,r1a1,r1a2,r1a3,r1a4,r1a5,r1a6,r1a7,r1aL⟩:=Bk.j8 (KA.out.ext E.out);obtain⟨r1b0,r1b1,r1b2,r1b3,r1b4,r1b5,r1b6,r1b7,r1bL⟩:=Bk.j8 (KB.out.ext E.out);clear he;clear r0a0 r0a1 r0a2 r0a3 r0a4 r0a5 r0a6 r0a7 r0b0 r0b1 r0b2 r0b3 r0b4 r0b5 r0b6 r0b7 r0aL r0bL))
 clear ga0 ga1 ga2 ga3 ga4 ga5 ga6 ga7 gb0 gb1 gb2 gb3 gb4 gb5 gb6 gb7 gaL gbL;rcases hcs with rfl | ⟨T,rfl,wu⟩
 ·have hl:(⟨zI2,[]⟩:Watch).Box.Plan.Slots.length<=0:=Nat.le_refl _;have haK:=KB.out.ext E.out;have ha2:=haK.cell (j:=2) rfl;have haL:=haK.lt;clear haK;go_wp2_with (go_at_call 10;refine(law_alive _).mono ?_;rintro e w9 ⟨rfl,he⟩;replace E:=zh (E.out.tr he);clear he)
  go_ret;exact⟨rfl,HE.out.tr E.out⟩
 have hpos:=wu.sl;have hT4:=wu.le;have hy0:((y.Box.Plan.Slots.length:Int) == 0)=false:=by rw[beq_eq_false_iff_ne];omega
 have HYV:=zh (zBf.2 wu.wy);obtain⟨hf,hhf⟩:∃ hf:Nat,T / 2=hf:=⟨_,rfl⟩;have hfT:hf<=T:=by omega
 have hdiv:(T:Int) / 2=(hf:Int):=by omega
 have hdv2:(T:Int).tdiv 2=(hf:Int):=by rw[Int.tdiv_eq_ediv_of_nonneg (by omega)];omega
 have hw1:IntKind.i64.wrap (hf:Int)=(hf:Int):=zAx (by omega) (by omega)
 have hw2:IntKind.i64.wrap ((T:Int) - (hf:Int))=(T:Int) - (hf:Int):=zAx (by omega) (by omega)
 have hhalf:=wu.half hf hfT;have hcalm:=wu.calm;obtain⟨yh,hyh⟩:∃ yh,zAo x t hf 400=yh:=⟨_,rfl⟩;obtain⟨z,hz⟩:∃ z,zAo x [0,0,0] T 400=z:=⟨_,rfl⟩;rw[hyh] at hhalf;rw[hz] at hcalm;have D0:=zh (fun(v vt:Value) (u:World) (h:Rv u v x) (k:Rs u vt [0,0,0])=>zDb v vt x [0,0,0] T u h k)
 have D1:=zh (fun(v vt:Value) (u:World) (h:Rv u v x) (k:Rs u vt t)=>zDb v vt x t hf u h k)
 have D2:=zh (fun(v vt:Value) (u:World) (h:Rv u v yh) (k:Rs u vt t)=>zDb v vt yh t ((T:Int) - hf) u h k)
 have D3:=zh (fun(v:Value) (u:World) (h:Rv u v x.Box)=>zJ6 v x.Box T u h)
 rw[hz] at D0;rw[hyh] at D1;rw[hhalf] at D2;rw[<- hcalm] at D3;clear hhalf hcalm hyh hz wu hhf htk;obtain⟨ha0,ha1,ha2,ha3,ha4,ha5,ha6,ha7,haL⟩:=Bk.j8 (KA.out.ext E.out);have hbK:=KB.out.ext E.out;have hb2:=hbK.cell (j:=2) rfl;have hbL:=hbK.lt;clear hbK;go_upto_region 11 with (go_at_call 22;refine(D0.out _ _ _ (HV.out.ext (E.out.tr ((zr _).alloc _))) (Rsb.intsT (L:=0) [] [0,0,0] (Bk.new _ _ _) (by simp;exact⟨by decide,by decide⟩) (Nat.zero_le _) (by simp) (by omega)).rs).mono ?_;rintro e w6 ⟨v6,rfl,ho,he⟩;obtain⟨g0,i0,g1,i1,g2,i2,g3,i3,g4,i4,g5,i5,g7,i7,rfl,z6,-⟩:=ho.rv.openWatch;have HZ:=zh ho.rv;replace E:=zh ((E.out.tr ((zr _).alloc _)).tr he);clear ho he D0)
 obtain⟨C,hC⟩:∃ B,B=w6.heap.size:=⟨_,rfl⟩;refine zA1 (fun u=>Ext w6 u/\Bk u C [.slice g0 z.Box.Plan.Parts.length i0,.slice g1 z.Box.Plan.Channels.length i1,.slice g2 z.Box.Plan.Slots.length i2,.slice g3 z.Box.Programs.length i3,.slice g4 z.Box.Cores.length i4,.slice g5 z.Box.Holds.length i5,.int .i64 z.Box.Tick,.slice g7 z.States.length i7] 35) ⟨(zr _).alloc _,by rw[hC];exact Bk.new _ _ _⟩ ?_
 rw[<- hC];rintro W4 ⟨eb,kb⟩;clear hC;have EB:=zh (E.out.tr eb);replace HV:=zh (HV.out.ext EB.out);replace HT:=zh (HT.out.ext EB.out);replace HR:=zh (HR.out.ext EB.out);replace KA:=zh (KA.out.ext EB.out);replace KB:=zh (KB.out.ext EB.out);replace s0:=zh (s0.out.ext EB.out);replace s1:=zh (s1.out.ext EB.out);replace s2:=zh (s2.out.ext EB.out);replace s3:=zh (s3.out.ext EB.out);replace s4:=zh (s4.out.ext EB.out);replace s5:=zh (s5.out.ext EB.out);replace s7:=zh (s7.out.ext EB.out);replace t0:=zh (t0.out.ext EB.out);replace t1:=zh (t1.out.ext EB.out);replace t2:=zh (t2.out.ext EB.out);replace t3:=zh (t3.out.ext EB.out);replace t4:=zh (t4.out.ext EB.out);replace t5:=zh (t5.out.ext EB.out);replace t7:=zh (t7.out.ext EB.out);replace HZ:=zh (HZ.out.ext eb);replace HE:=zh (HE.out.tr EB.out);have KC:=zh kb;clear eb kb EB E;have E:=zh (zr W4);obtain⟨ja0,ja1,ja2,ja3,ja4,ja5,ja6,ja7,jaL⟩:=Bk.j8 (KA.out.ext E.out);obtain⟨jb0,jb1,jb2,jb3,jb4,jb5,jb6,jb7,jbL⟩:=Bk.j8 (KB.out.ext E.out);obtain⟨jc0,jc1,jc2,jc3,jc4,jc5,jc6,jc7,jcL⟩:=Bk.j8 (KC.out.ext E.out);refine wp_region_held_drew (S:=fun u=>u.cell? ⟨A,0,none⟩=some (.slice p0 x.Box.Plan.Parts.length q0)/\u.cell? ⟨A,1,none⟩=some (.slice p1 x.Box.Plan.Channels.length q1)/\u.cell? ⟨A,2,none⟩=some (.slice p2 x.Box.Plan.Slots.length q2)/\u.cell? ⟨A,3,none⟩=some (.slice p3 x.Box.Programs.length q3)/\u.cell? ⟨A,4,none⟩=some (.slice p4 x.Box.Cores.length q4)/\u.cell? ⟨A,5,none⟩=some (.slice p5 x.Box.Holds.length q5)/\u.cell? ⟨A,6,none⟩=some (.int .i64 x.Box.Tick)/\u.cell? ⟨A,7,none⟩=some (.slice p7 x.States.length q7)/\u.cell? ⟨B,0,none⟩=some (.slice b0 y.Box.Plan.Parts.length d0)/\u.cell? ⟨B,1,none⟩=some (.slice b1 y.Box.Plan.Channels.length d1)/\u.cell? ⟨B,2,none⟩=some (.slice b2 y.Box.Plan.Slots.length d2)/\u.cell? ⟨B,3,none⟩=some (.slice b3 y.Box.Programs.length d3)/\u.cell? ⟨B,4,none⟩=some (.slice b4 y.Box.Cores.length d4)/\u.cell? ⟨B,5,none⟩=some (.slice b5 y.Box.Holds.length d5)/\u.cell? ⟨B,6,none⟩=some (.int .i64 y.Box.Tick)/\u.cell? ⟨B,7,none⟩=some (.slice b7 y.States.length d7)/\u.cell? ⟨C,0,none⟩=some (.slice g0 z.Box.Plan.Parts.length i0)/\u.cell? ⟨C,1,none⟩=some (.slice g1 z.Box.Plan.Channels.length i1)/\u.cell? ⟨C,2,none⟩=some (.slice g2 z.Box.Plan.Slots.length i2)/\u.cell? ⟨C,3,none⟩=some (.slice g3 z.Box.Programs.length i3)/\u.cell? ⟨C,4,none⟩=some (.slice g4 z.Box.Cores.length i4)/\u.cell? ⟨C,5,none⟩=some (.slice g5 z.Box.Holds.length i5)/\u.cell? ⟨C,6,none⟩=some (.int .i64 z.Box.Tick)/\u.cell? ⟨C,7,none⟩=some (.slice g7 z.States.length i7)) (by kernel_rfl) ?_ (fun hHeld=>?_)
 ·(try dsimp only)<;>go_keep
 refine hT 0 ?_;refine hC 1 fun K hK=>?_
 go_simp;(go_at_call 13;refine(zAn _ y _ (HR.out.ext E.out.drew)).mono ?_;rintro e wa ⟨rfl,he⟩;replace E:=zh (E.out.drew.tr he);rw[HYV.out];obtain⟨r0a0,r0a1,r0a2,r0a3,r0a4,r0a5,r0a6,r0a7,r0aL⟩:=Bk.j8 (KA.out.ext E.out);obtain⟨r0b0,r0b1,r0b2,r0b3,r0b4,r0b5,r0b6,r0b7,r0bL⟩:=Bk.j8 (KB.out.ext E.out);obtain⟨r0c0,r0c1,r0c2,r0c3,r0c4,r0c5,r0c6,r0c7,r0cL⟩:=Bk.j8 (KC.out.ext E.out);clear he);try go_wp2_with fail
 refine hK.out _ _ ?_ (fun hHeld=>?_)
 ·(try dsimp only)<;>go_keep
 clear hK K;try simp only[Act.put,zs]
 refine hT 2 ?_;refine hT 3 ?_;refine hT 4 ?_;refine hT 5 ?_;refine hT 7 ?_;refine hT 8 ?_;refine hT 9 ?_;refine hT 10 ?_;refine hT 12 ?_;refine hC 6 fun K hK=>?_
 go_simp;(go_at_call 22;refine(D1.out _ _ _ (HV.out.ext E.out) (HT.out.ext E.out)).mono ?_;rintro e wb ⟨v7,rfl,ho,he⟩;replace E:=zh (E.out.tr he);have HO7:=zh ho.rv;clear ho D1;obtain⟨r1a0,r1a1,r1a2,r1a3,r1a4,r1a5,r1a6,r1a7,r1aL⟩:=Bk.j8 (KA.out.ext E.out);obtain⟨r1b0,r1b1,r1b2,r1b3,r1b4,r1b5,r1b6,r1b7,r1bL⟩:=Bk.j8 (KB.out.ext E.out);obtain⟨r1c0,r1c1,r1c2,r1c3,r1c4,r1c5,r1c6,r1c7,r1cL⟩:=Bk.j8 (KC.out.ext E.out);clear he;clear r0a0 r0a1 r0a2 r0a3 r0a4 r0a5 r0a6 r0a7 r0b0 r0b1 r0b2 r0b3 r0b4 r0b5 r0b6 r0b7 r0c0 r0c1 r0c2 r0c3 r0c4 r0c5 r0c6 r0c7 r0aL r0bL r0cL);try go_wp2_with fail
 refine hK.out _ _ ?_ (fun hHeld=>?_)
 ·(try dsimp only)<;>go_keep
 clear hK K;try simp only[Act.put,zs]
 refine hC 11 fun K hK=>?_
 go_simp;(go_at_call 22;refine(D2.out _ _ _ HO7.out (HT.out.ext E.out)).mono ?_;rintro e wc ⟨v8,rfl,ho,he⟩;replace E:=zh (E.out.tr he);have HO8:=zh ho.rv;clear ho D2;obtain⟨r2a0,r2a1,r2a2,r2a3,r2a4,r2a5,r2a6,r2a7,r2aL⟩:=Bk.j8 (KA.out.ext E.out);obtain⟨r2b0,r2b1,r2b2,r2b3,r2b4,r2b5,r2b6,r2b7,r2bL⟩:=Bk.j8 (KB.out.ext E.out);obtain⟨r2c0,r2c1,r2c2,r2c3,r2c4,r2c5,r2c6,r2c7,r2cL⟩:=Bk.j8 (KC.out.ext E.out);clear he;clear r1a0 r1a1 r1a2 r1a3 r1a4 r1a5 r1a6 r1a7 r1b0 r1b1 r1b2 r1b3 r1b4 r1b5 r1b6 r1b7 r1c0 r1c1 r1c2 r1c3 r1c4 r1c5 r1c6 r1c7 r1aL r1bL r1cL);try go_wp2_with fail
 refine hK.out _ _ ?_ (fun hHeld=>?_)
 ·(try dsimp only)<;>go_keep
 clear hK K;try simp only[Act.put,zs]
 refine hC 13 fun K hK=>?_
 go_simp;(go_at_call 9;refine(law_sameWatch _ _ y _ HO8.out (HR.out.ext E.out)).mono ?_;rintro e wd ⟨rfl,he⟩;replace E:=zh (E.out.tr he);obtain⟨r3a0,r3a1,r3a2,r3a3,r3a4,r3a5,r3a6,r3a7,r3aL⟩:=Bk.j8 (KA.out.ext E.out);obtain⟨r3b0,r3b1,r3b2,r3b3,r3b4,r3b5,r3b6,r3b7,r3bL⟩:=Bk.j8 (KB.out.ext E.out);obtain⟨r3c0,r3c1,r3c2,r3c3,r3c4,r3c5,r3c6,r3c7,r3cL⟩:=Bk.j8 (KC.out.ext E.out);clear he;clear r2a0 r2a1 r2a2 r2a3 r2a4 r2a5 r2a6 r2a7 r2b0 r2b1 r2b2 r2b3 r2b4 r2b5 r2b6 r2b7 r2c0 r2c1 r2c2 r2c3 r2c4 r2c5 r2c6 r2c7 r2aL r2bL r2cL);try go_wp2_with fail
 refine hK.out _ _ ?_ (fun hHeld=>?_)
 ·(try dsimp only)<;>go_keep
 clear hK K;try simp only[Act.put,zs]
 refine hT 14 ?_;refine hT 15 ?_;refine hT 16 ?_;refine hT 17 ?_;refine hT 18 ?_;refine hT 19 ?_;refine hT 20 ?_;refine hC 21 fun K hK=>?_
 go_simp;(go_at_call 24;refine(D3.out _ _ (HV.out.wbox.ext E.out)).mono ?_;rintro e we ⟨v9,rfl,ho,he⟩;replace E:=zh (E.out.tr he);have HO9:=zh ho.rv;clear ho D3;obtain⟨r4a0,r4a1,r4a2,r4a3,r4a4,r4a5,r4a6,r4a7,r4aL⟩:=Bk.j8 (KA.out.ext E.out);obtain⟨r4b0,r4b1,r4b2,r4b3,r4b4,r4b5,r4b6,r4b7,r4bL⟩:=Bk.j8 (KB.out.ext E.out);obtain⟨r4c0,r4c1,r4c2,r4c3,r4c4,r4c5,r4c6,r4c7,r4cL⟩:=Bk.j8 (KC.out.ext E.out);clear he;clear r3a0 r3a1 r3a2 r3a3 r3a4 r3a5 r3a6 r3a7 r3b0 r3b1 r3b2 r3b3 r3b4 r3b5 r3b6 r3b7 r3c0 r3c1 r3c2 r3c3 r3c4 r3c5 r3c6 r3c7 r3aL r3bL r3cL);try go_wp2_with fail
 refine hK.out _ _ ?_ (fun hHeld=>?_)
 ·(try dsimp only)<;>go_keep
 clear hK K;try simp only[Act.put,zs]
 refine hC 22 fun K hK=>?_
 go_simp;(go_at_call 14;refine(law_sameMachine _ _ z.Box _ (HZ.out.wbox.ext E.out) HO9.out).mono ?_;rintro e wf ⟨rfl,he⟩;replace E:=zh (E.out.tr he);obtain⟨r5a0,r5a1,r5a2,r5a3,r5a4,r5a5,r5a6,r5a7,r5aL⟩:=Bk.j8 (KA.out.ext E.out);obtain⟨r5b0,r5b1,r5b2,r5b3,r5b4,r5b5,r5b6,r5b7,r5bL⟩:=Bk.j8 (KB.out.ext E.out);obtain⟨r5c0,r5c1,r5c2,r5c3,r5c4,r5c5,r5c6,r5c7,r5cL⟩:=Bk.j8 (KC.out.ext E.out);clear he;clear r4a0 r4a1 r4a2 r4a3 r4a4 r4a5 r4a6 r4a7 r4b0 r4b1 r4b2 r4b3 r4b4 r4b5 r4b6 r4b7 r4c0 r4c1 r4c2 r4c3 r4c4 r4c5 r4c6 r4c7 r4aL r4bL r4cL);try go_wp2_with fail
 refine hK.out _ _ ?_ (fun hHeld=>?_)
 ·(try dsimp only)<;>go_keep
 clear hK K;try simp only[Act.put,zs]
 refine hT 23 ?_;refine hT 24 ?_;refine wpAnyH_done (by kernel_rfl) ?_ _
 go_wp2;go_ret;exact⟨rfl,HE.out.tr E.out⟩
end Sk
