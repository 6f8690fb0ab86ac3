/- Contracts of functions of the given program. -/
import Derived.Test.YtpjdkfkfmebphaaGreatZzzbSfI
namespace Sk
open Go Go.Proofs Go.RowKit
set_option maxHeartbeats 1000000
set_option linter.unusedVariables false
set_option linter.unusedSimpArgs false
theorem zOa{xs:List Slot}(h:zM2 xs)(n:Int){t:Int}(ht:0<=t):zEb xs n (t+1)=zEb xs n t+(if zC8 xs t=n then 1 else 0):=by
 obtain⟨T,rfl⟩:∃ T:Nat,t=T:=⟨t.toNat,by omega⟩
 have hL:1<=zDb xs:=(zM2.fl h).1;have e1:((T:Int)+1).toNat=T+1:=by omega
 have hr:T % zDb xs < zDb xs:=Nat.mod_lt _ hL;have hr2:T % zDb xs < (zAm xs).length:=hr;have e2:zC8 xs T=(zAm xs)[T % zDb xs]:=by
  unfold zC8;rw[Int.toNat_natCast,List.getD_eq_getElem?_getD,List.getElem?_eq_getElem hr2];rfl
 have e3:((zAm xs).take (T % zDb xs+1)).count n=((zAm xs).take (T % zDb xs)).count n+(if zC8 xs T=n then 1 else 0):=by
  rw[List.take_succ_eq_append_getElem hr2,List.count_append,e2,List.count_singleton];simp only[beq_iff_eq]
 have e4:zDb xs*(T / zDb xs)+T % zDb xs=T:=Nat.div_add_mod T (zDb xs);unfold zEb;rw[e1,Int.toNat_natCast];by_cases hlt:T % zDb xs+1 < zDb xs
 ·have d1:(T+1) / zDb xs=T / zDb xs:=by
   have:T+1=(T % zDb xs+1)+zDb xs*(T / zDb xs):=by omega
   rw[this,Nat.add_mul_div_left _ _ hL,Nat.div_eq_of_lt hlt,Nat.zero_add]
  have d2:(T+1) % zDb xs=T % zDb xs+1:=by
   have:T+1=(T % zDb xs+1)+zDb xs*(T / zDb xs):=by omega
   rw[this,Nat.add_mul_mod_self_left,Nat.mod_eq_of_lt hlt]
  rw[d1,d2,e3]
  split<;>omega
 ·have d0:T+1=zDb xs*(T / zDb xs+1):=by rw[Nat.mul_succ];omega
  have d1:(T+1) / zDb xs=T / zDb xs+1:=by rw[d0,Nat.mul_div_cancel_left _ hL]
  have d2:(T+1) % zDb xs=0:=by rw[d0,Nat.mul_mod_right]
  have e5:((zAm xs).take (T % zDb xs+1)).count n=(zAm xs).count n:=by
   rw[List.take_of_length_le (by show zDb xs<=_;omega)]
  rw[e5] at e3;rw[d1,d2,List.take_zero,List.count_nil,Nat.succ_mul]
  split at e3<;>split<;>first|omega|contradiction
theorem M.sentN_own{m:Machine}(h:zBl m)(n c:Int):∀ T:Nat,m.Tick+T<=100000->(zFb m n c T:Int)<=zEb m.Plan.Slots n (m.Tick+T) - zEb m.Plan.Slots n m.Tick:=by
 intro T
 induction T with
 | zero=>intro _;simp[zFb]
 | succ T ih =>
  intro ht
  have:=ih (by omega)
  obtain⟨h1,h2,h3,h4,h5,h6⟩:=zEo h T (by omega)
  have h0:=h.tick.1;have e:=zOa (zM2.of h.ssv) n (t:=m.Tick+T) (by omega)
  rw[show m.Tick+((T+1:Nat):Int)=m.Tick+T+1 by omega,e]
  cases hs:zJj (zC1 m T) n c;·rw[zP5 hs];split<;>omega
  ·rw[zP6 hs];have hw:zC8 m.Plan.Slots (m.Tick+T)=n:=by
    unfold zJj at hs;simp only[Bool.and_eq_true,decide_eq_true_eq] at hs;rw[<- h3,<- h2];exact hs.1
   rw[if_pos hw];omega
theorem zGd.trace{a b:Machine}{n:Nat}(h:zGd a b n):∀ T:Nat,a.Tick+T<=100000->zBe a n T=zBe b n T:=by
 intro T
 induction T with
 | zero=>intro _;rfl
 | succ T ih =>
  intro ht
  show zBe a n T++_=zBe b n T++_
  rw[ih (by omega),(h.runS (T+1) ht).view]
theorem zPv{α:Type}(l:List α)(k:Nat)(v : α):(l.set k v)[k]? = l[k]?.map (fun _=>v):=by
 by_cases h:k < l.length
 ·rw[List.getElem?_set_self h,List.getElem?_eq_getElem h];rfl
 ·rw[List.getElem?_eq_none (by simpa using Nat.le_of_not_lt h),List.getElem?_eq_none (by omega)];rfl
theorem zJc(f:Nat->Bool)(m:Machine)(j:Nat):∀ k,(zDa f m k).Programs[j]? = if j < k/\f j=false then m.Programs[j]?.map (fun _ => [zJ5]) else m.Programs[j]?:=by
 intro k
 induction k with
 | zero=>simp[zDa]
 | succ k ih =>
  unfold zDa;cases hf:f k
  ·simp only[Bool.false_eq_true,if_false,zKv];by_cases e:j=k
   ·subst e;rw[zPv,ih,if_neg (by omega),if_pos ⟨by omega,hf⟩]
   ·rw[List.getElem?_set_ne (by omega),ih]
    have:(j < k+1/\f j=false) ↔ (j < k/\f j=false):=⟨fun h=>⟨by omega,h.2⟩,fun h=>⟨by omega,h.2⟩⟩
    simp only[this]
  ·simp only[if_true];rw[ih]
   have:(j < k+1/\f j=false) ↔ (j < k/\f j=false):=⟨fun h=>⟨by
    by_cases e:j=k
    ·subst e;rw[hf] at h;cases h.2
    ·omega,h.2⟩,fun h=>⟨by omega,h.2⟩⟩
   simp only[this]
theorem zJb(f:Nat->Bool)(m:Machine)(j:Nat):∀ k,(zDa f m k).Cores[j]? = if j < k/\f j=false then m.Cores[j]?.map (fun _=>zAo (zM0 m j)) else m.Cores[j]?:=by
 intro k
 induction k with
 | zero=>simp[zDa]
 | succ k ih =>
  have hp:zM0 (zDa f m k) k=zM0 m k:=by unfold zM0;rw[(zCl f m k).2.1]
  unfold zDa;cases hf:f k
  ·simp only[Bool.false_eq_true,if_false,zKv];by_cases e:j=k
   ·subst e;rw[zPv,ih,if_neg (by omega),if_pos ⟨by omega,hf⟩,hp]
   ·rw[List.getElem?_set_ne (by omega),ih]
    have:(j < k+1/\f j=false) ↔ (j < k/\f j=false):=⟨fun h=>⟨by omega,h.2⟩,fun h=>⟨by omega,h.2⟩⟩
    simp only[this]
  ·simp only[if_true];rw[ih]
   have:(j < k+1/\f j=false) ↔ (j < k/\f j=false):=⟨fun h=>⟨by
    by_cases e:j=k
    ·subst e;rw[hf] at h;cases h.2
    ·omega,h.2⟩,fun h=>⟨by omega,h.2⟩⟩
   simp only[this]
theorem zLg{a b:Machine}(h1:a.Plan=b.Plan)(h2:a.Programs=b.Programs)(h3:a.Cores=b.Cores)(h4:a.Holds=b.Holds)(h5:a.Tick=b.Tick):a=b:=by
 cases a;cases b;simp_all
theorem zLr{α:Type}{p:Prop}[Decidable p](g : α -> α)(hg:∀ x,g (g x)=g x)(x : α):(if p then g (if p then g x else x) else (if p then g x else x))=(if p then g x else x):=by
 split
 ·exact hg x
 ·rfl
theorem zHv{α:Type}(v : α)(o:Option α):(o.map (fun _=>v)).map (fun _=>v)=o.map (fun _=>v):=by cases o<;>rfl
structure M.FG (m y:Machine) (N:Nat):Prop where
 sf:zGd y m N
 plan:y.Plan=m.Plan
 tick:y.Tick=m.Tick
 idem:zDc y N=y
theorem M.FG.of{m:Machine}{N:Nat}(h:zBl m)(hN:N < m.Cores.length):M.FG m (zDc m N) N:=by
 have hs:zBs m N=true:=zBt.2 ⟨h,by omega,by omega⟩
 have e:=zFq hs;obtain⟨h1,h2,h3,h4,h5,h6,h7,h8,h9,h10⟩:=zCl (zF0 m N) m m.Cores.length;have hv:=M.fgI_MV h (zF0 m N) m.Cores.length (Nat.le_refl _);rw[e];obtain⟨y,hy⟩:∃ y,zCe (zF0 m N) m m.Cores.length=y:=⟨_,rfl⟩;have hP:∀ j:Nat,y.Programs[j]? = if j < m.Cores.length/\zF0 m N j=false then m.Programs[j]?.map (fun _ => [zJ5]) else m.Programs[j]?:=fun j=>by
  rw[<- hy,h3];exact zJc _ m j _
 have hC:∀ j:Nat,y.Cores[j]? = if j < m.Cores.length/\zF0 m N j=false then m.Cores[j]?.map (fun _=>zAo (zM0 m j)) else m.Cores[j]?:=fun j=>by
  rw[<- hy,h4];exact zJb _ m j _
 have hH:∀ j:Nat,y.Holds[j]? = if (∃ c,m.Plan.Channels[j]? = some c/\0<=c.To/\c.To < m.Cores.length/\zF0 m N c.To.toNat=false) then m.Holds[j]?.map (fun _=>⟨[]⟩) else m.Holds[j]?:=fun j=>by
  rw[<- hy];exact zLb _ m j _
 rw[hy] at h1 h5 h7 h8 h9 hv;rw[hy];have hne:∀ k:Nat,zB8 y N k->zF0 m N k=true:=fun k hk=>by
  rw[zF4 h1 h7 N k] at hk;obtain⟨K,e1,e2⟩:=hk;obtain rfl:k=K:=by omega
  unfold zF0;rw[Int.toNat_natCast];exact e2
 have hff:zF0 y N=zF0 m N:=by funext k;unfold zF0;rw[h1,h7]
 refine { sf:={ ma:=hv,mb:=h,hn:=by rw[h7];exact hN,tick:=h5,plan:=h1,progs:=fun k hk=>?_,cores:=fun k hk=>?_,holds:=fun k ch hc hk=>?_ },plan:=h1,tick:=h5,idem:=?_ }
 ·rw[hP,if_neg (fun g=>by rw[hne k hk] at g;cases g.2)]
 ·rw[hC,if_neg (fun g=>by rw[hne k hk] at g;cases g.2)]
 ·rw[hH,if_neg];rintro⟨c,e1,e2,e3,e4⟩;rw[h1,e1] at hc;obtain rfl:=Option.some.inj hc
  have:=hne c.To.toNat (by rw[show((c.To.toNat:Nat):Int)=c.To by omega];exact hk)
  rw[this] at e4;cases e4
 ·have hs2:zBs y N=true:=zBt.2 ⟨hv,by omega,by rw[h7];omega⟩
  rw[zFq hs2,hff,h7];obtain⟨k1,k2,k3,k4,k5,k6,k7,k8,k9,k10⟩:=zCl (zF0 m N) y m.Cores.length;refine zLg k1 (List.ext_getElem? fun j=>?_) (List.ext_getElem? fun j=>?_) (List.ext_getElem? fun j=>?_) k5
  ·rw[k3,zJc,hP];exact zLr (fun o:Option (List Order)=>o.map (fun _ => [zJ5])) (zHv _) _
  ·rw[k4,zJb,hC,show zM0 y j=zM0 m j by unfold zM0;rw[h1]]
   exact zLr (fun o:Option Core=>o.map (fun _=>zAo (zM0 m j))) (zHv _) _
  ·rw[zLb,h1,hH];exact zLr (fun o:Option Hold=>o.map (fun _=>⟨[]⟩)) (zHv _) _
set_option maxHeartbeats 4000000
set_option maxRecDepth 100000
theorem zK0(v:Value)(xs:List By)(w:World)(h:Rs w v xs) :
  Calls Tryz.prog 3 #[v] w fun e w'=>e = .returned (.bool true)/\Ext w w':=by
 obtain⟨a,c,rfl,hl⟩:=h.form;have H:=zh h;clear h;by_cases hx:xs.length<=1048576
 case neg =>
  have hx2:1048576 < xs.length:=by omega
  clear hx;go_enter Tryz.func3,Tryz.ntmps3;go_wp2;go_ret;exact⟨rfl,zr w⟩
 go_enter Tryz.func3,Tryz.ntmps3;go_upto_region 4 with (go_at_call 5;refine(zFl _ _ _ H.out).mono ?_;rintro e w1 ⟨v1,x,n,rfl,hv,htt,hn,he⟩;obtain⟨p0,q0,p1,q1,p2,q2,p3,q3,p4,q4,p5,q5,rfl,-⟩:=hv.openMc;have HV:=zh hv.rv;have HTT:=zh htt;have HE:=zh he;clear hv htt he)
 obtain⟨A,hA⟩:∃ A,A=w1.heap.size:=⟨_,rfl⟩;refine zA1 (fun u=>Ext w1 u/\Bk u A [.slice p0 x.Plan.Parts.length q0,.slice p1 x.Plan.Channels.length q1,.slice p2 x.Plan.Slots.length q2,.slice p3 x.Programs.length q3,.slice p4 x.Cores.length q4,.slice p5 x.Holds.length q5,.int .i64 x.Tick] 32) ⟨(zr _).alloc _,by rw[hA];exact Bk.new _ _ _⟩ ?_
 rw[<- hA];rintro W1 ⟨e1,kA⟩;clear hA H;replace HV:=zh (HV.out.ext e1);replace HE:=zh (HE.out.tr e1);have KA:=zh kA;clear e1 kA;have E:=zh (zr W1);obtain⟨_,_,_,_,_,_,_,_,_,_,_,_,ee,r6,s0,-,s1,-,s2,-,s3,-,s4,-,s5,-⟩:=HV.out.openMachine;have e9:=congrArg (fun v=>match v with | .agg a=>a.toList|_ => []) ee
 simp only[List.cons.injEq,Value.slice.injEq,and_true,true_and] at e9;obtain⟨⟨rfl,rfl⟩,⟨rfl,rfl⟩,⟨rfl,rfl⟩,⟨rfl,rfl⟩,⟨rfl,rfl⟩,⟨rfl,rfl⟩⟩:=e9;clear ee;have hxc:x.Cores.length<=200000:=by
  have h1:=zD4 x;have h2:=zB7 (xs:=x.Cores)
  have:=HTT.out
  omega
 have hxh:x.Holds.length<=200000:=by
  have h1:=zD4 x;have h2:=zB7 (xs:=x.Holds)
  have:=HTT.out
  omega
 obtain⟨hn1,hn2⟩:=hn;obtain⟨y,hy⟩:∃ y,zDc x n=y:=⟨_,rfl⟩;have CI:=zh (fun(v:Value) (u:World) (h:Rv u v x)=>zEg v x n u h)
 have CS:=zh (fun(v:Value) (u:World) (h:Rv u v x)=>zI2 v x n u h)
 rw[hy] at CI CS;have HY:=zh hy;clear hy;obtain⟨fa0,fa1,fa2,fa3,fa4,fa5,fa6,faL⟩:=Bk.j7 (KA.out.ext E.out);go_upto_region 5 with (go_at_call 6;refine(CI.out _ _ HV.out).mono ?_;rintro e w2 ⟨v2,rfl,ho,he⟩;obtain⟨b0,d0,b1,d1,b2,d2,b3,d3,b4,d4,b5,d5,rfl,y6,t0,-,t1,-,t2,-,t3,-,t4,-,t5,-⟩:=ho.rv.openMachine;have HR:=zh ho.rv;replace E:=zh (E.out.tr he);clear ho he)
 obtain⟨B,hB⟩:∃ B,B=w2.heap.size:=⟨_,rfl⟩;refine zA1 (fun u=>Ext w2 u/\Bk u B [.slice b0 y.Plan.Parts.length d0,.slice b1 y.Plan.Channels.length d1,.slice b2 y.Plan.Slots.length d2,.slice b3 y.Programs.length d3,.slice b4 y.Cores.length d4,.slice b5 y.Holds.length d5,.int .i64 y.Tick] 32) ⟨(zr _).alloc _,by rw[hB];exact Bk.new _ _ _⟩ ?_
 rw[<- hB];rintro W3 ⟨eb,kb⟩;clear hB;have EB:=zh (E.out.tr eb);replace HV:=zh (HV.out.ext EB.out);replace KA:=zh (KA.out.ext EB.out);replace s0:=zh (s0.out.ext EB.out);replace s1:=zh (s1.out.ext EB.out);replace s2:=zh (s2.out.ext EB.out);replace s3:=zh (s3.out.ext EB.out);replace s4:=zh (s4.out.ext EB.out);replace s5:=zh (s5.out.ext EB.out);replace HR:=zh (HR.out.ext eb);replace t0:=zh (t0.out.ext eb);replace t1:=zh (t1.out.ext eb);replace t2:=zh (t2.out.ext eb);replace t3:=zh (t3.out.ext eb);replace t4:=zh (t4.out.ext eb);replace t5:=zh (t5.out.ext eb);replace HE:=zh (HE.out.tr EB.out);have KB:=zh kb;clear eb kb EB E;have E:=zh (zr W3);clear fa0 fa1 fa2 fa3 fa4 fa5 fa6 faL;obtain⟨ga0,ga1,ga2,ga3,ga4,ga5,ga6,gaL⟩:=Bk.j7 (KA.out.ext E.out);obtain⟨gb0,gb1,gb2,gb3,gb4,gb5,gb6,gbL⟩:=Bk.j7 (KB.out.ext E.out)
 go_region_held3 (fun u=>u.cell? ⟨A,0,none⟩=some (.slice p0 x.Plan.Parts.length q0)/\u.cell? ⟨A,1,none⟩=some (.slice p1 x.Plan.Channels.length q1)/\u.cell? ⟨A,2,none⟩=some (.slice p2 x.Plan.Slots.length q2)/\u.cell? ⟨A,3,none⟩=some (.slice p3 x.Programs.length q3)/\u.cell? ⟨A,4,none⟩=some (.slice p4 x.Cores.length q4)/\u.cell? ⟨A,5,none⟩=some (.slice p5 x.Holds.length q5)/\u.cell? ⟨A,6,none⟩=some (.int .i64 x.Tick)/\u.cell? ⟨B,0,none⟩=some (.slice b0 y.Plan.Parts.length d0)/\u.cell? ⟨B,1,none⟩=some (.slice b1 y.Plan.Channels.length d1)/\u.cell? ⟨B,2,none⟩=some (.slice b2 y.Plan.Slots.length d2)/\u.cell? ⟨B,3,none⟩=some (.slice b3 y.Programs.length d3)/\u.cell? ⟨B,4,none⟩=some (.slice b4 y.Cores.length d4)/\u.cell? ⟨B,5,none⟩=some (.slice b5 y.Holds.length d5)/\u.cell? ⟨B,6,none⟩=some (.int .i64 y.Tick))
  (go_keep)
  (first
   | (go_at_call 8;refine(CS.out _ _ (HV.out.ext E.out.drew)).mono ?_;rintro e wa ⟨v4,rfl,ho,he⟩;replace E:=zh (E.out.drew.tr he);have HR4:=zh ho.rv;clear ho;obtain⟨r0a0,r0a1,r0a2,r0a3,r0a4,r0a5,r0a6,r0aL⟩:=Bk.j7 (KA.out.ext E.out);obtain⟨r0b0,r0b1,r0b2,r0b3,r0b4,r0b5,r0b6,r0bL⟩:=Bk.j7 (KB.out.ext E.out);clear he)
   | (go_at_call 7;refine(law_sameMachine _ _ y _ (HR.out.ext E.out) HR4.out).mono ?_;rintro e wb ⟨rfl,he⟩;replace E:=zh (E.out.tr he);obtain⟨r1a0,r1a1,r1a2,r1a3,r1a4,r1a5,r1a6,r1aL⟩:=Bk.j7 (KA.out.ext E.out);obtain⟨r1b0,r1b1,r1b2,r1b3,r1b4,r1b5,r1b6,r1bL⟩:=Bk.j7 (KB.out.ext E.out);clear he;clear r0a0 r0a1 r0a2 r0a3 r0a4 r0a5 r0a6 r0b0 r0b1 r0b2 r0b3 r0b4 r0b5 r0b6 r0aL r0bL))
 clear ga0 ga1 ga2 ga3 ga4 ga5 ga6 gb0 gb1 gb2 gb3 gb4 gb5 gb6 gaL gbL;clear CI CS;cases g:zBs x n
 ·have hl:y.Plan.Slots.length<=0:=by rw[<- HY.out,zFp g];exact Nat.le_refl _
  have haK:=KB.out.ext E.out;have ha2:=haK.cell (j:=2) rfl;have haL:=haK.lt;clear haK;go_wp2_with (go_at_call 9;refine(law_alive _).mono ?_;rintro e w9 ⟨rfl,he⟩;replace E:=zh (E.out.tr he);clear he)
  go_ret;exact⟨rfl,HE.out.tr E.out⟩
 obtain⟨hmv,hg2,hg3⟩:=zBt.1 g;obtain⟨N,rfl⟩:∃ N:Nat,n=N:=⟨n.toNat,by omega⟩
 have hfg:=M.FG.of hmv (show N < x.Cores.length by omega)
 rw[HY.out] at hfg;have hpos:1<=y.Plan.Slots.length:=by rw[hfg.plan];exact(zEe hmv.ssv).1
 have hy0:((y.Plan.Slots.length:Int) == 0)=false:=by rw[beq_eq_false_iff_ne];omega
 have HYV:=zh (zCd.2 hfg.sf.ma);have HS1:=zh (zEp.2 hfg.sf);have HS2:=zh (zEp.2 hfg.sf.symm);have CF:=zh (fun(v:Value) (u:World) (h:Rv u v y)=>zEg v y N u h)
 rw[hfg.idem] at CF;have htk0:=hmv.tick.1;by_cases htk:99950 < x.Tick
 ·have htb:decide (x.Tick > 99950)=true:=decide_eq_true htk;clear hfg hmv g HY htk;have haK:=KB.out.ext E.out;have ha2:=haK.cell (j:=2) rfl;have haL:=haK.lt;clear haK;go_upto_region 9 with (fail)
  clear ha2 haL;obtain⟨ja0,ja1,ja2,ja3,ja4,ja5,ja6,jaL⟩:=Bk.j7 (KA.out.ext E.out);obtain⟨jb0,jb1,jb2,jb3,jb4,jb5,jb6,jbL⟩:=Bk.j7 (KB.out.ext E.out);refine wp_region_held_drew (S:=fun u=>u.cell? ⟨A,0,none⟩=some (.slice p0 x.Plan.Parts.length q0)/\u.cell? ⟨A,1,none⟩=some (.slice p1 x.Plan.Channels.length q1)/\u.cell? ⟨A,2,none⟩=some (.slice p2 x.Plan.Slots.length q2)/\u.cell? ⟨A,3,none⟩=some (.slice p3 x.Programs.length q3)/\u.cell? ⟨A,4,none⟩=some (.slice p4 x.Cores.length q4)/\u.cell? ⟨A,5,none⟩=some (.slice p5 x.Holds.length q5)/\u.cell? ⟨A,6,none⟩=some (.int .i64 x.Tick)/\u.cell? ⟨B,0,none⟩=some (.slice b0 y.Plan.Parts.length d0)/\u.cell? ⟨B,1,none⟩=some (.slice b1 y.Plan.Channels.length d1)/\u.cell? ⟨B,2,none⟩=some (.slice b2 y.Plan.Slots.length d2)/\u.cell? ⟨B,3,none⟩=some (.slice b3 y.Programs.length d3)/\u.cell? ⟨B,4,none⟩=some (.slice b4 y.Cores.length d4)/\u.cell? ⟨B,5,none⟩=some (.slice b5 y.Holds.length d5)/\u.cell? ⟨B,6,none⟩=some (.int .i64 y.Tick)) (by kernel_rfl) ?_ (fun hHeld=>?_)
  ·(try dsimp only)<;>go_keep
  refine hT 0 ?_;refine hC 1 fun K hK=>?_
  go_simp;(go_at_call 10;refine(zAz _ y _ (HR.out.ext E.out.drew)).mono ?_;rintro e wa ⟨rfl,he⟩;replace E:=zh (E.out.drew.tr he);rw[HYV.out];obtain⟨r0a0,r0a1,r0a2,r0a3,r0a4,r0a5,r0a6,r0aL⟩:=Bk.j7 (KA.out.ext E.out);obtain⟨r0b0,r0b1,r0b2,r0b3,r0b4,r0b5,r0b6,r0bL⟩:=Bk.j7 (KB.out.ext E.out);clear he);try go_wp2_with fail
  refine hK.out _ _ ?_ (fun hHeld=>?_)
  ·(try dsimp only)<;>go_keep
  clear hK K;try simp only[Act.put,zs]
  refine hT 2 ?_;refine hT 3 ?_;refine hT 4 ?_;refine hT 5 ?_;refine hC 6 fun K hK=>?_
  go_simp;(go_at_call 11;refine(zE2 _ _ y x N _ (HR.out.ext E.out) (HV.out.ext E.out)).mono ?_;rintro e wb ⟨rfl,he⟩;replace E:=zh (E.out.tr he);rw[HS1.out];obtain⟨r1a0,r1a1,r1a2,r1a3,r1a4,r1a5,r1a6,r1aL⟩:=Bk.j7 (KA.out.ext E.out);obtain⟨r1b0,r1b1,r1b2,r1b3,r1b4,r1b5,r1b6,r1bL⟩:=Bk.j7 (KB.out.ext E.out);clear he;clear r0a0 r0a1 r0a2 r0a3 r0a4 r0a5 r0a6 r0b0 r0b1 r0b2 r0b3 r0b4 r0b5 r0b6 r0aL r0bL);try go_wp2_with fail
  refine hK.out _ _ ?_ (fun hHeld=>?_)
  ·(try dsimp only)<;>go_keep
  clear hK K;try simp only[Act.put,zs]
  refine hT 7 ?_;refine hT 8 ?_;refine hT 9 ?_;refine hT 10 ?_;refine hT 11 ?_;refine hC 12 fun K hK=>?_
  go_simp;(go_at_call 11;refine(zE2 _ _ x y N _ (HV.out.ext E.out) (HR.out.ext E.out)).mono ?_;rintro e wc ⟨rfl,he⟩;replace E:=zh (E.out.tr he);rw[HS2.out];obtain⟨r2a0,r2a1,r2a2,r2a3,r2a4,r2a5,r2a6,r2aL⟩:=Bk.j7 (KA.out.ext E.out);obtain⟨r2b0,r2b1,r2b2,r2b3,r2b4,r2b5,r2b6,r2bL⟩:=Bk.j7 (KB.out.ext E.out);clear he;clear r1a0 r1a1 r1a2 r1a3 r1a4 r1a5 r1a6 r1b0 r1b1 r1b2 r1b3 r1b4 r1b5 r1b6 r1aL r1bL);try go_wp2_with fail
  refine hK.out _ _ ?_ (fun hHeld=>?_)
  ·(try dsimp only)<;>go_keep
  clear hK K;try simp only[Act.put,zs]
  refine hT 13 ?_;refine hT 14 ?_;refine hT 15 ?_;refine hT 16 ?_;refine hT 17 ?_;refine hT 18 ?_;refine hU 19 ?_;refine hU 20 ?_;refine hU 21 ?_;refine hU 22 ?_;refine hU 23 ?_;refine hU 24 ?_;refine hU 25 ?_;refine hT 26 ?_;refine hT 27 ?_;refine hT 28 ?_;refine hT 29 ?_;refine hT 30 ?_;refine hT 32 ?_;refine hC 31 fun K hK=>?_
  go_simp;(go_at_call 6;refine(CF.out _ _ (HR.out.ext E.out)).mono ?_;rintro e wd ⟨v7,rfl,ho,he⟩;replace E:=zh (E.out.tr he);have HO7:=zh ho.rv;clear ho;obtain⟨r3a0,r3a1,r3a2,r3a3,r3a4,r3a5,r3a6,r3aL⟩:=Bk.j7 (KA.out.ext E.out);obtain⟨r3b0,r3b1,r3b2,r3b3,r3b4,r3b5,r3b6,r3bL⟩:=Bk.j7 (KB.out.ext E.out);clear he;clear r2a0 r2a1 r2a2 r2a3 r2a4 r2a5 r2a6 r2b0 r2b1 r2b2 r2b3 r2b4 r2b5 r2b6 r2aL r2bL);try go_wp2_with fail
  refine hK.out _ _ ?_ (fun hHeld=>?_)
  ·(try dsimp only)<;>go_keep
  clear hK K;try simp only[Act.put,zs]
  refine hC 33 fun K hK=>?_
  go_simp;(go_at_call 7;refine(law_sameMachine _ _ y _ HO7.out (HR.out.ext E.out)).mono ?_;rintro e we ⟨rfl,he⟩;replace E:=zh (E.out.tr he);obtain⟨r4a0,r4a1,r4a2,r4a3,r4a4,r4a5,r4a6,r4aL⟩:=Bk.j7 (KA.out.ext E.out);obtain⟨r4b0,r4b1,r4b2,r4b3,r4b4,r4b5,r4b6,r4bL⟩:=Bk.j7 (KB.out.ext E.out);clear he;clear r3a0 r3a1 r3a2 r3a3 r3a4 r3a5 r3a6 r3b0 r3b1 r3b2 r3b3 r3b4 r3b5 r3b6 r3aL r3bL);try go_wp2_with fail
  refine hK.out _ _ ?_ (fun hHeld=>?_)
  ·(try dsimp only)<;>go_keep
  clear hK K;try simp only[Act.put,zs]
  refine hT 34 ?_;refine hT 35 ?_;refine wpAnyH_done (by kernel_rfl) ?_ _
  go_wp2;go_ret;exact⟨rfl,HE.out.tr E.out⟩
 have htb:decide (x.Tick > 99950)=false:=decide_eq_false htk;obtain⟨tr,htr⟩:∃ q,zBe x N 50=q:=⟨_,rfl⟩;have hsy:zBs y N=true:=zBt.2 ⟨hfg.sf.ma,by omega,by have:=hfg.sf.hn;omega⟩
 have e1:zCy y N 50=tr:=by
  rw[<- htr,<- hfg.sf.trace 50 (by rw[hfg.tick];omega)]
  exact zEr (t:=50) hsy (zEc.2 ⟨hfg.sf.ma,⟨by omega,by omega⟩,by rw[hfg.tick];omega⟩)
 have e2:zCy x N 50=tr:=by
  rw[<- htr];exact zEr (t:=50) g (zEc.2 ⟨hmv,⟨by omega,by omega⟩,by omega⟩)
 have CT1:=zh (fun(v:Value) (u:World) (h:Rv u v y)=>zG9 v y N 50 u h)
 have CT2:=zh (fun(v:Value) (u:World) (h:Rv u v x)=>zG9 v x N 50 u h)
 rw[e1] at CT1;rw[e2] at CT2;clear hfg hmv g HY htk e1 e2 htr hsy;have haK:=KB.out.ext E.out;have ha2:=haK.cell (j:=2) rfl;have haL:=haK.lt;clear haK;go_upto_region 9 with (fail)
 clear ha2 haL;obtain⟨ja0,ja1,ja2,ja3,ja4,ja5,ja6,jaL⟩:=Bk.j7 (KA.out.ext E.out);obtain⟨jb0,jb1,jb2,jb3,jb4,jb5,jb6,jbL⟩:=Bk.j7 (KB.out.ext E.out);refine wp_region_held_drew (S:=fun u=>u.cell? ⟨A,0,none⟩=some (.slice p0 x.Plan.Parts.length q0)/\u.cell? ⟨A,1,none⟩=some (.slice p1 x.Plan.Channels.length q1)/\u.cell? ⟨A,2,none⟩=some (.slice p2 x.Plan.Slots.length q2)/\u.cell? ⟨A,3,none⟩=some (.slice p3 x.Programs.length q3)/\u.cell? ⟨A,4,none⟩=some (.slice p4 x.Cores.length q4)/\u.cell? ⟨A,5,none⟩=some (.slice p5 x.Holds.length q5)/\u.cell? ⟨A,6,none⟩=some (.int .i64 x.Tick)/\u.cell? ⟨B,0,none⟩=some (.slice b0 y.Plan.Parts.length d0)/\u.cell? ⟨B,1,none⟩=some (.slice b1 y.Plan.Channels.length d1)/\u.cell? ⟨B,2,none⟩=some (.slice b2 y.Plan.Slots.length d2)/\u.cell? ⟨B,3,none⟩=some (.slice b3 y.Programs.length d3)/\u.cell? ⟨B,4,none⟩=some (.slice b4 y.Cores.length d4)/\u.cell? ⟨B,5,none⟩=some (.slice b5 y.Holds.length d5)/\u.cell? ⟨B,6,none⟩=some (.int .i64 y.Tick)) (by kernel_rfl) ?_ (fun hHeld=>?_)
 ·(try dsimp only)<;>go_keep
 refine hT 0 ?_;refine hC 1 fun K hK=>?_
 go_simp;(go_at_call 10;refine(zAz _ y _ (HR.out.ext E.out.drew)).mono ?_;rintro e wa ⟨rfl,he⟩;replace E:=zh (E.out.drew.tr he);rw[HYV.out];obtain⟨r0a0,r0a1,r0a2,r0a3,r0a4,r0a5,r0a6,r0aL⟩:=Bk.j7 (KA.out.ext E.out);obtain⟨r0b0,r0b1,r0b2,r0b3,r0b4,r0b5,r0b6,r0bL⟩:=Bk.j7 (KB.out.ext E.out);clear he);try go_wp2_with fail
 refine hK.out _ _ ?_ (fun hHeld=>?_)
 ·(try dsimp only)<;>go_keep
 clear hK K;try simp only[Act.put,zs]
 refine hT 2 ?_;refine hT 3 ?_;refine hT 4 ?_;refine hT 5 ?_;refine hC 6 fun K hK=>?_
 go_simp;(go_at_call 11;refine(zE2 _ _ y x N _ (HR.out.ext E.out) (HV.out.ext E.out)).mono ?_;rintro e wb ⟨rfl,he⟩;replace E:=zh (E.out.tr he);rw[HS1.out];obtain⟨r1a0,r1a1,r1a2,r1a3,r1a4,r1a5,r1a6,r1aL⟩:=Bk.j7 (KA.out.ext E.out);obtain⟨r1b0,r1b1,r1b2,r1b3,r1b4,r1b5,r1b6,r1bL⟩:=Bk.j7 (KB.out.ext E.out);clear he;clear r0a0 r0a1 r0a2 r0a3 r0a4 r0a5 r0a6 r0b0 r0b1 r0b2 r0b3 r0b4 r0b5 r0b6 r0aL r0bL);try go_wp2_with fail
 refine hK.out _ _ ?_ (fun hHeld=>?_)
 ·(try dsimp only)<;>go_keep
 clear hK K;try simp only[Act.put,zs]
 refine hT 7 ?_;refine hT 8 ?_;refine hT 9 ?_;refine hT 10 ?_;refine hT 11 ?_;refine hC 12 fun K hK=>?_
 go_simp;(go_at_call 11;refine(zE2 _ _ x y N _ (HV.out.ext E.out) (HR.out.ext E.out)).mono ?_;rintro e wc ⟨rfl,he⟩;replace E:=zh (E.out.tr he);rw[HS2.out];obtain⟨r2a0,r2a1,r2a2,r2a3,r2a4,r2a5,r2a6,r2aL⟩:=Bk.j7 (KA.out.ext E.out);obtain⟨r2b0,r2b1,r2b2,r2b3,r2b4,r2b5,r2b6,r2bL⟩:=Bk.j7 (KB.out.ext E.out);clear he;clear r1a0 r1a1 r1a2 r1a3 r1a4 r1a5 r1a6 r1b0 r1b1 r1b2 r1b3 r1b4 r1b5 r1b6 r1aL r1bL);try go_wp2_with fail
 refine hK.out _ _ ?_ (fun hHeld=>?_)
 ·(try dsimp only)<;>go_keep
 clear hK K;try simp only[Act.put,zs]
 refine hT 13 ?_;refine hT 14 ?_;refine hT 15 ?_;refine hT 16 ?_;refine hT 17 ?_;refine hT 18 ?_;refine hT 19 ?_;refine hT 20 ?_;refine hT 22 ?_;refine hT 23 ?_;refine hC 21 fun K hK=>?_
 go_simp;(go_at_call 13;refine(CT1.out _ _ (HR.out.ext E.out)).mono ?_;rintro e wd ⟨v5,rfl,ho,he⟩;replace E:=zh (E.out.tr he);have HO5:=zh ho.rs;clear ho;obtain⟨r3a0,r3a1,r3a2,r3a3,r3a4,r3a5,r3a6,r3aL⟩:=Bk.j7 (KA.out.ext E.out);obtain⟨r3b0,r3b1,r3b2,r3b3,r3b4,r3b5,r3b6,r3bL⟩:=Bk.j7 (KB.out.ext E.out);clear he;clear r2a0 r2a1 r2a2 r2a3 r2a4 r2a5 r2a6 r2b0 r2b1 r2b2 r2b3 r2b4 r2b5 r2b6 r2aL r2bL);try go_wp2_with fail
 refine hK.out _ _ ?_ (fun hHeld=>?_)
 ·(try dsimp only)<;>go_keep
 clear hK K;try simp only[Act.put,zs]
 refine hC 24 fun K hK=>?_
 go_simp;(go_at_call 13;refine(CT2.out _ _ (HV.out.ext E.out)).mono ?_;rintro e we ⟨v6,rfl,ho,he⟩;replace E:=zh (E.out.tr he);have HO6:=zh ho.rs;replace HO5:=zh (HO5.out.ext he);clear ho;obtain⟨r4a0,r4a1,r4a2,r4a3,r4a4,r4a5,r4a6,r4aL⟩:=Bk.j7 (KA.out.ext E.out);obtain⟨r4b0,r4b1,r4b2,r4b3,r4b4,r4b5,r4b6,r4bL⟩:=Bk.j7 (KB.out.ext E.out);clear he;clear r3a0 r3a1 r3a2 r3a3 r3a4 r3a5 r3a6 r3b0 r3b1 r3b2 r3b3 r3b4 r3b5 r3b6 r3aL r3bL);try go_wp2_with fail
 refine hK.out _ _ ?_ (fun hHeld=>?_)
 ·(try dsimp only)<;>go_keep
 clear hK K;try simp only[Act.put,zs]
 refine hC 25 fun K hK=>?_
 go_simp;(go_at_call 12;refine(law_sameInts _ _ tr tr _ HO5.out HO6.out).mono ?_;rintro e wf ⟨rfl,he⟩;replace E:=zh (E.out.tr he);rw[Eqb.t (rfl:tr=tr)];obtain⟨r5a0,r5a1,r5a2,r5a3,r5a4,r5a5,r5a6,r5aL⟩:=Bk.j7 (KA.out.ext E.out);obtain⟨r5b0,r5b1,r5b2,r5b3,r5b4,r5b5,r5b6,r5bL⟩:=Bk.j7 (KB.out.ext E.out);clear he;clear r4a0 r4a1 r4a2 r4a3 r4a4 r4a5 r4a6 r4b0 r4b1 r4b2 r4b3 r4b4 r4b5 r4b6 r4aL r4bL);try go_wp2_with fail
 refine hK.out _ _ ?_ (fun hHeld=>?_)
 ·(try dsimp only)<;>go_keep
 clear hK K;try simp only[Act.put,zs]
 refine hT 26 ?_;refine hT 27 ?_;refine hT 28 ?_;refine hT 29 ?_;refine hT 30 ?_;refine hT 32 ?_;refine hC 31 fun K hK=>?_
 go_simp;(go_at_call 6;refine(CF.out _ _ (HR.out.ext E.out)).mono ?_;rintro e wg ⟨v7,rfl,ho,he⟩;replace E:=zh (E.out.tr he);have HO7:=zh ho.rv;clear ho;obtain⟨r6a0,r6a1,r6a2,r6a3,r6a4,r6a5,r6a6,r6aL⟩:=Bk.j7 (KA.out.ext E.out);obtain⟨r6b0,r6b1,r6b2,r6b3,r6b4,r6b5,r6b6,r6bL⟩:=Bk.j7 (KB.out.ext E.out);clear he;clear r5a0 r5a1 r5a2 r5a3 r5a4 r5a5 r5a6 r5b0 r5b1 r5b2 r5b3 r5b4 r5b5 r5b6 r5aL r5bL);try go_wp2_with fail
 refine hK.out _ _ ?_ (fun hHeld=>?_)
 ·(try dsimp only)<;>go_keep
 clear hK K;try simp only[Act.put,zs]
 refine hC 33 fun K hK=>?_
 go_simp;(go_at_call 7;refine(law_sameMachine _ _ y _ HO7.out (HR.out.ext E.out)).mono ?_;rintro e wh ⟨rfl,he⟩;replace E:=zh (E.out.tr he);obtain⟨r7a0,r7a1,r7a2,r7a3,r7a4,r7a5,r7a6,r7aL⟩:=Bk.j7 (KA.out.ext E.out);obtain⟨r7b0,r7b1,r7b2,r7b3,r7b4,r7b5,r7b6,r7bL⟩:=Bk.j7 (KB.out.ext E.out);clear he;clear r6a0 r6a1 r6a2 r6a3 r6a4 r6a5 r6a6 r6b0 r6b1 r6b2 r6b3 r6b4 r6b5 r6b6 r6aL r6bL);try go_wp2_with fail
 refine hK.out _ _ ?_ (fun hHeld=>?_)
 ·(try dsimp only)<;>go_keep
 clear hK K;try simp only[Act.put,zs]
 refine hT 34 ?_;refine hT 35 ?_;refine wpAnyH_done (by kernel_rfl) ?_ _
 go_wp2;go_ret;exact⟨rfl,HE.out.tr E.out⟩
end Sk
