/- Contracts of functions of the given program. -/
import Derived.Test.YtfjimbnblklhdaaGreatZzziFgM
namespace Sk
open Go Go.Proofs Go.RowKit
set_option maxHeartbeats 8000000
set_option maxRecDepth 100000
set_option linter.unusedVariables false
set_option linter.unusedSimpArgs false
theorem Rvb.plan{L:Nat}{w:World}{v0 v1 v2 v3 v4 v5 v6:Value}{m:Machine}(h:Rvb L w (.agg #[v0,v1,v2,v3,v4,v5,v6]) m):Rvb L w (.agg #[v0,v1,v2]) m.Plan:=by
 obtain⟨cs,F,e,⟨u0,u1,u2,u3,u4,u5,F0,F1,F2,F3,F4,F5,rfl,h0,h1,h2,h3,h4,h5,r,rfl⟩,hk⟩:=h;have e2:=congrArg (fun v=>match v with | .agg a=>a.toList|_ => []) e
 simp only[List.cons.injEq,and_true] at e2;obtain⟨rfl,rfl,rfl,rfl,rfl,rfl,rfl⟩:=e2;exact⟨[v0,v1,v2],F0++F1++F2,rfl,⟨_,_,_,_,_,_,rfl,h0,h1,h2,by simp⟩,fun k hk'=>hk k (by simp only[List.mem_append] at hk' ⊢;grind)⟩
theorem zPi{L:Nat}{w:World}{x:Machine}{v0 v1 v2:Value}{v5:Value}{g3 s3 n3 c3 g4 s4 n4 c4:Nat}{t:Value}{F:List Nat}(h:GT.enc w [v0,v1,v2,.slice (some ⟨g3,s3,none⟩) n3 c3,.slice (some ⟨g4,s4,none⟩) n4 c4,v5,t] x F)(ho:Own L w F)(h3:0 < x.Programs.length)(h4:0 < x.Cores.length)(bb:Nat)(hb:bb < L) :
  ∃ gH sH,(x.Holds = []\/∃ n c,v5 = .slice (some ⟨gH,sH,none⟩) n c)/\(g3≠g4/\bb≠g3/\bb≠g4/\(x.Holds = []\/(gH≠g3/\gH≠g4/\gH≠bb)))/\(Fz w g3/\Fz w g4/\(x.Holds = []\/Fz w gH))/\(L<=g3/\L<=g4/\(x.Holds = []\/L<=gH))/\(x.Holds = []->gH=g4) /\
   RQ [bb,g3,g4,gH] L w g3 s3 x.Programs/\RQ [bb,g3,g4,gH] L w g4 s4 x.Cores/\RQ [bb,g3,g4,gH] L w gH sH x.Holds/\Rsx [bb,g3,g4,gH] L w v0 x.Plan.Parts/\Rsx [bb,g3,g4,gH] L w v1 x.Plan.Channels/\Rsx [bb,g3,g4,gH] L w v2 x.Plan.Slots/\rng x.Tick/\t = .int .i64 x.Tick:=by
 obtain⟨u0,u1,u2,u3,u4,u5,F0,F1,F2,F3,F4,F5,e,k0,k1,k2,k3,k4,k5,r,rfl⟩:=h;simp only[List.cons.injEq,and_true] at e;obtain⟨rfl,rfl,rfl,rfl,rfl,rfl,rfl⟩:=e;obtain⟨a3,c3',e3,l3,m3,⟨e,_⟩ | ⟨_,b3,o3,G3,q3,rfl,r3⟩⟩:=k3
 ·rw[e] at h3;cases h3
 obtain⟨a4,c4',e4,l4,m4,⟨e,_⟩ | ⟨_,b4,o4,G4,q4,rfl,r4⟩⟩:=k4
 ·rw[e] at h4;cases h4
 cases e3;cases q3;cases e4;cases q4;obtain⟨hnd,hL⟩:=ho;have hl:∀ y,y∈F0\/y∈F1\/y∈F2\/y=g3\/y∈G3\/y=g4\/y∈G4\/y∈F5->L<=y/\Fz w y:=fun y hy=>hL y (by simp only[List.mem_append,List.mem_cons];grind)
 simp only[List.nodup_append,List.nodup_cons,List.mem_append,List.mem_cons] at hnd;have hb3:bb≠g3:=fun e=>by have:=(hl g3 (by simp)).1;omega
 have hb4:bb≠g4:=fun e=>by have:=(hl g4 (by simp)).1;omega
 have hbn:∀ y,L<=y->y≠bb:=fun y hy e=>by omega
 have key:∀ gH,(∀ y,(y∈F0\/y∈F1\/y∈F2\/y∈G3\/y∈G4)->y≠gH)->∀ y,(y∈F0\/y∈F1\/y∈F2\/y∈G3\/y∈G4)->L<=y/\y ∉ [bb,g3,g4,gH]:=fun gH hH y hy=>by
  have h1:=hl y (by grind)
  refine⟨h1.1,fun hm=>?_⟩
  simp only[List.mem_cons,List.not_mem_nil,or_false] at hm;rcases hm with hm|hm|hm|hm
  ·exact hbn y h1.1 hm
  iterate 2 (·subst hm;grind)
  ·exact hH y hy hm
 obtain⟨a5,c5',rfl,l5,m5,⟨e5,e6⟩ | ⟨ne5,b5,o5,G5,q5,q6,r5⟩⟩:=k5
 ·have hk:=key g4 (fun y hy e=>by subst e;grind)
  refine⟨g4,0,.inl e5,⟨by grind,hb3,hb4,.inl e5⟩,⟨(hl g3 (by simp)).2,(hl g4 (by simp)).2,.inl e5⟩,⟨(hl g3 (by simp)).1,(hl g4 (by simp)).1,.inl e5⟩,fun _=>rfl,RQ.ofRow r3 (fun y hy=>hk y (by simp[hy])),RQ.ofRow r4 (fun y hy=>hk y (by simp[hy])),(show RQ [bb,g3,g4,g4] L w g4 0 x.Holds from fun k z hz=>by rw[e5] at hz;cases hz),⟨F0,k0,fun y hy=>hk y (by simp[hy])⟩,⟨F1,k1,fun y hy=>hk y (by simp[hy])⟩,⟨F2,k2,fun y hy=>hk y (by simp[hy])⟩,r,rfl⟩
 ·subst q6;cases q5;have hk:=key b5 (fun y hy e=>by subst e;grind)
  have h5:∀ y∈G5,L<=y/\y ∉ [bb,g3,g4,b5]:=fun y hy=>by
   have h1:=hl y (by simp[hy])
   refine⟨h1.1,fun hm=>?_⟩
   simp only[List.mem_cons,List.not_mem_nil,or_false] at hm;rcases hm with hm|hm|hm|hm
   ·exact hbn y h1.1 hm
   iterate 3 (·subst hm;grind)
  have hb5:b5≠bb:=hbn b5 (hl b5 (by simp)).1
  refine⟨b5,o5,.inr ⟨_,_,rfl⟩,⟨by grind,hb3,hb4,.inr ⟨by grind,by grind,hb5⟩⟩,⟨(hl g3 (by simp)).2,(hl g4 (by simp)).2,.inr (hl b5 (by simp)).2⟩,⟨(hl g3 (by simp)).1,(hl g4 (by simp)).1,.inr (hl b5 (by simp)).1⟩,fun e=>absurd e ne5,RQ.ofRow r3 (fun y hy=>hk y (by simp[hy])),RQ.ofRow r4 (fun y hy=>hk y (by simp[hy])),RQ.ofRow r5 h5,⟨F0,k0,fun y hy=>hk y (by simp[hy])⟩,⟨F1,k1,fun y hy=>hk y (by simp[hy])⟩,⟨F2,k2,fun y hy=>hk y (by simp[hy])⟩,r,rfl⟩
theorem zLw(W w:World)(b q L:Nat)(v:Value)(x:Machine)(n:Int)(h:Rd W w b (q+600))(hv:Rvb L w v x)(hbL:b < L)(hLw:L<=w.heap.size) :
  Calls Tryz.prog 33 #[.pointer (some ⟨b,0,none⟩),v,.int .i64 n] w fun e w' => ∃ v' y,e = .returned v'/\Rvb (α:=Machine) L w' v' y/\Mw [b] w w'/\Rd W w' b q:=by
 have hbl:=h.lt;have hbW:=h.1;have hWw:=h.2.1.sz;obtain⟨p0,q0,p1,q1,p2,q2,p3,q3,p4,q4,p5,q5,rfl,hcl⟩:=hv.openMc;have HVL:=zh hv;have HV:=zh (hv.mono (L':=b+1) hbL);have HRD:=zh h;obtain⟨_,_,_,_,_,_,_,_,_,_,_,_,ee,r6,s0,-,s1,-,s2,-,s3,-,s4,-,s5,-⟩:=hv.rv.openMachine;have e9:=congrArg (fun v=>match v with | .agg a=>a.toList|_ => []) ee
 simp only[List.cons.injEq,Value.slice.injEq,and_true,true_and] at e9;obtain⟨⟨rfl,rfl⟩,⟨rfl,rfl⟩,⟨rfl,rfl⟩,⟨rfl,rfl⟩,⟨rfl,rfl⟩,⟨rfl,rfl⟩⟩:=e9;clear h hv ee s2 s3 s4 s5;go_enter Tryz.func33,Tryz.ntmps33;go_upto_region 1 with (fail)
 obtain⟨A,hA⟩:∃ A,A=w.heap.size:=⟨_,rfl⟩;obtain⟨R,hR⟩:∃ R,R=w.heap.size+1:=⟨_,rfl⟩;refine zA1 (fun u=>Ext w u/\Bk u A [.slice p0 x.Plan.Parts.length q0,.slice p1 x.Plan.Channels.length q1,.slice p2 x.Plan.Slots.length q2,.slice p3 x.Programs.length q3,.slice p4 x.Cores.length q4,.slice p5 x.Holds.length q5,.int .i64 x.Tick] 32/\Bk u R [.slice none 0 0,.slice none 0 0,.slice none 0 0,.slice none 0 0,.slice none 0 0,.slice none 0 0,.int .i64 0] 32) ⟨((zr _).alloc _).alloc _,by rw[hA];exact(Bk.new _ _ _).ext ((zr _).alloc _),by rw[hR];exact Bk.new1 _ _ _ _⟩ ?_
 rw[<- hR,<- hA];rintro U1 ⟨e1,kA,kR⟩;have hAR:A < R:=by omega
 have hbA:b < A:=by omega
 have hwA:w.heap.size<=A:=by omega
 clear hA hR;obtain⟨f0,f1,f2,f3,f4,f5,f6⟩:=Bk.k7 kA;have fL:=kA.lt;go_upto_region 2 with (fail)
 obtain⟨X,hX⟩:∃ X,X=U1.heap.size:=⟨_,rfl⟩;refine zA1 (fun u=>Ext U1 u/\Bk u X [.slice p0 x.Plan.Parts.length q0,.slice p1 x.Plan.Channels.length q1,.slice p2 x.Plan.Slots.length q2,.slice p3 x.Programs.length q3,.slice p4 x.Cores.length q4,.slice p5 x.Holds.length q5,.int .i64 x.Tick] 32) ⟨(zr _).alloc _,by rw[hX];exact Bk.new _ _ _⟩ ?_
 rw[<- hX];rintro U2 ⟨e2,kX⟩;have ltX:=kX.lt;have hRX:R < X:=by have:=kR.lt;omega
 clear hX;clear f0 f1 f2 f3 f4 f5 f6 fL;have E:=zh (e1.tr e2);have KA:=zh (kA.ext e2);have KR:=zh (kR.ext e2);have KX:=zh kX;clear e1 e2 kA kR kX;obtain⟨fa0,fa1,fa2,fa3,fa4,fa5,fa6,faL⟩:=Bk.j7 (KA.out);obtain⟨ga0,ga1,ga2,ga3,ga4,ga5,ga6,gaL⟩:=Bk.j7 (KX.out);obtain⟨gb0,gb1,gb2,gb3,gb4,gb5,gb6,gbL⟩:=Bk.j7 (KR.out);by_cases hok:zEh x=true/\0<=n/\n < x.Cores.length
 case neg =>
  cases g:zEh x
  ·go_wp2_with (go_at_call 21;refine(zA7 _ x _ (HV.out.rv.ext E.out)).mono ?_;rintro e U3 ⟨rfl,he⟩;rw[g];have E3:=zh (E.out.tr he);obtain⟨ha0,ha1,ha2,ha3,ha4,ha5,ha6,haL⟩:=Bk.j7 (KA.out.ext he);obtain⟨ia0,ia1,ia2,ia3,ia4,ia5,ia6,iaL⟩:=Bk.j7 (KX.out.ext he);obtain⟨z0,z1,z2,z3,z4,z5,z6⟩:=Bk.k7 (KR.out.ext he);have zf:=(KR.out.ext he).fz;have ltZ:=(KR.out.ext he).lt;clear he)
   refine bodyPost_ret (v:=.agg #[.slice p0 x.Plan.Parts.length q0,.slice p1 x.Plan.Channels.length q1,.slice p2 x.Plan.Slots.length q2,.slice p3 x.Programs.length q3,.slice p4 x.Cores.length q4,.slice p5 x.Holds.length q5,.int .i64 x.Tick]) (by simp[results,Tryz.results33,go_sem,z0,z1,z2,z3,z4,z5,z6]) rfl ?_
   have EF:Ext w (zAe U3 R 0 [.slice p0 x.Plan.Parts.length q0,.slice p1 x.Plan.Channels.length q1,.slice p2 x.Plan.Slots.length q2,.slice p3 x.Programs.length q3,.slice p4 x.Cores.length q4,.slice p5 x.Holds.length q5,.int .i64 x.Tick]):=Ext.puts (b:=R) (o:=0) (by omega) [.slice p0 x.Plan.Parts.length q0,.slice p1 x.Plan.Channels.length q1,.slice p2 x.Plan.Slots.length q2,.slice p3 x.Programs.length q3,.slice p4 x.Cores.length q4,.slice p5 x.Holds.length q5,.int .i64 x.Tick] E3.out
   exact⟨_,x,rfl,HVL.out.ext EF,Mw.ofExt EF,(HRD.out.ext EF).le (by omega)⟩
  by_cases hn0:0<=n
  case neg =>
   have hnb:decide (n ≥ 0)=false:=decide_eq_false (by omega)
   go_wp2_with (go_at_call 21;refine(zA7 _ x _ (HV.out.rv.ext E.out)).mono ?_;rintro e U3 ⟨rfl,he⟩;rw[g];have E3:=zh (E.out.tr he);obtain⟨ha0,ha1,ha2,ha3,ha4,ha5,ha6,haL⟩:=Bk.j7 (KA.out.ext he);obtain⟨ia0,ia1,ia2,ia3,ia4,ia5,ia6,iaL⟩:=Bk.j7 (KX.out.ext he);obtain⟨z0,z1,z2,z3,z4,z5,z6⟩:=Bk.k7 (KR.out.ext he);have zf:=(KR.out.ext he).fz;have ltZ:=(KR.out.ext he).lt;clear he)
   refine bodyPost_ret (v:=.agg #[.slice p0 x.Plan.Parts.length q0,.slice p1 x.Plan.Channels.length q1,.slice p2 x.Plan.Slots.length q2,.slice p3 x.Programs.length q3,.slice p4 x.Cores.length q4,.slice p5 x.Holds.length q5,.int .i64 x.Tick]) (by simp[results,Tryz.results33,go_sem,z0,z1,z2,z3,z4,z5,z6]) rfl ?_
   have EF:Ext w (zAe U3 R 0 [.slice p0 x.Plan.Parts.length q0,.slice p1 x.Plan.Channels.length q1,.slice p2 x.Plan.Slots.length q2,.slice p3 x.Programs.length q3,.slice p4 x.Cores.length q4,.slice p5 x.Holds.length q5,.int .i64 x.Tick]):=Ext.puts (b:=R) (o:=0) (by omega) [.slice p0 x.Plan.Parts.length q0,.slice p1 x.Plan.Channels.length q1,.slice p2 x.Plan.Slots.length q2,.slice p3 x.Programs.length q3,.slice p4 x.Cores.length q4,.slice p5 x.Holds.length q5,.int .i64 x.Tick] E3.out
   exact⟨_,x,rfl,HVL.out.ext EF,Mw.ofExt EF,(HRD.out.ext EF).le (by omega)⟩
  have hn1:¬ n < x.Cores.length:=fun e=>hok ⟨g,hn0,e⟩
  have hnb:decide (n < (x.Cores.length:Int))=false:=decide_eq_false hn1;go_wp2_with (go_at_call 21;refine(zA7 _ x _ (HV.out.rv.ext E.out)).mono ?_;rintro e U3 ⟨rfl,he⟩;rw[g];have E3:=zh (E.out.tr he);obtain⟨ha0,ha1,ha2,ha3,ha4,ha5,ha6,haL⟩:=Bk.j7 (KA.out.ext he);obtain⟨ia0,ia1,ia2,ia3,ia4,ia5,ia6,iaL⟩:=Bk.j7 (KX.out.ext he);obtain⟨z0,z1,z2,z3,z4,z5,z6⟩:=Bk.k7 (KR.out.ext he);have zf:=(KR.out.ext he).fz;have ltZ:=(KR.out.ext he).lt;clear he)
  refine bodyPost_ret (v:=.agg #[.slice p0 x.Plan.Parts.length q0,.slice p1 x.Plan.Channels.length q1,.slice p2 x.Plan.Slots.length q2,.slice p3 x.Programs.length q3,.slice p4 x.Cores.length q4,.slice p5 x.Holds.length q5,.int .i64 x.Tick]) (by simp[results,Tryz.results33,go_sem,z0,z1,z2,z3,z4,z5,z6]) rfl ?_
  have EF:Ext w (zAe U3 R 0 [.slice p0 x.Plan.Parts.length q0,.slice p1 x.Plan.Channels.length q1,.slice p2 x.Plan.Slots.length q2,.slice p3 x.Programs.length q3,.slice p4 x.Cores.length q4,.slice p5 x.Holds.length q5,.int .i64 x.Tick]):=Ext.puts (b:=R) (o:=0) (by omega) [.slice p0 x.Plan.Parts.length q0,.slice p1 x.Plan.Channels.length q1,.slice p2 x.Plan.Slots.length q2,.slice p3 x.Programs.length q3,.slice p4 x.Cores.length q4,.slice p5 x.Holds.length q5,.int .i64 x.Tick] E3.out
  exact⟨_,x,rfl,HVL.out.ext EF,Mw.ofExt EF,(HRD.out.ext EF).le (by omega)⟩
 obtain⟨g,hn0,hn1⟩:=hok;have hmv:=zAw.1 g;obtain⟨N,rfl⟩:∃ N:Nat,n=N:=⟨n.toNat,by omega⟩
 have hN:N < x.Cores.length:=by omega
 have hn5:x.Cores.length<=5:=by rw[hmv.nc];exact zAh hmv.pg.set
 have hc8:=zAv hmv.pg.set;have htot:GT.tot x<=1048576:=Nat.le_trans (zE6 hmv) (by omega)
 have lpn:x.Cores.length<=x.Programs.length:=by rw[hmv.pg.np,hmv.nc];exact Nat.le_refl _
 have lpp:x.Cores.length<=x.Plan.Parts.length:=by rw[hmv.nc];exact Nat.le_refl _
 have lhc:x.Holds.length<=x.Plan.Channels.length:=by rw[hmv.nh];exact Nat.le_refl _
 have HCV:Hid (zD3 x.Plan.Channels x.Cores.length=true):=zh (by rw[hmv.nc];exact hmv.csv)
 have HSV:=zh hmv.pg.set;have HMV:=zh hmv;clear hmv;have hnb:decide ((N:Int) ≥ 0)=true:=decide_eq_true hn0;have hnb2:decide ((N:Int) < (x.Cores.length:Int))=true:=decide_eq_true hn1;go_upto_region 3 with (go_at_call 21;refine(zA7 _ x _ (HV.out.rv.ext E.out)).mono ?_;rintro e U3 ⟨rfl,he⟩;rw[g];have E3:=zh (E.out.tr he);have KA3:=zh (KA.out.ext he);have KX3:=zh (KX.out.ext he);have KR3:=zh (KR.out.ext he);obtain⟨ha0,ha1,ha2,ha3,ha4,ha5,ha6,haL⟩:=Bk.j7 (KA.out.ext he);clear he)
 clear fa0 fa1 fa2 fa3 fa4 fa5 fa6 faL ga0 ga1 ga2 ga3 ga4 ga5 ga6 gb0 gb1 gb2 gb3 gb4 gb5 gb6 gaL gbL;go_upto_region 4 with (go_at_call 35;refine(zFq _ x _ (HV.out.rv.ext E3.out) htot).mono ?_;rintro e U5 ⟨v5,rfl,hov,ex⟩;obtain⟨cs5,F5,rfl,hen,how⟩:=hov;obtain⟨v0,v1,v2,v3,v4,v5,G0,G1,G2,G3,G4,G5,rfl,⟨t0,u0,rfl,j0⟩,⟨t1,u1,rfl,j1⟩,⟨t2,u2,rfl,j2⟩,⟨t3,u3,rfl,j3⟩,⟨t4,u4,rfl,j4⟩,⟨t5,u5,rfl,j5⟩,jr,-⟩:=id hen;have HEN:=zh hen;have HOW:=zh how;have HJ3:=zh j3;have HJ4:=zh j4;have HJ5:=zh j5;have E5:=zh (E3.out.tr ex);have KA5:=zh (KA3.out.ext ex);have KX5:=zh (KX3.out.ext ex);have KR5:=zh (KR3.out.ext ex);have hXU:=KX3.out.lt;have h3s:=E3.out.sz;obtain⟨x0,x1,x2,x3,x4,x5,x6⟩:=Bk.k7 (KX3.out.ext ex);have xf:=(KX3.out.ext ex).fz;have xL:=(KX3.out.ext ex).lt;clear hen how ex j0 j1 j2 j3 j4 j5 jr haL)
 have ltX5:=KX5.out.lt;refine zA1 (fun u=>Ext w u/\Bk u A [.slice p0 x.Plan.Parts.length q0,.slice p1 x.Plan.Channels.length q1,.slice p2 x.Plan.Slots.length q2,.slice p3 x.Programs.length q3,.slice p4 x.Cores.length q4,.slice p5 x.Holds.length q5,.int .i64 x.Tick] 32/\Bk u R [.slice none 0 0,.slice none 0 0,.slice none 0 0,.slice none 0 0,.slice none 0 0,.slice none 0 0,.int .i64 0] 32/\Bk u X [.slice t0 x.Plan.Parts.length u0,.slice t1 x.Plan.Channels.length u1,.slice t2 x.Plan.Slots.length u2,.slice t3 x.Programs.length u3,.slice t4 x.Cores.length u4,.slice t5 x.Holds.length u5,.int .i64 x.Tick] 32/\GT.enc u [.slice t0 x.Plan.Parts.length u0,.slice t1 x.Plan.Channels.length u1,.slice t2 x.Plan.Slots.length u2,.slice t3 x.Programs.length u3,.slice t4 x.Cores.length u4,.slice t5 x.Holds.length u5,.int .i64 x.Tick] x F5/\Own U3.heap.size u F5)
  ⟨Ext.puts (b:=X) (o:=0) (by omega) [.slice t0 x.Plan.Parts.length u0,.slice t1 x.Plan.Channels.length u1,.slice t2 x.Plan.Slots.length u2,.slice t3 x.Programs.length u3,.slice t4 x.Cores.length u4,.slice t5 x.Holds.length u5,.int .i64 x.Tick] E5.out,Bk.puts_ne (b:=A) (c:=X) (o:=0) (ds:=[.slice t0 x.Plan.Parts.length u0,.slice t1 x.Plan.Channels.length u1,.slice t2 x.Plan.Slots.length u2,.slice t3 x.Programs.length u3,.slice t4 x.Cores.length u4,.slice t5 x.Holds.length u5,.int .i64 x.Tick]) KA5.out (by omega),Bk.puts_ne (b:=R) (c:=X) (o:=0) (ds:=[.slice t0 x.Plan.Parts.length u0,.slice t1 x.Plan.Channels.length u1,.slice t2 x.Plan.Slots.length u2,.slice t3 x.Programs.length u3,.slice t4 x.Cores.length u4,.slice t5 x.Holds.length u5,.int .i64 x.Tick]) KR5.out (by omega),Bk.puts KX5.out [.slice t0 x.Plan.Parts.length u0,.slice t1 x.Plan.Channels.length u1,.slice t2 x.Plan.Slots.length u2,.slice t3 x.Programs.length u3,.slice t4 x.Cores.length u4,.slice t5 x.Holds.length u5,.int .i64 x.Tick] rfl,zC3 (c:=X) (o:=0) (ds:=[.slice t0 x.Plan.Parts.length u0,.slice t1 x.Plan.Channels.length u1,.slice t2 x.Plan.Slots.length u2,.slice t3 x.Programs.length u3,.slice t4 x.Cores.length u4,.slice t5 x.Holds.length u5,.int .i64 x.Tick]) HEN.out (fun hm=>by have:=(HOW.out.2 X hm).1;omega),Own.puts (b:=X) (o:=0) [.slice t0 x.Plan.Parts.length u0,.slice t1 x.Plan.Channels.length u1,.slice t2 x.Plan.Slots.length u2,.slice t3 x.Programs.length u3,.slice t4 x.Cores.length u4,.slice t5 x.Holds.length u5,.int .i64 x.Tick] HOW.out⟩ ?_
 rintro W6 ⟨e6,kA,kR,kX,hen6,how6⟩;have hP1:0 < x.Programs.length:=by omega
 have hC1:0 < x.Cores.length:=by omega
 obtain⟨gP,sP,rfl⟩:∃ g s,t3=some ⟨g,s,none⟩:=by
  rcases HJ3.out.2.2 with ⟨e,_⟩ | ⟨_,b',o',_,e,_⟩
  ·rw[e] at hP1;cases hP1
  ·exact⟨b',o',e⟩
 obtain⟨gC,sC,rfl⟩:∃ g s,t4=some ⟨g,s,none⟩:=by
  rcases HJ4.out.2.2 with ⟨e,_⟩ | ⟨_,b',o',_,e,_⟩
  ·rw[e] at hC1;cases hC1
  ·exact⟨b',o',e⟩
 obtain⟨gH,sH,hv5,hne,hfz,hge,hgH,rp,rc,rh,r0,r1,r2,hrt,-⟩:=zPi hen6 how6 hP1 hC1 b (by omega)
 have PO6:Hid (zFs W6 b gP sP gC sC gH sH (R+1) 0 x W6 x.Programs x.Cores x.Holds):=Lib.hid { mw:=Mw.refl _ _,rp:=rp.mono (by omega),rc:=rc.mono (by omega),rh:=rh.mono (by omega),fz:=hfz,ne:=⟨hne.2.1,hne.2.2.1,hne.1,hne.2.2.2⟩,len:=⟨rfl,rfl,rfl⟩ }
 have R0:=zh (r0.wide (L':=R+1) (by omega))
 have R1:=zh (r1.wide (L':=R+1) (by omega))
 have R2:=zh (r2.wide (L':=R+1) (by omega))
 have hgs:U3.heap.size<=gP/\U3.heap.size<=gC:=⟨hge.1,hge.2.1⟩;have hgl:gP < W6.heap.size/\gC < W6.heap.size/\gH < W6.heap.size:=⟨hfz.1.lt,hfz.2.1.lt,by
  rcases hfz.2.2 with e|f
  ·rw[hgH e];exact hfz.2.1.lt
  ·exact f.lt⟩
 have hgg:U3.heap.size<=gH:=by
  rcases hge.2.2 with e|f
  ·rw[hgH e];exact hge.2.1
  ·exact f
 have HV5:=zh hv5;have HNE:=zh hne;have HGH:=zh hgH;clear hen6 how6 rp rc rh r0 r1 r2 hfz hge hne hv5 hgH HEN HOW;have E6:=zh e6;have KA6:=zh kA;have KR6:=zh kR;have KX6:=zh kX;have ltX6:=kX.lt;clear e6 kA kR kX KA5 KR5 KX5 E5 KA3 KX3 KR3 E3 x0 x1 x2 x3 x4 x5 x6 xf xL;have haK:=KA6.out;obtain⟨ha0,ha1,ha2⟩:=Bk.k3 haK;have ha4:=haK.cell (j:=4) rfl;have haL:=haK.lt;clear haK;have HPW:Hid (Rsb (b+1) w (.slice p0 x.Plan.Parts.length q0) x.Plan.Parts/\Rsb (b+1) w (.slice p1 x.Plan.Channels.length q1) x.Plan.Channels):=zh (by
  have:=HV.out.plan.lists
  exact⟨this.1,this.2.1⟩)
 go_upto_region 6 with (first
  | (go_at_call 25;refine(zIj _ x.Plan.Channels x.Cores.length N _ (s1.out.ext E6.out) HCV.out hN).mono ?_;rintro e U7 ⟨v7,rfl,ofl,he⟩;obtain⟨fa,fc,rfl,hfl⟩:=ofl.form;have OFL:=zh ofl;have EF:=zh he;have iaK:=KA6.out.ext he;obtain⟨ia0,ia1,ia2⟩:=Bk.k3 iaK;have ia4:=iaK.cell (j:=4) rfl;have iaL:=iaK.lt;clear iaK;clear ofl he)
  | (go_at_call 69;refine(zEv W _ b (q+90) _ x.Plan ((HRD.out.ext (E6.out.tr EF.out)).le (by omega)) (HV.out.ext (E6.out.tr EF.out)).plan HSV.out).mono ?_;rintro e U8 ⟨v8,os,rfl,hos,hpg,hm,hr⟩;have HOS:=zh hos;have HPG:=zh hpg;have M8:=zh hm;have RD8:=zh hr;clear hos hpg hm hr))
 have hos1:os.length=x.Plan.Parts.length:=HPG.out.np;obtain⟨FO,⟨oa,oc,rfl,ol1,ol2,hor⟩,hoo⟩:=HOS.out;obtain⟨gO,sO,FO',rfl,hrow⟩:∃ gO sO FO',oa=some ⟨gO,sO,none⟩/\(FO=gO::FO'/\Row U8 gO sO os FO'):=by
  rcases hor with ⟨e,_⟩ | ⟨_,b',o',F',e,e2,h9⟩
  ·rw[e] at hos1;simp at hos1;omega
  ·exact⟨b',o',F',e,e2,h9⟩
 obtain⟨rfl,hrow⟩:=hrow;have hU7:=EF.out.sz;have hU8:=M8.out.size;have hng:∀ y,W6.heap.size<=y->y ∉ [b,gP,gC,gH]:=fun y hy hm=>by
  simp only[List.mem_cons,List.not_mem_nil,or_false] at hm;omega
 have hgO:=(hoo.2 gO (List.mem_cons_self ..)).1;have HRO:Hid (RQ [b,gP,gC,gH] (R+1) U8 gO sO os):=zh (RQ.ofRow hrow (fun y hy=>by
  have:=(hoo.2 y (List.mem_cons_of_mem _ hy)).1
  exact⟨by omega,hng y (by omega)⟩))
 have hgO8:gO < U8.heap.size:=(hoo.2 gO (List.mem_cons_self ..)).2.lt;have HFL7:Hid (Rsx [b,gP,gC,gH] (b+1) U7 (.slice fa (zBd x.Plan.Channels x.Cores.length N).length fc) (zBd x.Plan.Channels x.Cores.length N)):=zh (by
  obtain⟨F9,h9,o9⟩:=OFL.out;exact⟨F9,h9,fun y hy=>⟨by have:=(o9.2 y hy).1;omega,hng y (o9.2 y hy).1⟩⟩)
 obtain⟨FL,hFL⟩:∃ FL,zBd x.Plan.Channels x.Cores.length N=FL:=⟨_,rfl⟩;have hFN:FL.length=x.Cores.length:=by rw[<- hFL,zCl]
 rw[hFL] at HFL7;rw[hFL];have HFL:=zh (HFL7.out.mw M8.out (by simp))
 have hbn:∀ y,b < y->y ∉ [b]:=fun y hy hm=>by simp at hm;omega
 have PO8:=zh ((PO6.out.ext EF.out).mwb M8.out).base;have E7:=zh (E6.out.tr EF.out);have KA8:=zh (M8.out.bk (KA6.out.ext EF.out) (hbn A hbA));have KR8:=zh (M8.out.bk (KR6.out.ext EF.out) (hbn R (by omega)))
 have KX8:=zh (M8.out.bk (KX6.out.ext EF.out) (hbn X (by omega)))
 have MW8:=zh ((Mw.ofExt (F:=[b]) E7.out).tr M8.out);have hGw:∀ y ∈ [b,gP,gC,gH],y < b+1\/w.heap.size<=y:=fun y hy=>by
  simp only[List.mem_cons,List.not_mem_nil,or_false] at hy;omega
 have P08:=zh ((HPW.out.1.x (G:=[b,gP,gC,gH]) hGw (Nat.le_refl _)).mw MW8.out (by simp))
 have P18:=zh ((HPW.out.2.x (G:=[b,gP,gC,gH]) hGw (Nat.le_refl _)).mw MW8.out (by simp))
 have R08:=zh ((R0.out.ext EF.out).mw M8.out (by simp))
 have R18:=zh ((R1.out.ext EF.out).mw M8.out (by simp))
 have R28:=zh ((R2.out.ext EF.out).mw M8.out (by simp))
 have hAG:A ∉ [b,gP,gC,gH]:=fun hm=>by simp only[List.mem_cons,List.not_mem_nil,or_false] at hm;omega
 have hRG:R ∉ [b,gP,gC,gH]:=fun hm=>by simp only[List.mem_cons,List.not_mem_nil,or_false] at hm;omega
 have hXG:X ∉ [b,gP,gC,gH]:=fun hm=>by simp only[List.mem_cons,List.not_mem_nil,or_false] at hm;omega
 have hOG:gO ∉ [b,gP,gC,gH]:=hng gO (by omega)
 have hGt:∀ y ∈ [b,gP,gC,gH],y ∈ [b]\/w.heap.size<=y:=fun y hy=>by
  rcases hGw y hy with h|h
  ·simp only[List.mem_cons,List.not_mem_nil,or_false] at hy ⊢;omega
  ·exact .inr h
 clear HFL7 OFL M8 EF E6 PO6 KA6 KR6 KX6 R0 R1 R2 HPW hoo HOS hrow hFL HPG ha0 ha1 ha2 ha4 haL;have ltX8:=KX8.out.lt;clear ltX6 ltX5;have hFN1:x.Cores.length<=FL.length:=Nat.le_of_eq hFN.symm;have hFN2:FL.length<=x.Cores.length:=Nat.le_of_eq hFN;have hos2:os.length<=x.Plan.Parts.length:=Nat.le_of_eq hos1;have hos3:x.Plan.Parts.length<=os.length:=Nat.le_of_eq hos1.symm;clear hFN hos1;go_wp2;go_loopw [10] (fun i wr => ∃ k:Nat,k<=x.Cores.length/\i = .int .i64 k/\M.OI U8 W b gP sP gC sC gH sH (R+1) (q+20+2*(x.Cores.length - k)) x wr) (fun i _=>x.Cores.length - (intOf i).toNat)
 case atStart=>exact⟨0,Nat.zero_le _,rfl,_,_,_,PO8.out,RD8.out.le (by omega)⟩
 case round =>
  obtain⟨k,hk,rfl,ps,cs,hs,po,rd⟩:=hrel;have PO:=zh po;have RD:=zh rd;have hlp1:x.Cores.length<=ps.length:=by rw[po.len.1];exact lpn
  have hlc1:x.Cores.length<=cs.length:=Nat.le_of_eq po.len.2.1.symm;by_cases hkt:k < x.Cores.length
  ·have hkf:k < FL.length:=by omega
   obtain⟨fb,fo,fx,rfl,hfb,hx,hfc⟩:=(HFL.out.mw po.mw (by simp)).rs.atBool k hkf
   clear po rd hx;cases fx
   case true =>
    go_wp2;exact⟨⟨k+1,by omega,by go_num,ps,cs,hs,PO.out,RD.out.le (by omega)⟩,by simp[intOf];omega⟩
   go_upto_if 55 with (go_at_call 36;refine(zA9 W _ b (q+19+2*(x.Cores.length - k)) _ (RD.out.le (by omega)) (zAg (by omega) (by omega))).mono ?_;rintro e Ua ⟨k3,rfl,hk3,hm,hr⟩;have hb3:=hk3.lt (by omega);have PO2:=zh (PO.out.pick hm);have RD2:=zh hr;clear hk3 hm hr)
   by_cases hz:0 < k3
   case neg =>
    have hzb:decide (k3 > 0)=false:=decide_eq_false hz;go_wp2;exact⟨⟨k+1,by omega,by go_num,ps,cs,hs,PO2.out,RD2.out.le (by omega)⟩,by simp[intOf];omega⟩
   have hzb:decide (k3 > 0)=true:=decide_eq_true hz;go_upto_region 10 with (fail)
   have hko:k < os.length:=by omega
   obtain⟨ocs,oF,oen,oat,ofn⟩:=(HRO.out.keep PO2.out.mw (by simp) (.inr fun j=>PO2.out.mw.cell hOG hgO8)) k os[k] (List.getElem?_eq_getElem hko)
   obtain⟨ov,rfl,osl⟩:=oen;have oc0:=oat 0 ov rfl;simp only[GT.sz,Nat.mul_one,Nat.add_zero] at oc0;obtain⟨va,vc,rfl,-⟩:=id osl;have HVO:=zh (⟨oF,osl,ofn⟩:Rsx [b,gP,gC,gH] (R+1) Ua (.slice va os[k].length vc) os[k]);have hkp:k < ps.length:=by omega
   obtain⟨pcs,pF,pen,pat,-⟩:=PO2.out.rp k ps[k] (List.getElem?_eq_getElem hkp);obtain⟨pv,rfl,-⟩:=pen;have pc0:=pat 0 pv rfl;simp only[GT.sz,Nat.mul_one,Nat.add_zero] at pc0;obtain⟨_,_,pbk⟩:=PO2.out.fz.1;have pfz:=pbk.fz;have plt:=pbk.lt;have kx3:=(PO2.out.mw.bk KX8.out hXG).cell (j:=3) rfl;have kxl:=(PO2.out.mw.bk KX8.out hXG).lt;have olt:=zl hgO8 PO2.out.mw.size;have hkP2:k < x.Programs.length:=by omega
   have HPO:=zh (PO2.out.prog hkp HVO.out);obtain⟨pk,hpk⟩:∃ pk,os[k]=pk:=⟨_,rfl⟩;rw[hpk] at HPO HVO oc0 osl;have hkq:k < x.Plan.Parts.length:=by omega
   clear oat ofn osl pat pbk hpk HVO;go_region
   go_upto_region 11 with (fail)
   refine zA1 (fun u=>zFs U8 b gP sP gC sC gH sH (R+1) 0 x u (ps.set k pk) cs hs/\Rd W u b (q+19+2*(x.Cores.length - k))) ⟨HPO.out.ext (zr _).drew,(RD2.out.set (by show b≠gP;omega) (by show W.heap.size<=gP;omega) _).ext (zr _).drew⟩ ?_
   rintro Ub ⟨pob,rdb⟩;have PB:=zh pob;have RB:=zh rdb;clear HPO PO2 RD2 PO RD oc0 pc0 pfz plt kx3 kxl olt hkP2 hzb hz hfc hfb pob rdb;obtain⟨pB,pO,qp,wa,wc,rfl,hpB,hqx,hq0,hq1,hqr,-,-,-⟩:=(P08.out.mw PB.out.mw (by simp)).rs.atPart k hkq
   have hpG:=(P08.out.blk (by omega)).1
   have hpC:pB≠gC:=fun e=>hpG (by rw[e];simp)
   have hXC:X≠gC:=by omega
   have hAC:A≠gC:=by omega
   have hkc:k < cs.length:=by omega
   obtain⟨ccs,cF,cen,cat,-⟩:=PB.out.rc k cs[k] (List.getElem?_eq_getElem hkc);obtain⟨cv,rfl,-⟩:=cen;have c30:=cat 0 _ rfl;have c31:=cat 1 _ rfl;have c32:=cat 2 _ rfl;simp only[GT.sz,Nat.add_zero] at c30 c31 c32;obtain⟨_,_,cbk⟩:=PB.out.fz.2.1;have gf9:=cbk.fz;have hg4:=cbk.lt;have a90:=(PB.out.mw.bk KA8.out hAG).cell (j:=0) rfl;have ltA9:=(PB.out.mw.bk KA8.out hAG).lt;have y4:=(PB.out.mw.bk KX8.out hXG).cell (j:=4) rfl;have ltX9:=(PB.out.mw.bk KX8.out hXG).lt;have hkC:k < x.Cores.length:=hkt;obtain⟨kc,hkcd⟩:∃ kc,zAo qp.Cells=kc:=⟨_,rfl⟩;have hqc:1<=kc.Cells.length:=by
    have h9:=(zHr HSV.out (List.mem_of_getElem? hqx.out)).2;obtain⟨h7,h8⟩:=zA6.1 h9;obtain⟨c9,hc9⟩:∃ c9:Nat,qp.Cells=c9:=⟨qp.Cells.toNat,by omega⟩
    rw[<- hkcd,hc9,zDt (by rw[<- hc9];exact h9)]
    simp;omega
   clear cat cbk hqx hq0 hpG
   go_region_held3 (fun u=>u.cell? ⟨X,4,none⟩=some (.slice (some ⟨gC,sC,none⟩) x.Cores.length u4)/\u.cell? ⟨A,0,none⟩=some (.slice (some ⟨pB,pO,none⟩) x.Plan.Parts.length q0)/\u.cell? ⟨pB,pO+k*2+1,none⟩=some (.int .i64 qp.Cells))
    (first
     | go_keep
     | exact⟨(zA0 XX.out ltX9).trans y4,(zA0 XX.out ltA9).trans a90,(zA0 XX.out hpB).trans hq1⟩
     | exact⟨zLi ((zA0 XX.out ltX9).trans y4) hXC,zLi ((zA0 XX.out ltA9).trans a90) hAC,zLi ((zA0 XX.out hpB).trans hq1) hpC⟩)
    ((go_at_call 70;refine(zIk qp.Cells _).mono ?_;rintro e w11 ⟨v11,rfl,hov,he⟩;rw[hkcd] at hov;obtain⟨cs11,FN,rfl,en11,ow11⟩:=hov;obtain⟨v0',rfl,s1',_⟩:=id en11;obtain⟨p9,q9,rfl,_⟩:=id s1';have XX:Hid (Ext Ub w11):=zh ((zr _).drew.tr he);have EN:=zh en11;have OWN:=zh ow11;have d30:=(zA0 XX.out hg4).trans c30;have d31:=(zA0 XX.out hg4).trans c31;have d32:=(zA0 XX.out hg4).trans c32;have gfd:=(PB.out.fz.2.1.ext XX.out);obtain⟨_,_,gbk⟩:=gfd;have gf8:=gbk.fz;have ltg:=gbk.lt;clear he en11 ow11 s1' gbk))
   obtain⟨om,mwc,cfar,hGM⟩:=core_new (L:=R+1) (M:=Ub.heap.size) (o:=sC+k*3) XX.out PB.out.fz.2.1 c30 c31 c32 EN.out OWN.out (Nat.le_refl _) (by omega) (by omega)
   go_upto_region 12 with (fail)
   refine zA1 (fun u=>Om (R+1) u gC (sC+k*3) kc FN/\Mw [gC] Ub u/\(∀ j,j < sC+k*3\/sC+k*3+3<=j->u.cell? ⟨gC,j,none⟩=Ub.cell? ⟨gC,j,none⟩)) ⟨om,mwc,cfar⟩ ?_
   clear om mwc cfar d30 d31 d32 gf8 ltg gf9 c30 c31 c32 XX EN OWN a90 ltA9 y4 ltX9 hq1 hpB hqr;rintro Uc ⟨om,mwc,cfar⟩;have OMC:=zh om;have MWC:=zh mwc;have CFAR:=zh cfar;have RC:Hid (Rd W Uc b (q+18+2*(x.Cores.length - k)+1)):=zh ((RB.out.mw mwc (by simp;omega) (by simp;omega)).le (by omega))
   obtain⟨a9,c9,hcc,-⟩:=om.openC;obtain⟨g9,s9,rfl,hgne,hgF,hgl,hg0,hgf,hgr,-⟩:=om.cellC hcc 0 (by omega)
   rw[Nat.add_zero] at hg0;have kx4:=(mwc.bk (PB.out.mw.bk KX8.out hXG) (by simp;omega)).cell (j:=4) rfl
   have kxl:=(mwc.bk (PB.out.mw.bk KX8.out hXG) (by simp;omega)).lt
   have hgU:=hGM g9 hgF;have hU9:=PB.out.mw.size;have hgb:g9 ∉ [b]:=by simp;omega
   have hXb:X ∉ [b]:=by simp;omega
   have hCb:gC ∉ [b]:=by simp;omega
   have hX9:X≠g9:=by omega
   have hC9:gC≠g9:=by omega
   have hcl0:0 < kc.Cells.length:=by omega
   clear om mwc cfar
   go_region_held3 (fun u=>u.cell? ⟨X,4,none⟩=some (.slice (some ⟨gC,sC,none⟩) x.Cores.length u4)/\u.cell? ⟨gC,sC+k*3,none⟩=some (.slice (some ⟨g9,s9,none⟩) kc.Cells.length c9))
    (first
     | exact⟨(World.cell?_of_block (zA4 hX9)).trans yx4,(World.cell?_of_block (zA4 hC9)).trans ycc⟩
     | go_keep)
    ((go_at_call 36;refine(zA9 W _ b (q+18+2*(x.Cores.length - k)) _ (RC.out.ext (zr Uc).drew) (zAg (by omega) (by omega))).mono ?_;rintro e Ud ⟨kk,rfl,hkk,hm,hr⟩;have hbk:=hkk.lt (by omega);have yx4:=(hm.cell hXb).trans kx4;have ycc:=(hm.cell hCb).trans hcc;have y9:=(hm.cell hgb).trans hg0;have MD:=zh hm;have RDD:=zh hr;have OMD:=zh (OMC.out.mw ((Mw.ofExt (F:=[b]) (zr Uc).drew).tr (Mw.ofMo hm)) (by simp;omega));have yf:=(show Fz Ud g9 from hm.2.2.2 _ (by obtain⟨_,_,_,ho9⟩:=OMC.out;exact ho9.2 g9 (List.mem_cons_of_mem _ hgF) |>.2));obtain⟨_,_,yfb⟩:=yf;have yff:=yfb.fz;have yfl:=yfb.lt;clear hkk hm hr yfb))
   have hHU:gH < Ub.heap.size:=by omega
   have hbU:b < Ub.heap.size:=by omega
   have POE:Hid (zFs U8 b gP sP gC sC gH sH (R+1) 0 x (Ud.setCell ⟨g9,s9,none⟩ (.int .i64 kk)) (ps.set k pk) (cs.set k { kc with Cells:=kc.Cells.set 0 kk }) hs):=zh (PB.out.cell0 hkc MWC.out CFAR.out hbU hHU hGM ((Mw.ofExt (zr Uc).drew).tr (Mw.ofMo MD.out)) OMD.out ycc hcl0 (zAg (n:=kk) (by omega) (by omega)))
   have RDE:Hid (Rd W _ b (q+20+2*(x.Cores.length - (k+1)))):=zh ((RDD.out.set (p:=⟨g9,s9,none⟩) (by show b≠g9;omega) (by show W.heap.size<=g9;omega) (.int .i64 kk)).le (by omega))
   clear yx4 ycc y9 MD RDD OMD yff yfl OMC MWC CFAR;go_wp2;exact⟨⟨k+1,by omega,by go_num,_,_,hs,POE.out,RDE.out⟩,by simp[intOf];omega⟩
  clear po rd;have hkf:¬ k < FL.length:=by omega
  go_wp2;go_loopw [11] (fun i wr => ∃ k:Nat,k<=x.Holds.length/\i = .int .i64 k/\M.OI U8 W b gP sP gC sC gH sH (R+1) (q+2*(x.Holds.length - k)) x wr) (fun i _=>x.Holds.length - (intOf i).toNat)
  case atStart=>exact⟨0,Nat.zero_le _,rfl,_,_,_,PO.out,RD.out.le (by omega)⟩
  case round =>
   clear PO RD;obtain⟨j,hj,rfl,ps,cs,hs,po,rd⟩:=hrel;have PO:=zh po;have RD:=zh rd;have KX9:=po.mw.bk KX8.out hXG;have x95:=KX9.cell (j:=5) rfl;have ltX9:=KX9.lt;have HLH:=zh po.len.2.2;by_cases hjt:j < x.Holds.length
   case neg =>
    obtain⟨x90,x91,x92,x93,x94⟩:=Bk.k5 KX9;have x96:=KX9.cell (j:=6) rfl;have KR9:=po.mw.bk KR8.out hRG;obtain⟨z0,z1,z2,z3,z4,z5,z6⟩:=Bk.k7 KR9;have zf:=KR9.fz;have ltZ:=KR9.lt;clear po rd KX9 KR9;go_wp2;refine bodyPost_ret (v:=.agg #[.slice t0 x.Plan.Parts.length u0,.slice t1 x.Plan.Channels.length u1,.slice t2 x.Plan.Slots.length u2,.slice (some ⟨gP,sP,none⟩) x.Programs.length u3,.slice (some ⟨gC,sC,none⟩) x.Cores.length u4,.slice t5 x.Holds.length u5,.int .i64 x.Tick]) (by simp[results,Tryz.results33,go_sem,z0,z1,z2,z3,z4,z5,z6]) rfl ?_
    have RV:=PO.out.rvb (R08.out.mw PO.out.mw (by simp)) (R18.out.mw PO.out.mw (by simp)) (R28.out.mw PO.out.mw (by simp)) (by omega) (by omega) (by omega) ⟨HJ3.out.1,HJ3.out.2.1⟩ ⟨HJ4.out.1,HJ4.out.2.1⟩ ⟨HJ5.out.1,HJ5.out.2.1⟩ HV5.out hrt
    have RV2:=(RV.puts (A:=R) (o:=0) (by omega) [.slice t0 x.Plan.Parts.length u0,.slice t1 x.Plan.Channels.length u1,.slice t2 x.Plan.Slots.length u2,.slice (some ⟨gP,sP,none⟩) x.Programs.length u3,.slice (some ⟨gC,sC,none⟩) x.Cores.length u4,.slice t5 x.Holds.length u5,.int .i64 x.Tick]).mono (L':=L) (by omega)
    have MV:=Mw.puts (b:=R) (o:=0) (.inr (by omega)) [.slice t0 x.Plan.Parts.length u0,.slice t1 x.Plan.Channels.length u1,.slice t2 x.Plan.Slots.length u2,.slice (some ⟨gP,sP,none⟩) x.Programs.length u3,.slice (some ⟨gC,sC,none⟩) x.Cores.length u4,.slice t5 x.Holds.length u5,.int .i64 x.Tick] (MW8.out.trF PO.out.mw hGt)
    have RDZ:=Rd.puts (c:=R) (o:=0) (by omega) (by omega) [.slice t0 x.Plan.Parts.length u0,.slice t1 x.Plan.Channels.length u1,.slice t2 x.Plan.Slots.length u2,.slice (some ⟨gP,sP,none⟩) x.Programs.length u3,.slice (some ⟨gC,sC,none⟩) x.Cores.length u4,.slice t5 x.Holds.length u5,.int .i64 x.Tick] (RD.out.le (m':=q) (by omega))
    exact⟨_,_,rfl,RV2,MV,RDZ⟩
   have hjc:j < x.Plan.Channels.length:=by omega
   obtain⟨cb,co,ch,rfl,hcb,hch,_,_,hc2,_,_,_,_,_,_⟩:=(P18.out.mw po.mw (by simp)).rs.atChannel j hjc
   have KA9:=po.mw.bk KA8.out hAG;have a91:=KA9.cell (j:=1) rfl;have ltA9:=KA9.lt;obtain⟨T,hT,hTN⟩:∃ T:Nat,ch.To=T/\T < x.Cores.length:=by
    have hv:=HCV.out;simp only[zD3,Bool.and_eq_true,List.all_eq_true] at hv;have hc:=hv.2.2 ch (List.mem_of_getElem? hch.out);simp only[zJ4,Bool.and_eq_true,zA6] at hc;exact⟨ch.To.toNat,by omega,by omega⟩
   rw[hT] at hc2;obtain⟨fb,fo,fx,rfl,hfb,hx,hfc⟩:=(HFL.out.mw po.mw (by simp)).rs.atBool T (by omega)
   have hHe:x.Holds ≠ []:=fun e=>by rw[e] at hjt;cases hjt
   obtain⟨hHP,hHC,hHb⟩:=po.ne.2.2.2.resolve_left (fun e=>by have:=HLH.out;rw[e] at this;rw[<- this] at hjt;cases hjt)
   have hjs:j < hs.length:=by have:=HLH.out;omega
   obtain⟨hcs,hF,hen,hat,-⟩:=po.rh j hs[j] (List.getElem?_eq_getElem hjs);obtain⟨hv,rfl,-⟩:=hen;have h50:=hat 0 hv rfl;simp only[GT.sz,Nat.mul_one,Nat.add_zero] at h50;obtain⟨n5,c5,e5⟩:=HV5.out.resolve_left hHe;obtain rfl:t5=some ⟨gH,sH,none⟩:=by simp at e5;exact e5.1
   have hHfz:=po.fz.2.2.resolve_left (fun e=>by have:=HLH.out;rw[e] at this;rw[<- this] at hjt;cases hjt)
   clear po rd hx hT KA9 KX9 hch hat e5;cases fx
   case true =>
    go_wp2;exact⟨⟨j+1,by omega,by go_num,ps,cs,hs,PO.out,RD.out.le (by omega)⟩,by simp[intOf];omega⟩
   have hXb:X ∉ [b]:=by simp;omega
   have hHb1:gH ∉ [b]:=by simp;omega
   go_upto_if 107 with (go_at_call 36;refine(zA9 W _ b (q+2*(x.Holds.length - j) - 1) _ (RD.out.le (by omega)) (zAg (by omega) (by omega))).mono ?_;rintro e Ua ⟨k2,rfl,hk2,hm,hr⟩;have hb2:=hk2.lt (by omega);have PO2:=zh (PO.out.pick hm);have RD2:=zh hr;have xa5:=(hm.cell hXb).trans x95;have h51:=(hm.cell hHb1).trans h50;have HF2:=zh (hm.2.2.2 _ hHfz);clear hk2 hm hr)
   by_cases hz:k2=0
   case neg =>
    have hzb:decide (k2=0)=false:=decide_eq_false hz;have hzc:(k2 == 0)=false:=beq_eq_false_iff_ne.2 hz;go_wp2;go_roundw
    case rel=>exact⟨j+1,by omega,by go_num,ps,cs,hs,PO2.out,RD2.out.le (by omega)⟩
    case measure=>simp[intOf];omega
   have hzb:decide (k2=0)=true:=decide_eq_true hz;have hzc:(k2 == 0)=true:=beq_iff_eq.2 hz;clear hfb hfc hc2 hcb a91 ltA9 x95 ltX9 h50;have xal:=(PO2.out.mw.bk KX8.out hXG).lt;go_upto_region 17 with (fail)
   go_region_held3 (fun u=>u.cell? ⟨X,5,none⟩=some (.slice (some ⟨gH,sH,none⟩) x.Holds.length u5))
    (first
     | exact(zA0 ((zr _).alloc _) (by simpa using xdl)).trans ((World.cell?_of_block (zA4 (by show X≠gH;omega))).trans xd5)
     | go_keep)
    ((go_at_call 36;refine(zA9 W _ b (q+2*(x.Holds.length - j) - 2) _ ((RD2.out.ext (zr Ua).drew).le (by omega)) (zAg (by omega) (by omega))).mono ?_;rintro e Ud ⟨kk,rfl,hkk,hm,hr⟩;have hbk:=hkk.lt (by omega);have xd5:=(hm.cell hXb).trans xa5;have h52:=(hm.cell hHb1).trans h51;have MD:=zh hm;have RDD:=zh hr;have hdf:=hm.2.2.2 _ (HF2.out.ext (zr Ua).drew);obtain⟨_,_,hdb⟩:=hdf;have hdz:=hdb.fz;have hdl:=hdb.lt;have xdl:=zl xal (Mw.ofMo (F:=[b]) hm).size;clear hkk hm hr hdb))
   have POE:Hid (zFs U8 b gP sP gC sC gH sH (R+1) 0 x ((Ud.setCell ⟨gH,sH+j,none⟩ (.slice (some ⟨Ud.heap.size,0,none⟩) 1 1)).alloc (.cells #[.int .i64 kk] 3 (0,0))) ps cs (hs.set j ⟨[kk]⟩)):=zh (by
    have h9:=PO2.out.held (T:=3) hjs ((Mw.ofExt (zr Ua).drew).tr (Mw.ofMo MD.out)) (zAg (n:=kk) (by omega) (by omega)) (by omega) (by omega)
    have hgd:gH < Ud.heap.size:=hdl;rw[World.setCell_alloc_past _ _ _ _ hgd] at h9;exact h9)
   have RDE:Hid (Rd W ((Ud.setCell ⟨gH,sH+j,none⟩ (.slice (some ⟨Ud.heap.size,0,none⟩) 1 1)).alloc (.cells #[.int .i64 kk] 3 (0,0))) b (q+2*(x.Holds.length - (j+1)))):=zh (((RDD.out.set (p:=⟨gH,sH+j,none⟩) (by show b≠gH;omega) (by show W.heap.size<=gH;omega) _).ext ((zr _).alloc _)).le (by omega))
   clear PO2 MD RDD HF2 PO RD;go_wp2;exact⟨⟨j+1,by omega,by go_num,ps,cs,_,POE.out,RDE.out⟩,by simp[intOf];omega⟩
end Sk
