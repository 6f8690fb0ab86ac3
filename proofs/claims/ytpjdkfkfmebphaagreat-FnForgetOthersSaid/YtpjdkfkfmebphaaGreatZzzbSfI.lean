/- Contracts of functions of the given program. -/
import Derived.Test.YtpjdkfkfmebphaaGreatZzlTkM
namespace Sk
open Go Go.Proofs Go.RowKit
set_option maxHeartbeats 4000000
set_option maxRecDepth 100000
set_option linter.unusedVariables false
set_option linter.unusedSimpArgs false
theorem zBi{x y:Machine}{n:Int}(h:∀ N:Nat,n=N->zGd x y N->False):zH4 x y n=false:=Bo.f fun⟨N,e,h'⟩=>h N e h'
theorem zLi{s t:Setup}(hs:zAr s=true)(ht:zAr t=true)(h:zAw s=zAw t):s=t:=by
 rcases zF7 s with ⟨_,e1⟩ | ⟨e1,_⟩
 ·rcases zF7 t with ⟨_,e2⟩ | ⟨e2,_⟩
  ·have h1:=(zNj hs []).1;have h2:=(zNj ht []).1;rw[<- e1,h,e2,h2] at h1;exact h1.symm
  ·rw[ht] at e2;cases e2
 ·rw[hs] at e1;cases e1
def M.sfP(x y:Machine)(fl:List Bool)(k:Nat):Prop:=∀ j:Nat,j < k->fl.getD j false=true->x.Programs[j]? = y.Programs[j]? /\ x.Cores[j]? = y.Cores[j]?
def M.sfH(x y:Machine)(fl:List Bool)(k:Nat):Prop:=∀ (j:Nat) (ch:Channel),j < k->x.Plan.Channels[j]? = some ch->fl.getD ch.To.toNat false=true->x.Holds[j]? = y.Holds[j]?
theorem zKt{a b:Core}(h1:a.Cells=b.Cells)(h2:a.At=b.At)(h3:a.Stopped=b.Stopped):a=b:=by cases a;cases b;simp_all
theorem zO7{a b:Hold}(h1:a.Lst=b.Lst):a=b:=by cases a;cases b;simp_all
theorem zE2(v v2:Value)(x y:Machine)(n:Int)(w:World)(h:Rv w v x)(hk:Rv w v2 y) :
  Calls Tryz.prog 11 #[v,v2,.int .i64 n] w fun e w'=>e = .returned (.bool (zH4 x y n))/\Ext w w':=by
 obtain⟨p0,q0,p1,q1,p2,q2,p3,q3,p4,q4,p5,q5,rfl,x6,s0,m0,s1,m1,s2,m2,s3,m3,s4,m4,s5,m5⟩:=h.openMachine;obtain⟨b0,d0,b1,d1,b2,d2,b3,d3,b4,d4,b5,d5,rfl,y6,t0,n0,t1,n1,t2,n2,t3,n3,t4,n4,t5,n5⟩:=hk.openMachine;have HV:=zh h;have HR:=zh hk;clear h hk;go_enter Tryz.func11,Tryz.ntmps11;go_upto_region 1 with (fail)
 obtain⟨A,hA⟩:∃ A,A=w.heap.size:=⟨_,rfl⟩;obtain⟨B,hB⟩:∃ B,B=w.heap.size+1:=⟨_,rfl⟩;refine zA1 (fun W=>Ext w W/\Bk W A [.slice p0 x.Plan.Parts.length q0,.slice p1 x.Plan.Channels.length q1,.slice p2 x.Plan.Slots.length q2,.slice p3 x.Programs.length q3,.slice p4 x.Cores.length q4,.slice p5 x.Holds.length q5,.int .i64 x.Tick] 32/\Bk W B [.slice b0 y.Plan.Parts.length d0,.slice b1 y.Plan.Channels.length d1,.slice b2 y.Plan.Slots.length d2,.slice b3 y.Programs.length d3,.slice b4 y.Cores.length d4,.slice b5 y.Holds.length d5,.int .i64 y.Tick] 32) ⟨((zr _).alloc _).alloc _,by rw[hA];exact(Bk.new _ _ _).ext ((zr _).alloc _),by rw[hB];exact Bk.new1 _ _ _ _⟩ ?_
 rw[<- hB,<- hA];rintro W3 ⟨e1,kA,kB⟩;have HE:=zh e1;have KA:=zh kA;have KB:=zh kB;replace HV:=zh (HV.out.ext e1);replace HR:=zh (HR.out.ext e1);replace s0:=zh (s0.out.ext e1);replace s1:=zh (s1.out.ext e1);replace s2:=zh (s2.out.ext e1);replace s3:=zh (s3.out.ext e1);replace s4:=zh (s4.out.ext e1);replace s5:=zh (s5.out.ext e1);replace t0:=zh (t0.out.ext e1);replace t1:=zh (t1.out.ext e1);replace t2:=zh (t2.out.ext e1);replace t3:=zh (t3.out.ext e1);replace t4:=zh (t4.out.ext e1);replace t5:=zh (t5.out.ext e1);clear e1 kA kB hA hB;have E:=zh (zr W3);have CNX:=zh (fun(u:World) (e:Ext W3 u)=>zEi _ x.Plan u (Rv.mkSetup (s0.out.ext e) (s1.out.ext e) (s2.out.ext e)))
 have CNY:=zh (fun(u:World) (e:Ext W3 u)=>zEi _ y.Plan u (Rv.mkSetup (t0.out.ext e) (t1.out.ext e) (t2.out.ext e)))
 obtain⟨fa0,fa1,fa2,fa3,fa4,fa5,fa6,faL⟩:=Bk.j7 (KA.out.ext E.out);obtain⟨fb0,fb1,fb2,fb3,fb4,fb5,fb6,fbL⟩:=Bk.j7 (KB.out.ext E.out);cases g1:zBs x n
 ·refine wp_region_held_drew (S:=fun u=>u.cell? ⟨A,0,none⟩=some (.slice p0 x.Plan.Parts.length q0)/\u.cell? ⟨A,1,none⟩=some (.slice p1 x.Plan.Channels.length q1)/\u.cell? ⟨A,2,none⟩=some (.slice p2 x.Plan.Slots.length q2)/\u.cell? ⟨A,3,none⟩=some (.slice p3 x.Programs.length q3)/\u.cell? ⟨A,4,none⟩=some (.slice p4 x.Cores.length q4)/\u.cell? ⟨A,5,none⟩=some (.slice p5 x.Holds.length q5)/\u.cell? ⟨A,6,none⟩=some (.int .i64 x.Tick)/\u.cell? ⟨B,0,none⟩=some (.slice b0 y.Plan.Parts.length d0)/\u.cell? ⟨B,1,none⟩=some (.slice b1 y.Plan.Channels.length d1)/\u.cell? ⟨B,2,none⟩=some (.slice b2 y.Plan.Slots.length d2)/\u.cell? ⟨B,3,none⟩=some (.slice b3 y.Programs.length d3)/\u.cell? ⟨B,4,none⟩=some (.slice b4 y.Cores.length d4)/\u.cell? ⟨B,5,none⟩=some (.slice b5 y.Holds.length d5)/\u.cell? ⟨B,6,none⟩=some (.int .i64 y.Tick)) (by kernel_rfl) ?_ (fun hHeld=>?_)
  ·(try dsimp only)<;>go_keep
  refine hT 0 ?_;refine hT 1 ?_;refine hC 2 fun K hK=>?_
  go_simp;(go_at_call 20;refine(zBh _ x n _ (HV.out.ext E.out.drew)).mono ?_;rintro e wa ⟨rfl,he⟩;replace E:=zh (E.out.drew.tr he);rw[g1];obtain⟨r0a0,r0a1,r0a2,r0a3,r0a4,r0a5,r0a6,r0aL⟩:=Bk.j7 (KA.out.ext E.out);obtain⟨r0b0,r0b1,r0b2,r0b3,r0b4,r0b5,r0b6,r0bL⟩:=Bk.j7 (KB.out.ext E.out);clear he);try go_wp2_with fail
  refine hK.out _ _ ?_ (fun hHeld=>?_)
  ·(try dsimp only)<;>go_keep
  clear hK K;try simp only[Act.put,zs]
  refine hT 3 ?_;refine hT 4 ?_;refine hU 5 ?_;refine hU 6 ?_;refine hU 7 ?_;refine hU 8 ?_;refine hT 9 ?_;refine hT 10 ?_;refine hU 11 ?_;refine hU 12 ?_;refine hU 13 ?_;refine hU 14 ?_;refine hU 15 ?_;refine hT 16 ?_;refine hT 17 ?_;refine hU 18 ?_;refine hU 19 ?_;refine hU 20 ?_;refine hU 21 ?_;refine hU 22 ?_;refine hU 23 ?_;refine hU 24 ?_;refine hU 25 ?_;refine hT 26 ?_;refine wpAnyH_done (by kernel_rfl) ?_ _
  go_wp2;go_ret;exact⟨by rw[zBi (fun N e h=>by have:=zBt.2 (⟨h.ma,by omega,by have:=h.hn;omega⟩:zBl x/\0<=n/\n < x.Cores.length);rw[g1] at this;cases this)];rfl,HE.out.tr E.out⟩
 cases g2:zBs y n
 ·refine wp_region_held_drew (S:=fun u=>u.cell? ⟨A,0,none⟩=some (.slice p0 x.Plan.Parts.length q0)/\u.cell? ⟨A,1,none⟩=some (.slice p1 x.Plan.Channels.length q1)/\u.cell? ⟨A,2,none⟩=some (.slice p2 x.Plan.Slots.length q2)/\u.cell? ⟨A,3,none⟩=some (.slice p3 x.Programs.length q3)/\u.cell? ⟨A,4,none⟩=some (.slice p4 x.Cores.length q4)/\u.cell? ⟨A,5,none⟩=some (.slice p5 x.Holds.length q5)/\u.cell? ⟨A,6,none⟩=some (.int .i64 x.Tick)/\u.cell? ⟨B,0,none⟩=some (.slice b0 y.Plan.Parts.length d0)/\u.cell? ⟨B,1,none⟩=some (.slice b1 y.Plan.Channels.length d1)/\u.cell? ⟨B,2,none⟩=some (.slice b2 y.Plan.Slots.length d2)/\u.cell? ⟨B,3,none⟩=some (.slice b3 y.Programs.length d3)/\u.cell? ⟨B,4,none⟩=some (.slice b4 y.Cores.length d4)/\u.cell? ⟨B,5,none⟩=some (.slice b5 y.Holds.length d5)/\u.cell? ⟨B,6,none⟩=some (.int .i64 y.Tick)) (by kernel_rfl) ?_ (fun hHeld=>?_)
  ·(try dsimp only)<;>go_keep
  refine hT 0 ?_;refine hT 1 ?_;refine hC 2 fun K hK=>?_
  go_simp;(go_at_call 20;refine(zBh _ x n _ (HV.out.ext E.out.drew)).mono ?_;rintro e wa ⟨rfl,he⟩;replace E:=zh (E.out.drew.tr he);rw[g1];obtain⟨r0a0,r0a1,r0a2,r0a3,r0a4,r0a5,r0a6,r0aL⟩:=Bk.j7 (KA.out.ext E.out);obtain⟨r0b0,r0b1,r0b2,r0b3,r0b4,r0b5,r0b6,r0bL⟩:=Bk.j7 (KB.out.ext E.out);clear he);try go_wp2_with fail
  refine hK.out _ _ ?_ (fun hHeld=>?_)
  ·(try dsimp only)<;>go_keep
  clear hK K;try simp only[Act.put,zs]
  refine hT 3 ?_;refine hT 4 ?_;refine hT 5 ?_;refine hT 6 ?_;refine hC 7 fun K hK=>?_
  go_simp;(go_at_call 20;refine(zBh _ y n _ (HR.out.ext E.out)).mono ?_;rintro e wb ⟨rfl,he⟩;replace E:=zh (E.out.tr he);rw[g2];obtain⟨r1a0,r1a1,r1a2,r1a3,r1a4,r1a5,r1a6,r1aL⟩:=Bk.j7 (KA.out.ext E.out);obtain⟨r1b0,r1b1,r1b2,r1b3,r1b4,r1b5,r1b6,r1bL⟩:=Bk.j7 (KB.out.ext E.out);clear he;clear r0a0 r0a1 r0a2 r0a3 r0a4 r0a5 r0a6 r0b0 r0b1 r0b2 r0b3 r0b4 r0b5 r0b6 r0aL r0bL);try go_wp2_with fail
  refine hK.out _ _ ?_ (fun hHeld=>?_)
  ·(try dsimp only)<;>go_keep
  clear hK K;try simp only[Act.put,zs]
  refine hT 8 ?_;refine hT 9 ?_;refine hT 10 ?_;refine hU 11 ?_;refine hU 12 ?_;refine hU 13 ?_;refine hU 14 ?_;refine hU 15 ?_;refine hT 16 ?_;refine hT 17 ?_;refine hU 18 ?_;refine hU 19 ?_;refine hU 20 ?_;refine hU 21 ?_;refine hU 22 ?_;refine hU 23 ?_;refine hU 24 ?_;refine hU 25 ?_;refine hT 26 ?_;refine wpAnyH_done (by kernel_rfl) ?_ _
  go_wp2;go_ret;exact⟨by rw[zBi (fun N e h=>by have:=zBt.2 (⟨h.mb,by omega,by have:=h.hn;have:=h.nc;omega⟩:zBl y/\0<=n/\n < y.Cores.length);rw[g2] at this;cases this)];rfl,HE.out.tr E.out⟩
 obtain⟨hmx,hn0,hn1⟩:=zBt.1 g1;obtain⟨hmy,-,hn2⟩:=zBt.1 g2;rcases zCb x.Tick y.Tick with ⟨htk,-,g3⟩ | ⟨htk,-,g3⟩
 case inr =>
  have HT:=zh htk;clear htk;refine wp_region_held_drew (S:=fun u=>u.cell? ⟨A,0,none⟩=some (.slice p0 x.Plan.Parts.length q0)/\u.cell? ⟨A,1,none⟩=some (.slice p1 x.Plan.Channels.length q1)/\u.cell? ⟨A,2,none⟩=some (.slice p2 x.Plan.Slots.length q2)/\u.cell? ⟨A,3,none⟩=some (.slice p3 x.Programs.length q3)/\u.cell? ⟨A,4,none⟩=some (.slice p4 x.Cores.length q4)/\u.cell? ⟨A,5,none⟩=some (.slice p5 x.Holds.length q5)/\u.cell? ⟨A,6,none⟩=some (.int .i64 x.Tick)/\u.cell? ⟨B,0,none⟩=some (.slice b0 y.Plan.Parts.length d0)/\u.cell? ⟨B,1,none⟩=some (.slice b1 y.Plan.Channels.length d1)/\u.cell? ⟨B,2,none⟩=some (.slice b2 y.Plan.Slots.length d2)/\u.cell? ⟨B,3,none⟩=some (.slice b3 y.Programs.length d3)/\u.cell? ⟨B,4,none⟩=some (.slice b4 y.Cores.length d4)/\u.cell? ⟨B,5,none⟩=some (.slice b5 y.Holds.length d5)/\u.cell? ⟨B,6,none⟩=some (.int .i64 y.Tick)) (by kernel_rfl) ?_ (fun hHeld=>?_)
  ·(try dsimp only)<;>go_keep
  refine hT 0 ?_;refine hT 1 ?_;refine hC 2 fun K hK=>?_
  go_simp;(go_at_call 20;refine(zBh _ x n _ (HV.out.ext E.out.drew)).mono ?_;rintro e wa ⟨rfl,he⟩;replace E:=zh (E.out.drew.tr he);rw[g1];obtain⟨r0a0,r0a1,r0a2,r0a3,r0a4,r0a5,r0a6,r0aL⟩:=Bk.j7 (KA.out.ext E.out);obtain⟨r0b0,r0b1,r0b2,r0b3,r0b4,r0b5,r0b6,r0bL⟩:=Bk.j7 (KB.out.ext E.out);clear he);try go_wp2_with fail
  refine hK.out _ _ ?_ (fun hHeld=>?_)
  ·(try dsimp only)<;>go_keep
  clear hK K;try simp only[Act.put,zs]
  refine hT 3 ?_;refine hT 4 ?_;refine hT 5 ?_;refine hT 6 ?_;refine hC 7 fun K hK=>?_
  go_simp;(go_at_call 20;refine(zBh _ y n _ (HR.out.ext E.out)).mono ?_;rintro e wb ⟨rfl,he⟩;replace E:=zh (E.out.tr he);rw[g2];obtain⟨r1a0,r1a1,r1a2,r1a3,r1a4,r1a5,r1a6,r1aL⟩:=Bk.j7 (KA.out.ext E.out);obtain⟨r1b0,r1b1,r1b2,r1b3,r1b4,r1b5,r1b6,r1bL⟩:=Bk.j7 (KB.out.ext E.out);clear he;clear r0a0 r0a1 r0a2 r0a3 r0a4 r0a5 r0a6 r0b0 r0b1 r0b2 r0b3 r0b4 r0b5 r0b6 r0aL r0bL);try go_wp2_with fail
  refine hK.out _ _ ?_ (fun hHeld=>?_)
  ·(try dsimp only)<;>go_keep
  clear hK K;try simp only[Act.put,zs]
  refine hT 8 ?_;refine hT 9 ?_;refine hT 10 ?_;refine hT 11 ?_;refine hT 12 ?_;refine hT 13 ?_;refine hT 14 ?_;refine hT 15 ?_;refine hT 16 ?_;refine hT 17 ?_;refine hU 18 ?_;refine hU 19 ?_;refine hU 20 ?_;refine hU 21 ?_;refine hU 22 ?_;refine hU 23 ?_;refine hU 24 ?_;refine hU 25 ?_;refine hT 26 ?_;refine wpAnyH_done (by kernel_rfl) ?_ _
  go_wp2;go_ret;exact⟨by rw[zBi (fun N e h=>HT.out h.tick)];rfl,HE.out.tr E.out⟩
 have HT:=zh htk;clear htk;cases g4:Eqb (zAw x.Plan) (zAw y.Plan)
 ·refine wp_region_held_drew (S:=fun u=>u.cell? ⟨A,0,none⟩=some (.slice p0 x.Plan.Parts.length q0)/\u.cell? ⟨A,1,none⟩=some (.slice p1 x.Plan.Channels.length q1)/\u.cell? ⟨A,2,none⟩=some (.slice p2 x.Plan.Slots.length q2)/\u.cell? ⟨A,3,none⟩=some (.slice p3 x.Programs.length q3)/\u.cell? ⟨A,4,none⟩=some (.slice p4 x.Cores.length q4)/\u.cell? ⟨A,5,none⟩=some (.slice p5 x.Holds.length q5)/\u.cell? ⟨A,6,none⟩=some (.int .i64 x.Tick)/\u.cell? ⟨B,0,none⟩=some (.slice b0 y.Plan.Parts.length d0)/\u.cell? ⟨B,1,none⟩=some (.slice b1 y.Plan.Channels.length d1)/\u.cell? ⟨B,2,none⟩=some (.slice b2 y.Plan.Slots.length d2)/\u.cell? ⟨B,3,none⟩=some (.slice b3 y.Programs.length d3)/\u.cell? ⟨B,4,none⟩=some (.slice b4 y.Cores.length d4)/\u.cell? ⟨B,5,none⟩=some (.slice b5 y.Holds.length d5)/\u.cell? ⟨B,6,none⟩=some (.int .i64 y.Tick)) (by kernel_rfl) ?_ (fun hHeld=>?_)
  ·(try dsimp only)<;>go_keep
  refine hT 0 ?_;refine hT 1 ?_;refine hC 2 fun K hK=>?_
  go_simp;(go_at_call 20;refine(zBh _ x n _ (HV.out.ext E.out.drew)).mono ?_;rintro e wa ⟨rfl,he⟩;replace E:=zh (E.out.drew.tr he);rw[g1];obtain⟨r0a0,r0a1,r0a2,r0a3,r0a4,r0a5,r0a6,r0aL⟩:=Bk.j7 (KA.out.ext E.out);obtain⟨r0b0,r0b1,r0b2,r0b3,r0b4,r0b5,r0b6,r0bL⟩:=Bk.j7 (KB.out.ext E.out);clear he);try go_wp2_with fail
  refine hK.out _ _ ?_ (fun hHeld=>?_)
  ·(try dsimp only)<;>go_keep
  clear hK K;try simp only[Act.put,zs]
  refine hT 3 ?_;refine hT 4 ?_;refine hT 5 ?_;refine hT 6 ?_;refine hC 7 fun K hK=>?_
  go_simp;(go_at_call 20;refine(zBh _ y n _ (HR.out.ext E.out)).mono ?_;rintro e wb ⟨rfl,he⟩;replace E:=zh (E.out.tr he);rw[g2];obtain⟨r1a0,r1a1,r1a2,r1a3,r1a4,r1a5,r1a6,r1aL⟩:=Bk.j7 (KA.out.ext E.out);obtain⟨r1b0,r1b1,r1b2,r1b3,r1b4,r1b5,r1b6,r1bL⟩:=Bk.j7 (KB.out.ext E.out);clear he;clear r0a0 r0a1 r0a2 r0a3 r0a4 r0a5 r0a6 r0b0 r0b1 r0b2 r0b3 r0b4 r0b5 r0b6 r0aL r0bL);try go_wp2_with fail
  refine hK.out _ _ ?_ (fun hHeld=>?_)
  ·(try dsimp only)<;>go_keep
  clear hK K;try simp only[Act.put,zs]
  refine hT 8 ?_;refine hT 9 ?_;refine hT 10 ?_;refine hT 11 ?_;refine hT 12 ?_;refine hT 13 ?_;refine hT 14 ?_;refine hT 15 ?_;refine hT 16 ?_;refine hT 17 ?_;refine hT 18 ?_;refine hT 19 ?_;refine hT 21 ?_;refine hT 22 ?_;refine hC 20 fun K hK=>?_
  go_simp;(go_at_call 37;refine(CNX.out _ E.out).mono ?_;rintro e wc ⟨v5,rfl,ho,he⟩;replace E:=zh (E.out.tr he);have HO5:=zh ho.rs;clear ho;clear CNX;obtain⟨r2a0,r2a1,r2a2,r2a3,r2a4,r2a5,r2a6,r2aL⟩:=Bk.j7 (KA.out.ext E.out);obtain⟨r2b0,r2b1,r2b2,r2b3,r2b4,r2b5,r2b6,r2bL⟩:=Bk.j7 (KB.out.ext E.out);clear he;clear r1a0 r1a1 r1a2 r1a3 r1a4 r1a5 r1a6 r1b0 r1b1 r1b2 r1b3 r1b4 r1b5 r1b6 r1aL r1bL);try go_wp2_with fail
  refine hK.out _ _ ?_ (fun hHeld=>?_)
  ·(try dsimp only)<;>go_keep
  clear hK K;try simp only[Act.put,zs]
  refine hC 23 fun K hK=>?_
  go_simp;(go_at_call 37;refine(CNY.out _ E.out).mono ?_;rintro e wd ⟨v6,rfl,ho,he⟩;replace E:=zh (E.out.tr he);have HO6:=zh ho.rs;replace HO5:=zh (HO5.out.ext he);clear ho;clear CNY;obtain⟨r3a0,r3a1,r3a2,r3a3,r3a4,r3a5,r3a6,r3aL⟩:=Bk.j7 (KA.out.ext E.out);obtain⟨r3b0,r3b1,r3b2,r3b3,r3b4,r3b5,r3b6,r3bL⟩:=Bk.j7 (KB.out.ext E.out);clear he;clear r2a0 r2a1 r2a2 r2a3 r2a4 r2a5 r2a6 r2b0 r2b1 r2b2 r2b3 r2b4 r2b5 r2b6 r2aL r2bL);try go_wp2_with fail
  refine hK.out _ _ ?_ (fun hHeld=>?_)
  ·(try dsimp only)<;>go_keep
  clear hK K;try simp only[Act.put,zs]
  refine hC 24 fun K hK=>?_
  go_simp;(go_at_call 36;refine(zB1 _ _ _ _ _ HO5.out HO6.out).mono ?_;rintro e we ⟨rfl,he⟩;replace E:=zh (E.out.tr he);rw[g4];obtain⟨r4a0,r4a1,r4a2,r4a3,r4a4,r4a5,r4a6,r4aL⟩:=Bk.j7 (KA.out.ext E.out);obtain⟨r4b0,r4b1,r4b2,r4b3,r4b4,r4b5,r4b6,r4bL⟩:=Bk.j7 (KB.out.ext E.out);clear he;clear r3a0 r3a1 r3a2 r3a3 r3a4 r3a5 r3a6 r3b0 r3b1 r3b2 r3b3 r3b4 r3b5 r3b6 r3aL r3bL);try go_wp2_with fail
  refine hK.out _ _ ?_ (fun hHeld=>?_)
  ·(try dsimp only)<;>go_keep
  clear hK K;try simp only[Act.put,zs]
  refine hT 25 ?_;refine hT 26 ?_;refine wpAnyH_done (by kernel_rfl) ?_ _
  go_wp2;go_ret;exact⟨by rw[zBi (fun N e h=>by rw[Eqb.t (by rw[h.plan])] at g4;cases g4)];rfl,HE.out.tr E.out⟩
 refine wp_region_held_drew (S:=fun u=>u.cell? ⟨A,0,none⟩=some (.slice p0 x.Plan.Parts.length q0)/\u.cell? ⟨A,1,none⟩=some (.slice p1 x.Plan.Channels.length q1)/\u.cell? ⟨A,2,none⟩=some (.slice p2 x.Plan.Slots.length q2)/\u.cell? ⟨A,3,none⟩=some (.slice p3 x.Programs.length q3)/\u.cell? ⟨A,4,none⟩=some (.slice p4 x.Cores.length q4)/\u.cell? ⟨A,5,none⟩=some (.slice p5 x.Holds.length q5)/\u.cell? ⟨A,6,none⟩=some (.int .i64 x.Tick)/\u.cell? ⟨B,0,none⟩=some (.slice b0 y.Plan.Parts.length d0)/\u.cell? ⟨B,1,none⟩=some (.slice b1 y.Plan.Channels.length d1)/\u.cell? ⟨B,2,none⟩=some (.slice b2 y.Plan.Slots.length d2)/\u.cell? ⟨B,3,none⟩=some (.slice b3 y.Programs.length d3)/\u.cell? ⟨B,4,none⟩=some (.slice b4 y.Cores.length d4)/\u.cell? ⟨B,5,none⟩=some (.slice b5 y.Holds.length d5)/\u.cell? ⟨B,6,none⟩=some (.int .i64 y.Tick)) (by kernel_rfl) ?_ (fun hHeld=>?_)
 ·(try dsimp only)<;>go_keep
 refine hT 0 ?_;refine hT 1 ?_;refine hC 2 fun K hK=>?_
 go_simp;(go_at_call 20;refine(zBh _ x n _ (HV.out.ext E.out.drew)).mono ?_;rintro e wa ⟨rfl,he⟩;replace E:=zh (E.out.drew.tr he);rw[g1];obtain⟨r0a0,r0a1,r0a2,r0a3,r0a4,r0a5,r0a6,r0aL⟩:=Bk.j7 (KA.out.ext E.out);obtain⟨r0b0,r0b1,r0b2,r0b3,r0b4,r0b5,r0b6,r0bL⟩:=Bk.j7 (KB.out.ext E.out);clear he);try go_wp2_with fail
 refine hK.out _ _ ?_ (fun hHeld=>?_)
 ·(try dsimp only)<;>go_keep
 clear hK K;try simp only[Act.put,zs]
 refine hT 3 ?_;refine hT 4 ?_;refine hT 5 ?_;refine hT 6 ?_;refine hC 7 fun K hK=>?_
 go_simp;(go_at_call 20;refine(zBh _ y n _ (HR.out.ext E.out)).mono ?_;rintro e wb ⟨rfl,he⟩;replace E:=zh (E.out.tr he);rw[g2];obtain⟨r1a0,r1a1,r1a2,r1a3,r1a4,r1a5,r1a6,r1aL⟩:=Bk.j7 (KA.out.ext E.out);obtain⟨r1b0,r1b1,r1b2,r1b3,r1b4,r1b5,r1b6,r1bL⟩:=Bk.j7 (KB.out.ext E.out);clear he;clear r0a0 r0a1 r0a2 r0a3 r0a4 r0a5 r0a6 r0b0 r0b1 r0b2 r0b3 r0b4 r0b5 r0b6 r0aL r0bL);try go_wp2_with fail
 refine hK.out _ _ ?_ (fun hHeld=>?_)
 ·(try dsimp only)<;>go_keep
 clear hK K;try simp only[Act.put,zs]
 refine hT 8 ?_;refine hT 9 ?_;refine hT 10 ?_;refine hT 11 ?_;refine hT 12 ?_;refine hT 13 ?_;refine hT 14 ?_;refine hT 15 ?_;refine hT 16 ?_;refine hT 17 ?_;refine hT 18 ?_;refine hT 19 ?_;refine hT 21 ?_;refine hT 22 ?_;refine hC 20 fun K hK=>?_
 go_simp;(go_at_call 37;refine(CNX.out _ E.out).mono ?_;rintro e wc ⟨v5,rfl,ho,he⟩;replace E:=zh (E.out.tr he);have HO5:=zh ho.rs;clear ho;clear CNX;obtain⟨r2a0,r2a1,r2a2,r2a3,r2a4,r2a5,r2a6,r2aL⟩:=Bk.j7 (KA.out.ext E.out);obtain⟨r2b0,r2b1,r2b2,r2b3,r2b4,r2b5,r2b6,r2bL⟩:=Bk.j7 (KB.out.ext E.out);clear he;clear r1a0 r1a1 r1a2 r1a3 r1a4 r1a5 r1a6 r1b0 r1b1 r1b2 r1b3 r1b4 r1b5 r1b6 r1aL r1bL);try go_wp2_with fail
 refine hK.out _ _ ?_ (fun hHeld=>?_)
 ·(try dsimp only)<;>go_keep
 clear hK K;try simp only[Act.put,zs]
 refine hC 23 fun K hK=>?_
 go_simp;(go_at_call 37;refine(CNY.out _ E.out).mono ?_;rintro e wd ⟨v6,rfl,ho,he⟩;replace E:=zh (E.out.tr he);have HO6:=zh ho.rs;replace HO5:=zh (HO5.out.ext he);clear ho;clear CNY;obtain⟨r3a0,r3a1,r3a2,r3a3,r3a4,r3a5,r3a6,r3aL⟩:=Bk.j7 (KA.out.ext E.out);obtain⟨r3b0,r3b1,r3b2,r3b3,r3b4,r3b5,r3b6,r3bL⟩:=Bk.j7 (KB.out.ext E.out);clear he;clear r2a0 r2a1 r2a2 r2a3 r2a4 r2a5 r2a6 r2b0 r2b1 r2b2 r2b3 r2b4 r2b5 r2b6 r2aL r2bL);try go_wp2_with fail
 refine hK.out _ _ ?_ (fun hHeld=>?_)
 ·(try dsimp only)<;>go_keep
 clear hK K;try simp only[Act.put,zs]
 refine hC 24 fun K hK=>?_
 go_simp;(go_at_call 36;refine(zB1 _ _ _ _ _ HO5.out HO6.out).mono ?_;rintro e we ⟨rfl,he⟩;replace E:=zh (E.out.tr he);rw[g4];obtain⟨r4a0,r4a1,r4a2,r4a3,r4a4,r4a5,r4a6,r4aL⟩:=Bk.j7 (KA.out.ext E.out);obtain⟨r4b0,r4b1,r4b2,r4b3,r4b4,r4b5,r4b6,r4bL⟩:=Bk.j7 (KB.out.ext E.out);clear he;clear r3a0 r3a1 r3a2 r3a3 r3a4 r3a5 r3a6 r3b0 r3b1 r3b2 r3b3 r3b4 r3b5 r3b6 r3aL r3bL);try go_wp2_with fail
 refine hK.out _ _ ?_ (fun hHeld=>?_)
 ·(try dsimp only)<;>go_keep
 clear hK K;try simp only[Act.put,zs]
 refine hT 25 ?_;refine hT 26 ?_;refine wpAnyH_done (by kernel_rfl) ?_ _
 have hpl:x.Plan=y.Plan:=zLi hmx.pg.set hmy.pg.set (Eqb.iff.1 g4);obtain⟨N,rfl⟩:∃ N:Nat,n=N:=⟨n.toNat,by omega⟩
 have hN:N < x.Cores.length:=by omega
 have HP:=zh hpl;have hc5:x.Cores.length<=5:=by rw[hmx.nc];exact zAn hmx.pg.set
 have lcy:x.Cores.length<=y.Cores.length:=by rw[hmx.nc,hmy.nc,hpl];exact Nat.le_refl _
 have lpx:x.Cores.length<=x.Programs.length:=by rw[hmx.pg.np,hmx.nc];exact Nat.le_refl _
 have lpy:x.Cores.length<=y.Programs.length:=by rw[hmy.pg.np,<- hpl,<- hmx.nc];exact Nat.le_refl _
 have lhx:x.Plan.Channels.length<=x.Holds.length:=by rw[hmx.nh];exact Nat.le_refl _
 have lhx2:x.Holds.length<=x.Plan.Channels.length:=by rw[hmx.nh];exact Nat.le_refl _
 have lhy:x.Plan.Channels.length<=y.Holds.length:=by rw[hmy.nh,hpl];exact Nat.le_refl _
 have hch8:=zAu hmx.pg.set;have HMX:=zh hmx;have HMY:=zh hmy;have HCV:=zh (fun(k:Nat) (ch:Channel) (h:x.Plan.Channels[k]? = some ch)=>zLa hmx.pg.set (List.mem_of_getElem? h))
 have HNP:=zh hmx.nc;have hcsv:=zKy hmx.pg.set;rw[<- hmx.nc] at hcsv;have HCS:=zh hcsv;clear hpl hmx hmy g1 g2 g3 g4 hcsv;obtain⟨fl,hfl⟩:∃ fl,zBc x.Plan.Channels x.Cores.length N=fl:=⟨_,rfl⟩;have hfll:fl.length<=x.Cores.length:=by rw[<- hfl,zC0];exact Nat.le_refl _
 have hfll2:x.Cores.length<=fl.length:=by rw[<- hfl,zC0];exact Nat.le_refl _
 have CF:=zh (fun(v:Value) (u:World) (h:Rs u v x.Plan.Channels)=>zL5 v x.Plan.Channels x.Cores.length N u h hc5 hN)
 rw[hfl] at CF;have HFL:=zh hfl;clear hfl fa0 fa1 fa2 fa3 fa4 fa5 fa6 fb0 fb1 fb2 fb3 fb4 fb5 fb6 faL fbL;obtain⟨ha0,ha1,ha2,ha3,ha4,ha5,ha6,haL⟩:=Bk.j7 (KA.out.ext E.out);obtain⟨hb0,hb1,hb2,hb3,hb4,hb5,hb6,hbL⟩:=Bk.j7 (KB.out.ext E.out);go_upto_region 4 with (go_at_call 22;refine(CF.out _ _ (s1.out.ext E.out)).mono ?_;rintro e w5 ⟨v5,rfl,ho,he⟩;obtain⟨fa,fc,rfl,-⟩:=ho.rs.form;have HF0:=zh ho.rs;replace E:=zh (E.out.tr he);clear ho he)
 clear ha0 ha1 ha2 ha3 ha4 ha5 ha6 hb0 hb1 hb2 hb3 hb4 hb5 hb6 haL hbL;refine zA1 (fun u=>Ext W3 u/\Rs u (.slice fa fl.length fc) fl) ⟨E.out,HF0.out⟩ ?_
 rintro W5 ⟨e5,hf5⟩;have HF:=zh hf5;replace HE:=zh (HE.out.tr e5);replace HV:=zh (HV.out.ext e5);replace HR:=zh (HR.out.ext e5);replace KA:=zh (KA.out.ext e5);replace KB:=zh (KB.out.ext e5);replace s0:=zh (s0.out.ext e5);replace s1:=zh (s1.out.ext e5);replace s2:=zh (s2.out.ext e5);replace s3:=zh (s3.out.ext e5);replace s4:=zh (s4.out.ext e5);replace s5:=zh (s5.out.ext e5);replace t0:=zh (t0.out.ext e5);replace t1:=zh (t1.out.ext e5);replace t2:=zh (t2.out.ext e5);replace t3:=zh (t3.out.ext e5);replace t4:=zh (t4.out.ext e5);replace t5:=zh (t5.out.ext e5);clear e5 hf5 E HF0 CF;have E:=zh (zr W5);have iaK:=KA.out.ext E.out;have ia4:=iaK.cell (j:=4) rfl;have iaL:=iaK.lt;clear iaK;have ibK:=KB.out.ext E.out;have ib4:=ibK.cell (j:=4) rfl;have ibL:=ibK.lt;clear ibK;go_wp2;go_loopw [51] (fun i wr => ∃ k:Nat,k<=x.Cores.length/\i = .int .i64 k/\Ext W5 wr/\Hid (M.sfP x y fl k)) (fun i _=>x.Cores.length - (intOf i).toNat)
 case atStart=>exact⟨0,Nat.zero_le _,rfl,E.out,zh fun j hj=>absurd hj (Nat.not_lt_zero _)⟩
 case round =>
  obtain⟨k,hk,rfl,er,hinv⟩:=hrel;replace E:=zh er;clear er ia4 ib4 iaL ibL;by_cases hkt:k < x.Cores.length
  ·obtain⟨eb1,eo1,er1,ep1,ec1,rfl,hB1,hX1,hF10,hF11,hF12,hR1,hS1,hL1,hV1⟩:=s4.out.atCore k hkt;have gL1:=zl hB1 E.out.sz;have gF10:=(zA0 E.out hB1).trans hF10;have gF11:=(zA0 E.out hB1).trans hF11;have gF12:=(zA0 E.out hB1).trans hF12;obtain⟨eb2,eo2,er2,ep2,ec2,rfl,hB2,hX2,hF20,hF21,hF22,hR2,hS2,hL2,hV2⟩:=t4.out.atCore k (by omega)
   have gL2:=zl hB2 E.out.sz;have gF20:=(zA0 E.out hB2).trans hF20;have gF21:=(zA0 E.out hB2).trans hF21;have gF22:=(zA0 E.out hB2).trans hF22;have iaK:=KA.out.ext E.out;have ia4:=iaK.cell (j:=4) rfl;have iaL:=iaK.lt;clear iaK;have ibK:=KB.out.ext E.out;have ib4:=ibK.cell (j:=4) rfl;have ibL:=ibK.lt;clear ibK;go_upto_region 8 with (fail)
   obtain⟨C,hC⟩:∃ C,C=wr.heap.size:=⟨_,rfl⟩;obtain⟨D,hD⟩:∃ D,D=wr.heap.size+1:=⟨_,rfl⟩;refine zA1 (fun u=>Ext W5 u/\Bk u C [.slice ep1 er1.Cells.length ec1,.int .i64 er1.At,.bool er1.Stopped] 45/\Bk u D [.slice ep2 er2.Cells.length ec2,.int .i64 er2.At,.bool er2.Stopped] 45) ⟨(E.out.alloc _).alloc _,by rw[hC];exact(Bk.new _ _ _).ext ((zr _).alloc _),by rw[hD];exact Bk.new1 _ _ _ _⟩ ?_
   rw[<- hD,<- hC];rintro W6 ⟨e6,kC,kD⟩;clear hC hD gL1 gF10 gF11 gF12 gL2 gF20 gF21 gF22 ia4 ib4 iaL ibL;replace E:=zh e6;clear e6;have E6:=zh (zr W6);have KC:=zh kC;have KD:=zh kD;clear kC kD;have hk1:k < fl.length:=by omega
   have hk2:k < x.Programs.length:=by omega
   have hk3:k < y.Programs.length:=by omega
   obtain⟨eb3,eo3,er3,ep3,ec3,rfl,hB3,hX3,hF30,hS3,hL3⟩:=s3.out.atList k (by omega)
   obtain⟨eb4,eo4,er4,ep4,ec4,rfl,hB4,hX4,hF40,hS4,hL4⟩:=t3.out.atList k (by omega)
   obtain⟨eb5,eo5,er5,rfl,hB5,hX5,hF50⟩:=HF.out.atBool k (by omega)
   cases er5
   ·have gL3:=zl hB3 E.out.sz;have gF30:=(zA0 E.out hB3).trans hF30;have gL4:=zl hB4 E.out.sz;have gF40:=(zA0 E.out hB4).trans hF40;have gL5:=zl hB5 E.out.sz;have gF50:=(zA0 E.out hB5).trans hF50;have laK:=KA.out.ext E.out;have la3:=laK.cell (j:=3) rfl;have laL:=laK.lt;clear laK;have lbK:=KB.out.ext E.out;have lb3:=lbK.cell (j:=3) rfl;have lbL:=lbK.lt;clear lbK;obtain⟨ma0,ma1,ma2,maL⟩:=Bk.j3 (KC.out.ext E6.out);obtain⟨mb0,mb1,mb2,mbL⟩:=Bk.j3 (KD.out.ext E6.out);go_big_quiet (fail)
    go_wp2;refine⟨⟨k+1,by omega,by go_num,E.out.drewN _,zh fun j hj hf=>?_⟩,by simp[intOf];omega⟩
    by_cases e:j=k
    ·subst e;rw[List.getD_eq_getElem?_getD,hX5.out] at hf;cases hf
    ·exact hinv.out j (by omega) hf
   cases gq1:Eqb er3 er4
   ·have gL3:=zl hB3 E.out.sz;have gF30:=(zA0 E.out hB3).trans hF30;have gL4:=zl hB4 E.out.sz;have gF40:=(zA0 E.out hB4).trans hF40;have gL5:=zl hB5 E.out.sz;have gF50:=(zA0 E.out hB5).trans hF50;have laK:=KA.out.ext E.out;have la3:=laK.cell (j:=3) rfl;have laL:=laK.lt;clear laK;have lbK:=KB.out.ext E.out;have lb3:=lbK.cell (j:=3) rfl;have lbL:=lbK.lt;clear lbK;obtain⟨ma0,ma1,ma2,maL⟩:=Bk.j3 (KC.out.ext E6.out);obtain⟨mb0,mb1,mb2,mbL⟩:=Bk.j3 (KD.out.ext E6.out);refine wp_region_held_drew (S:=fun u=>u.cell? ⟨A,3,none⟩=some (.slice (some ⟨eb3,eo3,none⟩) x.Programs.length q3)/\u.cell? ⟨B,3,none⟩=some (.slice (some ⟨eb4,eo4,none⟩) y.Programs.length d3)/\u.cell? ⟨C,0,none⟩=some (.slice ep1 er1.Cells.length ec1)/\u.cell? ⟨C,1,none⟩=some (.int .i64 er1.At)/\u.cell? ⟨C,2,none⟩=some (.bool er1.Stopped)/\u.cell? ⟨D,0,none⟩=some (.slice ep2 er2.Cells.length ec2)/\u.cell? ⟨D,1,none⟩=some (.int .i64 er2.At)/\u.cell? ⟨D,2,none⟩=some (.bool er2.Stopped)/\u.cell? ⟨eb3,eo3+k,none⟩=some (.slice ep3 er3.length ec3)/\u.cell? ⟨eb4,eo4+k,none⟩=some (.slice ep4 er4.length ec4)/\u.cell? ⟨eb5,eo5+k,none⟩=some (.bool true)) (by kernel_rfl) ?_ (fun hHeld=>?_)
    ·(try dsimp only)<;>go_keep
    refine hT 0 ?_;refine hT 1 ?_;refine hT 2 ?_;refine hT 3 ?_;refine hT 4 ?_;refine hT 5 ?_;refine hT 6 ?_;refine hT 7 ?_;refine hT 8 ?_;refine hT 9 ?_;refine hT 10 ?_;refine hT 11 ?_;refine hT 12 ?_;refine hT 13 ?_;refine hT 14 ?_;refine hC 15 fun K hK=>?_
    go_simp;(go_at_call 38;refine(zB9 _ _ er3 er4 _ (hS3.out.ext E.out.drew) (hS4.out.ext E.out.drew)).mono ?_;rintro e wz0 ⟨rfl,he⟩;rw[gq1];replace E:=zh (E.out.drew.tr he);replace E6:=zh (E6.out.drew.tr he);have n0aK:=KA.out.ext E.out;have n0a3:=n0aK.cell (j:=3) rfl;have n0aL:=n0aK.lt;clear n0aK;have n0bK:=KB.out.ext E.out;have n0b3:=n0bK.cell (j:=3) rfl;have n0bL:=n0bK.lt;clear n0bK;obtain⟨o0a0,o0a1,o0a2,o0aL⟩:=Bk.j3 (KC.out.ext E6.out);obtain⟨o0b0,o0b1,o0b2,o0bL⟩:=Bk.j3 (KD.out.ext E6.out);have u00:=(zA0 E.out hB3).trans hF30;have u01:=(zA0 E.out hB4).trans hF40;have u02:=(zA0 E.out hB5).trans hF50;clear he);try go_wp2_with fail
    refine hK.out _ _ ?_ (fun hHeld=>?_)
    ·(try dsimp only)<;>go_keep
    clear hK K;try simp only[Act.put,zs]
    refine hT 16 ?_;refine hT 17 ?_;refine hU 18 ?_;refine hU 19 ?_;refine hU 20 ?_;refine hU 21 ?_;refine hU 22 ?_;refine hU 23 ?_;refine hT 24 ?_;refine hT 25 ?_;refine hU 26 ?_;refine hU 27 ?_;refine hU 28 ?_;refine hU 29 ?_;refine hU 30 ?_;refine hT 31 ?_;refine hT 32 ?_;refine hU 33 ?_;refine hU 34 ?_;refine hU 35 ?_;refine hU 36 ?_;refine hU 37 ?_;refine hT 38 ?_;refine hT 39 ?_;refine wpAnyH_done (by kernel_rfl) ?_ _
    go_wp2;go_ret;exact⟨by rw[zBi (fun N' e h=>by
     obtain rfl:N=N':=by omega
     have hnr:zB8 x N k:=⟨k,rfl,by rw[HFL.out,List.getD_eq_getElem?_getD,hX5.out];rfl⟩
     have h9:=h.progs k hnr;rw[hX3.out,hX4.out] at h9;rw[Eqb.t (Option.some.inj h9)] at gq1;cases gq1)];rfl,HE.out.tr E.out⟩
   cases gq2:Eqb er1.Cells er2.Cells
   ·have gL3:=zl hB3 E.out.sz;have gF30:=(zA0 E.out hB3).trans hF30;have gL4:=zl hB4 E.out.sz;have gF40:=(zA0 E.out hB4).trans hF40;have gL5:=zl hB5 E.out.sz;have gF50:=(zA0 E.out hB5).trans hF50;have laK:=KA.out.ext E.out;have la3:=laK.cell (j:=3) rfl;have laL:=laK.lt;clear laK;have lbK:=KB.out.ext E.out;have lb3:=lbK.cell (j:=3) rfl;have lbL:=lbK.lt;clear lbK;obtain⟨ma0,ma1,ma2,maL⟩:=Bk.j3 (KC.out.ext E6.out);obtain⟨mb0,mb1,mb2,mbL⟩:=Bk.j3 (KD.out.ext E6.out);refine wp_region_held_drew (S:=fun u=>u.cell? ⟨A,3,none⟩=some (.slice (some ⟨eb3,eo3,none⟩) x.Programs.length q3)/\u.cell? ⟨B,3,none⟩=some (.slice (some ⟨eb4,eo4,none⟩) y.Programs.length d3)/\u.cell? ⟨C,0,none⟩=some (.slice ep1 er1.Cells.length ec1)/\u.cell? ⟨C,1,none⟩=some (.int .i64 er1.At)/\u.cell? ⟨C,2,none⟩=some (.bool er1.Stopped)/\u.cell? ⟨D,0,none⟩=some (.slice ep2 er2.Cells.length ec2)/\u.cell? ⟨D,1,none⟩=some (.int .i64 er2.At)/\u.cell? ⟨D,2,none⟩=some (.bool er2.Stopped)/\u.cell? ⟨eb3,eo3+k,none⟩=some (.slice ep3 er3.length ec3)/\u.cell? ⟨eb4,eo4+k,none⟩=some (.slice ep4 er4.length ec4)/\u.cell? ⟨eb5,eo5+k,none⟩=some (.bool true)) (by kernel_rfl) ?_ (fun hHeld=>?_)
    ·(try dsimp only)<;>go_keep
    refine hT 0 ?_;refine hT 1 ?_;refine hT 2 ?_;refine hT 3 ?_;refine hT 4 ?_;refine hT 5 ?_;refine hT 6 ?_;refine hT 7 ?_;refine hT 8 ?_;refine hT 9 ?_;refine hT 10 ?_;refine hT 11 ?_;refine hT 12 ?_;refine hT 13 ?_;refine hT 14 ?_;refine hC 15 fun K hK=>?_
    go_simp;(go_at_call 38;refine(zB9 _ _ er3 er4 _ (hS3.out.ext E.out.drew) (hS4.out.ext E.out.drew)).mono ?_;rintro e wz0 ⟨rfl,he⟩;rw[gq1];replace E:=zh (E.out.drew.tr he);replace E6:=zh (E6.out.drew.tr he);have n0aK:=KA.out.ext E.out;have n0a3:=n0aK.cell (j:=3) rfl;have n0aL:=n0aK.lt;clear n0aK;have n0bK:=KB.out.ext E.out;have n0b3:=n0bK.cell (j:=3) rfl;have n0bL:=n0bK.lt;clear n0bK;obtain⟨o0a0,o0a1,o0a2,o0aL⟩:=Bk.j3 (KC.out.ext E6.out);obtain⟨o0b0,o0b1,o0b2,o0bL⟩:=Bk.j3 (KD.out.ext E6.out);have u00:=(zA0 E.out hB3).trans hF30;have u01:=(zA0 E.out hB4).trans hF40;have u02:=(zA0 E.out hB5).trans hF50;clear he);try go_wp2_with fail
    refine hK.out _ _ ?_ (fun hHeld=>?_)
    ·(try dsimp only)<;>go_keep
    clear hK K;try simp only[Act.put,zs]
    refine hT 16 ?_;refine hT 17 ?_;refine hT 18 ?_;refine hT 19 ?_;refine hT 20 ?_;refine hT 21 ?_;refine hC 22 fun K hK=>?_
    go_simp;(go_at_call 36;refine(zB1 _ _ er1.Cells er2.Cells _ (hS1.out.ext E.out) (hS2.out.ext E.out)).mono ?_;rintro e wz1 ⟨rfl,he⟩;rw[gq2];replace E:=zh (E.out.tr he);replace E6:=zh (E6.out.tr he);have n1aK:=KA.out.ext E.out;have n1a3:=n1aK.cell (j:=3) rfl;have n1aL:=n1aK.lt;clear n1aK;have n1bK:=KB.out.ext E.out;have n1b3:=n1bK.cell (j:=3) rfl;have n1bL:=n1bK.lt;clear n1bK;obtain⟨o1a0,o1a1,o1a2,o1aL⟩:=Bk.j3 (KC.out.ext E6.out);obtain⟨o1b0,o1b1,o1b2,o1bL⟩:=Bk.j3 (KD.out.ext E6.out);have u10:=(zA0 E.out hB3).trans hF30;have u11:=(zA0 E.out hB4).trans hF40;have u12:=(zA0 E.out hB5).trans hF50;clear he);try go_wp2_with fail
    refine hK.out _ _ ?_ (fun hHeld=>?_)
    ·(try dsimp only)<;>go_keep
    clear hK K;try simp only[Act.put,zs]
    refine hT 23 ?_;refine hT 24 ?_;refine hT 25 ?_;refine hU 26 ?_;refine hU 27 ?_;refine hU 28 ?_;refine hU 29 ?_;refine hU 30 ?_;refine hT 31 ?_;refine hT 32 ?_;refine hU 33 ?_;refine hU 34 ?_;refine hU 35 ?_;refine hU 36 ?_;refine hU 37 ?_;refine hT 38 ?_;refine hT 39 ?_;refine wpAnyH_done (by kernel_rfl) ?_ _
    go_wp2;go_ret;exact⟨by rw[zBi (fun N' e h=>by
     obtain rfl:N=N':=by omega
     have hnr:zB8 x N k:=⟨k,rfl,by rw[HFL.out,List.getD_eq_getElem?_getD,hX5.out];rfl⟩
     have h9:=h.cores k hnr;rw[hX1.out,hX2.out] at h9;rw[Eqb.t (by rw[Option.some.inj h9])] at gq2;cases gq2)];rfl,HE.out.tr E.out⟩
   rcases zCb er1.At er2.At with ⟨hat,-,gq3⟩ | ⟨hat,-,gq3⟩
   case inr =>
    have HAT:=zh hat;clear hat;have gL3:=zl hB3 E.out.sz;have gF30:=(zA0 E.out hB3).trans hF30;have gL4:=zl hB4 E.out.sz;have gF40:=(zA0 E.out hB4).trans hF40;have gL5:=zl hB5 E.out.sz;have gF50:=(zA0 E.out hB5).trans hF50;have laK:=KA.out.ext E.out;have la3:=laK.cell (j:=3) rfl;have laL:=laK.lt;clear laK;have lbK:=KB.out.ext E.out;have lb3:=lbK.cell (j:=3) rfl;have lbL:=lbK.lt;clear lbK;obtain⟨ma0,ma1,ma2,maL⟩:=Bk.j3 (KC.out.ext E6.out);obtain⟨mb0,mb1,mb2,mbL⟩:=Bk.j3 (KD.out.ext E6.out);refine wp_region_held_drew (S:=fun u=>u.cell? ⟨A,3,none⟩=some (.slice (some ⟨eb3,eo3,none⟩) x.Programs.length q3)/\u.cell? ⟨B,3,none⟩=some (.slice (some ⟨eb4,eo4,none⟩) y.Programs.length d3)/\u.cell? ⟨C,0,none⟩=some (.slice ep1 er1.Cells.length ec1)/\u.cell? ⟨C,1,none⟩=some (.int .i64 er1.At)/\u.cell? ⟨C,2,none⟩=some (.bool er1.Stopped)/\u.cell? ⟨D,0,none⟩=some (.slice ep2 er2.Cells.length ec2)/\u.cell? ⟨D,1,none⟩=some (.int .i64 er2.At)/\u.cell? ⟨D,2,none⟩=some (.bool er2.Stopped)/\u.cell? ⟨eb3,eo3+k,none⟩=some (.slice ep3 er3.length ec3)/\u.cell? ⟨eb4,eo4+k,none⟩=some (.slice ep4 er4.length ec4)/\u.cell? ⟨eb5,eo5+k,none⟩=some (.bool true)) (by kernel_rfl) ?_ (fun hHeld=>?_)
    ·(try dsimp only)<;>go_keep
    refine hT 0 ?_;refine hT 1 ?_;refine hT 2 ?_;refine hT 3 ?_;refine hT 4 ?_;refine hT 5 ?_;refine hT 6 ?_;refine hT 7 ?_;refine hT 8 ?_;refine hT 9 ?_;refine hT 10 ?_;refine hT 11 ?_;refine hT 12 ?_;refine hT 13 ?_;refine hT 14 ?_;refine hC 15 fun K hK=>?_
    go_simp;(go_at_call 38;refine(zB9 _ _ er3 er4 _ (hS3.out.ext E.out.drew) (hS4.out.ext E.out.drew)).mono ?_;rintro e wz0 ⟨rfl,he⟩;rw[gq1];replace E:=zh (E.out.drew.tr he);replace E6:=zh (E6.out.drew.tr he);have n0aK:=KA.out.ext E.out;have n0a3:=n0aK.cell (j:=3) rfl;have n0aL:=n0aK.lt;clear n0aK;have n0bK:=KB.out.ext E.out;have n0b3:=n0bK.cell (j:=3) rfl;have n0bL:=n0bK.lt;clear n0bK;obtain⟨o0a0,o0a1,o0a2,o0aL⟩:=Bk.j3 (KC.out.ext E6.out);obtain⟨o0b0,o0b1,o0b2,o0bL⟩:=Bk.j3 (KD.out.ext E6.out);have u00:=(zA0 E.out hB3).trans hF30;have u01:=(zA0 E.out hB4).trans hF40;have u02:=(zA0 E.out hB5).trans hF50;clear he);try go_wp2_with fail
    refine hK.out _ _ ?_ (fun hHeld=>?_)
    ·(try dsimp only)<;>go_keep
    clear hK K;try simp only[Act.put,zs]
    refine hT 16 ?_;refine hT 17 ?_;refine hT 18 ?_;refine hT 19 ?_;refine hT 20 ?_;refine hT 21 ?_;refine hC 22 fun K hK=>?_
    go_simp;(go_at_call 36;refine(zB1 _ _ er1.Cells er2.Cells _ (hS1.out.ext E.out) (hS2.out.ext E.out)).mono ?_;rintro e wz1 ⟨rfl,he⟩;rw[gq2];replace E:=zh (E.out.tr he);replace E6:=zh (E6.out.tr he);have n1aK:=KA.out.ext E.out;have n1a3:=n1aK.cell (j:=3) rfl;have n1aL:=n1aK.lt;clear n1aK;have n1bK:=KB.out.ext E.out;have n1b3:=n1bK.cell (j:=3) rfl;have n1bL:=n1bK.lt;clear n1bK;obtain⟨o1a0,o1a1,o1a2,o1aL⟩:=Bk.j3 (KC.out.ext E6.out);obtain⟨o1b0,o1b1,o1b2,o1bL⟩:=Bk.j3 (KD.out.ext E6.out);have u10:=(zA0 E.out hB3).trans hF30;have u11:=(zA0 E.out hB4).trans hF40;have u12:=(zA0 E.out hB5).trans hF50;clear he);try go_wp2_with fail
    refine hK.out _ _ ?_ (fun hHeld=>?_)
    ·(try dsimp only)<;>go_keep
    clear hK K;try simp only[Act.put,zs]
    refine hT 23 ?_;refine hT 24 ?_;refine hT 25 ?_;refine hT 26 ?_;refine hT 27 ?_;refine hT 28 ?_;refine hT 29 ?_;refine hT 30 ?_;refine hT 31 ?_;refine hT 32 ?_;refine hU 33 ?_;refine hU 34 ?_;refine hU 35 ?_;refine hU 36 ?_;refine hU 37 ?_;refine hT 38 ?_;refine hT 39 ?_;refine wpAnyH_done (by kernel_rfl) ?_ _
    go_wp2;go_ret;exact⟨by rw[zBi (fun N' e h=>by
     obtain rfl:N=N':=by omega
     have hnr:zB8 x N k:=⟨k,rfl,by rw[HFL.out,List.getD_eq_getElem?_getD,hX5.out];rfl⟩
     have h9:=h.cores k hnr;rw[hX1.out,hX2.out] at h9;exact HAT.out (by rw[Option.some.inj h9]))];rfl,HE.out.tr E.out⟩
   have HAT:=zh hat;clear hat;obtain⟨sa,hsa⟩:∃ s,er1.Stopped=s:=⟨_,rfl⟩;obtain⟨sb,hsb⟩:∃ s,er2.Stopped=s:=⟨_,rfl⟩;have HSA:=zh hsa;have HSB:=zh hsb;clear hsa hsb;cases sa<;>cases sb
   ·have gL3:=zl hB3 E.out.sz;have gF30:=(zA0 E.out hB3).trans hF30;have gL4:=zl hB4 E.out.sz;have gF40:=(zA0 E.out hB4).trans hF40;have gL5:=zl hB5 E.out.sz;have gF50:=(zA0 E.out hB5).trans hF50;have laK:=KA.out.ext E.out;have la3:=laK.cell (j:=3) rfl;have laL:=laK.lt;clear laK;have lbK:=KB.out.ext E.out;have lb3:=lbK.cell (j:=3) rfl;have lbL:=lbK.lt;clear lbK;obtain⟨ma0,ma1,ma2,maL⟩:=Bk.j3 (KC.out.ext E6.out);obtain⟨mb0,mb1,mb2,mbL⟩:=Bk.j3 (KD.out.ext E6.out);rw[HSA.out] at ma2;rw[HSB.out] at mb2;refine wp_region_held_drew (S:=fun u=>u.cell? ⟨A,3,none⟩=some (.slice (some ⟨eb3,eo3,none⟩) x.Programs.length q3)/\u.cell? ⟨B,3,none⟩=some (.slice (some ⟨eb4,eo4,none⟩) y.Programs.length d3)/\u.cell? ⟨C,0,none⟩=some (.slice ep1 er1.Cells.length ec1)/\u.cell? ⟨C,1,none⟩=some (.int .i64 er1.At)/\u.cell? ⟨C,2,none⟩=some (.bool false)/\u.cell? ⟨D,0,none⟩=some (.slice ep2 er2.Cells.length ec2)/\u.cell? ⟨D,1,none⟩=some (.int .i64 er2.At)/\u.cell? ⟨D,2,none⟩=some (.bool false)/\u.cell? ⟨eb3,eo3+k,none⟩=some (.slice ep3 er3.length ec3)/\u.cell? ⟨eb4,eo4+k,none⟩=some (.slice ep4 er4.length ec4)/\u.cell? ⟨eb5,eo5+k,none⟩=some (.bool true)) (by kernel_rfl) ?_ (fun hHeld=>?_)
    ·(try dsimp only)<;>go_keep
    refine hT 0 ?_;refine hT 1 ?_;refine hT 2 ?_;refine hT 3 ?_;refine hT 4 ?_;refine hT 5 ?_;refine hT 6 ?_;refine hT 7 ?_;refine hT 8 ?_;refine hT 9 ?_;refine hT 10 ?_;refine hT 11 ?_;refine hT 12 ?_;refine hT 13 ?_;refine hT 14 ?_;refine hC 15 fun K hK=>?_
    go_simp;(go_at_call 38;refine(zB9 _ _ er3 er4 _ (hS3.out.ext E.out.drew) (hS4.out.ext E.out.drew)).mono ?_;rintro e wz0 ⟨rfl,he⟩;rw[gq1];replace E:=zh (E.out.drew.tr he);replace E6:=zh (E6.out.drew.tr he);have n0aK:=KA.out.ext E.out;have n0a3:=n0aK.cell (j:=3) rfl;have n0aL:=n0aK.lt;clear n0aK;have n0bK:=KB.out.ext E.out;have n0b3:=n0bK.cell (j:=3) rfl;have n0bL:=n0bK.lt;clear n0bK;obtain⟨o0a0,o0a1,o0a2,o0aL⟩:=Bk.j3 (KC.out.ext E6.out);obtain⟨o0b0,o0b1,o0b2,o0bL⟩:=Bk.j3 (KD.out.ext E6.out);rw[HSA.out] at o0a2;rw[HSB.out] at o0b2;have u00:=(zA0 E.out hB3).trans hF30;have u01:=(zA0 E.out hB4).trans hF40;have u02:=(zA0 E.out hB5).trans hF50;clear he);try go_wp2_with fail
    refine hK.out _ _ ?_ (fun hHeld=>?_)
    ·(try dsimp only)<;>go_keep
    clear hK K;try simp only[Act.put,zs]
    refine hT 16 ?_;refine hT 17 ?_;refine hT 18 ?_;refine hT 19 ?_;refine hT 20 ?_;refine hT 21 ?_;refine hC 22 fun K hK=>?_
    go_simp;(go_at_call 36;refine(zB1 _ _ er1.Cells er2.Cells _ (hS1.out.ext E.out) (hS2.out.ext E.out)).mono ?_;rintro e wz1 ⟨rfl,he⟩;rw[gq2];replace E:=zh (E.out.tr he);replace E6:=zh (E6.out.tr he);have n1aK:=KA.out.ext E.out;have n1a3:=n1aK.cell (j:=3) rfl;have n1aL:=n1aK.lt;clear n1aK;have n1bK:=KB.out.ext E.out;have n1b3:=n1bK.cell (j:=3) rfl;have n1bL:=n1bK.lt;clear n1bK;obtain⟨o1a0,o1a1,o1a2,o1aL⟩:=Bk.j3 (KC.out.ext E6.out);obtain⟨o1b0,o1b1,o1b2,o1bL⟩:=Bk.j3 (KD.out.ext E6.out);rw[HSA.out] at o1a2;rw[HSB.out] at o1b2;have u10:=(zA0 E.out hB3).trans hF30;have u11:=(zA0 E.out hB4).trans hF40;have u12:=(zA0 E.out hB5).trans hF50;clear he);try go_wp2_with fail
    refine hK.out _ _ ?_ (fun hHeld=>?_)
    ·(try dsimp only)<;>go_keep
    clear hK K;try simp only[Act.put,zs]
    refine hT 23 ?_;refine hT 24 ?_;refine hT 25 ?_;refine hT 26 ?_;refine hT 27 ?_;refine hT 28 ?_;refine hT 29 ?_;refine hT 30 ?_;refine hT 31 ?_;refine hT 32 ?_;refine hT 33 ?_;refine hT 34 ?_;refine hT 35 ?_;refine hT 36 ?_;refine hT 37 ?_;refine hT 38 ?_;refine hT 39 ?_;refine wpAnyH_done (by kernel_rfl) ?_ _
    go_wp2;refine⟨⟨k+1,by omega,by go_num,E.out,zh fun j hj hf=>?_⟩,by simp[intOf];omega⟩
    by_cases e:j=k
    ·subst e;refine⟨by rw[hX3.out,hX4.out,Eqb.iff.1 gq1],?_⟩
     rw[hX1.out,hX2.out];exact congrArg some (zKt (Eqb.iff.1 gq2) HAT.out (by rw[HSA.out,HSB.out]))
    ·exact hinv.out j (by omega) hf
   ·have gL3:=zl hB3 E.out.sz;have gF30:=(zA0 E.out hB3).trans hF30;have gL4:=zl hB4 E.out.sz;have gF40:=(zA0 E.out hB4).trans hF40;have gL5:=zl hB5 E.out.sz;have gF50:=(zA0 E.out hB5).trans hF50;have laK:=KA.out.ext E.out;have la3:=laK.cell (j:=3) rfl;have laL:=laK.lt;clear laK;have lbK:=KB.out.ext E.out;have lb3:=lbK.cell (j:=3) rfl;have lbL:=lbK.lt;clear lbK;obtain⟨ma0,ma1,ma2,maL⟩:=Bk.j3 (KC.out.ext E6.out);obtain⟨mb0,mb1,mb2,mbL⟩:=Bk.j3 (KD.out.ext E6.out);rw[HSA.out] at ma2;rw[HSB.out] at mb2;refine wp_region_held_drew (S:=fun u=>u.cell? ⟨A,3,none⟩=some (.slice (some ⟨eb3,eo3,none⟩) x.Programs.length q3)/\u.cell? ⟨B,3,none⟩=some (.slice (some ⟨eb4,eo4,none⟩) y.Programs.length d3)/\u.cell? ⟨C,0,none⟩=some (.slice ep1 er1.Cells.length ec1)/\u.cell? ⟨C,1,none⟩=some (.int .i64 er1.At)/\u.cell? ⟨C,2,none⟩=some (.bool false)/\u.cell? ⟨D,0,none⟩=some (.slice ep2 er2.Cells.length ec2)/\u.cell? ⟨D,1,none⟩=some (.int .i64 er2.At)/\u.cell? ⟨D,2,none⟩=some (.bool true)/\u.cell? ⟨eb3,eo3+k,none⟩=some (.slice ep3 er3.length ec3)/\u.cell? ⟨eb4,eo4+k,none⟩=some (.slice ep4 er4.length ec4)/\u.cell? ⟨eb5,eo5+k,none⟩=some (.bool true)) (by kernel_rfl) ?_ (fun hHeld=>?_)
    ·(try dsimp only)<;>go_keep
    refine hT 0 ?_;refine hT 1 ?_;refine hT 2 ?_;refine hT 3 ?_;refine hT 4 ?_;refine hT 5 ?_;refine hT 6 ?_;refine hT 7 ?_;refine hT 8 ?_;refine hT 9 ?_;refine hT 10 ?_;refine hT 11 ?_;refine hT 12 ?_;refine hT 13 ?_;refine hT 14 ?_;refine hC 15 fun K hK=>?_
    go_simp;(go_at_call 38;refine(zB9 _ _ er3 er4 _ (hS3.out.ext E.out.drew) (hS4.out.ext E.out.drew)).mono ?_;rintro e wz0 ⟨rfl,he⟩;rw[gq1];replace E:=zh (E.out.drew.tr he);replace E6:=zh (E6.out.drew.tr he);have n0aK:=KA.out.ext E.out;have n0a3:=n0aK.cell (j:=3) rfl;have n0aL:=n0aK.lt;clear n0aK;have n0bK:=KB.out.ext E.out;have n0b3:=n0bK.cell (j:=3) rfl;have n0bL:=n0bK.lt;clear n0bK;obtain⟨o0a0,o0a1,o0a2,o0aL⟩:=Bk.j3 (KC.out.ext E6.out);obtain⟨o0b0,o0b1,o0b2,o0bL⟩:=Bk.j3 (KD.out.ext E6.out);rw[HSA.out] at o0a2;rw[HSB.out] at o0b2;have u00:=(zA0 E.out hB3).trans hF30;have u01:=(zA0 E.out hB4).trans hF40;have u02:=(zA0 E.out hB5).trans hF50;clear he);try go_wp2_with fail
    refine hK.out _ _ ?_ (fun hHeld=>?_)
    ·(try dsimp only)<;>go_keep
    clear hK K;try simp only[Act.put,zs]
    refine hT 16 ?_;refine hT 17 ?_;refine hT 18 ?_;refine hT 19 ?_;refine hT 20 ?_;refine hT 21 ?_;refine hC 22 fun K hK=>?_
    go_simp;(go_at_call 36;refine(zB1 _ _ er1.Cells er2.Cells _ (hS1.out.ext E.out) (hS2.out.ext E.out)).mono ?_;rintro e wz1 ⟨rfl,he⟩;rw[gq2];replace E:=zh (E.out.tr he);replace E6:=zh (E6.out.tr he);have n1aK:=KA.out.ext E.out;have n1a3:=n1aK.cell (j:=3) rfl;have n1aL:=n1aK.lt;clear n1aK;have n1bK:=KB.out.ext E.out;have n1b3:=n1bK.cell (j:=3) rfl;have n1bL:=n1bK.lt;clear n1bK;obtain⟨o1a0,o1a1,o1a2,o1aL⟩:=Bk.j3 (KC.out.ext E6.out);obtain⟨o1b0,o1b1,o1b2,o1bL⟩:=Bk.j3 (KD.out.ext E6.out);rw[HSA.out] at o1a2;rw[HSB.out] at o1b2;have u10:=(zA0 E.out hB3).trans hF30;have u11:=(zA0 E.out hB4).trans hF40;have u12:=(zA0 E.out hB5).trans hF50;clear he);try go_wp2_with fail
    refine hK.out _ _ ?_ (fun hHeld=>?_)
    ·(try dsimp only)<;>go_keep
    clear hK K;try simp only[Act.put,zs]
    refine hT 23 ?_;refine hT 24 ?_;refine hT 25 ?_;refine hT 26 ?_;refine hT 27 ?_;refine hT 28 ?_;refine hT 29 ?_;refine hT 30 ?_;refine hT 31 ?_;refine hT 32 ?_;refine hT 33 ?_;refine hT 34 ?_;refine hT 35 ?_;refine hT 36 ?_;refine hT 37 ?_;refine hT 38 ?_;refine hT 39 ?_;refine wpAnyH_done (by kernel_rfl) ?_ _
    go_wp2;go_ret;exact⟨by rw[zBi (fun N' e h=>by
     obtain rfl:N=N':=by omega
     have hnr:zB8 x N k:=⟨k,rfl,by rw[HFL.out,List.getD_eq_getElem?_getD,hX5.out];rfl⟩
     have h9:=h.cores k hnr;rw[hX1.out,hX2.out] at h9;have h8:=HSA.out;rw[Option.some.inj h9,HSB.out] at h8;cases h8)];rfl,HE.out.tr E.out⟩
   ·have gL3:=zl hB3 E.out.sz;have gF30:=(zA0 E.out hB3).trans hF30;have gL4:=zl hB4 E.out.sz;have gF40:=(zA0 E.out hB4).trans hF40;have gL5:=zl hB5 E.out.sz;have gF50:=(zA0 E.out hB5).trans hF50;have laK:=KA.out.ext E.out;have la3:=laK.cell (j:=3) rfl;have laL:=laK.lt;clear laK;have lbK:=KB.out.ext E.out;have lb3:=lbK.cell (j:=3) rfl;have lbL:=lbK.lt;clear lbK;obtain⟨ma0,ma1,ma2,maL⟩:=Bk.j3 (KC.out.ext E6.out);obtain⟨mb0,mb1,mb2,mbL⟩:=Bk.j3 (KD.out.ext E6.out);rw[HSA.out] at ma2;rw[HSB.out] at mb2;refine wp_region_held_drew (S:=fun u=>u.cell? ⟨A,3,none⟩=some (.slice (some ⟨eb3,eo3,none⟩) x.Programs.length q3)/\u.cell? ⟨B,3,none⟩=some (.slice (some ⟨eb4,eo4,none⟩) y.Programs.length d3)/\u.cell? ⟨C,0,none⟩=some (.slice ep1 er1.Cells.length ec1)/\u.cell? ⟨C,1,none⟩=some (.int .i64 er1.At)/\u.cell? ⟨C,2,none⟩=some (.bool true)/\u.cell? ⟨D,0,none⟩=some (.slice ep2 er2.Cells.length ec2)/\u.cell? ⟨D,1,none⟩=some (.int .i64 er2.At)/\u.cell? ⟨D,2,none⟩=some (.bool false)/\u.cell? ⟨eb3,eo3+k,none⟩=some (.slice ep3 er3.length ec3)/\u.cell? ⟨eb4,eo4+k,none⟩=some (.slice ep4 er4.length ec4)/\u.cell? ⟨eb5,eo5+k,none⟩=some (.bool true)) (by kernel_rfl) ?_ (fun hHeld=>?_)
    ·(try dsimp only)<;>go_keep
    refine hT 0 ?_;refine hT 1 ?_;refine hT 2 ?_;refine hT 3 ?_;refine hT 4 ?_;refine hT 5 ?_;refine hT 6 ?_;refine hT 7 ?_;refine hT 8 ?_;refine hT 9 ?_;refine hT 10 ?_;refine hT 11 ?_;refine hT 12 ?_;refine hT 13 ?_;refine hT 14 ?_;refine hC 15 fun K hK=>?_
    go_simp;(go_at_call 38;refine(zB9 _ _ er3 er4 _ (hS3.out.ext E.out.drew) (hS4.out.ext E.out.drew)).mono ?_;rintro e wz0 ⟨rfl,he⟩;rw[gq1];replace E:=zh (E.out.drew.tr he);replace E6:=zh (E6.out.drew.tr he);have n0aK:=KA.out.ext E.out;have n0a3:=n0aK.cell (j:=3) rfl;have n0aL:=n0aK.lt;clear n0aK;have n0bK:=KB.out.ext E.out;have n0b3:=n0bK.cell (j:=3) rfl;have n0bL:=n0bK.lt;clear n0bK;obtain⟨o0a0,o0a1,o0a2,o0aL⟩:=Bk.j3 (KC.out.ext E6.out);obtain⟨o0b0,o0b1,o0b2,o0bL⟩:=Bk.j3 (KD.out.ext E6.out);rw[HSA.out] at o0a2;rw[HSB.out] at o0b2;have u00:=(zA0 E.out hB3).trans hF30;have u01:=(zA0 E.out hB4).trans hF40;have u02:=(zA0 E.out hB5).trans hF50;clear he);try go_wp2_with fail
    refine hK.out _ _ ?_ (fun hHeld=>?_)
    ·(try dsimp only)<;>go_keep
    clear hK K;try simp only[Act.put,zs]
    refine hT 16 ?_;refine hT 17 ?_;refine hT 18 ?_;refine hT 19 ?_;refine hT 20 ?_;refine hT 21 ?_;refine hC 22 fun K hK=>?_
    go_simp;(go_at_call 36;refine(zB1 _ _ er1.Cells er2.Cells _ (hS1.out.ext E.out) (hS2.out.ext E.out)).mono ?_;rintro e wz1 ⟨rfl,he⟩;rw[gq2];replace E:=zh (E.out.tr he);replace E6:=zh (E6.out.tr he);have n1aK:=KA.out.ext E.out;have n1a3:=n1aK.cell (j:=3) rfl;have n1aL:=n1aK.lt;clear n1aK;have n1bK:=KB.out.ext E.out;have n1b3:=n1bK.cell (j:=3) rfl;have n1bL:=n1bK.lt;clear n1bK;obtain⟨o1a0,o1a1,o1a2,o1aL⟩:=Bk.j3 (KC.out.ext E6.out);obtain⟨o1b0,o1b1,o1b2,o1bL⟩:=Bk.j3 (KD.out.ext E6.out);rw[HSA.out] at o1a2;rw[HSB.out] at o1b2;have u10:=(zA0 E.out hB3).trans hF30;have u11:=(zA0 E.out hB4).trans hF40;have u12:=(zA0 E.out hB5).trans hF50;clear he);try go_wp2_with fail
    refine hK.out _ _ ?_ (fun hHeld=>?_)
    ·(try dsimp only)<;>go_keep
    clear hK K;try simp only[Act.put,zs]
    refine hT 23 ?_;refine hT 24 ?_;refine hT 25 ?_;refine hT 26 ?_;refine hT 27 ?_;refine hT 28 ?_;refine hT 29 ?_;refine hT 30 ?_;refine hT 31 ?_;refine hT 32 ?_;refine hT 33 ?_;refine hT 34 ?_;refine hT 35 ?_;refine hT 36 ?_;refine hT 37 ?_;refine hT 38 ?_;refine hT 39 ?_;refine wpAnyH_done (by kernel_rfl) ?_ _
    go_wp2;go_ret;exact⟨by rw[zBi (fun N' e h=>by
     obtain rfl:N=N':=by omega
     have hnr:zB8 x N k:=⟨k,rfl,by rw[HFL.out,List.getD_eq_getElem?_getD,hX5.out];rfl⟩
     have h9:=h.cores k hnr;rw[hX1.out,hX2.out] at h9;have h8:=HSA.out;rw[Option.some.inj h9,HSB.out] at h8;cases h8)];rfl,HE.out.tr E.out⟩
   ·have gL3:=zl hB3 E.out.sz;have gF30:=(zA0 E.out hB3).trans hF30;have gL4:=zl hB4 E.out.sz;have gF40:=(zA0 E.out hB4).trans hF40;have gL5:=zl hB5 E.out.sz;have gF50:=(zA0 E.out hB5).trans hF50;have laK:=KA.out.ext E.out;have la3:=laK.cell (j:=3) rfl;have laL:=laK.lt;clear laK;have lbK:=KB.out.ext E.out;have lb3:=lbK.cell (j:=3) rfl;have lbL:=lbK.lt;clear lbK;obtain⟨ma0,ma1,ma2,maL⟩:=Bk.j3 (KC.out.ext E6.out);obtain⟨mb0,mb1,mb2,mbL⟩:=Bk.j3 (KD.out.ext E6.out);rw[HSA.out] at ma2;rw[HSB.out] at mb2;refine wp_region_held_drew (S:=fun u=>u.cell? ⟨A,3,none⟩=some (.slice (some ⟨eb3,eo3,none⟩) x.Programs.length q3)/\u.cell? ⟨B,3,none⟩=some (.slice (some ⟨eb4,eo4,none⟩) y.Programs.length d3)/\u.cell? ⟨C,0,none⟩=some (.slice ep1 er1.Cells.length ec1)/\u.cell? ⟨C,1,none⟩=some (.int .i64 er1.At)/\u.cell? ⟨C,2,none⟩=some (.bool true)/\u.cell? ⟨D,0,none⟩=some (.slice ep2 er2.Cells.length ec2)/\u.cell? ⟨D,1,none⟩=some (.int .i64 er2.At)/\u.cell? ⟨D,2,none⟩=some (.bool true)/\u.cell? ⟨eb3,eo3+k,none⟩=some (.slice ep3 er3.length ec3)/\u.cell? ⟨eb4,eo4+k,none⟩=some (.slice ep4 er4.length ec4)/\u.cell? ⟨eb5,eo5+k,none⟩=some (.bool true)) (by kernel_rfl) ?_ (fun hHeld=>?_)
    ·(try dsimp only)<;>go_keep
    refine hT 0 ?_;refine hT 1 ?_;refine hT 2 ?_;refine hT 3 ?_;refine hT 4 ?_;refine hT 5 ?_;refine hT 6 ?_;refine hT 7 ?_;refine hT 8 ?_;refine hT 9 ?_;refine hT 10 ?_;refine hT 11 ?_;refine hT 12 ?_;refine hT 13 ?_;refine hT 14 ?_;refine hC 15 fun K hK=>?_
    go_simp;(go_at_call 38;refine(zB9 _ _ er3 er4 _ (hS3.out.ext E.out.drew) (hS4.out.ext E.out.drew)).mono ?_;rintro e wz0 ⟨rfl,he⟩;rw[gq1];replace E:=zh (E.out.drew.tr he);replace E6:=zh (E6.out.drew.tr he);have n0aK:=KA.out.ext E.out;have n0a3:=n0aK.cell (j:=3) rfl;have n0aL:=n0aK.lt;clear n0aK;have n0bK:=KB.out.ext E.out;have n0b3:=n0bK.cell (j:=3) rfl;have n0bL:=n0bK.lt;clear n0bK;obtain⟨o0a0,o0a1,o0a2,o0aL⟩:=Bk.j3 (KC.out.ext E6.out);obtain⟨o0b0,o0b1,o0b2,o0bL⟩:=Bk.j3 (KD.out.ext E6.out);rw[HSA.out] at o0a2;rw[HSB.out] at o0b2;have u00:=(zA0 E.out hB3).trans hF30;have u01:=(zA0 E.out hB4).trans hF40;have u02:=(zA0 E.out hB5).trans hF50;clear he);try go_wp2_with fail
    refine hK.out _ _ ?_ (fun hHeld=>?_)
    ·(try dsimp only)<;>go_keep
    clear hK K;try simp only[Act.put,zs]
    refine hT 16 ?_;refine hT 17 ?_;refine hT 18 ?_;refine hT 19 ?_;refine hT 20 ?_;refine hT 21 ?_;refine hC 22 fun K hK=>?_
    go_simp;(go_at_call 36;refine(zB1 _ _ er1.Cells er2.Cells _ (hS1.out.ext E.out) (hS2.out.ext E.out)).mono ?_;rintro e wz1 ⟨rfl,he⟩;rw[gq2];replace E:=zh (E.out.tr he);replace E6:=zh (E6.out.tr he);have n1aK:=KA.out.ext E.out;have n1a3:=n1aK.cell (j:=3) rfl;have n1aL:=n1aK.lt;clear n1aK;have n1bK:=KB.out.ext E.out;have n1b3:=n1bK.cell (j:=3) rfl;have n1bL:=n1bK.lt;clear n1bK;obtain⟨o1a0,o1a1,o1a2,o1aL⟩:=Bk.j3 (KC.out.ext E6.out);obtain⟨o1b0,o1b1,o1b2,o1bL⟩:=Bk.j3 (KD.out.ext E6.out);rw[HSA.out] at o1a2;rw[HSB.out] at o1b2;have u10:=(zA0 E.out hB3).trans hF30;have u11:=(zA0 E.out hB4).trans hF40;have u12:=(zA0 E.out hB5).trans hF50;clear he);try go_wp2_with fail
    refine hK.out _ _ ?_ (fun hHeld=>?_)
    ·(try dsimp only)<;>go_keep
    clear hK K;try simp only[Act.put,zs]
    refine hT 23 ?_;refine hT 24 ?_;refine hT 25 ?_;refine hT 26 ?_;refine hT 27 ?_;refine hT 28 ?_;refine hT 29 ?_;refine hT 30 ?_;refine hT 31 ?_;refine hT 32 ?_;refine hT 33 ?_;refine hT 34 ?_;refine hT 35 ?_;refine hT 36 ?_;refine hT 37 ?_;refine hT 38 ?_;refine hT 39 ?_;refine wpAnyH_done (by kernel_rfl) ?_ _
    go_wp2;refine⟨⟨k+1,by omega,by go_num,E.out,zh fun j hj hf=>?_⟩,by simp[intOf];omega⟩
    by_cases e:j=k
    ·subst e;refine⟨by rw[hX3.out,hX4.out,Eqb.iff.1 gq1],?_⟩
     rw[hX1.out,hX2.out];exact congrArg some (zKt (Eqb.iff.1 gq2) HAT.out (by rw[HSA.out,HSB.out]))
    ·exact hinv.out j (by omega) hf
  obtain rfl:k=x.Cores.length:=by omega
  have hex2:decide (x.Cores.length < fl.length)=false:=decide_eq_false (by omega)
  have hex1:decide ((x.Cores.length:Int) < (fl.length:Int))=false:=decide_eq_false (by omega)
  have iaK:=KA.out.ext E.out;have ia1:=iaK.cell (j:=1) rfl;have ia5:=iaK.cell (j:=5) rfl;have iaL:=iaK.lt;clear iaK;obtain⟨wo,rfl⟩:∃ wo,wo=wr:=⟨_,rfl⟩;go_wp2;clear ia1 ia5 iaL;go_loopw [106] (fun i wr => ∃ k:Nat,k<=x.Plan.Channels.length/\i = .int .i64 k/\Ext W5 wr/\Hid (M.sfH x y fl k)) (fun i _=>x.Plan.Channels.length - (intOf i).toNat)
  case atStart=>exact⟨0,Nat.zero_le _,rfl,E.out,zh fun j ch hj=>absurd hj (Nat.not_lt_zero _)⟩
  case round =>
   obtain⟨k,hk,rfl,er,hinv2⟩:=hrel;replace E:=zh er;clear er;by_cases hkt:k < x.Plan.Channels.length
   ·obtain⟨eb1,eo1,er1,rfl,hB1,hX1,hF10,hF11,hF12,hF13,hR1a,hR1b,hR1c,hR1d,hV1⟩:=s1.out.atChannel k (by omega)
    have gL1:=zl hB1 E.out.sz;have gF10:=(zA0 E.out hB1).trans hF10;have gF11:=(zA0 E.out hB1).trans hF11;have gF12:=(zA0 E.out hB1).trans hF12;have gF13:=(zA0 E.out hB1).trans hF13;obtain⟨i,j,-,hj,hi2,hj2⟩:=HCV.out k er1 hX1.out;rw[<- HNP.out] at hj2;have hk1:j < fl.length:=by omega
    have hk2:k < x.Holds.length:=by omega
    have hk3:k < y.Holds.length:=by omega
    have hk4:k < x.Plan.Channels.length:=by omega
    rw[hj] at gF12;have HJ:=zh hj;clear hj;have iaK:=KA.out.ext E.out;have ia1:=iaK.cell (j:=1) rfl;have iaL:=iaK.lt;clear iaK;go_upto_region 14 with (fail)
    obtain⟨C,hC⟩:∃ C,C=wr.heap.size:=⟨_,rfl⟩;refine zA1 (fun u=>Ext W5 u/\Bk u C [.int .i64 er1.Kind,.int .i64 er1.From,.int .i64 (j:Int),.int .i64 er1.Size] 77) ⟨E.out.alloc _,by rw[hC];exact Bk.new _ _ _⟩ ?_
    rw[<- hC];rintro W6 ⟨e6,kC⟩;clear hC gL1 gF10 gF11 gF12 gF13 ia1 iaL;replace E:=zh e6;have E6:=zh (zr W6);have KC:=zh kC;clear e6 kC;obtain⟨eb2,eo2,er2,ep2,ec2,rfl,hB2,hX2,hF20,hS2,hL2,hV2⟩:=s5.out.atHold k (by omega)
    obtain⟨eb3,eo3,er3,ep3,ec3,rfl,hB3,hX3,hF30,hS3,hL3,hV3⟩:=t5.out.atHold k (by omega)
    obtain⟨eb4,eo4,er4,rfl,hB4,hX4,hF40⟩:=HF.out.atBool j (by omega)
    cases er4
    ·have gL2:=zl hB2 E.out.sz;have gF20:=(zA0 E.out hB2).trans hF20;have gL3:=zl hB3 E.out.sz;have gF30:=(zA0 E.out hB3).trans hF30;have gL4:=zl hB4 E.out.sz;have gF40:=(zA0 E.out hB4).trans hF40;have laK:=KA.out.ext E.out;have la5:=laK.cell (j:=5) rfl;have laL:=laK.lt;clear laK;have lbK:=KB.out.ext E.out;have lb5:=lbK.cell (j:=5) rfl;have lbL:=lbK.lt;clear lbK;obtain⟨ma0,ma1,ma2,ma3,maL⟩:=Bk.j4 (KC.out.ext E6.out);go_big_quiet (fail)
     go_wp2;refine⟨⟨k+1,by omega,by go_num,E.out.drewN _,zh fun j' c' hj' hc' hf=>?_⟩,by simp[intOf];omega⟩
     by_cases e:j'=k
     ·subst e;rw[hX1.out] at hc';obtain rfl:=Option.some.inj hc';rw[HJ.out,Int.toNat_natCast,List.getD_eq_getElem?_getD,hX4.out] at hf;cases hf
     ·exact hinv2.out j' c' (by omega) hc' hf
    cases gq1:Eqb er2.Lst er3.Lst
    ·have gL2:=zl hB2 E.out.sz;have gF20:=(zA0 E.out hB2).trans hF20;have gL3:=zl hB3 E.out.sz;have gF30:=(zA0 E.out hB3).trans hF30;have gL4:=zl hB4 E.out.sz;have gF40:=(zA0 E.out hB4).trans hF40;have laK:=KA.out.ext E.out;have la5:=laK.cell (j:=5) rfl;have laL:=laK.lt;clear laK;have lbK:=KB.out.ext E.out;have lb5:=lbK.cell (j:=5) rfl;have lbL:=lbK.lt;clear lbK;obtain⟨ma0,ma1,ma2,ma3,maL⟩:=Bk.j4 (KC.out.ext E6.out)
     go_region_held3 (fun u=>u.cell? ⟨A,5,none⟩=some (.slice (some ⟨eb2,eo2,none⟩) x.Holds.length q5)/\u.cell? ⟨B,5,none⟩=some (.slice (some ⟨eb3,eo3,none⟩) y.Holds.length d5)/\u.cell? ⟨C,0,none⟩=some (.int .i64 er1.Kind)/\u.cell? ⟨C,1,none⟩=some (.int .i64 er1.From)/\u.cell? ⟨C,2,none⟩=some (.int .i64 (j:Int))/\u.cell? ⟨C,3,none⟩=some (.int .i64 er1.Size)/\u.cell? ⟨eb2,eo2+k,none⟩=some (.slice ep2 er2.Lst.length ec2)/\u.cell? ⟨eb3,eo3+k,none⟩=some (.slice ep3 er3.Lst.length ec3)/\u.cell? ⟨eb4,eo4+j,none⟩=some (.bool true))
      (go_keep)
      ((go_at_call 36;refine(zB1 _ _ er2.Lst er3.Lst _ (hS2.out.ext E.out.drew) (hS3.out.ext E.out.drew)).mono ?_;rintro e wa ⟨rfl,he⟩;replace E:=zh (E.out.drew.tr he);rw[gq1];replace E6:=zh (E6.out.drew.tr he);obtain⟨oa0,oa1,oa2,oa3,oaL⟩:=Bk.j4 (KC.out.ext E6.out);have r0aK:=KA.out.ext E.out;have r0a5:=r0aK.cell (j:=5) rfl;have r0aL:=r0aK.lt;clear r0aK;have r0bK:=KB.out.ext E.out;have r0b5:=r0bK.cell (j:=5) rfl;have r0bL:=r0bK.lt;clear r0bK;have r0x0:=(zA0 E.out hB2).trans hF20;have r0x1:=(zA0 E.out hB3).trans hF30;have r0x2:=(zA0 E.out hB4).trans hF40;clear he))
     go_wp2;go_ret;exact⟨by rw[zBi (fun N' e h=>by
      obtain rfl:N=N':=by omega
      have hnr:zB8 x N er1.To:=⟨j,HJ.out,by rw[HFL.out,List.getD_eq_getElem?_getD,hX4.out];rfl⟩
      have h9:=h.holds k er1 hX1.out hnr;rw[hX2.out,hX3.out] at h9;rw[Eqb.t (by rw[Option.some.inj h9])] at gq1;cases gq1)];rfl,HE.out.tr E.out⟩
    have gL2:=zl hB2 E.out.sz;have gF20:=(zA0 E.out hB2).trans hF20;have gL3:=zl hB3 E.out.sz;have gF30:=(zA0 E.out hB3).trans hF30;have gL4:=zl hB4 E.out.sz;have gF40:=(zA0 E.out hB4).trans hF40;have laK:=KA.out.ext E.out;have la5:=laK.cell (j:=5) rfl;have laL:=laK.lt;clear laK;have lbK:=KB.out.ext E.out;have lb5:=lbK.cell (j:=5) rfl;have lbL:=lbK.lt;clear lbK;obtain⟨ma0,ma1,ma2,ma3,maL⟩:=Bk.j4 (KC.out.ext E6.out)
    go_region_held3 (fun u=>u.cell? ⟨A,5,none⟩=some (.slice (some ⟨eb2,eo2,none⟩) x.Holds.length q5)/\u.cell? ⟨B,5,none⟩=some (.slice (some ⟨eb3,eo3,none⟩) y.Holds.length d5)/\u.cell? ⟨C,0,none⟩=some (.int .i64 er1.Kind)/\u.cell? ⟨C,1,none⟩=some (.int .i64 er1.From)/\u.cell? ⟨C,2,none⟩=some (.int .i64 (j:Int))/\u.cell? ⟨C,3,none⟩=some (.int .i64 er1.Size)/\u.cell? ⟨eb2,eo2+k,none⟩=some (.slice ep2 er2.Lst.length ec2)/\u.cell? ⟨eb3,eo3+k,none⟩=some (.slice ep3 er3.Lst.length ec3)/\u.cell? ⟨eb4,eo4+j,none⟩=some (.bool true))
     (go_keep)
     ((go_at_call 36;refine(zB1 _ _ er2.Lst er3.Lst _ (hS2.out.ext E.out.drew) (hS3.out.ext E.out.drew)).mono ?_;rintro e wa ⟨rfl,he⟩;replace E:=zh (E.out.drew.tr he);rw[gq1];replace E6:=zh (E6.out.drew.tr he);obtain⟨oa0,oa1,oa2,oa3,oaL⟩:=Bk.j4 (KC.out.ext E6.out);have r0aK:=KA.out.ext E.out;have r0a5:=r0aK.cell (j:=5) rfl;have r0aL:=r0aK.lt;clear r0aK;have r0bK:=KB.out.ext E.out;have r0b5:=r0bK.cell (j:=5) rfl;have r0bL:=r0bK.lt;clear r0bK;have r0x0:=(zA0 E.out hB2).trans hF20;have r0x1:=(zA0 E.out hB3).trans hF30;have r0x2:=(zA0 E.out hB4).trans hF40;clear he))
    go_wp2;refine⟨⟨k+1,by omega,by go_num,E.out,zh fun j' c' hj' hc' hf=>?_⟩,by simp[intOf];omega⟩
    by_cases e:j'=k
    ·subst e;rw[hX2.out,hX3.out];exact congrArg some (zO7 (Eqb.iff.1 gq1))
    ·exact hinv2.out j' c' (by omega) hc' hf
   obtain rfl:k=x.Plan.Channels.length:=by omega
   have jaK:=KA.out.ext E.out;have ja1:=jaK.cell (j:=1) rfl;have ja5:=jaK.cell (j:=5) rfl;have jaL:=jaK.lt;clear jaK;go_wp2;go_ret;refine⟨?_,HE.out.tr E.out⟩
   suffices h9:zGd x y N by rw[zEp.2 h9];rfl
   exact { ma:=HMX.out,mb:=HMY.out,hn:=hN,tick:=HT.out,plan:=HP.out,progs:=fun j hj=>(hinv.out j (by have:=zE9 hj;omega) (by obtain⟨K,e,h⟩:=hj;obtain rfl:j=K:=(by omega);rw[<- HFL.out];exact h)).1,cores:=fun j hj=>(hinv.out j (by have:=zE9 hj;omega) (by obtain⟨K,e,h⟩:=hj;obtain rfl:j=K:=(by omega);rw[<- HFL.out];exact h)).2,holds:=fun j ch hc hj=>hinv2.out j ch (by have:=zA7 hc;omega) hc (by obtain⟨K,e,h⟩:=hj;rw[e,Int.toNat_natCast,<- HFL.out];exact h) }
end Sk
