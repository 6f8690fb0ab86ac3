/- Contracts of functions of the given program. -/
import Derived.Test.YtidkncgejgngcaaNewC
import Derived.Test.YtidkncgejgngcaaL18M
namespace Sk
open Go Go.Proofs Go.RowKit
set_option maxHeartbeats 4000000
set_option maxRecDepth 100000
set_option linter.unusedVariables false
set_option linter.unusedSimpArgs false
noncomputable def zDb(m:Machine):Watch:=if zDs m then ⟨m,List.replicate m.Cores.length ⟨false,0⟩⟩ else ⟨zIn,[]⟩
theorem zEm{m:Machine}(h:zDs m=true):zDb m=⟨m,List.replicate m.Cores.length ⟨false,0⟩⟩:=if_pos h
theorem zEl{m:Machine}(h:zDs m=false):zDb m=⟨zIn,[]⟩:=if_neg (by rw[h];decide)
theorem Ov.wz(L:Nat)(w:World):Ov L w (.agg #[.slice none 0 0,.slice none 0 0,.slice none 0 0,.slice none 0 0,.slice none 0 0,.slice none 0 0,.int .i64 0,.slice none 0 0]) (⟨zIn,[]⟩:Watch):=⟨_,[],rfl,GT.zero (α:=Watch) w,Own.nil _ _⟩
theorem encWatch{w:World}{m:Machine}{st:List Health}{v0 v1 v2 v3 v4 v5 v7:Value}{FM F7:List Nat}(hm:GT.enc w [v0,v1,v2,v3,v4,v5,.int .i64 m.Tick] m FM)(h7:Sl w v7 st F7):GT.enc w [v0,v1,v2,v3,v4,v5,.int .i64 m.Tick,v7] (⟨m,st⟩:Watch) (FM++F7):=by
 obtain⟨w0,w1,w2,w3,w4,w5,F0,F1,F2,F3,F4,F5,e,s0,s1,s2,s3,s4,s5,r,rfl⟩:=hm;simp only[List.cons.injEq] at e;obtain⟨rfl,rfl,rfl,rfl,rfl,rfl,_⟩:=e;exact⟨_,_,_,_,_,_,_,F0,F1,F2,F3,F4,F5,F7,rfl,s0,s1,s2,s3,s4,s5,h7,r,by simp[List.append_assoc]⟩
theorem zGd(v:Value)(m:Machine)(w:World)(h:Rv w v m) :
  Calls Try.prog 17 #[v] w fun e w' => ∃ v',e = .returned v'/\Ov w.heap.size w' v' (zDb m)/\Ext w w':=by
 have H:=zh h;obtain⟨a0,c0,a1,c1,a2,c2,a3,c3,a4,c4,a5,c5,rfl,rt,h0,l0,h1,l1,h2,l2,h3,l3,h4,l4,h5,l5⟩:=h.openMachine;clear h h0 h1 h2 h3 h4 h5;go_enter Try.func17,Try.ntmps17;go_upto_region 1 with (fail)
 refine zA2 (fun W=>Ext w W/\Bk W w.heap.size [.slice a0 m.Plan.Parts.length c0,.slice a1 m.Plan.Channels.length c1,.slice a2 m.Plan.Slots.length c2,.slice a3 m.Programs.length c3,.slice a4 m.Cores.length c4,.slice a5 m.Holds.length c5,.int .i64 m.Tick] 32/\Bk W (w.heap.size+1) [.slice none 0 0,.slice none 0 0,.slice none 0 0,.slice none 0 0,.slice none 0 0,.slice none 0 0,.int .i64 0,.slice none 0 0] 35) ⟨((zr _).alloc _).alloc _,(Bk.new _ _ _).ext ((zr _).alloc _),Bk.new1 _ _ _ _⟩ ?_
 rintro W ⟨e1,kA,kB⟩;have HE0:=zh e1;obtain⟨d0,d1,d2,d3,d4,d5,d6⟩:=Bk.k7 kA;have KA:=zh kA;have KB:=zh kB;clear e1 kA kB;cases g:zDs m
 ·go_wp2_with (go_at_call 15;refine(zAa _ m _ (H.out.ext HE0.out)).mono ?_;rintro e w0 ⟨rfl,he⟩;rw[g];have E:=zh (HE0.out.tr he);replace KA:=zh (KA.out.ext he);have KBx:=KB.out.ext he;obtain⟨z0,z1,z2,z3,z4,z5,z6,z7⟩:=Bk.k8 KBx;have zf:=KBx.fz;have ltZ:=KBx.lt;replace KB:=zh KBx;clear he KBx)
  refine bodyPost_ret (v:=.agg #[.slice none 0 0,.slice none 0 0,.slice none 0 0,.slice none 0 0,.slice none 0 0,.slice none 0 0,.int .i64 0,.slice none 0 0]) (by simp[results,Try.results17,go_sem,z0,z1,z2,z3,z4,z5,z6,z7]) rfl ⟨_,rfl,by rw[zEl g];exact Ov.wz _ _,((((((((E.out).set (by simp) _).set (by simp) _).set (by simp) _).set (by simp) _).set (by simp) _).set (by simp) _).set (by simp) _).set (by simp) _⟩
 have hmv:=zBs.1 g;have hc5:m.Cores.length<=5:=by have:=hmv.nc;have:=zAm hmv.pg.set;omega
 have htot:GT.tot m<=1048576:=Nat.le_trans (zE1 hmv) (by omega)
 go_upto_region 3 with (go_at_call 15;refine(zAa _ m _ (H.out.ext HE0.out)).mono ?_;rintro e w0 ⟨rfl,he⟩;rw[g];have E:=zh (HE0.out.tr he);replace KA:=zh (KA.out.ext he);have KBx:=KB.out.ext he;obtain⟨z0,z1,z2,z3,z4,z5,z6,z7⟩:=Bk.k8 KBx;have zf:=KBx.fz;have ltZ:=KBx.lt;replace KB:=zh KBx;clear he KBx)
 clear z0 z1 z2 z3 z4 z5 z6 z7 zf ltZ;have ltA:=KA.out.lt;have ltB:=KB.out.lt;obtain⟨f0,f1,f2,f3,f4,f5,f6⟩:=Bk.k7 KA.out;have hmk:∀ u:World,(Instr.makeSlice 33 (.int .i64 m.Cores.length) (.int .i64 m.Cores.length)).run Try.prog u =
   .ok (.slice (some ⟨u.heap.size,0,none⟩) m.Cores.length m.Cores.length) (u.alloc (.cells (madeCells #[.bool false,.int .i64 0] (m.Cores.length*2)) 39)):=fun u=>by
  obtain⟨i0,hi,hz0,hz1,hz2⟩:=info_parts zHg;have h:=run_make (P:=Try.prog) u 33 39 i0 (.agg #[.bool false,.int .i64 0]) Try.underlying33 hi hz0 .i64 .i64 m.Cores.length m.Cores.length (by omega) (Int.le_refl _) (by rw[hz2];omega) (by omega)
  simpa [hz1,Value.cells] using h
 have HO:∀ u:World,Os u.heap.size (u.alloc (.cells (madeCells #[.bool false,.int .i64 0] (m.Cores.length*2)) 39)) (.slice (some ⟨u.heap.size,0,none⟩) m.Cores.length m.Cores.length) (List.replicate m.Cores.length (⟨false,0⟩:Health)):=fun u=>Os.made (α:=Health) u m.Cores.length 39 #[.bool false,.int .i64 0] ⟨false,0⟩ rfl rfl (by omega)
 refine zBh rfl 7 [(7,[7]),(8,[8]),(9,[9]),(10,[10]),(11,[11]),(12,[12]),(13,[13,8,12])]
  (fun i vs u F=>match i,vs with
   | 0,[y]=>y = .agg #[.slice a0 m.Plan.Parts.length c0,.slice a1 m.Plan.Channels.length c1,.slice a2 m.Plan.Slots.length c2,.slice a3 m.Programs.length c3,.slice a4 m.Cores.length c4,.slice a5 m.Holds.length c5,.int .i64 m.Tick]
   | 1,[y] => ∃ t0 u0 t1 u1 t2 u2 t3 u3 t4 u4 t5 u5,y = .agg #[.slice t0 m.Plan.Parts.length u0,.slice t1 m.Plan.Channels.length u1,.slice t2 m.Plan.Slots.length u2,.slice t3 m.Programs.length u3,.slice t4 m.Cores.length u4,.slice t5 m.Holds.length u5,.int .i64 m.Tick]/\GT.enc u [.slice t0 m.Plan.Parts.length u0,.slice t1 m.Plan.Channels.length u1,.slice t2 m.Plan.Slots.length u2,.slice t3 m.Programs.length u3,.slice t4 m.Cores.length u4,.slice t5 m.Holds.length u5,.int .i64 m.Tick] m F
   | 2,[y]=>y = .pointer (some ⟨w.heap.size,4,none⟩)
   | 3,[y]=>y = .slice a4 m.Cores.length c4
   | 4,[y]=>y = .int .i64 m.Cores.length
   | 5,[y] => ∃ b,y = .slice (some ⟨b,0,none⟩) m.Cores.length m.Cores.length/\Sl u y (List.replicate m.Cores.length (⟨false,0⟩:Health)) F
   | 6,[y,z,z1] => ∃ s0 s1 s2 s3 s4 s5,z = .agg #[s0,s1,s2,s3,s4,s5,.int .i64 m.Tick]/\y = .agg #[s0,s1,s2,s3,s4,s5,.int .i64 m.Tick,z1]
   | _,_=>False) (by decide +kernel) ?_ ?_
 ·intro i hi o ho U u F hE hd hap;have g0:=(zA0 hE ltA).trans f0;have g1:=(zA0 hE ltA).trans f1;have g2:=(zA0 hE ltA).trans f2;have g3:=(zA0 hE ltA).trans f3;have g4:=(zA0 hE ltA).trans f4;have g5:=(zA0 hE ltA).trans f5;have g6:=(zA0 hE ltA).trans f6;rcases(by omega:i=0\/i=1\/i=2\/i=3\/i=4\/i=5\/i=6) with rfl|rfl|rfl|rfl|rfl|rfl|rfl
  ·cases ho;simp only[fr];intro K hK;go_wp2;exact zk hK _ (fun _ _=>rfl)
  ·cases ho;simp only[fr];obtain⟨⟨d0,-⟩,-⟩:=fa [0] (by decide +kernel) hd
   simp only[fu] at d0;try simp only[d0]
   intro K hK;go_wp2_with (go_at_call 35;refine(zEr _ m _ (H.out.ext (E.out.tr hE)) htot).mono ?_;rintro e w' ⟨v',rfl,hov,ex1⟩;obtain⟨cs,F',rfl,hen,how⟩:=hov;obtain⟨v0,v1,v2,v3,v4,v5,F0,F1,F2,F3,F4,F5,rfl,⟨r0,t0,rfl,_⟩,⟨r1,t1,rfl,_⟩,⟨r2,t2,rfl,_⟩,⟨r3,t3,rfl,_⟩,⟨r4,t4,rfl,_⟩,⟨r5,t5,rfl,_⟩,_,hFF⟩:=id hen)
   exact hK _ F' _ ex1 (fun _ h=>⟨_,_,_,_,_,_,_,_,_,_,_,_,rfl,GT.ext hen h⟩) how
  ·cases ho;simp only[fr];intro K hK;go_wp2;exact zk hK _ (fun _ _=>rfl)
  ·cases ho;simp only[fr];obtain⟨⟨d2,-⟩,-⟩:=fa [2] (by decide +kernel) hd
   simp only[fu] at d2;try simp only[d2]
   clear d2;intro K hK;go_wp2;exact zk hK _ (fun _ _=>rfl)
  ·cases ho;simp only[fr];obtain⟨⟨d2,-⟩,⟨d3,-⟩,-⟩:=fa [2,3] (by decide +kernel) hd
   simp only[fu] at d2 d3;try simp only[d2,d3]
   clear d2 d3;intro K hK;go_wp2;exact zk hK _ (fun _ _=>rfl)
  ·cases ho;simp only[fr];obtain⟨⟨d2,-⟩,⟨d3,-⟩,⟨d4,-⟩,-⟩:=fa [2,3,4] (by decide +kernel) hd
   simp only[fu] at d2 d3 d4;try simp only[d2,d3,d4]
   intro K hK;go_wp2;obtain⟨F2,s2,ow2⟩:=HO u;exact hK _ F2 _ ((zr u).alloc _) (fun _ h=>⟨_,rfl,s2.ext h⟩) ow2
  ·cases ho;simp only[fr];obtain⟨⟨d0,-⟩,⟨d1,o1⟩,⟨d2,-⟩,⟨d3,-⟩,⟨d4,-⟩,⟨d5,o5⟩,-⟩:=fa [0,1,2,3,4,5] (by decide +kernel) hd
   simp only[fu] at d0 d1 d2 d3 d4 d5;try simp only[d0,d2,d3,d4]
   obtain⟨t0,u0,t1,u1,t2,u2,t3,u3,t4,u4,t5,u5,e1,_⟩:=d1;obtain⟨b5,e5,_⟩:=d5;simp only[e1,e5];intro K hK;go_wp2;exact zk hK _ (fun _ _=>⟨_,_,_,_,_,_,e1,by show Value.agg _=Value.agg #[_,_,_,_,_,_,_,U 12];rw[e5]⟩)
 ·intro o ho U u F hE hφ hap;cases ho;simp only[fr];obtain⟨⟨d0,-⟩,⟨d1,o1⟩,⟨d2,-⟩,⟨d3,-⟩,⟨d4,-⟩,⟨d5,o5⟩,⟨d6,o6⟩,-⟩:=fb [0,1,2,3,4,5,6] (by decide +kernel) hφ
  simp only[fu] at d0 d1 d2 d3 d4 d5 d6;try simp only[d0,d2,d3,d4]
  obtain⟨t0,u0,t1,u1,t2,u2,t3,u3,t4,u4,t5,u5,e1,n1⟩:=d1;obtain⟨b5,e5,s5⟩:=d5;obtain⟨x0,x1,x2,x3,x4,x5,z6,y6⟩:=d6;rw[e1] at z6;have z7:=congrArg Array.toList (zCv z6);simp only[List.cons.injEq] at z7;obtain⟨rfl,rfl,rfl,rfl,rfl,rfl,_⟩:=z7;have a15:=hap 1 5 (by omega) (by omega) (by omega)
  rw[e5] at y6 s5;have OX:Own w0.heap.size u (F 1++F 5):=o1.join o5 a15;have EN:=zh (encWatch n1 s5)
  generalize F 1++F 5=FX at *
  clear hap hφ e1 e5 z6 n1 s5;simp only[y6];have KBx:=KB.out.ext hE;obtain⟨z0,z1,z2,z3,z4,z5,z6,z7⟩:=Bk.k8 KBx;have zf:=KBx.fz;have ltZ:=KBx.lt;have hZ:w.heap.size+1 ∉ FX:=fun hm=>by have:=(OX.2 _ hm).1;omega
  replace OX:=zh OX;have hsz:=E.out.sz;have EY:=zh (E.out.tr hE);clear KBx y6 d0 d2 d3 d4 o1 o5 a15 hmk HO f0 f1 f2 f3 f4 f5 f6 KA KB hE;go_wp2;refine bodyPost_ret (v:=.agg #[.slice t0 m.Plan.Parts.length u0,.slice t1 m.Plan.Channels.length u1,.slice t2 m.Plan.Slots.length u2,.slice t3 m.Programs.length u3,.slice t4 m.Cores.length u4,.slice t5 m.Holds.length u5,.int .i64 m.Tick,.slice (some ⟨b5,0,none⟩) m.Cores.length m.Cores.length]) (by simp[results,Try.results17,go_sem,z0,z1,z2,z3,z4,z5,z6,z7]) rfl ⟨_,rfl,by rw[zEm g];exact⟨_,_,rfl,zBy (c:=w.heap.size+1) (o:=0) (ds:=[.slice t0 m.Plan.Parts.length u0,.slice t1 m.Plan.Channels.length u1,.slice t2 m.Plan.Slots.length u2,.slice t3 m.Programs.length u3,.slice t4 m.Cores.length u4,.slice t5 m.Holds.length u5,.int .i64 m.Tick,.slice (some ⟨b5,0,none⟩) m.Cores.length m.Cores.length]) EN.out hZ,((OX.out.mono (by omega)).put (b:=w.heap.size+1) (o:=0) (cs:=[.slice t0 m.Plan.Parts.length u0,.slice t1 m.Plan.Channels.length u1,.slice t2 m.Plan.Slots.length u2,.slice t3 m.Programs.length u3,.slice t4 m.Cores.length u4,.slice t5 m.Holds.length u5,.int .i64 m.Tick,.slice (some ⟨b5,0,none⟩) m.Cores.length m.Cores.length]))⟩,?_⟩
  exact((((((((EY.out).set (by simp) _).set (by simp) _).set (by simp) _).set (by simp) _).set (by simp) _).set (by simp) _).set (by simp) _).set (by simp) _
end Sk
