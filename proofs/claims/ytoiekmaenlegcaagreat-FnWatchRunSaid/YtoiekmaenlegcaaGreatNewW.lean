/- Contracts of functions of the given program. -/
import Derived.Test.YtoiekmaenlegcaaGreatNewC
namespace Sk
open Go Go.Proofs Go.RowKit
set_option maxHeartbeats 4000000
set_option maxRecDepth 100000
set_option linter.unusedVariables false
set_option linter.unusedSimpArgs false
noncomputable def zF9(m:Machine):Watch:=if zEm m then ⟨m,List.replicate m.Cores.length ⟨false,0⟩⟩ else ⟨zI2,[]⟩
theorem zHo{m:Machine}(h:zEm m=true):zF9 m=⟨m,List.replicate m.Cores.length ⟨false,0⟩⟩:=if_pos h
theorem zHn{m:Machine}(h:zEm m=false):zF9 m=⟨zI2,[]⟩:=if_neg (by rw[h];decide)
theorem Ov.wz(L:Nat)(w:World):Ov L w (.agg #[.slice none 0 0,.slice none 0 0,.slice none 0 0,.slice none 0 0,.slice none 0 0,.slice none 0 0,.int .i64 0,.slice none 0 0]) (⟨zI2,[]⟩:Watch):=⟨_,[],rfl,GT.zero (α:=Watch) w,Own.nil _ _⟩
theorem zGk{w:World}{m:Machine}{st:List Health}{v0 v1 v2 v3 v4 v5 v7:Value}{FM F7:List Nat}(hm:GT.enc w [v0,v1,v2,v3,v4,v5,.int .i64 m.Tick] m FM)(h7:Sl w v7 st F7):GT.enc w [v0,v1,v2,v3,v4,v5,.int .i64 m.Tick,v7] (⟨m,st⟩:Watch) (FM++F7):=by
 obtain⟨w0,w1,w2,w3,w4,w5,F0,F1,F2,F3,F4,F5,e,s0,s1,s2,s3,s4,s5,r,rfl⟩:=hm;simp only[List.cons.injEq] at e;obtain⟨rfl,rfl,rfl,rfl,rfl,rfl,_⟩:=e;exact⟨_,_,_,_,_,_,_,F0,F1,F2,F3,F4,F5,F7,rfl,s0,s1,s2,s3,s4,s5,h7,r,by simp[List.append_assoc]⟩
theorem zKw(v:Value)(m:Machine)(w:World)(h:Rv w v m) :
  Calls Tryz.prog 58 #[v] w fun e w' => ∃ v',e = .returned v'/\Ov w.heap.size w' v' (zF9 m)/\Ext w w':=by
 have H:=zh h;obtain⟨a0,c0,a1,c1,a2,c2,a3,c3,a4,c4,a5,c5,rfl,rt,h0,l0,h1,l1,h2,l2,h3,l3,h4,l4,h5,l5⟩:=h.openMachine;clear h h0 h1 h2 h3 h4 h5;go_enter Tryz.func58,Tryz.ntmps58;go_upto_region 1 with (fail)
 refine zA1 (fun W=>Ext w W/\Bk W w.heap.size [.slice a0 m.Plan.Parts.length c0,.slice a1 m.Plan.Channels.length c1,.slice a2 m.Plan.Slots.length c2,.slice a3 m.Programs.length c3,.slice a4 m.Cores.length c4,.slice a5 m.Holds.length c5,.int .i64 m.Tick] 32/\Bk W (w.heap.size+1) [.slice none 0 0,.slice none 0 0,.slice none 0 0,.slice none 0 0,.slice none 0 0,.slice none 0 0,.int .i64 0,.slice none 0 0] 35) ⟨((zr _).alloc _).alloc _,(Bk.new _ _ _).ext ((zr _).alloc _),Bk.new1 _ _ _ _⟩ ?_
 rintro W ⟨e1,kA,kB⟩;have HE0:=zh e1;obtain⟨d0,d1,d2,d3,d4,d5,d6⟩:=Bk.k7 kA;have KA:=zh kA;have KB:=zh kB;clear e1 kA kB;cases g:zEm m
 ·go_wp2_with (go_at_call 67;refine(zAb _ m _ (H.out.ext HE0.out)).mono ?_;rintro e w0 ⟨rfl,he⟩;rw[g];have E:=zh (HE0.out.tr he);replace KA:=zh (KA.out.ext he);have KBx:=KB.out.ext he;obtain⟨z0,z1,z2,z3,z4,z5,z6,z7⟩:=Bk.k8 KBx;have zf:=KBx.fz;have ltZ:=KBx.lt;replace KB:=zh KBx;clear he KBx)
  refine bodyPost_ret (v:=.agg #[.slice none 0 0,.slice none 0 0,.slice none 0 0,.slice none 0 0,.slice none 0 0,.slice none 0 0,.int .i64 0,.slice none 0 0]) (by simp[results,Tryz.results58,go_sem,z0,z1,z2,z3,z4,z5,z6,z7]) rfl ⟨_,rfl,by rw[zHn g];exact Ov.wz _ _,((((((((E.out).set (by simp) _).set (by simp) _).set (by simp) _).set (by simp) _).set (by simp) _).set (by simp) _).set (by simp) _).set (by simp) _⟩
 have hmv:=zBj.1 g;have hc5:m.Cores.length<=5:=by have:=hmv.nc;have:=zAc hmv.pg.set;omega
 have htot:GT.tot m<=1048576:=Nat.le_trans (zC1 hmv) (by omega)
 go_upto_region 3 with (go_at_call 67;refine(zAb _ m _ (H.out.ext HE0.out)).mono ?_;rintro e w0 ⟨rfl,he⟩;rw[g];have E:=zh (HE0.out.tr he);replace KA:=zh (KA.out.ext he);have KBx:=KB.out.ext he;obtain⟨z0,z1,z2,z3,z4,z5,z6,z7⟩:=Bk.k8 KBx;have zf:=KBx.fz;have ltZ:=KBx.lt;replace KB:=zh KBx;clear he KBx)
 clear z0 z1 z2 z3 z4 z5 z6 z7 zf ltZ;have ltA:=KA.out.lt;have ltB:=KB.out.lt;obtain⟨f0,f1,f2,f3,f4,f5,f6⟩:=Bk.k7 KA.out;have hmk:∀ u:World,(Instr.makeSlice 33 (.int .i64 m.Cores.length) (.int .i64 m.Cores.length)).run Tryz.prog u =
   .ok (.slice (some ⟨u.heap.size,0,none⟩) m.Cores.length m.Cores.length) (u.alloc (.cells (madeCells #[.bool false,.int .i64 0] (m.Cores.length*2)) 44)):=fun u=>by
  obtain⟨i0,hi,hz0,hz1,hz2⟩:=info_parts zM1;have h:=run_make (P:=Tryz.prog) u 33 44 i0 (.agg #[.bool false,.int .i64 0]) Tryz.underlying33 hi hz0 .i64 .i64 m.Cores.length m.Cores.length (by omega) (Int.le_refl _) (by rw[hz2];omega) (by omega)
  simpa [hz1,Value.cells] using h
 have HO:∀ u:World,Os u.heap.size (u.alloc (.cells (madeCells #[.bool false,.int .i64 0] (m.Cores.length*2)) 44)) (.slice (some ⟨u.heap.size,0,none⟩) m.Cores.length m.Cores.length) (List.replicate m.Cores.length (⟨false,0⟩:Health)):=fun u=>Os.made (α:=Health) u m.Cores.length 44 #[.bool false,.int .i64 0] ⟨false,0⟩ rfl rfl (by omega)
 refine zAi rfl 7 [(7,[7]),(8,[8]),(9,[9]),(10,[10]),(11,[11]),(12,[12]),(13,[13,8,12])]
  (fun i vs u F=>match i,vs with
   | 0,[y]=>y = .agg #[.slice a0 m.Plan.Parts.length c0,.slice a1 m.Plan.Channels.length c1,.slice a2 m.Plan.Slots.length c2,.slice a3 m.Programs.length c3,.slice a4 m.Cores.length c4,.slice a5 m.Holds.length c5,.int .i64 m.Tick]
   | 1,[y] => ∃ t0 u0 t1 u1 t2 u2 t3 u3 t4 u4 t5 u5,y = .agg #[.slice t0 m.Plan.Parts.length u0,.slice t1 m.Plan.Channels.length u1,.slice t2 m.Plan.Slots.length u2,.slice t3 m.Programs.length u3,.slice t4 m.Cores.length u4,.slice t5 m.Holds.length u5,.int .i64 m.Tick]/\GT.enc u [.slice t0 m.Plan.Parts.length u0,.slice t1 m.Plan.Channels.length u1,.slice t2 m.Plan.Slots.length u2,.slice t3 m.Programs.length u3,.slice t4 m.Cores.length u4,.slice t5 m.Holds.length u5,.int .i64 m.Tick] m F
   | 2,[y]=>y = .pointer (some ⟨w.heap.size,4,none⟩)
   | 3,[y]=>y = .slice a4 m.Cores.length c4
   | 4,[y]=>y = .int .i64 m.Cores.length
   | 5,[y] => ∃ b,y = .slice (some ⟨b,0,none⟩) m.Cores.length m.Cores.length/\Sl u y (List.replicate m.Cores.length (⟨false,0⟩:Health)) F
   | 6,[y,z,z1] => ∃ s0 s1 s2 s3 s4 s5,z = .agg #[s0,s1,s2,s3,s4,s5,.int .i64 m.Tick]/\y = .agg #[s0,s1,s2,s3,s4,s5,.int .i64 m.Tick,z1]
   | _,_=>False) (by decide +kernel) ?_ ?_
 ·intro i hi o ho U u F hE hd hap;have g0:=(zA0 hE ltA).trans f0;have g1:=(zA0 hE ltA).trans f1;have g2:=(zA0 hE ltA).trans f2;have g3:=(zA0 hE ltA).trans f3;have g4:=(zA0 hE ltA).trans f4;have g5:=(zA0 hE ltA).trans f5;have g6:=(zA0 hE ltA).trans f6;rcases(by omega:i=0\/i=1\/i=2\/i=3\/i=4\/i=5\/i=6) with rfl|rfl|rfl|rfl|rfl|rfl|rfl
  ·cases ho;simp only[fr];intro K hK;go_wp2;exact zk hK _ (fun _ _=>rfl)
  ·cases ho;simp only[fr];obtain⟨⟨d0,-⟩,-⟩:=fa [0] (by decide +kernel) hd
   simp only[fu] at d0;try simp only[d0]
   intro K hK;go_wp2_with (go_at_call 37;refine(zD7 _ m _ (H.out.ext (E.out.tr hE)) htot).mono ?_;rintro e w' ⟨v',rfl,hov,ex1⟩;obtain⟨cs,F',rfl,hen,how⟩:=hov;obtain⟨v0,v1,v2,v3,v4,v5,F0,F1,F2,F3,F4,F5,rfl,⟨r0,t0,rfl,_⟩,⟨r1,t1,rfl,_⟩,⟨r2,t2,rfl,_⟩,⟨r3,t3,rfl,_⟩,⟨r4,t4,rfl,_⟩,⟨r5,t5,rfl,_⟩,_,hFF⟩:=id hen)
   exact hK _ F' _ ex1 (fun _ h=>⟨_,_,_,_,_,_,_,_,_,_,_,_,rfl,GT.ext hen h⟩) how
  ·cases ho;simp only[fr];intro K hK;go_wp2;exact zk hK _ (fun _ _=>rfl)
  ·cases ho;simp only[fr];obtain⟨⟨d2,-⟩,-⟩:=fa [2] (by decide +kernel) hd
   simp only[fu] at d2;try simp only[d2]
   clear d2;intro K hK;go_wp2;exact zk hK _ (fun _ _=>rfl)
  ·cases ho;simp only[fr];obtain⟨⟨d2,-⟩,⟨d3,-⟩,-⟩:=fa [2,3] (by decide +kernel) hd
   simp only[fu] at d2 d3;try simp only[d2,d3]
   clear d2 d3;intro K hK;go_wp2;exact zk hK _ (fun _ _=>rfl)
  ·cases ho;simp only[fr];obtain⟨⟨d2,-⟩,⟨d3,-⟩,⟨d4,-⟩,-⟩:=fa [2,3,4] (by decide +kernel) hd
   simp only[fu] at d2 d3 d4;try simp only[d2,d3,d4]
   intro K hK;go_wp2;obtain⟨F2,s2,ow2⟩:=HO u;exact hK _ F2 _ ((zr u).alloc _) (fun _ h=>⟨_,rfl,s2.ext h⟩) ow2
  ·cases ho;simp only[fr];obtain⟨⟨d0,-⟩,⟨d1,o1⟩,⟨d2,-⟩,⟨d3,-⟩,⟨d4,-⟩,⟨d5,o5⟩,-⟩:=fa [0,1,2,3,4,5] (by decide +kernel) hd
   simp only[fu] at d0 d1 d2 d3 d4 d5;try simp only[d0,d2,d3,d4]
   obtain⟨t0,u0,t1,u1,t2,u2,t3,u3,t4,u4,t5,u5,e1,_⟩:=d1;obtain⟨b5,e5,_⟩:=d5;simp only[e1,e5];intro K hK;go_wp2;exact zk hK _ (fun _ _=>⟨_,_,_,_,_,_,e1,by show Value.agg _=Value.agg #[_,_,_,_,_,_,_,U 12];rw[e5]⟩)
 ·intro o ho U u F hE hφ hap;cases ho;simp only[fr];obtain⟨⟨d0,-⟩,⟨d1,o1⟩,⟨d2,-⟩,⟨d3,-⟩,⟨d4,-⟩,⟨d5,o5⟩,⟨d6,o6⟩,-⟩:=fb [0,1,2,3,4,5,6] (by decide +kernel) hφ
  simp only[fu] at d0 d1 d2 d3 d4 d5 d6;try simp only[d0,d2,d3,d4]
  obtain⟨t0,u0,t1,u1,t2,u2,t3,u3,t4,u4,t5,u5,e1,n1⟩:=d1;obtain⟨b5,e5,s5⟩:=d5;obtain⟨x0,x1,x2,x3,x4,x5,z6,y6⟩:=d6;rw[e1] at z6;have z7:=congrArg Array.toList (zCc z6);simp only[List.cons.injEq] at z7;obtain⟨rfl,rfl,rfl,rfl,rfl,rfl,_⟩:=z7;have a15:=hap 1 5 (by omega) (by omega) (by omega)
  rw[e5] at y6 s5;have OX:Own w0.heap.size u (F 1++F 5):=o1.join o5 a15;have EN:=zh (zGk n1 s5)
  generalize F 1++F 5=FX at *
  clear hap hφ e1 e5 z6 n1 s5;simp only[y6];have KBx:=KB.out.ext hE;obtain⟨z0,z1,z2,z3,z4,z5,z6,z7⟩:=Bk.k8 KBx;have zf:=KBx.fz;have ltZ:=KBx.lt;have hZ:w.heap.size+1 ∉ FX:=fun hm=>by have:=(OX.2 _ hm).1;omega
  replace OX:=zh OX;have hsz:=E.out.sz;have EY:=zh (E.out.tr hE);clear KBx y6 d0 d2 d3 d4 o1 o5 a15 hmk HO f0 f1 f2 f3 f4 f5 f6 KA KB hE;go_wp2;refine bodyPost_ret (v:=.agg #[.slice t0 m.Plan.Parts.length u0,.slice t1 m.Plan.Channels.length u1,.slice t2 m.Plan.Slots.length u2,.slice t3 m.Programs.length u3,.slice t4 m.Cores.length u4,.slice t5 m.Holds.length u5,.int .i64 m.Tick,.slice (some ⟨b5,0,none⟩) m.Cores.length m.Cores.length]) (by simp[results,Tryz.results58,go_sem,z0,z1,z2,z3,z4,z5,z6,z7]) rfl ⟨_,rfl,by rw[zHo g];exact⟨_,_,rfl,zAt (c:=w.heap.size+1) (o:=0) (ds:=[.slice t0 m.Plan.Parts.length u0,.slice t1 m.Plan.Channels.length u1,.slice t2 m.Plan.Slots.length u2,.slice t3 m.Programs.length u3,.slice t4 m.Cores.length u4,.slice t5 m.Holds.length u5,.int .i64 m.Tick,.slice (some ⟨b5,0,none⟩) m.Cores.length m.Cores.length]) EN.out hZ,((OX.out.mono (by omega)).put (b:=w.heap.size+1) (o:=0) (cs:=[.slice t0 m.Plan.Parts.length u0,.slice t1 m.Plan.Channels.length u1,.slice t2 m.Plan.Slots.length u2,.slice t3 m.Programs.length u3,.slice t4 m.Cores.length u4,.slice t5 m.Holds.length u5,.int .i64 m.Tick,.slice (some ⟨b5,0,none⟩) m.Cores.length m.Cores.length]))⟩,?_⟩
  exact((((((((EY.out).set (by simp) _).set (by simp) _).set (by simp) _).set (by simp) _).set (by simp) _).set (by simp) _).set (by simp) _).set (by simp) _
def zFk(n:Nat)(cs:List Channel)(hs:List Hold)(i:Nat):List Hold:=if cs[i]?.map Channel.To=some (n:Int) then hs.set i ⟨[]⟩ else hs
def zD5(n:Nat)(cs:List Channel)(hs:List Hold)(k:Nat):List Hold:=(List.range k).foldl (zFk n cs) hs
theorem zCg(n:Nat)(cs:List Channel)(hs:List Hold)(k:Nat):zD5 n cs hs (k+1)=zFk n cs (zD5 n cs hs k) k:=by
 simp[zD5,List.range_succ]
theorem zMo(n:Nat)(cs:List Channel)(hs:List Hold)(i:Nat):(zFk n cs hs i).length=hs.length:=by
 unfold zFk;split<;>simp
theorem zE2(n:Nat)(cs:List Channel)(hs:List Hold)(k:Nat):(zD5 n cs hs k).length=hs.length:=by
 induction k with
 | zero=>rfl
 | succ k ih=>rw[zCg,zMo,ih]
def zB1(m:Machine)(n:Nat)(c:Core)(k:Nat):Machine:={ m with Cores:=m.Cores.set n c,Holds:=zD5 n m.Plan.Channels m.Holds k }
theorem Sl.hd{α:Type}[GT α]{w:World}{g s n c:Nat}{xs:List α}{F:List Nat}(h:Sl w (.slice (some ⟨g,s,none⟩) n c) xs F)(hx:0 < xs.length):g∈F:=by
 obtain⟨a,c',e,_,_,⟨rfl,_⟩ | ⟨_,b,o,F',e2,rfl,_⟩⟩:=h
 ·cases hx
 ·cases e;cases e2;simp
theorem Lens.indexS{α:Type}[GT α]{w:World}{b o:Nat}{xs:List α}{F:List Nat}{a:Option Addr}{n c:Nat}(hs:Sl w (.slice a n c) xs F)(hat:At w b o [.slice a n c])(hnd:(b::F).Nodup)(hlt:∀ k∈b::F,k < w.heap.size)(i:Nat)(hi:i < xs.length) :
  ∃ g s Fy x,a=some ⟨g,s,none⟩/\Hid (xs[i]? = some x)/\(∀ k∈g::Fy,k∈F)/\Lens w b o xs F g (s+i*GT.sz α) x Fy (fun y=>xs.set i y):=by
 obtain⟨a',c',he,hl,hc,⟨rfl,rfl⟩ | ⟨hne,g,s,F',rfl,rfl,hr⟩⟩:=hs
 ·cases hi
 cases he;have hsp:xs=xs.take i++xs[i]::xs.drop (i+1):=by rw[List.getElem_cons_drop,List.take_append_drop]
 have hr':=hr;rw[hsp] at hr';obtain⟨F1,F2,rfl,hr1,hr2⟩:=hr'.split;have hlen:(xs.take i).length=i:=by rw[List.length_take];omega
 rw[hlen] at hr2;obtain⟨cs,F0,F3,henc,hate,rfl,hr3⟩:=hr2;have hb0:=(List.nodup_cons.1 hnd).1;have hnd1:=(List.nodup_cons.1 hnd).2;have hg:=(List.nodup_cons.1 hnd1).1;have hnd2:=(List.nodup_cons.1 hnd1).2;have hlc:=GT.len henc;have hdis:∀ k,k∈F1\/k∈F3->k≠g/\k ∉ F0/\k < w.heap.size:=fun k hk=>by
  have hm:k∈F1++(F0++F3):=zB7.2 (hk.elim .inl (fun h => .inr (.inr h)))
  refine⟨fun e=>hg (e ▸ hm),fun hy=>?_,hlt k (by simp only[List.mem_cons];exact .inr (.inr hm))⟩
  simp only[List.nodup_append,List.mem_append] at hnd2;rcases hk with hk|hk
  ·exact hnd2.2.2 k hk k (.inl hy) rfl
  ·exact hnd2.2.1.2.2 k hy k hk rfl
 refine⟨g,s,F0,xs[i],rfl,by unfold Hid;simp[hi],fun k hk=>(List.mem_cons.1 hk).elim (fun e=>by simp[e]) (fun h=>by simp[h]),?_⟩
 refine { sub:=fun k hk=>?_,nd:=?_,enc:=⟨cs,henc,hate⟩,back:=fun L w' y' Fy' ho hch hz hf=>?_ }
 ·rcases List.mem_cons.1 hk with rfl|hk
  ·simp
  ·simp[hk]
 ·refine List.nodup_cons.2 ⟨fun hm=>hg (zB7.2 (.inr (.inl hm))),?_⟩
  simp only[List.nodup_append] at hnd2;exact hnd2.2.1.1
 ·obtain⟨csy,h1,h2,h3⟩:=hz;have hl':=GT.len h1;have hkeep:∀ k,k∈F1\/k∈F3->w'.heap[k]? = w.heap[k]?:=fun k hk=>hch.keep (hdis k hk).2.2 (hdis k hk).1 (hdis k hk).2.1
  have hbg:b≠g:=fun e=>hb0 (by rw[e];exact List.mem_cons_self ..)
  have hbk:w'.heap[b]? = w.heap[b]?:=hch.keep (hlt b (List.mem_cons_self ..)) hbg (fun hm=>hb0 (List.mem_cons_of_mem _ (zB7.2 (.inr (.inl hm)))))
  have hset:xs.set i y'=xs.take i++y'::xs.drop (i+1):=by rw[List.set_eq_take_append_cons_drop,if_pos hi]
  have h3n:=List.nodup_cons.1 h3.1;have hlt0:∀ k∈F1++(F0++F3),k < w.heap.size:=fun k hk=>hlt k (List.mem_cons_of_mem _ (List.mem_cons_of_mem _ hk))
  have hnew:∀ k,k∈F1++(Fy'++F3)->k∈F1++(F0++F3)\/w.heap.size<=k:=fun k hk=>by
   rcases zB7.1 hk with hm|hm|hm
   ·exact .inl (zB7.2 (.inl hm))
   ·rcases hf k hm with h|h
    ·exact .inl (zB7.2 (.inr (.inl h)))
    ·exact .inr h
   ·exact .inl (zB7.2 (.inr (.inr hm)))
  refine⟨g::(F1++(Fy'++F3)),⟨[.slice (some ⟨g,s,none⟩) xs.length c],⟨_,rfl,some ⟨g,s,none⟩,c,by simp,by simpa using hl,hc,.inr ⟨zKj hne,g,s,_,rfl,rfl,?_⟩⟩,hat.keep hbk,?_,?_⟩,?_,?_⟩
  ·rw[hset];refine Row.append (hr1.move (fun k hk'=>hkeep k (.inl hk')) fun j u hj hu=>?_) ?_
   ·rw[hlen] at hj;rw[hch.cell (by left;omega)];exact hu
   ·rw[hlen];refine⟨csy,Fy',F3,h1,h2,rfl,hr3.move (fun k hk'=>hkeep k (.inr hk')) fun j u hj hu=>?_⟩
    rw[hch.cell (by right;omega)];exact hu
  ·have hgn:g ∉ F1++(Fy'++F3):=fun hm=>by
    rcases zB7.1 hm with hm|hm|hm
    ·exact hg (zB7.2 (.inl hm))
    ·exact h3n.1 hm
    ·exact hg (zB7.2 (.inr (.inr hm)))
   refine List.nodup_cons.2 ⟨fun hm=>?_,List.nodup_cons.2 ⟨hgn,zJe hnd2 h3n.2 fun k hk=>?_⟩⟩
   ·rcases List.mem_cons.1 hm with e|hm
    ·exact hbg e
    ·rcases hnew b hm with h|h
     ·exact hb0 (List.mem_cons_of_mem _ h)
     ·have:=hlt b (List.mem_cons_self ..);omega
   ·rcases hf k hk with h|h
    ·exact⟨fun hm=>(hdis k (.inl hm)).2.1 h,fun hm=>(hdis k (.inr hm)).2.1 h⟩
    ·exact⟨fun hm=>by have:=(hdis k (.inl hm)).2.2;omega,fun hm=>by have:=(hdis k (.inr hm)).2.2;omega⟩
  ·intro k hk;have hold:∀ k,k∈b::g::(F1++(F0++F3))->L<=k/\Fz w' k:=fun k hk=>⟨(ho.2 k hk).1,hch.fzk k (ho.2 k hk).2⟩
   rcases List.mem_cons.1 hk with rfl|hk
   ·exact hold _ (by simp)
   rcases List.mem_cons.1 hk with rfl|hk
   ·exact hold _ (by simp)
   rcases zB7.1 hk with hm|hm|hm
   ·exact hold k (by simp[hm])
   ·exact h3.2 k (List.mem_cons_of_mem _ hm)
   ·exact hold k (by simp[hm])
  ·intro k hk;rcases List.mem_cons.1 hk with rfl|hk
   ·exact .inl (List.mem_cons_self ..)
   ·rcases zB7.1 hk with hm|hm|hm
    ·exact .inl (List.mem_cons_of_mem _ (zB7.2 (.inl hm)))
    ·exact .inr hm
    ·exact .inl (List.mem_cons_of_mem _ (zB7.2 (.inr (.inr hm))))
  ·exact hch.up (fun hm=>by
    rcases List.mem_cons.1 hm with e|hm
    ·exact hbg e
    ·exact hb0 (List.mem_cons_of_mem _ (zB7.2 (.inr (.inl hm))))) (hlt b (List.mem_cons_self ..)) (fun k hk=>by
    rcases List.mem_cons.1 hk with rfl|hk
    ·simp
    ·simp[hk])
theorem Om.idxS{α:Type}[GT α]{L:Nat}{w:World}{b o:Nat}{xs:List α}{F:List Nat}(h:Om L w b o xs F){a:Option Addr}{n c:Nat}(hv:w.cell? ⟨b,o,none⟩=some (.slice a n c))(i:Nat)(hi:i < xs.length) :
  ∃ g s Fy x,a=some ⟨g,s,none⟩/\Hid (xs[i]? = some x)/\(∀ k∈g::Fy,k∈F)/\Lens w b o xs F g (s+i*GT.sz α) x Fy (fun y=>xs.set i y):=by
 obtain⟨cs,⟨v,rfl,hs⟩,hat,ho⟩:=h;have h0:=hat 0 v rfl;rw[Nat.add_zero,hv] at h0;cases h0;exact Lens.indexS hs hat ho.1 (fun k hk=>ho.lt hk) i hi
theorem Lens.fsub{α β:Type}[GT α][GT β]{L:Nat}{w:World}{b o o':Nat}{x : α}{F Fy:List Nat}{y : β}{put : β -> α}(h:Lens w b o x F b o' y Fy put)(ho:Own L w (b::F)):∀ k∈Fy,k∈F/\k≠b:=fun k hk=>by
 have hb:=(h.om ho).bk.2.2.1;rcases List.mem_cons.1 (h.sub k (List.mem_cons_of_mem _ hk)) with e|h1
 ·exact absurd (e ▸ hk) hb
 ·exact⟨h1,fun e=>hb (e ▸ hk)⟩
theorem Om.own0{α:Type}[GT α]{L:Nat}{w:World}{b o:Nat}{x : α}{F:List Nat}(h:Om L w b o x F):Fz w b:=by
 obtain⟨_,_,_,h3⟩:=h;exact(h3.2 b (List.mem_cons_self ..)).2
theorem Om.openM{L:Nat}{w:World}{b:Nat}{m:Machine}{F:List Nat}(h:Om L w b 0 m F):∃ a0 c0 a1 c1 a2 c2 a3 c3 a4 c4 a5 c5,w.cell? ⟨b,0,none⟩=some (.slice a0 m.Plan.Parts.length c0)/\w.cell? ⟨b,1,none⟩=some (.slice a1 m.Plan.Channels.length c1)/\w.cell? ⟨b,2,none⟩=some (.slice a2 m.Plan.Slots.length c2)/\w.cell? ⟨b,3,none⟩=some (.slice a3 m.Programs.length c3)/\w.cell? ⟨b,4,none⟩=some (.slice a4 m.Cores.length c4)/\w.cell? ⟨b,5,none⟩=some (.slice a5 m.Holds.length c5)/\w.cell? ⟨b,6,none⟩=some (.int .i64 m.Tick)/\Rs w (.slice a0 m.Plan.Parts.length c0) m.Plan.Parts/\Rs w (.slice a1 m.Plan.Channels.length c1) m.Plan.Channels/\Rs w (.slice a2 m.Plan.Slots.length c2) m.Plan.Slots/\Rs w (.slice a3 m.Programs.length c3) m.Programs/\Rs w (.slice a4 m.Cores.length c4) m.Cores/\Rs w (.slice a5 m.Holds.length c5) m.Holds:=by
 obtain⟨cs,⟨v0,v1,v2,v3,v4,v5,F0,F1,F2,F3,F4,F5,rfl,h0,h1,h2,h3,h4,h5,r6,rfl⟩,hat,ho⟩:=h;obtain⟨a0,c0,rfl,_⟩:=id h0;obtain⟨a1,c1,rfl,_⟩:=id h1;obtain⟨a2,c2,rfl,_⟩:=id h2;obtain⟨a3,c3,rfl,_⟩:=id h3;obtain⟨a4,c4,rfl,_⟩:=id h4;obtain⟨a5,c5,rfl,_⟩:=id h5;exact⟨_,_,_,_,_,_,_,_,_,_,_,_,by simpa using hat 0 _ rfl,by simpa using hat 1 _ rfl,by simpa using hat 2 _ rfl,by simpa using hat 3 _ rfl,by simpa using hat 4 _ rfl,by simpa using hat 5 _ rfl,by simpa using hat 6 _ rfl,⟨_,h0⟩,⟨_,h1⟩,⟨_,h2⟩,⟨_,h3⟩,⟨_,h4⟩,⟨_,h5⟩⟩
theorem zHv(L b n:Nat)(m:Machine)(F:List Nat)(q:Part)(w:World)(h:Om L w b 0 m F)(hL:L<=w.heap.size)(hn:n < m.Cores.length)(hq:m.Plan.Parts[n]? = some q)(hh:m.Plan.Channels.length<=m.Holds.length)(hc8:m.Plan.Channels.length<=8)(hn5:n<=5) :
  Calls Tryz.prog 48 #[.pointer (some ⟨b,0,none⟩),.int .i64 n] w fun e w' => ∃ F',Om L w' b 0 (zB1 m n (zAp q.Cells) m.Plan.Channels.length) F'/\Chg b 0 7 F w w'/\(∀ k∈F',k∈F\/w.heap.size<=k)/\(∃ v,e = .returned v)/\∀ j,w'.cell? ⟨b,j,none⟩=w.cell? ⟨b,j,none⟩:=by
 have H:=zh h;obtain⟨a0,c0,a1,c1,a2,c2,a3,c3,a4,c4,a5,c5,y0,y1,y2,y3,y4,y5,y6,r0,r1,r2,r3,r4,r5⟩:=h.openM;obtain⟨ltb,hLb,nbF,hfz⟩:=h.bk;have hnp:n < m.Plan.Parts.length:=(List.getElem?_eq_some_iff.1 hq).1;obtain⟨pb,po,x,wa,wc,rfl,hpb,hx,hp0,hp1,hr1,_,_,_⟩:=r0.atPart n hnp;obtain rfl:x=q:=Option.some.inj (hx.out.symm.trans hq);obtain⟨cs0,hen0,hat0,hown⟩:=id h;obtain⟨Fc,lc⟩:=h.lMachineCores;obtain⟨g,s,Fy,x0,rfl,hx0,hsubc,li⟩:=(lc.om hown).idxS (by simpa using y4) n hn
 have LC:=zh (lc.comp li);have hsub:∀ k∈g::Fy,k∈F/\k≠b:=fun k hk=>Lens.fsub lc hown k (hsubc k hk)
 have hgb:g≠b:=(hsub g (List.mem_cons_self ..)).2;obtain⟨ltg,hLg,ngF,gfz⟩:=(LC.out.om hown).bk;obtain⟨kc,hcc⟩:∃ kc,zAp x.Cells=kc:=⟨_,rfl⟩;have hr0:rng kc.At:=by
  rw[<- hcc];unfold zAp;split<;>exact⟨by show(-9223372036854775808:Int)<=0;decide,by show(0:Int)<=9223372036854775807;decide⟩
 obtain⟨csx,⟨vx,rfl,_,_⟩,hatx⟩:=LC.out.enc;have w0:=hatx 0 _ rfl;have w1:=hatx 1 _ rfl;have w2:=hatx 2 _ rfl;simp only[GT.sz,Nat.add_zero] at w0 w1 w2;clear hatx;clear lc li hen0 hat0 r2 r3 r4 r5;go_enter Tryz.func48,Tryz.ntmps48;go_upto_region 0 with (fail)
 refine zAi rfl 16 [(6,[6]),(7,[7]),(8,[8]),(9,[9]),(10,[10]),(11,[11]),(12,[12]),(13,[13]),(14,[14]),(15,[15]),(16,[16]),(17,[17]),(18,[18]),(19,[19]),(20,[20]),(21,[21])]
  (fun i vs u F=>match i,vs with
   | 0,[y]=>y = .pointer (some ⟨b,0,none⟩)
   | 1,[y]=>y = .pointer (some ⟨b,0,none⟩)
   | 2,[y]=>y = .pointer (some ⟨b,4,none⟩)
   | 3,[y]=>y = .slice (some ⟨g,s,none⟩) m.Cores.length c4
   | 4,[y]=>y = .int .i64 n
   | 5,[y]=>y = .pointer (some ⟨b,0,none⟩)
   | 6,[y]=>y = .pointer (some ⟨b,0,none⟩)
   | 7,[y]=>y = .pointer (some ⟨b,0,none⟩)
   | 8,[y]=>y = .pointer (some ⟨b,0,none⟩)
   | 9,[y]=>y = .slice (some ⟨pb,po,none⟩) m.Plan.Parts.length c0
   | 10,[y]=>y = .int .i64 n
   | 11,[y]=>y = .pointer (some ⟨pb,po+n*2,none⟩)
   | 12,[y]=>y = .pointer (some ⟨pb,po+n*2+1,none⟩)
   | 13,[y]=>y = .int .i64 x.Cells
   | 14,[y] => ∃ p q,y = .agg #[.slice p kc.Cells.length q,.int .i64 kc.At,.bool kc.Stopped]/\Sl u (.slice p kc.Cells.length q) kc.Cells F
   | 15,[y]=>y = .pointer (some ⟨g,s+n*3,none⟩)
   | _,_=>False) (by decide +kernel) ?_ ?_
 ·intro i hi o ho U u F hE hd hap;have e0:=(zA0 hE ltb).trans y0;have e4:=(zA0 hE ltb).trans y4;have e1:=(zA0 hE hpb).trans hp1;rcases(by omega:i=0\/i=1\/i=2\/i=3\/i=4\/i=5\/i=6\/i=7\/i=8\/i=9\/i=10\/i=11\/i=12\/i=13\/i=14\/i=15) with rfl|rfl|rfl|rfl|rfl|rfl|rfl|rfl|rfl|rfl|rfl|rfl|rfl|rfl|rfl|rfl
  ·cases ho;simp only[fr];intro K hK;go_wp2;exact zk hK _ (fun _ _=>rfl)
  ·cases ho;simp only[fr];obtain⟨⟨d0,-⟩,-⟩:=fa [0] (by decide +kernel) hd
   simp only[fu] at d0;try simp only[d0]
   clear d0;intro K hK;go_wp2;exact zk hK _ (fun _ _=>rfl)
  ·cases ho;simp only[fr];obtain⟨⟨d0,-⟩,⟨d1,-⟩,-⟩:=fa [0,1] (by decide +kernel) hd
   simp only[fu] at d0 d1;try simp only[d0,d1]
   clear d0 d1;intro K hK;go_wp2;exact zk hK _ (fun _ _=>rfl)
  ·cases ho;simp only[fr];obtain⟨⟨d0,-⟩,⟨d1,-⟩,⟨d2,-⟩,-⟩:=fa [0,1,2] (by decide +kernel) hd
   simp only[fu] at d0 d1 d2;try simp only[d0,d1,d2]
   clear d0 d1 d2;intro K hK;go_wp2;exact zk hK _ (fun _ _=>rfl)
  iterate 2 (·cases ho;simp only[fr];intro K hK;go_wp2;exact zk hK _ (fun _ _=>rfl))
  ·cases ho;simp only[fr];obtain⟨⟨d5,-⟩,-⟩:=fa [5] (by decide +kernel) hd
   simp only[fu] at d5;try simp only[d5]
   clear d5;intro K hK;go_wp2;exact zk hK _ (fun _ _=>rfl)
  ·cases ho;simp only[fr];obtain⟨⟨d5,-⟩,⟨d6,-⟩,-⟩:=fa [5,6] (by decide +kernel) hd
   simp only[fu] at d5 d6;try simp only[d5,d6]
   clear d5 d6;intro K hK;go_wp2;exact zk hK _ (fun _ _=>rfl)
  ·cases ho;simp only[fr];obtain⟨⟨d5,-⟩,⟨d6,-⟩,⟨d7,-⟩,-⟩:=fa [5,6,7] (by decide +kernel) hd
   simp only[fu] at d5 d6 d7;try simp only[d5,d6,d7]
   clear d5 d6 d7;intro K hK;go_wp2;exact zk hK _ (fun _ _=>rfl)
  ·cases ho;simp only[fr];obtain⟨⟨d5,-⟩,⟨d6,-⟩,⟨d7,-⟩,⟨d8,-⟩,-⟩:=fa [5,6,7,8] (by decide +kernel) hd
   simp only[fu] at d5 d6 d7 d8;try simp only[d5,d6,d7,d8]
   clear d5 d6 d7 d8;intro K hK;go_wp2;exact zk hK _ (fun _ _=>rfl)
  ·cases ho;simp only[fr];intro K hK;go_wp2;exact zk hK _ (fun _ _=>rfl)
  ·cases ho;simp only[fr];obtain⟨⟨d5,-⟩,⟨d6,-⟩,⟨d7,-⟩,⟨d8,-⟩,⟨d9,-⟩,⟨d10,-⟩,-⟩:=fa [5,6,7,8,9,10] (by decide +kernel) hd
   simp only[fu] at d5 d6 d7 d8 d9 d10;try simp only[d5,d6,d7,d8,d9,d10]
   clear d5 d6 d7 d8 d9 d10;intro K hK;go_wp2;exact zk hK _ (fun _ _=>rfl)
  ·cases ho;simp only[fr];obtain⟨⟨d5,-⟩,⟨d6,-⟩,⟨d7,-⟩,⟨d8,-⟩,⟨d9,-⟩,⟨d10,-⟩,⟨d11,-⟩,-⟩:=fa [5,6,7,8,9,10,11] (by decide +kernel) hd
   simp only[fu] at d5 d6 d7 d8 d9 d10 d11;try simp only[d5,d6,d7,d8,d9,d10,d11]
   clear d5 d6 d7 d8 d9 d10 d11;intro K hK;go_wp2;exact zk hK _ (fun _ _=>rfl)
  ·cases ho;simp only[fr];obtain⟨⟨d5,-⟩,⟨d6,-⟩,⟨d7,-⟩,⟨d8,-⟩,⟨d9,-⟩,⟨d10,-⟩,⟨d11,-⟩,⟨d12,-⟩,-⟩:=fa [5,6,7,8,9,10,11,12] (by decide +kernel) hd
   simp only[fu] at d5 d6 d7 d8 d9 d10 d11 d12;try simp only[d5,d6,d7,d8,d9,d10,d11,d12]
   clear d5 d6 d7 d8 d9 d10 d11 d12;intro K hK;go_wp2;exact zk hK _ (fun _ _=>rfl)
  ·cases ho;simp only[fr];obtain⟨⟨d5,-⟩,⟨d6,-⟩,⟨d7,-⟩,⟨d8,-⟩,⟨d9,-⟩,⟨d10,-⟩,⟨d11,-⟩,⟨d12,-⟩,⟨d13,-⟩,-⟩:=fa [5,6,7,8,9,10,11,12,13] (by decide +kernel) hd
   simp only[fu] at d5 d6 d7 d8 d9 d10 d11 d12 d13;try simp only[d5,d6,d7,d8,d9,d10,d11,d12,d13]
   intro K hK;go_wp2_with (go_at_call 86;refine(zLh x.Cells _).mono ?_;rintro e w' ⟨v',rfl,hov,ex1⟩;rw[hcc] at hov;obtain⟨cs,F',rfl,⟨v0,rfl,s1,_⟩,ow1⟩:=hov;obtain⟨p9,q9,rfl,_⟩:=id s1)
   exact hK _ F' _ ex1 (fun _ h=>⟨_,_,rfl,s1.ext h⟩) ow1
  ·cases ho;simp only[fr];obtain⟨⟨d0,-⟩,⟨d1,-⟩,⟨d2,-⟩,⟨d3,-⟩,⟨d4,-⟩,⟨d5,-⟩,⟨d6,-⟩,⟨d7,-⟩,⟨d8,-⟩,⟨d9,-⟩,⟨d10,-⟩,⟨d11,-⟩,⟨d12,-⟩,⟨d13,-⟩,-⟩:=fa [0,1,2,3,4,5,6,7,8,9,10,11,12,13] (by decide +kernel) hd
   simp only[fu] at d0 d1 d2 d3 d4 d5 d6 d7 d8 d9 d10 d11 d12 d13;try simp only[d0,d1,d2,d3,d4,d5,d6,d7,d8,d9,d10,d11,d12,d13]
   clear d0 d1 d2 d3 d4 d5 d6 d7 d8 d9 d10 d11 d12 d13;intro K hK;go_wp2;exact zk hK _ (fun _ _=>rfl)
 ·intro o ho U u G hE hφ hap;cases ho;simp only[fr];obtain⟨⟨d0,-⟩,⟨d1,-⟩,⟨d2,-⟩,⟨d3,-⟩,⟨d4,-⟩,⟨d5,-⟩,⟨d6,-⟩,⟨d7,-⟩,⟨d8,-⟩,⟨d9,-⟩,⟨d10,-⟩,⟨d11,-⟩,⟨d12,-⟩,⟨d13,-⟩,⟨d14,o14⟩,⟨d15,-⟩,-⟩:=fb [0,1,2,3,4,5,6,7,8,9,10,11,12,13,14,15] (by decide +kernel) hφ
  simp only[fu] at d0 d1 d2 d3 d4 d5 d6 d7 d8 d9 d10 d11 d12 d13 d14 d15;try simp only[d0,d1,d2,d3,d4,d5,d6,d7,d8,d9,d10,d11,d12,d13,d15]
  obtain⟨p9,q9,e9,s9⟩:=d14;simp only[e9];have g0:=(zA0 hE ltg).trans w0;have g1:=(zA0 hE ltg).trans w1;have g2:=(zA0 hE ltg).trans w2;have gfu:∀ j,u.frozen? ⟨g,j,none⟩=false:=(((LC.out.om hown).ext hE).bk).2.2.2;have ltgu:=zl ltg hE.sz;have ngN:g ∉ G 14:=fun hm=>by have:=(o14.2 g hm).1;omega
  generalize G 14=GN at *
  clear d0 d1 d2 d3 d4 d5 d6 d7 d8 d9 d10 d11 d12 d13 d15 hφ hap e9;go_upto_region 1 with (fail)
  have CG:Chg g (s+n*3) 3 Fy w (((u.setCell ⟨g,s+n*3,none⟩ (.slice p9 kc.Cells.length q9)).setCell ⟨g,s+n*3+1,none⟩ (.int .i64 kc.At)).setCell ⟨g,s+n*3+2,none⟩ (.bool kc.Stopped)):=(((Chg.ofExt hE ltg).set ⟨by omega,by omega⟩ _).set ⟨by omega,by omega⟩ _).set ⟨by omega,by omega⟩ _
  have SG:=((s9.set (p:=⟨g,s+n*3,none⟩) ngN (.slice p9 kc.Cells.length q9)).set (p:=⟨g,s+n*3+1,none⟩) ngN (.int .i64 kc.At)).set (p:=⟨g,s+n*3+2,none⟩) ngN (.bool kc.Stopped);have AG:At (((u.setCell ⟨g,s+n*3,none⟩ (.slice p9 kc.Cells.length q9)).setCell ⟨g,s+n*3+1,none⟩ (.int .i64 kc.At)).setCell ⟨g,s+n*3+2,none⟩ (.bool kc.Stopped)) g (s+n*3) [.slice p9 kc.Cells.length q9,.int .i64 kc.At,.bool kc.Stopped]:=fun j y hj=>by
   match j,hj with
   | 0,hj=>cases hj;exact(zA3 (by omega)).trans ((zA3 (by omega)).trans (zAs g0))
   | 1,hj=>cases hj;exact(zA3 (by omega)).trans (zAs ((zA3 (by omega)).trans g1))
   | 2,hj=>cases hj;exact zAs ((zA3 (by omega)).trans ((zA3 (by omega)).trans g2))
  have OGu:Own L u (g::GN):=⟨List.nodup_cons.2 ⟨ngN,o14.1⟩,fun k hk=>by
   rcases List.mem_cons.1 hk with rfl|hk
   ·exact⟨hLg,((LC.out.om hown).ext hE).own0⟩
   ·exact⟨by have:=(o14.2 k hk).1;omega,(o14.2 k hk).2⟩⟩
  have OG:=((OGu.set ⟨g,s+n*3,none⟩ (.slice p9 kc.Cells.length q9)).set ⟨g,s+n*3+1,none⟩ (.int .i64 kc.At)).set ⟨g,s+n*3+2,none⟩ (.bool kc.Stopped);obtain⟨F1,om1,sub1,chg1⟩:=LC.out.back L _ kc GN hown CG ⟨_,⟨_,rfl,SG,hr0⟩,AG,OG⟩ (fun k hk => .inr (o14.2 k hk).1)
  have bx:∀ j,(((u.setCell ⟨g,s+n*3,none⟩ (.slice p9 kc.Cells.length q9)).setCell ⟨g,s+n*3+1,none⟩ (.int .i64 kc.At)).setCell ⟨g,s+n*3+2,none⟩ (.bool kc.Stopped)).cell? ⟨b,j,none⟩=w.cell? ⟨b,j,none⟩:=fun j=>World.cell?_of_block (CG.keep ltb (fun e=>hgb e.symm) (fun hm=>(hsub b (List.mem_cons_of_mem _ hm)).2 rfl))
  have sub2:∀ k∈F1,k∈F\/w.heap.size<=k:=fun k hk=>(sub1 k hk).imp (fun h=>h) (fun h=>(o14.2 k h).1)
  refine zA1 (fun W=>Om L W b 0 (zB1 m n kc 0) F1/\Chg b 0 7 F w W/\∀ j,W.cell? ⟨b,j,none⟩=w.cell? ⟨b,j,none⟩) ⟨om1,chg1,bx⟩ ?_
  rintro W1 ⟨OM1,CH1,BX1⟩;clear CG SG AG OGu OG om1 sub1 chg1 bx g0 g1 g2 gfu ltgu ngN hE s9 o14 w0 w1 w2;have b1:=(BX1 1).trans y1;have ltb1:=zl ltb CH1.sz;go_wp2;clear LC hsubc hsub gfz ltg hLg ngF hp0 hp1 r0;go_loopw [28] (fun i wr => ∃ (k:Nat) (Fr:List Nat),k<=m.Plan.Channels.length/\i = .int .i64 k/\Om L wr b 0 (zB1 m n kc k) Fr/\Chg b 0 7 F w wr/\(∀ j,wr.cell? ⟨b,j,none⟩=w.cell? ⟨b,j,none⟩)/\∀ z∈Fr,z∈F\/w.heap.size<=z) (fun i _=>m.Plan.Channels.length - (intOf i).toNat)
  case atStart=>exact⟨0,F1,Nat.zero_le _,rfl,OM1,CH1,BX1,sub2⟩
  case round =>
   obtain⟨k,Fr,hk,rfl,om,ch,bxr,subr⟩:=hrel;have OMr:=zh om;have CHr:=zh ch;have BXr:=zh bxr;have ltbr:=zl ltb ch.sz;by_cases hkt:k < m.Plan.Channels.length
   ·obtain⟨_,_,ax,cx,_,_,_,_,_,_,_,_,_,z1,_,_,_,_,_,_,R1,_,_,_,_⟩:=om.openM;rw[bxr 1,y1] at z1;have z2:=Option.some.inj z1
    injection z2 with za zb zc
    subst za;subst zc;obtain⟨cb,co,xc,rfl,hcb,hxc,q0,q1,q2,q3,_,_,_,_,_⟩:=R1.atChannel k hkt;have hxc':m.Plan.Channels[k]? = some xc:=hxc.out;clear om ch z1 R1 bxr;go_upto_region 4 with (fail)
    refine zA1 (fun W2=>Ext wr W2/\Bk W2 wr.heap.size [.int .i64 xc.Kind,.int .i64 xc.From,.int .i64 xc.To,.int .i64 xc.Size] 49) ⟨(zr _).alloc _,Bk.new _ _ _⟩ ?_
    rintro W2 ⟨EX,BX⟩;have x2:=BX.cell (j:=2) rfl;have ltX:=BX.lt;clear BX q0 q1 q2 q3;have OM2:=zh (OMr.out.ext EX);have CH2:=zh (CHr.out.tr (Chg.ofExt EX ltbr));have ltb2:=zl ltbr EX.sz;have BX2:∀ j,W2.cell? ⟨b,j,none⟩=w.cell? ⟨b,j,none⟩:=fun j=>(zA0 EX ltbr).trans (BXr.out j)
    have v5:=(BX2 5).trans y5;have lw2:w.heap.size<=W2.heap.size:=CH2.out.sz;by_cases hto:xc.To=(n:Int)
    ·have hte:(xc.To == (n:Int))=true:=by simp[hto]
     have hkl:k < (zD5 n m.Plan.Channels m.Holds k).length:=by rw[zE2];omega
     obtain⟨Fh,lh⟩:=OM2.out.lMachineHolds;obtain⟨_,_,_,ho2⟩:=id OM2.out;have v5':W2.cell? ⟨b,0+5,none⟩=some (.slice a5 m.Holds.length c5):=v5;obtain⟨g2,s2,Fy2,x2h,rfl,hx2,hsub2,lj⟩:=(lh.om ho2).idxS v5' k hkl;have L2:=zh (lh.comp lj);have hs2:∀ z∈g2::Fy2,z∈Fr/\z≠b:=fun z hz=>Lens.fsub lh ho2 z (hsub2 z hz)
     obtain⟨ltg2,hLg2,ngF2,gf2⟩:=(L2.out.om ho2).bk;obtain⟨cs2,⟨vh,rfl,_⟩,hat2⟩:=L2.out.enc;have u0:=hat2 0 _ rfl;simp only[GT.sz,Nat.add_zero,Nat.mul_one] at u0;clear lh lj hat2 v5';have hst:zB1 m n kc (k+1)=⟨(zB1 m n kc k).Plan,(zB1 m n kc k).Programs,(zB1 m n kc k).Cores,(zB1 m n kc k).Holds.set k ⟨[]⟩,(zB1 m n kc k).Tick⟩:=by
      simp only[zB1,zCg];unfold zFk;rw[if_pos (by rw[hxc'];simp[hto])]
     have CG2:Chg g2 (s2+k*1) 1 Fy2 W2 (W2.setCell ⟨g2,s2+k,none⟩ (.slice none 0 0)):=(Chg.refl _ _ _ _ _).set ⟨by omega,by omega⟩ _
     have OH:Om L (W2.setCell ⟨g2,s2+k,none⟩ (.slice none 0 0)) g2 (s2+k*1) (⟨[]⟩:Hold) []:=⟨[.slice none 0 0],⟨_,rfl,none,0,rfl,Nat.le_refl _,Nat.zero_le _,.inl ⟨rfl,rfl⟩⟩,(fun j y hj=>by
      match j,hj with
      | 0,hj=>cases hj;rw[Nat.mul_one];exact zAs u0),⟨by simp,fun z hz=>by
      rw[List.mem_singleton] at hz;subst hz;exact⟨hLg2,(L2.out.om ho2).own0.set _ _⟩⟩⟩
     obtain⟨F9,om9,sub9,chg9⟩:=L2.out.back L _ ⟨[]⟩ [] ho2 CG2 OH (fun z hz=>by cases hz)
     have bx9:∀ j,(W2.setCell ⟨g2,s2+k,none⟩ (.slice none 0 0)).cell? ⟨b,j,none⟩=w.cell? ⟨b,j,none⟩:=fun j=>(World.cell?_of_block (CG2.keep ltb2 (fun e=>(hs2 g2 (List.mem_cons_self ..)).2 e.symm) (fun hm=>(hs2 b (List.mem_cons_of_mem _ hm)).2 rfl))).trans (BX2 j)
     have CH9:Chg b 0 7 F w (W2.setCell ⟨g2,s2+k,none⟩ (.slice none 0 0)):=CH2.out.trF chg9 (fun z hz=>subr z hz)
     replace om9:Om L (W2.setCell ⟨g2,s2+k,none⟩ (.slice none 0 0)) b 0 (zB1 m n kc (k+1)) F9:=by rw[hst];exact om9
     replace om9:=zh om9;replace CH9:=zh CH9;replace bx9:=zh bx9;clear CG2 OH chg9 hst;go_wp2;exact⟨⟨k+1,F9,by omega,by go_num,om9.out,CH9.out,bx9.out,fun z hz=>(sub9 z hz).elim (fun h=>subr z h) (fun h=>by cases h)⟩,by simp[intOf];omega⟩
    ·have hte:(xc.To == (n:Int))=false:=by simp[hto]
     have hst:zB1 m n kc (k+1)=zB1 m n kc k:=by
      simp only[zB1,zCg];unfold zFk;rw[if_neg (by rw[hxc'];simp[hto])]
     have om9:=OM2.out;rw[<- hst] at om9;replace om9:=zh om9;replace BX2:=zh BX2;clear hst;go_wp2;exact⟨⟨k+1,Fr,by omega,by go_num,om9.out,CH2.out,BX2.out,subr⟩,by simp[intOf];omega⟩
   ·obtain rfl:k=m.Plan.Channels.length:=by omega
    clear om ch;go_wp2;refine bodyPost_end (v:=.tuple #[]) (by simp[results,Tryz.results48,go_sem]) rfl ⟨Fr,by rw[hcc];exact OMr.out,CHr.out,subr,⟨_,rfl⟩,BXr.out⟩
end Sk
