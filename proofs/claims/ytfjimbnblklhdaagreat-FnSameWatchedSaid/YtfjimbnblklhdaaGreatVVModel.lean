/- Contracts of functions of the given program. -/
import Derived.Test.YtfjimbnblklhdaaGreatUARuns
namespace Sk
open Go Go.Proofs Go.RowKit
set_option maxHeartbeats 1000000
set_option linter.unusedVariables false
set_option linter.unusedSimpArgs false
def zH8(n:Int)(p:Channel × Hold):List Int:=if p.1.To=n then (p.2.Lst.length:Int)::p.2.Lst else []
theorem M.vch_t{n:Int}{c:Channel}{x:Hold}(h:c.To=n):zH8 n (c,x)=(x.Lst.length:Int)::x.Lst:=if_pos h
theorem zN1{n:Int}{c:Channel}{x:Hold}(h:¬ c.To=n):zH8 n (c,x) = []:=if_neg h
def zNq(m:Machine):List (Channel × Hold):=m.Plan.Channels.zip m.Holds
theorem M.vz_at{m:Machine}{k:Nat}{c:Channel}{x:Hold}(hc:m.Plan.Channels[k]? = some c)(hx:m.Holds[k]? = some x):(zNq m)[k]? = some (c,x):=by
 unfold zNq;rw[List.getElem?_zip_eq_some];exact⟨hc,hx⟩
def zFk(m:Machine)(n:Nat):List Int:=(m.Cores.getD n zKb).Cells ++ [(m.Cores.getD n zKb).At,zD4 (m.Cores.getD n zKb).Stopped,zGg m.Plan.Slots n m.Tick]
def zBz(m:Machine)(n:Nat):List Int:=zFk m n++(zNq m).flatMap (zH8 n)
theorem zNi{x:Hold}{k s:Int}(h:zG2 x k s=true):x.Lst.length<=4:=by
 obtain⟨h1,h2,_⟩:=zCt.1 h;have h3:=Bo.iff.1 h1;omega
theorem zPf{m:Machine}(h:zC6 m)(n:Int):∀ p∈zNq m,(zH8 n p).length<=5:=by
 intro p hp;obtain⟨k,hk⟩:=List.getElem?_of_mem hp;obtain⟨c,x⟩:=p;unfold zNq at hk;rw[List.getElem?_zip_eq_some] at hk
 have:=zNi (h.hv k x c hk.2 hk.1)
 unfold zH8
 split
 ·simp only[List.length_cons];omega
 ·simp
theorem zNr{m:Machine}(h:zC6 m):(zNq m).length=m.Plan.Channels.length:=by
 unfold zNq;rw[List.length_zip,h.nh,Nat.min_self]
theorem zKv{m:Machine}(h:zC6 m){n:Nat}{c:Core}(hc:m.Cores[n]? = some c):c.Cells.length<=8:=by
 obtain⟨c',p,q,e1,e2,e3,hf,hp,_,_⟩:=h.at (zAc hc);rw[hc] at e1;cases e1;have hb:=zEy hp;simp only[zB4,Bool.and_eq_true,beq_iff_eq] at hf;omega
theorem zN2{m:Machine}(h:zC6 m){n:Nat}(hn:n < m.Cores.length):(zFk m n).length<=11:=by
 obtain⟨c,p,q,e1,e2,e3,hf,hp,g1,_⟩:=h.at hn
 have:=zKv h e1
 unfold zFk;rw[g1];simp only[List.length_append,List.length_cons,List.length_nil];omega
theorem zN3{m:Machine}(h:zC6 m){n:Nat}(hn:n < m.Cores.length)(k:Nat):(zFk m n++((zNq m).take k).flatMap (zH8 n)).length<=60:=by
 have h1:=zN2 h hn;have h2:=zNr h;have h3:=zAv h.pg.set;have h4:∀ l:List (Channel × Hold),(∀ p∈l,(zH8 n p).length<=5)->(l.flatMap (zH8 n)).length<=5*l.length:=by
  intro l
  induction l with
  | nil=>intro _;simp
  | cons p l ih =>
   intro hl;rw[List.flatMap_cons,List.length_append,List.length_cons]
   have:=hl p (List.mem_cons_self ..)
   have:=ih (fun q hq=>hl q (List.mem_cons_of_mem _ hq))
   omega
 have h5:=h4 ((zNq m).take k) (fun p hp=>zPf h n p (List.mem_of_mem_take hp))
 have h6:((zNq m).take k).length<=8:=by rw[List.length_take];omega
 rw[List.length_append];omega
noncomputable def zEn(m:Machine)(n:Int):Bool:=zEh m && zA8 n 0 ((m.Cores.length:Int) - 1)
theorem zCr{m:Machine}{n:Int}:zEn m n=true ↔ zC6 m/\0<=n/\n < m.Cores.length:=by
 unfold zEn;rw[Bool.and_eq_true,zAw,zA6];constructor;·rintro⟨h,h1,h2⟩;exact⟨h,h1,by omega⟩
 ·rintro⟨h,h1,h2⟩;exact⟨h,h1,by omega⟩
def Bm(w:World)(b:Nat)(m:Machine):Prop:=∃ p0 q0 p1 q1 p2 q2 p3 q3 p4 q4 p5 q5,b < w.heap.size /\
  w.cell? ⟨b,0,none⟩=some (.slice p0 m.Plan.Parts.length q0)/\w.cell? ⟨b,1,none⟩=some (.slice p1 m.Plan.Channels.length q1)/\w.cell? ⟨b,2,none⟩=some (.slice p2 m.Plan.Slots.length q2)/\w.cell? ⟨b,3,none⟩=some (.slice p3 m.Programs.length q3)/\w.cell? ⟨b,4,none⟩=some (.slice p4 m.Cores.length q4)/\w.cell? ⟨b,5,none⟩=some (.slice p5 m.Holds.length q5)/\w.cell? ⟨b,6,none⟩=some (.int .i64 m.Tick) /\
  Hid (Rs w (.slice p0 m.Plan.Parts.length q0) m.Plan.Parts)/\Hid (Rs w (.slice p1 m.Plan.Channels.length q1) m.Plan.Channels)/\Hid (Rs w (.slice p2 m.Plan.Slots.length q2) m.Plan.Slots)/\Hid (Rs w (.slice p3 m.Programs.length q3) m.Programs)/\Hid (Rs w (.slice p4 m.Cores.length q4) m.Cores)/\Hid (Rs w (.slice p5 m.Holds.length q5) m.Holds)
theorem Br.bm{w:World}{b:Nat}{m:Machine}{T:TypeId}(h:Br w b m T):Bm w b m:=by
 obtain⟨p0,q0,p1,q1,p2,q2,p3,q3,p4,q4,p5,q5,k,_,r0,r1,r2,r3,r4,r5⟩:=h.openM;exact⟨p0,q0,p1,q1,p2,q2,p3,q3,p4,q4,p5,q5,k.lt,k.cell (j:=0) rfl,k.cell (j:=1) rfl,k.cell (j:=2) rfl,k.cell (j:=3) rfl,k.cell (j:=4) rfl,k.cell (j:=5) rfl,k.cell (j:=6) rfl,r0,r1,r2,r3,r4,r5⟩
theorem Bm.ext{w w':World}{b:Nat}{m:Machine}(h:Bm w b m)(he:Ext w w'):Bm w' b m:=by
 obtain⟨p0,q0,p1,q1,p2,q2,p3,q3,p4,q4,p5,q5,hb,y0,y1,y2,y3,y4,y5,y6,r0,r1,r2,r3,r4,r5⟩:=h;have hz:=he.sz;exact⟨p0,q0,p1,q1,p2,q2,p3,q3,p4,q4,p5,q5,by omega,(zA0 he hb).trans y0,(zA0 he hb).trans y1,(zA0 he hb).trans y2,(zA0 he hb).trans y3,(zA0 he hb).trans y4,(zA0 he hb).trans y5,(zA0 he hb).trans y6,r0.out.ext he,r1.out.ext he,r2.out.ext he,r3.out.ext he,r4.out.ext he,r5.out.ext he⟩
set_option maxHeartbeats 4000000
set_option maxRecDepth 100000
theorem Rs.lit3{w:World}{g:Nat}{a b c:Int}(ha:rng a)(hb:rng b)(hc:rng c)(h:Bk w g [.int .i64 a,.int .i64 b,.int .i64 c] 3):Rs w (.slice (some ⟨g,0,none⟩) 3 3) [a,b,c]:=by
 refine⟨[g],_,3,rfl,by simp,by simp[maxLen],.inr ⟨by simp,g,0,[],rfl,rfl,?_⟩⟩
 refine⟨[.int .i64 a],[],[],⟨rfl,ha,rfl⟩,fun j u hj=>?_,rfl,[.int .i64 b],[],[],⟨rfl,hb,rfl⟩,fun j u hj=>?_,rfl,[.int .i64 c],[],[],⟨rfl,hc,rfl⟩,fun j u hj=>?_,rfl,rfl⟩
 all_goals
  cases j with
  | zero=>cases hj;first|exact h.cell (j:=0) rfl|exact h.cell (j:=1) rfl|exact h.cell (j:=2) rfl
  | succ j=>cases hj
theorem Rs.lit2s{w:World}{g:Nat}{v1 v2:Value}{xs ys:List Int}(h1:Rs w v1 xs)(h2:Rs w v2 ys)(h:Bk w g [v1,v2] 35):Rs w (.slice (some ⟨g,0,none⟩) 2 2) [xs,ys]:=by
 obtain⟨F1,h1⟩:=h1;obtain⟨F2,h2⟩:=h2;refine⟨g::(F1++(F2 ++ [])),_,2,rfl,by simp,by simp[maxLen],.inr ⟨by simp,g,0,_,rfl,rfl,?_⟩⟩
 refine⟨[v1],F1,_,⟨_,rfl,h1⟩,fun j u hj=>?_,rfl,[v2],F2,[],⟨_,rfl,h2⟩,fun j u hj=>?_,rfl,rfl⟩
 ·cases j with
  | zero=>cases hj;exact h.cell (j:=0) rfl
  | succ j=>cases hj
 ·cases j with
  | zero=>cases hj;exact h.cell (j:=1) rfl
  | succ j=>cases hj
theorem zMi(b:Nat)(m:Machine)(N:Nat)(w:World)(h:Bm w b m)(hv:zC6 m)(hN:N < m.Cores.length) :
  Calls Tryz.prog 31 #[.pointer (some ⟨b,0,none⟩),.int .i64 N] w fun e w' => ∃ a,e = .returned (.slice a (zBz m N).length (zBz m N).length)/\Os w.heap.size w' (.slice a (zBz m N).length (zBz m N).length) (zBz m N)/\Ext w w':=by
 obtain⟨p0,q0,p1,q1,p2,q2,p3,q3,p4,q4,p5,q5,ltb,y0,y1,y2,y3,y4,y5,y6,r0,r1,r2,r3,r4,r5⟩:=h;have HV:=zh hv;have htk:=hv.tick;have hchn:=zAv hv.pg.set;obtain⟨kc,pl,q,ek,ep,eq,hfit,hprv,gk,gp⟩:=hv.at hN;obtain⟨kb,ko,kc',ca,cc,rfl,hcb,hk',kc0,kc1,kc2,hr1,rc,_,_⟩:=r4.out.atCore N hN;obtain rfl:kc'=kc:=Option.some.inj (hk'.out.symm.trans ek);have RC:=zh rc.out;have hcl:=zKv hv ek;obtain⟨t,hto⟩:∃ t,zGg m.Plan.Slots N m.Tick=t:=⟨_,rfl⟩;have htb:0<=t/\t<=1000000:=by rw[<- hto];exact zJ9 (by omega)
 have hr3:rng t:=⟨by omega,by omega⟩
 have hr2:rng (zD4 kc'.Stopped):=zJf _;have HT:=zh hto;have hhd:zFk m N=kc'.Cells ++ [kc'.At,zD4 kc'.Stopped,t]:=by unfold zFk;rw[gk,hto]
 obtain⟨hdl,hhe⟩:∃ hdl,zFk m N=hdl:=⟨_,rfl⟩;have HFL:Hid ([kc'.Cells,[kc'.At,zD4 kc'.Stopped,t]].flatten=hdl):=zh (by rw[<- hhe,hhd];simp)
 have HLN:Hid ([kc'.Cells,[kc'.At,zD4 kc'.Stopped,t]].flatten.length=kc'.Cells.length+3):=zh (by simp)
 have HL2:Hid (∀ xs ∈ [kc'.Cells,[kc'.At,zD4 kc'.Stopped,t]],xs.length<=1000):=zh (by
  intro xs hx;rcases List.mem_cons.1 hx with rfl|hx
  ·omega
  ·rw[List.mem_singleton.1 hx];simp)
 have HVL:Hid (∀ k,(hdl++((zNq m).take k).flatMap (zH8 N)).length<=60):=zh (fun k=>by rw[<- hhe];exact zN3 hv hN k)
 have HVN:Hid (zBz m N=hdl++(zNq m).flatMap (zH8 N)):=zh (by unfold zBz;rw[hhe])
 have HVZ:=zh (zNr hv);have HSL:=zh (zNd.of hv.ssv);have HNH:=zh hv.nh;clear hv hto hhd hhe gk gp hfit hprv hk' rc ek ep eq;go_enter Tryz.func31,Tryz.ntmps31;go_upto_region 2 with (fail)
 refine zA1 (fun W=>Ext w W/\Bk W w.heap.size [.slice ca kc'.Cells.length cc,.int .i64 kc'.At,.bool kc'.Stopped] 56) ⟨(zr _).alloc _,Bk.new _ _ _⟩ ?_
 rintro w1 ⟨x1,kcb⟩;have X1:=zh x1;obtain⟨c0,c1,c2⟩:=Bk.k3 kcb;have ltC:=kcb.lt;have hsz1:=x1.sz;have ltb1:b < w1.heap.size:=by omega
 have b2:=(zA0 x1 ltb).trans y2;have b6:=(zA0 x1 ltb).trans y6;have R2:=zh (r2.out.ext x1);replace RC:=zh (RC.out.ext x1);clear x1 kcb kc0 kc1 kc2;refine zAp rfl 21 [(16,[16]),(17,[17]),(18,[18]),(19,[19]),(20,[20]),(21,[21]),(22,[22]),(23,[23]),(24,[24]),(25,[25]),(26,[26]),(27,[27]),(28,[28]),(29,[29]),(30,[30]),(31,[31]),(32,[32]),(33,[33]),(34,[34]),(35,[35,34]),(36,[36])]
  (fun i vs u F=>match i,vs with
   | 0,[y]=>y = .pointer (some ⟨w.heap.size,0,none⟩)
   | 1,[y]=>y = .slice ca kc'.Cells.length cc
   | 2,[y]=>y = .pointer (some ⟨w.heap.size,1,none⟩)
   | 3,[y]=>y = .int .i64 kc'.At
   | 4,[y]=>y = .pointer (some ⟨w.heap.size,2,none⟩)
   | 5,[y]=>y = .bool kc'.Stopped
   | 6,[y]=>y = .int .i64 (zD4 kc'.Stopped)
   | 7,[y]=>y = .pointer (some ⟨b,0,none⟩)
   | 8,[y]=>y = .pointer (some ⟨b,0,none⟩)
   | 9,[y]=>y = .pointer (some ⟨b,0,none⟩)
   | 10,[y]=>y = .pointer (some ⟨b,2,none⟩)
   | 11,[y]=>y = .slice p2 m.Plan.Slots.length q2
   | 12,[y]=>y = .int .i64 N
   | 13,[y]=>y = .pointer (some ⟨b,0,none⟩)
   | 14,[y]=>y = .pointer (some ⟨b,0,none⟩)
   | 15,[y]=>y = .pointer (some ⟨b,6,none⟩)
   | 16,[y]=>y = .int .i64 m.Tick
   | 17,[y]=>y = .int .i64 t
   | 18,[y]=>Rs u y [kc'.At,zD4 kc'.Stopped,t]
   | 19,[y,z]=>Rs u y [kc'.Cells,[kc'.At,zD4 kc'.Stopped,t]]
   | 20,[y]=>Oa (α:=Int) 3 w1.heap.size u y hdl []
   | _,_=>False) (by decide +kernel) ?_ ?_
 ·intro i hi oo hoo U u F hE hd hap;have j0:=(zA0 hE ltC).trans c0;have j1:=(zA0 hE ltC).trans c1;have j2:=(zA0 hE ltC).trans c2;have jb2:=(zA0 hE ltb1).trans b2;have jb6:=(zA0 hE ltb1).trans b6;rcases(by omega:i=0\/i=1\/i=2\/i=3\/i=4\/i=5\/i=6\/i=7\/i=8\/i=9\/i=10\/i=11\/i=12\/i=13\/i=14\/i=15\/i=16\/i=17\/i=18\/i=19\/i=20) with rfl|rfl|rfl|rfl|rfl|rfl|rfl|rfl|rfl|rfl|rfl|rfl|rfl|rfl|rfl|rfl|rfl|rfl|rfl|rfl|rfl
  ·cases hoo;simp only[fr];intro K hK;go_wp2;exact zk hK _ (fun _ _=>rfl)
  ·cases hoo;simp only[fr];obtain⟨⟨d0,-⟩,-⟩:=fa [0] (by decide +kernel) hd
   simp only[fu] at d0;try simp only[d0]
   clear d0;intro K hK;go_wp2;exact zk hK _ (fun _ _=>rfl)
  ·cases hoo;simp only[fr];intro K hK;go_wp2;exact zk hK _ (fun _ _=>rfl)
  ·cases hoo;simp only[fr];obtain⟨⟨d2,-⟩,-⟩:=fa [2] (by decide +kernel) hd
   simp only[fu] at d2;try simp only[d2]
   clear d2;intro K hK;go_wp2;exact zk hK _ (fun _ _=>rfl)
  ·cases hoo;simp only[fr];intro K hK;go_wp2;exact zk hK _ (fun _ _=>rfl)
  ·cases hoo;simp only[fr];obtain⟨⟨d4,-⟩,-⟩:=fa [4] (by decide +kernel) hd
   simp only[fu] at d4;try simp only[d4]
   clear d4;intro K hK;go_wp2;exact zk hK _ (fun _ _=>rfl)
  ·cases hoo;simp only[fr];obtain⟨⟨d4,-⟩,⟨d5,-⟩,-⟩:=fa [4,5] (by decide +kernel) hd
   simp only[fu] at d4 d5;try simp only[d4,d5]
   intro K hK;go_wp2_with (go_at_call 39;refine(zLm _ _).mono ?_;rintro e w3 ⟨rfl,rfl⟩)
   exact zk hK _ (fun _ _=>rfl)
  ·cases hoo;simp only[fr];intro K hK;go_wp2;exact zk hK _ (fun _ _=>rfl)
  ·cases hoo;simp only[fr];obtain⟨⟨d7,-⟩,-⟩:=fa [7] (by decide +kernel) hd
   simp only[fu] at d7;try simp only[d7]
   clear d7;intro K hK;go_wp2;exact zk hK _ (fun _ _=>rfl)
  ·cases hoo;simp only[fr];obtain⟨⟨d7,-⟩,⟨d8,-⟩,-⟩:=fa [7,8] (by decide +kernel) hd
   simp only[fu] at d7 d8;try simp only[d7,d8]
   clear d7 d8;intro K hK;go_wp2;exact zk hK _ (fun _ _=>rfl)
  ·cases hoo;simp only[fr];obtain⟨⟨d7,-⟩,⟨d8,-⟩,⟨d9,-⟩,-⟩:=fa [7,8,9] (by decide +kernel) hd
   simp only[fu] at d7 d8 d9;try simp only[d7,d8,d9]
   clear d7 d8 d9;intro K hK;go_wp2;exact zk hK _ (fun _ _=>rfl)
  ·cases hoo;simp only[fr];obtain⟨⟨d7,-⟩,⟨d8,-⟩,⟨d9,-⟩,⟨d10,-⟩,-⟩:=fa [7,8,9,10] (by decide +kernel) hd
   simp only[fu] at d7 d8 d9 d10;try simp only[d7,d8,d9,d10]
   clear d7 d8 d9 d10;intro K hK;go_wp2;exact zk hK _ (fun _ _=>rfl)
  iterate 2 (·cases hoo;simp only[fr];intro K hK;go_wp2;exact zk hK _ (fun _ _=>rfl))
  ·cases hoo;simp only[fr];obtain⟨⟨d13,-⟩,-⟩:=fa [13] (by decide +kernel) hd
   simp only[fu] at d13;try simp only[d13]
   clear d13;intro K hK;go_wp2;exact zk hK _ (fun _ _=>rfl)
  ·cases hoo;simp only[fr];obtain⟨⟨d13,-⟩,⟨d14,-⟩,-⟩:=fa [13,14] (by decide +kernel) hd
   simp only[fu] at d13 d14;try simp only[d13,d14]
   clear d13 d14;intro K hK;go_wp2;exact zk hK _ (fun _ _=>rfl)
  ·cases hoo;simp only[fr];obtain⟨⟨d13,-⟩,⟨d14,-⟩,⟨d15,-⟩,-⟩:=fa [13,14,15] (by decide +kernel) hd
   simp only[fu] at d13 d14 d15;try simp only[d13,d14,d15]
   clear d13 d14 d15;intro K hK;go_wp2;exact zk hK _ (fun _ _=>rfl)
  ·cases hoo;simp only[fr];obtain⟨⟨d4,-⟩,⟨d5,-⟩,⟨d6,-⟩,⟨d7,-⟩,⟨d8,-⟩,⟨d9,-⟩,⟨d10,-⟩,⟨d11,-⟩,⟨d12,-⟩,⟨d13,-⟩,⟨d14,-⟩,⟨d15,-⟩,⟨d16,-⟩,-⟩:=fa [4,5,6,7,8,9,10,11,12,13,14,15,16] (by decide +kernel) hd
   simp only[fu] at d4 d5 d6 d7 d8 d9 d10 d11 d12 d13 d14 d15 d16;try simp only[d4,d5,d6,d7,d8,d9,d10,d11,d12,d13,d14,d15,d16]
   intro K hK;go_wp2_with (go_at_call 67;refine(zNv _ m.Plan.Slots N m.Tick _ (R2.out.ext hE) HSL.out (by omega) (by omega)).mono ?_;rintro e w3 ⟨rfl,he⟩;rw[HT.out])
   exact hK _ [] _ he (fun _ _=>rfl) (Own.nil _ _)
  ·cases hoo;simp only[fr];obtain⟨⟨d2,-⟩,⟨d3,-⟩,⟨d4,-⟩,⟨d5,-⟩,⟨d6,-⟩,⟨d7,-⟩,⟨d8,-⟩,⟨d9,-⟩,⟨d10,-⟩,⟨d11,-⟩,⟨d12,-⟩,⟨d13,-⟩,⟨d14,-⟩,⟨d15,-⟩,⟨d16,-⟩,⟨d17,-⟩,-⟩:=fa [2,3,4,5,6,7,8,9,10,11,12,13,14,15,16,17] (by decide +kernel) hd
   simp only[fu] at d2 d3 d4 d5 d6 d7 d8 d9 d10 d11 d12 d13 d14 d15 d16 d17;try simp only[d2,d3,d4,d5,d6,d7,d8,d9,d10,d11,d12,d13,d14,d15,d16,d17]
   intro K hK;go_wp2;have b1:=Bk.new u [.int .i64 kc'.At,.int .i64 (zD4 kc'.Stopped),.int .i64 t] 3;exact hK _ [] _ ((zr u).alloc _) (fun _ h=>(Rs.lit3 hr1 hr2 hr3 b1).ext h) (Own.nil _ _)
  ·cases hoo;simp only[fr];obtain⟨⟨d0,-⟩,⟨d1,-⟩,⟨d2,-⟩,⟨d3,-⟩,⟨d4,-⟩,⟨d5,-⟩,⟨d6,-⟩,⟨d7,-⟩,⟨d8,-⟩,⟨d9,-⟩,⟨d10,-⟩,⟨d11,-⟩,⟨d12,-⟩,⟨d13,-⟩,⟨d14,-⟩,⟨d15,-⟩,⟨d16,-⟩,⟨d17,-⟩,⟨d18,o18⟩,-⟩:=fa [0,1,2,3,4,5,6,7,8,9,10,11,12,13,14,15,16,17,18] (by decide +kernel) hd
   simp only[fu] at d0 d1 d2 d3 d4 d5 d6 d7 d8 d9 d10 d11 d12 d13 d14 d15 d16 d17 d18;try simp only[d0,d1,d2,d3,d4,d5,d6,d7,d8,d9,d10,d11,d12,d13,d14,d15,d16,d17]
   have dq:=d18;obtain⟨ax,cx,e18,_⟩:=d18.form;simp only[e18];rw[e18] at dq;intro K hK;go_wp2;have b1:=Bk.new u [.slice ca kc'.Cells.length cc,.slice ax 3 cx] 35;exact hK _ [] _ ((zr u).alloc _) (fun _ h=>(Rs.lit2s (RC.out.ext (hE.alloc _)) (dq.ext ((zr u).alloc _)) b1).ext h) (Own.nil _ _)
  ·cases hoo;simp only[fr];obtain⟨⟨d0,-⟩,⟨d1,-⟩,⟨d2,-⟩,⟨d3,-⟩,⟨d4,-⟩,⟨d5,-⟩,⟨d6,-⟩,⟨d7,-⟩,⟨d8,-⟩,⟨d9,-⟩,⟨d10,-⟩,⟨d11,-⟩,⟨d12,-⟩,⟨d13,-⟩,⟨d14,-⟩,⟨d15,-⟩,⟨d16,-⟩,⟨d17,-⟩,⟨d18,o18⟩,⟨d19,o19⟩,-⟩:=fa [0,1,2,3,4,5,6,7,8,9,10,11,12,13,14,15,16,17,18,19] (by decide +kernel) hd
   simp only[fu] at d0 d1 d2 d3 d4 d5 d6 d7 d8 d9 d10 d11 d12 d13 d14 d15 d16 d17 d18 d19;try simp only[d0,d1,d2,d3,d4,d5,d6,d7,d8,d9,d10,d11,d12,d13,d14,d15,d16,d17]
   have dq:=d19;obtain⟨ax,cx,e19,_⟩:=d19.form;simp only[e19];rw[e19] at dq;intro K hK;go_wp2_with (go_at_call 66;refine(zKm _ _ _ dq (by simp) HL2.out).mono ?_;rintro e w3 ⟨a3,c3,rfl,ho3,he⟩)
   exact hK _ [] _ he (fun _ h=>by have h9:=(ho3.mono (L':=w1.heap.size) hE.sz).ext h;rw[HLN.out,HFL.out] at h9;exact h9) (Own.nil _ _)
 ·intro oo hoo U u G hE hφ hap;cases hoo;simp only[fr];obtain⟨⟨d0,-⟩,⟨d1,-⟩,⟨d2,-⟩,⟨d3,-⟩,⟨d4,-⟩,⟨d5,-⟩,⟨d6,-⟩,⟨d7,-⟩,⟨d8,-⟩,⟨d9,-⟩,⟨d10,-⟩,⟨d11,-⟩,⟨d12,-⟩,⟨d13,-⟩,⟨d14,-⟩,⟨d15,-⟩,⟨d16,-⟩,⟨d17,-⟩,⟨d18,o18⟩,⟨d19,o19⟩,⟨d20,o20⟩,-⟩:=fb [0,1,2,3,4,5,6,7,8,9,10,11,12,13,14,15,16,17,18,19,20] (by decide +kernel) hφ
  simp only[fu] at d0 d1 d2 d3 d4 d5 d6 d7 d8 d9 d10 d11 d12 d13 d14 d15 d16 d17 d18 d19 d20;try simp only[d0,d1,d2,d3,d4,d5,d6,d7,d8,d9,d10,d11,d12,d13,d14,d15,d16,d17]
  obtain⟨a3,c3,e20,hl3⟩:=d20.form;rw[e20] at d20;simp only[e20];have HO:=zh d20;have HEu:=zh hE;have HE2:=zh (X1.out.tr hE);have HO2:=zh (d20.mono hsz1);have f1:=(zA0 HE2.out ltb).trans y1;clear hφ hap hE d20 e20 HO HEu d0 d1 d2 d3 d4 d5 d6 d7 d8 d9 d10 d11 d12 d13 d14 d15 d16 d17 d18 d19;go_wp2;clear c0 c1 c2 b2 b6 y0 y2 y3 y4 y6 hl3;go_loopw [6,43] (fun out i wr => ∃ (k:Nat) (ao:Option Addr) (no co:Nat),k<=m.Plan.Channels.length/\i = .int .i64 k/\out = .slice ao no co/\Oa (α:=Int) 3 w.heap.size wr (.slice ao no co) (hdl++((zNq m).take k).flatMap (zH8 N)) []/\Ext w wr) (fun _ i _=>m.Plan.Channels.length - (intOf i).toNat)
  case atStart=>exact⟨0,_,_,_,Nat.zero_le _,rfl,rfl,by simpa using HO2.out,HE2.out⟩
  case round =>
   clear HO2 HE2 f1;obtain⟨k,ao,no,co,hk,rfl,rfl,ho,hq⟩:=hrel;have HO:=zh ho;have HQ:=zh hq;have hsz:=hq.sz;have hb2:=HVL.out k;clear ho hq;obtain⟨wo,rfl⟩:∃ wo:World,wo=wr:=⟨_,rfl⟩;by_cases hkt:k < m.Plan.Channels.length
   ·obtain⟨hb,hoff,ch,rfl,hhb,hch,hc0,hc1,hc2,hc3,_,_,_,_,_⟩:=r1.out.atChannel k hkt;obtain⟨gb,go,x,xa,xc,rfl,hgb,hx,gx0,hxs,hxl,_⟩:=r5.out.atHold k (by rw[HNH.out];exact hkt)
    have HN:=zh (zBm (zH8 N) (M.vz_at hch.out hx.out));have hx4:=zNi (HV.out.hv k x ch hx.out hch.out);have hkh:k < m.Holds.length:=by rw[HNH.out];exact hkt
    have i0:=(zA0 HQ.out hhb).trans hc0;have i1:=(zA0 HQ.out hhb).trans hc1;have i2:=(zA0 HQ.out hhb).trans hc2;have i3:=(zA0 HQ.out hhb).trans hc3;clear hc0 hc1 hc2 hc3;go_upto_region 6 with (fail)
    refine zA1 (fun W=>Ext wo W/\Bk W wo.heap.size [.int .i64 ch.Kind,.int .i64 ch.From,.int .i64 ch.To,.int .i64 ch.Size] 62) ⟨(zr _).alloc _,Bk.new _ _ _⟩ ?_
    rintro W1 ⟨e1,kC⟩;have g2:=kC.cell (j:=2) rfl;have ltC1:=kC.lt;have HX:=zh (HQ.out.tr e1);have HO1:=zh (HO.out.ext e1);have hszX:=HX.out.sz;clear e1 kC i0 i1 i2 i3 HO;by_cases hto:ch.To=(N:Int)
    ·have hto1:(ch.To == (N:Int))=true:=by simpa using hto
     rw[M.vch_t hto] at HN;have z5:=(zA0 HX.out ltb).trans y5;have gx1:=(zA0 HX.out hgb).trans gx0;have ltbX:b < W1.heap.size:=by omega
     have hgbX:gb < W1.heap.size:=by omega
     clear hto;go_upto_region 8 with (at_builtin;refine zC4 (α:=Int) rfl _ _ 35 rfl 3 Tryz.underlying35 zCo (L:=w.heap.size) (v:=.slice ao no co) (ys:=[(x.Lst.length:Int)]) rfl (HO1.out.ext ((zr _).alloc _)) rfl (Os.lit1 W1 _ ⟨by omega,by omega⟩).rs (by simp only[List.length_append,List.length_cons,List.length_nil] at hb2 ⊢;omega) (Nat.le_trans hszX ((zr W1).alloc _).sz) ?_;intro v5 w5 hO5 hg5;have HO5:=zh hO5;have HE5:=zh ((HX.out.alloc (.cells #[.int .i64 (x.Lst.length:Nat)] 3)).grown hg5 (fun k hk=>HO1.out.own k hk));obtain⟨p5,n5,q5,rfl⟩:=Oa.sh0 hO5;clear hO5 hg5)
     have z55:=(zA0 HE5.out ltb).trans y5;have gx5:=(zA0 HE5.out hgb).trans gx0;have hsz5:=HE5.out.sz;clear z5 gx1 HO1 HX g2 ltC1 ltbX hgbX;go_wp2_with (at_builtin;refine zC4 (α:=Int) rfl _ _ 35 rfl 3 Tryz.underlying35 zCo (L:=w.heap.size) (v:=.slice p5 n5 q5) (ys:=x.Lst) rfl HO5.out rfl (hxs.out.ext HE5.out) (by simp only[List.length_append,List.length_cons,List.length_nil] at hb2 ⊢;omega) hsz5 ?_;intro v6 w6 hO6 hg6;have HO6:=zh hO6;have HE6:=zh (HE5.out.grown hg6 (fun k hk=>HO5.out.own k hk));obtain⟨p6,n6,q6,rfl⟩:=Oa.sh0 hO6;clear hO6 hg6)
     go_roundw
     case rel=>exact⟨k+1,_,_,_,by omega,by go_num,rfl,by rw[HN.out];simpa using HO6.out,HE6.out⟩
     case measure=>simp[intOf];omega
    ·have hto1:(ch.To == (N:Int))=false:=by simpa using hto
     rw[zN1 hto] at HN;clear hto;go_wp2;go_roundw
     case rel=>exact⟨k+1,_,_,_,by omega,by go_num,rfl,by rw[HN.out];simpa using HO1.out,HX.out⟩
     case measure=>simp[intOf];omega
   ·obtain rfl:k=m.Plan.Channels.length:=by omega
    have HO3:Hid (Oa (α:=Int) 3 w.heap.size wo (.slice ao no co) (zBz m N) []):=zh (by have:=HO.out;rw[<- HVZ.out,List.take_length] at this;rwa [HVN.out])
    obtain⟨_,_,hno,_⟩:=HO3.out.form;cases hno;have hcap:=HO3.out.cap;go_wp2_with (go_at_call 40;refine(zD0 _ (zBz m N) _ ao co rfl hcap.1 hcap.2).mono ?_;rintro e w3 ⟨rfl,rfl⟩)
    go_ret;exact⟨_,rfl,(HO3.out.os (Own.nil _ _)).clip,HQ.out⟩
theorem zBn(v:Value)(m:Machine)(n:Int)(w:World)(h:Rv w v m) :
  Calls Tryz.prog 16 #[v,.int .i64 n] w fun e w'=>e = .returned (.bool (zEn m n))/\Ext w w':=by
 have H:=zh h;obtain⟨a0,c0,a1,c1,a2,c2,a3,c3,a4,c4,a5,c5,rfl,rt,h0,l0,h1,l1,h2,l2,h3,l3,h4,l4,h5,l5⟩:=h.openMachine;clear h h0 h1 h2 h3 h4 h5;go_enter Tryz.func16,Tryz.ntmps16;go_upto_region 1 with (fail)
 refine zA1 (fun W=>Ext w W/\Bk W w.heap.size [.slice a0 m.Plan.Parts.length c0,.slice a1 m.Plan.Channels.length c1,.slice a2 m.Plan.Slots.length c2,.slice a3 m.Programs.length c3,.slice a4 m.Cores.length c4,.slice a5 m.Holds.length c5,.int .i64 m.Tick] 32) ⟨(zr _).alloc _,Bk.new _ _ _⟩ ?_
 rintro W ⟨e1,kA⟩;have HE0:=zh e1;obtain⟨d0,d1,d2,d3,d4,d5,d6⟩:=Bk.k7 kA;have KA:=zh kA;clear e1 kA;cases g:zEh m
 ·go_wp2_with (go_at_call 29;refine(zAs _ m _ (H.out.ext HE0.out)).mono ?_;rintro e w0 ⟨rfl,he⟩;rw[g];have E:=zh (HE0.out.tr he);have KAx:=KA.out.ext he;have ltA:=KAx.lt;obtain⟨x0,x1,x2,x3,x4,x5,x6⟩:=Bk.k7 KAx;  clear he KAx)
  go_ret;exact⟨zA2 (by unfold zEn;rw[g];rfl),E.out⟩
 cases g1:zA8 n 0 ((m.Cores.length:Int) - 1)
 all_goals
  go_wp2_with (first
   | (go_at_call 29;refine(zAs _ m _ (H.out.ext HE0.out)).mono ?_;rintro e w0 ⟨rfl,he⟩;rw[g];have E:=zh (HE0.out.tr he);have KAx:=KA.out.ext he;have ltA:=KAx.lt;obtain⟨x0,x1,x2,x3,x4,x5,x6⟩:=Bk.k7 KAx;  clear he KAx)
   | (go_at_call 37;refine(zAm _ _ _ _).mono ?_;rintro e w9 ⟨rfl,rfl⟩;rw[g1]))
  go_ret;exact⟨zA2 (by unfold zEn;rw[g,g1];rfl),E.out⟩
theorem Om.ge{α:Type}[GT α]{L:Nat}{w:World}{b o:Nat}{x : α}{F:List Nat}(h:Om L w b o x F):L<=b/\∀ k∈F,L<=k:=by
 obtain⟨cs,h1,h2,h3⟩:=h;exact⟨(h3.2 b (List.mem_cons_self ..)).1,fun k hk=>(h3.2 k (List.mem_cons_of_mem _ hk)).1⟩
set_option maxHeartbeats 1000000
noncomputable def zD8(a b:Machine)(n:Int):Bool:=(zEn a n && zEn b n) && Eqb (zBz a n.toNat) (zBz b n.toNat)
set_option maxHeartbeats 4000000
theorem zLl(v v2:Value)(m p:Machine)(n:Int)(w:World)(h:Rv w v m)(hk:Rv w v2 p) :
  Calls Tryz.prog 12 #[v,v2,.int .i64 n] w fun e w'=>e = .returned (.bool (zD8 m p n))/\Ext w w':=by
 have H:=zh h;have KP:=zh hk;obtain⟨a0,c0,a1,c1,a2,c2,a3,c3,a4,c4,a5,c5,rfl,rt,-,l0,-,l1,-,l2,-,l3,-,l4,-,l5⟩:=h.openMachine;obtain⟨f0,h0,f1,h1,f2,h2,f3,h3,f4,h4,f5,h5,rfl,rt',-,l0',-,l1',-,l2',-,l3',-,l4',-,l5'⟩:=hk.openMachine;clear h hk;go_enter Tryz.func12,Tryz.ntmps12;go_upto_region 1 with (fail)
 refine zA1 (fun W=>Ext w W/\Bk W w.heap.size [.slice a0 m.Plan.Parts.length c0,.slice a1 m.Plan.Channels.length c1,.slice a2 m.Plan.Slots.length c2,.slice a3 m.Programs.length c3,.slice a4 m.Cores.length c4,.slice a5 m.Holds.length c5,.int .i64 m.Tick] 32/\Bk W (w.heap.size+1) [.slice f0 p.Plan.Parts.length h0,.slice f1 p.Plan.Channels.length h1,.slice f2 p.Plan.Slots.length h2,.slice f3 p.Programs.length h3,.slice f4 p.Cores.length h4,.slice f5 p.Holds.length h5,.int .i64 p.Tick] 32) ⟨((zr _).alloc _).alloc _,(Bk.new _ _ _).ext ((zr _).alloc _),Bk.new1 _ _ _ _⟩ ?_
 rintro W ⟨e1,kA,kB⟩;have HE0:=zh e1;have KA:=zh kA;have KB:=zh kB;have x0:=kA.cell (j:=0) rfl;have y0:=kB.cell (j:=0) rfl;have x1:=kA.cell (j:=1) rfl;have y1:=kB.cell (j:=1) rfl;have x2:=kA.cell (j:=2) rfl;have y2:=kB.cell (j:=2) rfl;have x3:=kA.cell (j:=3) rfl;have y3:=kB.cell (j:=3) rfl;have x4:=kA.cell (j:=4) rfl;have y4:=kB.cell (j:=4) rfl;have x5:=kA.cell (j:=5) rfl;have y5:=kB.cell (j:=5) rfl;have x6:=kA.cell (j:=6) rfl;have y6:=kB.cell (j:=6) rfl;have ltA:=kA.lt;have ltB:=kB.lt;clear e1 kA kB;cases s1:zEn m n
 ·go_wp2_with (go_at_call 16;refine(zBn _ m n _ (H.out.ext HE0.out)).mono ?_;rintro e ws1 ⟨rfl,he⟩;rw[s1];replace HE0:=zh (HE0.out.tr he);replace KA:=zh (KA.out.ext he);replace KB:=zh (KB.out.ext he);have x0:=KA.out.cell (j:=0) rfl;have y0:=KB.out.cell (j:=0) rfl;have x1:=KA.out.cell (j:=1) rfl;have y1:=KB.out.cell (j:=1) rfl;have x2:=KA.out.cell (j:=2) rfl;have y2:=KB.out.cell (j:=2) rfl;have x3:=KA.out.cell (j:=3) rfl;have y3:=KB.out.cell (j:=3) rfl;have x4:=KA.out.cell (j:=4) rfl;have y4:=KB.out.cell (j:=4) rfl;have x5:=KA.out.cell (j:=5) rfl;have y5:=KB.out.cell (j:=5) rfl;have x6:=KA.out.cell (j:=6) rfl;have y6:=KB.out.cell (j:=6) rfl;have ltA:=KA.out.lt;have ltB:=KB.out.lt;clear he)
  go_ret;exact⟨zA2 (by unfold zD8;rw[s1];rfl),HE0.out⟩
 cases s2:zEn p n
 ·go_wp2_with (first
   | (go_at_call 16;have _t:=gAd;refine(zBn _ p n _ (KP.out.ext HE0.out)).mono ?_;rintro e ws2 ⟨rfl,he⟩;rw[s2];replace HE0:=zh (HE0.out.tr he);replace KA:=zh (KA.out.ext he);replace KB:=zh (KB.out.ext he);have x0:=KA.out.cell (j:=0) rfl;have y0:=KB.out.cell (j:=0) rfl;have x1:=KA.out.cell (j:=1) rfl;have y1:=KB.out.cell (j:=1) rfl;have x2:=KA.out.cell (j:=2) rfl;have y2:=KB.out.cell (j:=2) rfl;have x3:=KA.out.cell (j:=3) rfl;have y3:=KB.out.cell (j:=3) rfl;have x4:=KA.out.cell (j:=4) rfl;have y4:=KB.out.cell (j:=4) rfl;have x5:=KA.out.cell (j:=5) rfl;have y5:=KB.out.cell (j:=5) rfl;have x6:=KA.out.cell (j:=6) rfl;have y6:=KB.out.cell (j:=6) rfl;have ltA:=KA.out.lt;have ltB:=KB.out.lt;clear he)
   | (go_at_call 16;refine(zBn _ m n _ (H.out.ext HE0.out)).mono ?_;rintro e ws1 ⟨rfl,he⟩;rw[s1];replace HE0:=zh (HE0.out.tr he);replace KA:=zh (KA.out.ext he);replace KB:=zh (KB.out.ext he);have x0:=KA.out.cell (j:=0) rfl;have y0:=KB.out.cell (j:=0) rfl;have x1:=KA.out.cell (j:=1) rfl;have y1:=KB.out.cell (j:=1) rfl;have x2:=KA.out.cell (j:=2) rfl;have y2:=KB.out.cell (j:=2) rfl;have x3:=KA.out.cell (j:=3) rfl;have y3:=KB.out.cell (j:=3) rfl;have x4:=KA.out.cell (j:=4) rfl;have y4:=KB.out.cell (j:=4) rfl;have x5:=KA.out.cell (j:=5) rfl;have y5:=KB.out.cell (j:=5) rfl;have x6:=KA.out.cell (j:=6) rfl;have y6:=KB.out.cell (j:=6) rfl;have ltA:=KA.out.lt;have ltB:=KB.out.lt;clear he;have gAd:=trivial))
  go_ret;exact⟨zA2 (by unfold zD8;rw[s1,s2];rfl),HE0.out⟩
 obtain⟨hv1,b0,hn1⟩:=zCr.1 s1;obtain⟨hv2,_,hn2⟩:=zCr.1 s2;obtain⟨N,rfl⟩:∃ N:Nat,n=N:=⟨n.toNat,by omega⟩
 replace hn1:N < m.Cores.length:=by omega
 replace hn2:N < p.Cores.length:=by omega
 have HV1:=zh hv1;have HV2:=zh hv2;have hres:Hid (zD8 m p N=Eqb (zBz m N) (zBz p N)):=zh (by unfold zD8;rw[s1,s2];rfl)
 go_wp2_with (first
   | (go_at_call 17;refine(zB2 _ _ _ _ _ (HR1.out.ext E2.out) HR2.out).mono ?_;rintro e w4 ⟨rfl,he⟩;replace HE0:=zh (((HE0.out.tr E1.out).tr E2.out).tr he);clear he)
   | (go_at_call 31;have _t:=E1;refine(zMi (w.heap.size+1) p N _ ((Br.start KP.out KB.out HE0.out (Nat.le_succ _)).bm.ext E1.out) HV2.out hn2).mono ?_;rintro e w2 ⟨a2,rfl,ho,he⟩;have HR2:=zh ho.rs;have E2:=zh he;clear ho he)
   | (go_at_call 31;have _t:=gBd;refine(zMi w.heap.size m N _ ((Br.start H.out KA.out HE0.out (Nat.le_refl _)).bm) HV1.out hn1).mono ?_;rintro e w1 ⟨a1,rfl,ho,he⟩;have HR1:=zh ho.rs;have E1:=zh he;clear ho he)
   | (go_at_call 16;have _t:=gAd;refine(zBn _ p N _ (KP.out.ext HE0.out)).mono ?_;rintro e ws2 ⟨rfl,he⟩;rw[s2];replace HE0:=zh (HE0.out.tr he);replace KA:=zh (KA.out.ext he);replace KB:=zh (KB.out.ext he);have x0:=KA.out.cell (j:=0) rfl;have y0:=KB.out.cell (j:=0) rfl;have x1:=KA.out.cell (j:=1) rfl;have y1:=KB.out.cell (j:=1) rfl;have x2:=KA.out.cell (j:=2) rfl;have y2:=KB.out.cell (j:=2) rfl;have x3:=KA.out.cell (j:=3) rfl;have y3:=KB.out.cell (j:=3) rfl;have x4:=KA.out.cell (j:=4) rfl;have y4:=KB.out.cell (j:=4) rfl;have x5:=KA.out.cell (j:=5) rfl;have y5:=KB.out.cell (j:=5) rfl;have x6:=KA.out.cell (j:=6) rfl;have y6:=KB.out.cell (j:=6) rfl;have ltA:=KA.out.lt;have ltB:=KB.out.lt;clear he;have gBd:=trivial)
   | (go_at_call 16;refine(zBn _ m N _ (H.out.ext HE0.out)).mono ?_;rintro e ws1 ⟨rfl,he⟩;rw[s1];replace HE0:=zh (HE0.out.tr he);replace KA:=zh (KA.out.ext he);replace KB:=zh (KB.out.ext he);have x0:=KA.out.cell (j:=0) rfl;have y0:=KB.out.cell (j:=0) rfl;have x1:=KA.out.cell (j:=1) rfl;have y1:=KB.out.cell (j:=1) rfl;have x2:=KA.out.cell (j:=2) rfl;have y2:=KB.out.cell (j:=2) rfl;have x3:=KA.out.cell (j:=3) rfl;have y3:=KB.out.cell (j:=3) rfl;have x4:=KA.out.cell (j:=4) rfl;have y4:=KB.out.cell (j:=4) rfl;have x5:=KA.out.cell (j:=5) rfl;have y5:=KB.out.cell (j:=5) rfl;have x6:=KA.out.cell (j:=6) rfl;have y6:=KB.out.cell (j:=6) rfl;have ltA:=KA.out.lt;have ltB:=KB.out.lt;clear he;have gAd:=trivial))
 go_ret;exact⟨zA2 hres.out.symm,HE0.out⟩
end Sk
