/- Contracts of functions of the given program. -/
import Derived.Test.YtidkncgejgngcaaGreatUARuns
namespace Sk
open Go Go.Proofs Go.RowKit
set_option maxHeartbeats 1000000
set_option linter.unusedVariables false
set_option linter.unusedSimpArgs false
def zEg(n:Int)(p:Channel × Hold):List Int:=if p.1.To=n then (p.2.Lst.length:Int)::p.2.Lst else []
theorem zMc{n:Int}{c:Channel}{x:Hold}(h:c.To=n):zEg n (c,x)=(x.Lst.length:Int)::x.Lst:=if_pos h
theorem zJ0{n:Int}{c:Channel}{x:Hold}(h:¬ c.To=n):zEg n (c,x) = []:=if_neg h
def zKo(m:Machine):List (Channel × Hold):=m.Plan.Channels.zip m.Holds
theorem zMf{m:Machine}{k:Nat}{c:Channel}{x:Hold}(hc:m.Plan.Channels[k]? = some c)(hx:m.Holds[k]? = some x):(zKo m)[k]? = some (c,x):=by
 unfold zKo;rw[List.getElem?_zip_eq_some];exact⟨hc,hx⟩
def zDy(m:Machine)(n:Nat):List Int:=(m.Cores.getD n M.cz).Cells ++ [(m.Cores.getD n M.cz).At,zCb (m.Cores.getD n M.cz).Stopped,zFx m.Plan.Slots n m.Tick]
def zAe(m:Machine)(n:Nat):List Int:=zDy m n++(zKo m).flatMap (zEg n)
theorem zIo{x:Hold}{k s:Int}(h:zFw x k s=true):x.Lst.length<=4:=by
 obtain⟨h1,h2,_⟩:=zCn.1 h;have h3:=Bo.iff.1 h1;omega
theorem zO7{m:Machine}(h:zCf m)(n:Int):∀ p∈zKo m,(zEg n p).length<=5:=by
 intro p hp;obtain⟨k,hk⟩:=List.getElem?_of_mem hp;obtain⟨c,x⟩:=p;unfold zKo at hk;rw[List.getElem?_zip_eq_some] at hk
 have:=zIo (h.hv k x c hk.2 hk.1)
 unfold zEg
 split
 ·simp only[List.length_cons];omega
 ·simp
theorem zKp{m:Machine}(h:zCf m):(zKo m).length=m.Plan.Channels.length:=by
 unfold zKo;rw[List.length_zip,h.nh,Nat.min_self]
theorem zH6{m:Machine}(h:zCf m){n:Nat}{c:Core}(hc:m.Cores[n]? = some c):c.Cells.length<=8:=by
 obtain⟨c',p,q,e1,e2,e3,hf,hp,_,_⟩:=h.at (zAc hc);rw[hc] at e1;cases e1;have hb:=zEp hp;simp only[zB9,Bool.and_eq_true,beq_iff_eq] at hf;omega
theorem zMd{m:Machine}(h:zCf m){n:Nat}(hn:n < m.Cores.length):(zDy m n).length<=11:=by
 obtain⟨c,p,q,e1,e2,e3,hf,hp,g1,_⟩:=h.at hn
 have:=zH6 h e1
 unfold zDy;rw[g1];simp only[List.length_append,List.length_cons,List.length_nil];omega
theorem zGa{m:Machine}(h:zCf m){n:Nat}(hn:n < m.Cores.length)(k:Nat):(zDy m n++((zKo m).take k).flatMap (zEg n)).length<=60:=by
 have h1:=zMd h hn;have h2:=zKp h;have h3:=zAt h.pg.set;have h4:∀ l:List (Channel × Hold),(∀ p∈l,(zEg n p).length<=5)->(l.flatMap (zEg n)).length<=5*l.length:=by
  intro l
  induction l with
  | nil=>intro _;simp
  | cons p l ih =>
   intro hl;rw[List.flatMap_cons,List.length_append,List.length_cons]
   have:=hl p (List.mem_cons_self ..)
   have:=ih (fun q hq=>hl q (List.mem_cons_of_mem _ hq))
   omega
 have h5:=h4 ((zKo m).take k) (fun p hp=>zO7 h n p (List.mem_of_mem_take hp))
 have h6:((zKo m).take k).length<=8:=by rw[List.length_take];omega
 rw[List.length_append];omega
theorem zMe{m:Machine}(h:zCf m){n:Nat}(hn:n < m.Cores.length):3<=(zAe m n).length/\(zAe m n).length<=60:=by
 have h1:=zGa h hn (zKo m).length;rw[List.take_length] at h1;refine⟨?_,h1⟩;unfold zAe zDy;simp only[List.length_append,List.length_cons,List.length_nil];omega
noncomputable def zB5(m:Machine)(n:Int):Bool:=zE9 m && zA8 n 0 ((m.Cores.length:Int) - 1)
theorem zBb{m:Machine}{n:Int}:zB5 m n=true ↔ zCf m/\0<=n/\n < m.Cores.length:=by
 unfold zB5;rw[Bool.and_eq_true,zAu,zA6];constructor;·rintro⟨h,h1,h2⟩;exact⟨h,h1,by omega⟩
 ·rintro⟨h,h1,h2⟩;exact⟨h,h1,by omega⟩
noncomputable def zBw(m:Machine)(n:Int):List Int:=if zB5 m n=true then zAe m n.toNat else []
theorem zKc{m:Machine}{n:Nat}(h:zB5 m n=true):zBw m n=zAe m n:=if_pos h
theorem zHc{m:Machine}{n:Int}(h:zB5 m n=false):zBw m n = []:=if_neg (by rw[h];decide)
def Bm(w:World)(b:Nat)(m:Machine):Prop:=∃ p0 q0 p1 q1 p2 q2 p3 q3 p4 q4 p5 q5,b < w.heap.size /\
  w.cell? ⟨b,0,none⟩=some (.slice p0 m.Plan.Parts.length q0)/\w.cell? ⟨b,1,none⟩=some (.slice p1 m.Plan.Channels.length q1)/\w.cell? ⟨b,2,none⟩=some (.slice p2 m.Plan.Slots.length q2)/\w.cell? ⟨b,3,none⟩=some (.slice p3 m.Programs.length q3)/\w.cell? ⟨b,4,none⟩=some (.slice p4 m.Cores.length q4)/\w.cell? ⟨b,5,none⟩=some (.slice p5 m.Holds.length q5)/\w.cell? ⟨b,6,none⟩=some (.int .i64 m.Tick) /\
  Hid (Rs w (.slice p0 m.Plan.Parts.length q0) m.Plan.Parts)/\Hid (Rs w (.slice p1 m.Plan.Channels.length q1) m.Plan.Channels)/\Hid (Rs w (.slice p2 m.Plan.Slots.length q2) m.Plan.Slots)/\Hid (Rs w (.slice p3 m.Programs.length q3) m.Programs)/\Hid (Rs w (.slice p4 m.Cores.length q4) m.Cores)/\Hid (Rs w (.slice p5 m.Holds.length q5) m.Holds)
theorem Br.bm{w:World}{b:Nat}{m:Machine}{T:TypeId}(h:Br w b m T):Bm w b m:=by
 obtain⟨p0,q0,p1,q1,p2,q2,p3,q3,p4,q4,p5,q5,k,_,r0,r1,r2,r3,r4,r5⟩:=h.openM;exact⟨p0,q0,p1,q1,p2,q2,p3,q3,p4,q4,p5,q5,k.lt,k.cell (j:=0) rfl,k.cell (j:=1) rfl,k.cell (j:=2) rfl,k.cell (j:=3) rfl,k.cell (j:=4) rfl,k.cell (j:=5) rfl,k.cell (j:=6) rfl,r0,r1,r2,r3,r4,r5⟩
theorem Om.bm{L:Nat}{w:World}{b:Nat}{m:Machine}{F:List Nat}(h:Om L w b 0 m F):Bm w b m:=by
 obtain⟨p0,q0,p1,q1,p2,q2,p3,q3,p4,q4,p5,q5,y0,y1,y2,y3,y4,y5,y6,r0,r1,r2,r3,r4,r5⟩:=h.openM;exact⟨p0,q0,p1,q1,p2,q2,p3,q3,p4,q4,p5,q5,h.bk.1,y0,y1,y2,y3,y4,y5,y6,r0,r1,r2,r3,r4,r5⟩
theorem Bm.ext{w w':World}{b:Nat}{m:Machine}(h:Bm w b m)(he:Ext w w'):Bm w' b m:=by
 obtain⟨p0,q0,p1,q1,p2,q2,p3,q3,p4,q4,p5,q5,hb,y0,y1,y2,y3,y4,y5,y6,r0,r1,r2,r3,r4,r5⟩:=h;have hz:=he.sz;exact⟨p0,q0,p1,q1,p2,q2,p3,q3,p4,q4,p5,q5,by omega,(zA0 he hb).trans y0,(zA0 he hb).trans y1,(zA0 he hb).trans y2,(zA0 he hb).trans y3,(zA0 he hb).trans y4,(zA0 he hb).trans y5,(zA0 he hb).trans y6,r0.out.ext he,r1.out.ext he,r2.out.ext he,r3.out.ext he,r4.out.ext he,r5.out.ext he⟩
set_option maxHeartbeats 4000000
set_option maxRecDepth 100000
theorem Rs.lit3{w:World}{g:Nat}{a b c:Int}(ha:rng a)(hb:rng b)(hc:rng c)(h:Bk w g [.int .i64 a,.int .i64 b,.int .i64 c] 3):Rs w (.slice (some ⟨g,0,none⟩) 3 3) [a,b,c]:=by
 refine⟨[g],_,3,rfl,by simp,by simp[maxLen],.inr ⟨by simp,g,0,[],rfl,rfl,?_⟩⟩
 refine⟨[.int .i64 a],[],[],⟨rfl,ha,rfl⟩,fun j u hj=>?_,rfl,[.int .i64 b],[],[],⟨rfl,hb,rfl⟩,fun j u hj=>?_,rfl,[.int .i64 c],[],[],⟨rfl,hc,rfl⟩,fun j u hj=>?_,rfl,rfl⟩
 all_goals
  cases j with
  | zero=>cases hj;first|exact h.cell (j:=0) rfl|exact h.cell (j:=1) rfl|exact h.cell (j:=2) rfl
  | succ j=>cases hj
theorem Rs.lit2s{w:World}{g:Nat}{v1 v2:Value}{xs ys:List Int}(h1:Rs w v1 xs)(h2:Rs w v2 ys)(h:Bk w g [v1,v2] 36):Rs w (.slice (some ⟨g,0,none⟩) 2 2) [xs,ys]:=by
 obtain⟨F1,h1⟩:=h1;obtain⟨F2,h2⟩:=h2;refine⟨g::(F1++(F2 ++ [])),_,2,rfl,by simp,by simp[maxLen],.inr ⟨by simp,g,0,_,rfl,rfl,?_⟩⟩
 refine⟨[v1],F1,_,⟨_,rfl,h1⟩,fun j u hj=>?_,rfl,[v2],F2,[],⟨_,rfl,h2⟩,fun j u hj=>?_,rfl,rfl⟩
 ·cases j with
  | zero=>cases hj;exact h.cell (j:=0) rfl
  | succ j=>cases hj
 ·cases j with
  | zero=>cases hj;exact h.cell (j:=1) rfl
  | succ j=>cases hj
theorem zDa(b:Nat)(m:Machine)(N:Nat)(w:World)(h:Bm w b m)(hv:zCf m)(hN:N < m.Cores.length) :
  Calls Tryz.prog 86 #[.pointer (some ⟨b,0,none⟩),.int .i64 N] w fun e w' => ∃ a,e = .returned (.slice a (zAe m N).length (zAe m N).length)/\Os w.heap.size w' (.slice a (zAe m N).length (zAe m N).length) (zAe m N)/\Ext w w':=by
 obtain⟨p0,q0,p1,q1,p2,q2,p3,q3,p4,q4,p5,q5,ltb,y0,y1,y2,y3,y4,y5,y6,r0,r1,r2,r3,r4,r5⟩:=h;have HV:=zh hv;have htk:=hv.tick;have hchn:=zAt hv.pg.set;obtain⟨kc,pl,q,ek,ep,eq,hfit,hprv,gk,gp⟩:=hv.at hN;obtain⟨kb,ko,kc',ca,cc,rfl,hcb,hk',kc0,kc1,kc2,hr1,rc,_,_⟩:=r4.out.atCore N hN;obtain rfl:kc'=kc:=Option.some.inj (hk'.out.symm.trans ek);have RC:=zh rc.out;have hcl:=zH6 hv ek;obtain⟨t,hto⟩:∃ t,zFx m.Plan.Slots N m.Tick=t:=⟨_,rfl⟩;have htb:0<=t/\t<=1000000:=by rw[<- hto];exact zGs (by omega)
 have hr3:rng t:=⟨by omega,by omega⟩
 have hr2:rng (zCb kc'.Stopped):=zGj _;have HT:=zh hto;have hhd:zDy m N=kc'.Cells ++ [kc'.At,zCb kc'.Stopped,t]:=by unfold zDy;rw[gk,hto]
 obtain⟨hdl,hhe⟩:∃ hdl,zDy m N=hdl:=⟨_,rfl⟩;have HFL:Hid ([kc'.Cells,[kc'.At,zCb kc'.Stopped,t]].flatten=hdl):=zh (by rw[<- hhe,hhd];simp)
 have HLN:Hid ([kc'.Cells,[kc'.At,zCb kc'.Stopped,t]].flatten.length=kc'.Cells.length+3):=zh (by simp)
 have HL2:Hid (∀ xs ∈ [kc'.Cells,[kc'.At,zCb kc'.Stopped,t]],xs.length<=1000):=zh (by
  intro xs hx;rcases List.mem_cons.1 hx with rfl|hx
  ·omega
  ·rw[List.mem_singleton.1 hx];simp)
 have HVL:Hid (∀ k,(hdl++((zKo m).take k).flatMap (zEg N)).length<=60):=zh (fun k=>by rw[<- hhe];exact zGa hv hN k)
 have HVN:Hid (zAe m N=hdl++(zKo m).flatMap (zEg N)):=zh (by unfold zAe;rw[hhe])
 have HVZ:=zh (zKp hv);have HSL:=zh (zMn.of hv.ssv);have HNH:=zh hv.nh;clear hv hto hhd hhe gk gp hfit hprv hk' rc ek ep eq;go_enter Tryz.func86,Tryz.ntmps86;go_upto_region 2 with (fail)
 refine zA1 (fun W=>Ext w W/\Bk W w.heap.size [.slice ca kc'.Cells.length cc,.int .i64 kc'.At,.bool kc'.Stopped] 47) ⟨(zr _).alloc _,Bk.new _ _ _⟩ ?_
 rintro w1 ⟨x1,kcb⟩;have X1:=zh x1;obtain⟨c0,c1,c2⟩:=Bk.k3 kcb;have ltC:=kcb.lt;have hsz1:=x1.sz;have ltb1:b < w1.heap.size:=by omega
 have b2:=(zA0 x1 ltb).trans y2;have b6:=(zA0 x1 ltb).trans y6;have R2:=zh (r2.out.ext x1);replace RC:=zh (RC.out.ext x1);clear x1 kcb kc0 kc1 kc2;refine zAw rfl 21 [(16,[16]),(17,[17]),(18,[18]),(19,[19]),(20,[20]),(21,[21]),(22,[22]),(23,[23]),(24,[24]),(25,[25]),(26,[26]),(27,[27]),(28,[28]),(29,[29]),(30,[30]),(31,[31]),(32,[32]),(33,[33]),(34,[34]),(35,[35,34]),(36,[36])]
  (fun i vs u F=>match i,vs with
   | 0,[y]=>y = .pointer (some ⟨w.heap.size,0,none⟩)
   | 1,[y]=>y = .slice ca kc'.Cells.length cc
   | 2,[y]=>y = .pointer (some ⟨w.heap.size,1,none⟩)
   | 3,[y]=>y = .int .i64 kc'.At
   | 4,[y]=>y = .pointer (some ⟨w.heap.size,2,none⟩)
   | 5,[y]=>y = .bool kc'.Stopped
   | 6,[y]=>y = .int .i64 (zCb kc'.Stopped)
   | 7,[y]=>y = .pointer (some ⟨b,0,none⟩)
   | 8,[y]=>y = .pointer (some ⟨b,0,none⟩)
   | 9,[y]=>y = .pointer (some ⟨b,0,none⟩)
   | 10,[y]=>y = .pointer (some ⟨b,2,none⟩)
   | 11,[y]=>y = .slice p2 m.Plan.Slots.length q2
   | 12,[y]=>y = .int .i64 N
   | 13,[y]=>y = .pointer (some ⟨b,0,none⟩)
   | 14,[y]=>y = .pointer (some ⟨b,0,none⟩)
   | 15,[y]=>y = .pointer (some ⟨b,6,none⟩)
   | 16,[y]=>y = .int .i64 m.Tick
   | 17,[y]=>y = .int .i64 t
   | 18,[y]=>Rs u y [kc'.At,zCb kc'.Stopped,t]
   | 19,[y,z]=>Rs u y [kc'.Cells,[kc'.At,zCb kc'.Stopped,t]]
   | 20,[y]=>Oa (α:=Int) 3 w1.heap.size u y hdl []
   | _,_=>False) (by decide +kernel) ?_ ?_
 ·intro i hi oo hoo U u F hE hd hap;have j0:=(zA0 hE ltC).trans c0;have j1:=(zA0 hE ltC).trans c1;have j2:=(zA0 hE ltC).trans c2;have jb2:=(zA0 hE ltb1).trans b2;have jb6:=(zA0 hE ltb1).trans b6;rcases(by omega:i=0\/i=1\/i=2\/i=3\/i=4\/i=5\/i=6\/i=7\/i=8\/i=9\/i=10\/i=11\/i=12\/i=13\/i=14\/i=15\/i=16\/i=17\/i=18\/i=19\/i=20) with rfl|rfl|rfl|rfl|rfl|rfl|rfl|rfl|rfl|rfl|rfl|rfl|rfl|rfl|rfl|rfl|rfl|rfl|rfl|rfl|rfl
  ·cases hoo;simp only[fr];intro K hK;go_wp2;exact zk hK _ (fun _ _=>rfl)
  ·cases hoo;simp only[fr];obtain⟨⟨d0,-⟩,-⟩:=fa [0] (by decide +kernel) hd
   simp only[fu] at d0;try simp only[d0]
   clear d0;intro K hK;go_wp2;exact zk hK _ (fun _ _=>rfl)
  ·cases hoo;simp only[fr];intro K hK;go_wp2;exact zk hK _ (fun _ _=>rfl)
  ·cases hoo;simp only[fr];obtain⟨⟨d2,-⟩,-⟩:=fa [2] (by decide +kernel) hd
   simp only[fu] at d2;try simp only[d2]
   clear d2;intro K hK;go_wp2;exact zk hK _ (fun _ _=>rfl)
  ·cases hoo;simp only[fr];intro K hK;go_wp2;exact zk hK _ (fun _ _=>rfl)
  ·cases hoo;simp only[fr];obtain⟨⟨d4,-⟩,-⟩:=fa [4] (by decide +kernel) hd
   simp only[fu] at d4;try simp only[d4]
   clear d4;intro K hK;go_wp2;exact zk hK _ (fun _ _=>rfl)
  ·cases hoo;simp only[fr];obtain⟨⟨d4,-⟩,⟨d5,-⟩,-⟩:=fa [4,5] (by decide +kernel) hd
   simp only[fu] at d4 d5;try simp only[d4,d5]
   intro K hK;go_wp2_with (go_at_call 138;refine(zKu _ _).mono ?_;rintro e w3 ⟨rfl,rfl⟩)
   exact zk hK _ (fun _ _=>rfl)
  ·cases hoo;simp only[fr];intro K hK;go_wp2;exact zk hK _ (fun _ _=>rfl)
  ·cases hoo;simp only[fr];obtain⟨⟨d7,-⟩,-⟩:=fa [7] (by decide +kernel) hd
   simp only[fu] at d7;try simp only[d7]
   clear d7;intro K hK;go_wp2;exact zk hK _ (fun _ _=>rfl)
  ·cases hoo;simp only[fr];obtain⟨⟨d7,-⟩,⟨d8,-⟩,-⟩:=fa [7,8] (by decide +kernel) hd
   simp only[fu] at d7 d8;try simp only[d7,d8]
   clear d7 d8;intro K hK;go_wp2;exact zk hK _ (fun _ _=>rfl)
  ·cases hoo;simp only[fr];obtain⟨⟨d7,-⟩,⟨d8,-⟩,⟨d9,-⟩,-⟩:=fa [7,8,9] (by decide +kernel) hd
   simp only[fu] at d7 d8 d9;try simp only[d7,d8,d9]
   clear d7 d8 d9;intro K hK;go_wp2;exact zk hK _ (fun _ _=>rfl)
  ·cases hoo;simp only[fr];obtain⟨⟨d7,-⟩,⟨d8,-⟩,⟨d9,-⟩,⟨d10,-⟩,-⟩:=fa [7,8,9,10] (by decide +kernel) hd
   simp only[fu] at d7 d8 d9 d10;try simp only[d7,d8,d9,d10]
   clear d7 d8 d9 d10;intro K hK;go_wp2;exact zk hK _ (fun _ _=>rfl)
  iterate 2 (·cases hoo;simp only[fr];intro K hK;go_wp2;exact zk hK _ (fun _ _=>rfl))
  ·cases hoo;simp only[fr];obtain⟨⟨d13,-⟩,-⟩:=fa [13] (by decide +kernel) hd
   simp only[fu] at d13;try simp only[d13]
   clear d13;intro K hK;go_wp2;exact zk hK _ (fun _ _=>rfl)
  ·cases hoo;simp only[fr];obtain⟨⟨d13,-⟩,⟨d14,-⟩,-⟩:=fa [13,14] (by decide +kernel) hd
   simp only[fu] at d13 d14;try simp only[d13,d14]
   clear d13 d14;intro K hK;go_wp2;exact zk hK _ (fun _ _=>rfl)
  ·cases hoo;simp only[fr];obtain⟨⟨d13,-⟩,⟨d14,-⟩,⟨d15,-⟩,-⟩:=fa [13,14,15] (by decide +kernel) hd
   simp only[fu] at d13 d14 d15;try simp only[d13,d14,d15]
   clear d13 d14 d15;intro K hK;go_wp2;exact zk hK _ (fun _ _=>rfl)
  ·cases hoo;simp only[fr];obtain⟨⟨d4,-⟩,⟨d5,-⟩,⟨d6,-⟩,⟨d7,-⟩,⟨d8,-⟩,⟨d9,-⟩,⟨d10,-⟩,⟨d11,-⟩,⟨d12,-⟩,⟨d13,-⟩,⟨d14,-⟩,⟨d15,-⟩,⟨d16,-⟩,-⟩:=fa [4,5,6,7,8,9,10,11,12,13,14,15,16] (by decide +kernel) hd
   simp only[fu] at d4 d5 d6 d7 d8 d9 d10 d11 d12 d13 d14 d15 d16;try simp only[d4,d5,d6,d7,d8,d9,d10,d11,d12,d13,d14,d15,d16]
   intro K hK;go_wp2_with (go_at_call 129;refine(zMy _ m.Plan.Slots N m.Tick _ (R2.out.ext hE) HSL.out (by omega) (by omega)).mono ?_;rintro e w3 ⟨rfl,he⟩;rw[HT.out])
   exact hK _ [] _ he (fun _ _=>rfl) (Own.nil _ _)
  ·cases hoo;simp only[fr];obtain⟨⟨d2,-⟩,⟨d3,-⟩,⟨d4,-⟩,⟨d5,-⟩,⟨d6,-⟩,⟨d7,-⟩,⟨d8,-⟩,⟨d9,-⟩,⟨d10,-⟩,⟨d11,-⟩,⟨d12,-⟩,⟨d13,-⟩,⟨d14,-⟩,⟨d15,-⟩,⟨d16,-⟩,⟨d17,-⟩,-⟩:=fa [2,3,4,5,6,7,8,9,10,11,12,13,14,15,16,17] (by decide +kernel) hd
   simp only[fu] at d2 d3 d4 d5 d6 d7 d8 d9 d10 d11 d12 d13 d14 d15 d16 d17;try simp only[d2,d3,d4,d5,d6,d7,d8,d9,d10,d11,d12,d13,d14,d15,d16,d17]
   intro K hK;go_wp2;have b1:=Bk.new u [.int .i64 kc'.At,.int .i64 (zCb kc'.Stopped),.int .i64 t] 3;exact hK _ [] _ ((zr u).alloc _) (fun _ h=>(Rs.lit3 hr1 hr2 hr3 b1).ext h) (Own.nil _ _)
  ·cases hoo;simp only[fr];obtain⟨⟨d0,-⟩,⟨d1,-⟩,⟨d2,-⟩,⟨d3,-⟩,⟨d4,-⟩,⟨d5,-⟩,⟨d6,-⟩,⟨d7,-⟩,⟨d8,-⟩,⟨d9,-⟩,⟨d10,-⟩,⟨d11,-⟩,⟨d12,-⟩,⟨d13,-⟩,⟨d14,-⟩,⟨d15,-⟩,⟨d16,-⟩,⟨d17,-⟩,⟨d18,o18⟩,-⟩:=fa [0,1,2,3,4,5,6,7,8,9,10,11,12,13,14,15,16,17,18] (by decide +kernel) hd
   simp only[fu] at d0 d1 d2 d3 d4 d5 d6 d7 d8 d9 d10 d11 d12 d13 d14 d15 d16 d17 d18;try simp only[d0,d1,d2,d3,d4,d5,d6,d7,d8,d9,d10,d11,d12,d13,d14,d15,d16,d17]
   have dq:=d18;obtain⟨ax,cx,e18,_⟩:=d18.form;simp only[e18];rw[e18] at dq;intro K hK;go_wp2;have b1:=Bk.new u [.slice ca kc'.Cells.length cc,.slice ax 3 cx] 36;exact hK _ [] _ ((zr u).alloc _) (fun _ h=>(Rs.lit2s (RC.out.ext (hE.alloc _)) (dq.ext ((zr u).alloc _)) b1).ext h) (Own.nil _ _)
  ·cases hoo;simp only[fr];obtain⟨⟨d0,-⟩,⟨d1,-⟩,⟨d2,-⟩,⟨d3,-⟩,⟨d4,-⟩,⟨d5,-⟩,⟨d6,-⟩,⟨d7,-⟩,⟨d8,-⟩,⟨d9,-⟩,⟨d10,-⟩,⟨d11,-⟩,⟨d12,-⟩,⟨d13,-⟩,⟨d14,-⟩,⟨d15,-⟩,⟨d16,-⟩,⟨d17,-⟩,⟨d18,o18⟩,⟨d19,o19⟩,-⟩:=fa [0,1,2,3,4,5,6,7,8,9,10,11,12,13,14,15,16,17,18,19] (by decide +kernel) hd
   simp only[fu] at d0 d1 d2 d3 d4 d5 d6 d7 d8 d9 d10 d11 d12 d13 d14 d15 d16 d17 d18 d19;try simp only[d0,d1,d2,d3,d4,d5,d6,d7,d8,d9,d10,d11,d12,d13,d14,d15,d16,d17]
   have dq:=d19;obtain⟨ax,cx,e19,_⟩:=d19.form;simp only[e19];rw[e19] at dq;intro K hK;go_wp2_with (go_at_call 143;refine(zJv _ _ _ dq (by simp) HL2.out).mono ?_;rintro e w3 ⟨a3,c3,rfl,ho3,he⟩)
   exact hK _ [] _ he (fun _ h=>by have h9:=(ho3.mono (L':=w1.heap.size) hE.sz).ext h;rw[HLN.out,HFL.out] at h9;exact h9) (Own.nil _ _)
 ·intro oo hoo U u G hE hφ hap;cases hoo;simp only[fr];obtain⟨⟨d0,-⟩,⟨d1,-⟩,⟨d2,-⟩,⟨d3,-⟩,⟨d4,-⟩,⟨d5,-⟩,⟨d6,-⟩,⟨d7,-⟩,⟨d8,-⟩,⟨d9,-⟩,⟨d10,-⟩,⟨d11,-⟩,⟨d12,-⟩,⟨d13,-⟩,⟨d14,-⟩,⟨d15,-⟩,⟨d16,-⟩,⟨d17,-⟩,⟨d18,o18⟩,⟨d19,o19⟩,⟨d20,o20⟩,-⟩:=fb [0,1,2,3,4,5,6,7,8,9,10,11,12,13,14,15,16,17,18,19,20] (by decide +kernel) hφ
  simp only[fu] at d0 d1 d2 d3 d4 d5 d6 d7 d8 d9 d10 d11 d12 d13 d14 d15 d16 d17 d18 d19 d20;try simp only[d0,d1,d2,d3,d4,d5,d6,d7,d8,d9,d10,d11,d12,d13,d14,d15,d16,d17]
  obtain⟨a3,c3,e20,hl3⟩:=d20.form;rw[e20] at d20;simp only[e20];have HO:=zh d20;have HEu:=zh hE;have HE2:=zh (X1.out.tr hE);have HO2:=zh (d20.mono hsz1);have f1:=(zA0 HE2.out ltb).trans y1;clear hφ hap hE d20 e20 HO HEu d0 d1 d2 d3 d4 d5 d6 d7 d8 d9 d10 d11 d12 d13 d14 d15 d16 d17 d18 d19;go_wp2;clear c0 c1 c2 b2 b6 y0 y2 y3 y4 y6 hl3;go_loopw [6,43] (fun out i wr => ∃ (k:Nat) (ao:Option Addr) (no co:Nat),k<=m.Plan.Channels.length/\i = .int .i64 k/\out = .slice ao no co/\Oa (α:=Int) 3 w.heap.size wr (.slice ao no co) (hdl++((zKo m).take k).flatMap (zEg N)) []/\Ext w wr) (fun _ i _=>m.Plan.Channels.length - (intOf i).toNat)
  case atStart=>exact⟨0,_,_,_,Nat.zero_le _,rfl,rfl,by simpa using HO2.out,HE2.out⟩
  case round =>
   clear HO2 HE2 f1;obtain⟨k,ao,no,co,hk,rfl,rfl,ho,hq⟩:=hrel;have HO:=zh ho;have HQ:=zh hq;have hsz:=hq.sz;have hb2:=HVL.out k;clear ho hq;obtain⟨wo,rfl⟩:∃ wo:World,wo=wr:=⟨_,rfl⟩;by_cases hkt:k < m.Plan.Channels.length
   ·obtain⟨hb,hoff,ch,rfl,hhb,hch,hc0,hc1,hc2,hc3,_,_,_,_,_⟩:=r1.out.atChannel k hkt;obtain⟨gb,go,x,xa,xc,rfl,hgb,hx,gx0,hxs,hxl,_⟩:=r5.out.atHold k (by rw[HNH.out];exact hkt)
    have HN:=zh (zBg (zEg N) (zMf hch.out hx.out));have hx4:=zIo (HV.out.hv k x ch hx.out hch.out);have hkh:k < m.Holds.length:=by rw[HNH.out];exact hkt
    have i0:=(zA0 HQ.out hhb).trans hc0;have i1:=(zA0 HQ.out hhb).trans hc1;have i2:=(zA0 HQ.out hhb).trans hc2;have i3:=(zA0 HQ.out hhb).trans hc3;clear hc0 hc1 hc2 hc3;go_upto_region 6 with (fail)
    refine zA1 (fun W=>Ext wo W/\Bk W wo.heap.size [.int .i64 ch.Kind,.int .i64 ch.From,.int .i64 ch.To,.int .i64 ch.Size] 49) ⟨(zr _).alloc _,Bk.new _ _ _⟩ ?_
    rintro W1 ⟨e1,kC⟩;have g2:=kC.cell (j:=2) rfl;have ltC1:=kC.lt;have HX:=zh (HQ.out.tr e1);have HO1:=zh (HO.out.ext e1);have hszX:=HX.out.sz;clear e1 kC i0 i1 i2 i3 HO;by_cases hto:ch.To=(N:Int)
    ·have hto1:(ch.To == (N:Int))=true:=by simpa using hto
     rw[zMc hto] at HN;have z5:=(zA0 HX.out ltb).trans y5;have gx1:=(zA0 HX.out hgb).trans gx0;have ltbX:b < W1.heap.size:=by omega
     have hgbX:gb < W1.heap.size:=by omega
     clear hto;go_upto_region 8 with (at_builtin;refine zBk (α:=Int) rfl _ _ 36 rfl 3 Tryz.underlying36 zC0 (L:=w.heap.size) (v:=.slice ao no co) (ys:=[(x.Lst.length:Int)]) rfl (HO1.out.ext ((zr _).alloc _)) rfl (Os.lit1 W1 _ ⟨by omega,by omega⟩).rs (by simp only[List.length_append,List.length_cons,List.length_nil] at hb2 ⊢;omega) (Nat.le_trans hszX ((zr W1).alloc _).sz) ?_;intro v5 w5 hO5 hg5;have HO5:=zh hO5;have HE5:=zh ((HX.out.alloc (.cells #[.int .i64 (x.Lst.length:Nat)] 3)).grown hg5 (fun k hk=>HO1.out.own k hk));obtain⟨p5,n5,q5,rfl⟩:=Oa.sh0 hO5;clear hO5 hg5)
     have z55:=(zA0 HE5.out ltb).trans y5;have gx5:=(zA0 HE5.out hgb).trans gx0;have hsz5:=HE5.out.sz;clear z5 gx1 HO1 HX g2 ltC1 ltbX hgbX;go_wp2_with (at_builtin;refine zBk (α:=Int) rfl _ _ 36 rfl 3 Tryz.underlying36 zC0 (L:=w.heap.size) (v:=.slice p5 n5 q5) (ys:=x.Lst) rfl HO5.out rfl (hxs.out.ext HE5.out) (by simp only[List.length_append,List.length_cons,List.length_nil] at hb2 ⊢;omega) hsz5 ?_;intro v6 w6 hO6 hg6;have HO6:=zh hO6;have HE6:=zh (HE5.out.grown hg6 (fun k hk=>HO5.out.own k hk));obtain⟨p6,n6,q6,rfl⟩:=Oa.sh0 hO6;clear hO6 hg6)
     go_roundw
     case rel=>exact⟨k+1,_,_,_,by omega,by go_num,rfl,by rw[HN.out];simpa using HO6.out,HE6.out⟩
     case measure=>simp[intOf];omega
    ·have hto1:(ch.To == (N:Int))=false:=by simpa using hto
     rw[zJ0 hto] at HN;clear hto;go_wp2;go_roundw
     case rel=>exact⟨k+1,_,_,_,by omega,by go_num,rfl,by rw[HN.out];simpa using HO1.out,HX.out⟩
     case measure=>simp[intOf];omega
   ·obtain rfl:k=m.Plan.Channels.length:=by omega
    have HO3:Hid (Oa (α:=Int) 3 w.heap.size wo (.slice ao no co) (zAe m N) []):=zh (by have:=HO.out;rw[<- HVZ.out,List.take_length] at this;rwa [HVN.out])
    obtain⟨_,_,hno,_⟩:=HO3.out.form;cases hno;have hcap:=HO3.out.cap;go_wp2_with (go_at_call 139;refine(zCt _ (zAe m N) _ ao co rfl hcap.1 hcap.2).mono ?_;rintro e w3 ⟨rfl,rfl⟩)
    go_ret;exact⟨_,rfl,(HO3.out.os (Own.nil _ _)).clip,HQ.out⟩
end Sk
