/- Contracts of functions of the given program. -/
import Derived.Test.YtpjdkfkfmebphaaGreatUARuns
namespace Sk
open Go Go.Proofs Go.RowKit
set_option maxHeartbeats 1000000
set_option linter.unusedVariables false
set_option linter.unusedSimpArgs false
def zH7(n:Int)(p:Channel × Hold):List Int:=if p.1.To=n then (p.2.Lst.length:Int)::p.2.Lst else []
theorem M.vch_t{n:Int}{c:Channel}{x:Hold}(h:c.To=n):zH7 n (c,x)=(x.Lst.length:Int)::x.Lst:=if_pos h
theorem zN2{n:Int}{c:Channel}{x:Hold}(h:¬ c.To=n):zH7 n (c,x) = []:=if_neg h
def zNo(m:Machine):List (Channel × Hold):=m.Plan.Channels.zip m.Holds
theorem M.vz_at{m:Machine}{k:Nat}{c:Channel}{x:Hold}(hc:m.Plan.Channels[k]? = some c)(hx:m.Holds[k]? = some x):(zNo m)[k]? = some (c,x):=by
 unfold zNo;rw[List.getElem?_zip_eq_some];exact⟨hc,hx⟩
def zFf(m:Machine)(n:Nat):List Int:=(m.Cores.getD n zOr).Cells ++ [(m.Cores.getD n zOr).At,zCv (m.Cores.getD n zOr).Stopped,zEb m.Plan.Slots n m.Tick]
def zBw(m:Machine)(n:Nat):List Int:=zFf m n++(zNo m).flatMap (zH7 n)
theorem zNi{x:Hold}{k s:Int}(h:zFz x k s=true):x.Lst.length<=4:=by
 obtain⟨h1,h2,_⟩:=zCm.1 h;have h3:=Bo.iff.1 h1;omega
theorem zPd{m:Machine}(h:zBl m)(n:Int):∀ p∈zNo m,(zH7 n p).length<=5:=by
 intro p hp;obtain⟨k,hk⟩:=List.getElem?_of_mem hp;obtain⟨c,x⟩:=p;unfold zNo at hk;rw[List.getElem?_zip_eq_some] at hk
 have:=zNi (h.hv k x c hk.2 hk.1)
 unfold zH7
 split
 ·simp only[List.length_cons];omega
 ·simp
theorem zNp{m:Machine}(h:zBl m):(zNo m).length=m.Plan.Channels.length:=by
 unfold zNo;rw[List.length_zip,h.nh,Nat.min_self]
theorem zKw{m:Machine}(h:zBl m){n:Nat}{c:Core}(hc:m.Cores[n]? = some c):c.Cells.length<=8:=by
 obtain⟨c',p,q,e1,e2,e3,hf,hp,_,_⟩:=h.at (zA7 hc);rw[hc] at e1;cases e1;have hb:=zDy hp;simp only[zAy,Bool.and_eq_true,beq_iff_eq] at hf;omega
theorem zN3{m:Machine}(h:zBl m){n:Nat}(hn:n < m.Cores.length):(zFf m n).length<=11:=by
 obtain⟨c,p,q,e1,e2,e3,hf,hp,g1,_⟩:=h.at hn
 have:=zKw h e1
 unfold zFf;rw[g1];simp only[List.length_append,List.length_cons,List.length_nil];omega
theorem zN4{m:Machine}(h:zBl m){n:Nat}(hn:n < m.Cores.length)(k:Nat):(zFf m n++((zNo m).take k).flatMap (zH7 n)).length<=60:=by
 have h1:=zN3 h hn;have h2:=zNp h;have h3:=zAu h.pg.set;have h4:∀ l:List (Channel × Hold),(∀ p∈l,(zH7 n p).length<=5)->(l.flatMap (zH7 n)).length<=5*l.length:=by
  intro l
  induction l with
  | nil=>intro _;simp
  | cons p l ih =>
   intro hl;rw[List.flatMap_cons,List.length_append,List.length_cons]
   have:=hl p (List.mem_cons_self ..)
   have:=ih (fun q hq=>hl q (List.mem_cons_of_mem _ hq))
   omega
 have h5:=h4 ((zNo m).take k) (fun p hp=>zPd h n p (List.mem_of_mem_take hp))
 have h6:((zNo m).take k).length<=8:=by rw[List.length_take];omega
 rw[List.length_append];omega
noncomputable def zBs(m:Machine)(n:Int):Bool:=zG0 m && zA8 n 0 ((m.Cores.length:Int) - 1)
theorem zBt{m:Machine}{n:Int}:zBs m n=true ↔ zBl m/\0<=n/\n < m.Cores.length:=by
 unfold zBs;rw[Bool.and_eq_true,zCd,zA6];constructor;·rintro⟨h,h1,h2⟩;exact⟨h,h1,by omega⟩
 ·rintro⟨h,h1,h2⟩;exact⟨h,h1,by omega⟩
def Bm(w:World)(b:Nat)(m:Machine):Prop:=∃ p0 q0 p1 q1 p2 q2 p3 q3 p4 q4 p5 q5,b < w.heap.size /\
  w.cell? ⟨b,0,none⟩=some (.slice p0 m.Plan.Parts.length q0)/\w.cell? ⟨b,1,none⟩=some (.slice p1 m.Plan.Channels.length q1)/\w.cell? ⟨b,2,none⟩=some (.slice p2 m.Plan.Slots.length q2)/\w.cell? ⟨b,3,none⟩=some (.slice p3 m.Programs.length q3)/\w.cell? ⟨b,4,none⟩=some (.slice p4 m.Cores.length q4)/\w.cell? ⟨b,5,none⟩=some (.slice p5 m.Holds.length q5)/\w.cell? ⟨b,6,none⟩=some (.int .i64 m.Tick) /\
  Hid (Rs w (.slice p0 m.Plan.Parts.length q0) m.Plan.Parts)/\Hid (Rs w (.slice p1 m.Plan.Channels.length q1) m.Plan.Channels)/\Hid (Rs w (.slice p2 m.Plan.Slots.length q2) m.Plan.Slots)/\Hid (Rs w (.slice p3 m.Programs.length q3) m.Programs)/\Hid (Rs w (.slice p4 m.Cores.length q4) m.Cores)/\Hid (Rs w (.slice p5 m.Holds.length q5) m.Holds)
theorem Om.bm{L:Nat}{w:World}{b:Nat}{m:Machine}{F:List Nat}(h:Om L w b 0 m F):Bm w b m:=by
 obtain⟨p0,q0,p1,q1,p2,q2,p3,q3,p4,q4,p5,q5,y0,y1,y2,y3,y4,y5,y6,r0,r1,r2,r3,r4,r5⟩:=h.openM;exact⟨p0,q0,p1,q1,p2,q2,p3,q3,p4,q4,p5,q5,h.bk.1,y0,y1,y2,y3,y4,y5,y6,r0,r1,r2,r3,r4,r5⟩
set_option maxHeartbeats 4000000
set_option maxRecDepth 100000
theorem Rs.lit3{w:World}{g:Nat}{a b c:Int}(ha:rng a)(hb:rng b)(hc:rng c)(h:Bk w g [.int .i64 a,.int .i64 b,.int .i64 c] 3):Rs w (.slice (some ⟨g,0,none⟩) 3 3) [a,b,c]:=by
 refine⟨[g],_,3,rfl,by simp,by simp[maxLen],.inr ⟨by simp,g,0,[],rfl,rfl,?_⟩⟩
 refine⟨[.int .i64 a],[],[],⟨rfl,ha,rfl⟩,fun j u hj=>?_,rfl,[.int .i64 b],[],[],⟨rfl,hb,rfl⟩,fun j u hj=>?_,rfl,[.int .i64 c],[],[],⟨rfl,hc,rfl⟩,fun j u hj=>?_,rfl,rfl⟩
 all_goals
  cases j with
  | zero=>cases hj;first|exact h.cell (j:=0) rfl|exact h.cell (j:=1) rfl|exact h.cell (j:=2) rfl
  | succ j=>cases hj
theorem Rs.lit2s{w:World}{g:Nat}{v1 v2:Value}{xs ys:List Int}(h1:Rs w v1 xs)(h2:Rs w v2 ys)(h:Bk w g [v1,v2] 41):Rs w (.slice (some ⟨g,0,none⟩) 2 2) [xs,ys]:=by
 obtain⟨F1,h1⟩:=h1;obtain⟨F2,h2⟩:=h2;refine⟨g::(F1++(F2 ++ [])),_,2,rfl,by simp,by simp[maxLen],.inr ⟨by simp,g,0,_,rfl,rfl,?_⟩⟩
 refine⟨[v1],F1,_,⟨_,rfl,h1⟩,fun j u hj=>?_,rfl,[v2],F2,[],⟨_,rfl,h2⟩,fun j u hj=>?_,rfl,rfl⟩
 ·cases j with
  | zero=>cases hj;exact h.cell (j:=0) rfl
  | succ j=>cases hj
 ·cases j with
  | zero=>cases hj;exact h.cell (j:=1) rfl
  | succ j=>cases hj
theorem zPr(b:Nat)(m:Machine)(N:Nat)(w:World)(h:Bm w b m)(hv:zBl m)(hN:N < m.Cores.length) :
  Calls Tryz.prog 42 #[.pointer (some ⟨b,0,none⟩),.int .i64 N] w fun e w' => ∃ a,e = .returned (.slice a (zBw m N).length (zBw m N).length)/\Os w.heap.size w' (.slice a (zBw m N).length (zBw m N).length) (zBw m N)/\Ext w w':=by
 obtain⟨p0,q0,p1,q1,p2,q2,p3,q3,p4,q4,p5,q5,ltb,y0,y1,y2,y3,y4,y5,y6,r0,r1,r2,r3,r4,r5⟩:=h;have HV:=zh hv;have htk:=hv.tick;have hchn:=zAu hv.pg.set;obtain⟨kc,pl,q,ek,ep,eq,hfit,hprv,gk,gp⟩:=hv.at hN;obtain⟨kb,ko,kc',ca,cc,rfl,hcb,hk',kc0,kc1,kc2,hr1,rc,_,_⟩:=r4.out.atCore N hN;obtain rfl:kc'=kc:=Option.some.inj (hk'.out.symm.trans ek);have RC:=zh rc.out;have hcl:=zKw hv ek;obtain⟨t,hto⟩:∃ t,zEb m.Plan.Slots N m.Tick=t:=⟨_,rfl⟩;have htb:0<=t/\t<=1000000:=by rw[<- hto];exact zJ4 (by omega)
 have hr3:rng t:=⟨by omega,by omega⟩
 have hr2:rng (zCv kc'.Stopped):=zJa _;have HT:=zh hto;have hhd:zFf m N=kc'.Cells ++ [kc'.At,zCv kc'.Stopped,t]:=by unfold zFf;rw[gk,hto]
 obtain⟨hdl,hhe⟩:∃ hdl,zFf m N=hdl:=⟨_,rfl⟩;have HFL:Hid ([kc'.Cells,[kc'.At,zCv kc'.Stopped,t]].flatten=hdl):=zh (by rw[<- hhe,hhd];simp)
 have HLN:Hid ([kc'.Cells,[kc'.At,zCv kc'.Stopped,t]].flatten.length=kc'.Cells.length+3):=zh (by simp)
 have HL2:Hid (∀ xs ∈ [kc'.Cells,[kc'.At,zCv kc'.Stopped,t]],xs.length<=1000):=zh (by
  intro xs hx;rcases List.mem_cons.1 hx with rfl|hx
  ·omega
  ·rw[List.mem_singleton.1 hx];simp)
 have HVL:Hid (∀ k,(hdl++((zNo m).take k).flatMap (zH7 N)).length<=60):=zh (fun k=>by rw[<- hhe];exact zN4 hv hN k)
 have HVN:Hid (zBw m N=hdl++(zNo m).flatMap (zH7 N)):=zh (by unfold zBw;rw[hhe])
 have HVZ:=zh (zNp hv);have HSL:=zh (zM2.of hv.ssv);have HNH:=zh hv.nh;clear hv hto hhd hhe gk gp hfit hprv hk' rc ek ep eq;go_enter Tryz.func42,Tryz.ntmps42;go_upto_region 2 with (fail)
 refine zA1 (fun W=>Ext w W/\Bk W w.heap.size [.slice ca kc'.Cells.length cc,.int .i64 kc'.At,.bool kc'.Stopped] 45) ⟨(zr _).alloc _,Bk.new _ _ _⟩ ?_
 rintro w1 ⟨x1,kcb⟩;have X1:=zh x1;obtain⟨c0,c1,c2⟩:=Bk.k3 kcb;have ltC:=kcb.lt;have hsz1:=x1.sz;have ltb1:b < w1.heap.size:=by omega
 have b2:=(zA0 x1 ltb).trans y2;have b6:=(zA0 x1 ltb).trans y6;have R2:=zh (r2.out.ext x1);replace RC:=zh (RC.out.ext x1);clear x1 kcb kc0 kc1 kc2;refine zAk rfl 21 [(16,[16]),(17,[17]),(18,[18]),(19,[19]),(20,[20]),(21,[21]),(22,[22]),(23,[23]),(24,[24]),(25,[25]),(26,[26]),(27,[27]),(28,[28]),(29,[29]),(30,[30]),(31,[31]),(32,[32]),(33,[33]),(34,[34]),(35,[35,34]),(36,[36])]
  (fun i vs u F=>match i,vs with
   | 0,[y]=>y = .pointer (some ⟨w.heap.size,0,none⟩)
   | 1,[y]=>y = .slice ca kc'.Cells.length cc
   | 2,[y]=>y = .pointer (some ⟨w.heap.size,1,none⟩)
   | 3,[y]=>y = .int .i64 kc'.At
   | 4,[y]=>y = .pointer (some ⟨w.heap.size,2,none⟩)
   | 5,[y]=>y = .bool kc'.Stopped
   | 6,[y]=>y = .int .i64 (zCv kc'.Stopped)
   | 7,[y]=>y = .pointer (some ⟨b,0,none⟩)
   | 8,[y]=>y = .pointer (some ⟨b,0,none⟩)
   | 9,[y]=>y = .pointer (some ⟨b,0,none⟩)
   | 10,[y]=>y = .pointer (some ⟨b,2,none⟩)
   | 11,[y]=>y = .slice p2 m.Plan.Slots.length q2
   | 12,[y]=>y = .int .i64 N
   | 13,[y]=>y = .pointer (some ⟨b,0,none⟩)
   | 14,[y]=>y = .pointer (some ⟨b,0,none⟩)
   | 15,[y]=>y = .pointer (some ⟨b,6,none⟩)
   | 16,[y]=>y = .int .i64 m.Tick
   | 17,[y]=>y = .int .i64 t
   | 18,[y]=>Rs u y [kc'.At,zCv kc'.Stopped,t]
   | 19,[y,z]=>Rs u y [kc'.Cells,[kc'.At,zCv kc'.Stopped,t]]
   | 20,[y]=>Oa (α:=Int) 3 w1.heap.size u y hdl []
   | _,_=>False) (by decide +kernel) ?_ ?_
 ·intro i hi oo hoo U u F hE hd hap;have j0:=(zA0 hE ltC).trans c0;have j1:=(zA0 hE ltC).trans c1;have j2:=(zA0 hE ltC).trans c2;have jb2:=(zA0 hE ltb1).trans b2;have jb6:=(zA0 hE ltb1).trans b6;rcases(by omega:i=0\/i=1\/i=2\/i=3\/i=4\/i=5\/i=6\/i=7\/i=8\/i=9\/i=10\/i=11\/i=12\/i=13\/i=14\/i=15\/i=16\/i=17\/i=18\/i=19\/i=20) with rfl|rfl|rfl|rfl|rfl|rfl|rfl|rfl|rfl|rfl|rfl|rfl|rfl|rfl|rfl|rfl|rfl|rfl|rfl|rfl|rfl
  ·cases hoo;simp only[fr];intro K hK;go_wp2;exact zk hK _ (fun _ _=>rfl)
  ·cases hoo;simp only[fr];obtain⟨⟨d0,-⟩,-⟩:=fa [0] (by decide +kernel) hd
   simp only[fu] at d0;try simp only[d0]
   clear d0;intro K hK;go_wp2;exact zk hK _ (fun _ _=>rfl)
  ·cases hoo;simp only[fr];intro K hK;go_wp2;exact zk hK _ (fun _ _=>rfl)
  ·cases hoo;simp only[fr];obtain⟨⟨d2,-⟩,-⟩:=fa [2] (by decide +kernel) hd
   simp only[fu] at d2;try simp only[d2]
   clear d2;intro K hK;go_wp2;exact zk hK _ (fun _ _=>rfl)
  ·cases hoo;simp only[fr];intro K hK;go_wp2;exact zk hK _ (fun _ _=>rfl)
  ·cases hoo;simp only[fr];obtain⟨⟨d4,-⟩,-⟩:=fa [4] (by decide +kernel) hd
   simp only[fu] at d4;try simp only[d4]
   clear d4;intro K hK;go_wp2;exact zk hK _ (fun _ _=>rfl)
  ·cases hoo;simp only[fr];obtain⟨⟨d4,-⟩,⟨d5,-⟩,-⟩:=fa [4,5] (by decide +kernel) hd
   simp only[fu] at d4 d5;try simp only[d4,d5]
   intro K hK;go_wp2_with (go_at_call 73;refine(zLp _ _).mono ?_;rintro e w3 ⟨rfl,rfl⟩)
   exact zk hK _ (fun _ _=>rfl)
  ·cases hoo;simp only[fr];intro K hK;go_wp2;exact zk hK _ (fun _ _=>rfl)
  ·cases hoo;simp only[fr];obtain⟨⟨d7,-⟩,-⟩:=fa [7] (by decide +kernel) hd
   simp only[fu] at d7;try simp only[d7]
   clear d7;intro K hK;go_wp2;exact zk hK _ (fun _ _=>rfl)
  ·cases hoo;simp only[fr];obtain⟨⟨d7,-⟩,⟨d8,-⟩,-⟩:=fa [7,8] (by decide +kernel) hd
   simp only[fu] at d7 d8;try simp only[d7,d8]
   clear d7 d8;intro K hK;go_wp2;exact zk hK _ (fun _ _=>rfl)
  ·cases hoo;simp only[fr];obtain⟨⟨d7,-⟩,⟨d8,-⟩,⟨d9,-⟩,-⟩:=fa [7,8,9] (by decide +kernel) hd
   simp only[fu] at d7 d8 d9;try simp only[d7,d8,d9]
   clear d7 d8 d9;intro K hK;go_wp2;exact zk hK _ (fun _ _=>rfl)
  ·cases hoo;simp only[fr];obtain⟨⟨d7,-⟩,⟨d8,-⟩,⟨d9,-⟩,⟨d10,-⟩,-⟩:=fa [7,8,9,10] (by decide +kernel) hd
   simp only[fu] at d7 d8 d9 d10;try simp only[d7,d8,d9,d10]
   clear d7 d8 d9 d10;intro K hK;go_wp2;exact zk hK _ (fun _ _=>rfl)
  iterate 2 (·cases hoo;simp only[fr];intro K hK;go_wp2;exact zk hK _ (fun _ _=>rfl))
  ·cases hoo;simp only[fr];obtain⟨⟨d13,-⟩,-⟩:=fa [13] (by decide +kernel) hd
   simp only[fu] at d13;try simp only[d13]
   clear d13;intro K hK;go_wp2;exact zk hK _ (fun _ _=>rfl)
  ·cases hoo;simp only[fr];obtain⟨⟨d13,-⟩,⟨d14,-⟩,-⟩:=fa [13,14] (by decide +kernel) hd
   simp only[fu] at d13 d14;try simp only[d13,d14]
   clear d13 d14;intro K hK;go_wp2;exact zk hK _ (fun _ _=>rfl)
  ·cases hoo;simp only[fr];obtain⟨⟨d13,-⟩,⟨d14,-⟩,⟨d15,-⟩,-⟩:=fa [13,14,15] (by decide +kernel) hd
   simp only[fu] at d13 d14 d15;try simp only[d13,d14,d15]
   clear d13 d14 d15;intro K hK;go_wp2;exact zk hK _ (fun _ _=>rfl)
  ·cases hoo;simp only[fr];obtain⟨⟨d4,-⟩,⟨d5,-⟩,⟨d6,-⟩,⟨d7,-⟩,⟨d8,-⟩,⟨d9,-⟩,⟨d10,-⟩,⟨d11,-⟩,⟨d12,-⟩,⟨d13,-⟩,⟨d14,-⟩,⟨d15,-⟩,⟨d16,-⟩,-⟩:=fa [4,5,6,7,8,9,10,11,12,13,14,15,16] (by decide +kernel) hd
   simp only[fu] at d4 d5 d6 d7 d8 d9 d10 d11 d12 d13 d14 d15 d16;try simp only[d4,d5,d6,d7,d8,d9,d10,d11,d12,d13,d14,d15,d16]
   intro K hK;go_wp2_with (go_at_call 76;refine(zNs _ m.Plan.Slots N m.Tick _ (R2.out.ext hE) HSL.out (by omega) (by omega)).mono ?_;rintro e w3 ⟨rfl,he⟩;rw[HT.out])
   exact hK _ [] _ he (fun _ _=>rfl) (Own.nil _ _)
  ·cases hoo;simp only[fr];obtain⟨⟨d2,-⟩,⟨d3,-⟩,⟨d4,-⟩,⟨d5,-⟩,⟨d6,-⟩,⟨d7,-⟩,⟨d8,-⟩,⟨d9,-⟩,⟨d10,-⟩,⟨d11,-⟩,⟨d12,-⟩,⟨d13,-⟩,⟨d14,-⟩,⟨d15,-⟩,⟨d16,-⟩,⟨d17,-⟩,-⟩:=fa [2,3,4,5,6,7,8,9,10,11,12,13,14,15,16,17] (by decide +kernel) hd
   simp only[fu] at d2 d3 d4 d5 d6 d7 d8 d9 d10 d11 d12 d13 d14 d15 d16 d17;try simp only[d2,d3,d4,d5,d6,d7,d8,d9,d10,d11,d12,d13,d14,d15,d16,d17]
   intro K hK;go_wp2;have b1:=Bk.new u [.int .i64 kc'.At,.int .i64 (zCv kc'.Stopped),.int .i64 t] 3;exact hK _ [] _ ((zr u).alloc _) (fun _ h=>(Rs.lit3 hr1 hr2 hr3 b1).ext h) (Own.nil _ _)
  ·cases hoo;simp only[fr];obtain⟨⟨d0,-⟩,⟨d1,-⟩,⟨d2,-⟩,⟨d3,-⟩,⟨d4,-⟩,⟨d5,-⟩,⟨d6,-⟩,⟨d7,-⟩,⟨d8,-⟩,⟨d9,-⟩,⟨d10,-⟩,⟨d11,-⟩,⟨d12,-⟩,⟨d13,-⟩,⟨d14,-⟩,⟨d15,-⟩,⟨d16,-⟩,⟨d17,-⟩,⟨d18,o18⟩,-⟩:=fa [0,1,2,3,4,5,6,7,8,9,10,11,12,13,14,15,16,17,18] (by decide +kernel) hd
   simp only[fu] at d0 d1 d2 d3 d4 d5 d6 d7 d8 d9 d10 d11 d12 d13 d14 d15 d16 d17 d18;try simp only[d0,d1,d2,d3,d4,d5,d6,d7,d8,d9,d10,d11,d12,d13,d14,d15,d16,d17]
   have dq:=d18;obtain⟨ax,cx,e18,_⟩:=d18.form;simp only[e18];rw[e18] at dq;intro K hK;go_wp2;have b1:=Bk.new u [.slice ca kc'.Cells.length cc,.slice ax 3 cx] 41;exact hK _ [] _ ((zr u).alloc _) (fun _ h=>(Rs.lit2s (RC.out.ext (hE.alloc _)) (dq.ext ((zr u).alloc _)) b1).ext h) (Own.nil _ _)
  ·cases hoo;simp only[fr];obtain⟨⟨d0,-⟩,⟨d1,-⟩,⟨d2,-⟩,⟨d3,-⟩,⟨d4,-⟩,⟨d5,-⟩,⟨d6,-⟩,⟨d7,-⟩,⟨d8,-⟩,⟨d9,-⟩,⟨d10,-⟩,⟨d11,-⟩,⟨d12,-⟩,⟨d13,-⟩,⟨d14,-⟩,⟨d15,-⟩,⟨d16,-⟩,⟨d17,-⟩,⟨d18,o18⟩,⟨d19,o19⟩,-⟩:=fa [0,1,2,3,4,5,6,7,8,9,10,11,12,13,14,15,16,17,18,19] (by decide +kernel) hd
   simp only[fu] at d0 d1 d2 d3 d4 d5 d6 d7 d8 d9 d10 d11 d12 d13 d14 d15 d16 d17 d18 d19;try simp only[d0,d1,d2,d3,d4,d5,d6,d7,d8,d9,d10,d11,d12,d13,d14,d15,d16,d17]
   have dq:=d19;obtain⟨ax,cx,e19,_⟩:=d19.form;simp only[e19];rw[e19] at dq;intro K hK;go_wp2_with (go_at_call 81;refine(zKl _ _ _ dq (by simp) HL2.out).mono ?_;rintro e w3 ⟨a3,c3,rfl,ho3,he⟩)
   exact hK _ [] _ he (fun _ h=>by have h9:=(ho3.mono (L':=w1.heap.size) hE.sz).ext h;rw[HLN.out,HFL.out] at h9;exact h9) (Own.nil _ _)
 ·intro oo hoo U u G hE hφ hap;cases hoo;simp only[fr];obtain⟨⟨d0,-⟩,⟨d1,-⟩,⟨d2,-⟩,⟨d3,-⟩,⟨d4,-⟩,⟨d5,-⟩,⟨d6,-⟩,⟨d7,-⟩,⟨d8,-⟩,⟨d9,-⟩,⟨d10,-⟩,⟨d11,-⟩,⟨d12,-⟩,⟨d13,-⟩,⟨d14,-⟩,⟨d15,-⟩,⟨d16,-⟩,⟨d17,-⟩,⟨d18,o18⟩,⟨d19,o19⟩,⟨d20,o20⟩,-⟩:=fb [0,1,2,3,4,5,6,7,8,9,10,11,12,13,14,15,16,17,18,19,20] (by decide +kernel) hφ
  simp only[fu] at d0 d1 d2 d3 d4 d5 d6 d7 d8 d9 d10 d11 d12 d13 d14 d15 d16 d17 d18 d19 d20;try simp only[d0,d1,d2,d3,d4,d5,d6,d7,d8,d9,d10,d11,d12,d13,d14,d15,d16,d17]
  obtain⟨a3,c3,e20,hl3⟩:=d20.form;rw[e20] at d20;simp only[e20];have HO:=zh d20;have HEu:=zh hE;have HE2:=zh (X1.out.tr hE);have HO2:=zh (d20.mono hsz1);have f1:=(zA0 HE2.out ltb).trans y1;clear hφ hap hE d20 e20 HO HEu d0 d1 d2 d3 d4 d5 d6 d7 d8 d9 d10 d11 d12 d13 d14 d15 d16 d17 d18 d19;go_wp2;clear c0 c1 c2 b2 b6 y0 y2 y3 y4 y6 hl3;go_loopw [6,43] (fun out i wr => ∃ (k:Nat) (ao:Option Addr) (no co:Nat),k<=m.Plan.Channels.length/\i = .int .i64 k/\out = .slice ao no co/\Oa (α:=Int) 3 w.heap.size wr (.slice ao no co) (hdl++((zNo m).take k).flatMap (zH7 N)) []/\Ext w wr) (fun _ i _=>m.Plan.Channels.length - (intOf i).toNat)
  case atStart=>exact⟨0,_,_,_,Nat.zero_le _,rfl,rfl,by simpa using HO2.out,HE2.out⟩
  case round =>
   clear HO2 HE2 f1;obtain⟨k,ao,no,co,hk,rfl,rfl,ho,hq⟩:=hrel;have HO:=zh ho;have HQ:=zh hq;have hsz:=hq.sz;have hb2:=HVL.out k;clear ho hq;obtain⟨wo,rfl⟩:∃ wo:World,wo=wr:=⟨_,rfl⟩;by_cases hkt:k < m.Plan.Channels.length
   ·obtain⟨hb,hoff,ch,rfl,hhb,hch,hc0,hc1,hc2,hc3,_,_,_,_,_⟩:=r1.out.atChannel k hkt;obtain⟨gb,go,x,xa,xc,rfl,hgb,hx,gx0,hxs,hxl,_⟩:=r5.out.atHold k (by rw[HNH.out];exact hkt)
    have HN:=zh (zBg (zH7 N) (M.vz_at hch.out hx.out));have hx4:=zNi (HV.out.hv k x ch hx.out hch.out);have hkh:k < m.Holds.length:=by rw[HNH.out];exact hkt
    have i0:=(zA0 HQ.out hhb).trans hc0;have i1:=(zA0 HQ.out hhb).trans hc1;have i2:=(zA0 HQ.out hhb).trans hc2;have i3:=(zA0 HQ.out hhb).trans hc3;clear hc0 hc1 hc2 hc3;go_upto_region 6 with (fail)
    refine zA1 (fun W=>Ext wo W/\Bk W wo.heap.size [.int .i64 ch.Kind,.int .i64 ch.From,.int .i64 ch.To,.int .i64 ch.Size] 77) ⟨(zr _).alloc _,Bk.new _ _ _⟩ ?_
    rintro W1 ⟨e1,kC⟩;have g2:=kC.cell (j:=2) rfl;have ltC1:=kC.lt;have HX:=zh (HQ.out.tr e1);have HO1:=zh (HO.out.ext e1);have hszX:=HX.out.sz;clear e1 kC i0 i1 i2 i3 HO;by_cases hto:ch.To=(N:Int)
    ·have hto1:(ch.To == (N:Int))=true:=by simpa using hto
     rw[M.vch_t hto] at HN;have z5:=(zA0 HX.out ltb).trans y5;have gx1:=(zA0 HX.out hgb).trans gx0;have ltbX:b < W1.heap.size:=by omega
     have hgbX:gb < W1.heap.size:=by omega
     clear hto;go_upto_region 8 with (at_builtin;refine zBy (α:=Int) rfl _ _ 41 rfl 3 Tryz.underlying41 zCj (L:=w.heap.size) (v:=.slice ao no co) (ys:=[(x.Lst.length:Int)]) rfl (HO1.out.ext ((zr _).alloc _)) rfl (Os.lit1 W1 _ ⟨by omega,by omega⟩).rs (by simp only[List.length_append,List.length_cons,List.length_nil] at hb2 ⊢;omega) (Nat.le_trans hszX ((zr W1).alloc _).sz) ?_;intro v5 w5 hO5 hg5;have HO5:=zh hO5;have HE5:=zh ((HX.out.alloc (.cells #[.int .i64 (x.Lst.length:Nat)] 3)).grown hg5 (fun k hk=>HO1.out.own k hk));obtain⟨p5,n5,q5,rfl⟩:=Oa.sh0 hO5;clear hO5 hg5)
     have z55:=(zA0 HE5.out ltb).trans y5;have gx5:=(zA0 HE5.out hgb).trans gx0;have hsz5:=HE5.out.sz;clear z5 gx1 HO1 HX g2 ltC1 ltbX hgbX;go_wp2_with (at_builtin;refine zBy (α:=Int) rfl _ _ 41 rfl 3 Tryz.underlying41 zCj (L:=w.heap.size) (v:=.slice p5 n5 q5) (ys:=x.Lst) rfl HO5.out rfl (hxs.out.ext HE5.out) (by simp only[List.length_append,List.length_cons,List.length_nil] at hb2 ⊢;omega) hsz5 ?_;intro v6 w6 hO6 hg6;have HO6:=zh hO6;have HE6:=zh (HE5.out.grown hg6 (fun k hk=>HO5.out.own k hk));obtain⟨p6,n6,q6,rfl⟩:=Oa.sh0 hO6;clear hO6 hg6)
     go_roundw
     case rel=>exact⟨k+1,_,_,_,by omega,by go_num,rfl,by rw[HN.out];simpa using HO6.out,HE6.out⟩
     case measure=>simp[intOf];omega
    ·have hto1:(ch.To == (N:Int))=false:=by simpa using hto
     rw[zN2 hto] at HN;clear hto;go_wp2;go_roundw
     case rel=>exact⟨k+1,_,_,_,by omega,by go_num,rfl,by rw[HN.out];simpa using HO1.out,HX.out⟩
     case measure=>simp[intOf];omega
   ·obtain rfl:k=m.Plan.Channels.length:=by omega
    have HO3:Hid (Oa (α:=Int) 3 w.heap.size wo (.slice ao no co) (zBw m N) []):=zh (by have:=HO.out;rw[<- HVZ.out,List.take_length] at this;rwa [HVN.out])
    obtain⟨_,_,hno,_⟩:=HO3.out.form;cases hno;have hcap:=HO3.out.cap;go_wp2_with (go_at_call 74;refine(zCs _ (zBw m N) _ ao co rfl hcap.1 hcap.2).mono ?_;rintro e w3 ⟨rfl,rfl⟩)
    go_ret;exact⟨_,rfl,(HO3.out.os (Own.nil _ _)).clip,HQ.out⟩
theorem zBh(v:Value)(m:Machine)(n:Int)(w:World)(h:Rv w v m) :
  Calls Tryz.prog 20 #[v,.int .i64 n] w fun e w'=>e = .returned (.bool (zBs m n))/\Ext w w':=by
 have H:=zh h;obtain⟨a0,c0,a1,c1,a2,c2,a3,c3,a4,c4,a5,c5,rfl,rt,h0,l0,h1,l1,h2,l2,h3,l3,h4,l4,h5,l5⟩:=h.openMachine;clear h h0 h1 h2 h3 h4 h5;go_enter Tryz.func20,Tryz.ntmps20;go_upto_region 1 with (fail)
 refine zA1 (fun W=>Ext w W/\Bk W w.heap.size [.slice a0 m.Plan.Parts.length c0,.slice a1 m.Plan.Channels.length c1,.slice a2 m.Plan.Slots.length c2,.slice a3 m.Programs.length c3,.slice a4 m.Cores.length c4,.slice a5 m.Holds.length c5,.int .i64 m.Tick] 32) ⟨(zr _).alloc _,Bk.new _ _ _⟩ ?_
 rintro W ⟨e1,kA⟩;have HE0:=zh e1;obtain⟨d0,d1,d2,d3,d4,d5,d6⟩:=Bk.k7 kA;have KA:=zh kA;clear e1 kA;cases g:zG0 m
 ·go_wp2_with (go_at_call 10;refine(zAz _ m _ (H.out.ext HE0.out)).mono ?_;rintro e w0 ⟨rfl,he⟩;rw[g];have E:=zh (HE0.out.tr he);have KAx:=KA.out.ext he;have ltA:=KAx.lt;obtain⟨x0,x1,x2,x3,x4,x5,x6⟩:=Bk.k7 KAx;  clear he KAx)
  go_ret;exact⟨zA2 (by unfold zBs;rw[g];rfl),E.out⟩
 cases g1:zA8 n 0 ((m.Cores.length:Int) - 1)
 all_goals
  go_wp2_with (first
   | (go_at_call 10;refine(zAz _ m _ (H.out.ext HE0.out)).mono ?_;rintro e w0 ⟨rfl,he⟩;rw[g];have E:=zh (HE0.out.tr he);have KAx:=KA.out.ext he;have ltA:=KAx.lt;obtain⟨x0,x1,x2,x3,x4,x5,x6⟩:=Bk.k7 KAx;  clear he KAx)
   | (go_at_call 35;refine(zAj _ _ _ _).mono ?_;rintro e w9 ⟨rfl,rfl⟩;rw[g1]))
  go_ret;exact⟨zA2 (by unfold zBs;rw[g,g1];rfl),E.out⟩
theorem M.mix_rg(k:Int)(xs:List Int)(h0:0<=k)(h1:k<=1048572):rng (zHj k xs):=by
 have:0<=zHj k xs/\zHj k xs<=1048572:=by
  unfold zHj
  induction xs generalizing k with
  | nil=>exact⟨h0,h1⟩
  | cons x xs ih=>exact ih (zGx k x) (zHk k x).1 (zHk k x).2
 exact⟨by omega,by omega⟩
def zBe(m:Machine)(n:Nat):Nat->List Int
 | 0 => []
 | k+1=>zBe m n k ++ [zHj 7 (zBw (zC1 m (k+1)) n)]
theorem zD7(m:Machine)(n:Nat):∀ k,(zBe m n k).length=k:=by
 intro k
 induction k with
 | zero=>rfl
 | succ k ih=>unfold zBe;rw[List.length_append,ih];rfl
theorem zMh(m:Machine)(n:Nat):∀ k,∀ x∈zBe m n k,rng x:=by
 intro k
 induction k with
 | zero=>intro x hx;cases hx
 | succ k ih =>
  intro x hx;unfold zBe at hx;rcases List.mem_append.1 hx with h|h
  ·exact ih x h
  ·rw[List.mem_singleton.1 h];exact M.mix_rg 7 _ (by decide) (by decide)
noncomputable def zCy(m:Machine)(n t:Int):List Int:=if zBs m n=true/\zCa m t 200=true then zBe m n.toNat t.toNat else []
theorem zKc{m:Machine}{n t:Int}(h:zBs m n=false):zCy m n t = []:=if_neg (fun k=>by rw[h] at k;cases k.1)
theorem zKd{m:Machine}{n t:Int}(h:zCa m t 200=false):zCy m n t = []:=if_neg (fun k=>by rw[h] at k;cases k.2)
theorem zEr{m:Machine}{n t:Nat}(h:zBs m n=true)(h2:zCa m t 200=true):zCy m n t=zBe m n t:=if_pos ⟨h,h2⟩
def Bi(w:World)(g:Nat)(xs:List Int):Prop:=Bk w g (xs.map (Value.int .i64)) 3
theorem Bi.row{w:World}{g:Nat}(xs:List Int):∀ (o:Nat),(∀ x∈xs,rng x)->(∀ j x,xs[j]? = some x->w.cell? ⟨g,o+j,none⟩=some (.int .i64 x))->Row w g o xs []:=by
 induction xs with
 | nil=>intro o _ _;rfl
 | cons x xs ih =>
  intro o hr h;refine⟨[.int .i64 x],[],[],⟨rfl,hr x (List.mem_cons_self ..),rfl⟩,fun j u hj=>?_,rfl,ih (o+1) (fun y hy=>hr y (List.mem_cons_of_mem _ hy)) (fun j y hj=>?_)⟩
  ·match j,hj with
   | 0,hj=>cases hj;exact h 0 x rfl
  ·have:=h (j+1) y hj
   rwa [show o+(j+1)=o+1+j by omega] at this
theorem Bi.os{L:Nat}{w:World}{g:Nat}{xs:List Int}(h:Bi w g xs)(hL:L<=g)(hr:∀ x∈xs,rng x)(hl:xs.length<=9223372036854775807):Os L w (.slice (some ⟨g,0,none⟩) xs.length xs.length) xs:=by
 by_cases hx:xs = []
 ·subst hx;exact⟨[],⟨_,0,rfl,Nat.le_refl _,Nat.zero_le _,.inl ⟨rfl,rfl⟩⟩,Own.nil _ _⟩
 ·refine⟨[g],⟨_,xs.length,rfl,Nat.le_refl _,by simpa [maxLen] using hl,.inr ⟨hx,g,0,[],rfl,rfl,Bi.row xs 0 hr fun j x hj=>?_⟩⟩,by simp,fun k hk=>?_⟩
  ·rw[Nat.zero_add];unfold Bi at h;exact h.cell (by rw[List.getElem?_map,hj];rfl)
  ·obtain rfl:=List.mem_singleton.1 hk;exact⟨hL,_,_,h⟩
theorem Bi.set{w:World}{g:Nat}{xs:List Int}(h:Bi w g xs)(k:Nat)(z:Int):Bi (w.setCell ⟨g,k,none⟩ (.int .i64 z)) g (xs.set k z):=by
 unfold Bi at *
 have:=h.set k (.int .i64 z)
 rwa [List.map_set]
theorem Om.setO{α:Type}[GT α]{L:Nat}{w:World}{b o:Nat}{x : α}{F:List Nat}(h:Om L w b o x F){p:Addr}(hp:p.block < L)(u:Value):Om L (w.setCell p u) b o x F:=by
 obtain⟨cs,h1,h2,h3⟩:=h;have hne:∀ k∈b::F,k≠p.block:=fun k hk e=>by have:=(h3.2 k hk).1;omega
 exact⟨cs,GT.keep h1 (fun k hk=>zA3 (hne k (List.mem_cons_of_mem _ hk))),h2.keep (zA3 (hne b (List.mem_cons_self ..))),h3.set p u⟩
theorem Om.ge{α:Type}[GT α]{L:Nat}{w:World}{b o:Nat}{x : α}{F:List Nat}(h:Om L w b o x F):L<=b/\∀ k∈F,L<=k:=by
 obtain⟨cs,h1,h2,h3⟩:=h;exact⟨(h3.2 b (List.mem_cons_self ..)).1,fun k hk=>(h3.2 k (List.mem_cons_of_mem _ hk)).1⟩
theorem Bi.ext{w w':World}{g:Nat}{xs:List Int}(h:Bi w g xs)(he:Ext w w'):Bi w' g xs:=Bk.ext h he
theorem zG9(v:Value)(m:Machine)(n t:Int)(w:World)(h:Rv w v m) :
  Calls Tryz.prog 13 #[v,.int .i64 n,.int .i64 t] w fun e w' => ∃ v',e = .returned v'/\Os w.heap.size w' v' (zCy m n t)/\Ext w w':=by
 have H:=zh h;obtain⟨a0,c0,a1,c1,a2,c2,a3,c3,a4,c4,a5,c5,rfl,rt,h0,l0,h1,l1,h2,l2,h3,l3,h4,l4,h5,l5⟩:=h.openMachine;clear h h0 h1 h2 h3 h4 h5;go_enter Tryz.func13,Tryz.ntmps13;go_upto_region 1 with (fail)
 refine zA1 (fun W=>Ext w W/\Bk W w.heap.size [.slice a0 m.Plan.Parts.length c0,.slice a1 m.Plan.Channels.length c1,.slice a2 m.Plan.Slots.length c2,.slice a3 m.Programs.length c3,.slice a4 m.Cores.length c4,.slice a5 m.Holds.length c5,.int .i64 m.Tick] 32) ⟨(zr _).alloc _,Bk.new _ _ _⟩ ?_
 rintro W ⟨e1,kA⟩;have HE0:=zh e1;obtain⟨d0,d1,d2,d3,d4,d5,d6⟩:=Bk.k7 kA;have KA:=zh kA;clear e1 kA;cases g:zBs m n
 ·go_wp2_with (go_at_call 20;refine(zBh _ m n _ (H.out.ext HE0.out)).mono ?_;rintro e w0 ⟨rfl,he⟩;rw[g];have E:=zh (HE0.out.tr he);have KAx:=KA.out.ext he;have ltA:=KAx.lt;obtain⟨x0,x1,x2,x3,x4,x5,x6⟩:=Bk.k7 KAx;  clear he KAx)
  go_ret;exact⟨_,rfl,by rw[zKc g];exact(Oo.nil (α:=Int) 3 _ _).os,E.out⟩
 have RUN2:=zh (fun(u:World) (hE:Ext w u)=>zPp _ m t 200 u (H.out.ext hE) (by decide))
 cases g1:zCa m t 200
 ·go_wp2_with (first
   | (go_at_call 20;refine(zBh _ m n _ (H.out.ext HE0.out)).mono ?_;rintro e w0 ⟨rfl,he⟩;rw[g];have E:=zh (HE0.out.tr he);have KAx:=KA.out.ext he;have ltA:=KAx.lt;obtain⟨x0,x1,x2,x3,x4,x5,x6⟩:=Bk.k7 KAx;replace KA:=zh KAx;clear he KAx)
   | (go_at_call 39;refine(RUN2.out _ E.out).mono ?_;rintro e w1 ⟨rfl,he⟩;rw[g1];replace E:=zh (E.out.tr he);clear he))
  go_ret;exact⟨_,rfl,by rw[zKd g1];exact(Oo.nil (α:=Int) 3 _ _).os,E.out⟩
 obtain⟨hmv,hn0,hn1⟩:=zBt.1 g;obtain⟨_,⟨ht0,ht4⟩,hT⟩:=zEc.1 g1;obtain⟨N,rfl⟩:∃ N:Nat,n=N:=⟨n.toNat,by omega⟩
 obtain⟨T,rfl⟩:∃ T:Nat,t=T:=⟨t.toNat,by omega⟩
 have htk:=hmv.tick;have htot:GT.tot m<=1048576:=Nat.le_trans (zDx hmv) (by omega)
 have HV:=zh hmv;have hres:=zh (zEr g g1);have hNl:N < m.Cores.length:=by omega
 have hmk:∀ u:World,(Instr.makeSlice 41 (.int .i64 T) (.int .i64 T)).run Tryz.prog u = .ok (.slice (some ⟨u.heap.size,0,none⟩) T T) (u.alloc (.cells (madeCells #[.int .i64 0] (T*1)) 3)):=zJ9 T (by omega)
 clear hn0 hn1;go_upto_region 4 with (first
  | (go_at_call 20;refine(zBh _ m N _ (H.out.ext HE0.out)).mono ?_;rintro e w0 ⟨rfl,he⟩;rw[g];have E:=zh (HE0.out.tr he);have KAx:=KA.out.ext he;have ltA:=KAx.lt;obtain⟨x0,x1,x2,x3,x4,x5,x6⟩:=Bk.k7 KAx;replace KA:=zh KAx;clear he KAx)
  | (go_at_call 39;refine(RUN2.out _ E.out).mono ?_;rintro e w1 ⟨rfl,he⟩;rw[g1];replace E:=zh (E.out.tr he);replace KA:=zh (KA.out.ext he);clear he))
 clear hmk;refine zA1 (fun W=>Ext w1 W/\Bi W w1.heap.size (List.replicate T 0)) ⟨(zr _).alloc _,by have:=Bk.new w1 (List.replicate T (.int .i64 0)) 3;unfold Bi;rw[List.map_replicate];rw[<- zNw] at this;simpa using this⟩ ?_
 rintro w2 ⟨e2,bi⟩;have HBI:=zh bi;have hs01:=E.out.sz;have hs12:=e2.sz;have ltG:w1.heap.size < w2.heap.size:=Bk.lt bi;have E2:=zh (E.out.tr e2);obtain⟨y0,y1,y2,y3,y4,y5,y6⟩:=Bk.k7 (KA.out.ext e2);have ltA2:=(KA.out.ext e2).lt;clear e2 bi KA HE0;go_upto_region 5 with (go_at_call 21;refine(zCf _ m _ (H.out.ext E2.out) htot).mono ?_;rintro e w5 ⟨v5,rfl,hov,ex⟩;obtain⟨cs5,F5,rfl,hen,how⟩:=hov;obtain⟨v0,v1,v2,v3,v4,v5,G0,G1,G2,G3,G4,G5,rfl,⟨t0,u0,rfl,_⟩,⟨t1,u1,rfl,_⟩,⟨t2,u2,rfl,_⟩,⟨t3,u3,rfl,_⟩,⟨t4,u4,rfl,_⟩,⟨t5,u5,rfl,_⟩,_,_⟩:=id hen;have HEN:=zh hen;have HOW:=zh how;have EX:=zh ex;clear hen how ex)
 refine zA1 (fun W6=>Ext w5 W6/\Bk W6 w5.heap.size [.slice t0 m.Plan.Parts.length u0,.slice t1 m.Plan.Channels.length u1,.slice t2 m.Plan.Slots.length u2,.slice t3 m.Programs.length u3,.slice t4 m.Cores.length u4,.slice t5 m.Holds.length u5,.int .i64 m.Tick] 32) ⟨(zr _).alloc _,Bk.new _ _ _⟩ ?_
 rintro W6 ⟨E6,K6⟩;have hs05:=EX.out.sz;have hw0:=E2.out.sz;have om:Om w2.heap.size W6 w5.heap.size 0 m F5:=⟨_,GT.ext HEN.out E6,fun j u hj=>by rw[Nat.zero_add];exact K6.cell hj,List.nodup_cons.2 ⟨fun hm=>Nat.lt_irrefl _ (HOW.out.lt hm),HOW.out.1⟩,fun k hk=>by
  rcases List.mem_cons.1 hk with rfl|hk
  ·exact⟨hs05,⟨_,_,K6⟩⟩
  ·exact⟨(HOW.out.2 k hk).1,((HOW.out.2 k hk).2).ext E6⟩⟩
 have E7:=zh ((E2.out.tr EX.out).tr E6);have HBI6:=zh ((HBI.out.ext EX.out).ext E6);have HF:Hid (∀ x∈F5,w2.heap.size<=x):=zh (fun x hx=>(HOW.out.2 x hx).1)
 have hs6:=E6.sz;have OM0:=zh om;have hle6:w2.heap.size<=W6.heap.size:=by omega
 have hw2:w.heap.size<=w2.heap.size:=by omega
 clear om K6 E6 hmv HEN HOW EX E2 E HBI HF
 generalize w5.heap.size=B at *
 go_wp2;go_loopw [26] (fun i wr => ∃ (k:Nat) (Fk:List Nat),k<=T/\i = .int .i64 k/\Om w2.heap.size wr B 0 (zC1 m k) Fk/\Ext w wr/\Bi wr w1.heap.size (zBe m N k++List.replicate (T - k) 0)) (fun i _=>T - (intOf i).toNat)
 case atStart=>exact⟨0,F5,Nat.zero_le _,rfl,OM0.out,E7.out,by simpa [zBe] using HBI6.out⟩
 case round =>
  obtain⟨k,Fk,hk,rfl,om,er,bi⟩:=hrel;have OM:=zh om;have ER:=zh er;have BI:=zh bi;have HG:=zh om.ge;clear om er bi;by_cases hkt:k < T
  ·have hrv:=zEo HV.out k (by omega)
   have hrv1:=zEo HV.out (k+1) (by omega)
   have HR:=zh (zPq w2.heap.size B (zC1 m k) Fk wr OM.out (by have:=OM.out.bk.1;have:=HG.out.1;omega) hrv.1 (by rw[hrv.2.1];omega))
   have HV1:=zh hrv1.1;have hN1:N < (zC1 m (k+1)).Cores.length:=by rw[hrv1.2.2.2.2.1];exact hNl
   have hset:Hid ((zBe m N k++List.replicate (T - k) 0).set k (zHj 7 (zBw (zC1 m (k+1)) N))=zBe m N (k+1)++List.replicate (T - (k+1)) 0):=zh (set_fill _ _ _ _ _ hkt (zD7 m N k));have hget:(zBe m N k++List.replicate (T - k) 0)[k]? = some 0:=by
    rw[List.getElem?_append_right (by rw[zD7];omega),zD7,Nat.sub_self,List.getElem?_replicate,if_pos (by omega)]
   have HGET:=zh hget;clear hrv hrv1 hget
   go_wp2_with (first
    | (go_at_call 40;go_loud (refine HR.out.mono ?_;rintro e w7 ⟨rfl,F7,t7⟩;have OM7:=zh (show Om w2.heap.size w7 B 0 (zC1 m (k+1)) F7 from t7.om);have ER7:=zh (t7.ch.ext ER.out (Nat.le_trans hw2 HG.out.1) (fun x hx=>Nat.le_trans hw2 (HG.out.2 x hx)));have BI7:=zh (show Bi w7 w1.heap.size _ from t7.ch.bk BI.out (fun e=>by have:=HG.out.1;omega) (fun hx=>by have:=HG.out.2 _ hx;omega));clear t7))
    | (go_at_call 42;refine(zPr B (zC1 m (k+1)) N _ OM7.out.bm HV1.out hN1).mono ?_;rintro e w8 ⟨a8,rfl,ho,he⟩;have HO8:=zh ho.rs;have OM8:=zh (OM7.out.ext he);have ER8:=zh (ER7.out.tr he);have bx:=BI7.out.ext he;have c8:=Bk.cell (j:=k) bx (by rw[List.getElem?_map,HGET.out];rfl);have f8:=Bk.fz bx;have lt8:=Bk.lt bx;have BI8:=zh bx;clear ho he bx)
    | (go_at_call 41;refine(zJr _ (zBw (zC1 m (k+1)) N) 7 _ HO8.out (by decide) (by decide)).mono ?_;rintro e w9 ⟨rfl,rfl⟩))
   go_roundw
   case rel =>
    have bi9:=BI8.out.set k (zHj 7 (zBw (zC1 m (k+1)) N));rw[hset.out] at bi9;exact⟨k+1,F7,by omega,by go_num,OM8.out.setO ltG _,ER8.out.set hs01 _,bi9⟩
   case measure=>simp[intOf];omega
  ·obtain rfl:k=T:=by omega
   have HO:Hid (Os w.heap.size wr (.slice (some ⟨w1.heap.size,0,none⟩) k k) (zBe m N k)):=zh (by
    have h:=BI.out;rw[Nat.sub_self,List.replicate_zero,List.append_nil] at h
    have:=h.os hs01 (zMh m N k) (by rw[zD7];omega)
    rwa [zD7] at this)
   go_wp2;go_ret;exact⟨_,rfl,by rw[hres.out];exact HO.out,ER.out⟩
end Sk
