/- Contracts of functions of the given program. -/
import Derived.Test.YtbekofpkcahbkaaTickB
namespace Sk
open Go Go.Proofs Go.RowKit
set_option maxHeartbeats 4000000
set_option maxRecDepth 100000
set_option linter.unusedVariables false
set_option linter.unusedSimpArgs false
def zHq(T:TypeId)(L:Nat)(C:Nat)(F:List Nat)(D:Nat)(W wc:World)(o:Order)(r:Core):Prop :=
 ∃ F1:List Nat,Om L wc C 0 r F1/\Chg C 0 3 F W wc/\(∀ k∈F1,k∈F)/\Bk wc D [.int .i64 o.Op,.int .i64 o.A,.int .i64 o.B] T
theorem zHq.of{T:TypeId}{L C:Nat}{F F1:List Nat}{D:Nat}{W wc:World}{o:Order}{r:Core}{p:Addr}{u:Value}(h:Om L (W.setCell p u) C 0 r F1/\(∀ k∈F1,k∈F)/\Chg C 0 3 F W (W.setCell p u))(hq:Qt (W.setCell p u) wc)(hC:C < W.heap.size)(hpb:D≠p.block)(hD:Bk W D [.int .i64 o.Op,.int .i64 o.A,.int .i64 o.B] T):zHq T L C F D W wc o r:=by
 obtain⟨h1,h2,h3⟩:=h;exact⟨F1,h1.ext hq.ext,h3.tr (Chg.ofExt hq.ext (by simpa using hC)),h2,(hD.set_ne hpb _).ext hq.ext⟩
theorem zHq.same{T:TypeId}{L C:Nat}{F:List Nat}{D:Nat}{W wc:World}{o:Order}{r:Core}(h:Om L W C 0 r F)(hq:Qt W wc)(hC:C < W.heap.size)(hD:Bk W D [.int .i64 o.Op,.int .i64 o.A,.int .i64 o.B] T):zHq T L C F D W wc o r :=
 ⟨F,h.ext hq.ext,Chg.ofExt hq.ext hC,fun k hk=>hk,hD.ext hq.ext⟩
theorem Ov.extX{α:Type}[GT α]{L:Nat}{w w':World}{v:Value}{x : α}(h:Ov L w v x)(he:Ext w w'):Ov L w' v x:=by
 obtain⟨cs,F,e,h1,h2⟩:=h;exact⟨cs,F,e,GT.ext h1 he,h2.ext he⟩
theorem Om.coreOut{L:Nat}{W:World}{C:Nat}{r:Core}{F:List Nat}(h:Om L W C 0 r F):∃ ay cy,W.cell? ⟨C,0,none⟩=some (.slice ay r.Cells.length cy)/\W.cell? ⟨C,1,none⟩=some (.int .i64 r.At)/\W.cell? ⟨C,2,none⟩=some (.bool r.Stopped) /\
  ∀ (Wf:World) (lo:Nat),lo<=L->(∀ k,L<=k->Wf.heap[k]? = W.heap[k]?)->(∀ k,Fz W k->Fz Wf k)->Ov lo Wf (.agg #[.slice ay r.Cells.length cy,.int .i64 r.At,.bool r.Stopped]) r:=by
 obtain⟨cs,he,hat,ho⟩:=h;obtain⟨v0,rfl,h0,h1⟩:=id he;obtain⟨ay,cy,rfl,_⟩:=id h0;refine⟨ay,cy,by simpa using hat 0 _ rfl,by simpa using hat 1 _ rfl,by simpa using hat 2 _ rfl,fun Wf lo hlo hk hfz=>⟨_,F,rfl,GT.keep he (fun b hb=>hk b (ho.2 b (List.mem_cons_of_mem _ hb)).1),(List.nodup_cons.1 ho.1).2,fun b hb=>?_⟩⟩
 have:=ho.2 b (List.mem_cons_of_mem _ hb)
 exact⟨Nat.le_trans hlo this.1,hfz b this.2⟩
theorem zDh{w:World}{a:Option Addr}{n c:Nat}{xs:List Int}(h:Rs w (.slice a n c) xs)(k:Nat)(hk:k < xs.length):∃ b o,a=some ⟨b,o,none⟩/\b < w.heap.size/\w.cell? ⟨b,o+k,none⟩=some (.int .i64 (xs.getD k 0)):=by
 obtain⟨b,o,x,e,hb,hx,hc,_⟩:=h.atInt k hk;exact⟨b,o,e,hb,by rw[List.getD_eq_getElem?_getD,hx.out];exact hc⟩
theorem zGe(v vl:Value)(c:Core)(p:List Order)(q t:Int)(w:World)(h:Rv w v c)(hl:Rs w vl p)(hf:zAm c p.length q=true)(hp:zB7 p q=true)(ht0:0<=t)(ht:t<=1000000) :
  Calls Try.prog 73 #[v,vl,.int .i64 q,.int .i64 t] w fun e w' => ∃ v',e = .returned (.tuple #[v',.agg #[.int .i64 (zB2 c p t).2.Op,.int .i64 (zB2 c p t).2.A,.int .i64 (zB2 c p t).2.B]])/\Ov w.heap.size w' v' (zB2 c p t).1/\Ext w w':=by
 obtain⟨cs,at0,st⟩:=c;obtain⟨f1,f2,f3⟩:=zAh.1 hf;simp only at f1 f2 f3;obtain⟨A,rfl⟩:∃ A:Nat,at0=A:=⟨at0.toNat,by omega⟩
 obtain⟨b1,b2⟩:=zF0 hp;have hAl:A < p.length:=by omega
 obtain⟨o,ho,hov⟩:=zG6 hp hAl;have H:=zh h;obtain⟨a0,c0,rfl,hrA,hs0,hl0⟩:=h.openCore;simp only at hrA hl0 H ⊢;obtain⟨al,cl,rfl,hll⟩:=hl.form;have HL:=zh hl;have HCV:Hid ((zB7 p q && zAm (⟨cs,(A:Int),st⟩:Core) p.length q)=true):=zh (by rw[hp,hf];rfl)
 have hlen:cs.length<=8:=by omega
 have htot:GT.tot (⟨cs,(A:Int),st⟩:Core)<=1048576:=by show GT.tot cs<=_;rw[zGh];omega
 clear h hl hs0;go_enter Try.func73,Try.ntmps73;go_upto_region 1 with (fail)
 refine zA2 (fun W=>Ext w W/\Bk W w.heap.size [.slice a0 cs.length c0,.int .i64 (A:Int),.bool st] 63/\Bk W (w.heap.size+1) [.slice none 0 0,.int .i64 0,.bool false] 63/\Bk W (w.heap.size+1+1) [.int .i64 0,.int .i64 0,.int .i64 0] 98) ⟨(((zr _).alloc _).alloc _).alloc _,((Bk.new _ _ _).ext ((zr _).alloc _)).ext ((zr _).alloc _),(Bk.new1 _ _ _ _).ext ((zr _).alloc _),Bk.new2 _ _ _ _ _⟩ ?_
 rintro W0 ⟨e1,kA,kB,kO⟩;obtain⟨d0,d1,d2⟩:=Bk.k3 kA;have ltA:=kA.lt;have E0:=zh e1;have KA:=zh kA;have KB:=zh kB;have KO:=zh kO;clear e1 kA kB kO;go_upto_region 2 with (go_at_call 87;refine(zFl _ ⟨cs,(A:Int),st⟩ _ (H.out.ext E0.out) htot).mono ?_;rintro e w1 ⟨v1,rfl,ho,he⟩;obtain⟨a1,c1,rfl,hr1,hs1,hl1⟩:=ho.rv.openCore;simp only at hr1 hl1 ho ⊢;have HO1:=zh ho;have HE1:=zh he;have kA1:=KA.out.ext he;obtain⟨g0,g1,g2⟩:=Bk.k3 kA1;have gf:=kA1.fz;have ltA1:=kA1.lt;have KA1:=zh kA1;clear ho he kA1 hs1)
 have KP:=zh (((KA1.out.set 0 (.slice a1 cs.length c1)).set 1 (.int .i64 (A:Int))).set 2 (.bool st));have KR:=zh ((((KB.out.ext HE1.out).set_ne (p:=⟨w.heap.size,0,none⟩) (by show w.heap.size+1≠w.heap.size;omega) (.slice a1 cs.length c1)).set_ne (p:=⟨w.heap.size,1,none⟩) (by show w.heap.size+1≠w.heap.size;omega) (.int .i64 (A:Int))).set_ne (p:=⟨w.heap.size,2,none⟩) (by show w.heap.size+1≠w.heap.size;omega) (.bool st))
 have KS:=zh ((((KO.out.ext HE1.out).set_ne (p:=⟨w.heap.size,0,none⟩) (by show w.heap.size+1+1≠w.heap.size;omega) (.slice a1 cs.length c1)).set_ne (p:=⟨w.heap.size,1,none⟩) (by show w.heap.size+1+1≠w.heap.size;omega) (.int .i64 (A:Int))).set_ne (p:=⟨w.heap.size,2,none⟩) (by show w.heap.size+1+1≠w.heap.size;omega) (.bool st))
 have EW:=zh ((((E0.out.tr HE1.out).set (p:=⟨w.heap.size,0,none⟩) (Nat.le_refl _) (.slice a1 cs.length c1)).set (p:=⟨w.heap.size,1,none⟩) (Nat.le_refl _) (.int .i64 (A:Int))).set (p:=⟨w.heap.size,2,none⟩) (Nat.le_refl _) (.bool st));have HRv:Hid (Rv (((w1.setCell ⟨w.heap.size,0,none⟩ (.slice a1 cs.length c1)).setCell ⟨w.heap.size,1,none⟩ (.int .i64 (A:Int))).setCell ⟨w.heap.size,2,none⟩ (.bool st)) (.agg #[.slice a1 cs.length c1,.int .i64 (A:Int),.bool st]) (⟨cs,(A:Int),st⟩:Core)):=zh (by
  obtain⟨cs,F,hcs,he,ho⟩:=HO1.out;have hn:∀ z∈F,z≠w.heap.size:=fun z hz e=>by have:=(ho.2 z hz).1;omega
  exact⟨cs,F,hcs,GT.keep he (fun z hz=>(zA3 (hn z hz)).trans ((zA3 (hn z hz)).trans (zA3 (hn z hz))))⟩)
 refine zA2 (fun W=>Ext w W/\Bk W w.heap.size [.slice a1 cs.length c1,.int .i64 (A:Int),.bool st] 63/\Bk W (w.heap.size+1) [.slice none 0 0,.int .i64 0,.bool false] 63/\Bk W (w.heap.size+1+1) [.int .i64 0,.int .i64 0,.int .i64 0] 98/\Rv W (.agg #[.slice a1 cs.length c1,.int .i64 (A:Int),.bool st]) (⟨cs,(A:Int),st⟩:Core)) ⟨EW.out,KP.out,KR.out,KS.out,HRv.out⟩ ?_
 rintro W ⟨e2,kP,kR,kS,rv⟩;clear KA1 KP KR KS EW HRv HO1 HE1 g0 g1 g2 gf ltA1 d0 d1 d2 KO;obtain⟨a1',c1',e1',_,hsl,_⟩:=rv.openCore;simp only at e1' hsl;obtain⟨rfl,rfl⟩:a1=a1'/\c1=c1':=by
  have:=zD9 e1'
  simp at this;exact⟨this.1,this.2⟩
 clear e1';obtain⟨p0,p1,p2⟩:=Bk.k3 kP;have E:=zh e2;have KP:=zh kP;have KR:=zh kR;have KS:=zh kS;have RV:=zh rv;clear e2 kP kR kS rv E0 KA KB ltA;go_upto_region 4 with (go_at_call 29;refine(zCr _ _ ⟨cs,(A:Int),st⟩ p q _ RV.out (HL.out.ext E.out)).mono ?_;rintro e w2 ⟨rfl,he⟩;rw[HCV.out];have E2:=zh (E.out.tr he);have KR2:=zh (KR.out.ext he);have KS2:=zh (KS.out.ext he);have KP2:=zh (KP.out.ext he);have HS2:=zh (hsl.out.ext he);clear he)
 clear p0 p1 p2 KP KR KS hsl E RV;have ltP2:=KP2.out.lt;obtain⟨p0,p1,p2⟩:=Bk.k3 KP2.out;refine zC1 rfl 10 [(25,[25]),(26,[26]),(27,[27]),(28,[28]),(29,[29]),(30,[30]),(31,[31]),(32,[32]),(33,[33,28]),(10,[10])]
  (fun i vs u F=>match i,vs with
   | 0,[y] => ∃ B,y = .slice (some ⟨B,0,none⟩) 0 0
   | 1,[y]=>y = .pointer (some ⟨w.heap.size,0,none⟩)
   | 2,[y]=>y = .slice a1 cs.length c1
   | 3,[y]=>Sl u y cs F
   | 4,[y]=>y = .pointer (some ⟨w.heap.size,1,none⟩)
   | 5,[y]=>y = .int .i64 (A:Int)
   | 6,[y]=>y = .pointer (some ⟨w.heap.size,2,none⟩)
   | 7,[y]=>y = .bool st
   | 8,[y,z]=>y = .agg #[z,.int .i64 (A:Int),.bool st]
   | 9,[y] => ∃ B,y = .pointer (some ⟨B,0,none⟩)/\F = [B]/\Bk u B [.slice none 0 0,.int .i64 0,.bool false] 63
   | _,_=>False) (by decide +kernel) ?_ ?_
 ·intro i hi oo hoo U u F hE hd hap;have i0:=(zA0 hE ltP2).trans p0;have i1:=(zA0 hE ltP2).trans p1;have i2:=(zA0 hE ltP2).trans p2;rcases(by omega:i=0\/i=1\/i=2\/i=3\/i=4\/i=5\/i=6\/i=7\/i=8\/i=9) with rfl|rfl|rfl|rfl|rfl|rfl|rfl|rfl|rfl|rfl
  ·cases hoo;simp only[fr];intro K hK;go_wp2;exact hK _ [] _ ((zr u).alloc _) (fun _ _=>⟨_,rfl⟩) (Own.nil _ _)
  ·cases hoo;simp only[fr];intro K hK;go_wp2;exact zk hK _ (fun _ _=>rfl)
  ·cases hoo;simp only[fr];obtain⟨⟨d1,-⟩,-⟩:=fa [1] (by decide +kernel) hd
   simp only[fu] at d1;try simp only[d1]
   clear d1;intro K hK;go_wp2;exact zk hK _ (fun _ _=>rfl)
  ·cases hoo;simp only[fr];obtain⟨⟨d0,o0⟩,⟨d1,-⟩,⟨d2,-⟩,-⟩:=fa [0,1,2] (by decide +kernel) hd
   simp only[fu] at d0 d1 d2;try simp only[d1,d2]
   obtain⟨B,d0⟩:=d0;simp only[d0];intro K hK;refine zD2 (α:=Int) rfl _ _ 61 rfl 3 Try.underlying61 zEs rfl rfl (HS2.out.ext hE) (by omega) ?_
   intro v' w' F' s1 o1 e1;go_wp2;exact hK _ F' _ e1 (fun _ h=>s1.ext h) o1
  ·cases hoo;simp only[fr];intro K hK;go_wp2;exact zk hK _ (fun _ _=>rfl)
  ·cases hoo;simp only[fr];obtain⟨⟨d4,-⟩,-⟩:=fa [4] (by decide +kernel) hd
   simp only[fu] at d4;try simp only[d4]
   clear d4;intro K hK;go_wp2;exact zk hK _ (fun _ _=>rfl)
  ·cases hoo;simp only[fr];intro K hK;go_wp2;exact zk hK _ (fun _ _=>rfl)
  ·cases hoo;simp only[fr];obtain⟨⟨d6,-⟩,-⟩:=fa [6] (by decide +kernel) hd
   simp only[fu] at d6;try simp only[d6]
   clear d6;intro K hK;go_wp2;exact zk hK _ (fun _ _=>rfl)
  ·cases hoo;simp only[fr];obtain⟨⟨d0,o0⟩,⟨d1,-⟩,⟨d2,-⟩,⟨d3,o3⟩,⟨d4,-⟩,⟨d5,-⟩,⟨d6,-⟩,⟨d7,-⟩,-⟩:=fa [0,1,2,3,4,5,6,7] (by decide +kernel) hd
   simp only[fu] at d0 d1 d2 d3 d4 d5 d6 d7;try simp only[d1,d2,d4,d5,d6,d7]
   obtain⟨p9,q9,e9,_⟩:=id d3;simp only[e9];intro K hK;go_wp2;exact zk hK _ (fun _ _=>by show Value.agg _=Value.agg #[U 28,_,_];rw[e9])
  ·cases hoo;simp only[fr];intro K hK;go_wp2;have b1:=Bk.new u [.slice none 0 0,.int .i64 0,.bool false] 63;exact hK _ [u.heap.size] _ ((zr u).alloc _) (fun _ h=>⟨_,rfl,rfl,b1.ext h⟩) (b1.own (Nat.le_refl _))
 intro oo hoo U u G hE hφ hap;cases hoo;simp only[fr];obtain⟨⟨d0,o0⟩,⟨d1,-⟩,⟨d2,-⟩,⟨d3,o3⟩,⟨d4,-⟩,⟨d5,-⟩,⟨d6,-⟩,⟨d7,-⟩,⟨d8,-⟩,⟨d9,o9⟩,-⟩:=fb [0,1,2,3,4,5,6,7,8,9] (by decide +kernel) hφ
 simp only[fu] at d0 d1 d2 d3 d4 d5 d6 d7 d8 d9;try simp only[d1,d2,d4,d5,d6,d7,d8]
 obtain⟨C,e9,eg9,kC⟩:=d9;obtain⟨px,qx,ex,lx⟩:=id d3;have ap:=hap 3 9 (by omega) (by omega) (by omega)
 rw[eg9] at o9 ap;have lC:w2.heap.size<=C:=(o9.2 C (by simp)).1
 have nC:C ∉ G 3:=ap.one;have o3':=o3;have d3':=d3
 generalize G 3=F at *
 rw[ex] at d8 d3';simp only[e9,d8];have hO:Om w2.heap.size (((u.setCell ⟨C,0,none⟩ (.slice px cs.length qx)).setCell ⟨C,1,none⟩ (.int .i64 (A:Int))).setCell ⟨C,2,none⟩ (.bool st)) C 0 (⟨cs,(A:Int),st⟩:Core) F:=by
  refine⟨[.slice px cs.length qx,.int .i64 (A:Int),.bool st],⟨_,rfl,((d3'.set (p:=⟨C,0,none⟩) nC _).set (p:=⟨C,1,none⟩) nC _).set (p:=⟨C,2,none⟩) nC _,hrA⟩,fun j y hj=>?_,List.nodup_cons.2 ⟨nC,o3'.1⟩,fun k hk=>?_⟩
  ·have kk:=((kC.set 0 (.slice px cs.length qx)).set 1 (.int .i64 (A:Int))).set 2 (.bool st);rw[Nat.zero_add];exact kk.cell hj
  ·rcases List.mem_cons.1 hk with rfl|hk
   ·exact⟨lC,((Fz.set ⟨_,_,kC⟩ _ _).set _ _).set _ _⟩
   ·exact⟨(o3'.2 k hk).1,(((o3'.2 k hk).2.set _ _).set _ _).set _ _⟩
 have EX:=zh (((hE.set (p:=⟨C,0,none⟩) lC (.slice px cs.length qx)).set (p:=⟨C,1,none⟩) lC (.int .i64 (A:Int))).set (p:=⟨C,2,none⟩) lC (.bool st));have HOX:=zh hO;have kCf:=kC.fz;obtain⟨x0,x1,x2⟩:=Bk.k3 kC;clear hO hE hφ hap ap d0 d1 d2 d3 d4 d5 d6 d7 d8 o0 o3 o9 kC d3' lx;go_upto_region 5 with (fail)
 refine zA2 (fun W=>Ext w2 W/\Om w2.heap.size W C 0 (⟨cs,(A:Int),st⟩:Core) F) ⟨EX.out,HOX.out⟩ ?_
 rintro W3 ⟨e3,om3⟩;clear EX HOX x0 x1 x2 kCf o3' eg9 ex e9;have KP3:=zh (KP2.out.ext e3);have KR3:=zh (KR2.out.ext e3);have KS3:=zh (KS2.out.ext e3);have HS3:=zh (HS2.out.ext e3);have E3:=zh (E2.out.tr e3);have HL3:=zh (HL.out.ext E3.out);have OM3:=zh om3;obtain⟨p0,p1,p2⟩:=Bk.k3 KP3.out;obtain⟨r0,r1,r2⟩:=Bk.k3 KR3.out;have rf:=KR3.out.fz;obtain⟨s0,s1,s2⟩:=Bk.k3 KS3.out;have sf:=KS3.out.fz;obtain⟨ax,cx,x0,x1,x2,_,_⟩:=om3.openC;rw[Nat.zero_add] at x1 x2;simp only at x0 x1 x2;have xf:=om3.bk.2.2.2;have ltX:=om3.bk.1;have ltR3:=KR3.out.lt;have ltS3:=KS3.out.lt;have hlt2:=KS2.out.lt;have hCR:C≠w.heap.size+1:=by omega
 have hCS:C≠w.heap.size+1+1:=by omega
 clear om3;have hC2:w2.heap.size<=C:=(zh lC).out;have hF2:∀ k∈F,w2.heap.size<=k:=fun k hk=>by obtain⟨_,_,_,ho⟩:=id OM3.out;exact(ho.2 k (List.mem_cons_of_mem _ hk)).1
 have HF2:=zh hF2;clear hF2;cases st with
 | true =>
  have hE:Hid (zB2 ⟨cs,(A:Int),true⟩ p t=(⟨cs,(A:Int),true⟩,M.oz)):=zh rfl;clear x0 x1 x2;obtain⟨ay,cy,w0',w1',w2',hov⟩:=OM3.out.coreOut;simp only at w0' w1' w2' hov;have kz0:=KR3.out.set 0 (.slice ay cs.length cy);have kz1:=kz0.set 1 (.int .i64 A);have kz2:=kz1.set 2 (.bool true);have zz0:=kz0.cell (j:=0) rfl;have zz1:=kz1.cell (j:=1) rfl;have zz2:=kz2.cell (j:=2) rfl;have ky:=((KS3.out.set_ne (p:=⟨w.heap.size+1,0,none⟩) (by show w.heap.size+1+1≠w.heap.size+1;omega) (.slice ay cs.length cy)).set_ne (p:=⟨w.heap.size+1,1,none⟩) (by show w.heap.size+1+1≠w.heap.size+1;omega) (.int .i64 A)).set_ne (p:=⟨w.heap.size+1,2,none⟩) (by show w.heap.size+1+1≠w.heap.size+1;omega) (.bool true)
  have ky0:=ky.set 0 (.int .i64 0);have ky1:=ky0.set 1 (.int .i64 0);have ky2:=ky1.set 2 (.int .i64 0);have qq0:=ky0.cell (j:=0) rfl;have qq1:=ky1.cell (j:=1) rfl;have qq2:=ky2.cell (j:=2) rfl;clear kz0 kz1 kz2 ky ky0 ky1 ky2;go_wp2;refine bodyPost_ret (v:=.tuple #[.agg #[.slice ay cs.length cy,.int .i64 A,.bool true],.agg #[.int .i64 0,.int .i64 0,.int .i64 0]]) (by simp[results,Try.results73,go_sem,zz0,zz1,zz2,qq0,qq1,qq2]) rfl ⟨_,by rw[hE.out];rfl,?_,?_⟩
  ·rw[hE.out];exact hov _ _ (by have:=E3.out.sz;omega) (fun k hk=>(zA3 (by show k≠w.heap.size+1+1;omega)).trans ((zA3 (by show k≠w.heap.size+1+1;omega)).trans ((zA3 (by show k≠w.heap.size+1+1;omega)).trans ((zA3 (by show k≠w.heap.size+1;omega)).trans ((zA3 (by show k≠w.heap.size+1;omega)).trans (zA3 (by show k≠w.heap.size+1;omega))))))) (fun k hk=>(((((hk.set _ _).set _ _).set _ _).set _ _).set _ _).set _ _)
  ·exact(((((E3.out.set (by show w.heap.size<=w.heap.size+1;omega) _).set (by show w.heap.size<=w.heap.size+1;omega) _).set (by show w.heap.size<=w.heap.size+1;omega) _).set (by show w.heap.size<=w.heap.size+1+1;omega) _).set (by show w.heap.size<=w.heap.size+1+1;omega) _).set (by show w.heap.size<=w.heap.size+1+1;omega) _
 | false =>
  obtain⟨obk,oo,o',rfl,hob,ho',l0,l1,l2,ro0,ro1,ro2,_⟩:=HL3.out.atOrder A hAl;obtain rfl:o'=o:=Option.some.inj (ho'.out.symm.trans ho);clear ho';obtain⟨nx,hnx⟩:∃ nx:Nat,(A+1) % p.length=nx:=⟨_,rfl⟩;have hnl:nx < p.length:=by rw[<- hnx];exact Nat.mod_lt _ (by omega)
  have hE:Hid (zB2 (⟨cs,(A:Int),false⟩:Core) p t=(zAx (⟨cs,(A:Int),false⟩:Core) p.length t o',o')):=zh (by
   unfold zB2;rw[if_neg (by simp)]
   show(zAx _ _ _ (p.getD (A:Int).toNat M.oz),p.getD (A:Int).toNat M.oz)=_
   rw[Int.toNat_natCast,List.getD_eq_getElem?_getD,ho];rfl)
  have hm:((A:Int)+1).tmod (p.length:Int)=(nx:Int):=by rw[<- hnx];exact Int.ofNat_tmod _ _
  have hAt:Hid ((A+1) % p.length=nx):=zh hnx;have hne:(p.length:Int)≠0:=by omega
  have rn:rng (nx:Int):=⟨by omega,by omega⟩
  obtain⟨op,oa,obb⟩:=o';simp only at ro0 ro1 ro2 l0 l1 l2 hov;have hcs:=zCs hov;simp only at hcs;clear ho hnx hov;go_upto_region 8 with (fail)
  refine zA2 (fun W=>Ext W3 W/\Bk W W3.heap.size [.int .i64 op,.int .i64 oa,.int .i64 obb] 98) ⟨(zr _).alloc _,Bk.new _ _ _⟩ ?_
  rintro W4 ⟨e4,kD⟩;have KD4:=zh kD;have E24:=zh (e3.tr e4);have OM4:=zh (OM3.out.ext e4);obtain⟨F5,om5,sub5,ch5⟩:=OM4.out.putAt nx rn;rw[Nat.zero_add] at om5 ch5;have p14:=(KP3.out.ext e4).cell (j:=1) rfl;have x14:=(zA0 e4 ltX).trans x1;have xf4:=OM4.out.bk.2.2.2;have hDC:W3.heap.size≠C:=by omega
  have KDs:=zh (KD4.out.set_ne (p:=⟨C,1,none⟩) hDC (.int .i64 nx));have EXs:=zh (E24.out.set (p:=⟨C,1,none⟩) hC2 (.int .i64 nx));have OMs:=zh om5;have SUB5:Hid (∀ k∈F5,w2.heap.size<=k/\k < W3.heap.size):=zh (fun k hk=>⟨HF2.out k (sub5 k hk),by obtain⟨_,_,_,ho⟩:=id OM3.out;exact ho.lt (List.mem_cons_of_mem _ (sub5 k hk))⟩)
  clear om5 ch5 sub5 kD e4 x0 x1 x2 r0 r1 r2 rf s0 s1 s2 sf p0 p1 p2 xf
  generalize hD:W3.heap.size=D at *
  go_upto_region 9 with (fail)
  refine zA2 (fun W=>Ext w2 W/\Om w2.heap.size W C 0 (⟨cs,(nx:Int),false⟩:Core) F5/\Bk W D [.int .i64 op,.int .i64 oa,.int .i64 obb] 98) ⟨EXs.out,OMs.out,KDs.out⟩ ?_
  rintro W5 ⟨e5,om5,kD5⟩;have E5:=zh e5;have OM5:=zh om5;have KD5:=zh kD5;have HS5:=zh (HS2.out.ext e5);have KP5:=KP2.out.ext e5;have p05:=KP5.cell (j:=0) rfl;have p15:=KP5.cell (j:=1) rfl;obtain⟨d0,d1,d2⟩:=Bk.k3 kD5;obtain⟨ax5,cx5,x05,x15,x25,-,-⟩:=om5.openC;rw[Nat.zero_add] at x15 x25;simp only at x05 x15 x25;have xf5:=om5.bk.2.2.2;have ltC5:=om5.bk.1;have HF5l:Hid (∀ k∈F5,k < D):=zh (fun k hk=>(SUB5.out k hk).2)
  have hCD:C < D:=by omega
  clear EXs OMs KDs OM4 OM3 e5 om5 kD5 KP5 p14 x14 xf4 KD4 E24 l0 l1 l2;go_upto_block 0 with (fail)
  go_cut [] from 50 (fun wc=>zHq 98 w2.heap.size C F5 D W5 wc ⟨op,oa,obb⟩ (zAx (⟨cs,(A:Int),false⟩:Core) p.length t ⟨op,oa,obb⟩))
  case first =>
   rcases hcs with ⟨rfl,hc1,hc2⟩ | ⟨rfl,hc1,hc2⟩ | ⟨rfl,hc1,hc2⟩ | ⟨rfl,hc1,hc2⟩ | ⟨rfl,hc1,hc2⟩ | ⟨rfl,hc1,hc2⟩ | ⟨rfl,hc1,rfl⟩ | ⟨rfl|rfl,rfl,rfl⟩
   ·obtain⟨ia,rfl⟩:∃ ia:Nat,oa=ia:=⟨oa.toNat,by omega⟩
    have hia:ia < cs.length:=by omega
    obtain⟨g2,s2,rfl,hg2,hg2F,ltg2,z0,gf2,rg2,hput⟩:=OM5.out.cellC x05 ia hia;have hDg:D≠g2:=fun e=>by have:=HF5l.out g2 hg2F;omega
    go_wp2;go_meet
    obtain⟨F1,h⟩:=hput obb ro2;rw[(show zAx (⟨cs,(A:Int),false⟩:Core) p.length t ⟨1,ia,obb⟩=⟨cs.set ia obb,nx,false⟩ by rw[<- hAt.out];rfl)]
    exact zHq.of h (Qt.refl _) ltC5 hDg KD5.out
   ·obtain⟨ia,rfl⟩:∃ ia:Nat,oa=ia:=⟨oa.toNat,by omega⟩
    have hia:ia < cs.length:=by omega
    obtain⟨g2,s2,rfl,hg2,hg2F,ltg2,z0,gf2,rg2,hput⟩:=OM5.out.cellC x05 ia hia;have hDg:D≠g2:=fun e=>by have:=HF5l.out g2 hg2F;omega
    obtain⟨ba,oa2,ea,hba,hca⟩:=zDh HS5.out ia hia;subst ea;obtain⟨ib,rfl⟩:∃ ib:Nat,obb=ib:=⟨obb.toNat,by omega⟩
    have hib:ib < cs.length:=by omega
    obtain⟨bb,ob2,eb,hbb,hcb⟩:=zDh HS5.out ib hib;obtain⟨rfl,rfl⟩:ba=bb/\oa2=ob2:=by cases eb;exact⟨rfl,rfl⟩
    clear eb;have hvx:=zCd f3 ia;obtain⟨x,hx⟩:∃ x,cs.getD ia 0=x:=⟨_,rfl⟩;rw[hx] at hvx hca;have hvy:=zCd f3 ib;obtain⟨y,hy⟩:∃ y,cs.getD ib 0=y:=⟨_,rfl⟩;rw[hy] at hvy hcb;have hm2:(x+y).tmod 256=(x+y) % 256:=Int.tmod_eq_emod_of_nonneg (by omega)
    have hxy1 : -9223372036854775808<=x+y:=by omega
    have hxy2:x+y<=9223372036854775807:=by omega
    obtain⟨z,hz⟩:∃ z,(x+y) % 256=z:=⟨_,rfl⟩;have hzr:rng z:=⟨by omega,by omega⟩
    have HZ:=zh (show(cs.getD ia 0+cs.getD ib 0) % 256=z by rw[hx,hy];exact hz)
    rw[hz] at hm2;clear hz hx hy;go_upto_region 13 with (fail)
    refine zAi 18 (by kernel_rfl) (by kernel_rfl) ?_
    simp only[List.take_succ_cons,List.take_zero,List.drop_succ_cons,List.drop_zero]
    repeat (go_big_quiet_step (fail))
    refine wpQuiet_nil ?_;go_wp2;go_meet
    obtain⟨F1,h⟩:=hput z hzr;rw[(show zAx (⟨cs,(A:Int),false⟩:Core) p.length t ⟨2,ia,ib⟩=⟨cs.set ia z,nx,false⟩ by rw[<- hAt.out,<- HZ.out];rfl)]
    exact zHq.of h (Qt.mk 1) ltC5 hDg KD5.out
   ·obtain⟨ia,rfl⟩:∃ ia:Nat,oa=ia:=⟨oa.toNat,by omega⟩
    have hia:ia < cs.length:=by omega
    obtain⟨g2,s2,rfl,hg2,hg2F,ltg2,z0,gf2,rg2,hput⟩:=OM5.out.cellC x05 ia hia;have hDg:D≠g2:=fun e=>by have:=HF5l.out g2 hg2F;omega
    obtain⟨ib,rfl⟩:∃ ib:Nat,obb=ib:=⟨obb.toNat,by omega⟩
    have hib:ib < cs.length:=by omega
    obtain⟨bb,ob2,eb,hbb,hcb⟩:=zDh HS5.out ib hib;subst eb;have hvx:=zCd f3 ib;obtain⟨x,hx⟩:∃ x,cs.getD ib 0=x:=⟨_,rfl⟩;rw[hx] at hcb hvx;have HZ:=zh hx;have hxr:rng x:=⟨by omega,by omega⟩
    clear hx;go_upto_region 15 with (fail)
    refine zAi 10 (by kernel_rfl) (by kernel_rfl) ?_
    simp only[List.take_succ_cons,List.take_zero,List.drop_succ_cons,List.drop_zero]
    repeat (go_big_quiet_step (fail))
    refine wpQuiet_nil ?_;go_wp2;go_meet
    obtain⟨F1,h⟩:=hput x hxr;rw[(show zAx (⟨cs,(A:Int),false⟩:Core) p.length t ⟨3,ia,ib⟩=⟨cs.set ia x,nx,false⟩ by rw[<- hAt.out,<- HZ.out];rfl)]
    exact zHq.of h (Qt.mk 1) ltC5 hDg KD5.out
   ·obtain⟨ib,rfl⟩:∃ ib:Nat,obb=ib:=⟨obb.toNat,by omega⟩
    have hib:ib < cs.length:=by omega
    obtain⟨bb,ob2,eb,hbb,hcb⟩:=zDh HS5.out ib hib;subst eb;obtain⟨x,hx⟩:∃ x,cs.getD ib 0=x:=⟨_,rfl⟩;rw[hx] at hcb;have HX:=zh hx;clear hx;have hDC2:D≠C:=by omega
    cases hx0:(x == 0)
    ·have HN:=zh hx0;go_wp2;go_meet
     rw[(show zAx (⟨cs,(A:Int),false⟩:Core) p.length t ⟨4,oa,ib⟩=⟨cs,nx,false⟩ by rw[zId (by show ¬ cs.getD ib 0=0;rw[HX.out];simpa using HN.out),<- hAt.out];rfl)]
     exact zHq.same OM5.out (Qt.refl _) ltC5 KD5.out
    ·have HN:=zh hx0;obtain⟨F1,h⟩:=OM5.out.putAt oa ro1;rw[Nat.zero_add] at h;replace h:=zh h;go_wp2;go_meet
     rw[(show zAx (⟨cs,(A:Int),false⟩:Core) p.length t ⟨4,oa,ib⟩=⟨cs,oa,false⟩ by rw[zIe (by show cs.getD ib 0=0;rw[HX.out];simpa using HN.out)])]
     exact zHq.of h.out (Qt.refl _) ltC5 hDC2 KD5.out
   ·go_wp2;go_meet
    rw[(show zAx (⟨cs,(A:Int),false⟩:Core) p.length t ⟨5,oa,obb⟩=⟨cs,nx,false⟩ by rw[<- hAt.out];rfl)]
    exact zHq.same OM5.out (Qt.refl _) ltC5 KD5.out
   ·go_wp2;go_meet
    rw[(show zAx (⟨cs,(A:Int),false⟩:Core) p.length t ⟨6,oa,obb⟩=⟨cs,nx,false⟩ by rw[<- hAt.out];rfl)]
    exact zHq.same OM5.out (Qt.refl _) ltC5 KD5.out
   ·obtain⟨ia,rfl⟩:∃ ia:Nat,oa=ia:=⟨oa.toNat,by omega⟩
    have hia:ia < cs.length:=by omega
    obtain⟨g2,s2,rfl,hg2,hg2F,ltg2,z0,gf2,rg2,hput⟩:=OM5.out.cellC x05 ia hia;have hDg:D≠g2:=fun e=>by have:=HF5l.out g2 hg2F;omega
    have hm2:t.tmod 256=t % 256:=Int.tmod_eq_emod_of_nonneg ht0;obtain⟨z,hz⟩:∃ z,t % 256=z:=⟨_,rfl⟩;have hzr:rng z:=⟨by omega,by omega⟩
    have HZ:=zh hz;rw[hz] at hm2;clear hz;go_wp2;go_meet
    obtain⟨F1,h⟩:=hput z hzr;rw[(show zAx (⟨cs,(A:Int),false⟩:Core) p.length t ⟨7,ia,0⟩=⟨cs.set ia z,nx,false⟩ by rw[<- hAt.out,<- HZ.out];rfl)]
    exact zHq.of h (Qt.refl _) ltC5 hDg KD5.out
   ·go_wp2;go_meet
    rw[(show zAx (⟨cs,(A:Int),false⟩:Core) p.length t ⟨0,0,0⟩=⟨cs,nx,false⟩ by rw[<- hAt.out];rfl)]
    exact zHq.same OM5.out (Qt.refl _) ltC5 KD5.out
   ·have hDC2:D≠C:=by omega
    obtain⟨F1,h1,h2,h3⟩:=OM5.out.putStop true;rw[Nat.zero_add] at h1 h3;obtain⟨F2,g1,g2,g3⟩:=h1.putAt A hrA;rw[Nat.zero_add] at g1 g3;have HH:=zh (And.intro g1 (And.intro (fun k hk=>h2 k (g2 k hk)) (h3.trF g3 (fun z hz => .inl (h2 z hz)))))
    have KDf:=zh ((KD5.out.set_ne (p:=⟨C,2,none⟩) hDC2 (.bool true)).set_ne (p:=⟨C,1,none⟩) hDC2 (.int .i64 A));clear h1 h2 h3 g1 g2 g3;go_wp2;go_meet
    exact⟨F2,HH.out.1,HH.out.2.2,HH.out.2.1,KDf.out⟩
  case rest =>
   obtain⟨F6,om6,ch6,sub6,kD6⟩:=hcut;have E6:=zh (ch6.ext E5.out hC2 (fun k hk=>(SUB5.out k hk).1))
   have hC6:C≠w.heap.size+1:=hCR;clear x05 x15 x25 xf5 ltC5 d0 d1 d2 p05 p15;obtain⟨d0,d1,d2⟩:=Bk.k3 kD6;simp only at d0 d1 d2
   generalize zAx (⟨cs,(A:Int),false⟩:Core) p.length t ⟨op,oa,obb⟩=r at *
   obtain⟨ay,cy,w0',w1',w2',hov⟩:=om6.coreOut;have HOV:=zh hov;have KR5:=zh (KR2.out.ext E6.out);have KS5:=zh (KS2.out.ext E6.out);obtain⟨r0,r1,r2⟩:=Bk.k3 KR5.out;have rf:=KR5.out.fz;obtain⟨s0,s1,s2⟩:=Bk.k3 KS5.out;have sf:=KS5.out.fz;have hDR:D≠w.heap.size+1:=by omega
   have hDS:D≠w.heap.size+1+1:=by omega
   have kz0:=KR5.out.set 0 (.slice ay r.Cells.length cy);have kz1:=kz0.set 1 (.int .i64 r.At);have kz2:=kz1.set 2 (.bool r.Stopped);have zz0:=kz0.cell (j:=0) rfl;have zz1:=kz1.cell (j:=1) rfl;have zz2:=kz2.cell (j:=2) rfl;have ky:=((KS5.out.set_ne (p:=⟨w.heap.size+1,0,none⟩) (by show w.heap.size+1+1≠w.heap.size+1;omega) (.slice ay r.Cells.length cy)).set_ne (p:=⟨w.heap.size+1,1,none⟩) (by show w.heap.size+1+1≠w.heap.size+1;omega) (.int .i64 r.At)).set_ne (p:=⟨w.heap.size+1,2,none⟩) (by show w.heap.size+1+1≠w.heap.size+1;omega) (.bool r.Stopped)
   have ky0:=ky.set 0 (.int .i64 op);have ky1:=ky0.set 1 (.int .i64 oa);have ky2:=ky1.set 2 (.int .i64 obb);have qq0:=ky0.cell (j:=0) rfl;have qq1:=ky1.cell (j:=1) rfl;have qq2:=ky2.cell (j:=2) rfl;clear kz0 kz1 kz2 ky ky0 ky1 ky2;have hsz6:=E6.out.sz;clear om6 ch6 sub6 kD6 hov HS5;go_upto_region 24 with (fail)
   go_region
   go_wp2;refine bodyPost_ret (v:=.tuple #[.agg #[.slice ay r.Cells.length cy,.int .i64 r.At,.bool r.Stopped],.agg #[.int .i64 op,.int .i64 oa,.int .i64 obb]]) (by simp[results,Try.results73,go_sem,zz0,zz1,zz2,qq0,qq1,qq2]) rfl ⟨.agg #[.slice ay r.Cells.length cy,.int .i64 r.At,.bool r.Stopped],by rw[hE.out],?_,?_⟩
   ·rw[hE.out];exact Ov.extX (HOV.out ((((((wc.setCell ⟨w.heap.size+1,0,none⟩ (.slice ay r.Cells.length cy)).setCell ⟨w.heap.size+1,1,none⟩ (.int .i64 r.At)).setCell ⟨w.heap.size+1,2,none⟩ (.bool r.Stopped)).setCell ⟨w.heap.size+1+1,0,none⟩ (.int .i64 op)).setCell ⟨w.heap.size+1+1,1,none⟩ (.int .i64 oa)).setCell ⟨w.heap.size+1+1,2,none⟩ (.int .i64 obb)) w.heap.size (by omega) (fun k hk=>(zA3 (by show k≠w.heap.size+1+1;omega)).trans ((zA3 (by show k≠w.heap.size+1+1;omega)).trans ((zA3 (by show k≠w.heap.size+1+1;omega)).trans ((zA3 (by show k≠w.heap.size+1;omega)).trans ((zA3 (by show k≠w.heap.size+1;omega)).trans (zA3 (by show k≠w.heap.size+1;omega))))))) (fun k hk=>(((((hk.set _ _).set _ _).set _ _).set _ _).set _ _).set _ _)) (zr _).drew
   ·exact(((((((E2.out.tr E6.out).set (p:=⟨w.heap.size+1,0,none⟩) (by show w.heap.size<=w.heap.size+1;omega) _).set (p:=⟨w.heap.size+1,1,none⟩) (by show w.heap.size<=w.heap.size+1;omega) _).set (p:=⟨w.heap.size+1,2,none⟩) (by show w.heap.size<=w.heap.size+1;omega) _).set (p:=⟨w.heap.size+1+1,0,none⟩) (by show w.heap.size<=w.heap.size+1+1;omega) _).set (p:=⟨w.heap.size+1+1,1,none⟩) (by show w.heap.size<=w.heap.size+1+1;omega) _).set (p:=⟨w.heap.size+1+1,2,none⟩) (by show w.heap.size<=w.heap.size+1+1;omega) _).drew
end Sk
