/- Contracts of functions of the given program. -/
import Derived.Test.YtfdeoepbnefckaaGreatUARuns
import Derived.Test.YtfdeoepbnefckaaGreatNewMS
import Derived.Test.YtfdeoepbnefckaaGreatNumsS
namespace Sk
open Go Go.Proofs Go.RowKit
set_option maxHeartbeats 1600000
set_option maxRecDepth 100000
set_option linter.unusedVariables false
set_option linter.unusedSimpArgs false
theorem zFv(v:Value)(cs:List Channel)(N K:Nat)(q:Bool)(w:World)(h:Rs w v cs)(hv:zCt cs N=true) :
  Calls Tryz.prog 50 #[v,.int .i64 N,.int .i64 K,.bool q] w fun e w' => ∃ v' xs,e = .returned v'/\Os (α:=Int) w.heap.size w' v' xs/\(xs.length<=8/\∀ x∈xs,0<=x/\x < 8)/\Ext w w':=by
 obtain⟨a,c,rfl,hl⟩:=h.form;have hc8:cs.length<=8:=by simp only[zCt,Bool.and_eq_true,decide_eq_true_eq] at hv;exact hv.2.1
 have H:=zh h;clear h;go_enter Tryz.func50,Tryz.ntmps50;go_wp2;go_loopw [9,10] (fun out i wr => ∃ (k:Nat) (ao:Option Addr) (no co:Nat) (xs:List Int),k<=cs.length/\i = .int .i64 k/\out = .slice ao no co/\Oa (α:=Int) 3 w.heap.size wr (.slice ao no co) xs []/\(xs.length<=k/\∀ x∈xs,0<=x/\x < 8)/\Ext w wr) (fun _ i _=>cs.length - (intOf i).toNat)
 case atStart=>exact⟨0,_,_,_,[],Nat.zero_le _,rfl,rfl,Oa.lit0 (α:=Int) 3 w,⟨Nat.le_refl _,fun x hx=>by cases hx⟩,(zr w).alloc _⟩
 case round =>
  obtain⟨k,ao,no,co,xs,hk,rfl,rfl,ho,⟨hxl,hxb⟩,hq⟩:=hrel;have HO:=zh ho;have HQ:=zh hq;have HXB:=zh hxb;have hx8:xs.length<=8:=by omega
  clear ho hq hxb;by_cases hkt:k < cs.length
  ·obtain⟨bb,oo,ch,rfl,hbl,hch,c0,c1,c2,c3,_,_,_,_,_⟩:=(H.out.ext HQ.out).atChannel k hkt;cases q
   ·by_cases he:ch.To=(K:Int)
    ·have hb:(ch.To == (K:Int))=true:=by simpa using he
     clear he
     go_wp2_with (first
      | (go_at_call 59;refine(zAn _ cs N _ (H.out.ext HQ.out)).mono ?_;rintro e w2 ⟨rfl,he⟩;rw[hv];have HQ2:=zh (HQ.out.tr he);have HO2:=zh (HO.out.ext he);have hb2:=(zA0 he hbl).trans c1;have hb3:=(zA0 he hbl).trans c2;have hs2:=HQ2.out.sz;clear he)
      | (at_builtin;go_loud (refine zFh (α:=Int) rfl _ _ 38 rfl 3 Tryz.underlying38 zEa (L:=w.heap.size) (v:=.slice ao no co) (ys:=[(k:Int)]) rfl (HO2.out.ext ((zr _).alloc _)) rfl (Os.lit1 w2 _ ⟨by omega,by omega⟩).rs (by rw[List.length_singleton];omega) (Nat.le_trans hs2 ((zr w2).alloc _).sz) ?_;intro v5 w5 hO5 hg5;have HO5:=zh hO5;have HE5:=zh ((HQ2.out.alloc (.cells #[.int .i64 (k:Nat)] 3)).grown hg5 (fun k hk=>HO2.out.own k hk));obtain⟨p5,n5,q5,rfl⟩:=Oa.sh0 hO5;clear hO5 hg5)))
     go_roundw
     case rel=>exact⟨k+1,_,_,_,xs ++ [(k:Int)],by omega,by go_num,rfl,HO5.out,⟨by rw[List.length_append,List.length_singleton];omega,fun y hy=>by rcases List.mem_append.1 hy with hy|hy;exact HXB.out y hy;rw[List.mem_singleton] at hy;subst hy;omega⟩,HE5.out⟩
     case measure=>simp[intOf];omega
    ·have hb:(ch.To == (K:Int))=false:=by simpa using he
     clear he;go_wp2_with (go_at_call 59;refine(zAn _ cs N _ (H.out.ext HQ.out)).mono ?_;rintro e w2 ⟨rfl,he⟩;rw[hv];have HQ2:=zh (HQ.out.tr he);have HO2:=zh (HO.out.ext he);have hb2:=(zA0 he hbl).trans c1;have hb3:=(zA0 he hbl).trans c2;have hs2:=HQ2.out.sz;clear he)
     go_roundw
     case rel=>exact⟨k+1,_,_,_,xs,by omega,by go_num,rfl,HO2.out,⟨by omega,HXB.out⟩,HQ2.out⟩
     case measure=>simp[intOf];omega
   ·by_cases he:ch.From=(K:Int)
    ·have hb:(ch.From == (K:Int))=true:=by simpa using he
     clear he
     go_wp2_with (first
      | (go_at_call 59;refine(zAn _ cs N _ (H.out.ext HQ.out)).mono ?_;rintro e w2 ⟨rfl,he⟩;rw[hv];have HQ2:=zh (HQ.out.tr he);have HO2:=zh (HO.out.ext he);have hb2:=(zA0 he hbl).trans c1;have hb3:=(zA0 he hbl).trans c2;have hs2:=HQ2.out.sz;clear he)
      | (at_builtin;go_loud (refine zFh (α:=Int) rfl _ _ 38 rfl 3 Tryz.underlying38 zEa (L:=w.heap.size) (v:=.slice ao no co) (ys:=[(k:Int)]) rfl (HO2.out.ext ((zr _).alloc _)) rfl (Os.lit1 w2 _ ⟨by omega,by omega⟩).rs (by rw[List.length_singleton];omega) (Nat.le_trans hs2 ((zr w2).alloc _).sz) ?_;intro v5 w5 hO5 hg5;have HO5:=zh hO5;have HE5:=zh ((HQ2.out.alloc (.cells #[.int .i64 (k:Nat)] 3)).grown hg5 (fun k hk=>HO2.out.own k hk));obtain⟨p5,n5,q5,rfl⟩:=Oa.sh0 hO5;clear hO5 hg5)))
     go_roundw
     case rel=>exact⟨k+1,_,_,_,xs ++ [(k:Int)],by omega,by go_num,rfl,HO5.out,⟨by rw[List.length_append,List.length_singleton];omega,fun y hy=>by rcases List.mem_append.1 hy with hy|hy;exact HXB.out y hy;rw[List.mem_singleton] at hy;subst hy;omega⟩,HE5.out⟩
     case measure=>simp[intOf];omega
    ·have hb:(ch.From == (K:Int))=false:=by simpa using he
     clear he;go_wp2_with (go_at_call 59;refine(zAn _ cs N _ (H.out.ext HQ.out)).mono ?_;rintro e w2 ⟨rfl,he⟩;rw[hv];have HQ2:=zh (HQ.out.tr he);have HO2:=zh (HO.out.ext he);have hb2:=(zA0 he hbl).trans c1;have hb3:=(zA0 he hbl).trans c2;have hs2:=HQ2.out.sz;clear he)
     go_roundw
     case rel=>exact⟨k+1,_,_,_,xs,by omega,by go_num,rfl,HO2.out,⟨by omega,HXB.out⟩,HQ2.out⟩
     case measure=>simp[intOf];omega
  ·obtain rfl:k=cs.length:=by omega
   go_wp2;go_ret;exact⟨_,xs,rfl,HO.out.os (Own.nil _ _),⟨hx8,HXB.out⟩,HQ.out⟩
theorem zEu{w:World}{b o:Nat}{v:Value}(h:w.cell? ⟨b,o,none⟩=some v):w.setCell ⟨b,o,none⟩ v=w:=by
 unfold World.cell? at h;have key:(w.setCell ⟨b,o,none⟩ v).heap=w.heap:=by
  apply Array.ext_getElem?;intro i;unfold World.setCell;rw[Array.getElem?_modify]
  split
  ·rename_i e
   subst e;simp only at h
   split at h
   ·rename_i c T z hc
    rw[hc];simp only[Option.isSome_none,Bool.false_eq_true,if_false] at h;simp only[Option.map_some,Option.isSome_none,Bool.false_eq_true,if_false]
    congr 2
    apply Array.ext_getElem?;intro j;rw[Array.getElem?_setIfInBounds]
    split
    ·rename_i e;subst e;split
     ·exact h.symm
     ·rename_i hn;rw[Array.getElem?_eq_none (by omega)] at h;cases h
    ·rfl
   ·cases h
  ·rfl
 have:(w.setCell ⟨b,o,none⟩ v) = { w with heap:=(w.setCell ⟨b,o,none⟩ v).heap }:=rfl
 rw[this,key]
theorem Os.atO{L:Nat}{w:World}{a:Option Addr}{n c:Nat}{xs:List Order}(h:Os L w (.slice a n c) xs)(i:Nat)(hi:i < xs.length) :
  ∃ g s X A B,a=some ⟨g,s,none⟩/\Hid (xs[i]? = some ⟨X,A,B⟩)/\L<=g/\g < w.heap.size/\w.cell? ⟨g,s+i*3,none⟩=some (.int .i64 X)/\w.cell? ⟨g,s+i*3+1,none⟩=some (.int .i64 A)/\w.cell? ⟨g,s+i*3+2,none⟩=some (.int .i64 B)/\(∀ j,w.frozen? ⟨g,j,none⟩=false)/\rng X/\rng A/\rng B:=by
 obtain⟨g,s,cs,F,x,rfl,hx,hL,⟨rfl,r0,r1,r2,_⟩,hat,hf⟩:=h.at i hi;obtain⟨X,A,B⟩:=x;have hlt:=hat.lt (by simp)
 exact⟨g,s,X,A,B,rfl,hx,hL,hlt,by simpa [GT.sz] using hat 0 _ rfl,by simpa [GT.sz] using hat 1 _ rfl,by simpa [GT.sz] using hat 2 _ rfl,hf,r0,r1,r2⟩
theorem Os.setO{L:Nat}{w:World}{g s n c i:Nat}{xs:List Order}(h:Os L w (.slice (some ⟨g,s,none⟩) n c) xs)(hi:i < xs.length)(hL:L<=w.heap.size)(y:Order)(r0:rng y.Op)(r1:rng y.A)(r2:rng y.B) :
  Os L (((w.setCell ⟨g,s+i*3,none⟩ (.int .i64 y.Op)).setCell ⟨g,s+i*3+1,none⟩ (.int .i64 y.A)).setCell ⟨g,s+i*3+2,none⟩ (.int .i64 y.B)) (.slice (some ⟨g,s,none⟩) n c) (xs.set i y) :=
 Os.put (cs:=[.int .i64 y.Op,.int .i64 y.A,.int .i64 y.B]) h (zr _) hi hL ⟨[],⟨rfl,r0,r1,r2,rfl⟩,Own.nil _ _⟩
theorem Os.setA{L:Nat}{w:World}{g s n c i:Nat}{xs:List Order}{X A B z:Int}(h:Os L w (.slice (some ⟨g,s,none⟩) n c) xs)(hi:i < xs.length)(hL:L<=w.heap.size)(c0:w.cell? ⟨g,s+i*3,none⟩=some (.int .i64 X))(c1:w.cell? ⟨g,s+i*3+1,none⟩=some (.int .i64 A))(c2:w.cell? ⟨g,s+i*3+2,none⟩=some (.int .i64 B))(r0:rng X)(rz:rng z)(r2:rng B) :
  Os L (w.setCell ⟨g,s+i*3+1,none⟩ (.int .i64 z)) (.slice (some ⟨g,s,none⟩) n c) (xs.set i ⟨X,z,B⟩):=by
 have h1:=h.setO hi hL ⟨X,z,B⟩ r0 rz r2;simp only at h1
 rwa [zEu c0,zEu ((zA6 (by omega)).trans c2)] at h1
theorem Os.mw{α:Type}[GT α]{L:Nat}{w w':World}{v:Value}{xs:List α}{F:List Nat}(h:Os L w v xs)(k:Mw F w w')(hF:∀ x∈F,x < L):Os L w' v xs:=by
 obtain⟨G,h1,h2⟩:=h;have hd:∀ y∈G,y ∉ F:=fun y hy hm=>by have:=(h2.2 y hy).1;have:=hF y hm;omega
 exact⟨G,k.sl h1 (fun y hy hm=>hd y hy hm),k.own h2 hd⟩
theorem Rvb.lists{L:Nat}{w:World}{v0 v1 v2:Value}{s:Setup}(h:Rvb L w (.agg #[v0,v1,v2]) s):Rsb L w v0 s.Parts/\Rsb L w v1 s.Channels/\Rsb L w v2 s.Slots:=by
 obtain⟨cs,F,e,⟨u0,u1,u2,F0,F1,F2,rfl,h0,h1,h2,rfl⟩,hk⟩:=h;have e2:=congrArg (fun v=>match v with | .agg a=>a.toList|_ => []) e
 simp only[List.cons.injEq,and_true] at e2;obtain⟨rfl,rfl,rfl⟩:=e2;exact⟨⟨F0,h0,fun k h=>hk k (by simp[h])⟩,⟨F1,h1,fun k h=>hk k (by simp[h])⟩,⟨F2,h2,fun k h=>hk k (by simp[h])⟩⟩
set_option maxHeartbeats 4000000
theorem M.tick_other{m:Machine}{j:Nat}(h:zBq m.Plan.Slots m.Tick≠j):(zB1 m).Cores[j]? = m.Cores[j]?:=by
 unfold zB1
 split
 ·rfl
 ·rename_i hn
  unfold zCu;simp only;rw[List.getElem?_set,if_neg (by omega)]
set_option maxHeartbeats 8000000
theorem law_sameCore(v1 v2:Value)(x:Core)(w:World)(h1:Rv w v1 x)(h2:Rv w v2 x) :
  Calls Tryz.prog 10 #[v1,v2] w fun e w'=>e = .returned (.bool true)/\Ext w w':=by
 obtain⟨a0,c0,rfl,r1,hs1,l1⟩:=h1.openCore;obtain⟨b0,d0,rfl,r2,hs2,l2⟩:=h2.openCore;clear h1 h2;go_enter Tryz.func10,Tryz.ntmps10;go_upto_region 1 with (fail)
 refine zA2 (fun W=>Ext w W/\Bk W w.heap.size [.slice a0 x.Cells.length c0,.int .i64 x.At,.bool x.Stopped] 43/\Bk W (w.heap.size+1) [.slice b0 x.Cells.length d0,.int .i64 x.At,.bool x.Stopped] 43) ⟨((zr _).alloc _).alloc _,(Bk.new _ _ _).ext ((zr _).alloc _),Bk.new1 _ _ _ _⟩ ?_
 rintro W ⟨e1,kA,kB⟩;have E:=zh e1;have KA:=zh kA;have KB:=zh kB;have ltA:=kA.lt;have ltB:=kB.lt;obtain⟨x0,x1,x2⟩:=Bk.k3 kA;obtain⟨y0,y1,y2⟩:=Bk.k3 kB;clear e1 kA kB;have q1:(x.At == x.At)=true:=by simp
 have q2:(x.Stopped == x.Stopped)=true:=by simp
 go_wp2_with (go_at_call 23;refine(law_sameInts _ _ x.Cells x.Cells _ (hs1.out.ext E.out) (hs2.out.ext E.out)).mono ?_;rintro e w1 ⟨rfl,he⟩;rw[Eqb.t (rfl:x.Cells=x.Cells)];have E1:=zh (E.out.tr he);have p1:=(KA.out.ext he).cell (j:=1) rfl;have p2:=(KA.out.ext he).cell (j:=2) rfl;have s1:=(KB.out.ext he).cell (j:=1) rfl;have s2:=(KB.out.ext he).cell (j:=2) rfl;clear he)
 go_ret;exact⟨(by first|rfl|exact zA1 rfl|simp),E1.out⟩
theorem law_sameMachine(v1 v2:Value)(x:Machine)(w:World)(h1:Rv w v1 x)(h2:Rv w v2 x) :
  Calls Tryz.prog 7 #[v1,v2] w fun e w'=>e = .returned (.bool true)/\Ext w w':=by
 obtain⟨a0,c0,a1,c1,a2,c2,a3,c3,a4,c4,a5,c5,rfl,r6,h0,l0,h1',l1,h2',l2,h3,l3,h4,l4,h5,l5⟩:=h1.openMachine;obtain⟨b0,d0,b1,d1,b2,d2,b3,d3,b4,d4,b5,d5,rfl,s6,g0,m0,g1,m1,g2,m2,g3,m3,g4,m4,g5,m5⟩:=h2.openMachine;clear h1 h2;go_enter Tryz.func7,Tryz.ntmps7;go_upto_region 1 with (fail)
 refine zA2 (fun W=>Ext w W/\Bk W w.heap.size [.slice a0 x.Plan.Parts.length c0,.slice a1 x.Plan.Channels.length c1,.slice a2 x.Plan.Slots.length c2,.slice a3 x.Programs.length c3,.slice a4 x.Cores.length c4,.slice a5 x.Holds.length c5,.int .i64 x.Tick] 34/\Bk W (w.heap.size+1) [.slice b0 x.Plan.Parts.length d0,.slice b1 x.Plan.Channels.length d1,.slice b2 x.Plan.Slots.length d2,.slice b3 x.Programs.length d3,.slice b4 x.Cores.length d4,.slice b5 x.Holds.length d5,.int .i64 x.Tick] 34) ⟨((zr _).alloc _).alloc _,(Bk.new _ _ _).ext ((zr _).alloc _),Bk.new1 _ _ _ _⟩ ?_
 rintro W ⟨e1,kA,kB⟩;have E:=zh e1;have KA:=zh kA;have KB:=zh kB;have ltA:=kA.lt;have ltB:=kB.lt;obtain⟨x0,x1,x2,x3,x4,x5,x6⟩:=Bk.k7 kA;obtain⟨y0,y1,y2,y3,y4,y5,y6⟩:=Bk.k7 kB;clear e1 kA kB;have HS1:=zh (fun(u:World) (e:Ext w u)=>zCj _ x.Plan u (Rv.mkSetup (h0.out.ext e) (h1'.out.ext e) (h2'.out.ext e)))
 have HS2:=zh (fun(u:World) (e:Ext w u)=>zCj _ x.Plan u (Rv.mkSetup (g0.out.ext e) (g1.out.ext e) (g2.out.ext e)))
 obtain⟨N,hN⟩:∃ N,zCe x.Plan=N:=⟨_,rfl⟩;rw[hN] at HS1 HS2;clear hN;have qt:(x.Tick != x.Tick)=false:=by simp
 go_region_held3 (fun u=>u.cell? ⟨w.heap.size,0,none⟩=some (.slice a0 x.Plan.Parts.length c0)/\u.cell? ⟨w.heap.size,1,none⟩=some (.slice a1 x.Plan.Channels.length c1)/\u.cell? ⟨w.heap.size,2,none⟩=some (.slice a2 x.Plan.Slots.length c2)/\u.cell? ⟨w.heap.size,3,none⟩=some (.slice a3 x.Programs.length c3)/\u.cell? ⟨w.heap.size,4,none⟩=some (.slice a4 x.Cores.length c4)/\u.cell? ⟨w.heap.size,5,none⟩=some (.slice a5 x.Holds.length c5)/\u.cell? ⟨w.heap.size,6,none⟩=some (.int .i64 x.Tick)/\u.cell? ⟨w.heap.size+1,0,none⟩=some (.slice b0 x.Plan.Parts.length d0)/\u.cell? ⟨w.heap.size+1,1,none⟩=some (.slice b1 x.Plan.Channels.length d1)/\u.cell? ⟨w.heap.size+1,2,none⟩=some (.slice b2 x.Plan.Slots.length d2)/\u.cell? ⟨w.heap.size+1,3,none⟩=some (.slice b3 x.Programs.length d3)/\u.cell? ⟨w.heap.size+1,4,none⟩=some (.slice b4 x.Cores.length d4)/\u.cell? ⟨w.heap.size+1,5,none⟩=some (.slice b5 x.Holds.length d5)/\u.cell? ⟨w.heap.size+1,6,none⟩=some (.int .i64 x.Tick))
  (go_keep)
  (first
   | (go_at_call 24;refine(HS1.out _ (E.out.tr (zr W).drew)).mono ?_;rintro e w4 ⟨v4,rfl,ho,he⟩;have HO4:=zh ho.rs;obtain⟨p4,q4,rfl,_⟩:=ho.rs.form;have E4:=zh ((zr W).drew.tr he);clear ho he HS1;have KA4:=zh (KA.out.ext E4.out);have KB4:=zh (KB.out.ext E4.out);obtain⟨z0,z1,z2,z3,z4,z5,z6⟩:=Bk.k7 KA4.out;obtain⟨t0,t1,t2,t3,t4,t5,t6⟩:=Bk.k7 KB4.out;clear KA4 KB4)
   | (go_at_call 24;refine(HS2.out _ (E.out.tr E4.out)).mono ?_;rintro e w5 ⟨v5,rfl,ho,he⟩;have HO5:=zh ho.rs;obtain⟨p5,q5,rfl,_⟩:=ho.rs.form;replace HO4:=zh (HO4.out.ext he);replace E4:=zh (E4.out.tr he);clear ho he;have KA4:=zh (KA.out.ext E4.out);have KB4:=zh (KB.out.ext E4.out);obtain⟨z0,z1,z2,z3,z4,z5,z6⟩:=Bk.k7 KA4.out;obtain⟨t0,t1,t2,t3,t4,t5,t6⟩:=Bk.k7 KB4.out;clear KA4 KB4)
   | (go_at_call 23;refine(law_sameInts _ _ N N _ HO4.out HO5.out).mono ?_;rintro e w6 ⟨rfl,he⟩;rw[Eqb.t (rfl:N=N)];replace E4:=zh (E4.out.tr he);clear he;have KA4:=zh (KA.out.ext E4.out);have KB4:=zh (KB.out.ext E4.out);obtain⟨z0,z1,z2,z3,z4,z5,z6⟩:=Bk.k7 KA4.out;obtain⟨t0,t1,t2,t3,t4,t5,t6⟩:=Bk.k7 KB4.out;clear KA4 KB4))
 clear x0 y0 x1 y1 x2 y2 x3 y3 x4 y4 x5 y5 x6 y6;have x3:=(KA.out.ext E4.out).cell (j:=3) rfl;have lA3:=(KA.out.ext E4.out).lt;go_wp2;go_loopw [5] (fun i wr => ∃ k:Nat,k<=x.Programs.length/\i = .int .i64 k/\Ext W wr) (fun i _=>x.Programs.length - (intOf i).toNat)
 case atStart=>exact⟨0,Nat.zero_le _,rfl,E4.out⟩
 case round =>
  obtain⟨k,hk,rfl,er⟩:=hrel;have ER:=zh er;have ka:=KA.out.ext er;have kb:=KB.out.ext er;have u3:=ka.cell (j:=3) rfl;have v3:=kb.cell (j:=3) rfl;have lua:=ka.lt;have lub:=kb.lt;clear er;by_cases hkt:k < x.Programs.length
  ·obtain⟨b,o,p,pa,pc,rfl,hb,hx,hp0,hs0,hl0⟩:=(h3.out.ext (E.out.tr ER.out)).atList k hkt;obtain⟨b2,o2,p2,qa,qc,rfl,hb2,hx2,hq0,hs2,hl2⟩:=(g3.out.ext (E.out.tr ER.out)).atList k hkt;obtain rfl:p2=p:=Option.some.inj (hx2.out.symm.trans hx.out);clear hx hx2;clear ka kb;go_wp2
   go_region_held3 (fun u=>u.cell? ⟨w.heap.size,3,none⟩=some (.slice (some ⟨b,o,none⟩) x.Programs.length c3)/\u.cell? ⟨w.heap.size+1,3,none⟩=some (.slice (some ⟨b2,o2,none⟩) x.Programs.length d3)/\u.cell? ⟨b,o+k,none⟩=some (.slice pa p2.length pc)/\u.cell? ⟨b2,o2+k,none⟩=some (.slice qa p2.length qc))
    (go_keep)
    ((go_at_call 25;refine(law_sameOrders _ _ p2 p2 _ (hs0.out.ext (zr wr).drew) (hs2.out.ext (zr wr).drew)).mono ?_;rintro e w9 ⟨rfl,he⟩;rw[Eqb.t (rfl:p2=p2)];have E9:=zh ((zr wr).drew.tr he);have q0:=(zA0 E9.out lua).trans u3;have q1:=(zA0 E9.out lub).trans v3;have q2:=(zA0 E9.out hb).trans hp0;have q3:=(zA0 E9.out hb2).trans hq0;clear he))
   go_wp2;exact⟨⟨k+1,by omega,by go_num,ER.out.tr E9.out⟩,by simp[intOf];omega⟩
  ·obtain rfl:k=x.Programs.length:=by omega
   have u4:=ka.cell (j:=4) rfl;clear ka kb v3;obtain⟨wo,rfl⟩:∃ wo,wo=wr:=⟨_,rfl⟩;go_wp2;go_loopw [6] (fun i wr => ∃ k:Nat,k<=x.Cores.length/\i = .int .i64 k/\Ext W wr) (fun i _=>x.Cores.length - (intOf i).toNat)
   case atStart=>exact⟨0,Nat.zero_le _,rfl,ER.out⟩
   case round =>
    obtain⟨k,hk,rfl,er⟩:=hrel;have ER:=zh er;have ka:=KA.out.ext er;have kb:=KB.out.ext er;have u4:=ka.cell (j:=4) rfl;have v4:=kb.cell (j:=4) rfl;have lua:=ka.lt;have lub:=kb.lt;clear er;by_cases hkt:k < x.Cores.length
    ·obtain⟨b,o,p,pa,pc,rfl,hb,hx,hp0,hp1,hp2,hr1,hs0,hl0,hv⟩:=(h4.out.ext (E.out.tr ER.out)).atCore k hkt;obtain⟨b2,o2,p2,qa,qc,rfl,hb2,hx2,hq0,hq1,hq2,hr2,hs2,hl2,hv2⟩:=(g4.out.ext (E.out.tr ER.out)).atCore k hkt;obtain rfl:p2=p:=Option.some.inj (hx2.out.symm.trans hx.out);clear hx hx2 hs0 hs2;clear ka kb;go_wp2
     go_region_held3 (fun u=>u.cell? ⟨w.heap.size,4,none⟩=some (.slice (some ⟨b,o,none⟩) x.Cores.length c4)/\u.cell? ⟨w.heap.size+1,4,none⟩=some (.slice (some ⟨b2,o2,none⟩) x.Cores.length d4)/\u.cell? ⟨b,o+k*3,none⟩=some (.slice pa p2.Cells.length pc)/\u.cell? ⟨b,o+k*3+1,none⟩=some (.int .i64 p2.At)/\u.cell? ⟨b,o+k*3+2,none⟩=some (.bool p2.Stopped)/\u.cell? ⟨b2,o2+k*3,none⟩=some (.slice qa p2.Cells.length qc)/\u.cell? ⟨b2,o2+k*3+1,none⟩=some (.int .i64 p2.At)/\u.cell? ⟨b2,o2+k*3+2,none⟩=some (.bool p2.Stopped))
      (go_keep)
      ((go_at_call 10;refine(law_sameCore _ _ p2 _ (hv.out.ext (zr wr).drew) (hv2.out.ext (zr wr).drew)).mono ?_;rintro e w9 ⟨rfl,he⟩;have E9:=zh ((zr wr).drew.tr he);have q0:=(zA0 E9.out lua).trans u4;have q1:=(zA0 E9.out lub).trans v4;have q2:=(zA0 E9.out hb).trans hp0;have q3:=(zA0 E9.out hb).trans hp1;have q4:=(zA0 E9.out hb).trans hp2;have q5:=(zA0 E9.out hb2).trans hq0;have q6:=(zA0 E9.out hb2).trans hq1;have q7:=(zA0 E9.out hb2).trans hq2;clear he))
     go_wp2;exact⟨⟨k+1,by omega,by go_num,ER.out.tr E9.out⟩,by simp[intOf];omega⟩
    ·obtain rfl:k=x.Cores.length:=by omega
     have u5:=ka.cell (j:=5) rfl;clear ka kb v4;obtain⟨wp,rfl⟩:∃ wp,wp=wr:=⟨_,rfl⟩;go_wp2;go_loopw [7] (fun i wr => ∃ k:Nat,k<=x.Holds.length/\i = .int .i64 k/\Ext W wr) (fun i _=>x.Holds.length - (intOf i).toNat)
     case atStart=>exact⟨0,Nat.zero_le _,rfl,ER.out⟩
     case round =>
      obtain⟨k,hk,rfl,er⟩:=hrel;have ER:=zh er;have ka:=KA.out.ext er;have kb:=KB.out.ext er;have u5:=ka.cell (j:=5) rfl;have v5:=kb.cell (j:=5) rfl;have lua:=ka.lt;have lub:=kb.lt;clear er;by_cases hkt:k < x.Holds.length
      ·obtain⟨b,o,p,pa,pc,rfl,hb,hx,hp0,hs0,hl0,hv⟩:=(h5.out.ext (E.out.tr ER.out)).atHold k hkt;obtain⟨b2,o2,p2,qa,qc,rfl,hb2,hx2,hq0,hs2,hl2,hv2⟩:=(g5.out.ext (E.out.tr ER.out)).atHold k hkt;obtain rfl:p2=p:=Option.some.inj (hx2.out.symm.trans hx.out);clear hx hx2;clear ka kb;go_wp2
       go_region_held3 (fun u=>u.cell? ⟨w.heap.size,5,none⟩=some (.slice (some ⟨b,o,none⟩) x.Holds.length c5)/\u.cell? ⟨w.heap.size+1,5,none⟩=some (.slice (some ⟨b2,o2,none⟩) x.Holds.length d5)/\u.cell? ⟨b,o+k,none⟩=some (.slice pa p2.Lst.length pc)/\u.cell? ⟨b2,o2+k,none⟩=some (.slice qa p2.Lst.length qc))
        (go_keep)
        ((go_at_call 23;refine(law_sameInts _ _ p2.Lst p2.Lst _ (hs0.out.ext (zr wr).drew) (hs2.out.ext (zr wr).drew)).mono ?_;rintro e w9 ⟨rfl,he⟩;rw[Eqb.t (rfl:p2.Lst=p2.Lst)];have E9:=zh ((zr wr).drew.tr he);have q0:=(zA0 E9.out lua).trans u5;have q1:=(zA0 E9.out lub).trans v5;have q2:=(zA0 E9.out hb).trans hp0;have q3:=(zA0 E9.out hb2).trans hq0;clear he))
       go_wp2;exact⟨⟨k+1,by omega,by go_num,ER.out.tr E9.out⟩,by simp[intOf];omega⟩
      ·clear ka kb;go_wp2;go_ret;exact⟨rfl,E.out.tr ER.out⟩
set_option maxHeartbeats 1000000
theorem M.own_succ{xs:List Slot}(h:zJ0 xs)(n:Int){t:Int}(ht:0<=t):zEx xs n (t+1)=zEx xs n t+(if zBq xs t=n then 1 else 0):=by
 obtain⟨T,rfl⟩:∃ T:Nat,t=T:=⟨t.toNat,by omega⟩
 have hL:1<=zC1 xs:=(zJ0.fl h).1;have e1:((T:Int)+1).toNat=T+1:=by omega
 have hr:T % zC1 xs < zC1 xs:=Nat.mod_lt _ hL;have hr2:T % zC1 xs < (zAt xs).length:=hr;have e2:zBq xs T=(zAt xs)[T % zC1 xs]:=by
  unfold zBq;rw[Int.toNat_natCast,List.getD_eq_getElem?_getD,List.getElem?_eq_getElem hr2];rfl
 have e3:((zAt xs).take (T % zC1 xs+1)).count n=((zAt xs).take (T % zC1 xs)).count n+(if zBq xs T=n then 1 else 0):=by
  rw[List.take_succ_eq_append_getElem hr2,List.count_append,e2,List.count_singleton];simp only[beq_iff_eq]
 have e4:zC1 xs*(T / zC1 xs)+T % zC1 xs=T:=Nat.div_add_mod T (zC1 xs);unfold zEx;rw[e1,Int.toNat_natCast];by_cases hlt:T % zC1 xs+1 < zC1 xs
 ·have d1:(T+1) / zC1 xs=T / zC1 xs:=by
   have:T+1=(T % zC1 xs+1)+zC1 xs*(T / zC1 xs):=by omega
   rw[this,Nat.add_mul_div_left _ _ hL,Nat.div_eq_of_lt hlt,Nat.zero_add]
  have d2:(T+1) % zC1 xs=T % zC1 xs+1:=by
   have:T+1=(T % zC1 xs+1)+zC1 xs*(T / zC1 xs):=by omega
   rw[this,Nat.add_mul_mod_self_left,Nat.mod_eq_of_lt hlt]
  rw[d1,d2,e3]
  split<;>omega
 ·have d0:T+1=zC1 xs*(T / zC1 xs+1):=by rw[Nat.mul_succ];omega
  have d1:(T+1) / zC1 xs=T / zC1 xs+1:=by rw[d0,Nat.mul_div_cancel_left _ hL]
  have d2:(T+1) % zC1 xs=0:=by rw[d0,Nat.mul_mod_right]
  have e5:((zAt xs).take (T % zC1 xs+1)).count n=(zAt xs).count n:=by
   rw[List.take_of_length_le (by show zC1 xs<=_;omega)]
  rw[e5] at e3;rw[d1,d2,List.take_zero,List.count_nil,Nat.succ_mul]
  split at e3<;>split<;>first|omega|contradiction
end Sk
