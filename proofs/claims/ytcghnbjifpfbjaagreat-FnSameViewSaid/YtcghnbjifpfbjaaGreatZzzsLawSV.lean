/- Contracts of functions of the given program. -/
import Derived.Test.YtcghnbjifpfbjaaGreatZzznqDr
namespace Sk
open Go Go.Proofs Go.RowKit
set_option maxHeartbeats 8000000
set_option maxRecDepth 100000
set_option linter.unusedVariables false
set_option linter.unusedSimpArgs false
theorem lawSameView(v:Value)(xs:List By)(w:World)(h:Rs w v xs) :
  Calls Tryz.prog 4 #[v] w fun e w'=>e = .returned (.bool true)/\Ext w w':=by
 obtain⟨a,c,rfl,hl⟩:=h.form;have H:=zh h;clear h;by_cases hx:xs.length<=1048576
 case neg =>
  have hx2:1048576 < xs.length:=by omega
  clear hx;go_enter Tryz.func4,Tryz.ntmps4;go_wp2;go_ret;exact⟨rfl,zr w⟩
 go_enter Tryz.func4,Tryz.ntmps4;go_upto_region 4 with (go_at_call 12;refine(zN0 _ _ _ H.out).mono ?_;rintro e w1 ⟨v1,v2,x,y,n,rfl,hv,hw,htt,hn,he⟩;obtain⟨p0,q0,p1,q1,p2,q2,p3,q3,p4,q4,p5,q5,rfl,-⟩:=hv.openMc;obtain⟨b0,d0,b1,d1,b2,d2,b3,d3,b4,d4,b5,d5,rfl,-⟩:=hw.openMc;have HV:=zh hv.rv;have HW:=zh hw.rv;have HTT:=zh htt;have HE:=zh he;clear hv hw htt he)
 obtain⟨A,hA⟩:∃ A,A=w1.heap.size:=⟨_,rfl⟩;obtain⟨B,hB⟩:∃ B,B=w1.heap.size+1:=⟨_,rfl⟩;refine zA1 (fun u=>Ext w1 u/\Bk u A [.slice p0 x.Plan.Parts.length q0,.slice p1 x.Plan.Channels.length q1,.slice p2 x.Plan.Slots.length q2,.slice p3 x.Programs.length q3,.slice p4 x.Cores.length q4,.slice p5 x.Holds.length q5,.int .i64 x.Tick] 32/\Bk u B [.slice b0 y.Plan.Parts.length d0,.slice b1 y.Plan.Channels.length d1,.slice b2 y.Plan.Slots.length d2,.slice b3 y.Programs.length d3,.slice b4 y.Cores.length d4,.slice b5 y.Holds.length d5,.int .i64 y.Tick] 32) ⟨((zr _).alloc _).alloc _,by rw[hA];exact(Bk.new _ _ _).ext ((zr _).alloc _),by rw[hB];exact Bk.new1 _ _ _ _⟩ ?_
 rw[<- hB,<- hA];rintro W1 ⟨e1,kA,kB⟩;have hAB:A≠B:=by omega
 have hAw:w.heap.size<=A:=by have:=HE.out.sz;omega
 have hBw:w.heap.size<=B:=by have:=HE.out.sz;omega
 have HX:Hid (Rvx [A,B] W1 (.agg #[.slice p0 x.Plan.Parts.length q0,.slice p1 x.Plan.Channels.length q1,.slice p2 x.Plan.Slots.length q2,.slice p3 x.Programs.length q3,.slice p4 x.Cores.length q4,.slice p5 x.Holds.length q5,.int .i64 x.Tick]) x):=zh ((Rvx.of HV.out (by simp only[List.mem_cons,List.not_mem_nil,or_false];omega)).ext e1)
 have HXB:Hid (Rvx [A,B] W1 (.agg #[.slice b0 y.Plan.Parts.length d0,.slice b1 y.Plan.Channels.length d1,.slice b2 y.Plan.Slots.length d2,.slice b3 y.Programs.length d3,.slice b4 y.Cores.length d4,.slice b5 y.Holds.length d5,.int .i64 y.Tick]) y):=zh ((Rvx.of HW.out (by simp only[List.mem_cons,List.not_mem_nil,or_false];omega)).ext e1)
 clear hA hB H;replace HV:=zh (HV.out.ext e1);replace HW:=zh (HW.out.ext e1);replace HE:=zh (HE.out.tr e1);have KA:=zh kA;have KB:=zh kB;clear e1 kA kB;have E:=zh (zr W1);have hnr:rng n:=zAg (by have:=hn.1;omega) (by have:=hn.2;omega)
 have hxc:x.Cores.length<=200000:=by
  have h1:=zD7 x;have h2:=zBd (xs:=x.Cores)
  have:=HTT.out
  omega
 obtain⟨ok,hok⟩:∃ ok,zB0 x y n=ok:=⟨_,rfl⟩;have C1:=zh (fun(v v2:Value) (u:World) (h:Rv u v x) (k:Rv u v2 y)=>zKm v v2 x y n u h k)
 have C2:=zh (fun(v v2:Value) (u:World) (h:Rv u v x) (k:Rv u v2 y)=>spec_SameView v v2 x y n u h k)
 have C3:=zh (fun(v v2:Value) (u:World) (h:Rv u v y) (k:Rv u v2 x)=>zKm v v2 y x n u h k)
 rw[zNa y x n] at C3;rw[hok] at C1 C2 C3;have CSS:=zh (fun(v v2:Value) (u:World) (h:Rv u v x) (k:Rv u v2 x)=>zKm v v2 x x n u h k)
 rw[zNb] at CSS;obtain⟨fa0,fa1,fa2,fa3,fa4,fa5,fa6,faL⟩:=Bk.j7 (KA.out.ext E.out);obtain⟨fb0,fb1,fb2,fb3,fb4,fb5,fb6,fbL⟩:=Bk.j7 (KB.out.ext E.out);by_cases hex:zBp x n=true
 ·obtain⟨hmv,h0,h1⟩:=zBz.1 hex;have gv:=zBk.2 hmv;have hb1:decide (n ≥ 0)=true:=decide_eq_true h0;have hb2:decide (n < (x.Cores.length:Int))=true:=decide_eq_true h1;have e1:=zKe x x n;rw[zNb,hex,Eqb.t rfl,Bool.and_true] at e1;have e2:=zKe x y n;rw[hok,<- e1,Bool.true_and] at e2;rw[hex] at CSS;have CV1:=zh (fun(v:Value) (u:World) (h:Rv u v x)=>impl_ViewOf v x n u h)
  have CV2:=zh (fun(v:Value) (u:World) (h:Rv u v y)=>impl_ViewOf v y n u h)
  obtain⟨w1,hw1⟩:∃ w1,zBq x n=w1:=⟨_,rfl⟩;obtain⟨w2,hw2⟩:∃ w2,zBq y n=w2:=⟨_,rfl⟩;rw[hw1,hw2] at e2;rw[hw1] at CV1;rw[hw2] at CV2;have hq:Eqb w1 w2=ok:=e2.symm;have hoo:(ok == ok)=true:=by simp
  have hon:(ok != ok)=false:=by simp
  clear e1 e2 hw1 hw2 hmv hex hok h0 h1;go_upto_region 8 with (first
   | (go_at_call 10;refine(C1.out _ _ _ (HV.out.ext E.out) (HW.out.ext E.out)).mono ?_;rintro e wz ⟨rfl,he⟩;replace E:=zh (E.out.tr he);clear he C1;obtain⟨ra0,ra1,ra2,ra3,ra4,ra5,ra6,raL⟩:=Bk.j7 (KA.out.ext E.out);obtain⟨rb0,rb1,rb2,rb3,rb4,rb5,rb6,rbL⟩:=Bk.j7 (KB.out.ext E.out))
   | (go_at_call 13;refine(C2.out _ _ _ (HV.out.ext E.out) (HW.out.ext E.out)).mono ?_;rintro e wz ⟨rfl,he⟩;replace E:=zh (E.out.tr he);clear he C2;obtain⟨ra0,ra1,ra2,ra3,ra4,ra5,ra6,raL⟩:=Bk.j7 (KA.out.ext E.out);obtain⟨rb0,rb1,rb2,rb3,rb4,rb5,rb6,rbL⟩:=Bk.j7 (KB.out.ext E.out))
   | (go_at_call 10;refine(C3.out _ _ _ (HW.out.ext E.out) (HV.out.ext E.out)).mono ?_;rintro e wz ⟨rfl,he⟩;replace E:=zh (E.out.tr he);clear he C3;obtain⟨ra0,ra1,ra2,ra3,ra4,ra5,ra6,raL⟩:=Bk.j7 (KA.out.ext E.out);obtain⟨rb0,rb1,rb2,rb3,rb4,rb5,rb6,rbL⟩:=Bk.j7 (KB.out.ext E.out))
   | (go_at_call 14;refine(zBr _ x _ (HV.out.ext E.out)).mono ?_;rintro e wz ⟨rfl,he⟩;rw[gv];replace E:=zh (E.out.tr he);clear he;obtain⟨ra0,ra1,ra2,ra3,ra4,ra5,ra6,raL⟩:=Bk.j7 (KA.out.ext E.out);obtain⟨rb0,rb1,rb2,rb3,rb4,rb5,rb6,rbL⟩:=Bk.j7 (KB.out.ext E.out)))
  obtain⟨ka0,ka1,ka2,ka3,ka4,ka5,ka6,kaL⟩:=Bk.j7 (KA.out.ext E.out);obtain⟨kb0,kb1,kb2,kb3,kb4,kb5,kb6,kbL⟩:=Bk.j7 (KB.out.ext E.out);refine wp_region_held_drew (S:=fun u=>u.cell? ⟨A,0,none⟩=some (.slice p0 x.Plan.Parts.length q0)/\u.cell? ⟨A,1,none⟩=some (.slice p1 x.Plan.Channels.length q1)/\u.cell? ⟨A,2,none⟩=some (.slice p2 x.Plan.Slots.length q2)/\u.cell? ⟨A,3,none⟩=some (.slice p3 x.Programs.length q3)/\u.cell? ⟨A,4,none⟩=some (.slice p4 x.Cores.length q4)/\u.cell? ⟨A,5,none⟩=some (.slice p5 x.Holds.length q5)/\u.cell? ⟨A,6,none⟩=some (.int .i64 x.Tick)/\u.cell? ⟨B,0,none⟩=some (.slice b0 y.Plan.Parts.length d0)/\u.cell? ⟨B,1,none⟩=some (.slice b1 y.Plan.Channels.length d1)/\u.cell? ⟨B,2,none⟩=some (.slice b2 y.Plan.Slots.length d2)/\u.cell? ⟨B,3,none⟩=some (.slice b3 y.Programs.length d3)/\u.cell? ⟨B,4,none⟩=some (.slice b4 y.Cores.length d4)/\u.cell? ⟨B,5,none⟩=some (.slice b5 y.Holds.length d5)/\u.cell? ⟨B,6,none⟩=some (.int .i64 y.Tick)) (by kernel_rfl) ?_ (fun hHeld=>?_)
  ·(try dsimp only)<;>go_keep
  refine hT 0 ?_;refine hT 1 ?_;refine hT 2 ?_;refine hT 4 ?_;refine hC 3 fun K hK=>?_
  go_simp;(go_at_call 10;refine(CSS.out _ _ _ (HV.out.ext E.out.drew) (HV.out.ext E.out.drew)).mono ?_;rintro e wa ⟨rfl,he⟩;replace E:=zh (E.out.drew.tr he);clear CSS;obtain⟨r0a0,r0a1,r0a2,r0a3,r0a4,r0a5,r0a6,r0aL⟩:=Bk.j7 (KA.out.ext E.out);obtain⟨r0b0,r0b1,r0b2,r0b3,r0b4,r0b5,r0b6,r0bL⟩:=Bk.j7 (KB.out.ext E.out);clear he);try go_wp2_with fail
  refine hK.out _ _ ?_ (fun hHeld=>?_)
  ·(try dsimp only)<;>go_keep
  clear hK K;try simp only[Act.put,zs]
  refine hT 5 ?_;refine hT 6 ?_;refine hT 7 ?_;refine hT 8 ?_;refine hT 9 ?_;refine hT 10 ?_;refine hT 11 ?_;refine hT 13 ?_;refine hT 14 ?_;refine hC 12 fun K hK=>?_
  go_simp;(go_at_call 16;refine(CV1.out _ _ (HV.out.ext E.out)).mono ?_;rintro e wb ⟨v4,rfl,ho,he⟩;replace E:=zh (E.out.tr he);have HO4:=zh ho.rs;clear ho CV1;obtain⟨r1a0,r1a1,r1a2,r1a3,r1a4,r1a5,r1a6,r1aL⟩:=Bk.j7 (KA.out.ext E.out);obtain⟨r1b0,r1b1,r1b2,r1b3,r1b4,r1b5,r1b6,r1bL⟩:=Bk.j7 (KB.out.ext E.out);clear he;clear r0a0 r0a1 r0a2 r0a3 r0a4 r0a5 r0a6 r0b0 r0b1 r0b2 r0b3 r0b4 r0b5 r0b6 r0aL r0bL);try go_wp2_with fail
  refine hK.out _ _ ?_ (fun hHeld=>?_)
  ·(try dsimp only)<;>go_keep
  clear hK K;try simp only[Act.put,zs]
  refine hC 15 fun K hK=>?_
  go_simp;(go_at_call 16;refine(CV2.out _ _ (HW.out.ext E.out)).mono ?_;rintro e wc ⟨v5,rfl,ho,he⟩;replace E:=zh (E.out.tr he);have HO5:=zh ho.rs;replace HO4:=zh (HO4.out.ext he);clear ho CV2;obtain⟨r2a0,r2a1,r2a2,r2a3,r2a4,r2a5,r2a6,r2aL⟩:=Bk.j7 (KA.out.ext E.out);obtain⟨r2b0,r2b1,r2b2,r2b3,r2b4,r2b5,r2b6,r2bL⟩:=Bk.j7 (KB.out.ext E.out);clear he;clear r1a0 r1a1 r1a2 r1a3 r1a4 r1a5 r1a6 r1b0 r1b1 r1b2 r1b3 r1b4 r1b5 r1b6 r1aL r1bL);try go_wp2_with fail
  refine hK.out _ _ ?_ (fun hHeld=>?_)
  ·(try dsimp only)<;>go_keep
  clear hK K;try simp only[Act.put,zs]
  refine hC 16 fun K hK=>?_
  go_simp;(go_at_call 15;refine(law_sameInts _ _ w1 w2 _ HO4.out HO5.out).mono ?_;rintro e wd ⟨rfl,he⟩;replace E:=zh (E.out.tr he);rw[hq];obtain⟨r3a0,r3a1,r3a2,r3a3,r3a4,r3a5,r3a6,r3aL⟩:=Bk.j7 (KA.out.ext E.out);obtain⟨r3b0,r3b1,r3b2,r3b3,r3b4,r3b5,r3b6,r3bL⟩:=Bk.j7 (KB.out.ext E.out);clear he;clear r2a0 r2a1 r2a2 r2a3 r2a4 r2a5 r2a6 r2b0 r2b1 r2b2 r2b3 r2b4 r2b5 r2b6 r2aL r2bL);try go_wp2_with fail
  refine hK.out _ _ ?_ (fun hHeld=>?_)
  ·(try dsimp only)<;>go_keep
  clear hK K;try simp only[Act.put,zs]
  refine hT 17 ?_;refine hT 18 ?_;refine hT 19 ?_;refine hT 20 ?_;refine hC 21 fun K hK=>?_
  go_simp;(go_at_call 9;refine(law_alive _).mono ?_;rintro e we ⟨rfl,he⟩;replace E:=zh (E.out.tr he);obtain⟨r4a0,r4a1,r4a2,r4a3,r4a4,r4a5,r4a6,r4aL⟩:=Bk.j7 (KA.out.ext E.out);obtain⟨r4b0,r4b1,r4b2,r4b3,r4b4,r4b5,r4b6,r4bL⟩:=Bk.j7 (KB.out.ext E.out);clear he;clear r3a0 r3a1 r3a2 r3a3 r3a4 r3a5 r3a6 r3b0 r3b1 r3b2 r3b3 r3b4 r3b5 r3b6 r3aL r3bL);try go_wp2_with fail
  refine hK.out _ _ ?_ (fun hHeld=>?_)
  ·(try dsimp only)<;>go_keep
  clear hK K;try simp only[Act.put,zs]
  refine hT 22 ?_;refine hT 23 ?_;refine wpAnyH_done (by kernel_rfl) ?_ _
  go_wp2;go_ret;exact⟨rfl,HE.out.tr E.out⟩
 ·have hex2:zBp x n=false:=by simpa using hex
  have hokf:ok=false:=by rw[<- hok];unfold zB0;rw[hex2];rfl
  subst hokf;rw[hex2] at CSS;have hcase:zFn x=false\/(zFn x=true/\¬ n ≥ 0)\/(zFn x=true/\n ≥ 0/\¬ n < (x.Cores.length:Int)):=by
   cases gv:zFn x;·exact .inl rfl
   ·by_cases h0:n ≥ 0
    ·exact .inr (.inr ⟨rfl,h0,fun h1=>hex (zBz.2 ⟨zBk.1 gv,h0,h1⟩)⟩)
    ·exact .inr (.inl ⟨rfl,h0⟩)
  clear hex hex2 hok;rcases hcase with gv | ⟨gv,h0⟩ | ⟨gv,h0,h1⟩
  ·go_upto_region 8 with (first
   | (go_at_call 10;refine(C1.out _ _ _ (HV.out.ext E.out) (HW.out.ext E.out)).mono ?_;rintro e wz ⟨rfl,he⟩;replace E:=zh (E.out.tr he);clear he C1;obtain⟨ra0,ra1,ra2,ra3,ra4,ra5,ra6,raL⟩:=Bk.j7 (KA.out.ext E.out);obtain⟨rb0,rb1,rb2,rb3,rb4,rb5,rb6,rbL⟩:=Bk.j7 (KB.out.ext E.out))
   | (go_at_call 13;refine(C2.out _ _ _ (HV.out.ext E.out) (HW.out.ext E.out)).mono ?_;rintro e wz ⟨rfl,he⟩;replace E:=zh (E.out.tr he);clear he C2;obtain⟨ra0,ra1,ra2,ra3,ra4,ra5,ra6,raL⟩:=Bk.j7 (KA.out.ext E.out);obtain⟨rb0,rb1,rb2,rb3,rb4,rb5,rb6,rbL⟩:=Bk.j7 (KB.out.ext E.out))
   | (go_at_call 10;refine(C3.out _ _ _ (HW.out.ext E.out) (HV.out.ext E.out)).mono ?_;rintro e wz ⟨rfl,he⟩;replace E:=zh (E.out.tr he);clear he C3;obtain⟨ra0,ra1,ra2,ra3,ra4,ra5,ra6,raL⟩:=Bk.j7 (KA.out.ext E.out);obtain⟨rb0,rb1,rb2,rb3,rb4,rb5,rb6,rbL⟩:=Bk.j7 (KB.out.ext E.out))
   | (go_at_call 14;refine(zBr _ x _ (HV.out.ext E.out)).mono ?_;rintro e wz ⟨rfl,he⟩;rw[gv];replace E:=zh (E.out.tr he);clear he;obtain⟨ra0,ra1,ra2,ra3,ra4,ra5,ra6,raL⟩:=Bk.j7 (KA.out.ext E.out);obtain⟨rb0,rb1,rb2,rb3,rb4,rb5,rb6,rbL⟩:=Bk.j7 (KB.out.ext E.out)))
   obtain⟨ka0,ka1,ka2,ka3,ka4,ka5,ka6,kaL⟩:=Bk.j7 (KA.out.ext E.out);obtain⟨kb0,kb1,kb2,kb3,kb4,kb5,kb6,kbL⟩:=Bk.j7 (KB.out.ext E.out);refine wp_region_held_drew (S:=fun u=>u.cell? ⟨A,0,none⟩=some (.slice p0 x.Plan.Parts.length q0)/\u.cell? ⟨A,1,none⟩=some (.slice p1 x.Plan.Channels.length q1)/\u.cell? ⟨A,2,none⟩=some (.slice p2 x.Plan.Slots.length q2)/\u.cell? ⟨A,3,none⟩=some (.slice p3 x.Programs.length q3)/\u.cell? ⟨A,4,none⟩=some (.slice p4 x.Cores.length q4)/\u.cell? ⟨A,5,none⟩=some (.slice p5 x.Holds.length q5)/\u.cell? ⟨A,6,none⟩=some (.int .i64 x.Tick)/\u.cell? ⟨B,0,none⟩=some (.slice b0 y.Plan.Parts.length d0)/\u.cell? ⟨B,1,none⟩=some (.slice b1 y.Plan.Channels.length d1)/\u.cell? ⟨B,2,none⟩=some (.slice b2 y.Plan.Slots.length d2)/\u.cell? ⟨B,3,none⟩=some (.slice b3 y.Programs.length d3)/\u.cell? ⟨B,4,none⟩=some (.slice b4 y.Cores.length d4)/\u.cell? ⟨B,5,none⟩=some (.slice b5 y.Holds.length d5)/\u.cell? ⟨B,6,none⟩=some (.int .i64 y.Tick)) (by kernel_rfl) ?_ (fun hHeld=>?_)
   ·(try dsimp only)<;>go_keep
   refine hT 0 ?_;refine hT 1 ?_;refine hT 2 ?_;refine hT 4 ?_;refine hC 3 fun K hK=>?_
   go_simp;(go_at_call 10;refine(CSS.out _ _ _ (HV.out.ext E.out.drew) (HV.out.ext E.out.drew)).mono ?_;rintro e wa ⟨rfl,he⟩;replace E:=zh (E.out.drew.tr he);clear CSS;obtain⟨r0a0,r0a1,r0a2,r0a3,r0a4,r0a5,r0a6,r0aL⟩:=Bk.j7 (KA.out.ext E.out);obtain⟨r0b0,r0b1,r0b2,r0b3,r0b4,r0b5,r0b6,r0bL⟩:=Bk.j7 (KB.out.ext E.out);clear he);try go_wp2_with fail
   refine hK.out _ _ ?_ (fun hHeld=>?_)
   ·(try dsimp only)<;>go_keep
   clear hK K;try simp only[Act.put,zs]
   refine hT 5 ?_;refine hT 6 ?_;refine hT 7 ?_;refine hT 8 ?_;refine hT 9 ?_;refine hU 10 ?_;refine hU 11 ?_;refine hU 12 ?_;refine hU 13 ?_;refine hU 14 ?_;refine hU 15 ?_;refine hU 16 ?_;refine hT 17 ?_;refine hT 18 ?_;refine hT 19 ?_;refine hT 20 ?_;refine hC 21 fun K hK=>?_
   go_simp;(go_at_call 9;refine(law_alive _).mono ?_;rintro e wb ⟨rfl,he⟩;replace E:=zh (E.out.tr he);obtain⟨r1a0,r1a1,r1a2,r1a3,r1a4,r1a5,r1a6,r1aL⟩:=Bk.j7 (KA.out.ext E.out);obtain⟨r1b0,r1b1,r1b2,r1b3,r1b4,r1b5,r1b6,r1bL⟩:=Bk.j7 (KB.out.ext E.out);clear he;clear r0a0 r0a1 r0a2 r0a3 r0a4 r0a5 r0a6 r0b0 r0b1 r0b2 r0b3 r0b4 r0b5 r0b6 r0aL r0bL);try go_wp2_with fail
   refine hK.out _ _ ?_ (fun hHeld=>?_)
   ·(try dsimp only)<;>go_keep
   clear hK K;try simp only[Act.put,zs]
   refine hT 22 ?_;refine hT 23 ?_;refine wpAnyH_done (by kernel_rfl) ?_ _
   go_wp2;go_ret;exact⟨rfl,HE.out.tr E.out⟩
  ·have hb1:decide (n ≥ 0)=false:=decide_eq_false h0;clear h0;go_upto_region 8 with (first
   | (go_at_call 10;refine(C1.out _ _ _ (HV.out.ext E.out) (HW.out.ext E.out)).mono ?_;rintro e wz ⟨rfl,he⟩;replace E:=zh (E.out.tr he);clear he C1;obtain⟨ra0,ra1,ra2,ra3,ra4,ra5,ra6,raL⟩:=Bk.j7 (KA.out.ext E.out);obtain⟨rb0,rb1,rb2,rb3,rb4,rb5,rb6,rbL⟩:=Bk.j7 (KB.out.ext E.out))
   | (go_at_call 13;refine(C2.out _ _ _ (HV.out.ext E.out) (HW.out.ext E.out)).mono ?_;rintro e wz ⟨rfl,he⟩;replace E:=zh (E.out.tr he);clear he C2;obtain⟨ra0,ra1,ra2,ra3,ra4,ra5,ra6,raL⟩:=Bk.j7 (KA.out.ext E.out);obtain⟨rb0,rb1,rb2,rb3,rb4,rb5,rb6,rbL⟩:=Bk.j7 (KB.out.ext E.out))
   | (go_at_call 10;refine(C3.out _ _ _ (HW.out.ext E.out) (HV.out.ext E.out)).mono ?_;rintro e wz ⟨rfl,he⟩;replace E:=zh (E.out.tr he);clear he C3;obtain⟨ra0,ra1,ra2,ra3,ra4,ra5,ra6,raL⟩:=Bk.j7 (KA.out.ext E.out);obtain⟨rb0,rb1,rb2,rb3,rb4,rb5,rb6,rbL⟩:=Bk.j7 (KB.out.ext E.out))
   | (go_at_call 14;refine(zBr _ x _ (HV.out.ext E.out)).mono ?_;rintro e wz ⟨rfl,he⟩;rw[gv];replace E:=zh (E.out.tr he);clear he;obtain⟨ra0,ra1,ra2,ra3,ra4,ra5,ra6,raL⟩:=Bk.j7 (KA.out.ext E.out);obtain⟨rb0,rb1,rb2,rb3,rb4,rb5,rb6,rbL⟩:=Bk.j7 (KB.out.ext E.out)))
   obtain⟨ka0,ka1,ka2,ka3,ka4,ka5,ka6,kaL⟩:=Bk.j7 (KA.out.ext E.out);obtain⟨kb0,kb1,kb2,kb3,kb4,kb5,kb6,kbL⟩:=Bk.j7 (KB.out.ext E.out);refine wp_region_held_drew (S:=fun u=>u.cell? ⟨A,0,none⟩=some (.slice p0 x.Plan.Parts.length q0)/\u.cell? ⟨A,1,none⟩=some (.slice p1 x.Plan.Channels.length q1)/\u.cell? ⟨A,2,none⟩=some (.slice p2 x.Plan.Slots.length q2)/\u.cell? ⟨A,3,none⟩=some (.slice p3 x.Programs.length q3)/\u.cell? ⟨A,4,none⟩=some (.slice p4 x.Cores.length q4)/\u.cell? ⟨A,5,none⟩=some (.slice p5 x.Holds.length q5)/\u.cell? ⟨A,6,none⟩=some (.int .i64 x.Tick)/\u.cell? ⟨B,0,none⟩=some (.slice b0 y.Plan.Parts.length d0)/\u.cell? ⟨B,1,none⟩=some (.slice b1 y.Plan.Channels.length d1)/\u.cell? ⟨B,2,none⟩=some (.slice b2 y.Plan.Slots.length d2)/\u.cell? ⟨B,3,none⟩=some (.slice b3 y.Programs.length d3)/\u.cell? ⟨B,4,none⟩=some (.slice b4 y.Cores.length d4)/\u.cell? ⟨B,5,none⟩=some (.slice b5 y.Holds.length d5)/\u.cell? ⟨B,6,none⟩=some (.int .i64 y.Tick)) (by kernel_rfl) ?_ (fun hHeld=>?_)
   ·(try dsimp only)<;>go_keep
   refine hT 0 ?_;refine hT 1 ?_;refine hT 2 ?_;refine hT 4 ?_;refine hC 3 fun K hK=>?_
   go_simp;(go_at_call 10;refine(CSS.out _ _ _ (HV.out.ext E.out.drew) (HV.out.ext E.out.drew)).mono ?_;rintro e wa ⟨rfl,he⟩;replace E:=zh (E.out.drew.tr he);clear CSS;obtain⟨r0a0,r0a1,r0a2,r0a3,r0a4,r0a5,r0a6,r0aL⟩:=Bk.j7 (KA.out.ext E.out);obtain⟨r0b0,r0b1,r0b2,r0b3,r0b4,r0b5,r0b6,r0bL⟩:=Bk.j7 (KB.out.ext E.out);clear he);try go_wp2_with fail
   refine hK.out _ _ ?_ (fun hHeld=>?_)
   ·(try dsimp only)<;>go_keep
   clear hK K;try simp only[Act.put,zs]
   refine hT 5 ?_;refine hT 6 ?_;refine hT 7 ?_;refine hT 8 ?_;refine hT 9 ?_;refine hU 10 ?_;refine hU 11 ?_;refine hU 12 ?_;refine hU 13 ?_;refine hU 14 ?_;refine hU 15 ?_;refine hU 16 ?_;refine hT 17 ?_;refine hT 18 ?_;refine hT 19 ?_;refine hT 20 ?_;refine hC 21 fun K hK=>?_
   go_simp;(go_at_call 9;refine(law_alive _).mono ?_;rintro e wb ⟨rfl,he⟩;replace E:=zh (E.out.tr he);obtain⟨r1a0,r1a1,r1a2,r1a3,r1a4,r1a5,r1a6,r1aL⟩:=Bk.j7 (KA.out.ext E.out);obtain⟨r1b0,r1b1,r1b2,r1b3,r1b4,r1b5,r1b6,r1bL⟩:=Bk.j7 (KB.out.ext E.out);clear he;clear r0a0 r0a1 r0a2 r0a3 r0a4 r0a5 r0a6 r0b0 r0b1 r0b2 r0b3 r0b4 r0b5 r0b6 r0aL r0bL);try go_wp2_with fail
   refine hK.out _ _ ?_ (fun hHeld=>?_)
   ·(try dsimp only)<;>go_keep
   clear hK K;try simp only[Act.put,zs]
   refine hT 22 ?_;refine hT 23 ?_;refine wpAnyH_done (by kernel_rfl) ?_ _
   go_wp2;go_ret;exact⟨rfl,HE.out.tr E.out⟩
  ·have hb1:decide (n ≥ 0)=true:=decide_eq_true h0;have hb2:decide (n < (x.Cores.length:Int))=false:=decide_eq_false h1;clear h0 h1;go_upto_region 8 with (first
   | (go_at_call 10;refine(C1.out _ _ _ (HV.out.ext E.out) (HW.out.ext E.out)).mono ?_;rintro e wz ⟨rfl,he⟩;replace E:=zh (E.out.tr he);clear he C1;obtain⟨ra0,ra1,ra2,ra3,ra4,ra5,ra6,raL⟩:=Bk.j7 (KA.out.ext E.out);obtain⟨rb0,rb1,rb2,rb3,rb4,rb5,rb6,rbL⟩:=Bk.j7 (KB.out.ext E.out))
   | (go_at_call 13;refine(C2.out _ _ _ (HV.out.ext E.out) (HW.out.ext E.out)).mono ?_;rintro e wz ⟨rfl,he⟩;replace E:=zh (E.out.tr he);clear he C2;obtain⟨ra0,ra1,ra2,ra3,ra4,ra5,ra6,raL⟩:=Bk.j7 (KA.out.ext E.out);obtain⟨rb0,rb1,rb2,rb3,rb4,rb5,rb6,rbL⟩:=Bk.j7 (KB.out.ext E.out))
   | (go_at_call 10;refine(C3.out _ _ _ (HW.out.ext E.out) (HV.out.ext E.out)).mono ?_;rintro e wz ⟨rfl,he⟩;replace E:=zh (E.out.tr he);clear he C3;obtain⟨ra0,ra1,ra2,ra3,ra4,ra5,ra6,raL⟩:=Bk.j7 (KA.out.ext E.out);obtain⟨rb0,rb1,rb2,rb3,rb4,rb5,rb6,rbL⟩:=Bk.j7 (KB.out.ext E.out))
   | (go_at_call 14;refine(zBr _ x _ (HV.out.ext E.out)).mono ?_;rintro e wz ⟨rfl,he⟩;rw[gv];replace E:=zh (E.out.tr he);clear he;obtain⟨ra0,ra1,ra2,ra3,ra4,ra5,ra6,raL⟩:=Bk.j7 (KA.out.ext E.out);obtain⟨rb0,rb1,rb2,rb3,rb4,rb5,rb6,rbL⟩:=Bk.j7 (KB.out.ext E.out)))
   obtain⟨ka0,ka1,ka2,ka3,ka4,ka5,ka6,kaL⟩:=Bk.j7 (KA.out.ext E.out);obtain⟨kb0,kb1,kb2,kb3,kb4,kb5,kb6,kbL⟩:=Bk.j7 (KB.out.ext E.out);refine wp_region_held_drew (S:=fun u=>u.cell? ⟨A,0,none⟩=some (.slice p0 x.Plan.Parts.length q0)/\u.cell? ⟨A,1,none⟩=some (.slice p1 x.Plan.Channels.length q1)/\u.cell? ⟨A,2,none⟩=some (.slice p2 x.Plan.Slots.length q2)/\u.cell? ⟨A,3,none⟩=some (.slice p3 x.Programs.length q3)/\u.cell? ⟨A,4,none⟩=some (.slice p4 x.Cores.length q4)/\u.cell? ⟨A,5,none⟩=some (.slice p5 x.Holds.length q5)/\u.cell? ⟨A,6,none⟩=some (.int .i64 x.Tick)/\u.cell? ⟨B,0,none⟩=some (.slice b0 y.Plan.Parts.length d0)/\u.cell? ⟨B,1,none⟩=some (.slice b1 y.Plan.Channels.length d1)/\u.cell? ⟨B,2,none⟩=some (.slice b2 y.Plan.Slots.length d2)/\u.cell? ⟨B,3,none⟩=some (.slice b3 y.Programs.length d3)/\u.cell? ⟨B,4,none⟩=some (.slice b4 y.Cores.length d4)/\u.cell? ⟨B,5,none⟩=some (.slice b5 y.Holds.length d5)/\u.cell? ⟨B,6,none⟩=some (.int .i64 y.Tick)) (by kernel_rfl) ?_ (fun hHeld=>?_)
   ·(try dsimp only)<;>go_keep
   refine hT 0 ?_;refine hT 1 ?_;refine hT 2 ?_;refine hT 4 ?_;refine hC 3 fun K hK=>?_
   go_simp;(go_at_call 10;refine(CSS.out _ _ _ (HV.out.ext E.out.drew) (HV.out.ext E.out.drew)).mono ?_;rintro e wa ⟨rfl,he⟩;replace E:=zh (E.out.drew.tr he);clear CSS;obtain⟨r0a0,r0a1,r0a2,r0a3,r0a4,r0a5,r0a6,r0aL⟩:=Bk.j7 (KA.out.ext E.out);obtain⟨r0b0,r0b1,r0b2,r0b3,r0b4,r0b5,r0b6,r0bL⟩:=Bk.j7 (KB.out.ext E.out);clear he);try go_wp2_with fail
   refine hK.out _ _ ?_ (fun hHeld=>?_)
   ·(try dsimp only)<;>go_keep
   clear hK K;try simp only[Act.put,zs]
   refine hT 5 ?_;refine hT 6 ?_;refine hT 7 ?_;refine hT 8 ?_;refine hT 9 ?_;refine hU 10 ?_;refine hU 11 ?_;refine hU 12 ?_;refine hU 13 ?_;refine hU 14 ?_;refine hU 15 ?_;refine hU 16 ?_;refine hT 17 ?_;refine hT 18 ?_;refine hT 19 ?_;refine hT 20 ?_;refine hC 21 fun K hK=>?_
   go_simp;(go_at_call 9;refine(law_alive _).mono ?_;rintro e wb ⟨rfl,he⟩;replace E:=zh (E.out.tr he);obtain⟨r1a0,r1a1,r1a2,r1a3,r1a4,r1a5,r1a6,r1aL⟩:=Bk.j7 (KA.out.ext E.out);obtain⟨r1b0,r1b1,r1b2,r1b3,r1b4,r1b5,r1b6,r1bL⟩:=Bk.j7 (KB.out.ext E.out);clear he;clear r0a0 r0a1 r0a2 r0a3 r0a4 r0a5 r0a6 r0b0 r0b1 r0b2 r0b3 r0b4 r0b5 r0b6 r0aL r0bL);try go_wp2_with fail
   refine hK.out _ _ ?_ (fun hHeld=>?_)
   ·(try dsimp only)<;>go_keep
   clear hK K;try simp only[Act.put,zs]
   refine hT 22 ?_;refine hT 23 ?_;refine wpAnyH_done (by kernel_rfl) ?_ _
   go_wp2;go_ret;exact⟨rfl,HE.out.tr E.out⟩
end Sk
