/- Contracts of functions of the given program. -/
import Derived.Test.YtbekofpkcahbkaaZzzzfBoard
namespace Sk
open Go Go.Proofs Go.RowKit
set_option maxHeartbeats 4000000
set_option maxRecDepth 100000
set_option linter.unusedVariables false
set_option linter.unusedSimpArgs false
theorem zE0(v:Value)(xs:List By)(w:World)(h:Rs w v xs) :
  Calls Try.prog 4 #[v] w fun e w' => ∃ v' x,e = .returned v'/\Rv (α:=Board) w' v' x/\GT.tot x<=1000000/\Ext w w':=by
 have H:=zh h;clear h;go_enter Try.func4,Try.ntmps4;go_upto_region 1 with (fail)
 obtain⟨A,hA⟩:∃ A,A=w.heap.size:=⟨_,rfl⟩;refine zA2 (fun W0=>Ext w W0/\Bk W0 A [.slice none 0 0,.slice none 0 0] 26) ⟨(zr _).alloc _,by rw[hA];exact Bk.new _ _ _⟩ ?_
 rw[<- hA];rintro W0 ⟨e0,kA⟩;have hwA:w.heap.size<=A:=by omega
 clear hA;have HE0:=zh e0;have KA:=zh kA;have hA:=kA.lt;clear e0 kA;go_upto_region 3 with (first
  | (go_at_call 8;refine(zH6 _ _ _ (H.out.ext HE0.out)).mono ?_;rintro e w1 ⟨b,rfl,hb,he,hr⟩;have HE:=zh he;have hs1:=he.sz;have hb1:=hr.lt;have HR:Hid (Rd W0 w1 b (100+6000)):=zh (hr.le (by omega));clear he hr)
  | (go_at_call 9;refine(zGg W0 _ b 100 3 HR.out ⟨by omega,by omega⟩).mono ?_;rintro e w2 ⟨v2,x,rfl,⟨v0,v1,F,rfl,hs,ho,hl,hap⟩,htt,hm,hr⟩;obtain⟨a0,c0,rfl,-⟩:=id hs;obtain⟨a1,c1,rfl,-⟩:=ho.form;have KA2:=zh (hm.bk (KA.out.ext HE.out) (by simp;omega));have HS:=zh hs;have HO:=zh ho;have HL:=zh hl;have HAP:=zh hap;have HTT:Hid (GT.tot x<=1000000):=zh (Nat.le_trans htt (by omega));have HT9:=zh htt;have HM2:=zh (hm.ext (HE0.out.tr HE.out) (by simp;omega));have hs2:=hm.size;have HR2:=zh hr;clear hm hr hs ho hl hap htt;have HO2:=zh HO.out.lt;have HL2:=zh HS.out.inh))
 obtain⟨X,hX⟩:∃ X,X=w2.heap.size:=⟨_,rfl⟩;refine zA2 (fun u=>Ext w2 u/\Bk u X [.slice a0 x.Boxes.length c0,.slice a1 x.Wires.length c1] 26) ⟨(zr _).alloc _,by rw[hX];exact Bk.new _ _ _⟩ ?_
 rw[<- hX];rintro u3 ⟨e3,kX⟩;have hXw:w2.heap.size<=X:=by omega
 have ltX:=kX.lt;clear hX;replace HS:=zh (HS.out.ext e3);replace HO:=zh (HO.out.ext e3);replace KA2:=zh (KA2.out.ext e3);replace HM2:=zh (HM2.out.tr e3);replace HR2:=zh (HR2.out.ext e3);have hAX:A < X:=by omega
 have hOL:Hid (∀ k,(Value.slice a1 x.Wires.length c1).ownBlock=some k->k < X):=zh (fun k hk=>by
  have h1:=HO2.out k hk
  omega)
 have KX:=zh kX;obtain⟨x0,x1⟩:=Bk.k2 kX;have hlw:x.Wires.length<=1000000:=by
  have e:GT.tot x=GT.tot x.Boxes+GT.tot x.Wires:=rfl;have h1:=zBa (xs:=x.Wires)
  have:=HTT.out
  omega
 clear e3 kX;by_cases hw0:0 < x.Wires.length
 case neg =>
  have hz1:decide ((x.Wires.length:Int) > 0)=false:=decide_eq_false (by omega)
  have hz2:decide ((0:Int) < x.Wires.length)=false:=decide_eq_false (by omega)
  obtain⟨d0,d1⟩:=Bk.k2 KA2.out;have df:=KA2.out.fz;have dl:=KA2.out.lt;go_wp2;have k4:Mw [A] u3 ((u3.setCell ⟨A,0,none⟩ (.slice a0 x.Boxes.length c0)).setCell ⟨A,1,none⟩ (.slice a1 x.Wires.length c1)):=((Mw.refl [A] u3).set (p:=⟨A,0,none⟩) (by simp) _).set (p:=⟨A,1,none⟩) (by simp) _
  exact bodyPost_ret (v:=.agg #[.slice a0 x.Boxes.length c0,.slice a1 x.Wires.length c1]) (by simp[results,Try.results4,go_sem,d0,d1]) rfl ⟨_,x,rfl,Rv.mkBoard ⟨F,k4.sl HS.out (fun y hy hm=>by rw[List.mem_singleton] at hm;have:=HL.out y hy;omega)⟩ (HO.out.mwF k4 (fun y hy e=>by rw[List.mem_singleton] at hy;have:=HO.out.own y e;omega) (fun y hy hm=>by cases hm)).rs,HTT.out,k4.ext HM2.out (by simp;omega)⟩
 have hz1:decide ((x.Wires.length:Int) > 0)=true:=decide_eq_true (by omega)
 have hz2:decide ((0:Int) < x.Wires.length)=true:=decide_eq_true (by omega)
 go_upto_if 16 with (go_at_call 10;refine(zE7 W0 _ b 99 _ HR2.out (zAb (by omega) (by omega))).mono ?_;rintro e w4 ⟨⟨q,rfl⟩,hm,hr⟩;have HM4:=zh (Mw.ofMo hm);clear hm hr)
 have bA:b≠A:=by omega
 have bX:b≠X:=by omega
 replace HS:=zh (HM4.out.sl HS.out (fun y hy hm=>by rw[List.mem_singleton] at hm;have:=HL.out y hy;omega))
 replace HO:=zh (HO.out.mwF HM4.out (fun y hy e=>by rw[List.mem_singleton] at hy;have:=HO.out.own y e;omega) (fun y hy hm=>by cases hm))
 replace KA2:=zh (HM4.out.bk KA2.out (by simp;omega))
 replace KX:=zh (HM4.out.bk KX.out (by simp;omega))
 replace HM2:=zh (HM4.out.ext HM2.out (by simp;omega))
 have hs4:=HM4.out.size;clear HM4 x0 x1 HR2 HR HE;obtain⟨x0,x1⟩:=Bk.k2 KX.out;have xf:=KX.out.fz;have xl:=KX.out.lt;obtain⟨d0,d1⟩:=Bk.k2 KA2.out;have df:=KA2.out.fz;have dl:=KA2.out.lt;cases q
 ·go_wp2;have k4:Mw [A] w4 ((w4.setCell ⟨A,0,none⟩ (.slice a0 x.Boxes.length c0)).setCell ⟨A,1,none⟩ (.slice a1 x.Wires.length c1)):=((Mw.refl [A] w4).set (p:=⟨A,0,none⟩) (by simp) _).set (p:=⟨A,1,none⟩) (by simp) _
  exact bodyPost_ret (v:=.agg #[.slice a0 x.Boxes.length c0,.slice a1 x.Wires.length c1]) (by simp[results,Try.results4,go_sem,d0,d1]) rfl ⟨_,x,rfl,Rv.mkBoard ⟨F,k4.sl HS.out (fun y hy hm=>by rw[List.mem_singleton] at hm;have:=HL.out y hy;omega)⟩ (HO.out.mwF k4 (fun y hy e=>by rw[List.mem_singleton] at hy;have:=HO.out.own y e;omega) (fun y hy hm=>by cases hm)).rs,HTT.out,k4.ext HM2.out (by simp;omega)⟩
 obtain⟨g,s,wz,rfl,hgl,hgx,h0,h1,h2,h3,h4,h5,r0,r1,r2,r3,r4,r5,-⟩:=HO.out.rs.atWire 0 hw0;simp only[Nat.zero_mul,Nat.add_zero] at h0 h1 h2 h3 h4 h5;have HEN:Hid (∀ u:World,GT.enc u [.int .i64 wz.From,.int .i64 wz.FromPart,.int .i64 wz.FromCell,.int .i64 wz.To,.int .i64 wz.ToPart,.int .i64 wz.ToCell] wz []):=zh (fun u=>⟨rfl,r0,r1,r2,r3,r4,r5,rfl⟩)
 have HOF:=zh HO.out.lt;have hgo:A < g:=by have:=HO.out.own g rfl;omega
 have hgX:g < X:=hOL.out g rfl;clear hgx r0 r1 r2 r3 r4 r5 d0 d1 df dl hz1 hz2;go_upto_region 4 with (fail)
 refine zAz rfl 9 [(17,[17]),(18,[18]),(19,[19]),(20,[20]),(21,[21]),(22,[22]),(23,[23]),(24,[24]),(25,[25])]
  (fun i vs u F'=>match i,vs with
   | 0,[y]=>y = .pointer (some ⟨X,1,none⟩)
   | 1,[y]=>y = .slice (some ⟨g,s,none⟩) x.Wires.length c1
   | 2,[y]=>y = .pointer (some ⟨X,1,none⟩)
   | 3,[y]=>y = .slice (some ⟨g,s,none⟩) x.Wires.length c1
   | 4,[y]=>y = .pointer (some ⟨g,s,none⟩)
   | 5,[y]=>y = .agg #[.int .i64 wz.From,.int .i64 wz.FromPart,.int .i64 wz.FromCell,.int .i64 wz.To,.int .i64 wz.ToPart,.int .i64 wz.ToCell]
   | 6,[y] => ∃ g2,y = .slice (some ⟨g2,0,none⟩) 1 1/\F' = [g2]/\Row (α:=Wire) u g2 0 [wz] []
   | 7,[_]=>True
   | 8,[y]=>y = .pointer (some ⟨X,1,none⟩)
   | _,_=>False) [g] (by simpa using hgl) [5,7] (fun c vs u=>match c,vs with
   | 0,_=>Oa (α:=Wire) 31 w1.heap.size u (.slice (some ⟨g,s,none⟩) x.Wires.length c1) x.Wires []/\∀ j v,w4.cell? ⟨g,j,none⟩=some v->u.cell? ⟨g,j,none⟩=some v
   | 1,_=>Oa (α:=Wire) 31 w1.heap.size u (.slice (some ⟨g,s,none⟩) x.Wires.length c1) x.Wires []
   | 2,[_,y]=>Oa (α:=Wire) 31 w1.heap.size u y (x.Wires ++ [wz]) []/\∀ k,y.ownBlock=some k->k≠X
   | _,_=>False) (by decide +kernel) (by decide +kernel) (fun w2 h=>⟨HO.out.ext h,fun j v hv=>(zA0 h hgl).trans hv⟩) ?_ ?_ ?_
 ·intro i hi hnt o ho U u F2 hE hd hap;have kxu:=hE.bk KX.out (by simp;omega)
  have x1:=kxu.cell (j:=1) rfl;clear kxu;rcases(by omega:i=0\/i=1\/i=2\/i=3\/i=4\/i=5\/i=6\/i=7\/i=8) with rfl|rfl|rfl|rfl|rfl|rfl|rfl|rfl|rfl
  ·cases ho;simp only[fr];intro K hK;go_wp2;exact zk hK _ (fun _ _=>rfl)
  ·cases ho;simp only[fr];obtain⟨⟨d0,-⟩,-⟩:=fa [0] (by decide +kernel) hd
   simp only[fu] at d0;try simp only[d0]
   clear d0;intro K hK;go_wp2;exact zk hK _ (fun _ _=>rfl)
  ·cases ho;simp only[fr];intro K hK;go_wp2;exact zk hK _ (fun _ _=>rfl)
  ·cases ho;simp only[fr];obtain⟨⟨d2,-⟩,-⟩:=fa [2] (by decide +kernel) hd
   simp only[fu] at d2;try simp only[d2]
   clear d2;intro K hK;go_wp2;exact zk hK _ (fun _ _=>rfl)
  ·cases ho;simp only[fr];obtain⟨⟨d2,-⟩,⟨d3,-⟩,-⟩:=fa [2,3] (by decide +kernel) hd
   simp only[fu] at d2 d3;try simp only[d2,d3]
   clear d2 d3;intro K hK;go_wp2;exact zk hK _ (fun _ _=>rfl)
  ·exact absurd (by decide) hnt
  ·cases ho;simp only[fr];obtain⟨⟨d2,-⟩,⟨d3,-⟩,⟨d4,-⟩,⟨d5,-⟩,-⟩:=fa [2,3,4,5] (by decide +kernel) hd
   simp only[fu] at d2 d3 d4 d5;try simp only[d2,d3,d4,d5]
   have hsu:=hE.size;intro K2 hK2;go_wp2;exact hK2 _ [u.heap.size] _ ((zr u).alloc _) (fun w2 h=>⟨_,rfl,rfl,h.row (Row.lit1 (HEN.out u)) (by simp) (by simp;omega) (fun y hy=>by cases hy)⟩) ((Bk.new u [.int .i64 wz.From,.int .i64 wz.FromPart,.int .i64 wz.FromCell,.int .i64 wz.To,.int .i64 wz.ToPart,.int .i64 wz.ToCell] 31).own (Nat.le_refl _))
  ·exact absurd (by decide) hnt
  ·cases ho;simp only[fr];obtain⟨⟨d0,-⟩,⟨d1,-⟩,⟨d2,-⟩,⟨d3,-⟩,⟨d4,-⟩,⟨d5,-⟩,-⟩:=fa [0,1,2,3,4,5] (by decide +kernel) hd
   simp only[fu] at d0 d1 d2 d3 d4 d5;try simp only[d0,d1,d2,d3,d4,d5]
   clear d0 d1 d2 d3 d4 d5;intro K hK;go_wp2;exact zk hK _ (fun _ _=>rfl)
 ·intro c i hc o ho U u F2 hE hd hap ht;rcases c with _|c
  ·cases hc;cases ho;simp only[fr];obtain⟨⟨d2,-⟩,⟨d3,-⟩,⟨d4,-⟩,-⟩:=fa [2,3,4] (by decide +kernel) hd
   simp only[fu] at d2 d3 d4;try simp only[d2,d3,d4]
   obtain⟨hoa,hcl⟩:=ht;have HA:=zh hoa;have c0:=hcl _ _ h0;have c1:=hcl _ _ h1;have c2:=hcl _ _ h2;have c3:=hcl _ _ h3;have c4:=hcl _ _ h4;have c5:=hcl _ _ h5;clear hoa hcl h0 h1 h2 h3 h4 h5;intro K2 hK2;go_wp2;exact hK2 _ [] _ (Mw.refl _ _) (fun w3 h=>HA.out.ext h) (fun w3 h=>rfl) (Own.nil _ _)
  rcases c with _|c
  ·cases hc;cases ho;simp only[fr];obtain⟨⟨d0,-⟩,⟨d1,-⟩,⟨d2,-⟩,⟨d3,-⟩,⟨d4,-⟩,⟨d5,-⟩,⟨d6,o6⟩,-⟩:=fa [0,1,2,3,4,5,6] (by decide +kernel) hd
   simp only[fu] at d0 d1 d2 d3 d4 d5 d6;try simp only[d0,d1,d2,d3,d4,d5]
   obtain⟨g2,e2,k2,hrow⟩:=d6;have hoa:Oa (α:=Wire) 31 w1.heap.size u (.slice (some ⟨g,s,none⟩) x.Wires.length c1) x.Wires []:=ht;have hsu:=hE.size;simp only[e2];intro K2 hK2;refine zEa (α:=Wire) rfl _ _ 24 rfl 31 Try.underlying24 zF8 (v:=.slice (some ⟨g,s,none⟩) x.Wires.length c1) (ys:=[wz]) rfl hoa rfl rfl hrow (by omega) (fun y hy=>by cases hy) (by omega) (by omega) ?_
   intro v5 w5 hO5 hg5 hw5;go_wp2;exact hK2 _ [] _ (Mw.ofGrown hg5 (fun k hk=>by simp[Value.ownBlock] at hk;simp[hk])) (fun w3 h=>⟨hO5.ext h,fun k hk=>hw5.elim (fun e=>by rw[hk] at e;have e2:k=g:=(by simpa [Value.ownBlock] using e);omega) (fun e=>by rw[hk] at e;have e2:k=u.heap.size:=(by simpa using e);omega)⟩) (fun _ _=>trivial) (Own.nil _ _)
  ·cases hc
 ·intro o ho U u F2 hE hφ hap ht;cases ho;simp only[fr];obtain⟨⟨d0,-⟩,⟨d1,-⟩,⟨d2,-⟩,⟨d3,-⟩,⟨d4,-⟩,⟨d5,-⟩,⟨d6,o6⟩,⟨d7,o7⟩,⟨d8,-⟩,-⟩:=fb [0,1,2,3,4,5,6,7,8] (by decide +kernel) hφ
  simp only[fu] at d0 d1 d2 d3 d4 d5 d6 d7 d8;try simp only[d0,d1,d2,d3,d4,d5,d8]
  obtain⟨hoa,hwn⟩:Oa (α:=Wire) 31 w1.heap.size u (U 24) (x.Wires ++ [wz]) []/\∀ k,(U 24).ownBlock=some k->k≠X:=ht;obtain⟨p9,n9,q9,e9⟩:=hoa.sh0;simp only[e9] at hoa hwn ⊢;have kxu:=hE.bk KX.out (by simp;omega)
  have kau:=hE.bk KA2.out (by simp;omega)
  have hsl:=hE.sl HS.out (fun y hy hm=>by rw[List.mem_singleton] at hm;subst hm;exact HAP.out y rfl hy)
  obtain⟨x0,x1⟩:=Bk.k2 kxu;have xf:=kxu.fz;have xl:=kxu.lt;have d0':=kau.cell (j:=0) rfl;have d1':=kau.cell (j:=1) rfl;have df:=kau.fz;have dl:=kau.lt;have hsu:=hE.size;have HE9:=zh (hE.ext HM2.out (by simp;omega))
  have HS9:=zh hsl;have HO9:=zh hoa;have HA9:=zh kau;have HW9:=zh hwn;clear d0 d1 d2 d3 d4 d5 d6 d7 d8 hap hφ hE hoa hwn hsl kxu kau h0 h1 h2 h3 h4 h5;go_wp2;have k4:Mw [X,A] u (((u.setCell ⟨X,1,none⟩ (.slice p9 n9 q9)).setCell ⟨A,0,none⟩ (.slice a0 x.Boxes.length c0)).setCell ⟨A,1,none⟩ (.slice p9 n9 q9)):=(((Mw.refl [X,A] u).set (p:=⟨X,1,none⟩) (by simp) _).set (p:=⟨A,0,none⟩) (by simp) _).set (p:=⟨A,1,none⟩) (by simp) _
  have KA9:=HA9.out.set_ne (p:=⟨X,1,none⟩) (by show A≠X;omega) (.slice p9 n9 q9)
  obtain⟨y0,y1⟩:=Bk.k2 KA9;exact bodyPost_ret (v:=.agg #[.slice a0 x.Boxes.length c0,.slice p9 n9 q9]) (by simp[results,Try.results4,go_sem,y0,y1]) rfl ⟨_,⟨x.Boxes,x.Wires ++ [wz]⟩,rfl,Rv.mkBoard (x:=⟨x.Boxes,x.Wires ++ [wz]⟩) ⟨F,k4.sl HS9.out (fun y hy hm=>by have:=HL.out y hy;have:=HL2.out y hy;rcases List.mem_cons.1 hm with h|h;omega;rw[List.mem_singleton] at h;omega)⟩ (HO9.out.mwF k4 (fun y hy e=>by have:=HO9.out.own y e;have:=HW9.out y e;rcases List.mem_cons.1 hy with h|h;omega;rw[List.mem_singleton] at h;omega) (fun y hy hm=>by cases hm)).rs,by
   have e1:GT.tot (⟨x.Boxes,x.Wires ++ [wz]⟩:Board)=GT.tot x.Boxes+GT.tot (x.Wires ++ [wz]):=rfl;have e2:GT.tot x=GT.tot x.Boxes+GT.tot x.Wires:=rfl;have e3:=zGi wz x.Wires;have e4:GT.tot wz=0:=rfl;have e5:=HT9.out
   show GT.tot (⟨x.Boxes,x.Wires ++ [wz]⟩:Board)<=1000000
   omega,k4.ext HE9.out (by simp;omega)⟩
end Sk
