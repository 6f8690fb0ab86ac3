/- Contracts of functions of the given program. -/
import Derived.Test.YtbekofpkcahbkaaZzzzgBdD
namespace Sk
open Go Go.Proofs Go.RowKit
set_option maxHeartbeats 1000000
set_option linter.unusedVariables false
set_option linter.unusedSimpArgs false
theorem zI5{x:Board}{v:Wire}(hv:x.Wires[0]? = some v):zFt ⟨x.Boxes,x.Wires ++ [v]⟩=false:=by
 rw[Bool.eq_false_iff];intro h;have h3:=((zE1.1 h).ok x.Wires.length v (by simp)).2.2
 have h0:=zAc hv;rw[List.any_eq_false] at h3;refine h3 v ?_ (by simp[zBd])
 refine List.mem_of_getElem? (i:=0) ?_;rw[List.getElem?_take];simp only[h0,if_true];rw[List.getElem?_append_left h0];exact hv
theorem zIq{x:Board}(h:zFt x=true):zFt ⟨x.Boxes,[]⟩=true :=
 zE1.2 ⟨(zE1.1 h).nb,Nat.zero_le _,(zE1.1 h).mv,fun k w hk=>by simp at hk⟩
set_option maxHeartbeats 8000000
set_option maxRecDepth 100000
theorem zG9(v:Value)(xs:List By)(w:World)(h:Rs w v xs) :
  Calls Try.prog 3 #[v] w fun e w'=>e = .returned (.bool true)/\Ext w w':=by
 obtain⟨a,c,rfl,hl⟩:=h.form;have H:=zh h;clear h;by_cases hx:xs.length<=1048576
 case neg =>
  have hx2:1048576 < xs.length:=by omega
  clear hx;go_enter Try.func3,Try.ntmps3;go_wp2;go_ret;exact⟨rfl,zr w⟩
 go_enter Try.func3,Try.ntmps3;go_upto_region 4 with (go_at_call 4;refine(zE0 _ _ _ H.out).mono ?_;rintro e w1 ⟨v1,x,rfl,hv,htt,he⟩;obtain⟨p0,q0,p1,q1,rfl,s0,-,s1,-⟩:=hv.openBoard;have HV:=zh hv;have HTT:=zh htt;have HE:=zh he;clear hv htt he)
 obtain⟨A,hA⟩:∃ A,A=w1.heap.size:=⟨_,rfl⟩;refine zA2 (fun u=>Ext w1 u/\Bk u A [.slice p0 x.Boxes.length q0,.slice p1 x.Wires.length q1] 26) ⟨(zr _).alloc _,by rw[hA];exact Bk.new _ _ _⟩ ?_
 rw[<- hA];rintro W1 ⟨e1,kA⟩;clear hA H;replace HV:=zh (HV.out.ext e1);replace s0:=zh (s0.out.ext e1);replace s1:=zh (s1.out.ext e1);replace HE:=zh (HE.out.tr e1);have KA:=zh kA;clear e1 kA;have E:=zh (zr W1);have ht9:GT.tot x=GT.tot x.Boxes+GT.tot x.Wires:=rfl;have hxb:x.Boxes.length<=1000000:=by have:=zBa (xs:=x.Boxes);have:=HTT.out;omega
 have hxw:x.Wires.length<=1000000:=by have:=zBa (xs:=x.Wires);have:=HTT.out;omega
 clear ht9;obtain⟨bv,hbv⟩:∃ q,zFt x=q:=⟨_,rfl⟩;have hne:(bv != bv)=false:=by simp
 obtain⟨fa0,fa1,faL⟩:=Bk.j2 (KA.out.ext E.out);go_upto_region 7 with (first|(go_at_call 5;refine(zCe _ x _ (HV.out.ext E.out)).mono ?_;rintro e wa ⟨rfl,he⟩;rw[hbv];replace E:=zh (E.out.tr he);clear he;obtain⟨ua0,ua1,uaL⟩:=Bk.j2 (KA.out.ext E.out))|(go_at_call 6;refine(zDb _ x _ (HV.out.ext E.out)).mono ?_;rintro e wb ⟨rfl,he⟩;rw[hbv];replace E:=zh (E.out.tr he);clear he;obtain⟨va0,va1,vaL⟩:=Bk.j2 (KA.out.ext E.out)))
 cases bv
 ·go_wp2_with (go_at_call 7;refine(law_alive _).mono ?_;rintro e w9 ⟨rfl,he⟩;replace E:=zh (E.out.tr he);clear he)
  go_ret;exact⟨rfl,HE.out.tr E.out⟩
 by_cases hw0:0 < x.Wires.length
 case neg =>
  have hb0:((x.Wires.length:Int) == 0)=true:=by rw[show x.Wires.length=0 by omega];rfl
  go_wp2_with (go_at_call 7;refine(law_alive _).mono ?_;rintro e w9 ⟨rfl,he⟩;replace E:=zh (E.out.tr he);clear he)
  go_ret;exact⟨rfl,HE.out.tr E.out⟩
 have hb0:((x.Wires.length:Int) == 0)=false:=by rw[beq_eq_false_iff_ne];omega
 go_upto_region 9 with (fail)
 refine zA2 (fun u=>Ext W1 u) E.out ?_
 rintro W2 e2;replace HV:=zh (HV.out.ext e2);replace s0:=zh (s0.out.ext e2);replace s1:=zh (s1.out.ext e2);replace KA:=zh (KA.out.ext e2);replace HE:=zh (HE.out.tr e2);clear e2 E ua0 ua1 uaL va0 va1 vaL fa0 fa1 faL;obtain⟨gw,ow,wz,rfl,hlw,hxz,h0,h1,h2,h3,h4,h5,r0,r1,r2,r3,r4,r5,-⟩:=s1.out.atWire 0 hw0;simp only[Nat.zero_mul,Nat.add_zero] at h0 h1 h2 h3 h4 h5;have HEN:Hid (∀ u:World,GT.enc u [.int .i64 wz.From,.int .i64 wz.FromPart,.int .i64 wz.FromCell,.int .i64 wz.To,.int .i64 wz.ToPart,.int .i64 wz.ToCell] wz []):=zh (fun u=>⟨rfl,r0,r1,r2,r3,r4,r5,rfl⟩)
 have HBT:=zh (zI5 hxz.out);have HBN:=zh (zIq hbv);have ltA:=KA.out.lt;clear r0 r1 r2 r3 r4 r5 hxz hbv;refine zE8 rfl 14 [(26,[26]),(27,[27]),(28,[28]),(29,[29]),(30,[30]),(31,[31]),(32,[32]),(33,[33]),(34,[34]),(35,[35]),(36,[36]),(37,[37]),(38,[38,37]),(5,[5])]
  (fun i vs u F'=>match i,vs with
   | 0,[y]=>y = .pointer (some ⟨A,0,none⟩)
   | 1,[y]=>y = .slice p0 x.Boxes.length q0
   | 2,[y] => ∃ g2,y = .slice (some ⟨g2,0,none⟩) 0 0
   | 3,[y]=>y = .pointer (some ⟨A,1,none⟩)
   | 4,[y]=>y = .slice (some ⟨gw,ow,none⟩) x.Wires.length q1
   | 5,[y]=>Oa (α:=Wire) 31 W2.heap.size u y x.Wires []/\F'=y.ownBlock.toList
   | 6,[y]=>y = .pointer (some ⟨A,1,none⟩)
   | 7,[y]=>y = .slice (some ⟨gw,ow,none⟩) x.Wires.length q1
   | 8,[y]=>y = .pointer (some ⟨gw,ow,none⟩)
   | 9,[y]=>y = .agg #[.int .i64 wz.From,.int .i64 wz.FromPart,.int .i64 wz.FromCell,.int .i64 wz.To,.int .i64 wz.ToPart,.int .i64 wz.ToCell]
   | 10,[y] => ∃ g2,y = .slice (some ⟨g2,0,none⟩) 1 1/\F' = [g2]/\Row (α:=Wire) u g2 0 [wz] []
   | 11,[y]=>Oa (α:=Wire) 31 W2.heap.size u y (x.Wires ++ [wz]) []/\F'=y.ownBlock.toList
   | 12,[y,c]=>y = .agg #[.slice p0 x.Boxes.length q0,c]
   | 13,[y] => ∃ Z,y = .pointer (some ⟨Z,0,none⟩)/\F' = [Z]/\Bk u Z [.slice none 0 0,.slice none 0 0] 26
   | _,_=>False) 11 5 (by decide +kernel) ?_ ?_ ?_
 ·intro i hi hne o ho U u F2 hE hd hap;have kau:=KA.out.ext hE;obtain⟨e0,e1⟩:=Bk.k2 kau;have c0:=(zA0 hE hlw).trans h0;have c1:=(zA0 hE hlw).trans h1;have c2:=(zA0 hE hlw).trans h2;have c3:=(zA0 hE hlw).trans h3;have c4:=(zA0 hE hlw).trans h4;have c5:=(zA0 hE hlw).trans h5;have hsu:=hE.sz;clear kau h0 h1 h2 h3 h4 h5;rcases(by omega:i=0\/i=1\/i=2\/i=3\/i=4\/i=5\/i=6\/i=7\/i=8\/i=9\/i=10\/i=11\/i=12\/i=13) with rfl|rfl|rfl|rfl|rfl|rfl|rfl|rfl|rfl|rfl|rfl|rfl|rfl|rfl
  ·replace hd:=zH9 hd (by decide +kernel)
   cases ho;simp only[fr];intro K hK;go_wp2;exact hK _ [] _ (zr u) (fun _ _=>rfl) (Own.nil _ _)
  ·replace hd:=zH9 hd (by decide +kernel)
   cases ho;simp only[fr];obtain⟨⟨d0,-⟩,-⟩:=fa [0] (by decide +kernel) hd
   simp only[fu] at d0;try simp only[d0]
   clear d0;intro K hK;go_wp2;exact hK _ [] _ (zr u) (fun _ _=>rfl) (Own.nil _ _)
  ·cases ho;simp only[fr];intro K hK;go_wp2;exact hK _ [] _ ((zr u).alloc _) (fun _ _=>⟨_,rfl⟩) (Own.nil _ _)
  ·replace hd:=zH9 hd (by decide +kernel)
   cases ho;simp only[fr];intro K hK;go_wp2;exact hK _ [] _ (zr u) (fun _ _=>rfl) (Own.nil _ _)
  ·replace hd:=zH9 hd (by decide +kernel)
   cases ho;simp only[fr];obtain⟨⟨d3,-⟩,-⟩:=fa [3] (by decide +kernel) hd
   simp only[fu] at d3;try simp only[d3]
   clear d3;intro K hK;go_wp2;exact hK _ [] _ (zr u) (fun _ _=>rfl) (Own.nil _ _)
  ·replace hd:=zH9 hd (by decide +kernel)
   cases ho;simp only[fr];obtain⟨⟨d2,o2⟩,⟨d3,-⟩,⟨d4,-⟩,-⟩:=fa [2,3,4] (by decide +kernel) hd
   simp only[fu] at d2 d3 d4;try simp only[d3,d4]
   obtain⟨g2,d2⟩:=d2;simp only[d2];intro K2 hK2;refine zFh (α:=Wire) rfl _ _ 24 rfl 31 Try.underlying24 zF8 rfl rfl (s1.out.ext hE) (by omega) ?_
   rintro v' w' (⟨g1,-⟩ | ⟨g1,g2,g3,g4⟩)
   ·rw[g1] at hw0;exact absurd hw0 (Nat.lt_irrefl _)
   ·go_wp2;exact hK2 _ v'.ownBlock.toList _ g4 (fun w2 h=>⟨h.oa (g2.mono hsu),rfl⟩) g2.ownL
  ·replace hd:=zH9 hd (by decide +kernel)
   cases ho;simp only[fr];intro K hK;go_wp2;exact hK _ [] _ (zr u) (fun _ _=>rfl) (Own.nil _ _)
  ·replace hd:=zH9 hd (by decide +kernel)
   cases ho;simp only[fr];obtain⟨⟨d6,-⟩,-⟩:=fa [6] (by decide +kernel) hd
   simp only[fu] at d6;try simp only[d6]
   clear d6;intro K hK;go_wp2;exact hK _ [] _ (zr u) (fun _ _=>rfl) (Own.nil _ _)
  ·replace hd:=zH9 hd (by decide +kernel)
   cases ho;simp only[fr];obtain⟨⟨d6,-⟩,⟨d7,-⟩,-⟩:=fa [6,7] (by decide +kernel) hd
   simp only[fu] at d6 d7;try simp only[d6,d7]
   clear d6 d7;intro K hK;go_wp2;exact hK _ [] _ (zr u) (fun _ _=>rfl) (Own.nil _ _)
  ·replace hd:=zH9 hd (by decide +kernel)
   cases ho;simp only[fr];obtain⟨⟨d6,-⟩,⟨d7,-⟩,⟨d8,-⟩,-⟩:=fa [6,7,8] (by decide +kernel) hd
   simp only[fu] at d6 d7 d8;try simp only[d6,d7,d8]
   clear d6 d7 d8;intro K hK;go_wp2;exact hK _ [] _ (zr u) (fun _ _=>rfl) (Own.nil _ _)
  ·replace hd:=zH9 hd (by decide +kernel)
   cases ho;simp only[fr];obtain⟨⟨d6,-⟩,⟨d7,-⟩,⟨d8,-⟩,⟨d9,-⟩,-⟩:=fa [6,7,8,9] (by decide +kernel) hd
   simp only[fu] at d6 d7 d8 d9;try simp only[d6,d7,d8,d9]
   intro K2 hK2;go_wp2;exact hK2 _ [u.heap.size] _ ((zr u).alloc _) (fun w2 h=>⟨_,rfl,rfl,h.row (Row.lit1 (HEN.out u)) (by simp)⟩) ((Bk.new u [.int .i64 wz.From,.int .i64 wz.FromPart,.int .i64 wz.FromCell,.int .i64 wz.To,.int .i64 wz.ToPart,.int .i64 wz.ToCell] 31).own (Nat.le_refl _))
  ·exact absurd rfl hne
  ·have d1:=(hd 1 (by decide +kernel) (by decide)).1
   have d11:=(hd 11 (by decide +kernel) (by decide)).1
   simp only[fu] at d1 d11;obtain⟨p8,n8,c8,g8⟩:=d11.1.sh0;cases ho;simp only[fr];simp only[d1,g8];intro K2 hK2;go_wp2;exact hK2 _ [] _ (zr u) (fun _ _=>by show Value.agg _=Value.agg #[_,U 37];rw[g8]) (Own.nil _ _)
  ·cases ho;simp only[fr];intro K2 hK2;go_wp2;have b1:=Bk.new u [.slice none 0 0,.slice none 0 0] 26;exact hK2 _ [u.heap.size] _ ((zr u).alloc _) (fun _ h=>⟨_,rfl,rfl,h.bk b1 (.inl (by simp))⟩) (b1.own (Nat.le_refl _))
 ·intro o ho U u F2 hE hd hap;cases ho;simp only[fr];obtain⟨⟨d2,o2⟩,⟨d3,-⟩,⟨d4,-⟩,⟨d5,o5⟩,⟨d6,-⟩,⟨d7,-⟩,⟨d8,-⟩,⟨d9,-⟩,⟨d10,o10⟩,-⟩:=fa [2,3,4,5,6,7,8,9,10] (by decide +kernel) hd
  simp only[fu] at d2 d3 d4 d5 d6 d7 d8 d9 d10;try simp only[d3,d4,d6,d7,d8,d9]
  obtain⟨g7,g70,k7,hrow⟩:=d10;obtain⟨h2,h3⟩:=d5;have hsu:=hE.sz;simp only[g70];intro K2 hK2;refine zEa (α:=Wire) rfl _ _ 24 rfl 31 Try.underlying24 zF8 (v:=U 31) (ys:=[wz]) rfl h2 rfl rfl hrow (by omega) (fun y hy=>by cases hy) (by omega) hsu ?_
  intro v' w' g1 g2 g3;go_wp2;exact hK2 _ v'.ownBlock.toList _ (U 31).ownBlock.toList (fun k hk=>by rw[h3];exact hk) (Mw.ofGrown g2 (fun k hk=>by simp[hk])) (fun w2 h=>⟨h.oa g1,rfl⟩) g1.ownL (fun k hk=>g3.elim (fun e => .inl (by rw[h3,<- e];exact hk)) (fun e => .inr (by rw[e] at hk;simp at hk;omega)))
 intro o ho U u F2 hE hφ hap;have d8:=(hφ 11 (by decide) (by decide)).1
 have d9:=(hφ 12 (by decide) (by decide)).1
 have d10:=hφ 13 (by decide) (by decide)
 have a8:=hap 11 13 (by decide) (by decide) (by decide) (by decide) (by decide)
 simp only[fu] at d8 d9 d10;obtain⟨h8,k8⟩:=d8;obtain⟨⟨Z,g10,k10,kz⟩,oz⟩:=d10;rw[k8,k10] at a8;rw[k10] at oz;have hZ:=(oz.2 Z (by simp)).1
 obtain⟨p8,n8,c8,g8⟩:=h8.sh0;cases ho;simp only[fr];simp only[d9,g8,g10];rw[g8] at h8 a8;obtain⟨z0,z1⟩:=Bk.k2 kz;have zf:=kz.fz;have ltZ:=kz.lt;have hZ8:Z ∉ (Value.slice p8 n8 c8).ownBlock.toList:=fun hm=>a8 Z hm (by simp)
 have HZ:Hid (Ext W2 (zA8 u Z 0 [.slice p0 x.Boxes.length q0,.slice p8 n8 c8])/\Bk (zA8 u Z 0 [.slice p0 x.Boxes.length q0,.slice p8 n8 c8]) Z [.slice p0 x.Boxes.length q0,.slice p8 n8 c8] 26/\Oa (α:=Wire) 31 W2.heap.size (zA8 u Z 0 [.slice p0 x.Boxes.length q0,.slice p8 n8 c8]) (.slice p8 n8 c8) (x.Wires ++ [wz]) []) :=
  zh ⟨(Mw.puts (b:=Z) (o:=0) (.inr hZ) [.slice p0 x.Boxes.length q0,.slice p8 n8 c8] (Mw.ofExt hE:Mw [] W2 u)).ext (zr W2) (fun y hy=>by cases hy),kz.puts [.slice p0 x.Boxes.length q0,.slice p8 n8 c8] rfl,h8.mwF (Mw.puts (F:=[Z]) (b:=Z) (o:=0) (.inl (by simp)) [.slice p0 x.Boxes.length q0,.slice p8 n8 c8] (Mw.refl [Z] u)) (fun y hy e=>by rw[List.mem_singleton] at hy;subst hy;exact hZ8 (by simp[e])) (fun y hy hm=>by cases hm)⟩
 clear hφ hap hE h8 k8 kz oz a8 d9 g8 g10 h0 h1 h2 h3 h4 h5;go_upto_region 10 with (fail)
 refine zA2 (fun v=>Ext W2 v/\Bk v Z [.slice p0 x.Boxes.length q0,.slice p8 n8 c8] 26/\Oa (α:=Wire) 31 W2.heap.size v (.slice p8 n8 c8) (x.Wires ++ [wz]) []) HZ.out ?_
 clear HZ z0 z1 zf ltZ hZ8;rintro u2 ⟨e2,kz2,ho2⟩;obtain⟨z0,z1⟩:=Bk.k2 kz2;have ltZ:=kz2.lt;have kau:=KA.out.ext e2;obtain⟨y0,y1⟩:=Bk.k2 kau;have ltA2:=kau.lt;have E:=zh e2;have C1:=zh (zCe _ (⟨x.Boxes,x.Wires ++ [wz]⟩:Board) _ (Rv.mkBoard (x:=⟨x.Boxes,x.Wires ++ [wz]⟩) (s0.out.ext e2) ho2.rs));have C2:=zh (fun(u:World) (e:Ext W2 u)=>zCe _ (⟨x.Boxes,[]⟩:Board) _ (Rv.mkBoard (x:=⟨x.Boxes,[]⟩) (s0.out.ext e) (⟨[],none,0,rfl,Nat.le_refl _,Nat.zero_le _,.inl ⟨rfl,rfl⟩⟩:Rs u (.slice none 0 0) [])))
 rw[HBT.out] at C1;rw[HBN.out] at C2;clear e2 kz2 ho2 kau
 go_wp2_with (first
  | (go_at_call 5;refine C1.out.mono ?_;rintro e wc ⟨rfl,he⟩;replace E:=zh (E.out.tr he);have t0:=(zA0 he ltA2).trans y0;have t1:=(zA0 he ltA2).trans y1;clear C1 he y0 y1 z0 z1)
  | (go_at_call 5;refine(C2.out _ E.out).mono ?_;rintro e wd ⟨rfl,he⟩;replace E:=zh (E.out.tr he);clear he))
 go_ret;exact⟨rfl,HE.out.tr E.out⟩
end Sk
