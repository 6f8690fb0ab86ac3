/- Contracts of functions of the given program. -/
import Derived.Test.YtbekofpkcahbkaaGreatZzzzfBoard
namespace Sk
open Go Go.Proofs Go.RowKit
set_option maxHeartbeats 4000000
set_option maxRecDepth 100000
set_option linter.unusedVariables false
set_option linter.unusedSimpArgs false
theorem zG8(v:Value)(xs:List By)(w:World)(h:Rs w v xs) :
  Calls Tryz.prog 6 #[v] w fun e w' => ∃ v' x,e = .returned v'/\Rv (α:=Board) w' v' x/\GT.tot x<=1000000/\Ext w w':=by
 have H:=zh h;clear h;go_enter Tryz.func6,Tryz.ntmps6;go_upto_region 1 with (fail)
 obtain⟨A,hA⟩:∃ A,A=w.heap.size:=⟨_,rfl⟩;refine zA1 (fun W0=>Ext w W0/\Bk W0 A [.slice none 0 0,.slice none 0 0] 26) ⟨(zr _).alloc _,by rw[hA];exact Bk.new _ _ _⟩ ?_
 rw[<- hA];rintro W0 ⟨e0,kA⟩;have hwA:w.heap.size<=A:=by omega
 clear hA;have HE0:=zh e0;have KA:=zh kA;have hA:=kA.lt;clear e0 kA
 go_wp2_with (first
  | (go_at_call 23;refine(zEw _ _ _ (H.out.ext HE0.out)).mono ?_;rintro e w1 ⟨b,rfl,hb,he,hr⟩;have HE:=zh he;have hs1:=he.sz;have hb1:=hr.lt;have HR:Hid (Rd W0 w1 b (0+6000)):=zh (hr.le (by omega));clear he hr)
  | (go_at_call 22;refine(zEa W0 _ b 0 9 HR.out ⟨by omega,by omega⟩).mono ?_;rintro e w2 ⟨v2,x,rfl,⟨v0,v1,F,rfl,hs,ho,hl,hap⟩,htt,hm,hr⟩;obtain⟨a0,c0,rfl,-⟩:=id hs;obtain⟨a1,c1,rfl,-⟩:=ho.form;have KA2:=zh (hm.bk (KA.out.ext HE.out) (by simp;omega));have HS:=zh hs;have HO:=zh ho;have HL:=zh hl;have HAP:=zh hap;have HTT:Hid (GT.tot x<=1000000):=zh (Nat.le_trans htt (by omega));have HT9:=zh htt;have HM2:=zh (hm.ext (HE0.out.tr HE.out) (by simp;omega));have hs2:=hm.size;have HR2:=zh hr;clear hm hr hs ho hl hap htt;obtain⟨d0,d1⟩:=Bk.k2 KA2.out;have df:=KA2.out.fz;have dl:=KA2.out.lt))
 have k4:Mw [A] w2 ((w2.setCell ⟨A,0,none⟩ (.slice a0 x.Boxes.length c0)).setCell ⟨A,1,none⟩ (.slice a1 x.Wires.length c1)):=((Mw.refl [A] w2).set (p:=⟨A,0,none⟩) (by simp) _).set (p:=⟨A,1,none⟩) (by simp) _
 exact bodyPost_ret (v:=.agg #[.slice a0 x.Boxes.length c0,.slice a1 x.Wires.length c1]) (by simp[results,Tryz.results6,go_sem,d0,d1]) rfl ⟨_,x,rfl,Rv.mkBoard ⟨F,k4.sl HS.out (fun y hy hm=>by rw[List.mem_singleton] at hm;have:=HL.out y hy;omega)⟩ (HO.out.mwF k4 (fun y hy e=>by rw[List.mem_singleton] at hy;have:=HO.out.own y e;omega) (fun y hy hm=>by cases hm)).rs,HTT.out,k4.ext HM2.out (by simp;omega)⟩
theorem zLw(v:Value)(xs:List By)(w:World)(h:Rs w v xs) :
  Calls Tryz.prog 16 #[v] w fun e w' => ∃ v' x,e = .returned v'/\Rv (α:=Board) w' v' x/\GT.tot x<=1000000/\Ext w w':=by
 have H:=zh h;clear h;go_enter Tryz.func16,Tryz.ntmps16;go_upto_region 1 with (fail)
 obtain⟨A,hA⟩:∃ A,A=w.heap.size:=⟨_,rfl⟩;refine zA1 (fun W0=>Ext w W0/\Bk W0 A [.slice none 0 0,.slice none 0 0] 26) ⟨(zr _).alloc _,by rw[hA];exact Bk.new _ _ _⟩ ?_
 rw[<- hA];rintro W0 ⟨e0,kA⟩;have hwA:w.heap.size<=A:=by omega
 clear hA;have HE0:=zh e0;have KA:=zh kA;have hA:=kA.lt;clear e0 kA
 go_wp2_with (first
  | (go_at_call 23;refine(zEw _ _ _ (H.out.ext HE0.out)).mono ?_;rintro e w1 ⟨b,rfl,hb,he,hr⟩;have HE:=zh he;have hs1:=he.sz;have hb1:=hr.lt;have HR:Hid (Rd W0 w1 b (0+6000)):=zh (hr.le (by omega));clear he hr)
  | (go_at_call 22;refine(zEa W0 _ b 0 9 HR.out ⟨by omega,by omega⟩).mono ?_;rintro e w2 ⟨v2,x,rfl,⟨v0,v1,F,rfl,hs,ho,hl,hap⟩,htt,hm,hr⟩;obtain⟨a0,c0,rfl,-⟩:=id hs;obtain⟨a1,c1,rfl,-⟩:=ho.form;have KA2:=zh (hm.bk (KA.out.ext HE.out) (by simp;omega));have HS:=zh hs;have HO:=zh ho;have HL:=zh hl;have HAP:=zh hap;have HTT:Hid (GT.tot x<=1000000):=zh (Nat.le_trans htt (by omega));have HT9:=zh htt;have HM2:=zh (hm.ext (HE0.out.tr HE.out) (by simp;omega));have hs2:=hm.size;have HR2:=zh hr;clear hm hr hs ho hl hap htt;obtain⟨d0,d1⟩:=Bk.k2 KA2.out;have df:=KA2.out.fz;have dl:=KA2.out.lt))
 have k4:Mw [A] w2 ((w2.setCell ⟨A,0,none⟩ (.slice a0 x.Boxes.length c0)).setCell ⟨A,1,none⟩ (.slice a1 x.Wires.length c1)):=((Mw.refl [A] w2).set (p:=⟨A,0,none⟩) (by simp) _).set (p:=⟨A,1,none⟩) (by simp) _
 exact bodyPost_ret (v:=.agg #[.slice a0 x.Boxes.length c0,.slice a1 x.Wires.length c1]) (by simp[results,Tryz.results16,go_sem,d0,d1]) rfl ⟨_,x,rfl,Rv.mkBoard ⟨F,k4.sl HS.out (fun y hy hm=>by rw[List.mem_singleton] at hm;have:=HL.out y hy;omega)⟩ (HO.out.mwF k4 (fun y hy e=>by rw[List.mem_singleton] at hy;have:=HO.out.own y e;omega) (fun y hy hm=>by cases hm)).rs,HTT.out,k4.ext HM2.out (by simp;omega)⟩
theorem zH1(v:Value)(xs:List By)(w:World)(h:Rs w v xs) :
  Calls Tryz.prog 13 #[v] w fun e w' => ∃ v' x n,e = .returned (.tuple #[v',.int .i64 n])/\Rv (α:=Board) w' v' x/\GT.tot x<=1000000/\(-1<=n/\n<=11)/\Ext w w':=by
 have H:=zh h;clear h;go_enter Tryz.func13,Tryz.ntmps13;go_upto_region 1 with (fail)
 obtain⟨A,hA⟩:∃ A,A=w.heap.size:=⟨_,rfl⟩;refine zA1 (fun W0=>Ext w W0/\Bk W0 A [.slice none 0 0,.slice none 0 0] 26) ⟨(zr _).alloc _,by rw[hA];exact Bk.new _ _ _⟩ ?_
 rw[<- hA];rintro W0 ⟨e0,kA⟩;have hwA:w.heap.size<=A:=by omega
 clear hA;have HE0:=zh e0;have KA:=zh kA;have hA:=kA.lt;clear e0 kA;go_upto_region 3 with (first
  | (go_at_call 23;refine(zEw _ _ _ (H.out.ext HE0.out)).mono ?_;rintro e w1 ⟨b,rfl,hb,he,hr⟩;have HE:=zh he;have hs1:=he.sz;have hb1:=hr.lt;have HR:Hid (Rd W0 w1 b (100+6000)):=zh (hr.le (by omega));clear he hr)
  | (go_at_call 22;refine(zEa W0 _ b 100 12 HR.out ⟨by omega,by omega⟩).mono ?_;rintro e w2 ⟨v2,x,rfl,⟨v0,v1,F,rfl,hs,ho,hl,hap⟩,htt,hm,hr⟩;obtain⟨a0,c0,rfl,-⟩:=id hs;obtain⟨a1,c1,rfl,-⟩:=ho.form;have KA2:=zh (hm.bk (KA.out.ext HE.out) (by simp;omega));have HS:=zh hs;have HO:=zh ho;have HL:=zh hl;have HAP:=zh hap;have HTT:Hid (GT.tot x<=1000000):=zh (Nat.le_trans htt (by omega));have HT9:=zh htt;have HM2:=zh (hm.ext (HE0.out.tr HE.out) (by simp;omega));have hs2:=hm.size;have HR2:=zh hr;clear hm hr hs ho hl hap htt;have HO2:=zh HO.out.lt;have HL2:=zh HS.out.inh))
 obtain⟨X,hX⟩:∃ X,X=w2.heap.size:=⟨_,rfl⟩;refine zA1 (fun u=>Ext w2 u/\Bk u X [.slice a0 x.Boxes.length c0,.slice a1 x.Wires.length c1] 26) ⟨(zr _).alloc _,by rw[hX];exact Bk.new _ _ _⟩ ?_
 rw[<- hX];rintro u3 ⟨e3,kX⟩;have hXw:w2.heap.size<=X:=by omega
 have ltX:=kX.lt;clear hX;replace HS:=zh (HS.out.ext e3);replace HO:=zh (HO.out.ext e3);replace KA2:=zh (KA2.out.ext e3);replace HM2:=zh (HM2.out.tr e3);replace HR2:=zh (HR2.out.ext e3);have HL3:Hid (∀ k∈F,k < w2.heap.size):=HL2;have hO3:Hid (∀ k,(Value.slice a1 x.Wires.length c1).ownBlock=some k->k < w2.heap.size):=HO2;have hb3:b < u3.heap.size:=by omega
 have hA3:=KA2.out.lt;have KX:=zh kX;clear e3 kX HR HE;have hF0:∀ k ∈ [b,A],k < u3.heap.size:=by simp;omega
 refine zBi rfl 12 [(10,[10]),(11,[11]),(12,[12]),(13,[13]),(14,[14]),(15,[15]),(16,[16]),(17,[17]),(18,[18]),(19,[19]),(20,[20]),(6,[6])]
  (fun i vs u F'=>match i,vs with
   | 0,[y]=>y = .agg #[.slice a0 x.Boxes.length c0,.slice a1 x.Wires.length c1]
   | 1,[y]=>y = .pointer (some ⟨b,0,none⟩)
   | 2,[y] => ∃ k:Int,y = .int .i64 k/\(0<=k/\k < 5)
   | 3,[y] => ∃ g k,y = .slice (some ⟨g,0,none⟩) 3 3/\F' = [g]/\Bk u g [.int .i64 k,.int .i64 (-1),.int .i64 11] 3/\(0<=k/\k < 5)
   | 4,[y] => ∃ g,y = .slice (some ⟨g,0,none⟩) 6 6/\F' = [g]/\Bk u g [.int .i64 0,.int .i64 0,.int .i64 0,.int .i64 0,.int .i64 1,.int .i64 2] 3
   | 5,[y]=>y = .pointer (some ⟨b,0,none⟩)
   | 6,[y] => ∃ k:Nat,y = .int .i64 k/\k < 6
   | 7,[y] => ∃ g k z,y = .pointer (some ⟨g,k,none⟩)/\u.cell? ⟨g,k,none⟩=some (.int .i64 z)/\(0<=z/\z<=2)
   | 8,[y] => ∃ z:Int,y = .int .i64 z/\(0<=z/\z<=2)
   | 9,[y] => ∃ g k z,y = .pointer (some ⟨g,k,none⟩)/\u.cell? ⟨g,k,none⟩=some (.int .i64 z)/\(-1<=z/\z<=11)
   | 10,[y] => ∃ z:Int,y = .int .i64 z/\(-1<=z/\z<=11)
   | 11,[_]=>True
   | _,_=>False) [b,A] hF0 [2,6,11] (fun c vs u=>match c with
   | 0=>Rd W0 u b 99/\Bk u A [.slice none 0 0,.slice none 0 0] 26
   | 1=>Rd W0 u b 98/\Bk u A [.slice none 0 0,.slice none 0 0] 26
   | 2=>Bk u A [.slice none 0 0,.slice none 0 0] 26
   | _=>Bk u A [.slice a0 x.Boxes.length c0,.slice a1 x.Wires.length c1] 26) (by decide +kernel) (by decide +kernel) (fun w2 h=>⟨(HR2.out.ext h).le (by omega),KA2.out.ext h⟩) ?_ ?_ ?_
 ·intro i hi hnt o ho U u F2 hE hd hap;have kxu:=hE.bk KX.out (by simp;omega)
  obtain⟨x0,x1⟩:=Bk.k2 kxu;have hsu:=hE.size;clear kxu;rcases(by omega:i=0\/i=1\/i=2\/i=3\/i=4\/i=5\/i=6\/i=7\/i=8\/i=9\/i=10\/i=11) with rfl|rfl|rfl|rfl|rfl|rfl|rfl|rfl|rfl|rfl|rfl|rfl
  iterate 2 (·cases ho;simp only[fr];intro K hK;go_wp2;exact zk hK _ (fun _ _=>rfl))
  ·exact absurd (by decide) hnt
  ·cases ho;simp only[fr];obtain⟨⟨d1,-⟩,⟨d2,o2⟩,-⟩:=fa [1,2] (by decide +kernel) hd
   simp only[fu] at d1 d2;try simp only[d1]
   obtain⟨k,e2,hk⟩:=d2;simp only[e2];intro K2 hK2;go_wp2;exact hK2 _ [u.heap.size] _ ((zr u).alloc _) (fun w2 h=>⟨_,k,rfl,rfl,h.bk (Bk.new u [.int .i64 k,.int .i64 (-1),.int .i64 11] 3) (by simp;omega),hk⟩) ((Bk.new u [.int .i64 k,.int .i64 (-1),.int .i64 11] 3).own (Nat.le_refl _))
  ·cases ho;simp only[fr];intro K2 hK2;go_wp2;exact hK2 _ [u.heap.size] _ ((zr u).alloc _) (fun w2 h=>⟨_,rfl,rfl,h.bk (Bk.new u [.int .i64 0,.int .i64 0,.int .i64 0,.int .i64 0,.int .i64 1,.int .i64 2] 3) (by simp;omega)⟩) ((Bk.new u [.int .i64 0,.int .i64 0,.int .i64 0,.int .i64 0,.int .i64 1,.int .i64 2] 3).own (Nat.le_refl _))
  ·cases ho;simp only[fr];intro K hK;go_wp2;exact zk hK _ (fun _ _=>rfl)
  ·exact absurd (by decide) hnt
  ·cases ho;simp only[fr];obtain⟨⟨d1,-⟩,⟨d2,o2⟩,⟨d4,o4⟩,⟨d5,-⟩,⟨d6,o6⟩,-⟩:=fa [1,2,4,5,6] (by decide +kernel) hd
   simp only[fu] at d1 d2 d4 d5 d6;try simp only[d1,d5]
   obtain⟨g,e4,k4,kg⟩:=d4;obtain⟨k,e6,hk⟩:=d6;have hg:g ∉ [b,A]:=by rw[k4] at o4;have:=(o4.2 g (by simp)).1;simp;omega
   have hgl:=kg.lt;simp only[e4,e6];have hgz:∃ z:Int,u.cell? ⟨g,k,none⟩=some (.int .i64 z)/\(0<=z/\z<=2):=by
    obtain rfl|rfl|rfl|rfl|rfl|rfl:k=0\/k=1\/k=2\/k=3\/k=4\/k=5:=by omega
    ·exact⟨_,kg.cell (j:=0) rfl,by omega⟩
    ·exact⟨_,kg.cell (j:=1) rfl,by omega⟩
    ·exact⟨_,kg.cell (j:=2) rfl,by omega⟩
    ·exact⟨_,kg.cell (j:=3) rfl,by omega⟩
    ·exact⟨_,kg.cell (j:=4) rfl,by omega⟩
    ·exact⟨_,kg.cell (j:=5) rfl,by omega⟩
   obtain⟨z,hz,hz2⟩:=hgz;have HZ:=zh hz;clear hz kg;intro K2 hK2;go_wp2;exact hK2 _ [] _ (zr u) (fun w2 h=>⟨g,k,z,by simp,h.cell0 HZ.out hg hgl,hz2⟩) (Own.nil _ _)
  ·cases ho;simp only[fr];obtain⟨⟨d1,-⟩,⟨d2,o2⟩,⟨d4,o4⟩,⟨d5,-⟩,⟨d6,o6⟩,⟨d7,o7⟩,-⟩:=fa [1,2,4,5,6,7] (by decide +kernel) hd
   simp only[fu] at d1 d2 d4 d5 d6 d7;try simp only[d1,d5]
   obtain⟨g,k,z,e7,hz,hz2⟩:=d7;simp only[e7];intro K2 hK2;go_wp2;exact hK2 _ [] _ (zr u) (fun w2 h=>⟨z,rfl,hz2⟩) (Own.nil _ _)
  ·cases ho;simp only[fr];obtain⟨⟨d1,-⟩,⟨d2,o2⟩,⟨d3,o3⟩,⟨d4,o4⟩,⟨d5,-⟩,⟨d6,o6⟩,⟨d7,o7⟩,⟨d8,o8⟩,-⟩:=fa [1,2,3,4,5,6,7,8] (by decide +kernel) hd
   simp only[fu] at d1 d2 d3 d4 d5 d6 d7 d8;try simp only[d1,d5]
   obtain⟨g,k,e3,k3,kg,hk⟩:=d3;obtain⟨z,e8,hz⟩:=d8;have hg:g ∉ [b,A]:=by rw[k3] at o3;have:=(o3.2 g (by simp)).1;simp;omega
   have hgl:=kg.lt;simp only[e3,e8];obtain⟨Z,rfl⟩:∃ Z:Nat,z=Z:=⟨z.toNat,by omega⟩
   have hgz:∃ y:Int,u.cell? ⟨g,Z,none⟩=some (.int .i64 y)/\(-1<=y/\y<=11):=by
    obtain rfl|rfl|rfl:Z=0\/Z=1\/Z=2:=by omega
    ·exact⟨_,kg.cell (j:=0) rfl,by omega⟩
    ·exact⟨_,kg.cell (j:=1) rfl,by omega⟩
    ·exact⟨_,kg.cell (j:=2) rfl,by omega⟩
   obtain⟨y,hy,hy2⟩:=hgz;have HY:=zh hy;have hZ3:Z < 3:=by omega
   clear hy kg;intro K2 hK2;go_wp2;exact hK2 _ [] _ (zr u) (fun w2 h=>⟨g,Z,y,by simp,h.cell0 HY.out hg hgl,hy2⟩) (Own.nil _ _)
  ·cases ho;simp only[fr];obtain⟨⟨d1,-⟩,⟨d2,o2⟩,⟨d3,o3⟩,⟨d4,o4⟩,⟨d5,-⟩,⟨d6,o6⟩,⟨d7,o7⟩,⟨d8,o8⟩,⟨d9,o9⟩,-⟩:=fa [1,2,3,4,5,6,7,8,9] (by decide +kernel) hd
   simp only[fu] at d1 d2 d3 d4 d5 d6 d7 d8 d9;try simp only[d1,d5]
   obtain⟨g,k,z,e9,hz,hz2⟩:=d9;simp only[e9];intro K2 hK2;go_wp2;exact hK2 _ [] _ (zr u) (fun w2 h=>⟨z,rfl,hz2⟩) (Own.nil _ _)
  ·exact absurd (by decide) hnt
 ·intro c i hc o ho U u F2 hE hd hap ht;rcases c with _|c
  ·cases hc;cases ho;simp only[fr];obtain⟨⟨d1,-⟩,-⟩:=fa [1] (by decide +kernel) hd
   simp only[fu] at d1;try simp only[d1]
   obtain⟨hr9,hk9⟩:=ht;have HT:Hid (Rd W0 u b (98+1)):=zh hr9;have HK9:=zh hk9;clear hr9 hk9;intro K2 hK2;go_wp2_with (go_at_call 35;refine(zA9 W0 _ b _ _ HT.out (zAf (by omega) (by omega))).mono ?_;rintro e w4 ⟨k,rfl,hk,hm,hr⟩;have hkb:=hk.lt (by omega))
   exact hK2 _ [] _ ((Mw.ofMo hm).wide (by simp)) (fun w3 h=>⟨hr.ext h,((Mw.ofMo hm).bk HK9.out (by simp;omega)).ext h⟩) (fun _ h=>⟨k,rfl,hkb⟩) (Own.nil _ _)
  rcases c with _|c
  ·cases hc;cases ho;simp only[fr];obtain⟨⟨d1,-⟩,⟨d2,o2⟩,⟨d5,-⟩,-⟩:=fa [1,2,5] (by decide +kernel) hd
   simp only[fu] at d1 d2 d5;try simp only[d1,d5]
   obtain⟨hr9,hk9⟩:=ht;have HT:Hid (Rd W0 u b (97+1)):=zh hr9;have HK9:=zh hk9;clear hr9 hk9;intro K2 hK2;go_wp2_with (go_at_call 35;refine(zA9 W0 _ b _ _ HT.out (zAf (by omega) (by omega))).mono ?_;rintro e w4 ⟨k,rfl,hk,hm,hr⟩;have hkb:=hk.lt (by omega))
   exact hK2 _ [] _ ((Mw.ofMo hm).wide (by simp)) (fun w3 h=>((Mw.ofMo hm).bk HK9.out (by simp;omega)).ext h) (fun _ h=>⟨k.toNat,congrArg (Value.int .i64) (Int.toNat_of_nonneg hkb.1).symm,by omega⟩) (Own.nil _ _)
  rcases c with _|c
  ·cases hc;cases ho;simp only[fr];obtain⟨⟨d0,-⟩,⟨d1,-⟩,⟨d2,o2⟩,⟨d5,-⟩,⟨d6,o6⟩,-⟩:=fa [0,1,2,5,6] (by decide +kernel) hd
   simp only[fu] at d0 d1 d2 d5 d6;try simp only[d0,d1,d5]
   have hk9:Bk u A [.slice none 0 0,.slice none 0 0] 26:=ht;obtain⟨z0,z1⟩:=Bk.k2 hk9;have zf:=hk9.fz;have zl:=hk9.lt;have HK9:=zh hk9;clear hk9;intro K2 hK2;go_wp2;exact hK2 (U 6) [] _ (((Mw.refl [b,A] u).set (p:=⟨A,0,none⟩) (by simp) _).set (p:=⟨A,1,none⟩) (by simp) _) (fun w3 h=>(HK9.out.puts [.slice a0 x.Boxes.length c0,.slice a1 x.Wires.length c1] rfl).ext h) (fun _ h=>trivial) (Own.nil _ _)
  ·cases hc
 ·intro o ho U u F2 hE hφ hap ht;cases ho;simp only[fr];obtain⟨⟨d0,-⟩,⟨d1,-⟩,⟨d2,o2⟩,⟨d3,o3⟩,⟨d4,o4⟩,⟨d5,-⟩,⟨d6,o6⟩,⟨d7,o7⟩,⟨d8,o8⟩,⟨d9,o9⟩,⟨d10,o10⟩,⟨d11,o11⟩,-⟩:=fb [0,1,2,3,4,5,6,7,8,9,10,11] (by decide +kernel) hφ
  simp only[fu] at d0 d1 d2 d3 d4 d5 d6 d7 d8 d9 d10 d11;try simp only[d0,d1,d5]
  obtain⟨z,e10,hz⟩:=d10;simp only[e10];have hka:Bk u A [.slice a0 x.Boxes.length c0,.slice a1 x.Wires.length c1] 26:=ht;obtain⟨y0,y1⟩:=Bk.k2 hka;have hsl:=hE.sl HS.out (fun y hy hm=>by have:=HL.out y hy;rcases List.mem_cons.1 hm with h|h;omega;rw[List.mem_singleton] at h;omega)
  have hoa:=HO.out.mwF hE (fun y hy e=>by have:=HO.out.own y e;rcases List.mem_cons.1 hy with h|h;omega;rw[List.mem_singleton] at h;omega) (fun y hy hm=>by cases hm)
  have hex:=hE.ext HM2.out (by simp;omega)
  have HS9:=zh hsl;have HO9:=zh hoa;have HE9:=zh hex;clear d0 d1 d2 d3 d4 d5 d6 d7 d8 d9 d11 hap hφ ht hE hka hsl hoa hex;go_wp2;exact bodyPost_ret (v:=.tuple #[.agg #[.slice a0 x.Boxes.length c0,.slice a1 x.Wires.length c1],.int .i64 z]) (by simp[results,Tryz.results13,go_sem,y0,y1]) rfl ⟨_,x,z,rfl,Rv.mkBoard ⟨F,HS9.out⟩ HO9.out.rs,HTT.out,hz,HE9.out⟩
end Sk
