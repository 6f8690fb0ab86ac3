/- Contracts of functions of the given program. -/
import Derived.Test.YtbekofpkcahbkaaZzjBase
namespace Sk
open Go Go.Proofs Go.RowKit
set_option maxHeartbeats 8000000
set_option maxRecDepth 100000
set_option linter.unusedVariables false
set_option linter.unusedSimpArgs false
theorem zGa(u:World):(Instr.makeSlice 23 (.int .i64 4) (.int .i64 4)).run Try.prog u =
   .ok (.slice (some ⟨u.heap.size,0,none⟩) 4 4) (u.alloc (.cells (madeCells #[.slice none 0 0,.slice none 0 0,.slice none 0 0,.slice none 0 0,.slice none 0 0,.slice none 0 0,.int .i64 0] 28) 47)):=by
 obtain⟨i1,hi1,hq0,hq1,hq2⟩:=info_parts zH2;have h:=run_make (P:=Try.prog) u 23 47 i1 (.agg #[.slice none 0 0,.slice none 0 0,.slice none 0 0,.slice none 0 0,.slice none 0 0,.slice none 0 0,.int .i64 0]) Try.underlying23 hi1 hq0 .i64 .i64 4 4 (by omega) (Int.le_refl _) (by rw[hq2];omega) (by omega)
 simpa [hq1,Value.cells] using h
theorem zGg(W w:World)(b m:Nat)(n:Int)(h:Rd W w b (m+6000))(hn:rng n) :
  Calls Try.prog 9 #[.pointer (some ⟨b,0,none⟩),.int .i64 n] w fun e w' => ∃ v' x,e = .returned v'/\M.BD 31 w.heap.size w' v' x/\GT.tot x<=900000/\Mw [b] w w'/\Rd W w' b m:=by
 have H:=zh h;have hbl:=h.lt;have hbW:=h.1;have hWw:=h.2.1.sz;obtain⟨hn1,hn2⟩:=hn;clear h;go_enter Try.func9,Try.ntmps9;go_upto_region 2 with (fail)
 obtain⟨A,hA⟩:∃ A,A=w.heap.size:=⟨_,rfl⟩;obtain⟨B,hB⟩:∃ B,B=w.heap.size+1:=⟨_,rfl⟩;refine zA2 (fun u=>Ext w u/\Bk u A [.slice none 0 0,.slice none 0 0] 26/\Bk u B [.slice none 0 0,.slice none 0 0] 26) ⟨((zr _).alloc _).alloc _,by rw[hA];exact(Bk.new _ _ _).ext ((zr _).alloc _),by rw[hB];exact Bk.new1 _ _ _ _⟩ ?_
 rw[<- hB,<- hA];rintro W0 ⟨e0,ka0,kb0⟩;have hwA:w.heap.size<=A:=by omega
 have hAB:A < B:=by omega
 have hbA:b < A:=by omega
 clear hA hB;have HRD:=zh (H.out.ext e0);have HMW:Hid (Mw [b] w W0):=zh (Mw.ofExt e0);have HKA:=zh ka0;have HKB:=zh kb0;clear e0 ka0 kb0 H;go_upto_block 0 with (go_at_call 20;refine(zA6 W _ b _ _ HRD.out (zAb (by omega) (by omega))).mono ?_;rintro e w1 ⟨k,rfl,hk,hm,hr⟩;have hkb:=hk.lt (by omega);replace HMW:=zh (HMW.out.tr (Mw.ofMo hm));replace HKA:=zh ((Mw.ofMo hm).bk HKA.out (by simp;omega));replace HKB:=zh ((Mw.ofMo hm).bk HKB.out (by simp;omega));replace HRD:=zh hr;clear hk hm hr)
 obtain⟨J,rfl⟩:∃ J:Nat,k=J:=⟨k.toNat,by omega⟩
 have hJ3:J<=3:=by omega
 clear hkb;go_wp2_with fail
 go_loopw [6] (fun i wr => ∃ (j:Nat) (ao:Option Addr) (no co:Nat) (xs:List Machine) (F:List Nat),j<=J/\i = .int .i64 (J - j:Int)/\xs.length=j/\M.B1 47 26 W w b (m+5990 - 1100*j) A B wr (.slice ao no co) xs F) (fun i _=>(intOf i).toNat)
 case atStart=>exact⟨0,none,0,0,[],[],Nat.zero_le _,by simp,rfl,HMW.out,HRD.out.le (by omega),HKA.out,HKB.out,Oa.nil _ _ _,(fun k hk=>by cases hk),(fun x hx=>by cases hx)⟩
 case round =>
  obtain⟨j,ao,no,co,xs,F,hj,rfl,hxl,b1⟩:=hrel;obtain⟨wo,rfl⟩:∃ wo,wo=wr:=⟨_,rfl⟩;clear HMW HRD HKA HKB;have hsw:=b1.mw.size;by_cases hjt:j < J
  ·obtain⟨N,hN1,hN2⟩:∃ N,N+1100<=m+5990 - 1100*j/\m+5990 - 1100*(j+1)<=N:=⟨m+5990 - 1100*(j+1),by omega,by omega⟩
   have HMW:=zh b1.mw;have HRD:Hid (Rd W wo b (N+1100)):=zh (b1.rd.le hN1);have HKA:=zh b1.ka;have HKB:=zh b1.kb;have HOA:=zh b1.oa;have HFL:=zh b1.fl;have HMV:=zh b1.mv;have HNF:Hid (∀ k,(Value.slice ao no co).ownBlock=some k->k ∉ F):=zh b1.oa.nown;have ltB:=b1.kb.lt;have ltA:=b1.ka.lt;have hbo:b < wo.heap.size:=by omega
   have HXL:=zh hxl;have hxl3:xs.length<=3:=by omega
   clear b1 hxl;go_upto_region 5 with (fail)
   have hF0:∀ k∈b::(Value.slice ao no co).ownBlock.toList,k < wo.heap.size:=fun k hk=>by
    rcases List.mem_cons.1 hk with rfl|hk
    ·omega
    ·exact HOA.out.lt k (by simpa using hk)
   have hF1:Hid (∀ k∈(Value.slice ao no co).ownBlock.toList,B+1<=k/\k ∉ F):=zh (fun k hk=>⟨HOA.out.own k (by simpa using hk),HNF.out k (by simpa using hk)⟩)
   have hbF:Hid (b ∉ (Value.slice ao no co).ownBlock.toList/\b ∉ F):=zh ⟨fun hm=>by have:=(hF1.out b hm).1;omega,fun hm=>by have:=HFL.out b hm;omega⟩
   refine zAz rfl 7 [(17,[17]),(18,[18]),(19,[19]),(20,[20]),(21,[21]),(22,[22]),(23,[23])]
    (fun i vs u F'=>match i,vs with
     | 0,[y]=>y = .pointer (some ⟨B,0,none⟩)
     | 1,[y]=>y = .slice ao no co
     | 2,[y]=>y = .pointer (some ⟨b,0,none⟩)
     | 3,[y] => ∃ x,Rvb (α:=Machine) wo.heap.size u y x/\(0=(0:Int)->zBm x/\1<=x.Cores.length)/\GT.tot x<=200000
     | 4,[y] => ∃ x g Fy,y = .slice (some ⟨g,0,none⟩) 1 1/\Row (α:=Machine) u g 0 [x] Fy/\(∀ k∈Fy,wo.heap.size<=k)/\(0=(0:Int)->zBm x/\1<=x.Cores.length)/\GT.tot x<=200000
     | 5,[_]=>True
     | 6,[y]=>y = .pointer (some ⟨B,0,none⟩)
     | _,_=>False) (b::(Value.slice ao no co).ownBlock.toList) hF0 [3,5] (fun c vs u=>match c,vs with
     | 0,_=>Rd W u b (N+1100)/\Oa (α:=Machine) 47 (B+1) u (.slice ao no co) xs F
     | 1,_=>Rd W u b N/\Oa (α:=Machine) 47 (B+1) u (.slice ao no co) xs F
     | 2,[_,y]=>Rd W u b N/\∃ x F',Oa (α:=Machine) 47 (B+1) u y (xs ++ [x]) F'/\((∀ k∈F',k∈F\/wo.heap.size<=k)/\∀ k,y.ownBlock=some k->(Value.slice ao no co).ownBlock=some k\/wo.heap.size<=k)/\(0=(0:Int)->zBm x/\1<=x.Cores.length)/\GT.tot x<=200000
     | _,_=>False) (by decide +kernel) (by decide +kernel) (fun w2 h=>⟨HRD.out.ext h,HOA.out.ext h⟩) ?_ ?_ ?_
   ·intro i hi hnt o ho U u F2 hE hd hap;have kbu:=hE.bk HKB.out (fun hm=>(List.mem_cons.1 hm).elim (by omega) (fun h=>by have:=(hF1.out B h).1;omega))
    have e0:=kbu.cell (j:=0) rfl;rcases(by omega:i=0\/i=1\/i=2\/i=3\/i=4\/i=5\/i=6) with rfl|rfl|rfl|rfl|rfl|rfl|rfl
    ·cases ho;simp only[fr];intro K hK;go_wp2;exact zk hK _ (fun _ _=>rfl)
    ·cases ho;simp only[fr];obtain⟨⟨d0,-⟩,-⟩:=fa [0] (by decide +kernel) hd
     simp only[fu] at d0;try simp only[d0]
     clear d0;intro K hK;go_wp2;exact zk hK _ (fun _ _=>rfl)
    ·cases ho;simp only[fr];intro K hK;go_wp2;exact zk hK _ (fun _ _=>rfl)
    ·exact absurd (by decide) hnt
    ·cases ho;simp only[fr];obtain⟨⟨d2,-⟩,⟨d3,o3⟩,-⟩:=fa [2,3] (by decide +kernel) hd
     simp only[fu] at d2 d3;try simp only[d2]
     obtain⟨x,⟨cs,Fy,g0,hen,hfl⟩,hP⟩:=d3;obtain⟨v0,v1,v2,v3,v4,v5,G0,G1,G2,G3,G4,G5,rfl,-⟩:=id hen;simp only[g0];have HEN:=zh hen;have HFY:=zh hfl;have HP:=zh hP;have hsu:=hE.size;clear hen hfl hP hd hap;intro K2 hK2;go_wp2;refine hK2 _ [] _ ((zr u).alloc _) (fun w2 h=>⟨x,_,Fy,rfl,h.row (Row.lit1 HEN.out) (by simp) (fun hm=>by have:=hF0 _ hm;omega) (fun y hy hm=>by have:=hF0 _ hm;have:=HFY.out y hy;omega),HFY.out,HP.out⟩) (Own.nil _ _)
    ·exact absurd (by decide) hnt
    ·cases ho;simp only[fr];obtain⟨⟨d0,-⟩,⟨d1,-⟩,⟨d2,-⟩,-⟩:=fa [0,1,2] (by decide +kernel) hd
     simp only[fu] at d0 d1 d2;try simp only[d0,d1,d2]
     clear d0 d1 d2;intro K hK;go_wp2;exact zk hK _ (fun _ _=>rfl)
   ·intro c i hc o ho U u F2 hE hd hap ht;rcases c with _|c
    ·cases hc;cases ho;simp only[fr];obtain⟨⟨d2,-⟩,-⟩:=fa [2] (by decide +kernel) hd
     simp only[fu] at d2;try simp only[d2]
     obtain⟨hrd,hoa⟩:=ht;have HR:=zh hrd;have HA:=zh hoa;clear hrd hoa;have hsu:=hE.size;intro K2 hK2;go_wp2_with (go_at_call 21;refine(zD5 W _ b N 0 HR.out ⟨by omega,by omega⟩).mono ?_;rintro e w4 ⟨v4,x,rfl,hv,htt,hmv,hm,hr⟩)
     exact hK2 _ [] _ (hm.wide (fun y hy=>by rw[List.mem_singleton] at hy;simp[hy])) (fun w3 h=>⟨hr.ext h,(HA.out.mwF hm (fun y hy e=>by rw[List.mem_singleton] at hy;subst hy;exact hbF.out.1 (by simpa using e)) (fun y hy=>by rw[List.mem_singleton] at hy;subst hy;exact hbF.out.2)).ext h⟩) (fun w3 h=>⟨x,(hv.mono hsu).mw h (fun y hy=>hF0 y hy),hmv,htt⟩) (Own.nil _ _)
    rcases c with _|c
    ·cases hc;cases ho;simp only[fr];obtain⟨⟨d0,-⟩,⟨d1,-⟩,⟨d2,-⟩,⟨d3,o3⟩,⟨d4,o4⟩,-⟩:=fa [0,1,2,3,4] (by decide +kernel) hd
     simp only[fu] at d0 d1 d2 d3 d4;try simp only[d0,d1,d2]
     obtain⟨x,g,Fy,g0,hrow,hfy,hP⟩:=d4;obtain⟨hrd,hoa⟩:=ht;have hsu:=hE.size;simp only[g0];intro K2 hK2;refine zEa (α:=Machine) rfl _ _ 23 rfl 47 Try.underlying23 zH1 (L:=B+1) (v:=.slice ao no co) (ys:=[x]) rfl hoa rfl rfl hrow (by omega) (fun y hy e=>by have:=hfy y hy;have:=hF0 y (List.mem_cons_of_mem _ (by simpa using e));omega) (by omega) (by omega) ?_
     intro v5 w5 hO5 hg5 hwh5;go_wp2;have hm5:Mw (b::(Value.slice ao no co).ownBlock.toList) u w5:=Mw.ofGrown hg5 (fun k hk=>List.mem_cons_of_mem _ (by simp[hk]))
     exact hK2 _ [] _ hm5 (fun w3 h=>⟨(hrd.mw (Mw.ofGrown (F:=(Value.slice ao no co).ownBlock.toList) hg5 (fun k hk=>by simp[hk])) hbF.out.1 (fun k hk=>by have:=(hF1.out k hk).1;omega)).ext h,x,_,hO5.ext h,⟨fun k hk=>(List.mem_append.1 hk).elim .inl (fun h => .inr (hfy k h)),fun k hk=>hwh5.elim (fun e => .inl (by rw[<- e];exact hk)) (fun e => .inr (by rw[hk] at e;cases e;exact hsu))⟩,hP⟩) (fun _ _=>trivial) (Own.nil _ _)
    ·cases hc
   ·intro o ho U u F2 hE hφ hap ht;cases ho;simp only[fr];obtain⟨⟨d0,-⟩,⟨d1,-⟩,⟨d2,-⟩,⟨d3,o3⟩,⟨d4,o4⟩,⟨d5,o5⟩,⟨d6,-⟩,-⟩:=fb [0,1,2,3,4,5,6] (by decide +kernel) hφ
    simp only[fu] at d0 d1 d2 d3 d4 d5 d6;try simp only[d0,d1,d2,d6]
    obtain⟨hrd,x,F3,hoa,⟨hfl,hwh⟩,hP⟩:Rd W u b N/\∃ x F',Oa (α:=Machine) 47 (B+1) u (U 22) (xs ++ [x]) F'/\((∀ k∈F',k∈F\/wo.heap.size<=k)/\∀ k,(U 22).ownBlock=some k->(Value.slice ao no co).ownBlock=some k\/wo.heap.size<=k)/\(0=(0:Int)->zBm x/\1<=x.Cores.length)/\GT.tot x<=200000:=ht;have kau:=hE.bk HKA.out (fun hm=>(List.mem_cons.1 hm).elim (by omega) (fun h=>by have:=(hF1.out A h).1;omega))
    have kbu:=hE.bk HKB.out (fun hm=>(List.mem_cons.1 hm).elim (by omega) (fun h=>by have:=(hF1.out B h).1;omega))
    have hmw:Mw [b] w u:=HMW.out.trF hE (fun k hk=>(List.mem_cons.1 hk).elim (fun e => .inl (by simp[e])) (fun h => .inr (by have:=(hF1.out k h).1;omega)))
    obtain⟨p9,n9,q9,e9⟩:=hoa.sh0;simp only[e9] at hoa hwh ⊢;obtain⟨e0,e1⟩:=Bk.k2 kbu;have ef:=kbu.fz;have ltB:=kbu.lt;have hsu:=hE.size;have HM5:=zh hmw;have HR5:=zh hrd;have HO5:=zh hoa;have HF5:=zh hfl;have HH5:=zh hwh;have HP5:=zh hP;have HA5:=zh kau;have HB5:=zh kbu;clear d0 d1 d2 d3 d4 d5 d6 hap hφ kau kbu hmw hrd hoa hfl hwh hP hE;go_wp2;go_roundw
    case rel=>exact⟨j+1,_,_,_,_,_,by omega,congrArg _ (by omega),by simp[HXL.out],HM5.out.set (p:=⟨B,0,none⟩) (.inr (by show w.heap.size<=B;omega)) _,(HR5.out.set (p:=⟨B,0,none⟩) (by show b≠B;omega) (by show W.heap.size<=B;omega) _).le (by omega),HA5.out.set_ne (p:=⟨B,0,none⟩) (by show A≠B;omega) _,by have:=HB5.out.set 0 (.slice p9 n9 q9);simpa using this,HO5.out.mwF ((Mw.refl [B] u).set (p:=⟨B,0,none⟩) (by simp) _) (fun y hy e=>by rw[List.mem_singleton] at hy;have:=HO5.out.own y e;omega) (fun y hy hm=>by rw[List.mem_singleton] at hy;rcases HF5.out y hm with h|h;have:=HFL.out y h;omega;omega),(fun k hk=>(HF5.out k hk).elim (HFL.out k) (fun h=>by omega)),(fun y hy=>(List.mem_append.1 hy).elim (HMV.out y) (fun h=>by rw[List.mem_singleton] at h;subst h;exact HP5.out.1 rfl))⟩
    case measure=>simp[intOf];omega
  ·obtain rfl:j=J:=by omega
   have e9:no=xs.length:=by
    obtain⟨_,_,e,_⟩:=b1.oa.form;simp at e;exact e.2.1
   subst e9;have hx3:xs.length<=3:=by omega
   have ltA:=b1.ka.lt;have ltB:=b1.kb.lt;have HRD:Hid (Rd W wo b (m+2600+1)):=zh (b1.rd.le (by omega))
   have HB1:=zh b1;have HMV:=zh b1.mv;clear b1 hxl;go_upto_block 2 with (go_at_call 20;refine(zA6 W _ b _ _ HRD.out (zAb (by omega) (by omega))).mono ?_;rintro e w2 ⟨k2,rfl,hk,hm,hr⟩;have hk2:=hk.lt (by omega);have HB2:Hid (zF2 47 31 26 W w b (m+2600) A B wo.heap.size w2 (.slice ao xs.length co) (.slice none 0 0) xs F []):=zh ((HB1.out.to2 31).go (Mw.ofMo hm) hr hbA hAB hwA (fun y hy => .inl (List.mem_singleton.1 hy)));clear hk hm hr)
   obtain⟨J2,rfl⟩:∃ J2:Nat,k2=J2:=⟨k2.toNat,by omega⟩
   have hJ4:J2<=4:=by omega
   obtain⟨L,hL⟩:∃ L,wo.heap.size=L:=⟨_,rfl⟩;rw[hL] at HB2;clear HB1 HRD hL hk2 ltA ltB hsw;go_cut [] from 7 (fun wc => ∃ (aw:Option Addr) (nw cw:Nat) (ws:List Wire),zF2 47 31 26 W w b (m+2500) A B L wc (.slice ao xs.length co) (.slice aw nw cw) xs F ws/\ws.length<=4)
   case first =>
    go_wp2_with fail
    go_loopw [7] (fun i wr => ∃ (j2:Nat) (aw:Option Addr) (nw cw:Nat) (ws:List Wire),j2<=J2/\i = .int .i64 (J2 - j2:Int)/\ws.length<=j2/\zF2 47 31 26 W w b (m+2600 - 6*j2) A B L wr (.slice ao xs.length co) (.slice aw nw cw) xs F ws) (fun i _=>(intOf i).toNat)
    case atStart=>exact⟨0,none,0,0,[],Nat.zero_le _,by simp,Nat.le_refl _,HB2.out⟩
    case round =>
     obtain⟨j2,aw,nw,cw,ws,hj2,rfl,hwl,b2⟩:=hrel;obtain⟨wr2,rfl⟩:∃ x,x=wr:=⟨_,rfl⟩;clear HB2;have HB2:=zh b2;have e0:=b2.kb.cell (j:=0) rfl;by_cases hjt:j2 < J2
     ·by_cases hx0:0 < xs.length
      ·obtain⟨N,hN1,hN2⟩:∃ N,N+6<=m+2600 - 6*j2/\m+2600 - 6*(j2+1)<=N:=⟨m+2600 - 6*(j2+1),by omega,by omega⟩
       have HRD:Hid (Rd W wr2 b (N+6)):=zh (b2.rd.le hN1);have hbw:b < wr2.heap.size:=by have:=b2.rd.lt;omega
       have ltB2:=b2.kb.lt;have hBL:=b2.bl;clear b2;go_upto_region 9 with (fail)
       have hF0:∀ k ∈ [b],k < wr2.heap.size:=by simp;omega
       refine zAz rfl 12 [(36,[36]),(37,[37]),(38,[38]),(39,[39]),(40,[40]),(41,[41]),(42,[42]),(43,[43]),(44,[44]),(45,[45]),(46,[46,40,45]),(8,[8])]
        (fun i vs u F'=>match i,vs with
         | 0,[y]=>y = .pointer (some ⟨b,0,none⟩)
         | 1,[y]=>y = .pointer (some ⟨B,0,none⟩)
         | 2,[y]=>y = .slice ao xs.length co
         | 3,[y]=>y = .int .i64 xs.length
         | 4,[y] => ∃ k:Nat,y = .int .i64 k/\k < xs.length
         | 5,[y]=>y = .pointer (some ⟨b,0,none⟩)
         | 6,[y]=>y = .pointer (some ⟨B,0,none⟩)
         | 7,[y]=>y = .slice ao xs.length co
         | 8,[y]=>y = .int .i64 xs.length
         | 9,[y] => ∃ k:Nat,y = .int .i64 k/\k < xs.length
         | 10,[y,c,d]=>y = .agg #[c,.int .i64 0,.int .i64 0,d,.int .i64 0,.int .i64 0]
         | 11,[y] => ∃ Q,y = .pointer (some ⟨Q,0,none⟩)/\F' = [Q]/\Bk u Q [.int .i64 0,.int .i64 0,.int .i64 0,.int .i64 0,.int .i64 0,.int .i64 0] 31
         | _,_=>False) [b] hF0 [4,9] (fun c vs u=>match c with
         | 0=>Rd W u b (N+6)
         | 1=>Rd W u b (N+5)
         | _=>Rd W u b (N+4)) (by decide +kernel) (by decide +kernel) (fun w2 h=>HRD.out.ext h) ?_ ?_ ?_
       ·intro i hi hnt o ho U u F2 hE hd hap;have e0:=(hE.bk HB2.out.kb (by simp;omega)).cell (j:=0) rfl
        rcases(by omega:i=0\/i=1\/i=2\/i=3\/i=4\/i=5\/i=6\/i=7\/i=8\/i=9\/i=10\/i=11) with rfl|rfl|rfl|rfl|rfl|rfl|rfl|rfl|rfl|rfl|rfl|rfl
        iterate 2 (·cases ho;simp only[fr];intro K hK;go_wp2;exact zk hK _ (fun _ _=>rfl))
        ·cases ho;simp only[fr];obtain⟨⟨d1,-⟩,-⟩:=fa [1] (by decide +kernel) hd
         simp only[fu] at d1;try simp only[d1]
         clear d1;intro K hK;go_wp2;exact zk hK _ (fun _ _=>rfl)
        ·cases ho;simp only[fr];obtain⟨⟨d1,-⟩,⟨d2,-⟩,-⟩:=fa [1,2] (by decide +kernel) hd
         simp only[fu] at d1 d2;try simp only[d1,d2]
         clear d1 d2;intro K hK;go_wp2;exact zk hK _ (fun _ _=>rfl)
        ·exact absurd (by decide) hnt
        iterate 2 (·cases ho;simp only[fr];intro K hK;go_wp2;exact zk hK _ (fun _ _=>rfl))
        ·cases ho;simp only[fr];obtain⟨⟨d6,-⟩,-⟩:=fa [6] (by decide +kernel) hd
         simp only[fu] at d6;try simp only[d6]
         clear d6;intro K hK;go_wp2;exact zk hK _ (fun _ _=>rfl)
        ·cases ho;simp only[fr];obtain⟨⟨d6,-⟩,⟨d7,-⟩,-⟩:=fa [6,7] (by decide +kernel) hd
         simp only[fu] at d6 d7;try simp only[d6,d7]
         clear d6 d7;intro K hK;go_wp2;exact zk hK _ (fun _ _=>rfl)
        ·exact absurd (by decide) hnt
        ·cases ho;simp only[fr];obtain⟨⟨d0,-⟩,⟨d1,-⟩,⟨d2,-⟩,⟨d3,-⟩,⟨d4,o4⟩,⟨d5,-⟩,⟨d6,-⟩,⟨d7,-⟩,⟨d8,-⟩,⟨d9,o9⟩,-⟩:=fa [0,1,2,3,4,5,6,7,8,9] (by decide +kernel) hd
         simp only[fu] at d0 d1 d2 d3 d4 d5 d6 d7 d8 d9;try simp only[d0,d1,d2,d3,d5,d6,d7,d8]
         obtain⟨k4,g4,-⟩:=d4;obtain⟨k9,g9,-⟩:=d9;simp only[g4,g9];intro K2 hK2;go_wp2;exact hK2 _ [] _ (zr u) (fun _ _=>by show Value.agg _=Value.agg #[U 40,_,_,U 45,_,_];rw[g4,g9]) (Own.nil _ _)
        ·cases ho;simp only[fr];intro K2 hK2;go_wp2;have b1:=Bk.new u [.int .i64 0,.int .i64 0,.int .i64 0,.int .i64 0,.int .i64 0,.int .i64 0] 31;exact hK2 _ [u.heap.size] _ ((zr u).alloc _) (fun _ h=>⟨_,rfl,rfl,h.bk b1 (fun hm=>by have:=hF0 _ hm;have:=hE.size;omega)⟩) (b1.own (Nat.le_refl _))
       ·intro c i hc o ho U u F2 hE hd hap ht;rcases c with _|c
        ·cases hc;cases ho;simp only[fr];obtain⟨⟨d0,-⟩,⟨d1,-⟩,⟨d2,-⟩,⟨d3,-⟩,-⟩:=fa [0,1,2,3] (by decide +kernel) hd
         simp only[fu] at d0 d1 d2 d3;try simp only[d0,d1,d2,d3]
         have HT:Hid (Rd W u b (N+5+1)):=zh ht;clear ht;intro K2 hK2;go_wp2_with (go_at_call 20;refine(zA6 W _ b _ _ HT.out (zAb (by omega) (by omega))).mono ?_;rintro e w4 ⟨k,rfl,hk,hm,hr⟩;have hkb:=hk.lt (by omega))
         exact hK2 _ [] _ (Mw.ofMo hm) (fun w3 h=>hr.ext h) (fun _ h=>⟨k.toNat,congrArg (Value.int .i64) (Int.toNat_of_nonneg hkb.1).symm,by omega⟩) (Own.nil _ _)
        rcases c with _|c
        ·cases hc;cases ho;simp only[fr];obtain⟨⟨d0,-⟩,⟨d1,-⟩,⟨d2,-⟩,⟨d3,-⟩,⟨d4,o4⟩,⟨d5,-⟩,⟨d6,-⟩,⟨d7,-⟩,⟨d8,-⟩,-⟩:=fa [0,1,2,3,4,5,6,7,8] (by decide +kernel) hd
         simp only[fu] at d0 d1 d2 d3 d4 d5 d6 d7 d8;try simp only[d0,d1,d2,d3,d5,d6,d7,d8]
         have HT:Hid (Rd W u b (N+4+1)):=zh ht;clear ht;intro K2 hK2;go_wp2_with (go_at_call 20;refine(zA6 W _ b _ _ HT.out (zAb (by omega) (by omega))).mono ?_;rintro e w4 ⟨k,rfl,hk,hm,hr⟩;have hkb:=hk.lt (by omega))
         exact hK2 _ [] _ (Mw.ofMo hm) (fun w3 h=>hr.ext h) (fun _ h=>⟨k.toNat,congrArg (Value.int .i64) (Int.toNat_of_nonneg hkb.1).symm,by omega⟩) (Own.nil _ _)
        ·cases hc
       intro o ho U u F2 hE hφ hap ht;cases ho;simp only[fr];obtain⟨⟨d0,-⟩,⟨d1,-⟩,⟨d2,-⟩,⟨d3,-⟩,⟨d4,o4⟩,⟨d5,-⟩,⟨d6,-⟩,⟨d7,-⟩,⟨d8,-⟩,⟨d9,o9⟩,⟨d10,-⟩,⟨d11,o11⟩,-⟩:=fb [0,1,2,3,4,5,6,7,8,9,10,11] (by decide +kernel) hφ
       simp only[fu] at d0 d1 d2 d3 d4 d5 d6 d7 d8 d9 d10 d11;try simp only[d0,d1,d2,d3,d5,d6,d7,d8,d10]
       obtain⟨X,g4,hX⟩:=d4;obtain⟨Y,g9,hY⟩:=d9;obtain⟨Q,g11,kF,kq⟩:=d11;simp only[g4,g9,g11];have hQ:wr2.heap.size<=Q:=(o11.2 Q (by rw[kF];simp)).1
       have hWQ:W.heap.size<=Q:=by omega
       have hbQ:b≠Q:=by omega
       obtain⟨q0,q1,q2,q3,q4,q5⟩:=Bk.k6 kq;have qf:=kq.fz;have ql:=kq.lt;have HT:Hid (Rd W u b (N+4)):=zh ht;have HE:=zh hE;have HKQ:=zh kq;clear d0 d1 d2 d3 d5 d6 d7 d8 d10 o4 o9 o11 hap hφ ht hE kq kF;go_upto_region 10 with (fail)
       refine zA2 (fun u=>zHa 31 W wr2 b (N+4) Q u [.int .i64 X,.int .i64 0,.int .i64 0,.int .i64 Y,.int .i64 0,.int .i64 0]) ⟨Mw.puts (b:=Q) (o:=0) (.inr hQ) [.int .i64 X,.int .i64 0,.int .i64 0,.int .i64 Y,.int .i64 0,.int .i64 0] HE.out,Rd.puts (c:=Q) (o:=0) hbQ hWQ [.int .i64 X,.int .i64 0,.int .i64 0,.int .i64 Y,.int .i64 0,.int .i64 0] HT.out,HKQ.out.puts [.int .i64 X,.int .i64 0,.int .i64 0,.int .i64 Y,.int .i64 0,.int .i64 0] rfl⟩ ?_
       clear HT HE HKQ q0 q1 q2 q3 q4 q5 qf ql g4 g9 g11;rintro u1 ⟨mw1,rd1,kq1⟩;obtain⟨g,s,mX,xa4,xc4,rfl,hgB,hgl,hgx,m4,hs4⟩:=(HB2.out.boxes).machine X hX;obtain⟨_,_,mY,ya4,yc4,e8,-,-,hgy,n4,ht4⟩:=(HB2.out.boxes).machine Y hY;cases e8;obtain⟨hmx,hcx⟩:=HMV.out _ (List.mem_of_getElem? hgx.out);obtain⟨hmy,hcy⟩:=HMV.out _ (List.mem_of_getElem? hgy.out);have hcx5:=hmx.cores5;have hcy5:=hmy.cores5;have HMX:=zh hmx;have HMY:=zh hmy;have hgb:g≠b:=by omega
       clear hmx hmy;have kb1:=mw1.bk HB2.out.kb (by simp;omega)
       have e0:=kb1.cell (j:=0) rfl;have ltB1:=kb1.lt;obtain⟨q0,q1,q2,q3,q4,q5⟩:=Bk.k6 kq1;have qf:=kq1.fz;have ql:=kq1.lt;have HM1:=zh mw1;have HR1:=zh rd1;have HQ1:=zh kq1;have mf4:=HM1.out.cell0 m4 (by simp;omega) hgl
       have nf4:=HM1.out.cell0 n4 (by simp;omega) hgl
       clear mw1 rd1 kq1 kb1;go_upto_region 11 with (go_at_call 20;refine(zA6 W _ b _ _ HR1.out (zAb (by omega) (by omega))).mono ?_;rintro e w5 ⟨k,rfl,hk,hm,hr⟩;have hkb:=hk.lt (by omega);have KQ5:=zh ((Mw.ofMo hm).bk HQ1.out (by simp;omega));have HM5:=zh (HM1.out.tr (Mw.ofMo hm));have HR5:=zh hr;clear q0 q1 q2 q3 q4 q5 qf ql hk hm hr;have r1:=KQ5.out.cell (j:=1) rfl;have rf:=KQ5.out.fz;have rl:=KQ5.out.lt)
       obtain⟨Y1,rfl⟩:∃ n:Nat,k=n:=⟨k.toNat,by omega⟩
       have hY1:Y1 < mX.Cores.length:=by omega
       clear mf4 nf4 hkb;have B5:=zh ((zHa.mk HM5.out HR5.out KQ5.out:zHa 31 W wr2 b (N+3) Q _ _).put hQ hWQ hbQ 1 (.int .i64 Y1));simp only[List.set_cons_zero,List.set_cons_succ] at B5;refine zA2 (fun u=>zHa 31 W wr2 b (N+3) Q u [.int .i64 X,.int .i64 Y1,.int .i64 0,.int .i64 Y,.int .i64 0,.int .i64 0]) B5.out ?_
       clear B5 HM5 HR5 KQ5 r1 rf rl;rintro u1 ⟨mw1,rd1,kq1⟩;have kb1:=mw1.bk HB2.out.kb (by simp;omega)
       have e0:=kb1.cell (j:=0) rfl;have ltB1:=kb1.lt;obtain⟨q0,q1,q2,q3,q4,q5⟩:=Bk.k6 kq1;have qf:=kq1.fz;have ql:=kq1.lt;have HM1:=zh mw1;have HR1:=zh rd1;have HQ1:=zh kq1;have mf4:=HM1.out.cell0 m4 (by simp;omega) hgl
       have nf4:=HM1.out.cell0 n4 (by simp;omega) hgl
       clear mw1 rd1 kq1 kb1;go_upto_region 12 with (go_at_call 20;refine(zA6 W _ b _ _ HR1.out (zAb (by omega) (by omega))).mono ?_;rintro e w5 ⟨k,rfl,hk,hm,hr⟩;have hkb:=hk.lt (by omega);have KQ5:=zh ((Mw.ofMo hm).bk HQ1.out (by simp;omega));have HM5:=zh (HM1.out.tr (Mw.ofMo hm));have HR5:=zh hr;clear q0 q1 q2 q3 q4 q5 qf ql hk hm hr;have r4:=KQ5.out.cell (j:=4) rfl;have rf:=KQ5.out.fz;have rl:=KQ5.out.lt)
       obtain⟨Y2,rfl⟩:∃ n:Nat,k=n:=⟨k.toNat,by omega⟩
       have hY2:Y2 < mY.Cores.length:=by omega
       clear mf4 nf4 hkb;have B5:=zh ((zHa.mk HM5.out HR5.out KQ5.out:zHa 31 W wr2 b (N+2) Q _ _).put hQ hWQ hbQ 4 (.int .i64 Y2));simp only[List.set_cons_zero,List.set_cons_succ] at B5;refine zA2 (fun u=>zHa 31 W wr2 b (N+2) Q u [.int .i64 X,.int .i64 Y1,.int .i64 0,.int .i64 Y,.int .i64 Y2,.int .i64 0]) B5.out ?_
       clear B5 HM5 HR5 KQ5 r4 rf rl;rintro u1 ⟨mw1,rd1,kq1⟩;have kb1:=mw1.bk HB2.out.kb (by simp;omega)
       have e0:=kb1.cell (j:=0) rfl;have ltB1:=kb1.lt;obtain⟨q0,q1,q2,q3,q4,q5⟩:=Bk.k6 kq1;have qf:=kq1.fz;have ql:=kq1.lt;have HM1:=zh mw1;have HR1:=zh rd1;have HQ1:=zh kq1;have mf4:=HM1.out.cell0 m4 (by simp;omega) hgl
       have nf4:=HM1.out.cell0 n4 (by simp;omega) hgl
       clear mw1 rd1 kq1 kb1;obtain⟨gc,sc,kc,pa,pc,rfl,hgcB,hgcl,hkx,c0⟩:=hs4.out.core Y1 hY1;have hc8:=HMX.out.cells8 hkx.out;have cf0:=HM1.out.cell0 c0 (by simp;omega) hgcl
       refine zAi 14 (by kernel_rfl) (by kernel_rfl) ?_
       simp only[List.take_succ_cons,List.take_zero,List.drop_succ_cons,List.drop_zero]
       repeat (go_big_quiet_step (fail))
       refine wpQuiet_nil ?_
       change wpList _ _ _ _ _ u1.drew
       replace HM1:=zh (HM1.out.tr (Mw.ofExt (zr u1).drew));replace HR1:=zh (HR1.out.ext (zr u1).drew);replace HQ1:=zh (HQ1.out.ext (zr u1).drew);clear e0 q0 q1 q2 q3 q4 q5 qf ql mf4 nf4 ltB1 cf0
       generalize u1.drew=ud at HM1 HR1 HQ1 ⊢
       go_upto_region 13 with (go_at_call 20;refine(zA6 W _ b _ _ HR1.out (zAb (by omega) (by omega))).mono ?_;rintro e w5 ⟨k,rfl,hk,hm,hr⟩;have hkb2:=hk.bd (by omega);have KQ5:=zh ((Mw.ofMo hm).bk HQ1.out (by simp;omega));have HM5:=zh (HM1.out.tr (Mw.ofMo hm));have HR5:=zh hr;clear hk hm hr;have r2:=KQ5.out.cell (j:=2) rfl;have rf:=KQ5.out.fz;have rl:=KQ5.out.lt)
       have B5:=zh ((zHa.mk HM5.out HR5.out KQ5.out:zHa 31 W wr2 b (N+1) Q _ _).put hQ hWQ hbQ 2 (.int .i64 k));simp only[List.set_cons_zero,List.set_cons_succ] at B5;refine zA2 (fun u=>zHa 31 W wr2 b (N+1) Q u [.int .i64 X,.int .i64 Y1,.int .i64 k,.int .i64 Y,.int .i64 Y2,.int .i64 0]) B5.out ?_
       clear B5 HM5 HR5 KQ5 r2 rf rl;rintro u1 ⟨mw1,rd1,kq1⟩;have kb1:=mw1.bk HB2.out.kb (by simp;omega)
       have e0:=kb1.cell (j:=0) rfl;have ltB1:=kb1.lt;obtain⟨q0,q1,q2,q3,q4,q5⟩:=Bk.k6 kq1;have qf:=kq1.fz;have ql:=kq1.lt;have HM1:=zh mw1;have HR1:=zh rd1;have HQ1:=zh kq1;have mf4:=HM1.out.cell0 m4 (by simp;omega) hgl
       have nf4:=HM1.out.cell0 n4 (by simp;omega) hgl
       clear mw1 rd1 kq1 kb1;obtain⟨gd,sd,kd,pb,pd,rfl,hgdB,hgdl,hdx,d0⟩:=ht4.out.core Y2 hY2;have hd8:=HMY.out.cells8 hdx.out;have df0:=HM1.out.cell0 d0 (by simp;omega) hgdl
       refine zAi 14 (by kernel_rfl) (by kernel_rfl) ?_
       simp only[List.take_succ_cons,List.take_zero,List.drop_succ_cons,List.drop_zero]
       repeat (go_big_quiet_step (fail))
       refine wpQuiet_nil ?_
       change wpList _ _ _ _ _ u1.drew
       replace HM1:=zh (HM1.out.tr (Mw.ofExt (zr u1).drew));replace HR1:=zh (HR1.out.ext (zr u1).drew);replace HQ1:=zh (HQ1.out.ext (zr u1).drew);clear e0 q0 q1 q2 q3 q4 q5 qf ql mf4 nf4 ltB1 df0
       generalize u1.drew=ud at HM1 HR1 HQ1 ⊢
       go_upto_region 14 with (go_at_call 20;refine(zA6 W _ b _ _ HR1.out (zAb (by omega) (by omega))).mono ?_;rintro e w5 ⟨k2,rfl,hk,hm,hr⟩;have hkb5:=hk.bd (by omega);have KQ5:=zh ((Mw.ofMo hm).bk HQ1.out (by simp;omega));have HM5:=zh (HM1.out.tr (Mw.ofMo hm));have HR5:=zh hr;clear hk hm hr;have r5:=KQ5.out.cell (j:=5) rfl;have rf:=KQ5.out.fz;have rl:=KQ5.out.lt)
       have B5:=zh ((zHa.mk HM5.out HR5.out KQ5.out:zHa 31 W wr2 b N Q _ _).put hQ hWQ hbQ 5 (.int .i64 k2));simp only[List.set_cons_zero,List.set_cons_succ] at B5;refine zA2 (fun u=>zHa 31 W wr2 b N Q u [.int .i64 X,.int .i64 Y1,.int .i64 k,.int .i64 Y,.int .i64 Y2,.int .i64 k2]) B5.out ?_
       clear B5 HM5 HR5 KQ5 r5 rf rl;rintro u1 ⟨mw1,rd1,kq1⟩;obtain⟨hk1,hk2⟩:=hkb2;obtain⟨hk3,hk4⟩:=hkb5;obtain⟨wi,hwi⟩:∃ wi:Wire,wi=⟨X,Y1,k,Y,Y2,k2⟩:=⟨_,rfl⟩;have HEN:Hid (∀ u:World,GT.enc u [.int .i64 X,.int .i64 Y1,.int .i64 k,.int .i64 Y,.int .i64 Y2,.int .i64 k2] wi []):=zh (fun u=>by rw[hwi];exact⟨rfl,zAb (by show _<=(X:Int);omega) (by show(X:Int)<=_;omega),zAb (by show _<=(Y1:Int);omega) (by show(Y1:Int)<=_;omega),zAb (by show _<=k;omega) (by show k<=_;omega),zAb (by show _<=(Y:Int);omega) (by show(Y:Int)<=_;omega),zAb (by show _<=(Y2:Int);omega) (by show(Y2:Int)<=_;omega),zAb (by show _<=k2;omega) (by show k2<=_;omega),rfl⟩)
       have HB9:Hid (zF2 47 31 26 W w b (m+2600 - 6*(j2+1)) A B L u1 (.slice (some ⟨g,s,none⟩) xs.length co) (.slice aw nw cw) xs F ws):=zh (HB2.out.go mw1 (rd1.le hN2) hbA hAB hwA (fun y hy => .inl (List.mem_singleton.1 hy)))
       have HWS:=zh HB9.out.ow.rs;have HKQ:=zh kq1;have hws4:ws.length<=4:=by omega
       have ltQ:=kq1.lt;have ltB1:=HB9.out.kb.lt;have hL1:L<=u1.heap.size:=HB9.out.lu;clear hwi mw1 rd1 kq1 HMX HMY hs4 ht4 m4 n4 c0 d0 hgx hgy hkx hdx HRD HB2;refine zE8 rfl 11 [(101,[101]),(102,[102]),(103,[103]),(104,[104]),(105,[105]),(106,[106]),(107,[107]),(108,[108]),(109,[109]),(110,[110,109]),(9,[9])]
        (fun i vs u F'=>match i,vs with
         | 0,[y]=>y = .pointer (some ⟨B,0,none⟩)
         | 1,[y]=>y = .slice (some ⟨g,s,none⟩) xs.length co
         | 2,[y] => ∃ g2,y = .slice (some ⟨g2,0,none⟩) 0 0
         | 3,[y]=>y = .pointer (some ⟨B,1,none⟩)
         | 4,[y]=>y = .slice aw nw cw
         | 5,[y]=>(ws = []/\(∃ g2,y = .slice (some ⟨g2,0,none⟩) 0 0)/\F' = [])\/(ws ≠ []/\Oa (α:=Wire) 31 u1.heap.size u y ws []/\F'=y.ownBlock.toList)
         | 6,[y]=>y = .agg #[.int .i64 X,.int .i64 Y1,.int .i64 k,.int .i64 Y,.int .i64 Y2,.int .i64 k2]
         | 7,[y] => ∃ g2,y = .slice (some ⟨g2,0,none⟩) 1 1/\F' = [g2]/\Row (α:=Wire) u g2 0 [wi] []
         | 8,[y]=>Oa (α:=Wire) 31 u1.heap.size u y (ws ++ [wi]) []/\F'=y.ownBlock.toList
         | 9,[y,c]=>y = .agg #[.slice (some ⟨g,s,none⟩) xs.length co,c]
         | 10,[y] => ∃ Z,y = .pointer (some ⟨Z,0,none⟩)/\F' = [Z]/\Bk u Z [.slice none 0 0,.slice none 0 0] 26
         | _,_=>False) 8 5 (by decide +kernel) ?_ ?_ ?_
       ·intro i hi hne o ho U u F2 hE hd hap;have kbu:=HB9.out.kb.ext hE;obtain⟨e0,e1⟩:=Bk.k2 kbu;have kqu:=HKQ.out.ext hE;obtain⟨q0,q1,q2,q3,q4,q5⟩:=Bk.k6 kqu;clear kbu kqu;rcases(by omega:i=0\/i=1\/i=2\/i=3\/i=4\/i=5\/i=6\/i=7\/i=8\/i=9\/i=10) with rfl|rfl|rfl|rfl|rfl|rfl|rfl|rfl|rfl|rfl|rfl
        ·replace hd:=zH9 hd (by decide +kernel)
         cases ho;simp only[fr];intro K hK;go_wp2;exact hK _ [] _ (zr u) (fun _ _=>rfl) (Own.nil _ _)
        ·replace hd:=zH9 hd (by decide +kernel)
         cases ho;simp only[fr];obtain⟨⟨d0,-⟩,-⟩:=fa [0] (by decide +kernel) hd
         simp only[fu] at d0;try simp only[d0]
         clear d0;intro K hK;go_wp2;exact hK _ [] _ (zr u) (fun _ _=>rfl) (Own.nil _ _)
        ·cases ho;simp only[fr];intro K hK;go_wp2;exact hK _ [] _ ((zr u).alloc _) (fun _ _=>⟨_,rfl⟩) (Own.nil _ _)
        ·replace hd:=zH9 hd (by decide +kernel)
         cases ho;simp only[fr];intro K hK;go_wp2;exact hK _ [] _ (zr u) (fun _ _=>rfl) (Own.nil _ _)
        ·replace hd:=zH9 hd (by decide +kernel)
         cases ho;simp only[fr];obtain⟨⟨d3,-⟩,-⟩:=fa [3] (by decide +kernel) hd
         simp only[fu] at d3;try simp only[d3]
         clear d3;intro K hK;go_wp2;exact hK _ [] _ (zr u) (fun _ _=>rfl) (Own.nil _ _)
        ·replace hd:=zH9 hd (by decide +kernel)
         cases ho;simp only[fr];obtain⟨⟨d2,o2⟩,⟨d3,-⟩,⟨d4,-⟩,-⟩:=fa [2,3,4] (by decide +kernel) hd
         simp only[fu] at d2 d3 d4;try simp only[d3,d4]
         obtain⟨g2,d2⟩:=d2;simp only[d2];have hsu:=hE.sz;intro K2 hK2;refine zFh (α:=Wire) rfl _ _ 24 rfl 31 Try.underlying24 zF8 rfl rfl (HWS.out.ext hE) (by omega) ?_
         rintro v' w' (⟨h1,rfl,rfl⟩ | ⟨h1,h2,h3,h4⟩)
         ·go_wp2;exact hK2 _ [] _ (zr _) (fun _ _ => .inl ⟨h1,⟨_,rfl⟩,rfl⟩) (Own.nil _ _)
         ·go_wp2;exact hK2 _ v'.ownBlock.toList _ h4 (fun w2 h => .inr ⟨h1,h.oa (h2.mono hsu),rfl⟩) h2.ownL
        ·replace hd:=zH9 hd (by decide +kernel)
         cases ho;simp only[fr];intro K hK;go_wp2;exact hK _ [] _ (zr u) (fun _ _=>rfl) (Own.nil _ _)
        ·replace hd:=zH9 hd (by decide +kernel)
         cases ho;simp only[fr];obtain⟨⟨d6,-⟩,-⟩:=fa [6] (by decide +kernel) hd
         simp only[fu] at d6;try simp only[d6]
         intro K2 hK2;go_wp2;exact hK2 _ [u.heap.size] _ ((zr u).alloc _) (fun w2 h=>⟨_,rfl,rfl,h.row (Row.lit1 (HEN.out u)) (by simp)⟩) ((Bk.new u [.int .i64 X,.int .i64 Y1,.int .i64 k,.int .i64 Y,.int .i64 Y2,.int .i64 k2] 31).own (Nat.le_refl _))
        ·exact absurd rfl hne
        ·have d1:=(hd 1 (by decide +kernel) (by decide)).1
         have d8:=(hd 8 (by decide +kernel) (by decide)).1
         simp only[fu] at d1 d8;obtain⟨p8,n8,c8,g8⟩:=d8.1.sh0;cases ho;simp only[fr];simp only[d1,g8];intro K2 hK2;go_wp2;exact hK2 _ [] _ (zr u) (fun _ _=>by show Value.agg _=Value.agg #[_,U 109];rw[g8]) (Own.nil _ _)
        ·cases ho;simp only[fr];intro K2 hK2;go_wp2;have b1:=Bk.new u [.slice none 0 0,.slice none 0 0] 26;exact hK2 _ [u.heap.size] _ ((zr u).alloc _) (fun _ h=>⟨_,rfl,rfl,h.bk b1 (.inl (by simp))⟩) (b1.own (Nat.le_refl _))
       ·intro o ho U u F2 hE hd hap;cases ho;simp only[fr];obtain⟨⟨d2,o2⟩,⟨d3,-⟩,⟨d4,-⟩,⟨d5,o5⟩,⟨d6,-⟩,⟨d7,o7⟩,-⟩:=fa [2,3,4,5,6,7] (by decide +kernel) hd
        simp only[fu] at d2 d3 d4 d5 d6 d7;try simp only[d3,d4,d6]
        obtain⟨g7,g70,k7,hrow⟩:=d7;have hsu:=hE.sz;rcases d5 with ⟨h1,⟨g2,h2⟩,h3⟩ | ⟨h1,h2,h3⟩
        ·simp only[h2,g70];intro K2 hK2;refine zFh (α:=Wire) (ys:=[wi]) rfl _ _ 24 rfl 31 Try.underlying24 zF8 rfl rfl hrow.rs1 (by simp) ?_
         rintro v' w' (⟨g1,-⟩ | ⟨-,g2,g3,g4⟩)
         ·cases g1
         ·go_wp2;have g5:=g2.mono hsu;exact hK2 _ v'.ownBlock.toList _ [] (fun k hk=>by cases hk) (Mw.ofExt g4) (fun w2 h=>⟨by rw[h1];exact h.oa g5,rfl⟩) g5.ownL (fun k hk => .inr (by rw[g3] at hk;simp at hk;omega))
        ·simp only[g70];intro K2 hK2;refine zEa (α:=Wire) rfl _ _ 24 rfl 31 Try.underlying24 zF8 (v:=U 106) (ys:=[wi]) rfl h2 rfl rfl hrow (by omega) (fun y hy=>by cases hy) (by omega) hsu ?_
         intro v' w' g1 g2 g3;go_wp2;exact hK2 _ v'.ownBlock.toList _ (U 106).ownBlock.toList (fun k hk=>by rw[h3];exact hk) (Mw.ofGrown g2 (fun k hk=>by simp[hk])) (fun w2 h=>⟨h.oa g1,rfl⟩) g1.ownL (fun k hk=>g3.elim (fun e => .inl (by rw[h3,<- e];exact hk)) (fun e => .inr (by rw[e] at hk;simp at hk;omega)))
       intro o ho U u F2 hE hφ hap;have d8:=(hφ 8 (by decide) (by decide)).1
       have d9:=(hφ 9 (by decide) (by decide)).1
       have d10:=hφ 10 (by decide) (by decide)
       have a8:=hap 8 10 (by decide) (by decide) (by decide) (by decide) (by decide)
       simp only[fu] at d8 d9 d10;obtain⟨h8,k8⟩:=d8;obtain⟨⟨Z,g10,k10,kz⟩,oz⟩:=d10;rw[k8,k10] at a8;rw[k10] at oz;have hZ:=(oz.2 Z (by simp)).1
       obtain⟨p8,n8,c8,g8⟩:=h8.sh0;cases ho;simp only[fr];simp only[d9,g8,g10];rw[g8] at h8 a8;obtain⟨z0,z1⟩:=Bk.k2 kz;have zf:=kz.fz;have ltZ:=kz.lt;have hZ8:Z ∉ (Value.slice p8 n8 c8).ownBlock.toList:=fun hm=>a8 Z hm (by simp)
       have HZ:Hid (Ext u1 (zA8 u Z 0 [.slice (some ⟨g,s,none⟩) xs.length co,.slice p8 n8 c8])/\Bk (zA8 u Z 0 [.slice (some ⟨g,s,none⟩) xs.length co,.slice p8 n8 c8]) Z [.slice (some ⟨g,s,none⟩) xs.length co,.slice p8 n8 c8] 26/\Oa (α:=Wire) 31 u1.heap.size (zA8 u Z 0 [.slice (some ⟨g,s,none⟩) xs.length co,.slice p8 n8 c8]) (.slice p8 n8 c8) (ws ++ [wi]) []) :=
        zh ⟨(Mw.puts (b:=Z) (o:=0) (.inr hZ) [.slice (some ⟨g,s,none⟩) xs.length co,.slice p8 n8 c8] (Mw.ofExt hE:Mw [] u1 u)).ext (zr u1) (fun y hy=>by cases hy),kz.puts [.slice (some ⟨g,s,none⟩) xs.length co,.slice p8 n8 c8] rfl,h8.mwF (Mw.puts (F:=[Z]) (b:=Z) (o:=0) (.inl (by simp)) [.slice (some ⟨g,s,none⟩) xs.length co,.slice p8 n8 c8] (Mw.refl [Z] u)) (fun y hy e=>by rw[List.mem_singleton] at hy;subst hy;exact hZ8 (by simp[e])) (fun y hy hm=>by cases hm)⟩
       clear hφ hap hE h8 k8 kz oz a8 d9 g8 g10;go_upto_region 15 with (fail)
       refine zA2 (fun v=>Ext u1 v/\Bk v Z [.slice (some ⟨g,s,none⟩) xs.length co,.slice p8 n8 c8] 26/\Oa (α:=Wire) 31 u1.heap.size v (.slice p8 n8 c8) (ws ++ [wi]) []) HZ.out ?_
       clear HZ z0 z1 zf ltZ hZ8;rintro u2 ⟨e2,kz2,ho2⟩;obtain⟨z0,z1⟩:=Bk.k2 kz2;have ltZ:=kz2.lt;have HV:=zh (Rv.mkBoard (x:=⟨xs,ws ++ [wi]⟩) (HB9.out.boxes.rs.ext e2) ho2.rs);have HE2:=zh e2;have HK2:=zh kz2;have HO2:=zh ho2;clear e2 kz2 ho2;obtain⟨bv,hbv⟩:∃ bv,zFt (⟨xs,ws ++ [wi]⟩:Board)=bv:=⟨_,rfl⟩;go_upto_if 112 with (go_at_call 6;refine(zDb _ (⟨xs,ws ++ [wi]⟩:Board) _ HV.out).mono ?_;rintro e w9 ⟨rfl,he⟩;rw[hbv];have HE9:=zh (HE2.out.tr he);have HK9:=zh (HK2.out.ext he);have HO9:=zh (HO2.out.ext he);clear he)
       have HX9:=zh (HB9.out.go (Mw.ofExt HE9.out:Mw [] u1 w9) (HB9.out.rd.ext HE9.out) hbA hAB hwA (fun y hy=>by cases hy))
       clear z0 z1 ltZ HV hbv;cases bv
       ·go_wp2;go_roundw
        case rel=>exact⟨j2+1,_,_,_,ws,by omega,congrArg _ (by omega),by omega,HX9.out⟩
        case measure=>simp[intOf];omega
       ·obtain⟨z0,z1⟩:=Bk.k2 HK9.out;have ltZ:=HK9.out.lt;obtain⟨y0,y1⟩:=Bk.k2 HX9.out.kb;have yf:=HX9.out.kb.fz;have ltY:=HX9.out.kb.lt;go_wp2;go_roundw
        case rel=>exact⟨j2+1,_,_,_,ws ++ [wi],by omega,congrArg _ (by omega),by simp;omega,HX9.out.wires hbA hAB hwA hWw HO9.out hL1⟩
        case measure=>simp[intOf];omega
      ·have hx9:decide ((xs.length:Int) > 0)=false:=decide_eq_false (by omega)
       have hx8:decide ((0:Int) < xs.length)=false:=decide_eq_false (by omega)
       have hB9:=zh (b2.go (Mw.refl [] _) (b2.rd.le (m':=m+2500) (by omega)) hbA hAB hwA (by simp))
       clear b2;go_wp2;go_meet
       exact⟨_,_,_,_,hB9.out,by omega⟩
     ·obtain rfl:j2=J2:=by omega
      have hB9:=zh (b2.go (Mw.refl [] _) (b2.rd.le (m':=m+2500) (by omega)) hbA hAB hwA (by simp))
      clear b2;go_wp2;go_meet
      exact⟨_,_,_,_,hB9.out,by omega⟩
   case rest =>
    obtain⟨aw,nw,cw,ws,b2,hwl⟩:=hcut;have HLX:Hid (GT.tot (⟨xs,ws⟩:Board)<=400000):=zh (zHw hx3 (by omega) (fun x hx=>(HMV.out x hx).1))
    have HRD:Hid (Rd W wc b (m+1500+1)):=zh (b2.rd.le (by omega))
    have HB2:=zh b2;have hn9:rng n:=⟨hn1,hn2⟩;have hws4:ws.length<=4:=hwl;clear b2;go_upto_if 116 with (go_at_call 10;refine(zE7 W _ b _ n HRD.out hn9).mono ?_;rintro e w2 ⟨⟨q,rfl⟩,hm,hr⟩;have HX2:Hid (zF2 47 31 26 W w b (m+1500) A B L w2 (.slice ao xs.length co) (.slice aw nw cw) xs F ws):=zh (HB2.out.go (Mw.ofMo hm) hr hbA hAB hwA (fun y hy => .inl (List.mem_singleton.1 hy)));clear hm hr)
    clear HB2 HRD;go_cut [] from 117 (fun wd => ∃ (v0 v1:Value) (x:Board) (F:List Nat),M.B4 31 26 W w b m A B wd v0 v1 x F)
    case first =>
     cases q
     ·go_wp2;go_meet
      obtain⟨F4,h4⟩:=(HX2.out.go (Mw.refl [] w2) (HX2.out.rd.le (m':=m) (by omega)) hbA hAB hwA (fun y hy=>by cases hy)).to4 (Nat.le_trans HLX.out (by omega))
      exact⟨_,_,_,F4,h4⟩
     ·have HR2:Hid (Rd W w2 b (m+1400+1)):=zh (HX2.out.rd.le (by omega))
      go_upto_block 4 with (go_at_call 20;refine(zA6 W _ b _ _ HR2.out (zAb (by omega) (by omega))).mono ?_;rintro e w3 ⟨k3,rfl,hk,hm,hr⟩;have hk3:=hk.lt (by omega);have HX3:Hid (zF2 47 31 26 W w b (m+1400) A B L w3 (.slice ao xs.length co) (.slice aw nw cw) xs F ws):=zh (HX2.out.go (Mw.ofMo hm) hr hbA hAB hwA (fun y hy => .inl (List.mem_singleton.1 hy)));clear hk hm hr)
      clear HX2 HR2;obtain⟨y0,y1⟩:=Bk.k2 HX3.out.kb;have yf:=HX3.out.kb.fz;have ltB3:=HX3.out.kb.lt;have hlu:=HX3.out.lu;have hbl2:=HX3.out.bl;obtain rfl|rfl|rfl:k3=0\/k3=1\/k3=2:=by omega
      ·obtain⟨wz,hwz⟩:∃ wz:Wire,wz=⟨xs.length,0,0,0,0,0⟩:=⟨_,rfl⟩;have HEN:Hid (∀ u:World,GT.enc u [.int .i64 xs.length,.int .i64 0,.int .i64 0,.int .i64 0,.int .i64 0,.int .i64 0] wz []):=zh (fun u=>by rw[hwz];exact⟨rfl,zAb (by show _<=(xs.length:Int);omega) (by show(xs.length:Int)<=_;omega),zAe,zAe,zAe,zAe,zAe,rfl⟩)
       clear hwz;go_wp2_with (at_builtin;go_loud (refine wpl_app (α:=Wire) rfl _ _ 24 rfl 31 Try.underlying24 zF8 (L:=L) (v:=.slice aw nw cw) (ys:=[wz]) rfl (HX3.out.ow.ext ((zr _).alloc _)) rfl rfl (Row.lit1 (cs:=[.int .i64 xs.length,.int .i64 0,.int .i64 0,.int .i64 0,.int .i64 0,.int .i64 0]) (HEN.out w3)) (by omega) (fun y hy=>by cases hy) (by omega) (by simp;omega) ?_;intro v5 w5 hO5 hg5;obtain⟨p5,n5,q5,rfl⟩:=hO5.sh0;have HO5:=zh hO5;have HM5:Hid (Mw (Value.slice aw nw cw).ownBlock.toList w3 w5):=zh ((Mw.ofExt ((zr w3).alloc _)).tr (Mw.ofGrown hg5 (fun k hk=>by simp[hk])));have KB5:=zh (HM5.out.bk HX3.out.kb (fun hm=>by have:=HX3.out.ow.own B (by simpa using hm);omega));clear y0 y1 yf ltB3 hO5 hg5;have r1:=KB5.out.cell (j:=1) rfl;have rf:=KB5.out.fz;have rl:=KB5.out.lt))
       go_meet
       obtain⟨F4,h4⟩:=((HX3.out.put1 HM5.out hbA hAB hwA hWw HO5.out).le (m2:=m) (by omega)).to4 (Nat.le_trans (zHw hx3 (by simp;omega) (fun x hx=>(HMV.out x hx).1)) (by omega))
       exact⟨_,_,_,F4,h4⟩
      ·go_upto_region 23 with (fail)
       have HMW:=zh HX3.out.mw;have HRD:Hid (Rd W w3 b (m+300+1100)):=zh (HX3.out.rd.le (by omega))
       have HKA:=zh HX3.out.ka;have HKB:=zh HX3.out.kb;have HOA:=zh HX3.out.oa;have HFL:=zh HX3.out.fl;have HNF:Hid (∀ k,(Value.slice ao xs.length co).ownBlock=some k->k ∉ F):=zh HX3.out.oa.nown;have hsw:=HX3.out.mw.size;have hbo:b < w3.heap.size:=by omega
       obtain⟨N,hN⟩:∃ N,m+300=N:=⟨_,rfl⟩;rw[hN] at HRD;clear y0 y1 yf;have hF0:∀ k∈b::(Value.slice ao xs.length co).ownBlock.toList,k < w3.heap.size:=fun k hk=>by
        rcases List.mem_cons.1 hk with rfl|hk
        ·omega
        ·exact HOA.out.lt k (by simpa using hk)
       have hF1:Hid (∀ k∈(Value.slice ao xs.length co).ownBlock.toList,B+1<=k/\k ∉ F):=zh (fun k hk=>⟨HOA.out.own k (by simpa using hk),HNF.out k (by simpa using hk)⟩)
       have hbF:Hid (b ∉ (Value.slice ao xs.length co).ownBlock.toList/\b ∉ F):=zh ⟨fun hm=>by have:=(hF1.out b hm).1;omega,fun hm=>by have:=HFL.out b hm;omega⟩
       refine zAz rfl 7 [(134,[134]),(135,[135]),(136,[136]),(137,[137]),(138,[138]),(139,[139]),(140,[140])]
        (fun i vs u F'=>match i,vs with
         | 0,[y]=>y = .pointer (some ⟨B,0,none⟩)
         | 1,[y]=>y = .slice ao xs.length co
         | 2,[y]=>y = .pointer (some ⟨b,0,none⟩)
         | 3,[y] => ∃ x,Rvb (α:=Machine) w3.heap.size u y x/\(1=(0:Int)->zBm x/\1<=x.Cores.length)/\GT.tot x<=200000
         | 4,[y] => ∃ x g Fy,y = .slice (some ⟨g,0,none⟩) 1 1/\Row (α:=Machine) u g 0 [x] Fy/\(∀ k∈Fy,w3.heap.size<=k)/\(1=(0:Int)->zBm x/\1<=x.Cores.length)/\GT.tot x<=200000
         | 5,[_]=>True
         | 6,[y]=>y = .pointer (some ⟨B,0,none⟩)
         | _,_=>False) (b::(Value.slice ao xs.length co).ownBlock.toList) hF0 [3,5] (fun c vs u=>match c,vs with
         | 0,_=>Rd W u b (N+1100)/\Oa (α:=Machine) 47 (B+1) u (.slice ao xs.length co) xs F
         | 1,_=>Rd W u b N/\Oa (α:=Machine) 47 (B+1) u (.slice ao xs.length co) xs F
         | 2,[_,y]=>Rd W u b N/\∃ x F',Oa (α:=Machine) 47 (B+1) u y (xs ++ [x]) F'/\((∀ k∈F',k∈F\/w3.heap.size<=k)/\∀ k,y.ownBlock=some k->(Value.slice ao xs.length co).ownBlock=some k\/w3.heap.size<=k)/\(1=(0:Int)->zBm x/\1<=x.Cores.length)/\GT.tot x<=200000
         | _,_=>False) (by decide +kernel) (by decide +kernel) (fun w2 h=>⟨HRD.out.ext h,HOA.out.ext h⟩) ?_ ?_ ?_
       ·intro i hi hnt o ho U u F2 hE hd hap;have kbu:=hE.bk HKB.out (fun hm=>(List.mem_cons.1 hm).elim (by omega) (fun h=>by have:=(hF1.out B h).1;omega))
        have e0:=kbu.cell (j:=0) rfl;rcases(by omega:i=0\/i=1\/i=2\/i=3\/i=4\/i=5\/i=6) with rfl|rfl|rfl|rfl|rfl|rfl|rfl
        ·cases ho;simp only[fr];intro K hK;go_wp2;exact hK _ [] _ (zr u) (fun _ _=>rfl) (Own.nil _ _)
        ·cases ho;simp only[fr];obtain⟨⟨d0,-⟩,-⟩:=fa [0] (by decide +kernel) hd
         simp only[fu] at d0;try simp only[d0]
         clear d0;intro K hK;go_wp2;exact hK _ [] _ (zr u) (fun _ _=>rfl) (Own.nil _ _)
        ·cases ho;simp only[fr];intro K hK;go_wp2;exact hK _ [] _ (zr u) (fun _ _=>rfl) (Own.nil _ _)
        ·exact absurd (by decide) hnt
        ·cases ho;simp only[fr];obtain⟨⟨d2,-⟩,⟨d3,o3⟩,-⟩:=fa [2,3] (by decide +kernel) hd
         simp only[fu] at d2 d3;try simp only[d2]
         obtain⟨x,⟨cs,Fy,g0,hen,hfl⟩,hP⟩:=d3;obtain⟨v0,v1,v2,v3,v4,v5,G0,G1,G2,G3,G4,G5,rfl,-⟩:=id hen;simp only[g0];have HEN:=zh hen;have HFY:=zh hfl;have HP:=zh hP;have hsu:=hE.size;clear hen hfl hP hd hap;intro K2 hK2;go_wp2;refine hK2 _ [] _ ((zr u).alloc _) (fun w2 h=>⟨x,_,Fy,rfl,h.row (Row.lit1 HEN.out) (by simp) (fun hm=>by have:=hF0 _ hm;omega) (fun y hy hm=>by have:=hF0 _ hm;have:=HFY.out y hy;omega),HFY.out,HP.out⟩) (Own.nil _ _)
        ·exact absurd (by decide) hnt
        ·cases ho;simp only[fr];obtain⟨⟨d0,-⟩,⟨d1,-⟩,⟨d2,-⟩,-⟩:=fa [0,1,2] (by decide +kernel) hd
         simp only[fu] at d0 d1 d2;try simp only[d0,d1,d2]
         clear d0 d1 d2;intro K hK;go_wp2;exact hK _ [] _ (zr u) (fun _ _=>rfl) (Own.nil _ _)
       ·intro c i hc o ho U u F2 hE hd hap ht;rcases c with _|c
        ·cases hc;cases ho;simp only[fr];obtain⟨⟨d2,-⟩,-⟩:=fa [2] (by decide +kernel) hd
         simp only[fu] at d2;try simp only[d2]
         obtain⟨hrd,hoa⟩:=ht;have HR:=zh hrd;have HA:=zh hoa;clear hrd hoa;have hsu:=hE.size;intro K2 hK2;go_wp2_with (go_at_call 21;refine(zD5 W _ b N 1 HR.out ⟨by omega,by omega⟩).mono ?_;rintro e w4 ⟨v4,x,rfl,hv,htt,hmv,hm,hr⟩)
         exact hK2 _ [] _ (hm.wide (fun y hy=>by rw[List.mem_singleton] at hy;simp[hy])) (fun w3 h=>⟨hr.ext h,(HA.out.mwF hm (fun y hy e=>by rw[List.mem_singleton] at hy;subst hy;exact hbF.out.1 (by simpa using e)) (fun y hy=>by rw[List.mem_singleton] at hy;subst hy;exact hbF.out.2)).ext h⟩) (fun w3 h=>⟨x,(hv.mono hsu).mw h (fun y hy=>hF0 y hy),hmv,htt⟩) (Own.nil _ _)
        rcases c with _|c
        ·cases hc;cases ho;simp only[fr];obtain⟨⟨d0,-⟩,⟨d1,-⟩,⟨d2,-⟩,⟨d3,o3⟩,⟨d4,o4⟩,-⟩:=fa [0,1,2,3,4] (by decide +kernel) hd
         simp only[fu] at d0 d1 d2 d3 d4;try simp only[d0,d1,d2]
         obtain⟨x,g,Fy,g0,hrow,hfy,hP⟩:=d4;obtain⟨hrd,hoa⟩:=ht;have hsu:=hE.size;simp only[g0];intro K2 hK2;refine zEa (α:=Machine) rfl _ _ 23 rfl 47 Try.underlying23 zH1 (L:=B+1) (v:=.slice ao xs.length co) (ys:=[x]) rfl hoa rfl rfl hrow (by omega) (fun y hy e=>by have:=hfy y hy;have:=hF0 y (List.mem_cons_of_mem _ (by simpa using e));omega) (by omega) (by omega) ?_
         intro v5 w5 hO5 hg5 hwh5;go_wp2;have hm5:Mw (b::(Value.slice ao xs.length co).ownBlock.toList) u w5:=Mw.ofGrown hg5 (fun k hk=>List.mem_cons_of_mem _ (by simp[hk]))
         exact hK2 _ [] _ hm5 (fun w3 h=>⟨(hrd.mw (Mw.ofGrown (F:=(Value.slice ao xs.length co).ownBlock.toList) hg5 (fun k hk=>by simp[hk])) hbF.out.1 (fun k hk=>by have:=(hF1.out k hk).1;omega)).ext h,x,_,hO5.ext h,⟨fun k hk=>(List.mem_append.1 hk).elim .inl (fun h => .inr (hfy k h)),fun k hk=>hwh5.elim (fun e => .inl (by rw[<- e];exact hk)) (fun e => .inr (by rw[hk] at e;cases e;exact hsu))⟩,hP⟩) (fun _ _=>trivial) (Own.nil _ _)
        ·cases hc
       ·intro o ho U u F2 hE hφ hap ht;cases ho;simp only[fr];obtain⟨⟨d0,-⟩,⟨d1,-⟩,⟨d2,-⟩,⟨d3,o3⟩,⟨d4,o4⟩,⟨d5,o5⟩,⟨d6,-⟩,-⟩:=fb [0,1,2,3,4,5,6] (by decide +kernel) hφ
        simp only[fu] at d0 d1 d2 d3 d4 d5 d6;try simp only[d0,d1,d2,d6]
        obtain⟨hrd,x,F3,hoa,⟨hfl,hwh⟩,hP⟩:Rd W u b N/\∃ x F',Oa (α:=Machine) 47 (B+1) u (U 139) (xs ++ [x]) F'/\((∀ k∈F',k∈F\/w3.heap.size<=k)/\∀ k,(U 139).ownBlock=some k->(Value.slice ao xs.length co).ownBlock=some k\/w3.heap.size<=k)/\(1=(0:Int)->zBm x/\1<=x.Cores.length)/\GT.tot x<=200000:=ht;have kau:=hE.bk HKA.out (fun hm=>(List.mem_cons.1 hm).elim (by omega) (fun h=>by have:=(hF1.out A h).1;omega))
        have kbu:=hE.bk HKB.out (fun hm=>(List.mem_cons.1 hm).elim (by omega) (fun h=>by have:=(hF1.out B h).1;omega))
        have hmw:Mw [b] w u:=HMW.out.trF hE (fun k hk=>(List.mem_cons.1 hk).elim (fun e => .inl (by simp[e])) (fun h => .inr (by have:=(hF1.out k h).1;omega)))
        obtain⟨p9,n9,q9,e9⟩:=hoa.sh0;simp only[e9] at hoa hwh ⊢;obtain⟨e0,e1⟩:=Bk.k2 kbu;have ef:=kbu.fz;have ltB:=kbu.lt;have hsu:=hE.size;have HM5:=zh hmw;have HR5:=zh hrd;have HO5:=zh hoa;have HF5:=zh hfl;have HH5:=zh hwh;have HP5:=zh hP;have HA5:=zh kau;have HB5:=zh kbu;have ho1:Oa (α:=Wire) 31 L u (.slice aw nw cw) ws []:=HX3.out.ow.mwF hE (fun y hy e=>by
         have h1:=HX3.out.ow.own y e;have h2:=HX3.out.bl;rcases List.mem_cons.1 hy with h|h
         ·omega
         ·have:=HX3.out.hi y (.inl (by simpa using h));omega) (fun y hy hm=>by cases hm)
        have HW5:=zh ho1;have HV1:=zh (HX3.out.ow.lt);clear d0 d1 d2 d3 d4 d5 d6 hap hφ kau kbu hmw hrd hoa hfl hwh hP hE ho1;go_wp2;go_meet
        obtain⟨F9,s9,f9⟩:=HO5.out.slF;have HG:Mw [B] u (u.setCell ⟨B,0,none⟩ (.slice p9 n9 q9)):=(Mw.refl [B] u).set (p:=⟨B,0,none⟩) (by simp) _
        have hF9:∀ k∈F9,(B+1<=k)/\(k < L\/w3.heap.size<=k):=fun k hk=>by
         rcases f9 k hk with h|h
         ·refine⟨HO5.out.own k h,?_⟩;rcases HH5.out k h with h2|h2
          ·exact .inl (HX3.out.hi k (.inl h2))
          ·exact .inr h2
         ·rcases HF5.out k h with h2|h2
          ·exact⟨HFL.out k h2,.inl (HX3.out.hi k (.inr h2))⟩
          ·exact⟨by omega,.inr h2⟩
        have hlx:=HLX.out;exact⟨_,_,⟨xs ++ [x],ws⟩,F9,HM5.out.set (p:=⟨B,0,none⟩) (.inr (by show w.heap.size<=B;omega)) _,(HR5.out.set (p:=⟨B,0,none⟩) (by show b≠B;omega) (by show W.heap.size<=B;omega) _).le (by omega),HA5.out.set_ne (p:=⟨B,0,none⟩) (by show A≠B;omega) _,by have:=HB5.out.set 0 (.slice p9 n9 q9);simpa using this,HG.sl s9 (fun y hy hm=>by rw[List.mem_singleton] at hm;have:=(hF9 y hy).1;omega),fun k hk=>(hF9 k hk).1,(HW5.out.mono (by have:=HX3.out.bl;omega)).mwF HG (fun y hy e=>by rw[List.mem_singleton] at hy;have:=HW5.out.own y e;have:=HX3.out.bl;omega) (fun y hy hm=>by cases hm),(fun k hk hm=>by
         have h1:=HW5.out.own k hk;have h2:=HV1.out k hk;have h3:=(hF9 k hm).2
         omega),by
         have e1:GT.tot (⟨xs ++ [x],ws⟩:Board)=GT.tot (xs ++ [x])+GT.tot ws:=rfl;have e2:GT.tot (⟨xs,ws⟩:Board)=GT.tot xs+GT.tot ws:=rfl;have e3:=zGi x xs;have e4:=HP5.out.2
         omega⟩
      ·have hmk:∀ u:World,(Instr.makeSlice 23 (.int .i64 4) (.int .i64 4)).run Try.prog u = .ok (.slice (some ⟨u.heap.size,0,none⟩) 4 4) (u.alloc (.cells (madeCells #[.slice none 0 0,.slice none 0 0,.slice none 0 0,.slice none 0 0,.slice none 0 0,.slice none 0 0,.int .i64 0] 28) 47)):=zGa;go_wp2;go_meet
       have hS:Mw [B] w3 (w3.setCell ⟨B,0,none⟩ (.slice (some ⟨w3.heap.size,0,none⟩) 4 4)):=(Mw.refl [B] _).set (p:=⟨B,0,none⟩) (by simp) _
       have hE9:∀ O,Ext (w3.setCell ⟨B,0,none⟩ (.slice (some ⟨w3.heap.size,0,none⟩) 4 4)) ((w3.setCell ⟨B,0,none⟩ (.slice (some ⟨w3.heap.size,0,none⟩) 4 4)).alloc O):=fun O=>(zr _).alloc O
       have hos:Os (α:=Machine) w3.heap.size ((w3.setCell ⟨B,0,none⟩ (.slice (some ⟨w3.heap.size,0,none⟩) 4 4)).alloc (.cells (madeCells #[.slice none 0 0,.slice none 0 0,.slice none 0 0,.slice none 0 0,.slice none 0 0,.slice none 0 0,.int .i64 0] 28) 47)) (.slice (some ⟨w3.heap.size,0,none⟩) 4 4) (List.replicate 4 default):=by
        have:=Os.made (α:=Machine) (w3.setCell ⟨B,0,none⟩ (.slice (some ⟨w3.heap.size,0,none⟩) 4 4)) 4 47 #[.slice none 0 0,.slice none 0 0,.slice none 0 0,.slice none 0 0,.slice none 0 0,.slice none 0 0,.int .i64 0] default rfl rfl (by omega)
        simpa [GT.sz] using this
       obtain⟨F9,s9,o9⟩:=hos;have hn9:∀ k∈F9,w3.heap.size<=k:=fun k hk=>(o9.2 k hk).1
       exact⟨_,_,⟨List.replicate 4 default,ws⟩,F9,(HX3.out.mw.trF hS (fun y hy=>by rw[List.mem_singleton] at hy;exact .inr (by omega))).tr (Mw.ofExt (hE9 _)),((HX3.out.rd.mw hS (by simp;omega) (by simp;omega)).ext (hE9 _)).le (by omega),(hS.bk HX3.out.ka (by simp;omega)).ext (hE9 _),by have:=(HX3.out.kb.set 0 (.slice (some ⟨w3.heap.size,0,none⟩) 4 4)).ext (hE9 (.cells (madeCells #[.slice none 0 0,.slice none 0 0,.slice none 0 0,.slice none 0 0,.slice none 0 0,.slice none 0 0,.int .i64 0] 28) 47));simpa using this,s9,fun k hk=>by have:=hn9 k hk;omega,((HX3.out.ow.mono (by omega)).mwF hS (fun y hy e=>by rw[List.mem_singleton] at hy;have:=HX3.out.ow.own y e;omega) (fun y hy hm=>by cases hm)).ext (hE9 _),(fun k hk hm=>by
        have h2:=HX3.out.ow.lt k hk;have h3:=hn9 k hm
        omega),by
        have e1:GT.tot (⟨List.replicate 4 default,ws⟩:Board)=GT.tot (List.replicate 4 (default:Machine))+GT.tot ws:=rfl;have e2:GT.tot (⟨xs,ws⟩:Board)=GT.tot xs+GT.tot ws:=rfl;have e3:GT.tot (List.replicate 4 (default:Machine))=4:=rfl;have e4:=HLX.out
        show GT.tot (⟨List.replicate 4 default,ws⟩:Board)<=900000
        omega⟩
    case rest =>
     obtain⟨v0,v1,x,F4,h4⟩:=hcut;obtain⟨a0,c0,rfl,-⟩:=id h4.sl;obtain⟨p1,n1,q1,rfl⟩:=h4.ow.sh0;obtain⟨z0,z1⟩:=Bk.k2 h4.ka;have zf:=h4.ka.fz;have ltA:=h4.ka.lt;obtain⟨y0,y1⟩:=Bk.k2 h4.kb;have ltB:=h4.kb.lt;have H4:=zh h4;clear h4 HLX HMV;go_wp2;have k4:Mw [A] wc ((wc.setCell ⟨A,0,none⟩ (.slice a0 x.Boxes.length c0)).setCell ⟨A,1,none⟩ (.slice p1 n1 q1)):=((Mw.refl [A] wc).set (p:=⟨A,0,none⟩) (by simp) _).set (p:=⟨A,1,none⟩) (by simp) _
     refine bodyPost_ret (v:=.agg #[.slice a0 x.Boxes.length c0,.slice p1 n1 q1]) (by simp[results,Try.results9,go_sem,z0,z1]) rfl ⟨_,x,rfl,⟨_,_,F4,rfl,k4.sl H4.out.sl (fun y hy hm=>by rw[List.mem_singleton] at hm;have:=H4.out.fl y hy;omega),(H4.out.ow.mono (by omega)).mwF k4 (fun y hy e=>by rw[List.mem_singleton] at hy;have:=H4.out.ow.own y e;omega) (fun y hy hm=>by cases hm),fun k hk=>by have:=H4.out.fl k hk;omega,H4.out.ap⟩,H4.out.tot,H4.out.mw.trF k4 (fun y hy=>by rw[List.mem_singleton] at hy;exact .inr (by omega)),H4.out.rd.mw k4 (by simp;omega) (by simp;omega)⟩
end Sk
