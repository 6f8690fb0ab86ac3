/- Contracts of functions of the given program. -/
import Derived.Test.YtfdeoepbnefckaaGreatZzzznPrgs
namespace Sk
open Go Go.Proofs Go.RowKit
set_option maxHeartbeats 4000000
set_option maxRecDepth 100000
set_option linter.unusedVariables false
set_option linter.unusedSimpArgs false
theorem Row.lit2{w:World}{T T2:TypeId}:GT.enc (α:=List Order) (w.alloc (.cells #[.int .i64 0,.int .i64 0,.int .i64 0] T (0,0))) [.slice (some ⟨w.heap.size,0,none⟩) 1 1] [⟨0,0,0⟩] [w.heap.size] :=
 ⟨_,rfl,_,1,rfl,Nat.le_refl _,by unfold maxLen;omega,.inr ⟨by simp,w.heap.size,0,[],rfl,rfl,Row.lit1 (cs:=[.int .i64 0,.int .i64 0,.int .i64 0]) ⟨rfl,zAg,zAg,zAg,rfl⟩⟩⟩
theorem Rvb.two{α:Type}[GT α]{L:Nat}{u w':World}{v:Value}{x : α}{G:List Nat}(h:Rvb L u v x)(k:Mw G u w')(hG:∀ y∈G,y < L\/u.heap.size<=y):Rv w' v x:=by
 obtain⟨cs,F,h1,h2,h3⟩:=h;exact⟨cs,F,h1,k.enc h2 (fun y hy hm=>by have:=h3 y hy;have:=GT.inh h2 y hy;rcases hG y hm with h|h<;>omega)⟩
theorem Row.lit22{w:World}{T T2:TypeId}:Row (α:=List Order) ((w.alloc (.cells #[.int .i64 0,.int .i64 0,.int .i64 0] T (0,0))).alloc (.cells #[.slice (some ⟨w.heap.size,0,none⟩) 1 1] T2 (0,0))) (w.heap.size+1) 0 [[⟨0,0,0⟩]] [w.heap.size]:=by
 have h:=Row.lit1 (cs:=[_]) (T:=T2) (Row.lit2 (w:=w) (T:=T) (T2:=T2))
 simpa using h
theorem zDv(v:Value)(xs:List By)(w:World)(h:Rs w v xs) :
  Calls Tryz.prog 5 #[v] w fun e w' => ∃ v' vl s ps,e = .returned (.tuple #[v',vl])/\Rv (α:=Setup) w' v' s/\Rs (α:=List Order) w' vl ps/\zHn s/\(ps.length<=7/\∀ p∈ps,p.length<=21)/\Ext w w':=by
 have H:=zh h;clear h;go_enter Tryz.func5,Tryz.ntmps5;go_upto_region 1 with (fail)
 obtain⟨A,hA⟩:∃ A,A=w.heap.size:=⟨_,rfl⟩;refine zA2 (fun W0=>Ext w W0/\Bk W0 A [.slice none 0 0,.slice none 0 0,.slice none 0 0] 27) ⟨(zr _).alloc _,by rw[hA];exact Bk.new _ _ _⟩ ?_
 rw[<- hA];rintro W0 ⟨e0,kA⟩;have hwA:w.heap.size<=A:=by omega
 clear hA;have HE0:=zh e0;have KA:=zh kA;have hA:=kA.lt;clear e0 kA;go_upto_region 3 with (first
  | (go_at_call 17;refine(zHi _ _ _ (H.out.ext HE0.out)).mono ?_;rintro e w1 ⟨b,rfl,hb,he,hr⟩;have HE:=zh he;have hs1:=he.sz;have hb1:=hr.lt;have HR:Hid (Rd W0 w1 b (1500+500)):=zh (hr.le (by omega));clear he hr)
  | (go_at_call 18;refine(zGu W0 _ b 1500 20 HR.out (by omega) (by omega)).mono ?_;rintro e w2 ⟨v2,s,rfl,hv,hd,hm,hr⟩;obtain⟨a0,c0,a1,c1,a2,c2,rfl,-⟩:=hv.openS;have KA2:=zh (hm.bk (KA.out.ext HE.out) (by simp;omega));have HV:=zh hv;have HD:=zh hd;have HM2:=zh (hm.ext (HE0.out.tr HE.out) (by simp;omega));have hs2:=hm.size;have HR2:=zh hr;clear hm hr hv hd))
 obtain⟨X,hX⟩:∃ X,X=w2.heap.size:=⟨_,rfl⟩;refine zA2 (fun u=>Ext w2 u/\Bk u X [.slice a0 s.Parts.length c0,.slice a1 s.Channels.length c1,.slice a2 s.Slots.length c2] 27) ⟨(zr _).alloc _,by rw[hX];exact Bk.new _ _ _⟩ ?_
 rw[<- hX];rintro u3 ⟨e3,kX⟩;have hXw:w2.heap.size<=X:=by omega
 obtain⟨x0,x1,x2⟩:=Bk.k3 kX;have xl:=kX.lt;have hXu:=kX.lt;clear hX;have KX:=zh kX;replace HV:=zh (HV.out.ext e3);replace KA2:=zh (KA2.out.ext e3);replace HM2:=zh (HM2.out.tr e3);replace HR2:=zh ((HR2.out.ext e3).le (m':=100+900) (by omega))
 have hsu:=e3.sz;clear e3 kX HR HE;go_upto_region 4 with (go_at_call 19;refine(zEn W0 _ b 100 _ s 20 ⟨by omega,by omega⟩ HR2.out (HV.out.mono (by omega)) HD.out).mono ?_;rintro e w4 ⟨v4,ps,rfl,ho,⟨hpl,hpb⟩,hm,hr⟩;obtain⟨al,cl,rfl,-⟩:=ho.form;have HO:=zh ho;have HPL:=zh hpl;have HPB:=zh hpb;have HM4:=zh (hm.ext HM2.out (by simp;omega));have HV4:=zh (HV.out.mw hm (by simp;omega));have HU4:=zh hm;have KA4:=zh (hm.bk KA2.out (by simp;omega));have KX4:=zh (hm.bk KX.out (by simp;omega));have HR4:Hid (Rd W0 w4 b (98+1)):=zh (hr.le (by omega));have hs4:=hm.size;clear ho hpl hpb hm hr)
 clear x0 x1 x2 xl;go_upto_if 15 with (go_at_call 20;refine(zC8 W0 _ b 98 _ HR4.out (zA5 (by omega) (by omega))).mono ?_;rintro e w5 ⟨⟨q,rfl⟩,hm,hr⟩;have HM5:=zh ((Mw.ofMo hm).ext HM4.out (by simp;omega));have HV5:=zh (HV4.out.mw (Mw.ofMo hm) (by simp;omega));have HU5:=zh (HU4.out.tr (Mw.ofMo hm));have KA5:=zh ((Mw.ofMo hm).bk KA4.out (by simp;omega));have KX5:=zh ((Mw.ofMo hm).bk KX4.out (by simp;omega));have HO5:=zh (HO.out.mo hm (by simp;omega));have hs5:=(Mw.ofMo hm).size;clear hm hr)
 clear HM4 HV4 KA4 KX4 HO HR4;obtain⟨x0,x1,x2⟩:=Bk.k3 KX5.out;have xl:=KX5.out.lt;obtain⟨d0,d1,d2⟩:=Bk.k3 KA5.out;have df:=KA5.out.fz;have dl:=KA5.out.lt;have hp6:=HD.out.1;have hpl6:ps.length<=6:=by have:=HPL.out;omega
 cases q
 ·go_wp2;have k4:Mw [A] w5 (((w5.setCell ⟨A,0,none⟩ (.slice a0 s.Parts.length c0)).setCell ⟨A,1,none⟩ (.slice a1 s.Channels.length c1)).setCell ⟨A,2,none⟩ (.slice a2 s.Slots.length c2)):=(((Mw.refl [A] w5).set (p:=⟨A,0,none⟩) (by simp) _).set (p:=⟨A,1,none⟩) (by simp) _).set (p:=⟨A,2,none⟩) (by simp) _
  exact bodyPost_ret (v:=.tuple #[.agg #[.slice a0 s.Parts.length c0,.slice a1 s.Channels.length c1,.slice a2 s.Slots.length c2],.slice al ps.length cl]) (by simp[results,Tryz.results5,go_sem,d0,d1,d2]) rfl ⟨_,_,s,ps,rfl,(HV5.out.mw k4 (by simp;omega)).rv,((HO5.out.rsb.mono (L':=A+1) (by omega)).mw k4 (by simp)).rs,HD.out,⟨by omega,HPB.out⟩,k4.ext HM5.out (by simp;omega)⟩
 ·go_wp2_with (at_builtin;go_loud (refine zBi (u:=w5) (α:=List Order) rfl _ _ 28 rfl 52 Tryz.underlying28 zFf (v:=.slice al ps.length cl) (ys:=[[⟨0,0,0⟩]]) rfl HO5.out (((zr w5).alloc _).alloc _) (by omega) rfl rfl Row.lit22 (by simp) ((Bk.own (Bk.new w5 [.int .i64 0,.int .i64 0,.int .i64 0] 61) (Nat.le_refl _)).ext ((zr _).alloc _)) (by omega) ?_;intro v6 w6 hO6 hg6;obtain⟨p6,n6,q6,rfl⟩:=hO6.sh;have HO6:=zh hO6;have hwn:=HO5.out.own;have HG6:Hid (Mw (Value.slice al ps.length cl).ownBlock.toList w5 w6):=zh ((Mw.ofExt (((zr w5).alloc _).alloc _)).tr (Mw.ofGrown hg6 (fun k hk=>by simp[hk])));have hG:Hid (∀ k∈(Value.slice al ps.length cl).ownBlock.toList,u3.heap.size<=k):=zh (fun k hk=>hwn k (by simpa using hk));clear hO6 hg6 hwn x0 x1 x2 xl d0 d1 d2 df dl;have KX6:=zh (HG6.out.bk KX5.out (fun hm=>by have:=hG.out X hm;omega));have KA6:=zh (HG6.out.bk KA5.out (fun hm=>by have:=hG.out A hm;omega));obtain⟨x0,x1,x2⟩:=Bk.k3 KX6.out;have xl:=KX6.out.lt;obtain⟨d0,d1,d2⟩:=Bk.k3 KA6.out;have df:=KA6.out.fz;have dl:=KA6.out.lt))
  have k4:Mw [A] w6 (((w6.setCell ⟨A,0,none⟩ (.slice a0 s.Parts.length c0)).setCell ⟨A,1,none⟩ (.slice a1 s.Channels.length c1)).setCell ⟨A,2,none⟩ (.slice a2 s.Slots.length c2)):=(((Mw.refl [A] w6).set (p:=⟨A,0,none⟩) (by simp) _).set (p:=⟨A,1,none⟩) (by simp) _).set (p:=⟨A,2,none⟩) (by simp) _
  have hU6:Mw (b::A::(Value.slice al ps.length cl).ownBlock.toList) u3 (((w6.setCell ⟨A,0,none⟩ (.slice a0 s.Parts.length c0)).setCell ⟨A,1,none⟩ (.slice a1 s.Channels.length c1)).setCell ⟨A,2,none⟩ (.slice a2 s.Slots.length c2)) :=
   ((HU5.out.wide (fun y hy=>by rw[List.mem_singleton] at hy;simp[hy])).tr (HG6.out.wide (fun y hy=>by simp[hy]))).tr (k4.wide (fun y hy=>by rw[List.mem_singleton] at hy;simp[hy]))
  exact bodyPost_ret (v:=.tuple #[.agg #[.slice a0 s.Parts.length c0,.slice a1 s.Channels.length c1,.slice a2 s.Slots.length c2],.slice p6 n6 q6]) (by simp[results,Tryz.results5,go_sem,d0,d1,d2]) rfl ⟨_,_,s,ps ++ [[⟨0,0,0⟩]],rfl,HV.out.two hU6 (fun y hy=>by
   rcases List.mem_cons.1 hy with h|h
   ·exact .inl (by omega)
   ·rcases List.mem_cons.1 h with h|h
    ·exact .inl (by omega)
    ·exact .inr (hG.out y h)),((HO6.out.rsb.mono (L':=A+1) (by omega)).mw k4 (by simp)).rs,HD.out,⟨by simp;omega,fun p hp=>(List.mem_append.1 hp).elim (HPB.out p) (fun h=>by rw[List.mem_singleton] at h;subst h;simp)⟩,(k4.ext (HG6.out.ext HM5.out (fun y hy=>by have:=hG.out y hy;omega)) (by simp;omega))⟩
set_option maxHeartbeats 8000000
theorem zGo(v:Value)(xs:List By)(w:World)(h:Rs w v xs) :
  Calls Tryz.prog 3 #[v] w fun e w'=>e = .returned (.bool true)/\Ext w w':=by
 obtain⟨a,c,rfl,hl⟩:=h.form;have H:=zh h;clear h;by_cases hx:xs.length<=1048576
 case neg =>
  have hx2:1048576 < xs.length:=by omega
  clear hx;go_enter Tryz.func3,Tryz.ntmps3;go_wp2;go_ret;exact⟨rfl,zr w⟩
 go_enter Tryz.func3,Tryz.ntmps3;go_upto_region 4 with (go_at_call 5;refine(zDv _ _ _ H.out).mono ?_;rintro e w1 ⟨v1,vl,s,ps,rfl,hv,hvl,hd,⟨hpl,hpb⟩,he⟩;obtain⟨p0,q0,p1,q1,p2,q2,rfl,s0,-,s1,-,s2,-⟩:=hv.openSetup;obtain⟨al,cl,rfl,-⟩:=hvl.form;have HV:=zh hv;have HL:=zh hvl;have HD:=zh hd;have HPB:=zh hpb;have HE:=zh he;clear hv hvl hd hpb he)
 obtain⟨A,hA⟩:∃ A,A=w1.heap.size:=⟨_,rfl⟩;refine zA2 (fun u=>Ext w1 u/\Bk u A [.slice p0 s.Parts.length q0,.slice p1 s.Channels.length q1,.slice p2 s.Slots.length q2] 27) ⟨(zr _).alloc _,by rw[hA];exact Bk.new _ _ _⟩ ?_
 rw[<- hA];rintro W1 ⟨e1,kA⟩;clear hA H;replace HV:=zh (HV.out.ext e1);replace HL:=zh (HL.out.ext e1);replace s0:=zh (s0.out.ext e1);replace s1:=zh (s1.out.ext e1);replace s2:=zh (s2.out.ext e1);replace HE:=zh (HE.out.tr e1);have KA:=zh kA;clear e1 kA;have E:=zh (zr W1);have hp6:s.Parts.length<=6:=HD.out.1;have hc9:s.Channels.length<=9:=HD.out.2.2.1;obtain⟨y,hy⟩:∃ y,zBp s ps=y:=⟨_,rfl⟩;have CI:=zh (zFm _ _ s ps _ HV.out HL.out);have CS:=zh (fun(u:World) (h:Rv u (.agg #[.slice p0 s.Parts.length q0,.slice p1 s.Channels.length q1,.slice p2 s.Slots.length q2]) s) (hl:Rs u (.slice al ps.length cl) ps)=>zFw _ _ s ps u h hl)
 rw[hy] at CI CS;have HY:=zh hy;clear hy;obtain⟨fa0,fa1,fa2,faL⟩:=Bk.j3 (KA.out.ext E.out);go_upto_region 5 with (go_at_call 6;refine CI.out.mono ?_;rintro e w2 ⟨v2,rfl,ho,he⟩;obtain⟨b0,d0,b1,d1,b2,d2,b3,d3,b4,d4,b5,d5,rfl,y6,t0,-,t1,-,t2,-,t3,-,t4,-,t5,-⟩:=ho.rv.openMachine;have HR:=zh ho.rv;replace E:=zh (E.out.tr he);clear ho he)
 obtain⟨B,hB⟩:∃ B,B=w2.heap.size:=⟨_,rfl⟩;refine zA2 (fun u=>Ext w2 u/\Bk u B [.slice b0 y.Plan.Parts.length d0,.slice b1 y.Plan.Channels.length d1,.slice b2 y.Plan.Slots.length d2,.slice b3 y.Programs.length d3,.slice b4 y.Cores.length d4,.slice b5 y.Holds.length d5,.int .i64 y.Tick] 34) ⟨(zr _).alloc _,by rw[hB];exact Bk.new _ _ _⟩ ?_
 rw[<- hB];rintro W3 ⟨eb,kb⟩;clear hB;have EB:=zh (E.out.tr eb);replace HV:=zh (HV.out.ext EB.out);replace HL:=zh (HL.out.ext EB.out);replace KA:=zh (KA.out.ext EB.out);replace s0:=zh (s0.out.ext EB.out);replace s1:=zh (s1.out.ext EB.out);replace s2:=zh (s2.out.ext EB.out);replace HR:=zh (HR.out.ext eb);replace t0:=zh (t0.out.ext eb);replace t1:=zh (t1.out.ext eb);replace t2:=zh (t2.out.ext eb);replace t3:=zh (t3.out.ext eb);replace t4:=zh (t4.out.ext eb);replace t5:=zh (t5.out.ext eb);replace HE:=zh (HE.out.tr EB.out);have KB:=zh kb;clear eb kb EB E;have E:=zh (zr W3);clear fa0 fa1 fa2 faL;obtain⟨ga0,ga1,ga2,gaL⟩:=Bk.j3 (KA.out.ext E.out);obtain⟨gb0,gb1,gb2,gb3,gb4,gb5,gb6,gbL⟩:=Bk.j7 (KB.out.ext E.out)
 go_region_held3 (fun u=>u.cell? ⟨A,0,none⟩=some (.slice p0 s.Parts.length q0)/\u.cell? ⟨A,1,none⟩=some (.slice p1 s.Channels.length q1)/\u.cell? ⟨A,2,none⟩=some (.slice p2 s.Slots.length q2)/\u.cell? ⟨B,0,none⟩=some (.slice b0 y.Plan.Parts.length d0)/\u.cell? ⟨B,1,none⟩=some (.slice b1 y.Plan.Channels.length d1)/\u.cell? ⟨B,2,none⟩=some (.slice b2 y.Plan.Slots.length d2)/\u.cell? ⟨B,3,none⟩=some (.slice b3 y.Programs.length d3)/\u.cell? ⟨B,4,none⟩=some (.slice b4 y.Cores.length d4)/\u.cell? ⟨B,5,none⟩=some (.slice b5 y.Holds.length d5)/\u.cell? ⟨B,6,none⟩=some (.int .i64 y.Tick))
  (go_keep)
  (first
   | (go_at_call 8;refine(CS.out _ (HV.out.ext E.out.drew) (HL.out.ext E.out.drew)).mono ?_;rintro e wa ⟨v4,rfl,ho,he⟩;replace E:=zh (E.out.drew.tr he);have HR4:=zh ho.rv;clear ho;obtain⟨r0a0,r0a1,r0a2,r0aL⟩:=Bk.j3 (KA.out.ext E.out);obtain⟨r0b0,r0b1,r0b2,r0b3,r0b4,r0b5,r0b6,r0bL⟩:=Bk.j7 (KB.out.ext E.out);clear he)
   | (go_at_call 7;refine(law_sameMachine _ _ y _ (HR.out.ext E.out) HR4.out).mono ?_;rintro e wb ⟨rfl,he⟩;replace E:=zh (E.out.tr he);obtain⟨r1a0,r1a1,r1a2,r1aL⟩:=Bk.j3 (KA.out.ext E.out);obtain⟨r1b0,r1b1,r1b2,r1b3,r1b4,r1b5,r1b6,r1bL⟩:=Bk.j7 (KB.out.ext E.out);clear he;clear r0a0 r0a1 r0a2 r0b0 r0b1 r0b2 r0b3 r0b4 r0b5 r0b6 r0aL r0bL))
 clear ga0 ga1 ga2 gb0 gb1 gb2 gb3 gb4 gb5 gb6 gaL gbL;clear CI CS;by_cases hy0:0 < y.Plan.Slots.length
 case neg =>
  have hb0:((y.Plan.Slots.length:Int) == 0)=true:=by rw[show y.Plan.Slots.length=0 by omega];rfl
  have haK:=KB.out.ext E.out;have ha2:=haK.cell (j:=2) rfl;have haL:=haK.lt;clear haK;go_wp2_with (go_at_call 9;refine(law_alive _).mono ?_;rintro e w9 ⟨rfl,he⟩;replace E:=zh (E.out.tr he);clear he)
  go_ret;exact⟨rfl,HE.out.tr E.out⟩
 have hb0:((y.Plan.Slots.length:Int) == 0)=false:=by rw[beq_eq_false_iff_ne];omega
 have HMK:Hid (M.PG s ps/\y=zAl s ps):=zh (by
  cases hp:zGz s ps with
  | false=>rw[<- HY.out,zBd hp] at hy0;exact absurd hy0 (Nat.lt_irrefl _)
  | true=>exact⟨zC4.1 hp,by rw[<- HY.out,zCa hp]⟩)
 have HYV:Hid (zGa y=true):=zh (by rw[HMK.out.2];exact zDz.2 (zFc HMK.out.1))
 have HHO:Hid (∀ (k:Nat) (h:Hold),y.Holds[k]? = some h->h.Lst.length=0):=zh (fun k h hk=>by
  rw[HMK.out.2] at hk
  have:=List.mem_of_getElem? hk
  rw[List.eq_of_mem_replicate this];rfl)
 have HCO:Hid (∀ (k:Nat) (c:Core) (q:Part),y.Cores[k]? = some c->s.Parts[k]? = some q->c=zAf q.Cells):=zh (fun k c q hk hq=>by
  rw[HMK.out.2] at hk;replace hk:(s.Parts.map (fun p=>zAf p.Cells))[k]? = some c:=hk
  rw[List.getElem?_map,hq] at hk;exact(Option.some.inj hk).symm)
 have hyt:(y.Tick == 0)=true:=by rw[HMK.out.2];rfl
 have hnc:y.Cores.length<=s.Parts.length:=by rw[HMK.out.2];simp[zAl]
 have hyc:((y.Cores.length:Int) == (s.Parts.length:Int))=true:=by rw[HMK.out.2];simp[zAl]
 have hyh:y.Holds.length<=9:=by rw[HMK.out.2];simp only[zAl,List.length_replicate];exact hc9
 clear HY HMK;have haK:=KB.out.ext E.out;have ha2:=haK.cell (j:=2) rfl;have ha5:=haK.cell (j:=5) rfl;have haL:=haK.lt;clear haK;go_wp2;go_loopw [6] (fun i wr => ∃ k:Nat,k<=y.Holds.length/\i = .int .i64 k/\Ext W3 wr) (fun i _=>y.Holds.length - (intOf i).toNat)
 case atStart=>exact⟨0,Nat.zero_le _,rfl,E.out⟩
 case round =>
  obtain⟨k,hk,rfl,er⟩:=hrel;replace E:=zh er;clear er ha2 ha5 haL;by_cases hkt:k < y.Holds.length
  ·obtain⟨eb1,eo1,er1,ep1,ec1,rfl,hB1,hX1,hF10,hS1,hL1,hV1⟩:=t5.out.atHold k hkt;have gL1:=zl hB1 E.out.sz;have gF10:=(zA0 E.out hB1).trans hF10;have hne:((er1.Lst.length:Int) != 0)=false:=by rw[HHO.out k er1 hX1.out];rfl
   clear hX1;have iaK:=KB.out.ext E.out;have ia5:=iaK.cell (j:=5) rfl;have iaL:=iaK.lt;clear iaK;go_wp2;exact⟨⟨k+1,by omega,by go_num,E.out⟩,by simp[intOf];omega⟩
  obtain rfl:k=y.Holds.length:=by omega
  have jaK:=KB.out.ext E.out;have ja4:=jaK.cell (j:=4) rfl;have ja5:=jaK.cell (j:=5) rfl;have jaL:=jaK.lt;clear jaK;go_wp2;go_loopw [7] (fun i wr => ∃ k:Nat,k<=y.Cores.length/\i = .int .i64 k/\Ext W3 wr) (fun i _=>y.Cores.length - (intOf i).toNat)
  case atStart=>exact⟨0,Nat.zero_le _,rfl,E.out⟩
  case round =>
   obtain⟨k,hk,rfl,er⟩:=hrel;replace E:=zh er;clear er ja4 ja5 jaL;by_cases hkt:k < y.Cores.length
   ·have hk2:k < s.Parts.length:=by omega
    obtain⟨eb2,eo2,er2,ep2,ec2,rfl,hB2,hX2,hF20,hF21,hF22,hR2,hS2,hL2,hV2⟩:=t4.out.atCore k hkt;have gL2:=zl hB2 E.out.sz;have gF20:=(zA0 E.out hB2).trans hF20;have gF21:=(zA0 E.out hB2).trans hF21;have gF22:=(zA0 E.out hB2).trans hF22;obtain⟨eb3,eo3,er3,ep3,ec3,rfl,hB3,hX3,hF30,hF31,hR3,hS3,hL3,hV3⟩:=s0.out.atPart k hk2;have gL3:=zl hB3 E.out.sz;have gF30:=(zA0 E.out hB3).trans hF30;have gF31:=(zA0 E.out hB3).trans hF31;have HC2:Hid (er2=zAf er3.Cells):=zh (HCO.out k er2 er3 hX2.out hX3.out);have hkti:(k:Int) < (y.Cores.length:Int):=by omega
    have hk2i:(k:Int) < (s.Parts.length:Int):=by omega
    clear hX2 hX3;have laK:=KA.out.ext E.out;have la0:=laK.cell (j:=0) rfl;have laL:=laK.lt;clear laK;have lbK:=KB.out.ext E.out;have lb4:=lbK.cell (j:=4) rfl;have lbL:=lbK.lt;clear lbK;go_wp2
    go_region_held3 (fun u=>u.cell? ⟨A,0,none⟩=some (.slice (some ⟨eb3,eo3,none⟩) s.Parts.length q0)/\u.cell? ⟨B,4,none⟩=some (.slice (some ⟨eb2,eo2,none⟩) y.Cores.length d4)/\u.cell? ⟨eb2,eo2+k*3,none⟩=some (.slice ep2 er2.Cells.length ec2)/\u.cell? ⟨eb2,eo2+k*3+1,none⟩=some (.int .i64 er2.At)/\u.cell? ⟨eb2,eo2+k*3+2,none⟩=some (.bool er2.Stopped)/\u.cell? ⟨eb3,eo3+k*2+1,none⟩=some (.int .i64 er3.Cells))
     (go_keep)
     (first
      | (go_at_call 11;refine(zEr er3.Cells _).mono ?_;rintro e wa ⟨v5,rfl,ho,he⟩;replace E:=zh (E.out.drew.tr he);have HO5:=zh ho.rv;rw[<- HC2.out] at HO5;clear ho;have r0aK:=KA.out.ext E.out;have r0a0:=r0aK.cell (j:=0) rfl;have r0aL:=r0aK.lt;clear r0aK;have r0bK:=KB.out.ext E.out;have r0b4:=r0bK.cell (j:=4) rfl;have r0bL:=r0bK.lt;clear r0bK;have r0x0:=(zA0 E.out hB2).trans hF20;have r0x1:=(zA0 E.out hB2).trans hF21;have r0x2:=(zA0 E.out hB2).trans hF22;have r0x3:=(zA0 E.out hB3).trans hF31;clear he)
      | (go_at_call 10;refine(law_sameCore _ _ er2 _ (hV2.out.ext E.out) HO5.out).mono ?_;rintro e wb ⟨rfl,he⟩;replace E:=zh (E.out.tr he);have r1aK:=KA.out.ext E.out;have r1a0:=r1aK.cell (j:=0) rfl;have r1aL:=r1aK.lt;clear r1aK;have r1bK:=KB.out.ext E.out;have r1b4:=r1bK.cell (j:=4) rfl;have r1bL:=r1bK.lt;clear r1bK;have r1x0:=(zA0 E.out hB2).trans hF20;have r1x1:=(zA0 E.out hB2).trans hF21;have r1x2:=(zA0 E.out hB2).trans hF22;have r1x3:=(zA0 E.out hB3).trans hF31;clear he;clear r0a0 r0b4 r0aL r0bL r0x0 r0x1 r0x2 r0x3))
    go_wp2;exact⟨⟨k+1,by omega,by go_num,E.out⟩,by simp[intOf];omega⟩
   obtain rfl:k=y.Cores.length:=by omega
   obtain⟨ma0,ma1,ma2,maL⟩:=Bk.j3 (KA.out.ext E.out);obtain⟨mb0,mb1,mb2,mb3,mb4,mb5,mb6,mbL⟩:=Bk.j7 (KB.out.ext E.out);go_wp2_with (go_at_call 12;refine(zB8 _ y _ (HR.out.ext E.out)).mono ?_;rintro e wz ⟨rfl,he⟩;rw[HYV.out];replace E:=zh (E.out.tr he);clear he;obtain⟨na0,na1,na2,naL⟩:=Bk.j3 (KA.out.ext E.out);obtain⟨nb0,nb1,nb2,nb3,nb4,nb5,nb6,nbL⟩:=Bk.j7 (KB.out.ext E.out))
   go_ret;exact⟨rfl,HE.out.tr E.out⟩
end Sk
