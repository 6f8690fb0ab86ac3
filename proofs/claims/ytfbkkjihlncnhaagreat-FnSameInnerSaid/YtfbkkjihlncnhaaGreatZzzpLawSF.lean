/- Contracts of functions of the given program. -/
import Derived.Test.YtfbkkjihlncnhaaGreatZzznqDr
import Derived.Test.YtfbkkjihlncnhaaGreatZzzcSfS
import Derived.Test.YtfbkkjihlncnhaaGreatZzzmWsM
namespace Sk
open Go Go.Proofs Go.RowKit
set_option maxHeartbeats 4000000
set_option maxRecDepth 100000
set_option linter.unusedVariables false
set_option linter.unusedSimpArgs false
theorem lawSameFor (v:Value) (xs:List By) (w:World) (h:Rs w v xs) :
  Calls Tryz.prog 13 #[v] w fun e w'=>e = .returned (.bool true)∧Ext w w':=by
 obtain⟨a,c,rfl,hl⟩:=h.form;have H:=zh h;clear h;by_cases hx:xs.length≤1048576
 case neg =>
  have hx2:1048576 < xs.length:=by omega
  clear hx;go_enter Tryz.func13,Tryz.ntmps13;go_wp2;go_ret;exact⟨rfl,Ext.refl w⟩
 go_enter Tryz.func13,Tryz.ntmps13;go_upto_region 4 with (go_at_call 28;refine(spec_DrawSameFor _ _ _ H.out).mono ?_;rintro e w1 ⟨v1,v2,x,y,n,rfl,hv,hw,htt,hn,he⟩;obtain⟨p0,q0,p1,q1,p2,q2,p3,q3,p4,q4,p5,q5,rfl,-⟩:=hv.openMc;obtain⟨b0,d0,b1,d1,b2,d2,b3,d3,b4,d4,b5,d5,rfl,-⟩:=hw.openMc;have HV:=zh hv.rv;have HW:=zh hw.rv;have HTT:=zh htt;have HE:=zh he;clear hv hw htt he)
 obtain⟨A,hA⟩:∃ A,A=w1.heap.size:=⟨_,rfl⟩;obtain⟨B,hB⟩:∃ B,B=w1.heap.size+1:=⟨_,rfl⟩;refine abs_world (fun u=>Ext w1 u∧Bk u A [.slice p0 x.Plan.Parts.length q0,.slice p1 x.Plan.Channels.length q1,.slice p2 x.Plan.Slots.length q2,.slice p3 x.Programs.length q3,.slice p4 x.Cores.length q4,.slice p5 x.Holds.length q5,.int .i64 x.Tick] 32∧Bk u B [.slice b0 y.Plan.Parts.length d0,.slice b1 y.Plan.Channels.length d1,.slice b2 y.Plan.Slots.length d2,.slice b3 y.Programs.length d3,.slice b4 y.Cores.length d4,.slice b5 y.Holds.length d5,.int .i64 y.Tick] 32) ⟨((Ext.refl _).alloc _).alloc _,by rw[hA];exact(Bk.new _ _ _).ext ((Ext.refl _).alloc _),by rw[hB];exact Bk.new1 _ _ _ _⟩ ?_
 rw[← hB,← hA];rintro W1 ⟨e1,kA,kB⟩;have hAB:A≠B:=by omega
 have hAw:w.heap.size≤A:=by have:=HE.out.sz;omega
 have hBw:w.heap.size≤B:=by have:=HE.out.sz;omega
 have HX:Hid (Rvx [A,B] W1 (.agg #[.slice p0 x.Plan.Parts.length q0,.slice p1 x.Plan.Channels.length q1,.slice p2 x.Plan.Slots.length q2,.slice p3 x.Programs.length q3,.slice p4 x.Cores.length q4,.slice p5 x.Holds.length q5,.int .i64 x.Tick]) x):=zh ((Rvx.of HV.out (by simp only[List.mem_cons,List.not_mem_nil,or_false];omega)).ext e1)
 have HXB:Hid (Rvx [A,B] W1 (.agg #[.slice b0 y.Plan.Parts.length d0,.slice b1 y.Plan.Channels.length d1,.slice b2 y.Plan.Slots.length d2,.slice b3 y.Programs.length d3,.slice b4 y.Cores.length d4,.slice b5 y.Holds.length d5,.int .i64 y.Tick]) y):=zh ((Rvx.of HW.out (by simp only[List.mem_cons,List.not_mem_nil,or_false];omega)).ext e1)
 clear hA hB H;replace HV:=zh (HV.out.ext e1);replace HW:=zh (HW.out.ext e1);replace HE:=zh (HE.out.tr e1);have KA:=zh kA;have KB:=zh kB;clear e1 kA kB;have E:=zh (Ext.refl W1);have hnr:rng n:=rng_sm (by have:=hn.1;omega) (by have:=hn.2;omega)
 have hxc:x.Cores.length≤200000:=by
  have h1:=M.tot_eq x;have h2:=tot_len (xs:=x.Cores)
  have:=HTT.out
  omega
 obtain⟨ok,hok⟩:∃ ok,M.sameFor x y n=ok:=⟨_,rfl⟩;have C1:=zh (fun(v v2:Value) (u:World) (h:Rv u v x) (k:Rv u v2 y)=>impl_SameFor v v2 x y n u h k)
 have C2:=zh (fun(v v2:Value) (u:World) (h:Rv u v x) (k:Rv u v2 y)=>spec_SameFor v v2 x y n u h k)
 have C3:=zh (fun(v v2:Value) (u:World) (h:Rv u v y) (k:Rv u v2 x)=>impl_SameFor v v2 y x n u h k)
 rw[M.sameFor_comm y x n] at C3;rw[hok] at C1 C2 C3;have faK:=KA.out.ext E.out;obtain⟨fa0,fa1,fa2,fa3,fa4,fa5,fa6⟩:=Bk.k7 faK;have faL:=faK.lt;clear faK;have fbK:=KB.out.ext E.out;obtain⟨fb0,fb1,fb2,fb3,fb4,fb5,fb6⟩:=Bk.k7 fbK;have fbL:=fbK.lt;clear fbK;cases ok
 ·go_wp2_with (first
   | (go_at_call 29;refine(C1.out _ _ _ (HV.out.ext E.out) (HW.out.ext E.out)).mono ?_;rintro e wz ⟨rfl,he⟩;replace E:=zh (E.out.tr he);clear he C1;have raK:=KA.out.ext E.out;obtain⟨ra0,ra1,ra2,ra3,ra4,ra5,ra6⟩:=Bk.k7 raK;have raL:=raK.lt;clear raK;have rbK:=KB.out.ext E.out;obtain⟨rb0,rb1,rb2,rb3,rb4,rb5,rb6⟩:=Bk.k7 rbK;have rbL:=rbK.lt;clear rbK)
   | (go_at_call 30;refine(C2.out _ _ _ (HV.out.ext E.out) (HW.out.ext E.out)).mono ?_;rintro e wz ⟨rfl,he⟩;replace E:=zh (E.out.tr he);clear he C2;have raK:=KA.out.ext E.out;obtain⟨ra0,ra1,ra2,ra3,ra4,ra5,ra6⟩:=Bk.k7 raK;have raL:=raK.lt;clear raK;have rbK:=KB.out.ext E.out;obtain⟨rb0,rb1,rb2,rb3,rb4,rb5,rb6⟩:=Bk.k7 rbK;have rbL:=rbK.lt;clear rbK)
   | (go_at_call 29;refine(C3.out _ _ _ (HW.out.ext E.out) (HV.out.ext E.out)).mono ?_;rintro e wz ⟨rfl,he⟩;replace E:=zh (E.out.tr he);clear he C3;have raK:=KA.out.ext E.out;obtain⟨ra0,ra1,ra2,ra3,ra4,ra5,ra6⟩:=Bk.k7 raK;have raL:=raK.lt;clear raK;have rbK:=KB.out.ext E.out;obtain⟨rb0,rb1,rb2,rb3,rb4,rb5,rb6⟩:=Bk.k7 rbK;have rbL:=rbK.lt;clear rbK)
   | (go_at_call 19;refine(law_alive _).mono ?_;rintro e w9 ⟨rfl,he⟩;replace E:=zh (E.out.tr he);clear he))
  go_ret;exact⟨rfl,HE.out.tr E.out⟩
 obtain⟨N,hN,sf⟩:∃ N:Nat,n=N∧M.SF x y N:=by
  obtain⟨N,e,h⟩:=Bo.iff.1 hok;exact⟨N,e,h⟩
 subst hN;have SFH:=zh sf;clear hok sf;go_upto_region 9 with (first
   | (go_at_call 29;refine(C1.out _ _ _ (HV.out.ext E.out) (HW.out.ext E.out)).mono ?_;rintro e wz ⟨rfl,he⟩;replace E:=zh (E.out.tr he);clear he C1;have raK:=KA.out.ext E.out;obtain⟨ra0,ra1,ra2,ra3,ra4,ra5,ra6⟩:=Bk.k7 raK;have raL:=raK.lt;clear raK;have rbK:=KB.out.ext E.out;obtain⟨rb0,rb1,rb2,rb3,rb4,rb5,rb6⟩:=Bk.k7 rbK;have rbL:=rbK.lt;clear rbK)
   | (go_at_call 30;refine(C2.out _ _ _ (HV.out.ext E.out) (HW.out.ext E.out)).mono ?_;rintro e wz ⟨rfl,he⟩;replace E:=zh (E.out.tr he);clear he C2;have raK:=KA.out.ext E.out;obtain⟨ra0,ra1,ra2,ra3,ra4,ra5,ra6⟩:=Bk.k7 raK;have raL:=raK.lt;clear raK;have rbK:=KB.out.ext E.out;obtain⟨rb0,rb1,rb2,rb3,rb4,rb5,rb6⟩:=Bk.k7 rbK;have rbL:=rbK.lt;clear rbK)
   | (go_at_call 29;refine(C3.out _ _ _ (HW.out.ext E.out) (HV.out.ext E.out)).mono ?_;rintro e wz ⟨rfl,he⟩;replace E:=zh (E.out.tr he);clear he C3;have raK:=KA.out.ext E.out;obtain⟨ra0,ra1,ra2,ra3,ra4,ra5,ra6⟩:=Bk.k7 raK;have raL:=raK.lt;clear raK;have rbK:=KB.out.ext E.out;obtain⟨rb0,rb1,rb2,rb3,rb4,rb5,rb6⟩:=Bk.k7 rbK;have rbL:=rbK.lt;clear rbK))
 have BB0:Hid (M.BB 32 w A B x y _):=zh (M.BB.call ⟨HE.out,⟨_,_,_,_,_,_,_,_,_,_,_,_,KA.out,HX.out⟩,⟨_,_,_,_,_,_,_,_,_,_,_,_,KB.out,HXB.out⟩,hAw,hBw,hAB⟩ E.out);have HSB:Hid (M.SBB 32 w A B N _):=zh ⟨_,_,SFH.out,BB0.out⟩;clear BB0 KA KB HX HXB HV HW HE SFH hxc hn HTT;obtain⟨W2,hW2⟩:∃ W2,W2=w:=⟨_,rfl⟩;go_wp2;go_loopw [7] (fun i wr => ∃ k:Nat,k≤60∧i = .int .i64 k∧M.SBB 32 w A B N wr) (fun i _=>60 - (intOf i).toNat)
 case atStart=>exact⟨0,Nat.zero_le _,rfl,HSB.out⟩
 case round =>
  clear HSB;obtain⟨k,hk,rfl,x',y',sf,bb⟩:=hrel;by_cases hkt:k < 60
  case neg =>
   have EE:=zh bb.ext;clear bb sf;go_wp2;go_ret;exact⟨rfl,EE.out⟩
  obtain⟨xe,⟨p0,q0,p1,q1,p2,q2,p3,q3,p4,q4,p5,q5,kA,hx⟩,⟨b0,d0,b1,d1,b2,d2,b3,d3,b4,d4,b5,d5,kB,hy⟩,-,-,-⟩:=id bb;have BBr:=zh bb;have HV:=zh hx.rv;have HW:=zh hy.rv;have KA:=zh kA;have KB:=zh kB;have E:=zh (Ext.refl wr);have SFr:=zh sf;have D1:=zh (fun(v v2:Value) (u:World) (h:Rv u v x') (k:Rv u v2 y')=>impl_SameFor v v2 x' y' N u h k)
  have D2:=zh (fun(v v2:Value) (u:World) (h:Rv u v x') (k:Rv u v2 y')=>impl_SameView v v2 x' y' N u h k)
  rw[M.sameFor_iff.2 sf] at D1;rw[sf.sameView] at D2;clear bb sf hx hy kA kB xe;have faK:=KA.out.ext E.out;obtain⟨fa0,fa1,fa2,fa3,fa4,fa5,fa6⟩:=Bk.k7 faK;have faL:=faK.lt;clear faK;have fbK:=KB.out.ext E.out;obtain⟨fb0,fb1,fb2,fb3,fb4,fb5,fb6⟩:=Bk.k7 fbK;have fbL:=fbK.lt;clear fbK
  go_upto_if 53 with (first
   | (go_at_call 29;refine(D1.out _ _ _ (HV.out.ext E.out) (HW.out.ext E.out)).mono ?_;rintro e wz ⟨rfl,he⟩;replace E:=zh (E.out.tr he);clear he D1;have raK:=KA.out.ext E.out;obtain⟨ra0,ra1,ra2,ra3,ra4,ra5,ra6⟩:=Bk.k7 raK;have raL:=raK.lt;clear raK;have rbK:=KB.out.ext E.out;obtain⟨rb0,rb1,rb2,rb3,rb4,rb5,rb6⟩:=Bk.k7 rbK;have rbL:=rbK.lt;clear rbK)
   | (go_at_call 33;refine(D2.out _ _ _ (HV.out.ext E.out) (HW.out.ext E.out)).mono ?_;rintro e wz ⟨rfl,he⟩;replace E:=zh (E.out.tr he);clear he D2;have raK:=KA.out.ext E.out;obtain⟨ra0,ra1,ra2,ra3,ra4,ra5,ra6⟩:=Bk.k7 raK;have raL:=raK.lt;clear raK;have rbK:=KB.out.ext E.out;obtain⟨rb0,rb1,rb2,rb3,rb4,rb5,rb6⟩:=Bk.k7 rbK;have rbL:=rbK.lt;clear rbK))
  by_cases ht:x'.Tick < 100000
  case neg =>
   have htb:decide (x'.Tick < 100000)=false:=decide_eq_false ht;clear ht;go_wp2;exact⟨⟨k+1,by omega,by go_num,⟨x',y',SFr.out,BBr.out.call E.out⟩⟩,by simp[intOf];omega⟩
  case pos =>
   have htb:decide (x'.Tick < 100000)=true:=decide_eq_true ht;have sf2:=SFr.out.tickM ht;have T1:=zh (fun(v:Value) (u:World) (h:Rv u v x')=>impl_TickMachine v x' u h)
   have T2:=zh (fun(v:Value) (u:World) (h:Rv u v y')=>impl_TickMachine v y' u h)
   obtain⟨x2,hx2⟩:∃ x2,M.tickM x'=x2:=⟨_,rfl⟩;obtain⟨y2,hy2⟩:∃ y2,M.tickM y'=y2:=⟨_,rfl⟩;rw[hx2] at sf2 T1;rw[hy2] at sf2 T2;have SF2:=zh sf2;clear sf2 hx2 hy2 ht SFr;go_upto_region 16 with (go_at_call 49;refine(T1.out _ _ (HV.out.ext E.out)).mono ?_;rintro e w5 ⟨v5,rfl,ho,he⟩;obtain⟨t0,u0,t1,u1,t2,u2,t3,u3,t4,u4,t5,u5,rfl,-⟩:=ho.rv.openMachine;have BBn:=zh ((BBr.out.call E.out).putA he ho);replace E:=zh (E.out.tr he);clear he ho;have saK:=KA.out.ext E.out;obtain⟨sa0,sa1,sa2,sa3,sa4,sa5,sa6⟩:=Bk.k7 saK;have szf:=(KA.out.ext E.out).fz;have saL:=saK.lt;clear saK)
   refine abs_world (M.BB 32 w A B x2 y') BBn.out ?_;clear BBn E KA KB HV HW BBr;rintro W6 bb;obtain⟨xe,⟨p0,q0,p1,q1,p2,q2,p3,q3,p4,q4,p5,q5,kA,hx⟩,⟨b0,d0,b1,d1,b2,d2,b3,d3,b4,d4,b5,d5,kB,hy⟩,-,-,-⟩:=id bb;have BBr:=zh bb;have HV:=zh hx.rv;have HW:=zh hy.rv;have KA:=zh kA;have KB:=zh kB;have E:=zh (Ext.refl W6);have faK:=KA.out.ext E.out;obtain⟨fa0,fa1,fa2,fa3,fa4,fa5,fa6⟩:=Bk.k7 faK;have faL:=faK.lt;clear faK;have fbK:=KB.out.ext E.out;obtain⟨fb0,fb1,fb2,fb3,fb4,fb5,fb6⟩:=Bk.k7 fbK;have fbL:=fbK.lt;clear fbK;go_wp2_with (go_at_call 49;refine(T2.out _ _ (HW.out.ext E.out)).mono ?_;rintro e w5 ⟨v5,rfl,ho,he⟩;obtain⟨t0,u0,t1,u1,t2,u2,t3,u3,t4,u4,t5,u5,rfl,-⟩:=ho.rv.openMachine;have BBn:=zh ((BBr.out.call E.out).putB he ho);replace E:=zh (E.out.tr he);clear he ho;have saK:=KB.out.ext E.out;obtain⟨sa0,sa1,sa2,sa3,sa4,sa5,sa6⟩:=Bk.k7 saK;have szf:=(KB.out.ext E.out).fz;have saL:=saK.lt;clear saK)
   exact⟨⟨k+1,by omega,by go_num,⟨x2,y2,SF2.out,BBn.out⟩⟩,by simp[intOf];omega⟩
theorem lawSameInner (v:Value) (xs:List By) (w:World) (h:Rs w v xs) :
  Calls Tryz.prog 5 #[v] w fun e w'=>e = .returned (.bool true)∧Ext w w':=by
 obtain⟨a,c,rfl,hl⟩:=h.form;have H:=zh h;clear h;by_cases hx:xs.length≤1048576
 case neg =>
  have hx2:1048576 < xs.length:=by omega
  clear hx;go_enter Tryz.func5,Tryz.ntmps5;go_wp2;go_ret;exact⟨rfl,Ext.refl w⟩
 go_enter Tryz.func5,Tryz.ntmps5;go_upto_region 4 with (go_at_call 28;refine(spec_DrawSameFor _ _ _ H.out).mono ?_;rintro e w1 ⟨v1,v2,x,y,n,rfl,hv,hw,htt,hn,he⟩;obtain⟨p0,q0,p1,q1,p2,q2,p3,q3,p4,q4,p5,q5,rfl,-⟩:=hv.openMc;obtain⟨b0,d0,b1,d1,b2,d2,b3,d3,b4,d4,b5,d5,rfl,-⟩:=hw.openMc;have HV:=zh hv.rv;have HW:=zh hw.rv;have HTT:=zh htt;have HE:=zh he;clear hv hw htt he)
 obtain⟨A,hA⟩:∃ A,A=w1.heap.size:=⟨_,rfl⟩;obtain⟨B,hB⟩:∃ B,B=w1.heap.size+1:=⟨_,rfl⟩;refine abs_world (fun u=>Ext w1 u∧Bk u A [.slice p0 x.Plan.Parts.length q0,.slice p1 x.Plan.Channels.length q1,.slice p2 x.Plan.Slots.length q2,.slice p3 x.Programs.length q3,.slice p4 x.Cores.length q4,.slice p5 x.Holds.length q5,.int .i64 x.Tick] 32∧Bk u B [.slice b0 y.Plan.Parts.length d0,.slice b1 y.Plan.Channels.length d1,.slice b2 y.Plan.Slots.length d2,.slice b3 y.Programs.length d3,.slice b4 y.Cores.length d4,.slice b5 y.Holds.length d5,.int .i64 y.Tick] 32) ⟨((Ext.refl _).alloc _).alloc _,by rw[hA];exact(Bk.new _ _ _).ext ((Ext.refl _).alloc _),by rw[hB];exact Bk.new1 _ _ _ _⟩ ?_
 rw[← hB,← hA];rintro W1 ⟨e1,kA,kB⟩;have hAB:A≠B:=by omega
 have hAw:w.heap.size≤A:=by have:=HE.out.sz;omega
 have hBw:w.heap.size≤B:=by have:=HE.out.sz;omega
 have HX:Hid (Rvx [A,B] W1 (.agg #[.slice p0 x.Plan.Parts.length q0,.slice p1 x.Plan.Channels.length q1,.slice p2 x.Plan.Slots.length q2,.slice p3 x.Programs.length q3,.slice p4 x.Cores.length q4,.slice p5 x.Holds.length q5,.int .i64 x.Tick]) x):=zh ((Rvx.of HV.out (by simp only[List.mem_cons,List.not_mem_nil,or_false];omega)).ext e1)
 have HXB:Hid (Rvx [A,B] W1 (.agg #[.slice b0 y.Plan.Parts.length d0,.slice b1 y.Plan.Channels.length d1,.slice b2 y.Plan.Slots.length d2,.slice b3 y.Programs.length d3,.slice b4 y.Cores.length d4,.slice b5 y.Holds.length d5,.int .i64 y.Tick]) y):=zh ((Rvx.of HW.out (by simp only[List.mem_cons,List.not_mem_nil,or_false];omega)).ext e1)
 clear hA hB H;replace HV:=zh (HV.out.ext e1);replace HW:=zh (HW.out.ext e1);replace HE:=zh (HE.out.tr e1);have KA:=zh kA;have KB:=zh kB;clear e1 kA kB;have E:=zh (Ext.refl W1);have hnr:rng n:=rng_sm (by have:=hn.1;omega) (by have:=hn.2;omega)
 have hxc:x.Cores.length≤200000:=by
  have h1:=M.tot_eq x;have h2:=tot_len (xs:=x.Cores)
  have:=HTT.out
  omega
 obtain⟨ok,hok⟩:∃ ok,M.sameFor x y n=ok:=⟨_,rfl⟩;have C1:=zh (fun(v v2:Value) (u:World) (h:Rv u v x) (k:Rv u v2 y)=>impl_SameFor v v2 x y n u h k)
 have C2:=zh (fun(v v2:Value) (u:World) (h:Rv u v x) (k:Rv u v2 y)=>spec_SameFor v v2 x y n u h k)
 rw[hok] at C1 C2;have faK:=KA.out.ext E.out;obtain⟨fa0,fa1,fa2,fa3,fa4,fa5,fa6⟩:=Bk.k7 faK;have faL:=faK.lt;clear faK;have fbK:=KB.out.ext E.out;obtain⟨fb0,fb1,fb2,fb3,fb4,fb5,fb6⟩:=Bk.k7 fbK;have fbL:=fbK.lt;clear fbK;cases ok
 ·go_wp2_with (first
   | (go_at_call 29;refine(C1.out _ _ _ (HV.out.ext E.out) (HW.out.ext E.out)).mono ?_;rintro e wz ⟨rfl,he⟩;replace E:=zh (E.out.tr he);clear he C1;have raK:=KA.out.ext E.out;obtain⟨ra0,ra1,ra2,ra3,ra4,ra5,ra6⟩:=Bk.k7 raK;have raL:=raK.lt;clear raK;have rbK:=KB.out.ext E.out;obtain⟨rb0,rb1,rb2,rb3,rb4,rb5,rb6⟩:=Bk.k7 rbK;have rbL:=rbK.lt;clear rbK)
   | (go_at_call 30;refine(C2.out _ _ _ (HV.out.ext E.out) (HW.out.ext E.out)).mono ?_;rintro e wz ⟨rfl,he⟩;replace E:=zh (E.out.tr he);clear he C2;have raK:=KA.out.ext E.out;obtain⟨ra0,ra1,ra2,ra3,ra4,ra5,ra6⟩:=Bk.k7 raK;have raL:=raK.lt;clear raK;have rbK:=KB.out.ext E.out;obtain⟨rb0,rb1,rb2,rb3,rb4,rb5,rb6⟩:=Bk.k7 rbK;have rbL:=rbK.lt;clear rbK)
   | (go_at_call 19;refine(law_alive _).mono ?_;rintro e w9 ⟨rfl,he⟩;replace E:=zh (E.out.tr he);clear he))
  go_ret;exact⟨rfl,HE.out.tr E.out⟩
 obtain⟨N,hN,sf⟩:∃ N:Nat,n=N∧M.SF x y N:=by
  obtain⟨N,e,h⟩:=Bo.iff.1 hok;exact⟨N,e,h⟩
 subst hN;have SFH:=zh sf;have hcv:M.csv x.Plan.Channels x.Cores.length=true:=by rw[sf.ma.nc];exact sf.ma.csv
 have hn5:x.Cores.length≤5:=by rw[sf.ma.nc];exact M.setv_parts sf.ma.pg.set
 have hNl:=sf.hn;have CF:=zh (fun(v:Value) (u:World) (h:Rs u v x.Plan.Channels)=>impl_FlowsTo v x.Plan.Channels x.Cores.length N u h hcv hn5 hNl)
 obtain⟨FL,hFL⟩:∃ FL,M.flows x.Plan.Channels x.Cores.length N=FL:=⟨_,rfl⟩;have hFN:FL.length=x.Cores.length:=by rw[← hFL,M.flows_len]
 have HIN:Hid (∀ k:Nat,FL[k]? = some true→M.sameFor x y k=true):=zh (fun k hk=>M.sameFor_iff.2 (sf.inner ⟨k,rfl,by rw[hFL,List.getD_eq_getElem?_getD,hk];rfl⟩))
 rw[hFL] at CF;clear hok sf hFL hcv hNl SFH hnr;obtain⟨_,_,_,_,_,_,_,_,_,_,_,_,ee,s6,s0,-,s1,-,s2,-,s3,-,s4,-,s5,-⟩:=HV.out.openMachine;have e9:=congrArg (fun v=>match v with | .agg a=>a.toList|_ => []) ee
 simp only[List.cons.injEq,Value.slice.injEq,and_true,true_and] at e9;obtain⟨⟨rfl,rfl⟩,⟨rfl,rfl⟩,⟨rfl,rfl⟩,⟨rfl,rfl⟩,⟨rfl,rfl⟩,⟨rfl,rfl⟩⟩:=e9;clear ee;go_upto_region 10 with (first
   | (go_at_call 31;refine(CF.out _ _ (s1.out.ext E.out)).mono ?_;rintro e wz ⟨v7,rfl,ho,he⟩;obtain⟨fa,fc,rfl,hfl⟩:=ho.rs.form;have HFL:=zh ho.rs;have EF:=zh (E.out.tr he);clear ho he)
   | (go_at_call 29;refine(C1.out _ _ _ (HV.out.ext E.out) (HW.out.ext E.out)).mono ?_;rintro e wz ⟨rfl,he⟩;replace E:=zh (E.out.tr he);clear he C1;have raK:=KA.out.ext E.out;obtain⟨ra0,ra1,ra2,ra3,ra4,ra5,ra6⟩:=Bk.k7 raK;have raL:=raK.lt;clear raK;have rbK:=KB.out.ext E.out;obtain⟨rb0,rb1,rb2,rb3,rb4,rb5,rb6⟩:=Bk.k7 rbK;have rbL:=rbK.lt;clear rbK)
   | (go_at_call 30;refine(C2.out _ _ _ (HV.out.ext E.out) (HW.out.ext E.out)).mono ?_;rintro e wz ⟨rfl,he⟩;replace E:=zh (E.out.tr he);clear he C2;have raK:=KA.out.ext E.out;obtain⟨ra0,ra1,ra2,ra3,ra4,ra5,ra6⟩:=Bk.k7 raK;have raL:=raK.lt;clear raK;have rbK:=KB.out.ext E.out;obtain⟨rb0,rb1,rb2,rb3,rb4,rb5,rb6⟩:=Bk.k7 rbK;have rbL:=rbK.lt;clear rbK))
 have hfl9:FL.length≤200000:=by omega
 go_wp2;go_loopw [8] (fun i wr => ∃ k:Nat,k≤FL.length∧i = .int .i64 k∧Ext wz wr) (fun i _=>FL.length - (intOf i).toNat)
 case atStart=>exact⟨0,Nat.zero_le _,rfl,Ext.refl _⟩
 case round =>
  obtain⟨k,hk,rfl,er⟩:=hrel;have ER:=zh er;replace E:=zh (EF.out.tr er);clear er;by_cases hkt:k < FL.length
  case neg =>
   go_wp2;go_ret;exact⟨rfl,HE.out.tr E.out⟩
  obtain⟨fb,fo,fx,rfl,hfb,hx,hfc⟩:=(HFL.out.ext ER.out).atBool k hkt;cases fx
  case false =>
   clear hx;go_wp2;exact⟨⟨k+1,by omega,by go_num,ER.out⟩,by simp[intOf];omega⟩
  have D1:=zh (fun(v v2:Value) (u:World) (h:Rv u v x) (h2:Rv u v2 y)=>impl_SameFor v v2 x y k u h h2)
  rw[HIN.out k hx.out] at D1;clear hx;have gaK:=KA.out.ext E.out;obtain⟨ga0,ga1,ga2,ga3,ga4,ga5,ga6⟩:=Bk.k7 gaK;have gaL:=gaK.lt;clear gaK;have gbK:=KB.out.ext E.out;obtain⟨gb0,gb1,gb2,gb3,gb4,gb5,gb6⟩:=Bk.k7 gbK;have gbL:=gbK.lt;clear gbK;go_wp2_with (go_at_call 29;refine(D1.out _ _ _ (HV.out.ext E.out) (HW.out.ext E.out)).mono ?_;rintro e wy ⟨rfl,he⟩;have ER2:=zh (ER.out.tr he);clear he)
  exact⟨⟨k+1,by omega,by go_num,ER2.out⟩,by simp[intOf];omega⟩
end Sk
