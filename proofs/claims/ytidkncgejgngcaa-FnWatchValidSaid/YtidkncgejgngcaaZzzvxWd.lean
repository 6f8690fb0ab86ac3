/- Contracts of functions of the given program. -/
import Derived.Test.YtidkncgejgngcaaZzzvWdr
namespace Sk
open Go Go.Proofs Go.RowKit
set_option maxHeartbeats 4000000
set_option maxRecDepth 100000
set_option linter.unusedVariables false
set_option linter.unusedSimpArgs false
theorem zIi(x:Watch)(h:GT.tot x<=300000):x.States.length<=300000/\x.Box.Cores.length<=300000/\x.Box.Holds.length<=300000:=by
 have h6:GT.tot x=GT.tot x.Box+GT.tot x.States:=rfl;have h1:=zBu x.Box;have h2:=zB9 (xs:=x.Box.Cores);have h3:=zB9 (xs:=x.Box.Holds);have h4:=zB9 (xs:=x.States);omega
theorem zE0(v:Value)(xs:List By)(w:World)(h:Rs w v xs) :
  Calls Try.prog 4 #[v] w fun e w' => ∃ v' x,e = .returned v'/\Rvb (α:=Watch) w.heap.size w' v' x/\GT.tot x<=300000/\Ext w w':=by
 have H:=zh h;clear h;go_enter Try.func4,Try.ntmps4;go_upto_region 1 with (fail)
 refine zA2 (fun W0=>Ext w W0/\Bk W0 w.heap.size [.slice none 0 0,.slice none 0 0,.slice none 0 0,.slice none 0 0,.slice none 0 0,.slice none 0 0,.int .i64 0,.slice none 0 0] 35) ⟨(zr _).alloc _,Bk.new _ _ _⟩ ?_
 rintro W0 ⟨e0,kA⟩;have HE0:=zh e0;have KA:=zh kA;have hA:=kA.lt;clear e0 kA
 go_wp2_with (first
  | (go_at_call 9;refine(zH1 _ _ _ (H.out.ext HE0.out)).mono ?_;rintro e w1 ⟨b,rfl,hb,he,hr⟩;have HE:=zh he;have hs1:=he.sz;have hb1:=hr.lt;have HR:Hid (Rd W0 w1 b (20+100+1100)):=zh (hr.le (by omega));clear he hr)
  | (go_at_call 8;refine(zGh W0 _ b 0 4 (HR.out.le (by omega)) ⟨by omega,by omega⟩).mono ?_;rintro e w2 ⟨v2,x,rfl,hv,htt,hm,hr⟩;obtain⟨p0,q0,p1,q1,p2,q2,p3,q3,p4,q4,p5,q5,p7,q7,rfl,hls⟩:=hv.openWc;have KA2:=zh (hm.bk (KA.out.ext HE.out) (by simp;omega));have HV:=zh hv;have HTT:=zh htt;have HM2:=zh (hm.ext (HE0.out.tr HE.out) (by simp;omega));have HRB:Hid (Rd W0 w2 b 0):=zh hr;obtain⟨z0,z1,z2,z3,z4,z5,z6,z7⟩:=Bk.k8 KA2.out;have zf:=KA2.out.fz;have zl:=KA2.out.lt;clear hm hr hv htt))
 refine bodyPost_ret (v:=.agg #[.slice p0 x.Box.Plan.Parts.length q0,.slice p1 x.Box.Plan.Channels.length q1,.slice p2 x.Box.Plan.Slots.length q2,.slice p3 x.Box.Programs.length q3,.slice p4 x.Box.Cores.length q4,.slice p5 x.Box.Holds.length q5,.int .i64 x.Box.Tick,.slice p7 x.States.length q7]) (by simp[results,Try.results4,go_sem,z0,z1,z2,z3,z4,z5,z6,z7]) rfl ⟨_,x,rfl,?_,HTT.out,?_⟩
 ·exact(Rvb.puts (A:=w.heap.size) (o:=0) (by omega) [.slice p0 x.Box.Plan.Parts.length q0,.slice p1 x.Box.Plan.Channels.length q1,.slice p2 x.Box.Plan.Slots.length q2,.slice p3 x.Box.Programs.length q3,.slice p4 x.Box.Cores.length q4,.slice p5 x.Box.Holds.length q5,.int .i64 x.Box.Tick,.slice p7 x.States.length q7] HV.out).mono (by omega)
 ·exact Ext.puts (b:=w.heap.size) (o:=0) (Nat.le_refl _) [.slice p0 x.Box.Plan.Parts.length q0,.slice p1 x.Box.Plan.Channels.length q1,.slice p2 x.Box.Plan.Slots.length q2,.slice p3 x.Box.Programs.length q3,.slice p4 x.Box.Cores.length q4,.slice p5 x.Box.Holds.length q5,.int .i64 x.Box.Tick,.slice p7 x.States.length q7] HM2.out
set_option maxHeartbeats 1000000
theorem zIa{x:Watch}(h:zC9 x=true)(y:Health):zC9 ⟨x.Box,x.States ++ [y]⟩=false:=by
 cases e:zC9 ⟨x.Box,x.States ++ [y]⟩
 ·rfl
 ·have h1:=(zF9.1 h).ns;have h2:=(zF9.1 e).ns;simp only[List.length_append,List.length_cons,List.length_nil] at h2;omega
theorem Rv.wbox{w:World}{v0 v1 v2 v3 v4 v5 v6 v7:Value}{x:Watch}(h:Rv w (.agg #[v0,v1,v2,v3,v4,v5,v6,v7]) x):Rv w (.agg #[v0,v1,v2,v3,v4,v5,v6]) x.Box:=by
 obtain⟨cs,F,e,⟨u0,u1,u2,u3,u4,u5,u7,F0,F1,F2,F3,F4,F5,F7,rfl,h0,h1,h2,h3,h4,h5,h7,r,rfl⟩⟩:=h;have e2:=congrArg (fun v=>match v with | .agg a=>a.toList|_ => []) e
 simp only[List.cons.injEq,and_true] at e2;obtain⟨rfl,rfl,rfl,rfl,rfl,rfl,rfl,rfl⟩:=e2;exact⟨_,_,rfl,⟨_,_,_,_,_,_,_,_,_,_,_,_,rfl,h0,h1,h2,h3,h4,h5,r,rfl⟩⟩
theorem Rv.wstates{w:World}{v0 v1 v2 v3 v4 v5 v6 v7 v:Value}{x:Watch}{ys:List Health}(h:Rv w (.agg #[v0,v1,v2,v3,v4,v5,v6,v7]) x)(k:Rs w v ys):Rv w (.agg #[v0,v1,v2,v3,v4,v5,v6,v]) ({ x with States:=ys }:Watch):=by
 obtain⟨cs,F,e,⟨u0,u1,u2,u3,u4,u5,u7,F0,F1,F2,F3,F4,F5,F7,rfl,h0,h1,h2,h3,h4,h5,h7,r,rfl⟩⟩:=h;have e2:=congrArg (fun v=>match v with | .agg a=>a.toList|_ => []) e
 simp only[List.cons.injEq,and_true] at e2;obtain⟨rfl,rfl,rfl,rfl,rfl,rfl,rfl,rfl⟩:=e2;obtain⟨G,g⟩:=k;exact⟨_,_,rfl,⟨_,_,_,_,_,_,_,F0,F1,F2,F3,F4,F5,G,rfl,h0,h1,h2,h3,h4,h5,g,r,rfl⟩⟩
theorem Rv.sameW{α:Type}[GT α]{w w':World}{v:Value}{x : α}(h:Rv w v x)(hk:∀ k,k < w.heap.size->w'.heap[k]? = w.heap[k]?):Rv w' v x:=by
 obtain⟨cs,F,h1,h2⟩:=h;exact⟨cs,F,h1,GT.keep h2 (fun k m=>hk k (GT.inh h2 k m))⟩
theorem Rs.lit1{α:Type}[GT α]{w:World}{cs:List Value}{T:TypeId}{x : α}(h:∀ u:World,GT.enc u cs x []):Rs (w.alloc (.cells cs.toArray T (0,0))) (.slice (some ⟨w.heap.size,0,none⟩) 1 1) [x] :=
 ⟨_,_,1,rfl,Nat.le_refl _,by unfold maxLen;omega,.inr ⟨by simp,w.heap.size,0,[],rfl,rfl,Row.lit1 (cs:=cs) (h _)⟩⟩
set_option maxHeartbeats 4000000
theorem zG9(v:Value)(xs:List By)(w:World)(h:Rs w v xs) :
  Calls Try.prog 3 #[v] w fun e w'=>e = .returned (.bool true)/\Ext w w':=by
 obtain⟨a,c,rfl,hl⟩:=h.form;have H:=zh h;clear h;by_cases hx:xs.length<=1048576
 case neg =>
  have hx2:1048576 < xs.length:=by omega
  clear hx;go_enter Try.func3,Try.ntmps3;go_wp2;go_ret;exact⟨rfl,zr w⟩
 go_enter Try.func3,Try.ntmps3;go_upto_region 4 with (go_at_call 4;refine(zE0 _ _ _ H.out).mono ?_;rintro e w1 ⟨v1,x,rfl,hv,htt,he⟩;obtain⟨p0,q0,p1,q1,p2,q2,p3,q3,p4,q4,p5,q5,p7,q7,rfl,-⟩:=hv.openWc;have HV:=zh hv.rv;have HTT:=zh htt;have HE:=zh he;clear hv htt he)
 obtain⟨A,hA⟩:∃ A,A=w1.heap.size:=⟨_,rfl⟩;refine zA2 (fun u=>Ext w1 u/\Bk u A [.slice p0 x.Box.Plan.Parts.length q0,.slice p1 x.Box.Plan.Channels.length q1,.slice p2 x.Box.Plan.Slots.length q2,.slice p3 x.Box.Programs.length q3,.slice p4 x.Box.Cores.length q4,.slice p5 x.Box.Holds.length q5,.int .i64 x.Box.Tick,.slice p7 x.States.length q7] 35) ⟨(zr _).alloc _,by rw[hA];exact Bk.new _ _ _⟩ ?_
 rw[<- hA];rintro W1 ⟨e1,kA⟩;clear hA H;replace HV:=zh (HV.out.ext e1);replace HE:=zh (HE.out.tr e1);have KA:=zh kA;clear e1 kA;have E:=zh (zr W1);obtain⟨_,_,_,_,_,_,_,_,_,_,_,_,_,_,ee,s6,s0,-,s1,-,s2,-,s3,-,s4,-,s5,-,s7,-⟩:=HV.out.openWatch;have e9:=congrArg (fun v=>match v with | .agg a=>a.toList|_ => []) ee
 simp only[List.cons.injEq,Value.slice.injEq,and_true,true_and] at e9;obtain⟨⟨rfl,rfl⟩,⟨rfl,rfl⟩,⟨rfl,rfl⟩,⟨rfl,rfl⟩,⟨rfl,rfl⟩,⟨rfl,rfl⟩,⟨rfl,rfl⟩⟩:=e9;clear ee;obtain⟨hxs,hxc,hxh⟩:=zIi x HTT.out;obtain⟨ok,hok⟩:∃ ok,zC9 x=ok:=⟨_,rfl⟩;have C1:=zh (fun(v:Value) (u:World) (h:Rv u v x)=>zD7 v x u h)
 have C2:=zh (fun(v:Value) (u:World) (h:Rv u v x)=>zFg v x u h)
 rw[hok] at C1 C2;obtain⟨fa0,fa1,fa2,fa3,fa4,fa5,fa6,fa7,faL⟩:=Bk.j8 (KA.out.ext E.out);go_upto_region 7 with (first
   | (go_at_call 5;refine(C1.out _ _ (HV.out.ext E.out)).mono ?_;rintro e wz ⟨rfl,he⟩;replace E:=zh (E.out.tr he);clear he C1;obtain⟨ra0,ra1,ra2,ra3,ra4,ra5,ra6,ra7,raL⟩:=Bk.j8 (KA.out.ext E.out))
   | (go_at_call 6;refine(C2.out _ _ (HV.out.ext E.out)).mono ?_;rintro e wz ⟨rfl,he⟩;replace E:=zh (E.out.tr he);clear he C2;obtain⟨ra0,ra1,ra2,ra3,ra4,ra5,ra6,ra7,raL⟩:=Bk.j8 (KA.out.ext E.out)))
 have HVz:=zh (HV.out.ext E.out);have HEz:=zh (HE.out.tr E.out);obtain⟨B,hB⟩:∃ B,B=wz.heap.size:=⟨_,rfl⟩;have hBz:wz.heap.size<=B:=by omega
 have hwB:w.heap.size<=B:=by have:=HEz.out.sz;omega
 go_upto_region 8 with (fail)
 refine zA2 (fun u=>Ext wz u/\Bk u B [.slice p0 x.Box.Plan.Parts.length q0,.slice p1 x.Box.Plan.Channels.length q1,.slice p2 x.Box.Plan.Slots.length q2,.slice p3 x.Box.Programs.length q3,.slice p4 x.Box.Cores.length q4,.slice p5 x.Box.Holds.length q5,.int .i64 x.Box.Tick,.slice p7 x.States.length q7] 35) ⟨(zr _).alloc _,by rw[hB];exact Bk.new _ _ _⟩ ?_
 rw[<- hB];rintro W4 ⟨e4,kB⟩;clear hB;have E4:=zh e4;have KB:=zh kB;have ltB:=kB.lt;have KA4:=zh (KA.out.ext (E.out.tr e4));have S74:=zh (s7.out.ext (E.out.tr e4));clear e4 kB;have a7:=KA4.out.cell (j:=7) rfl;have aL:=KA4.out.lt;have b7:=KB.out.cell (j:=7) rfl;go_upto_region 9 with (first
   | (at_builtin;refine zBi (α:=Health) rfl _ _ 33 rfl 39 Try.underlying33 zHq (xs:=x.States) (ys:=[⟨false,0⟩]) rfl (OA1.out.ext ((zr _).alloc _)) rfl (Rs.lit1 (cs:=[.bool false,.int .i64 0]) (x:=(⟨false,0⟩:Health)) (fun u=>⟨rfl,⟨by decide,by decide⟩,rfl⟩)) (by simp;omega) (by simp;omega) ?_;intro v2 u2 hO2 hg2;have E6:=zh (Ext.grown (E5.out.alloc _) hg2 (fun k hk=>OA1.out.own k hk));have O2:=zh hO2.osF;have KB6:=zh (KB.out.ext E6.out);have bf6:=KB6.out.fz;have bl6:=KB6.out.lt;have b76:=KB6.out.cell (j:=7) rfl;obtain⟨p2',q2',rfl,-⟩:=hO2.rs.form;clear hO2 hg2)
   | (at_builtin;refine zBi (α:=Health) rfl _ _ 33 rfl 39 Try.underlying33 zHq (L:=W4.heap.size) (v:=.slice (some ⟨W4.heap.size,0,none⟩) 0 0) (xs:=[]) (ys:=x.States) rfl (Oa.lit0' _ _ rfl) rfl (S74.out.ext ((zr _).alloc _)) (by simp;omega) (by simp) ?_;intro v1 u1 hO1 hg1;have E5:=zh (zG8 hg1 (Nat.le_refl _));rw[List.nil_append] at hO1;have OA1:=zh hO1;have hs5:=E5.out.sz;obtain⟨p1',q1',rfl,-⟩:=hO1.rs.form;clear hO1 hg1))
 have C3:=zh (fun(v:Value) (u:World) (h:Rv u v (⟨x.Box,x.States ++ [⟨false,0⟩]⟩:Watch))=>zD7 v _ u h)
 obtain⟨ys,hys⟩:∃ ys,x.States ++ [(⟨false,0⟩:Health)]=ys:=⟨_,rfl⟩;have hl9:ys.length=x.States.length+1:=by rw[<- hys];simp
 have hcase:ok=true->zC9 ⟨x.Box,x.States ++ [⟨false,0⟩]⟩=false:=fun e=>zIa (hok.trans e) _
 rw[hys] at O2 C3 hcase;rw[hl9] at O2;have O3:=zh ((O2.out.rsb.set9 (p:=⟨B,7,none⟩) (by show B < W4.heap.size;exact ltB) (.slice p2' (x.States.length+1) q2')).rs)
 have HVu:=HVz.out.sameW (w':=u2.setCell ⟨B,7,none⟩ (.slice p2' (x.States.length+1) q2')) (fun k hk=>(zA3 (by show k≠B;omega)).trans ((E4.out.tr E6.out).block k hk))
 have HW:=zh (HVu.wstates O3.out);refine zA2 (fun u=>Ext w u/\Bk u B [.slice p0 x.Box.Plan.Parts.length q0,.slice p1 x.Box.Plan.Channels.length q1,.slice p2 x.Box.Plan.Slots.length q2,.slice p3 x.Box.Programs.length q3,.slice p4 x.Box.Cores.length q4,.slice p5 x.Box.Holds.length q5,.int .i64 x.Box.Tick,.slice p2' (x.States.length+1) q2'] 35/\Rv u (.agg #[.slice p0 x.Box.Plan.Parts.length q0,.slice p1 x.Box.Plan.Channels.length q1,.slice p2 x.Box.Plan.Slots.length q2,.slice p3 x.Box.Programs.length q3,.slice p4 x.Box.Cores.length q4,.slice p5 x.Box.Holds.length q5,.int .i64 x.Box.Tick,.slice p2' (x.States.length+1) q2']) ({ x with States:=ys }:Watch)) ⟨(HEz.out.tr (E4.out.tr E6.out)).set (p:=⟨B,7,none⟩) (by show w.heap.size<=B;exact hwB) _,by have:=KB6.out.set 7 (.slice p2' (x.States.length+1) q2');simpa using this,HW.out⟩ ?_
 clear HW HVu O3 O2 KB6 KB KA KA4 E4 E6 E5 OA1 HV HVz HE HEz E S74 b7 b76 a7 aL bf6 bl6 hys hok s0 s1 s2 s3 s4 s5 s7;rintro W7 ⟨e7,k7,h7⟩;have HE7:=zh e7;have HW7:=zh h7;have E:=zh (zr W7);cases ok
 ·clear k7 h7 e7;go_wp2_with (go_at_call 7;refine(law_alive _).mono ?_;rintro e w9 ⟨rfl,he⟩;replace E:=zh (E.out.tr he);clear he)
  go_ret;exact⟨rfl,HE7.out.tr E.out⟩
 ·rw[hcase rfl] at C3;obtain⟨f0,f1,f2,f3,f4,f5,f6,f7⟩:=Bk.k8 k7;have fL:=k7.lt;clear k7 h7 e7
  go_wp2_with (first
   | (go_at_call 7;refine(law_alive _).mono ?_;rintro e w9 ⟨rfl,he⟩;replace E:=zh (E.out.tr he);clear he)
   | (go_at_call 5;refine(C3.out _ _ HW7.out).mono ?_;rintro e wz ⟨rfl,he⟩;replace E:=zh (E.out.tr he);clear he C3))
  go_ret;exact⟨rfl,HE7.out.tr E.out⟩
end Sk
