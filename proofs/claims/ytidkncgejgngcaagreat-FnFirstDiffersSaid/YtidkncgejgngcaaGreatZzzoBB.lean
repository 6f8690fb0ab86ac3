/- Contracts of functions of the given program. -/
import Derived.Test.YtidkncgejgngcaaGreatZzznqDr
import Derived.Test.YtidkncgejgngcaaGreatZzzcSfS
import Derived.Test.YtidkncgejgngcaaGreatYFdS
namespace Sk
open Go Go.Proofs Go.RowKit
set_option maxHeartbeats 1000000
set_option maxRecDepth 100000
set_option linter.unusedVariables false
set_option linter.unusedSimpArgs false
def Rvx{α:Type}[GT α](G:List Nat)(w:World)(v:Value)(x : α):Prop:=∃ cs F,v = .agg cs.toArray/\GT.enc w cs x F/\∀ k∈F,k ∉ G
theorem Rvx.rv{α:Type}[GT α]{G:List Nat}{w:World}{v:Value}{x : α}(h:Rvx G w v x):Rv w v x:=by obtain⟨cs,F,h1,h2,_⟩:=h;exact⟨cs,F,h1,h2⟩
theorem Rvx.of{α:Type}[GT α]{G:List Nat}{w:World}{v:Value}{x : α}(h:Rv w v x)(hG:∀ k∈G,w.heap.size<=k):Rvx G w v x:=by
 obtain⟨cs,F,h1,h2⟩:=h;exact⟨cs,F,h1,h2,fun k hk hm=>by have:=GT.inh h2 k hk;have:=hG k hm;omega⟩
theorem Rvx.ov{α:Type}[GT α]{G:List Nat}{L:Nat}{w:World}{v:Value}{x : α}(h:Ov L w v x)(hG:∀ k∈G,k < L):Rvx G w v x:=by
 obtain⟨cs,F,h1,h2,h3⟩:=h;exact⟨cs,F,h1,h2,fun k hk hm=>by have:=(h3.2 k hk).1;have:=hG k hm;omega⟩
theorem Rvx.mw{α:Type}[GT α]{G:List Nat}{w w':World}{v:Value}{x : α}(h:Rvx G w v x)(k:Mw G w w'):Rvx G w' v x:=by
 obtain⟨cs,F,h1,h2,h3⟩:=h;exact⟨cs,F,h1,k.enc h2 (fun y hy hf=>h3 y hy hf),h3⟩
theorem Rvx.ext{α:Type}[GT α]{G:List Nat}{w w':World}{v:Value}{x : α}(h:Rvx G w v x)(k:Ext w w'):Rvx G w' v x:=h.mw (Mw.ofExt k)
structure zLy (T:TypeId) (w:World) (A B:Nat) (x y:Machine) (u:World):Prop where
 ext:Ext w u
 ra:∃ p0 q0 p1 q1 p2 q2 p3 q3 p4 q4 p5 q5,Bk u A [.slice p0 x.Plan.Parts.length q0,.slice p1 x.Plan.Channels.length q1,.slice p2 x.Plan.Slots.length q2,.slice p3 x.Programs.length q3,.slice p4 x.Cores.length q4,.slice p5 x.Holds.length q5,.int .i64 x.Tick] T/\Rvx [A,B] u (.agg #[.slice p0 x.Plan.Parts.length q0,.slice p1 x.Plan.Channels.length q1,.slice p2 x.Plan.Slots.length q2,.slice p3 x.Programs.length q3,.slice p4 x.Cores.length q4,.slice p5 x.Holds.length q5,.int .i64 x.Tick]) x
 rb:∃ b0 d0 b1 d1 b2 d2 b3 d3 b4 d4 b5 d5,Bk u B [.slice b0 y.Plan.Parts.length d0,.slice b1 y.Plan.Channels.length d1,.slice b2 y.Plan.Slots.length d2,.slice b3 y.Programs.length d3,.slice b4 y.Cores.length d4,.slice b5 y.Holds.length d5,.int .i64 y.Tick] T/\Rvx [A,B] u (.agg #[.slice b0 y.Plan.Parts.length d0,.slice b1 y.Plan.Channels.length d1,.slice b2 y.Plan.Slots.length d2,.slice b3 y.Programs.length d3,.slice b4 y.Cores.length d4,.slice b5 y.Holds.length d5,.int .i64 y.Tick]) y
 hA:w.heap.size<=A
 hB:w.heap.size<=B
 ne:A≠B
theorem zLy.call{T:TypeId}{w:World}{A B:Nat}{x y:Machine}{u u':World}(h:zLy T w A B x y u)(he:Ext u u'):zLy T w A B x y u':=by
 obtain⟨h1,⟨p0,q0,p1,q1,p2,q2,p3,q3,p4,q4,p5,q5,ka,ra⟩,⟨b0,d0,b1,d1,b2,d2,b3,d3,b4,d4,b5,d5,kb,rb⟩,h2,h3,h4⟩:=h;exact⟨h1.tr he,⟨_,_,_,_,_,_,_,_,_,_,_,_,ka.ext he,ra.ext he⟩,⟨_,_,_,_,_,_,_,_,_,_,_,_,kb.ext he,rb.ext he⟩,h2,h3,h4⟩
theorem zLy.putA{T:TypeId}{w:World}{A B:Nat}{x y x':Machine}{u u':World}(h:zLy T w A B x y u)(he:Ext u u'){t0 t1 t2 t3 t4 t5:Option Addr}{u0 u1 u2 u3 u4 u5:Nat}(ho:Ov u.heap.size u' (.agg #[.slice t0 x'.Plan.Parts.length u0,.slice t1 x'.Plan.Channels.length u1,.slice t2 x'.Plan.Slots.length u2,.slice t3 x'.Programs.length u3,.slice t4 x'.Cores.length u4,.slice t5 x'.Holds.length u5,.int .i64 x'.Tick]) x'):zLy T w A B x' y (zAb u' A 0 [.slice t0 x'.Plan.Parts.length u0,.slice t1 x'.Plan.Channels.length u1,.slice t2 x'.Plan.Slots.length u2,.slice t3 x'.Programs.length u3,.slice t4 x'.Cores.length u4,.slice t5 x'.Holds.length u5,.int .i64 x'.Tick]):=by
 obtain⟨h1,⟨p0,q0,p1,q1,p2,q2,p3,q3,p4,q4,p5,q5,ka,ra⟩,⟨b0,d0,b1,d1,b2,d2,b3,d3,b4,d4,b5,d5,kb,rb⟩,h2,h3,h4⟩:=h;have la:=ka.lt;have lb:=kb.lt;have hm:Mw [A,B] u' (zAb u' A 0 [.slice t0 x'.Plan.Parts.length u0,.slice t1 x'.Plan.Channels.length u1,.slice t2 x'.Plan.Slots.length u2,.slice t3 x'.Programs.length u3,.slice t4 x'.Cores.length u4,.slice t5 x'.Holds.length u5,.int .i64 x'.Tick]):=Mw.puts (b:=A) (o:=0) (.inl (by simp)) [.slice t0 x'.Plan.Parts.length u0,.slice t1 x'.Plan.Channels.length u1,.slice t2 x'.Plan.Slots.length u2,.slice t3 x'.Programs.length u3,.slice t4 x'.Cores.length u4,.slice t5 x'.Holds.length u5,.int .i64 x'.Tick] (Mw.refl _ _)
 exact⟨Ext.puts (b:=A) (o:=0) h2 [.slice t0 x'.Plan.Parts.length u0,.slice t1 x'.Plan.Channels.length u1,.slice t2 x'.Plan.Slots.length u2,.slice t3 x'.Programs.length u3,.slice t4 x'.Cores.length u4,.slice t5 x'.Holds.length u5,.int .i64 x'.Tick] (h1.tr he),⟨_,_,_,_,_,_,_,_,_,_,_,_,(ka.ext he).puts [.slice t0 x'.Plan.Parts.length u0,.slice t1 x'.Plan.Channels.length u1,.slice t2 x'.Plan.Slots.length u2,.slice t3 x'.Programs.length u3,.slice t4 x'.Cores.length u4,.slice t5 x'.Holds.length u5,.int .i64 x'.Tick] rfl,(Rvx.ov ho (by simp only[List.mem_cons,List.not_mem_nil,or_false];omega)).mw hm⟩,⟨_,_,_,_,_,_,_,_,_,_,_,_,(kb.ext he).puts_ne (c:=A) (o:=0) (ds:=[.slice t0 x'.Plan.Parts.length u0,.slice t1 x'.Plan.Channels.length u1,.slice t2 x'.Plan.Slots.length u2,.slice t3 x'.Programs.length u3,.slice t4 x'.Cores.length u4,.slice t5 x'.Holds.length u5,.int .i64 x'.Tick]) h4.symm,(rb.ext he).mw hm⟩,h2,h3,h4⟩
theorem zLy.swap{T:TypeId}{w:World}{A B:Nat}{x y:Machine}{u:World}(h:zLy T w A B x y u):zLy T w B A y x u:=by
 obtain⟨h1,⟨p0,q0,p1,q1,p2,q2,p3,q3,p4,q4,p5,q5,ka,ra⟩,⟨b0,d0,b1,d1,b2,d2,b3,d3,b4,d4,b5,d5,kb,rb⟩,h2,h3,h4⟩:=h;have sw:∀ {v:Value} {z:Machine},Rvx [A,B] u v z->Rvx [B,A] u v z:=fun⟨cs,F,h1,h2,h3⟩=>⟨cs,F,h1,h2,fun k hk hm=>h3 k hk (by simp only[List.mem_cons,List.not_mem_nil,or_false] at hm ⊢;omega)⟩
 exact⟨h1,⟨_,_,_,_,_,_,_,_,_,_,_,_,kb,sw rb⟩,⟨_,_,_,_,_,_,_,_,_,_,_,_,ka,sw ra⟩,h3,h2,h4.symm⟩
theorem zLy.putB{T:TypeId}{w:World}{A B:Nat}{x y y':Machine}{u u':World}(h:zLy T w A B x y u)(he:Ext u u'){t0 t1 t2 t3 t4 t5:Option Addr}{u0 u1 u2 u3 u4 u5:Nat}(ho:Ov u.heap.size u' (.agg #[.slice t0 y'.Plan.Parts.length u0,.slice t1 y'.Plan.Channels.length u1,.slice t2 y'.Plan.Slots.length u2,.slice t3 y'.Programs.length u3,.slice t4 y'.Cores.length u4,.slice t5 y'.Holds.length u5,.int .i64 y'.Tick]) y'):zLy T w A B x y' (zAb u' B 0 [.slice t0 y'.Plan.Parts.length u0,.slice t1 y'.Plan.Channels.length u1,.slice t2 y'.Plan.Slots.length u2,.slice t3 y'.Programs.length u3,.slice t4 y'.Cores.length u4,.slice t5 y'.Holds.length u5,.int .i64 y'.Tick]):=(h.swap.putA he ho).swap
set_option maxHeartbeats 4000000
theorem zJu(v:Value)(xs:List By)(w:World)(h:Rs w v xs) :
  Calls Tryz.prog 6 #[v] w fun e w'=>e = .returned (.bool true)/\Ext w w':=by
 obtain⟨a,c,rfl,hl⟩:=h.form;have H:=zh h;clear h;by_cases hx:xs.length<=1048576
 case neg =>
  have hx2:1048576 < xs.length:=by omega
  clear hx;go_enter Tryz.func6,Tryz.ntmps6;go_wp2;go_ret;exact⟨rfl,zr w⟩
 go_enter Tryz.func6,Tryz.ntmps6;go_upto_region 4 with (go_at_call 29;refine(zIh _ _ _ H.out).mono ?_;rintro e w1 ⟨v1,v2,x,y,n,rfl,hv,hw,htt,hn,he⟩;obtain⟨p0,q0,p1,q1,p2,q2,p3,q3,p4,q4,p5,q5,rfl,-⟩:=hv.openMc;obtain⟨b0,d0,b1,d1,b2,d2,b3,d3,b4,d4,b5,d5,rfl,-⟩:=hw.openMc;have HV:=zh hv.rv;have HW:=zh hw.rv;have HTT:=zh htt;have HE:=zh he;clear hv hw htt he)
 obtain⟨A,hA⟩:∃ A,A=w1.heap.size:=⟨_,rfl⟩;obtain⟨B,hB⟩:∃ B,B=w1.heap.size+1:=⟨_,rfl⟩;refine zA1 (fun u=>Ext w1 u/\Bk u A [.slice p0 x.Plan.Parts.length q0,.slice p1 x.Plan.Channels.length q1,.slice p2 x.Plan.Slots.length q2,.slice p3 x.Programs.length q3,.slice p4 x.Cores.length q4,.slice p5 x.Holds.length q5,.int .i64 x.Tick] 32/\Bk u B [.slice b0 y.Plan.Parts.length d0,.slice b1 y.Plan.Channels.length d1,.slice b2 y.Plan.Slots.length d2,.slice b3 y.Programs.length d3,.slice b4 y.Cores.length d4,.slice b5 y.Holds.length d5,.int .i64 y.Tick] 32) ⟨((zr _).alloc _).alloc _,by rw[hA];exact(Bk.new _ _ _).ext ((zr _).alloc _),by rw[hB];exact Bk.new1 _ _ _ _⟩ ?_
 rw[<- hB,<- hA];rintro W1 ⟨e1,kA,kB⟩;have hAB:A≠B:=by omega
 have hAw:w.heap.size<=A:=by have:=HE.out.sz;omega
 have hBw:w.heap.size<=B:=by have:=HE.out.sz;omega
 have HX:Hid (Rvx [A,B] W1 (.agg #[.slice p0 x.Plan.Parts.length q0,.slice p1 x.Plan.Channels.length q1,.slice p2 x.Plan.Slots.length q2,.slice p3 x.Programs.length q3,.slice p4 x.Cores.length q4,.slice p5 x.Holds.length q5,.int .i64 x.Tick]) x):=zh ((Rvx.of HV.out (by simp only[List.mem_cons,List.not_mem_nil,or_false];omega)).ext e1)
 have HXB:Hid (Rvx [A,B] W1 (.agg #[.slice b0 y.Plan.Parts.length d0,.slice b1 y.Plan.Channels.length d1,.slice b2 y.Plan.Slots.length d2,.slice b3 y.Programs.length d3,.slice b4 y.Cores.length d4,.slice b5 y.Holds.length d5,.int .i64 y.Tick]) y):=zh ((Rvx.of HW.out (by simp only[List.mem_cons,List.not_mem_nil,or_false];omega)).ext e1)
 clear hA hB H;replace HV:=zh (HV.out.ext e1);replace HW:=zh (HW.out.ext e1);replace HE:=zh (HE.out.tr e1);have KA:=zh kA;have KB:=zh kB;clear e1 kA kB;have E:=zh (zr W1);have hnr:rng n:=zAh (by have:=hn.1;omega) (by have:=hn.2;omega)
 have hxc:x.Cores.length<=200000:=by
  have h1:=zD8 x;have h2:=zBh (xs:=x.Cores)
  have:=HTT.out
  omega
 obtain⟨ok,hok⟩:∃ ok,zCo x y n=ok:=⟨_,rfl⟩;have C1:=zh (fun(v v2:Value) (u:World) (h:Rv u v x) (k:Rv u v2 y)=>zFe v v2 x y n u h k)
 have C2:=zh (fun(v v2:Value) (u:World) (h:Rv u v x) (k:Rv u v2 y)=>zLv v v2 x y n u h k)
 rw[hok] at C1 C2;obtain⟨fa0,fa1,fa2,fa3,fa4,fa5,fa6,faL⟩:=Bk.j7 (KA.out.ext E.out);obtain⟨fb0,fb1,fb2,fb3,fb4,fb5,fb6,fbL⟩:=Bk.j7 (KB.out.ext E.out);cases ok
 ·go_upto_region 7 with (first
   | (go_at_call 30;refine(C1.out _ _ _ (HV.out.ext E.out) (HW.out.ext E.out)).mono ?_;rintro e wz ⟨rfl,he⟩;replace E:=zh (E.out.tr he);clear he C1;obtain⟨ra0,ra1,ra2,ra3,ra4,ra5,ra6,raL⟩:=Bk.j7 (KA.out.ext E.out);obtain⟨rb0,rb1,rb2,rb3,rb4,rb5,rb6,rbL⟩:=Bk.j7 (KB.out.ext E.out))
   | (go_at_call 31;refine(C2.out _ _ _ (HV.out.ext E.out) (HW.out.ext E.out)).mono ?_;rintro e wz ⟨rfl,he⟩;replace E:=zh (E.out.tr he);clear he C2;obtain⟨ra0,ra1,ra2,ra3,ra4,ra5,ra6,raL⟩:=Bk.j7 (KA.out.ext E.out);obtain⟨rb0,rb1,rb2,rb3,rb4,rb5,rb6,rbL⟩:=Bk.j7 (KB.out.ext E.out)))
  have EF:=zh E.out;go_wp2;go_loopw [7] (fun i wr => ∃ k:Nat,k<=x.Cores.length/\i = .int .i64 k/\Ext W1 wr) (fun i _=>x.Cores.length - (intOf i).toNat)
  case atStart=>exact⟨0,Nat.zero_le _,rfl,EF.out⟩
  case round =>
   obtain⟨k,hk,rfl,er⟩:=hrel;replace E:=zh er;clear er;obtain⟨ga0,ga1,ga2,ga3,ga4,ga5,ga6,gaL⟩:=Bk.j7 (KA.out.ext E.out);obtain⟨gb0,gb1,gb2,gb3,gb4,gb5,gb6,gbL⟩:=Bk.j7 (KB.out.ext E.out);by_cases hkt:k < x.Cores.length
   ·go_wp2_with (go_at_call 14;refine(law_alive _).mono ?_;rintro e w9 ⟨rfl,he⟩;replace E:=zh (E.out.tr he);clear he)
    go_ret;exact⟨rfl,HE.out.tr E.out⟩
   ·go_wp2_with (go_at_call 14;refine(law_alive _).mono ?_;rintro e w9 ⟨rfl,he⟩;replace E:=zh (E.out.tr he);clear he)
    go_ret;exact⟨rfl,HE.out.tr E.out⟩
 obtain⟨N,hN,sf⟩:∃ N:Nat,n=N/\zL7 x y N:=by
  obtain⟨N,e,h⟩:=Bo.iff.1 hok;exact⟨N,e,h⟩
 subst hN;have SFH:=zh sf;clear hok sf;go_upto_region 7 with (first
   | (go_at_call 30;refine(C1.out _ _ _ (HV.out.ext E.out) (HW.out.ext E.out)).mono ?_;rintro e wz ⟨rfl,he⟩;replace E:=zh (E.out.tr he);clear he C1;obtain⟨ra0,ra1,ra2,ra3,ra4,ra5,ra6,raL⟩:=Bk.j7 (KA.out.ext E.out);obtain⟨rb0,rb1,rb2,rb3,rb4,rb5,rb6,rbL⟩:=Bk.j7 (KB.out.ext E.out))
   | (go_at_call 31;refine(C2.out _ _ _ (HV.out.ext E.out) (HW.out.ext E.out)).mono ?_;rintro e wz ⟨rfl,he⟩;replace E:=zh (E.out.tr he);clear he C2;obtain⟨ra0,ra1,ra2,ra3,ra4,ra5,ra6,raL⟩:=Bk.j7 (KA.out.ext E.out);obtain⟨rb0,rb1,rb2,rb3,rb4,rb5,rb6,rbL⟩:=Bk.j7 (KB.out.ext E.out)))
 have EF:=zh E.out;go_wp2;go_loopw [7] (fun i wr => ∃ k:Nat,k<=x.Cores.length/\i = .int .i64 k/\Ext W1 wr) (fun i _=>x.Cores.length - (intOf i).toNat)
 case atStart=>exact⟨0,Nat.zero_le _,rfl,EF.out⟩
 case round =>
  obtain⟨k,hk,rfl,er⟩:=hrel;replace E:=zh er;clear er;obtain⟨ga0,ga1,ga2,ga3,ga4,ga5,ga6,gaL⟩:=Bk.j7 (KA.out.ext E.out);obtain⟨gb0,gb1,gb2,gb3,gb4,gb5,gb6,gbL⟩:=Bk.j7 (KB.out.ext E.out);by_cases hkt:k < x.Cores.length
  case neg =>
   go_wp2_with (go_at_call 14;refine(law_alive _).mono ?_;rintro e w9 ⟨rfl,he⟩;replace E:=zh (E.out.tr he);clear he)
   go_ret;exact⟨rfl,HE.out.tr E.out⟩
  have R1:=zh (fun(v:Value) (u:World) (h:Rv u v x)=>zEx v x k u h)
  have R2:=zh (fun(v:Value) (u:World) (h:Rv u v y)=>zEx v y k u h)
  have R3:=zh (fun(v v2:Value) (u:World) (h:Rv u v (zAv x k)) (h2:Rv u v2 (zAv y k))=>zFe v v2 _ _ N u h h2)
  rw[zDi.2 (SFH.out.restart hkt)] at R3;obtain⟨x2,hx2⟩:∃ x2,zAv x k=x2:=⟨_,rfl⟩;obtain⟨y2,hy2⟩:∃ y2,zAv y k=y2:=⟨_,rfl⟩;rw[hx2] at R1 R3;rw[hy2] at R2 R3;clear hx2 hy2;go_upto_region 10 with (fail)
  go_region_held3 (fun u=>u.cell? ⟨A,0,none⟩=some (.slice p0 x.Plan.Parts.length q0)/\u.cell? ⟨A,1,none⟩=some (.slice p1 x.Plan.Channels.length q1)/\u.cell? ⟨A,2,none⟩=some (.slice p2 x.Plan.Slots.length q2)/\u.cell? ⟨A,3,none⟩=some (.slice p3 x.Programs.length q3)/\u.cell? ⟨A,4,none⟩=some (.slice p4 x.Cores.length q4)/\u.cell? ⟨A,5,none⟩=some (.slice p5 x.Holds.length q5)/\u.cell? ⟨A,6,none⟩=some (.int .i64 x.Tick)/\u.cell? ⟨B,0,none⟩=some (.slice b0 y.Plan.Parts.length d0)/\u.cell? ⟨B,1,none⟩=some (.slice b1 y.Plan.Channels.length d1)/\u.cell? ⟨B,2,none⟩=some (.slice b2 y.Plan.Slots.length d2)/\u.cell? ⟨B,3,none⟩=some (.slice b3 y.Programs.length d3)/\u.cell? ⟨B,4,none⟩=some (.slice b4 y.Cores.length d4)/\u.cell? ⟨B,5,none⟩=some (.slice b5 y.Holds.length d5)/\u.cell? ⟨B,6,none⟩=some (.int .i64 y.Tick))
   (go_keep)
   (first
    | (go_at_call 19;refine(R1.out _ _ (HV.out.ext E.out.drew)).mono ?_;rintro e wa ⟨v4,rfl,ho,he⟩;replace E:=zh (E.out.drew.tr he);have HO4:=zh ho.rv;clear ho R1;obtain⟨r0a0,r0a1,r0a2,r0a3,r0a4,r0a5,r0a6,r0aL⟩:=Bk.j7 (KA.out.ext E.out);obtain⟨r0b0,r0b1,r0b2,r0b3,r0b4,r0b5,r0b6,r0bL⟩:=Bk.j7 (KB.out.ext E.out);clear he)
    | (go_at_call 19;refine(R2.out _ _ (HW.out.ext E.out)).mono ?_;rintro e wb ⟨v5,rfl,ho,he⟩;replace E:=zh (E.out.tr he);have HO5:=zh ho.rv;replace HO4:=zh (HO4.out.ext he);clear ho R2;obtain⟨r1a0,r1a1,r1a2,r1a3,r1a4,r1a5,r1a6,r1aL⟩:=Bk.j7 (KA.out.ext E.out);obtain⟨r1b0,r1b1,r1b2,r1b3,r1b4,r1b5,r1b6,r1bL⟩:=Bk.j7 (KB.out.ext E.out);clear he;clear r0a0 r0a1 r0a2 r0a3 r0a4 r0a5 r0a6 r0b0 r0b1 r0b2 r0b3 r0b4 r0b5 r0b6 r0aL r0bL)
    | (go_at_call 30;refine(R3.out _ _ _ HO4.out HO5.out).mono ?_;rintro e wc ⟨rfl,he⟩;replace E:=zh (E.out.tr he);clear R3;obtain⟨r2a0,r2a1,r2a2,r2a3,r2a4,r2a5,r2a6,r2aL⟩:=Bk.j7 (KA.out.ext E.out);obtain⟨r2b0,r2b1,r2b2,r2b3,r2b4,r2b5,r2b6,r2bL⟩:=Bk.j7 (KB.out.ext E.out);clear he;clear r1a0 r1a1 r1a2 r1a3 r1a4 r1a5 r1a6 r1b0 r1b1 r1b2 r1b3 r1b4 r1b5 r1b6 r1aL r1bL))
  go_wp2;exact⟨⟨k+1,by omega,by go_num,E.out⟩,by simp[intOf];omega⟩
theorem zOl(v:Value)(xs:List By)(w:World)(h:Rs w v xs) :
  Calls Tryz.prog 7 #[v] w fun e w'=>e = .returned (.bool true)/\Ext w w':=by
 obtain⟨a,c,rfl,hl⟩:=h.form;have H:=zh h;clear h;by_cases hx:xs.length<=1048576
 case neg =>
  have hx2:1048576 < xs.length:=by omega
  clear hx;go_enter Tryz.func7,Tryz.ntmps7;go_wp2;go_ret;exact⟨rfl,zr w⟩
 go_enter Tryz.func7,Tryz.ntmps7;go_upto_region 4 with (go_at_call 32;refine(zFi _ _ _ H.out).mono ?_;rintro e w1 ⟨v1,v2,x,y,n,z,rfl,hv,hw,htt,hn,hz,he⟩;obtain⟨p0,q0,p1,q1,p2,q2,p3,q3,p4,q4,p5,q5,rfl,-⟩:=hv.openMc;obtain⟨b0,d0,b1,d1,b2,d2,b3,d3,b4,d4,b5,d5,rfl,-⟩:=hw.openMc;have HV:=zh hv.rv;have HW:=zh hw.rv;have HTT:=zh htt;have HE:=zh he;clear hv hw htt he)
 obtain⟨A,hA⟩:∃ A,A=w1.heap.size:=⟨_,rfl⟩;obtain⟨B,hB⟩:∃ B,B=w1.heap.size+1:=⟨_,rfl⟩;refine zA1 (fun u=>Ext w1 u/\Bk u A [.slice p0 x.Plan.Parts.length q0,.slice p1 x.Plan.Channels.length q1,.slice p2 x.Plan.Slots.length q2,.slice p3 x.Programs.length q3,.slice p4 x.Cores.length q4,.slice p5 x.Holds.length q5,.int .i64 x.Tick] 32/\Bk u B [.slice b0 y.Plan.Parts.length d0,.slice b1 y.Plan.Channels.length d1,.slice b2 y.Plan.Slots.length d2,.slice b3 y.Programs.length d3,.slice b4 y.Cores.length d4,.slice b5 y.Holds.length d5,.int .i64 y.Tick] 32) ⟨((zr _).alloc _).alloc _,by rw[hA];exact(Bk.new _ _ _).ext ((zr _).alloc _),by rw[hB];exact Bk.new1 _ _ _ _⟩ ?_
 rw[<- hB,<- hA];rintro W1 ⟨e1,kA,kB⟩;have hAB:A≠B:=by omega
 have hAw:w.heap.size<=A:=by have:=HE.out.sz;omega
 have hBw:w.heap.size<=B:=by have:=HE.out.sz;omega
 have HX:Hid (Rvx [A,B] W1 (.agg #[.slice p0 x.Plan.Parts.length q0,.slice p1 x.Plan.Channels.length q1,.slice p2 x.Plan.Slots.length q2,.slice p3 x.Programs.length q3,.slice p4 x.Cores.length q4,.slice p5 x.Holds.length q5,.int .i64 x.Tick]) x):=zh ((Rvx.of HV.out (by simp only[List.mem_cons,List.not_mem_nil,or_false];omega)).ext e1)
 have HXB:Hid (Rvx [A,B] W1 (.agg #[.slice b0 y.Plan.Parts.length d0,.slice b1 y.Plan.Channels.length d1,.slice b2 y.Plan.Slots.length d2,.slice b3 y.Programs.length d3,.slice b4 y.Cores.length d4,.slice b5 y.Holds.length d5,.int .i64 y.Tick]) y):=zh ((Rvx.of HW.out (by simp only[List.mem_cons,List.not_mem_nil,or_false];omega)).ext e1)
 clear hA hB H;replace HV:=zh (HV.out.ext e1);replace HW:=zh (HW.out.ext e1);replace HE:=zh (HE.out.tr e1);have KA:=zh kA;have KB:=zh kB;clear e1 kA kB;have E:=zh (zr W1);have hnr:rng n:=zAh (by have:=hn.1;omega) (by have:=hn.2;omega)
 have hxc:x.Cores.length<=200000:=by
  have h1:=zD8 x;have h2:=zBh (xs:=x.Cores)
  have:=HTT.out
  omega
 have C1:=zh (fun(v v2:Value) (u:World) (h:Rv u v x) (k:Rv u v2 y)=>zHd v v2 x y n z u h k)
 have C2:=zh (fun(v v2:Value) (u:World) (h:Rv u v x) (k:Rv u v2 y)=>zHp v v2 x y n z u h k (zAh (by have:=hz.1;omega) (by have:=hz.2;omega)))
 obtain⟨fa0,fa1,fa2,fa3,fa4,fa5,fa6,faL⟩:=Bk.j7 (KA.out.ext E.out);obtain⟨fb0,fb1,fb2,fb3,fb4,fb5,fb6,fbL⟩:=Bk.j7 (KB.out.ext E.out);rcases zFv x y n z with e9 | ⟨N,T,K,rfl,rfl,e9,fd⟩
 ·rw[e9] at C1 C2;clear e9
  go_wp2_with (first
   | (go_at_call 33;refine(C1.out _ _ _ (HV.out.ext E.out) (HW.out.ext E.out)).mono ?_;rintro e wz ⟨rfl,he⟩;replace E:=zh (E.out.tr he);clear he C1;obtain⟨ra0,ra1,ra2,ra3,ra4,ra5,ra6,raL⟩:=Bk.j7 (KA.out.ext E.out);obtain⟨rb0,rb1,rb2,rb3,rb4,rb5,rb6,rbL⟩:=Bk.j7 (KB.out.ext E.out))
   | (go_at_call 34;refine(C2.out _ _ _ (HV.out.ext E.out) (HW.out.ext E.out)).mono ?_;rintro e wz ⟨rfl,he⟩;replace E:=zh (E.out.tr he);clear he C2;obtain⟨ra0,ra1,ra2,ra3,ra4,ra5,ra6,raL⟩:=Bk.j7 (KA.out.ext E.out);obtain⟨rb0,rb1,rb2,rb3,rb4,rb5,rb6,rbL⟩:=Bk.j7 (KB.out.ext E.out))
   | (go_at_call 14;refine(law_alive _).mono ?_;rintro e w9 ⟨rfl,he⟩;replace E:=zh (E.out.tr he);clear he))
  go_ret;exact⟨rfl,HE.out.tr E.out⟩
 rw[e9] at C1 C2;have FDH:=zh fd;have hKT:K<=T:=fd.le;have hT9:T<=200000:=by have:=hz.2;omega
 have hKd:decide ((K:Int) < 0)=false:=decide_eq_false (by omega)
 have hK0:Hid (zAj x 0=x/\zAj y 0=y):=zh ⟨rfl,rfl⟩;clear e9 fd;go_upto_region 9 with (first
   | (go_at_call 33;refine(C1.out _ _ _ (HV.out.ext E.out) (HW.out.ext E.out)).mono ?_;rintro e wz ⟨rfl,he⟩;replace E:=zh (E.out.tr he);clear he C1;obtain⟨ra0,ra1,ra2,ra3,ra4,ra5,ra6,raL⟩:=Bk.j7 (KA.out.ext E.out);obtain⟨rb0,rb1,rb2,rb3,rb4,rb5,rb6,rbL⟩:=Bk.j7 (KB.out.ext E.out))
   | (go_at_call 34;refine(C2.out _ _ _ (HV.out.ext E.out) (HW.out.ext E.out)).mono ?_;rintro e wz ⟨rfl,he⟩;replace E:=zh (E.out.tr he);clear he C2;obtain⟨ra0,ra1,ra2,ra3,ra4,ra5,ra6,raL⟩:=Bk.j7 (KA.out.ext E.out);obtain⟨rb0,rb1,rb2,rb3,rb4,rb5,rb6,rbL⟩:=Bk.j7 (KB.out.ext E.out)))
 have BB0:Hid (zLy 32 w A B (zAj x 0) (zAj y 0) _):=zh (by rw[hK0.out.1,hK0.out.2];exact zLy.call ⟨HE.out,⟨_,_,_,_,_,_,_,_,_,_,_,_,KA.out,HX.out⟩,⟨_,_,_,_,_,_,_,_,_,_,_,_,KB.out,HXB.out⟩,hAw,hBw,hAB⟩ E.out)
 clear KA KB HX HXB HV HW HE hxc hn HTT hz hnr hK0;go_wp2;go_loopw [8] (fun i wr => ∃ k:Nat,k<=K/\i = .int .i64 k/\zLy 32 w A B (zAj x k) (zAj y k) wr) (fun i _=>K - (intOf i).toNat)
 case atStart=>exact⟨0,Nat.zero_le _,rfl,BB0.out⟩
 case round =>
  clear BB0;obtain⟨k,hk,rfl,bb⟩:=hrel;obtain⟨x',hx'⟩:∃ x',zAj x k=x':=⟨_,rfl⟩;obtain⟨y',hy'⟩:∃ y',zAj y k=y':=⟨_,rfl⟩;rw[hx',hy'] at bb;obtain⟨xe,⟨p0,q0,p1,q1,p2,q2,p3,q3,p4,q4,p5,q5,kA,hx⟩,⟨b0,d0,b1,d1,b2,d2,b3,d3,b4,d4,b5,d5,kB,hy⟩,-,-,-⟩:=id bb;have BBr:=zh bb;have HV:=zh hx.rv;have HW:=zh hy.rv;have KA:=zh kA;have KB:=zh kB;have E:=zh (zr wr);have EE:=zh bb.ext;clear bb hx hy kA kB xe;obtain⟨fa0,fa1,fa2,fa3,fa4,fa5,fa6,faL⟩:=Bk.j7 (KA.out.ext E.out);obtain⟨fb0,fb1,fb2,fb3,fb4,fb5,fb6,fbL⟩:=Bk.j7 (KB.out.ext E.out);by_cases hkt:k < K
  case neg =>
   obtain rfl:k=K:=by omega
   have D1:=zh (fun(v v2:Value) (u:World) (h:Rv u v x') (h2:Rv u v2 y')=>zGw v v2 x' y' N u h h2)
   have D2:=zh (fun(v v2:Value) (u:World) (h:Rv u v x') (h2:Rv u v2 y')=>zFe v v2 x' y' N u h h2)
   rw[show zAx x' y' N=false by rw[<- hx',<- hy'];exact FDH.out.last] at D1
   rw[show zCo x' y' N=false by rw[<- hx',<- hy'];exact FDH.out.off] at D2
   have hle:decide ((k:Int)<=(T:Int))=true:=decide_eq_true (by omega)
   clear hx' hy';go_wp2_with (first
   | (go_at_call 35;refine(D1.out _ _ _ (HV.out.ext E.out) (HW.out.ext E.out)).mono ?_;rintro e wz ⟨rfl,he⟩;replace E:=zh (E.out.tr he);clear he D1;obtain⟨ra0,ra1,ra2,ra3,ra4,ra5,ra6,raL⟩:=Bk.j7 (KA.out.ext E.out);obtain⟨rb0,rb1,rb2,rb3,rb4,rb5,rb6,rbL⟩:=Bk.j7 (KB.out.ext E.out))
   | (go_at_call 30;refine(D2.out _ _ _ (HV.out.ext E.out) (HW.out.ext E.out)).mono ?_;rintro e wz ⟨rfl,he⟩;replace E:=zh (E.out.tr he);clear he D2;obtain⟨ra0,ra1,ra2,ra3,ra4,ra5,ra6,raL⟩:=Bk.j7 (KA.out.ext E.out);obtain⟨rb0,rb1,rb2,rb3,rb4,rb5,rb6,rbL⟩:=Bk.j7 (KB.out.ext E.out)))
   go_ret;exact⟨rfl,EE.out.tr E.out⟩
  have D1:=zh (fun(v v2:Value) (u:World) (h:Rv u v x') (h2:Rv u v2 y')=>zGw v v2 x' y' N u h h2)
  rw[show zAx x' y' N=true by rw[<- hx',<- hy'];exact FDH.out.view hkt] at D1
  have T1:=zh (fun(v:Value) (u:World) (h:Rv u v x')=>zEy v x' u h)
  have T2:=zh (fun(v:Value) (u:World) (h:Rv u v y')=>zEy v y' u h)
  have st:=FDH.out.step hkt;obtain⟨x2,hx2⟩:∃ x2,zAj x (k+1)=x2:=⟨_,rfl⟩;obtain⟨y2,hy2⟩:∃ y2,zAj y (k+1)=y2:=⟨_,rfl⟩;rw[hx',hy',hx2,hy2] at st;rw[st.1] at T1;rw[st.2] at T2;have HX2:=zh hx2;have HY2:=zh hy2;clear st hx2 hy2 hx' hy';go_upto_region 14 with (go_at_call 35;refine(D1.out _ _ _ (HV.out.ext E.out) (HW.out.ext E.out)).mono ?_;rintro e wz ⟨rfl,he⟩;replace E:=zh (E.out.tr he);clear he D1;obtain⟨ra0,ra1,ra2,ra3,ra4,ra5,ra6,raL⟩:=Bk.j7 (KA.out.ext E.out);obtain⟨rb0,rb1,rb2,rb3,rb4,rb5,rb6,rbL⟩:=Bk.j7 (KB.out.ext E.out))
  go_upto_region 15 with (go_at_call 23;refine(T1.out _ _ (HV.out.ext E.out)).mono ?_;rintro e w5 ⟨v5,rfl,ho,he⟩;obtain⟨t0,u0,t1,u1,t2,u2,t3,u3,t4,u4,t5,u5,rfl,-⟩:=ho.rv.openMachine;have BBn:=zh ((BBr.out.call E.out).putA he ho);replace E:=zh (E.out.tr he);clear he ho;have saK:=KA.out.ext E.out;obtain⟨sa0,sa1,sa2,sa3,sa4,sa5,sa6⟩:=Bk.k7 saK;have szf:=(KA.out.ext E.out).fz;have saL:=saK.lt;clear saK)
  refine zA1 (zLy 32 w A B x2 y') BBn.out ?_;clear BBn E KA KB HV HW BBr;rintro W6 bb;obtain⟨xe,⟨p0,q0,p1,q1,p2,q2,p3,q3,p4,q4,p5,q5,kA,hx⟩,⟨b0,d0,b1,d1,b2,d2,b3,d3,b4,d4,b5,d5,kB,hy⟩,-,-,-⟩:=id bb;have BBr:=zh bb;have HV:=zh hx.rv;have HW:=zh hy.rv;have KA:=zh kA;have KB:=zh kB;have E:=zh (zr W6);obtain⟨fa0,fa1,fa2,fa3,fa4,fa5,fa6,faL⟩:=Bk.j7 (KA.out.ext E.out);obtain⟨fb0,fb1,fb2,fb3,fb4,fb5,fb6,fbL⟩:=Bk.j7 (KB.out.ext E.out);go_wp2_with (go_at_call 23;refine(T2.out _ _ (HW.out.ext E.out)).mono ?_;rintro e w5 ⟨v5,rfl,ho,he⟩;obtain⟨t0,u0,t1,u1,t2,u2,t3,u3,t4,u4,t5,u5,rfl,-⟩:=ho.rv.openMachine;have BBn:=zh ((BBr.out.call E.out).putB he ho);replace E:=zh (E.out.tr he);clear he ho;have saK:=KB.out.ext E.out;obtain⟨sa0,sa1,sa2,sa3,sa4,sa5,sa6⟩:=Bk.k7 saK;have szf:=(KB.out.ext E.out).fz;have saL:=saK.lt;clear saK)
  exact⟨⟨k+1,by omega,by go_num,by rw[HX2.out,HY2.out];exact BBn.out⟩,by simp[intOf];omega⟩
end Sk
