/- Contracts of functions of the given program. -/
import Derived.Test.YtcghnbjifpfbjaaGreatZzzmWsM
import Derived.Test.YtcghnbjifpfbjaaGreatZzzcSfS
namespace Sk
open Go Go.Proofs Go.RowKit
set_option maxHeartbeats 8000000
set_option maxRecDepth 100000
set_option linter.unusedVariables false
set_option linter.unusedSimpArgs false
theorem zI5(v:Value)(xs:List By)(w:World)(h:Rs w v xs) :
  Calls Tryz.prog 6 #[v] w fun e w' => ∃ v1 v2 x y n,e = .returned (.tuple #[v1,v2,.int .i64 n])/\Rvb (α:=Machine) w.heap.size w' v1 x/\Rvb (α:=Machine) w.heap.size w' v2 y/\GT.tot x<=200000/\(-1<=n/\n<=200000)/\Ext w w':=by
 have H:=zh h;clear h;go_enter Tryz.func6,Tryz.ntmps6;go_upto_region 1 with (fail)
 refine zA1 (fun u=>Ext w u/\Bk u w.heap.size [.slice none 0 0,.slice none 0 0,.slice none 0 0,.slice none 0 0,.slice none 0 0,.slice none 0 0,.int .i64 0] 32/\Bk u (w.heap.size+1) [.slice none 0 0,.slice none 0 0,.slice none 0 0,.slice none 0 0,.slice none 0 0,.slice none 0 0,.int .i64 0] 32) ⟨((zr _).alloc _).alloc _,(Bk.new _ _ _).ext ((zr _).alloc _),Bk.new1 _ _ _ _⟩ ?_
 rintro W0 ⟨e0,k2,k3⟩;have HE0:=zh e0;have K20:=zh k2;have K30:=zh k3;have l30:=k3.lt;clear e0 k2 k3;have hne23:w.heap.size≠w.heap.size+1:=by omega
 go_wp2_with (first
  | (go_at_call 22;refine(zHq _ _ _ (H.out.ext HE0.out)).mono ?_;rintro e w1 ⟨b,rfl,hb,he,hr⟩;have HE:=zh he;have hs1:=he.sz;have hb1:=hr.lt;have HR:Hid (Rd W0 w1 b (10+700+1200)):=zh (hr.le (by omega));clear he hr)
  | (go_at_call 21;refine(zHr W0 _ b 10 HR.out).mono ?_;rintro e w2 ⟨v1,v2,x,y,n,rfl,hv,hw,htt,hn,hm,hr⟩;obtain⟨p0,q0,p1,q1,p2,q2,p3,q3,p4,q4,p5,q5,rfl,-⟩:=hv.openMc;obtain⟨c0,d0,c1,d1,c2,d2,c3,d3,c4,d4,c5,d5,rfl,-⟩:=hw.openMc;have K22:=zh (hm.bk (K20.out.ext HE.out) (by simp;omega));have K32:=zh (hm.bk (K30.out.ext HE.out) (by simp;omega));have HV:=zh hv;have HW:=zh hw;have HTT:=zh htt;have HN:=zh hn;have HM2:=zh (hm.ext (HE0.out.tr HE.out) (by simp;omega));have HRB:=zh hr;obtain⟨z0,z1,z2,z3,z4,z5,z6⟩:=Bk.k7 K22.out;obtain⟨y0,y1,y2,y3,y4,y5,y6⟩:=Bk.k7 K32.out;have zf:=K22.out.fz;have zl:=K22.out.lt;have yf:=K32.out.fz;have yl:=K32.out.lt;clear hm hr hv hw htt hn))
 refine bodyPost_ret (v:=.tuple #[.agg #[.slice p0 x.Plan.Parts.length q0,.slice p1 x.Plan.Channels.length q1,.slice p2 x.Plan.Slots.length q2,.slice p3 x.Programs.length q3,.slice p4 x.Cores.length q4,.slice p5 x.Holds.length q5,.int .i64 x.Tick],.agg #[.slice c0 y.Plan.Parts.length d0,.slice c1 y.Plan.Channels.length d1,.slice c2 y.Plan.Slots.length d2,.slice c3 y.Programs.length d3,.slice c4 y.Cores.length d4,.slice c5 y.Holds.length d5,.int .i64 y.Tick],.int .i64 n]) (by simp[results,Tryz.results6,go_sem,z0,y0,z1,y1,z2,y2,z3,y3,z4,y4,z5,y5,z6,y6]) rfl ⟨_,_,x,y,n,rfl,?_,?_,HTT.out,HN.out,?_⟩
 ·exact(Rvb.puts (A:=w.heap.size+1) (o:=0) (by omega) [.slice c0 y.Plan.Parts.length d0,.slice c1 y.Plan.Channels.length d1,.slice c2 y.Plan.Slots.length d2,.slice c3 y.Programs.length d3,.slice c4 y.Cores.length d4,.slice c5 y.Holds.length d5,.int .i64 y.Tick] (Rvb.puts (A:=w.heap.size) (o:=0) (by omega) [.slice p0 x.Plan.Parts.length q0,.slice p1 x.Plan.Channels.length q1,.slice p2 x.Plan.Slots.length q2,.slice p3 x.Programs.length q3,.slice p4 x.Cores.length q4,.slice p5 x.Holds.length q5,.int .i64 x.Tick] HV.out)).mono (by omega)
 ·exact(Rvb.puts (A:=w.heap.size+1) (o:=0) (by omega) [.slice c0 y.Plan.Parts.length d0,.slice c1 y.Plan.Channels.length d1,.slice c2 y.Plan.Slots.length d2,.slice c3 y.Programs.length d3,.slice c4 y.Cores.length d4,.slice c5 y.Holds.length d5,.int .i64 y.Tick] (Rvb.puts (A:=w.heap.size) (o:=0) (by omega) [.slice p0 x.Plan.Parts.length q0,.slice p1 x.Plan.Channels.length q1,.slice p2 x.Plan.Slots.length q2,.slice p3 x.Programs.length q3,.slice p4 x.Cores.length q4,.slice p5 x.Holds.length q5,.int .i64 x.Tick] HW.out)).mono (by omega)
 ·exact Ext.puts (b:=w.heap.size+1) (o:=0) (by omega) [.slice c0 y.Plan.Parts.length d0,.slice c1 y.Plan.Channels.length d1,.slice c2 y.Plan.Slots.length d2,.slice c3 y.Programs.length d3,.slice c4 y.Cores.length d4,.slice c5 y.Holds.length d5,.int .i64 y.Tick] (Ext.puts (b:=w.heap.size) (o:=0) (Nat.le_refl _) [.slice p0 x.Plan.Parts.length q0,.slice p1 x.Plan.Channels.length q1,.slice p2 x.Plan.Slots.length q2,.slice p3 x.Programs.length q3,.slice p4 x.Cores.length q4,.slice p5 x.Holds.length q5,.int .i64 x.Tick] HM2.out)
theorem zN0(v:Value)(xs:List By)(w:World)(h:Rs w v xs) :
  Calls Tryz.prog 12 #[v] w fun e w' => ∃ v1 v2 x y n,e = .returned (.tuple #[v1,v2,.int .i64 n])/\Rvb (α:=Machine) w.heap.size w' v1 x/\Rvb (α:=Machine) w.heap.size w' v2 y/\GT.tot x<=200000/\(-1<=n/\n<=200000)/\Ext w w':=by
 have H:=zh h;clear h;go_enter Tryz.func12,Tryz.ntmps12;go_upto_region 1 with (fail)
 refine zA1 (fun u=>Ext w u/\Bk u w.heap.size [.slice none 0 0,.slice none 0 0,.slice none 0 0,.slice none 0 0,.slice none 0 0,.slice none 0 0,.int .i64 0] 32/\Bk u (w.heap.size+1) [.slice none 0 0,.slice none 0 0,.slice none 0 0,.slice none 0 0,.slice none 0 0,.slice none 0 0,.int .i64 0] 32) ⟨((zr _).alloc _).alloc _,(Bk.new _ _ _).ext ((zr _).alloc _),Bk.new1 _ _ _ _⟩ ?_
 rintro W0 ⟨e0,k2,k3⟩;have HE0:=zh e0;have K20:=zh k2;have K30:=zh k3;have l30:=k3.lt;clear e0 k2 k3;have hne23:w.heap.size≠w.heap.size+1:=by omega
 go_wp2_with (first
  | (go_at_call 22;refine(zHq _ _ _ (H.out.ext HE0.out)).mono ?_;rintro e w1 ⟨b,rfl,hb,he,hr⟩;have HE:=zh he;have hs1:=he.sz;have hb1:=hr.lt;have HR:Hid (Rd W0 w1 b (10+700+1200)):=zh (hr.le (by omega));clear he hr)
  | (go_at_call 21;refine(zHr W0 _ b 10 HR.out).mono ?_;rintro e w2 ⟨v1,v2,x,y,n,rfl,hv,hw,htt,hn,hm,hr⟩;obtain⟨p0,q0,p1,q1,p2,q2,p3,q3,p4,q4,p5,q5,rfl,-⟩:=hv.openMc;obtain⟨c0,d0,c1,d1,c2,d2,c3,d3,c4,d4,c5,d5,rfl,-⟩:=hw.openMc;have K22:=zh (hm.bk (K20.out.ext HE.out) (by simp;omega));have K32:=zh (hm.bk (K30.out.ext HE.out) (by simp;omega));have HV:=zh hv;have HW:=zh hw;have HTT:=zh htt;have HN:=zh hn;have HM2:=zh (hm.ext (HE0.out.tr HE.out) (by simp;omega));have HRB:=zh hr;obtain⟨z0,z1,z2,z3,z4,z5,z6⟩:=Bk.k7 K22.out;obtain⟨y0,y1,y2,y3,y4,y5,y6⟩:=Bk.k7 K32.out;have zf:=K22.out.fz;have zl:=K22.out.lt;have yf:=K32.out.fz;have yl:=K32.out.lt;clear hm hr hv hw htt hn))
 refine bodyPost_ret (v:=.tuple #[.agg #[.slice p0 x.Plan.Parts.length q0,.slice p1 x.Plan.Channels.length q1,.slice p2 x.Plan.Slots.length q2,.slice p3 x.Programs.length q3,.slice p4 x.Cores.length q4,.slice p5 x.Holds.length q5,.int .i64 x.Tick],.agg #[.slice c0 y.Plan.Parts.length d0,.slice c1 y.Plan.Channels.length d1,.slice c2 y.Plan.Slots.length d2,.slice c3 y.Programs.length d3,.slice c4 y.Cores.length d4,.slice c5 y.Holds.length d5,.int .i64 y.Tick],.int .i64 n]) (by simp[results,Tryz.results12,go_sem,z0,y0,z1,y1,z2,y2,z3,y3,z4,y4,z5,y5,z6,y6]) rfl ⟨_,_,x,y,n,rfl,?_,?_,HTT.out,HN.out,?_⟩
 ·exact(Rvb.puts (A:=w.heap.size+1) (o:=0) (by omega) [.slice c0 y.Plan.Parts.length d0,.slice c1 y.Plan.Channels.length d1,.slice c2 y.Plan.Slots.length d2,.slice c3 y.Programs.length d3,.slice c4 y.Cores.length d4,.slice c5 y.Holds.length d5,.int .i64 y.Tick] (Rvb.puts (A:=w.heap.size) (o:=0) (by omega) [.slice p0 x.Plan.Parts.length q0,.slice p1 x.Plan.Channels.length q1,.slice p2 x.Plan.Slots.length q2,.slice p3 x.Programs.length q3,.slice p4 x.Cores.length q4,.slice p5 x.Holds.length q5,.int .i64 x.Tick] HV.out)).mono (by omega)
 ·exact(Rvb.puts (A:=w.heap.size+1) (o:=0) (by omega) [.slice c0 y.Plan.Parts.length d0,.slice c1 y.Plan.Channels.length d1,.slice c2 y.Plan.Slots.length d2,.slice c3 y.Programs.length d3,.slice c4 y.Cores.length d4,.slice c5 y.Holds.length d5,.int .i64 y.Tick] (Rvb.puts (A:=w.heap.size) (o:=0) (by omega) [.slice p0 x.Plan.Parts.length q0,.slice p1 x.Plan.Channels.length q1,.slice p2 x.Plan.Slots.length q2,.slice p3 x.Programs.length q3,.slice p4 x.Cores.length q4,.slice p5 x.Holds.length q5,.int .i64 x.Tick] HW.out)).mono (by omega)
 ·exact Ext.puts (b:=w.heap.size+1) (o:=0) (by omega) [.slice c0 y.Plan.Parts.length d0,.slice c1 y.Plan.Channels.length d1,.slice c2 y.Plan.Slots.length d2,.slice c3 y.Programs.length d3,.slice c4 y.Cores.length d4,.slice c5 y.Holds.length d5,.int .i64 y.Tick] (Ext.puts (b:=w.heap.size) (o:=0) (Nat.le_refl _) [.slice p0 x.Plan.Parts.length q0,.slice p1 x.Plan.Channels.length q1,.slice p2 x.Plan.Slots.length q2,.slice p3 x.Programs.length q3,.slice p4 x.Cores.length q4,.slice p5 x.Holds.length q5,.int .i64 x.Tick] HM2.out)
set_option maxHeartbeats 1000000
def Rvx{α:Type}[GT α](G:List Nat)(w:World)(v:Value)(x : α):Prop:=∃ cs F,v = .agg cs.toArray/\GT.enc w cs x F/\∀ k∈F,k ∉ G
theorem Rvx.rv{α:Type}[GT α]{G:List Nat}{w:World}{v:Value}{x : α}(h:Rvx G w v x):Rv w v x:=by obtain⟨cs,F,h1,h2,_⟩:=h;exact⟨cs,F,h1,h2⟩
theorem Rvx.of{α:Type}[GT α]{G:List Nat}{w:World}{v:Value}{x : α}(h:Rv w v x)(hG:∀ k∈G,w.heap.size<=k):Rvx G w v x:=by
 obtain⟨cs,F,h1,h2⟩:=h;exact⟨cs,F,h1,h2,fun k hk hm=>by have:=GT.inh h2 k hk;have:=hG k hm;omega⟩
theorem Rvx.ov{α:Type}[GT α]{G:List Nat}{L:Nat}{w:World}{v:Value}{x : α}(h:Ov L w v x)(hG:∀ k∈G,k < L):Rvx G w v x:=by
 obtain⟨cs,F,h1,h2,h3⟩:=h;exact⟨cs,F,h1,h2,fun k hk hm=>by have:=(h3.2 k hk).1;have:=hG k hm;omega⟩
theorem Rvx.mw{α:Type}[GT α]{G:List Nat}{w w':World}{v:Value}{x : α}(h:Rvx G w v x)(k:Mw G w w'):Rvx G w' v x:=by
 obtain⟨cs,F,h1,h2,h3⟩:=h;exact⟨cs,F,h1,k.enc h2 (fun y hy hf=>h3 y hy hf),h3⟩
theorem Rvx.ext{α:Type}[GT α]{G:List Nat}{w w':World}{v:Value}{x : α}(h:Rvx G w v x)(k:Ext w w'):Rvx G w' v x:=h.mw (Mw.ofExt k)
structure zLh (T:TypeId) (w:World) (A B:Nat) (x y:Machine) (u:World):Prop where
 ext:Ext w u
 ra:∃ p0 q0 p1 q1 p2 q2 p3 q3 p4 q4 p5 q5,Bk u A [.slice p0 x.Plan.Parts.length q0,.slice p1 x.Plan.Channels.length q1,.slice p2 x.Plan.Slots.length q2,.slice p3 x.Programs.length q3,.slice p4 x.Cores.length q4,.slice p5 x.Holds.length q5,.int .i64 x.Tick] T/\Rvx [A,B] u (.agg #[.slice p0 x.Plan.Parts.length q0,.slice p1 x.Plan.Channels.length q1,.slice p2 x.Plan.Slots.length q2,.slice p3 x.Programs.length q3,.slice p4 x.Cores.length q4,.slice p5 x.Holds.length q5,.int .i64 x.Tick]) x
 rb:∃ b0 d0 b1 d1 b2 d2 b3 d3 b4 d4 b5 d5,Bk u B [.slice b0 y.Plan.Parts.length d0,.slice b1 y.Plan.Channels.length d1,.slice b2 y.Plan.Slots.length d2,.slice b3 y.Programs.length d3,.slice b4 y.Cores.length d4,.slice b5 y.Holds.length d5,.int .i64 y.Tick] T/\Rvx [A,B] u (.agg #[.slice b0 y.Plan.Parts.length d0,.slice b1 y.Plan.Channels.length d1,.slice b2 y.Plan.Slots.length d2,.slice b3 y.Programs.length d3,.slice b4 y.Cores.length d4,.slice b5 y.Holds.length d5,.int .i64 y.Tick]) y
 hA:w.heap.size<=A
 hB:w.heap.size<=B
 ne:A≠B
theorem zLh.call{T:TypeId}{w:World}{A B:Nat}{x y:Machine}{u u':World}(h:zLh T w A B x y u)(he:Ext u u'):zLh T w A B x y u':=by
 obtain⟨h1,⟨p0,q0,p1,q1,p2,q2,p3,q3,p4,q4,p5,q5,ka,ra⟩,⟨b0,d0,b1,d1,b2,d2,b3,d3,b4,d4,b5,d5,kb,rb⟩,h2,h3,h4⟩:=h;exact⟨h1.tr he,⟨_,_,_,_,_,_,_,_,_,_,_,_,ka.ext he,ra.ext he⟩,⟨_,_,_,_,_,_,_,_,_,_,_,_,kb.ext he,rb.ext he⟩,h2,h3,h4⟩
theorem zLh.putA{T:TypeId}{w:World}{A B:Nat}{x y x':Machine}{u u':World}(h:zLh T w A B x y u)(he:Ext u u'){t0 t1 t2 t3 t4 t5:Option Addr}{u0 u1 u2 u3 u4 u5:Nat}(ho:Ov u.heap.size u' (.agg #[.slice t0 x'.Plan.Parts.length u0,.slice t1 x'.Plan.Channels.length u1,.slice t2 x'.Plan.Slots.length u2,.slice t3 x'.Programs.length u3,.slice t4 x'.Cores.length u4,.slice t5 x'.Holds.length u5,.int .i64 x'.Tick]) x'):zLh T w A B x' y (zAc u' A 0 [.slice t0 x'.Plan.Parts.length u0,.slice t1 x'.Plan.Channels.length u1,.slice t2 x'.Plan.Slots.length u2,.slice t3 x'.Programs.length u3,.slice t4 x'.Cores.length u4,.slice t5 x'.Holds.length u5,.int .i64 x'.Tick]):=by
 obtain⟨h1,⟨p0,q0,p1,q1,p2,q2,p3,q3,p4,q4,p5,q5,ka,ra⟩,⟨b0,d0,b1,d1,b2,d2,b3,d3,b4,d4,b5,d5,kb,rb⟩,h2,h3,h4⟩:=h;have la:=ka.lt;have lb:=kb.lt;have hm:Mw [A,B] u' (zAc u' A 0 [.slice t0 x'.Plan.Parts.length u0,.slice t1 x'.Plan.Channels.length u1,.slice t2 x'.Plan.Slots.length u2,.slice t3 x'.Programs.length u3,.slice t4 x'.Cores.length u4,.slice t5 x'.Holds.length u5,.int .i64 x'.Tick]):=Mw.puts (b:=A) (o:=0) (.inl (by simp)) [.slice t0 x'.Plan.Parts.length u0,.slice t1 x'.Plan.Channels.length u1,.slice t2 x'.Plan.Slots.length u2,.slice t3 x'.Programs.length u3,.slice t4 x'.Cores.length u4,.slice t5 x'.Holds.length u5,.int .i64 x'.Tick] (Mw.refl _ _)
 exact⟨Ext.puts (b:=A) (o:=0) h2 [.slice t0 x'.Plan.Parts.length u0,.slice t1 x'.Plan.Channels.length u1,.slice t2 x'.Plan.Slots.length u2,.slice t3 x'.Programs.length u3,.slice t4 x'.Cores.length u4,.slice t5 x'.Holds.length u5,.int .i64 x'.Tick] (h1.tr he),⟨_,_,_,_,_,_,_,_,_,_,_,_,(ka.ext he).puts [.slice t0 x'.Plan.Parts.length u0,.slice t1 x'.Plan.Channels.length u1,.slice t2 x'.Plan.Slots.length u2,.slice t3 x'.Programs.length u3,.slice t4 x'.Cores.length u4,.slice t5 x'.Holds.length u5,.int .i64 x'.Tick] rfl,(Rvx.ov ho (by simp only[List.mem_cons,List.not_mem_nil,or_false];omega)).mw hm⟩,⟨_,_,_,_,_,_,_,_,_,_,_,_,(kb.ext he).puts_ne (c:=A) (o:=0) (ds:=[.slice t0 x'.Plan.Parts.length u0,.slice t1 x'.Plan.Channels.length u1,.slice t2 x'.Plan.Slots.length u2,.slice t3 x'.Programs.length u3,.slice t4 x'.Cores.length u4,.slice t5 x'.Holds.length u5,.int .i64 x'.Tick]) h4.symm,(rb.ext he).mw hm⟩,h2,h3,h4⟩
theorem zLh.swap{T:TypeId}{w:World}{A B:Nat}{x y:Machine}{u:World}(h:zLh T w A B x y u):zLh T w B A y x u:=by
 obtain⟨h1,⟨p0,q0,p1,q1,p2,q2,p3,q3,p4,q4,p5,q5,ka,ra⟩,⟨b0,d0,b1,d1,b2,d2,b3,d3,b4,d4,b5,d5,kb,rb⟩,h2,h3,h4⟩:=h;have sw:∀ {v:Value} {z:Machine},Rvx [A,B] u v z->Rvx [B,A] u v z:=fun⟨cs,F,h1,h2,h3⟩=>⟨cs,F,h1,h2,fun k hk hm=>h3 k hk (by simp only[List.mem_cons,List.not_mem_nil,or_false] at hm ⊢;omega)⟩
 exact⟨h1,⟨_,_,_,_,_,_,_,_,_,_,_,_,kb,sw rb⟩,⟨_,_,_,_,_,_,_,_,_,_,_,_,ka,sw ra⟩,h3,h2,h4.symm⟩
theorem zLh.putB{T:TypeId}{w:World}{A B:Nat}{x y y':Machine}{u u':World}(h:zLh T w A B x y u)(he:Ext u u'){t0 t1 t2 t3 t4 t5:Option Addr}{u0 u1 u2 u3 u4 u5:Nat}(ho:Ov u.heap.size u' (.agg #[.slice t0 y'.Plan.Parts.length u0,.slice t1 y'.Plan.Channels.length u1,.slice t2 y'.Plan.Slots.length u2,.slice t3 y'.Programs.length u3,.slice t4 y'.Cores.length u4,.slice t5 y'.Holds.length u5,.int .i64 y'.Tick]) y'):zLh T w A B x y' (zAc u' B 0 [.slice t0 y'.Plan.Parts.length u0,.slice t1 y'.Plan.Channels.length u1,.slice t2 y'.Plan.Slots.length u2,.slice t3 y'.Programs.length u3,.slice t4 y'.Cores.length u4,.slice t5 y'.Holds.length u5,.int .i64 y'.Tick]):=(h.swap.putA he ho).swap
def M.SBB(T:TypeId)(w:World)(A B N:Nat)(u:World):Prop:=∃ x y,zFg x y N/\zLh T w A B x y u
set_option maxHeartbeats 4000000
theorem zMw(v:Value)(xs:List By)(w:World)(h:Rs w v xs) :
  Calls Tryz.prog 3 #[v] w fun e w'=>e = .returned (.bool true)/\Ext w w':=by
 obtain⟨a,c,rfl,hl⟩:=h.form;have H:=zh h;clear h;by_cases hx:xs.length<=1048576
 case neg =>
  have hx2:1048576 < xs.length:=by omega
  clear hx;go_enter Tryz.func3,Tryz.ntmps3;go_wp2;go_ret;exact⟨rfl,zr w⟩
 go_enter Tryz.func3,Tryz.ntmps3;go_upto_region 4 with (go_at_call 6;refine(zI5 _ _ _ H.out).mono ?_;rintro e w1 ⟨v1,v2,x,y,n,rfl,hv,hw,htt,hn,he⟩;obtain⟨p0,q0,p1,q1,p2,q2,p3,q3,p4,q4,p5,q5,rfl,-⟩:=hv.openMc;obtain⟨b0,d0,b1,d1,b2,d2,b3,d3,b4,d4,b5,d5,rfl,-⟩:=hw.openMc;have HV:=zh hv.rv;have HW:=zh hw.rv;have HTT:=zh htt;have HE:=zh he;clear hv hw htt he)
 obtain⟨A,hA⟩:∃ A,A=w1.heap.size:=⟨_,rfl⟩;obtain⟨B,hB⟩:∃ B,B=w1.heap.size+1:=⟨_,rfl⟩;refine zA1 (fun u=>Ext w1 u/\Bk u A [.slice p0 x.Plan.Parts.length q0,.slice p1 x.Plan.Channels.length q1,.slice p2 x.Plan.Slots.length q2,.slice p3 x.Programs.length q3,.slice p4 x.Cores.length q4,.slice p5 x.Holds.length q5,.int .i64 x.Tick] 32/\Bk u B [.slice b0 y.Plan.Parts.length d0,.slice b1 y.Plan.Channels.length d1,.slice b2 y.Plan.Slots.length d2,.slice b3 y.Programs.length d3,.slice b4 y.Cores.length d4,.slice b5 y.Holds.length d5,.int .i64 y.Tick] 32) ⟨((zr _).alloc _).alloc _,by rw[hA];exact(Bk.new _ _ _).ext ((zr _).alloc _),by rw[hB];exact Bk.new1 _ _ _ _⟩ ?_
 rw[<- hB,<- hA];rintro W1 ⟨e1,kA,kB⟩;have hAB:A≠B:=by omega
 have hAw:w.heap.size<=A:=by have:=HE.out.sz;omega
 have hBw:w.heap.size<=B:=by have:=HE.out.sz;omega
 have HX:Hid (Rvx [A,B] W1 (.agg #[.slice p0 x.Plan.Parts.length q0,.slice p1 x.Plan.Channels.length q1,.slice p2 x.Plan.Slots.length q2,.slice p3 x.Programs.length q3,.slice p4 x.Cores.length q4,.slice p5 x.Holds.length q5,.int .i64 x.Tick]) x):=zh ((Rvx.of HV.out (by simp only[List.mem_cons,List.not_mem_nil,or_false];omega)).ext e1)
 have HXB:Hid (Rvx [A,B] W1 (.agg #[.slice b0 y.Plan.Parts.length d0,.slice b1 y.Plan.Channels.length d1,.slice b2 y.Plan.Slots.length d2,.slice b3 y.Programs.length d3,.slice b4 y.Cores.length d4,.slice b5 y.Holds.length d5,.int .i64 y.Tick]) y):=zh ((Rvx.of HW.out (by simp only[List.mem_cons,List.not_mem_nil,or_false];omega)).ext e1)
 clear hA hB H;replace HV:=zh (HV.out.ext e1);replace HW:=zh (HW.out.ext e1);replace HE:=zh (HE.out.tr e1);have KA:=zh kA;have KB:=zh kB;clear e1 kA kB;have E:=zh (zr W1);have hnr:rng n:=zAg (by have:=hn.1;omega) (by have:=hn.2;omega)
 have hxc:x.Cores.length<=200000:=by
  have h1:=zD7 x;have h2:=zBd (xs:=x.Cores)
  have:=HTT.out
  omega
 obtain⟨ok,hok⟩:∃ ok,zBx x y n=ok:=⟨_,rfl⟩;have C1:=zh (fun(v v2:Value) (u:World) (h:Rv u v x) (k:Rv u v2 y)=>zEx v v2 x y n u h k)
 have C2:=zh (fun(v v2:Value) (u:World) (h:Rv u v x) (k:Rv u v2 y)=>zLe v v2 x y n u h k)
 have C3:=zh (fun(v v2:Value) (u:World) (h:Rv u v y) (k:Rv u v2 x)=>zEx v v2 y x n u h k)
 rw[zJd y x n] at C3;rw[hok] at C1 C2 C3;obtain⟨fa0,fa1,fa2,fa3,fa4,fa5,fa6,faL⟩:=Bk.j7 (KA.out.ext E.out);obtain⟨fb0,fb1,fb2,fb3,fb4,fb5,fb6,fbL⟩:=Bk.j7 (KB.out.ext E.out);cases ok
 ·go_wp2_with (first
   | (go_at_call 7;refine(C1.out _ _ _ (HV.out.ext E.out) (HW.out.ext E.out)).mono ?_;rintro e wz ⟨rfl,he⟩;replace E:=zh (E.out.tr he);clear he C1;obtain⟨ra0,ra1,ra2,ra3,ra4,ra5,ra6,raL⟩:=Bk.j7 (KA.out.ext E.out);obtain⟨rb0,rb1,rb2,rb3,rb4,rb5,rb6,rbL⟩:=Bk.j7 (KB.out.ext E.out))
   | (go_at_call 8;refine(C2.out _ _ _ (HV.out.ext E.out) (HW.out.ext E.out)).mono ?_;rintro e wz ⟨rfl,he⟩;replace E:=zh (E.out.tr he);clear he C2;obtain⟨ra0,ra1,ra2,ra3,ra4,ra5,ra6,raL⟩:=Bk.j7 (KA.out.ext E.out);obtain⟨rb0,rb1,rb2,rb3,rb4,rb5,rb6,rbL⟩:=Bk.j7 (KB.out.ext E.out))
   | (go_at_call 7;refine(C3.out _ _ _ (HW.out.ext E.out) (HV.out.ext E.out)).mono ?_;rintro e wz ⟨rfl,he⟩;replace E:=zh (E.out.tr he);clear he C3;obtain⟨ra0,ra1,ra2,ra3,ra4,ra5,ra6,raL⟩:=Bk.j7 (KA.out.ext E.out);obtain⟨rb0,rb1,rb2,rb3,rb4,rb5,rb6,rbL⟩:=Bk.j7 (KB.out.ext E.out))
   | (go_at_call 9;refine(law_alive _).mono ?_;rintro e w9 ⟨rfl,he⟩;replace E:=zh (E.out.tr he);clear he))
  go_ret;exact⟨rfl,HE.out.tr E.out⟩
 obtain⟨N,hN,sf⟩:∃ N:Nat,n=N/\zFg x y N:=by
  obtain⟨N,e,h⟩:=Bo.iff.1 hok;exact⟨N,e,h⟩
 subst hN;have SFH:=zh sf;clear hok sf;go_upto_region 9 with (first
   | (go_at_call 7;refine(C1.out _ _ _ (HV.out.ext E.out) (HW.out.ext E.out)).mono ?_;rintro e wz ⟨rfl,he⟩;replace E:=zh (E.out.tr he);clear he C1;obtain⟨ra0,ra1,ra2,ra3,ra4,ra5,ra6,raL⟩:=Bk.j7 (KA.out.ext E.out);obtain⟨rb0,rb1,rb2,rb3,rb4,rb5,rb6,rbL⟩:=Bk.j7 (KB.out.ext E.out))
   | (go_at_call 8;refine(C2.out _ _ _ (HV.out.ext E.out) (HW.out.ext E.out)).mono ?_;rintro e wz ⟨rfl,he⟩;replace E:=zh (E.out.tr he);clear he C2;obtain⟨ra0,ra1,ra2,ra3,ra4,ra5,ra6,raL⟩:=Bk.j7 (KA.out.ext E.out);obtain⟨rb0,rb1,rb2,rb3,rb4,rb5,rb6,rbL⟩:=Bk.j7 (KB.out.ext E.out))
   | (go_at_call 7;refine(C3.out _ _ _ (HW.out.ext E.out) (HV.out.ext E.out)).mono ?_;rintro e wz ⟨rfl,he⟩;replace E:=zh (E.out.tr he);clear he C3;obtain⟨ra0,ra1,ra2,ra3,ra4,ra5,ra6,raL⟩:=Bk.j7 (KA.out.ext E.out);obtain⟨rb0,rb1,rb2,rb3,rb4,rb5,rb6,rbL⟩:=Bk.j7 (KB.out.ext E.out)))
 have BB0:Hid (zLh 32 w A B x y _):=zh (zLh.call ⟨HE.out,⟨_,_,_,_,_,_,_,_,_,_,_,_,KA.out,HX.out⟩,⟨_,_,_,_,_,_,_,_,_,_,_,_,KB.out,HXB.out⟩,hAw,hBw,hAB⟩ E.out);have HSB:Hid (M.SBB 32 w A B N _):=zh ⟨_,_,SFH.out,BB0.out⟩;clear BB0 KA KB HX HXB HV HW HE SFH hxc hn HTT;obtain⟨W2,hW2⟩:∃ W2,W2=w:=⟨_,rfl⟩;go_wp2;go_loopw [7] (fun i wr => ∃ k:Nat,k<=60/\i = .int .i64 k/\M.SBB 32 w A B N wr) (fun i _=>60 - (intOf i).toNat)
 case atStart=>exact⟨0,Nat.zero_le _,rfl,HSB.out⟩
 case round =>
  clear HSB;obtain⟨k,hk,rfl,x',y',sf,bb⟩:=hrel;by_cases hkt:k < 60
  case neg =>
   have EE:=zh bb.ext;clear bb sf;go_wp2;go_ret;exact⟨rfl,EE.out⟩
  obtain⟨xe,⟨p0,q0,p1,q1,p2,q2,p3,q3,p4,q4,p5,q5,kA,hx⟩,⟨b0,d0,b1,d1,b2,d2,b3,d3,b4,d4,b5,d5,kB,hy⟩,-,-,-⟩:=id bb;have BBr:=zh bb;have HV:=zh hx.rv;have HW:=zh hy.rv;have KA:=zh kA;have KB:=zh kB;have E:=zh (zr wr);have SFr:=zh sf;have D1:=zh (fun(v v2:Value) (u:World) (h:Rv u v x') (k:Rv u v2 y')=>zEx v v2 x' y' N u h k)
  have D2:=zh (fun(v v2:Value) (u:World) (h:Rv u v x') (k:Rv u v2 y')=>zKm v v2 x' y' N u h k)
  rw[zD6.2 sf] at D1;rw[sf.sameView] at D2;clear bb sf hx hy kA kB xe;obtain⟨fa0,fa1,fa2,fa3,fa4,fa5,fa6,faL⟩:=Bk.j7 (KA.out.ext E.out);obtain⟨fb0,fb1,fb2,fb3,fb4,fb5,fb6,fbL⟩:=Bk.j7 (KB.out.ext E.out)
  go_upto_if 53 with (first
   | (go_at_call 7;refine(D1.out _ _ _ (HV.out.ext E.out) (HW.out.ext E.out)).mono ?_;rintro e wz ⟨rfl,he⟩;replace E:=zh (E.out.tr he);clear he D1;obtain⟨ra0,ra1,ra2,ra3,ra4,ra5,ra6,raL⟩:=Bk.j7 (KA.out.ext E.out);obtain⟨rb0,rb1,rb2,rb3,rb4,rb5,rb6,rbL⟩:=Bk.j7 (KB.out.ext E.out))
   | (go_at_call 10;refine(D2.out _ _ _ (HV.out.ext E.out) (HW.out.ext E.out)).mono ?_;rintro e wz ⟨rfl,he⟩;replace E:=zh (E.out.tr he);clear he D2;obtain⟨ra0,ra1,ra2,ra3,ra4,ra5,ra6,raL⟩:=Bk.j7 (KA.out.ext E.out);obtain⟨rb0,rb1,rb2,rb3,rb4,rb5,rb6,rbL⟩:=Bk.j7 (KB.out.ext E.out)))
  by_cases ht:x'.Tick < 100000
  case neg =>
   have htb:decide (x'.Tick < 100000)=false:=decide_eq_false ht;clear ht;go_wp2;exact⟨⟨k+1,by omega,by go_num,⟨x',y',SFr.out,BBr.out.call E.out⟩⟩,by simp[intOf];omega⟩
  case pos =>
   have htb:decide (x'.Tick < 100000)=true:=decide_eq_true ht;have sf2:=SFr.out.tickM ht;have T1:=zh (fun(v:Value) (u:World) (h:Rv u v x')=>zEk v x' u h)
   have T2:=zh (fun(v:Value) (u:World) (h:Rv u v y')=>zEk v y' u h)
   obtain⟨x2,hx2⟩:∃ x2,zBu x'=x2:=⟨_,rfl⟩;obtain⟨y2,hy2⟩:∃ y2,zBu y'=y2:=⟨_,rfl⟩;rw[hx2] at sf2 T1;rw[hy2] at sf2 T2;have SF2:=zh sf2;clear sf2 hx2 hy2 ht SFr;go_upto_region 16 with (go_at_call 11;refine(T1.out _ _ (HV.out.ext E.out)).mono ?_;rintro e w5 ⟨v5,rfl,ho,he⟩;obtain⟨t0,u0,t1,u1,t2,u2,t3,u3,t4,u4,t5,u5,rfl,-⟩:=ho.rv.openMachine;have BBn:=zh ((BBr.out.call E.out).putA he ho);replace E:=zh (E.out.tr he);clear he ho;have saK:=KA.out.ext E.out;obtain⟨sa0,sa1,sa2,sa3,sa4,sa5,sa6⟩:=Bk.k7 saK;have szf:=(KA.out.ext E.out).fz;have saL:=saK.lt;clear saK)
   refine zA1 (zLh 32 w A B x2 y') BBn.out ?_;clear BBn E KA KB HV HW BBr;rintro W6 bb;obtain⟨xe,⟨p0,q0,p1,q1,p2,q2,p3,q3,p4,q4,p5,q5,kA,hx⟩,⟨b0,d0,b1,d1,b2,d2,b3,d3,b4,d4,b5,d5,kB,hy⟩,-,-,-⟩:=id bb;have BBr:=zh bb;have HV:=zh hx.rv;have HW:=zh hy.rv;have KA:=zh kA;have KB:=zh kB;have E:=zh (zr W6);obtain⟨fa0,fa1,fa2,fa3,fa4,fa5,fa6,faL⟩:=Bk.j7 (KA.out.ext E.out);obtain⟨fb0,fb1,fb2,fb3,fb4,fb5,fb6,fbL⟩:=Bk.j7 (KB.out.ext E.out);go_wp2_with (go_at_call 11;refine(T2.out _ _ (HW.out.ext E.out)).mono ?_;rintro e w5 ⟨v5,rfl,ho,he⟩;obtain⟨t0,u0,t1,u1,t2,u2,t3,u3,t4,u4,t5,u5,rfl,-⟩:=ho.rv.openMachine;have BBn:=zh ((BBr.out.call E.out).putB he ho);replace E:=zh (E.out.tr he);clear he ho;have saK:=KB.out.ext E.out;obtain⟨sa0,sa1,sa2,sa3,sa4,sa5,sa6⟩:=Bk.k7 saK;have szf:=(KB.out.ext E.out).fz;have saL:=saK.lt;clear saK)
   exact⟨⟨k+1,by omega,by go_num,⟨x2,y2,SF2.out,BBn.out⟩⟩,by simp[intOf];omega⟩
end Sk
