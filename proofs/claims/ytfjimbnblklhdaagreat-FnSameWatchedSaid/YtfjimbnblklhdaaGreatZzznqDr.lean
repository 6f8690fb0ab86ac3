/- Contracts of functions of the given program. -/
import Derived.Test.YtfjimbnblklhdaaGreatZzzmWsM
import Derived.Test.YtfjimbnblklhdaaGreatZzzcSfS
namespace Sk
open Go Go.Proofs Go.RowKit
set_option maxHeartbeats 8000000
set_option maxRecDepth 100000
set_option linter.unusedVariables false
set_option linter.unusedSimpArgs false
theorem zIy(v:Value)(xs:List By)(w:World)(h:Rs w v xs) :
  Calls Tryz.prog 4 #[v] w fun e w' => ∃ v1 v2 x y n,e = .returned (.tuple #[v1,v2,.int .i64 n])/\Rvb (α:=Machine) w.heap.size w' v1 x/\Rvb (α:=Machine) w.heap.size w' v2 y/\GT.tot x<=200000/\(-1<=n/\n<=200000)/\Ext w w':=by
 have H:=zh h;clear h;go_enter Tryz.func4,Tryz.ntmps4;go_upto_region 1 with (fail)
 refine zA1 (fun u=>Ext w u/\Bk u w.heap.size [.slice none 0 0,.slice none 0 0,.slice none 0 0,.slice none 0 0,.slice none 0 0,.slice none 0 0,.int .i64 0] 32/\Bk u (w.heap.size+1) [.slice none 0 0,.slice none 0 0,.slice none 0 0,.slice none 0 0,.slice none 0 0,.slice none 0 0,.int .i64 0] 32) ⟨((zr _).alloc _).alloc _,(Bk.new _ _ _).ext ((zr _).alloc _),Bk.new1 _ _ _ _⟩ ?_
 rintro W0 ⟨e0,k2,k3⟩;have HE0:=zh e0;have K20:=zh k2;have K30:=zh k3;have l30:=k3.lt;clear e0 k2 k3;have hne23:w.heap.size≠w.heap.size+1:=by omega
 go_wp2_with (first
  | (go_at_call 14;refine(zIl _ _ _ (H.out.ext HE0.out)).mono ?_;rintro e w1 ⟨b,rfl,hb,he,hr⟩;have HE:=zh he;have hs1:=he.sz;have hb1:=hr.lt;have HR:Hid (Rd W0 w1 b (10+700+1200)):=zh (hr.le (by omega));clear he hr)
  | (go_at_call 13;refine(zMo W0 _ b 10 HR.out).mono ?_;rintro e w2 ⟨v1,v2,x,y,n,rfl,hv,hw,htt,hn,hm,hr⟩;obtain⟨p0,q0,p1,q1,p2,q2,p3,q3,p4,q4,p5,q5,rfl,-⟩:=hv.openMc;obtain⟨c0,d0,c1,d1,c2,d2,c3,d3,c4,d4,c5,d5,rfl,-⟩:=hw.openMc;have K22:=zh (hm.bk (K20.out.ext HE.out) (by simp;omega));have K32:=zh (hm.bk (K30.out.ext HE.out) (by simp;omega));have HV:=zh hv;have HW:=zh hw;have HTT:=zh htt;have HN:=zh hn;have HM2:=zh (hm.ext (HE0.out.tr HE.out) (by simp;omega));have HRB:=zh hr;obtain⟨z0,z1,z2,z3,z4,z5,z6⟩:=Bk.k7 K22.out;obtain⟨y0,y1,y2,y3,y4,y5,y6⟩:=Bk.k7 K32.out;have zf:=K22.out.fz;have zl:=K22.out.lt;have yf:=K32.out.fz;have yl:=K32.out.lt;clear hm hr hv hw htt hn))
 refine bodyPost_ret (v:=.tuple #[.agg #[.slice p0 x.Plan.Parts.length q0,.slice p1 x.Plan.Channels.length q1,.slice p2 x.Plan.Slots.length q2,.slice p3 x.Programs.length q3,.slice p4 x.Cores.length q4,.slice p5 x.Holds.length q5,.int .i64 x.Tick],.agg #[.slice c0 y.Plan.Parts.length d0,.slice c1 y.Plan.Channels.length d1,.slice c2 y.Plan.Slots.length d2,.slice c3 y.Programs.length d3,.slice c4 y.Cores.length d4,.slice c5 y.Holds.length d5,.int .i64 y.Tick],.int .i64 n]) (by simp[results,Tryz.results4,go_sem,z0,y0,z1,y1,z2,y2,z3,y3,z4,y4,z5,y5,z6,y6]) rfl ⟨_,_,x,y,n,rfl,?_,?_,HTT.out,HN.out,?_⟩
 ·exact(Rvb.puts (A:=w.heap.size+1) (o:=0) (by omega) [.slice c0 y.Plan.Parts.length d0,.slice c1 y.Plan.Channels.length d1,.slice c2 y.Plan.Slots.length d2,.slice c3 y.Programs.length d3,.slice c4 y.Cores.length d4,.slice c5 y.Holds.length d5,.int .i64 y.Tick] (Rvb.puts (A:=w.heap.size) (o:=0) (by omega) [.slice p0 x.Plan.Parts.length q0,.slice p1 x.Plan.Channels.length q1,.slice p2 x.Plan.Slots.length q2,.slice p3 x.Programs.length q3,.slice p4 x.Cores.length q4,.slice p5 x.Holds.length q5,.int .i64 x.Tick] HV.out)).mono (by omega)
 ·exact(Rvb.puts (A:=w.heap.size+1) (o:=0) (by omega) [.slice c0 y.Plan.Parts.length d0,.slice c1 y.Plan.Channels.length d1,.slice c2 y.Plan.Slots.length d2,.slice c3 y.Programs.length d3,.slice c4 y.Cores.length d4,.slice c5 y.Holds.length d5,.int .i64 y.Tick] (Rvb.puts (A:=w.heap.size) (o:=0) (by omega) [.slice p0 x.Plan.Parts.length q0,.slice p1 x.Plan.Channels.length q1,.slice p2 x.Plan.Slots.length q2,.slice p3 x.Programs.length q3,.slice p4 x.Cores.length q4,.slice p5 x.Holds.length q5,.int .i64 x.Tick] HW.out)).mono (by omega)
 ·exact Ext.puts (b:=w.heap.size+1) (o:=0) (by omega) [.slice c0 y.Plan.Parts.length d0,.slice c1 y.Plan.Channels.length d1,.slice c2 y.Plan.Slots.length d2,.slice c3 y.Programs.length d3,.slice c4 y.Cores.length d4,.slice c5 y.Holds.length d5,.int .i64 y.Tick] (Ext.puts (b:=w.heap.size) (o:=0) (Nat.le_refl _) [.slice p0 x.Plan.Parts.length q0,.slice p1 x.Plan.Channels.length q1,.slice p2 x.Plan.Slots.length q2,.slice p3 x.Programs.length q3,.slice p4 x.Cores.length q4,.slice p5 x.Holds.length q5,.int .i64 x.Tick] HM2.out)
set_option maxHeartbeats 1000000
def Rvx{α:Type}[GT α](G:List Nat)(w:World)(v:Value)(x : α):Prop:=∃ cs F,v = .agg cs.toArray/\GT.enc w cs x F/\∀ k∈F,k ∉ G
theorem Rvx.of{α:Type}[GT α]{G:List Nat}{w:World}{v:Value}{x : α}(h:Rv w v x)(hG:∀ k∈G,w.heap.size<=k):Rvx G w v x:=by
 obtain⟨cs,F,h1,h2⟩:=h;exact⟨cs,F,h1,h2,fun k hk hm=>by have:=GT.inh h2 k hk;have:=hG k hm;omega⟩
theorem Rvx.mw{α:Type}[GT α]{G:List Nat}{w w':World}{v:Value}{x : α}(h:Rvx G w v x)(k:Mw G w w'):Rvx G w' v x:=by
 obtain⟨cs,F,h1,h2,h3⟩:=h;exact⟨cs,F,h1,k.enc h2 (fun y hy hf=>h3 y hy hf),h3⟩
theorem Rvx.ext{α:Type}[GT α]{G:List Nat}{w w':World}{v:Value}{x : α}(h:Rvx G w v x)(k:Ext w w'):Rvx G w' v x:=h.mw (Mw.ofExt k)
set_option maxHeartbeats 2000000
theorem Row.intsT{w:World}{g:Nat}{T:TypeId}:∀ (zs:List Int) (pre:List Value),Bk w g (pre++zs.map (Value.int .i64)) T->(∀ z∈zs,rng z)->Row w g pre.length zs []:=by
 intro zs
 induction zs with
 | nil=>intro pre _ _;exact rfl
 | cons z zs ih =>
  intro pre hb hr;refine⟨[.int .i64 z],[],[],⟨rfl,hr z (List.mem_cons_self ..),rfl⟩,fun j v hj=>?_,rfl,?_⟩
  ·match j,hj with
   | 0,hj=>cases hj;exact hb.cell (by simp)
  ·have:=ih (pre ++ [.int .i64 z]) (by simpa using hb) (fun y hy=>hr y (List.mem_cons_of_mem _ hy))
   have h2:Row w g (pre.length+1) zs []:=by simpa using this
   exact h2
theorem Rsb.intsT{L:Nat}{w:World}{g c:Nat}{T:TypeId}(pre:List Value)(zs:List Int)(hb:Bk w g (pre++zs.map (Value.int .i64)) T)(hr:∀ z∈zs,rng z)(hL:L<=g)(h1:zs.length<=c)(h2:c<=1000):Rsb L w (.slice (some ⟨g,pre.length,none⟩) zs.length c) zs:=by
 by_cases hz:zs = []
 ·exact Rsb.nil (by rw[hz];rfl) hz (by omega)
 ·exact⟨[g],⟨_,c,rfl,h1,by unfold maxLen;omega,.inr ⟨hz,g,pre.length,[],rfl,rfl,Row.intsT zs pre hb hr⟩⟩,fun k hk=>by rw[List.mem_singleton] at hk;omega⟩
def ABox(W w:World)(b m:Nat)(v:Value)(u:World):Prop:=Mw [b] w u/\Rd W u b m/\∃ xs:List Int,Rsb w.heap.size u v xs
theorem zK6(W w:World)(b m:Nat)(n:Int)(h:Rd W w b (m+7))(hn:rng n) :
  Calls Tryz.prog 15 #[.pointer (some ⟨b,0,none⟩),.int .i64 n] w fun e w' => ∃ v xs,e = .returned v/\Rsb (α:=Int) w.heap.size w' v xs/\Mw [b] w w'/\Rd W w' b m:=by
 have HRD:=zh h;have HMW:Hid (Mw [b] w w):=zh (Mw.refl _ _);have hbl:=h.lt;have hbW:=h.1;have hWw:=h.2.1.sz;have hs0:w.heap.size<=w.heap.size:=Nat.le_refl _;clear h;go_enter Tryz.func15,Tryz.ntmps15;go_upto_region 2 with (go_at_call 36;refine(zA9 W _ b _ _ HRD.out (zAg (by omega) (by omega))).mono ?_;rintro e w1 ⟨k,rfl,hk,hm,hr⟩;have hkb:=hk.lt (by omega);have hsz:=Nat.le_of_eq hm.lt.symm;clear hk;replace HMW:=zh (HMW.out.tr (Mw.ofMo hm));replace HRD:=zh hr;clear hm hr)
 have hlw:=HMW.out.size;obtain⟨G,hG⟩:∃ G,G=w1.heap.size:=⟨_,rfl⟩;refine zA1 (fun u=>Mw [b] w u/\Rd W u b (m+3+1)/\∃ a c d:Int,Bk u G [.int .i64 a,.int .i64 c,.int .i64 d] 3/\(0<=a/\a<=10)/\(0<=c/\c<=10)/\0<=d/\d<=10) ⟨HMW.out.tr (Mw.ofExt ((zr _).alloc _)),HRD.out.ext ((zr _).alloc _),_,_,_,by rw[hG];exact Bk.new _ _ _,⟨by omega,by omega⟩,⟨by omega,by omega⟩,by omega,by omega⟩ ?_
 rw[<- hG];clear HMW HRD;rintro W1 ⟨mw1,rd1,x,c,d,kg,⟨a1,a2⟩,⟨c1,c2⟩,d1,d2⟩;have HMW:=zh mw1;have HRD:=zh rd1;have KG:=zh kg;have hwG:w.heap.size<=G:=by omega
 have hbG:b < G:=by omega
 clear mw1 rd1 kg hG;have hrg:∀ z:Int,-10<=z->z<=10->rng z:=fun z h1 h2=>zAg (by omega) (by omega)
 go_upto_if 15 with (go_at_call 34;refine(zF2 W _ b _ _ HRD.out hn).mono ?_;rintro e w2 ⟨⟨q,rfl⟩,hm,hr⟩;replace HMW:=zh (HMW.out.tr (Mw.ofMo hm));replace KG:=zh (hm.bk KG.out (by simp;omega));replace HRD:=zh hr;clear hm hr)
 go_cut [5] from 9 (fun v5 wc=>ABox W w b m v5 wc)
 case first =>
  cases q
  ·go_wp2;go_meet
   exact⟨HMW.out,HRD.out.le (by omega),[x,c,d],Rsb.intsT [] [x,c,d] KG.out (by simp;exact⟨hrg _ (by omega) (by omega),hrg _ (by omega) (by omega),hrg _ (by omega) (by omega)⟩) hwG (by simp) (by omega)⟩
  ·replace HRD:Hid (Rd W w2 b (m+1+1+1)):=zh HRD.out;go_upto_if 21 with (go_at_call 36;refine(zA9 W _ b _ _ HRD.out (zAg (by omega) (by omega))).mono ?_;rintro e w3 ⟨k9,rfl,hk9,hm,hr⟩;have hkb9:=hk9.lt (by omega);clear hk9;replace HMW:=zh (HMW.out.tr (Mw.ofMo hm));replace KG:=zh (hm.bk KG.out (by simp;omega));replace HRD:=zh hr;clear hm hr)
   obtain rfl|rfl|rfl:k9=0\/k9=1\/k9=2:=by omega
   ·go_wp2_with (first
     | (go_at_call 36;refine(zA9 W _ b m _ (HR4.out.ext ((zr _).alloc _)) (zAg (by omega) (by omega))).mono ?_;rintro e w5 ⟨k5,rfl,hk5,hm5,hr5⟩;obtain⟨z,hz1,hz2⟩:=zLo (zs:=[-1,3]) hm5 hbw4 hk5 rfl (by simp);have hkb5:=hk5.lt (by omega);obtain⟨hk51,hk52⟩:=hkb5;have hzb : -10<=z/\z<=10:=(by simp only[List.mem_cons,List.not_mem_nil,or_false] at hz2;omega);have HM5:=zh ((HM4.out.tr (Mw.ofExt ((zr _).alloc _))).tr (Mw.ofMo hm5));have KG5:=hm5.bk (KG4.out.ext ((zr _).alloc _)) (by simp;omega);obtain⟨vj,hvj⟩:∃ vj,w5.cell? ⟨G,J,none⟩=some vj:=⟨_,KG5.cell (List.getElem?_eq_getElem (by simpa using hJ))⟩;have gf:=KG5.fz;have gl:=KG5.lt;have KG5:=zh KG5;have HR5:=zh hr5;clear hk5 hm5 hr5)
     | (go_at_call 36;refine(zA9 W _ b (m+1) _ HRD.out (zAg (by omega) (by omega))).mono ?_;rintro e w4 ⟨k4,rfl,hk4,hm4,hr4⟩;have hkb4:=hk4.lt (by omega);obtain⟨J,rfl⟩:∃ J:Nat,k4=J:=⟨k4.toNat,by omega⟩;have hJ:J < 3:=(by omega);have HM4:=zh (HMW.out.tr (Mw.ofMo hm4));have KG4:=zh (hm4.bk KG.out (by simp;omega));have HR4:=zh hr4;have hbw4:=hr4.lt;clear hk4 hm4 hr4 hkb4))
    go_meet
    have hz3:=hrg z (by omega) (by omega)
    refine⟨HM5.out.set (p:=⟨G,J,none⟩) (.inr hwG) _,HR5.out.set (p:=⟨G,J,none⟩) (by show b≠G;omega) (by show W.heap.size<=G;omega) _,[x,c,d].set J z,?_⟩
    have kb:=KG5.out.set J (.int .i64 z);have hl:([x,c,d].set J z).length=3:=by simp
    have:=Rsb.intsT (L:=w.heap.size) (c:=3) (g:=G) [] ([x,c,d].set J z) (by rw[List.map_set];exact kb) (fun y hy=>by
     rcases List.mem_or_eq_of_mem_set hy with h|rfl
     ·simp at h;rcases h with rfl|rfl|rfl<;>exact hrg _ (by omega) (by omega)
     ·exact hz3) hwG (by omega) (by omega)
    rw[hl] at this;exact this
   ·go_wp2;go_meet
    exact⟨HMW.out,HRD.out.le (by omega),[c,d],Rsb.intsT [.int .i64 x] [c,d] KG.out (by simp;exact⟨hrg _ (by omega) (by omega),hrg _ (by omega) (by omega)⟩) hwG (by simp) (by omega)⟩
   ·have HS:Hid (Rs w3 (.slice (some ⟨G,0,none⟩) 3 3) [x,c,d]):=zh (Rsb.intsT (L:=0) [] [x,c,d] KG.out (by simp;exact⟨hrg _ (by omega) (by omega),hrg _ (by omega) (by omega),hrg _ (by omega) (by omega)⟩) (Nat.zero_le _) (by simp) (by omega)).rs
    have hw3:=HMW.out.size;go_wp2_with (at_builtin;refine wpl_appG (α:=Int) rfl _ _ 35 rfl 3 Tryz.underlying35 zCo (n:=3) (xs:=[x,c,d]) (ys:=[0]) rfl (HS.out.ext ((zr _).alloc _)) rfl rfl (Row.lit1 (cs:=[.int .i64 0]) ⟨rfl,⟨by decide,by decide⟩,rfl⟩) (by omega) (by simp) ?_;intro v6 w6 hO6 he6;have O6:=zh hO6;have E6:=zh (((zr w3).alloc _).tr he6);clear hO6 he6)
    go_meet
    exact⟨HMW.out.tr (Mw.ofExt E6.out),(HRD.out.le (by omega)).ext E6.out,_,O6.out.rsb.mono (by simp;omega)⟩
 case rest =>
  clear HMW HRD KG;obtain⟨mw1,rd1,xs,hx⟩:=hcut;have HMW:=zh mw1;have HRD:=zh rd1;have HX:=zh hx;clear mw1 rd1 hx;go_wp2;go_ret;exact⟨_,xs,rfl,HX.out,HMW.out,HRD.out⟩
theorem zG7(v:Value)(xs:List By)(w:World)(h:Rs w v xs) :
  Calls Tryz.prog 5 #[v] w fun e w' => ∃ v' t,e = .returned v'/\Rs (α:=Int) w' v' t/\Ext w w':=by
 have H:=zh h;clear h;go_enter Tryz.func5,Tryz.ntmps5
 go_wp2_with (first
  | (go_at_call 14;refine(zIl _ _ _ H.out).mono ?_;rintro e w1 ⟨b,rfl,hb,he,hr⟩;have HE:=zh he;have HR:Hid (Rd w w1 b (0+7)):=zh (hr.le (by omega));clear he hr)
  | (go_at_call 15;refine(zK6 w _ b 0 2 HR.out ⟨by omega,by omega⟩).mono ?_;rintro e w2 ⟨v2,t,rfl,ht,hm,hr⟩;have HT:=zh ht;have HM2:=zh (hm.ext HE.out (by simp;omega));clear hm hr ht))
 go_ret;exact⟨_,t,rfl,HT.out.rs,HM2.out⟩
set_option maxHeartbeats 1000000
theorem Rv.wbox{w:World}{v0 v1 v2 v3 v4 v5 v6 v7:Value}{x:Watch}(h:Rv w (.agg #[v0,v1,v2,v3,v4,v5,v6,v7]) x):Rv w (.agg #[v0,v1,v2,v3,v4,v5,v6]) x.Box:=by
 obtain⟨cs,F,e,⟨u0,u1,u2,u3,u4,u5,u7,F0,F1,F2,F3,F4,F5,F7,rfl,h0,h1,h2,h3,h4,h5,h7,r,rfl⟩⟩:=h;have e2:=congrArg (fun v=>match v with | .agg a=>a.toList|_ => []) e
 simp only[List.cons.injEq,and_true] at e2;obtain⟨rfl,rfl,rfl,rfl,rfl,rfl,rfl,rfl⟩:=e2;exact⟨_,_,rfl,⟨_,_,_,_,_,_,_,_,_,_,_,_,rfl,h0,h1,h2,h3,h4,h5,r,rfl⟩⟩
set_option maxHeartbeats 8000000
theorem zKl(v:Value)(xs:List By)(v1:Value)(ms:List By)(w:World)(h:Rs w v xs)(h1:Rs w v1 ms) :
  Calls Tryz.prog 3 #[v,v1] w fun e w'=>e = .returned (.bool true)/\Ext w w':=by
 obtain⟨a,c,rfl,hl⟩:=h.form;obtain⟨a',c',rfl,hl'⟩:=h1.form;have H:=zh h;have H2:=zh h1;clear h h1;by_cases hx:xs.length<=1048576
 rotate_left
 ·have hx2:1048576 < xs.length:=by omega
  clear hx;go_enter Tryz.func3,Tryz.ntmps3;go_wp2;go_ret;exact⟨rfl,zr w⟩
 by_cases hx':ms.length<=1048576
 rotate_left
 ·have hx2:1048576 < ms.length:=by omega
  clear hx';go_enter Tryz.func3,Tryz.ntmps3;go_wp2;go_ret;exact⟨rfl,zr w⟩
 go_enter Tryz.func3,Tryz.ntmps3;go_upto_region 4 with (go_at_call 4;refine(zIy _ _ _ H.out).mono ?_;rintro e w1 ⟨v1,v2,x,y,n,rfl,hv,hw,htt,hn,he⟩;obtain⟨p0,q0,p1,q1,p2,q2,p3,q3,p4,q4,p5,q5,rfl,-⟩:=hv.openMc;obtain⟨b0,d0,b1,d1,b2,d2,b3,d3,b4,d4,b5,d5,rfl,-⟩:=hw.openMc;have HV:=zh hv.rv;have HW:=zh hw.rv;have HTT:=zh htt;have HE:=zh he;clear hv hw htt he)
 obtain⟨A,hA⟩:∃ A,A=w1.heap.size:=⟨_,rfl⟩;obtain⟨B,hB⟩:∃ B,B=w1.heap.size+1:=⟨_,rfl⟩;refine zA1 (fun u=>Ext w1 u/\Bk u A [.slice p0 x.Plan.Parts.length q0,.slice p1 x.Plan.Channels.length q1,.slice p2 x.Plan.Slots.length q2,.slice p3 x.Programs.length q3,.slice p4 x.Cores.length q4,.slice p5 x.Holds.length q5,.int .i64 x.Tick] 32/\Bk u B [.slice b0 y.Plan.Parts.length d0,.slice b1 y.Plan.Channels.length d1,.slice b2 y.Plan.Slots.length d2,.slice b3 y.Programs.length d3,.slice b4 y.Cores.length d4,.slice b5 y.Holds.length d5,.int .i64 y.Tick] 32) ⟨((zr _).alloc _).alloc _,by rw[hA];exact(Bk.new _ _ _).ext ((zr _).alloc _),by rw[hB];exact Bk.new1 _ _ _ _⟩ ?_
 rw[<- hB,<- hA];rintro W1 ⟨e1,kA,kB⟩;have hAB:A≠B:=by omega
 have hAw:w.heap.size<=A:=by have:=HE.out.sz;omega
 have hBw:w.heap.size<=B:=by have:=HE.out.sz;omega
 have HX:Hid (Rvx [A,B] W1 (.agg #[.slice p0 x.Plan.Parts.length q0,.slice p1 x.Plan.Channels.length q1,.slice p2 x.Plan.Slots.length q2,.slice p3 x.Programs.length q3,.slice p4 x.Cores.length q4,.slice p5 x.Holds.length q5,.int .i64 x.Tick]) x):=zh ((Rvx.of HV.out (by simp only[List.mem_cons,List.not_mem_nil,or_false];omega)).ext e1)
 have HXB:Hid (Rvx [A,B] W1 (.agg #[.slice b0 y.Plan.Parts.length d0,.slice b1 y.Plan.Channels.length d1,.slice b2 y.Plan.Slots.length d2,.slice b3 y.Programs.length d3,.slice b4 y.Cores.length d4,.slice b5 y.Holds.length d5,.int .i64 y.Tick]) y):=zh ((Rvx.of HW.out (by simp only[List.mem_cons,List.not_mem_nil,or_false];omega)).ext e1)
 clear hA hB H;replace HV:=zh (HV.out.ext e1);replace HW:=zh (HW.out.ext e1);replace HE:=zh (HE.out.tr e1);have KA:=zh kA;have KB:=zh kB;clear e1 kA kB;have E:=zh (zr W1);have hnr:rng n:=zAg (by have:=hn.1;omega) (by have:=hn.2;omega)
 have hxc:x.Cores.length<=200000:=by
  have h1:=zDk x;have h2:=zBc (xs:=x.Cores)
  have:=HTT.out
  omega
 obtain⟨ok,hok⟩:∃ ok,zEm x y n=ok:=⟨_,rfl⟩;have C1:=zh (fun(v v2:Value) (u:World) (h:Rv u v x) (k:Rv u v2 y)=>zIe v v2 x y n u h k)
 have C2:=zh (fun(v v2:Value) (u:World) (h:Rv u v x) (k:Rv u v2 y)=>zMn v v2 x y n u h k)
 rw[hok] at C1 C2;go_upto_region 5 with (go_at_call 5;refine(zG7 _ ms _ (H2.out.ext HE.out)).mono ?_;rintro e wz ⟨vt,t,rfl,ht,he⟩;obtain⟨ta,tc,rfl,htl⟩:=ht.form;have HT0:=zh ht;replace E:=zh he;clear ht he H2)
 have ET:=zh E.out;replace HV:=zh (HV.out.ext ET.out);replace HW:=zh (HW.out.ext ET.out);replace KA:=zh (KA.out.ext ET.out);replace KB:=zh (KB.out.ext ET.out);replace HE:=zh (HE.out.tr ET.out);have HT:=HT0;replace E:=zh (zr wz);clear ET HT0 HX HXB;obtain⟨W5,hW5⟩:∃ W5,W5=wz:=⟨_,rfl⟩;rw[<- hW5] at HV HW KA KB HE HT E;rw[<- hW5];clear hW5;obtain⟨fa0,fa1,fa2,fa3,fa4,fa5,fa6,faL⟩:=Bk.j7 (KA.out.ext E.out);obtain⟨fb0,fb1,fb2,fb3,fb4,fb5,fb6,fbL⟩:=Bk.j7 (KB.out.ext E.out);cases ok
 ·go_wp2_with (first
   | (go_at_call 6;refine(C1.out _ _ _ (HV.out.ext E.out) (HW.out.ext E.out)).mono ?_;rintro e wz ⟨rfl,he⟩;replace E:=zh (E.out.tr he);clear he C1;obtain⟨ra0,ra1,ra2,ra3,ra4,ra5,ra6,raL⟩:=Bk.j7 (KA.out.ext E.out);obtain⟨rb0,rb1,rb2,rb3,rb4,rb5,rb6,rbL⟩:=Bk.j7 (KB.out.ext E.out))
   | (go_at_call 7;refine(C2.out _ _ _ (HV.out.ext E.out) (HW.out.ext E.out)).mono ?_;rintro e wz ⟨rfl,he⟩;replace E:=zh (E.out.tr he);clear he C2;obtain⟨ra0,ra1,ra2,ra3,ra4,ra5,ra6,raL⟩:=Bk.j7 (KA.out.ext E.out);obtain⟨rb0,rb1,rb2,rb3,rb4,rb5,rb6,rbL⟩:=Bk.j7 (KB.out.ext E.out))
   | (go_at_call 9;refine(law_alive _).mono ?_;rintro e w9 ⟨rfl,he⟩;replace E:=zh (E.out.tr he);clear he))
  go_ret;exact⟨rfl,HE.out.tr E.out⟩
 go_upto_region 8 with (first
   | (go_at_call 6;refine(C1.out _ _ _ (HV.out.ext E.out) (HW.out.ext E.out)).mono ?_;rintro e wz ⟨rfl,he⟩;replace E:=zh (E.out.tr he);clear he C1;obtain⟨ra0,ra1,ra2,ra3,ra4,ra5,ra6,raL⟩:=Bk.j7 (KA.out.ext E.out);obtain⟨rb0,rb1,rb2,rb3,rb4,rb5,rb6,rbL⟩:=Bk.j7 (KB.out.ext E.out))
   | (go_at_call 7;refine(C2.out _ _ _ (HV.out.ext E.out) (HW.out.ext E.out)).mono ?_;rintro e wz ⟨rfl,he⟩;replace E:=zh (E.out.tr he);clear he C2;obtain⟨ra0,ra1,ra2,ra3,ra4,ra5,ra6,raL⟩:=Bk.j7 (KA.out.ext E.out);obtain⟨rb0,rb1,rb2,rb3,rb4,rb5,rb6,rbL⟩:=Bk.j7 (KB.out.ext E.out)))
 obtain⟨N,hN,sf⟩:∃ N:Nat,n=N/\zDp x y N:=by
  obtain⟨N,e,h⟩:=Bo.iff.1 hok;exact⟨N,e,h⟩
 subst hN;have SFH:=zh sf;have htk0:=sf.ma.tick.1;have htk1:=sf.ma.tick.2;clear hok sf hnr;obtain⟨hht,hhte⟩:∃ b,zJ8 t=b:=⟨_,rfl⟩;have CH:=zh (fun(v:Value) (u:World) (h:Rs u v t)=>zIz v t u h)
 rw[hhte] at CH;cases hht
 ·go_wp2_with (first
   | (go_at_call 8;refine(CH.out _ _ (HT.out.ext E.out)).mono ?_;rintro e wz ⟨rfl,he⟩;replace E:=zh (E.out.tr he);clear he;obtain⟨ua0,ua1,ua2,ua3,ua4,ua5,ua6,uaL⟩:=Bk.j7 (KA.out.ext E.out);obtain⟨ub0,ub1,ub2,ub3,ub4,ub5,ub6,ubL⟩:=Bk.j7 (KB.out.ext E.out))
   | (go_at_call 9;refine(law_alive _).mono ?_;rintro e w9 ⟨rfl,he⟩;replace E:=zh (E.out.tr he);clear he))
  go_ret;exact⟨rfl,HE.out.tr E.out⟩
 by_cases htk:99950 < x.Tick
 ·have htb:decide (x.Tick > 99950)=true:=decide_eq_true htk;clear htk
  go_wp2_with (first
   | (go_at_call 8;refine(CH.out _ _ (HT.out.ext E.out)).mono ?_;rintro e wz ⟨rfl,he⟩;replace E:=zh (E.out.tr he);clear he;obtain⟨ua0,ua1,ua2,ua3,ua4,ua5,ua6,uaL⟩:=Bk.j7 (KA.out.ext E.out);obtain⟨ub0,ub1,ub2,ub3,ub4,ub5,ub6,ubL⟩:=Bk.j7 (KB.out.ext E.out))
   | (go_at_call 9;refine(law_alive _).mono ?_;rintro e w9 ⟨rfl,he⟩;replace E:=zh (E.out.tr he);clear he))
  go_ret;exact⟨rfl,HE.out.tr E.out⟩
 have htb:decide (x.Tick > 99950)=false:=decide_eq_false htk;have sfw:=SFH.out.watched hhte (T:=50) (by omega) (by omega)
 have N1:=zh (fun(v:Value) (u:World) (h:Rv u v x)=>zHa v x u h)
 have N2:=zh (fun(v:Value) (u:World) (h:Rv u v y)=>zHa v y u h)
 have R1:=zh (fun(v vt:Value) (u:World) (h:Rv u v (zBh x)) (k:Rs u vt t)=>zHc v vt _ t ((50:Nat):Int) u h k)
 have R2:=zh (fun(v vt:Value) (u:World) (h:Rv u v (zBh y)) (k:Rs u vt t)=>zHc v vt _ t ((50:Nat):Int) u h k)
 obtain⟨nx,hnx⟩:∃ nx,zBh x=nx:=⟨_,rfl⟩;obtain⟨ny,hny⟩:∃ ny,zBh y=ny:=⟨_,rfl⟩;rw[hnx] at N1 R1 sfw;rw[hny] at N2 R2 sfw;obtain⟨wx,hwx⟩:∃ wx,zC9 nx t ((50:Nat):Int) 400=wx:=⟨_,rfl⟩;obtain⟨wy,hwy⟩:∃ wy,zC9 ny t ((50:Nat):Int) 400=wy:=⟨_,rfl⟩;rw[hwx] at R1 sfw;rw[hwy] at R2 sfw;have S1:=zh (fun(v v2:Value) (u:World) (h:Rv u v wx.Box) (k:Rv u v2 wy.Box)=>zIe v v2 wx.Box wy.Box N u h k)
 have S2:=zh (fun(v v2:Value) (u:World) (h:Rv u v wx.Box) (k:Rv u v2 wy.Box)=>zLl v v2 wx.Box wy.Box N u h k)
 rw[zEz.2 sfw] at S1;rw[sfw.sameView] at S2;clear hnx hny hwx hwy sfw SFH htk hhte;go_upto_region 10 with (go_at_call 8;refine(CH.out _ _ (HT.out.ext E.out)).mono ?_;rintro e wz ⟨rfl,he⟩;replace E:=zh (E.out.tr he);clear he;obtain⟨ua0,ua1,ua2,ua3,ua4,ua5,ua6,uaL⟩:=Bk.j7 (KA.out.ext E.out);obtain⟨ub0,ub1,ub2,ub3,ub4,ub5,ub6,ubL⟩:=Bk.j7 (KB.out.ext E.out))
 go_upto_region 11 with (first
   | (go_at_call 10;refine(R1.out _ _ _ HNx.out (HT.out.ext E.out)).mono ?_;rintro e w6 ⟨v6,rfl,ho,he⟩;obtain⟨e0,f0,e1,f1,e2,f2,e3,f3,e4,f4,e5,f5,e7,f7,rfl,-⟩:=ho.rv.openWatch;have HRx:=zh ho.rv;replace E:=zh (E.out.tr he);clear ho he R1)
   | (go_at_call 11;refine(N1.out _ _ (HV.out.ext E.out)).mono ?_;rintro e wz ⟨v7,rfl,ho,he⟩;have HNx:=zh ho.rv;replace E:=zh (E.out.tr he);clear ho he N1))
 obtain⟨X,hX⟩:∃ B,B=w6.heap.size:=⟨_,rfl⟩;refine zA1 (fun u=>Ext w6 u/\Bk u X [.slice e0 wx.Box.Plan.Parts.length f0,.slice e1 wx.Box.Plan.Channels.length f1,.slice e2 wx.Box.Plan.Slots.length f2,.slice e3 wx.Box.Programs.length f3,.slice e4 wx.Box.Cores.length f4,.slice e5 wx.Box.Holds.length f5,.int .i64 wx.Box.Tick,.slice e7 wx.States.length f7] 42) ⟨(zr _).alloc _,by rw[hX];exact Bk.new _ _ _⟩ ?_
 rw[<- hX];rintro W2 ⟨eb,kb⟩;clear hX;have EB:=zh (E.out.tr eb);replace HV:=zh (HV.out.ext EB.out);replace HW:=zh (HW.out.ext EB.out);replace HT:=zh (HT.out.ext EB.out);replace KA:=zh (KA.out.ext EB.out);replace KB:=zh (KB.out.ext EB.out);replace HRx:=zh (HRx.out.ext eb);replace HE:=zh (HE.out.tr EB.out);have KX:=zh kb;clear eb kb EB E;have E:=zh (zr W2);obtain⟨la0,la1,la2,la3,la4,la5,la6,laL⟩:=Bk.j7 (KB.out.ext E.out);go_upto_region 12 with (first
   | (go_at_call 10;refine(R2.out _ _ _ HNy.out (HT.out.ext E.out)).mono ?_;rintro e w6 ⟨v6,rfl,ho,he⟩;obtain⟨g0,i0,g1,i1,g2,i2,g3,i3,g4,i4,g5,i5,g7,i7,rfl,-⟩:=ho.rv.openWatch;have HRy:=zh ho.rv;replace E:=zh (E.out.tr he);clear ho he R2)
   | (go_at_call 11;refine(N2.out _ _ (HW.out.ext E.out)).mono ?_;rintro e wz ⟨v7,rfl,ho,he⟩;have HNy:=zh ho.rv;replace E:=zh (E.out.tr he);clear ho he N2))
 obtain⟨Y,hY⟩:∃ B,B=w6.heap.size:=⟨_,rfl⟩;refine zA1 (fun u=>Ext w6 u/\Bk u Y [.slice g0 wy.Box.Plan.Parts.length i0,.slice g1 wy.Box.Plan.Channels.length i1,.slice g2 wy.Box.Plan.Slots.length i2,.slice g3 wy.Box.Programs.length i3,.slice g4 wy.Box.Cores.length i4,.slice g5 wy.Box.Holds.length i5,.int .i64 wy.Box.Tick,.slice g7 wy.States.length i7] 42) ⟨(zr _).alloc _,by rw[hY];exact Bk.new _ _ _⟩ ?_
 rw[<- hY];rintro W3 ⟨eb,kb⟩;clear hY;have EB:=zh (E.out.tr eb);replace HV:=zh (HV.out.ext EB.out);replace HW:=zh (HW.out.ext EB.out);replace HT:=zh (HT.out.ext EB.out);replace KA:=zh (KA.out.ext EB.out);replace KB:=zh (KB.out.ext EB.out);replace HRx:=zh (HRx.out.ext EB.out);replace KX:=zh (KX.out.ext EB.out);replace HRy:=zh (HRy.out.ext eb);replace HE:=zh (HE.out.tr EB.out);have KY:=zh kb;clear eb kb EB E;have E:=zh (zr W3);clear la0 la1 la2 la3 la4 la5 la6 laL;obtain⟨ma0,ma1,ma2,ma3,ma4,ma5,ma6,ma7,maL⟩:=Bk.j8 (KX.out.ext E.out);obtain⟨mb0,mb1,mb2,mb3,mb4,mb5,mb6,mb7,mbL⟩:=Bk.j8 (KY.out.ext E.out)
 go_wp2_with (first
   | (go_at_call 6;refine(S1.out _ _ _ (HRx.out.wbox.ext E.out) (HRy.out.wbox.ext E.out)).mono ?_;rintro e wz ⟨rfl,he⟩;replace E:=zh (E.out.tr he);clear he S1;obtain⟨oa0,oa1,oa2,oa3,oa4,oa5,oa6,oa7,oaL⟩:=Bk.j8 (KX.out.ext E.out);obtain⟨ob0,ob1,ob2,ob3,ob4,ob5,ob6,ob7,obL⟩:=Bk.j8 (KY.out.ext E.out))
   | (go_at_call 12;refine(S2.out _ _ _ (HRx.out.wbox.ext E.out) (HRy.out.wbox.ext E.out)).mono ?_;rintro e wz ⟨rfl,he⟩;replace E:=zh (E.out.tr he);clear he S2;obtain⟨oa0,oa1,oa2,oa3,oa4,oa5,oa6,oa7,oaL⟩:=Bk.j8 (KX.out.ext E.out);obtain⟨ob0,ob1,ob2,ob3,ob4,ob5,ob6,ob7,obL⟩:=Bk.j8 (KY.out.ext E.out)))
 go_ret;exact⟨rfl,HE.out.tr E.out⟩
end Sk
