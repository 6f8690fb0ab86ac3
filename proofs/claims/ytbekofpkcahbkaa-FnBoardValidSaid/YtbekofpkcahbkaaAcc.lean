/- Contracts of functions of the given program. -/
import Derived.Deep.CutBlock
import Derived.Test.YtbekofpkcahbkaaFld
namespace Sk
open Go Go.RowKit
set_option linter.unusedVariables false
set_option linter.unusedSimpArgs false
theorem Own.grown{L:Nat}{w w':World}{F:List Nat}{row:Option Nat}(h:Own L w F)(hg:w.grownBy w' row)(hne:∀ k∈F,row≠some k):Own L w' F:=by
 refine⟨h.1,fun b hb=>⟨(h.2 b hb).1,?_⟩⟩
 obtain⟨_,cs,T,hbk⟩:=h.2 b hb;exact⟨cs,T,by unfold Bk at *;rw[hg.block b (Bk.lt hbk) (fun e=>hne b hb e.symm)];exact hbk⟩
theorem Sl.grown{α:Type}[GT α]{w w':World}{v:Value}{xs:List α}{F:List Nat}{row:Option Nat}(h:Sl w v xs F)(hg:w.grownBy w' row)(hne:∀ k∈F,row≠some k):Sl w' v xs F :=
 h.keep fun k hk=>hg.block k (h.inh k hk) (fun e=>hne k hk e.symm)
theorem Bk.grown{w w':World}{b:Nat}{cs:List Value}{T:TypeId}{row:Option Nat}(h:Bk w b cs T)(hg:w.grownBy w' row)(hne:row≠some b):Bk w' b cs T:=by
 have:=hg.block b h.lt (fun e=>hne e.symm)
 unfold Bk at *;rw[this];exact h
def Oo{α:Type}[GT α](e:TypeId)(L:Nat)(w:World)(v:Value)(xs:List α):Prop:=∃ F,Oa e L w v xs F/\Own L w F
theorem Oo.nil{α:Type}[GT α](e:TypeId)(L:Nat)(w:World):Oo (α:=α) e L w (.slice none 0 0) []:=⟨[],Oa.nil e L w,Own.nil _ _⟩
theorem Oo.lit0{α:Type}[GT α](e:TypeId)(w:World):Oo (α:=α) e w.heap.size (w.alloc (.cells #[] e (0,0))) (.slice (some ⟨w.heap.size,0,none⟩) 0 0) []:=⟨[],Oa.lit0 e w,Own.nil _ _⟩
theorem Oo.ext{α:Type}[GT α]{e:TypeId}{L:Nat}{w w':World}{v:Value}{xs:List α}(h:Oo e L w v xs)(he:Ext w w'):Oo e L w' v xs:=by
 obtain⟨F,h,o⟩:=h;exact⟨F,h.ext he,o.ext he⟩
theorem Oo.mono{α:Type}[GT α]{e:TypeId}{L L':Nat}{w:World}{v:Value}{xs:List α}(h:Oo e L w v xs)(hl:L'<=L):Oo e L' w v xs:=by
 obtain⟨F,h,o⟩:=h;exact⟨F,h.mono hl,o.mono hl⟩
theorem Oo.os{α:Type}[GT α]{e:TypeId}{L:Nat}{w:World}{v:Value}{xs:List α}(h:Oo e L w v xs):Os L w v xs:=by
 obtain⟨F,h,o⟩:=h;exact h.os o
theorem Oo.rs{α:Type}[GT α]{e:TypeId}{L:Nat}{w:World}{v:Value}{xs:List α}(h:Oo e L w v xs):Rs w v xs:=h.os.rs
theorem Oo.form{α:Type}[GT α]{e:TypeId}{L:Nat}{w:World}{v:Value}{xs:List α}(h:Oo e L w v xs):∃ a c,v = .slice a xs.length c/\xs.length<=9223372036854775807:=by
 obtain⟨F,h,o⟩:=h;exact h.form
theorem Oo.sh{α:Type}[GT α]{e:TypeId}{L:Nat}{w:World}{v:Value}{xs:List α}(h:Oo e L w v xs):∃ a n c,v = .slice a n c:=by
 obtain⟨a,c,rfl,_⟩:=h.form;exact⟨_,_,_,rfl⟩
theorem Oo.own{α:Type}[GT α]{e:TypeId}{L:Nat}{w:World}{v:Value}{xs:List α}(h:Oo e L w v xs):∀ k,v.ownBlock=some k->L<=k:=by
 obtain⟨F,h,o⟩:=h;exact h.own
theorem Oo.lt{α:Type}[GT α]{e:TypeId}{L:Nat}{w:World}{v:Value}{xs:List α}(h:Oo e L w v xs):∀ k,v.ownBlock=some k->k < w.heap.size:=by
 obtain⟨F,h,o⟩:=h;exact h.lt
theorem Oo.ofA{α:Type}[GT α][Fl α]{e:TypeId}{L:Nat}{w:World}{v:Value}{xs:List α}{F:List Nat}(h:Oa e L w v xs F):Oo e L w v xs:=by
 have:=h.fl;subst this;exact⟨[],h,Own.nil _ _⟩
theorem Oo.oa{α:Type}[GT α][Fl α]{e:TypeId}{L:Nat}{w:World}{v:Value}{xs:List α}(h:Oo e L w v xs):Oa e L w v xs []:=by
 obtain⟨F,h,o⟩:=h;have:=h.fl;subst this;exact h
theorem Row.lit1{α:Type}[GT α]{w:World}{cs:List Value}{x : α}{F:List Nat}{T:TypeId}(h:GT.enc w cs x F):Row (w.alloc (.cells cs.toArray T (0,0))) w.heap.size 0 [x] F :=
 Row.one (GT.ext h ((zr w).alloc _)) (fun j u hj=>by rw[Nat.zero_add];exact(Bk.new w cs T).cell hj)
theorem zI2{α:Type}[GT α]{P:Program}{u w:World}{o:Oper}{a:Act}{K:Act->World->Prop}{Q:Exit->Act->World->Prop}(s x:Operand)(t:TypeId)
  (ho:o.op = .call { callee:=.builtin .append,args:=#[s,x],argTypes:=#[t,t] }) (e:TypeId) (ht:P.underlying t=some (.slice e)) (hel:El P e α)
  {L:Nat} {v:Value} {xs ys:List α} {Fy:List Nat} (hs:a.eval s=v) (hO:Oo e L u v xs) (he:Ext u w) (hL:L<=u.heap.size) {ab ao m c:Nat} (hx:a.eval x = .slice (some ⟨ab,ao,none⟩) m c) (hm:ys.length=m) (hy:Row w ab ao ys Fy)
  (hm0:0 < m) (hown:Own u.heap.size w Fy) (hlen:xs.length+m<=4294967296)
  (h:∀ v' w',Oo e L w' v' (xs++ys)->w.grownBy w' v.ownBlock->(v'.ownBlock=v.ownBlock\/v'.ownBlock=some w.heap.size)->K (a.put o.dst v') w'):o.wp P a w K Q:=by
 have hlt:=hO.lt;obtain⟨F,hA,hF⟩:=hO;have hd:∀ k∈Fy,v.ownBlock≠some k:=fun k hk e=>by have:=(hown.2 k hk).1;have:=hlt k e;omega
 refine zGk s x t ho e ht hel hs (hA.ext he) hx hm hy hm0 hd hlen (Nat.le_trans hL he.sz) fun v' w' h1 h2 h3=>h v' w' ⟨_,h1,?_⟩ h2 h3
 have hnF:∀ k∈F,v.ownBlock≠some k:=fun k hk e=>by
  rcases hA with ⟨rfl,_,_⟩ | ⟨g,cap,cur,rfl,_,_,_,_,_,_,hg⟩
  ·cases e
  ·cases e;exact hg hk
 refine Own.grown (row:=v.ownBlock) (w:=w) (Own.app (hF.ext he) hown (fun b hb=>hF.lt hb) hL) h2 fun k hk=>?_
 rcases List.mem_append.1 hk with hk|hk
 ·exact hnF k hk
 ·exact hd k hk
theorem wp_appO{α:Type}[GT α]{P:Program}{u w:World}{o:Oper}{a:Act}{K:Act->World->Prop}{Q:Exit->Act->World->Prop}(s x:Operand)(t:TypeId)
  (ho:o.op = .call { callee:=.builtin .append,args:=#[s,x],argTypes:=#[t,t] }) (e:TypeId) (ht:P.underlying t=some (.slice e)) (hel:El P e α)
  {L:Nat} {v:Value} {xs ys:List α} {Fy:List Nat} (hs:a.eval s=v) (hO:Oo e L u v xs) (he:Ext u w) (hL:L<=u.heap.size) {ab ao m c:Nat} (hx:a.eval x = .slice (some ⟨ab,ao,none⟩) m c) (hm:ys.length=m) (hy:Row w ab ao ys Fy)
  (hm0:0 < m) (hown:Own u.heap.size w Fy) (hlen:xs.length+m<=4294967296)
  (h:∀ v' w',Oo e L w' v' (xs++ys)->w.grownBy w' v.ownBlock->K (a.put o.dst v') w'):o.wp P a w K Q :=
 zI2 s x t ho e ht hel hs hO he hL hx hm hy hm0 hown hlen fun v' w' h1 h2 _=>h v' w' h1 h2
theorem zE9{α:Type}[GT α]{P:Program}{u w:World}{ops:Array Oper}{rest:List Oper}{o:Oper}{a:Act}{Q:Exit->Act->World->Prop}(hgd:o.guard=none)(s x:Operand)(t:TypeId)
  (ho:o.op = .call { callee:=.builtin .append,args:=#[s,x],argTypes:=#[t,t] }) (e:TypeId) (ht:P.underlying t=some (.slice e)) (hel:El P e α)
  {L:Nat} {v:Value} {xs ys:List α} {Fy:List Nat} (hs:a.eval s=v) (hO:Oo e L u v xs) (he:Ext u w) (hL:L<=u.heap.size) {ab ao m c:Nat} (hx:a.eval x = .slice (some ⟨ab,ao,none⟩) m c) (hm:ys.length=m) (hy:Row w ab ao ys Fy)
  (hm0:0 < m) (hown:Own u.heap.size w Fy) (hlen:xs.length+m<=4294967296)
  (h:∀ v' w',Oo e L w' v' (xs++ys)->w.grownBy w' v.ownBlock->wpList P ops Q rest (a.put o.dst v') w'):wpList P ops Q (o::rest) a w :=
 wpList_plain hgd fun _ hK=>wp_appO s x t ho e ht hel hs hO he hL hx hm hy hm0 hown hlen fun v' w' h1 h2=>hK _ _ (h v' w' h1 h2)
theorem zJb{α:Type}[GT α]{P:Program}{u w:World}{ops:Array Oper}{rest:List Oper}{o:Oper}{a:Act}{Q:Exit->Act->World->Prop}(hgd:o.guard=none)(s x:Operand)(t:TypeId)
  (ho:o.op = .call { callee:=.builtin .append,args:=#[s,x],argTypes:=#[t,t] }) (e:TypeId) (ht:P.underlying t=some (.slice e)) (hel:El P e α)
  {L:Nat} {v:Value} {xs ys:List α} {Fy:List Nat} (hs:a.eval s=v) (hO:Oo e L u v xs) (he:Ext u w) (hL:L<=u.heap.size) {ab ao m c:Nat} (hx:a.eval x = .slice (some ⟨ab,ao,none⟩) m c) (hm:ys.length=m) (hy:Row w ab ao ys Fy)
  (hm0:0 < m) (hown:Own u.heap.size w Fy) (hlen:xs.length+m<=4294967296)
  (h:∀ v' w',Oo e L w' v' (xs++ys)->w.grownBy w' v.ownBlock->(v'.ownBlock=v.ownBlock\/v'.ownBlock=some w.heap.size)->wpList P ops Q rest (a.put o.dst v') w'):wpList P ops Q (o::rest) a w :=
 wpList_plain hgd fun _ hK=>zI2 s x t ho e ht hel hs hO he hL hx hm hy hm0 hown hlen fun v' w' h1 h2 h3=>hK _ _ (h v' w' h1 h2 h3)
open Go.Proofs
set_option maxHeartbeats 400000
set_option maxRecDepth 100000
theorem zA2{P:Program}{c:Code}{a:Act}{W:World}{Q:Exit->Act->World->Prop}(F:World->Prop)(hF:F W)(h:∀ W1,F W1->Code.wp P c Q a W1):Code.wp P c Q a W:=h W hF
theorem Oa.lit0'{α:Type}[GT α](e:TypeId)(w:World){B:Nat}(hB:B=w.heap.size):Oa (α:=α) e B (w.alloc (.cells #[] e (0,0))) (.slice (some ⟨B,0,none⟩) 0 0) [] []:=by subst hB;exact Oa.lit0 e w
theorem zI0{W w':World}{o:Obj}{B:Nat}(hg:(W.alloc o).grownBy w' (Value.ownBlock (.slice (some ⟨B,0,none⟩) 0 0)))(hB:W.heap.size<=B):Ext W w' :=
 Ext.grown ((zr W).alloc _) hg (fun k hk=>by cases hk;exact hB)
theorem zD9{cs:List Value}{ar:Array Value}(h:(.agg ar:Value) = .agg cs.toArray):ar=cs.toArray:=by cases h;rfl
theorem zDr(v:Value)(x:Hold)(w:World)(h:Rv w v x)(hn:GT.tot x<=1048576) :
  Calls Try.prog 88 #[v] w fun e w' => ∃ v',e = .returned v'/\Ov w.heap.size w' v' x/\Ext w w':=by
 have ht:GT.tot x=GT.tot x.Lst:=rfl;obtain⟨a0,c0,rfl,h0,l0⟩:=h.openHold;clear h;go_enter Try.func88,Try.ntmps88;go_upto_region 2 with (fail)
 refine zA2 (fun W=>Ext w W/\w.heap.size+1+1+1<=W.heap.size/\Bk W w.heap.size [.slice a0 x.Lst.length c0] 71/\Bk W (w.heap.size+1) [.slice none 0 0] 71/\Bk W (w.heap.size+1+1) [.slice a0 x.Lst.length c0] 71) ⟨((zr _).alloc _).alloc _ |>.alloc _,by simp,(Bk.new _ _ _).ext (((zr _).alloc _).alloc _),(Bk.new1 _ _ _ _).ext ((zr _).alloc _),Bk.new2 _ _ _ _ _⟩ ?_
 rintro w0 ⟨E,S,KA,KB,KC⟩;replace E:=zh E;replace KA:=zh KA;replace KB:=zh KB;replace KC:=zh KC;obtain⟨M0,hM0⟩:∃ M0,M0=w.heap.size+1+1+1:=⟨_,rfl⟩;replace hM0:=zh hM0;have fa0:=KA.out.cell (j:=0) rfl;have sA:w.heap.size < w0.heap.size:=by omega
 go_upto_region 3 with (at_builtin;refine zC2 (α:=Int) rfl _ _ 61 rfl 3 Try.underlying61 zEs (L:=w0.heap.size) (v:=.slice (some ⟨w0.heap.size,0,none⟩) 0 0) (xs:=[]) (ys:=x.Lst) rfl (Oa.lit0' _ _ rfl) rfl (h0.out.ext (E.out.alloc _)) (by have:=zBa (xs:=x.Lst);simp;omega) (by simp) ?_;intro v1 u1 hO1 hg1;have he:=zI0 hg1 (Nat.le_refl _);have ho:=hO1.osF;clear hO1 hg1;have fc0:=(KC.out.ext he).cell (j:=0) rfl;have fz:=(KC.out.ext he).fz;have HO:=zh ho;have HE:=zh he;clear ho he;obtain⟨p0,q0,rfl,_⟩:=HO.out.form)
 have OO0:=zh (Oe.ofS HO.out (L':=w0.heap.size) (Nat.le_refl _) HE.out.sz);obtain⟨M1,hM1⟩:∃ M,M=u1.heap.size:=⟨_,rfl⟩;replace OO0:=zh (OO0.out.wide (L':=M0) (M':=M1) (by have:=hM0.out;omega) (by omega))
 have HSZ:Hid (M1<=(u1).heap.size):=zh (by rw[hM1];simp)
 replace hM1:Hid (w.heap.size+1+1+1<=M1):=zh (by have:=HE.out.sz;omega)
 refine zA2 (fun W=>Ext w W/\w.heap.size+1+1+1<=W.heap.size/\Bk W w.heap.size [.slice a0 x.Lst.length c0] 71/\Bk W (w.heap.size+1) [.slice none 0 0] 71/\Bk W (w.heap.size+1+1) [.slice p0 x.Lst.length q0] 71/\Hid (Oe M0 M1 W [.slice p0 x.Lst.length q0] x.Lst)/\M1<=W.heap.size) ⟨(Ext.set (E.out.tr HE.out) (by simp<;>omega) _),Nat.le_trans S (Nat.le_trans HE.out.sz (by simp)),(Bk.set_ne (KA.out.ext HE.out) (by simp<;>omega) _),(Bk.set_ne (KB.out.ext HE.out) (by simp<;>omega) _),(Bk.set (KC.out.ext HE.out) 0 _),zh (OO0.out.hi (n:=w.heap.size+1+1+1) (Hi.set (Hi.refl _ _) (by simp<;>omega) _) (by have:=hM0.out;  omega)),by have:=HSZ.out;simpa using this⟩ ?_
 rintro w1 ⟨E1,S1,KA1,KB1,KC1,OX0,SM⟩;clear sA HSZ HE HO OO0 KA KB KC E S fz  fa0 fc0;have E:=zh E1;have KA:=zh KA1;have KB:=zh KB1;have KC:=zh KC1;have S:=S1;have O0:=OX0;clear OX0;clear E1 KA1 KB1 KC1 S1;replace hM1:Hid (w.heap.size+1+1+1<=M1/\M1<=w1.heap.size):=zh ⟨hM1.out,SM⟩;clear SM;have fc0:=KC.out.cell (j:=0) rfl;have fb0:=KB.out.cell (j:=0) rfl;have fzb:=KB.out.fz;go_wp2;refine bodyPost_ret (v:=.agg #[.slice p0 x.Lst.length q0]) (by simp[results,Try.results88,go_sem,fb0]) rfl ⟨_,rfl,?_,?_⟩
 ·have hh:∀ {W:World},Hi (w.heap.size+1+1+1) w1 W->Ov (w.heap.size+1+1+1) W (.agg #[.slice p0 x.Lst.length q0]) x:=fun hW =>
   (Oe.mkHold (O0.out.hi hW (by have:=hM0.out;  omega))).ov.mono (by have:=hM0.out;omega)
  exact(hh ((Hi.set (Hi.refl _ _) (by simp<;>omega) _))).mono (by omega)
 ·exact(Ext.set E.out (by simp<;>omega) _)
theorem zFl(v:Value)(x:Core)(w:World)(h:Rv w v x)(hn:GT.tot x<=1048576) :
  Calls Try.prog 87 #[v] w fun e w' => ∃ v',e = .returned v'/\Ov w.heap.size w' v' x/\Ext w w':=by
 have ht:GT.tot x=GT.tot x.Cells+GT.tot x.At+GT.tot x.Stopped:=rfl;obtain⟨a0,c0,rfl,r1,h0,l0⟩:=h.openCore;clear h;go_enter Try.func87,Try.ntmps87;go_upto_region 2 with (fail)
 refine zA2 (fun W=>Ext w W/\w.heap.size+1+1+1<=W.heap.size/\Bk W w.heap.size [.slice a0 x.Cells.length c0,.int .i64 x.At,.bool x.Stopped] 63/\Bk W (w.heap.size+1) [.slice none 0 0,.int .i64 0,.bool false] 63/\Bk W (w.heap.size+1+1) [.slice a0 x.Cells.length c0,.int .i64 x.At,.bool x.Stopped] 63) ⟨((zr _).alloc _).alloc _ |>.alloc _,by simp,(Bk.new _ _ _).ext (((zr _).alloc _).alloc _),(Bk.new1 _ _ _ _).ext ((zr _).alloc _),Bk.new2 _ _ _ _ _⟩ ?_
 rintro w0 ⟨E,S,KA,KB,KC⟩;replace E:=zh E;replace KA:=zh KA;replace KB:=zh KB;replace KC:=zh KC;obtain⟨M0,hM0⟩:∃ M0,M0=w.heap.size+1+1+1:=⟨_,rfl⟩;replace hM0:=zh hM0;have fa0:=KA.out.cell (j:=0) rfl;have sA:w.heap.size < w0.heap.size:=by omega
 go_upto_region 3 with (at_builtin;refine zC2 (α:=Int) rfl _ _ 61 rfl 3 Try.underlying61 zEs (L:=w0.heap.size) (v:=.slice (some ⟨w0.heap.size,0,none⟩) 0 0) (xs:=[]) (ys:=x.Cells) rfl (Oa.lit0' _ _ rfl) rfl (h0.out.ext (E.out.alloc _)) (by have:=zBa (xs:=x.Cells);simp;omega) (by simp) ?_;intro v1 u1 hO1 hg1;have he:=zI0 hg1 (Nat.le_refl _);have ho:=hO1.osF;clear hO1 hg1;have fc0:=(KC.out.ext he).cell (j:=0) rfl;have fz:=(KC.out.ext he).fz;have HO:=zh ho;have HE:=zh he;clear ho he;obtain⟨p0,q0,rfl,_⟩:=HO.out.form)
 have OO0:=zh (Oe.ofS HO.out (L':=w0.heap.size) (Nat.le_refl _) HE.out.sz);obtain⟨M1,hM1⟩:∃ M,M=u1.heap.size:=⟨_,rfl⟩;replace OO0:=zh (OO0.out.wide (L':=M0) (M':=M1) (by have:=hM0.out;omega) (by omega))
 have HSZ:Hid (M1<=(u1).heap.size):=zh (by rw[hM1];simp)
 replace hM1:Hid (w.heap.size+1+1+1<=M1):=zh (by have:=HE.out.sz;omega)
 refine zA2 (fun W=>Ext w W/\w.heap.size+1+1+1<=W.heap.size/\Bk W w.heap.size [.slice a0 x.Cells.length c0,.int .i64 x.At,.bool x.Stopped] 63/\Bk W (w.heap.size+1) [.slice none 0 0,.int .i64 0,.bool false] 63/\Bk W (w.heap.size+1+1) [.slice p0 x.Cells.length q0,.int .i64 x.At,.bool x.Stopped] 63/\Hid (Oe M0 M1 W [.slice p0 x.Cells.length q0] x.Cells)/\M1<=W.heap.size) ⟨(Ext.set (E.out.tr HE.out) (by simp<;>omega) _),Nat.le_trans S (Nat.le_trans HE.out.sz (by simp)),(Bk.set_ne (KA.out.ext HE.out) (by simp<;>omega) _),(Bk.set_ne (KB.out.ext HE.out) (by simp<;>omega) _),(Bk.set (KC.out.ext HE.out) 0 _),zh (OO0.out.hi (n:=w.heap.size+1+1+1) (Hi.set (Hi.refl _ _) (by simp<;>omega) _) (by have:=hM0.out;  omega)),by have:=HSZ.out;simpa using this⟩ ?_
 rintro w1 ⟨E1,S1,KA1,KB1,KC1,OX0,SM⟩;clear sA HSZ HE HO OO0 KA KB KC E S fz  fa0 fc0;have E:=zh E1;have KA:=zh KA1;have KB:=zh KB1;have KC:=zh KC1;have S:=S1;have O0:=OX0;clear OX0;clear E1 KA1 KB1 KC1 S1;replace hM1:Hid (w.heap.size+1+1+1<=M1/\M1<=w1.heap.size):=zh ⟨hM1.out,SM⟩;clear SM;obtain⟨fc0,fc1,fc2⟩:=Bk.k3 KC.out;obtain⟨fb0,fb1,fb2⟩:=Bk.k3 KB.out;have fzb:=KB.out.fz;go_wp2;refine bodyPost_ret (v:=.agg #[.slice p0 x.Cells.length q0,.int .i64 x.At,.bool x.Stopped]) (by simp[results,Try.results87,go_sem,fb0,fb1,fb2]) rfl ⟨_,rfl,?_,?_⟩
 ·have hh:∀ {W:World},Hi (w.heap.size+1+1+1) w1 W->Ov (w.heap.size+1+1+1) W (.agg #[.slice p0 x.Cells.length q0,.int .i64 x.At,.bool x.Stopped]) x:=fun hW =>
   (Oe.mkCore (O0.out.hi hW (by have:=hM0.out;  omega)) r1).ov.mono (by have:=hM0.out;omega)
  exact(hh ((Hi.set (Hi.set (Hi.set (Hi.refl _ _) (by simp<;>omega) _) (by simp<;>omega) _) (by simp<;>omega) _))).mono (by omega)
 ·exact(Ext.set (Ext.set (Ext.set E.out (by simp<;>omega) _) (by simp<;>omega) _) (by simp<;>omega) _)
end Sk
