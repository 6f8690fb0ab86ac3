/- Contracts of functions of the given program. -/
import Derived.Test.YtidkncgejgngcaaFld
namespace Sk
open Go Go.RowKit
set_option linter.unusedVariables false
set_option linter.unusedSimpArgs false
class Fl (α:Type) [GT α]:Prop where
 nof:∀ {w:World} {cs:List Value} {x : α} {F:List Nat},GT.enc w cs x F->F = []
instance:Fl Int:=⟨by rintro w cs x F ⟨_,_,rfl⟩;rfl⟩
instance:Fl Window:=⟨by rintro w cs x F ⟨_,_,_,rfl⟩;rfl⟩
instance:Fl Channel:=⟨by rintro w cs x F ⟨_,_,_,_,_,rfl⟩;rfl⟩
instance:Fl Slot:=⟨by rintro w cs x F ⟨_,_,_,rfl⟩;rfl⟩
instance:Fl Order:=⟨by rintro w cs x F ⟨_,_,_,_,rfl⟩;rfl⟩
instance:Fl Health:=⟨by rintro w cs x F ⟨_,_,rfl⟩;rfl⟩
theorem Row.fl{α:Type}[GT α][Fl α]{w:World}{b:Nat}{xs:List α}:∀ {o:Nat} {F:List Nat},Row w b o xs F->F = []:=by
 induction xs with
 | nil=>intro o F h;exact h
 | cons x xs ih =>
  intro o F h;obtain⟨cs,F1,F2,he,ha,rfl,hr⟩:=h;rw[Fl.nof he,ih hr];rfl
theorem Oa.fl{α:Type}[GT α][Fl α]{e:TypeId}{L:Nat}{w:World}{v:Value}{xs:List α}{F:List Nat}(h:Oa e L w v xs F):F = []:=by
 rcases h with ⟨_,_,rfl⟩ | ⟨g,cap,cur,rfl,hL,hg,hl,hc,hs,hr,hn⟩
 ·rfl
 ·exact hr.fl
theorem Oa.osF{α:Type}[GT α][Fl α]{e:TypeId}{L:Nat}{w:World}{v:Value}{xs:List α}{F:List Nat}(h:Oa e L w v xs F):Os L w v xs:=by
 have:=h.fl;subst this;exact h.os (Own.nil _ _)
theorem zD8{P:Program}{w:World}(t ty e:TypeId)(i:TypeInfo)(ht:P.underlying t=some (.slice e))(hi:P.info? e=some i)(ad a:Option Addr)(n cap c:Nat)(hn:n<=cap) :
  (Builtin.append_ #[t,t] ty #[.slice ad n cap,.slice a 0 c]).run P w = .ok (.slice ad n cap) w:=by
 cases ad<;>cases a<;>simp[Builtin.append_,run_underlying ht,Go.sizeOf,typeInfo,hi,Builtin.lenOf,Builtin.firstCells,loadCells,loadCellsFrom,storeCells,hn]
theorem zIc(w:World)(row:Option Nat):w.grownBy w row:=⟨rfl,rfl,rfl,Nat.le_refl _,fun _ _ _=>rfl⟩
theorem wp_appF{α:Type}[GT α][Fl α]{P:Program}{w:World}{o:Oper}{a:Act}{K:Act->World->Prop}{Q:Exit->Act->World->Prop}(s x:Operand)(t:TypeId)
  (ho:o.op = .call { callee:=.builtin .append,args:=#[s,x],argTypes:=#[t,t] }) (e:TypeId) (ht:P.underlying t=some (.slice e)) (hel:El P e α)
  {L:Nat} {v:Value} {xs ys:List α} (hs:a.eval s=v) (hO:Oa e L w v xs []) {vx:Value} (hx:a.eval x=vx) (hy:Rs w vx ys) (hlen:xs.length+ys.length<=4294967296) (hL:L<=w.heap.size)
  (h:∀ v' w',Oa e L w' v' (xs++ys) []->w.grownBy w' v.ownBlock->K (a.put o.dst v') w'):o.wp P a w K Q:=by
 obtain⟨F,ax,cx,rfl,hl,hc,⟨rfl,rfl⟩ | ⟨hne,b,o',F',rfl,rfl,hr⟩⟩:=hy
 ·obtain⟨i,z,bytes,hi,_⟩:=hel;have hv:∃ ad n cap,v = .slice ad n cap/\n<=cap:=by
   rcases hO with ⟨rfl,_⟩ | ⟨g,cap,cur,rfl,_,_,hn,_⟩
   ·exact⟨_,_,_,rfl,Nat.le_refl _⟩
   ·exact⟨_,_,_,rfl,hn⟩
  obtain⟨ad,n,cap,rfl,hn⟩:=hv;have hr:=zD8 (P:=P) (w:=w) t o.type e i ht hi ad ax n cap cx hn;unfold Oper.wp execOp;simp only[ho,resolve,invoke,builtin,Sem.run_bind,Sem.run_pure,Result.andThen_ok,List.map_toArray,List.map_cons,List.map_nil,hs,hx,List.length_nil,hr];exact h _ w (by rw[List.append_nil];exact hO) (zIc _ _)
 ·have:=hr.fl;subst this
  exact wp_app s x t ho e ht hel hs hO hx rfl hr (List.length_pos_iff.2 hne) (fun k hk=>by cases hk) hlen hL h
theorem zBi{α:Type}[GT α][Fl α]{P:Program}{w:World}{ops:Array Oper}{rest:List Oper}{o:Oper}{a:Act}{Q:Exit->Act->World->Prop}(hgd:o.guard=none)(s x:Operand)(t:TypeId)
  (ho:o.op = .call { callee:=.builtin .append,args:=#[s,x],argTypes:=#[t,t] }) (e:TypeId) (ht:P.underlying t=some (.slice e)) (hel:El P e α)
  {L:Nat} {v:Value} {xs ys:List α} (hs:a.eval s=v) (hO:Oa e L w v xs []) {vx:Value} (hx:a.eval x=vx) (hy:Rs w vx ys) (hlen:xs.length+ys.length<=4294967296) (hL:L<=w.heap.size)
  (h:∀ v' w',Oa e L w' v' (xs++ys) []->w.grownBy w' v.ownBlock->wpList P ops Q rest (a.put o.dst v') w'):wpList P ops Q (o::rest) a w :=
 wpList_plain hgd fun _ hK=>wp_appF s x t ho e ht hel hs hO hx hy hlen hL fun v' w' h1 h2=>hK _ _ (h v' w' h1 h2)
theorem wp_lit0c{α:Type}[GT α][Fl α]{P:Program}{w:World}{o:Oper}{a:Act}{K:Act->World->Prop}{Q:Exit->Act->World->Prop}(s x:Operand)(t:TypeId)
  (ho:o.op = .call { callee:=.builtin .append,args:=#[s,x],argTypes:=#[t,t] }) (e:TypeId) (ht:P.underlying t=some (.slice e)) (hel:El P e α)
  {B:Nat} {ys:List α} (hs:a.eval s = .slice (some ⟨B,0,none⟩) 0 0) {vx:Value} (hx:a.eval x=vx) (hy:Rs w vx ys) (hne:ys ≠ []) (hlen:ys.length<=4294967296)
  (h:∀ cap C,Os w.heap.size (w.drew.alloc (.cells C e)) (.slice (some ⟨w.heap.size,0,none⟩) ys.length cap) ys->K (a.put o.dst (.slice (some ⟨w.heap.size,0,none⟩) ys.length cap)) (w.drew.alloc (.cells C e))):o.wp P a w K Q:=by
 obtain⟨F,ax,cx,rfl,hl,hc,⟨rfl,rfl⟩ | ⟨_,b,o',F',rfl,rfl,hr⟩⟩:=hy
 ·exact absurd rfl hne
 have hf:=hr.fl;subst hf;obtain⟨i,z,bytes,hi,hz,hsz,hby,hzc,hb⟩:=hel;have hzl:z.cells.size=GT.sz α:=by rw[<- GT.len (GT.zero (α:=α) w),<- hzc];simp
 obtain⟨news,hnl,hnat,hn1⟩:=hr.cells;have hadd:∀ (b' o' j:Nat),Addr.add ⟨b',o',none⟩ j=⟨b',o'+j,none⟩:=fun b' o' j=>by
  unfold Addr.add;split;·subst j;rfl
  ·rfl
 have hpos:0 < ys.length:=List.length_pos_iff.2 hne;have hbytes:(0+ys.length)*i.bytes<=140737488355328:=by
  rw[Nat.zero_add,hby]
  have:=Nat.mul_le_mul hlen hb
  omega
 have hrun:=run_append_grow (P:=P) w t o.type e i z ht hi hz ⟨B,0,none⟩ 0 0 [] (by simp) (fun j u hj=>by simp at hj) ⟨b,o',none⟩ ys.length cx news (by rw[hsz];exact hnl) (fun j u hj=>by rw[hadd];exact hnat j u hj) (by omega) (by omega) (growslice_fits (by omega) hbytes)
 rw[Nat.zero_add] at hrun;have hge:=grownCap_ge w ys.length 0 e;have hcm:grownCap w ys.length 0 e<=maxLen:=grownCap_le_maxLen w ys.length 0 e (by unfold maxLen;omega)
 unfold Oper.wp execOp;simp only[ho,resolve,invoke,builtin,Sem.run_bind,Sem.run_pure,Result.andThen_ok,List.map_toArray,List.map_cons,List.map_nil,hs,hx,hrun];refine h (grownCap w ys.length 0 e) _ ?_;have hB:(w.drew.alloc (.cells (([]:List Value).toArray++news.toArray++Builtin.zeroCells z.cells (grownCap w ys.length 0 e - ys.length)) e)).heap[w.heap.size]? = some (.cells (([]:List Value).toArray++news.toArray++Builtin.zeroCells z.cells (grownCap w ys.length 0 e - ys.length)) e (0,0)):=by
  show(w.heap.push _)[w.heap.size]? = _
  simp
 refine⟨[w.heap.size],⟨_,_,rfl,hge,hcm,.inr ⟨hne,w.heap.size,0,[],rfl,rfl,?_⟩⟩,by simp,fun k hk=>?_⟩
 ·refine hr.move (fun k hk=>by cases hk) fun j u hj hu=>?_
  have hj2:j < news.length:=by omega
  have h1:=hnat j news[j] (by simp[hj2])
  rw[h1] at hu;cases hu;rw[Nat.zero_add];refine(Bk.ofA hB).cell ?_;simp only[Array.toList_append,List.nil_append,List.append_assoc];rw[List.getElem?_append_left (by simpa using hj2)]
  simp[hj2]
 ·rw[List.mem_singleton] at hk;subst hk;exact⟨Nat.le_refl _,_,_,Bk.ofA hB⟩
theorem wp_lit0n{P:Program}{w:World}{o:Oper}{a:Act}{K:Act->World->Prop}{Q:Exit->Act->World->Prop}(s x:Operand)(t:TypeId)
  (ho:o.op = .call { callee:=.builtin .append,args:=#[s,x],argTypes:=#[t,t] }) (e:TypeId) (ht:P.underlying t=some (.slice e)) {α:Type} [GT α] (hel:El P e α)
  {B:Nat} (hs:a.eval s = .slice (some ⟨B,0,none⟩) 0 0) {ax:Option Addr} {cx n:Nat} (hx:a.eval x = .slice ax n cx) (hn:n=0)
  (h:K (a.put o.dst (.slice (some ⟨B,0,none⟩) 0 0)) w):o.wp P a w K Q:=by
 subst hn;obtain⟨i,z,bytes,hi,_⟩:=hel;have hr:=zD8 (P:=P) (w:=w) t o.type e i ht hi (some ⟨B,0,none⟩) ax 0 0 cx (Nat.le_refl _);unfold Oper.wp execOp;simp only[ho,resolve,invoke,builtin,Sem.run_bind,Sem.run_pure,Result.andThen_ok,List.map_toArray,List.map_cons,List.map_nil,hs,hx,hr];exact h
theorem Own.grown{L:Nat}{w w':World}{F:List Nat}{row:Option Nat}(h:Own L w F)(hg:w.grownBy w' row)(hne:∀ k∈F,row≠some k):Own L w' F:=by
 refine⟨h.1,fun b hb=>⟨(h.2 b hb).1,?_⟩⟩
 obtain⟨_,cs,T,hbk⟩:=h.2 b hb;exact⟨cs,T,by unfold Bk at *;rw[hg.block b (Bk.lt hbk) (fun e=>hne b hb e.symm)];exact hbk⟩
theorem Sl.grown{α:Type}[GT α]{w w':World}{v:Value}{xs:List α}{F:List Nat}{row:Option Nat}(h:Sl w v xs F)(hg:w.grownBy w' row)(hne:∀ k∈F,row≠some k):Sl w' v xs F :=
 h.keep fun k hk=>hg.block k (h.inh k hk) (fun e=>hne k hk e.symm)
theorem Bk.grown{w w':World}{b:Nat}{cs:List Value}{T:TypeId}{row:Option Nat}(h:Bk w b cs T)(hg:w.grownBy w' row)(hne:row≠some b):Bk w' b cs T:=by
 have:=hg.block b h.lt (fun e=>hne e.symm)
 unfold Bk at *;rw[this];exact h
def Oo{α:Type}[GT α](e:TypeId)(L:Nat)(w:World)(v:Value)(xs:List α):Prop:=∃ F,Oa e L w v xs F/\Own L w F
theorem Oo.nil{α:Type}[GT α](e:TypeId)(L:Nat)(w:World):Oo (α:=α) e L w (.slice none 0 0) []:=⟨[],Oa.nil e L w,Own.nil _ _⟩
theorem Oo.lit0{α:Type}[GT α](e:TypeId)(w:World):Oo (α:=α) e w.heap.size (w.alloc (.cells #[] e (0,0))) (.slice (some ⟨w.heap.size,0,none⟩) 0 0) []:=⟨[],Oa.lit0 e w,Own.nil _ _⟩
theorem Oo.ext{α:Type}[GT α]{e:TypeId}{L:Nat}{w w':World}{v:Value}{xs:List α}(h:Oo e L w v xs)(he:Ext w w'):Oo e L w' v xs:=by
 obtain⟨F,h,o⟩:=h;exact⟨F,h.ext he,o.ext he⟩
theorem Oo.mono{α:Type}[GT α]{e:TypeId}{L L':Nat}{w:World}{v:Value}{xs:List α}(h:Oo e L w v xs)(hl:L'<=L):Oo e L' w v xs:=by
 obtain⟨F,h,o⟩:=h;exact⟨F,h.mono hl,o.mono hl⟩
theorem Oo.os{α:Type}[GT α]{e:TypeId}{L:Nat}{w:World}{v:Value}{xs:List α}(h:Oo e L w v xs):Os L w v xs:=by
 obtain⟨F,h,o⟩:=h;exact h.os o
theorem Oo.rs{α:Type}[GT α]{e:TypeId}{L:Nat}{w:World}{v:Value}{xs:List α}(h:Oo e L w v xs):Rs w v xs:=h.os.rs
theorem Oo.form{α:Type}[GT α]{e:TypeId}{L:Nat}{w:World}{v:Value}{xs:List α}(h:Oo e L w v xs):∃ a c,v = .slice a xs.length c/\xs.length<=9223372036854775807:=by
 obtain⟨F,h,o⟩:=h;exact h.form
theorem Oo.sh{α:Type}[GT α]{e:TypeId}{L:Nat}{w:World}{v:Value}{xs:List α}(h:Oo e L w v xs):∃ a n c,v = .slice a n c:=by
 obtain⟨a,c,rfl,_⟩:=h.form;exact⟨_,_,_,rfl⟩
theorem Oo.own{α:Type}[GT α]{e:TypeId}{L:Nat}{w:World}{v:Value}{xs:List α}(h:Oo e L w v xs):∀ k,v.ownBlock=some k->L<=k:=by
 obtain⟨F,h,o⟩:=h;exact h.own
theorem Oo.lt{α:Type}[GT α]{e:TypeId}{L:Nat}{w:World}{v:Value}{xs:List α}(h:Oo e L w v xs):∀ k,v.ownBlock=some k->k < w.heap.size:=by
 obtain⟨F,h,o⟩:=h;exact h.lt
theorem Oo.ofA{α:Type}[GT α][Fl α]{e:TypeId}{L:Nat}{w:World}{v:Value}{xs:List α}{F:List Nat}(h:Oa e L w v xs F):Oo e L w v xs:=by
 have:=h.fl;subst this;exact⟨[],h,Own.nil _ _⟩
theorem Oo.oa{α:Type}[GT α][Fl α]{e:TypeId}{L:Nat}{w:World}{v:Value}{xs:List α}(h:Oo e L w v xs):Oa e L w v xs []:=by
 obtain⟨F,h,o⟩:=h;have:=h.fl;subst this;exact h
theorem Row.lit1{α:Type}[GT α]{w:World}{cs:List Value}{x : α}{F:List Nat}{T:TypeId}(h:GT.enc w cs x F):Row (w.alloc (.cells cs.toArray T (0,0))) w.heap.size 0 [x] F :=
 Row.one (GT.ext h ((zr w).alloc _)) (fun j u hj=>by rw[Nat.zero_add];exact(Bk.new w cs T).cell hj)
theorem zHv{α:Type}[GT α]{P:Program}{u w:World}{o:Oper}{a:Act}{K:Act->World->Prop}{Q:Exit->Act->World->Prop}(s x:Operand)(t:TypeId)
  (ho:o.op = .call { callee:=.builtin .append,args:=#[s,x],argTypes:=#[t,t] }) (e:TypeId) (ht:P.underlying t=some (.slice e)) (hel:El P e α)
  {L:Nat} {v:Value} {xs ys:List α} {Fy:List Nat} (hs:a.eval s=v) (hO:Oo e L u v xs) (he:Ext u w) (hL:L<=u.heap.size) {ab ao m c:Nat} (hx:a.eval x = .slice (some ⟨ab,ao,none⟩) m c) (hm:ys.length=m) (hy:Row w ab ao ys Fy)
  (hm0:0 < m) (hown:Own u.heap.size w Fy) (hlen:xs.length+m<=4294967296)
  (h:∀ v' w',Oo e L w' v' (xs++ys)->w.grownBy w' v.ownBlock->(v'.ownBlock=v.ownBlock\/v'.ownBlock=some w.heap.size)->K (a.put o.dst v') w'):o.wp P a w K Q:=by
 have hlt:=hO.lt;obtain⟨F,hA,hF⟩:=hO;have hd:∀ k∈Fy,v.ownBlock≠some k:=fun k hk e=>by have:=(hown.2 k hk).1;have:=hlt k e;omega
 refine zHi s x t ho e ht hel hs (hA.ext he) hx hm hy hm0 hd hlen (Nat.le_trans hL he.sz) fun v' w' h1 h2 h3=>h v' w' ⟨_,h1,?_⟩ h2 h3
 have hnF:∀ k∈F,v.ownBlock≠some k:=fun k hk e=>by
  rcases hA with ⟨rfl,_,_⟩ | ⟨g,cap,cur,rfl,_,_,_,_,_,_,hg⟩
  ·cases e
  ·cases e;exact hg hk
 refine Own.grown (row:=v.ownBlock) (w:=w) (Own.app (hF.ext he) hown (fun b hb=>hF.lt hb) hL) h2 fun k hk=>?_
 rcases List.mem_append.1 hk with hk|hk
 ·exact hnF k hk
 ·exact hd k hk
theorem wp_appO{α:Type}[GT α]{P:Program}{u w:World}{o:Oper}{a:Act}{K:Act->World->Prop}{Q:Exit->Act->World->Prop}(s x:Operand)(t:TypeId)
  (ho:o.op = .call { callee:=.builtin .append,args:=#[s,x],argTypes:=#[t,t] }) (e:TypeId) (ht:P.underlying t=some (.slice e)) (hel:El P e α)
  {L:Nat} {v:Value} {xs ys:List α} {Fy:List Nat} (hs:a.eval s=v) (hO:Oo e L u v xs) (he:Ext u w) (hL:L<=u.heap.size) {ab ao m c:Nat} (hx:a.eval x = .slice (some ⟨ab,ao,none⟩) m c) (hm:ys.length=m) (hy:Row w ab ao ys Fy)
  (hm0:0 < m) (hown:Own u.heap.size w Fy) (hlen:xs.length+m<=4294967296)
  (h:∀ v' w',Oo e L w' v' (xs++ys)->w.grownBy w' v.ownBlock->K (a.put o.dst v') w'):o.wp P a w K Q :=
 zHv s x t ho e ht hel hs hO he hL hx hm hy hm0 hown hlen fun v' w' h1 h2 _=>h v' w' h1 h2
theorem zE8{α:Type}[GT α]{P:Program}{u w:World}{ops:Array Oper}{rest:List Oper}{o:Oper}{a:Act}{Q:Exit->Act->World->Prop}(hgd:o.guard=none)(s x:Operand)(t:TypeId)
  (ho:o.op = .call { callee:=.builtin .append,args:=#[s,x],argTypes:=#[t,t] }) (e:TypeId) (ht:P.underlying t=some (.slice e)) (hel:El P e α)
  {L:Nat} {v:Value} {xs ys:List α} {Fy:List Nat} (hs:a.eval s=v) (hO:Oo e L u v xs) (he:Ext u w) (hL:L<=u.heap.size) {ab ao m c:Nat} (hx:a.eval x = .slice (some ⟨ab,ao,none⟩) m c) (hm:ys.length=m) (hy:Row w ab ao ys Fy)
  (hm0:0 < m) (hown:Own u.heap.size w Fy) (hlen:xs.length+m<=4294967296)
  (h:∀ v' w',Oo e L w' v' (xs++ys)->w.grownBy w' v.ownBlock->wpList P ops Q rest (a.put o.dst v') w'):wpList P ops Q (o::rest) a w :=
 wpList_plain hgd fun _ hK=>wp_appO s x t ho e ht hel hs hO he hL hx hm hy hm0 hown hlen fun v' w' h1 h2=>hK _ _ (h v' w' h1 h2)
theorem zJ9{α:Type}[GT α]{P:Program}{u w:World}{ops:Array Oper}{rest:List Oper}{o:Oper}{a:Act}{Q:Exit->Act->World->Prop}(hgd:o.guard=none)(s x:Operand)(t:TypeId)
  (ho:o.op = .call { callee:=.builtin .append,args:=#[s,x],argTypes:=#[t,t] }) (e:TypeId) (ht:P.underlying t=some (.slice e)) (hel:El P e α)
  {L:Nat} {v:Value} {xs ys:List α} {Fy:List Nat} (hs:a.eval s=v) (hO:Oo e L u v xs) (he:Ext u w) (hL:L<=u.heap.size) {ab ao m c:Nat} (hx:a.eval x = .slice (some ⟨ab,ao,none⟩) m c) (hm:ys.length=m) (hy:Row w ab ao ys Fy)
  (hm0:0 < m) (hown:Own u.heap.size w Fy) (hlen:xs.length+m<=4294967296)
  (h:∀ v' w',Oo e L w' v' (xs++ys)->w.grownBy w' v.ownBlock->(v'.ownBlock=v.ownBlock\/v'.ownBlock=some w.heap.size)->wpList P ops Q rest (a.put o.dst v') w'):wpList P ops Q (o::rest) a w :=
 wpList_plain hgd fun _ hK=>zHv s x t ho e ht hel hs hO he hL hx hm hy hm0 hown hlen fun v' w' h1 h2 h3=>hK _ _ (h v' w' h1 h2 h3)
end Sk
