/- Contracts of functions of the given program. -/
import Derived.Deep.CutBlock
import Derived.Orders
import Derived.Test.YtfdeoepbnefckaaGreatFld
import Derived.Test.YtfdeoepbnefckaaGreatClone
namespace Sk
open Go Go.RowKit
set_option linter.unusedVariables false
set_option linter.unusedSimpArgs false
theorem Own.grown{L:Nat}{w w':World}{F:List Nat}{row:Option Nat}(h:Own L w F)(hg:w.grownBy w' row)(hne:∀ k∈F,row≠some k):Own L w' F:=by
 refine⟨h.1,fun b hb=>⟨(h.2 b hb).1,?_⟩⟩
 obtain⟨_,cs,T,hbk⟩:=h.2 b hb;exact⟨cs,T,by unfold Bk at *;rw[hg.block b (Bk.lt hbk) (fun e=>hne b hb e.symm)];exact hbk⟩
theorem Sl.grown{α:Type}[GT α]{w w':World}{v:Value}{xs:List α}{F:List Nat}{row:Option Nat}(h:Sl w v xs F)(hg:w.grownBy w' row)(hne:∀ k∈F,row≠some k):Sl w' v xs F :=
 h.keep fun k hk=>hg.block k (h.inh k hk) (fun e=>hne k hk e.symm)
theorem Bk.grown{w w':World}{b:Nat}{cs:List Value}{T:TypeId}{row:Option Nat}(h:Bk w b cs T)(hg:w.grownBy w' row)(hne:row≠some b):Bk w' b cs T:=by
 have:=hg.block b h.lt (fun e=>hne e.symm)
 unfold Bk at *;rw[this];exact h
def Oo{α:Type}[GT α](e:TypeId)(L:Nat)(w:World)(v:Value)(xs:List α):Prop:=∃ F,Oa e L w v xs F/\Own L w F
theorem Oo.nil{α:Type}[GT α](e:TypeId)(L:Nat)(w:World):Oo (α:=α) e L w (.slice none 0 0) []:=⟨[],Oa.nil e L w,Own.nil _ _⟩
theorem Oo.lit0{α:Type}[GT α](e:TypeId)(w:World):Oo (α:=α) e w.heap.size (w.alloc (.cells #[] e (0,0))) (.slice (some ⟨w.heap.size,0,none⟩) 0 0) []:=⟨[],Oa.lit0 e w,Own.nil _ _⟩
theorem Oo.ext{α:Type}[GT α]{e:TypeId}{L:Nat}{w w':World}{v:Value}{xs:List α}(h:Oo e L w v xs)(he:Ext w w'):Oo e L w' v xs:=by
 obtain⟨F,h,o⟩:=h;exact⟨F,h.ext he,o.ext he⟩
theorem Oo.mono{α:Type}[GT α]{e:TypeId}{L L':Nat}{w:World}{v:Value}{xs:List α}(h:Oo e L w v xs)(hl:L'<=L):Oo e L' w v xs:=by
 obtain⟨F,h,o⟩:=h;exact⟨F,h.mono hl,o.mono hl⟩
theorem Oo.os{α:Type}[GT α]{e:TypeId}{L:Nat}{w:World}{v:Value}{xs:List α}(h:Oo e L w v xs):Os L w v xs:=by
 obtain⟨F,h,o⟩:=h;exact h.os o
theorem Oo.rs{α:Type}[GT α]{e:TypeId}{L:Nat}{w:World}{v:Value}{xs:List α}(h:Oo e L w v xs):Rs w v xs:=h.os.rs
theorem Oo.form{α:Type}[GT α]{e:TypeId}{L:Nat}{w:World}{v:Value}{xs:List α}(h:Oo e L w v xs):∃ a c,v = .slice a xs.length c/\xs.length<=9223372036854775807:=by
 obtain⟨F,h,o⟩:=h;exact h.form
theorem Oo.sh{α:Type}[GT α]{e:TypeId}{L:Nat}{w:World}{v:Value}{xs:List α}(h:Oo e L w v xs):∃ a n c,v = .slice a n c:=by
 obtain⟨a,c,rfl,_⟩:=h.form;exact⟨_,_,_,rfl⟩
theorem Oo.own{α:Type}[GT α]{e:TypeId}{L:Nat}{w:World}{v:Value}{xs:List α}(h:Oo e L w v xs):∀ k,v.ownBlock=some k->L<=k:=by
 obtain⟨F,h,o⟩:=h;exact h.own
theorem Oo.lt{α:Type}[GT α]{e:TypeId}{L:Nat}{w:World}{v:Value}{xs:List α}(h:Oo e L w v xs):∀ k,v.ownBlock=some k->k < w.heap.size:=by
 obtain⟨F,h,o⟩:=h;exact h.lt
theorem Oo.ofA{α:Type}[GT α][Fl α]{e:TypeId}{L:Nat}{w:World}{v:Value}{xs:List α}{F:List Nat}(h:Oa e L w v xs F):Oo e L w v xs:=by
 have:=h.fl;subst this;exact⟨[],h,Own.nil _ _⟩
theorem Row.lit1{α:Type}[GT α]{w:World}{cs:List Value}{x : α}{F:List Nat}{T:TypeId}(h:GT.enc w cs x F):Row (w.alloc (.cells cs.toArray T (0,0))) w.heap.size 0 [x] F :=
 Row.one (GT.ext h ((zr w).alloc _)) (fun j u hj=>by rw[Nat.zero_add];exact(Bk.new w cs T).cell hj)
theorem zIi{α:Type}[GT α]{P:Program}{u w:World}{o:Oper}{a:Act}{K:Act->World->Prop}{Q:Exit->Act->World->Prop}(s x:Operand)(t:TypeId)
  (ho:o.op = .call { callee:=.builtin .append,args:=#[s,x],argTypes:=#[t,t] }) (e:TypeId) (ht:P.underlying t=some (.slice e)) (hel:El P e α)
  {L:Nat} {v:Value} {xs ys:List α} {Fy:List Nat} (hs:a.eval s=v) (hO:Oo e L u v xs) (he:Ext u w) (hL:L<=u.heap.size) {ab ao m c:Nat} (hx:a.eval x = .slice (some ⟨ab,ao,none⟩) m c) (hm:ys.length=m) (hy:Row w ab ao ys Fy)
  (hm0:0 < m) (hown:Own u.heap.size w Fy) (hlen:xs.length+m<=4294967296)
  (h:∀ v' w',Oo e L w' v' (xs++ys)->w.grownBy w' v.ownBlock->(v'.ownBlock=v.ownBlock\/v'.ownBlock=some w.heap.size)->K (a.put o.dst v') w'):o.wp P a w K Q:=by
 have hlt:=hO.lt;obtain⟨F,hA,hF⟩:=hO;have hd:∀ k∈Fy,v.ownBlock≠some k:=fun k hk e=>by have:=(hown.2 k hk).1;have:=hlt k e;omega
 refine zI5 s x t ho e ht hel hs (hA.ext he) hx hm hy hm0 hd hlen (Nat.le_trans hL he.sz) fun v' w' h1 h2 h3=>h v' w' ⟨_,h1,?_⟩ h2 h3
 have hnF:∀ k∈F,v.ownBlock≠some k:=fun k hk e=>by
  rcases hA with ⟨rfl,_,_⟩ | ⟨g,cap,cur,rfl,_,_,_,_,_,_,hg⟩
  ·cases e
  ·cases e;exact hg hk
 refine Own.grown (row:=v.ownBlock) (w:=w) (Own.app (hF.ext he) hown (fun b hb=>hF.lt hb) hL) h2 fun k hk=>?_
 rcases List.mem_append.1 hk with hk|hk
 ·exact hnF k hk
 ·exact hd k hk
theorem wp_appO{α:Type}[GT α]{P:Program}{u w:World}{o:Oper}{a:Act}{K:Act->World->Prop}{Q:Exit->Act->World->Prop}(s x:Operand)(t:TypeId)
  (ho:o.op = .call { callee:=.builtin .append,args:=#[s,x],argTypes:=#[t,t] }) (e:TypeId) (ht:P.underlying t=some (.slice e)) (hel:El P e α)
  {L:Nat} {v:Value} {xs ys:List α} {Fy:List Nat} (hs:a.eval s=v) (hO:Oo e L u v xs) (he:Ext u w) (hL:L<=u.heap.size) {ab ao m c:Nat} (hx:a.eval x = .slice (some ⟨ab,ao,none⟩) m c) (hm:ys.length=m) (hy:Row w ab ao ys Fy)
  (hm0:0 < m) (hown:Own u.heap.size w Fy) (hlen:xs.length+m<=4294967296)
  (h:∀ v' w',Oo e L w' v' (xs++ys)->w.grownBy w' v.ownBlock->K (a.put o.dst v') w'):o.wp P a w K Q :=
 zIi s x t ho e ht hel hs hO he hL hx hm hy hm0 hown hlen fun v' w' h1 h2 _=>h v' w' h1 h2
theorem zBi{α:Type}[GT α]{P:Program}{u w:World}{ops:Array Oper}{rest:List Oper}{o:Oper}{a:Act}{Q:Exit->Act->World->Prop}(hgd:o.guard=none)(s x:Operand)(t:TypeId)
  (ho:o.op = .call { callee:=.builtin .append,args:=#[s,x],argTypes:=#[t,t] }) (e:TypeId) (ht:P.underlying t=some (.slice e)) (hel:El P e α)
  {L:Nat} {v:Value} {xs ys:List α} {Fy:List Nat} (hs:a.eval s=v) (hO:Oo e L u v xs) (he:Ext u w) (hL:L<=u.heap.size) {ab ao m c:Nat} (hx:a.eval x = .slice (some ⟨ab,ao,none⟩) m c) (hm:ys.length=m) (hy:Row w ab ao ys Fy)
  (hm0:0 < m) (hown:Own u.heap.size w Fy) (hlen:xs.length+m<=4294967296)
  (h:∀ v' w',Oo e L w' v' (xs++ys)->w.grownBy w' v.ownBlock->wpList P ops Q rest (a.put o.dst v') w'):wpList P ops Q (o::rest) a w :=
 wpList_plain hgd fun _ hK=>wp_appO s x t ho e ht hel hs hO he hL hx hm hy hm0 hown hlen fun v' w' h1 h2=>hK _ _ (h v' w' h1 h2)
theorem zHk{α:Type}[GT α]{P:Program}{u w:World}{ops:Array Oper}{rest:List Oper}{o:Oper}{a:Act}{Q:Exit->Act->World->Prop}(hgd:o.guard=none)(s x:Operand)(t:TypeId)
  (ho:o.op = .call { callee:=.builtin .append,args:=#[s,x],argTypes:=#[t,t] }) (e:TypeId) (ht:P.underlying t=some (.slice e)) (hel:El P e α)
  {L:Nat} {v:Value} {xs ys:List α} {Fy:List Nat} (hs:a.eval s=v) (hO:Oo e L u v xs) (he:Ext u w) (hL:L<=u.heap.size) {ab ao m c:Nat} (hx:a.eval x = .slice (some ⟨ab,ao,none⟩) m c) (hm:ys.length=m) (hy:Row w ab ao ys Fy)
  (hm0:0 < m) (hown:Own u.heap.size w Fy) (hlen:xs.length+m<=4294967296)
  (h:∀ v' w',Oo e L w' v' (xs++ys)->w.grownBy w' v.ownBlock->(v'.ownBlock=v.ownBlock\/v'.ownBlock=some w.heap.size)->wpList P ops Q rest (a.put o.dst v') w'):wpList P ops Q (o::rest) a w :=
 wpList_plain hgd fun _ hK=>zIi s x t ho e ht hel hs hO he hL hx hm hy hm0 hown hlen fun v' w' h1 h2 h3=>hK _ _ (h v' w' h1 h2 h3)
open Go.Proofs
set_option maxHeartbeats 400000
set_option maxRecDepth 100000
theorem zA2{P:Program}{c:Code}{a:Act}{W:World}{Q:Exit->Act->World->Prop}(F:World->Prop)(hF:F W)(h:∀ W1,F W1->Code.wp P c Q a W1):Code.wp P c Q a W:=h W hF
theorem zDl{cs:List Value}{ar:Array Value}(h:(.agg ar:Value) = .agg cs.toArray):ar=cs.toArray:=by cases h;rfl
end Sk
namespace Sk
open Go Go.RowKit
set_option linter.unusedVariables false
set_option linter.unusedSimpArgs false
theorem sum_le{α:Type}(f : α -> Nat)(B:Nat)(xs:List α)(h:∀ x∈xs,f x<=B):(xs.map f).sum<=xs.length*B:=by
 induction xs with
 | nil=>simp
 | cons x xs ih =>
  have h1:=h x (List.mem_cons_self ..);have h2:=ih (fun y hy=>h y (List.mem_cons_of_mem _ hy))
  simp only[List.map_cons,List.sum_cons,List.length_cons,Nat.succ_mul];omega
theorem zBo{α:Type}[GT α](B N:Nat)(xs:List α)(hl:xs.length<=N)(h:∀ x∈xs,GT.tot x<=B):GT.tot xs<=N+N*B:=by
 have h1:=sum_le GT.tot B xs h;have h2:=Nat.mul_le_mul_right B hl
 show xs.length+(xs.map GT.tot).sum<=_
 omega
section
variable {P:Program} {ops:Array Oper} {Q:Exit->Act->World->Prop}
theorem zJp(I:(Nat->Bool)->Act->World->Prop)
  (hstep:∀ (done:Nat->Bool) (a:Act) (w:World) (i:Nat) (o:Oper),I done a w->ops[i]? = some o->done i=false->(∀ e∈o.after,Region.binds .any e=true->done e.on=true) ->
   wpOp P ops Q i (fun a' w'=>I (fun j=>done j || decide (j=i)) a' w') a w)
  (hend:∀ (done:Nat->Bool) (a:Act) (w:World),I done a w->(∀ i,i < ops.size->done i=true)->Q .normal a w)
  (hall:∀ listed:Array Bool,listed.size=ops.size->Region.ready .any ops listed = []->∀ i,i < ops.size->listed.getD i false=true) :
  ∀ (fuel:Nat) (listed:Array Bool) (a:Act) (w:World),listed.size=ops.size->(listed.toList.filter (! ·)).length<=fuel->I (fun j=>listed.getD j false) a w->wpAny P .any ops Q fuel listed a w:=by
 intro fuel
 induction fuel with
 | zero =>
  intro listed a w hsz hf hI;have hr:∀ i,i < ops.size->listed.getD i false=true:=by
   intro i hi;by_cases h:listed.getD i false=true
   ·exact h
   ·exfalso;have hm:(listed.getD i false)∈listed.toList:=by
     rw[Array.getD_eq_getD_getElem?,Array.getElem?_eq_getElem (by omega)];simp
    have:(listed.getD i false)∈listed.toList.filter (! ·):=List.mem_filter.2 ⟨hm,by simpa using h⟩
    have:=List.length_pos_of_mem this
    omega
  refine⟨?_,hend _ a w hI hr⟩;unfold Region.ready;rw[List.filter_eq_nil_iff];intro i hi;have hi2:=List.mem_range.1 hi
  have:=hr i hi2
  rw[Array.getD_eq_getD_getElem?,Array.getElem?_eq_getElem (by omega)] at this
  simp only[Option.getD_some] at this;simp[Array.getD_eq_getD_getElem?,Array.getElem?_eq_getElem (show i < listed.size by omega),this]
 | succ fuel ih =>
  intro listed a w hsz hf hI;refine⟨fun hr=>hend _ a w hI (hall listed hsz hr),fun i hi=>?_⟩
  unfold Region.ready at hi;obtain⟨hi1,hi2⟩:=List.mem_filter.1 hi;have hi1:=List.mem_range.1 hi1;simp only[Bool.and_eq_true,Bool.not_eq_true'] at hi2;obtain⟨hu,hd⟩:=hi2;have hlt:i < listed.size:=by omega
  have hdone:listed.getD i false=false:=by
   rw[Array.getD_eq_getD_getElem?,Array.getElem?_eq_getElem hlt] at *;simpa using hu
  obtain⟨o,ho⟩:∃ o,ops[i]? = some o:=⟨ops[i],Array.getElem?_eq_getElem hi1⟩;rw[ho] at hd;simp only[Option.map_some,Option.getD_some,Array.all_eq_true_iff_forall_mem] at hd;refine wpOp_mono (fun a' w' h=>ih (listed.setIfInBounds i true) a' w' (by simpa using hsz) ?_ ?_) (hstep _ a w i o hI ho hdone fun e he hb=>?_)
  ·have hset:(listed.setIfInBounds i true).toList=listed.toList.set i true:=by simp[Array.toList_setIfInBounds]
   rw[hset];have hi3:listed.toList[i]? = some false:=by
    rw[Array.getElem?_toList,Array.getElem?_eq_getElem hlt];rw[Array.getD_eq_getD_getElem?,Array.getElem?_eq_getElem hlt] at hdone
    simpa using hdone
   have key:∀ (l:List Bool) (i:Nat),l[i]? = some false->((l.set i true).filter (! ·)).length+1=(l.filter (! ·)).length:=by
    intro l
    induction l with
    | nil=>intro i h;simp at h
    | cons b l ihl =>
     intro i h;cases i with
     | zero=>simp at h;subst h;simp
     | succ i =>
      have:=ihl i (by simpa using h)
      cases b<;>simp_all
   have:=key _ _ hi3
   omega
  ·have heq:(fun j=>(listed.setIfInBounds i true).getD j false)=(fun j=>listed.getD j false || decide (j=i)):=by
    funext j
    simp only[Array.getD_eq_getD_getElem?,Array.getElem?_setIfInBounds];by_cases hj:j=i
    ·subst hj;simp[hlt]
    ·rw[if_neg (fun e=>hj e.symm)];simp[hj]
   rw[heq];exact h
  ·have:=hd e he
   simp only[hb,Bool.not_true,Bool.false_or] at this;exact this
theorem zCp{id:Nat}{a:Act}{w:World}(hm:P.follows .mixedOrders=true)(I:(Nat->Bool)->Act->World->Prop)(h0:I (fun _=>false) a w.drew)
  (hall:∀ listed:Array Bool,listed.size=ops.size->Region.ready .any ops listed = []->∀ i,i < ops.size->listed.getD i false=true)
  (hstep:∀ (done:Nat->Bool) (a:Act) (w:World) (i:Nat) (o:Oper),I done a w->ops[i]? = some o->done i=false->(∀ e∈o.after,Region.binds .any e=true->done e.on=true) ->
   wpOp P ops Q i (fun a' w'=>I (fun j=>done j || decide (j=i)) a' w') a w)
  (hend:∀ (done:Nat->Bool) (a:Act) (w:World),I done a w->(∀ i,i < ops.size->done i=true)->Q .normal a w):(Code.region id ops true).wp P Q a w:=by
 refine wp_region_any hm (zJp I hstep hend hall ops.size _ a _ (by simp) ?_ ?_)
 ·refine Nat.le_trans (List.length_filter_le _ _) (by simp)
 ·have:(fun j=>(Array.replicate ops.size false).getD j false)=fun _=>false:=by
   funext j
   rw[Array.getD_eq_getD_getElem?,Array.getElem?_replicate]
   split<;>rfl
  rw[this];exact h0
end
section
variable {P:Program} {ops:Array Oper} {Q:Exit->Act->World->Prop}
theorem Oper.wp_only{o:Oper}{a:Act}{w:World}{K K':Act->World->Prop}{R:Act->World->Prop}(hk:∀ a w,K a w->K' a w)(h:o.wp P a w K (fun e a w=>e = .normal/\R a w)):o.wp P a w K' Q:=by
 unfold Oper.wp at *
 generalize (execOp a.eval o).run P w=r at *
 cases r with
 | ok n w' =>
  cases n<;>simp only[Oper.upon] at h ⊢ <;>
   first
    | exact hk _ _ h
    | exact Calls.mono h (fun e w'' he=>by
      cases e;·exact hk _ _ he
      ·exact absurd he.1 (by simp)
      ·obtain⟨_,_,h1,_⟩:=he;cases h1)
    | exact Rows.mono h (fun _ _ he=>hk _ _ he)
 | halt x w'=>cases x<;>simp only[Oper.upon] at h ⊢ <;> first|exact h|exact absurd h.1 (by simp)
theorem zC9{i:Nat}{o:Oper}(ho:ops[i]? = some o){a:Act}{w:World}{K:Act->World->Prop}(h:wpList P ops (fun e a w=>e = .normal/\K a w) [o] a w):wpOp P ops Q i K a w:=by
 unfold wpOp;rw[ho];simp only[wpList] at h;simp only
 split
 ·rename_i hw
  rw[if_pos hw] at h;rcases h with h | ⟨_,a',w',h1,_⟩
  ·exact .inl (Sk.Oper.wp_only (fun a w h=>h.2) h)
  ·cases h1
 ·rename_i hw
  rw[if_neg hw] at h;exact h.2
def zA9(a:Act)(U:Nat->Value):List Nat->Act
 | []=>a
 | t::ts=>zA9 (a.put (some t) (U t)) U ts
theorem put_self(a:Act)(t:Nat):a.put (some t) (a.tmps.getD t undef)=a:=by
 unfold Act.put;simp only
 congr 1
 apply Array.ext_getElem?;intro k;rw[Array.getElem?_setIfInBounds]
 split
 ·subst k
  split
  ·rename_i h;simp[h]
  ·rename_i h;rw[Array.getElem?_eq_none (by omega)]
 ·rfl
theorem zDq(a:Act)(ds:List Nat):zA9 a (fun t=>a.tmps.getD t undef) ds=a:=by
 induction ds with
 | nil=>rfl
 | cons t ts ih=>rw[zA9,put_self,ih]
theorem put_put(a:Act)(t:Nat)(u v:Value):(a.put (some t) u).put (some t) v=a.put (some t) v:=by
 unfold Act.put;simp
theorem put_comm(a:Act)(t s:Nat)(h:t≠s)(u v:Value):(a.put (some t) u).put (some s) v=(a.put (some s) v).put (some t) u:=by
 unfold Act.put;simp only
 congr 1
 exact Array.setIfInBounds_comm _ _ h
theorem zIz(U:Nat->Value)(d:Nat)(v:Value)(ds:List Nat):∀ a:Act,d ∉ ds->(zA9 a U ds).put (some d) v=zA9 (a.put (some d) v) U ds:=by
 induction ds with
 | nil=>intro a _;rfl
 | cons t ts ih =>
  intro a hd;simp only[List.mem_cons,not_or] at hd;rw[zA9,zA9,ih _ hd.2,put_comm _ _ _ (fun e=>hd.1 e.symm)]
theorem zHd(U U':Nat->Value)(ds:List Nat):∀ a:Act,(∀ t∈ds,U t=U' t)->zA9 a U ds=zA9 a U' ds:=by
 induction ds with
 | nil=>intro a _;rfl
 | cons t ts ih=>intro a h;rw[zA9,zA9,h t (List.mem_cons_self ..),ih _ (fun t ht=>h t (List.mem_cons_of_mem _ ht))]
theorem zD5(U:Nat->Value)(d:Nat)(v:Value)(ds:List Nat):∀ a:Act,ds.Nodup->d∈ds->(zA9 a U ds).put (some d) v=zA9 a (fun t=>if t=d then v else U t) ds:=by
 induction ds with
 | nil=>intro a _ h;cases h
 | cons t ts ih =>
  intro a hn hd;have hn:=List.nodup_cons.1 hn;by_cases ht:t=d
  ·subst ht;rw[zA9,zA9,zIz _ _ _ _ _ hn.1,put_put];simp only[if_true];exact zHd _ _ _ _ (fun s hs=>by rw[if_neg (fun(e:s=t)=>hn.1 (e ▸ hs))])
  ·rcases List.mem_cons.1 hd with e|hd
   ·exact absurd e.symm ht
   ·rw[zA9,zA9,ih _ hn.2 hd];simp only[if_neg ht]
end
end Sk
