/- Contracts of functions of the given program. -/
import Derived.Orders
import Derived.Test.YtbekofpkcahbkaaAcc
namespace Sk
open Go Go.RowKit
set_option linter.unusedVariables false
set_option linter.unusedSimpArgs false
theorem sum_le{α:Type}(f : α -> Nat)(B:Nat)(xs:List α)(h:∀ x∈xs,f x<=B):(xs.map f).sum<=xs.length*B:=by
 induction xs with
 | nil=>simp
 | cons x xs ih =>
  have h1:=h x (List.mem_cons_self ..);have h2:=ih (fun y hy=>h y (List.mem_cons_of_mem _ hy))
  simp only[List.map_cons,List.sum_cons,List.length_cons,Nat.succ_mul];omega
theorem zBc{α:Type}[GT α](B N:Nat)(xs:List α)(hl:xs.length<=N)(h:∀ x∈xs,GT.tot x<=B):GT.tot xs<=N+N*B:=by
 have h1:=sum_le GT.tot B xs h;have h2:=Nat.mul_le_mul_right B hl
 show xs.length+(xs.map GT.tot).sum<=_
 omega
theorem zGh(xs:List Int):GT.tot xs=xs.length:=by
 have:(xs.map GT.tot).sum=0:=by
  induction xs with
  | nil=>rfl
  | cons x xs ih=>rw[List.map_cons,List.sum_cons,ih];rfl
 show xs.length+(xs.map GT.tot).sum=_
 omega
section
variable {P:Program} {ops:Array Oper} {Q:Exit->Act->World->Prop}
theorem zJa(I:(Nat->Bool)->Act->World->Prop)
  (hstep:∀ (done:Nat->Bool) (a:Act) (w:World) (i:Nat) (o:Oper),I done a w->ops[i]? = some o->done i=false->(∀ e∈o.after,Region.binds .any e=true->done e.on=true) ->
   wpOp P ops Q i (fun a' w'=>I (fun j=>done j || decide (j=i)) a' w') a w)
  (hend:∀ (done:Nat->Bool) (a:Act) (w:World),I done a w->(∀ i,i < ops.size->done i=true)->Q .normal a w)
  (hall:∀ listed:Array Bool,listed.size=ops.size->Region.ready .any ops listed = []->∀ i,i < ops.size->listed.getD i false=true) :
  ∀ (fuel:Nat) (listed:Array Bool) (a:Act) (w:World),listed.size=ops.size->(listed.toList.filter (! ·)).length<=fuel->I (fun j=>listed.getD j false) a w->wpAny P .any ops Q fuel listed a w:=by
 intro fuel
 induction fuel with
 | zero =>
  intro listed a w hsz hf hI;have hr:∀ i,i < ops.size->listed.getD i false=true:=by
   intro i hi;by_cases h:listed.getD i false=true
   ·exact h
   ·exfalso;have hm:(listed.getD i false)∈listed.toList:=by
     rw[Array.getD_eq_getD_getElem?,Array.getElem?_eq_getElem (by omega)];simp
    have:(listed.getD i false)∈listed.toList.filter (! ·):=List.mem_filter.2 ⟨hm,by simpa using h⟩
    have:=List.length_pos_of_mem this
    omega
  refine⟨?_,hend _ a w hI hr⟩;unfold Region.ready;rw[List.filter_eq_nil_iff];intro i hi;have hi2:=List.mem_range.1 hi
  have:=hr i hi2
  rw[Array.getD_eq_getD_getElem?,Array.getElem?_eq_getElem (by omega)] at this
  simp only[Option.getD_some] at this;simp[Array.getD_eq_getD_getElem?,Array.getElem?_eq_getElem (show i < listed.size by omega),this]
 | succ fuel ih =>
  intro listed a w hsz hf hI;refine⟨fun hr=>hend _ a w hI (hall listed hsz hr),fun i hi=>?_⟩
  unfold Region.ready at hi;obtain⟨hi1,hi2⟩:=List.mem_filter.1 hi;have hi1:=List.mem_range.1 hi1;simp only[Bool.and_eq_true,Bool.not_eq_true'] at hi2;obtain⟨hu,hd⟩:=hi2;have hlt:i < listed.size:=by omega
  have hdone:listed.getD i false=false:=by
   rw[Array.getD_eq_getD_getElem?,Array.getElem?_eq_getElem hlt] at *;simpa using hu
  obtain⟨o,ho⟩:∃ o,ops[i]? = some o:=⟨ops[i],Array.getElem?_eq_getElem hi1⟩;rw[ho] at hd;simp only[Option.map_some,Option.getD_some,Array.all_eq_true_iff_forall_mem] at hd;refine wpOp_mono (fun a' w' h=>ih (listed.setIfInBounds i true) a' w' (by simpa using hsz) ?_ ?_) (hstep _ a w i o hI ho hdone fun e he hb=>?_)
  ·have hset:(listed.setIfInBounds i true).toList=listed.toList.set i true:=by simp[Array.toList_setIfInBounds]
   rw[hset];have hi3:listed.toList[i]? = some false:=by
    rw[Array.getElem?_toList,Array.getElem?_eq_getElem hlt];rw[Array.getD_eq_getD_getElem?,Array.getElem?_eq_getElem hlt] at hdone
    simpa using hdone
   have key:∀ (l:List Bool) (i:Nat),l[i]? = some false->((l.set i true).filter (! ·)).length+1=(l.filter (! ·)).length:=by
    intro l
    induction l with
    | nil=>intro i h;simp at h
    | cons b l ihl =>
     intro i h;cases i with
     | zero=>simp at h;subst h;simp
     | succ i =>
      have:=ihl i (by simpa using h)
      cases b<;>simp_all
   have:=key _ _ hi3
   omega
  ·have heq:(fun j=>(listed.setIfInBounds i true).getD j false)=(fun j=>listed.getD j false || decide (j=i)):=by
    funext j
    simp only[Array.getD_eq_getD_getElem?,Array.getElem?_setIfInBounds];by_cases hj:j=i
    ·subst hj;simp[hlt]
    ·rw[if_neg (fun e=>hj e.symm)];simp[hj]
   rw[heq];exact h
  ·have:=hd e he
   simp only[hb,Bool.not_true,Bool.false_or] at this;exact this
theorem zC0{id:Nat}{a:Act}{w:World}(hm:P.follows .mixedOrders=true)(I:(Nat->Bool)->Act->World->Prop)(h0:I (fun _=>false) a w.drew)
  (hall:∀ listed:Array Bool,listed.size=ops.size->Region.ready .any ops listed = []->∀ i,i < ops.size->listed.getD i false=true)
  (hstep:∀ (done:Nat->Bool) (a:Act) (w:World) (i:Nat) (o:Oper),I done a w->ops[i]? = some o->done i=false->(∀ e∈o.after,Region.binds .any e=true->done e.on=true) ->
   wpOp P ops Q i (fun a' w'=>I (fun j=>done j || decide (j=i)) a' w') a w)
  (hend:∀ (done:Nat->Bool) (a:Act) (w:World),I done a w->(∀ i,i < ops.size->done i=true)->Q .normal a w):(Code.region id ops true).wp P Q a w:=by
 refine wp_region_any hm (zJa I hstep hend hall ops.size _ a _ (by simp) ?_ ?_)
 ·refine Nat.le_trans (List.length_filter_le _ _) (by simp)
 ·have:(fun j=>(Array.replicate ops.size false).getD j false)=fun _=>false:=by
   funext j
   rw[Array.getD_eq_getD_getElem?,Array.getElem?_replicate]
   split<;>rfl
  rw[this];exact h0
end
section
variable {P:Program} {ops:Array Oper} {Q:Exit->Act->World->Prop}
theorem Oper.wp_only{o:Oper}{a:Act}{w:World}{K K':Act->World->Prop}{R:Act->World->Prop}(hk:∀ a w,K a w->K' a w)(h:o.wp P a w K (fun e a w=>e = .normal/\R a w)):o.wp P a w K' Q:=by
 unfold Oper.wp at *
 generalize (execOp a.eval o).run P w=r at *
 cases r with
 | ok n w' =>
  cases n<;>simp only[Oper.upon] at h ⊢ <;>
   first
    | exact hk _ _ h
    | exact Calls.mono h (fun e w'' he=>by
      cases e;·exact hk _ _ he
      ·exact absurd he.1 (by simp)
      ·obtain⟨_,_,h1,_⟩:=he;cases h1)
    | exact Rows.mono h (fun _ _ he=>hk _ _ he)
 | halt x w'=>cases x<;>simp only[Oper.upon] at h ⊢ <;> first|exact h|exact absurd h.1 (by simp)
theorem zBi{i:Nat}{o:Oper}(ho:ops[i]? = some o){a:Act}{w:World}{K:Act->World->Prop}(h:wpList P ops (fun e a w=>e = .normal/\K a w) [o] a w):wpOp P ops Q i K a w:=by
 unfold wpOp;rw[ho];simp only[wpList] at h;simp only
 split
 ·rename_i hw
  rw[if_pos hw] at h;rcases h with h | ⟨_,a',w',h1,_⟩
  ·exact .inl (Sk.Oper.wp_only (fun a w h=>h.2) h)
  ·cases h1
 ·rename_i hw
  rw[if_neg hw] at h;exact h.2
def zA9(a:Act)(U:Nat->Value):List Nat->Act
 | []=>a
 | t::ts=>zA9 (a.put (some t) (U t)) U ts
theorem put_self(a:Act)(t:Nat):a.put (some t) (a.tmps.getD t undef)=a:=by
 unfold Act.put;simp only
 congr 1
 apply Array.ext_getElem?;intro k;rw[Array.getElem?_setIfInBounds]
 split
 ·subst k
  split
  ·rename_i h;simp[h]
  ·rename_i h;rw[Array.getElem?_eq_none (by omega)]
 ·rfl
theorem zCz(a:Act)(ds:List Nat):zA9 a (fun t=>a.tmps.getD t undef) ds=a:=by
 induction ds with
 | nil=>rfl
 | cons t ts ih=>rw[zA9,put_self,ih]
theorem put_put(a:Act)(t:Nat)(u v:Value):(a.put (some t) u).put (some t) v=a.put (some t) v:=by
 unfold Act.put;simp
theorem put_comm(a:Act)(t s:Nat)(h:t≠s)(u v:Value):(a.put (some t) u).put (some s) v=(a.put (some s) v).put (some t) u:=by
 unfold Act.put;simp only
 congr 1
 exact Array.setIfInBounds_comm _ _ h
theorem zIn(U:Nat->Value)(d:Nat)(v:Value)(ds:List Nat):∀ a:Act,d ∉ ds->(zA9 a U ds).put (some d) v=zA9 (a.put (some d) v) U ds:=by
 induction ds with
 | nil=>intro a _;rfl
 | cons t ts ih =>
  intro a hd;simp only[List.mem_cons,not_or] at hd;rw[zA9,zA9,ih _ hd.2,put_comm _ _ _ (fun e=>hd.1 e.symm)]
theorem zH3(U U':Nat->Value)(ds:List Nat):∀ a:Act,(∀ t∈ds,U t=U' t)->zA9 a U ds=zA9 a U' ds:=by
 induction ds with
 | nil=>intro a _;rfl
 | cons t ts ih=>intro a h;rw[zA9,zA9,h t (List.mem_cons_self ..),ih _ (fun t ht=>h t (List.mem_cons_of_mem _ ht))]
theorem zC3(U:Nat->Value)(d:Nat)(v:Value)(ds:List Nat):∀ a:Act,ds.Nodup->d∈ds->(zA9 a U ds).put (some d) v=zA9 a (fun t=>if t=d then v else U t) ds:=by
 induction ds with
 | nil=>intro a _ h;cases h
 | cons t ts ih =>
  intro a hn hd;have hn:=List.nodup_cons.1 hn;by_cases ht:t=d
  ·subst ht;rw[zA9,zA9,zIn _ _ _ _ _ hn.1,put_put];simp only[if_true];exact zH3 _ _ _ _ (fun s hs=>by rw[if_neg (fun(e:s=t)=>hn.1 (e ▸ hs))])
  ·rcases List.mem_cons.1 hd with e|hd
   ·exact absurd e.symm ht
   ·rw[zA9,zA9,ih _ hn.2 hd];simp only[if_neg ht]
end
end Sk
