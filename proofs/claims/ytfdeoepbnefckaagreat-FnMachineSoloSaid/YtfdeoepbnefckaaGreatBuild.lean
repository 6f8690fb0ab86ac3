/- Contracts of functions of the given program. -/
import Derived.Test.YtfdeoepbnefckaaGreatAcc
namespace Sk
open Go Go.Proofs Go.RowKit
set_option linter.unusedVariables false
set_option linter.unusedSimpArgs false
theorem Ext.gb{a b:World}(h:Ext a b)(row:Option Nat):a.grownBy b row:=⟨h.os,h.tape,h.output,h.size,fun k hk _=>h.block k hk⟩
theorem Ext.ofGb{a b:World}(h:a.grownBy b none):Ext a b:=⟨h.os,h.tape,h.output,h.size,fun k hk=>h.block k hk (by simp)⟩
def zAw(F G:List Nat):Prop:=∀ k,k∈F->k∈G->False
section
variable {P:Program} {ops:Array Oper} {Q:Exit->Act->World->Prop}
def Bd.d(tab:List (Nat × List Nat))(i:Nat):Nat:=(tab.getD i (0,[])).1
def Bd.u(tab:List (Nat × List Nat))(i:Nat):List Nat:=(tab.getD i (0,[])).2
def Bd.on(o:Oper):List Nat:=(o.after.toList.filter fun e=>Region.binds .any e).map (·.on)
theorem Bd.mem_on{o:Oper}{k:Nat}:k∈Bd.on o ↔ ∃ e∈o.after,Region.binds .any e=true/\e.on=k:=by
 unfold Bd.on;simp only[List.mem_map,List.mem_filter,Array.mem_toList_iff];constructor;·rintro⟨e,⟨h1,h2⟩,h3⟩;exact⟨e,h1,h2,h3⟩
 ·rintro⟨e,h1,h2,h3⟩;exact⟨e,⟨h1,h2⟩,h3⟩
def Bd.ins:List Nat->List Nat->List Nat
 | S,[]=>S
 | S,x::xs=>Bd.ins (if S.contains x then S else x::S) xs
def Bd.close(ops:Array Oper):Nat->List Nat->List Nat
 | 0,S=>S
 | k+1,S=>Bd.close ops k (Bd.ins S (S.flatMap fun j=>match ops[j]? with|some o=>Bd.on o|none => []))
def Bd.anc(ops:Array Oper)(i:Nat):List Nat:=(Bd.close ops 12 (match ops[i]? with|some o=>Bd.on o|none => [])).filter (· < ops.size)
theorem Bd.anc_lt{i k:Nat}(h:k∈Bd.anc ops i):k < ops.size:=by
 unfold Bd.anc at h
 simpa using (List.mem_filter.1 h).2
theorem Bd.mem_ins{S T:List Nat}{k:Nat}(h:k∈Bd.ins S T):k∈S\/k∈T:=by
 induction T generalizing S with
 | nil=>exact .inl h
 | cons x xs ih =>
  rcases ih h with h|h
  ·split at h
   ·exact .inl h
   ·rcases List.mem_cons.1 h with h|h
    ·exact .inr (by simp[h])
    ·exact .inl h
  ·exact .inr (List.mem_cons_of_mem _ h)
theorem Bd.close_done{done:Nat->Bool}(hcl:∀ j o,done j=true->ops[j]? = some o->∀ k∈Bd.on o,done k=true):∀ (f:Nat) (S:List Nat),(∀ k∈S,done k=true)->∀ k∈Bd.close ops f S,done k=true:=by
 intro f
 induction f with
 | zero=>intro S h;exact h
 | succ f ih =>
  intro S h;refine ih _ fun k hk=>?_
  rcases Bd.mem_ins hk with hk|hk
  ·exact h k hk
  ·obtain⟨j,hj,hk⟩:=List.mem_flatMap.1 hk
   split at hk
   ·rename_i o ho;exact hcl j o (h j hj) ho k hk
   ·cases hk
theorem Bd.anc_done{done:Nat->Bool}(hcl:∀ j o,done j=true->ops[j]? = some o->∀ k∈Bd.on o,done k=true){i:Nat}(hi:∀ o,ops[i]? = some o->∀ k∈Bd.on o,done k=true):∀ k∈Bd.anc ops i,done k=true:=by
 intro k hk;unfold Bd.anc at hk;refine Bd.close_done hcl _ _ (fun k hk=>?_) k (List.mem_filter.1 hk).1
 split at hk
 ·rename_i o ho;exact hi o ho k hk
 ·cases hk
def Bd.chk(ops:Array Oper)(n:Nat)(tab:List (Nat × List Nat)):Bool :=
 decide (ops.size=n+1) && decide (tab.length=n) && decide (tab.map (·.1)).Nodup &&
 ops.toList.zipIdx.all (fun x=>x.1.after.all fun e=>decide (e.on < x.2) || !Region.binds .any e) &&
 (List.range n).all (fun i=>(Bd.anc ops n).contains i) &&
 (List.range n).all (fun i=>(Bd.u tab i).all fun t=>t == Bd.d tab i || (Bd.anc ops i).any fun j=>decide (j < n) && Bd.d tab j == t)
theorem zFz{id:Nat}{a0:Act}{w0:World}(hm:P.follows .mixedOrders=true)(n:Nat)(d:Nat->Nat)(ds:List Nat)(uses:Nat->List Nat)(φ:Nat->(Nat->Value)->World->List Nat->Prop)(m:Nat)(row:Option Nat)(hrow:∀ k,row=some k->k < w0.heap.size)
  (hn:ops.size=n+1) (hds:ds.Nodup) (hdm:∀ i,i < n->d i∈ds) (hdi:∀ i j,i < n->j < n->d i=d j->i=j)
  (hback:ops.toList.zipIdx.all (fun x=>x.1.after.all fun e=>decide (e.on < x.2) || !Region.binds .any e)=true)
  (hlast:∀ i,i < n->i∈Bd.anc ops n)
  (huse:∀ i,i < n->∀ t∈uses i,t=d i\/∃ j∈Bd.anc ops i,j < n/\d j=t)
  (hφU:∀ i U U' w F,(∀ t∈uses i,U t=U' t) -> φ i U w F -> φ i U' w F)
  (hφw:∀ i U w w' F,i≠m->w.grownBy w' row -> φ i U w F -> φ i U w' F)
  (hφm:∀ U w w' F,Ext w w' -> φ m U w F -> φ m U w' F)
  (hop:∀ i,i < n->∀ o,ops[i]? = some o->∀ U w (F:Nat->List Nat),w0.grownBy w row->(i=m->Ext w0 w)->(∀ j∈Bd.anc ops i,φ j U w (F j)/\Own w0.heap.size w (F j))->(∀ j∈Bd.anc ops i,∀ k∈Bd.anc ops i,j≠k->zAw (F j) (F k)) ->
   wpList P ops (fun e a' w'=>e = .normal/\∃ v F',a'=(zA9 a0 U ds).put (some (d i)) v/\(if i=m then w.grownBy w' row else Ext w w') /\ φ i (fun t=>if t=d i then v else U t) w' F'/\Own w.heap.size w' F') [o] (zA9 a0 U ds) w)
  (hfin:∀ o,ops[n]? = some o->∀ U w (F:Nat->List Nat),w0.grownBy w row->(∀ i,i < n -> φ i U w (F i)/\Own w0.heap.size w (F i))->(∀ i j,i < n->j < n->i≠j->zAw (F i) (F j))->wpList P ops Q [o] (zA9 a0 U ds) w) :
  (Code.region id ops true).wp P Q a0 w0:=by
 have hlt:∀ (i:Nat) (o:Oper),ops[i]? = some o->∀ e∈o.after,Region.binds .any e=true->e.on < i:=by
  intro i o ho e he hbe;have h1:=List.all_eq_true.1 hback (o,i) (by
   rw[List.mem_zipIdx_iff_getElem?]
   simpa using ho)
  have h2:=Array.all_eq_true_iff_forall_mem.1 h1 e he
  simpa [hbe] using h2
 have hmem:∀ (i:Nat) (o:Oper) (p:Edge->Bool),o.after.any p=true->∃ e∈o.after,p e=true:=fun i o p h=>by
  obtain⟨k,hk,h⟩:=Array.any_eq_true.1 h;exact⟨o.after[k],Array.getElem_mem hk,h⟩
 let I:(Nat->Bool)->Act->World->Prop:=fun done a w =>
  if done n=true then (Q .normal a w/\∀ i,i < n->done i=true) else
   (∀ (i:Nat) (o:Oper),i < n->done i=true->ops[i]? = some o->∀ e∈o.after,Region.binds .any e=true->done e.on=true) /\
   ∃ (U:Nat->Value) (F:Nat->List Nat),a=zA9 a0 U ds/\(w0.grownBy w row/\(done m=false->Ext w0 w))/\(∀ i,i < n->done i=true -> φ i U w (F i)/\Own w0.heap.size w (F i))/\∀ i j,i < n->j < n->done i=true->done j=true->i≠j->zAw (F i) (F j)
 refine zCp hm I ?_ ?_ ?_ ?_
 ·show(if false=true then _ else _)
  rw[if_neg (by simp)]
  exact⟨fun i o _ h=>by simp at h,_,fun _ => [],(zDq a0 ds).symm,⟨(zr w0).drew.gb row,fun _=>(zr w0).drew⟩,fun i _ h=>by simp at h,fun i j _ _ h=>by simp at h⟩
 ·intro listed hsz hr i hi
  -- the first that is not done could come up
  have key:∀ m,m<=ops.size->∀ i,i < m->listed.getD i false=true:=by
   intro m
   induction m with
   | zero=>intro _ i hi;omega
   | succ m ih =>
    intro hm i hi;by_cases him:i < m
    ·exact ih (by omega) i him
    ·obtain rfl:i=m:=by omega
     by_cases hd:listed.getD i false=true
     ·exact hd
     ·exfalso;have hmr:i∈Region.ready .any ops listed:=by
       unfold Region.ready;refine List.mem_filter.2 ⟨List.mem_range.2 (by omega),?_⟩
       have ho:ops[i]? = some ops[i]:=Array.getElem?_eq_getElem (by omega)
       rw[ho];simp only[Bool.and_eq_true,Bool.not_eq_true',Option.map_some,Option.getD_some,Array.all_eq_true_iff_forall_mem,Bool.or_eq_true,Bool.not_eq_true'];refine⟨?_,fun e he=>by
        by_cases hbe:Region.binds .any e=true
        ·exact .inr (ih (by omega) e.on (hlt i _ ho e he hbe))
        ·exact .inl (by simpa using hbe)⟩
       have:i < listed.size:=by omega
       rw[Array.getD_eq_getD_getElem?,Array.getElem?_eq_getElem this] at *
       simpa using hd
      rw[hr] at hmr;cases hmr
  exact key ops.size (Nat.le_refl _) i hi
 ·intro done a w i o hI ho hnd hdeps;have hin:i < ops.size:=(Array.getElem?_eq_some_iff.1 ho).1;by_cases hdn:done n=true
  ·-- nothing comes behind the last one
   exfalso;have hne:i≠n:=fun e=>by subst e;rw[hnd] at hdn;cases hdn
   have hI':(if done n=true then _ else _):=hI
   rw[if_pos hdn] at hI'
   have:=hI'.2 i (by omega)
   rw[hnd] at this;cases this
  ·have hI':(if done n=true then _ else _):=hI
   rw[if_neg hdn] at hI';obtain⟨hcl,U,F,rfl,hE,hφ,hap⟩:=hI';have hcl2:∀ j o',done j=true->ops[j]? = some o'->∀ k∈Bd.on o',done k=true:=fun j o' hj ho' k hk=>by
    obtain⟨e,he,hb,rfl⟩:=Bd.mem_on.1 hk;have hjn:j < n:=by
     have h1:=(Array.getElem?_eq_some_iff.1 ho').1;have h2:j≠n:=fun e=>by subst e;exact hdn hj
     omega
    exact hcl j o' hjn hj ho' e he hb
   by_cases hi:i=n
   ·subst hi;have hall:∀ j,j < i->done j=true:=fun j hj=>by
     exact Bd.anc_done hcl2 (fun o' ho' k hk=>by
      rw[ho] at ho';cases ho';obtain⟨e,he,hb,rfl⟩:=Bd.mem_on.1 hk;exact hdeps e he hb) j (hlast j hj)
    have hf:=hfin o ho U w F hE.1 (fun j hj=>hφ j hj (hall j hj)) (fun j k hj hk hne=>hap j k hj hk (hall j hj) (hall k hk) hne)
    unfold wpOp;rw[ho];simp only[wpList] at hf;simp only;have hK:∀ a' w',Q .normal a' w'->I (fun j=>done j || decide (j=i)) a' w':=fun a' w' h=>by
     show(if (done i || decide (i=i))=true then _ else _)
     rw[if_pos (by simp)];exact⟨h,fun j hj=>by simp[hall j hj]⟩
    split
    ·rename_i hw
     rw[if_pos hw] at hf;exact hf.imp (Oper.wp_mono hK) (fun h=>h)
    ·rename_i hw
     rw[if_neg hw] at hf;exact hK _ _ hf
   ·have hi2:i < n:=by omega
    have hanc:∀ j,done j=true->∀ k∈Bd.anc ops j,done k=true:=fun j hj=>Bd.anc_done hcl2 (fun o' ho'=>hcl2 j o' hj ho')
    have hancI:∀ k∈Bd.anc ops i,done k=true/\k < n:=fun k hk=>by
     have h1:done k=true:=Bd.anc_done hcl2 (fun o' ho' k hk=>by
      rw[ho] at ho';cases ho';obtain⟨e,he,hb,rfl⟩:=Bd.mem_on.1 hk;exact hdeps e he hb) k hk
     refine⟨h1,?_⟩;have h2:k≠n:=fun e=>by subst e;exact hdn h1
     have h3:=Bd.anc_lt hk;omega
    have h:=hop i hi2 o ho U w F hE.1 (fun e=>hE.2 (by rw[<- e];exact hnd)) (fun k hk=>hφ k (hancI k hk).2 (hancI k hk).1) (fun j hj k hk hne=>hap j k (hancI j hj).2 (hancI k hk).2 (hancI j hj).1 (hancI k hk).1 hne)
    refine wpOp_mono ?_ (zC9 ho h);rintro a' w' ⟨v,F',rfl,hx,hp,hown⟩;have hxg:w.grownBy w' row:=by
     by_cases him:i=m
     ·rw[if_pos him] at hx;exact hx
     ·rw[if_neg him] at hx;exact hx.gb row
    have hrF:∀ j,j < n->done j=true->∀ k∈F j,row≠some k:=fun j hj hdj k hk e=>by
     have h1:=((hφ j hj hdj).2.2 k hk).1
     have:=hrow k e;omega
    show(if (done n || decide (n=i))=true then _ else _)
    rw[if_neg (by simp[hdn];omega)]
    have hne:∀ j,j < n->done j=true->∀ t∈uses j,t≠d i:=by
     intro j hj hdj t ht e;rcases huse j hj t ht with h1 | ⟨k,hk,hkn,h1⟩
     ·have:=hdi j i hj hi2 (h1.symm.trans e)
      subst this;rw[hnd] at hdj;cases hdj
     ·have h3:=hanc j hdj k hk
      have:=hdi k i hkn hi2 (h1.trans e)
      rw[this,hnd] at h3;cases h3
    refine⟨fun j o' hj hdj ho' e he hb=>?_,(fun t=>if t=d i then v else U t),(fun j=>if j=i then F' else F j),zD5 U (d i) v ds a0 hds (hdm i hi2),?_,fun j hj hdj=>?_,fun j k hj hk hdj hdk hjk=>?_⟩
    ·by_cases hji:j=i
     ·subst hji;rw[ho] at ho';cases ho';simp[hdeps e he hb]
     ·have:done j=true:=by simpa [hji] using hdj
      simp[hcl j o' hj this ho' e he hb]
    ·refine⟨hE.1.trans hxg,fun hdm'=>?_⟩
     have him:i≠m:=fun e=>by subst e;simp at hdm'
     rw[if_neg him] at hx
     have:done m=false:=by
      have hmi:¬ m=i:=fun e=>him e.symm
      simpa [hmi] using hdm'
     exact(hE.2 this).tr hx
    ·by_cases hji:j=i
     ·subst hji;simp only[if_true];exact⟨hp,hown.mono hE.1.size⟩
     ·have hdj2:done j=true:=by simpa [hji] using hdj
      simp only[if_neg hji];obtain⟨h1,h2⟩:=hφ j hj hdj2;refine⟨hφU j U _ w' (F j) (fun t ht=>by rw[if_neg (hne j hj hdj2 t ht)]) ?_,h2.grown hxg (hrF j hj hdj2)⟩
      by_cases hjm:j=m
      ·have him:i≠m:=fun e=>hji (hjm.trans e.symm)
       rw[if_neg him] at hx;rw[hjm] at h1 ⊢;exact hφm U w w' (F m) hx h1
      ·exact hφw j U w w' (F j) hjm hxg h1
    ·intro b hb1 hb2;simp only at hb1 hb2;by_cases hji:j=i
     ·have hki:k≠i:=fun e=>hjk (hji.trans e.symm)
      have hdk2:done k=true:=by simpa [hki] using hdk
      rw[if_pos hji] at hb1;rw[if_neg hki] at hb2;have g1:=(hown.2 b hb1).1;have g2:=(hφ k hk hdk2).2.lt hb2;omega
     ·have hdj2:done j=true:=by simpa [hji] using hdj
      rw[if_neg hji] at hb1;by_cases hki:k=i
      ·rw[if_pos hki] at hb2;have g1:=(hown.2 b hb2).1;have g2:=(hφ j hj hdj2).2.lt hb1;omega
      ·have hdk2:done k=true:=by simpa [hki] using hdk
       rw[if_neg hki] at hb2;exact hap j k hj hk hdj2 hdk2 hjk b hb1 hb2
 ·intro done a w hI hall;have hI':(if done n=true then _ else _):=hI
  rw[if_pos (hall n (by omega))] at hI'
  exact hI'.1
theorem zAm{id:Nat}{a0:Act}{w0:World}(hm:P.follows .mixedOrders=true)(n:Nat)(tab:List (Nat × List Nat))(ψ:Nat->List Value->World->List Nat->Prop)(m:Nat)(row:Option Nat)(hrow:∀ k,row=some k->k < w0.heap.size)
  (hchk:Bd.chk ops n tab=true)
  (hop:∀ i,i < n->i≠m->∀ o,ops[i]? = some o->∀ U w (F:Nat->List Nat),w0.grownBy w row->(∀ j∈Bd.anc ops i,ψ j ((Bd.u tab j).map U) w (F j)/\Own w0.heap.size w (F j))->(∀ j∈Bd.anc ops i,∀ k∈Bd.anc ops i,j≠k->zAw (F j) (F k)) ->
   ∀ K:Exit->Act->World->Prop,(∀ v F' w',Ext w w'->(∀ w2,w'.grownBy w2 row -> ψ i ((Bd.u tab i).map fun t=>if t=Bd.d tab i then v else U t) w2 F')->Own w.heap.size w' F'->K .normal ((zA9 a0 U (tab.map (·.1))).put (some (Bd.d tab i)) v) w') ->
   wpList P ops K [o] (zA9 a0 U (tab.map (·.1))) w)
  (hopm:m < n->∀ o,ops[m]? = some o->∀ U w (F:Nat->List Nat),Ext w0 w->(∀ j∈Bd.anc ops m,ψ j ((Bd.u tab j).map U) w (F j)/\Own w0.heap.size w (F j))->(∀ j∈Bd.anc ops m,∀ k∈Bd.anc ops m,j≠k->zAw (F j) (F k)) ->
   ∀ K:Exit->Act->World->Prop,(∀ v F' w',w.grownBy w' row->(∀ w2,Ext w' w2 -> ψ m ((Bd.u tab m).map fun t=>if t=Bd.d tab m then v else U t) w2 F')->Own w.heap.size w' F'->K .normal ((zA9 a0 U (tab.map (·.1))).put (some (Bd.d tab m)) v) w') ->
   wpList P ops K [o] (zA9 a0 U (tab.map (·.1))) w)
  (hfin:∀ o,ops[n]? = some o->∀ U w (F:Nat->List Nat),w0.grownBy w row->(∀ i,i < n -> ψ i ((Bd.u tab i).map U) w (F i)/\Own w0.heap.size w (F i))->(∀ i j,i < n->j < n->i≠j->zAw (F i) (F j))->wpList P ops Q [o] (zA9 a0 U (tab.map (·.1))) w) :
  (Code.region id ops true).wp P Q a0 w0:=by
 unfold Bd.chk at hchk;simp only[Bool.and_eq_true,decide_eq_true_eq] at hchk;obtain⟨⟨⟨⟨⟨h1,h2⟩,h3⟩,h4⟩,h5⟩,h6⟩:=hchk;have hd:∀ i,i < n->Bd.d tab i∈tab.map (·.1):=fun i hi=>by
  unfold Bd.d;rw[List.getD_eq_getElem?_getD,List.getElem?_eq_getElem (by omega),Option.getD_some]
  exact List.mem_map_of_mem (List.getElem_mem _)
 have hd2:∀ i,i < n->(tab.map (·.1))[i]? = some (Bd.d tab i):=fun i hi=>by
  unfold Bd.d;rw[List.getD_eq_getElem?_getD,List.getElem?_map,List.getElem?_eq_getElem (by omega),Option.map_some,Option.getD_some]
 refine zFz hm n (Bd.d tab) (tab.map (·.1)) (Bd.u tab) (fun i U w F=>if i=m then ∀ w2,Ext w w2 -> ψ i ((Bd.u tab i).map U) w2 F else ∀ w2,w.grownBy w2 row -> ψ i ((Bd.u tab i).map U) w2 F) m row hrow h1 h3 hd ?_ h4 ?_ ?_ ?_ ?_ ?_ ?_ ?_
 ·intro i j hi hj e;have e1:=hd2 i hi;have e2:=hd2 j hj;rw[e] at e1;exact(List.getElem?_inj (by simpa [h2] using hi) h3).1 (e1.trans e2.symm)
 ·intro i hi
  simpa using List.all_eq_true.1 h5 i (List.mem_range.2 hi)
 ·intro i hi t ht
  have:=List.all_eq_true.1 (List.all_eq_true.1 h6 i (List.mem_range.2 hi)) t ht
  simp only[Bool.or_eq_true,beq_iff_eq] at this;rcases this with h|h
  ·exact .inl h
  ·obtain⟨j,hj,h⟩:=List.any_eq_true.1 h;simp only[Bool.and_eq_true,decide_eq_true_eq,beq_iff_eq] at h;exact .inr ⟨j,hj,h.1,h.2⟩
 ·intro i U U' w F h hφ;rw[<- List.map_congr_left h];exact hφ
 ·intro i U w w' F him hw hφ;simp only[if_neg him] at hφ ⊢;exact fun w2 hw2=>hφ w2 (hw.trans hw2)
 ·intro U w w' F hw hφ;simp only[if_true] at hφ ⊢;exact fun w2 hw2=>hφ w2 (hw.tr hw2)
 ·intro i hi o ho U w F hE hE2 hdep hap;have hdep2:∀ j∈Bd.anc ops i,ψ j ((Bd.u tab j).map U) w (F j)/\Own w0.heap.size w (F j):=fun j hj=>by
   have h:=hdep j hj;refine⟨?_,h.2⟩;have h:=h.1
   split at h
   ·exact h w (zr w)
   ·exact h w ((zr w).gb row)
  by_cases him:i=m
  ·subst him;refine hopm hi o ho U w F (hE2 rfl) hdep2 hap _ fun v F' w' h1 h2 h3=>⟨rfl,v,F',rfl,by rw[if_pos rfl];exact h1,by simp only[if_true];exact h2,h3⟩
  ·refine hop i hi him o ho U w F hE hdep2 hap _ fun v F' w' h1 h2 h3=>⟨rfl,v,F',rfl,by rw[if_neg him];exact h1,by simp only[if_neg him];exact h2,h3⟩
 ·intro o ho U w F hE hφ hap;refine hfin o ho U w F hE (fun i hi=>⟨?_,(hφ i hi).2⟩) hap
  have h:=(hφ i hi).1
  split at h
  ·exact h w (zr w)
  ·exact h w ((zr w).gb row)
theorem zAk{id:Nat}{a0:Act}{w0:World}(hm:P.follows .mixedOrders=true)(n:Nat)(tab:List (Nat × List Nat))(ψ:Nat->List Value->World->List Nat->Prop)
  (hchk:Bd.chk ops n tab=true)
  (hop:∀ i,i < n->∀ o,ops[i]? = some o->∀ U w (F:Nat->List Nat),Ext w0 w->(∀ j∈Bd.anc ops i,ψ j ((Bd.u tab j).map U) w (F j)/\Own w0.heap.size w (F j))->(∀ j∈Bd.anc ops i,∀ k∈Bd.anc ops i,j≠k->zAw (F j) (F k)) ->
   ∀ K:Exit->Act->World->Prop,(∀ v F' w',Ext w w'->(∀ w2,Ext w' w2 -> ψ i ((Bd.u tab i).map fun t=>if t=Bd.d tab i then v else U t) w2 F')->Own w.heap.size w' F'->K .normal ((zA9 a0 U (tab.map (·.1))).put (some (Bd.d tab i)) v) w') ->
   wpList P ops K [o] (zA9 a0 U (tab.map (·.1))) w)
  (hfin:∀ o,ops[n]? = some o->∀ U w (F:Nat->List Nat),Ext w0 w->(∀ i,i < n -> ψ i ((Bd.u tab i).map U) w (F i)/\Own w0.heap.size w (F i))->(∀ i j,i < n->j < n->i≠j->zAw (F i) (F j))->wpList P ops Q [o] (zA9 a0 U (tab.map (·.1))) w) :
  (Code.region id ops true).wp P Q a0 w0 :=
 zAm hm n tab ψ n none (fun k hk=>by cases hk) hchk
  (fun i hi _ o ho U w F hE hd hap K hK=>hop i hi o ho U w F (Ext.ofGb hE) hd hap K fun v F' w' h1 h2 h3=>hK v F' w' h1 (fun w2 h=>h2 w2 (Ext.ofGb h)) h3)
  (fun h=>absurd h (Nat.lt_irrefl _))
  (fun o ho U w F hE hφ hap=>hfin o ho U w F (Ext.ofGb hE) hφ hap)
end
theorem zCo(l:List Value)(y:List Deferred)(t:Nat)(v:Value):Act.put ⟨l.toArray,y⟩ (some t) v=⟨(l.set t v).toArray,y⟩:=by
 unfold Act.put;simp
def setL(l:List Value)(U:Nat->Value):List Nat->List Value
 | []=>l
 | t::ts=>setL (l.set t (U t)) U ts
theorem zCc(U:Nat->Value)(ds:List Nat):∀ (l:List Value) (y:List Deferred),zA9 ⟨l.toArray,y⟩ U ds=⟨(setL l U ds).toArray,y⟩:=by
 induction ds with
 | nil=>intro l y;rfl
 | cons t ts ih=>intro l y;rw[zA9,zCo,ih];rfl
theorem fr:(∀ (U:Nat->Value) (ds:List Nat) (l:List Value) (y:List Deferred),zA9 ⟨l.toArray,y⟩ U ds=⟨(setL l U ds).toArray,y⟩) /\
  (∀ (l:List Value) (y:List Deferred) (t:Nat) (v:Value),Act.put ⟨l.toArray,y⟩ (some t) v=⟨(l.set t v).toArray,y⟩) /\
  (∀ {α β:Type} (f : α -> β) (a : α) (l:List α),List.map f (a::l)=f a::List.map f l)/\(∀ {α β:Type} (f : α -> β),List.map f [] = []) /\
  (∀ (l:List Value) (U:Nat->Value),setL l U []=l)/\(∀ (l:List Value) (U:Nat->Value) (t:Nat) (ts:List Nat),setL l U (t::ts)=setL (l.set t (U t)) U ts) /\
  (∀ {α:Type} (a b : α) (l:List α) (n:Nat),(a::l).set (n+1) b=a::l.set n b)/\(∀ {α:Type} (a b : α) (l:List α),(a::l).set 0 b=b::l) /\
  (∀ (tab:List (Nat × List Nat)) (i:Nat),Bd.d tab i=(tab.getD i (0,[])).1) /\
  (∀ {α:Type} (a d : α) (l:List α) (n:Nat),(a::l).getD (n+1) d=l.getD n d)/\(∀ {α:Type} (a d : α) (l:List α),(a::l).getD 0 d=a) :=
 ⟨zCc,zCo,fun _ _ _=>rfl,fun _=>rfl,fun _ _=>rfl,fun _ _ _ _=>rfl,fun _ _ _ _=>rfl,fun _ _ _=>rfl,fun _ _=>rfl,fun _ _ _ _=>rfl,fun _ _ _=>rfl⟩
theorem fu:(∀ (tab:List (Nat × List Nat)) (i:Nat),Bd.u tab i=(tab.getD i (0,[])).2) /\
  (∀ {α:Type} (a d : α) (l:List α) (n:Nat),(a::l).getD (n+1) d=l.getD n d)/\(∀ {α:Type} (a d : α) (l:List α),(a::l).getD 0 d=a) /\
  (∀ {α β:Type} (f : α -> β) (a : α) (l:List α),List.map f (a::l)=f a::List.map f l)/\(∀ {α β:Type} (f : α -> β),List.map f [] = []) :=
 ⟨fun _ _=>rfl,fun _ _ _ _=>rfl,fun _ _ _=>rfl,fun _ _ _=>rfl,fun _=>rfl⟩
def faP(p:Nat->Prop):List Nat->Prop
 | []=>True
 | k::ks=>p k/\faP p ks
theorem fa0{p:Nat->Prop}(ks:List Nat)(h:∀ k∈ks,p k):faP p ks:=by
 induction ks with
 | nil=>trivial
 | cons k ks ih=>exact⟨h k (List.mem_cons_self ..),ih fun j hj=>h j (List.mem_cons_of_mem _ hj)⟩
theorem fa{p:Nat->Prop}{l:List Nat}(ks:List Nat)(hk:ks.all (fun k=>l.contains k)=true)(h:∀ j∈l,p j):faP p ks :=
 fa0 ks fun k hkm=>h k (by have:=List.all_eq_true.1 hk k hkm;simpa using this)
theorem fb{p:Nat->Prop}{n:Nat}(ks:List Nat)(hk:ks.all (fun k=>decide (k < n))=true)(h:∀ j,j < n->p j):faP p ks :=
 fa0 ks fun k hkm=>h k (by have:=List.all_eq_true.1 hk k hkm;simpa using this)
theorem zA0{a b:World}(h:Ext a b){k o:Nat}(hk:k < a.heap.size):b.cell? ⟨k,o,none⟩=a.cell? ⟨k,o,none⟩:=(zDm h).1 k o hk
theorem Bk.alc{w:World}{b:Nat}{cs:List Value}{T:TypeId}(h:Bk w b cs T)(o:Obj):Bk (w.alloc o) b cs T:=h.ext ((zr _).alloc o)
theorem Bk.own{w:World}{b:Nat}{cs:List Value}{T:TypeId}(h:Bk w b cs T){L:Nat}(hL:L<=b):Own L w [b]:=⟨by simp,fun k hk=>by rw[List.mem_singleton] at hk;subst hk;exact⟨hL,_,_,h⟩⟩
theorem zD6{α:Type}[GT α][Fl α]{P:Program}{w:World}{ops:Array Oper}{rest:List Oper}{o:Oper}{a:Act}{Q:Exit->Act->World->Prop}(hgd:o.guard=none)(s x:Operand)(t:TypeId)
  (ho:o.op = .call { callee:=.builtin .append,args:=#[s,x],argTypes:=#[t,t] }) (e:TypeId) (ht:P.underlying t=some (.slice e)) (hel:El P e α)
  {B:Nat} {ys:List α} (hs:a.eval s = .slice (some ⟨B,0,none⟩) 0 0) {vx:Value} (hx:a.eval x=vx) (hy:Rs w vx ys) (hlen:ys.length<=4294967296)
  (h:∀ v' w' F,Sl w' v' ys F->Own w.heap.size w' F->Ext w w'->wpList P ops Q rest (a.put o.dst v') w'):wpList P ops Q (o::rest) a w:=by
 refine wpList_plain hgd fun K hK=>?_
 by_cases hne:ys = []
 ·obtain⟨F,ax,cx,rfl,hl,hc,_⟩:=hy;refine wp_lit0n (α:=α) s x t ho e ht hel hs hx (by rw[hne];rfl) (hK _ _ (h _ w [] ?_ (Own.nil _ _) (zr w)))
  subst hne;exact⟨_,_,rfl,Nat.zero_le _,Nat.zero_le _,.inl ⟨rfl,rfl⟩⟩
 ·refine wp_lit0c s x t ho e ht hel hs hx hy hne hlen fun cap C hO=>hK _ _ ?_
  obtain⟨F,h1,h2⟩:=hO;exact h _ _ F h1 h2 ((zr w).drew.alloc _)
theorem Sl.set{α:Type}[GT α]{w:World}{v:Value}{xs:List α}{F:List Nat}(h:Sl w v xs F){p:Addr}(hp:p.block ∉ F)(u:Value):Sl (w.setCell p u) v xs F :=
 h.keep fun k hk=>zA8 (fun e=>hp (e ▸ hk))
theorem Own.join{L:Nat}{w:World}{F G:List Nat}(h:Own L w F)(k:Own L w G)(ha:zAw F G):Own L w (F++G) :=
 ⟨List.nodup_append.2 ⟨h.1,k.1,fun a hx b hy e=>ha a hx (e ▸ hy)⟩,fun b hb=>(List.mem_append.1 hb).elim (h.2 b) (k.2 b)⟩
theorem zAw.symm{F G:List Nat}(h:zAw F G):zAw G F:=fun k a b=>h k b a
theorem zAw.one{F:List Nat}{B:Nat}(h:zAw F [B]):B ∉ F:=fun hm=>h B hm (by simp)
theorem zAw.app{F G H:List Nat}(h:zAw F H)(k:zAw G H):zAw (F++G) H:=fun x a b=>(List.mem_append.1 a).elim (fun a=>h x a b) (fun a=>k x a b)
theorem Chg.grown{b o n:Nat}{F:List Nat}{a c d:World}{row:Option Nat}(h:Chg b o n F a c)(hg:c.grownBy d row)(hr:∀ k,row=some k->a.heap.size<=k)(hb:b < a.heap.size):Chg b o n F a d:=by
 have key:∀ k,k < a.heap.size->d.heap[k]? = c.heap[k]?:=fun k hk=>hg.block k (zl hk h.sz) (fun e=>by have:=hr k e.symm;omega)
 refine⟨h.1.tr ⟨hg.os,hg.tape,hg.output,Nat.le_refl _,fun b hb=>by cases hb⟩,Nat.le_trans h.sz hg.size,fun k hk h1 h2=>(key k hk).trans (h.2.2.1 k hk h1 h2),fun j hj=>(World.cell?_of_block (key b hb)).trans (h.2.2.2.1 j hj),fun k cs0 T0 hk=>?_⟩
 obtain⟨c1,h3,h4⟩:=h.2.2.2.2 k cs0 T0 hk;exact⟨c1,h3,by unfold Bk at *;rw[key k (Fz.lt ⟨_,_,hk⟩)];exact h4⟩
theorem Chg.bk{b o n:Nat}{F:List Nat}{a c:World}(h:Chg b o n F a c){k:Nat}{cs:List Value}{T:TypeId}(hk:Bk a k cs T)(hb:k≠b)(hF:k ∉ F):Bk c k cs T:=by
 have:=h.keep hk.lt hb hF
 unfold Bk at *;rw[this];exact hk
theorem Chg.sl{α:Type}[GT α]{b o n:Nat}{F:List Nat}{a c:World}(h:Chg b o n F a c){v:Value}{xs:List α}{G:List Nat}(hs:Sl a v xs G)(hb:b ∉ G)(hF:zAw G F):Sl c v xs G :=
 hs.keep fun k hk=>h.keep (hs.inh k hk) (fun e=>hb (e ▸ hk)) (fun hm=>hF k hk hm)
theorem Oo.set{α:Type}[GT α]{e:TypeId}{L:Nat}{w:World}{v:Value}{xs:List α}(h:Oo e L w v xs){p:Addr}(hp:p.block < L)(u:Value):Oo e L (w.setCell p u) v xs:=by
 obtain⟨F,h,o⟩:=h;exact⟨F,h.keep (fun k hk=>zA8 (fun e=>by have:=h.own k hk;omega)) (fun k hk=>zA8 (fun e=>by have:=(o.2 k hk).1;omega)),o.set p u⟩
theorem zAu{w:World}{b o:Nat}{u v:Value}(h:w.cell? ⟨b,o,none⟩=some v):(w.setCell ⟨b,o,none⟩ u).cell? ⟨b,o,none⟩=some u:=World.cell?_setCell_same _ _ _ h
theorem Own.left{L:Nat}{w:World}{F G:List Nat}(h:Own L w (F++G)):Own L w F:=⟨(List.nodup_append.1 h.1).1,fun b hb=>h.2 b (List.mem_append_left _ hb)⟩
theorem Own.parted{L:Nat}{w:World}{F G:List Nat}(h:Own L w (F++G)):zAw F G:=fun k a b=>(List.nodup_append.1 h.1).2.2 k a k b rfl
theorem Own.chg{b o n:Nat}{G:List Nat}{a c:World}{L:Nat}{F:List Nat}(h:Own L a F)(k:Chg b o n G a c):Own L c F:=⟨h.1,fun x hx=>⟨(h.2 x hx).1,k.fzk x (h.2 x hx).2⟩⟩
theorem zAw.far{F G:List Nat}{n:Nat}(h:∀ k∈F,k < n)(k:∀ x∈G,n<=x):zAw F G:=fun x a b=>by have:=h x a;have:=k x b;omega
end Sk
