/- Contracts of functions of the given program. -/
import Derived.Test.YtbekofpkcahbkaaThr
namespace Sk
open Go Go.Proofs Go.RowKit
set_option linter.unusedVariables false
set_option linter.unusedSimpArgs false
section
variable {P:Program} {ops:Array Oper} {Q:Exit->Act->World->Prop}
theorem zFr{id:Nat}{a0:Act}{w0:World}(hm:P.follows .mixedOrders=true)(n:Nat)(d:Nat->Nat)(ds:List Nat)(uses:Nat->List Nat)(φ:Nat->(Nat->Value)->World->List Nat->Prop)(m q:Nat)(hqm:q≠m)(hqn:q < n)(hmn:m < n)
  (hn:ops.size=n+1) (hds:ds.Nodup) (hdm:∀ i,i < n->d i∈ds) (hdi:∀ i j,i < n->j < n->d i=d j->i=j)
  (hback:ops.toList.zipIdx.all (fun x=>x.1.after.all fun e=>decide (e.on < x.2) || !Region.binds .any e)=true)
  (hlast:∀ i,i < n->i∈Bd.anc ops n)
  (huse:∀ i,i < n->∀ t∈uses i,t=d i\/∃ j∈Bd.anc ops i,j < n/\d j=t)
  (hφU:∀ i U U' w F,(∀ t∈uses i,U t=U' t) -> φ i U w F -> φ i U' w F)
  (hφw:∀ i U w w' F,Ext w w' -> φ i U w F -> φ i U w' F)
  (hφr:∀ i U w w' F G,i≠q->(∀ k∈G,k ∉ F/\w0.heap.size<=k)->Mw G w w' -> φ i U w F -> φ i U w' F)
  (hmq:q∈Bd.anc ops m)
  (hop:∀ i,i < n->i≠m->∀ o,ops[i]? = some o->∀ U w (F:Nat->List Nat),Ext w0 w->(∀ j∈Bd.anc ops i,j≠q -> φ j U w (F j)/\Own w0.heap.size w (F j))->(∀ j∈Bd.anc ops i,∀ k∈Bd.anc ops i,j≠k->j≠q->k≠q->zAt (F j) (F k)) ->
   wpList P ops (fun e a' w'=>e = .normal/\∃ v F',a'=(zA9 a0 U ds).put (some (d i)) v/\Ext w w' /\ φ i (fun t=>if t=d i then v else U t) w' F'/\Own w.heap.size w' F') [o] (zA9 a0 U ds) w)
  (hopm:∀ o,ops[m]? = some o->∀ U w (F:Nat->List Nat),Ext w0 w->(∀ j∈Bd.anc ops m,φ j U w (F j)/\Own w0.heap.size w (F j))->(∀ j∈Bd.anc ops m,∀ k∈Bd.anc ops m,j≠k->zAt (F j) (F k)) ->
   wpList P ops (fun e a' w'=>e = .normal/\∃ v F' G,a'=(zA9 a0 U ds).put (some (d m)) v/\(∀ k∈G,k∈F q)/\Mw G w w' /\ φ m (fun t=>if t=d m then v else U t) w' F'/\Own w0.heap.size w' F'/\∀ k∈F',k∈F q\/w.heap.size<=k) [o] (zA9 a0 U ds) w)
  (hfin:∀ o,ops[n]? = some o->∀ U w (F:Nat->List Nat),Ext w0 w->(∀ i,i < n->i≠q -> φ i U w (F i)/\Own w0.heap.size w (F i))->(∀ i j,i < n->j < n->i≠j->i≠q->j≠q->zAt (F i) (F j))->wpList P ops Q [o] (zA9 a0 U ds) w) :
  (Code.region id ops true).wp P Q a0 w0:=by
 have hlt:∀ (i:Nat) (o:Oper),ops[i]? = some o->∀ e∈o.after,Region.binds .any e=true->e.on < i:=by
  intro i o ho e he hbe;have h1:=List.all_eq_true.1 hback (o,i) (by
   rw[List.mem_zipIdx_iff_getElem?]
   simpa using ho)
  have h2:=Array.all_eq_true_iff_forall_mem.1 h1 e he
  simpa [hbe] using h2
 have hmem:∀ (i:Nat) (o:Oper) (p:Edge->Bool),o.after.any p=true->∃ e∈o.after,p e=true:=fun i o p h=>by
  obtain⟨k,hk,h⟩:=Array.any_eq_true.1 h;exact⟨o.after[k],Array.getElem_mem hk,h⟩
 let I:(Nat->Bool)->Act->World->Prop:=fun done a w =>
  if done n=true then (Q .normal a w/\∀ i,i < n->done i=true) else
   (∀ (i:Nat) (o:Oper),i < n->done i=true->ops[i]? = some o->∀ e∈o.after,Region.binds .any e=true->done e.on=true) /\
   ∃ (U:Nat->Value) (F:Nat->List Nat),a=zA9 a0 U ds/\Ext w0 w/\(∀ i,i < n->done i=true->(i=q->done m=false) -> φ i U w (F i)/\Own w0.heap.size w (F i))/\∀ i j,i < n->j < n->done i=true->done j=true->i≠j->(i=q->done m=false)->(j=q->done m=false)->zAt (F i) (F j)
 refine zC0 hm I ?_ ?_ ?_ ?_
 ·show(if false=true then _ else _)
  rw[if_neg (by simp)]
  exact⟨fun i o _ h=>by simp at h,_,fun _ => [],(zCz a0 ds).symm,(zr w0).drew,fun i _ h=>by simp at h,fun i j _ _ h=>by simp at h⟩
 ·intro listed hsz hr i hi
  -- the first that is not done could come up
  have key:∀ m,m<=ops.size->∀ i,i < m->listed.getD i false=true:=by
   intro m
   induction m with
   | zero=>intro _ i hi;omega
   | succ m ih =>
    intro hm i hi;by_cases him:i < m
    ·exact ih (by omega) i him
    ·obtain rfl:i=m:=by omega
     by_cases hd:listed.getD i false=true
     ·exact hd
     ·exfalso;have hmr:i∈Region.ready .any ops listed:=by
       unfold Region.ready;refine List.mem_filter.2 ⟨List.mem_range.2 (by omega),?_⟩
       have ho:ops[i]? = some ops[i]:=Array.getElem?_eq_getElem (by omega)
       rw[ho];simp only[Bool.and_eq_true,Bool.not_eq_true',Option.map_some,Option.getD_some,Array.all_eq_true_iff_forall_mem,Bool.or_eq_true,Bool.not_eq_true'];refine⟨?_,fun e he=>by
        by_cases hbe:Region.binds .any e=true
        ·exact .inr (ih (by omega) e.on (hlt i _ ho e he hbe))
        ·exact .inl (by simpa using hbe)⟩
       have:i < listed.size:=by omega
       rw[Array.getD_eq_getD_getElem?,Array.getElem?_eq_getElem this] at *
       simpa using hd
      rw[hr] at hmr;cases hmr
  exact key ops.size (Nat.le_refl _) i hi
 ·intro done a w i o hI ho hnd hdeps;have hin:i < ops.size:=(Array.getElem?_eq_some_iff.1 ho).1;by_cases hdn:done n=true
  ·-- nothing comes behind the last one
   exfalso;have hne:i≠n:=fun e=>by subst e;rw[hnd] at hdn;cases hdn
   have hI':(if done n=true then _ else _):=hI
   rw[if_pos hdn] at hI'
   have:=hI'.2 i (by omega)
   rw[hnd] at this;cases this
  ·have hI':(if done n=true then _ else _):=hI
   rw[if_neg hdn] at hI';obtain⟨hcl,U,F,rfl,hE,hφ,hap⟩:=hI';have hcl2:∀ j o',done j=true->ops[j]? = some o'->∀ k∈Bd.on o',done k=true:=fun j o' hj ho' k hk=>by
    obtain⟨e,he,hb,rfl⟩:=Bd.mem_on.1 hk;have hjn:j < n:=by
     have h1:=(Array.getElem?_eq_some_iff.1 ho').1;have h2:j≠n:=fun e=>by subst e;exact hdn hj
     omega
    exact hcl j o' hjn hj ho' e he hb
   by_cases hi:i=n
   ·subst hi;have hall:∀ j,j < i->done j=true:=fun j hj=>by
     exact Bd.anc_done hcl2 (fun o' ho' k hk=>by
      rw[ho] at ho';cases ho';obtain⟨e,he,hb,rfl⟩:=Bd.mem_on.1 hk;exact hdeps e he hb) j (hlast j hj)
    have hf:=hfin o ho U w F hE (fun j hj hq=>hφ j hj (hall j hj) (fun e=>absurd e hq)) (fun j k hj hk hne h1 h2=>hap j k hj hk (hall j hj) (hall k hk) hne (fun e=>absurd e h1) (fun e=>absurd e h2))
    unfold wpOp;rw[ho];simp only[wpList] at hf;simp only;have hK:∀ a' w',Q .normal a' w'->I (fun j=>done j || decide (j=i)) a' w':=fun a' w' h=>by
     show(if (done i || decide (i=i))=true then _ else _)
     rw[if_pos (by simp)];exact⟨h,fun j hj=>by simp[hall j hj]⟩
    split
    ·rename_i hw
     rw[if_pos hw] at hf;exact hf.imp (Oper.wp_mono hK) (fun h=>h)
    ·rename_i hw
     rw[if_neg hw] at hf;exact hK _ _ hf
   ·have hi2:i < n:=by omega
    have hanc:∀ j,done j=true->∀ k∈Bd.anc ops j,done k=true:=fun j hj=>Bd.anc_done hcl2 (fun o' ho'=>hcl2 j o' hj ho')
    have hancI:∀ k∈Bd.anc ops i,done k=true/\k < n:=fun k hk=>by
     have h1:done k=true:=Bd.anc_done hcl2 (fun o' ho' k hk=>by
      rw[ho] at ho';cases ho';obtain⟨e,he,hb,rfl⟩:=Bd.mem_on.1 hk;exact hdeps e he hb) k hk
     refine⟨h1,?_⟩;have h2:k≠n:=fun e=>by subst e;exact hdn h1
     have h3:=Bd.anc_lt hk;omega
    have hne:∀ j,j < n->done j=true->∀ t∈uses j,t≠d i:=by
     intro j hj hdj t ht e;rcases huse j hj t ht with h1 | ⟨k,hk,hkn,h1⟩
     ·have:=hdi j i hj hi2 (h1.symm.trans e)
      subst this;rw[hnd] at hdj;cases hdj
     ·have h3:=hanc j hdj k hk
      have:=hdi k i hkn hi2 (h1.trans e)
      rw[this,hnd] at h3;cases h3
    have hcl3:∀ (j:Nat) (o':Oper),j < n->(done j || decide (j=i))=true->ops[j]? = some o'->∀ e∈o'.after,Region.binds .any e=true->(done e.on || decide (e.on=i))=true:=fun j o' hj hdj ho' e he hb=>by
     by_cases hji:j=i
     ·subst hji;rw[ho] at ho';cases ho';simp[hdeps e he hb]
     ·have:done j=true:=by simpa [hji] using hdj
      simp[hcl j o' hj this ho' e he hb]
    by_cases him:i=m
    ·subst him;have h:=hopm o ho U w F hE (fun k hk=>hφ k (hancI k hk).2 (hancI k hk).1 (fun _=>hnd)) (fun j hj k hk hne=>hap j k (hancI j hj).2 (hancI k hk).2 (hancI j hj).1 (hancI k hk).1 hne (fun _=>hnd) (fun _=>hnd))
     have hqd:done q=true:=(hancI q hmq).1;have hqF:=hφ q hqn hqd (fun _=>hnd)
     refine wpOp_mono ?_ (zBi ho h);rintro a' w' ⟨v,F',G,rfl,hrow,hg,hp,hown,hsub⟩;have hr0:∀ k∈G,w0.heap.size<=k:=fun k hk=>(hqF.2.2 k (hrow k hk)).1
     show(if (done n || decide (n=i))=true then _ else _)
     rw[if_neg (by simp[hdn];omega)]
     have hrj:∀ j,j < n->done j=true->j≠q->∀ k∈G,k ∉ F j/\w0.heap.size<=k:=fun j hj hdj hjq k hk =>
      ⟨fun hm2=>hap j q hj hqn hdj hqd hjq (fun e=>absurd e hjq) (fun _=>hnd) k hm2 (hrow k hk),hr0 k hk⟩
     refine⟨hcl3,(fun t=>if t=d i then v else U t),(fun j=>if j=i then F' else F j),zC3 U (d i) v ds a0 hds (hdm i hi2),hg.ext hE hr0,fun j hj hdj hjq=>?_,fun j k hj hk hdj hdk hjk hjq hkq=>?_⟩
     ·by_cases hji:j=i
      ·subst hji;simp only[if_true];exact⟨hp,hown⟩
      ·have hdj2:done j=true:=by simpa [hji] using hdj
       have hjq2:j≠q:=fun e=>by have:=hjq e;simp at this
       simp only[if_neg hji];obtain⟨h1,h2⟩:=hφ j hj hdj2 (fun e=>absurd e hjq2)
       exact⟨hφU j U _ w' (F j) (fun t ht=>by rw[if_neg (hne j hj hdj2 t ht)]) (hφr j U w w' (F j) G hjq2 (hrj j hj hdj2 hjq2) hg h1),hg.own h2 (fun k hk e=>(hrj j hj hdj2 hjq2 k e).1 hk)⟩
     ·have hjq2:j≠q:=fun e=>by have:=hjq e;simp at this
      have hkq2:k≠q:=fun e=>by have:=hkq e;simp at this
      intro b hb1 hb2;simp only at hb1 hb2;have key:∀ x,x < n->done x=true->x≠q->b∈F'->b∈F x->False:=fun x hx hdx hxq h1 h2=>by
       rcases hsub b h1 with h3|h3
       ·exact hap x q hx hqn hdx hqd hxq (fun e=>absurd e hxq) (fun _=>hnd) b h2 h3
       ·have:=(hφ x hx hdx (fun e=>absurd e hxq)).2.lt h2;omega
      by_cases hji:j=i
      ·have hki:k≠i:=fun e=>hjk (hji.trans e.symm)
       have hdk2:done k=true:=by simpa [hki] using hdk
       rw[if_pos hji] at hb1;rw[if_neg hki] at hb2;exact key k hk hdk2 hkq2 hb1 hb2
      ·have hdj2:done j=true:=by simpa [hji] using hdj
       rw[if_neg hji] at hb1;by_cases hki:k=i
       ·rw[if_pos hki] at hb2;exact key j hj hdj2 hjq2 hb2 hb1
       ·have hdk2:done k=true:=by simpa [hki] using hdk
        rw[if_neg hki] at hb2;exact hap j k hj hk hdj2 hdk2 hjk (fun e=>absurd e hjq2) (fun e=>absurd e hkq2) b hb1 hb2
    ·have h:=hop i hi2 him o ho U w F hE (fun k hk hkq=>hφ k (hancI k hk).2 (hancI k hk).1 (fun e=>absurd e hkq)) (fun j hj k hk hne h1 h2=>hap j k (hancI j hj).2 (hancI k hk).2 (hancI j hj).1 (hancI k hk).1 hne (fun e=>absurd e h1) (fun e=>absurd e h2))
     have hmi:¬ m=i:=fun e=>him e.symm
     refine wpOp_mono ?_ (zBi ho h);rintro a' w' ⟨v,F',rfl,hx,hp,hown⟩
     show(if (done n || decide (n=i))=true then _ else _)
     rw[if_neg (by simp[hdn];omega)]
     refine⟨hcl3,(fun t=>if t=d i then v else U t),(fun j=>if j=i then F' else F j),zC3 U (d i) v ds a0 hds (hdm i hi2),hE.tr hx,fun j hj hdj hjq=>?_,fun j k hj hk hdj hdk hjk hjq hkq=>?_⟩
     ·by_cases hji:j=i
      ·subst hji;simp only[if_true];exact⟨hp,hown.mono hE.sz⟩
      ·have hdj2:done j=true:=by simpa [hji] using hdj
       simp only[if_neg hji];obtain⟨h1,h2⟩:=hφ j hj hdj2 (fun e=>by have:=hjq e;simpa [hmi] using this)
       exact⟨hφU j U _ w' (F j) (fun t ht=>by rw[if_neg (hne j hj hdj2 t ht)]) (hφw j U w w' (F j) hx h1),h2.ext hx⟩
     ·have hjq2:j=q->done m=false:=fun e=>by have:=hjq e;simpa [hmi] using this
      have hkq2:k=q->done m=false:=fun e=>by have:=hkq e;simpa [hmi] using this
      intro b hb1 hb2;simp only at hb1 hb2;by_cases hji:j=i
      ·have hki:k≠i:=fun e=>hjk (hji.trans e.symm)
       have hdk2:done k=true:=by simpa [hki] using hdk
       rw[if_pos hji] at hb1;rw[if_neg hki] at hb2;have g1:=(hown.2 b hb1).1;have g2:=(hφ k hk hdk2 hkq2).2.lt hb2;omega
      ·have hdj2:done j=true:=by simpa [hji] using hdj
       rw[if_neg hji] at hb1;by_cases hki:k=i
       ·rw[if_pos hki] at hb2;have g1:=(hown.2 b hb2).1;have g2:=(hφ j hj hdj2 hjq2).2.lt hb1;omega
       ·have hdk2:done k=true:=by simpa [hki] using hdk
        rw[if_neg hki] at hb2;exact hap j k hj hk hdj2 hdk2 hjk hjq2 hkq2 b hb1 hb2
 ·intro done a w hI hall;have hI':(if done n=true then _ else _):=hI
  rw[if_pos (hall n (by omega))] at hI'
  exact hI'.1
def Tn(L:Nat)(p:Prop)(F:List Nat)(w w':World):Prop:=∃ G,(∀ k∈G,k ∉ F/\L<=k/\p)/\Mw G w w'
theorem Tn.ofExt{L:Nat}{p:Prop}{F:List Nat}{w w':World}(h:Ext w w'):Tn L p F w w':=⟨[],(fun k h=>by cases h),Mw.ofExt h⟩
theorem Tn.bk{L:Nat}{p:Prop}{F:List Nat}{w w':World}(h:Tn L p F w w'){b:Nat}{cs:List Value}{T:TypeId}(k:Bk w b cs T)(hb:b∈F\/b < L):Bk w' b cs T:=by
 obtain⟨G,h1,h2⟩:=h;exact h2.bk k fun hm=>by have:=h1 b hm;rcases hb with hb|hb;exact this.1 hb;omega
theorem zE8{id:Nat}{a0:Act}{w0:World}(hm:P.follows .mixedOrders=true)(n:Nat)(tab:List (Nat × List Nat))(ψ:Nat->List Value->World->List Nat->Prop)(m q:Nat)
  (hchk:(Bd.chk ops n tab && (decide (q≠m) && (decide (q < n) && (decide (m < n) && (Bd.anc ops m).contains q))))=true)
  (hop:∀ i,i < n->i≠m->∀ o,ops[i]? = some o->∀ U w (F:Nat->List Nat),Ext w0 w->(∀ j∈Bd.anc ops i,j≠q -> ψ j ((Bd.u tab j).map U) w (F j)/\Own w0.heap.size w (F j))->(∀ j∈Bd.anc ops i,∀ k∈Bd.anc ops i,j≠k->j≠q->k≠q->zAt (F j) (F k)) ->
   ∀ K:Exit->Act->World->Prop,(∀ v F' w',Ext w w'->(∀ w2,Tn w0.heap.size (i≠q) F' w' w2 -> ψ i ((Bd.u tab i).map fun t=>if t=Bd.d tab i then v else U t) w2 F')->Own w.heap.size w' F'->K .normal ((zA9 a0 U (tab.map (·.1))).put (some (Bd.d tab i)) v) w') ->
   wpList P ops K [o] (zA9 a0 U (tab.map (·.1))) w)
  (hopm:∀ o,ops[m]? = some o->∀ U w (F:Nat->List Nat),Ext w0 w->(∀ j∈Bd.anc ops m,ψ j ((Bd.u tab j).map U) w (F j)/\Own w0.heap.size w (F j))->(∀ j∈Bd.anc ops m,∀ k∈Bd.anc ops m,j≠k->zAt (F j) (F k)) ->
   ∀ K:Exit->Act->World->Prop,(∀ v F' w' G,(∀ k∈G,k∈F q)->Mw G w w'->(∀ w2,Tn w0.heap.size (m≠q) F' w' w2 -> ψ m ((Bd.u tab m).map fun t=>if t=Bd.d tab m then v else U t) w2 F')->Own w0.heap.size w' F'->(∀ k∈F',k∈F q\/w.heap.size<=k)->K .normal ((zA9 a0 U (tab.map (·.1))).put (some (Bd.d tab m)) v) w') ->
   wpList P ops K [o] (zA9 a0 U (tab.map (·.1))) w)
  (hfin:∀ o,ops[n]? = some o->∀ U w (F:Nat->List Nat),Ext w0 w->(∀ i,i < n->i≠q -> ψ i ((Bd.u tab i).map U) w (F i)/\Own w0.heap.size w (F i))->(∀ i j,i < n->j < n->i≠j->i≠q->j≠q->zAt (F i) (F j))->wpList P ops Q [o] (zA9 a0 U (tab.map (·.1))) w) :
  (Code.region id ops true).wp P Q a0 w0:=by
 simp only[Bool.and_eq_true,decide_eq_true_eq] at hchk;obtain⟨hchk,hqm,hqn,hmn,hmq⟩:=hchk;replace hmq:q∈Bd.anc ops m:=by simpa using hmq
 unfold Bd.chk at hchk;simp only[Bool.and_eq_true,decide_eq_true_eq] at hchk;obtain⟨⟨⟨⟨⟨h1,h2⟩,h3⟩,h4⟩,h5⟩,h6⟩:=hchk;have hd:∀ i,i < n->Bd.d tab i∈tab.map (·.1):=fun i hi=>by
  unfold Bd.d;rw[List.getD_eq_getElem?_getD,List.getElem?_eq_getElem (by omega),Option.getD_some]
  exact List.mem_map_of_mem (List.getElem_mem _)
 have hd2:∀ i,i < n->(tab.map (·.1))[i]? = some (Bd.d tab i):=fun i hi=>by
  unfold Bd.d;rw[List.getD_eq_getElem?_getD,List.getElem?_map,List.getElem?_eq_getElem (by omega),Option.map_some,Option.getD_some]
 have hcomp:∀ {L:Nat} {p:Prop} {F G:List Nat} {a b c:World},(∀ k∈G,k ∉ F/\L<=k/\p)->Mw G a b->Tn L p F b c->Tn L p F a c:=fun {L p F G a b c} hG h k=>by
  obtain⟨G2,g1,g2⟩:=k;exact⟨G++G2,fun k hk=>(List.mem_append.1 hk).elim (hG k) (g1 k),(h.wide fun x hx=>List.mem_append_left _ hx).tr (g2.wide fun x hx=>List.mem_append_right _ hx)⟩
 refine zFr hm n (Bd.d tab) (tab.map (·.1)) (Bd.u tab) (fun i U w F => ∀ w2,Tn w0.heap.size (i≠q) F w w2 -> ψ i ((Bd.u tab i).map U) w2 F) m q hqm hqn hmn h1 h3 hd ?_ h4 ?_ ?_ ?_ ?_ ?_ hmq ?_ ?_ ?_
 ·intro i j hi hj e;have e1:=hd2 i hi;have e2:=hd2 j hj;rw[e] at e1;exact(List.getElem?_inj (by simpa [h2] using hi) h3).1 (e1.trans e2.symm)
 ·intro i hi
  simpa using List.all_eq_true.1 h5 i (List.mem_range.2 hi)
 ·intro i hi t ht
  have:=List.all_eq_true.1 (List.all_eq_true.1 h6 i (List.mem_range.2 hi)) t ht
  simp only[Bool.or_eq_true,beq_iff_eq] at this;rcases this with h|h
  ·exact .inl h
  ·obtain⟨j,hj,h⟩:=List.any_eq_true.1 h;simp only[Bool.and_eq_true,decide_eq_true_eq,beq_iff_eq] at h;exact .inr ⟨j,hj,h.1,h.2⟩
 ·intro i U U' w F h hφ;rw[<- List.map_congr_left h];exact hφ
 ·exact fun i U w w' F hw hφ w2 hw2=>hφ w2 (hcomp (G:=[]) (fun k h=>by cases h) (Mw.ofExt hw) hw2)
 ·exact fun i U w w' F G hi hG hw hφ w2 hw2=>hφ w2 (hcomp (fun k h=>⟨(hG k h).1,(hG k h).2,hi⟩) hw hw2)
 ·intro i hi him o ho U w F hE hdep hap;exact hop i hi him o ho U w F hE (fun j hj hq=>⟨(hdep j hj hq).1 w (Tn.ofExt (zr w)),(hdep j hj hq).2⟩) hap _ fun v F' w' g1 g2 g3=>⟨rfl,v,F',rfl,g1,g2,g3⟩
 ·intro o ho U w F hE hdep hap;exact hopm o ho U w F hE (fun j hj=>⟨(hdep j hj).1 w (Tn.ofExt (zr w)),(hdep j hj).2⟩) hap _ fun v F' w' G g1 g2 g3 g4 g5=>⟨rfl,v,F',G,rfl,g1,g2,g3,g4,g5⟩
 ·intro o ho U w F hE hφ hap;exact hfin o ho U w F hE (fun i hi hq=>⟨(hφ i hi hq).1 w (Tn.ofExt (zr w)),(hφ i hi hq).2⟩) hap
end
end Sk
