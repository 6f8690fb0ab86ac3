/- Contracts of functions of the given program. -/
import Derived.Test.YtfdeoepbnefckaaGreatHw
namespace Sk
open Go Go.Proofs Go.RowKit
set_option linter.unusedVariables false
set_option linter.unusedSimpArgs false
section
variable {P:Program} {ops:Array Oper} {Q:Exit->Act->World->Prop}
theorem zEo{o:Oper}{T:TypeId}{p x:Operand}(ho:o.op = .store T p x)(ev:Operand->Value):execOp ev o=(do Instr.storeAt T (ev p) (ev x);pure .skip):=by
 unfold execOp;rw[ho]
theorem zHj{o:Oper}{T:TypeId}{p x:Operand}{R:Act->World->Prop}{a:Act}{w:World}(ho:o.op = .store T p x)(hg:o.guard=none)(h:wpList P ops (fun e a' w'=>e = .normal/\R a' w') [o] a w) :
  ∃ w',(execOp a.eval o).run P w = .ok .skip w'/\R (a.put o.dst undef) w':=by
 simp only[wpList,Region.wanted,hg,if_true] at h;rcases h with h | ⟨_,a',w',h1,_⟩
 ·unfold Oper.wp at h;rw[zEo ho] at h ⊢;simp only[Sem.run_bind] at h ⊢;cases hr:(Instr.storeAt T (a.eval p) (a.eval x)).run P w with
  | ok u w' =>
   rw[hr] at h;exact⟨w',rfl,h.2⟩
  | halt e w' =>
   rw[hr] at h;simp only[Result.andThen] at h;cases e<;>simp only[Oper.upon] at h<;>first|exact h.elim|(have h3:=h.1;cases h3)
 ·cases h1
theorem zIe{a:Act}{t s:Nat}{v:Value}(h:s≠t):(a.put (some t) v).eval (.tmp s)=a.eval (.tmp s):=by
 unfold Act.put Act.eval;simp only;rw[Array.getD_eq_getD_getElem?,Array.getD_eq_getD_getElem?,Array.getElem?_setIfInBounds];rw[if_neg (fun e=>h e.symm)]
theorem zG8{id:Nat}{a0:Act}{w0:World}(hm:P.follows .mixedOrders=true)(n f:Nat)(d:Nat->Nat)(ds:List Nat)(uses:Nat->List Nat)(φ:Nat->(Nat->Value)->World->List Nat->Prop)
  (hn:ops.size=n+2) (hf:f < n) (hds:ds.Nodup) (hdm:∀ i,i < n->d i∈ds) (hdi:∀ i j,i < n->j < n->d i=d j->i=j)
  (hback:ops.toList.zipIdx.all (fun x=>x.1.after.all fun e=>decide (e.on < x.2) || !Region.binds .any e)=true)
  (hanc:∀ k,k < n->k≠f->k∈Bd.anc ops n) (hanc2:∀ o,ops[n+1]? = some o->∀ k,k < n+1->k∈Bd.on o)
  (huse:∀ i,i < n->∀ t∈uses i,t=d i\/∃ j∈Bd.anc ops i,j < n/\d j=t)
  (hst:∃ o T p x,ops[n]? = some o/\o.guard=none/\o.dst=none/\o.op = .store T (.tmp p) (.tmp x)/\p≠d f/\x≠d f)
  (hof:∃ o,ops[f]? = some o/\o.guard=none/\o.dst=some (d f))
  (hφU:∀ i U U' w F,(∀ t∈uses i,U t=U' t) -> φ i U w F -> φ i U' w F)
  (hφw:∀ i U w w' F,Ext w w' -> φ i U w F -> φ i U w' F)
  (hop:∀ i,i < n->i≠f->∀ o,ops[i]? = some o->∀ U w (F:Nat->List Nat),Ext w0 w->(∀ j∈Bd.anc ops i,φ j U w (F j)/\Own w0.heap.size w (F j))->(∀ j∈Bd.anc ops i,∀ k∈Bd.anc ops i,j≠k->zAw (F j) (F k)) ->
   wpList P ops (fun e a' w'=>e = .normal/\∃ v F',a'=(zA9 a0 U ds).put (some (d i)) v/\Ext w w' /\ φ i (fun t=>if t=d i then v else U t) w' F'/\Own w.heap.size w' F') [o] (zA9 a0 U ds) w)
  (hopf:∀ o,ops[f]? = some o->∀ U w (F:Nat->List Nat),Ext w0 w->(∀ j∈Bd.anc ops f,φ j U w (F j)/\Own w0.heap.size w (F j)) ->
   ∃ v,(∀ w2,(execOp (zA9 a0 U ds).eval o).run P w2 = .ok (.value v) w2) /\ φ f (fun t=>if t=d f then v else U t) w [])
  (hfin:∀ o,ops[n]? = some o->∀ U w (F:Nat->List Nat),Ext w0 w->(∀ i,i < n -> φ i U w (F i)/\Own w0.heap.size w (F i))->(∀ i j,i < n->j < n->i≠j->zAw (F i) (F j)) ->
   wpList P ops (fun e a' w'=>e = .normal/\a'=zA9 a0 U ds/\wpList P ops Q (ops.toList.drop (n+1)) (zA9 a0 U ds) w') [o] (zA9 a0 U ds) w) :
  (Code.region id ops true).wp P Q a0 w0:=by
 have hlt:∀ (i:Nat) (o:Oper),ops[i]? = some o->∀ e∈o.after,Region.binds .any e=true->e.on < i:=by
  intro i o ho e he hbe;have h1:=List.all_eq_true.1 hback (o,i) (by
   rw[List.mem_zipIdx_iff_getElem?]
   simpa using ho)
  have h2:=Array.all_eq_true_iff_forall_mem.1 h1 e he
  simpa [hbe] using h2
 obtain⟨on,T,px,xx,hon,hgn,hdn,hopn,hp1,hp2⟩:=hst;obtain⟨of,hof1,hgf,hdf⟩:=hof
 let I:(Nat->Bool)->Act->World->Prop:=fun done a w =>
  ((∀ i,i < n+2->done i=true)/\Q .normal a w) \/
  ((∀ i,i < n+2->(done i=true ↔ i < n+1))/\wpList P ops Q (ops.toList.drop (n+1)) a w) \/
  ((∀ i,i < n+2->(done i=true ↔ i < n+1/\i≠f))/\∃ v,(∀ w2,(execOp a.eval of).run P w2 = .ok (.value v) w2)/\wpList P ops Q (ops.toList.drop (n+1)) (a.put (some (d f)) v) w) \/
  ((∀ i,n<=i->i < n+2->done i=false)/\(∀ (i:Nat) (o:Oper),i < n->done i=true->ops[i]? = some o->∀ e∈o.after,Region.binds .any e=true->done e.on=true) /\
   ∃ (U:Nat->Value) (F:Nat->List Nat),a=zA9 a0 U ds/\Ext w0 w/\(∀ i,i < n->done i=true -> φ i U w (F i)/\Own w0.heap.size w (F i))/\∀ i j,i < n->j < n->done i=true->done j=true->i≠j->zAw (F i) (F j))
 have hdrop:∀ {i:Nat} {o:Oper},ops[i]? = some o->ops.toList.drop i=o::ops.toList.drop (i+1):=by
  intro i o ho;have hin:=(Array.getElem?_eq_some_iff.1 ho).1;have h1:i < ops.toList.length:=by simpa using hin
  rw[List.drop_eq_getElem_cons h1]
  congr 1
  have:=(Array.getElem?_eq_some_iff.1 ho).2
  simpa using this
 refine zCp hm I ?_ ?_ ?_ ?_;·exact .inr (.inr (.inr ⟨fun _ _ _=>rfl,fun i o _ h=>by simp at h,_,fun _ => [],(zDq a0 ds).symm,(zr w0).drew,fun i _ h=>by simp at h,fun i j _ _ h=>by simp at h⟩))
 ·intro listed hsz hr i hi;have key:∀ m,m<=ops.size->∀ i,i < m->listed.getD i false=true:=by
   intro m
   induction m with
   | zero=>intro _ i hi;omega
   | succ m ih =>
    intro hm i hi;by_cases him:i < m
    ·exact ih (by omega) i him
    ·obtain rfl:i=m:=by omega
     by_cases hd:listed.getD i false=true
     ·exact hd
     ·exfalso;have hmr:i∈Region.ready .any ops listed:=by
       unfold Region.ready;refine List.mem_filter.2 ⟨List.mem_range.2 (by omega),?_⟩
       have ho:ops[i]? = some ops[i]:=Array.getElem?_eq_getElem (by omega)
       rw[ho];simp only[Bool.and_eq_true,Bool.not_eq_true',Option.map_some,Option.getD_some,Array.all_eq_true_iff_forall_mem,Bool.or_eq_true,Bool.not_eq_true'];refine⟨?_,fun e he=>by
        by_cases hbe:Region.binds .any e=true
        ·exact .inr (ih (by omega) e.on (hlt i _ ho e he hbe))
        ·exact .inl (by simpa using hbe)⟩
       have:i < listed.size:=by omega
       rw[Array.getD_eq_getD_getElem?,Array.getElem?_eq_getElem this] at *
       simpa using hd
      rw[hr] at hmr;cases hmr
  exact key ops.size (Nat.le_refl _) i hi
 ·intro done a w i o hI ho hnd hdeps;have hin:i < n+2:=by have:=(Array.getElem?_eq_some_iff.1 ho).1;omega
  have ancOf:(∀ j' o',done j'=true->ops[j']? = some o'->∀ k∈Bd.on o',done k=true)->∀ k∈Bd.anc ops i,done k=true:=fun hcl2=>Bd.anc_done hcl2 (fun o' ho' k hk=>by
   rw[ho] at ho';cases ho';obtain⟨e,he,hb,rfl⟩:=Bd.mem_on.1 hk;exact hdeps e he hb)
  rcases hI with ⟨h1,_⟩ | ⟨h1,h2⟩ | ⟨h1,v,h2,h3⟩ | ⟨hno,hcl,U,F,rfl,hE,hφ,hap⟩
  ·rw[h1 i hin] at hnd;cases hnd
  ·obtain rfl:i=n+1:=by
    have:=h1 i hin
    rw[hnd] at this;have h3:¬ i < n+1:=fun h=>by simpa using this.2 h
    omega
   rw[hdrop ho,zI4 ho] at h2;refine wpOp_mono (fun a' w' h=>?_) h2
   rw[show ops.toList.drop (n+1+1) = [] from List.drop_eq_nil_of_le (by simp;omega)] at h
   refine .inl ⟨fun k hk=>?_,h⟩
   by_cases hki:k=n+1
   ·subst hki;simp
   ·simp[(h1 k hk).2 (by omega)]
  ·have hif:i=f:=by
    by_cases h:i=f
    ·exact h
    ·exfalso;have h4:¬ i < n+1:=fun h5=>by have:=(h1 i hin).2 ⟨h5,h⟩;rw[hnd] at this;cases this
     obtain rfl:i=n+1:=by omega
     obtain⟨e,he,hb,he2⟩:=Bd.mem_on.1 (hanc2 o ho f (by omega))
     have:=hdeps e he hb
     rw[he2] at this;exact((h1 f (by omega)).1 this).2 rfl
   subst hif;obtain rfl:o=of:=Option.some.inj (ho.symm.trans hof1);unfold wpOp;rw[ho];simp only[Region.wanted,hgf,if_true];refine .inl ?_;unfold Oper.wp;rw[h2 w]
   show I _ (a.put o.dst v) w
   rw[hdf];refine .inr (.inl ⟨fun k hk=>?_,h3⟩)
   by_cases hki:k=i
   ·subst hki;simp;omega
   ·simp only[hki,decide_false,Bool.or_false];rw[h1 k hk];exact⟨fun h=>h.1,fun h=>⟨h,hki⟩⟩
  ·have hcl2:∀ j o',done j=true->ops[j]? = some o'->∀ k∈Bd.on o',done k=true:=fun j o' hj ho' k hk=>by
    obtain⟨e,he,hb,rfl⟩:=Bd.mem_on.1 hk;have hjn:j < n:=by
     have h1:=(Array.getElem?_eq_some_iff.1 ho').1;by_cases h:j < n
     ·exact h
     ·rw[hno j (by omega) (by omega)] at hj;cases hj
    exact hcl j o' hjn hj ho' e he hb
   have hanc1:∀ j,done j=true->∀ k∈Bd.anc ops j,done k=true:=fun j hj=>Bd.anc_done hcl2 (fun o' ho'=>hcl2 j o' hj ho')
   have hancI0:∀ k∈Bd.anc ops i,done k=true:=ancOf hcl2;have hancI:∀ k∈Bd.anc ops i,done k=true/\k < n:=fun k hk=>by
    have h1:=hancI0 k hk;refine⟨h1,?_⟩;have h3:=Bd.anc_lt hk;by_cases h:k < n
    ·exact h
    ·rw[hno k (by omega) (by omega)] at h1;cases h1
   have hne:i < n->∀ j,j < n->done j=true->∀ t∈uses j,t≠d i:=by
    intro hi j hj hdj t ht e;rcases huse j hj t ht with h1 | ⟨k,hk,hkn,h1⟩
    ·have:=hdi j i hj hi (h1.symm.trans e)
     subst this;rw[hnd] at hdj;cases hdj
    ·have h3:=hanc1 j hdj k hk
     have:=hdi k i hkn hi (h1.trans e)
     rw[this,hnd] at h3;cases h3
   -- one more that makes or reads
   have more:∀ (hi:i < n) (v:Value) (F':List Nat) (w':World),Ext w w' -> φ i (fun t=>if t=d i then v else U t) w' F'->Own w.heap.size w' F'->I (fun j=>done j || decide (j=i)) ((zA9 a0 U ds).put (some (d i)) v) w':=by
    intro hi v F' w' hx hp hown;refine .inr (.inr (.inr ⟨fun k hk1 hk2=>?_,fun j o' hj hdj ho' e he hb=>?_,(fun t=>if t=d i then v else U t),(fun j=>if j=i then F' else F j),zD5 U (d i) v ds a0 hds (hdm i hi),hE.tr hx,fun j hj hdj=>?_,fun j k hj hk hdj hdk hjk=>?_⟩))
    ·have:k≠i:=by omega
     simp[this,hno k hk1 hk2]
    ·by_cases hji:j=i
     ·subst hji;rw[ho] at ho';cases ho';simp[hdeps e he hb]
     ·have:done j=true:=by simpa [hji] using hdj
      simp[hcl j o' hj this ho' e he hb]
    ·by_cases hji:j=i
     ·subst hji;simp only[if_true];exact⟨hp,hown.mono hE.sz⟩
     ·have hdj2:done j=true:=by simpa [hji] using hdj
      simp only[if_neg hji];obtain⟨h1,h2⟩:=hφ j hj hdj2;exact⟨hφU j U _ w' (F j) (fun t ht=>by rw[if_neg (hne hi j hj hdj2 t ht)]) (hφw j U w w' (F j) hx h1),h2.ext hx⟩
    ·intro b hb1 hb2;simp only at hb1 hb2;by_cases hji:j=i
     ·have hki:k≠i:=fun e=>hjk (hji.trans e.symm)
      have hdk2:done k=true:=by simpa [hki] using hdk
      rw[if_pos hji] at hb1;rw[if_neg hki] at hb2;have g1:=(hown.2 b hb1).1;have g2:=(hφ k hk hdk2).2.lt hb2;omega
     ·have hdj2:done j=true:=by simpa [hji] using hdj
      rw[if_neg hji] at hb1;by_cases hki:k=i
      ·rw[if_pos hki] at hb2;have g1:=(hown.2 b hb2).1;have g2:=(hφ j hj hdj2).2.lt hb1;omega
      ·have hdk2:done k=true:=by simpa [hki] using hdk
       rw[if_neg hki] at hb2;exact hap j k hj hk hdj2 hdk2 hjk b hb1 hb2
   by_cases hi:i < n
   ·by_cases hif:i=f
    ·subst hif;obtain rfl:o=of:=Option.some.inj (ho.symm.trans hof1);obtain⟨v,hv,hp⟩:=hopf o ho U w F hE (fun k hk=>hφ k (hancI k hk).2 (hancI k hk).1)
     unfold wpOp;rw[ho];simp only[Region.wanted,hgf,if_true];refine .inl ?_;unfold Oper.wp;rw[hv w]
     show I _ ((zA9 a0 U ds).put o.dst v) w
     rw[hdf];exact more hi v [] w (zr w) hp (Own.nil _ _)
    ·have h:=hop i hi hif o ho U w F hE (fun k hk=>hφ k (hancI k hk).2 (hancI k hk).1) (fun j hj k hk hne=>hap j k (hancI j hj).2 (hancI k hk).2 (hancI j hj).1 (hancI k hk).1 hne)
     refine wpOp_mono ?_ (zC9 ho h);rintro a' w' ⟨v,F',rfl,hx,hp,hown⟩;exact more hi v F' w' hx hp hown
   ·-- the store
    obtain rfl:i=n:=by
     by_cases h:i=n
     ·exact h
     ·obtain rfl:i=n+1:=by omega
      obtain⟨e,he,hb,he2⟩:=Bd.mem_on.1 (hanc2 o ho n (by omega))
      have:=hdeps e he hb
      rw[he2,hno n (Nat.le_refl _) (by omega)] at this
      cases this
    obtain rfl:o=on:=Option.some.inj (ho.symm.trans hon);have hall:∀ k,k < i->k≠f->done k=true:=fun k hk hkf=>hancI0 k (hanc k hk hkf)
    by_cases hdf':done f=true
    ·have hall2:∀ k,k < i->done k=true:=fun k hk=>by
      by_cases h:k=f
      ·rw[h];exact hdf'
      ·exact hall k hk h
     obtain⟨w',hr,-,hR⟩:=zHj (R:=fun a' w'=>a'=zA9 a0 U ds/\wpList P ops Q (ops.toList.drop (i+1)) (zA9 a0 U ds) w') hopn hgn (hfin o ho U w F hE (fun j hj=>hφ j hj (hall2 j hj)) (fun j k hj hk hne=>hap j k hj hk (hall2 j hj) (hall2 k hk) hne))
     unfold wpOp;rw[ho];simp only[Region.wanted,hgn,if_true];refine .inl ?_;unfold Oper.wp;rw[hr]
     show I _ ((zA9 a0 U ds).put o.dst undef) w'
     rw[hdn];refine .inr (.inl ⟨fun k hk=>?_,hR⟩)
     by_cases hki:k=i
     ·subst hki;simp
     ·simp only[hki,decide_false,Bool.or_false];constructor
      ·intro h;by_cases h2:k < i
       ·omega
       ·rw[hno k (by omega) hk] at h;cases h
      ·intro h;exact hall2 k (by omega)
    ·have hdf2:done f=false:=by simpa using hdf'
     have hfa:∀ k∈Bd.anc ops f,k < f:=fun k hk=>by
      have:=Bd.anc_done (done:=fun k=>decide (k < f)) (ops:=ops) (i:=f) (fun j' o' hj' ho' k hk=>by
       simp only[decide_eq_true_eq] at hj' ⊢;obtain⟨e,he,hb,rfl⟩:=Bd.mem_on.1 hk
       have:=hlt j' o' ho' e he hb
       omega) (fun o' ho' k hk=>by
       simp only[decide_eq_true_eq];obtain⟨e,he,hb,rfl⟩:=Bd.mem_on.1 hk;exact hlt f o' ho' e he hb) k hk
      simpa using this
     obtain⟨v,hv,hp⟩:=hopf of hof1 U w F hE (fun k hk=>hφ k (by have:=hfa k hk;omega) (hall k (by have:=hfa k hk;omega) (by have:=hfa k hk;omega)))
     have hP:zA9 a0 (fun t=>if t=d f then v else U t) ds=(zA9 a0 U ds).put (some (d f)) v:=(zD5 U (d f) v ds a0 hds (hdm f hf)).symm
     have hnef:∀ j,j < i->j≠f->∀ t∈uses j,t≠d f:=by
      intro j hj hjf t ht e;rcases huse j hj t ht with h1 | ⟨k,hk,hkn,h1⟩
      ·exact hjf (hdi j f hj hf (h1.symm.trans e))
      ·have h3:=hanc1 j (hall j hj hjf) k hk
       have:=hdi k f hkn hf (h1.trans e)
       rw[this] at h3;exact hdf' h3
     have hall3:∀ j,j < i -> φ j (fun t=>if t=d f then v else U t) w (if j=f then [] else F j)/\Own w0.heap.size w (if j=f then [] else F j):=fun j hj=>by
      by_cases hjf:j=f
      ·subst hjf;rw[if_pos rfl];exact⟨hp,Own.nil _ _⟩
      ·rw[if_neg hjf];obtain⟨g1,g2⟩:=hφ j hj (hall j hj hjf);exact⟨hφU j U _ w (F j) (fun t ht=>by rw[if_neg (hnef j hj hjf t ht)]) g1,g2⟩
     obtain⟨w',hr,-,hR⟩:=zHj (R:=fun a' w'=>a'=zA9 a0 (fun t=>if t=d f then v else U t) ds/\wpList P ops Q (ops.toList.drop (i+1)) (zA9 a0 (fun t=>if t=d f then v else U t) ds) w') hopn hgn (hfin o ho (fun t=>if t=d f then v else U t) w (fun j=>if j=f then [] else F j) hE hall3 (fun j k hj hk hne b hb1 hb2=>by
      try simp only at hb1 hb2
      by_cases hjf:j=f
      ·rw[if_pos hjf] at hb1;cases hb1
      ·rw[if_neg hjf] at hb1;by_cases hkf:k=f
       ·rw[if_pos hkf] at hb2;cases hb2
       ·rw[if_neg hkf] at hb2;exact hap j k hj hk (hall j hj hjf) (hall k hk hkf) hne b hb1 hb2))
     rw[hP] at hr hR;rw[zEo hopn,zIe hp1,zIe hp2,<- zEo hopn (zA9 a0 U ds).eval] at hr;unfold wpOp;rw[ho];simp only[Region.wanted,hgn,if_true];refine .inl ?_;unfold Oper.wp;rw[hr]
     show I _ ((zA9 a0 U ds).put o.dst undef) w'
     rw[hdn];refine .inr (.inr (.inl ⟨fun k hk=>?_,v,hv,hR⟩))
     by_cases hki:k=i
     ·subst hki;simp only[decide_true,Bool.or_true,true_iff];exact⟨by omega,by omega⟩
     ·simp only[hki,decide_false,Bool.or_false];constructor
      ·intro h;by_cases h2:k < i
       ·exact⟨by omega,fun e=>by rw[e] at h;exact hdf' h⟩
       ·rw[hno k (by omega) hk] at h;cases h
      ·intro h;exact hall k (by omega) h.2
 ·intro done a w hI hall;rcases hI with ⟨h1,h2⟩ | ⟨h1,h2⟩ | ⟨h1,v,h2,h3⟩ | ⟨hno,_⟩
  ·exact h2
  ·have:=(h1 (n+1) (by omega)).1 (hall _ (by omega));omega
  ·have:=((h1 f (by omega)).1 (hall _ (by omega))).2;exact absurd rfl this
  ·have:=hno n (Nat.le_refl _) (by omega)
   rw[hall n (by omega)] at this;cases this
def Bd.chkF(ops:Array Oper)(n f:Nat)(tab:List (Nat × List Nat)):Bool :=
 decide (ops.size=n+2) && decide (f < n) && decide (tab.length=n) && decide (tab.map (·.1)).Nodup &&
 ops.toList.zipIdx.all (fun x=>x.1.after.all fun e=>decide (e.on < x.2) || !Region.binds .any e) &&
 (List.range n).all (fun k=>k == f || (Bd.anc ops n).contains k) &&
 (match ops[n+1]? with|some o=>(List.range (n+1)).all (fun k=>(Bd.on o).contains k)|none=>false) &&
 (List.range n).all (fun i=>(Bd.u tab i).all fun t=>t == Bd.d tab i || (Bd.anc ops i).any fun j=>decide (j < n) && Bd.d tab j == t) &&
 (match ops[n]? with|some o=>(match o.op with | .store _ (.tmp p) (.tmp x)=>o.guard.isNone && o.dst.isNone && p != Bd.d tab f && x != Bd.d tab f|_=>false)|none=>false) &&
 (match ops[f]? with|some o=>o.guard.isNone && o.dst == some (Bd.d tab f)|none=>false)
theorem zE7{id:Nat}{a0:Act}{w0:World}(hm:P.follows .mixedOrders=true)(n:Nat)(tab:List (Nat × List Nat))(ψ:Nat->List Value->World->List Nat->Prop)(f:Nat)
  (hchk:Bd.chkF ops n f tab=true)
  (hop:∀ i,i < n->i≠f->∀ o,ops[i]? = some o->∀ U w (F:Nat->List Nat),Ext w0 w->(∀ j∈Bd.anc ops i,ψ j ((Bd.u tab j).map U) w (F j)/\Own w0.heap.size w (F j))->(∀ j∈Bd.anc ops i,∀ k∈Bd.anc ops i,j≠k->zAw (F j) (F k)) ->
   ∀ K:Exit->Act->World->Prop,(∀ v F' w',Ext w w'->(∀ w2,Ext w' w2 -> ψ i ((Bd.u tab i).map fun t=>if t=Bd.d tab i then v else U t) w2 F')->Own w.heap.size w' F'->K .normal ((zA9 a0 U (tab.map (·.1))).put (some (Bd.d tab i)) v) w') ->
   wpList P ops K [o] (zA9 a0 U (tab.map (·.1))) w)
  (hopf:∀ o,ops[f]? = some o->∀ U w (F:Nat->List Nat),Ext w0 w->(∀ j∈Bd.anc ops f,ψ j ((Bd.u tab j).map U) w (F j)/\Own w0.heap.size w (F j)) ->
   ∃ v,(∀ w2,(execOp (zA9 a0 U (tab.map (·.1))).eval o).run P w2 = .ok (.value v) w2)/\∀ w2,Ext w w2 -> ψ f ((Bd.u tab f).map fun t=>if t=Bd.d tab f then v else U t) w2 [])
  (hfin:∀ o,ops[n]? = some o->∀ U w (F:Nat->List Nat),Ext w0 w->(∀ i,i < n -> ψ i ((Bd.u tab i).map U) w (F i)/\Own w0.heap.size w (F i))->(∀ i j,i < n->j < n->i≠j->zAw (F i) (F j)) ->
   ∀ K:Exit->Act->World->Prop,(∀ w',wpList P ops Q (ops.toList.drop (n+1)) (zA9 a0 U (tab.map (·.1))) w'->K .normal (zA9 a0 U (tab.map (·.1))) w')->wpList P ops K [o] (zA9 a0 U (tab.map (·.1))) w) :
  (Code.region id ops true).wp P Q a0 w0:=by
 unfold Bd.chkF at hchk;simp only[Bool.and_eq_true,decide_eq_true_eq] at hchk;obtain⟨⟨⟨⟨⟨⟨⟨⟨⟨h1,hfn⟩,h2⟩,h3⟩,h4⟩,h5⟩,h6⟩,h7⟩,h8⟩,h9⟩:=hchk;have hd:∀ i,i < n->Bd.d tab i∈tab.map (·.1):=fun i hi=>by
  unfold Bd.d;rw[List.getD_eq_getElem?_getD,List.getElem?_eq_getElem (by omega),Option.getD_some]
  exact List.mem_map_of_mem (List.getElem_mem _)
 have hd2:∀ i,i < n->(tab.map (·.1))[i]? = some (Bd.d tab i):=fun i hi=>by
  unfold Bd.d;rw[List.getD_eq_getElem?_getD,List.getElem?_map,List.getElem?_eq_getElem (by omega),Option.map_some,Option.getD_some]
 refine zG8 hm n f (Bd.d tab) (tab.map (·.1)) (Bd.u tab) (fun i U w F => ∀ w2,Ext w w2 -> ψ i ((Bd.u tab i).map U) w2 F) h1 hfn h3 hd ?_ h4 ?_ ?_ ?_ ?_ ?_ ?_ ?_ ?_ ?_ ?_
 ·intro i j hi hj e;have e1:=hd2 i hi;have e2:=hd2 j hj;rw[e] at e1;exact(List.getElem?_inj (by simpa [h2] using hi) h3).1 (e1.trans e2.symm)
 ·intro k hk hkf
  have:=List.all_eq_true.1 h5 k (List.mem_range.2 hk)
  simp only[Bool.or_eq_true,beq_iff_eq] at this;rcases this with h|h
  ·exact absurd h hkf
  ·simpa using h
 ·intro o ho k hk;rw[ho] at h6
  simpa using List.all_eq_true.1 h6 k (List.mem_range.2 hk)
 ·intro i hi t ht
  have:=List.all_eq_true.1 (List.all_eq_true.1 h7 i (List.mem_range.2 hi)) t ht
  simp only[Bool.or_eq_true,beq_iff_eq] at this;rcases this with h|h
  ·exact .inl h
  ·obtain⟨j,hj,h⟩:=List.any_eq_true.1 h;simp only[Bool.and_eq_true,decide_eq_true_eq,beq_iff_eq] at h;exact .inr ⟨j,hj,h.1,h.2⟩
 ·cases ho:ops[n]? with
  | none=>rw[ho] at h8;cases h8
  | some o =>
   rw[ho] at h8;try simp only at h8
   split at h8
   ·rename_i T p x hop'
    simp only[Bool.and_eq_true,bne_iff_ne,Option.isNone_iff_eq_none] at h8;exact⟨o,T,p,x,rfl,h8.1.1.1,h8.1.1.2,hop',h8.1.2,h8.2⟩
   ·cases h8
 ·cases ho:ops[f]? with
  | none=>rw[ho] at h9;cases h9
  | some o =>
   rw[ho] at h9;simp only[Bool.and_eq_true,Option.isNone_iff_eq_none,beq_iff_eq] at h9;exact⟨o,rfl,h9.1,h9.2⟩
 ·intro i U U' w F h hφ;rw[<- List.map_congr_left h];exact hφ
 ·intro i U w w' F hw hφ;exact fun w2 hw2=>hφ w2 (hw.tr hw2)
 ·intro i hi hif o ho U w F hE hdep hap;exact hop i hi hif o ho U w F hE (fun j hj=>⟨(hdep j hj).1 w (zr w),(hdep j hj).2⟩) hap _ fun v F' w' h1 h2 h3=>⟨rfl,v,F',rfl,h1,h2,h3⟩
 ·intro o ho U w F hE hdep;exact hopf o ho U w F hE (fun j hj=>⟨(hdep j hj).1 w (zr w),(hdep j hj).2⟩)
 ·intro o ho U w F hE hφ hap;exact hfin o ho U w F hE (fun i hi=>⟨(hφ i hi).1 w (zr w),(hφ i hi).2⟩) hap _ fun w' h=>⟨rfl,rfl,h⟩
end
end Sk
