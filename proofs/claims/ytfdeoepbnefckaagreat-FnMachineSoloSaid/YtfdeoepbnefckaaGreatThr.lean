/- Contracts of functions of the given program. -/
import Derived.Test.YtfdeoepbnefckaaGreatBuild
namespace Sk
open Go Go.Proofs Go.RowKit
set_option linter.unusedVariables false
set_option linter.unusedSimpArgs false
def Mw(F:List Nat)(w w':World):Prop :=
 Ext {w with heap:=#[]} {w' with heap:=#[]} /\ w.heap.size<=w'.heap.size/\∀ b,b < w.heap.size->b ∉ F->w'.heap[b]? = w.heap[b]?
theorem Mw.ofExt{F:List Nat}{w w':World}(h:Ext w w'):Mw F w w' :=
 ⟨⟨h.os,h.tape,h.output,Nat.le_refl _,fun b hb=>by cases hb⟩,h.sz,fun b hb _=>h.block b hb⟩
theorem Mw.ofMx{F:List Nat}{w w':World}(h:Mx F w w'):Mw F w w':=⟨h.1,h.2.1,h.2.2.1⟩
theorem Mw.ofMo{F:List Nat}{w w':World}(h:Mo F w w'):Mw F w w':=.ofMx (.ofMo h)
theorem Mw.refl(F:List Nat)(w:World):Mw F w w:=Mw.ofExt (zr w)
theorem Mw.tr{F:List Nat}{a b c:World}(h:Mw F a b)(k:Mw F b c):Mw F a c :=
 ⟨h.1.tr k.1,Nat.le_trans h.2.1 k.2.1,fun x hx hn=>(k.2.2 x (zl hx h.2.1) hn).trans (h.2.2 x hx hn)⟩
theorem Mw.wide{F G:List Nat}{a b:World}(h:Mw F a b)(hF:∀ x∈F,x∈G):Mw G a b :=
 ⟨h.1,h.2.1,fun x hx hn=>h.2.2 x hx (fun hm=>hn (hF x hm))⟩
theorem Mw.ext{F:List Nat}{W a b:World}(h:Mw F a b)(he:Ext W a)(hF:∀ x∈F,W.heap.size<=x):Ext W b:=by
 obtain⟨h1,h2,h3,h4,h5⟩:=he;obtain⟨k1,k2,k3,k4,k5⟩:=h.1;exact⟨k1.trans h1,k2.trans h2,k3.trans h3,Nat.le_trans h4 h.2.1,fun b hb=>(h.2.2 b (zl hb h4) (fun hm=>by have:=hF b hm;omega)).trans (h5 b hb)⟩
theorem Mw.bk{F:List Nat}{a b:World}{p:Nat}{cs:List Value}{T:TypeId}(h:Mw F a b)(k:Bk a p cs T)(hp:p ∉ F):Bk b p cs T:=by
 have:=h.2.2 p k.lt hp
 unfold Bk at *;rw[this];exact k
theorem Mw.own{L:Nat}{F G:List Nat}{a b:World}(h:Mw F a b)(ho:Own L a G)(hG:∀ x∈G,x ∉ F):Own L b G :=
 ⟨ho.1,fun x hx=>⟨(ho.2 x hx).1,by obtain⟨cs,T,hb⟩:=(ho.2 x hx).2;exact⟨cs,T,h.bk hb (hG x hx)⟩⟩⟩
theorem Mw.size{F:List Nat}{a b:World}(h:Mw F a b):a.heap.size<=b.heap.size:=h.2.1
theorem Mw.cell{F:List Nat}{a b:World}(h:Mw F a b){p o:Nat}(hp:p ∉ F)(hl:p < a.heap.size):b.cell? ⟨p,o,none⟩=a.cell? ⟨p,o,none⟩:=World.cell?_of_block (h.2.2 p hl hp)
theorem Mw.trF{F G:List Nat}{a b c:World}(h:Mw F a b)(k:Mw G b c)(hG:∀ x∈G,x∈F\/a.heap.size<=x):Mw F a c :=
 ⟨h.1.tr k.1,Nat.le_trans h.2.1 k.2.1,fun x hx hn=>(k.2.2 x (zl hx h.2.1) (fun hm=>(hG x hm).elim hn (fun h2=>by omega))).trans (h.2.2 x hx hn)⟩
theorem Mw.set{F:List Nat}{a b:World}(h:Mw F a b){p:Addr}(hp:p.block∈F\/a.heap.size<=p.block)(u:Value):Mw F a (b.setCell p u) :=
 h.trF (Mw.ofMo ((Mo.refl [p.block] b).set (by simp) u)) (fun x hx=>by rw[List.mem_singleton] at hx;rw[hx];exact hp)
theorem Mw.ofGrown{F:List Nat}{b c:World}{row:Option Nat}(hg:b.grownBy c row)(hr:∀ k,row=some k->k∈F):Mw F b c :=
 ⟨⟨hg.os,hg.tape,hg.output,Nat.le_refl _,fun b hb=>by cases hb⟩,hg.size,fun x hx hn=>hg.block x hx (fun e=>hn (hr x e.symm))⟩
theorem Mw.enc{α:Type}[GT α]{F G:List Nat}{a b:World}{cs:List Value}{x : α}(h:Mw F a b)(k:GT.enc a cs x G)(hd:∀ y,y∈G->y∈F->False):GT.enc b cs x G :=
 GT.keep k fun y hy=>h.2.2 y (GT.inh k y hy) (fun hf=>hd y hy hf)
theorem Mw.sl{α:Type}[GT α]{F G:List Nat}{a b:World}{v:Value}{x:List α}(h:Mw F a b)(k:Sl a v x G)(hd:∀ y,y∈G->y∈F->False):Sl b v x G :=
 k.keep fun y hy=>h.2.2 y (k.inh y hy) (fun hf=>hd y hy hf)
section
variable {P:Program} {ops:Array Oper} {Q:Exit->Act->World->Prop}
def Bd.chkT(ops:Array Oper)(n:Nat)(th:List Nat):Bool :=
 th.all (fun i=>decide (i < n)) && (List.range th.length).all fun c=>(List.range c).all fun c'=>(Bd.anc ops (th.getD c 0)).contains (th.getD c' 0)
theorem zGx{id:Nat}{a0:Act}{w0:World}(hm:P.follows .mixedOrders=true)(n:Nat)(tab:List (Nat × List Nat))(ψ:Nat->List Value->World->List Nat->Prop)
  (F0:List Nat) (hF0:∀ k∈F0,k < w0.heap.size) (th:List Nat) (τ:Nat->List Value->World->Prop)
  (hchk:Bd.chk ops n tab=true) (hth:Bd.chkT ops n th=true) (hτ0:∀ w2,Ext w0 w2 -> τ 0 [] w2)
  (hop:∀ i,i < n->i ∉ th->∀ o,ops[i]? = some o->∀ U w (F:Nat->List Nat),Mw F0 w0 w->(∀ j∈Bd.anc ops i,ψ j ((Bd.u tab j).map U) w (F j)/\Own w0.heap.size w (F j))->(∀ j∈Bd.anc ops i,∀ k∈Bd.anc ops i,j≠k->zAw (F j) (F k)) ->
   ∀ K:Exit->Act->World->Prop,(∀ v F' w',Ext w w'->(∀ w2,Mw F0 w' w2 -> ψ i ((Bd.u tab i).map fun t=>if t=Bd.d tab i then v else U t) w2 F')->Own w.heap.size w' F'->K .normal ((zA9 a0 U (tab.map (·.1))).put (some (Bd.d tab i)) v) w') ->
   wpList P ops K [o] (zA9 a0 U (tab.map (·.1))) w)
  (hopt:∀ c i,th[c]? = some i->∀ o,ops[i]? = some o->∀ U w (F:Nat->List Nat),Mw F0 w0 w->(∀ j∈Bd.anc ops i,ψ j ((Bd.u tab j).map U) w (F j)/\Own w0.heap.size w (F j))->(∀ j∈Bd.anc ops i,∀ k∈Bd.anc ops i,j≠k->zAw (F j) (F k)) ->
   τ c ((th.take c).map fun j=>U (Bd.d tab j)) w ->
   ∀ K:Exit->Act->World->Prop,(∀ v F' w',Mw F0 w w'->(∀ w2,Ext w' w2 -> τ (c+1) (((th.take c).map fun j=>U (Bd.d tab j)) ++ [v]) w2)->(∀ w2,Mw F0 w' w2 -> ψ i ((Bd.u tab i).map fun t=>if t=Bd.d tab i then v else U t) w2 F')->Own w.heap.size w' F'->K .normal ((zA9 a0 U (tab.map (·.1))).put (some (Bd.d tab i)) v) w') ->
   wpList P ops K [o] (zA9 a0 U (tab.map (·.1))) w)
  (hfin:∀ o,ops[n]? = some o->∀ U w (F:Nat->List Nat),Mw F0 w0 w->(∀ i,i < n -> ψ i ((Bd.u tab i).map U) w (F i)/\Own w0.heap.size w (F i))->(∀ i j,i < n->j < n->i≠j->zAw (F i) (F j)) -> τ th.length (th.map fun j=>U (Bd.d tab j)) w->wpList P ops Q [o] (zA9 a0 U (tab.map (·.1))) w) :
  (Code.region id ops true).wp P Q a0 w0:=by
 unfold Bd.chk at hchk;simp only[Bool.and_eq_true,decide_eq_true_eq] at hchk;obtain⟨⟨⟨⟨⟨hn,h2⟩,hds⟩,hback⟩,h5⟩,h6⟩:=hchk;have hlast:∀ i,i < n->i∈Bd.anc ops n:=fun i hi=>by simpa using List.all_eq_true.1 h5 i (List.mem_range.2 hi)
 have huse:∀ i,i < n->∀ t∈Bd.u tab i,t=Bd.d tab i\/∃ j∈Bd.anc ops i,j < n/\Bd.d tab j=t:=fun i hi t ht=>by
  have:=List.all_eq_true.1 (List.all_eq_true.1 h6 i (List.mem_range.2 hi)) t ht
  simp only[Bool.or_eq_true,beq_iff_eq] at this;rcases this with h|h
  ·exact .inl h
  ·obtain⟨j,hj,h⟩:=List.any_eq_true.1 h;simp only[Bool.and_eq_true,decide_eq_true_eq,beq_iff_eq] at h;exact .inr ⟨j,hj,h.1,h.2⟩
 have hdm:∀ i,i < n->Bd.d tab i∈tab.map (·.1):=fun i hi=>by
  unfold Bd.d;rw[List.getD_eq_getElem?_getD,List.getElem?_eq_getElem (by omega),Option.getD_some]
  exact List.mem_map_of_mem (List.getElem_mem _)
 have hd2:∀ i,i < n->(tab.map (·.1))[i]? = some (Bd.d tab i):=fun i hi=>by
  unfold Bd.d;rw[List.getD_eq_getElem?_getD,List.getElem?_map,List.getElem?_eq_getElem (by omega),Option.map_some,Option.getD_some]
 have hdi:∀ i j,i < n->j < n->Bd.d tab i=Bd.d tab j->i=j:=fun i j hi hj e=>by
  have e1:=hd2 i hi;have e2:=hd2 j hj;rw[e] at e1;exact(List.getElem?_inj (by simpa [h2] using hi) hds).1 (e1.trans e2.symm)
 unfold Bd.chkT at hth;simp only[Bool.and_eq_true,List.all_eq_true,decide_eq_true_eq,List.mem_range,List.contains_iff_mem] at hth;obtain⟨hthn,hthc⟩:=hth;have hthg:∀ c i,th[c]? = some i->i < n:=fun c i h=>hthn i (List.mem_of_getElem? h)
 have hthA:∀ c c' i i',c' < c->th[c]? = some i->th[c']? = some i'->i'∈Bd.anc ops i:=fun c c' i i' hl h h'=>by
  have h1:=hthc c (List.getElem?_eq_some_iff.1 h).1 c' hl
  rwa [List.getD_eq_getElem?_getD,h,List.getD_eq_getElem?_getD,h'] at h1
 have hlt:∀ (i:Nat) (o:Oper),ops[i]? = some o->∀ e∈o.after,Region.binds .any e=true->e.on < i:=by
  intro i o ho e he hbe;have h1:=List.all_eq_true.1 hback (o,i) (by
   rw[List.mem_zipIdx_iff_getElem?]
   simpa using ho)
  have h2:=Array.all_eq_true_iff_forall_mem.1 h1 e he
  simpa [hbe] using h2
 let φ:Nat->(Nat->Value)->World->List Nat->Prop:=fun i U w F => ∀ w2,Mw F0 w w2 -> ψ i ((Bd.u tab i).map U) w2 F
 have hφU:∀ i U U' w F,(∀ t∈Bd.u tab i,U t=U' t) -> φ i U w F -> φ i U' w F:=fun i U U' w F h hφ w2 hw2=>by
  rw[<- List.map_congr_left h];exact hφ w2 hw2
 have hφw:∀ i U w w' F,Mw F0 w w' -> φ i U w F -> φ i U w' F:=fun i U w w' F hx hφ w2 hw2=>hφ w2 (hx.tr hw2)
 let vs:Nat->(Nat->Value)->List Value:=fun c U=>(th.take c).map fun j=>U (Bd.d tab j)
 let I:(Nat->Bool)->Act->World->Prop:=fun done a w =>
  if done n=true then (Q .normal a w/\∀ i,i < n->done i=true) else
   (∀ (i:Nat) (o:Oper),i < n->done i=true->ops[i]? = some o->∀ e∈o.after,Region.binds .any e=true->done e.on=true) /\
   ∃ (U:Nat->Value) (F:Nat->List Nat) (c:Nat),a=zA9 a0 U (tab.map (·.1))/\Mw F0 w0 w/\(∀ i,i < n->done i=true -> φ i U w (F i)/\Own w0.heap.size w (F i))/\(∀ i j,i < n->j < n->done i=true->done j=true->i≠j->zAw (F i) (F j)) /\
    c<=th.length/\(∀ j i,j < c->th[j]? = some i->done i=true)/\(∀ j i,c<=j->th[j]? = some i->done i=false)/\∀ w2,Ext w w2 -> τ c (vs c U) w2
 refine zCp hm I ?_ ?_ ?_ ?_
 ·show(if false=true then _ else _)
  rw[if_neg (by simp)]
  refine⟨fun i o _ h=>by simp at h,_,fun _ => [],0,(zDq a0 _).symm,Mw.ofExt (zr w0).drew,fun i _ h=>by simp at h,fun i j _ _ h=>by simp at h,Nat.zero_le _,fun j i h=>by omega,fun _ _ _ _=>rfl,fun w2 h=>?_⟩
  exact hτ0 w2 ((zr w0).drew.tr h)
 ·intro listed hsz hr i hi;have key:∀ m,m<=ops.size->∀ i,i < m->listed.getD i false=true:=by
   intro m
   induction m with
   | zero=>intro _ i hi;omega
   | succ m ih =>
    intro hm i hi;by_cases him:i < m
    ·exact ih (by omega) i him
    ·obtain rfl:i=m:=by omega
     by_cases hd:listed.getD i false=true
     ·exact hd
     ·exfalso;have hmr:i∈Region.ready .any ops listed:=by
       unfold Region.ready;refine List.mem_filter.2 ⟨List.mem_range.2 (by omega),?_⟩
       have ho:ops[i]? = some ops[i]:=Array.getElem?_eq_getElem (by omega)
       rw[ho];simp only[Bool.and_eq_true,Bool.not_eq_true',Option.map_some,Option.getD_some,Array.all_eq_true_iff_forall_mem,Bool.or_eq_true,Bool.not_eq_true'];refine⟨?_,fun e he=>by
        by_cases hbe:Region.binds .any e=true
        ·exact .inr (ih (by omega) e.on (hlt i _ ho e he hbe))
        ·exact .inl (by simpa using hbe)⟩
       have:i < listed.size:=by omega
       rw[Array.getD_eq_getD_getElem?,Array.getElem?_eq_getElem this] at *
       simpa using hd
      rw[hr] at hmr;cases hmr
  exact key ops.size (Nat.le_refl _) i hi
 ·intro done a w i o hI ho hnd hdeps;have hin:i < ops.size:=(Array.getElem?_eq_some_iff.1 ho).1;by_cases hdn:done n=true
  ·exfalso;have hne:i≠n:=fun e=>by subst e;rw[hnd] at hdn;cases hdn
   have hI':(if done n=true then _ else _):=hI
   rw[if_pos hdn] at hI'
   have:=hI'.2 i (by omega)
   rw[hnd] at this;cases this
  ·have hI':(if done n=true then _ else _):=hI
   rw[if_neg hdn] at hI';obtain⟨hcl,U,F,c,rfl,hE,hφ,hap,hcl',hcd,hcn,hτ⟩:=hI';have hcl2:∀ j o',done j=true->ops[j]? = some o'->∀ k∈Bd.on o',done k=true:=fun j o' hj ho' k hk=>by
    obtain⟨e,he,hb,rfl⟩:=Bd.mem_on.1 hk;have hjn:j < n:=by
     have h1:=(Array.getElem?_eq_some_iff.1 ho').1;have h2:j≠n:=fun e=>by subst e;exact hdn hj
     omega
    exact hcl j o' hjn hj ho' e he hb
   by_cases hi:i=n
   ·subst hi;have hall:∀ j,j < i->done j=true:=fun j hj=>by
     exact Bd.anc_done hcl2 (fun o' ho' k hk=>by
      rw[ho] at ho';cases ho';obtain⟨e,he,hb,rfl⟩:=Bd.mem_on.1 hk;exact hdeps e he hb) j (hlast j hj)
    have hce:c=th.length:=by
     by_cases hlt2:c < th.length
     ·have h1:=hcn c th[c] (Nat.le_refl _) (List.getElem?_eq_getElem hlt2);rw[hall _ (hthn _ (List.getElem_mem _))] at h1;cases h1
     ·omega
    have hf:=hfin o ho U w F hE (fun j hj=>⟨(hφ j hj (hall j hj)).1 w (Mw.refl _ _),(hφ j hj (hall j hj)).2⟩) (fun j k hj hk hne=>hap j k hj hk (hall j hj) (hall k hk) hne)
     (by have:=hτ w (zr w);subst hce;simpa only[vs,List.take_length] using this)
    unfold wpOp;rw[ho];simp only[wpList] at hf;simp only;have hK:∀ a' w',Q .normal a' w'->I (fun j=>done j || decide (j=i)) a' w':=fun a' w' h=>by
     show(if (done i || decide (i=i))=true then _ else _)
     rw[if_pos (by simp)];exact⟨h,fun j hj=>by simp[hall j hj]⟩
    split
    ·rename_i hw
     rw[if_pos hw] at hf;exact hf.imp (Oper.wp_mono hK) (fun h=>h)
    ·rename_i hw
     rw[if_neg hw] at hf;exact hK _ _ hf
   ·have hi2:i < n:=by omega
    have hanc:∀ j,done j=true->∀ k∈Bd.anc ops j,done k=true:=fun j hj=>Bd.anc_done hcl2 (fun o' ho'=>hcl2 j o' hj ho')
    have hancI:∀ k∈Bd.anc ops i,done k=true/\k < n:=fun k hk=>by
     have h1:done k=true:=Bd.anc_done hcl2 (fun o' ho' k hk=>by
      rw[ho] at ho';cases ho';obtain⟨e,he,hb,rfl⟩:=Bd.mem_on.1 hk;exact hdeps e he hb) k hk
     refine⟨h1,?_⟩;have h2:k≠n:=fun e=>by subst e;exact hdn h1
     have h3:=Bd.anc_lt hk;omega
    have hdep:∀ k∈Bd.anc ops i,ψ k ((Bd.u tab k).map U) w (F k)/\Own w0.heap.size w (F k):=fun k hk=>⟨(hφ k (hancI k hk).2 (hancI k hk).1).1 w (Mw.refl _ _),(hφ k (hancI k hk).2 (hancI k hk).1).2⟩
    have hdap:∀ j∈Bd.anc ops i,∀ k∈Bd.anc ops i,j≠k->zAw (F j) (F k):=fun j hj k hk hne=>hap j k (hancI j hj).2 (hancI k hk).2 (hancI j hj).1 (hancI k hk).1 hne
    have hne:∀ j,j < n->done j=true->∀ t∈Bd.u tab j,t≠Bd.d tab i:=by
     intro j hj hdj t ht e;rcases huse j hj t ht with h1 | ⟨k,hk,hkn,h1⟩
     ·have:=hdi j i hj hi2 (h1.symm.trans e)
      subst this;rw[hnd] at hdj;cases hdj
     ·have h3:=hanc j hdj k hk
      have:=hdi k i hkn hi2 (h1.trans e)
      rw[this,hnd] at h3;cases h3
    -- what follows for both kinds
    have goOn:∀ (v:Value) (F':List Nat) (w':World) (c':Nat),Mw F0 w w' -> φ i (fun t=>if t=Bd.d tab i then v else U t) w' F'->Own w.heap.size w' F' ->
      (c'<=th.length/\(∀ j k,j < c'->th[j]? = some k->(done k || decide (k=i))=true)/\(∀ j k,c'<=j->th[j]? = some k->(done k || decide (k=i))=false)/\∀ w2,Ext w' w2 -> τ c' (vs c' (fun t=>if t=Bd.d tab i then v else U t)) w2) ->
      I (fun j=>done j || decide (j=i)) ((zA9 a0 U (tab.map (·.1))).put (some (Bd.d tab i)) v) w':=by
     intro v F' w' c' hx hp hown ht
     show(if (done n || decide (n=i))=true then _ else _)
     rw[if_neg (by simp[hdn];omega)]
     refine⟨fun j o' hj hdj ho' e he hb=>?_,(fun t=>if t=Bd.d tab i then v else U t),(fun j=>if j=i then F' else F j),c',zD5 U (Bd.d tab i) v _ a0 hds (hdm i hi2),hE.tr hx,fun j hj hdj=>?_,fun j k hj hk hdj hdk hjk=>?_,ht.1,ht.2.1,ht.2.2.1,ht.2.2.2⟩
     ·by_cases hji:j=i
      ·subst hji;rw[ho] at ho';cases ho';simp[hdeps e he hb]
      ·have:done j=true:=by simpa [hji] using hdj
       simp[hcl j o' hj this ho' e he hb]
     ·by_cases hji:j=i
      ·subst hji;simp only[if_true];exact⟨hp,hown.mono hE.size⟩
      ·have hdj2:done j=true:=by simpa [hji] using hdj
       simp only[if_neg hji];obtain⟨h1,h2⟩:=hφ j hj hdj2;exact⟨hφU j U _ w' (F j) (fun t ht=>by rw[if_neg (hne j hj hdj2 t ht)]) (hφw j U w w' (F j) hx h1),hx.own h2 (fun b hb hf=>by have:=hF0 b hf;have:=(h2.2 b hb).1;omega)⟩
     ·intro b hb1 hb2;simp only at hb1 hb2;by_cases hji:j=i
      ·have hki:k≠i:=fun e=>hjk (hji.trans e.symm)
       have hdk2:done k=true:=by simpa [hki] using hdk
       rw[if_pos hji] at hb1;rw[if_neg hki] at hb2;have g1:=(hown.2 b hb1).1;have g2:=(hφ k hk hdk2).2.lt hb2;omega
      ·have hdj2:done j=true:=by simpa [hji] using hdj
       rw[if_neg hji] at hb1;by_cases hki:k=i
       ·rw[if_pos hki] at hb2;have g1:=(hown.2 b hb2).1;have g2:=(hφ j hj hdj2).2.lt hb1;omega
       ·have hdk2:done k=true:=by simpa [hki] using hdk
        rw[if_neg hki] at hb2;exact hap j k hj hk hdj2 hdk2 hjk b hb1 hb2
    have hvs:∀ v c',c'<=c->vs c' (fun t=>if t=Bd.d tab i then v else U t)=vs c' U:=fun v c' hc'=>by
     refine List.map_congr_left fun k hk=>?_
     obtain⟨j,hj⟩:=List.getElem?_of_mem hk;have hj2:j < c':=by
      have:=(List.getElem?_eq_some_iff.1 hj).1
      rw[List.length_take] at this;omega
     rw[List.getElem?_take,if_pos hj2] at hj;have hdk:=hcd j k (by omega) hj
     have hne2:Bd.d tab k≠Bd.d tab i:=fun e=>by
      have:=hdi k i (hthg j k hj) hi2 e
      rw[this,hnd] at hdk;cases hdk
     show(if Bd.d tab k=Bd.d tab i then v else U (Bd.d tab k))=_
     rw[if_neg hne2]
    by_cases hit:i∈th
    ·obtain⟨c1,hc1⟩:=List.getElem?_of_mem hit;have hcc:c1=c:=by
      rcases Nat.lt_trichotomy c1 c with h|h|h
      ·have:=hcd c1 i h hc1
       rw[hnd] at this;cases this
      ·exact h
      ·have hcl3:c < th.length:=by have:=(List.getElem?_eq_some_iff.1 hc1).1;omega
       have h1:=hcn c th[c] (Nat.le_refl _) (List.getElem?_eq_getElem hcl3);have h2:=(hancI _ (hthA c1 c i th[c] h hc1 (List.getElem?_eq_getElem hcl3))).1;rw[h1] at h2;cases h2
     subst hcc;have hcl3:=(List.getElem?_eq_some_iff.1 hc1).1;have hnd':∀ j k,j≠c1->th[j]? = some k->k≠i:=fun j k hj hk e=>by
      subst e;rcases Nat.lt_trichotomy j c1 with h|h|h
      ·have:=hcd j k h hk;rw[hnd] at this;cases this
      ·exact hj h
      ·have:=(hancI _ (hthA j c1 k k h hk hc1)).1;rw[hnd] at this;cases this
     refine wpOp_mono (fun a' w' h=>h) (zC9 ho (hopt c1 i hc1 o ho U w F hE hdep hdap (hτ w (zr w)) _ fun v F' w' hx ht hp hown=>⟨rfl,goOn v F' w' (c1+1) hx hp hown ⟨hcl3,?_,?_,?_⟩⟩))
     ·intro j k hj hk;by_cases hjc:j=c1
      ·subst hjc;rw[hc1] at hk;cases hk;simp
      ·simp[hcd j k (by omega) hk]
     ·intro j k hj hk;have h1:=hcn j k (by omega) hk
      have h2:=hnd' j k (by omega) hk
      simp[h1,h2]
     ·intro w2 h2
      have:=ht w2 h2
      have e:vs (c1+1) (fun t=>if t=Bd.d tab i then v else U t)=vs c1 U ++ [v]:=by
       have h3:th.take (c1+1)=th.take c1 ++ [i]:=zAd hc1
       show(th.take (c1+1)).map _=_
       rw[h3,List.map_append]
       have:=hvs v c1 (Nat.le_refl _)
       simp only[vs] at this ⊢;rw[this];simp
      rw[e];exact this
    ·refine wpOp_mono (fun a' w' h=>h) (zC9 ho (hop i hi2 hit o ho U w F hE hdep hdap _ fun v F' w' hx hp hown=>⟨rfl,goOn v F' w' c (Mw.ofExt hx) hp hown ⟨hcl',?_,?_,?_⟩⟩))
     ·intro j k hj hk;simp[hcd j k hj hk]
     ·intro j k hj hk;have h1:=hcn j k hj hk;have h2:k≠i:=fun e=>hit (e ▸ List.mem_of_getElem? hk)
      simp[h1,h2]
     ·intro w2 h2;rw[hvs v c (Nat.le_refl _)];exact hτ w2 (hx.tr h2)
 ·intro done a w hI hall;have hI':(if done n=true then _ else _):=hI
  rw[if_pos (hall n (by omega))] at hI'
  exact hI'.1
end
end Sk
