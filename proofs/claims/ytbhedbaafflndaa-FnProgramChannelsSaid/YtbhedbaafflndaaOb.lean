/- Contracts of functions of the given program. -/
import Derived.Test.YtbhedbaafflndaaThr
import Derived.Test.YtbhedbaafflndaaRdr
namespace Sk
open Go Go.Proofs Go.RowKit
set_option linter.unusedVariables false
set_option linter.unusedSimpArgs false
theorem Fz.of{w w':World}{k:Nat}(h:Fz w k)(hk:w'.heap[k]? = w.heap[k]?):Fz w' k:=by
 obtain⟨cs,T,h⟩:=h;exact⟨cs,T,by unfold Bk at *;rw[hk];exact h⟩
theorem Own.of{L:Nat}{w w':World}{F:List Nat}(h:Own L w F)(hk:∀ k∈F,w'.heap[k]? = w.heap[k]?):Own L w' F:=⟨h.1,fun k hm=>⟨(h.2 k hm).1,(h.2 k hm).2.of (hk k hm)⟩⟩
def Oob{α:Type}[GT α](e:TypeId)(L M:Nat)(w:World)(v:Value)(xs:List α):Prop:=∃ F,Oa e L w v xs F/\Own L w F/\(∀ k∈F,k < M)/\∀ k,v.ownBlock=some k->k < M
theorem Oo.ob{α:Type}[GT α]{e:TypeId}{L:Nat}{w:World}{v:Value}{xs:List α}(h:Oo e L w v xs):Oob e L w.heap.size w v xs:=by
 have hl:=h.lt;obtain⟨F,h1,h2⟩:=h;exact⟨F,h1,h2,fun k hk=>h2.lt hk,hl⟩
theorem Oob.of{α:Type}[GT α]{e:TypeId}{L M:Nat}{w w':World}{v:Value}{xs:List α}(h:Oob e L M w v xs)(hk:∀ k,L<=k->k < M->w'.heap[k]? = w.heap[k]?):Oob e L M w' v xs:=by
 obtain⟨F,h1,h2,h3,h4⟩:=h;have hF:∀ k∈F,w'.heap[k]? = w.heap[k]?:=fun k hm=>hk k (h2.2 k hm).1 (h3 k hm)
 exact⟨F,h1.keep (fun k hm=>hk k (h1.own k hm) (h4 k hm)) hF,h2.of hF,h3,h4⟩
theorem Oob.own{α:Type}[GT α]{e:TypeId}{L M:Nat}{w:World}{v:Value}{xs:List α}(h:Oob e L M w v xs):∀ k,v.ownBlock=some k->L<=k/\k < M:=by
 obtain⟨F,h1,h2,h3,h4⟩:=h;exact fun k hk=>⟨h1.own k hk,h4 k hk⟩
theorem wp_appB{α:Type}[GT α]{P:Program}{w:World}{o:Oper}{a:Act}{K:Act->World->Prop}{Q:Exit->Act->World->Prop}(s x:Operand)(t:TypeId)
  (ho:o.op = .call { callee:=.builtin .append,args:=#[s,x],argTypes:=#[t,t] }) (e:TypeId) (ht:P.underlying t=some (.slice e)) (hel:El P e α)
  {L M:Nat} {v:Value} {xs ys:List α} {Fy:List Nat} (hs:a.eval s=v) (hO:Oob e L M w v xs) (hL:L<=M) (hM:M<=w.heap.size) {ab ao m c:Nat} (hx:a.eval x = .slice (some ⟨ab,ao,none⟩) m c) (hm:ys.length=m) (hy:Row w ab ao ys Fy)
  (hm0:0 < m) (hown:Own M w Fy) (hlen:xs.length+m<=4294967296)
  (h:∀ v' w',Oo e L w' v' (xs++ys)->Mw v.ownBlock.toList w w'->(v'.ownBlock=v.ownBlock\/v'.ownBlock=some w.heap.size)->K (a.put o.dst v') w'):o.wp P a w K Q:=by
 obtain⟨F,hA,hF,hFM,hvM⟩:=hO;have hd:∀ k∈Fy,v.ownBlock≠some k:=fun k hk e=>by have:=(hown.2 k hk).1;have:=hvM k e;omega
 refine zCx s x t ho e ht hel hs hA hx hm hy hm0 hd hlen (Nat.le_trans hL hM) fun v' w' h1 h2 h3=>h v' w' ⟨_,h1,?_⟩ (Mw.ofGrown h2 (fun k hk=>by simp[hk])) h3
 have hnF:∀ k∈F,v.ownBlock≠some k:=fun k hk e=>by
   rcases hA with ⟨rfl,_,_⟩ | ⟨g,cap,cur,rfl,_,_,_,_,_,_,hg⟩
   ·cases e
   ·cases e;exact hg hk
 refine Own.grown (row:=v.ownBlock) (w:=w) (Own.app hF hown (fun b hb=>hFM b hb) hL) h2 fun k hk=>?_
 rcases List.mem_append.1 hk with hk|hk
 ·exact hnF k hk
 ·exact hd k hk
theorem wpl_appB{α:Type}[GT α]{P:Program}{w:World}{ops:Array Oper}{rest:List Oper}{o:Oper}{a:Act}{Q:Exit->Act->World->Prop}(hgd:o.guard=none)(s x:Operand)(t:TypeId)
  (ho:o.op = .call { callee:=.builtin .append,args:=#[s,x],argTypes:=#[t,t] }) (e:TypeId) (ht:P.underlying t=some (.slice e)) (hel:El P e α)
  {L M:Nat} {v:Value} {xs ys:List α} {Fy:List Nat} (hs:a.eval s=v) (hO:Oob e L M w v xs) (hL:L<=M) (hM:M<=w.heap.size) {ab ao m c:Nat} (hx:a.eval x = .slice (some ⟨ab,ao,none⟩) m c) (hm:ys.length=m) (hy:Row w ab ao ys Fy)
  (hm0:0 < m) (hown:Own M w Fy) (hlen:xs.length+m<=4294967296)
  (h:∀ v' w',Oo e L w' v' (xs++ys)->Mw v.ownBlock.toList w w'->wpList P ops Q rest (a.put o.dst v') w'):wpList P ops Q (o::rest) a w :=
 wpList_plain hgd fun _ hK=>wp_appB s x t ho e ht hel hs hO hL hM hx hm hy hm0 hown hlen fun v' w' h1 h2 _=>hK _ _ (h v' w' h1 h2)
end Sk
