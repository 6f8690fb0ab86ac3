/- Contracts of functions of the given program. -/
import Derived.Test.YtbhedbaafflndaaDrawW
namespace Sk
open Go Go.Proofs Go.RowKit
set_option maxHeartbeats 1600000
set_option maxRecDepth 100000
set_option linter.unusedVariables false
set_option linter.unusedSimpArgs false
structure Ab where
 v:List Bool
instance instGTAb:GT Ab where
 default:=⟨[]⟩
 sz:=1
 enc w cs x F:=∃ val,cs = [val]/\Oa 4 0 w val x.v []/\F=val.ownBlock.toList
 pos:=Nat.one_pos
 len:=by rintro w cs x F ⟨v,rfl,_⟩;rfl
 one:=by
  rintro w cs x F ⟨v,rfl,h,_⟩ u hu;obtain⟨a,c,rfl,_⟩:=h.form;simp at hu;subst hu;rfl
 inh:=by rintro w cs x F ⟨v,rfl,h,rfl⟩ b hb;exact h.lt b (Option.mem_toList.1 hb)
 keep:=by
  rintro w w' cs x F ⟨v,rfl,h,rfl⟩ hk;exact⟨v,rfl,h.keep (fun k hv=>hk k (Option.mem_toList.2 hv)) (fun k hk=>by cases hk),rfl⟩
 tot x:=x.v.length
 ct _:=1
 mkE x _:=x
 mkE_ct _ _:=rfl
 mkE_idem _ _:=rfl
 zc:=[.slice none 0 0]
 zero w:=⟨_,rfl,Oa.nil _ _ _,rfl⟩
theorem Oa.slS{w:World}{e:TypeId}{L:Nat}{v:Value}{xs:List Bool}(h:Oa e L w v xs []):∃ F,Sl w v xs F/\∀ k∈F,v.ownBlock=some k:=by
 rcases h with ⟨rfl,rfl,_⟩ | ⟨g,cap,cur,rfl,hL,hg,hl,hc,hs,hr,hn⟩
 ·exact⟨[],⟨none,0,rfl,Nat.le_refl _,Nat.zero_le _,.inl ⟨rfl,rfl⟩⟩,fun k hk=>by cases hk⟩
 ·by_cases hx:xs = []
  ·subst hx;exact⟨[],⟨_,cap,rfl,hl,hc,.inl ⟨rfl,rfl⟩⟩,fun k hk=>by cases hk⟩
  ·exact⟨[g],⟨_,cap,rfl,hl,hc,.inr ⟨hx,g,0,[],rfl,rfl,hr⟩⟩,fun k hk=>by rw[List.mem_singleton] at hk;subst hk;rfl⟩
theorem Row.abs{w:World}{b:Nat}{xs:List Ab}:∀ {o:Nat} {F:List Nat},Row w b o xs F->∃ F',Row w b o (xs.map Ab.v) F'/\∀ k∈F',k∈F:=by
 induction xs with
 | nil=>intro o F h;exact⟨[],rfl,fun k hk=>by cases hk⟩
 | cons x xs ih =>
  intro o F h;obtain⟨cs,F1,F2,⟨v,rfl,hv,rfl⟩,ha,rfl,hr⟩:=h;obtain⟨G,h1,h2⟩:=ih hr;obtain⟨G1,h3,h4⟩:=hv.slS;refine⟨G1++G,⟨[v],G1,G,⟨v,rfl,h3⟩,ha,rfl,h1⟩,fun k hk=>?_⟩
  rcases List.mem_append.1 hk with hk|hk
  ·exact List.mem_append_left _ (Option.mem_toList.2 (h4 k hk))
  ·exact List.mem_append_right _ (h2 k hk)
end Sk
