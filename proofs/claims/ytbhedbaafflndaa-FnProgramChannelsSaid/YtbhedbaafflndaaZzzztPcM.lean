/- Contracts of functions of the given program. -/
import Derived.Test.YtbhedbaafflndaaZzzzrPcs
namespace Sk
open Go Go.Proofs Go.RowKit
set_option maxHeartbeats 1000000
set_option maxRecDepth 100000
set_option linter.unusedVariables false
set_option linter.unusedSimpArgs false
theorem zCw:∀ (l m:List Int),l.Pairwise (· < ·)->m.Pairwise (· < ·)->(∀ x,x∈l ↔ x∈m)->l=m:=by
 intro l
 induction l with
 | nil =>
  intro m _ _ h;cases m with
  | nil=>rfl
  | cons b m=>exact absurd ((h b).2 (List.mem_cons_self ..)) (by simp)
 | cons a l ih =>
  intro m hl hm h;cases m with
  | nil=>exact absurd ((h a).1 (List.mem_cons_self ..)) (by simp)
  | cons b m =>
   rw[List.pairwise_cons] at hl hm;have h1:=List.mem_cons.1 ((h a).1 (List.mem_cons_self ..));have h2:=List.mem_cons.1 ((h b).2 (List.mem_cons_self ..));have hab:a=b:=by
    rcases h1 with h1|h1
    ·exact h1
    ·rcases h2 with h2|h2
     ·exact h2.symm
     ·have:=hm.1 a h1;have:=hl.1 b h2;omega
   subst hab;rw[ih m hl.2 hm.2 fun x=>?_]
   constructor
   ·intro hx
    have:=hl.1 x hx
    rcases List.mem_cons.1 ((h x).1 (List.mem_cons_of_mem _ hx)) with e|e
    ·omega
    ·exact e
   ·intro hx
    have:=hm.1 x hx
    rcases List.mem_cons.1 ((h x).2 (List.mem_cons_of_mem _ hx)) with e|e
    ·omega
    ·exact e
theorem zBo(d:Array Int)(hd:∀ i j,i<=j->j < d.size->d[i]! <= d[j]!):∀ m,m<=d.size ->
  (Lib.compactUpTo d m).Pairwise (· < ·)/\(∀ x∈Lib.compactUpTo d m,∃ i,i < m/\x=d[i]!)/\∀ i,i < m->d[i]! ∈ Lib.compactUpTo d m:=by
 intro m
 induction m with
 | zero=>intro _;refine⟨by simp[Lib.compactUpTo],by simp[Lib.compactUpTo],fun i h=>absurd h (Nat.not_lt_zero _)⟩
 | succ m ih =>
  intro hm;obtain⟨h1,h2,h3⟩:=ih (by omega)
  rw[Lib.compactUpTo_succ];by_cases hk:Lib.keeps d m=true
  ·rw[if_pos hk];refine⟨List.pairwise_append.2 ⟨h1,by simp,fun x hx y hy=>?_⟩,fun x hx=>?_,fun i hi=>?_⟩
   ·rw[List.mem_singleton] at hy;subst hy;obtain⟨i,hi,rfl⟩:=h2 x hx;have h4:=of_decide_eq_true hk;rcases h4 with h4|h4
    ·omega
    ·have a1:=hd i (m - 1) (by omega) (by omega)
     have a2:=hd (m - 1) m (by omega) (by omega)
     have:d[m - 1]! ≠ d[m]!:=fun e=>h4 e.symm
     omega
   ·rcases List.mem_append.1 hx with hx|hx
    ·obtain⟨i,hi,e⟩:=h2 x hx;exact⟨i,by omega,e⟩
    ·rw[List.mem_singleton] at hx;exact⟨m,by omega,hx⟩
   ·rcases Nat.lt_succ_iff_lt_or_eq.1 hi with h|h
    ·exact List.mem_append_left _ (h3 i h)
    ·subst h;exact List.mem_append_right _ (List.mem_singleton.2 rfl)
  ·rw[if_neg hk,List.append_nil];have h4:¬ (m=0\/d[m]! ≠ d[m - 1]!):=fun h=>hk (decide_eq_true h)
   have h5:m≠0:=fun h=>h4 (.inl h)
   have h6:d[m]! = d[m - 1]!:=Decidable.byContradiction fun h=>h4 (.inr h)
   refine⟨h1,fun x hx=>?_,fun i hi=>?_⟩
   ·obtain⟨i,hi,e⟩:=h2 x hx;exact⟨i,by omega,e⟩
   ·rcases Nat.lt_succ_iff_lt_or_eq.1 hi with h|h
    ·exact h3 i h
    ·subst h;rw[h6];exact h3 _ (by omega)
theorem M.srt_le(l:List Int):(zA4 l).Pairwise (fun x y=>x<=y):=by
 have h:=List.pairwise_mergeSort (le:=fun x y:Int=>decide (x<=y)) (fun a b c h1 h2=>decide_eq_true (by have:=of_decide_eq_true h1;have:=of_decide_eq_true h2;omega)) (fun a b=>by simp only[Bool.or_eq_true,decide_eq_true_eq];omega) l
 exact h.imp fun h=>of_decide_eq_true h
theorem zBw(l:List Int):(Lib.compact (zA4 l)).Pairwise (· < ·)/\∀ x,x∈Lib.compact (zA4 l) ↔ x∈l:=by
 have hs:=M.srt_le l;have h:=zBo (zA4 l).toArray (fun i j hij hj=>by
  have hj':j < (zA4 l).length:=by simpa using hj
  have hi':i < (zA4 l).length:=by omega
  rw[getElem!_pos _ i (by simpa using hi'),getElem!_pos _ j hj]
  simp only[List.getElem_toArray];rcases Nat.lt_or_eq_of_le hij with h|h
  ·exact(List.pairwise_iff_getElem.1 hs) i j hi' hj' h
  ·subst h;exact Int.le_refl _) (zA4 l).length (by simp)
 refine⟨h.1,fun x=>⟨fun hx=>zB3.1 (zAo hx),fun hx=>?_⟩⟩
 obtain⟨i,hi,rfl⟩:=List.mem_iff_getElem.1 (zB3.2 hx)
 have:=h.2.2 i hi
 rwa [getElem!_pos _ i (by simpa using hi),List.getElem_toArray] at this
theorem zBa(xs:List Order)(s:Bool)(n:Nat):(zBc xs s n).Pairwise (· < ·):=by
 unfold zBc;rw[List.pairwise_map];exact(List.pairwise_lt_range.filter _).imp fun h=>Int.ofNat_lt.2 h
theorem M.pch_eq(xs:List Order)(c:Int)(s:Bool):zAw xs c s=zAs xs c s:=by
 unfold zAw zAs;cases h:zAd xs c with
 | false=>rfl
 | true =>
  simp only[if_true];have h1:=zBw (zAi (zAx s) xs);refine zCw _ _ h1.1 (zBa xs s 8) fun x=>?_
  rw[h1.2 x];have hv:∀ o∈xs,o.Op=zAx s->0<=o.A/\o.A<=7:=by
   intro o ho hop;simp only[zAd,Bool.and_eq_true,List.all_eq_true] at h;have h2:=h.2.2 o ho;unfold zBg zAj at h2;have h3:o.Op=5\/o.Op=6:=by rw[hop];unfold zAx;cases s<;>simp
   rw[if_neg (by omega),if_neg (by omega),if_neg (by omega),if_pos h3] at h2
   simp only[Bool.and_eq_true,zA5] at h2;exact h2.1
  unfold zAi zBc;simp only[List.mem_map,List.mem_filter,List.mem_range,List.any_eq_true,zB1,Bool.and_eq_true,beq_iff_eq];constructor
  ·rintro⟨o,⟨ho,hop⟩,rfl⟩;obtain⟨h2,h3⟩:=hv o ho hop;exact⟨o.A.toNat,⟨by omega,o,ho,by omega,hop⟩,by show((o.A.toNat:Nat):Int)=o.A;omega⟩
  ·rintro⟨n,⟨hn,o,ho,hA,hop⟩,rfl⟩;exact⟨o,⟨ho,hop⟩,hA⟩
theorem zC7(n:Nat)(c:Int)(s:Bool):zAw (List.replicate n ⟨0,0,0⟩) c s = []:=by
 unfold zAw
 have:zAi (zAx s) (List.replicate n ⟨0,0,0⟩) = []:=by
  unfold zAi;rw[List.filter_eq_nil_iff.2,List.map_nil];intro o ho;rw[List.eq_of_mem_replicate ho];cases s<;>simp[zAx]
 rw[this];cases zAd _ c<;>simp[zA4,Lib.compact,Lib.compactUpTo]
theorem M.pcs_at{xs:List Order}{c:Int}{s:Bool}{k:Nat}{n:Int}(h:(zAs xs c s)[k]? = some n):∃ j:Nat,n=(j:Int)/\j < 8/\xs.any (zB1 s j)=true:=by
 have hm:=List.mem_of_getElem? h;unfold zAs at hm;cases hp:zAd xs c with
 | false=>rw[hp] at hm;cases hm
 | true =>
  rw[hp] at hm;simp only[if_true,zBc,List.mem_map,List.mem_filter,List.mem_range] at hm;obtain⟨j,⟨hj,ha⟩,rfl⟩:=hm;exact⟨j,rfl,hj,ha⟩
theorem M.pcs_lt{xs:List Order}{c:Int}{s:Bool}{i k:Nat}{m n:Int}(hm:(zAs xs c s)[i]? = some m)(hn:(zAs xs c s)[k]? = some n)(h:i < k):m < n:=by
 have hs:(zAs xs c s).Pairwise (· < ·):=by
  unfold zAs;cases hp:zAd xs c;·exact List.Pairwise.nil
  ·exact zBa xs s 8
 obtain⟨hi,rfl⟩:=List.getElem?_eq_some_iff.1 hm;obtain⟨hk,rfl⟩:=List.getElem?_eq_some_iff.1 hn;exact List.pairwise_iff_getElem.1 hs i k hi hk h
theorem zCk(xs:List Order)(c:Int)(s:Bool):(zAs xs c s).length<=8:=by
 unfold zAs;cases zAd xs c;·simp
 ·exact zBh xs s 8
end Sk
