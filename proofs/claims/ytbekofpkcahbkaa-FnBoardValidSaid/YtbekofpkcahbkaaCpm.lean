/- Contracts of functions of the given program. -/
import Derived.Test.YtbekofpkcahbkaaFrame
import Derived.Test.YtbekofpkcahbkaaSetupS
import Derived.Test.YtbekofpkcahbkaaMachV
namespace Sk
open Go Go.Proofs Go.RowKit
set_option maxHeartbeats 4000000
set_option maxRecDepth 100000
set_option linter.unusedVariables false
set_option linter.unusedSimpArgs false
theorem Bk.putsAux{b:Nat}{T:TypeId}(cs:List Value):∀ {w:World} (pre rest:List Value),Bk w b (pre++rest) T->cs.length=rest.length->Bk (zA8 w b pre.length cs) b (pre++cs) T:=by
 induction cs with
 | nil=>intro w pre rest h hl;obtain rfl:rest = []:=List.length_eq_zero_iff.1 hl.symm;exact h
 | cons c cs ih =>
  intro w pre rest h hl;cases rest with
  | nil=>cases hl
  | cons r rest =>
   have h1:=h.set pre.length c;rw[List.set_append_right _ _ (Nat.le_refl _),Nat.sub_self,List.set_cons_zero] at h1;have h2:=ih (w:=w.setCell ⟨b,pre.length,none⟩ c) (pre ++ [c]) rest (by simpa using h1) (by simpa using hl)
   rw[List.length_append,List.length_singleton] at h2;rw[zA8]
   simpa using h2
theorem Bk.puts{w:World}{b:Nat}{cs0:List Value}{T:TypeId}(h:Bk w b cs0 T)(cs:List Value)(hl:cs.length=cs0.length):Bk (zA8 w b 0 cs) b cs T:=by
 have:=Bk.putsAux cs (w:=w) [] cs0 h hl
 simpa using this
theorem Bk.puts_ne{w:World}{b c o:Nat}{cs ds:List Value}{T:TypeId}(h:Bk w b cs T)(hb:b≠c):Bk (zA8 w c o ds) b cs T:=by
 unfold Bk at *;rw[zBk hb];exact h
theorem zCo{α:Type}[GT α]{w:World}{c o:Nat}{cs ds:List Value}{x : α}{F:List Nat}(h:GT.enc w cs x F)(hc:c ∉ F):GT.enc (zA8 w c o ds) cs x F :=
 GT.keep h fun k hk=>zBk (fun e=>hc (e ▸ hk))
theorem Sl.puts{α:Type}[GT α]{w:World}{c o:Nat}{v:Value}{ds:List Value}{x:List α}{F:List Nat}(h:Sl w v x F)(hc:c ∉ F):Sl (zA8 w c o ds) v x F :=
 h.keep fun k hk=>zBk (fun e=>hc (e ▸ hk))
theorem Bk.cellq{w:World}{b:Nat}{cs:List Value}{T:TypeId}(h:Bk w b cs T)(j:Nat):w.cell? ⟨b,j,none⟩=cs[j]?:=by
 unfold Bk at h;simp[World.cell?,h]
theorem Chg.one{b o:Nat}{F:List Nat}{a c:World}{cs:List Value}{T:TypeId}{v:Value}(h:Chg b o 1 F a c)(hb:Bk a b cs T)(ho:o < cs.length)(hv:c.cell? ⟨b,o,none⟩=some v):∃ T',Bk c b (cs.set o v) T':=by
 obtain⟨cs',T',hb'⟩:=h.fzk b ⟨_,_,hb⟩;have e:cs'=cs.set o v:=by
  apply List.ext_getElem?;intro j;rw[<- hb'.cellq j,List.getElem?_set];by_cases hj:o=j
  ·subst hj;rw[if_pos rfl,if_pos ho];exact hv
  ·rw[if_neg hj,h.cell (by omega)];exact hb.cellq j
 exact⟨T',e ▸ hb'⟩
theorem zIj{w:World}{m:Machine}{p0 p1 p2 v3 v4 v5:Value}{FP F3 F4 F5:List Nat}(hp:GT.enc w [p0,p1,p2] m.Plan FP)(h3:Sl w v3 m.Programs F3)(h4:Sl w v4 m.Cores F4)(h5:Sl w v5 m.Holds F5)(r:rng m.Tick):GT.enc w [p0,p1,p2,v3,v4,v5,.int .i64 m.Tick] m (FP++F3++F4++F5):=by
 obtain⟨v0,v1,v2,F0,F1,F2,e,s0,s1,s2,rfl⟩:=hp;simp only[List.cons.injEq] at e;obtain⟨rfl,rfl,rfl,_⟩:=e;exact⟨_,_,_,_,_,_,F0,F1,F2,F3,F4,F5,rfl,s0,s1,s2,h3,h4,h5,r,by simp[List.append_assoc]⟩
theorem Chg.enc{α:Type}[GT α]{b o n:Nat}{F G:List Nat}{a c:World}{cs:List Value}{x : α}(h:Chg b o n F a c)(hs:GT.enc a cs x G)(hb:b ∉ G)(hF:zAt G F):GT.enc c cs x G :=
 GT.keep hs fun k hk=>h.keep (GT.inh hs k hk) (fun e=>hb (e ▸ hk)) (fun hm=>hF k hk hm)
end Sk
