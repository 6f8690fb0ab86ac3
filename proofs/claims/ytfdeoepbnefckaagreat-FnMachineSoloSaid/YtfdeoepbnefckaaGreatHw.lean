/- Contracts of functions of the given program. -/
import Derived.Test.YtfdeoepbnefckaaGreatBuild
namespace Sk
open Go Go.Proofs Go.RowKit
set_option linter.unusedVariables false
theorem hT{P:Program}{ops:Array Oper}{md:Region.Mode}{Q:Exit->Act->World->Prop}{S:World->Prop}(i:Nat){oi:Oper}{v:Value}{fuel:Nat}{listed:Array Bool}{a a':Act}{w:World}
  (h:wpAnyH P md ops Q S fuel (listed.setIfInBounds i true) a' w)
  (hi:ops[i]? = some oi:=by simp only[List.getElem?_toArray,List.getElem?_cons_succ,List.getElem?_cons_zero];rfl)
  (hs:Region.noSelect ops=true:=by kernel_rfl) (hf:Region.free md ops listed i=true:=by kernel_rfl) (hr:(Region.ready md ops listed).contains i=true:=by kernel_rfl)
  (hw:Region.wanted oi (yielded ops a.tmps)=true:=by rfl)
  (hy:YieldsIf P ops S oi v a:=by
   refine .inl ⟨by rfl,?_⟩
   intro w hSw;try dsimp only at hSw
   go_simp;try with_reducible rfl)
  (hQ:∀ c a w,Q (.panic c) (a.put oi.dst v) w->Q (.panic c) a w:=by exact fun _ _ _ h=>h) (hS:S w:=by assumption)
  (ha:a.put oi.dst v=a':=by(try simp only[Act.put,zs]);rfl)
  : wpAnyH P md ops Q S (fuel+1) listed a w :=
 wpAnyH_take hi hs hf hr hQ hy hS (ha ▸ h)
theorem hC{P:Program}{ops:Array Oper}{md:Region.Mode}{Q:Exit->Act->World->Prop}{S:World->Prop}(i:Nat){oi:Oper}{fuel:Nat}{listed:Array Bool}{a:Act}{w:World}
  (h:∀ K':Act->World->Prop,Shut (∀ a w,S w->(S w->wpAnyH P md ops Q S fuel (listed.setIfInBounds i true) a w)->K' a w)->if Region.wanted oi (yielded ops a.tmps)=true then Oper.wp P oi a w K' Q else K' (a.put oi.dst undef) w)
  (hi:ops[i]? = some oi:=by simp only[List.getElem?_toArray,List.getElem?_cons_succ,List.getElem?_cons_zero];rfl)
  (hr:Region.ready md ops listed = [i]:=by kernel_rfl) :
  wpAnyH P md ops Q S (fuel+1) listed a w :=
 wpAnyH_ready hr (by simp) (AllReadyH.cons hi h AllReadyH.nil)
end Sk
namespace Sk
open Go Go.RowKit
set_option linter.unusedVariables false
set_option linter.unusedSimpArgs false
section
variable {P:Program} {ops:Array Oper}
theorem zG7{w:World}{Q:Act->Prop}:∀ (l:List Oper) (a:Act),wpQuiet P ops (fun u=>u=w) Q l a->wpStill P ops w Q l a:=by
 intro l
 induction l with
 | nil=>intro a h;exact h
 | cons o rest ih =>
  intro a h;unfold wpQuiet at h;unfold wpStill
  split at h
  ·rename_i hw
   rw[if_pos hw];obtain⟨v,h1,h2⟩:=h;have h3:=h1 w rfl;unfold Oper.quietAt at h3;unfold Oper.still;unfold Oper.quietUpon at h3;unfold Oper.stillUpon
   split at h3
   ·rename_i v' w' heq
    rw[heq];obtain⟨h4,rfl⟩:=h3;exact⟨h4,ih _ h2⟩
   ·rename_i w' heq
    rw[heq];obtain⟨h4,rfl⟩:=h3;exact⟨h4,ih _ h2⟩
   ·rename_i f args w' heq
    rw[heq];exact⟨h3.1,v,h3.2,ih _ h2⟩
   ·cases h3
  ·rename_i hw
   rw[if_neg hw];exact ih _ h
theorem zAa{id:Nat}{Q:Exit->Act->World->Prop}{a:Act}{w:World}{l:List Oper}(n:Nat)(hm:P.follows .mixedOrders=true)(hB:Region.lexTailB .any l.toArray n=true)
  (h:wpQuiet P l.toArray (fun u=>u=w.drew) (fun a'=>wpList P l.toArray Q (l.drop n) a' w.drew) (l.take n) a):(Code.region id l.toArray true).wp P Q a w :=
 wp_region_still_tail n hm hB (zG7 _ _ h)
end
def Sp(e:TypeId)(z L:Nat)(w:World)(v:Value):Prop :=
 v = .slice none 0 0\/∃ g n cap cs,v = .slice (some ⟨g,0,none⟩) n cap/\L<=g/\(0 < n/\n<=cap)/\cap<=maxLen/\Bk w g cs e/\cs.length=cap*z
theorem Sp.fzk{e:TypeId}{z L:Nat}{w w':World}{v:Value}(h:Sp e z L w v)(k:FzK w w'):Sp e z L w' v:=by
 rcases h with h | ⟨g,n,cap,cs,h1,h2,h3,h4,h5,h6⟩
 ·exact .inl h
 ·obtain⟨c1,e1,b1⟩:=k g cs e h5;exact .inr ⟨g,n,cap,c1,h1,h2,h3,h4,b1,e1.trans h6⟩
theorem Sp.set{e:TypeId}{z L:Nat}{w:World}{v:Value}(h:Sp e z L w v)(p:Addr)(u:Value):Sp e z L (w.setCell p u) v:=h.fzk ((FzK.refl w).set p u)
theorem Sp.mono{e:TypeId}{z L L':Nat}{w:World}{v:Value}(h:Sp e z L w v)(k:L'<=L):Sp e z L' w v:=by
 rcases h with h | ⟨g,n,cap,cs,h1,h2,h3,h4,h5,h6⟩
 ·exact .inl h
 ·exact .inr ⟨g,n,cap,cs,h1,by omega,h3,h4,h5,h6⟩
theorem Oo.sp{α:Type}[GT α]{e:TypeId}{L:Nat}{w:World}{a:Option Addr}{n c:Nat}{xs:List α}(h:Oo e L w (.slice a n c) xs)(h0:xs.length=0->a=none/\n=0/\c=0):Sp e (GT.sz α) L w (.slice a n c):=by
 by_cases hx:xs.length=0
 ·obtain⟨rfl,rfl,rfl⟩:=h0 hx;exact .inl rfl
 obtain⟨F,h,_⟩:=h;rcases h with ⟨h,_⟩ | ⟨g,cap,cur,h,hL,hg,hl,hc,hs,hr,hn⟩
 ·exact .inl h
 ·have h':a=some ⟨g,0,none⟩/\n=xs.length/\c=cap:=by simpa using h
  obtain⟨rfl,rfl,rfl⟩:=h';exact .inr ⟨g,_,c,cur.toList,rfl,hL,⟨by omega,hl⟩,hc,by unfold Bk;simpa using hg,by simpa using hs⟩
def SpH(e:TypeId)(L:Nat)(w:World)(v:Value):Prop:=∃ a b c d f h t,v = .agg #[a,b,c,d,f,h,t]/\Sp e 1 L w h
theorem SpH.mk{e:TypeId}{L:Nat}{w:World}{a b c d f h t:Value}(k:Sp e 1 L w h):SpH e L w (.agg #[a,b,c,d,f,h,t]):=⟨_,_,_,_,_,_,_,rfl,k⟩
open Go.Proofs
section
variable {P:Program} {ops:Array Oper} {Q:Exit->Act->World->Prop}
theorem zI4{i:Nat}{o:Oper}{rest:List Oper}(ho:ops[i]? = some o){a:Act}{w:World}:wpList P ops Q (o::rest) a w=wpOp P ops Q i (wpList P ops Q rest) a w:=by
 unfold wpOp;rw[ho];simp only[wpList]
end
end Sk
