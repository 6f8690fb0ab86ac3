/- Contracts of functions of the given program. -/
import Derived.ProofKit
import Derived.OpenShut
import Derived.Deep.Slices
import Derived.Test.YtbekofpkcahbkaaOwn
namespace Sk
open Go Go.RowKit Go.ChangeShapes Go.WideShapes Go.ChangeAt Go.Deep
structure Rdr (P:Program) (t:TypeId) (α:Type) [GT α]:Prop where
 cells:P.cellsOf t=GT.sz α
 rd:∀ {H:Type} {enc:TypeId × Value->H} {w:World} {base:Nat} {spare:Nat->Bool} {held:Bool} {fuel:Nat} {cs:List Value} {x:DataW H × List MemPlace},
  DataW.trod enc P w base spare held fuel t cs=some x->∃ (y : α) (F:List Nat),GT.enc w cs y F
theorem zFy{w:World}{base:Nat}{a:Addr}{n:Nat}{cs:List Value}(h:w.cells? base a n=some cs)(hn:0 < n):a.spot=none/\At w a.block a.off cs:=by
 obtain⟨_,hl,hc⟩:=World.cells?_some h;have hs:a.spot=none:=by
  have:=hc 0 hn
  rw[List.getElem?_eq_getElem (by omega)] at this
  simp only[Addr.add,if_true] at this;unfold World.cell? at this;cases hsp:a.spot with
  | none=>rfl
  | some s=>simp[hsp] at this;split at this<;>simp at this
 refine⟨hs,fun j u hj=>?_⟩
 have hjn:j < n:=by rw[<- hl];exact(List.getElem?_eq_some_iff.1 hj).1
 rw[<- hj,<- hc j hjn]
 congr 1
 unfold Addr.add;obtain⟨b,o,s⟩:=a;simp only at hs;subst hs
 split
 ·subst j;rfl
 ·rfl
theorem Rdr.row{P:Program}{e:TypeId}{α:Type}[GT α](he:Rdr P e α){H:Type}{enc:TypeId × Value->H}{w:World}{base:Nat}{spare:Nat->Bool}{held:Bool}{n:Nat}{D:Nat->DataW H}{Pl:Nat->List MemPlace}{b o:Nat} :
  ∀ (len i0:Nat),(∀ i,i < len->∃ cs',At w b (o+i0*GT.sz α + i*GT.sz α) cs'/\DataW.trod enc P w base spare held n e cs'=some (D (i0+i),Pl (i0+i))) ->
  ∃ (xs:List α) (F:List Nat),xs.length=len/\Row w b (o+i0*GT.sz α) xs F:=by
 intro len
 induction len with
 | zero=>intro i0 _;exact⟨[],[],rfl,rfl⟩
 | succ len ih =>
  intro i0 h;obtain⟨cs,hat,ht⟩:=h 0 (by omega)
  obtain⟨x,F1,hx⟩:=he.rd ht;obtain⟨xs,F,hl,hr⟩:=ih (i0+1) (fun i hi=>by
   obtain⟨cs',h1,h2⟩:=h (i+1) (by omega)
   refine⟨cs',?_,by rw[show i0+1+i=i0+(i+1) by omega];exact h2⟩
   rw[show o+(i0+1)*GT.sz α + i*GT.sz α = o+i0*GT.sz α + (i+1)*GT.sz α by rw[Nat.succ_mul,Nat.succ_mul];omega]
   exact h1)
  refine⟨x::xs,F1++F,by simp[hl],cs,F1,F,hx,by simpa using hat,rfl,?_⟩
  rw[show o+i0*GT.sz α + GT.sz α = o+(i0+1)*GT.sz α by rw[Nat.succ_mul];omega]
  exact hr
theorem Rdr.slice{P:Program}{t e:TypeId}{α:Type}[GT α](he:Rdr P e α)(ht:P.underlying t=some (.slice e))(hc:P.cellsOf t=1):Rdr P t (List α) :=
 ⟨hc,fun {H enc w base spare held fuel cs x} h=>by
  rcases open_slice ht h with ⟨rfl,_⟩ | ⟨a,len,cap,m,n,D,Pl,rfl,hb,hl,hm,hmm,rfl,hx⟩
  ·exact⟨[],[],_,rfl,none,0,rfl,Nat.le_refl _,Nat.zero_le _,.inl ⟨rfl,rfl⟩⟩
  ·have hlm:len<=m:=by rw[hmm];split<;>omega
   have hp:=GT.pos (α:=α);by_cases h0:len=0
   ·subst h0;exact⟨[],[],_,rfl,some a,cap,rfl,by simp,hm,.inl ⟨rfl,rfl⟩⟩
   ·have hspot:a.spot=none:=by
     obtain⟨cs',h1,_⟩:=hx 0 (by omega)
     rw[Nat.zero_mul] at h1;exact(zFy (a:=a.add 0) h1 (by rw[he.cells];omega)).1
    obtain⟨b,o,s⟩:=a;simp only at hspot;subst hspot;obtain⟨xs,F,hxl,hr⟩:=he.row (H:=H) (enc:=enc) (w:=w) (base:=base) (spare:=spare) (held:=held) (n:=n) (D:=D) (Pl:=Pl) (b:=b) (o:=o) len 0 (fun i hi=>by
     obtain⟨cs',h1,h2⟩:=hx i (by omega)
     rw[he.cells] at h1;refine⟨cs',?_,by rw[Nat.zero_add];exact h2⟩
     have:=(zFy h1 hp).2
     unfold Addr.add at this
     split at this
     ·rename_i hz
      simp only at this;rw[hz];simpa using this
     ·simpa using this)
    rw[Nat.zero_mul,Nat.add_zero] at hr;exact⟨xs,b::F,_,rfl,some ⟨b,o,none⟩,cap,by rw[hxl],by omega,hm,.inr ⟨by intro e;rw[e] at hxl;simp at hxl;omega,b,o,F,rfl,rfl,hr⟩⟩⟩
theorem zJ3{H:Type}{enc:TypeId × Value->H}{P:Program}(hl:laidOutB P=true){W W':World}(hb:Ext W W') :
  ∀ (ts:List TypeId) {vs:List Value} {ds:List (DataW H)} {ps:List MemPlace},(∀ t∈ts,P.readableRec t=true/\t < P.types.size)->(∀ x∈ps,x.block < W.heap.size) ->
  DataW.TrodAll enc P W 0 (fun _=>true) true ts vs ds ps->DataW.TrodAll enc P W' 0 (fun b=>decide (b < W.heap.size)) true ts vs ds ps:=by
 intro ts
 induction ts with
 | nil=>intro vs ds ps _ _ h;obtain⟨rfl,rfl,rfl⟩:=trodAll_nil h;exact trodAll_mk0
 | cons t ts ih =>
  intro vs ds ps ht hlt h;obtain⟨v,vs',d,ds',p,q,rfl,rfl,rfl,h1,h2⟩:=trodAll_cons h;exact trodAll_cons_mk (Below.trod hl (ht t (List.mem_cons_self ..)).1 (ht t (List.mem_cons_self ..)).2 h1 hb (fun x hx=>hlt x (List.mem_append_left _ hx)))
   (ih (fun t h=>ht t (List.mem_cons_of_mem _ h)) (fun x hx=>hlt x (List.mem_append_right _ hx)) h2)
theorem law_post{H:Type}{enc:TypeId × Value->H}{P:Program}{f:Func}{s:ChangeSpec}{W W':World}{args:Array Value}{ds gs:List (DataW H)}{before:List MemPlace}{tb:TypeId}
  (hl:laidOutB P=true) (hvars:s.vars = []) (hts:∀ t∈f.params.toList,P.readableRec t=true/\t < P.types.size) (hres:f.resultTypes = #[tb]) (htb:P.underlying tb=some .bool)
  (hW:DataW.Whole enc P f.params.toList s.vars false W args.toList ds gs before) (hfn:(s.fn H (ds++gs)).results = [.lit (.bool true)]) (hfa:(s.fn H (ds++gs)).args=ds) (hfv:(s.fn H (ds++gs)).vars = [])
  (hb:Ext W W'):s.post enc P f false true false false W args (.bool true) W':=by
 have hW':=hW;obtain⟨p,q,hA,hV,rfl,hfz,hnd⟩:=hW;rw[hvars] at hV;obtain⟨rfl,rfl⟩:=trodVars_none hV;have hlt:=hW'.lt;refine⟨ds,[],p ++ [],[],p,[],hW',?_,?_,?_,hb.frame _,fun h=>by cases h⟩
 ·rw[hres,hfn];exact trodAll_mk1 (shut_bool htb _)
 ·rw[hfa];exact zJ3 hl hb _ hts (fun x hx=>hlt x (List.mem_append_left _ hx)) hA
 ·rw[hvars,hfv];rfl
end Sk
