/- The given statement FnBoardValid holds of the given program for every input of its domain; no condition is added. -/
import Derived.Test.YtbekofpkcahbkaaRows
import Derived.Test.YtbekofpkcahbkaaZzzzhBdM
namespace Go.Proofs.Ytbekofpkcahbkaa
open Go.ChangeShapes Go.WideShapes Go.ChangeAt Go.RowKit Sk
set_option maxRecDepth 100000
set_option linter.unusedVariables false
theorem rdr_byte{P:Program}{t:TypeId}(ht:P.underlying t=some (.int .u8))(hc:P.cellsOf t=1):Rdr P t By :=
 ⟨hc,fun h=>by
  obtain⟨n,rfl,_,hw⟩:=DataW.trod_int ht h;obtain⟨h1,h2⟩:=bounds_u8 hw;exact⟨⟨n⟩,[],rfl,h1,h2,rfl⟩⟩
theorem rd_bytes:Rdr Try.prog 22 (List By):=.slice (rdr_byte Try.underlying5 (by kernel_rfl)) Try.underlying22 (by kernel_rfl)
theorem own_knob:ownKnob Try.prog.godebug=none:=by kernel_rfl
theorem laid_out:laidOutB Try.prog=true:=by kernel_rfl
theorem zGj:∀ t∈Try.f3.params.toList,Try.prog.readableRec t=true/\t < Try.prog.types.size:=by
 rw[Try.params3];intro t ht;rw[List.mem_cons] at ht;rcases ht with rfl|ht
 ·exact⟨by kernel_rfl,of_decide_eq_true (by kernel_rfl)⟩
 ·cases ht
theorem zFk:Try.f3.resultTypes = #[4]:=by kernel_rfl
theorem zDw(H:Type)(enc:TypeId × Value->H)(W:World)(base:Nat)(args:Array Value)(ds gs:List (DataW H))(before:List MemPlace)
  (hval:∀ (j:Nat) t v,Try.f3.params[j]? = some t->args[j]? = some v->Value.okWide Try.prog W .any base t v)
  (hW:DataW.Whole enc Try.prog Try.f3.params.toList Rows.fnBoardValidSpec.vars false W args.toList ds gs before) :
  Calls Try.prog 3 args W fun e W' => ∃ v,e = .returned v/\Rows.fnBoardValidSpec.post enc Try.prog Try.f3 false true false false W args v W':=by
 have hW':=hW;obtain⟨p,q,hA0,hV,rfl,hfz,hnd⟩:=hW;have hA:DataW.TrodAll enc Try.prog W 0 (fun _=>true) true Try.f3.params.toList args.toList ds p:=hA0
 rw[Try.params3] at hA hval;obtain⟨v0,vs0,d0,ds0,p0,q0,hargs,rfl,rfl,h0,r0⟩:=trodAll_cons hA;obtain⟨rfl,rfl,rfl⟩:=trodAll_nil r0;obtain rfl:args = #[v0]:=by cases args;simp_all
 obtain⟨rfl,rfl⟩:=trodVars_none hV;obtain⟨a0,len0,cap0,rfl⟩:=okWide_slice Try.underlying22 (hval 0 22 v0 rfl rfl);obtain⟨fuel0,hf0⟩:=h0;obtain⟨x0,F0,u0,hv0,hs0⟩:=rd_bytes.rd hf0;simp only[Value.cells] at hv0;obtain rfl:Value.slice a0 len0 cap0=u0:=by simpa using hv0
 refine(zG9 _ x0 W ⟨F0,hs0⟩).mono fun e W' ⟨he,hg⟩=>?_
 subst he;exact⟨_,rfl,law_post laid_out rfl zGj zFk Try.underlying4 hW' rfl rfl rfl hg⟩
theorem zEi(os:Os)(started:os.Started)(H:Type)(enc:TypeId × Value->H) :
  ReturnsInHanded {} Try.checked os 3 .any (Rows.fnBoardValidSpec.pre6 enc Try.prog Try.f3 Rows.fnBoardValidRow.domain false) (Rows.fnBoardValidSpec.post enc Try.prog Try.f3 false true false false):=by
 refine returnsInHanded_of_change (C:=Try.checked) own_knob started (by kernel_rfl) Try.func3
  (ChangeSpec.witness6 (enc:=enc) (C:=Try.checked) false ⟨#[],#[.slice none 0 0],[]⟩ 8 (by kernel_rfl) (by kernel_rfl) (by kernel_rfl) (by kernel_rfl)) ?_
 intro W base args ds gs before hval hW _ _;exact zDw H enc W base args ds gs before hval hW
theorem law_FnBoardValid:Rows.FnBoardValidSaid :=
 OpenClaim.holds_of_wide 3 Try.f3 rfl rfl rfl rfl rfl rfl rfl ⟨rfl,rfl,rfl,rfl,rfl⟩ rfl rfl rfl rfl rfl (by kernel_rfl) Try.func3 (by kernel_rfl)
  (of_decide_eq_true (by kernel_rfl)) (by unfold Func.isWrapper;first|(rw[if_pos (by decide +kernel)];kernel_rfl)|(rw[if_neg (by decide +kernel)];exact⟨rfl,rfl⟩))
  (fun os started H enc _=>zEi os started H enc)
end Go.Proofs.Ytbekofpkcahbkaa

