/- The given statement FnMachineSolo holds of the given program for every input of its domain; no condition is added. -/
import Derived.Test.YtfdeoepbnefckaaGreatRows
import Derived.Test.YtfdeoepbnefckaaGreatZzzzxLawMS
namespace Go.Proofs.YtfdeoepbnefckaaGreat
open Go.ChangeShapes Go.WideShapes Go.ChangeAt Go.RowKit Sk
set_option maxRecDepth 100000
set_option linter.unusedVariables false
theorem rdr_byte{P:Program}{t:TypeId}(ht:P.underlying t=some (.int .u8))(hc:P.cellsOf t=1):Rdr P t By :=
 ⟨hc,fun h=>by
  obtain⟨n,rfl,_,hw⟩:=DataW.trod_int ht h;obtain⟨h1,h2⟩:=bounds_u8 hw;exact⟨⟨n⟩,[],rfl,h1,h2,rfl⟩⟩
theorem rd_bytes:Rdr Tryz.prog 22 (List By):=.slice (rdr_byte Tryz.underlying5 (by kernel_rfl)) Tryz.underlying22 (by kernel_rfl)
theorem own_knob:ownKnob Tryz.prog.godebug=none:=by kernel_rfl
theorem laid_out:laidOutB Tryz.prog=true:=by kernel_rfl
theorem ts_MachineSolo:∀ t∈Tryz.f4.params.toList,Tryz.prog.readableRec t=true/\t < Tryz.prog.types.size:=by
 rw[Tryz.params4];intro t ht;rw[List.mem_cons] at ht;rcases ht with rfl|ht
 ·exact⟨by kernel_rfl,of_decide_eq_true (by kernel_rfl)⟩
 ·cases ht
theorem res_MachineSolo:Tryz.f4.resultTypes = #[4]:=by kernel_rfl
theorem contract_MachineSolo(H:Type)(enc:TypeId × Value->H)(W:World)(base:Nat)(args:Array Value)(ds gs:List (DataW H))(before:List MemPlace)
  (hval:∀ (j:Nat) t v,Tryz.f4.params[j]? = some t->args[j]? = some v->Value.okWide Tryz.prog W .any base t v)
  (hW:DataW.Whole enc Tryz.prog Tryz.f4.params.toList Rows.fnMachineSoloSpec.vars false W args.toList ds gs before) :
  Calls Tryz.prog 4 args W fun e W' => ∃ v,e = .returned v/\Rows.fnMachineSoloSpec.post enc Tryz.prog Tryz.f4 false true false false W args v W':=by
 have hW':=hW;obtain⟨p,q,hA0,hV,rfl,hfz,hnd⟩:=hW;have hA:DataW.TrodAll enc Tryz.prog W 0 (fun _=>true) true Tryz.f4.params.toList args.toList ds p:=hA0
 rw[Tryz.params4] at hA hval;obtain⟨v0,vs0,d0,ds0,p0,q0,hargs,rfl,rfl,h0,r0⟩:=trodAll_cons hA;obtain⟨rfl,rfl,rfl⟩:=trodAll_nil r0;obtain rfl:args = #[v0]:=by cases args;simp_all
 obtain⟨rfl,rfl⟩:=trodVars_none hV;obtain⟨a0,len0,cap0,rfl⟩:=okWide_slice Tryz.underlying22 (hval 0 22 v0 rfl rfl);obtain⟨fuel0,hf0⟩:=h0;obtain⟨x0,F0,u0,hv0,hs0⟩:=rd_bytes.rd hf0;simp only[Value.cells] at hv0;obtain rfl:Value.slice a0 len0 cap0=u0:=by simpa using hv0
 refine(lawMachineSolo _ x0 W ⟨F0,hs0⟩).mono fun e W' ⟨he,hg⟩=>?_
 subst he;exact⟨_,rfl,law_post laid_out rfl ts_MachineSolo res_MachineSolo Tryz.underlying4 hW' rfl rfl rfl hg⟩
theorem lifted_MachineSolo(os:Os)(started:os.Started)(H:Type)(enc:TypeId × Value->H) :
  ReturnsInHanded {} Tryz.checked os 4 .any (Rows.fnMachineSoloSpec.pre6 enc Tryz.prog Tryz.f4 Rows.fnMachineSoloRow.domain false) (Rows.fnMachineSoloSpec.post enc Tryz.prog Tryz.f4 false true false false):=by
 refine returnsInHanded_of_change (C:=Tryz.checked) own_knob started (by kernel_rfl) Tryz.func4
  (ChangeSpec.witness6 (enc:=enc) (C:=Tryz.checked) false ⟨#[],#[.slice none 0 0],[]⟩ 8 (by kernel_rfl) (by kernel_rfl) (by kernel_rfl) (by kernel_rfl)) ?_
 intro W base args ds gs before hval hW _ _;exact contract_MachineSolo H enc W base args ds gs before hval hW
theorem law_FnMachineSolo:Rows.FnMachineSoloSaid :=
 OpenClaim.holds_of_wide 4 Tryz.f4 rfl rfl rfl rfl rfl rfl rfl ⟨rfl,rfl,rfl,rfl,rfl⟩ rfl rfl rfl rfl rfl (by kernel_rfl) Tryz.func4 (by kernel_rfl)
  (of_decide_eq_true (by kernel_rfl)) (by unfold Func.isWrapper;first|(rw[if_pos (by decide +kernel)];kernel_rfl)|(rw[if_neg (by decide +kernel)];exact⟨rfl,rfl⟩))
  (fun os started H enc _=>lifted_MachineSolo os started H enc)
end Go.Proofs.YtfdeoepbnefckaaGreat

