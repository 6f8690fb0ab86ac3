/- Contracts of functions of the given program. -/
import Derived.Test.YtbhedbaafflndaaOwn
namespace Sk
open Go Go.RowKit
set_option linter.unusedVariables false
set_option linter.unusedSimpArgs false
structure Window where
 Base:Int
 Size:Int
 Write:Bool
def Window.enc(w:World)(cs:List Value)(x:Window)(F:List Nat):Prop:=cs = [.int .i64 x.Base,.int .i64 x.Size,.bool x.Write]/\rng x.Base/\rng x.Size/\F = []
instance instGTWindow:GT Window where
 default:=⟨0,0,false⟩
 sz:=3
 enc:=Window.enc
 pos:=by decide
 len:=by rintro w cs x F ⟨rfl,r0,r1,rfl⟩;rfl
 one:=by
  rintro w cs x F ⟨rfl,r0,r1,rfl⟩ u hu;simp only[List.mem_cons,List.not_mem_nil,or_false] at hu;rcases hu with rfl|rfl|rfl
  iterate 3 (·rfl)
 inh:=by
  rintro w cs x F ⟨rfl,r0,r1,rfl⟩ b hb;cases hb
 keep:=by
  rintro w w' cs x F ⟨rfl,r0,r1,rfl⟩ hk;exact⟨rfl,r0,r1,rfl⟩
 tot x:=GT.tot x.Base+GT.tot x.Size+GT.tot x.Write
 ct x:=GT.ct x.Base+GT.ct x.Size+GT.ct x.Write
 mkE x k:={ Base:=GT.mkE x.Base (k),Size:=GT.mkE x.Size (k+(GT.ct x.Base:Nat)),Write:=GT.mkE x.Write (k+(GT.ct x.Base:Nat)+(GT.ct x.Size:Nat)) }
 mkE_ct:=by intro x k;simp only[GT.mkE_ct]
 mkE_idem:=by intro x k;simp only[GT.mkE_ct,GT.mkE_idem]
 zc:=[.int .i64 0,.int .i64 0,.bool false]
 zero _:=⟨rfl,zAa,zAa,rfl⟩
theorem Rv.openWindow{w:World}{v:Value}{x:Window}(h:Rv w v x):v = .agg #[.int .i64 x.Base,.int .i64 x.Size,.bool x.Write]/\rng x.Base/\rng x.Size:=by
 obtain⟨cs,F,rfl,rfl,r0,r1,rfl⟩:=h;exact⟨rfl,r0,r1⟩
theorem Rs.atWindow{w:World}{a:Option Addr}{n c:Nat}{xs:List Window}(h:Rs w (.slice a n c) xs)(k:Nat)(hk:k < xs.length) :
  ∃ b o x,a=some ⟨b,o,none⟩/\b < w.heap.size/\Hid (xs[k]? = some x)/\w.cell? ⟨b,o+k*3,none⟩=some (.int .i64 x.Base)/\w.cell? ⟨b,o+k*3+1,none⟩=some (.int .i64 x.Size)/\w.cell? ⟨b,o+k*3+2,none⟩=some (.bool x.Write)/\rng x.Base/\rng x.Size/\Hid (Rv w (.agg #[.int .i64 x.Base,.int .i64 x.Size,.bool x.Write]) x):=by
 obtain⟨b,o,cs,F,x,rfl,hb,hx,⟨rfl,r0,r1,rfl⟩,ha⟩:=h.at k hk;exact⟨b,o,x,rfl,hb,hx,by simpa [GT.sz] using ha 0 _ rfl,by simpa [GT.sz] using ha 1 _ rfl,by simpa [GT.sz] using ha 2 _ rfl,r0,r1,⟨_,_,rfl,rfl,r0,r1,rfl⟩⟩
structure Order where
 Op:Int
 A:Int
 B:Int
def Order.enc(w:World)(cs:List Value)(x:Order)(F:List Nat):Prop:=cs = [.int .i64 x.Op,.int .i64 x.A,.int .i64 x.B]/\rng x.Op/\rng x.A/\rng x.B/\F = []
instance instGTOrder:GT Order where
 default:=⟨0,0,0⟩
 sz:=3
 enc:=Order.enc
 pos:=by decide
 len:=by rintro w cs x F ⟨rfl,r0,r1,r2,rfl⟩;rfl
 one:=by
  rintro w cs x F ⟨rfl,r0,r1,r2,rfl⟩ u hu;simp only[List.mem_cons,List.not_mem_nil,or_false] at hu;rcases hu with rfl|rfl|rfl
  iterate 3 (·rfl)
 inh:=by
  rintro w cs x F ⟨rfl,r0,r1,r2,rfl⟩ b hb;cases hb
 keep:=by
  rintro w w' cs x F ⟨rfl,r0,r1,r2,rfl⟩ hk;exact⟨rfl,r0,r1,r2,rfl⟩
 tot x:=GT.tot x.Op+GT.tot x.A+GT.tot x.B
 ct x:=GT.ct x.Op+GT.ct x.A+GT.ct x.B
 mkE x k:={ Op:=GT.mkE x.Op (k),A:=GT.mkE x.A (k+(GT.ct x.Op:Nat)),B:=GT.mkE x.B (k+(GT.ct x.Op:Nat)+(GT.ct x.A:Nat)) }
 mkE_ct:=by intro x k;simp only[GT.mkE_ct]
 mkE_idem:=by intro x k;simp only[GT.mkE_ct,GT.mkE_idem]
 zc:=[.int .i64 0,.int .i64 0,.int .i64 0]
 zero _:=⟨rfl,zAa,zAa,zAa,rfl⟩
theorem Rv.openOrder{w:World}{v:Value}{x:Order}(h:Rv w v x):v = .agg #[.int .i64 x.Op,.int .i64 x.A,.int .i64 x.B]/\rng x.Op/\rng x.A/\rng x.B:=by
 obtain⟨cs,F,rfl,rfl,r0,r1,r2,rfl⟩:=h;exact⟨rfl,r0,r1,r2⟩
theorem Rs.atOrder{w:World}{a:Option Addr}{n c:Nat}{xs:List Order}(h:Rs w (.slice a n c) xs)(k:Nat)(hk:k < xs.length) :
  ∃ b o x,a=some ⟨b,o,none⟩/\b < w.heap.size/\Hid (xs[k]? = some x)/\w.cell? ⟨b,o+k*3,none⟩=some (.int .i64 x.Op)/\w.cell? ⟨b,o+k*3+1,none⟩=some (.int .i64 x.A)/\w.cell? ⟨b,o+k*3+2,none⟩=some (.int .i64 x.B)/\rng x.Op/\rng x.A/\rng x.B/\Hid (Rv w (.agg #[.int .i64 x.Op,.int .i64 x.A,.int .i64 x.B]) x):=by
 obtain⟨b,o,cs,F,x,rfl,hb,hx,⟨rfl,r0,r1,r2,rfl⟩,ha⟩:=h.at k hk;exact⟨b,o,x,rfl,hb,hx,by simpa [GT.sz] using ha 0 _ rfl,by simpa [GT.sz] using ha 1 _ rfl,by simpa [GT.sz] using ha 2 _ rfl,r0,r1,r2,⟨_,_,rfl,rfl,r0,r1,r2,rfl⟩⟩
end Sk
