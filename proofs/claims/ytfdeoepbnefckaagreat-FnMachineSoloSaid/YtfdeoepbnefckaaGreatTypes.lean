/- Contracts of functions of the given program. -/
import Derived.Test.YtfdeoepbnefckaaGreatOwn
namespace Sk
open Go Go.RowKit
set_option linter.unusedVariables false
set_option linter.unusedSimpArgs false
structure Window where
 Base:Int
 Size:Int
 Write:Bool
def Window.enc(w:World)(cs:List Value)(x:Window)(F:List Nat):Prop:=cs = [.int .i64 x.Base,.int .i64 x.Size,.bool x.Write]/\rng x.Base/\rng x.Size/\F = []
instance instGTWindow:GT Window where
 default:=⟨0,0,false⟩
 sz:=3
 enc:=Window.enc
 pos:=by decide
 len:=by rintro w cs x F ⟨rfl,r0,r1,rfl⟩;rfl
 one:=by
  rintro w cs x F ⟨rfl,r0,r1,rfl⟩ u hu;simp only[List.mem_cons,List.not_mem_nil,or_false] at hu;rcases hu with rfl|rfl|rfl
  iterate 3 (·rfl)
 inh:=by
  rintro w cs x F ⟨rfl,r0,r1,rfl⟩ b hb;cases hb
 keep:=by
  rintro w w' cs x F ⟨rfl,r0,r1,rfl⟩ hk;exact⟨rfl,r0,r1,rfl⟩
 tot x:=GT.tot x.Base+GT.tot x.Size+GT.tot x.Write
 ct x:=GT.ct x.Base+GT.ct x.Size+GT.ct x.Write
 mkE x k:={ Base:=GT.mkE x.Base (k),Size:=GT.mkE x.Size (k+(GT.ct x.Base:Nat)),Write:=GT.mkE x.Write (k+(GT.ct x.Base:Nat)+(GT.ct x.Size:Nat)) }
 mkE_ct:=by intro x k;simp only[GT.mkE_ct]
 mkE_idem:=by intro x k;simp only[GT.mkE_ct,GT.mkE_idem]
 zc:=[.int .i64 0,.int .i64 0,.bool false]
 zero _:=⟨rfl,zAg,zAg,rfl⟩
theorem Rv.openWindow{w:World}{v:Value}{x:Window}(h:Rv w v x):v = .agg #[.int .i64 x.Base,.int .i64 x.Size,.bool x.Write]/\rng x.Base/\rng x.Size:=by
 obtain⟨cs,F,rfl,rfl,r0,r1,rfl⟩:=h;exact⟨rfl,r0,r1⟩
theorem Rs.atWindow{w:World}{a:Option Addr}{n c:Nat}{xs:List Window}(h:Rs w (.slice a n c) xs)(k:Nat)(hk:k < xs.length) :
  ∃ b o x,a=some ⟨b,o,none⟩/\b < w.heap.size/\Hid (xs[k]? = some x)/\w.cell? ⟨b,o+k*3,none⟩=some (.int .i64 x.Base)/\w.cell? ⟨b,o+k*3+1,none⟩=some (.int .i64 x.Size)/\w.cell? ⟨b,o+k*3+2,none⟩=some (.bool x.Write)/\rng x.Base/\rng x.Size/\Hid (Rv w (.agg #[.int .i64 x.Base,.int .i64 x.Size,.bool x.Write]) x):=by
 obtain⟨b,o,cs,F,x,rfl,hb,hx,⟨rfl,r0,r1,rfl⟩,ha⟩:=h.at k hk;exact⟨b,o,x,rfl,hb,hx,by simpa [GT.sz] using ha 0 _ rfl,by simpa [GT.sz] using ha 1 _ rfl,by simpa [GT.sz] using ha 2 _ rfl,r0,r1,⟨_,_,rfl,rfl,r0,r1,rfl⟩⟩
structure Part where
 Windows:List Window
 Cells:Int
def Part.enc(w:World)(cs:List Value)(x:Part)(F:List Nat):Prop:=∃ v0,cs = [v0,.int .i64 x.Cells]/\Sl w v0 x.Windows F/\rng x.Cells
instance instGTPart:GT Part where
 default:=⟨[],0⟩
 sz:=2
 enc:=Part.enc
 pos:=by decide
 len:=by rintro w cs x F ⟨v0,rfl,h0,r1⟩;rfl
 one:=by
  rintro w cs x F ⟨v0,rfl,h0,r1⟩ u hu;simp only[List.mem_cons,List.not_mem_nil,or_false] at hu;rcases hu with rfl|rfl
  ·obtain⟨a,c,rfl,_⟩:=h0;rfl
  ·rfl
 inh:=by
  rintro w cs x F ⟨v0,rfl,h0,r1⟩ b hb;exact h0.inh b hb
 keep:=by
  rintro w w' cs x F ⟨v0,rfl,h0,r1⟩ hk;exact⟨v0,rfl,h0.keep hk,r1⟩
 tot x:=GT.tot x.Windows+GT.tot x.Cells
 ct x:=GT.ct x.Windows+GT.ct x.Cells
 mkE x k:={ Windows:=GT.mkE x.Windows (k),Cells:=GT.mkE x.Cells (k+(GT.ct x.Windows:Nat)) }
 mkE_ct:=by intro x k;simp only[GT.mkE_ct]
 mkE_idem:=by intro x k;simp only[GT.mkE_ct,GT.mkE_idem]
 zc:=[.slice none 0 0,.int .i64 0]
 zero _:=⟨_,rfl,⟨none,0,rfl,Nat.le_refl _,Nat.zero_le _,.inl ⟨rfl,rfl⟩⟩,zAg⟩
theorem Rv.openPart{w:World}{v:Value}{x:Part}(h:Rv w v x):∃ a0 c0,v = .agg #[.slice a0 x.Windows.length c0,.int .i64 x.Cells]/\rng x.Cells/\Hid (Rs w (.slice a0 x.Windows.length c0) x.Windows)/\x.Windows.length<=9223372036854775807:=by
 obtain⟨cs,F,rfl,v0,rfl,h0,r1⟩:=h;obtain⟨a0,c0,rfl,hl0⟩:=Rs.form ⟨_,h0⟩;exact⟨_,_,rfl,r1,⟨_,h0⟩,hl0⟩
theorem Rs.atPart{w:World}{a:Option Addr}{n c:Nat}{xs:List Part}(h:Rs w (.slice a n c) xs)(k:Nat)(hk:k < xs.length) :
  ∃ b o x a0 c0,a=some ⟨b,o,none⟩/\b < w.heap.size/\Hid (xs[k]? = some x)/\w.cell? ⟨b,o+k*2,none⟩=some (.slice a0 x.Windows.length c0)/\w.cell? ⟨b,o+k*2+1,none⟩=some (.int .i64 x.Cells)/\rng x.Cells/\Hid (Rs w (.slice a0 x.Windows.length c0) x.Windows)/\x.Windows.length<=9223372036854775807/\Hid (Rv w (.agg #[.slice a0 x.Windows.length c0,.int .i64 x.Cells]) x):=by
 obtain⟨b,o,cs,F,x,rfl,hb,hx,⟨v0,rfl,h0,r1⟩,ha⟩:=h.at k hk;obtain⟨a0,c0,rfl,hl0⟩:=Rs.form ⟨_,h0⟩;exact⟨b,o,x,a0,c0,rfl,hb,hx,by simpa [GT.sz] using ha 0 _ rfl,by simpa [GT.sz] using ha 1 _ rfl,r1,⟨_,h0⟩,hl0,⟨_,_,rfl,_,rfl,h0,r1⟩⟩
structure Channel where
 Kind:Int
 From:Int
 To:Int
 Size:Int
def Channel.enc(w:World)(cs:List Value)(x:Channel)(F:List Nat):Prop:=cs = [.int .i64 x.Kind,.int .i64 x.From,.int .i64 x.To,.int .i64 x.Size]/\rng x.Kind/\rng x.From/\rng x.To/\rng x.Size/\F = []
instance instGTChannel:GT Channel where
 default:=⟨0,0,0,0⟩
 sz:=4
 enc:=Channel.enc
 pos:=by decide
 len:=by rintro w cs x F ⟨rfl,r0,r1,r2,r3,rfl⟩;rfl
 one:=by
  rintro w cs x F ⟨rfl,r0,r1,r2,r3,rfl⟩ u hu;simp only[List.mem_cons,List.not_mem_nil,or_false] at hu;rcases hu with rfl|rfl|rfl|rfl
  iterate 4 (·rfl)
 inh:=by
  rintro w cs x F ⟨rfl,r0,r1,r2,r3,rfl⟩ b hb;cases hb
 keep:=by
  rintro w w' cs x F ⟨rfl,r0,r1,r2,r3,rfl⟩ hk;exact⟨rfl,r0,r1,r2,r3,rfl⟩
 tot x:=GT.tot x.Kind+GT.tot x.From+GT.tot x.To+GT.tot x.Size
 ct x:=GT.ct x.Kind+GT.ct x.From+GT.ct x.To+GT.ct x.Size
 mkE x k:={ Kind:=GT.mkE x.Kind (k),From:=GT.mkE x.From (k+(GT.ct x.Kind:Nat)),To:=GT.mkE x.To (k+(GT.ct x.Kind:Nat)+(GT.ct x.From:Nat)),Size:=GT.mkE x.Size (k+(GT.ct x.Kind:Nat)+(GT.ct x.From:Nat)+(GT.ct x.To:Nat)) }
 mkE_ct:=by intro x k;simp only[GT.mkE_ct]
 mkE_idem:=by intro x k;simp only[GT.mkE_ct,GT.mkE_idem]
 zc:=[.int .i64 0,.int .i64 0,.int .i64 0,.int .i64 0]
 zero _:=⟨rfl,zAg,zAg,zAg,zAg,rfl⟩
theorem Rv.openChannel{w:World}{v:Value}{x:Channel}(h:Rv w v x):v = .agg #[.int .i64 x.Kind,.int .i64 x.From,.int .i64 x.To,.int .i64 x.Size]/\rng x.Kind/\rng x.From/\rng x.To/\rng x.Size:=by
 obtain⟨cs,F,rfl,rfl,r0,r1,r2,r3,rfl⟩:=h;exact⟨rfl,r0,r1,r2,r3⟩
theorem Rs.atChannel{w:World}{a:Option Addr}{n c:Nat}{xs:List Channel}(h:Rs w (.slice a n c) xs)(k:Nat)(hk:k < xs.length) :
  ∃ b o x,a=some ⟨b,o,none⟩/\b < w.heap.size/\Hid (xs[k]? = some x)/\w.cell? ⟨b,o+k*4,none⟩=some (.int .i64 x.Kind)/\w.cell? ⟨b,o+k*4+1,none⟩=some (.int .i64 x.From)/\w.cell? ⟨b,o+k*4+2,none⟩=some (.int .i64 x.To)/\w.cell? ⟨b,o+k*4+3,none⟩=some (.int .i64 x.Size)/\rng x.Kind/\rng x.From/\rng x.To/\rng x.Size/\Hid (Rv w (.agg #[.int .i64 x.Kind,.int .i64 x.From,.int .i64 x.To,.int .i64 x.Size]) x):=by
 obtain⟨b,o,cs,F,x,rfl,hb,hx,⟨rfl,r0,r1,r2,r3,rfl⟩,ha⟩:=h.at k hk;exact⟨b,o,x,rfl,hb,hx,by simpa [GT.sz] using ha 0 _ rfl,by simpa [GT.sz] using ha 1 _ rfl,by simpa [GT.sz] using ha 2 _ rfl,by simpa [GT.sz] using ha 3 _ rfl,r0,r1,r2,r3,⟨_,_,rfl,rfl,r0,r1,r2,r3,rfl⟩⟩
structure Slot where
 Who:Int
 Ticks:Int
def Slot.enc(w:World)(cs:List Value)(x:Slot)(F:List Nat):Prop:=cs = [.int .i64 x.Who,.int .i64 x.Ticks]/\rng x.Who/\rng x.Ticks/\F = []
instance instGTSlot:GT Slot where
 default:=⟨0,0⟩
 sz:=2
 enc:=Slot.enc
 pos:=by decide
 len:=by rintro w cs x F ⟨rfl,r0,r1,rfl⟩;rfl
 one:=by
  rintro w cs x F ⟨rfl,r0,r1,rfl⟩ u hu;simp only[List.mem_cons,List.not_mem_nil,or_false] at hu;rcases hu with rfl|rfl
  iterate 2 (·rfl)
 inh:=by
  rintro w cs x F ⟨rfl,r0,r1,rfl⟩ b hb;cases hb
 keep:=by
  rintro w w' cs x F ⟨rfl,r0,r1,rfl⟩ hk;exact⟨rfl,r0,r1,rfl⟩
 tot x:=GT.tot x.Who+GT.tot x.Ticks
 ct x:=GT.ct x.Who+GT.ct x.Ticks
 mkE x k:={ Who:=GT.mkE x.Who (k),Ticks:=GT.mkE x.Ticks (k+(GT.ct x.Who:Nat)) }
 mkE_ct:=by intro x k;simp only[GT.mkE_ct]
 mkE_idem:=by intro x k;simp only[GT.mkE_ct,GT.mkE_idem]
 zc:=[.int .i64 0,.int .i64 0]
 zero _:=⟨rfl,zAg,zAg,rfl⟩
theorem Rv.openSlot{w:World}{v:Value}{x:Slot}(h:Rv w v x):v = .agg #[.int .i64 x.Who,.int .i64 x.Ticks]/\rng x.Who/\rng x.Ticks:=by
 obtain⟨cs,F,rfl,rfl,r0,r1,rfl⟩:=h;exact⟨rfl,r0,r1⟩
theorem Rs.atSlot{w:World}{a:Option Addr}{n c:Nat}{xs:List Slot}(h:Rs w (.slice a n c) xs)(k:Nat)(hk:k < xs.length) :
  ∃ b o x,a=some ⟨b,o,none⟩/\b < w.heap.size/\Hid (xs[k]? = some x)/\w.cell? ⟨b,o+k*2,none⟩=some (.int .i64 x.Who)/\w.cell? ⟨b,o+k*2+1,none⟩=some (.int .i64 x.Ticks)/\rng x.Who/\rng x.Ticks/\Hid (Rv w (.agg #[.int .i64 x.Who,.int .i64 x.Ticks]) x):=by
 obtain⟨b,o,cs,F,x,rfl,hb,hx,⟨rfl,r0,r1,rfl⟩,ha⟩:=h.at k hk;exact⟨b,o,x,rfl,hb,hx,by simpa [GT.sz] using ha 0 _ rfl,by simpa [GT.sz] using ha 1 _ rfl,r0,r1,⟨_,_,rfl,rfl,r0,r1,rfl⟩⟩
structure Setup where
 Parts:List Part
 Channels:List Channel
 Slots:List Slot
def Setup.enc(w:World)(cs:List Value)(x:Setup)(F:List Nat):Prop:=∃ v0 v1 v2 F0 F1 F2,cs = [v0,v1,v2]/\Sl w v0 x.Parts F0/\Sl w v1 x.Channels F1/\Sl w v2 x.Slots F2/\F=F0++(F1++F2)
instance instGTSetup:GT Setup where
 default:=⟨[],[],[]⟩
 sz:=3
 enc:=Setup.enc
 pos:=by decide
 len:=by rintro w cs x F ⟨v0,v1,v2,F0,F1,F2,rfl,h0,h1,h2,rfl⟩;rfl
 one:=by
  rintro w cs x F ⟨v0,v1,v2,F0,F1,F2,rfl,h0,h1,h2,rfl⟩ u hu;simp only[List.mem_cons,List.not_mem_nil,or_false] at hu;rcases hu with rfl|rfl|rfl
  ·obtain⟨a,c,rfl,_⟩:=h0;rfl
  ·obtain⟨a,c,rfl,_⟩:=h1;rfl
  ·obtain⟨a,c,rfl,_⟩:=h2;rfl
 inh:=by
  rintro w cs x F ⟨v0,v1,v2,F0,F1,F2,rfl,h0,h1,h2,rfl⟩ b hb;simp only[List.mem_append] at hb;rcases hb with hb|hb|hb
  ·exact h0.inh b hb
  ·exact h1.inh b hb
  ·exact h2.inh b hb
 keep:=by
  rintro w w' cs x F ⟨v0,v1,v2,F0,F1,F2,rfl,h0,h1,h2,rfl⟩ hk;exact⟨v0,v1,v2,F0,F1,F2,rfl,h0.keep (fun k hm=>hk k (by simp[hm])),h1.keep (fun k hm=>hk k (by simp[hm])),h2.keep (fun k hm=>hk k (by simp[hm])),rfl⟩
 tot x:=GT.tot x.Parts+GT.tot x.Channels+GT.tot x.Slots
 ct x:=GT.ct x.Parts+GT.ct x.Channels+GT.ct x.Slots
 mkE x k:={ Parts:=GT.mkE x.Parts (k),Channels:=GT.mkE x.Channels (k+(GT.ct x.Parts:Nat)),Slots:=GT.mkE x.Slots (k+(GT.ct x.Parts:Nat)+(GT.ct x.Channels:Nat)) }
 mkE_ct:=by intro x k;simp only[GT.mkE_ct]
 mkE_idem:=by intro x k;simp only[GT.mkE_ct,GT.mkE_idem]
 zc:=[.slice none 0 0,.slice none 0 0,.slice none 0 0]
 zero _:=⟨_,_,_,_,_,_,rfl,⟨none,0,rfl,Nat.le_refl _,Nat.zero_le _,.inl ⟨rfl,rfl⟩⟩,⟨none,0,rfl,Nat.le_refl _,Nat.zero_le _,.inl ⟨rfl,rfl⟩⟩,⟨none,0,rfl,Nat.le_refl _,Nat.zero_le _,.inl ⟨rfl,rfl⟩⟩,rfl⟩
theorem Rv.openSetup{w:World}{v:Value}{x:Setup}(h:Rv w v x):∃ a0 c0 a1 c1 a2 c2,v = .agg #[.slice a0 x.Parts.length c0,.slice a1 x.Channels.length c1,.slice a2 x.Slots.length c2]/\Hid (Rs w (.slice a0 x.Parts.length c0) x.Parts)/\x.Parts.length<=9223372036854775807/\Hid (Rs w (.slice a1 x.Channels.length c1) x.Channels)/\x.Channels.length<=9223372036854775807/\Hid (Rs w (.slice a2 x.Slots.length c2) x.Slots)/\x.Slots.length<=9223372036854775807:=by
 obtain⟨cs,F,rfl,v0,v1,v2,F0,F1,F2,rfl,h0,h1,h2,rfl⟩:=h;obtain⟨a0,c0,rfl,hl0⟩:=Rs.form ⟨_,h0⟩;obtain⟨a1,c1,rfl,hl1⟩:=Rs.form ⟨_,h1⟩;obtain⟨a2,c2,rfl,hl2⟩:=Rs.form ⟨_,h2⟩;exact⟨_,_,_,_,_,_,rfl,⟨_,h0⟩,hl0,⟨_,h1⟩,hl1,⟨_,h2⟩,hl2⟩
structure Order where
 Op:Int
 A:Int
 B:Int
def Order.enc(w:World)(cs:List Value)(x:Order)(F:List Nat):Prop:=cs = [.int .i64 x.Op,.int .i64 x.A,.int .i64 x.B]/\rng x.Op/\rng x.A/\rng x.B/\F = []
instance instGTOrder:GT Order where
 default:=⟨0,0,0⟩
 sz:=3
 enc:=Order.enc
 pos:=by decide
 len:=by rintro w cs x F ⟨rfl,r0,r1,r2,rfl⟩;rfl
 one:=by
  rintro w cs x F ⟨rfl,r0,r1,r2,rfl⟩ u hu;simp only[List.mem_cons,List.not_mem_nil,or_false] at hu;rcases hu with rfl|rfl|rfl
  iterate 3 (·rfl)
 inh:=by
  rintro w cs x F ⟨rfl,r0,r1,r2,rfl⟩ b hb;cases hb
 keep:=by
  rintro w w' cs x F ⟨rfl,r0,r1,r2,rfl⟩ hk;exact⟨rfl,r0,r1,r2,rfl⟩
 tot x:=GT.tot x.Op+GT.tot x.A+GT.tot x.B
 ct x:=GT.ct x.Op+GT.ct x.A+GT.ct x.B
 mkE x k:={ Op:=GT.mkE x.Op (k),A:=GT.mkE x.A (k+(GT.ct x.Op:Nat)),B:=GT.mkE x.B (k+(GT.ct x.Op:Nat)+(GT.ct x.A:Nat)) }
 mkE_ct:=by intro x k;simp only[GT.mkE_ct]
 mkE_idem:=by intro x k;simp only[GT.mkE_ct,GT.mkE_idem]
 zc:=[.int .i64 0,.int .i64 0,.int .i64 0]
 zero _:=⟨rfl,zAg,zAg,zAg,rfl⟩
theorem Rv.openOrder{w:World}{v:Value}{x:Order}(h:Rv w v x):v = .agg #[.int .i64 x.Op,.int .i64 x.A,.int .i64 x.B]/\rng x.Op/\rng x.A/\rng x.B:=by
 obtain⟨cs,F,rfl,rfl,r0,r1,r2,rfl⟩:=h;exact⟨rfl,r0,r1,r2⟩
theorem Rs.atOrder{w:World}{a:Option Addr}{n c:Nat}{xs:List Order}(h:Rs w (.slice a n c) xs)(k:Nat)(hk:k < xs.length) :
  ∃ b o x,a=some ⟨b,o,none⟩/\b < w.heap.size/\Hid (xs[k]? = some x)/\w.cell? ⟨b,o+k*3,none⟩=some (.int .i64 x.Op)/\w.cell? ⟨b,o+k*3+1,none⟩=some (.int .i64 x.A)/\w.cell? ⟨b,o+k*3+2,none⟩=some (.int .i64 x.B)/\rng x.Op/\rng x.A/\rng x.B/\Hid (Rv w (.agg #[.int .i64 x.Op,.int .i64 x.A,.int .i64 x.B]) x):=by
 obtain⟨b,o,cs,F,x,rfl,hb,hx,⟨rfl,r0,r1,r2,rfl⟩,ha⟩:=h.at k hk;exact⟨b,o,x,rfl,hb,hx,by simpa [GT.sz] using ha 0 _ rfl,by simpa [GT.sz] using ha 1 _ rfl,by simpa [GT.sz] using ha 2 _ rfl,r0,r1,r2,⟨_,_,rfl,rfl,r0,r1,r2,rfl⟩⟩
structure Core where
 Cells:List Int
 At:Int
 Stopped:Bool
def Core.enc(w:World)(cs:List Value)(x:Core)(F:List Nat):Prop:=∃ v0,cs = [v0,.int .i64 x.At,.bool x.Stopped]/\Sl w v0 x.Cells F/\rng x.At
instance instGTCore:GT Core where
 default:=⟨[],0,false⟩
 sz:=3
 enc:=Core.enc
 pos:=by decide
 len:=by rintro w cs x F ⟨v0,rfl,h0,r1⟩;rfl
 one:=by
  rintro w cs x F ⟨v0,rfl,h0,r1⟩ u hu;simp only[List.mem_cons,List.not_mem_nil,or_false] at hu;rcases hu with rfl|rfl|rfl
  ·obtain⟨a,c,rfl,_⟩:=h0;rfl
  iterate 2 (·rfl)
 inh:=by
  rintro w cs x F ⟨v0,rfl,h0,r1⟩ b hb;exact h0.inh b hb
 keep:=by
  rintro w w' cs x F ⟨v0,rfl,h0,r1⟩ hk;exact⟨v0,rfl,h0.keep hk,r1⟩
 tot x:=GT.tot x.Cells+GT.tot x.At+GT.tot x.Stopped
 ct x:=GT.ct x.Cells+GT.ct x.At+GT.ct x.Stopped
 mkE x k:={ Cells:=GT.mkE x.Cells (k),At:=GT.mkE x.At (k+(GT.ct x.Cells:Nat)),Stopped:=GT.mkE x.Stopped (k+(GT.ct x.Cells:Nat)+(GT.ct x.At:Nat)) }
 mkE_ct:=by intro x k;simp only[GT.mkE_ct]
 mkE_idem:=by intro x k;simp only[GT.mkE_ct,GT.mkE_idem]
 zc:=[.slice none 0 0,.int .i64 0,.bool false]
 zero _:=⟨_,rfl,⟨none,0,rfl,Nat.le_refl _,Nat.zero_le _,.inl ⟨rfl,rfl⟩⟩,zAg⟩
theorem Rv.openCore{w:World}{v:Value}{x:Core}(h:Rv w v x):∃ a0 c0,v = .agg #[.slice a0 x.Cells.length c0,.int .i64 x.At,.bool x.Stopped]/\rng x.At/\Hid (Rs w (.slice a0 x.Cells.length c0) x.Cells)/\x.Cells.length<=9223372036854775807:=by
 obtain⟨cs,F,rfl,v0,rfl,h0,r1⟩:=h;obtain⟨a0,c0,rfl,hl0⟩:=Rs.form ⟨_,h0⟩;exact⟨_,_,rfl,r1,⟨_,h0⟩,hl0⟩
theorem Rs.atCore{w:World}{a:Option Addr}{n c:Nat}{xs:List Core}(h:Rs w (.slice a n c) xs)(k:Nat)(hk:k < xs.length) :
  ∃ b o x a0 c0,a=some ⟨b,o,none⟩/\b < w.heap.size/\Hid (xs[k]? = some x)/\w.cell? ⟨b,o+k*3,none⟩=some (.slice a0 x.Cells.length c0)/\w.cell? ⟨b,o+k*3+1,none⟩=some (.int .i64 x.At)/\w.cell? ⟨b,o+k*3+2,none⟩=some (.bool x.Stopped)/\rng x.At/\Hid (Rs w (.slice a0 x.Cells.length c0) x.Cells)/\x.Cells.length<=9223372036854775807/\Hid (Rv w (.agg #[.slice a0 x.Cells.length c0,.int .i64 x.At,.bool x.Stopped]) x):=by
 obtain⟨b,o,cs,F,x,rfl,hb,hx,⟨v0,rfl,h0,r1⟩,ha⟩:=h.at k hk;obtain⟨a0,c0,rfl,hl0⟩:=Rs.form ⟨_,h0⟩;exact⟨b,o,x,a0,c0,rfl,hb,hx,by simpa [GT.sz] using ha 0 _ rfl,by simpa [GT.sz] using ha 1 _ rfl,by simpa [GT.sz] using ha 2 _ rfl,r1,⟨_,h0⟩,hl0,⟨_,_,rfl,_,rfl,h0,r1⟩⟩
structure Hold where
 Lst:List Int
def Hold.enc(w:World)(cs:List Value)(x:Hold)(F:List Nat):Prop:=∃ v0,cs = [v0]/\Sl w v0 x.Lst F
instance instGTHold:GT Hold where
 default:=⟨[]⟩
 sz:=1
 enc:=Hold.enc
 pos:=by decide
 len:=by rintro w cs x F ⟨v0,rfl,h0⟩;rfl
 one:=by
  rintro w cs x F ⟨v0,rfl,h0⟩ u hu;simp only[List.mem_cons,List.not_mem_nil,or_false] at hu;obtain rfl:=hu;·obtain⟨a,c,rfl,_⟩:=h0;rfl
 inh:=by
  rintro w cs x F ⟨v0,rfl,h0⟩ b hb;exact h0.inh b hb
 keep:=by
  rintro w w' cs x F ⟨v0,rfl,h0⟩ hk;exact⟨v0,rfl,h0.keep hk⟩
 tot x:=GT.tot x.Lst
 ct x:=GT.ct x.Lst
 mkE x k:={ Lst:=GT.mkE x.Lst (k) }
 mkE_ct:=by intro x k;simp only[GT.mkE_ct]
 mkE_idem:=by intro x k;simp only[GT.mkE_ct,GT.mkE_idem]
 zc:=[.slice none 0 0]
 zero _:=⟨_,rfl,⟨none,0,rfl,Nat.le_refl _,Nat.zero_le _,.inl ⟨rfl,rfl⟩⟩⟩
theorem Rv.openHold{w:World}{v:Value}{x:Hold}(h:Rv w v x):∃ a0 c0,v = .agg #[.slice a0 x.Lst.length c0]/\Hid (Rs w (.slice a0 x.Lst.length c0) x.Lst)/\x.Lst.length<=9223372036854775807:=by
 obtain⟨cs,F,rfl,v0,rfl,h0⟩:=h;obtain⟨a0,c0,rfl,hl0⟩:=Rs.form ⟨_,h0⟩;exact⟨_,_,rfl,⟨_,h0⟩,hl0⟩
theorem Rs.atHold{w:World}{a:Option Addr}{n c:Nat}{xs:List Hold}(h:Rs w (.slice a n c) xs)(k:Nat)(hk:k < xs.length) :
  ∃ b o x a0 c0,a=some ⟨b,o,none⟩/\b < w.heap.size/\Hid (xs[k]? = some x)/\w.cell? ⟨b,o+k,none⟩=some (.slice a0 x.Lst.length c0)/\Hid (Rs w (.slice a0 x.Lst.length c0) x.Lst)/\x.Lst.length<=9223372036854775807/\Hid (Rv w (.agg #[.slice a0 x.Lst.length c0]) x):=by
 obtain⟨b,o,cs,F,x,rfl,hb,hx,⟨v0,rfl,h0⟩,ha⟩:=h.at k hk;obtain⟨a0,c0,rfl,hl0⟩:=Rs.form ⟨_,h0⟩;exact⟨b,o,x,a0,c0,rfl,hb,hx,by simpa [GT.sz] using ha 0 _ rfl,⟨_,h0⟩,hl0,⟨_,_,rfl,_,rfl,h0⟩⟩
structure Machine where
 Plan:Setup
 Programs:List (List Order)
 Cores:List Core
 Holds:List Hold
 Tick:Int
def Machine.enc(w:World)(cs:List Value)(x:Machine)(F:List Nat):Prop:=∃ v0 v1 v2 v3 v4 v5 F0 F1 F2 F3 F4 F5,cs = [v0,v1,v2,v3,v4,v5,.int .i64 x.Tick]/\Sl w v0 x.Plan.Parts F0/\Sl w v1 x.Plan.Channels F1/\Sl w v2 x.Plan.Slots F2/\Sl w v3 x.Programs F3/\Sl w v4 x.Cores F4/\Sl w v5 x.Holds F5/\rng x.Tick/\F=F0++(F1++(F2++(F3++(F4++F5))))
instance instGTMachine:GT Machine where
 default:=⟨⟨[],[],[]⟩,[],[],[],0⟩
 sz:=7
 enc:=Machine.enc
 pos:=by decide
 len:=by rintro w cs x F ⟨v0,v1,v2,v3,v4,v5,F0,F1,F2,F3,F4,F5,rfl,h0,h1,h2,h3,h4,h5,r6,rfl⟩;rfl
 one:=by
  rintro w cs x F ⟨v0,v1,v2,v3,v4,v5,F0,F1,F2,F3,F4,F5,rfl,h0,h1,h2,h3,h4,h5,r6,rfl⟩ u hu;simp only[List.mem_cons,List.not_mem_nil,or_false] at hu;rcases hu with rfl|rfl|rfl|rfl|rfl|rfl|rfl
  ·obtain⟨a,c,rfl,_⟩:=h0;rfl
  ·obtain⟨a,c,rfl,_⟩:=h1;rfl
  ·obtain⟨a,c,rfl,_⟩:=h2;rfl
  ·obtain⟨a,c,rfl,_⟩:=h3;rfl
  ·obtain⟨a,c,rfl,_⟩:=h4;rfl
  ·obtain⟨a,c,rfl,_⟩:=h5;rfl
  ·rfl
 inh:=by
  rintro w cs x F ⟨v0,v1,v2,v3,v4,v5,F0,F1,F2,F3,F4,F5,rfl,h0,h1,h2,h3,h4,h5,r6,rfl⟩ b hb;simp only[List.mem_append] at hb;rcases hb with hb|hb|hb|hb|hb|hb
  ·exact h0.inh b hb
  ·exact h1.inh b hb
  ·exact h2.inh b hb
  ·exact h3.inh b hb
  ·exact h4.inh b hb
  ·exact h5.inh b hb
 keep:=by
  rintro w w' cs x F ⟨v0,v1,v2,v3,v4,v5,F0,F1,F2,F3,F4,F5,rfl,h0,h1,h2,h3,h4,h5,r6,rfl⟩ hk;exact⟨v0,v1,v2,v3,v4,v5,F0,F1,F2,F3,F4,F5,rfl,h0.keep (fun k hm=>hk k (by simp[hm])),h1.keep (fun k hm=>hk k (by simp[hm])),h2.keep (fun k hm=>hk k (by simp[hm])),h3.keep (fun k hm=>hk k (by simp[hm])),h4.keep (fun k hm=>hk k (by simp[hm])),h5.keep (fun k hm=>hk k (by simp[hm])),r6,rfl⟩
 tot x:=GT.tot x.Plan+GT.tot x.Programs+GT.tot x.Cores+GT.tot x.Holds+GT.tot x.Tick
 ct x:=GT.ct x.Plan+GT.ct x.Programs+GT.ct x.Cores+GT.ct x.Holds+GT.ct x.Tick
 mkE x k:={ Plan:=GT.mkE x.Plan (k),Programs:=GT.mkE x.Programs (k+(GT.ct x.Plan:Nat)),Cores:=GT.mkE x.Cores (k+(GT.ct x.Plan:Nat)+(GT.ct x.Programs:Nat)),Holds:=GT.mkE x.Holds (k+(GT.ct x.Plan:Nat)+(GT.ct x.Programs:Nat)+(GT.ct x.Cores:Nat)),Tick:=GT.mkE x.Tick (k+(GT.ct x.Plan:Nat)+(GT.ct x.Programs:Nat)+(GT.ct x.Cores:Nat)+(GT.ct x.Holds:Nat)) }
 mkE_ct:=by intro x k;simp only[GT.mkE_ct]
 mkE_idem:=by intro x k;simp only[GT.mkE_ct,GT.mkE_idem]
 zc:=[.slice none 0 0,.slice none 0 0,.slice none 0 0,.slice none 0 0,.slice none 0 0,.slice none 0 0,.int .i64 0]
 zero _:=⟨_,_,_,_,_,_,_,_,_,_,_,_,rfl,⟨none,0,rfl,Nat.le_refl _,Nat.zero_le _,.inl ⟨rfl,rfl⟩⟩,⟨none,0,rfl,Nat.le_refl _,Nat.zero_le _,.inl ⟨rfl,rfl⟩⟩,⟨none,0,rfl,Nat.le_refl _,Nat.zero_le _,.inl ⟨rfl,rfl⟩⟩,⟨none,0,rfl,Nat.le_refl _,Nat.zero_le _,.inl ⟨rfl,rfl⟩⟩,⟨none,0,rfl,Nat.le_refl _,Nat.zero_le _,.inl ⟨rfl,rfl⟩⟩,⟨none,0,rfl,Nat.le_refl _,Nat.zero_le _,.inl ⟨rfl,rfl⟩⟩,zAg,rfl⟩
theorem Rv.openMachine{w:World}{v:Value}{x:Machine}(h:Rv w v x):∃ a0 c0 a1 c1 a2 c2 a3 c3 a4 c4 a5 c5,v = .agg #[.slice a0 x.Plan.Parts.length c0,.slice a1 x.Plan.Channels.length c1,.slice a2 x.Plan.Slots.length c2,.slice a3 x.Programs.length c3,.slice a4 x.Cores.length c4,.slice a5 x.Holds.length c5,.int .i64 x.Tick]/\rng x.Tick/\Hid (Rs w (.slice a0 x.Plan.Parts.length c0) x.Plan.Parts)/\x.Plan.Parts.length<=9223372036854775807/\Hid (Rs w (.slice a1 x.Plan.Channels.length c1) x.Plan.Channels)/\x.Plan.Channels.length<=9223372036854775807/\Hid (Rs w (.slice a2 x.Plan.Slots.length c2) x.Plan.Slots)/\x.Plan.Slots.length<=9223372036854775807/\Hid (Rs w (.slice a3 x.Programs.length c3) x.Programs)/\x.Programs.length<=9223372036854775807/\Hid (Rs w (.slice a4 x.Cores.length c4) x.Cores)/\x.Cores.length<=9223372036854775807/\Hid (Rs w (.slice a5 x.Holds.length c5) x.Holds)/\x.Holds.length<=9223372036854775807:=by
 obtain⟨cs,F,rfl,v0,v1,v2,v3,v4,v5,F0,F1,F2,F3,F4,F5,rfl,h0,h1,h2,h3,h4,h5,r6,rfl⟩:=h;obtain⟨a0,c0,rfl,hl0⟩:=Rs.form ⟨_,h0⟩;obtain⟨a1,c1,rfl,hl1⟩:=Rs.form ⟨_,h1⟩;obtain⟨a2,c2,rfl,hl2⟩:=Rs.form ⟨_,h2⟩;obtain⟨a3,c3,rfl,hl3⟩:=Rs.form ⟨_,h3⟩;obtain⟨a4,c4,rfl,hl4⟩:=Rs.form ⟨_,h4⟩;obtain⟨a5,c5,rfl,hl5⟩:=Rs.form ⟨_,h5⟩;exact⟨_,_,_,_,_,_,_,_,_,_,_,_,rfl,r6,⟨_,h0⟩,hl0,⟨_,h1⟩,hl1,⟨_,h2⟩,hl2,⟨_,h3⟩,hl3,⟨_,h4⟩,hl4,⟨_,h5⟩,hl5⟩
end Sk
