/- Contracts of functions of the given program. -/
import Derived.Lib.SliceRun
import Derived.Test.YtidkncgejgngcaaChan
namespace Sk
open Go Go.Proofs Go.RowKit
set_option maxHeartbeats 400000
set_option maxRecDepth 100000
set_option linter.unusedVariables false
set_option linter.unusedSimpArgs false
theorem zEt:El Try.prog 3 Int:=El.of (z:=.int .i64 0) (n:=1) (b:=8) (by kernel_rfl) rfl rfl (by decide)
theorem zAm{s:Setup}(h:zAq s=true):s.Parts.length<=5:=by
 simp only[zAq,zD5,Bool.and_eq_true,decide_eq_true_eq] at h;exact h.1.1
theorem zBc{s:Setup}(h:zAq s=true):s.Channels.length<=8:=by
 simp only[zAq,zCt,Bool.and_eq_true,decide_eq_true_eq] at h;exact h.2.1.2.1
theorem zGo{s:Setup}(h:zAq s=true):s.Slots.length<=12:=by
 simp only[zAq,zC6,Bool.and_eq_true,zA5] at h;omega
theorem M.setv_who{s:Setup}(h:zAq s=true){x:Slot}(hx:x∈s.Slots) : -1<=x.Who/\x.Who<=5:=by
 have hp:=zAm h;simp only[zAq,zC6,Bool.and_eq_true,List.all_eq_true,zCg,zA5] at h
 have:=h.2.2.2.2 x hx;omega
theorem zI4{s:Setup}(h:zAq s=true){x:Part}(hx:x∈s.Parts):zDu x.Windows=true/\zA6 x.Cells 1 8=true:=by
 simp only[zAq,zD5,Bool.and_eq_true,List.all_eq_true] at h
 have:=h.1.2 x hx
 simpa only[zC3,Bool.and_eq_true] using this
theorem zI3{s:Setup}(h:zAq s=true){k:Nat}{x:Part}(hx:s.Parts[k]? = some x):x.Windows.length<=12:=by
 have:=(zI4 h (List.mem_of_getElem? hx)).1
 simp only[zDu,Bool.and_eq_true,decide_eq_true_eq] at this;exact this.1
def Ov{α:Type}[GT α](L:Nat)(w:World)(v:Value)(x : α):Prop:=∃ cs F,v = .agg cs.toArray/\GT.enc w cs x F/\Own L w F
theorem Ov.rv{α:Type}[GT α]{L:Nat}{w:World}{v:Value}{x : α}(h:Ov L w v x):Rv w v x:=by obtain⟨cs,F,h1,h2,_⟩:=h;exact⟨cs,F,h1,h2⟩
theorem Ov.mono{α:Type}[GT α]{L L':Nat}{w:World}{v:Value}{x : α}(h:Ov L w v x)(hl:L'<=L):Ov L' w v x:=by
 obtain⟨cs,F,h1,h2,h3⟩:=h;exact⟨cs,F,h1,h2,h3.mono hl⟩
def Hi(n:Nat)(w w':World):Prop:=w'.heap.size=w.heap.size/\∀ b,n<=b->w'.heap[b]? = w.heap[b]?
theorem Hi.refl(n:Nat)(w:World):Hi n w w:=⟨rfl,fun _ _=>rfl⟩
theorem Hi.set{n:Nat}{w w':World}(h:Hi n w w'){p:Addr}(hp:p.block < n)(u:Value):Hi n w (w'.setCell p u) :=
 ⟨by rw[<- h.1];simp,fun b hb=>by rw[zA3 (by omega)];exact h.2 b hb⟩
def Seg(L M:Nat)(w:World)(F:List Nat):Prop:=Own L w F/\(∀ b∈F,b < M)/\L<=M
theorem Seg.hi{L M n:Nat}{w w':World}{F:List Nat}(h:Seg L M w F)(he:Hi n w w')(hn:n<=L):Seg L M w' F :=
 ⟨⟨h.1.1,fun b hb=>⟨(h.1.2 b hb).1,by
  obtain⟨cs,T,hk⟩:=(h.1.2 b hb).2;refine⟨cs,T,?_⟩;unfold Bk at *;rw[he.2 b (Nat.le_trans hn (h.1.2 b hb).1)];exact hk⟩⟩,h.2⟩
theorem Seg.wide{L M L' M':Nat}{w:World}{F:List Nat}(h:Seg L M w F)(hl:L'<=L)(hm:M<=M'):Seg L' M' w F :=
 ⟨h.1.mono hl,fun b hb=>zl (h.2.1 b hb) hm,Nat.le_trans hl (Nat.le_trans h.2.2 hm)⟩
def Oe{α:Type}[GT α](L M:Nat)(w:World)(cs:List Value)(x : α):Prop:=∃ F,GT.enc w cs x F/\Seg L M w F
theorem Oe.hi{α:Type}[GT α]{L M n:Nat}{w w':World}{cs:List Value}{x : α}(h:Oe L M w cs x)(he:Hi n w w')(hn:n<=L):Oe L M w' cs x:=by
 obtain⟨F,h,o⟩:=h;exact⟨F,GT.keep h (fun b hb=>he.2 b (Nat.le_trans hn (o.1.2 b hb).1)),o.hi he hn⟩
theorem Oe.wide{α:Type}[GT α]{L M L' M':Nat}{w:World}{cs:List Value}{x : α}(h:Oe L M w cs x)(hl:L'<=L)(hm:M<=M'):Oe L' M' w cs x:=by
 obtain⟨F,h,o⟩:=h;exact⟨F,h,o.wide hl hm⟩
theorem Oe.ofS{α:Type}[GT α]{L L':Nat}{w:World}{v:Value}{xs:List α}(h:Os L w v xs)(hl:L'<=L)(hl2:L'<=w.heap.size):Oe L' w.heap.size w [v] xs:=by
 obtain⟨F,h,o⟩:=h;exact⟨F,⟨v,rfl,h⟩,o.mono hl,h.inh,hl2⟩
theorem Oe.ov{α:Type}[GT α]{L M:Nat}{w:World}{cs:List Value}{x : α}(h:Oe L M w cs x):Ov L w (.agg cs.toArray) x:=by
 obtain⟨F,h,o⟩:=h;exact⟨cs,F,rfl,h,o.1⟩
theorem Bk.new1(w:World)(A:Obj)(cs:List Value)(T:TypeId):Bk ((w.alloc A).alloc (.cells cs.toArray T (0,0))) (w.heap.size+1) cs T:=by
 have h:=Bk.new (w.alloc A) cs T
 rwa [show(w.alloc A).heap.size=w.heap.size+1 by simp] at h
theorem Bk.new2(w:World)(A B:Obj)(cs:List Value)(T:TypeId):Bk (((w.alloc A).alloc B).alloc (.cells cs.toArray T (0,0))) (w.heap.size+1+1) cs T:=by
 have h:=Bk.new ((w.alloc A).alloc B) cs T
 rwa [show((w.alloc A).alloc B).heap.size=w.heap.size+1+1 by simp] at h
theorem Rv.mkSetup{w:World}{x:Setup}{v0 v1 v2:Value}(h0:Rs w v0 x.Parts)(h1:Rs w v1 x.Channels)(h2:Rs w v2 x.Slots)  : Rv w (.agg #[v0,v1,v2]) x:=by
 obtain⟨F0,h0⟩:=h0;obtain⟨F1,h1⟩:=h1;obtain⟨F2,h2⟩:=h2;exact⟨_,_,rfl,_,_,_,_,_,_,rfl,h0,h1,h2,rfl⟩
theorem Oe.mkCore{w:World}{x:Core}{v0:Value}{M0 M1:Nat}(p0:Oe M0 M1 w [v0] x.Cells)(r1:rng x.At):Oe M0 M1 w [v0,.int .i64 x.At,.bool x.Stopped] x:=by
 obtain⟨F0,⟨u0,e0,h0⟩,s0⟩:=p0;obtain rfl:v0=u0:=by simpa using e0
 have s:=s0;refine⟨_,⟨_,rfl,h0,r1⟩,?_⟩;exact s
theorem Oe.mkHold{w:World}{x:Hold}{v0:Value}{M0 M1:Nat}(p0:Oe M0 M1 w [v0] x.Lst):Oe M0 M1 w [v0] x:=by
 obtain⟨F0,⟨u0,e0,h0⟩,s0⟩:=p0;obtain rfl:v0=u0:=by simpa using e0
 have s:=s0;refine⟨_,⟨_,rfl,h0⟩,?_⟩;exact s
theorem Rv.mkMachine{w:World}{x:Machine}{v0 v1 v2 v3 v4 v5:Value}(h0:Rs w v0 x.Plan.Parts)(h1:Rs w v1 x.Plan.Channels)(h2:Rs w v2 x.Plan.Slots)(h3:Rs w v3 x.Programs)(h4:Rs w v4 x.Cores)(h5:Rs w v5 x.Holds)(r6:rng x.Tick):Rv w (.agg #[v0,v1,v2,v3,v4,v5,.int .i64 x.Tick]) x:=by
 obtain⟨F0,h0⟩:=h0;obtain⟨F1,h1⟩:=h1;obtain⟨F2,h2⟩:=h2;obtain⟨F3,h3⟩:=h3;obtain⟨F4,h4⟩:=h4;obtain⟨F5,h5⟩:=h5;exact⟨_,_,rfl,_,_,_,_,_,_,_,_,_,_,_,_,rfl,h0,h1,h2,h3,h4,h5,r6,rfl⟩
theorem zHg:(Try.prog.info? 39).map (fun i=>(i.zero,i.size,i.bytes))=some (some (.agg #[.bool false,.int .i64 0]),2,16):=by kernel_rfl
theorem zJ5:(Try.prog.info? 68).map (fun i=>(i.zero,i.size,i.bytes))=some (some (.agg #[.slice none 0 0]),1,24):=by kernel_rfl
def Mo(F:List Nat)(w w':World):Prop :=
 w'.heap.size=w.heap.size/\Ext {w with heap:=#[]} {w' with heap:=#[]} /\ (∀ b,b ∉ F->w'.heap[b]? = w.heap[b]?)/\∀ b,Fz w b->Fz w' b
theorem Mo.refl(F:List Nat)(w:World):Mo F w w:=⟨rfl,zr _,fun _ _=>rfl,fun _ h=>h⟩
theorem Mo.set{F:List Nat}{a b:World}(h:Mo F a b){p:Addr}(hp:p.block∈F)(u:Value):Mo F a (b.setCell p u):=by
 refine⟨by rw[<- h.1];simp,?_,fun x hx=>?_,fun x hx=>(h.2.2.2 x hx).set p u⟩
 ·obtain⟨h1,h2,h3,h4,h5⟩:=h.2.1;exact⟨h1,h2,h3,h4,h5⟩
 ·rw[zA3 (fun e=>hx (by rw[e];exact hp))];exact h.2.2.1 x hx
theorem Mo.own{F G:List Nat}{L:Nat}{a b:World}(h:Mo F a b)(ho:Own L a G):Own L b G:=⟨ho.1,fun x hx=>⟨(ho.2 x hx).1,h.2.2.2 x (ho.2 x hx).2⟩⟩
def Mx(F:List Nat)(w w':World):Prop :=
 Ext {w with heap:=#[]} {w' with heap:=#[]} /\ w.heap.size<=w'.heap.size/\(∀ b,b < w.heap.size->b ∉ F->w'.heap[b]? = w.heap[b]?)/\∀ b,Fz w b->Fz w' b
theorem Mx.ofMo{F:List Nat}{w w':World}(h:Mo F w w'):Mx F w w':=⟨h.2.1,Nat.le_of_eq h.1.symm,fun b _ hn=>h.2.2.1 b hn,h.2.2.2⟩
theorem Mx.bk{F:List Nat}{a b:World}{p:Nat}{cs:List Value}{T:TypeId}(h:Mx F a b)(k:Bk a p cs T)(hp:p ∉ F):Bk b p cs T:=by
 have:=h.2.2.1 p k.lt hp
 unfold Bk at *;rw[this];exact k
theorem zHs:El Try.prog 50 Window:=El.of (z:=.agg #[.int .i64 0,.int .i64 0,.bool false]) (n:=3) (b:=24) (by kernel_rfl) rfl rfl (by decide)
theorem elPart:El Try.prog 66 Part:=El.of (z:=.agg #[.slice none 0 0,.int .i64 0]) (n:=2) (b:=32) (by kernel_rfl) rfl rfl (by decide)
theorem zGy:El Try.prog 70 Channel:=El.of (z:=.agg #[.int .i64 0,.int .i64 0,.int .i64 0,.int .i64 0]) (n:=4) (b:=32) (by kernel_rfl) rfl rfl (by decide)
theorem elSlot:El Try.prog 103 Slot:=El.of (z:=.agg #[.int .i64 0,.int .i64 0]) (n:=2) (b:=16) (by kernel_rfl) rfl rfl (by decide)
theorem zJ1:El Try.prog 97 Order:=El.of (z:=.agg #[.int .i64 0,.int .i64 0,.int .i64 0]) (n:=3) (b:=24) (by kernel_rfl) rfl rfl (by decide)
theorem zHr:El Try.prog 64 (List Order):=El.of (z:=.slice none 0 0) (n:=1) (b:=24) (by kernel_rfl) rfl rfl (by decide)
theorem elCore:El Try.prog 57 Core:=El.of (z:=.agg #[.slice none 0 0,.int .i64 0,.bool false]) (n:=3) (b:=40) (by kernel_rfl) rfl rfl (by decide)
theorem elHold:El Try.prog 68 Hold:=El.of (z:=.agg #[.slice none 0 0]) (n:=1) (b:=24) (by kernel_rfl) rfl rfl (by decide)
theorem zHq:El Try.prog 39 Health:=El.of (z:=.agg #[.bool false,.int .i64 0]) (n:=2) (b:=16) (by kernel_rfl) rfl rfl (by decide)
theorem Os.mono{α:Type}[GT α]{L L':Nat}{w:World}{v:Value}{xs:List α}(h:Os L w v xs)(hl:L'<=L):Os L' w v xs:=by
 obtain⟨F,h,o⟩:=h;exact⟨F,h,o.mono hl⟩
end Sk
