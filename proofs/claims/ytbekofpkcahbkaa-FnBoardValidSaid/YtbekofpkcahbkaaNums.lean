/- Contracts of functions of the given program. -/
import Derived.Lib.SliceRun
import Derived.Test.YtbekofpkcahbkaaChan
namespace Sk
open Go Go.Proofs Go.RowKit
set_option maxHeartbeats 400000
set_option maxRecDepth 100000
set_option linter.unusedVariables false
set_option linter.unusedSimpArgs false
theorem zEs:El Try.prog 3 Int:=El.of (z:=.int .i64 0) (n:=1) (b:=8) (by kernel_rfl) rfl rfl (by decide)
theorem zAs{s:Setup}(h:zAr s=true):s.Parts.length<=5:=by
 simp only[zAr,zD7,Bool.and_eq_true,decide_eq_true_eq] at h;exact h.1.1
theorem zBh{s:Setup}(h:zAr s=true):s.Channels.length<=8:=by
 simp only[zAr,zCx,Bool.and_eq_true,decide_eq_true_eq] at h;exact h.2.1.2.1
theorem zGq{s:Setup}(h:zAr s=true):s.Slots.length<=12:=by
 simp only[zAr,zCa,Bool.and_eq_true,zA4] at h;omega
theorem M.setv_who{s:Setup}(h:zAr s=true){x:Slot}(hx:x∈s.Slots) : -1<=x.Who/\x.Who<=5:=by
 have hp:=zAs h;simp only[zAr,zCa,Bool.and_eq_true,List.all_eq_true,zCl,zA4] at h
 have:=h.2.2.2.2 x hx;omega
theorem zFw{s:Setup}(h:zAr s=true){x:Part}(hx:x∈s.Parts):zDv x.Windows=true/\zA5 x.Cells 1 8=true:=by
 simp only[zAr,zD7,Bool.and_eq_true,List.all_eq_true] at h
 have:=h.1.2 x hx
 simpa only[zC7,Bool.and_eq_true] using this
theorem zIc{s:Setup}(h:zAr s=true){k:Nat}{x:Part}(hx:s.Parts[k]? = some x):x.Windows.length<=12:=by
 have:=(zFw h (List.mem_of_getElem? hx)).1
 simp only[zDv,Bool.and_eq_true,decide_eq_true_eq] at this;exact this.1
def Ov{α:Type}[GT α](L:Nat)(w:World)(v:Value)(x : α):Prop:=∃ cs F,v = .agg cs.toArray/\GT.enc w cs x F/\Own L w F
theorem Ov.rv{α:Type}[GT α]{L:Nat}{w:World}{v:Value}{x : α}(h:Ov L w v x):Rv w v x:=by obtain⟨cs,F,h1,h2,_⟩:=h;exact⟨cs,F,h1,h2⟩
theorem Ov.mono{α:Type}[GT α]{L L':Nat}{w:World}{v:Value}{x : α}(h:Ov L w v x)(hl:L'<=L):Ov L' w v x:=by
 obtain⟨cs,F,h1,h2,h3⟩:=h;exact⟨cs,F,h1,h2,h3.mono hl⟩
def Hi(n:Nat)(w w':World):Prop:=w'.heap.size=w.heap.size/\∀ b,n<=b->w'.heap[b]? = w.heap[b]?
theorem Hi.refl(n:Nat)(w:World):Hi n w w:=⟨rfl,fun _ _=>rfl⟩
theorem Hi.set{n:Nat}{w w':World}(h:Hi n w w'){p:Addr}(hp:p.block < n)(u:Value):Hi n w (w'.setCell p u) :=
 ⟨by rw[<- h.1];simp,fun b hb=>by rw[zA3 (by omega)];exact h.2 b hb⟩
def Seg(L M:Nat)(w:World)(F:List Nat):Prop:=Own L w F/\(∀ b∈F,b < M)/\L<=M
theorem Seg.hi{L M n:Nat}{w w':World}{F:List Nat}(h:Seg L M w F)(he:Hi n w w')(hn:n<=L):Seg L M w' F :=
 ⟨⟨h.1.1,fun b hb=>⟨(h.1.2 b hb).1,by
  obtain⟨cs,T,hk⟩:=(h.1.2 b hb).2;refine⟨cs,T,?_⟩;unfold Bk at *;rw[he.2 b (Nat.le_trans hn (h.1.2 b hb).1)];exact hk⟩⟩,h.2⟩
theorem Seg.wide{L M L' M':Nat}{w:World}{F:List Nat}(h:Seg L M w F)(hl:L'<=L)(hm:M<=M'):Seg L' M' w F :=
 ⟨h.1.mono hl,fun b hb=>zl (h.2.1 b hb) hm,Nat.le_trans hl (Nat.le_trans h.2.2 hm)⟩
def Oe{α:Type}[GT α](L M:Nat)(w:World)(cs:List Value)(x : α):Prop:=∃ F,GT.enc w cs x F/\Seg L M w F
theorem Oe.hi{α:Type}[GT α]{L M n:Nat}{w w':World}{cs:List Value}{x : α}(h:Oe L M w cs x)(he:Hi n w w')(hn:n<=L):Oe L M w' cs x:=by
 obtain⟨F,h,o⟩:=h;exact⟨F,GT.keep h (fun b hb=>he.2 b (Nat.le_trans hn (o.1.2 b hb).1)),o.hi he hn⟩
theorem Oe.wide{α:Type}[GT α]{L M L' M':Nat}{w:World}{cs:List Value}{x : α}(h:Oe L M w cs x)(hl:L'<=L)(hm:M<=M'):Oe L' M' w cs x:=by
 obtain⟨F,h,o⟩:=h;exact⟨F,h,o.wide hl hm⟩
theorem Oe.ofS{α:Type}[GT α]{L L':Nat}{w:World}{v:Value}{xs:List α}(h:Os L w v xs)(hl:L'<=L)(hl2:L'<=w.heap.size):Oe L' w.heap.size w [v] xs:=by
 obtain⟨F,h,o⟩:=h;exact⟨F,⟨v,rfl,h⟩,o.mono hl,h.inh,hl2⟩
theorem Oe.ov{α:Type}[GT α]{L M:Nat}{w:World}{cs:List Value}{x : α}(h:Oe L M w cs x):Ov L w (.agg cs.toArray) x:=by
 obtain⟨F,h,o⟩:=h;exact⟨cs,F,rfl,h,o.1⟩
theorem Bk.new1(w:World)(A:Obj)(cs:List Value)(T:TypeId):Bk ((w.alloc A).alloc (.cells cs.toArray T (0,0))) (w.heap.size+1) cs T:=by
 have h:=Bk.new (w.alloc A) cs T
 rwa [show(w.alloc A).heap.size=w.heap.size+1 by simp] at h
theorem Bk.new2(w:World)(A B:Obj)(cs:List Value)(T:TypeId):Bk (((w.alloc A).alloc B).alloc (.cells cs.toArray T (0,0))) (w.heap.size+1+1) cs T:=by
 have h:=Bk.new ((w.alloc A).alloc B) cs T
 rwa [show((w.alloc A).alloc B).heap.size=w.heap.size+1+1 by simp] at h
theorem Rv.mkSetup{w:World}{x:Setup}{v0 v1 v2:Value}(h0:Rs w v0 x.Parts)(h1:Rs w v1 x.Channels)(h2:Rs w v2 x.Slots)  : Rv w (.agg #[v0,v1,v2]) x:=by
 obtain⟨F0,h0⟩:=h0;obtain⟨F1,h1⟩:=h1;obtain⟨F2,h2⟩:=h2;exact⟨_,_,rfl,_,_,_,_,_,_,rfl,h0,h1,h2,rfl⟩
theorem Oe.mkCore{w:World}{x:Core}{v0:Value}{M0 M1:Nat}(p0:Oe M0 M1 w [v0] x.Cells)(r1:rng x.At):Oe M0 M1 w [v0,.int .i64 x.At,.bool x.Stopped] x:=by
 obtain⟨F0,⟨u0,e0,h0⟩,s0⟩:=p0;obtain rfl:v0=u0:=by simpa using e0
 have s:=s0;refine⟨_,⟨_,rfl,h0,r1⟩,?_⟩;exact s
theorem Oe.mkHold{w:World}{x:Hold}{v0:Value}{M0 M1:Nat}(p0:Oe M0 M1 w [v0] x.Lst):Oe M0 M1 w [v0] x:=by
 obtain⟨F0,⟨u0,e0,h0⟩,s0⟩:=p0;obtain rfl:v0=u0:=by simpa using e0
 have s:=s0;refine⟨_,⟨_,rfl,h0⟩,?_⟩;exact s
theorem Rv.mkMachine{w:World}{x:Machine}{v0 v1 v2 v3 v4 v5:Value}(h0:Rs w v0 x.Plan.Parts)(h1:Rs w v1 x.Plan.Channels)(h2:Rs w v2 x.Plan.Slots)(h3:Rs w v3 x.Programs)(h4:Rs w v4 x.Cores)(h5:Rs w v5 x.Holds)(r6:rng x.Tick):Rv w (.agg #[v0,v1,v2,v3,v4,v5,.int .i64 x.Tick]) x:=by
 obtain⟨F0,h0⟩:=h0;obtain⟨F1,h1⟩:=h1;obtain⟨F2,h2⟩:=h2;obtain⟨F3,h3⟩:=h3;obtain⟨F4,h4⟩:=h4;obtain⟨F5,h5⟩:=h5;exact⟨_,_,rfl,_,_,_,_,_,_,_,_,_,_,_,_,rfl,h0,h1,h2,h3,h4,h5,r6,rfl⟩
theorem Rv.mkBoard{w:World}{x:Board}{v0 v1:Value}(h0:Rs w v0 x.Boxes)(h1:Rs w v1 x.Wires)  : Rv w (.agg #[v0,v1]) x:=by
 obtain⟨F0,h0⟩:=h0;obtain⟨F1,h1⟩:=h1;exact⟨_,_,rfl,_,_,_,_,rfl,h0,h1,rfl⟩
theorem zJ8:(Try.prog.info? 71).map (fun i=>(i.zero,i.size,i.bytes))=some (some (.agg #[.slice none 0 0]),1,24):=by kernel_rfl
theorem zH2:(Try.prog.info? 47).map (fun i=>(i.zero,i.size,i.bytes))=some (some (.agg #[.slice none 0 0,.slice none 0 0,.slice none 0 0,.slice none 0 0,.slice none 0 0,.slice none 0 0,.int .i64 0]),7,152):=by kernel_rfl
def Mo(F:List Nat)(w w':World):Prop :=
 w'.heap.size=w.heap.size/\Ext {w with heap:=#[]} {w' with heap:=#[]} /\ (∀ b,b ∉ F->w'.heap[b]? = w.heap[b]?)/\∀ b,Fz w b->Fz w' b
theorem Mo.refl(F:List Nat)(w:World):Mo F w w:=⟨rfl,zr _,fun _ _=>rfl,fun _ h=>h⟩
theorem Mo.set{F:List Nat}{a b:World}(h:Mo F a b){p:Addr}(hp:p.block∈F)(u:Value):Mo F a (b.setCell p u):=by
 refine⟨by rw[<- h.1];simp,?_,fun x hx=>?_,fun x hx=>(h.2.2.2 x hx).set p u⟩
 ·obtain⟨h1,h2,h3,h4,h5⟩:=h.2.1;exact⟨h1,h2,h3,h4,h5⟩
 ·rw[zA3 (fun e=>hx (by rw[e];exact hp))];exact h.2.2.1 x hx
theorem Mo.own{F G:List Nat}{L:Nat}{a b:World}(h:Mo F a b)(ho:Own L a G):Own L b G:=⟨ho.1,fun x hx=>⟨(ho.2 x hx).1,h.2.2.2 x (ho.2 x hx).2⟩⟩
def Mx(F:List Nat)(w w':World):Prop :=
 Ext {w with heap:=#[]} {w' with heap:=#[]} /\ w.heap.size<=w'.heap.size/\(∀ b,b < w.heap.size->b ∉ F->w'.heap[b]? = w.heap[b]?)/\∀ b,Fz w b->Fz w' b
theorem Mx.ofMo{F:List Nat}{w w':World}(h:Mo F w w'):Mx F w w':=⟨h.2.1,Nat.le_of_eq h.1.symm,fun b _ hn=>h.2.2.1 b hn,h.2.2.2⟩
theorem Mx.bk{F:List Nat}{a b:World}{p:Nat}{cs:List Value}{T:TypeId}(h:Mx F a b)(k:Bk a p cs T)(hp:p ∉ F):Bk b p cs T:=by
 have:=h.2.2.1 p k.lt hp
 unfold Bk at *;rw[this];exact k
theorem zHy:El Try.prog 55 Window:=El.of (z:=.agg #[.int .i64 0,.int .i64 0,.bool false]) (n:=3) (b:=24) (by kernel_rfl) rfl rfl (by decide)
theorem elPart:El Try.prog 69 Part:=El.of (z:=.agg #[.slice none 0 0,.int .i64 0]) (n:=2) (b:=32) (by kernel_rfl) rfl rfl (by decide)
theorem zH0:El Try.prog 73 Channel:=El.of (z:=.agg #[.int .i64 0,.int .i64 0,.int .i64 0,.int .i64 0]) (n:=4) (b:=32) (by kernel_rfl) rfl rfl (by decide)
theorem elSlot:El Try.prog 104 Slot:=El.of (z:=.agg #[.int .i64 0,.int .i64 0]) (n:=2) (b:=16) (by kernel_rfl) rfl rfl (by decide)
theorem zJ4:El Try.prog 98 Order:=El.of (z:=.agg #[.int .i64 0,.int .i64 0,.int .i64 0]) (n:=3) (b:=24) (by kernel_rfl) rfl rfl (by decide)
theorem zHx:El Try.prog 67 (List Order):=El.of (z:=.slice none 0 0) (n:=1) (b:=24) (by kernel_rfl) rfl rfl (by decide)
theorem elCore:El Try.prog 63 Core:=El.of (z:=.agg #[.slice none 0 0,.int .i64 0,.bool false]) (n:=3) (b:=40) (by kernel_rfl) rfl rfl (by decide)
theorem elHold:El Try.prog 71 Hold:=El.of (z:=.agg #[.slice none 0 0]) (n:=1) (b:=24) (by kernel_rfl) rfl rfl (by decide)
theorem zH1:El Try.prog 47 Machine:=El.of (z:=.agg #[.slice none 0 0,.slice none 0 0,.slice none 0 0,.slice none 0 0,.slice none 0 0,.slice none 0 0,.int .i64 0]) (n:=7) (b:=152) (by kernel_rfl) rfl rfl (by decide)
theorem zF8:El Try.prog 31 Wire:=El.of (z:=.agg #[.int .i64 0,.int .i64 0,.int .i64 0,.int .i64 0,.int .i64 0,.int .i64 0]) (n:=6) (b:=48) (by kernel_rfl) rfl rfl (by decide)
theorem Os.mono{α:Type}[GT α]{L L':Nat}{w:World}{v:Value}{xs:List α}(h:Os L w v xs)(hl:L'<=L):Os L' w v xs:=by
 obtain⟨F,h,o⟩:=h;exact⟨F,h,o.mono hl⟩
end Sk
namespace Sk
open Go Go.RowKit
set_option linter.unusedVariables false
set_option linter.unusedSimpArgs false
def FzK(w w':World):Prop:=∀ k cs T,Bk w k cs T->∃ cs',cs'.length=cs.length/\Bk w' k cs' T
theorem FzK.refl(w:World):FzK w w:=fun k cs T h=>⟨cs,rfl,h⟩
theorem FzK.tr{a b c:World}(h:FzK a b)(k:FzK b c):FzK a c:=fun x cs T hx=>by
 obtain⟨c1,h1,h2⟩:=h x cs T hx;obtain⟨c2,h3,h4⟩:=k x c1 T h2;exact⟨c2,h3.trans h1,h4⟩
theorem FzK.ofExt{a b:World}(h:Ext a b):FzK a b:=fun x cs T hx=>⟨cs,rfl,hx.ext h⟩
theorem FzK.set{a b:World}(h:FzK a b)(p:Addr)(u:Value):FzK a (b.setCell p u):=fun x cs T hx=>by
 obtain⟨c1,h1,h2⟩:=h x cs T hx;by_cases hb:x=p.block
 ·subst hb;unfold Bk at h2;refine⟨(if p.spot.isSome then c1.toArray else c1.toArray.setIfInBounds p.off u).toList,?_,Bk.ofA (cs:=if p.spot.isSome then c1.toArray else c1.toArray.setIfInBounds p.off u) ?_⟩
  ·split<;>simp[h1]
  ·simp[World.setCell,Array.getElem?_modify,h2]
 ·exact⟨c1,h1,h2.set_ne hb u⟩
theorem FzK.fz{a b:World}(h:FzK a b){k:Nat}(hk:Fz a k):Fz b k:=by
 obtain⟨cs,T,h1⟩:=hk;obtain⟨c1,_,h2⟩:=h k cs T h1;exact⟨c1,T,h2⟩
def Chg(b o n:Nat)(F:List Nat)(w w':World):Prop :=
 Ext {w with heap:=#[]} {w' with heap:=#[]} /\ w.heap.size<=w'.heap.size/\(∀ k,k < w.heap.size->k≠b->k ∉ F->w'.heap[k]? = w.heap[k]?) /\
 (∀ j,(j < o\/o+n<=j)->w'.cell? ⟨b,j,none⟩=w.cell? ⟨b,j,none⟩)/\FzK w w'
theorem Chg.fzk{b o n:Nat}{F:List Nat}{w w':World}(h:Chg b o n F w w')(k:Nat)(hk:Fz w k):Fz w' k:=h.2.2.2.2.fz hk
theorem Chg.refl(b o n:Nat)(F:List Nat)(w:World):Chg b o n F w w:=⟨zr _,Nat.le_refl _,fun _ _ _ _=>rfl,fun _ _=>rfl,FzK.refl _⟩
theorem Chg.tr{b o n:Nat}{F:List Nat}{a c d:World}(h:Chg b o n F a c)(k:Chg b o n F c d):Chg b o n F a d :=
 ⟨h.1.tr k.1,Nat.le_trans h.2.1 k.2.1,fun x hx h1 h2=>(k.2.2.1 x (zl hx h.2.1) h1 h2).trans (h.2.2.1 x hx h1 h2),fun j hj=>(k.2.2.2.1 j hj).trans (h.2.2.2.1 j hj),h.2.2.2.2.tr k.2.2.2.2⟩
theorem Chg.ofExt{b o n:Nat}{F:List Nat}{w w':World}(h:Ext w w')(hb:b < w.heap.size):Chg b o n F w w' :=
 ⟨⟨h.os,h.tape,h.output,Nat.le_refl _,fun b hb=>by cases hb⟩,h.sz,fun k hk _ _=>h.block k hk,fun j _=>(zE5 h).1 b j hb,FzK.ofExt h⟩
theorem Chg.trF{b o n:Nat}{F G:List Nat}{a c d:World}(h:Chg b o n F a c)(k:Chg b o n G c d)(hG:∀ x∈G,x∈F\/a.heap.size<=x):Chg b o n F a d :=
 ⟨h.1.tr k.1,Nat.le_trans h.2.1 k.2.1,fun x hx h1 h2=>(k.2.2.1 x (zl hx h.2.1) h1 (fun hm=>(hG x hm).elim (fun h3=>h2 h3) (fun h3=>by omega))).trans (h.2.2.1 x hx h1 h2),fun j hj=>(k.2.2.2.1 j hj).trans (h.2.2.2.1 j hj),h.2.2.2.2.tr k.2.2.2.2⟩
theorem Chg.set{b o n:Nat}{F:List Nat}{a c:World}(h:Chg b o n F a c){j:Nat}(hj:o<=j/\j < o+n)(u:Value):Chg b o n F a (c.setCell ⟨b,j,none⟩ u):=by
 refine⟨?_,by simpa using h.2.1,fun x hx h1 h2=>by rw[zA3 h1];exact h.2.2.1 x hx h1 h2,fun i hi=>by rw[zA7 (by omega)];exact h.2.2.2.1 i hi,h.2.2.2.2.set _ u⟩
 obtain⟨h1,h2,h3,h4,h5⟩:=h.1;exact⟨h1,h2,h3,h4,h5⟩
theorem Chg.sz{b o n:Nat}{F:List Nat}{a c:World}(h:Chg b o n F a c):a.heap.size<=c.heap.size:=h.2.1
theorem Chg.wide{b o n o' n':Nat}{F G:List Nat}{a c:World}(h:Chg b o n F a c)(h1:o'<=o)(h2:o+n<=o'+n')(hF:∀ x∈F,x∈G):Chg b o' n' G a c :=
 ⟨h.1,h.2.1,fun x hx hb hn=>h.2.2.1 x hx hb (fun hm=>hn (hF x hm)),fun j hj=>h.2.2.2.1 j (by omega),h.2.2.2.2⟩
theorem Chg.up{b o n b' o' n':Nat}{F G:List Nat}{a c:World}(h:Chg b' o' n' G a c)(hb:b ∉ b'::G)(hlt:b < a.heap.size)(hG:∀ x∈b'::G,x∈F):Chg b o n F a c:=by
 refine⟨h.1,h.2.1,fun x hx h1 h2=>h.2.2.1 x hx (fun e=>h2 (e ▸ hG b' (List.mem_cons_self ..))) (fun hm=>h2 (hG x (List.mem_cons_of_mem _ hm))),fun j _=>?_,h.2.2.2.2⟩
 exact World.cell?_of_block (h.2.2.1 b hlt (fun e=>hb (e ▸ List.mem_cons_self ..)) (fun hm=>hb (List.mem_cons_of_mem _ hm)))
theorem Chg.ext{b o n:Nat}{F:List Nat}{W a c:World}(h:Chg b o n F a c)(he:Ext W a)(hb:W.heap.size<=b)(hF:∀ x∈F,W.heap.size<=x):Ext W c:=by
 obtain⟨h1,h2,h3,h4,h5⟩:=he;obtain⟨k1,k2,k3,k4,k5⟩:=h.1;exact⟨k1.trans h1,k2.trans h2,k3.trans h3,Nat.le_trans h4 h.2.1,fun x hx=>(h.2.2.1 x (zl hx h4) (by omega) (fun hm=>by have:=hF x hm;omega)).trans (h5 x hx)⟩
theorem Chg.keep{b o n:Nat}{F:List Nat}{a c:World}(h:Chg b o n F a c){k:Nat}(hk:k < a.heap.size)(hb:k≠b)(hF:k ∉ F):c.heap[k]? = a.heap[k]?:=h.2.2.1 k hk hb hF
theorem Chg.cell{b o n:Nat}{F:List Nat}{a c:World}(h:Chg b o n F a c){j:Nat}(hj:j < o\/o+n<=j):c.cell? ⟨b,j,none⟩=a.cell? ⟨b,j,none⟩:=h.2.2.2.1 j hj
theorem Fz.lt{w:World}{b:Nat}(h:Fz w b):b < w.heap.size:=by obtain⟨cs,T,h⟩:=h;exact h.lt
theorem Own.lt{L:Nat}{w:World}{F:List Nat}(h:Own L w F){k:Nat}(hk:k∈F):k < w.heap.size:=(h.2 k hk).2.lt
def Om{α:Type}[GT α](L:Nat)(w:World)(b o:Nat)(x : α)(F:List Nat):Prop:=∃ cs,GT.enc w cs x F/\At w b o cs/\Own L w (b::F)
theorem Om.ext{α:Type}[GT α]{L:Nat}{w w':World}{b o:Nat}{x : α}{F:List Nat}(h:Om L w b o x F)(he:Ext w w'):Om L w' b o x F:=by
 obtain⟨cs,h1,h2,h3⟩:=h;exact⟨cs,GT.ext h1 he,h2.keep (he.block b (h3.lt (List.mem_cons_self ..))),h3.ext he⟩
theorem Om.bk{α:Type}[GT α]{L:Nat}{w:World}{b o:Nat}{x : α}{F:List Nat}(h:Om L w b o x F):b < w.heap.size/\L<=b/\b ∉ F/\∀ j,w.frozen? ⟨b,j,none⟩=false:=by
 obtain⟨cs,h1,h2,h3⟩:=h;have h4:=(h3.2 b (List.mem_cons_self ..));obtain⟨_,cs',T,h5⟩:=id h4;exact⟨h4.2.lt,h4.1,(List.nodup_cons.1 h3.1).1,h5.fz⟩
structure Lens {α β:Type} [GT α] [GT β] (w:World) (b o:Nat) (x : α) (F:List Nat) (b' o':Nat) (y : β) (Fy:List Nat) (put : β -> α):Prop where
 sub:∀ k∈b'::Fy,k∈b::F
 nd:(b'::Fy).Nodup
 enc:∃ cs,GT.enc w cs y Fy/\At w b' o' cs
 back:∀ L w' y' Fy',Own L w (b::F)->Chg b' o' (GT.sz β) Fy w w'->Om L w' b' o' y' Fy'->(∀ k∈Fy',k∈Fy\/w.heap.size<=k) ->
  ∃ F',Om L w' b o (put y') F'/\(∀ k∈F',k∈F\/k∈Fy')/\Chg b o (GT.sz α) F w w'
theorem Lens.om{α β:Type}[GT α][GT β]{L:Nat}{w:World}{b o:Nat}{x : α}{F:List Nat}{b' o':Nat}{y : β}{Fy:List Nat}{put : β -> α}(h:Lens w b o x F b' o' y Fy put)(ho:Own L w (b::F)):Om L w b' o' y Fy:=by
 obtain⟨cs,h1,h2⟩:=h.enc;exact⟨cs,h1,h2,h.nd,fun k hk=>ho.2 k (h.sub k hk)⟩
theorem Lens.comp{α β γ:Type}[GT α][GT β][GT γ]{w:World}{b o:Nat}{x : α}{F:List Nat}{b1 o1:Nat}{y : β}{F1:List Nat}{put1 : β -> α}{b2 o2:Nat}{z : γ}{F2:List Nat}{put2 : γ -> β}
  (h:Lens w b o x F b1 o1 y F1 put1) (k:Lens w b1 o1 y F1 b2 o2 z F2 put2):Lens w b o x F b2 o2 z F2 (fun z=>put1 (put2 z)) where
 sub:=fun i hi=>h.sub i (k.sub i hi)
 nd:=k.nd
 enc:=k.enc
 back:=fun L w' z' Fz' ho hc hz hf=>by
  obtain⟨F1',h1,h2,h3⟩:=k.back L w' z' Fz' ⟨h.nd,fun i hi=>ho.2 i (h.sub i hi)⟩ hc hz hf
  have hb1:=h1.bk.2.2.1;obtain⟨F',g1,g2,g3⟩:=h.back L w' _ F1' ho h3 h1 (fun i hi=>(h2 i hi).elim .inl (fun hz'=>(hf i hz').elim (fun h4=>by
   rcases List.mem_cons.1 (k.sub i (List.mem_cons_of_mem _ h4)) with e|h5
   ·exact absurd (e ▸ hi) hb1
   ·exact .inl h5) .inr))
  have hb:=g1.bk.2.2.1;exact⟨F',g1,fun i hi=>(g2 i hi).elim .inl (fun h5=>(h2 i h5).elim (fun h6=>by
   rcases List.mem_cons.1 (h.sub i (List.mem_cons_of_mem _ h6)) with e|h7
   ·exact absurd (e ▸ hi) hb
   ·exact .inl h7) .inr),g3⟩
theorem zAl{F1 Fy F2:List Nat}{k:Nat}:k∈F1++(Fy++F2) ↔ k∈F1\/k∈Fy\/k∈F2:=by simp
theorem Lens.field{α β:Type}[GT α][GT β]{w:World}{b o:Nat}{x : α}{y : β}{put : β -> α}{A csy B:List Value}{F1 Fy F2:List Nat}(d:Nat)(hA:A.length=d)(hd:d+csy.length+B.length=GT.sz α)
  (hat:At w b o (A++(csy++B))) (hnd:(b::(F1++(Fy++F2))).Nodup) (hlt:∀ k∈b::(F1++(Fy++F2)),k < w.heap.size) (hy:GT.enc w csy y Fy)
  (hp:∀ w' csy' y' Fy',(∀ k,k∈F1\/k∈F2->w'.heap[k]? = w.heap[k]?)->GT.enc w' csy' y' Fy'->GT.enc w' (A++(csy'++B)) (put y') (F1++(Fy'++F2))) :
  Lens w b o x (F1++(Fy++F2)) b (o+d) y Fy put where
 sub:=fun k hk=>by
  rcases List.mem_cons.1 hk with rfl|hk
  ·exact List.mem_cons_self ..
  ·exact List.mem_cons_of_mem _ (zAl.2 (.inr (.inl hk)))
 nd:=by
  have h1:=List.nodup_cons.1 hnd;refine List.nodup_cons.2 ⟨fun hm=>h1.1 (zAl.2 (.inr (.inl hm))),?_⟩
  have:=h1.2
  simp only[List.nodup_append] at this;exact this.2.1.1
 enc:=⟨csy,hy,fun j u hj=>by
  have hj2:=(List.getElem?_eq_some_iff.1 hj).1
  have:=hat (d+j) u (by rw[List.getElem?_append_right (by omega),List.getElem?_append_left (by omega),hA,Nat.add_sub_cancel_left];exact hj)
  rwa [<- Nat.add_assoc] at this⟩
 back:=fun L w' y' Fy' ho hc hz hf=>by
  obtain⟨csy',h1,h2,h3⟩:=hz;have hl:=GT.len hy;have hl':=GT.len h1;have hnb:=(List.nodup_cons.1 hnd).1;have hn2:=(List.nodup_cons.1 hnd).2;have hdis:∀ k,k∈F1\/k∈F2->k≠b/\k ∉ Fy/\k < w.heap.size:=fun k hk=>by
   have hm:k∈F1++(Fy++F2):=zAl.2 (hk.elim .inl (fun h => .inr (.inr h)))
   refine⟨fun e=>hnb (e ▸ hm),fun hy=>?_,hlt k (List.mem_cons_of_mem _ hm)⟩
   simp only[List.nodup_append,List.mem_append] at hn2;rcases hk with hk|hk
   ·exact hn2.2.2 k hk k (.inl hy) rfl
   ·exact hn2.2.1.2.2 k hy k hk rfl
  have hkeep:∀ k,k∈F1\/k∈F2->w'.heap[k]? = w.heap[k]?:=fun k hk=>hc.keep (hdis k hk).2.2 (hdis k hk).1 (hdis k hk).2.1
  refine⟨F1++(Fy'++F2),⟨_,hp w' csy' y' Fy' hkeep h1,fun j u hj=>?_,?_,?_⟩,fun k hk=>?_,hc.wide (by omega) (by omega) (fun k hk=>zAl.2 (.inr (.inl hk)))⟩
  ·by_cases hj1:j < d
   ·have h:=hat j u (by rw[List.getElem?_append_left (by omega)] at hj ⊢;exact hj)
    rw[hc.cell (by omega)];exact h
   ·rw[List.getElem?_append_right (by omega),hA] at hj
    by_cases hj2:j - d < csy'.length
    ·rw[List.getElem?_append_left hj2] at hj
     have:=h2 _ u hj
     rwa [show o+d+(j - d)=o+j by omega] at this
    ·rw[List.getElem?_append_right (by omega)] at hj
     have h:=hat j u (by rw[List.getElem?_append_right (by omega),List.getElem?_append_right (by omega),hA,hl,<- hl'];exact hj)
     rw[hc.cell (by omega)];exact h
  ·have h3n:=List.nodup_cons.1 h3.1;refine List.nodup_cons.2 ⟨fun hm=>?_,zFc hn2 h3n.2 fun k hk=>?_⟩
   ·rcases zAl.1 hm with hm|hm|hm
    ·exact hnb (zAl.2 (.inl hm))
    ·exact h3n.1 hm
    ·exact hnb (zAl.2 (.inr (.inr hm)))
   ·rcases hf k hk with h|h
    ·exact⟨fun hm=>(hdis k (.inl hm)).2.1 h,fun hm=>(hdis k (.inr hm)).2.1 h⟩
    ·exact⟨fun hm=>by have:=(hdis k (.inl hm)).2.2;omega,fun hm=>by have:=(hdis k (.inr hm)).2.2;omega⟩
  ·intro k hk;rcases List.mem_cons.1 hk with rfl|hk
   ·exact h3.2 k (List.mem_cons_self ..)
   ·rcases zAl.1 hk with hm|hm|hm
    ·have:=ho.2 k (List.mem_cons_of_mem _ (zAl.2 (.inl hm)))
     exact⟨this.1,hc.fzk k this.2⟩
    ·exact h3.2 k (List.mem_cons_of_mem _ hm)
    ·have:=ho.2 k (List.mem_cons_of_mem _ (zAl.2 (.inr (.inr hm))))
     exact⟨this.1,hc.fzk k this.2⟩
  ·rcases zAl.1 hk with hm|hm|hm
   ·exact .inl (zAl.2 (.inl hm))
   ·exact .inr hm
   ·exact .inl (zAl.2 (.inr (.inr hm)))
end Sk
