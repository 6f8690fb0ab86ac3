/- Contracts of functions of the given program. -/
import Derived.Test.YtfdeoepbnefckaaGreatChan
namespace Sk
open Go Go.Proofs Go.RowKit
set_option maxHeartbeats 400000
set_option maxRecDepth 100000
set_option linter.unusedVariables false
set_option linter.unusedSimpArgs false
theorem zEa:El Tryz.prog 3 Int:=El.of (z:=.int .i64 0) (n:=1) (b:=8) (by kernel_rfl) rfl rfl (by decide)
def CI(w:World)(b:Nat):Nat->List Int->Prop
 | _,[]=>True
 | o,n::ns=>w.cell? ⟨b,o,none⟩=some (.int .i64 n)/\rng n/\CI w b (o+1) ns
theorem CI.row{w:World}{b:Nat}{ns:List Int}:∀ {o:Nat},CI w b o ns->Row w b o ns []:=by
 induction ns with
 | nil=>intro o _;rfl
 | cons n ns ih =>
  intro o h;exact⟨[.int .i64 n],[],[],⟨rfl,h.2.1,rfl⟩,fun j u hj=>by
   cases j with
   | zero=>simp at hj;subst hj;exact h.1
   | succ j=>simp at hj,rfl,ih h.2.2⟩
theorem zHe{n:Int}(h1 : -9223372036854775808<=n)(h2:n<=9223372036854775807):rng n:=⟨h1,h2⟩
def M.wn(x:Window):List Int:=[x.Base,x.Size,zE8 x.Write]
def zHq(p:Part):List Int:=[p.Cells,(p.Windows.length:Int)]++p.Windows.flatMap M.wn
def M.cn(c:Channel):List Int:=[c.Kind,c.From,c.To,c.Size]
def M.sn(x:Slot):List Int:=[x.Who+1,x.Ticks]
def zI8(s:Setup):List Int :=
 ((((([(s.Parts.length:Int)]++s.Parts.flatMap zHq) ++ [(s.Channels.length:Int)])++s.Channels.flatMap M.cn) ++ [(s.Slots.length:Int)])++s.Slots.flatMap M.sn)
noncomputable def zCe(s:Setup):List Int:=if zAx s then zI8 s else []
theorem zC6{α β:Type}(f : α -> List β){xs:List α}{k:Nat}{x : α}(h:xs[k]? = some x):(xs.take (k+1)).flatMap f=(xs.take k).flatMap f++f x:=by
 rw[zAd h,List.flatMap_append];simp
theorem zCz(v:Value)(xs:List Int)(w:World)(a:Option Addr)(c:Nat)(hv:v = .slice a xs.length c)(hc:xs.length<=c)(hl:c<=9223372036854775807) :
  Calls Tryz.prog 38 #[v] w fun e w'=>e = .returned (.slice a xs.length xs.length)/\w=w':=by
 subst hv;go_enter Tryz.func38,Tryz.ntmps38;go_wp2;go_ret;exact⟨rfl,rfl⟩
theorem box3{w w1:World}{c0 c1 c2:Value}{T:TypeId}(he:Ext (w.alloc (.cells #[c0,c1,c2] T)) w1) :
  w.heap.size < w1.heap.size/\w1.cell? ⟨w.heap.size,0,none⟩=some c0/\w1.cell? ⟨w.heap.size,1,none⟩=some c1/\w1.cell? ⟨w.heap.size,2,none⟩=some c2:=by
 have hs:w.heap.size < (w.alloc (.cells #[c0,c1,c2] T)).heap.size:=by simp
 refine⟨zl hs he.sz,?_,?_,?_⟩
 all_goals rw[(zDm he).1 _ _ hs];simp
theorem zJ3(b:Bool):rng (zE8 b):=by cases b<;>exact⟨by decide,by decide⟩
theorem zAv{s:Setup}(h:zAx s=true):s.Parts.length<=5:=by
 simp only[zAx,zDi,Bool.and_eq_true,decide_eq_true_eq] at h;exact h.1.1
theorem zD3{α β:Type}(f : α -> List β)(xs:List α)(k B:Nat)(h:∀ x∈xs,(f x).length<=B):((xs.take k).flatMap f).length<=xs.length*B:=by
 have h2:∀ ys:List α,(∀ x∈ys,(f x).length<=B)->(ys.flatMap f).length<=ys.length*B:=by
  intro ys
  induction ys with
  | nil=>intro _;simp
  | cons y ys ih =>
   intro hy
   have:=ih (fun x hx=>hy x (List.mem_cons_of_mem _ hx))
   have:=hy y (List.mem_cons_self ..)
   rw[List.flatMap_cons,List.length_append,List.length_cons,Nat.succ_mul];omega
 refine Nat.le_trans (h2 _ fun x hx=>h x (List.mem_of_mem_take hx)) (Nat.mul_le_mul_right _ ?_)
 rw[List.length_take];omega
theorem zB5{s:Setup}(h:zAx s=true):s.Channels.length<=8:=by
 simp only[zAx,zCt,Bool.and_eq_true,decide_eq_true_eq] at h;exact h.2.1.2.1
theorem zEq{s:Setup}(h:zAx s=true):s.Slots.length<=12:=by
 simp only[zAx,zCg,Bool.and_eq_true,zA7] at h;omega
theorem zIn{s:Setup}(h:zAx s=true){x:Slot}(hx:x∈s.Slots) : -1<=x.Who/\x.Who<=5:=by
 have hp:=zAv h;simp only[zAx,zCg,Bool.and_eq_true,List.all_eq_true,zCw,zA7] at h
 have:=h.2.2.2.2 x hx;omega
theorem zIo{s:Setup}(h:zAx s=true){x:Part}(hx:x∈s.Parts):zE1 x.Windows=true/\zA4 x.Cells 1 8=true:=by
 simp only[zAx,zDi,Bool.and_eq_true,List.all_eq_true] at h
 have:=h.1.2 x hx
 simpa only[zD8,Bool.and_eq_true] using this
theorem zE9{s:Setup}(h:zAx s=true){k:Nat}{x:Part}(hx:s.Parts[k]? = some x):x.Windows.length<=12:=by
 have:=(zIo h (List.mem_of_getElem? hx)).1
 simp only[zE1,Bool.and_eq_true,decide_eq_true_eq] at this;exact this.1
theorem zIa{s:Setup}(h:zAx s=true){x:Part}(hx:x∈s.Parts):(zHq x).length<=38:=by
 obtain⟨k,hk⟩:=List.getElem?_of_mem hx;have h1:=zE9 h hk;have h2:=zD3 M.wn x.Windows x.Windows.length 3 (fun y _=>by simp[M.wn])
 rw[List.take_length] at h2;simp only[zHq,List.length_append,List.length_cons,List.length_nil];omega
def Ov{α:Type}[GT α](L:Nat)(w:World)(v:Value)(x : α):Prop:=∃ cs F,v = .agg cs.toArray/\GT.enc w cs x F/\Own L w F
theorem Ov.rv{α:Type}[GT α]{L:Nat}{w:World}{v:Value}{x : α}(h:Ov L w v x):Rv w v x:=by obtain⟨cs,F,h1,h2,_⟩:=h;exact⟨cs,F,h1,h2⟩
theorem Bk.new1(w:World)(A:Obj)(cs:List Value)(T:TypeId):Bk ((w.alloc A).alloc (.cells cs.toArray T (0,0))) (w.heap.size+1) cs T:=by
 have h:=Bk.new (w.alloc A) cs T
 rwa [show(w.alloc A).heap.size=w.heap.size+1 by simp] at h
theorem Rv.mkSetup{w:World}{x:Setup}{v0 v1 v2:Value}(h0:Rs w v0 x.Parts)(h1:Rs w v1 x.Channels)(h2:Rs w v2 x.Slots)  : Rv w (.agg #[v0,v1,v2]) x:=by
 obtain⟨F0,h0⟩:=h0;obtain⟨F1,h1⟩:=h1;obtain⟨F2,h2⟩:=h2;exact⟨_,_,rfl,_,_,_,_,_,_,rfl,h0,h1,h2,rfl⟩
theorem Rv.mkCore{w:World}{x:Core}{v0:Value}(h0:Rs w v0 x.Cells)(r1:rng x.At):Rv w (.agg #[v0,.int .i64 x.At,.bool x.Stopped]) x:=by
 obtain⟨F0,h0⟩:=h0;exact⟨_,_,rfl,_,rfl,h0,r1⟩
theorem Rv.mkMachine{w:World}{x:Machine}{v0 v1 v2 v3 v4 v5:Value}(h0:Rs w v0 x.Plan.Parts)(h1:Rs w v1 x.Plan.Channels)(h2:Rs w v2 x.Plan.Slots)(h3:Rs w v3 x.Programs)(h4:Rs w v4 x.Cores)(h5:Rs w v5 x.Holds)(r6:rng x.Tick):Rv w (.agg #[v0,v1,v2,v3,v4,v5,.int .i64 x.Tick]) x:=by
 obtain⟨F0,h0⟩:=h0;obtain⟨F1,h1⟩:=h1;obtain⟨F2,h2⟩:=h2;obtain⟨F3,h3⟩:=h3;obtain⟨F4,h4⟩:=h4;obtain⟨F5,h5⟩:=h5;exact⟨_,_,rfl,_,_,_,_,_,_,_,_,_,_,_,_,rfl,h0,h1,h2,h3,h4,h5,r6,rfl⟩
theorem zI1:(Tryz.prog.info? 71).map (fun i=>(i.zero,i.size,i.bytes))=some (some (.agg #[.int .i64 0,.int .i64 0,.bool false]),3,24):=by kernel_rfl
theorem zH9:(Tryz.prog.info? 75).map (fun i=>(i.zero,i.size,i.bytes))=some (some (.agg #[.int .i64 0,.int .i64 0,.int .i64 0,.int .i64 0]),4,32):=by kernel_rfl
theorem zIx:(Tryz.prog.info? 61).map (fun i=>(i.zero,i.size,i.bytes))=some (some (.agg #[.int .i64 0,.int .i64 0,.int .i64 0]),3,24):=by kernel_rfl
theorem zHa:(Tryz.prog.info? 40).map (fun i=>(i.zero,i.size,i.bytes))=some (some (.agg #[.slice none 0 0]),1,24):=by kernel_rfl
def Mo(F:List Nat)(w w':World):Prop :=
 w'.heap.size=w.heap.size/\Ext {w with heap:=#[]} {w' with heap:=#[]} /\ (∀ b,b ∉ F->w'.heap[b]? = w.heap[b]?)/\∀ b,Fz w b->Fz w' b
theorem Mo.refl(F:List Nat)(w:World):Mo F w w:=⟨rfl,zr _,fun _ _=>rfl,fun _ h=>h⟩
theorem Mo.set{F:List Nat}{a b:World}(h:Mo F a b){p:Addr}(hp:p.block∈F)(u:Value):Mo F a (b.setCell p u):=by
 refine⟨by rw[<- h.1];simp,?_,fun x hx=>?_,fun x hx=>(h.2.2.2 x hx).set p u⟩
 ·obtain⟨h1,h2,h3,h4,h5⟩:=h.2.1;exact⟨h1,h2,h3,h4,h5⟩
 ·rw[zA8 (fun e=>hx (by rw[e];exact hp))];exact h.2.2.1 x hx
theorem Mo.ext{F:List Nat}{W a b:World}(h:Mo F a b)(he:Ext W a)(hF:∀ x∈F,W.heap.size<=x):Ext W b:=by
 obtain⟨h1,h2,h3,h4,h5⟩:=he;obtain⟨k1,k2,k3,k4,k5⟩:=h.2.1;exact⟨k1.trans h1,k2.trans h2,k3.trans h3,by rw[h.1];exact h4,fun b hb=>(h.2.2.1 b (fun hm=>by have:=hF b hm;omega)).trans (h5 b hb)⟩
theorem Mo.own{F G:List Nat}{L:Nat}{a b:World}(h:Mo F a b)(ho:Own L a G):Own L b G:=⟨ho.1,fun x hx=>⟨(ho.2 x hx).1,h.2.2.2 x (ho.2 x hx).2⟩⟩
def Mx(F:List Nat)(w w':World):Prop :=
 Ext {w with heap:=#[]} {w' with heap:=#[]} /\ w.heap.size<=w'.heap.size/\(∀ b,b < w.heap.size->b ∉ F->w'.heap[b]? = w.heap[b]?)/\∀ b,Fz w b->Fz w' b
theorem Mx.ofExt{F:List Nat}{w w':World}(h:Ext w w'):Mx F w w' :=
 ⟨⟨h.os,h.tape,h.output,Nat.le_refl _,fun b hb=>by cases hb⟩,h.sz,fun b hb _=>h.block b hb,fun b hb=>hb.ext h⟩
theorem Mx.ofMo{F:List Nat}{w w':World}(h:Mo F w w'):Mx F w w':=⟨h.2.1,Nat.le_of_eq h.1.symm,fun b _ hn=>h.2.2.1 b hn,h.2.2.2⟩
theorem Mx.tr{F:List Nat}{a b c:World}(h:Mx F a b)(k:Mx F b c):Mx F a c :=
 ⟨h.1.tr k.1,Nat.le_trans h.2.1 k.2.1,fun x hx hn=>(k.2.2.1 x (zl hx h.2.1) hn).trans (h.2.2.1 x hx hn),fun x hx=>k.2.2.2 x (h.2.2.2 x hx)⟩
theorem Mx.ext{F:List Nat}{W a b:World}(h:Mx F a b)(he:Ext W a)(hF:∀ x∈F,W.heap.size<=x):Ext W b:=by
 obtain⟨h1,h2,h3,h4,h5⟩:=he;obtain⟨k1,k2,k3,k4,k5⟩:=h.1;exact⟨k1.trans h1,k2.trans h2,k3.trans h3,Nat.le_trans h4 h.2.1,fun b hb=>(h.2.2.1 b (zl hb h4) (fun hm=>by have:=hF b hm;omega)).trans (h5 b hb)⟩
theorem Mx.enc{α:Type}[GT α]{F G:List Nat}{a b:World}{cs:List Value}{x : α}(h:Mx F a b)(k:GT.enc a cs x G)(hd:∀ y,y∈G->y∈F->False):GT.enc b cs x G :=
 GT.keep k fun y hy=>h.2.2.1 y (GT.inh k y hy) (fun hf=>hd y hy hf)
theorem Mx.sl{α:Type}[GT α]{F G:List Nat}{a b:World}{v:Value}{x:List α}(h:Mx F a b)(k:Sl a v x G)(hd:∀ y,y∈G->y∈F->False):Sl b v x G :=
 k.keep fun y hy=>h.2.2.1 y (k.inh y hy) (fun hf=>hd y hy hf)
theorem Mx.bk{F:List Nat}{a b:World}{p:Nat}{cs:List Value}{T:TypeId}(h:Mx F a b)(k:Bk a p cs T)(hp:p ∉ F):Bk b p cs T:=by
 have:=h.2.2.1 p k.lt hp
 unfold Bk at *;rw[this];exact k
end Sk
