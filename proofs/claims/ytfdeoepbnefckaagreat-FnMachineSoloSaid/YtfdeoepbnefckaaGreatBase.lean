/- Contracts of functions of the given program. -/
import Derived.WalkKit
import Derived.Deep.QuietTactic
import Derived.BigQuiet
import Derived.StillTailTactics
import Derived.Lib.Hide
namespace Sk
open Go Go.RowKit
theorem zl{a b c:Nat}(h:a < b)(k:b<=c):a < c:=Nat.lt_of_lt_of_le h k
theorem zh{p:Prop}(h:p):Hid p:=h
def Ext(w w':World):Prop:=Below w.heap.size w w'
theorem Ext.refl(w:World):Ext w w:=Below.refl _ _
theorem zr(w:World):Ext w w:=Ext.refl w
theorem Ext.tr{a b c:World}(h:Ext a b)(k:Ext b c):Ext a c:=Below.trans h (Below.mono k h.size)
theorem Ext.alloc{a w:World}(h:Ext a w)(o:Obj):Ext a (w.alloc o):=Below.alloc h h.size o
theorem Ext.drew{a w:World}(h:Ext a w):Ext a w.drew:=Below.drew h
theorem Ext.drewN{a w:World}(h:Ext a w)(n:Nat):Ext a (w.drewN n):=⟨h.os,h.tape,h.output,h.size,h.block⟩
theorem Ext.set{a w:World}(h:Ext a w){p:Addr}(hp:a.heap.size<=p.block)(u:Value):Ext a (w.setCell p u):=Below.setCell h hp u
theorem Ext.grown{a w w':World}{row:Option Nat}(h:Ext a w)(hg:w.grownBy w' row)(hr:∀ k,row=some k->a.heap.size<=k):Ext a w' :=
 Below.grown h hg h.size hr
theorem Ext.sz{a b:World}(h:Ext a b):a.heap.size<=b.heap.size:=h.size
theorem zDm{W w1:World}(hb:Ext W w1):(∀ b o,b < W.heap.size->w1.cell? ⟨b,o,none⟩=W.cell? ⟨b,o,none⟩)/\(∀ b o,b < W.heap.size->w1.frozen? ⟨b,o,none⟩=W.frozen? ⟨b,o,none⟩) :=
 ⟨fun b o h=>Below.cell (p:=⟨b,o,none⟩) hb h,fun b o h=>Below.frozen (p:=⟨b,o,none⟩) hb h⟩
def rng(n:Int):Prop:=-9223372036854775808<=n/\n<=9223372036854775807
def At(w:World)(b o:Nat)(cs:List Value):Prop:=∀ j u,cs[j]? = some u->w.cell? ⟨b,o+j,none⟩=some u
class GT (α:Type) extends Inhabited α where
 sz:Nat
 enc:World->List Value -> α -> List Nat->Prop
 pos:0 < sz
 len:∀ {w cs x F},enc w cs x F->cs.length=sz
 one:∀ {w cs x F},enc w cs x F->∀ u∈cs,u.oneCell'=true
 inh:∀ {w cs x F},enc w cs x F->∀ b∈F,b < w.heap.size
 keep:∀ {w w' cs x F},enc w cs x F->(∀ b∈F,w'.heap[b]? = w.heap[b]?)->enc w' cs x F
 tot : α -> Nat
 ct : α -> Nat
 mkE : α -> Int -> α
 mkE_ct:∀ (x : α) (k:Int),ct (mkE x k)=ct x
 mkE_idem:∀ (x : α) (k:Int),mkE (mkE x k) k=mkE x k
 zc:List Value
 zero:∀ w,enc w zc default []
def Row{α:Type}[GT α](w:World)(b:Nat):Nat->List α -> List Nat->Prop
 | _,[],F=>F = []
 | o,x::xs,F => ∃ cs F1 F2,GT.enc w cs x F1/\At w b o cs/\F=F1++F2/\Row w b (o+GT.sz α) xs F2
def Sl{α:Type}[GT α](w:World)(v:Value)(xs:List α)(F:List Nat):Prop :=
 ∃ a c,v = .slice a xs.length c/\xs.length<=c/\c<=maxLen /\
  ((xs = []/\F = [])\/(xs ≠ []/\∃ b o F',a=some ⟨b,o,none⟩/\F=b::F'/\Row w b o xs F'))
theorem At.lt{w:World}{b o:Nat}{cs:List Value}(h:At w b o cs)(hc:cs ≠ []):b < w.heap.size:=by
 cases cs with
 | nil=>exact absurd rfl hc
 | cons u cs =>
  have:=h 0 u rfl
  unfold World.cell? at this
  split at this
  ·rename_i h2
   by_cases hb:b < w.heap.size
   ·exact hb
   ·simp only at h2;rw[Array.getElem?_eq_none (by omega)] at h2
    cases h2
  ·cases this
theorem At.keep{w w':World}{b o:Nat}{cs:List Value}(h:At w b o cs)(hb:w'.heap[b]? = w.heap[b]?):At w' b o cs :=
 fun j u hj=>by rw[World.cell?_of_block (w:=w) (w':=w') hb];exact h j u hj
theorem Row.inh{α:Type}[GT α]{w:World}{b:Nat}{xs:List α}:∀ {o:Nat} {F:List Nat},Row w b o xs F->∀ k∈F,k < w.heap.size:=by
 induction xs with
 | nil=>intro o F h k hk;simp only[Row] at h;subst h;cases hk
 | cons x xs ih =>
  intro o F h k hk;obtain⟨cs,F1,F2,he,ha,rfl,hr⟩:=h;rcases List.mem_append.1 hk with hk|hk
  ·exact GT.inh he k hk
  ·exact ih hr k hk
theorem Row.keep{α:Type}[GT α]{w w':World}{b:Nat}(hb:w'.heap[b]? = w.heap[b]?){xs:List α} :
  ∀ {o:Nat} {F:List Nat},Row w b o xs F->(∀ k∈F,w'.heap[k]? = w.heap[k]?)->Row w' b o xs F:=by
 induction xs with
 | nil=>intro o F h _;exact h
 | cons x xs ih =>
  intro o F h hk;obtain⟨cs,F1,F2,he,ha,rfl,hr⟩:=h;exact⟨cs,F1,F2,GT.keep he (fun k hk'=>hk k (List.mem_append_left _ hk')),ha.keep hb,rfl,ih hr (fun k hk'=>hk k (List.mem_append_right _ hk'))⟩
theorem Row.get{α:Type}[GT α]{w:World}{b:Nat}{xs:List α}:∀ {o:Nat} {F:List Nat} (k:Nat),Row w b o xs F->k < xs.length ->
  ∃ cs F1 x,xs[k]? = some x/\GT.enc w cs x F1/\At w b (o+k*GT.sz α) cs/\∀ j∈F1,j∈F:=by
 induction xs with
 | nil=>intro o F k _ hk;cases hk
 | cons x xs ih =>
  intro o F k h hk;obtain⟨cs,F1,F2,he,ha,rfl,hr⟩:=h;cases k with
  | zero=>exact⟨cs,F1,x,rfl,he,by simpa using ha,fun j hj=>List.mem_append_left _ hj⟩
  | succ k =>
   obtain⟨cs',F1',x',h0,h1,h2,h3⟩:=ih k hr (by simpa using hk)
   refine⟨cs',F1',x',h0,h1,?_,fun j hj=>List.mem_append_right _ (h3 j hj)⟩
   rw[Nat.succ_mul,show o+(k*GT.sz α + GT.sz α)=o+GT.sz α + k*GT.sz α by omega]
   exact h2
theorem Row.lt{α:Type}[GT α]{w:World}{b o:Nat}{xs:List α}{F:List Nat}(h:Row w b o xs F)(hne:xs ≠ []):b < w.heap.size:=by
 cases xs with
 | nil=>exact absurd rfl hne
 | cons x xs =>
  obtain⟨cs,F1,F2,he,ha,rfl,hr⟩:=h;refine ha.lt ?_
  have:=GT.len he
  have hp:=GT.pos (α:=α);intro hc;rw[hc] at this;simp at this;omega
theorem Sl.inh{α:Type}[GT α]{w:World}{v:Value}{xs:List α}{F:List Nat}(h:Sl w v xs F):∀ k∈F,k < w.heap.size:=by
 obtain⟨a,c,rfl,hl,hc,⟨rfl,rfl⟩ | ⟨hne,b,o,F',rfl,rfl,hr⟩⟩:=h
 ·intro k hk;cases hk
 ·intro k hk;rcases List.mem_cons.1 hk with rfl|hk
  ·exact hr.lt hne
  ·exact hr.inh k hk
theorem Sl.keep{α:Type}[GT α]{w w':World}{v:Value}{xs:List α}{F:List Nat}(h:Sl w v xs F)(hk:∀ k∈F,w'.heap[k]? = w.heap[k]?):Sl w' v xs F:=by
 obtain⟨a,c,rfl,hl,hc,⟨rfl,rfl⟩ | ⟨hne,b,o,F',rfl,rfl,hr⟩⟩:=h
 ·exact⟨a,c,rfl,hl,hc,.inl ⟨rfl,rfl⟩⟩
 ·exact⟨_,c,rfl,hl,hc,.inr ⟨hne,b,o,F',rfl,rfl,hr.keep (hk b (List.mem_cons_self ..)) (fun k h=>hk k (List.mem_cons_of_mem _ h))⟩⟩
def mkL{α:Type}(mk : α -> Int -> α)(ct : α -> Nat):List α -> Int->List α
 | [],_ => []
 | x::xs,k=>mk x k::mkL mk ct xs (k+ct x)
theorem mkL_ct{α:Type}{mk : α -> Int -> α}{ct : α -> Nat}(h:∀ x k,ct (mk x k)=ct x)(xs:List α):∀ k,((mkL mk ct xs k).map ct).sum=(xs.map ct).sum:=by
 induction xs with
 | nil=>intro k;rfl
 | cons x xs ih=>intro k;simp only[mkL,List.map_cons,List.sum_cons,h,ih]
theorem mkL_idem{α:Type}{mk : α -> Int -> α}{ct : α -> Nat}(h:∀ x k,ct (mk x k)=ct x)(hi:∀ x k,mk (mk x k) k=mk x k)(xs:List α):∀ k,mkL mk ct (mkL mk ct xs k) k=mkL mk ct xs k:=by
 induction xs with
 | nil=>intro k;rfl
 | cons x xs ih=>intro k;simp only[mkL,h,hi,ih]
theorem zAg:rng 0:=⟨by decide,by decide⟩
instance instGTList {α:Type} [GT α]:GT (List α) where
 sz:=1
 enc w cs xs F:=∃ v,cs = [v]/\Sl w v xs F
 pos:=Nat.one_pos
 len:=by rintro w cs x F ⟨v,rfl,_⟩;rfl
 one:=by rintro w cs x F ⟨v,rfl,a,c,rfl,_⟩ u hu;simp at hu;subst hu;rfl
 inh:=by rintro w cs x F ⟨v,rfl,h⟩;exact h.inh
 keep:=by rintro w w' cs x F ⟨v,rfl,h⟩ hk;exact⟨v,rfl,h.keep hk⟩
 tot xs:=xs.length+(xs.map GT.tot).sum
 ct xs:=(xs.map GT.ct).sum
 mkE xs k:=mkL GT.mkE GT.ct xs k
 mkE_ct xs k:=mkL_ct GT.mkE_ct xs k
 mkE_idem xs k:=mkL_idem GT.mkE_ct GT.mkE_idem xs k
 zc:=[.slice none 0 0]
 zero _:=⟨_,rfl,none,0,rfl,Nat.le_refl _,Nat.zero_le _,.inl ⟨rfl,rfl⟩⟩
instance instGTInt:GT Int where
 sz:=1
 enc _ cs n F:=cs = [.int .i64 n]/\rng n/\F = []
 pos:=Nat.one_pos
 len:=by rintro w cs x F ⟨rfl,_⟩;rfl
 one:=by rintro w cs x F ⟨rfl,_,rfl⟩ u hu;simp at hu;subst hu;rfl
 inh:=by rintro w cs x F ⟨rfl,_,rfl⟩ b hb;cases hb
 keep:=by rintro w w' cs x F ⟨rfl,h,rfl⟩ _;exact⟨rfl,h,rfl⟩
 tot _:=0
 ct _:=1
 mkE _ k:=k
 mkE_ct _ _:=rfl
 mkE_idem _ _:=rfl
 zc:=[.int .i64 0]
 zero _:=⟨rfl,⟨by decide,by decide⟩,rfl⟩
instance instGTBool:GT Bool where
 sz:=1
 enc _ cs n F:=cs = [.bool n]/\F = []
 pos:=Nat.one_pos
 len:=by rintro w cs x F ⟨rfl,_⟩;rfl
 one:=by rintro w cs x F ⟨rfl,rfl⟩ u hu;simp at hu;subst hu;rfl
 inh:=by rintro w cs x F ⟨rfl,rfl⟩ b hb;cases hb
 keep:=by rintro w w' cs x F ⟨rfl,rfl⟩ _;exact⟨rfl,rfl⟩
 tot _:=0
 ct _:=1
 mkE _ k:=k % 3 == 0
 mkE_ct _ _:=rfl
 mkE_idem _ _:=rfl
 zc:=[.bool false]
 zero _:=⟨rfl,rfl⟩
theorem GT.ext{α:Type}[GT α]{w w':World}{cs:List Value}{x : α}{F:List Nat}(h:GT.enc w cs x F)(he:Ext w w'):GT.enc w' cs x F :=
 GT.keep h fun b hb=>he.block b (GT.inh h b hb)
theorem Sl.ext{α:Type}[GT α]{w w':World}{v:Value}{xs:List α}{F:List Nat}(h:Sl w v xs F)(he:Ext w w'):Sl w' v xs F :=
 h.keep fun b hb=>he.block b (h.inh b hb)
def Rs{α:Type}[GT α](w:World)(v:Value)(xs:List α):Prop:=∃ F,Sl w v xs F
theorem Rs.ext{α:Type}[GT α]{w w':World}{v:Value}{xs:List α}(h:Rs w v xs)(he:Ext w w'):Rs w' v xs:=h.imp fun _ h=>h.ext he
theorem Rs.form{α:Type}[GT α]{w:World}{v:Value}{xs:List α}(h:Rs w v xs):∃ a c,v = .slice a xs.length c/\xs.length<=9223372036854775807:=by
 obtain⟨F,a,c,rfl,hl,hc,_⟩:=h;unfold maxLen at hc;exact⟨a,c,rfl,by omega⟩
theorem Rs.at{α:Type}[GT α]{w:World}{a:Option Addr}{n c:Nat}{xs:List α}(h:Rs w (.slice a n c) xs)(k:Nat)(hk:k < xs.length) :
  ∃ b o cs F x,a=some ⟨b,o,none⟩/\b < w.heap.size/\Hid (xs[k]? = some x)/\GT.enc w cs x F/\At w b (o+k*GT.sz α) cs:=by
 obtain⟨F,a',c',he,hl,hc,⟨rfl,rfl⟩ | ⟨hne,b,o,F',rfl,rfl,hr⟩⟩:=h
 ·cases hk
 ·cases he;obtain⟨cs,F1,x,h0,h1,h2,_⟩:=hr.get k hk;exact⟨b,o,cs,F1,x,rfl,hr.lt hne,h0,h1,h2⟩
def Rv{α:Type}[GT α](w:World)(v:Value)(x : α):Prop:=∃ cs F,v = .agg cs.toArray/\GT.enc w cs x F
theorem Rv.ext{α:Type}[GT α]{w w':World}{v:Value}{x : α}(h:Rv w v x)(he:Ext w w'):Rv w' v x:=by
 obtain⟨cs,F,rfl,h⟩:=h;exact⟨cs,F,rfl,GT.ext h he⟩
theorem zC5 {P : Program} {g : Nat} {fn : Func} (hf : P.funcs[g]? = some fn) (hn : (fn.name == "runtime.NumGoroutine") = false) (hb : fn.body.isNone = false) :
  ∀ ar u,(callFunc g ar).run P u = .ok (.enter g ar) u:=by
 intro ar u;have h1 : ¬ (fn.name = "runtime.NumGoroutine") := by simpa using hn
 have h2:¬ (fn.body=none):=by intro e;rw[e] at hb;cases hb
 simp[callFunc,hf,h1,h2]
theorem Rs.atInt{w:World}{a:Option Addr}{n c:Nat}{xs:List Int}(h:Rs w (.slice a n c) xs)(k:Nat)(hk:k < xs.length) :
  ∃ b o x,a=some ⟨b,o,none⟩/\b < w.heap.size/\Hid (xs[k]? = some x)/\w.cell? ⟨b,o+k,none⟩=some (.int .i64 x)/\rng x:=by
 obtain⟨b,o,cs,F,x,rfl,hb,hx,⟨rfl,hr,_⟩,ha⟩:=h.at k hk;exact⟨b,o,x,rfl,hb,hx,by simpa [GT.sz] using ha 0 _ rfl,hr⟩
theorem Rs.atList{α:Type}[GT α]{w:World}{a:Option Addr}{n c:Nat}{xs:List (List α)}(h:Rs w (.slice a n c) xs)(k:Nat)(hk:k < xs.length) :
  ∃ b o x a' c',a=some ⟨b,o,none⟩/\b < w.heap.size/\Hid (xs[k]? = some x)/\w.cell? ⟨b,o+k,none⟩=some (.slice a' x.length c')/\Hid (Rs w (.slice a' x.length c') x)/\x.length<=9223372036854775807:=by
 obtain⟨b,o,cs,F,x,rfl,hb,hx,⟨v,rfl,hs⟩,ha⟩:=h.at k hk;obtain⟨a',c',rfl,h1,h2,_⟩:=id hs;have h0:=ha 0 _ rfl;simp only[GT.sz,Nat.mul_one,Nat.add_zero] at h0;unfold maxLen at h2;exact⟨b,o,x,a',c',rfl,hb,hx,h0,⟨F,hs⟩,by omega⟩
theorem zAh{α:Type}{xs:List α}{k:Nat}{x : α}(h:xs[k]? = some x):k < xs.length:=(List.getElem?_eq_some_iff.1 h).1
theorem zAd{α:Type}{xs:List α}{k:Nat}{x : α}(h:xs[k]? = some x):xs.take (k+1)=xs.take k ++ [x]:=by
 obtain⟨hk,rfl⟩:=List.getElem?_eq_some_iff.1 h;exact List.take_succ_eq_append_getElem hk
theorem zEw{α:Type}[GT α]{xs:List α}{k:Nat}{x : α}(hk:xs[k]? = some x):GT.tot x+xs.length<=GT.tot xs:=by
 have:GT.tot x<=(xs.map GT.tot).sum:=by
  have:=List.mem_of_getElem? hk
  induction xs generalizing k with
  | nil=>cases hk
  | cons y ys ih =>
   rcases List.mem_cons.1 this with rfl|hm
   ·simp
   ·obtain⟨j,hj⟩:=List.getElem?_of_mem hm
    have:=ih hj hm
    simp only[List.map_cons,List.sum_cons];omega
 show GT.tot x+xs.length<=xs.length+(xs.map GT.tot).sum
 omega
theorem zB0{α:Type}[GT α]{xs:List α}:xs.length<=GT.tot xs:=Nat.le_add_right _ _
def Qt(w w':World):Prop:=∃ n,w'=w.drewN n
theorem Qt.refl(w:World):Qt w w:=⟨0,rfl⟩
theorem Qt.mk{w:World}(n:Nat):Qt w (w.drewN n):=⟨n,rfl⟩
theorem Qt.ext{w w':World}(h:Qt w w'):Ext w w':=by obtain⟨n,rfl⟩:=h;exact(zr w).drewN n
noncomputable def Bo(p:Prop):Bool:=@decide p (Classical.propDecidable p)
theorem Bo.t{p:Prop}(h:p):Bo p=true:=by unfold Bo;exact @decide_eq_true p (Classical.propDecidable p) h
theorem Bo.f{p:Prop}(h:¬ p):Bo p=false:=by unfold Bo;exact @decide_eq_false p (Classical.propDecidable p) h
theorem Bo.iff{p:Prop}:Bo p=true ↔ p:=by
 refine⟨fun h=>Classical.byContradiction fun hn=>?_,Bo.t⟩
 rw[Bo.f hn] at h;cases h
noncomputable def Eqb{α:Type}(x y : α):Bool:=Bo (x=y)
theorem Eqb.t{α:Type}{x y : α}(h:x=y):Eqb x y=true:=Bo.t h
theorem Eqb.f{α:Type}{x y : α}(h:x≠y):Eqb x y=false:=Bo.f h
theorem zA1{a b:Bool}(h:a=b):Ending.returned (.bool a) = .returned (.bool b):=by rw[h]
theorem zF4{a b:Int}(h:a=b):Ending.returned (.int .i64 a) = .returned (.int .i64 b):=by rw[h]
theorem zB2{α:Type}(p : α -> Bool){xs:List α}{k:Nat}{x : α}(hk:xs[k]? = some x):(xs.take (k+1)).all p=((xs.take k).all p && p x):=by
 rw[zAd hk,List.all_append];simp
theorem zB7{α:Type}(p : α -> Bool)(xs:List α)(k:Nat)(hk:xs.length<=k):(xs.take k).all p=xs.all p:=by rw[List.take_of_length_le hk]
theorem zAy{α:Type}(p : α -> Bool){xs:List α}{k:Nat}{x : α}(hk:xs[k]? = some x)(h:p x=false):xs.all p=false:=by
 rw[List.all_eq_false];exact⟨x,List.mem_of_getElem? hk,by simp[h]⟩
theorem zEv{α:Type}{xs ys:List α}{k:Nat}{x : α}(hk:xs[k]? = some x)(hk2:ys[k]? = some x)(h:xs.take k=ys.take k):xs.take (k+1)=ys.take (k+1):=by
 rw[zAd hk,zAd hk2,h]
theorem ne_at{α:Type}{xs ys:List α}{k:Nat}{x y : α}(hk:xs[k]? = some x)(hk2:ys[k]? = some y)(h:x≠y):xs≠ys:=by
 rintro rfl;rw[hk] at hk2;cases hk2;exact h rfl
theorem zFy{α:Type}(xs ys:List α)(k:Nat)(hl:xs.length=ys.length)(hk:xs.length<=k)(h:xs.take k=ys.take k):xs=ys:=by
 rwa [List.take_of_length_le hk,List.take_of_length_le (by omega)] at h
end Sk
