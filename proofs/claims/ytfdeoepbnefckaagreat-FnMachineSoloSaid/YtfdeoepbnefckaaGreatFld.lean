/- Contracts of functions of the given program. -/
import Derived.Test.YtfdeoepbnefckaaGreatFlows
namespace Sk
open Go Go.RowKit
set_option linter.unusedVariables false
set_option linter.unusedSimpArgs false
def Osb{α:Type}[GT α](L M:Nat)(w:World)(v:Value)(xs:List α):Prop:=∃ F,Sl w v xs F/\Own L w F/\∀ k∈F,k < M
theorem Os.osb{α:Type}[GT α]{L:Nat}{w:World}{v:Value}{xs:List α}(h:Os L w v xs):Osb L w.heap.size w v xs:=by
 obtain⟨F,h1,h2⟩:=h;exact⟨F,h1,h2,fun k hk=>h2.lt hk⟩
theorem Osb.os{α:Type}[GT α]{L M:Nat}{w:World}{v:Value}{xs:List α}(h:Osb L M w v xs):Os L w v xs:=by
 obtain⟨F,h1,h2,_⟩:=h;exact⟨F,h1,h2⟩
theorem Om.lCoreCells{L:Nat}{w:World}{b o:Nat}{x:Core}{F:List Nat}(h:Om L w b o x F):∃ Fy,Lens w b o x F b (o+0) x.Cells Fy (fun y => { x with Cells:=y }):=by
 obtain⟨cs,⟨v0,rfl,h0,r1⟩,hat,ho⟩:=h;refine⟨F,?_⟩;have hl:=Lens.field (x:=x) (y:=x.Cells) (put:=fun y => { x with Cells:=y }) (A:=[]) (csy:=[v0]) (B:=[.int .i64 x.At,.bool x.Stopped]) (F1:=[]) (Fy:=F) (F2:=[]) 0 rfl rfl (by simpa using hat) (by simpa [List.append_assoc] using ho.1) (fun k hk=>ho.lt (by simpa [List.append_assoc] using hk)) ⟨_,rfl,h0⟩ ?_
 ·simpa [List.append_assoc] using hl
 ·intro w' csy' y' Fy' hk hy;obtain⟨v,rfl,k⟩:=hy;simp only[List.nil_append,List.append_nil];exact⟨_,rfl,k,r1⟩
theorem Om.lCoreAt{L:Nat}{w:World}{b o:Nat}{x:Core}{F:List Nat}(h:Om L w b o x F):∃ Fy,Lens w b o x F b (o+1) x.At Fy (fun y => { x with At:=y }):=by
 obtain⟨cs,⟨v0,rfl,h0,r1⟩,hat,ho⟩:=h;refine⟨[],?_⟩;have hl:=Lens.field (x:=x) (y:=x.At) (put:=fun y => { x with At:=y }) (A:=[v0]) (csy:=[.int .i64 x.At]) (B:=[.bool x.Stopped]) (F1:=F) (Fy:=[]) (F2:=[]) 1 rfl rfl (by simpa using hat) (by simpa [List.append_assoc] using ho.1) (fun k hk=>ho.lt (by simpa [List.append_assoc] using hk)) ⟨rfl,r1,rfl⟩ ?_
 ·simpa [List.append_assoc] using hl
 ·intro w' csy' y' Fy' hk hy;obtain⟨rfl,q,rfl⟩:=hy;simp only[List.nil_append,List.append_nil];exact⟨_,rfl,h0.keep (fun k h=>hk k (by simp[h])),q⟩
theorem Om.lCoreStopped{L:Nat}{w:World}{b o:Nat}{x:Core}{F:List Nat}(h:Om L w b o x F):∃ Fy,Lens w b o x F b (o+2) x.Stopped Fy (fun y => { x with Stopped:=y }):=by
 obtain⟨cs,⟨v0,rfl,h0,r1⟩,hat,ho⟩:=h;refine⟨[],?_⟩;have hl:=Lens.field (x:=x) (y:=x.Stopped) (put:=fun y => { x with Stopped:=y }) (A:=[v0,.int .i64 x.At]) (csy:=[.bool x.Stopped]) (B:=[]) (F1:=F) (Fy:=[]) (F2:=[]) 2 rfl rfl (by simpa using hat) (by simpa [List.append_assoc] using ho.1) (fun k hk=>ho.lt (by simpa [List.append_assoc] using hk)) ⟨rfl,rfl⟩ ?_
 ·simpa [List.append_assoc] using hl
 ·intro w' csy' y' Fy' hk hy;obtain⟨rfl,rfl⟩:=hy;simp only[List.nil_append,List.append_nil];exact⟨_,rfl,h0.keep (fun k h=>hk k (by simp[h])),r1⟩
theorem Om.lMachineCores{L:Nat}{w:World}{b o:Nat}{x:Machine}{F:List Nat}(h:Om L w b o x F):∃ Fy,Lens w b o x F b (o+4) x.Cores Fy (fun y => { x with Cores:=y }):=by
 obtain⟨cs,⟨v0,v1,v2,v3,v4,v5,F0,F1,F2,F3,F4,F5,rfl,h0,h1,h2,h3,h4,h5,r6,rfl⟩,hat,ho⟩:=h;refine⟨F4,?_⟩;have hl:=Lens.field (x:=x) (y:=x.Cores) (put:=fun y => { x with Cores:=y }) (A:=[v0,v1,v2,v3]) (csy:=[v4]) (B:=[v5,.int .i64 x.Tick]) (F1:=F0++(F1++(F2++F3))) (Fy:=F4) (F2:=F5) 4 rfl rfl (by simpa using hat) (by simpa [List.append_assoc] using ho.1) (fun k hk=>ho.lt (by simpa [List.append_assoc] using hk)) ⟨_,rfl,h4⟩ ?_
 ·simpa [List.append_assoc] using hl
 ·intro w' csy' y' Fy' hk hy;obtain⟨v,rfl,k⟩:=hy;exact⟨_,_,_,_,_,_,_,_,_,_,_,_,rfl,h0.keep (fun k h=>hk k (by simp[h])),h1.keep (fun k h=>hk k (by simp[h])),h2.keep (fun k h=>hk k (by simp[h])),h3.keep (fun k h=>hk k (by simp[h])),k,h5.keep (fun k h=>hk k (by simp[h])),r6,by simp[List.append_assoc]⟩
theorem Om.lMachineHolds{L:Nat}{w:World}{b o:Nat}{x:Machine}{F:List Nat}(h:Om L w b o x F):∃ Fy,Lens w b o x F b (o+5) x.Holds Fy (fun y => { x with Holds:=y }):=by
 obtain⟨cs,⟨v0,v1,v2,v3,v4,v5,F0,F1,F2,F3,F4,F5,rfl,h0,h1,h2,h3,h4,h5,r6,rfl⟩,hat,ho⟩:=h;refine⟨F5,?_⟩;have hl:=Lens.field (x:=x) (y:=x.Holds) (put:=fun y => { x with Holds:=y }) (A:=[v0,v1,v2,v3,v4]) (csy:=[v5]) (B:=[.int .i64 x.Tick]) (F1:=F0++(F1++(F2++(F3++F4)))) (Fy:=F5) (F2:=[]) 5 rfl rfl (by simpa using hat) (by simpa [List.append_assoc] using ho.1) (fun k hk=>ho.lt (by simpa [List.append_assoc] using hk)) ⟨_,rfl,h5⟩ ?_
 ·simpa [List.append_assoc] using hl
 ·intro w' csy' y' Fy' hk hy;obtain⟨v,rfl,k⟩:=hy;exact⟨_,_,_,_,_,_,_,_,_,_,_,_,rfl,h0.keep (fun k h=>hk k (by simp[h])),h1.keep (fun k h=>hk k (by simp[h])),h2.keep (fun k h=>hk k (by simp[h])),h3.keep (fun k h=>hk k (by simp[h])),h4.keep (fun k h=>hk k (by simp[h])),k,r6,by simp[List.append_assoc]⟩
theorem Om.lMachineTick{L:Nat}{w:World}{b o:Nat}{x:Machine}{F:List Nat}(h:Om L w b o x F):∃ Fy,Lens w b o x F b (o+6) x.Tick Fy (fun y => { x with Tick:=y }):=by
 obtain⟨cs,⟨v0,v1,v2,v3,v4,v5,F0,F1,F2,F3,F4,F5,rfl,h0,h1,h2,h3,h4,h5,r6,rfl⟩,hat,ho⟩:=h;refine⟨[],?_⟩;have hl:=Lens.field (x:=x) (y:=x.Tick) (put:=fun y => { x with Tick:=y }) (A:=[v0,v1,v2,v3,v4,v5]) (csy:=[.int .i64 x.Tick]) (B:=[]) (F1:=F0++(F1++(F2++(F3++(F4++F5))))) (Fy:=[]) (F2:=[]) 6 rfl rfl (by simpa using hat) (by simpa [List.append_assoc] using ho.1) (fun k hk=>ho.lt (by simpa [List.append_assoc] using hk)) ⟨rfl,r6,rfl⟩ ?_
 ·simpa [List.append_assoc] using hl
 ·intro w' csy' y' Fy' hk hy;obtain⟨rfl,q,rfl⟩:=hy;exact⟨_,_,_,_,_,_,_,_,_,_,_,_,rfl,h0.keep (fun k h=>hk k (by simp[h])),h1.keep (fun k h=>hk k (by simp[h])),h2.keep (fun k h=>hk k (by simp[h])),h3.keep (fun k h=>hk k (by simp[h])),h4.keep (fun k h=>hk k (by simp[h])),h5.keep (fun k h=>hk k (by simp[h])),q,by simp[List.append_assoc]⟩
class Fl (α:Type) [GT α]:Prop where
 nof:∀ {w:World} {cs:List Value} {x : α} {F:List Nat},GT.enc w cs x F->F = []
instance:Fl Int:=⟨by rintro w cs x F ⟨_,_,rfl⟩;rfl⟩
instance:Fl Window:=⟨by rintro w cs x F ⟨_,_,_,rfl⟩;rfl⟩
instance:Fl Channel:=⟨by rintro w cs x F ⟨_,_,_,_,_,rfl⟩;rfl⟩
instance:Fl Slot:=⟨by rintro w cs x F ⟨_,_,_,rfl⟩;rfl⟩
instance:Fl Order:=⟨by rintro w cs x F ⟨_,_,_,_,rfl⟩;rfl⟩
theorem Row.fl{α:Type}[GT α][Fl α]{w:World}{b:Nat}{xs:List α}:∀ {o:Nat} {F:List Nat},Row w b o xs F->F = []:=by
 induction xs with
 | nil=>intro o F h;exact h
 | cons x xs ih =>
  intro o F h;obtain⟨cs,F1,F2,he,ha,rfl,hr⟩:=h;rw[Fl.nof he,ih hr];rfl
theorem Oa.fl{α:Type}[GT α][Fl α]{e:TypeId}{L:Nat}{w:World}{v:Value}{xs:List α}{F:List Nat}(h:Oa e L w v xs F):F = []:=by
 rcases h with ⟨_,_,rfl⟩ | ⟨g,cap,cur,rfl,hL,hg,hl,hc,hs,hr,hn⟩
 ·rfl
 ·exact hr.fl
theorem Oa.osF{α:Type}[GT α][Fl α]{e:TypeId}{L:Nat}{w:World}{v:Value}{xs:List α}{F:List Nat}(h:Oa e L w v xs F):Os L w v xs:=by
 have:=h.fl;subst this;exact h.os (Own.nil _ _)
theorem zCy{P:Program}{w:World}(t ty e:TypeId)(i:TypeInfo)(ht:P.underlying t=some (.slice e))(hi:P.info? e=some i)(ad a:Option Addr)(n cap c:Nat)(hn:n<=cap) :
  (Builtin.append_ #[t,t] ty #[.slice ad n cap,.slice a 0 c]).run P w = .ok (.slice ad n cap) w:=by
 cases ad<;>cases a<;>simp[Builtin.append_,run_underlying ht,Go.sizeOf,typeInfo,hi,Builtin.lenOf,Builtin.firstCells,loadCells,loadCellsFrom,storeCells,hn]
theorem zIu(w:World)(row:Option Nat):w.grownBy w row:=⟨rfl,rfl,rfl,Nat.le_refl _,fun _ _ _=>rfl⟩
theorem wp_appF{α:Type}[GT α][Fl α]{P:Program}{w:World}{o:Oper}{a:Act}{K:Act->World->Prop}{Q:Exit->Act->World->Prop}(s x:Operand)(t:TypeId)
  (ho:o.op = .call { callee:=.builtin .append,args:=#[s,x],argTypes:=#[t,t] }) (e:TypeId) (ht:P.underlying t=some (.slice e)) (hel:El P e α)
  {L:Nat} {v:Value} {xs ys:List α} (hs:a.eval s=v) (hO:Oa e L w v xs []) {vx:Value} (hx:a.eval x=vx) (hy:Rs w vx ys) (hlen:xs.length+ys.length<=4294967296) (hL:L<=w.heap.size)
  (h:∀ v' w',Oa e L w' v' (xs++ys) []->w.grownBy w' v.ownBlock->K (a.put o.dst v') w'):o.wp P a w K Q:=by
 obtain⟨F,ax,cx,rfl,hl,hc,⟨rfl,rfl⟩ | ⟨hne,b,o',F',rfl,rfl,hr⟩⟩:=hy
 ·obtain⟨i,z,bytes,hi,_⟩:=hel;have hv:∃ ad n cap,v = .slice ad n cap/\n<=cap:=by
   rcases hO with ⟨rfl,_⟩ | ⟨g,cap,cur,rfl,_,_,hn,_⟩
   ·exact⟨_,_,_,rfl,Nat.le_refl _⟩
   ·exact⟨_,_,_,rfl,hn⟩
  obtain⟨ad,n,cap,rfl,hn⟩:=hv;have hr:=zCy (P:=P) (w:=w) t o.type e i ht hi ad ax n cap cx hn;unfold Oper.wp execOp;simp only[ho,resolve,invoke,builtin,Sem.run_bind,Sem.run_pure,Result.andThen_ok,List.map_toArray,List.map_cons,List.map_nil,hs,hx,List.length_nil,hr];exact h _ w (by rw[List.append_nil];exact hO) (zIu _ _)
 ·have:=hr.fl;subst this
  exact wp_app s x t ho e ht hel hs hO hx rfl hr (List.length_pos_iff.2 hne) (fun k hk=>by cases hk) hlen hL h
theorem zFh{α:Type}[GT α][Fl α]{P:Program}{w:World}{ops:Array Oper}{rest:List Oper}{o:Oper}{a:Act}{Q:Exit->Act->World->Prop}(hgd:o.guard=none)(s x:Operand)(t:TypeId)
  (ho:o.op = .call { callee:=.builtin .append,args:=#[s,x],argTypes:=#[t,t] }) (e:TypeId) (ht:P.underlying t=some (.slice e)) (hel:El P e α)
  {L:Nat} {v:Value} {xs ys:List α} (hs:a.eval s=v) (hO:Oa e L w v xs []) {vx:Value} (hx:a.eval x=vx) (hy:Rs w vx ys) (hlen:xs.length+ys.length<=4294967296) (hL:L<=w.heap.size)
  (h:∀ v' w',Oa e L w' v' (xs++ys) []->w.grownBy w' v.ownBlock->wpList P ops Q rest (a.put o.dst v') w'):wpList P ops Q (o::rest) a w :=
 wpList_plain hgd fun _ hK=>wp_appF s x t ho e ht hel hs hO hx hy hlen hL fun v' w' h1 h2=>hK _ _ (h v' w' h1 h2)
theorem wp_lit0c{α:Type}[GT α][Fl α]{P:Program}{w:World}{o:Oper}{a:Act}{K:Act->World->Prop}{Q:Exit->Act->World->Prop}(s x:Operand)(t:TypeId)
  (ho:o.op = .call { callee:=.builtin .append,args:=#[s,x],argTypes:=#[t,t] }) (e:TypeId) (ht:P.underlying t=some (.slice e)) (hel:El P e α)
  {B:Nat} {ys:List α} (hs:a.eval s = .slice (some ⟨B,0,none⟩) 0 0) {vx:Value} (hx:a.eval x=vx) (hy:Rs w vx ys) (hne:ys ≠ []) (hlen:ys.length<=4294967296)
  (h:∀ cap C,Os w.heap.size (w.drew.alloc (.cells C e)) (.slice (some ⟨w.heap.size,0,none⟩) ys.length cap) ys->K (a.put o.dst (.slice (some ⟨w.heap.size,0,none⟩) ys.length cap)) (w.drew.alloc (.cells C e))):o.wp P a w K Q:=by
 obtain⟨F,ax,cx,rfl,hl,hc,⟨rfl,rfl⟩ | ⟨_,b,o',F',rfl,rfl,hr⟩⟩:=hy
 ·exact absurd rfl hne
 have hf:=hr.fl;subst hf;obtain⟨i,z,bytes,hi,hz,hsz,hby,hzc,hb⟩:=hel;have hzl:z.cells.size=GT.sz α:=by rw[<- GT.len (GT.zero (α:=α) w),<- hzc];simp
 obtain⟨news,hnl,hnat,hn1⟩:=hr.cells;have hadd:∀ (b' o' j:Nat),Addr.add ⟨b',o',none⟩ j=⟨b',o'+j,none⟩:=fun b' o' j=>by
  unfold Addr.add;split;·subst j;rfl
  ·rfl
 have hpos:0 < ys.length:=List.length_pos_iff.2 hne;have hbytes:(0+ys.length)*i.bytes<=140737488355328:=by
  rw[Nat.zero_add,hby]
  have:=Nat.mul_le_mul hlen hb
  omega
 have hrun:=run_append_grow (P:=P) w t o.type e i z ht hi hz ⟨B,0,none⟩ 0 0 [] (by simp) (fun j u hj=>by simp at hj) ⟨b,o',none⟩ ys.length cx news (by rw[hsz];exact hnl) (fun j u hj=>by rw[hadd];exact hnat j u hj) (by omega) (by omega) (growslice_fits (by omega) hbytes)
 rw[Nat.zero_add] at hrun;have hge:=grownCap_ge w ys.length 0 e;have hcm:grownCap w ys.length 0 e<=maxLen:=grownCap_le_maxLen w ys.length 0 e (by unfold maxLen;omega)
 unfold Oper.wp execOp;simp only[ho,resolve,invoke,builtin,Sem.run_bind,Sem.run_pure,Result.andThen_ok,List.map_toArray,List.map_cons,List.map_nil,hs,hx,hrun];refine h (grownCap w ys.length 0 e) _ ?_;have hB:(w.drew.alloc (.cells (([]:List Value).toArray++news.toArray++Builtin.zeroCells z.cells (grownCap w ys.length 0 e - ys.length)) e)).heap[w.heap.size]? = some (.cells (([]:List Value).toArray++news.toArray++Builtin.zeroCells z.cells (grownCap w ys.length 0 e - ys.length)) e (0,0)):=by
  show(w.heap.push _)[w.heap.size]? = _
  simp
 refine⟨[w.heap.size],⟨_,_,rfl,hge,hcm,.inr ⟨hne,w.heap.size,0,[],rfl,rfl,?_⟩⟩,by simp,fun k hk=>?_⟩
 ·refine hr.move (fun k hk=>by cases hk) fun j u hj hu=>?_
  have hj2:j < news.length:=by omega
  have h1:=hnat j news[j] (by simp[hj2])
  rw[h1] at hu;cases hu;rw[Nat.zero_add];refine(Bk.ofA hB).cell ?_;simp only[Array.toList_append,List.nil_append,List.append_assoc];rw[List.getElem?_append_left (by simpa using hj2)]
  simp[hj2]
 ·rw[List.mem_singleton] at hk;subst hk;exact⟨Nat.le_refl _,_,_,Bk.ofA hB⟩
theorem wp_lit0n{P:Program}{w:World}{o:Oper}{a:Act}{K:Act->World->Prop}{Q:Exit->Act->World->Prop}(s x:Operand)(t:TypeId)
  (ho:o.op = .call { callee:=.builtin .append,args:=#[s,x],argTypes:=#[t,t] }) (e:TypeId) (ht:P.underlying t=some (.slice e)) {α:Type} [GT α] (hel:El P e α)
  {B:Nat} (hs:a.eval s = .slice (some ⟨B,0,none⟩) 0 0) {ax:Option Addr} {cx n:Nat} (hx:a.eval x = .slice ax n cx) (hn:n=0)
  (h:K (a.put o.dst (.slice (some ⟨B,0,none⟩) 0 0)) w):o.wp P a w K Q:=by
 subst hn;obtain⟨i,z,bytes,hi,_⟩:=hel;have hr:=zCy (P:=P) (w:=w) t o.type e i ht hi (some ⟨B,0,none⟩) ax 0 0 cx (Nat.le_refl _);unfold Oper.wp execOp;simp only[ho,resolve,invoke,builtin,Sem.run_bind,Sem.run_pure,Result.andThen_ok,List.map_toArray,List.map_cons,List.map_nil,hs,hx,hr];exact h
end Sk
