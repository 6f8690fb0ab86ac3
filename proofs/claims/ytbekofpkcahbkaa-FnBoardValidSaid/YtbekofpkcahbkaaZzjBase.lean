/- Contracts of functions of the given program. -/
import Derived.Test.YtbekofpkcahbkaaZxMch
import Derived.Test.YtbekofpkcahbkaaBoardV
import Derived.Test.YtbekofpkcahbkaaTrn
namespace Sk
open Go Go.Proofs Go.RowKit
set_option maxHeartbeats 4000000
set_option maxRecDepth 100000
set_option linter.unusedVariables false
set_option linter.unusedSimpArgs false
theorem Oa.slF{α:Type}[GT α]{e:TypeId}{L:Nat}{w:World}{v:Value}{xs:List α}{F:List Nat}(h:Oa e L w v xs F):∃ F',Sl w v xs F'/\∀ k∈F',v.ownBlock=some k\/k∈F:=by
 rcases h with ⟨rfl,rfl,rfl⟩ | ⟨g,cap,cur,rfl,hL,hg,hl,hc,hs,hr,hn⟩
 ·exact⟨[],⟨none,0,rfl,Nat.le_refl _,Nat.zero_le _,.inl ⟨rfl,rfl⟩⟩,fun k hk=>by cases hk⟩
 ·by_cases hx:xs = []
  ·subst hx;exact⟨[],⟨_,cap,rfl,hl,hc,.inl ⟨rfl,rfl⟩⟩,fun k hk=>by cases hk⟩
  ·exact⟨g::F,⟨_,cap,rfl,hl,hc,.inr ⟨hx,g,0,F,rfl,rfl,hr⟩⟩,fun k hk=>by
    rcases List.mem_cons.1 hk with rfl|hk
    ·exact .inl rfl
    ·exact .inr hk⟩
set_option maxHeartbeats 1000000
theorem Mw.row{α:Type}[GT α]{F G:List Nat}{a b:World}{g o:Nat}{xs:List α}(h:Mw F a b)(k:Row a g o xs G)(hg:g < a.heap.size)(hgF:g ∉ F)(hd:∀ y∈G,y ∉ F):Row b g o xs G :=
 k.keep (h.2.2 g hg hgF) (fun y hy=>h.2.2 y (k.inh y hy) (hd y hy))
theorem Oa.mwF{α:Type}[GT α]{e:TypeId}{L:Nat}{w w':World}{v:Value}{xs:List α}{F G:List Nat}(h:Oa e L w v xs F)(k:Mw G w w')(hv:∀ y∈G,v.ownBlock≠some y)(hF:∀ y∈G,y ∉ F):Oa e L w' v xs F:=by
 rcases h with h | ⟨g,cap,cur,rfl,hL,hg,hl,hc,hs,hr,hn⟩
 ·exact .inl h
 ·have hgl:g < w.heap.size:=(Bk.ofA hg).lt;have hb:=k.2.2 g hgl (fun hm=>hv g hm rfl)
  exact .inr ⟨g,cap,cur,rfl,hL,by rw[hb];exact hg,hl,hc,hs,hr.keep hb (fun y hy=>k.2.2 y (hr.inh y hy) (fun hm=>hF y hm hy)),hn⟩
theorem Oa.inh{α:Type}[GT α]{e:TypeId}{L:Nat}{w:World}{v:Value}{xs:List α}{F:List Nat}(h:Oa e L w v xs F):∀ k∈F,k < w.heap.size:=by
 rcases h with ⟨_,_,rfl⟩ | ⟨g,cap,cur,rfl,hL,hg,hl,hc,hs,hr,hn⟩
 ·intro k hk;cases hk
 ·exact hr.inh
theorem Oa.nown{α:Type}[GT α]{e:TypeId}{L:Nat}{w:World}{v:Value}{xs:List α}{F:List Nat}(h:Oa e L w v xs F):∀ k,v.ownBlock=some k->k ∉ F:=by
 rcases h with ⟨rfl,_⟩ | ⟨g,cap,cur,rfl,hL,hg,hl,hc,hs,hr,hn⟩
 ·intro k hk;cases hk
 ·intro k hk;cases hk;exact hn
theorem zH9{l:List Nat}{q:Nat}{X:Nat->Prop}(h:∀ j∈l,j≠q->X j)(hq:q ∉ l):∀ j∈l,X j:=fun j hj=>h j hj (fun e=>hq (e ▸ hj))
theorem zEa{α:Type}[GT α]{P:Program}{w:World}{ops:Array Oper}{rest:List Oper}{o:Oper}{a:Act}{Q:Exit->Act->World->Prop}(hgd:o.guard=none)(s x:Operand)(t:TypeId)
  (ho:o.op = .call { callee:=.builtin .append,args:=#[s,x],argTypes:=#[t,t] }) (e:TypeId) (ht:P.underlying t=some (.slice e)) (hel:El P e α)
  {L:Nat} {v:Value} {xs ys:List α} {F Fy:List Nat} (hs:a.eval s=v) (hO:Oa e L w v xs F) {ab ao m c:Nat} (hx:a.eval x = .slice (some ⟨ab,ao,none⟩) m c) (hm:ys.length=m) (hy:Row w ab ao ys Fy)
  (hm0:0 < m) (hd:∀ k∈Fy,v.ownBlock≠some k) (hlen:xs.length+m<=4294967296) (hL:L<=w.heap.size)
  (h:∀ v' w',Oa e L w' v' (xs++ys) (F++Fy)->w.grownBy w' v.ownBlock->(v'.ownBlock=v.ownBlock\/v'.ownBlock=some w.heap.size)->wpList P ops Q rest (a.put o.dst v') w'):wpList P ops Q (o::rest) a w :=
 wpList_plain hgd fun _ hK=>zGk s x t ho e ht hel hs hO hx hm hy hm0 hd hlen hL fun v' w' h1 h2 h3=>hK _ _ (h v' w' h1 h2 h3)
theorem wp_lit0o{α:Type}[GT α][Fl α]{P:Program}{w:World}{o:Oper}{a:Act}{K:Act->World->Prop}{Q:Exit->Act->World->Prop}(s x:Operand)(t:TypeId)
  (ho:o.op = .call { callee:=.builtin .append,args:=#[s,x],argTypes:=#[t,t] }) (e:TypeId) (ht:P.underlying t=some (.slice e)) (hel:El P e α)
  {B:Nat} {ys:List α} (hs:a.eval s = .slice (some ⟨B,0,none⟩) 0 0) {vx:Value} (hx:a.eval x=vx) (hy:Rs w vx ys) (hne:ys ≠ []) (hlen:ys.length<=4294967296)
  (h:∀ v' w',Oa e w.heap.size w' v' ys []->v'.ownBlock=some w.heap.size->Ext w w'->K (a.put o.dst v') w'):o.wp P a w K Q:=by
 obtain⟨F,ax,cx,rfl,hl,hc,⟨rfl,rfl⟩ | ⟨_,b,o',F',rfl,rfl,hr⟩⟩:=hy
 ·exact absurd rfl hne
 have hf:=hr.fl;subst hf;obtain⟨i,z,bytes,hi,hz,hsz,hby,hzc,hb⟩:=hel;have hzl:z.cells.size=GT.sz α:=by rw[<- GT.len (GT.zero (α:=α) w),<- hzc];simp
 obtain⟨news,hnl,hnat,hn1⟩:=hr.cells;have hadd:∀ (b' o' j:Nat),Addr.add ⟨b',o',none⟩ j=⟨b',o'+j,none⟩:=fun b' o' j=>by
  unfold Addr.add;split;·subst j;rfl
  ·rfl
 have hpos:0 < ys.length:=List.length_pos_iff.2 hne;have hbytes:(0+ys.length)*i.bytes<=140737488355328:=by
  rw[Nat.zero_add,hby]
  have:=Nat.mul_le_mul hlen hb
  omega
 have hrun:=run_append_grow (P:=P) w t o.type e i z ht hi hz ⟨B,0,none⟩ 0 0 [] (by simp) (fun j u hj=>by simp at hj) ⟨b,o',none⟩ ys.length cx news (by rw[hsz];exact hnl) (fun j u hj=>by rw[hadd];exact hnat j u hj) (by omega) (by omega) (growslice_fits (by omega) hbytes)
 rw[Nat.zero_add] at hrun;have hge:=grownCap_ge w ys.length 0 e;have hcm:grownCap w ys.length 0 e<=maxLen:=grownCap_le_maxLen w ys.length 0 e (by unfold maxLen;omega)
 unfold Oper.wp execOp;simp only[ho,resolve,invoke,builtin,Sem.run_bind,Sem.run_pure,Result.andThen_ok,List.map_toArray,List.map_cons,List.map_nil,hs,hx,hrun];have hB:(w.drew.alloc (.cells (([]:List Value).toArray++news.toArray++Builtin.zeroCells z.cells (grownCap w ys.length 0 e - ys.length)) e)).heap[w.heap.size]? = some (.cells (([]:List Value).toArray++news.toArray++Builtin.zeroCells z.cells (grownCap w ys.length 0 e - ys.length)) e (0,0)):=by
  show(w.heap.push _)[w.heap.size]? = _
  simp
 refine h _ _ (.inr ⟨w.heap.size,_,_,rfl,Nat.le_refl _,hB,hge,hcm,?_,?_,by simp⟩) rfl ((zr w).drew.alloc _)
 ·simp only[Array.size_append,List.size_toArray,List.length_nil,zFs,hzl,hnl,Nat.zero_add];rw[<- Nat.add_mul]
  congr 1
  omega
 ·refine hr.move (fun k hk=>by cases hk) fun j u hj hu=>?_
  have hj2:j < news.length:=by omega
  have h1:=hnat j news[j] (by simp[hj2])
  rw[h1] at hu;cases hu;rw[Nat.zero_add];refine(Bk.ofA hB).cell ?_;simp only[Array.toList_append,List.nil_append,List.append_assoc];rw[List.getElem?_append_left (by simpa using hj2)]
  simp[hj2]
theorem zFh{α:Type}[GT α][Fl α]{P:Program}{w:World}{ops:Array Oper}{rest:List Oper}{o:Oper}{a:Act}{Q:Exit->Act->World->Prop}(hgd:o.guard=none)(s x:Operand)(t:TypeId)
  (ho:o.op = .call { callee:=.builtin .append,args:=#[s,x],argTypes:=#[t,t] }) (e:TypeId) (ht:P.underlying t=some (.slice e)) (hel:El P e α)
  {B:Nat} {ys:List α} (hs:a.eval s = .slice (some ⟨B,0,none⟩) 0 0) {vx:Value} (hx:a.eval x=vx) (hy:Rs w vx ys) (hlen:ys.length<=4294967296)
  (h:∀ v' w',(ys = []/\v' = .slice (some ⟨B,0,none⟩) 0 0/\w'=w\/ys ≠ []/\Oa e w.heap.size w' v' ys []/\v'.ownBlock=some w.heap.size/\Ext w w')->wpList P ops Q rest (a.put o.dst v') w'):wpList P ops Q (o::rest) a w:=by
 refine wpList_plain hgd fun K hK=>?_
 by_cases hne:ys = []
 ·obtain⟨F,ax,cx,rfl,hl,hc,_⟩:=hy;exact zI3 (α:=α) s x t ho e ht hel hs hx (by rw[hne];rfl) (hK _ _ (h _ w (.inl ⟨hne,rfl,rfl⟩)))
 ·exact wp_lit0o s x t ho e ht hel hs hx hy hne hlen fun v' w' h1 h2 h3=>hK _ _ (h v' w' (.inr ⟨hne,h1,h2,h3⟩))
theorem Rsb.machine{L:Nat}{w:World}{a:Option Addr}{n c:Nat}{xs:List Machine}(h:Rsb L w (.slice a n c) xs)(k:Nat)(hk:k < xs.length) :
  ∃ g s m a4 c4,a=some ⟨g,s,none⟩/\L<=g/\g < w.heap.size/\Hid (xs[k]? = some m)/\w.cell? ⟨g,s+k*7+4,none⟩=some (.slice a4 m.Cores.length c4)/\Hid (Rsb L w (.slice a4 m.Cores.length c4) m.Cores):=by
 obtain⟨F,⟨a',c',he,hl,hc,⟨rfl,rfl⟩ | ⟨hne,b,o,F',rfl,rfl,hr⟩⟩,hL⟩:=h
 ·cases hk
 ·cases he;obtain⟨cs,F1,m,h0,h1,h2,h3⟩:=hr.get k hk;obtain⟨v0,v1,v2,v3,v4,v5,G0,G1,G2,G3,G4,G5,rfl,-,-,-,-,s4,-,-,rfl⟩:=h1;obtain⟨a4,c4,rfl,-⟩:=id s4;exact⟨b,o,m,a4,c4,rfl,hL b (List.mem_cons_self ..),hr.lt hne,zh h0,by simpa [GT.sz] using h2 4 _ rfl,zh ⟨G4,s4,fun y hy=>hL y (List.mem_cons_of_mem _ (h3 y (by simp[hy])))⟩⟩
theorem Rsb.core{L:Nat}{w:World}{a:Option Addr}{n c:Nat}{xs:List Core}(h:Rsb L w (.slice a n c) xs)(k:Nat)(hk:k < xs.length) :
  ∃ g s m a4 c4,a=some ⟨g,s,none⟩/\L<=g/\g < w.heap.size/\Hid (xs[k]? = some m)/\w.cell? ⟨g,s+k*3,none⟩=some (.slice a4 m.Cells.length c4):=by
 obtain⟨F,⟨a',c',he,hl,hc,⟨rfl,rfl⟩ | ⟨hne,b,o,F',rfl,rfl,hr⟩⟩,hL⟩:=h
 ·cases hk
 ·cases he;obtain⟨cs,F1,m,h0,h1,h2,h3⟩:=hr.get k hk;obtain⟨v0,rfl,s0,-⟩:=h1;obtain⟨a0,c0,rfl,-⟩:=id s0;exact⟨b,o,m,a0,c0,rfl,hL b (List.mem_cons_self ..),hr.lt hne,zh h0,by simpa [GT.sz] using h2 0 _ rfl⟩
theorem zBm.cores5{m:Machine}(h:zBm m):m.Cores.length<=5:=by have:=h.nc;have:=zAs h.pg.set;omega
theorem zBm.cells8{m:Machine}(h:zBm m){k:Nat}{c:Core}(hc:m.Cores[k]? = some c):c.Cells.length<=8:=by
 obtain⟨c1,p1,q1,a1,a2,a3,a4,_⟩:=h.at (zAc hc);rw[hc] at a1;cases a1;have h1:=(zAh.1 a4).1;have h2:=zA4.1 (zFw h.pg.set (List.mem_of_getElem? a3)).2;omega
theorem Oa.ownL{α:Type}[GT α]{e:TypeId}{L:Nat}{w:World}{v:Value}{xs:List α}{F:List Nat}(h:Oa e L w v xs F):Own L w v.ownBlock.toList:=by
 rcases h with ⟨rfl,_⟩ | ⟨g,cap,cur,rfl,hL,hg,hl,hc,hs,hr,hn⟩
 ·exact Own.nil _ _
 ·exact⟨by simp[Value.ownBlock],fun k hk=>by
   have e:k=g:=by simpa [Value.ownBlock] using hk
   subst e;exact⟨hL,_,_,Bk.ofA hg⟩⟩
theorem Tn.row{α:Type}[GT α]{L:Nat}{p:Prop}{F:List Nat}{w w':World}(h:Tn L p F w w'){b o:Nat}{x : α}(k:Row w b o [x] [])(hb:b∈F):Row w' b o [x] []:=by
 obtain⟨G,h1,h2⟩:=h;exact h2.row k (k.lt (by simp)) (fun hm=>(h1 b hm).1 hb) (fun y hy=>by cases hy)
theorem Tn.oa{α:Type}[GT α]{e:TypeId}{L M:Nat}{p:Prop}{w w':World}{v:Value}{xs:List α}(h:Tn L p v.ownBlock.toList w w')(k:Oa e M w v xs []):Oa e M w' v xs []:=by
 obtain⟨G,h1,h2⟩:=h;exact k.mwF h2 (fun y hy e=>(h1 y hy).1 (by simp[e])) (fun y hy hm=>by cases hm)
theorem Row.rs1{α:Type}[GT α]{w:World}{b:Nat}{x : α}{F:List Nat}(h:Row w b 0 [x] F):Rs w (.slice (some ⟨b,0,none⟩) 1 1) [x]:=⟨b::F,_,1,rfl,Nat.le_refl _,by unfold maxLen;omega,.inr ⟨by simp,b,0,F,rfl,rfl,h⟩⟩
structure M.B1 (eM T:TypeId) (W w:World) (b mm A B:Nat) (u:World) (v:Value) (xs:List Machine) (F:List Nat):Prop where
 mw:Mw [b] w u
 rd:Rd W u b mm
 ka:Bk u A [.slice none 0 0,.slice none 0 0] T
 kb:Bk u B [v,.slice none 0 0] T
 oa:Oa eM (B+1) u v xs F
 fl:∀ k∈F,B+1<=k
 mv:∀ x∈xs,zBm x/\1<=x.Cores.length
structure zF2 (eM eW T:TypeId) (W w:World) (b mm A B L:Nat) (u:World) (v0 v1:Value) (xs:List Machine) (F:List Nat) (ws:List Wire):Prop where
 mw:Mw [b] w u
 rd:Rd W u b mm
 ka:Bk u A [.slice none 0 0,.slice none 0 0] T
 kb:Bk u B [v0,v1] T
 oa:Oa eM (B+1) u v0 xs F
 fl:∀ k∈F,B+1<=k
 hi:∀ k,(v0.ownBlock=some k\/k∈F)->k < L
 ow:Oa eW L u v1 ws []
 lu:L<=u.heap.size
 bl:B < L
theorem M.B1.to2{eM T:TypeId}(eW:TypeId){W w:World}{b mm A B:Nat}{u:World}{v:Value}{xs:List Machine}{F:List Nat}(h:M.B1 eM T W w b mm A B u v xs F):zF2 eM eW T W w b mm A B u.heap.size u v (.slice none 0 0) xs F [] :=
 ⟨h.mw,h.rd,h.ka,h.kb,h.oa,h.fl,fun k hk=>hk.elim (h.oa.lt k) (h.oa.inh k),Oa.nil _ _ _,Nat.le_refl _,h.kb.lt⟩
theorem zF2.boxes{eM eW T:TypeId}{W w:World}{b mm A B L:Nat}{u:World}{v0 v1:Value}{xs:List Machine}{F:List Nat}{ws:List Wire}(h:zF2 eM eW T W w b mm A B L u v0 v1 xs F ws):Rsb (B+1) u v0 xs:=by
 obtain⟨F',h1,h2⟩:=h.oa.slF;exact⟨F',h1,fun k hk=>(h2 k hk).elim (h.oa.own k) (h.fl k)⟩
theorem zF2.go{eM eW T:TypeId}{W w:World}{b mm m2 A B L:Nat}{u u2:World}{v0 v1:Value}{xs:List Machine}{F:List Nat}{ws:List Wire}{G:List Nat}(h:zF2 eM eW T W w b mm A B L u v0 v1 xs F ws)(k:Mw G u u2)(hr:Rd W u2 b m2)(hbA:b < A)(hAB:A < B)(hwA:w.heap.size<=A)
  (hG:∀ y∈G,y=b\/L<=y/\v1.ownBlock≠some y):zF2 eM eW T W w b m2 A B L u2 v0 v1 xs F ws:=by
 have hbl:=h.bl;have hA:A ∉ G:=fun hm=>by rcases hG A hm with e|e<;>omega
 have hB:B ∉ G:=fun hm=>by rcases hG B hm with e|e<;>omega
 have hs:=k.size;have hlu:=h.lu;refine⟨h.mw.trF k fun y hy=>?_,hr,k.bk h.ka hA,k.bk h.kb hB,h.oa.mwF k (fun y hy e=>?_) (fun y hy hm=>?_),h.fl,h.hi,h.ow.mwF k (fun y hy e=>?_) (fun y hy hm=>by cases hm),by omega,h.bl⟩
 ·rcases hG y hy with e|e
  ·exact .inl (by simp[e])
  ·exact .inr (by omega)
 ·have h1:=h.oa.own y e;have h2:=h.hi y (.inl e);rcases hG y hy with e|e<;>omega
 ·have h1:=h.fl y hm;have h2:=h.hi y (.inr hm);rcases hG y hy with e|e<;>omega
 ·have h1:=h.ow.own y e;rcases hG y hy with e2|e2
  ·omega
  ·exact e2.2 e
theorem zF2.wires{eM eW T:TypeId}{W w:World}{b mm A B L L2:Nat}{u:World}{v0 v1 v9:Value}{xs:List Machine}{F:List Nat}{ws ys:List Wire}(h:zF2 eM eW T W w b mm A B L u v0 v1 xs F ws)(hbA:b < A)(hAB:A < B)(hwA:w.heap.size<=A)(hWw:W.heap.size<=w.heap.size)(ho:Oa eW L2 u v9 ys [])(hL:L<=L2) :
  zF2 eM eW T W w b mm A B L ((u.setCell ⟨B,0,none⟩ v0).setCell ⟨B,1,none⟩ v9) v0 v9 xs F ys:=by
 have hbl:=h.bl;have k:Mw [B] u ((u.setCell ⟨B,0,none⟩ v0).setCell ⟨B,1,none⟩ v9):=((Mw.refl [B] u).set (p:=⟨B,0,none⟩) (by simp) v0).set (p:=⟨B,1,none⟩) (by simp) v9
 refine⟨h.mw.trF k fun y hy=>?_,h.rd.mw k (by simp;omega) (by simp;omega),k.bk h.ka (by simp;omega),?_,h.oa.mwF k (fun y hy e=>?_) (fun y hy hm=>?_),h.fl,h.hi,(ho.mono hL).mwF k (fun y hy e=>?_) (fun y hy hm=>by cases hm),by simp;exact h.lu,h.bl⟩
 ·rw[List.mem_singleton] at hy;exact .inr (by omega)
 ·have:=(h.kb.set 0 v0).set 1 v9
  simpa using this
 ·rw[List.mem_singleton] at hy;have:=h.oa.own y e;omega
 ·rw[List.mem_singleton] at hy;have:=h.fl y hm;omega
 ·rw[List.mem_singleton] at hy;have:=(ho.mono hL).own y e;omega
structure zHa (T:TypeId) (W wr:World) (b mm Q:Nat) (u:World) (cs:List Value):Prop where
 mw:Mw [b] wr u
 rd:Rd W u b mm
 kq:Bk u Q cs T
theorem zHa.put{T:TypeId}{W wr:World}{b mm Q:Nat}{u:World}{cs:List Value}(h:zHa T W wr b mm Q u cs)(hQ:wr.heap.size<=Q)(hW:W.heap.size<=Q)(hb:b≠Q)(j:Nat)(v:Value):zHa T W wr b mm Q (u.setCell ⟨Q,j,none⟩ v) (cs.set j v) :=
 ⟨h.mw.set (p:=⟨Q,j,none⟩) (.inr hQ) v,h.rd.set (p:=⟨Q,j,none⟩) hb hW v,h.kq.set j v⟩
theorem zF2.put1{eM eW T:TypeId}{W w:World}{b mm A B L:Nat}{u u2:World}{v0 v1 v9:Value}{xs:List Machine}{F:List Nat}{ws ys:List Wire}(h:zF2 eM eW T W w b mm A B L u v0 v1 xs F ws)(k:Mw v1.ownBlock.toList u u2)(hbA:b < A)(hAB:A < B)(hwA:w.heap.size<=A)(hWw:W.heap.size<=w.heap.size)(ho:Oa eW L u2 v9 ys []) :
  zF2 eM eW T W w b mm A B L (u2.setCell ⟨B,1,none⟩ v9) v0 v9 xs F ys:=by
 have hbl:=h.bl;have hlu:=h.lu;have hs:=k.size;have hG:∀ y∈v1.ownBlock.toList,L<=y:=fun y hy=>h.ow.own y (by simpa using hy)
 have k2:Mw (B::v1.ownBlock.toList) u (u2.setCell ⟨B,1,none⟩ v9):=(k.wide fun y hy=>List.mem_cons_of_mem _ hy).set (p:=⟨B,1,none⟩) (.inl (List.mem_cons_self ..)) v9
 have hN:∀ y,y < L->y≠B->y ∉ B::v1.ownBlock.toList:=fun y h1 h2 hm=>by
  rcases List.mem_cons.1 hm with e|e
  ·exact h2 e
  ·have:=hG y e;omega
 refine⟨h.mw.trF k2 fun y hy=>?_,h.rd.mw k2 (hN b (by omega) (by omega)) (fun y hy=>?_),k2.bk h.ka (hN A (by omega) (by omega)),?_,h.oa.mwF k2 (fun y hy e=>?_) (fun y hy hm=>?_),h.fl,h.hi,ho.mwF ((Mw.refl [B] u2).set (p:=⟨B,1,none⟩) (by simp) v9) (fun y hy e=>?_) (fun y hy hm=>by cases hm),by simp;omega,h.bl⟩
 ·rcases List.mem_cons.1 hy with e|e
  ·exact .inr (by omega)
  ·exact .inr (by have:=hG y e;omega)
 ·rcases List.mem_cons.1 hy with e|e
  ·omega
  ·have:=hG y e;omega
 ·have:=((k.bk h.kb (fun hm=>by have:=hG B hm;omega)).set 1 v9)
  simpa using this
 ·have h1:=h.oa.own y e;have h2:=h.hi y (.inl e);rcases List.mem_cons.1 hy with e2|e2
  ·omega
  ·have:=hG y e2;omega
 ·have h1:=h.fl y hm;have h2:=h.hi y (.inr hm);rcases List.mem_cons.1 hy with e2|e2
  ·omega
  ·have:=hG y e2;omega
 ·rw[List.mem_singleton] at hy;have:=ho.own y e;omega
theorem zF2.le{eM eW T:TypeId}{W w:World}{b mm m2 A B L:Nat}{u:World}{v0 v1:Value}{xs:List Machine}{F:List Nat}{ws:List Wire}(h:zF2 eM eW T W w b mm A B L u v0 v1 xs F ws)(k:m2<=mm):zF2 eM eW T W w b m2 A B L u v0 v1 xs F ws :=
 ⟨h.mw,h.rd.le k,h.ka,h.kb,h.oa,h.fl,h.hi,h.ow,h.lu,h.bl⟩
def M.BD(eW:TypeId)(L:Nat)(w:World)(v:Value)(x:Board):Prop:=∃ v0 v1 F,v = .agg #[v0,v1]/\Sl w v0 x.Boxes F/\Oa eW L w v1 x.Wires []/\(∀ k∈F,L<=k)/\∀ k,v1.ownBlock=some k->k ∉ F
structure M.B4 (eW T:TypeId) (W w:World) (b mm A B:Nat) (u:World) (v0 v1:Value) (x:Board) (F:List Nat):Prop where
 mw:Mw [b] w u
 rd:Rd W u b mm
 ka:Bk u A [.slice none 0 0,.slice none 0 0] T
 kb:Bk u B [v0,v1] T
 sl:Sl u v0 x.Boxes F
 fl:∀ k∈F,B+1<=k
 ow:Oa eW (B+1) u v1 x.Wires []
 ap:∀ k,v1.ownBlock=some k->k ∉ F
 tot:GT.tot x<=900000
theorem zF2.to4{eM eW T:TypeId}{W w:World}{b mm A B L:Nat}{u:World}{v0 v1:Value}{xs:List Machine}{F:List Nat}{ws:List Wire}(h:zF2 eM eW T W w b mm A B L u v0 v1 xs F ws)(ht:GT.tot (⟨xs,ws⟩:Board)<=900000) :
  ∃ F',M.B4 eW T W w b mm A B u v0 v1 ⟨xs,ws⟩ F':=by
 obtain⟨F',h1,h2⟩:=h.oa.slF;have hbl:=h.bl;refine⟨F',h.mw,h.rd,h.ka,h.kb,h1,fun k hk=>(h2 k hk).elim (h.oa.own k) (h.fl k),h.ow.mono (by omega),fun k hk hm=>?_,ht⟩
 have h3:=h.ow.own k hk;have h4:=h.hi k (h2 k hm);omega
theorem zHw{xs:List Machine}{ws:List Wire}(h1:xs.length<=3)(h2:ws.length<=5)(hv:∀ x∈xs,zBm x):GT.tot (⟨xs,ws⟩:Board)<=400000:=by
 have e:GT.tot (⟨xs,ws⟩:Board)=GT.tot xs+GT.tot ws:=rfl;have h3:=zBc 100000 3 xs h1 (fun m hm=>zE2 (hv m hm))
 have h4:=zBc 0 5 ws h2 (fun w _=>Nat.le_refl _)
 omega
end Sk
