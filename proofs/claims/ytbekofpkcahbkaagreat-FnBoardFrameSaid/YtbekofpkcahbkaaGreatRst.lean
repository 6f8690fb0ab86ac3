/- Contracts of functions of the given program. -/
import Derived.Test.YtbekofpkcahbkaaGreatNewC
namespace Sk
open Go Go.Proofs Go.RowKit
set_option maxHeartbeats 4000000
set_option maxRecDepth 100000
set_option linter.unusedVariables false
set_option linter.unusedSimpArgs false
theorem Sl.hd{α:Type}[GT α]{w:World}{g s n c:Nat}{xs:List α}{F:List Nat}(h:Sl w (.slice (some ⟨g,s,none⟩) n c) xs F)(hx:0 < xs.length):g∈F:=by
 obtain⟨a,c',e,_,_,⟨rfl,_⟩ | ⟨_,b,o,F',e2,rfl,_⟩⟩:=h
 ·cases hx
 ·cases e;cases e2;simp
theorem Lens.indexS{α:Type}[GT α]{w:World}{b o:Nat}{xs:List α}{F:List Nat}{a:Option Addr}{n c:Nat}(hs:Sl w (.slice a n c) xs F)(hat:At w b o [.slice a n c])(hnd:(b::F).Nodup)(hlt:∀ k∈b::F,k < w.heap.size)(i:Nat)(hi:i < xs.length) :
  ∃ g s Fy x,a=some ⟨g,s,none⟩/\Hid (xs[i]? = some x)/\(∀ k∈g::Fy,k∈F)/\Lens w b o xs F g (s+i*GT.sz α) x Fy (fun y=>xs.set i y):=by
 obtain⟨a',c',he,hl,hc,⟨rfl,rfl⟩ | ⟨hne,g,s,F',rfl,rfl,hr⟩⟩:=hs
 ·cases hi
 cases he;have hsp:xs=xs.take i++xs[i]::xs.drop (i+1):=by rw[List.getElem_cons_drop,List.take_append_drop]
 have hr':=hr;rw[hsp] at hr';obtain⟨F1,F2,rfl,hr1,hr2⟩:=hr'.split;have hlen:(xs.take i).length=i:=by rw[List.length_take];omega
 rw[hlen] at hr2;obtain⟨cs,F0,F3,henc,hate,rfl,hr3⟩:=hr2;have hb0:=(List.nodup_cons.1 hnd).1;have hnd1:=(List.nodup_cons.1 hnd).2;have hg:=(List.nodup_cons.1 hnd1).1;have hnd2:=(List.nodup_cons.1 hnd1).2;have hlc:=GT.len henc;have hdis:∀ k,k∈F1\/k∈F3->k≠g/\k ∉ F0/\k < w.heap.size:=fun k hk=>by
  have hm:k∈F1++(F0++F3):=zAv.2 (hk.elim .inl (fun h => .inr (.inr h)))
  refine⟨fun e=>hg (e ▸ hm),fun hy=>?_,hlt k (by simp only[List.mem_cons];exact .inr (.inr hm))⟩
  simp only[List.nodup_append,List.mem_append] at hnd2;rcases hk with hk|hk
  ·exact hnd2.2.2 k hk k (.inl hy) rfl
  ·exact hnd2.2.1.2.2 k hy k hk rfl
 refine⟨g,s,F0,xs[i],rfl,by unfold Hid;simp[hi],fun k hk=>(List.mem_cons.1 hk).elim (fun e=>by simp[e]) (fun h=>by simp[h]),?_⟩
 refine { sub:=fun k hk=>?_,nd:=?_,enc:=⟨cs,henc,hate⟩,back:=fun L w' y' Fy' ho hch hz hf=>?_ }
 ·rcases List.mem_cons.1 hk with rfl|hk
  ·simp
  ·simp[hk]
 ·refine List.nodup_cons.2 ⟨fun hm=>hg (zAv.2 (.inr (.inl hm))),?_⟩
  simp only[List.nodup_append] at hnd2;exact hnd2.2.1.1
 ·obtain⟨csy,h1,h2,h3⟩:=hz;have hl':=GT.len h1;have hkeep:∀ k,k∈F1\/k∈F3->w'.heap[k]? = w.heap[k]?:=fun k hk=>hch.keep (hdis k hk).2.2 (hdis k hk).1 (hdis k hk).2.1
  have hbg:b≠g:=fun e=>hb0 (by rw[e];exact List.mem_cons_self ..)
  have hbk:w'.heap[b]? = w.heap[b]?:=hch.keep (hlt b (List.mem_cons_self ..)) hbg (fun hm=>hb0 (List.mem_cons_of_mem _ (zAv.2 (.inr (.inl hm)))))
  have hset:xs.set i y'=xs.take i++y'::xs.drop (i+1):=by rw[List.set_eq_take_append_cons_drop,if_pos hi]
  have h3n:=List.nodup_cons.1 h3.1;have hlt0:∀ k∈F1++(F0++F3),k < w.heap.size:=fun k hk=>hlt k (List.mem_cons_of_mem _ (List.mem_cons_of_mem _ hk))
  have hnew:∀ k,k∈F1++(Fy'++F3)->k∈F1++(F0++F3)\/w.heap.size<=k:=fun k hk=>by
   rcases zAv.1 hk with hm|hm|hm
   ·exact .inl (zAv.2 (.inl hm))
   ·rcases hf k hm with h|h
    ·exact .inl (zAv.2 (.inr (.inl h)))
    ·exact .inr h
   ·exact .inl (zAv.2 (.inr (.inr hm)))
  refine⟨g::(F1++(Fy'++F3)),⟨[.slice (some ⟨g,s,none⟩) xs.length c],⟨_,rfl,some ⟨g,s,none⟩,c,by simp,by simpa using hl,hc,.inr ⟨zJr hne,g,s,_,rfl,rfl,?_⟩⟩,hat.keep hbk,?_,?_⟩,?_,?_⟩
  ·rw[hset];refine Row.append (hr1.move (fun k hk'=>hkeep k (.inl hk')) fun j u hj hu=>?_) ?_
   ·rw[hlen] at hj;rw[hch.cell (by left;omega)];exact hu
   ·rw[hlen];refine⟨csy,Fy',F3,h1,h2,rfl,hr3.move (fun k hk'=>hkeep k (.inr hk')) fun j u hj hu=>?_⟩
    rw[hch.cell (by right;omega)];exact hu
  ·have hgn:g ∉ F1++(Fy'++F3):=fun hm=>by
    rcases zAv.1 hm with hm|hm|hm
    ·exact hg (zAv.2 (.inl hm))
    ·exact h3n.1 hm
    ·exact hg (zAv.2 (.inr (.inr hm)))
   refine List.nodup_cons.2 ⟨fun hm=>?_,List.nodup_cons.2 ⟨hgn,zIn hnd2 h3n.2 fun k hk=>?_⟩⟩
   ·rcases List.mem_cons.1 hm with e|hm
    ·exact hbg e
    ·rcases hnew b hm with h|h
     ·exact hb0 (List.mem_cons_of_mem _ h)
     ·have:=hlt b (List.mem_cons_self ..);omega
   ·rcases hf k hk with h|h
    ·exact⟨fun hm=>(hdis k (.inl hm)).2.1 h,fun hm=>(hdis k (.inr hm)).2.1 h⟩
    ·exact⟨fun hm=>by have:=(hdis k (.inl hm)).2.2;omega,fun hm=>by have:=(hdis k (.inr hm)).2.2;omega⟩
  ·intro k hk;have hold:∀ k,k∈b::g::(F1++(F0++F3))->L<=k/\Fz w' k:=fun k hk=>⟨(ho.2 k hk).1,hch.fzk k (ho.2 k hk).2⟩
   rcases List.mem_cons.1 hk with rfl|hk
   ·exact hold _ (by simp)
   rcases List.mem_cons.1 hk with rfl|hk
   ·exact hold _ (by simp)
   rcases zAv.1 hk with hm|hm|hm
   ·exact hold k (by simp[hm])
   ·exact h3.2 k (List.mem_cons_of_mem _ hm)
   ·exact hold k (by simp[hm])
  ·intro k hk;rcases List.mem_cons.1 hk with rfl|hk
   ·exact .inl (List.mem_cons_self ..)
   ·rcases zAv.1 hk with hm|hm|hm
    ·exact .inl (List.mem_cons_of_mem _ (zAv.2 (.inl hm)))
    ·exact .inr hm
    ·exact .inl (List.mem_cons_of_mem _ (zAv.2 (.inr (.inr hm))))
  ·exact hch.up (fun hm=>by
    rcases List.mem_cons.1 hm with e|hm
    ·exact hbg e
    ·exact hb0 (List.mem_cons_of_mem _ (zAv.2 (.inr (.inl hm))))) (hlt b (List.mem_cons_self ..)) (fun k hk=>by
    rcases List.mem_cons.1 hk with rfl|hk
    ·simp
    ·simp[hk])
theorem Om.idxS{α:Type}[GT α]{L:Nat}{w:World}{b o:Nat}{xs:List α}{F:List Nat}(h:Om L w b o xs F){a:Option Addr}{n c:Nat}(hv:w.cell? ⟨b,o,none⟩=some (.slice a n c))(i:Nat)(hi:i < xs.length) :
  ∃ g s Fy x,a=some ⟨g,s,none⟩/\Hid (xs[i]? = some x)/\(∀ k∈g::Fy,k∈F)/\Lens w b o xs F g (s+i*GT.sz α) x Fy (fun y=>xs.set i y):=by
 obtain⟨cs,⟨v,rfl,hs⟩,hat,ho⟩:=h;have h0:=hat 0 v rfl;rw[Nat.add_zero,hv] at h0;cases h0;exact Lens.indexS hs hat ho.1 (fun k hk=>ho.lt hk) i hi
theorem Lens.fsub{α β:Type}[GT α][GT β]{L:Nat}{w:World}{b o o':Nat}{x : α}{F Fy:List Nat}{y : β}{put : β -> α}(h:Lens w b o x F b o' y Fy put)(ho:Own L w (b::F)):∀ k∈Fy,k∈F/\k≠b:=fun k hk=>by
 have hb:=(h.om ho).bk.2.2.1;rcases List.mem_cons.1 (h.sub k (List.mem_cons_of_mem _ hk)) with e|h1
 ·exact absurd (e ▸ hk) hb
 ·exact⟨h1,fun e=>hb (e ▸ hk)⟩
theorem Om.own0{α:Type}[GT α]{L:Nat}{w:World}{b o:Nat}{x : α}{F:List Nat}(h:Om L w b o x F):Fz w b:=by
 obtain⟨_,_,_,h3⟩:=h;exact(h3.2 b (List.mem_cons_self ..)).2
theorem Om.openM{L:Nat}{w:World}{b:Nat}{m:Machine}{F:List Nat}(h:Om L w b 0 m F):∃ a0 c0 a1 c1 a2 c2 a3 c3 a4 c4 a5 c5,w.cell? ⟨b,0,none⟩=some (.slice a0 m.Plan.Parts.length c0)/\w.cell? ⟨b,1,none⟩=some (.slice a1 m.Plan.Channels.length c1)/\w.cell? ⟨b,2,none⟩=some (.slice a2 m.Plan.Slots.length c2)/\w.cell? ⟨b,3,none⟩=some (.slice a3 m.Programs.length c3)/\w.cell? ⟨b,4,none⟩=some (.slice a4 m.Cores.length c4)/\w.cell? ⟨b,5,none⟩=some (.slice a5 m.Holds.length c5)/\w.cell? ⟨b,6,none⟩=some (.int .i64 m.Tick)/\Rs w (.slice a0 m.Plan.Parts.length c0) m.Plan.Parts/\Rs w (.slice a1 m.Plan.Channels.length c1) m.Plan.Channels/\Rs w (.slice a2 m.Plan.Slots.length c2) m.Plan.Slots/\Rs w (.slice a3 m.Programs.length c3) m.Programs/\Rs w (.slice a4 m.Cores.length c4) m.Cores/\Rs w (.slice a5 m.Holds.length c5) m.Holds:=by
 obtain⟨cs,⟨v0,v1,v2,v3,v4,v5,F0,F1,F2,F3,F4,F5,rfl,h0,h1,h2,h3,h4,h5,r6,rfl⟩,hat,ho⟩:=h;obtain⟨a0,c0,rfl,_⟩:=id h0;obtain⟨a1,c1,rfl,_⟩:=id h1;obtain⟨a2,c2,rfl,_⟩:=id h2;obtain⟨a3,c3,rfl,_⟩:=id h3;obtain⟨a4,c4,rfl,_⟩:=id h4;obtain⟨a5,c5,rfl,_⟩:=id h5;exact⟨_,_,_,_,_,_,_,_,_,_,_,_,by simpa using hat 0 _ rfl,by simpa using hat 1 _ rfl,by simpa using hat 2 _ rfl,by simpa using hat 3 _ rfl,by simpa using hat 4 _ rfl,by simpa using hat 5 _ rfl,by simpa using hat 6 _ rfl,⟨_,h0⟩,⟨_,h1⟩,⟨_,h2⟩,⟨_,h3⟩,⟨_,h4⟩,⟨_,h5⟩⟩
set_option maxHeartbeats 1000000
def zBa(c:Core)(n:Nat)(t:Int)(o:Order):Core :=
 if o.Op=1 then ⟨c.Cells.set o.A.toNat o.B,((c.At.toNat+1) % n:Nat),false⟩
 else if o.Op=2 then ⟨c.Cells.set o.A.toNat ((c.Cells.getD o.A.toNat 0+c.Cells.getD o.B.toNat 0) % 256),((c.At.toNat+1) % n:Nat),false⟩
 else if o.Op=3 then ⟨c.Cells.set o.A.toNat (c.Cells.getD o.B.toNat 0),((c.At.toNat+1) % n:Nat),false⟩
 else if o.Op=7 then ⟨c.Cells.set o.A.toNat (t % 256),((c.At.toNat+1) % n:Nat),false⟩
 else if o.Op=4 then ⟨c.Cells,if c.Cells.getD o.B.toNat 0=0 then o.A else ((c.At.toNat+1) % n:Nat),false⟩
 else if o.Op=8 then ⟨c.Cells,c.At,true⟩
 else ⟨c.Cells,((c.At.toNat+1) % n:Nat),false⟩
theorem zJk{c:Core}{n ib:Nat}{t oa:Int}(h:¬ c.Cells.getD ib 0=0):zBa c n t ⟨4,oa,ib⟩=⟨c.Cells,((c.At.toNat+1) % n:Nat),false⟩:=by
 show(⟨c.Cells,if c.Cells.getD (ib:Int).toNat 0=0 then oa else ((c.At.toNat+1) % n:Nat),false⟩:Core)=_
 rw[Int.toNat_natCast,if_neg h]
theorem zJl{c:Core}{n ib:Nat}{t oa:Int}(h:c.Cells.getD ib 0=0):zBa c n t ⟨4,oa,ib⟩=⟨c.Cells,oa,false⟩:=by
 show(⟨c.Cells,if c.Cells.getD (ib:Int).toNat 0=0 then oa else ((c.At.toNat+1) % n:Nat),false⟩:Core)=_
 rw[Int.toNat_natCast,if_pos h]
def M.oz:Order:=⟨0,0,0⟩
def zAs(c:Core)(p:List Order)(t:Int):Core × Order:=if c.Stopped then (c,M.oz) else (zBa c p.length t (p.getD c.At.toNat M.oz),p.getD c.At.toNat M.oz)
theorem zJm{xs:List Int}:zEd xs=true ↔ ∀ x∈xs,0<=x/\x<=255:=by
 unfold zEd;simp only[List.all_eq_true,zA5]
theorem zAg{c:Core}{n:Nat}{q:Int}:zAu c n q=true ↔ (c.Cells.length:Int)=q/\(0<=c.At/\c.At<=(n:Int) - 1)/\∀ x∈c.Cells,0<=x/\x<=255:=by
 unfold zAu;simp only[Bool.and_eq_true,beq_iff_eq,zA5,zJm]
theorem zDy{xs:List Int}(h:∀ x∈xs,0<=x/\x<=255)(k:Nat){u:Int}(hu:0<=u/\u<=255):∀ x∈xs.set k u,0<=x/\x<=255:=by
 intro x hx;rcases List.mem_or_eq_of_mem_set hx with h1|rfl
 ·exact h x h1
 ·exact hu
theorem zCc{xs:List Int}(h:∀ x∈xs,0<=x/\x<=255)(k:Nat):0<=xs.getD k 0/\xs.getD k 0<=255:=by
 rw[List.getD_eq_getElem?_getD];by_cases hk:k < xs.length
 ·rw[List.getElem?_eq_getElem hk];exact h _ (List.getElem_mem hk)
 ·rw[List.getElem?_eq_none (by omega)];exact⟨by decide,by decide⟩
theorem zBw{c n:Int}{o:Order}(h:zEh c n o=true) :
  (o.Op=1/\(0<=o.A/\o.A < c)/\(0<=o.B/\o.B<=255))\/(o.Op=2/\(0<=o.A/\o.A < c)/\(0<=o.B/\o.B < c))\/(o.Op=3/\(0<=o.A/\o.A < c)/\(0<=o.B/\o.B < c)) \/
  (o.Op=4/\(0<=o.A/\o.A < n)/\(0<=o.B/\o.B < c))\/(o.Op=5/\(0<=o.A/\o.A < 8)/\(0<=o.B/\o.B < c))\/(o.Op=6/\(0<=o.A/\o.A < 8)/\(0<=o.B/\o.B < c)) \/
  (o.Op=7/\(0<=o.A/\o.A < c)/\o.B=0)\/((o.Op=0\/o.Op=8)/\o.A=0/\o.B=0):=by
 unfold zEh zD7 at h
 split at h
 ·simp only[Bool.and_eq_true,zA5] at h;exact .inl ⟨by assumption,by omega,by omega⟩
 split at h
 ·simp only[Bool.and_eq_true,zA5] at h
  rename_i h2
  rcases h2 with h2|h2
  ·exact .inr (.inl ⟨h2,by omega,by omega⟩)
  ·exact .inr (.inr (.inl ⟨h2,by omega,by omega⟩))
 split at h
 ·simp only[Bool.and_eq_true,zA5] at h;exact .inr (.inr (.inr (.inl ⟨by assumption,by omega,by omega⟩)))
 split at h
 ·simp only[Bool.and_eq_true,zA5] at h
  rename_i h2
  rcases h2 with h2|h2
  ·exact .inr (.inr (.inr (.inr (.inl ⟨h2,by omega,by omega⟩))))
  ·exact .inr (.inr (.inr (.inr (.inr (.inl ⟨h2,by omega,by omega⟩)))))
 split at h
 ·simp only[Bool.and_eq_true,zA5,beq_iff_eq] at h;exact .inr (.inr (.inr (.inr (.inr (.inr (.inl ⟨by assumption,by omega,by omega⟩))))))
 split at h
 ·simp only[Bool.and_eq_true,beq_iff_eq] at h
  rename_i h2
  exact .inr (.inr (.inr (.inr (.inr (.inr (.inr ⟨h2,h.1,h.2⟩))))))
 ·cases h
theorem zHy{p:List Order}{q:Int}(h:zBr p q=true){k:Nat}(hk:k < p.length):∃ o,p[k]? = some o/\zEh q p.length o=true:=by
 simp only[zBr,Bool.and_eq_true,List.all_eq_true] at h;exact⟨p[k],List.getElem?_eq_getElem hk,h.2.2 _ (List.getElem_mem hk)⟩
theorem zKj{c:Core}{n:Nat}{q t:Int}{o:Order}(h:zAu c n q=true)(ho:zEh q n o=true)(ht:0<=t):zAu (zBa c n t o) n q=true:=by
 obtain⟨h1,h2,h3⟩:=zAg.1 h;have hm:(c.At.toNat+1) % n < n:=Nat.mod_lt _ (by omega)
 have hx:0<=(((c.At.toNat+1) % n:Nat):Int)/\(((c.At.toNat+1) % n:Nat):Int)<=(n:Int) - 1:=by omega
 have g:=zCc h3;have ho2:=zBw ho;unfold zBa
 split
 ·exact zAg.2 ⟨by simpa using h1,hx,zDy h3 _ (by omega)⟩
 split
 ·exact zAg.2 ⟨by simpa using h1,hx,zDy h3 _ (by omega)⟩
 split
 ·exact zAg.2 ⟨by simpa using h1,hx,zDy h3 _ (g _)⟩
 split
 ·exact zAg.2 ⟨by simpa using h1,hx,zDy h3 _ (by omega)⟩
 split
 ·refine zAg.2 ⟨by simpa using h1,?_,h3⟩
  simp only
  split
  ·omega
  ·exact hx
 split
 ·exact zAg.2 ⟨h1,h2,h3⟩
 ·exact zAg.2 ⟨h1,hx,h3⟩
theorem zFl{c:Core}{p:List Order}{q t:Int}(h:zAu c p.length q=true)(hp:zBr p q=true)(ht:0<=t):zAu (zAs c p t).1 p.length q=true:=by
 unfold zAs
 split
 ·exact h
 ·obtain⟨h1,h2,h3⟩:=zAg.1 h;obtain⟨o,e,ho⟩:=zHy hp (show c.At.toNat < p.length by omega)
  rw[List.getD_eq_getElem?_getD,e];exact zKj h ho ht
theorem zHd{c:Core}{p:List Order}{q t:Int}(h:zAu c p.length q=true)(hp:zBr p q=true):(zAs c p t).2=M.oz\/zEh q p.length (zAs c p t).2=true:=by
 unfold zAs
 split
 ·exact .inl rfl
 ·obtain⟨h1,h2,h3⟩:=zAg.1 h;obtain⟨o,e,ho⟩:=zHy hp (show c.At.toNat < p.length by omega)
  rw[List.getD_eq_getElem?_getD,e];exact .inr ho
theorem zKk{c:Core}{p:List Order}{t:Int}(h:(zAs c p t).2.Op=5\/(zAs c p t).2.Op=6):(zAs c p t).1.Cells=c.Cells:=by
 unfold zAs at *
 split at h
 ·simp[M.oz] at h
 ·rename_i hs
  rw[if_neg hs]
  generalize p.getD c.At.toNat M.oz=o at *
  simp only at h ⊢;unfold zBa;rw[if_neg (by omega),if_neg (by omega),if_neg (by omega),if_neg (by omega),if_neg (by omega),if_neg (by omega)]
theorem Lens.putI{α:Type}[GT α]{L:Nat}{w:World}{b o:Nat}{x : α}{F:List Nat}{b' o':Nat}{y:Int}{Fy:List Nat}{put:Int -> α}(h:Lens w b o x F b' o' y Fy put)(ho:Own L w (b::F))(u:Int)(hu:rng u) :
  ∃ F',Om L (w.setCell ⟨b',o',none⟩ (.int .i64 u)) b o (put u) F'/\(∀ k∈F',k∈F)/\Chg b o (GT.sz α) F w (w.setCell ⟨b',o',none⟩ (.int .i64 u)):=by
 obtain⟨cs,⟨rfl,_,rfl⟩,hat⟩:=h.enc;have h0:=hat 0 _ rfl;rw[Nat.add_zero] at h0;have hbo:Own L w [b']:=⟨by simp,fun k hk=>ho.2 k (h.sub k hk)⟩
 obtain⟨F',h1,h2,h3⟩:=h.back L _ u [] ho ((Chg.refl b' o' 1 [] w).set ⟨Nat.le_refl _,by omega⟩ (.int .i64 u)) ⟨[.int .i64 u],⟨rfl,hu,rfl⟩,fun j v hj=>by
  match j,hj with
  | 0,hj=>cases hj;exact zAw h0,hbo.set _ _⟩ (fun k hk=>by cases hk)
 exact⟨F',h1,fun k hk=>(h2 k hk).elim (fun h=>h) (fun h=>by cases h),h3⟩
theorem Lens.putB{α:Type}[GT α]{L:Nat}{w:World}{b o:Nat}{x : α}{F:List Nat}{b' o':Nat}{y:Bool}{Fy:List Nat}{put:Bool -> α}(h:Lens w b o x F b' o' y Fy put)(ho:Own L w (b::F))(u:Bool) :
  ∃ F',Om L (w.setCell ⟨b',o',none⟩ (.bool u)) b o (put u) F'/\(∀ k∈F',k∈F)/\Chg b o (GT.sz α) F w (w.setCell ⟨b',o',none⟩ (.bool u)):=by
 obtain⟨cs,⟨rfl,rfl⟩,hat⟩:=h.enc;have h0:=hat 0 _ rfl;rw[Nat.add_zero] at h0;have hbo:Own L w [b']:=⟨by simp,fun k hk=>ho.2 k (h.sub k hk)⟩
 obtain⟨F',h1,h2,h3⟩:=h.back L _ u [] ho ((Chg.refl b' o' 1 [] w).set ⟨Nat.le_refl _,by omega⟩ (.bool u)) ⟨[.bool u],⟨rfl,rfl⟩,fun j v hj=>by
  match j,hj with
  | 0,hj=>cases hj;exact zAw h0,hbo.set _ _⟩ (fun k hk=>by cases hk)
 exact⟨F',h1,fun k hk=>(h2 k hk).elim (fun h=>h) (fun h=>by cases h),h3⟩
theorem Om.openC{L:Nat}{w:World}{b o:Nat}{c:Core}{F:List Nat}(h:Om L w b o c F):∃ a0 c0,w.cell? ⟨b,o,none⟩=some (.slice a0 c.Cells.length c0)/\w.cell? ⟨b,o+1,none⟩=some (.int .i64 c.At)/\w.cell? ⟨b,o+2,none⟩=some (.bool c.Stopped)/\Rs w (.slice a0 c.Cells.length c0) c.Cells/\rng c.At:=by
 obtain⟨cs,⟨v0,rfl,h0,h1⟩,hat,ho⟩:=h;obtain⟨a0,c0,rfl,_⟩:=id h0;exact⟨a0,c0,by simpa using hat 0 _ rfl,by simpa using hat 1 _ rfl,by simpa using hat 2 _ rfl,⟨_,h0⟩,h1⟩
theorem Om.cellC{L:Nat}{w:World}{b o:Nat}{c:Core}{F:List Nat}(h:Om L w b o c F){a:Option Addr}{n cp:Nat}(hv:w.cell? ⟨b,o,none⟩=some (.slice a n cp))(i:Nat)(hi:i < c.Cells.length) :
  ∃ g s,a=some ⟨g,s,none⟩/\g≠b/\g∈F/\g < w.heap.size/\w.cell? ⟨g,s+i,none⟩=some (.int .i64 (c.Cells.getD i 0))/\(∀ j,w.frozen? ⟨g,j,none⟩=false)/\rng (c.Cells.getD i 0) /\
   ∀ u,rng u->∃ F',Om L (w.setCell ⟨g,s+i,none⟩ (.int .i64 u)) b o { c with Cells:=c.Cells.set i u } F'/\(∀ k∈F',k∈F)/\Chg b o 3 F w (w.setCell ⟨g,s+i,none⟩ (.int .i64 u)):=by
 obtain⟨_,_,_,ho⟩:=id h;obtain⟨Fc,lc⟩:=h.lCoreCells;obtain⟨g,s,Fy,x,rfl,hx,hsub,li⟩:=(lc.om ho).idxS (by simpa using hv) i hi
 have LC:=lc.comp li;have hs:=Lens.fsub lc ho g (hsub g (List.mem_cons_self ..));obtain⟨_,_,_,gf⟩:=(LC.om ho).bk;obtain⟨cs,⟨rfl,hr,rfl⟩,hat⟩:=LC.enc;have h0:=hat 0 _ rfl;have e:c.Cells.getD i 0=x:=by rw[List.getD_eq_getElem?_getD,hx.out];rfl
 simp only[GT.sz,Nat.mul_one,Nat.add_zero] at h0;refine⟨g,s,rfl,hs.2,hs.1,?_,by rw[e];exact h0,gf,by rw[e];exact hr,fun u hu=>?_⟩
 ·exact(LC.om ho).bk.1
 ·have:=LC.putI ho u hu
  simpa [GT.sz] using this
theorem Om.putAt{L:Nat}{w:World}{b o:Nat}{c:Core}{F:List Nat}(h:Om L w b o c F)(u:Int)(hu:rng u):∃ F',Om L (w.setCell ⟨b,o+1,none⟩ (.int .i64 u)) b o { c with At:=u } F'/\(∀ k∈F',k∈F)/\Chg b o 3 F w (w.setCell ⟨b,o+1,none⟩ (.int .i64 u)):=by
 obtain⟨_,_,_,ho⟩:=id h;obtain⟨Fc,lc⟩:=h.lCoreAt;exact lc.putI ho u hu
theorem Om.putStop{L:Nat}{w:World}{b o:Nat}{c:Core}{F:List Nat}(h:Om L w b o c F)(u:Bool):∃ F',Om L (w.setCell ⟨b,o+2,none⟩ (.bool u)) b o { c with Stopped:=u } F'/\(∀ k∈F',k∈F)/\Chg b o 3 F w (w.setCell ⟨b,o+2,none⟩ (.bool u)):=by
 obtain⟨_,_,_,ho⟩:=id h;obtain⟨Fc,lc⟩:=h.lCoreStopped;exact lc.putB ho u
set_option maxHeartbeats 4000000
def zL5(T:TypeId)(L g s:Nat)(F:List Nat)(B:Nat)(W wc:World)(o:Order)(r:Core)(v:Value):Prop :=
 ∃ (c1:Core) (n1:Int) (F1:List Nat),v = .int .i64 n1/\rng n1/\r = { c1 with At:=n1 } /\ Om L wc g s c1 F1/\Chg g s 3 F W wc/\(∀ k∈F1,k∈F)/\Bk wc B [.int .i64 0,.int .i64 0,.int .i64 0] T/\Bk wc (B+1) [.int .i64 o.Op,.int .i64 o.A,.int .i64 o.B] T
theorem zL5.of{T:TypeId}{L g s:Nat}{F:List Nat}{B:Nat}{W wc:World}{o:Order}{r c1:Core}{n1:Int}{F1:List Nat}{p:Addr}{u:Value}(hn:rng n1)(hr:r = { c1 with At:=n1 })(h:Om L (W.setCell p u) g s c1 F1/\(∀ k∈F1,k∈F)/\Chg g s 3 F W (W.setCell p u))(hq:Qt (W.setCell p u) wc)(hg:g < W.heap.size)(hpb:p.block < B)(hA:Bk W B [.int .i64 0,.int .i64 0,.int .i64 0] T)(hB:Bk W (B+1) [.int .i64 o.Op,.int .i64 o.A,.int .i64 o.B] T) :
  zL5 T L g s F B W wc o r (.int .i64 n1):=by
 obtain⟨h1,h2,h3⟩:=h;exact⟨c1,n1,F1,rfl,hn,hr,h1.ext hq.ext,h3.tr (Chg.ofExt hq.ext (by simpa using hg)),h2,(hA.set_ne (by omega) _).ext hq.ext,(hB.set_ne (by omega) _).ext hq.ext⟩
theorem Om.setX{α:Type}[GT α]{L:Nat}{w:World}{b o:Nat}{x : α}{F:List Nat}(h:Om L w b o x F){p:Addr}(hb:b≠p.block)(hF:p.block ∉ F)(u:Value):Om L (w.setCell p u) b o x F:=by
 obtain⟨cs,h1,h2,h3⟩:=h;exact⟨cs,GT.keep h1 (fun k hk=>zA4 (fun e=>hF (e ▸ hk))),h2.keep (zA4 hb),h3.set _ _⟩
theorem Chg.setNew{b o n:Nat}{F:List Nat}{a c:World}(h:Chg b o n F a c){p:Addr}(hp:a.heap.size<=p.block)(hb:b < a.heap.size)(u:Value):Chg b o n F a (c.setCell p u):=by
 refine⟨?_,by simpa using h.2.1,fun x hx h1 h2=>by rw[zA4 (by omega)];exact h.2.2.1 x hx h1 h2,fun i hi=>?_,h.2.2.2.2.set _ u⟩
 ·obtain⟨h1,h2,h3,h4,h5⟩:=h.1;exact⟨h1,h2,h3,h4,h5⟩
 ·rw[World.cell?_of_block (w:=c) (zA4 (by show b≠p.block;omega))];exact h.2.2.2.1 i hi
theorem zL5.same{T:TypeId}{L g s:Nat}{F:List Nat}{B:Nat}{W w2:World}{o:Order}{r c1:Core}{n1:Int}(hn:rng n1)(hr:r = { c1 with At:=n1 })(h:Om L W g s c1 F)(hq:Qt W w2)(hg:g < W.heap.size)(hA:Bk W B [.int .i64 0,.int .i64 0,.int .i64 0] T)(hB:Bk W (B+1) [.int .i64 o.Op,.int .i64 o.A,.int .i64 o.B] T) :
  zL5 T L g s F B W w2 o r (.int .i64 n1) :=
 ⟨c1,n1,F,rfl,hn,hr,h.ext hq.ext,Chg.ofExt hq.ext hg,fun k hk=>hk,hA.ext hq.ext,hB.ext hq.ext⟩
theorem zJ4(L g s:Nat)(c:Core)(p:List Order)(q t:Int)(F:List Nat)(vl:Value)(w:World)(h:Om L w g s c F)(hl:Rs w vl p)(hf:zAu c p.length q=true)(hp:zBr p q=true)(ht0:0<=t)(ht:t<=1000000) :
  Calls Tryz.prog 84 #[.pointer (some ⟨g,s,none⟩),vl,.int .i64 t] w fun e w'=>e = .returned (.agg #[.int .i64 (zAs c p t).2.Op,.int .i64 (zAs c p t).2.A,.int .i64 (zAs c p t).2.B])/\∃ F',Om L w' g s (zAs c p t).1 F'/\Chg g s 3 F w w'/\∀ k∈F',k∈F:=by
 obtain⟨f1,f2,f3⟩:=zAg.1 hf;obtain⟨b1,b2⟩:=zFw hp;obtain⟨A,hA⟩:∃ A:Nat,c.At=A:=⟨c.At.toNat,by omega⟩
 have hAl:A < p.length:=by omega
 obtain⟨o,ho,hov⟩:=zHy hp hAl;obtain⟨al,cl,rfl,hll⟩:=hl.form;obtain⟨ob,oo,o',rfl,hob,ho',q0,q1,q2,r0,r1,r2⟩:=hl.atOrder A hAl;obtain rfl:o'=o:=Option.some.inj (ho'.out.symm.trans ho);clear ho';obtain⟨a0,c0,x0,x1,x2,hc,hrA⟩:=h.openC;obtain⟨ltg,hLg,ngF,gfz⟩:=h.bk;have HO:=zh h;clear hl;rw[hA] at x1;go_enter Tryz.func84,Tryz.ntmps84;cases hst:c.Stopped
 ·rw[hst] at x2;obtain⟨nx,hnx⟩:∃ nx:Nat,(A+1) % p.length=nx:=⟨_,rfl⟩;have hnl:nx < p.length:=by rw[<- hnx];exact Nat.mod_lt _ (by omega)
  have hE:Hid (zAs c p t=(zBa c p.length t o',o')):=zh (by
   unfold zAs;rw[if_neg (by rw[hst];decide),hA,Int.toNat_natCast,List.getD_eq_getElem?_getD,ho];rfl)
  have hAt:Hid ((c.At.toNat+1) % p.length=nx):=zh (by rw[hA,Int.toNat_natCast];exact hnx)
  have hm:((A:Int)+1).tmod (p.length:Int)=(nx:Int):=by rw[<- hnx];exact Int.ofNat_tmod _ _
  have hne:(p.length:Int)≠0:=by omega
  have HST:=zh hst;have HCA:=zh hA;clear hst hnx ho hA;go_upto_region 4 with (fail)
  refine zA1 (fun W=>Ext w W/\Bk W w.heap.size [.int .i64 0,.int .i64 0,.int .i64 0] 112/\Bk W (w.heap.size+1) [.int .i64 o'.Op,.int .i64 o'.A,.int .i64 o'.B] 112) ⟨((zr _).alloc _).alloc _,(Bk.new _ _ _).ext ((zr _).alloc _),Bk.new1 _ _ _ _⟩ ?_
  rintro W ⟨e1,kA,kB⟩;have y0:=(zA0 e1 ltg).trans x0;have y1:=(zA0 e1 ltg).trans x1;have y2:=(zA0 e1 ltg).trans x2;have af:=kA.fz;obtain⟨a0,a1,a2⟩:=Bk.k3 kA;obtain⟨b0,b1,b2⟩:=Bk.k3 kB;have E1:=zh e1;have KA:=zh kA;have KB:=zh kB;have HO1:=zh (HO.out.ext e1);have HC1:=zh (hc.ext e1);clear e1 x0 x1 x2 q0 q1 q2 hc kA kB h;have hFl:∀ k∈F,k < w.heap.size:=fun k hk=>by obtain⟨_,_,_,ho⟩:=id HO.out;exact ho.lt (List.mem_cons_of_mem _ hk)
  have ltgW:=zl ltg E1.out.sz;obtain⟨rOp,rA,rB,_⟩:rng o'.Op/\rng o'.A/\rng o'.B/\True:=⟨r0,r1,r2.1,trivial⟩;obtain⟨op,oa,obb⟩:=o';simp only at *;have hcs:=zBw hov;simp only at hcs;have rn:rng (nx:Int):=⟨by omega,by omega⟩
  clear r0 r1 r2 hov;go_upto_block 0 with (fail)
  go_cut [8] from 9 (fun v8 wc=>zL5 112 L g s F w.heap.size W wc ⟨op,oa,obb⟩ (zBa c p.length t ⟨op,oa,obb⟩) v8)
  case first =>
   rcases hcs with ⟨rfl,hc1,hc2⟩ | ⟨rfl,hc1,hc2⟩ | ⟨rfl,hc1,hc2⟩ | ⟨rfl,hc1,hc2⟩ | ⟨rfl,hc1,hc2⟩ | ⟨rfl,hc1,hc2⟩ | ⟨rfl,hc1,hc2⟩ | ⟨rfl|rfl,rfl,rfl⟩
   ·obtain⟨ia,rfl⟩:∃ ia:Nat,oa=ia:=⟨oa.toNat,by omega⟩
    have hia:ia < c.Cells.length:=by omega
    obtain⟨g2,s2,rfl,hg2,hg2F,ltg2,z0,gf2,rg2,hput⟩:=HO1.out.cellC y0 ia hia;have hb2:=hFl g2 hg2F;go_upto_region 7 with (fail)
    refine zA7 8 (by kernel_rfl) (by kernel_rfl) ?_
    simp only[List.take_succ_cons,List.take_zero,List.drop_succ_cons,List.drop_zero]
    repeat (go_big_quiet_step (fail))
    refine wpQuiet_nil ?_;go_wp2;go_meet
    obtain⟨F1,h⟩:=hput obb rB;exact zL5.of rn (by show _=(⟨_,_,c.Stopped⟩:Core);rw[HST.out,<- hAt.out];rfl) h (Qt.mk 1) ltgW (by show g2 < _;exact hb2) KA.out KB.out
   ·obtain⟨ia,rfl⟩:∃ ia:Nat,oa=ia:=⟨oa.toNat,by omega⟩
    have hia:ia < c.Cells.length:=by omega
    obtain⟨g2,s2,rfl,hg2,hg2F,ltg2,z0,gf2,rg2,hput⟩:=HO1.out.cellC y0 ia hia;have hb2:=hFl g2 hg2F;obtain⟨ib,rfl⟩:∃ ib:Nat,obb=ib:=⟨obb.toNat,by omega⟩
    have hib:ib < c.Cells.length:=by omega
    obtain⟨g3,s3,e3,_,_,_,z1,_,rg3,_⟩:=HO1.out.cellC y0 ib hib;obtain⟨rfl,rfl⟩:g2=g3/\s2=s3:=by cases e3;exact⟨rfl,rfl⟩
    clear e3;have hvx:=zCc f3 ia;obtain⟨x,hx⟩:∃ x,c.Cells.getD ia 0=x:=⟨_,rfl⟩;rw[hx] at hvx z0;have hvy:=zCc f3 ib;obtain⟨y,hy⟩:∃ y,c.Cells.getD ib 0=y:=⟨_,rfl⟩;rw[hy] at hvy z1;have hm2:(x+y).tmod 256=(x+y) % 256:=Int.tmod_eq_emod_of_nonneg (by omega)
    have hxy1 : -9223372036854775808<=x+y:=by omega
    have hxy2:x+y<=9223372036854775807:=by omega
    obtain⟨z,hz⟩:∃ z,(x+y) % 256=z:=⟨_,rfl⟩;have hzr:rng z:=⟨by omega,by omega⟩
    have HZ:=zh (show(c.Cells.getD ia 0+c.Cells.getD ib 0) % 256=z by rw[hx,hy];exact hz)
    rw[hz] at hm2;clear hz hx hy;go_upto_region 9 with (fail)
    refine zA7 24 (by kernel_rfl) (by kernel_rfl) ?_
    simp only[List.take_succ_cons,List.take_zero,List.drop_succ_cons,List.drop_zero]
    repeat (go_big_quiet_step (fail))
    refine wpQuiet_nil ?_;go_wp2;go_meet
    obtain⟨F1,h⟩:=hput z hzr;exact zL5.of rn (by show _=(⟨_,_,c.Stopped⟩:Core);rw[HST.out,<- hAt.out,<- HZ.out];rfl) h (Qt.mk 1) ltgW (by show g2 < _;exact hb2) KA.out KB.out
   ·obtain⟨ia,rfl⟩:∃ ia:Nat,oa=ia:=⟨oa.toNat,by omega⟩
    have hia:ia < c.Cells.length:=by omega
    obtain⟨g2,s2,rfl,hg2,hg2F,ltg2,z0,gf2,rg2,hput⟩:=HO1.out.cellC y0 ia hia;have hb2:=hFl g2 hg2F;obtain⟨ib,rfl⟩:∃ ib:Nat,obb=ib:=⟨obb.toNat,by omega⟩
    have hib:ib < c.Cells.length:=by omega
    obtain⟨g3,s3,e3,_,_,_,z1,_,rg3,_⟩:=HO1.out.cellC y0 ib hib;obtain⟨rfl,rfl⟩:g2=g3/\s2=s3:=by cases e3;exact⟨rfl,rfl⟩
    clear e3;obtain⟨x,hx⟩:∃ x,c.Cells.getD ib 0=x:=⟨_,rfl⟩;rw[hx] at z1 rg3;have HZ:=zh hx;clear hx;go_upto_region 11 with (fail)
    refine zA7 14 (by kernel_rfl) (by kernel_rfl) ?_
    simp only[List.take_succ_cons,List.take_zero,List.drop_succ_cons,List.drop_zero]
    repeat (go_big_quiet_step (fail))
    refine wpQuiet_nil ?_;go_wp2;go_meet
    obtain⟨F1,h⟩:=hput x rg3;exact zL5.of rn (by show _=(⟨_,_,c.Stopped⟩:Core);rw[HST.out,<- hAt.out,<- HZ.out];rfl) h (Qt.mk 1) ltgW (by show g2 < _;exact hb2) KA.out KB.out
   ·obtain⟨ib,rfl⟩:∃ ib:Nat,obb=ib:=⟨obb.toNat,by omega⟩
    have hib:ib < c.Cells.length:=by omega
    obtain⟨g2,s2,rfl,hg2,hg2F,ltg2,z0,gf2,rg2,hput⟩:=HO1.out.cellC y0 ib hib;clear hput;obtain⟨x,hx⟩:∃ x,c.Cells.getD ib 0=x:=⟨_,rfl⟩;rw[hx] at z0 rg2;have HX:=zh hx;clear hx;cases hx0:(x == 0)
    ·have HN:=zh hx0;go_upto_region 15 with (fail)
     go_quiet (fail)
     go_wp2;go_meet
     exact zL5.same rn (by show _=(⟨_,_,c.Stopped⟩:Core);rw[HST.out,<- hAt.out];exact zJk (by rw[HX.out];simpa using HN.out)) HO1.out (Qt.mk _) ltgW KA.out KB.out
    ·have HN:=zh hx0;go_upto_region 15 with (fail)
     go_quiet (fail)
     go_wp2;go_meet
     exact zL5.same rA (by show _=(⟨_,_,c.Stopped⟩:Core);rw[HST.out];exact zJl (by rw[HX.out];simpa using HN.out)) HO1.out (Qt.mk _) ltgW KA.out KB.out
   ·go_wp2;go_meet
    exact zL5.same rn (by show _=(⟨_,_,c.Stopped⟩:Core);rw[HST.out,<- hAt.out];rfl) HO1.out (Qt.refl _) ltgW KA.out KB.out
   ·go_wp2;go_meet
    exact zL5.same rn (by show _=(⟨_,_,c.Stopped⟩:Core);rw[HST.out,<- hAt.out];rfl) HO1.out (Qt.refl _) ltgW KA.out KB.out
   ·obtain⟨ia,rfl⟩:∃ ia:Nat,oa=ia:=⟨oa.toNat,by omega⟩
    have hia:ia < c.Cells.length:=by omega
    obtain⟨g2,s2,rfl,hg2,hg2F,ltg2,z0,gf2,rg2,hput⟩:=HO1.out.cellC y0 ia hia;have hb2:=hFl g2 hg2F;have hm2:t.tmod 256=t % 256:=Int.tmod_eq_emod_of_nonneg ht0;obtain⟨z,hz⟩:∃ z,t % 256=z:=⟨_,rfl⟩;have hzr:rng z:=⟨by omega,by omega⟩
    have HZ:=zh hz;rw[hz] at hm2;clear hz;go_upto_region 13 with (fail)
    refine zA7 8 (by kernel_rfl) (by kernel_rfl) ?_
    simp only[List.take_succ_cons,List.take_zero,List.drop_succ_cons,List.drop_zero]
    repeat (go_big_quiet_step (fail))
    refine wpQuiet_nil ?_;go_wp2;go_meet
    obtain⟨F1,h⟩:=hput z hzr;exact zL5.of rn (by show _=(⟨_,_,c.Stopped⟩:Core);rw[HST.out,<- hAt.out,<- HZ.out];rfl) h (Qt.mk 1) ltgW (by show g2 < _;exact hb2) KA.out KB.out
   ·go_wp2;go_meet
    exact zL5.same rn (by show _=(⟨_,_,c.Stopped⟩:Core);rw[HST.out,<- hAt.out];rfl) HO1.out (Qt.refl _) ltgW KA.out KB.out
   ·have hrA2:rng (A:Int):=by rw[<- HCA.out];exact hrA
    have gfW:∀ j,W.frozen? ⟨g,j,none⟩=false:=HO1.out.bk.2.2.2;obtain⟨F1,h⟩:=HO1.out.putStop true;replace h:=zh h;go_wp2;go_meet
    exact zL5.of hrA2 (by rw[<- HCA.out];rfl) h.out (Qt.refl _) ltgW ltg KA.out KB.out
  case rest =>
   obtain⟨c1,n1,F1,rfl,hn1,hr1,om1,ch1,sub1,kA1,kB1⟩:=hcut;have gfc:∀ j,wc.frozen? ⟨g,j,none⟩=false:=om1.bk.2.2.2;have hgA:g≠w.heap.size:=by omega
   have hgB:g≠w.heap.size+1:=by omega
   obtain⟨_,_,_,u1,_,_,_⟩:=om1.openC;obtain⟨F2,om2,sub2,ch2⟩:=om1.putAt n1 hn1;have kA2:=kA1.set_ne (p:=⟨g,s+1,none⟩) (fun e=>hgA e.symm) (.int .i64 n1)
   have kB2:=kB1.set_ne (p:=⟨g,s+1,none⟩) (fun e=>hgB e.symm) (.int .i64 n1)
   have OM2:=zh om2;have CH2:=zh ((Chg.ofExt E1.out ltg).tr (ch1.trF ch2 (fun x hx => .inl (sub1 x hx))))
   have SUB:=zh (fun k hk=>sub1 k (sub2 k hk))
   have HR:=zh hr1;clear om2 ch1 ch2 sub1 sub2 hr1 om1 HO HO1;go_upto_region 21 with (fail)
   refine zA1 (fun W2=>Om L W2 g s { c1 with At:=n1 } F2/\Chg g s 3 F w W2/\Bk W2 w.heap.size [.int .i64 0,.int .i64 0,.int .i64 0] 112/\Bk W2 (w.heap.size+1) [.int .i64 op,.int .i64 oa,.int .i64 obb] 112) ⟨OM2.out,CH2.out,kA2,kB2⟩ ?_
   rintro W2 ⟨om3,ch3,kA3,kB3⟩;obtain⟨cA0,cA1,cA2⟩:=Bk.k3 kA3;have cAf:=kA3.fz;obtain⟨cB0,cB1,cB2⟩:=Bk.k3 kB3;have KS:=zh (((kA3.set 0 (.int .i64 op)).set 1 (.int .i64 oa)).set 2 (.int .i64 obb));obtain⟨d0,d1,d2⟩:=Bk.k3 KS.out;have OM3:=zh om3;have CH3:=zh ch3;clear om3 ch3 kA3 kB3 kA1 kB1 kA2 kB2 OM2 CH2 u1;go_wp2;have hF2:w.heap.size ∉ F2:=fun hm=>by have:=hFl _ (SUB.out _ hm);omega
   have EE:Ext W2 W2:=zr _;refine bodyPost_ret (v:=.agg #[.int .i64 op,.int .i64 oa,.int .i64 obb]) (by simp[results,Tryz.results84,go_sem,d0,d1,d2]) rfl ⟨by rw[hE.out],F2,?_,?_,SUB.out⟩
   ·rw[hE.out,HR.out];exact((OM3.out.setX hgA hF2 _).setX hgA hF2 _).setX hgA hF2 _
   ·exact((CH3.out.setNew (Nat.le_refl _) ltg _).setNew (Nat.le_refl _) ltg _).setNew (Nat.le_refl _) ltg _
 ·rw[hst] at x2;have hE:zAs c p t=(c,M.oz):=by unfold zAs;rw[if_pos hst]
  clear hst;go_upto_region 1 with (fail)
  refine zA1 (fun W=>Ext w W/\Bk W w.heap.size [.int .i64 0,.int .i64 0,.int .i64 0] 112) ⟨(zr _).alloc _,Bk.new _ _ _⟩ ?_
  rintro W ⟨e1,kA⟩;have y2:=(zA0 e1 ltg).trans x2;obtain⟨a0,a1,a2⟩:=Bk.k3 kA;have af:=kA.fz;have E1:=zh e1;have KA:=zh kA;clear e1 x0 x1 x2 q0 q1 q2 hc;go_wp2;refine bodyPost_ret (v:=.agg #[.int .i64 0,.int .i64 0,.int .i64 0]) (by simp[results,Tryz.results84,go_sem,a0,a1,a2]) rfl ⟨by rw[hE];rfl,F,by rw[hE];exact HO.out.ext (((E1.out.set (Nat.le_refl _) _).set (Nat.le_refl _) _).set (Nat.le_refl _) _),Chg.ofExt (((E1.out.set (Nat.le_refl _) _).set (Nat.le_refl _) _).set (Nat.le_refl _) _) ltg,fun k hk=>hk⟩
end Sk
