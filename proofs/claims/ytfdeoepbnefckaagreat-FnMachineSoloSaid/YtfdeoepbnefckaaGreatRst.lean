/- Contracts of functions of the given program. -/
import Derived.Test.YtfdeoepbnefckaaGreatNewM
namespace Sk
open Go Go.Proofs Go.RowKit
set_option maxHeartbeats 4000000
set_option maxRecDepth 100000
set_option linter.unusedVariables false
set_option linter.unusedSimpArgs false
theorem Sl.hd{α:Type}[GT α]{w:World}{g s n c:Nat}{xs:List α}{F:List Nat}(h:Sl w (.slice (some ⟨g,s,none⟩) n c) xs F)(hx:0 < xs.length):g∈F:=by
 obtain⟨a,c',e,_,_,⟨rfl,_⟩ | ⟨_,b,o,F',e2,rfl,_⟩⟩:=h
 ·cases hx
 ·cases e;cases e2;simp
theorem Lens.indexS{α:Type}[GT α]{w:World}{b o:Nat}{xs:List α}{F:List Nat}{a:Option Addr}{n c:Nat}(hs:Sl w (.slice a n c) xs F)(hat:At w b o [.slice a n c])(hnd:(b::F).Nodup)(hlt:∀ k∈b::F,k < w.heap.size)(i:Nat)(hi:i < xs.length) :
  ∃ g s Fy x,a=some ⟨g,s,none⟩/\Hid (xs[i]? = some x)/\(∀ k∈g::Fy,k∈F)/\Lens w b o xs F g (s+i*GT.sz α) x Fy (fun y=>xs.set i y):=by
 obtain⟨a',c',he,hl,hc,⟨rfl,rfl⟩ | ⟨hne,g,s,F',rfl,rfl,hr⟩⟩:=hs
 ·cases hi
 cases he;have hsp:xs=xs.take i++xs[i]::xs.drop (i+1):=by rw[List.getElem_cons_drop,List.take_append_drop]
 have hr':=hr;rw[hsp] at hr';obtain⟨F1,F2,rfl,hr1,hr2⟩:=hr'.split;have hlen:(xs.take i).length=i:=by rw[List.length_take];omega
 rw[hlen] at hr2;obtain⟨cs,F0,F3,henc,hate,rfl,hr3⟩:=hr2;have hb0:=(List.nodup_cons.1 hnd).1;have hnd1:=(List.nodup_cons.1 hnd).2;have hg:=(List.nodup_cons.1 hnd1).1;have hnd2:=(List.nodup_cons.1 hnd1).2;have hlc:=GT.len henc;have hdis:∀ k,k∈F1\/k∈F3->k≠g/\k ∉ F0/\k < w.heap.size:=fun k hk=>by
  have hm:k∈F1++(F0++F3):=zAp.2 (hk.elim .inl (fun h => .inr (.inr h)))
  refine⟨fun e=>hg (e ▸ hm),fun hy=>?_,hlt k (by simp only[List.mem_cons];exact .inr (.inr hm))⟩
  simp only[List.nodup_append,List.mem_append] at hnd2;rcases hk with hk|hk
  ·exact hnd2.2.2 k hk k (.inl hy) rfl
  ·exact hnd2.2.1.2.2 k hy k hk rfl
 refine⟨g,s,F0,xs[i],rfl,by unfold Hid;simp[hi],fun k hk=>(List.mem_cons.1 hk).elim (fun e=>by simp[e]) (fun h=>by simp[h]),?_⟩
 refine { sub:=fun k hk=>?_,nd:=?_,enc:=⟨cs,henc,hate⟩,back:=fun L w' y' Fy' ho hch hz hf=>?_ }
 ·rcases List.mem_cons.1 hk with rfl|hk
  ·simp
  ·simp[hk]
 ·refine List.nodup_cons.2 ⟨fun hm=>hg (zAp.2 (.inr (.inl hm))),?_⟩
  simp only[List.nodup_append] at hnd2;exact hnd2.2.1.1
 ·obtain⟨csy,h1,h2,h3⟩:=hz;have hl':=GT.len h1;have hkeep:∀ k,k∈F1\/k∈F3->w'.heap[k]? = w.heap[k]?:=fun k hk=>hch.keep (hdis k hk).2.2 (hdis k hk).1 (hdis k hk).2.1
  have hbg:b≠g:=fun e=>hb0 (by rw[e];exact List.mem_cons_self ..)
  have hbk:w'.heap[b]? = w.heap[b]?:=hch.keep (hlt b (List.mem_cons_self ..)) hbg (fun hm=>hb0 (List.mem_cons_of_mem _ (zAp.2 (.inr (.inl hm)))))
  have hset:xs.set i y'=xs.take i++y'::xs.drop (i+1):=by rw[List.set_eq_take_append_cons_drop,if_pos hi]
  have h3n:=List.nodup_cons.1 h3.1;have hlt0:∀ k∈F1++(F0++F3),k < w.heap.size:=fun k hk=>hlt k (List.mem_cons_of_mem _ (List.mem_cons_of_mem _ hk))
  have hnew:∀ k,k∈F1++(Fy'++F3)->k∈F1++(F0++F3)\/w.heap.size<=k:=fun k hk=>by
   rcases zAp.1 hk with hm|hm|hm
   ·exact .inl (zAp.2 (.inl hm))
   ·rcases hf k hm with h|h
    ·exact .inl (zAp.2 (.inr (.inl h)))
    ·exact .inr h
   ·exact .inl (zAp.2 (.inr (.inr hm)))
  refine⟨g::(F1++(Fy'++F3)),⟨[.slice (some ⟨g,s,none⟩) xs.length c],⟨_,rfl,some ⟨g,s,none⟩,c,by simp,by simpa using hl,hc,.inr ⟨zGj hne,g,s,_,rfl,rfl,?_⟩⟩,hat.keep hbk,?_,?_⟩,?_,?_⟩
  ·rw[hset];refine Row.append (hr1.move (fun k hk'=>hkeep k (.inl hk')) fun j u hj hu=>?_) ?_
   ·rw[hlen] at hj;rw[hch.cell (by left;omega)];exact hu
   ·rw[hlen];refine⟨csy,Fy',F3,h1,h2,rfl,hr3.move (fun k hk'=>hkeep k (.inr hk')) fun j u hj hu=>?_⟩
    rw[hch.cell (by right;omega)];exact hu
  ·have hgn:g ∉ F1++(Fy'++F3):=fun hm=>by
    rcases zAp.1 hm with hm|hm|hm
    ·exact hg (zAp.2 (.inl hm))
    ·exact h3n.1 hm
    ·exact hg (zAp.2 (.inr (.inr hm)))
   refine List.nodup_cons.2 ⟨fun hm=>?_,List.nodup_cons.2 ⟨hgn,zFt hnd2 h3n.2 fun k hk=>?_⟩⟩
   ·rcases List.mem_cons.1 hm with e|hm
    ·exact hbg e
    ·rcases hnew b hm with h|h
     ·exact hb0 (List.mem_cons_of_mem _ h)
     ·have:=hlt b (List.mem_cons_self ..);omega
   ·rcases hf k hk with h|h
    ·exact⟨fun hm=>(hdis k (.inl hm)).2.1 h,fun hm=>(hdis k (.inr hm)).2.1 h⟩
    ·exact⟨fun hm=>by have:=(hdis k (.inl hm)).2.2;omega,fun hm=>by have:=(hdis k (.inr hm)).2.2;omega⟩
  ·intro k hk;have hold:∀ k,k∈b::g::(F1++(F0++F3))->L<=k/\Fz w' k:=fun k hk=>⟨(ho.2 k hk).1,hch.fzk k (ho.2 k hk).2⟩
   rcases List.mem_cons.1 hk with rfl|hk
   ·exact hold _ (by simp)
   rcases List.mem_cons.1 hk with rfl|hk
   ·exact hold _ (by simp)
   rcases zAp.1 hk with hm|hm|hm
   ·exact hold k (by simp[hm])
   ·exact h3.2 k (List.mem_cons_of_mem _ hm)
   ·exact hold k (by simp[hm])
  ·intro k hk;rcases List.mem_cons.1 hk with rfl|hk
   ·exact .inl (List.mem_cons_self ..)
   ·rcases zAp.1 hk with hm|hm|hm
    ·exact .inl (List.mem_cons_of_mem _ (zAp.2 (.inl hm)))
    ·exact .inr hm
    ·exact .inl (List.mem_cons_of_mem _ (zAp.2 (.inr (.inr hm))))
  ·exact hch.up (fun hm=>by
    rcases List.mem_cons.1 hm with e|hm
    ·exact hbg e
    ·exact hb0 (List.mem_cons_of_mem _ (zAp.2 (.inr (.inl hm))))) (hlt b (List.mem_cons_self ..)) (fun k hk=>by
    rcases List.mem_cons.1 hk with rfl|hk
    ·simp
    ·simp[hk])
theorem Om.idxS{α:Type}[GT α]{L:Nat}{w:World}{b o:Nat}{xs:List α}{F:List Nat}(h:Om L w b o xs F){a:Option Addr}{n c:Nat}(hv:w.cell? ⟨b,o,none⟩=some (.slice a n c))(i:Nat)(hi:i < xs.length) :
  ∃ g s Fy x,a=some ⟨g,s,none⟩/\Hid (xs[i]? = some x)/\(∀ k∈g::Fy,k∈F)/\Lens w b o xs F g (s+i*GT.sz α) x Fy (fun y=>xs.set i y):=by
 obtain⟨cs,⟨v,rfl,hs⟩,hat,ho⟩:=h;have h0:=hat 0 v rfl;rw[Nat.add_zero,hv] at h0;cases h0;exact Lens.indexS hs hat ho.1 (fun k hk=>ho.lt hk) i hi
theorem Lens.fsub{α β:Type}[GT α][GT β]{L:Nat}{w:World}{b o o':Nat}{x : α}{F Fy:List Nat}{y : β}{put : β -> α}(h:Lens w b o x F b o' y Fy put)(ho:Own L w (b::F)):∀ k∈Fy,k∈F/\k≠b:=fun k hk=>by
 have hb:=(h.om ho).bk.2.2.1;rcases List.mem_cons.1 (h.sub k (List.mem_cons_of_mem _ hk)) with e|h1
 ·exact absurd (e ▸ hk) hb
 ·exact⟨h1,fun e=>hb (e ▸ hk)⟩
theorem Om.own0{α:Type}[GT α]{L:Nat}{w:World}{b o:Nat}{x : α}{F:List Nat}(h:Om L w b o x F):Fz w b:=by
 obtain⟨_,_,_,h3⟩:=h;exact(h3.2 b (List.mem_cons_self ..)).2
theorem Om.openM{L:Nat}{w:World}{b:Nat}{m:Machine}{F:List Nat}(h:Om L w b 0 m F):∃ a0 c0 a1 c1 a2 c2 a3 c3 a4 c4 a5 c5,w.cell? ⟨b,0,none⟩=some (.slice a0 m.Plan.Parts.length c0)/\w.cell? ⟨b,1,none⟩=some (.slice a1 m.Plan.Channels.length c1)/\w.cell? ⟨b,2,none⟩=some (.slice a2 m.Plan.Slots.length c2)/\w.cell? ⟨b,3,none⟩=some (.slice a3 m.Programs.length c3)/\w.cell? ⟨b,4,none⟩=some (.slice a4 m.Cores.length c4)/\w.cell? ⟨b,5,none⟩=some (.slice a5 m.Holds.length c5)/\w.cell? ⟨b,6,none⟩=some (.int .i64 m.Tick)/\Rs w (.slice a0 m.Plan.Parts.length c0) m.Plan.Parts/\Rs w (.slice a1 m.Plan.Channels.length c1) m.Plan.Channels/\Rs w (.slice a2 m.Plan.Slots.length c2) m.Plan.Slots/\Rs w (.slice a3 m.Programs.length c3) m.Programs/\Rs w (.slice a4 m.Cores.length c4) m.Cores/\Rs w (.slice a5 m.Holds.length c5) m.Holds:=by
 obtain⟨cs,⟨v0,v1,v2,v3,v4,v5,F0,F1,F2,F3,F4,F5,rfl,h0,h1,h2,h3,h4,h5,r6,rfl⟩,hat,ho⟩:=h;obtain⟨a0,c0,rfl,_⟩:=id h0;obtain⟨a1,c1,rfl,_⟩:=id h1;obtain⟨a2,c2,rfl,_⟩:=id h2;obtain⟨a3,c3,rfl,_⟩:=id h3;obtain⟨a4,c4,rfl,_⟩:=id h4;obtain⟨a5,c5,rfl,_⟩:=id h5;exact⟨_,_,_,_,_,_,_,_,_,_,_,_,by simpa using hat 0 _ rfl,by simpa using hat 1 _ rfl,by simpa using hat 2 _ rfl,by simpa using hat 3 _ rfl,by simpa using hat 4 _ rfl,by simpa using hat 5 _ rfl,by simpa using hat 6 _ rfl,⟨_,h0⟩,⟨_,h1⟩,⟨_,h2⟩,⟨_,h3⟩,⟨_,h4⟩,⟨_,h5⟩⟩
set_option maxHeartbeats 1000000
def zDk(c:Core)(n:Nat)(t:Int)(o:Order):Core :=
 if o.Op=1 then ⟨c.Cells.set o.A.toNat o.B,((c.At.toNat+1) % n:Nat),false⟩
 else if o.Op=2 then ⟨c.Cells.set o.A.toNat ((c.Cells.getD o.A.toNat 0+c.Cells.getD o.B.toNat 0) % 256),((c.At.toNat+1) % n:Nat),false⟩
 else if o.Op=3 then ⟨c.Cells.set o.A.toNat (c.Cells.getD o.B.toNat 0),((c.At.toNat+1) % n:Nat),false⟩
 else if o.Op=7 then ⟨c.Cells.set o.A.toNat (t % 256),((c.At.toNat+1) % n:Nat),false⟩
 else if o.Op=4 then ⟨c.Cells,if c.Cells.getD o.B.toNat 0=0 then o.A else ((c.At.toNat+1) % n:Nat),false⟩
 else if o.Op=8 then ⟨c.Cells,c.At,true⟩
 else ⟨c.Cells,((c.At.toNat+1) % n:Nat),false⟩
theorem zIp{c:Core}{n ib:Nat}{t oa:Int}(h:¬ c.Cells.getD ib 0=0):zDk c n t ⟨4,oa,ib⟩=⟨c.Cells,((c.At.toNat+1) % n:Nat),false⟩:=by
 show(⟨c.Cells,if c.Cells.getD (ib:Int).toNat 0=0 then oa else ((c.At.toNat+1) % n:Nat),false⟩:Core)=_
 rw[Int.toNat_natCast,if_neg h]
theorem zIq{c:Core}{n ib:Nat}{t oa:Int}(h:c.Cells.getD ib 0=0):zDk c n t ⟨4,oa,ib⟩=⟨c.Cells,oa,false⟩:=by
 show(⟨c.Cells,if c.Cells.getD (ib:Int).toNat 0=0 then oa else ((c.At.toNat+1) % n:Nat),false⟩:Core)=_
 rw[Int.toNat_natCast,if_pos h]
def M.oz:Order:=⟨0,0,0⟩
def zBb(c:Core)(p:List Order)(t:Int):Core × Order:=if c.Stopped then (c,M.oz) else (zDk c p.length t (p.getD c.At.toNat M.oz),p.getD c.At.toNat M.oz)
theorem zGe{xs:List Int}:zCr xs=true ↔ ∀ x∈xs,0<=x/\x<=255:=by
 unfold zCr;simp only[List.all_eq_true,zA7]
theorem zAo{c:Core}{n:Nat}{q:Int}:zAr c n q=true ↔ (c.Cells.length:Int)=q/\(0<=c.At/\c.At<=(n:Int) - 1)/\∀ x∈c.Cells,0<=x/\x<=255:=by
 unfold zAr;simp only[Bool.and_eq_true,beq_iff_eq,zA7,zGe]
theorem zCh{xs:List Int}(h:∀ x∈xs,0<=x/\x<=255)(k:Nat){u:Int}(hu:0<=u/\u<=255):∀ x∈xs.set k u,0<=x/\x<=255:=by
 intro x hx;rcases List.mem_or_eq_of_mem_set hx with h1|rfl
 ·exact h x h1
 ·exact hu
theorem zE0{xs:List Int}(h:∀ x∈xs,0<=x/\x<=255)(k:Nat):0<=xs.getD k 0/\xs.getD k 0<=255:=by
 rw[List.getD_eq_getElem?_getD];by_cases hk:k < xs.length
 ·rw[List.getElem?_eq_getElem hk];exact h _ (List.getElem_mem hk)
 ·rw[List.getElem?_eq_none (by omega)];exact⟨by decide,by decide⟩
theorem zCf{c n:Int}{o:Order}(h:zDw c n o=true) :
  (o.Op=1/\(0<=o.A/\o.A < c)/\(0<=o.B/\o.B<=255))\/(o.Op=2/\(0<=o.A/\o.A < c)/\(0<=o.B/\o.B < c))\/(o.Op=3/\(0<=o.A/\o.A < c)/\(0<=o.B/\o.B < c)) \/
  (o.Op=4/\(0<=o.A/\o.A < n)/\(0<=o.B/\o.B < c))\/(o.Op=5/\(0<=o.A/\o.A < 8)/\(0<=o.B/\o.B < c))\/(o.Op=6/\(0<=o.A/\o.A < 8)/\(0<=o.B/\o.B < c)) \/
  (o.Op=7/\(0<=o.A/\o.A < c)/\o.B=0)\/((o.Op=0\/o.Op=8)/\o.A=0/\o.B=0):=by
 unfold zDw zC2 at h
 split at h
 ·simp only[Bool.and_eq_true,zA7] at h;exact .inl ⟨by assumption,by omega,by omega⟩
 split at h
 ·simp only[Bool.and_eq_true,zA7] at h
  rename_i h2
  rcases h2 with h2|h2
  ·exact .inr (.inl ⟨h2,by omega,by omega⟩)
  ·exact .inr (.inr (.inl ⟨h2,by omega,by omega⟩))
 split at h
 ·simp only[Bool.and_eq_true,zA7] at h;exact .inr (.inr (.inr (.inl ⟨by assumption,by omega,by omega⟩)))
 split at h
 ·simp only[Bool.and_eq_true,zA7] at h
  rename_i h2
  rcases h2 with h2|h2
  ·exact .inr (.inr (.inr (.inr (.inl ⟨h2,by omega,by omega⟩))))
  ·exact .inr (.inr (.inr (.inr (.inr (.inl ⟨h2,by omega,by omega⟩)))))
 split at h
 ·simp only[Bool.and_eq_true,zA7,beq_iff_eq] at h;exact .inr (.inr (.inr (.inr (.inr (.inr (.inl ⟨by assumption,by omega,by omega⟩))))))
 split at h
 ·simp only[Bool.and_eq_true,beq_iff_eq] at h
  rename_i h2
  exact .inr (.inr (.inr (.inr (.inr (.inr (.inr ⟨h2,h.1,h.2⟩))))))
 ·cases h
theorem zGn{p:List Order}{q:Int}(h:zBg p q=true){k:Nat}(hk:k < p.length):∃ o,p[k]? = some o/\zDw q p.length o=true:=by
 simp only[zBg,Bool.and_eq_true,List.all_eq_true] at h;exact⟨p[k],List.getElem?_eq_getElem hk,h.2.2 _ (List.getElem_mem hk)⟩
theorem zH2{c:Core}{n:Nat}{q t:Int}{o:Order}(h:zAr c n q=true)(ho:zDw q n o=true)(ht:0<=t):zAr (zDk c n t o) n q=true:=by
 obtain⟨h1,h2,h3⟩:=zAo.1 h;have hm:(c.At.toNat+1) % n < n:=Nat.mod_lt _ (by omega)
 have hx:0<=(((c.At.toNat+1) % n:Nat):Int)/\(((c.At.toNat+1) % n:Nat):Int)<=(n:Int) - 1:=by omega
 have g:=zE0 h3;have ho2:=zCf ho;unfold zDk
 split
 ·exact zAo.2 ⟨by simpa using h1,hx,zCh h3 _ (by omega)⟩
 split
 ·exact zAo.2 ⟨by simpa using h1,hx,zCh h3 _ (by omega)⟩
 split
 ·exact zAo.2 ⟨by simpa using h1,hx,zCh h3 _ (g _)⟩
 split
 ·exact zAo.2 ⟨by simpa using h1,hx,zCh h3 _ (by omega)⟩
 split
 ·refine zAo.2 ⟨by simpa using h1,?_,h3⟩
  simp only
  split
  ·omega
  ·exact hx
 split
 ·exact zAo.2 ⟨h1,h2,h3⟩
 ·exact zAo.2 ⟨h1,hx,h3⟩
theorem zFl{c:Core}{p:List Order}{q t:Int}(h:zAr c p.length q=true)(hp:zBg p q=true)(ht:0<=t):zAr (zBb c p t).1 p.length q=true:=by
 unfold zBb
 split
 ·exact h
 ·obtain⟨h1,h2,h3⟩:=zAo.1 h;obtain⟨o,e,ho⟩:=zGn hp (show c.At.toNat < p.length by omega)
  rw[List.getD_eq_getElem?_getD,e];exact zH2 h ho ht
theorem zH3{c:Core}{p:List Order}{q t:Int}(h:zAr c p.length q=true)(hp:zBg p q=true):(zBb c p t).2=M.oz\/zDw q p.length (zBb c p t).2=true:=by
 unfold zBb
 split
 ·exact .inl rfl
 ·obtain⟨h1,h2,h3⟩:=zAo.1 h;obtain⟨o,e,ho⟩:=zGn hp (show c.At.toNat < p.length by omega)
  rw[List.getD_eq_getElem?_getD,e];exact .inr ho
theorem Lens.putI{α:Type}[GT α]{L:Nat}{w:World}{b o:Nat}{x : α}{F:List Nat}{b' o':Nat}{y:Int}{Fy:List Nat}{put:Int -> α}(h:Lens w b o x F b' o' y Fy put)(ho:Own L w (b::F))(u:Int)(hu:rng u) :
  ∃ F',Om L (w.setCell ⟨b',o',none⟩ (.int .i64 u)) b o (put u) F'/\(∀ k∈F',k∈F)/\Chg b o (GT.sz α) F w (w.setCell ⟨b',o',none⟩ (.int .i64 u)):=by
 obtain⟨cs,⟨rfl,_,rfl⟩,hat⟩:=h.enc;have h0:=hat 0 _ rfl;rw[Nat.add_zero] at h0;have hbo:Own L w [b']:=⟨by simp,fun k hk=>ho.2 k (h.sub k hk)⟩
 obtain⟨F',h1,h2,h3⟩:=h.back L _ u [] ho ((Chg.refl b' o' 1 [] w).set ⟨Nat.le_refl _,by omega⟩ (.int .i64 u)) ⟨[.int .i64 u],⟨rfl,hu,rfl⟩,fun j v hj=>by
  match j,hj with
  | 0,hj=>cases hj;exact zAu h0,hbo.set _ _⟩ (fun k hk=>by cases hk)
 exact⟨F',h1,fun k hk=>(h2 k hk).elim (fun h=>h) (fun h=>by cases h),h3⟩
theorem Lens.putB{α:Type}[GT α]{L:Nat}{w:World}{b o:Nat}{x : α}{F:List Nat}{b' o':Nat}{y:Bool}{Fy:List Nat}{put:Bool -> α}(h:Lens w b o x F b' o' y Fy put)(ho:Own L w (b::F))(u:Bool) :
  ∃ F',Om L (w.setCell ⟨b',o',none⟩ (.bool u)) b o (put u) F'/\(∀ k∈F',k∈F)/\Chg b o (GT.sz α) F w (w.setCell ⟨b',o',none⟩ (.bool u)):=by
 obtain⟨cs,⟨rfl,rfl⟩,hat⟩:=h.enc;have h0:=hat 0 _ rfl;rw[Nat.add_zero] at h0;have hbo:Own L w [b']:=⟨by simp,fun k hk=>ho.2 k (h.sub k hk)⟩
 obtain⟨F',h1,h2,h3⟩:=h.back L _ u [] ho ((Chg.refl b' o' 1 [] w).set ⟨Nat.le_refl _,by omega⟩ (.bool u)) ⟨[.bool u],⟨rfl,rfl⟩,fun j v hj=>by
  match j,hj with
  | 0,hj=>cases hj;exact zAu h0,hbo.set _ _⟩ (fun k hk=>by cases hk)
 exact⟨F',h1,fun k hk=>(h2 k hk).elim (fun h=>h) (fun h=>by cases h),h3⟩
theorem Om.openC{L:Nat}{w:World}{b o:Nat}{c:Core}{F:List Nat}(h:Om L w b o c F):∃ a0 c0,w.cell? ⟨b,o,none⟩=some (.slice a0 c.Cells.length c0)/\w.cell? ⟨b,o+1,none⟩=some (.int .i64 c.At)/\w.cell? ⟨b,o+2,none⟩=some (.bool c.Stopped)/\Rs w (.slice a0 c.Cells.length c0) c.Cells/\rng c.At:=by
 obtain⟨cs,⟨v0,rfl,h0,h1⟩,hat,ho⟩:=h;obtain⟨a0,c0,rfl,_⟩:=id h0;exact⟨a0,c0,by simpa using hat 0 _ rfl,by simpa using hat 1 _ rfl,by simpa using hat 2 _ rfl,⟨_,h0⟩,h1⟩
theorem Om.cellC{L:Nat}{w:World}{b o:Nat}{c:Core}{F:List Nat}(h:Om L w b o c F){a:Option Addr}{n cp:Nat}(hv:w.cell? ⟨b,o,none⟩=some (.slice a n cp))(i:Nat)(hi:i < c.Cells.length) :
  ∃ g s,a=some ⟨g,s,none⟩/\g≠b/\g∈F/\g < w.heap.size/\w.cell? ⟨g,s+i,none⟩=some (.int .i64 (c.Cells.getD i 0))/\(∀ j,w.frozen? ⟨g,j,none⟩=false)/\rng (c.Cells.getD i 0) /\
   ∀ u,rng u->∃ F',Om L (w.setCell ⟨g,s+i,none⟩ (.int .i64 u)) b o { c with Cells:=c.Cells.set i u } F'/\(∀ k∈F',k∈F)/\Chg b o 3 F w (w.setCell ⟨g,s+i,none⟩ (.int .i64 u)):=by
 obtain⟨_,_,_,ho⟩:=id h;obtain⟨Fc,lc⟩:=h.lCoreCells;obtain⟨g,s,Fy,x,rfl,hx,hsub,li⟩:=(lc.om ho).idxS (by simpa using hv) i hi
 have LC:=lc.comp li;have hs:=Lens.fsub lc ho g (hsub g (List.mem_cons_self ..));obtain⟨_,_,_,gf⟩:=(LC.om ho).bk;obtain⟨cs,⟨rfl,hr,rfl⟩,hat⟩:=LC.enc;have h0:=hat 0 _ rfl;have e:c.Cells.getD i 0=x:=by rw[List.getD_eq_getElem?_getD,hx.out];rfl
 simp only[GT.sz,Nat.mul_one,Nat.add_zero] at h0;refine⟨g,s,rfl,hs.2,hs.1,?_,by rw[e];exact h0,gf,by rw[e];exact hr,fun u hu=>?_⟩
 ·exact(LC.om ho).bk.1
 ·have:=LC.putI ho u hu
  simpa [GT.sz] using this
theorem Om.putAt{L:Nat}{w:World}{b o:Nat}{c:Core}{F:List Nat}(h:Om L w b o c F)(u:Int)(hu:rng u):∃ F',Om L (w.setCell ⟨b,o+1,none⟩ (.int .i64 u)) b o { c with At:=u } F'/\(∀ k∈F',k∈F)/\Chg b o 3 F w (w.setCell ⟨b,o+1,none⟩ (.int .i64 u)):=by
 obtain⟨_,_,_,ho⟩:=id h;obtain⟨Fc,lc⟩:=h.lCoreAt;exact lc.putI ho u hu
theorem Om.putStop{L:Nat}{w:World}{b o:Nat}{c:Core}{F:List Nat}(h:Om L w b o c F)(u:Bool):∃ F',Om L (w.setCell ⟨b,o+2,none⟩ (.bool u)) b o { c with Stopped:=u } F'/\(∀ k∈F',k∈F)/\Chg b o 3 F w (w.setCell ⟨b,o+2,none⟩ (.bool u)):=by
 obtain⟨_,_,_,ho⟩:=id h;obtain⟨Fc,lc⟩:=h.lCoreStopped;exact lc.putB ho u
end Sk
