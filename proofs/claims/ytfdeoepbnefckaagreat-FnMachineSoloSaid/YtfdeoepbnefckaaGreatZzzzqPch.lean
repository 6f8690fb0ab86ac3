/- Contracts of functions of the given program. -/
import Derived.Sort.OwnSortedInts
import Derived.Lib.SlicesCompact
import Derived.Test.YtfdeoepbnefckaaGreatFaultS
import Derived.Test.YtfdeoepbnefckaaGreatShelf
namespace Sk
open Go Go.Proofs Go.RowKit
set_option maxHeartbeats 1500000
set_option maxRecDepth 100000
set_option linter.unusedVariables false
set_option linter.unusedSimpArgs false
def M.chs(op:Int)(xs:List Order):List Int:=(xs.filter (fun x=>x.Op == op)).map (·.A)
def M.srt(l:List Int):List Int:=l.mergeSort fun x y=>decide (x<=y)
def M.sop(s:Bool):Int:=if s then 5 else 6
def M.pch(xs:List Order)(c:Int)(s:Bool):List Int:=if zBg xs c then Lib.compact (M.srt (M.chs (M.sop s) xs)) else []
theorem M.chs_t{op:Int}{xs:List Order}{k:Nat}{x:Order}(h:xs[k]? = some x)(ho:x.Op=op):M.chs op (xs.take (k+1))=M.chs op (xs.take k) ++ [x.A]:=by
 unfold M.chs;rw[zAd h,List.filter_append];simp[ho]
theorem M.chs_f{op:Int}{xs:List Order}{k:Nat}{x:Order}(h:xs[k]? = some x)(ho:x.Op≠op):M.chs op (xs.take (k+1))=M.chs op (xs.take k):=by
 unfold M.chs;rw[zAd h,List.filter_append];simp[ho]
theorem M.chs_len(op:Int)(xs:List Order):(M.chs op xs).length<=xs.length:=by
 unfold M.chs;rw[List.length_map];exact List.length_filter_le _ _
theorem M.chs_lenk(op:Int)(xs:List Order)(k:Nat):(M.chs op (xs.take k)).length<=xs.length :=
 Nat.le_trans (M.chs_len op _) (by rw[List.length_take];omega)
theorem M.prv_len{xs:List Order}{c:Int}(h:zBg xs c=true):xs.length<=20:=by
 simp only[zBg,Bool.and_eq_true,zA7] at h;omega
theorem Row.int_cell{w:World}{b:Nat}{xs:List Int}:∀ {o:Nat} {F:List Nat},Row w b o xs F->∀ (j:Nat) (x:Int),xs[j]? = some x->w.cell? ⟨b,o+j,none⟩=some (.int .i64 x)/\rng x:=by
 induction xs with
 | nil=>intro o F _ j x hx;simp at hx
 | cons y ys ih =>
  intro o F h j x hx;obtain⟨cs,F1,F2,⟨rfl,hr,_⟩,ha,_,ht⟩:=h;cases j with
  | zero=>simp at hx;subst hx;exact⟨ha 0 _ rfl,hr⟩
  | succ j =>
   have:=ih ht j x (by simpa using hx)
   rwa [show o+GT.sz Int+j=o+(j+1) from by show o+1+j=_;omega] at this
theorem Row.int_of{w:World}{b:Nat}{xs:List Int}:∀ {o:Nat},(∀ (j:Nat) (x:Int),xs[j]? = some x->w.cell? ⟨b,o+j,none⟩=some (.int .i64 x)/\rng x)->Row w b o xs []:=by
 induction xs with
 | nil=>intro o _;rfl
 | cons y ys ih =>
  intro o h;refine⟨[.int .i64 y],[],[],⟨rfl,(h 0 y rfl).2,rfl⟩,fun j u hj=>?_,rfl,ih fun j x hx=>?_⟩
  ·cases j with
   | zero=>simp at hj;subst hj;exact(h 0 y rfl).1
   | succ j=>simp at hj
  ·have:=h (j+1) x (by simpa using hx)
   rwa [show o+(j+1)=o+GT.sz Int+j from by show _=o+1+j;omega] at this
theorem Oa.int_holds{e:TypeId}{L:Nat}{w:World}{g n cap:Nat}{xs:List Int}{F:List Nat}(h:Oa e L w (.slice (some ⟨g,0,none⟩) n cap) xs F):Sort.Holds (Value.int .i64) w g 0 xs.toArray:=by
 rcases h with ⟨h0,_,_⟩ | ⟨g',cap',cur,hv,hL,hg,hl,hc,hs,hr,hn⟩
 ·cases h0
 ·cases hv;intro j hj;have hj':j < xs.length:=by simpa using hj
  refine⟨?_,by simp[World.frozen?,hg]⟩
  rw[(hr.int_cell j xs[j] (List.getElem?_eq_getElem hj')).1];simp[hj']
theorem Oa.int_rng{e:TypeId}{L:Nat}{w:World}{v:Value}{xs:List Int}{F:List Nat}(h:Oa e L w v xs F):∀ x∈xs,rng x:=by
 intro x hx;obtain⟨j,hj,rfl⟩:=List.mem_iff_getElem.1 hx;rcases h with ⟨_,rfl,_⟩ | ⟨g',cap',cur,hv,hL,hg,hl,hc,hs,hr,hn⟩
 ·cases hx
 ·exact(hr.int_cell j xs[j] (List.getElem?_eq_getElem hj)).2
theorem Oa.int_put{e:TypeId}{L:Nat}{w:World}{g n m cap q:Nat}{os:Array Obj}{xs ts zs:List Int}{F:List Nat}(h:Oa e L w (.slice (some ⟨g,0,none⟩) n cap) xs F)(hl:(ts++zs).length=xs.length)(hr:∀ x∈ts,rng x)(hm:ts.length=m) :
  Oa e L (Sort.grow (Sort.putRow (Value.int .i64) (Sort.ahead w q) g 0 (ts++zs).toArray) os) (.slice (some ⟨g,0,none⟩) m cap) ts []:=by
 have hH:=h.int_holds;subst hm;rcases h with ⟨h0,_,_⟩ | ⟨g',cap',cur,hv,hL,hg,hle,hc,hs,hrw,hn⟩
 ·cases h0
 ·cases hv;have hgl:g < w.heap.size:=(Array.getElem?_eq_some_iff.1 hg).1;have hs1:cur.size=cap:=by rw[hs];show cap*1=cap;omega
  refine .inr ⟨g,cap,_,rfl,hL,heap_sortedI _ hg,?_,hc,by simp[Sort.putCells,hs1];show cap=cap*1;omega,Row.int_of fun j x hx=>⟨?_,hr x (List.mem_of_getElem? hx)⟩,by simp⟩
  ·simp at hl;omega
  ·have hjt:j < ts.length:=(List.getElem?_eq_some_iff.1 hx).1;have h2:=holds_of_blockI (ss:=ts) (w:=Sort.grow (Sort.putRow (Value.int .i64) (Sort.ahead w q) g 0 (ts++zs).toArray) os) (heap_sortedI _ hg) (by
    have h3:=take_putCellsI cur (ts++zs) (by rw[hl,hs1];exact hle)
    have h4:=congrArg (List.take ts.length) h3;rw[List.take_take,<- List.map_take,List.take_left'] at h4
    ·rwa [Nat.min_eq_left (by simp)] at h4
    ·rfl)
   have h5:=(h2 j (by simpa using hjt)).1
   rw[h5];obtain⟨_,rfl⟩:=List.getElem?_eq_some_iff.1 hx;simp[hjt]
theorem M.srt_len(l:List Int):(M.srt l).length=l.length:=List.length_mergeSort l
theorem M.srt_mem{l:List Int}{x:Int}:x∈M.srt l ↔ x∈l:=List.mem_mergeSort
theorem M.compact_mem{l:List Int}{x:Int}(h:x∈Lib.compact l):x∈l:=by
 unfold Lib.compact Lib.compactUpTo at h;obtain⟨j,hj,rfl⟩:=List.mem_map.1 h;have hj2:=List.mem_range.1 (List.mem_filter.1 hj).1;rw[getElem!_pos _ j (by simpa using hj2)]
 simp
theorem M.compact_len(l:List Int):(Lib.compact l).length<=l.length:=by
 unfold Lib.compact Lib.compactUpTo;rw[List.length_map];exact Nat.le_trans (List.length_filter_le _ _) (by simp)
theorem impl_pchT(v:Value)(xs:List Order)(c:Int)(w:World)(h:Rs w v xs) :
    Calls Tryz.prog 14 #[v,.int .i64 c,.bool true] w fun e w' => ∃ v',e = .returned v'/\Os w.heap.size w' v' (M.pch xs c true)/\Ext w w':=by
  have H:=zh h;obtain⟨a,cp,rfl,hl⟩:=h.form;clear h;have HE:=zh (zr w);go_enter Tryz.func14,Tryz.ntmps14;cases g0:zBg xs c with
  | false =>
    go_wp2_with (go_at_call 36;refine(zB9 _ xs c _ H.out).mono ?_;rintro e w1 ⟨rfl,he⟩;rw[g0];have HE1:=zh he;clear he)
    go_ret;exact⟨_,rfl,by rw[M.pch,g0];exact(Oa.nil (α:=Int) 3 w.heap.size _).osF,HE1.out⟩
  | true =>
    have h20:=M.prv_len g0;have HP:Hid (M.pch xs c true=Lib.compact (M.srt (M.chs 5 xs))):=zh (by rw[M.pch,g0];rfl)
    go_wp2_with (go_at_call 36;refine(zB9 _ xs c _ H.out).mono ?_;rintro e w1 ⟨rfl,he⟩;rw[g0];have HE1:=zh he;clear he)
    go_loopw [8,10,18] (fun out _ i wr => ∃ (k:Nat) (ao:Option Addr) (no co:Nat),k<=xs.length/\i = .int .i64 k/\out = .slice ao no co/\Oa (α:=Int) 3 w.heap.size wr (.slice ao no co) (M.chs 5 (xs.take k)) []/\Ext w wr) (fun _ _ i _=>xs.length - (RowKit.intOf i).toNat)
    case atStart=>exact⟨0,_,_,_,Nat.zero_le _,rfl,rfl,by simpa [M.chs] using Oa.nil (α:=Int) 3 w.heap.size _,HE1.out⟩
    case round =>
      clear HE HE1;obtain⟨k,ao,no,co,hk,rfl,rfl,ho,hq⟩:=hrel;have HO:=zh ho;have HQ:=zh hq;have hsz:=hq.sz;clear ho hq;have hlk:=M.chs_lenk 5 xs k;obtain⟨A,hA⟩:∃ A,M.chs 5 (xs.take k)=A:=⟨_,rfl⟩;rw[hA] at hlk HO;replace hA:=zh hA;by_cases hlt:k < xs.length
      · obtain⟨b,o,x,rfl,hb,hx,hc0,hc1,hc2,hr0,hr1,hr2,hv⟩:=(H.out.ext HQ.out).atOrder k hlt;by_cases hxo:x.Op=5
        · have HN:=zh (M.chs_t hx.out hxo);go_wp2_with (at_builtin;(refine zCq (α:=Int) rfl _ _ 38 rfl 3 Tryz.underlying38 zEa (v:=.slice ao no co) (ys:=[x.A]) rfl (HO.out.ext (((zr _).alloc _).alloc _)) rfl rfl (CI.row ⟨by simp,hr1,trivial⟩) (by omega) (by simp) (by omega) (by simp;omega) ?_;intro v5 w5 hO5 hg5;have HO5:=zh hO5;have HE5:=zh (((HQ.out.alloc _).alloc _).grown hg5 (fun k hk=>HO.out.own k hk));obtain⟨p5,q5,rfl,_⟩:=hO5.form;clear hO5 hg5))
          go_roundw
          case rel=>exact⟨k+1,_,_,_,by omega,by go_num,rfl,by rw[HN.out,hA.out];simpa using HO5.out,HE5.out⟩
          case measure=>simp[RowKit.intOf];omega
        · have HN:=zh (M.chs_f hx.out hxo);go_wp2;go_roundw
          case rel=>exact⟨k+1,_,_,_,by omega,by go_num,rfl,by rw[HN.out,hA.out];exact HO.out.ext ((zr _).alloc _),HQ.out.alloc _⟩
          case measure=>simp[RowKit.intOf];omega
      · obtain rfl:k=xs.length:=by omega
        rw[List.take_length] at hA;rw[hA.out] at HP;obtain⟨a9,c9,e9,_⟩:=HO.out.form;cases e9;have hcap:=zh HO.out.cap;by_cases h0:A = []
        · subst h0;have HP0:Hid (M.pch xs c true = []):=zh (by rw[HP.out];simp[M.srt,Lib.compact,Lib.compactUpTo])
          go_wp2_with (first
            | (go_at_call 37;refine(Tryz.slices_Sort_int_none _ _ _).mono ?_;rintro e w2 ⟨rfl,rfl⟩)
            | (go_at_call 39;refine(Tryz.slices_Compact_int_empty _ _ _).mono ?_;rintro e w3 ⟨rfl,rfl⟩)
            | (go_at_call 38;refine(zCz _ [] _ _ _ rfl hcap.out.1 hcap.out.2).mono ?_;rintro e w9 ⟨rfl,rfl⟩))
          go_ret;exact⟨_,rfl,by rw[HP0.out];exact HO.out.osF.clip,HQ.out⟩
        · obtain⟨g,rfl⟩:∃ g,ao=some ⟨g,0,none⟩:=by
            rcases HO.out with ⟨_,h,_⟩ | ⟨g,_,_,hv,_⟩
            · exact absurd h h0
            · cases hv;exact⟨g,rfl⟩
          have hg:g < wr.heap.size:=HO.out.lt g rfl;have hgL:w.heap.size<=g:=HO.out.own g rfl;have hsl:=M.srt_len A;have hcl:=M.compact_len (M.srt A);have HR2:Hid (∀ x∈M.srt A,rng x):=zh fun x hx=>HO.out.int_rng x (M.srt_mem.1 hx)
          have HR3:Hid (∀ x∈Lib.compact (M.srt A),rng x):=zh fun x hx=>HR2.out x (M.compact_mem hx)
          go_wp2_with (first
            | (go_at_call 37;(refine(Tryz.slices_Sort_int g 0 co A _ HO.out.int_holds hg (by omega)).mono ?_;rintro e w2 ⟨rfl,n2,os2,hw2⟩;have HO2:Hid (Oa (α:=Int) 3 w.heap.size w2 (.slice (some ⟨g,0,none⟩) A.length co) (M.srt A) []):=zh (by rw[hw2];simpa only[List.append_nil,M.srt] using HO.out.int_put (q:=n2) (os:=os2) (ts:=M.srt A) (zs:=[]) (by simpa using hsl) HR2.out hsl);have HQ2:Hid (Ext w w2):=zh (HQ.out.grown (row:=some g) (by rw[hw2];exact grownBy_sortedI _) (fun k hk=>by cases hk;exact hgL));have hcomp:=Tryz.slices_Compact_int g 0 co (M.srt A) w2 HO2.out.int_holds (by omega) (by have:=hcap.out.1;omega);rw[hsl] at hcomp;clear hw2))
            | (go_at_call 39;refine hcomp.mono ?_;rintro e w3 ⟨rfl,n3,hw3⟩
               have HO3:Hid (Oa (α:=Int) 3 w.heap.size w3 (.slice (some ⟨g,0,none⟩) (Lib.compact (M.srt A)).length co) (Lib.compact (M.srt A)) []):=zh (by rw[hw3];simpa using HO2.out.int_put (q:=n3) (os:=#[]) (ts:=Lib.compact (M.srt A)) (zs:=List.replicate (A.length - (Lib.compact (M.srt A)).length) 0) (by simp;omega) HR3.out rfl)
               have HQ3:Hid (Ext w w3):=zh (HQ2.out.grown (row:=some g) (by rw[hw3];simpa using grownBy_sortedI (os:=#[]) (n:=n3) (w:=w2) (g:=g) (Lib.compact (M.srt A)++List.replicate (A.length - (Lib.compact (M.srt A)).length) 0).toArray) (fun k hk=>by cases hk;exact hgL))
               clear hw3 hcomp)
            | (go_at_call 38;refine(zCz _ (Lib.compact (M.srt A)) _ _ _ rfl HO3.out.cap.1 HO3.out.cap.2).mono ?_;rintro e w9 ⟨rfl,rfl⟩))
          go_ret;exact⟨_,rfl,by rw[HP.out];exact HO3.out.osF.clip,HQ3.out⟩
theorem impl_pchF(v:Value)(xs:List Order)(c:Int)(w:World)(h:Rs w v xs) :
    Calls Tryz.prog 14 #[v,.int .i64 c,.bool false] w fun e w' => ∃ v',e = .returned v'/\Os w.heap.size w' v' (M.pch xs c false)/\Ext w w':=by
  have H:=zh h;obtain⟨a,cp,rfl,hl⟩:=h.form;clear h;have HE:=zh (zr w);go_enter Tryz.func14,Tryz.ntmps14;cases g0:zBg xs c with
  | false =>
    go_wp2_with (go_at_call 36;refine(zB9 _ xs c _ H.out).mono ?_;rintro e w1 ⟨rfl,he⟩;rw[g0];have HE1:=zh he;clear he)
    go_ret;exact⟨_,rfl,by rw[M.pch,g0];exact(Oa.nil (α:=Int) 3 w.heap.size _).osF,HE1.out⟩
  | true =>
    have h20:=M.prv_len g0;have HP:Hid (M.pch xs c false=Lib.compact (M.srt (M.chs 6 xs))):=zh (by rw[M.pch,g0];rfl)
    go_wp2_with (go_at_call 36;refine(zB9 _ xs c _ H.out).mono ?_;rintro e w1 ⟨rfl,he⟩;rw[g0];have HE1:=zh he;clear he)
    go_loopw [8,10,18] (fun out _ i wr => ∃ (k:Nat) (ao:Option Addr) (no co:Nat),k<=xs.length/\i = .int .i64 k/\out = .slice ao no co/\Oa (α:=Int) 3 w.heap.size wr (.slice ao no co) (M.chs 6 (xs.take k)) []/\Ext w wr) (fun _ _ i _=>xs.length - (RowKit.intOf i).toNat)
    case atStart=>exact⟨0,_,_,_,Nat.zero_le _,rfl,rfl,by simpa [M.chs] using Oa.nil (α:=Int) 3 w.heap.size _,HE1.out⟩
    case round =>
      clear HE HE1;obtain⟨k,ao,no,co,hk,rfl,rfl,ho,hq⟩:=hrel;have HO:=zh ho;have HQ:=zh hq;have hsz:=hq.sz;clear ho hq;have hlk:=M.chs_lenk 6 xs k;obtain⟨A,hA⟩:∃ A,M.chs 6 (xs.take k)=A:=⟨_,rfl⟩;rw[hA] at hlk HO;replace hA:=zh hA;by_cases hlt:k < xs.length
      · obtain⟨b,o,x,rfl,hb,hx,hc0,hc1,hc2,hr0,hr1,hr2,hv⟩:=(H.out.ext HQ.out).atOrder k hlt;by_cases hxo:x.Op=6
        · have HN:=zh (M.chs_t hx.out hxo);go_wp2_with (at_builtin;(refine zCq (α:=Int) rfl _ _ 38 rfl 3 Tryz.underlying38 zEa (v:=.slice ao no co) (ys:=[x.A]) rfl (HO.out.ext (((zr _).alloc _).alloc _)) rfl rfl (CI.row ⟨by simp,hr1,trivial⟩) (by omega) (by simp) (by omega) (by simp;omega) ?_;intro v5 w5 hO5 hg5;have HO5:=zh hO5;have HE5:=zh (((HQ.out.alloc _).alloc _).grown hg5 (fun k hk=>HO.out.own k hk));obtain⟨p5,q5,rfl,_⟩:=hO5.form;clear hO5 hg5))
          go_roundw
          case rel=>exact⟨k+1,_,_,_,by omega,by go_num,rfl,by rw[HN.out,hA.out];simpa using HO5.out,HE5.out⟩
          case measure=>simp[RowKit.intOf];omega
        · have HN:=zh (M.chs_f hx.out hxo);go_wp2;go_roundw
          case rel=>exact⟨k+1,_,_,_,by omega,by go_num,rfl,by rw[HN.out,hA.out];exact HO.out.ext ((zr _).alloc _),HQ.out.alloc _⟩
          case measure=>simp[RowKit.intOf];omega
      · obtain rfl:k=xs.length:=by omega
        rw[List.take_length] at hA;rw[hA.out] at HP;obtain⟨a9,c9,e9,_⟩:=HO.out.form;cases e9;have hcap:=zh HO.out.cap;by_cases h0:A = []
        · subst h0;have HP0:Hid (M.pch xs c false = []):=zh (by rw[HP.out];simp[M.srt,Lib.compact,Lib.compactUpTo])
          go_wp2_with (first
            | (go_at_call 37;refine(Tryz.slices_Sort_int_none _ _ _).mono ?_;rintro e w2 ⟨rfl,rfl⟩)
            | (go_at_call 39;refine(Tryz.slices_Compact_int_empty _ _ _).mono ?_;rintro e w3 ⟨rfl,rfl⟩)
            | (go_at_call 38;refine(zCz _ [] _ _ _ rfl hcap.out.1 hcap.out.2).mono ?_;rintro e w9 ⟨rfl,rfl⟩))
          go_ret;exact⟨_,rfl,by rw[HP0.out];exact HO.out.osF.clip,HQ.out⟩
        · obtain⟨g,rfl⟩:∃ g,ao=some ⟨g,0,none⟩:=by
            rcases HO.out with ⟨_,h,_⟩ | ⟨g,_,_,hv,_⟩
            · exact absurd h h0
            · cases hv;exact⟨g,rfl⟩
          have hg:g < wr.heap.size:=HO.out.lt g rfl;have hgL:w.heap.size<=g:=HO.out.own g rfl;have hsl:=M.srt_len A;have hcl:=M.compact_len (M.srt A);have HR2:Hid (∀ x∈M.srt A,rng x):=zh fun x hx=>HO.out.int_rng x (M.srt_mem.1 hx)
          have HR3:Hid (∀ x∈Lib.compact (M.srt A),rng x):=zh fun x hx=>HR2.out x (M.compact_mem hx)
          go_wp2_with (first
            | (go_at_call 37;(refine(Tryz.slices_Sort_int g 0 co A _ HO.out.int_holds hg (by omega)).mono ?_;rintro e w2 ⟨rfl,n2,os2,hw2⟩;have HO2:Hid (Oa (α:=Int) 3 w.heap.size w2 (.slice (some ⟨g,0,none⟩) A.length co) (M.srt A) []):=zh (by rw[hw2];simpa only[List.append_nil,M.srt] using HO.out.int_put (q:=n2) (os:=os2) (ts:=M.srt A) (zs:=[]) (by simpa using hsl) HR2.out hsl);have HQ2:Hid (Ext w w2):=zh (HQ.out.grown (row:=some g) (by rw[hw2];exact grownBy_sortedI _) (fun k hk=>by cases hk;exact hgL));have hcomp:=Tryz.slices_Compact_int g 0 co (M.srt A) w2 HO2.out.int_holds (by omega) (by have:=hcap.out.1;omega);rw[hsl] at hcomp;clear hw2))
            | (go_at_call 39;refine hcomp.mono ?_;rintro e w3 ⟨rfl,n3,hw3⟩
               have HO3:Hid (Oa (α:=Int) 3 w.heap.size w3 (.slice (some ⟨g,0,none⟩) (Lib.compact (M.srt A)).length co) (Lib.compact (M.srt A)) []):=zh (by rw[hw3];simpa using HO2.out.int_put (q:=n3) (os:=#[]) (ts:=Lib.compact (M.srt A)) (zs:=List.replicate (A.length - (Lib.compact (M.srt A)).length) 0) (by simp;omega) HR3.out rfl)
               have HQ3:Hid (Ext w w3):=zh (HQ2.out.grown (row:=some g) (by rw[hw3];simpa using grownBy_sortedI (os:=#[]) (n:=n3) (w:=w2) (g:=g) (Lib.compact (M.srt A)++List.replicate (A.length - (Lib.compact (M.srt A)).length) 0).toArray) (fun k hk=>by cases hk;exact hgL))
               clear hw3 hcomp)
            | (go_at_call 38;refine(zCz _ (Lib.compact (M.srt A)) _ _ _ rfl HO3.out.cap.1 HO3.out.cap.2).mono ?_;rintro e w9 ⟨rfl,rfl⟩))
          go_ret;exact⟨_,rfl,by rw[HP.out];exact HO3.out.osF.clip,HQ3.out⟩
theorem impl_ProgramChannels(v:Value)(xs:List Order)(c:Int)(s:Bool)(w:World)(h:Rs w v xs) :
  Calls Tryz.prog 14 #[v,.int .i64 c,.bool s] w fun e w' => ∃ v',e = .returned v'/\Os w.heap.size w' v' (M.pch xs c s)/\Ext w w':=by
 cases s with
 | true=>exact impl_pchT v xs c w h
 | false=>exact impl_pchF v xs c w h
end Sk
