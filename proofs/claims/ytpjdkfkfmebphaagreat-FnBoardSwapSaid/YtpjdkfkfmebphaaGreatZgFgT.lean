/- Contracts of functions of the given program. -/
import Derived.Test.YtpjdkfkfmebphaaGreatVVModel
namespace Sk
open Go Go.Proofs Go.RowKit
set_option maxHeartbeats 1600000
set_option maxRecDepth 100000
set_option linter.unusedVariables false
set_option linter.unusedSimpArgs false
def zM0(m:Machine)(k:Nat):Int:=(m.Plan.Parts.getD k ⟨[],0⟩).Cells
def zKv(x:Machine)(k:Nat):Machine:={ x with Programs:=x.Programs.set k [zJ5],Cores:=x.Cores.set k (zAo (zM0 x k)) }
def zGu(x:Machine)(k:Nat):Machine:=zDm { x with Programs:=x.Programs.set k [zJ5] } k (zAo (zM0 x k)) x.Plan.Channels.length
def zDa(f:Nat->Bool)(m:Machine):Nat->Machine
 | 0=>m
 | k+1=>if f k then zDa f m k else zKv (zDa f m k) k
def zCe(f:Nat->Bool)(m:Machine):Nat->Machine
 | 0=>m
 | k+1=>if f k then zCe f m k else zGu (zCe f m k) k
def zF1(f:Nat->Bool)(cs:List Channel)(hs:List Hold)(k:Nat):List Hold :=
 match cs[k]? with
 | some c=>if f c.To.toNat then hs else hs.set k ⟨[]⟩
 | none=>hs
def zEl(f:Nat->Bool)(cs:List Channel)(hs:List Hold):Nat->List Hold
 | 0=>hs
 | k+1=>zF1 f cs (zEl f cs hs k) k
def zF0(m:Machine)(n:Int)(k:Nat):Bool:=(zBc m.Plan.Channels m.Cores.length n.toNat).getD k false
noncomputable def zDc(m:Machine)(n:Int):Machine:=if zBs m n then zCe (zF0 m n) m m.Cores.length else zO9
theorem zFp{m:Machine}{n:Int}(h:zBs m n=false):zDc m n=zO9:=by unfold zDc;rw[h];rfl
theorem zFq{m:Machine}{n:Int}(h:zBs m n=true):zDc m n=zCe (zF0 m n) m m.Cores.length:=by unfold zDc;rw[h];rfl
theorem zCl(f:Nat->Bool)(m:Machine):∀ k,(zCe f m k).Plan=m.Plan/\(zDa f m k).Plan=m.Plan/\(zCe f m k).Programs=(zDa f m k).Programs/\(zCe f m k).Cores=(zDa f m k).Cores/\(zCe f m k).Tick=m.Tick/\(zDa f m k).Tick=m.Tick /\
  (zCe f m k).Cores.length=m.Cores.length/\(zCe f m k).Programs.length=m.Programs.length/\(zCe f m k).Holds.length=m.Holds.length/\(zDa f m k).Holds=m.Holds:=by
 intro k
 induction k with
 | zero=>exact⟨rfl,rfl,rfl,rfl,rfl,rfl,rfl,rfl,rfl,rfl⟩
 | succ k ih =>
  obtain⟨h1,h2,h3,h4,h5,h6,h7,h8,h9,h10⟩:=ih;unfold zCe zDa;cases f k
  ·simp only[Bool.false_eq_true,if_false,zGu,zKv,zDm,zM0,List.length_set,zFo];refine⟨h1,h2,by rw[h3],by rw[h4,h1,h2],h5,h6,h7,h8,h9,h10⟩
  ·simp only[if_true];exact⟨h1,h2,h3,h4,h5,h6,h7,h8,h9,h10⟩
theorem zOq(n:Nat)(cs:List Channel)(hs:List Hold)(K j:Nat):(zGt n cs hs K)[j]? = if j < K/\cs[j]?.map Channel.To=some (n:Int) then hs[j]?.map (fun _=>⟨[]⟩) else hs[j]?:=by
 induction K with
 | zero=>simp[zGt]
 | succ K ih =>
  rw[zDi];unfold zI7
  split
  ·rename_i hc
   rw[List.getElem?_set,zFo]
   split
   ·rename_i e
    subst e;by_cases hl:K < hs.length
    ·rw[if_pos hl,if_pos ⟨Nat.lt_succ_self _,hc⟩,List.getElem?_eq_getElem hl];rfl
    ·rw[if_neg hl,if_pos ⟨Nat.lt_succ_self _,hc⟩,List.getElem?_eq_none (by omega)];rfl
   ·rename_i e
    rw[ih]
    congr 1
    simp only[eq_iff_iff];constructor;·rintro⟨h1,h2⟩;exact⟨by omega,h2⟩
    ·rintro⟨h1,h2⟩;exact⟨by omega,h2⟩
  ·rename_i hc
   rw[ih]
   congr 1
   simp only[eq_iff_iff];constructor;·rintro⟨h1,h2⟩;exact⟨by omega,h2⟩
   ·rintro⟨h1,h2⟩;refine⟨?_,h2⟩;by_cases e:j=K
    ·subst e;exact absurd h2 hc
    ·omega
open Classical in
theorem zLb(f:Nat->Bool)(m:Machine)(j:Nat):∀ k,(zCe f m k).Holds[j]? = if (∃ c,m.Plan.Channels[j]? = some c/\0<=c.To/\c.To < k/\f c.To.toNat=false) then m.Holds[j]?.map (fun _=>⟨[]⟩) else m.Holds[j]?:=by
 intro k
 induction k with
 | zero =>
  rw[if_neg]
  ·rfl
  ·rintro⟨c,_,h1,h2,_⟩;omega
 | succ k ih =>
  have hp:=(zCl f m k).1;cases g:f k
  ·have e:zCe f m (k+1)=zGu (zCe f m k) k:=by show(if f k then _ else _)=_;rw[g];rfl
   rw[e];simp only[zGu,zDm];rw[hp,zOq,ih];by_cases h1:∃ c,m.Plan.Channels[j]? = some c/\0<=c.To/\c.To < k/\f c.To.toNat=false
   ·have he:∀ o:Option Hold,(o.map (fun _=>(⟨[]⟩:Hold))).map (fun _=>(⟨[]⟩:Hold))=o.map (fun _=>⟨[]⟩):=fun o=>by cases o<;>rfl
    rw[if_pos h1,he,ite_self]
    split
    ·rfl
    ·rename_i hh
     obtain⟨c,a1,a2,a3,a4⟩:=h1;exact absurd ⟨c,a1,a2,by omega,a4⟩ hh
   ·rw[if_neg h1];by_cases h2:m.Plan.Channels[j]?.map Channel.To=some (k:Int)
    ·obtain⟨c,a1,a2⟩:=Option.map_eq_some_iff.1 h2;rw[if_pos ⟨(List.getElem?_eq_some_iff.1 a1).1,h2⟩]
     split
     ·rfl
     ·rename_i hh
      exact absurd ⟨c,a1,by omega,by omega,by rw[a2];simpa using g⟩ hh
    ·rw[if_neg (fun h=>h2 h.2)]
     split
     ·rename_i hh
      obtain⟨c,a1,a2,a3,a4⟩:=hh;by_cases e:c.To=k
      ·exact absurd (by rw[a1];simp[e]) h2
      ·exact absurd ⟨c,a1,a2,by omega,a4⟩ h1
     ·rfl
  ·have e:zCe f m (k+1)=zCe f m k:=by show(if f k then _ else _)=_;rw[g];rfl
   rw[e,ih]
   congr 1
   simp only[eq_iff_iff];constructor;·rintro⟨c,a1,a2,a3,a4⟩;exact⟨c,a1,a2,by omega,a4⟩
   ·rintro⟨c,a1,a2,a3,a4⟩;refine⟨c,a1,a2,?_,a4⟩;by_cases e:c.To=k
    ·rw[e,Int.toNat_natCast,g] at a4;cases a4
    ·omega
theorem zM3(f:Nat->Bool)(cs:List Channel)(hs:List Hold):∀ k,(zEl f cs hs k).length=hs.length:=by
 intro k
 induction k with
 | zero=>rfl
 | succ k ih =>
  show(zF1 f cs (zEl f cs hs k) k).length=_
  unfold zF1
  split
  ·split
   ·exact ih
   ·rw[List.length_set,ih]
  ·exact ih
open Classical in
theorem M.fgH_at(f:Nat->Bool)(cs:List Channel)(hs:List Hold)(j:Nat):∀ k,(zEl f cs hs k)[j]? = if (j < k/\∃ c,cs[j]? = some c/\f c.To.toNat=false) then hs[j]?.map (fun _=>⟨[]⟩) else hs[j]?:=by
 intro k
 induction k with
 | zero=>rw[if_neg (fun h=>by omega)];rfl
 | succ k ih =>
  show(zF1 f cs (zEl f cs hs k) k)[j]? = _
  by_cases hk:j=k
  ·subst hk;rw[if_neg (fun h=>by omega)] at ih
   unfold zF1
   split
   ·rename_i c hc
    split
    ·rename_i g
     rw[ih,if_neg];rintro⟨_,c',h1,h2⟩;rw[hc] at h1;obtain rfl:=Option.some.inj h1;rw[g] at h2;cases h2
    ·rename_i g
     rw[if_pos ⟨Nat.lt_succ_self _,c,hc,by simpa using g⟩,List.getElem?_set,if_pos rfl,zM3]
     split
     ·rename_i hl;rw[List.getElem?_eq_getElem hl];rfl
     ·rename_i hl;rw[List.getElem?_eq_none (by omega)];rfl
   ·rename_i hc
    rw[ih,if_neg];rintro⟨_,c',h1,h2⟩;rw[hc] at h1;cases h1
  ·have e:(zF1 f cs (zEl f cs hs k) k)[j]? = (zEl f cs hs k)[j]?:=by
    unfold zF1
    split
    ·split
     ·rfl
     ·rw[List.getElem?_set,if_neg (fun e=>hk e.symm)]
    ·rfl
   rw[e,ih]
   congr 1
   simp only[eq_iff_iff];constructor;·rintro⟨h1,h2⟩;exact⟨by omega,h2⟩
   ·rintro⟨h1,h2⟩;exact⟨by omega,h2⟩
theorem M.fg_eq{m:Machine}(h:zBl m)(f:Nat->Bool):({ zDa f m m.Cores.length with Holds:=zEl f m.Plan.Channels m.Holds m.Holds.length }:Machine)=zCe f m m.Cores.length:=by
 obtain⟨h1,h2,h3,h4,h5,h6,h7,h8,h9,h10⟩:=zCl f m m.Cores.length;have hh:zEl f m.Plan.Channels m.Holds m.Holds.length=(zCe f m m.Cores.length).Holds:=by
  apply List.ext_getElem?;intro j;rw[M.fgH_at,zLb]
  congr 1
  simp only[eq_iff_iff];constructor
  ·rintro⟨a0,c,a1,a2⟩;have hv:=h.csv;simp only[zCk,Bool.and_eq_true,List.all_eq_true] at hv;have hc:=hv.2.2 c (List.mem_of_getElem? a1);simp only[zIk,Bool.and_eq_true,zA6] at hc;have hn:=h.nc;exact⟨c,a1,by omega,by omega,a2⟩
  ·rintro⟨c,a1,a2,a3,a4⟩;exact⟨by have:=(List.getElem?_eq_some_iff.1 a1).1;have:=h.nh;omega,c,a1,a4⟩
 rw[hh]
 generalize zCe f m m.Cores.length=y at *
 generalize zDa f m m.Cores.length=x at *
 obtain⟨a1,a2,a3,a4,a5⟩:=y;obtain⟨b1,b2,b3,b4,b5⟩:=x;simp only at *;subst h1 h2 h3 h4 h5 h6
 rfl
theorem M.prv_oz{c:Int}(h1:1<=c)(h8:c<=8):zBr [zJ5] c=true:=by
 simp only[zBr,zJ5,Bool.and_eq_true,zA6,List.all_eq_true,List.length_singleton,List.mem_singleton,forall_eq];refine⟨⟨by omega,by omega⟩,⟨h1,h8⟩,?_⟩
 unfold zEz zDd;simp
theorem zOs{x:Machine}(h:zBl x){k:Nat}(hk:k < x.Cores.length):zBl (zGu x k):=by
 have hkp:k < x.Plan.Parts.length:=by have:=h.nc;omega
 have hq:x.Plan.Parts[k]? = some x.Plan.Parts[k]:=List.getElem?_eq_getElem hkp;have hpc:zM0 x k=(x.Plan.Parts[k]).Cells:=by simp only[zM0,List.getD_eq_getElem?_getD,hq,Option.getD_some]
 have hpp:k < x.Programs.length:=by have:=h.pg.np;have:=h.nc;omega
 have hb:=zDy (h.pg.prv k _ _ (List.getElem?_eq_getElem hpp) hq);have hz:=M.prv_oz hb.2.1 hb.2.2;unfold zGu;rw[hpc]
 generalize x.Plan.Parts[k]=q at *
 refine⟨⟨h.pg.set,by simpa [zDm] using h.pg.np,?_⟩,by simpa [zDm] using h.nc,by simpa [zDm,zFo] using h.nh,?_,?_,h.tick⟩
 ·intro j p r hp hr;simp only[zDm] at hp hr;rw[List.getElem?_set] at hp
  split at hp
  ·rename_i e
   subst e;obtain rfl:=Option.some.inj hp;rw[hq] at hr;obtain rfl:=Option.some.inj hr;exact hz
  ·exact h.pg.prv j p r hp hr
 ·intro j c p r hc hp hr;simp only[zDm] at hc hp hr;rw[List.getElem?_set] at hc hp
  split at hc
  ·rename_i e
   subst e;rw[if_pos rfl,if_pos hpp] at hp;obtain rfl:=Option.some.inj hc;obtain rfl:=Option.some.inj hp;rw[hq] at hr;obtain rfl:=Option.some.inj hr;exact zO5 hz
  ·rename_i e
   rw[if_neg e] at hp;exact h.fits j c p r hc hp hr
 ·intro j y c hx hc;simp only[zDm] at hx hc;rcases zO2 _ _ _ _ j y hx with rfl|hx
  ·have hz:=zFc h.pg.set hc;have hp:=zC3 hz;simp only[zFz,hz,zE0,List.all_nil,Bool.and_true,Bool.true_and,List.length_nil,decide_eq_true_eq];omega
  ·exact h.hv j y c hx hc
theorem M.fgI_MV{m:Machine}(h:zBl m)(f:Nat->Bool):∀ k,k<=m.Cores.length->zBl (zCe f m k):=by
 intro k
 induction k with
 | zero=>intro _;exact h
 | succ k ih =>
  intro hk;have h1:=ih (by omega)
  show zBl (if f k then zCe f m k else zGu (zCe f m k) k)
  split
  ·exact h1
  ·exact zOs h1 (by rw[(zCl f m k).2.2.2.2.2.2.1];omega)
theorem zBz.prog{L b:Nat}{F F':List Nat}{w W:World}{m:Machine}(h:zBz L b F w W m F'){g s n c N:Nat}(hv:w.cell? ⟨b,3,none⟩=some (.slice (some ⟨g,s,none⟩) n c))(hN:N < m.Programs.length) :
  ∃ k Fy,m.Programs[N]? = some k/\Om L W g (s+N) k Fy/\(∀ x∈g::Fy,x∈F'/\x≠b) /\
   ∀ W' k' Fy',Chg g (s+N) 1 Fy W W'->Om L W' g (s+N) k' Fy'->(∀ x∈Fy',x∈Fy\/W.heap.size<=x)->∃ F2,zBz L b F w W' { m with Programs:=m.Programs.set N k' } F2:=by
 obtain⟨_,_,_,ho⟩:=id h.om;obtain⟨Fc,lc⟩:=h.om.lMachinePrograms;obtain⟨g',s',Fy,k,e,hx,hsub,li⟩:=(lc.om ho).idxS (by rw[show 0+3=3 from rfl];exact(h.cl 3 (by decide)).trans hv) N hN
 cases e;have LC:=lc.comp li;have hs:∀ x∈g::Fy,x∈F'/\x≠b:=fun x hx=>Lens.fsub lc ho x (hsub x hx)
 simp only[GT.sz,Nat.mul_one] at LC;refine⟨k,Fy,hx.out,LC.om ho,hs,fun W' k' Fy' hc hk' hf=>?_⟩
 obtain⟨F2,h1,h2,h3⟩:=LC.back L W' k' Fy' ho hc hk' hf;have hb:∀ j,W'.cell? ⟨b,j,none⟩=W.cell? ⟨b,j,none⟩:=fun j=>World.cell?_of_block (hc.keep h.lt (fun e=>(hs g (List.mem_cons_self ..)).2 e.symm) (fun hm=>(hs b (List.mem_cons_of_mem _ hm)).2 rfl))
 refine⟨F2,h1,h.ch.trF h3 h.sub,fun x hx=>?_,fun j hj=>(hb j).trans (h.cl j hj)⟩
 rcases h2 x hx with h4|h4
 ·exact h.sub x h4
 ·rcases hf x h4 with h5|h5
  ·exact h.sub x (hs x (List.mem_cons_of_mem _ h5)).1
  ·exact .inr (Nat.le_trans h.ch.sz h5)
theorem zBz.progZ{L b:Nat}{F F':List Nat}{w W:World}{m:Machine}(h:zBz L b F w W m F')(hL:L<=W.heap.size){g s n c N:Nat}(hv:w.cell? ⟨b,3,none⟩=some (.slice (some ⟨g,s,none⟩) n c))(hN:N < m.Programs.length) :
  ∃ F2,zBz L b F w ((W.alloc (.cells #[.int .i64 0,.int .i64 0,.int .i64 0] 62)).setCell ⟨g,s+N,none⟩ (.slice (some ⟨W.heap.size,0,none⟩) 1 1)) { m with Programs:=m.Programs.set N [zJ5] } F2:=by
 obtain⟨k,Fy,_,om,hs,hback⟩:=h.prog hv hN;have hg:=om.bk;have ha:Ext W (W.alloc (.cells #[.int .i64 0,.int .i64 0,.int .i64 0] 62)):=(zr _).alloc _;have hz:=Bk.new W [.int .i64 0,.int .i64 0,.int .i64 0] 62;have hne:W.heap.size≠g:=by omega
 obtain⟨vs,hen,hat,hown⟩:=id om;refine hback _ [zJ5] [W.heap.size] ((Chg.ofExt ha hg.1).set ⟨Nat.le_refl _,by omega⟩ _) ⟨[.slice (some ⟨W.heap.size,0,none⟩) 1 1],?_,?_,?_⟩ (fun x hx=>by rw[List.mem_singleton] at hx;subst hx;exact .inr (Nat.le_refl _))
 ·refine⟨_,rfl,_,_,rfl,Nat.le_refl _,by simp[maxLen],.inr ⟨by simp,W.heap.size,0,[],rfl,rfl,?_⟩⟩
  exact Row.one (α:=Order) (x:=zJ5) (cs:=[.int .i64 0,.int .i64 0,.int .i64 0]) ⟨rfl,zAp,zAp,zAp,rfl⟩ (fun j u hj=>by rw[Nat.zero_add];exact(World.cell?_of_block (zA3 hne)).trans (hz.cell hj))
 ·intro j u hj
  match j,hj with
  | 0,hj =>
   obtain⟨v0,hv0⟩:∃ v,W.cell? ⟨g,s+N,none⟩=some v:=by
    cases vs with
    | nil=>have:=GT.len hen;simp[GT.sz] at this
    | cons v _=>exact⟨v,by simpa using hat 0 v rfl⟩
   cases hj;exact zB0 ((zA0 ha hg.1).trans hv0)
 ·refine⟨by simp;omega,fun x hx=>?_⟩
  rcases List.mem_cons.1 hx with rfl|hx
  ·exact⟨hg.2.1,((hown.2 x (List.mem_cons_self ..)).2.ext ha).set _ _⟩
  ·rw[List.mem_singleton] at hx;subst hx;exact⟨hL,Fz.set (show Fz _ _ from⟨_,_,hz⟩) _ _⟩
set_option maxHeartbeats 4000000
theorem zEg(v:Value)(m:Machine)(n:Int)(w:World)(h:Rv w v m) :
  Calls Tryz.prog 6 #[v,.int .i64 n] w fun e w' => ∃ v',e = .returned v'/\Ov w.heap.size w' v' (zDc m n)/\Ext w w':=by
 have H:=zh h;obtain⟨a0,c0,a1,c1,a2,c2,a3,c3,a4,c4,a5,c5,rfl,rt,h0,l0,h1,l1,h2,l2,h3,l3,h4,l4,h5,l5⟩:=h.openMachine;have H0:=h0;have H1:=h1;clear h h0 h1 h2 h3 h4 h5;go_enter Tryz.func6,Tryz.ntmps6;go_upto_region 1 with (fail)
 refine zA1 (fun W=>Ext w W/\Bk W w.heap.size [.slice a0 m.Plan.Parts.length c0,.slice a1 m.Plan.Channels.length c1,.slice a2 m.Plan.Slots.length c2,.slice a3 m.Programs.length c3,.slice a4 m.Cores.length c4,.slice a5 m.Holds.length c5,.int .i64 m.Tick] 32/\Bk W (w.heap.size+1) [.slice none 0 0,.slice none 0 0,.slice none 0 0,.slice none 0 0,.slice none 0 0,.slice none 0 0,.int .i64 0] 32) ⟨((zr _).alloc _).alloc _,(Bk.new _ _ _).ext ((zr _).alloc _),Bk.new1 _ _ _ _⟩ ?_
 rintro W ⟨e1,kA,kB⟩;have HE0:=zh e1;obtain⟨d0,d1,d2,d3,d4,d5,d6⟩:=Bk.k7 kA;have KA:=zh kA;have KB:=zh kB;clear e1 kA kB;cases g:zBs m n
 ·go_wp2_with (go_at_call 20;refine(zBh _ m n _ (H.out.ext HE0.out)).mono ?_;rintro e w0 ⟨rfl,he⟩;rw[g];have E:=zh (HE0.out.tr he);have KAx:=KA.out.ext he;have ltA:=KAx.lt;obtain⟨x0,x1,x2,x3,x4,x5,x6⟩:=Bk.k7 KAx;have KBx:=KB.out.ext he;obtain⟨z0,z1,z2,z3,z4,z5,z6⟩:=Bk.k7 KBx;have zf:=KBx.fz;have ltZ:=KBx.lt;clear KBx;clear he KAx)
  refine bodyPost_ret (v:=.agg #[.slice none 0 0,.slice none 0 0,.slice none 0 0,.slice none 0 0,.slice none 0 0,.slice none 0 0,.int .i64 0]) (by simp[results,Tryz.results6,go_sem,z0,z1,z2,z3,z4,z5,z6]) rfl ⟨_,rfl,by rw[zFp g];exact Ov.mz _ _,(((((((E.out).set (by simp) _).set (by simp) _).set (by simp) _).set (by simp) _).set (by simp) _).set (by simp) _).set (by simp) _⟩
 obtain⟨hmv,b1,b2⟩:=zBt.1 g;obtain⟨n,rfl⟩:∃ k:Nat,n=k:=⟨n.toNat,by omega⟩
 have hn:n < m.Cores.length:=by omega
 have hp5:=zAn hmv.pg.set;have hc8:=zAu hmv.pg.set;have hn5:m.Cores.length<=5:=by have:=hmv.nc;omega
 have htot:GT.tot m<=1048576:=Nat.le_trans (zDx hmv) (by omega)
 have hres:=zh (zFq g);have HNP:Hid (m.Programs.length=m.Cores.length):=zh (by have:=hmv.pg.np;have:=hmv.nc;omega)
 have HNC:=zh hmv.nc;have HNH:=zh hmv.nh;go_upto_region 3 with (go_at_call 20;refine(zBh _ m n _ (H.out.ext HE0.out)).mono ?_;rintro e w0 ⟨rfl,he⟩;rw[g];have E:=zh (HE0.out.tr he);have KAx:=KA.out.ext he;have ltA:=KAx.lt;obtain⟨x0,x1,x2,x3,x4,x5,x6⟩:=Bk.k7 KAx;replace KA:=zh (KA.out.ext he);replace KB:=zh (KB.out.ext he);clear he KAx)
 have ltB0:=KB.out.lt;go_upto_region 4 with (go_at_call 21;refine(zCf _ m _ (H.out.ext E.out) htot).mono ?_;rintro e w5 ⟨v5,rfl,hov,ex⟩;obtain⟨cs5,F5,rfl,hen,how⟩:=hov;obtain⟨v0,v1,v2,v3,v4,v5,G0,G1,G2,G3,G4,G5,rfl,⟨t0,u0,rfl,_⟩,⟨t1,u1,rfl,_⟩,⟨t2,u2,rfl,_⟩,⟨t3,u3,rfl,_⟩,⟨t4,u4,rfl,_⟩,⟨t5,u5,rfl,_⟩,_,_⟩:=id hen;have HEN:=zh hen;have HOW:=zh how;have EX:=zh ex;replace KB:=zh (KB.out.ext ex);replace KA:=zh (KA.out.ext ex);clear hen how ex)
 refine zA1 (fun W6=>Ext w5 W6/\Bk W6 w5.heap.size [.slice t0 m.Plan.Parts.length u0,.slice t1 m.Plan.Channels.length u1,.slice t2 m.Plan.Slots.length u2,.slice t3 m.Programs.length u3,.slice t4 m.Cores.length u4,.slice t5 m.Holds.length u5,.int .i64 m.Tick] 32) ⟨(zr _).alloc _,Bk.new _ _ _⟩ ?_
 rintro W6 ⟨E6,K6⟩;have hs05:=EX.out.sz;have hw0:=E.out.sz;have ltB5:=KB.out.lt;have om:Om w0.heap.size W6 w5.heap.size 0 m F5:=⟨_,GT.ext HEN.out E6,fun j u hj=>by rw[Nat.zero_add];exact K6.cell hj,List.nodup_cons.2 ⟨fun hm=>Nat.lt_irrefl _ (HOW.out.lt hm),HOW.out.1⟩,fun k hk=>by
  rcases List.mem_cons.1 hk with rfl|hk
  ·exact⟨hs05,⟨_,_,K6⟩⟩
  ·exact⟨(HOW.out.2 k hk).1,((HOW.out.2 k hk).2).ext E6⟩⟩
 have E7:=zh ((E.out.tr EX.out).tr E6);have KB6:=zh (KB.out.ext E6);have KA6:=zh (KA.out.ext E6);have HF:Hid (∀ x∈F5,w0.heap.size<=x/\x < w5.heap.size):=zh (fun x hx=>⟨(HOW.out.2 x hx).1,HOW.out.lt hx⟩)
 have hs6:=E6.sz;have k3:=K6.cell (j:=3) rfl;have k4:=K6.cell (j:=4) rfl;have k5:=K6.cell (j:=5) rfl;have hBlt:=K6.lt;have OM6:=zh om
 generalize hB:w5.heap.size=B at *
 have hR0:w.heap.size+1 < w0.heap.size:=ltB0;clear om K6 E6 HEN HOW EX KB KA hB d0 d1 d2 d3 d4 d5 d6 x0 x1 x2 x3 x4 x5 x6;obtain⟨d0,d1⟩:=Bk.k2 KA6.out;have d4:=KA6.out.cell (j:=4) rfl;have ltA6:=KA6.out.lt;go_upto_block 0 with (go_at_call 22;refine(zL5 _ m.Plan.Channels m.Cores.length n _ (H1.out.ext E7.out) hn5 hn).mono ?_;rintro e w7 ⟨v7,rfl,ofl,he7⟩;obtain⟨fa,fc,rfl,hfl⟩:=ofl.form;have OFL:=zh ofl;have EF:=zh he7;clear ofl he7)
 rw[zC0] at *;have hsz7:=EF.out.sz;have TB0:=zh (zBz.refl (OM6.out.ext EF.out));have E8:=zh (E7.out.tr EF.out);have KB8:=zh (KB6.out.ext EF.out);have KA8:=zh (KA6.out.ext EF.out);replace k3:=(zA0 EF.out hBlt).trans k3;replace k4:=(zA0 EF.out hBlt).trans k4;replace k5:=(zA0 EF.out hBlt).trans k5;have hBlt7:B < w7.heap.size:=by omega
 have hL7:w0.heap.size<=w7.heap.size:=by omega
 obtain⟨GF,sfl,ofw⟩:=OFL.out;have HSL:=zh sfl;have hBG:B ∉ GF:=fun hm=>by have:=(ofw.2 B hm).1;omega
 have hFG:zBb GF F5:=fun x h2 h1=>by have:=(HF.out x h1).2;have:=(ofw.2 x h2).1;omega
 have hFB:B ∉ F5:=fun hm=>by have:=(HF.out B hm).2;omega
 obtain⟨FL,hFL⟩:∃ FL,zBc m.Plan.Channels m.Cores.length n=FL:=⟨_,rfl⟩;have hFN:FL.length=m.Cores.length:=by rw[<- hFL,zC0]
 have hfd:∀ k,zF0 m n k=FL.getD k false:=fun k=>by rw[<- hFL];rfl
 rw[hFL] at HSL;obtain⟨f,hf⟩:∃ f,zF0 m n=f:=⟨_,rfl⟩;rw[hf] at hres hfd;obtain⟨g3,s3,rfl⟩:∃ g s,t3=some ⟨g,s,none⟩:=by
  obtain⟨_,_,_,ho⟩:=id TB0.out.om;obtain⟨Fc,lc⟩:=TB0.out.om.lMachinePrograms;obtain⟨g',s',_,_,e,_⟩:=(lc.om ho).idxS (by rw[show 0+3=3 from rfl];exact k3) n (by have:=HNP.out;omega)
  exact⟨g',s',e⟩
 go_wp2_with fail
 go_loopw [24] (fun v24 wr => ∃ (k:Nat) (Fk:List Nat),k<=m.Cores.length/\v24 = .int .i64 k/\zBz w0.heap.size B F5 w7 wr (zCe f m k) Fk) (fun v24 _=>m.Cores.length - (intOf v24).toNat)
 case atStart=>exact⟨0,_,Nat.zero_le _,rfl,TB0.out⟩
 case round =>
  obtain⟨k,Fk,hk,rfl,tb⟩:=hrel;have TBh:=zh tb;have hszr:=tb.ch.sz;clear tb;by_cases hkt:k < m.Cores.length
  ·obtain⟨fb,fo,fx,rfl,hfb,hx,hfc⟩:=Rs.atBool (⟨_,TBh.out.ch.sl HSL.out hBG hFG⟩:Rs wr _ FL) k (by omega)
   have hfk:f k=fx:=by rw[hfd,List.getD_eq_getElem?_getD,hx.out];rfl
   obtain⟨e1,_,_,_,_,_,e7,e8,e9,_⟩:=zCl f m k;cases fx
   ·have hnext:=zh (show zCe f m (k+1)=zGu (zCe f m k) k by show(if f k then _ else _)=_;rw[hfk];rfl)
    obtain⟨x,hxx⟩:∃ x,zCe f m k=x:=⟨_,rfl⟩;rw[hxx] at TBh hnext e1 e7 e8 e9;have hkp:k < x.Programs.length:=by have:=HNP.out;omega
    have hkm:k < m.Programs.length:=by have:=HNP.out;omega
    obtain⟨F2,tz⟩:=TBh.out.progZ (by omega) k3 hkp
    obtain⟨_,_,_,om3,hs3,_⟩:=TBh.out.prog k3 hkp;have gf3:=om3.bk.2.2.2;have hg3:=om3.bk.1;obtain⟨v30,hv30⟩:∃ v,wr.cell? ⟨g3,s3+k,none⟩=some v:=by
     obtain⟨vs,hen,hat,_⟩:=om3;cases vs with
     | nil=>have:=GT.len hen;simp[GT.sz] at this
     | cons v _=>exact⟨v,by simpa using hat 0 v rfl⟩
    have y3:=(TBh.out.cl 3 (by decide)).trans k3
    rw[World.setCell_alloc_past _ _ _ _ hg3] at tz;have TZ:=zh tz;have hHn:x.Plan.Channels.length<=x.Holds.length:=by rw[e1];have:=HNH.out;omega
    have hc8x:x.Plan.Channels.length<=8:=by rw[e1];omega
    have hqx:∃ q,x.Plan.Parts[k]? = some q:=⟨_,List.getElem?_eq_getElem (by rw[e1];have:=HNC.out;omega)⟩
    obtain⟨q,hq⟩:=hqx;have hpc:=zh (show zM0 x k=q.Cells by simp only[zM0,List.getD_eq_getElem?_getD,hq,Option.getD_some])
    have hkx:k < x.Cores.length:=by omega
    clear om3 hs3 tz e8 e9 hxx e1 e7;go_upto_region 9 with (fail)
    refine zA1 (fun W9 => ∃ F2,zBz w0.heap.size B F5 w7 W9 { x with Programs:=x.Programs.set k [zJ5] } F2) ⟨F2,TZ.out⟩ ?_
    rintro W9 ⟨F9,t9⟩;have T9:=zh t9;have hs9:=t9.ch.sz;clear t9 TZ;go_wp2_with (go_at_call 23;refine(zMk w0.heap.size B k { x with Programs:=x.Programs.set k [zJ5] } F9 q _ T9.out.om (by omega) hkx hq hHn hc8x (by omega)).mono ?_;rintro e w10 ⟨F3,om10,ch10,sub10,⟨vr,rfl⟩,cl10⟩;have T10:=zh (T9.out.trans (F2:=F3) ⟨om10,ch10,sub10,fun j _=>cl10 j⟩);clear om10 ch10 sub10 cl10)
    go_roundw
    case rel=>exact⟨k+1,F3,by omega,by go_num,by rw[hnext.out,zGu,hpc.out];exact T10.out⟩
    case measure=>simp[intOf];omega
   ·have hnext:=zh (show zCe f m (k+1)=zCe f m k by show(if f k then _ else _)=_;rw[hfk];rfl)
    clear e1 e7 e8 e9;go_wp2;go_roundw
    case rel=>exact⟨k+1,Fk,by omega,by go_num,by rw[hnext.out];exact TBh.out⟩
    case measure=>simp[intOf];omega
  ·obtain rfl:k=m.Cores.length:=by omega
   have KBx:=TBh.out.bk KB8.out (by omega) (fun hx=>by have:=(HF.out _ hx).1;omega)
   have EY:=zh (TBh.out.ch.ext E8.out (by omega) (fun x hx=>by have:=(HF.out x hx).1;omega))
   have SB:=zh TBh.out.sub;have OM7:=zh TBh.out.om;obtain⟨z0,z1,z2,z3,z4,z5,z6⟩:=Bk.k7 KBx;have zf:=KBx.fz;have ltZ:=KBx.lt;have hbf:=TBh.out.om.bk.2.2.2;have hb7:=TBh.out.lt;clear KBx;obtain⟨x,hx⟩:∃ x,zCe f m m.Cores.length=x:=⟨_,rfl⟩;rw[hx] at OM7;obtain⟨p0,q0,p1,q1,p2,q2,p3,q3,p4,q4,p5,q5,y0,y1,y2,y3,y4,y5,y6,_⟩:=OM7.out.openM;go_wp2;obtain⟨cs8,hen8,hat8,hown8⟩:=OM7.out;obtain⟨v0,v1,v2,v3,v4,v5,_,_,_,_,_,_,rfl,_⟩:=id hen8;obtain rfl:=Option.some.inj ((hat8 0 _ rfl).symm.trans y0);obtain rfl:=Option.some.inj ((hat8 1 _ rfl).symm.trans y1);obtain rfl:=Option.some.inj ((hat8 2 _ rfl).symm.trans y2);obtain rfl:=Option.some.inj ((hat8 3 _ rfl).symm.trans y3);obtain rfl:=Option.some.inj ((hat8 4 _ rfl).symm.trans y4);obtain rfl:=Option.some.inj ((hat8 5 _ rfl).symm.trans y5);have hZ:w.heap.size+1 ∉ Fk:=fun hm=>(SB.out _ hm).elim (fun h=>by have:=(HF.out _ h).1;omega) (fun h=>by omega)
   have OW:Own w0.heap.size wr Fk:=⟨(List.nodup_cons.1 hown8.1).2,fun k hk=>hown8.2 k (List.mem_cons_of_mem _ hk)⟩
   refine bodyPost_ret (v:=.agg #[.slice p0 x.Plan.Parts.length q0,.slice p1 x.Plan.Channels.length q1,.slice p2 x.Plan.Slots.length q2,.slice p3 x.Programs.length q3,.slice p4 x.Cores.length q4,.slice p5 x.Holds.length q5,.int .i64 x.Tick]) (by simp[results,Tryz.results6,go_sem,z0,z1,z2,z3,z4,z5,z6]) rfl ⟨_,rfl,by rw[hres.out,hx];exact⟨_,_,rfl,zBp (c:=w.heap.size+1) (o:=0) (ds:=[.slice p0 x.Plan.Parts.length q0,.slice p1 x.Plan.Channels.length q1,.slice p2 x.Plan.Slots.length q2,.slice p3 x.Programs.length q3,.slice p4 x.Cores.length q4,.slice p5 x.Holds.length q5,.int .i64 x.Tick]) hen8 hZ,((OW.mono (by omega)).put (b:=w.heap.size+1) (o:=0) (cs:=[.slice p0 x.Plan.Parts.length q0,.slice p1 x.Plan.Channels.length q1,.slice p2 x.Plan.Slots.length q2,.slice p3 x.Programs.length q3,.slice p4 x.Cores.length q4,.slice p5 x.Holds.length q5,.int .i64 x.Tick]))⟩,?_⟩
   exact(((((((EY.out).set (by simp) _).set (by simp) _).set (by simp) _).set (by simp) _).set (by simp) _).set (by simp) _).set (by simp) _
end Sk
