/- Contracts of functions of the given program. -/
import Derived.Test.YtbekofpkcahbkaaCpm
namespace Sk
open Go Go.Proofs Go.RowKit
set_option maxHeartbeats 4000000
set_option maxRecDepth 100000
set_option linter.unusedVariables false
set_option linter.unusedSimpArgs false
def zAw(c:Int):Core:=if zA5 c 1 8 then ⟨List.replicate c.toNat 0,0,false⟩ else ⟨[],0,false⟩
theorem zHd{c:Int}(h:zA5 c 1 8=false):zAw c=⟨[],0,false⟩:=by simp[zAw,h]
theorem zF5{n:Nat}(h:zA5 (n:Int) 1 8=true):zAw (n:Int)=⟨List.replicate n 0,0,false⟩:=by simp[zAw,h]
theorem Ov.core0(L:Nat)(w:World):Ov L w (.agg #[.slice none 0 0,.int .i64 0,.bool false]) (⟨[],0,false⟩:Core):=⟨_,[],rfl,GT.zero (α:=Core) w,Own.nil _ _⟩
theorem Ov.core{L:Nat}{w:World}{v:Value}{x:Core}(h:Os L w v x.Cells)(hr:rng x.At):Ov L w (.agg #[v,.int .i64 x.At,.bool x.Stopped]) x:=by
 obtain⟨F,h1,h2⟩:=h;exact⟨_,F,rfl,⟨_,rfl,h1,hr⟩,h2⟩
theorem zH4(c:Int)(w:World) :
  Calls Try.prog 57 #[.int .i64 c] w fun e w' => ∃ v',e = .returned v'/\Ov w.heap.size w' v' (zAw c)/\Ext w w':=by
 cases g:zA5 c 1 8
 ·go_enter Try.func57,Try.ntmps57;go_wp2_with (go_at_call 31;refine(zAa _ _ _ _).mono ?_;rintro e w' ⟨rfl,rfl⟩;rw[g])
  refine bodyPost_ret (v:=.agg #[.slice none 0 0,.int .i64 0,.bool false]) (by simp[results,Try.results57,go_sem]) rfl ⟨_,rfl,by rw[zHd g];exact Ov.core0 _ _,?_⟩
  repeat (first|exact zr _|refine Ext.alloc ?_ _|refine Ext.set ?_ (by simp) _)
 ·obtain⟨h1,h2⟩:=zA4.1 g;obtain⟨n,rfl⟩:∃ n:Nat,c=n:=⟨c.toNat,by omega⟩
  have hmk:∀ u:World,(Instr.makeSlice 61 (.int .i64 n) (.int .i64 n)).run Try.prog u = .ok (.slice (some ⟨u.heap.size,0,none⟩) n n) (u.alloc (.cells (madeCells #[.int .i64 0] (n*1)) 3)):=make_int n (by omega)
  have HO:∀ u:World,Os u.heap.size (u.alloc (.cells (madeCells #[.int .i64 0] (n*1)) 3)) (.slice (some ⟨u.heap.size,0,none⟩) n n) (List.replicate n (0:Int)):=fun u=>Os.made (α:=Int) u n 3 #[.int .i64 0] 0 rfl rfl (by omega)
  go_enter Try.func57,Try.ntmps57;go_upto_region 3 with (go_at_call 31;refine(zAa _ _ _ _).mono ?_;rintro e w' ⟨rfl,rfl⟩;rw[g])
  refine zA2 (fun W=>Ext w W/\Bk W w.heap.size [.slice none 0 0,.int .i64 0,.bool false] 63) ⟨(zr _).alloc _,Bk.new _ _ _⟩ ?_
  rintro W ⟨e1,kA⟩;have HE:=zh e1;have hA:=kA.lt;obtain⟨z0,z1,z2⟩:=Bk.k3 kA;have zf:=kA.fz;have hsz:w.heap.size<=W.heap.size:=e1.sz;have HK:=zh kA;clear e1 kA;go_wp2;have hs:(((W.setCell ⟨w.heap.size,0,none⟩ (.slice (some ⟨W.heap.size,0,none⟩) n n)).setCell ⟨w.heap.size,1,none⟩ (.int .i64 0)).setCell ⟨w.heap.size,2,none⟩ (.bool false)).heap.size=W.heap.size:=by simp
  have HO1:=HO (((W.setCell ⟨w.heap.size,0,none⟩ (.slice (some ⟨W.heap.size,0,none⟩) n n)).setCell ⟨w.heap.size,1,none⟩ (.int .i64 0)).setCell ⟨w.heap.size,2,none⟩ (.bool false));rw[hs,Nat.mul_one] at HO1;have kz:=(((HK.out.set 0 (.slice (some ⟨W.heap.size,0,none⟩) n n)).set 1 (.int .i64 0)).set 2 (.bool false)).alc (.cells (madeCells #[.int .i64 0] n) 3);obtain⟨y0,y1,y2⟩:=Bk.k3 kz;refine bodyPost_ret (v:=.agg #[.slice (some ⟨W.heap.size,0,none⟩) n n,.int .i64 0,.bool false]) (by simp[results,Try.results57,go_sem,y0,y1,y2]) rfl ⟨_,rfl,by rw[zF5 g];exact Ov.core (x:=⟨List.replicate n 0,0,false⟩) (HO1.mono hsz) ⟨by show(-9223372036854775808:Int)<=0;decide,by show(0:Int)<=9223372036854775807;decide⟩,(((HE.out.set (by simp) _).set (by simp) _).set (by simp) _).alloc _⟩
set_option maxHeartbeats 1000000
def zB6(s:Setup)(ps:List (List Order)):Machine:=⟨s,ps,s.Parts.map (fun p=>zAw p.Cells),List.replicate s.Channels.length ⟨[]⟩,0⟩
def M.mz:Machine:=⟨⟨[],[],[]⟩,[],[],[],0⟩
noncomputable def zD6(s:Setup)(ps:List (List Order)):Machine:=if zHb s ps then zB6 s ps else M.mz
theorem zDn{s:Setup}{ps:List (List Order)}(h:zHb s ps=true):zD6 s ps=zB6 s ps:=if_pos h
theorem zCq{s:Setup}{ps:List (List Order)}(h:zHb s ps=false):zD6 s ps=M.mz:=if_neg (by rw[h];decide)
theorem zEo{s:Setup}(h:zAr s=true){k:Nat}{c:Channel}(hk:s.Channels[k]? = some c):zB1 c.Kind c.Size=true:=by
 simp only[zAr,zCx,Bool.and_eq_true,List.all_eq_true] at h
 have:=h.2.1.2.2 c (List.mem_of_getElem? hk)
 simp only[zF3,Bool.and_eq_true] at this;exact this.1
theorem zC9{k s:Int}(h:zB1 k s=true):1<=s/\s<=4:=by
 rcases zDu.1 h with ⟨_,rfl⟩ | ⟨_,h1,h2⟩
 ·exact⟨by decide,by decide⟩
 ·exact⟨h1,h2⟩
theorem zF0{p:List Order}{c:Int}(h:zB7 p c=true):(1<=p.length/\p.length<=20)/\1<=c/\c<=8:=by
 simp only[zB7,Bool.and_eq_true,zA4] at h;exact⟨⟨by omega,by omega⟩,h.2.1⟩
theorem zG4{s:Setup}{ps:List (List Order)}(h:M.PG s ps):zBm (zB6 s ps):=by
 refine⟨h,by simp[zB6],by simp[zB6],?_,?_,⟨by show(0:Int)<=0;decide,by show(0:Int)<=100000;decide⟩⟩
 ·intro k c p q hc hp hq;have hb:=zF0 (h.prv k p q hp hq);simp only[zB6,List.getElem?_map] at hc hq;rw[hq] at hc;obtain rfl:=Option.some.inj hc;obtain⟨n,hn⟩:∃ n:Nat,q.Cells=n:=⟨q.Cells.toNat,by omega⟩
  show zAm (zAw q.Cells) p.length q.Cells=true
  rw[hn] at hb ⊢;rw[zF5 (zA4.2 hb.2)];simp only[zAm,zD4,Bool.and_eq_true,zA4,List.all_eq_true,List.length_replicate,beq_self_eq_true];refine⟨trivial,⟨by omega,by omega⟩,fun x hx=>?_⟩
  obtain rfl:=List.eq_of_mem_replicate hx;exact⟨by decide,by decide⟩
 ·intro k x c hx hc;simp only[zB6] at hx hc;obtain rfl:=List.eq_of_mem_replicate (List.mem_of_getElem? hx);have hz:=zEo h.set hc;have hp:=zC9 hz;simp only[zDt,hz,zD4,List.all_nil,Bool.and_true,Bool.true_and,List.length_nil,decide_eq_true_eq];omega
theorem zHs{s:Setup}{ps:List (List Order)}:zDm (zB6 s ps)=zHb s ps:=by
 cases h:zHb s ps
 ·exact Bo.f fun hm=>by
   have:=Bo.t hm.pg
   have e:zHb s ps=true:=this;rw[h] at e;cases e
 ·exact Bo.t (zG4 (zDg.1 h))
theorem zE2{m:Machine}(h:zBm m):GT.tot m<=100000:=by
 have h1:=zIb h.pg.set;have h5:=zAs h.pg.set;have h8:=zBh h.pg.set;have hnp:=h.pg.np;have hq:∀ {k:Nat},k < m.Programs.length->∃ q,m.Plan.Parts[k]? = some q:=fun {k} hk=>⟨_,List.getElem?_eq_getElem (by omega)⟩
 have hp:=zBc 20 5 m.Programs (by omega) (fun x hx=>by
  obtain⟨k,hk⟩:=List.getElem?_of_mem hx;obtain⟨q,hq⟩:=hq (List.getElem?_eq_some_iff.1 hk).1;have hb:=zF0 (h.pg.prv k x q hk hq)
  have:=zBc 0 20 x hb.1.2 (fun y _=>Nat.le_refl _)
  omega)
 have hc:=zBc 8 5 m.Cores (by have:=h.nc;omega) (fun x hx=>by
  obtain⟨k,hk⟩:=List.getElem?_of_mem hx;have hkl:=(List.getElem?_eq_some_iff.1 hk).1;have hnc:=h.nc;obtain⟨q,hq⟩:=hq (k:=k) (by omega)
  have hpk:m.Programs[k]? = some m.Programs[k]:=List.getElem?_eq_getElem (by omega)
  have hb:=zF0 (h.pg.prv k _ q hpk hq);have hf:=h.fits k x _ q hk hpk hq;simp only[zAm,Bool.and_eq_true,beq_iff_eq] at hf
  have:=zBc 0 8 x.Cells (by omega) (fun y _=>Nat.le_refl _)
  show GT.tot x.Cells+GT.tot x.At+GT.tot x.Stopped<=_
  have h0:GT.tot x.At=0:=rfl;have h2:GT.tot x.Stopped=0:=rfl
  omega)
 have hh:=zBc 4 8 m.Holds (by have:=h.nh;omega) (fun x hx=>by
  obtain⟨k,hk⟩:=List.getElem?_of_mem hx;have hkl:=(List.getElem?_eq_some_iff.1 hk).1;have hnh:=h.nh;have hck:m.Plan.Channels[k]? = some m.Plan.Channels[k]:=List.getElem?_eq_getElem (by omega)
  have hv:=h.hv k x _ hk hck;have hz:=zC9 (zEo h.pg.set hck);simp only[zDt,Bool.and_eq_true,decide_eq_true_eq] at hv
  have:=zBc 0 4 x.Lst (by omega) (fun y _=>Nat.le_refl _)
  show GT.tot x.Lst<=_
  omega)
 show GT.tot m.Plan+GT.tot m.Programs+GT.tot m.Cores+GT.tot m.Holds+GT.tot m.Tick<=_
 have h0:GT.tot m.Tick=0:=rfl;omega
set_option maxHeartbeats 4000000
theorem Ov.mz(L:Nat)(w:World):Ov L w (.agg #[.slice none 0 0,.slice none 0 0,.slice none 0 0,.slice none 0 0,.slice none 0 0,.slice none 0 0,.int .i64 0]) M.mz:=⟨_,[],rfl,GT.zero (α:=Machine) w,Own.nil _ _⟩
end Sk
