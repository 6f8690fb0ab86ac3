/- Contracts of functions of the given program. -/
import Derived.Test.YtfdeoepbnefckaaGreatHold
namespace Sk
open Go Go.Proofs Go.RowKit
set_option maxHeartbeats 4000000
set_option maxRecDepth 100000
set_option linter.unusedVariables false
set_option linter.unusedSimpArgs false
def zAf(c:Int):Core:=if zA4 c 1 8 then ⟨List.replicate c.toNat 0,0,false⟩ else ⟨[],0,false⟩
theorem zFj{c:Int}(h:zA4 c 1 8=false):zAf c=⟨[],0,false⟩:=by simp[zAf,h]
theorem zDh{n:Nat}(h:zA4 (n:Int) 1 8=true):zAf (n:Int)=⟨List.replicate n 0,0,false⟩:=by simp[zAf,h]
theorem Ov.core0(L:Nat)(w:World):Ov L w (.agg #[.slice none 0 0,.int .i64 0,.bool false]) (⟨[],0,false⟩:Core):=⟨_,[],rfl,GT.zero (α:=Core) w,Own.nil _ _⟩
theorem Ov.core{L:Nat}{w:World}{v:Value}{x:Core}(h:Os L w v x.Cells)(hr:rng x.At):Ov L w (.agg #[v,.int .i64 x.At,.bool x.Stopped]) x:=by
 obtain⟨F,h1,h2⟩:=h;exact⟨_,F,rfl,⟨_,rfl,h1,hr⟩,h2⟩
theorem zEr(c:Int)(w:World) :
  Calls Tryz.prog 11 #[.int .i64 c] w fun e w' => ∃ v',e = .returned v'/\Ov w.heap.size w' v' (zAf c)/\Ext w w':=by
 cases g:zA4 c 1 8
 ·go_enter Tryz.func11,Tryz.ntmps11;go_wp2_with (go_at_call 31;refine(zAc _ _ _ _).mono ?_;rintro e w' ⟨rfl,rfl⟩;rw[g])
  refine bodyPost_ret (v:=.agg #[.slice none 0 0,.int .i64 0,.bool false]) (by simp[results,Tryz.results11,go_sem]) rfl ⟨_,rfl,by rw[zFj g];exact Ov.core0 _ _,?_⟩
  repeat (first|exact zr _|refine Ext.alloc ?_ _|refine Ext.set ?_ (by simp) _)
 ·obtain⟨h1,h2⟩:=zA7.1 g;obtain⟨n,rfl⟩:∃ n:Nat,c=n:=⟨c.toNat,by omega⟩
  have hmk:∀ u:World,(Instr.makeSlice 38 (.int .i64 n) (.int .i64 n)).run Tryz.prog u = .ok (.slice (some ⟨u.heap.size,0,none⟩) n n) (u.alloc (.cells (madeCells #[.int .i64 0] (n*1)) 3)):=zGp n (by omega)
  have HO:∀ u:World,Os u.heap.size (u.alloc (.cells (madeCells #[.int .i64 0] (n*1)) 3)) (.slice (some ⟨u.heap.size,0,none⟩) n n) (List.replicate n (0:Int)):=fun u=>Os.made (α:=Int) u n 3 #[.int .i64 0] 0 rfl rfl (by omega)
  go_enter Tryz.func11,Tryz.ntmps11;go_upto_region 3 with (go_at_call 31;refine(zAc _ _ _ _).mono ?_;rintro e w' ⟨rfl,rfl⟩;rw[g])
  refine zA2 (fun W=>Ext w W/\Bk W w.heap.size [.slice none 0 0,.int .i64 0,.bool false] 43) ⟨(zr _).alloc _,Bk.new _ _ _⟩ ?_
  rintro W ⟨e1,kA⟩;have HE:=zh e1;have hA:=kA.lt;obtain⟨z0,z1,z2⟩:=Bk.k3 kA;have zf:=kA.fz;have hsz:w.heap.size<=W.heap.size:=e1.sz;have HK:=zh kA;clear e1 kA;go_wp2;have hs:(((W.setCell ⟨w.heap.size,0,none⟩ (.slice (some ⟨W.heap.size,0,none⟩) n n)).setCell ⟨w.heap.size,1,none⟩ (.int .i64 0)).setCell ⟨w.heap.size,2,none⟩ (.bool false)).heap.size=W.heap.size:=by simp
  have HO1:=HO (((W.setCell ⟨w.heap.size,0,none⟩ (.slice (some ⟨W.heap.size,0,none⟩) n n)).setCell ⟨w.heap.size,1,none⟩ (.int .i64 0)).setCell ⟨w.heap.size,2,none⟩ (.bool false));rw[hs,Nat.mul_one] at HO1;have kz:=(((HK.out.set 0 (.slice (some ⟨W.heap.size,0,none⟩) n n)).set 1 (.int .i64 0)).set 2 (.bool false)).alc (.cells (madeCells #[.int .i64 0] n) 3);obtain⟨y0,y1,y2⟩:=Bk.k3 kz;refine bodyPost_ret (v:=.agg #[.slice (some ⟨W.heap.size,0,none⟩) n n,.int .i64 0,.bool false]) (by simp[results,Tryz.results11,go_sem,y0,y1,y2]) rfl ⟨_,rfl,by rw[zDh g];exact Ov.core (x:=⟨List.replicate n 0,0,false⟩) (HO1.mono hsz) ⟨by show(-9223372036854775808:Int)<=0;decide,by show(0:Int)<=9223372036854775807;decide⟩,(((HE.out.set (by simp) _).set (by simp) _).set (by simp) _).alloc _⟩
theorem zHg(c:Int)(w:World) :
  Calls Tryz.prog 27 #[.int .i64 c] w fun e w' => ∃ v',e = .returned v'/\Ov w.heap.size w' v' (zAf c)/\Ext w w':=by
 cases g:zA4 c 1 8
 ·go_enter Tryz.func27,Tryz.ntmps27;go_wp2_with (go_at_call 61;refine(zAb _ _ _ _).mono ?_;rintro e w' ⟨rfl,rfl⟩;rw[g])
  refine bodyPost_ret (v:=.agg #[.slice none 0 0,.int .i64 0,.bool false]) (by simp[results,Tryz.results27,go_sem]) rfl ⟨_,rfl,by rw[zFj g];exact Ov.core0 _ _,?_⟩
  repeat (first|exact zr _|refine Ext.alloc ?_ _|refine Ext.set ?_ (by simp) _)
 ·obtain⟨h1,h2⟩:=zA7.1 g;obtain⟨n,rfl⟩:∃ n:Nat,c=n:=⟨c.toNat,by omega⟩
  have hmk:∀ u:World,(Instr.makeSlice 38 (.int .i64 n) (.int .i64 n)).run Tryz.prog u = .ok (.slice (some ⟨u.heap.size,0,none⟩) n n) (u.alloc (.cells (madeCells #[.int .i64 0] (n*1)) 3)):=zGp n (by omega)
  have HO:∀ u:World,Os u.heap.size (u.alloc (.cells (madeCells #[.int .i64 0] (n*1)) 3)) (.slice (some ⟨u.heap.size,0,none⟩) n n) (List.replicate n (0:Int)):=fun u=>Os.made (α:=Int) u n 3 #[.int .i64 0] 0 rfl rfl (by omega)
  go_enter Tryz.func27,Tryz.ntmps27;go_upto_region 3 with (go_at_call 61;refine(zAb _ _ _ _).mono ?_;rintro e w' ⟨rfl,rfl⟩;rw[g])
  refine zA2 (fun W=>Ext w W/\Bk W w.heap.size [.slice none 0 0,.int .i64 0,.bool false] 43) ⟨(zr _).alloc _,Bk.new _ _ _⟩ ?_
  rintro W ⟨e1,kA⟩;have HE:=zh e1;have hA:=kA.lt;obtain⟨z0,z1,z2⟩:=Bk.k3 kA;have zf:=kA.fz;have hsz:w.heap.size<=W.heap.size:=e1.sz;have HK:=zh kA;clear e1 kA;go_wp2;have hs:(((W.setCell ⟨w.heap.size,0,none⟩ (.slice (some ⟨W.heap.size,0,none⟩) n n)).setCell ⟨w.heap.size,1,none⟩ (.int .i64 0)).setCell ⟨w.heap.size,2,none⟩ (.bool false)).heap.size=W.heap.size:=by simp
  have HO1:=HO (((W.setCell ⟨w.heap.size,0,none⟩ (.slice (some ⟨W.heap.size,0,none⟩) n n)).setCell ⟨w.heap.size,1,none⟩ (.int .i64 0)).setCell ⟨w.heap.size,2,none⟩ (.bool false));rw[hs,Nat.mul_one] at HO1;have kz:=(((HK.out.set 0 (.slice (some ⟨W.heap.size,0,none⟩) n n)).set 1 (.int .i64 0)).set 2 (.bool false)).alc (.cells (madeCells #[.int .i64 0] n) 3);obtain⟨y0,y1,y2⟩:=Bk.k3 kz;refine bodyPost_ret (v:=.agg #[.slice (some ⟨W.heap.size,0,none⟩) n n,.int .i64 0,.bool false]) (by simp[results,Tryz.results27,go_sem,y0,y1,y2]) rfl ⟨_,rfl,by rw[zDh g];exact Ov.core (x:=⟨List.replicate n 0,0,false⟩) (HO1.mono hsz) ⟨by show(-9223372036854775808:Int)<=0;decide,by show(0:Int)<=9223372036854775807;decide⟩,(((HE.out.set (by simp) _).set (by simp) _).set (by simp) _).alloc _⟩
set_option maxHeartbeats 1000000
def zAl(s:Setup)(ps:List (List Order)):Machine:=⟨s,ps,s.Parts.map (fun p=>zAf p.Cells),List.replicate s.Channels.length ⟨[]⟩,0⟩
def M.mz:Machine:=⟨⟨[],[],[]⟩,[],[],[],0⟩
noncomputable def zBp(s:Setup)(ps:List (List Order)):Machine:=if zGz s ps then zAl s ps else M.mz
theorem zCa{s:Setup}{ps:List (List Order)}(h:zGz s ps=true):zBp s ps=zAl s ps:=if_pos h
theorem zBd{s:Setup}{ps:List (List Order)}(h:zGz s ps=false):zBp s ps=M.mz:=if_neg (by rw[h];decide)
theorem zEp{s:Setup}(h:zAx s=true){k:Nat}{c:Channel}(hk:s.Channels[k]? = some c):zB6 c.Kind c.Size=true:=by
 simp only[zAx,zCt,Bool.and_eq_true,List.all_eq_true] at h
 have:=h.2.1.2.2 c (List.mem_of_getElem? hk)
 simp only[zGy,Bool.and_eq_true] at this;exact this.1
theorem zBt{k s:Int}(h:zB6 k s=true):1<=s/\s<=4:=by
 rcases zDj.1 h with ⟨_,rfl⟩ | ⟨_,h1,h2⟩
 ·exact⟨by decide,by decide⟩
 ·exact⟨h1,h2⟩
theorem zFd{p:List Order}{c:Int}(h:zBg p c=true):(1<=p.length/\p.length<=20)/\1<=c/\c<=8:=by
 simp only[zBg,Bool.and_eq_true,zA7] at h;exact⟨⟨by omega,by omega⟩,h.2.1⟩
theorem zFc{s:Setup}{ps:List (List Order)}(h:M.PG s ps):zDx (zAl s ps):=by
 refine⟨h,by simp[zAl],by simp[zAl],?_,?_,⟨by show(0:Int)<=0;decide,by show(0:Int)<=100000;decide⟩⟩
 ·intro k c p q hc hp hq;have hb:=zFd (h.prv k p q hp hq);simp only[zAl,List.getElem?_map] at hc hq;rw[hq] at hc;obtain rfl:=Option.some.inj hc;obtain⟨n,hn⟩:∃ n:Nat,q.Cells=n:=⟨q.Cells.toNat,by omega⟩
  show zAr (zAf q.Cells) p.length q.Cells=true
  rw[hn] at hb ⊢;rw[zDh (zA7.2 hb.2)];simp only[zAr,zCr,Bool.and_eq_true,zA7,List.all_eq_true,List.length_replicate,beq_self_eq_true];refine⟨trivial,⟨by omega,by omega⟩,fun x hx=>?_⟩
  obtain rfl:=List.eq_of_mem_replicate hx;exact⟨by decide,by decide⟩
 ·intro k x c hx hc;simp only[zAl] at hx hc;obtain rfl:=List.eq_of_mem_replicate (List.mem_of_getElem? hx);have hz:=zEp h.set hc;have hp:=zBt hz;simp only[zDy,hz,zCr,List.all_nil,Bool.and_true,Bool.true_and,List.length_nil,decide_eq_true_eq];omega
theorem zI7{s:Setup}{ps:List (List Order)}:zGa (zAl s ps)=zGz s ps:=by
 cases h:zGz s ps
 ·exact Bo.f fun hm=>by
   have:=Bo.t hm.pg
   have e:zGz s ps=true:=this;rw[h] at e;cases e
 ·exact Bo.t (zFc (zC4.1 h))
theorem zGm{m:Machine}(h:zDx m):GT.tot m<=100000:=by
 have h1:=zIm h.pg.set;have h5:=zAv h.pg.set;have h8:=zB5 h.pg.set;have hnp:=h.pg.np;have hq:∀ {k:Nat},k < m.Programs.length->∃ q,m.Plan.Parts[k]? = some q:=fun {k} hk=>⟨_,List.getElem?_eq_getElem (by omega)⟩
 have hp:=zBo 20 5 m.Programs (by omega) (fun x hx=>by
  obtain⟨k,hk⟩:=List.getElem?_of_mem hx;obtain⟨q,hq⟩:=hq (List.getElem?_eq_some_iff.1 hk).1;have hb:=zFd (h.pg.prv k x q hk hq)
  have:=zBo 0 20 x hb.1.2 (fun y _=>Nat.le_refl _)
  omega)
 have hc:=zBo 8 5 m.Cores (by have:=h.nc;omega) (fun x hx=>by
  obtain⟨k,hk⟩:=List.getElem?_of_mem hx;have hkl:=(List.getElem?_eq_some_iff.1 hk).1;have hnc:=h.nc;obtain⟨q,hq⟩:=hq (k:=k) (by omega)
  have hpk:m.Programs[k]? = some m.Programs[k]:=List.getElem?_eq_getElem (by omega)
  have hb:=zFd (h.pg.prv k _ q hpk hq);have hf:=h.fits k x _ q hk hpk hq;simp only[zAr,Bool.and_eq_true,beq_iff_eq] at hf
  have:=zBo 0 8 x.Cells (by omega) (fun y _=>Nat.le_refl _)
  show GT.tot x.Cells+GT.tot x.At+GT.tot x.Stopped<=_
  have h0:GT.tot x.At=0:=rfl;have h2:GT.tot x.Stopped=0:=rfl
  omega)
 have hh:=zBo 4 8 m.Holds (by have:=h.nh;omega) (fun x hx=>by
  obtain⟨k,hk⟩:=List.getElem?_of_mem hx;have hkl:=(List.getElem?_eq_some_iff.1 hk).1;have hnh:=h.nh;have hck:m.Plan.Channels[k]? = some m.Plan.Channels[k]:=List.getElem?_eq_getElem (by omega)
  have hv:=h.hv k x _ hk hck;have hz:=zBt (zEp h.pg.set hck);simp only[zDy,Bool.and_eq_true,decide_eq_true_eq] at hv
  have:=zBo 0 4 x.Lst (by omega) (fun y _=>Nat.le_refl _)
  show GT.tot x.Lst<=_
  omega)
 show GT.tot m.Plan+GT.tot m.Programs+GT.tot m.Cores+GT.tot m.Holds+GT.tot m.Tick<=_
 have h0:GT.tot m.Tick=0:=rfl;omega
end Sk
