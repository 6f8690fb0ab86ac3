/- Contracts of functions of the given program. -/
import Derived.Test.YtpjdkfkfmebphaaGreatZzlTkM
namespace Sk
open Go Go.Proofs Go.RowKit
set_option maxHeartbeats 8000000
set_option maxRecDepth 100000
set_option linter.unusedVariables false
set_option linter.unusedSimpArgs false
theorem Bk.j2{w:World}{b:Nat}{c0 c1:Value}{l:List Value}{T:TypeId}(h:Bk w b (c0::c1::l) T):w.cell? ⟨b,0,none⟩=some c0/\w.cell? ⟨b,1,none⟩=some c1/\b < w.heap.size:=⟨h.cell (j:=0) rfl,h.cell (j:=1) rfl,h.lt⟩
theorem law_sameBoard(v1 v2:Value)(x:Board)(w:World)(h1:Rv w v1 x)(h2:Rv w v2 x) :
  Calls Tryz.prog 17 #[v1,v2] w fun e w'=>e = .returned (.bool true)/\Ext w w':=by
 obtain⟨a0,c0,a1,c1,rfl,s0,l0,s1,l1⟩:=h1.openBoard;obtain⟨b0,d0,b1,d1,rfl,tb0,m0,tb1,m1⟩:=h2.openBoard;clear h1 h2;go_enter Tryz.func17,Tryz.ntmps17;go_upto_region 1 with (fail)
 refine zA1 (fun W=>Ext w W/\Bk W w.heap.size [.slice a0 x.Boxes.length c0,.slice a1 x.Wires.length c1] 51/\Bk W (w.heap.size+1) [.slice b0 x.Boxes.length d0,.slice b1 x.Wires.length d1] 51) ⟨((zr _).alloc _).alloc _,(Bk.new _ _ _).ext ((zr _).alloc _),Bk.new1 _ _ _ _⟩ ?_
 rintro W ⟨e1,kA,kB⟩;have HE:=zh e1;have KA:=zh kA;have KB:=zh kB;replace s0:=zh (s0.out.ext e1);replace s1:=zh (s1.out.ext e1);replace tb0:=zh (tb0.out.ext e1);replace tb1:=zh (tb1.out.ext e1);clear e1 kA kB;have E:=zh (zr W);have hn0:((x.Boxes.length:Int) != (x.Boxes.length:Int))=false:=by simp
 have hn1:((x.Wires.length:Int) != (x.Wires.length:Int))=false:=by simp
 obtain⟨la0,la1,laL⟩:=Bk.j2 (KA.out.ext E.out);obtain⟨lb0,lb1,lbL⟩:=Bk.j2 (KB.out.ext E.out);go_wp2;go_loopw [5] (fun i wr => ∃ k:Nat,k<=x.Boxes.length/\i = .int .i64 k/\Ext W wr) (fun i _=>x.Boxes.length - (intOf i).toNat)
 case atStart=>exact⟨0,Nat.zero_le _,rfl,E.out⟩
 case round =>
  obtain⟨k,hk,rfl,er⟩:=hrel;replace E:=zh er;clear er la0 la1 lb0 lb1 laL lbL;have f0:=(KA.out.ext E.out).cell (j:=0) rfl;have fL:=(KA.out.ext E.out).lt;have g0:=(KB.out.ext E.out).cell (j:=0) rfl;have gL:=(KB.out.ext E.out).lt;by_cases hkt:k < x.Boxes.length
  ·obtain⟨g,s,m,p0,q0,p1,q1,p2,q2,p3,q3,p4,q4,p5,q5,rfl,hb,hx,hp0,hp1,hp2,hp3,hp4,hp5,hp6,-,-,-,-,-,-,-,-,-,-,-,-,-,hv⟩:=s0.out.atMachine k hkt;obtain⟨g2,s2,m2,r0,t0,r1,t1,r2,t2,r3,t3,r4,t4,r5,t5,rfl,hb2,hx2,hq0,hq1,hq2,hq3,hq4,hq5,hq6,-,-,-,-,-,-,-,-,-,-,-,-,-,hv2⟩:=tb0.out.atMachine k hkt;obtain rfl:m2=m:=Option.some.inj (hx2.out.symm.trans hx.out);clear hx hx2;have j0:=(zA0 E.out hb).trans hp0;have j1:=(zA0 E.out hb).trans hp1;have j2:=(zA0 E.out hb).trans hp2;have j3:=(zA0 E.out hb).trans hp3;have j4:=(zA0 E.out hb).trans hp4;have j5:=(zA0 E.out hb).trans hp5;have j6:=(zA0 E.out hb).trans hp6;have n0:=(zA0 E.out hb2).trans hq0;have n1:=(zA0 E.out hb2).trans hq1;have n2:=(zA0 E.out hb2).trans hq2;have n3:=(zA0 E.out hb2).trans hq3;have n4:=(zA0 E.out hb2).trans hq4;have n5:=(zA0 E.out hb2).trans hq5;have n6:=(zA0 E.out hb2).trans hq6;go_wp2
   go_region_held3 (fun u=>u.cell? ⟨w.heap.size,0,none⟩=some (.slice (some ⟨g,s,none⟩) x.Boxes.length c0)/\u.cell? ⟨w.heap.size+1,0,none⟩=some (.slice (some ⟨g2,s2,none⟩) x.Boxes.length d0)/\u.cell? ⟨g,s+k*7,none⟩=some (.slice p0 m2.Plan.Parts.length q0)/\u.cell? ⟨g,s+k*7+1,none⟩=some (.slice p1 m2.Plan.Channels.length q1)/\u.cell? ⟨g,s+k*7+2,none⟩=some (.slice p2 m2.Plan.Slots.length q2)/\u.cell? ⟨g,s+k*7+3,none⟩=some (.slice p3 m2.Programs.length q3)/\u.cell? ⟨g,s+k*7+4,none⟩=some (.slice p4 m2.Cores.length q4)/\u.cell? ⟨g,s+k*7+5,none⟩=some (.slice p5 m2.Holds.length q5)/\u.cell? ⟨g,s+k*7+6,none⟩=some (.int .i64 m2.Tick)/\u.cell? ⟨g2,s2+k*7,none⟩=some (.slice r0 m2.Plan.Parts.length t0)/\u.cell? ⟨g2,s2+k*7+1,none⟩=some (.slice r1 m2.Plan.Channels.length t1)/\u.cell? ⟨g2,s2+k*7+2,none⟩=some (.slice r2 m2.Plan.Slots.length t2)/\u.cell? ⟨g2,s2+k*7+3,none⟩=some (.slice r3 m2.Programs.length t3)/\u.cell? ⟨g2,s2+k*7+4,none⟩=some (.slice r4 m2.Cores.length t4)/\u.cell? ⟨g2,s2+k*7+5,none⟩=some (.slice r5 m2.Holds.length t5)/\u.cell? ⟨g2,s2+k*7+6,none⟩=some (.int .i64 m2.Tick))
    (go_keep)
    ((go_at_call 7;refine(law_sameMachine _ _ m2 _ (hv.out.ext (E.out.tr (zr _).drew)) (hv2.out.ext (E.out.tr (zr _).drew))).mono ?_;rintro e w9 ⟨rfl,he⟩;replace E:=zh ((E.out.tr (zr wr).drew).tr he);have v0:=(KA.out.ext E.out).cell (j:=0) rfl;have vL:=(KA.out.ext E.out).lt;have z0:=(KB.out.ext E.out).cell (j:=0) rfl;have zL:=(KB.out.ext E.out).lt;have y0:=(zA0 E.out hb).trans hp0;have y1:=(zA0 E.out hb).trans hp1;have y2:=(zA0 E.out hb).trans hp2;have y3:=(zA0 E.out hb).trans hp3;have y4:=(zA0 E.out hb).trans hp4;have y5:=(zA0 E.out hb).trans hp5;have y6:=(zA0 E.out hb).trans hp6;have i0:=(zA0 E.out hb2).trans hq0;have i1:=(zA0 E.out hb2).trans hq1;have i2:=(zA0 E.out hb2).trans hq2;have i3:=(zA0 E.out hb2).trans hq3;have i4:=(zA0 E.out hb2).trans hq4;have i5:=(zA0 E.out hb2).trans hq5;have i6:=(zA0 E.out hb2).trans hq6;clear he))
   go_wp2;exact⟨⟨k+1,by omega,by go_num,E.out⟩,by simp[intOf];omega⟩
  obtain rfl:k=x.Boxes.length:=by omega
  have f1:=(KA.out.ext E.out).cell (j:=1) rfl;obtain⟨wo,rfl⟩:∃ wo,wo=wr:=⟨_,rfl⟩;go_wp2;clear f0 fL g0 gL f1;go_loopw [6] (fun i wr => ∃ k:Nat,k<=x.Wires.length/\i = .int .i64 k/\Ext W wr) (fun i _=>x.Wires.length - (intOf i).toNat)
  case atStart=>exact⟨0,Nat.zero_le _,rfl,E.out⟩
  case round =>
   obtain⟨k,hk,rfl,er⟩:=hrel;replace E:=zh er;clear er;have f1:=(KA.out.ext E.out).cell (j:=1) rfl;have fL:=(KA.out.ext E.out).lt;have g1:=(KB.out.ext E.out).cell (j:=1) rfl;have gL:=(KB.out.ext E.out).lt;by_cases hkt:k < x.Wires.length
   ·obtain⟨g,s,m,rfl,hb,hx,hp0,hp1,hp2,hp3,hp4,hp5,-,-,-,-,-,-,-⟩:=(s1.out.ext E.out).atWire k hkt;obtain⟨g2,s2,m2,rfl,hb2,hx2,hq0,hq1,hq2,hq3,hq4,hq5,-,-,-,-,-,-,-⟩:=(tb1.out.ext E.out).atWire k hkt;obtain rfl:m2=m:=Option.some.inj (hx2.out.symm.trans hx.out);clear hx hx2;have q0:(m2.From == m2.From)=true:=by simp
    have q1:(m2.FromPart == m2.FromPart)=true:=by simp
    have q2:(m2.FromCell == m2.FromCell)=true:=by simp
    have q3:(m2.To == m2.To)=true:=by simp
    have q4:(m2.ToPart == m2.ToPart)=true:=by simp
    have q5:(m2.ToCell == m2.ToCell)=true:=by simp
    go_wp2;go_quiet (fail)
    go_wp2;go_roundw
    case rel=>exact⟨k+1,by omega,by go_num,E.out.drewN _⟩
    case measure=>simp[intOf];omega
   go_wp2;go_ret;exact⟨rfl,HE.out.tr E.out⟩
set_option maxHeartbeats 1000000
def M.swW(n:Int):List Wire:=[⟨0,n,0,0,n,1⟩,⟨0,n,1,0,n,0⟩]
theorem M.cw_swap{x:Machine}{N:Nat}{c:Core}{z0 z1:Int}{r:List Int}(hc:x.Cores[N]? = some c)(hz:c.Cells=z0::z1::r):M.cw ⟨[x],M.swW N⟩=⟨[{ x with Cores:=x.Cores.set N { c with Cells:=z1::z0::r } }],M.swW N⟩:=by
 have hl:N < x.Cores.length:=(List.getElem?_eq_some_iff.1 hc).1;have hg:x.Cores.getD N zOr=c:=by rw[List.getD_eq_getElem?_getD,hc];rfl
 have hs:∀ d:Core,(x.Cores.set N d).getD N zOr=d:=fun d=>by rw[List.getD_eq_getElem?_getD,List.getElem?_set_self hl];rfl
 have e0:zFg ⟨[x],M.swW N⟩ ⟨0,N,0,0,N,1⟩=z0:=by
  unfold zFg;simp only[Int.toNat_natCast]
  show((x.Cores.getD N zOr).Cells.getD 0 0)=z0
  rw[hg,hz];rfl
 have e1:zFg ⟨[x],M.swW N⟩ ⟨0,N,1,0,N,0⟩=z1:=by
  unfold zFg;simp only[Int.toNat_natCast]
  show((x.Cores.getD N zOr).Cells.getD 1 0)=z1
  rw[hg,hz];rfl
 have h1:zMu ⟨[x],M.swW N⟩ [x] ⟨0,N,0,0,N,1⟩ = [{ x with Cores:=x.Cores.set N { c with Cells:=z0::z0::r } }]:=by
  unfold zMu;rw[e0]
  show [x].set 0 (zNl x (N:Int).toNat 1 z0)=_
  rw[Int.toNat_natCast];unfold zNl;rw[hg,hz]
  rfl
 have h2:zMu ⟨[x],M.swW N⟩ [{ x with Cores:=x.Cores.set N { c with Cells:=z0::z0::r } }] ⟨0,N,1,0,N,0⟩ = [{ x with Cores:=x.Cores.set N { c with Cells:=z1::z0::r } }]:=by
  unfold zMu;rw[e1]
  show [({ x with Cores:=x.Cores.set N { c with Cells:=z0::z0::r } }:Machine)].set 0 (zNl ({ x with Cores:=x.Cores.set N { c with Cells:=z0::z0::r } }:Machine) (N:Int).toNat 0 z1)=_
  rw[Int.toNat_natCast];unfold zNl;simp only[hs,List.set_set]
  rfl
 unfold M.cw zFx
 show(⟨List.foldl (zMu _) [x] (M.swW N),M.swW N⟩:Board)=_
 show(⟨zMu _ (zMu _ [x] ⟨0,N,0,0,N,1⟩) ⟨0,N,1,0,N,0⟩,M.swW N⟩:Board)=_
 rw[h1,h2]
theorem M.swap_BV{x:Machine}{N:Nat}{c:Core}(hv:zG0 x=true)(hc:x.Cores[N]? = some c)(h2:2<=c.Cells.length):zMs ⟨[x],M.swW N⟩:=by
 have hl:N < x.Cores.length:=(List.getElem?_eq_some_iff.1 hc).1;have hh:∀ z:Int,0<=z->z<=1->zMq ⟨[x],M.swW N⟩ 0 N z=true:=fun z h0 h1=>zGv.2 ⟨0,N,z.toNat,x,c,rfl,rfl,by omega,rfl,hc,by omega⟩
 refine⟨by simp,by simp[M.swW],fun m hm=>by simp at hm;rw[hm];exact hv,fun k w hw=>?_⟩
 match k,hw with
 | 0,hw =>
  obtain rfl:(⟨0,N,0,0,N,1⟩:Wire)=w:=by simpa [M.swW] using hw
  exact⟨hh 0 (by omega) (by omega),hh 1 (by omega) (by omega),rfl⟩
 | 1,hw =>
  obtain rfl:(⟨0,N,1,0,N,0⟩:Wire)=w:=by simpa [M.swW] using hw
  exact⟨hh 1 (by omega) (by omega),hh 0 (by omega) (by omega),by simp[M.swW,zFa]⟩
 | k+2,hw=>simp[M.swW] at hw
theorem M.swap_all{x:Machine}{N:Nat}{c:Core}(hv:zG0 x=true)(hc:x.Cores[N]? = some c)(h2:2<=c.Cells.length):∃ (x2:Machine) (c2:Core),zGf ⟨[x],M.swW N⟩=⟨[x2],M.swW N⟩/\zGf ⟨[x2],M.swW N⟩=⟨[x],M.swW N⟩/\x2.Cores.length=x.Cores.length/\x2.Cores[N]? = some c2/\c2.Cells.length=c.Cells.length/\c2.Cells[0]? = c.Cells[1]? /\ c2.Cells[1]? = c.Cells[0]?:=by
 have hl:N < x.Cores.length:=(List.getElem?_eq_some_iff.1 hc).1;obtain⟨z0,z1,r,hz⟩:∃ z0 z1 r,c.Cells=z0::z1::r:=by
  match h:c.Cells with
  | []=>rw[h] at h2;simp at h2
  | [a]=>rw[h] at h2;simp at h2
  | a::b::r=>exact⟨a,b,r,rfl⟩
 have hb:=M.swap_BV hv hc h2;have e:=M.cw_swap hc hz;have hb2:=M.cw_BV hb;rw[e] at hb2;have hc2:(x.Cores.set N { c with Cells:=z1::z0::r })[N]? = some { c with Cells:=z1::z0::r }:=List.getElem?_set_self hl
 have e2:=M.cw_swap (x:={ x with Cores:=x.Cores.set N { c with Cells:=z1::z0::r } }) hc2 rfl
 refine⟨_,_,(zL9 (M.bv_iff.2 hb)).trans e,(zL9 (M.bv_iff.2 hb2)).trans (e2.trans ?_),by simp,hc2,by rw[hz];rfl,by rw[hz];rfl,by rw[hz];rfl⟩
 have e3:((x.Cores.set N { c with Cells:=z1::z0::r }).set N { ({ c with Cells:=z1::z0::r }:Core) with Cells:=z0::z1::r })=x.Cores:=by
  rw[List.set_set];have hcc:({ ({ c with Cells:=z1::z0::r }:Core) with Cells:=z0::z1::r }:Core)=c:=by rw[<- hz]
  rw[hcc];refine List.ext_getElem? fun k=>?_
  by_cases hk:N=k
  ·rw[<- hk,List.getElem?_set_self hl,hc]
  ·rw[List.getElem?_set_ne hk]
 show(⟨[{ x with Cores:=(x.Cores.set N { c with Cells:=z1::z0::r }).set N { ({ c with Cells:=z1::z0::r }:Core) with Cells:=z0::z1::r } }],M.swW N⟩:Board)=_
 rw[e3]
theorem Rs.one{α:Type}[GT α]{w:World}{cs:List Value}{T:TypeId}{x : α}(h:Rv w (.agg cs.toArray) x):Rs (w.alloc (.cells cs.toArray T (0,0))) (.slice (some ⟨w.heap.size,0,none⟩) 1 1) [x]:=by
 obtain⟨cs',F,e,hen⟩:=h;have e2:=congrArg (fun v=>match v with | .agg a=>a.toList|_ => []) e
 simp only at e2;obtain rfl:cs=cs':=e2;have hbk:=Bk.new w cs T;refine⟨_,_,1,rfl,Nat.le_refl _,by unfold maxLen;omega,.inr ⟨by simp,w.heap.size,0,F,rfl,rfl,?_⟩⟩
 exact⟨cs,F,[],GT.ext hen ((zr w).alloc _),fun j v hj=>by rw[Nat.zero_add];exact hbk.cell hj,by simp,rfl⟩
theorem Rs.swW{w:World}{T:TypeId}{n:Int}(hn:rng n):Rs (w.alloc (.cells #[.int .i64 0,.int .i64 n,.int .i64 0,.int .i64 0,.int .i64 n,.int .i64 1,.int .i64 0,.int .i64 n,.int .i64 1,.int .i64 0,.int .i64 n,.int .i64 0] T (0,0))) (.slice (some ⟨w.heap.size,0,none⟩) 2 2) (M.swW n):=by
 have hbk:=Bk.new w [.int .i64 0,.int .i64 n,.int .i64 0,.int .i64 0,.int .i64 n,.int .i64 1,.int .i64 0,.int .i64 n,.int .i64 1,.int .i64 0,.int .i64 n,.int .i64 0] T;have r0:rng 0:=⟨by decide,by decide⟩
 have r1:rng 1:=⟨by decide,by decide⟩
 refine⟨[w.heap.size],_,2,rfl,Nat.le_refl _,by unfold maxLen;omega,.inr ⟨by simp[M.swW],w.heap.size,0,[],rfl,rfl,?_⟩⟩
 refine⟨[.int .i64 0,.int .i64 n,.int .i64 0,.int .i64 0,.int .i64 n,.int .i64 1],[],[],⟨rfl,r0,hn,r0,r0,hn,r1,rfl⟩,fun j v hj=>?_,rfl,⟨[.int .i64 0,.int .i64 n,.int .i64 1,.int .i64 0,.int .i64 n,.int .i64 0],[],[],⟨rfl,r0,hn,r1,r0,hn,r0,rfl⟩,fun j v hj=>?_,rfl,rfl⟩⟩
 ·match j,hj with
  | 0,hj=>exact hbk.cell (j:=0) hj
  | 1,hj=>exact hbk.cell (j:=1) hj
  | 2,hj=>exact hbk.cell (j:=2) hj
  | 3,hj=>exact hbk.cell (j:=3) hj
  | 4,hj=>exact hbk.cell (j:=4) hj
  | 5,hj=>exact hbk.cell (j:=5) hj
 ·match j,hj with
  | 0,hj=>exact hbk.cell (j:=6) hj
  | 1,hj=>exact hbk.cell (j:=7) hj
  | 2,hj=>exact hbk.cell (j:=8) hj
  | 3,hj=>exact hbk.cell (j:=9) hj
  | 4,hj=>exact hbk.cell (j:=10) hj
  | 5,hj=>exact hbk.cell (j:=11) hj
theorem Rs.swW9{w:World}{B:Nat}{T:TypeId}{n:Int}(hB:B=w.heap.size)(hn:rng n):Rs (w.alloc (.cells #[.int .i64 0,.int .i64 n,.int .i64 0,.int .i64 0,.int .i64 n,.int .i64 1,.int .i64 0,.int .i64 n,.int .i64 1,.int .i64 0,.int .i64 n,.int .i64 0] T (0,0))) (.slice (some ⟨B,0,none⟩) 2 2) (M.swW n):=by subst hB;exact Rs.swW hn
set_option maxHeartbeats 8000000
theorem lawBoardSwap(v:Value)(xs:List By)(w:World)(h:Rs w v xs) :
  Calls Tryz.prog 4 #[v] w fun e w'=>e = .returned (.bool true)/\Ext w w':=by
 obtain⟨a,c,rfl,hl⟩:=h.form;have H:=zh h;clear h;by_cases hx:xs.length<=1048576
 case neg =>
  have hx2:1048576 < xs.length:=by omega
  clear hx;go_enter Tryz.func4,Tryz.ntmps4;go_wp2;go_ret;exact⟨rfl,zr w⟩
 go_enter Tryz.func4,Tryz.ntmps4;go_upto_region 4 with (go_at_call 14;refine(zPw _ _ _ H.out).mono ?_;rintro e w1 ⟨v1,x,n,rfl,hv,htt,hn,he⟩;obtain⟨p0,q0,p1,q1,p2,q2,p3,q3,p4,q4,p5,q5,rfl,-⟩:=hv.openMc;have HV:=zh hv.rv;have HTT:=zh htt;have HE:=zh he;clear hv htt he)
 obtain⟨A,hA⟩:∃ A,A=w1.heap.size:=⟨_,rfl⟩;refine zA1 (fun u=>Ext w1 u/\Bk u A [.slice p0 x.Plan.Parts.length q0,.slice p1 x.Plan.Channels.length q1,.slice p2 x.Plan.Slots.length q2,.slice p3 x.Programs.length q3,.slice p4 x.Cores.length q4,.slice p5 x.Holds.length q5,.int .i64 x.Tick] 32) ⟨(zr _).alloc _,by rw[hA];exact Bk.new _ _ _⟩ ?_
 rw[<- hA];rintro W1 ⟨e1,kA⟩;clear hA H;replace HV:=zh (HV.out.ext e1);replace HE:=zh (HE.out.tr e1);have KA:=zh kA;clear e1 kA;have E:=zh (zr W1);obtain⟨_,_,_,_,_,_,_,_,_,_,_,_,ee,r6,s0,-,s1,-,s2,-,s3,-,s4,-,s5,-⟩:=HV.out.openMachine;have e9:=congrArg (fun v=>match v with | .agg a=>a.toList|_ => []) ee
 simp only[List.cons.injEq,Value.slice.injEq,and_true,true_and] at e9;obtain⟨⟨rfl,rfl⟩,⟨rfl,rfl⟩,⟨rfl,rfl⟩,⟨rfl,rfl⟩,⟨rfl,rfl⟩,⟨rfl,rfl⟩⟩:=e9;clear ee;have hxc:x.Cores.length<=200000:=by
  have h1:=zD4 x;have h2:=zB7 (xs:=x.Cores)
  have:=HTT.out
  omega
 have hxh:x.Holds.length<=200000:=by
  have h1:=zD4 x;have h2:=zB7 (xs:=x.Holds)
  have:=HTT.out
  omega
 obtain⟨hn1,hn2⟩:=hn;obtain⟨mv,hmv⟩:∃ mv,zG0 x=mv:=⟨_,rfl⟩;have hne:(mv != mv)=false:=by simp
 obtain⟨fa0,fa1,fa2,fa3,fa4,fa5,fa6,faL⟩:=Bk.j7 (KA.out.ext E.out)
 go_region_held3 (fun u=>u.cell? ⟨A,0,none⟩=some (.slice p0 x.Plan.Parts.length q0)/\u.cell? ⟨A,1,none⟩=some (.slice p1 x.Plan.Channels.length q1)/\u.cell? ⟨A,2,none⟩=some (.slice p2 x.Plan.Slots.length q2)/\u.cell? ⟨A,3,none⟩=some (.slice p3 x.Programs.length q3)/\u.cell? ⟨A,4,none⟩=some (.slice p4 x.Cores.length q4)/\u.cell? ⟨A,5,none⟩=some (.slice p5 x.Holds.length q5)/\u.cell? ⟨A,6,none⟩=some (.int .i64 x.Tick))
  (go_keep)
  (first
   | (go_at_call 10;refine(zAz _ x _ (HV.out.ext E.out.drew)).mono ?_;rintro e wa ⟨rfl,he⟩;replace E:=zh (E.out.drew.tr he);rw[hmv];obtain⟨r0a0,r0a1,r0a2,r0a3,r0a4,r0a5,r0a6,r0aL⟩:=Bk.j7 (KA.out.ext E.out);clear he)
   | (go_at_call 15;refine(zAi _ x _ (HV.out.ext E.out)).mono ?_;rintro e wb ⟨rfl,he⟩;replace E:=zh (E.out.tr he);rw[hmv];obtain⟨r1a0,r1a1,r1a2,r1a3,r1a4,r1a5,r1a6,r1aL⟩:=Bk.j7 (KA.out.ext E.out);clear he;clear r0a0 r0a1 r0a2 r0a3 r0a4 r0a5 r0a6 r0aL))
 clear fa0 fa1 fa2 fa3 fa4 fa5 fa6 faL;obtain⟨ga0,ga1,ga2,ga3,ga4,ga5,ga6,gaL⟩:=Bk.j7 (KA.out.ext E.out);go_upto_region 6 with (fail)
 cases mv
 ·go_wp2_with (first
   | (go_at_call 15;refine(zAi _ x _ (HV.out.ext E.out)).mono ?_;rintro e wz ⟨rfl,he⟩;rw[hmv];replace E:=zh (E.out.tr he);clear he;obtain⟨ua0,ua1,ua2,ua3,ua4,ua5,ua6,uaL⟩:=Bk.j7 (KA.out.ext E.out))
   | (go_at_call 9;refine(law_alive _).mono ?_;rintro e w9 ⟨rfl,he⟩;replace E:=zh (E.out.tr he);clear he))
  go_ret;exact⟨rfl,HE.out.tr E.out⟩
 by_cases h0:0<=n
 case neg =>
  have hd0:decide (n < 0)=true:=decide_eq_true (by omega)
  go_wp2_with (first
   | (go_at_call 15;refine(zAi _ x _ (HV.out.ext E.out)).mono ?_;rintro e wz ⟨rfl,he⟩;rw[hmv];replace E:=zh (E.out.tr he);clear he;obtain⟨ua0,ua1,ua2,ua3,ua4,ua5,ua6,uaL⟩:=Bk.j7 (KA.out.ext E.out))
   | (go_at_call 9;refine(law_alive _).mono ?_;rintro e w9 ⟨rfl,he⟩;replace E:=zh (E.out.tr he);clear he))
  go_ret;exact⟨rfl,HE.out.tr E.out⟩
 have hd0:decide (n < 0)=false:=decide_eq_false (by omega)
 by_cases h1:n < x.Cores.length
 case neg =>
  have hd1:decide (n ≥ (x.Cores.length:Int))=true:=decide_eq_true (by omega)
  go_wp2_with (first
   | (go_at_call 15;refine(zAi _ x _ (HV.out.ext E.out)).mono ?_;rintro e wz ⟨rfl,he⟩;rw[hmv];replace E:=zh (E.out.tr he);clear he;obtain⟨ua0,ua1,ua2,ua3,ua4,ua5,ua6,uaL⟩:=Bk.j7 (KA.out.ext E.out))
   | (go_at_call 9;refine(law_alive _).mono ?_;rintro e w9 ⟨rfl,he⟩;replace E:=zh (E.out.tr he);clear he))
  go_ret;exact⟨rfl,HE.out.tr E.out⟩
 have hd1:decide (n ≥ (x.Cores.length:Int))=false:=decide_eq_false (by omega)
 obtain⟨N,rfl⟩:∃ N:Nat,n=N:=⟨n.toNat,by omega⟩
 have hN:N < x.Cores.length:=by omega
 clear ga0 ga1 ga2 ga3 ga4 ga5 ga6 gaL;obtain⟨eb1,eo1,er1,ep1,ec1,rfl,hB1,hX1,hF10,hF11,hF12,hR1,hS1,hL1,hV1⟩:=s4.out.atCore N hN;have gL1:=zl hB1 E.out.sz;have gF10:=(zA0 E.out hB1).trans hF10;have gF11:=(zA0 E.out hB1).trans hF11;have gF12:=(zA0 E.out hB1).trans hF12;obtain⟨ha0,ha1,ha2,ha3,ha4,ha5,ha6,haL⟩:=Bk.j7 (KA.out.ext E.out);by_cases h2:er1.Cells.length < 2
 ·have hd2:decide ((er1.Cells.length:Int) < 2)=true:=decide_eq_true (by omega)
  go_wp2_with (first
   | (go_at_call 15;refine(zAi _ x _ (HV.out.ext E.out)).mono ?_;rintro e wz ⟨rfl,he⟩;rw[hmv];replace E:=zh (E.out.tr he);clear he;obtain⟨ua0,ua1,ua2,ua3,ua4,ua5,ua6,uaL⟩:=Bk.j7 (KA.out.ext E.out);have vL1:=zl hB1 E.out.sz;have vF10:=(zA0 E.out hB1).trans hF10;have vF11:=(zA0 E.out hB1).trans hF11;have vF12:=(zA0 E.out hB1).trans hF12)
   | (go_at_call 9;refine(law_alive _).mono ?_;rintro e w9 ⟨rfl,he⟩;replace E:=zh (E.out.tr he);clear he))
  go_ret;exact⟨rfl,HE.out.tr E.out⟩
 have hd2:decide ((er1.Cells.length:Int) < 2)=false:=decide_eq_false (by omega)
 obtain⟨x2,c2,e1,e2,e3,e4,e5,e6,e7⟩:=M.swap_all hmv hX1.out (by omega)
 go_upto_region 8 with (go_at_call 15;refine(zAi _ x _ (HV.out.ext E.out)).mono ?_;rintro e wz ⟨rfl,he⟩;rw[hmv];replace E:=zh (E.out.tr he);clear he;obtain⟨ua0,ua1,ua2,ua3,ua4,ua5,ua6,uaL⟩:=Bk.j7 (KA.out.ext E.out);have vL1:=zl hB1 E.out.sz;have vF10:=(zA0 E.out hB1).trans hF10;have vF11:=(zA0 E.out hB1).trans hF11;have vF12:=(zA0 E.out hB1).trans hF12)
 go_upto_region 9 with (fail)
 have HVz:=zh (HV.out.ext E.out);obtain⟨L1,hL1⟩:∃ L1,L1=wz.heap.size:=⟨_,rfl⟩;obtain⟨L2,hL2⟩:∃ L2,L2=wz.heap.size+1:=⟨_,rfl⟩;obtain⟨D,hD⟩:∃ D,D=wz.heap.size+1+1:=⟨_,rfl⟩;have hnr:rng (N:Int):=zAl (by omega) (by omega)
 refine zA1 (fun u=>Ext wz u/\Bk u D [.slice (some ⟨L1,0,none⟩) 1 1,.slice (some ⟨L2,0,none⟩) 2 2] 51/\Rv u (.agg #[.slice (some ⟨L1,0,none⟩) 1 1,.slice (some ⟨L2,0,none⟩) 2 2]) (⟨[x],M.swW N⟩:Board))
  ⟨(((zr _).alloc _).alloc _).alloc _,by rw[hL1,hL2,hD];exact Bk.new2 _ _ _ _ _,by rw[hL1,hL2];exact Rv.mkBoard (x:=(⟨[x],M.swW N⟩:Board)) ((Rs.one HVz.out).ext (((zr _).alloc _).alloc _)) ((Rs.swW9 (by simp) hnr).ext ((zr _).alloc _))⟩ ?_
 rw[<- hD,<- hL2,<- hL1];rintro W2 ⟨e9,kD,hb⟩;clear hL1 hL2 hD HVz;have EB:=zh (E.out.tr e9);replace HV:=zh (HV.out.ext EB.out);replace KA:=zh (KA.out.ext EB.out);replace HE:=zh (HE.out.tr EB.out);replace hS1:=zh (hS1.out.ext EB.out);have HB:=zh hb;have KD:=zh kD;have bF10:=(zA0 EB.out hB1).trans hF10;have bF11:=(zA0 EB.out hB1).trans hF11;have bF12:=(zA0 EB.out hB1).trans hF12;have bB1:=zl hB1 EB.out.sz;clear e9 kD hb EB E;have E:=zh (zr W2);obtain⟨b2,hb2⟩:∃ b2,(⟨[x2],M.swW N⟩:Board)=b2:=⟨_,rfl⟩;have HBL:Hid (b2.Boxes.length=1):=zh (by rw[<- hb2];rfl)
 have HBX:Hid (b2.Boxes[0]? = some x2):=zh (by rw[<- hb2];rfl)
 have E3:=zh e3;have E5:=zh e5;clear e3 e5;rw[hb2] at e1 e2;have CW1:=zh (fun(v:Value) (u:World) (h:Rv u v (⟨[x],M.swW N⟩:Board))=>impl_CopyWires v _ u h)
 have CW2:=zh (fun(v:Value) (u:World) (h:Rv u v b2)=>impl_CopyWires v b2 u h)
 rw[e1] at CW1;rw[e2] at CW2;clear e1 e2 hb2;obtain⟨d0,d1⟩:=Bk.k2 KD.out;have dL:=KD.out.lt;go_upto_region 10 with (go_at_call 16;refine(CW1.out _ _ HB.out).mono ?_;rintro e w6 ⟨v6,rfl,ho,he⟩;obtain⟨ya0,yc0,ya1,yc1,rfl,yb0,-⟩:=ho.rv.openBoard;have HY:=zh ho.rv;replace E:=zh (E.out.tr he);clear ho he CW1)
 clear d0 d1 dL;obtain⟨Y,hY⟩:∃ B,B=w6.heap.size:=⟨_,rfl⟩;refine zA1 (fun u=>Ext w6 u/\Bk u Y [.slice ya0 b2.Boxes.length yc0,.slice ya1 b2.Wires.length yc1] 51) ⟨(zr _).alloc _,by rw[hY];exact Bk.new _ _ _⟩ ?_
 rw[<- hY];rintro W3 ⟨eb,kb⟩;clear hY;have EB:=zh (E.out.tr eb);replace HV:=zh (HV.out.ext EB.out);replace HB:=zh (HB.out.ext EB.out);replace KA:=zh (KA.out.ext EB.out);replace KD:=zh (KD.out.ext EB.out);replace HY:=zh (HY.out.ext eb);replace yb0:=zh (yb0.out.ext eb);replace HE:=zh (HE.out.tr EB.out);have E8:=zh EB.out;have KY:=zh kb;clear eb kb EB E;have E:=zh (zr W3);replace hS1:=zh (hS1.out.ext E8.out);replace bF10:=(zA0 E8.out bB1).trans bF10;replace bF11:=(zA0 E8.out bB1).trans bF11;replace bF12:=(zA0 E8.out bB1).trans bF12;replace bB1:=zl bB1 E8.out.sz;clear E8;have hy0:0 < b2.Boxes.length:=by have:=HBL.out;omega
 obtain⟨gb,so,m2,aa0,cc0,aa1,cc1,aa2,cc2,aa3,cc3,aa4,cc4,aa5,cc5,rfl,hgb,hgx,-,-,-,-,m4,-,-,-,-,-,-,-,-,-,-,-,hs4,-,-,-,-⟩:=yb0.out.atMachine 0 hy0;obtain rfl:m2=x2:=by have h9:=hgx.out;rw[HBX.out] at h9;exact(Option.some.inj h9).symm
 simp only[Nat.zero_mul,Nat.add_zero] at m4;have hN2:N < m2.Cores.length:=by have:=E3.out;omega
 obtain⟨gc,sc,k2,pa,pc,rfl,hgc,hkx,n0,n1,n2,-,hks,-,-⟩:=hs4.out.atCore N hN2;obtain rfl:k2=c2:=by have h9:=hkx.out;rw[e4] at h9;exact(Option.some.inj h9).symm
 have hk0:0 < k2.Cells.length:=by have:=E5.out;omega
 have hk1:1 < k2.Cells.length:=by have:=E5.out;omega
 have hr0:0 < er1.Cells.length:=by omega
 have hr1:1 < er1.Cells.length:=by omega
 obtain⟨gi,si,z0,rfl,hgi,hz0,i0,-⟩:=hks.out.atInt 0 hk0;obtain⟨_,_,z1,e8,-,hz1,i1,-⟩:=hks.out.atInt 1 hk1;cases e8;obtain⟨gj,sj,y0,rfl,hgj,hy0',j0,-⟩:=hS1.out.atInt 0 hr0;obtain⟨_,_,y1,e8,-,hy1',j1,-⟩:=hS1.out.atInt 1 hr1;cases e8;obtain rfl:z0=y1:=by rw[hz0.out,hy1'.out] at e6;exact Option.some.inj e6
 obtain rfl:z1=y0:=by rw[hz1.out,hy0'.out] at e7;exact Option.some.inj e7
 simp only[Nat.add_zero] at i0 j0;have q0:(z0 == z0)=true:=by simp
 have q1:(z1 == z1)=true:=by simp
 have hb1:((b2.Boxes.length:Int) != 1)=false:=by rw[HBL.out];rfl
 have hc1:((m2.Cores.length:Int) != (x.Cores.length:Int))=false:=by rw[E3.out];simp
 have hc2:decide ((k2.Cells.length:Int) < 2)=false:=decide_eq_false (by omega)
 have hkl2:2<=k2.Cells.length:=by omega
 clear HBL HBX E3 e4 E5 e6 e7 hgx hkx hz0 hz1 hy0' hy1' hX1 hs4 hks hS1 yb0;have kaK:=KA.out.ext E.out;have ka4:=kaK.cell (j:=4) rfl;have kaL:=kaK.lt;clear kaK;obtain⟨kb0,kb1,kbL⟩:=Bk.j2 (KY.out.ext E.out);go_wp2;go_big_quiet (fail)
 go_upto_region 13 with (fail)
 refine zA1 (fun u=>Ext W3 u) (E.out.drewN _) ?_
 clear ka4 kb0 kb1 kaL kbL E;rintro W4 e4;have E:=zh e4;clear e4;have laK:=KA.out.ext E.out;have la4:=laK.cell (j:=4) rfl;have laL:=laK.lt;clear laK;obtain⟨lb0,lb1,lbL⟩:=Bk.j2 (KY.out.ext E.out);obtain⟨lc0,lc1,lcL⟩:=Bk.j2 (KD.out.ext E.out);have ex0:=(zA0 E.out hgb).trans m4;have ex1:=(zA0 E.out hgc).trans n0;have ex2:=(zA0 E.out hgi).trans i0;have ex3:=(zA0 E.out hgi).trans i1;have ex4:=(zA0 E.out bB1).trans bF10;have ex5:=(zA0 E.out hgj).trans j0;have ex6:=(zA0 E.out hgj).trans j1;clear h2 hd2 hkl2;have hr1i:(1:Int) < (er1.Cells.length:Int):=by omega
 have hk1i:(1:Int) < (k2.Cells.length:Int):=by omega
 refine wp_region_held_drew (S:=fun u=>u.cell? ⟨A,4,none⟩=some (.slice (some ⟨eb1,eo1,none⟩) x.Cores.length q4)/\u.cell? ⟨Y,0,none⟩=some (.slice (some ⟨gb,so,none⟩) b2.Boxes.length yc0)/\u.cell? ⟨Y,1,none⟩=some (.slice ya1 b2.Wires.length yc1)/\u.cell? ⟨D,0,none⟩=some (.slice (some ⟨L1,0,none⟩) 1 1)/\u.cell? ⟨D,1,none⟩=some (.slice (some ⟨L2,0,none⟩) 2 2)/\u.cell? ⟨gb,so+4,none⟩=some (.slice (some ⟨gc,sc,none⟩) m2.Cores.length cc4)/\u.cell? ⟨gc,sc+N*3,none⟩=some (.slice (some ⟨gi,si,none⟩) k2.Cells.length pc)/\u.cell? ⟨gi,si,none⟩=some (.int .i64 z0)/\u.cell? ⟨gi,si+1,none⟩=some (.int .i64 z1)/\u.cell? ⟨eb1,eo1+N*3,none⟩=some (.slice (some ⟨gj,sj,none⟩) er1.Cells.length ec1)/\u.cell? ⟨gj,sj,none⟩=some (.int .i64 z1)/\u.cell? ⟨gj,sj+1,none⟩=some (.int .i64 z0)) (by kernel_rfl) ?_ (fun hHeld=>?_)
 ·(try dsimp only)<;>go_keep
 refine hT 0 ?_;refine hT 1 ?_;refine hT 2 ?_;refine hT 3 ?_;refine hT 4 ?_;refine hT 5 ?_;refine hT 6 ?_;refine hT 7 ?_;refine hT 8 ?_;refine hT 9 ?_;refine hT 10 ?_;refine hT 11 ?_;refine hT 12 ?_;refine hT 13 ?_;refine hT 14 ?_;refine hT 15 ?_;refine hT 16 ?_;refine hT 17 ?_;refine hT 18 ?_;refine hT 19 ?_;refine hT 20 ?_;refine hT 21 ?_;refine hT 22 ?_;refine hT 23 ?_;refine hT 24 ?_;refine hT 25 ?_;refine hT 26 ?_;refine hT 27 ?_;refine hT 29 ?_;refine hC 28 fun K hK=>?_
 go_simp;(go_at_call 16;refine(CW2.out _ _ (HY.out.ext E.out.drew)).mono ?_;rintro e wa ⟨v7,rfl,ho,he⟩;replace E:=zh (E.out.drew.tr he);have HO7:=zh ho.rv;clear ho CW2;have r0aK:=KA.out.ext E.out;have r0a4:=r0aK.cell (j:=4) rfl;have r0aL:=r0aK.lt;clear r0aK;obtain⟨r0b0,r0b1,r0bL⟩:=Bk.j2 (KY.out.ext E.out);obtain⟨r0c0,r0c1,r0cL⟩:=Bk.j2 (KD.out.ext E.out);have r0x0:=(zA0 E.out hgb).trans m4;have r0x1:=(zA0 E.out hgc).trans n0;have r0x2:=(zA0 E.out hgi).trans i0;have r0x3:=(zA0 E.out hgi).trans i1;have r0x4:=(zA0 E.out bB1).trans bF10;have r0x5:=(zA0 E.out hgj).trans j0;have r0x6:=(zA0 E.out hgj).trans j1;clear he);try go_wp2_with fail
 refine hK.out _ _ ?_ (fun hHeld=>?_)
 ·(try dsimp only)<;>go_keep
 clear hK K;try simp only[Act.put,zs]
 refine hC 30 fun K hK=>?_
 go_simp;(go_at_call 17;refine(law_sameBoard _ _ (⟨[x],M.swW N⟩:Board) _ HO7.out (HB.out.ext E.out)).mono ?_;rintro e wb ⟨rfl,he⟩;replace E:=zh (E.out.tr he);have r1aK:=KA.out.ext E.out;have r1a4:=r1aK.cell (j:=4) rfl;have r1aL:=r1aK.lt;clear r1aK;obtain⟨r1b0,r1b1,r1bL⟩:=Bk.j2 (KY.out.ext E.out);obtain⟨r1c0,r1c1,r1cL⟩:=Bk.j2 (KD.out.ext E.out);have r1x0:=(zA0 E.out hgb).trans m4;have r1x1:=(zA0 E.out hgc).trans n0;have r1x2:=(zA0 E.out hgi).trans i0;have r1x3:=(zA0 E.out hgi).trans i1;have r1x4:=(zA0 E.out bB1).trans bF10;have r1x5:=(zA0 E.out hgj).trans j0;have r1x6:=(zA0 E.out hgj).trans j1;clear he;clear r0a4 r0b0 r0b1 r0c0 r0c1 r0aL r0bL r0cL r0x0 r0x1 r0x2 r0x3 r0x4 r0x5 r0x6);try go_wp2_with fail
 refine hK.out _ _ ?_ (fun hHeld=>?_)
 ·(try dsimp only)<;>go_keep
 clear hK K;try simp only[Act.put,zs]
 refine hT 31 ?_;refine hT 32 ?_;refine wpAnyH_done (by kernel_rfl) ?_ _
 go_wp2;go_ret;exact⟨rfl,HE.out.tr E.out⟩
end Sk
