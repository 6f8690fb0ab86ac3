/- Contracts of functions of the given program. -/
import Derived.Test.YtbekofpkcahbkaaGreatZbDrwC
namespace Sk
open Go Go.Proofs Go.RowKit
set_option maxHeartbeats 1600000
set_option maxRecDepth 100000
set_option linter.unusedVariables false
set_option linter.unusedSimpArgs false
theorem zCk{c n X A B:Int} (h:(X=1/\(0<=A/\A < c)/\(0<=B/\B<=255))\/((X=2\/X=3)/\(0<=A/\A < c)/\(0<=B/\B < c)) \/
  (X=4/\(0<=A/\A < n)/\(0<=B/\B < c))\/((X=5\/X=6)/\(0<=A/\A < 8)/\(0<=B/\B < c)) \/
  (X=7/\(0<=A/\A < c)/\B=0)\/((X=0\/X=8)/\A=0/\B=0)):zEh c n ⟨X,A,B⟩=true:=by
 unfold zEh zD7;simp only
 split
 ·simp only[Bool.and_eq_true,zA5];omega
 split
 ·simp only[Bool.and_eq_true,zA5];omega
 split
 ·simp only[Bool.and_eq_true,zA5];omega
 split
 ·simp only[Bool.and_eq_true,zA5];omega
 split
 ·simp only[Bool.and_eq_true,zA5,beq_iff_eq];omega
 split
 ·simp only[Bool.and_eq_true,beq_iff_eq];omega
 ·omega
theorem zN3{u w':World}{b n:Nat}{zs:List Int}{T:TypeId}{k:Int}(hm:Mo [b] (u.alloc (.cells (zs.map fun z=>Value.int .i64 z).toArray T (0,0))) w')(hb:b < u.heap.size)(hk:0<=k/\k < n)(hn:n=zs.length) :
  ∃ z,w'.cell? ⟨u.heap.size,k.toNat,none⟩=some (.int .i64 z)/\z∈zs:=by
 have hk2:k.toNat < zs.length:=by omega
 refine⟨zs[k.toNat],?_,List.getElem_mem _⟩;rw[hm.cell (by simp;omega)]
 refine(Bk.new u (zs.map fun z=>Value.int .i64 z) T).cell ?_
 simp[hk2]
def OB(W wo:World)(b Q m:Nat)(X A B:Int)(u:World):Prop:=Mw [b] wo u/\Rd W u b m/\Bk u Q [.int .i64 X,.int .i64 A,.int .i64 B] 112
theorem OB.pick{W wo u u':World}{b Q m m':Nat}{X A B:Int}(h:OB W wo b Q m X A B u)(hm:Mo [b] u u')(hr:Rd W u' b m')(hbQ:b≠Q):OB W wo b Q m' X A B u' :=
 ⟨h.1.tr (Mw.ofMo hm),hr,hm.bk h.2.2 (by simpa using fun e=>hbQ e.symm)⟩
theorem OB.alloc{W wo u:World}{b Q m:Nat}{X A B:Int}(h:OB W wo b Q m X A B u)(o:Obj):OB W wo b Q m X A B (u.alloc o) :=
 ⟨h.1.tr (Mw.ofExt ((zr _).alloc _)),h.2.1.ext ((zr _).alloc _),h.2.2.ext ((zr _).alloc _)⟩
theorem OB.le{W wo u:World}{b Q m m':Nat}{X A B:Int}(h:OB W wo b Q m X A B u)(k:m'<=m):OB W wo b Q m' X A B u:=⟨h.1,h.2.1.le k,h.2.2⟩
theorem OB.putA{W wo u:World}{b Q m:Nat}{X A B:Int}(h:OB W wo b Q m X A B u)(h1:wo.heap.size<=Q)(h2:b≠Q)(h3:W.heap.size<=Q)(k:Int):OB W wo b Q m X k B (u.setCell ⟨Q,1,none⟩ (.int .i64 k)) :=
 ⟨h.1.set (.inr h1) _,h.2.1.set (p:=⟨Q,1,none⟩) h2 h3 _,by have:=h.2.2.set 1 (.int .i64 k);simpa using this⟩
theorem OB.putB{W wo u:World}{b Q m:Nat}{X A B:Int}(h:OB W wo b Q m X A B u)(h1:wo.heap.size<=Q)(h2:b≠Q)(h3:W.heap.size<=Q)(k:Int):OB W wo b Q m X A k (u.setCell ⟨Q,2,none⟩ (.int .i64 k)) :=
 ⟨h.1.set (.inr h1) _,h.2.1.set (p:=⟨Q,2,none⟩) h2 h3 _,by have:=h.2.2.set 2 (.int .i64 k);simpa using this⟩
theorem zHv(W w:World)(b m c C:Nat)(h:Rd W w b (m+60))(hc1:1<=c)(hc8:c<=8)(hC:C<=100) :
  Calls Tryz.prog 135 #[.pointer (some ⟨b,0,none⟩),.int .i64 c,.int .i64 C,.int .i64 0] w fun e w' => ∃ v xs,e = .returned v/\Os (α:=Order) w.heap.size w' v xs/\zBr xs c=true/\xs.length<=7/\Mw [b] w w'/\Rd W w' b m:=by
 have H:=zh h;have hbl:=h.lt;have hbW:=h.1;have hWw:=h.2.1.sz;clear h;obtain⟨C8,hC8e,hC8⟩:∃ C8,(if (C:Int) < 8 then (C:Int) else 8)=C8/\(0<=C8/\C8<=8):=⟨_,rfl,by split<;>omega⟩
 obtain⟨CX,hCXe,hCX⟩:∃ CX,(if (1:Int) < C8 then C8 else 1)=CX/\(1<=CX/\CX<=8):=⟨_,rfl,by split<;>omega⟩
 go_enter Tryz.func135,Tryz.ntmps135;go_upto_region 2 with (fail)
 refine zA1 (fun W0=>Ext w W0/\Oo (α:=Order) 112 w.heap.size W0 (.slice (some ⟨w.heap.size,0,none⟩) 0 0) []) ⟨(zr _).alloc _,Oo.lit0 _ _⟩ ?_
 rintro W0 ⟨e0,ho0⟩;have HRD:=zh (H.out.ext e0);have HMW:Hid (Mw [b] w W0):=zh (Mw.ofExt e0);have HO:=zh ho0;clear e0 H ho0;go_upto_region 3 with (go_at_call 35;refine(zA9 W _ b _ _ HRD.out (zAf (by omega) (by omega))).mono ?_;rintro e w1 ⟨k,rfl,hk,hm,hr⟩;have hkb:=hk.lt (by omega);replace HMW:=zh (HMW.out.tr (Mw.ofMo hm));replace HO:=zh (HO.out.mo hm (by simp;omega));replace HRD:=zh hr;clear hk hm hr)
 obtain⟨hk1,hk2⟩:=hkb;obtain⟨J,hJ⟩:∃ J:Nat,1+k=J:=⟨(1+k).toNat,by omega⟩
 rw[hJ];have hJ1:1<=J:=by omega
 have hJ7:J<=7:=by omega
 clear hk1 hk2 hJ;go_upto_region 4 with (go_at_call 35;refine(zA9 W _ b _ _ HRD.out (zAf (by omega) (by omega))).mono ?_;rintro e w2 ⟨cm,rfl,hk,hm,hr⟩;have hkb:=hk.lt (by omega);replace HMW:=zh (HMW.out.tr (Mw.ofMo hm));replace HO:=zh (HO.out.mo hm (by simp;omega));replace HRD:=zh hr;clear hk hm hr)
 obtain⟨hk1,hk2⟩:=hkb;obtain⟨cn,hcne,hcn⟩:∃ cn,(if (1:Int) < cm then 1 else cm)=cn/\(0<=cn/\cn<=1):=⟨_,rfl,by split<;>omega⟩
 clear hk1 hk2;go_wp2_with fail
 go_loopw [9,12] (fun v9 i wr => ∃ (j:Nat) (ao:Option Addr) (no co:Nat) (xs:List Order),j<=J/\i = .int .i64 j/\v9 = .slice ao no co/\Oo 112 w.heap.size wr (.slice ao no co) xs/\xs.length=j/\(∀ x∈xs,zEh c J x=true)/\Mw [b] w wr/\Rd W wr b (m+57 - 7*j)) (fun _ i _=>J - (intOf i).toNat)
 case atStart=>exact⟨0,_,_,_,[],Nat.zero_le _,rfl,rfl,HO.out,rfl,(fun x hx=>by cases hx),HMW.out,HRD.out.le (by omega)⟩
 case round =>
  clear HMW HO HRD;obtain⟨j,ao,no,co,xs,hj,rfl,rfl,hoo,hxl,hxv,hmw,hrd⟩:=hrel;obtain⟨wo,rfl⟩:∃ wo:World,wo=wr:=⟨_,rfl⟩;have HXV:=zh hxv;have HXL:=zh hxl;have HMW:=zh hmw;have HO:=zh hoo.ob;have HOO:=zh hoo;have hs1:=hmw.size;have hxl7:xs.length<=7:=by omega
  by_cases hjt:j < J
  ·obtain⟨N,hN1,hN2⟩:∃ N,N+6<=m+57 - 7*j/\m+57 - 7*(j+1)<=N:=⟨m+51 - 7*j,by omega,by omega⟩
   have HRD:Hid (Rd W wo b (N+6)):=zh (hrd.le hN1);have hbo:b < wo.heap.size:=hrd.lt;clear hmw hoo hrd hxl hxv;go_upto_region 8 with (go_at_call 35;refine(zA9 W _ b _ _ (HRD.out.ext ((zr _).alloc _)) (zAf (by omega) (by omega))).mono ?_;rintro e w3 ⟨k,rfl,hk,hm,hr⟩;have hk12:0<=k/\k < 12:=(by obtain⟨p1,p2⟩:=hk.lt (by omega);omega);obtain⟨z,hz1,hz2⟩:=zN3 (zs:=[1,2,3,4,5,6,5,6,7,2,0,8]) hm hbo hk12 rfl;have HM3:=zh ((Mw.ofExt ((zr wo).alloc (.cells #[.int .i64 1,.int .i64 2,.int .i64 3,.int .i64 4,.int .i64 5,.int .i64 6,.int .i64 5,.int .i64 6,.int .i64 7,.int .i64 2,.int .i64 0,.int .i64 8] 3)) (F:=[b])).tr (Mw.ofMo hm));have HR3:=zh hr;clear hk hm hr)
   obtain⟨Q,hQ⟩:∃ Q,Q=w3.heap.size:=⟨_,rfl⟩;have hs3:=HM3.out.size;have hwQ:wo.heap.size<=Q:=by omega
   have hbQ:b≠Q:=by omega
   have hWQ:W.heap.size<=Q:=by omega
   have hz9:z=1\/z=2\/z=3\/z=4\/z=5\/z=6\/z=7\/z=0\/z=8:=by simp only[List.mem_cons,List.not_mem_nil,or_false] at hz2;omega
   refine zA1 (OB W wo b Q (N+5) z 0 0) ⟨HM3.out.tr (Mw.ofExt ((zr _).alloc _)),HR3.out.ext ((zr _).alloc _),by rw[hQ];exact Bk.new _ _ _⟩ ?_
   rw[<- hQ];clear HM3 HR3 hQ hz1 hz2 hk12 HRD;intro wq hbq;have HB:=zh hbq;obtain⟨q0,q1,q2⟩:=Bk.k3 HB.out.2.2;have qf:=HB.out.2.2.fz;have ql:=HB.out.2.2.lt;clear hbq;go_upto_block 2 with (fail)
   go_cut [] from 36 to 91 (fun wc => ∃ X A B,OB W wo b Q N X A B wc/\zEh c J ⟨X,A,B⟩=true /\ -1000<=X/\X<=1000 /\ -1000<=A/\A<=1000 /\ -1000<=B/\B<=1000)
   case first =>
    rcases hz9 with rfl|rfl|rfl|rfl|rfl|rfl|rfl|rfl|rfl
    ·go_upto_region 11 with (go_at_call 35;refine(zA9 W _ b _ _ HB.out.2.1 (zAf (by omega) (by omega))).mono ?_;rintro e wa ⟨ka,rfl,hk,hm,hr⟩;obtain⟨hla,hua⟩:=hk.lt (by omega);replace HB:=zh (HB.out.pick hm hr hbQ);obtain⟨q0,q1,q2⟩:=Bk.k3 HB.out.2.2;have qf:=HB.out.2.2.fz;have ql:=HB.out.2.2.lt;clear hk hm hr)
     refine zA1 (OB W wo b Q (N+4) 1 ka 0) (HB.out.putA hwQ hbQ hWQ ka) ?_;intro ua hba;clear HB q0 q1 q2 qf ql;have HB:=zh hba;obtain⟨q0,q1,q2⟩:=Bk.k3 HB.out.2.2;have qf:=HB.out.2.2.fz;have ql:=HB.out.2.2.lt;clear hba
     go_wp2_with (first
      | (go_at_call 35;have _t:=kc;refine(zA9 W _ b _ _ (HB.out.alloc _).2.1 (zAf (by omega) (by omega))).mono ?_;rintro e wd ⟨kd,rfl,hk,hm,hr⟩;obtain⟨hld,hud⟩:=hk.lt (by omega);obtain⟨z,hz1,hz2⟩:=zMg (zs:=[kb,kc]) hm HB.out.2.1.lt hk rfl (by simp);have hzb:0<=z/\z<=255:=(by simp only[List.mem_cons,List.not_mem_nil,or_false] at hz2;omega);replace HB:=zh ((HB.out.alloc _).pick hm hr hbQ);obtain⟨q0,q1,q2⟩:=Bk.k3 HB.out.2.2;have qf:=HB.out.2.2.fz;have ql:=HB.out.2.2.lt;clear hk hm hr)
      | (go_at_call 35;have _t:=kb;refine(zA9 W _ b _ _ HB.out.2.1 (zAf (by omega) (by omega))).mono ?_;rintro e wc ⟨kc,rfl,hk,hm,hr⟩;obtain⟨hlc,huc⟩:=hk.lt (by omega);replace HB:=zh (HB.out.pick hm hr hbQ);obtain⟨q0,q1,q2⟩:=Bk.k3 HB.out.2.2;have qf:=HB.out.2.2.fz;have ql:=HB.out.2.2.lt;clear hk hm hr)
      | (go_at_call 35;refine(zA9 W _ b _ _ HB.out.2.1 (zAf (by omega) (by omega))).mono ?_;rintro e wb ⟨kb,rfl,hk,hm,hr⟩;obtain⟨hlb,hub⟩:=hk.lt (by omega);replace HB:=zh (HB.out.pick hm hr hbQ);obtain⟨q0,q1,q2⟩:=Bk.k3 HB.out.2.2;have qf:=HB.out.2.2.fz;have ql:=HB.out.2.2.lt;clear hk hm hr))
     go_meet
     exact⟨1,ka,z,(HB.out.putB hwQ hbQ hWQ z).le (by omega),zCk (by omega),by omega,by omega,by omega,by omega,by omega,by omega⟩
    ·go_upto_region 15 with (go_at_call 35;refine(zA9 W _ b _ _ HB.out.2.1 (zAf (by omega) (by omega))).mono ?_;rintro e wa ⟨ka,rfl,hk,hm,hr⟩;obtain⟨hla,hua⟩:=hk.lt (by omega);replace HB:=zh (HB.out.pick hm hr hbQ);obtain⟨q0,q1,q2⟩:=Bk.k3 HB.out.2.2;have qf:=HB.out.2.2.fz;have ql:=HB.out.2.2.lt;clear hk hm hr)
     refine zA1 (OB W wo b Q (N+4) 2 ka 0) (HB.out.putA hwQ hbQ hWQ ka) ?_;intro ua hba;clear HB q0 q1 q2 qf ql;have HB:=zh hba;obtain⟨q0,q1,q2⟩:=Bk.k3 HB.out.2.2;have qf:=HB.out.2.2.fz;have ql:=HB.out.2.2.lt;clear hba;go_wp2_with (go_at_call 35;refine(zA9 W _ b _ _ HB.out.2.1 (zAf (by omega) (by omega))).mono ?_;rintro e wb ⟨kb,rfl,hk,hm,hr⟩;obtain⟨hlb,hub⟩:=hk.lt (by omega);replace HB:=zh (HB.out.pick hm hr hbQ);obtain⟨q0,q1,q2⟩:=Bk.k3 HB.out.2.2;have qf:=HB.out.2.2.fz;have ql:=HB.out.2.2.lt;clear hk hm hr)
     go_meet
     exact⟨2,ka,kb,(HB.out.putB hwQ hbQ hWQ kb).le (by omega),zCk (by omega),by omega,by omega,by omega,by omega,by omega,by omega⟩
    ·go_upto_region 15 with (go_at_call 35;refine(zA9 W _ b _ _ HB.out.2.1 (zAf (by omega) (by omega))).mono ?_;rintro e wa ⟨ka,rfl,hk,hm,hr⟩;obtain⟨hla,hua⟩:=hk.lt (by omega);replace HB:=zh (HB.out.pick hm hr hbQ);obtain⟨q0,q1,q2⟩:=Bk.k3 HB.out.2.2;have qf:=HB.out.2.2.fz;have ql:=HB.out.2.2.lt;clear hk hm hr)
     refine zA1 (OB W wo b Q (N+4) 3 ka 0) (HB.out.putA hwQ hbQ hWQ ka) ?_;intro ua hba;clear HB q0 q1 q2 qf ql;have HB:=zh hba;obtain⟨q0,q1,q2⟩:=Bk.k3 HB.out.2.2;have qf:=HB.out.2.2.fz;have ql:=HB.out.2.2.lt;clear hba;go_wp2_with (go_at_call 35;refine(zA9 W _ b _ _ HB.out.2.1 (zAf (by omega) (by omega))).mono ?_;rintro e wb ⟨kb,rfl,hk,hm,hr⟩;obtain⟨hlb,hub⟩:=hk.lt (by omega);replace HB:=zh (HB.out.pick hm hr hbQ);obtain⟨q0,q1,q2⟩:=Bk.k3 HB.out.2.2;have qf:=HB.out.2.2.fz;have ql:=HB.out.2.2.lt;clear hk hm hr)
     go_meet
     exact⟨3,ka,kb,(HB.out.putB hwQ hbQ hWQ kb).le (by omega),zCk (by omega),by omega,by omega,by omega,by omega,by omega,by omega⟩
    ·go_upto_region 18 with (go_at_call 35;refine(zA9 W _ b _ _ HB.out.2.1 (zAf (by omega) (by omega))).mono ?_;rintro e wa ⟨ka,rfl,hk,hm,hr⟩;obtain⟨hla,hua⟩:=hk.lt (by omega);replace HB:=zh (HB.out.pick hm hr hbQ);obtain⟨q0,q1,q2⟩:=Bk.k3 HB.out.2.2;have qf:=HB.out.2.2.fz;have ql:=HB.out.2.2.lt;clear hk hm hr)
     refine zA1 (OB W wo b Q (N+4) 4 ka 0) (HB.out.putA hwQ hbQ hWQ ka) ?_;intro ua hba;clear HB q0 q1 q2 qf ql;have HB:=zh hba;obtain⟨q0,q1,q2⟩:=Bk.k3 HB.out.2.2;have qf:=HB.out.2.2.fz;have ql:=HB.out.2.2.lt;clear hba;go_wp2_with (go_at_call 35;refine(zA9 W _ b _ _ HB.out.2.1 (zAf (by omega) (by omega))).mono ?_;rintro e wb ⟨kb,rfl,hk,hm,hr⟩;obtain⟨hlb,hub⟩:=hk.lt (by omega);replace HB:=zh (HB.out.pick hm hr hbQ);obtain⟨q0,q1,q2⟩:=Bk.k3 HB.out.2.2;have qf:=HB.out.2.2.fz;have ql:=HB.out.2.2.lt;clear hk hm hr)
     go_meet
     exact⟨4,ka,kb,(HB.out.putB hwQ hbQ hWQ kb).le (by omega),zCk (by omega),by omega,by omega,by omega,by omega,by omega,by omega⟩
    ·go_upto_region 22 with (go_at_call 35;refine(zA9 W _ b _ _ HB.out.2.1 (zAf (by omega) (by omega))).mono ?_;rintro e wa ⟨ka,rfl,hk,hm,hr⟩;obtain⟨hla,hua⟩:=hk.lt (by omega);replace HB:=zh (HB.out.pick hm hr hbQ);obtain⟨q0,q1,q2⟩:=Bk.k3 HB.out.2.2;have qf:=HB.out.2.2.fz;have ql:=HB.out.2.2.lt;clear hk hm hr)
     refine zA1 (OB W wo b Q (N+4) 5 ka 0) (HB.out.putA hwQ hbQ hWQ ka) ?_;intro ua hba;clear HB q0 q1 q2 qf ql;have HB:=zh hba;obtain⟨q0,q1,q2⟩:=Bk.k3 HB.out.2.2;have qf:=HB.out.2.2.fz;have ql:=HB.out.2.2.lt;clear hba;go_wp2_with (go_at_call 35;refine(zA9 W _ b _ _ HB.out.2.1 (zAf (by omega) (by omega))).mono ?_;rintro e wb ⟨kb,rfl,hk,hm,hr⟩;obtain⟨hlb,hub⟩:=hk.lt (by omega);replace HB:=zh (HB.out.pick hm hr hbQ);obtain⟨q0,q1,q2⟩:=Bk.k3 HB.out.2.2;have qf:=HB.out.2.2.fz;have ql:=HB.out.2.2.lt;clear hk hm hr)
     go_meet
     exact⟨5,ka,kb,(HB.out.putB hwQ hbQ hWQ kb).le (by omega),zCk (by omega),by omega,by omega,by omega,by omega,by omega,by omega⟩
    ·go_upto_region 22 with (go_at_call 35;refine(zA9 W _ b _ _ HB.out.2.1 (zAf (by omega) (by omega))).mono ?_;rintro e wa ⟨ka,rfl,hk,hm,hr⟩;obtain⟨hla,hua⟩:=hk.lt (by omega);replace HB:=zh (HB.out.pick hm hr hbQ);obtain⟨q0,q1,q2⟩:=Bk.k3 HB.out.2.2;have qf:=HB.out.2.2.fz;have ql:=HB.out.2.2.lt;clear hk hm hr)
     refine zA1 (OB W wo b Q (N+4) 6 ka 0) (HB.out.putA hwQ hbQ hWQ ka) ?_;intro ua hba;clear HB q0 q1 q2 qf ql;have HB:=zh hba;obtain⟨q0,q1,q2⟩:=Bk.k3 HB.out.2.2;have qf:=HB.out.2.2.fz;have ql:=HB.out.2.2.lt;clear hba;go_wp2_with (go_at_call 35;refine(zA9 W _ b _ _ HB.out.2.1 (zAf (by omega) (by omega))).mono ?_;rintro e wb ⟨kb,rfl,hk,hm,hr⟩;obtain⟨hlb,hub⟩:=hk.lt (by omega);replace HB:=zh (HB.out.pick hm hr hbQ);obtain⟨q0,q1,q2⟩:=Bk.k3 HB.out.2.2;have qf:=HB.out.2.2.fz;have ql:=HB.out.2.2.lt;clear hk hm hr)
     go_meet
     exact⟨6,ka,kb,(HB.out.putB hwQ hbQ hWQ kb).le (by omega),zCk (by omega),by omega,by omega,by omega,by omega,by omega,by omega⟩
    ·go_wp2_with (go_at_call 35;refine(zA9 W _ b _ _ HB.out.2.1 (zAf (by omega) (by omega))).mono ?_;rintro e wa ⟨ka,rfl,hk,hm,hr⟩;obtain⟨hla,hua⟩:=hk.lt (by omega);replace HB:=zh (HB.out.pick hm hr hbQ);obtain⟨q0,q1,q2⟩:=Bk.k3 HB.out.2.2;have qf:=HB.out.2.2.fz;have ql:=HB.out.2.2.lt;clear hk hm hr)
     go_meet
     exact⟨7,ka,0,(HB.out.putA hwQ hbQ hWQ ka).le (by omega),zCk (by omega),by omega,by omega,by omega,by omega,by omega,by omega⟩
    ·go_wp2;go_meet
     exact⟨0,0,0,HB.out.le (by omega),zCk (by omega),by omega,by omega,by omega,by omega,by omega,by omega⟩
    ·go_wp2;go_meet
     exact⟨8,0,0,HB.out.le (by omega),zCk (by omega),by omega,by omega,by omega,by omega,by omega,by omega⟩
   case rest =>
    clear HB q0 q1 q2 qf ql;obtain⟨X,A,B,hb,hov,x0,x1,a0,a1,b0,b1⟩:=hcut;obtain⟨q0,q1,q2⟩:=Bk.k3 hb.2.2;have ql:=hb.2.2.lt;have HOV:=zh hov;have HRC:=zh hb.2.1;have HOC:=zh (HO.out.of (w':=wc) (fun k h1 h2=>hb.1.2.2 k h2 (by simp;omega)))
    have hsw:=hb.1.size;have HMT:=zh (HMW.out.trF hb.1 (by simp))
    clear hb hov;go_wp2_with (at_builtin;refine zF4 (α:=Order) rfl _ _ 77 rfl 112 Tryz.underlying77 zJy (v:=.slice ao no co) (ys:=[⟨X,A,B⟩]) rfl (HOC.out.of (fun k _ h=>((zr wc).alloc _).block k (by omega))) (by omega) (by simp<;>omega) rfl rfl (Row.lit1 (cs:=[_,_,_]) ⟨rfl,zAf (by show _<=X;omega) (by show X<=_;omega),zAf (by show _<=A;omega) (by show A<=_;omega),zAf (by show _<=B;omega) (by show B<=_;omega),rfl⟩) (by simp) (Own.nil _ _) (by omega) ?_;intro v5 w5 hO5 hg5;have hrow5:=HOC.out.own;have HG5:=zh ((HMT.out.tr (Mw.ofExt ((zr _).alloc _))).trF hg5 (fun x hx => .inr (hrow5 x (Option.mem_toList.1 hx)).1));have HR5:=zh ((HRC.out.ext ((zr _).alloc _)).mw hg5 (fun hm=>by have:=hrow5 _ (Option.mem_toList.1 hm);omega) (fun x hx=>by have:=hrow5 x (Option.mem_toList.1 hx);omega));have HO5:=zh hO5;obtain⟨p5,k5,q5,rfl⟩:=hO5.sh;clear hO5 hg5)
    go_roundw
    case rel=>exact⟨j+1,_,_,_,_,by omega,by go_num,rfl,HO5.out,by simp[HXL.out],(fun y hy=>by rcases List.mem_append.1 hy with hy|hy;exact HXV.out y hy;rw[List.mem_singleton] at hy;subst hy;exact HOV.out),HG5.out,HR5.out.le (by omega)⟩
    case measure=>simp[intOf];omega
  ·obtain rfl:j=J:=by omega
   have HRD:=zh hrd;have HPV:Hid (zBr xs c=true):=zh (by
    simp only[zBr,Bool.and_eq_true,zA5,List.all_eq_true];exact⟨⟨by omega,by omega⟩,⟨by omega,by omega⟩,fun x hx=>by have:=HXV.out x hx;rwa [<- HXL.out] at this⟩)
   clear hmw hoo hrd hxl hxv;go_upto_if 98 with (go_at_call 53;refine(zDj W _ b _ HRD.out).mono ?_;rintro e w2' ⟨rfl,hm,hr⟩;replace HMW:=zh (HMW.out.tr (Mw.ofMo hm));replace HOO:=zh (HOO.out.mo hm (by simp;omega));replace HRD:=zh hr;clear hm hr)
   go_wp2;go_ret;exact⟨_,xs,rfl,HOO.out.os,HPV.out,hxl7,HMW.out,HRD.out.le (by omega)⟩
theorem zEt(v:Value)(cs:List Channel)(N K:Nat)(q:Bool)(w:World)(h:Rs w v cs)(hv:zE4 cs N=true) :
  Calls Tryz.prog 136 #[v,.int .i64 N,.int .i64 K,.bool q] w fun e w' => ∃ v' xs,e = .returned v'/\Os (α:=Int) w.heap.size w' v' xs/\(xs.length<=8/\∀ x∈xs,0<=x/\x < 8)/\Ext w w':=by
 obtain⟨a,c,rfl,hl⟩:=h.form;have hc8:cs.length<=8:=by simp only[zE4,Bool.and_eq_true,decide_eq_true_eq] at hv;exact hv.2.1
 have H:=zh h;clear h;go_enter Tryz.func136,Tryz.ntmps136;go_wp2;go_loopw [9,10] (fun out i wr => ∃ (k:Nat) (ao:Option Addr) (no co:Nat) (xs:List Int),k<=cs.length/\i = .int .i64 k/\out = .slice ao no co/\Oa (α:=Int) 3 w.heap.size wr (.slice ao no co) xs []/\(xs.length<=k/\∀ x∈xs,0<=x/\x < 8)/\Ext w wr) (fun _ i _=>cs.length - (intOf i).toNat)
 case atStart=>exact⟨0,_,_,_,[],Nat.zero_le _,rfl,rfl,Oa.lit0 (α:=Int) 3 w,⟨Nat.le_refl _,fun x hx=>by cases hx⟩,(zr w).alloc _⟩
 case round =>
  obtain⟨k,ao,no,co,xs,hk,rfl,rfl,ho,⟨hxl,hxb⟩,hq⟩:=hrel;have HO:=zh ho;have HQ:=zh hq;have HXB:=zh hxb;have hx8:xs.length<=8:=by omega
  clear ho hq hxb;by_cases hkt:k < cs.length
  ·obtain⟨bb,oo,ch,rfl,hbl,hch,c0,c1,c2,c3,_,_,_,_,_⟩:=(H.out.ext HQ.out).atChannel k hkt;cases q
   ·by_cases he:ch.To=(K:Int)
    ·have hb:(ch.To == (K:Int))=true:=by simpa using he
     clear he
     go_wp2_with (first
      | (go_at_call 91;refine(zB4 _ cs N _ (H.out.ext HQ.out)).mono ?_;rintro e w2 ⟨rfl,he⟩;rw[hv];have HQ2:=zh (HQ.out.tr he);have HO2:=zh (HO.out.ext he);have hb2:=(zA0 he hbl).trans c1;have hb3:=(zA0 he hbl).trans c2;have hs2:=HQ2.out.sz;clear he)
      | (at_builtin;go_loud (refine zB7 (α:=Int) rfl _ _ 34 rfl 3 Tryz.underlying34 zDs (L:=w.heap.size) (v:=.slice ao no co) (ys:=[(k:Int)]) rfl (HO2.out.ext ((zr _).alloc _)) rfl (Os.lit1 w2 _ ⟨by omega,by omega⟩).rs (by rw[List.length_singleton];omega) (Nat.le_trans hs2 ((zr w2).alloc _).sz) ?_;intro v5 w5 hO5 hg5;have HO5:=zh hO5;have HE5:=zh ((HQ2.out.alloc (.cells #[.int .i64 (k:Nat)] 3)).grown hg5 (fun k hk=>HO2.out.own k hk));obtain⟨p5,n5,q5,rfl⟩:=Oa.sh0 hO5;clear hO5 hg5)))
     go_roundw
     case rel=>exact⟨k+1,_,_,_,xs ++ [(k:Int)],by omega,by go_num,rfl,HO5.out,⟨by rw[List.length_append,List.length_singleton];omega,fun y hy=>by rcases List.mem_append.1 hy with hy|hy;exact HXB.out y hy;rw[List.mem_singleton] at hy;subst hy;omega⟩,HE5.out⟩
     case measure=>simp[intOf];omega
    ·have hb:(ch.To == (K:Int))=false:=by simpa using he
     clear he;go_wp2_with (go_at_call 91;refine(zB4 _ cs N _ (H.out.ext HQ.out)).mono ?_;rintro e w2 ⟨rfl,he⟩;rw[hv];have HQ2:=zh (HQ.out.tr he);have HO2:=zh (HO.out.ext he);have hb2:=(zA0 he hbl).trans c1;have hb3:=(zA0 he hbl).trans c2;have hs2:=HQ2.out.sz;clear he)
     go_roundw
     case rel=>exact⟨k+1,_,_,_,xs,by omega,by go_num,rfl,HO2.out,⟨by omega,HXB.out⟩,HQ2.out⟩
     case measure=>simp[intOf];omega
   ·by_cases he:ch.From=(K:Int)
    ·have hb:(ch.From == (K:Int))=true:=by simpa using he
     clear he
     go_wp2_with (first
      | (go_at_call 91;refine(zB4 _ cs N _ (H.out.ext HQ.out)).mono ?_;rintro e w2 ⟨rfl,he⟩;rw[hv];have HQ2:=zh (HQ.out.tr he);have HO2:=zh (HO.out.ext he);have hb2:=(zA0 he hbl).trans c1;have hb3:=(zA0 he hbl).trans c2;have hs2:=HQ2.out.sz;clear he)
      | (at_builtin;go_loud (refine zB7 (α:=Int) rfl _ _ 34 rfl 3 Tryz.underlying34 zDs (L:=w.heap.size) (v:=.slice ao no co) (ys:=[(k:Int)]) rfl (HO2.out.ext ((zr _).alloc _)) rfl (Os.lit1 w2 _ ⟨by omega,by omega⟩).rs (by rw[List.length_singleton];omega) (Nat.le_trans hs2 ((zr w2).alloc _).sz) ?_;intro v5 w5 hO5 hg5;have HO5:=zh hO5;have HE5:=zh ((HQ2.out.alloc (.cells #[.int .i64 (k:Nat)] 3)).grown hg5 (fun k hk=>HO2.out.own k hk));obtain⟨p5,n5,q5,rfl⟩:=Oa.sh0 hO5;clear hO5 hg5)))
     go_roundw
     case rel=>exact⟨k+1,_,_,_,xs ++ [(k:Int)],by omega,by go_num,rfl,HO5.out,⟨by rw[List.length_append,List.length_singleton];omega,fun y hy=>by rcases List.mem_append.1 hy with hy|hy;exact HXB.out y hy;rw[List.mem_singleton] at hy;subst hy;omega⟩,HE5.out⟩
     case measure=>simp[intOf];omega
    ·have hb:(ch.From == (K:Int))=false:=by simpa using he
     clear he;go_wp2_with (go_at_call 91;refine(zB4 _ cs N _ (H.out.ext HQ.out)).mono ?_;rintro e w2 ⟨rfl,he⟩;rw[hv];have HQ2:=zh (HQ.out.tr he);have HO2:=zh (HO.out.ext he);have hb2:=(zA0 he hbl).trans c1;have hb3:=(zA0 he hbl).trans c2;have hs2:=HQ2.out.sz;clear he)
     go_roundw
     case rel=>exact⟨k+1,_,_,_,xs,by omega,by go_num,rfl,HO2.out,⟨by omega,HXB.out⟩,HQ2.out⟩
     case measure=>simp[intOf];omega
  ·obtain rfl:k=cs.length:=by omega
   go_wp2;go_ret;exact⟨_,xs,rfl,HO.out.os (Own.nil _ _),⟨hx8,HXB.out⟩,HQ.out⟩
theorem zHh{w:World}{b o:Nat}{v:Value}(h:w.cell? ⟨b,o,none⟩=some v):w.setCell ⟨b,o,none⟩ v=w:=by
 unfold World.cell? at h;have key:(w.setCell ⟨b,o,none⟩ v).heap=w.heap:=by
  apply Array.ext_getElem?;intro i;unfold World.setCell;rw[Array.getElem?_modify]
  split
  ·rename_i e
   subst e;simp only at h
   split at h
   ·rename_i c T z hc
    rw[hc];simp only[Option.isSome_none,Bool.false_eq_true,if_false] at h;simp only[Option.map_some,Option.isSome_none,Bool.false_eq_true,if_false]
    congr 2
    apply Array.ext_getElem?;intro j;rw[Array.getElem?_setIfInBounds]
    split
    ·rename_i e;subst e;split
     ·exact h.symm
     ·rename_i hn;rw[Array.getElem?_eq_none (by omega)] at h;cases h
    ·rfl
   ·cases h
  ·rfl
 have:(w.setCell ⟨b,o,none⟩ v) = { w with heap:=(w.setCell ⟨b,o,none⟩ v).heap }:=rfl
 rw[this,key]
theorem Os.atO{L:Nat}{w:World}{a:Option Addr}{n c:Nat}{xs:List Order}(h:Os L w (.slice a n c) xs)(i:Nat)(hi:i < xs.length) :
  ∃ g s X A B,a=some ⟨g,s,none⟩/\Hid (xs[i]? = some ⟨X,A,B⟩)/\L<=g/\g < w.heap.size/\w.cell? ⟨g,s+i*3,none⟩=some (.int .i64 X)/\w.cell? ⟨g,s+i*3+1,none⟩=some (.int .i64 A)/\w.cell? ⟨g,s+i*3+2,none⟩=some (.int .i64 B)/\(∀ j,w.frozen? ⟨g,j,none⟩=false)/\rng X/\rng A/\rng B:=by
 obtain⟨g,s,cs,F,x,rfl,hx,hL,⟨rfl,r0,r1,r2,_⟩,hat,hf⟩:=h.at i hi;obtain⟨X,A,B⟩:=x;have hlt:=hat.lt (by simp)
 exact⟨g,s,X,A,B,rfl,hx,hL,hlt,by simpa [GT.sz] using hat 0 _ rfl,by simpa [GT.sz] using hat 1 _ rfl,by simpa [GT.sz] using hat 2 _ rfl,hf,r0,r1,r2⟩
theorem Os.setO{L:Nat}{w:World}{g s n c i:Nat}{xs:List Order}(h:Os L w (.slice (some ⟨g,s,none⟩) n c) xs)(hi:i < xs.length)(hL:L<=w.heap.size)(y:Order)(r0:rng y.Op)(r1:rng y.A)(r2:rng y.B) :
  Os L (((w.setCell ⟨g,s+i*3,none⟩ (.int .i64 y.Op)).setCell ⟨g,s+i*3+1,none⟩ (.int .i64 y.A)).setCell ⟨g,s+i*3+2,none⟩ (.int .i64 y.B)) (.slice (some ⟨g,s,none⟩) n c) (xs.set i y) :=
 Os.put (cs:=[.int .i64 y.Op,.int .i64 y.A,.int .i64 y.B]) h (zr _) hi hL ⟨[],⟨rfl,r0,r1,r2,rfl⟩,Own.nil _ _⟩
theorem Os.setA{L:Nat}{w:World}{g s n c i:Nat}{xs:List Order}{X A B z:Int}(h:Os L w (.slice (some ⟨g,s,none⟩) n c) xs)(hi:i < xs.length)(hL:L<=w.heap.size)(c0:w.cell? ⟨g,s+i*3,none⟩=some (.int .i64 X))(c1:w.cell? ⟨g,s+i*3+1,none⟩=some (.int .i64 A))(c2:w.cell? ⟨g,s+i*3+2,none⟩=some (.int .i64 B))(r0:rng X)(rz:rng z)(r2:rng B) :
  Os L (w.setCell ⟨g,s+i*3+1,none⟩ (.int .i64 z)) (.slice (some ⟨g,s,none⟩) n c) (xs.set i ⟨X,z,B⟩):=by
 have h1:=h.setO hi hL ⟨X,z,B⟩ r0 rz r2;simp only at h1
 rwa [zHh c0,zHh ((zA6 (by omega)).trans c2)] at h1
theorem Os.mw{α:Type}[GT α]{L:Nat}{w w':World}{v:Value}{xs:List α}{F:List Nat}(h:Os L w v xs)(k:Mw F w w')(hF:∀ x∈F,x < L):Os L w' v xs:=by
 obtain⟨G,h1,h2⟩:=h;have hd:∀ y∈G,y ∉ F:=fun y hy hm=>by have:=(h2.2 y hy).1;have:=hF y hm;omega
 exact⟨G,k.sl h1 (fun y hy hm=>hd y hy hm),k.own h2 hd⟩
theorem Rvb.lists{L:Nat}{w:World}{v0 v1 v2:Value}{s:Setup}(h:Rvb L w (.agg #[v0,v1,v2]) s):Rsb L w v0 s.Parts/\Rsb L w v1 s.Channels/\Rsb L w v2 s.Slots:=by
 obtain⟨cs,F,e,⟨u0,u1,u2,F0,F1,F2,rfl,h0,h1,h2,rfl⟩,hk⟩:=h;have e2:=congrArg (fun v=>match v with | .agg a=>a.toList|_ => []) e
 simp only[List.cons.injEq,and_true] at e2;obtain⟨rfl,rfl,rfl⟩:=e2;exact⟨⟨F0,h0,fun k h=>hk k (by simp[h])⟩,⟨F1,h1,fun k h=>hk k (by simp[h])⟩,⟨F2,h2,fun k h=>hk k (by simp[h])⟩⟩
end Sk
