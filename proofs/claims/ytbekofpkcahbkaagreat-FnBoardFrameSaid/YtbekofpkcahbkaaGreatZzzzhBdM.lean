/- Contracts of functions of the given program. -/
import Derived.Test.YtbekofpkcahbkaaGreatZzzzgBdD
import Derived.Test.YtbekofpkcahbkaaGreatZzgBrS
namespace Sk
open Go Go.Proofs Go.RowKit
set_option maxHeartbeats 1000000
set_option linter.unusedVariables false
set_option linter.unusedSimpArgs false
theorem zN7{x:Board}(h:zE2 x=true):zE2 ⟨x.Boxes,[]⟩=true :=
 zB2.2 ⟨(zB2.1 h).nb,Nat.zero_le _,(zB2.1 h).mv,fun k w hk=>by simp at hk⟩
theorem zL7(b:Board)(k:Nat):∀ l,zAz b (k+l)=(zAz b k).bind fun x=>zAz x l:=by
 intro l
 induction l with
 | zero=>cases h:zAz b k<;>simp[h]<;>rfl
 | succ l ih =>
  show(match zAz b (k+l) with|some x=>if zC2 x then some (zGf x) else none|none=>none)=_
  rw[ih];cases h:zAz b k with
  | none=>rfl
  | some y=>rfl
theorem zIz{x:Board}{n:Int}(h:0 < (zAy x n).Boxes.length):∃ (N:Nat) (z:Board),n=N/\N<=10/\zE2 (zAy x n)=true/\zAy x ((N / 2:Nat):Int)=z/\zAy z ((N - N / 2:Nat):Int)=zAy x n/\zAy x 0=x:=by
 cases hb:zE2 x with
 | false=>rw[zBp (.inl hb)] at h;exact absurd h (Nat.lt_irrefl _)
 | true =>
  cases hi:zA8 n 0 10 with
  | false=>rw[zBp (.inr hi)] at h;exact absurd h (Nat.lt_irrefl _)
  | true =>
   obtain⟨h1,h2⟩:=zA5.1 hi;obtain⟨N,rfl⟩:∃ N:Nat,n=N:=⟨n.toNat,by omega⟩
   have hN:N<=10:=by omega
   cases hr:zAz x N with
   | none=>rw[zDl hr] at h;exact absurd h (Nat.lt_irrefl _)
   | some y =>
    have e:=zBq hb hN hr;have hs:N / 2+(N - N / 2)=N:=by omega
    have ha:=zL7 x (N / 2) (N - N / 2);rw[hs,hr] at ha;cases hz:zAz x (N / 2) with
    | none=>rw[hz] at ha;cases ha
    | some z =>
     rw[hz] at ha;replace ha:zAz z (N - N / 2)=some y:=ha.symm;have hzv:=zB2.2 (zEx (zB2.1 hb) hz).1;exact⟨N,z,rfl,hN,by rw[e];exact zB2.2 (zEx (zB2.1 hb) hr).1,zBq hb (by omega) hz,by rw[e];exact zBq hzv (by omega) ha,zBq (n:=0) hb (by omega) rfl⟩
theorem zNv{xs ys:List Machine}(hp:xs.map (·.Tick)=ys.map (·.Tick)){k:Nat}{m:Machine}(hm:ys[k]? = some m):∃ m',xs[k]? = some m'/\m'.Tick=m.Tick:=by
 have e:=congrArg (fun l=>l[k]?) hp
 simp only[List.getElem?_map,hm,Option.map_some] at e;cases h:xs[k]? with
 | none=>rw[h] at e;cases e
 | some m'=>rw[h] at e;exact⟨m',rfl,Option.some.inj e⟩
theorem M.frB_all{x:Board}(h:0 < (zGg x).Boxes.length):zE2 (zGg x)=true/\(zGg x).Boxes.length=x.Boxes.length/\(zGg ⟨x.Boxes,[]⟩).Boxes.length=x.Boxes.length /\
  ∀ (k:Nat) (m:Machine),x.Boxes[k]? = some m->zBj m/\(m.Tick+zGe m<=100000/\zGe m<=240)/\(∃ m':Machine,(zGg x).Boxes[k]? = some m'/\m'.Tick=m.Tick+zGe m)/\(zGg ⟨x.Boxes,[]⟩).Boxes[k]? = some (zI9 m (zGe m)):=by
 cases hb:zE2 x with
 | false=>rw[zFi (.inl hb)] at h;exact absurd h (Nat.lt_irrefl _)
 | true =>
  cases ho:zC2 x with
  | false=>rw[zFi (.inr ho)] at h;exact absurd h (Nat.lt_irrefl _)
  | true =>
   have hv:=zB2.1 hb;have hr:=zEo hv ho;rw[zGh hb ho];have hb2:=zN7 hb;have ho2:zC2 ⟨x.Boxes,[]⟩=true:=ho;rw[zGh hb2 ho2];have e2:(zGf ⟨x.Boxes,[]⟩).Boxes=x.Boxes.map fun m=>zBd m (zGe m):=rfl
   refine⟨zB2.2 (zM1 hv ho),zI5 hv ho,by rw[e2];simp,fun k m hm=>?_⟩
   have hmv:=hv.box m (List.mem_of_getElem? hm);have htk:=zD6.1 ho m (List.mem_of_getElem? hm);have hfl:=zLa hmv;have hrun:=zDn hmv (zGe m) htk;refine⟨hmv,⟨htk,hfl.2⟩,?_,?_⟩
   ·have h3:=(zFv hr (zEc x).Wires.length (Nat.le_refl _)).2.2;obtain⟨m',h4,h5⟩:=zNv (k:=k) (m:=zBd m (zGe m)) h3 (by show(x.Boxes.map _)[k]? = _;rw[List.getElem?_map,hm];rfl)
    exact⟨m',h4,h5.trans hrun.2.1⟩
   ·rw[e2,List.getElem?_map,hm];have h6:zC9 m (zGe m:Int) 400=true:=zDx.2 ⟨hmv,⟨by omega,by omega⟩,by omega⟩
    show some (zBd m (zGe m))=_
    rw[zFx h6]
def zCi:List Int->List Int->Nat
 | a::l,b::r=>(if a=b then 0 else 1)+zCi l r
 | _,_=>0
def zB5:List Core->List Core->Nat
 | a::l,b::r=>zCi a.Cells b.Cells+zB5 l r
 | _,_=>0
def zBe:List Machine->List Machine->Nat
 | a::l,b::r=>zB5 a.Cores b.Cores+zBe l r
 | _,_=>0
theorem zMp(a:List Int):zCi a a=0:=by induction a<;>simp_all [zCi]
theorem zLd(a:List Core):zB5 a a=0:=by induction a<;>simp_all [zB5,zMp]
theorem zLf(a:List Machine):zBe a a=0:=by induction a<;>simp_all [zBe,zLd]
theorem zNf(n:Int):∀ (a b:List Int) (z:Nat),zCi a (b.set z n)<=zCi a b+1:=by
 intro a
 induction a with
 | nil=>intro b z;cases b<;>simp[zCi]
 | cons a l ih =>
  intro b z;cases b with
  | nil=>simp[zCi]
  | cons b r =>
   cases z with
   | zero=>simp only[List.set_cons_zero,zCi];split<;>split<;>omega
   | succ z=>simp only[List.set_cons_succ,zCi];have:=ih r z;omega
theorem zMn(z:Nat)(n:Int):∀ (a b:List Core) (y:Nat) (c:Core),b[y]? = some c->zB5 a (b.set y { c with Cells:=c.Cells.set z n })<=zB5 a b+1:=by
 intro a
 induction a with
 | nil=>intro b y c _;cases b<;>simp[zB5]
 | cons a l ih =>
  intro b y c hc;cases b with
  | nil=>simp[zB5]
  | cons b r =>
   cases y with
   | zero =>
    simp at hc;subst hc;simp only[List.set_cons_zero,zB5]
    have:=zNf n a.Cells b.Cells z
    omega
   | succ y=>simp only[List.set_cons_succ,zB5];have:=ih r y c (by simpa using hc);omega
theorem zMo(y z:Nat)(n:Int):∀ (a b:List Machine) (x:Nat) (m:Machine) (c:Core),b[x]? = some m->m.Cores[y]? = some c->zBe a (b.set x { m with Cores:=m.Cores.set y { c with Cells:=c.Cells.set z n } })<=zBe a b+1:=by
 intro a
 induction a with
 | nil=>intro b x m c _ _;cases b<;>simp[zBe]
 | cons a l ih =>
  intro b x m c hm hc;cases b with
  | nil=>simp[zBe]
  | cons b r =>
   cases x with
   | zero =>
    simp at hm;subst hm;simp only[List.set_cons_zero,zBe]
    have:=zMn z n a.Cores b.Cores y c hc
    omega
   | succ x=>simp only[List.set_cons_succ,zBe];have:=ih r x m c (by simpa using hm) hc;omega
theorem zMq{a b:List Int}{k:Nat}{u v:Int}(h1:a[k]? = some u)(h2:b[k]? = some v):zCi (a.take (k+1)) (b.take (k+1))=zCi (a.take k) (b.take k)+(if u=v then 0 else 1):=by
 induction a generalizing b k with
 | nil=>simp at h1
 | cons a l ih =>
  cases b with
  | nil=>simp at h2
  | cons b r =>
   cases k with
   | zero=>simp at h1 h2;subst h1;subst h2;simp[zCi]
   | succ k=>simp only[List.take_succ_cons,zCi];rw[ih (by simpa using h1) (by simpa using h2)];omega
theorem zLe{a b:List Core}{k:Nat}{u v:Core}(h1:a[k]? = some u)(h2:b[k]? = some v):zB5 (a.take (k+1)) (b.take (k+1))=zB5 (a.take k) (b.take k)+zCi u.Cells v.Cells:=by
 induction a generalizing b k with
 | nil=>simp at h1
 | cons a l ih =>
  cases b with
  | nil=>simp at h2
  | cons b r =>
   cases k with
   | zero=>simp at h1 h2;subst h1;subst h2;simp[zB5]
   | succ k=>simp only[List.take_succ_cons,zB5];rw[ih (by simpa using h1) (by simpa using h2)];omega
theorem zLg{a b:List Machine}{k:Nat}{u v:Machine}(h1:a[k]? = some u)(h2:b[k]? = some v):zBe (a.take (k+1)) (b.take (k+1))=zBe (a.take k) (b.take k)+zB5 u.Cores v.Cores:=by
 induction a generalizing b k with
 | nil=>simp at h1
 | cons a l ih =>
  cases b with
  | nil=>simp at h2
  | cons b r =>
   cases k with
   | zero=>simp at h1 h2;subst h1;subst h2;simp[zBe]
   | succ k=>simp only[List.take_succ_cons,zBe];rw[ih (by simpa using h1) (by simpa using h2)];omega
theorem zNa{b:Board}(h:zGd b):∀ k,k<=b.Wires.length->zBe b.Boxes (zD3 b k)<=k:=by
 intro k
 induction k with
 | zero=>intro _;show zBe b.Boxes b.Boxes<=0;rw[zLf];exact Nat.le_refl _
 | succ k ih =>
  intro hk;obtain⟨v,hv⟩:∃ v,b.Wires[k]? = some v:=⟨_,List.getElem?_eq_getElem (by omega)⟩
  obtain⟨X,Y,Z,m,c,-,-,-,hm,hc,hz,e⟩:=h.dst hv;rw[e];have h1:=zMo Y Z (zDc b v) b.Boxes (zD3 b k) X m c hm hc;have h2:=ih (by omega)
  omega
theorem zJu(a:List Int):∀ (b:List Int) (k:Nat),zCi (a.take k) (b.take k)<=zCi a b:=by
 induction a with
 | nil=>intro b k;cases k<;>cases b<;>simp[zCi]
 | cons a l ih =>
  intro b k;cases k with
  | zero=>simp[zCi]
  | succ k =>
   cases b with
   | nil=>simp[zCi]
   | cons b r=>simp only[List.take_succ_cons,zCi];have:=ih r k;omega
theorem zJ1(a:List Core):∀ (b:List Core) (k:Nat),zB5 (a.take k) (b.take k)<=zB5 a b:=by
 induction a with
 | nil=>intro b k;cases k<;>cases b<;>simp[zB5]
 | cons a l ih =>
  intro b k;cases k with
  | zero=>simp[zB5]
  | succ k =>
   cases b with
   | nil=>simp[zB5]
   | cons b r=>simp only[List.take_succ_cons,zB5];have:=ih r k;omega
theorem zLc(a:List Core):∀ b:List Core,zB5 (a.take a.length) (b.take a.length)=zB5 a b:=by
 induction a with
 | nil=>intro b;cases b<;>simp[zB5]
 | cons a l ih =>
  intro b;cases b with
  | nil=>simp[zB5]
  | cons b r=>simp only[List.length_cons,List.take_succ_cons,zB5,ih]
theorem zFa(a:List Machine):∀ (b:List Machine) (k:Nat),zBe (a.take k) (b.take k)<=zBe a b:=by
 induction a with
 | nil=>intro b k;cases k<;>cases b<;>simp[zBe]
 | cons a l ih =>
  intro b k;cases k with
  | zero=>simp[zBe]
  | succ k =>
   cases b with
   | nil=>simp[zBe]
   | cons b r=>simp only[List.take_succ_cons,zBe];have:=ih r k;omega
structure M.CW (x y:Board):Prop where
 bv:zE2 y=true
 nw:x.Wires.length<=6
 ham:zBe x.Boxes y.Boxes<=x.Wires.length
 nb:x.Boxes.length<=3
 wire:∀ (k:Nat) (v:Wire),x.Wires[k]? = some v->∃ (X Y Z X2 Y2 Z2:Nat) (m m2:Machine) (c c2:Core),(v.From=X/\v.FromPart=Y/\v.FromCell=Z)/\(v.To=X2/\v.ToPart=Y2/\v.ToCell=Z2)/\x.Boxes[X]? = some m/\m.Cores[Y]? = some c/\y.Boxes[X2]? = some m2/\m2.Cores[Y2]? = some c2/\c2.Cells[Z2]? = c.Cells[Z]? /\ Z < c.Cells.length/\Z2 < c2.Cells.length
 box:∀ (k:Nat) (m:Machine),x.Boxes[k]? = some m->m.Cores.length<=5/\∃ m2,y.Boxes[k]? = some m2/\∀ (j:Nat) (c:Core),m.Cores[j]? = some c->c.Cells.length<=8/\∃ c2,m2.Cores[j]? = some c2/\c2.Cells.length=c.Cells.length
theorem zBj.cells8'{m:Machine}(h:zBj m){k:Nat}{c:Core}(hc:m.Cores[k]? = some c):c.Cells.length<=8:=by
 obtain⟨c1,p1,q1,a1,a2,a3,a4,_⟩:=h.at (zA3 hc);rw[hc] at a1;cases a1;have h1:=(zAg.1 a4).1;have h2:=zA5.1 (zGm h.pg.set (List.mem_of_getElem? a3)).2;omega
def zLb(xs:List Machine)(X Y Z:Nat):Option Int:=(xs[X]?).bind fun m=>(m.Cores[Y]?).bind fun c=>c.Cells[Z]?
theorem zM3{xs:List Machine}{X Y Z:Nat}{m:Machine}{c:Core}(h1:xs[X]? = some m)(h2:m.Cores[Y]? = some c):zLb xs X Y Z=c.Cells[Z]?:=by
 unfold zLb;rw[h1];simp only[Option.bind_some];rw[h2];rfl
theorem zNe{xs:List Machine}{X Y Z X2 Y2 Z2:Nat}{n:Int}{m:Machine}{c:Core}(h1:xs[X]? = some m)(h2:m.Cores[Y]? = some c)(hne:¬ (X=X2/\Y=Y2/\Z=Z2)) :
  zLb (xs.set X { m with Cores:=m.Cores.set Y { c with Cells:=c.Cells.set Z n } }) X2 Y2 Z2=zLb xs X2 Y2 Z2:=by
 by_cases hX:X=X2
 ·subst hX;have e1:(xs.set X { m with Cores:=m.Cores.set Y { c with Cells:=c.Cells.set Z n } })[X]? = some { m with Cores:=m.Cores.set Y { c with Cells:=c.Cells.set Z n } }:=by
   rw[List.getElem?_set_self (zA3 h1)]
  unfold zLb;rw[e1,h1];simp only[Option.bind_some];by_cases hY:Y=Y2
  ·subst hY;rw[List.getElem?_set_self (zA3 h2),h2];simp only[Option.bind_some];rw[List.getElem?_set_ne (fun e=>hne ⟨rfl,rfl,e⟩)]
  ·rw[List.getElem?_set_ne hY]
 ·unfold zLb;rw[List.getElem?_set_ne hX]
theorem zN9{b:Board}(h:zGd b){k:Nat}{v:Wire}(hv:b.Wires[k]? = some v):∀ n,k < n->n<=b.Wires.length->zLb (zD3 b n) v.To.toNat v.ToPart.toNat v.ToCell.toNat=some (zDc b v):=by
 intro n
 induction n with
 | zero=>intro hk _;omega
 | succ n ih =>
  intro hk hn;obtain⟨v2,hv2⟩:∃ v,b.Wires[n]? = some v:=⟨_,List.getElem?_eq_getElem (by omega)⟩
  obtain⟨X,Y,Z,m,c,e1,e2,e3,hm,hc,hz,e⟩:=h.dst hv2;rw[e];by_cases hkn:k=n
  ·subst hkn;rw[hv] at hv2;cases hv2;rw[e1,e2,e3];simp only[Int.toNat_natCast];refine(zM3 (List.getElem?_set_self (zA3 hm)) (List.getElem?_set_self (zA3 hc))).trans ?_;simp only;exact List.getElem?_set_self hz
  ·rw[zNe hm hc];·exact ih (by omega) (by omega)
   ·rintro⟨f1,f2,f3⟩;have h3:=(h.ok n v2 hv2).2.2;rw[List.any_eq_false] at h3;obtain⟨X',Y',Z',_,_,g1,g2,g3,_⟩:=h.dst hv;refine h3 v ?_ ?_
    ·refine List.mem_of_getElem? (i:=k) ?_;rw[List.getElem?_take_of_lt (by omega)]
     exact hv
    ·rw[g1] at f1;rw[g2] at f2;rw[g3] at f3;simp only[Int.toNat_natCast] at f1 f2 f3;simp[zC3,e1,e2,e3,g1,g2,g3,f1,f2,f3]
theorem M.CW.of{x:Board}(hb:zE2 x=true):M.CW x (zCj x):=by
 have h:=zB2.1 hb;rw[zCy hb];have h2:=zNb h;have hk:=zFv h x.Wires.length (Nat.le_refl _);refine⟨zB2.2 h2,h.nw,zNa h _ (Nat.le_refl _),h.nb,fun k v hv=>?_,fun k m hm=>?_⟩
 ·obtain⟨X,Y,Z,m,c,e1,e2,e3,hm,hc,hz,hv1,-⟩:=h.src hv;obtain⟨X2,Y2,Z2,m2,c2,f1,f2,f3,hm2,hc2,hz2⟩:=zEy.1 (h2.ok k v hv).2.1;have hd:=zN9 h hv x.Wires.length (zA3 hv) (Nat.le_refl _);rw[f1,f2,f3] at hd;simp only[Int.toNat_natCast] at hd;refine⟨X,Y,Z,X2,Y2,Z2,m,m2,c,c2,⟨e1,e2,e3⟩,⟨f1,f2,f3⟩,hm,hc,hm2,hc2,?_,hz,hz2⟩;rw[hv1,<- hd];exact(zM3 hm2 hc2).symm
 ·have hmv:=h.box m (List.mem_of_getElem? hm);obtain⟨m2,g1,g2⟩:=zKf (ys:=x.Boxes) hk.2.1 hm;refine⟨by have:=hmv.nc;have:=zAr hmv.pg.set;omega,m2,g1,fun j c hc=>?_⟩
  exact⟨hmv.cells8' hc,zBj.shape hmv (hk.1 m2 (List.mem_of_getElem? g1)) g2 hc⟩
set_option maxHeartbeats 8000000
set_option maxRecDepth 100000
theorem lawBoardRun(v:Value)(xs:List By)(w:World)(h:Rs w v xs) :
  Calls Tryz.prog 4 #[v] w fun e w'=>e = .returned (.bool true)/\Ext w w':=by
 obtain⟨a,c,rfl,hl⟩:=h.form;have H:=zh h;clear h;by_cases hx:xs.length<=1048576
 case neg =>
  have hx2:1048576 < xs.length:=by omega
  clear hx;go_enter Tryz.func4,Tryz.ntmps4;go_wp2;go_ret;exact⟨rfl,zr w⟩
 go_enter Tryz.func4,Tryz.ntmps4;go_upto_region 4 with (go_at_call 13;refine(zH1 _ _ _ H.out).mono ?_;rintro e w1 ⟨v1,x,n,rfl,hv,htt,hn,he⟩;obtain⟨p0,q0,p1,q1,rfl,-⟩:=hv.openBoard;have HV:=zh hv;have HTT:=zh htt;have HE:=zh he;clear hv htt he)
 obtain⟨A,hA⟩:∃ A,A=w1.heap.size:=⟨_,rfl⟩;refine zA1 (fun u=>Ext w1 u/\Bk u A [.slice p0 x.Boxes.length q0,.slice p1 x.Wires.length q1] 26) ⟨(zr _).alloc _,by rw[hA];exact Bk.new _ _ _⟩ ?_
 rw[<- hA];rintro W1 ⟨e1,kA⟩;clear hA H;replace HV:=zh (HV.out.ext e1);replace HE:=zh (HE.out.tr e1);have KA:=zh kA;clear e1 kA;have E:=zh (zr W1);have ht9:GT.tot x=GT.tot x.Boxes+GT.tot x.Wires:=rfl;have hxb:x.Boxes.length<=1000000:=by have:=zAk (xs:=x.Boxes);have:=HTT.out;omega
 have hxw:x.Wires.length<=1000000:=by have:=zAk (xs:=x.Wires);have:=HTT.out;omega
 clear ht9;obtain⟨hn1,hn2⟩:=hn;have hrn:rng n:=zAf (by omega) (by omega)
 obtain⟨y,hy⟩:∃ y,zAy x n=y:=⟨_,rfl⟩;have CI:=zh (fun(v:Value) (u:World) (h:Rv u v x)=>zCd v x n u h)
 have CS:=zh (fun(v:Value) (u:World) (h:Rv u v x)=>zK3 v x n u h)
 rw[hy] at CI CS;have HY:=zh hy;clear hy;obtain⟨fa0,fa1,faL⟩:=Bk.j2 (KA.out.ext E.out);go_upto_region 5 with (go_at_call 14;refine(CI.out _ _ HV.out).mono ?_;rintro e w2 ⟨v2,rfl,ho,he⟩;obtain⟨b0,d0,b1,d1,rfl,-⟩:=ho.rv.openBoard;have HR:=zh ho.rv;replace E:=zh (E.out.tr he);clear ho he)
 obtain⟨B,hB⟩:∃ B,B=w2.heap.size:=⟨_,rfl⟩;refine zA1 (fun u=>Ext w2 u/\Bk u B [.slice b0 y.Boxes.length d0,.slice b1 y.Wires.length d1] 26) ⟨(zr _).alloc _,by rw[hB];exact Bk.new _ _ _⟩ ?_
 rw[<- hB];rintro W3 ⟨eb,kb⟩;clear hB;have EB:=zh (E.out.tr eb);replace HV:=zh (HV.out.ext EB.out);replace KA:=zh (KA.out.ext EB.out);replace HR:=zh (HR.out.ext eb);replace HE:=zh (HE.out.tr EB.out);have KB:=zh kb;clear eb kb EB E;have E:=zh (zr W3);clear fa0 fa1 faL;obtain⟨ga0,ga1,gaL⟩:=Bk.j2 (KA.out.ext E.out);obtain⟨gb0,gb1,gbL⟩:=Bk.j2 (KB.out.ext E.out)
 go_region_held3 (fun u=>u.cell? ⟨A,0,none⟩=some (.slice p0 x.Boxes.length q0)/\u.cell? ⟨A,1,none⟩=some (.slice p1 x.Wires.length q1)/\u.cell? ⟨B,0,none⟩=some (.slice b0 y.Boxes.length d0)/\u.cell? ⟨B,1,none⟩=some (.slice b1 y.Wires.length d1))
  (go_keep)
  (first
   | (go_at_call 15;refine(CS.out _ _ (HV.out.ext E.out.drew)).mono ?_;rintro e wa ⟨v4,rfl,ho,he⟩;replace E:=zh (E.out.drew.tr he);have HR4:=zh ho.rv;clear ho;obtain⟨r0a0,r0a1,r0aL⟩:=Bk.j2 (KA.out.ext E.out);obtain⟨r0b0,r0b1,r0bL⟩:=Bk.j2 (KB.out.ext E.out);clear he)
   | (go_at_call 8;refine(law_sameBoard _ _ y _ (HR.out.ext E.out) HR4.out).mono ?_;rintro e wb ⟨rfl,he⟩;replace E:=zh (E.out.tr he);obtain⟨r1a0,r1a1,r1aL⟩:=Bk.j2 (KA.out.ext E.out);obtain⟨r1b0,r1b1,r1bL⟩:=Bk.j2 (KB.out.ext E.out);clear he;clear r0a0 r0a1 r0b0 r0b1 r0aL r0bL))
 clear ga0 ga1 gb0 gb1 gaL gbL;clear CI CS;by_cases hy0:0 < y.Boxes.length
 case neg =>
  have hb0:((y.Boxes.length:Int) == 0)=true:=by rw[show y.Boxes.length=0 by omega];rfl
  obtain⟨ha0,ha1,haL⟩:=Bk.j2 (KB.out.ext E.out);go_wp2_with (go_at_call 11;refine(law_alive _).mono ?_;rintro e w9 ⟨rfl,he⟩;replace E:=zh (E.out.tr he);clear he)
  go_ret;exact⟨rfl,HE.out.tr E.out⟩
 have hb0:((y.Boxes.length:Int) == 0)=false:=by rw[beq_eq_false_iff_ne];omega
 obtain⟨N,z,rfl,hN,hyv,h1,h2,h3⟩:=zIz (x:=x) (n:=n) (by rw[HY.out];exact hy0)
 rw[HY.out] at hyv h2;have HYV:=zh hyv;obtain⟨hf,hhf⟩:∃ q:Nat,q=N / 2:=⟨_,rfl⟩;rw[<- hhf] at h1 h2;have hfl:hf<=N:=by omega
 have hdiv:(N:Int).tdiv 2=(hf:Int):=by rw[hhf];exact(Int.ofNat_tdiv N 2).symm
 have hdiv2:(N:Int) / 2=(hf:Int):=by omega
 have hcast:((N - hf:Nat):Int)=(N:Int) - hf:=by omega
 rw[hcast] at h2;have hsub:IntKind.i64.wrap ((N:Int) - (hf:Int))=(N:Int) - (hf:Int):=zH7 (by omega) (by omega)
 clear hhf hcast;have CR:=zh (fun(v:Value) (u:World) (h:Rv u v x)=>zCd v x hf u h)
 have CH:=zh (fun(v:Value) (u:World) (h:Rv u v z)=>zCd v z ((N:Int) - hf) u h)
 have C0:=zh (fun(v:Value) (u:World) (h:Rv u v x)=>zCd v x 0 u h)
 rw[h1] at CR;rw[h2] at CH;rw[h3] at C0;clear h1 h2 h3 hyv HY;obtain⟨ha0,ha1,haL⟩:=Bk.j2 (KA.out.ext E.out);obtain⟨hb0,hb1,hbL⟩:=Bk.j2 (KB.out.ext E.out);go_upto_region 10 with (fail)
 refine wp_region_held_drew (S:=fun u=>u.cell? ⟨A,0,none⟩=some (.slice p0 x.Boxes.length q0)/\u.cell? ⟨A,1,none⟩=some (.slice p1 x.Wires.length q1)/\u.cell? ⟨B,0,none⟩=some (.slice b0 y.Boxes.length d0)/\u.cell? ⟨B,1,none⟩=some (.slice b1 y.Wires.length d1)) (by kernel_rfl) ?_ (fun hHeld=>?_)
 ·(try dsimp only)<;>go_keep
 refine hT 0 ?_;refine hC 1 fun K hK=>?_
 go_simp;(go_at_call 12;refine(zB6 _ y _ (HR.out.ext E.out.drew)).mono ?_;rintro e wa ⟨rfl,he⟩;replace E:=zh (E.out.drew.tr he);rw[HYV.out];obtain⟨r0a0,r0a1,r0aL⟩:=Bk.j2 (KA.out.ext E.out);obtain⟨r0b0,r0b1,r0bL⟩:=Bk.j2 (KB.out.ext E.out);clear he);try go_wp2_with fail
 refine hK.out _ _ ?_ (fun hHeld=>?_)
 ·(try dsimp only)<;>go_keep
 clear hK K;try simp only[Act.put,zs]
 refine hT 2 ?_;refine hT 3 ?_;refine hT 4 ?_;refine hT 6 ?_;refine hT 7 ?_;refine hT 8 ?_;refine hT 10 ?_;refine hC 5 fun K hK=>?_
 go_simp;(go_at_call 14;refine(CR.out _ _ (HV.out.ext E.out)).mono ?_;rintro e wb ⟨v7,rfl,ho,he⟩;replace E:=zh (E.out.tr he);clear CR;have HO7:=zh ho.rv;clear ho;obtain⟨r1a0,r1a1,r1aL⟩:=Bk.j2 (KA.out.ext E.out);obtain⟨r1b0,r1b1,r1bL⟩:=Bk.j2 (KB.out.ext E.out);clear he;clear r0a0 r0a1 r0b0 r0b1 r0aL r0bL);try go_wp2_with fail
 refine hK.out _ _ ?_ (fun hHeld=>?_)
 ·(try dsimp only)<;>go_keep
 clear hK K;try simp only[Act.put,zs]
 refine hC 9 fun K hK=>?_
 go_simp;(go_at_call 14;refine(CH.out _ _ HO7.out).mono ?_;rintro e wc ⟨v8,rfl,ho,he⟩;replace E:=zh (E.out.tr he);clear CH;have HO8:=zh ho.rv;clear ho;clear HO7;obtain⟨r2a0,r2a1,r2aL⟩:=Bk.j2 (KA.out.ext E.out);obtain⟨r2b0,r2b1,r2bL⟩:=Bk.j2 (KB.out.ext E.out);clear he;clear r1a0 r1a1 r1b0 r1b1 r1aL r1bL);try go_wp2_with fail
 refine hK.out _ _ ?_ (fun hHeld=>?_)
 ·(try dsimp only)<;>go_keep
 clear hK K;try simp only[Act.put,zs]
 refine hC 11 fun K hK=>?_
 go_simp;(go_at_call 8;refine(law_sameBoard _ _ y _ HO8.out (HR.out.ext E.out)).mono ?_;rintro e wd ⟨rfl,he⟩;replace E:=zh (E.out.tr he);clear HO8;obtain⟨r3a0,r3a1,r3aL⟩:=Bk.j2 (KA.out.ext E.out);obtain⟨r3b0,r3b1,r3bL⟩:=Bk.j2 (KB.out.ext E.out);clear he;clear r2a0 r2a1 r2b0 r2b1 r2aL r2bL);try go_wp2_with fail
 refine hK.out _ _ ?_ (fun hHeld=>?_)
 ·(try dsimp only)<;>go_keep
 clear hK K;try simp only[Act.put,zs]
 refine hT 12 ?_;refine hT 13 ?_;refine hT 14 ?_;refine hT 16 ?_;refine hC 15 fun K hK=>?_
 go_simp;(go_at_call 14;refine(C0.out _ _ (HV.out.ext E.out)).mono ?_;rintro e we ⟨v9,rfl,ho,he⟩;replace E:=zh (E.out.tr he);clear C0;have HO9:=zh ho.rv;clear ho;obtain⟨r4a0,r4a1,r4aL⟩:=Bk.j2 (KA.out.ext E.out);obtain⟨r4b0,r4b1,r4bL⟩:=Bk.j2 (KB.out.ext E.out);clear he;clear r3a0 r3a1 r3b0 r3b1 r3aL r3bL);try go_wp2_with fail
 refine hK.out _ _ ?_ (fun hHeld=>?_)
 ·(try dsimp only)<;>go_keep
 clear hK K;try simp only[Act.put,zs]
 refine hC 17 fun K hK=>?_
 go_simp;(go_at_call 8;refine(law_sameBoard _ _ x _ HO9.out (HV.out.ext E.out)).mono ?_;rintro e wf ⟨rfl,he⟩;replace E:=zh (E.out.tr he);obtain⟨r5a0,r5a1,r5aL⟩:=Bk.j2 (KA.out.ext E.out);obtain⟨r5b0,r5b1,r5bL⟩:=Bk.j2 (KB.out.ext E.out);clear he;clear r4a0 r4a1 r4b0 r4b1 r4aL r4bL);try go_wp2_with fail
 refine hK.out _ _ ?_ (fun hHeld=>?_)
 ·(try dsimp only)<;>go_keep
 clear hK K;try simp only[Act.put,zs]
 refine hT 18 ?_;refine hT 19 ?_;refine wpAnyH_done (by kernel_rfl) ?_ _
 go_wp2;go_ret;exact⟨rfl,HE.out.tr E.out⟩
end Sk
