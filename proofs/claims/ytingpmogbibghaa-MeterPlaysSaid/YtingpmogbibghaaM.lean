/- What functions of the program compute, and that the model's run computes it. Conditions: as stated. -/
import Derived.Test.YtingpmogbibghaaKo
import Derived.Test.YtingpmogbibghaaChecked
import Derived.KernelRfl
open Go.Ev Go
noncomputable section
namespace Go.Proofs.Ytingpmogbibghaa.M
abbrev prog:Program:=Try.prog
theorem iV:prog.follows .mixedOrders=true:=by kernel_rfl
theorem kx:Mi:=G2 fun _=>rfl
def QC:pT:=fun f=>if f=3 then(true,[])else if f=4 then(true,[])else if f=5 then(true,[])else if f=6 then(true,[])else if f=14 then(true,[])else if f=15 then(true,[])else if f=16 then(true,[])else if f=17 then(true,[])else if f=18 then(true,[])else if f=19 then(true,[])else if f=20 then(true,[])else if f=21 then(true,[])else if f=22 then(true,[])else if f=23 then(true,[])else if f=26 then(true,[])else if f=29 then(true,[])else if f=30 then(true,[])else if f=31 then(true,[])else if f=32 then(true,[])else if f=33 then(true,[])else if f=36 then(false,[true,false])else if f=37 then(false,[true,false])else if f=38 then(false,[true,false])else if f=39 then(false,[true,false])else if f=40 then(true,[])else if f=41 then(true,[])else if f=42 then(true,[])else if f=61 then(true,[])else if f=79 then(true,[])else if f=80 then(true,[])else if f=81 then(true,[])else if f=83 then(true,[])else if f=84 then(true,[])else if f=85 then(true,[])else if f=86 then(true,[])else if f=87 then(true,[true,false])else if f=89 then(true,[])else if f=90 then(true,[])else if f=91 then(true,[])else if f=126 then(true,[])else if f=127 then(true,[])else if f=128 then(true,[])else if f=129 then(true,[true,false,false])else if f=130 then(true,[])else if f=148 then(true,[])else if f=149 then(true,[true,false,false,false])else if f=150 then(true,[true,false,false,false,false])else if f=162 then(true,[true,false,false,false,false])else if f=163 then(true,[true,false,false,false,false])else if f=165 then(true,[true,false,false,false,false])else if f=176 then(true,[true,false,false,false,false])else(false,[])
@[reducible] def dR:Type:=Int×Int
@[reducible] def dR.T2 (x:dR):Int:=x.1
@[reducible] def dR.N (x:dR):Int:=x.2
@[reducible] def dG:Type:=Nat×Nat×Int×Int
@[reducible] def dG.BP (x:dG):Nat:=x.1
@[reducible] def dG.value (x:dG):Nat:=x.2.1
@[reducible] def dG.lN (x:dG):Int:=x.2.2.1
@[reducible] def dG.sA (x:dG):Int:=x.2.2.2
@[reducible] def y0:Ty:=.st (.pr (.f .f64) (.pr (.f .f64) (.pr (.i .i64) (.i .i64))))
@[reducible] def dN:Type:=Int×Int×Int×Int
@[reducible] def dN.x6 (x:dN):Int:=x.1
@[reducible] def dN.Value (x:dN):Int:=x.2.1
@[reducible] def dN.l6 (x:dN):Int:=x.2.2.1
@[reducible] def dN.w6 (x:dN):Int:=x.2.2.2
@[reducible] def y1:Ty:=.st (.pr (.i .u64) (.pr (.i .u64) (.pr (.i .i64) (.i .i64))))
@[reducible] def y2:Ty:=.st (.pr (.i .i64) (.i .i64))
theorem Jn:gg prog 78 (rb true):=yh (by kernel_rfl) (by kernel_rfl)
def kY(n_0:Int):Option Nat:=
 (lJ n_0).bind fun r1=>
 some r1
def JW:pE:=⟨[(false,.x (.i .u64))],[([.x (.f .f64)],[])],true,[],fun p=>match p with|n_0=>kY n_0⟩
theorem J1:gg prog 14 JW:=iF iV kx (QC:=QC) (np:=1) (an:=[]) (.cons Jn .nil) (by kernel_rfl) (by kernel_rfl)
def I9:pT:=fun f=>([16,17,20,29,33,40,42,79,80,81,87,89,90,91,126,127,129,130,148,149,150,162,176].contains f,(bv [(36,[true]),(38,[true]),(87,[true]),(129,[true]),(149,[true]),(150,[true]),(162,[true]),(176,[true])] f).getD [])
def mg:Option Bool:=some true
theorem oY:mg=some true:=rfl
def JU:pE:=⟨[],[([.x .b],[])],true,[],fun _=>some true⟩
theorem J0:gg prog 16 JU:=BT (QC:=I9) (ex:=Ju 82 78) (d:=200) iV (Ha (by kernel_rfl) (by kernel_rfl) (by kernel_rfl) (by kernel_rfl)) (by kernel_rfl)
def jM(x_0:Nat):Option Bool:=some (!(wT .f64 x_0 x_0))
def JT:pE:=⟨[(false,.x (.f .f64))],[([.x .b],[])],true,[],fun p=>match p with|x_0=>jM x_0⟩
theorem JZ:gg prog 80 JT:=iF iV kx (QC:=QC) (np:=1) (an:=[]) .nil (by kernel_rfl) (by kernel_rfl)
def iw(x_0:Nat):Option Nat:=
 bif(!(wT .f64 x_0 x_0))then((lJ 9221120237041090561).bind fun r1=>
 some r1)else
 (some x_0)
def JS:pE:=⟨[(false,.x (.f .f64))],[([.x (.f .f64)],[])],true,[],fun p=>match p with|x_0=>iw x_0⟩
theorem JJ:gg prog 81 JS:=iF iV kx (QC:=QC) (np:=1) (an:=[]) (.cons Jn .nil) (by kernel_rfl) (by kernel_rfl)
def mI(old_0:Nat)(x_1:Nat)(share_2:Nat):Option Nat:=
 (jM old_0).bind fun r1=>
 bif r1 then((iw x_1).bind fun r2=>
 some r2)else
 (((jM x_1).bind fun r3=>
 bif r3 then(some true)else
 ((jM share_2).bind fun r4=>
 some (r4||(H4 .f64 share_2 0||wT .f64 share_2 0))):Option Bool).bind fun b5=>
 bif b5 then(some old_0)else
 (bif(H5 .f64 share_2 4607182418800017408||wT .f64 share_2 4607182418800017408)then(some x_1)else
 ((iw (Dd .f64 (yf .f64 old_0 (E3 .f64 4607182418800017408 share_2)) (yf .f64 x_1 share_2))).bind fun r6=>
 some r6)))
def JR:pE:=⟨[(false,.x (.f .f64)),(false,.x (.f .f64)),(false,.x (.f .f64))],[([.x (.f .f64)],[])],true,[],fun p=>match p with|(old_0,x_1,share_2)=>mI old_0 x_1 share_2⟩
theorem JY:gg prog 17 JR:=iF iV kx (QC:=QC) (np:=3) (an:=[(8,{j:=some {vs:=[(14,.x .b)]}})]) (.cons JZ (.cons JJ .nil)) (by kernel_rfl) (by kernel_rfl)
def Kt(x_0:Nat):Option Bool:=some (H5 .f64 x_0 0||wT .f64 x_0 0)
def Lu:pE:=⟨[(false,.x (.f .f64))],[([.x .b],[])],true,[],fun p=>match p with|x_0=>Kt x_0⟩
theorem Lx:gg prog 18 Lu:=iF iV kx (QC:=QC) (np:=1) (an:=[]) .nil (by kernel_rfl) (by kernel_rfl)
def lF(n_0:Int)(span_1:Int):Option Nat:=
 (iw (AZ .f64 (FloatKind.nearest .f64 n_0) (FloatKind.nearest .f64 span_1))).bind fun r1=>
 some r1
def JQ:pE:=⟨[(false,.x (.i .i64)),(false,.x (.i .i64))],[([.x (.f .f64)],[])],true,[],fun p=>match p with|(n_0,span_1)=>lF n_0 span_1⟩
theorem JX:gg prog 20 JQ:=iF iV kx (QC:=QC) (np:=2) (an:=[]) (.cons JJ .nil) (by kernel_rfl) (by kernel_rfl)
theorem Jm:gg prog 82 (re true):=yi (by kernel_rfl) (by kernel_rfl)
def Mr(x_0:Nat):Option Int:=
 bif(!(wT .f64 x_0 x_0))then(some 9221120237041090561)else
 ((mN x_0).bind fun r1=>
 some r1)
def I8:pE:=⟨[(false,.x (.f .f64))],[([.x (.i .u64)],[])],true,[],fun p=>match p with|x_0=>Mr x_0⟩
theorem Jl:gg prog 19 I8:=iF iV kx (QC:=QC) (np:=1) (an:=[]) (.cons Jm .nil) (by kernel_rfl) (by kernel_rfl)
def eG(n_0:Int):Option Int:=
 bif decide ((n_0.tmod 9223372036854775808)>9218868437227405312)then(some 9221120237041090561)else
 (some n_0)
def I7:pE:=⟨[(false,.x (.i .u64))],[([.x (.i .u64)],[])],true,[],fun p=>match p with|n_0=>eG n_0⟩
theorem Ay:gg prog 22 I7:=iF iV kx (QC:=QC) (np:=1) (an:=[]) .nil (by kernel_rfl) (by kernel_rfl)
def I_:pT:=fun f=>(true,[])
def rp(n:Int):Int:=(eG n).getD 0
theorem pC(n:Int):eG n=some (rp n):=by unfold rp eG;generalize decide ((n.tmod 9223372036854775808)>9218868437227405312)=b;cases b<;>rfl
theorem yy(m:Nat)(h:nH .f64 m):rp (m:Int)=9221120237041090561:=by
 have h1:(9218868437227405312:Int)<(m:Int).tmod 9223372036854775808:=by have h2:=GY h;have h3:(m:Int).tmod 9223372036854775808=((m %9223372036854775808:Nat):Int):=rfl;omega
 unfold rp eG;rw[decide_eq_true h1];rfl
def jT(x:Nat):Option Int:=DD rp x
def I6:pE:=⟨[(false,.x (.f .f64))],[([.x (.i .u64)],[])],true,[],fun p=>match p with|x=>jT x⟩
theorem Il:gg prog 83 I6:=Fm (QC:=I_) iV (Hb (a:=82) (c:=22) (yj (by kernel_rfl) (by kernel_rfl)) (fun n=>Ay.2 n _ (pC n))) (fun m=>by kernel_rfl) yy
def lA(n_0:Int)(span_1:Int):Option Int:=
 (jT (AZ .f64 (FloatKind.nearest .f64 n_0) (FloatKind.nearest .f64 span_1))).bind fun r1=>
 some r1
def I5:pE:=⟨[(false,.x (.i .i64)),(false,.x (.i .i64))],[([.x (.i .u64)],[])],true,[],fun p=>match p with|(n_0,span_1)=>lA n_0 span_1⟩
theorem Jk:gg prog 21 I5:=iF iV kx (QC:=QC) (np:=2) (an:=[]) (.cons Ay (.cons Il .nil)) (by kernel_rfl) (by kernel_rfl)
def jc(n_0:Int):Option Int:=
 (eG n_0).bind fun r1=>
 bif(r1==9221120237041090561)then(some 0)else
 (bif(r1==18442240474082181120)then(some 1)else
 (bif decide (r1>9223372036854775808)then(some 2)else
 (bif(r1==9223372036854775808)then(some 3)else
 (bif(r1==0)then(some 4)else
 (bif decide (r1<9218868437227405312)then(some 5)else
 (some 6))))))
def I4:pE:=⟨[(false,.x (.i .u64))],[([.x (.i .i64)],[])],true,[],fun p=>match p with|n_0=>jc n_0⟩
theorem Ik:gg prog 85 I4:=iF iV kx (QC:=QC) (np:=1) (an:=[]) (.cons Ay .nil) (by kernel_rfl) (by kernel_rfl)
def jK(n_0:Int):Option Bool:=
 (jc n_0).bind fun r1=>
 some (r1==0)
def I3:pE:=⟨[(false,.x (.i .u64))],[([.x .b],[])],true,[],fun p=>match p with|n_0=>jK n_0⟩
theorem Jj:gg prog 84 I3:=iF iV kx (QC:=QC) (np:=1) (an:=[]) (.cons Ik .nil) (by kernel_rfl) (by kernel_rfl)
def gL(n_0:Int):Option Int:=
 (eG n_0).bind fun r1=>
 bif decide (r1>=9223372036854775808)then(some (wr .u64 (9223372036854775807-(r1.tmod 9223372036854775808))))else
 (some (wr .u64 (9223372036854775808+r1)))
def I2:pE:=⟨[(false,.x (.i .u64))],[([.x (.i .u64)],[])],true,[],fun p=>match p with|n_0=>gL n_0⟩
theorem Ji:gg prog 128 I2:=iF iV kx (QC:=QC) (np:=1) (an:=[]) (.cons Ay .nil) (by kernel_rfl) (by kernel_rfl)
def i_(a_0:Int)(b_1:Int):Option Int:=
 (gL a_0).bind fun r1=>
 (gL b_1).bind fun r2=>
 bif decide (r1<r2)then(some (-1))else
 ((gL a_0).bind fun r3=>
 (gL b_1).bind fun r4=>
 bif decide (r3>r4)then(some 1)else
 (some 0))
def I1:pE:=⟨[(false,.x (.i .u64)),(false,.x (.i .u64))],[([.x (.i .i64)],[])],true,[],fun p=>match p with|(a_0,b_1)=>i_ a_0 b_1⟩
theorem Jh:gg prog 86 I1:=iF iV kx (QC:=QC) (np:=2) (an:=[]) (.cons Ji .nil) (by kernel_rfl) (by kernel_rfl)
def mG(old_0:Int)(x_1:Int)(share_2:Int):Option Int:=
 (jK old_0).bind fun r1=>
 bif r1 then((eG x_1).bind fun r2=>
 some r2)else
 (((jK x_1).bind fun r3=>
 bif r3 then(some true)else
 ((jK share_2).bind fun r4=>
 bif r4 then(some true)else
 ((jc share_2).bind fun r5=>
 some (decide (r5<5)))):Option Bool).bind fun b6=>
 bif b6 then(some old_0)else
 ((i_ share_2 4607182418800017408).bind fun r7=>
 bif decide (r7>=0)then(some x_1)else
 ((lJ share_2).bind fun r8=>
 (lJ old_0).bind fun r9=>
 (lJ x_1).bind fun r10=>
 (jT (Dd .f64 (yf .f64 r9 (E3 .f64 4607182418800017408 r8)) (yf .f64 r10 r8))).bind fun r11=>
 some r11)))
def I0:pE:=⟨[(false,.x (.i .u64)),(false,.x (.i .u64)),(false,.x (.i .u64))],[([.x (.i .u64)],[])],true,[],fun p=>match p with|(old_0,x_1,share_2)=>mG old_0 x_1 share_2⟩
theorem Jg:gg prog 23 I0:=iF iV kx (QC:=QC) (np:=3) (an:=[(11,{j:=some {vs:=[(25,.x .b)]}})]) (.cons Jj (.cons Ay (.cons Ik (.cons Jh (.cons Jn (.cons Il .nil)))))) (by kernel_rfl) (by kernel_rfl)
def N6(x_0:Nat):Option Nat:=
 (mN x_0).bind fun r1=>
 (lJ (Y7 .u64 r1 9223372036854775808)).bind fun r2=>
 some r2
def P1:pE:=⟨[(false,.x (.f .f64))],[([.x (.f .f64)],[])],true,[],fun p=>match p with|x_0=>N6 x_0⟩
theorem Qo:gg prog 148 P1:=iF iV kx (QC:=QC) (np:=1) (an:=[]) (.cons Jm (.cons Jn .nil)) (by kernel_rfl) (by kernel_rfl)
def Mo(f_0:Nat)(sign_1:Int):Option Bool:=
 (bif(sign_1==0)then((N6 f_0).bind fun r1=>
 some r1)else
 (bif decide (sign_1<0)then(some (Op.negFloat .f64 f_0))else
 (some f_0)):Option Nat).bind fun f2=>
 some (H5 .f64 f2 9218868437227405311)
def P0:pE:=⟨[(false,.x (.f .f64)),(false,.x (.i .i64))],[([.x .b],[])],true,[],fun p=>match p with|(f_0,sign_1)=>Mo f_0 sign_1⟩
theorem Qn:gg prog 126 P0:=iF iV kx (QC:=QC) (np:=2) (an:=[(2,{e:=[(.normal,{vs:=[(0,.x (.f .f64))]})]})]) (.cons Qo .nil) (by kernel_rfl) (by kernel_rfl)
def MV(x_0:Nat):Option Bool:=
 (mN x_0).bind fun r1=>
 some (decide ((wr .i64 r1)<0))
def PZ:pE:=⟨[(false,.x (.f .f64))],[([.x .b],[])],true,[],fun p=>match p with|x_0=>MV x_0⟩
theorem Qm:gg prog 127 PZ:=iF iV kx (QC:=QC) (np:=1) (an:=[]) (.cons Jm .nil) (by kernel_rfl) (by kernel_rfl)
def MO(x_0:Nat):Option Int:=
 bif(!(wT .f64 x_0 x_0))then(some 0)else
 ((Mo x_0 (-1)).bind fun r1=>
 bif r1 then(some 1)else
 ((Mo x_0 1).bind fun r2=>
 bif r2 then(some 6)else
 (bif H4 .f64 x_0 0 then(some 2)else
 (bif H5 .f64 x_0 0 then(some 5)else
 ((MV x_0).bind fun r3=>
 bif r3 then(some 3)else
 (some 4))))))
def PY:pE:=⟨[(false,.x (.f .f64))],[([.x (.i .i64)],[])],true,[],fun p=>match p with|x_0=>MO x_0⟩
theorem Ql:gg prog 79 PY:=iF iV kx (QC:=QC) (np:=1) (an:=[]) (.cons Qn (.cons Qm .nil)) (by kernel_rfl) (by kernel_rfl)
def Mq(x_0:Nat):Option Int:=
 (MO x_0).bind fun r1=>
 bif(r1==0)then(some 2)else
 (bif(r1==3)then(some (-1))else
 (some 0))
def PX:pE:=⟨[(false,.x (.f .f64))],[([.x (.i .i64)],[])],true,[],fun p=>match p with|x_0=>Mq x_0⟩
theorem Qk:gg prog 91 PX:=iF iV kx (QC:=QC) (np:=1) (an:=[]) (.cons Ql .nil) (by kernel_rfl) (by kernel_rfl)
def ME(x_0:Int):Option Bool:=some (x_0 !=x_0)
def PW:pE:=⟨[(false,.x (.i .i64))],[([.x .b],[])],true,[],fun p=>match p with|x_0=>ME x_0⟩
theorem Qj:gg prog 130 PW:=iF iV kx (QC:=QC) (np:=1) (an:=[]) .nil (by kernel_rfl) (by kernel_rfl)
def Mm(x_0:Int)(y_1:Int):Option Int:=
 (ME x_0).bind fun r1=>
 (ME y_1).bind fun r2=>
 bif r1 then(bif r2 then(some 0)else
 (some (-1)))else
 (bif r2 then(some 1)else
 (bif decide (x_0<y_1)then(some (-1))else
 (bif decide (x_0>y_1)then(some 1)else
 (some 0))))
def PV:pE:=⟨[(false,.x (.i .i64)),(false,.x (.i .i64))],[([.x (.i .i64)],[])],true,[],fun p=>match p with|(x_0,y_1)=>Mm x_0 y_1⟩
theorem Qi:gg prog 90 PV:=iF iV kx (QC:=QC) (np:=2) (an:=[]) (.cons Qj .nil) (by kernel_rfl) (by kernel_rfl)
def LD(a_0:Nat)(b_1:Nat):Option Int:=
 bif H4 .f64 a_0 b_1 then(some (-1))else
 (bif H5 .f64 a_0 b_1 then(some 1)else
 ((Mq a_0).bind fun r1=>
 (Mq b_1).bind fun r2=>
 (Mm r1 r2).bind fun r3=>
 some r3))
def PU:pE:=⟨[(false,.x (.f .f64)),(false,.x (.f .f64))],[([.x (.i .i64)],[])],true,[],fun p=>match p with|(a_0,b_1)=>LD a_0 b_1⟩
theorem Pm:gg prog 33 PU:=iF iV kx (QC:=QC) (np:=2) (an:=[]) (.cons Qk (.cons Qi .nil)) (by kernel_rfl) (by kernel_rfl)
def LV(a_1:Int):(Int×Sl Nat)->Option ((Int×Sl Nat)⊕(Sl Nat)):=fun(i9,s10)=>
 (bif decide (i9>a_1)then((rM i9 s10.l.length).bind fun n11=>
 (rM (wr .i64 (i9-1)) s10.l.length).bind fun n12=>
 (LD (gt s10.l n11) (gt s10.l n12)).bind fun r13=>
 some (decide (r13<0)))else
 (some false):Option Bool).bind fun b14=>
 bif b14 then((rM (wr .i64 (i9-1)) s10.l.length).bind fun n15=>
 (rM i9 s10.l.length).bind fun n16=>
 (rM i9 s10.l.length).bind fun n17=>
 (rM (wr .i64 (i9-1)) (s10.l.set n17 (gt s10.l n15)).length).bind fun n18=>
 some (.inl (wr .i64 (i9-1),(Sl.mk ((s10.l.set n17 (gt s10.l n15)).set n18 (gt s10.l n16))))))else
 (some (.inr s10))
def LU(a_1:Int)(b_2:Int):(Int×Sl Nat)->Option ((Int×Sl Nat)⊕(Sl Nat)):=fun(i4,s5)=>
 bif decide (i4<b_2)then((zu (LV a_1) (i4,s5)).bind fun s19=>
 some (.inl (wr .i64 (i4+1),s19)))else
 (some (.inr s5))
def LF(data_0:Sl Nat)(a_1:Int)(b_2:Int):Option (Sl Nat):=
 (zu (LU a_1 b_2) (wr .i64 (a_1+1),data_0)).bind fun s20=>
 some s20
def PT:pE:=⟨[(true,.os (.f .f64)),(false,.x (.i .i64)),(false,.x (.i .i64)),(false,.fn 33 .ni)],[([],[.os (.f .f64)])],true,[true,false,false,false],fun p=>match p with|(data_0,a_1,b_2)=>LF data_0 a_1 b_2⟩
theorem Qh:gg prog 149 PT:=iF iV kx (QC:=QC) (np:=4) (an:=[(2,{j:=some {vs:=[(0,.so 0),(8,.x (.i .i64))],gs:=(.co (.so 0) .ni),os:=[.ar (.f .f64)],kl:=[0]},e:=[(.exit 0,{gs:=(.co (.so 0) .ni),os:=[.ar (.f .f64)],kl:=[0]})]}),(9,{j:=some {vs:=[(0,.so 0),(9,.x (.i .i64))],gs:=(.co (.so 0) .ni),os:=[.ar (.f .f64)],kl:=[1]},e:=[(.exit 2,{vs:=[(0,.so 0)],gs:=(.co (.so 0) .ni),os:=[.ar (.f .f64)],kl:=[1]})]}),(12,{j:=some {vs:=[(34,.x .b)]}})]) (.cons Pm .nil) (by kernel_rfl) (by kernel_rfl)
def LY(a_1:Int)(b_2:Int)(n_3:Int):(Int×Sl Nat)->Option ((Int×Sl Nat)⊕(Sl Nat)):=fun(i4,s5)=>
 bif decide (i4<n_3)then((rM (wr .i64 (b_2+i4)) s5.l.length).bind fun n6=>
 (rM (wr .i64 (a_1+i4)) s5.l.length).bind fun n7=>
 (rM (wr .i64 (a_1+i4)) s5.l.length).bind fun n8=>
 (rM (wr .i64 (b_2+i4)) (s5.l.set n8 (gt s5.l n6)).length).bind fun n9=>
 some (.inl (wr .i64 (i4+1),(Sl.mk ((s5.l.set n8 (gt s5.l n6)).set n9 (gt s5.l n7))))))else
 (some (.inr s5))
def LB(data_0:Sl Nat)(a_1:Int)(b_2:Int)(n_3:Int):Option (Sl Nat):=
 (zu (LY a_1 b_2 n_3) (0,data_0)).bind fun s10=>
 some s10
def PS:pE:=⟨[(true,.os (.f .f64)),(false,.x (.i .i64)),(false,.x (.i .i64)),(false,.x (.i .i64)),(false,.fn 33 .ni)],[([],[.os (.f .f64)])],true,[true,false,false,false,false],fun p=>match p with|(data_0,a_1,b_2,n_3)=>LB data_0 a_1 b_2 n_3⟩
theorem Qg:gg prog 176 PS:=iF iV kx (QC:=QC) (np:=5) (an:=[(2,{j:=some {vs:=[(0,.so 0),(10,.x (.i .i64))],gs:=(.co (.so 0) .ni),os:=[.ar (.f .f64)],kl:=[0]},e:=[(.exit 0,{gs:=(.co (.so 0) .ni),os:=[.ar (.f .f64)],kl:=[0]})]})]) .nil (by kernel_rfl) (by kernel_rfl)
def L6(m_2:Int):(Int×Int×Sl Nat)->Option ((Int×Int×Sl Nat)⊕(Int×Sl Nat)):=fun(i6,i7,s8)=>
 bif(i6 !=i7)then(bif decide (i6>i7)then((LB s8 (wr .i64 (m_2-i6)) m_2 i7).bind fun s9=>
 (AK s9 s8).bind fun _=>
 some (.inl (wr .i64 (i6-i7),i7,s9)))else
 ((LB s8 (wr .i64 (m_2-i6)) (wr .i64 ((wr .i64 (m_2+i7))-i6)) i6).bind fun s10=>
 (AK s10 s8).bind fun _=>
 some (.inl (i6,wr .i64 (i7-i6),s10))))else
 (some (.inr (i6,s8)))
def LM(data_0:Sl Nat)(a_1:Int)(m_2:Int)(b_3:Int):Option (Sl Nat):=
 (zu (L6 m_2) (wr .i64 (m_2-a_1),wr .i64 (b_3-m_2),data_0)).bind fun(i11,s12)=>
 (LB s12 (wr .i64 (m_2-i11)) m_2 i11).bind fun s13=>
 (AK s13 s12).bind fun _=>
 some s13
def PR:pE:=⟨[(true,.os (.f .f64)),(false,.x (.i .i64)),(false,.x (.i .i64)),(false,.x (.i .i64)),(false,.fn 33 .ni)],[([],[.os (.f .f64)])],true,[true,false,false,false,false],fun p=>match p with|(data_0,a_1,m_2,b_3)=>LM data_0 a_1 m_2 b_3⟩
theorem Qf:gg prog 162 PR:=iF iV kx (QC:=QC) (np:=5) (an:=[(5,{j:=some {vs:=[(0,.so 0),(10,.x (.i .i64)),(11,.x (.i .i64))],gs:=(.co (.so 0) .ni),os:=[.ar (.f .f64)],kl:=[0]},e:=[(.exit 0,{vs:=[(0,.so 0),(10,.x (.i .i64))],gs:=(.co (.so 0) .ni),os:=[.ar (.f .f64)],kl:=[0]})]})]) (.cons Qg .nil) (by kernel_rfl) (by kernel_rfl)
def L4(data_0:Sl Nat)(a_1:Int):(Int×Int)->Option ((Int×Int)⊕Int):=fun(i3,i4)=>
 bif decide (i3<i4)then((rM (wr .i64 (HF .u64 (wr .u64 (wr .i64 (i3+i4))) 1)) data_0.l.length).bind fun n5=>
 (rM a_1 data_0.l.length).bind fun n6=>
 (LD (gt data_0.l n5) (gt data_0.l n6)).bind fun r7=>
 bif decide (r7<0)then(some (.inl (wr .i64 ((wr .i64 (HF .u64 (wr .u64 (wr .i64 (i3+i4))) 1))+1),i4)))else
 (some (.inl (i3,wr .i64 (HF .u64 (wr .u64 (wr .i64 (i3+i4))) 1)))))else
 (some (.inr i3))
def L3(i8:Int):(Int×Sl Nat)->Option ((Int×Sl Nat)⊕(Sl Nat)):=fun(i12,s13)=>
 bif decide (i12<(wr .i64 (i8-1)))then((rM (wr .i64 (i12+1)) s13.l.length).bind fun n14=>
 (rM i12 s13.l.length).bind fun n15=>
 (rM i12 s13.l.length).bind fun n16=>
 (rM (wr .i64 (i12+1)) (s13.l.set n16 (gt s13.l n14)).length).bind fun n17=>
 some (.inl (wr .i64 (i12+1),(Sl.mk ((s13.l.set n16 (gt s13.l n14)).set n17 (gt s13.l n15))))))else
 (some (.inr s13))
def L2(data_0:Sl Nat)(m_2:Int):(Int×Int)->Option ((Int×Int)⊕Int):=fun(i21,i22)=>
 bif decide (i21<i22)then((rM m_2 data_0.l.length).bind fun n23=>
 (rM (wr .i64 (HF .u64 (wr .u64 (wr .i64 (i21+i22))) 1)) data_0.l.length).bind fun n24=>
 (LD (gt data_0.l n23) (gt data_0.l n24)).bind fun r25=>
 bif(!(decide (r25<0)))then(some (.inl (wr .i64 ((wr .i64 (HF .u64 (wr .u64 (wr .i64 (i21+i22))) 1))+1),i22)))else
 (some (.inl (i21,wr .i64 (HF .u64 (wr .u64 (wr .i64 (i21+i22))) 1)))))else
 (some (.inr i21))
def L1(i26:Int):(Int×Sl Nat)->Option ((Int×Sl Nat)⊕(Sl Nat)):=fun(i30,s31)=>
 bif decide (i30>i26)then((rM (wr .i64 (i30-1)) s31.l.length).bind fun n32=>
 (rM i30 s31.l.length).bind fun n33=>
 (rM i30 s31.l.length).bind fun n34=>
 (rM (wr .i64 (i30-1)) (s31.l.set n34 (gt s31.l n32)).length).bind fun n35=>
 some (.inl (wr .i64 (i30-1),(Sl.mk ((s31.l.set n34 (gt s31.l n32)).set n35 (gt s31.l n33))))))else
 (some (.inr s31))
def L0(data_0:Sl Nat)(a_1:Int)(m_2:Int)(b_3:Int):(Int×Int)->Option ((Int×Int)⊕Int):=fun(i41,i42)=>
 bif decide (i41<i42)then((rM (wr .i64 ((wr .i64 ((wr .i64 ((wr .i64 (HF .u64 (wr .u64 (wr .i64 (a_1+b_3))) 1))+m_2))-1))-(wr .i64 (HF .u64 (wr .u64 (wr .i64 (i41+i42))) 1)))) data_0.l.length).bind fun n43=>
 (rM (wr .i64 (HF .u64 (wr .u64 (wr .i64 (i41+i42))) 1)) data_0.l.length).bind fun n44=>
 (LD (gt data_0.l n43) (gt data_0.l n44)).bind fun r45=>
 bif(!(decide (r45<0)))then(some (.inl (wr .i64 ((wr .i64 (HF .u64 (wr .u64 (wr .i64 (i41+i42))) 1))+1),i42)))else
 (some (.inl (i41,wr .i64 (HF .u64 (wr .u64 (wr .i64 (i41+i42))) 1)))))else
 (some (.inr i41))
def LG(rc:Sl Nat->Int->Int->Int->Option (Sl Nat))(data_0:Sl Nat)(a_1:Int)(m_2:Int)(b_3:Int):Option (Sl Nat):=
 bif((wr .i64 (m_2-a_1))==1)then((zu (L4 data_0 a_1) (m_2,b_3)).bind fun i8=>
 (zu (L3 i8) (a_1,data_0)).bind fun s18=>
 some s18)else
 (bif((wr .i64 (b_3-m_2))==1)then((zu (L2 data_0 m_2) (a_1,m_2)).bind fun i26=>
 (zu (L1 i26) (m_2,data_0)).bind fun s36=>
 some s36)else
 ((bif decide (m_2>(wr .i64 (HF .u64 (wr .u64 (wr .i64 (a_1+b_3))) 1)))then(some (wr .i64 ((wr .i64 ((wr .i64 (HF .u64 (wr .u64 (wr .i64 (a_1+b_3))) 1))+m_2))-b_3),wr .i64 (HF .u64 (wr .u64 (wr .i64 (a_1+b_3))) 1)))else
 (some (a_1,m_2)):Option (Int×Int)).bind fun(i37,i38)=>
 (zu (L0 data_0 a_1 m_2 b_3) (i37,i38)).bind fun i46=>
 (bif((decide (i46<m_2))&&(decide (m_2<(wr .i64 ((wr .i64 ((wr .i64 (HF .u64 (wr .u64 (wr .i64 (a_1+b_3))) 1))+m_2))-i46)))))then((LM data_0 i46 m_2 (wr .i64 ((wr .i64 ((wr .i64 (HF .u64 (wr .u64 (wr .i64 (a_1+b_3))) 1))+m_2))-i46))).bind fun s47=>
 (AK s47 data_0).bind fun _=>
 some s47)else
 (some data_0):Option (Sl Nat)).bind fun s48=>
 (bif((decide (a_1<i46))&&(decide (i46<(wr .i64 (HF .u64 (wr .u64 (wr .i64 (a_1+b_3))) 1)))))then((rc s48 a_1 i46 (wr .i64 (HF .u64 (wr .u64 (wr .i64 (a_1+b_3))) 1))).bind fun s49=>
 (AK s49 s48).bind fun _=>
 some s49)else
 (some s48):Option (Sl Nat)).bind fun s50=>
 bif((decide ((wr .i64 (HF .u64 (wr .u64 (wr .i64 (a_1+b_3))) 1))<(wr .i64 ((wr .i64 ((wr .i64 (HF .u64 (wr .u64 (wr .i64 (a_1+b_3))) 1))+m_2))-i46))))&&(decide ((wr .i64 ((wr .i64 ((wr .i64 (HF .u64 (wr .u64 (wr .i64 (a_1+b_3))) 1))+m_2))-i46))<b_3)))then((rc s50 (wr .i64 (HF .u64 (wr .u64 (wr .i64 (a_1+b_3))) 1)) (wr .i64 ((wr .i64 ((wr .i64 (HF .u64 (wr .u64 (wr .i64 (a_1+b_3))) 1))+m_2))-i46)) b_3).bind fun s51=>
 (AK s51 s50).bind fun _=>
 some s51)else
 (some s50)))
def er:Nat->Sl Nat->Int->Int->Int->Option (Sl Nat)
 |0=>fun _ _ _ _=>none
 |n+1=>LG (er n)
def On(rc:Sl Nat->Int->Int->Int->Option (Sl Nat)):pE:=⟨[(true,.os (.f .f64)),(false,.x (.i .i64)),(false,.x (.i .i64)),(false,.x (.i .i64)),(false,.fn 33 .ni)],[([],[.os (.f .f64)])],true,[true,false,false,false,false],fun p=>match p with|(data_0,a_1,m_2,b_3)=>rc data_0 a_1 m_2 b_3⟩
theorem Pv(rc:Sl Nat->Int->Int->Int->Option (Sl Nat))(h:gg prog 150 (On rc)):gg prog 150 (On (LG rc)):=iF iV kx (QC:=QC) (np:=5) (an:=[(8,{j:=some {vs:=[(10,.x (.i .i64)),(11,.x (.i .i64))]},e:=[(.exit 0,{vs:=[(10,.x (.i .i64))]})]}),(21,{j:=some {vs:=[(0,.so 0),(13,.x (.i .i64))],gs:=(.co (.so 0) .ni),os:=[.ar (.f .f64)],kl:=[0]},e:=[(.exit 2,{gs:=(.co (.so 0) .ni),os:=[.ar (.f .f64)],kl:=[0]})]}),(36,{j:=some {vs:=[(14,.x (.i .i64)),(15,.x (.i .i64))]},e:=[(.exit 4,{vs:=[(14,.x (.i .i64))]})]}),(49,{j:=some {vs:=[(0,.so 0),(17,.x (.i .i64))],gs:=(.co (.so 0) .ni),os:=[.ar (.f .f64)],kl:=[0]},e:=[(.exit 6,{gs:=(.co (.so 0) .ni),os:=[.ar (.f .f64)],kl:=[0]})]}),(62,{e:=[(.normal,{vs:=[(20,.x (.i .i64)),(21,.x (.i .i64))]})]}),(74,{j:=some {vs:=[(20,.x (.i .i64)),(21,.x (.i .i64))]},e:=[(.exit 8,{vs:=[(20,.x (.i .i64))]})]}),(86,{e:=[(.normal,{vs:=[(0,.so 0)],gs:=(.co (.so 0) .ni),os:=[.ar (.f .f64)],kl:=[0]})]}),(90,{e:=[(.normal,{vs:=[(0,.so 0)],gs:=(.co (.so 0) .ni),os:=[.ar (.f .f64)],kl:=[1]})]})]) (.cons Pm (.cons Qf (.cons h .nil))) (by kernel_rfl) (by kernel_rfl)
theorem Pf:∀n,gg prog 150 (On (er n))
 |0=>⟨rfl,fun p r h=>by cases h⟩
 |n+1=>Pv _ (Pf n)
def PQ:pE:=On (er 8)
theorem Qe:gg prog 150 PQ:=Pf 8
def L5(n_1:Int):(Int×Int×Sl Nat)->Option ((Int×Int×Sl Nat)⊕(Int×Sl Nat)):=fun(i6,i7,s8)=>
 bif decide (i7<=n_1)then((LF s8 i6 i7).bind fun s9=>
 (AK s9 s8).bind fun _=>
 some (.inl (i7,wr .i64 (i7+20),s9)))else
 (some (.inr (i6,s8)))
def LC(n_1:Int)(i16:Int):(Int×Int×Sl Nat)->Option ((Int×Int×Sl Nat)⊕(Int×Sl Nat)):=fun(i23,i24,s25)=>
 bif decide (i24<=n_1)then((er 8 s25 i23 (wr .i64 (i23+i16)) i24).bind fun s26=>
 (AK s26 s25).bind fun _=>
 some (.inl (i24,wr .i64 (i24+(wr .i64 (2*i16))),s26)))else
 (some (.inr (i23,s25)))
def LH(n_1:Int):(Int×Sl Nat)->Option ((Int×Sl Nat)⊕(Sl Nat)):=fun(i16,s17)=>
 bif decide (i16<n_1)then((zu (LC n_1 i16) (0,wr .i64 (2*i16),s17)).bind fun(i27,s28)=>
 (bif decide ((wr .i64 (i27+i16))<n_1)then((er 8 s28 i27 (wr .i64 (i27+i16)) n_1).bind fun s29=>
 (AK s29 s28).bind fun _=>
 some s29)else
 (some s28):Option (Sl Nat)).bind fun s30=>
 some (.inl (wr .i64 (i16*2),s30)))else
 (some (.inr s17))
def LI(data_0:Sl Nat)(n_1:Int):Option (Sl Nat):=
 (zu (L5 n_1) (0,20,data_0)).bind fun(i10,s11)=>
 (LF s11 i10 n_1).bind fun s12=>
 (AK s12 s11).bind fun _=>
 (zu (LH n_1) (20,s12)).bind fun s31=>
 some s31
def PP:pE:=⟨[(true,.os (.f .f64)),(false,.x (.i .i64)),(false,.fn 33 .ni)],[([],[.os (.f .f64)])],true,[true,false,false],fun p=>match p with|(data_0,n_1)=>LI data_0 n_1⟩
theorem Qd:gg prog 129 PP:=iF iV kx (QC:=QC) (np:=3) (an:=[(5,{j:=some {vs:=[(0,.so 0),(7,.x (.i .i64)),(8,.x (.i .i64))],gs:=(.co (.so 0) .ni),os:=[.ar (.f .f64)],kl:=[0]},e:=[(.exit 0,{vs:=[(0,.so 0),(7,.x (.i .i64))],gs:=(.co (.so 0) .ni),os:=[.ar (.f .f64)],kl:=[0]})]}),(16,{j:=some {vs:=[(0,.so 0),(6,.x (.i .i64))],gs:=(.co (.so 0) .ni),os:=[.ar (.f .f64)],kl:=[1]},e:=[(.exit 2,{gs:=(.co (.so 0) .ni),os:=[.ar (.f .f64)],kl:=[1]})]}),(23,{j:=some {vs:=[(0,.so 0),(7,.x (.i .i64)),(8,.x (.i .i64))],gs:=(.co (.so 0) .ni),os:=[.ar (.f .f64)],kl:=[2]},e:=[(.exit 4,{vs:=[(0,.so 0),(7,.x (.i .i64))],gs:=(.co (.so 0) .ni),os:=[.ar (.f .f64)],kl:=[2]})]}),(32,{e:=[(.normal,{vs:=[(0,.so 0)],gs:=(.co (.so 0) .ni),os:=[.ar (.f .f64)],kl:=[3]})]})]) (.cons Qh (.cons Qe .nil)) (by kernel_rfl) (by kernel_rfl)
def Lz(x_0:Sl Nat):Option (Sl Nat):=
 (LI x_0 (x_0.l.length:Int)).bind fun s1=>
 (AK s1 x_0).bind fun _=>
 some s1
def PO:pE:=⟨[(true,.os (.f .f64)),(false,.fn 33 .ni)],[([],[.os (.f .f64)])],true,[true,false],fun p=>match p with|x_0=>Lz x_0⟩
theorem Qc:gg prog 87 PO:=iF iV kx (QC:=QC) (np:=2) (an:=[]) (.cons Qd .nil) (by kernel_rfl) (by kernel_rfl)
def MC(l_0:Sl Nat):(Int×Sl Nat)->Option ((Int×Sl Nat)⊕(Sl Nat)):=fun(i4,s5)=>
 bif decide (i4<(l_0.l.length:Int))then((rM i4 l_0.l.length).bind fun n6=>
 (iw (gt l_0.l n6)).bind fun r7=>
 (pO (s5.l++[r7])).bind fun l8=>
 some (.inl (wr .i64 (i4+1),(Sl.mk l8))))else
 (some (.inr s5))
def Mn(l_0:Sl Nat):Option (Sl Nat):=
 (zu (MC l_0) (0,Sl.nil)).bind fun s9=>
 (Lz s9).bind fun s10=>
 (AK s10 s9).bind fun _=>
 some s10
def PN:pE:=⟨[(false,.x (.sl (.f .f64)))],[([.x (.sl (.f .f64))],[])],false,[],fun p=>match p with|l_0=>Mn l_0⟩
theorem Pk:gg prog 24 PN:=iF iV kx (QC:=QC) (np:=1) (an:=[(7,{j:=some {vs:=[(3,.so 0),(8,.x (.i .i64))],os:=[.ar (.f .f64)]},e:=[(.exit 0,{vs:=[(3,.so 0)],os:=[.ar (.f .f64)]})]})]) (.cons JJ (.cons Qc .nil)) (by kernel_rfl) (by kernel_rfl)
def N9(n_0:Int):Option Nat:=
 (lJ n_0).bind fun r1=>
 (iw r1).bind fun r2=>
 some r2
def PH:pE:=⟨[(false,.x (.i .u64))],[([.x (.f .f64)],[])],true,[],fun p=>match p with|n_0=>N9 n_0⟩
theorem P8:gg prog 89 PH:=iF iV kx (QC:=QC) (np:=1) (an:=[]) (.cons Jn (.cons JJ .nil)) (by kernel_rfl) (by kernel_rfl)
def MI(l_0:Sl Nat):Option Nat:=
 bif((l_0.l.length:Int)==0)then((N9 9221120237041090561).bind fun r1=>
 some r1)else
 ((Mn l_0).bind fun r2=>
 (rM (wr .i64 ((wr .i64 ((l_0.l.length:Int)-1)).tdiv 2)) r2.l.length).bind fun n3=>
 some (gt r2.l n3))
def PG:pE:=⟨[(false,.x (.sl (.f .f64)))],[([.x (.f .f64)],[])],true,[],fun p=>match p with|l_0=>MI l_0⟩
theorem P7:gg prog 29 PG:=iF iV kx (QC:=QC) (np:=1) (an:=[]) (.cons P8 (.cons Pk .nil)) (by kernel_rfl) (by kernel_rfl)
def l7(share_0:Nat):Option dG:=
 (MI Sl.nil).bind fun r1=>
 some (⟨share_0,r1,0,0⟩:dG)
def U4:pE:=⟨[(false,.x (.f .f64))],[([.pb y0 (.x y0)],[])],false,[],fun p=>match p with|share_0=>l7 share_0⟩
theorem Vi:gg prog 34 U4:=iF iV kx (QC:=QC) (np:=1) (an:=[]) (.cons P7 .nil) (by kernel_rfl) (by kernel_rfl)
def pA(share_0:Int):Option dN:=some (⟨share_0,9221120237041090561,0,0⟩:dN)
def U3:pE:=⟨[(false,.x (.i .u64))],[([.pb y1 (.x y1)],[])],false,[],fun p=>match p with|share_0=>pA share_0⟩
theorem Vh:gg prog 35 U3:=iF iV kx (QC:=QC) (np:=1) (an:=[]) .nil (by kernel_rfl) (by kernel_rfl)
def hC(m_0:dG)(n_1:Int):Option dG:=
 bif((decide (n_1<(-1125899906842624)))||(decide (n_1>1125899906842624)))then(some m_0)else
 (bif((decide ((wr .i64 ((dG.lN m_0)+n_1))>=0))&&(decide ((wr .i64 ((dG.lN m_0)+n_1))<=1125899906842624)))then(some (⟨dG.BP m_0,dG.value m_0,wr .i64 ((dG.lN m_0)+n_1),dG.sA m_0⟩:dG))else
 (some m_0))
def aa4:pE:=⟨[(true,.pb y0 (.x y0)),(false,.x (.i .i64))],[([],[.pb y0 (.x y0)])],false,[true,false],fun p=>match p with|(m_0,n_1)=>hC m_0 n_1⟩
theorem Vg:gg prog 36 aa4:=iF iV kx (QC:=QC) (np:=2) (an:=[]) .nil (by kernel_rfl) (by kernel_rfl)
def gA(m_0:dN)(n_1:Int):Option dN:=
 bif((((decide (n_1>=(wr .i64 (0-1125899906842624))))&&(decide (n_1<=1125899906842624)))&&(decide ((wr .i64 ((dN.l6 m_0)+n_1))>=0)))&&(decide ((wr .i64 ((dN.l6 m_0)+n_1))<=1125899906842624)))then(some (⟨dN.x6 m_0,dN.Value m_0,wr .i64 ((dN.l6 m_0)+n_1),dN.w6 m_0⟩:dN))else
 (some m_0)
def aa3:pE:=⟨[(true,.pb y1 (.x y1)),(false,.x (.i .i64))],[([],[.pb y1 (.x y1)])],false,[true,false],fun p=>match p with|(m_0,n_1)=>gA m_0 n_1⟩
theorem Vf:gg prog 37 aa3:=iF iV kx (QC:=QC) (np:=2) (an:=[]) .nil (by kernel_rfl) (by kernel_rfl)
def hN(m_0:dG)(at_1:Int):Option dG:=
 bif((decide (at_1<=(dG.sA m_0)))||(decide (at_1>1125899906842624)))then(some m_0)else
 ((lF (dG.lN m_0) (wr .i64 (at_1-(dG.sA m_0)))).bind fun r1=>
 (mI (dG.value m_0) r1 (dG.BP m_0)).bind fun r2=>
 some (⟨dG.BP m_0,r2,0,at_1⟩:dG))
def U0:pE:=⟨[(true,.pb y0 (.x y0)),(false,.x (.i .i64))],[([],[.pb y0 (.x y0)])],false,[true,false],fun p=>match p with|(m_0,at_1)=>hN m_0 at_1⟩
theorem Ve:gg prog 38 U0:=iF iV kx (QC:=QC) (np:=2) (an:=[]) (.cons JX (.cons JY .nil)) (by kernel_rfl) (by kernel_rfl)
def gB(m_0:dN)(at_1:Int):Option dN:=
 bif((decide (at_1>(dN.w6 m_0)))&&(decide (at_1<=1125899906842624)))then((lA (dN.l6 m_0) (wr .i64 (at_1-(dN.w6 m_0)))).bind fun r1=>
 (mG (dN.Value m_0) r1 (dN.x6 m_0)).bind fun r2=>
 some (⟨dN.x6 m_0,r2,0,at_1⟩:dN))else
 (some m_0)
def UZ:pE:=⟨[(true,.pb y1 (.x y1)),(false,.x (.i .i64))],[([],[.pb y1 (.x y1)])],false,[true,false],fun p=>match p with|(m_0,at_1)=>gB m_0 at_1⟩
theorem Vd:gg prog 39 UZ:=iF iV kx (QC:=QC) (np:=2) (an:=[]) (.cons Jk (.cons Jg .nil)) (by kernel_rfl) (by kernel_rfl)
def lk(m_0:dG):Option Nat:=some (dG.value m_0)
def UY:pE:=⟨[(false,.pt y0)],[([.x (.f .f64)],[])],true,[],fun p=>match p with|m_0=>lk m_0⟩
theorem Vc:gg prog 40 UY:=iF iV kx (QC:=QC) (np:=1) (an:=[]) .nil (by kernel_rfl) (by kernel_rfl)
def lu(m_0:dG):Option Int:=some (dG.lN m_0)
def UX:pE:=⟨[(false,.pt y0)],[([.x (.i .i64)],[])],true,[],fun p=>match p with|m_0=>lu m_0⟩
theorem Vb:gg prog 41 UX:=iF iV kx (QC:=QC) (np:=1) (an:=[]) .nil (by kernel_rfl) (by kernel_rfl)
def lr(m_0:dG):Option Int:=some (dG.sA m_0)
def UW:pE:=⟨[(false,.pt y0)],[([.x (.i .i64)],[])],true,[],fun p=>match p with|m_0=>lr m_0⟩
theorem Va:gg prog 42 UW:=iF iV kx (QC:=QC) (np:=1) (an:=[]) .nil (by kernel_rfl) (by kernel_rfl)
def j4(n_1:Int):Option Unit:=some ()
def UV:pE:=⟨[(true,.nl 1),(false,.x (.i .i64))],[([],[.nl 1])],false,[true,false],fun p=>match p with|n_1=>j4 n_1⟩
theorem U_:gg prog 36 UV:=iF iV kx (QC:=QC) (np:=2) (an:=[]) .nil (by kernel_rfl) (by kernel_rfl)
def lj(at_1:Int):Option Unit:=some ()
def UU:pE:=⟨[(true,.nl 1),(false,.x (.i .i64))],[([],[.nl 1])],false,[true,false],fun p=>match p with|at_1=>lj at_1⟩
theorem U9:gg prog 38 UU:=iF iV kx (QC:=QC) (np:=2) (an:=[]) .nil (by kernel_rfl) (by kernel_rfl)
def gx:Option Nat:=
 (MI Sl.nil).bind fun r1=>
 some r1
def UT:pE:=⟨[(false,.nl 1)],[([.x (.f .f64)],[])],true,[],fun p=>match p with|_=>gx⟩
theorem U8:gg prog 40 UT:=iF iV kx (QC:=QC) (np:=1) (an:=[]) (.cons P7 .nil) (by kernel_rfl) (by kernel_rfl)
def hP:Option Int:=some 0
def US:pE:=⟨[(false,.nl 1)],[([.x (.i .i64)],[])],true,[],fun p=>match p with|_=>hP⟩
theorem U7:gg prog 41 US:=iF iV kx (QC:=QC) (np:=1) (an:=[]) .nil (by kernel_rfl) (by kernel_rfl)
def j3:Option Int:=some 0
def UR:pE:=⟨[(false,.nl 1)],[([.x (.i .i64)],[])],true,[],fun p=>match p with|_=>j3⟩
theorem U6:gg prog 42 UR:=iF iV kx (QC:=QC) (np:=1) (an:=[]) .nil (by kernel_rfl) (by kernel_rfl)
def eR(l_1:Sl dR):(Int×dG×dN)->Option ((Int×dG×dN)⊕(Bool⊕Unit)):=fun(i8,x9,x10)=>
 bif((decide (i8<(l_1.l.length:Int)))&&(decide (i8<60)))then(((rM i8 l_1.l.length).bind fun n11=>
 (bif((dR.T2 (gt l_1.l n11))==0)then(some ((dR.T2 (gt l_1.l n11))==0))else
 (bif((dR.T2 (gt l_1.l n11))==1)then(some ((dR.T2 (gt l_1.l n11))==1))else
 (some ((dR.T2 (gt l_1.l n11))==2))):Option Bool).bind fun b12=>
 bif b12 then((rM i8 l_1.l.length).bind fun n13=>
 (hC x9 (dR.N (gt l_1.l n13))).bind fun q14=>
 (rM i8 l_1.l.length).bind fun n15=>
 (gA x10 (dR.N (gt l_1.l n15))).bind fun q16=>
 some (q14,q16))else
 ((bif((dR.T2 (gt l_1.l n11))==3)then(some ((dR.T2 (gt l_1.l n11))==3))else
 (some ((dR.T2 (gt l_1.l n11))==4)):Option Bool).bind fun b17=>
 bif b17 then((rM i8 l_1.l.length).bind fun n18=>
 (hN x9 (dR.N (gt l_1.l n18))).bind fun q19=>
 (rM i8 l_1.l.length).bind fun n20=>
 (gB x10 (dR.N (gt l_1.l n20))).bind fun q21=>
 some (q19,q21))else
 (some (x9,x10))):Option (dG×dN)).bind fun(x22,x23)=>
 ((lk x22).bind fun r24=>
 (Mr r24).bind fun r25=>
 bif(r25 !=(dN.Value x23))then(some true)else
 ((lu x22).bind fun r26=>
 bif(r26 !=(dN.l6 x23))then(some true)else
 ((lr x22).bind fun r27=>
 bif(r27 !=(dN.w6 x23))then(some true)else
 ((lr x22).bind fun r28=>
 bif decide (r28>0)then((lk x22).bind fun r29=>
 (Kt r29).bind fun r30=>
 some (!r30))else
 (some false)))):Option Bool).bind fun b31=>
 bif b31 then(some (.inr (.inl false)))else
 (some (.inl (wr .i64 (i8+1),x22,x23))))else
 (some (.inr (.inr ())))
def lD(share_0:Int)(l_1:Sl dR):Option Bool:=
 (kY share_0).bind fun r1=>
 (l7 r1).bind fun r2=>
 (pA share_0).bind fun r3=>
 (zu (eR l_1) (0,r2,r3)).bind fun
 |.inl b32=>(some b32)
 |.inr _=>((j4 1).bind fun _=>
 (lj 9).bind fun _=>
 ((gx).bind fun r33=>
 (Mr r33).bind fun r34=>
 bif(r34==9221120237041090561)then((hP).bind fun r35=>
 (j3).bind fun r36=>
 bif((wr .i64 (r35+r36))==0)then((mg).bind fun r37=>
 some r37)else
 (some false))else
 (some false):Option Bool).bind fun b38=>
 some b38)
def UQ:pE:=⟨[(false,.x (.i .u64)),(false,.x (.sl y2))],[([.x .b],[])],true,[],fun p=>match p with|(share_0,l_1)=>lD share_0 l_1⟩
theorem U5:gg prog 6 UQ:=iF iV kx (QC:=QC) (np:=2) (an:=[(7,{j:=some {vs:=[(5,.op 0 y0 []),(6,.op 1 y1 []),(7,.x (.i .i64))],os:=[.bx y0 (.x y0),.bx y1 (.x y1)],kl:=[1,6]},e:=[(.ret,{vs:=[(4,.x .b)],kl:=[1,6]}),(.exit 0,{kl:=[1,6]})]}),(12,{e:=[(.normal,{vs:=[(5,.op 0 y0 []),(6,.op 1 y1 [])],os:=[.bx y0 (.x y0),.bx y1 (.x y1)],kl:=[11,12]})]}),(15,{e:=[(.normal,{vs:=[(29,.x .b)]})]}),(24,{e:=[(.normal,{vs:=[(47,.x .b)]})]}),(32,{j:=some {vs:=[(100,.x .b)]}}),(43,{j:=some {vs:=[(4,.x .b)]}})]) (.cons J1 (.cons Vi (.cons Vh (.cons Vg (.cons Vf (.cons Ve (.cons Vd (.cons Vc (.cons Jl (.cons Vb (.cons Va (.cons Lx (.cons U_ (.cons U9 (.cons U8 (.cons U7 (.cons U6 (.cons J0 .nil)))))))))))))))))) (by kernel_rfl) (by kernel_rfl)
end Go.Proofs.Ytingpmogbibghaa.M
