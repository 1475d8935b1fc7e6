/- What functions of the program compute, and that the model's run computes it. Conditions: as stated. -/
import Derived.Test.YtingpmogbibghaaKo
import Derived.Test.YtingpmogbibghaaChecked
import Derived.KernelRfl
open Go.Ev Go
noncomputable section
namespace Go.Proofs.Ytingpmogbibghaa.M
abbrev prog:Program:=Try.prog
theorem iV:prog.follows .mixedOrders=true:=by kernel_rfl
theorem kx:hP:=G2 fun _=>rfl
def dG:pT:=fun f=>if f=3 then(true,[])else if f=4 then(true,[])else if f=5 then(true,[])else if f=6 then(true,[])else if f=14 then(true,[])else if f=15 then(true,[])else if f=16 then(true,[])else if f=17 then(true,[])else if f=18 then(true,[])else if f=19 then(true,[])else if f=20 then(true,[])else if f=21 then(true,[])else if f=22 then(true,[])else if f=23 then(true,[])else if f=26 then(true,[])else if f=29 then(true,[])else if f=30 then(true,[])else if f=31 then(true,[])else if f=32 then(true,[])else if f=33 then(true,[])else if f=36 then(false,[true,false])else if f=37 then(false,[true,false])else if f=38 then(false,[true,false])else if f=39 then(false,[true,false])else if f=40 then(true,[])else if f=41 then(true,[])else if f=42 then(true,[])else if f=61 then(true,[])else if f=79 then(true,[])else if f=80 then(true,[])else if f=81 then(true,[])else if f=83 then(true,[])else if f=84 then(true,[])else if f=85 then(true,[])else if f=86 then(true,[])else if f=87 then(true,[true,false])else if f=89 then(true,[])else if f=90 then(true,[])else if f=91 then(true,[])else if f=126 then(true,[])else if f=127 then(true,[])else if f=128 then(true,[])else if f=129 then(true,[true,false,false])else if f=130 then(true,[])else if f=148 then(true,[])else if f=149 then(true,[true,false,false,false])else if f=150 then(true,[true,false,false,false,false])else if f=162 then(true,[true,false,false,false,false])else if f=163 then(true,[true,false,false,false,false])else if f=165 then(true,[true,false,false,false,false])else if f=176 then(true,[true,false,false,false,false])else(false,[])
theorem Jn:gg prog 78 (rb true):=yh (by kernel_rfl) (by kernel_rfl)
def kY(n_0:Int):Option Nat:=
 (lJ n_0).bind fun r1=>
 some r1
def JW:pE:=⟨[(false,.x (.i .u64))],[([.x (.f .f64)],[])],true,[],fun p=>match p with|n_0=>kY n_0⟩
theorem J1:gg prog 14 JW:=iF iV kx (dG:=dG) (np:=1) (an:=[]) (.cons Jn .nil) (by kernel_rfl) (by kernel_rfl)
def I9:pT:=fun f=>([16,17,20,29,33,40,42,79,80,81,87,89,90,91,126,127,129,130,148,149,150,162,176].contains f,(bv [(36,[true]),(38,[true]),(87,[true]),(129,[true]),(149,[true]),(150,[true]),(162,[true]),(176,[true])] f).getD [])
def mg:Option Bool:=some true
theorem oY:mg=some true:=rfl
def JU:pE:=⟨[],[([.x .b],[])],true,[],fun _=>some true⟩
theorem J0:gg prog 16 JU:=BT (dG:=I9) (ex:=Ju 82 78) (d:=200) iV (Ha (by kernel_rfl) (by kernel_rfl) (by kernel_rfl) (by kernel_rfl)) (by kernel_rfl)
def jM(x_0:Nat):Option Bool:=some (!(wT .f64 x_0 x_0))
def JT:pE:=⟨[(false,.x (.f .f64))],[([.x .b],[])],true,[],fun p=>match p with|x_0=>jM x_0⟩
theorem JZ:gg prog 80 JT:=iF iV kx (dG:=dG) (np:=1) (an:=[]) .nil (by kernel_rfl) (by kernel_rfl)
def iw(x_0:Nat):Option Nat:=
 bif(!(wT .f64 x_0 x_0))then((lJ 9221120237041090561).bind fun r1=>
 some r1)else
 (some x_0)
def JS:pE:=⟨[(false,.x (.f .f64))],[([.x (.f .f64)],[])],true,[],fun p=>match p with|x_0=>iw x_0⟩
theorem JJ:gg prog 81 JS:=iF iV kx (dG:=dG) (np:=1) (an:=[]) (.cons Jn .nil) (by kernel_rfl) (by kernel_rfl)
def mI(old_0:Nat)(x_1:Nat)(share_2:Nat):Option Nat:=
 (jM old_0).bind fun r1=>
 bif r1 then((iw x_1).bind fun r2=>
 some r2)else
 (((jM x_1).bind fun r3=>
 bif r3 then(some true)else
 ((jM share_2).bind fun r4=>
 some (r4||(H4 .f64 share_2 0||wT .f64 share_2 0))):Option Bool).bind fun b5=>
 bif b5 then(some old_0)else
 (bif(H5 .f64 share_2 4607182418800017408||wT .f64 share_2 4607182418800017408)then(some x_1)else
 ((iw (Dd .f64 (yf .f64 old_0 (E3 .f64 4607182418800017408 share_2)) (yf .f64 x_1 share_2))).bind fun r6=>
 some r6)))
def JR:pE:=⟨[(false,.x (.f .f64)),(false,.x (.f .f64)),(false,.x (.f .f64))],[([.x (.f .f64)],[])],true,[],fun p=>match p with|(old_0,x_1,share_2)=>mI old_0 x_1 share_2⟩
theorem JY:gg prog 17 JR:=iF iV kx (dG:=dG) (np:=3) (an:=[(8,{j:=some {vs:=[(14,.x .b)]}})]) (.cons JZ (.cons JJ .nil)) (by kernel_rfl) (by kernel_rfl)
def lF(n_0:Int)(span_1:Int):Option Nat:=
 (iw (AZ .f64 (FloatKind.nearest .f64 n_0) (FloatKind.nearest .f64 span_1))).bind fun r1=>
 some r1
def JQ:pE:=⟨[(false,.x (.i .i64)),(false,.x (.i .i64))],[([.x (.f .f64)],[])],true,[],fun p=>match p with|(n_0,span_1)=>lF n_0 span_1⟩
theorem JX:gg prog 20 JQ:=iF iV kx (dG:=dG) (np:=2) (an:=[]) (.cons JJ .nil) (by kernel_rfl) (by kernel_rfl)
theorem Jm:gg prog 82 (re true):=yi (by kernel_rfl) (by kernel_rfl)
def i6(x_0:Nat):Option Int:=
 bif(!(wT .f64 x_0 x_0))then(some 9221120237041090561)else
 ((mN x_0).bind fun r1=>
 some r1)
def I8:pE:=⟨[(false,.x (.f .f64))],[([.x (.i .u64)],[])],true,[],fun p=>match p with|x_0=>i6 x_0⟩
theorem Jl:gg prog 19 I8:=iF iV kx (dG:=dG) (np:=1) (an:=[]) (.cons Jm .nil) (by kernel_rfl) (by kernel_rfl)
def eG(n_0:Int):Option Int:=
 bif decide ((n_0.tmod 9223372036854775808)>9218868437227405312)then(some 9221120237041090561)else
 (some n_0)
def I7:pE:=⟨[(false,.x (.i .u64))],[([.x (.i .u64)],[])],true,[],fun p=>match p with|n_0=>eG n_0⟩
theorem Ay:gg prog 22 I7:=iF iV kx (dG:=dG) (np:=1) (an:=[]) .nil (by kernel_rfl) (by kernel_rfl)
def I_:pT:=fun f=>(true,[])
def rp(n:Int):Int:=(eG n).getD 0
theorem pC(n:Int):eG n=some (rp n):=by unfold rp eG;generalize decide ((n.tmod 9223372036854775808)>9218868437227405312)=b;cases b<;>rfl
theorem yy(m:Nat)(h:nH .f64 m):rp (m:Int)=9221120237041090561:=by
 have h1:(9218868437227405312:Int)<(m:Int).tmod 9223372036854775808:=by have h2:=GY h;have h3:(m:Int).tmod 9223372036854775808=((m %9223372036854775808:Nat):Int):=rfl;omega
 unfold rp eG;rw[decide_eq_true h1];rfl
def jT(x:Nat):Option Int:=DD rp x
def I6:pE:=⟨[(false,.x (.f .f64))],[([.x (.i .u64)],[])],true,[],fun p=>match p with|x=>jT x⟩
theorem Il:gg prog 83 I6:=Fm (dG:=I_) iV (Hb (a:=82) (c:=22) (yj (by kernel_rfl) (by kernel_rfl)) (fun n=>Ay.2 n _ (pC n))) (fun m=>by kernel_rfl) yy
def lA(n_0:Int)(span_1:Int):Option Int:=
 (jT (AZ .f64 (FloatKind.nearest .f64 n_0) (FloatKind.nearest .f64 span_1))).bind fun r1=>
 some r1
def I5:pE:=⟨[(false,.x (.i .i64)),(false,.x (.i .i64))],[([.x (.i .u64)],[])],true,[],fun p=>match p with|(n_0,span_1)=>lA n_0 span_1⟩
theorem Jk:gg prog 21 I5:=iF iV kx (dG:=dG) (np:=2) (an:=[]) (.cons Ay (.cons Il .nil)) (by kernel_rfl) (by kernel_rfl)
def jc(n_0:Int):Option Int:=
 (eG n_0).bind fun r1=>
 bif(r1==9221120237041090561)then(some 0)else
 (bif(r1==18442240474082181120)then(some 1)else
 (bif decide (r1>9223372036854775808)then(some 2)else
 (bif(r1==9223372036854775808)then(some 3)else
 (bif(r1==0)then(some 4)else
 (bif decide (r1<9218868437227405312)then(some 5)else
 (some 6))))))
def I4:pE:=⟨[(false,.x (.i .u64))],[([.x (.i .i64)],[])],true,[],fun p=>match p with|n_0=>jc n_0⟩
theorem Ik:gg prog 85 I4:=iF iV kx (dG:=dG) (np:=1) (an:=[]) (.cons Ay .nil) (by kernel_rfl) (by kernel_rfl)
def jK(n_0:Int):Option Bool:=
 (jc n_0).bind fun r1=>
 some (r1==0)
def I3:pE:=⟨[(false,.x (.i .u64))],[([.x .b],[])],true,[],fun p=>match p with|n_0=>jK n_0⟩
theorem Jj:gg prog 84 I3:=iF iV kx (dG:=dG) (np:=1) (an:=[]) (.cons Ik .nil) (by kernel_rfl) (by kernel_rfl)
def gL(n_0:Int):Option Int:=
 (eG n_0).bind fun r1=>
 bif decide (r1>=9223372036854775808)then(some (wr .u64 (9223372036854775807-(r1.tmod 9223372036854775808))))else
 (some (wr .u64 (9223372036854775808+r1)))
def I2:pE:=⟨[(false,.x (.i .u64))],[([.x (.i .u64)],[])],true,[],fun p=>match p with|n_0=>gL n_0⟩
theorem Ji:gg prog 128 I2:=iF iV kx (dG:=dG) (np:=1) (an:=[]) (.cons Ay .nil) (by kernel_rfl) (by kernel_rfl)
def i_(a_0:Int)(b_1:Int):Option Int:=
 (gL a_0).bind fun r1=>
 (gL b_1).bind fun r2=>
 bif decide (r1<r2)then(some (-1))else
 ((gL a_0).bind fun r3=>
 (gL b_1).bind fun r4=>
 bif decide (r3>r4)then(some 1)else
 (some 0))
def I1:pE:=⟨[(false,.x (.i .u64)),(false,.x (.i .u64))],[([.x (.i .i64)],[])],true,[],fun p=>match p with|(a_0,b_1)=>i_ a_0 b_1⟩
theorem Jh:gg prog 86 I1:=iF iV kx (dG:=dG) (np:=2) (an:=[]) (.cons Ji .nil) (by kernel_rfl) (by kernel_rfl)
def mG(old_0:Int)(x_1:Int)(share_2:Int):Option Int:=
 (jK old_0).bind fun r1=>
 bif r1 then((eG x_1).bind fun r2=>
 some r2)else
 (((jK x_1).bind fun r3=>
 bif r3 then(some true)else
 ((jK share_2).bind fun r4=>
 bif r4 then(some true)else
 ((jc share_2).bind fun r5=>
 some (decide (r5<5)))):Option Bool).bind fun b6=>
 bif b6 then(some old_0)else
 ((i_ share_2 4607182418800017408).bind fun r7=>
 bif decide (r7>=0)then(some x_1)else
 ((lJ share_2).bind fun r8=>
 (lJ old_0).bind fun r9=>
 (lJ x_1).bind fun r10=>
 (jT (Dd .f64 (yf .f64 r9 (E3 .f64 4607182418800017408 r8)) (yf .f64 r10 r8))).bind fun r11=>
 some r11)))
def I0:pE:=⟨[(false,.x (.i .u64)),(false,.x (.i .u64)),(false,.x (.i .u64))],[([.x (.i .u64)],[])],true,[],fun p=>match p with|(old_0,x_1,share_2)=>mG old_0 x_1 share_2⟩
theorem Jg:gg prog 23 I0:=iF iV kx (dG:=dG) (np:=3) (an:=[(11,{j:=some {vs:=[(25,.x .b)]}})]) (.cons Jj (.cons Ay (.cons Ik (.cons Jh (.cons Jn (.cons Il .nil)))))) (by kernel_rfl) (by kernel_rfl)
def i5(n_0:Int)(span_1:Int)(old_2:Int)(x_3:Int)(share_4:Int):Option Bool:=
 bif((((decide (n_0<(-1125899906842624)))||(decide (n_0>1125899906842624)))||(decide (span_1<(-1125899906842624))))||(decide (span_1>1125899906842624)))then((mg).bind fun r1=>
 some r1)else
 (((lF n_0 span_1).bind fun r2=>
 (i6 r2).bind fun r3=>
 (lA n_0 span_1).bind fun r4=>
 bif(r3==r4)then((kY old_2).bind fun r5=>
 (kY x_3).bind fun r6=>
 (kY share_4).bind fun r7=>
 (mI r5 r6 r7).bind fun r8=>
 (i6 r8).bind fun r9=>
 (mG old_2 x_3 share_4).bind fun r10=>
 (eG r10).bind fun r11=>
 bif(r9==r11)then((mg).bind fun r12=>
 some r12)else
 (some false))else
 (some false):Option Bool).bind fun b13=>
 some b13)
def IZ:pE:=⟨[(false,.x (.i .i64)),(false,.x (.i .i64)),(false,.x (.i .u64)),(false,.x (.i .u64)),(false,.x (.i .u64))],[([.x .b],[])],true,[],fun p=>match p with|(n_0,span_1,old_2,x_3,share_4)=>i5 n_0 span_1 old_2 x_3 share_4⟩
theorem Jf:gg prog 4 IZ:=iF iV kx (dG:=dG) (np:=5) (an:=[(8,{j:=some {vs:=[(10,.x .b)]}})]) (.cons J0 (.cons JX (.cons Jl (.cons Jk (.cons J1 (.cons JY (.cons Jg (.cons Ay .nil)))))))) (by kernel_rfl) (by kernel_rfl)
end Go.Proofs.Ytingpmogbibghaa.M
