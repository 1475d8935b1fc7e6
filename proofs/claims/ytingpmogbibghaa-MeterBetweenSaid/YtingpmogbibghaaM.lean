/- What functions of the program compute, and that the model's run computes it. Conditions: as stated. -/
import Derived.Test.YtingpmogbibghaaKo
import Derived.Test.YtingpmogbibghaaChecked
import Derived.KernelRfl
open Go.Ev Go
noncomputable section
namespace Go.Proofs.Ytingpmogbibghaa.M
abbrev prog:Program:=Try.prog
theorem iV:prog.follows .mixedOrders=true:=by kernel_rfl
theorem kx:Mi:=G2 fun _=>rfl
def QC:pT:=fun f=>if f=3 then(true,[])else if f=4 then(true,[])else if f=5 then(true,[])else if f=6 then(true,[])else if f=14 then(true,[])else if f=15 then(true,[])else if f=16 then(true,[])else if f=17 then(true,[])else if f=18 then(true,[])else if f=19 then(true,[])else if f=20 then(true,[])else if f=21 then(true,[])else if f=22 then(true,[])else if f=23 then(true,[])else if f=26 then(true,[])else if f=29 then(true,[])else if f=30 then(true,[])else if f=31 then(true,[])else if f=32 then(true,[])else if f=33 then(true,[])else if f=36 then(false,[true,false])else if f=37 then(false,[true,false])else if f=38 then(false,[true,false])else if f=39 then(false,[true,false])else if f=40 then(true,[])else if f=41 then(true,[])else if f=42 then(true,[])else if f=61 then(true,[])else if f=79 then(true,[])else if f=80 then(true,[])else if f=81 then(true,[])else if f=83 then(true,[])else if f=84 then(true,[])else if f=85 then(true,[])else if f=86 then(true,[])else if f=87 then(true,[true,false])else if f=89 then(true,[])else if f=90 then(true,[])else if f=91 then(true,[])else if f=126 then(true,[])else if f=127 then(true,[])else if f=128 then(true,[])else if f=129 then(true,[true,false,false])else if f=130 then(true,[])else if f=148 then(true,[])else if f=149 then(true,[true,false,false,false])else if f=150 then(true,[true,false,false,false,false])else if f=162 then(true,[true,false,false,false,false])else if f=163 then(true,[true,false,false,false,false])else if f=165 then(true,[true,false,false,false,false])else if f=176 then(true,[true,false,false,false,false])else(false,[])
theorem Jn:gg prog 78 (rb true):=yh (by kernel_rfl) (by kernel_rfl)
def kY(n_0:Int):Option Nat:=
 (lJ n_0).bind fun r1=>
 some r1
def JW:pE:=⟨[(false,.x (.i .u64))],[([.x (.f .f64)],[])],true,[],fun p=>match p with|n_0=>kY n_0⟩
theorem J1:gg prog 14 JW:=iF iV kx (QC:=QC) (np:=1) (an:=[]) (.cons Jn .nil) (by kernel_rfl) (by kernel_rfl)
def Kq(n_0:Int):Option Bool:=some ((decide (n_0<=9218868437227405312))||(n_0==9223372036854775808))
def Lv:pE:=⟨[(false,.x (.i .u64))],[([.x .b],[])],true,[],fun p=>match p with|n_0=>Kq n_0⟩
theorem Ly:gg prog 15 Lv:=iF iV kx (QC:=QC) (np:=1) (an:=[]) .nil (by kernel_rfl) (by kernel_rfl)
def I9:pT:=fun f=>([16,17,20,29,33,40,42,79,80,81,87,89,90,91,126,127,129,130,148,149,150,162,176].contains f,(bv [(36,[true]),(38,[true]),(87,[true]),(129,[true]),(149,[true]),(150,[true]),(162,[true]),(176,[true])] f).getD [])
def mg:Option Bool:=some true
theorem oY:mg=some true:=rfl
def JU:pE:=⟨[],[([.x .b],[])],true,[],fun _=>some true⟩
theorem J0:gg prog 16 JU:=BT (QC:=I9) (ex:=Ju 82 78) (d:=200) iV (Ha (by kernel_rfl) (by kernel_rfl) (by kernel_rfl) (by kernel_rfl)) (by kernel_rfl)
def jM(x_0:Nat):Option Bool:=some (!(wT .f64 x_0 x_0))
def JT:pE:=⟨[(false,.x (.f .f64))],[([.x .b],[])],true,[],fun p=>match p with|x_0=>jM x_0⟩
theorem JZ:gg prog 80 JT:=iF iV kx (QC:=QC) (np:=1) (an:=[]) .nil (by kernel_rfl) (by kernel_rfl)
def iw(x_0:Nat):Option Nat:=
 bif(!(wT .f64 x_0 x_0))then((lJ 9221120237041090561).bind fun r1=>
 some r1)else
 (some x_0)
def JS:pE:=⟨[(false,.x (.f .f64))],[([.x (.f .f64)],[])],true,[],fun p=>match p with|x_0=>iw x_0⟩
theorem JJ:gg prog 81 JS:=iF iV kx (QC:=QC) (np:=1) (an:=[]) (.cons Jn .nil) (by kernel_rfl) (by kernel_rfl)
def mI(old_0:Nat)(x_1:Nat)(share_2:Nat):Option Nat:=
 (jM old_0).bind fun r1=>
 bif r1 then((iw x_1).bind fun r2=>
 some r2)else
 (((jM x_1).bind fun r3=>
 bif r3 then(some true)else
 ((jM share_2).bind fun r4=>
 some (r4||(H4 .f64 share_2 0||wT .f64 share_2 0))):Option Bool).bind fun b5=>
 bif b5 then(some old_0)else
 (bif(H5 .f64 share_2 4607182418800017408||wT .f64 share_2 4607182418800017408)then(some x_1)else
 ((iw (Dd .f64 (yf .f64 old_0 (E3 .f64 4607182418800017408 share_2)) (yf .f64 x_1 share_2))).bind fun r6=>
 some r6)))
def JR:pE:=⟨[(false,.x (.f .f64)),(false,.x (.f .f64)),(false,.x (.f .f64))],[([.x (.f .f64)],[])],true,[],fun p=>match p with|(old_0,x_1,share_2)=>mI old_0 x_1 share_2⟩
theorem JY:gg prog 17 JR:=iF iV kx (QC:=QC) (np:=3) (an:=[(8,{j:=some {vs:=[(14,.x .b)]}})]) (.cons JZ (.cons JJ .nil)) (by kernel_rfl) (by kernel_rfl)
def Kt(x_0:Nat):Option Bool:=some (H5 .f64 x_0 0||wT .f64 x_0 0)
def Lu:pE:=⟨[(false,.x (.f .f64))],[([.x .b],[])],true,[],fun p=>match p with|x_0=>Kt x_0⟩
theorem Lx:gg prog 18 Lu:=iF iV kx (QC:=QC) (np:=1) (an:=[]) .nil (by kernel_rfl) (by kernel_rfl)
def Kl(old_0:Int)(x_1:Int)(share_2:Int):Option Bool:=
 (kY old_0).bind fun r1=>
 (kY x_1).bind fun r2=>
 (kY share_2).bind fun r3=>
 ((Kq old_0).bind fun r4=>
 bif(!r4)then(some true)else
 ((Kq x_1).bind fun r5=>
 bif(!r5)then(some true)else
 ((Kq share_2).bind fun r6=>
 bif(!r6)then(some true)else
 (bif((decide (old_0>=9218868437227405312))&&(old_0 !=9223372036854775808))then(some true)else
 (some (((decide (x_1>=9218868437227405312))&&(x_1 !=9223372036854775808))||(H5 .f64 r3 4607182418800017408)))))):Option Bool).bind fun b7=>
 bif b7 then((mg).bind fun r8=>
 some r8)else
 ((mI r1 r2 r3).bind fun r9=>
 (mI r1 r1 r3).bind fun r10=>
 ((Kt r9).bind fun r11=>
 bif((r11&&(H5 .f64 r10 0||wT .f64 r10 0))&&(H4 .f64 r10 (Dd .f64 r1 r1)||wT .f64 r10 (Dd .f64 r1 r1)))then((mg).bind fun r12=>
 some r12)else
 (some false):Option Bool).bind fun b13=>
 some b13)
def Lt:pE:=⟨[(false,.x (.i .u64)),(false,.x (.i .u64)),(false,.x (.i .u64))],[([.x .b],[])],true,[],fun p=>match p with|(old_0,x_1,share_2)=>Kl old_0 x_1 share_2⟩
theorem Lw:gg prog 3 Lt:=iF iV kx (QC:=QC) (np:=3) (an:=[(6,{j:=some {vs:=[(50,.x .b)]}}),(12,{j:=some {vs:=[(6,.x .b)]}})]) (.cons J1 (.cons Ly (.cons J0 (.cons JY (.cons Lx .nil))))) (by kernel_rfl) (by kernel_rfl)
end Go.Proofs.Ytingpmogbibghaa.M
