/- What functions of the program compute, and that the model's run computes it. Conditions: as stated. -/
import Derived.Test.YthcplpfiidlinaaDoorKm
import Derived.Test.YthcplpfiidlinaaDoorChecked
import Derived.KernelRfl
open Option.some renaming inj->aa
open Go.Ev Go
noncomputable section
namespace Go.Proofs.YthcplpfiidlinaaDoor.O
abbrev prog:Program:=Tryd.prog
theorem mixed:prog.follows .mixedOrders=true:=by kernel_rfl
def Ii:Arr 32 Int:=⟨[0,1,28,2,29,14,24,3,30,22,20,15,25,17,4,8,31,27,13,23,21,19,16,7,26,12,18,6,11,5,10,9],rfl⟩
theorem dM:lQ:=HH (v:=.pt (.ar 32 (.i .u8)) Ii) (fun g w h=>by
 unfold L6 at h;split at h
 .rename_i e;exact⟨e,(aa h).symm⟩
 .cases h) rfl (fun h n=>⟨ct (dY rfl ⟨rfl,rfl⟩),trivial,rfl⟩)
def df:AB:=fun f=>if f=43 then(true,[])else if f=79 then(true,[])else if f=80 then(true,[])else if f=112 then(true,[])else(false,[])
@[reducible] def ae:Type:=Int×Int×Int×Int
@[reducible] def ae.Sw (x:ae):Int:=x.1
@[reducible] def ae.mI (x:ae):Int:=x.2.1
@[reducible] def ae.uv (x:ae):Int:=x.2.2.2
@[reducible] def y0:Ty:=.st (.pr (.i .i64) (.pr (.i .i64) (.pr (.i .i64) (.i .i64))))
def oh(x_0:Int):Option Bool:=some (x_0 !=x_0)
def S5:lD:=⟨[(false,.x (.i .i64))],[([.x .b],[])],true,[],fun p=>match p with|x_0=>oh x_0⟩
theorem S7:cY prog 112 S5:=cH mixed dM (df:=df) (np:=1) (an:=[]) .nil (by kernel_rfl) (by kernel_rfl)
def jr(x_0:Int)(y_1:Int):Option Int:=
 (oh x_0).bind fun r1=>
 (oh y_1).bind fun r2=>
 bif r1 then(bif r2 then(some 0)else
 (some (-1)))else
 (bif r2 then(some 1)else
 (bif decide (x_0<y_1)then(some (-1))else
 (bif decide (x_0>y_1)then(some 1)else
 (some 0))))
def Vm:lD:=⟨[(false,.x (.i .i64)),(false,.x (.i .i64))],[([.x (.i .i64)],[])],true,[],fun p=>match p with|(x_0,y_1)=>jr x_0 y_1⟩
theorem Vs:cY prog 80 Vm:=cH mixed dM (df:=df) (np:=2) (an:=[]) (.cons S7 .nil) (by kernel_rfl) (by kernel_rfl)
def qF(vals_0:Sl Int):Int->Option (Int⊕(Int⊕Unit)):=fun i2=>
 bif decide (i2<(vals_0.l.length:Int))then((fk i2 vals_0.l.length).bind fun n3=>
 bif((gt vals_0.l n3) !=0)then(some (.inr (.inl (gt vals_0.l n3))))else
 (some (.inl (wr .i64 (i2+1)))))else
 (some (.inr (.inr ())))
def rR(vals_0:Sl Int):Option Int:=
 (bE (qF vals_0) 0).bind fun
 |.inl i4=>(some i4)
 |.inr _=>(some 0)
def TU:lD:=⟨[(false,.x (.sl (.i .i64)))],[([.x (.i .i64)],[])],true,[],fun p=>match p with|vals_0=>rR vals_0⟩
theorem UJ:cY prog 79 TU:=cH mixed dM (df:=df) (np:=1) (an:=[(7,{j:=some {vs:=[(8,.x (.i .i64))]},e:=[(.ret,{vs:=[(2,.x (.i .i64))]}),(.exit 0,{})]})]) .nil (by kernel_rfl) (by kernel_rfl)
def sW(a_0:ae)(b_1:ae):Option Int:=
 (jr (ae.uv a_0) (ae.uv b_1)).bind fun r1=>
 (jr (ae.Sw a_0) (ae.Sw b_1)).bind fun r2=>
 (jr (ae.mI a_0) (ae.mI b_1)).bind fun r3=>
 (rR (Sl.mk [r1,r2,r3])).bind fun r4=>
 some r4
def TJ:lD:=⟨[(false,.x y0),(false,.x y0)],[([.x (.i .i64)],[])],true,[],fun p=>match p with|(a_0,b_1)=>sW a_0 b_1⟩
theorem UC:cY prog 43 TJ:=cH mixed dM (df:=df) (np:=2) (an:=[]) (.cons Vs (.cons UJ .nil)) (by kernel_rfl) (by kernel_rfl)
end Go.Proofs.YthcplpfiidlinaaDoor.O
