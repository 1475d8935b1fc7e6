/- What functions of the program compute, and that the model's run computes it. Conditions: as stated. -/
import Derived.Test.YthcplpfiidlinaaDoorKm
import Derived.Test.YthcplpfiidlinaaDoorChecked
import Derived.KernelRfl
open Go.Ev Go
noncomputable section
open Option.some renaming inj->aa
namespace Go.Proofs.YthcplpfiidlinaaDoor.O
abbrev prog:Program:=Tryd.prog
theorem mixed:prog.follows .mixedOrders=true:=by kernel_rfl
def H8:Arr 32 Int:=⟨[0,1,28,2,29,14,24,3,30,22,20,15,25,17,4,8,31,27,13,23,21,19,16,7,26,12,18,6,11,5,10,9],rfl⟩
theorem dH:lN:=Hw (v:=.pt (.ar 32 (.i .u8)) H8) (fun g w h=>by
 unfold LW at h;split at h
 .rename_i e;exact⟨e,(aa h).symm⟩
 .cases h) rfl (fun h n=>⟨ct (dV rfl ⟨rfl,rfl⟩),trivial,rfl⟩)
def de:As:=fun f=>if f=43 then(true,[])else if f=79 then(true,[])else if f=80 then(true,[])else if f=112 then(true,[])else(false,[])
@[reducible] def ae:Type:=Int×Int×Int×Int
@[reducible] def ae.Sw (x:ae):Int:=x.1
@[reducible] def ae.mC (x:ae):Int:=x.2.1
@[reducible] def ae.uj (x:ae):Int:=x.2.2.2
@[reducible] def y0:Ty:=.st (.pr (.i .i64) (.pr (.i .i64) (.pr (.i .i64) (.i .i64))))
def oe(x_0:Int):Option Bool:=some (x_0 !=x_0)
def SO:lB:=⟨[(false,.x (.i .i64))],[([.x .b],[])],true,[],fun p=>match p with|x_0=>oe x_0⟩
theorem SQ:cY prog 112 SO:=cH mixed dH (de:=de) (np:=1) (an:=[]) .nil (by kernel_rfl) (by kernel_rfl)
def jp(x_0:Int)(y_1:Int):Option Int:=
 (oe x_0).bind fun r1=>
 (oe y_1).bind fun r2=>
 bif r1 then(bif r2 then(some 0)else
 (some (-1)))else
 (bif r2 then(some 1)else
 (bif decide (x_0<y_1)then(some (-1))else
 (bif decide (x_0>y_1)then(some 1)else
 (some 0))))
def Vb:lB:=⟨[(false,.x (.i .i64)),(false,.x (.i .i64))],[([.x (.i .i64)],[])],true,[],fun p=>match p with|(x_0,y_1)=>jp x_0 y_1⟩
theorem Vi:cY prog 80 Vb:=cH mixed dH (de:=de) (np:=2) (an:=[]) (.cons SQ .nil) (by kernel_rfl) (by kernel_rfl)
def qv(vals_0:Sl Int):Int->Option (Int⊕(Int⊕Unit)):=fun i2=>
 bif decide (i2<(vals_0.l.length:Int))then((e9 i2 vals_0.l.length).bind fun n3=>
 bif((gt vals_0.l n3) !=0)then(some (.inr (.inl (gt vals_0.l n3))))else
 (some (.inl (wr .i64 (i2+1)))))else
 (some (.inr (.inr ())))
def rI(vals_0:Sl Int):Option Int:=
 (bD (qv vals_0) 0).bind fun
 |.inl i4=>(some i4)
 |.inr _=>(some 0)
def TI:lB:=⟨[(false,.x (.sl (.i .i64)))],[([.x (.i .i64)],[])],true,[],fun p=>match p with|vals_0=>rI vals_0⟩
theorem Ux:cY prog 79 TI:=cH mixed dH (de:=de) (np:=1) (an:=[(7,{j:=some {vs:=[(8,.x (.i .i64))]},e:=[(.ret,{vs:=[(2,.x (.i .i64))]}),(.exit 0,{})]})]) .nil (by kernel_rfl) (by kernel_rfl)
def sO(a_0:ae)(b_1:ae):Option Int:=
 (jp (ae.uj a_0) (ae.uj b_1)).bind fun r1=>
 (jp (ae.Sw a_0) (ae.Sw b_1)).bind fun r2=>
 (jp (ae.mC a_0) (ae.mC b_1)).bind fun r3=>
 (rI (Sl.mk [r1,r2,r3])).bind fun r4=>
 some r4
def Tw:lB:=⟨[(false,.x y0),(false,.x y0)],[([.x (.i .i64)],[])],true,[],fun p=>match p with|(a_0,b_1)=>sO a_0 b_1⟩
theorem Uq:cY prog 43 Tw:=cH mixed dH (de:=de) (np:=2) (an:=[]) (.cons Vi (.cons Ux .nil)) (by kernel_rfl) (by kernel_rfl)
end Go.Proofs.YthcplpfiidlinaaDoor.O
