/- What functions of the program compute, and that the model's run computes it. Conditions: as stated. -/
import Derived.Test.YtpnnnoagjcpmhaaDoorKm
import Derived.Test.YtpnnnoagjcpmhaaDoorChecked
import Derived.KernelRfl
open Option.some renaming inj->aa
open Go.Ev Go
noncomputable section
namespace Go.Proofs.YtpnnnoagjcpmhaaDoor.O
abbrev prog:Program:=Tryd.prog
theorem mixed:prog.follows .mixedOrders=true:=by kernel_rfl
def HN:Arr 32 Int:=⟨[0,1,28,2,29,14,24,3,30,22,20,15,25,17,4,8,31,27,13,23,21,19,16,7,26,12,18,6,11,5,10,9],rfl⟩
theorem eR:kg:=Fe (v:=.pt (.ar 32 (.i .u8)) HN) (fun g w h=>by
 unfold Jv at h;split at h
 .rename_i e;exact⟨e,(aa h).symm⟩
 .cases h) rfl (fun h n=>⟨bM (c_ rfl ⟨rfl,rfl⟩),trivial,rfl⟩)
def da:uY:=fun f=>if f=18 then(true,[])else if f=33 then(true,[])else if f=34 then(true,[])else if f=58 then(true,[])else(false,[])
@[reducible] def ap:Type:=Int×Int×Int×Int
@[reducible] def ap.Sw (x:ap):Int:=x.1
@[reducible] def ap.uG (x:ap):Int:=x.2.1
@[reducible] def ap.uZ (x:ap):Int:=x.2.2.2
@[reducible] def y0:Ty:=.st (.pr (.i .i64) (.pr (.i .i64) (.pr (.i .i64) (.i .i64))))
def mi(x_0:Int):Option Bool:=some (x_0 !=x_0)
def Qa:l8:=⟨[(false,.x (.i .i64))],[([.x .b],[])],true,[],fun p=>match p with|x_0=>mi x_0⟩
theorem Rq:dq prog 58 Qa:=dh mixed eR (da:=da) (np:=1) (an:=[]) .nil (by kernel_rfl) (by kernel_rfl)
def ii(x_0:Int)(y_1:Int):Option Int:=
 (mi x_0).bind fun r1=>
 (mi y_1).bind fun r2=>
 bif r1 then(bif r2 then(some 0)else
 (some (-1)))else
 (bif r2 then(some 1)else
 (bif decide (x_0<y_1)then(some (-1))else
 (bif decide (x_0>y_1)then(some 1)else
 (some 0))))
def QQ:l8:=⟨[(false,.x (.i .i64)),(false,.x (.i .i64))],[([.x (.i .i64)],[])],true,[],fun p=>match p with|(x_0,y_1)=>ii x_0 y_1⟩
theorem Rp:dq prog 34 QQ:=dh mixed eR (da:=da) (np:=2) (an:=[]) (.cons Rq .nil) (by kernel_rfl) (by kernel_rfl)
def oT(vals_0:Sl Int):Int->Option (Int⊕(Int⊕Unit)):=fun i2=>
 bif decide (i2<(vals_0.l.length:Int))then((fD i2 vals_0.l.length).bind fun n3=>
 bif((gt vals_0.l n3) !=0)then(some (.inr (.inl (gt vals_0.l n3))))else
 (some (.inl (wr .i64 (i2+1)))))else
 (some (.inr (.inr ())))
def qa(vals_0:Sl Int):Option Int:=
 (bL (oT vals_0) 0).bind fun
 |.inl i4=>(some i4)
 |.inr _=>(some 0)
def QF:l8:=⟨[(false,.x (.sl (.i .i64)))],[([.x (.i .i64)],[])],true,[],fun p=>match p with|vals_0=>qa vals_0⟩
theorem Rh:dq prog 33 QF:=dh mixed eR (da:=da) (np:=1) (an:=[(7,{j:=some {vs:=[(8,.x (.i .i64))]},e:=[(.ret,{vs:=[(2,.x (.i .i64))]}),(.exit 0,{})]})]) .nil (by kernel_rfl) (by kernel_rfl)
def qH(a_0:ap)(b_1:ap):Option Int:=
 (ii (ap.uZ a_0) (ap.uZ b_1)).bind fun r1=>
 (ii (ap.Sw a_0) (ap.Sw b_1)).bind fun r2=>
 (ii (ap.uG a_0) (ap.uG b_1)).bind fun r3=>
 (qa (Sl.mk [r1,r2,r3])).bind fun r4=>
 some r4
def Qx:l8:=⟨[(false,.x y0),(false,.x y0)],[([.x (.i .i64)],[])],true,[],fun p=>match p with|(a_0,b_1)=>qH a_0 b_1⟩
theorem Qc:dq prog 18 Qx:=dh mixed eR (da:=da) (np:=2) (an:=[]) (.cons Rp (.cons Rh .nil)) (by kernel_rfl) (by kernel_rfl)
end Go.Proofs.YtpnnnoagjcpmhaaDoor.O
