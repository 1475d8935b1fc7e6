/- What functions of the program compute, and that the model's run computes it. Conditions: as stated. -/
import Derived.Test.YthcplpfiidlinaaKm
import Derived.Test.YthcplpfiidlinaaChecked
import Derived.KernelRfl
open Go.Ev Go
namespace Go.Proofs.Ythcplpfiidlinaa.O
noncomputable abbrev prog:Program:=Try.prog
theorem mixed:prog.follows .mixedOrders=true:=by kernel_rfl
theorem glbok:GlbOk:=qso λ_=>rfl
def sig:Sig:=λf=>
 if f=36 then (true, [])else if f=59 then (true, [])else if f=60 then (true, [])else if f=87 then (true, [])else (false, [])
@[reducible] def level_Move:Type:=Int×Int×Int×Int
@[reducible] def level_Move.Sw (x:level_Move):Int:=x.1
@[reducible] def level_Move.Host (x:level_Move):Int:=x.2.1
@[reducible] def level_Move.Round (x:level_Move):Int:=x.2.2.2
@[reducible] def y0:Ty:= .st (.pr (.i .i64) (.pr (.i .i64) (.pr (.i .i64) (.i .i64))))
noncomputable def cmp_isNaN_int(x_0:Int):Option Bool:=
 some (x_0 != x_0)
noncomputable def sp0:Spc:=⟨[(false, .x (.i .i64))], [([.x .b], [])],true, [],λp=>match p with | x_0=>cmp_isNaN_int x_0⟩
theorem ok0:SpcOk prog 87 sp0:=q0f mixed glbok (sig:=sig) (np:=1) (an:= []) .nil (by kernel_rfl) (by kernel_rfl)
noncomputable def cmp_Compare_int(x_0:Int)(y_1:Int):Option Int:=
 (cmp_isNaN_int x_0).bind λr1=>
 (cmp_isNaN_int y_1).bind λr2=>
 bif r1 then (bif r2 then (some 0)else
 (some (-1)))else
 (bif r2 then (some 1)else
 (bif decide (x_0 < y_1)then (some (-1))else
 (bif decide (x_0 > y_1)then (some 1)else
 (some 0))))
noncomputable def sp1:Spc:=⟨[(false, .x (.i .i64)),(false, .x (.i .i64))], [([.x (.i .i64)], [])],true, [],λp=>match p with | (x_0,y_1)=>cmp_Compare_int x_0 y_1⟩
theorem ok1:SpcOk prog 60 sp1:=q0f mixed glbok (sig:=sig) (np:=2) (an:= []) (.cons ok0 .nil) (by kernel_rfl) (by kernel_rfl)
noncomputable def cmp_Or_int_L1(vals_0:Sl Int):Int->Option (Int ⊕ (Int ⊕ Unit)):=λi2=>
 bif decide (i2 < (vals_0.l.length:Int))then ((ixI i2 vals_0.l.length).bind λn3=>
 bif ((gt vals_0.l n3) != 0)then (some (.inr (.inl (gt vals_0.l n3))))else
 (some (.inl (wr .i64 (i2+1)))))else
 (some (.inr (.inr ())))
noncomputable def cmp_Or_int(vals_0:Sl Int):Option Int:=
 (loopO (cmp_Or_int_L1 vals_0) 0).bind fun
 | .inl i4=>(some i4)
 | .inr _=>(some 0)
noncomputable def sp2:Spc:=⟨[(false, .x (.sl (.i .i64)))], [([.x (.i .i64)], [])],true, [],λp=>match p with | vals_0=>cmp_Or_int vals_0⟩
theorem ok2:SpcOk prog 59 sp2:=q0f mixed glbok (sig:=sig) (np:=1) (an:= [(7, { j:=some { vs:= [(8, .x (.i .i64))] },e:= [(.ret, { vs:= [(2, .x (.i .i64))] }),(.exit 0, {})] })]) .nil (by kernel_rfl) (by kernel_rfl)
noncomputable def level_order(a_0:level_Move)(b_1:level_Move):Option Int:=
 (cmp_Compare_int (level_Move.Round a_0) (level_Move.Round b_1)).bind λr1=>
 (cmp_Compare_int (level_Move.Sw a_0) (level_Move.Sw b_1)).bind λr2=>
 (cmp_Compare_int (level_Move.Host a_0) (level_Move.Host b_1)).bind λr3=>
 (cmp_Or_int (Sl.mk [r1,r2,r3])).bind λr4=>
 some r4
noncomputable def sp3:Spc:=⟨[(false, .x y0),(false, .x y0)], [([.x (.i .i64)], [])],true, [],λp=>match p with | (a_0,b_1)=>level_order a_0 b_1⟩
theorem ok3:SpcOk prog 36 sp3:=q0f mixed glbok (sig:=sig) (np:=2) (an:= []) (.cons ok1 (.cons ok2 .nil)) (by kernel_rfl) (by kernel_rfl)
end Go.Proofs.Ythcplpfiidlinaa.O
