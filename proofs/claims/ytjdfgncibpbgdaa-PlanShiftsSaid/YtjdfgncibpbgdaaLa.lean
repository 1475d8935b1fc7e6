/- What functions of the program compute, and that the model's run computes it. Conditions: as stated. -/
import Derived.Test.YtjdfgncibpbgdaaKm
import Derived.Test.YtjdfgncibpbgdaaChecked
import Derived.KernelRfl
open Go.Ev Go
namespace Go.Proofs.Ytjdfgncibpbgdaa.O
noncomputable abbrev prog : Program := Try.prog
theorem mixed : prog.follows .mixedOrders = true := by kernel_rfl
theorem glbok : GlbOk := qrb fun _ => rfl
def sig : Sig := fun f =>
 if f = 2 then (true, []) else if f = 3 then (true, []) else if f = 4 then (true, []) else if f = 5 then (true, []) else if f = 6 then (true, []) else if f = 7 then (true, []) else if f = 8 then (true, []) else if f = 9 then (true, []) else if f = 10 then (true, []) else if f = 11 then (true, []) else if f = 12 then (true, []) else if f = 15 then (true, []) else if f = 16 then (true, []) else if f = 17 then (true, []) else if f = 19 then (true, []) else if f = 21 then (true, []) else if f = 24 then (true, []) else if f = 25 then (true, []) else if f = 26 then (true, []) else if f = 27 then (true, []) else if f = 29 then (true, []) else if f = 30 then (true, []) else if f = 32 then (true, []) else if f = 35 then (false, [true, false]) else if f = 36 then (true, []) else if f = 37 then (true, []) else if f = 38 then (true, []) else if f = 40 then (false, [true, false]) else if f = 42 then (true, []) else if f = 43 then (true, []) else if f = 47 then (true, []) else if f = 49 then (true, []) else if f = 50 then (true, []) else if f = 51 then (true, []) else if f = 52 then (true, []) else if f = 53 then (true, []) else if f = 54 then (false, [true]) else if f = 55 then (false, [true]) else if f = 57 then (false, [true, false, false, false, false]) else if f = 58 then (true, []) else if f = 59 then (true, []) else if f = 60 then (true, []) else if f = 61 then (true, []) else if f = 62 then (true, []) else if f = 63 then (true, []) else if f = 64 then (true, []) else if f = 68 then (true, []) else if f = 70 then (true, []) else if f = 71 then (true, []) else if f = 72 then (true, []) else if f = 73 then (false, [true, false, false, false]) else if f = 74 then (true, []) else if f = 75 then (true, []) else if f = 76 then (true, []) else if f = 77 then (false, [true, false, false, false]) else if f = 78 then (false, [true, false, false, false]) else if f = 79 then (false, [true, false, false, false]) else if f = 80 then (true, []) else if f = 81 then (false, [true, false, false, false]) else if f = 82 then (false, [true, false, false, false]) else if f = 83 then (false, [true, false, false, false, false]) else if f = 84 then (false, [true, false, false, false, false]) else if f = 85 then (true, []) else if f = 86 then (true, []) else if f = 87 then (true, []) else if f = 89 then (true, []) else if f = 90 then (true, []) else if f = 91 then (true, []) else if f = 93 then (true, []) else if f = 94 then (false, [true, false, false]) else if f = 95 then (false, [true, false, false]) else if f = 96 then (false, [true, false, false]) else if f = 97 then (true, []) else if f = 98 then (false, [true, false, false]) else if f = 99 then (false, [true, false, false]) else if f = 100 then (true, []) else if f = 101 then (false, [true, false, false, false]) else if f = 102 then (false, [true, false, false, false]) else if f = 103 then (true, []) else if f = 104 then (false, [true, false, false, false, false]) else if f = 105 then (true, []) else if f = 106 then (false, [true]) else if f = 107 then (false, [false, false, true, false]) else if f = 108 then (false, [false, false, false, false, true, false]) else if f = 109 then (true, []) else if f = 110 then (true, []) else if f = 111 then (true, []) else if f = 112 then (true, []) else if f = 113 then (false, [true, false, false, false]) else if f = 114 then (false, [false, false, true]) else if f = 115 then (false, [false, false, false, false, true]) else if f = 116 then (false, [false, false, false, true, false]) else if f = 117 then (true, []) else if f = 118 then (true, []) else if f = 119 then (false, [false, false, false, true]) else (false, [])
@[reducible] def level_Move : Type := Int × Int × Int × Int
@[reducible] def level_Move.Sw (x : level_Move) : Int := x.1
@[reducible] def level_Move.Host (x : level_Move) : Int := x.2.1
@[reducible] def level_Move.Round (x : level_Move) : Int := x.2.2.2
@[reducible] def y0 : Ty := .st (.pr (.i .i64) (.pr (.i .i64) (.pr (.i .i64) (.i .i64))))
/- cmp.isNaN[int] -/
noncomputable def cmp_isNaN_int (x_0 : Int) : Option Bool :=
 some (x_0 != x_0)
noncomputable def sp0 : Spc := ⟨[(false, .x (.i .i64))], [([.x .b], [])], true, [], fun p => match p with | x_0 => cmp_isNaN_int x_0⟩
theorem ok0 : SpcOk prog 87 sp0 := q0j mixed glbok (sig := sig) (np := 1) (an := []) .nil (by kernel_rfl) (by kernel_rfl)
/- cmp.Compare[int] -/
noncomputable def cmp_Compare_int (x_0 : Int) (y_1 : Int) : Option Int :=
 (cmp_isNaN_int x_0).bind fun r1 =>
 (cmp_isNaN_int y_1).bind fun r2 =>
 bif r1 then (bif r2 then (some 0) else
 (some (-1))) else
 (bif r2 then (some 1) else
 (bif decide (x_0 < y_1) then (some (-1)) else
 (bif decide (x_0 > y_1) then (some 1) else
 (some 0))))
noncomputable def sp1 : Spc := ⟨[(false, .x (.i .i64)), (false, .x (.i .i64))], [([.x (.i .i64)], [])], true, [], fun p => match p with | (x_0, y_1) => cmp_Compare_int x_0 y_1⟩
theorem ok1 : SpcOk prog 60 sp1 := q0j mixed glbok (sig := sig) (np := 2) (an := []) (.cons ok0 .nil) (by kernel_rfl) (by kernel_rfl)
/- cmp.Or[int] -/
noncomputable def cmp_Or_int_L1 (vals_0 : Sl Int) : Int → Option (Int ⊕ (Int ⊕ Unit)) := fun i2 =>
 bif decide (i2 < (vals_0.l.length : Int)) then ((ixI i2 vals_0.l.length).bind fun n3 =>
 bif ((gt vals_0.l n3) != 0) then (some (.inr (.inl (gt vals_0.l n3)))) else
 (some (.inl (wr .i64 (i2 + 1))))) else
 (some (.inr (.inr ())))
noncomputable def cmp_Or_int (vals_0 : Sl Int) : Option Int :=
 (loopO (cmp_Or_int_L1 vals_0) 0).bind fun
 | .inl i4 => (some i4)
 | .inr _ => (some 0)
noncomputable def sp2 : Spc := ⟨[(false, .x (.sl (.i .i64)))], [([.x (.i .i64)], [])], true, [], fun p => match p with | vals_0 => cmp_Or_int vals_0⟩
theorem ok2 : SpcOk prog 59 sp2 := q0j mixed glbok (sig := sig) (np := 1) (an := [(7, { j := some { vs := [(8, .x (.i .i64))] }, e := [(.ret, { vs := [(2, .x (.i .i64))] }), (.exit 0, {})] })]) .nil (by kernel_rfl) (by kernel_rfl)
/- turnout/level.order -/
noncomputable def level_order (a_0 : level_Move) (b_1 : level_Move) : Option Int :=
 (cmp_Compare_int (level_Move.Round a_0) (level_Move.Round b_1)).bind fun r1 =>
 (cmp_Compare_int (level_Move.Sw a_0) (level_Move.Sw b_1)).bind fun r2 =>
 (cmp_Compare_int (level_Move.Host a_0) (level_Move.Host b_1)).bind fun r3 =>
 (cmp_Or_int (Sl.mk [r1, r2, r3])).bind fun r4 =>
 some r4
noncomputable def sp3 : Spc := ⟨[(false, .x y0), (false, .x y0)], [([.x (.i .i64)], [])], true, [], fun p => match p with | (a_0, b_1) => level_order a_0 b_1⟩
theorem ok3 : SpcOk prog 36 sp3 := q0j mixed glbok (sig := sig) (np := 2) (an := []) (.cons ok1 (.cons ok2 .nil)) (by kernel_rfl) (by kernel_rfl)
end Go.Proofs.Ytjdfgncibpbgdaa.O
