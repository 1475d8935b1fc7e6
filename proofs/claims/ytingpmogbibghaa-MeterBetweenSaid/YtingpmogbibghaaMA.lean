/- Floats as the meter's program sees them: cleaned, their class, their order. Conditions: words of 64 bits. -/
import Derived.Test.YtingpmogbibghaaM
import Derived.Test.YtingpmogbibghaaFlm
import Derived.Laws.FloatBits
open Ieee renaming Format->ck
open Int renaming compare_eq_eq->dW,compare_eq_gt->dw,compare_eq_lt->dv
open Option.some renaming inj->aa
open Go.Ev Go Go.Fl
namespace Go.Proofs.Ytingpmogbibghaa.M
def f_(n:Nat):Bool:=decide (9218868437227405312<n %9223372036854775808)
def fM(n:Nat):Nat:=bif f_ n then 9221120237041090561 else n
abbrev oz(n:Nat):Prop:=n<18446744073709551616
theorem FO{n:Nat}(h:f_ n=true):9218868437227405312<n %9223372036854775808:=of_decide_eq_true h
theorem vH{n:Nat}(h:f_ n=false):n %9223372036854775808<=9218868437227405312:=by have:=of_decide_eq_false h;omega
theorem MY(n:Nat):(FloatKind.f64.format.read n).isNaN=f_ n:=by
 cases h:f_ n with
 |true=>exact zq.2 (FO h)
 |false=>cases h2:(FloatKind.f64.format.read n).isNaN with|false=>rfl|true=>have:=zq.1 h2;have:=vH h;omega
theorem sH{n:Nat}(h:oz n)(h2:f_ n=false):ok n:=⟨h,vH h2⟩
theorem wv{n:Nat}(h:f_ n=false):fM n=n:=by unfold fM;rw[h];rfl
theorem G9{x y:Nat}(hx:ok x)(hy:ok y):H4 .f64 x y=decide (pl x<pl y):=by
 have h:FloatKind.f64.format.order x y=some (compare (pl x) (pl y)):=qG hx hy;unfold H4;rw[h];by_cases c:pl x<pl y
 .rw [dv.2 c,decide_eq_true c];rfl
 .rw [decide_eq_false c,beq_eq_false_iff_ne];intro e;exact c (dv.1 (aa e))
theorem G_{x y:Nat}(hx:ok x)(hy:ok y):H5 .f64 x y=decide (pl y<pl x):=by
 have h:FloatKind.f64.format.order x y=some (compare (pl x) (pl y)):=qG hx hy;unfold H5;rw[h];by_cases c:pl y<pl x
 .rw [dw.2 c,decide_eq_true c];rfl
 .rw [decide_eq_false c,beq_eq_false_iff_ne];intro e;exact c (dw.1 (aa e))
theorem yg{x y:Nat}(hx:ok x)(hy:ok y):wT .f64 x y=decide (pl x=pl y):=by
 have h:FloatKind.f64.format.order x y=some (compare (pl x) (pl y)):=qG hx hy;unfold wT;rw[h];by_cases c:pl x=pl y
 .rw [dW.2 c,decide_eq_true c];rfl
 .rw [decide_eq_false c,beq_eq_false_iff_ne];intro e;exact c (dW.1 (aa e))
theorem EG{x y:Nat}(h:f_ x=true\/f_ y=true):FloatKind.f64.format.order x y=none:=Am (by rw[<-MY,<-MY]at h;exact h)
theorem E4{x y:Nat}(h:f_ x=true\/f_ y=true):wT .f64 x y=false:=by unfold wT;rw[EG h];rfl
theorem ra{x:Nat}(h:oz x):(!(wT .f64 x x))=f_ x:=by cases h2:f_ x with|true=>rw[E4 (.inl h2)];rfl|false=>rw[yg (sH h h2) (sH h h2),decide_eq_true rfl];rfl
theorem tR{x:Nat}(h:oz x):jM x=some (f_ x):=by unfold jM;rw[ra h]
theorem pg{x:Nat}(h:oz x):iw x=some (fM x):=by unfold iw fM;rw[ra h];cases f_ x<;>rfl
theorem Eu(n:Nat):kY (n:Int)=some n:=rfl
def fK(n:Nat):Nat:=bif decide (9223372036854775808<=fM n)then 9223372036854775807-fM n %9223372036854775808 else 9223372036854775808+fM n
theorem FR{d:Option Nat}(h:∀r,d=some r->r<2^ck.width D):oz (d.getD (Sy .f64)):=by cases d with|none=>decide|some r=>exact h r rfl
theorem F8(a b:Nat):oz (Dd .f64 a b):=FR fun r h=>ck.add_lt D h
end Go.Proofs.Ytingpmogbibghaa.M
