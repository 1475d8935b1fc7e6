/- Floats as the meter's program sees them: cleaned, their class, their order. Conditions: words of 64 bits. -/
import Derived.Test.YtingpmogbibghaaM
import Derived.Test.YtingpmogbibghaaFlm
import Derived.Laws.FloatBits
open Ieee renaming Format->ck
open Int renaming compare_eq_eq->dW,compare_eq_gt->dw,compare_eq_lt->dv
open Option renaming bind_some->aR
open Option.some renaming inj->aa
open Go.Ev Go Go.Fl
namespace Go.Proofs.Ytingpmogbibghaa.M
def f_(n:Nat):Bool:=decide (9218868437227405312<n %9223372036854775808)
def fM(n:Nat):Nat:=bif f_ n then 9221120237041090561 else n
abbrev oz(n:Nat):Prop:=n<18446744073709551616
theorem FO{n:Nat}(h:f_ n=true):9218868437227405312<n %9223372036854775808:=of_decide_eq_true h
theorem vH{n:Nat}(h:f_ n=false):n %9223372036854775808<=9218868437227405312:=by have:=of_decide_eq_false h;omega
theorem MY(n:Nat):(FloatKind.f64.format.read n).isNaN=f_ n:=by
 cases h:f_ n with
 |true=>exact zq.2 (FO h)
 |false=>cases h2:(FloatKind.f64.format.read n).isNaN with|false=>rfl|true=>have:=zq.1 h2;have:=vH h;omega
theorem sH{n:Nat}(h:oz n)(h2:f_ n=false):ok n:=⟨h,vH h2⟩
theorem p_{n:Nat}(h:oz n):oz (fM n):=by
 unfold fM;cases f_ n
 .exact h
 .exact (by decide:oz 9221120237041090561)
theorem ww(n:Nat):fM (fM n)=fM n:=by
 unfold fM;cases h:f_ n
 .rw [cond_false,h];rfl
 .rfl
theorem wv{n:Nat}(h:f_ n=false):fM n=n:=by unfold fM;rw[h];rfl
theorem Bf{n:Nat}(h:f_ n=true):fM n=9221120237041090561:=by unfold fM;rw[h];rfl
theorem G9{x y:Nat}(hx:ok x)(hy:ok y):H4 .f64 x y=decide (pl x<pl y):=by
 have h:FloatKind.f64.format.order x y=some (compare (pl x) (pl y)):=qG hx hy;unfold H4;rw[h];by_cases c:pl x<pl y
 .rw [dv.2 c,decide_eq_true c];rfl
 .rw [decide_eq_false c,beq_eq_false_iff_ne];intro e;exact c (dv.1 (aa e))
theorem G_{x y:Nat}(hx:ok x)(hy:ok y):H5 .f64 x y=decide (pl y<pl x):=by
 have h:FloatKind.f64.format.order x y=some (compare (pl x) (pl y)):=qG hx hy;unfold H5;rw[h];by_cases c:pl y<pl x
 .rw [dw.2 c,decide_eq_true c];rfl
 .rw [decide_eq_false c,beq_eq_false_iff_ne];intro e;exact c (dw.1 (aa e))
theorem yg{x y:Nat}(hx:ok x)(hy:ok y):wT .f64 x y=decide (pl x=pl y):=by
 have h:FloatKind.f64.format.order x y=some (compare (pl x) (pl y)):=qG hx hy;unfold wT;rw[h];by_cases c:pl x=pl y
 .rw [dW.2 c,decide_eq_true c];rfl
 .rw [decide_eq_false c,beq_eq_false_iff_ne];intro e;exact c (dW.1 (aa e))
theorem EG{x y:Nat}(h:f_ x=true\/f_ y=true):FloatKind.f64.format.order x y=none:=Am (by rw[<-MY,<-MY]at h;exact h)
theorem E4{x y:Nat}(h:f_ x=true\/f_ y=true):wT .f64 x y=false:=by unfold wT;rw[EG h];rfl
theorem ra{x:Nat}(h:oz x):(!(wT .f64 x x))=f_ x:=by cases h2:f_ x with|true=>rw[E4 (.inl h2)];rfl|false=>rw[yg (sH h h2) (sH h h2),decide_eq_true rfl];rfl
theorem tR{x:Nat}(h:oz x):jM x=some (f_ x):=by unfold jM;rw[ra h]
theorem pg{x:Nat}(h:oz x):iw x=some (fM x):=by unfold iw fM;rw[ra h];cases f_ x<;>rfl
theorem wC{x:Nat}(h:oz x):Mr x=some ((fM x:Nat):Int):=by unfold Mr fM mN;rw[ra h,MY];cases f_ x<;>rfl
theorem C5(n:Nat):lJ (n:Int)=some n:=rfl
theorem Eu(n:Nat):kY (n:Int)=some n:=rfl
theorem j8(n:Nat):eG (n:Int)=some ((fM n:Nat):Int):=by unfold eG fM;have e:((n:Int).tmod 9223372036854775808)=((n %9223372036854775808:Nat):Int):=rfl;rw[e];cases h:f_ n with|true=>rw[decide_eq_true (by have:=FO h;omega)];rfl|false=>rw[decide_eq_false (by have:=vH h;omega)];rfl
theorem tf(x:Nat):jT x=some ((fM x:Nat):Int):=by unfold jT DD;rw[MY];have h:=pC (x:Int);rw[j8]at h;rw[<-aa h];unfold fM;cases f_ x<;>rfl
def Dv(n:Nat):Int:=bif f_ n then 0 else bif n==18442240474082181120 then 1 else bif decide (n>9223372036854775808)then 2 else bif n==9223372036854775808 then 3 else bif n==0 then 4 else bif decide (n<9218868437227405312)then 5 else 6
theorem HC(a b:Nat):(((a:Nat):Int)==((b:Nat):Int))=(a==b):=by
 by_cases h:a=b
 .simp [h]
 .rw [beq_eq_false_iff_ne.2 h,beq_eq_false_iff_ne.2 (by omega)]
theorem rq(n:Nat):jc (n:Int)=some (Dv n):=by
 unfold jc Dv;rw[j8,aR];cases h:f_ n with
 |true=>rw[Bf h];rfl
 |false=>
  rw[wv h,cond_false];have h1:((n:Int)==9221120237041090561)=false:=by rw[beq_eq_false_iff_ne];intro e;have:=vH h;omega
  have h2:((n:Int)==18442240474082181120)=(n==18442240474082181120):=HC n 18442240474082181120;have h3:((n:Int)==9223372036854775808)=(n==9223372036854775808):=HC n 9223372036854775808;have h4:((n:Int)==0)=(n==0):=HC n 0;have h5:decide ((n:Int)>9223372036854775808)=decide (n>9223372036854775808):=decide_eq_decide.2 (by omega);have h6:decide ((n:Int)<9218868437227405312)=decide (n<9218868437227405312):=decide_eq_decide.2 (by omega);rw[h1,h2,h3,h4,h5,h6,cond_false];cases(n==18442240474082181120)<;>cases decide (n>9223372036854775808)<;>cases(n==9223372036854775808)<;>cases(n==0)<;>cases decide (n<9218868437227405312)<;>rfl
theorem qN(n:Nat):jK (n:Int)=some (f_ n):=by unfold jK;rw[rq,aR];congr 1;unfold Dv;cases f_ n<;>cases(n==18442240474082181120)<;>cases decide (n>9223372036854775808)<;>cases(n==9223372036854775808)<;>cases(n==0)<;>cases decide (n<9218868437227405312)<;>rfl
def fK(n:Nat):Nat:=bif decide (9223372036854775808<=fM n)then 9223372036854775807-fM n %9223372036854775808 else 9223372036854775808+fM n
theorem qB{n:Nat}(h:oz n):gL (n:Int)=some ((fK n:Nat):Int):=by
 unfold gL fK;rw[j8,aR];have hw:=p_ h;generalize fM n=c at hw;have hd:decide ((c:Int)>=9223372036854775808)=decide (9223372036854775808<=c):=decide_eq_decide.2 (by omega);have wu:∀m:Int,0<=m->m<18446744073709551616->wr .u64 m=m:=by intro m h0 h1;simp[wr,IntKind.wrap,IntKind.bits,IntKind.signed];omega
 rw[hd];by_cases hc:9223372036854775808<=c
 .rw [decide_eq_true hc,cond_true,cond_true];have e:((c:Int).tmod 9223372036854775808)=((c %9223372036854775808:Nat):Int):=rfl;rw[e,wu _ (by omega) (by omega)];congr 1;omega
 .rw [decide_eq_false hc,cond_false,cond_false,wu _ (by omega) (by omega)];congr 1
theorem Du{a b:Nat}(ha:oz a)(hb:oz b):i_ (a:Int) (b:Int)=some (bif decide (fK a<fK b)then-1 else bif decide (fK b<fK a)then 1 else 0):=by unfold i_;rw[qB ha,qB hb];simp only[aR];have h1:decide (((fK a:Nat):Int)<((fK b:Nat):Int))=decide (fK a<fK b):=decide_eq_decide.2 (by omega);have h2:decide (((fK a:Nat):Int)>((fK b:Nat):Int))=decide (fK b<fK a):=decide_eq_decide.2 (by omega);rw[h1,h2];cases decide (fK a<fK b)<;>cases decide (fK b<fK a)<;>rfl
theorem ve{a:Nat}(h:f_ a=false)(hc:¬9223372036854775808<=a):fK a=9223372036854775808+a:=by unfold fK;rw[wv h,decide_eq_false hc,cond_false]
theorem FR{d:Option Nat}(h:∀r,d=some r->r<2^ck.width D):oz (d.getD (Sy .f64)):=by cases d with|none=>decide|some r=>exact h r rfl
theorem F8(a b:Nat):oz (Dd .f64 a b):=FR fun r h=>ck.add_lt D h
theorem FX(a b:Nat):oz (AZ .f64 a b):=FR fun r h=>ck.div_lt D h
end Go.Proofs.Ytingpmogbibghaa.M
