/- MeterTells: rates and mixtures are the reference's. Conditions: words of 64 bits. -/
import Derived.Test.YtingpmogbibghaaMA
open Bool renaming false_or->h_
open Option renaming bind_some->aR
open Go.Ev Go Go.Fl
namespace Go.Proofs.Ytingpmogbibghaa.M
def AH(o x s:Nat):Nat:=
 bif f_ o then fM x else bif f_ x||f_ s||decide (pl s<=0)then o else bif decide (4607182418800017408<=s)then x
 else fM (Dd .f64 (yf .f64 o (E3 .f64 4607182418800017408 s)) (yf .f64 x s))
theorem B5{s:Nat}:(0<pl s)<->(0<s/\s<9223372036854775808):=by unfold pl;split<;>omega
theorem EP{o x s:Nat}(ho:oz o)(hx:oz x)(hs:oz s):mI o x s=some (AH o x s):=by
 unfold mI AH;rw[tR ho,aR];cases f_ o with
 |true=>rw[cond_true,cond_true,pg hx];rfl
 |false=>
  rw[cond_false,cond_false,tR hx,aR];cases f_ x with
  |true=>rfl
  |false=>
   rw[cond_false,tR hs,aR,aR];cases ns:f_ s with
   |true=>rfl
   |false=>
    have z:ok 0:=⟨by decide,by decide⟩
    have p0:pl 0=0:=by decide
    have o1:ok 4607182418800017408:=⟨by decide,by decide⟩
    have p1:pl 4607182418800017408=4607182418800017408:=by decide
    have e1:(H4 .f64 s 0||wT .f64 s 0)=decide (pl s<=0):=by
     rw[G9 (sH hs ns) z,yg (sH hs ns) z,p0];rcases Int.lt_trichotomy (pl s) 0 with h|h|h
     .rw [decide_eq_true h,decide_eq_true (show pl s<=0 by omega)];rfl
     .rw [decide_eq_true h,decide_eq_true (show pl s<=0 by omega)];simp
     .rw [decide_eq_false (show¬pl s<0 by omega),decide_eq_false (show¬pl s=0 by omega),decide_eq_false (show¬pl s<=0 by omega)];rfl
    rw[e1];simp only[h_];cases hd:decide (pl s<=0)with
    |true=>rfl
    |false=>
     have hp:=of_decide_eq_false hd;have hpp:=B5.1 (show 0<pl s by omega)
     have e2:(H5 .f64 s 4607182418800017408||wT .f64 s 4607182418800017408)=decide (4607182418800017408<=s):=by
      have e:pl s=s:=by unfold pl;rw[if_neg (by omega)]
      rw[G_ (sH hs ns) o1,yg (sH hs ns) o1,p1,e];rcases Nat.lt_trichotomy s 4607182418800017408 with h|h|h
      .rw [decide_eq_false (show¬(4607182418800017408:Int)<(s:Int)by omega),decide_eq_false (show¬(s:Int)=4607182418800017408 by omega),decide_eq_false (show¬4607182418800017408<=s by omega)];rfl
      .rw [decide_eq_true (show(s:Int)=4607182418800017408 by omega),decide_eq_true (show 4607182418800017408<=s by omega)];simp
      .rw [decide_eq_true (show(4607182418800017408:Int)<(s:Int)by omega),decide_eq_true (show 4607182418800017408<=s by omega)];rfl
     rw[cond_false,cond_false,e2];cases decide (4607182418800017408<=s)with|true=>rfl|false=>rw[cond_false,cond_false,pg (F8 _ _)];rfl
theorem Hv{s:Nat}(ns:f_ s=false):decide (Dv s<5)=decide (pl s<=0):=by
 have hf:=vH ns;unfold Dv pl;rw[ns,cond_false];by_cases c:9223372036854775808<=s
 .rw [if_pos c,decide_eq_true (show(9223372036854775808:Int)-(s:Int)<=0 by omega)];by_cases h1:s=18442240474082181120
  .subst h1;rfl
  .rw [beq_eq_false_iff_ne.2 h1,cond_false];by_cases h2:s=9223372036854775808
   .subst h2;rfl
   .rw [decide_eq_true (show s>9223372036854775808 by omega)];rfl
 .rw [if_neg c,beq_eq_false_iff_ne.2 (show s≠18442240474082181120 by omega),cond_false,decide_eq_false (show¬s>9223372036854775808 by omega),cond_false,beq_eq_false_iff_ne.2 (show s≠9223372036854775808 by omega),cond_false];by_cases h3:s=0
  .subst h3;rfl
  .rw [beq_eq_false_iff_ne.2 h3,cond_false,decide_eq_false (show¬(s:Int)<=0 by omega)];cases decide (s<9218868437227405312)<;>rfl
theorem Cs{o x s:Nat}(ho:oz o)(hx:oz x)(hs:oz s):mG (o:Int) (x:Int) (s:Int)=some ((AH o x s:Nat):Int):=by
 unfold mG AH;rw[qN,aR];cases f_ o with
 |true=>rw[cond_true,cond_true,j8];rfl
 |false=>
  rw[cond_false,cond_false,qN,aR];cases f_ x with
  |true=>rfl
  |false=>
   rw[cond_false,qN,aR];cases ns:f_ s with
   |true=>rfl
   |false=>
    rw[cond_false,rq,aR,aR,Hv ns];simp only[h_];cases hd:decide (pl s<=0)with
    |true=>rfl
    |false=>
     have hp:=of_decide_eq_false hd;have hpp:=B5.1 (show 0<pl s by omega);have hc:=Du hs (show oz 4607182418800017408 by decide);rw[cond_false,cond_false];have e0:(((4607182418800017408:Nat)):Int)=4607182418800017408:=rfl;rw[e0]at hc;rw[hc,aR,ve ns (by omega),ve (show f_ 4607182418800017408=false by decide) (by decide)];by_cases h:4607182418800017408<=s
     .rw [decide_eq_false (show¬9223372036854775808+s<9223372036854775808+4607182418800017408 by omega),decide_eq_true h,cond_true];cases decide (9223372036854775808+4607182418800017408<9223372036854775808+s)<;>rfl
     .rw [decide_eq_true (show 9223372036854775808+s<9223372036854775808+4607182418800017408 by omega),decide_eq_false h];simp only[C5,aR,tf];rfl
theorem Ip{o x s:Nat}(ho:oz o)(hx:oz x):oz (AH o x s):=by
 unfold AH;cases f_ o
 .rw [cond_false];generalize(f_ x||f_ s||decide (pl s<=0))=c;cases c
  .rw [cond_false];cases decide (4607182418800017408<=s)
   .exact p_ (F8 _ _)
   .exact hx
  .exact ho
 .exact p_ hx
theorem B0(n m:Int):lF n m=some (fM (AZ .f64 (FloatKind.nearest .f64 n) (FloatKind.nearest .f64 m))):=by unfold lF;rw[pg (FX _ _)];rfl
theorem Af(n m:Int):lA n m=some ((fM (AZ .f64 (FloatKind.nearest .f64 n) (FloatKind.nearest .f64 m)):Nat):Int):=by unfold lA;rw[tf];rfl
theorem xP{x:Int}(h:0<=x)(h2:x<=18446744073709551615):∃n:Nat,x=(n:Int)/\oz n:=⟨x.toNat,by omega,by unfold oz;omega⟩
end Go.Proofs.Ytingpmogbibghaa.M
