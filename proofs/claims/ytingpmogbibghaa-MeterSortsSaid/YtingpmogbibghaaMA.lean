/- Floats as the meter's program sees them: cleaned, their class, their order. Conditions: words of 64 bits. -/
import Derived.Test.YtingpmogbibghaaM
import Derived.Test.YtingpmogbibghaaFlm
import Derived.Laws.FloatBits
open Ieee renaming Format->ck
open Int renaming compare_eq_eq->dW,compare_eq_gt->dw,compare_eq_lt->dv
open Nat renaming lt_trichotomy->Mb
open Option renaming bind_some->aR
open Option.some renaming inj->aa
open Go.Ev Go Go.Fl
namespace Go.Proofs.Ytingpmogbibghaa.M
def f_(n:Nat):Bool:=decide (9218868437227405312<n %9223372036854775808)
def fM(n:Nat):Nat:=bif f_ n then 9221120237041090561 else n
abbrev oz(n:Nat):Prop:=n<18446744073709551616
theorem FO{n:Nat}(h:f_ n=true):9218868437227405312<n %9223372036854775808:=of_decide_eq_true h
theorem vH{n:Nat}(h:f_ n=false):n %9223372036854775808<=9218868437227405312:=by have:=of_decide_eq_false h;omega
theorem MY(n:Nat):(FloatKind.f64.format.read n).isNaN=f_ n:=by
 cases h:f_ n with
 |true=>exact zq.2 (FO h)
 |false=>cases h2:(FloatKind.f64.format.read n).isNaN with|false=>rfl|true=>have:=zq.1 h2;have:=vH h;omega
theorem sH{n:Nat}(h:oz n)(h2:f_ n=false):ok n:=⟨h,vH h2⟩
theorem p_{n:Nat}(h:oz n):oz (fM n):=by
 unfold fM;cases f_ n
 .exact h
 .exact (by decide:oz 9221120237041090561)
theorem ww(n:Nat):fM (fM n)=fM n:=by
 unfold fM;cases h:f_ n
 .rw [cond_false,h];rfl
 .rfl
theorem wv{n:Nat}(h:f_ n=false):fM n=n:=by unfold fM;rw[h];rfl
theorem Bf{n:Nat}(h:f_ n=true):fM n=9221120237041090561:=by unfold fM;rw[h];rfl
theorem G9{x y:Nat}(hx:ok x)(hy:ok y):H4 .f64 x y=decide (pl x<pl y):=by
 have h:FloatKind.f64.format.order x y=some (compare (pl x) (pl y)):=qG hx hy;unfold H4;rw[h];by_cases c:pl x<pl y
 .rw [dv.2 c,decide_eq_true c];rfl
 .rw [decide_eq_false c,beq_eq_false_iff_ne];intro e;exact c (dv.1 (aa e))
theorem G_{x y:Nat}(hx:ok x)(hy:ok y):H5 .f64 x y=decide (pl y<pl x):=by
 have h:FloatKind.f64.format.order x y=some (compare (pl x) (pl y)):=qG hx hy;unfold H5;rw[h];by_cases c:pl y<pl x
 .rw [dw.2 c,decide_eq_true c];rfl
 .rw [decide_eq_false c,beq_eq_false_iff_ne];intro e;exact c (dw.1 (aa e))
theorem yg{x y:Nat}(hx:ok x)(hy:ok y):wT .f64 x y=decide (pl x=pl y):=by
 have h:FloatKind.f64.format.order x y=some (compare (pl x) (pl y)):=qG hx hy;unfold wT;rw[h];by_cases c:pl x=pl y
 .rw [dW.2 c,decide_eq_true c];rfl
 .rw [decide_eq_false c,beq_eq_false_iff_ne];intro e;exact c (dW.1 (aa e))
theorem EG{x y:Nat}(h:f_ x=true\/f_ y=true):FloatKind.f64.format.order x y=none:=Am (by rw[<-MY,<-MY]at h;exact h)
theorem Ot{x y:Nat}(h:f_ x=true\/f_ y=true):H4 .f64 x y=false:=by unfold H4;rw[EG h];rfl
theorem Ou{x y:Nat}(h:f_ x=true\/f_ y=true):H5 .f64 x y=false:=by unfold H5;rw[EG h];rfl
theorem E4{x y:Nat}(h:f_ x=true\/f_ y=true):wT .f64 x y=false:=by unfold wT;rw[EG h];rfl
theorem ra{x:Nat}(h:oz x):(!(wT .f64 x x))=f_ x:=by cases h2:f_ x with|true=>rw[E4 (.inl h2)];rfl|false=>rw[yg (sH h h2) (sH h h2),decide_eq_true rfl];rfl
theorem pg{x:Nat}(h:oz x):iw x=some (fM x):=by unfold iw fM;rw[ra h];cases f_ x<;>rfl
theorem wC{x:Nat}(h:oz x):Mr x=some ((fM x:Nat):Int):=by unfold Mr fM mN;rw[ra h,MY];cases f_ x<;>rfl
theorem C5(n:Nat):lJ (n:Int)=some n:=rfl
theorem Eu(n:Nat):kY (n:Int)=some n:=rfl
theorem j8(n:Nat):eG (n:Int)=some ((fM n:Nat):Int):=by unfold eG fM;have e:((n:Int).tmod 9223372036854775808)=((n %9223372036854775808:Nat):Int):=rfl;rw[e];cases h:f_ n with|true=>rw[decide_eq_true (by have:=FO h;omega)];rfl|false=>rw[decide_eq_false (by have:=vH h;omega)];rfl
theorem tf(x:Nat):jT x=some ((fM x:Nat):Int):=by unfold jT DD;rw[MY];have h:=pC (x:Int);rw[j8]at h;rw[<-aa h];unfold fM;cases f_ x<;>rfl
def Dv(n:Nat):Int:=bif f_ n then 0 else bif n==18442240474082181120 then 1 else bif decide (n>9223372036854775808)then 2 else bif n==9223372036854775808 then 3 else bif n==0 then 4 else bif decide (n<9218868437227405312)then 5 else 6
theorem HC(a b:Nat):(((a:Nat):Int)==((b:Nat):Int))=(a==b):=by
 by_cases h:a=b
 .simp [h]
 .rw [beq_eq_false_iff_ne.2 h,beq_eq_false_iff_ne.2 (by omega)]
def fK(n:Nat):Nat:=bif decide (9223372036854775808<=fM n)then 9223372036854775807-fM n %9223372036854775808 else 9223372036854775808+fM n
theorem qB{n:Nat}(h:oz n):gL (n:Int)=some ((fK n:Nat):Int):=by
 unfold gL fK;rw[j8,aR];have hw:=p_ h;generalize fM n=c at hw;have hd:decide ((c:Int)>=9223372036854775808)=decide (9223372036854775808<=c):=decide_eq_decide.2 (by omega);have wu:∀m:Int,0<=m->m<18446744073709551616->wr .u64 m=m:=by intro m h0 h1;simp[wr,IntKind.wrap,IntKind.bits,IntKind.signed];omega
 rw[hd];by_cases hc:9223372036854775808<=c
 .rw [decide_eq_true hc,cond_true,cond_true];have e:((c:Int).tmod 9223372036854775808)=((c %9223372036854775808:Nat):Int):=rfl;rw[e,wu _ (by omega) (by omega)];congr 1;omega
 .rw [decide_eq_false hc,cond_false,cond_false,wu _ (by omega) (by omega)];congr 1
theorem Pp{n:Nat}(h:oz n):n^^^9223372036854775808=if 9223372036854775808<=n then n-9223372036854775808 else n+9223372036854775808:=by
 have key:∀m:Nat,m<9223372036854775808->m^^^9223372036854775808=m+9223372036854775808:=by
  intro m hm;refine Nat.eq_of_testBit_eq fun j=>?_;have e:(9223372036854775808:Nat)=2^63:=rfl;rw[Nat.testBit_xor,e,Nat.testBit_two_pow,Nat.add_comm m];rcases Mb j 63 with h|h|h
  .rw [Nat.testBit_two_pow_add_gt h,decide_eq_false (by omega)];simp
  .subst h;rw[Nat.testBit_two_pow_add_eq,decide_eq_true rfl];cases m.testBit 63<;>rfl
  .rw [decide_eq_false (by omega),Nat.testBit_lt_two_pow (Nat.lt_of_lt_of_le hm (Nat.pow_le_pow_right (n:=2) (by decide) (show 63<=j by omega))),Nat.testBit_lt_two_pow]
   .rfl
   .have:2^64<=2^j:=Nat.pow_le_pow_right (by decide) (by omega);have e2:(2:Nat)^64=18446744073709551616:=rfl;omega
 split
 .rename_i hc;obtain⟨m,rfl⟩:∃m,n=m+9223372036854775808:=⟨n-9223372036854775808,by omega⟩
  rw[<-key m (by omega),Nat.xor_assoc,Nat.xor_self,Nat.xor_zero];rw[key m (by omega)];omega
 .exact key n (by omega)
theorem Pb{x:Nat}(h:oz x)(hn:f_ x=false):Mo x (-1)=some (x==18442240474082181120):=by
 unfold Mo;have h0:(((-1:Int))==0)=false:=rfl;have h1:decide ((-1:Int)<0)=true:=rfl;have e:Op.negFloat .f64 x=x^^^9223372036854775808:=rfl;rw[h0,h1,cond_false,cond_true,aR,e,Pp h];have hf:=vH hn;congr 1;have m:ok 9218868437227405311:=⟨by decide,by decide⟩
 split
 .rename_i hc;rw[G_ ⟨by omega,by omega⟩ m];have:pl 9218868437227405311=9218868437227405311:=by decide
  have e2:pl (x-9223372036854775808)=x-9223372036854775808:=by unfold pl;rw[if_neg (by omega)];omega
  rw[this,e2];by_cases hx:x=18442240474082181120
  .subst hx;decide
  .rw [beq_eq_false_iff_ne.2 hx];exact decide_eq_false (by omega)
 .rename_i hc;rw[G_ ⟨by omega,by omega⟩ m];have:pl 9218868437227405311=9218868437227405311:=by decide
  have e2:pl (x+9223372036854775808)=-(x:Int):=by unfold pl;rw[if_pos (by omega)];omega
  rw[this,e2,beq_eq_false_iff_ne.2 (by omega)];exact decide_eq_false (by omega)
theorem Pa{x:Nat}(h:oz x)(hn:f_ x=false):Mo x 1=some (x==9218868437227405312):=by
 unfold Mo;have h0:(((1:Int))==0)=false:=rfl;have h1:decide ((1:Int)<0)=false:=rfl;rw[h0,h1,cond_false,cond_false,aR];have hf:=vH hn;congr 1;have m:ok 9218868437227405311:=⟨by decide,by decide⟩
 rw[G_ (sH h hn) m];have:pl 9218868437227405311=9218868437227405311:=by decide
 rw[this];unfold pl;by_cases hx:x=9218868437227405312
 .subst hx;decide
 .rw [beq_eq_false_iff_ne.2 hx];refine decide_eq_false ?_;split<;>omega
theorem OD{x:Nat}(h:oz x):MO x=some (Dv x):=by
 unfold MO Dv;rw[ra h];cases hn:f_ x with
 |true=>rfl
 |false=>
  have hf:=vH hn;have z:ok 0:=⟨by decide,by decide⟩
  have p0:pl 0=0:=by decide
  rw[cond_false,cond_false,Pb h hn,aR,Pa h hn,aR,G9 (sH h hn) z,G_ (sH h hn) z,p0];cases h1:(x==18442240474082181120)
  .have h1:=beq_eq_false_iff_ne.1 h1;rw[cond_false,cond_false];unfold MV mN;rw[MY,hn,cond_false,aR];by_cases c:9223372036854775808<=x
   .have e1:pl x=9223372036854775808-(x:Int):=by unfold pl;rw[if_pos c]
    have e2:wr .i64 (x:Int)=(x:Int)-18446744073709551616:=by simp[wr,IntKind.wrap,IntKind.bits,IntKind.signed];omega
    rw[e1,e2,beq_eq_false_iff_ne.2 (show x≠9218868437227405312 by omega),cond_false];by_cases c2:x=9223372036854775808
    .subst c2;rfl
    .rw [decide_eq_true (show(9223372036854775808:Int)-(x:Int)<0 by omega),cond_true,decide_eq_true (show x>9223372036854775808 by omega),cond_true]
   .have e1:pl x=(x:Int):=by unfold pl;rw[if_neg c]
    have e2:wr .i64 (x:Int)=(x:Int):=by simp[wr,IntKind.wrap,IntKind.bits,IntKind.signed];omega
    rw[e1,e2,decide_eq_false (show¬x>9223372036854775808 by omega),beq_eq_false_iff_ne.2 (show x≠9223372036854775808 by omega),cond_false,cond_false,decide_eq_false (show¬(x:Int)<0 by omega),cond_false];by_cases c2:x=9218868437227405312
    .subst c2;rfl
    .rw [beq_eq_false_iff_ne.2 c2,cond_false];by_cases c3:x=0
     .subst c3;rfl
     .rw [beq_eq_false_iff_ne.2 c3,decide_eq_true (show(0:Int)<(x:Int)by omega),decide_eq_true (show x<9218868437227405312 by omega)];rfl
  .rfl
theorem N3{x:Nat}(h:oz x):Mq x=some (bif f_ x then 2 else bif x==9223372036854775808 then-1 else 0):=by
 unfold Mq;rw[OD h,aR];unfold Dv;cases hn:f_ x
 .cases h1:(x==18442240474082181120)
  .cases h2:decide (x>9223372036854775808)
   .cases (x==9223372036854775808)<;>cases(x==0)<;>cases decide (x<9218868437227405312)<;>rfl
   .have:=of_decide_eq_true h2;rw[beq_eq_false_iff_ne.2 (show x≠9223372036854775808 by omega)];rfl
  .have:=beq_iff_eq.1 h1;subst this;rfl
 .rfl
def N0(a b:Int):Int:=bif decide (a<b)then-1 else bif decide (b<a)then 1 else 0
theorem MR{a b:Int}(h:a<b):N0 a b=-1:=by unfold N0;rw[decide_eq_true h];rfl
theorem M3{a b:Int}(h:b<a):N0 a b=1:=by unfold N0;rw[decide_eq_true h,decide_eq_false (by omega)];rfl
theorem NC{a b:Int}(h:a=b):N0 a b=0:=by unfold N0;rw[decide_eq_false (by omega),decide_eq_false (by omega)];rfl
theorem O0(a b:Int):Mm a b=some (N0 a b):=by
 unfold Mm ME N0;have h:∀c:Int,(c !=c)=false:=fun c=>by simp
 rw[h,h];simp only[aR,cond_false];cases decide (a<b)<;>cases decide (a>b)<;>rfl
theorem Nn{a:Nat}(h:f_ a=true):fK a=18444492273895866369:=by unfold fK;rw[Bf h];rfl
theorem Nd{a:Nat}(h:f_ a=false)(hw:oz a)(hc:9223372036854775808<=a):fK a=18446744073709551615-a:=by unfold fK;rw[wv h,decide_eq_true hc,cond_true];omega
theorem ve{a:Nat}(h:f_ a=false)(hc:¬9223372036854775808<=a):fK a=9223372036854775808+a:=by unfold fK;rw[wv h,decide_eq_false hc,cond_false]
def MX(x:Nat):Int:=bif f_ x then 2 else bif x==9223372036854775808 then-1 else 0
theorem NK{x:Nat}(h:f_ x=true):MX x=2:=by unfold MX;rw[h];rfl
theorem OQ:MX 9223372036854775808=-1:=by decide
theorem OR{x:Nat}(h:f_ x=false)(h2:x≠9223372036854775808):MX x=0:=by unfold MX;rw[h,beq_eq_false_iff_ne.2 h2];rfl
theorem Oo{x:Nat}(h:f_ x=false):MX x<=0:=by unfold MX;rw[h];cases(x==9223372036854775808)<;>decide
theorem Ov{a b:Nat}(ha:oz a)(hb:oz b):LD a b=some (N0 (fK a) (fK b)):=by
 unfold LD;rw[show Mq a=some (MX a)from N3 ha,aR,show Mq b=some (MX b)from N3 hb,aR,O0,aR];cases na:f_ a with
 |true=>
  rw[Ot (.inl na),Ou (.inl na),cond_false,cond_false,NK na,Nn na];cases nb:f_ b with
  |true=>rw[NK nb,Nn nb];rfl
  |false=>
   have h1:=Oo nb;have h2:=vH nb;rw[M3 (show MX b<2 by omega),M3];by_cases c:9223372036854775808<=b
   .rw [Nd nb hb c];omega
   .rw [ve nb c];omega
 |false=>
  have fa:=vH na;cases nb:f_ b with
  |true=>
   have h1:=Oo na;rw[Ot (.inr nb),Ou (.inr nb),cond_false,cond_false,NK nb,Nn nb,MR (show MX a<2 by omega),MR];by_cases c:9223372036854775808<=a
   .rw [Nd na ha c];omega
   .rw [ve na c];omega
  |false=>
   have fb:=vH nb;rw[G9 (sH ha na) (sH hb nb),G_ (sH ha na) (sH hb nb)]
   have pa:(9223372036854775808<=a/\pl a=9223372036854775808-(a:Int)/\((fK a:Nat):Int)=18446744073709551615-(a:Int))\/(a<9223372036854775808/\pl a=(a:Int)/\((fK a:Nat):Int)=9223372036854775808+(a:Int)):=by
    by_cases c:9223372036854775808<=a
    .refine .inl ⟨c,by unfold pl;rw[if_pos c],by rw[Nd na ha c];have:a<18446744073709551616:=ha;omega⟩
    .refine .inr ⟨by omega,by unfold pl;rw[if_neg c],by rw[ve na c];omega⟩
   have pb:(9223372036854775808<=b/\pl b=9223372036854775808-(b:Int)/\((fK b:Nat):Int)=18446744073709551615-(b:Int))\/(b<9223372036854775808/\pl b=(b:Int)/\((fK b:Nat):Int)=9223372036854775808+(b:Int)):=by
    by_cases c:9223372036854775808<=b
    .refine .inl ⟨c,by unfold pl;rw[if_pos c],by rw[Nd nb hb c];have:b<18446744073709551616:=hb;omega⟩
    .refine .inr ⟨by omega,by unfold pl;rw[if_neg c],by rw[ve nb c];omega⟩
   generalize((fK a:Nat):Int)=qa at pa|-;generalize((fK b:Nat):Int)=qb at pb|-;generalize hA:pl a=A at pa|-;generalize hB:pl b=B at pb|-;rcases Int.lt_trichotomy A B with e|e|e
   .rw [decide_eq_true e,cond_true,MR (by omega)]
   .rw [decide_eq_false (by omega),decide_eq_false (by omega),cond_false,cond_false];rcases Mb a b with e2|e2|e2
    .--0 and-0
     have hb':b=9223372036854775808:=by omega
     rw[hb',OQ,OR na (by omega),M3 (by omega),M3 (by omega)]
    .subst e2;rw[NC rfl,NC (by omega)]
    .have ha':a=9223372036854775808:=by omega
     rw[ha',OQ,OR nb (by omega),MR (by omega),MR (by omega)]
   .rw [decide_eq_false (by omega),decide_eq_true e,cond_false,cond_true,M3 (by omega)]
theorem FR{d:Option Nat}(h:∀r,d=some r->r<2^ck.width D):oz (d.getD (Sy .f64)):=by cases d with|none=>decide|some r=>exact h r rfl
theorem Pd(a b:Nat):oz (E3 .f64 a b):=FR fun r h=>ck.sub_lt D h
end Go.Proofs.Ytingpmogbibghaa.M
