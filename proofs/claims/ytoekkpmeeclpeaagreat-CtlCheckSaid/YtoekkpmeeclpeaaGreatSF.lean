/- Floats as the program of shortest ways sees them. Conditions: words of 64 bits. -/
import Derived.Test.YtoekkpmeeclpeaaGreatST
import Derived.Test.YtoekkpmeeclpeaaGreatFlm
import Derived.Laws.FloatBits
open Ieee renaming Datum->eh
open Ieee.Datum renaming number->n_
open Int renaming compare_eq_eq->fK,compare_eq_gt->e_,compare_eq_lt->e9
open Nat renaming lt_trichotomy->kY,pow_le_pow_right->jA,zero_le->cY
open Option renaming bind_some->ae
open Option.some renaming inj->aa
open Go.Ev Go Go.Fl
namespace Go.Proofs.YtoekkpmeeclpeaaGreat.S
def jT(n:Nat):Bool:=decide (9218868437227405312<n %9223372036854775808)
def iu(n:Nat):Nat:=bif jT n then 9221120237041090561 else n
abbrev zC(n:Nat):Prop:=n<18446744073709551616
theorem M8{n:Nat}(h:jT n=true):9218868437227405312<n %9223372036854775808:=of_decide_eq_true h
theorem t8{n:Nat}(h:jT n=false):n %9223372036854775808<=9218868437227405312:=by have:=of_decide_eq_false h;omega
theorem wO(n:Nat):(FloatKind.f64.format.read n).isNaN=jT n:=by
 cases h:jT n with
 |true=>exact I8.2 (M8 h)
 |false=>cases h2:(FloatKind.f64.format.read n).isNaN with|false=>rfl|true=>have:=I8.1 h2;have:=t8 h;omega
theorem nd{n:Nat}(h:zC n)(h2:jT n=false):ok n:=⟨h,t8 h2⟩
theorem QM{n:Nat}(h:zC n):zC (iu n):=by
 unfold iu;cases jT n
 .exact h
 .exact (by decide:zC 9221120237041090561)
theorem qq{n:Nat}(h:jT n=false):iu n=n:=by unfold iu;rw[h];rfl
theorem yl{n:Nat}(h:jT n=true):iu n=9221120237041090561:=by unfold iu;rw[h];rfl
theorem HW{x y:Nat}(hx:ok x)(hy:ok y):Qs .f64 x y=decide (pl x<pl y):=by
 have h:FloatKind.f64.format.order x y=some (compare (pl x) (pl y)):=wI hx hy;unfold Qs;rw[h];by_cases c:pl x<pl y
 .rw [e9.2 c,decide_eq_true c];rfl
 .rw [decide_eq_false c,beq_eq_false_iff_ne];intro e;exact c (e9.1 (aa e))
theorem vV{x y:Nat}(hx:ok x)(hy:ok y):N3 .f64 x y=decide (pl y<pl x):=by
 have h:FloatKind.f64.format.order x y=some (compare (pl x) (pl y)):=wI hx hy;unfold N3;rw[h];by_cases c:pl y<pl x
 .rw [e_.2 c,decide_eq_true c];rfl
 .rw [decide_eq_false c,beq_eq_false_iff_ne];intro e;exact c (e_.1 (aa e))
theorem AI{x y:Nat}(hx:ok x)(hy:ok y):GB .f64 x y=decide (pl x=pl y):=by
 have h:FloatKind.f64.format.order x y=some (compare (pl x) (pl y)):=wI hx hy;unfold GB;rw[h];by_cases c:pl x=pl y
 .rw [fK.2 c,decide_eq_true c];rfl
 .rw [decide_eq_false c,beq_eq_false_iff_ne];intro e;exact c (fK.1 (aa e))
theorem Db{x y:Nat}(h:jT x=true\/jT y=true):FloatKind.f64.format.order x y=none:=Kt (by rw[<-wO,<-wO]at h;exact h)
theorem Jx{x y:Nat}(h:jT x=true\/jT y=true):Qs .f64 x y=false:=by unfold Qs;rw[Db h];rfl
theorem DD{x y:Nat}(h:jT x=true\/jT y=true):N3 .f64 x y=false:=by unfold N3;rw[Db h];rfl
theorem Jy{x y:Nat}(h:jT x=true\/jT y=true):GB .f64 x y=false:=by unfold GB;rw[Db h];rfl
theorem FX{x:Nat}(h:zC x):(!(GB .f64 x x))=jT x:=by cases h2:jT x with|true=>rw[Jy (.inl h2)];rfl|false=>rw[AI (nd h h2) (nd h h2),decide_eq_true rfl];rfl
theorem Cy{x:Nat}(h:zC x):o8 x=some (iu x):=by unfold o8 iu;rw[FX h];cases jT x<;>rfl
theorem AE(n:Nat):qV (n:Int)=some n:=rfl
theorem AY(n:Nat):oW (n:Int)=some ((iu n:Nat):Int):=by unfold oW iu;have e:((n:Int).tmod 9223372036854775808)=((n %9223372036854775808:Nat):Int):=rfl;rw[e];cases h:jT n with|true=>rw[decide_eq_true (by have:=M8 h;omega)];rfl|false=>rw[decide_eq_false (by have:=t8 h;omega)];rfl
def Lt(n:Nat):Int:=bif jT n then 0 else bif n==18442240474082181120 then 1 else bif decide (n>9223372036854775808)then 2 else bif n==9223372036854775808 then 3 else bif n==0 then 4 else bif decide (n<9218868437227405312)then 5 else 6
theorem BG(a b:Nat):(((a:Nat):Int)==((b:Nat):Int))=(a==b):=by
 by_cases h:a=b
 .simp [h]
 .rw [beq_eq_false_iff_ne.2 h,beq_eq_false_iff_ne.2 (by omega)]
theorem Ic(n:Nat):qO (n:Int)=some (Lt n):=by
 unfold qO Lt;rw[AY,ae];cases h:jT n with
 |true=>rw[yl h];rfl
 |false=>
  rw[qq h,cond_false];have h1:((n:Int)==9221120237041090561)=false:=by rw[beq_eq_false_iff_ne];intro e;have:=t8 h;omega
  have h2:((n:Int)==18442240474082181120)=(n==18442240474082181120):=BG n 18442240474082181120;have h3:((n:Int)==9223372036854775808)=(n==9223372036854775808):=BG n 9223372036854775808;have h4:((n:Int)==0)=(n==0):=BG n 0;have h5:decide ((n:Int)>9223372036854775808)=decide (n>9223372036854775808):=decide_eq_decide.2 (by omega);have h6:decide ((n:Int)<9218868437227405312)=decide (n<9218868437227405312):=decide_eq_decide.2 (by omega);rw[h1,h2,h3,h4,h5,h6,cond_false];cases(n==18442240474082181120)<;>cases decide (n>9223372036854775808)<;>cases(n==9223372036854775808)<;>cases(n==0)<;>cases decide (n<9218868437227405312)<;>rfl
def gZ(n:Nat):Nat:=bif decide (9223372036854775808<=iu n)then 9223372036854775807-iu n %9223372036854775808 else 9223372036854775808+iu n
theorem Ta{n:Nat}(h:zC n):n^^^9223372036854775808=if 9223372036854775808<=n then n-9223372036854775808 else n+9223372036854775808:=by
 have key:∀m:Nat,m<9223372036854775808->m^^^9223372036854775808=m+9223372036854775808:=by
  intro m hm;refine Nat.eq_of_testBit_eq fun j=>?_;have e:(9223372036854775808:Nat)=2^63:=rfl;rw[Nat.testBit_xor,e,Nat.testBit_two_pow,Nat.add_comm m];rcases kY j 63 with h|h|h
  .rw [Nat.testBit_two_pow_add_gt h,decide_eq_false (by omega)];simp
  .subst h;rw[Nat.testBit_two_pow_add_eq,decide_eq_true rfl];cases m.testBit 63<;>rfl
  .rw [decide_eq_false (by omega),Nat.testBit_lt_two_pow (Nat.lt_of_lt_of_le hm (jA (n:=2) (by decide) (show 63<=j by omega))),Nat.testBit_lt_two_pow]
   .rfl
   .have:2^64<=2^j:=jA (by decide) (by omega);have e2:(2:Nat)^64=18446744073709551616:=rfl;omega
 split
 .rename_i hc;obtain⟨m,rfl⟩:∃m,n=m+9223372036854775808:=⟨n-9223372036854775808,by omega⟩
  rw[<-key m (by omega),Nat.xor_assoc,Nat.xor_self,Nat.xor_zero];rw[key m (by omega)];omega
 .exact key n (by omega)
theorem Qi{x:Nat}(h:zC x)(hn:jT x=false):lJ x (-1)=some (x==18442240474082181120):=by
 unfold lJ;have h0:(((-1:Int))==0)=false:=rfl;have h1:decide ((-1:Int)<0)=true:=rfl;have e:Op.negFloat .f64 x=x^^^9223372036854775808:=rfl;rw[h0,h1,cond_false,cond_true,ae,e,Ta h];have hf:=t8 hn;congr 1;have m:ok 9218868437227405311:=⟨by decide,by decide⟩
 split
 .rename_i hc;rw[vV ⟨by omega,by omega⟩ m];have:pl 9218868437227405311=9218868437227405311:=by decide
  have e2:pl (x-9223372036854775808)=x-9223372036854775808:=by unfold pl;rw[if_neg (by omega)];omega
  rw[this,e2];by_cases hx:x=18442240474082181120
  .subst hx;decide
  .rw [beq_eq_false_iff_ne.2 hx];exact decide_eq_false (by omega)
 .rename_i hc;rw[vV ⟨by omega,by omega⟩ m];have:pl 9218868437227405311=9218868437227405311:=by decide
  have e2:pl (x+9223372036854775808)=-(x:Int):=by unfold pl;rw[if_pos (by omega)];omega
  rw[this,e2,beq_eq_false_iff_ne.2 (by omega)];exact decide_eq_false (by omega)
theorem Jn{x:Nat}(h:zC x)(hn:jT x=false):lJ x 1=some (x==9218868437227405312):=by
 unfold lJ;have h0:(((1:Int))==0)=false:=rfl;have h1:decide ((1:Int)<0)=false:=rfl;rw[h0,h1,cond_false,cond_false,ae];have hf:=t8 hn;congr 1;have m:ok 9218868437227405311:=⟨by decide,by decide⟩
 rw[vV (nd h hn) m];have:pl 9218868437227405311=9218868437227405311:=by decide
 rw[this];unfold pl;by_cases hx:x=9218868437227405312
 .subst hx;decide
 .rw [beq_eq_false_iff_ne.2 hx];refine decide_eq_false ?_;split<;>omega
theorem Lu{x:Nat}(h:zC x):qT x=some (Lt x):=by
 unfold qT Lt;rw[FX h];cases hn:jT x with
 |true=>rfl
 |false=>
  have hf:=t8 hn;have z:ok 0:=⟨by decide,by decide⟩
  have p0:pl 0=0:=by decide
  rw[cond_false,cond_false,Qi h hn,ae,Jn h hn,ae,HW (nd h hn) z,vV (nd h hn) z,p0];cases h1:(x==18442240474082181120)
  .have h1:=beq_eq_false_iff_ne.1 h1;rw[cond_false,cond_false];unfold sP pN;rw[wO,hn,cond_false,ae];by_cases c:9223372036854775808<=x
   .have e1:pl x=9223372036854775808-(x:Int):=by unfold pl;rw[if_pos c]
    have e2:wr .i64 (x:Int)=(x:Int)-18446744073709551616:=by simp[wr,IntKind.wrap,IntKind.bits,IntKind.signed];omega
    rw[e1,e2,beq_eq_false_iff_ne.2 (show x≠9218868437227405312 by omega),cond_false];by_cases c2:x=9223372036854775808
    .subst c2;rfl
    .rw [decide_eq_true (show(9223372036854775808:Int)-(x:Int)<0 by omega),cond_true,decide_eq_true (show x>9223372036854775808 by omega),cond_true]
   .have e1:pl x=(x:Int):=by unfold pl;rw[if_neg c]
    have e2:wr .i64 (x:Int)=(x:Int):=by simp[wr,IntKind.wrap,IntKind.bits,IntKind.signed];omega
    rw[e1,e2,decide_eq_false (show¬x>9223372036854775808 by omega),beq_eq_false_iff_ne.2 (show x≠9223372036854775808 by omega),cond_false,cond_false,decide_eq_false (show¬(x:Int)<0 by omega),cond_false];by_cases c2:x=9218868437227405312
    .subst c2;rfl
    .rw [beq_eq_false_iff_ne.2 c2,cond_false];by_cases c3:x=0
     .subst c3;rfl
     .rw [beq_eq_false_iff_ne.2 c3,decide_eq_true (show(0:Int)<(x:Int)by omega),decide_eq_true (show x<9218868437227405312 by omega)];rfl
  .rfl
theorem EP{x:Nat}(h:zC x):mX x=some (bif jT x then 2 else bif x==9223372036854775808 then-1 else 0):=by
 unfold mX;rw[Lu h,ae];unfold Lt;cases hn:jT x
 .cases h1:(x==18442240474082181120)
  .cases h2:decide (x>9223372036854775808)
   .cases (x==9223372036854775808)<;>cases(x==0)<;>cases decide (x<9218868437227405312)<;>rfl
   .have:=of_decide_eq_true h2;rw[beq_eq_false_iff_ne.2 (show x≠9223372036854775808 by omega)];rfl
  .have:=beq_iff_eq.1 h1;subst this;rfl
 .rfl
def Bp(a b:Int):Int:=bif decide (a<b)then-1 else bif decide (b<a)then 1 else 0
theorem sq{a b:Int}(h:a<b):Bp a b=-1:=by unfold Bp;rw[decide_eq_true h];rfl
theorem sv{a b:Int}(h:b<a):Bp a b=1:=by unfold Bp;rw[decide_eq_true h,decide_eq_false (by omega)];rfl
theorem zn{a b:Int}(h:a=b):Bp a b=0:=by unfold Bp;rw[decide_eq_false (by omega),decide_eq_false (by omega)];rfl
theorem Gc(a b:Int):kG a b=some (Bp a b):=by
 unfold kG oR Bp;have h:∀c:Int,(c !=c)=false:=fun c=>by simp
 rw[h,h];simp only[ae,cond_false];cases decide (a<b)<;>cases decide (a>b)<;>rfl
theorem xP{a:Nat}(h:jT a=true):gZ a=18444492273895866369:=by unfold gZ;rw[yl h];rfl
theorem wE{a:Nat}(h:jT a=false)(hw:zC a)(hc:9223372036854775808<=a):gZ a=18446744073709551615-a:=by unfold gZ;rw[qq h,decide_eq_true hc,cond_true];omega
theorem tX{a:Nat}(h:jT a=false)(hc:¬9223372036854775808<=a):gZ a=9223372036854775808+a:=by unfold gZ;rw[qq h,decide_eq_false hc,cond_false]
def tW(x:Nat):Int:=bif jT x then 2 else bif x==9223372036854775808 then-1 else 0
theorem Aa{x:Nat}(h:jT x=true):tW x=2:=by unfold tW;rw[h];rfl
theorem ME:tW 9223372036854775808=-1:=by decide
theorem MF{x:Nat}(h:jT x=false)(h2:x≠9223372036854775808):tW x=0:=by unfold tW;rw[h,beq_eq_false_iff_ne.2 h2];rfl
theorem IT{x:Nat}(h:jT x=false):tW x<=0:=by unfold tW;rw[h];cases(x==9223372036854775808)<;>decide
theorem QI{a b:Nat}(ha:zC a)(hb:zC b):oQ a b=some (Bp (gZ a) (gZ b)):=by
 unfold oQ;rw[show mX a=some (tW a)from EP ha,ae,show mX b=some (tW b)from EP hb,ae,Gc,ae];cases na:jT a with
 |true=>
  rw[Jx (.inl na),DD (.inl na),cond_false,cond_false,Aa na,xP na];cases nb:jT b with
  |true=>rw[Aa nb,xP nb];rfl
  |false=>
   have h1:=IT nb;have h2:=t8 nb;rw[sv (show tW b<2 by omega),sv];by_cases c:9223372036854775808<=b
   .rw [wE nb hb c];omega
   .rw [tX nb c];omega
 |false=>
  have fa:=t8 na;cases nb:jT b with
  |true=>
   have h1:=IT na;rw[Jx (.inr nb),DD (.inr nb),cond_false,cond_false,Aa nb,xP nb,sq (show tW a<2 by omega),sq];by_cases c:9223372036854775808<=a
   .rw [wE na ha c];omega
   .rw [tX na c];omega
  |false=>
   have fb:=t8 nb;rw[HW (nd ha na) (nd hb nb),vV (nd ha na) (nd hb nb)]
   have pa:(9223372036854775808<=a/\pl a=9223372036854775808-(a:Int)/\((gZ a:Nat):Int)=18446744073709551615-(a:Int))\/(a<9223372036854775808/\pl a=(a:Int)/\((gZ a:Nat):Int)=9223372036854775808+(a:Int)):=by
    by_cases c:9223372036854775808<=a
    .refine .inl ⟨c,by unfold pl;rw[if_pos c],by rw[wE na ha c];have:a<18446744073709551616:=ha;omega⟩
    .refine .inr ⟨by omega,by unfold pl;rw[if_neg c],by rw[tX na c];omega⟩
   have pb:(9223372036854775808<=b/\pl b=9223372036854775808-(b:Int)/\((gZ b:Nat):Int)=18446744073709551615-(b:Int))\/(b<9223372036854775808/\pl b=(b:Int)/\((gZ b:Nat):Int)=9223372036854775808+(b:Int)):=by
    by_cases c:9223372036854775808<=b
    .refine .inl ⟨c,by unfold pl;rw[if_pos c],by rw[wE nb hb c];have:b<18446744073709551616:=hb;omega⟩
    .refine .inr ⟨by omega,by unfold pl;rw[if_neg c],by rw[tX nb c];omega⟩
   generalize((gZ a:Nat):Int)=qa at pa|-;generalize((gZ b:Nat):Int)=qb at pb|-;generalize hA:pl a=A at pa|-;generalize hB:pl b=B at pb|-;rcases Int.lt_trichotomy A B with e|e|e
   .rw [decide_eq_true e,cond_true,sq (by omega)]
   .rw [decide_eq_false (by omega),decide_eq_false (by omega),cond_false,cond_false];rcases kY a b with e2|e2|e2
    .--0 and-0
     have hb':b=9223372036854775808:=by omega
     rw[hb',ME,MF na (by omega),sv (by omega),sv (by omega)]
    .subst e2;rw[zn rfl,zn (by omega)]
    .have ha':a=9223372036854775808:=by omega
     rw[ha',ME,MF nb (by omega),sq (by omega),sq (by omega)]
   .rw [decide_eq_false (by omega),decide_eq_true e,cond_false,cond_true,sv (by omega)]
def nn(x:Nat):Prop:=x<=D.infRung\/x=9223372036854775808
def ab(x:Nat):Nat:=if x=9223372036854775808 then 0 else x
theorem qP{x:Nat}(h:x<=D.infRung):nn x:=.inl h
theorem rb{x:Nat}(h:x<=D.infRung):ab x=x:=by unfold ab;rw[if_neg];rw[ru]at h;omega
theorem vR{x:Nat}(h:nn x):zC x:=by
 rcases h with h|h
 .rw [ru]at h;unfold zC;omega
 .rw [h];exact(by decide:zC 9223372036854775808)
theorem mm{x:Nat}(h:nn x):jT x=false:=by
 rcases h with h|h
 .rw [ru]at h;exact decide_eq_false (by omega)
 .rw [h];decide
theorem yE{x:Nat}(h:nn x):pl x=ab x:=by
 rcases h with h|h
 .rw [rb h];rw[ru]at h;unfold pl;rw[if_neg (by omega)]
 .rw [h];decide
theorem R6(p:Int):∀d:eh,d.neg=false->(n_ true 0 p).sum d=(n_ false 0 p).sum d
 |.number t n j,h=>by obtain rfl:t=false:=h;simp only[eh.sum,Ieee.signed];simp
 |.infinity _,_=>rfl
 |.nan ..,_=>rfl
theorem SJ(p:Int):∀d:eh,d.neg=false->d.sum (n_ true 0 p)=d.sum (n_ false 0 p)
 |.number t n j,h=>by obtain rfl:t=false:=h;simp only[eh.sum,Ieee.signed];simp
 |.infinity _,_=>rfl
 |.nan ..,_=>rfl
theorem IS:D.read 9223372036854775808=.number true 0 D.leastPlace:=by decide
theorem MC:D.read 0=.number false 0 D.leastPlace:=by decide
theorem EO{x:Nat}(h:x<=D.infRung):(D.read x).neg=false:=by
 rcases Nat.lt_or_ge x D.infRung with h1|h1
 .obtain ⟨m,k,e,_⟩:=qe D h1 (by decide);rw[e];rfl
 .obtain rfl:x=D.infRung:=by omega
  rw[wD D (by decide) (by decide)];rfl
theorem zy(x y:Nat):D.add x y=((D.read x).sum (D.read y)).map D.write:=rfl
theorem Qt{x y z:Nat}(h:D.add x y=some z):yg .f64 x y=z:=by show(D.add x y).getD _=z;rw[h];rfl
theorem OT{x y:Nat}(hx:nn x)(hy:nn y):nn (yg .f64 x y)/\ab (yg .f64 x y)=plus D (ab x) (ab y):=by
 have hs:D.infRung<D.signWeight:=by decide
 have hb:D.binade<=D.infRung:=by decide
 have qU:∀{z a b:Nat},D.add x y=D.add a b->a<=D.infRung->b<=D.infRung->ab x=a->ab y=b->nn (yg .f64 x y)/\ab (yg .f64 x y)=plus D (ab x) (ab y):=by intro z a b e ha hb2 e1 e2;have h:=OS (f:=D) hs hb ha hb2;rw[Qt (e.trans h),e1,e2];exact⟨.inl zp,rb zp⟩
 rcases hx with hx|hx
 .rcases hy with hy|hy
  .exact qU (z:=0) rfl hx hy (rb hx) (rb hy)
  .refine qU (z:=0) (a:=x) (b:=0) ?_ hx (cY _) (rb hx) (by unfold ab;rw[if_pos hy]);rw[zy,zy,hy,IS,MC,SJ _ _ (EO hx)]
 .rcases hy with hy|hy
  .refine qU (z:=0) (a:=0) (b:=y) ?_ (cY _) hy (by unfold ab;rw[if_pos hx]) (rb hy);rw[zy,zy,hx,IS,MC,R6 _ _ (EO hy)]
  .subst hx;subst hy;have e:yg .f64 9223372036854775808 9223372036854775808=9223372036854775808:=by decide+kernel
   rw[e];exact⟨.inr rfl,by decide+kernel⟩
theorem Qm{x:Nat}(h:nn x):(N3 .f64 x 0||GB .f64 x 0)=true:=by
 have z:ok 0:=⟨by decide,by decide⟩
 have p0:pl 0=0:=by decide
 rw[vV (nd (vR h) (mm h)) z,AI (nd (vR h) (mm h)) z,p0,yE h];by_cases h0:ab x=0
 .rw [h0];decide
 .rw [decide_eq_true (show(0:Int)<((ab x:Nat):Int)by omega)];rfl
end Go.Proofs.YtoekkpmeeclpeaaGreat.S
