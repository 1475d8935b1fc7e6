/- Floats as the program of shortest ways sees them. Conditions: words of 64 bits. -/
import Derived.Test.YtingpmogbibghaaST
import Derived.Test.YtingpmogbibghaaFlm
import Derived.Laws.FloatBits
open Ieee renaming Datum->e_
open Ieee.Datum renaming number->oF
open Int renaming compare_eq_eq->gg,compare_eq_gt->fG,compare_eq_lt->fF
open Nat renaming lt_trichotomy->iO,pow_le_pow_right->kg,zero_le->eQ
open Option renaming bind_some->ae
open Option.some renaming inj->aa
open Go.Ev Go Go.Fl
namespace Go.Proofs.Ytingpmogbibghaa.S
def kz(n:Nat):Bool:=decide (9218868437227405312<n %9223372036854775808)
def gM(n:Nat):Nat:=bif kz n then 9221120237041090561 else n
abbrev x7(n:Nat):Prop:=n<18446744073709551616
theorem L0{n:Nat}(h:kz n=true):9218868437227405312<n %9223372036854775808:=of_decide_eq_true h
theorem ub{n:Nat}(h:kz n=false):n %9223372036854775808<=9218868437227405312:=by have:=of_decide_eq_false h;omega
theorem ua(n:Nat):(FloatKind.f64.format.read n).isNaN=kz n:=by
 cases h:kz n with
 |true=>exact Iv.2 (L0 h)
 |false=>cases h2:(FloatKind.f64.format.read n).isNaN with|false=>rfl|true=>have:=Iv.1 h2;have:=ub h;omega
theorem nL{n:Nat}(h:x7 n)(h2:kz n=false):ok n:=⟨h,ub h2⟩
theorem Ps{n:Nat}(h:x7 n):x7 (gM n):=by
 unfold gM;cases kz n
 .exact h
 .exact (by decide:x7 9221120237041090561)
theorem pD{n:Nat}(h:kz n=false):gM n=n:=by unfold gM;rw[h];rfl
theorem xU{n:Nat}(h:kz n=true):gM n=9221120237041090561:=by unfold gM;rw[h];rfl
theorem Hk{x y:Nat}(hx:ok x)(hy:ok y):MW .f64 x y=decide (pl x<pl y):=by
 have h:FloatKind.f64.format.order x y=some (compare (pl x) (pl y)):=wm hx hy;unfold MW;rw[h];by_cases c:pl x<pl y
 .rw [fF.2 c,decide_eq_true c];rfl
 .rw [decide_eq_false c,beq_eq_false_iff_ne];intro e;exact c (fF.1 (aa e))
theorem vF{x y:Nat}(hx:ok x)(hy:ok y):IR .f64 x y=decide (pl y<pl x):=by
 have h:FloatKind.f64.format.order x y=some (compare (pl x) (pl y)):=wm hx hy;unfold IR;rw[h];by_cases c:pl y<pl x
 .rw [fG.2 c,decide_eq_true c];rfl
 .rw [decide_eq_false c,beq_eq_false_iff_ne];intro e;exact c (fG.1 (aa e))
theorem As{x y:Nat}(hx:ok x)(hy:ok y):DH .f64 x y=decide (pl x=pl y):=by
 have h:FloatKind.f64.format.order x y=some (compare (pl x) (pl y)):=wm hx hy;unfold DH;rw[h];by_cases c:pl x=pl y
 .rw [gg.2 c,decide_eq_true c];rfl
 .rw [decide_eq_false c,beq_eq_false_iff_ne];intro e;exact c (gg.1 (aa e))
theorem CS{x y:Nat}(h:kz x=true\/kz y=true):FloatKind.f64.format.order x y=none:=JF (by rw[<-ua,<-ua]at h;exact h)
theorem IQ{x y:Nat}(h:kz x=true\/kz y=true):MW .f64 x y=false:=by unfold MW;rw[CS h];rfl
theorem Dd{x y:Nat}(h:kz x=true\/kz y=true):IR .f64 x y=false:=by unfold IR;rw[CS h];rfl
theorem IS{x y:Nat}(h:kz x=true\/kz y=true):DH .f64 x y=false:=by unfold DH;rw[CS h];rfl
theorem Ar{x:Nat}(h:x7 x):(!(DH .f64 x x))=kz x:=by cases h2:kz x with|true=>rw[IS (.inl h2)];rfl|false=>rw[As (nL h h2) (nL h h2),decide_eq_true rfl];rfl
theorem Cg{x:Nat}(h:x7 x):pz x=some (gM x):=by unfold pz gM;rw[Ar h];cases kz x<;>rfl
theorem Aj(n:Nat):p_ (n:Int)=some n:=rfl
def Kz(n:Nat):Int:=bif kz n then 0 else bif n==18442240474082181120 then 1 else bif decide (n>9223372036854775808)then 2 else bif n==9223372036854775808 then 3 else bif n==0 then 4 else bif decide (n<9218868437227405312)then 5 else 6
theorem Bt(a b:Nat):(((a:Nat):Int)==((b:Nat):Int))=(a==b):=by
 by_cases h:a=b
 .simp [h]
 .rw [beq_eq_false_iff_ne.2 h,beq_eq_false_iff_ne.2 (by omega)]
def iK(n:Nat):Nat:=bif decide (9223372036854775808<=gM n)then 9223372036854775807-gM n %9223372036854775808 else 9223372036854775808+gM n
theorem Rj{n:Nat}(h:x7 n):n^^^9223372036854775808=if 9223372036854775808<=n then n-9223372036854775808 else n+9223372036854775808:=by
 have key:∀m:Nat,m<9223372036854775808->m^^^9223372036854775808=m+9223372036854775808:=by
  intro m hm;refine Nat.eq_of_testBit_eq fun j=>?_;have e:(9223372036854775808:Nat)=2^63:=rfl;rw[Nat.testBit_xor,e,Nat.testBit_two_pow,Nat.add_comm m];rcases iO j 63 with h|h|h
  .rw [Nat.testBit_two_pow_add_gt h,decide_eq_false (by omega)];simp
  .subst h;rw[Nat.testBit_two_pow_add_eq,decide_eq_true rfl];cases m.testBit 63<;>rfl
  .rw [decide_eq_false (by omega),Nat.testBit_lt_two_pow (Nat.lt_of_lt_of_le hm (kg (n:=2) (by decide) (show 63<=j by omega))),Nat.testBit_lt_two_pow]
   .rfl
   .have:2^64<=2^j:=kg (by decide) (by omega);have e2:(2:Nat)^64=18446744073709551616:=rfl;omega
 split
 .rename_i hc;obtain⟨m,rfl⟩:∃m,n=m+9223372036854775808:=⟨n-9223372036854775808,by omega⟩
  rw[<-key m (by omega),Nat.xor_assoc,Nat.xor_self,Nat.xor_zero];rw[key m (by omega)];omega
 .exact key n (by omega)
theorem OY{x:Nat}(h:x7 x)(hn:kz x=false):kr x (-1)=some (x==18442240474082181120):=by
 unfold kr;have h0:(((-1:Int))==0)=false:=rfl;have h1:decide ((-1:Int)<0)=true:=rfl;have e:Op.negFloat .f64 x=x^^^9223372036854775808:=rfl;rw[h0,h1,cond_false,cond_true,ae,e,Rj h];have hf:=ub hn;congr 1;have m:ok 9218868437227405311:=⟨by decide,by decide⟩
 split
 .rename_i hc;rw[vF ⟨by omega,by omega⟩ m];have:pl 9218868437227405311=9218868437227405311:=by decide
  have e2:pl (x-9223372036854775808)=x-9223372036854775808:=by unfold pl;rw[if_neg (by omega)];omega
  rw[this,e2];by_cases hx:x=18442240474082181120
  .subst hx;decide
  .rw [beq_eq_false_iff_ne.2 hx];exact decide_eq_false (by omega)
 .rename_i hc;rw[vF ⟨by omega,by omega⟩ m];have:pl 9218868437227405311=9218868437227405311:=by decide
  have e2:pl (x+9223372036854775808)=-(x:Int):=by unfold pl;rw[if_pos (by omega)];omega
  rw[this,e2,beq_eq_false_iff_ne.2 (by omega)];exact decide_eq_false (by omega)
theorem IH{x:Nat}(h:x7 x)(hn:kz x=false):kr x 1=some (x==9218868437227405312):=by
 unfold kr;have h0:(((1:Int))==0)=false:=rfl;have h1:decide ((1:Int)<0)=false:=rfl;rw[h0,h1,cond_false,cond_false,ae];have hf:=ub hn;congr 1;have m:ok 9218868437227405311:=⟨by decide,by decide⟩
 rw[vF (nL h hn) m];have:pl 9218868437227405311=9218868437227405311:=by decide
 rw[this];unfold pl;by_cases hx:x=9218868437227405312
 .subst hx;decide
 .rw [beq_eq_false_iff_ne.2 hx];refine decide_eq_false ?_;split<;>omega
theorem KA{x:Nat}(h:x7 x):nN x=some (Kz x):=by
 unfold nN Kz;rw[Ar h];cases hn:kz x with
 |true=>rfl
 |false=>
  have hf:=ub hn;have z:ok 0:=⟨by decide,by decide⟩
  have p0:pl 0=0:=by decide
  rw[cond_false,cond_false,OY h hn,ae,IH h hn,ae,Hk (nL h hn) z,vF (nL h hn) z,p0];cases h1:(x==18442240474082181120)
  .have h1:=beq_eq_false_iff_ne.1 h1;rw[cond_false,cond_false];unfold p6 ou;rw[ua,hn,cond_false,ae];by_cases c:9223372036854775808<=x
   .have e1:pl x=9223372036854775808-(x:Int):=by unfold pl;rw[if_pos c]
    have e2:wr .i64 (x:Int)=(x:Int)-18446744073709551616:=by simp[wr,IntKind.wrap,IntKind.bits,IntKind.signed];omega
    rw[e1,e2,beq_eq_false_iff_ne.2 (show x≠9218868437227405312 by omega),cond_false];by_cases c2:x=9223372036854775808
    .subst c2;rfl
    .rw [decide_eq_true (show(9223372036854775808:Int)-(x:Int)<0 by omega),cond_true,decide_eq_true (show x>9223372036854775808 by omega),cond_true]
   .have e1:pl x=(x:Int):=by unfold pl;rw[if_neg c]
    have e2:wr .i64 (x:Int)=(x:Int):=by simp[wr,IntKind.wrap,IntKind.bits,IntKind.signed];omega
    rw[e1,e2,decide_eq_false (show¬x>9223372036854775808 by omega),beq_eq_false_iff_ne.2 (show x≠9223372036854775808 by omega),cond_false,cond_false,decide_eq_false (show¬(x:Int)<0 by omega),cond_false];by_cases c2:x=9218868437227405312
    .subst c2;rfl
    .rw [beq_eq_false_iff_ne.2 c2,cond_false];by_cases c3:x=0
     .subst c3;rfl
     .rw [beq_eq_false_iff_ne.2 c3,decide_eq_true (show(0:Int)<(x:Int)by omega),decide_eq_true (show x<9218868437227405312 by omega)];rfl
  .rfl
theorem Ek{x:Nat}(h:x7 x):lm x=some (bif kz x then 2 else bif x==9223372036854775808 then-1 else 0):=by
 unfold lm;rw[KA h,ae];unfold Kz;cases hn:kz x
 .cases h1:(x==18442240474082181120)
  .cases h2:decide (x>9223372036854775808)
   .cases (x==9223372036854775808)<;>cases(x==0)<;>cases decide (x<9218868437227405312)<;>rfl
   .have:=of_decide_eq_true h2;rw[beq_eq_false_iff_ne.2 (show x≠9223372036854775808 by omega)];rfl
  .have:=beq_iff_eq.1 h1;subst this;rfl
 .rfl
def A_(a b:Int):Int:=bif decide (a<b)then-1 else bif decide (b<a)then 1 else 0
theorem sQ{a b:Int}(h:a<b):A_ a b=-1:=by unfold A_;rw[decide_eq_true h];rfl
theorem sR{a b:Int}(h:b<a):A_ a b=1:=by unfold A_;rw[decide_eq_true h,decide_eq_false (by omega)];rfl
theorem yW{a b:Int}(h:a=b):A_ a b=0:=by unfold A_;rw[decide_eq_false (by omega),decide_eq_false (by omega)];rfl
theorem FH(a b:Int):j7 a b=some (A_ a b):=by
 unfold j7 pj A_;have h:∀c:Int,(c !=c)=false:=fun c=>by simp
 rw[h,h];simp only[ae,cond_false];cases decide (a<b)<;>cases decide (a>b)<;>rfl
theorem xx{a:Nat}(h:kz a=true):iK a=18444492273895866369:=by unfold iK;rw[xU h];rfl
theorem wh{a:Nat}(h:kz a=false)(hw:x7 a)(hc:9223372036854775808<=a):iK a=18446744073709551615-a:=by unfold iK;rw[pD h,decide_eq_true hc,cond_true];omega
theorem t9{a:Nat}(h:kz a=false)(hc:¬9223372036854775808<=a):iK a=9223372036854775808+a:=by unfold iK;rw[pD h,decide_eq_false hc,cond_false]
def t8(x:Nat):Int:=bif kz x then 2 else bif x==9223372036854775808 then-1 else 0
theorem zP{x:Nat}(h:kz x=true):t8 x=2:=by unfold t8;rw[h];rfl
theorem Lx:t8 9223372036854775808=-1:=by decide
theorem Ly{x:Nat}(h:kz x=false)(h2:x≠9223372036854775808):t8 x=0:=by unfold t8;rw[h,beq_eq_false_iff_ne.2 h2];rfl
theorem If{x:Nat}(h:kz x=false):t8 x<=0:=by unfold t8;rw[h];cases(x==9223372036854775808)<;>decide
theorem Po{a b:Nat}(ha:x7 a)(hb:x7 b):lI a b=some (A_ (iK a) (iK b)):=by
 unfold lI;rw[show lm a=some (t8 a)from Ek ha,ae,show lm b=some (t8 b)from Ek hb,ae,FH,ae];cases na:kz a with
 |true=>
  rw[IQ (.inl na),Dd (.inl na),cond_false,cond_false,zP na,xx na];cases nb:kz b with
  |true=>rw[zP nb,xx nb];rfl
  |false=>
   have h1:=If nb;have h2:=ub nb;rw[sR (show t8 b<2 by omega),sR];by_cases c:9223372036854775808<=b
   .rw [wh nb hb c];omega
   .rw [t9 nb c];omega
 |false=>
  have fa:=ub na;cases nb:kz b with
  |true=>
   have h1:=If na;rw[IQ (.inr nb),Dd (.inr nb),cond_false,cond_false,zP nb,xx nb,sQ (show t8 a<2 by omega),sQ];by_cases c:9223372036854775808<=a
   .rw [wh na ha c];omega
   .rw [t9 na c];omega
  |false=>
   have fb:=ub nb;rw[Hk (nL ha na) (nL hb nb),vF (nL ha na) (nL hb nb)]
   have pa:(9223372036854775808<=a/\pl a=9223372036854775808-(a:Int)/\((iK a:Nat):Int)=18446744073709551615-(a:Int))\/(a<9223372036854775808/\pl a=(a:Int)/\((iK a:Nat):Int)=9223372036854775808+(a:Int)):=by
    by_cases c:9223372036854775808<=a
    .refine .inl ⟨c,by unfold pl;rw[if_pos c],by rw[wh na ha c];have:a<18446744073709551616:=ha;omega⟩
    .refine .inr ⟨by omega,by unfold pl;rw[if_neg c],by rw[t9 na c];omega⟩
   have pb:(9223372036854775808<=b/\pl b=9223372036854775808-(b:Int)/\((iK b:Nat):Int)=18446744073709551615-(b:Int))\/(b<9223372036854775808/\pl b=(b:Int)/\((iK b:Nat):Int)=9223372036854775808+(b:Int)):=by
    by_cases c:9223372036854775808<=b
    .refine .inl ⟨c,by unfold pl;rw[if_pos c],by rw[wh nb hb c];have:b<18446744073709551616:=hb;omega⟩
    .refine .inr ⟨by omega,by unfold pl;rw[if_neg c],by rw[t9 nb c];omega⟩
   generalize((iK a:Nat):Int)=qa at pa|-;generalize((iK b:Nat):Int)=qb at pb|-;generalize hA:pl a=A at pa|-;generalize hB:pl b=B at pb|-;rcases Int.lt_trichotomy A B with e|e|e
   .rw [decide_eq_true e,cond_true,sQ (by omega)]
   .rw [decide_eq_false (by omega),decide_eq_false (by omega),cond_false,cond_false];rcases iO a b with e2|e2|e2
    .--0 and-0
     have hb':b=9223372036854775808:=by omega
     rw[hb',Lx,Ly na (by omega),sR (by omega),sR (by omega)]
    .subst e2;rw[yW rfl,yW (by omega)]
    .have ha':a=9223372036854775808:=by omega
     rw[ha',Lx,Ly nb (by omega),sQ (by omega),sQ (by omega)]
   .rw [decide_eq_false (by omega),decide_eq_true e,cond_false,cond_true,sR (by omega)]
def nn(x:Nat):Prop:=x<=D.infRung\/x=9223372036854775808
def ab(x:Nat):Nat:=if x=9223372036854775808 then 0 else x
theorem qC{x:Nat}(h:x<=D.infRung):nn x:=.inl h
theorem rn{x:Nat}(h:x<=D.infRung):ab x=x:=by unfold ab;rw[if_neg];rw[rL]at h;omega
theorem uU{x:Nat}(h:nn x):x7 x:=by
 rcases h with h|h
 .rw [rL]at h;unfold x7;omega
 .rw [h];exact(by decide:x7 9223372036854775808)
theorem mq{x:Nat}(h:nn x):kz x=false:=by
 rcases h with h|h
 .rw [rL]at h;exact decide_eq_false (by omega)
 .rw [h];decide
theorem yg{x:Nat}(h:nn x):pl x=ab x:=by
 rcases h with h|h
 .rw [rn h];rw[rL]at h;unfold pl;rw[if_neg (by omega)]
 .rw [h];decide
theorem Qu(p:Int):∀d:e_,d.neg=false->(oF true 0 p).sum d=(oF false 0 p).sum d
 |.number t n j,h=>by obtain rfl:t=false:=h;simp only[e_.sum,Ieee.signed];simp
 |.infinity _,_=>rfl
 |.nan ..,_=>rfl
theorem QY(p:Int):∀d:e_,d.neg=false->d.sum (oF true 0 p)=d.sum (oF false 0 p)
 |.number t n j,h=>by obtain rfl:t=false:=h;simp only[e_.sum,Ieee.signed];simp
 |.infinity _,_=>rfl
 |.nan ..,_=>rfl
theorem Ie:D.read 9223372036854775808=.number true 0 D.leastPlace:=by decide
theorem Lv:D.read 0=.number false 0 D.leastPlace:=by decide
theorem Ej{x:Nat}(h:x<=D.infRung):(D.read x).neg=false:=by
 rcases Nat.lt_or_ge x D.infRung with h1|h1
 .obtain ⟨m,k,e,_⟩:=qy D h1 (by decide);rw[e];rfl
 .obtain rfl:x=D.infRung:=by omega
  rw[we D (by decide) (by decide)];rfl
theorem zb(x y:Nat):D.add x y=((D.read x).sum (D.read y)).map D.write:=rfl
theorem O_{x y z:Nat}(h:D.add x y=some z):xQ .f64 x y=z:=by show(D.add x y).getD _=z;rw[h];rfl
theorem NC{x y:Nat}(hx:nn x)(hy:nn y):nn (xQ .f64 x y)/\ab (xQ .f64 x y)=plus D (ab x) (ab y):=by
 have hs:D.infRung<D.signWeight:=by decide
 have hb:D.binade<=D.infRung:=by decide
 have rO:∀{z a b:Nat},D.add x y=D.add a b->a<=D.infRung->b<=D.infRung->ab x=a->ab y=b->nn (xQ .f64 x y)/\ab (xQ .f64 x y)=plus D (ab x) (ab y):=by intro z a b e ha hb2 e1 e2;have h:=NB (f:=D) hs hb ha hb2;rw[O_ (e.trans h),e1,e2];exact⟨.inl yX,rn yX⟩
 rcases hx with hx|hx
 .rcases hy with hy|hy
  .exact rO (z:=0) rfl hx hy (rn hx) (rn hy)
  .refine rO (z:=0) (a:=x) (b:=0) ?_ hx (eQ _) (rn hx) (by unfold ab;rw[if_pos hy]);rw[zb,zb,hy,Ie,Lv,QY _ _ (Ej hx)]
 .rcases hy with hy|hy
  .refine rO (z:=0) (a:=0) (b:=y) ?_ (eQ _) hy (by unfold ab;rw[if_pos hx]) (rn hy);rw[zb,zb,hx,Ie,Lv,Qu _ _ (Ej hy)]
  .subst hx;subst hy;have e:xQ .f64 9223372036854775808 9223372036854775808=9223372036854775808:=by decide+kernel
   rw[e];exact⟨.inr rfl,by decide+kernel⟩
theorem O2{x:Nat}(h:nn x):(IR .f64 x 0||DH .f64 x 0)=true:=by
 have z:ok 0:=⟨by decide,by decide⟩
 have p0:pl 0=0:=by decide
 rw[vF (nL (uU h) (mq h)) z,As (nL (uU h) (mq h)) z,p0,yg h];by_cases h0:ab x=0
 .rw [h0];decide
 .rw [decide_eq_true (show(0:Int)<((ab x:Nat):Int)by omega)];rfl
end Go.Proofs.Ytingpmogbibghaa.S
