/- Floats as the program of shortest ways sees them. Conditions: words of 64 bits. -/
import Derived.Test.YtoekkpmeeclpeaaGreatST
import Derived.Test.YtoekkpmeeclpeaaGreatFz
import Derived.Laws.FloatBits
open Ieee renaming Datum->gu
open Ieee.Datum renaming number->vA
open Int renaming compare_eq_eq->iC,compare_eq_gt->gU,compare_eq_lt->gT,lt_trichotomy->mU
open List renaming append_assoc->bm,append_nil->bO,getElem?_eq_getElem->bf,getElem_mem->cW,length_append->au,mem_append_left->bM,mem_filter->dy,mem_flatMap->bL,mem_map->aR,mem_of_getElem?->bA,mem_range->ct,mem_zipIdx_iff_getElem?->kM,nil_append->e_,pairwise_iff_getElem->dS,range->aG
open Nat renaming lt_or_ge->f_,lt_trichotomy->kD,pow_le_pow_right->dq,testBit_lt_two_pow->jd,zero_le->cG
open Option renaming bind_some->aa,map_eq_some_iff->dh
open Option.some renaming inj->af
open Go.Ev Go Go.Fl
namespace Go.Proofs.YtoekkpmeeclpeaaGreat.S
def nV(n:Nat):Bool:=decide (9218868437227405312<n %9223372036854775808)
def kQ(n:Nat):Nat:=bif nV n then 9221120237041090561 else n
abbrev Jc(n:Nat):Prop:=n<18446744073709551616
theorem Y2{n:Nat}(h:nV n=true):9218868437227405312<n %9223372036854775808:=of_decide_eq_true h
theorem Da{n:Nat}(h:nV n=false):n %9223372036854775808<=9218868437227405312:=by have:=of_decide_eq_false h;omega
theorem FX(n:Nat):(FloatKind.f64.format.read n).isNaN=nV n:=by
 cases h:nV n with
 |true=>exact Tx.2 (Y2 h)
 |false=>cases h2:(FloatKind.f64.format.read n).isNaN with|false=>rfl|true=>have:=Tx.1 h2;have:=Da h;omega
theorem tY{n:Nat}(h:Jc n)(h2:nV n=false):ok n:=⟨h,Da h2⟩
theorem ac_{n:Nat}(h:Jc n):Jc (kQ n):=by
 unfold kQ;cases nV n
 .exact h
 .exact (by decide:Jc 9221120237041090561)
theorem zu{n:Nat}(h:nV n=false):kQ n=n:=by unfold kQ;rw[h];rfl
theorem Ht{n:Nat}(h:nV n=true):kQ n=9221120237041090561:=by unfold kQ;rw[h];rfl
theorem Sb{x y:Nat}(hx:ok x)(hy:ok y):ZQ .f64 x y=decide (pl x<pl y):=by
 have h:FloatKind.f64.format.order x y=some (compare (pl x) (pl y)):=FV hx hy;unfold ZQ;rw[h];by_cases c:pl x<pl y
 .rw [gT.2 c,decide_eq_true c];rfl
 .rw [decide_eq_false c,beq_eq_false_iff_ne];intro e;exact c (gT.1 (af e))
theorem E9{x y:Nat}(hx:ok x)(hy:ok y):T3 .f64 x y=decide (pl y<pl x):=by
 have h:FloatKind.f64.format.order x y=some (compare (pl x) (pl y)):=FV hx hy;unfold T3;rw[h];by_cases c:pl y<pl x
 .rw [gU.2 c,decide_eq_true c];rfl
 .rw [decide_eq_false c,beq_eq_false_iff_ne];intro e;exact c (gU.1 (af e))
theorem Kk{x y:Nat}(hx:ok x)(hy:ok y):P6 .f64 x y=decide (pl x=pl y):=by
 have h:FloatKind.f64.format.order x y=some (compare (pl x) (pl y)):=FV hx hy;unfold P6;rw[h];by_cases c:pl x=pl y
 .rw [iC.2 c,decide_eq_true c];rfl
 .rw [decide_eq_false c,beq_eq_false_iff_ne];intro e;exact c (iC.1 (af e))
theorem M4{x y:Nat}(h:nV x=true\/nV y=true):FloatKind.f64.format.order x y=none:=Vl (by rw[<-FX,<-FX]at h;exact h)
theorem T0{x y:Nat}(h:nV x=true\/nV y=true):ZQ .f64 x y=false:=by unfold ZQ;rw[M4 h];rfl
theorem Ns{x y:Nat}(h:nV x=true\/nV y=true):T3 .f64 x y=false:=by unfold T3;rw[M4 h];rfl
theorem T4{x y:Nat}(h:nV x=true\/nV y=true):P6 .f64 x y=false:=by unfold P6;rw[M4 h];rfl
theorem P5{x:Nat}(h:Jc x):(!(P6 .f64 x x))=nV x:=by cases h2:nV x with|true=>rw[T4 (.inl h2)];rfl|false=>rw[Kk (tY h h2) (tY h h2),decide_eq_true rfl];rfl
theorem Mk{x:Nat}(h:Jc x):xe x=some (kQ x):=by unfold xe kQ;rw[P5 h];cases nV x<;>rfl
theorem Kf(n:Nat):yf (n:Int)=some n:=rfl
theorem KC(n:Nat):xa (n:Int)=some ((kQ n:Nat):Int):=by unfold xa kQ;have e:((n:Int).tmod 9223372036854775808)=((n %9223372036854775808:Nat):Int):=rfl;rw[e];cases h:nV n with|true=>rw[decide_eq_true (by have:=Y2 h;omega)];rfl|false=>rw[decide_eq_false (by have:=Da h;omega)];rfl
def Wo(n:Nat):Int:=bif nV n then 0 else bif n==18442240474082181120 then 1 else bif decide (n>9223372036854775808)then 2 else bif n==9223372036854775808 then 3 else bif n==0 then 4 else bif decide (n<9218868437227405312)then 5 else 6
theorem Lt(a b:Nat):(((a:Nat):Int)==((b:Nat):Int))=(a==b):=by
 by_cases h:a=b
 .simp [h]
 .rw [beq_eq_false_iff_ne.2 h,beq_eq_false_iff_ne.2 (by omega)]
theorem Sq(n:Nat):Ad (n:Int)=some (Wo n):=by
 unfold Ad Wo;rw[KC,aa];cases h:nV n with
 |true=>rw[Ht h];rfl
 |false=>
  rw[zu h,cond_false];have h1:((n:Int)==9221120237041090561)=false:=by rw[beq_eq_false_iff_ne];intro e;have:=Da h;omega
  have h2:((n:Int)==18442240474082181120)=(n==18442240474082181120):=Lt n 18442240474082181120;have h3:((n:Int)==9223372036854775808)=(n==9223372036854775808):=Lt n 9223372036854775808;have h4:((n:Int)==0)=(n==0):=Lt n 0;have h5:decide ((n:Int)>9223372036854775808)=decide (n>9223372036854775808):=decide_eq_decide.2 (by omega);have h6:decide ((n:Int)<9218868437227405312)=decide (n<9218868437227405312):=decide_eq_decide.2 (by omega);rw[h1,h2,h3,h4,h5,h6,cond_false];cases(n==18442240474082181120)<;>cases decide (n>9223372036854775808)<;>cases(n==9223372036854775808)<;>cases(n==0)<;>cases decide (n<9218868437227405312)<;>rfl
def jq(n:Nat):Nat:=bif decide (9223372036854775808<=kQ n)then 9223372036854775807-kQ n %9223372036854775808 else 9223372036854775808+kQ n
theorem age{n:Nat}(h:Jc n):n^^^9223372036854775808=if 9223372036854775808<=n then n-9223372036854775808 else n+9223372036854775808:=by
 have key:∀m:Nat,m<9223372036854775808->m^^^9223372036854775808=m+9223372036854775808:=by
  intro m hm;refine Nat.eq_of_testBit_eq fun j=>?_;have e:(9223372036854775808:Nat)=2^63:=rfl;rw[Nat.testBit_xor,e,Nat.testBit_two_pow,Nat.add_comm m];rcases kD j 63 with h|h|h
  .rw [Nat.testBit_two_pow_add_gt h,decide_eq_false (by omega)];simp
  .subst h;rw[Nat.testBit_two_pow_add_eq,decide_eq_true rfl];cases m.testBit 63<;>rfl
  .rw [decide_eq_false (by omega),jd (Nat.lt_of_lt_of_le hm (dq (n:=2) (by decide) (show 63<=j by omega))),jd]
   .rfl
   .have:2^64<=2^j:=dq (by decide) (by omega);have e2:(2:Nat)^64=18446744073709551616:=rfl;omega
 split
 .rename_i hc;obtain⟨m,rfl⟩:∃m,n=m+9223372036854775808:=⟨n-9223372036854775808,by omega⟩
  rw[<-key m (by omega),Nat.xor_assoc,Nat.xor_self,Nat.xor_zero];rw[key m (by omega)];omega
 .exact key n (by omega)
theorem acz{x:Nat}(h:Jc x)(hn:nV x=false):nm x (-1)=some (x==18442240474082181120):=by
 unfold nm;have h0:(((-1:Int))==0)=false:=rfl;have h1:decide ((-1:Int)<0)=true:=rfl;have e:Op.negFloat .f64 x=x^^^9223372036854775808:=rfl;rw[h0,h1,cond_false,cond_true,aa,e,age h];have hf:=Da hn;congr 1;have m:ok 9218868437227405311:=⟨by decide,by decide⟩
 split
 .rename_i hc;rw[E9 ⟨by omega,by omega⟩ m];have:pl 9218868437227405311=9218868437227405311:=by decide
  have e2:pl (x-9223372036854775808)=x-9223372036854775808:=by unfold pl;rw[if_neg (by omega)];omega
  rw[this,e2];by_cases hx:x=18442240474082181120
  .subst hx;decide
  .rw [beq_eq_false_iff_ne.2 hx];exact decide_eq_false (by omega)
 .rename_i hc;rw[E9 ⟨by omega,by omega⟩ m];have:pl 9218868437227405311=9218868437227405311:=by decide
  have e2:pl (x+9223372036854775808)=-(x:Int):=by unfold pl;rw[if_pos (by omega)];omega
  rw[this,e2,beq_eq_false_iff_ne.2 (by omega)];exact decide_eq_false (by omega)
theorem TO{x:Nat}(h:Jc x)(hn:nV x=false):nm x 1=some (x==9218868437227405312):=by
 unfold nm;have h0:(((1:Int))==0)=false:=rfl;have h1:decide ((1:Int)<0)=false:=rfl;rw[h0,h1,cond_false,cond_false,aa];have hf:=Da hn;congr 1;have m:ok 9218868437227405311:=⟨by decide,by decide⟩
 rw[E9 (tY h hn) m];have:pl 9218868437227405311=9218868437227405311:=by decide
 rw[this];unfold pl;by_cases hx:x=9218868437227405312
 .subst hx;decide
 .rw [beq_eq_false_iff_ne.2 hx];refine decide_eq_false ?_;split<;>omega
theorem Wt{x:Nat}(h:Jc x):t8 x=some (Wo x):=by
 unfold t8 Wo;rw[P5 h];cases hn:nV x with
 |true=>rfl
 |false=>
  have hf:=Da hn;have z:ok 0:=⟨by decide,by decide⟩
  have p0:pl 0=0:=by decide
  rw[cond_false,cond_false,acz h hn,aa,TO h hn,aa,Sb (tY h hn) z,E9 (tY h hn) z,p0];cases h1:(x==18442240474082181120)
  .have h1:=beq_eq_false_iff_ne.1 h1;rw[cond_false,cond_false];unfold ya yg;rw[FX,hn,cond_false,aa];by_cases c:9223372036854775808<=x
   .have e1:pl x=9223372036854775808-(x:Int):=by unfold pl;rw[if_pos c]
    have e2:wr .i64 (x:Int)=(x:Int)-18446744073709551616:=by simp[wr,IntKind.wrap,IntKind.bits,IntKind.signed];omega
    rw[e1,e2,beq_eq_false_iff_ne.2 (show x≠9218868437227405312 by omega),cond_false];by_cases c2:x=9223372036854775808
    .subst c2;rfl
    .rw [decide_eq_true (show(9223372036854775808:Int)-(x:Int)<0 by omega),cond_true,decide_eq_true (show x>9223372036854775808 by omega),cond_true]
   .have e1:pl x=(x:Int):=by unfold pl;rw[if_neg c]
    have e2:wr .i64 (x:Int)=(x:Int):=by simp[wr,IntKind.wrap,IntKind.bits,IntKind.signed];omega
    rw[e1,e2,decide_eq_false (show¬x>9223372036854775808 by omega),beq_eq_false_iff_ne.2 (show x≠9223372036854775808 by omega),cond_false,cond_false,decide_eq_false (show¬(x:Int)<0 by omega),cond_false];by_cases c2:x=9218868437227405312
    .subst c2;rfl
    .rw [beq_eq_false_iff_ne.2 c2,cond_false];by_cases c3:x=0
     .subst c3;rfl
     .rw [beq_eq_false_iff_ne.2 c3,decide_eq_true (show(0:Int)<(x:Int)by omega),decide_eq_true (show x<9218868437227405312 by omega)];rfl
  .rfl
theorem OV{x:Nat}(h:Jc x):oR x=some (bif nV x then 2 else bif x==9223372036854775808 then-1 else 0):=by
 unfold oR;rw[Wt h,aa];unfold Wo;cases hn:nV x
 .cases h1:(x==18442240474082181120)
  .cases h2:decide (x>9223372036854775808)
   .cases (x==9223372036854775808)<;>cases(x==0)<;>cases decide (x<9218868437227405312)<;>rfl
   .have:=of_decide_eq_true h2;rw[beq_eq_false_iff_ne.2 (show x≠9223372036854775808 by omega)];rfl
  .have:=beq_iff_eq.1 h1;subst this;rfl
 .rfl
def K4(a b:Int):Int:=bif decide (a<b)then-1 else bif decide (b<a)then 1 else 0
theorem BO{a b:Int}(h:a<b):K4 a b=-1:=by unfold K4;rw[decide_eq_true h];rfl
theorem BP{a b:Int}(h:b<a):K4 a b=1:=by unfold K4;rw[decide_eq_true h,decide_eq_false (by omega)];rfl
theorem IR{a b:Int}(h:a=b):K4 a b=0:=by unfold K4;rw[decide_eq_false (by omega),decide_eq_false (by omega)];rfl
theorem Ql(a b:Int):mw a b=some (K4 a b):=by
 unfold mw wS K4;have h:∀c:Int,(c !=c)=false:=fun c=>by simp
 rw[h,h];simp only[aa,cond_false];cases decide (a<b)<;>cases decide (a>b)<;>rfl
theorem GY{a:Nat}(h:nV a=true):jq a=18444492273895866369:=by unfold jq;rw[Ht h];rfl
theorem FT{a:Nat}(h:nV a=false)(hw:Jc a)(hc:9223372036854775808<=a):jq a=18446744073709551615-a:=by unfold jq;rw[zu h,decide_eq_true hc,cond_true];omega
theorem C7{a:Nat}(h:nV a=false)(hc:¬9223372036854775808<=a):jq a=9223372036854775808+a:=by unfold jq;rw[zu h,decide_eq_false hc,cond_false]
def C5(x:Nat):Int:=bif nV x then 2 else bif x==9223372036854775808 then-1 else 0
theorem JC{x:Nat}(h:nV x=true):C5 x=2:=by unfold C5;rw[h];rfl
theorem Yc:C5 9223372036854775808=-1:=by decide
theorem Yd{x:Nat}(h:nV x=false)(h2:x≠9223372036854775808):C5 x=0:=by unfold C5;rw[h,beq_eq_false_iff_ne.2 h2];rfl
theorem S4{x:Nat}(h:nV x=false):C5 x<=0:=by unfold C5;rw[h];cases(x==9223372036854775808)<;>decide
theorem ac6{a b:Nat}(ha:Jc a)(hb:Jc b):pK a b=some (K4 (jq a) (jq b)):=by
 unfold pK;rw[show oR a=some (C5 a)from OV ha,aa,show oR b=some (C5 b)from OV hb,aa,Ql,aa];cases na:nV a with
 |true=>
  rw[T0 (.inl na),Ns (.inl na),cond_false,cond_false,JC na,GY na];cases nb:nV b with
  |true=>rw[JC nb,GY nb];rfl
  |false=>
   have h1:=S4 nb;have h2:=Da nb;rw[BP (show C5 b<2 by omega),BP];by_cases c:9223372036854775808<=b
   .rw [FT nb hb c];omega
   .rw [C7 nb c];omega
 |false=>
  have fa:=Da na;cases nb:nV b with
  |true=>
   have h1:=S4 na;rw[T0 (.inr nb),Ns (.inr nb),cond_false,cond_false,JC nb,GY nb,BO (show C5 a<2 by omega),BO];by_cases c:9223372036854775808<=a
   .rw [FT na ha c];omega
   .rw [C7 na c];omega
  |false=>
   have fb:=Da nb;rw[Sb (tY ha na) (tY hb nb),E9 (tY ha na) (tY hb nb)]
   have pa:(9223372036854775808<=a/\pl a=9223372036854775808-(a:Int)/\((jq a:Nat):Int)=18446744073709551615-(a:Int))\/(a<9223372036854775808/\pl a=(a:Int)/\((jq a:Nat):Int)=9223372036854775808+(a:Int)):=by
    by_cases c:9223372036854775808<=a
    .refine .inl ⟨c,by unfold pl;rw[if_pos c],by rw[FT na ha c];have:a<18446744073709551616:=ha;omega⟩
    .refine .inr ⟨by omega,by unfold pl;rw[if_neg c],by rw[C7 na c];omega⟩
   have pb:(9223372036854775808<=b/\pl b=9223372036854775808-(b:Int)/\((jq b:Nat):Int)=18446744073709551615-(b:Int))\/(b<9223372036854775808/\pl b=(b:Int)/\((jq b:Nat):Int)=9223372036854775808+(b:Int)):=by
    by_cases c:9223372036854775808<=b
    .refine .inl ⟨c,by unfold pl;rw[if_pos c],by rw[FT nb hb c];have:b<18446744073709551616:=hb;omega⟩
    .refine .inr ⟨by omega,by unfold pl;rw[if_neg c],by rw[C7 nb c];omega⟩
   generalize((jq a:Nat):Int)=qa at pa|-;generalize((jq b:Nat):Int)=qb at pb|-;generalize hA:pl a=A at pa|-;generalize hB:pl b=B at pb|-;rcases mU A B with e|e|e
   .rw [decide_eq_true e,cond_true,BO (by omega)]
   .rw [decide_eq_false (by omega),decide_eq_false (by omega),cond_false,cond_false];rcases kD a b with e2|e2|e2
    .--0 and-0
     have hb':b=9223372036854775808:=by omega
     rw[hb',Yc,Yd na (by omega),BP (by omega),BP (by omega)]
    .subst e2;rw[IR rfl,IR (by omega)]
    .have ha':a=9223372036854775808:=by omega
     rw[ha',Yc,Yd nb (by omega),BO (by omega),BO (by omega)]
   .rw [decide_eq_false (by omega),decide_eq_true e,cond_false,cond_true,BP (by omega)]
def nn(x:Nat):Prop:=x<=D.infRung\/x=9223372036854775808
def ab(x:Nat):Nat:=if x=9223372036854775808 then 0 else x
theorem Ag{x:Nat}(h:x<=D.infRung):nn x:=.inl h
theorem Av{x:Nat}(h:x<=D.infRung):ab x=x:=by unfold ab;rw[if_neg];rw[AQ]at h;omega
theorem EU{x:Nat}(h:nn x):Jc x:=by
 rcases h with h|h
 .rw [AQ]at h;unfold Jc;omega
 .rw [h];exact(by decide:Jc 9223372036854775808)
theorem rC{x:Nat}(h:nn x):nV x=false:=by
 rcases h with h|h
 .rw [AQ]at h;exact decide_eq_false (by omega)
 .rw [h];decide
theorem H6{x:Nat}(h:nn x):pl x=ab x:=by
 rcases h with h|h
 .rw [Av h];rw[AQ]at h;unfold pl;rw[if_neg (by omega)]
 .rw [h];decide
theorem afj(p:Int):∀d:gu,d.neg=false->(vA true 0 p).sum d=(vA false 0 p).sum d
 |.number t n j,h=>by obtain rfl:t=false:=h;simp only[gu.sum,Ieee.signed];simp
 |.infinity _,_=>rfl
 |.nan ..,_=>rfl
theorem afX(p:Int):∀d:gu,d.neg=false->d.sum (vA true 0 p)=d.sum (vA false 0 p)
 |.number t n j,h=>by obtain rfl:t=false:=h;simp only[gu.sum,Ieee.signed];simp
 |.infinity _,_=>rfl
 |.nan ..,_=>rfl
theorem S3:D.read 9223372036854775808=.number true 0 D.leastPlace:=by decide
theorem Ya:D.read 0=.number false 0 D.leastPlace:=by decide
theorem OU{x:Nat}(h:x<=D.infRung):(D.read x).neg=false:=by
 rcases f_ x D.infRung with h1|h1
 .obtain ⟨m,k,e,_⟩:=yV D h1 (by decide);rw[e];rfl
 .obtain rfl:x=D.infRung:=by omega
  rw[FQ D (by decide) (by decide)];rfl
theorem I7(x y:Nat):D.add x y=((D.read x).sum (D.read y)).map D.write:=rfl
theorem acO{x y z:Nat}(h:D.add x y=some z):He .f64 x y=z:=by show(D.add x y).getD _=z;rw[h];rfl
theorem aaG{x y:Nat}(hx:nn x)(hy:nn y):nn (He .f64 x y)/\ab (He .f64 x y)=plus D (ab x) (ab y):=by
 have hs:D.infRung<D.signWeight:=by decide
 have hb:D.binade<=D.infRung:=by decide
 have CI:∀{z a b:Nat},D.add x y=D.add a b->a<=D.infRung->b<=D.infRung->ab x=a->ab y=b->nn (He .f64 x y)/\ab (He .f64 x y)=plus D (ab x) (ab y):=by intro z a b e ha hb2 e1 e2;have h:=aaF (f:=D) hs hb ha hb2;rw[acO (e.trans h),e1,e2];exact⟨.inl IT,Av IT⟩
 rcases hx with hx|hx
 .rcases hy with hy|hy
  .exact CI (z:=0) rfl hx hy (Av hx) (Av hy)
  .refine CI (z:=0) (a:=x) (b:=0) ?_ hx (cG _) (Av hx) (by unfold ab;rw[if_pos hy]);rw[I7,I7,hy,S3,Ya,afX _ _ (OU hx)]
 .rcases hy with hy|hy
  .refine CI (z:=0) (a:=0) (b:=y) ?_ (cG _) hy (by unfold ab;rw[if_pos hx]) (Av hy);rw[I7,I7,hx,S3,Ya,afj _ _ (OU hy)]
  .subst hx;subst hy;have e:He .f64 9223372036854775808 9223372036854775808=9223372036854775808:=by decide+kernel
   rw[e];exact⟨.inr rfl,by decide+kernel⟩
theorem acE{x:Nat}(h:nn x):(T3 .f64 x 0||P6 .f64 x 0)=true:=by
 have z:ok 0:=⟨by decide,by decide⟩
 have p0:pl 0=0:=by decide
 rw[E9 (tY (EU h) (rC h)) z,Kk (tY (EU h) (rC h)) z,p0,H6 h];by_cases h0:ab x=0
 .rw [h0];decide
 .rw [decide_eq_true (show(0:Int)<((ab x:Nat):Int)by omega)];rfl
end Go.Proofs.YtoekkpmeeclpeaaGreat.S
open Go.Ev Go Go.Fl
namespace Go.Proofs.YtoekkpmeeclpeaaGreat.S
def WK(a b:aM):Bool:=decide (a.fU<b.fU)
theorem Nk:WC WK:=⟨fun x=>decide_eq_false (by omega),fun x y z h1 h2=>by
 have h1:=of_decide_eq_true h1;have h2:=of_decide_eq_true h2;exact decide_eq_true (by omega),fun x y z h1 h2=>by
 have h1:=of_decide_eq_false h1;have h2:=of_decide_eq_false h2;exact decide_eq_false (by omega)⟩
theorem Va:Cmp zT WK (fun _=>True):=fun x y _ _=>by
 refine⟨_,by unfold zT;rw[Ql];rfl,?_⟩;unfold WK;rcases mU x.fU y.fU with h|h|h
 .rw [BO h,decide_eq_true h];rfl
 .rw [IR h,decide_eq_false (show¬x.fU<y.fU by omega)];rfl
 .rw [BP h,decide_eq_false (show¬x.fU<y.fU by omega)];rfl
theorem Zh{n:Nat}(h:n<=12):∃r,sn (wr .u64 (n:Int))=some r:=by
 have:∀k:Fin 13,(sn (wr .u64 (k.val:Int))).isSome=true:=by decide+kernel
 exact Option.isSome_iff_exists.1 (this ⟨n,by omega⟩)
def zY(sw:Int)(i:Nat)(x:bd):List aM:=(if x.A=sw then[⟨x.jD,x.B,(i:Int)⟩]else[])++(if x.B=sw then[⟨x.jC,x.A,(i:Int)⟩]else[])
def sW(t:am)(sw:Int):List aM:=t.aS.l.zipIdx.flatMap fun p=>zY sw p.2 p.1
theorem UV(sw:Int)(i:Nat)(x:bd):(zY sw i x).length<=2:=by unfold zY;split<;>split<;>simp
theorem PY(sw:Int):∀(l:List (bd×Nat)),(l.flatMap fun p=>zY sw p.2 p.1).length<=2*l.length
 |[]=>by simp
 |x::l=>by have:=PY sw l;have:=UV sw x.2 x.1;simp only[List.flatMap_cons,au,List.length_cons];omega
theorem zX{α:Type}{l:List α}:(Sl.mk l).l=l:=rfl
theorem Yb{t:am}(sw:Int)(hl:t.aS.l.length<=100):∃s,aJ (kS t sw) (0,Sl.nil)=some s/\s.l=sW t sw:=by
 obtain⟨s,h1,h2⟩:=anb (f:=kS t sw) t.aS.l (fun i x=>zY sw i x) .nil (by omega) (fun i s hi hs=>by
  have hcap:∀(l:List aM),l.length<=4->fA (s.l++l)=some (s.l++l):=fun l h=>kz (by have:=PY sw ((t.aS.l.take i).zipIdx);simp only[List.length_zipIdx,List.length_take]at this;rw[hs,au,au];have e:(Sl.nil:Sl aM).l.length=0:=rfl;omega);have hcap2:∀(l m:List aM),l.length<=2->m.length<=2->fA ((s.l++l)++m)=some ((s.l++l)++m):=fun l m h1 h2=>by rw[bm];exact hcap _ (by rw[au];omega)
  by_cases ca:(gt t.aS.l i).A=sw
  .have b1:((gt t.aS.l i).A==sw)=true:=by simpa using ca
   by_cases cb:(gt t.aS.l i).B=sw
   .have b2:((gt t.aS.l i).B==sw)=true:=by simpa using cb
    exact⟨.mk ((s.l++[⟨(gt t.aS.l i).jD,(gt t.aS.l i).B,(i:Int)⟩])++[⟨(gt t.aS.l i).jC,(gt t.aS.l i).A,(i:Int)⟩]),by
     simp only[kS,fT hi,cond_true,aY hi,aa,b1,b2,hcap _ (show([_]:List aM).length<=4 by simp),zX,hcap2 _ _ (show([_]:List aM).length<=2 by simp) (show([_]:List aM).length<=2 by simp)],by
     simp only[zY,if_pos ca,if_pos cb,zX,bm]⟩
   .have b2:((gt t.aS.l i).B==sw)=false:=by simpa using cb
    exact⟨.mk (s.l++[⟨(gt t.aS.l i).jD,(gt t.aS.l i).B,(i:Int)⟩]),by
     simp only[kS,fT hi,cond_true,aY hi,aa,b1,b2,cond_false,hcap _ (show([_]:List aM).length<=4 by simp)],by
     simp only[zY,if_pos ca,if_neg cb,zX,bO]⟩
  .have b1:((gt t.aS.l i).A==sw)=false:=by simpa using ca
   by_cases cb:(gt t.aS.l i).B=sw
   .have b2:((gt t.aS.l i).B==sw)=true:=by simpa using cb
    exact⟨.mk (s.l++[⟨(gt t.aS.l i).jC,(gt t.aS.l i).A,(i:Int)⟩]),by
     simp only[kS,fT hi,cond_true,aY hi,aa,b1,b2,cond_false,hcap _ (show([_]:List aM).length<=4 by simp)],by
     simp only[zY,if_neg ca,if_pos cb,zX,e_]⟩
   .have b2:((gt t.aS.l i).B==sw)=false:=by simpa using cb
    exact⟨s,by simp only[kS,fT hi,cond_true,aY hi,aa,b1,b2,cond_false],by simp only[zY,if_neg ca,if_neg cb,bO]⟩) (fun s=>by simp only[kS,ij,cond_false])
 exact⟨s,h1,by rw[h2];rfl⟩
theorem TC{t:am}{sw:Int}{x:aM}:x∈sW t sw<->∃(i:Nat)(l:bd),t.aS.l[i]?=some l/\x∈zY sw i l:=by
 unfold sW;rw[bL];constructor
 .rintro ⟨⟨l,i⟩,h1,h2⟩;exact⟨i,l,by rw[kM]at h1;exact h1,h2⟩
 .rintro ⟨i,l,h1,h2⟩;exact⟨(l,i),by rw[kM];exact h1,h2⟩
theorem Bt{sw:Int}{i:Nat}{l:bd}{x:aM}:x∈zY sw i l<->(∃b,IK l sw x.fU x.To b)/\x.ku=i:=by
 obtain⟨p,to,k⟩:=x;unfold zY IK;rw[List.mem_append];constructor
 .rintro (h|h)
  .split at h
   .rename_i hc;obtain⟨rfl,rfl,rfl⟩:p=l.jD/\to=l.B/\k=(i:Int):=by simpa using h
    exact⟨⟨_,.inl ⟨hc.symm,rfl,rfl,rfl⟩⟩,rfl⟩
   .simp at h
  .split at h
   .rename_i hc;obtain⟨rfl,rfl,rfl⟩:p=l.jC/\to=l.A/\k=(i:Int):=by simpa using h
    exact⟨⟨_,.inr ⟨hc.symm,rfl,rfl,rfl⟩⟩,rfl⟩
   .simp at h
 .rintro ⟨⟨b,h⟩,hk⟩;subst hk;rcases h with⟨rfl,rfl,rfl,rfl⟩|⟨rfl,rfl,rfl,rfl⟩
  .left;rw[if_pos rfl];simp
  .right;rw[if_pos rfl];simp
theorem LV{t:am}(hV:gB t)(sw:Int):(sW t sw).Pairwise (fun a b=>a.fU≠b.fU):=by
 unfold sW;rw[List.pairwise_flatMap];constructor
 .rintro ⟨l,i⟩ hm;rw[kM]at hm;have hl:=hV.VL l (bA hm);simp only[zY];split<;>split
  .rename_i h1 h2;exact absurd (h1.trans h2.symm) hl.1
  .simp
  .simp
  .simp
 .rw [dS];intro i j hi hj hij x hx y hy hp;simp only[List.getElem_zipIdx,Nat.zero_add]at hx hy;have hi':i<t.aS.l.length:=by simpa using hi
  have hj':j<t.aS.l.length:=by simpa using hj
  obtain⟨⟨b1,h1⟩,_⟩:=Bt.1 hx;obtain⟨⟨b2,h2⟩,_⟩:=Bt.1 hy;rw[<-hp]at h2;have:=H8 hV (bf hi') (bf hj') h1.yq h2.yq;omega
theorem abD{t:am}(hV:gB t)(sw:Int):(sW t sw).length<=8:=by
 have h1:((sW t sw).map (·.fU)).Nodup:=by rw[List.Nodup,List.pairwise_map];exact LV hV sw
 have h2:((sW t sw).map (·.fU))⊆(aG 8).map (fun n=>((n:Nat):Int)):=by intro p hp;obtain⟨x,hx,rfl⟩:=aR.1 hp;obtain⟨i,l,h3,h4⟩:=TC.1 hx;obtain⟨⟨b,h5⟩,_⟩:=Bt.1 h4;have hpl:=hV.jq ⟨sw,x.fU⟩ (by rw[mr];exact bM _ (bL.2 ⟨l,bA h3,h5.yq⟩));have h6:0<=x.fU/\x.fU<8:=hpl.2;exact aR.2 ⟨x.fU.toNat,ct.2 (by omega),by omega⟩
 have:=h1.length_le_of_subset h2;simpa using this
def gd(t:am)(sw:Int):List aM:=(aG 8).filterMap fun p:Nat=>(lE (rm sw (p:Int)) t.aS.l 0).map fun q=>((p:Int),q.1,q.2.2)
theorem uP{t:am}(hV:gB t){sw:Int}{x:aM}:x∈gd t sw<->∃(i:Nat)(l:bd)(b:Int),t.aS.l[i]?=some l/\IK l sw x.fU x.To b/\x.ku=i:=by
 unfold gd;rw[List.mem_filterMap];constructor
 .rintro ⟨p,_,h⟩;obtain⟨⟨a,b,c⟩,h1,rfl⟩:=dh.1 h;obtain⟨j,l,h2,h3,h4⟩:=(JH hV).1 h1;exact⟨j,l,b,h2,h3,h4⟩
 .rintro ⟨i,l,b,h1,h2,h3⟩;have hpl:=hV.jq ⟨sw,x.fU⟩ (by rw[mr];exact bM _ (bL.2 ⟨l,bA h1,h2.yq⟩));have h6:0<=x.fU/\x.fU<8:=hpl.2;have hp:((x.fU.toNat:Nat):Int)=x.fU:=by omega
  refine⟨x.fU.toNat,ct.2 (by omega),?_⟩;rw[hp,(JH hV).2 ⟨i,l,h1,h2,h3⟩];rfl
theorem Pt(t:am)(sw:Int):(gd t sw).Pairwise fun a b=>a.fU<b.fU:=by
 unfold gd;rw[List.pairwise_filterMap];refine List.Pairwise.imp ?_ (List.pairwise_lt_range (n:=8));intro p q h x hx y hy;obtain⟨_,_,rfl⟩:=dh.1 hx;obtain⟨_,_,rfl⟩:=dh.1 hy;show(p:Int)<(q:Int)
 omega
theorem ML{A B:List aM}(hA:A.Pairwise fun a b=>a.fU≠b.fU)(hp:A.Perm B):vk WK A B:=by
 intro c;have h1:=hp.filter (K0 WK c)
 have h2:(A.filter (K0 WK c)).length<=1:=by
  rcases f_ 1 (A.filter (K0 WK c)).length with h|h
  .exfalso;have h3:=dS.1 (hA.filter (K0 WK c)) 0 1 (by omega) h (by omega);have h4:=Gt.1 (dy.1 (cW (show 0<(A.filter (K0 WK c)).length by omega))).2;have h5:=Gt.1 (dy.1 (cW h)).2;have a1:=of_decide_eq_false h4.1;have a2:=of_decide_eq_false h4.2;have a3:=of_decide_eq_false h5.1;have a4:=of_decide_eq_false h5.2;omega
  .exact h
 generalize A.filter (K0 WK c)=X at h1 h2;generalize B.filter (K0 WK c)=Y at h1;have hl:=h1.length_eq
 match X,Y,h1 with|[],[],_=>rfl|[x],[y],h=>rw[List.perm_singleton.1 h]|_::_::_,_,_=>simp at h2|[],_::_,_=>simp at hl|[_],[],_=>simp at hl|[_],_::_::_,_=>simp at hl
theorem Pu{t:am}(hV:gB t)(sw:Int):vk WK (gd t sw) (sW t sw):=by
 have h1:(gd t sw).Pairwise fun a b=>a.fU≠b.fU:=(Pt t sw).imp fun h=>by omega
 refine ML h1 ?_;have n1:(gd t sw).Nodup:=h1.imp fun h e=>h (by rw[e]);have n2:(sW t sw).Nodup:=(LV hV sw).imp fun h e=>h (by rw[e]);refine(List.perm_ext_iff_of_nodup n1 n2).2 fun x=>?_;rw[uP hV,TC];constructor
 .rintro ⟨i,l,b,h1,h2,h3⟩;exact⟨i,l,h1,Bt.2 ⟨⟨b,h2⟩,h3⟩⟩
 .rintro ⟨i,l,h1,h2⟩;obtain⟨⟨b,h3⟩,h4⟩:=Bt.1 h2;exact⟨i,l,b,h1,h3,h4⟩
theorem JS{t:am}(hV:gB t)(sw:Int):∃s,qR t sw=some s/\s.l=gd t sw:=by
 obtain⟨s,h1,h2⟩:=Yb (t:=t) sw (by have:=hV.xQ;omega);have hlen:=abD hV sw;rw[<-h2]at hlen;obtain⟨r,hr⟩:=Zh (n:=s.l.length) (by omega)
 have hins:∃s2:Sl aM,cC s 0 (s.l.length:Int)=some s2/\s2.l=gd t sw/\py s2 s=some ():=by
  cases s with
  |nil=>
   refine⟨Sl.nil,?_,?_,rfl⟩
   .unfold cC;rw[bW (b:=(Sl.nil:Sl aM)) rfl];rfl
   .have h0:sW t sw=[]:=h2.symm;have:=Pu hV sw;rw[h0]at this;have h3:gd t sw=[]:=List.eq_nil_iff_forall_not_mem.2 fun x hx=>by cases(this.yq Nk).1 hx
    rw[h3];rfl
  |mk L=>obtain⟨M,m1,m2,m3,m4⟩:=Me Nk Va (a:=0) (b:=L.length) (X:=[]) (L:=L) (Y:=[]) rfl (by omega) (by have:L.length<=8:=hlen;omega) (fun _ _=>trivial);simp only[e_,bO]at m1;refine⟨Sl.mk M,m1,?_,acp m2⟩;have h2:L=sW t sw:=h2;refine Xz Nk m3 ((Pt t sw).imp fun h=>decide_eq_false (by omega)) (m4.trans ?_);rw[h2];exact(Pu hV sw).symm
 obtain⟨s2,j1,j2,j3⟩:=hins;refine⟨s2,?_,j2⟩;have hw:decide ((wr .i64 ((s.l.length:Int)-0))<=12)=true:=by rw[decide_eq_true_eq,gZ (by omega) (by omega)];omega
 unfold qR;rw[h1,aa];unfold dn dH;rw[hr,aa];have hp:aJ dv (0,(s.l.length:Int),r,true,true,s)=some s2:=by refine bW ?_;simp only[dv];rw[hw,cond_true,j1,aa,j3,aa]
 rw[hp,aa,aa,j3,aa,aa,j3,aa]
theorem G2{t:am}(hV:gB t)(sw:Int):∃s,v_ t sw=some s/\s.l=gd t sw:=by
 have hb:=hV.xQ;unfold v_
 have key:∀(k i:Nat)(s:Sl cZ),i+k=8->s.l=(aG i).filterMap (fun p:Nat=>(lE (rm sw (p:Int)) t.aS.l 0).map fun q=>((p:Int),q.1,q.2.2))->∃s',aJ (sd t sw) ((i:Int),s)=some s'/\s'.l=gd t sw:=by
  intro k;induction k with
  |zero=>
   intro i s hi hs;obtain rfl:i=8:=by omega
   exact⟨s,bW rfl,hs⟩
  |succ k ih=>
   intro i s hi hs;have hl:s.l.length<=i:=by rw[hs];exact Nat.le_trans (List.length_filterMap_le _ _) (by simp)
   have er:(aG (i+1)).filterMap (fun p:Nat=>(lE (rm sw (p:Int)) t.aS.l 0).map fun q=>(((p:Int),q.1,q.2.2):aM))=s.l++((lE (rm sw (i:Int)) t.aS.l 0).map fun q=>(((i:Int),q.1,q.2.2):aM)).toList:=by rw[List.range_succ,List.filterMap_append,hs];congr 1
   have hrun:=FO (t:=t) sw (i:Int) (by omega);unfold Cv at hrun;cases hsc:lE (rm sw (i:Int)) t.aS.l 0 with|none=>rw[hsc]at hrun er;obtain⟨s',i1,i2⟩:=ih (i+1) s (by omega) (by rw[er];simp);refine⟨s',(dD (a':=(((i+1:Nat):Int),s)) ?_).trans i1,i2⟩;simp only[sd];rw[decide_eq_true (by omega),cond_true,hrun,aa];simp only[];rw[cond_false,aa,pN (by omega)]|some q=>obtain⟨a,b,c⟩:=q;rw[hsc]at hrun er;obtain⟨s',i1,i2⟩:=ih (i+1) (Sl.mk (s.l++[(((i:Int),a,c):aM)])) (by omega) (by rw[er];rfl);refine⟨s',(dD (a':=(((i+1:Nat):Int),Sl.mk (s.l++[(((i:Int),a,c):aM)]))) ?_).trans i1,i2⟩;simp only[sd];rw[decide_eq_true (by omega),cond_true,hrun,aa];simp only[];rw[cond_true,mz.2 ⟨rfl,by rw[au];simp;omega⟩,aa,aa,pN (by omega)]
 obtain⟨s',i1,i2⟩:=key 8 0 Sl.nil (by omega) rfl;have i1':aJ (sd t sw) (0,Sl.nil)=some s':=i1;rw[i1'];exact⟨s',rfl,i2⟩
end Go.Proofs.YtoekkpmeeclpeaaGreat.S
