/- Floats as the program of shortest ways sees them. Conditions: words of 64 bits. -/
import Derived.Test.YtoekkpmeeclpeaaGreatST
import Derived.Test.YtoekkpmeeclpeaaGreatFz
import Derived.Laws.FloatBits
open Ieee renaming Datum->eM
open Ieee.Datum renaming number->pT
open Int renaming compare_eq_eq->fX,compare_eq_gt->fo,compare_eq_lt->fm,lt_trichotomy->pS
open List renaming append_assoc->aQ,append_nil->bo,getElem?_eq_getElem->bf,getElem_mem->aX,length_append->aA,mem_append_left->bw,mem_filter->cY,mem_flatMap->cx,mem_map->aL,mem_of_getElem?->bj,mem_range->cI,mem_zipIdx_iff_getElem?->iw,nil_append->fI,pairwise_iff_getElem->dY,range->aK
open Nat renaming lt_or_ge->er,lt_trichotomy->ik,pow_le_pow_right->jT,zero_le->cp
open Option renaming bind_some->ad,map_eq_some_iff->cg
open Option.some renaming inj->ac
open Go.Ev Go Go.Fl
namespace Go.Proofs.YtoekkpmeeclpeaaGreat.S
def ld(n:Nat):Bool:=decide (9218868437227405312<n %9223372036854775808)
def jf(n:Nat):Nat:=bif ld n then 9221120237041090561 else n
abbrev CA(n:Nat):Prop:=n<18446744073709551616
theorem VH{n:Nat}(h:ld n=true):9218868437227405312<n %9223372036854775808:=of_decide_eq_true h
theorem zF{n:Nat}(h:ld n=false):n %9223372036854775808<=9218868437227405312:=by have:=of_decide_eq_false h;omega
theorem Dd(n:Nat):(FloatKind.f64.format.read n).isNaN=ld n:=by
 cases h:ld n with
 |true=>exact LF.2 (VH h)
 |false=>cases h2:(FloatKind.f64.format.read n).isNaN with|false=>rfl|true=>have:=LF.1 h2;have:=zF h;omega
theorem oX{n:Nat}(h:CA n)(h2:ld n=false):ok n:=⟨h,zF h2⟩
theorem UM{n:Nat}(h:CA n):CA (jf n):=by
 unfold jf;cases ld n
 .exact h
 .exact (by decide:CA 9221120237041090561)
theorem xi{n:Nat}(h:ld n=false):jf n=n:=by unfold jf;rw[h];rfl
theorem Fq{n:Nat}(h:ld n=true):jf n=9221120237041090561:=by unfold jf;rw[h];rfl
theorem Kz{x y:Nat}(hx:ok x)(hy:ok y):Q_ .f64 x y=decide (pl x<pl y):=by
 have h:FloatKind.f64.format.order x y=some (compare (pl x) (pl y)):=zC hx hy;unfold Q_;rw[h];by_cases c:pl x<pl y
 .rw [fm.2 c,decide_eq_true c];rfl
 .rw [decide_eq_false c,beq_eq_false_iff_ne];intro e;exact c (fm.1 (ac e))
theorem yK{x y:Nat}(hx:ok x)(hy:ok y):L5 .f64 x y=decide (pl y<pl x):=by
 have h:FloatKind.f64.format.order x y=some (compare (pl x) (pl y)):=zC hx hy;unfold L5;rw[h];by_cases c:pl y<pl x
 .rw [fo.2 c,decide_eq_true c];rfl
 .rw [decide_eq_false c,beq_eq_false_iff_ne];intro e;exact c (fo.1 (ac e))
theorem Dz{x y:Nat}(hx:ok x)(hy:ok y):IH .f64 x y=decide (pl x=pl y):=by
 have h:FloatKind.f64.format.order x y=some (compare (pl x) (pl y)):=zC hx hy;unfold IH;rw[h];by_cases c:pl x=pl y
 .rw [fX.2 c,decide_eq_true c];rfl
 .rw [decide_eq_false c,beq_eq_false_iff_ne];intro e;exact c (fX.1 (ac e))
theorem FV{x y:Nat}(h:ld x=true\/ld y=true):FloatKind.f64.format.order x y=none:=Nl (by rw[<-Dd,<-Dd]at h;exact h)
theorem L4{x y:Nat}(h:ld x=true\/ld y=true):Q_ .f64 x y=false:=by unfold Q_;rw[FV h];rfl
theorem Gd{x y:Nat}(h:ld x=true\/ld y=true):L5 .f64 x y=false:=by unfold L5;rw[FV h];rfl
theorem L6{x y:Nat}(h:ld x=true\/ld y=true):IH .f64 x y=false:=by unfold IH;rw[FV h];rfl
theorem IG{x:Nat}(h:CA x):(!(IH .f64 x x))=ld x:=by cases h2:ld x with|true=>rw[L6 (.inl h2)];rfl|false=>rw[Dz (oX h h2) (oX h h2),decide_eq_true rfl];rfl
theorem Fp{x:Nat}(h:CA x):ra x=some (jf x):=by unfold ra jf;rw[IG h];cases ld x<;>rfl
theorem Q1(n:Nat):vM (n:Int)=some n:=rfl
def XG(n:Nat):Int:=bif ld n then 0 else bif n==18442240474082181120 then 1 else bif decide (n>9223372036854775808)then 2 else bif n==9223372036854775808 then 3 else bif n==0 then 4 else bif decide (n<9218868437227405312)then 5 else 6
theorem abL(a b:Nat):(((a:Nat):Int)==((b:Nat):Int))=(a==b):=by
 by_cases h:a=b
 .simp [h]
 .rw [beq_eq_false_iff_ne.2 h,beq_eq_false_iff_ne.2 (by omega)]
def gU(n:Nat):Nat:=bif decide (9223372036854775808<=jf n)then 9223372036854775807-jf n %9223372036854775808 else 9223372036854775808+jf n
theorem Xp{n:Nat}(h:CA n):n^^^9223372036854775808=if 9223372036854775808<=n then n-9223372036854775808 else n+9223372036854775808:=by
 have key:∀m:Nat,m<9223372036854775808->m^^^9223372036854775808=m+9223372036854775808:=by
  intro m hm;refine Nat.eq_of_testBit_eq fun j=>?_;have e:(9223372036854775808:Nat)=2^63:=rfl;rw[Nat.testBit_xor,e,Nat.testBit_two_pow,Nat.add_comm m];rcases ik j 63 with h|h|h
  .rw [Nat.testBit_two_pow_add_gt h,decide_eq_false (by omega)];simp
  .subst h;rw[Nat.testBit_two_pow_add_eq,decide_eq_true rfl];cases m.testBit 63<;>rfl
  .rw [decide_eq_false (by omega),Nat.testBit_lt_two_pow (Nat.lt_of_lt_of_le hm (jT (n:=2) (by decide) (show 63<=j by omega))),Nat.testBit_lt_two_pow]
   .rfl
   .have:2^64<=2^j:=jT (by decide) (by omega);have e2:(2:Nat)^64=18446744073709551616:=rfl;omega
 split
 .rename_i hc;obtain⟨m,rfl⟩:∃m,n=m+9223372036854775808:=⟨n-9223372036854775808,by omega⟩
  rw[<-key m (by omega),Nat.xor_assoc,Nat.xor_self,Nat.xor_zero];rw[key m (by omega)];omega
 .exact key n (by omega)
theorem T5{x:Nat}(h:CA x)(hn:ld x=false):ke x (-1)=some (x==18442240474082181120):=by
 unfold ke;have h0:(((-1:Int))==0)=false:=rfl;have h1:decide ((-1:Int)<0)=true:=rfl;have e:Op.negFloat .f64 x=x^^^9223372036854775808:=rfl;rw[h0,h1,cond_false,cond_true,ad,e,Xp h];have hf:=zF hn;congr 1;have m:ok 9218868437227405311:=⟨by decide,by decide⟩
 split
 .rename_i hc;rw[yK ⟨by omega,by omega⟩ m];have:pl 9218868437227405311=9218868437227405311:=by decide
  have e2:pl (x-9223372036854775808)=x-9223372036854775808:=by unfold pl;rw[if_neg (by omega)];omega
  rw[this,e2];by_cases hx:x=18442240474082181120
  .subst hx;decide
  .rw [beq_eq_false_iff_ne.2 hx];exact decide_eq_false (by omega)
 .rename_i hc;rw[yK ⟨by omega,by omega⟩ m];have:pl 9218868437227405311=9218868437227405311:=by decide
  have e2:pl (x+9223372036854775808)=-(x:Int):=by unfold pl;rw[if_pos (by omega)];omega
  rw[this,e2,beq_eq_false_iff_ne.2 (by omega)];exact decide_eq_false (by omega)
theorem LR{x:Nat}(h:CA x)(hn:ld x=false):ke x 1=some (x==9218868437227405312):=by
 unfold ke;have h0:(((1:Int))==0)=false:=rfl;have h1:decide ((1:Int)<0)=false:=rfl;rw[h0,h1,cond_false,cond_false,ad];have hf:=zF hn;congr 1;have m:ok 9218868437227405311:=⟨by decide,by decide⟩
 rw[yK (oX h hn) m];have:pl 9218868437227405311=9218868437227405311:=by decide
 rw[this];unfold pl;by_cases hx:x=9218868437227405312
 .subst hx;decide
 .rw [beq_eq_false_iff_ne.2 hx];refine decide_eq_false ?_;split<;>omega
theorem Od{x:Nat}(h:CA x):oZ x=some (XG x):=by
 unfold oZ XG;rw[IG h];cases hn:ld x with
 |true=>rfl
 |false=>
  have hf:=zF hn;have z:ok 0:=⟨by decide,by decide⟩
  have p0:pl 0=0:=by decide
  rw[cond_false,cond_false,T5 h hn,ad,LR h hn,ad,Kz (oX h hn) z,yK (oX h hn) z,p0];cases h1:(x==18442240474082181120)
  .have h1:=beq_eq_false_iff_ne.1 h1;rw[cond_false,cond_false];unfold rR vN;rw[Dd,hn,cond_false,ad];by_cases c:9223372036854775808<=x
   .have e1:pl x=9223372036854775808-(x:Int):=by unfold pl;rw[if_pos c]
    have e2:wr .i64 (x:Int)=(x:Int)-18446744073709551616:=by simp[wr,IntKind.wrap,IntKind.bits,IntKind.signed];omega
    rw[e1,e2,beq_eq_false_iff_ne.2 (show x≠9218868437227405312 by omega),cond_false];by_cases c2:x=9223372036854775808
    .subst c2;rfl
    .rw [decide_eq_true (show(9223372036854775808:Int)-(x:Int)<0 by omega),cond_true,decide_eq_true (show x>9223372036854775808 by omega),cond_true]
   .have e1:pl x=(x:Int):=by unfold pl;rw[if_neg c]
    have e2:wr .i64 (x:Int)=(x:Int):=by simp[wr,IntKind.wrap,IntKind.bits,IntKind.signed];omega
    rw[e1,e2,decide_eq_false (show¬x>9223372036854775808 by omega),beq_eq_false_iff_ne.2 (show x≠9223372036854775808 by omega),cond_false,cond_false,decide_eq_false (show¬(x:Int)<0 by omega),cond_false];by_cases c2:x=9218868437227405312
    .subst c2;rfl
    .rw [beq_eq_false_iff_ne.2 c2,cond_false];by_cases c3:x=0
     .subst c3;rfl
     .rw [beq_eq_false_iff_ne.2 c3,decide_eq_true (show(0:Int)<(x:Int)by omega),decide_eq_true (show x<9218868437227405312 by omega)];rfl
  .rfl
theorem Hq{x:Nat}(h:CA x):lh x=some (bif ld x then 2 else bif x==9223372036854775808 then-1 else 0):=by
 unfold lh;rw[Od h,ad];unfold XG;cases hn:ld x
 .cases h1:(x==18442240474082181120)
  .cases h2:decide (x>9223372036854775808)
   .cases (x==9223372036854775808)<;>cases(x==0)<;>cases decide (x<9218868437227405312)<;>rfl
   .have:=of_decide_eq_true h2;rw[beq_eq_false_iff_ne.2 (show x≠9223372036854775808 by omega)];rfl
  .have:=beq_iff_eq.1 h1;subst this;rfl
 .rfl
def Eb(a b:Int):Int:=bif decide (a<b)then-1 else bif decide (b<a)then 1 else 0
theorem vp{a b:Int}(h:a<b):Eb a b=-1:=by unfold Eb;rw[decide_eq_true h];rfl
theorem vq{a b:Int}(h:b<a):Eb a b=1:=by unfold Eb;rw[decide_eq_true h,decide_eq_false (by omega)];rfl
theorem Ch{a b:Int}(h:a=b):Eb a b=0:=by unfold Eb;rw[decide_eq_false (by omega),decide_eq_false (by omega)];rfl
theorem IW(a b:Int):jE a b=some (Eb a b):=by
 unfold jE qR Eb;have h:∀c:Int,(c !=c)=false:=fun c=>by simp
 rw[h,h];simp only[ad,cond_false];cases decide (a<b)<;>cases decide (a>b)<;>rfl
theorem AP{a:Nat}(h:ld a=true):gU a=18444492273895866369:=by unfold gU;rw[Fq h];rfl
theorem zy{a:Nat}(h:ld a=false)(hw:CA a)(hc:9223372036854775808<=a):gU a=18446744073709551615-a:=by unfold gU;rw[xi h,decide_eq_true hc,cond_true];omega
theorem wQ{a:Nat}(h:ld a=false)(hc:¬9223372036854775808<=a):gU a=9223372036854775808+a:=by unfold gU;rw[xi h,decide_eq_false hc,cond_false]
def wO(x:Nat):Int:=bif ld x then 2 else bif x==9223372036854775808 then-1 else 0
theorem CU{x:Nat}(h:ld x=true):wO x=2:=by unfold wO;rw[h];rfl
theorem PO:wO 9223372036854775808=-1:=by decide
theorem PP{x:Nat}(h:ld x=false)(h2:x≠9223372036854775808):wO x=0:=by unfold wO;rw[h,beq_eq_false_iff_ne.2 h2];rfl
theorem Ln{x:Nat}(h:ld x=false):wO x<=0:=by unfold wO;rw[h];cases(x==9223372036854775808)<;>decide
theorem UI{a b:Nat}(ha:CA a)(hb:CA b):lT a b=some (Eb (gU a) (gU b)):=by
 unfold lT;rw[show lh a=some (wO a)from Hq ha,ad,show lh b=some (wO b)from Hq hb,ad,IW,ad];cases na:ld a with
 |true=>
  rw[L4 (.inl na),Gd (.inl na),cond_false,cond_false,CU na,AP na];cases nb:ld b with
  |true=>rw[CU nb,AP nb];rfl
  |false=>
   have h1:=Ln nb;have h2:=zF nb;rw[vq (show wO b<2 by omega),vq];by_cases c:9223372036854775808<=b
   .rw [zy nb hb c];omega
   .rw [wQ nb c];omega
 |false=>
  have fa:=zF na;cases nb:ld b with
  |true=>
   have h1:=Ln na;rw[L4 (.inr nb),Gd (.inr nb),cond_false,cond_false,CU nb,AP nb,vp (show wO a<2 by omega),vp];by_cases c:9223372036854775808<=a
   .rw [zy na ha c];omega
   .rw [wQ na c];omega
  |false=>
   have fb:=zF nb;rw[Kz (oX ha na) (oX hb nb),yK (oX ha na) (oX hb nb)]
   have pa:(9223372036854775808<=a/\pl a=9223372036854775808-(a:Int)/\((gU a:Nat):Int)=18446744073709551615-(a:Int))\/(a<9223372036854775808/\pl a=(a:Int)/\((gU a:Nat):Int)=9223372036854775808+(a:Int)):=by
    by_cases c:9223372036854775808<=a
    .refine .inl ⟨c,by unfold pl;rw[if_pos c],by rw[zy na ha c];have:a<18446744073709551616:=ha;omega⟩
    .refine .inr ⟨by omega,by unfold pl;rw[if_neg c],by rw[wQ na c];omega⟩
   have pb:(9223372036854775808<=b/\pl b=9223372036854775808-(b:Int)/\((gU b:Nat):Int)=18446744073709551615-(b:Int))\/(b<9223372036854775808/\pl b=(b:Int)/\((gU b:Nat):Int)=9223372036854775808+(b:Int)):=by
    by_cases c:9223372036854775808<=b
    .refine .inl ⟨c,by unfold pl;rw[if_pos c],by rw[zy nb hb c];have:b<18446744073709551616:=hb;omega⟩
    .refine .inr ⟨by omega,by unfold pl;rw[if_neg c],by rw[wQ nb c];omega⟩
   generalize((gU a:Nat):Int)=qa at pa|-;generalize((gU b:Nat):Int)=qb at pb|-;generalize hA:pl a=A at pa|-;generalize hB:pl b=B at pb|-;rcases pS A B with e|e|e
   .rw [decide_eq_true e,cond_true,vp (by omega)]
   .rw [decide_eq_false (by omega),decide_eq_false (by omega),cond_false,cond_false];rcases ik a b with e2|e2|e2
    .--0 and-0
     have hb':b=9223372036854775808:=by omega
     rw[hb',PO,PP na (by omega),vq (by omega),vq (by omega)]
    .subst e2;rw[Ch rfl,Ch (by omega)]
    .have ha':a=9223372036854775808:=by omega
     rw[ha',PO,PP nb (by omega),vp (by omega),vp (by omega)]
   .rw [decide_eq_false (by omega),decide_eq_true e,cond_false,cond_true,vq (by omega)]
def nn(x:Nat):Prop:=x<=D.infRung\/x=9223372036854775808
def ab(x:Nat):Nat:=if x=9223372036854775808 then 0 else x
theorem uU{x:Nat}(h:x<=D.infRung):nn x:=.inl h
theorem wl{x:Nat}(h:x<=D.infRung):ab x=x:=by unfold ab;rw[if_neg];rw[wn]at h;omega
theorem yB{x:Nat}(h:nn x):CA x:=by
 rcases h with h|h
 .rw [wn]at h;unfold CA;omega
 .rw [h];exact(by decide:CA 9223372036854775808)
theorem qt{x:Nat}(h:nn x):ld x=false:=by
 rcases h with h|h
 .rw [wn]at h;exact decide_eq_false (by omega)
 .rw [h];decide
theorem Bw{x:Nat}(h:nn x):pl x=ab x:=by
 rcases h with h|h
 .rw [wl h];rw[wn]at h;unfold pl;rw[if_neg (by omega)]
 .rw [h];decide
theorem WB(p:Int):∀d:eM,d.neg=false->(pT true 0 p).sum d=(pT false 0 p).sum d
 |.number t n j,h=>by obtain rfl:t=false:=h;simp only[eM.sum,Ieee.signed];simp
 |.infinity _,_=>rfl
 |.nan ..,_=>rfl
theorem W_(p:Int):∀d:eM,d.neg=false->d.sum (pT true 0 p)=d.sum (pT false 0 p)
 |.number t n j,h=>by obtain rfl:t=false:=h;simp only[eM.sum,Ieee.signed];simp
 |.infinity _,_=>rfl
 |.nan ..,_=>rfl
theorem Lm:D.read 9223372036854775808=.number true 0 D.leastPlace:=by decide
theorem PM:D.read 0=.number false 0 D.leastPlace:=by decide
theorem Ho{x:Nat}(h:x<=D.infRung):(D.read x).neg=false:=by
 rcases er x D.infRung with h1|h1
 .obtain ⟨m,k,e,_⟩:=sL D h1 (by decide);rw[e];rfl
 .obtain rfl:x=D.infRung:=by omega
  rw[zu D (by decide) (by decide)];rfl
theorem Ct(x y:Nat):D.add x y=((D.read x).sum (D.read y)).map D.write:=rfl
theorem Uq{x y z:Nat}(h:D.add x y=some z):Ge .f64 x y=z:=by show(D.add x y).getD _=z;rw[h];rfl
theorem XV{x y:Nat}(hx:nn x)(hy:nn y):nn (Ge .f64 x y)/\ab (Ge .f64 x y)=plus D (ab x) (ab y):=by
 have hs:D.infRung<D.signWeight:=by decide
 have hb:D.binade<=D.infRung:=by decide
 have wu:∀{z a b:Nat},D.add x y=D.add a b->a<=D.infRung->b<=D.infRung->ab x=a->ab y=b->nn (Ge .f64 x y)/\ab (Ge .f64 x y)=plus D (ab x) (ab y):=by intro z a b e ha hb2 e1 e2;have h:=R5 (f:=D) hs hb ha hb2;rw[Uq (e.trans h),e1,e2];exact⟨.inl Ck,wl Ck⟩
 rcases hx with hx|hx
 .rcases hy with hy|hy
  .exact wu (z:=0) rfl hx hy (wl hx) (wl hy)
  .refine wu (z:=0) (a:=x) (b:=0) ?_ hx (cp _) (wl hx) (by unfold ab;rw[if_pos hy]);rw[Ct,Ct,hy,Lm,PM,W_ _ _ (Ho hx)]
 .rcases hy with hy|hy
  .refine wu (z:=0) (a:=0) (b:=y) ?_ (cp _) hy (by unfold ab;rw[if_pos hx]) (wl hy);rw[Ct,Ct,hx,Lm,PM,WB _ _ (Ho hy)]
  .subst hx;subst hy;have e:Ge .f64 9223372036854775808 9223372036854775808=9223372036854775808:=by decide+kernel
   rw[e];exact⟨.inr rfl,by decide+kernel⟩
theorem Ue{x:Nat}(h:nn x):(L5 .f64 x 0||IH .f64 x 0)=true:=by
 have z:ok 0:=⟨by decide,by decide⟩
 have p0:pl 0=0:=by decide
 rw[yK (oX (yB h) (qt h)) z,Dz (oX (yB h) (qt h)) z,p0,Bw h];by_cases h0:ab x=0
 .rw [h0];decide
 .rw [decide_eq_true (show(0:Int)<((ab x:Nat):Int)by omega)];rfl
end Go.Proofs.YtoekkpmeeclpeaaGreat.S
open Go.Ev Go Go.Fl
namespace Go.Proofs.YtoekkpmeeclpeaaGreat.S
def OB(a b:aD):Bool:=decide (a.gi<b.gi)
theorem F9:Oq OB:=⟨fun x=>decide_eq_false (by omega),fun x y z h1 h2=>by
 have h1:=of_decide_eq_true h1;have h2:=of_decide_eq_true h2;exact decide_eq_true (by omega),fun x y z h1 h2=>by
 have h1:=of_decide_eq_false h1;have h2:=of_decide_eq_false h2;exact decide_eq_false (by omega)⟩
theorem M_:Ye tK OB (fun _=>True):=fun x y _ _=>by
 refine⟨_,by unfold tK;rw[IW];rfl,?_⟩;unfold OB;rcases pS x.gi y.gi with h|h|h
 .rw [vp h,decide_eq_true h];rfl
 .rw [Ch h,decide_eq_false (show¬x.gi<y.gi by omega)];rfl
 .rw [vq h,decide_eq_false (show¬x.gi<y.gi by omega)];rfl
theorem QE{n:Nat}(h:n<=12):∃r,nV (wr .u64 (n:Int))=some r:=by
 have:∀k:Fin 13,(nV (wr .u64 (k.val:Int))).isSome=true:=by decide+kernel
 exact Option.isSome_iff_exists.1 (this ⟨n,by omega⟩)
def uN(sw:Int)(i:Nat)(x:a8):List aD:=(if x.A=sw then[⟨x.lO,x.B,(i:Int)⟩]else[])++(if x.B=sw then[⟨x.lN,x.A,(i:Int)⟩]else[])
def oo(t:ao)(sw:Int):List aD:=t.aZ.l.zipIdx.flatMap fun p=>uN sw p.2 p.1
theorem MZ(sw:Int)(i:Nat)(x:a8):(uN sw i x).length<=2:=by unfold uN;split<;>split<;>simp
theorem IA(sw:Int):∀(l:List (a8×Nat)),(l.flatMap fun p=>uN sw p.2 p.1).length<=2*l.length
 |[]=>by simp
 |x::l=>by have:=IA sw l;have:=MZ sw x.2 x.1;simp only[List.flatMap_cons,aA,List.length_cons];omega
theorem zh{α:Type}{l:List α}:(Sl.mk l).l=l:=rfl
theorem PN{t:ao}(sw:Int)(hl:t.aZ.l.length<=100):∃s,aU (iE t sw) (0,Sl.nil)=some s/\s.l=oo t sw:=by
 obtain⟨s,h1,h2⟩:=abj (f:=iE t sw) t.aZ.l (fun i x=>uN sw i x) .nil (by omega) (fun i s hi hs=>by
  have hcap:∀(l:List aD),l.length<=4->ic (s.l++l)=some (s.l++l):=fun l h=>nm (by have:=IA sw ((t.aZ.l.take i).zipIdx);simp only[List.length_zipIdx,List.length_take]at this;rw[hs,aA,aA];have e:(Sl.nil:Sl aD).l.length=0:=rfl;omega);have hcap2:∀(l m:List aD),l.length<=2->m.length<=2->ic ((s.l++l)++m)=some ((s.l++l)++m):=fun l m h1 h2=>by rw[aQ];exact hcap _ (by rw[aA];omega)
  by_cases ca:(gt t.aZ.l i).A=sw
  .have b1:((gt t.aZ.l i).A==sw)=true:=by simpa using ca
   by_cases cb:(gt t.aZ.l i).B=sw
   .have b2:((gt t.aZ.l i).B==sw)=true:=by simpa using cb
    exact⟨.mk ((s.l++[⟨(gt t.aZ.l i).lO,(gt t.aZ.l i).B,(i:Int)⟩])++[⟨(gt t.aZ.l i).lN,(gt t.aZ.l i).A,(i:Int)⟩]),by
     simp only[iE,m9 hi,cond_true,bS hi,ad,b1,b2,hcap _ (show([_]:List aD).length<=4 by simp),zh,hcap2 _ _ (show([_]:List aD).length<=2 by simp) (show([_]:List aD).length<=2 by simp)],by
     simp only[uN,if_pos ca,if_pos cb,zh,aQ]⟩
   .have b2:((gt t.aZ.l i).B==sw)=false:=by simpa using cb
    exact⟨.mk (s.l++[⟨(gt t.aZ.l i).lO,(gt t.aZ.l i).B,(i:Int)⟩]),by
     simp only[iE,m9 hi,cond_true,bS hi,ad,b1,b2,cond_false,hcap _ (show([_]:List aD).length<=4 by simp)],by
     simp only[uN,if_pos ca,if_neg cb,zh,bo]⟩
  .have b1:((gt t.aZ.l i).A==sw)=false:=by simpa using ca
   by_cases cb:(gt t.aZ.l i).B=sw
   .have b2:((gt t.aZ.l i).B==sw)=true:=by simpa using cb
    exact⟨.mk (s.l++[⟨(gt t.aZ.l i).lN,(gt t.aZ.l i).A,(i:Int)⟩]),by
     simp only[iE,m9 hi,cond_true,bS hi,ad,b1,b2,cond_false,hcap _ (show([_]:List aD).length<=4 by simp)],by
     simp only[uN,if_neg ca,if_pos cb,zh,fI]⟩
   .have b2:((gt t.aZ.l i).B==sw)=false:=by simpa using cb
    exact⟨s,by simp only[iE,m9 hi,cond_true,bS hi,ad,b1,b2,cond_false],by simp only[uN,if_neg ca,if_neg cb,bo]⟩) (fun s=>by simp only[iE,rS,cond_false])
 exact⟨s,h1,by rw[h2];rfl⟩
theorem LJ{t:ao}{sw:Int}{x:aD}:x∈oo t sw<->∃(i:Nat)(l:a8),t.aZ.l[i]?=some l/\x∈uN sw i l:=by
 unfold oo;rw[cx];constructor
 .rintro ⟨⟨l,i⟩,h1,h2⟩;exact⟨i,l,by rw[iw]at h1;exact h1,h2⟩
 .rintro ⟨i,l,h1,h2⟩;exact⟨(l,i),by rw[iw];exact h1,h2⟩
theorem uV{sw:Int}{i:Nat}{l:a8}{x:aD}:x∈uN sw i l<->(∃b,Cb l sw x.gi x.To b)/\x.qH=i:=by
 obtain⟨p,to,k⟩:=x;unfold uN Cb;rw[List.mem_append];constructor
 .rintro (h|h)
  .split at h
   .rename_i hc;obtain⟨rfl,rfl,rfl⟩:p=l.lO/\to=l.B/\k=(i:Int):=by simpa using h
    exact⟨⟨_,.inl ⟨hc.symm,rfl,rfl,rfl⟩⟩,rfl⟩
   .simp at h
  .split at h
   .rename_i hc;obtain⟨rfl,rfl,rfl⟩:p=l.lN/\to=l.A/\k=(i:Int):=by simpa using h
    exact⟨⟨_,.inr ⟨hc.symm,rfl,rfl,rfl⟩⟩,rfl⟩
   .simp at h
 .rintro ⟨⟨b,h⟩,hk⟩;subst hk;rcases h with⟨rfl,rfl,rfl,rfl⟩|⟨rfl,rfl,rfl,rfl⟩
  .left;rw[if_pos rfl];simp
  .right;rw[if_pos rfl];simp
theorem EZ{t:ao}(hV:fB t)(sw:Int):(oo t sw).Pairwise (fun a b=>a.gi≠b.gi):=by
 unfold oo;rw[List.pairwise_flatMap];constructor
 .rintro ⟨l,i⟩ hm;rw[iw]at hm;have hl:=hV.QA l (bj hm);simp only[uN];split<;>split
  .rename_i h1 h2;exact absurd (h1.trans h2.symm) hl.1
  .simp
  .simp
  .simp
 .rw [dY];intro i j hi hj hij x hx y hy hp;simp only[List.getElem_zipIdx,Nat.zero_add]at hx hy;have hi':i<t.aZ.l.length:=by simpa using hi
  have hj':j<t.aZ.l.length:=by simpa using hj
  obtain⟨⟨b1,h1⟩,_⟩:=uV.1 hx;obtain⟨⟨b2,h2⟩,_⟩:=uV.1 hy;rw[<-hp]at h2;have:=BB hV (bf hi') (bf hj') h1.zJ h2.zJ;omega
theorem S6{t:ao}(hV:fB t)(sw:Int):(oo t sw).length<=8:=by
 have h1:((oo t sw).map (·.gi)).Nodup:=by rw[List.Nodup,List.pairwise_map];exact EZ hV sw
 have h2:((oo t sw).map (·.gi))⊆(aK 8).map (fun n=>((n:Nat):Int)):=by intro p hp;obtain⟨x,hx,rfl⟩:=aL.1 hp;obtain⟨i,l,h3,h4⟩:=LJ.1 hx;obtain⟨⟨b,h5⟩,_⟩:=uV.1 h4;have hpl:=hV.gU ⟨sw,x.gi⟩ (by rw[oW];exact bw _ (cx.2 ⟨l,bj h3,h5.zJ⟩));have h6:0<=x.gi/\x.gi<8:=hpl.2;exact aL.2 ⟨x.gi.toNat,cI.2 (by omega),by omega⟩
 have:=h1.length_le_of_subset h2;simpa using this
def f9(t:ao)(sw:Int):List aD:=(aK 8).filterMap fun p:Nat=>(lF (sN sw (p:Int)) t.aZ.l 0).map fun q=>((p:Int),q.1,q.2.2)
theorem pA{t:ao}(hV:fB t){sw:Int}{x:aD}:x∈f9 t sw<->∃(i:Nat)(l:a8)(b:Int),t.aZ.l[i]?=some l/\Cb l sw x.gi x.To b/\x.qH=i:=by
 unfold f9;rw[List.mem_filterMap];constructor
 .rintro ⟨p,_,h⟩;obtain⟨⟨a,b,c⟩,h1,rfl⟩:=cg.1 h;obtain⟨j,l,h2,h3,h4⟩:=(C0 hV).1 h1;exact⟨j,l,b,h2,h3,h4⟩
 .rintro ⟨i,l,b,h1,h2,h3⟩;have hpl:=hV.gU ⟨sw,x.gi⟩ (by rw[oW];exact bw _ (cx.2 ⟨l,bj h1,h2.zJ⟩));have h6:0<=x.gi/\x.gi<8:=hpl.2;have hp:((x.gi.toNat:Nat):Int)=x.gi:=by omega
  refine⟨x.gi.toNat,cI.2 (by omega),?_⟩;rw[hp,(C0 hV).2 ⟨i,l,h1,h2,h3⟩];rfl
theorem H8(t:ao)(sw:Int):(f9 t sw).Pairwise fun a b=>a.gi<b.gi:=by
 unfold f9;rw[List.pairwise_filterMap];refine List.Pairwise.imp ?_ (List.pairwise_lt_range (n:=8));intro p q h x hx y hy;obtain⟨_,_,rfl⟩:=cg.1 hx;obtain⟨_,_,rfl⟩:=cg.1 hy;show(p:Int)<(q:Int)
 omega
theorem FK{A B:List aD}(hA:A.Pairwise fun a b=>a.gi≠b.gi)(hp:A.Perm B):pM OB A B:=by
 intro c;have h1:=hp.filter (D7 OB c)
 have h2:(A.filter (D7 OB c)).length<=1:=by
  rcases er 1 (A.filter (D7 OB c)).length with h|h
  .exfalso;have h3:=dY.1 (hA.filter (D7 OB c)) 0 1 (by omega) h (by omega);have h4:=Ab.1 (cY.1 (aX (show 0<(A.filter (D7 OB c)).length by omega))).2;have h5:=Ab.1 (cY.1 (aX h)).2;have a1:=of_decide_eq_false h4.1;have a2:=of_decide_eq_false h4.2;have a3:=of_decide_eq_false h5.1;have a4:=of_decide_eq_false h5.2;omega
  .exact h
 generalize A.filter (D7 OB c)=X at h1 h2;generalize B.filter (D7 OB c)=Y at h1;have hl:=h1.length_eq
 match X,Y,h1 with|[],[],_=>rfl|[x],[y],h=>rw[List.perm_singleton.1 h]|_::_::_,_,_=>simp at h2|[],_::_,_=>simp at hl|[_],[],_=>simp at hl|[_],_::_::_,_=>simp at hl
theorem H9{t:ao}(hV:fB t)(sw:Int):pM OB (f9 t sw) (oo t sw):=by
 have h1:(f9 t sw).Pairwise fun a b=>a.gi≠b.gi:=(H8 t sw).imp fun h=>by omega
 refine FK h1 ?_;have n1:(f9 t sw).Nodup:=h1.imp fun h e=>h (by rw[e]);have n2:(oo t sw).Nodup:=(EZ hV sw).imp fun h e=>h (by rw[e]);refine(List.perm_ext_iff_of_nodup n1 n2).2 fun x=>?_;rw[pA hV,LJ];constructor
 .rintro ⟨i,l,b,h1,h2,h3⟩;exact⟨i,l,h1,uV.2 ⟨⟨b,h2⟩,h3⟩⟩
 .rintro ⟨i,l,h1,h2⟩;obtain⟨⟨b,h3⟩,h4⟩:=uV.1 h2;exact⟨i,l,b,h1,h3,h4⟩
theorem Dc{t:ao}(hV:fB t)(sw:Int):∃s,mW t sw=some s/\s.l=f9 t sw:=by
 obtain⟨s,h1,h2⟩:=PN (t:=t) sw (by have:=hV.Fa;omega);have hlen:=S6 hV sw;rw[<-h2]at hlen;obtain⟨r,hr⟩:=QE (n:=s.l.length) (by omega)
 have hins:∃s2:Sl aD,bE s 0 (s.l.length:Int)=some s2/\s2.l=f9 t sw/\my s2 s=some ():=by
  cases s with
  |nil=>
   refine⟨Sl.nil,?_,?_,rfl⟩
   .unfold bE;rw[cM (b:=(Sl.nil:Sl aD)) rfl];rfl
   .have h0:oo t sw=[]:=h2.symm;have:=H9 hV sw;rw[h0]at this;have h3:f9 t sw=[]:=List.eq_nil_iff_forall_not_mem.2 fun x hx=>by cases(this.zJ F9).1 hx
    rw[h3];rfl
  |mk L=>obtain⟨M,m1,m2,m3,m4⟩:=Fh F9 M_ (a:=0) (b:=L.length) (X:=[]) (L:=L) (Y:=[]) rfl (by omega) (by have:L.length<=8:=hlen;omega) (fun _ _=>trivial);simp only[fI,bo]at m1;refine⟨Sl.mk M,m1,?_,TS m2⟩;have h2:L=oo t sw:=h2;refine Pd F9 m3 ((H8 t sw).imp fun h=>decide_eq_false (by omega)) (m4.trans ?_);rw[h2];exact(H9 hV sw).symm
 obtain⟨s2,j1,j2,j3⟩:=hins;refine⟨s2,?_,j2⟩;have hw:decide ((wr .i64 ((s.l.length:Int)-0))<=12)=true:=by rw[decide_eq_true_eq,iQ (by omega) (by omega)];omega
 unfold mW;rw[h1,ad];unfold cr cL;rw[hr,ad];have hp:aU cz (0,(s.l.length:Int),r,true,true,s)=some s2:=by refine cM ?_;simp only[cz];rw[hw,cond_true,j1,ad,j3,ad]
 rw[hp,ad,ad,j3,ad,ad,j3,ad]
end Go.Proofs.YtoekkpmeeclpeaaGreat.S
