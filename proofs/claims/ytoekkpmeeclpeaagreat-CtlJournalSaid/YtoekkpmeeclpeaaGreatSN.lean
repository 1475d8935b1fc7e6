/- Floats as the program of shortest ways sees them. Conditions: words of 64 bits. -/
import Derived.Test.YtoekkpmeeclpeaaGreatST
import Derived.Test.YtoekkpmeeclpeaaGreatFz
import Derived.Laws.FloatBits
open Ieee renaming Datum->eR
open Ieee.Datum renaming number->qI
open Int renaming compare_eq_eq->gd,compare_eq_gt->fu,compare_eq_lt->ft,lt_trichotomy->qH
open List renaming append_assoc->aT,append_nil->br,getElem?_eq_getElem->bf,getElem_mem->aZ,length_append->aA,mem_append_left->bw,mem_filter->dq,mem_flatMap->cA,mem_map->aP,mem_of_getElem?->bl,mem_range->cM,mem_zipIdx_iff_getElem?->iI,nil_append->fL,pairwise_iff_getElem->d8,range->aK
open Nat renaming lt_or_ge->eB,lt_trichotomy->iC,pow_le_pow_right->j8,zero_le->cp
open Option renaming bind_some->af,map_eq_some_iff->cg
open Option.some renaming inj->ac
open Go.Ev Go Go.Fl
namespace Go.Proofs.YtoekkpmeeclpeaaGreat.S
def lH(n:Nat):Bool:=decide (9218868437227405312<n %9223372036854775808)
def jy(n:Nat):Nat:=bif lH n then 9221120237041090561 else n
abbrev C_(n:Nat):Prop:=n<18446744073709551616
theorem Wi{n:Nat}(h:lH n=true):9218868437227405312<n %9223372036854775808:=of_decide_eq_true h
theorem Aw{n:Nat}(h:lH n=false):n %9223372036854775808<=9218868437227405312:=by have:=of_decide_eq_false h;omega
theorem DL(n:Nat):(FloatKind.f64.format.read n).isNaN=lH n:=by
 cases h:lH n with
 |true=>exact Mi.2 (Wi h)
 |false=>cases h2:(FloatKind.f64.format.read n).isNaN with|false=>rfl|true=>have:=Mi.1 h2;have:=Aw h;omega
theorem pM{n:Nat}(h:C_ n)(h2:lH n=false):ok n:=⟨h,Aw h2⟩
theorem Vn{n:Nat}(h:C_ n):C_ (jy n):=by
 unfold jy;cases lH n
 .exact h
 .exact (by decide:C_ 9221120237041090561)
theorem xT{n:Nat}(h:lH n=false):jy n=n:=by unfold jy;rw[h];rfl
theorem F1{n:Nat}(h:lH n=true):jy n=9221120237041090561:=by unfold jy;rw[h];rfl
theorem Lb{x y:Nat}(hx:ok x)(hy:ok y):RU .f64 x y=decide (pl x<pl y):=by
 have h:FloatKind.f64.format.order x y=some (compare (pl x) (pl y)):=As hx hy;unfold RU;rw[h];by_cases c:pl x<pl y
 .rw [ft.2 c,decide_eq_true c];rfl
 .rw [decide_eq_false c,beq_eq_false_iff_ne];intro e;exact c (ft.1 (ac e))
theorem zE{x y:Nat}(hx:ok x)(hy:ok y):MJ .f64 x y=decide (pl y<pl x):=by
 have h:FloatKind.f64.format.order x y=some (compare (pl x) (pl y)):=As hx hy;unfold MJ;rw[h];by_cases c:pl y<pl x
 .rw [fu.2 c,decide_eq_true c];rfl
 .rw [decide_eq_false c,beq_eq_false_iff_ne];intro e;exact c (fu.1 (ac e))
theorem D_{x y:Nat}(hx:ok x)(hy:ok y):Jk .f64 x y=decide (pl x=pl y):=by
 have h:FloatKind.f64.format.order x y=some (compare (pl x) (pl y)):=As hx hy;unfold Jk;rw[h];by_cases c:pl x=pl y
 .rw [gd.2 c,decide_eq_true c];rfl
 .rw [decide_eq_false c,beq_eq_false_iff_ne];intro e;exact c (gd.1 (ac e))
theorem Gy{x y:Nat}(h:lH x=true\/lH y=true):FloatKind.f64.format.order x y=none:=N1 (by rw[<-DL,<-DL]at h;exact h)
theorem MI{x y:Nat}(h:lH x=true\/lH y=true):RU .f64 x y=false:=by unfold RU;rw[Gy h];rfl
theorem GR{x y:Nat}(h:lH x=true\/lH y=true):MJ .f64 x y=false:=by unfold MJ;rw[Gy h];rfl
theorem MK{x y:Nat}(h:lH x=true\/lH y=true):Jk .f64 x y=false:=by unfold Jk;rw[Gy h];rfl
theorem Jj{x:Nat}(h:C_ x):(!(Jk .f64 x x))=lH x:=by cases h2:lH x with|true=>rw[MK (.inl h2)];rfl|false=>rw[D_ (pM h h2) (pM h h2),decide_eq_true rfl];rfl
theorem F0{x:Nat}(h:C_ x):rZ x=some (jy x):=by unfold rZ jy;rw[Jj h];cases lH x<;>rfl
theorem RJ(n:Nat):wD (n:Int)=some n:=rfl
def Yc(n:Nat):Int:=bif lH n then 0 else bif n==18442240474082181120 then 1 else bif decide (n>9223372036854775808)then 2 else bif n==9223372036854775808 then 3 else bif n==0 then 4 else bif decide (n<9218868437227405312)then 5 else 6
theorem acj(a b:Nat):(((a:Nat):Int)==((b:Nat):Int))=(a==b):=by
 by_cases h:a=b
 .simp [h]
 .rw [beq_eq_false_iff_ne.2 h,beq_eq_false_iff_ne.2 (by omega)]
def ic(n:Nat):Nat:=bif decide (9223372036854775808<=jy n)then 9223372036854775807-jy n %9223372036854775808 else 9223372036854775808+jy n
theorem XW{n:Nat}(h:C_ n):n^^^9223372036854775808=if 9223372036854775808<=n then n-9223372036854775808 else n+9223372036854775808:=by
 have key:∀m:Nat,m<9223372036854775808->m^^^9223372036854775808=m+9223372036854775808:=by
  intro m hm;refine Nat.eq_of_testBit_eq fun j=>?_;have e:(9223372036854775808:Nat)=2^63:=rfl;rw[Nat.testBit_xor,e,Nat.testBit_two_pow,Nat.add_comm m];rcases iC j 63 with h|h|h
  .rw [Nat.testBit_two_pow_add_gt h,decide_eq_false (by omega)];simp
  .subst h;rw[Nat.testBit_two_pow_add_eq,decide_eq_true rfl];cases m.testBit 63<;>rfl
  .rw [decide_eq_false (by omega),Nat.testBit_lt_two_pow (Nat.lt_of_lt_of_le hm (j8 (n:=2) (by decide) (show 63<=j by omega))),Nat.testBit_lt_two_pow]
   .rfl
   .have:2^64<=2^j:=j8 (by decide) (by omega);have e2:(2:Nat)^64=18446744073709551616:=rfl;omega
 split
 .rename_i hc;obtain⟨m,rfl⟩:∃m,n=m+9223372036854775808:=⟨n-9223372036854775808,by omega⟩
  rw[<-key m (by omega),Nat.xor_assoc,Nat.xor_self,Nat.xor_zero];rw[key m (by omega)];omega
 .exact key n (by omega)
theorem UG{x:Nat}(h:C_ x)(hn:lH x=false):kw x (-1)=some (x==18442240474082181120):=by
 unfold kw;have h0:(((-1:Int))==0)=false:=rfl;have h1:decide ((-1:Int)<0)=true:=rfl;have e:Op.negFloat .f64 x=x^^^9223372036854775808:=rfl;rw[h0,h1,cond_false,cond_true,af,e,XW h];have hf:=Aw hn;congr 1;have m:ok 9218868437227405311:=⟨by decide,by decide⟩
 split
 .rename_i hc;rw[zE ⟨by omega,by omega⟩ m];have:pl 9218868437227405311=9218868437227405311:=by decide
  have e2:pl (x-9223372036854775808)=x-9223372036854775808:=by unfold pl;rw[if_neg (by omega)];omega
  rw[this,e2];by_cases hx:x=18442240474082181120
  .subst hx;decide
  .rw [beq_eq_false_iff_ne.2 hx];exact decide_eq_false (by omega)
 .rename_i hc;rw[zE ⟨by omega,by omega⟩ m];have:pl 9218868437227405311=9218868437227405311:=by decide
  have e2:pl (x+9223372036854775808)=-(x:Int):=by unfold pl;rw[if_pos (by omega)];omega
  rw[this,e2,beq_eq_false_iff_ne.2 (by omega)];exact decide_eq_false (by omega)
theorem Mw{x:Nat}(h:C_ x)(hn:lH x=false):kw x 1=some (x==9218868437227405312):=by
 unfold kw;have h0:(((1:Int))==0)=false:=rfl;have h1:decide ((1:Int)<0)=false:=rfl;rw[h0,h1,cond_false,cond_false,af];have hf:=Aw hn;congr 1;have m:ok 9218868437227405311:=⟨by decide,by decide⟩
 rw[zE (pM h hn) m];have:pl 9218868437227405311=9218868437227405311:=by decide
 rw[this];unfold pl;by_cases hx:x=9218868437227405312
 .subst hx;decide
 .rw [beq_eq_false_iff_ne.2 hx];refine decide_eq_false ?_;split<;>omega
theorem OZ{x:Nat}(h:C_ x):pP x=some (Yc x):=by
 unfold pP Yc;rw[Jj h];cases hn:lH x with
 |true=>rfl
 |false=>
  have hf:=Aw hn;have z:ok 0:=⟨by decide,by decide⟩
  have p0:pl 0=0:=by decide
  rw[cond_false,cond_false,UG h hn,af,Mw h hn,af,Lb (pM h hn) z,zE (pM h hn) z,p0];cases h1:(x==18442240474082181120)
  .have h1:=beq_eq_false_iff_ne.1 h1;rw[cond_false,cond_false];unfold sR wE;rw[DL,hn,cond_false,af];by_cases c:9223372036854775808<=x
   .have e1:pl x=9223372036854775808-(x:Int):=by unfold pl;rw[if_pos c]
    have e2:wr .i64 (x:Int)=(x:Int)-18446744073709551616:=by simp[wr,IntKind.wrap,IntKind.bits,IntKind.signed];omega
    rw[e1,e2,beq_eq_false_iff_ne.2 (show x≠9218868437227405312 by omega),cond_false];by_cases c2:x=9223372036854775808
    .subst c2;rfl
    .rw [decide_eq_true (show(9223372036854775808:Int)-(x:Int)<0 by omega),cond_true,decide_eq_true (show x>9223372036854775808 by omega),cond_true]
   .have e1:pl x=(x:Int):=by unfold pl;rw[if_neg c]
    have e2:wr .i64 (x:Int)=(x:Int):=by simp[wr,IntKind.wrap,IntKind.bits,IntKind.signed];omega
    rw[e1,e2,decide_eq_false (show¬x>9223372036854775808 by omega),beq_eq_false_iff_ne.2 (show x≠9223372036854775808 by omega),cond_false,cond_false,decide_eq_false (show¬(x:Int)<0 by omega),cond_false];by_cases c2:x=9218868437227405312
    .subst c2;rfl
    .rw [beq_eq_false_iff_ne.2 c2,cond_false];by_cases c3:x=0
     .subst c3;rfl
     .rw [beq_eq_false_iff_ne.2 c3,decide_eq_true (show(0:Int)<(x:Int)by omega),decide_eq_true (show x<9218868437227405312 by omega)];rfl
  .rfl
theorem Ij{x:Nat}(h:C_ x):lK x=some (bif lH x then 2 else bif x==9223372036854775808 then-1 else 0):=by
 unfold lK;rw[OZ h,af];unfold Yc;cases hn:lH x
 .cases h1:(x==18442240474082181120)
  .cases h2:decide (x>9223372036854775808)
   .cases (x==9223372036854775808)<;>cases(x==0)<;>cases decide (x<9218868437227405312)<;>rfl
   .have:=of_decide_eq_true h2;rw[beq_eq_false_iff_ne.2 (show x≠9223372036854775808 by omega)];rfl
  .have:=beq_iff_eq.1 h1;subst this;rfl
 .rfl
def ER(a b:Int):Int:=bif decide (a<b)then-1 else bif decide (b<a)then 1 else 0
theorem wa{a b:Int}(h:a<b):ER a b=-1:=by unfold ER;rw[decide_eq_true h];rfl
theorem wb{a b:Int}(h:b<a):ER a b=1:=by unfold ER;rw[decide_eq_true h,decide_eq_false (by omega)];rfl
theorem CQ{a b:Int}(h:a=b):ER a b=0:=by unfold ER;rw[decide_eq_false (by omega),decide_eq_false (by omega)];rfl
theorem Jy(a b:Int):jN a b=some (ER a b):=by
 unfold jN rP ER;have h:∀c:Int,(c !=c)=false:=fun c=>by simp
 rw[h,h];simp only[af,cond_false];cases decide (a<b)<;>cases decide (a>b)<;>rfl
theorem Bu{a:Nat}(h:lH a=true):ic a=18444492273895866369:=by unfold ic;rw[F1 h];rfl
theorem Ao{a:Nat}(h:lH a=false)(hw:C_ a)(hc:9223372036854775808<=a):ic a=18446744073709551615-a:=by unfold ic;rw[xT h,decide_eq_true hc,cond_true];omega
theorem xu{a:Nat}(h:lH a=false)(hc:¬9223372036854775808<=a):ic a=9223372036854775808+a:=by unfold ic;rw[xT h,decide_eq_false hc,cond_false]
def xp(x:Nat):Int:=bif lH x then 2 else bif x==9223372036854775808 then-1 else 0
theorem Ds{x:Nat}(h:lH x=true):xp x=2:=by unfold xp;rw[h];rfl
theorem Qt:xp 9223372036854775808=-1:=by decide
theorem Qu{x:Nat}(h:lH x=false)(h2:x≠9223372036854775808):xp x=0:=by unfold xp;rw[h,beq_eq_false_iff_ne.2 h2];rfl
theorem L4{x:Nat}(h:lH x=false):xp x<=0:=by unfold xp;rw[h];cases(x==9223372036854775808)<;>decide
theorem Vj{a b:Nat}(ha:C_ a)(hb:C_ b):mz a b=some (ER (ic a) (ic b)):=by
 unfold mz;rw[show lK a=some (xp a)from Ij ha,af,show lK b=some (xp b)from Ij hb,af,Jy,af];cases na:lH a with
 |true=>
  rw[MI (.inl na),GR (.inl na),cond_false,cond_false,Ds na,Bu na];cases nb:lH b with
  |true=>rw[Ds nb,Bu nb];rfl
  |false=>
   have h1:=L4 nb;have h2:=Aw nb;rw[wb (show xp b<2 by omega),wb];by_cases c:9223372036854775808<=b
   .rw [Ao nb hb c];omega
   .rw [xu nb c];omega
 |false=>
  have fa:=Aw na;cases nb:lH b with
  |true=>
   have h1:=L4 na;rw[MI (.inr nb),GR (.inr nb),cond_false,cond_false,Ds nb,Bu nb,wa (show xp a<2 by omega),wa];by_cases c:9223372036854775808<=a
   .rw [Ao na ha c];omega
   .rw [xu na c];omega
  |false=>
   have fb:=Aw nb;rw[Lb (pM ha na) (pM hb nb),zE (pM ha na) (pM hb nb)]
   have pa:(9223372036854775808<=a/\pl a=9223372036854775808-(a:Int)/\((ic a:Nat):Int)=18446744073709551615-(a:Int))\/(a<9223372036854775808/\pl a=(a:Int)/\((ic a:Nat):Int)=9223372036854775808+(a:Int)):=by
    by_cases c:9223372036854775808<=a
    .refine .inl ⟨c,by unfold pl;rw[if_pos c],by rw[Ao na ha c];have:a<18446744073709551616:=ha;omega⟩
    .refine .inr ⟨by omega,by unfold pl;rw[if_neg c],by rw[xu na c];omega⟩
   have pb:(9223372036854775808<=b/\pl b=9223372036854775808-(b:Int)/\((ic b:Nat):Int)=18446744073709551615-(b:Int))\/(b<9223372036854775808/\pl b=(b:Int)/\((ic b:Nat):Int)=9223372036854775808+(b:Int)):=by
    by_cases c:9223372036854775808<=b
    .refine .inl ⟨c,by unfold pl;rw[if_pos c],by rw[Ao nb hb c];have:b<18446744073709551616:=hb;omega⟩
    .refine .inr ⟨by omega,by unfold pl;rw[if_neg c],by rw[xu nb c];omega⟩
   generalize((ic a:Nat):Int)=qa at pa|-;generalize((ic b:Nat):Int)=qb at pb|-;generalize hA:pl a=A at pa|-;generalize hB:pl b=B at pb|-;rcases qH A B with e|e|e
   .rw [decide_eq_true e,cond_true,wa (by omega)]
   .rw [decide_eq_false (by omega),decide_eq_false (by omega),cond_false,cond_false];rcases iC a b with e2|e2|e2
    .--0 and-0
     have hb':b=9223372036854775808:=by omega
     rw[hb',Qt,Qu na (by omega),wb (by omega),wb (by omega)]
    .subst e2;rw[CQ rfl,CQ (by omega)]
    .have ha':a=9223372036854775808:=by omega
     rw[ha',Qt,Qu nb (by omega),wa (by omega),wa (by omega)]
   .rw [decide_eq_false (by omega),decide_eq_true e,cond_false,cond_true,wb (by omega)]
def nn(x:Nat):Prop:=x<=D.infRung\/x=9223372036854775808
def ab(x:Nat):Nat:=if x=9223372036854775808 then 0 else x
theorem vG{x:Nat}(h:x<=D.infRung):nn x:=.inl h
theorem wY{x:Nat}(h:x<=D.infRung):ab x=x:=by unfold ab;rw[if_neg];rw[w4]at h;omega
theorem zt{x:Nat}(h:nn x):C_ x:=by
 rcases h with h|h
 .rw [w4]at h;unfold C_;omega
 .rw [h];exact(by decide:C_ 9223372036854775808)
theorem rm{x:Nat}(h:nn x):lH x=false:=by
 rcases h with h|h
 .rw [w4]at h;exact decide_eq_false (by omega)
 .rw [h];decide
theorem B5{x:Nat}(h:nn x):pl x=ab x:=by
 rcases h with h|h
 .rw [wY h];rw[w4]at h;unfold pl;rw[if_neg (by omega)]
 .rw [h];decide
theorem Xc(p:Int):∀d:eR,d.neg=false->(qI true 0 p).sum d=(qI false 0 p).sum d
 |.number t n j,h=>by obtain rfl:t=false:=h;simp only[eR.sum,Ieee.signed];simp
 |.infinity _,_=>rfl
 |.nan ..,_=>rfl
theorem XG(p:Int):∀d:eR,d.neg=false->d.sum (qI true 0 p)=d.sum (qI false 0 p)
 |.number t n j,h=>by obtain rfl:t=false:=h;simp only[eR.sum,Ieee.signed];simp
 |.infinity _,_=>rfl
 |.nan ..,_=>rfl
theorem L3:D.read 9223372036854775808=.number true 0 D.leastPlace:=by decide
theorem Qr:D.read 0=.number false 0 D.leastPlace:=by decide
theorem Ii{x:Nat}(h:x<=D.infRung):(D.read x).neg=false:=by
 rcases eB x D.infRung with h1|h1
 .obtain ⟨m,k,e,_⟩:=tM D h1 (by decide);rw[e];rfl
 .obtain rfl:x=D.infRung:=by omega
  rw[Ak D (by decide) (by decide)];rfl
theorem C3(x y:Nat):D.add x y=((D.read x).sum (D.read y)).map D.write:=rfl
theorem U2{x y z:Nat}(h:D.add x y=some z):GS .f64 x y=z:=by show(D.add x y).getD _=z;rw[h];rfl
theorem Yr{x y:Nat}(hx:nn x)(hy:nn y):nn (GS .f64 x y)/\ab (GS .f64 x y)=plus D (ab x) (ab y):=by
 have hs:D.infRung<D.signWeight:=by decide
 have hb:D.binade<=D.infRung:=by decide
 have w5:∀{z a b:Nat},D.add x y=D.add a b->a<=D.infRung->b<=D.infRung->ab x=a->ab y=b->nn (GS .f64 x y)/\ab (GS .f64 x y)=plus D (ab x) (ab y):=by intro z a b e ha hb2 e1 e2;have h:=SQ (f:=D) hs hb ha hb2;rw[U2 (e.trans h),e1,e2];exact⟨.inl CT,wY CT⟩
 rcases hx with hx|hx
 .rcases hy with hy|hy
  .exact w5 (z:=0) rfl hx hy (wY hx) (wY hy)
  .refine w5 (z:=0) (a:=x) (b:=0) ?_ hx (cp _) (wY hx) (by unfold ab;rw[if_pos hy]);rw[C3,C3,hy,L3,Qr,XG _ _ (Ii hx)]
 .rcases hy with hy|hy
  .refine w5 (z:=0) (a:=0) (b:=y) ?_ (cp _) hy (by unfold ab;rw[if_pos hx]) (wY hy);rw[C3,C3,hx,L3,Qr,Xc _ _ (Ii hy)]
  .subst hx;subst hy;have e:GS .f64 9223372036854775808 9223372036854775808=9223372036854775808:=by decide+kernel
   rw[e];exact⟨.inr rfl,by decide+kernel⟩
theorem UR{x:Nat}(h:nn x):(MJ .f64 x 0||Jk .f64 x 0)=true:=by
 have z:ok 0:=⟨by decide,by decide⟩
 have p0:pl 0=0:=by decide
 rw[zE (pM (zt h) (rm h)) z,D_ (pM (zt h) (rm h)) z,p0,B5 h];by_cases h0:ab x=0
 .rw [h0];decide
 .rw [decide_eq_true (show(0:Int)<((ab x:Nat):Int)by omega)];rfl
end Go.Proofs.YtoekkpmeeclpeaaGreat.S
open Go.Ev Go Go.Fl
namespace Go.Proofs.YtoekkpmeeclpeaaGreat.S
def Pc(a b:aD):Bool:=decide (a.gk<b.gk)
theorem GL:O5 Pc:=⟨fun x=>decide_eq_false (by omega),fun x y z h1 h2=>by
 have h1:=of_decide_eq_true h1;have h2:=of_decide_eq_true h2;exact decide_eq_true (by omega),fun x y z h1 h2=>by
 have h1:=of_decide_eq_false h1;have h2:=of_decide_eq_false h2;exact decide_eq_false (by omega)⟩
theorem NQ:YL uy Pc (fun _=>True):=fun x y _ _=>by
 refine⟨_,by unfold uy;rw[Jy];rfl,?_⟩;unfold Pc;rcases qH x.gk y.gk with h|h|h
 .rw [wa h,decide_eq_true h];rfl
 .rw [CQ h,decide_eq_false (show¬x.gk<y.gk by omega)];rfl
 .rw [wb h,decide_eq_false (show¬x.gk<y.gk by omega)];rfl
theorem Rk{n:Nat}(h:n<=12):∃r,oN (wr .u64 (n:Int))=some r:=by
 have:∀k:Fin 13,(oN (wr .u64 (k.val:Int))).isSome=true:=by decide+kernel
 exact Option.isSome_iff_exists.1 (this ⟨n,by omega⟩)
def vz(sw:Int)(i:Nat)(x:a_):List aD:=(if x.A=sw then[⟨x.mq,x.B,(i:Int)⟩]else[])++(if x.B=sw then[⟨x.mo,x.A,(i:Int)⟩]else[])
def oY(t:ao)(sw:Int):List aD:=t.a7.l.zipIdx.flatMap fun p=>vz sw p.2 p.1
theorem NF(sw:Int)(i:Nat)(x:a_):(vz sw i x).length<=2:=by unfold vz;split<;>split<;>simp
theorem Jd(sw:Int):∀(l:List (a_×Nat)),(l.flatMap fun p=>vz sw p.2 p.1).length<=2*l.length
 |[]=>by simp
 |x::l=>by have:=Jd sw l;have:=NF sw x.2 x.1;simp only[List.flatMap_cons,aA,List.length_cons];omega
theorem z8{α:Type}{l:List α}:(Sl.mk l).l=l:=rfl
theorem Qs{t:ao}(sw:Int)(hl:t.a7.l.length<=100):∃s,aU (iO t sw) (0,Sl.nil)=some s/\s.l=oY t sw:=by
 obtain⟨s,h1,h2⟩:=abS (f:=iO t sw) t.a7.l (fun i x=>vz sw i x) .nil (by omega) (fun i s hi hs=>by
  have hcap:∀(l:List aD),l.length<=4->g_ (s.l++l)=some (s.l++l):=fun l h=>nX (by have:=Jd sw ((t.a7.l.take i).zipIdx);simp only[List.length_zipIdx,List.length_take]at this;rw[hs,aA,aA];have e:(Sl.nil:Sl aD).l.length=0:=rfl;omega);have hcap2:∀(l m:List aD),l.length<=2->m.length<=2->g_ ((s.l++l)++m)=some ((s.l++l)++m):=fun l m h1 h2=>by rw[aT];exact hcap _ (by rw[aA];omega)
  by_cases ca:(gt t.a7.l i).A=sw
  .have b1:((gt t.a7.l i).A==sw)=true:=by simpa using ca
   by_cases cb:(gt t.a7.l i).B=sw
   .have b2:((gt t.a7.l i).B==sw)=true:=by simpa using cb
    exact⟨.mk ((s.l++[⟨(gt t.a7.l i).mq,(gt t.a7.l i).B,(i:Int)⟩])++[⟨(gt t.a7.l i).mo,(gt t.a7.l i).A,(i:Int)⟩]),by
     simp only[iO,nM hi,cond_true,bV hi,af,b1,b2,hcap _ (show([_]:List aD).length<=4 by simp),z8,hcap2 _ _ (show([_]:List aD).length<=2 by simp) (show([_]:List aD).length<=2 by simp)],by
     simp only[vz,if_pos ca,if_pos cb,z8,aT]⟩
   .have b2:((gt t.a7.l i).B==sw)=false:=by simpa using cb
    exact⟨.mk (s.l++[⟨(gt t.a7.l i).mq,(gt t.a7.l i).B,(i:Int)⟩]),by
     simp only[iO,nM hi,cond_true,bV hi,af,b1,b2,cond_false,hcap _ (show([_]:List aD).length<=4 by simp)],by
     simp only[vz,if_pos ca,if_neg cb,z8,br]⟩
  .have b1:((gt t.a7.l i).A==sw)=false:=by simpa using ca
   by_cases cb:(gt t.a7.l i).B=sw
   .have b2:((gt t.a7.l i).B==sw)=true:=by simpa using cb
    exact⟨.mk (s.l++[⟨(gt t.a7.l i).mo,(gt t.a7.l i).A,(i:Int)⟩]),by
     simp only[iO,nM hi,cond_true,bV hi,af,b1,b2,cond_false,hcap _ (show([_]:List aD).length<=4 by simp)],by
     simp only[vz,if_neg ca,if_pos cb,z8,fL]⟩
   .have b2:((gt t.a7.l i).B==sw)=false:=by simpa using cb
    exact⟨s,by simp only[iO,nM hi,cond_true,bV hi,af,b1,b2,cond_false],by simp only[vz,if_neg ca,if_neg cb,br]⟩) (fun s=>by simp only[iO,sS,cond_false])
 exact⟨s,h1,by rw[h2];rfl⟩
theorem Mn{t:ao}{sw:Int}{x:aD}:x∈oY t sw<->∃(i:Nat)(l:a_),t.a7.l[i]?=some l/\x∈vz sw i l:=by
 unfold oY;rw[cA];constructor
 .rintro ⟨⟨l,i⟩,h1,h2⟩;exact⟨i,l,by rw[iI]at h1;exact h1,h2⟩
 .rintro ⟨i,l,h1,h2⟩;exact⟨(l,i),by rw[iI];exact h1,h2⟩
theorem vH{sw:Int}{i:Nat}{l:a_}{x:aD}:x∈vz sw i l<->(∃b,CJ l sw x.gk x.To b)/\x.rF=i:=by
 obtain⟨p,to,k⟩:=x;unfold vz CJ;rw[List.mem_append];constructor
 .rintro (h|h)
  .split at h
   .rename_i hc;obtain⟨rfl,rfl,rfl⟩:p=l.mq/\to=l.B/\k=(i:Int):=by simpa using h
    exact⟨⟨_,.inl ⟨hc.symm,rfl,rfl,rfl⟩⟩,rfl⟩
   .simp at h
  .split at h
   .rename_i hc;obtain⟨rfl,rfl,rfl⟩:p=l.mo/\to=l.A/\k=(i:Int):=by simpa using h
    exact⟨⟨_,.inr ⟨hc.symm,rfl,rfl,rfl⟩⟩,rfl⟩
   .simp at h
 .rintro ⟨⟨b,h⟩,hk⟩;subst hk;rcases h with⟨rfl,rfl,rfl,rfl⟩|⟨rfl,rfl,rfl,rfl⟩
  .left;rw[if_pos rfl];simp
  .right;rw[if_pos rfl];simp
theorem FD{t:ao}(hV:fF t)(sw:Int):(oY t sw).Pairwise (fun a b=>a.gk≠b.gk):=by
 unfold oY;rw[List.pairwise_flatMap];constructor
 .rintro ⟨l,i⟩ hm;rw[iI]at hm;have hl:=hV.Rf l (bl hm);simp only[vz];split<;>split
  .rename_i h1 h2;exact absurd (h1.trans h2.symm) hl.1
  .simp
  .simp
  .simp
 .rw [d8];intro i j hi hj hij x hx y hy hp;simp only[List.getElem_zipIdx,Nat.zero_add]at hx hy;have hi':i<t.a7.l.length:=by simpa using hi
  have hj':j<t.a7.l.length:=by simpa using hj
  obtain⟨⟨b1,h1⟩,_⟩:=vH.1 hx;obtain⟨⟨b2,h2⟩,_⟩:=vH.1 hy;rw[<-hp]at h2;have:=B_ hV (bf hi') (bf hj') h1.AA h2.AA;omega
theorem TR{t:ao}(hV:fF t)(sw:Int):(oY t sw).length<=8:=by
 have h1:((oY t sw).map (·.gk)).Nodup:=by rw[List.Nodup,List.pairwise_map];exact FD hV sw
 have h2:((oY t sw).map (·.gk))⊆(aK 8).map (fun n=>((n:Nat):Int)):=by intro p hp;obtain⟨x,hx,rfl⟩:=aP.1 hp;obtain⟨i,l,h3,h4⟩:=Mn.1 hx;obtain⟨⟨b,h5⟩,_⟩:=vH.1 h4;have hpl:=hV.ic ⟨sw,x.gk⟩ (by rw[pL];exact bw _ (cA.2 ⟨l,bl h3,h5.AA⟩));have h6:0<=x.gk/\x.gk<8:=hpl.2;exact aP.2 ⟨x.gk.toNat,cM.2 (by omega),by omega⟩
 have:=h1.length_le_of_subset h2;simpa using this
def gj(t:ao)(sw:Int):List aD:=(aK 8).filterMap fun p:Nat=>(lZ (tP sw (p:Int)) t.a7.l 0).map fun q=>((p:Int),q.1,q.2.2)
theorem qk{t:ao}(hV:fF t){sw:Int}{x:aD}:x∈gj t sw<->∃(i:Nat)(l:a_)(b:Int),t.a7.l[i]?=some l/\CJ l sw x.gk x.To b/\x.rF=i:=by
 unfold gj;rw[List.mem_filterMap];constructor
 .rintro ⟨p,_,h⟩;obtain⟨⟨a,b,c⟩,h1,rfl⟩:=cg.1 h;obtain⟨j,l,h2,h3,h4⟩:=(Dy hV).1 h1;exact⟨j,l,b,h2,h3,h4⟩
 .rintro ⟨i,l,b,h1,h2,h3⟩;have hpl:=hV.ic ⟨sw,x.gk⟩ (by rw[pL];exact bw _ (cA.2 ⟨l,bl h1,h2.AA⟩));have h6:0<=x.gk/\x.gk<8:=hpl.2;have hp:((x.gk.toNat:Nat):Int)=x.gk:=by omega
  refine⟨x.gk.toNat,cM.2 (by omega),?_⟩;rw[hp,(Dy hV).2 ⟨i,l,h1,h2,h3⟩];rfl
theorem IM(t:ao)(sw:Int):(gj t sw).Pairwise fun a b=>a.gk<b.gk:=by
 unfold gj;rw[List.pairwise_filterMap];refine List.Pairwise.imp ?_ (List.pairwise_lt_range (n:=8));intro p q h x hx y hy;obtain⟨_,_,rfl⟩:=cg.1 hx;obtain⟨_,_,rfl⟩:=cg.1 hy;show(p:Int)<(q:Int)
 omega
theorem Gl{A B:List aD}(hA:A.Pairwise fun a b=>a.gk≠b.gk)(hp:A.Perm B):qB Pc A B:=by
 intro c;have h1:=hp.filter (EM Pc c)
 have h2:(A.filter (EM Pc c)).length<=1:=by
  rcases eB 1 (A.filter (EM Pc c)).length with h|h
  .exfalso;have h3:=d8.1 (hA.filter (EM Pc c)) 0 1 (by omega) h (by omega);have h4:=AX.1 (dq.1 (aZ (show 0<(A.filter (EM Pc c)).length by omega))).2;have h5:=AX.1 (dq.1 (aZ h)).2;have a1:=of_decide_eq_false h4.1;have a2:=of_decide_eq_false h4.2;have a3:=of_decide_eq_false h5.1;have a4:=of_decide_eq_false h5.2;omega
  .exact h
 generalize A.filter (EM Pc c)=X at h1 h2;generalize B.filter (EM Pc c)=Y at h1;have hl:=h1.length_eq
 match X,Y,h1 with|[],[],_=>rfl|[x],[y],h=>rw[List.perm_singleton.1 h]|_::_::_,_,_=>simp at h2|[],_::_,_=>simp at hl|[_],[],_=>simp at hl|[_],_::_::_,_=>simp at hl
theorem IN{t:ao}(hV:fF t)(sw:Int):qB Pc (gj t sw) (oY t sw):=by
 have h1:(gj t sw).Pairwise fun a b=>a.gk≠b.gk:=(IM t sw).imp fun h=>by omega
 refine Gl h1 ?_;have n1:(gj t sw).Nodup:=h1.imp fun h e=>h (by rw[e]);have n2:(oY t sw).Nodup:=(FD hV sw).imp fun h e=>h (by rw[e]);refine(List.perm_ext_iff_of_nodup n1 n2).2 fun x=>?_;rw[qk hV,Mn];constructor
 .rintro ⟨i,l,b,h1,h2,h3⟩;exact⟨i,l,h1,vH.2 ⟨⟨b,h2⟩,h3⟩⟩
 .rintro ⟨i,l,h1,h2⟩;obtain⟨⟨b,h3⟩,h4⟩:=vH.1 h2;exact⟨i,l,b,h1,h3,h4⟩
theorem DK{t:ao}(hV:fF t)(sw:Int):∃s,nE t sw=some s/\s.l=gj t sw:=by
 obtain⟨s,h1,h2⟩:=Qs (t:=t) sw (by have:=hV.FN;omega);have hlen:=TR hV sw;rw[<-h2]at hlen;obtain⟨r,hr⟩:=Rk (n:=s.l.length) (by omega)
 have hins:∃s2:Sl aD,bE s 0 (s.l.length:Int)=some s2/\s2.l=gj t sw/\m8 s2 s=some ():=by
  cases s with
  |nil=>
   refine⟨Sl.nil,?_,?_,rfl⟩
   .unfold bE;rw[cQ (b:=(Sl.nil:Sl aD)) rfl];rfl
   .have h0:oY t sw=[]:=h2.symm;have:=IN hV sw;rw[h0]at this;have h3:gj t sw=[]:=List.eq_nil_iff_forall_not_mem.2 fun x hx=>by cases(this.AA GL).1 hx
    rw[h3];rfl
  |mk L=>obtain⟨M,m1,m2,m3,m4⟩:=FU GL NQ (a:=0) (b:=L.length) (X:=[]) (L:=L) (Y:=[]) rfl (by omega) (by have:L.length<=8:=hlen;omega) (fun _ _=>trivial);simp only[fL,br]at m1;refine⟨Sl.mk M,m1,?_,Uw m2⟩;have h2:L=oY t sw:=h2;refine PT GL m3 ((IM t sw).imp fun h=>decide_eq_false (by omega)) (m4.trans ?_);rw[h2];exact(IN hV sw).symm
 obtain⟨s2,j1,j2,j3⟩:=hins;refine⟨s2,?_,j2⟩;have hw:decide ((wr .i64 ((s.l.length:Int)-0))<=12)=true:=by rw[decide_eq_true_eq,iY (by omega) (by omega)];omega
 unfold nE;rw[h1,af];unfold cu cP;rw[hr,af];have hp:aU cC (0,(s.l.length:Int),r,true,true,s)=some s2:=by refine cQ ?_;simp only[cC];rw[hw,cond_true,j1,af,j3,af]
 rw[hp,af,af,j3,af,af,j3,af]
end Go.Proofs.YtoekkpmeeclpeaaGreat.S
