/- Sums of floats that are not negative: exact numbers of the least units, rounded to a rung; rising, and not below what is added to. Conditions: as stated. -/
import Ieee.Arith
import GoSem.Core.Float
import Derived.Test.YtoekkpmeeclpeaaGreatVh
open Int renaming compare_eq_eq->fX,compare_eq_gt->fo,compare_eq_lt->fm,lt_trichotomy->pS
open List renaming filter_append->ji,filter_cons->di,length_cons->ck,mem_append->aF,mem_cons->aI,mem_cons_of_mem->bd,mem_cons_self->aG,mem_filter->cY,mem_singleton->az,pairwise_append->jU,pairwise_cons->fD
open List.cons renaming inj->aB
open Nat renaming add_mul->fW,add_sub_cancel_left->kQ,div_add_mod->iv,div_eq_of_lt->kP,exists_eq_succ_of_ne_zero->kW,le_add_right->bN,le_refl->aq,lt_or_ge->er,mod_eq_of_lt->nu,mul_assoc->gx,mul_comm->iN,mul_le_mul_left->gH,mul_le_mul_right->ct,pow_add->gl,pow_le_pow_right->jT,shiftLeft_eq->ns,two_pow_pos->d7,zero_le->cp,zero_mul->gD
open Option renaming bind_some->ad
noncomputable section
namespace Go.Fl
open Ieee
def rE(n d:Nat):Nat:=n/2^d+(if 2^d<2*(n %2^d)\/2^d=2*(n %2^d)/\n/2^d %2=1 then 1 else 0)
theorem Kl{n:Nat}:n<2^(n.log2+1):=Nat.lt_log2_self
theorem Qw{n:Nat}(h:n≠0):2^n.log2<=n:=Nat.log2_self_le h
theorem Xz(neg:Bool)(n d:Nat):Toward.even.cut neg n d=rE n d:=by
 show n/1<<<min d (n.log2+2)+(decide (1<<<min d (n.log2+2)<2*(n %1<<<min d (n.log2+2)))||(1<<<min d (n.log2+2)==2*(n %1<<<min d (n.log2+2))&&n/1<<<min d (n.log2+2) %2==1)).toNat=_;unfold rE;by_cases hd:d<=n.log2+2
 .rw [Nat.min_eq_left hd,Nat.one_shiftLeft];congr 1;by_cases h1:2^d<2*(n %2^d)
  .simp [h1]
  .by_cases h2:2^d=2*(n %2^d)/\n/2^d %2=1
   .rw [if_pos (.inr h2)];have e1:(2^d==2*(n %2^d))=true:=beq_iff_eq.2 h2.1;have e2:(n/2^d %2==1)=true:=beq_iff_eq.2 h2.2;simp only[e1,e2,Bool.and_true,Bool.or_true];rfl
   .rw [if_neg (fun h=>h.elim h1 h2)]
    have e1:(2^d==2*(n %2^d)&&n/2^d %2==1)=false:=by
     rw[Bool.and_eq_false_iff];by_cases h3:2^d=2*(n %2^d)
     .right;rw[beq_eq_false_iff_ne];exact fun h=>h2 ⟨h3,h⟩
     .left;rw[beq_eq_false_iff_ne];exact h3
    simp only[decide_eq_false h1,Bool.false_or,e1];rfl
 .have hd:n.log2+2<d:=by omega
  have hn:=@Kl n;have e0:2^(n.log2+2)=2*2^(n.log2+1):=by rw[Nat.pow_succ 2 (n.log2+1)];omega
  have e1:2^(n.log2+2)<=2^d:=jT (by omega) (by omega);rw[Nat.min_eq_right (by omega),Nat.one_shiftLeft,kP (show n<2^(n.log2+2)by omega),nu (show n<2^(n.log2+2)by omega),kP (show n<2^d by omega),nu (show n<2^d by omega)];rw[if_neg (by omega)];have h1:¬2^(n.log2+2)<2*n:=by omega
  have h2:(2^(n.log2+2)==2*n)=false:=beq_false_of_ne (by omega);simp only[decide_eq_false h1,h2,Bool.false_and,Bool.or_false];rfl
theorem Lq(n:Nat):rE n 0=n:=by unfold rE;rw[Nat.pow_zero,Nat.div_one,Nat.mod_one,if_neg (by omega)];rfl
theorem S7{n m d:Nat}(h:n<=m):rE n d<=rE m d:=by
 unfold rE;have hp:0<2^d:=d7 d;have h1:n/2^d<=m/2^d:=Nat.div_le_div_right h;by_cases e:n/2^d=m/2^d
 .have h2:n %2^d<=m %2^d:=by have a:=iv n (2^d);have b:=iv m (2^d);rw[e]at a;omega
  rw[e];split
  .rename_i hc
   rw[if_pos (by
    rcases hc with hc|hc
    .exact .inl (by omega)
    .by_cases h3:n %2^d=m %2^d
     .rw [<-h3];exact .inr hc
     .exact .inl (by omega))]
   exact aq _
  .omega
 .split<;>split<;>omega
theorem JL{m k:Nat}:rE (m*2^k) k=m:=by unfold rE;have hp:0<2^k:=d7 k;rw[Nat.mul_div_cancel _ hp,Nat.mul_mod_left,if_neg (by omega)];rfl
theorem PQ{m k d:Nat}:rE (m*2^k) (d+k)=rE m d:=by
 unfold rE;have hp:0<2^k:=d7 k;have e1:m*2^k/2^(d+k)=m/2^d:=by rw[gl,iN (2^d),<-Nat.div_div_eq_div_mul,Nat.mul_div_cancel _ hp]
 have e2:m*2^k %2^(d+k)=m %2^d*2^k:=by rw[gl,Nat.mul_mod_mul_right]
 rw[e1,e2];have e3:2^(d+k)=2^d*2^k:=gl 2 d k;have c1:2^(d+k)<2*(m %2^d*2^k)<->2^d<2*(m %2^d):=by rw[e3,<-gx];exact Nat.mul_lt_mul_right hp
 have c2:2^(d+k)=2*(m %2^d*2^k)<->2^d=2*(m %2^d):=by rw[e3,<-gx];exact Nat.mul_left_inj (by omega)
 simp only[c1,c2]
section
variable(f:Format)
def gL(x:Nat):Nat:=if x/f.binade=0 then x else(f.binade+x %f.binade)*2^(x/f.binade-1)
def JK(n:Nat):Nat:=if n=0 then 0 else min ((n.log2-f.fractionBits)*f.binade+rE n (n.log2-f.fractionBits)) f.infRung
theorem Ae:0<f.binade:=d7 _
theorem H7(neg:Bool)(m:Nat)(k:Nat):f.nearest neg m (f.leastPlace+k)=f.word neg (JK f (m*2^k)):=by
 unfold Format.nearest JK;by_cases hm:m=0
 .rw [if_pos hm,hm,gD,if_pos rfl]
 have hmk:m*2^k≠0:=Nat.mul_ne_zero hm (by have:=d7 k;omega);rw[if_neg hm,if_neg hmk];have hl:(m*2^k).log2=m.log2+k:=by induction k with|zero=>simp|succ k ih=>have h0:m*2^k≠0:=Nat.mul_ne_zero hm (by have:=d7 k;omega);rw[Nat.pow_succ,<-gx,iN (m*2^k) 2,Nat.log2_two_mul h0,ih h0];omega
 rw[hl];generalize hd:m.log2+k-f.fractionBits=d;have hlast:max (f.leastPlace+(k:Int)+(m.log2:Int)-(f.fractionBits:Int)) f.leastPlace=f.leastPlace+(d:Int):=by omega
 rw[hlast];have e1:(f.leastPlace+(d:Int)-f.leastPlace).toNat=d:=by omega
 have e2:(f.leastPlace+(k:Int)-(f.leastPlace+(d:Int))).toNat=k-d:=by omega
 have e3:(f.leastPlace+(d:Int)-(f.leastPlace+(k:Int))).toNat=d-k:=by omega
 show f.word neg (min ((f.leastPlace+(d:Int)-f.leastPlace).toNat*f.binade+Toward.even.cut neg (m<<<(f.leastPlace+(k:Int)-(f.leastPlace+(d:Int))).toNat) (f.leastPlace+(d:Int)-(f.leastPlace+(k:Int))).toNat) f.infRung)=_;rw[e1,e2,e3,Xz,ns];congr 3;by_cases hkd:d<=k
 .have:d-k=0:=by omega
  rw[this,Lq];have:m*2^k=m*2^(k-d)*2^d:=by rw[gx,<-gl];congr 2;omega
  rw[this,JL]
 .have h1:k-d=0:=by omega
  rw[h1,Nat.pow_zero,Nat.mul_one];obtain⟨c,rfl⟩:∃c,d=c+k:=⟨d-k,by omega⟩
  rw[Nat.add_sub_cancel,PQ]
theorem WK(n:Nat):JK f n<=f.infRung:=by
 unfold JK;split
 .exact cp _
 .exact Nat.min_le_right _ _
theorem Hh{n m:Nat}(h:n<=m):JK f n<=JK f m:=by
 by_cases hn:n=0
 .subst hn;unfold JK;rw[if_pos rfl];exact cp _
 have hm:m≠0:=by omega
 unfold JK;rw[if_neg hn,if_neg hm]
 have hlog:n.log2<=m.log2:=by
  rcases er m.log2 n.log2 with h1|h1
  .have a:=Qw hn;have b:=@Kl m;have c:2^(m.log2+1)<=2^n.log2:=jT (by omega) h1;omega
  .exact h1
 have key:(n.log2-f.fractionBits)*f.binade+rE n (n.log2-f.fractionBits)<=(m.log2-f.fractionBits)*f.binade+rE m (m.log2-f.fractionBits):=by
  by_cases e:n.log2-f.fractionBits=m.log2-f.fractionBits
  .rw [e];exact Nat.add_le_add_left (S7 h) _
  .generalize hd:n.log2-f.fractionBits=d at*;generalize hd':m.log2-f.fractionBits=d' at*;have hlt:d<d':=by omega
   have hm2:m.log2=f.fractionBits+d':=by omega
   have h1:f.binade<=m/2^d':=by rw[Nat.le_div_iff_mul_le (d7 d')];show 2^f.fractionBits*2^d'<=m;rw[<-gl,<-hm2];exact Qw hm
   have h2:f.binade<=rE m d':=Nat.le_trans h1 (bN _ _)
   have h3:n/2^d<2*f.binade:=by
    rw[Nat.div_lt_iff_lt_mul (d7 d)];show n<2*2^f.fractionBits*2^d;have a:=@Kl n;have b:2^(n.log2+1)<=2^(f.fractionBits+d+1):=jT (by omega) (by omega);have c:2^(f.fractionBits+d+1)=2*2^f.fractionBits*2^d:=by rw[Nat.pow_succ,gl,iN _ 2,<-gx]
    omega
   have h4:rE n d<=2*f.binade:=by unfold rE;split<;>omega
   obtain⟨c,rfl⟩:∃c,d'=d+1+c:=⟨d'-(d+1),by omega⟩
   have h5:(d+1+c)*f.binade=d*f.binade+f.binade+c*f.binade:=by rw[fW,fW,Nat.one_mul]
   have h6:0<=c*f.binade:=cp _;omega
 omega
theorem yk{x y:Nat}(h:x<=y):gL f x<=gL f y:=by
 have hb:=Ae f;unfold gL;have hq:x/f.binade<=y/f.binade:=Nat.div_le_div_right h;have ha:=iv x f.binade;have hc:=iv y f.binade;have hr:=Nat.mod_lt x hb;by_cases e:x/f.binade=y/f.binade
 .rw [e]at ha|-;split
  .exact h
  .exact ct _ (by omega)
 .split
  .rename_i h0;rw[if_neg (fun q=>e (h0.trans q.symm))];have:x<f.binade:=by rw[h0]at ha;omega
   have:f.binade<=f.binade+y %f.binade:=bN _ _;have p:=d7 (y/f.binade-1)
   calc x<=f.binade+y %f.binade:=by omega
    _=(f.binade+y %f.binade)*1:=(Nat.mul_one _).symm
    _<=_:=gH _ p
  .rename_i h0;have hy0:¬y/f.binade=0:=fun q=>h0 (Nat.le_zero.1 (q▸hq));rw[if_neg hy0];obtain⟨q,hq1⟩:=kW h0;have hq1:x/f.binade=q+1:=hq1;obtain⟨c,hq2⟩:∃c,y/f.binade=q+2+c:=by obtain⟨c,hc2⟩:=Nat.exists_eq_add_of_lt (Nat.lt_of_le_of_ne hq e);exact⟨c,by rw[hc2,hq1];omega⟩
   rw[hq1,hq2];have e1:q+1-1=q:=by omega
   have e2:q+2+c-1=q+(1+c):=by omega
   rw[e1,e2,gl];have p:=d7 c
   calc (f.binade+x %f.binade)*2^q<=(2*f.binade)*2^q:=ct _ (by omega)
    _=f.binade*(2^q*2):=by rw[iN 2,gx,iN 2]
    _<=f.binade*(2^q*2^(1+c)):=gH _ (gH _ (by rw[gl,Nat.pow_one];omega))
    _<=_:=ct _ (bN _ _)
theorem xz{x:Nat}(h:x<f.infRung):JK f (gL f x)=x:=by
 have hb:=Ae f;have ha:=iv x f.binade;have hr:=Nat.mod_lt x hb;unfold gL;split
 .rename_i h0;have hx:x<f.binade:=by rw[h0]at ha;omega
  unfold JK;by_cases hx0:x=0
  .rw [if_pos hx0,hx0]
  .rw [if_neg hx0];have hl:x.log2<f.fractionBits:=(Nat.log2_lt hx0).2 hx;have:x.log2-f.fractionBits=0:=by omega
   rw[this,gD,Nat.zero_add,Lq];omega
 .rename_i h0;obtain⟨q,hq⟩:=kW h0;have hq:x/f.binade=q+1:=hq;rw[hq]at ha|-;rw[Nat.add_sub_cancel];have hne:(f.binade+x %f.binade)*2^q≠0:=Nat.mul_ne_zero (by omega) (by have:=d7 q;omega);unfold JK;rw[if_neg hne]
  have hl:((f.binade+x %f.binade)*2^q).log2=f.fractionBits+q:=by
   rw[Nat.log2_eq_iff hne];constructor
   .rw [gl];exact ct _ (bN _ _)
   .rw [Nat.pow_succ,gl];have:(f.binade+x %f.binade)*2^q<(2*f.binade)*2^q:=Nat.mul_lt_mul_of_pos_right (by omega) (d7 q);have e:2^f.fractionBits*2^q*2=(2*f.binade)*2^q:=by show 2^f.fractionBits*2^q*2=(2*2^f.fractionBits)*2^q;rw[iN 2,gx,gx,iN 2]
    omega
  rw[hl,kQ,JL];have e:(q+1)*f.binade=q*f.binade+f.binade:=by rw[fW,Nat.one_mul]
  rw[iN f.binade]at ha;omega
theorem sL{x:Nat}(h:x<f.infRung)(hs:f.infRung<=f.signWeight):∃(m k:Nat),f.read x=.number false m (f.leastPlace+k)/\m*2^k=gL f x:=by
 have hb:=Ae f;have ha:=iv x f.binade;have h1:x/f.signWeight=0:=kP (by omega);have h2:x %f.signWeight=x:=nu (by omega);unfold Format.read gL;rw[h1,h2];simp only[Nat.zero_mod];by_cases hx:x<f.binade
 .refine ⟨x,0,?_,?_⟩
  .rw [if_pos hx];simp
  .rw [if_pos (kP hx)];simp
 .have hq:x/f.binade≠0:=by intro h0;rw[h0]at ha;have:=Nat.mod_lt x hb;omega
  refine⟨f.binade+x %f.binade,x/f.binade-1,?_,?_⟩
  .rw [if_neg hx,if_pos h];rfl
  .rw [if_neg hq]
theorem On{x y:Nat}(hx:x<f.infRung)(hy:y<f.infRung)(hs:f.infRung<=f.signWeight):f.add x y=some (JK f (gL f x+gL f y)):=by
 obtain⟨m,k,e1,e2⟩:=sL f hx hs;obtain⟨n,l,e3,e4⟩:=sL f hy hs;unfold Format.add;rw[e1,e3];simp only[Datum.sum];have hb:min (f.leastPlace+(k:Int)) (f.leastPlace+(l:Int))=f.leastPlace+((min k l:Nat):Int):=by omega
 rw[hb];have t1:(f.leastPlace+(k:Int)-(f.leastPlace+((min k l:Nat):Int))).toNat=k-min k l:=by omega
 have t2:(f.leastPlace+(l:Int)-(f.leastPlace+((min k l:Nat):Int))).toNat=l-min k l:=by omega
 rw[t1,t2];simp only[signed,Bool.false_eq_true,if_false,ns];rw[<-Int.natCast_add,Int.natAbs_natCast]
 have hneg:(if((m*2^(k-min k l)+n*2^(l-min k l):Nat):Int)=0 then false&&false else decide (((m*2^(k-min k l)+n*2^(l-min k l):Nat):Int)<0))=false:=by
  split
  .rfl
  .exact decide_eq_false (by omega)
 rw[hneg,Option.map_some];show some (f.nearest false _ _)=_;rw[H7];have e5:(m*2^(k-min k l)+n*2^(l-min k l))*2^min k l=gL f x+gL f y:=by rw[fW,gx,gx,<-gl,<-gl,<-e2,<-e4];congr 3<;>omega
 rw[e5];rfl
theorem zu(hs:f.infRung<f.signWeight)(hb:f.binade<=f.infRung):f.read f.infRung=.infinity false:=by unfold Format.read;rw[kP hs,nu hs];simp only[Nat.zero_mod];rw[if_neg (by omega),if_neg (by omega),if_pos trivial];rfl
end
def plus(f:Format)(x y:Nat):Nat:=if x<f.infRung/\y<f.infRung then JK f (gL f x+gL f y)else f.infRung
section
variable{f:Format}
theorem R5(hs:f.infRung<f.signWeight)(hb:f.binade<=f.infRung){x y:Nat}(hx:x<=f.infRung)(hy:y<=f.infRung):f.add x y=some (plus f x y):=by
 unfold plus;by_cases h1:x<f.infRung
 .by_cases h2:y<f.infRung
  .rw [if_pos ⟨h1,h2⟩,On f h1 h2 (by omega)]
  .obtain rfl:y=f.infRung:=by omega
   rw[if_neg (fun h=>h2 h.2)];obtain⟨m,k,e1,_⟩:=sL f h1 (by omega);unfold Format.add;rw[e1,zu f hs hb];rfl
 .obtain rfl:x=f.infRung:=by omega
  rw[if_neg (fun h=>h1 h.1)];unfold Format.add;rw[zu f hs hb];by_cases h2:y<f.infRung
  .obtain ⟨m,k,e1,_⟩:=sL f h2 (by omega);rw[e1];rfl
  .obtain rfl:y=f.infRung:=by omega
   rw[zu f hs hb];rfl
theorem Ck{x y:Nat}:plus f x y<=f.infRung:=by
 unfold plus;split
 .exact WK f _
 .exact aq _
theorem Na{x y x' y':Nat}(hx:x<=x')(hy:y<=y'):plus f x y<=plus f x' y':=by
 by_cases h:x'<f.infRung/\y'<f.infRung
 .unfold plus;rw[if_pos h,if_pos ⟨by omega,by omega⟩];exact Hh f (Nat.add_le_add (yk f hx) (yk f hy))
 .have:plus f x' y'=f.infRung:=by unfold plus;rw[if_neg h]
  rw[this];exact Ck
theorem JN{x y:Nat}(hy:y<=f.infRung):y<=plus f x y:=by
 unfold plus;split
 .rename_i h
  calc y=JK f (gL f y):=(xz f h.2).symm
   _<=_:=Hh f (Nat.le_add_left _ _)
 .exact hy
end
open Ieee
section
variable(f:Format)
theorem Fz{x y:Nat}(h:x<y)(hy:y<=f.infRung):gL f x<gL f y:=by
 have hx:x<f.infRung:=by omega
 have hle:=yk f (Nat.le_of_lt h);rcases er y f.infRung with h1|h1
 .rcases er (gL f x) (gL f y)with h2|h2
  .exact h2
  .have e:gL f x=gL f y:=by omega
   have:=xz f hx;rw[e,xz f h1]at this;omega
 .obtain rfl:y=f.infRung:=by omega
  rcases er (gL f x) (gL f f.infRung)with h2|h2
  .exact h2
  .exfalso;have e:gL f x=gL f f.infRung:=by omega
   have hr:=xz f hx;rw[e]at hr;have hb:=Ae f;have hm:f.infRung %f.binade=0:=Nat.mul_mod_left _ _;have hd:f.infRung/f.binade=2^f.exponentBits-1:=Nat.mul_div_cancel _ hb;have hpos:f.infRung≠0:=by omega
   have h0:¬2^f.exponentBits-1=0:=by intro h0;apply hpos;show(2^f.exponentBits-1)*f.binade=0;rw[h0,gD]
   obtain⟨q,hq⟩:=kW h0;have hq:2^f.exponentBits-1=q+1:=hq;have hu:gL f f.infRung=f.binade*2^q:=by unfold gL;rw[hd,hm,if_neg h0,hq,Nat.add_zero,Nat.add_sub_cancel]
   have hne:f.binade*2^q≠0:=Nat.mul_ne_zero (by omega) (by have:=d7 q;omega);rw[hu]at hr;unfold JK at hr;have hl:(f.binade*2^q).log2=f.fractionBits+q:=by show(2^f.fractionBits*2^q).log2=_;rw[<-gl,Nat.log2_two_pow]
   rw[if_neg hne,hl,kQ,JL]at hr;have e2:f.infRung=q*f.binade+f.binade:=by show(2^f.exponentBits-1)*f.binade=_;rw[hq,fW,Nat.one_mul]
   rw[<-e2,Nat.min_self]at hr;omega
def su(x:Nat):Int:=if x/f.signWeight %2=1 then-(gL f (x %f.signWeight):Int)else gL f (x %f.signWeight)
theorem FO{x:Nat}(h:x %f.signWeight<f.infRung):∃(m k:Nat),f.read x=.number (x/f.signWeight %2==1) m (f.leastPlace+k)/\signed (x/f.signWeight %2==1) m k=su f x:=by
 have hb:=Ae f;unfold su;generalize hs:x/f.signWeight %2=s;generalize hr:x %f.signWeight=r at h
 have hR:f.read x=if r<f.binade then .number (s==1) r f.leastPlace
   else if r<f.infRung then .number (s==1) (f.binade+r %f.binade) (f.leastPlace+(r/f.binade-1:Nat))
   else if r=f.infRung then .infinity (s==1)else .nan (s==1) (r-f.infRung):=by
  unfold Format.read;rw[hs,hr]
 rw[hR]
 have key:∀m k,m*2^k=gL f r->signed (s==1) m k=if s=1 then-(gL f r:Int)else gL f r:=by
  intro m k e;unfold signed;rw[ns,e];by_cases h1:s=1
  .simp [h1]
  .rw [if_neg h1,if_neg (by simpa using h1)]
 by_cases hx:r<f.binade
 .rw [if_pos hx];refine⟨r,0,by simp,key _ _ ?_⟩;unfold gL;rw[if_pos (kP hx)];simp
 .rw [if_neg hx,if_pos h];refine⟨_,_,rfl,key _ _ ?_⟩;unfold gL;rw[if_neg];intro h0;have ha:=iv r f.binade;rw[h0]at ha;have:=Nat.mod_lt r hb;omega
theorem AM{x:Nat}(h:x %f.signWeight=f.infRung)(hb:f.binade<=f.infRung):f.read x=.infinity (x/f.signWeight %2==1):=by unfold Format.read;rw[h];simp only;rw[if_neg (by omega),if_neg (by omega),if_pos trivial]
theorem CK(neg:Bool)(m a b:Nat):signed neg m (a+b)=signed neg m a*(2^b:Nat):=by
 unfold signed;rw[ns,ns,gl,<-gx];cases neg
 .simp
 .simp [Int.neg_mul]
theorem UJ(a b:Int){c:Nat}(hc:0<c):compare (a*c) (b*c)=compare a b:=by
 have hc:(0:Int)<c:=by omega
 rcases pS a b with h|h|h
 .rw [fm.2 h,fm];exact Int.mul_lt_mul_of_pos_right h hc
 .rw [h];rw[fX.2 rfl,fX.2 rfl]
 .rw [fo.2 h,fo];exact Int.mul_lt_mul_of_pos_right h hc
theorem Nk(s t:Bool)(m k n l:Nat)(p:Int):(Datum.number s m (p+k)).order (.number t n (p+l))=some (compare (signed s m k) (signed t n l)):=by
 unfold Datum.order;simp only;have hb:min (p+(k:Int)) (p+(l:Int))=p+((min k l:Nat):Int):=by omega
 rw[hb];have t1:(p+(k:Int)-(p+((min k l:Nat):Int))).toNat=k-min k l:=by omega
 have t2:(p+(l:Int)-(p+((min k l:Nat):Int))).toNat=l-min k l:=by omega
 rw[t1,t2];have e1:=CK s m (k-min k l) (min k l);have e2:=CK t n (l-min k l) (min k l);rw[Nat.sub_add_cancel (by omega)]at e1 e2;rw[e1,e2,UJ _ _ (d7 _)]
end
def pl(x:Nat):Int:=if 9223372036854775808<=x then 9223372036854775808-(x:Int)else x
abbrev D:Format:=double
theorem O9:D.signWeight=9223372036854775808:=by decide
theorem wn:D.infRung=9218868437227405312:=by decide
theorem abK:D.binade=4503599627370496:=by decide
def ok(x:Nat):Prop:=x<18446744073709551616/\x %9223372036854775808<=9218868437227405312
theorem Yn{x y:Nat}(hx:ok x)(hy:ok y):compare (su D x) (su D y)=compare (pl x) (pl y):=by
 obtain⟨hx1,hx2⟩:=hx;obtain⟨hy1,hy2⟩:=hy;have hlt:∀a b:Nat,a<b->b<=9218868437227405312->gL D a<gL D b:=fun a b h1 h2=>Fz D h1 (by rw[wn];exact h2);have hz:gL D 0=0:=by decide
 have key:∀a b:Nat,a<18446744073709551616->b<18446744073709551616->a %9223372036854775808<=9218868437227405312->b %9223372036854775808<=9218868437227405312->pl a<pl b->su D a<su D b:=by
  intro a b ha hb ha2 hb2 h;unfold su;rw[O9];unfold pl at h;by_cases h1:9223372036854775808<=a
  .rw [if_pos h1]at h;rw[if_pos (by omega)];by_cases h2:9223372036854775808<=b
   .rw [if_pos h2]at h;rw[if_pos (by omega)];have:=hlt (b %9223372036854775808) (a %9223372036854775808) (by omega) ha2;omega
   .rw [if_neg h2]at h;rw[if_neg (by omega)];by_cases h3:a %9223372036854775808=0
    .have:=hlt 0 (b %9223372036854775808) (by omega) hb2;omega
    .have:=hlt 0 (a %9223372036854775808) (by omega) ha2;omega
  .rw [if_neg h1]at h;rw[if_neg (by omega)];by_cases h2:9223372036854775808<=b
   .rw [if_pos h2]at h;omega
   .rw [if_neg h2]at h;rw[if_neg (by omega)];have:=hlt (a %9223372036854775808) (b %9223372036854775808) (by omega) hb2;omega
 rcases pS (pl x) (pl y)with h|h|h
 .rw [fm.2 h,fm.2 (key _ _ hx1 hy1 hx2 hy2 h)]
 .rw [fX.2 h,fX];unfold pl at h;unfold su;rw[O9];by_cases h1:9223372036854775808<=x<;>by_cases h2:9223372036854775808<=y
  .rw [if_pos h1,if_pos h2]at h;have:x=y:=by omega
   rw[this]
  .rw [if_pos h1,if_neg h2]at h;have e1:x %9223372036854775808=0:=by omega
   have e2:y %9223372036854775808=0:=by omega
   rw[e1,e2,hz];simp
  .rw [if_neg h1,if_pos h2]at h;have e1:x %9223372036854775808=0:=by omega
   have e2:y %9223372036854775808=0:=by omega
   rw[e1,e2,hz];simp
  .rw [if_neg h1,if_neg h2]at h;have:x=y:=by omega
   rw[this]
 .rw [fo.2 h,fo.2 (key _ _ hy1 hx1 hy2 hx2 h)]
theorem Le{x:Nat}(h:x<18446744073709551616):(x/D.signWeight %2==1)=decide (9223372036854775808<=x):=by
 rw[O9];by_cases h1:9223372036854775808<=x
 .rw [decide_eq_true h1];have:x/9223372036854775808 %2=1:=by omega
  rw[this];rfl
 .rw [decide_eq_false h1];have:x/9223372036854775808 %2=0:=by omega
  rw[this];rfl
theorem zC{x y:Nat}(hx:ok x)(hy:ok y):D.order x y=some (compare (pl x) (pl y)):=by
 have hx':=hx;have hy':=hy;obtain⟨hx1,hx2⟩:=hx;obtain⟨hy1,hy2⟩:=hy;unfold Format.order;have sx:=Le hx1;have sy:=Le hy1;have hbi:D.binade<=D.infRung:=by decide
 by_cases ix:x %9223372036854775808=9218868437227405312
 .have rx:=AM D (x:=x) (by rw[O9,wn];exact ix) hbi;by_cases iy:y %9223372036854775808=9218868437227405312
  .have ry:=AM D (x:=y) (by rw[O9,wn];exact iy) hbi;rw[rx,ry,sx,sy];unfold pl;by_cases h1:9223372036854775808<=x<;>by_cases h2:9223372036854775808<=y
   .rw [decide_eq_true h1,decide_eq_true h2,if_pos h1,if_pos h2];have:x=y:=by omega
    rw[this,fX.2 rfl];rfl
   .rw [decide_eq_true h1,decide_eq_false h2,if_pos h1,if_neg h2,fm.2 (by omega)];rfl
   .rw [decide_eq_false h1,decide_eq_true h2,if_neg h1,if_pos h2,fo.2 (by omega)];rfl
   .rw [decide_eq_false h1,decide_eq_false h2,if_neg h1,if_neg h2];have:x=y:=by omega
    rw[this,fX.2 rfl];rfl
  .obtain ⟨m,k,ry,_⟩:=FO D (x:=y) (by rw[O9,wn];omega);rw[rx,ry,sx];show some (if decide (9223372036854775808<=x)=true then Ordering.lt else Ordering.gt)=_;unfold pl;by_cases h1:9223372036854775808<=x
   .rw [decide_eq_true h1,if_pos rfl,if_pos h1,fm.2 (by split<;>omega)]
   .rw [decide_eq_false h1,if_neg (by simp),if_neg h1,fo.2 (by split<;>omega)]
 .obtain ⟨m,k,rx,ex⟩:=FO D (x:=x) (by rw[O9,wn];omega);by_cases iy:y %9223372036854775808=9218868437227405312
  .have ry:=AM D (x:=y) (by rw[O9,wn];exact iy) hbi;rw[rx,ry,sy];show some (if decide (9223372036854775808<=y)=true then Ordering.gt else Ordering.lt)=_;unfold pl;by_cases h1:9223372036854775808<=y
   .rw [decide_eq_true h1,if_pos rfl,if_pos h1,fo.2 (by split<;>omega)]
   .rw [decide_eq_false h1,if_neg (by simp),if_neg h1,fm.2 (by split<;>omega)]
  .obtain ⟨n,l,ry,ey⟩:=FO D (x:=y) (by rw[O9,wn];omega);rw[rx,ry,Nk,ex,ey,Yn hx' hy']
theorem LF{x:Nat}:(D.read x).isNaN=true<->9218868437227405312<x %9223372036854775808:=by
 constructor
 .intro h;unfold Format.read at h;rw[O9,wn,abK]at h;simp only at h;split at h
  .cases h
  split at h
  .cases h
  split at h
  .cases h
  omega
 .intro h;unfold Format.read;rw[O9,wn,abK];simp only;rw[if_neg (by omega),if_neg (by omega),if_neg (by omega)];rfl
theorem Nl{x y:Nat}(h:(D.read x).isNaN=true\/(D.read y).isNaN=true):D.order x y=none:=by
 unfold Format.order;cases hx:D.read x with
 |nan s t=>rfl
 |number s m p=>
  rw[hx]at h;cases hy:D.read y with
  |nan=>rfl
  |_=>rw[hy]at h;rcases h with h|h<;>cases h
 |infinity s=>
  rw[hx]at h;cases hy:D.read y with
  |nan=>rfl
  |_=>rw[hy]at h;rcases h with h|h<;>cases h
end Go.Fl
namespace Go.Ev
structure Oq{α:Type}(lt:α->α->Bool):Prop where
 irr:∀x,lt x x=false
 tr:∀x y z,lt x y=true->lt y z=true->lt x z=true
 ntr:∀x y z,lt x y=false->lt y z=false->lt x z=false
section
variable{α:Type}{lt:α->α->Bool}
def D7(lt:α->α->Bool)(x y:α):Bool:=!lt x y&&!lt y x
def Fw(lt:α->α->Bool)(l:List α):Prop:=l.Pairwise fun x y=>lt y x=false
def pM(lt:α->α->Bool)(a b:List α):Prop:=∀x,a.filter (D7 lt x)=b.filter (D7 lt x)
theorem Ab{x y:α}:D7 lt x y=true<->lt x y=false/\lt y x=false:=by unfold D7;simp
theorem DO(h:Oq lt)(x:α):D7 lt x x=true:=Ab.2 ⟨h.irr x,h.irr x⟩
theorem XF(h:Oq lt){c x y:α}(h1:D7 lt c x=true)(h2:D7 lt c y=true):D7 lt x y=true:=by rw[Ab]at*;exact⟨h.ntr _ _ _ h1.2 h2.1,h.ntr _ _ _ h2.2 h1.1⟩
theorem Oq.ae4(h:Oq lt){x y:α}(h1:lt x y=true):lt y x=false:=by cases h2:lt y x with|false=>rfl|true=>have:=h.tr _ _ _ h1 h2;rw[h.irr]at this;cases this
theorem pM.refl(a:List α):pM lt a a:=fun _=>rfl
theorem pM.symm{a b:List α}(h:pM lt a b):pM lt b a:=fun x=>(h x).symm
theorem pM.trans{a b c:List α}(h:pM lt a b)(g:pM lt b c):pM lt a c:=fun x=>(h x).trans (g x)
theorem pM.V1{a b c d:List α}(h:pM lt a b)(g:pM lt c d):pM lt (a++c) (b++d):=fun x=>by rw[ji,ji,h x,g x]
theorem pM.zJ(hs:Oq lt){a b:List α}(h:pM lt a b){x:α}:x∈a<->x∈b:=by
 have key:∀l:List α,x∈l<->x∈l.filter (D7 lt x):=fun l=>by simp[cY,DO hs]
 rw[key a,key b,h x]
theorem pM.swap(hs:Oq lt){u v:List α}(h:∀x∈u,∀y∈v,D7 lt x y=false):pM lt (u++v) (v++u):=fun c=>by
 rw[ji,ji];cases hu:u.filter (D7 lt c)with
 |nil=>simp
 |cons x r=>
  have hx:x∈u.filter (D7 lt c):=by rw[hu];exact aG
  have hv:v.filter (D7 lt c)=[]:=List.filter_eq_nil_iff.2 fun y hy hc=>by have:=h x (cY.1 hx).1 y hy;rw[XF hs (cY.1 hx).2 hc]at this;cases this
  rw[hv];simp
theorem Pd(h:Oq lt):∀{a b:List α},Fw lt a->Fw lt b->pM lt a b->a=b:=by
 intro a;induction a with
 |nil=>intro b _ _ hs;cases b with|nil=>rfl|cons y b=>have:=(hs.zJ h (x:=y)).2 aG;cases this
 |cons x a ih=>
  intro b ha hb hs;cases b with
  |nil=>have:=(hs.zJ h (x:=x)).1 aG;cases this
  |cons y b=>
   obtain⟨ha1,ha2⟩:=fD.1 ha;obtain⟨hb1,hb2⟩:=fD.1 hb
   have hxy:lt y x=false:=by
    rcases aI.1 ((hs.zJ h (x:=y)).2 aG)with e|e
    .rw [e];exact h.irr x
    .exact ha1 y e
   have hyx:lt x y=false:=by
    rcases aI.1 ((hs.zJ h (x:=x)).1 aG)with e|e
    .rw [e];exact h.irr y
    .exact hb1 x e
   have hc:=hs x;rw[di,di,if_pos (DO h x),if_pos (Ab.2 ⟨hyx,hxy⟩)]at hc;obtain rfl:=(aB hc).1;congr 1;refine ih ha2 hb2 fun c=>?_;have hc:=hs c;rw[di,di]at hc;split at hc
   .exact (aB hc).2
   .exact hc
theorem Fw.V1{a b:List α}(ha:Fw lt a)(hb:Fw lt b)(h:∀x∈a,∀y∈b,lt y x=false):Fw lt (a++b):=jU.2 ⟨ha,hb,h⟩
theorem Fw.Qi{a b:List α}(h:Fw lt (a++b)):Fw lt a/\Fw lt b/\∀x∈a,∀y∈b,lt y x=false:=jU.1 h
end
def dn{α β:Type}:Nat->(α->Option (Sum α β))->α->Option β
 |0,_,_=>none
 |n+1,f,s=>match f s with|none=>none|some (.inl s')=>dn n f s'|some (.inr b)=>some b
def aT{α:Type}(x y:Option α):Prop:=∀z,x=some z->y=some z
theorem aT.refl{α:Type}(x:Option α):aT x x:=fun _ h=>h
theorem aT.bind{α β:Type}{x y:Option α}{f g:α->Option β}(h:aT x y)(hf:∀a,aT (f a) (g a)):aT (x.bind f) (y.bind g):=by intro z hz;obtain⟨a,ha,hb⟩:=Option.bind_eq_some_iff.1 hz;rw[h a ha];exact hf a z hb
theorem aT.cond{α:Type}{c:Bool}{a a' b b':Option α}(h1:aT a a')(h2:aT b b'):aT (bif c then a else b) (bif c then a' else b'):=by
 cases c
 .exact h2
 .exact h1
theorem aT.loop{α β:Type}{f g:α->Option (Sum α β)}(h:∀a,aT (f a) (g a)):∀(n:Nat)(s:α),aT (dn n f s) (aU g s):=by
 intro n;induction n with
 |zero=>intro s z hz;simp[dn]at hz
 |succ n ih=>
  intro s z hz;simp only[dn]at hz;split at hz
  .simp at hz
  .rename_i s' hs;rw[fu (h _ _ hs)];exact ih s' z hz
  .rename_i b hs;rw[cM (h _ _ hs),hz]
end Go.Ev
open Go.Ev Go
namespace Go.Ev
section
variable{α:Type}[Inhabited α](C:α->α->Option Int)
def zR(a_1:Int):(Int×Sl α)->Option ((Int×Sl α)⊕(Sl α)):=fun(i9,s10)=>
 (bif decide (i9>a_1)then((cD i9 s10.l.length).bind fun n11=>
 (cD (wr .i64 (i9-1)) s10.l.length).bind fun n12=>
 (C (gt s10.l n11) (gt s10.l n12)).bind fun r13=>
 some (decide (r13<0)))else
 (some false):Option Bool).bind fun b14=>
 bif b14 then((cD (wr .i64 (i9-1)) s10.l.length).bind fun n15=>
 (cD i9 s10.l.length).bind fun n16=>
 (cD i9 s10.l.length).bind fun n17=>
 (cD (wr .i64 (i9-1)) (s10.l.set n17 (gt s10.l n15)).length).bind fun n18=>
 some (.inl (wr .i64 (i9-1),(Sl.mk ((s10.l.set n17 (gt s10.l n15)).set n18 (gt s10.l n16))))))else
 (some (.inr s10))
def zQ(a_1:Int)(b_2:Int):(Int×Sl α)->Option ((Int×Sl α)⊕(Sl α)):=fun(i4,s5)=>
 bif decide (i4<b_2)then((aU (zR C a_1) (i4,s5)).bind fun s19=>
 some (.inl (wr .i64 (i4+1),s19)))else
 (some (.inr s5))
def TZ(data_0:Sl α)(a_1:Int)(b_2:Int):Option (Sl α):=
 (aU (zQ C a_1 b_2) (wr .i64 (a_1+1),data_0)).bind fun s20=>
 some s20
end
section
variable{α:Type}[Inhabited α]
theorem wq{n:Int}(h0:-9223372036854775808<=n)(h1:n<9223372036854775808):wr .i64 n=n:=by simp[wr,IntKind.wrap,IntKind.bits,IntKind.signed];omega
theorem T_{i j:Nat}(h:i+j<9223372036854775808):wr .i64 (od .u64 (wr .u64 (wr .i64 ((i:Int)+(j:Int)))) 1)=(((i+j)/2:Nat):Int):=by
 rw[wq (n:=(i:Int)+(j:Int)) (by omega) (by omega)];have e:wr .u64 ((i:Int)+(j:Int))=(i:Int)+(j:Int):=by simp[wr,IntKind.wrap,IntKind.bits,IntKind.signed];omega
 rw[e];have e2:od .u64 ((i:Int)+(j:Int)) 1=(((i+j)/2:Nat):Int):=by show((i:Int)+(j:Int)).fdiv (2^1)=_;rw[Int.fdiv_eq_ediv_of_nonneg _ (by decide)];omega
 rw[e2,wq (by omega) (by omega)]
theorem AX{n m:Nat}(h:n<m):cD (n:Int) m=some n:=mJ.2 ⟨rfl,h⟩
theorem Fk{A B:List α}{x:α}:gt (A++x::B) A.length=x:=by simp[gt]
theorem adN{A B D:List α}{x y:α}{j:Nat}(hj:j=A.length+1+B.length):gt (A++x::(B++y::D)) j=y/\((A++x::(B++y::D)).set A.length y).set j x=A++y::(B++x::D):=by
 subst hj;constructor
 .have e:A++x::(B++y::D)=(A++x::B)++y::D:=by simp
  have l:A.length+1+B.length=(A++x::B).length:=by simp;omega
  rw[e,l];exact Fk
 .have e:(A++x::(B++y::D)).set A.length y=(A++y::B)++y::D:=by rw[List.set_append_right _ _ (aq _),Nat.sub_self];simp
  have l:A.length+1+B.length=(A++y::B).length:=by simp;omega
  rw[e,l,List.set_append_right _ _ (aq _),Nat.sub_self];simp
theorem TS{β:Type}{a b:List β}(h:a.length=b.length):my (Sl.mk a) (Sl.mk b)=some ():=by show Ip a b=some ();exact Fd.2 h
end
def Ye{α:Type}(C:α->α->Option Int)(lt:α->α->Bool)(P:α->Prop):Prop:=∀x y,P x->P y->∃r,C x y=some r/\decide (r<0)=lt x y
section
variable{α:Type}[Inhabited α]{C:α->α->Option Int}{lt:α->α->Bool}{P:α->Prop}
theorem QQ(hC:Ye C lt P){a:Nat}(pW:List α)(x:α)(ha:a=pW.length)(hx:P x):∀(p s:List α),(∀y∈p,P y)->a+p.length<4611686018427387904->
  ∃u v,p.reverse=u++v/\(∀y∈v,lt x y=true)/\(u=[]\/∃u' y,u=u'++[y]/\lt x y=false)/\
   aU (zR C (a:Int)) (((a+p.length:Nat):Int),Sl.mk (pW++p.reverse++x::s))=some (Sl.mk (pW++u++x::(v++s)))
 |[],s,_,hb=>by refine⟨[],[],rfl,by simp,.inl rfl,cM ?_⟩;simp only[zR];rw[decide_eq_false (by simp),cond_false,ad,cond_false];simp
 |y::r,s,hp,hb=>by
  obtain⟨q,hq,hq2⟩:=hC x y hx (hp y aG);have e0:pW++(y::r).reverse++x::s=(pW++r.reverse)++y::([]++x::s):=by simp
  have hl:((pW++r.reverse)++y::([]++x::s)).length=a+r.length+2+s.length:=by simp;omega
  have hA:(pW++r.reverse).length=a+r.length:=by simp;omega
  obtain⟨g1,g2⟩:=adN (A:=pW++r.reverse) (B:=[]) (D:=s) (x:=y) (y:=x) (j:=a+r.length+1) (by simp;omega);have g3:gt ((pW++r.reverse)++y::([]++x::s)) (a+r.length)=y:=by rw[<-hA];exact Fk
  have w0:(((a+(y::r).length:Nat)):Int)=((a+r.length+1:Nat):Int):=by simp;omega
  have w1:wr .i64 (((a+r.length+1:Nat):Int)-1)=((a+r.length:Nat):Int):=by rw[wq (by omega) (by simp at hb;omega)];omega
  have hb':bif decide (((a+r.length+1:Nat):Int)>(a:Int))then True else False:=by rw[decide_eq_true (by omega)];trivial
  have i1:cD ((a+r.length+1:Nat):Int) ((pW++r.reverse)++y::([]++x::s)).length=some (a+r.length+1):=AX (by omega);have i2:cD ((a+r.length:Nat):Int) ((pW++r.reverse)++y::([]++x::s)).length=some (a+r.length):=AX (by omega);rw[w0,e0];cases hc:lt x y with
  |false=>refine⟨(y::r).reverse,[],by simp,by simp,.inr ⟨r.reverse,y,by simp,hc⟩,(cM (b:=Sl.mk ((pW++r.reverse)++y::([]++x::s))) ?_).trans (by simp)⟩;simp only[zR,w1,Sl.l];rw[decide_eq_true (by omega),cond_true,i1,ad,i2,ad,g1,g3,hq,ad,ad,hq2,hc,cond_false]
  |true=>
   obtain⟨u,v,h1,h2,h3,h4⟩:=QQ hC pW x ha hx r (y::s) (fun z hz=>hp z (bd _ hz)) (by simp at hb;omega);refine⟨u,v++[y],by rw[List.reverse_cons,h1];simp,fun z hz=>?_,h3,(fu (a':=(((a+r.length:Nat):Int),Sl.mk ((pW++r.reverse)++x::([]++y::s)))) ?_).trans ?_⟩
   .rcases aF.1 hz with hz|hz
    .exact h2 z hz
    .rw [az.1 hz];exact hc
   .simp only[zR,w1,Sl.l];rw[decide_eq_true (by omega),cond_true,i1,ad,i2,ad,g1,g3,hq,ad,ad,hq2,hc,cond_true,ad,ad,ad,List.length_set,i2,ad];have g4:=g2;rw[hA]at g4;have g5:(((pW++r.reverse)++y::([]++x::s)).set (a+r.length+1) y).set (a+r.length) x=(pW++r.reverse)++x::([]++y::s):=by rw[List.set_comm _ _ (by omega)];exact g4
    rw[g3,g1,g5]
   .have e1:(pW++r.reverse)++x::([]++y::s)=pW++r.reverse++x::(y::s):=by simp
    rw[e1,h4];simp
theorem LP(hs:Oq lt)(hC:Ye C lt P){a b:Nat}(pW post:List α)(ha:a=pW.length)(hb:b<4611686018427387904):∀(s acc:List α),(∀y∈acc,P y)->(∀y∈s,P y)->Fw lt acc->b=a+acc.length+s.length->
  ∃M,aU (zQ C (a:Int) (b:Int)) (((a+acc.length:Nat):Int),Sl.mk (pW++acc++s++post))=some (Sl.mk (pW++M++post))/\M.length=acc.length+s.length/\Fw lt M/\pM lt M (acc++s)
 |[],acc,h1,h2,h3,h4=>by refine⟨acc,cM ?_,rfl,h3,by simp[pM]⟩;simp only[zQ];rw[decide_eq_false (by simp at h4;omega)];simp
 |x::s,acc,h1,h2,h3,h4=>by
  simp only[ck]at h4;obtain⟨u,v,e1,e2,e3,e4⟩:=QQ hC pW x ha (h2 x aG) acc.reverse (s++post) (fun y hy=>h1 y (List.mem_reverse.1 hy)) (by simp;omega);rw[List.reverse_reverse]at e1 e4;rw[List.length_reverse]at e4;have hsr:=Fw.Qi (e1▸h3)
  have hux:∀z∈u,lt x z=false:=by
   intro z hz;rcases e3 with e3|⟨u',y,e3,e5⟩
   .rw [e3]at hz;cases hz
   .rw [e3]at hz;rcases aF.1 hz with hz|hz
    .exact hs.ntr _ _ _ e5 ((Fw.Qi (e3▸hsr.1)).2.2 z hz y (by simp))
    .rw [az.1 hz];exact e5
  have hS:Fw lt (u++x::v):=by
   refine Fw.V1 hsr.1 (fD.2 ⟨fun y hy=>hs.ae4 (e2 y hy),hsr.2.1⟩) fun z hz y hy=>?_;rcases aI.1 hy with hy|hy
   .rw [hy];exact hux z hz
   .exact hsr.2.2 z hz y hy
  have hsame:pM lt (u++x::v) (acc++[x]):=by rw[e1,List.append_assoc];refine pM.V1 (.refl _) (pM.swap hs (u:=[x]) (v:=v) fun z hz y hy=>?_);rw[az.1 hz];have:=e2 y hy;unfold D7;rw[this];rfl
  have hlen:(u++x::v).length=acc.length+1:=by rw[e1];simp;omega
  obtain⟨M,m1,m2,m3,m4⟩:=LP hs hC pW post ha hb s (u++x::v) (fun y hy=>by
   rcases aF.1 ((hsame.zJ hs).1 hy)with hy|hy
   .exact h1 y hy
   .rw [az.1 hy];exact h2 x aG) (fun y hy=>h2 y (bd _ hy)) hS (by omega)
  refine⟨M,(fu (a':=(((a+(u++x::v).length:Nat):Int),Sl.mk (pW++(u++x::v)++s++post))) ?_).trans m1,by simp;omega,m3,?_⟩
  .simp only[zQ];rw[decide_eq_true (by omega),cond_true];have e5:pW++acc++(x::s)++post=pW++acc++x::(s++post):=by simp
   have w1:wr .i64 (((a+acc.length:Nat):Int)+1)=((a+(u++x::v).length:Nat):Int):=by rw[wq (by omega) (by omega),hlen];omega
   rw[e5,e4,ad,w1];simp
  .refine m4.trans ?_;have:=hsame.V1 (pM.refl (lt:=lt) s);simpa using this
theorem Fh(hs:Oq lt)(hC:Ye C lt P){a b:Nat}{X L Y:List α}(ha:a=X.length)(hb:b=a+L.length)(hB:b<4611686018427387904)(hP:∀y∈L,P y):
  ∃M,TZ C (Sl.mk (X++L++Y)) (a:Int) (b:Int)=some (Sl.mk (X++M++Y))/\M.length=L.length/\Fw lt M/\pM lt M L:=by
 unfold TZ;have w1:wr .i64 ((a:Int)+1)=((a+1:Nat):Int):=by rw[wq (by omega) (by omega)];omega
 rw[w1];cases L with
 |nil=>
  refine⟨[],?_,rfl,.nil,.refl _⟩;simp only[List.length_nil]at hb;rw[cM (b:=Sl.mk (X++[]++Y))]
  .rfl
  .simp only[zQ];rw[decide_eq_false (by omega)];rfl
 |cons x s=>
  simp only[ck]at hb;obtain⟨M,m1,m2,m3,m4⟩:=LP hs hC X Y ha hB s [x] (fun y hy=>hP y (by rw[az.1 hy];exact aG)) (fun y hy=>hP y (bd _ hy)) (List.pairwise_singleton _ _) (by simp;omega);refine⟨M,?_,by simp[m2];omega,m3,m4⟩;have e:X++[x]++s++Y=X++(x::s)++Y:=by simp
  rw[e]at m1;have e2:a+[x].length=a+1:=rfl;rw[e2]at m1;rw[m1];rfl
end
section
variable{α:Type}[Inhabited α]{C:α->α->Option Int}{lt:α->α->Bool}{P:α->Prop}
theorem w9{l:List α}{i:Nat}(h:i<l.length):gt l i∈l:=by rw[cU h];exact List.getElem_mem h
end
section
variable{α:Type}[Inhabited α]{C:α->α->Option Int}{lt:α->α->Bool}{P:α->Prop}
inductive X7(lt:α->α->Bool)(bs:Nat):List α->Prop
 |TT {x:List α}:x.length<=bs->Fw lt x->X7 lt bs x
 |afG {x r:List α}:x.length=bs->Fw lt x->X7 lt bs r->X7 lt bs (x++r)
end
@[simp] theorem Sl.qz {α:Type} (l:List α):(Sl.mk l).l=l:=rfl
@[simp] theorem Sl.abl {α:Type}:(Sl.nil:Sl α).l=[]:=rfl
end Go.Ev
