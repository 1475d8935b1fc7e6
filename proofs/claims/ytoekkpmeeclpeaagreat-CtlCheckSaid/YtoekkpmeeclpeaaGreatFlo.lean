/- Sums of floats that are not negative: exact numbers of the least units, rounded to a rung; rising, and not below what is added to. Conditions: as stated. -/
import Ieee.Arith
open Nat renaming add_mul->bA,add_sub_cancel->m7,div_add_mod->ik,div_eq_of_lt->jV,exists_eq_succ_of_ne_zero->ki,le_add_right->iR,le_refl->am,mod_eq_of_lt->iQ,mod_lt->lP,mul_assoc->gk,mul_comm->gq,mul_le_mul_left->gz,mul_le_mul_right->az,mul_one->kh,pow_add->f_,pow_le_pow_right->jA,shiftLeft_eq->l_,two_pow_pos->dm,zero_le->cY,zero_mul->jz
namespace Go.Fl
open Ieee
def rE(n d:Nat):Nat:=n/2^d+(if 2^d<2*(n %2^d)\/2^d=2*(n %2^d)/\n/2^d %2=1 then 1 else 0)
theorem HG{n:Nat}:n<2^(n.log2+1):=Nat.lt_log2_self
theorem Nk{n:Nat}(h:n≠0):2^n.log2<=n:=Nat.log2_self_le h
theorem Tx(neg:Bool)(n d:Nat):Toward.even.cut neg n d=rE n d:=by
 show n/1<<<min d (n.log2+2)+(decide (1<<<min d (n.log2+2)<2*(n %1<<<min d (n.log2+2)))||(1<<<min d (n.log2+2)==2*(n %1<<<min d (n.log2+2))&&n/1<<<min d (n.log2+2) %2==1)).toNat=_;unfold rE;by_cases hd:d<=n.log2+2
 .rw [Nat.min_eq_left hd,Nat.one_shiftLeft];congr 1;by_cases h1:2^d<2*(n %2^d)
  .simp [h1]
  .by_cases h2:2^d=2*(n %2^d)/\n/2^d %2=1
   .rw [if_pos (.inr h2)];have e1:(2^d==2*(n %2^d))=true:=beq_iff_eq.2 h2.1;have e2:(n/2^d %2==1)=true:=beq_iff_eq.2 h2.2;simp only[e1,e2,Bool.and_true,Bool.or_true];rfl
   .rw [if_neg (fun h=>h.elim h1 h2)]
    have e1:(2^d==2*(n %2^d)&&n/2^d %2==1)=false:=by
     rw[Bool.and_eq_false_iff];by_cases h3:2^d=2*(n %2^d)
     .right;rw[beq_eq_false_iff_ne];exact fun h=>h2 ⟨h3,h⟩
     .left;rw[beq_eq_false_iff_ne];exact h3
    simp only[decide_eq_false h1,Bool.false_or,e1];rfl
 .have hd:n.log2+2<d:=by omega
  have hn:=@HG n;have e0:2^(n.log2+2)=2*2^(n.log2+1):=by rw[Nat.pow_succ 2 (n.log2+1)];omega
  have e1:2^(n.log2+2)<=2^d:=jA (by omega) (by omega);rw[Nat.min_eq_right (by omega),Nat.one_shiftLeft,jV (show n<2^(n.log2+2)by omega),iQ (show n<2^(n.log2+2)by omega),jV (show n<2^d by omega),iQ (show n<2^d by omega)];rw[if_neg (by omega)];have h1:¬2^(n.log2+2)<2*n:=by omega
  have h2:(2^(n.log2+2)==2*n)=false:=beq_false_of_ne (by omega);simp only[decide_eq_false h1,h2,Bool.false_and,Bool.or_false];rfl
theorem IU(n:Nat):rE n 0=n:=by unfold rE;rw[Nat.pow_zero,Nat.div_one,Nat.mod_one,if_neg (by omega)];rfl
theorem PM{n m d:Nat}(h:n<=m):rE n d<=rE m d:=by
 unfold rE;have hp:0<2^d:=dm d;have h1:n/2^d<=m/2^d:=Nat.div_le_div_right h;by_cases e:n/2^d=m/2^d
 .have h2:n %2^d<=m %2^d:=by have a:=ik n (2^d);have b:=ik m (2^d);rw[e]at a;omega
  rw[e];split
  .rename_i hc
   rw[if_pos (by
    rcases hc with hc|hc
    .exact .inl (by omega)
    .by_cases h3:n %2^d=m %2^d
     .rw [<-h3];exact .inr hc
     .exact .inl (by omega))]
   exact am _
  .omega
 .split<;>split<;>omega
theorem Hc{m k:Nat}:rE (m*2^k) k=m:=by unfold rE;have hp:0<2^k:=dm k;rw[Nat.mul_div_cancel _ hp,Nat.mul_mod_left,if_neg (by omega)];rfl
theorem MG{m k d:Nat}:rE (m*2^k) (d+k)=rE m d:=by
 unfold rE;have hp:0<2^k:=dm k;have e1:m*2^k/2^(d+k)=m/2^d:=by rw[f_,gq (2^d),<-Nat.div_div_eq_div_mul,Nat.mul_div_cancel _ hp]
 have e2:m*2^k %2^(d+k)=m %2^d*2^k:=by rw[f_,Nat.mul_mod_mul_right]
 rw[e1,e2];have e3:2^(d+k)=2^d*2^k:=f_ 2 d k;have c1:2^(d+k)<2*(m %2^d*2^k)<->2^d<2*(m %2^d):=by rw[e3,<-gk];exact Nat.mul_lt_mul_right hp
 have c2:2^(d+k)=2*(m %2^d*2^k)<->2^d=2*(m %2^d):=by rw[e3,<-gk];exact Nat.mul_left_inj (by omega)
 simp only[c1,c2]
section
variable(f:Format)
def gH(x:Nat):Nat:=if x/f.binade=0 then x else(f.binade+x %f.binade)*2^(x/f.binade-1)
def G9(n:Nat):Nat:=if n=0 then 0 else min ((n.log2-f.fractionBits)*f.binade+rE n (n.log2-f.fractionBits)) f.infRung
theorem xk:0<f.binade:=dm _
theorem Ff(neg:Bool)(m:Nat)(k:Nat):f.nearest neg m (f.leastPlace+k)=f.word neg (G9 f (m*2^k)):=by
 unfold Format.nearest G9;by_cases hm:m=0
 .rw [if_pos hm,hm,jz,if_pos rfl]
 have hmk:m*2^k≠0:=Nat.mul_ne_zero hm (by have:=dm k;omega);rw[if_neg hm,if_neg hmk];have hl:(m*2^k).log2=m.log2+k:=by induction k with|zero=>simp|succ k ih=>have h0:m*2^k≠0:=Nat.mul_ne_zero hm (by have:=dm k;omega);rw[Nat.pow_succ,<-gk,gq (m*2^k) 2,Nat.log2_two_mul h0,ih h0];omega
 rw[hl];generalize hd:m.log2+k-f.fractionBits=d;have hlast:max (f.leastPlace+(k:Int)+(m.log2:Int)-(f.fractionBits:Int)) f.leastPlace=f.leastPlace+(d:Int):=by omega
 rw[hlast];have e1:(f.leastPlace+(d:Int)-f.leastPlace).toNat=d:=by omega
 have e2:(f.leastPlace+(k:Int)-(f.leastPlace+(d:Int))).toNat=k-d:=by omega
 have e3:(f.leastPlace+(d:Int)-(f.leastPlace+(k:Int))).toNat=d-k:=by omega
 show f.word neg (min ((f.leastPlace+(d:Int)-f.leastPlace).toNat*f.binade+Toward.even.cut neg (m<<<(f.leastPlace+(k:Int)-(f.leastPlace+(d:Int))).toNat) (f.leastPlace+(d:Int)-(f.leastPlace+(k:Int))).toNat) f.infRung)=_;rw[e1,e2,e3,Tx,l_];congr 3;by_cases hkd:d<=k
 .have:d-k=0:=by omega
  rw[this,IU];have:m*2^k=m*2^(k-d)*2^d:=by rw[gk,<-f_];congr 2;omega
  rw[this,Hc]
 .have h1:k-d=0:=by omega
  rw[h1,Nat.pow_zero,kh];obtain⟨c,rfl⟩:∃c,d=c+k:=⟨d-k,by omega⟩
  rw[m7,MG]
theorem Sm(n:Nat):G9 f n<=f.infRung:=by
 unfold G9;split
 .exact cY _
 .exact Nat.min_le_right _ _
theorem EF{n m:Nat}(h:n<=m):G9 f n<=G9 f m:=by
 by_cases hn:n=0
 .subst hn;unfold G9;rw[if_pos rfl];exact cY _
 have hm:m≠0:=by omega
 unfold G9;rw[if_neg hn,if_neg hm]
 have hlog:n.log2<=m.log2:=by
  rcases Nat.lt_or_ge m.log2 n.log2 with h1|h1
  .have a:=Nk hn;have b:=@HG m;have c:2^(m.log2+1)<=2^n.log2:=jA (by omega) h1;omega
  .exact h1
 have key:(n.log2-f.fractionBits)*f.binade+rE n (n.log2-f.fractionBits)<=(m.log2-f.fractionBits)*f.binade+rE m (m.log2-f.fractionBits):=by
  by_cases e:n.log2-f.fractionBits=m.log2-f.fractionBits
  .rw [e];exact Nat.add_le_add_left (PM h) _
  .generalize hd:n.log2-f.fractionBits=d at*;generalize hd':m.log2-f.fractionBits=d' at*;have hlt:d<d':=by omega
   have hm2:m.log2=f.fractionBits+d':=by omega
   have h1:f.binade<=m/2^d':=by rw[Nat.le_div_iff_mul_le (dm d')];show 2^f.fractionBits*2^d'<=m;rw[<-f_,<-hm2];exact Nk hm
   have h2:f.binade<=rE m d':=Nat.le_trans h1 (iR _ _)
   have h3:n/2^d<2*f.binade:=by
    rw[Nat.div_lt_iff_lt_mul (dm d)];show n<2*2^f.fractionBits*2^d;have a:=@HG n;have b:2^(n.log2+1)<=2^(f.fractionBits+d+1):=jA (by omega) (by omega);have c:2^(f.fractionBits+d+1)=2*2^f.fractionBits*2^d:=by rw[Nat.pow_succ,f_,gq _ 2,<-gk]
    omega
   have h4:rE n d<=2*f.binade:=by unfold rE;split<;>omega
   obtain⟨c,rfl⟩:∃c,d'=d+1+c:=⟨d'-(d+1),by omega⟩
   have h5:(d+1+c)*f.binade=d*f.binade+f.binade+c*f.binade:=by rw[bA,bA,Nat.one_mul]
   have h6:0<=c*f.binade:=cY _;omega
 omega
theorem vE{x y:Nat}(h:x<=y):gH f x<=gH f y:=by
 have hb:=xk f;unfold gH;have hq:x/f.binade<=y/f.binade:=Nat.div_le_div_right h;have ha:=ik x f.binade;have hc:=ik y f.binade;have hr:=lP x hb;by_cases e:x/f.binade=y/f.binade
 .rw [e]at ha|-;split
  .exact h
  .exact az _ (by omega)
 .split
  .rename_i h0;rw[if_neg (fun q=>e (h0.trans q.symm))];have:x<f.binade:=by rw[h0]at ha;omega
   have:f.binade<=f.binade+y %f.binade:=iR _ _;have p:=dm (y/f.binade-1)
   calc x<=f.binade+y %f.binade:=by omega
    _=(f.binade+y %f.binade)*1:=(kh _).symm
    _<=_:=gz _ p
  .rename_i h0;have hy0:¬y/f.binade=0:=fun q=>h0 (Nat.le_zero.1 (q▸hq));rw[if_neg hy0];obtain⟨q,hq1⟩:=ki h0;have hq1:x/f.binade=q+1:=hq1;obtain⟨c,hq2⟩:∃c,y/f.binade=q+2+c:=by obtain⟨c,hc2⟩:=Nat.exists_eq_add_of_lt (Nat.lt_of_le_of_ne hq e);exact⟨c,by rw[hc2,hq1];omega⟩
   rw[hq1,hq2];have e1:q+1-1=q:=by omega
   have e2:q+2+c-1=q+(1+c):=by omega
   rw[e1,e2,f_];have p:=dm c
   calc (f.binade+x %f.binade)*2^q<=(2*f.binade)*2^q:=az _ (by omega)
    _=f.binade*(2^q*2):=by rw[gq 2,gk,gq 2]
    _<=f.binade*(2^q*2^(1+c)):=gz _ (gz _ (by rw[f_,Nat.pow_one];omega))
    _<=_:=az _ (iR _ _)
theorem uM{x:Nat}(h:x<f.infRung):G9 f (gH f x)=x:=by
 have hb:=xk f;have ha:=ik x f.binade;have hr:=lP x hb;unfold gH;split
 .rename_i h0;have hx:x<f.binade:=by rw[h0]at ha;omega
  unfold G9;by_cases hx0:x=0
  .rw [if_pos hx0,hx0]
  .rw [if_neg hx0];have hl:x.log2<f.fractionBits:=(Nat.log2_lt hx0).2 hx;have:x.log2-f.fractionBits=0:=by omega
   rw[this,jz,Nat.zero_add,IU];omega
 .rename_i h0;obtain⟨q,hq⟩:=ki h0;have hq:x/f.binade=q+1:=hq;rw[hq]at ha|-;rw[m7];have hne:(f.binade+x %f.binade)*2^q≠0:=Nat.mul_ne_zero (by omega) (by have:=dm q;omega);unfold G9;rw[if_neg hne]
  have hl:((f.binade+x %f.binade)*2^q).log2=f.fractionBits+q:=by
   rw[Nat.log2_eq_iff hne];constructor
   .rw [f_];exact az _ (iR _ _)
   .rw [Nat.pow_succ,f_];have:(f.binade+x %f.binade)*2^q<(2*f.binade)*2^q:=Nat.mul_lt_mul_of_pos_right (by omega) (dm q);have e:2^f.fractionBits*2^q*2=(2*f.binade)*2^q:=by show 2^f.fractionBits*2^q*2=(2*2^f.fractionBits)*2^q;rw[gq 2,gk,gk,gq 2]
    omega
  rw[hl,Nat.add_sub_cancel_left,Hc];have e:(q+1)*f.binade=q*f.binade+f.binade:=by rw[bA,Nat.one_mul]
  rw[gq f.binade]at ha;omega
theorem qe{x:Nat}(h:x<f.infRung)(hs:f.infRung<=f.signWeight):∃(m k:Nat),f.read x=.number false m (f.leastPlace+k)/\m*2^k=gH f x:=by
 have hb:=xk f;have ha:=ik x f.binade;have h1:x/f.signWeight=0:=jV (by omega);have h2:x %f.signWeight=x:=iQ (by omega);unfold Format.read gH;rw[h1,h2];simp only[Nat.zero_mod];by_cases hx:x<f.binade
 .refine ⟨x,0,?_,?_⟩
  .rw [if_pos hx];simp
  .rw [if_pos (jV hx)];simp
 .have hq:x/f.binade≠0:=by intro h0;rw[h0]at ha;have:=lP x hb;omega
  refine⟨f.binade+x %f.binade,x/f.binade-1,?_,?_⟩
  .rw [if_neg hx,if_pos h];rfl
  .rw [if_neg hq]
theorem LI{x y:Nat}(hx:x<f.infRung)(hy:y<f.infRung)(hs:f.infRung<=f.signWeight):f.add x y=some (G9 f (gH f x+gH f y)):=by
 obtain⟨m,k,e1,e2⟩:=qe f hx hs;obtain⟨n,l,e3,e4⟩:=qe f hy hs;unfold Format.add;rw[e1,e3];simp only[Datum.sum];have hb:min (f.leastPlace+(k:Int)) (f.leastPlace+(l:Int))=f.leastPlace+((min k l:Nat):Int):=by omega
 rw[hb];have t1:(f.leastPlace+(k:Int)-(f.leastPlace+((min k l:Nat):Int))).toNat=k-min k l:=by omega
 have t2:(f.leastPlace+(l:Int)-(f.leastPlace+((min k l:Nat):Int))).toNat=l-min k l:=by omega
 rw[t1,t2];simp only[signed,Bool.false_eq_true,if_false,l_];rw[<-Int.natCast_add,Int.natAbs_natCast]
 have hneg:(if((m*2^(k-min k l)+n*2^(l-min k l):Nat):Int)=0 then false&&false else decide (((m*2^(k-min k l)+n*2^(l-min k l):Nat):Int)<0))=false:=by
  split
  .rfl
  .exact decide_eq_false (by omega)
 rw[hneg,Option.map_some];show some (f.nearest false _ _)=_;rw[Ff];have e5:(m*2^(k-min k l)+n*2^(l-min k l))*2^min k l=gH f x+gH f y:=by rw[bA,gk,gk,<-f_,<-f_,<-e2,<-e4];congr 3<;>omega
 rw[e5];rfl
theorem wD(hs:f.infRung<f.signWeight)(hb:f.binade<=f.infRung):f.read f.infRung=.infinity false:=by unfold Format.read;rw[jV hs,iQ hs];simp only[Nat.zero_mod];rw[if_neg (by omega),if_neg (by omega),if_pos trivial];rfl
end
def plus(f:Format)(x y:Nat):Nat:=if x<f.infRung/\y<f.infRung then G9 f (gH f x+gH f y)else f.infRung
section
variable{f:Format}
theorem OS(hs:f.infRung<f.signWeight)(hb:f.binade<=f.infRung){x y:Nat}(hx:x<=f.infRung)(hy:y<=f.infRung):f.add x y=some (plus f x y):=by
 unfold plus;by_cases h1:x<f.infRung
 .by_cases h2:y<f.infRung
  .rw [if_pos ⟨h1,h2⟩,LI f h1 h2 (by omega)]
  .obtain rfl:y=f.infRung:=by omega
   rw[if_neg (fun h=>h2 h.2)];obtain⟨m,k,e1,_⟩:=qe f h1 (by omega);unfold Format.add;rw[e1,wD f hs hb];rfl
 .obtain rfl:x=f.infRung:=by omega
  rw[if_neg (fun h=>h1 h.1)];unfold Format.add;rw[wD f hs hb];by_cases h2:y<f.infRung
  .obtain ⟨m,k,e1,_⟩:=qe f h2 (by omega);rw[e1];rfl
  .obtain rfl:y=f.infRung:=by omega
   rw[wD f hs hb];rfl
theorem zp{x y:Nat}:plus f x y<=f.infRung:=by
 unfold plus;split
 .exact Sm f _
 .exact am _
theorem Km{x y x' y':Nat}(hx:x<=x')(hy:y<=y'):plus f x y<=plus f x' y':=by
 by_cases h:x'<f.infRung/\y'<f.infRung
 .unfold plus;rw[if_pos h,if_pos ⟨by omega,by omega⟩];exact EF f (Nat.add_le_add (vE f hx) (vE f hy))
 .have:plus f x' y'=f.infRung:=by unfold plus;rw[if_neg h]
  rw[this];exact zp
theorem Hg{x y:Nat}(hy:y<=f.infRung):y<=plus f x y:=by
 unfold plus;split
 .rename_i h
  calc y=G9 f (gH f y):=(uM f h.2).symm
   _<=_:=EF f (Nat.le_add_left _ _)
 .exact hy
end
end Go.Fl
