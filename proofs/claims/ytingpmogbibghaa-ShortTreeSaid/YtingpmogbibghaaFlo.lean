/- Sums of floats that are not negative: exact numbers of the least units, rounded to a rung; rising, and not below what is added to. Conditions: as stated. -/
import Ieee.Arith
open Nat renaming add_mul->bB,add_sub_cancel->nG,div_add_mod->iS,div_eq_of_lt->kU,exists_eq_succ_of_ne_zero->li,le_add_right->ii,le_refl->am,mod_eq_of_lt->jt,mod_lt->nF,mul_assoc->gI,mul_comm->gQ,mul_le_mul_left->gT,mul_le_mul_right->aH,mul_one->lh,pow_add->gF,pow_le_pow_right->kg,shiftLeft_eq->mK,two_pow_pos->dN,zero_le->eQ,zero_mul->gP
namespace Go.Fl
open Ieee
def rE(n d:Nat):Nat:=n/2^d+(if 2^d<2*(n %2^d)\/2^d=2*(n %2^d)/\n/2^d %2=1 then 1 else 0)
theorem G4{n:Nat}:n<2^(n.log2+1):=Nat.lt_log2_self
theorem Ma{n:Nat}(h:n≠0):2^n.log2<=n:=Nat.log2_self_le h
theorem RE(neg:Bool)(n d:Nat):Toward.even.cut neg n d=rE n d:=by
 show n/1<<<min d (n.log2+2)+(decide (1<<<min d (n.log2+2)<2*(n %1<<<min d (n.log2+2)))||(1<<<min d (n.log2+2)==2*(n %1<<<min d (n.log2+2))&&n/1<<<min d (n.log2+2) %2==1)).toNat=_;unfold rE;by_cases hd:d<=n.log2+2
 .rw [Nat.min_eq_left hd,Nat.one_shiftLeft];congr 1;by_cases h1:2^d<2*(n %2^d)
  .simp [h1]
  .by_cases h2:2^d=2*(n %2^d)/\n/2^d %2=1
   .rw [if_pos (.inr h2)];have e1:(2^d==2*(n %2^d))=true:=beq_iff_eq.2 h2.1;have e2:(n/2^d %2==1)=true:=beq_iff_eq.2 h2.2;simp only[e1,e2,Bool.and_true,Bool.or_true];rfl
   .rw [if_neg (fun h=>h.elim h1 h2)]
    have e1:(2^d==2*(n %2^d)&&n/2^d %2==1)=false:=by
     rw[Bool.and_eq_false_iff];by_cases h3:2^d=2*(n %2^d)
     .right;rw[beq_eq_false_iff_ne];exact fun h=>h2 ⟨h3,h⟩
     .left;rw[beq_eq_false_iff_ne];exact h3
    simp only[decide_eq_false h1,Bool.false_or,e1];rfl
 .have hd:n.log2+2<d:=by omega
  have hn:=@G4 n;have e0:2^(n.log2+2)=2*2^(n.log2+1):=by rw[Nat.pow_succ 2 (n.log2+1)];omega
  have e1:2^(n.log2+2)<=2^d:=kg (by omega) (by omega);rw[Nat.min_eq_right (by omega),Nat.one_shiftLeft,kU (show n<2^(n.log2+2)by omega),jt (show n<2^(n.log2+2)by omega),kU (show n<2^d by omega),jt (show n<2^d by omega)];rw[if_neg (by omega)];have h1:¬2^(n.log2+2)<2*n:=by omega
  have h2:(2^(n.log2+2)==2*n)=false:=beq_false_of_ne (by omega);simp only[decide_eq_false h1,h2,Bool.false_and,Bool.or_false];rfl
theorem Ig(n:Nat):rE n 0=n:=by unfold rE;rw[Nat.pow_zero,Nat.div_one,Nat.mod_one,if_neg (by omega)];rfl
theorem Ov{n m d:Nat}(h:n<=m):rE n d<=rE m d:=by
 unfold rE;have hp:0<2^d:=dN d;have h1:n/2^d<=m/2^d:=Nat.div_le_div_right h;by_cases e:n/2^d=m/2^d
 .have h2:n %2^d<=m %2^d:=by have a:=iS n (2^d);have b:=iS m (2^d);rw[e]at a;omega
  rw[e];split
  .rename_i hc
   rw[if_pos (by
    rcases hc with hc|hc
    .exact .inl (by omega)
    .by_cases h3:n %2^d=m %2^d
     .rw [<-h3];exact .inr hc
     .exact .inl (by omega))]
   exact am _
  .omega
 .split<;>split<;>omega
theorem GF{m k:Nat}:rE (m*2^k) k=m:=by unfold rE;have hp:0<2^k:=dN k;rw[Nat.mul_div_cancel _ hp,Nat.mul_mod_left,if_neg (by omega)];rfl
theorem Lz{m k d:Nat}:rE (m*2^k) (d+k)=rE m d:=by
 unfold rE;have hp:0<2^k:=dN k;have e1:m*2^k/2^(d+k)=m/2^d:=by rw[gF,gQ (2^d),<-Nat.div_div_eq_div_mul,Nat.mul_div_cancel _ hp]
 have e2:m*2^k %2^(d+k)=m %2^d*2^k:=by rw[gF,Nat.mul_mod_mul_right]
 rw[e1,e2];have e3:2^(d+k)=2^d*2^k:=gF 2 d k;have c1:2^(d+k)<2*(m %2^d*2^k)<->2^d<2*(m %2^d):=by rw[e3,<-gI];exact Nat.mul_lt_mul_right hp
 have c2:2^(d+k)=2*(m %2^d*2^k)<->2^d=2*(m %2^d):=by rw[e3,<-gI];exact Nat.mul_left_inj (by omega)
 simp only[c1,c2]
section
variable(f:Format)
def hO(x:Nat):Nat:=if x/f.binade=0 then x else(f.binade+x %f.binade)*2^(x/f.binade-1)
def GB(n:Nat):Nat:=if n=0 then 0 else min ((n.log2-f.fractionBits)*f.binade+rE n (n.log2-f.fractionBits)) f.infRung
theorem wR:0<f.binade:=dN _
theorem ET(neg:Bool)(m:Nat)(k:Nat):f.nearest neg m (f.leastPlace+k)=f.word neg (GB f (m*2^k)):=by
 unfold Format.nearest GB;by_cases hm:m=0
 .rw [if_pos hm,hm,gP,if_pos rfl]
 have hmk:m*2^k≠0:=Nat.mul_ne_zero hm (by have:=dN k;omega);rw[if_neg hm,if_neg hmk];have hl:(m*2^k).log2=m.log2+k:=by induction k with|zero=>simp|succ k ih=>have h0:m*2^k≠0:=Nat.mul_ne_zero hm (by have:=dN k;omega);rw[Nat.pow_succ,<-gI,gQ (m*2^k) 2,Nat.log2_two_mul h0,ih h0];omega
 rw[hl];generalize hd:m.log2+k-f.fractionBits=d;have hlast:max (f.leastPlace+(k:Int)+(m.log2:Int)-(f.fractionBits:Int)) f.leastPlace=f.leastPlace+(d:Int):=by omega
 rw[hlast];have e1:(f.leastPlace+(d:Int)-f.leastPlace).toNat=d:=by omega
 have e2:(f.leastPlace+(k:Int)-(f.leastPlace+(d:Int))).toNat=k-d:=by omega
 have e3:(f.leastPlace+(d:Int)-(f.leastPlace+(k:Int))).toNat=d-k:=by omega
 show f.word neg (min ((f.leastPlace+(d:Int)-f.leastPlace).toNat*f.binade+Toward.even.cut neg (m<<<(f.leastPlace+(k:Int)-(f.leastPlace+(d:Int))).toNat) (f.leastPlace+(d:Int)-(f.leastPlace+(k:Int))).toNat) f.infRung)=_;rw[e1,e2,e3,RE,mK];congr 3;by_cases hkd:d<=k
 .have:d-k=0:=by omega
  rw[this,Ig];have:m*2^k=m*2^(k-d)*2^d:=by rw[gI,<-gF];congr 2;omega
  rw[this,GF]
 .have h1:k-d=0:=by omega
  rw[h1,Nat.pow_zero,lh];obtain⟨c,rfl⟩:∃c,d=c+k:=⟨d-k,by omega⟩
  rw[nG,Lz]
theorem QF(n:Nat):GB f n<=f.infRung:=by
 unfold GB;split
 .exact eQ _
 .exact Nat.min_le_right _ _
theorem Eb{n m:Nat}(h:n<=m):GB f n<=GB f m:=by
 by_cases hn:n=0
 .subst hn;unfold GB;rw[if_pos rfl];exact eQ _
 have hm:m≠0:=by omega
 unfold GB;rw[if_neg hn,if_neg hm]
 have hlog:n.log2<=m.log2:=by
  rcases Nat.lt_or_ge m.log2 n.log2 with h1|h1
  .have a:=Ma hn;have b:=@G4 m;have c:2^(m.log2+1)<=2^n.log2:=kg (by omega) h1;omega
  .exact h1
 have key:(n.log2-f.fractionBits)*f.binade+rE n (n.log2-f.fractionBits)<=(m.log2-f.fractionBits)*f.binade+rE m (m.log2-f.fractionBits):=by
  by_cases e:n.log2-f.fractionBits=m.log2-f.fractionBits
  .rw [e];exact Nat.add_le_add_left (Ov h) _
  .generalize hd:n.log2-f.fractionBits=d at*;generalize hd':m.log2-f.fractionBits=d' at*;have hlt:d<d':=by omega
   have hm2:m.log2=f.fractionBits+d':=by omega
   have h1:f.binade<=m/2^d':=by rw[Nat.le_div_iff_mul_le (dN d')];show 2^f.fractionBits*2^d'<=m;rw[<-gF,<-hm2];exact Ma hm
   have h2:f.binade<=rE m d':=Nat.le_trans h1 (ii _ _)
   have h3:n/2^d<2*f.binade:=by
    rw[Nat.div_lt_iff_lt_mul (dN d)];show n<2*2^f.fractionBits*2^d;have a:=@G4 n;have b:2^(n.log2+1)<=2^(f.fractionBits+d+1):=kg (by omega) (by omega);have c:2^(f.fractionBits+d+1)=2*2^f.fractionBits*2^d:=by rw[Nat.pow_succ,gF,gQ _ 2,<-gI]
    omega
   have h4:rE n d<=2*f.binade:=by unfold rE;split<;>omega
   obtain⟨c,rfl⟩:∃c,d'=d+1+c:=⟨d'-(d+1),by omega⟩
   have h5:(d+1+c)*f.binade=d*f.binade+f.binade+c*f.binade:=by rw[bB,bB,Nat.one_mul]
   have h6:0<=c*f.binade:=eQ _;omega
 omega
theorem vk{x y:Nat}(h:x<=y):hO f x<=hO f y:=by
 have hb:=wR f;unfold hO;have hq:x/f.binade<=y/f.binade:=Nat.div_le_div_right h;have ha:=iS x f.binade;have hc:=iS y f.binade;have hr:=nF x hb;by_cases e:x/f.binade=y/f.binade
 .rw [e]at ha|-;split
  .exact h
  .exact aH _ (by omega)
 .split
  .rename_i h0;rw[if_neg (fun q=>e (h0.trans q.symm))];have:x<f.binade:=by rw[h0]at ha;omega
   have:f.binade<=f.binade+y %f.binade:=ii _ _;have p:=dN (y/f.binade-1)
   calc x<=f.binade+y %f.binade:=by omega
    _=(f.binade+y %f.binade)*1:=(lh _).symm
    _<=_:=gT _ p
  .rename_i h0;have hy0:¬y/f.binade=0:=fun q=>h0 (Nat.le_zero.1 (q▸hq));rw[if_neg hy0];obtain⟨q,hq1⟩:=li h0;have hq1:x/f.binade=q+1:=hq1;obtain⟨c,hq2⟩:∃c,y/f.binade=q+2+c:=by obtain⟨c,hc2⟩:=Nat.exists_eq_add_of_lt (Nat.lt_of_le_of_ne hq e);exact⟨c,by rw[hc2,hq1];omega⟩
   rw[hq1,hq2];have e1:q+1-1=q:=by omega
   have e2:q+2+c-1=q+(1+c):=by omega
   rw[e1,e2,gF];have p:=dN c
   calc (f.binade+x %f.binade)*2^q<=(2*f.binade)*2^q:=aH _ (by omega)
    _=f.binade*(2^q*2):=by rw[gQ 2,gI,gQ 2]
    _<=f.binade*(2^q*2^(1+c)):=gT _ (gT _ (by rw[gF,Nat.pow_one];omega))
    _<=_:=aH _ (ii _ _)
theorem uE{x:Nat}(h:x<f.infRung):GB f (hO f x)=x:=by
 have hb:=wR f;have ha:=iS x f.binade;have hr:=nF x hb;unfold hO;split
 .rename_i h0;have hx:x<f.binade:=by rw[h0]at ha;omega
  unfold GB;by_cases hx0:x=0
  .rw [if_pos hx0,hx0]
  .rw [if_neg hx0];have hl:x.log2<f.fractionBits:=(Nat.log2_lt hx0).2 hx;have:x.log2-f.fractionBits=0:=by omega
   rw[this,gP,Nat.zero_add,Ig];omega
 .rename_i h0;obtain⟨q,hq⟩:=li h0;have hq:x/f.binade=q+1:=hq;rw[hq]at ha|-;rw[nG];have hne:(f.binade+x %f.binade)*2^q≠0:=Nat.mul_ne_zero (by omega) (by have:=dN q;omega);unfold GB;rw[if_neg hne]
  have hl:((f.binade+x %f.binade)*2^q).log2=f.fractionBits+q:=by
   rw[Nat.log2_eq_iff hne];constructor
   .rw [gF];exact aH _ (ii _ _)
   .rw [Nat.pow_succ,gF];have:(f.binade+x %f.binade)*2^q<(2*f.binade)*2^q:=Nat.mul_lt_mul_of_pos_right (by omega) (dN q);have e:2^f.fractionBits*2^q*2=(2*f.binade)*2^q:=by show 2^f.fractionBits*2^q*2=(2*2^f.fractionBits)*2^q;rw[gQ 2,gI,gI,gQ 2]
    omega
  rw[hl,Nat.add_sub_cancel_left,GF];have e:(q+1)*f.binade=q*f.binade+f.binade:=by rw[bB,Nat.one_mul]
  rw[gQ f.binade]at ha;omega
theorem qy{x:Nat}(h:x<f.infRung)(hs:f.infRung<=f.signWeight):∃(m k:Nat),f.read x=.number false m (f.leastPlace+k)/\m*2^k=hO f x:=by
 have hb:=wR f;have ha:=iS x f.binade;have h1:x/f.signWeight=0:=kU (by omega);have h2:x %f.signWeight=x:=jt (by omega);unfold Format.read hO;rw[h1,h2];simp only[Nat.zero_mod];by_cases hx:x<f.binade
 .refine ⟨x,0,?_,?_⟩
  .rw [if_pos hx];simp
  .rw [if_pos (kU hx)];simp
 .have hq:x/f.binade≠0:=by intro h0;rw[h0]at ha;have:=nF x hb;omega
  refine⟨f.binade+x %f.binade,x/f.binade-1,?_,?_⟩
  .rw [if_neg hx,if_pos h];rfl
  .rw [if_neg hq]
theorem KM{x y:Nat}(hx:x<f.infRung)(hy:y<f.infRung)(hs:f.infRung<=f.signWeight):f.add x y=some (GB f (hO f x+hO f y)):=by
 obtain⟨m,k,e1,e2⟩:=qy f hx hs;obtain⟨n,l,e3,e4⟩:=qy f hy hs;unfold Format.add;rw[e1,e3];simp only[Datum.sum];have hb:min (f.leastPlace+(k:Int)) (f.leastPlace+(l:Int))=f.leastPlace+((min k l:Nat):Int):=by omega
 rw[hb];have t1:(f.leastPlace+(k:Int)-(f.leastPlace+((min k l:Nat):Int))).toNat=k-min k l:=by omega
 have t2:(f.leastPlace+(l:Int)-(f.leastPlace+((min k l:Nat):Int))).toNat=l-min k l:=by omega
 rw[t1,t2];simp only[signed,Bool.false_eq_true,if_false,mK];rw[<-Int.natCast_add,Int.natAbs_natCast]
 have hneg:(if((m*2^(k-min k l)+n*2^(l-min k l):Nat):Int)=0 then false&&false else decide (((m*2^(k-min k l)+n*2^(l-min k l):Nat):Int)<0))=false:=by
  split
  .rfl
  .exact decide_eq_false (by omega)
 rw[hneg,Option.map_some];show some (f.nearest false _ _)=_;rw[ET];have e5:(m*2^(k-min k l)+n*2^(l-min k l))*2^min k l=hO f x+hO f y:=by rw[bB,gI,gI,<-gF,<-gF,<-e2,<-e4];congr 3<;>omega
 rw[e5];rfl
theorem we(hs:f.infRung<f.signWeight)(hb:f.binade<=f.infRung):f.read f.infRung=.infinity false:=by unfold Format.read;rw[kU hs,jt hs];simp only[Nat.zero_mod];rw[if_neg (by omega),if_neg (by omega),if_pos trivial];rfl
end
def plus(f:Format)(x y:Nat):Nat:=if x<f.infRung/\y<f.infRung then GB f (hO f x+hO f y)else f.infRung
section
variable{f:Format}
theorem NB(hs:f.infRung<f.signWeight)(hb:f.binade<=f.infRung){x y:Nat}(hx:x<=f.infRung)(hy:y<=f.infRung):f.add x y=some (plus f x y):=by
 unfold plus;by_cases h1:x<f.infRung
 .by_cases h2:y<f.infRung
  .rw [if_pos ⟨h1,h2⟩,KM f h1 h2 (by omega)]
  .obtain rfl:y=f.infRung:=by omega
   rw[if_neg (fun h=>h2 h.2)];obtain⟨m,k,e1,_⟩:=qy f h1 (by omega);unfold Format.add;rw[e1,we f hs hb];rfl
 .obtain rfl:x=f.infRung:=by omega
  rw[if_neg (fun h=>h1 h.1)];unfold Format.add;rw[we f hs hb];by_cases h2:y<f.infRung
  .obtain ⟨m,k,e1,_⟩:=qy f h2 (by omega);rw[e1];rfl
  .obtain rfl:y=f.infRung:=by omega
   rw[we f hs hb];rfl
theorem yX{x y:Nat}:plus f x y<=f.infRung:=by
 unfold plus;split
 .exact QF f _
 .exact am _
theorem Jz{x y x' y':Nat}(hx:x<=x')(hy:y<=y'):plus f x y<=plus f x' y':=by
 by_cases h:x'<f.infRung/\y'<f.infRung
 .unfold plus;rw[if_pos h,if_pos ⟨by omega,by omega⟩];exact Eb f (Nat.add_le_add (vk f hx) (vk f hy))
 .have:plus f x' y'=f.infRung:=by unfold plus;rw[if_neg h]
  rw[this];exact yX
theorem GI{x y:Nat}(hy:y<=f.infRung):y<=plus f x y:=by
 unfold plus;split
 .rename_i h
  calc y=GB f (hO f y):=(uE f h.2).symm
   _<=_:=Eb f (Nat.le_add_left _ _)
 .exact hy
end
end Go.Fl
