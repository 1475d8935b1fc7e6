/- Sums of floats that are not negative: exact numbers of the least units, rounded to a rung; rising, and not below what is added to. Conditions: as stated. -/
import Ieee.Arith
open Nat renaming add_mul->bf,div_add_mod->ie,div_eq_of_lt->Kf,exists_eq_succ_of_ne_zero->gj,le_add_right->ff,le_refl->ai,mod_eq_of_lt->WX,mod_lt->Km,mul_assoc->WC,mul_comm->gm,mul_le_mul_left->dY,mul_le_mul_right->aw,mul_ne_zero->Kg,mul_one->gQ,pow_add->J7,pow_le_pow_right->Ke,pow_succ->Ko,shiftLeft_eq->Ka,two_pow_pos->eP,zero_le->gi,zero_mul->eC
namespace Go.Fl
open Ieee
def rE(n d:Nat):Nat:=n/2^d+(if 2^d<2*(n %2^d)\/2^d=2*(n %2^d)/\n/2^d %2=1 then 1 else 0)
theorem KG{n:Nat}:n<2^(n.log2+1):=Nat.lt_log2_self
theorem KM{n:Nat}(h:n≠0):2^n.log2<=n:=Nat.log2_self_le h
theorem Ld(neg:Bool)(n d:Nat):Toward.even.cut neg n d=rE n d:=by
 show n/1<<<min d (n.log2+2)+(decide (1<<<min d (n.log2+2)<2*(n %1<<<min d (n.log2+2)))||(1<<<min d (n.log2+2)==2*(n %1<<<min d (n.log2+2))&&n/1<<<min d (n.log2+2) %2==1)).toNat=_;unfold rE;by_cases hd:d<=n.log2+2
 .rw [Nat.min_eq_left hd,Nat.one_shiftLeft];congr 1;by_cases h1:2^d<2*(n %2^d)
  .simp [h1]
  .by_cases h2:2^d=2*(n %2^d)/\n/2^d %2=1
   .rw [if_pos (.inr h2)];have e1:(2^d==2*(n %2^d))=true:=beq_iff_eq.2 h2.1;have e2:(n/2^d %2==1)=true:=beq_iff_eq.2 h2.2;simp only[e1,e2,Bool.and_true,Bool.or_true];rfl
   .rw [if_neg (fun h=>h.elim h1 h2)]
    have e1:(2^d==2*(n %2^d)&&n/2^d %2==1)=false:=by
     rw[Bool.and_eq_false_iff];by_cases h3:2^d=2*(n %2^d)
     .right;rw[beq_eq_false_iff_ne];exact fun h=>h2 ⟨h3,h⟩
     .left;rw[beq_eq_false_iff_ne];exact h3
    simp only[decide_eq_false h1,Bool.false_or,e1];rfl
 .have hd:n.log2+2<d:=by omega
  have hn:=@KG n;have e0:2^(n.log2+2)=2*2^(n.log2+1):=by rw[Ko 2 (n.log2+1)];omega
  have e1:2^(n.log2+2)<=2^d:=Ke (by omega) (by omega);rw[Nat.min_eq_right (by omega),Nat.one_shiftLeft,Kf (show n<2^(n.log2+2)by omega),WX (show n<2^(n.log2+2)by omega),Kf (show n<2^d by omega),WX (show n<2^d by omega)];rw[if_neg (by omega)];have h1:¬2^(n.log2+2)<2*n:=by omega
  have h2:(2^(n.log2+2)==2*n)=false:=beq_false_of_ne (by omega);simp only[decide_eq_false h1,h2,Bool.false_and,Bool.or_false];rfl
theorem Ew(n:Nat):rE n 0=n:=by unfold rE;rw[Nat.pow_zero,Nat.div_one,Nat.mod_one,if_neg (by omega)];rfl
theorem KZ{n m d:Nat}(h:n<=m):rE n d<=rE m d:=by
 unfold rE;have hp:0<2^d:=eP d;have h1:n/2^d<=m/2^d:=Nat.div_le_div_right h;by_cases e:n/2^d=m/2^d
 .have h2:n %2^d<=m %2^d:=by have a:=ie n (2^d);have b:=ie m (2^d);rw[e]at a;omega
  rw[e];split
  .rename_i hc
   rw[if_pos (by
    rcases hc with hc|hc
    .exact .inl (by omega)
    .by_cases h3:n %2^d=m %2^d
     .rw [<-h3];exact .inr hc
     .exact .inl (by omega))]
   exact ai _
  .omega
 .split<;>split<;>omega
theorem OS{m k:Nat}:rE (m*2^k) k=m:=by unfold rE;have hp:0<2^k:=eP k;rw[Nat.mul_div_cancel _ hp,Nat.mul_mod_left,if_neg (by omega)];rfl
theorem KR{m k d:Nat}:rE (m*2^k) (d+k)=rE m d:=by
 unfold rE;have hp:0<2^k:=eP k;have e1:m*2^k/2^(d+k)=m/2^d:=by rw[J7,gm (2^d),<-Nat.div_div_eq_div_mul,Nat.mul_div_cancel _ hp]
 have e2:m*2^k %2^(d+k)=m %2^d*2^k:=by rw[J7,Nat.mul_mod_mul_right]
 rw[e1,e2];have e3:2^(d+k)=2^d*2^k:=J7 2 d k;have c1:2^(d+k)<2*(m %2^d*2^k)<->2^d<2*(m %2^d):=by rw[e3,<-WC];exact Nat.mul_lt_mul_right hp
 have c2:2^(d+k)=2*(m %2^d*2^k)<->2^d=2*(m %2^d):=by rw[e3,<-WC];exact Nat.mul_left_inj (by omega)
 simp only[c1,c2]
section
variable(f:Format)
def fJ(x:Nat):Nat:=if x/f.binade=0 then x else(f.binade+x %f.binade)*2^(x/f.binade-1)
def IS(n:Nat):Nat:=if n=0 then 0 else min ((n.log2-f.fractionBits)*f.binade+rE n (n.log2-f.fractionBits)) f.infRung
theorem NE:0<f.binade:=eP _
theorem Kx(neg:Bool)(m:Nat)(k:Nat):f.nearest neg m (f.leastPlace+k)=f.word neg (IS f (m*2^k)):=by
 unfold Format.nearest IS;by_cases hm:m=0
 .rw [if_pos hm,hm,eC,if_pos rfl]
 have hmk:m*2^k≠0:=Kg hm (by have:=eP k;omega);rw[if_neg hm,if_neg hmk];have hl:(m*2^k).log2=m.log2+k:=by induction k with|zero=>simp|succ k ih=>have h0:m*2^k≠0:=Kg hm (by have:=eP k;omega);rw[Ko,<-WC,gm (m*2^k) 2,Nat.log2_two_mul h0,ih h0];omega
 rw[hl];generalize hd:m.log2+k-f.fractionBits=d;have hlast:max (f.leastPlace+(k:Int)+(m.log2:Int)-(f.fractionBits:Int)) f.leastPlace=f.leastPlace+(d:Int):=by omega
 rw[hlast];have e1:(f.leastPlace+(d:Int)-f.leastPlace).toNat=d:=by omega
 have e2:(f.leastPlace+(k:Int)-(f.leastPlace+(d:Int))).toNat=k-d:=by omega
 have e3:(f.leastPlace+(d:Int)-(f.leastPlace+(k:Int))).toNat=d-k:=by omega
 show f.word neg (min ((f.leastPlace+(d:Int)-f.leastPlace).toNat*f.binade+Toward.even.cut neg (m<<<(f.leastPlace+(k:Int)-(f.leastPlace+(d:Int))).toNat) (f.leastPlace+(d:Int)-(f.leastPlace+(k:Int))).toNat) f.infRung)=_;rw[e1,e2,e3,Ld,Ka];congr 3;by_cases hkd:d<=k
 .have:d-k=0:=by omega
  rw[this,Ew];have:m*2^k=m*2^(k-d)*2^d:=by rw[WC,<-J7];congr 2;omega
  rw[this,OS]
 .have h1:k-d=0:=by omega
  rw[h1,Nat.pow_zero,gQ];obtain⟨c,rfl⟩:∃c,d=c+k:=⟨d-k,by omega⟩
  rw[Nat.add_sub_cancel,KR]
theorem Lp(n:Nat):IS f n<=f.infRung:=by
 unfold IS;split
 .exact gi _
 .exact Nat.min_le_right _ _
theorem Kv{n m:Nat}(h:n<=m):IS f n<=IS f m:=by
 by_cases hn:n=0
 .subst hn;unfold IS;rw[if_pos rfl];exact gi _
 have hm:m≠0:=by omega
 unfold IS;rw[if_neg hn,if_neg hm]
 have hlog:n.log2<=m.log2:=by
  rcases Nat.lt_or_ge m.log2 n.log2 with h1|h1
  .have a:=KM hn;have b:=@KG m;have c:2^(m.log2+1)<=2^n.log2:=Ke (by omega) h1;omega
  .exact h1
 have key:(n.log2-f.fractionBits)*f.binade+rE n (n.log2-f.fractionBits)<=(m.log2-f.fractionBits)*f.binade+rE m (m.log2-f.fractionBits):=by
  by_cases e:n.log2-f.fractionBits=m.log2-f.fractionBits
  .rw [e];exact Nat.add_le_add_left (KZ h) _
  .generalize hd:n.log2-f.fractionBits=d at*;generalize hd':m.log2-f.fractionBits=d' at*;have hlt:d<d':=by omega
   have hm2:m.log2=f.fractionBits+d':=by omega
   have h1:f.binade<=m/2^d':=by rw[Nat.le_div_iff_mul_le (eP d')];show 2^f.fractionBits*2^d'<=m;rw[<-J7,<-hm2];exact KM hm
   have h2:f.binade<=rE m d':=Nat.le_trans h1 (ff _ _)
   have h3:n/2^d<2*f.binade:=by
    rw[Nat.div_lt_iff_lt_mul (eP d)];show n<2*2^f.fractionBits*2^d;have a:=@KG n;have b:2^(n.log2+1)<=2^(f.fractionBits+d+1):=Ke (by omega) (by omega);have c:2^(f.fractionBits+d+1)=2*2^f.fractionBits*2^d:=by rw[Ko,J7,gm _ 2,<-WC]
    omega
   have h4:rE n d<=2*f.binade:=by unfold rE;split<;>omega
   obtain⟨c,rfl⟩:∃c,d'=d+1+c:=⟨d'-(d+1),by omega⟩
   have h5:(d+1+c)*f.binade=d*f.binade+f.binade+c*f.binade:=by rw[bf,bf,Nat.one_mul]
   have h6:0<=c*f.binade:=gi _;omega
 omega
theorem wX{x y:Nat}(h:x<=y):fJ f x<=fJ f y:=by
 have hb:=NE f;unfold fJ;have hq:x/f.binade<=y/f.binade:=Nat.div_le_div_right h;have ha:=ie x f.binade;have hc:=ie y f.binade;have hr:=Km x hb;by_cases e:x/f.binade=y/f.binade
 .rw [e]at ha|-;split
  .exact h
  .exact aw _ (by omega)
 .split
  .rename_i h0;rw[if_neg (fun q=>e (h0.trans q.symm))];have:x<f.binade:=by rw[h0]at ha;omega
   have:f.binade<=f.binade+y %f.binade:=ff _ _;have p:=eP (y/f.binade-1)
   calc x<=f.binade+y %f.binade:=by omega
    _=(f.binade+y %f.binade)*1:=(gQ _).symm
    _<=_:=dY _ p
  .rename_i h0;have hy0:¬y/f.binade=0:=fun q=>h0 (Nat.le_zero.1 (q▸hq));rw[if_neg hy0];obtain⟨q,hq1⟩:=gj h0;have hq1:x/f.binade=q+1:=hq1;obtain⟨c,hq2⟩:∃c,y/f.binade=q+2+c:=by obtain⟨c,hc2⟩:=Nat.exists_eq_add_of_lt (Nat.lt_of_le_of_ne hq e);exact⟨c,by rw[hc2,hq1];omega⟩
   rw[hq1,hq2];have e1:q+1-1=q:=by omega
   have e2:q+2+c-1=q+(1+c):=by omega
   rw[e1,e2,J7];have p:=eP c
   calc (f.binade+x %f.binade)*2^q<=(2*f.binade)*2^q:=aw _ (by omega)
    _=f.binade*(2^q*2):=by rw[gm 2,WC,gm 2]
    _<=f.binade*(2^q*2^(1+c)):=dY _ (dY _ (by rw[J7,Nat.pow_one];omega))
    _<=_:=aw _ (ff _ _)
theorem oQ{x:Nat}(h:x<f.infRung):IS f (fJ f x)=x:=by
 have hb:=NE f;have ha:=ie x f.binade;have hr:=Km x hb;unfold fJ;split
 .rename_i h0;have hx:x<f.binade:=by rw[h0]at ha;omega
  unfold IS;by_cases hx0:x=0
  .rw [if_pos hx0,hx0]
  .rw [if_neg hx0];have hl:x.log2<f.fractionBits:=(Nat.log2_lt hx0).2 hx;have:x.log2-f.fractionBits=0:=by omega
   rw[this,eC,Nat.zero_add,Ew];omega
 .rename_i h0;obtain⟨q,hq⟩:=gj h0;have hq:x/f.binade=q+1:=hq;rw[hq]at ha|-;rw[Nat.add_sub_cancel];have hne:(f.binade+x %f.binade)*2^q≠0:=Kg (by omega) (by have:=eP q;omega);unfold IS;rw[if_neg hne]
  have hl:((f.binade+x %f.binade)*2^q).log2=f.fractionBits+q:=by
   rw[Nat.log2_eq_iff hne];constructor
   .rw [J7];exact aw _ (ff _ _)
   .rw [Ko,J7];have:(f.binade+x %f.binade)*2^q<(2*f.binade)*2^q:=Nat.mul_lt_mul_of_pos_right (by omega) (eP q);have e:2^f.fractionBits*2^q*2=(2*f.binade)*2^q:=by show 2^f.fractionBits*2^q*2=(2*2^f.fractionBits)*2^q;rw[gm 2,WC,WC,gm 2]
    omega
  rw[hl,Nat.add_sub_cancel_left,OS];have e:(q+1)*f.binade=q*f.binade+f.binade:=by rw[bf,Nat.one_mul]
  rw[gm f.binade]at ha;omega
theorem Kc{x:Nat}(h:x<f.infRung)(hs:f.infRung<=f.signWeight):∃(m k:Nat),f.read x=.number false m (f.leastPlace+k)/\m*2^k=fJ f x:=by
 have hb:=NE f;have ha:=ie x f.binade;have h1:x/f.signWeight=0:=Kf (by omega);have h2:x %f.signWeight=x:=WX (by omega);unfold Format.read fJ;rw[h1,h2];simp only[Nat.zero_mod];by_cases hx:x<f.binade
 .refine ⟨x,0,?_,?_⟩
  .rw [if_pos hx];simp
  .rw [if_pos (Kf hx)];simp
 .have hq:x/f.binade≠0:=by intro h0;rw[h0]at ha;have:=Km x hb;omega
  refine⟨f.binade+x %f.binade,x/f.binade-1,?_,?_⟩
  .rw [if_neg hx,if_pos h];rfl
  .rw [if_neg hq]
theorem K9{x y:Nat}(hx:x<f.infRung)(hy:y<f.infRung)(hs:f.infRung<=f.signWeight):f.add x y=some (IS f (fJ f x+fJ f y)):=by
 obtain⟨m,k,e1,e2⟩:=Kc f hx hs;obtain⟨n,l,e3,e4⟩:=Kc f hy hs;unfold Format.add;rw[e1,e3];simp only[Datum.sum];have hb:min (f.leastPlace+(k:Int)) (f.leastPlace+(l:Int))=f.leastPlace+((min k l:Nat):Int):=by omega
 rw[hb];have t1:(f.leastPlace+(k:Int)-(f.leastPlace+((min k l:Nat):Int))).toNat=k-min k l:=by omega
 have t2:(f.leastPlace+(l:Int)-(f.leastPlace+((min k l:Nat):Int))).toNat=l-min k l:=by omega
 rw[t1,t2];simp only[signed,Bool.false_eq_true,if_false,Ka];rw[<-Int.natCast_add,Int.natAbs_natCast]
 have hneg:(if((m*2^(k-min k l)+n*2^(l-min k l):Nat):Int)=0 then false&&false else decide (((m*2^(k-min k l)+n*2^(l-min k l):Nat):Int)<0))=false:=by
  split
  .rfl
  .exact decide_eq_false (by omega)
 rw[hneg,Option.map_some];show some (f.nearest false _ _)=_;rw[Kx];have e5:(m*2^(k-min k l)+n*2^(l-min k l))*2^min k l=fJ f x+fJ f y:=by rw[bf,WC,WC,<-J7,<-J7,<-e2,<-e4];congr 3<;>omega
 rw[e5];rfl
theorem Kw(hs:f.infRung<f.signWeight)(hb:f.binade<=f.infRung):f.read f.infRung=.infinity false:=by unfold Format.read;rw[Kf hs,WX hs];simp only[Nat.zero_mod];rw[if_neg (by omega),if_neg (by omega),if_pos trivial];rfl
end
def plus(f:Format)(x y:Nat):Nat:=if x<f.infRung/\y<f.infRung then IS f (fJ f x+fJ f y)else f.infRung
section
variable{f:Format}
theorem Lg(hs:f.infRung<f.signWeight)(hb:f.binade<=f.infRung){x y:Nat}(hx:x<=f.infRung)(hy:y<=f.infRung):f.add x y=some (plus f x y):=by
 unfold plus;by_cases h1:x<f.infRung
 .by_cases h2:y<f.infRung
  .rw [if_pos ⟨h1,h2⟩,K9 f h1 h2 (by omega)]
  .obtain rfl:y=f.infRung:=by omega
   rw[if_neg (fun h=>h2 h.2)];obtain⟨m,k,e1,_⟩:=Kc f h1 (by omega);unfold Format.add;rw[e1,Kw f hs hb];rfl
 .obtain rfl:x=f.infRung:=by omega
  rw[if_neg (fun h=>h1 h.1)];unfold Format.add;rw[Kw f hs hb];by_cases h2:y<f.infRung
  .obtain ⟨m,k,e1,_⟩:=Kc f h2 (by omega);rw[e1];rfl
  .obtain rfl:y=f.infRung:=by omega
   rw[Kw f hs hb];rfl
theorem KJ{x y:Nat}:plus f x y<=f.infRung:=by
 unfold plus;split
 .exact Lp f _
 .exact ai _
end
end Go.Fl
