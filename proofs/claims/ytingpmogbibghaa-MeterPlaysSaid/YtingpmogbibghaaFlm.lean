/- How floats stand to each other, by their bits; differences, products and quotients that are not negative. Conditions: as stated. -/
import Derived.Test.YtingpmogbibghaaFlo
import GoSem.Core.Float
open Int renaming compare_eq_eq->dW,compare_eq_gt->dw,compare_eq_lt->dv
open Nat renaming add_mul->bf,le_of_eq->Kp,le_of_lt->Kj,le_of_mul_le_mul_right->Ki,le_trans->cZ,lt_or_ge->LN,mul_assoc->WC,mul_comm->gm,mul_ne_zero->Kg,pow_add->J7,pow_le_pow_right->Ke,pow_succ->Ko,shiftLeft_eq->Ka,two_pow_pos->eP,zero_le->gi,zero_mul->eC
namespace Go.Fl
open Ieee
section
variable(f:Format)
theorem tt{x y:Nat}(h:x<y)(hy:y<=f.infRung):fJ f x<fJ f y:=by
 have hx:x<f.infRung:=by omega
 have hle:=wX f (Kj h);rcases LN y f.infRung with h1|h1
 .rcases LN (fJ f x) (fJ f y)with h2|h2
  .exact h2
  .have e:fJ f x=fJ f y:=by omega
   have:=oQ f hx;rw[e,oQ f h1]at this;omega
 .obtain rfl:y=f.infRung:=by omega
  rcases LN (fJ f x) (fJ f f.infRung)with h2|h2
  .exact h2
  .exfalso;have e:fJ f x=fJ f f.infRung:=by omega
   have hr:=oQ f hx;rw[e]at hr;have hb:=NE f;have hm:f.infRung %f.binade=0:=Nat.mul_mod_left _ _;have hd:f.infRung/f.binade=2^f.exponentBits-1:=Nat.mul_div_cancel _ hb;have hpos:f.infRung≠0:=by omega
   have h0:¬2^f.exponentBits-1=0:=by intro h0;apply hpos;show(2^f.exponentBits-1)*f.binade=0;rw[h0,eC]
   obtain⟨q,hq⟩:=Nat.exists_eq_succ_of_ne_zero h0;have hq:2^f.exponentBits-1=q+1:=hq;have hu:fJ f f.infRung=f.binade*2^q:=by unfold fJ;rw[hd,hm,if_neg h0,hq,Nat.add_zero,Nat.add_sub_cancel]
   have hne:f.binade*2^q≠0:=Kg (by omega) (by have:=eP q;omega);rw[hu]at hr;unfold IS at hr;have hl:(f.binade*2^q).log2=f.fractionBits+q:=by show(2^f.fractionBits*2^q).log2=_;rw[<-J7,Nat.log2_two_pow]
   rw[if_neg hne,hl,Nat.add_sub_cancel_left,OS]at hr;have e2:f.infRung=q*f.binade+f.binade:=by show(2^f.exponentBits-1)*f.binade=_;rw[hq,bf,Nat.one_mul]
   rw[<-e2,Nat.min_self]at hr;omega
def su(x:Nat):Int:=if x/f.signWeight %2=1 then-(fJ f (x %f.signWeight):Int)else fJ f (x %f.signWeight)
theorem tK{x:Nat}(h:x %f.signWeight<f.infRung):∃(m k:Nat),f.read x=.number (x/f.signWeight %2==1) m (f.leastPlace+k)/\signed (x/f.signWeight %2==1) m k=su f x:=by
 have hb:=NE f;unfold su;generalize hs:x/f.signWeight %2=s;generalize hr:x %f.signWeight=r at h
 have hR:f.read x=if r<f.binade then .number (s==1) r f.leastPlace
   else if r<f.infRung then .number (s==1) (f.binade+r %f.binade) (f.leastPlace+(r/f.binade-1:Nat))
   else if r=f.infRung then .infinity (s==1)else .nan (s==1) (r-f.infRung):=by
  unfold Format.read;rw[hs,hr]
 rw[hR]
 have key:∀m k,m*2^k=fJ f r->signed (s==1) m k=if s=1 then-(fJ f r:Int)else fJ f r:=by
  intro m k e;unfold signed;rw[Ka,e];by_cases h1:s=1
  .simp [h1]
  .rw [if_neg h1,if_neg (by simpa using h1)]
 by_cases hx:r<f.binade
 .rw [if_pos hx];refine⟨r,0,by simp,key _ _ ?_⟩;unfold fJ;rw[if_pos (Nat.div_eq_of_lt hx)];simp
 .rw [if_neg hx,if_pos h];refine⟨_,_,rfl,key _ _ ?_⟩;unfold fJ;rw[if_neg];intro h0;have ha:=Nat.div_add_mod r f.binade;rw[h0]at ha;have:=Nat.mod_lt r hb;omega
theorem oR{x:Nat}(h:x %f.signWeight=f.infRung)(hb:f.binade<=f.infRung):f.read x=.infinity (x/f.signWeight %2==1):=by unfold Format.read;rw[h];simp only;rw[if_neg (by omega),if_neg (by omega),if_pos trivial]
theorem qo(neg:Bool)(m a b:Nat):signed neg m (a+b)=signed neg m a*(2^b:Nat):=by
 unfold signed;rw[Ka,Ka,J7,<-WC];cases neg
 .simp
 .simp [Int.neg_mul]
theorem Ff(a b:Int){c:Nat}(hc:0<c):compare (a*c) (b*c)=compare a b:=by
 have hc:(0:Int)<c:=by omega
 rcases Int.lt_trichotomy a b with h|h|h
 .rw [dv.2 h,dv];exact Int.mul_lt_mul_of_pos_right h hc
 .rw [h];rw[dW.2 rfl,dW.2 rfl]
 .rw [dw.2 h,dw];exact Int.mul_lt_mul_of_pos_right h hc
theorem Al(s t:Bool)(m k n l:Nat)(p:Int):(Datum.number s m (p+k)).order (.number t n (p+l))=some (compare (signed s m k) (signed t n l)):=by
 unfold Datum.order;simp only;have hb:min (p+(k:Int)) (p+(l:Int))=p+((min k l:Nat):Int):=by omega
 rw[hb];have t1:(p+(k:Int)-(p+((min k l:Nat):Int))).toNat=k-min k l:=by omega
 have t2:(p+(l:Int)-(p+((min k l:Nat):Int))).toNat=l-min k l:=by omega
 rw[t1,t2];have e1:=qo s m (k-min k l) (min k l);have e2:=qo t n (l-min k l) (min k l);rw[Nat.sub_add_cancel (by omega)]at e1 e2;rw[e1,e2,Ff _ _ (eP _)]
end
def pl(x:Nat):Int:=if 9223372036854775808<=x then 9223372036854775808-(x:Int)else x
abbrev D:Format:=double
theorem BJ:D.signWeight=9223372036854775808:=by decide
theorem t4:D.infRung=9218868437227405312:=by decide
theorem IK:D.binade=4503599627370496:=by decide
def ok(x:Nat):Prop:=x<18446744073709551616/\x %9223372036854775808<=9218868437227405312
theorem Ib{x y:Nat}(hx:ok x)(hy:ok y):compare (su D x) (su D y)=compare (pl x) (pl y):=by
 obtain⟨hx1,hx2⟩:=hx;obtain⟨hy1,hy2⟩:=hy;have hlt:∀a b:Nat,a<b->b<=9218868437227405312->fJ D a<fJ D b:=fun a b h1 h2=>tt D h1 (by rw[t4];exact h2);have hz:fJ D 0=0:=by decide
 have key:∀a b:Nat,a<18446744073709551616->b<18446744073709551616->a %9223372036854775808<=9218868437227405312->b %9223372036854775808<=9218868437227405312->pl a<pl b->su D a<su D b:=by
  intro a b ha hb ha2 hb2 h;unfold su;rw[BJ];unfold pl at h;by_cases h1:9223372036854775808<=a
  .rw [if_pos h1]at h;rw[if_pos (by omega)];by_cases h2:9223372036854775808<=b
   .rw [if_pos h2]at h;rw[if_pos (by omega)];have:=hlt (b %9223372036854775808) (a %9223372036854775808) (by omega) ha2;omega
   .rw [if_neg h2]at h;rw[if_neg (by omega)];by_cases h3:a %9223372036854775808=0
    .have:=hlt 0 (b %9223372036854775808) (by omega) hb2;omega
    .have:=hlt 0 (a %9223372036854775808) (by omega) ha2;omega
  .rw [if_neg h1]at h;rw[if_neg (by omega)];by_cases h2:9223372036854775808<=b
   .rw [if_pos h2]at h;omega
   .rw [if_neg h2]at h;rw[if_neg (by omega)];have:=hlt (a %9223372036854775808) (b %9223372036854775808) (by omega) hb2;omega
 rcases Int.lt_trichotomy (pl x) (pl y)with h|h|h
 .rw [dv.2 h,dv.2 (key _ _ hx1 hy1 hx2 hy2 h)]
 .rw [dW.2 h,dW];unfold pl at h;unfold su;rw[BJ];by_cases h1:9223372036854775808<=x<;>by_cases h2:9223372036854775808<=y
  .rw [if_pos h1,if_pos h2]at h;have:x=y:=by omega
   rw[this]
  .rw [if_pos h1,if_neg h2]at h;have e1:x %9223372036854775808=0:=by omega
   have e2:y %9223372036854775808=0:=by omega
   rw[e1,e2,hz];simp
  .rw [if_neg h1,if_pos h2]at h;have e1:x %9223372036854775808=0:=by omega
   have e2:y %9223372036854775808=0:=by omega
   rw[e1,e2,hz];simp
  .rw [if_neg h1,if_neg h2]at h;have:x=y:=by omega
   rw[this]
 .rw [dw.2 h,dw.2 (key _ _ hy1 hx1 hy2 hx2 h)]
theorem yZ{x:Nat}(h:x<18446744073709551616):(x/D.signWeight %2==1)=decide (9223372036854775808<=x):=by
 rw[BJ];by_cases h1:9223372036854775808<=x
 .rw [decide_eq_true h1];have:x/9223372036854775808 %2=1:=by omega
  rw[this];rfl
 .rw [decide_eq_false h1];have:x/9223372036854775808 %2=0:=by omega
  rw[this];rfl
theorem qG{x y:Nat}(hx:ok x)(hy:ok y):D.order x y=some (compare (pl x) (pl y)):=by
 have hx':=hx;have hy':=hy;obtain⟨hx1,hx2⟩:=hx;obtain⟨hy1,hy2⟩:=hy;unfold Format.order;have sx:=yZ hx1;have sy:=yZ hy1;have hbi:D.binade<=D.infRung:=by decide
 by_cases ix:x %9223372036854775808=9218868437227405312
 .have rx:=oR D (x:=x) (by rw[BJ,t4];exact ix) hbi;by_cases iy:y %9223372036854775808=9218868437227405312
  .have ry:=oR D (x:=y) (by rw[BJ,t4];exact iy) hbi;rw[rx,ry,sx,sy];unfold pl;by_cases h1:9223372036854775808<=x<;>by_cases h2:9223372036854775808<=y
   .rw [decide_eq_true h1,decide_eq_true h2,if_pos h1,if_pos h2];have:x=y:=by omega
    rw[this,dW.2 rfl];rfl
   .rw [decide_eq_true h1,decide_eq_false h2,if_pos h1,if_neg h2,dv.2 (by omega)];rfl
   .rw [decide_eq_false h1,decide_eq_true h2,if_neg h1,if_pos h2,dw.2 (by omega)];rfl
   .rw [decide_eq_false h1,decide_eq_false h2,if_neg h1,if_neg h2];have:x=y:=by omega
    rw[this,dW.2 rfl];rfl
  .obtain ⟨m,k,ry,_⟩:=tK D (x:=y) (by rw[BJ,t4];omega);rw[rx,ry,sx];show some (if decide (9223372036854775808<=x)=true then Ordering.lt else Ordering.gt)=_;unfold pl;by_cases h1:9223372036854775808<=x
   .rw [decide_eq_true h1,if_pos rfl,if_pos h1,dv.2 (by split<;>omega)]
   .rw [decide_eq_false h1,if_neg (by simp),if_neg h1,dw.2 (by split<;>omega)]
 .obtain ⟨m,k,rx,ex⟩:=tK D (x:=x) (by rw[BJ,t4];omega);by_cases iy:y %9223372036854775808=9218868437227405312
  .have ry:=oR D (x:=y) (by rw[BJ,t4];exact iy) hbi;rw[rx,ry,sy];show some (if decide (9223372036854775808<=y)=true then Ordering.gt else Ordering.lt)=_;unfold pl;by_cases h1:9223372036854775808<=y
   .rw [decide_eq_true h1,if_pos rfl,if_pos h1,dw.2 (by split<;>omega)]
   .rw [decide_eq_false h1,if_neg (by simp),if_neg h1,dv.2 (by split<;>omega)]
  .obtain ⟨n,l,ry,ey⟩:=tK D (x:=y) (by rw[BJ,t4];omega);rw[rx,ry,Al,ex,ey,Ib hx' hy']
theorem zq{x:Nat}:(D.read x).isNaN=true<->9218868437227405312<x %9223372036854775808:=by
 constructor
 .intro h;unfold Format.read at h;rw[BJ,t4,IK]at h;simp only at h;split at h
  .cases h
  split at h
  .cases h
  split at h
  .cases h
  omega
 .intro h;unfold Format.read;rw[BJ,t4,IK];simp only;rw[if_neg (by omega),if_neg (by omega),if_neg (by omega)];rfl
theorem Am{x y:Nat}(h:(D.read x).isNaN=true\/(D.read y).isNaN=true):D.order x y=none:=by
 unfold Format.order;cases hx:D.read x with
 |nan s t=>rfl
 |number s m p=>
  rw[hx]at h;cases hy:D.read y with
  |nan=>rfl
  |_=>rw[hy]at h;rcases h with h|h<;>cases h
 |infinity s=>
  rw[hx]at h;cases hy:D.read y with
  |nan=>rfl
  |_=>rw[hy]at h;rcases h with h|h<;>cases h
section
variable(f:Format)
def KP(n b:Nat):Nat:=if n=0 then 0 else min ((n.log2-f.fractionBits-b)*f.binade+rE n (n.log2-f.fractionBits-b+b)) f.infRung
theorem K8{m:Nat}(hm:m≠0)(k:Nat):(m*2^k).log2=m.log2+k:=by induction k with|zero=>simp|succ k ih=>have h0:m*2^k≠0:=Kg hm (by have:=eP k;omega);rw[Ko,<-WC,gm (m*2^k) 2,Nat.log2_two_mul h0,ih];omega
theorem KX(u b:Nat):KP f (u*2^b) b=IS f u:=by
 unfold KP IS;by_cases hu:u=0
 .rw [hu,eC,if_pos rfl,if_pos rfl]
 have h0:u*2^b≠0:=Kg hu (by have:=eP b;omega);rw[if_neg h0,if_neg hu,K8 hu];have e:u.log2+b-f.fractionBits-b=u.log2-f.fractionBits:=by omega
 rw[e,KR]
theorem KK(neg:Bool)(m b:Nat):f.nearest neg m (f.leastPlace-b)=f.word neg (KP f m b):=by
 unfold Format.nearest KP;by_cases hm:m=0
 .rw [if_pos hm,hm,if_pos rfl]
 rw[if_neg hm,if_neg hm];generalize hd:m.log2-f.fractionBits-b=d;have hlast:max (f.leastPlace-(b:Int)+(m.log2:Int)-(f.fractionBits:Int)) f.leastPlace=f.leastPlace+(d:Int):=by omega
 rw[hlast];have e1:(f.leastPlace+(d:Int)-f.leastPlace).toNat=d:=by omega
 have e2:(f.leastPlace-(b:Int)-(f.leastPlace+(d:Int))).toNat=0:=by omega
 have e3:(f.leastPlace+(d:Int)-(f.leastPlace-(b:Int))).toNat=d+b:=by omega
 show f.word neg (min ((f.leastPlace+(d:Int)-f.leastPlace).toNat*f.binade+Toward.even.cut neg (m<<<(f.leastPlace-(b:Int)-(f.leastPlace+(d:Int))).toNat) (f.leastPlace+(d:Int)-(f.leastPlace-(b:Int))).toNat) f.infRung)=_;rw[e1,e2,e3,Ld,Ka,Nat.pow_zero,Nat.mul_one]
theorem K4{n m b:Nat}(h:n<=m):KP f n b<=KP f m b:=by
 by_cases hn:n=0
 .subst hn;unfold KP;rw[if_pos rfl];exact gi _
 have hm:m≠0:=by omega
 unfold KP;rw[if_neg hn,if_neg hm]
 have hlog:n.log2<=m.log2:=by
  rcases LN m.log2 n.log2 with h1|h1
  .have a:=KM hn;have b:=@KG m;have c:2^(m.log2+1)<=2^n.log2:=Ke (by omega) h1;omega
  .exact h1
 have key:(n.log2-f.fractionBits-b)*f.binade+rE n (n.log2-f.fractionBits-b+b)<=(m.log2-f.fractionBits-b)*f.binade+rE m (m.log2-f.fractionBits-b+b):=by
  by_cases e:n.log2-f.fractionBits-b=m.log2-f.fractionBits-b
  .rw [e];exact Nat.add_le_add_left (KZ h) _
  .generalize hd:n.log2-f.fractionBits-b=d at*;generalize hd':m.log2-f.fractionBits-b=d' at*;have hlt:d<d':=by omega
   have hm2:m.log2=f.fractionBits+(d'+b):=by omega
   have h1:f.binade<=m/2^(d'+b):=by rw[Nat.le_div_iff_mul_le (eP _)];show 2^f.fractionBits*2^(d'+b)<=m;rw[<-J7,<-hm2];exact KM hm
   have h2:f.binade<=rE m (d'+b):=cZ h1 (Nat.le_add_right _ _)
   have h3:n/2^(d+b)<2*f.binade:=by
    rw[Nat.div_lt_iff_lt_mul (eP _)];show n<2*2^f.fractionBits*2^(d+b);have a:=@KG n;have b':2^(n.log2+1)<=2^(f.fractionBits+(d+b)+1):=Ke (by omega) (by omega);have c:2^(f.fractionBits+(d+b)+1)=2*2^f.fractionBits*2^(d+b):=by rw[Ko,J7,gm _ 2,<-WC]
    omega
   have h4:rE n (d+b)<=2*f.binade:=by unfold rE;split<;>omega
   obtain⟨c,rfl⟩:∃c,d'=d+1+c:=⟨d'-(d+1),by omega⟩
   have h5:(d+1+c)*f.binade=d*f.binade+f.binade+c*f.binade:=by rw[bf,bf,Nat.one_mul]
   have h6:0<=c*f.binade:=gi _;omega
 omega
end
abbrev Kr:Nat:=4607182418800017408
theorem KU(f:Format)(r:Nat):f.word false r=r:=rfl
def s7:Nat:=1074
theorem UO:s7=1074:=rfl
def Lf:Nat:=2^s7
theorem K2:Lf=2^s7:=rfl
theorem Lm:0<Lf:=eP s7
theorem Ky:fJ D Kr=Lf:=by decide+kernel
theorem Lc:D.leastPlace=-1074:=by decide
theorem K3{f:Format}{x:Nat}(h:x<=f.infRung)(h0:0<x):0<fJ f x:=by have:=tt f h0 h;omega
theorem KW{n:Nat}(h:0<n):1<=IS D n:=by
 have:=Kv D (show 1<=n from h);have e:IS D 1=1:=oQ D (x:=1) (by decide);have e':fJ D 1=1:=by decide
 omega
theorem Lh{s:Nat}(h:s<=Kr):D.sub Kr s=some (IS D (Lf-fJ D s)):=by
 have hi:s<D.infRung:=by rw[t4];unfold Kr at h;omega
 have ho:Kr<D.infRung:=by rw[t4];unfold Kr;omega
 have hs:D.infRung<=D.signWeight:=by decide
 obtain⟨m,k,e1,e2⟩:=Kc D ho hs;obtain⟨n,l,e3,e4⟩:=Kc D hi hs;have hu:=wX D h;rw[Ky]at e2 hu;unfold Format.sub;rw[e1,e3];simp only[Datum.opposite,Datum.sum];have hb:min (D.leastPlace+(k:Int)) (D.leastPlace+(l:Int))=D.leastPlace+((min k l:Nat):Int):=by omega
 rw[hb];have t1:(D.leastPlace+(k:Int)-(D.leastPlace+((min k l:Nat):Int))).toNat=k-min k l:=by omega
 have t2:(D.leastPlace+(l:Int)-(D.leastPlace+((min k l:Nat):Int))).toNat=l-min k l:=by omega
 rw[t1,t2];simp only[signed,Bool.not_false,Bool.false_eq_true,if_false,if_true,Ka];generalize hA:m*2^(k-min k l)=A;generalize hB:n*2^(l-min k l)=B;have eA:A*2^min k l=Lf:=by rw[<-hA,WC,<-J7,<-e2];congr 2;omega
 have eB:B*2^min k l=fJ D s:=by rw[<-hB,WC,<-J7,<-e4];congr 2;omega
 have hle:B<=A:=by rw[<-eA,<-eB]at hu;exact Ki hu (eP _)
 have e5:(A:Int)+-(B:Int)=((A-B:Nat):Int):=by omega
 rw[e5,Int.natAbs_natCast]
 have hneg:(if((A-B:Nat):Int)=0 then false&&true else decide (((A-B:Nat):Int)<0))=false:=by
  split
  .rfl
  .exact decide_eq_false (by omega)
 rw[hneg,Option.map_some];show some (D.nearest false _ _)=_;rw[Kx,Nat.sub_mul,eA,eB,KU]
theorem KV{s:Nat}:IS D (Lf-fJ D s)<=Kr:=by have h:=Kv D (show Lf-fJ D s<=fJ D Kr by rw[Ky];omega);rwa[oQ D (by decide)]at h
theorem KO{s:Nat}(h:s<Kr):1<=IS D (Lf-fJ D s):=by refine KW ?_;have:=tt D h (by decide);rw[Ky]at this;omega
theorem Lr{x s:Nat}(hx:x<D.infRung)(h:s<=Kr):∃z,D.mul x s=some z/\z<=x:=by
 have hE:=UO;have hi:s<D.infRung:=by rw[t4];unfold Kr at h;omega
 have hs:D.infRung<=D.signWeight:=by decide
 obtain⟨m,k,e1,e2⟩:=Kc D hx hs;obtain⟨n,l,e3,e4⟩:=Kc D hi hs;have hu:=wX D h;rw[Ky]at hu;unfold Format.mul;rw[e1,e3];refine⟨_,rfl,?_⟩;show D.nearest false (m*n) (D.leastPlace+(k:Int)+(D.leastPlace+(l:Int)))<=x
 have hmul:m*n*2^(k+l)<=fJ D x*Lf:=by
  calc m*n*2^(k+l)=(m*2^k)*(n*2^l):=by rw[J7];simp only[WC,Nat.mul_left_comm]
   _=fJ D x*fJ D s:=by rw[e2,e4]
   _<=_:=Nat.mul_le_mul_left _ hu
 by_cases hk:s7<=k+l
 .have hp:D.leastPlace+(k:Int)+(D.leastPlace+(l:Int))=D.leastPlace+((k+l-s7:Nat):Int):=by rw[Lc];omega
  rw[hp,Kx,KU];refine cZ (Kv D (m:=fJ D x) ?_) (Kp (oQ D hx));have e:m*n*2^(k+l)=m*n*2^(k+l-s7)*Lf:=by rw[K2,WC (m*n),<-J7,Nat.sub_add_cancel hk]
  rw[e]at hmul;exact Ki hmul Lm
 .have hp:D.leastPlace+(k:Int)+(D.leastPlace+(l:Int))=D.leastPlace-((s7-(k+l):Nat):Int):=by rw[Lc];omega
  rw[hp,KK,KU];have e0:=KX D (fJ D x) (s7-(k+l));rw[oQ D hx]at e0;refine cZ (K4 D ?_) (Kp e0);have e:fJ D x*Lf=fJ D x*2^(s7-(k+l))*2^(k+l):=by rw[K2,WC (fJ D x),<-J7,Nat.sub_add_cancel (by omega)]
  rw[e]at hmul;exact Ki hmul (eP _)
theorem Li{s:Nat}(h0:0<s)(h:s<=Kr):D.mul D.infRung s=some D.infRung:=by
 have hi:s<D.infRung:=by rw[t4];unfold Kr at h;omega
 have hs:D.infRung<=D.signWeight:=by decide
 obtain⟨n,l,e3,e4⟩:=Kc D hi hs;have hn:n≠0:=by intro hn;rw[hn,eC]at e4;have:=K3 (f:=D) (Kj hi) h0;omega
 unfold Format.mul;rw[Kw D (by decide) (by decide),e3];simp only[Datum.product];rw[if_neg hn];rfl
theorem y5(f:Format)(m:Nat)(p:Int):f.nearest false m p<=f.infRung:=by
 unfold Format.nearest;simp only;split
 .exact gi _
 .exact Nat.min_le_right _ _
theorem M2(d m n:Nat)(i j:Int)(hn:n≠0):∃q p,Datum.quotient d (.number false m i) (.number false n j)=some (.number false q p):=by unfold Datum.quotient;simp only;rw[if_neg hn];exact⟨_,_,rfl⟩
theorem UP{x y:Nat}(hx:x<D.infRung)(hy:y<D.infRung)(h0:0<y):∃z,D.div x y=some z/\z<=D.infRung:=by
 have hs:D.infRung<=D.signWeight:=by decide
 obtain⟨m,k,e1,e2⟩:=Kc D hx hs;obtain⟨n,l,e3,e4⟩:=Kc D hy hs;have hn:n≠0:=by intro hn;rw[hn,eC]at e4;have:=K3 (f:=D) (Kj hy) h0;omega
 obtain⟨q,p,e⟩:=M2 (D.fractionBits+2) m n (D.leastPlace+(k:Int)) (D.leastPlace+(l:Int)) hn;have hd:D.div x y=(Datum.quotient (D.fractionBits+2) (D.read x) (D.read y)).map D.write:=rfl;rw[hd,e1,e3,e];exact⟨D.nearest false q p,rfl,y5 D q p⟩
theorem A2:IS D (4611686018427387904*Lf)<D.infRung:=by decide+kernel
theorem sw{n:Int}(h0:0<=n)(h:n<=4611686018427387904):Go.FloatKind.nearest .f64 n<D.infRung/\(0<n->0<Go.FloatKind.nearest .f64 n):=by
 have e:Go.FloatKind.nearest .f64 n=IS D (n.natAbs*Lf):=by
  show D.nearest (decide (n<0)) n.natAbs 0=_;rw[decide_eq_false (by omega)];have:(0:Int)=D.leastPlace+(s7:Nat):=by rw[Lc];rfl
  rw[this,Kx,KU,K2]
 rw[e];constructor
 .refine Nat.lt_of_le_of_lt (Kv D (Nat.mul_le_mul_right (Lf) (show n.natAbs<=4611686018427387904 by omega))) ?_;exact A2
 .intro hp;exact KW (Nat.mul_pos (by omega) Lm)
end Go.Fl
