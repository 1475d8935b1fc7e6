/- How floats stand to each other, by their bits; differences, products and quotients that are not negative. Conditions: as stated. -/
import Derived.Test.YtoekkpmeeclpeaaGreatFlo
import GoSem.Core.Float
open Int renaming compare_eq_eq->fK,compare_eq_gt->e_,compare_eq_lt->e9,lt_trichotomy->jC
open Nat renaming lt_or_ge->eZ,pow_add->f_,shiftLeft_eq->l_,two_pow_pos->dm
namespace Go.Fl
open Ieee
section
variable(f:Format)
theorem CO{x y:Nat}(h:x<y)(hy:y<=f.infRung):gH f x<gH f y:=by
 have hx:x<f.infRung:=by omega
 have hle:=vE f (Nat.le_of_lt h);rcases eZ y f.infRung with h1|h1
 .rcases eZ (gH f x) (gH f y)with h2|h2
  .exact h2
  .have e:gH f x=gH f y:=by omega
   have:=uM f hx;rw[e,uM f h1]at this;omega
 .obtain rfl:y=f.infRung:=by omega
  rcases eZ (gH f x) (gH f f.infRung)with h2|h2
  .exact h2
  .exfalso;have e:gH f x=gH f f.infRung:=by omega
   have hr:=uM f hx;rw[e]at hr;have hb:=xk f;have hm:f.infRung %f.binade=0:=Nat.mul_mod_left _ _;have hd:f.infRung/f.binade=2^f.exponentBits-1:=Nat.mul_div_cancel _ hb;have hpos:f.infRung≠0:=by omega
   have h0:¬2^f.exponentBits-1=0:=by intro h0;apply hpos;show(2^f.exponentBits-1)*f.binade=0;rw[h0,Nat.zero_mul]
   obtain⟨q,hq⟩:=Nat.exists_eq_succ_of_ne_zero h0;have hq:2^f.exponentBits-1=q+1:=hq;have hu:gH f f.infRung=f.binade*2^q:=by unfold gH;rw[hd,hm,if_neg h0,hq,Nat.add_zero,Nat.add_sub_cancel]
   have hne:f.binade*2^q≠0:=Nat.mul_ne_zero (by omega) (by have:=dm q;omega);rw[hu]at hr;unfold G9 at hr;have hl:(f.binade*2^q).log2=f.fractionBits+q:=by show(2^f.fractionBits*2^q).log2=_;rw[<-f_,Nat.log2_two_pow]
   rw[if_neg hne,hl,Nat.add_sub_cancel_left,Hc]at hr;have e2:f.infRung=q*f.binade+f.binade:=by show(2^f.exponentBits-1)*f.binade=_;rw[hq,Nat.add_mul,Nat.one_mul]
   rw[<-e2,Nat.min_self]at hr;omega
def su(x:Nat):Int:=if x/f.signWeight %2=1 then-(gH f (x %f.signWeight):Int)else gH f (x %f.signWeight)
theorem C7{x:Nat}(h:x %f.signWeight<f.infRung):∃(m k:Nat),f.read x=.number (x/f.signWeight %2==1) m (f.leastPlace+k)/\signed (x/f.signWeight %2==1) m k=su f x:=by
 have hb:=xk f;unfold su;generalize hs:x/f.signWeight %2=s;generalize hr:x %f.signWeight=r at h
 have hR:f.read x=if r<f.binade then .number (s==1) r f.leastPlace
   else if r<f.infRung then .number (s==1) (f.binade+r %f.binade) (f.leastPlace+(r/f.binade-1:Nat))
   else if r=f.infRung then .infinity (s==1)else .nan (s==1) (r-f.infRung):=by
  unfold Format.read;rw[hs,hr]
 rw[hR]
 have key:∀m k,m*2^k=gH f r->signed (s==1) m k=if s=1 then-(gH f r:Int)else gH f r:=by
  intro m k e;unfold signed;rw[l_,e];by_cases h1:s=1
  .simp [h1]
  .rw [if_neg h1,if_neg (by simpa using h1)]
 by_cases hx:r<f.binade
 .rw [if_pos hx];refine⟨r,0,by simp,key _ _ ?_⟩;unfold gH;rw[if_pos (Nat.div_eq_of_lt hx)];simp
 .rw [if_neg hx,if_pos h];refine⟨_,_,rfl,key _ _ ?_⟩;unfold gH;rw[if_neg];intro h0;have ha:=Nat.div_add_mod r f.binade;rw[h0]at ha;have:=Nat.mod_lt r hb;omega
theorem xO{x:Nat}(h:x %f.signWeight=f.infRung)(hb:f.binade<=f.infRung):f.read x=.infinity (x/f.signWeight %2==1):=by unfold Format.read;rw[h];simp only;rw[if_neg (by omega),if_neg (by omega),if_pos trivial]
theorem zT(neg:Bool)(m a b:Nat):signed neg m (a+b)=signed neg m a*(2^b:Nat):=by
 unfold signed;rw[l_,l_,f_,<-Nat.mul_assoc];cases neg
 .simp
 .simp [Int.neg_mul]
theorem QJ(a b:Int){c:Nat}(hc:0<c):compare (a*c) (b*c)=compare a b:=by
 have hc:(0:Int)<c:=by omega
 rcases jC a b with h|h|h
 .rw [e9.2 h,e9];exact Int.mul_lt_mul_of_pos_right h hc
 .rw [h];rw[fK.2 rfl,fK.2 rfl]
 .rw [e_.2 h,e_];exact Int.mul_lt_mul_of_pos_right h hc
theorem Ks(s t:Bool)(m k n l:Nat)(p:Int):(Datum.number s m (p+k)).order (.number t n (p+l))=some (compare (signed s m k) (signed t n l)):=by
 unfold Datum.order;simp only;have hb:min (p+(k:Int)) (p+(l:Int))=p+((min k l:Nat):Int):=by omega
 rw[hb];have t1:(p+(k:Int)-(p+((min k l:Nat):Int))).toNat=k-min k l:=by omega
 have t2:(p+(l:Int)-(p+((min k l:Nat):Int))).toNat=l-min k l:=by omega
 rw[t1,t2];have e1:=zT s m (k-min k l) (min k l);have e2:=zT t n (l-min k l) (min k l);rw[Nat.sub_add_cancel (by omega)]at e1 e2;rw[e1,e2,QJ _ _ (dm _)]
end
def pl(x:Nat):Int:=if 9223372036854775808<=x then 9223372036854775808-(x:Int)else x
abbrev D:Format:=double
theorem Ma:D.signWeight=9223372036854775808:=by decide
theorem ru:D.infRung=9218868437227405312:=by decide
theorem Vn:D.binade=4503599627370496:=by decide
def ok(x:Nat):Prop:=x<18446744073709551616/\x %9223372036854775808<=9218868437227405312
theorem Ui{x y:Nat}(hx:ok x)(hy:ok y):compare (su D x) (su D y)=compare (pl x) (pl y):=by
 obtain⟨hx1,hx2⟩:=hx;obtain⟨hy1,hy2⟩:=hy;have hlt:∀a b:Nat,a<b->b<=9218868437227405312->gH D a<gH D b:=fun a b h1 h2=>CO D h1 (by rw[ru];exact h2);have hz:gH D 0=0:=by decide
 have key:∀a b:Nat,a<18446744073709551616->b<18446744073709551616->a %9223372036854775808<=9218868437227405312->b %9223372036854775808<=9218868437227405312->pl a<pl b->su D a<su D b:=by
  intro a b ha hb ha2 hb2 h;unfold su;rw[Ma];unfold pl at h;by_cases h1:9223372036854775808<=a
  .rw [if_pos h1]at h;rw[if_pos (by omega)];by_cases h2:9223372036854775808<=b
   .rw [if_pos h2]at h;rw[if_pos (by omega)];have:=hlt (b %9223372036854775808) (a %9223372036854775808) (by omega) ha2;omega
   .rw [if_neg h2]at h;rw[if_neg (by omega)];by_cases h3:a %9223372036854775808=0
    .have:=hlt 0 (b %9223372036854775808) (by omega) hb2;omega
    .have:=hlt 0 (a %9223372036854775808) (by omega) ha2;omega
  .rw [if_neg h1]at h;rw[if_neg (by omega)];by_cases h2:9223372036854775808<=b
   .rw [if_pos h2]at h;omega
   .rw [if_neg h2]at h;rw[if_neg (by omega)];have:=hlt (a %9223372036854775808) (b %9223372036854775808) (by omega) hb2;omega
 rcases jC (pl x) (pl y)with h|h|h
 .rw [e9.2 h,e9.2 (key _ _ hx1 hy1 hx2 hy2 h)]
 .rw [fK.2 h,fK];unfold pl at h;unfold su;rw[Ma];by_cases h1:9223372036854775808<=x<;>by_cases h2:9223372036854775808<=y
  .rw [if_pos h1,if_pos h2]at h;have:x=y:=by omega
   rw[this]
  .rw [if_pos h1,if_neg h2]at h;have e1:x %9223372036854775808=0:=by omega
   have e2:y %9223372036854775808=0:=by omega
   rw[e1,e2,hz];simp
  .rw [if_neg h1,if_pos h2]at h;have e1:x %9223372036854775808=0:=by omega
   have e2:y %9223372036854775808=0:=by omega
   rw[e1,e2,hz];simp
  .rw [if_neg h1,if_neg h2]at h;have:x=y:=by omega
   rw[this]
 .rw [e_.2 h,e_.2 (key _ _ hy1 hx1 hy2 hx2 h)]
theorem II{x:Nat}(h:x<18446744073709551616):(x/D.signWeight %2==1)=decide (9223372036854775808<=x):=by
 rw[Ma];by_cases h1:9223372036854775808<=x
 .rw [decide_eq_true h1];have:x/9223372036854775808 %2=1:=by omega
  rw[this];rfl
 .rw [decide_eq_false h1];have:x/9223372036854775808 %2=0:=by omega
  rw[this];rfl
theorem wI{x y:Nat}(hx:ok x)(hy:ok y):D.order x y=some (compare (pl x) (pl y)):=by
 have hx':=hx;have hy':=hy;obtain⟨hx1,hx2⟩:=hx;obtain⟨hy1,hy2⟩:=hy;unfold Format.order;have sx:=II hx1;have sy:=II hy1;have hbi:D.binade<=D.infRung:=by decide
 by_cases ix:x %9223372036854775808=9218868437227405312
 .have rx:=xO D (x:=x) (by rw[Ma,ru];exact ix) hbi;by_cases iy:y %9223372036854775808=9218868437227405312
  .have ry:=xO D (x:=y) (by rw[Ma,ru];exact iy) hbi;rw[rx,ry,sx,sy];unfold pl;by_cases h1:9223372036854775808<=x<;>by_cases h2:9223372036854775808<=y
   .rw [decide_eq_true h1,decide_eq_true h2,if_pos h1,if_pos h2];have:x=y:=by omega
    rw[this,fK.2 rfl];rfl
   .rw [decide_eq_true h1,decide_eq_false h2,if_pos h1,if_neg h2,e9.2 (by omega)];rfl
   .rw [decide_eq_false h1,decide_eq_true h2,if_neg h1,if_pos h2,e_.2 (by omega)];rfl
   .rw [decide_eq_false h1,decide_eq_false h2,if_neg h1,if_neg h2];have:x=y:=by omega
    rw[this,fK.2 rfl];rfl
  .obtain ⟨m,k,ry,_⟩:=C7 D (x:=y) (by rw[Ma,ru];omega);rw[rx,ry,sx];show some (if decide (9223372036854775808<=x)=true then Ordering.lt else Ordering.gt)=_;unfold pl;by_cases h1:9223372036854775808<=x
   .rw [decide_eq_true h1,if_pos rfl,if_pos h1,e9.2 (by split<;>omega)]
   .rw [decide_eq_false h1,if_neg (by simp),if_neg h1,e_.2 (by split<;>omega)]
 .obtain ⟨m,k,rx,ex⟩:=C7 D (x:=x) (by rw[Ma,ru];omega);by_cases iy:y %9223372036854775808=9218868437227405312
  .have ry:=xO D (x:=y) (by rw[Ma,ru];exact iy) hbi;rw[rx,ry,sy];show some (if decide (9223372036854775808<=y)=true then Ordering.gt else Ordering.lt)=_;unfold pl;by_cases h1:9223372036854775808<=y
   .rw [decide_eq_true h1,if_pos rfl,if_pos h1,e_.2 (by split<;>omega)]
   .rw [decide_eq_false h1,if_neg (by simp),if_neg h1,e9.2 (by split<;>omega)]
  .obtain ⟨n,l,ry,ey⟩:=C7 D (x:=y) (by rw[Ma,ru];omega);rw[rx,ry,Ks,ex,ey,Ui hx' hy']
theorem I8{x:Nat}:(D.read x).isNaN=true<->9218868437227405312<x %9223372036854775808:=by
 constructor
 .intro h;unfold Format.read at h;rw[Ma,ru,Vn]at h;simp only at h;split at h
  .cases h
  split at h
  .cases h
  split at h
  .cases h
  omega
 .intro h;unfold Format.read;rw[Ma,ru,Vn];simp only;rw[if_neg (by omega),if_neg (by omega),if_neg (by omega)];rfl
theorem Kt{x y:Nat}(h:(D.read x).isNaN=true\/(D.read y).isNaN=true):D.order x y=none:=by
 unfold Format.order;cases hx:D.read x with
 |nan s t=>rfl
 |number s m p=>
  rw[hx]at h;cases hy:D.read y with
  |nan=>rfl
  |_=>rw[hy]at h;rcases h with h|h<;>cases h
 |infinity s=>
  rw[hx]at h;cases hy:D.read y with
  |nan=>rfl
  |_=>rw[hy]at h;rcases h with h|h<;>cases h
end Go.Fl
