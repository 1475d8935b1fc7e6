/- Sums of floats that are not negative: exact numbers of the least units, rounded to a rung; rising, and not below what is added to. Conditions: as stated. -/
import Ieee.Arith
open Nat renaming div_add_mod->ie,exists_eq_succ_of_ne_zero->gj,le_add_right->ff,mul_comm->gm,mul_le_mul_left->dY,mul_le_mul_right->aw,two_pow_pos->eP
namespace Go.Fl
open Ieee
def rE(n d:Nat):Nat:=n/2^d+(if 2^d<2*(n %2^d)\/2^d=2*(n %2^d)/\n/2^d %2=1 then 1 else 0)
theorem Ew(n:Nat):rE n 0=n:=by unfold rE;rw[Nat.pow_zero,Nat.div_one,Nat.mod_one,if_neg (by omega)];rfl
theorem OS{m k:Nat}:rE (m*2^k) k=m:=by unfold rE;have hp:0<2^k:=eP k;rw[Nat.mul_div_cancel _ hp,Nat.mul_mod_left,if_neg (by omega)];rfl
section
variable(f:Format)
def fJ(x:Nat):Nat:=if x/f.binade=0 then x else(f.binade+x %f.binade)*2^(x/f.binade-1)
def IS(n:Nat):Nat:=if n=0 then 0 else min ((n.log2-f.fractionBits)*f.binade+rE n (n.log2-f.fractionBits)) f.infRung
theorem NE:0<f.binade:=eP _
theorem wX{x y:Nat}(h:x<=y):fJ f x<=fJ f y:=by
 have hb:=NE f;unfold fJ;have hq:x/f.binade<=y/f.binade:=Nat.div_le_div_right h;have ha:=ie x f.binade;have hc:=ie y f.binade;have hr:=Nat.mod_lt x hb;by_cases e:x/f.binade=y/f.binade
 .rw [e]at ha|-;split
  .exact h
  .exact aw _ (by omega)
 .split
  .rename_i h0;rw[if_neg (fun q=>e (h0.trans q.symm))];have:x<f.binade:=by rw[h0]at ha;omega
   have:f.binade<=f.binade+y %f.binade:=ff _ _;have p:=eP (y/f.binade-1)
   calc x<=f.binade+y %f.binade:=by omega
    _=(f.binade+y %f.binade)*1:=(Nat.mul_one _).symm
    _<=_:=dY _ p
  .rename_i h0;have hy0:¬y/f.binade=0:=fun q=>h0 (Nat.le_zero.1 (q▸hq));rw[if_neg hy0];obtain⟨q,hq1⟩:=gj h0;have hq1:x/f.binade=q+1:=hq1;obtain⟨c,hq2⟩:∃c,y/f.binade=q+2+c:=by obtain⟨c,hc2⟩:=Nat.exists_eq_add_of_lt (Nat.lt_of_le_of_ne hq e);exact⟨c,by rw[hc2,hq1];omega⟩
   rw[hq1,hq2];have e1:q+1-1=q:=by omega
   have e2:q+2+c-1=q+(1+c):=by omega
   rw[e1,e2,Nat.pow_add];have p:=eP c
   calc (f.binade+x %f.binade)*2^q<=(2*f.binade)*2^q:=aw _ (by omega)
    _=f.binade*(2^q*2):=by rw[gm 2,Nat.mul_assoc,gm 2]
    _<=f.binade*(2^q*2^(1+c)):=dY _ (dY _ (by rw[Nat.pow_add,Nat.pow_one];omega))
    _<=_:=aw _ (ff _ _)
theorem oQ{x:Nat}(h:x<f.infRung):IS f (fJ f x)=x:=by
 have hb:=NE f;have ha:=ie x f.binade;have hr:=Nat.mod_lt x hb;unfold fJ;split
 .rename_i h0;have hx:x<f.binade:=by rw[h0]at ha;omega
  unfold IS;by_cases hx0:x=0
  .rw [if_pos hx0,hx0]
  .rw [if_neg hx0];have hl:x.log2<f.fractionBits:=(Nat.log2_lt hx0).2 hx;have:x.log2-f.fractionBits=0:=by omega
   rw[this,Nat.zero_mul,Nat.zero_add,Ew];omega
 .rename_i h0;obtain⟨q,hq⟩:=gj h0;have hq:x/f.binade=q+1:=hq;rw[hq]at ha|-;rw[Nat.add_sub_cancel];have hne:(f.binade+x %f.binade)*2^q≠0:=Nat.mul_ne_zero (by omega) (by have:=eP q;omega);unfold IS;rw[if_neg hne]
  have hl:((f.binade+x %f.binade)*2^q).log2=f.fractionBits+q:=by
   rw[Nat.log2_eq_iff hne];constructor
   .rw [Nat.pow_add];exact aw _ (ff _ _)
   .rw [Nat.pow_succ,Nat.pow_add];have:(f.binade+x %f.binade)*2^q<(2*f.binade)*2^q:=Nat.mul_lt_mul_of_pos_right (by omega) (eP q);have e:2^f.fractionBits*2^q*2=(2*f.binade)*2^q:=by show 2^f.fractionBits*2^q*2=(2*2^f.fractionBits)*2^q;rw[gm 2,Nat.mul_assoc,Nat.mul_assoc,gm 2]
    omega
  rw[hl,Nat.add_sub_cancel_left,OS];have e:(q+1)*f.binade=q*f.binade+f.binade:=by rw[Nat.add_mul,Nat.one_mul]
  rw[gm f.binade]at ha;omega
end
section
variable{f:Format}
end
end Go.Fl
