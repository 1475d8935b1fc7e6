/- What functions of the program compute, at last: loops as they are, bits as they are. Conditions: none of its own. -/
import Derived.Test.YtoekkpmeeclpeaaGreatSb
import Ieee.Arith
import GoSem.Core.Float
import Derived.Test.YtoekkpmeeclpeaaGreatVh
open Int renaming compare_eq_eq->iC,compare_eq_gt->gU,compare_eq_lt->gT,lt_trichotomy->mU
open List renaming filter_append->ic,filter_cons->dN,length_cons->di,mem_append->aK,mem_cons->aO,mem_cons_of_mem->bp,mem_cons_self->aL,mem_filter->dy,mem_singleton->aB,pairwise_append->ki,pairwise_cons->dW
open List.cons renaming inj->aE
open Nat renaming add_mul->h_,add_sub_cancel->tP,add_sub_cancel_left->og,div_add_mod->kL,div_eq_of_lt->oe,exists_eq_succ_of_ne_zero->oB,le_add_right->lI,le_refl->aw,lt_or_ge->f_,mod_eq_of_lt->rk,mul_assoc->iY,mul_comm->ll,mul_le_mul_left->jh,mul_le_mul_right->du,pow_add->iQ,pow_le_pow_right->dq,pow_succ->mR,shiftLeft_eq->rj,two_pow_pos->fP,zero_le->cG,zero_mul->jc
open Option renaming bind_some->aa
open Go.Ev Go
noncomputable section
namespace Go.Proofs.YtoekkpmeeclpeaaGreat.S
instance Bl:Bx:=⟨lpL,false⟩
theorem dD{α β:Type}{f:α->Option (α⊕β)}{a a':α}(h:f a=some (.inl a')):aJ f a=aJ f a':=Ev.dD h
theorem bW{α β:Type}{f:α->Option (α⊕β)}{a:α}{b:β}(h:f a=some (.inr b)):aJ f a=some b:=Ev.bW h
theorem Fg:CL=Qs:=Ev.Fg
theorem oV:fQ=sF:=Ev.oV
theorem p_:pT=qN:=Ev.p_
end Go.Proofs.YtoekkpmeeclpeaaGreat.S
namespace Go.Fl
open Ieee
def rE(n d:Nat):Nat:=n/2^d+(if 2^d<2*(n %2^d)\/2^d=2*(n %2^d)/\n/2^d %2=1 then 1 else 0)
theorem RX{n:Nat}:n<2^(n.log2+1):=Nat.lt_log2_self
theorem Za{n:Nat}(h:n≠0):2^n.log2<=n:=Nat.log2_self_le h
theorem agp(neg:Bool)(n d:Nat):Toward.even.cut neg n d=rE n d:=by
 show n/1<<<min d (n.log2+2)+(decide (1<<<min d (n.log2+2)<2*(n %1<<<min d (n.log2+2)))||(1<<<min d (n.log2+2)==2*(n %1<<<min d (n.log2+2))&&n/1<<<min d (n.log2+2) %2==1)).toNat=_;unfold rE;by_cases hd:d<=n.log2+2
 .rw [Nat.min_eq_left hd,Nat.one_shiftLeft];congr 1;by_cases h1:2^d<2*(n %2^d)
  .simp [h1]
  .by_cases h2:2^d=2*(n %2^d)/\n/2^d %2=1
   .rw [if_pos (.inr h2)];have e1:(2^d==2*(n %2^d))=true:=beq_iff_eq.2 h2.1;have e2:(n/2^d %2==1)=true:=beq_iff_eq.2 h2.2;simp only[e1,e2,Bool.and_true,Bool.or_true];rfl
   .rw [if_neg (fun h=>h.elim h1 h2)]
    have e1:(2^d==2*(n %2^d)&&n/2^d %2==1)=false:=by
     rw[Bool.and_eq_false_iff];by_cases h3:2^d=2*(n %2^d)
     .right;rw[beq_eq_false_iff_ne];exact fun h=>h2 ⟨h3,h⟩
     .left;rw[beq_eq_false_iff_ne];exact h3
    simp only[decide_eq_false h1,Bool.false_or,e1];rfl
 .have hd:n.log2+2<d:=by omega
  have hn:=@RX n;have e0:2^(n.log2+2)=2*2^(n.log2+1):=by rw[mR 2 (n.log2+1)];omega
  have e1:2^(n.log2+2)<=2^d:=dq (by omega) (by omega);rw[Nat.min_eq_right (by omega),Nat.one_shiftLeft,oe (show n<2^(n.log2+2)by omega),rk (show n<2^(n.log2+2)by omega),oe (show n<2^d by omega),rk (show n<2^d by omega)];rw[if_neg (by omega)];have h1:¬2^(n.log2+2)<2*n:=by omega
  have h2:(2^(n.log2+2)==2*n)=false:=beq_false_of_ne (by omega);simp only[decide_eq_false h1,h2,Bool.false_and,Bool.or_false];rfl
theorem S5(n:Nat):rE n 0=n:=by unfold rE;rw[Nat.pow_zero,Nat.div_one,Nat.mod_one,if_neg (by omega)];rfl
theorem abE{n m d:Nat}(h:n<=m):rE n d<=rE m d:=by
 unfold rE;have hp:0<2^d:=fP d;have h1:n/2^d<=m/2^d:=Nat.div_le_div_right h;by_cases e:n/2^d=m/2^d
 .have h2:n %2^d<=m %2^d:=by have a:=kL n (2^d);have b:=kL m (2^d);rw[e]at a;omega
  rw[e];split
  .rename_i hc
   rw[if_pos (by
    rcases hc with hc|hc
    .exact .inl (by omega)
    .by_cases h3:n %2^d=m %2^d
     .rw [<-h3];exact .inr hc
     .exact .inl (by omega))]
   exact aw _
  .omega
 .split<;>split<;>omega
theorem Re{m k:Nat}:rE (m*2^k) k=m:=by unfold rE;have hp:0<2^k:=fP k;rw[Nat.mul_div_cancel _ hp,Nat.mul_mod_left,if_neg (by omega)];rfl
theorem Yf{m k d:Nat}:rE (m*2^k) (d+k)=rE m d:=by
 unfold rE;have hp:0<2^k:=fP k;have e1:m*2^k/2^(d+k)=m/2^d:=by rw[iQ,ll (2^d),<-Nat.div_div_eq_div_mul,Nat.mul_div_cancel _ hp]
 have e2:m*2^k %2^(d+k)=m %2^d*2^k:=by rw[iQ,Nat.mul_mod_mul_right]
 rw[e1,e2];have e3:2^(d+k)=2^d*2^k:=iQ 2 d k;have c1:2^(d+k)<2*(m %2^d*2^k)<->2^d<2*(m %2^d):=by rw[e3,<-iY];exact Nat.mul_lt_mul_right hp
 have c2:2^(d+k)=2*(m %2^d*2^k)<->2^d=2*(m %2^d):=by rw[e3,<-iY];exact Nat.mul_left_inj (by omega)
 simp only[c1,c2]
section
variable(f:Format)
def jQ(x:Nat):Nat:=if x/f.binade=0 then x else(f.binade+x %f.binade)*2^(x/f.binade-1)
def Q_(n:Nat):Nat:=if n=0 then 0 else min ((n.log2-f.fractionBits)*f.binade+rE n (n.log2-f.fractionBits)) f.infRung
theorem Gy:0<f.binade:=fP _
theorem Ps(neg:Bool)(m:Nat)(k:Nat):f.nearest neg m (f.leastPlace+k)=f.word neg (Q_ f (m*2^k)):=by
 unfold Format.nearest Q_;by_cases hm:m=0
 .rw [if_pos hm,hm,jc,if_pos rfl]
 have hmk:m*2^k≠0:=Nat.mul_ne_zero hm (by have:=fP k;omega);rw[if_neg hm,if_neg hmk];have hl:(m*2^k).log2=m.log2+k:=by induction k with|zero=>simp|succ k ih=>have h0:m*2^k≠0:=Nat.mul_ne_zero hm (by have:=fP k;omega);rw[mR,<-iY,ll (m*2^k) 2,Nat.log2_two_mul h0,ih h0];omega
 rw[hl];generalize hd:m.log2+k-f.fractionBits=d;have hlast:max (f.leastPlace+(k:Int)+(m.log2:Int)-(f.fractionBits:Int)) f.leastPlace=f.leastPlace+(d:Int):=by omega
 rw[hlast];have e1:(f.leastPlace+(d:Int)-f.leastPlace).toNat=d:=by omega
 have e2:(f.leastPlace+(k:Int)-(f.leastPlace+(d:Int))).toNat=k-d:=by omega
 have e3:(f.leastPlace+(d:Int)-(f.leastPlace+(k:Int))).toNat=d-k:=by omega
 show f.word neg (min ((f.leastPlace+(d:Int)-f.leastPlace).toNat*f.binade+Toward.even.cut neg (m<<<(f.leastPlace+(k:Int)-(f.leastPlace+(d:Int))).toNat) (f.leastPlace+(d:Int)-(f.leastPlace+(k:Int))).toNat) f.infRung)=_;rw[e1,e2,e3,agp,rj];congr 3;by_cases hkd:d<=k
 .have:d-k=0:=by omega
  rw[this,S5];have:m*2^k=m*2^(k-d)*2^d:=by rw[iY,<-iQ];congr 2;omega
  rw[this,Re]
 .have h1:k-d=0:=by omega
  rw[h1,Nat.pow_zero,Nat.mul_one];obtain⟨c,rfl⟩:∃c,d=c+k:=⟨d-k,by omega⟩
  rw[tP,Yf]
theorem afu(n:Nat):Q_ f n<=f.infRung:=by
 unfold Q_;split
 .exact cG _
 .exact Nat.min_le_right _ _
theorem OI{n m:Nat}(h:n<=m):Q_ f n<=Q_ f m:=by
 by_cases hn:n=0
 .subst hn;unfold Q_;rw[if_pos rfl];exact cG _
 have hm:m≠0:=by omega
 unfold Q_;rw[if_neg hn,if_neg hm]
 have hlog:n.log2<=m.log2:=by
  rcases f_ m.log2 n.log2 with h1|h1
  .have a:=Za hn;have b:=@RX m;have c:2^(m.log2+1)<=2^n.log2:=dq (by omega) h1;omega
  .exact h1
 have key:(n.log2-f.fractionBits)*f.binade+rE n (n.log2-f.fractionBits)<=(m.log2-f.fractionBits)*f.binade+rE m (m.log2-f.fractionBits):=by
  by_cases e:n.log2-f.fractionBits=m.log2-f.fractionBits
  .rw [e];exact Nat.add_le_add_left (abE h) _
  .generalize hd:n.log2-f.fractionBits=d at*;generalize hd':m.log2-f.fractionBits=d' at*;have hlt:d<d':=by omega
   have hm2:m.log2=f.fractionBits+d':=by omega
   have h1:f.binade<=m/2^d':=by rw[Nat.le_div_iff_mul_le (fP d')];show 2^f.fractionBits*2^d'<=m;rw[<-iQ,<-hm2];exact Za hm
   have h2:f.binade<=rE m d':=Nat.le_trans h1 (lI _ _)
   have h3:n/2^d<2*f.binade:=by
    rw[Nat.div_lt_iff_lt_mul (fP d)];show n<2*2^f.fractionBits*2^d;have a:=@RX n;have b:2^(n.log2+1)<=2^(f.fractionBits+d+1):=dq (by omega) (by omega);have c:2^(f.fractionBits+d+1)=2*2^f.fractionBits*2^d:=by rw[mR,iQ,ll _ 2,<-iY]
    omega
   have h4:rE n d<=2*f.binade:=by unfold rE;split<;>omega
   obtain⟨c,rfl⟩:∃c,d'=d+1+c:=⟨d'-(d+1),by omega⟩
   have h5:(d+1+c)*f.binade=d*f.binade+f.binade+c*f.binade:=by rw[h_,h_,Nat.one_mul]
   have h6:0<=c*f.binade:=cG _;omega
 omega
theorem Ez{x y:Nat}(h:x<=y):jQ f x<=jQ f y:=by
 have hb:=Gy f;unfold jQ;have hq:x/f.binade<=y/f.binade:=Nat.div_le_div_right h;have ha:=kL x f.binade;have hc:=kL y f.binade;have hr:=Nat.mod_lt x hb;by_cases e:x/f.binade=y/f.binade
 .rw [e]at ha|-;split
  .exact h
  .exact du _ (by omega)
 .split
  .rename_i h0;rw[if_neg (fun q=>e (h0.trans q.symm))];have:x<f.binade:=by rw[h0]at ha;omega
   have:f.binade<=f.binade+y %f.binade:=lI _ _;have p:=fP (y/f.binade-1)
   calc x<=f.binade+y %f.binade:=by omega
    _=(f.binade+y %f.binade)*1:=(Nat.mul_one _).symm
    _<=_:=jh _ p
  .rename_i h0;have hy0:¬y/f.binade=0:=fun q=>h0 (Nat.le_zero.1 (q▸hq));rw[if_neg hy0];obtain⟨q,hq1⟩:=oB h0;have hq1:x/f.binade=q+1:=hq1;obtain⟨c,hq2⟩:∃c,y/f.binade=q+2+c:=by obtain⟨c,hc2⟩:=Nat.exists_eq_add_of_lt (Nat.lt_of_le_of_ne hq e);exact⟨c,by rw[hc2,hq1];omega⟩
   rw[hq1,hq2];have e1:q+1-1=q:=by omega
   have e2:q+2+c-1=q+(1+c):=by omega
   rw[e1,e2,iQ];have p:=fP c
   calc (f.binade+x %f.binade)*2^q<=(2*f.binade)*2^q:=du _ (by omega)
    _=f.binade*(2^q*2):=by rw[ll 2,iY,ll 2]
    _<=f.binade*(2^q*2^(1+c)):=jh _ (jh _ (by rw[iQ,Nat.pow_one];omega))
    _<=_:=du _ (lI _ _)
theorem DK{x:Nat}(h:x<f.infRung):Q_ f (jQ f x)=x:=by
 have hb:=Gy f;have ha:=kL x f.binade;have hr:=Nat.mod_lt x hb;unfold jQ;split
 .rename_i h0;have hx:x<f.binade:=by rw[h0]at ha;omega
  unfold Q_;by_cases hx0:x=0
  .rw [if_pos hx0,hx0]
  .rw [if_neg hx0];have hl:x.log2<f.fractionBits:=(Nat.log2_lt hx0).2 hx;have:x.log2-f.fractionBits=0:=by omega
   rw[this,jc,Nat.zero_add,S5];omega
 .rename_i h0;obtain⟨q,hq⟩:=oB h0;have hq:x/f.binade=q+1:=hq;rw[hq]at ha|-;rw[tP];have hne:(f.binade+x %f.binade)*2^q≠0:=Nat.mul_ne_zero (by omega) (by have:=fP q;omega);unfold Q_;rw[if_neg hne]
  have hl:((f.binade+x %f.binade)*2^q).log2=f.fractionBits+q:=by
   rw[Nat.log2_eq_iff hne];constructor
   .rw [iQ];exact du _ (lI _ _)
   .rw [mR,iQ];have:(f.binade+x %f.binade)*2^q<(2*f.binade)*2^q:=Nat.mul_lt_mul_of_pos_right (by omega) (fP q);have e:2^f.fractionBits*2^q*2=(2*f.binade)*2^q:=by show 2^f.fractionBits*2^q*2=(2*2^f.fractionBits)*2^q;rw[ll 2,iY,iY,ll 2]
    omega
  rw[hl,og,Re];have e:(q+1)*f.binade=q*f.binade+f.binade:=by rw[h_,Nat.one_mul]
  rw[ll f.binade]at ha;omega
theorem yV{x:Nat}(h:x<f.infRung)(hs:f.infRung<=f.signWeight):∃(m k:Nat),f.read x=.number false m (f.leastPlace+k)/\m*2^k=jQ f x:=by
 have hb:=Gy f;have ha:=kL x f.binade;have h1:x/f.signWeight=0:=oe (by omega);have h2:x %f.signWeight=x:=rk (by omega);unfold Format.read jQ;rw[h1,h2];simp only[Nat.zero_mod];by_cases hx:x<f.binade
 .refine ⟨x,0,?_,?_⟩
  .rw [if_pos hx];simp
  .rw [if_pos (oe hx)];simp
 .have hq:x/f.binade≠0:=by intro h0;rw[h0]at ha;have:=Nat.mod_lt x hb;omega
  refine⟨f.binade+x %f.binade,x/f.binade-1,?_,?_⟩
  .rw [if_neg hx,if_pos h];rfl
  .rw [if_neg hq]
theorem WA{x y:Nat}(hx:x<f.infRung)(hy:y<f.infRung)(hs:f.infRung<=f.signWeight):f.add x y=some (Q_ f (jQ f x+jQ f y)):=by
 obtain⟨m,k,e1,e2⟩:=yV f hx hs;obtain⟨n,l,e3,e4⟩:=yV f hy hs;unfold Format.add;rw[e1,e3];simp only[Datum.sum];have hb:min (f.leastPlace+(k:Int)) (f.leastPlace+(l:Int))=f.leastPlace+((min k l:Nat):Int):=by omega
 rw[hb];have t1:(f.leastPlace+(k:Int)-(f.leastPlace+((min k l:Nat):Int))).toNat=k-min k l:=by omega
 have t2:(f.leastPlace+(l:Int)-(f.leastPlace+((min k l:Nat):Int))).toNat=l-min k l:=by omega
 rw[t1,t2];simp only[signed,Bool.false_eq_true,if_false,rj];rw[<-Int.natCast_add,Int.natAbs_natCast]
 have hneg:(if((m*2^(k-min k l)+n*2^(l-min k l):Nat):Int)=0 then false&&false else decide (((m*2^(k-min k l)+n*2^(l-min k l):Nat):Int)<0))=false:=by
  split
  .rfl
  .exact decide_eq_false (by omega)
 rw[hneg,Option.map_some];show some (f.nearest false _ _)=_;rw[Ps];have e5:(m*2^(k-min k l)+n*2^(l-min k l))*2^min k l=jQ f x+jQ f y:=by rw[h_,iY,iY,<-iQ,<-iQ,<-e2,<-e4];congr 3<;>omega
 rw[e5];rfl
theorem FQ(hs:f.infRung<f.signWeight)(hb:f.binade<=f.infRung):f.read f.infRung=.infinity false:=by unfold Format.read;rw[oe hs,rk hs];simp only[Nat.zero_mod];rw[if_neg (by omega),if_neg (by omega),if_pos trivial];rfl
end
def plus(f:Format)(x y:Nat):Nat:=if x<f.infRung/\y<f.infRung then Q_ f (jQ f x+jQ f y)else f.infRung
section
variable{f:Format}
theorem aaF(hs:f.infRung<f.signWeight)(hb:f.binade<=f.infRung){x y:Nat}(hx:x<=f.infRung)(hy:y<=f.infRung):f.add x y=some (plus f x y):=by
 unfold plus;by_cases h1:x<f.infRung
 .by_cases h2:y<f.infRung
  .rw [if_pos ⟨h1,h2⟩,WA f h1 h2 (by omega)]
  .obtain rfl:y=f.infRung:=by omega
   rw[if_neg (fun h=>h2 h.2)];obtain⟨m,k,e1,_⟩:=yV f h1 (by omega);unfold Format.add;rw[e1,FQ f hs hb];rfl
 .obtain rfl:x=f.infRung:=by omega
  rw[if_neg (fun h=>h1 h.1)];unfold Format.add;rw[FQ f hs hb];by_cases h2:y<f.infRung
  .obtain ⟨m,k,e1,_⟩:=yV f h2 (by omega);rw[e1];rfl
  .obtain rfl:y=f.infRung:=by omega
   rw[FQ f hs hb];rfl
theorem IT{x y:Nat}:plus f x y<=f.infRung:=by
 unfold plus;split
 .exact afu f _
 .exact aw _
theorem Vb{x y x' y':Nat}(hx:x<=x')(hy:y<=y'):plus f x y<=plus f x' y':=by
 by_cases h:x'<f.infRung/\y'<f.infRung
 .unfold plus;rw[if_pos h,if_pos ⟨by omega,by omega⟩];exact OI f (Nat.add_le_add (Ez f hx) (Ez f hy))
 .have:plus f x' y'=f.infRung:=by unfold plus;rw[if_neg h]
  rw[this];exact IT
theorem Rh{x y:Nat}(hy:y<=f.infRung):y<=plus f x y:=by
 unfold plus;split
 .rename_i h
  calc y=Q_ f (jQ f y):=(DK f h.2).symm
   _<=_:=OI f (Nat.le_add_left _ _)
 .exact hy
end
open Ieee
section
variable(f:Format)
theorem My{x y:Nat}(h:x<y)(hy:y<=f.infRung):jQ f x<jQ f y:=by
 have hx:x<f.infRung:=by omega
 have hle:=Ez f (Nat.le_of_lt h);rcases f_ y f.infRung with h1|h1
 .rcases f_ (jQ f x) (jQ f y)with h2|h2
  .exact h2
  .have e:jQ f x=jQ f y:=by omega
   have:=DK f hx;rw[e,DK f h1]at this;omega
 .obtain rfl:y=f.infRung:=by omega
  rcases f_ (jQ f x) (jQ f f.infRung)with h2|h2
  .exact h2
  .exfalso;have e:jQ f x=jQ f f.infRung:=by omega
   have hr:=DK f hx;rw[e]at hr;have hb:=Gy f;have hm:f.infRung %f.binade=0:=Nat.mul_mod_left _ _;have hd:f.infRung/f.binade=2^f.exponentBits-1:=Nat.mul_div_cancel _ hb;have hpos:f.infRung≠0:=by omega
   have h0:¬2^f.exponentBits-1=0:=by intro h0;apply hpos;show(2^f.exponentBits-1)*f.binade=0;rw[h0,jc]
   obtain⟨q,hq⟩:=oB h0;have hq:2^f.exponentBits-1=q+1:=hq;have hu:jQ f f.infRung=f.binade*2^q:=by unfold jQ;rw[hd,hm,if_neg h0,hq,Nat.add_zero,tP]
   have hne:f.binade*2^q≠0:=Nat.mul_ne_zero (by omega) (by have:=fP q;omega);rw[hu]at hr;unfold Q_ at hr;have hl:(f.binade*2^q).log2=f.fractionBits+q:=by show(2^f.fractionBits*2^q).log2=_;rw[<-iQ,Nat.log2_two_pow]
   rw[if_neg hne,hl,og,Re]at hr;have e2:f.infRung=q*f.binade+f.binade:=by show(2^f.exponentBits-1)*f.binade=_;rw[hq,h_,Nat.one_mul]
   rw[<-e2,Nat.min_self]at hr;omega
def su(x:Nat):Int:=if x/f.signWeight %2=1 then-(jQ f (x %f.signWeight):Int)else jQ f (x %f.signWeight)
theorem MU{x:Nat}(h:x %f.signWeight<f.infRung):∃(m k:Nat),f.read x=.number (x/f.signWeight %2==1) m (f.leastPlace+k)/\signed (x/f.signWeight %2==1) m k=su f x:=by
 have hb:=Gy f;unfold su;generalize hs:x/f.signWeight %2=s;generalize hr:x %f.signWeight=r at h
 have hR:f.read x=if r<f.binade then .number (s==1) r f.leastPlace
   else if r<f.infRung then .number (s==1) (f.binade+r %f.binade) (f.leastPlace+(r/f.binade-1:Nat))
   else if r=f.infRung then .infinity (s==1)else .nan (s==1) (r-f.infRung):=by
  unfold Format.read;rw[hs,hr]
 rw[hR]
 have key:∀m k,m*2^k=jQ f r->signed (s==1) m k=if s=1 then-(jQ f r:Int)else jQ f r:=by
  intro m k e;unfold signed;rw[rj,e];by_cases h1:s=1
  .simp [h1]
  .rw [if_neg h1,if_neg (by simpa using h1)]
 by_cases hx:r<f.binade
 .rw [if_pos hx];refine⟨r,0,by simp,key _ _ ?_⟩;unfold jQ;rw[if_pos (oe hx)];simp
 .rw [if_neg hx,if_pos h];refine⟨_,_,rfl,key _ _ ?_⟩;unfold jQ;rw[if_neg];intro h0;have ha:=kL r f.binade;rw[h0]at ha;have:=Nat.mod_lt r hb;omega
theorem GU{x:Nat}(h:x %f.signWeight=f.infRung)(hb:f.binade<=f.infRung):f.read x=.infinity (x/f.signWeight %2==1):=by unfold Format.read;rw[h];simp only;rw[if_neg (by omega),if_neg (by omega),if_pos trivial]
theorem Jp(neg:Bool)(m a b:Nat):signed neg m (a+b)=signed neg m a*(2^b:Nat):=by
 unfold signed;rw[rj,rj,iQ,<-iY];cases neg
 .simp
 .simp [Int.neg_mul]
theorem ac7(a b:Int){c:Nat}(hc:0<c):compare (a*c) (b*c)=compare a b:=by
 have hc:(0:Int)<c:=by omega
 rcases mU a b with h|h|h
 .rw [gT.2 h,gT];exact Int.mul_lt_mul_of_pos_right h hc
 .rw [h];rw[iC.2 rfl,iC.2 rfl]
 .rw [gU.2 h,gU];exact Int.mul_lt_mul_of_pos_right h hc
theorem Vk(s t:Bool)(m k n l:Nat)(p:Int):(Datum.number s m (p+k)).order (.number t n (p+l))=some (compare (signed s m k) (signed t n l)):=by
 unfold Datum.order;simp only;have hb:min (p+(k:Int)) (p+(l:Int))=p+((min k l:Nat):Int):=by omega
 rw[hb];have t1:(p+(k:Int)-(p+((min k l:Nat):Int))).toNat=k-min k l:=by omega
 have t2:(p+(l:Int)-(p+((min k l:Nat):Int))).toNat=l-min k l:=by omega
 rw[t1,t2];have e1:=Jp s m (k-min k l) (min k l);have e2:=Jp t n (l-min k l) (min k l);rw[Nat.sub_add_cancel (by omega)]at e1 e2;rw[e1,e2,ac7 _ _ (fP _)]
end
def pl(x:Nat):Int:=if 9223372036854775808<=x then 9223372036854775808-(x:Int)else x
abbrev D:Format:=double
theorem Xq:D.signWeight=9223372036854775808:=by decide
theorem AQ:D.infRung=9218868437227405312:=by decide
theorem anN:D.binade=4503599627370496:=by decide
def ok(x:Nat):Prop:=x<18446744073709551616/\x %9223372036854775808<=9218868437227405312
theorem ahi{x y:Nat}(hx:ok x)(hy:ok y):compare (su D x) (su D y)=compare (pl x) (pl y):=by
 obtain⟨hx1,hx2⟩:=hx;obtain⟨hy1,hy2⟩:=hy;have hlt:∀a b:Nat,a<b->b<=9218868437227405312->jQ D a<jQ D b:=fun a b h1 h2=>My D h1 (by rw[AQ];exact h2);have hz:jQ D 0=0:=by decide
 have key:∀a b:Nat,a<18446744073709551616->b<18446744073709551616->a %9223372036854775808<=9218868437227405312->b %9223372036854775808<=9218868437227405312->pl a<pl b->su D a<su D b:=by
  intro a b ha hb ha2 hb2 h;unfold su;rw[Xq];unfold pl at h;by_cases h1:9223372036854775808<=a
  .rw [if_pos h1]at h;rw[if_pos (by omega)];by_cases h2:9223372036854775808<=b
   .rw [if_pos h2]at h;rw[if_pos (by omega)];have:=hlt (b %9223372036854775808) (a %9223372036854775808) (by omega) ha2;omega
   .rw [if_neg h2]at h;rw[if_neg (by omega)];by_cases h3:a %9223372036854775808=0
    .have:=hlt 0 (b %9223372036854775808) (by omega) hb2;omega
    .have:=hlt 0 (a %9223372036854775808) (by omega) ha2;omega
  .rw [if_neg h1]at h;rw[if_neg (by omega)];by_cases h2:9223372036854775808<=b
   .rw [if_pos h2]at h;omega
   .rw [if_neg h2]at h;rw[if_neg (by omega)];have:=hlt (a %9223372036854775808) (b %9223372036854775808) (by omega) hb2;omega
 rcases mU (pl x) (pl y)with h|h|h
 .rw [gT.2 h,gT.2 (key _ _ hx1 hy1 hx2 hy2 h)]
 .rw [iC.2 h,iC];unfold pl at h;unfold su;rw[Xq];by_cases h1:9223372036854775808<=x<;>by_cases h2:9223372036854775808<=y
  .rw [if_pos h1,if_pos h2]at h;have:x=y:=by omega
   rw[this]
  .rw [if_pos h1,if_neg h2]at h;have e1:x %9223372036854775808=0:=by omega
   have e2:y %9223372036854775808=0:=by omega
   rw[e1,e2,hz];simp
  .rw [if_neg h1,if_pos h2]at h;have e1:x %9223372036854775808=0:=by omega
   have e2:y %9223372036854775808=0:=by omega
   rw[e1,e2,hz];simp
  .rw [if_neg h1,if_neg h2]at h;have:x=y:=by omega
   rw[this]
 .rw [gU.2 h,gU.2 (key _ _ hy1 hx1 hy2 hx2 h)]
theorem SQ{x:Nat}(h:x<18446744073709551616):(x/D.signWeight %2==1)=decide (9223372036854775808<=x):=by
 rw[Xq];by_cases h1:9223372036854775808<=x
 .rw [decide_eq_true h1];have:x/9223372036854775808 %2=1:=by omega
  rw[this];rfl
 .rw [decide_eq_false h1];have:x/9223372036854775808 %2=0:=by omega
  rw[this];rfl
theorem FV{x y:Nat}(hx:ok x)(hy:ok y):D.order x y=some (compare (pl x) (pl y)):=by
 have hx':=hx;have hy':=hy;obtain⟨hx1,hx2⟩:=hx;obtain⟨hy1,hy2⟩:=hy;unfold Format.order;have sx:=SQ hx1;have sy:=SQ hy1;have hbi:D.binade<=D.infRung:=by decide
 by_cases ix:x %9223372036854775808=9218868437227405312
 .have rx:=GU D (x:=x) (by rw[Xq,AQ];exact ix) hbi;by_cases iy:y %9223372036854775808=9218868437227405312
  .have ry:=GU D (x:=y) (by rw[Xq,AQ];exact iy) hbi;rw[rx,ry,sx,sy];unfold pl;by_cases h1:9223372036854775808<=x<;>by_cases h2:9223372036854775808<=y
   .rw [decide_eq_true h1,decide_eq_true h2,if_pos h1,if_pos h2];have:x=y:=by omega
    rw[this,iC.2 rfl];rfl
   .rw [decide_eq_true h1,decide_eq_false h2,if_pos h1,if_neg h2,gT.2 (by omega)];rfl
   .rw [decide_eq_false h1,decide_eq_true h2,if_neg h1,if_pos h2,gU.2 (by omega)];rfl
   .rw [decide_eq_false h1,decide_eq_false h2,if_neg h1,if_neg h2];have:x=y:=by omega
    rw[this,iC.2 rfl];rfl
  .obtain ⟨m,k,ry,_⟩:=MU D (x:=y) (by rw[Xq,AQ];omega);rw[rx,ry,sx];show some (if decide (9223372036854775808<=x)=true then Ordering.lt else Ordering.gt)=_;unfold pl;by_cases h1:9223372036854775808<=x
   .rw [decide_eq_true h1,if_pos rfl,if_pos h1,gT.2 (by split<;>omega)]
   .rw [decide_eq_false h1,if_neg (by simp),if_neg h1,gU.2 (by split<;>omega)]
 .obtain ⟨m,k,rx,ex⟩:=MU D (x:=x) (by rw[Xq,AQ];omega);by_cases iy:y %9223372036854775808=9218868437227405312
  .have ry:=GU D (x:=y) (by rw[Xq,AQ];exact iy) hbi;rw[rx,ry,sy];show some (if decide (9223372036854775808<=y)=true then Ordering.gt else Ordering.lt)=_;unfold pl;by_cases h1:9223372036854775808<=y
   .rw [decide_eq_true h1,if_pos rfl,if_pos h1,gU.2 (by split<;>omega)]
   .rw [decide_eq_false h1,if_neg (by simp),if_neg h1,gT.2 (by split<;>omega)]
  .obtain ⟨n,l,ry,ey⟩:=MU D (x:=y) (by rw[Xq,AQ];omega);rw[rx,ry,Vk,ex,ey,ahi hx' hy']
theorem Tx{x:Nat}:(D.read x).isNaN=true<->9218868437227405312<x %9223372036854775808:=by
 constructor
 .intro h;unfold Format.read at h;rw[Xq,AQ,anN]at h;simp only at h;split at h
  .cases h
  split at h
  .cases h
  split at h
  .cases h
  omega
 .intro h;unfold Format.read;rw[Xq,AQ,anN];simp only;rw[if_neg (by omega),if_neg (by omega),if_neg (by omega)];rfl
theorem Vl{x y:Nat}(h:(D.read x).isNaN=true\/(D.read y).isNaN=true):D.order x y=none:=by
 unfold Format.order;cases hx:D.read x with
 |nan s t=>rfl
 |number s m p=>
  rw[hx]at h;cases hy:D.read y with
  |nan=>rfl
  |_=>rw[hy]at h;rcases h with h|h<;>cases h
 |infinity s=>
  rw[hx]at h;cases hy:D.read y with
  |nan=>rfl
  |_=>rw[hy]at h;rcases h with h|h<;>cases h
end Go.Fl
namespace Go.Ev
structure WC{α:Type}(lt:α->α->Bool):Prop where
 irr:∀x,lt x x=false
 tr:∀x y z,lt x y=true->lt y z=true->lt x z=true
 ntr:∀x y z,lt x y=false->lt y z=false->lt x z=false
section
variable{α:Type}{lt:α->α->Bool}
def K0(lt:α->α->Bool)(x y:α):Bool:=!lt x y&&!lt y x
def Ms(lt:α->α->Bool)(l:List α):Prop:=l.Pairwise fun x y=>lt y x=false
def vk(lt:α->α->Bool)(a b:List α):Prop:=∀x,a.filter (K0 lt x)=b.filter (K0 lt x)
theorem Gt{x y:α}:K0 lt x y=true<->lt x y=false/\lt y x=false:=by unfold K0;simp
theorem KB(h:WC lt)(x:α):K0 lt x x=true:=Gt.2 ⟨h.irr x,h.irr x⟩
theorem agu(h:WC lt){c x y:α}(h1:K0 lt c x=true)(h2:K0 lt c y=true):K0 lt x y=true:=by rw[Gt]at*;exact⟨h.ntr _ _ _ h1.2 h2.1,h.ntr _ _ _ h2.2 h1.1⟩
theorem WC.aay(h:WC lt){x y:α}(h1:lt x y=true):lt y x=false:=by cases h2:lt y x with|false=>rfl|true=>have:=h.tr _ _ _ h1 h2;rw[h.irr]at this;cases this
theorem vk.refl(a:List α):vk lt a a:=fun _=>rfl
theorem vk.symm{a b:List α}(h:vk lt a b):vk lt b a:=fun x=>(h x).symm
theorem vk.trans{a b c:List α}(h:vk lt a b)(g:vk lt b c):vk lt a c:=fun x=>(h x).trans (g x)
theorem vk.app{a b c d:List α}(h:vk lt a b)(g:vk lt c d):vk lt (a++c) (b++d):=fun x=>by rw[ic,ic,h x,g x]
theorem vk.yq(hs:WC lt){a b:List α}(h:vk lt a b){x:α}:x∈a<->x∈b:=by
 have key:∀l:List α,x∈l<->x∈l.filter (K0 lt x):=fun l=>by simp[dy,KB hs]
 rw[key a,key b,h x]
theorem vk.swap(hs:WC lt){u v:List α}(h:∀x∈u,∀y∈v,K0 lt x y=false):vk lt (u++v) (v++u):=fun c=>by
 rw[ic,ic];cases hu:u.filter (K0 lt c)with
 |nil=>simp
 |cons x r=>
  have hx:x∈u.filter (K0 lt c):=by rw[hu];exact aL
  have hv:v.filter (K0 lt c)=[]:=List.filter_eq_nil_iff.2 fun y hy hc=>by have:=h x (dy.1 hx).1 y hy;rw[agu hs (dy.1 hx).2 hc]at this;cases this
  rw[hv];simp
theorem Xz(h:WC lt):∀{a b:List α},Ms lt a->Ms lt b->vk lt a b->a=b:=by
 intro a;induction a with
 |nil=>intro b _ _ hs;cases b with|nil=>rfl|cons y b=>have:=(hs.yq h (x:=y)).2 aL;cases this
 |cons x a ih=>
  intro b ha hb hs;cases b with
  |nil=>have:=(hs.yq h (x:=x)).1 aL;cases this
  |cons y b=>
   obtain⟨ha1,ha2⟩:=dW.1 ha;obtain⟨hb1,hb2⟩:=dW.1 hb
   have hxy:lt y x=false:=by
    rcases aO.1 ((hs.yq h (x:=y)).2 aL)with e|e
    .rw [e];exact h.irr x
    .exact ha1 y e
   have hyx:lt x y=false:=by
    rcases aO.1 ((hs.yq h (x:=x)).1 aL)with e|e
    .rw [e];exact h.irr y
    .exact hb1 x e
   have hc:=hs x;rw[dN,dN,if_pos (KB h x),if_pos (Gt.2 ⟨hyx,hxy⟩)]at hc;obtain rfl:=(aE hc).1;congr 1;refine ih ha2 hb2 fun c=>?_;have hc:=hs c;rw[dN,dN]at hc;split at hc
   .exact (aE hc).2
   .exact hc
theorem Ms.app{a b:List α}(ha:Ms lt a)(hb:Ms lt b)(h:∀x∈a,∀y∈b,lt y x=false):Ms lt (a++b):=ki.2 ⟨ha,hb,h⟩
theorem Ms.YU{a b:List α}(h:Ms lt (a++b)):Ms lt a/\Ms lt b/\∀x∈a,∀y∈b,lt y x=false:=ki.1 h
end
end Go.Ev
open Go.Ev Go
namespace Go.Ev
section
variable{α:Type}[Inhabited α](C:α->α->Option Int)
def Ga(a_1:Int):(Int×Sl α)->Option ((Int×Sl α)⊕(Sl α)):=fun(i9,s10)=>
 (bif decide (i9>a_1)then((bS i9 s10.l.length).bind fun n11=>
 (bS (wr .i64 (i9-1)) s10.l.length).bind fun n12=>
 (C (gt s10.l n11) (gt s10.l n12)).bind fun r13=>
 some (decide (r13<0)))else
 (some false):Option Bool).bind fun b14=>
 bif b14 then((bS (wr .i64 (i9-1)) s10.l.length).bind fun n15=>
 (bS i9 s10.l.length).bind fun n16=>
 (bS i9 s10.l.length).bind fun n17=>
 (bS (wr .i64 (i9-1)) (s10.l.set n17 (gt s10.l n15)).length).bind fun n18=>
 some (.inl (wr .i64 (i9-1),(Sl.mk ((s10.l.set n17 (gt s10.l n15)).set n18 (gt s10.l n16))))))else
 (some (.inr s10))
def F_(a_1:Int)(b_2:Int):(Int×Sl α)->Option ((Int×Sl α)⊕(Sl α)):=fun(i4,s5)=>
 bif decide (i4<b_2)then((aJ (Ga C a_1) (i4,s5)).bind fun s19=>
 some (.inl (wr .i64 (i4+1),s19)))else
 (some (.inr s5))
def acv(data_0:Sl α)(a_1:Int)(b_2:Int):Option (Sl α):=
 (aJ (F_ C a_1 b_2) (wr .i64 (a_1+1),data_0)).bind fun s20=>
 some s20
end
section
variable{α:Type}[Inhabited α]
theorem wq{n:Int}(h0:-9223372036854775808<=n)(h1:n<9223372036854775808):wr .i64 n=n:=by simp[wr,IntKind.wrap,IntKind.bits,IntKind.signed];omega
theorem Bw{n m:Nat}(h:n<m):bS (n:Int) m=some n:=jy.2 ⟨rfl,h⟩
theorem Gd{A B:List α}{x:α}:gt (A++x::B) A.length=x:=by simp[gt]
theorem apT{A B D:List α}{x y:α}{j:Nat}(hj:j=A.length+1+B.length):gt (A++x::(B++y::D)) j=y/\((A++x::(B++y::D)).set A.length y).set j x=A++y::(B++x::D):=by
 subst hj;constructor
 .have e:A++x::(B++y::D)=(A++x::B)++y::D:=by simp
  have l:A.length+1+B.length=(A++x::B).length:=by simp;omega
  rw[e,l];exact Gd
 .have e:(A++x::(B++y::D)).set A.length y=(A++y::B)++y::D:=by rw[List.set_append_right _ _ (aw _),Nat.sub_self];simp
  have l:A.length+1+B.length=(A++y::B).length:=by simp;omega
  rw[e,l,List.set_append_right _ _ (aw _),Nat.sub_self];simp
theorem acp{β:Type}{a b:List β}(h:a.length=b.length):py (Sl.mk a) (Sl.mk b)=some ():=by show PH a b=some ();exact Mb.2 h
end
def Cmp{α:Type}(C:α->α->Option Int)(lt:α->α->Bool)(P:α->Prop):Prop:=∀x y,P x->P y->∃r,C x y=some r/\decide (r<0)=lt x y
section
variable{α:Type}[Inhabited α]{C:α->α->Option Int}{lt:α->α->Bool}{P:α->Prop}
theorem Zt(hC:Cmp C lt P){a:Nat}(pre:List α)(x:α)(ha:a=pre.length)(hx:P x):∀(p s:List α),(∀y∈p,P y)->a+p.length<4611686018427387904->
  ∃u v,p.reverse=u++v/\(∀y∈v,lt x y=true)/\(u=[]\/∃u' y,u=u'++[y]/\lt x y=false)/\
   aJ (Ga C (a:Int)) (((a+p.length:Nat):Int),Sl.mk (pre++p.reverse++x::s))=some (Sl.mk (pre++u++x::(v++s)))
 |[],s,_,hb=>by refine⟨[],[],rfl,by simp,.inl rfl,bW ?_⟩;simp only[Ga];rw[decide_eq_false (by simp),cond_false,aa,cond_false];simp
 |y::r,s,hp,hb=>by
  obtain⟨q,hq,hq2⟩:=hC x y hx (hp y aL);have e0:pre++(y::r).reverse++x::s=(pre++r.reverse)++y::([]++x::s):=by simp
  have hl:((pre++r.reverse)++y::([]++x::s)).length=a+r.length+2+s.length:=by simp;omega
  have hA:(pre++r.reverse).length=a+r.length:=by simp;omega
  obtain⟨g1,g2⟩:=apT (A:=pre++r.reverse) (B:=[]) (D:=s) (x:=y) (y:=x) (j:=a+r.length+1) (by simp;omega);have g3:gt ((pre++r.reverse)++y::([]++x::s)) (a+r.length)=y:=by rw[<-hA];exact Gd
  have w0:(((a+(y::r).length:Nat)):Int)=((a+r.length+1:Nat):Int):=by simp;omega
  have w1:wr .i64 (((a+r.length+1:Nat):Int)-1)=((a+r.length:Nat):Int):=by rw[wq (by omega) (by simp at hb;omega)];omega
  have hb':bif decide (((a+r.length+1:Nat):Int)>(a:Int))then True else False:=by rw[decide_eq_true (by omega)];trivial
  have i1:bS ((a+r.length+1:Nat):Int) ((pre++r.reverse)++y::([]++x::s)).length=some (a+r.length+1):=Bw (by omega);have i2:bS ((a+r.length:Nat):Int) ((pre++r.reverse)++y::([]++x::s)).length=some (a+r.length):=Bw (by omega);rw[w0,e0];cases hc:lt x y with
  |false=>refine⟨(y::r).reverse,[],by simp,by simp,.inr ⟨r.reverse,y,by simp,hc⟩,(bW (b:=Sl.mk ((pre++r.reverse)++y::([]++x::s))) ?_).trans (by simp)⟩;simp only[Ga,w1,Sl.l];rw[decide_eq_true (by omega),cond_true,i1,aa,i2,aa,g1,g3,hq,aa,aa,hq2,hc,cond_false]
  |true=>
   obtain⟨u,v,h1,h2,h3,h4⟩:=Zt hC pre x ha hx r (y::s) (fun z hz=>hp z (bp _ hz)) (by simp at hb;omega);refine⟨u,v++[y],by rw[List.reverse_cons,h1];simp,fun z hz=>?_,h3,(dD (a':=(((a+r.length:Nat):Int),Sl.mk ((pre++r.reverse)++x::([]++y::s)))) ?_).trans ?_⟩
   .rcases aK.1 hz with hz|hz
    .exact h2 z hz
    .rw [aB.1 hz];exact hc
   .simp only[Ga,w1,Sl.l];rw[decide_eq_true (by omega),cond_true,i1,aa,i2,aa,g1,g3,hq,aa,aa,hq2,hc,cond_true,aa,aa,aa,List.length_set,i2,aa];have g4:=g2;rw[hA]at g4;have g5:(((pre++r.reverse)++y::([]++x::s)).set (a+r.length+1) y).set (a+r.length) x=(pre++r.reverse)++x::([]++y::s):=by rw[List.set_comm _ _ (by omega)];exact g4
    rw[g3,g1,g5]
   .have e1:(pre++r.reverse)++x::([]++y::s)=pre++r.reverse++x::(y::s):=by simp
    rw[e1,h4];simp
theorem TL(hs:WC lt)(hC:Cmp C lt P){a b:Nat}(pre post:List α)(ha:a=pre.length)(hb:b<4611686018427387904):∀(s acc:List α),(∀y∈acc,P y)->(∀y∈s,P y)->Ms lt acc->b=a+acc.length+s.length->
  ∃M,aJ (F_ C (a:Int) (b:Int)) (((a+acc.length:Nat):Int),Sl.mk (pre++acc++s++post))=some (Sl.mk (pre++M++post))/\M.length=acc.length+s.length/\Ms lt M/\vk lt M (acc++s)
 |[],acc,h1,h2,h3,h4=>by refine⟨acc,bW ?_,rfl,h3,by simp[vk]⟩;simp only[F_];rw[decide_eq_false (by simp at h4;omega)];simp
 |x::s,acc,h1,h2,h3,h4=>by
  simp only[di]at h4;obtain⟨u,v,e1,e2,e3,e4⟩:=Zt hC pre x ha (h2 x aL) acc.reverse (s++post) (fun y hy=>h1 y (List.mem_reverse.1 hy)) (by simp;omega);rw[List.reverse_reverse]at e1 e4;rw[List.length_reverse]at e4;have hsr:=Ms.YU (e1▸h3)
  have hux:∀z∈u,lt x z=false:=by
   intro z hz;rcases e3 with e3|⟨u',y,e3,e5⟩
   .rw [e3]at hz;cases hz
   .rw [e3]at hz;rcases aK.1 hz with hz|hz
    .exact hs.ntr _ _ _ e5 ((Ms.YU (e3▸hsr.1)).2.2 z hz y (by simp))
    .rw [aB.1 hz];exact e5
  have hS:Ms lt (u++x::v):=by
   refine Ms.app hsr.1 (dW.2 ⟨fun y hy=>hs.aay (e2 y hy),hsr.2.1⟩) fun z hz y hy=>?_;rcases aO.1 hy with hy|hy
   .rw [hy];exact hux z hz
   .exact hsr.2.2 z hz y hy
  have hsame:vk lt (u++x::v) (acc++[x]):=by rw[e1,List.append_assoc];refine vk.app (.refl _) (vk.swap hs (u:=[x]) (v:=v) fun z hz y hy=>?_);rw[aB.1 hz];have:=e2 y hy;unfold K0;rw[this];rfl
  have hlen:(u++x::v).length=acc.length+1:=by rw[e1];simp;omega
  obtain⟨M,m1,m2,m3,m4⟩:=TL hs hC pre post ha hb s (u++x::v) (fun y hy=>by
   rcases aK.1 ((hsame.yq hs).1 hy)with hy|hy
   .exact h1 y hy
   .rw [aB.1 hy];exact h2 x aL) (fun y hy=>h2 y (bp _ hy)) hS (by omega)
  refine⟨M,(dD (a':=(((a+(u++x::v).length:Nat):Int),Sl.mk (pre++(u++x::v)++s++post))) ?_).trans m1,by simp;omega,m3,?_⟩
  .simp only[F_];rw[decide_eq_true (by omega),cond_true];have e5:pre++acc++(x::s)++post=pre++acc++x::(s++post):=by simp
   have w1:wr .i64 (((a+acc.length:Nat):Int)+1)=((a+(u++x::v).length:Nat):Int):=by rw[wq (by omega) (by omega),hlen];omega
   rw[e5,e4,aa,w1];simp
  .refine m4.trans ?_;have:=hsame.app (vk.refl (lt:=lt) s);simpa using this
theorem Me(hs:WC lt)(hC:Cmp C lt P){a b:Nat}{X L Y:List α}(ha:a=X.length)(hb:b=a+L.length)(hB:b<4611686018427387904)(hP:∀y∈L,P y):
  ∃M,acv C (Sl.mk (X++L++Y)) (a:Int) (b:Int)=some (Sl.mk (X++M++Y))/\M.length=L.length/\Ms lt M/\vk lt M L:=by
 unfold acv;have w1:wr .i64 ((a:Int)+1)=((a+1:Nat):Int):=by rw[wq (by omega) (by omega)];omega
 rw[w1];cases L with
 |nil=>
  refine⟨[],?_,rfl,.nil,.refl _⟩;simp only[List.length_nil]at hb;rw[bW (b:=Sl.mk (X++[]++Y))]
  .rfl
  .simp only[F_];rw[decide_eq_false (by omega)];rfl
 |cons x s=>
  simp only[di]at hb;obtain⟨M,m1,m2,m3,m4⟩:=TL hs hC X Y ha hB s [x] (fun y hy=>hP y (by rw[aB.1 hy];exact aL)) (fun y hy=>hP y (bp _ hy)) (List.pairwise_singleton _ _) (by simp;omega);refine⟨M,?_,by simp[m2];omega,m3,m4⟩;have e:X++[x]++s++Y=X++(x::s)++Y:=by simp
  rw[e]at m1;have e2:a+[x].length=a+1:=rfl;rw[e2]at m1;rw[m1];rfl
end
section
variable{α:Type}[Inhabited α]{C:α->α->Option Int}{lt:α->α->Bool}{P:α->Prop}
theorem xC{l:List α}{i:Nat}(h:i<l.length):gt l i∈l:=by rw[dx h];exact List.getElem_mem h
end
section
variable{α:Type}[Inhabited α]{C:α->α->Option Int}{lt:α->α->Bool}{P:α->Prop}
inductive ag2(lt:α->α->Bool)(bs:Nat):List α->Prop
 |ane {x:List α}:x.length<=bs->Ms lt x->ag2 lt bs x
 |arQ {x r:List α}:x.length=bs->Ms lt x->ag2 lt bs r->ag2 lt bs (x++r)
end
@[simp] theorem Sl.lc {α:Type} (l:List α):(Sl.mk l).l=l:=rfl
@[simp] theorem Sl.anf {α:Type}:(Sl.nil:Sl α).l=[]:=rfl
end Go.Ev
