/- Sums of floats that are not negative: exact numbers of the least units, rounded to a rung; rising, and not below what is added to. Conditions: as stated. -/
import Ieee.Arith
import GoSem.Core.Float
import Derived.Test.YtoekkpmeeclpeaaGreatVh
open Int renaming compare_eq_eq->gd,compare_eq_gt->fu,compare_eq_lt->ft,lt_trichotomy->qH
open List renaming filter_append->lV,filter_cons->dm,length_cons->ck,mem_append->aG,mem_cons->aI,mem_cons_of_mem->bc,mem_cons_self->aF,mem_filter->dq,mem_singleton->az,pairwise_append->j9,pairwise_cons->fG
open List.cons renaming inj->aB
open Nat renaming add_mul->gb,add_sub_cancel_left->lh,div_add_mod->iH,div_eq_of_lt->lg,exists_eq_succ_of_ne_zero->lz,le_add_right->bN,le_refl->aq,lt_or_ge->eB,mod_eq_of_lt->n_,mul_assoc->gE,mul_comm->iV,mul_le_mul_left->gO,mul_le_mul_right->cx,pow_add->gx,pow_le_pow_right->j8,shiftLeft_eq->nZ,two_pow_pos->d_,zero_le->cp,zero_mul->gK
open Option renaming bind_some->af
noncomputable section
namespace Go.Fl
open Ieee
def rE(n d:Nat):Nat:=n/2^d+(if 2^d<2*(n %2^d)\/2^d=2*(n %2^d)/\n/2^d %2=1 then 1 else 0)
theorem KY{n:Nat}:n<2^(n.log2+1):=Nat.lt_log2_self
theorem Ra{n:Nat}(h:n≠0):2^n.log2<=n:=Nat.log2_self_le h
theorem X6(neg:Bool)(n d:Nat):Toward.even.cut neg n d=rE n d:=by
 show n/1<<<min d (n.log2+2)+(decide (1<<<min d (n.log2+2)<2*(n %1<<<min d (n.log2+2)))||(1<<<min d (n.log2+2)==2*(n %1<<<min d (n.log2+2))&&n/1<<<min d (n.log2+2) %2==1)).toNat=_;unfold rE;by_cases hd:d<=n.log2+2
 .rw [Nat.min_eq_left hd,Nat.one_shiftLeft];congr 1;by_cases h1:2^d<2*(n %2^d)
  .simp [h1]
  .by_cases h2:2^d=2*(n %2^d)/\n/2^d %2=1
   .rw [if_pos (.inr h2)];have e1:(2^d==2*(n %2^d))=true:=beq_iff_eq.2 h2.1;have e2:(n/2^d %2==1)=true:=beq_iff_eq.2 h2.2;simp only[e1,e2,Bool.and_true,Bool.or_true];rfl
   .rw [if_neg (fun h=>h.elim h1 h2)]
    have e1:(2^d==2*(n %2^d)&&n/2^d %2==1)=false:=by
     rw[Bool.and_eq_false_iff];by_cases h3:2^d=2*(n %2^d)
     .right;rw[beq_eq_false_iff_ne];exact fun h=>h2 ⟨h3,h⟩
     .left;rw[beq_eq_false_iff_ne];exact h3
    simp only[decide_eq_false h1,Bool.false_or,e1];rfl
 .have hd:n.log2+2<d:=by omega
  have hn:=@KY n;have e0:2^(n.log2+2)=2*2^(n.log2+1):=by rw[Nat.pow_succ 2 (n.log2+1)];omega
  have e1:2^(n.log2+2)<=2^d:=j8 (by omega) (by omega);rw[Nat.min_eq_right (by omega),Nat.one_shiftLeft,lg (show n<2^(n.log2+2)by omega),n_ (show n<2^(n.log2+2)by omega),lg (show n<2^d by omega),n_ (show n<2^d by omega)];rw[if_neg (by omega)];have h1:¬2^(n.log2+2)<2*n:=by omega
  have h2:(2^(n.log2+2)==2*n)=false:=beq_false_of_ne (by omega);simp only[decide_eq_false h1,h2,Bool.false_and,Bool.or_false];rfl
theorem L5(n:Nat):rE n 0=n:=by unfold rE;rw[Nat.pow_zero,Nat.div_one,Nat.mod_one,if_neg (by omega)];rfl
theorem TS{n m d:Nat}(h:n<=m):rE n d<=rE m d:=by
 unfold rE;have hp:0<2^d:=d_ d;have h1:n/2^d<=m/2^d:=Nat.div_le_div_right h;by_cases e:n/2^d=m/2^d
 .have h2:n %2^d<=m %2^d:=by have a:=iH n (2^d);have b:=iH m (2^d);rw[e]at a;omega
  rw[e];split
  .rename_i hc
   rw[if_pos (by
    rcases hc with hc|hc
    .exact .inl (by omega)
    .by_cases h3:n %2^d=m %2^d
     .rw [<-h3];exact .inr hc
     .exact .inl (by omega))]
   exact aq _
  .omega
 .split<;>split<;>omega
theorem Kq{m k:Nat}:rE (m*2^k) k=m:=by unfold rE;have hp:0<2^k:=d_ k;rw[Nat.mul_div_cancel _ hp,Nat.mul_mod_left,if_neg (by omega)];rfl
theorem Qv{m k d:Nat}:rE (m*2^k) (d+k)=rE m d:=by
 unfold rE;have hp:0<2^k:=d_ k;have e1:m*2^k/2^(d+k)=m/2^d:=by rw[gx,iV (2^d),<-Nat.div_div_eq_div_mul,Nat.mul_div_cancel _ hp]
 have e2:m*2^k %2^(d+k)=m %2^d*2^k:=by rw[gx,Nat.mul_mod_mul_right]
 rw[e1,e2];have e3:2^(d+k)=2^d*2^k:=gx 2 d k;have c1:2^(d+k)<2*(m %2^d*2^k)<->2^d<2*(m %2^d):=by rw[e3,<-gE];exact Nat.mul_lt_mul_right hp
 have c2:2^(d+k)=2*(m %2^d*2^k)<->2^d=2*(m %2^d):=by rw[e3,<-gE];exact Nat.mul_left_inj (by omega)
 simp only[c1,c2]
section
variable(f:Format)
def gU(x:Nat):Nat:=if x/f.binade=0 then x else(f.binade+x %f.binade)*2^(x/f.binade-1)
def Ko(n:Nat):Nat:=if n=0 then 0 else min ((n.log2-f.fractionBits)*f.binade+rE n (n.log2-f.fractionBits)) f.infRung
theorem A0:0<f.binade:=d_ _
theorem IL(neg:Bool)(m:Nat)(k:Nat):f.nearest neg m (f.leastPlace+k)=f.word neg (Ko f (m*2^k)):=by
 unfold Format.nearest Ko;by_cases hm:m=0
 .rw [if_pos hm,hm,gK,if_pos rfl]
 have hmk:m*2^k≠0:=Nat.mul_ne_zero hm (by have:=d_ k;omega);rw[if_neg hm,if_neg hmk];have hl:(m*2^k).log2=m.log2+k:=by induction k with|zero=>simp|succ k ih=>have h0:m*2^k≠0:=Nat.mul_ne_zero hm (by have:=d_ k;omega);rw[Nat.pow_succ,<-gE,iV (m*2^k) 2,Nat.log2_two_mul h0,ih h0];omega
 rw[hl];generalize hd:m.log2+k-f.fractionBits=d;have hlast:max (f.leastPlace+(k:Int)+(m.log2:Int)-(f.fractionBits:Int)) f.leastPlace=f.leastPlace+(d:Int):=by omega
 rw[hlast];have e1:(f.leastPlace+(d:Int)-f.leastPlace).toNat=d:=by omega
 have e2:(f.leastPlace+(k:Int)-(f.leastPlace+(d:Int))).toNat=k-d:=by omega
 have e3:(f.leastPlace+(d:Int)-(f.leastPlace+(k:Int))).toNat=d-k:=by omega
 show f.word neg (min ((f.leastPlace+(d:Int)-f.leastPlace).toNat*f.binade+Toward.even.cut neg (m<<<(f.leastPlace+(k:Int)-(f.leastPlace+(d:Int))).toNat) (f.leastPlace+(d:Int)-(f.leastPlace+(k:Int))).toNat) f.infRung)=_;rw[e1,e2,e3,X6,nZ];congr 3;by_cases hkd:d<=k
 .have:d-k=0:=by omega
  rw[this,L5];have:m*2^k=m*2^(k-d)*2^d:=by rw[gE,<-gx];congr 2;omega
  rw[this,Kq]
 .have h1:k-d=0:=by omega
  rw[h1,Nat.pow_zero,Nat.mul_one];obtain⟨c,rfl⟩:∃c,d=c+k:=⟨d-k,by omega⟩
  rw[Nat.add_sub_cancel,Qv]
theorem Xl(n:Nat):Ko f n<=f.infRung:=by
 unfold Ko;split
 .exact cp _
 .exact Nat.min_le_right _ _
theorem Ic{n m:Nat}(h:n<=m):Ko f n<=Ko f m:=by
 by_cases hn:n=0
 .subst hn;unfold Ko;rw[if_pos rfl];exact cp _
 have hm:m≠0:=by omega
 unfold Ko;rw[if_neg hn,if_neg hm]
 have hlog:n.log2<=m.log2:=by
  rcases eB m.log2 n.log2 with h1|h1
  .have a:=Ra hn;have b:=@KY m;have c:2^(m.log2+1)<=2^n.log2:=j8 (by omega) h1;omega
  .exact h1
 have key:(n.log2-f.fractionBits)*f.binade+rE n (n.log2-f.fractionBits)<=(m.log2-f.fractionBits)*f.binade+rE m (m.log2-f.fractionBits):=by
  by_cases e:n.log2-f.fractionBits=m.log2-f.fractionBits
  .rw [e];exact Nat.add_le_add_left (TS h) _
  .generalize hd:n.log2-f.fractionBits=d at*;generalize hd':m.log2-f.fractionBits=d' at*;have hlt:d<d':=by omega
   have hm2:m.log2=f.fractionBits+d':=by omega
   have h1:f.binade<=m/2^d':=by rw[Nat.le_div_iff_mul_le (d_ d')];show 2^f.fractionBits*2^d'<=m;rw[<-gx,<-hm2];exact Ra hm
   have h2:f.binade<=rE m d':=Nat.le_trans h1 (bN _ _)
   have h3:n/2^d<2*f.binade:=by
    rw[Nat.div_lt_iff_lt_mul (d_ d)];show n<2*2^f.fractionBits*2^d;have a:=@KY n;have b:2^(n.log2+1)<=2^(f.fractionBits+d+1):=j8 (by omega) (by omega);have c:2^(f.fractionBits+d+1)=2*2^f.fractionBits*2^d:=by rw[Nat.pow_succ,gx,iV _ 2,<-gE]
    omega
   have h4:rE n d<=2*f.binade:=by unfold rE;split<;>omega
   obtain⟨c,rfl⟩:∃c,d'=d+1+c:=⟨d'-(d+1),by omega⟩
   have h5:(d+1+c)*f.binade=d*f.binade+f.binade+c*f.binade:=by rw[gb,gb,Nat.one_mul]
   have h6:0<=c*f.binade:=cp _;omega
 omega
theorem yX{x y:Nat}(h:x<=y):gU f x<=gU f y:=by
 have hb:=A0 f;unfold gU;have hq:x/f.binade<=y/f.binade:=Nat.div_le_div_right h;have ha:=iH x f.binade;have hc:=iH y f.binade;have hr:=Nat.mod_lt x hb;by_cases e:x/f.binade=y/f.binade
 .rw [e]at ha|-;split
  .exact h
  .exact cx _ (by omega)
 .split
  .rename_i h0;rw[if_neg (fun q=>e (h0.trans q.symm))];have:x<f.binade:=by rw[h0]at ha;omega
   have:f.binade<=f.binade+y %f.binade:=bN _ _;have p:=d_ (y/f.binade-1)
   calc x<=f.binade+y %f.binade:=by omega
    _=(f.binade+y %f.binade)*1:=(Nat.mul_one _).symm
    _<=_:=gO _ p
  .rename_i h0;have hy0:¬y/f.binade=0:=fun q=>h0 (Nat.le_zero.1 (q▸hq));rw[if_neg hy0];obtain⟨q,hq1⟩:=lz h0;have hq1:x/f.binade=q+1:=hq1;obtain⟨c,hq2⟩:∃c,y/f.binade=q+2+c:=by obtain⟨c,hc2⟩:=Nat.exists_eq_add_of_lt (Nat.lt_of_le_of_ne hq e);exact⟨c,by rw[hc2,hq1];omega⟩
   rw[hq1,hq2];have e1:q+1-1=q:=by omega
   have e2:q+2+c-1=q+(1+c):=by omega
   rw[e1,e2,gx];have p:=d_ c
   calc (f.binade+x %f.binade)*2^q<=(2*f.binade)*2^q:=cx _ (by omega)
    _=f.binade*(2^q*2):=by rw[iV 2,gE,iV 2]
    _<=f.binade*(2^q*2^(1+c)):=gO _ (gO _ (by rw[gx,Nat.pow_one];omega))
    _<=_:=cx _ (bN _ _)
theorem yg{x:Nat}(h:x<f.infRung):Ko f (gU f x)=x:=by
 have hb:=A0 f;have ha:=iH x f.binade;have hr:=Nat.mod_lt x hb;unfold gU;split
 .rename_i h0;have hx:x<f.binade:=by rw[h0]at ha;omega
  unfold Ko;by_cases hx0:x=0
  .rw [if_pos hx0,hx0]
  .rw [if_neg hx0];have hl:x.log2<f.fractionBits:=(Nat.log2_lt hx0).2 hx;have:x.log2-f.fractionBits=0:=by omega
   rw[this,gK,Nat.zero_add,L5];omega
 .rename_i h0;obtain⟨q,hq⟩:=lz h0;have hq:x/f.binade=q+1:=hq;rw[hq]at ha|-;rw[Nat.add_sub_cancel];have hne:(f.binade+x %f.binade)*2^q≠0:=Nat.mul_ne_zero (by omega) (by have:=d_ q;omega);unfold Ko;rw[if_neg hne]
  have hl:((f.binade+x %f.binade)*2^q).log2=f.fractionBits+q:=by
   rw[Nat.log2_eq_iff hne];constructor
   .rw [gx];exact cx _ (bN _ _)
   .rw [Nat.pow_succ,gx];have:(f.binade+x %f.binade)*2^q<(2*f.binade)*2^q:=Nat.mul_lt_mul_of_pos_right (by omega) (d_ q);have e:2^f.fractionBits*2^q*2=(2*f.binade)*2^q:=by show 2^f.fractionBits*2^q*2=(2*2^f.fractionBits)*2^q;rw[iV 2,gE,gE,iV 2]
    omega
  rw[hl,lh,Kq];have e:(q+1)*f.binade=q*f.binade+f.binade:=by rw[gb,Nat.one_mul]
  rw[iV f.binade]at ha;omega
theorem tM{x:Nat}(h:x<f.infRung)(hs:f.infRung<=f.signWeight):∃(m k:Nat),f.read x=.number false m (f.leastPlace+k)/\m*2^k=gU f x:=by
 have hb:=A0 f;have ha:=iH x f.binade;have h1:x/f.signWeight=0:=lg (by omega);have h2:x %f.signWeight=x:=n_ (by omega);unfold Format.read gU;rw[h1,h2];simp only[Nat.zero_mod];by_cases hx:x<f.binade
 .refine ⟨x,0,?_,?_⟩
  .rw [if_pos hx];simp
  .rw [if_pos (lg hx)];simp
 .have hq:x/f.binade≠0:=by intro h0;rw[h0]at ha;have:=Nat.mod_lt x hb;omega
  refine⟨f.binade+x %f.binade,x/f.binade-1,?_,?_⟩
  .rw [if_neg hx,if_pos h];rfl
  .rw [if_neg hq]
theorem O4{x y:Nat}(hx:x<f.infRung)(hy:y<f.infRung)(hs:f.infRung<=f.signWeight):f.add x y=some (Ko f (gU f x+gU f y)):=by
 obtain⟨m,k,e1,e2⟩:=tM f hx hs;obtain⟨n,l,e3,e4⟩:=tM f hy hs;unfold Format.add;rw[e1,e3];simp only[Datum.sum];have hb:min (f.leastPlace+(k:Int)) (f.leastPlace+(l:Int))=f.leastPlace+((min k l:Nat):Int):=by omega
 rw[hb];have t1:(f.leastPlace+(k:Int)-(f.leastPlace+((min k l:Nat):Int))).toNat=k-min k l:=by omega
 have t2:(f.leastPlace+(l:Int)-(f.leastPlace+((min k l:Nat):Int))).toNat=l-min k l:=by omega
 rw[t1,t2];simp only[signed,Bool.false_eq_true,if_false,nZ];rw[<-Int.natCast_add,Int.natAbs_natCast]
 have hneg:(if((m*2^(k-min k l)+n*2^(l-min k l):Nat):Int)=0 then false&&false else decide (((m*2^(k-min k l)+n*2^(l-min k l):Nat):Int)<0))=false:=by
  split
  .rfl
  .exact decide_eq_false (by omega)
 rw[hneg,Option.map_some];show some (f.nearest false _ _)=_;rw[IL];have e5:(m*2^(k-min k l)+n*2^(l-min k l))*2^min k l=gU f x+gU f y:=by rw[gb,gE,gE,<-gx,<-gx,<-e2,<-e4];congr 3<;>omega
 rw[e5];rfl
theorem Ak(hs:f.infRung<f.signWeight)(hb:f.binade<=f.infRung):f.read f.infRung=.infinity false:=by unfold Format.read;rw[lg hs,n_ hs];simp only[Nat.zero_mod];rw[if_neg (by omega),if_neg (by omega),if_pos trivial];rfl
end
def plus(f:Format)(x y:Nat):Nat:=if x<f.infRung/\y<f.infRung then Ko f (gU f x+gU f y)else f.infRung
section
variable{f:Format}
theorem SQ(hs:f.infRung<f.signWeight)(hb:f.binade<=f.infRung){x y:Nat}(hx:x<=f.infRung)(hy:y<=f.infRung):f.add x y=some (plus f x y):=by
 unfold plus;by_cases h1:x<f.infRung
 .by_cases h2:y<f.infRung
  .rw [if_pos ⟨h1,h2⟩,O4 f h1 h2 (by omega)]
  .obtain rfl:y=f.infRung:=by omega
   rw[if_neg (fun h=>h2 h.2)];obtain⟨m,k,e1,_⟩:=tM f h1 (by omega);unfold Format.add;rw[e1,Ak f hs hb];rfl
 .obtain rfl:x=f.infRung:=by omega
  rw[if_neg (fun h=>h1 h.1)];unfold Format.add;rw[Ak f hs hb];by_cases h2:y<f.infRung
  .obtain ⟨m,k,e1,_⟩:=tM f h2 (by omega);rw[e1];rfl
  .obtain rfl:y=f.infRung:=by omega
   rw[Ak f hs hb];rfl
theorem CT{x y:Nat}:plus f x y<=f.infRung:=by
 unfold plus;split
 .exact Xl f _
 .exact aq _
theorem NR{x y x' y':Nat}(hx:x<=x')(hy:y<=y'):plus f x y<=plus f x' y':=by
 by_cases h:x'<f.infRung/\y'<f.infRung
 .unfold plus;rw[if_pos h,if_pos ⟨by omega,by omega⟩];exact Ic f (Nat.add_le_add (yX f hx) (yX f hy))
 .have:plus f x' y'=f.infRung:=by unfold plus;rw[if_neg h]
  rw[this];exact CT
theorem Ks{x y:Nat}(hy:y<=f.infRung):y<=plus f x y:=by
 unfold plus;split
 .rename_i h
  calc y=Ko f (gU f y):=(yg f h.2).symm
   _<=_:=Ic f (Nat.le_add_left _ _)
 .exact hy
end
open Ieee
section
variable(f:Format)
theorem Ga{x y:Nat}(h:x<y)(hy:y<=f.infRung):gU f x<gU f y:=by
 have hx:x<f.infRung:=by omega
 have hle:=yX f (Nat.le_of_lt h);rcases eB y f.infRung with h1|h1
 .rcases eB (gU f x) (gU f y)with h2|h2
  .exact h2
  .have e:gU f x=gU f y:=by omega
   have:=yg f hx;rw[e,yg f h1]at this;omega
 .obtain rfl:y=f.infRung:=by omega
  rcases eB (gU f x) (gU f f.infRung)with h2|h2
  .exact h2
  .exfalso;have e:gU f x=gU f f.infRung:=by omega
   have hr:=yg f hx;rw[e]at hr;have hb:=A0 f;have hm:f.infRung %f.binade=0:=Nat.mul_mod_left _ _;have hd:f.infRung/f.binade=2^f.exponentBits-1:=Nat.mul_div_cancel _ hb;have hpos:f.infRung≠0:=by omega
   have h0:¬2^f.exponentBits-1=0:=by intro h0;apply hpos;show(2^f.exponentBits-1)*f.binade=0;rw[h0,gK]
   obtain⟨q,hq⟩:=lz h0;have hq:2^f.exponentBits-1=q+1:=hq;have hu:gU f f.infRung=f.binade*2^q:=by unfold gU;rw[hd,hm,if_neg h0,hq,Nat.add_zero,Nat.add_sub_cancel]
   have hne:f.binade*2^q≠0:=Nat.mul_ne_zero (by omega) (by have:=d_ q;omega);rw[hu]at hr;unfold Ko at hr;have hl:(f.binade*2^q).log2=f.fractionBits+q:=by show(2^f.fractionBits*2^q).log2=_;rw[<-gx,Nat.log2_two_pow]
   rw[if_neg hne,hl,lh,Kq]at hr;have e2:f.infRung=q*f.binade+f.binade:=by show(2^f.exponentBits-1)*f.binade=_;rw[hq,gb,Nat.one_mul]
   rw[<-e2,Nat.min_self]at hr;omega
def su(x:Nat):Int:=if x/f.signWeight %2=1 then-(gU f (x %f.signWeight):Int)else gU f (x %f.signWeight)
theorem Gr{x:Nat}(h:x %f.signWeight<f.infRung):∃(m k:Nat),f.read x=.number (x/f.signWeight %2==1) m (f.leastPlace+k)/\signed (x/f.signWeight %2==1) m k=su f x:=by
 have hb:=A0 f;unfold su;generalize hs:x/f.signWeight %2=s;generalize hr:x %f.signWeight=r at h
 have hR:f.read x=if r<f.binade then .number (s==1) r f.leastPlace
   else if r<f.infRung then .number (s==1) (f.binade+r %f.binade) (f.leastPlace+(r/f.binade-1:Nat))
   else if r=f.infRung then .infinity (s==1)else .nan (s==1) (r-f.infRung):=by
  unfold Format.read;rw[hs,hr]
 rw[hR]
 have key:∀m k,m*2^k=gU f r->signed (s==1) m k=if s=1 then-(gU f r:Int)else gU f r:=by
  intro m k e;unfold signed;rw[nZ,e];by_cases h1:s=1
  .simp [h1]
  .rw [if_neg h1,if_neg (by simpa using h1)]
 by_cases hx:r<f.binade
 .rw [if_pos hx];refine⟨r,0,by simp,key _ _ ?_⟩;unfold gU;rw[if_pos (lg hx)];simp
 .rw [if_neg hx,if_pos h];refine⟨_,_,rfl,key _ _ ?_⟩;unfold gU;rw[if_neg];intro h0;have ha:=iH r f.binade;rw[h0]at ha;have:=Nat.mod_lt r hb;omega
theorem Br{x:Nat}(h:x %f.signWeight=f.infRung)(hb:f.binade<=f.infRung):f.read x=.infinity (x/f.signWeight %2==1):=by unfold Format.read;rw[h];simp only;rw[if_neg (by omega),if_neg (by omega),if_pos trivial]
theorem Dj(neg:Bool)(m a b:Nat):signed neg m (a+b)=signed neg m a*(2^b:Nat):=by
 unfold signed;rw[nZ,nZ,gx,<-gE];cases neg
 .simp
 .simp [Int.neg_mul]
theorem Vk(a b:Int){c:Nat}(hc:0<c):compare (a*c) (b*c)=compare a b:=by
 have hc:(0:Int)<c:=by omega
 rcases qH a b with h|h|h
 .rw [ft.2 h,ft];exact Int.mul_lt_mul_of_pos_right h hc
 .rw [h];rw[gd.2 rfl,gd.2 rfl]
 .rw [fu.2 h,fu];exact Int.mul_lt_mul_of_pos_right h hc
theorem N0(s t:Bool)(m k n l:Nat)(p:Int):(Datum.number s m (p+k)).order (.number t n (p+l))=some (compare (signed s m k) (signed t n l)):=by
 unfold Datum.order;simp only;have hb:min (p+(k:Int)) (p+(l:Int))=p+((min k l:Nat):Int):=by omega
 rw[hb];have t1:(p+(k:Int)-(p+((min k l:Nat):Int))).toNat=k-min k l:=by omega
 have t2:(p+(l:Int)-(p+((min k l:Nat):Int))).toNat=l-min k l:=by omega
 rw[t1,t2];have e1:=Dj s m (k-min k l) (min k l);have e2:=Dj t n (l-min k l) (min k l);rw[Nat.sub_add_cancel (by omega)]at e1 e2;rw[e1,e2,Vk _ _ (d_ _)]
end
def pl(x:Nat):Int:=if 9223372036854775808<=x then 9223372036854775808-(x:Int)else x
abbrev D:Format:=double
theorem PN:D.signWeight=9223372036854775808:=by decide
theorem w4:D.infRung=9218868437227405312:=by decide
theorem aci:D.binade=4503599627370496:=by decide
def ok(x:Nat):Prop:=x<18446744073709551616/\x %9223372036854775808<=9218868437227405312
theorem YU{x y:Nat}(hx:ok x)(hy:ok y):compare (su D x) (su D y)=compare (pl x) (pl y):=by
 obtain⟨hx1,hx2⟩:=hx;obtain⟨hy1,hy2⟩:=hy;have hlt:∀a b:Nat,a<b->b<=9218868437227405312->gU D a<gU D b:=fun a b h1 h2=>Ga D h1 (by rw[w4];exact h2);have hz:gU D 0=0:=by decide
 have key:∀a b:Nat,a<18446744073709551616->b<18446744073709551616->a %9223372036854775808<=9218868437227405312->b %9223372036854775808<=9218868437227405312->pl a<pl b->su D a<su D b:=by
  intro a b ha hb ha2 hb2 h;unfold su;rw[PN];unfold pl at h;by_cases h1:9223372036854775808<=a
  .rw [if_pos h1]at h;rw[if_pos (by omega)];by_cases h2:9223372036854775808<=b
   .rw [if_pos h2]at h;rw[if_pos (by omega)];have:=hlt (b %9223372036854775808) (a %9223372036854775808) (by omega) ha2;omega
   .rw [if_neg h2]at h;rw[if_neg (by omega)];by_cases h3:a %9223372036854775808=0
    .have:=hlt 0 (b %9223372036854775808) (by omega) hb2;omega
    .have:=hlt 0 (a %9223372036854775808) (by omega) ha2;omega
  .rw [if_neg h1]at h;rw[if_neg (by omega)];by_cases h2:9223372036854775808<=b
   .rw [if_pos h2]at h;omega
   .rw [if_neg h2]at h;rw[if_neg (by omega)];have:=hlt (a %9223372036854775808) (b %9223372036854775808) (by omega) hb2;omega
 rcases qH (pl x) (pl y)with h|h|h
 .rw [ft.2 h,ft.2 (key _ _ hx1 hy1 hx2 hy2 h)]
 .rw [gd.2 h,gd];unfold pl at h;unfold su;rw[PN];by_cases h1:9223372036854775808<=x<;>by_cases h2:9223372036854775808<=y
  .rw [if_pos h1,if_pos h2]at h;have:x=y:=by omega
   rw[this]
  .rw [if_pos h1,if_neg h2]at h;have e1:x %9223372036854775808=0:=by omega
   have e2:y %9223372036854775808=0:=by omega
   rw[e1,e2,hz];simp
  .rw [if_neg h1,if_pos h2]at h;have e1:x %9223372036854775808=0:=by omega
   have e2:y %9223372036854775808=0:=by omega
   rw[e1,e2,hz];simp
  .rw [if_neg h1,if_neg h2]at h;have:x=y:=by omega
   rw[this]
 .rw [fu.2 h,fu.2 (key _ _ hy1 hx1 hy2 hx2 h)]
theorem LV{x:Nat}(h:x<18446744073709551616):(x/D.signWeight %2==1)=decide (9223372036854775808<=x):=by
 rw[PN];by_cases h1:9223372036854775808<=x
 .rw [decide_eq_true h1];have:x/9223372036854775808 %2=1:=by omega
  rw[this];rfl
 .rw [decide_eq_false h1];have:x/9223372036854775808 %2=0:=by omega
  rw[this];rfl
theorem As{x y:Nat}(hx:ok x)(hy:ok y):D.order x y=some (compare (pl x) (pl y)):=by
 have hx':=hx;have hy':=hy;obtain⟨hx1,hx2⟩:=hx;obtain⟨hy1,hy2⟩:=hy;unfold Format.order;have sx:=LV hx1;have sy:=LV hy1;have hbi:D.binade<=D.infRung:=by decide
 by_cases ix:x %9223372036854775808=9218868437227405312
 .have rx:=Br D (x:=x) (by rw[PN,w4];exact ix) hbi;by_cases iy:y %9223372036854775808=9218868437227405312
  .have ry:=Br D (x:=y) (by rw[PN,w4];exact iy) hbi;rw[rx,ry,sx,sy];unfold pl;by_cases h1:9223372036854775808<=x<;>by_cases h2:9223372036854775808<=y
   .rw [decide_eq_true h1,decide_eq_true h2,if_pos h1,if_pos h2];have:x=y:=by omega
    rw[this,gd.2 rfl];rfl
   .rw [decide_eq_true h1,decide_eq_false h2,if_pos h1,if_neg h2,ft.2 (by omega)];rfl
   .rw [decide_eq_false h1,decide_eq_true h2,if_neg h1,if_pos h2,fu.2 (by omega)];rfl
   .rw [decide_eq_false h1,decide_eq_false h2,if_neg h1,if_neg h2];have:x=y:=by omega
    rw[this,gd.2 rfl];rfl
  .obtain ⟨m,k,ry,_⟩:=Gr D (x:=y) (by rw[PN,w4];omega);rw[rx,ry,sx];show some (if decide (9223372036854775808<=x)=true then Ordering.lt else Ordering.gt)=_;unfold pl;by_cases h1:9223372036854775808<=x
   .rw [decide_eq_true h1,if_pos rfl,if_pos h1,ft.2 (by split<;>omega)]
   .rw [decide_eq_false h1,if_neg (by simp),if_neg h1,fu.2 (by split<;>omega)]
 .obtain ⟨m,k,rx,ex⟩:=Gr D (x:=x) (by rw[PN,w4];omega);by_cases iy:y %9223372036854775808=9218868437227405312
  .have ry:=Br D (x:=y) (by rw[PN,w4];exact iy) hbi;rw[rx,ry,sy];show some (if decide (9223372036854775808<=y)=true then Ordering.gt else Ordering.lt)=_;unfold pl;by_cases h1:9223372036854775808<=y
   .rw [decide_eq_true h1,if_pos rfl,if_pos h1,fu.2 (by split<;>omega)]
   .rw [decide_eq_false h1,if_neg (by simp),if_neg h1,ft.2 (by split<;>omega)]
  .obtain ⟨n,l,ry,ey⟩:=Gr D (x:=y) (by rw[PN,w4];omega);rw[rx,ry,N0,ex,ey,YU hx' hy']
theorem Mi{x:Nat}:(D.read x).isNaN=true<->9218868437227405312<x %9223372036854775808:=by
 constructor
 .intro h;unfold Format.read at h;rw[PN,w4,aci]at h;simp only at h;split at h
  .cases h
  split at h
  .cases h
  split at h
  .cases h
  omega
 .intro h;unfold Format.read;rw[PN,w4,aci];simp only;rw[if_neg (by omega),if_neg (by omega),if_neg (by omega)];rfl
theorem N1{x y:Nat}(h:(D.read x).isNaN=true\/(D.read y).isNaN=true):D.order x y=none:=by
 unfold Format.order;cases hx:D.read x with
 |nan s t=>rfl
 |number s m p=>
  rw[hx]at h;cases hy:D.read y with
  |nan=>rfl
  |_=>rw[hy]at h;rcases h with h|h<;>cases h
 |infinity s=>
  rw[hx]at h;cases hy:D.read y with
  |nan=>rfl
  |_=>rw[hy]at h;rcases h with h|h<;>cases h
end Go.Fl
namespace Go.Ev
structure O5{α:Type}(lt:α->α->Bool):Prop where
 irr:∀x,lt x x=false
 tr:∀x y z,lt x y=true->lt y z=true->lt x z=true
 ntr:∀x y z,lt x y=false->lt y z=false->lt x z=false
section
variable{α:Type}{lt:α->α->Bool}
def EM(lt:α->α->Bool)(x y:α):Bool:=!lt x y&&!lt y x
def F7(lt:α->α->Bool)(l:List α):Prop:=l.Pairwise fun x y=>lt y x=false
def qB(lt:α->α->Bool)(a b:List α):Prop:=∀x,a.filter (EM lt x)=b.filter (EM lt x)
theorem AX{x y:α}:EM lt x y=true<->lt x y=false/\lt y x=false:=by unfold EM;simp
theorem Er(h:O5 lt)(x:α):EM lt x x=true:=AX.2 ⟨h.irr x,h.irr x⟩
theorem Yb(h:O5 lt){c x y:α}(h1:EM lt c x=true)(h2:EM lt c y=true):EM lt x y=true:=by rw[AX]at*;exact⟨h.ntr _ _ _ h1.2 h2.1,h.ntr _ _ _ h2.2 h1.1⟩
theorem O5.afB(h:O5 lt){x y:α}(h1:lt x y=true):lt y x=false:=by cases h2:lt y x with|false=>rfl|true=>have:=h.tr _ _ _ h1 h2;rw[h.irr]at this;cases this
theorem qB.refl(a:List α):qB lt a a:=fun _=>rfl
theorem qB.symm{a b:List α}(h:qB lt a b):qB lt b a:=fun x=>(h x).symm
theorem qB.trans{a b c:List α}(h:qB lt a b)(g:qB lt b c):qB lt a c:=fun x=>(h x).trans (g x)
theorem qB.WE{a b c d:List α}(h:qB lt a b)(g:qB lt c d):qB lt (a++c) (b++d):=fun x=>by rw[lV,lV,h x,g x]
theorem qB.AA(hs:O5 lt){a b:List α}(h:qB lt a b){x:α}:x∈a<->x∈b:=by
 have key:∀l:List α,x∈l<->x∈l.filter (EM lt x):=fun l=>by simp[dq,Er hs]
 rw[key a,key b,h x]
theorem qB.swap(hs:O5 lt){u v:List α}(h:∀x∈u,∀y∈v,EM lt x y=false):qB lt (u++v) (v++u):=fun c=>by
 rw[lV,lV];cases hu:u.filter (EM lt c)with
 |nil=>simp
 |cons x r=>
  have hx:x∈u.filter (EM lt c):=by rw[hu];exact aF
  have hv:v.filter (EM lt c)=[]:=List.filter_eq_nil_iff.2 fun y hy hc=>by have:=h x (dq.1 hx).1 y hy;rw[Yb hs (dq.1 hx).2 hc]at this;cases this
  rw[hv];simp
theorem PT(h:O5 lt):∀{a b:List α},F7 lt a->F7 lt b->qB lt a b->a=b:=by
 intro a;induction a with
 |nil=>intro b _ _ hs;cases b with|nil=>rfl|cons y b=>have:=(hs.AA h (x:=y)).2 aF;cases this
 |cons x a ih=>
  intro b ha hb hs;cases b with
  |nil=>have:=(hs.AA h (x:=x)).1 aF;cases this
  |cons y b=>
   obtain⟨ha1,ha2⟩:=fG.1 ha;obtain⟨hb1,hb2⟩:=fG.1 hb
   have hxy:lt y x=false:=by
    rcases aI.1 ((hs.AA h (x:=y)).2 aF)with e|e
    .rw [e];exact h.irr x
    .exact ha1 y e
   have hyx:lt x y=false:=by
    rcases aI.1 ((hs.AA h (x:=x)).1 aF)with e|e
    .rw [e];exact h.irr y
    .exact hb1 x e
   have hc:=hs x;rw[dm,dm,if_pos (Er h x),if_pos (AX.2 ⟨hyx,hxy⟩)]at hc;obtain rfl:=(aB hc).1;congr 1;refine ih ha2 hb2 fun c=>?_;have hc:=hs c;rw[dm,dm]at hc;split at hc
   .exact (aB hc).2
   .exact hc
theorem F7.WE{a b:List α}(ha:F7 lt a)(hb:F7 lt b)(h:∀x∈a,∀y∈b,lt y x=false):F7 lt (a++b):=j9.2 ⟨ha,hb,h⟩
theorem F7.QX{a b:List α}(h:F7 lt (a++b)):F7 lt a/\F7 lt b/\∀x∈a,∀y∈b,lt y x=false:=j9.1 h
end
def c_{α β:Type}:Nat->(α->Option (Sum α β))->α->Option β
 |0,_,_=>none
 |n+1,f,s=>match f s with|none=>none|some (.inl s')=>c_ n f s'|some (.inr b)=>some b
def aN{α:Type}(x y:Option α):Prop:=∀z,x=some z->y=some z
theorem aN.refl{α:Type}(x:Option α):aN x x:=fun _ h=>h
theorem aN.bind{α β:Type}{x y:Option α}{f g:α->Option β}(h:aN x y)(hf:∀a,aN (f a) (g a)):aN (x.bind f) (y.bind g):=by intro z hz;obtain⟨a,ha,hb⟩:=Option.bind_eq_some_iff.1 hz;rw[h a ha];exact hf a z hb
theorem aN.cond{α:Type}{c:Bool}{a a' b b':Option α}(h1:aN a a')(h2:aN b b'):aN (bif c then a else b) (bif c then a' else b'):=by
 cases c
 .exact h2
 .exact h1
theorem aN.loop{α β:Type}{f g:α->Option (Sum α β)}(h:∀a,aN (f a) (g a)):∀(n:Nat)(s:α),aN (c_ n f s) (aU g s):=by
 intro n;induction n with
 |zero=>intro s z hz;simp[c_]at hz
 |succ n ih=>
  intro s z hz;simp only[c_]at hz;split at hz
  .simp at hz
  .rename_i s' hs;rw[fA (h _ _ hs)];exact ih s' z hz
  .rename_i b hs;rw[cQ (h _ _ hs),hz]
end Go.Ev
open Go.Ev Go
namespace Go.Ev
section
variable{α:Type}[Inhabited α](C:α->α->Option Int)
def AK(a_1:Int):(Int×Sl α)->Option ((Int×Sl α)⊕(Sl α)):=fun(i9,s10)=>
 (bif decide (i9>a_1)then((cH i9 s10.l.length).bind fun n11=>
 (cH (wr .i64 (i9-1)) s10.l.length).bind fun n12=>
 (C (gt s10.l n11) (gt s10.l n12)).bind fun r13=>
 some (decide (r13<0)))else
 (some false):Option Bool).bind fun b14=>
 bif b14 then((cH (wr .i64 (i9-1)) s10.l.length).bind fun n15=>
 (cH i9 s10.l.length).bind fun n16=>
 (cH i9 s10.l.length).bind fun n17=>
 (cH (wr .i64 (i9-1)) (s10.l.set n17 (gt s10.l n15)).length).bind fun n18=>
 some (.inl (wr .i64 (i9-1),(Sl.mk ((s10.l.set n17 (gt s10.l n15)).set n18 (gt s10.l n16))))))else
 (some (.inr s10))
def AJ(a_1:Int)(b_2:Int):(Int×Sl α)->Option ((Int×Sl α)⊕(Sl α)):=fun(i4,s5)=>
 bif decide (i4<b_2)then((aU (AK C a_1) (i4,s5)).bind fun s19=>
 some (.inl (wr .i64 (i4+1),s19)))else
 (some (.inr s5))
def UC(data_0:Sl α)(a_1:Int)(b_2:Int):Option (Sl α):=
 (aU (AJ C a_1 b_2) (wr .i64 (a_1+1),data_0)).bind fun s20=>
 some s20
end
section
variable{α:Type}[Inhabited α]
theorem wq{n:Int}(h0:-9223372036854775808<=n)(h1:n<9223372036854775808):wr .i64 n=n:=by simp[wr,IntKind.wrap,IntKind.bits,IntKind.signed];omega
theorem UL{i j:Nat}(h:i+j<9223372036854775808):wr .i64 (oT .u64 (wr .u64 (wr .i64 ((i:Int)+(j:Int)))) 1)=(((i+j)/2:Nat):Int):=by
 rw[wq (n:=(i:Int)+(j:Int)) (by omega) (by omega)];have e:wr .u64 ((i:Int)+(j:Int))=(i:Int)+(j:Int):=by simp[wr,IntKind.wrap,IntKind.bits,IntKind.signed];omega
 rw[e];have e2:oT .u64 ((i:Int)+(j:Int)) 1=(((i+j)/2:Nat):Int):=by show((i:Int)+(j:Int)).fdiv (2^1)=_;rw[Int.fdiv_eq_ediv_of_nonneg _ (by decide)];omega
 rw[e2,wq (by omega) (by omega)]
theorem BC{n m:Nat}(h:n<m):cH (n:Int) m=some n:=nq.2 ⟨rfl,h⟩
theorem FX{A B:List α}{x:α}:gt (A++x::B) A.length=x:=by simp[gt]
theorem aem{A B D:List α}{x y:α}{j:Nat}(hj:j=A.length+1+B.length):gt (A++x::(B++y::D)) j=y/\((A++x::(B++y::D)).set A.length y).set j x=A++y::(B++x::D):=by
 subst hj;constructor
 .have e:A++x::(B++y::D)=(A++x::B)++y::D:=by simp
  have l:A.length+1+B.length=(A++x::B).length:=by simp;omega
  rw[e,l];exact FX
 .have e:(A++x::(B++y::D)).set A.length y=(A++y::B)++y::D:=by rw[List.set_append_right _ _ (aq _),Nat.sub_self];simp
  have l:A.length+1+B.length=(A++y::B).length:=by simp;omega
  rw[e,l,List.set_append_right _ _ (aq _),Nat.sub_self];simp
theorem Uw{β:Type}{a b:List β}(h:a.length=b.length):m8 (Sl.mk a) (Sl.mk b)=some ():=by show I2 a b=some ();exact FQ.2 h
end
def YL{α:Type}(C:α->α->Option Int)(lt:α->α->Bool)(P:α->Prop):Prop:=∀x y,P x->P y->∃r,C x y=some r/\decide (r<0)=lt x y
section
variable{α:Type}[Inhabited α]{C:α->α->Option Int}{lt:α->α->Bool}{P:α->Prop}
theorem Rx(hC:YL C lt P){a:Nat}(qi:List α)(x:α)(ha:a=qi.length)(hx:P x):∀(p s:List α),(∀y∈p,P y)->a+p.length<4611686018427387904->
  ∃u v,p.reverse=u++v/\(∀y∈v,lt x y=true)/\(u=[]\/∃u' y,u=u'++[y]/\lt x y=false)/\
   aU (AK C (a:Int)) (((a+p.length:Nat):Int),Sl.mk (qi++p.reverse++x::s))=some (Sl.mk (qi++u++x::(v++s)))
 |[],s,_,hb=>by refine⟨[],[],rfl,by simp,.inl rfl,cQ ?_⟩;simp only[AK];rw[decide_eq_false (by simp),cond_false,af,cond_false];simp
 |y::r,s,hp,hb=>by
  obtain⟨q,hq,hq2⟩:=hC x y hx (hp y aF);have e0:qi++(y::r).reverse++x::s=(qi++r.reverse)++y::([]++x::s):=by simp
  have hl:((qi++r.reverse)++y::([]++x::s)).length=a+r.length+2+s.length:=by simp;omega
  have hA:(qi++r.reverse).length=a+r.length:=by simp;omega
  obtain⟨g1,g2⟩:=aem (A:=qi++r.reverse) (B:=[]) (D:=s) (x:=y) (y:=x) (j:=a+r.length+1) (by simp;omega);have g3:gt ((qi++r.reverse)++y::([]++x::s)) (a+r.length)=y:=by rw[<-hA];exact FX
  have w0:(((a+(y::r).length:Nat)):Int)=((a+r.length+1:Nat):Int):=by simp;omega
  have w1:wr .i64 (((a+r.length+1:Nat):Int)-1)=((a+r.length:Nat):Int):=by rw[wq (by omega) (by simp at hb;omega)];omega
  have hb':bif decide (((a+r.length+1:Nat):Int)>(a:Int))then True else False:=by rw[decide_eq_true (by omega)];trivial
  have i1:cH ((a+r.length+1:Nat):Int) ((qi++r.reverse)++y::([]++x::s)).length=some (a+r.length+1):=BC (by omega);have i2:cH ((a+r.length:Nat):Int) ((qi++r.reverse)++y::([]++x::s)).length=some (a+r.length):=BC (by omega);rw[w0,e0];cases hc:lt x y with
  |false=>refine⟨(y::r).reverse,[],by simp,by simp,.inr ⟨r.reverse,y,by simp,hc⟩,(cQ (b:=Sl.mk ((qi++r.reverse)++y::([]++x::s))) ?_).trans (by simp)⟩;simp only[AK,w1,Sl.l];rw[decide_eq_true (by omega),cond_true,i1,af,i2,af,g1,g3,hq,af,af,hq2,hc,cond_false]
  |true=>
   obtain⟨u,v,h1,h2,h3,h4⟩:=Rx hC qi x ha hx r (y::s) (fun z hz=>hp z (bc _ hz)) (by simp at hb;omega);refine⟨u,v++[y],by rw[List.reverse_cons,h1];simp,fun z hz=>?_,h3,(fA (a':=(((a+r.length:Nat):Int),Sl.mk ((qi++r.reverse)++x::([]++y::s)))) ?_).trans ?_⟩
   .rcases aG.1 hz with hz|hz
    .exact h2 z hz
    .rw [az.1 hz];exact hc
   .simp only[AK,w1,Sl.l];rw[decide_eq_true (by omega),cond_true,i1,af,i2,af,g1,g3,hq,af,af,hq2,hc,cond_true,af,af,af,List.length_set,i2,af];have g4:=g2;rw[hA]at g4;have g5:(((qi++r.reverse)++y::([]++x::s)).set (a+r.length+1) y).set (a+r.length) x=(qi++r.reverse)++x::([]++y::s):=by rw[List.set_comm _ _ (by omega)];exact g4
    rw[g3,g1,g5]
   .have e1:(qi++r.reverse)++x::([]++y::s)=qi++r.reverse++x::(y::s):=by simp
    rw[e1,h4];simp
theorem Mt(hs:O5 lt)(hC:YL C lt P){a b:Nat}(qi post:List α)(ha:a=qi.length)(hb:b<4611686018427387904):∀(s acc:List α),(∀y∈acc,P y)->(∀y∈s,P y)->F7 lt acc->b=a+acc.length+s.length->
  ∃M,aU (AJ C (a:Int) (b:Int)) (((a+acc.length:Nat):Int),Sl.mk (qi++acc++s++post))=some (Sl.mk (qi++M++post))/\M.length=acc.length+s.length/\F7 lt M/\qB lt M (acc++s)
 |[],acc,h1,h2,h3,h4=>by refine⟨acc,cQ ?_,rfl,h3,by simp[qB]⟩;simp only[AJ];rw[decide_eq_false (by simp at h4;omega)];simp
 |x::s,acc,h1,h2,h3,h4=>by
  simp only[ck]at h4;obtain⟨u,v,e1,e2,e3,e4⟩:=Rx hC qi x ha (h2 x aF) acc.reverse (s++post) (fun y hy=>h1 y (List.mem_reverse.1 hy)) (by simp;omega);rw[List.reverse_reverse]at e1 e4;rw[List.length_reverse]at e4;have hsr:=F7.QX (e1▸h3)
  have hux:∀z∈u,lt x z=false:=by
   intro z hz;rcases e3 with e3|⟨u',y,e3,e5⟩
   .rw [e3]at hz;cases hz
   .rw [e3]at hz;rcases aG.1 hz with hz|hz
    .exact hs.ntr _ _ _ e5 ((F7.QX (e3▸hsr.1)).2.2 z hz y (by simp))
    .rw [az.1 hz];exact e5
  have hS:F7 lt (u++x::v):=by
   refine F7.WE hsr.1 (fG.2 ⟨fun y hy=>hs.afB (e2 y hy),hsr.2.1⟩) fun z hz y hy=>?_;rcases aI.1 hy with hy|hy
   .rw [hy];exact hux z hz
   .exact hsr.2.2 z hz y hy
  have hsame:qB lt (u++x::v) (acc++[x]):=by rw[e1,List.append_assoc];refine qB.WE (.refl _) (qB.swap hs (u:=[x]) (v:=v) fun z hz y hy=>?_);rw[az.1 hz];have:=e2 y hy;unfold EM;rw[this];rfl
  have hlen:(u++x::v).length=acc.length+1:=by rw[e1];simp;omega
  obtain⟨M,m1,m2,m3,m4⟩:=Mt hs hC qi post ha hb s (u++x::v) (fun y hy=>by
   rcases aG.1 ((hsame.AA hs).1 hy)with hy|hy
   .exact h1 y hy
   .rw [az.1 hy];exact h2 x aF) (fun y hy=>h2 y (bc _ hy)) hS (by omega)
  refine⟨M,(fA (a':=(((a+(u++x::v).length:Nat):Int),Sl.mk (qi++(u++x::v)++s++post))) ?_).trans m1,by simp;omega,m3,?_⟩
  .simp only[AJ];rw[decide_eq_true (by omega),cond_true];have e5:qi++acc++(x::s)++post=qi++acc++x::(s++post):=by simp
   have w1:wr .i64 (((a+acc.length:Nat):Int)+1)=((a+(u++x::v).length:Nat):Int):=by rw[wq (by omega) (by omega),hlen];omega
   rw[e5,e4,af,w1];simp
  .refine m4.trans ?_;have:=hsame.WE (qB.refl (lt:=lt) s);simpa using this
theorem FU(hs:O5 lt)(hC:YL C lt P){a b:Nat}{X L Y:List α}(ha:a=X.length)(hb:b=a+L.length)(hB:b<4611686018427387904)(hP:∀y∈L,P y):
  ∃M,UC C (Sl.mk (X++L++Y)) (a:Int) (b:Int)=some (Sl.mk (X++M++Y))/\M.length=L.length/\F7 lt M/\qB lt M L:=by
 unfold UC;have w1:wr .i64 ((a:Int)+1)=((a+1:Nat):Int):=by rw[wq (by omega) (by omega)];omega
 rw[w1];cases L with
 |nil=>
  refine⟨[],?_,rfl,.nil,.refl _⟩;simp only[List.length_nil]at hb;rw[cQ (b:=Sl.mk (X++[]++Y))]
  .rfl
  .simp only[AJ];rw[decide_eq_false (by omega)];rfl
 |cons x s=>
  simp only[ck]at hb;obtain⟨M,m1,m2,m3,m4⟩:=Mt hs hC X Y ha hB s [x] (fun y hy=>hP y (by rw[az.1 hy];exact aF)) (fun y hy=>hP y (bc _ hy)) (List.pairwise_singleton _ _) (by simp;omega);refine⟨M,?_,by simp[m2];omega,m3,m4⟩;have e:X++[x]++s++Y=X++(x::s)++Y:=by simp
  rw[e]at m1;have e2:a+[x].length=a+1:=rfl;rw[e2]at m1;rw[m1];rfl
end
section
variable{α:Type}[Inhabited α]{C:α->α->Option Int}{lt:α->α->Bool}{P:α->Prop}
theorem xJ{l:List α}{i:Nat}(h:i<l.length):gt l i∈l:=by rw[dc h];exact List.getElem_mem h
end
section
variable{α:Type}[Inhabited α]{C:α->α->Option Int}{lt:α->α->Bool}{P:α->Prop}
inductive YD(lt:α->α->Bool)(bs:Nat):List α->Prop
 |DV {x:List α}:x.length<=bs->F7 lt x->YD lt bs x
 |XJ {x r:List α}:x.length=bs->F7 lt x->YD lt bs r->YD lt bs (x++r)
end
@[simp] theorem Sl.sB {α:Type} (l:List α):(Sl.mk l).l=l:=rfl
@[simp] theorem Sl.abU {α:Type}:(Sl.nil:Sl α).l=[]:=rfl
end Go.Ev
