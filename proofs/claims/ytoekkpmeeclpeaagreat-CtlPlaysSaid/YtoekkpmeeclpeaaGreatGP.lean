/- Spans and estimates, side by side. Conditions: as stated. -/
import Derived.Test.YtoekkpmeeclpeaaGreatGJ
open Bool renaming or_eq_false_iff->bV
open Int renaming tdiv_eq_ediv_of_nonneg->jf
open Option renaming bind_some->aa
open Go.Ev Go
namespace Go.Proofs.YtoekkpmeeclpeaaGreat.S
def nr(n:Int):Int:=if n>4503599627370496 then 4503599627370496 else if n< -4503599627370496 then-4503599627370496 else n
theorem yY(n:Int):-4503599627370496<=nr n/\nr n<=4503599627370496:=by unfold nr;split<;>(try split)<;>omega
theorem YX{n:Int}(h:-4503599627370496<=n/\n<=4503599627370496):nr n=n:=by unfold nr;rw[if_neg (by omega),if_neg (by omega)]
theorem aet(n:Int):yn n=some (nr n):=by unfold yn nr;congr 1;split<;>split<;>(try split)<;>(try split)<;>omega
theorem Y1(n:Int):ng n=some (nr n):=by
 unfold ng nr;by_cases h:n>4503599627370496
 .simp [h]
 .by_cases h2:n< -4503599627370496
  .simp [h,h2]
  .simp [h,h2]
def cl(s:bl):bl:=if nr s.2<nr s.1 then(1,0)else(nr s.1,nr s.2)
theorem KE(s:bl):lJ s=some (cl s):=by
 unfold lJ oF cl;simp only[aet,aa];by_cases h:nr s.2<nr s.1
 .simp [bl.Lo,bl.Hi,h]
 .simp [bl.Lo,bl.Hi,h]
theorem KD(s:bl):kf s=some (cl s):=by
 unfold kf cl;simp only[Y1,aa];by_cases h:nr s.2<nr s.1
 .simp [bo.Lo,bo.Hi,h]
 .simp [bo.Lo,bo.Hi,h]
theorem Ks(s:bl):qH s=some (decide (nr s.2<nr s.1)):=by unfold qH;simp only[Y1,aa]
theorem Kt(s:bl):tn s=some (decide (nr s.2<nr s.1)):=by
 unfold tn oF;simp only[KE,aa,cl];congr 1;apply decide_eq_decide.2;by_cases h:nr s.2<nr s.1
 .simp [h]
 .rw [if_neg h];constructor
  .intro e;have h1:nr s.1=1:=congrArg Prod.fst e;have h2:nr s.2=0:=congrArg Prod.snd e;omega
  .intro h';exact absurd h' h
theorem Ts(n:Int):nr (nr n)=nr n:=YX (yY n)
def wd(s:bl)(b:Int):bl:=if nr s.2<nr s.1 then(1,0)else cl (nr s.1-max 0 (nr b),nr s.2+max 0 (nr b))
theorem WY(s:bl)(b:Int):yB s b=some (wd s b):=by
 have h1:=yY s.1;have h2:=yY s.2;have h3:=yY b;unfold yB wd;simp only[KE,aet,Kt,aa,cl];by_cases h:nr s.2<nr s.1
 .rw [if_pos h];have:decide (nr ((1,0):bl).2<nr ((1,0):bl).1)=true:=by decide
  rw[this,if_pos h];rfl
 .have e:(if 0>nr b then 0 else nr b)=max 0 (nr b):=by omega
  rw[if_neg h,if_neg h];have:decide (nr ((nr s.1,nr s.2):bl).2<nr ((nr s.1,nr s.2):bl).1)=false:=decide_eq_false (by show¬nr (nr s.2)<nr (nr s.1);rw[Ts,Ts];exact h);rw[this,e];simp only[cond_false,bl.Lo,bl.Hi];rw[fE (by omega) (by omega),fE (by omega) (by omega)]
theorem WX(s:bl)(b:Int):xb s b=some (wd s b):=by
 have h1:=yY s.1;have h2:=yY s.2;have h3:=yY b;unfold xb C3 wd
 have e:(bif decide (nr b<0)then some (0:Int)else some (nr b))=some (max 0 (nr b)):=by
  by_cases h:nr b<0
  .simp [h];omega
  .simp [h];omega
 simp only[Y1,aa,e,Ks,KD];rw[fE (n:=0-max 0 (nr b)) (by omega) (by omega)];by_cases h:nr s.2<nr s.1
 .rw [if_pos h,decide_eq_true h,cl,if_pos h];rfl
 .rw [if_neg h,decide_eq_false h];have c:cl s=(nr s.1,nr s.2):=if_neg h;simp only[cond_false,c,bo.Lo,bo.Hi];rw[YX (n:=0-max 0 (nr b)) (by omega),YX (n:=max 0 (nr b)) (by omega),fE (by omega) (by omega),fE (by omega) (by omega),show nr s.1+(0-max 0 (nr b))=nr s.1-max 0 (nr b)by omega];rfl
end Go.Proofs.YtoekkpmeeclpeaaGreat.S
open Go.Ev Go
namespace Go.Proofs.YtoekkpmeeclpeaaGreat.S
theorem adD(a:Int):a.tdiv 2=if 0<=a then a/2 else-((-a)/2):=by
 split
 .exact jf ‹_›
 .rw [<-jf (a:=-a) (by omega),Int.neg_tdiv,Int.neg_neg]
def md(s:bl):Int:=if nr s.2<nr s.1 then 0 else(nr s.1+nr s.2)/2
theorem Hu{s:bl}(h:¬nr s.2<nr s.1):cl s=(nr s.1,nr s.2):=if_neg h
theorem aag(s:bl):decide (nr (cl s).2<nr (cl s).1)=decide (nr s.2<nr s.1):=by
 by_cases h:nr s.2<nr s.1
 .rw [cl,if_pos h,decide_eq_true h];rfl
 .rw [Hu h];simp only[Ts]
theorem am8(s:bl):CV s=some (md s):=by
 have h1:=yY s.1;have h2:=yY s.2;unfold CV md;simp only[KE,Kt,aa,aag];by_cases h:nr s.2<nr s.1
 .rw [if_pos h,decide_eq_true h];rfl
 .rw [if_neg h,decide_eq_false h,Hu h];simp only[cond_false,bl.Lo,bl.Hi];rw[fE (n:=nr s.2-nr s.1) (by omega) (by omega),adD,if_pos (by omega),fE (n:=(nr s.2-nr s.1)/2) (by omega) (by omega),fE (by omega) (by omega)];congr 1;omega
theorem aqR(s:bl):DP s=some (md s):=by
 have h1:=yY s.1;have h2:=yY s.2;unfold DP md;simp only[KD,Ks,aa];by_cases h:nr s.2<nr s.1
 .rw [if_pos h,decide_eq_true h];rfl
 .rw [if_neg h,decide_eq_false h,Hu h];simp only[cond_false,bo.Lo,bo.Hi];rw[fE (n:=nr s.1+nr s.2) (by omega) (by omega),adD];by_cases h0:0<=nr s.1+nr s.2
  .rw [if_pos h0,fE (n:=(nr s.1+nr s.2)/2) (by omega) (by omega),fE (n:=(nr s.1+nr s.2)/2*2) (by omega) (by omega),decide_eq_false (by omega)];rfl
  .rw [if_neg h0,fE (n:=-(-(nr s.1+nr s.2)/2)) (by omega) (by omega),fE (n:=-(-(nr s.1+nr s.2)/2)*2) (by omega) (by omega)];by_cases h3:-(-(nr s.1+nr s.2)/2)*2>nr s.1+nr s.2
   .rw [decide_eq_true h3,fE (by omega) (by omega)];show some _=some _;congr 1;omega
   .rw [decide_eq_false h3];show some _=some _;congr 1;omega
theorem anm(s:bl):DE s=some (if nr s.2<nr s.1 then 0 else nr s.2-md s):=by
 have h1:=yY s.1;have h2:=yY s.2;unfold DE;simp only[KE,Kt,aa,aag,am8];by_cases h:nr s.2<nr s.1
 .rw [if_pos h,decide_eq_true h];rfl
 .have e:md (cl s)=md s:=by unfold md;rw[Hu h];simp only[Ts]
  have:md s=(nr s.1+nr s.2)/2:=if_neg h;rw[if_neg h,decide_eq_false h,e,Hu h];simp only[cond_false,bl.Hi];rw[fE (by omega) (by omega)]
end Go.Proofs.YtoekkpmeeclpeaaGreat.S
open Go.Ev Go
namespace Go.Proofs.YtoekkpmeeclpeaaGreat.S
def dr(a b:Int):Int:=(min (max a 0) 1099511627776*min (max b 0) 1000+999)/1000
theorem anA{a b:Int}:0<=min (max a 0) 1099511627776*min (max b 0) 1000/\min (max a 0) 1099511627776*min (max b 0) 1000<=1099511627776*1000:=⟨Int.mul_nonneg (by omega) (by omega),Int.mul_le_mul (by omega) (by omega) (by omega) (by omega)⟩
theorem Z1(a b:Int):xh a b=some (dr a b):=by
 have h:=anA (a:=a) (b:=b);unfold xh dr;have e1:(if 1099511627776<(if 0>a then 0 else a)then 1099511627776 else(if 0>a then 0 else a))=min (max a 0) 1099511627776:=by omega
 have e2:(if 1000<(if 0>b then 0 else b)then 1000 else(if 0>b then 0 else b))=min (max b 0) 1000:=by omega
 rw[e1,e2];generalize min (max a 0) 1099511627776*min (max b 0) 1000=c at h;rw[fE (n:=c) (by omega) (by omega),fE (n:=c+1000) (by omega) (by omega),fE (n:=c+1000-1) (by omega) (by omega),jf (by omega),fE (by omega) (by omega)];congr 1;omega
theorem Z0(a b:Int):w9 a b=some (dr a b):=by
 have h:=anA (a:=a) (b:=b);unfold w9;by_cases ha:a<0
 .have:min (max a 0) 1099511627776=0:=by omega
  unfold dr;rw[this,Int.zero_mul];simp[ha]
 by_cases hb:b<0
 .have:min (max b 0) 1000=0:=by omega
  unfold dr;rw[this,Int.mul_zero];simp[hb]
 have e1:(bif decide (a>1099511627776)then some (1099511627776:Int)else some a)=some (min (max a 0) 1099511627776):=by
  by_cases h:a>1099511627776
  .rw [decide_eq_true h];show some _=some _;congr 1;omega
  .rw [decide_eq_false h];show some _=some _;congr 1;omega
 have e2:(bif decide (b>1000)then some (1000:Int)else some b)=some (min (max b 0) 1000):=by
  by_cases h:b>1000
  .rw [decide_eq_true h];show some _=some _;congr 1;omega
  .rw [decide_eq_false h];show some _=some _;congr 1;omega
 rw[decide_eq_false ha,decide_eq_false hb,e1,e2];unfold dr C4;simp only[Bool.or_self,cond_false,aa];generalize min (max a 0) 1099511627776*min (max b 0) 1000=c at h;rw[fE (n:=c) (by omega) (by omega),fE (n:=0-c) (by omega) (by omega)];have e3:Wf .i64 (0-c) 1000=some (-(c/1000)):=by unfold Wf;rw[if_neg (by decide),show(0-c)=-c by omega,Int.neg_tdiv,jf (by omega)];exact congrArg some (fE (by omega) (by omega))
 rw[e3];simp only[aa];rw[fE (n:=-(c/1000)*1000) (by omega) (by omega)];by_cases h3:-(c/1000)*1000>0-c
 .rw [decide_eq_true h3];simp only[cond_true,aa];rw[fE (n:=-(c/1000)-1) (by omega) (by omega),fE (by omega) (by omega)];congr 1;omega
 .rw [decide_eq_false h3];simp only[cond_false,aa];rw[fE (by omega) (by omega)];congr 1;omega
end Go.Proofs.YtoekkpmeeclpeaaGreat.S
open Go.Ev Go
namespace Go.Proofs.YtoekkpmeeclpeaaGreat.S
def Et(e:aZ):Prop:=0<=e.2.2/\e.2.2<=1099511627776
def on(e:aZ)(t m:Int):bl:=if e.1=true then wd e.2.1 (dr (max e.2.2 t-min e.2.2 t) m)else(1,0)
section
variable{e:aZ}{t m:Int}
theorem on1(he:Et e)(ht:0<=t/\t<=1099511627776):FA e t m=some (on e t m):=by
 unfold Et at he;unfold FA oF on;simp only[aZ.sI,aZ.At,aZ.S,aa];have e1:(if e.2.2>t then e.2.2 else t)=max e.2.2 t:=by omega
 have e2:(if e.2.2<t then e.2.2 else t)=min e.2.2 t:=by omega
 rw[e1,e2,fE (by omega) (by omega),Z1];simp only[aa,WY];cases e.1<;>rfl
theorem on2(he:Et e)(ht:0<=t/\t<=1099511627776):C0 e t m=some (on e t m):=by
 unfold Et at he;unfold C0 on;simp only[bE.sI,bE.At,bE.S];rw[fE (n:=t-e.2.2) (by omega) (by omega),fE (n:=0-(t-e.2.2)) (by omega) (by omega)]
 have e1:(bif decide (t-e.2.2<0)then some (0-(t-e.2.2))else some (t-e.2.2))=some (max e.2.2 t-min e.2.2 t):=by
  by_cases h:t-e.2.2<0
  .rw [decide_eq_true h];show some _=some _;congr 1;omega
  .rw [decide_eq_false h];show some _=some _;congr 1;omega
 rw[e1];simp only[aa,Z0,WX];cases e.1<;>rfl
theorem agJ(he:Et e):∃a h b,Bh e t m=some (a,h,b)/\yp e t m=some (a,h,b):=by
 unfold Bh yp;by_cases hc:((!aZ.sI e)||decide (t<0)||decide (t>1099511627776))=true
 .rw [hc];exact⟨_,_,_,rfl,rfl⟩
 .have hc:((!aZ.sI e)||decide (t<0)||decide (t>1099511627776))=false:=by simpa using hc
  rw[hc];simp only[bV,decide_eq_false_iff_not]at hc;have ht:0<=t/\t<=1099511627776:=by omega
  simp only[cond_false];rw[on1 he ht,on2 he ht];simp only[aa,am8,aqR,anm,Ks,KD];generalize on e t m=s;have h1:=yY s.1;have h2:=yY s.2;by_cases h:nr s.2<nr s.1
  .rw [decide_eq_true h,if_pos h];have:md s=0:=if_pos h;rw[this,Int.add_zero,fE (by omega) (by omega)];exact⟨_,_,_,rfl,rfl⟩
  .rw [decide_eq_false h,if_neg h,Hu h];have:md s=(nr s.1+nr s.2)/2:=if_neg h;simp only[cond_false,bo.Hi];rw[fE (n:=nr s.2-md s) (by omega) (by omega)];exact⟨_,_,_,rfl,rfl⟩
end
end Go.Proofs.YtoekkpmeeclpeaaGreat.S
open Go.Ev Go
namespace Go.Proofs.YtoekkpmeeclpeaaGreat.S
def mt(a b:bl):bl:=cl (max (cl a).1 (cl b).1,min (cl a).2 (cl b).2)
theorem ana(a b:bl):DD a b=some (mt a b):=by unfold DD mt;simp only[KE,aa,bl.Lo,bl.Hi];rw[show(if(cl b).1>(cl a).1 then(cl b).1 else(cl a).1)=max (cl a).1 (cl b).1 by omega,show(if(cl b).2<(cl a).2 then(cl b).2 else(cl a).2)=min (cl a).2 (cl b).2 by omega]
theorem am_(a b:bl):B7 b a=some (mt a b):=by
 unfold B7 mt;simp only[KD,aa]
 by_cases h1:(cl a).1>(cl b).1<;>by_cases h2:(cl a).2<(cl b).2<;>
  simp[bo.Lo,bo.Hi,h1,h2,KD]<;>congr 1<;>(try ext)<;>simp<;>omega
end Go.Proofs.YtoekkpmeeclpeaaGreat.S
open Go.Ev Go
namespace Go.Proofs.YtoekkpmeeclpeaaGreat.S
theorem acl{e:aZ}(he:Et e){t1 t2 t4 m:Int}:∃e' f,Bg e t1 t2 t4 m=some (e',f)/\B3 e t1 t2 t4 m=some (e',f)/\Et e':=by
 unfold Bg B3 EC C1;have hc:(decide (t1<0)||decide (t1>t4)||decide (t4>1099511627776)||decide (t2>1125899906842624)||decide (t2< -1125899906842624))=(decide (t1<0)||decide (t4<t1)||decide (t4>1099511627776)||decide (t2< -1125899906842624)||decide (t2>1125899906842624)):=by rw[Bool.or_assoc,Bool.or_comm (decide (t2>1125899906842624)),<-Bool.or_assoc]
 rw[hc];cases h:(decide (t1<0)||decide (t4<t1)||decide (t4>1099511627776)||decide (t2< -1125899906842624)||decide (t2>1125899906842624))with
 |true=>exact⟨e,2,rfl,rfl,he⟩
 |false=>
  simp only[bV,decide_eq_false_iff_not]at h;have ht:0<=t4/\t4<=1099511627776:=by omega
  simp only[cond_false,aa];cases h2:(aZ.sI e&&decide (t4<aZ.At e))with
  |true=>exact⟨e,2,rfl,rfl,he⟩
  |false=>
   simp only[cond_false,Z1,Z0,aa,WY,WX,on1 he ht,on2 he ht,ana,am_];cases h3:aZ.sI e with
   |true=>rw[show bE.sI e=true from h3];simp only[cond_true,aa,Kt,Ks];generalize mt _ _=s;cases decide (nr s.2<nr s.1)with|true=>exact⟨e,16,rfl,rfl,he⟩|false=>exact⟨(true,s,t4),0,rfl,rfl,ht⟩
   |false=>rw[show bE.sI e=false from h3];simp only[cond_false,aa,Kt,Ks];generalize wd _ _=s;cases decide (nr s.2<nr s.1)with|true=>exact⟨e,16,rfl,rfl,he⟩|false=>exact⟨(true,s,t4),0,rfl,rfl,ht⟩
end Go.Proofs.YtoekkpmeeclpeaaGreat.S
