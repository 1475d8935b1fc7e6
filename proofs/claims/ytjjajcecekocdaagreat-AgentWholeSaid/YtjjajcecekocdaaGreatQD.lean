/- Acts, rules, tables: which may be, who is found, what is sent, for the agent's program. Conditions: as stated. -/
import Derived.Test.YtjjajcecekocdaaGreatQC
open Int renaming eq_ofNat_of_zero_le->eR,toNat_natCast->eC
open List renaming length_take->cj
open Option renaming bind_some->ah
open Option.some renaming inj->aa
open Go.Ev Go
namespace Go.Proofs.YtjjajcecekocdaaGreat.A
def fi{α:Type}(l:List α)(p:α->Bool):Int:=match l.findIdx? p with|some k=>(k:Int)|none=>-1
theorem gy{α:Type}[Inhabited α]{l:List α}{i:Nat}(h:i<l.length):gt l i∈l:=by rw[gX h];exact List.getElem_mem h
theorem qb{α:Type}[Inhabited α](l:List α)(p:α->Bool):(fi l p=-1/\∀x∈l,p x=false)\/∃k:Nat,fi l p=k/\k<l.length/\p (gt l k)=true/\∀j,j<k->p (gt l j)=false:=by unfold fi;cases h:l.findIdx? p with|none=>exact .inl ⟨rfl,List.findIdx?_eq_none_iff.1 h⟩|some k=>obtain⟨h1,h2,h3⟩:=List.findIdx?_eq_some_iff_getElem.1 h;exact .inr ⟨k,rfl,h1,by rw[gX h1];exact h2,fun j hj=>by rw[gX (by omega)];simpa using h3 j hj⟩
theorem HY{α:Type}[Inhabited α]{l:List α}{p:α->Bool}:decide (fi l p>=0)=tt (∃x∈l,p x=true):=by
 rcases qb l p with⟨h,h2⟩|⟨k,h,hk,hp,_⟩
 .rw [h,eI]
  .rfl
  .rintro ⟨x,hx,hp⟩;rw[h2 x hx]at hp;cases hp
 .rw [h,iC ⟨_,gy hk,hp⟩,decide_eq_true (by omega)]
theorem OZ{s:Sl aT}{c:Int}(hn:s.l.length<9223372036854775808)(p:aT->Bool)(hp:∀x∈s.l,qW x c=some (p x)):dq s c=some (fi s.l p):=by
 unfold dq;rw[Cg (f:=cY s c) hn p () (fun i hi=>?_) (by simp only[cY];rw[decide_eq_false (by omega),cond_false])]
 .unfold fi;cases s.l.findIdx? p<;>rfl
 .simp only[cY];rw[decide_eq_true (by omega),cond_true,cB hi];simp only[ah];rw[hp _ (gy hi)];cases p (gt s.l i)<;>rfl
theorem L7{s:Sl ae}{c:ae}(hn:s.l.length<9223372036854775808)(p:ae->Bool)(hp:∀x∈s.l,qv x c=some (p x)):dh s c=some (fi s.l p):=by
 unfold dh;rw[Cg (f:=cP s c) hn p () (fun i hi=>?_) (by simp only[cP];rw[decide_eq_false (by omega),cond_false])]
 .unfold fi;cases s.l.findIdx? p<;>rfl
 .simp only[cP];rw[decide_eq_true (by omega),cond_true,cB hi];simp only[ah];rw[hp _ (gy hi)];cases p (gt s.l i)<;>rfl
theorem OX{s:Sl ae}{c:ae}(hn:s.l.length<9223372036854775808)(p:ae->Bool)(hp:∀x∈s.l,qu x c=some (p x)):df s c=some (fi s.l p):=by
 unfold df;rw[Cg (f:=cN s c) hn p () (fun i hi=>?_) (by simp only[cN];rw[decide_eq_false (by omega),cond_false])]
 .unfold fi;cases s.l.findIdx? p<;>rfl
 .simp only[cN];rw[decide_eq_true (by omega),cond_true,cB hi];simp only[ah];rw[hp _ (gy hi)];cases p (gt s.l i)<;>rfl
theorem L6{s:Sl ae}{c:ae}(hn:s.l.length<9223372036854775808)(p:ae->Bool)(hp:∀x∈s.l,tF x c=some (p x)):dg s c=some (fi s.l p):=by
 unfold dg;rw[Cg (f:=cO s c) hn p () (fun i hi=>?_) (by simp only[cO];rw[decide_eq_false (by omega),cond_false])]
 .unfold fi;cases s.l.findIdx? p<;>rfl
 .simp only[cO];rw[decide_eq_true (by omega),cond_true,cB hi];simp only[ah];rw[hp _ (gy hi)];cases p (gt s.l i)<;>rfl
theorem OY{s:Sl ae}{c:ai}(hn:s.l.length<9223372036854775808)(p:ae->Bool)(hp:∀x∈s.l,k_ x c=some (p x)):cV s c=some (fi s.l p):=by
 unfold cV;rw[Cg (f:=cI s c) hn p () (fun i hi=>?_) (by simp only[cI];rw[decide_eq_false (by omega),cond_false])]
 .unfold fi;cases s.l.findIdx? p<;>rfl
 .simp only[cI];rw[decide_eq_true (by omega),cond_true,cB hi];simp only[ah];rw[hp _ (gy hi)];cases p (gt s.l i)<;>rfl
theorem L5{s:Sl ae}{c:Int}{d:Arr 4 Int}(hn:s.l.length<9223372036854775808)(p:ae->Bool)(hp:∀x∈s.l,py x c d=some (p x)):cX s c d=some (fi s.l p):=by
 unfold cX;rw[Cg (f:=cK s c d) hn p () (fun i hi=>?_) (by simp only[cK];rw[decide_eq_false (by omega),cond_false])]
 .unfold fi;cases s.l.findIdx? p<;>rfl
 .simp only[cK];rw[decide_eq_true (by omega),cond_true,cB hi];simp only[ah];rw[hp _ (gy hi)];cases p (gt s.l i)<;>rfl
def CX(a:aT)(ports:Int):Prop:=(aT.bh a=1/\0<=aT.F a/\aT.F a<=3/\0<=aT.V a/\aT.V a<=top (aT.F a).toNat)\/(aT.bh a=2/\aT.F a=0/\0<=aT.V a/\aT.V a<ports)\/(aT.bh a=3/\aT.F a=0/\aT.V a=0)
def Y6(l:List aT)(ports:Int):Prop:=l.length<=16/\∀a∈l,CX a ports
theorem IJ(a:aT)(ports:Int):uw a ports=some (tt (CX a ports)):=by
 obtain⟨k,f,v⟩:=a;have hA:CX (k,f,v) ports<->((k=1/\0<=f/\f<=3/\0<=v/\v<=top f.toNat)\/(k=2/\f=0/\0<=v/\v<ports)\/(k=3/\f=0/\v=0)):=Iff.rfl;rw[cJ hA];simp only[uw,aT.bh,aT.F,aT.V];by_cases h1:k=1
 .subst h1;rw[show((1:Int)==1)=true from rfl,cond_true];by_cases h2:0<=f/\f<=3/\0<=v
  .obtain ⟨g,rfl⟩:=eR h2.1;rw[show((decide ((g:Int)>=0)&&decide ((g:Int)<=3))&&decide (v>=0))=true by simp;omega,cond_true,G9 (by omega)];simp only[ah,eC];rw[fK];refine congrArg some (cJ ?_);constructor
   .exact fun h=>.inl ⟨trivial,by omega,by omega,by omega,h⟩
   .rintro (h|h|h)
    .exact h.2.2.2.2
    .omega
    .omega
  .rw [show((decide (f>=0)&&decide (f<=3))&&decide (v>=0))=false by simp;omega,cond_false,eI (by omega)];rfl
 .rw [show(k==1)=false by simpa using h1,cond_false];by_cases h3:k=3
  .subst h3;rw[show((3:Int)==3)=true from rfl,cond_true,show((f==0)&&(v==0))=tt (f=0/\v=0)by rw[<-ol,<-fK,<-fK];rfl];exact congrArg some (cJ (by omega))
  .rw [show(k==3)=false by simpa using h3,cond_false];rw[show((((k==2)&&(f==0))&&decide (v>=0))&&decide (v<ports))=tt (((k=2/\f=0)/\v>=0)/\v<ports)by rw[<-ol,<-ol,<-ol,<-fK,<-fK,<-fK,<-fK];rfl];exact congrArg some (cJ (by omega))
theorem P0(a:aT)(ports:Int):uK a ports=some (tt (CX a ports)):=by
 obtain⟨k,f,v⟩:=a;have hA:CX (k,f,v) ports<->((k=1/\0<=f/\f<=3/\0<=v/\v<=top f.toNat)\/(k=2/\f=0/\0<=v/\v<ports)\/(k=3/\f=0/\v=0)):=Iff.rfl;rw[cJ hA];simp only[uK,aT.bh,aT.F,aT.V];by_cases h1:k=1
 .subst h1;rw[show((1:Int)==1)=true from rfl,cond_true];by_cases h2:0<=f/\f<=3/\0<=v
  .obtain ⟨g,rfl⟩:=eR h2.1;rw[show(((decide ((g:Int)>=0))&&(decide ((g:Int)<4)))&&(decide (v>=0)))=true by simp;omega,cond_true,yJ (by omega)];simp only[ah,eC];rw[fK];refine congrArg some (cJ ?_);constructor
   .exact fun h=>.inl ⟨trivial,by omega,by omega,by omega,h⟩
   .rintro (h|h|h)
    .exact h.2.2.2.2
    .omega
    .omega
  .rw [show(((decide (f>=0))&&(decide (f<4)))&&(decide (v>=0)))=false by simp;omega,cond_false,eI (by omega)];rfl
 .rw [show(k==1)=false by simpa using h1,cond_false];by_cases h3:k=2
  .subst h3;rw[show((2:Int)==2)=true from rfl,cond_true];rw[show(((f==0)&&decide (v>=0))&&decide (v<ports))=tt ((f=0/\v>=0)/\v<ports)by rw[<-ol,<-ol,<-fK,<-fK,<-fK];rfl];exact congrArg some (cJ (by omega))
  .rw [show(k==2)=false by simpa using h3,cond_false,fK];exact congrArg some (cJ (by simp only[Prod.mk.injEq];omega))
theorem DA(l:Sl aT)(ports:Int)(hn:l.l.length<9223372036854775808):qE l ports=some (tt (Y6 l.l ports)):=by
 unfold qE;rw[x9 (f:=nD l ports) l.l.length hn (fun i=>CX (gt l.l i) ports) () (fun i hi=>?_) (by simp only[nD];rw[decide_eq_false (by omega),cond_false])]
 .rw [cJ (Ab (P:=fun a=>CX a ports))];by_cases h:∀a∈l.l,CX a ports
  .rw [iC h];simp only[cond_true,ah];rw[fK];exact congrArg some (cJ ⟨fun h2=>⟨by omega,h⟩,fun h2=>by have:=h2.1;omega⟩)
  .rw [eI h,eI fun h2=>h h2.2];rfl
 .simp only[nD];rw[decide_eq_true (by omega),cond_true,cB hi];simp only[ah];rw[IJ];simp only[ah];cases tt _<;>rfl
theorem CN(l:Sl aT)(ports:Int):uL l ports=some (tt (Y6 l.l ports)):=by
 unfold uL;by_cases hn:l.l.length<=16
 case neg=>rw[decide_eq_false (by omega),cond_false,eI fun h=>hn h.1];rfl
 rw[decide_eq_true (by omega),cond_true];simp only[ew];rw[OZ (by omega) (fun a=>tt (¬CX a ports)) (fun a _=>by simp only[qW,P0,ah,Fv])];simp only[ah];rw[HY,Fv];refine congrArg some (cJ ?_);simp only[lR,not_exists,not_and,Classical.not_not];exact⟨fun h=>⟨hn,h⟩,fun h=>h.2⟩
structure C4(x:ae)(ports:Int):Prop where
 lo:0<=ae.c9 x
 hi:ae.c9 x<=65535
 m:uT (ae.M x)
 a:Y6 (ae.iK x).l ports
theorem Dz(x:ae)(ports:Int)(hn:(ae.iK x).l.length<9223372036854775808):qD x ports=some (tt (C4 x ports)):=by
 unfold qD;by_cases h:0<=ae.c9 x/\ae.c9 x<=65535
 .rw [show((decide ((ae.c9 x)>=0))&&(decide ((ae.c9 x)<=65535)))=true by simp;omega,cond_true,DB,DA _ _ hn];simp only[ah];by_cases h2:uT (ae.M x)
  .rw [iC h2];simp only[cond_true,ah];exact congrArg some (cJ ⟨fun h3=>⟨h.1,h.2,h2,h3⟩,fun h3=>h3.a⟩)
  .rw [eI h2,eI (p:=C4 x ports) fun h3=>h2 h3.m];rfl
 .rw [show((decide ((ae.c9 x)>=0))&&(decide ((ae.c9 x)<=65535)))=false by simp;omega,cond_false,eI fun h3=>h ⟨h3.lo,h3.hi⟩];rfl
def CU(x:ae):Prop:=∀f,f<4->vl (ae.M x) f<9223372036854775808
theorem vo(x:ae)(ports:Int)(hf:CU x):ov x ports=some (tt (C4 x ports)):=by
 unfold ov;by_cases h:0<=ae.c9 x/\ae.c9 x<=65535
 .rw [show((decide ((ae.c9 x)>=0))&&(decide ((ae.c9 x)<65536)))=true by simp;omega,cond_true,D3 _ hf,CN];simp only[ah];by_cases h2:uT (ae.M x)
  .rw [iC h2];simp only[cond_true,ah];exact congrArg some (cJ ⟨fun h3=>⟨h.1,h.2,h2,h3⟩,fun h3=>h3.a⟩)
  .rw [eI h2,eI (p:=C4 x ports) fun h3=>h2 h3.m];rfl
 .rw [show((decide ((ae.c9 x)>=0))&&(decide ((ae.c9 x)<65536)))=false by simp;omega,cond_false,eI fun h3=>h ⟨h3.lo,h3.hi⟩];rfl
def mI(a b:ae):Prop:=ae.c9 a=ae.c9 b/\ae.M a=ae.M b
theorem mI.symm{a b:ae}(h:mI a b):mI b a:=⟨h.1.symm,h.2.symm⟩
theorem vS(a b:ae):tK a b=some (tt (mI a b)):=by simp only[tK,mI];rw[show(ae.c9 a==ae.c9 b)=tt (ae.c9 a=ae.c9 b)from fK,fK,ol]
theorem BU(a b:ae):wS a b=some (tt (mI a b)):=vS a b
def Ki(t:List ae):Prop:=t.Pairwise fun a b=>ae.c9 b<=ae.c9 a/\¬mI a b
structure ug(t:List ae)(ports aD:Int):Prop where
 r:∀x∈t,C4 x ports
 s:Ki t
 n:(t.length:Int)<=aD
theorem BN{t:List ae}:Ki t<->∀i,i<t.length->∀k,k<i->ae.c9 (gt t i)<=ae.c9 (gt t k)/\¬mI (gt t k) (gt t i):=by
 unfold Ki;rw[List.pairwise_iff_getElem];constructor
 .intro h i hi k hk;rw[gX hi,gX (by omega)];exact h k i (by omega) hi hk
 .intro h i j hi hj hij;have:=h j hj i hij;rwa[gX hi,gX hj]at this
theorem V9{α:Type}{t:Sl α}{a b:Int}{r:List α}(h:oX t.l a b=some r):(t.to r).l=r:=by
 cases t with
 |mk l=>rfl
 |nil=>
  unfold oX at h;split at h
  .obtain rfl:=aa h;simp[Sl.to,Sl.l]
  .simp at h
theorem wj{α:Type}{l:List α}{i:Nat}(h:i<=l.length):oX l 0 (i:Int)=some (l.take i):=by unfold oX;rw[if_pos ⟨by omega,by omega,by omega⟩];simp
theorem MH{α:Type}{l:List α}{i:Nat}(h:i<=l.length):oX l (i:Int) (l.length:Int)=some (l.drop i):=by unfold oX;rw[if_pos ⟨by omega,by omega,by omega⟩];simp only[eC];rw[List.take_of_length_le (by simp)]
theorem sj{t:Sl ae}(x:ae)(hn:t.l.length<9223372036854775808):pG t x=some (fi t.l fun y=>tt (mI x y)):=by simp only[pG];rw[OX hn (fun y=>tt (mI x y)) (fun y _=>by simp only[qu,vS,ah])];rfl
theorem xz(t:Sl ae)(ports aD:Int)(hn:t.l.length<9223372036854775808)(hf:∀x∈t.l,CU x):oN t ports aD=some (tt (ug t.l ports aD)):=by
 unfold oN;by_cases hr:(t.l.length:Int)<=aD
 case neg=>rw[decide_eq_true (by omega),cond_true,eI fun h=>hr h.n]
 rw[decide_eq_false (by omega),cond_false];rw[x9 (f:=nz t ports) t.l.length hn (fun i=>C4 (gt t.l i) ports/\(0<i->ae.c9 (gt t.l i)<=ae.c9 (gt t.l (i-1)))/\∀k,k<i->¬mI (gt t.l i) (gt t.l k)) () (fun i hi=>?_) (by simp only[nz];rw[decide_eq_false (by omega),cond_false])]
 .have e:(∀i,i<t.l.length->C4 (gt t.l i) ports/\(0<i->ae.c9 (gt t.l i)<=ae.c9 (gt t.l (i-1)))/\∀k,k<i->¬mI (gt t.l i) (gt t.l k))<->ug t.l ports aD:=by
   constructor
   .intro h;refine⟨Ab.1 fun i hi=>(h i hi).1,BN.2 fun i hi k hk=>⟨?_,fun hq=>(h i hi).2.2 k hk hq.symm⟩,hr⟩;have mono:∀d k,k+d<t.l.length->ae.c9 (gt t.l (k+d))<=ae.c9 (gt t.l k):=by intro d;induction d with|zero=>intro k _;exact Int.le_refl _|succ d ih=>intro k hk;exact Int.le_trans ((h (k+(d+1)) hk).2.1 (by omega)) (ih k (by omega))
    have:=mono (i-k) k (by omega);rwa[show k+(i-k)=i by omega]at this
   .intro h i hi;have hs:=BN.1 h.s i hi;exact⟨Ab.2 h.r i hi,fun h0=>(hs (i-1) (by omega)).1,fun k hk hq=>(hs k hk).2 hq.symm⟩
  rw[cJ e];cases tt _<;>rfl
 .simp only[nz];rw[decide_eq_true (by omega),cond_true,cB hi];simp only[ah];rw[vo _ _ (hf _ (gy hi))];simp only[ah];by_cases h1:C4 (gt t.l i) ports
  case neg=>rw[eI h1,eI fun h=>h1 h.1];rfl
  rw[iC h1,Bool.not_true,cond_false]
  have e2:(bif decide ((i:Int)>0)then((eX (wr .i64 ((i:Int)-1)) t.l.length).bind fun n5=>(pO (gt t.l i) (gt t.l n5)).bind fun r6=>some r6)else(some false):Option Bool)=some (tt (¬(0<i->ae.c9 (gt t.l i)<=ae.c9 (gt t.l (i-1))))):=by
   by_cases h0:0<i
   .rw [decide_eq_true (by omega),cond_true,xQ (by omega) (by omega),show(i:Int)-1=((i-1:Nat):Int)by omega,cB (by omega)];simp only[ah,pO];rw[fK]
    exact congrArg some (cJ ⟨fun h h2=>by have:=h2 h0;omega,fun h=>by
     by_cases h2:ae.c9 (gt t.l i)>ae.c9 (gt t.l (i-1))
     .exact h2
     .exact absurd (fun _=>by omega) h⟩)
   .rw [decide_eq_false (by omega),cond_false,eI (not_not_intro fun h=>absurd h h0)]
  rw[e2];simp only[ah];by_cases h2:0<i->ae.c9 (gt t.l i)<=ae.c9 (gt t.l (i-1))
  case neg=>rw[iC h2,eI fun h=>h2 h.2.1];rfl
  rw[eI (not_not_intro h2),cond_false,wj (by omega)];simp only[ah];have hl:(t.to (t.l.take i)).l=t.l.take i:=V9 (wj (by omega));rw[sj _ (by rw[hl,cj];omega),hl];simp only[ah];rw[HY]
  have e3:(∃x∈t.l.take i,tt (mI (gt t.l i) x)=true)<->¬∀k,k<i->¬mI (gt t.l i) (gt t.l k):=by
   simp only[lR];constructor
   .rintro ⟨x,hx,hk⟩ h;obtain⟨k,hk1,rfl⟩:=List.mem_iff_getElem.1 hx;rw[cj]at hk1;refine h k (by omega) ?_;rw[List.getElem_take]at hk;rwa[gX (show k<t.l.length by omega)]
   .intro h;apply Classical.byContradiction;intro h2;refine h fun k hk hq=>h2 ⟨gt t.l k,?_,hq⟩;rw[List.mem_take_iff_getElem];exact⟨k,by omega,by rw[gX]⟩
  rw[cJ e3];by_cases h3:∀k,k<i->¬mI (gt t.l i) (gt t.l k)
  .rw [eI (not_not_intro h3),iC ⟨h1,h2,h3⟩];rfl
  .rw [iC h3,eI fun h=>h3 h.2.2];rfl
end Go.Proofs.YtjjajcecekocdaaGreat.A
