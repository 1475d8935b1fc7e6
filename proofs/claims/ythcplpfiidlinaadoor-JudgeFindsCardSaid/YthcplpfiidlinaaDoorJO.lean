/- Plans: how long a packet is on its way, which switches have moves in a round, and the times. Conditions: as stated. -/
import Derived.Test.YthcplpfiidlinaaDoorJLC
open Bool renaming or_eq_false_iff->gp
open List renaming length_append->av,length_singleton->bp,mem_append->ap,mem_cons_self->cq,mem_singleton->ao,range->aL,take_append_getElem->cZ,take_length->gi
open Nat renaming zero_le->cG
open Option renaming bind_some->af
open Go.Ev Go
namespace Go.Proofs.YthcplpfiidlinaaDoor.J
def rY(l:List bz):Int:=l.foldl (fun m x=>if x.p9>m then x.p9 else m) 0
theorem Is(l:List bz){i:Nat}(hi:i<l.length):rY (l.take (i+1))=if(gt l i).p9>rY (l.take i)then(gt l i).p9 else rY (l.take i):=by unfold rY;rw[cR hi,<-cZ hi,List.foldl_append];rfl
theorem Ky{t:ah}(hb:t.bW.l.length<9223372036854775808):lE t=some (rY t.bW.l):=by
 have e0:((0:Nat):Int)=0:=rfl
 have h:bE (jp t) (0,0)=some (rY t.bW.l):=by
  have h1:=Gt (f:=jp t) (fun i(m:Int)=>(m,(i:Int))) t.bW.l.length (fun i m=>m=rY (t.bW.l.take i)) (fun b=>b=rY t.bW.l) (fun i m hi hm=>by
   left;refine⟨_,?_,(Is _ hi).symm⟩;subst hm;simp only[jp,jw hi,cond_true,bq hi,af,k_ (show i<9223372036854775807 by omega)])
   (fun m hm=>⟨m,by simp only[jp,kO,cond_false],by rw[hm,gi]⟩) 0 0 (cG _) rfl
  obtain⟨b,h1,rfl⟩:=h1;exact h1
 simp only[lE,h,af]
theorem NP{l:List bz}(h:∀x∈l,uZ x):0<=rY l/\rY l<=1000:=by
 have:∀(l:List bz)(m:Int),(∀x∈l,uZ x)->0<=m/\m<=1000->0<=l.foldl (fun m x=>if x.p9>m then x.p9 else m) m/\l.foldl (fun m x=>if x.p9>m then x.p9 else m) m<=1000:=by intro l;induction l with|nil=>intro m _ hm;exact hm|cons x l ih=>intro m h hm;refine ih _ (fun y hy=>h y (List.mem_cons_of_mem _ hy)) ?_;have:=h x (cq ..);unfold uZ at this;show 0<=(if x.p9>m then x.p9 else m)/\(if x.p9>m then x.p9 else m)<=1000;split<;>omega
 exact this l 0 h ⟨by omega,by omega⟩
def iA(t:ah):Int:=t.br*rY t.bW.l
theorem tU{t:ah}(hV:lw t):0<=iA t/\iA t<=8000:=by obtain⟨h1,h2⟩:=NP hV.QF;obtain⟨h3,h4⟩:=hV.sw;unfold iA;generalize rY t.bW.l=s at*;generalize t.br=n at*;refine⟨Int.mul_nonneg (by omega) h1,?_⟩;have:=Int.mul_le_mul h4 h2 h1 (by omega);omega
theorem D2{t:ah}(hV:lw t):nQ t=some (iA t):=by have:=tU hV;have hl:=hV.HD;simp only[nQ,Ky (show t.bW.l.length<9223372036854775808 by omega),af];exact congrArg some (ii (n:=iA t) (by omega) (by omega))
theorem HJ{t:ah}(hV:lw t){miss:Int}(h0:0<=miss)(h1:miss<=1048576):ow t miss=some (2*miss+iA t+1):=by have:=tU hV;simp only[ow,D2 hV,af];rw[ii (n:=2*miss) (by omega) (by omega),ii (n:=2*miss+iA t) (by omega) (by omega),ii (by omega) (by omega)]
def CJ(l:List ae):Prop:=l.Pairwise Nl
structure BE(l:List ae)(l_:Int)(s:List Int):Prop where
 Nq:s.Pairwise (·<·)
 A6:∀x,x∈s<->∃m∈l,m.2.2.2=l_/\m.1=x
theorem M6{s:List Int}{x:Int}(h:s.Pairwise (·<·))(hx:∀y∈s,y<x):(s++[x]).Pairwise (·<·):=List.pairwise_append.2 ⟨h,by simp,fun a ha b hb=>by obtain rfl:=ao.1 hb;exact hx a ha⟩
theorem NJ{l:Sl ae}(hs:CJ l.l)(hb:l.l.length<=1000)(l_:Int):∃s,vi l l_=some s/\BE l.l l_ s.l:=by
 have h1:=Gt (f:=lf l l_) (fun i(s:Sl Int)=>((i:Int),s)) l.l.length (fun i s=>s.l.length<=i/\BE (l.l.take i) l_ s.l) (fun s=>BE l.l l_ s.l) (fun i s hi⟨hlen,hI⟩=>by
  left;have et:l.l.take (i+1)=l.l.take i++[gt l.l i]:=by rw[cR hi,cZ hi]
  have hc:=mi (s:=s) (gt l.l i).1 (by omega);have hpre:∀m∈l.l.take i,Nl m (gt l.l i):=fun m hm=>by have:=hs;unfold CJ at this;rw[<-List.take_append_drop i l.l]at this;refine(List.pairwise_append.1 this).2.2 m hm _ ?_;rw[List.drop_eq_getElem_cons hi,<-cR hi];exact cq ..
  have hmem1:∀x,(∃m∈l.l.take (i+1),m.2.2.2=l_/\m.1=x)<->(∃m∈l.l.take i,m.2.2.2=l_/\m.1=x)\/((gt l.l i).2.2.2=l_/\(gt l.l i).1=x):=fun x=>by
   rw[et];simp only[ap,ao];constructor
   .rintro ⟨m,hm|rfl,h⟩
    .exact .inl ⟨m,hm,h⟩
    .exact .inr h
   .rintro (⟨m,hm,h⟩|h)
    .exact ⟨m,.inl hm,h⟩
    .exact ⟨_,.inr rfl,h⟩
  by_cases hr:(gt l.l i).2.2.2=l_
  .by_cases hm:(gt l.l i).1∈s.l
   .refine ⟨s,?_,by omega,hI.Nq,fun x=>?_⟩
    .rw [decide_eq_true hm]at hc;simp only[lf,jw hi,cond_true,bq hi,af,hr,beq_self_eq_true,hc,Bool.not_true,cond_false,k_ (show i<9223372036854775807 by omega)]
    .rw [hmem1,hI.A6];refine⟨.inl,fun h=>h.elim id fun⟨_,h2⟩=>?_⟩;rw[<-hI.A6,<-h2];exact hm
   .refine ⟨.mk (s.l++[(gt l.l i).1]),?_,by rw[Sl.iP,av,bp];omega,?_,fun x=>?_⟩
    .rw [decide_eq_false hm]at hc;simp only[lf,jw hi,cond_true,bq hi,af,hr,beq_self_eq_true,hc,Bool.not_false,il (show(s.l++[(gt l.l i).1]).length<=2147483648 by rw[av,bp];omega),k_ (show i<9223372036854775807 by omega)]
    .refine M6 hI.Nq fun y hy=>?_;obtain⟨m,h1,h2,h3⟩:=(hI.A6 y).1 hy;have h4:=hpre m h1;unfold Nl at h4;have:y≠(gt l.l i).1:=fun e=>hm (e▸hy);omega
    .rw [hmem1,Sl.iP,ap,ao,hI.A6];refine or_congr Iff.rfl ⟨fun h=>⟨hr,h.symm⟩,fun h=>h.2.symm⟩
  .have hr2:((gt l.l i).2.2.2==l_)=false:=by rw[beq_eq_false_iff_ne];exact hr
   refine⟨s,?_,by omega,hI.Nq,fun x=>?_⟩
   .simp only[lf,jw hi,cond_true,bq hi,af,hr2,cond_false,k_ (show i<9223372036854775807 by omega)]
   .rw [hmem1,hI.A6];exact⟨.inl,fun h=>h.elim id fun h=>absurd h.1 hr⟩)
  (fun s⟨_,hI⟩=>⟨s,by simp only[lf,kO,cond_false],by rw[gi]at hI;exact hI⟩) 0 .nil (cG _) ⟨Nat.le_refl _,by simp,fun x=>by simp⟩
 obtain⟨s,h1,h2⟩:=h1;have h1:bE (lf l l_) (0,Sl.nil)=some s:=h1;exact⟨s,by simp only[vi,h1,af],h2⟩
def mz(n:Nat)(gap:Int):List Int:=(aL n).map fun(i:Nat)=>(i:Int)*gap
theorem Kp{n i:Nat}{gap:Int}(hi:i<n):gt (mz n gap) i=(i:Int)*gap:=by rw[cR (by simp[mz,hi])];simp[mz]
def jT(n:Nat)(gap:Int):List bI:=(aL n).map fun(i:Nat)=>((i:Int),((i+1:Nat):Int),gap)
theorem GX{n:Nat}(hn:n<=63)(gap:Int):∃s,bE (ma ((n+1:Nat):Int) gap) (1,Sl.nil)=some s/\s.l=jT n gap:=by
 have h1:=Gt (f:=ma ((n+1:Nat):Int) gap) (fun i(s:Sl bI)=>(((i+1:Nat):Int),s)) n (fun i s=>s.l=jT i gap) (fun s=>s.l=jT n gap) (fun i s hi hs=>by
  left;have hlen:s.l.length=i:=by rw[hs];simp[jT]
  have hw:wr .i64 (((i+1:Nat):Int)-1)=(i:Int):=by rw[ii (by omega) (by omega)];omega
  exact⟨.mk (s.l++[((i:Int),((i+1:Nat):Int),gap)]),by
   simp only[ma,jw (show i+1<n+1 by omega),cond_true,hw,il (show(s.l++[(((i:Int),((i+1:Nat):Int),gap):bI)]).length<=2147483648 by rw[av,bp];omega),af,k_ (show i+1<9223372036854775807 by omega)],by
   rw[Sl.iP,hs];simp[jT,List.range_succ]⟩)
  (fun s hs=>⟨s,by simp only[ma,kO,cond_false],hs⟩) 0 .nil (cG _) rfl
 exact h1
theorem GB{n:Nat}(hn:n<=63){gap:Int}(h0:0<gap)(h1:gap<=1073741824){s:Sl bI}(hs:s.l=jT n gap):rQ ((n+1:Nat):Int) s=some true:=by
 have hlen:s.l.length=n:=by rw[hs];simp[jT]
 have hi:=w8 (f:=ci s ((n+1:Nat):Int)) (β:=Int) (γ:=Unit) s.l (fun _ _=>none) () (by omega) (fun i hi=>by
  have hg:gt s.l i=((i:Int),((i+1:Nat):Int),gap):=by rw[cR hi];simp only[hs,jT,List.getElem_map,List.getElem_range]
  have hc:((((((decide ((i:Int)<0))||(decide ((i:Int)>=((n+1:Nat):Int))))||(decide (((i+1:Nat):Int)<0)))||(decide (((i+1:Nat):Int)>=((n+1:Nat):Int))))||(decide (gap<(-1073741824))))||(decide (gap>1073741824)))=false:=by simp only[gp,decide_eq_false_iff_not];omega
  simp only[ci,jw hi,cond_true,bq hi,af,rP,hg,hc,cond_false]) (by simp only[ci,kO,cond_false])
 have h2:lZ (β:=Int) (fun(_:Nat)(_:bI)=>none) s.l 0=none:=nL.2 fun _ _ _=>rfl;rw[h2]at hi;have hc:(((decide (((n+1:Nat):Int)<0))||(decide (((n+1:Nat):Int)>64)))||(decide ((s.l.length:Int)>256)))=false:=by simp only[gp,decide_eq_false_iff_not];omega
 simp only[rQ,hc,cond_false,dj,dq,hi,af];rfl
end Go.Proofs.YthcplpfiidlinaaDoor.J
