/- Plans: how long a packet is on its way, which switches have moves in a lV, and the times. Conditions: as stated. -/
import Derived.Test.YthcplpfiidlinaaDoorJLC
open Go.Ev Go
open Bool renaming or_eq_false_iff->gj
open List renaming length_append->av,length_singleton->bo,mem_append->ap,mem_cons_self->cn,mem_singleton->aq,range->aK,take_append_getElem->cX,take_length->ge
open Nat renaming zero_le->cF
open Option renaming bind_some->af
namespace Go.Proofs.YthcplpfiidlinaaDoor.J
def rK(l:List bz):Int:=l.foldl (fun m x=>if x.pS>m then x.pS else m) 0
theorem H_(l:List bz){i:Nat}(hi:i<l.length):rK (l.take (i+1))=if(gt l i).pS>rK (l.take i)then(gt l i).pS else rK (l.take i):=by unfold rK;rw[cP hi,<-cX hi,List.foldl_append];rfl
theorem Kk{t:ah}(hb:t.bU.l.length<9223372036854775808):lu t=some (rK t.bU.l):=by
 have e0:((0:Nat):Int)=0:=rfl
 have h:bD (jl t) (0,0)=some (rK t.bU.l):=by
  have h1:=F_ (f:=jl t) (fun i(m:Int)=>(m,(i:Int))) t.bU.l.length (fun i m=>m=rK (t.bU.l.take i)) (fun b=>b=rK t.bU.l) (fun i m hi hm=>by
   left;refine⟨_,?_,(H_ _ hi).symm⟩;subst hm;simp only[jl,js hi,cond_true,bp hi,af,kY (show i<9223372036854775807 by omega)])
   (fun m hm=>⟨m,by simp only[jl,kH,cond_false],by rw[hm,ge]⟩) 0 0 (cF _) rfl
  obtain⟨b,h1,rfl⟩:=h1;exact h1
 simp only[lu,h,af]
theorem NA{l:List bz}(h:∀x∈l,uJ x):0<=rK l/\rK l<=1000:=by
 have:∀(l:List bz)(m:Int),(∀x∈l,uJ x)->0<=m/\m<=1000->0<=l.foldl (fun m x=>if x.pS>m then x.pS else m) m/\l.foldl (fun m x=>if x.pS>m then x.pS else m) m<=1000:=by intro l;induction l with|nil=>intro m _ hm;exact hm|cons x l ih=>intro m h hm;refine ih _ (fun y hy=>h y (List.mem_cons_of_mem _ hy)) ?_;have:=h x (cn ..);unfold uJ at this;show 0<=(if x.pS>m then x.pS else m)/\(if x.pS>m then x.pS else m)<=1000;split<;>omega
 exact this l 0 h ⟨by omega,by omega⟩
def iU(t:ah):Int:=t.bq*rK t.bU.l
theorem tE{t:ah}(hV:lk t):0<=iU t/\iU t<=8000:=by obtain⟨h1,h2⟩:=NA hV.Qq;obtain⟨h3,h4⟩:=hV.sw;unfold iU;generalize rK t.bU.l=s at*;generalize t.bq=n at*;refine⟨Int.mul_nonneg (by omega) h1,?_⟩;have:=Int.mul_le_mul h4 h2 h1 (by omega);omega
theorem DI{t:ah}(hV:lk t):nI t=some (iU t):=by have:=tE hV;have hl:=hV.Hl;simp only[nI,Kk (show t.bU.l.length<9223372036854775808 by omega),af];exact congrArg some (ie (n:=iU t) (by omega) (by omega))
theorem Hs{t:ah}(hV:lk t){miss:Int}(h0:0<=miss)(h1:miss<=1048576):od t miss=some (2*miss+iU t+1):=by have:=tE hV;simp only[od,DI hV,af];rw[ie (n:=2*miss) (by omega) (by omega),ie (n:=2*miss+iU t) (by omega) (by omega),ie (by omega) (by omega)]
def Cm(l:List ae):Prop:=l.Pairwise M9
structure Bl(l:List ae)(lV:Int)(s:List Int):Prop where
 Nd:s.Pairwise (·<·)
 AM:∀x,x∈s<->∃m∈l,m.2.2.2=lV/\m.1=x
theorem MU{s:List Int}{x:Int}(h:s.Pairwise (·<·))(hx:∀y∈s,y<x):(s++[x]).Pairwise (·<·):=List.pairwise_append.2 ⟨h,by simp,fun a ha b hb=>by obtain rfl:=aq.1 hb;exact hx a ha⟩
theorem Nt{l:Sl ae}(hs:Cm l.l)(hb:l.l.length<=1000)(lV:Int):∃s,uY l lV=some s/\Bl l.l lV s.l:=by
 have h1:=F_ (f:=k8 l lV) (fun i(s:Sl Int)=>((i:Int),s)) l.l.length (fun i s=>s.l.length<=i/\Bl (l.l.take i) lV s.l) (fun s=>Bl l.l lV s.l) (fun i s hi⟨hlen,hI⟩=>by
  left;have et:l.l.take (i+1)=l.l.take i++[gt l.l i]:=by rw[cP hi,cX hi]
  have hc:=l_ (s:=s) (gt l.l i).1 (by omega);have hpre:∀m∈l.l.take i,M9 m (gt l.l i):=fun m hm=>by have:=hs;unfold Cm at this;rw[<-List.take_append_drop i l.l]at this;refine(List.pairwise_append.1 this).2.2 m hm _ ?_;rw[List.drop_eq_getElem_cons hi,<-cP hi];exact cn ..
  have hmem1:∀x,(∃m∈l.l.take (i+1),m.2.2.2=lV/\m.1=x)<->(∃m∈l.l.take i,m.2.2.2=lV/\m.1=x)\/((gt l.l i).2.2.2=lV/\(gt l.l i).1=x):=fun x=>by
   rw[et];simp only[ap,aq];constructor
   .rintro ⟨m,hm|rfl,h⟩
    .exact .inl ⟨m,hm,h⟩
    .exact .inr h
   .rintro (⟨m,hm,h⟩|h)
    .exact ⟨m,.inl hm,h⟩
    .exact ⟨_,.inr rfl,h⟩
  by_cases hr:(gt l.l i).2.2.2=lV
  .by_cases hm:(gt l.l i).1∈s.l
   .refine ⟨s,?_,by omega,hI.Nd,fun x=>?_⟩
    .rw [decide_eq_true hm]at hc;simp only[k8,js hi,cond_true,bp hi,af,hr,beq_self_eq_true,hc,Bool.not_true,cond_false,kY (show i<9223372036854775807 by omega)]
    .rw [hmem1,hI.AM];refine⟨.inl,fun h=>h.elim id fun⟨_,h2⟩=>?_⟩;rw[<-hI.AM,<-h2];exact hm
   .refine ⟨.mk (s.l++[(gt l.l i).1]),?_,by rw[Sl.iM,av,bo];omega,?_,fun x=>?_⟩
    .rw [decide_eq_false hm]at hc;simp only[k8,js hi,cond_true,bp hi,af,hr,beq_self_eq_true,hc,Bool.not_false,ij (show(s.l++[(gt l.l i).1]).length<=2147483648 by rw[av,bo];omega),kY (show i<9223372036854775807 by omega)]
    .refine MU hI.Nd fun y hy=>?_;obtain⟨m,h1,h2,h3⟩:=(hI.AM y).1 hy;have h4:=hpre m h1;unfold M9 at h4;have:y≠(gt l.l i).1:=fun e=>hm (e▸hy);omega
    .rw [hmem1,Sl.iM,ap,aq,hI.AM];refine or_congr Iff.rfl ⟨fun h=>⟨hr,h.symm⟩,fun h=>h.2.symm⟩
  .have hr2:((gt l.l i).2.2.2==lV)=false:=by rw[beq_eq_false_iff_ne];exact hr
   refine⟨s,?_,by omega,hI.Nd,fun x=>?_⟩
   .simp only[k8,js hi,cond_true,bp hi,af,hr2,cond_false,kY (show i<9223372036854775807 by omega)]
   .rw [hmem1,hI.AM];exact⟨.inl,fun h=>h.elim id fun h=>absurd h.1 hr⟩)
  (fun s⟨_,hI⟩=>⟨s,by simp only[k8,kH,cond_false],by rw[ge]at hI;exact hI⟩) 0 .nil (cF _) ⟨Nat.le_refl _,by simp,fun x=>by simp⟩
 obtain⟨s,h1,h2⟩:=h1;have h1:bD (k8 l lV) (0,Sl.nil)=some s:=h1;exact⟨s,by simp only[uY,h1,af],h2⟩
def mm(n:Nat)(gap:Int):List Int:=(aK n).map fun(i:Nat)=>(i:Int)*gap
theorem J_{n i:Nat}{gap:Int}(hi:i<n):gt (mm n gap) i=(i:Int)*gap:=by rw[cP (by simp[mm,hi])];simp[mm]
def jN(n:Nat)(gap:Int):List bG:=(aK n).map fun(i:Nat)=>((i:Int),((i+1:Nat):Int),gap)
theorem GF{n:Nat}(hn:n<=63)(gap:Int):∃s,bD (lW ((n+1:Nat):Int) gap) (1,Sl.nil)=some s/\s.l=jN n gap:=by
 have h1:=F_ (f:=lW ((n+1:Nat):Int) gap) (fun i(s:Sl bG)=>(((i+1:Nat):Int),s)) n (fun i s=>s.l=jN i gap) (fun s=>s.l=jN n gap) (fun i s hi hs=>by
  left;have hlen:s.l.length=i:=by rw[hs];simp[jN]
  have hw:wr .i64 (((i+1:Nat):Int)-1)=(i:Int):=by rw[ie (by omega) (by omega)];omega
  exact⟨.mk (s.l++[((i:Int),((i+1:Nat):Int),gap)]),by
   simp only[lW,js (show i+1<n+1 by omega),cond_true,hw,ij (show(s.l++[(((i:Int),((i+1:Nat):Int),gap):bG)]).length<=2147483648 by rw[av,bo];omega),af,kY (show i+1<9223372036854775807 by omega)],by
   rw[Sl.iM,hs];simp[jN,List.range_succ]⟩)
  (fun s hs=>⟨s,by simp only[lW,kH,cond_false],hs⟩) 0 .nil (cF _) rfl
 exact h1
theorem Gi{n:Nat}(hn:n<=63){gap:Int}(h0:0<gap)(h1:gap<=1073741824){s:Sl bG}(hs:s.l=jN n gap):rD ((n+1:Nat):Int) s=some true:=by
 have hlen:s.l.length=n:=by rw[hs];simp[jN]
 have hi:=wP (f:=cg s ((n+1:Nat):Int)) (β:=Int) (γ:=Unit) s.l (fun _ _=>none) () (by omega) (fun i hi=>by
  have hg:gt s.l i=((i:Int),((i+1:Nat):Int),gap):=by rw[cP hi];simp only[hs,jN,List.getElem_map,List.getElem_range]
  have hc:((((((decide ((i:Int)<0))||(decide ((i:Int)>=((n+1:Nat):Int))))||(decide (((i+1:Nat):Int)<0)))||(decide (((i+1:Nat):Int)>=((n+1:Nat):Int))))||(decide (gap<(-1073741824))))||(decide (gap>1073741824)))=false:=by simp only[gj,decide_eq_false_iff_not];omega
  simp only[cg,js hi,cond_true,bp hi,af,rC,hg,hc,cond_false]) (by simp only[cg,kH,cond_false])
 have h2:lT (β:=Int) (fun(_:Nat)(_:bG)=>none) s.l 0=none:=nD.2 fun _ _ _=>rfl;rw[h2]at hi;have hc:(((decide (((n+1:Nat):Int)<0))||(decide (((n+1:Nat):Int)>64)))||(decide ((s.l.length:Int)>256)))=false:=by simp only[gj,decide_eq_false_iff_not];omega
 simp only[rD,hc,cond_false,dg,dn,hi,af];rfl
end Go.Proofs.YthcplpfiidlinaaDoor.J
