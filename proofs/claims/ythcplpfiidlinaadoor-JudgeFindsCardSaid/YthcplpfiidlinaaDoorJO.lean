/- Plans: how long a packet is on its way, which switches have moves in a lY, and the times. Conditions: as stated. -/
import Derived.Test.YthcplpfiidlinaaDoorJLC
open Go.Ev Go
open Bool renaming or_eq_false_iff->gp
open List renaming length_append->av,length_singleton->bo,mem_append->ap,mem_cons_self->cn,mem_singleton->am,range->aL,take_append_getElem->cX,take_length->gi
open Nat renaming zero_le->cF
open Option renaming bind_some->af
namespace Go.Proofs.YthcplpfiidlinaaDoor.J
def rT(l:List bz):Int:=l.foldl (fun m x=>if x.pY>m then x.pY else m) 0
theorem Ii(l:List bz){i:Nat}(hi:i<l.length):rT (l.take (i+1))=if(gt l i).pY>rT (l.take i)then(gt l i).pY else rT (l.take i):=by unfold rT;rw[cQ hi,<-cX hi,List.foldl_append];rfl
theorem Kt{t:ah}(hb:t.bU.l.length<9223372036854775808):ly t=some (rT t.bU.l):=by
 have e0:((0:Nat):Int)=0:=rfl
 have h:bE (jm t) (0,0)=some (rT t.bU.l):=by
  have h1:=Gm (f:=jm t) (fun i(m:Int)=>(m,(i:Int))) t.bU.l.length (fun i m=>m=rT (t.bU.l.take i)) (fun b=>b=rT t.bU.l) (fun i m hi hm=>by
   left;refine⟨_,?_,(Ii _ hi).symm⟩;subst hm;simp only[jm,jt hi,cond_true,bp hi,af,k7 (show i<9223372036854775807 by omega)])
   (fun m hm=>⟨m,by simp only[jm,kL,cond_false],by rw[hm,gi]⟩) 0 0 (cF _) rfl
  obtain⟨b,h1,rfl⟩:=h1;exact h1
 simp only[ly,h,af]
theorem NK{l:List bz}(h:∀x∈l,uU x):0<=rT l/\rT l<=1000:=by
 have:∀(l:List bz)(m:Int),(∀x∈l,uU x)->0<=m/\m<=1000->0<=l.foldl (fun m x=>if x.pY>m then x.pY else m) m/\l.foldl (fun m x=>if x.pY>m then x.pY else m) m<=1000:=by intro l;induction l with|nil=>intro m _ hm;exact hm|cons x l ih=>intro m h hm;refine ih _ (fun y hy=>h y (List.mem_cons_of_mem _ hy)) ?_;have:=h x (cn ..);unfold uU at this;show 0<=(if x.pY>m then x.pY else m)/\(if x.pY>m then x.pY else m)<=1000;split<;>omega
 exact this l 0 h ⟨by omega,by omega⟩
def iV(t:ah):Int:=t.bq*rT t.bU.l
theorem tO{t:ah}(hV:lp t):0<=iV t/\iV t<=8000:=by obtain⟨h1,h2⟩:=NK hV.QD;obtain⟨h3,h4⟩:=hV.sw;unfold iV;generalize rT t.bU.l=s at*;generalize t.bq=n at*;refine⟨Int.mul_nonneg (by omega) h1,?_⟩;have:=Int.mul_le_mul h4 h2 h1 (by omega);omega
theorem DV{t:ah}(hV:lp t):nM t=some (iV t):=by have:=tO hV;have hl:=hV.Hv;simp only[nM,Kt (show t.bU.l.length<9223372036854775808 by omega),af];exact congrArg some (ig (n:=iV t) (by omega) (by omega))
theorem HB{t:ah}(hV:lp t){miss:Int}(h0:0<=miss)(h1:miss<=1048576):oe t miss=some (2*miss+iV t+1):=by have:=tO hV;simp only[oe,DV hV,af];rw[ig (n:=2*miss) (by omega) (by omega),ig (n:=2*miss+iV t) (by omega) (by omega),ig (by omega) (by omega)]
def Cz(l:List ae):Prop:=l.Pairwise Ng
structure Bv(l:List ae)(lY:Int)(s:List Int):Prop where
 Nk:s.Pairwise (·<·)
 AX:∀x,x∈s<->∃m∈l,m.2.2.2=lY/\m.1=x
theorem M1{s:List Int}{x:Int}(h:s.Pairwise (·<·))(hx:∀y∈s,y<x):(s++[x]).Pairwise (·<·):=List.pairwise_append.2 ⟨h,by simp,fun a ha b hb=>by obtain rfl:=am.1 hb;exact hx a ha⟩
theorem NE{l:Sl ae}(hs:Cz l.l)(hb:l.l.length<=1000)(lY:Int):∃s,vd l lY=some s/\Bv l.l lY s.l:=by
 have h1:=Gm (f:=k_ l lY) (fun i(s:Sl Int)=>((i:Int),s)) l.l.length (fun i s=>s.l.length<=i/\Bv (l.l.take i) lY s.l) (fun s=>Bv l.l lY s.l) (fun i s hi⟨hlen,hI⟩=>by
  left;have et:l.l.take (i+1)=l.l.take i++[gt l.l i]:=by rw[cQ hi,cX hi]
  have hc:=me (s:=s) (gt l.l i).1 (by omega);have hpre:∀m∈l.l.take i,Ng m (gt l.l i):=fun m hm=>by have:=hs;unfold Cz at this;rw[<-List.take_append_drop i l.l]at this;refine(List.pairwise_append.1 this).2.2 m hm _ ?_;rw[List.drop_eq_getElem_cons hi,<-cQ hi];exact cn ..
  have hmem1:∀x,(∃m∈l.l.take (i+1),m.2.2.2=lY/\m.1=x)<->(∃m∈l.l.take i,m.2.2.2=lY/\m.1=x)\/((gt l.l i).2.2.2=lY/\(gt l.l i).1=x):=fun x=>by
   rw[et];simp only[ap,am];constructor
   .rintro ⟨m,hm|rfl,h⟩
    .exact .inl ⟨m,hm,h⟩
    .exact .inr h
   .rintro (⟨m,hm,h⟩|h)
    .exact ⟨m,.inl hm,h⟩
    .exact ⟨_,.inr rfl,h⟩
  by_cases hr:(gt l.l i).2.2.2=lY
  .by_cases hm:(gt l.l i).1∈s.l
   .refine ⟨s,?_,by omega,hI.Nk,fun x=>?_⟩
    .rw [decide_eq_true hm]at hc;simp only[k_,jt hi,cond_true,bp hi,af,hr,beq_self_eq_true,hc,Bool.not_true,cond_false,k7 (show i<9223372036854775807 by omega)]
    .rw [hmem1,hI.AX];refine⟨.inl,fun h=>h.elim id fun⟨_,h2⟩=>?_⟩;rw[<-hI.AX,<-h2];exact hm
   .refine ⟨.mk (s.l++[(gt l.l i).1]),?_,by rw[Sl.iN,av,bo];omega,?_,fun x=>?_⟩
    .rw [decide_eq_false hm]at hc;simp only[k_,jt hi,cond_true,bp hi,af,hr,beq_self_eq_true,hc,Bool.not_false,ik (show(s.l++[(gt l.l i).1]).length<=2147483648 by rw[av,bo];omega),k7 (show i<9223372036854775807 by omega)]
    .refine M1 hI.Nk fun y hy=>?_;obtain⟨m,h1,h2,h3⟩:=(hI.AX y).1 hy;have h4:=hpre m h1;unfold Ng at h4;have:y≠(gt l.l i).1:=fun e=>hm (e▸hy);omega
    .rw [hmem1,Sl.iN,ap,am,hI.AX];refine or_congr Iff.rfl ⟨fun h=>⟨hr,h.symm⟩,fun h=>h.2.symm⟩
  .have hr2:((gt l.l i).2.2.2==lY)=false:=by rw[beq_eq_false_iff_ne];exact hr
   refine⟨s,?_,by omega,hI.Nk,fun x=>?_⟩
   .simp only[k_,jt hi,cond_true,bp hi,af,hr2,cond_false,k7 (show i<9223372036854775807 by omega)]
   .rw [hmem1,hI.AX];exact⟨.inl,fun h=>h.elim id fun h=>absurd h.1 hr⟩)
  (fun s⟨_,hI⟩=>⟨s,by simp only[k_,kL,cond_false],by rw[gi]at hI;exact hI⟩) 0 .nil (cF _) ⟨Nat.le_refl _,by simp,fun x=>by simp⟩
 obtain⟨s,h1,h2⟩:=h1;have h1:bE (k_ l lY) (0,Sl.nil)=some s:=h1;exact⟨s,by simp only[vd,h1,af],h2⟩
def mu(n:Nat)(gap:Int):List Int:=(aL n).map fun(i:Nat)=>(i:Int)*gap
theorem Ki{n i:Nat}{gap:Int}(hi:i<n):gt (mu n gap) i=(i:Int)*gap:=by rw[cQ (by simp[mu,hi])];simp[mu]
def jS(n:Nat)(gap:Int):List bI:=(aL n).map fun(i:Nat)=>((i:Int),((i+1:Nat):Int),gap)
theorem GR{n:Nat}(hn:n<=63)(gap:Int):∃s,bE (lZ ((n+1:Nat):Int) gap) (1,Sl.nil)=some s/\s.l=jS n gap:=by
 have h1:=Gm (f:=lZ ((n+1:Nat):Int) gap) (fun i(s:Sl bI)=>(((i+1:Nat):Int),s)) n (fun i s=>s.l=jS i gap) (fun s=>s.l=jS n gap) (fun i s hi hs=>by
  left;have hlen:s.l.length=i:=by rw[hs];simp[jS]
  have hw:wr .i64 (((i+1:Nat):Int)-1)=(i:Int):=by rw[ig (by omega) (by omega)];omega
  exact⟨.mk (s.l++[((i:Int),((i+1:Nat):Int),gap)]),by
   simp only[lZ,jt (show i+1<n+1 by omega),cond_true,hw,ik (show(s.l++[(((i:Int),((i+1:Nat):Int),gap):bI)]).length<=2147483648 by rw[av,bo];omega),af,k7 (show i+1<9223372036854775807 by omega)],by
   rw[Sl.iN,hs];simp[jS,List.range_succ]⟩)
  (fun s hs=>⟨s,by simp only[lZ,kL,cond_false],hs⟩) 0 .nil (cF _) rfl
 exact h1
theorem Gw{n:Nat}(hn:n<=63){gap:Int}(h0:0<gap)(h1:gap<=1073741824){s:Sl bI}(hs:s.l=jS n gap):rM ((n+1:Nat):Int) s=some true:=by
 have hlen:s.l.length=n:=by rw[hs];simp[jS]
 have hi:=wX (f:=cg s ((n+1:Nat):Int)) (β:=Int) (γ:=Unit) s.l (fun _ _=>none) () (by omega) (fun i hi=>by
  have hg:gt s.l i=((i:Int),((i+1:Nat):Int),gap):=by rw[cQ hi];simp only[hs,jS,List.getElem_map,List.getElem_range]
  have hc:((((((decide ((i:Int)<0))||(decide ((i:Int)>=((n+1:Nat):Int))))||(decide (((i+1:Nat):Int)<0)))||(decide (((i+1:Nat):Int)>=((n+1:Nat):Int))))||(decide (gap<(-1073741824))))||(decide (gap>1073741824)))=false:=by simp only[gp,decide_eq_false_iff_not];omega
  simp only[cg,jt hi,cond_true,bp hi,af,rL,hg,hc,cond_false]) (by simp only[cg,kL,cond_false])
 have h2:lW (β:=Int) (fun(_:Nat)(_:bI)=>none) s.l 0=none:=nG.2 fun _ _ _=>rfl;rw[h2]at hi;have hc:(((decide (((n+1:Nat):Int)<0))||(decide (((n+1:Nat):Int)>64)))||(decide ((s.l.length:Int)>256)))=false:=by simp only[gp,decide_eq_false_iff_not];omega
 simp only[rM,hc,cond_false,dh,dp,hi,af];rfl
end Go.Proofs.YthcplpfiidlinaaDoor.J
