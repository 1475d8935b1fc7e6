/- Plans: how long a packet is on its way, which switches have moves in a lY, and the times. Conditions: as stated. -/
import Derived.Test.YthcplpfiidlinaaDoorJLC
open Go.Ev Go
open Bool renaming or_eq_false_iff->gj
open List renaming length_append->av,length_singleton->bp,mem_append->ap,mem_cons_self->cq,mem_singleton->aq,range->aK,take_append_getElem->cZ,take_length->ge
open Nat renaming zero_le->cG
open Option renaming bind_some->af
namespace Go.Proofs.YthcplpfiidlinaaDoor.J
def rP(l:List bz):Int:=l.foldl (fun m x=>if x.pW>m then x.pW else m) 0
theorem Ig(l:List bz){i:Nat}(hi:i<l.length):rP (l.take (i+1))=if(gt l i).pW>rP (l.take i)then(gt l i).pW else rP (l.take i):=by unfold rP;rw[cR hi,<-cZ hi,List.foldl_append];rfl
theorem Ko{t:ah}(hb:t.bW.l.length<9223372036854775808):lC t=some (rP t.bW.l):=by
 have e0:((0:Nat):Int)=0:=rfl
 have h:bD (jm t) (0,0)=some (rP t.bW.l):=by
  have h1:=Gd (f:=jm t) (fun i(m:Int)=>(m,(i:Int))) t.bW.l.length (fun i m=>m=rP (t.bW.l.take i)) (fun b=>b=rP t.bW.l) (fun i m hi hm=>by
   left;refine⟨_,?_,(Ig _ hi).symm⟩;subst hm;simp only[jm,jt hi,cond_true,bq hi,af,k9 (show i<9223372036854775807 by omega)])
   (fun m hm=>⟨m,by simp only[jm,kK,cond_false],by rw[hm,ge]⟩) 0 0 (cG _) rfl
  obtain⟨b,h1,rfl⟩:=h1;exact h1
 simp only[lC,h,af]
theorem NE{l:List bz}(h:∀x∈l,uP x):0<=rP l/\rP l<=1000:=by
 have:∀(l:List bz)(m:Int),(∀x∈l,uP x)->0<=m/\m<=1000->0<=l.foldl (fun m x=>if x.pW>m then x.pW else m) m/\l.foldl (fun m x=>if x.pW>m then x.pW else m) m<=1000:=by intro l;induction l with|nil=>intro m _ hm;exact hm|cons x l ih=>intro m h hm;refine ih _ (fun y hy=>h y (List.mem_cons_of_mem _ hy)) ?_;have:=h x (cq ..);unfold uP at this;show 0<=(if x.pW>m then x.pW else m)/\(if x.pW>m then x.pW else m)<=1000;split<;>omega
 exact this l 0 h ⟨by omega,by omega⟩
def iw(t:ah):Int:=t.br*rP t.bW.l
theorem tK{t:ah}(hV:lr t):0<=iw t/\iw t<=8000:=by obtain⟨h1,h2⟩:=NE hV.Qt;obtain⟨h3,h4⟩:=hV.sw;unfold iw;generalize rP t.bW.l=s at*;generalize t.br=n at*;refine⟨Int.mul_nonneg (by omega) h1,?_⟩;have:=Int.mul_le_mul h4 h2 h1 (by omega);omega
theorem DO{t:ah}(hV:lr t):nM t=some (iw t):=by have:=tK hV;have hl:=hV.Hs;simp only[nM,Ko (show t.bW.l.length<9223372036854775808 by omega),af];exact congrArg some (ig (n:=iw t) (by omega) (by omega))
theorem Hy{t:ah}(hV:lr t){miss:Int}(h0:0<=miss)(h1:miss<=1048576):oq t miss=some (2*miss+iw t+1):=by have:=tK hV;simp only[oq,DO hV,af];rw[ig (n:=2*miss) (by omega) (by omega),ig (n:=2*miss+iw t) (by omega) (by omega),ig (by omega) (by omega)]
def Cw(l:List ae):Prop:=l.Pairwise Nb
structure Bv(l:List ae)(lY:Int)(s:List Int):Prop where
 Nh:s.Pairwise (·<·)
 AX:∀x,x∈s<->∃m∈l,m.2.2.2=lY/\m.1=x
theorem MX{s:List Int}{x:Int}(h:s.Pairwise (·<·))(hx:∀y∈s,y<x):(s++[x]).Pairwise (·<·):=List.pairwise_append.2 ⟨h,by simp,fun a ha b hb=>by obtain rfl:=aq.1 hb;exact hx a ha⟩
theorem Ny{l:Sl ae}(hs:Cw l.l)(hb:l.l.length<=1000)(lY:Int):∃s,u7 l lY=some s/\Bv l.l lY s.l:=by
 have h1:=Gd (f:=ld l lY) (fun i(s:Sl Int)=>((i:Int),s)) l.l.length (fun i s=>s.l.length<=i/\Bv (l.l.take i) lY s.l) (fun s=>Bv l.l lY s.l) (fun i s hi⟨hlen,hI⟩=>by
  left;have et:l.l.take (i+1)=l.l.take i++[gt l.l i]:=by rw[cR hi,cZ hi]
  have hc:=md (s:=s) (gt l.l i).1 (by omega);have hpre:∀m∈l.l.take i,Nb m (gt l.l i):=fun m hm=>by have:=hs;unfold Cw at this;rw[<-List.take_append_drop i l.l]at this;refine(List.pairwise_append.1 this).2.2 m hm _ ?_;rw[List.drop_eq_getElem_cons hi,<-cR hi];exact cq ..
  have hmem1:∀x,(∃m∈l.l.take (i+1),m.2.2.2=lY/\m.1=x)<->(∃m∈l.l.take i,m.2.2.2=lY/\m.1=x)\/((gt l.l i).2.2.2=lY/\(gt l.l i).1=x):=fun x=>by
   rw[et];simp only[ap,aq];constructor
   .rintro ⟨m,hm|rfl,h⟩
    .exact .inl ⟨m,hm,h⟩
    .exact .inr h
   .rintro (⟨m,hm,h⟩|h)
    .exact ⟨m,.inl hm,h⟩
    .exact ⟨_,.inr rfl,h⟩
  by_cases hr:(gt l.l i).2.2.2=lY
  .by_cases hm:(gt l.l i).1∈s.l
   .refine ⟨s,?_,by omega,hI.Nh,fun x=>?_⟩
    .rw [decide_eq_true hm]at hc;simp only[ld,jt hi,cond_true,bq hi,af,hr,beq_self_eq_true,hc,Bool.not_true,cond_false,k9 (show i<9223372036854775807 by omega)]
    .rw [hmem1,hI.AX];refine⟨.inl,fun h=>h.elim id fun⟨_,h2⟩=>?_⟩;rw[<-hI.AX,<-h2];exact hm
   .refine ⟨.mk (s.l++[(gt l.l i).1]),?_,by rw[Sl.iO,av,bp];omega,?_,fun x=>?_⟩
    .rw [decide_eq_false hm]at hc;simp only[ld,jt hi,cond_true,bq hi,af,hr,beq_self_eq_true,hc,Bool.not_false,ik (show(s.l++[(gt l.l i).1]).length<=2147483648 by rw[av,bp];omega),k9 (show i<9223372036854775807 by omega)]
    .refine MX hI.Nh fun y hy=>?_;obtain⟨m,h1,h2,h3⟩:=(hI.AX y).1 hy;have h4:=hpre m h1;unfold Nb at h4;have:y≠(gt l.l i).1:=fun e=>hm (e▸hy);omega
    .rw [hmem1,Sl.iO,ap,aq,hI.AX];refine or_congr Iff.rfl ⟨fun h=>⟨hr,h.symm⟩,fun h=>h.2.symm⟩
  .have hr2:((gt l.l i).2.2.2==lY)=false:=by rw[beq_eq_false_iff_ne];exact hr
   refine⟨s,?_,by omega,hI.Nh,fun x=>?_⟩
   .simp only[ld,jt hi,cond_true,bq hi,af,hr2,cond_false,k9 (show i<9223372036854775807 by omega)]
   .rw [hmem1,hI.AX];exact⟨.inl,fun h=>h.elim id fun h=>absurd h.1 hr⟩)
  (fun s⟨_,hI⟩=>⟨s,by simp only[ld,kK,cond_false],by rw[ge]at hI;exact hI⟩) 0 .nil (cG _) ⟨Nat.le_refl _,by simp,fun x=>by simp⟩
 obtain⟨s,h1,h2⟩:=h1;have h1:bD (ld l lY) (0,Sl.nil)=some s:=h1;exact⟨s,by simp only[u7,h1,af],h2⟩
def mr(n:Nat)(gap:Int):List Int:=(aK n).map fun(i:Nat)=>(i:Int)*gap
theorem Ke{n i:Nat}{gap:Int}(hi:i<n):gt (mr n gap) i=(i:Int)*gap:=by rw[cR (by simp[mr,hi])];simp[mr]
def jQ(n:Nat)(gap:Int):List bG:=(aK n).map fun(i:Nat)=>((i:Int),((i+1:Nat):Int),gap)
theorem GI{n:Nat}(hn:n<=63)(gap:Int):∃s,bD (lZ ((n+1:Nat):Int) gap) (1,Sl.nil)=some s/\s.l=jQ n gap:=by
 have h1:=Gd (f:=lZ ((n+1:Nat):Int) gap) (fun i(s:Sl bG)=>(((i+1:Nat):Int),s)) n (fun i s=>s.l=jQ i gap) (fun s=>s.l=jQ n gap) (fun i s hi hs=>by
  left;have hlen:s.l.length=i:=by rw[hs];simp[jQ]
  have hw:wr .i64 (((i+1:Nat):Int)-1)=(i:Int):=by rw[ig (by omega) (by omega)];omega
  exact⟨.mk (s.l++[((i:Int),((i+1:Nat):Int),gap)]),by
   simp only[lZ,jt (show i+1<n+1 by omega),cond_true,hw,ik (show(s.l++[(((i:Int),((i+1:Nat):Int),gap):bG)]).length<=2147483648 by rw[av,bp];omega),af,k9 (show i+1<9223372036854775807 by omega)],by
   rw[Sl.iO,hs];simp[jQ,List.range_succ]⟩)
  (fun s hs=>⟨s,by simp only[lZ,kK,cond_false],hs⟩) 0 .nil (cG _) rfl
 exact h1
theorem Gl{n:Nat}(hn:n<=63){gap:Int}(h0:0<gap)(h1:gap<=1073741824){s:Sl bG}(hs:s.l=jQ n gap):rH ((n+1:Nat):Int) s=some true:=by
 have hlen:s.l.length=n:=by rw[hs];simp[jQ]
 have hi:=wV (f:=ci s ((n+1:Nat):Int)) (β:=Int) (γ:=Unit) s.l (fun _ _=>none) () (by omega) (fun i hi=>by
  have hg:gt s.l i=((i:Int),((i+1:Nat):Int),gap):=by rw[cR hi];simp only[hs,jQ,List.getElem_map,List.getElem_range]
  have hc:((((((decide ((i:Int)<0))||(decide ((i:Int)>=((n+1:Nat):Int))))||(decide (((i+1:Nat):Int)<0)))||(decide (((i+1:Nat):Int)>=((n+1:Nat):Int))))||(decide (gap<(-1073741824))))||(decide (gap>1073741824)))=false:=by simp only[gj,decide_eq_false_iff_not];omega
  simp only[ci,jt hi,cond_true,bq hi,af,rG,hg,hc,cond_false]) (by simp only[ci,kK,cond_false])
 have h2:lW (β:=Int) (fun(_:Nat)(_:bG)=>none) s.l 0=none:=nG.2 fun _ _ _=>rfl;rw[h2]at hi;have hc:(((decide (((n+1:Nat):Int)<0))||(decide (((n+1:Nat):Int)>64)))||(decide ((s.l.length:Int)>256)))=false:=by simp only[gj,decide_eq_false_iff_not];omega
 simp only[rH,hc,cond_false,di,dn,hi,af];rfl
end Go.Proofs.YthcplpfiidlinaaDoor.J
