/- Plans: how long a packet is on its way, which switches have moves in a lS, and the times. Conditions: as stated. -/
import Derived.Test.YthcplpfiidlinaaDoorJLC
open Go.Ev Go
open Bool renaming or_eq_false_iff->gb
open List renaming length_append->az,length_singleton->bn,mem_append->ap,mem_cons_self->cC,mem_singleton->am,range->aK,take_append_getElem->cU,take_length->fY
open Nat renaming zero_le->cX
open Option renaming bind_some->af
namespace Go.Proofs.YthcplpfiidlinaaDoor.J
def rL(l:List bw):Int:=l.foldl (fun m x=>if x.pP>m then x.pP else m) 0
theorem HV(l:List bw){i:Nat}(hi:i<l.length):rL (l.take (i+1))=if(gt l i).pP>rL (l.take i)then(gt l i).pP else rL (l.take i):=by unfold rL;rw[cY hi,<-cU hi,List.foldl_append];rfl
theorem J7{t:ah}(hb:t.bS.l.length<9223372036854775808):lq t=some (rL t.bS.l):=by
 have e0:((0:Nat):Int)=0:=rfl
 have h:bE (jh t) (0,0)=some (rL t.bS.l):=by
  have h1:=F4 (f:=jh t) (fun i(m:Int)=>(m,(i:Int))) t.bS.l.length (fun i m=>m=rL (t.bS.l.take i)) (fun b=>b=rL t.bS.l) (fun i m hi hm=>by
   left;refine⟨_,?_,(HV _ hi).symm⟩;subst hm;simp only[jh,jo hi,cond_true,bA hi,af,lp (show i<9223372036854775807 by omega)])
   (fun m hm=>⟨m,by simp only[jh,kG,cond_false],by rw[hm,fY]⟩) 0 0 (cX _) rfl
  obtain⟨b,h1,rfl⟩:=h1;exact h1
 simp only[lq,h,af]
theorem Np{l:List bw}(h:∀x∈l,uL x):0<=rL l/\rL l<=1000:=by
 have:∀(l:List bw)(m:Int),(∀x∈l,uL x)->0<=m/\m<=1000->0<=l.foldl (fun m x=>if x.pP>m then x.pP else m) m/\l.foldl (fun m x=>if x.pP>m then x.pP else m) m<=1000:=by intro l;induction l with|nil=>intro m _ hm;exact hm|cons x l ih=>intro m h hm;refine ih _ (fun y hy=>h y (List.mem_cons_of_mem _ hy)) ?_;have:=h x (cC ..);unfold uL at this;show 0<=(if x.pP>m then x.pP else m)/\(if x.pP>m then x.pP else m)<=1000;split<;>omega
 exact this l 0 h ⟨by omega,by omega⟩
def iF(t:ah):Int:=t.bo*rL t.bS.l
theorem tE{t:ah}(hV:lh t):0<=iF t/\iF t<=8000:=by obtain⟨h1,h2⟩:=Np hV.Ql;obtain⟨h3,h4⟩:=hV.sw;unfold iF;generalize rL t.bS.l=s at*;generalize t.bo=n at*;refine⟨Int.mul_nonneg (by omega) h1,?_⟩;have:=Int.mul_le_mul h4 h2 h1 (by omega);omega
theorem DH{t:ah}(hV:lh t):nD t=some (iF t):=by have:=tE hV;have hl:=hV.Hc;simp only[nD,J7 (show t.bS.l.length<9223372036854775808 by omega),af];exact congrArg some (ir (n:=iF t) (by omega) (by omega))
theorem Hi{t:ah}(hV:lh t){miss:Int}(h0:0<=miss)(h1:miss<=1048576):nV t miss=some (2*miss+iF t+1):=by have:=tE hV;simp only[nV,DH hV,af];rw[ir (n:=2*miss) (by omega) (by omega),ir (n:=2*miss+iF t) (by omega) (by omega),ir (by omega) (by omega)]
def Cl(l:List ae):Prop:=l.Pairwise MY
structure Bi(l:List ae)(lS:Int)(s:List Int):Prop where
 OK:s.Pairwise (·<·)
 BL:∀x,x∈s<->∃m∈l,m.2.2.2=lS/\m.1=x
theorem MI{s:List Int}{x:Int}(h:s.Pairwise (·<·))(hx:∀y∈s,y<x):(s++[x]).Pairwise (·<·):=List.pairwise_append.2 ⟨h,by simp,fun a ha b hb=>by obtain rfl:=am.1 hb;exact hx a ha⟩
theorem Ni{l:Sl ae}(hs:Cl l.l)(hb:l.l.length<=1000)(lS:Int):∃s,uZ l lS=some s/\Bi l.l lS s.l:=by
 have h1:=F4 (f:=kX l lS) (fun i(s:Sl Int)=>((i:Int),s)) l.l.length (fun i s=>s.l.length<=i/\Bi (l.l.take i) lS s.l) (fun s=>Bi l.l lS s.l) (fun i s hi⟨hlen,hI⟩=>by
  left;have et:l.l.take (i+1)=l.l.take i++[gt l.l i]:=by rw[cY hi,cU hi]
  have hc:=lY (s:=s) (gt l.l i).1 (by omega);have hpre:∀m∈l.l.take i,MY m (gt l.l i):=fun m hm=>by have:=hs;unfold Cl at this;rw[<-List.take_append_drop i l.l]at this;refine(List.pairwise_append.1 this).2.2 m hm _ ?_;rw[List.drop_eq_getElem_cons hi,<-cY hi];exact cC ..
  have hmem1:∀x,(∃m∈l.l.take (i+1),m.2.2.2=lS/\m.1=x)<->(∃m∈l.l.take i,m.2.2.2=lS/\m.1=x)\/((gt l.l i).2.2.2=lS/\(gt l.l i).1=x):=fun x=>by
   rw[et];simp only[ap,am];constructor
   .rintro ⟨m,hm|rfl,h⟩
    .exact .inl ⟨m,hm,h⟩
    .exact .inr h
   .rintro (⟨m,hm,h⟩|h)
    .exact ⟨m,.inl hm,h⟩
    .exact ⟨_,.inr rfl,h⟩
  by_cases hr:(gt l.l i).2.2.2=lS
  .by_cases hm:(gt l.l i).1∈s.l
   .refine ⟨s,?_,by omega,hI.OK,fun x=>?_⟩
    .rw [decide_eq_true hm]at hc;simp only[kX,jo hi,cond_true,bA hi,af,hr,beq_self_eq_true,hc,Bool.not_true,cond_false,lp (show i<9223372036854775807 by omega)]
    .rw [hmem1,hI.BL];refine⟨.inl,fun h=>h.elim id fun⟨_,h2⟩=>?_⟩;rw[<-hI.BL,<-h2];exact hm
   .refine ⟨.mk (s.l++[(gt l.l i).1]),?_,by rw[Sl.iZ,az,bn];omega,?_,fun x=>?_⟩
    .rw [decide_eq_false hm]at hc;simp only[kX,jo hi,cond_true,bA hi,af,hr,beq_self_eq_true,hc,Bool.not_false,jq (show(s.l++[(gt l.l i).1]).length<=2147483648 by rw[az,bn];omega),lp (show i<9223372036854775807 by omega)]
    .refine MI hI.OK fun y hy=>?_;obtain⟨m,h1,h2,h3⟩:=(hI.BL y).1 hy;have h4:=hpre m h1;unfold MY at h4;have:y≠(gt l.l i).1:=fun e=>hm (e▸hy);omega
    .rw [hmem1,Sl.iZ,ap,am,hI.BL];refine or_congr Iff.rfl ⟨fun h=>⟨hr,h.symm⟩,fun h=>h.2.symm⟩
  .have hr2:((gt l.l i).2.2.2==lS)=false:=by rw[beq_eq_false_iff_ne];exact hr
   refine⟨s,?_,by omega,hI.OK,fun x=>?_⟩
   .simp only[kX,jo hi,cond_true,bA hi,af,hr2,cond_false,lp (show i<9223372036854775807 by omega)]
   .rw [hmem1,hI.BL];exact⟨.inl,fun h=>h.elim id fun h=>absurd h.1 hr⟩)
  (fun s⟨_,hI⟩=>⟨s,by simp only[kX,kG,cond_false],by rw[fY]at hI;exact hI⟩) 0 .nil (cX _) ⟨Nat.le_refl _,by simp,fun x=>by simp⟩
 obtain⟨s,h1,h2⟩:=h1;have h1:bE (kX l lS) (0,Sl.nil)=some s:=h1;exact⟨s,by simp only[uZ,h1,af],h2⟩
def mh(n:Nat)(gap:Int):List Int:=(aK n).map fun(i:Nat)=>(i:Int)*gap
theorem JX{n i:Nat}{gap:Int}(hi:i<n):gt (mh n gap) i=(i:Int)*gap:=by rw[cY (by simp[mh,hi])];simp[mh]
def jM(n:Nat)(gap:Int):List bI:=(aK n).map fun(i:Nat)=>((i:Int),((i+1:Nat):Int),gap)
theorem GA{n:Nat}(hn:n<=63)(gap:Int):∃s,bE (lT ((n+1:Nat):Int) gap) (1,Sl.nil)=some s/\s.l=jM n gap:=by
 have h1:=F4 (f:=lT ((n+1:Nat):Int) gap) (fun i(s:Sl bI)=>(((i+1:Nat):Int),s)) n (fun i s=>s.l=jM i gap) (fun s=>s.l=jM n gap) (fun i s hi hs=>by
  left;have hlen:s.l.length=i:=by rw[hs];simp[jM]
  have hw:wr .i64 (((i+1:Nat):Int)-1)=(i:Int):=by rw[ir (by omega) (by omega)];omega
  exact⟨.mk (s.l++[((i:Int),((i+1:Nat):Int),gap)]),by
   simp only[lT,jo (show i+1<n+1 by omega),cond_true,hw,jq (show(s.l++[(((i:Int),((i+1:Nat):Int),gap):bI)]).length<=2147483648 by rw[az,bn];omega),af,lp (show i+1<9223372036854775807 by omega)],by
   rw[Sl.iZ,hs];simp[jM,List.range_succ]⟩)
  (fun s hs=>⟨s,by simp only[lT,kG,cond_false],hs⟩) 0 .nil (cX _) rfl
 exact h1
theorem Gc{n:Nat}(hn:n<=63){gap:Int}(h0:0<gap)(h1:gap<=1073741824){s:Sl bI}(hs:s.l=jM n gap):rD ((n+1:Nat):Int) s=some true:=by
 have hlen:s.l.length=n:=by rw[hs];simp[jM]
 have hi:=wP (f:=bZ s ((n+1:Nat):Int)) (β:=Int) (γ:=Unit) s.l (fun _ _=>none) () (by omega) (fun i hi=>by
  have hg:gt s.l i=((i:Int),((i+1:Nat):Int),gap):=by rw[cY hi];simp only[hs,jM,List.getElem_map,List.getElem_range]
  have hc:((((((decide ((i:Int)<0))||(decide ((i:Int)>=((n+1:Nat):Int))))||(decide (((i+1:Nat):Int)<0)))||(decide (((i+1:Nat):Int)>=((n+1:Nat):Int))))||(decide (gap<(-1073741824))))||(decide (gap>1073741824)))=false:=by simp only[gb,decide_eq_false_iff_not];omega
  simp only[bZ,jo hi,cond_true,bA hi,af,rC,hg,hc,cond_false]) (by simp only[bZ,kG,cond_false])
 have h2:lQ (β:=Int) (fun(_:Nat)(_:bI)=>none) s.l 0=none:=ny.2 fun _ _ _=>rfl;rw[h2]at hi;have hc:(((decide (((n+1:Nat):Int)<0))||(decide (((n+1:Nat):Int)>64)))||(decide ((s.l.length:Int)>256)))=false:=by simp only[gb,decide_eq_false_iff_not];omega
 simp only[rD,hc,cond_false,df,dm,hi,af];rfl
end Go.Proofs.YthcplpfiidlinaaDoor.J
