/- Rounds of moves: what the program's Rounds answers. Conditions: as stated. -/
import Derived.Test.YtoekkpmeeclpeaaGreatLK
open Bool renaming not_true->gy,or_eq_false_iff->cJ
open Int renaming le_refl->gJ
open List renaming ext_getElem->gq,getElem_map->iZ,getElem_mem->aX,getElem_range->lA,length_append->aA,length_singleton->aP,length_take->bV,mem_append->aF,mem_cons_self->aG,mem_filter->cY,mem_map->aL,mem_range->cI,mem_singleton->az,pairwise_append->jU,range->aK,take_append_getElem->gZ,take_length->eB
open Nat renaming blt_eq->eA,zero_le->cp
open Option renaming bind_some->ad
open Go.Ev Go
namespace Go.Proofs.YtoekkpmeeclpeaaGreat.S
theorem Mb(l:List Int):p_ l=((aK l.length).filter fun j=>decide (j=0\/gt l j≠gt l (j-1))).map (gt l):=by
 have g:∀j,l.toArray[j]! =gt l j:=fun j=>by
  simp only[gt,List.getD_eq_getElem?_getD];by_cases hj:j<l.length
  .simp [hj]
  .simp [hj]
 show((aK l.length).filter (Lib.keeps l.toArray)).map (fun j=>l.toArray[j]!)=_;rw[show(fun j=>l.toArray[j]!)=gt l from funext g];congr 1;apply List.filter_congr;intro j _;unfold Lib.keeps;rw[g,g]
theorem Rt{l:List Int}{x:Int}:x∈p_ l<->x∈l:=by
 rw[Mb];constructor
 .intro h;obtain⟨j,hj,rfl⟩:=aL.1 h;have hl:j<l.length:=by have:=(cY.1 hj).1;simpa using this
  rw[cU hl];exact aX _
 .intro h;obtain⟨j,hj,e⟩:=List.mem_iff_getElem.1 h
  have main:∀j,j<l.length->gt l j=x->x∈((aK l.length).filter fun j=>decide (j=0\/gt l j≠gt l (j-1))).map (gt l):=by
   intro j;induction j with
   |zero=>intro hj e;exact aL.2 ⟨0,cY.2 ⟨by simpa using hj,by simp⟩,e⟩
   |succ j ih=>
    intro hj e;by_cases he:gt l (j+1)=gt l j
    .exact ih (by omega) (he▸e)
    .exact aL.2 ⟨j+1,cY.2 ⟨by simpa using hj,by simpa using he⟩,e⟩
  exact main j hj (by rw[cU hj];exact e)
theorem Ru{l:List Int}(hs:l.Pairwise (·<=·)):(p_ l).Pairwise (·<·):=by
 have hle:∀i j,i<=j->j<l.length->gt l i<=gt l j:=fun i j hij hj=>by
  rcases Nat.lt_or_eq_of_le hij with h|rfl
  .rw [cU (by omega),cU hj];exact List.pairwise_iff_getElem.1 hs i j (by omega) hj h
  .exact gJ _
 rw[Mb,List.pairwise_map];have h1:((aK l.length).filter fun j=>decide (j=0\/gt l j≠gt l (j-1))).Pairwise (·<·):=(List.pairwise_lt_range (n:=l.length)).filter _;refine List.Pairwise.imp_of_mem (fun{i j}_ hj hij=>?_) h1;obtain⟨hj1,hj2⟩:=cY.1 hj;have hj1:j<l.length:=by simpa using hj1
 have hj2:j=0\/gt l j≠gt l (j-1):=of_decide_eq_true hj2;have h3:=hle i (j-1) (by omega) (by omega);have h4:=hle (j-1) j (by omega) hj1;omega
theorem He{l:Sl aE}(hl:l.l.length<=1000):∃s,lf l=some s/\s.l.Pairwise (·<·)/\∀x,x∈s.l<->∃m∈l.l,m.2.2.2=x:=by
 obtain⟨s,h1,h2⟩:=Fe (f:=lJ l) l.l (fun m=>[m.2.2.2]) .nil (by omega) (fun i s hi hs=>by
  have hlen:s.l.length<=1000:=by have:=o7 (m:=1) (f:=fun m:aE=>[m.2.2.2]) (fun _=>by simp) (l.l.take i);rw[bV]at this;have e:s.l=(l.l.take i).flatMap fun m=>[m.2.2.2]:=hs;rw[e];omega
  exact⟨.mk (s.l++[(gt l.l i).2.2.2]),by simp only[lJ,m9 hi,cond_true,bS hi,ad,nm (show(s.l++[aE.DW (gt l.l i)]).length<=2147483648 by rw[aA,aP];omega)],rfl⟩) (fun s=>by simp only[lJ,rS,cond_false])
 have h2:s.l=l.l.flatMap fun m=>[m.2.2.2]:=h2;have hlen:s.l.length<=1000:=by have:=o7 (m:=1) (f:=fun m:aE=>[m.2.2.2]) (fun _=>by simp) l.l;rw[h2];omega
 have hsz:(uh s.l.toArray).toList.length=s.l.length:=by simp[uh]
 have hsort:tM uh s=some (s.to (uh s.l.toArray).toList):=by unfold tM;rw[show Nat.blt s.l.length 4611686018427387904=true by rw[eA];omega];rfl
 have hlenS:my (s.to (uh s.l.toArray).toList) s=some ():=by cases s with|nil=>rfl|mk l=>have hsz:(uh l.toArray).toList.length=l.length:=hsz;show Ip (uh l.toArray).toList l=some ();unfold Ip;rw[if_pos hsz]
 have htl:(s.to (uh s.l.toArray).toList).l=s.l.mergeSort NL:=by cases s with|nil=>exact List.mergeSort_nil.symm|mk l=>rfl
 have hcut:N9 p_ (s.to (uh s.l.toArray).toList)=some ((s.to (uh s.l.toArray).toList).to (p_ (s.l.mergeSort NL))):=by unfold N9;rw[htl,show Nat.blt (s.l.mergeSort NL).length 4611686018427387904=true by rw[eA,List.length_mergeSort];omega];rfl
 have hfin:((s.to (uh s.l.toArray).toList).to (p_ (s.l.mergeSort NL))).l=p_ (s.l.mergeSort NL):=by cases s with|nil=>show[]=p_ ([].mergeSort NL);rw[List.mergeSort_nil];rfl|mk l=>rfl
 have hrun:lf l=some ((s.to (uh s.l.toArray).toList).to (p_ (s.l.mergeSort NL))):=by simp only[lf,h1,ad,hsort,hlenS,hcut]
 refine⟨_,hrun,?_,fun x=>?_⟩
 .rw [hfin];refine Ru ?_;have:=List.pairwise_mergeSort (le:=NL) (fun a b c h1 h2=>by simp only[NL,decide_eq_true_eq]at*;omega) (fun a b=>by simp only[NL,Bool.or_eq_true,decide_eq_true_eq];omega) s.l;exact this.imp fun h=>by simpa[NL]using h
 .rw [hfin,Rt,List.mem_mergeSort,h2];simp only[List.mem_flatMap,az];exact⟨fun⟨m,h1,h2⟩=>⟨m,h1,h2.symm⟩,fun⟨m,h1,h2⟩=>⟨m,h1,h2.symm⟩⟩
end Go.Proofs.YtoekkpmeeclpeaaGreat.S
open Go.Ev Go
namespace Go.Proofs.YtoekkpmeeclpeaaGreat.S
def v_(l:List a8):Int:=l.foldl (fun m x=>if x.tI>m then x.tI else m) 0
theorem MX(l:List a8){i:Nat}(hi:i<l.length):v_ (l.take (i+1))=if(gt l i).tI>v_ (l.take i)then(gt l i).tI else v_ (l.take i):=by unfold v_;rw[cU hi,<-gZ hi,List.foldl_append];rfl
theorem Pk{t:ao}(hb:t.aZ.l.length<9223372036854775808):mV t=some (v_ t.aZ.l):=by
 have e0:((0:Nat):Int)=0:=rfl
 have h:aU (jB t) (0,0)=some (v_ t.aZ.l):=by
  have h1:=Kv (f:=jB t) (fun i(m:Int)=>(m,(i:Int))) t.aZ.l.length (fun i m=>m=v_ (t.aZ.l.take i)) (fun b=>b=v_ t.aZ.l) (fun i m hi hm=>by
   left;refine⟨_,?_,(MX _ hi).symm⟩;subst hm;simp only[jB,m9 hi,cond_true,bS hi,ad,yV (show i<9223372036854775807 by omega)])
   (fun m hm=>⟨m,by simp only[jB,rS,cond_false],by rw[hm,eB]⟩) 0 0 (cp _) rfl
  obtain⟨b,h1,rfl⟩:=h1;exact h1
 simp only[mV,h,ad]
theorem SL{l:List a8}(h:∀x∈l,yR x):0<=v_ l/\v_ l<=1000:=by
 have:∀(l:List a8)(m:Int),(∀x∈l,yR x)->0<=m/\m<=1000->0<=l.foldl (fun m x=>if x.tI>m then x.tI else m) m/\l.foldl (fun m x=>if x.tI>m then x.tI else m) m<=1000:=by intro l;induction l with|nil=>intro m _ hm;exact hm|cons x l ih=>intro m h hm;refine ih _ (fun y hy=>h y (List.mem_cons_of_mem _ hy)) ?_;have:=h x (aG ..);unfold yR at this;show 0<=(if x.tI>m then x.tI else m)/\(if x.tI>m then x.tI else m)<=1000;split<;>omega
 exact this l 0 h ⟨by omega,by omega⟩
def mh(t:ao):Int:=t.au*v_ t.aZ.l
theorem xD{t:ao}(hV:fB t):0<=mh t/\mh t<=8000:=by obtain⟨h1,h2⟩:=SL hV.QA;obtain⟨h3,h4⟩:=hV.sw;unfold mh;generalize v_ t.aZ.l=s at*;generalize t.au=n at*;refine⟨Int.mul_nonneg (by omega) h1,?_⟩;have:=Int.mul_le_mul h4 h2 h1 (by omega);omega
theorem Ij{t:ao}(hV:fB t):qs t=some (mh t):=by have:=xD hV;have hl:=hV.Fa;simp only[qs,Pk (show t.aZ.l.length<9223372036854775808 by omega),ad];exact congrArg some (iQ (n:=mh t) (by omega) (by omega))
theorem Uf{t:ao}(hV:fB t){miss:Int}(h0:0<=miss)(h1:miss<=1048576):uS t miss=some (2*miss+mh t+1):=by have:=xD hV;simp only[uS,Ij hV,ad];rw[iQ (n:=2*miss) (by omega) (by omega),iQ (n:=2*miss+mh t) (by omega) (by omega),iQ (by omega) (by omega)]
def GC(l:List aE):Prop:=l.Pairwise Jq
structure Jb(l:List aE)(round:Int)(s:List Int):Prop where
 Yc:s.Pairwise (·<·)
 zJ:∀x,x∈s<->∃m∈l,m.2.2.2=round/\m.1=x
theorem RR{s:List Int}{x:Int}(h:s.Pairwise (·<·))(hx:∀y∈s,y<x):(s++[x]).Pairwise (·<·):=jU.2 ⟨h,by simp,fun a ha b hb=>by obtain rfl:=az.1 hb;exact hx a ha⟩
theorem SI{l:Sl aE}(hs:GC l.l)(hb:l.l.length<=1000)(round:Int):∃s,uR l round=some s/\Jb l.l round s.l:=by
 have h1:=Kv (f:=jK l round) (fun i(s:Sl Int)=>((i:Int),s)) l.l.length (fun i s=>s.l.length<=i/\Jb (l.l.take i) round s.l) (fun s=>Jb l.l round s.l) (fun i s hi⟨hlen,hI⟩=>by
  left;have et:l.l.take (i+1)=l.l.take i++[gt l.l i]:=by rw[cU hi,gZ hi]
  have hc:=uB (s:=s) (gt l.l i).1 (by omega);have hpre:∀m∈l.l.take i,Jq m (gt l.l i):=fun m hm=>by have:=hs;unfold GC at this;rw[<-List.take_append_drop i l.l]at this;refine(jU.1 this).2.2 m hm _ ?_;rw[List.drop_eq_getElem_cons hi,<-cU hi];exact aG ..
  have hmem1:∀x,(∃m∈l.l.take (i+1),m.2.2.2=round/\m.1=x)<->(∃m∈l.l.take i,m.2.2.2=round/\m.1=x)\/((gt l.l i).2.2.2=round/\(gt l.l i).1=x):=fun x=>by
   rw[et];simp only[aF,az];constructor
   .rintro ⟨m,hm|rfl,h⟩
    .exact .inl ⟨m,hm,h⟩
    .exact .inr h
   .rintro (⟨m,hm,h⟩|h)
    .exact ⟨m,.inl hm,h⟩
    .exact ⟨_,.inr rfl,h⟩
  by_cases hr:(gt l.l i).2.2.2=round
  .by_cases hm:(gt l.l i).1∈s.l
   .refine ⟨s,?_,by omega,hI.Yc,fun x=>?_⟩
    .rw [decide_eq_true hm]at hc;simp only[jK,m9 hi,cond_true,bS hi,ad,hr,beq_self_eq_true,hc,gy,cond_false,yV (show i<9223372036854775807 by omega)]
    .rw [hmem1,hI.zJ];refine⟨.inl,fun h=>h.elim id fun⟨_,h2⟩=>?_⟩;rw[<-hI.zJ,<-h2];exact hm
   .refine ⟨.mk (s.l++[(gt l.l i).1]),?_,by rw[Sl.qz,aA,aP];omega,?_,fun x=>?_⟩
    .rw [decide_eq_false hm]at hc;simp only[jK,m9 hi,cond_true,bS hi,ad,hr,beq_self_eq_true,hc,Bool.not_false,nm (show(s.l++[(gt l.l i).1]).length<=2147483648 by rw[aA,aP];omega),yV (show i<9223372036854775807 by omega)]
    .refine RR hI.Yc fun y hy=>?_;obtain⟨m,h1,h2,h3⟩:=(hI.zJ y).1 hy;have h4:=hpre m h1;unfold Jq at h4;have:y≠(gt l.l i).1:=fun e=>hm (e▸hy);omega
    .rw [hmem1,Sl.qz,aF,az,hI.zJ];refine or_congr Iff.rfl ⟨fun h=>⟨hr,h.symm⟩,fun h=>h.2.symm⟩
  .have hr2:((gt l.l i).2.2.2==round)=false:=by rw[beq_eq_false_iff_ne];exact hr
   refine⟨s,?_,by omega,hI.Yc,fun x=>?_⟩
   .simp only[jK,m9 hi,cond_true,bS hi,ad,hr2,cond_false,yV (show i<9223372036854775807 by omega)]
   .rw [hmem1,hI.zJ];exact⟨.inl,fun h=>h.elim id fun h=>absurd h.1 hr⟩)
  (fun s⟨_,hI⟩=>⟨s,by simp only[jK,rS,cond_false],by rw[eB]at hI;exact hI⟩) 0 .nil (cp _) ⟨Nat.le_refl _,by simp,fun x=>by simp⟩
 obtain⟨s,h1,h2⟩:=h1;have h1:aU (jK l round) (0,Sl.nil)=some s:=h1;exact⟨s,by simp only[uR,h1,ad],h2⟩
def oB(n:Nat)(gap:Int):List Int:=(aK n).map fun(i:Nat)=>(i:Int)*gap
theorem O2{n i:Nat}{gap:Int}(hi:i<n):gt (oB n gap) i=(i:Int)*gap:=by rw[cU (by simp[oB,hi])];simp[oB]
def ky(n:Nat)(gap:Int):List a7:=(aK n).map fun(i:Nat)=>((i:Int),((i+1:Nat):Int),gap)
theorem KT{n:Nat}(hn:n<=63)(gap:Int):∃s,aU (lR ((n+1:Nat):Int) gap) (1,Sl.nil)=some s/\s.l=ky n gap:=by
 have h1:=Kv (f:=lR ((n+1:Nat):Int) gap) (fun i(s:Sl a7)=>(((i+1:Nat):Int),s)) n (fun i s=>s.l=ky i gap) (fun s=>s.l=ky n gap) (fun i s hi hs=>by
  left;have hlen:s.l.length=i:=by rw[hs];simp[ky]
  have hw:wr .i64 (((i+1:Nat):Int)-1)=(i:Int):=by rw[iQ (by omega) (by omega)];omega
  exact⟨.mk (s.l++[((i:Int),((i+1:Nat):Int),gap)]),by
   simp only[lR,m9 (show i+1<n+1 by omega),cond_true,hw,nm (show(s.l++[(((i:Int),((i+1:Nat):Int),gap):a7)]).length<=2147483648 by rw[aA,aP];omega),ad,yV (show i+1<9223372036854775807 by omega)],by
   rw[Sl.qz,hs];simp[ky,List.range_succ]⟩)
  (fun s hs=>⟨s,by simp only[lR,rS,cond_false],hs⟩) 0 .nil (cp _) rfl
 exact h1
theorem KD{n:Nat}(hn:n<=63){gap:Int}(h0:0<gap)(h1:gap<=1073741824){s:Sl a7}(hs:s.l=ky n gap):qC ((n+1:Nat):Int) s=some true:=by
 have hlen:s.l.length=n:=by rw[hs];simp[ky]
 have hi:=x5 (f:=bK s ((n+1:Nat):Int)) (β:=Int) (γ:=Unit) s.l (fun _ _=>none) () (by omega) (fun i hi=>by
  have hg:gt s.l i=((i:Int),((i+1:Nat):Int),gap):=by rw[cU hi];simp only[hs,ky,iZ,lA]
  have hc:((((((decide ((i:Int)<0))||(decide ((i:Int)>=((n+1:Nat):Int))))||(decide (((i+1:Nat):Int)<0)))||(decide (((i+1:Nat):Int)>=((n+1:Nat):Int))))||(decide (gap<(-1073741824))))||(decide (gap>1073741824)))=false:=by simp only[cJ,decide_eq_false_iff_not];omega
  simp only[bK,m9 hi,cond_true,bS hi,ad,vS,hg,hc,cond_false]) (by simp only[bK,rS,cond_false])
 have h2:lF (β:=Int) (fun(_:Nat)(_:a7)=>none) s.l 0=none:=qj.2 fun _ _ _=>rfl;rw[h2]at hi;have hc:(((decide (((n+1:Nat):Int)<0))||(decide (((n+1:Nat):Int)>64)))||(decide ((s.l.length:Int)>256)))=false:=by simp only[cJ,decide_eq_false_iff_not];omega
 simp only[qC,hc,cond_false,bL,bU,hi,ad];rfl
end Go.Proofs.YtoekkpmeeclpeaaGreat.S
open Go.Ev Go
namespace Go.Proofs.YtoekkpmeeclpeaaGreat.S
theorem Cp{N j:Nat}(f:Nat->Int)(hj:j<N):gt ((aK N).map f) j=f j:=by rw[cU (by simp[hj])];simp
theorem SN{N k:Nat}(f:Nat->Int)(v:Int):((aK N).map f).set k v=(aK N).map fun j=>if j=k then v else f j:=by
 apply gq (by simp);intro i h1 h2;simp only[List.getElem_set,iZ,lA];by_cases h:k=i
 .rw [if_pos h,if_pos h.symm]
 .rw [if_neg h,if_neg (Ne.symm h)]
def nL(gap:Int)(i j:Nat):Int:=if j<=i then(j:Int)*gap else 0
theorem MD(gap:Int)(i:Nat):(fun j=>if j=i+1 then((i+1:Nat):Int)*gap else nL gap i j)=nL gap (i+1):=by
 funext j;unfold nL;by_cases h:j=i+1
 .rw [if_pos h,if_pos (by omega),h]
 .rw [if_neg h];by_cases h2:j<=i
  .rw [if_pos h2,if_pos (by omega)]
  .rw [if_neg h2,if_neg (by omega)]
section
variable{n:Nat}{gap:Int}{s:Sl a7}
theorem Ja(hs:s.l=ky n gap){i:Nat}(hi:i<n):gt s.l i=((i:Int),((i+1:Nat):Int),gap):=by
 have hl:i<s.l.length:=by rw[hs];simp[ky,hi]
 rw[cU hl];simp only[hs,ky,iZ,lA]
theorem J_{i n:Nat}{gap:Int}(h0:0<gap)(h1:gap<=1073741824)(hi:i<=n)(hn:n<=64):0<=(i:Int)*gap/\(i:Int)*gap<=68719476736:=by refine⟨Int.mul_nonneg (by omega) (by omega),?_⟩;have:=Int.mul_le_mul (show(i:Int)<=64 by omega) h1 (by omega) (by omega);omega
theorem ZN(hn:n<=63)(h0:0<gap)(h1:gap<=1073741824)(hs:s.l=ky n gap){b:List Int}(hb:b.length=n+1):
  ∃b',aU (gY s) (-1,0,.mk ((aK (n+1)).map (nL gap 0)),.mk b)=some (if n=0 then-1 else(n:Int),.mk ((aK (n+1)).map (nL gap n)),.mk b')/\b'.length=n+1:=by
 have hlen:s.l.length=n:=by rw[hs];simp[ky]
 have h:=Kv (f:=gY s) (fun i(b:List Int)=>(if i=0 then-1 else(i:Int),(i:Int),Sl.mk ((aK (n+1)).map (nL gap i)),Sl.mk b)) n (fun _ b=>b.length=n+1)
  (fun r=>∃b',r=(if n=0 then-1 else(n:Int),Sl.mk ((aK (n+1)).map (nL gap n)),Sl.mk b')/\b'.length=n+1) (fun i b hi hb=>by
   left;have hg:=Ja hs hi;have hil:i<s.l.length:=by omega
   have l1:i<(Sl.mk ((aK (n+1)).map (nL gap i))).l.length:=by simp;omega
   have l2:i+1<(Sl.mk ((aK (n+1)).map (nL gap i))).l.length:=by simp;omega
   have l3:i+1<(Sl.mk b).l.length:=by rw[Sl.qz,hb];omega
   have g1:gt (Sl.mk ((aK (n+1)).map (nL gap i))).l i=(i:Int)*gap:=by rw[Sl.qz,Cp _ (by omega)];simp[nL]
   have g2:gt (Sl.mk ((aK (n+1)).map (nL gap i))).l (i+1)=0:=by rw[Sl.qz,Cp _ (by omega),nL,if_neg (by omega)]
   have hm:=J_ h0 h1 (show i<=n by omega) (by omega);have em:(i:Int)*gap+gap=((i+1:Nat):Int)*gap:=by rw[show((i+1:Nat):Int)=(i:Int)+1 by omega,Int.add_mul,Int.one_mul]
   have hw:wr .i64 ((i:Int)*gap+gap)=((i+1:Nat):Int)*gap:=by rw[iQ (by omega) (by omega),em]
   have hgt:decide (((i+1:Nat):Int)*gap>0)=true:=by rw[decide_eq_true_eq];omega
   refine⟨b.set (i+1) (i:Int),?_,by simp[hb]⟩;simp only[gY,m9 hil,cond_true,bS hil,hg,bS l1,bS l2,bS l3,ad,g1,g2,hw,hgt,yV (show i<9223372036854775807 by omega)];simp only[Sl.qz,SN,MD];rfl)
  (fun b hb=>⟨(if n=0 then-1 else(n:Int),Sl.mk ((aK (n+1)).map (nL gap n)),Sl.mk b),by simp only[gY,hlen,rS,cond_false],b,rfl,hb⟩) 0 b (cp _) hb
 obtain⟨r,h2,b',rfl,h3⟩:=h;exact⟨b',h2,h3⟩
theorem ZM(hn:n<=63)(h0:0<gap)(h1:gap<=1073741824)(hs:s.l=ky n gap)(b:Sl Int):
  aU (gY s) (-1,0,.mk ((aK (n+1)).map (nL gap n)),b)=some (-1,.mk ((aK (n+1)).map (nL gap n)),b):=by
 have hlen:s.l.length=n:=by rw[hs];simp[ky]
 have h:=Kv (f:=gY s) (fun i(_:Unit)=>((-1:Int),(i:Int),Sl.mk ((aK (n+1)).map (nL gap n)),b)) n (fun _ _=>True)
  (fun r=>r=((-1:Int),Sl.mk ((aK (n+1)).map (nL gap n)),b)) (fun i _ hi _=>by
   left;have hg:=Ja hs hi;have hil:i<s.l.length:=by omega
   have l1:i<(Sl.mk ((aK (n+1)).map (nL gap n))).l.length:=by simp;omega
   have l2:i+1<(Sl.mk ((aK (n+1)).map (nL gap n))).l.length:=by simp;omega
   have g1:gt (Sl.mk ((aK (n+1)).map (nL gap n))).l i=(i:Int)*gap:=by rw[Sl.qz,Cp _ (by omega),nL,if_pos (by omega)]
   have g2:gt (Sl.mk ((aK (n+1)).map (nL gap n))).l (i+1)=((i+1:Nat):Int)*gap:=by rw[Sl.qz,Cp _ (by omega),nL,if_pos (by omega)]
   have hm:=J_ h0 h1 (show i<=n by omega) (by omega);have em:(i:Int)*gap+gap=((i+1:Nat):Int)*gap:=by rw[show((i+1:Nat):Int)=(i:Int)+1 by omega,Int.add_mul,Int.one_mul]
   have hw:wr .i64 ((i:Int)*gap+gap)=((i+1:Nat):Int)*gap:=by rw[iQ (by omega) (by omega),em]
   have hgt:decide (((i+1:Nat):Int)*gap>((i+1:Nat):Int)*gap)=false:=by rw[decide_eq_false_iff_not];omega
   refine⟨(),?_,trivial⟩;simp only[gY,m9 hil,cond_true,bS hil,hg,bS l1,bS l2,ad,g1,g2,hw,hgt,cond_false,yV (show i<9223372036854775807 by omega)])
  (fun _ _=>⟨_,by simp only[gY,hlen,rS,cond_false],rfl⟩) 0 () (cp _) trivial
 obtain⟨r,h2,rfl⟩:=h;exact h2
theorem PT(hn:n<=63)(h0:0<gap)(h1:gap<=1073741824)(hs:s.l=ky n gap):∃b,sA ((n+1:Nat):Int) s=some (.mk (oB (n+1) gap),b,-1):=by
 have hmk:yT (0:Int) ((n+1:Nat):Int) ((n+1:Nat):Int)=some ((aK (n+1)).map (nL gap 0)):=by
  unfold yT;rw[if_pos ⟨by omega,gJ _,by omega⟩];congr 1;rw[Int.toNat_natCast];apply gq (by simp);intro i _ _;simp only[List.getElem_replicate,iZ,lA,nL];by_cases h:i<=0
  .rw [if_pos h,show i=0 by omega];simp
  .rw [if_neg h]
 have ht:(aK (n+1)).map (nL gap n)=oB (n+1) gap:=by unfold oB;apply List.map_congr_left;intro j hj;rw[nL,if_pos (by have:=cI.1 hj;omega)]
 have hw:wr .i64 (((n+1:Nat):Int)+1)=((n+2:Nat):Int):=by rw[iQ (by omega) (by omega)];omega
 obtain⟨b1,p1,p2⟩:=ZN hn h0 h1 hs (b:=(aK (n+1)).map (nL gap 0)) (by simp)
 have hl:∃b,aU (ll ((n+1:Nat):Int) s) (-1,0,.mk ((aK (n+1)).map (nL gap 0)),.mk ((aK (n+1)).map (nL gap 0)))=some (-1,.mk (oB (n+1) gap),b):=by
  have c1:decide ((0:Int)<((n+2:Nat):Int))=true:=by rw[decide_eq_true_eq];omega
  by_cases hz:n=0
  .rw [if_pos hz]at p1;refine⟨.mk b1,cM ?_⟩;simp only[ll,hw,c1,cond_true,p1,ad,ht];rfl
  .rw [if_neg hz]at p1;have c2:decide ((n:Int)<0)=false:=by rw[decide_eq_false_iff_not];omega
   have c3:decide ((1:Int)<((n+2:Nat):Int))=true:=by rw[decide_eq_true_eq];omega
   have p3:=ZM hn h0 h1 hs (.mk b1);rw[ht]at p3;refine⟨.mk b1,(fu (a':=((n:Int),(1:Int),.mk ((aK (n+1)).map (nL gap n)),.mk b1)) ?_).trans (cM ?_)⟩
   .simp only[ll,hw,c1,cond_true,p1,ad,c2,cond_false];rfl
   .simp only[ll,hw,c3,cond_true,ht,p3,ad];rfl
 obtain⟨b,hl⟩:=hl;exact⟨b,by simp only[sA,hmk,ad,hl]⟩
theorem MK(hn:n<=63)(h0:0<gap)(h1:gap<=1073741824):oG ((n+1:Nat):Int) gap=some (.mk (oB (n+1) gap)):=by obtain⟨s,h2,h3⟩:=KT hn gap;obtain⟨b,h4⟩:=PT hn h0 h1 h3;simp only[oG,h2,ad,nY,KD hn h0 h1 h3,gy,cond_false,h4];rfl
end
end Go.Proofs.YtoekkpmeeclpeaaGreat.S
open Go.Ev Go
namespace Go.Proofs.YtoekkpmeeclpeaaGreat.S
section
variable{t:ao}{old now:Sl (Sl Int)}
theorem NC:GC (vH t old now):=F7
structure Rds(ms:List aE)(first gap:Int)(R:List aS):Prop where
 Yc:(R.map fun x=>x.1).Pairwise (·<·)
 zJ:∀x,x∈(R.map fun x=>x.1)<->∃m∈ms,m.2.2.2=x
 ach:∀i,i<R.length->(gt R i).2.1=first+(i:Int)*gap
 sws:∀i,i<R.length->Jb ms (gt R i).1 (gt R i).2.2.l
theorem Gw{l:List Int}(h:l.Pairwise (·<·))(hb:∀x∈l,0<=x/\x<8):l.length<=8:=by
 have hnd:l.Nodup:=h.imp fun h e=>by omega
 have hsub:l⊆(aK 8).map fun(i:Nat)=>(i:Int):=fun x hx=>by have:=hb x hx;exact aL.2 ⟨x.toNat,cI.2 (by omega),by omega⟩
 simpa using hnd.length_le_of_subset hsub
theorem Rds.len{first gap:Int}{R:List aS}(hN:mr t now)(h:Rds (vH t old now) first gap R):R.length<=8:=by
 have:=Gw h.Yc fun x hx=>by obtain⟨m,hm,rfl⟩:=(h.zJ x).1 hx;have:=Ib hN hm;omega
 simpa using this
def kK(t:ao)(at' miss fA:Int):Int:=at'+fA+miss+mh t+1
def tB(t:ao)(miss:Int):Int:=2*miss+mh t+1
def In(at' miss fA:Int):Prop:=(0<=at'/\at'<=1099511627776)/\(0<=miss/\miss<=1048576)/\(0<=fA/\fA<=1048576)
instance{a b c:Int}:Decidable (In a b c):=by unfold In;infer_instance
def Cn:am:=⟨Sl.nil,Sl.nil,0,0,0,0⟩
def BC(t:ao)(at' miss fA:Int)(n:Nat):Int:=kK t at' miss fA+((n-1:Nat):Int)*tB t miss+miss
theorem QY(hV:fB t){at' miss fA:Int}(hI:In at' miss fA):0<tB t miss/\tB t miss<=1073741824:=by have:=xD hV;unfold tB;unfold In at hI;omega
theorem Q5(hV:fB t){at' miss fA:Int}(hI:In at' miss fA):0<=kK t at' miss fA/\kK t at' miss fA<=1100000000000:=by have:=xD hV;unfold kK;unfold In at hI;omega
theorem K9(hV:fB t){at' miss fA:Int}(hI:In at' miss fA){i:Nat}(hi:i<=8):0<=kK t at' miss fA+(i:Int)*tB t miss/\kK t at' miss fA+(i:Int)*tB t miss<=1200000000000:=by obtain⟨h1,h2⟩:=QY hV hI;have h3:=Q5 hV hI;have h4:=J_ h1 h2 hi (show 8<=64 by omega);omega
structure abU(t:ao)(old now:Sl (Sl Int))(at' miss fA:Int)(p:am)(e:Int):Prop where
 none:vH t old now=[]->p=Cn/\e=7
 ZO:vH t old now≠[]->∃(s:Sl aE)(R:Sl aS),s.l=vH t old now/\Rds (vH t old now) (kK t at' miss fA) (tB t miss) R.l/\0<R.l.length/\
  ((BC t at' miss fA R.l.length>1099511627776/\p=Cn/\e=11)\/
   (BC t at' miss fA R.l.length<=1099511627776/\p=(s,R,miss,mh t,at'+fA+1,BC t at' miss fA R.l.length)/\e=0))
theorem Hg(hN:mr t now){at' miss fA:Int}(hI:In at' miss fA){s:Sl aE}(hs:s.l=vH t old now){L:Sl Int}(hL1:L.l.Pairwise (·<·))(hL2:∀x,x∈L.l<->∃m∈s.l,m.2.2.2=x)(hL3:L.l.length<=8):
  ∃R,aU (lc at' miss fA s (mh t) L (.mk (oB L.l.length (tB t miss)))) (0,s,miss,mh t,0,0,Sl.nil)=some (s,miss,mh t,0,0,R)/\Rds (vH t old now) (kK t at' miss fA) (tB t miss) R.l/\R.l.length=L.l.length:=by
 have hV:=hN.1.D_;have hlf:=xD hV;have hI2:=hI;unfold In at hI2;have hms:s.l.length<=1000:=by rw[hs];have:=Kc (old:=old) hN;omega
 have hsort:GC s.l:=hs▸NC;have htl:(Sl.mk (oB L.l.length (tB t miss))).l.length=L.l.length:=by simp[oB]
 have w1:wr .i64 (wr .i64 (wr .i64 (wr .i64 (at'+fA)+miss)+mh t)+1)=kK t at' miss fA:=by unfold kK;rw[iQ (n:=at'+fA) (by omega) (by omega),iQ (n:=at'+fA+miss) (by omega) (by omega),iQ (n:=at'+fA+miss+mh t) (by omega) (by omega),iQ (by omega) (by omega)]
 have h:=Kv (f:=lc at' miss fA s (mh t) L (.mk (oB L.l.length (tB t miss)))) (fun i(R:Sl aS)=>((i:Int),s,miss,mh t,(0:Int),(0:Int),R)) L.l.length
  (fun i R=>R.l.length=i/\(R.l.map fun x=>x.1)=L.l.take i/\(∀j,j<i->(gt R.l j).2.1=kK t at' miss fA+(j:Int)*tB t miss)/\∀j,j<i->Jb s.l (gt R.l j).1 (gt R.l j).2.2.l)
  (fun b=>∃R,b=(s,miss,mh t,(0:Int),(0:Int),R)/\Rds (vH t old now) (kK t at' miss fA) (tB t miss) R.l/\R.l.length=L.l.length) (fun i R hi⟨i1,i2,i3,i4⟩=>by
   left;obtain⟨S,q1,q2⟩:=SI hsort hms (gt L.l i);have l1:i<(Sl.mk (oB L.l.length (tB t miss))).l.length:=by rw[htl];exact hi
   have g1:gt (Sl.mk (oB L.l.length (tB t miss))).l i=(i:Int)*tB t miss:=by rw[Sl.qz,O2 hi]
   have ht:=K9 hV hI (show i<=8 by omega);have w2:wr .i64 (kK t at' miss fA+(i:Int)*tB t miss)=kK t at' miss fA+(i:Int)*tB t miss:=iQ (by omega) (by omega);refine⟨.mk (R.l++[(gt L.l i,kK t at' miss fA+(i:Int)*tB t miss,S)]),?_,by simp[i1],?_,fun j hj=>?_,fun j hj=>?_⟩
   .have hiL:=hi;rw[<-htl]at hi;simp only[lc,m9 hi,cond_true,bS l1,bS hiL,ad,q1,w1,g1,w2,yV (show i<9223372036854775807 by omega)];rw[nm (by rw[aA,aP];omega)];rfl
   .rw [Sl.qz,List.map_append,i2,cU hi];simp
   .rw [Sl.qz];by_cases he:j=i
    .subst he;rw[cU (by simp[i1]),List.getElem_append_right (by omega)];simp[i1]
    .rw [cU (by simp;omega),List.getElem_append_left (by omega),<-cU (by omega)];exact i3 j (by omega)
   .rw [Sl.qz];by_cases he:j=i
    .subst he;rw[cU (by simp[i1]),List.getElem_append_right (by omega)];simpa[i1]using q2
    .rw [cU (by simp;omega),List.getElem_append_left (by omega),<-cU (by omega)];exact i4 j (by omega))
  (fun R⟨i1,i2,i3,i4⟩=>by rw[eB]at i2;refine⟨_,by simp only[lc,htl,rS,cond_false],R,rfl,⟨by rw[i2];exact hL1,fun x=>by rw[i2,hL2,hs],fun j hj=>i3 j (by omega),fun j hj=>hs▸i4 j (by omega)⟩,i1⟩) 0 .nil (cp _) ⟨rfl,by simp,fun j hj=>by omega,fun j hj=>by omega⟩
 obtain⟨b,h1,R,rfl,h2,h3⟩:=h;exact⟨R,h1,h2,h3⟩
theorem QR{at' miss fA:Int}:((pz at' 1099511627776).bind fun r1=>bif !r1 then some true else((pz miss 1048576).bind fun r2=>bif !r2 then some true else((pz fA 1048576).bind fun r3=>some (!r3))):Option Bool)=some (decide (¬In at' miss fA)):=by
 have e:decide (¬In at' miss fA)=!((decide (at'>=0)&&decide (at'<=1099511627776))&&((decide (miss>=0)&&decide (miss<=1048576))&&(decide (fA>=0)&&decide (fA<=1048576)))):=by rw[Bool.eq_iff_iff,decide_eq_true_eq (p:=¬In at' miss fA)];simp only[Bool.not_eq_true',Bool.and_eq_false_iff,decide_eq_false_iff_not];unfold In;omega
 rw[e];simp only[pz,ad];cases(decide (at'>=0)&&decide (at'<=1099511627776))<;>cases(decide (miss>=0)&&decide (miss<=1048576))<;>cases(decide (fA>=0)&&decide (fA<=1048576))<;>rfl
theorem NG(hO:mr t old)(hN:mr t now){at' miss fA:Int}(hI:In at' miss fA):∃p e,kH t old now at' miss fA=some (p,e)/\abU t old now at' miss fA p e:=by
 have hV:=hN.1.D_;obtain⟨s,h1,h2⟩:=NE hO hN;have h2:s.l=vH t old now:=h2;have hml:=Kc (old:=old) hN;have hnI:decide (¬In at' miss fA)=false:=decide_eq_false fun h=>h hI;by_cases hz:vH t old now=[]
 .refine ⟨Cn,7,?_,fun _=>⟨rfl,rfl⟩,fun h=>absurd hz h⟩;have hl:((s.l.length:Int)==0)=true:=by rw[h2,hz];rfl
  unfold kH;rw[QR,hnI];simp only[ad,cond_false,h1,bne_self_eq_false,hl,cond_true];rfl
 .have hl:((s.l.length:Int)==0)=false:=by have:0<(vH t old now).length:=List.length_pos_iff.2 hz;rw[h2,beq_eq_false_iff_ne];omega
  obtain⟨L,h3,h4,h5⟩:=He (l:=s) (by rw[h2];omega);have hL3:L.l.length<=8:=Gw h4 fun x hx=>by obtain⟨m,hm,rfl⟩:=(h5 x).1 hx;have:=Ib hN (h2▸hm);omega
  have hLpos:0<L.l.length:=by
   have hm:(vH t old now).head hz∈s.l:=by rw[h2];exact List.head_mem hz
   exact List.length_pos_iff.2 (List.ne_nil_of_mem ((h5 _).2 ⟨_,hm,rfl⟩))
  obtain⟨g1,g2⟩:=QY hV hI;obtain⟨R,h6,h7,h8⟩:=Hg hN hI h2 h4 h5 hL3
  have ht:oG (L.l.length:Int) (tB t miss)=some (.mk (oB L.l.length (tB t miss))):=by
   obtain⟨n,hn⟩:∃n,L.l.length=n+1:=⟨L.l.length-1,by omega⟩
   rw[hn];exact MK (by omega) g1 g2
  have hI2:=hI;unfold In at hI2;have hgap:=Uf hV hI2.2.1.1 hI2.2.1.2;have hw1:wr .i64 ((R.l.length:Int)-1)=((R.l.length-1:Nat):Int):=by rw[iQ (by omega) (by omega)];omega
  have hlast:=h7.ach (R.l.length-1) (by omega);have htl:=K9 hV hI (show R.l.length-1<=8 by omega);have hlf:=xD hV;have hw2:wr .i64 ((gt R.l (R.l.length-1)).2.1+miss)=BC t at' miss fA R.l.length:=by rw[hlast,iQ (by omega) (by omega)];rfl
  have w1:wr .i64 (wr .i64 (wr .i64 (wr .i64 (at'+fA)+miss)+mh t)+1)=kK t at' miss fA:=by unfold kK;rw[iQ (n:=at'+fA) (by omega) (by omega),iQ (n:=at'+fA+miss) (by omega) (by omega),iQ (n:=at'+fA+miss+mh t) (by omega) (by omega),iQ (by omega) (by omega)]
  have w2:wr .i64 (wr .i64 (kK t at' miss fA-miss)-mh t)=at'+fA+1:=by have hf:kK t at' miss fA=at'+fA+miss+mh t+1:=rfl;rw[iQ (n:=kK t at' miss fA-miss) (by omega) (by omega),iQ (by omega) (by omega)];omega
  have hrun:kH t old now at' miss fA=some (bif decide (BC t at' miss fA R.l.length>1099511627776)then(Cn,11)else((s,R,miss,mh t,at'+fA+1,BC t at' miss fA R.l.length),0)):=by unfold kH;rw[QR,hnI];simp only[ad,cond_false,h1,bne_self_eq_false,hl,Ij hV,h3,hgap];rw[show 2*miss+mh t+1=tB t miss from rfl,ht];simp only[ad,h6,hw1,bS (show R.l.length-1<R.l.length by omega),hw2,w1,w2];cases decide (BC t at' miss fA R.l.length>1099511627776)<;>rfl
  by_cases ho:BC t at' miss fA R.l.length>1099511627776
  .rw [decide_eq_true ho]at hrun;exact⟨_,_,hrun,fun h=>absurd h hz,fun _=>⟨s,R,h2,h7,by omega,.inl ⟨ho,rfl,rfl⟩⟩⟩
  .rw [decide_eq_false ho]at hrun;exact⟨_,_,hrun,fun h=>absurd h hz,fun _=>⟨s,R,h2,h7,by omega,.inr ⟨by omega,rfl,rfl⟩⟩⟩
end
end Go.Proofs.YtoekkpmeeclpeaaGreat.S
open Go.Ev Go
namespace Go.Proofs.YtoekkpmeeclpeaaGreat.S
def BX(ho po:Int):bl:=(3,(10,(-1,Arr.set (pV (.ar 4 (.i .i64))) 1 ho,Arr.set (pV (.ar 4 (.i .i64))) 1 255),Sl.mk [(2,0,po)]),false)
theorem Nb{ho po:Int}(h0:0<=ho)(h1:ho<=255):vw 1 ho 10 po=some (BX ho po).2.1:=by
 have e1:mG 1=some 255:=by kernel_rfl
 have e2:((decide ((1:Int)>=0)&&decide ((1:Int)<4))&&decide (ho>=0))=true:=by simp;omega
 have e3:cD 1 4=some 1:=rfl;simp only[vw,AI,Dh,AS,ad,e2,cond_true,e1,decide_eq_true h1,e3,BX]
def Qq(round sw:Int)(l:List aE):List aE:=l.filter fun m=>(m.2.2.2==round)&&(m.1==sw)
theorem Qp{l:Sl aE}{round sw:Int}(hl:l.l.length<=1000)(hh:∀m∈l.l,0<=m.2.1/\m.2.1<=255):∃s,qv l round sw=some s/\s.l=(Qq round sw l.l).map fun m=>BX m.2.1 m.2.2.1:=by
 have key:∀l:List aE,(l.flatMap fun m=>bif(m.2.2.2==round)&&(m.1==sw)then[BX m.2.1 m.2.2.1]else[])=(Qq round sw l).map fun m=>BX m.2.1 m.2.2.1:=by intro l;induction l with|nil=>rfl|cons m l ih=>rw[List.flatMap_cons,ih];unfold Qq;rw[List.filter_cons];cases h:(m.2.2.2==round)&&(m.1==sw)<;>simp
 obtain⟨s,h1,h2⟩:=Fe (f:=kf l round sw) l.l (fun m=>bif(m.2.2.2==round)&&(m.1==sw)then[BX m.2.1 m.2.2.1]else[]) .nil (by omega) (fun i s hi hs=>by
  have hsl:s.l.length<=i:=by rw[hs];have:=o7 (m:=1) (f:=fun m:aE=>bif(m.2.2.2==round)&&(m.1==sw)then[BX m.2.1 m.2.2.1]else[]) (fun m=>by cases(m.2.2.2==round)&&(m.1==sw)<;>simp) (l.l.take i);simp only[Sl.l,List.nil_append];refine Nat.le_trans this ?_;rw[Nat.one_mul,bV];exact Nat.min_le_left _ _
  have hm:=hh (gt l.l i) (by rw[cU hi];exact aX _);cases hc:((gt l.l i).2.2.2==round)&&((gt l.l i).1==sw)with
  |false=>refine⟨s,?_,by rw[cond_false,List.append_nil]⟩;have hc:(((aE.DW (gt l.l i))==round)&&((aE.Sw (gt l.l i))==sw))=false:=hc;simp only[kf,m9 hi,cond_true,bS hi,ad,hc,cond_false]
  |true=>refine⟨.mk (s.l++[BX (gt l.l i).2.1 (gt l.l i).2.2.1]),?_,rfl⟩;have hc:(((aE.DW (gt l.l i))==round)&&((aE.Sw (gt l.l i))==sw))=true:=hc;have hp:=Nb (po:=(gt l.l i).2.2.1) hm.1 hm.2;have hcap:ic (s.l++[BX (gt l.l i).2.1 (gt l.l i).2.2.1])=some (s.l++[BX (gt l.l i).2.1 (gt l.l i).2.2.1]):=nm (by rw[aA,aP];omega);have hcap:ic (s.l++[((3,(BX (gt l.l i).2.1 (gt l.l i).2.2.1).2.1,false):bl)])=some (s.l++[BX (gt l.l i).2.1 (gt l.l i).2.2.1]):=hcap;simp only[kf,m9 hi,cond_true,bS hi,ad,hc,hp,hcap]) (fun s=>by simp only[kf,rS,cond_false])
 have h1:aU (kf l round sw) (0,Sl.nil)=some s:=h1;exact⟨s,by simp only[qv,h1,ad],by rw[h2,key];rfl⟩
section
variable{t:ao}{old now:Sl (Sl Int)}
theorem TJ(hN:mr t now):∀m∈vH t old now,0<=m.2.1/\m.2.1<=255:=fun m hm=>by obtain⟨h,s,hh,_,_,rfl⟩:=zG.1 (Kb.1 hm);have:=hN.1.zT;exact⟨by show(0:Int)<=(h:Int);omega,by show(h:Int)<=255;omega⟩
end
end Go.Proofs.YtoekkpmeeclpeaaGreat.S
