/- eI of moves: what the program's eI answers. Conditions: as stated. -/
import Derived.Test.YthcplpfiidlinaaDoorJN
open Go.Ev Go
open List renaming mem_filter->mq,mem_map->cj,range->aK
open Nat renaming blt_eq->lx
open Option renaming bind_some->af
namespace Go.Proofs.YthcplpfiidlinaaDoor.J
theorem HK(l:List Int):rW l=((aK l.length).filter fun j=>decide (j=0\/gt l j≠gt l (j-1))).map (gt l):=by
 have g:∀j,l.toArray[j]! =gt l j:=fun j=>by
  simp only[gt,List.getD_eq_getElem?_getD];by_cases hj:j<l.length
  .simp [hj]
  .simp [hj]
 show((aK l.length).filter (Lib.keeps l.toArray)).map (fun j=>l.toArray[j]!)=_;rw[show(fun j=>l.toArray[j]!)=gt l from funext g];congr 1;apply List.filter_congr;intro j _;unfold Lib.keeps;rw[g,g]
theorem MG{l:List Int}{x:Int}:x∈rW l<->x∈l:=by
 rw[HK];constructor
 .intro h;obtain⟨j,hj,rfl⟩:=cj.1 h;have hl:j<l.length:=by have:=(mq.1 hj).1;simpa using this
  rw[cR hl];exact List.getElem_mem _
 .intro h;obtain⟨j,hj,e⟩:=List.mem_iff_getElem.1 h
  have main:∀j,j<l.length->gt l j=x->x∈((aK l.length).filter fun j=>decide (j=0\/gt l j≠gt l (j-1))).map (gt l):=by
   intro j;induction j with
   |zero=>intro hj e;exact cj.2 ⟨0,mq.2 ⟨by simpa using hj,by simp⟩,e⟩
   |succ j ih=>
    intro hj e;by_cases he:gt l (j+1)=gt l j
    .exact ih (by omega) (he▸e)
    .exact cj.2 ⟨j+1,mq.2 ⟨by simpa using hj,by simpa using he⟩,e⟩
  exact main j hj (by rw[cR hj];exact e)
theorem MH{l:List Int}(hs:l.Pairwise (·<=·)):(rW l).Pairwise (·<·):=by
 have hle:∀i j,i<=j->j<l.length->gt l i<=gt l j:=fun i j hij hj=>by
  rcases Nat.lt_or_eq_of_le hij with h|rfl
  .rw [cR (by omega),cR hj];exact List.pairwise_iff_getElem.1 hs i j (by omega) hj h
  .exact Int.le_refl _
 rw[HK,List.pairwise_map];have h1:((aK l.length).filter fun j=>decide (j=0\/gt l j≠gt l (j-1))).Pairwise (·<·):=(List.pairwise_lt_range (n:=l.length)).filter _;refine List.Pairwise.imp_of_mem (fun{i j}_ hj hij=>?_) h1;obtain⟨hj1,hj2⟩:=mq.1 hj;have hj1:j<l.length:=by simpa using hj1
 have hj2:j=0\/gt l j≠gt l (j-1):=of_decide_eq_true hj2;have h3:=hle i (j-1) (by omega) (by omega);have h4:=hle (j-1) j (by omega) hj1;omega
theorem K1{l:Sl ae}(hl:l.l.length<=1000):∃s,mX l=some s/\s.l.Pairwise (·<·)/\∀x,x∈s.l<->∃m∈l.l,m.2.2.2=x:=by
 obtain⟨s,h1,h2⟩:=DS (f:=mm l) l.l (fun m=>[m.2.2.2]) .nil (by omega) (fun i s hi hs=>by
  have hlen:s.l.length<=1000:=by have:=gT (m:=1) (f:=fun m:ae=>[m.2.2.2]) (fun _=>by simp) (l.l.take i);rw[List.length_take]at this;have e:s.l=(l.l.take i).flatMap fun m=>[m.2.2.2]:=hs;rw[e];omega
  exact⟨.mk (s.l++[(gt l.l i).2.2.2]),by simp only[mm,jt hi,cond_true,bq hi,af,ik (show(s.l++[ae.uj (gt l.l i)]).length<=2147483648 by rw[List.length_append,List.length_singleton];omega)],rfl⟩) (fun s=>by simp only[mm,kK,cond_false])
 have h2:s.l=l.l.flatMap fun m=>[m.2.2.2]:=h2;have hlen:s.l.length<=1000:=by have:=gT (m:=1) (f:=fun m:ae=>[m.2.2.2]) (fun _=>by simp) l.l;rw[h2];omega
 have hsz:(rg s.l.toArray).toList.length=s.l.length:=by simp[rg]
 have hsort:t8 rg s=some (s.to (rg s.l.toArray).toList):=by unfold t8;rw[show Nat.blt s.l.length 4611686018427387904=true by rw[lx];omega];rfl
 have hlenS:Ad (s.to (rg s.l.toArray).toList) s=some ():=by cases s with|nil=>rfl|mk l=>have hsz:(rg l.toArray).toList.length=l.length:=hsz;show FW (rg l.toArray).toList l=some ();unfold FW;rw[if_pos hsz]
 have htl:(s.to (rg s.l.toArray).toList).l=s.l.mergeSort J0:=by cases s with|nil=>exact List.mergeSort_nil.symm|mk l=>rfl
 have hcut:MC rW (s.to (rg s.l.toArray).toList)=some ((s.to (rg s.l.toArray).toList).to (rW (s.l.mergeSort J0))):=by unfold MC;rw[htl,show Nat.blt (s.l.mergeSort J0).length 4611686018427387904=true by rw[lx,List.length_mergeSort];omega];rfl
 have hfin:((s.to (rg s.l.toArray).toList).to (rW (s.l.mergeSort J0))).l=rW (s.l.mergeSort J0):=by cases s with|nil=>show[]=rW ([].mergeSort J0);rw[List.mergeSort_nil];rfl|mk l=>rfl
 have hrun:mX l=some ((s.to (rg s.l.toArray).toList).to (rW (s.l.mergeSort J0))):=by simp only[mX,h1,af,hsort,hlenS,hcut]
 refine⟨_,hrun,?_,fun x=>?_⟩
 .rw [hfin];refine MH ?_;have:=List.pairwise_mergeSort (le:=J0) (fun a b c h1 h2=>by simp only[J0,decide_eq_true_eq]at*;omega) (fun a b=>by simp only[J0,Bool.or_eq_true,decide_eq_true_eq];omega) s.l;exact this.imp fun h=>by simpa[J0]using h
 .rw [hfin,MG,List.mem_mergeSort,h2];simp only[List.mem_flatMap,List.mem_singleton];exact⟨fun⟨m,h1,h2⟩=>⟨m,h1,h2.symm⟩,fun⟨m,h1,h2⟩=>⟨m,h1,h2.symm⟩⟩
end Go.Proofs.YthcplpfiidlinaaDoor.J
