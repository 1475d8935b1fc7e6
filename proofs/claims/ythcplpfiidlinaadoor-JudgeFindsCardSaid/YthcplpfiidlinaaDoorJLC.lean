/- Rounds of moves: what the program's Rounds answers. Conditions: as stated. -/
import Derived.Test.YthcplpfiidlinaaDoorJN
open List renaming mem_filter->my,mem_map->cj,range->aL
open Nat renaming blt_eq->lA
open Option renaming bind_some->af
open Go.Ev Go
namespace Go.Proofs.YthcplpfiidlinaaDoor.J
theorem HV(l:List Int):sh l=((aL l.length).filter fun j=>decide (j=0\/gt l j≠gt l (j-1))).map (gt l):=by
 have g:∀j,l.toArray[j]! =gt l j:=fun j=>by
  simp only[gt,List.getD_eq_getElem?_getD];by_cases hj:j<l.length
  .simp [hj]
  .simp [hj]
 show((aL l.length).filter (Lib.keeps l.toArray)).map (fun j=>l.toArray[j]!)=_;rw[show(fun j=>l.toArray[j]!)=gt l from funext g];congr 1;apply List.filter_congr;intro j _;unfold Lib.keeps;rw[g,g]
theorem MP{l:List Int}{x:Int}:x∈sh l<->x∈l:=by
 rw[HV];constructor
 .intro h;obtain⟨j,hj,rfl⟩:=cj.1 h;have hl:j<l.length:=by have:=(my.1 hj).1;simpa using this
  rw[cR hl];exact List.getElem_mem _
 .intro h;obtain⟨j,hj,e⟩:=List.mem_iff_getElem.1 h
  have main:∀j,j<l.length->gt l j=x->x∈((aL l.length).filter fun j=>decide (j=0\/gt l j≠gt l (j-1))).map (gt l):=by
   intro j;induction j with
   |zero=>intro hj e;exact cj.2 ⟨0,my.2 ⟨by simpa using hj,by simp⟩,e⟩
   |succ j ih=>
    intro hj e;by_cases he:gt l (j+1)=gt l j
    .exact ih (by omega) (he▸e)
    .exact cj.2 ⟨j+1,my.2 ⟨by simpa using hj,by simpa using he⟩,e⟩
  exact main j hj (by rw[cR hj];exact e)
theorem MQ{l:List Int}(hs:l.Pairwise (·<=·)):(sh l).Pairwise (·<·):=by
 have hle:∀i j,i<=j->j<l.length->gt l i<=gt l j:=fun i j hij hj=>by
  rcases Nat.lt_or_eq_of_le hij with h|rfl
  .rw [cR (by omega),cR hj];exact List.pairwise_iff_getElem.1 hs i j (by omega) hj h
  .exact Int.le_refl _
 rw[HV,List.pairwise_map];have h1:((aL l.length).filter fun j=>decide (j=0\/gt l j≠gt l (j-1))).Pairwise (·<·):=(List.pairwise_lt_range (n:=l.length)).filter _;refine List.Pairwise.imp_of_mem (fun{i j}_ hj hij=>?_) h1;obtain⟨hj1,hj2⟩:=my.1 hj;have hj1:j<l.length:=by simpa using hj1
 have hj2:j=0\/gt l j≠gt l (j-1):=of_decide_eq_true hj2;have h3:=hle i (j-1) (by omega) (by omega);have h4:=hle (j-1) j (by omega) hj1;omega
theorem La{l:Sl ae}(hl:l.l.length<=1000):∃s,m8 l=some s/\s.l.Pairwise (·<·)/\∀x,x∈s.l<->∃m∈l.l,m.2.2.2=x:=by
 obtain⟨s,h1,h2⟩:=D6 (f:=mr l) l.l (fun m=>[m.2.2.2]) .nil (by omega) (fun i s hi hs=>by
  have hlen:s.l.length<=1000:=by have:=gT (m:=1) (f:=fun m:ae=>[m.2.2.2]) (fun _=>by simp) (l.l.take i);rw[List.length_take]at this;have e:s.l=(l.l.take i).flatMap fun m=>[m.2.2.2]:=hs;rw[e];omega
  exact⟨.mk (s.l++[(gt l.l i).2.2.2]),by simp only[mr,jw hi,cond_true,bq hi,af,il (show(s.l++[ae.uv (gt l.l i)]).length<=2147483648 by rw[List.length_append,List.length_singleton];omega)],rfl⟩) (fun s=>by simp only[mr,kO,cond_false])
 have h2:s.l=l.l.flatMap fun m=>[m.2.2.2]:=h2;have hlen:s.l.length<=1000:=by have:=gT (m:=1) (f:=fun m:ae=>[m.2.2.2]) (fun _=>by simp) l.l;rw[h2];omega
 have hsz:(rq s.l.toArray).toList.length=s.l.length:=by simp[rq]
 have hsort:ui rq s=some (s.to (rq s.l.toArray).toList):=by unfold ui;rw[show Nat.blt s.l.length 4611686018427387904=true by rw[lA];omega];rfl
 have hlenS:Al (s.to (rq s.l.toArray).toList) s=some ():=by cases s with|nil=>rfl|mk l=>have hsz:(rq l.toArray).toList.length=l.length:=hsz;show F_ (rq l.toArray).toList l=some ();unfold F_;rw[if_pos hsz]
 have htl:(s.to (rq s.l.toArray).toList).l=s.l.mergeSort Ka:=by cases s with|nil=>exact List.mergeSort_nil.symm|mk l=>rfl
 have hcut:ML sh (s.to (rq s.l.toArray).toList)=some ((s.to (rq s.l.toArray).toList).to (sh (s.l.mergeSort Ka))):=by unfold ML;rw[htl,show Nat.blt (s.l.mergeSort Ka).length 4611686018427387904=true by rw[lA,List.length_mergeSort];omega];rfl
 have hfin:((s.to (rq s.l.toArray).toList).to (sh (s.l.mergeSort Ka))).l=sh (s.l.mergeSort Ka):=by cases s with|nil=>show[]=sh ([].mergeSort Ka);rw[List.mergeSort_nil];rfl|mk l=>rfl
 have hrun:m8 l=some ((s.to (rq s.l.toArray).toList).to (sh (s.l.mergeSort Ka))):=by simp only[m8,h1,af,hsort,hlenS,hcut]
 refine⟨_,hrun,?_,fun x=>?_⟩
 .rw [hfin];refine MQ ?_;have:=List.pairwise_mergeSort (le:=Ka) (fun a b c h1 h2=>by simp only[Ka,decide_eq_true_eq]at*;omega) (fun a b=>by simp only[Ka,Bool.or_eq_true,decide_eq_true_eq];omega) s.l;exact this.imp fun h=>by simpa[Ka]using h
 .rw [hfin,MP,List.mem_mergeSort,h2];simp only[List.mem_flatMap,List.mem_singleton];exact⟨fun⟨m,h1,h2⟩=>⟨m,h1,h2.symm⟩,fun⟨m,h1,h2⟩=>⟨m,h1,h2.symm⟩⟩
end Go.Proofs.YthcplpfiidlinaaDoor.J
