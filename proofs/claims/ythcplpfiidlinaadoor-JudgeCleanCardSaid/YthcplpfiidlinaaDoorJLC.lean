/- gO of moves: what the program's gO answers. Conditions: as stated. -/
import Derived.Test.YthcplpfiidlinaaDoorJN
open Go.Ev Go
open List renaming mem_filter->mg,mem_map->b_,range->aK
open Nat renaming blt_eq->lk
open Option renaming bind_some->af
namespace Go.Proofs.YthcplpfiidlinaaDoor.J
theorem Ht(l:List Int):rR l=((aK l.length).filter fun j=>decide (j=0\/gt l j≠gt l (j-1))).map (gt l):=by
 have g:∀j,l.toArray[j]! =gt l j:=fun j=>by
  simp only[gt,List.getD_eq_getElem?_getD];by_cases hj:j<l.length
  .simp [hj]
  .simp [hj]
 show((aK l.length).filter (Lib.keeps l.toArray)).map (fun j=>l.toArray[j]!)=_;rw[show(fun j=>l.toArray[j]!)=gt l from funext g];congr 1;apply List.filter_congr;intro j _;unfold Lib.keeps;rw[g,g]
theorem Mo{l:List Int}{x:Int}:x∈rR l<->x∈l:=by
 rw[Ht];constructor
 .intro h;obtain⟨j,hj,rfl⟩:=b_.1 h;have hl:j<l.length:=by have:=(mg.1 hj).1;simpa using this
  rw[cY hl];exact List.getElem_mem _
 .intro h;obtain⟨j,hj,e⟩:=List.mem_iff_getElem.1 h
  have main:∀j,j<l.length->gt l j=x->x∈((aK l.length).filter fun j=>decide (j=0\/gt l j≠gt l (j-1))).map (gt l):=by
   intro j;induction j with
   |zero=>intro hj e;exact b_.2 ⟨0,mg.2 ⟨by simpa using hj,by simp⟩,e⟩
   |succ j ih=>
    intro hj e;by_cases he:gt l (j+1)=gt l j
    .exact ih (by omega) (he▸e)
    .exact b_.2 ⟨j+1,mg.2 ⟨by simpa using hj,by simpa using he⟩,e⟩
  exact main j hj (by rw[cY hj];exact e)
theorem Mq{l:List Int}(hs:l.Pairwise (·<=·)):(rR l).Pairwise (·<·):=by
 have hle:∀i j,i<=j->j<l.length->gt l i<=gt l j:=fun i j hij hj=>by
  rcases Nat.lt_or_eq_of_le hij with h|rfl
  .rw [cY (by omega),cY hj];exact List.pairwise_iff_getElem.1 hs i j (by omega) hj h
  .exact Int.le_refl _
 rw[Ht,List.pairwise_map];have h1:((aK l.length).filter fun j=>decide (j=0\/gt l j≠gt l (j-1))).Pairwise (·<·):=(List.pairwise_lt_range (n:=l.length)).filter _;refine List.Pairwise.imp_of_mem (fun{i j}_ hj hij=>?_) h1;obtain⟨hj1,hj2⟩:=mg.1 hj;have hj1:j<l.length:=by simpa using hj1
 have hj2:j=0\/gt l j≠gt l (j-1):=of_decide_eq_true hj2;have h3:=hle i (j-1) (by omega) (by omega);have h4:=hle (j-1) j (by omega) hj1;omega
theorem KJ{l:Sl ae}(hl:l.l.length<=1000):∃s,mN l=some s/\s.l.Pairwise (·<·)/\∀x,x∈s.l<->∃m∈l.l,m.2.2.2=x:=by
 obtain⟨s,h1,h2⟩:=DK (f:=ma l) l.l (fun m=>[m.2.2.2]) .nil (by omega) (fun i s hi hs=>by
  have hlen:s.l.length<=1000:=by have:=gK (m:=1) (f:=fun m:ae=>[m.2.2.2]) (fun _=>by simp) (l.l.take i);rw[List.length_take]at this;have e:s.l=(l.l.take i).flatMap fun m=>[m.2.2.2]:=hs;rw[e];omega
  exact⟨.mk (s.l++[(gt l.l i).2.2.2]),by simp only[ma,jo hi,cond_true,bA hi,af,jq (show(s.l++[ae.vD (gt l.l i)]).length<=2147483648 by rw[List.length_append,List.length_singleton];omega)],rfl⟩) (fun s=>by simp only[ma,kG,cond_false])
 have h2:s.l=l.l.flatMap fun m=>[m.2.2.2]:=h2;have hlen:s.l.length<=1000:=by have:=gK (m:=1) (f:=fun m:ae=>[m.2.2.2]) (fun _=>by simp) l.l;rw[h2];omega
 have hsz:(rb s.l.toArray).toList.length=s.l.length:=by simp[rb]
 have hsort:t6 rb s=some (s.to (rb s.l.toArray).toList):=by unfold t6;rw[show Nat.blt s.l.length 4611686018427387904=true by rw[lk];omega];rfl
 have hlenS:zX (s.to (rb s.l.toArray).toList) s=some ():=by cases s with|nil=>rfl|mk l=>have hsz:(rb l.toArray).toList.length=l.length:=hsz;show FM (rb l.toArray).toList l=some ();unfold FM;rw[if_pos hsz]
 have htl:(s.to (rb s.l.toArray).toList).l=s.l.mergeSort JI:=by cases s with|nil=>exact List.mergeSort_nil.symm|mk l=>rfl
 have hcut:Ml rR (s.to (rb s.l.toArray).toList)=some ((s.to (rb s.l.toArray).toList).to (rR (s.l.mergeSort JI))):=by unfold Ml;rw[htl,show Nat.blt (s.l.mergeSort JI).length 4611686018427387904=true by rw[lk,List.length_mergeSort];omega];rfl
 have hfin:((s.to (rb s.l.toArray).toList).to (rR (s.l.mergeSort JI))).l=rR (s.l.mergeSort JI):=by cases s with|nil=>show[]=rR ([].mergeSort JI);rw[List.mergeSort_nil];rfl|mk l=>rfl
 have hrun:mN l=some ((s.to (rb s.l.toArray).toList).to (rR (s.l.mergeSort JI))):=by simp only[mN,h1,af,hsort,hlenS,hcut]
 refine⟨_,hrun,?_,fun x=>?_⟩
 .rw [hfin];refine Mq ?_;have:=List.pairwise_mergeSort (le:=JI) (fun a b c h1 h2=>by simp only[JI,decide_eq_true_eq]at*;omega) (fun a b=>by simp only[JI,Bool.or_eq_true,decide_eq_true_eq];omega) s.l;exact this.imp fun h=>by simpa[JI]using h
 .rw [hfin,Mo,List.mem_mergeSort,h2];simp only[List.mem_flatMap,List.mem_singleton];exact⟨fun⟨m,h1,h2⟩=>⟨m,h1,h2.symm⟩,fun⟨m,h1,h2⟩=>⟨m,h1,h2.symm⟩⟩
end Go.Proofs.YthcplpfiidlinaaDoor.J
