/- The library's sort and Compact of numbers. Conditions: none. -/
import Derived.Test.YtpnnnoagjcpmhaaDoorUT
open List renaming mem_filter->kG,mem_map->cz,range->bh
open Go.Ev Go
namespace Go.Proofs.YtpnnnoagjcpmhaaDoor.U
theorem Mj(l:List Int):pw l=((bh l.length).filter fun j=>decide (j=0\/gt l j≠gt l (j-1))).map (gt l):=by
 have g:∀j,l.toArray[j]! =gt l j:=fun j=>by
  simp only[gt,List.getD_eq_getElem?_getD];by_cases hj:j<l.length
  .simp [hj]
  .simp [hj]
 show((bh l.length).filter (Lib.keeps l.toArray)).map (fun j=>l.toArray[j]!)=_;rw[show(fun j=>l.toArray[j]!)=gt l from funext g];congr 1;apply List.filter_congr;intro j _;unfold Lib.keeps;rw[g,g]
theorem J_{l:List Int}{x:Int}:x∈pw l<->x∈l:=by
 rw[Mj];constructor
 .intro h;obtain⟨j,hj,rfl⟩:=cz.1 h;have hl:j<l.length:=by have:=(kG.1 hj).1;simpa using this
  rw[eu hl];exact List.getElem_mem _
 .intro h;obtain⟨j,hj,e⟩:=List.mem_iff_getElem.1 h
  have main:∀j,j<l.length->gt l j=x->x∈((bh l.length).filter fun j=>decide (j=0\/gt l j≠gt l (j-1))).map (gt l):=by
   intro j;induction j with
   |zero=>intro hj e;exact cz.2 ⟨0,kG.2 ⟨by simpa using hj,by simp⟩,e⟩
   |succ j ih=>
    intro hj e;by_cases he:gt l (j+1)=gt l j
    .exact ih (by omega) (he▸e)
    .exact cz.2 ⟨j+1,kG.2 ⟨by simpa using hj,by simpa using he⟩,e⟩
  exact main j hj (by rw[eu hj];exact e)
end Go.Proofs.YtpnnnoagjcpmhaaDoor.U
