/- Rounds of moves: what the program's Rounds answers. Conditions: as stated. -/
import Derived.Test.YthcplpfiidlinaaLN
open Go.Ev Go
namespace Go.Proofs.Ythcplpfiidlinaa.L
theorem qwg{α:Type}{R:α->α->Prop}(asym:∀x y,R x y->¬R y x):∀ {a b:List α},a.Pairwise R->b.Pairwise R->(∀ x,x∈a↔x∈b)->a=b:=by
 intro a
 induction a with
 | nil=>
  intro b _ _ h
  cases b with
  | nil=>rfl
  | cons y b=>exact absurd ((h y).2 (List.mem_cons_self ..)) (by simp)
 | cons x a ih=>
  intro b ha hb h
  cases b with
  | nil=>exact absurd ((h x).1 (List.mem_cons_self ..)) (by simp)
  | cons y b=>
   obtain ⟨ha1,ha2⟩:=List.pairwise_cons.1 ha
   obtain ⟨hb1,hb2⟩:=List.pairwise_cons.1 hb
   have e:x=y:=by
    rcases List.mem_cons.1 ((h x).1 (List.mem_cons_self ..))with e | hx
    ·exact e
    ·rcases List.mem_cons.1 ((h y).2 (List.mem_cons_self ..))with e | hy
     ·exact e.symm
     ·exact absurd (ha1 y hy) (asym _ _ (hb1 x hx))
   subst e
   congr 1
   refine ih ha2 hb2 λz=>⟨λhz=> ?_,λhz=> ?_⟩
   ·rcases List.mem_cons.1 ((h z).1 (List.mem_cons_of_mem _ hz))with rfl | hz2
    ·exact absurd (ha1 z hz) (asym _ _ (ha1 z hz))
    ·exact hz2
   ·rcases List.mem_cons.1 ((h z).2 (List.mem_cons_of_mem _ hz))with rfl | hz2
    ·exact absurd (hb1 z hz) (asym _ _ (hb1 z hz))
    ·exact hz2
theorem qmx(l:List Int):compI l=((List.range l.length).filter λj=>decide (j=0\/gt l j≠gt l (j - 1))).map (gt l):=by
 have g:∀j,l.toArray[j]! =gt l j:=λj=>by
  simp only [gt,List.getD_eq_getElem?_getD]
  by_cases hj:j < l.length
  ·simp [hj]
  ·simp [hj]
 show ((List.range l.length).filter (Lib.keeps l.toArray)).map (λj=>l.toArray[j]!)=_
 rw [show (λj=>l.toArray[j]!)=gt l from funext g]
 congr 1
 apply List.filter_congr
 intro j _
 unfold Lib.keeps
 rw [g,g]
theorem qrm{l:List Int}{x:Int}:x∈compI l↔x∈l:=by
 rw [qmx]
 constructor
 ·intro h
  obtain ⟨j,hj,rfl⟩:=List.mem_map.1 h
  have hl:j < l.length:=by
   have:=(List.mem_filter.1 hj).1
   simpa using this
  rw [gt_eq hl]; exact List.getElem_mem _
 ·intro h
  obtain ⟨j,hj,e⟩:=List.mem_iff_getElem.1 h
  have main:∀j,j < l.length->gt l j=x->x∈((List.range l.length).filter λj=>decide (j=0\/gt l j≠gt l (j - 1))).map (gt l):=by
   intro j
   induction j with
   | zero=>intro hj e; exact List.mem_map.2 ⟨0,List.mem_filter.2 ⟨by simpa using hj,by simp⟩,e⟩
   | succ j ih=>
    intro hj e
    by_cases he:gt l (j+1)=gt l j
    ·exact ih (by omega) (he▸e)
    ·exact List.mem_map.2 ⟨j+1,List.mem_filter.2 ⟨by simpa using hj,by simpa using he⟩,e⟩
  exact main j hj (by rw [gt_eq hj]; exact e)
theorem qqv{l:List Int}(hs:l.Pairwise (·<= ·)):(compI l).Pairwise (· < ·):=by
 have hle:∀i j,i<=j->j < l.length->gt l i<=gt l j:=λi j hij hj=>by
  rcases Nat.lt_or_eq_of_le hij with h | rfl
  ·rw [gt_eq (by omega),gt_eq hj]; exact List.pairwise_iff_getElem.1 hs i j (by omega) hj h
  ·exact Int.le_refl _
 rw [qmx,List.pairwise_map]
 have h1:((List.range l.length).filter λj=>decide (j=0\/gt l j≠gt l (j - 1))).Pairwise (· < ·):=(List.pairwise_lt_range (n:=l.length)).filter _
 refine List.Pairwise.imp_of_mem (λ{i j} _ hj hij=> ?_) h1
 obtain ⟨hj1,hj2⟩:=List.mem_filter.1 hj
 have hj1:j < l.length:=by simpa using hj1
 have hj2:j=0\/gt l j≠gt l (j - 1):=of_decide_eq_true hj2
 have h3:=hle i (j - 1) (by omega) (by omega)
 have h4:=hle (j - 1) j (by omega) hj1
 omega
theorem qkl{l:Sl level_Move}(hl:l.l.length<=1000):∃s,q2o l=some s/\s.l.Pairwise (· < ·)/\∀x,x∈s.l↔∃m∈l.l,m.2.2.2=x:=by
 obtain ⟨s,h1,h2⟩:=layE1 (f:=q2n l) l.l (λm=> [m.2.2.2]) .nil (by omega) (λi s hi hs=>by
  have hlen:s.l.length<=1000:=by
   have:=q33 (m:=1) (f:=λm:level_Move=> [m.2.2.2]) (λ_=>by simp) (l.l.take i)
   rw [List.length_take]at this
   have e:s.l=(l.l.take i).flatMap λm=> [m.2.2.2]:=hs
   rw [e]; omega
  exact ⟨.mk (s.l++ [(gt l.l i).2.2.2]),by
   simp only [q2n,lt_t hi,cond_true,q08 hi,Option.bind_some,q3e (show (s.l++ [level_Move.Round (gt l.l i)]).length<=2147483648 by rw [List.length_append,List.length_singleton]; omega)],rfl⟩) (λs=>by simp only [q2n,lt_f,cond_false])
 have h2:s.l=l.l.flatMap λm=> [m.2.2.2]:=h2
 have hlen:s.l.length<=1000:=by
  have:=q33 (m:=1) (f:=λm:level_Move=> [m.2.2.2]) (λ_=>by simp) l.l
  rw [h2]; omega
 have hsz:(srtI s.l.toArray).toList.length=s.l.length:=by simp [srtI]
 have hsort:sortF srtI s=some (s.to (srtI s.l.toArray).toList):=by
  unfold sortF
  rw [show Nat.blt s.l.length 4611686018427387904=true by rw [Nat.blt_eq]; omega]; rfl
 have hlenS:lenS (s.to (srtI s.l.toArray).toList) s=some ():=by
  cases s with
  | nil=>rfl
  | mk l=>
   have hsz:(srtI l.toArray).toList.length=l.length:=hsz
   show lenI (srtI l.toArray).toList l=some ()
   unfold lenI
   rw [if_pos hsz]
 have htl:(s.to (srtI s.l.toArray).toList).l=s.l.mergeSort leI:=by
  cases s with
  | nil=>exact List.mergeSort_nil.symm
  | mk l=>rfl
 have hcut:cutF compI (s.to (srtI s.l.toArray).toList)=some ((s.to (srtI s.l.toArray).toList).to (compI (s.l.mergeSort leI))):=by
  unfold cutF
  rw [htl,show Nat.blt (s.l.mergeSort leI).length 4611686018427387904=true by rw [Nat.blt_eq,List.length_mergeSort]; omega]; rfl
 have hfin:((s.to (srtI s.l.toArray).toList).to (compI (s.l.mergeSort leI))).l=compI (s.l.mergeSort leI):=by
  cases s with
  | nil=>
   show []=compI ([].mergeSort leI)
   rw [List.mergeSort_nil]; rfl
  | mk l=>rfl
 have hrun:q2o l=some ((s.to (srtI s.l.toArray).toList).to (compI (s.l.mergeSort leI))):=by
  simp only [q2o,h1,Option.bind_some,hsort,hlenS,hcut]
 refine ⟨_,hrun, ?_,λx=> ?_⟩
 ·rw [hfin]
  refine qqv ?_
  have:=List.pairwise_mergeSort (le:=leI) (λa b c h1 h2=>by simp only [leI,decide_eq_true_eq]at *; omega) (λa b=>by simp only [leI,Bool.or_eq_true,decide_eq_true_eq]; omega) s.l
  exact this.imp λh=>by simpa [leI]using h
 ·rw [hfin,qrm,List.mem_mergeSort,h2]
  simp only [List.mem_flatMap,List.mem_singleton]
  exact ⟨λ⟨m,h1,h2⟩=>⟨m,h1,h2.symm⟩,λ⟨m,h1,h2⟩=>⟨m,h1,h2.symm⟩⟩
end Go.Proofs.Ythcplpfiidlinaa.L
