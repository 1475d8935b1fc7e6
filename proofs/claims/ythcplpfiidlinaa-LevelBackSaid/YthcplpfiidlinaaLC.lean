/- Rounds of moves: what the program's Rounds answers. Conditions: as stated. -/
import Derived.Test.YthcplpfiidlinaaLM
open Go.Ev Go
namespace Go.Proofs.Ythcplpfiidlinaa.L
theorem quj{α:Type}{R:α->α->Prop}(asym:∀x y,R x y->¬R y x):∀ {a b:List α},a.Pairwise R->b.Pairwise R->(∀ x,x∈a↔x∈b)->a=b:=by
 intro a
 induction a with
 | nil=>
  intro b _ _ h
  cases b with
  | nil=>rfl
  | cons y b=>exact absurd ((h y).2 (List.mem_cons_self ..)) (by simp)
 | cons x a ih=>
  intro b ha hb h
  cases b with
  | nil=>exact absurd ((h x).1 (List.mem_cons_self ..)) (by simp)
  | cons y b=>
   obtain ⟨ha1,ha2⟩:=List.pairwise_cons.1 ha
   obtain ⟨hb1,hb2⟩:=List.pairwise_cons.1 hb
   have e:x=y:=by
    rcases List.mem_cons.1 ((h x).1 (List.mem_cons_self ..))with e | hx
    ·exact e
    ·rcases List.mem_cons.1 ((h y).2 (List.mem_cons_self ..))with e | hy
     ·exact e.symm
     ·exact absurd (ha1 y hy) (asym _ _ (hb1 x hx))
   subst e
   congr 1
   refine ih ha2 hb2 λz=>⟨λhz=> ?_,λhz=> ?_⟩
   ·rcases List.mem_cons.1 ((h z).1 (List.mem_cons_of_mem _ hz))with rfl | hz2
    ·exact absurd (ha1 z hz) (asym _ _ (ha1 z hz))
    ·exact hz2
   ·rcases List.mem_cons.1 ((h z).2 (List.mem_cons_of_mem _ hz))with rfl | hz2
    ·exact absurd (hb1 z hz) (asym _ _ (hb1 z hz))
    ·exact hz2
end Go.Proofs.Ythcplpfiidlinaa.L
