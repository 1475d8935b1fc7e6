/- Twins of the programs that Lean can run: where a twin answers, the program answers the same. Conditions: as stated. -/
import Derived.Test.YthcplpfiidlinaaEvY
namespace Go.Ev
def loopN{α β:Type}:Nat->(α->Option (Sum α β))->α->Option β
 | 0,_,_=>none
 | n+1,f,s=>match f s with
  | none=>none
  | some (.inl s')=>loopN n f s'
  | some (.inr b)=>some b
def OLe{α:Type}(x y:Option α):Prop:=∀z,x=some z->y=some z
theorem OLe.refl{α:Type}(x:Option α):OLe x x:=λ_ h=>h
theorem OLe.bind{α β:Type}{x y:Option α}{f g:α->Option β}(h:OLe x y)(hf:∀a,OLe (f a) (g a)):OLe (x.bind f) (y.bind g):=by
 intro z hz
 obtain ⟨a,ha,hb⟩:=Option.bind_eq_some_iff.1 hz
 rw [h a ha]; exact hf a z hb
theorem OLe.cond{α:Type}{c:Bool}{a a' b b':Option α}(h1:OLe a a')(h2:OLe b b'):OLe (bif c then a else b) (bif c then a' else b'):=by
 cases c
 ·exact h2
 ·exact h1
theorem OLe.loop{α β:Type}{f g:α->Option (Sum α β)}(h:∀a,OLe (f a) (g a)):∀(n:Nat) (s:α),OLe (loopN n f s) (loopO g s):=by
 intro n
 induction n with
 | zero=>intro s z hz; simp [loopN]at hz
 | succ n ih=>
  intro s z hz
  simp only [loopN]at hz
  split at hz
  ·simp at hz
  ·rename_i s' hs
   rw [q1f (h _ _ hs)]; exact ih s' z hz
  ·rename_i b hs
   rw [q0u (h _ _ hs),hz]
end Go.Ev
