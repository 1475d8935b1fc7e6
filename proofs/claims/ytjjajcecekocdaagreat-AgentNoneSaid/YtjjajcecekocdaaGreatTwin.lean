/- Twins of the programs that Lean can run: where a twin answers, the program answers the same. Conditions: as stated. -/
import Derived.Test.YtjjajcecekocdaaGreatEvY
namespace Go.Ev
def iM{α β:Type}:Nat->(α->Option (Sum α β))->α->Option β
 |0,_,_=>none
 |n+1,f,s=>match f s with|none=>none|some (.inl s')=>iM n f s'|some (.inr b)=>some b
def bA{α:Type}(x y:Option α):Prop:=∀z,x=some z->y=some z
theorem bA.refl{α:Type}(x:Option α):bA x x:=fun _ h=>h
theorem bA.bind{α β:Type}{x y:Option α}{f g:α->Option β}(h:bA x y)(hf:∀a,bA (f a) (g a)):bA (x.bind f) (y.bind g):=by intro z hz;obtain⟨a,ha,hb⟩:=Option.bind_eq_some_iff.1 hz;rw[h a ha];exact hf a z hb
theorem bA.cond{α:Type}{c:Bool}{a a' b b':Option α}(h1:bA a a')(h2:bA b b'):bA (bif c then a else b) (bif c then a' else b'):=by
 cases c
 .exact h2
 .exact h1
theorem bA.loop{α β:Type}{f g:α->Option (Sum α β)}(h:∀a,bA (f a) (g a)):∀(n:Nat)(s:α),bA (iM n f s) (gz g s):=by
 intro n;induction n with
 |zero=>intro s z hz;simp[iM]at hz
 |succ n ih=>
  intro s z hz;simp only[iM]at hz;split at hz
  .simp at hz
  .rename_i s' hs;rw[GF (h _ _ hs)];exact ih s' z hz
  .rename_i b hs;rw[GE (h _ _ hs),hz]
end Go.Ev
