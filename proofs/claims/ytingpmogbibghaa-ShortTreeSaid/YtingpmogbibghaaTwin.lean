/- Twins of the programs that Lean can run: where a twin answers, the program answers the same. Conditions: as stated. -/
import Derived.Test.YtingpmogbibghaaEvY
namespace Go.Ev
def jm{α β:Type}:Nat->(α->Option (Sum α β))->α->Option β
 |0,_,_=>none
 |n+1,f,s=>match f s with|none=>none|some (.inl s')=>jm n f s'|some (.inr b)=>some b
def c8{α:Type}(x y:Option α):Prop:=∀z,x=some z->y=some z
theorem c8.refl{α:Type}(x:Option α):c8 x x:=fun _ h=>h
theorem c8.bind{α β:Type}{x y:Option α}{f g:α->Option β}(h:c8 x y)(hf:∀a,c8 (f a) (g a)):c8 (x.bind f) (y.bind g):=by intro z hz;obtain⟨a,ha,hb⟩:=Option.bind_eq_some_iff.1 hz;rw[h a ha];exact hf a z hb
theorem c8.cond{α:Type}{c:Bool}{a a' b b':Option α}(h1:c8 a a')(h2:c8 b b'):c8 (bif c then a else b) (bif c then a' else b'):=by
 cases c
 .exact h2
 .exact h1
theorem c8.loop{α β:Type}{f g:α->Option (Sum α β)}(h:∀a,c8 (f a) (g a)):∀(n:Nat)(s:α),c8 (jm n f s) (aY g s):=by
 intro n;induction n with
 |zero=>intro s z hz;simp[jm]at hz
 |succ n ih=>
  intro s z hz;simp only[jm]at hz;split at hz
  .simp at hz
  .rename_i s' hs;rw[cz (h _ _ hs)];exact ih s' z hz
  .rename_i b hs;rw[bH (h _ _ hs),hz]
end Go.Ev
