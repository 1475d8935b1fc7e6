/- Twins of the programs that Lean can run: where a twin answers, the program answers the same. Conditions: as stated. -/
import Derived.Test.YtingpmogbibghaaEvY
namespace Go.Ev
def SA{α β:Type}:Nat->(α->Option (Sum α β))->α->Option β
 |0,_,_=>none
 |n+1,f,s=>match f s with|none=>none|some (.inl s')=>SA n f s'|some (.inr b)=>some b
def R7{α:Type}(x y:Option α):Prop:=∀z,x=some z->y=some z
theorem R7.refl{α:Type}(x:Option α):R7 x x:=fun _ h=>h
theorem R7.bind{α β:Type}{x y:Option α}{f g:α->Option β}(h:R7 x y)(hf:∀a,R7 (f a) (g a)):R7 (x.bind f) (y.bind g):=by intro z hz;obtain⟨a,ha,hb⟩:=Option.bind_eq_some_iff.1 hz;rw[h a ha];exact hf a z hb
theorem R7.cond{α:Type}{c:Bool}{a a' b b':Option α}(h1:R7 a a')(h2:R7 b b'):R7 (bif c then a else b) (bif c then a' else b'):=by
 cases c
 .exact h2
 .exact h1
theorem R7.loop{α β:Type}{f g:α->Option (Sum α β)}(h:∀a,R7 (f a) (g a)):∀(n:Nat)(s:α),R7 (SA n f s) (zu g s):=by
 intro n;induction n with
 |zero=>intro s z hz;simp[SA]at hz
 |succ n ih=>
  intro s z hz;simp only[SA]at hz;split at hz
  .simp at hz
  .rename_i s' hs;rw[LK (h _ _ hs)];exact ih s' z hz
  .rename_i b hs;rw[LJ (h _ _ hs),hz]
end Go.Ev
