/- Twins of the programs that Lean can run: where a twin answers, the program answers the same. Conditions: as stated. -/
import Derived.Test.YtpnnnoagjcpmhaaDoorEvY
namespace Go.Ev
def lm{α β:Type}:Nat->(α->Option (Sum α β))->α->Option β
 |0,_,_=>none
 |n+1,f,s=>match f s with|none=>none|some (.inl s')=>lm n f s'|some (.inr b)=>some b
def fU{α:Type}(x y:Option α):Prop:=∀z,x=some z->y=some z
theorem fU.refl{α:Type}(x:Option α):fU x x:=fun _ h=>h
theorem fU.bind{α β:Type}{x y:Option α}{f g:α->Option β}(h:fU x y)(hf:∀a,fU (f a) (g a)):fU (x.bind f) (y.bind g):=by intro z hz;obtain⟨a,ha,hb⟩:=Option.bind_eq_some_iff.1 hz;rw[h a ha];exact hf a z hb
theorem fU.cond{α:Type}{c:Bool}{a a' b b':Option α}(h1:fU a a')(h2:fU b b'):fU (bif c then a else b) (bif c then a' else b'):=by
 cases c
 .exact h2
 .exact h1
theorem fU.loop{α β:Type}{f g:α->Option (Sum α β)}(h:∀a,fU (f a) (g a)):∀(n:Nat)(s:α),fU (lm n f s) (bL g s):=by
 intro n;induction n with
 |zero=>intro s z hz;simp[lm]at hz
 |succ n ih=>
  intro s z hz;simp only[lm]at hz;split at hz
  .simp at hz
  .rename_i s' hs;rw[dV (h _ _ hs)];exact ih s' z hz
  .rename_i b hs;rw[cS (h _ _ hs),hz]
end Go.Ev
