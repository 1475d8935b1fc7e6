/- Twins of the programs that Lean can run: where a twin answers, the program answers the same. Conditions: as stated. -/
import Derived.Test.YthcplpfiidlinaaDoorEvY
namespace Go.Ev
def ie{α β:Type}:Nat->(α->Option (Sum α β))->α->Option β
 |0,_,_=>none
 |n+1,f,s=>match f s with|none=>none|some (.inl s')=>ie n f s'|some (.inr b)=>some b
def cU{α:Type}(x y:Option α):Prop:=∀z,x=some z->y=some z
theorem cU.refl{α:Type}(x:Option α):cU x x:=fun _ h=>h
theorem cU.bind{α β:Type}{x y:Option α}{f g:α->Option β}(h:cU x y)(hf:∀a,cU (f a) (g a)):cU (x.bind f) (y.bind g):=by intro z hz;obtain⟨a,ha,hb⟩:=Option.bind_eq_some_iff.1 hz;rw[h a ha];exact hf a z hb
theorem cU.cond{α:Type}{c:Bool}{a a' b b':Option α}(h1:cU a a')(h2:cU b b'):cU (bif c then a else b) (bif c then a' else b'):=by
 cases c
 .exact h2
 .exact h1
theorem cU.loop{α β:Type}{f g:α->Option (Sum α β)}(h:∀a,cU (f a) (g a)):∀(n:Nat)(s:α),cU (ie n f s) (bE g s):=by
 intro n;induction n with
 |zero=>intro s z hz;simp[ie]at hz
 |succ n ih=>
  intro s z hz;simp only[ie]at hz;split at hz
  .simp at hz
  .rename_i s' hs;rw[dm (h _ _ hs)];exact ih s' z hz
  .rename_i b hs;rw[cB (h _ _ hs),hz]
end Go.Ev
