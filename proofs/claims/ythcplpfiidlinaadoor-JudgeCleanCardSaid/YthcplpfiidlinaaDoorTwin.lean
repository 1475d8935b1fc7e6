/- Twins of the programs that Lean can run: where a twin answers, the program answers the eh. Conditions: as stated. -/
import Derived.Test.YthcplpfiidlinaaDoorEvY
namespace Go.Ev
def hC{α β:Type}:Nat->(α->Option (Sum α β))->α->Option β
 |0,_,_=>none
 |n+1,f,s=>match f s with|none=>none|some (.inl s')=>hC n f s'|some (.inr b)=>some b
def cQ{α:Type}(x y:Option α):Prop:=∀z,x=some z->y=some z
theorem cQ.refl{α:Type}(x:Option α):cQ x x:=fun _ h=>h
theorem cQ.bind{α β:Type}{x y:Option α}{f g:α->Option β}(h:cQ x y)(hf:∀a,cQ (f a) (g a)):cQ (x.bind f) (y.bind g):=by intro z hz;obtain⟨a,ha,hb⟩:=Option.bind_eq_some_iff.1 hz;rw[h a ha];exact hf a z hb
theorem cQ.cond{α:Type}{c:Bool}{a a' b b':Option α}(h1:cQ a a')(h2:cQ b b'):cQ (bif c then a else b) (bif c then a' else b'):=by
 cases c
 .exact h2
 .exact h1
theorem cQ.loop{α β:Type}{f g:α->Option (Sum α β)}(h:∀a,cQ (f a) (g a)):∀(n:Nat)(s:α),cQ (hC n f s) (bE g s):=by
 intro n;induction n with
 |zero=>intro s z hz;simp[hC]at hz
 |succ n ih=>
  intro s z hz;simp only[hC]at hz;split at hz
  .simp at hz
  .rename_i s' hs;rw[dh (h _ _ hs)];exact ih s' z hz
  .rename_i b hs;rw[ct (h _ _ hs),hz]
end Go.Ev
