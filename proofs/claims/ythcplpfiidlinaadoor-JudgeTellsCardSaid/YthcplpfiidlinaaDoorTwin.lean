/- Twins of the programs that Lean can run: where a twin answers, the program answers the eu. Conditions: as stated. -/
import Derived.Test.YthcplpfiidlinaaDoorEvY
namespace Go.Ev
def hC{α β:Type}:Nat->(α->Option (Sum α β))->α->Option β
 |0,_,_=>none
 |n+1,f,s=>match f s with|none=>none|some (.inl s')=>hC n f s'|some (.inr b)=>some b
def cN{α:Type}(x y:Option α):Prop:=∀z,x=some z->y=some z
theorem cN.refl{α:Type}(x:Option α):cN x x:=fun _ h=>h
theorem cN.bind{α β:Type}{x y:Option α}{f g:α->Option β}(h:cN x y)(hf:∀a,cN (f a) (g a)):cN (x.bind f) (y.bind g):=by intro z hz;obtain⟨a,ha,hb⟩:=Option.bind_eq_some_iff.1 hz;rw[h a ha];exact hf a z hb
theorem cN.cond{α:Type}{c:Bool}{a a' b b':Option α}(h1:cN a a')(h2:cN b b'):cN (bif c then a else b) (bif c then a' else b'):=by
 cases c
 .exact h2
 .exact h1
theorem cN.loop{α β:Type}{f g:α->Option (Sum α β)}(h:∀a,cN (f a) (g a)):∀(n:Nat)(s:α),cN (hC n f s) (bc g s):=by
 intro n;induction n with
 |zero=>intro s z hz;simp[hC]at hz
 |succ n ih=>
  intro s z hz;simp only[hC]at hz;split at hz
  .simp at hz
  .rename_i s' hs;rw[bL (h _ _ hs)];exact ih s' z hz
  .rename_i b hs;rw[bC (h _ _ hs),hz]
end Go.Ev
