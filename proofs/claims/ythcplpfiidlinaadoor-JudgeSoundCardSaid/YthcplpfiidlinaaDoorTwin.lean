/- Twins of the programs that Lean can run: where a twin answers, the program answers the dU. Conditions: as stated. -/
import Derived.Test.YthcplpfiidlinaaDoorEvY
namespace Go.Ev
def gK{α β:Type}:Nat->(α->Option (Sum α β))->α->Option β
 |0,_,_=>none
 |n+1,f,s=>match f s with|none=>none|some (.inl s')=>gK n f s'|some (.inr b)=>some b
def cC{α:Type}(x y:Option α):Prop:=∀z,x=some z->y=some z
theorem cC.refl{α:Type}(x:Option α):cC x x:=fun _ h=>h
theorem cC.bind{α β:Type}{x y:Option α}{f g:α->Option β}(h:cC x y)(hf:∀a,cC (f a) (g a)):cC (x.bind f) (y.bind g):=by intro z hz;obtain⟨a,ha,hb⟩:=Option.bind_eq_some_iff.1 hz;rw[h a ha];exact hf a z hb
theorem cC.cond{α:Type}{c:Bool}{a a' b b':Option α}(h1:cC a a')(h2:cC b b'):cC (bif c then a else b) (bif c then a' else b'):=by
 cases c
 .exact h2
 .exact h1
theorem cC.loop{α β:Type}{f g:α->Option (Sum α β)}(h:∀a,cC (f a) (g a)):∀(n:Nat)(s:α),cC (gK n f s) (br g s):=by
 intro n;induction n with
 |zero=>intro s z hz;simp[gK]at hz
 |succ n ih=>
  intro s z hz;simp only[gK]at hz;split at hz
  .simp at hz
  .rename_i s' hs;rw[cG (h _ _ hs)];exact ih s' z hz
  .rename_i b hs;rw[ci (h _ _ hs),hz]
end Go.Ev
