/- Twins of the programs that Lean can run: where a twin answers, the program answers the eh. Conditions: as stated. -/
import Derived.Test.YthcplpfiidlinaaDoorEvY
namespace Go.Ev
def h_{α β:Type}:Nat->(α->Option (Sum α β))->α->Option β
 |0,_,_=>none
 |n+1,f,s=>match f s with|none=>none|some (.inl s')=>h_ n f s'|some (.inr b)=>some b
def cT{α:Type}(x y:Option α):Prop:=∀z,x=some z->y=some z
theorem cT.refl{α:Type}(x:Option α):cT x x:=fun _ h=>h
theorem cT.bind{α β:Type}{x y:Option α}{f g:α->Option β}(h:cT x y)(hf:∀a,cT (f a) (g a)):cT (x.bind f) (y.bind g):=by intro z hz;obtain⟨a,ha,hb⟩:=Option.bind_eq_some_iff.1 hz;rw[h a ha];exact hf a z hb
theorem cT.cond{α:Type}{c:Bool}{a a' b b':Option α}(h1:cT a a')(h2:cT b b'):cT (bif c then a else b) (bif c then a' else b'):=by
 cases c
 .exact h2
 .exact h1
theorem cT.loop{α β:Type}{f g:α->Option (Sum α β)}(h:∀a,cT (f a) (g a)):∀(n:Nat)(s:α),cT (h_ n f s) (bD g s):=by
 intro n;induction n with
 |zero=>intro s z hz;simp[h_]at hz
 |succ n ih=>
  intro s z hz;simp only[h_]at hz;split at hz
  .simp at hz
  .rename_i s' hs;rw[dl (h _ _ hs)];exact ih s' z hz
  .rename_i b hs;rw[cA (h _ _ hs),hz]
end Go.Ev
