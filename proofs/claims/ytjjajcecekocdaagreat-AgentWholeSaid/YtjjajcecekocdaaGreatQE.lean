/- What tables send, and sameness, for the agent's program. Conditions: as stated. -/
import Derived.Test.YtjjajcecekocdaaGreatQD
open Option renaming bind_some->ah
open Go.Ev Go
namespace Go.Proofs.YtjjajcecekocdaaGreat.A
theorem Ka(a:Sl aT)(hn:a.l.length<9223372036854775808):d_ a a=some true:=by
 unfold d_;rw[show((a.l.length:Int) !=(a.l.length:Int))=false by simp,cond_false];rw[x9 (f:=cU a a) a.l.length hn (fun _=>True) () (fun i hi=>?_) (by simp only[cU];rw[decide_eq_false (by omega),cond_false]),iC fun _ _=>trivial]
 .rfl
 .rw [iC trivial];simp only[cU];rw[decide_eq_true (by omega),cond_true,cB hi];simp only[ah];rw[decide_eq_true trivial];rfl
theorem yX(x:ae)(hn:(ae.iK x).l.length<9223372036854775808):ou x x=some true:=by unfold ou;rw[vS,iC ⟨rfl,rfl⟩];simp only[ah,cond_true,wu];rw[Ka _ hn];rfl
end Go.Proofs.YtjjajcecekocdaaGreat.A
