/- The moves from old routes to new ones: what the program's aJ answers. Conditions: as stated. -/
import Derived.Test.YthcplpfiidlinaaDoorJW
open Go.Ev Go
namespace Go.Proofs.YthcplpfiidlinaaDoor.J
theorem iv{α β:Type}{f:α->List β}{m:Nat}(hf:∀x,(f x).length<=m):∀l:List α,(l.flatMap f).length<=m*l.length:=by intro l;induction l with|nil=>simp|cons x l ih=>have:=hf x;simp only[List.flatMap_cons,List.length_append,List.length_cons,Nat.mul_add];omega
theorem JS{n i:Nat}(hi:i<n):gt (List.range n) i=i:=by rw[dV (by simpa using hi)];simp
end Go.Proofs.YthcplpfiidlinaaDoor.J
