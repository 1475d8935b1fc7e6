/- What fits: lengths of what a law is called with. Conditions: as stated. -/
import Derived.Test.YthcplpfiidlinaaDoorKm
open Go.Ev Go
namespace Go.Proofs.YthcplpfiidlinaaDoor.J
theorem Mm{a:Ty}{r:List Ty}{v:El a}{m l:List V}(h:EY (a::r) l)(e:l=.x a v::m):wH a v/\EY r m:=by obtain⟨v',m',h1,h2,h3⟩:=h;rw[e]at h1;obtain⟨h4,rfl⟩:=List.cons.inj h1;cases h4;exact⟨h2,h3⟩
theorem HL{t:Ty}{s:Sl (El t)}(h:wH (.sl t) s):s.l.length<9223372036854775808:=by have:s.l.length<=2^63-1:=h.1;omega
end Go.Proofs.YthcplpfiidlinaaDoor.J
