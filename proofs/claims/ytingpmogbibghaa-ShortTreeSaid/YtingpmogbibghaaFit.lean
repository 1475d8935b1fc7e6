/- The parts of what fits. Conditions: as stated. -/
import Derived.Test.YtingpmogbibghaaKm
namespace Go.Ev
theorem Tb{a:Ty}{r:List Ty}{v:El a}{m l:List V}(h:FZ (a::r) l)(e:l=.x a v::m):yC a v/\FZ r m:=by obtain⟨v',m',h1,h2,h3⟩:=h;rw[e]at h1;obtain⟨h4,rfl⟩:=List.cons.inj h1;cases h4;exact⟨h2,h3⟩
end Go.Ev
