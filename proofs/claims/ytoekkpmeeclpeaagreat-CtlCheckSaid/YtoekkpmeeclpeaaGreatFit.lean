/- The parts of what fits. Conditions: as stated. -/
import Derived.Test.YtoekkpmeeclpeaaGreatKm
namespace Go.Ev
theorem UX{a:Ty}{r:List Ty}{v:El a}{m l:List V}(h:Gz (a::r) l)(e:l=.x a v::m):yf a v/\Gz r m:=by obtain⟨v',m',h1,h2,h3⟩:=h;rw[e]at h1;obtain⟨h4,rfl⟩:=List.cons.inj h1;cases h4;exact⟨h2,h3⟩
theorem Qp{t:Ty}{s:Sl (El t)}(h:yf (.sl t) s):s.l.length<9223372036854775808:=by have:s.l.length<=2^63-1:=h.1;omega
end Go.Ev
