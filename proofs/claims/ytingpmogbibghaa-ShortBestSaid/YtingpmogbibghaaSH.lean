/- ShortTells: costs, steps, trees and routes are the reference's. Conditions: words of 64 bits. -/
import Derived.Test.YtingpmogbibghaaSE
import Derived.Test.YtingpmogbibghaaSu
open Go.Ev Go Go.Fl Go.Ways
namespace Go.Proofs.Ytingpmogbibghaa.S
def cB(t:aj)(L:List Nat)(g:Nat):Nat->Nat:=B (iF t L) g t.ah.toNat
theorem yr(t:aj)(L:List Nat)(g i:Nat):cB t L g i<=oK:=TE _ _
section
variable{t:aj}{L:List Nat}(hV:lF t)(hL:L.length=t.aP.l.length)(hn:∀x∈L,nn x)
include hV hL hn in
theorem IY{g:Nat}(hg:g<t.ah.toNat):gD t (dW L) (g:Int)=some (Sl.mk (bw t.ah.toNat (cB t L g))):=by obtain⟨cl,ez,h1,h2⟩:=Hu hV hL hn hg;rw[h1,gE fun i hi=>(h2.rO (wJ hV L)).1 i hi];rfl
variable{b:Sl Int}(hb:b.l=eh L)(h12:t.bg.l.length<=12)
end
end Go.Proofs.Ytingpmogbibghaa.S
