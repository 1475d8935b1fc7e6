/- Steps: what both tell. Conditions: a topology and weights that may be. -/
import Derived.Test.YtingpmogbibghaaSD
open Nat renaming le_refl->am
open Option renaming bind_some->ae
open Go.Ev Go Go.Fl Go.Ways
namespace Go.Proofs.Ytingpmogbibghaa.S
section
variable{t:aj}{L:List Nat}(hV:lF t)(hL:L.length=t.aP.l.length)(hn:∀x∈L,nn x){c:Nat->Nat}(hc:∀i,i<t.ah.toNat->c i<=oK)
include hn in
theorem Qm{k:Int}(h0:0<=k)(h1:k<L.length):tU (dW L) k=some (decide (wt L k<oK)):=by
 unfold tU;have hWl:(dW L).l=L:=rF L;have hk:k.toNat<L.length:=by omega
 have hinf:sf 1=some oK:=rfl;have hw:=hn _ (mP (l:=L) hk);rw[hWl,decide_eq_true (show k>=0 by omega),decide_eq_true (show k<(L.length:Int)by omega),Bool.and_self,cond_true,eC.2 ⟨show k=((k.toNat:Nat):Int)by omega,hk⟩,ae,hinf,ae,ae];congr 1;have hi:nn oK:=qC (am _);rw[Hk (nL (uU hw) (mq hw)) (nL (uU hi) (mq hi)),yg hw,yg hi,rn (am _)];exact decide_eq_decide.2 (by show((wt L k:Nat):Int)<((oK:Nat):Int)<->_;omega)
variable{g:Nat}
end
end Go.Proofs.Ytingpmogbibghaa.S
