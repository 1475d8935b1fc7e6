/- A line, read: by the document. Conditions: as stated. -/
import Derived.Test.YtbcmbckpebpijaaDoorCr
open Go.Ev Go
namespace Go.Proofs.YtbcmbckpebpijaaDoor.C
def di(c:UInt8)(l:List UInt8):List UInt8:=l.takeWhile (fun x=>x !=c)
theorem pW{a b:List UInt8}{c:UInt8}(h:c∉a):di c (a++c::b)=a:=by unfold di;rw[List.takeWhile_append_of_pos (fun x hx=>by simp;exact fun e=>h (e▸hx))];simp
theorem BA{a:List UInt8}{c:UInt8}(h:c∉a):di c a=a:=by have:=List.takeWhile_append_of_pos (p:=fun x=>x !=c) (l₁:=a) (l₂:=[]) (fun x hx=>by simp;exact fun e=>h (e▸hx));rw[List.append_nil]at this;unfold di;rw[this];simp
theorem su(c:UInt8)(l:List UInt8):(di c l).length<=l.length:=(List.takeWhile_sublist _).length_le
theorem wY{x c:UInt8}:((x.toNat:Int) !=(c.toNat:Int))=!decide (x=c):=by
 by_cases h:x=c
 .subst h;simp
 .rw [decide_eq_false h];simp only[Bool.not_false,bne_iff_ne,ne_eq];intro e;exact h (UInt8.toNat_inj.1 (by omega))
end Go.Proofs.YtbcmbckpebpijaaDoor.C
