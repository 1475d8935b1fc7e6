/- The law ShortTells. Conditions: words of 64 bits. -/
import Derived.Test.YtingpmogbibghaaSH
open Option renaming bind_some->ae
open Go.Ev Go Go.Fl Go.Ways
namespace Go.Proofs.Ytingpmogbibghaa.S
theorem Jg(t:aj)(b:Sl Int):ri t b=some (decide (t.aP.l.length<=30/\t.bg.l.length<=12/\b.l.length<=30)):=by unfold ri;have h1:decide ((((aj.aP t).l).length:Int)<=30)=decide (t.aP.l.length<=30):=decide_eq_decide.2 (by omega);have h2:decide ((((aj.bg t).l).length:Int)<=12)=decide (t.bg.l.length<=12):=decide_eq_decide.2 (by omega);have h3:decide ((b.l.length:Int)<=30)=decide (b.l.length<=30):=decide_eq_decide.2 (by omega);rw[h1,h2,h3];by_cases a1:t.aP.l.length<=30<;>by_cases a2:t.bg.l.length<=12<;>by_cases a3:b.l.length<=30<;>simp[a1,a2,a3]
theorem QW{b:Sl Int}{L:List Nat}(hl:b.l=eh L)(hw:∀x∈L,x7 x)(hb:L.length<=30):vS b=some (dW (L.map gM)):=by
 unfold vS;have e0:b.l.length=L.length:=by rw[hl,List.length_map]
 have:=z_ (f:=qV b) L gM (fun i s hi hs=>by
  simp only[qV];rw[decide_eq_true (by omega),cond_true,nV (by omega),ae,hl,ph hi];unfold Al;rw[Aj,ae,Cg (hw _ (mP hi)),ae,ae,iM.2 ⟨rfl,by rw[List.length_append];simp;omega⟩,ae,u4 (by omega)]) (fun s=>by
  simp only[qV];rw[decide_eq_false (by omega),cond_false])
 rw[this];rfl
theorem OV{l:List Int}(h:∀x∈l,0<=x/\x<=18446744073709551615):∃L:List Nat,l=eh L/\∀x∈L,x7 x:=by
 refine⟨l.map Int.toNat,?_,fun x hx=>?_⟩
 .rw [eh,List.map_map];refine(List.map_id l).symm.trans (List.map_congr_left fun x hx=>?_);have:=h x hx;show x=((x.toNat:Nat):Int)
  omega
 .obtain ⟨y,hy,rfl⟩:=List.mem_map.1 hx;have:=h y hy;unfold x7;omega
end Go.Proofs.Ytingpmogbibghaa.S
