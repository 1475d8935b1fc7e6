/- Rings, and what Order answers of them. Conditions: as stated. -/
import Derived.Test.YtpnnnoagjcpmhaaDoorUG
open Go.Ev Go
namespace Go.Proofs.YtpnnnoagjcpmhaaDoor.U
def Qg(n:Nat)(l:List bc):Prop:=∃g,g<n/\∃d,1<=d/\d<=n/\MH l g d g
theorem Gd{n:Nat}{l:List bc}{o:List Nat}(hF:xz n l)(hP:vo n l 0 o):¬Qg n l:=by
 rintro⟨g,hg,d,h1,_,h3⟩
 have hpos:∀i,i<n->∃p,p<o.length/\gt o p=i:=fun i hi=>by
  rcases(hP.all i).2 hi with h|h
  .simp at h
  .exact IV h
 have key:∀(d i:Nat),MH l g d i->∀p,p<o.length->gt o p=i->∃q,q<o.length/\gt o q=g/\p+d<=q:=by intro d i h;induction h with|zero=>intro p hp e;exact⟨p,hp,e,Nat.le_refl _⟩|@iD d i k e _ ih=>intro p hp e2;obtain⟨q,hq,e3⟩:=hpos k (hF.lt e).2;obtain⟨q0,hq0,e4⟩:=hP.rZ q hq i (by rw[e3];exact e);have:q0=p:=(List.getElem_inj (i:=q0) (j:=p) (h₀:=by omega) (h₁:=hp) hP.nd).1 (by rw[<-eu (show q0<o.length by omega),<-eu hp,e4,e2]);obtain⟨q2,h4,h5,h6⟩:=ih q hq e3;exact⟨q2,h4,h5,by omega⟩
 obtain⟨p,hp,e⟩:=hpos g hg;obtain⟨q,hq,e2,h4⟩:=key d g h3 p hp e;have:q=p:=(List.getElem_inj (i:=q) (j:=p) (h₀:=hq) (h₁:=hp) hP.nd).1 (by rw[<-eu hq,<-eu hp,e2,e]);omega
theorem Gg{n:Nat}{l:Sl bc}(hb:l.l.length<1000000)(hF:xz n l.l):∃s b,iT (n:Int) l=some (s,b)/\(b=false<->Qg n l.l):=by
 rcases Du hb hF with⟨s,o,h1,_,h3⟩|⟨h1,x,o,h2,h3⟩
 .exact ⟨s,true,h1,fun h=>(by cases h),fun h=>absurd h (Gd hF h3)⟩
 .refine ⟨.nil,false,h1,fun _=>?_,fun _=>rfl⟩;obtain⟨g,hg,hf⟩:=CV h2 h3;unfold P8 at hf
  have hf:∃k d,Ed l.l g k/\MH l.l g d k/\d<n:=by
   apply Classical.byContradiction;intro hno
   exact hf fun k d e h=>by
    rcases Nat.lt_or_ge d n with h2|h2
    .exact absurd ⟨k,d,e,h,h2⟩ hno
    .exact h2
  obtain⟨k,d,e,h,hd⟩:=hf;exact⟨g,hg,d+1,by omega,hd,.iD e h⟩
end Go.Proofs.YtpnnnoagjcpmhaaDoor.U
