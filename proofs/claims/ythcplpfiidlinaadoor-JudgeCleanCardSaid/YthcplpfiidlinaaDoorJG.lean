/- Where nothing is found, all routes are good: what the jk U2, and that packets come through. Conditions: as stated. -/
import Derived.Test.YthcplpfiidlinaaDoorJF
open Go.Ev Go
open List renaming mem_singleton->aq,take_append_getElem->cZ
namespace Go.Proofs.YthcplpfiidlinaaDoor.J
section
variable{t:ah}{old now:Sl (Sl Int)}{p:bI}{s h:Nat}
theorem Ra{r:aj}:∀(mv:List ae)(A:List (Sl Int)),s<A.length->(A.length:Int)=t.br->h<t.bd.l.length->(gt A s).l.length=t.bd.l.length->
  (gt (gt (MW t r mv A) s).l h=gt (gt A s).l h/\∀m∈mv,vu r s h m=false)\/∃m∈mv,vu r s h m=true/\gt (gt (MW t r mv A) s).l h=m.2.2.1:=by
 intro mv;induction mv with
 |nil=>intro A _ _ _ _;exact .inl ⟨rfl,fun m hm=>by cases hm⟩
 |cons m mv ih=>
  intro A hs hA hh hr;have e:=Oi (r:=r) (m:=m) hs hA hh hr;have e2:MW t r (m::mv) A=MW t r mv (xo t r A m):=rfl;rw[e2];rcases ih (xo t r A m) (by rw[sP];exact hs) (by rw[sP];exact hA) hh (by rw[yQ];exact hr)with⟨h1,h2⟩|⟨m',h1,h2,h3⟩
  .cases hm:vu r s h m with
   |true=>exact .inr ⟨m,List.mem_cons_self,hm,by rw[h1,e,hm];rfl⟩
   |false=>
    refine .inl ⟨by rw[h1,e,hm];rfl,fun m' hm'=>?_⟩;rcases List.mem_cons.1 hm' with rfl|hm'
    .exact hm
    .exact h2 m' hm'
  .exact .inr ⟨m',List.mem_cons_of_mem _ h1,h2,h3⟩
theorem OU{rd:List aj}{mv:List ae}{A:List (Sl Int)}(hs:s<A.length)(hA:(A.length:Int)=t.br)(hh:h<t.bd.l.length)(hr:(gt A s).l.length=t.bd.l.length):
  ∀k,k<=rd.length->(gt (gt (Ap t rd mv A k) s).l h=gt (gt A s).l h/\∀r∈rd.take k,∀m∈mv,vu r s h m=false)\/∃r∈rd.take k,∃m∈mv,vu r s h m=true/\gt (gt (Ap t rd mv A k) s).l h=m.2.2.1:=by
 intro k;induction k with
 |zero=>intro _;exact .inl ⟨rfl,fun r hr=>by simp at hr⟩
 |succ k ih=>
  intro hk;have hkl:k<rd.length:=by omega
  have hm:gt rd k∈rd.take (k+1):=by rw[<-cZ hkl,cR hkl];exact List.mem_append_right _ (aq.2 rfl)
  rw[Ey hkl];rcases Ra (r:=gt rd k) mv (Ap t rd mv A k) (by rw[pg];exact hs) (by rw[pg];exact hA) hh (by rw[Co];exact hr)with⟨h1,h2⟩|⟨m,h1,h2,h3⟩
  .rcases ih (by omega)with⟨h4,h5⟩|⟨r,h4,m,h5,h6,h7⟩
   .refine .inl ⟨by rw[h1,h4],fun r hr=>?_⟩;rw[<-cZ hkl,List.mem_append,aq]at hr;rcases hr with hr|rfl
    .exact h5 r hr
    .rw [<-cR hkl];exact h2
   .exact .inr ⟨r,by rw[<-cZ hkl];exact List.mem_append_left _ h4,m,h5,h6,by rw[h1,h7]⟩
  .exact .inr ⟨gt rd k,hm,m,h1,h2,h3⟩
end
end Go.Proofs.YthcplpfiidlinaaDoor.J
