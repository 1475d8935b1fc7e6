/- Where nothing is found, all routes are good: what the rounds leave, and that packets come through. Conditions: as stated. -/
import Derived.Test.YthcplpfiidlinaaDoorJF
open List renaming mem_singleton->ao,take_append_getElem->cZ
open Go.Ev Go
namespace Go.Proofs.YthcplpfiidlinaaDoor.J
section
variable{t:ah}{old now:Sl (Sl Int)}{p:bK}{s h:Nat}
theorem Ro{r:aj}:∀(mv:List ae)(A:List (Sl Int)),s<A.length->(A.length:Int)=t.br->h<t.bf.l.length->(gt A s).l.length=t.bf.l.length->
  (gt (gt (M5 t r mv A) s).l h=gt (gt A s).l h/\∀m∈mv,vF r s h m=false)\/∃m∈mv,vF r s h m=true/\gt (gt (M5 t r mv A) s).l h=m.2.2.1:=by
 intro mv;induction mv with
 |nil=>intro A _ _ _ _;exact .inl ⟨rfl,fun m hm=>by cases hm⟩
 |cons m mv ih=>
  intro A hs hA hh hr;have e:=Oy (r:=r) (m:=m) hs hA hh hr;have e2:M5 t r (m::mv) A=M5 t r mv (xz t r A m):=rfl;rw[e2];rcases ih (xz t r A m) (by rw[sX];exact hs) (by rw[sX];exact hA) hh (by rw[y9];exact hr)with⟨h1,h2⟩|⟨m',h1,h2,h3⟩
  .cases hm:vF r s h m with
   |true=>exact .inr ⟨m,List.mem_cons_self,hm,by rw[h1,e,hm];rfl⟩
   |false=>
    refine .inl ⟨by rw[h1,e,hm];rfl,fun m' hm'=>?_⟩;rcases List.mem_cons.1 hm' with rfl|hm'
    .exact hm
    .exact h2 m' hm'
  .exact .inr ⟨m',List.mem_cons_of_mem _ h1,h2,h3⟩
theorem O6{rd:List aj}{mv:List ae}{A:List (Sl Int)}(hs:s<A.length)(hA:(A.length:Int)=t.br)(hh:h<t.bf.l.length)(hr:(gt A s).l.length=t.bf.l.length):
  ∀k,k<=rd.length->(gt (gt (Ay t rd mv A k) s).l h=gt (gt A s).l h/\∀r∈rd.take k,∀m∈mv,vF r s h m=false)\/∃r∈rd.take k,∃m∈mv,vF r s h m=true/\gt (gt (Ay t rd mv A k) s).l h=m.2.2.1:=by
 intro k;induction k with
 |zero=>intro _;exact .inl ⟨rfl,fun r hr=>by simp at hr⟩
 |succ k ih=>
  intro hk;have hkl:k<rd.length:=by omega
  have hm:gt rd k∈rd.take (k+1):=by rw[<-cZ hkl,cR hkl];exact List.mem_append_right _ (ao.2 rfl)
  rw[EM hkl];rcases Ro (r:=gt rd k) mv (Ay t rd mv A k) (by rw[pm];exact hs) (by rw[pm];exact hA) hh (by rw[Cz];exact hr)with⟨h1,h2⟩|⟨m,h1,h2,h3⟩
  .rcases ih (by omega)with⟨h4,h5⟩|⟨r,h4,m,h5,h6,h7⟩
   .refine .inl ⟨by rw[h1,h4],fun r hr=>?_⟩;rw[<-cZ hkl,List.mem_append,ao]at hr;rcases hr with hr|rfl
    .exact h5 r hr
    .rw [<-cR hkl];exact h2
   .exact .inr ⟨r,by rw[<-cZ hkl];exact List.mem_append_left _ h4,m,h5,h6,by rw[h1,h7]⟩
  .exact .inr ⟨gt rd k,hm,m,h1,h2,h3⟩
end
end Go.Proofs.YthcplpfiidlinaaDoor.J
