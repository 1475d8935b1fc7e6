/- Where nothing is found, all routes are good: what the jj UX, and that packets come through. Conditions: as stated. -/
import Derived.Test.YthcplpfiidlinaaDoorJF
open Go.Ev Go
open List renaming mem_singleton->aq,take_append_getElem->cX
namespace Go.Proofs.YthcplpfiidlinaaDoor.J
section
variable{t:ah}{old now:Sl (Sl Int)}{p:dh}{s h:Nat}
theorem Q8{r:aj}:∀(mv:List ae)(A:List (Sl Int)),s<A.length->(A.length:Int)=t.bq->h<t.bd.l.length->(gt A s).l.length=t.bd.l.length->
  (gt (gt (MT t r mv A) s).l h=gt (gt A s).l h/\∀m∈mv,vn r s h m=false)\/∃m∈mv,vn r s h m=true/\gt (gt (MT t r mv A) s).l h=m.2.2.1:=by
 intro mv;induction mv with
 |nil=>intro A _ _ _ _;exact .inl ⟨rfl,fun m hm=>by cases hm⟩
 |cons m mv ih=>
  intro A hs hA hh hr;have e:=Og (r:=r) (m:=m) hs hA hh hr;have e2:MT t r (m::mv) A=MT t r mv (xg t r A m):=rfl;rw[e2];rcases ih (xg t r A m) (by rw[sJ];exact hs) (by rw[sJ];exact hA) hh (by rw[yK];exact hr)with⟨h1,h2⟩|⟨m',h1,h2,h3⟩
  .cases hm:vn r s h m with
   |true=>exact .inr ⟨m,List.mem_cons_self,hm,by rw[h1,e,hm];rfl⟩
   |false=>
    refine .inl ⟨by rw[h1,e,hm];rfl,fun m' hm'=>?_⟩;rcases List.mem_cons.1 hm' with rfl|hm'
    .exact hm
    .exact h2 m' hm'
  .exact .inr ⟨m',List.mem_cons_of_mem _ h1,h2,h3⟩
theorem OS{rd:List aj}{mv:List ae}{A:List (Sl Int)}(hs:s<A.length)(hA:(A.length:Int)=t.bq)(hh:h<t.bd.l.length)(hr:(gt A s).l.length=t.bd.l.length):
  ∀k,k<=rd.length->(gt (gt (Ag t rd mv A k) s).l h=gt (gt A s).l h/\∀r∈rd.take k,∀m∈mv,vn r s h m=false)\/∃r∈rd.take k,∃m∈mv,vn r s h m=true/\gt (gt (Ag t rd mv A k) s).l h=m.2.2.1:=by
 intro k;induction k with
 |zero=>intro _;exact .inl ⟨rfl,fun r hr=>by simp at hr⟩
 |succ k ih=>
  intro hk;have hkl:k<rd.length:=by omega
  have hm:gt rd k∈rd.take (k+1):=by rw[<-cX hkl,cP hkl];exact List.mem_append_right _ (aq.2 rfl)
  rw[Er hkl];rcases Q8 (r:=gt rd k) mv (Ag t rd mv A k) (by rw[o_];exact hs) (by rw[o_];exact hA) hh (by rw[Ce];exact hr)with⟨h1,h2⟩|⟨m,h1,h2,h3⟩
  .rcases ih (by omega)with⟨h4,h5⟩|⟨r,h4,m,h5,h6,h7⟩
   .refine .inl ⟨by rw[h1,h4],fun r hr=>?_⟩;rw[<-cX hkl,List.mem_append,aq]at hr;rcases hr with hr|rfl
    .exact h5 r hr
    .rw [<-cP hkl];exact h2
   .exact .inr ⟨r,by rw[<-cX hkl];exact List.mem_append_left _ h4,m,h5,h6,by rw[h1,h7]⟩
  .exact .inr ⟨gt rd k,hm,m,h1,h2,h3⟩
end
end Go.Proofs.YthcplpfiidlinaaDoor.J
