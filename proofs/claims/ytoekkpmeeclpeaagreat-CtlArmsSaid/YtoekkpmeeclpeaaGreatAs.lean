/- The sorts, for an example that is run. Conditions: as stated. -/
import Derived.Test.YtoekkpmeeclpeaaGreatLK
import Derived.Test.YtoekkpmeeclpeaaGreatFz
open Bool renaming and_eq_true->aw
open List renaming mem_iff_getElem->gm,pairwise_iff_getElem->dY
open Nat renaming blt->gE,blt_eq->eA
open Go.Ev Go
namespace Go.Proofs.YtoekkpmeeclpeaaGreat.S
def RQ(x y:aE):Bool:=decide (x.2.2.2<y.2.2.2)||(decide (x.2.2.2=y.2.2.2)&&(decide (x.1<y.1)||(decide (x.1=y.1)&&decide (x.2.1<y.2.1))))
theorem RP{x y:aE}:RQ x y=true<->Jq x y:=by simp[RQ,Jq]
def T0(x:aE):List aE->List aE
 |[]=>[x]
 |y::r=>bif RQ x y then x::y::r else y::T0 x r
def yF:List aE->List aE
 |[]=>[]
 |x::r=>T0 x (yF r)
def ZJ:List aE->Bool
 |[]=>true
 |x::r=>r.all (RQ x)&&ZJ r
theorem Fi(x:aE):∀l,(T0 x l).Perm (x::l)
 |[]=>.refl _
 |y::r=>by unfold T0;cases RQ x y with|true=>exact .refl _|false=>exact((Fi x r).cons y).trans (.swap x y r)
theorem w6:∀l,(yF l).Perm l
 |[]=>.refl _
 |x::r=>(Fi x _).trans ((w6 r).cons x)
theorem Lr:∀{l},ZJ l=true->l.Pairwise Jq
 |[],_=>.nil
 |x::r,h=>by simp only[ZJ,aw,List.all_eq_true]at h;exact .cons (fun y hy=>RP.1 (h.1 y hy)) (Lr h.2)
def JF(s:Sl aE):Option (Sl aE):=bif ZJ (yF s.l)&&gE s.l.length 1000 then some (s.to (yF s.l))else none
theorem M0{s:Sl aE}:aT (JF s) (tM jp s):=by
 intro z h;unfold JF at h;cases hc:(ZJ (yF s.l)&&gE s.l.length 1000)with
 |false=>rw[hc]at h;cases h
 |true=>
  rw[hc]at h;rw[aw]at hc;have hp:=Lr hc.1;have hl:s.l.length<1000:=by simpa[eA]using hc.2
  have e2:(jp s.l.toArray).toList=yF s.l:=by
   refine List.Perm.eq_of_pairwise (le:=fun a b=>¬Jq b a) (fun a b ha hb h1 h2=>?_) ?_ ?_ ((wK s.l).trans (w6 s.l).symm)
   .have ha:=((wK s.l).trans (w6 s.l).symm).mem_iff.1 ha;generalize yF s.l=L at*;obtain⟨i,hi,rfl⟩:=gm.1 ha;obtain⟨j,hj,rfl⟩:=gm.1 hb;rcases Nat.lt_trichotomy i j with h|h|h
    .exact absurd (dY.1 hp i j hi hj h) h2
    .subst h;rfl
    .exact absurd (dY.1 hp j i hj hi h) h1
   .rw [dY];intro i j hi hj hij;have:=CI s.l hij hj;rwa[cU hi,cU hj]at this
   .exact hp.imp fun{a b}h1 h2=>by unfold Jq at h1 h2;omega
  unfold tM;rw[show gE s.l.length 4611686018427387904=true by rw[eA];omega,e2];exact h
def FJ(s:Sl Int):Option (Sl Int):=bif gE s.l.length 1000 then some (s.to (qA s.l))else none
theorem JE{s:Sl Int}:aT (FJ s) (tM uh s):=by
 intro z h;unfold FJ at h;cases hc:gE s.l.length 1000 with
 |false=>rw[hc]at h;cases h
 |true=>
  rw[hc]at h;have hl:s.l.length<1000:=by simpa[eA]using hc
  have e2:(uh s.l.toArray).toList=qA s.l:=by show(s.l.mergeSort NL)=_;exact ES (.refl _)
  unfold tM;rw[show gE s.l.length 4611686018427387904=true by rw[eA];omega,e2];exact h
end Go.Proofs.YtoekkpmeeclpeaaGreat.S
