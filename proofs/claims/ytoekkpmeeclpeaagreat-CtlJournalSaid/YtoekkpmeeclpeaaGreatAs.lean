/- The sorts, for an example that is run. Conditions: as stated. -/
import Derived.Test.YtoekkpmeeclpeaaGreatLK
import Derived.Test.YtoekkpmeeclpeaaGreatFz
open Bool renaming and_eq_true->ax
open List renaming mem_iff_getElem->gy,pairwise_iff_getElem->d8
open Nat renaming blt->gL,blt_eq->eD
open Go.Ev Go
namespace Go.Proofs.YtoekkpmeeclpeaaGreat.S
def SI(x y:aE):Bool:=decide (x.2.2.2<y.2.2.2)||(decide (x.2.2.2=y.2.2.2)&&(decide (x.1<y.1)||(decide (x.1=y.1)&&decide (x.2.1<y.2.1))))
theorem SH{x y:aE}:SI x y=true<->J6 x y:=by simp[SI,J6]
def UD(x:aE):List aE->List aE
 |[]=>[x]
 |y::r=>bif SI x y then x::y::r else y::UD x r
def zy:List aE->List aE
 |[]=>[]
 |x::r=>UD x (zy r)
def pwB:List aE->Bool
 |[]=>true
 |x::r=>r.all (SI x)&&pwB r
theorem FV(x:aE):∀l,(UD x l).Perm (x::l)
 |[]=>.refl _
 |y::r=>by unfold UD;cases SI x y with|true=>exact .refl _|false=>exact((FV x r).cons y).trans (.swap x y r)
theorem xG:∀l,(zy l).Perm l
 |[]=>.refl _
 |x::r=>(FV x _).trans ((xG r).cons x)
theorem L6:∀{l},pwB l=true->l.Pairwise J6
 |[],_=>.nil
 |x::r,h=>by simp only[pwB,ax,List.all_eq_true]at h;exact .cons (fun y hy=>SH.1 (h.1 y hy)) (L6 h.2)
def Kj(s:Sl aE):Option (Sl aE):=bif pwB (zy s.l)&&gL s.l.length 1000 then some (s.to (zy s.l))else none
theorem NG{s:Sl aE}:aN (Kj s) (uA jE s):=by
 intro z h;unfold Kj at h;cases hc:(pwB (zy s.l)&&gL s.l.length 1000)with
 |false=>rw[hc]at h;cases h
 |true=>
  rw[hc]at h;rw[ax]at hc;have hp:=L6 hc.1;have hl:s.l.length<1000:=by simpa[eD]using hc.2
  have e2:(jE s.l.toArray).toList=zy s.l:=by
   refine List.Perm.eq_of_pairwise (le:=fun a b=>¬J6 b a) (fun a b ha hb h1 h2=>?_) ?_ ?_ ((xk s.l).trans (xG s.l).symm)
   .have ha:=((xk s.l).trans (xG s.l).symm).mem_iff.1 ha;generalize zy s.l=L at*;obtain⟨i,hi,rfl⟩:=gy.1 ha;obtain⟨j,hj,rfl⟩:=gy.1 hb;rcases Nat.lt_trichotomy i j with h|h|h
    .exact absurd (d8.1 hp i j hi hj h) h2
    .subst h;rfl
    .exact absurd (d8.1 hp j i hj hi h) h1
   .rw [d8];intro i j hi hj hij;have:=Dh s.l hij hj;rwa[dc hi,dc hj]at this
   .exact hp.imp fun{a b}h1 h2=>by unfold J6 at h1 h2;omega
  unfold uA;rw[show gL s.l.length 4611686018427387904=true by rw[eD];omega,e2];exact h
def Gk(s:Sl Int):Option (Sl Int):=bif gL s.l.length 1000 then some (s.to (rz s.l))else none
theorem Ki{s:Sl Int}:aN (Gk s) (uA uU s):=by
 intro z h;unfold Gk at h;cases hc:gL s.l.length 1000 with
 |false=>rw[hc]at h;cases h
 |true=>
  rw[hc]at h;have hl:s.l.length<1000:=by simpa[eD]using hc
  have e2:(uU s.l.toArray).toList=rz s.l:=by show(s.l.mergeSort Ot)=_;exact Fw (.refl _)
  unfold uA;rw[show gL s.l.length 4611686018427387904=true by rw[eD];omega,e2];exact h
end Go.Proofs.YtoekkpmeeclpeaaGreat.S
