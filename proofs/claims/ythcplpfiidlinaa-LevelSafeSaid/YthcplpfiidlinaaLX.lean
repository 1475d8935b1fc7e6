/- Plans: what the program's Make answers. Conditions: as stated. -/
import Derived.Test.YthcplpfiidlinaaLE
import Derived.Test.YthcplpfiidlinaaLQ
open Go.Ev Go
namespace Go.Proofs.Ythcplpfiidlinaa.L
section
variable {t:api_Topo}{old now:Sl (Sl Int)}
noncomputable def msOf(t:api_Topo)(old now:Sl (Sl Int)):List level_Move:=(srtMv (mvs t old now).toArray).toList
theorem qrh{m:level_Move}:m∈msOf t old now↔m∈mvs t old now:=(qhj _).mem_iff
theorem qum(hN:GoodP t now):(msOf t old now).length<=64:=by
 have hsm:=hN.1.small
 have hho:=hN.1.hosts
 rw [msOf,(qhj _).length_eq]
 have:=q53 (m:=8) (f:=mvH t old now) (λh=>by have:=qfy (t:=t) (old:=old) (now:=now) h; omega) (List.range t.Hosts.l.length)
 rw [List.length_range]at this
 have e:(mvs t old now).length<=8 * t.Hosts.l.length:=this
 omega
structure Rds (ms:List level_Move) (first gap:Int) (R:List plan_Round):Prop where
 asc:(R.map λx=>x.1).Pairwise (· < ·)
 mem:∀x,x∈(R.map λx=>x.1)↔∃m∈ms,m.2.2.2=x
 time:∀i,i < R.length->(gt R i).2.1=first+(i:Int) * gap
 sws:∀i,i < R.length->SwsOf ms (gt R i).1 (gt R i).2.2.l
instance {a b c:Int}:Decidable (In a b c):=by unfold In; infer_instance
structure Made (t:api_Topo) (old now:Sl (Sl Int)) (at' miss lead:Int) (p:plan_Plan) (e:Int):Prop where
 none:msOf t old now= []->p=nilPlan/\e=7
 over:msOf t old now≠ []->∃(s:Sl level_Move) (R:Sl plan_Round),s.l=msOf t old now/\Rds (msOf t old now) (firstF t at' miss lead) (gapF t miss) R.l/\0 < R.l.length/\
  ((lastF t at' miss lead R.l.length > 1099511627776/\p=nilPlan/\e=11)\/
   (lastF t at' miss lead R.l.length<=1099511627776/\p=(s,R,miss,lifeF t,at'+lead+1,lastF t at' miss lead R.l.length)/\e=0))
end
end Go.Proofs.Ythcplpfiidlinaa.L
