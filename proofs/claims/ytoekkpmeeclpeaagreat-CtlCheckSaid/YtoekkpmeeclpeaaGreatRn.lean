/- Runs: the abstract machine carried out; what it answers is good. Conditions: the program's mark for mixed orders. -/
import Derived.Test.YtoekkpmeeclpeaaGreatEvW
open Bool renaming false_or->mJ
open Option.some renaming inj->aa
namespace Go.Ev
def Lm{α:Type}:List (Nat×α)->List Nat->List (Nat×α)
 |[],_=>[]
 |(t,v)::r,seen=>if seen.contains t then Lm r seen else(t,v)::Lm r (t::seen)
def H5:bp->List Nat->bp
 |[],_=>[]
 |(t,v)::r,seen=>if seen.contains t then H5 r seen else match v with|none=>H5 r (t::seen)|some o=>(t,some o)::H5 r (t::seen)
def Pp(s:St):St:=⟨Lm s.cW [],H5 s.heap [],s.next,s.gh⟩
theorem Qz{α:Type}{t:Nat}:∀(e:List (Nat×α))(seen:List Nat),bV (Lm e seen) t=if seen.contains t then none else bV e t:=by
 intro e;induction e with
 |nil=>intro seen;simp[Lm,bV]
 |cons p e ih=>
  intro seen;obtain⟨u,v⟩:=p;simp only[Lm];split
  .rename_i hc;rw[ih];split
   .rfl
   .rename_i hn;have hne:(u==t)=false:=beq_false_of_ne fun e=>hn (e▸hc);simp[bV,hne]
  .rename_i hc;by_cases hu:u=t
   .subst hu;rw[if_neg hc];simp[bV]
   .have hb:(t==u)=false:=beq_false_of_ne fun e=>hu e.symm;have hb2:(u==t)=false:=beq_false_of_ne hu;simp only[bV,hb2,cond_false,ih,List.contains_cons,hb,mJ]
theorem Ll{t:Nat}:∀(e:bp)(seen:List Nat),(bV (H5 e seen) t).join=if seen.contains t then none else(bV e t).join:=by
 intro e;induction e with
 |nil=>intro seen;simp[H5,bV]
 |cons p e ih=>
  intro seen;obtain⟨u,v⟩:=p;simp only[H5];split
  .rename_i hc;rw[ih];split
   .rfl
   .rename_i hn;have hne:(u==t)=false:=beq_false_of_ne fun e=>hn (e▸hc);simp[bV,hne]
  .rename_i hc;by_cases hu:u=t
   .subst hu;rw[if_neg hc];cases v with|none=>rw[ih];simp[bV]|some o=>simp[bV]
   .have hb:(t==u)=false:=beq_false_of_ne fun e=>hu e.symm;have hb2:(u==t)=false:=beq_false_of_ne hu;cases v with|none=>simp only[bV,hb2,cond_false,ih,List.contains_cons,hb,mJ]|some o=>simp only[bV,hb2,cond_false,ih,List.contains_cons,hb,mJ]
theorem L5(s:St):Sub s (Pp s):=fun S K w0 Kn φ gv nt a w h=>by
 refine⟨S,Kn,φ,gy.refl S w,⟨?_,fun t x hx=>?_,h.size,h.defers,h.fP,h.gh⟩⟩
 .have e:au (Pp s).heap=au s.heap:=funext fun i=>by have:=Ll (t:=i) s.heap [];simpa[au,Pp]using this
  rw[e];exact h.inv
 .have:=Qz (t:=t) s.cW [];rw[List.contains_nil,if_neg Bool.false_ne_true]at this;exact h.cW t x (this▸hx)
section
variable{P:Program}{bM:xp}{call:Call}
theorem Ho(hok:fg P call){Q:St->Prop}:∀(l:List ol)(s s':St),AM call l s=some s'->Q s'->WO P l s Q:=by
 intro l;induction l with
 |nil=>intro s s' h hq;obtain rfl:=aa h;exact .of hq
 |cons o l ih=>
  intro s s' h hq;simp only[AM]at h;refine⟨s,Sub.refl s,?_⟩;split at h
  .rename_i hw;split at h
   .rename_i v u av n he;exact .inl ⟨hw,call,v,u,av,n,hok,he,ih _ _ h hq⟩
   .cases h
  .rename_i hw;exact .inr ⟨hw,ih _ _ h hq⟩
  .cases h
end
end Go.Ev
