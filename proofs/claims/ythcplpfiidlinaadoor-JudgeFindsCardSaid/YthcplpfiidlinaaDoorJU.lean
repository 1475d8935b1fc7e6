/- Findings: does a lV do a move, does some lV, what is noted. Conditions: lengths as stated. -/
import Derived.Test.YthcplpfiidlinaaDoorJN
open Go.Ev Go
open Option renaming bind_some->af
namespace Go.Proofs.YthcplpfiidlinaaDoor.J
def oF(r:aj)(m:ae):Bool:=bif m.2.2.2==r.1 then decide (m.1∈r.2.2.l)else false
theorem Ea{r:aj}{m:ae}(hb:r.2.2.l.length<9223372036854775808):ki r m=some (oF r m):=by have h:=l_ (s:=r.2.2) m.1 hb;have h:cN (aj.SC r) (ae.Sw m)=_:=h;simp only[ki,h,af,oF];have e:((ae.vC m)==(aj.No r))=(m.2.2.2==r.1):=rfl;rw[e];cases(m.2.2.2==r.1)<;>rfl
theorem D_{x:bv}{m:ae}(hb:(aJ.fo (bv.p x)).l.length<9223372036854775808)(hr:∀r∈(aJ.fo (bv.p x)).l,r.2.2.l.length<9223372036854775808):
  eW x m=some ((aJ.fo (bv.p x)).l.any fun r=>oF r m):=by
 generalize hs:aJ.fo (bv.p x)=s at hb hr
 have h1:=wP (f:=bf s m) (γ:=Unit) s.l (fun i r=>bif oF r m then some (i:Int)else none) () hb (fun i hi=>by
  have hm:gt s.l i∈s.l:=by rw[cP hi];exact List.getElem_mem _
  have hd:=Ea (m:=m) (hr _ hm);simp only[bf,js hi,cond_true,bp hi,af,iv,hd];cases oF (gt s.l i) m<;>rfl) (by simp only[bf,kH,cond_false])
 have key:∀(l:List aj)(k:Nat),(match lT (fun(i:Nat)r=>bif oF r m then some (i:Int)else none) l k with|some i=>decide (i>=0)|none=>decide ((-1:Int)>=0))=l.any fun r=>oF r m:=by
  intro l;induction l with
  |nil=>intro k;rfl
  |cons r l ih=>intro k;simp only[lT,List.any_cons];cases hc:oF r m with|true=>simp|false=>simpa using ih (k+1)
 simp only[eW,br,bC,hs,h1];have:=key s.l 0;revert this;cases lT (fun(i:Nat)r=>bif oF r m then some (i:Int)else none) s.l 0 with|none=>intro h;simp only[af]at h|-;rw[h]|some i=>intro h;simp only[af]at h|-;rw[h]
def p8(dV:Sl am)(c:Bool)(kind k h:Int):Sl am:=bif c then .mk (dV.l++[(kind,k,h)])else dV
theorem rm{dV:Sl am}{c:Bool}{kind k h:Int}:(p8 dV c kind k h).l=dV.l++(bif c then[(kind,k,h)]else[]):=by cases c<;>simp[p8]
theorem ot{t:ah}{old now:Sl (Sl Int)}{mv:Sl ae}{rd:Sl aj}{a b c d:Int}{dV:Sl am}{is:Bool}{kind k h:Int}(hl:dV.l.length<2147483648):
  bF t old now mv rd a b c d dV is kind k h=some (t,old,now,mv,rd,a,b,c,d,p8 dV is kind k h):=by
 cases is with|false=>rfl|true=>have hcap:iF (dV.l++[((kind,k,h):am)])=some _:=ij (by rw[List.length_append,List.length_singleton];omega);simp only[bF,cond_true,hcap,af,p8]
end Go.Proofs.YthcplpfiidlinaaDoor.J
