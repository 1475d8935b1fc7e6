/- Findings: does a round do a move, does some round, what is noted. Conditions: lengths as stated. -/
import Derived.Test.YthcplpfiidlinaaDoorJN
open Go.Ev Go
open Option renaming bind_some->ae
namespace Go.Proofs.YthcplpfiidlinaaDoor.J
def mj(r:aj)(m:ah):Bool:=bif m.2.2.2==r.1 then decide (m.1∈r.2.2.l)else false
theorem Ei{r:aj}{m:ah}(hb:r.2.2.l.length<9223372036854775808):kj r m=some (mj r m):=by have h:=oD (s:=r.2.2) m.1 hb;have h:cZ (aj.Of r) (ah.Sw m)=_:=h;simp only[kj,h,ae,mj];have e:((ah.zU m)==(aj.No r))=(m.2.2.2==r.1):=rfl;rw[e];cases(m.2.2.2==r.1)<;>rfl
theorem Eh{x:bH}{m:ah}(hb:(bB.az (bH.p x)).l.length<9223372036854775808)(hr:∀r∈(bB.az (bH.p x)).l,r.2.2.l.length<9223372036854775808):
  eZ x m=some ((bB.az (bH.p x)).l.any fun r=>mj r m):=by
 generalize hs:bB.az (bH.p x)=s at hb hr
 have h1:=tn (f:=br s m) (γ:=Unit) s.l (fun i r=>bif mj r m then some (i:Int)else none) () hb (fun i hi=>by
  have hm:gt s.l i∈s.l:=by rw[dV hi];exact List.getElem_mem _
  have hd:=Ei (m:=m) (hr _ hm);simp only[br,fz hi,cond_true,bm hi,ae,iu,hd];cases mj (gt s.l i) m<;>rfl) (by simp only[br,gk,cond_false])
 have key:∀(l:List aj)(k:Nat),(match lP (fun(i:Nat)r=>bif mj r m then some (i:Int)else none) l k with|some i=>decide (i>=0)|none=>decide ((-1:Int)>=0))=l.any fun r=>mj r m:=by
  intro l;induction l with
  |nil=>intro k;rfl
  |cons r l ih=>intro k;simp only[lP,List.any_cons];cases hc:mj r m with|true=>simp|false=>simpa using ih (k+1)
 simp only[eZ,bF,bK,hs,h1];have:=key s.l 0;revert this;cases lP (fun(i:Nat)r=>bif mj r m then some (i:Int)else none) s.l 0 with|none=>intro h;simp only[ae]at h|-;rw[h]|some i=>intro h;simp only[ae]at h|-;rw[h]
def lk(cF:Sl ak)(c:Bool)(kind k h:Int):Sl ak:=bif c then .mk (cF.l++[(kind,k,h)])else cF
theorem mB{cF:Sl ak}{c:Bool}{kind k h:Int}:(lk cF c kind k h).l=cF.l++(bif c then[(kind,k,h)]else[]):=by cases c<;>simp[lk]
theorem oW{t:af}{old now:Sl (Sl Int)}{mv:Sl ah}{rd:Sl aj}{a b c d:Int}{cF:Sl ak}{is:Bool}{kind k h:Int}(hl:cF.l.length<2147483648):
  bP t old now mv rd a b c d cF is kind k h=some (t,old,now,mv,rd,a,b,c,d,lk cF is kind k h):=by
 cases is with|false=>rfl|true=>have hcap:fF (cF.l++[((kind,k,h):ak)])=some _:=fR (by rw[List.length_append,List.length_singleton];omega);simp only[bP,cond_true,hcap,ae,lk]
end Go.Proofs.YthcplpfiidlinaaDoor.J
