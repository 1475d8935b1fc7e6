/- Findings: does a round do a move, does some round, what is noted. Conditions: lengths as stated. -/
import Derived.Test.YthcplpfiidlinaaDoorJN
open Go.Ev Go
open Option renaming bind_some->ae
namespace Go.Proofs.YthcplpfiidlinaaDoor.J
def nH(r:aj)(m:af):Bool:=bif m.2.2.2==r.1 then decide (m.1∈r.2.2.l)else false
theorem CQ{r:aj}{m:af}(hb:r.2.2.l.length<9223372036854775808):jS r m=some (nH r m):=by have h:=m8 (s:=r.2.2) m.1 hb;have h:cL (aj.MS r) (af.Sw m)=_:=h;simp only[jS,h,ae,nH];have e:((af.yt m)==(aj.No r))=(m.2.2.2==r.1):=rfl;rw[e];cases(m.2.2.2==r.1)<;>rfl
theorem CP{x:bw}{m:af}(hb:(bn.bc (bw.p x)).l.length<9223372036854775808)(hr:∀r∈(bn.bc (bw.p x)).l,r.2.2.l.length<9223372036854775808):
  eT x m=some ((bn.bc (bw.p x)).l.any fun r=>nH r m):=by
 generalize hs:bn.bc (bw.p x)=s at hb hr
 have h1:=sQ (f:=bf s m) (γ:=Unit) s.l (fun i r=>bif nH r m then some (i:Int)else none) () hb (fun i hi=>by
  have hm:gt s.l i∈s.l:=by rw[eA hi];exact List.getElem_mem _
  have hd:=CQ (m:=m) (hr _ hm);simp only[bf,jm hi,cond_true,bI hi,ae,gX,hd];cases nH (gt s.l i) m<;>rfl) (by simp only[bf,j4,cond_false])
 have key:∀(l:List aj)(k:Nat),(match kw (fun(i:Nat)r=>bif nH r m then some (i:Int)else none) l k with|some i=>decide (i>=0)|none=>decide ((-1:Int)>=0))=l.any fun r=>nH r m:=by
  intro l;induction l with
  |nil=>intro k;rfl
  |cons r l ih=>intro k;simp only[kw,List.any_cons];cases hc:nH r m with|true=>simp|false=>simpa using ih (k+1)
 simp only[eT,bt,bC,hs,h1];have:=key s.l 0;revert this;cases kw (fun(i:Nat)r=>bif nH r m then some (i:Int)else none) s.l 0 with|none=>intro h;simp only[ae]at h|-;rw[h]|some i=>intro h;simp only[ae]at h|-;rw[h]
def py(dO:Sl ap)(c:Bool)(kind k h:Int):Sl ap:=bif c then .mk (dO.l++[(kind,k,h)])else dO
theorem qK{dO:Sl ap}{c:Bool}{kind k h:Int}:(py dO c kind k h).l=dO.l++(bif c then[(kind,k,h)]else[]):=by cases c<;>simp[py]
theorem nz{t:ah}{old now:Sl (Sl Int)}{mv:Sl af}{rd:Sl aj}{a b c d:Int}{dO:Sl ap}{is:Bool}{kind k h:Int}(hl:dO.l.length<2147483648):
  bG t old now mv rd a b c d dO is kind k h=some (t,old,now,mv,rd,a,b,c,d,py dO is kind k h):=by
 cases is with|false=>rfl|true=>have hcap:h_ (dO.l++[((kind,k,h):ap)])=some _:=js (by rw[List.length_append,List.length_singleton];omega);simp only[bG,cond_true,hcap,ae,py]
end Go.Proofs.YthcplpfiidlinaaDoor.J
