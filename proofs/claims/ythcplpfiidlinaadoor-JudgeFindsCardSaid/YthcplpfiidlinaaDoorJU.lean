/- Findings: does a round do a move, does some round, what is noted. Conditions: lengths as stated. -/
import Derived.Test.YthcplpfiidlinaaDoorJN
open Option renaming bind_some->af
open Go.Ev Go
namespace Go.Proofs.YthcplpfiidlinaaDoor.J
def oO(r:aj)(m:ae):Bool:=bif m.2.2.2==r.1 then decide (m.1∈r.2.2.l)else false
theorem Ez{r:aj}{m:ae}(hb:r.2.2.l.length<9223372036854775808):kr r m=some (oO r m):=by have h:=mi (s:=r.2.2) m.1 hb;have h:cO (aj.RW r) (ae.Sw m)=_:=h;simp only[kr,h,af,oO];have e:((ae.uv m)==(aj.No r))=(m.2.2.2==r.1):=rfl;rw[e];cases(m.2.2.2==r.1)<;>rfl
theorem Ey{x:bh}{m:ae}(hb:(aK.eN (bh.p x)).l.length<9223372036854775808)(hr:∀r∈(aK.eN (bh.p x)).l,r.2.2.l.length<9223372036854775808):
  fh x m=some ((aK.eN (bh.p x)).l.any fun r=>oO r m):=by
 generalize hs:aK.eN (bh.p x)=s at hb hr
 have h1:=w8 (f:=bg s m) (γ:=Unit) s.l (fun i r=>bif oO r m then some (i:Int)else none) () hb (fun i hi=>by
  have hm:gt s.l i∈s.l:=by rw[cR hi];exact List.getElem_mem _
  have hd:=Ez (m:=m) (hr _ hm);simp only[bg,jw hi,cond_true,bq hi,af,iB,hd];cases oO (gt s.l i) m<;>rfl) (by simp only[bg,kO,cond_false])
 have key:∀(l:List aj)(k:Nat),(match lZ (fun(i:Nat)r=>bif oO r m then some (i:Int)else none) l k with|some i=>decide (i>=0)|none=>decide ((-1:Int)>=0))=l.any fun r=>oO r m:=by
  intro l;induction l with
  |nil=>intro k;rfl
  |cons r l ih=>intro k;simp only[lZ,List.any_cons];cases hc:oO r m with|true=>simp|false=>simpa using ih (k+1)
 simp only[fh,bt,bD,hs,h1];have:=key s.l 0;revert this;cases lZ (fun(i:Nat)r=>bif oO r m then some (i:Int)else none) s.l 0 with|none=>intro h;simp only[af]at h|-;rw[h]|some i=>intro h;simp only[af]at h|-;rw[h]
def qh(eg:Sl am)(c:Bool)(kind k h:Int):Sl am:=bif c then .mk (eg.l++[(kind,k,h)])else eg
theorem rE{eg:Sl am}{c:Bool}{kind k h:Int}:(qh eg c kind k h).l=eg.l++(bif c then[(kind,k,h)]else[]):=by cases c<;>simp[qh]
theorem oG{t:ah}{old now:Sl (Sl Int)}{mv:Sl ae}{rd:Sl aj}{a b c d:Int}{eg:Sl am}{is:Bool}{kind k h:Int}(hl:eg.l.length<2147483648):
  bG t old now mv rd a b c d eg is kind k h=some (t,old,now,mv,rd,a,b,c,d,qh eg is kind k h):=by
 cases is with|false=>rfl|true=>have hcap:iI (eg.l++[((kind,k,h):am)])=some _:=il (by rw[List.length_append,List.length_singleton];omega);simp only[bG,cond_true,hcap,af,qh]
end Go.Proofs.YthcplpfiidlinaaDoor.J
