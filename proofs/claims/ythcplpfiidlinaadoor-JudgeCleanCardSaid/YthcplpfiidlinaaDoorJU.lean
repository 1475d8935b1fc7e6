/- Findings: does a lY do a move, does some lY, what is noted. Conditions: lengths as stated. -/
import Derived.Test.YthcplpfiidlinaaDoorJN
open Go.Ev Go
open Option renaming bind_some->af
namespace Go.Proofs.YthcplpfiidlinaaDoor.J
def oJ(r:aj)(m:ae):Bool:=bif m.2.2.2==r.1 then decide (m.1∈r.2.2.l)else false
theorem Eh{r:aj}{m:ae}(hb:r.2.2.l.length<9223372036854775808):ko r m=some (oJ r m):=by have h:=md (s:=r.2.2) m.1 hb;have h:cO (aj.RF r) (ae.Sw m)=_:=h;simp only[ko,h,af,oJ];have e:((ae.uj m)==(aj.No r))=(m.2.2.2==r.1):=rfl;rw[e];cases(m.2.2.2==r.1)<;>rfl
theorem Eg{x:bg}{m:ae}(hb:(aJ.eI (bg.p x)).l.length<9223372036854775808)(hr:∀r∈(aJ.eI (bg.p x)).l,r.2.2.l.length<9223372036854775808):
  eZ x m=some ((aJ.eI (bg.p x)).l.any fun r=>oJ r m):=by
 generalize hs:aJ.eI (bg.p x)=s at hb hr
 have h1:=wV (f:=bf s m) (γ:=Unit) s.l (fun i r=>bif oJ r m then some (i:Int)else none) () hb (fun i hi=>by
  have hm:gt s.l i∈s.l:=by rw[cR hi];exact List.getElem_mem _
  have hd:=Eh (m:=m) (hr _ hm);simp only[bf,jt hi,cond_true,bq hi,af,iz,hd];cases oJ (gt s.l i) m<;>rfl) (by simp only[bf,kK,cond_false])
 have key:∀(l:List aj)(k:Nat),(match lW (fun(i:Nat)r=>bif oJ r m then some (i:Int)else none) l k with|some i=>decide (i>=0)|none=>decide ((-1:Int)>=0))=l.any fun r=>oJ r m:=by
  intro l;induction l with
  |nil=>intro k;rfl
  |cons r l ih=>intro k;simp only[lW,List.any_cons];cases hc:oJ r m with|true=>simp|false=>simpa using ih (k+1)
 simp only[eZ,bt,bC,hs,h1];have:=key s.l 0;revert this;cases lW (fun(i:Nat)r=>bif oJ r m then some (i:Int)else none) s.l 0 with|none=>intro h;simp only[af]at h|-;rw[h]|some i=>intro h;simp only[af]at h|-;rw[h]
def qa(dY:Sl am)(c:Bool)(kind k h:Int):Sl am:=bif c then .mk (dY.l++[(kind,k,h)])else dY
theorem rt{dY:Sl am}{c:Bool}{kind k h:Int}:(qa dY c kind k h).l=dY.l++(bif c then[(kind,k,h)]else[]):=by cases c<;>simp[qa]
theorem oB{t:ah}{old now:Sl (Sl Int)}{mv:Sl ae}{rd:Sl aj}{a b c d:Int}{dY:Sl am}{is:Bool}{kind k h:Int}(hl:dY.l.length<2147483648):
  bF t old now mv rd a b c d dY is kind k h=some (t,old,now,mv,rd,a,b,c,d,qa dY is kind k h):=by
 cases is with|false=>rfl|true=>have hcap:iH (dY.l++[((kind,k,h):am)])=some _:=ik (by rw[List.length_append,List.length_singleton];omega);simp only[bF,cond_true,hcap,af,qa]
end Go.Proofs.YthcplpfiidlinaaDoor.J
