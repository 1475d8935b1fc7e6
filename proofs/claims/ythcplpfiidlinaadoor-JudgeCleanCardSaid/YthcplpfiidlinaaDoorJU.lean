/- Findings: does a lS do a move, does some lS, what is noted. Conditions: lengths as stated. -/
import Derived.Test.YthcplpfiidlinaaDoorJN
open Go.Ev Go
open Option renaming bind_some->af
namespace Go.Proofs.YthcplpfiidlinaaDoor.J
def oB(r:aj)(m:ae):Bool:=bif m.2.2.2==r.1 then decide (m.1∈r.2.2.l)else false
theorem D8{r:aj}{m:ae}(hb:r.2.2.l.length<9223372036854775808):kh r m=some (oB r m):=by have h:=lY (s:=r.2.2) m.1 hb;have h:cL (aj.UI r) (ae.Sw m)=_:=h;simp only[kh,h,af,oB];have e:((ae.vD m)==(aj.No r))=(m.2.2.2==r.1):=rfl;rw[e];cases(m.2.2.2==r.1)<;>rfl
theorem D7{x:bt}{m:ae}(hb:(bh.gO (bt.p x)).l.length<9223372036854775808)(hr:∀r∈(bh.gO (bt.p x)).l,r.2.2.l.length<9223372036854775808):
  eY x m=some ((bh.gO (bt.p x)).l.any fun r=>oB r m):=by
 generalize hs:bh.gO (bt.p x)=s at hb hr
 have h1:=wP (f:=bd s m) (γ:=Unit) s.l (fun i r=>bif oB r m then some (i:Int)else none) () hb (fun i hi=>by
  have hm:gt s.l i∈s.l:=by rw[cY hi];exact List.getElem_mem _
  have hd:=D8 (m:=m) (hr _ hm);simp only[bd,jo hi,cond_true,bA hi,af,iu,hd];cases oB (gt s.l i) m<;>rfl) (by simp only[bd,kG,cond_false])
 have key:∀(l:List aj)(k:Nat),(match lQ (fun(i:Nat)r=>bif oB r m then some (i:Int)else none) l k with|some i=>decide (i>=0)|none=>decide ((-1:Int)>=0))=l.any fun r=>oB r m:=by
  intro l;induction l with
  |nil=>intro k;rfl
  |cons r l ih=>intro k;simp only[lQ,List.any_cons];cases hc:oB r m with|true=>simp|false=>simpa using ih (k+1)
 simp only[eY,bp,bD,hs,h1];have:=key s.l 0;revert this;cases lQ (fun(i:Nat)r=>bif oB r m then some (i:Int)else none) s.l 0 with|none=>intro h;simp only[af]at h|-;rw[h]|some i=>intro h;simp only[af]at h|-;rw[h]
def pY(dX:Sl aq)(c:Bool)(kind k h:Int):Sl aq:=bif c then .mk (dX.l++[(kind,k,h)])else dX
theorem rm{dX:Sl aq}{c:Bool}{kind k h:Int}:(pY dX c kind k h).l=dX.l++(bif c then[(kind,k,h)]else[]):=by cases c<;>simp[pY]
theorem og{t:ah}{old now:Sl (Sl Int)}{mv:Sl ae}{rd:Sl aj}{a b c d:Int}{dX:Sl aq}{is:Bool}{kind k h:Int}(hl:dX.l.length<2147483648):
  bG t old now mv rd a b c d dX is kind k h=some (t,old,now,mv,rd,a,b,c,d,pY dX is kind k h):=by
 cases is with|false=>rfl|true=>have hcap:jF (dX.l++[((kind,k,h):aq)])=some _:=jq (by rw[List.length_append,List.length_singleton];omega);simp only[bG,cond_true,hcap,af,pY]
end Go.Proofs.YthcplpfiidlinaaDoor.J
