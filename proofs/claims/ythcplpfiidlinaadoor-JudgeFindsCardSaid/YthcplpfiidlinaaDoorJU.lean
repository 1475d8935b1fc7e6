/- Findings: does a lY do a move, does some lY, what is noted. Conditions: lengths as stated. -/
import Derived.Test.YthcplpfiidlinaaDoorJN
open Go.Ev Go
open Option renaming bind_some->af
namespace Go.Proofs.YthcplpfiidlinaaDoor.J
def oK(r:aj)(m:ae):Bool:=bif m.2.2.2==r.1 then decide (m.1∈r.2.2.l)else false
theorem Ep{r:aj}{m:ae}(hb:r.2.2.l.length<9223372036854775808):kp r m=some (oK r m):=by have h:=me (s:=r.2.2) m.1 hb;have h:cN (aj.SQ r) (ae.Sw m)=_:=h;simp only[kp,h,af,oK];have e:((ae.vL m)==(aj.No r))=(m.2.2.2==r.1):=rfl;rw[e];cases(m.2.2.2==r.1)<;>rfl
theorem Eo{x:bv}{m:ae}(hb:(aK.fS (bv.p x)).l.length<9223372036854775808)(hr:∀r∈(aK.fS (bv.p x)).l,r.2.2.l.length<9223372036854775808):
  fc x m=some ((aK.fS (bv.p x)).l.any fun r=>oK r m):=by
 generalize hs:aK.fS (bv.p x)=s at hb hr
 have h1:=wX (f:=bg s m) (γ:=Unit) s.l (fun i r=>bif oK r m then some (i:Int)else none) () hb (fun i hi=>by
  have hm:gt s.l i∈s.l:=by rw[cQ hi];exact List.getElem_mem _
  have hd:=Ep (m:=m) (hr _ hm);simp only[bg,jt hi,cond_true,bp hi,af,iz,hd];cases oK (gt s.l i) m<;>rfl) (by simp only[bg,kL,cond_false])
 have key:∀(l:List aj)(k:Nat),(match lW (fun(i:Nat)r=>bif oK r m then some (i:Int)else none) l k with|some i=>decide (i>=0)|none=>decide ((-1:Int)>=0))=l.any fun r=>oK r m:=by
  intro l;induction l with
  |nil=>intro k;rfl
  |cons r l ih=>intro k;simp only[lW,List.any_cons];cases hc:oK r m with|true=>simp|false=>simpa using ih (k+1)
 simp only[fc,br,bD,hs,h1];have:=key s.l 0;revert this;cases lW (fun(i:Nat)r=>bif oK r m then some (i:Int)else none) s.l 0 with|none=>intro h;simp only[af]at h|-;rw[h]|some i=>intro h;simp only[af]at h|-;rw[h]
def qe(ed:Sl ao)(c:Bool)(kind k h:Int):Sl ao:=bif c then .mk (ed.l++[(kind,k,h)])else ed
theorem rA{ed:Sl ao}{c:Bool}{kind k h:Int}:(qe ed c kind k h).l=ed.l++(bif c then[(kind,k,h)]else[]):=by cases c<;>simp[qe]
theorem oA{t:ah}{old now:Sl (Sl Int)}{mv:Sl ae}{rd:Sl aj}{a b c d:Int}{ed:Sl ao}{is:Bool}{kind k h:Int}(hl:ed.l.length<2147483648):
  bG t old now mv rd a b c d ed is kind k h=some (t,old,now,mv,rd,a,b,c,d,qe ed is kind k h):=by
 cases is with|false=>rfl|true=>have hcap:iG (ed.l++[((kind,k,h):ao)])=some _:=ik (by rw[List.length_append,List.length_singleton];omega);simp only[bG,cond_true,hcap,af,qe]
end Go.Proofs.YthcplpfiidlinaaDoor.J
