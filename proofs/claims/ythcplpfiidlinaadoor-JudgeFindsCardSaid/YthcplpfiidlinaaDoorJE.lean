/- Findings: the reference's ports, and all that its Check notes. Conditions: lengths as stated. -/
import Derived.Test.YthcplpfiidlinaaDoorJC
open Go.Ev Go
namespace Go.Proofs.YthcplpfiidlinaaDoor.J
def vF(r:aj)(s h:Nat)(m:ae):Bool:=bif m.1==(s:Int)then(bif m.2.1==(h:Int)then oO r m else false)else false
theorem vC{t:ah}{m:ae}:um t m=true<->(0<=m.1/\m.1<t.br)/\0<=m.2.1/\m.2.1<(t.bf.l.length:Int):=by unfold um;simp only[Bool.and_eq_true,decide_eq_true_eq];exact⟨fun⟨⟨⟨a,b⟩,c⟩,d⟩=>⟨⟨a,b⟩,c,d⟩,fun⟨⟨a,b⟩,c,d⟩=>⟨⟨⟨a,b⟩,c⟩,d⟩⟩
theorem EA{t:ah}{r:aj}{m:ae}(h:mh t r m=true):um t m=true/\oO r m=true:=by unfold mh at h;cases hB:um t m with|true=>rw[hB]at h;exact⟨rfl,h⟩|false=>rw[hB]at h;cases h
theorem Cb{r:aj}{s h:Nat}{m:ae}(hn:¬(m.1=(s:Int)/\m.2.1=(h:Int))):vF r s h m=false:=by
 unfold vF;by_cases h1:m.1=(s:Int)
 .have h2:¬m.2.1=(h:Int):=fun h2=>hn ⟨h1,h2⟩;rw[beq_false_of_ne h2];cases m.1==(s:Int)<;>rfl
 .rw [beq_false_of_ne h1];rfl
theorem zf{r:aj}{s h:Nat}{m:ae}(h1:m.1=(s:Int))(h2:m.2.1=(h:Int)):vF r s h m=oO r m:=by unfold vF;rw[h1,h2,beq_self_eq_true,beq_self_eq_true];rfl
theorem zg{r:aj}{s h:Nat}{m:ae}:vF r s h m=true<->(m.1=(s:Int)/\m.2.1=(h:Int))/\oO r m=true:=by
 by_cases hn:m.1=(s:Int)/\m.2.1=(h:Int)
 .rw [zf hn.1 hn.2];exact⟨fun x=>⟨hn,x⟩,fun x=>x.2⟩
 .rw [Cb hn];exact⟨fun x=>absurd x Bool.false_ne_true,fun x=>absurd x.1 hn⟩
section
variable{t:ah}{old now:Sl (Sl Int)}{p:bK}
theorem Oy{r:aj}{A:List (Sl Int)}{s h:Nat}{m:ae}(hs:s<A.length)(hA:(A.length:Int)=t.br)(hh:h<t.bf.l.length)(hr:(gt A s).l.length=t.bf.l.length):
  gt (gt (xz t r A m) s).l h=bif vF r s h m then m.2.2.1 else gt (gt A s).l h:=by
 by_cases hn:m.1=(s:Int)/\m.2.1=(h:Int)
 .have hB:um t m=true:=vC.2 ⟨⟨by omega,by omega⟩,by omega,by omega⟩;have e1:m.1.toNat=s:=by omega
  have e2:m.2.1.toNat=h:=by omega
  rw[zf hn.1 hn.2];unfold xz mh;rw[hB,cond_true,e1,e2];cases oO r m with|false=>rfl|true=>rw[cond_true,cond_true,jS,if_pos ⟨rfl,hs⟩,Sl.iP,jS,if_pos ⟨rfl,by omega⟩]
 .rw [Cb hn,cond_false];unfold xz;cases hd:mh t r m with
  |false=>rfl
  |true=>
   obtain⟨⟨b1,b2⟩,b3,b4⟩:=vC.1 (EA hd).1;rw[cond_true,jS];split
   .rename_i h1;rw[Sl.iP,jS,if_neg (by omega),h1.1]
   .rfl
theorem Pb{r:aj}{P:List (Sl Int)}{s h:Nat}{m:ae}(hs:s<P.length)(hA:(P.length:Int)=t.br)(hh:h<t.bf.l.length):
  (gt (wW t r h P m) s).l=bif vF r s h m then(gt P s).l++[m.2.2.1]else(gt P s).l:=by
 by_cases hn:m.1=(s:Int)/\m.2.1=(h:Int)
 .have hB:um t m=true:=vC.2 ⟨⟨by omega,by omega⟩,by omega,by omega⟩;have e1:m.1.toNat=s:=by omega
  rw[zf hn.1 hn.2];unfold wW mh;rw[hB,cond_true,e1,hn.2,beq_self_eq_true,cond_true];cases oO r m with|false=>rfl|true=>rw[cond_true,cond_true,jS,if_pos ⟨rfl,hs⟩,Sl.iP]
 .rw [Cb hn,cond_false];unfold wW;cases hq:m.2.1==(h:Int)with
  |false=>rfl
  |true=>rw[cond_true];cases hd:mh t r m with|false=>rfl|true=>obtain⟨⟨b1,b2⟩,b3,b4⟩:=vC.1 (EA hd).1;have h2:m.2.1=(h:Int):=eq_of_beq hq;rw[cond_true,jS,if_neg (by omega)]
theorem PN{α:Type}{s:Sl α}{l:List α}:(kR s l (s.l++l)).l=s.l++l:=by cases s with|nil=>cases l<;>rfl|mk a=>cases l<;>simp[kR]
end
end Go.Proofs.YthcplpfiidlinaaDoor.J
