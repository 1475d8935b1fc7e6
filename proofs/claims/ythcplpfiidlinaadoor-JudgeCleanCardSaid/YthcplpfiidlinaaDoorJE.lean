/- Findings: the reference's ports, and all that its Check notes. Conditions: lengths as stated. -/
import Derived.Test.YthcplpfiidlinaaDoorJC
open Go.Ev Go
namespace Go.Proofs.YthcplpfiidlinaaDoor.J
def vq(r:aj)(s h:Nat)(m:ae):Bool:=bif m.1==(s:Int)then(bif m.2.1==(h:Int)then oB r m else false)else false
theorem vn{t:ah}{m:ae}:ua t m=true<->(0<=m.1/\m.1<t.bo)/\0<=m.2.1/\m.2.1<(t.bf.l.length:Int):=by unfold ua;simp only[Bool.and_eq_true,decide_eq_true_eq];exact⟨fun⟨⟨⟨a,b⟩,c⟩,d⟩=>⟨⟨a,b⟩,c,d⟩,fun⟨⟨a,b⟩,c,d⟩=>⟨⟨⟨a,b⟩,c⟩,d⟩⟩
theorem D9{t:ah}{r:aj}{m:ae}(h:lX t r m=true):ua t m=true/\oB r m=true:=by unfold lX at h;cases hB:ua t m with|true=>rw[hB]at h;exact⟨rfl,h⟩|false=>rw[hB]at h;cases h
theorem BR{r:aj}{s h:Nat}{m:ae}(hn:¬(m.1=(s:Int)/\m.2.1=(h:Int))):vq r s h m=false:=by
 unfold vq;by_cases h1:m.1=(s:Int)
 .have h2:¬m.2.1=(h:Int):=fun h2=>hn ⟨h1,h2⟩;rw[beq_false_of_ne h2];cases m.1==(s:Int)<;>rfl
 .rw [beq_false_of_ne h1];rfl
theorem yT{r:aj}{s h:Nat}{m:ae}(h1:m.1=(s:Int))(h2:m.2.1=(h:Int)):vq r s h m=oB r m:=by unfold vq;rw[h1,h2,beq_self_eq_true,beq_self_eq_true];rfl
theorem yU{r:aj}{s h:Nat}{m:ae}:vq r s h m=true<->(m.1=(s:Int)/\m.2.1=(h:Int))/\oB r m=true:=by
 by_cases hn:m.1=(s:Int)/\m.2.1=(h:Int)
 .rw [yT hn.1 hn.2];exact⟨fun x=>⟨hn,x⟩,fun x=>x.2⟩
 .rw [BR hn];exact⟨fun x=>absurd x Bool.false_ne_true,fun x=>absurd x.1 hn⟩
section
variable{t:ah}{old now:Sl (Sl Int)}{p:dq}
theorem N8{r:aj}{A:List (Sl Int)}{s h:Nat}{m:ae}(hs:s<A.length)(hA:(A.length:Int)=t.bo)(hh:h<t.bf.l.length)(hr:(gt A s).l.length=t.bf.l.length):
  gt (gt (xg t r A m) s).l h=bif vq r s h m then m.2.2.1 else gt (gt A s).l h:=by
 by_cases hn:m.1=(s:Int)/\m.2.1=(h:Int)
 .have hB:ua t m=true:=vn.2 ⟨⟨by omega,by omega⟩,by omega,by omega⟩;have e1:m.1.toNat=s:=by omega
  have e2:m.2.1.toNat=h:=by omega
  rw[yT hn.1 hn.2];unfold xg lX;rw[hB,cond_true,e1,e2];cases oB r m with|false=>rfl|true=>rw[cond_true,cond_true,nO,if_pos ⟨rfl,hs⟩,Sl.iZ,nO,if_pos ⟨rfl,by omega⟩]
 .rw [BR hn,cond_false];unfold xg;cases hd:lX t r m with
  |false=>rfl
  |true=>
   obtain⟨⟨b1,b2⟩,b3,b4⟩:=vn.1 (D9 hd).1;rw[cond_true,nO];split
   .rename_i h1;rw[Sl.iZ,nO,if_neg (by omega),h1.1]
   .rfl
theorem OR{r:aj}{P:List (Sl Int)}{s h:Nat}{m:ae}(hs:s<P.length)(hA:(P.length:Int)=t.bo)(hh:h<t.bf.l.length):
  (gt (wJ t r h P m) s).l=bif vq r s h m then(gt P s).l++[m.2.2.1]else(gt P s).l:=by
 by_cases hn:m.1=(s:Int)/\m.2.1=(h:Int)
 .have hB:ua t m=true:=vn.2 ⟨⟨by omega,by omega⟩,by omega,by omega⟩;have e1:m.1.toNat=s:=by omega
  rw[yT hn.1 hn.2];unfold wJ lX;rw[hB,cond_true,e1,hn.2,beq_self_eq_true,cond_true];cases oB r m with|false=>rfl|true=>rw[cond_true,cond_true,nO,if_pos ⟨rfl,hs⟩,Sl.iZ]
 .rw [BR hn,cond_false];unfold wJ;cases hq:m.2.1==(h:Int)with
  |false=>rfl
  |true=>rw[cond_true];cases hd:lX t r m with|false=>rfl|true=>obtain⟨⟨b1,b2⟩,b3,b4⟩:=vn.1 (D9 hd).1;have h2:m.2.1=(h:Int):=eq_of_beq hq;rw[cond_true,nO,if_neg (by omega)]
end
end Go.Proofs.YthcplpfiidlinaaDoor.J
