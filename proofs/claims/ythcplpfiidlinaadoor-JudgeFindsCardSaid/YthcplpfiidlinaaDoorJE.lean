/- Findings: the reference's ports, and all that its Check notes. Conditions: lengths as stated. -/
import Derived.Test.YthcplpfiidlinaaDoorJC
open Go.Ev Go
namespace Go.Proofs.YthcplpfiidlinaaDoor.J
def vn(r:aj)(s h:Nat)(m:ae):Bool:=bif m.1==(s:Int)then(bif m.2.1==(h:Int)then oF r m else false)else false
theorem vi{t:ah}{m:ae}:uN t m=true<->(0<=m.1/\m.1<t.bq)/\0<=m.2.1/\m.2.1<(t.bd.l.length:Int):=by unfold uN;simp only[Bool.and_eq_true,decide_eq_true_eq];exact⟨fun⟨⟨⟨a,b⟩,c⟩,d⟩=>⟨⟨a,b⟩,c,d⟩,fun⟨⟨a,b⟩,c,d⟩=>⟨⟨⟨a,b⟩,c⟩,d⟩⟩
theorem Eb{t:ah}{r:aj}{m:ae}(h:l5 t r m=true):uN t m=true/\oF r m=true:=by unfold l5 at h;cases hB:uN t m with|true=>rw[hB]at h;exact⟨rfl,h⟩|false=>rw[hB]at h;cases h
theorem BT{r:aj}{s h:Nat}{m:ae}(hn:¬(m.1=(s:Int)/\m.2.1=(h:Int))):vn r s h m=false:=by
 unfold vn;by_cases h1:m.1=(s:Int)
 .have h2:¬m.2.1=(h:Int):=fun h2=>hn ⟨h1,h2⟩;rw[beq_false_of_ne h2];cases m.1==(s:Int)<;>rfl
 .rw [beq_false_of_ne h1];rfl
theorem yQ{r:aj}{s h:Nat}{m:ae}(h1:m.1=(s:Int))(h2:m.2.1=(h:Int)):vn r s h m=oF r m:=by unfold vn;rw[h1,h2,beq_self_eq_true,beq_self_eq_true];rfl
theorem yR{r:aj}{s h:Nat}{m:ae}:vn r s h m=true<->(m.1=(s:Int)/\m.2.1=(h:Int))/\oF r m=true:=by
 by_cases hn:m.1=(s:Int)/\m.2.1=(h:Int)
 .rw [yQ hn.1 hn.2];exact⟨fun x=>⟨hn,x⟩,fun x=>x.2⟩
 .rw [BT hn];exact⟨fun x=>absurd x Bool.false_ne_true,fun x=>absurd x.1 hn⟩
section
variable{t:ah}{old now:Sl (Sl Int)}{p:dh}
theorem Og{r:aj}{A:List (Sl Int)}{s h:Nat}{m:ae}(hs:s<A.length)(hA:(A.length:Int)=t.bq)(hh:h<t.bd.l.length)(hr:(gt A s).l.length=t.bd.l.length):
  gt (gt (xg t r A m) s).l h=bif vn r s h m then m.2.2.1 else gt (gt A s).l h:=by
 by_cases hn:m.1=(s:Int)/\m.2.1=(h:Int)
 .have hB:uN t m=true:=vi.2 ⟨⟨by omega,by omega⟩,by omega,by omega⟩;have e1:m.1.toNat=s:=by omega
  have e2:m.2.1.toNat=h:=by omega
  rw[yQ hn.1 hn.2];unfold xg l5;rw[hB,cond_true,e1,e2];cases oF r m with|false=>rfl|true=>rw[cond_true,cond_true,jM,if_pos ⟨rfl,hs⟩,Sl.iM,jM,if_pos ⟨rfl,by omega⟩]
 .rw [BT hn,cond_false];unfold xg;cases hd:l5 t r m with
  |false=>rfl
  |true=>
   obtain⟨⟨b1,b2⟩,b3,b4⟩:=vi.1 (Eb hd).1;rw[cond_true,jM];split
   .rename_i h1;rw[Sl.iM,jM,if_neg (by omega),h1.1]
   .rfl
theorem OY{r:aj}{P:List (Sl Int)}{s h:Nat}{m:ae}(hs:s<P.length)(hA:(P.length:Int)=t.bq)(hh:h<t.bd.l.length):
  (gt (wJ t r h P m) s).l=bif vn r s h m then(gt P s).l++[m.2.2.1]else(gt P s).l:=by
 by_cases hn:m.1=(s:Int)/\m.2.1=(h:Int)
 .have hB:uN t m=true:=vi.2 ⟨⟨by omega,by omega⟩,by omega,by omega⟩;have e1:m.1.toNat=s:=by omega
  rw[yQ hn.1 hn.2];unfold wJ l5;rw[hB,cond_true,e1,hn.2,beq_self_eq_true,cond_true];cases oF r m with|false=>rfl|true=>rw[cond_true,cond_true,jM,if_pos ⟨rfl,hs⟩,Sl.iM]
 .rw [BT hn,cond_false];unfold wJ;cases hq:m.2.1==(h:Int)with
  |false=>rfl
  |true=>rw[cond_true];cases hd:l5 t r m with|false=>rfl|true=>obtain⟨⟨b1,b2⟩,b3,b4⟩:=vi.1 (Eb hd).1;have h2:m.2.1=(h:Int):=eq_of_beq hq;rw[cond_true,jM,if_neg (by omega)]
theorem Py{α:Type}{s:Sl α}{l:List α}:(kL s l (s.l++l)).l=s.l++l:=by cases s with|nil=>cases l<;>rfl|mk a=>cases l<;>simp[kL]
end
end Go.Proofs.YthcplpfiidlinaaDoor.J
