/- Findings: the reference's ports, and all that its Check notes. Conditions: lengths as stated. -/
import Derived.Test.YthcplpfiidlinaaDoorJC
open Go.Ev Go
namespace Go.Proofs.YthcplpfiidlinaaDoor.J
def vA(r:aj)(s h:Nat)(m:ae):Bool:=bif m.1==(s:Int)then(bif m.2.1==(h:Int)then oK r m else false)else false
theorem vx{t:ah}{m:ae}:ui t m=true<->(0<=m.1/\m.1<t.bq)/\0<=m.2.1/\m.2.1<(t.bf.l.length:Int):=by unfold ui;simp only[Bool.and_eq_true,decide_eq_true_eq];exact⟨fun⟨⟨⟨a,b⟩,c⟩,d⟩=>⟨⟨a,b⟩,c,d⟩,fun⟨⟨a,b⟩,c,d⟩=>⟨⟨⟨a,b⟩,c⟩,d⟩⟩
theorem Er{t:ah}{r:aj}{m:ae}(h:md t r m=true):ui t m=true/\oK r m=true:=by unfold md at h;cases hB:ui t m with|true=>rw[hB]at h;exact⟨rfl,h⟩|false=>rw[hB]at h;cases h
theorem B2{r:aj}{s h:Nat}{m:ae}(hn:¬(m.1=(s:Int)/\m.2.1=(h:Int))):vA r s h m=false:=by
 unfold vA;by_cases h1:m.1=(s:Int)
 .have h2:¬m.2.1=(h:Int):=fun h2=>hn ⟨h1,h2⟩;rw[beq_false_of_ne h2];cases m.1==(s:Int)<;>rfl
 .rw [beq_false_of_ne h1];rfl
theorem y_{r:aj}{s h:Nat}{m:ae}(h1:m.1=(s:Int))(h2:m.2.1=(h:Int)):vA r s h m=oK r m:=by unfold vA;rw[h1,h2,beq_self_eq_true,beq_self_eq_true];rfl
theorem za{r:aj}{s h:Nat}{m:ae}:vA r s h m=true<->(m.1=(s:Int)/\m.2.1=(h:Int))/\oK r m=true:=by
 by_cases hn:m.1=(s:Int)/\m.2.1=(h:Int)
 .rw [y_ hn.1 hn.2];exact⟨fun x=>⟨hn,x⟩,fun x=>x.2⟩
 .rw [B2 hn];exact⟨fun x=>absurd x Bool.false_ne_true,fun x=>absurd x.1 hn⟩
section
variable{t:ah}{old now:Sl (Sl Int)}{p:dv}
theorem Ov{r:aj}{A:List (Sl Int)}{s h:Nat}{m:ae}(hs:s<A.length)(hA:(A.length:Int)=t.bq)(hh:h<t.bf.l.length)(hr:(gt A s).l.length=t.bf.l.length):
  gt (gt (xq t r A m) s).l h=bif vA r s h m then m.2.2.1 else gt (gt A s).l h:=by
 by_cases hn:m.1=(s:Int)/\m.2.1=(h:Int)
 .have hB:ui t m=true:=vx.2 ⟨⟨by omega,by omega⟩,by omega,by omega⟩;have e1:m.1.toNat=s:=by omega
  have e2:m.2.1.toNat=h:=by omega
  rw[y_ hn.1 hn.2];unfold xq md;rw[hB,cond_true,e1,e2];cases oK r m with|false=>rfl|true=>rw[cond_true,cond_true,jR,if_pos ⟨rfl,hs⟩,Sl.iN,jR,if_pos ⟨rfl,by omega⟩]
 .rw [B2 hn,cond_false];unfold xq;cases hd:md t r m with
  |false=>rfl
  |true=>
   obtain⟨⟨b1,b2⟩,b3,b4⟩:=vx.1 (Er hd).1;rw[cond_true,jR];split
   .rename_i h1;rw[Sl.iN,jR,if_neg (by omega),h1.1]
   .rfl
theorem O9{r:aj}{P:List (Sl Int)}{s h:Nat}{m:ae}(hs:s<P.length)(hA:(P.length:Int)=t.bq)(hh:h<t.bf.l.length):
  (gt (wR t r h P m) s).l=bif vA r s h m then(gt P s).l++[m.2.2.1]else(gt P s).l:=by
 by_cases hn:m.1=(s:Int)/\m.2.1=(h:Int)
 .have hB:ui t m=true:=vx.2 ⟨⟨by omega,by omega⟩,by omega,by omega⟩;have e1:m.1.toNat=s:=by omega
  rw[y_ hn.1 hn.2];unfold wR md;rw[hB,cond_true,e1,hn.2,beq_self_eq_true,cond_true];cases oK r m with|false=>rfl|true=>rw[cond_true,cond_true,jR,if_pos ⟨rfl,hs⟩,Sl.iN]
 .rw [B2 hn,cond_false];unfold wR;cases hq:m.2.1==(h:Int)with
  |false=>rfl
  |true=>rw[cond_true];cases hd:md t r m with|false=>rfl|true=>obtain⟨⟨b1,b2⟩,b3,b4⟩:=vx.1 (Er hd).1;have h2:m.2.1=(h:Int):=eq_of_beq hq;rw[cond_true,jR,if_neg (by omega)]
theorem PL{α:Type}{s:Sl α}{l:List α}:(kO s l (s.l++l)).l=s.l++l:=by cases s with|nil=>cases l<;>rfl|mk a=>cases l<;>simp[kO]
end
end Go.Proofs.YthcplpfiidlinaaDoor.J
