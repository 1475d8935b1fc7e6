/- Findings: the reference's ports, and all that its Check notes. Conditions: lengths as stated. -/
import Derived.Test.YthcplpfiidlinaaDoorJC
open Go.Ev Go
namespace Go.Proofs.YthcplpfiidlinaaDoor.J
def vu(r:aj)(s h:Nat)(m:ae):Bool:=bif m.1==(s:Int)then(bif m.2.1==(h:Int)then oJ r m else false)else false
theorem vp{t:ah}{m:ae}:ud t m=true<->(0<=m.1/\m.1<t.br)/\0<=m.2.1/\m.2.1<(t.bd.l.length:Int):=by unfold ud;simp only[Bool.and_eq_true,decide_eq_true_eq];exact⟨fun⟨⟨⟨a,b⟩,c⟩,d⟩=>⟨⟨a,b⟩,c,d⟩,fun⟨⟨a,b⟩,c,d⟩=>⟨⟨⟨a,b⟩,c⟩,d⟩⟩
theorem Ei{t:ah}{r:aj}{m:ae}(h:mb t r m=true):ud t m=true/\oJ r m=true:=by unfold mb at h;cases hB:ud t m with|true=>rw[hB]at h;exact⟨rfl,h⟩|false=>rw[hB]at h;cases h
theorem B4{r:aj}{s h:Nat}{m:ae}(hn:¬(m.1=(s:Int)/\m.2.1=(h:Int))):vu r s h m=false:=by
 unfold vu;by_cases h1:m.1=(s:Int)
 .have h2:¬m.2.1=(h:Int):=fun h2=>hn ⟨h1,h2⟩;rw[beq_false_of_ne h2];cases m.1==(s:Int)<;>rfl
 .rw [beq_false_of_ne h1];rfl
theorem yW{r:aj}{s h:Nat}{m:ae}(h1:m.1=(s:Int))(h2:m.2.1=(h:Int)):vu r s h m=oJ r m:=by unfold vu;rw[h1,h2,beq_self_eq_true,beq_self_eq_true];rfl
theorem yX{r:aj}{s h:Nat}{m:ae}:vu r s h m=true<->(m.1=(s:Int)/\m.2.1=(h:Int))/\oJ r m=true:=by
 by_cases hn:m.1=(s:Int)/\m.2.1=(h:Int)
 .rw [yW hn.1 hn.2];exact⟨fun x=>⟨hn,x⟩,fun x=>x.2⟩
 .rw [B4 hn];exact⟨fun x=>absurd x Bool.false_ne_true,fun x=>absurd x.1 hn⟩
section
variable{t:ah}{old now:Sl (Sl Int)}{p:bI}
theorem Oi{r:aj}{A:List (Sl Int)}{s h:Nat}{m:ae}(hs:s<A.length)(hA:(A.length:Int)=t.br)(hh:h<t.bd.l.length)(hr:(gt A s).l.length=t.bd.l.length):
  gt (gt (xo t r A m) s).l h=bif vu r s h m then m.2.2.1 else gt (gt A s).l h:=by
 by_cases hn:m.1=(s:Int)/\m.2.1=(h:Int)
 .have hB:ud t m=true:=vp.2 ⟨⟨by omega,by omega⟩,by omega,by omega⟩;have e1:m.1.toNat=s:=by omega
  have e2:m.2.1.toNat=h:=by omega
  rw[yW hn.1 hn.2];unfold xo mb;rw[hB,cond_true,e1,e2];cases oJ r m with|false=>rfl|true=>rw[cond_true,cond_true,jP,if_pos ⟨rfl,hs⟩,Sl.iO,jP,if_pos ⟨rfl,by omega⟩]
 .rw [B4 hn,cond_false];unfold xo;cases hd:mb t r m with
  |false=>rfl
  |true=>
   obtain⟨⟨b1,b2⟩,b3,b4⟩:=vp.1 (Ei hd).1;rw[cond_true,jP];split
   .rename_i h1;rw[Sl.iO,jP,if_neg (by omega),h1.1]
   .rfl
theorem O0{r:aj}{P:List (Sl Int)}{s h:Nat}{m:ae}(hs:s<P.length)(hA:(P.length:Int)=t.br)(hh:h<t.bd.l.length):
  (gt (wP t r h P m) s).l=bif vu r s h m then(gt P s).l++[m.2.2.1]else(gt P s).l:=by
 by_cases hn:m.1=(s:Int)/\m.2.1=(h:Int)
 .have hB:ud t m=true:=vp.2 ⟨⟨by omega,by omega⟩,by omega,by omega⟩;have e1:m.1.toNat=s:=by omega
  rw[yW hn.1 hn.2];unfold wP mb;rw[hB,cond_true,e1,hn.2,beq_self_eq_true,cond_true];cases oJ r m with|false=>rfl|true=>rw[cond_true,cond_true,jP,if_pos ⟨rfl,hs⟩,Sl.iO]
 .rw [B4 hn,cond_false];unfold wP;cases hq:m.2.1==(h:Int)with
  |false=>rfl
  |true=>rw[cond_true];cases hd:mb t r m with|false=>rfl|true=>obtain⟨⟨b1,b2⟩,b3,b4⟩:=vp.1 (Ei hd).1;have h2:m.2.1=(h:Int):=eq_of_beq hq;rw[cond_true,jP,if_neg (by omega)]
theorem PB{α:Type}{s:Sl α}{l:List α}:(kO s l (s.l++l)).l=s.l++l:=by cases s with|nil=>cases l<;>rfl|mk a=>cases l<;>simp[kO]
end
end Go.Proofs.YthcplpfiidlinaaDoor.J
