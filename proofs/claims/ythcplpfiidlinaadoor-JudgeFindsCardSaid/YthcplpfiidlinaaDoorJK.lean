/- Findings: the jk, one behind the Pc. Conditions: lengths as stated. -/
import Derived.Test.YthcplpfiidlinaaDoorJH
open Go.Ev Go
open Bool renaming and_eq_true->ai
open List renaming drop_eq_getElem_cons->dG,drop_length->fJ,length_append->av,length_set->dL,length_singleton->bp,range->aK
open Nat renaming le_succ->bO
open Option renaming bind_some->af
namespace Go.Proofs.YthcplpfiidlinaaDoor.J
theorem jP{α:Type}[Inhabited α]{l:List α}{i j:Nat}{x:α}:gt (l.set i x) j=if i=j/\j<l.length then x else gt l j:=by
 simp only[gt,List.getD,List.getElem?_set];by_cases h:i=j
 .subst h;by_cases hl:i<l.length
  .simp [hl]
  .simp [hl]
 .simp [h]
theorem P0{α:Type}[Inhabited α]{l:List α}{i:Nat}(h:i<l.length):l.set i (gt l i)=l:=by rw[cR h];exact List.set_getElem_self h
theorem LR{α:Type}[Inhabited α]{a b:List α}(hl:a.length=b.length)(h:∀i,i<b.length->gt a i=gt b i):a=b:=by refine List.ext_getElem hl fun i h1 h2=>?_;have:=h i h2;rwa[cR h1,cR h2]at this
theorem JE{s:Sl Int}(hb:s.l.length<=2147483648):jr s=some s:=by unfold jr;cases s with|nil=>rfl|mk l=>have hb:l.length<=2147483648:=hb;simp only[Sl.fQ,cond_false,Sl.iO,List.nil_append,ik hb,af];cases l<;>rfl
theorem Db{A:List (Sl Int)}{h:Nat}(hrow:∀s,s<A.length->h<(gt A s).l.length)(hn:A.length<=1000000):
  ∀(n i:Nat)(S:List (Sl Int)),i+n=A.length->S.length=A.length->(∀j,j<i->gt S j=.mk [gt (gt A j).l h])->bD (fD (h:Int) (.mk A)) ((i:Int),.mk A,.mk S)=some (.mk A,.mk ((aK A.length).map fun s=>Sl.mk [gt (gt A s).l h])):=by
 intro n;induction n with
 |zero=>
  intro i S hi hS hj;obtain rfl:i=A.length:=by omega
  have e:S=(aK A.length).map fun s=>Sl.mk [gt (gt A s).l h]:=LR (by simpa using hS) fun j hj2=>by
   have hj3:j<A.length:=by simpa using hj2
   rw[hj j hj3,cR hj2];simp
  rw[<-e];have hlt:decide ((A.length:Int)<((Sl.mk A).l.length:Int))=false:=kK;exact cB (by simp only[fD,hlt,cond_false])
 |succ n ih=>
  intro i S hi hS hj;have hil:i<A.length:=by omega
  refine(dl ?_).trans (ih (i+1) (S.set i (.mk [gt (gt A i).l h])) (by omega) (by rw[dL];exact hS) fun j hj2=>?_)
  .have hlt:decide ((i:Int)<((Sl.mk A).l.length:Int))=true:=jt hil;simp only[fD,hlt,cond_true];simp only[Sl.iO,bq hil,af,bq (hrow i hil),bq (show i<S.length by omega),P0 hil,k9 (show i<9223372036854775807 by omega)]
  .rw [jP];split
   .rename_i hc;rw[hc.1]
   .rename_i hc;exact hj j (by omega)
def mb(t:ah)(r:aj)(m:ae):Bool:=bif ud t m then oJ r m else false
theorem HH{t:ah}{old now:Sl (Sl Int)}{mv:Sl ae}{rd:Sl aj}{a b c d:Int}{dY:Sl am}{m:ae}{r:aj}(hb:r.2.2.l.length<9223372036854775808):
  (((fA (⟨t,old,now,(⟨mv,rd,a,b,c,d⟩:bI),dY⟩:bg) m).bind fun r116=>bif r116 then((ko r m).bind fun r117=>some r117)else some false):Option Bool)=some (mb t r m):=by
 have hi:fA (⟨t,old,now,(⟨mv,rd,a,b,c,d⟩:bI),dY⟩:bg) m=some (ud t m):=rfl;rw[hi,af,Eh hb];unfold mb;cases ud t m<;>rfl
def xo(t:ah)(r:aj)(A:List (Sl Int))(m:ae):List (Sl Int):=bif mb t r m then A.set m.1.toNat (.mk ((gt A m.1.toNat).l.set m.2.1.toNat m.2.2.1))else A
def MW(t:ah)(r:aj)(mv:List ae)(A:List (Sl Int)):List (Sl Int):=mv.foldl (xo t r) A
theorem sP{t:ah}{r:aj}{A:List (Sl Int)}{m:ae}:(xo t r A m).length=A.length:=by unfold xo;cases mb t r m<;>simp
theorem yQ{t:ah}{r:aj}{A:List (Sl Int)}{m:ae}(s:Nat):(gt (xo t r A m) s).l.length=(gt A s).l.length:=by
 unfold xo;cases mb t r m with
 |false=>rfl
 |true=>
  rw[cond_true,jP];split
  .rename_i h;rw[Sl.iO,dL,h.1]
  .rfl
theorem Lt{t:ah}{old now:Sl (Sl Int)}{mv:Sl ae}{rd R:Sl aj}{a b c d:Int}{dY:Sl am}{k:Nat}(hb:(gt R.l k).2.2.l.length<9223372036854775808)(hm:mv.l.length<=1000000):
  ∀(n j:Nat)(A:List (Sl Int)),j+n=mv.l.length->(A.length:Int)=t.br->(∀s,s<A.length->(gt A s).l.length=t.bd.l.length)->
   bD (eC R k old mv dY t now rd a b c d) ((j:Int),.mk A)=some (.mk (MW t (gt R.l k) (mv.l.drop j) A)):=by
 intro n;induction n with
 |zero=>
  intro j A hj hA hr;obtain rfl:j=mv.l.length:=by omega
  exact cB (by simp only[eC,kK,cond_false,fJ];rfl)
 |succ n ih=>
  intro j A hj hA hr;have hjl:j<mv.l.length:=by omega
  have e:mv.l.drop j=gt mv.l j::mv.l.drop (j+1):=by rw[cR hjl];exact dG hjl
  rw[e];refine(dl ?_).trans (ih (j+1) (xo t (gt R.l k) A (gt mv.l j)) (by omega) (by rw[sP];exact hA) fun s hs=>by rw[yQ];exact hr s (by rwa[sP]at hs));simp only[eC,jt hjl,cond_true,bq hjl,af];rw[HH hb];simp only[af];unfold xo;cases hd:mb t (gt R.l k) (gt mv.l j)with
  |false=>simp only[cond_false,af,k9 (show j<9223372036854775807 by omega)]
  |true=>
   unfold mb at hd;have hB:ud t (gt mv.l j)=true:=by cases h:ud t (gt mv.l j)with|true=>rfl|false=>rw[h]at hd;cases hd
   unfold ud at hB;simp only[ai,decide_eq_true_eq]at hB;obtain⟨⟨⟨b1,b2⟩,b3⟩,b4⟩:=hB;have s1:(gt mv.l j).1.toNat<A.length:=by omega
   have i1:e9 (ae.Sw (gt mv.l j)) A.length=some (gt mv.l j).1.toNat:=gB.2 ⟨by show(gt mv.l j).1=_;omega,s1⟩;have i2:e9 (ae.mC (gt mv.l j)) (gt A (gt mv.l j).1.toNat).l.length=some (gt mv.l j).2.1.toNat:=gB.2 ⟨by show(gt mv.l j).2.1=_;omega,by rw[hr _ s1];omega⟩;simp only[cond_true,Sl.iO,i1,i2,af,k9 (show j<9223372036854775807 by omega)]
def wP(t:ah)(r:aj)(h:Nat)(P:List (Sl Int))(m:ae):List (Sl Int):=bif(bif m.2.1==(h:Int)then mb t r m else false)then P.set m.1.toNat (.mk ((gt P m.1.toNat).l++[m.2.2.1]))else P
def uB(t:ah)(r:aj)(h:Nat)(mv:List ae)(P:List (Sl Int)):List (Sl Int):=mv.foldl (wP t r h) P
theorem tf{t:ah}{r:aj}{h:Nat}{P:List (Sl Int)}{m:ae}:(wP t r h P m).length=P.length:=by unfold wP;cases(bif m.2.1==(h:Int)then mb t r m else false)<;>simp
theorem ED{t:ah}{r:aj}{h:Nat}{P:List (Sl Int)}{m:ae}(s:Nat):(gt (wP t r h P m) s).l.length<=(gt P s).l.length+1:=by
 unfold wP;cases(bif m.2.1==(h:Int)then mb t r m else false)with
 |false=>exact bO _
 |true=>
  rw[cond_true,jP];split
  .rename_i h;rw[Sl.iO,av,bp,h.1];exact Nat.le_refl _
  .exact bO _
theorem Fx{t:ah}{old now:Sl (Sl Int)}{mv:Sl ae}{rd R:Sl aj}{a b c d:Int}{dY:Sl am}{k h:Nat}(hb:(gt R.l k).2.2.l.length<9223372036854775808)(hm:mv.l.length<=1000000):
  ∀(n j:Nat)(P:List (Sl Int)),j+n=mv.l.length->(P.length:Int)=t.br->(∀s,s<P.length->(gt P s).l.length+n<=2000000)->
   bD (eE R k old now dY rd mv (h:Int) t a b c d) ((j:Int),.mk P)=some (.mk (uB t (gt R.l k) h (mv.l.drop j) P)):=by
 intro n;induction n with
 |zero=>
  intro j P hj hA hr;obtain rfl:j=mv.l.length:=by omega
  exact cB (by simp only[eE,kK,cond_false,fJ];rfl)
 |succ n ih=>
  intro j P hj hA hr;have hjl:j<mv.l.length:=by omega
  have e:mv.l.drop j=gt mv.l j::mv.l.drop (j+1):=by rw[cR hjl];exact dG hjl
  rw[e];refine(dl ?_).trans (ih (j+1) (wP t (gt R.l k) h P (gt mv.l j)) (by omega) (by rw[tf];exact hA) fun s hs=>by have:=ED (t:=t) (r:=gt R.l k) (h:=h) (P:=P) (m:=gt mv.l j) s;have:=hr s (by rwa[tf]at hs);omega);simp only[eE,jt hjl,cond_true,bq hjl,af];rw[HH hb];have hc:(bif((ae.mC (gt mv.l j))==(h:Int))then(some (mb t (gt R.l k) (gt mv.l j)):Option Bool)else some false)=some (bif(gt mv.l j).2.1==(h:Int)then mb t (gt R.l k) (gt mv.l j)else false):=by show(bif((gt mv.l j).2.1==(h:Int))then _ else _)=_;cases((gt mv.l j).2.1==(h:Int))<;>rfl
  rw[hc];simp only[af];unfold wP;cases hd:(bif(gt mv.l j).2.1==(h:Int)then mb t (gt R.l k) (gt mv.l j)else false)with
  |false=>simp only[cond_false,af,k9 (show j<9223372036854775807 by omega)]
  |true=>
   have hD:mb t (gt R.l k) (gt mv.l j)=true:=by cases hq:((gt mv.l j).2.1==(h:Int))with|true=>rw[hq]at hd;exact hd|false=>rw[hq]at hd;cases hd
   unfold mb at hD;have hB:ud t (gt mv.l j)=true:=by cases h:ud t (gt mv.l j)with|true=>rfl|false=>rw[h]at hD;cases hD
   unfold ud at hB;simp only[ai,decide_eq_true_eq]at hB;obtain⟨⟨⟨b1,b2⟩,b3⟩,b4⟩:=hB;have s1:(gt mv.l j).1.toNat<P.length:=by omega
   have i1:e9 (ae.Sw (gt mv.l j)) P.length=some (gt mv.l j).1.toNat:=gB.2 ⟨by show(gt mv.l j).1=_;omega,s1⟩;have:=hr _ s1;have hcap:iH ((gt P (gt mv.l j).1.toNat).l++[ae.oc (gt mv.l j)])=some _:=ik (by rw[av,bp];omega);simp only[cond_true,Sl.iO,i1,af,hcap,Nat.beq_refl,k9 (show j<9223372036854775807 by omega)]
end Go.Proofs.YthcplpfiidlinaaDoor.J
