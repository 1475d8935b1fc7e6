/- Findings: the rounds, one behind the other. Conditions: lengths as stated. -/
import Derived.Test.YthcplpfiidlinaaDoorJH
open Bool renaming and_eq_true->ai
open List renaming drop_eq_getElem_cons->dL,drop_length->fM,length_append->av,length_set->dP,length_singleton->bp,range->aL
open Nat renaming le_succ->bH
open Option renaming bind_some->af
open Go.Ev Go
namespace Go.Proofs.YthcplpfiidlinaaDoor.J
theorem jS{α:Type}[Inhabited α]{l:List α}{i j:Nat}{x:α}:gt (l.set i x) j=if i=j/\j<l.length then x else gt l j:=by
 simp only[gt,List.getD,List.getElem?_set];by_cases h:i=j
 .subst h;by_cases hl:i<l.length
  .simp [hl]
  .simp [hl]
 .simp [h]
theorem Qb{α:Type}[Inhabited α]{l:List α}{i:Nat}(h:i<l.length):l.set i (gt l i)=l:=by rw[cR h];exact List.set_getElem_self h
theorem L2{α:Type}[Inhabited α]{a b:List α}(hl:a.length=b.length)(h:∀i,i<b.length->gt a i=gt b i):a=b:=by refine List.ext_getElem hl fun i h1 h2=>?_;have:=h i h2;rwa[cR h1,cR h2]at this
theorem JQ{s:Sl Int}(hb:s.l.length<=2147483648):jt s=some s:=by unfold jt;cases s with|nil=>rfl|mk l=>have hb:l.length<=2147483648:=hb;simp only[Sl.fS,cond_false,Sl.iP,List.nil_append,il hb,af];cases l<;>rfl
theorem Dp{A:List (Sl Int)}{h:Nat}(hrow:∀s,s<A.length->h<(gt A s).l.length)(hn:A.length<=1000000):
  ∀(n i:Nat)(S:List (Sl Int)),i+n=A.length->S.length=A.length->(∀j,j<i->gt S j=.mk [gt (gt A j).l h])->bE (fG (h:Int) (.mk A)) ((i:Int),.mk A,.mk S)=some (.mk A,.mk ((aL A.length).map fun s=>Sl.mk [gt (gt A s).l h])):=by
 intro n;induction n with
 |zero=>
  intro i S hi hS hj;obtain rfl:i=A.length:=by omega
  have e:S=(aL A.length).map fun s=>Sl.mk [gt (gt A s).l h]:=L2 (by simpa using hS) fun j hj2=>by
   have hj3:j<A.length:=by simpa using hj2
   rw[hj j hj3,cR hj2];simp
  rw[<-e];have hlt:decide ((A.length:Int)<((Sl.mk A).l.length:Int))=false:=kO;exact cB (by simp only[fG,hlt,cond_false])
 |succ n ih=>
  intro i S hi hS hj;have hil:i<A.length:=by omega
  refine(dm ?_).trans (ih (i+1) (S.set i (.mk [gt (gt A i).l h])) (by omega) (by rw[dP];exact hS) fun j hj2=>?_)
  .have hlt:decide ((i:Int)<((Sl.mk A).l.length:Int))=true:=jw hil;simp only[fG,hlt,cond_true];simp only[Sl.iP,bq hil,af,bq (hrow i hil),bq (show i<S.length by omega),Qb hil,k_ (show i<9223372036854775807 by omega)]
  .rw [jS];split
   .rename_i hc;rw[hc.1]
   .rename_i hc;exact hj j (by omega)
def mh(t:ah)(r:aj)(m:ae):Bool:=bif um t m then oO r m else false
theorem HS{t:ah}{old now:Sl (Sl Int)}{mv:Sl ae}{rd:Sl aj}{a b c d:Int}{eg:Sl am}{m:ae}{r:aj}(hb:r.2.2.l.length<9223372036854775808):
  (((fE (⟨t,old,now,(⟨mv,rd,a,b,c,d⟩:bK),eg⟩:bh) m).bind fun r116=>bif r116 then((kr r m).bind fun r117=>some r117)else some false):Option Bool)=some (mh t r m):=by
 have hi:fE (⟨t,old,now,(⟨mv,rd,a,b,c,d⟩:bK),eg⟩:bh) m=some (um t m):=rfl;rw[hi,af,Ez hb];unfold mh;cases um t m<;>rfl
def xz(t:ah)(r:aj)(A:List (Sl Int))(m:ae):List (Sl Int):=bif mh t r m then A.set m.1.toNat (.mk ((gt A m.1.toNat).l.set m.2.1.toNat m.2.2.1))else A
def M5(t:ah)(r:aj)(mv:List ae)(A:List (Sl Int)):List (Sl Int):=mv.foldl (xz t r) A
theorem sX{t:ah}{r:aj}{A:List (Sl Int)}{m:ae}:(xz t r A m).length=A.length:=by unfold xz;cases mh t r m<;>simp
theorem y9{t:ah}{r:aj}{A:List (Sl Int)}{m:ae}(s:Nat):(gt (xz t r A m) s).l.length=(gt A s).l.length:=by
 unfold xz;cases mh t r m with
 |false=>rfl
 |true=>
  rw[cond_true,jS];split
  .rename_i h;rw[Sl.iP,dP,h.1]
  .rfl
theorem LD{t:ah}{old now:Sl (Sl Int)}{mv:Sl ae}{rd R:Sl aj}{a b c d:Int}{eg:Sl am}{k:Nat}(hb:(gt R.l k).2.2.l.length<9223372036854775808)(hm:mv.l.length<=1000000):
  ∀(n j:Nat)(A:List (Sl Int)),j+n=mv.l.length->(A.length:Int)=t.br->(∀s,s<A.length->(gt A s).l.length=t.bf.l.length)->
   bE (eI R k old mv eg t now rd a b c d) ((j:Int),.mk A)=some (.mk (M5 t (gt R.l k) (mv.l.drop j) A)):=by
 intro n;induction n with
 |zero=>
  intro j A hj hA hr;obtain rfl:j=mv.l.length:=by omega
  exact cB (by simp only[eI,kO,cond_false,fM];rfl)
 |succ n ih=>
  intro j A hj hA hr;have hjl:j<mv.l.length:=by omega
  have e:mv.l.drop j=gt mv.l j::mv.l.drop (j+1):=by rw[cR hjl];exact dL hjl
  rw[e];refine(dm ?_).trans (ih (j+1) (xz t (gt R.l k) A (gt mv.l j)) (by omega) (by rw[sX];exact hA) fun s hs=>by rw[y9];exact hr s (by rwa[sX]at hs));simp only[eI,jw hjl,cond_true,bq hjl,af];rw[HS hb];simp only[af];unfold xz;cases hd:mh t (gt R.l k) (gt mv.l j)with
  |false=>simp only[cond_false,af,k_ (show j<9223372036854775807 by omega)]
  |true=>
   unfold mh at hd;have hB:um t (gt mv.l j)=true:=by cases h:um t (gt mv.l j)with|true=>rfl|false=>rw[h]at hd;cases hd
   unfold um at hB;simp only[ai,decide_eq_true_eq]at hB;obtain⟨⟨⟨b1,b2⟩,b3⟩,b4⟩:=hB;have s1:(gt mv.l j).1.toNat<A.length:=by omega
   have i1:fk (ae.Sw (gt mv.l j)) A.length=some (gt mv.l j).1.toNat:=gB.2 ⟨by show(gt mv.l j).1=_;omega,s1⟩;have i2:fk (ae.mI (gt mv.l j)) (gt A (gt mv.l j).1.toNat).l.length=some (gt mv.l j).2.1.toNat:=gB.2 ⟨by show(gt mv.l j).2.1=_;omega,by rw[hr _ s1];omega⟩;simp only[cond_true,Sl.iP,i1,i2,af,k_ (show j<9223372036854775807 by omega)]
def wW(t:ah)(r:aj)(h:Nat)(P:List (Sl Int))(m:ae):List (Sl Int):=bif(bif m.2.1==(h:Int)then mh t r m else false)then P.set m.1.toNat (.mk ((gt P m.1.toNat).l++[m.2.2.1]))else P
def uL(t:ah)(r:aj)(h:Nat)(mv:List ae)(P:List (Sl Int)):List (Sl Int):=mv.foldl (wW t r h) P
theorem tD{t:ah}{r:aj}{h:Nat}{P:List (Sl Int)}{m:ae}:(wW t r h P m).length=P.length:=by unfold wW;cases(bif m.2.1==(h:Int)then mh t r m else false)<;>simp
theorem ER{t:ah}{r:aj}{h:Nat}{P:List (Sl Int)}{m:ae}(s:Nat):(gt (wW t r h P m) s).l.length<=(gt P s).l.length+1:=by
 unfold wW;cases(bif m.2.1==(h:Int)then mh t r m else false)with
 |false=>exact bH _
 |true=>
  rw[cond_true,jS];split
  .rename_i h;rw[Sl.iP,av,bp,h.1];exact Nat.le_refl _
  .exact bH _
theorem FK{t:ah}{old now:Sl (Sl Int)}{mv:Sl ae}{rd R:Sl aj}{a b c d:Int}{eg:Sl am}{k h:Nat}(hb:(gt R.l k).2.2.l.length<9223372036854775808)(hm:mv.l.length<=1000000):
  ∀(n j:Nat)(P:List (Sl Int)),j+n=mv.l.length->(P.length:Int)=t.br->(∀s,s<P.length->(gt P s).l.length+n<=2000000)->
   bE (eK R k old now eg rd mv (h:Int) t a b c d) ((j:Int),.mk P)=some (.mk (uL t (gt R.l k) h (mv.l.drop j) P)):=by
 intro n;induction n with
 |zero=>
  intro j P hj hA hr;obtain rfl:j=mv.l.length:=by omega
  exact cB (by simp only[eK,kO,cond_false,fM];rfl)
 |succ n ih=>
  intro j P hj hA hr;have hjl:j<mv.l.length:=by omega
  have e:mv.l.drop j=gt mv.l j::mv.l.drop (j+1):=by rw[cR hjl];exact dL hjl
  rw[e];refine(dm ?_).trans (ih (j+1) (wW t (gt R.l k) h P (gt mv.l j)) (by omega) (by rw[tD];exact hA) fun s hs=>by have:=ER (t:=t) (r:=gt R.l k) (h:=h) (P:=P) (m:=gt mv.l j) s;have:=hr s (by rwa[tD]at hs);omega);simp only[eK,jw hjl,cond_true,bq hjl,af];rw[HS hb];have hc:(bif((ae.mI (gt mv.l j))==(h:Int))then(some (mh t (gt R.l k) (gt mv.l j)):Option Bool)else some false)=some (bif(gt mv.l j).2.1==(h:Int)then mh t (gt R.l k) (gt mv.l j)else false):=by show(bif((gt mv.l j).2.1==(h:Int))then _ else _)=_;cases((gt mv.l j).2.1==(h:Int))<;>rfl
  rw[hc];simp only[af];unfold wW;cases hd:(bif(gt mv.l j).2.1==(h:Int)then mh t (gt R.l k) (gt mv.l j)else false)with
  |false=>simp only[cond_false,af,k_ (show j<9223372036854775807 by omega)]
  |true=>
   have hD:mh t (gt R.l k) (gt mv.l j)=true:=by cases hq:((gt mv.l j).2.1==(h:Int))with|true=>rw[hq]at hd;exact hd|false=>rw[hq]at hd;cases hd
   unfold mh at hD;have hB:um t (gt mv.l j)=true:=by cases h:um t (gt mv.l j)with|true=>rfl|false=>rw[h]at hD;cases hD
   unfold um at hB;simp only[ai,decide_eq_true_eq]at hB;obtain⟨⟨⟨b1,b2⟩,b3⟩,b4⟩:=hB;have s1:(gt mv.l j).1.toNat<P.length:=by omega
   have i1:fk (ae.Sw (gt mv.l j)) P.length=some (gt mv.l j).1.toNat:=gB.2 ⟨by show(gt mv.l j).1=_;omega,s1⟩;have:=hr _ s1;have hcap:iI ((gt P (gt mv.l j).1.toNat).l++[ae.oe (gt mv.l j)])=some _:=il (by rw[av,bp];omega);simp only[cond_true,Sl.iP,i1,af,hcap,Nat.beq_refl,k_ (show j<9223372036854775807 by omega)]
end Go.Proofs.YthcplpfiidlinaaDoor.J
