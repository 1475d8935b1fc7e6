/- Findings: the jj, one behind the Pp. Conditions: lengths as stated. -/
import Derived.Test.YthcplpfiidlinaaDoorJH
open Go.Ev Go
open Bool renaming and_eq_true->ai
open List renaming drop_eq_getElem_cons->dK,drop_length->fJ,length_append->av,length_set->dM,length_singleton->bo,range->aL
open Nat renaming le_succ->bH
open Option renaming bind_some->af
namespace Go.Proofs.YthcplpfiidlinaaDoor.J
theorem jR{α:Type}[Inhabited α]{l:List α}{i j:Nat}{x:α}:gt (l.set i x) j=if i=j/\j<l.length then x else gt l j:=by
 simp only[gt,List.getD,List.getElem?_set];by_cases h:i=j
 .subst h;by_cases hl:i<l.length
  .simp [hl]
  .simp [hl]
 .simp [h]
theorem P_{α:Type}[Inhabited α]{l:List α}{i:Nat}(h:i<l.length):l.set i (gt l i)=l:=by rw[cQ h];exact List.set_getElem_self h
theorem LX{α:Type}[Inhabited α]{a b:List α}(hl:a.length=b.length)(h:∀i,i<b.length->gt a i=gt b i):a=b:=by refine List.ext_getElem hl fun i h1 h2=>?_;have:=h i h2;rwa[cQ h1,cQ h2]at this
theorem JI{s:Sl Int}(hb:s.l.length<=2147483648):jr s=some s:=by unfold jr;cases s with|nil=>rfl|mk l=>have hb:l.length<=2147483648:=hb;simp only[Sl.fP,cond_false,Sl.iN,List.nil_append,ik hb,af];cases l<;>rfl
theorem Di{A:List (Sl Int)}{h:Nat}(hrow:∀s,s<A.length->h<(gt A s).l.length)(hn:A.length<=1000000):
  ∀(n i:Nat)(S:List (Sl Int)),i+n=A.length->S.length=A.length->(∀j,j<i->gt S j=.mk [gt (gt A j).l h])->bE (fD (h:Int) (.mk A)) ((i:Int),.mk A,.mk S)=some (.mk A,.mk ((aL A.length).map fun s=>Sl.mk [gt (gt A s).l h])):=by
 intro n;induction n with
 |zero=>
  intro i S hi hS hj;obtain rfl:i=A.length:=by omega
  have e:S=(aL A.length).map fun s=>Sl.mk [gt (gt A s).l h]:=LX (by simpa using hS) fun j hj2=>by
   have hj3:j<A.length:=by simpa using hj2
   rw[hj j hj3,cQ hj2];simp
  rw[<-e];have hlt:decide ((A.length:Int)<((Sl.mk A).l.length:Int))=false:=kL;exact cA (by simp only[fD,hlt,cond_false])
 |succ n ih=>
  intro i S hi hS hj;have hil:i<A.length:=by omega
  refine(dl ?_).trans (ih (i+1) (S.set i (.mk [gt (gt A i).l h])) (by omega) (by rw[dM];exact hS) fun j hj2=>?_)
  .have hlt:decide ((i:Int)<((Sl.mk A).l.length:Int))=true:=jt hil;simp only[fD,hlt,cond_true];simp only[Sl.iN,bp hil,af,bp (hrow i hil),bp (show i<S.length by omega),P_ hil,k7 (show i<9223372036854775807 by omega)]
  .rw [jR];split
   .rename_i hc;rw[hc.1]
   .rename_i hc;exact hj j (by omega)
def md(t:ah)(r:aj)(m:ae):Bool:=bif ui t m then oK r m else false
theorem HJ{t:ah}{old now:Sl (Sl Int)}{mv:Sl ae}{rd:Sl aj}{a b c d:Int}{ed:Sl ao}{m:ae}{r:aj}(hb:r.2.2.l.length<9223372036854775808):
  (((fB (⟨t,old,now,(⟨mv,rd,a,b,c,d⟩:dv),ed⟩:bv) m).bind fun r116=>bif r116 then((kp r m).bind fun r117=>some r117)else some false):Option Bool)=some (md t r m):=by
 have hi:fB (⟨t,old,now,(⟨mv,rd,a,b,c,d⟩:dv),ed⟩:bv) m=some (ui t m):=rfl;rw[hi,af,Ep hb];unfold md;cases ui t m<;>rfl
def xq(t:ah)(r:aj)(A:List (Sl Int))(m:ae):List (Sl Int):=bif md t r m then A.set m.1.toNat (.mk ((gt A m.1.toNat).l.set m.2.1.toNat m.2.2.1))else A
def M0(t:ah)(r:aj)(mv:List ae)(A:List (Sl Int)):List (Sl Int):=mv.foldl (xq t r) A
theorem sR{t:ah}{r:aj}{A:List (Sl Int)}{m:ae}:(xq t r A m).length=A.length:=by unfold xq;cases md t r m<;>simp
theorem yW{t:ah}{r:aj}{A:List (Sl Int)}{m:ae}(s:Nat):(gt (xq t r A m) s).l.length=(gt A s).l.length:=by
 unfold xq;cases md t r m with
 |false=>rfl
 |true=>
  rw[cond_true,jR];split
  .rename_i h;rw[Sl.iN,dM,h.1]
  .rfl
theorem Ly{t:ah}{old now:Sl (Sl Int)}{mv:Sl ae}{rd R:Sl aj}{a b c d:Int}{ed:Sl ao}{k:Nat}(hb:(gt R.l k).2.2.l.length<9223372036854775808)(hm:mv.l.length<=1000000):
  ∀(n j:Nat)(A:List (Sl Int)),j+n=mv.l.length->(A.length:Int)=t.bq->(∀s,s<A.length->(gt A s).l.length=t.bf.l.length)->
   bE (eF R k old mv ed t now rd a b c d) ((j:Int),.mk A)=some (.mk (M0 t (gt R.l k) (mv.l.drop j) A)):=by
 intro n;induction n with
 |zero=>
  intro j A hj hA hr;obtain rfl:j=mv.l.length:=by omega
  exact cA (by simp only[eF,kL,cond_false,fJ];rfl)
 |succ n ih=>
  intro j A hj hA hr;have hjl:j<mv.l.length:=by omega
  have e:mv.l.drop j=gt mv.l j::mv.l.drop (j+1):=by rw[cQ hjl];exact dK hjl
  rw[e];refine(dl ?_).trans (ih (j+1) (xq t (gt R.l k) A (gt mv.l j)) (by omega) (by rw[sR];exact hA) fun s hs=>by rw[yW];exact hr s (by rwa[sR]at hs));simp only[eF,jt hjl,cond_true,bp hjl,af];rw[HJ hb];simp only[af];unfold xq;cases hd:md t (gt R.l k) (gt mv.l j)with
  |false=>simp only[cond_false,af,k7 (show j<9223372036854775807 by omega)]
  |true=>
   unfold md at hd;have hB:ui t (gt mv.l j)=true:=by cases h:ui t (gt mv.l j)with|true=>rfl|false=>rw[h]at hd;cases hd
   unfold ui at hB;simp only[ai,decide_eq_true_eq]at hB;obtain⟨⟨⟨b1,b2⟩,b3⟩,b4⟩:=hB;have s1:(gt mv.l j).1.toNat<A.length:=by omega
   have i1:ff (ae.Sw (gt mv.l j)) A.length=some (gt mv.l j).1.toNat:=gB.2 ⟨by show(gt mv.l j).1=_;omega,s1⟩;have i2:ff (ae.mS (gt mv.l j)) (gt A (gt mv.l j).1.toNat).l.length=some (gt mv.l j).2.1.toNat:=gB.2 ⟨by show(gt mv.l j).2.1=_;omega,by rw[hr _ s1];omega⟩;simp only[cond_true,Sl.iN,i1,i2,af,k7 (show j<9223372036854775807 by omega)]
def wR(t:ah)(r:aj)(h:Nat)(P:List (Sl Int))(m:ae):List (Sl Int):=bif(bif m.2.1==(h:Int)then md t r m else false)then P.set m.1.toNat (.mk ((gt P m.1.toNat).l++[m.2.2.1]))else P
def uG(t:ah)(r:aj)(h:Nat)(mv:List ae)(P:List (Sl Int)):List (Sl Int):=mv.foldl (wR t r h) P
theorem tn{t:ah}{r:aj}{h:Nat}{P:List (Sl Int)}{m:ae}:(wR t r h P m).length=P.length:=by unfold wR;cases(bif m.2.1==(h:Int)then md t r m else false)<;>simp
theorem EL{t:ah}{r:aj}{h:Nat}{P:List (Sl Int)}{m:ae}(s:Nat):(gt (wR t r h P m) s).l.length<=(gt P s).l.length+1:=by
 unfold wR;cases(bif m.2.1==(h:Int)then md t r m else false)with
 |false=>exact bH _
 |true=>
  rw[cond_true,jR];split
  .rename_i h;rw[Sl.iN,av,bo,h.1];exact Nat.le_refl _
  .exact bH _
theorem FD{t:ah}{old now:Sl (Sl Int)}{mv:Sl ae}{rd R:Sl aj}{a b c d:Int}{ed:Sl ao}{k h:Nat}(hb:(gt R.l k).2.2.l.length<9223372036854775808)(hm:mv.l.length<=1000000):
  ∀(n j:Nat)(P:List (Sl Int)),j+n=mv.l.length->(P.length:Int)=t.bq->(∀s,s<P.length->(gt P s).l.length+n<=2000000)->
   bE (eH R k old now ed rd mv (h:Int) t a b c d) ((j:Int),.mk P)=some (.mk (uG t (gt R.l k) h (mv.l.drop j) P)):=by
 intro n;induction n with
 |zero=>
  intro j P hj hA hr;obtain rfl:j=mv.l.length:=by omega
  exact cA (by simp only[eH,kL,cond_false,fJ];rfl)
 |succ n ih=>
  intro j P hj hA hr;have hjl:j<mv.l.length:=by omega
  have e:mv.l.drop j=gt mv.l j::mv.l.drop (j+1):=by rw[cQ hjl];exact dK hjl
  rw[e];refine(dl ?_).trans (ih (j+1) (wR t (gt R.l k) h P (gt mv.l j)) (by omega) (by rw[tn];exact hA) fun s hs=>by have:=EL (t:=t) (r:=gt R.l k) (h:=h) (P:=P) (m:=gt mv.l j) s;have:=hr s (by rwa[tn]at hs);omega);simp only[eH,jt hjl,cond_true,bp hjl,af];rw[HJ hb];have hc:(bif((ae.mS (gt mv.l j))==(h:Int))then(some (md t (gt R.l k) (gt mv.l j)):Option Bool)else some false)=some (bif(gt mv.l j).2.1==(h:Int)then md t (gt R.l k) (gt mv.l j)else false):=by show(bif((gt mv.l j).2.1==(h:Int))then _ else _)=_;cases((gt mv.l j).2.1==(h:Int))<;>rfl
  rw[hc];simp only[af];unfold wR;cases hd:(bif(gt mv.l j).2.1==(h:Int)then md t (gt R.l k) (gt mv.l j)else false)with
  |false=>simp only[cond_false,af,k7 (show j<9223372036854775807 by omega)]
  |true=>
   have hD:md t (gt R.l k) (gt mv.l j)=true:=by cases hq:((gt mv.l j).2.1==(h:Int))with|true=>rw[hq]at hd;exact hd|false=>rw[hq]at hd;cases hd
   unfold md at hD;have hB:ui t (gt mv.l j)=true:=by cases h:ui t (gt mv.l j)with|true=>rfl|false=>rw[h]at hD;cases hD
   unfold ui at hB;simp only[ai,decide_eq_true_eq]at hB;obtain⟨⟨⟨b1,b2⟩,b3⟩,b4⟩:=hB;have s1:(gt mv.l j).1.toNat<P.length:=by omega
   have i1:ff (ae.Sw (gt mv.l j)) P.length=some (gt mv.l j).1.toNat:=gB.2 ⟨by show(gt mv.l j).1=_;omega,s1⟩;have:=hr _ s1;have hcap:iG ((gt P (gt mv.l j).1.toNat).l++[ae.oF (gt mv.l j)])=some _:=ik (by rw[av,bo];omega);simp only[cond_true,Sl.iN,i1,af,hcap,Nat.beq_refl,k7 (show j<9223372036854775807 by omega)]
end Go.Proofs.YthcplpfiidlinaaDoor.J
