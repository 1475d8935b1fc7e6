/- Findings: the jj, one behind the O_. Conditions: lengths as stated. -/
import Derived.Test.YthcplpfiidlinaaDoorJH
open Go.Ev Go
open Bool renaming and_eq_true->ai
open List renaming drop_eq_getElem_cons->dF,drop_length->fH,length_append->av,length_set->dT,length_singleton->bo,range->aK
open Nat renaming le_succ->bN
open Option renaming bind_some->af
namespace Go.Proofs.YthcplpfiidlinaaDoor.J
theorem jM{α:Type}[Inhabited α]{l:List α}{i j:Nat}{x:α}:gt (l.set i x) j=if i=j/\j<l.length then x else gt l j:=by
 simp only[gt,List.getD,List.getElem?_set];by_cases h:i=j
 .subst h;by_cases hl:i<l.length
  .simp [hl]
  .simp [hl]
 .simp [h]
theorem PY{α:Type}[Inhabited α]{l:List α}{i:Nat}(h:i<l.length):l.set i (gt l i)=l:=by rw[cP h];exact List.set_getElem_self h
theorem LO{α:Type}[Inhabited α]{a b:List α}(hl:a.length=b.length)(h:∀i,i<b.length->gt a i=gt b i):a=b:=by refine List.ext_getElem hl fun i h1 h2=>?_;have:=h i h2;rwa[cP h1,cP h2]at this
theorem Jz{s:Sl Int}(hb:s.l.length<=2147483648):jq s=some s:=by unfold jq;cases s with|nil=>rfl|mk l=>have hb:l.length<=2147483648:=hb;simp only[Sl.fN,cond_false,Sl.iM,List.nil_append,ij hb,af];cases l<;>rfl
theorem C6{A:List (Sl Int)}{h:Nat}(hrow:∀s,s<A.length->h<(gt A s).l.length)(hn:A.length<=1000000):
  ∀(n i:Nat)(S:List (Sl Int)),i+n=A.length->S.length=A.length->(∀j,j<i->gt S j=.mk [gt (gt A j).l h])->bD (fA (h:Int) (.mk A)) ((i:Int),.mk A,.mk S)=some (.mk A,.mk ((aK A.length).map fun s=>Sl.mk [gt (gt A s).l h])):=by
 intro n;induction n with
 |zero=>
  intro i S hi hS hj;obtain rfl:i=A.length:=by omega
  have e:S=(aK A.length).map fun s=>Sl.mk [gt (gt A s).l h]:=LO (by simpa using hS) fun j hj2=>by
   have hj3:j<A.length:=by simpa using hj2
   rw[hj j hj3,cP hj2];simp
  rw[<-e];have hlt:decide ((A.length:Int)<((Sl.mk A).l.length:Int))=false:=kH;exact cA (by simp only[fA,hlt,cond_false])
 |succ n ih=>
  intro i S hi hS hj;have hil:i<A.length:=by omega
  refine(dl ?_).trans (ih (i+1) (S.set i (.mk [gt (gt A i).l h])) (by omega) (by rw[dT];exact hS) fun j hj2=>?_)
  .have hlt:decide ((i:Int)<((Sl.mk A).l.length:Int))=true:=js hil;simp only[fA,hlt,cond_true];simp only[Sl.iM,bp hil,af,bp (hrow i hil),bp (show i<S.length by omega),PY hil,kY (show i<9223372036854775807 by omega)]
  .rw [jM];split
   .rename_i hc;rw[hc.1]
   .rename_i hc;exact hj j (by omega)
def l5(t:ah)(r:aj)(m:ae):Bool:=bif uN t m then oF r m else false
theorem HB{t:ah}{old now:Sl (Sl Int)}{mv:Sl ae}{rd:Sl aj}{a b c d:Int}{dV:Sl am}{m:ae}{r:aj}(hb:r.2.2.l.length<9223372036854775808):
  (((fx (⟨t,old,now,(⟨mv,rd,a,b,c,d⟩:dh),dV⟩:bv) m).bind fun r116=>bif r116 then((ki r m).bind fun r117=>some r117)else some false):Option Bool)=some (l5 t r m):=by
 have hi:fx (⟨t,old,now,(⟨mv,rd,a,b,c,d⟩:dh),dV⟩:bv) m=some (uN t m):=rfl;rw[hi,af,Ea hb];unfold l5;cases uN t m<;>rfl
def xg(t:ah)(r:aj)(A:List (Sl Int))(m:ae):List (Sl Int):=bif l5 t r m then A.set m.1.toNat (.mk ((gt A m.1.toNat).l.set m.2.1.toNat m.2.2.1))else A
def MT(t:ah)(r:aj)(mv:List ae)(A:List (Sl Int)):List (Sl Int):=mv.foldl (xg t r) A
theorem sJ{t:ah}{r:aj}{A:List (Sl Int)}{m:ae}:(xg t r A m).length=A.length:=by unfold xg;cases l5 t r m<;>simp
theorem yK{t:ah}{r:aj}{A:List (Sl Int)}{m:ae}(s:Nat):(gt (xg t r A m) s).l.length=(gt A s).l.length:=by
 unfold xg;cases l5 t r m with
 |false=>rfl
 |true=>
  rw[cond_true,jM];split
  .rename_i h;rw[Sl.iM,dT,h.1]
  .rfl
theorem Lq{t:ah}{old now:Sl (Sl Int)}{mv:Sl ae}{rd R:Sl aj}{a b c d:Int}{dV:Sl am}{k:Nat}(hb:(gt R.l k).2.2.l.length<9223372036854775808)(hm:mv.l.length<=1000000):
  ∀(n j:Nat)(A:List (Sl Int)),j+n=mv.l.length->(A.length:Int)=t.bq->(∀s,s<A.length->(gt A s).l.length=t.bd.l.length)->
   bD (ez R k old mv dV t now rd a b c d) ((j:Int),.mk A)=some (.mk (MT t (gt R.l k) (mv.l.drop j) A)):=by
 intro n;induction n with
 |zero=>
  intro j A hj hA hr;obtain rfl:j=mv.l.length:=by omega
  exact cA (by simp only[ez,kH,cond_false,fH];rfl)
 |succ n ih=>
  intro j A hj hA hr;have hjl:j<mv.l.length:=by omega
  have e:mv.l.drop j=gt mv.l j::mv.l.drop (j+1):=by rw[cP hjl];exact dF hjl
  rw[e];refine(dl ?_).trans (ih (j+1) (xg t (gt R.l k) A (gt mv.l j)) (by omega) (by rw[sJ];exact hA) fun s hs=>by rw[yK];exact hr s (by rwa[sJ]at hs));simp only[ez,js hjl,cond_true,bp hjl,af];rw[HB hb];simp only[af];unfold xg;cases hd:l5 t (gt R.l k) (gt mv.l j)with
  |false=>simp only[cond_false,af,kY (show j<9223372036854775807 by omega)]
  |true=>
   unfold l5 at hd;have hB:uN t (gt mv.l j)=true:=by cases h:uN t (gt mv.l j)with|true=>rfl|false=>rw[h]at hd;cases hd
   unfold uN at hB;simp only[ai,decide_eq_true_eq]at hB;obtain⟨⟨⟨b1,b2⟩,b3⟩,b4⟩:=hB;have s1:(gt mv.l j).1.toNat<A.length:=by omega
   have i1:eX (ae.Sw (gt mv.l j)) A.length=some (gt mv.l j).1.toNat:=gA.2 ⟨by show(gt mv.l j).1=_;omega,s1⟩;have i2:eX (ae.mL (gt mv.l j)) (gt A (gt mv.l j).1.toNat).l.length=some (gt mv.l j).2.1.toNat:=gA.2 ⟨by show(gt mv.l j).2.1=_;omega,by rw[hr _ s1];omega⟩;simp only[cond_true,Sl.iM,i1,i2,af,kY (show j<9223372036854775807 by omega)]
def wJ(t:ah)(r:aj)(h:Nat)(P:List (Sl Int))(m:ae):List (Sl Int):=bif(bif m.2.1==(h:Int)then l5 t r m else false)then P.set m.1.toNat (.mk ((gt P m.1.toNat).l++[m.2.2.1]))else P
def uv(t:ah)(r:aj)(h:Nat)(mv:List ae)(P:List (Sl Int)):List (Sl Int):=mv.foldl (wJ t r h) P
theorem sX{t:ah}{r:aj}{h:Nat}{P:List (Sl Int)}{m:ae}:(wJ t r h P m).length=P.length:=by unfold wJ;cases(bif m.2.1==(h:Int)then l5 t r m else false)<;>simp
theorem Ey{t:ah}{r:aj}{h:Nat}{P:List (Sl Int)}{m:ae}(s:Nat):(gt (wJ t r h P m) s).l.length<=(gt P s).l.length+1:=by
 unfold wJ;cases(bif m.2.1==(h:Int)then l5 t r m else false)with
 |false=>exact bN _
 |true=>
  rw[cond_true,jM];split
  .rename_i h;rw[Sl.iM,av,bo,h.1];exact Nat.le_refl _
  .exact bN _
theorem Fs{t:ah}{old now:Sl (Sl Int)}{mv:Sl ae}{rd R:Sl aj}{a b c d:Int}{dV:Sl am}{k h:Nat}(hb:(gt R.l k).2.2.l.length<9223372036854775808)(hm:mv.l.length<=1000000):
  ∀(n j:Nat)(P:List (Sl Int)),j+n=mv.l.length->(P.length:Int)=t.bq->(∀s,s<P.length->(gt P s).l.length+n<=2000000)->
   bD (eB R k old now dV rd mv (h:Int) t a b c d) ((j:Int),.mk P)=some (.mk (uv t (gt R.l k) h (mv.l.drop j) P)):=by
 intro n;induction n with
 |zero=>
  intro j P hj hA hr;obtain rfl:j=mv.l.length:=by omega
  exact cA (by simp only[eB,kH,cond_false,fH];rfl)
 |succ n ih=>
  intro j P hj hA hr;have hjl:j<mv.l.length:=by omega
  have e:mv.l.drop j=gt mv.l j::mv.l.drop (j+1):=by rw[cP hjl];exact dF hjl
  rw[e];refine(dl ?_).trans (ih (j+1) (wJ t (gt R.l k) h P (gt mv.l j)) (by omega) (by rw[sX];exact hA) fun s hs=>by have:=Ey (t:=t) (r:=gt R.l k) (h:=h) (P:=P) (m:=gt mv.l j) s;have:=hr s (by rwa[sX]at hs);omega);simp only[eB,js hjl,cond_true,bp hjl,af];rw[HB hb];have hc:(bif((ae.mL (gt mv.l j))==(h:Int))then(some (l5 t (gt R.l k) (gt mv.l j)):Option Bool)else some false)=some (bif(gt mv.l j).2.1==(h:Int)then l5 t (gt R.l k) (gt mv.l j)else false):=by show(bif((gt mv.l j).2.1==(h:Int))then _ else _)=_;cases((gt mv.l j).2.1==(h:Int))<;>rfl
  rw[hc];simp only[af];unfold wJ;cases hd:(bif(gt mv.l j).2.1==(h:Int)then l5 t (gt R.l k) (gt mv.l j)else false)with
  |false=>simp only[cond_false,af,kY (show j<9223372036854775807 by omega)]
  |true=>
   have hD:l5 t (gt R.l k) (gt mv.l j)=true:=by cases hq:((gt mv.l j).2.1==(h:Int))with|true=>rw[hq]at hd;exact hd|false=>rw[hq]at hd;cases hd
   unfold l5 at hD;have hB:uN t (gt mv.l j)=true:=by cases h:uN t (gt mv.l j)with|true=>rfl|false=>rw[h]at hD;cases hD
   unfold uN at hB;simp only[ai,decide_eq_true_eq]at hB;obtain⟨⟨⟨b1,b2⟩,b3⟩,b4⟩:=hB;have s1:(gt mv.l j).1.toNat<P.length:=by omega
   have i1:eX (ae.Sw (gt mv.l j)) P.length=some (gt mv.l j).1.toNat:=gA.2 ⟨by show(gt mv.l j).1=_;omega,s1⟩;have:=hr _ s1;have hcap:iF ((gt P (gt mv.l j).1.toNat).l++[ae.oA (gt mv.l j)])=some _:=ij (by rw[av,bo];omega);simp only[cond_true,Sl.iM,i1,af,hcap,Nat.beq_refl,kY (show j<9223372036854775807 by omega)]
end Go.Proofs.YthcplpfiidlinaaDoor.J
