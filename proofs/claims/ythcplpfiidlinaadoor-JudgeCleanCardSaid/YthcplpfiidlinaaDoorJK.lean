/- Findings: the jc, one behind the O5. Conditions: lengths as stated. -/
import Derived.Test.YthcplpfiidlinaaDoorJH
open Go.Ev Go
open Bool renaming and_eq_true->ai
open List renaming drop_eq_getElem_cons->dG,drop_length->fD,length_append->az,length_set->ft,length_singleton->bn,range->aK
open Nat renaming le_succ->bH
open Option renaming bind_some->af
namespace Go.Proofs.YthcplpfiidlinaaDoor.J
theorem nO{α:Type}[Inhabited α]{l:List α}{i j:Nat}{x:α}:gt (l.set i x) j=if i=j/\j<l.length then x else gt l j:=by
 simp only[gt,List.getD,List.getElem?_set];by_cases h:i=j
 .subst h;by_cases hl:i<l.length
  .simp [hl]
  .simp [hl]
 .simp [h]
theorem PT{α:Type}[Inhabited α]{l:List α}{i:Nat}(h:i<l.length):l.set i (gt l i)=l:=by rw[cY h];exact List.set_getElem_self h
theorem LB{α:Type}[Inhabited α]{a b:List α}(hl:a.length=b.length)(h:∀i,i<b.length->gt a i=gt b i):a=b:=by refine List.ext_getElem hl fun i h1 h2=>?_;have:=h i h2;rwa[cY h1,cY h2]at this
theorem Jn{s:Sl Int}(hb:s.l.length<=2147483648):jl s=some s:=by unfold jl;cases s with|nil=>rfl|mk l=>have hb:l.length<=2147483648:=hb;simp only[Sl.fI,cond_false,Sl.iZ,List.nil_append,jq hb,af];cases l<;>rfl
theorem C6{A:List (Sl Int)}{h:Nat}(hrow:∀s,s<A.length->h<(gt A s).l.length)(hn:A.length<=1000000):
  ∀(n i:Nat)(S:List (Sl Int)),i+n=A.length->S.length=A.length->(∀j,j<i->gt S j=.mk [gt (gt A j).l h])->bE (fy (h:Int) (.mk A)) ((i:Int),.mk A,.mk S)=some (.mk A,.mk ((aK A.length).map fun s=>Sl.mk [gt (gt A s).l h])):=by
 intro n;induction n with
 |zero=>
  intro i S hi hS hj;obtain rfl:i=A.length:=by omega
  have e:S=(aK A.length).map fun s=>Sl.mk [gt (gt A s).l h]:=LB (by simpa using hS) fun j hj2=>by
   have hj3:j<A.length:=by simpa using hj2
   rw[hj j hj3,cY hj2];simp
  rw[<-e];have hlt:decide ((A.length:Int)<((Sl.mk A).l.length:Int))=false:=kG;exact ct (by simp only[fy,hlt,cond_false])
 |succ n ih=>
  intro i S hi hS hj;have hil:i<A.length:=by omega
  refine(dh ?_).trans (ih (i+1) (S.set i (.mk [gt (gt A i).l h])) (by omega) (by rw[ft];exact hS) fun j hj2=>?_)
  .have hlt:decide ((i:Int)<((Sl.mk A).l.length:Int))=true:=jo hil;simp only[fy,hlt,cond_true];simp only[Sl.iZ,bA hil,af,bA (hrow i hil),bA (show i<S.length by omega),PT hil,lp (show i<9223372036854775807 by omega)]
  .rw [nO];split
   .rename_i hc;rw[hc.1]
   .rename_i hc;exact hj j (by omega)
def lX(t:ah)(r:aj)(m:ae):Bool:=bif ua t m then oB r m else false
theorem Hr{t:ah}{old now:Sl (Sl Int)}{mv:Sl ae}{rd:Sl aj}{a b c d:Int}{dX:Sl aq}{m:ae}{r:aj}(hb:r.2.2.l.length<9223372036854775808):
  (((fr (⟨t,old,now,(⟨mv,rd,a,b,c,d⟩:dq),dX⟩:bt) m).bind fun r116=>bif r116 then((kh r m).bind fun r117=>some r117)else some false):Option Bool)=some (lX t r m):=by
 have hi:fr (⟨t,old,now,(⟨mv,rd,a,b,c,d⟩:dq),dX⟩:bt) m=some (ua t m):=rfl;rw[hi,af,D8 hb];unfold lX;cases ua t m<;>rfl
def xg(t:ah)(r:aj)(A:List (Sl Int))(m:ae):List (Sl Int):=bif lX t r m then A.set m.1.toNat (.mk ((gt A m.1.toNat).l.set m.2.1.toNat m.2.2.1))else A
def MH(t:ah)(r:aj)(mv:List ae)(A:List (Sl Int)):List (Sl Int):=mv.foldl (xg t r) A
theorem sI{t:ah}{r:aj}{A:List (Sl Int)}{m:ae}:(xg t r A m).length=A.length:=by unfold xg;cases lX t r m<;>simp
theorem yN{t:ah}{r:aj}{A:List (Sl Int)}{m:ae}(s:Nat):(gt (xg t r A m) s).l.length=(gt A s).l.length:=by
 unfold xg;cases lX t r m with
 |false=>rfl
 |true=>
  rw[cond_true,nO];split
  .rename_i h;rw[Sl.iZ,ft,h.1]
  .rfl
theorem Le{t:ah}{old now:Sl (Sl Int)}{mv:Sl ae}{rd R:Sl aj}{a b c d:Int}{dX:Sl aq}{k:Nat}(hb:(gt R.l k).2.2.l.length<9223372036854775808)(hm:mv.l.length<=1000000):
  ∀(n j:Nat)(A:List (Sl Int)),j+n=mv.l.length->(A.length:Int)=t.bo->(∀s,s<A.length->(gt A s).l.length=t.bf.l.length)->
   bE (eB R k old mv dX t now rd a b c d) ((j:Int),.mk A)=some (.mk (MH t (gt R.l k) (mv.l.drop j) A)):=by
 intro n;induction n with
 |zero=>
  intro j A hj hA hr;obtain rfl:j=mv.l.length:=by omega
  exact ct (by simp only[eB,kG,cond_false,fD];rfl)
 |succ n ih=>
  intro j A hj hA hr;have hjl:j<mv.l.length:=by omega
  have e:mv.l.drop j=gt mv.l j::mv.l.drop (j+1):=by rw[cY hjl];exact dG hjl
  rw[e];refine(dh ?_).trans (ih (j+1) (xg t (gt R.l k) A (gt mv.l j)) (by omega) (by rw[sI];exact hA) fun s hs=>by rw[yN];exact hr s (by rwa[sI]at hs));simp only[eB,jo hjl,cond_true,bA hjl,af];rw[Hr hb];simp only[af];unfold xg;cases hd:lX t (gt R.l k) (gt mv.l j)with
  |false=>simp only[cond_false,af,lp (show j<9223372036854775807 by omega)]
  |true=>
   unfold lX at hd;have hB:ua t (gt mv.l j)=true:=by cases h:ua t (gt mv.l j)with|true=>rfl|false=>rw[h]at hd;cases hd
   unfold ua at hB;simp only[ai,decide_eq_true_eq]at hB;obtain⟨⟨⟨b1,b2⟩,b3⟩,b4⟩:=hB;have s1:(gt mv.l j).1.toNat<A.length:=by omega
   have i1:fw (ae.Sw (gt mv.l j)) A.length=some (gt mv.l j).1.toNat:=gq.2 ⟨by show(gt mv.l j).1=_;omega,s1⟩;have i2:fw (ae.nh (gt mv.l j)) (gt A (gt mv.l j).1.toNat).l.length=some (gt mv.l j).2.1.toNat:=gq.2 ⟨by show(gt mv.l j).2.1=_;omega,by rw[hr _ s1];omega⟩;simp only[cond_true,Sl.iZ,i1,i2,af,lp (show j<9223372036854775807 by omega)]
def wJ(t:ah)(r:aj)(h:Nat)(P:List (Sl Int))(m:ae):List (Sl Int):=bif(bif m.2.1==(h:Int)then lX t r m else false)then P.set m.1.toNat (.mk ((gt P m.1.toNat).l++[m.2.2.1]))else P
def uy(t:ah)(r:aj)(h:Nat)(mv:List ae)(P:List (Sl Int)):List (Sl Int):=mv.foldl (wJ t r h) P
theorem sX{t:ah}{r:aj}{h:Nat}{P:List (Sl Int)}{m:ae}:(wJ t r h P m).length=P.length:=by unfold wJ;cases(bif m.2.1==(h:Int)then lX t r m else false)<;>simp
theorem Es{t:ah}{r:aj}{h:Nat}{P:List (Sl Int)}{m:ae}(s:Nat):(gt (wJ t r h P m) s).l.length<=(gt P s).l.length+1:=by
 unfold wJ;cases(bif m.2.1==(h:Int)then lX t r m else false)with
 |false=>exact bH _
 |true=>
  rw[cond_true,nO];split
  .rename_i h;rw[Sl.iZ,az,bn,h.1];exact Nat.le_refl _
  .exact bH _
theorem Fl{t:ah}{old now:Sl (Sl Int)}{mv:Sl ae}{rd R:Sl aj}{a b c d:Int}{dX:Sl aq}{k h:Nat}(hb:(gt R.l k).2.2.l.length<9223372036854775808)(hm:mv.l.length<=1000000):
  ∀(n j:Nat)(P:List (Sl Int)),j+n=mv.l.length->(P.length:Int)=t.bo->(∀s,s<P.length->(gt P s).l.length+n<=2000000)->
   bE (eD R k old now dX rd mv (h:Int) t a b c d) ((j:Int),.mk P)=some (.mk (uy t (gt R.l k) h (mv.l.drop j) P)):=by
 intro n;induction n with
 |zero=>
  intro j P hj hA hr;obtain rfl:j=mv.l.length:=by omega
  exact ct (by simp only[eD,kG,cond_false,fD];rfl)
 |succ n ih=>
  intro j P hj hA hr;have hjl:j<mv.l.length:=by omega
  have e:mv.l.drop j=gt mv.l j::mv.l.drop (j+1):=by rw[cY hjl];exact dG hjl
  rw[e];refine(dh ?_).trans (ih (j+1) (wJ t (gt R.l k) h P (gt mv.l j)) (by omega) (by rw[sX];exact hA) fun s hs=>by have:=Es (t:=t) (r:=gt R.l k) (h:=h) (P:=P) (m:=gt mv.l j) s;have:=hr s (by rwa[sX]at hs);omega);simp only[eD,jo hjl,cond_true,bA hjl,af];rw[Hr hb];have hc:(bif((ae.nh (gt mv.l j))==(h:Int))then(some (lX t (gt R.l k) (gt mv.l j)):Option Bool)else some false)=some (bif(gt mv.l j).2.1==(h:Int)then lX t (gt R.l k) (gt mv.l j)else false):=by show(bif((gt mv.l j).2.1==(h:Int))then _ else _)=_;cases((gt mv.l j).2.1==(h:Int))<;>rfl
  rw[hc];simp only[af];unfold wJ;cases hd:(bif(gt mv.l j).2.1==(h:Int)then lX t (gt R.l k) (gt mv.l j)else false)with
  |false=>simp only[cond_false,af,lp (show j<9223372036854775807 by omega)]
  |true=>
   have hD:lX t (gt R.l k) (gt mv.l j)=true:=by cases hq:((gt mv.l j).2.1==(h:Int))with|true=>rw[hq]at hd;exact hd|false=>rw[hq]at hd;cases hd
   unfold lX at hD;have hB:ua t (gt mv.l j)=true:=by cases h:ua t (gt mv.l j)with|true=>rfl|false=>rw[h]at hD;cases hD
   unfold ua at hB;simp only[ai,decide_eq_true_eq]at hB;obtain⟨⟨⟨b1,b2⟩,b3⟩,b4⟩:=hB;have s1:(gt mv.l j).1.toNat<P.length:=by omega
   have i1:fw (ae.Sw (gt mv.l j)) P.length=some (gt mv.l j).1.toNat:=gq.2 ⟨by show(gt mv.l j).1=_;omega,s1⟩;have:=hr _ s1;have hcap:jF ((gt P (gt mv.l j).1.toNat).l++[ae.ot (gt mv.l j)])=some _:=jq (by rw[az,bn];omega);simp only[cond_true,Sl.iZ,i1,af,hcap,Nat.beq_refl,lp (show j<9223372036854775807 by omega)]
end Go.Proofs.YthcplpfiidlinaaDoor.J
