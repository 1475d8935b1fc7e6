/- Findings: the je, one behind the Mz. Conditions: lengths as stated. -/
import Derived.Test.YthcplpfiidlinaaDoorJH
open Go.Ev Go
open Bool renaming and_eq_true->ai
open List renaming drop_eq_getElem_cons->cX,drop_length->dN,length_append->aF,length_set->fk,length_singleton->bD,range->bi
open Nat renaming le_succ->bH
open Option renaming bind_some->ae
namespace Go.Proofs.YthcplpfiidlinaaDoor.J
theorem m7{α:Type}[Inhabited α]{l:List α}{i j:Nat}{x:α}:gt (l.set i x) j=if i=j/\j<l.length then x else gt l j:=by
 simp only[gt,List.getD,List.getElem?_set];by_cases h:i=j
 .subst h;by_cases hl:i<l.length
  .simp [hl]
  .simp [hl]
 .simp [h]
theorem Nd{α:Type}[Inhabited α]{l:List α}{i:Nat}(h:i<l.length):l.set i (gt l i)=l:=by rw[eA h];exact List.set_getElem_self h
theorem JB{α:Type}[Inhabited α]{a b:List α}(hl:a.length=b.length)(h:∀i,i<b.length->gt a i=gt b i):a=b:=by refine List.ext_getElem hl fun i h1 h2=>?_;have:=h i h2;rwa[eA h1,eA h2]at this
theorem Hy{s:Sl Int}(hb:s.l.length<=2147483648):iU s=some s:=by unfold iU;cases s with|nil=>rfl|mk l=>have hb:l.length<=2147483648:=hb;simp only[Sl.fC,cond_false,Sl.kT,List.nil_append,js hb,ae];cases l<;>rfl
theorem BQ{A:List (Sl Int)}{h:Nat}(hrow:∀s,s<A.length->h<(gt A s).l.length)(hn:A.length<=1000000):
  ∀(n i:Nat)(S:List (Sl Int)),i+n=A.length->S.length=A.length->(∀j,j<i->gt S j=.mk [gt (gt A j).l h])->br (fq (h:Int) (.mk A)) ((i:Int),.mk A,.mk S)=some (.mk A,.mk ((bi A.length).map fun s=>Sl.mk [gt (gt A s).l h])):=by
 intro n;induction n with
 |zero=>
  intro i S hi hS hj;obtain rfl:i=A.length:=by omega
  have e:S=(bi A.length).map fun s=>Sl.mk [gt (gt A s).l h]:=JB (by simpa using hS) fun j hj2=>by
   have hj3:j<A.length:=by simpa using hj2
   rw[hj j hj3,eA hj2];simp
  rw[<-e];have hlt:decide ((A.length:Int)<((Sl.mk A).l.length:Int))=false:=j4;exact ci (by simp only[fq,hlt,cond_false])
 |succ n ih=>
  intro i S hi hS hj;have hil:i<A.length:=by omega
  refine(cG ?_).trans (ih (i+1) (S.set i (.mk [gt (gt A i).l h])) (by omega) (by rw[fk];exact hS) fun j hj2=>?_)
  .have hlt:decide ((i:Int)<((Sl.mk A).l.length:Int))=true:=jm hil;simp only[fq,hlt,cond_true];simp only[Sl.kT,bI hil,ae,bI (hrow i hil),bI (show i<S.length by omega),Nd hil,kz (show i<9223372036854775807 by omega)]
  .rw [m7];split
   .rename_i hc;rw[hc.1]
   .rename_i hc;exact hj j (by omega)
def lq(t:ah)(r:aj)(m:af):Bool:=bif sV t m then nH r m else false
theorem FP{t:ah}{old now:Sl (Sl Int)}{mv:Sl af}{rd:Sl aj}{a b c d:Int}{dO:Sl ap}{m:af}{r:aj}(hb:r.2.2.l.length<9223372036854775808):
  (((fh (⟨t,old,now,(⟨mv,rd,a,b,c,d⟩:aE),dO⟩:bw) m).bind fun r116=>bif r116 then((jS r m).bind fun r117=>some r117)else some false):Option Bool)=some (lq t r m):=by
 have hi:fh (⟨t,old,now,(⟨mv,rd,a,b,c,d⟩:aE),dO⟩:bw) m=some (sV t m):=rfl;rw[hi,ae,CQ hb];unfold lq;cases sV t m<;>rfl
def vp(t:ah)(r:aj)(A:List (Sl Int))(m:af):List (Sl Int):=bif lq t r m then A.set m.1.toNat (.mk ((gt A m.1.toNat).l.set m.2.1.toNat m.2.2.1))else A
def HL(t:ah)(r:aj)(mv:List af)(A:List (Sl Int)):List (Sl Int):=mv.foldl (vp t r) A
theorem oS{t:ah}{r:aj}{A:List (Sl Int)}{m:af}:(vp t r A m).length=A.length:=by unfold vp;cases lq t r m<;>simp
theorem ux{t:ah}{r:aj}{A:List (Sl Int)}{m:af}(s:Nat):(gt (vp t r A m) s).l.length=(gt A s).l.length:=by
 unfold vp;cases lq t r m with
 |false=>rfl
 |true=>
  rw[cond_true,m7];split
  .rename_i h;rw[Sl.kT,fk,h.1]
  .rfl
theorem Jc{t:ah}{old now:Sl (Sl Int)}{mv:Sl af}{rd R:Sl aj}{a b c d:Int}{dO:Sl ap}{k:Nat}(hb:(gt R.l k).2.2.l.length<9223372036854775808)(hm:mv.l.length<=1000000):
  ∀(n j:Nat)(A:List (Sl Int)),j+n=mv.l.length->(A.length:Int)=t.bh->(∀s,s<A.length->(gt A s).l.length=t.a_.l.length)->
   br (ed R k old mv dO t now rd a b c d) ((j:Int),.mk A)=some (.mk (HL t (gt R.l k) (mv.l.drop j) A)):=by
 intro n;induction n with
 |zero=>
  intro j A hj hA hr;obtain rfl:j=mv.l.length:=by omega
  exact ci (by simp only[ed,j4,cond_false,dN];rfl)
 |succ n ih=>
  intro j A hj hA hr;have hjl:j<mv.l.length:=by omega
  have e:mv.l.drop j=gt mv.l j::mv.l.drop (j+1):=by rw[eA hjl];exact cX hjl
  rw[e];refine(cG ?_).trans (ih (j+1) (vp t (gt R.l k) A (gt mv.l j)) (by omega) (by rw[oS];exact hA) fun s hs=>by rw[ux];exact hr s (by rwa[oS]at hs));simp only[ed,jm hjl,cond_true,bI hjl,ae];rw[FP hb];simp only[ae];unfold vp;cases hd:lq t (gt R.l k) (gt mv.l j)with
  |false=>simp only[cond_false,ae,kz (show j<9223372036854775807 by omega)]
  |true=>
   unfold lq at hd;have hB:sV t (gt mv.l j)=true:=by cases h:sV t (gt mv.l j)with|true=>rfl|false=>rw[h]at hd;cases hd
   unfold sV at hB;simp only[ai,decide_eq_true_eq]at hB;obtain⟨⟨⟨b1,b2⟩,b3⟩,b4⟩:=hB;have s1:(gt mv.l j).1.toNat<A.length:=by omega
   have i1:e_ (af.Sw (gt mv.l j)) A.length=some (gt mv.l j).1.toNat:=fX.2 ⟨by show(gt mv.l j).1=_;omega,s1⟩;have i2:e_ (af.mr (gt mv.l j)) (gt A (gt mv.l j).1.toNat).l.length=some (gt mv.l j).2.1.toNat:=fX.2 ⟨by show(gt mv.l j).2.1=_;omega,by rw[hr _ s1];omega⟩;simp only[cond_true,Sl.kT,i1,i2,ae,kz (show j<9223372036854775807 by omega)]
def vN(t:ah)(r:aj)(h:Nat)(P:List (Sl Int))(m:af):List (Sl Int):=bif(bif m.2.1==(h:Int)then lq t r m else false)then P.set m.1.toNat (.mk ((gt P m.1.toNat).l++[m.2.2.1]))else P
def tH(t:ah)(r:aj)(h:Nat)(mv:List af)(P:List (Sl Int)):List (Sl Int):=mv.foldl (vN t r h) P
theorem r_{t:ah}{r:aj}{h:Nat}{P:List (Sl Int)}{m:af}:(vN t r h P m).length=P.length:=by unfold vN;cases(bif m.2.1==(h:Int)then lq t r m else false)<;>simp
theorem C7{t:ah}{r:aj}{h:Nat}{P:List (Sl Int)}{m:af}(s:Nat):(gt (vN t r h P m) s).l.length<=(gt P s).l.length+1:=by
 unfold vN;cases(bif m.2.1==(h:Int)then lq t r m else false)with
 |false=>exact bH _
 |true=>
  rw[cond_true,m7];split
  .rename_i h;rw[Sl.kT,aF,bD,h.1];exact Nat.le_refl _
  .exact bH _
theorem DU{t:ah}{old now:Sl (Sl Int)}{mv:Sl af}{rd R:Sl aj}{a b c d:Int}{dO:Sl ap}{k h:Nat}(hb:(gt R.l k).2.2.l.length<9223372036854775808)(hm:mv.l.length<=1000000):
  ∀(n j:Nat)(P:List (Sl Int)),j+n=mv.l.length->(P.length:Int)=t.bh->(∀s,s<P.length->(gt P s).l.length+n<=2000000)->
   br (eh R k old now dO rd mv (h:Int) t a b c d) ((j:Int),.mk P)=some (.mk (tH t (gt R.l k) h (mv.l.drop j) P)):=by
 intro n;induction n with
 |zero=>
  intro j P hj hA hr;obtain rfl:j=mv.l.length:=by omega
  exact ci (by simp only[eh,j4,cond_false,dN];rfl)
 |succ n ih=>
  intro j P hj hA hr;have hjl:j<mv.l.length:=by omega
  have e:mv.l.drop j=gt mv.l j::mv.l.drop (j+1):=by rw[eA hjl];exact cX hjl
  rw[e];refine(cG ?_).trans (ih (j+1) (vN t (gt R.l k) h P (gt mv.l j)) (by omega) (by rw[r_];exact hA) fun s hs=>by have:=C7 (t:=t) (r:=gt R.l k) (h:=h) (P:=P) (m:=gt mv.l j) s;have:=hr s (by rwa[r_]at hs);omega);simp only[eh,jm hjl,cond_true,bI hjl,ae];rw[FP hb];have hc:(bif((af.mr (gt mv.l j))==(h:Int))then(some (lq t (gt R.l k) (gt mv.l j)):Option Bool)else some false)=some (bif(gt mv.l j).2.1==(h:Int)then lq t (gt R.l k) (gt mv.l j)else false):=by show(bif((gt mv.l j).2.1==(h:Int))then _ else _)=_;cases((gt mv.l j).2.1==(h:Int))<;>rfl
  rw[hc];simp only[ae];unfold vN;cases hd:(bif(gt mv.l j).2.1==(h:Int)then lq t (gt R.l k) (gt mv.l j)else false)with
  |false=>simp only[cond_false,ae,kz (show j<9223372036854775807 by omega)]
  |true=>
   have hD:lq t (gt R.l k) (gt mv.l j)=true:=by cases hq:((gt mv.l j).2.1==(h:Int))with|true=>rw[hq]at hd;exact hd|false=>rw[hq]at hd;cases hd
   unfold lq at hD;have hB:sV t (gt mv.l j)=true:=by cases h:sV t (gt mv.l j)with|true=>rfl|false=>rw[h]at hD;cases hD
   unfold sV at hB;simp only[ai,decide_eq_true_eq]at hB;obtain⟨⟨⟨b1,b2⟩,b3⟩,b4⟩:=hB;have s1:(gt mv.l j).1.toNat<P.length:=by omega
   have i1:e_ (af.Sw (gt mv.l j)) P.length=some (gt mv.l j).1.toNat:=fX.2 ⟨by show(gt mv.l j).1=_;omega,s1⟩;have:=hr _ s1;have hcap:h_ ((gt P (gt mv.l j).1.toNat).l++[af.mq (gt mv.l j)])=some _:=js (by rw[aF,bD];omega);simp only[cond_true,Sl.kT,i1,ae,hcap,Nat.beq_refl,kz (show j<9223372036854775807 by omega)]
end Go.Proofs.YthcplpfiidlinaaDoor.J
