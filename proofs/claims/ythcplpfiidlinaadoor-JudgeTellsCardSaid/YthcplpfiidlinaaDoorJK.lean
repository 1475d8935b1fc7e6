/- Findings: the jP, one behind the NV. Conditions: lengths as stated. -/
import Derived.Test.YthcplpfiidlinaaDoorJH
open Go.Ev Go
open Bool renaming and_eq_true->ai
open List renaming drop_eq_getElem_cons->cn,drop_length->dp,length_append->ap,length_set->fy,length_singleton->aW,range->bt
open Nat renaming le_succ->bQ
open Option renaming bind_some->ae
namespace Go.Proofs.YthcplpfiidlinaaDoor.J
theorem oC{α:Type}[Inhabited α]{l:List α}{i j:Nat}{x:α}:gt (l.set i x) j=if i=j/\j<l.length then x else gt l j:=by
 simp only[gt,List.getD,List.getElem?_set];by_cases h:i=j
 .subst h;by_cases hl:i<l.length
  .simp [hl]
  .simp [hl]
 .simp [h]
theorem OF{α:Type}[Inhabited α]{l:List α}{i:Nat}(h:i<l.length):l.set i (gt l i)=l:=by rw[dV h];exact List.set_getElem_self h
theorem K4{α:Type}[Inhabited α]{a b:List α}(hl:a.length=b.length)(h:∀i,i<b.length->gt a i=gt b i):a=b:=by refine List.ext_getElem hl fun i h1 h2=>?_;have:=h i h2;rwa[dV h1,dV h2]at this
theorem I4{s:Sl Int}(hb:s.l.length<=2147483648):jl s=some s:=by unfold jl;cases s with|nil=>rfl|mk l=>have hb:l.length<=2147483648:=hb;simp only[Sl.fM,cond_false,Sl.lp,List.nil_append,fR hb,ae];cases l<;>rfl
theorem Dl{A:List (Sl Int)}{h:Nat}(hrow:∀s,s<A.length->h<(gt A s).l.length)(hn:A.length<=1000000):
  ∀(n i:Nat)(S:List (Sl Int)),i+n=A.length->S.length=A.length->(∀j,j<i->gt S j=.mk [gt (gt A j).l h])->bc (fC (h:Int) (.mk A)) ((i:Int),.mk A,.mk S)=some (.mk A,.mk ((bt A.length).map fun s=>Sl.mk [gt (gt A s).l h])):=by
 intro n;induction n with
 |zero=>
  intro i S hi hS hj;obtain rfl:i=A.length:=by omega
  have e:S=(bt A.length).map fun s=>Sl.mk [gt (gt A s).l h]:=K4 (by simpa using hS) fun j hj2=>by
   have hj3:j<A.length:=by simpa using hj2
   rw[hj j hj3,dV hj2];simp
  rw[<-e];have hlt:decide ((A.length:Int)<((Sl.mk A).l.length:Int))=false:=gk;exact bC (by simp only[fC,hlt,cond_false])
 |succ n ih=>
  intro i S hi hS hj;have hil:i<A.length:=by omega
  refine(bL ?_).trans (ih (i+1) (S.set i (.mk [gt (gt A i).l h])) (by omega) (by rw[fy];exact hS) fun j hj2=>?_)
  .have hlt:decide ((i:Int)<((Sl.mk A).l.length:Int))=true:=fz hil;simp only[fC,hlt,cond_true];simp only[Sl.lp,bm hil,ae,bm (hrow i hil),bm (show i<S.length by omega),OF hil,gB (show i<9223372036854775807 by omega)]
  .rw [oC];split
   .rename_i hc;rw[hc.1]
   .rename_i hc;exact hj j (by omega)
def ml(t:af)(r:aj)(m:ah):Bool:=bif s7 t m then mj r m else false
theorem Hk{t:af}{old now:Sl (Sl Int)}{mv:Sl ah}{rd:Sl aj}{a b c d:Int}{cF:Sl ak}{m:ah}{r:aj}(hb:r.2.2.l.length<9223372036854775808):
  (((fx (⟨t,old,now,(⟨mv,rd,a,b,c,d⟩:am),cF⟩:bH) m).bind fun r116=>bif r116 then((kj r m).bind fun r117=>some r117)else some false):Option Bool)=some (ml t r m):=by
 have hi:fx (⟨t,old,now,(⟨mv,rd,a,b,c,d⟩:am),cF⟩:bH) m=some (s7 t m):=rfl;rw[hi,ae,Ei hb];unfold ml;cases s7 t m<;>rfl
def zi(t:af)(r:aj)(A:List (Sl Int))(m:ah):List (Sl Int):=bif ml t r m then A.set m.1.toNat (.mk ((gt A m.1.toNat).l.set m.2.1.toNat m.2.2.1))else A
def Oe(t:af)(r:aj)(mv:List ah)(A:List (Sl Int)):List (Sl Int):=mv.foldl (zi t r) A
theorem tG{t:af}{r:aj}{A:List (Sl Int)}{m:ah}:(zi t r A m).length=A.length:=by unfold zi;cases ml t r m<;>simp
theorem zh{t:af}{r:aj}{A:List (Sl Int)}{m:ah}(s:Nat):(gt (zi t r A m) s).l.length=(gt A s).l.length:=by
 unfold zi;cases ml t r m with
 |false=>rfl
 |true=>
  rw[cond_true,oC];split
  .rename_i h;rw[Sl.lp,fy,h.1]
  .rfl
theorem KF{t:af}{old now:Sl (Sl Int)}{mv:Sl ah}{rd R:Sl aj}{a b c d:Int}{cF:Sl ak}{k:Nat}(hb:(gt R.l k).2.2.l.length<9223372036854775808)(hm:mv.l.length<=1000000):
  ∀(n j:Nat)(A:List (Sl Int)),j+n=mv.l.length->(A.length:Int)=t.aU->(∀s,s<A.length->(gt A s).l.length=t.aN.l.length)->
   bc (eD R k old mv cF t now rd a b c d) ((j:Int),.mk A)=some (.mk (Oe t (gt R.l k) (mv.l.drop j) A)):=by
 intro n;induction n with
 |zero=>
  intro j A hj hA hr;obtain rfl:j=mv.l.length:=by omega
  exact bC (by simp only[eD,gk,cond_false,dp];rfl)
 |succ n ih=>
  intro j A hj hA hr;have hjl:j<mv.l.length:=by omega
  have e:mv.l.drop j=gt mv.l j::mv.l.drop (j+1):=by rw[dV hjl];exact cn hjl
  rw[e];refine(bL ?_).trans (ih (j+1) (zi t (gt R.l k) A (gt mv.l j)) (by omega) (by rw[tG];exact hA) fun s hs=>by rw[zh];exact hr s (by rwa[tG]at hs));simp only[eD,fz hjl,cond_true,bm hjl,ae];rw[Hk hb];simp only[ae];unfold zi;cases hd:ml t (gt R.l k) (gt mv.l j)with
  |false=>simp only[cond_false,ae,gB (show j<9223372036854775807 by omega)]
  |true=>
   unfold ml at hd;have hB:s7 t (gt mv.l j)=true:=by cases h:s7 t (gt mv.l j)with|true=>rfl|false=>rw[h]at hd;cases hd
   unfold s7 at hB;simp only[ai,decide_eq_true_eq]at hB;obtain⟨⟨⟨b1,b2⟩,b3⟩,b4⟩:=hB;have s1:(gt mv.l j).1.toNat<A.length:=by omega
   have i1:df (ah.Sw (gt mv.l j)) A.length=some (gt mv.l j).1.toNat:=fo.2 ⟨by show(gt mv.l j).1=_;omega,s1⟩;have i2:df (ah.jF (gt mv.l j)) (gt A (gt mv.l j).1.toNat).l.length=some (gt mv.l j).2.1.toNat:=fo.2 ⟨by show(gt mv.l j).2.1=_;omega,by rw[hr _ s1];omega⟩;simp only[cond_true,Sl.lp,i1,i2,ae,gB (show j<9223372036854775807 by omega)]
def xd(t:af)(r:aj)(h:Nat)(P:List (Sl Int))(m:ah):List (Sl Int):=bif(bif m.2.1==(h:Int)then ml t r m else false)then P.set m.1.toNat (.mk ((gt P m.1.toNat).l++[m.2.2.1]))else P
def u4(t:af)(r:aj)(h:Nat)(mv:List ah)(P:List (Sl Int)):List (Sl Int):=mv.foldl (xd t r h) P
theorem tX{t:af}{r:aj}{h:Nat}{P:List (Sl Int)}{m:ah}:(xd t r h P m).length=P.length:=by unfold xd;cases(bif m.2.1==(h:Int)then ml t r m else false)<;>simp
theorem ED{t:af}{r:aj}{h:Nat}{P:List (Sl Int)}{m:ah}(s:Nat):(gt (xd t r h P m) s).l.length<=(gt P s).l.length+1:=by
 unfold xd;cases(bif m.2.1==(h:Int)then ml t r m else false)with
 |false=>exact bQ _
 |true=>
  rw[cond_true,oC];split
  .rename_i h;rw[Sl.lp,ap,aW,h.1];exact Nat.le_refl _
  .exact bQ _
theorem FA{t:af}{old now:Sl (Sl Int)}{mv:Sl ah}{rd R:Sl aj}{a b c d:Int}{cF:Sl ak}{k h:Nat}(hb:(gt R.l k).2.2.l.length<9223372036854775808)(hm:mv.l.length<=1000000):
  ∀(n j:Nat)(P:List (Sl Int)),j+n=mv.l.length->(P.length:Int)=t.aU->(∀s,s<P.length->(gt P s).l.length+n<=2000000)->
   bc (eF R k old now cF rd mv (h:Int) t a b c d) ((j:Int),.mk P)=some (.mk (u4 t (gt R.l k) h (mv.l.drop j) P)):=by
 intro n;induction n with
 |zero=>
  intro j P hj hA hr;obtain rfl:j=mv.l.length:=by omega
  exact bC (by simp only[eF,gk,cond_false,dp];rfl)
 |succ n ih=>
  intro j P hj hA hr;have hjl:j<mv.l.length:=by omega
  have e:mv.l.drop j=gt mv.l j::mv.l.drop (j+1):=by rw[dV hjl];exact cn hjl
  rw[e];refine(bL ?_).trans (ih (j+1) (xd t (gt R.l k) h P (gt mv.l j)) (by omega) (by rw[tX];exact hA) fun s hs=>by have:=ED (t:=t) (r:=gt R.l k) (h:=h) (P:=P) (m:=gt mv.l j) s;have:=hr s (by rwa[tX]at hs);omega);simp only[eF,fz hjl,cond_true,bm hjl,ae];rw[Hk hb];have hc:(bif((ah.jF (gt mv.l j))==(h:Int))then(some (ml t (gt R.l k) (gt mv.l j)):Option Bool)else some false)=some (bif(gt mv.l j).2.1==(h:Int)then ml t (gt R.l k) (gt mv.l j)else false):=by show(bif((gt mv.l j).2.1==(h:Int))then _ else _)=_;cases((gt mv.l j).2.1==(h:Int))<;>rfl
  rw[hc];simp only[ae];unfold xd;cases hd:(bif(gt mv.l j).2.1==(h:Int)then ml t (gt R.l k) (gt mv.l j)else false)with
  |false=>simp only[cond_false,ae,gB (show j<9223372036854775807 by omega)]
  |true=>
   have hD:ml t (gt R.l k) (gt mv.l j)=true:=by cases hq:((gt mv.l j).2.1==(h:Int))with|true=>rw[hq]at hd;exact hd|false=>rw[hq]at hd;cases hd
   unfold ml at hD;have hB:s7 t (gt mv.l j)=true:=by cases h:s7 t (gt mv.l j)with|true=>rfl|false=>rw[h]at hD;cases hD
   unfold s7 at hB;simp only[ai,decide_eq_true_eq]at hB;obtain⟨⟨⟨b1,b2⟩,b3⟩,b4⟩:=hB;have s1:(gt mv.l j).1.toNat<P.length:=by omega
   have i1:df (ah.Sw (gt mv.l j)) P.length=some (gt mv.l j).1.toNat:=fo.2 ⟨by show(gt mv.l j).1=_;omega,s1⟩;have:=hr _ s1;have hcap:fF ((gt P (gt mv.l j).1.toNat).l++[ah.h_ (gt mv.l j)])=some _:=fR (by rw[ap,aW];omega);simp only[cond_true,Sl.lp,i1,ae,hcap,Nat.beq_refl,gB (show j<9223372036854775807 by omega)]
end Go.Proofs.YthcplpfiidlinaaDoor.J
