/- Routes: how far a switch is from a host, and what the program's and the document's functions answer. Conditions: as stated. -/
import Derived.Test.YthcplpfiidlinaaDoorJT
open Go.Ev Go
noncomputable section
open Bool renaming eq_iff_iff->dp
open List renaming getElem_mem->bX
open Nat renaming le_refl->au
open Option renaming bind_some->af
open Option.some renaming inj->aa,injEq->bl
namespace Go.Proofs.YthcplpfiidlinaaDoor.J
open Classical in
def tt(p:Prop):Bool:=decide p
theorem Bp{p:Prop}:tt p=true<->p:=by simp[tt]
theorem CD{p:Prop}:tt p=false<->¬p:=by simp[tt]
theorem Bq{p:Prop}(h:p):tt p=true:=Bp.2 h
theorem xT{p:Prop}(h:¬p):tt p=false:=CD.2 h
def m7(t:ah)(r:Sl (Sl Int)):Prop:=(∀di∈r.l,di.l.length<=12)/\t.bS.l.length<=30/\t.bf.l.length<=12/\r.l.length<=12
instance(t:ah)(r:Sl (Sl Int)):Decidable (m7 t r):=by unfold m7;infer_instance
theorem xZ{t:ah}{r:Sl (Sl Int)}(hb:r.l.length<9223372036854775808):n_ t r=some (decide (m7 t r)):=by
 have h:=Q9 (f:=mP r) r.l (fun di=>decide ((di.l.length:Int)>12)) hb (fun i hi=>by simp only[mP,jo hi,cond_true,bA hi,af];generalize decide (((gt r.l i).l.length:Int)>12)=c;cases c<;>rfl) (by simp only[mP,kG,cond_false]);unfold n_;rw[h]
 have hr:(∀di∈r.l,decide ((di.l.length:Int)>12)=false)<->∀di∈r.l,di.l.length<=12:=by
  constructor
  .intro h di hm;have:=h di hm;rw[decide_eq_false_iff_not]at this;omega
  .intro h di hm;have:=h di hm;rw[decide_eq_false_iff_not];omega
 by_cases hs:∀di∈r.l,di.l.length<=12
 .rw [if_pos (hr.2 hs)];simp only[af,bl];rw[dp,decide_eq_true_eq (p:=m7 t r)];simp only[Bool.and_eq_true,decide_eq_true_eq];constructor
  .intro h;exact⟨hs,by omega,by omega,by omega⟩
  .intro h;obtain⟨_,h1,h2,h3⟩:=h;omega
 .rw [if_neg (fun h=>hs (hr.1 h))];exact congrArg some (decide_eq_false fun h=>hs h.1).symm
structure jg(t:ah)(r:Sl (Sl Int)):Prop where
 tR:lh t
 len:(r.l.length:Int)=t.bo
 ao:∀di∈r.l,di.l.length=t.bf.l.length/\∀p∈di.l,0<=p/\p<8
instance(t:ah)(r:Sl (Sl Int)):Decidable (jg t r):=Classical.propDecidable _
theorem B7{s:Sl Int}(hb:s.l.length<9223372036854775808):bR s=some (decide (¬∀p∈s.l,0<=p/\p<8)):=by
 have h:=wP (f:=cI s) s.l (fun i p=>if¬(0<=p/\p<8)then some (i:Int)else none) () hb (fun i hi=>by
  have e:((decide ((gt s.l i)<0))||(decide ((gt s.l i)>=8)))=decide (¬(0<=gt s.l i/\gt s.l i<8)):=by rw[dp];simp only[Bool.or_eq_true,decide_eq_true_eq];omega
  simp only[cI,jo hi,cond_true,bA hi,af,qe,e];by_cases hc:¬(0<=gt s.l i/\gt s.l i<8)
  .rw [if_pos hc,decide_eq_true hc];rfl
  .rw [if_neg hc,decide_eq_false hc];rfl) (by simp only[cI,kG,cond_false])
 simp only[bR,cW,h,af];cases hs:lQ (fun i p=>if¬(0<=p/\p<8)then some (i:Int)else none) s.l 0 with
 |none=>
  have hall:∀p∈s.l,0<=p/\p<8:=by intro p hp;obtain⟨j,hj,rfl⟩:=List.getElem_of_mem hp;have:=ny.1 hs j s.l[j] (by simp[hj]);apply Classical.byContradiction;intro hn;rw[if_pos hn]at this;simp at this
  have e:decide (¬∀p∈s.l,0<=p/\p<8)=false:=decide_eq_false fun h=>h hall;rw[e];rfl
 |some b=>
  obtain⟨j,x,h1,h2,_⟩:=nw hs;split at h2
  .rename_i hx;obtain rfl:=aa h2;have e:decide (¬∀p∈s.l,0<=p/\p<8)=true:=decide_eq_true fun h=>hx (h x (List.mem_of_getElem? h1));rw[e];simp only[af,bl,decide_eq_true_eq];omega
  .simp at h2
theorem wQ{t:ah}{r:Sl (Sl Int)}(hb:r.l.length<9223372036854775808)(hrow:∀di∈r.l,di.l.length<9223372036854775808):jm t r=some (decide (jg t r)):=by
 unfold jm;simp only[EO,af];by_cases hV:lh t
 rotate_left
 .rw [decide_eq_false hV];exact congrArg some (decide_eq_false fun h=>hV h.tR).symm
 by_cases hl:(r.l.length:Int)=t.bo
 rotate_left
 .have e:((r.l.length:Int) !=t.bo)=true:=by simpa using hl
  rw[decide_eq_true hV,e];exact congrArg some (decide_eq_false fun h=>hl h.len).symm
 have e:((r.l.length:Int) !=t.bo)=false:=by simpa using hl
 rw[decide_eq_true hV,e];simp only[Bool.not_true,Bool.or_self,cond_false]
 have h:=Q9 (f:=jT t r) r.l (fun di=>decide (¬(di.l.length=t.bf.l.length/\∀p∈di.l,0<=p/\p<8))) hb (fun i hi=>by
  have hm:gt r.l i∈r.l:=by rw[cY hi];exact bX _
  simp only[jT,jo hi,cond_true,bA hi,af,B7 (hrow _ hm)];by_cases h1:(gt r.l i).l.length=t.bf.l.length
  .have e1:(((gt r.l i).l.length:Int) !=(t.bf.l.length:Int))=false:=by rw[h1];simp
   by_cases h2:∀p∈(gt r.l i).l,0<=p/\p<8
   .have e2:decide (¬∀p∈(gt r.l i).l,0<=p/\p<8)=false:=decide_eq_false fun h=>h h2;have e3:decide (¬((gt r.l i).l.length=t.bf.l.length/\∀p∈(gt r.l i).l,0<=p/\p<8))=false:=decide_eq_false fun h=>h ⟨h1,h2⟩;rw[e1,e2,e3];rfl
   .have e2:decide (¬∀p∈(gt r.l i).l,0<=p/\p<8)=true:=decide_eq_true h2;have e3:decide (¬((gt r.l i).l.length=t.bf.l.length/\∀p∈(gt r.l i).l,0<=p/\p<8))=true:=decide_eq_true fun h=>h2 h.2;rw[e1,e2,e3];rfl
  .have e1:(((gt r.l i).l.length:Int) !=(t.bf.l.length:Int))=true:=by rw[bne_iff_ne];omega
   have e3:decide (¬((gt r.l i).l.length=t.bf.l.length/\∀p∈(gt r.l i).l,0<=p/\p<8))=true:=decide_eq_true fun h=>h1 h.1;rw[e1,e3];rfl) (by simp only[jT,kG,cond_false])
 rw[h]
 have hr:(∀di∈r.l,decide (¬(di.l.length=t.bf.l.length/\∀p∈di.l,0<=p/\p<8))=false)<->∀di∈r.l,di.l.length=t.bf.l.length/\∀p∈di.l,0<=p/\p<8:=by
  constructor
  .intro h di hm;have:=h di hm;rw[decide_eq_false_iff_not]at this;exact Classical.not_not.1 this
  .intro h di hm;exact decide_eq_false fun hn=>hn (h di hm)
 by_cases hs:∀di∈r.l,di.l.length=t.bf.l.length/\∀p∈di.l,0<=p/\p<8
 .rw [if_pos (hr.2 hs)];exact congrArg some (decide_eq_true ⟨hV,hl,hs⟩).symm
 .rw [if_neg (fun h=>hs (hr.1 h))];exact congrArg some (decide_eq_false fun h=>hs h.ao).symm
section
variable{t:ah}{r:Sl (Sl Int)}{h:Nat}
def cZ(r:Sl (Sl Int))(h:Nat)(s:Nat):Int:=gt (gt r.l s).l h
def zB(t:ah)(r:Sl (Sl Int))(h:Nat)(s:Nat):Prop:=(gt t.bf.l h).At=(s:Int)/\(gt t.bf.l h).ot=cZ r h s
instance{s:Nat}:Decidable (zB t r h s):=by unfold zB;infer_instance
def sC(t:ah)(r:Sl (Sl Int))(h:Nat)(s:Nat):Option Nat:=(lQ (oM (s:Int) (cZ r h s)) t.bS.l 0).map (·.1.toNat)
theorem jg.di(hV:jg t r){s:Nat}(hs:s<r.l.length):(gt r.l s).l.length=t.bf.l.length:=by
 have:gt r.l s∈r.l:=by rw[cY hs];exact bX _
 exact(hV.ao _ this).1
theorem jg.sv(hV:jg t r):r.l.length<=8:=by have:=hV.len;have:=hV.tR.sw;omega
theorem jg.rO(hV:jg t r):t.bf.l.length<=8:=hV.tR.rO
theorem qB(hV:jg t r)(s:Nat):(sC t r h s=none/\kL t s (cZ r h s)=(0,0,0,false))\/
  ∃(s':Nat)(b c:Int),sC t r h s=some s'/\s'<r.l.length/\kL t s (cZ r h s)=((s':Int),b,c,true):=by
 unfold sC kL;cases hc:lQ (oM (s:Int) (cZ r h s)) t.bS.l 0 with|none=>exact .inl ⟨rfl,rfl⟩|some q=>obtain⟨a,b,c⟩:=q;obtain⟨h1,h2⟩:=GW hV.tR hc;have:=hV.len;refine .inr ⟨a.toNat,b,c,rfl,by omega,?_⟩;rw[Int.toNat_of_nonneg h1]
theorem G5(hV:jg t r){s s':Nat}(hn:sC t r h s=some s'):s'<r.l.length:=by
 rcases qB (h:=h) hV s with⟨e,_⟩|⟨s2,_,_,e,h2,_⟩
 .rw [e]at hn;cases hn
 .rw [e]at hn;cases hn;exact h2
inductive iT(t:ah)(r:Sl (Sl Int))(h:Nat):Nat->Nat->Prop
 |BS {s:Nat}:zB t r h s->iT t r h s 0
 |kE {s s' k:Nat}:¬zB t r h s->sC t r h s=some s'->iT t r h s' k->iT t r h s (k+1)
theorem iT.Nd{s a b:Nat}(ha:iT t r h s a)(hb:iT t r h s b):a=b:=by
 induction ha generalizing b with
 |BS h1=>cases hb with|BS _=>rfl|kE h2 _ _=>exact absurd h1 h2
 |kE h1 h2 _ ih=>cases hb with|BS h3=>exact absurd h3 h1|kE _ h4 h5=>rw[h2]at h4;cases h4;rw[ih h5]
theorem iT.NK(hV:jg t r){s k:Nat}(ha:iT t r h s k)(hs:s<r.l.length):∃w:List Nat,w.length=k+1/\w.Nodup/\∀x∈w,x<r.l.length/\∃j,j<=k/\iT t r h x j:=by
 induction ha with
 |@BS s h1=>exact⟨[s],rfl,by simp,fun x hx=>by obtain rfl:=List.mem_singleton.1 hx;exact⟨hs,0,au _,.BS h1⟩⟩
 |@kE s s' k h1 h2 h3 ih=>
  obtain⟨w,e1,e2,e3⟩:=ih (G5 hV h2);have eI:=iT.kE h1 h2 h3;refine⟨s::w,by simp[e1],List.nodup_cons.2 ⟨fun hm=>?_,e2⟩,fun x hx=>?_⟩
  .obtain ⟨_,j,hj,hj2⟩:=e3 s hm;have:=hj2.Nd eI;omega
  .rcases List.mem_cons.1 hx with rfl|hx
   .exact ⟨hs,k+1,au _,eI⟩
   .obtain ⟨a,j,b,c⟩:=e3 x hx;exact⟨a,j,by omega,c⟩
theorem iT.lt(hV:jg t r){s k:Nat}(ha:iT t r h s k)(hs:s<r.l.length):k<r.l.length:=by obtain⟨w,h1,h2,h3⟩:=ha.NK hV hs;have hsub:w⊆List.range r.l.length:=fun x hx=>List.mem_range.2 (h3 x hx).1;have:=h2.length_le_of_subset hsub;simp at this;omega
end
end Go.Proofs.YthcplpfiidlinaaDoor.J
