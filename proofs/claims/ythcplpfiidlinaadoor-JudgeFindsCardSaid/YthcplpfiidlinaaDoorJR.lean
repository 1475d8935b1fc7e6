/- Routes: how far a switch is from a host, and what the program's and the document's functions answer. Conditions: as stated. -/
import Derived.Test.YthcplpfiidlinaaDoorJT
open Go.Ev Go
noncomputable section
open Bool renaming eq_iff_iff->dq
open List renaming getElem_mem->bZ
open Nat renaming le_refl->au
open Option renaming bind_some->af
open Option.some renaming inj->aa,injEq->bl
namespace Go.Proofs.YthcplpfiidlinaaDoor.J
open Classical in
def tt(p:Prop):Bool:=decide p
theorem Br{p:Prop}:tt p=true<->p:=by simp[tt]
theorem CB{p:Prop}:tt p=false<->¬p:=by simp[tt]
theorem Bs{p:Prop}(h:p):tt p=true:=Br.2 h
theorem xR{p:Prop}(h:¬p):tt p=false:=CB.2 h
def ng(t:ah)(r:Sl (Sl Int)):Prop:=(∀dj∈r.l,dj.l.length<=12)/\t.bU.l.length<=30/\t.bd.l.length<=12/\r.l.length<=12
instance(t:ah)(r:Sl (Sl Int)):Decidable (ng t r):=by unfold ng;infer_instance
theorem xX{t:ah}{r:Sl (Sl Int)}(hb:r.l.length<9223372036854775808):ol t r=some (decide (ng t r)):=by
 have h:=Re (f:=mV r) r.l (fun dj=>decide ((dj.l.length:Int)>12)) hb (fun i hi=>by simp only[mV,js hi,cond_true,bp hi,af];generalize decide (((gt r.l i).l.length:Int)>12)=c;cases c<;>rfl) (by simp only[mV,kH,cond_false]);unfold ol;rw[h]
 have hr:(∀dj∈r.l,decide ((dj.l.length:Int)>12)=false)<->∀dj∈r.l,dj.l.length<=12:=by
  constructor
  .intro h dj hm;have:=h dj hm;rw[decide_eq_false_iff_not]at this;omega
  .intro h dj hm;have:=h dj hm;rw[decide_eq_false_iff_not];omega
 by_cases hs:∀dj∈r.l,dj.l.length<=12
 .rw [if_pos (hr.2 hs)];simp only[af,bl];rw[dq,decide_eq_true_eq (p:=ng t r)];simp only[Bool.and_eq_true,decide_eq_true_eq];constructor
  .intro h;exact⟨hs,by omega,by omega,by omega⟩
  .intro h;obtain⟨_,h1,h2,h3⟩:=h;omega
 .rw [if_neg (fun h=>hs (hr.1 h))];exact congrArg some (decide_eq_false fun h=>hs h.1).symm
structure jk(t:ah)(r:Sl (Sl Int)):Prop where
 tR:lk t
 len:(r.l.length:Int)=t.bq
 ao:∀dj∈r.l,dj.l.length=t.bd.l.length/\∀p∈dj.l,0<=p/\p<8
instance(t:ah)(r:Sl (Sl Int)):Decidable (jk t r):=Classical.propDecidable _
theorem B7{s:Sl Int}(hb:s.l.length<9223372036854775808):bT s=some (decide (¬∀p∈s.l,0<=p/\p<8)):=by
 have h:=wP (f:=cK s) s.l (fun i p=>if¬(0<=p/\p<8)then some (i:Int)else none) () hb (fun i hi=>by
  have e:((decide ((gt s.l i)<0))||(decide ((gt s.l i)>=8)))=decide (¬(0<=gt s.l i/\gt s.l i<8)):=by rw[dq];simp only[Bool.or_eq_true,decide_eq_true_eq];omega
  simp only[cK,js hi,cond_true,bp hi,af,qg,e];by_cases hc:¬(0<=gt s.l i/\gt s.l i<8)
  .rw [if_pos hc,decide_eq_true hc];rfl
  .rw [if_neg hc,decide_eq_false hc];rfl) (by simp only[cK,kH,cond_false])
 simp only[bT,c8,h,af];cases hs:lT (fun i p=>if¬(0<=p/\p<8)then some (i:Int)else none) s.l 0 with
 |none=>
  have hall:∀p∈s.l,0<=p/\p<8:=by intro p hp;obtain⟨j,hj,rfl⟩:=List.getElem_of_mem hp;have:=nD.1 hs j s.l[j] (by simp[hj]);apply Classical.byContradiction;intro hn;rw[if_pos hn]at this;simp at this
  have e:decide (¬∀p∈s.l,0<=p/\p<8)=false:=decide_eq_false fun h=>h hall;rw[e];rfl
 |some b=>
  obtain⟨j,x,h1,h2,_⟩:=nC hs;split at h2
  .rename_i hx;obtain rfl:=aa h2;have e:decide (¬∀p∈s.l,0<=p/\p<8)=true:=decide_eq_true fun h=>hx (h x (List.mem_of_getElem? h1));rw[e];simp only[af,bl,decide_eq_true_eq];omega
  .simp at h2
theorem wQ{t:ah}{r:Sl (Sl Int)}(hb:r.l.length<9223372036854775808)(hrow:∀dj∈r.l,dj.l.length<9223372036854775808):jr t r=some (decide (jk t r)):=by
 unfold jr;simp only[ER,af];by_cases hV:lk t
 rotate_left
 .rw [decide_eq_false hV];exact congrArg some (decide_eq_false fun h=>hV h.tR).symm
 by_cases hl:(r.l.length:Int)=t.bq
 rotate_left
 .have e:((r.l.length:Int) !=t.bq)=true:=by simpa using hl
  rw[decide_eq_true hV,e];exact congrArg some (decide_eq_false fun h=>hl h.len).symm
 have e:((r.l.length:Int) !=t.bq)=false:=by simpa using hl
 rw[decide_eq_true hV,e];simp only[Bool.not_true,Bool.or_self,cond_false]
 have h:=Re (f:=jU t r) r.l (fun dj=>decide (¬(dj.l.length=t.bd.l.length/\∀p∈dj.l,0<=p/\p<8))) hb (fun i hi=>by
  have hm:gt r.l i∈r.l:=by rw[cP hi];exact bZ _
  simp only[jU,js hi,cond_true,bp hi,af,B7 (hrow _ hm)];by_cases h1:(gt r.l i).l.length=t.bd.l.length
  .have e1:(((gt r.l i).l.length:Int) !=(t.bd.l.length:Int))=false:=by rw[h1];simp
   by_cases h2:∀p∈(gt r.l i).l,0<=p/\p<8
   .have e2:decide (¬∀p∈(gt r.l i).l,0<=p/\p<8)=false:=decide_eq_false fun h=>h h2;have e3:decide (¬((gt r.l i).l.length=t.bd.l.length/\∀p∈(gt r.l i).l,0<=p/\p<8))=false:=decide_eq_false fun h=>h ⟨h1,h2⟩;rw[e1,e2,e3];rfl
   .have e2:decide (¬∀p∈(gt r.l i).l,0<=p/\p<8)=true:=decide_eq_true h2;have e3:decide (¬((gt r.l i).l.length=t.bd.l.length/\∀p∈(gt r.l i).l,0<=p/\p<8))=true:=decide_eq_true fun h=>h2 h.2;rw[e1,e2,e3];rfl
  .have e1:(((gt r.l i).l.length:Int) !=(t.bd.l.length:Int))=true:=by rw[bne_iff_ne];omega
   have e3:decide (¬((gt r.l i).l.length=t.bd.l.length/\∀p∈(gt r.l i).l,0<=p/\p<8))=true:=decide_eq_true fun h=>h1 h.1;rw[e1,e3];rfl) (by simp only[jU,kH,cond_false])
 rw[h]
 have hr:(∀dj∈r.l,decide (¬(dj.l.length=t.bd.l.length/\∀p∈dj.l,0<=p/\p<8))=false)<->∀dj∈r.l,dj.l.length=t.bd.l.length/\∀p∈dj.l,0<=p/\p<8:=by
  constructor
  .intro h dj hm;have:=h dj hm;rw[decide_eq_false_iff_not]at this;exact Classical.not_not.1 this
  .intro h dj hm;exact decide_eq_false fun hn=>hn (h dj hm)
 by_cases hs:∀dj∈r.l,dj.l.length=t.bd.l.length/\∀p∈dj.l,0<=p/\p<8
 .rw [if_pos (hr.2 hs)];exact congrArg some (decide_eq_true ⟨hV,hl,hs⟩).symm
 .rw [if_neg (fun h=>hs (hr.1 h))];exact congrArg some (decide_eq_false fun h=>hs h.ao).symm
section
variable{t:ah}{r:Sl (Sl Int)}{h:Nat}
def c9(r:Sl (Sl Int))(h:Nat)(s:Nat):Int:=gt (gt r.l s).l h
def zA(t:ah)(r:Sl (Sl Int))(h:Nat)(s:Nat):Prop:=(gt t.bd.l h).At=(s:Int)/\(gt t.bd.l h).oA=c9 r h s
instance{s:Nat}:Decidable (zA t r h s):=by unfold zA;infer_instance
def sD(t:ah)(r:Sl (Sl Int))(h:Nat)(s:Nat):Option Nat:=(lT (oQ (s:Int) (c9 r h s)) t.bU.l 0).map (·.1.toNat)
theorem jk.dj(hV:jk t r){s:Nat}(hs:s<r.l.length):(gt r.l s).l.length=t.bd.l.length:=by
 have:gt r.l s∈r.l:=by rw[cP hs];exact bZ _
 exact(hV.ao _ this).1
theorem jk.su(hV:jk t r):r.l.length<=8:=by have:=hV.len;have:=hV.tR.sw;omega
theorem jk.rO(hV:jk t r):t.bd.l.length<=8:=hV.tR.rO
theorem qB(hV:jk t r)(s:Nat):(sD t r h s=none/\kN t s (c9 r h s)=(0,0,0,false))\/
  ∃(s':Nat)(b c:Int),sD t r h s=some s'/\s'<r.l.length/\kN t s (c9 r h s)=((s':Int),b,c,true):=by
 unfold sD kN;cases hc:lT (oQ (s:Int) (c9 r h s)) t.bU.l 0 with|none=>exact .inl ⟨rfl,rfl⟩|some q=>obtain⟨a,b,c⟩:=q;obtain⟨h1,h2⟩:=G3 hV.tR hc;have:=hV.len;refine .inr ⟨a.toNat,b,c,rfl,by omega,?_⟩;rw[Int.toNat_of_nonneg h1]
theorem Hc(hV:jk t r){s s':Nat}(hn:sD t r h s=some s'):s'<r.l.length:=by
 rcases qB (h:=h) hV s with⟨e,_⟩|⟨s2,_,_,e,h2,_⟩
 .rw [e]at hn;cases hn
 .rw [e]at hn;cases hn;exact h2
inductive iY(t:ah)(r:Sl (Sl Int))(h:Nat):Nat->Nat->Prop
 |BU {s:Nat}:zA t r h s->iY t r h s 0
 |kF {s s' k:Nat}:¬zA t r h s->sD t r h s=some s'->iY t r h s' k->iY t r h s (k+1)
theorem iY.Np{s a b:Nat}(ha:iY t r h s a)(hb:iY t r h s b):a=b:=by
 induction ha generalizing b with
 |BU h1=>cases hb with|BU _=>rfl|kF h2 _ _=>exact absurd h1 h2
 |kF h1 h2 _ ih=>cases hb with|BU h3=>exact absurd h3 h1|kF _ h4 h5=>rw[h2]at h4;cases h4;rw[ih h5]
theorem iY.NU(hV:jk t r){s k:Nat}(ha:iY t r h s k)(hs:s<r.l.length):∃w:List Nat,w.length=k+1/\w.Nodup/\∀x∈w,x<r.l.length/\∃j,j<=k/\iY t r h x j:=by
 induction ha with
 |@BU s h1=>exact⟨[s],rfl,by simp,fun x hx=>by obtain rfl:=List.mem_singleton.1 hx;exact⟨hs,0,au _,.BU h1⟩⟩
 |@kF s s' k h1 h2 h3 ih=>
  obtain⟨w,e1,e2,e3⟩:=ih (Hc hV h2);have eV:=iY.kF h1 h2 h3;refine⟨s::w,by simp[e1],List.nodup_cons.2 ⟨fun hm=>?_,e2⟩,fun x hx=>?_⟩
  .obtain ⟨_,j,hj,hj2⟩:=e3 s hm;have:=hj2.Np eV;omega
  .rcases List.mem_cons.1 hx with rfl|hx
   .exact ⟨hs,k+1,au _,eV⟩
   .obtain ⟨a,j,b,c⟩:=e3 x hx;exact⟨a,j,by omega,c⟩
theorem iY.lt(hV:jk t r){s k:Nat}(ha:iY t r h s k)(hs:s<r.l.length):k<r.l.length:=by obtain⟨w,h1,h2,h3⟩:=ha.NU hV hs;have hsub:w⊆List.range r.l.length:=fun x hx=>List.mem_range.2 (h3 x hx).1;have:=h2.length_le_of_subset hsub;simp at this;omega
end
end Go.Proofs.YthcplpfiidlinaaDoor.J
