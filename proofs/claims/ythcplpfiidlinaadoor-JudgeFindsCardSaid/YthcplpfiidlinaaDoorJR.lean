/- Routes: how far a switch is from a host, and what the program's and the document's functions answer. Conditions: as stated. -/
import Derived.Test.YthcplpfiidlinaaDoorJT
open Bool renaming eq_iff_iff->dv
open List renaming getElem_mem->ce
open Nat renaming le_refl->au
open Option renaming bind_some->af
open Option.some renaming inj->aa,injEq->bn
open Go.Ev Go
noncomputable section
namespace Go.Proofs.YthcplpfiidlinaaDoor.J
open Classical in
def tt(p:Prop):Bool:=decide p
theorem BK{p:Prop}:tt p=true<->p:=by simp[tt]
theorem CZ{p:Prop}:tt p=false<->¬p:=by simp[tt]
theorem BL{p:Prop}(h:p):tt p=true:=BK.2 h
theorem yf{p:Prop}(h:¬p):tt p=false:=CZ.2 h
def ml(t:ah)(r:Sl (Sl Int)):Prop:=(∀dl∈r.l,dl.l.length<=12)/\t.bW.l.length<=30/\t.bf.l.length<=12/\r.l.length<=12
instance(t:ah)(r:Sl (Sl Int)):Decidable (ml t r):=by unfold ml;infer_instance
theorem rt{t:ah}{r:Sl (Sl Int)}(hb:r.l.length<9223372036854775808):lh t r=some (decide (ml t r)):=by
 have h:=Ru (f:=m_ r) r.l (fun dl=>decide ((dl.l.length:Int)>12)) hb (fun i hi=>by simp only[m_,jw hi,cond_true,bq hi,af];generalize decide (((gt r.l i).l.length:Int)>12)=c;cases c<;>rfl) (by simp only[m_,kO,cond_false]);unfold lh;rw[h]
 have hr:(∀dl∈r.l,decide ((dl.l.length:Int)>12)=false)<->∀dl∈r.l,dl.l.length<=12:=by
  constructor
  .intro h dl hm;have:=h dl hm;rw[decide_eq_false_iff_not]at this;omega
  .intro h dl hm;have:=h dl hm;rw[decide_eq_false_iff_not];omega
 by_cases hs:∀dl∈r.l,dl.l.length<=12
 .rw [if_pos (hr.2 hs)];simp only[af,bn];rw[dv,decide_eq_true_eq (p:=ml t r)];simp only[Bool.and_eq_true,decide_eq_true_eq];constructor
  .intro h;exact⟨hs,by omega,by omega,by omega⟩
  .intro h;obtain⟨_,h1,h2,h3⟩:=h;omega
 .rw [if_neg (fun h=>hs (hr.1 h))];exact congrArg some (decide_eq_false fun h=>hs h.1).symm
structure jo(t:ah)(r:Sl (Sl Int)):Prop where
 sJ:lw t
 len:(r.l.length:Int)=t.br
 aq:∀dl∈r.l,dl.l.length=t.bf.l.length/\∀p∈dl.l,0<=p/\p<8
instance(t:ah)(r:Sl (Sl Int)):Decidable (jo t r):=Classical.propDecidable _
theorem Cr{s:Sl Int}(hb:s.l.length<9223372036854775808):bV s=some (decide (¬∀p∈s.l,0<=p/\p<8)):=by
 have h:=w8 (f:=cL s) s.l (fun i p=>if¬(0<=p/\p<8)then some (i:Int)else none) () hb (fun i hi=>by
  have e:((decide ((gt s.l i)<0))||(decide ((gt s.l i)>=8)))=decide (¬(0<=gt s.l i/\gt s.l i<8)):=by rw[dv];simp only[Bool.or_eq_true,decide_eq_true_eq];omega
  simp only[cL,jw hi,cond_true,bq hi,af,qs,e];by_cases hc:¬(0<=gt s.l i/\gt s.l i<8)
  .rw [if_pos hc,decide_eq_true hc];rfl
  .rw [if_neg hc,decide_eq_false hc];rfl) (by simp only[cL,kO,cond_false])
 simp only[bV,c9,h,af];cases hs:lZ (fun i p=>if¬(0<=p/\p<8)then some (i:Int)else none) s.l 0 with
 |none=>
  have hall:∀p∈s.l,0<=p/\p<8:=by intro p hp;obtain⟨j,hj,rfl⟩:=List.getElem_of_mem hp;have:=nL.1 hs j s.l[j] (by simp[hj]);apply Classical.byContradiction;intro hn;rw[if_pos hn]at this;simp at this
  have e:decide (¬∀p∈s.l,0<=p/\p<8)=false:=decide_eq_false fun h=>h hall;rw[e];rfl
 |some b=>
  obtain⟨j,x,h1,h2,_⟩:=nJ hs;split at h2
  .rename_i hx;obtain rfl:=aa h2;have e:decide (¬∀p∈s.l,0<=p/\p<8)=true:=decide_eq_true fun h=>hx (h x (List.mem_of_getElem? h1));rw[e];simp only[af,bn,decide_eq_true_eq];omega
  .simp at h2
theorem w9{t:ah}{r:Sl (Sl Int)}(hb:r.l.length<9223372036854775808)(hrow:∀dl∈r.l,dl.l.length<9223372036854775808):ju t r=some (decide (jo t r)):=by
 unfold ju;simp only[Fa,af];by_cases hV:lw t
 rotate_left
 .rw [decide_eq_false hV];exact congrArg some (decide_eq_false fun h=>hV h.sJ).symm
 by_cases hl:(r.l.length:Int)=t.br
 rotate_left
 .have e:((r.l.length:Int) !=t.br)=true:=by simpa using hl
  rw[decide_eq_true hV,e];exact congrArg some (decide_eq_false fun h=>hl h.len).symm
 have e:((r.l.length:Int) !=t.br)=false:=by simpa using hl
 rw[decide_eq_true hV,e];simp only[Bool.not_true,Bool.or_self,cond_false]
 have h:=Ru (f:=j3 t r) r.l (fun dl=>decide (¬(dl.l.length=t.bf.l.length/\∀p∈dl.l,0<=p/\p<8))) hb (fun i hi=>by
  have hm:gt r.l i∈r.l:=by rw[cR hi];exact ce _
  simp only[j3,jw hi,cond_true,bq hi,af,Cr (hrow _ hm)];by_cases h1:(gt r.l i).l.length=t.bf.l.length
  .have e1:(((gt r.l i).l.length:Int) !=(t.bf.l.length:Int))=false:=by rw[h1];simp
   by_cases h2:∀p∈(gt r.l i).l,0<=p/\p<8
   .have e2:decide (¬∀p∈(gt r.l i).l,0<=p/\p<8)=false:=decide_eq_false fun h=>h h2;have e3:decide (¬((gt r.l i).l.length=t.bf.l.length/\∀p∈(gt r.l i).l,0<=p/\p<8))=false:=decide_eq_false fun h=>h ⟨h1,h2⟩;rw[e1,e2,e3];rfl
   .have e2:decide (¬∀p∈(gt r.l i).l,0<=p/\p<8)=true:=decide_eq_true h2;have e3:decide (¬((gt r.l i).l.length=t.bf.l.length/\∀p∈(gt r.l i).l,0<=p/\p<8))=true:=decide_eq_true fun h=>h2 h.2;rw[e1,e2,e3];rfl
  .have e1:(((gt r.l i).l.length:Int) !=(t.bf.l.length:Int))=true:=by rw[bne_iff_ne];omega
   have e3:decide (¬((gt r.l i).l.length=t.bf.l.length/\∀p∈(gt r.l i).l,0<=p/\p<8))=true:=decide_eq_true fun h=>h1 h.1;rw[e1,e3];rfl) (by simp only[j3,kO,cond_false])
 rw[h]
 have hr:(∀dl∈r.l,decide (¬(dl.l.length=t.bf.l.length/\∀p∈dl.l,0<=p/\p<8))=false)<->∀dl∈r.l,dl.l.length=t.bf.l.length/\∀p∈dl.l,0<=p/\p<8:=by
  constructor
  .intro h dl hm;have:=h dl hm;rw[decide_eq_false_iff_not]at this;exact Classical.not_not.1 this
  .intro h dl hm;exact decide_eq_false fun hn=>hn (h dl hm)
 by_cases hs:∀dl∈r.l,dl.l.length=t.bf.l.length/\∀p∈dl.l,0<=p/\p<8
 .rw [if_pos (hr.2 hs)];exact congrArg some (decide_eq_true ⟨hV,hl,hs⟩).symm
 .rw [if_neg (fun h=>hs (hr.1 h))];exact congrArg some (decide_eq_false fun h=>hs h.aq).symm
section
variable{t:ah}{r:Sl (Sl Int)}{h:Nat}
def c_(r:Sl (Sl Int))(h:Nat)(s:Nat):Int:=gt (gt r.l s).l h
def zS(t:ah)(r:Sl (Sl Int))(h:Nat)(s:Nat):Prop:=(gt t.bf.l h).At=(s:Int)/\(gt t.bf.l h).oe=c_ r h s
instance{s:Nat}:Decidable (zS t r h s):=by unfold zS;infer_instance
def sR(t:ah)(r:Sl (Sl Int))(h:Nat)(s:Nat):Option Nat:=(lZ (oZ (s:Int) (c_ r h s)) t.bW.l 0).map (·.1.toNat)
theorem jo.dl(hV:jo t r){s:Nat}(hs:s<r.l.length):(gt r.l s).l.length=t.bf.l.length:=by
 have:gt r.l s∈r.l:=by rw[cR hs];exact ce _
 exact(hV.aq _ this).1
theorem jo.sM(hV:jo t r):r.l.length<=8:=by have:=hV.len;have:=hV.sJ.sw;omega
theorem jo.se(hV:jo t r):t.bf.l.length<=8:=hV.sJ.se
theorem qO(hV:jo t r)(s:Nat):(sR t r h s=none/\kT t s (c_ r h s)=(0,0,0,false))\/
  ∃(s':Nat)(b c:Int),sR t r h s=some s'/\s'<r.l.length/\kT t s (c_ r h s)=((s':Int),b,c,true):=by
 unfold sR kT;cases hc:lZ (oZ (s:Int) (c_ r h s)) t.bW.l 0 with|none=>exact .inl ⟨rfl,rfl⟩|some q=>obtain⟨a,b,c⟩:=q;obtain⟨h1,h2⟩:=Hi hV.sJ hc;have:=hV.len;refine .inr ⟨a.toNat,b,c,rfl,by omega,?_⟩;rw[Int.toNat_of_nonneg h1]
theorem Hs(hV:jo t r){s s':Nat}(hn:sR t r h s=some s'):s'<r.l.length:=by
 rcases qO (h:=h) hV s with⟨e,_⟩|⟨s2,_,_,e,h2,_⟩
 .rw [e]at hn;cases hn
 .rw [e]at hn;cases hn;exact h2
inductive ja(t:ah)(r:Sl (Sl Int))(h:Nat):Nat->Nat->Prop
 |Cc {s:Nat}:zS t r h s->ja t r h s 0
 |kM {s s' k:Nat}:¬zS t r h s->sR t r h s=some s'->ja t r h s' k->ja t r h s (k+1)
theorem ja.NF{s a b:Nat}(ha:ja t r h s a)(hb:ja t r h s b):a=b:=by
 induction ha generalizing b with
 |Cc h1=>cases hb with|Cc _=>rfl|kM h2 _ _=>exact absurd h1 h2
 |kM h1 h2 _ ih=>cases hb with|Cc h3=>exact absurd h3 h1|kM _ h4 h5=>rw[h2]at h4;cases h4;rw[ih h5]
theorem ja.N9(hV:jo t r){s k:Nat}(ha:ja t r h s k)(hs:s<r.l.length):∃w:List Nat,w.length=k+1/\w.Nodup/\∀x∈w,x<r.l.length/\∃j,j<=k/\ja t r h x j:=by
 induction ha with
 |@Cc s h1=>exact⟨[s],rfl,by simp,fun x hx=>by obtain rfl:=List.mem_singleton.1 hx;exact⟨hs,0,au _,.Cc h1⟩⟩
 |@kM s s' k h1 h2 h3 ih=>
  obtain⟨w,e1,e2,e3⟩:=ih (Hs hV h2);have eQ:=ja.kM h1 h2 h3;refine⟨s::w,by simp[e1],List.nodup_cons.2 ⟨fun hm=>?_,e2⟩,fun x hx=>?_⟩
  .obtain ⟨_,j,hj,hj2⟩:=e3 s hm;have:=hj2.NF eQ;omega
  .rcases List.mem_cons.1 hx with rfl|hx
   .exact ⟨hs,k+1,au _,eQ⟩
   .obtain ⟨a,j,b,c⟩:=e3 x hx;exact⟨a,j,by omega,c⟩
theorem ja.lt(hV:jo t r){s k:Nat}(ha:ja t r h s k)(hs:s<r.l.length):k<r.l.length:=by obtain⟨w,h1,h2,h3⟩:=ha.N9 hV hs;have hsub:w⊆List.range r.l.length:=fun x hx=>List.mem_range.2 (h3 x hx).1;have:=h2.length_le_of_subset hsub;simp at this;omega
end
end Go.Proofs.YthcplpfiidlinaaDoor.J
