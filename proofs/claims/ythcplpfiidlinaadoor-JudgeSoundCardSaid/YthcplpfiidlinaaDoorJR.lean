/- Routes: how far a switch is from a host, and what the program's and the document's functions answer. Conditions: as stated. -/
import Derived.Test.YthcplpfiidlinaaDoorJT
open Go.Ev Go
noncomputable section
open Bool renaming eq_iff_iff->cW
open List renaming getElem_mem->cO
open Nat renaming le_refl->au
open Option renaming bind_some->ae
open Option.some renaming inj->aa,injEq->bq
namespace Go.Proofs.YthcplpfiidlinaaDoor.J
open Classical in
def tt(p:Prop):Bool:=decide p
theorem wB{p:Prop}:tt p=true<->p:=by simp[tt]
theorem Br{p:Prop}:tt p=false<->¬p:=by simp[tt]
theorem Ag{p:Prop}(h:p):tt p=true:=wB.2 h
theorem Ah{p:Prop}(h:¬p):tt p=false:=Br.2 h
def rg(t:ah)(r:Sl (Sl Int)):Prop:=(∀cY∈r.l,cY.l.length<=12)/\t.bT.l.length<=30/\t.a_.l.length<=12/\r.l.length<=12
instance(t:ah)(r:Sl (Sl Int)):Decidable (rg t r):=by unfold rg;infer_instance
theorem wX{t:ah}{r:Sl (Sl Int)}(hb:r.l.length<9223372036854775808):nu t r=some (decide (rg t r)):=by
 have h:=Ml (f:=l_ r) r.l (fun cY=>decide ((cY.l.length:Int)>12)) hb (fun i hi=>by simp only[l_,jm hi,cond_true,bI hi,ae];generalize decide (((gt r.l i).l.length:Int)>12)=c;cases c<;>rfl) (by simp only[l_,j4,cond_false]);unfold nu;rw[h]
 have hr:(∀cY∈r.l,decide ((cY.l.length:Int)>12)=false)<->∀cY∈r.l,cY.l.length<=12:=by
  constructor
  .intro h cY hm;have:=h cY hm;rw[decide_eq_false_iff_not]at this;omega
  .intro h cY hm;have:=h cY hm;rw[decide_eq_false_iff_not];omega
 by_cases hs:∀cY∈r.l,cY.l.length<=12
 .rw [if_pos (hr.2 hs)];simp only[ae,bq];rw[cW,decide_eq_true_eq (p:=rg t r)];simp only[Bool.and_eq_true,decide_eq_true_eq];constructor
  .intro h;exact⟨hs,by omega,by omega,by omega⟩
  .intro h;obtain⟨_,h1,h2,h3⟩:=h;omega
 .rw [if_neg (fun h=>hs (hr.1 h))];exact congrArg some (decide_eq_false fun h=>hs h.1).symm
structure iH(t:ah)(r:Sl (Sl Int)):Prop where
 wg:mn t
 len:(r.l.length:Int)=t.bh
 am:∀cY∈r.l,cY.l.length=t.a_.l.length/\∀p∈cY.l,0<=p/\p<8
instance(t:ah)(r:Sl (Sl Int)):Decidable (iH t r):=Classical.propDecidable _
theorem AX{s:Sl Int}(hb:s.l.length<9223372036854775808):bS s=some (decide (¬∀p∈s.l,0<=p/\p<8)):=by
 have h:=sQ (f:=ct s) s.l (fun i p=>if¬(0<=p/\p<8)then some (i:Int)else none) () hb (fun i hi=>by
  have e:((decide ((gt s.l i)<0))||(decide ((gt s.l i)>=8)))=decide (¬(0<=gt s.l i/\gt s.l i<8)):=by rw[cW];simp only[Bool.or_eq_true,decide_eq_true_eq];omega
  simp only[ct,jm hi,cond_true,bI hi,ae,pK,e];by_cases hc:¬(0<=gt s.l i/\gt s.l i<8)
  .rw [if_pos hc,decide_eq_true hc];rfl
  .rw [if_neg hc,decide_eq_false hc];rfl) (by simp only[ct,j4,cond_false])
 simp only[bS,cH,h,ae];cases hs:kw (fun i p=>if¬(0<=p/\p<8)then some (i:Int)else none) s.l 0 with
 |none=>
  have hall:∀p∈s.l,0<=p/\p<8:=by intro p hp;obtain⟨j,hj,rfl⟩:=List.getElem_of_mem hp;have:=lM.1 hs j s.l[j] (by simp[hj]);apply Classical.byContradiction;intro hn;rw[if_pos hn]at this;simp at this
  have e:decide (¬∀p∈s.l,0<=p/\p<8)=false:=decide_eq_false fun h=>h hall;rw[e];rfl
 |some b=>
  obtain⟨j,x,h1,h2,_⟩:=mI hs;split at h2
  .rename_i hx;obtain rfl:=aa h2;have e:decide (¬∀p∈s.l,0<=p/\p<8)=true:=decide_eq_true fun h=>hx (h x (List.mem_of_getElem? h1));rw[e];simp only[ae,bq,decide_eq_true_eq];omega
  .simp at h2
theorem vS{t:ah}{r:Sl (Sl Int)}(hb:r.l.length<9223372036854775808)(hrow:∀cY∈r.l,cY.l.length<9223372036854775808):iV t r=some (decide (iH t r)):=by
 unfold iV;simp only[Dr,ae];by_cases hV:mn t
 rotate_left
 .rw [decide_eq_false hV];exact congrArg some (decide_eq_false fun h=>hV h.wg).symm
 by_cases hl:(r.l.length:Int)=t.bh
 rotate_left
 .have e:((r.l.length:Int) !=t.bh)=true:=by simpa using hl
  rw[decide_eq_true hV,e];exact congrArg some (decide_eq_false fun h=>hl h.len).symm
 have e:((r.l.length:Int) !=t.bh)=false:=by simpa using hl
 rw[decide_eq_true hV,e];simp only[Bool.not_true,Bool.or_self,cond_false]
 have h:=Ml (f:=jz t r) r.l (fun cY=>decide (¬(cY.l.length=t.a_.l.length/\∀p∈cY.l,0<=p/\p<8))) hb (fun i hi=>by
  have hm:gt r.l i∈r.l:=by rw[eA hi];exact cO _
  simp only[jz,jm hi,cond_true,bI hi,ae,AX (hrow _ hm)];by_cases h1:(gt r.l i).l.length=t.a_.l.length
  .have e1:(((gt r.l i).l.length:Int) !=(t.a_.l.length:Int))=false:=by rw[h1];simp
   by_cases h2:∀p∈(gt r.l i).l,0<=p/\p<8
   .have e2:decide (¬∀p∈(gt r.l i).l,0<=p/\p<8)=false:=decide_eq_false fun h=>h h2;have e3:decide (¬((gt r.l i).l.length=t.a_.l.length/\∀p∈(gt r.l i).l,0<=p/\p<8))=false:=decide_eq_false fun h=>h ⟨h1,h2⟩;rw[e1,e2,e3];rfl
   .have e2:decide (¬∀p∈(gt r.l i).l,0<=p/\p<8)=true:=decide_eq_true h2;have e3:decide (¬((gt r.l i).l.length=t.a_.l.length/\∀p∈(gt r.l i).l,0<=p/\p<8))=true:=decide_eq_true fun h=>h2 h.2;rw[e1,e2,e3];rfl
  .have e1:(((gt r.l i).l.length:Int) !=(t.a_.l.length:Int))=true:=by rw[bne_iff_ne];omega
   have e3:decide (¬((gt r.l i).l.length=t.a_.l.length/\∀p∈(gt r.l i).l,0<=p/\p<8))=true:=decide_eq_true fun h=>h1 h.1;rw[e1,e3];rfl) (by simp only[jz,j4,cond_false])
 rw[h]
 have hr:(∀cY∈r.l,decide (¬(cY.l.length=t.a_.l.length/\∀p∈cY.l,0<=p/\p<8))=false)<->∀cY∈r.l,cY.l.length=t.a_.l.length/\∀p∈cY.l,0<=p/\p<8:=by
  constructor
  .intro h cY hm;have:=h cY hm;rw[decide_eq_false_iff_not]at this;exact Classical.not_not.1 this
  .intro h cY hm;exact decide_eq_false fun hn=>hn (h cY hm)
 by_cases hs:∀cY∈r.l,cY.l.length=t.a_.l.length/\∀p∈cY.l,0<=p/\p<8
 .rw [if_pos (hr.2 hs)];exact congrArg some (decide_eq_true ⟨hV,hl,hs⟩).symm
 .rw [if_neg (fun h=>hs (hr.1 h))];exact congrArg some (decide_eq_false fun h=>hs h.am).symm
section
variable{t:ah}{r:Sl (Sl Int)}{h:Nat}
def jO(r:Sl (Sl Int))(h:Nat)(s:Nat):Int:=gt (gt r.l s).l h
def y_(t:ah)(r:Sl (Sl Int))(h:Nat)(s:Nat):Prop:=(gt t.a_.l h).At=(s:Int)/\(gt t.a_.l h).mq=jO r h s
instance{s:Nat}:Decidable (y_ t r h s):=by unfold y_;infer_instance
def vi(t:ah)(r:Sl (Sl Int))(h:Nat)(s:Nat):Option Nat:=(kw (nh (s:Int) (jO r h s)) t.bT.l 0).map (·.1.toNat)
theorem iH.cY(hV:iH t r){s:Nat}(hs:s<r.l.length):(gt r.l s).l.length=t.a_.l.length:=by
 have:gt r.l s∈r.l:=by rw[eA hs];exact cO _
 exact(hV.am _ this).1
theorem iH.wY(hV:iH t r):r.l.length<=8:=by have:=hV.len;have:=hV.wg.sw;omega
theorem iH.rM(hV:iH t r):t.a_.l.length<=8:=hV.wg.rM
theorem su(hV:iH t r)(s:Nat):(vi t r h s=none/\jA t s (jO r h s)=(0,0,0,false))\/
  ∃(s':Nat)(b c:Int),vi t r h s=some s'/\s'<r.l.length/\jA t s (jO r h s)=((s':Int),b,c,true):=by
 unfold vi jA;cases hc:kw (nh (s:Int) (jO r h s)) t.bT.l 0 with|none=>exact .inl ⟨rfl,rfl⟩|some q=>obtain⟨a,b,c⟩:=q;obtain⟨h1,h2⟩:=Fo hV.wg hc;have:=hV.len;refine .inr ⟨a.toNat,b,c,rfl,by omega,?_⟩;rw[Int.toNat_of_nonneg h1]
theorem Lw(hV:iH t r){s s':Nat}(hn:vi t r h s=some s'):s'<r.l.length:=by
 rcases su (h:=h) hV s with⟨e,_⟩|⟨s2,_,_,e,h2,_⟩
 .rw [e]at hn;cases hn
 .rw [e]at hn;cases hn;exact h2
inductive ip(t:ah)(r:Sl (Sl Int))(h:Nat):Nat->Nat->Prop
 |Cw {s:Nat}:y_ t r h s->ip t r h s 0
 |jK {s s' k:Nat}:¬y_ t r h s->vi t r h s=some s'->ip t r h s' k->ip t r h s (k+1)
theorem ip.KT{s a b:Nat}(ha:ip t r h s a)(hb:ip t r h s b):a=b:=by
 induction ha generalizing b with
 |Cw h1=>cases hb with|Cw _=>rfl|jK h2 _ _=>exact absurd h1 h2
 |jK h1 h2 _ ih=>cases hb with|Cw h3=>exact absurd h3 h1|jK _ h4 h5=>rw[h2]at h4;cases h4;rw[ih h5]
theorem ip.Lk(hV:iH t r){s k:Nat}(ha:ip t r h s k)(hs:s<r.l.length):∃w:List Nat,w.length=k+1/\w.Nodup/\∀x∈w,x<r.l.length/\∃j,j<=k/\ip t r h x j:=by
 induction ha with
 |@Cw s h1=>exact⟨[s],rfl,by simp,fun x hx=>by obtain rfl:=List.mem_singleton.1 hx;exact⟨hs,0,au _,.Cw h1⟩⟩
 |@jK s s' k h1 h2 h3 ih=>
  obtain⟨w,e1,e2,e3⟩:=ih (Lw hV h2);have eC:=ip.jK h1 h2 h3;refine⟨s::w,by simp[e1],List.nodup_cons.2 ⟨fun hm=>?_,e2⟩,fun x hx=>?_⟩
  .obtain ⟨_,j,hj,hj2⟩:=e3 s hm;have:=hj2.KT eC;omega
  .rcases List.mem_cons.1 hx with rfl|hx
   .exact ⟨hs,k+1,au _,eC⟩
   .obtain ⟨a,j,b,c⟩:=e3 x hx;exact⟨a,j,by omega,c⟩
theorem ip.lt(hV:iH t r){s k:Nat}(ha:ip t r h s k)(hs:s<r.l.length):k<r.l.length:=by obtain⟨w,h1,h2,h3⟩:=ha.Lk hV hs;have hsub:w⊆List.range r.l.length:=fun x hx=>List.mem_range.2 (h3 x hx).1;have:=h2.length_le_of_subset hsub;simp at this;omega
end
end Go.Proofs.YthcplpfiidlinaaDoor.J
