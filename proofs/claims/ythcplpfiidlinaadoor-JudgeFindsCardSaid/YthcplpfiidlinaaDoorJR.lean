/- Routes: how far a switch is from a host, and what the program's and the document's functions answer. Conditions: as stated. -/
import Derived.Test.YthcplpfiidlinaaDoorJT
open Go.Ev Go
noncomputable section
open Bool renaming eq_iff_iff->du
open List renaming getElem_mem->bZ
open Nat renaming le_refl->au
open Option renaming bind_some->af
open Option.some renaming inj->aa,injEq->bm
namespace Go.Proofs.YthcplpfiidlinaaDoor.J
open Classical in
def tt(p:Prop):Bool:=decide p
theorem BB{p:Prop}:tt p=true<->p:=by simp[tt]
theorem CQ{p:Prop}:tt p=false<->¬p:=by simp[tt]
theorem BC{p:Prop}(h:p):tt p=true:=BB.2 h
theorem x8{p:Prop}(h:¬p):tt p=false:=CQ.2 h
def oE(t:ah)(r:Sl (Sl Int)):Prop:=(∀dj∈r.l,dj.l.length<=12)/\t.bU.l.length<=30/\t.bf.l.length<=12/\r.l.length<=12
instance(t:ah)(r:Sl (Sl Int)):Decidable (oE t r):=by unfold oE;infer_instance
theorem yf{t:ah}{r:Sl (Sl Int)}(hb:r.l.length<9223372036854775808):ot t r=some (decide (oE t r)):=by
 have h:=Rs (f:=m6 r) r.l (fun dj=>decide ((dj.l.length:Int)>12)) hb (fun i hi=>by simp only[m6,jt hi,cond_true,bp hi,af];generalize decide (((gt r.l i).l.length:Int)>12)=c;cases c<;>rfl) (by simp only[m6,kL,cond_false]);unfold ot;rw[h]
 have hr:(∀dj∈r.l,decide ((dj.l.length:Int)>12)=false)<->∀dj∈r.l,dj.l.length<=12:=by
  constructor
  .intro h dj hm;have:=h dj hm;rw[decide_eq_false_iff_not]at this;omega
  .intro h dj hm;have:=h dj hm;rw[decide_eq_false_iff_not];omega
 by_cases hs:∀dj∈r.l,dj.l.length<=12
 .rw [if_pos (hr.2 hs)];simp only[af,bm];rw[du,decide_eq_true_eq (p:=oE t r)];simp only[Bool.and_eq_true,decide_eq_true_eq];constructor
  .intro h;exact⟨hs,by omega,by omega,by omega⟩
  .intro h;obtain⟨_,h1,h2,h3⟩:=h;omega
 .rw [if_neg (fun h=>hs (hr.1 h))];exact congrArg some (decide_eq_false fun h=>hs h.1).symm
structure jl(t:ah)(r:Sl (Sl Int)):Prop where
 t7:lp t
 len:(r.l.length:Int)=t.bq
 aq:∀dj∈r.l,dj.l.length=t.bf.l.length/\∀p∈dj.l,0<=p/\p<8
instance(t:ah)(r:Sl (Sl Int)):Decidable (jl t r):=Classical.propDecidable _
theorem Ch{s:Sl Int}(hb:s.l.length<9223372036854775808):bT s=some (decide (¬∀p∈s.l,0<=p/\p<8)):=by
 have h:=wX (f:=cK s) s.l (fun i p=>if¬(0<=p/\p<8)then some (i:Int)else none) () hb (fun i hi=>by
  have e:((decide ((gt s.l i)<0))||(decide ((gt s.l i)>=8)))=decide (¬(0<=gt s.l i/\gt s.l i<8)):=by rw[du];simp only[Bool.or_eq_true,decide_eq_true_eq];omega
  simp only[cK,jt hi,cond_true,bp hi,af,qp,e];by_cases hc:¬(0<=gt s.l i/\gt s.l i<8)
  .rw [if_pos hc,decide_eq_true hc];rfl
  .rw [if_neg hc,decide_eq_false hc];rfl) (by simp only[cK,kL,cond_false])
 simp only[bT,c8,h,af];cases hs:lW (fun i p=>if¬(0<=p/\p<8)then some (i:Int)else none) s.l 0 with
 |none=>
  have hall:∀p∈s.l,0<=p/\p<8:=by intro p hp;obtain⟨j,hj,rfl⟩:=List.getElem_of_mem hp;have:=nG.1 hs j s.l[j] (by simp[hj]);apply Classical.byContradiction;intro hn;rw[if_pos hn]at this;simp at this
  have e:decide (¬∀p∈s.l,0<=p/\p<8)=false:=decide_eq_false fun h=>h hall;rw[e];rfl
 |some b=>
  obtain⟨j,x,h1,h2,_⟩:=nF hs;split at h2
  .rename_i hx;obtain rfl:=aa h2;have e:decide (¬∀p∈s.l,0<=p/\p<8)=true:=decide_eq_true fun h=>hx (h x (List.mem_of_getElem? h1));rw[e];simp only[af,bm,decide_eq_true_eq];omega
  .simp at h2
theorem wY{t:ah}{r:Sl (Sl Int)}(hb:r.l.length<9223372036854775808)(hrow:∀dj∈r.l,dj.l.length<9223372036854775808):js t r=some (decide (jl t r)):=by
 unfold js;simp only[E5,af];by_cases hV:lp t
 rotate_left
 .rw [decide_eq_false hV];exact congrArg some (decide_eq_false fun h=>hV h.t7).symm
 by_cases hl:(r.l.length:Int)=t.bq
 rotate_left
 .have e:((r.l.length:Int) !=t.bq)=true:=by simpa using hl
  rw[decide_eq_true hV,e];exact congrArg some (decide_eq_false fun h=>hl h.len).symm
 have e:((r.l.length:Int) !=t.bq)=false:=by simpa using hl
 rw[decide_eq_true hV,e];simp only[Bool.not_true,Bool.or_self,cond_false]
 have h:=Rs (f:=jZ t r) r.l (fun dj=>decide (¬(dj.l.length=t.bf.l.length/\∀p∈dj.l,0<=p/\p<8))) hb (fun i hi=>by
  have hm:gt r.l i∈r.l:=by rw[cQ hi];exact bZ _
  simp only[jZ,jt hi,cond_true,bp hi,af,Ch (hrow _ hm)];by_cases h1:(gt r.l i).l.length=t.bf.l.length
  .have e1:(((gt r.l i).l.length:Int) !=(t.bf.l.length:Int))=false:=by rw[h1];simp
   by_cases h2:∀p∈(gt r.l i).l,0<=p/\p<8
   .have e2:decide (¬∀p∈(gt r.l i).l,0<=p/\p<8)=false:=decide_eq_false fun h=>h h2;have e3:decide (¬((gt r.l i).l.length=t.bf.l.length/\∀p∈(gt r.l i).l,0<=p/\p<8))=false:=decide_eq_false fun h=>h ⟨h1,h2⟩;rw[e1,e2,e3];rfl
   .have e2:decide (¬∀p∈(gt r.l i).l,0<=p/\p<8)=true:=decide_eq_true h2;have e3:decide (¬((gt r.l i).l.length=t.bf.l.length/\∀p∈(gt r.l i).l,0<=p/\p<8))=true:=decide_eq_true fun h=>h2 h.2;rw[e1,e2,e3];rfl
  .have e1:(((gt r.l i).l.length:Int) !=(t.bf.l.length:Int))=true:=by rw[bne_iff_ne];omega
   have e3:decide (¬((gt r.l i).l.length=t.bf.l.length/\∀p∈(gt r.l i).l,0<=p/\p<8))=true:=decide_eq_true fun h=>h1 h.1;rw[e1,e3];rfl) (by simp only[jZ,kL,cond_false])
 rw[h]
 have hr:(∀dj∈r.l,decide (¬(dj.l.length=t.bf.l.length/\∀p∈dj.l,0<=p/\p<8))=false)<->∀dj∈r.l,dj.l.length=t.bf.l.length/\∀p∈dj.l,0<=p/\p<8:=by
  constructor
  .intro h dj hm;have:=h dj hm;rw[decide_eq_false_iff_not]at this;exact Classical.not_not.1 this
  .intro h dj hm;exact decide_eq_false fun hn=>hn (h dj hm)
 by_cases hs:∀dj∈r.l,dj.l.length=t.bf.l.length/\∀p∈dj.l,0<=p/\p<8
 .rw [if_pos (hr.2 hs)];exact congrArg some (decide_eq_true ⟨hV,hl,hs⟩).symm
 .rw [if_neg (fun h=>hs (hr.1 h))];exact congrArg some (decide_eq_false fun h=>hs h.aq).symm
section
variable{t:ah}{r:Sl (Sl Int)}{h:Nat}
def c9(r:Sl (Sl Int))(h:Nat)(s:Nat):Int:=gt (gt r.l s).l h
def zL(t:ah)(r:Sl (Sl Int))(h:Nat)(s:Nat):Prop:=(gt t.bf.l h).At=(s:Int)/\(gt t.bf.l h).oF=c9 r h s
instance{s:Nat}:Decidable (zL t r h s):=by unfold zL;infer_instance
def sL(t:ah)(r:Sl (Sl Int))(h:Nat)(s:Nat):Option Nat:=(lW (oW (s:Int) (c9 r h s)) t.bU.l 0).map (·.1.toNat)
theorem jl.dj(hV:jl t r){s:Nat}(hs:s<r.l.length):(gt r.l s).l.length=t.bf.l.length:=by
 have:gt r.l s∈r.l:=by rw[cQ hs];exact bZ _
 exact(hV.aq _ this).1
theorem jl.sG(hV:jl t r):r.l.length<=8:=by have:=hV.len;have:=hV.t7.sw;omega
theorem jl.rX(hV:jl t r):t.bf.l.length<=8:=hV.t7.rX
theorem qL(hV:jl t r)(s:Nat):(sL t r h s=none/\kQ t s (c9 r h s)=(0,0,0,false))\/
  ∃(s':Nat)(b c:Int),sL t r h s=some s'/\s'<r.l.length/\kQ t s (c9 r h s)=((s':Int),b,c,true):=by
 unfold sL kQ;cases hc:lW (oW (s:Int) (c9 r h s)) t.bU.l 0 with|none=>exact .inl ⟨rfl,rfl⟩|some q=>obtain⟨a,b,c⟩:=q;obtain⟨h1,h2⟩:=Hc hV.t7 hc;have:=hV.len;refine .inr ⟨a.toNat,b,c,rfl,by omega,?_⟩;rw[Int.toNat_of_nonneg h1]
theorem Hl(hV:jl t r){s s':Nat}(hn:sL t r h s=some s'):s'<r.l.length:=by
 rcases qL (h:=h) hV s with⟨e,_⟩|⟨s2,_,_,e,h2,_⟩
 .rw [e]at hn;cases hn
 .rw [e]at hn;cases hn;exact h2
inductive iZ(t:ah)(r:Sl (Sl Int))(h:Nat):Nat->Nat->Prop
 |B3 {s:Nat}:zL t r h s->iZ t r h s 0
 |kJ {s s' k:Nat}:¬zL t r h s->sL t r h s=some s'->iZ t r h s' k->iZ t r h s (k+1)
theorem iZ.NA{s a b:Nat}(ha:iZ t r h s a)(hb:iZ t r h s b):a=b:=by
 induction ha generalizing b with
 |B3 h1=>cases hb with|B3 _=>rfl|kJ h2 _ _=>exact absurd h1 h2
 |kJ h1 h2 _ ih=>cases hb with|B3 h3=>exact absurd h3 h1|kJ _ h4 h5=>rw[h2]at h4;cases h4;rw[ih h5]
theorem iZ.N4(hV:jl t r){s k:Nat}(ha:iZ t r h s k)(hs:s<r.l.length):∃w:List Nat,w.length=k+1/\w.Nodup/\∀x∈w,x<r.l.length/\∃j,j<=k/\iZ t r h x j:=by
 induction ha with
 |@B3 s h1=>exact⟨[s],rfl,by simp,fun x hx=>by obtain rfl:=List.mem_singleton.1 hx;exact⟨hs,0,au _,.B3 h1⟩⟩
 |@kJ s s' k h1 h2 h3 ih=>
  obtain⟨w,e1,e2,e3⟩:=ih (Hl hV h2);have eM:=iZ.kJ h1 h2 h3;refine⟨s::w,by simp[e1],List.nodup_cons.2 ⟨fun hm=>?_,e2⟩,fun x hx=>?_⟩
  .obtain ⟨_,j,hj,hj2⟩:=e3 s hm;have:=hj2.NA eM;omega
  .rcases List.mem_cons.1 hx with rfl|hx
   .exact ⟨hs,k+1,au _,eM⟩
   .obtain ⟨a,j,b,c⟩:=e3 x hx;exact⟨a,j,by omega,c⟩
theorem iZ.lt(hV:jl t r){s k:Nat}(ha:iZ t r h s k)(hs:s<r.l.length):k<r.l.length:=by obtain⟨w,h1,h2,h3⟩:=ha.N4 hV hs;have hsub:w⊆List.range r.l.length:=fun x hx=>List.mem_range.2 (h3 x hx).1;have:=h2.length_le_of_subset hsub;simp at this;omega
end
end Go.Proofs.YthcplpfiidlinaaDoor.J
