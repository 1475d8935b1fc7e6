/- Routes: how far a switch is from a host, and what the program's and the document's functions answer. Conditions: as stated. -/
import Derived.Test.YthcplpfiidlinaaDoorJT
open Go.Ev Go
noncomputable section
open Bool renaming eq_iff_iff->dq
open List renaming getElem_mem->ce
open Nat renaming le_refl->au
open Option renaming bind_some->af
open Option.some renaming inj->aa,injEq->bm
namespace Go.Proofs.YthcplpfiidlinaaDoor.J
open Classical in
def tt(p:Prop):Bool:=decide p
theorem BB{p:Prop}:tt p=true<->p:=by simp[tt]
theorem CK{p:Prop}:tt p=false<->¬p:=by simp[tt]
theorem BC{p:Prop}(h:p):tt p=true:=BB.2 h
theorem xY{p:Prop}(h:¬p):tt p=false:=CK.2 h
def mg(t:ah)(r:Sl (Sl Int)):Prop:=(∀dj∈r.l,dj.l.length<=12)/\t.bW.l.length<=30/\t.bd.l.length<=12/\r.l.length<=12
instance(t:ah)(r:Sl (Sl Int)):Decidable (mg t r):=by unfold mg;infer_instance
theorem rh{t:ah}{r:Sl (Sl Int)}(hb:r.l.length<9223372036854775808):lg t r=some (decide (mg t r)):=by
 have h:=Ri (f:=mZ r) r.l (fun dj=>decide ((dj.l.length:Int)>12)) hb (fun i hi=>by simp only[mZ,jt hi,cond_true,bq hi,af];generalize decide (((gt r.l i).l.length:Int)>12)=c;cases c<;>rfl) (by simp only[mZ,kK,cond_false]);unfold lg;rw[h]
 have hr:(∀dj∈r.l,decide ((dj.l.length:Int)>12)=false)<->∀dj∈r.l,dj.l.length<=12:=by
  constructor
  .intro h dj hm;have:=h dj hm;rw[decide_eq_false_iff_not]at this;omega
  .intro h dj hm;have:=h dj hm;rw[decide_eq_false_iff_not];omega
 by_cases hs:∀dj∈r.l,dj.l.length<=12
 .rw [if_pos (hr.2 hs)];simp only[af,bm];rw[dq,decide_eq_true_eq (p:=mg t r)];simp only[Bool.and_eq_true,decide_eq_true_eq];constructor
  .intro h;exact⟨hs,by omega,by omega,by omega⟩
  .intro h;obtain⟨_,h1,h2,h3⟩:=h;omega
 .rw [if_neg (fun h=>hs (hr.1 h))];exact congrArg some (decide_eq_false fun h=>hs h.1).symm
structure jl(t:ah)(r:Sl (Sl Int)):Prop where
 sy:lr t
 len:(r.l.length:Int)=t.br
 ao:∀dj∈r.l,dj.l.length=t.bd.l.length/\∀p∈dj.l,0<=p/\p<8
instance(t:ah)(r:Sl (Sl Int)):Decidable (jl t r):=Classical.propDecidable _
theorem Ch{s:Sl Int}(hb:s.l.length<9223372036854775808):bV s=some (decide (¬∀p∈s.l,0<=p/\p<8)):=by
 have h:=wV (f:=cL s) s.l (fun i p=>if¬(0<=p/\p<8)then some (i:Int)else none) () hb (fun i hi=>by
  have e:((decide ((gt s.l i)<0))||(decide ((gt s.l i)>=8)))=decide (¬(0<=gt s.l i/\gt s.l i<8)):=by rw[dq];simp only[Bool.or_eq_true,decide_eq_true_eq];omega
  simp only[cL,jt hi,cond_true,bq hi,af,qj,e];by_cases hc:¬(0<=gt s.l i/\gt s.l i<8)
  .rw [if_pos hc,decide_eq_true hc];rfl
  .rw [if_neg hc,decide_eq_false hc];rfl) (by simp only[cL,kK,cond_false])
 simp only[bV,c9,h,af];cases hs:lW (fun i p=>if¬(0<=p/\p<8)then some (i:Int)else none) s.l 0 with
 |none=>
  have hall:∀p∈s.l,0<=p/\p<8:=by intro p hp;obtain⟨j,hj,rfl⟩:=List.getElem_of_mem hp;have:=nG.1 hs j s.l[j] (by simp[hj]);apply Classical.byContradiction;intro hn;rw[if_pos hn]at this;simp at this
  have e:decide (¬∀p∈s.l,0<=p/\p<8)=false:=decide_eq_false fun h=>h hall;rw[e];rfl
 |some b=>
  obtain⟨j,x,h1,h2,_⟩:=nF hs;split at h2
  .rename_i hx;obtain rfl:=aa h2;have e:decide (¬∀p∈s.l,0<=p/\p<8)=true:=decide_eq_true fun h=>hx (h x (List.mem_of_getElem? h1));rw[e];simp only[af,bm,decide_eq_true_eq];omega
  .simp at h2
theorem wW{t:ah}{r:Sl (Sl Int)}(hb:r.l.length<9223372036854775808)(hrow:∀dj∈r.l,dj.l.length<9223372036854775808):js t r=some (decide (jl t r)):=by
 unfold js;simp only[EW,af];by_cases hV:lr t
 rotate_left
 .rw [decide_eq_false hV];exact congrArg some (decide_eq_false fun h=>hV h.sy).symm
 by_cases hl:(r.l.length:Int)=t.br
 rotate_left
 .have e:((r.l.length:Int) !=t.br)=true:=by simpa using hl
  rw[decide_eq_true hV,e];exact congrArg some (decide_eq_false fun h=>hl h.len).symm
 have e:((r.l.length:Int) !=t.br)=false:=by simpa using hl
 rw[decide_eq_true hV,e];simp only[Bool.not_true,Bool.or_self,cond_false]
 have h:=Ri (f:=jX t r) r.l (fun dj=>decide (¬(dj.l.length=t.bd.l.length/\∀p∈dj.l,0<=p/\p<8))) hb (fun i hi=>by
  have hm:gt r.l i∈r.l:=by rw[cR hi];exact ce _
  simp only[jX,jt hi,cond_true,bq hi,af,Ch (hrow _ hm)];by_cases h1:(gt r.l i).l.length=t.bd.l.length
  .have e1:(((gt r.l i).l.length:Int) !=(t.bd.l.length:Int))=false:=by rw[h1];simp
   by_cases h2:∀p∈(gt r.l i).l,0<=p/\p<8
   .have e2:decide (¬∀p∈(gt r.l i).l,0<=p/\p<8)=false:=decide_eq_false fun h=>h h2;have e3:decide (¬((gt r.l i).l.length=t.bd.l.length/\∀p∈(gt r.l i).l,0<=p/\p<8))=false:=decide_eq_false fun h=>h ⟨h1,h2⟩;rw[e1,e2,e3];rfl
   .have e2:decide (¬∀p∈(gt r.l i).l,0<=p/\p<8)=true:=decide_eq_true h2;have e3:decide (¬((gt r.l i).l.length=t.bd.l.length/\∀p∈(gt r.l i).l,0<=p/\p<8))=true:=decide_eq_true fun h=>h2 h.2;rw[e1,e2,e3];rfl
  .have e1:(((gt r.l i).l.length:Int) !=(t.bd.l.length:Int))=true:=by rw[bne_iff_ne];omega
   have e3:decide (¬((gt r.l i).l.length=t.bd.l.length/\∀p∈(gt r.l i).l,0<=p/\p<8))=true:=decide_eq_true fun h=>h1 h.1;rw[e1,e3];rfl) (by simp only[jX,kK,cond_false])
 rw[h]
 have hr:(∀dj∈r.l,decide (¬(dj.l.length=t.bd.l.length/\∀p∈dj.l,0<=p/\p<8))=false)<->∀dj∈r.l,dj.l.length=t.bd.l.length/\∀p∈dj.l,0<=p/\p<8:=by
  constructor
  .intro h dj hm;have:=h dj hm;rw[decide_eq_false_iff_not]at this;exact Classical.not_not.1 this
  .intro h dj hm;exact decide_eq_false fun hn=>hn (h dj hm)
 by_cases hs:∀dj∈r.l,dj.l.length=t.bd.l.length/\∀p∈dj.l,0<=p/\p<8
 .rw [if_pos (hr.2 hs)];exact congrArg some (decide_eq_true ⟨hV,hl,hs⟩).symm
 .rw [if_neg (fun h=>hs (hr.1 h))];exact congrArg some (decide_eq_false fun h=>hs h.ao).symm
section
variable{t:ah}{r:Sl (Sl Int)}{h:Nat}
def c_(r:Sl (Sl Int))(h:Nat)(s:Nat):Int:=gt (gt r.l s).l h
def zI(t:ah)(r:Sl (Sl Int))(h:Nat)(s:Nat):Prop:=(gt t.bd.l h).At=(s:Int)/\(gt t.bd.l h).oc=c_ r h s
instance{s:Nat}:Decidable (zI t r h s):=by unfold zI;infer_instance
def sJ(t:ah)(r:Sl (Sl Int))(h:Nat)(s:Nat):Option Nat:=(lW (oT (s:Int) (c_ r h s)) t.bW.l 0).map (·.1.toNat)
theorem jl.dj(hV:jl t r){s:Nat}(hs:s<r.l.length):(gt r.l s).l.length=t.bd.l.length:=by
 have:gt r.l s∈r.l:=by rw[cR hs];exact ce _
 exact(hV.ao _ this).1
theorem jl.sC(hV:jl t r):r.l.length<=8:=by have:=hV.len;have:=hV.sy.sw;omega
theorem jl.rT(hV:jl t r):t.bd.l.length<=8:=hV.sy.rT
theorem qE(hV:jl t r)(s:Nat):(sJ t r h s=none/\kQ t s (c_ r h s)=(0,0,0,false))\/
  ∃(s':Nat)(b c:Int),sJ t r h s=some s'/\s'<r.l.length/\kQ t s (c_ r h s)=((s':Int),b,c,true):=by
 unfold sJ kQ;cases hc:lW (oT (s:Int) (c_ r h s)) t.bW.l 0 with|none=>exact .inl ⟨rfl,rfl⟩|some q=>obtain⟨a,b,c⟩:=q;obtain⟨h1,h2⟩:=G7 hV.sy hc;have:=hV.len;refine .inr ⟨a.toNat,b,c,rfl,by omega,?_⟩;rw[Int.toNat_of_nonneg h1]
theorem Hg(hV:jl t r){s s':Nat}(hn:sJ t r h s=some s'):s'<r.l.length:=by
 rcases qE (h:=h) hV s with⟨e,_⟩|⟨s2,_,_,e,h2,_⟩
 .rw [e]at hn;cases hn
 .rw [e]at hn;cases hn;exact h2
inductive i_(t:ah)(r:Sl (Sl Int))(h:Nat):Nat->Nat->Prop
 |B5 {s:Nat}:zI t r h s->i_ t r h s 0
 |kI {s s' k:Nat}:¬zI t r h s->sJ t r h s=some s'->i_ t r h s' k->i_ t r h s (k+1)
theorem i_.Nt{s a b:Nat}(ha:i_ t r h s a)(hb:i_ t r h s b):a=b:=by
 induction ha generalizing b with
 |B5 h1=>cases hb with|B5 _=>rfl|kI h2 _ _=>exact absurd h1 h2
 |kI h1 h2 _ ih=>cases hb with|B5 h3=>exact absurd h3 h1|kI _ h4 h5=>rw[h2]at h4;cases h4;rw[ih h5]
theorem i_.NY(hV:jl t r){s k:Nat}(ha:i_ t r h s k)(hs:s<r.l.length):∃w:List Nat,w.length=k+1/\w.Nodup/\∀x∈w,x<r.l.length/\∃j,j<=k/\i_ t r h x j:=by
 induction ha with
 |@B5 s h1=>exact⟨[s],rfl,by simp,fun x hx=>by obtain rfl:=List.mem_singleton.1 hx;exact⟨hs,0,au _,.B5 h1⟩⟩
 |@kI s s' k h1 h2 h3 ih=>
  obtain⟨w,e1,e2,e3⟩:=ih (Hg hV h2);have eY:=i_.kI h1 h2 h3;refine⟨s::w,by simp[e1],List.nodup_cons.2 ⟨fun hm=>?_,e2⟩,fun x hx=>?_⟩
  .obtain ⟨_,j,hj,hj2⟩:=e3 s hm;have:=hj2.Nt eY;omega
  .rcases List.mem_cons.1 hx with rfl|hx
   .exact ⟨hs,k+1,au _,eY⟩
   .obtain ⟨a,j,b,c⟩:=e3 x hx;exact⟨a,j,by omega,c⟩
theorem i_.lt(hV:jl t r){s k:Nat}(ha:i_ t r h s k)(hs:s<r.l.length):k<r.l.length:=by obtain⟨w,h1,h2,h3⟩:=ha.NY hV hs;have hsub:w⊆List.range r.l.length:=fun x hx=>List.mem_range.2 (h3 x hx).1;have:=h2.length_le_of_subset hsub;simp at this;omega
end
end Go.Proofs.YthcplpfiidlinaaDoor.J
