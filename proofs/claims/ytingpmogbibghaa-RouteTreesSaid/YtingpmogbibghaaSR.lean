/- Routes: how far a switch is from a host. Conditions: as stated. -/
import Derived.Test.YtingpmogbibghaaST
open List renaming getElem_mem->ij
open Nat renaming le_refl->am
open Option renaming bind_some->ae
open Option.some renaming inj->aa,injEq->ce
open Go.Ev Go
noncomputable section
namespace Go.Proofs.Ytingpmogbibghaa.S
def Yo(t:aj)(r:Sl (Sl Int)):Prop:=(∀bw∈r.l,bw.l.length<=12)/\t.aP.l.length<=30/\t.bg.l.length<=12/\r.l.length<=12
instance(t:aj)(r:Sl (Sl Int)):Decidable (Yo t r):=by unfold Yo;infer_instance
structure WU(t:aj)(r:Sl (Sl Int)):Prop where
 X0:lF t
 len:(r.l.length:Int)=t.ah
 WA:∀bw∈r.l,bw.l.length=t.bg.l.length/\∀p∈bw.l,0<=p/\p<8
instance(t:aj)(r:Sl (Sl Int)):Decidable (WU t r):=Classical.propDecidable _
theorem XW{s:Sl Int}(hb:s.l.length<9223372036854775808):WB s=some (decide (¬∀p∈s.l,0<=p/\p<8)):=by
 have h:=BG (f:=WC s) s.l (fun i p=>if¬(0<=p/\p<8)then some (i:Int)else none) () hb (fun i hi=>by
  have e:((decide ((gt s.l i)<0))||(decide ((gt s.l i)>=8)))=decide (¬(0<=gt s.l i/\gt s.l i<8)):=by rw[Bool.eq_iff_iff];simp only[Bool.or_eq_true,decide_eq_true_eq];omega
  simp only[WC,vD hi,cond_true,nA hi,ae,Xj,e];by_cases hc:¬(0<=gt s.l i/\gt s.l i<8)
  .rw [if_pos hc,decide_eq_true hc];rfl
  .rw [if_neg hc,decide_eq_false hc];rfl) (by simp only[WC,Bl,cond_false])
 simp only[WB,WE,h,ae];cases hs:mB (fun i p=>if¬(0<=p/\p<8)then some (i:Int)else none) s.l 0 with
 |none=>
  have hall:∀p∈s.l,0<=p/\p<8:=by intro p hp;obtain⟨j,hj,rfl⟩:=List.getElem_of_mem hp;have:=BF.1 hs j s.l[j] (by simp[hj]);apply Classical.byContradiction;intro hn;rw[if_pos hn]at this;simp at this
  have e:decide (¬∀p∈s.l,0<=p/\p<8)=false:=decide_eq_false fun h=>h hall;rw[e];rfl
 |some b=>
  obtain⟨j,x,h1,h2,_⟩:=qj hs;split at h2
  .rename_i hx;obtain rfl:=aa h2;have e:decide (¬∀p∈s.l,0<=p/\p<8)=true:=decide_eq_true fun h=>hx (h x (List.mem_of_getElem? h1));rw[e];simp only[ae,ce,decide_eq_true_eq];omega
  .simp at h2
theorem XX{t:aj}{r:Sl (Sl Int)}(hb:r.l.length<9223372036854775808)(hrow:∀bw∈r.l,bw.l.length<9223372036854775808):WK t r=some (decide (WU t r)):=by
 unfold WK;simp only[Gb,ae];by_cases hV:lF t
 rotate_left
 .rw [decide_eq_false hV];exact congrArg some (decide_eq_false fun h=>hV h.X0).symm
 by_cases hl:(r.l.length:Int)=t.ah
 rotate_left
 .have e:((r.l.length:Int) !=t.ah)=true:=by simpa using hl
  rw[decide_eq_true hV,e];exact congrArg some (decide_eq_false fun h=>hl h.len).symm
 have e:((r.l.length:Int) !=t.ah)=false:=by simpa using hl
 rw[decide_eq_true hV,e];simp only[Bool.not_true,Bool.or_self,cond_false]
 have h:=R1 (f:=WN t r) r.l (fun bw=>decide (¬(bw.l.length=t.bg.l.length/\∀p∈bw.l,0<=p/\p<8))) hb (fun i hi=>by
  have hm:gt r.l i∈r.l:=by rw[oM hi];exact ij _
  simp only[WN,vD hi,cond_true,nA hi,ae,XW (hrow _ hm)];by_cases h1:(gt r.l i).l.length=t.bg.l.length
  .have e1:(((gt r.l i).l.length:Int) !=(t.bg.l.length:Int))=false:=by rw[h1];simp
   by_cases h2:∀p∈(gt r.l i).l,0<=p/\p<8
   .have e2:decide (¬∀p∈(gt r.l i).l,0<=p/\p<8)=false:=decide_eq_false fun h=>h h2;have e3:decide (¬((gt r.l i).l.length=t.bg.l.length/\∀p∈(gt r.l i).l,0<=p/\p<8))=false:=decide_eq_false fun h=>h ⟨h1,h2⟩;rw[e1,e2,e3];rfl
   .have e2:decide (¬∀p∈(gt r.l i).l,0<=p/\p<8)=true:=decide_eq_true h2;have e3:decide (¬((gt r.l i).l.length=t.bg.l.length/\∀p∈(gt r.l i).l,0<=p/\p<8))=true:=decide_eq_true fun h=>h2 h.2;rw[e1,e2,e3];rfl
  .have e1:(((gt r.l i).l.length:Int) !=(t.bg.l.length:Int))=true:=by rw[bne_iff_ne];omega
   have e3:decide (¬((gt r.l i).l.length=t.bg.l.length/\∀p∈(gt r.l i).l,0<=p/\p<8))=true:=decide_eq_true fun h=>h1 h.1;rw[e1,e3];rfl) (by simp only[WN,Bl,cond_false])
 rw[h]
 have hr:(∀bw∈r.l,decide (¬(bw.l.length=t.bg.l.length/\∀p∈bw.l,0<=p/\p<8))=false)<->∀bw∈r.l,bw.l.length=t.bg.l.length/\∀p∈bw.l,0<=p/\p<8:=by
  constructor
  .intro h bw hm;have:=h bw hm;rw[decide_eq_false_iff_not]at this;exact Classical.not_not.1 this
  .intro h bw hm;exact decide_eq_false fun hn=>hn (h bw hm)
 by_cases hs:∀bw∈r.l,bw.l.length=t.bg.l.length/\∀p∈bw.l,0<=p/\p<8
 .rw [if_pos (hr.2 hs)];exact congrArg some (decide_eq_true ⟨hV,hl,hs⟩).symm
 .rw [if_neg (fun h=>hs (hr.1 h))];exact congrArg some (decide_eq_false fun h=>hs h.WA).symm
section
variable{t:aj}{r:Sl (Sl Int)}{h:Nat}
def W6(r:Sl (Sl Int))(h:Nat)(s:Nat):Int:=gt (gt r.l s).l h
def X2(t:aj)(r:Sl (Sl Int))(h:Nat)(s:Nat):Prop:=(gt t.bg.l h).At=(s:Int)/\(gt t.bg.l h).f_=W6 r h s
instance{s:Nat}:Decidable (X2 t r h s):=by unfold X2;infer_instance
def XD(t:aj)(r:Sl (Sl Int))(h:Nat)(s:Nat):Option Nat:=(mB (qz (s:Int) (W6 r h s)) t.aP.l 0).map (·.1.toNat)
theorem WU.bw(hV:WU t r){s:Nat}(hs:s<r.l.length):(gt r.l s).l.length=t.bg.l.length:=by
 have:gt r.l s∈r.l:=by rw[oM hs];exact ij _
 exact(hV.WA _ this).1
theorem WU.X3(hV:WU t r):r.l.length<=8:=by have:=hV.len;have:=hV.X0.sw;omega
theorem WU.P5(hV:WU t r):t.bg.l.length<=8:=hV.X0.P5
theorem XS(hV:WU t r)(s:Nat):(XD t r h s=none/\LF t s (W6 r h s)=(0,0,0,false))\/
  ∃(s':Nat)(b c:Int),XD t r h s=some s'/\s'<r.l.length/\LF t s (W6 r h s)=((s':Int),b,c,true):=by
 unfold XD LF;cases hc:mB (qz (s:Int) (W6 r h s)) t.aP.l 0 with|none=>exact .inl ⟨rfl,rfl⟩|some q=>obtain⟨a,b,c⟩:=q;obtain⟨h1,h2⟩:=Yi hV.X0 hc;have:=hV.len;refine .inr ⟨a.toNat,b,c,rfl,by omega,?_⟩;rw[Int.toNat_of_nonneg h1]
theorem Yk(hV:WU t r){s s':Nat}(hn:XD t r h s=some s'):s'<r.l.length:=by
 rcases XS (h:=h) hV s with⟨e,_⟩|⟨s2,_,_,e,h2,_⟩
 .rw [e]at hn;cases hn
 .rw [e]at hn;cases hn;exact h2
inductive uZ(t:aj)(r:Sl (Sl Int))(h:Nat):Nat->Nat->Prop
 |XZ {s:Nat}:X2 t r h s->uZ t r h s 0
 |nW {s s' k:Nat}:¬X2 t r h s->XD t r h s=some s'->uZ t r h s' k->uZ t r h s (k+1)
theorem uZ.Yf{s a b:Nat}(ha:uZ t r h s a)(hb:uZ t r h s b):a=b:=by
 induction ha generalizing b with
 |XZ h1=>cases hb with|XZ _=>rfl|nW h2 _ _=>exact absurd h1 h2
 |nW h1 h2 _ ih=>cases hb with|XZ h3=>exact absurd h3 h1|nW _ h4 h5=>rw[h2]at h4;cases h4;rw[ih h5]
theorem uZ.Yj(hV:WU t r){s k:Nat}(ha:uZ t r h s k)(hs:s<r.l.length):∃w:List Nat,w.length=k+1/\w.Nodup/\∀x∈w,x<r.l.length/\∃j,j<=k/\uZ t r h x j:=by
 induction ha with
 |@XZ s h1=>exact⟨[s],rfl,by simp,fun x hx=>by obtain rfl:=List.mem_singleton.1 hx;exact⟨hs,0,am _,.XZ h1⟩⟩
 |@nW s s' k h1 h2 h3 ih=>
  obtain⟨w,e1,e2,e3⟩:=ih (Yk hV h2);have eE:=uZ.nW h1 h2 h3;refine⟨s::w,by simp[e1],List.nodup_cons.2 ⟨fun hm=>?_,e2⟩,fun x hx=>?_⟩
  .obtain ⟨_,j,hj,hj2⟩:=e3 s hm;have:=hj2.Yf eE;omega
  .rcases List.mem_cons.1 hx with rfl|hx
   .exact ⟨hs,k+1,am _,eE⟩
   .obtain ⟨a,j,b,c⟩:=e3 x hx;exact⟨a,j,by omega,c⟩
theorem uZ.lt(hV:WU t r){s k:Nat}(ha:uZ t r h s k)(hs:s<r.l.length):k<r.l.length:=by obtain⟨w,h1,h2,h3⟩:=ha.Yj hV hs;have hsub:w⊆List.range r.l.length:=fun x hx=>List.mem_range.2 (h3 x hx).1;have:=h2.length_le_of_subset hsub;simp at this;omega
end
end Go.Proofs.Ytingpmogbibghaa.S
