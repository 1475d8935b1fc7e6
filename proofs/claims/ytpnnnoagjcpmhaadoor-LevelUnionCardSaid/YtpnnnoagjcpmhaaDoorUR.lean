/- Routes: how far a switch is from a host, and what the program's and the document's functions answer. Conditions: as stated. -/
import Derived.Test.YtpnnnoagjcpmhaaDoorUT
open Bool renaming eq_iff_iff->cH,not_true->cg,or_eq_true->bY
open List renaming getElem_mem->bU,length_append->aG,length_singleton->bK
open Nat renaming le_refl->ao
open Option renaming bind_some->ae
open Option.some renaming inj->aa,injEq->bl
open Go.Ev Go
noncomputable section
namespace Go.Proofs.YtpnnnoagjcpmhaaDoor.U
open Classical in
def tt(p:Prop):Bool:=decide p
theorem K8{p:Prop}:tt p=true<->p:=by simp[tt]
theorem vM{p:Prop}:tt p=false<->¬p:=by simp[tt]
theorem CQ{p:Prop}(h:p):tt p=true:=K8.2 h
theorem zm{p:Prop}(h:¬p):tt p=false:=vM.2 h
def rS(t:ah)(r:Sl (Sl Int)):Prop:=(∀cC∈r.l,cC.l.length<=12)/\t.aW.l.length<=30/\t.aR.l.length<=12/\r.l.length<=12
instance(t:ah)(r:Sl (Sl Int)):Decidable (rS t r):=by unfold rS;infer_instance
theorem vT{t:ah}{r:Sl (Sl Int)}(hb:r.l.length<9223372036854775808):mw t r=some (decide (rS t r)):=by
 have h:=Es (f:=lq r) r.l (fun cC=>decide ((cC.l.length:Int)>12)) hb (fun i hi=>by simp only[lq,j4 hi,cond_true,bP hi,ae];generalize decide (((gt r.l i).l.length:Int)>12)=c;cases c<;>rfl) (by simp only[lq,lI,cond_false]);unfold mw;rw[h]
 have hr:(∀cC∈r.l,decide ((cC.l.length:Int)>12)=false)<->∀cC∈r.l,cC.l.length<=12:=by
  constructor
  .intro h cC hm;have:=h cC hm;rw[decide_eq_false_iff_not]at this;omega
  .intro h cC hm;have:=h cC hm;rw[decide_eq_false_iff_not];omega
 by_cases hs:∀cC∈r.l,cC.l.length<=12
 .rw [if_pos (hr.2 hs)];simp only[ae,bl];rw[cH,decide_eq_true_eq (p:=rS t r)];simp only[Bool.and_eq_true,decide_eq_true_eq];constructor
  .intro h;exact⟨hs,by omega,by omega,by omega⟩
  .intro h;obtain⟨_,h1,h2,h3⟩:=h;omega
 .rw [if_neg (fun h=>hs (hr.1 h))];exact congrArg some (decide_eq_false fun h=>hs h.1).symm
structure eV(t:ah)(r:Sl (Sl Int)):Prop where
 rZ:py t
 len:(r.l.length:Int)=t.bF
 aj:∀cC∈r.l,cC.l.length=t.aR.l.length/\∀p∈cC.l,0<=p/\p<8
instance(t:ah)(r:Sl (Sl Int)):Decidable (eV t r):=Classical.propDecidable _
theorem Ah{s:Sl Int}(hb:s.l.length<9223372036854775808):bN s=some (decide (¬∀p∈s.l,0<=p/\p<8)):=by
 have h:=uM (f:=cn s) s.l (fun i p=>if¬(0<=p/\p<8)then some (i:Int)else none) () hb (fun i hi=>by
  have e:((decide ((gt s.l i)<0))||(decide ((gt s.l i)>=8)))=decide (¬(0<=gt s.l i/\gt s.l i<8)):=by rw[cH];simp only[bY,decide_eq_true_eq];omega
  simp only[cn,j4 hi,cond_true,bP hi,ae,oL,e];by_cases hc:¬(0<=gt s.l i/\gt s.l i<8)
  .rw [if_pos hc,decide_eq_true hc];rfl
  .rw [if_neg hc,decide_eq_false hc];rfl) (by simp only[cn,lI,cond_false])
 simp only[bN,cI,h,ae];cases hs:lg (fun i p=>if¬(0<=p/\p<8)then some (i:Int)else none) s.l 0 with
 |none=>
  have hall:∀p∈s.l,0<=p/\p<8:=by intro p hp;obtain⟨j,hj,rfl⟩:=List.getElem_of_mem hp;have:=lP.1 hs j s.l[j] (by simp[hj]);apply Classical.byContradiction;intro hn;rw[if_pos hn]at this;simp at this
  have e:decide (¬∀p∈s.l,0<=p/\p<8)=false:=decide_eq_false fun h=>h hall;rw[e];rfl
 |some b=>
  obtain⟨j,x,h1,h2,_⟩:=kT hs;split at h2
  .rename_i hx;obtain rfl:=aa h2;have e:decide (¬∀p∈s.l,0<=p/\p<8)=true:=decide_eq_true fun h=>hx (h x (List.mem_of_getElem? h1));rw[e];simp only[ae,bl,decide_eq_true_eq];omega
  .simp at h2
theorem A8{t:ah}{r:Sl (Sl Int)}(hb:r.l.length<9223372036854775808)(hrow:∀cC∈r.l,cC.l.length<9223372036854775808):gL t r=some (decide (eV t r)):=by
 unfold gL;simp only[CS,ae];by_cases hV:py t
 rotate_left
 .rw [decide_eq_false hV];exact congrArg some (decide_eq_false fun h=>hV h.rZ).symm
 by_cases hl:(r.l.length:Int)=t.bF
 rotate_left
 .have e:((r.l.length:Int) !=t.bF)=true:=by simpa using hl
  rw[decide_eq_true hV,e];exact congrArg some (decide_eq_false fun h=>hl h.len).symm
 have e:((r.l.length:Int) !=t.bF)=false:=by simpa using hl
 rw[decide_eq_true hV,e];simp only[cg,Bool.or_self,cond_false]
 have h:=Es (f:=iJ t r) r.l (fun cC=>decide (¬(cC.l.length=t.aR.l.length/\∀p∈cC.l,0<=p/\p<8))) hb (fun i hi=>by
  have hm:gt r.l i∈r.l:=by rw[eu hi];exact bU _
  simp only[iJ,j4 hi,cond_true,bP hi,ae,Ah (hrow _ hm)];by_cases h1:(gt r.l i).l.length=t.aR.l.length
  .have e1:(((gt r.l i).l.length:Int) !=(t.aR.l.length:Int))=false:=by rw[h1];simp
   by_cases h2:∀p∈(gt r.l i).l,0<=p/\p<8
   .have e2:decide (¬∀p∈(gt r.l i).l,0<=p/\p<8)=false:=decide_eq_false fun h=>h h2;have e3:decide (¬((gt r.l i).l.length=t.aR.l.length/\∀p∈(gt r.l i).l,0<=p/\p<8))=false:=decide_eq_false fun h=>h ⟨h1,h2⟩;rw[e1,e2,e3];rfl
   .have e2:decide (¬∀p∈(gt r.l i).l,0<=p/\p<8)=true:=decide_eq_true h2;have e3:decide (¬((gt r.l i).l.length=t.aR.l.length/\∀p∈(gt r.l i).l,0<=p/\p<8))=true:=decide_eq_true fun h=>h2 h.2;rw[e1,e2,e3];rfl
  .have e1:(((gt r.l i).l.length:Int) !=(t.aR.l.length:Int))=true:=by rw[bne_iff_ne];omega
   have e3:decide (¬((gt r.l i).l.length=t.aR.l.length/\∀p∈(gt r.l i).l,0<=p/\p<8))=true:=decide_eq_true fun h=>h1 h.1;rw[e1,e3];rfl) (by simp only[iJ,lI,cond_false])
 rw[h]
 have hr:(∀cC∈r.l,decide (¬(cC.l.length=t.aR.l.length/\∀p∈cC.l,0<=p/\p<8))=false)<->∀cC∈r.l,cC.l.length=t.aR.l.length/\∀p∈cC.l,0<=p/\p<8:=by
  constructor
  .intro h cC hm;have:=h cC hm;rw[decide_eq_false_iff_not]at this;exact Classical.not_not.1 this
  .intro h cC hm;exact decide_eq_false fun hn=>hn (h cC hm)
 by_cases hs:∀cC∈r.l,cC.l.length=t.aR.l.length/\∀p∈cC.l,0<=p/\p<8
 .rw [if_pos (hr.2 hs)];exact congrArg some (decide_eq_true ⟨hV,hl,hs⟩).symm
 .rw [if_neg (fun h=>hs (hr.1 h))];exact congrArg some (decide_eq_false fun h=>hs h.aj).symm
theorem nC{t:ah}{r:Sl (Sl Int)}(hS:rS t r):mo t r=some (decide (eV t r)):=by
 unfold mo;simp only[F8 hS.2.1 hS.2.2.1,ae];by_cases hV:py t
 rotate_left
 .rw [decide_eq_false hV];exact congrArg some (decide_eq_false fun h:eV t r=>hV h.rZ).symm
 by_cases hl:(r.l.length:Int)=t.bF
 rotate_left
 .have e:((r.l.length:Int) !=t.bF)=true:=by simpa using hl
  rw[decide_eq_true hV,e];exact congrArg some (decide_eq_false fun h:eV t r=>hl h.len).symm
 have e:((r.l.length:Int) !=t.bF)=false:=by simpa using hl
 rw[decide_eq_true hV,e];simp only[cg,Bool.or_self,cond_false];have hsm:=hS.2.2.2
 have h:=Es (f:=li t r) r.l (fun cC=>decide (¬(cC.l.length=t.aR.l.length/\∀p∈cC.l,0<=p/\p<8))) (by omega) (fun i hi=>by
  have hm:gt r.l i∈r.l:=by rw[eu hi];exact bU _
  have hrl:=hS.1 _ hm;simp only[li,j4 hi,cond_true,bP hi,ae]
  have h1:=Es (f:=lj r (i:Int)) (gt r.l i).l (fun p=>decide (¬(0<=p/\p<8))) (by omega) (fun j hj=>by
   simp only[lj,j4 hj,cond_true,bP hi,bP hj,ae];have e:decide (¬(0<=gt (gt r.l i).l j/\gt (gt r.l i).l j<8))=((decide (gt (gt r.l i).l j<0))||(decide (gt (gt r.l i).l j>7))):=by rw[cH];simp only[bY,decide_eq_true_eq];omega
   rw[e];cases decide (gt (gt r.l i).l j<0)<;>cases decide (gt (gt r.l i).l j>7)<;>rfl) (by simp only[lj,bP hi,ae,lI,cond_false])
  have hr:(∀p∈(gt r.l i).l,decide (¬(0<=p/\p<8))=false)<->∀p∈(gt r.l i).l,0<=p/\p<8:=by
   constructor
   .intro h p hp;have:=h p hp;rw[decide_eq_false_iff_not]at this;omega
   .intro h p hp;have:=h p hp;rw[decide_eq_false_iff_not];omega
  by_cases h1l:(gt r.l i).l.length=t.aR.l.length
  .have e1:(((gt r.l i).l.length:Int) !=(t.aR.l.length:Int))=false:=by rw[h1l];simp
   rw[e1,cond_false,h1];by_cases h2:∀p∈(gt r.l i).l,0<=p/\p<8
   .have e3:decide (¬((gt r.l i).l.length=t.aR.l.length/\∀p∈(gt r.l i).l,0<=p/\p<8))=false:=decide_eq_false fun h=>h ⟨h1l,h2⟩;rw[if_pos (hr.2 h2),e3];rfl
   .have e3:decide (¬((gt r.l i).l.length=t.aR.l.length/\∀p∈(gt r.l i).l,0<=p/\p<8))=true:=decide_eq_true fun h=>h2 h.2;rw[if_neg fun h=>h2 (hr.1 h),e3];rfl
  .have e1:(((gt r.l i).l.length:Int) !=(t.aR.l.length:Int))=true:=by rw[bne_iff_ne];omega
   have e3:decide (¬((gt r.l i).l.length=t.aR.l.length/\∀p∈(gt r.l i).l,0<=p/\p<8))=true:=decide_eq_true fun h=>h1l h.1;rw[e1,cond_true,e3];rfl) (by simp only[li,lI,cond_false])
 rw[h]
 have hr:(∀cC∈r.l,decide (¬(cC.l.length=t.aR.l.length/\∀p∈cC.l,0<=p/\p<8))=false)<->∀cC∈r.l,cC.l.length=t.aR.l.length/\∀p∈cC.l,0<=p/\p<8:=by
  constructor
  .intro h cC hm;have:=h cC hm;rw[decide_eq_false_iff_not]at this;exact Classical.not_not.1 this
  .intro h cC hm;exact decide_eq_false fun hn=>hn (h cC hm)
 by_cases hs:∀cC∈r.l,cC.l.length=t.aR.l.length/\∀p∈cC.l,0<=p/\p<8
 .rw [if_pos (hr.2 hs)];exact congrArg some (decide_eq_true (⟨hV,hl,hs⟩:eV t r)).symm
 .rw [if_neg (fun h=>hs (hr.1 h))];exact congrArg some (decide_eq_false fun h:eV t r=>hs h.aj).symm
section
variable{t:ah}{r:Sl (Sl Int)}{h:Nat}
def cK(r:Sl (Sl Int))(h:Nat)(s:Nat):Int:=gt (gt r.l s).l h
def qq(t:ah)(r:Sl (Sl Int))(h:Nat)(s:Nat):Prop:=(gt t.aR.l h).At=(s:Int)/\(gt t.aR.l h).mN=cK r h s
instance{s:Nat}:Decidable (qq t r h s):=by unfold qq;infer_instance
def oO(t:ah)(r:Sl (Sl Int))(h:Nat)(s:Nat):Option Nat:=(lg (lL (s:Int) (cK r h s)) t.aW.l 0).map (·.1.toNat)
theorem eV.cC(hV:eV t r){s:Nat}(hs:s<r.l.length):(gt r.l s).l.length=t.aR.l.length:=by
 have:gt r.l s∈r.l:=by rw[eu hs];exact bU _
 exact(hV.aj _ this).1
theorem eV.o5(hV:eV t r):r.l.length<=8:=by have:=hV.len;have:=hV.rZ.sw;omega
theorem eV.rM(hV:eV t r):t.aR.l.length<=8:=hV.rZ.rM
theorem o_(hV:eV t r)(s:Nat):(oO t r h s=none/\kV t s (cK r h s)=(0,0,0,false))\/
  ∃(s':Nat)(b c:Int),oO t r h s=some s'/\s'<r.l.length/\kV t s (cK r h s)=((s':Int),b,c,true):=by
 unfold oO kV;cases hc:lg (lL (s:Int) (cK r h s)) t.aW.l 0 with|none=>exact .inl ⟨rfl,rfl⟩|some q=>obtain⟨a,b,c⟩:=q;obtain⟨h1,h2⟩:=Lz hV.rZ hc;have:=hV.len;refine .inr ⟨a.toNat,b,c,rfl,by omega,?_⟩;rw[Int.toNat_of_nonneg h1]
theorem E0(hV:eV t r){s s':Nat}(hn:oO t r h s=some s'):s'<r.l.length:=by
 rcases o_ (h:=h) hV s with⟨e,_⟩|⟨s2,_,_,e,h2,_⟩
 .rw [e]at hn;cases hn
 .rw [e]at hn;cases hn;exact h2
inductive gq(t:ah)(r:Sl (Sl Int))(h:Nat):Nat->Nat->Prop
 |wQ {s:Nat}:qq t r h s->gq t r h s 0
 |iD {s s' k:Nat}:¬qq t r h s->oO t r h s=some s'->gq t r h s' k->gq t r h s (k+1)
theorem gq.K7{s a b:Nat}(ha:gq t r h s a)(hb:gq t r h s b):a=b:=by
 induction ha generalizing b with
 |wQ h1=>cases hb with|wQ _=>rfl|iD h2 _ _=>exact absurd h1 h2
 |iD h1 h2 _ ih=>cases hb with|wQ h3=>exact absurd h3 h1|iD _ h4 h5=>rw[h2]at h4;cases h4;rw[ih h5]
theorem gq.LA(hV:eV t r){s k:Nat}(ha:gq t r h s k)(hs:s<r.l.length):∃w:List Nat,w.length=k+1/\w.Nodup/\∀x∈w,x<r.l.length/\∃j,j<=k/\gq t r h x j:=by
 induction ha with
 |@wQ s h1=>exact⟨[s],rfl,by simp,fun x hx=>by obtain rfl:=List.mem_singleton.1 hx;exact⟨hs,0,ao _,.wQ h1⟩⟩
 |@iD s s' k h1 h2 h3 ih=>
  obtain⟨w,e1,e2,e3⟩:=ih (E0 hV h2);have dA:=gq.iD h1 h2 h3;refine⟨s::w,by simp[e1],List.nodup_cons.2 ⟨fun hm=>?_,e2⟩,fun x hx=>?_⟩
  .obtain ⟨_,j,hj,hj2⟩:=e3 s hm;have:=hj2.K7 dA;omega
  .rcases List.mem_cons.1 hx with rfl|hx
   .exact ⟨hs,k+1,ao _,dA⟩
   .obtain ⟨a,j,b,c⟩:=e3 x hx;exact⟨a,j,by omega,c⟩
theorem gq.lt(hV:eV t r){s k:Nat}(ha:gq t r h s k)(hs:s<r.l.length):k<r.l.length:=by obtain⟨w,h1,h2,h3⟩:=ha.LA hV hs;have hsub:w⊆List.range r.l.length:=fun x hx=>List.mem_range.2 (h3 x hx).1;have:=h2.length_le_of_subset hsub;simp at this;omega
def iW(t:ah)(r:Sl (Sl Int))(h:Nat):Nat->Nat->Int×Bool
 |0,s=>((s:Int),decide (qq t r h s))
 |m+1,s=>if qq t r h s then((s:Int),false)else match oO t r h s with|none=>(-1,false)|some s'=>iW t r h m s'
theorem CZ:∀{m s:Nat},(iW t r h m s).2=true<->gq t r h s m:=by
 intro m;induction m with
 |zero=>intro s;simp only[iW,decide_eq_true_eq];exact⟨.wQ,fun h=>by cases h;assumption⟩
 |succ m ih=>
  intro s;simp only[iW];by_cases hH:qq t r h s
  .rw [if_pos hH];exact⟨fun h=>by simp at h,fun h=>by cases h;contradiction⟩
  .rw [if_neg hH];cases hn:oO t r h s with|none=>exact⟨fun h=>by simp at h,fun h=>by cases h with|iD _ h2 _=>rw[hn]at h2;cases h2⟩|some s'=>exact ih.trans ⟨fun h=>.iD hH hn h,fun h=>by cases h with|iD _ h2 h3=>rw[hn]at h2;cases h2;exact h3⟩
theorem zr{s k:Nat}(ha:gq t r h s k):∀{m:Nat},m<k->∃y:Nat,iW t r h m s=((y:Int),false):=by
 induction ha with
 |wQ h1=>intro m hm;omega
 |@iD s s' k h1 h2 h3 ih=>intro m hm;cases m with|zero=>exact⟨s,by simp only[iW,decide_eq_false h1]⟩|succ m=>simp only[iW,if_neg h1,h2];exact ih (by omega)
theorem HQ{s k:Nat}(ha:gq t r h s k):∃y:Nat,iW t r h k s=((y:Int),true):=by induction ha with|@wQ s h1=>exact⟨s,by simp only[iW,decide_eq_true h1]⟩|@iD s s' k h1 h2 h3 ih=>simp only[iW,if_neg h1,h2];exact ih
theorem tq(hV:eV t r)(hh:h<t.aR.l.length){s:Nat}(hs:s<r.l.length):
  ((fD (h:Int) t.aR.l.length).bind fun n5=>bif((gt t.aR.l n5).At==(s:Int))then((fD (h:Int) t.aR.l.length).bind fun n6=>(fD (s:Int) r.l.length).bind fun n7=>(fD (h:Int) (gt r.l n7).l.length).bind fun n8=>some ((gt t.aR.l n6).mN==gt (gt r.l n7).l n8))else some false)=some (decide (qq t r h s)):=by
 have hhr:h<(gt r.l s).l.length:=by rw[hV.cC hs];exact hh
 simp only[bP hh,bP hs,bP hhr,ae,FA];congr 1;rw[cH,decide_eq_true_eq (p:=qq t r h s)];simp[qq,cK]
theorem uP(hV:eV t r)(hh:h<t.aR.l.length){s:Nat}(hs:s<r.l.length):
  pQ t r (s:Int) (h:Int)=some ((kV t s (cK r h s)).1,(kV t s (cK r h s)).2.2.2):=by
 have hhr:h<(gt r.l s).l.length:=by rw[hV.cC hs];exact hh
 have hlk:=hV.rZ.BK;have h1:decide ((s:Int)<0)=false:=by rw[decide_eq_false_iff_not];omega
 have h2:decide ((s:Int)>=(r.l.length:Int))=false:=by rw[decide_eq_false_iff_not];omega
 have h3:decide ((h:Int)<0)=false:=by rw[decide_eq_false_iff_not];omega
 have h4:decide ((h:Int)>=((gt r.l s).l.length:Int))=false:=by rw[decide_eq_false_iff_not];omega
 simp only[pQ,h1,h2,h3,h4,Bool.or_self,cond_false,bP hs,bP hhr,ae,sN _ _ (show t.aW.l.length<9223372036854775808 by omega),cK]
theorem CY(hV:eV t r)(hh:h<t.aR.l.length){n:Nat}(hn:n<9223372036854775807):∀(m s i:Nat),i+m=n->s<r.l.length->bL (gT t r (h:Int) (n:Int)) ((s:Int),(i:Int))=some (.inl (iW t r h m s)):=by
 intro m;induction m with
 |zero=>
  intro s i hi hs;obtain rfl:i=n:=by omega
  refine cS ?_;simp only[gT,tq hV hh hs,ae,decide_eq_true (Int.le_refl _),cond_true,beq_self_eq_true,iW];cases decide (qq t r h s)<;>rfl
 |succ m ih=>
  intro s i hi hs;have hle:decide ((i:Int)<=(n:Int))=true:=by rw[decide_eq_true_eq];omega
  have hne:((i:Int)==(n:Int))=false:=by rw[beq_eq_false_iff_ne];omega
  by_cases hH:qq t r h s
  .refine cS ?_;simp only[gT,tq hV hh hs,ae,hle,cond_true,decide_eq_true hH,hne,iW,if_pos hH]
  .rcases o_ (h:=h) hV s with⟨e1,e2⟩|⟨s',b,c,e1,hs',e2⟩
   .refine cS ?_;simp only[gT,tq hV hh hs,ae,hle,cond_true,decide_eq_false hH,hne,iW,if_neg hH,e1,uP hV hh hs,e2,Bool.not_false,cond_false]
   .rw [dV (a':=((s':Int),((i+1:Nat):Int))) (by simp only[gT,tq hV hh hs,ae,hle,cond_true,decide_eq_false hH,hne,uP hV hh hs,e2,cg,cond_false,oE (show i<9223372036854775807 by omega)]),ih s' (i+1) (by omega) hs'];simp only[iW,if_neg hH,e1]
theorem mY(hV:eV t r)(hh:h<t.aR.l.length){n:Nat}(hn:n<9223372036854775807){s:Nat}(hs:s<r.l.length):mn t r (s:Int) (h:Int) (n:Int)=some (iW t r h n s):=by simp only[mn,show bL (gT t r (h:Int) (n:Int)) ((s:Int),0)=_ from CY hV hh hn n s 0 (by omega) hs,ae]
theorem oq(hV:eV t r)(hh:h<t.aR.l.length){s:Nat}(hs:s<r.l.length):
  (((((!true)||(decide ((s:Int)<0)))||(decide ((s:Int)>=(r.l.length:Int))))||(decide ((h:Int)<0)))||(decide ((h:Int)>=(t.aR.l.length:Int))))=false:=by
 simp only[cg,Bool.false_or,Bool.or_eq_false_iff,decide_eq_false_iff_not];omega
theorem zC(hS:rS t r)(hV:eV t r)(hh:h<t.aR.l.length){s k:Nat}(hs:s<r.l.length)(ha:gq t r h s k):∃l:List Int,jF t r (s:Int) (h:Int)=some (.mk l,0)/\l.length=k+1:=by
 have hk:=ha.lt hV hs;have hsm:=hV.o5;have hlen:=hV.len
 have main:∀(d i:Nat)(l:Sl Int),i+d=k->l.l.length=i->∃l2:List Int,bL (eh t r (s:Int) (h:Int)) ((i:Int),l)=some (.inl (0,.mk l2))/\l2.length=k+1:=by
  intro d;induction d with
  |zero=>
   intro i l hi hl;obtain rfl:i=k:=by omega
   obtain⟨y,hy⟩:=HQ ha;have hc:decide ((i:Int)<t.bF)=true:=by rw[decide_eq_true_eq];omega
   have hm:((y:Int)==-1)=false:=by rw[beq_eq_false_iff_ne];omega
   exact⟨l.l++[(y:Int)],cS (by simp only[eh,hc,cond_true,mY hV hh (show i<9223372036854775807 by omega) hs,hy,ae,hm,cond_false,jt (show(l.l++[(y:Int)]).length<=2147483648 by rw[aG,bK];omega)]),by simp[hl]⟩
  |succ d ih=>
   intro i l hi hl;obtain⟨y,hy⟩:=zr ha (show i<k by omega);have hc:decide ((i:Int)<t.bF)=true:=by rw[decide_eq_true_eq];omega
   have hm:((y:Int)==-1)=false:=by rw[beq_eq_false_iff_ne];omega
   obtain⟨l2,h1,h2⟩:=ih (i+1) (.mk (l.l++[(y:Int)])) (by omega) (by simp[hl]);exact⟨l2,(dV (by simp only[eh,hc,cond_true,mY hV hh (show i<9223372036854775807 by omega) hs,hy,ae,hm,cond_false,jt (show(l.l++[(y:Int)]).length<=2147483648 by rw[aG,bK];omega),oE (show i<9223372036854775807 by omega)])).trans h1,h2⟩
 obtain⟨l2,h1,h2⟩:=main k 0 .nil (by omega) rfl;have h1:bL (eh t r (s:Int) (h:Int)) (0,Sl.nil)=_:=h1;exact⟨l2,by simp only[jF,nC hS,decide_eq_true hV,ae,oq hV hh hs,cond_false,h1],h2⟩
theorem zB(hS:rS t r)(hV:eV t r)(hh:h<t.aR.l.length){s:Nat}(hs:s<r.l.length)(hno:∀k,¬gq t r h s k):∃e,jF t r (s:Int) (h:Int)=some (.nil,e)/\e≠0:=by
 have hsm:=hV.o5;have hlen:=hV.len;have hfalse:∀m,(iW t r h m s).2=false:=fun m=>by rw[<-Bool.not_eq_true];exact fun e=>hno m (CZ.1 e)
 have main:∀(d i:Nat)(l:Sl Int),i+d=r.l.length->l.l.length=i->bL (eh t r (s:Int) (h:Int)) ((i:Int),l)=some (.inl (13,.nil))\/bL (eh t r (s:Int) (h:Int)) ((i:Int),l)=some (.inr ()):=by
  intro d;induction d with
  |zero=>
   intro i l hi hl;have hc:decide ((i:Int)<t.bF)=false:=by rw[decide_eq_false_iff_not];omega
   exact .inr (cS (by simp only[eh,hc,cond_false]))
  |succ d ih=>
   intro i l hi hl;have hc:decide ((i:Int)<t.bF)=true:=by rw[decide_eq_true_eq];omega
   have hf:=hfalse i;have dA:=mY hV hh (show i<9223372036854775807 by omega) hs;generalize iW t r h i s=q at hf dA;obtain⟨y,b⟩:=q;obtain rfl:b=false:=hf;cases hm:y==-1 with|true=>exact .inl (cS (by simp only[eh,hc,cond_true,dA,ae,hm]))|false=>have e:=dV (f:=eh t r (s:Int) (h:Int)) (a:=((i:Int),l)) (a':=(((i+1:Nat):Int),.mk (l.l++[y]))) (by simp only[eh,hc,cond_true,dA,ae,hm,cond_false,jt (show(l.l++[y]).length<=2147483648 by rw[aG,bK];omega),oE (show i<9223372036854775807 by omega)]);rw[e];exact ih (i+1) _ (by omega) (by simp[hl])
 have dA:=mY hV hh (show r.l.length<9223372036854775807 by omega) hs;rw[hlen]at dA;generalize iW t r h r.l.length s=q at dA;obtain⟨y,b⟩:=q;rcases main r.l.length 0 .nil (by omega) rfl with h1|h1
 .have h1:bL (eh t r (s:Int) (h:Int)) (0,Sl.nil)=_:=h1;exact⟨13,by simp only[jF,nC hS,decide_eq_true hV,ae,oq hV hh hs,cond_false,h1],by decide⟩
 .have h1:bL (eh t r (s:Int) (h:Int)) (0,Sl.nil)=_:=h1;cases hm:y==-1 with|true=>exact⟨13,by simp only[jF,nC hS,decide_eq_true hV,ae,oq hV hh hs,cond_false,h1,dA,hm,cond_true],by decide⟩|false=>exact⟨12,by simp only[jF,nC hS,decide_eq_true hV,ae,oq hV hh hs,cond_false,h1,dA,hm],by decide⟩
end
end Go.Proofs.YtpnnnoagjcpmhaaDoor.U
