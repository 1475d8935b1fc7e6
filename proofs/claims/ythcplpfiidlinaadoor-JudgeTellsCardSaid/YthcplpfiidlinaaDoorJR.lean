/- Routes: how far a switch is from a host, and what the program's and the document's functions answer. Conditions: as stated. -/
import Derived.Test.YthcplpfiidlinaaDoorJT
open Go.Ev Go
noncomputable section
open Bool renaming eq_iff_iff->bT,not_true->bO,or_eq_true->cA
open List renaming getElem_mem->ct,length_append->ap,length_singleton->aW
open Nat renaming le_refl->aw
open Option renaming bind_some->ae
open Option.some renaming inj->aa,injEq->bE
namespace Go.Proofs.YthcplpfiidlinaaDoor.J
open Classical in
def tt(p:Prop):Bool:=decide p
theorem xV{p:Prop}:tt p=true<->p:=by simp[tt]
theorem vq{p:Prop}:tt p=false<->¬p:=by simp[tt]
theorem uQ{p:Prop}(h:p):tt p=true:=xV.2 h
theorem rU{p:Prop}(h:¬p):tt p=false:=vq.2 h
def o5(t:af)(r:Sl (Sl Int)):Prop:=(∀cU∈r.l,cU.l.length<=12)/\t.aY.l.length<=30/\t.aN.l.length<=12/\r.l.length<=12
instance(t:af)(r:Sl (Sl Int)):Decidable (o5 t r):=by unfold o5;infer_instance
theorem yv{t:af}{r:Sl (Sl Int)}(hb:r.l.length<9223372036854775808):oS t r=some (decide (o5 t r)):=by
 have h:=Av (f:=ng r) r.l (fun cU=>decide ((cU.l.length:Int)>12)) hb (fun i hi=>by simp only[ng,fz hi,cond_true,bm hi,ae];generalize decide (((gt r.l i).l.length:Int)>12)=c;cases c<;>rfl) (by simp only[ng,gk,cond_false]);unfold oS;rw[h]
 have hr:(∀cU∈r.l,decide ((cU.l.length:Int)>12)=false)<->∀cU∈r.l,cU.l.length<=12:=by
  constructor
  .intro h cU hm;have:=h cU hm;rw[decide_eq_false_iff_not]at this;omega
  .intro h cU hm;have:=h cU hm;rw[decide_eq_false_iff_not];omega
 by_cases hs:∀cU∈r.l,cU.l.length<=12
 .rw [if_pos (hr.2 hs)];simp only[ae,bE];rw[bT,decide_eq_true_eq (p:=o5 t r)];simp only[Bool.and_eq_true,decide_eq_true_eq];constructor
  .intro h;exact⟨hs,by omega,by omega,by omega⟩
  .intro h;obtain⟨_,h1,h2,h3⟩:=h;omega
 .rw [if_neg (fun h=>hs (hr.1 h))];exact congrArg some (decide_eq_false fun h=>hs h.1).symm
structure fq(t:af)(r:Sl (Sl Int)):Prop where
 vu:kS t
 len:(r.l.length:Int)=t.aU
 ao:∀cU∈r.l,cU.l.length=t.aN.l.length/\∀p∈cU.l,0<=p/\p<8
instance(t:af)(r:Sl (Sl Int)):Decidable (fq t r):=Classical.propDecidable _
theorem Cj{s:Sl Int}(hb:s.l.length<9223372036854775808):cf s=some (decide (¬∀p∈s.l,0<=p/\p<8)):=by
 have h:=tn (f:=cI s) s.l (fun i p=>if¬(0<=p/\p<8)then some (i:Int)else none) () hb (fun i hi=>by
  have e:((decide ((gt s.l i)<0))||(decide ((gt s.l i)>=8)))=decide (¬(0<=gt s.l i/\gt s.l i<8)):=by rw[bT];simp only[cA,decide_eq_true_eq];omega
  simp only[cI,fz hi,cond_true,bm hi,ae,qT,e];by_cases hc:¬(0<=gt s.l i/\gt s.l i<8)
  .rw [if_pos hc,decide_eq_true hc];rfl
  .rw [if_neg hc,decide_eq_false hc];rfl) (by simp only[cI,gk,cond_false])
 simp only[cf,cV,h,ae];cases hs:lP (fun i p=>if¬(0<=p/\p<8)then some (i:Int)else none) s.l 0 with
 |none=>
  have hall:∀p∈s.l,0<=p/\p<8:=by intro p hp;obtain⟨j,hj,rfl⟩:=List.getElem_of_mem hp;have:=nM.1 hs j s.l[j] (by simp[hj]);apply Classical.byContradiction;intro hn;rw[if_pos hn]at this;simp at this
  have e:decide (¬∀p∈s.l,0<=p/\p<8)=false:=decide_eq_false fun h=>h hall;rw[e];rfl
 |some b=>
  obtain⟨j,x,h1,h2,_⟩:=nL hs;split at h2
  .rename_i hx;obtain rfl:=aa h2;have e:decide (¬∀p∈s.l,0<=p/\p<8)=true:=decide_eq_true fun h=>hx (h x (List.mem_of_getElem? h1));rw[e];simp only[ae,bE,decide_eq_true_eq];omega
  .simp at h2
theorem xl{t:af}{r:Sl (Sl Int)}(hb:r.l.length<9223372036854775808)(hrow:∀cU∈r.l,cU.l.length<9223372036854775808):jm t r=some (decide (fq t r)):=by
 unfold jm;simp only[EY,ae];by_cases hV:kS t
 rotate_left
 .rw [decide_eq_false hV];exact congrArg some (decide_eq_false fun h=>hV h.vu).symm
 by_cases hl:(r.l.length:Int)=t.aU
 rotate_left
 .have e:((r.l.length:Int) !=t.aU)=true:=by simpa using hl
  rw[decide_eq_true hV,e];exact congrArg some (decide_eq_false fun h=>hl h.len).symm
 have e:((r.l.length:Int) !=t.aU)=false:=by simpa using hl
 rw[decide_eq_true hV,e];simp only[bO,Bool.or_self,cond_false]
 have h:=Av (f:=jO t r) r.l (fun cU=>decide (¬(cU.l.length=t.aN.l.length/\∀p∈cU.l,0<=p/\p<8))) hb (fun i hi=>by
  have hm:gt r.l i∈r.l:=by rw[dV hi];exact ct _
  simp only[jO,fz hi,cond_true,bm hi,ae,Cj (hrow _ hm)];by_cases h1:(gt r.l i).l.length=t.aN.l.length
  .have e1:(((gt r.l i).l.length:Int) !=(t.aN.l.length:Int))=false:=by rw[h1];simp
   by_cases h2:∀p∈(gt r.l i).l,0<=p/\p<8
   .have e2:decide (¬∀p∈(gt r.l i).l,0<=p/\p<8)=false:=decide_eq_false fun h=>h h2;have e3:decide (¬((gt r.l i).l.length=t.aN.l.length/\∀p∈(gt r.l i).l,0<=p/\p<8))=false:=decide_eq_false fun h=>h ⟨h1,h2⟩;rw[e1,e2,e3];rfl
   .have e2:decide (¬∀p∈(gt r.l i).l,0<=p/\p<8)=true:=decide_eq_true h2;have e3:decide (¬((gt r.l i).l.length=t.aN.l.length/\∀p∈(gt r.l i).l,0<=p/\p<8))=true:=decide_eq_true fun h=>h2 h.2;rw[e1,e2,e3];rfl
  .have e1:(((gt r.l i).l.length:Int) !=(t.aN.l.length:Int))=true:=by rw[bne_iff_ne];omega
   have e3:decide (¬((gt r.l i).l.length=t.aN.l.length/\∀p∈(gt r.l i).l,0<=p/\p<8))=true:=decide_eq_true fun h=>h1 h.1;rw[e1,e3];rfl) (by simp only[jO,gk,cond_false])
 rw[h]
 have hr:(∀cU∈r.l,decide (¬(cU.l.length=t.aN.l.length/\∀p∈cU.l,0<=p/\p<8))=false)<->∀cU∈r.l,cU.l.length=t.aN.l.length/\∀p∈cU.l,0<=p/\p<8:=by
  constructor
  .intro h cU hm;have:=h cU hm;rw[decide_eq_false_iff_not]at this;exact Classical.not_not.1 this
  .intro h cU hm;exact decide_eq_false fun hn=>hn (h cU hm)
 by_cases hs:∀cU∈r.l,cU.l.length=t.aN.l.length/\∀p∈cU.l,0<=p/\p<8
 .rw [if_pos (hr.2 hs)];exact congrArg some (decide_eq_true ⟨hV,hl,hs⟩).symm
 .rw [if_neg (fun h=>hs (hr.1 h))];exact congrArg some (decide_eq_false fun h=>hs h.ao).symm
theorem pW{t:af}{r:Sl (Sl Int)}(hS:o5 t r):oM t r=some (decide (fq t r)):=by
 unfold oM;simp only[HX hS.2.1 hS.2.2.1,ae];by_cases hV:kS t
 rotate_left
 .rw [decide_eq_false hV];exact congrArg some (decide_eq_false fun h:fq t r=>hV h.vu).symm
 by_cases hl:(r.l.length:Int)=t.aU
 rotate_left
 .have e:((r.l.length:Int) !=t.aU)=true:=by simpa using hl
  rw[decide_eq_true hV,e];exact congrArg some (decide_eq_false fun h:fq t r=>hl h.len).symm
 have e:((r.l.length:Int) !=t.aU)=false:=by simpa using hl
 rw[decide_eq_true hV,e];simp only[bO,Bool.or_self,cond_false];have hsm:=hS.2.2.2
 have h:=Av (f:=m6 t r) r.l (fun cU=>decide (¬(cU.l.length=t.aN.l.length/\∀p∈cU.l,0<=p/\p<8))) (by omega) (fun i hi=>by
  have hm:gt r.l i∈r.l:=by rw[dV hi];exact ct _
  have hrl:=hS.1 _ hm;simp only[m6,fz hi,cond_true,bm hi,ae]
  have h1:=Av (f:=m7 r (i:Int)) (gt r.l i).l (fun p=>decide (¬(0<=p/\p<8))) (by omega) (fun j hj=>by
   simp only[m7,fz hj,cond_true,bm hi,bm hj,ae];have e:decide (¬(0<=gt (gt r.l i).l j/\gt (gt r.l i).l j<8))=((decide (gt (gt r.l i).l j<0))||(decide (gt (gt r.l i).l j>7))):=by rw[bT];simp only[cA,decide_eq_true_eq];omega
   rw[e];cases decide (gt (gt r.l i).l j<0)<;>cases decide (gt (gt r.l i).l j>7)<;>rfl) (by simp only[m7,bm hi,ae,gk,cond_false])
  have hr:(∀p∈(gt r.l i).l,decide (¬(0<=p/\p<8))=false)<->∀p∈(gt r.l i).l,0<=p/\p<8:=by
   constructor
   .intro h p hp;have:=h p hp;rw[decide_eq_false_iff_not]at this;omega
   .intro h p hp;have:=h p hp;rw[decide_eq_false_iff_not];omega
  by_cases h1l:(gt r.l i).l.length=t.aN.l.length
  .have e1:(((gt r.l i).l.length:Int) !=(t.aN.l.length:Int))=false:=by rw[h1l];simp
   rw[e1,cond_false,h1];by_cases h2:∀p∈(gt r.l i).l,0<=p/\p<8
   .have e3:decide (¬((gt r.l i).l.length=t.aN.l.length/\∀p∈(gt r.l i).l,0<=p/\p<8))=false:=decide_eq_false fun h=>h ⟨h1l,h2⟩;rw[if_pos (hr.2 h2),e3];rfl
   .have e3:decide (¬((gt r.l i).l.length=t.aN.l.length/\∀p∈(gt r.l i).l,0<=p/\p<8))=true:=decide_eq_true fun h=>h2 h.2;rw[if_neg fun h=>h2 (hr.1 h),e3];rfl
  .have e1:(((gt r.l i).l.length:Int) !=(t.aN.l.length:Int))=true:=by rw[bne_iff_ne];omega
   have e3:decide (¬((gt r.l i).l.length=t.aN.l.length/\∀p∈(gt r.l i).l,0<=p/\p<8))=true:=decide_eq_true fun h=>h1l h.1;rw[e1,cond_true,e3];rfl) (by simp only[m6,gk,cond_false])
 rw[h]
 have hr:(∀cU∈r.l,decide (¬(cU.l.length=t.aN.l.length/\∀p∈cU.l,0<=p/\p<8))=false)<->∀cU∈r.l,cU.l.length=t.aN.l.length/\∀p∈cU.l,0<=p/\p<8:=by
  constructor
  .intro h cU hm;have:=h cU hm;rw[decide_eq_false_iff_not]at this;exact Classical.not_not.1 this
  .intro h cU hm;exact decide_eq_false fun hn=>hn (h cU hm)
 by_cases hs:∀cU∈r.l,cU.l.length=t.aN.l.length/\∀p∈cU.l,0<=p/\p<8
 .rw [if_pos (hr.2 hs)];exact congrArg some (decide_eq_true (⟨hV,hl,hs⟩:fq t r)).symm
 .rw [if_neg (fun h=>hs (hr.1 h))];exact congrArg some (decide_eq_false fun h:fq t r=>hs h.ao).symm
section
variable{t:af}{r:Sl (Sl Int)}{h:Nat}
def lj(r:Sl (Sl Int))(h:Nat)(s:Nat):Int:=gt (gt r.l s).l h
def uz(t:af)(r:Sl (Sl Int))(h:Nat)(s:Nat):Prop:=(gt t.aN.l h).At=(s:Int)/\(gt t.aN.l h).h_=lj r h s
instance{s:Nat}:Decidable (uz t r h s):=by unfold uz;infer_instance
def u7(t:af)(r:Sl (Sl Int))(h:Nat)(s:Nat):Option Nat:=(lP (sL (s:Int) (lj r h s)) t.aY.l 0).map (·.1.toNat)
theorem fq.cU(hV:fq t r){s:Nat}(hs:s<r.l.length):(gt r.l s).l.length=t.aN.l.length:=by
 have:gt r.l s∈r.l:=by rw[dV hs];exact ct _
 exact(hV.ao _ this).1
theorem fq.uB(hV:fq t r):r.l.length<=8:=by have:=hV.len;have:=hV.vu.sw;omega
theorem fq.qd(hV:fq t r):t.aN.l.length<=8:=hV.vu.qd
theorem ud(hV:fq t r)(s:Nat):(u7 t r h s=none/\jb t s (lj r h s)=(0,0,0,false))\/
  ∃(s':Nat)(b c:Int),u7 t r h s=some s'/\s'<r.l.length/\jb t s (lj r h s)=((s':Int),b,c,true):=by
 unfold u7 jb;cases hc:lP (sL (s:Int) (lj r h s)) t.aY.l 0 with|none=>exact .inl ⟨rfl,rfl⟩|some q=>obtain⟨a,b,c⟩:=q;obtain⟨h1,h2⟩:=GY hV.vu hc;have:=hV.len;refine .inr ⟨a.toNat,b,c,rfl,by omega,?_⟩;rw[Int.toNat_of_nonneg h1]
theorem MV(hV:fq t r){s s':Nat}(hn:u7 t r h s=some s'):s'<r.l.length:=by
 rcases ud (h:=h) hV s with⟨e,_⟩|⟨s2,_,_,e,h2,_⟩
 .rw [e]at hn;cases hn
 .rw [e]at hn;cases hn;exact h2
inductive gj(t:af)(r:Sl (Sl Int))(h:Nat):Nat->Nat->Prop
 |Aj {s:Nat}:uz t r h s->gj t r h s 0
 |ja {s s' k:Nat}:¬uz t r h s->u7 t r h s=some s'->gj t r h s' k->gj t r h s (k+1)
theorem gj.Mg{s a b:Nat}(ha:gj t r h s a)(hb:gj t r h s b):a=b:=by
 induction ha generalizing b with
 |Aj h1=>cases hb with|Aj _=>rfl|ja h2 _ _=>exact absurd h1 h2
 |ja h1 h2 _ ih=>cases hb with|Aj h3=>exact absurd h3 h1|ja _ h4 h5=>rw[h2]at h4;cases h4;rw[ih h5]
theorem gj.MK(hV:fq t r){s k:Nat}(ha:gj t r h s k)(hs:s<r.l.length):∃w:List Nat,w.length=k+1/\w.Nodup/\∀x∈w,x<r.l.length/\∃j,j<=k/\gj t r h x j:=by
 induction ha with
 |@Aj s h1=>exact⟨[s],rfl,by simp,fun x hx=>by obtain rfl:=List.mem_singleton.1 hx;exact⟨hs,0,aw _,.Aj h1⟩⟩
 |@ja s s' k h1 h2 h3 ih=>
  obtain⟨w,e1,e2,e3⟩:=ih (MV hV h2);have eh:=gj.ja h1 h2 h3;refine⟨s::w,by simp[e1],List.nodup_cons.2 ⟨fun hm=>?_,e2⟩,fun x hx=>?_⟩
  .obtain ⟨_,j,hj,hj2⟩:=e3 s hm;have:=hj2.Mg eh;omega
  .rcases List.mem_cons.1 hx with rfl|hx
   .exact ⟨hs,k+1,aw _,eh⟩
   .obtain ⟨a,j,b,c⟩:=e3 x hx;exact⟨a,j,by omega,c⟩
theorem gj.lt(hV:fq t r){s k:Nat}(ha:gj t r h s k)(hs:s<r.l.length):k<r.l.length:=by obtain⟨w,h1,h2,h3⟩:=ha.MK hV hs;have hsub:w⊆List.range r.l.length:=fun x hx=>List.mem_range.2 (h3 x hx).1;have:=h2.length_le_of_subset hsub;simp at this;omega
def ke(t:af)(r:Sl (Sl Int))(h:Nat):Nat->Nat->Int×Bool
 |0,s=>((s:Int),decide (uz t r h s))
 |m+1,s=>if uz t r h s then((s:Int),false)else match u7 t r h s with|none=>(-1,false)|some s'=>ke t r h m s'
theorem E6:∀{m s:Nat},(ke t r h m s).2=true<->gj t r h s m:=by
 intro m;induction m with
 |zero=>intro s;simp only[ke,decide_eq_true_eq];exact⟨.Aj,fun h=>by cases h;assumption⟩
 |succ m ih=>
  intro s;simp only[ke];by_cases hH:uz t r h s
  .rw [if_pos hH];exact⟨fun h=>by simp at h,fun h=>by cases h;contradiction⟩
  .rw [if_neg hH];cases hn:u7 t r h s with|none=>exact⟨fun h=>by simp at h,fun h=>by cases h with|ja _ h2 _=>rw[hn]at h2;cases h2⟩|some s'=>exact ih.trans ⟨fun h=>.ja hH hn h,fun h=>by cases h with|ja _ h2 h3=>rw[hn]at h2;cases h2;exact h3⟩
theorem BH{s k:Nat}(ha:gj t r h s k):∀{m:Nat},m<k->∃y:Nat,ke t r h m s=((y:Int),false):=by
 induction ha with
 |Aj h1=>intro m hm;omega
 |@ja s s' k h1 h2 h3 ih=>intro m hm;cases m with|zero=>exact⟨s,by simp only[ke,decide_eq_false h1]⟩|succ m=>simp only[ke,if_neg h1,h2];exact ih (by omega)
theorem JB{s k:Nat}(ha:gj t r h s k):∃y:Nat,ke t r h k s=((y:Int),true):=by induction ha with|@Aj s h1=>exact⟨s,by simp only[ke,decide_eq_true h1]⟩|@ja s s' k h1 h2 h3 ih=>simp only[ke,if_neg h1,h2];exact ih
theorem vV(hV:fq t r)(hh:h<t.aN.l.length){s:Nat}(hs:s<r.l.length):
  ((df (h:Int) t.aN.l.length).bind fun n5=>bif((gt t.aN.l n5).At==(s:Int))then((df (h:Int) t.aN.l.length).bind fun n6=>(df (s:Int) r.l.length).bind fun n7=>(df (h:Int) (gt r.l n7).l.length).bind fun n8=>some ((gt t.aN.l n6).h_==gt (gt r.l n7).l n8))else some false)=some (decide (uz t r h s)):=by
 have hhr:h<(gt r.l s).l.length:=by rw[hV.cU hs];exact hh
 simp only[bm hh,bm hs,bm hhr,ae,Ht];congr 1;rw[bT,decide_eq_true_eq (p:=uz t r h s)];simp[uz,lj]
theorem xo(hV:fq t r)(hh:h<t.aN.l.length){s:Nat}(hs:s<r.l.length):
  sf t r (s:Int) (h:Int)=some ((jb t s (lj r h s)).1,(jb t s (lj r h s)).2.2.2):=by
 have hhr:h<(gt r.l s).l.length:=by rw[hV.cU hs];exact hh
 have hlk:=hV.vu.xx;have h1:decide ((s:Int)<0)=false:=by rw[decide_eq_false_iff_not];omega
 have h2:decide ((s:Int)>=(r.l.length:Int))=false:=by rw[decide_eq_false_iff_not];omega
 have h3:decide ((h:Int)<0)=false:=by rw[decide_eq_false_iff_not];omega
 have h4:decide ((h:Int)>=((gt r.l s).l.length:Int))=false:=by rw[decide_eq_false_iff_not];omega
 simp only[sf,h1,h2,h3,h4,Bool.or_self,cond_false,bm hs,bm hhr,ae,vz _ _ (show t.aY.l.length<9223372036854775808 by omega),lj]
theorem E5(hV:fq t r)(hh:h<t.aN.l.length){n:Nat}(hn:n<9223372036854775807):∀(m s i:Nat),i+m=n->s<r.l.length->bc (iU t r (h:Int) (n:Int)) ((s:Int),(i:Int))=some (.inl (ke t r h m s)):=by
 intro m;induction m with
 |zero=>
  intro s i hi hs;obtain rfl:i=n:=by omega
  refine bC ?_;simp only[iU,vV hV hh hs,ae,decide_eq_true (Int.le_refl _),cond_true,beq_self_eq_true,ke];cases decide (uz t r h s)<;>rfl
 |succ m ih=>
  intro s i hi hs;have hle:decide ((i:Int)<=(n:Int))=true:=by rw[decide_eq_true_eq];omega
  have hne:((i:Int)==(n:Int))=false:=by rw[beq_eq_false_iff_ne];omega
  by_cases hH:uz t r h s
  .refine bC ?_;simp only[iU,vV hV hh hs,ae,hle,cond_true,decide_eq_true hH,hne,ke,if_pos hH]
  .rcases ud (h:=h) hV s with⟨e1,e2⟩|⟨s',b,c,e1,hs',e2⟩
   .refine bC ?_;simp only[iU,vV hV hh hs,ae,hle,cond_true,decide_eq_false hH,hne,ke,if_neg hH,e1,xo hV hh hs,e2,Bool.not_false,cond_false]
   .rw [bL (a':=((s':Int),((i+1:Nat):Int))) (by simp only[iU,vV hV hh hs,ae,hle,cond_true,decide_eq_false hH,hne,xo hV hh hs,e2,bO,cond_false,gB (show i<9223372036854775807 by omega)]),ih s' (i+1) (by omega) hs'];simp only[ke,if_neg hH,e1]
theorem pA(hV:fq t r)(hh:h<t.aN.l.length){n:Nat}(hn:n<9223372036854775807){s:Nat}(hs:s<r.l.length):oL t r (s:Int) (h:Int) (n:Int)=some (ke t r h n s):=by simp only[oL,show bc (iU t r (h:Int) (n:Int)) ((s:Int),0)=_ from E5 hV hh hn n s 0 (by omega) hs,ae]
theorem qC(hV:fq t r)(hh:h<t.aN.l.length){s:Nat}(hs:s<r.l.length):
  (((((!true)||(decide ((s:Int)<0)))||(decide ((s:Int)>=(r.l.length:Int))))||(decide ((h:Int)<0)))||(decide ((h:Int)>=(t.aN.l.length:Int))))=false:=by
 simp only[bO,Bool.false_or,Bool.or_eq_false_iff,decide_eq_false_iff_not];omega
theorem BQ(hS:o5 t r)(hV:fq t r)(hh:h<t.aN.l.length){s k:Nat}(hs:s<r.l.length)(ha:gj t r h s k):∃l:List Int,li t r (s:Int) (h:Int)=some (.mk l,0)/\l.length=k+1:=by
 have hk:=ha.lt hV hs;have hsm:=hV.uB;have hlen:=hV.len
 have main:∀(d i:Nat)(l:Sl Int),i+d=k->l.l.length=i->∃l2:List Int,bc (eO t r (s:Int) (h:Int)) ((i:Int),l)=some (.inl (0,.mk l2))/\l2.length=k+1:=by
  intro d;induction d with
  |zero=>
   intro i l hi hl;obtain rfl:i=k:=by omega
   obtain⟨y,hy⟩:=JB ha;have hc:decide ((i:Int)<t.aU)=true:=by rw[decide_eq_true_eq];omega
   have hm:((y:Int)==-1)=false:=by rw[beq_eq_false_iff_ne];omega
   exact⟨l.l++[(y:Int)],bC (by simp only[eO,hc,cond_true,pA hV hh (show i<9223372036854775807 by omega) hs,hy,ae,hm,cond_false,fR (show(l.l++[(y:Int)]).length<=2147483648 by rw[ap,aW];omega)]),by simp[hl]⟩
  |succ d ih=>
   intro i l hi hl;obtain⟨y,hy⟩:=BH ha (show i<k by omega);have hc:decide ((i:Int)<t.aU)=true:=by rw[decide_eq_true_eq];omega
   have hm:((y:Int)==-1)=false:=by rw[beq_eq_false_iff_ne];omega
   obtain⟨l2,h1,h2⟩:=ih (i+1) (.mk (l.l++[(y:Int)])) (by omega) (by simp[hl]);exact⟨l2,(bL (by simp only[eO,hc,cond_true,pA hV hh (show i<9223372036854775807 by omega) hs,hy,ae,hm,cond_false,fR (show(l.l++[(y:Int)]).length<=2147483648 by rw[ap,aW];omega),gB (show i<9223372036854775807 by omega)])).trans h1,h2⟩
 obtain⟨l2,h1,h2⟩:=main k 0 .nil (by omega) rfl;have h1:bc (eO t r (s:Int) (h:Int)) (0,Sl.nil)=_:=h1;exact⟨l2,by simp only[li,pW hS,decide_eq_true hV,ae,qC hV hh hs,cond_false,h1],h2⟩
theorem BP(hS:o5 t r)(hV:fq t r)(hh:h<t.aN.l.length){s:Nat}(hs:s<r.l.length)(hno:∀k,¬gj t r h s k):∃e,li t r (s:Int) (h:Int)=some (.nil,e)/\e≠0:=by
 have hsm:=hV.uB;have hlen:=hV.len;have hfalse:∀m,(ke t r h m s).2=false:=fun m=>by rw[<-Bool.not_eq_true];exact fun e=>hno m (E6.1 e)
 have main:∀(d i:Nat)(l:Sl Int),i+d=r.l.length->l.l.length=i->bc (eO t r (s:Int) (h:Int)) ((i:Int),l)=some (.inl (13,.nil))\/bc (eO t r (s:Int) (h:Int)) ((i:Int),l)=some (.inr ()):=by
  intro d;induction d with
  |zero=>
   intro i l hi hl;have hc:decide ((i:Int)<t.aU)=false:=by rw[decide_eq_false_iff_not];omega
   exact .inr (bC (by simp only[eO,hc,cond_false]))
  |succ d ih=>
   intro i l hi hl;have hc:decide ((i:Int)<t.aU)=true:=by rw[decide_eq_true_eq];omega
   have hf:=hfalse i;have eh:=pA hV hh (show i<9223372036854775807 by omega) hs;generalize ke t r h i s=q at hf eh;obtain⟨y,b⟩:=q;obtain rfl:b=false:=hf;cases hm:y==-1 with|true=>exact .inl (bC (by simp only[eO,hc,cond_true,eh,ae,hm]))|false=>have e:=bL (f:=eO t r (s:Int) (h:Int)) (a:=((i:Int),l)) (a':=(((i+1:Nat):Int),.mk (l.l++[y]))) (by simp only[eO,hc,cond_true,eh,ae,hm,cond_false,fR (show(l.l++[y]).length<=2147483648 by rw[ap,aW];omega),gB (show i<9223372036854775807 by omega)]);rw[e];exact ih (i+1) _ (by omega) (by simp[hl])
 have eh:=pA hV hh (show r.l.length<9223372036854775807 by omega) hs;rw[hlen]at eh;generalize ke t r h r.l.length s=q at eh;obtain⟨y,b⟩:=q;rcases main r.l.length 0 .nil (by omega) rfl with h1|h1
 .have h1:bc (eO t r (s:Int) (h:Int)) (0,Sl.nil)=_:=h1;exact⟨13,by simp only[li,pW hS,decide_eq_true hV,ae,qC hV hh hs,cond_false,h1],by decide⟩
 .have h1:bc (eO t r (s:Int) (h:Int)) (0,Sl.nil)=_:=h1;cases hm:y==-1 with|true=>exact⟨13,by simp only[li,pW hS,decide_eq_true hV,ae,qC hV hh hs,cond_false,h1,eh,hm,cond_true],by decide⟩|false=>exact⟨12,by simp only[li,pW hS,decide_eq_true hV,ae,qC hV hh hs,cond_false,h1,eh,hm],by decide⟩
end
end Go.Proofs.YthcplpfiidlinaaDoor.J
