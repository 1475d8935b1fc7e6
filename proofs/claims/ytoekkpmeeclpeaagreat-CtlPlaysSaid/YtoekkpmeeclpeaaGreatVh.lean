/- Functions: where one begins, what it hands back. Conditions: the relation of XPa. -/
import Derived.Test.YtoekkpmeeclpeaaGreatUz
import Derived.OpenShut
import Derived.WideKeyArgs
import Derived.Deep.Slices
import Derived.ProofKit
import Derived.WalkKit
import Derived.JoinedCond
import Derived.Shelf.SlSortCmp.WholeK
import Derived.Lib.SlKeysI
import Derived.Maps.Own
import Derived.Below
open Array renaming length_toList->gJ
open Bool renaming and_eq_true->ax,not_eq_true'->fS
open List renaming all_eq_true->cw,append_nil->bO,drop_drop->ol,drop_eq_nil_of_le->vu,drop_zero->vp,filter_cons->dN,flatMap_cons->eC,getElem?_eq_getElem->bf,getElem?_eq_some_iff->bG,map_cons->bN,map_map->je,mem_append->aK,mem_append_left->bM,mem_append_right->eD,mem_cons->aO,mem_cons_of_mem->bp,mem_map->aR,mem_singleton->aB,nodup_append->cm,nodup_nil->kj,pairwise_cons->dW,perm_iff_count->rM,range->aG,take_append_drop->dG
open List.cons renaming inj->aE
open Nat renaming beq->nG,blt->iu,blt_eq->fM,eq_of_beq_eq_true->dT,le_refl->aw,le_succ->cA,le_trans->bg,lt_of_lt_of_le->bY,lt_succ_self->bh,mul_comm->ll,mul_le_mul_right->du,succ_mul->gS,zero_mul->jc
open Option.some renaming inj->af,injEq->eZ
open Prod.mk renaming inj->aq
noncomputable section
namespace Go.Ev
section
variable{P:Program}{S S' K:Nat->Prop}{w0 w w':World}{φ φ':iq}{H:Hf}{n:Nat}{h:H2}{s:S2}{a:Act}
theorem NU.len:∀{cs:List Sh}{l:List V}{xs:List Value}{fp:List Nat},NU S w cs l xs fp->l.length=(uk cs).length:=by
 intro cs;induction cs with
 |nil=>intro l xs fp h;cases xs<;>first|(rw[h.1];rfl)|exact h.elim
 |cons c cs ih=>
  intro l xs fp h;cases xs with
  |nil=>exact h.elim
  |cons x xs=>
   obtain⟨l1,l2,f1,f2,rfl,_,h1,h2⟩:=h
   have:l1.length=(QM c).length:=by
    rcases h1 with⟨rfl,rfl,_⟩|⟨cs,h1,_⟩
    .rfl
    .exact h1.len
   simp[uk,this,ih h2]
theorem aa9:∀{c:Sh}{l bH rest':List V}{x:V}{d:List Value}{fp:List Nat},W8 c (l++bH)=some (x,rest')->NV S w c l d fp->rest'=bH/\fp=[]/\RC S w φ x d/\fG n h x:=by
 intro c;induction c with
 |ni=>intro l bH rest' x d fp hu hr;obtain⟨rfl,rfl,rfl⟩:=hr;cases hu;exact⟨rfl,rfl,rfl,trivial⟩
 |pr a c iha ih=>
  clear iha;intro l bH rest' x d fp hu hr;obtain⟨l1,l2,c1,c2,f1,f2,rfl,rfl,rfl,h1,h2⟩:=hr;cases a<;>first|(cases hu;done)|skip
  rename_i t;obtain⟨rfl,y,b,o,e,rfl,rfl,k1,k2,k3⟩:=h1;have hu2:=(aN (show(bif decide (t=t)&&oq t then(match W8 c (l2++bH)with|some (w,l)=>some (V.co (.pt t y) w,l)|none=>none)else none)=some (x,rest')from hu)).2;split at hu2<;>cases hu2;rename_i w1 h3;obtain⟨e1,e2,e3,e4⟩:=ih h3 h2;exact⟨e1,e2,⟨[_],c2,rfl,⟨b,o,e,rfl,k1,k2,k3⟩,e3⟩,trivial,e4⟩
 |_=>intro l bH rest' x d fp hu;cases hu
theorem acT:∀{ps:List (Bool×Sh)}{i:Nat}{l:List V}{s s':S2}{e:List (Nat×V)}{xs:List Value}{φ:iq}{H:Hf}{fp:List Nat},Hg ps i l s=some (e,s')->SG S w ps l xs fp->Inv S K w0 φ H w->(∀j,s.next<=j->φ j=none)->Cr S K w φ H fp->DX s.next s.heap->
  ∃u φ' vs,ul S K w0 w φ H s {s' with gh:=s.gh} fp u φ'/\DX s'.next s'.heap/\xs.length=ps.length/\(∀t v,iV e t=some v->∃j x,t=i+j/\xs[j]?=some x/\RW S w φ' v x/\fG s'.next s'.heap v)/\
   kO s'.gh=vs++kO s.gh/\Ep S w φ' vs (Ai ps xs)/\∀v∈vs,fG s'.next s'.heap v:=by
 intro ps;induction ps with
 |nil=>intro i l s s' e xs φ H fp he hr hI hf hfr hS;cases xs with|cons x xs=>exact hr.elim|nil=>obtain⟨rfl,rfl⟩:=hr;cases he;exact⟨[],φ,[],ul.none hI (aw _) rfl,hS,rfl,(fun t v h=>by cases h),rfl,trivial,by simp⟩
 |cons p ps ih=>
  obtain⟨b,c⟩:=p;intro i l s s' e xs φ H fp he hr hI hf hfr hS;cases xs with
  |nil=>exact hr.elim
  |cons x xs=>
  obtain⟨l1,l2,f1,f2,rfl,rfl,h1,hb,h2⟩:=hr;cases b with
  |true=>
   simp only[Hg]at he;split at he<;>first|(cases he;done)|skip
   rename_i v1 m1 s1 h3;split at he<;>first|(cases he;done)|skip
   rename_i e1 s2 h4;cases he;rcases h1 with⟨rfl,_⟩|⟨cs,h1,h5⟩
   .cases h3
   obtain⟨rfl,hag,u1,φ1,hL1,hc1,hok1⟩:=RP h3 h1 hI (fun j a _=>hf j a) hfr.left;obtain⟨_,hT,_⟩:=Nj h3
   obtain⟨u2,φ2,vs,hL2,hS2,hl2,he2,hg2,hv2,ho2⟩:=ih h4 h2 hL1.inv (fun j a=>by
    cases e:φ1 j with
    |none=>rfl
    |some m=>have:=hL1.new j m e (hf j (bg hL1.le a));omega) (hL1.V8 hfr) (hT.DZ hS)
   have hgh:s1.gh=s.gh:=by rw[hL1.eq]
   have hw:RW S w φ2 v1 x:=R1.rw ⟨cs,hc1.mono (iW.refl _ _) hL2.K_,by rw[hag];simpa using h5⟩;have ho:fG s2.next s2.heap v1:=eA hL2.le hL2.gj hok1;have hLL:=hL1.BC hL2;simp only[hgh]at hLL;refine⟨u2++u1,φ2,v1::vs,hLL,hS2,by simp[hl2],fun t v hv=>?_,by simp[kO,hg2,hgh],⟨hw,hv2⟩,fun v hv=>?_⟩
   .by_cases et:i=t
    .subst et;obtain rfl:v1=v:=by simpa[iV]using hv
     exact⟨0,x,rfl,rfl,hw,ho⟩
    .rw [show iV ((i,v1)::e1) t=iV e1 t by simp only[iV];rw[show(i==t)=false by simpa using et];rfl]at hv;obtain⟨j,y,q1,q2,q3⟩:=he2 t v hv;exact⟨j+1,y,by omega,q2,q3⟩
   .rcases aO.1 hv with rfl|hv
    .exact ho
    .exact ho2 v hv
  |false=>
   obtain rfl:=hb rfl
   have data:∀{v1:V}{e0:List (Nat×V)}{s0:S2},(∀{φ:iq},RW S w φ v1 x)->(∀n h,fG n h v1)->Hg ps (i+1) l2 s=some (e0,s0)->some ((i,v1)::e0,s0)=some (e,s')->
     ∃u φ' vs,ul S K w0 w φ H s {s' with gh:=s.gh} f2 u φ'/\DX s'.next s'.heap/\(x::xs).length=((false,c)::ps).length/\(∀t v,iV e t=some v->∃j y,t=i+j/\(x::xs)[j]?=some y/\RW S w φ' v y/\fG s'.next s'.heap v)/\
      kO s'.gh=vs++kO s.gh/\Ep S w φ' vs (Ai ((false,c)::ps) (x::xs))/\∀v∈vs,fG s'.next s'.heap v:=by
    intro v1 e0 s0 hw hk h4 he;cases he;obtain⟨u2,φ2,vs,hL2,hS2,hl2,he2,hg2,hv2,ho2⟩:=ih h4 h2 hI hf (by simpa using hfr) hS;refine⟨u2,φ2,vs,hL2,hS2,by simp[hl2],fun t v hv=>?_,hg2,hv2,ho2⟩;by_cases et:i=t
    .subst et;obtain rfl:v1=v:=by simpa[iV]using hv
     exact⟨0,x,rfl,rfl,hw,hk _ _⟩
    .rw [show iV ((i,v1)::e0) t=iV e0 t by simp only[iV];rw[show(i==t)=false by simpa using et];rfl]at hv;obtain⟨j,y,q1,q2,q3⟩:=he2 t v hv;exact⟨j+1,y,by omega,q2,q3⟩
   rcases h1 with⟨rfl,rfl,_⟩|⟨cs,h1,h5⟩
   .cases l2<;>cases he
   cases c with
   |x t=>
    obtain⟨_,y,rfl,h6⟩:=h1;have h7:=(aN (show(bif decide (t=t)&&oq t then(match Hg ps (i+1) l2 s with|some (e,s)=>some ((i,V.x t y)::e,s)|none=>none)else none)=some (e,s')from he)).2;split at h7<;>first|(cases h7;done)|skip
    rename_i h8;exact data (v1:=.x t y) (R1.rw ⟨cs,h6,h5⟩) (fun _ _=>trivial) h8 h7
   |pt t=>
    obtain⟨_,y,b,o,d,rfl,rfl,k1,k2,k3⟩:=h1;have h7:=(aN (show(bif decide (t=t)&&oq t then(match Hg ps (i+1) l2 s with|some (e,s)=>some ((i,V.pt t y)::e,s)|none=>none)else none)=some (e,s')from he)).2;split at h7<;>first|(cases h7;done)|skip
    rename_i h8;exact data (v1:=.pt t y) (R1.rw ⟨_,⟨b,o,d,rfl,k1,k2,k3⟩,h5⟩) (fun _ _=>trivial) h8 h7
   |nl k=>
    obtain⟨rfl,rfl,_⟩:=h1;have h7:(match Hg ps (i+1) l2 s with|some (e,s)=>some ((i,V.nl k)::e,s)|none=>none)=some (e,s'):=by cases l2<;>exact he
    split at h7<;>first|(cases h7;done)|skip
    rename_i h8;exact data (v1:=.nl k) (R1.rw ⟨_,rfl,h5⟩) (fun _ _=>trivial) h8 h7
   |fn f c2=>
    obtain⟨d,rfl,h6⟩:=h1;have h7:(match W8 c2 (l1++l2)with|some (w,l)=>(match Hg ps (i+1) l s with|some (e,s)=>some ((i,V.fn true f w)::e,s)|none=>none)|none=>none)=some (e,s'):=by generalize l1++l2=l3 at he|-;cases l3<;>exact he
    split at h7<;>first|(cases h7;done)|skip
    rename_i w1 l3 h8;have hu:=fun(φ:iq)(n:Nat)(h:H2)=>aa9 (φ:=φ) (n:=n) (h:=h) h8 h6;obtain rfl:=(hu .z 0 []).1;split at h7<;>first|(cases h7;done)|skip
    rename_i h9;exact data (v1:=.fn true f w1) (fun{φ}=>R1.rw ⟨_,⟨d,rfl,(hu φ 0 []).2.2.1⟩,h5⟩) (fun n h=>(hu .z n h).2.2.2) h9 h7
   |_=>exfalso;generalize l1++l2=l3 at he;cases l3<;>cases he
theorem Ep.get:∀{vs:List V}{xs:List Value},Ep S w φ vs xs->∀(i:Nat)(c:V)(x:Value),vs[i]?=some c->xs[i]?=some x->RW S w φ c x:=by
 intro vs;induction vs with
 |nil=>intro xs _ i c x h;simp at h
 |cons v vs ih=>intro xs h i c x h1 h2;cases xs with
  |nil=>exact h.elim
  |cons y xs=>cases i with|zero=>simp only[List.getElem?_cons_zero,eZ]at h1 h2;subst h1 h2;exact h.1|succ i=>exact ih h.2 i c x (by simpa using h1) (by simpa using h2)
theorem Ep.of:∀{vs:List V}{xs:List Value},vs.length=xs.length->(∀(i:Nat)(c:V)(x:Value),vs[i]?=some c->xs[i]?=some x->RW S w φ c x)->Ep S w φ vs xs:=by
 intro vs;induction vs with
 |nil=>intro xs h _;cases xs<;>first|trivial|(cases h;done)
 |cons v vs ih=>intro xs h h2;cases xs with|nil=>cases h|cons y xs=>exact⟨h2 0 v y rfl rfl,ih (by simpa using h) fun i c x q1 q2=>h2 (i+1) c x (by simpa using q1) (by simpa using q2)⟩
theorem acS{ps:List (Bool×Sh)}{l:List V}{xs:List Value}{fp:List Nat}{nt:Nat}(he:agl ps l=some s)(hr:SG S w ps l xs fp)(hs:∀b,S b->b<w.heap.size)(hn:fp.Nodup)(hfp:∀b∈fp,¬S b/\b<w.heap.size)(hg:KU S w)(hnt:ps.length<=nt):
  xs.length=ps.length/\∃φ,Ax S (fun b=>b<w.heap.size/\b∉fp/\¬S b) w φ (Ai ps xs) nt s {tmps:=xs.toArray++Array.replicate (nt-xs.toArray.size) undef,defers:=[]} w:=by
 unfold agl at he;split at he<;>cases he;rename_i e s1 h1;have hI0:Inv S (fun b=>b<w.heap.size/\b∉fp/\¬S b) w .z (fO []) w:=⟨hs,fun b hb h=>h.2.2 hb,⟨fun b hb=>hb.1,fun _ _=>rfl,aw _,fun _ _=>rfl,fun b cr ho=>⟨cr,ho,rfl⟩,Io.refl _⟩,hg,(fun i o ho=>by cases ho),(fun i j a b l m hi=>by cases hi)⟩
 obtain⟨u,φ,vs,hL,hS,hl,q1,q2,q3,q4⟩:=acT h1 hr hI0 (fun _ _=>rfl) ⟨hn,fun b hb=>⟨(hfp b hb).1,fun h=>h.2.1 hb,(hfp b hb).2,(fun j a m h=>by cases h)⟩⟩ ⟨fun id=>trivial,(fun id o h=>by cases h),(fun id t c h=>by cases h)⟩;have hH:up (fO []) u=fO s1.heap:=by have:s1.heap=u++[]:=hL.heap;rw[this,oz]
 have hI:=hL.inv;rw[hH]at hI;rw[show kO (V.ni)=[]from rfl,bO]at q2;refine⟨hl,φ,⟨hI,fun t v hv=>?_,by simp;omega,rfl,fun i c v h1 h2=>?_⟩,fun j hj=>?_,fun id l o h1 h2=>?_,⟨hS,fun t v hv=>?_⟩,fun c hc=>?_⟩
 .obtain ⟨j,x,rfl,a1,a2,_⟩:=q1 t v hv;have:(xs.toArray++Array.replicate (nt-xs.toArray.size) undef).getD (0+j) undef=x:=by have ht:j<xs.length:=(bG.1 a1).1;rw[Nat.zero_add];simp_all[Array.getD_eq_getD_getElem?,Array.getElem?_append_left]
  rw[this];exact a2
 .rw [q2]at h1;exact q3.get i c v h1 h2
 .cases e:φ j with|none=>rfl|some m=>have hj:s1.next<=j:=hj;have:0<=j/\j<s1.next:=hL.new j m e rfl;omega
 .obtain ⟨l2,a1,a2,_⟩:=hI.o9 id o h2;obtain rfl:=af (h1.symm.trans a1);exact a2.HR
 .obtain ⟨_,_,_,_,_,a3⟩:=q1 t v hv;exact a3
 .rw [q2]at hc;exact q4 c hc
end
section
variable{P:Program}{S S' K:Nat->Prop}{w0 w w':World}{φ φ':iq}{H:Hf}{n:Nat}{h:H2}{s:S2}{a:Act}{gv:List Value}{nt:Nat}
def HE(S:Nat->Prop)(w:World)(φ:iq)(H:Hf)(i:List Nat)(R:(Nat->Prop)->List Nat->Prop):Prop:=∃fz ow fp,(fz++ow).Perm i/\BG w φ H ow fp/\∀S':Nat->Prop,iW S w S' w->(∀b,SF S w φ H fz b->S' b)->R S' fp
theorem HE.V6{i:List Nat}{R:(Nat->Prop)->List Nat->Prop}{fp:List Nat}(h:BG w φ H i fp)(hR:∀S':Nat->Prop,iW S w S' w->R S' fp):HE S w φ H i R:=⟨[],i,fp,List.Perm.refl _,h,fun S' hs _=>hR S' hs⟩
theorem HE.app{i j:List Nat}{R1 R2 R:(Nat->Prop)->List Nat->Prop}(hI:Inv S K w0 φ H w)(hn:(i++j).Nodup)(h1:HE S w φ H i R1)(h2:HE S w φ H j R2)(hR:∀S' f1 f2,R1 S' f1->R2 S' f2->R S' (f1++f2)):HE S w φ H (i++j) R:=by
 obtain⟨z1,o1,f1,p1,q1,r1⟩:=h1;obtain⟨z2,o2,f2,p2,q2,r2⟩:=h2;have hp:((z1++z2)++(o1++o2)).Perm (i++j):=by refine rM.2 fun a=>?_;have e1:=rM.1 p1 a;have e2:=rM.1 p2 a;simp only[List.count_append]at e1 e2|-;omega
 have hn2:(o1++o2).Nodup:=(cm.1 (hp.nodup_iff.2 hn)).2.1;exact⟨z1++z2,o1++o2,f1++f2,hp,BG.append hI hn2 q1 q2,fun S' hs hb=>hR S' f1 f2 (r1 S' hs fun b hm=>hb b ((SF.sub (by simp_all)).sub b hm)) (r2 S' hs fun b hm=>hb b ((SF.sub (by simp_all)).sub b hm))⟩
theorem abz(hI:Inv S K w0 φ (fO h) w)(hbx:∀id t c,fO h id=some (.bx t c)->fG n h c){c:Sh}{v:V}{l:List V}{i:List Nat}{x:Value}(hc:akm h c v=some (l,i))(hr:RW S w φ v x)(hal:tM h v=true)(hok:fG n h v)(hn:i.Nodup):
  HE S w φ (fO h) i fun S' fp=>Lw S' w c l x fp:=by
 have main:zA h c false v=some (l,i)->HE S w φ (fO h) i fun S' fp=>Lw S' w c l x fp:=fun ha=>by obtain⟨fp,f1,f2⟩:=I5 hI hbx ha hr (fun _ _=>rfl) hok hn;exact .V6 f2 fun S' hs=>f1.QK hs
 cases c with
 |x t=>exact⟨i,[],[],by simp,BG.nil,fun S' hs hb=>Un hI hbx hs (show NN h (.x t) v=some (l,i)from hc) hr (fun _ _=>rfl) hal hok hb⟩
 |os t=>
  cases v with
  |sb id ver lo u r=>
   have h2:sbX h t id ver r=some (l,i):=by
    have hc:(match fO h id with|some (.ar _ _ _)=>(match fF (.sl u) (.sl t) r with|some s=>some ([V.x (.sl t) s],[id])|none=>none)|_=>none)=some (l,i):=hc;split at hc<;>first|(cases hc;done)|skip
    rename_i u1 s1 v1 ho;simp only[tM,ax]at hal;have hal2:=hal.2;rw[ho]at hal2;unfold sbX;rw[ho];simp only at hal2|-;rw[show(v1==ver)=true from hal2,cond_true];exact hc
   obtain⟨c,c1,c2⟩:R1 S w φ (.sb id ver lo u r) x:=hr;obtain⟨fp,f1,f2⟩:=Sv hI h2 c1 (fun _ _=>rfl) hok;exact .V6 f2 fun S' hs=>.inr ⟨c,f1.QK hs,c2⟩
  |_=>exact main hc
 |_=>exact main hc
theorem aby(hI:Inv S K w0 φ (fO h) w)(hbx:∀id t c,fO h id=some (.bx t c)->fG n h c){c:Sh}{v:V}{l:List V}{i:List Nat}{x:Value}(hc:akl h c v=some (l,i))(hr:RW S w φ v x)(hok:fG n h v)(hn:i.Nodup):
  HE S w φ (fO h) i fun S' fp=>Lw S' w c l x fp:=by
 have main:(bif tM h v then zA h c false v else none)=some (l,i)->HE S w φ (fO h) i fun S' fp=>Lw S' w c l x fp:=fun ha=>by obtain⟨fp,f1,f2⟩:=I5 hI hbx (aN ha).2 hr (fun _ _=>rfl) hok hn;exact .V6 f2 fun S' hs=>f1.QK hs
 cases c with|gn=>cases hc;exact .V6 BG.nil fun S' hs=>.inl ⟨rfl,rfl,rfl⟩|_=>exact main hc
theorem X5(hI:Inv S K w0 φ (fO h) w)(hbx:∀id t c,fO h id=some (.bx t c)->fG n h c):∀{cs:List Sh}{vs:List V}{l:List V}{i:List Nat}{xs:List Value},SX h cs vs=some (l,i)->Ep S w φ vs xs->(∀v∈vs,tM h v=true/\fG n h v)->i.Nodup->
  HE S w φ (fO h) i fun S' fp=>NU S' w cs l xs fp:=by
 intro cs;induction cs with
 |nil=>intro vs l i xs hc hr _ _;cases vs<;>cases hc;cases xs with|nil=>exact .V6 BG.nil fun _ _=>⟨rfl,rfl⟩|cons x xs=>exact hr.elim
 |cons c cs ih=>
  intro vs l i xs hc hr hv hn;cases vs with
  |nil=>cases hc
  |cons v vs=>
  cases xs with|nil=>exact hr.elim|cons x xs=>simp only[SX]at hc;split at hc<;>cases hc;rename_i l1 i1 l2 i2 h1 h2;obtain⟨n1,n2,_⟩:=cm.1 hn;exact .app hI hn (abz hI hbx h1 hr.1 (hv v (by simp)).1 (hv v (by simp)).2 n1) (ih h2 hr.2 (fun v hm=>hv v (by simp[hm])) n2) fun S' f1 f2 a b=>⟨_,_,f1,f2,rfl,rfl,a,b⟩
theorem X4(hI:Inv S K w0 φ (fO h) w)(hbx:∀id t c,fO h id=some (.bx t c)->fG n h c):∀{cs:List Sh}{vs:List V}{l:List V}{i:List Nat}{xs:List Value},LS h cs vs=some (l,i)->Ep S w φ vs xs->(∀v∈vs,fG n h v)->i.Nodup->
  HE S w φ (fO h) i fun S' fp=>NU S' w cs l xs fp:=by
 intro cs;induction cs with
 |nil=>intro vs l i xs hc hr _ _;cases vs<;>cases hc;cases xs with|nil=>exact .V6 BG.nil fun _ _=>⟨rfl,rfl⟩|cons x xs=>exact hr.elim
 |cons c cs ih=>
  intro vs l i xs hc hr hv hn;cases vs with
  |nil=>cases hc
  |cons v vs=>
  cases xs with|nil=>exact hr.elim|cons x xs=>simp only[LS]at hc;split at hc<;>cases hc;rename_i l1 i1 l2 i2 h1 h2;obtain⟨n1,n2,_⟩:=cm.1 hn;exact .app hI hn (aby hI hbx h1 hr.1 (hv v (by simp)) n1) (ih h2 hr.2 (fun v hm=>hv v (by simp[hm])) n2) fun S' f1 f2 a b=>⟨_,_,f1,f2,rfl,rfl,a,b⟩
theorem U6:∀{cs:List Sh}{vs:List V}{l:List V}{i:List Nat},LS h cs vs=some (l,i)->cs.length=vs.length:=by
 intro cs;induction cs with
 |nil=>intro vs l i hc;cases vs<;>first|rfl|cases hc
 |cons c cs ih=>intro vs l i hc;cases vs with|nil=>cases hc|cons v vs=>simp only[LS]at hc;split at hc<;>cases hc;rename_i _ h2;simp[ih h2]
def BV(tmps:Array Value):ResultVar->Sem Value
 |.tmp t=>pure (tmps.getD t undef)
 |.cell a t=>do loadVar t (<-asAddr (tmps.getD a undef))
theorem abw(hR:Ax S K w0 φ gv nt s a w){r:ResultVar}{x:RV}{v:V}(hr:aft P r=some x)(hv:abx s x=some v):
  ∃val,(BV a.tmps r).run P w=.ok val w/\RW S w φ v val/\tM s.heap v=true/\fG s.next s.heap v:=by
 have op:∀{t:Nat}{v:V},Vq s.jl s.heap (.tmp t)=some v->RW S w φ v (a.tmps.getD t undef)/\tM s.heap v=true/\fG s.next s.heap v:=fun{t v}h1=>by obtain⟨q1,q2,q3⟩:=M9 (n:=s.next) (E:=iV s.jl) (fun t v h=>.inr h) hR.ok.jl h1;exact⟨q1.rw hR.rx.jl hR.rx.inv.R5,q2,q3⟩
 cases r with
 |tmp t=>cases hr;obtain⟨q1,q2,q3⟩:=op hv;exact⟨_,rfl,q1,q2,q3⟩
 |cell t ty=>
  simp only[aft]at hr;split at hr<;>cases hr;rename_i g m hg hm;simp only[abx]at hv;split at hv<;>first|(cases hv;done)|skip
  rename_i p hp;split at hv<;>first|(cases hv;done)|skip
  rename_i y l hl;obtain⟨hc,h2⟩:=aN hv;cases h2;obtain⟨q1,_,_⟩:=op hp;obtain⟨b,f,c,e,h1,h2⟩:=PB hR.rx.inv q1 hl fun _ _=>rfl;obtain⟨c1,c2,c3⟩:=NC hc;have hlen:c.length=m:=h1.len.trans c2;refine⟨rD g c,?_,(R1.of h1 c1 fun e=>hlen.trans (c3 e)).rw,?_,Pj hR.ok.DZ.bx hl⟩
  .simp [BV,e,asAddr,zZ hg hm h2 hlen c3]
  .simp only[QN,ax]at hc;exact hc.2
theorem X3(hR:Ax S K w0 φ gv nt s a w):∀{rs:List ResultVar}{xs:List RV}{vs:List V},Ox P rs=some xs->Li (abx s) xs=some vs->∃vals,(rs.mapM (BV a.tmps)).run P w=.ok vals w/\Ep S w φ vs vals/\∀v∈vs,tM s.heap v=true/\fG s.next s.heap v:=by
 intro rs;induction rs with
 |nil=>intro xs vs h1 h2;cases h1;cases h2;exact⟨[],rfl,trivial,by simp⟩
 |cons r rs ih=>
  intro xs vs h1 h2;simp only[Ox]at h1;split at h1<;>cases h1;rename_i x xs hx hxs;simp only[Li]at h2;split at h2<;>cases h2;rename_i v vs hv hvs;obtain⟨val,a1,a2,a3⟩:=abw hR hx hv;obtain⟨vals,b1,b2,b3⟩:=ih hxs hvs;refine⟨val::vals,by simp[a1,b1],⟨a2,b2⟩,fun y hy=>?_⟩;rcases aO.1 hy with rfl|hy
  .exact a3
  .exact b3 y hy
theorem Oz{g:Func}{tmps:Array Value}{vs:List Value}(h:(g.results.toList.mapM (BV tmps)).run P w=.ok vs w):(results g tmps).run P w=.ok (EL vs) w:=by
 have e:results g tmps=(do let vs<-g.results.mapM (BV tmps);pure _):=rfl;have e2:g.results.mapM (BV tmps)=(do let vs<-g.results.toList.mapM (BV tmps);pure vs.toArray):=by rw[Array.mapM_eq_mapM_toList,bind_pure_comp]
 rw[e,e2];simp[h]
 match vs with|[]=>rfl|[v]=>rfl|v::v'::r=>simp[EL]
theorem acL(hR:Ax S K w0 φ gv nt s a w){g:Func}{BR:List RV}{rs os:List Sh}{l:List V}(hrv:Ox P g.results.toList=some BR)(hf:Wb BR rs os s=some l)(hlen:os.length=gv.length):
  ∃vals S' fp1 fp2,(results g a.tmps).run P w=.ok (EL vals) w/\iW S w S' w/\(∀b,S' b->¬K b/\b<w.heap.size)/\NU S' w rs (l.take (uk rs).length) vals fp1/\NU S' w os (l.drop (uk rs).length) gv fp2/\(fp1++fp2).Nodup/\
   ∀b∈fp1++fp2,¬S' b/\¬K b/\b<w.heap.size:=by
 unfold Wb at hf;split at hf<;>first|(cases hf;done)|skip
 rename_i vs hvs;split at hf<;>first|(cases hf;done)|skip
 rename_i l1 i l2 j h2 h3;obtain⟨hn,h4⟩:=aN hf;cases h4;have hn:=G1 hn;have hI:=hR.rx.inv;obtain⟨vals,a1,a2,a3⟩:=X3 hR hrv hvs;have hg:Ep S w φ (kO s.gh) gv:=.of ((U6 h3).symm.trans hlen) hR.rx.gh;obtain⟨fz,ow,fp,hp,hfp,hall⟩:=HE.app (R:=fun S' fp=>∃f1 f2,fp=f1++f2/\NU S' w rs l1 vals f1/\NU S' w os l2 gv f2) hI hn (X5 hI hR.ok.DZ.bx h2 a2 a3 (cm.1 hn).1) (X4 hI hR.ok.DZ.bx h3 hg hR.ZC (cm.1 hn).2.1) fun S' f1 f2 a b=>⟨f1,f2,rfl,a,b⟩;obtain⟨f1,f2,rfl,r1,r2⟩:=hall (SF S w φ (fO s.heap) fz) (SF.QK fz) fun _ h=>h;have hob:∀{i:Nat}{o:O}{lo:rJ}{b:Nat},fO s.heap i=some o->φ i=some lo->b∈ob w lo o->¬S b/\¬K b/\b<w.heap.size:=fun{i o lo b}h1 h2 h3=>by obtain⟨l2,b1,_,b4⟩:=hI.o9 i o h1;obtain rfl:=af (h2.symm.trans b1);exact b4 b h3
 have hlr:=r1.len;refine⟨vals,SF S w φ (fO s.heap) fz,f1,f2,Oz a1,SF.QK fz,fun b hb=>?_,by rw[<-hlr,List.take_left];exact r1,by rw[<-hlr,List.drop_left];exact r2,hfp.1,fun b hb=>?_⟩
 .rcases hb with hb|⟨i,_,o,lo,h1,h2,h3⟩
  .exact ⟨hI.sk b hb,hI.IQ b hb⟩
  .exact (hob h1 h2 h3).2
 .obtain ⟨i,hi,o,lo,h1,h2,h3⟩:=hfp.2 b hb;obtain⟨q1,q2,q3⟩:=hob h1 h2 h3;refine⟨?_,q2,q3⟩;rintro(hb2|⟨k,hk,o2,lo2,k1,k2,k3⟩)
  .exact q1 hb2
  .have hne:i≠k:=fun e=>(cm.1 (hp.nodup_iff.2 hn)).2.2 k hk i hi e.symm;exact hI.jz i k o o2 lo lo2 h1 k1 h2 k2 hne b h3 k3
end
section
variable{P:Program}{S S' K:Nat->Prop}{w0 w w':World}{φ φ':iq}{H:Hf}{n:Nat}{h:H2}{s:S2}{a:Act}{gv:List Value}{nt:Nat}{tb:Lv}{lp:Lp}{bI:II}
theorem ZP{BR:List RV}{s:S2}:∀{al:Wy}{z:D7 al},agi BR s al=some z->∃rs os l,WZ al z=some (rs,os,l)/\(rs,os)∈al/\Wb BR rs os s=some l:=by
 have key:∀(w:Wy)(r o:List Sh)(z:D7.WE r o w),ZO BR s r o w=some z->∃r' o' l,W0 (fun a b c=>some (a,b,c)) r o w z=some (r',o',l)/\(r',o')∈(r,o)::w/\Wb BR r' o' s=some l:=by
  intro w;induction w with
  |nil=>
   intro r o z hz;simp only[ZO]at hz;split at hz<;>first|(cases hz;done)|skip
   rename_i l hl;exact⟨r,o,_,rfl,by simp,by rw[zS hz];exact hl⟩
  |cons p w ih=>
   obtain⟨r',o'⟩:=p;intro r o z hz;simp only[ZO]at hz;split at hz
   .rename_i l hl;split at hz<;>cases hz;rename_i y hy;exact⟨r,o,_,rfl,by simp,by rw[zS hy];exact hl⟩
   .split at hz<;>cases hz;rename_i y hy;obtain⟨r2,o2,l,h1,h2,h3⟩:=ih r' o' y hy;exact⟨r2,o2,l,h1,bp _ h2,h3⟩
 intro al z hz;cases al with|nil=>exact nomatch z|cons p w=>exact key w p.1 p.2 z hz
def Zg(ps:List (Bool×Sh)):Nat:=(ps.filter (·.1)).length
theorem VM:∀{ps:List (Bool×Sh)}{xs:List Value},xs.length=ps.length->(Ai ps xs).length=Zg ps:=by
 intro ps;induction ps with
 |nil=>intro xs h;cases xs<;>rfl
 |cons p ps ih=>obtain⟨b,c⟩:=p;intro xs h;cases xs with|nil=>cases h|cons x xs=>have:=ih (xs:=xs) (by simpa using h);cases b<;>simp_all[Ai,Zg]
def WU(sp:cR):Bool:=(sp.al.all fun w=>nG w.2.length (Zg sp.ps))&&(!sp.ro||akk sp)
theorem ZS(hT:vi P tb)(hm:P.follows .mixedOrders=true){f np:Nat}{an:List (Nat×An)}{F:F2}(hF:Qk P bI f np an=some F){sp:cR}(hlen:sp.ps.length=np)(hw:WU sp=true)(hfn:∀p z,sp.fn p=some z->evF lp tb (some F) sp.ps sp.al p=some z):sG P f sp:=by
 simp only[WU,ax,Bool.or_eq_true,fS]at hw;obtain⟨hal,hro⟩:=hw;refine⟨fun h=>hro.resolve_left (by simp[h]),fun S w xs fp p z hs hr hn hfp hg hz=>?_⟩;have hz:=hfn p z hz;unfold Qk at hF;split at hF<;>first|(cases hF;done)|skip
 rename_i g hg0;split at hF<;>first|(cases hF;done)|skip
 rename_i code hb;split at hF<;>first|(cases hF;done)|skip
 rename_i hc;split at hF<;>cases hF;rename_i BR hrv;obtain⟨hname,hnp,hnt⟩:=hc;simp only[evF]at hz;split at hz<;>first|(cases hz;done)|skip
 rename_i s0 hs0;obtain⟨hxl,φ,hR⟩:=acS hs0 hr hs hn hfp hg (by omega:sp.ps.length<=g.ntmps);left;refine⟨f,xs.toArray,?_,?_⟩
 .simp_all [callFunc,run_program]
 refine calls_of_wp hg0 hb (wp_mono (ac3 hT hnt hm code 0 hz hR) fun e a' w' hp=>?_);obtain⟨o,s',h1,rfl,h3,S',φ',h4,h5,h6⟩:=hp
 have CI:agi BR s' sp.al=some z->a'.defers=[]/\∃v,(results g a'.tmps).run P w'=.ok v w'/\∃v',Ending.returned v=Ending.returned v'/\Left S w fp sp z (Ai sp.ps xs) v' w':=by
  intro h1;obtain⟨rs,os,l,e1,e2,e3⟩:=ZP h1;have hol:os.length=(Ai sp.ps xs).length:=by rw[VM hxl];exact dT (cw.1 hal _ e2)
  obtain⟨vals,S2,fp1,fp2,k1,k2,k3,k4,k5,k6,k7⟩:=acL h6 hrv e3 hol;have hfrm:=h6.rx.inv.yu;have gj:=h4.trans k2;refine⟨h6.rx.defers,_,k1,_,rfl,S2,vals,fp1,fp2,rs,os,l,e1,rfl,gj,fun b hb=>?_,fun b hb=>(k3 b hb).2,k4,k5,k6,fun b hb=>?_,?_⟩
  .by_cases q1:b<w.heap.size
   .by_cases q2:b∈fp
    .exact .inr (.inl q2)
    .by_cases q3:S b
     .exact .inl q3
     .exact absurd ⟨q1,q2,q3⟩ (k3 b hb).1
   .exact .inr (.inr (by omega))
  .obtain ⟨q0,q1,q2⟩:=k7 b hb;refine⟨q0,?_,q2⟩;by_cases q3:b<w.heap.size
   .by_cases q4:b∈fp
    .exact .inl q4
    .by_cases q5:S b
     .exact absurd (gj.sub _ q5) q0
     .exact absurd ⟨q3,q4,q5⟩ q1
   .exact .inr (by omega)
  .refine ⟨fun b hb=>hb.1,fun b hb=>?_,hfrm.grow,hfrm.frz,hfrm.N0,hfrm.io⟩;by_cases q3:S b
   .exact h4.mg b q3
   .exact hfrm.tH b ⟨hb.1,hb.2,q3⟩
 cases o with|exit id=>cases h1|normal=>exact CI h1|ret=>exact CI h1
theorem afl(hm:P.follows .mixedOrders=true){f np:Nat}{an:List (Nat×An)}(hT:vi P tb){sp:cR}(h1:(WU sp&&nG sp.ps.length np)=true)(h3:(fun p=>evF lp tb (Qk P bI f np an) sp.ps sp.al p)=sp.fn):sG P f sp:=by simp only[ax]at h1;cases hF:Qk P bI f np an with|none=>rw[hF]at h3;exact⟨fun h=>(by have:=h1.1;simp_all[WU]),fun S w xs fp p z _ _ _ _ _ hz=>by rw[<-h3]at hz;cases hz⟩|some F=>rw[hF]at h3;exact ZS hT hm hF (dT h1.2) h1.1 fun p z hz=>by rw[<-h3]at hz;exact hz
theorem aP[Bx](hm:P.follows .mixedOrders=true)(bI:II){f:FuncId}(np:Nat)(an:List (Nat×An))(hT:vi P tb){sp:cR}(h:(WU sp&&nG sp.ps.length np,fun p=>evF Bx.lp tb (Qk P (flB bI) f np an) sp.ps sp.al p)=(true,sp.fn)):sG P f sp:=afl hm hT (congrArg Prod.fst h) (congrArg Prod.snd h)
theorem sG.le{f:FuncId}{sp:cR}(h:sG P f sp){fn:D9 (uk (sp.ps.map (·.2)))->Option (D7 sp.al)}(hle:∀p z,fn p=some z->sp.fn p=some z):sG P f {sp with fn:=fn}:=⟨h.1,fun S w xs fp p z a b c d e hz=>h.2 S w xs fp p z a b c d e (hle p z hz)⟩
end
open Go.ChangeShapes Go.WideShapes Go.ChangeAt Go.RowKit
def S0(w:World)(b:Nat):Prop:=b<w.heap.size
def wT:Ty->Nat
 |.i .i64|.i .u64|.f .f64=>8
 |_=>0
def zL:(t:Ty)->El t->Prop
 |.i k,x=>k.min<=x/\x<=k.max
 |.s,s=>s.size<=maxLen
 |.f k,b=>(Lit.float k b).wf=true
 |.sl t,s=>(s.l.length<=maxLen/\s.l.length*wT t<=reachBytes)/\∀x∈s.l,zL t x
 |.pr a c,v=>zL a v.1/\zL c v.2
 |.st t,v=>zL t v
 |.ar _ t,v=>∀x∈v.1,zL t x
 |_,_=>True
def ab4(P:Program)(ok:TypeId->Bool)(sz:TypeId->Nat):List Field->Nat->Nat->Bool
 |[],off,CK=>nG off CK
 |f::r,off,CK=>ok f.type&&nG f.offset off&&nG (P.cellsOf f.type) (sz f.type)&&ab4 P ok sz r (off+sz f.type) CK
def YF(P:Program):Nat->TypeId->Bool
 |0,_=>false
 |n+1,t=>match P.underlying t with|some (.int _)|some .bool|some .string|some (.float _)=>true|some (.slice e)=>YF P n e&&iu 0 (ei (iZ P n e))&&nG (P.cellsOf e) (ei (iZ P n e))&&Nat.ble (wT (iZ P n e)) (P.bytesOf e)|some (.struct fs)=>ab4 P (YF P n) (fun t=>ei (iZ P n t)) fs.toList 0 (P.cellsOf t)|some (.array m e)=>YF P n e&&nG (P.cellsOf e) (ei (iZ P n e))&&nG (P.cellsOf t) (m*ei (iZ P n e))|_=>false
section
variable{P:Program}{H:Type}{en:TypeId×Value->H}{w:World}
theorem CM{e:TypeId}{d:DataW H}:∀{l:List (DataW H)},d∈l->∀b∈DataW.weights P e d,b∈DataW.weightsAll P e l
 |x::r,h,b,hb=>by
  simp[DataW.weightsAll,aK];rcases aO.1 h with rfl|h
  .exact .inl hb
  .exact .inr (CM h b hb)
theorem Fs{d:DataW H}{t:TypeId}:∀{ts:List TypeId}{l:List (DataW H)}{i:Nat},ts[i]?=some t->l[i]?=some d->∀b∈DataW.weights P t d,b∈DataW.weightsEach P ts l
 |t'::ts,x::r,0,h1,h2,b,hb=>by simp[DataW.weightsEach,aK];cases h1;cases h2;exact .inl hb
 |t'::ts,x::r,i+1,h1,h2,b,hb=>by simp[DataW.weightsEach,aK];exact .inr (Fs (by simpa using h1) (by simpa using h2) b hb)
theorem Qb{ts':List TypeId}{gs:List (DataW H)}:∀{ts:List TypeId}{l:List (DataW H)},∀b∈DataW.weightsEach P ts l,b∈DataW.weightsEach P (ts++ts') (l++gs)
 |[],_,b,h=>by simp[DataW.weightsEach]at h
 |_::_,[],b,h=>by simp[DataW.weightsEach]at h
 |t::ts,x::r,b,h=>by simp[DataW.weightsEach,aK,List.cons_append]at h|-;exact h.imp id (Qb b)
def QC(P:Program)(t:TypeId)(d:DataW H):Prop:=∀b∈DataW.weights P t d,b<=reachBytes
theorem Yx:∀(n:Nat)(t:TypeId),YF P n t=true->∀{fuel:Nat}{cs:List Value}{x:DataW H×List MemPlace},DataW.trod en P w 0 (fun _=>true) true fuel t cs=some x->QC P t x.1->∃a:El (iZ P n t),zL _ a/\RT (S0 w) w (iZ P n t) a cs:=by
 intro n;induction n with
 |zero=>intro t h;simp[YF]at h
 |succ n ih=>
  intro t h fuel cs x hx hwt;simp only[YF]at h;split at h
  .rename_i k hu;rw[show iZ P (n+1) t=.i k by simp only[iZ,hu]];obtain⟨n,rfl,_,hw⟩:=DataW.trod_int hu hx;exact⟨n,by simpa[Lit.wf,zL]using hw,rfl⟩
  .rename_i hu;rw[show iZ P (n+1) t=.b by simp only[iZ,hu]];obtain⟨n,rfl,_⟩:=DataW.trod_bool hu hx;exact⟨n,trivial,rfl⟩
  .rename_i hu;rw[show iZ P (n+1) t=.s by simp only[iZ,hu]];obtain⟨n,rfl,_,hm⟩:=DataW.trod_string hu hx;exact⟨n,hm,rfl⟩
  .rename_i k hu;rw[show iZ P (n+1) t=.f k by simp only[iZ,hu]];cases fuel with
   |zero=>simp[DataW.trod]at hx
   |succ n=>
    unfold DataW.trod at hx;simp only[hu]at hx
    match cs,hx with
    |[.float k' b],hx=>
     simp only at hx;split at hx
     .rename_i hw;obtain⟨rfl,hw⟩:=hw;exact⟨b,hw,b,rfl,.inl rfl⟩
     .simp at hx
  .rename_i e hu;simp only[ax]at h;obtain⟨⟨⟨h1,h2⟩,h3⟩,h4⟩:=h;have hc:=dT h3;have hwb:=Nat.le_of_ble_eq_true h4;have hsz:0<ei (iZ P n e):=by simpa[fM]using h2
   rw[show iZ P (n+1) t=.sl (iZ P n e)by simp only[iZ,hu]];generalize hE:iZ P n e=E at hc hsz hwb;rcases Go.Deep.open_slice hu hx with⟨rfl,_⟩|⟨a,len,cap,m,n',D',Pl,rfl,hb,hl,hmax,hm,rfl,hxe⟩
   .exact ⟨(.nil:Sl (El E)),⟨by simp[Sl.l],by simp[Sl.l]⟩,rfl⟩
   .simp only[if_true]at hm;have hlen:len*wT E<=reachBytes:=by have:=hwt ((((aG len).map D').length+((aG (m-len)).map fun j=>D' (len+j)).length)*P.bytesOf e) (by simp only[DataW.weights,hu];exact List.mem_cons_self);refine bg (bg (Nat.mul_le_mul_left _ hwb) (du _ ?_)) this;simp
    have hwD:∀i,i<len->QC P e (D' i):=fun i hi b hb=>hwt b (by simp only[DataW.weights,hu];exact bp _ (bM _ (CM (aR.2 ⟨i,List.mem_range.2 hi,rfl⟩) b hb)));rw[hm]at hxe;by_cases h0:cap=0
    .obtain rfl:len=0:=by omega
     exact⟨(.mk []:Sl (El E)),⟨by simp[Sl.l],by simp[Sl.l]⟩,a,cap,rfl,by simp,hsz,.inl ⟨rfl,h0⟩⟩
    .obtain ⟨cs0,g1,_⟩:=hxe 0 (by omega);obtain⟨_,hl0,hc0⟩:=World.cells?_some g1;have hz:=hc0 0 (by omega);rw[jc]at hz;have hadd:(a.add 0).add 0=a:=by simp[Addr.add]
     rw[hadd,bf (by omega)]at hz;obtain⟨b,off,spot⟩:=a
     have hsp:spot=none/\b<w.heap.size:=by
      unfold World.cell? at hz;split at hz
      .rename_i hh;split at hz
       .simp at hz
       .rename_i hs;refine⟨by simpa using hs,(Array.getElem?_eq_some_iff.1 hh).1⟩
      .simp at hz
     obtain⟨rfl,hblk⟩:=hsp
     have key:∀k,k<=len->∃l:List (El E),l.length=k/\(∀y∈l,zL E y)/\∃d,o_ (RT (S0 w) w E) l d/\At w b (off+(len-k)*ei E) d:=by
      intro k;induction k with
      |zero=>intro _;exact⟨[],rfl,by simp,[],rfl,trivial⟩
      |succ k ihk=>
       intro hk;obtain⟨l,l1,l2,d,l3,l4⟩:=ihk (by omega);obtain⟨cs',g1,g2⟩:=hxe (len-(k+1)) (by omega);obtain⟨y,g3,g4⟩:∃a:El E,zL E a/\RT (S0 w) w E a cs':=hE▸ih e h1 g2 (hwD _ (by omega));rw[hc]at g1;obtain⟨_,g5,g6⟩:=World.cells?_some g1;refine⟨y::l,by simp[l1],fun z hz=>?_,cs'++d,⟨cs',d,rfl,g4,l3⟩,DY.2 ⟨aaS fun i v hi=>?_,?_⟩⟩
       .grind
       .grind [bG,Cp]
       .rw [g5,Nat.add_assoc,<-gS,show(len-(k+1)).succ=len-k by omega];exact l4
     obtain⟨l,l1,l2,d,l3,l4⟩:=key len (aw _);rw[Nat.sub_self,jc]at l4;exact⟨(.mk l:Sl (El E)),⟨⟨by simp[Sl.l];omega,by simp[Sl.l];rw[l1];exact hlen⟩,l2⟩,⟨b,off,none⟩,cap,by rw[l1],by omega,hsz,.inr ⟨hblk,rfl,d,l3,l4⟩⟩
  .rename_i fs hu;rw[show iZ P (n+1) t=.st (iZ.chn (fs.toList.map fun f=>iZ P n f.type))by simp only[iZ,hu]];obtain⟨xs,n',rfl,rfl,hl,hxl,hf⟩:=DataW.trod_struct hu hx;have hwX:∀(i:Nat)(f:Field)y,fs[i]?=some f->xs[i]?=some y->QC P f.type y.1:=fun i f y h1 h2 b hb=>hwt b (by simp only[DataW.weights,hu];exact Fs (i:=i) (by simp[h1]) (by simp[h2]) b hb)
   have key:∀(suf:List Field)(i off:Nat),(∀j,fs[i+j]?=suf[j]?)->ab4 P (YF P n) (fun t=>ei (iZ P n t)) suf off (P.cellsOf t)=true->
     ∃v:El (iZ.chn (suf.map fun f=>iZ P n f.type)),zL _ v/\RT (S0 w) w _ v (cs.drop off):=by
    intro suf;induction suf with
    |nil=>intro i off _ hok;have e:=dT hok;exact⟨(),trivial,vu (by omega)⟩
    |cons f r ihr=>
     intro i off hi hok;simp only[ab4,ax]at hok;obtain⟨⟨⟨k1,k2⟩,k3⟩,k4⟩:=hok;have k2:=dT k2;have k3:=dT k3;have hif:fs[i]?=some f:=by have:=hi 0;simpa using this
     have h1:=hf i f hif;have hxi:=bf (l:=xs) (i:=i) (by grind);rw[hxi]at h1;obtain⟨a,f1,c1⟩:=ih f.type k1 h1 (hwX i f _ hif hxi);rw[k2,k3]at c1;obtain⟨v,f2,c2⟩:=ihr (i+1) (off+ei (iZ P n f.type)) (fun j=>by have:=hi (j+1);grind) k4;cases r with|nil=>have e:=dT k4;rw[List.take_of_length_le (by rw[List.length_drop];omega)]at c1;exact⟨a,f1,c1⟩|cons g r=>exact⟨(a,v),⟨f1,f2⟩,_,_,by rw[<-ol,dG],c1,c2⟩
   obtain⟨v,f1,c1⟩:=key fs.toList 0 0 (fun j=>by simp) h;exact⟨v,f1,by rw[vp]at c1;exact c1⟩
  .rename_i m e hu;simp only[ax]at h;obtain⟨⟨h1,h2⟩,h3⟩:=h;have h2:=dT h2;have h3:=dT h3;rw[show iZ P (n+1) t=.ar m (iZ P n e)by simp only[iZ,hu]];obtain⟨xs,m',_,rfl,hl,hxl,hf⟩:=DataW.trod_array hu hx;have hwX:∀(i:Nat)y,xs[i]?=some y->QC P e y.1:=fun i y h2 b hb=>hwt b (by simp only[DataW.weights,hu];exact CM (aR.2 ⟨y,List.mem_of_getElem? h2,rfl⟩) b hb)
   have key:∀j,j<=m->∃l:List (El (iZ P n e)),l.length=j/\(∀y∈l,zL _ y)/\o_ (RT (S0 w) w (iZ P n e)) l (cs.drop ((m-j)*ei (iZ P n e))):=by
    intro j;induction j with
    |zero=>intro _;exact⟨[],rfl,fun y hy=>by simp at hy,vu (by rw[hl,h3];simp)⟩
    |succ j ihj=>
     intro hj;obtain⟨l,l1,l2,l3⟩:=ihj (by omega);have hk:=hf (m-(j+1)) (by omega);have hxi:=bf (l:=xs) (i:=m-(j+1)) (by omega);rw[hxi]at hk;obtain⟨a,f1,c1⟩:=ih e h1 hk (hwX _ _ hxi);rw[h2]at c1;refine⟨a::l,by simp[l1],fun y hy=>?_,_,_,?_,c1,l3⟩
     .grind
     .rw [show m-j=(m-(j+1))+1 by omega,gS,<-ol,dG]
   obtain⟨l,l1,l2,l3⟩:=key m (aw _);rw[Nat.sub_self,jc,vp]at l3;exact⟨⟨l,l1⟩,l2,l3⟩
  .simp at h
def QF:List Ty->List V->Prop
 |[],l=>l=[]
 |a::r,l=>∃(v:El a)(m:List V),l=.x a v::m/\zL a v/\QF r m
theorem Uc{a:Ty}(v:El a):KG a (.x a v)=some v:=by simp[KG,fF]
theorem QF.tup:∀{cs:List Ty}{l:List V},QF cs l->∃p,CR cs l=some p/\BI cs p=l:=by
 have key:∀(r:List Ty)(a:Ty)(l:List V),QF (a::r) l->∃p,UD a r l=some p:=by intro r;induction r with|nil=>rintro a l ⟨v,m,rfl,_,hm⟩;subst hm;exact⟨v,Uc v⟩|cons c r ih=>rintro a l ⟨v,m,rfl,_,hm⟩;obtain⟨p,hp⟩:=ih c m hm;refine⟨(v,p),?_⟩;show afc _ _=_;rw[Uc,hp];rfl
 intro cs l h;cases cs with|nil=>subst h;exact⟨(),rfl,rfl⟩|cons a r=>obtain⟨p,hp⟩:=key r a l h;exact⟨p,hp,zS hp⟩
theorem si{t:TypeId}{r:Reach}{b:Nat}{v:Value}(h:Value.okWide P w r b t v)(hs:match P.underlying t with|some (.struct _)|some (.array _ _)|some (.interface _)|some (.func ..)|some (.chan ..)|some .unsafePointer|some (.map _ _)=>False|_=>True):one v=true:=by
 unfold Value.okWide at h;split at h
 .simp_all
 .simp_all
 .unfold Cell.okWide at h;split at h
  all_goals first
   |(rename_i he;rw[he]at hs;exact hs.elim)
   |skip
  unfold Cell.ok at h;split at h<;>first|rfl|exact h.elim
theorem NE{v:Value}(h:one v=true):v.cells.toList=[v]:=by cases v<;>first|rfl|cases h
theorem agH{n:Nat}{t:TypeId}(ho:YF P n t=true){r:Reach}{b:Nat}{v:Value}(hv:Value.okWide P w r b t v){x:DataW H}{ps:List MemPlace}(h:DataW.Trod en P w 0 (fun _=>true) true t v x ps)(hwt:QC P t x):∃a:El (iZ P n t),zL _ a/\Lw (S0 w) w (.x (iZ P n t)) [.x _ a] v []:=by
 obtain⟨fuel,h⟩:=h;obtain⟨a,h1,h2⟩:=Yx n t ho h hwt;refine⟨a,h1,.inr ⟨_,⟨rfl,a,rfl,h2⟩,?_⟩⟩;have flat:∀{u:Ty},kR u=false->one v=true->if agS (.x u)=true then v=.agg v.cells.toList.toArray else v.cells.toList=[v]:=fun{u}h1 h2=>by rw[if_neg (by show¬kR u=true;rw[h1];simp),NE h2]
 have ag:∀{u:Ty}{cr:Array Value},kR u=true->v=.agg cr->if agS (.x u)=true then v=.agg v.cells.toList.toArray else v.cells.toList=[v]:=fun{u cr}h1 h2=>by rw[if_pos (by show kR u=true;exact h1)];subst h2;rfl
 cases n with
 |zero=>simp[YF]at ho
 |succ n=>
  simp only[YF]at ho;split at ho
  .grind [iZ,kR,si]
  .grind [iZ,kR,si]
  .grind [iZ,kR,si]
  .grind [iZ,kR,si]
  .grind [iZ,kR,si]
  .rename_i fs hu;unfold Value.okWide at hv
   grind [iZ,kR]
  .rename_i m e hu;unfold Value.okWide at hv
   grind [iZ,kR]
  .simp at ho
def okA(P:Program)(ts:List TypeId):Bool:=ts.all fun t=>YF P Z4 t
theorem adm{jA:Nat}:∀(ts:List TypeId)(vs:List Value)(ds:List (DataW H))(ps:List MemPlace),DataW.TrodAll en P w 0 (fun _=>true) true ts vs ds ps->(∀b∈DataW.weightsEach P ts ds,b<=reachBytes)->okA P ts=true->
  (∀(j:Nat)t v,ts[j]?=some t->vs[j]?=some v->Value.okWide P w .any jA t v)->∃l,QF (ts.map (iZ P Z4)) l/\SG (S0 w) w (ts.map fun t=>(false,Sh.x (iZ P Z4 t))) l vs []:=by
 intro ts;induction ts with
 |nil=>intro vs ds ps h _ _ _;cases vs with|nil=>exact⟨[],rfl,rfl,rfl⟩|cons=>cases ds<;>exact h.elim
 |cons t ts ih=>
  intro vs ds ps h hwt hok hv;cases vs with
  |nil=>cases ds<;>exact h.elim
  |cons v vs=>cases ds with|nil=>exact h.elim|cons d ds=>obtain⟨p,q,h1,h2,rfl⟩:=h;simp[okA]at hok;obtain⟨a,f1,r1⟩:=agH hok.1 (hv 0 t v rfl rfl) h1 (fun b hb=>hwt b (by simp[DataW.weightsEach,aK];exact .inl hb));obtain⟨l,f2,r2⟩:=ih vs ds q h2 (fun b hb=>hwt b (by simp[DataW.weightsEach,aK];exact .inr hb)) (by simpa[okA]using hok.2) fun j t' v' ht hv'=>hv (j+1) t' v' (by simpa using ht) (by simpa using hv');exact⟨.x _ a::l,⟨a,l,rfl,f1,f2⟩,[_],l,[],[],rfl,rfl,r1,(fun _=>rfl),r2⟩
theorem agt:∀(tys:List Ty),uk ((tys.map fun t=>(false,Sh.x t)).map (·.2))=tys:=by intro tys;induction tys with|nil=>rfl|cons a r ih=>show a::uk _=a::r;rw[ih]
theorem K1(hl:laidOutB P=true){W W':World}{sp:Nat->Bool}:∀{ts:List TypeId}{vs:List Value}{ds:List (DataW H)}{ps:List MemPlace},ts.all (fun t=>P.readableRec t&&decide (t<P.types.size))=true->
  DataW.TrodAll en P W 0 (fun _=>true) true ts vs ds ps->(∀p∈ps,W.sameAt W' p)->(∀p∈ps,sp p.block=true)->DataW.TrodAll en P W' 0 sp true ts vs ds ps:=by
 intro ts;induction ts with
 |nil=>intro vs ds ps _ h _ _;cases vs<;>cases ds<;>exact h
 |cons t ts ih=>
  intro vs ds ps hts h hsame hsp;cases vs with
  |nil=>cases ds<;>exact h
  |cons v vs=>
   cases ds with
   |nil=>exact h
   |cons d ds=>
    obtain⟨p,q,h1,h2,rfl⟩:=h;simp only[List.all_cons,ax,decide_eq_true_eq]at hts
    exact⟨p,q,WideElems.Trod_stays hl hts.1.1 hts.1.2 h1 (fun x hx=>hsame x (bM _ hx)) (fun x hx=>hsp x (bM _ hx)),
     ih hts.2 h2 (fun x hx=>hsame x (eD _ hx)) (fun x hx=>hsp x (eD _ hx)),rfl⟩
theorem MX{enc:TypeId×Value->H}{f:Func}{s:ChangeSpec}{Dw zk handsOn again:Bool}{W W':World}{args:Array Value}{v:Value}{ds gs:List (DataW H)}{il pa pv:List MemPlace}
  (hW:DataW.Whole enc P f.params.toList s.vars Dw W args.toList ds gs il)
  (hres:∀(b:Nat)(sp:Nat->Bool)(hd:Bool),DataW.TrodAll enc P W' b sp hd f.resultTypes.toList (v.resultList f.resultTypes.size) (s.fn H (ds++gs)).results [])
  (hargs:∀sp:Nat->Bool,(∀p∈il,sp p.block=true)->DataW.TrodAll enc P W' 0 sp true f.params.toList args.toList (s.fn H (ds++gs)).args pa)
  (hvars:∀sp:Nat->Bool,(∀p∈il,sp p.block=true)->DataW.TrodVars enc P W' sp s.vars (s.fn H (ds++gs)).vars pv)
  (hps:il=pa++pv) (hk:W.keptBut W' (·∈il)) (hfz:∀a,a.block<W.heap.size->W'.frozen? a=W.frozen? a)
  (hok:∀(j:Nat)(t:TypeId)(r:Value),f.resultTypes[j]?=some t->(v.resultList f.resultTypes.size)[j]?=some r->Value.okWide P W' .any 0 t r):
  s.post enc P f Dw zk handsOn again W args v W':=by
 have hold:∀p∈il,(fun b=>decide _) p.block=true:=fun p hp=>by simpa using hW.lt p hp
 refine⟨ds,gs,il,[],pa,pv,hW,hres _ _ _,hargs _ hold,hvars _ hold,World.keptBut_mono (fun p hp=>⟨hp,?_⟩) hk,fun _=>?_⟩
 .simp_all
 .have hlt:=fun p hp=>hW.lt p hp;obtain⟨_,_,_,_,_,hz,hn⟩:=hW;refine⟨hok,_,_,([]++pa)++pv,⟨[]++pa,pv,trodAll_append (hargs _ (fun _ _=>rfl)) (hres _ _ _),hvars _ (fun _ _=>rfl),rfl,?_,?_⟩,?_⟩
  .intro b off hp;rw[hfz _ (hlt _ (by rw[hps];simpa using hp))];exact hz b off (by rw[hps];simpa using hp)
  .simp_all
  simp_all
theorem Wk{f:FuncId}{fn:Func}{s:ChangeSpec}{Dw zk handsOn again:Bool}{tb:TypeId}(hl:laidOutB P=true)(hfn:P.funcs[f]?=some fn)(hbody:fn.body.isSome=true)(hname:(fn.name== "runtime.NumGoroutine")=false)
  (hts:fn.params.toList.all (fun t=>P.readableRec t&&decide (t<P.types.size))=true) (hrt:fn.resultTypes= #[tb]) (htb:P.underlying tb=some .bool) (hvars:s.vars=[])
  {W:World} {args:Array Value} {ds gs:List (DataW H)} {il:List MemPlace} (hW:DataW.Whole en P fn.params.toList s.vars Dw W args.toList ds gs il)
  (hspec:(s.fn H (ds++gs)).results=[.lit (.bool true)]/\(s.fn H (ds++gs)).args=ds/\(s.fn H (ds++gs)).vars=[])
  (hgl:KU (S0 W) W) (hwt:(DataW.weightsEach P (fn.params.toList++s.plain.varTypes P) (ds++gs)).all (·<=reachBytes)=true) {jA:Nat} (hval:∀(j:Nat)t v,fn.params[j]?=some t->args[j]?=some v->Value.okWide P W .any jA t v)
  {tys:List Ty} (hty:fn.params.toList.map (iZ P Z4)=tys) (hok:okA P fn.params.toList=true) {ro:Bool} {D2:List Bool} {g:D9 (uk ((tys.map fun t=>(false,Sh.x t)).map (·.2)))->Option (D7 [([.x .b],[])])}
  (hsp:sG P f ⟨tys.map fun t=>(false,Sh.x t),[([.x .b],[])],ro,D2,g⟩) (law:∀p,QF (uk ((tys.map fun t=>(false,Sh.x t)).map (·.2))) (BI _ p)->g p=some true):
  Calls P f args W fun e W'=>∃v,e=.returned v/\s.post en P fn Dw zk handsOn again W args v W':=by
 obtain⟨p,q,hA0,hV,hpq,hfz,hno⟩:=id hW;have hA:=hA0;have hwt':∀b∈DataW.weightsEach P fn.params.toList ds,b<=reachBytes:=fun b hb=>by simp_all[cw,Qb]
 obtain⟨l,h1,h2⟩:=adm (jA:=jA) _ _ _ _ hA hwt' hok fun j t v ht hv=>hval j t v (by simpa using ht) (by simpa using hv);have h3:fn.params.toList.map (fun t=>(false,Sh.x (iZ P Z4 t)))=tys.map fun t=>(false,Sh.x t):=by rw[<-hty,je];rfl
 rw[h3]at h2;rw[hty,<-agt tys]at h1;obtain⟨pl,_,hu⟩:=h1.tup;rw[<-hu]at h2;have hent:=hsp.2 (S0 W) W args.toList [] pl true (fun b hb=>hb) h2 kj (by simp) hgl (law pl (by rw[hu];exact h1));have hcall:(callFunc f args).run P W=.ok (.enter f args) W:=by obtain⟨c,hb⟩:=Option.isSome_iff_exists.1 hbody;simp_all[callFunc,run_program]
 rcases hent with⟨g',as',k1,k2⟩|⟨v,k1,_⟩
 .rw [hcall]at k1;obtain⟨⟨rfl,rfl⟩,_⟩:(f=g'/\args=as')/\True:=by simpa using k1
  refine k2.mono fun e W' hp=>?_;obtain⟨v,rfl,S',BR,fp1,fp2,rs,os,l',hway,rfl,gj,hsub,hlt,hrr,hrt',hnd,hb,hfrm⟩:=hp;obtain⟨rfl,e2⟩:=aq (af hway);obtain⟨rfl,rfl⟩:=aq e2
  have hv:EL BR=.bool true:=by
   cases BR with
   |nil=>exact hrr.elim
   |cons v BR=>
    obtain⟨l1,l2,f1,f2,e1,_,h3,h4⟩:=hrr;cases BR with
    |cons _ _=>exact h4.elim
    |nil=>
     obtain⟨rfl,_⟩:=h4;rcases h3 with⟨e,_⟩|⟨cs,⟨_,y,rfl,h5⟩,h6⟩
     .cases e
     .cases e1;obtain rfl:cs=[.bool true]:=h5;exact(aE h6).1.symm
  refine⟨_,rfl,?_⟩;rw[hv];have hheap:=fun b hb=>gj.mg b hb;have hV':DataW.TrodVars en P W (fun _=>true) [] gs q:=by rw[<-hvars];exact hV
  obtain⟨rfl,rfl⟩:=trodVars_none hV'
  have hkept:∀may:MemPlace->Prop,W.keptBut W' may:=by
   intro may;refine⟨hfrm.io.1,hfrm.io.2.1,fun i hi=>?_⟩;have:=hheap i hi;rw[this];cases hx:W.heap[i]?with
   |none=>trivial
   |some o=>cases o<;>simp
  refine MX (pa:=il) (pv:=[]) hW (fun _ _ _=>?_) (fun sp hsp=>?_) (fun _ _=>?_) (by simp) (hkept _) hfrm.frz ?_
  .rw [hspec.1,hrt];exact trodAll_cons_mk (shut_bool htb _) trodAll_mk0
  .rw [hspec.2.1];have hbp:il=p:=by rw[hpq,bO]
   refine K1 hl hts (by rw[hbp];exact hA) (fun x hx=>?_) hsp;have hx':=hW.lt x hx;have hs:=hheap x.block hx';cases x with|cell b off=>exact Fe hs off|map b=>exact hs
  .rw [hspec.2.2,hvars];rfl
  .exact ok_one hrt rfl (okWide_bool_mk htb _)
 .rw [hcall]at k1;simp at k1
theorem V5{S:Nat->Prop}(h:∀g,acD g=none):KU S w:=fun g d hg=>by rw[h g]at hg;simp at hg
end
theorem ZK{a:Ty}{r:List Ty}{v:El a}{m l:List V}(h:QF (a::r) l)(e:l=.x a v::m):zL a v/\QF r m:=by obtain⟨v',m',h1,h2,h3⟩:=h;simp_all
theorem TY{t:Ty}{s:Sl (El t)}(h:zL (.sl t) s):s.l.length<9223372036854775808:=by have:s.l.length<=2^63-1:=h.1.1;omega
open Go.Sort
open Go.Proofs (sortWorldK)
section
variable{P:Program}{S:Nat->Prop}{w w':World}{f:FuncId}
theorem QE.mg(S:Nat->Prop)(w:World):QE S w w<->∀b,S b->b<w.heap.size:=⟨fun h=>h.WM,fun h=>⟨h,fun _ _=>rfl,aw _,fun _ _=>rfl,fun b cr ho=>⟨cr,ho,rfl⟩,Io.refl _⟩⟩
theorem Left.plain{sp:cR}{z:D7 sp.al}{t:Ty}{y:El t}{x:Value}(hw:WZ sp.al z=some ([.x t],[],[.x t y]))(ht:kR t=false)(hr:RT S w t y [x])(hS:∀b,S b->b<w.heap.size):Left S w [] sp z [] x w:=⟨S,[x],[],[],_,_,_,hw,rfl,iW.refl _ _,fun b h=>.inl h,hS,⟨[_],[],[],[],rfl,rfl,.inr ⟨[x],⟨rfl,y,rfl,hr⟩,by rw[if_neg (by show¬kR t=true;rw[ht];simp)]⟩,rfl,rfl⟩,⟨rfl,rfl⟩,kj,fun b h=>by simp at h,(QE.mg _ _).2 fun b h=>h.1⟩
theorem Qt{t:Ty}{y:El t}{xs:List Value}{fp:List Nat}(ht:kR t=false)(h:SG S w [(false,.x t)] [.x t y] xs fp):∃x,xs=[x]/\fp=[]/\RT S w t y [x]:=by
 cases xs with
 |nil=>exact h.elim
 |cons x xs=>
  obtain⟨l1,l2,f1,f2,e1,e2,h1,_,h2⟩:=h;cases xs with
  |cons _ _=>exact h2.elim
  |nil=>
   obtain⟨rfl,rfl⟩:=h2;rcases h1 with⟨e,_⟩|⟨cs,⟨rfl,z,rfl,h3⟩,h4⟩
   .cases e
   .rw [if_neg (by show¬kR t=true;rw[ht];simp)]at h4;simp_all
def acQ(P:Program)(f:Nat):Bool:=match P.funcs[f]?with
 |some fn=>!(fn.name== "runtime.NumGoroutine")&&fn.body.isNone&&(Extern.findNext fn).isNone
 |none=>false
def acP(P:Program)(f:Nat):Option (Array Value->Sem Value):=match P.funcs[f]?with
 |some fn=>Extern.find fn
 |none=>none
theorem T5{e:Array Value->Sem Value}(h1:acQ P f=true)(h2:acP P f=some e)(args:Array Value){z:Value}(h:e args=pure z):(callFunc f args).run P w=.ok (.value z) w:=by
 unfold acQ at h1;unfold acP at h2;split at h1
 .rename_i fn hf;rw[hf]at h2;simp at h1;have hn':=by simpa using h1.1.1
  have hb':=by simpa using h1.1.2
  have he:=h2;simp[callFunc,hf,hn',hb',h1.2,he,h]
 .cases h1
def yg(n:Nat):Option Int:=bif(FloatKind.f64.format.read n).isNaN then none else some (n:Int)
def yf(n:Int):Option Nat:=some n.toNat
def Km(ro:Bool):cR:=⟨[(false,.x (.f .f64))],[([.x (.i .u64)],[])],ro,[],fun p=>yg p⟩
def Kl(ro:Bool):cR:=⟨[(false,.x (.i .u64))],[([.x (.f .f64)],[])],ro,[],fun p=>yf p⟩
theorem Sd{ro:Bool}(h1:acQ P f=true)(h2:acP P f=some Extern.MathFloatBits.float64bits):sG P f (Km ro):=by
 refine⟨fun _=>rfl,fun S w xs fp(p:Nat)(z:Int)hS hr _ _ _ hz=>?_⟩;obtain⟨x,rfl,rfl,m,e,hm⟩:=Qt rfl hr;obtain rfl:=(aE e).1;have hz:yg p=some z:=hz;unfold yg at hz;cases hc:(FloatKind.f64.format.read p).isNaN<;>rw[hc]at hz
 .cases hz;obtain rfl:m=p:=hm.resolve_right fun h=>by have:=h.1;unfold KY at this;rw[hc]at this;cases this
  exact .inr ⟨.int .u64 (m:Int),T5 h1 h2 _ rfl,Left.plain rfl rfl rfl hS⟩
 .cases hz
theorem Sc{ro:Bool}(h1:acQ P f=true)(h2:acP P f=some Extern.MathFloatBits.float64frombits):sG P f (Kl ro):=by refine⟨fun _=>rfl,fun S w xs fp(p:Int)(z:Nat)hS hr _ _ _ hz=>?_⟩;obtain⟨x,rfl,rfl,e⟩:=Qt rfl hr;obtain rfl:=(aE e).1;obtain rfl:p.toNat=z:=af hz;exact .inr ⟨.float .f64 p.toNat,T5 h1 h2 _ rfl,Left.plain rfl rfl ⟨_,rfl,.inl rfl⟩ hS⟩
end
section
variable{α:Type}[Inhabited α]{enc:α->List Value}{k:Nat}{w:World}{cQ off n:Nat}{d:Array α}{os:Array Obj}
theorem MG{b:Nat}(hb:b<w.heap.size):(sortWorldK enc k w cQ off n d os).heap[b]?=if cQ=b then(w.heap[b]?).map (onCells (putCells id off (flatK enc k d)))else w.heap[b]?:=by unfold sortWorldK grow putRowK putRow mapBlock;simp;rw[Array.getElem?_append_left (by simpa using hb),Array.getElem?_modify]
theorem IP:w.heap.size<=(sortWorldK enc k w cQ off n d os).heap.size:=by unfold sortWorldK grow putRowK putRow mapBlock;simp
theorem Fy{b:Nat}(hb:b<w.heap.size)(hne:b≠cQ):(sortWorldK enc k w cQ off n d os).heap[b]?=w.heap[b]?:=by rw[MG hb,if_neg (Ne.symm hne)]
theorem MF{cr:Array Value}(ho:uq w cQ cr):uq (sortWorldK enc k w cQ off n d os) cQ (putCells id off (flatK enc k d) cr):=by have hlt:=ho.lt;obtain⟨t,h⟩:=ho;exact⟨t,by rw[MG hlt,if_pos rfl,h];rfl⟩
theorem UN{a:Addr}(ha:a.block<w.heap.size):(sortWorldK enc k w cQ off n d os).frozen? a=w.frozen? a:=by
 unfold World.frozen?;rw[MG ha];by_cases e:cQ=a.block
 .rw [if_pos e];cases w.heap[a.block]?with
  |none=>rfl
  |some o=>cases o<;>rfl
 .rw [if_neg e]
theorem MZ(cr F:Array Value):(putCells id off F cr).size=cr.size:=by simp[putCells]
theorem afB{cr F:Array Value}{j:Nat}(hj:j<F.size)(hk:off+F.size<=cr.size):(putCells id off F cr)[off+j]?=some F[j]!:=by
 unfold putCells
 grind
theorem Xp{cr:Array Value}(ho:uq w cQ cr):QE (fun c=>c<w.heap.size/\c∉[cQ]) w (sortWorldK enc k w cQ off n d os):=
 ⟨fun c hc=>hc.1,fun c hc=>Fy hc.1 fun e=>hc.2 (by rw[e];simp),IP,fun a ha=>UN ha,fun c a hc=>by
  by_cases e:c=cQ
  .subst e;exact⟨_,MF hc,MZ _ _⟩
  .exact ⟨a,hc.mg (Fy hc.lt e),rfl⟩,rfl,rfl,rfl,by simp⟩
theorem adI{S:Nat->Prop}(hS:∀c,S c->c<w.heap.size):∀c,S c->c<(sortWorldK enc k w cQ off n d os).heap.size:=fun c hc=>bY (hS c hc) IP
end
section
variable{P:Program}{f g:FuncId}{t:Ty}{vals:El t->List Value}
def KO(t:Ty)(vals:El t->List Value):Prop:=∀{S:Nat->Prop}{w:World}{x:El t}{c:List Value},RT S w t x c<->c=vals x
theorem Fv(hv:KO t vals)(x:El t):(vals x).length=ei t:=RT.len (S:=fun _=>False) (w:=⟨#[],fun _ _=>0,0,default,default⟩) (hv.2 rfl)
theorem Fu(hv:KO t vals){S:Nat->Prop}{w:World}:∀{l:List (El t)}{c:List Value},o_ (RT S w t) l c<->c=l.flatMap vals:=by
 intro l;induction l with
 |nil=>exact Iff.rfl
 |cons x l ih=>
  intro c;constructor
  .rintro ⟨a,b,rfl,h1,h2⟩;rw[hv.1 h1,ih.1 h2,eC]
  .rintro rfl;exact⟨_,_,rfl,hv.2 rfl,ih.2 rfl⟩
theorem P1{α β:Type}{f:α->List β}{k:Nat}(hf:∀x,(f x).length=k):∀(l:List α)(i r:Nat),r<k->(l.flatMap f)[i*k+r]?=(l[i]?).bind fun x=>(f x)[r]?:=by
 intro l;induction l with
 |nil=>simp
 |cons x l ih=>intro i r hr;rw[eC];cases i with|zero=>grind|succ i=>rw[List.getElem?_append_right (by rw[hf,gS];omega),hf,gS,show i*k+k+r-k=i*k+r by omega,ih i r hr];simp
theorem P0{α β:Type}{f:α->List β}{k:Nat}(hf:∀x,(f x).length=k)(l:List α):(l.flatMap f).length=l.length*k:=by induction l with|nil=>simp|cons x l ih=>grind
theorem PZ(hv:KO t vals)(hs:0<ei t)(l:List (El t)){j:Nat}(hj:j<l.length*ei t):(l.flatMap vals)[j]?=some (flatK vals (ei t) l.toArray)[j]!:=by have hq:=Nat.div_lt_of_lt_mul (by rwa[ll]at hj);have hm:j %ei t<ei t:=Nat.mod_lt _ hs;have h:=P1 (Fv hv) l (j/ei t) _ hm;rw[ll,Nat.div_add_mod]at h;rw[get_flatK _ _ _ _ (by simpa using hj)];simp_all[Fv]
theorem row_holds(hv:KO t vals)(hs:0<ei t){w:World}{b off:Nat}{cr:Array Value}{l:List (El t)}(ho:uq w b cr)(ha:At w b off (l.flatMap vals)):HoldsK vals (ei t) w b off l.toArray:=by intro j hj;rw[size_flatK]at hj;exact⟨ha.get (PZ hv hs l hj),ho.frozen _ _⟩
theorem XZ(hv:KO t vals)(hs:0<ei t){w:World}{b off n:Nat}{cr:Array Value}{os:Array Obj}{d:List (El t)}(ho:uq w b cr)(hext:off+d.length*ei t<=cr.size):At (sortWorldK vals (ei t) w b off n d.toArray os) b off (d.flatMap vals):=by
 refine aaS fun i v hi=>?_;have hlt:i<d.length*ei t:=by rw[<-P0 (Fv hv)];grind
 rw[(MF ho).cell,afB (by simpa using hlt) (by simpa using hext),<-PZ hv hs d hlt];exact hi
theorem adQ{S:Nat->Prop}{w:World}{s:Sl (El t)}{x:Value}{fp:List Nat}(h:Lw S w (.os t) [.x (.sl t) s] x fp):
  (s=.nil/\x=.slice none 0 0/\fp=[])\/∃(r:List (El t))(lo:rJ)(cr:Array Value)(d:List Value)(addr:Nat),s=.mk r/\lo.t=t/\oq t=true/\0<ei t/\uq w lo.cQ cr/\cr.size=lo.ext/\r.length<=lo.cap/\lo.jA+r.length*ei t<=lo.ext/\o_ (RT S w t) r d/\At w lo.cQ lo.jA d/\
   x=.slice (some ⟨lo.cQ,addr,none⟩) r.length lo.cap/\(0<lo.cap->addr=lo.jA)/\addr+lo.cap*ei t<=lo.ext/\fp=[lo.cQ]:=by
 rcases h with⟨e,_⟩|⟨c,⟨s',e,h1⟩,h2⟩
 .cases e
 cases e;subst h2;rcases h1 with⟨rfl,h3,rfl⟩|⟨lo,h3,h4,rfl⟩
 .simp_all
 .obtain ⟨k1,k2,k3,k4,k5⟩:=h3;rw[k2]at h4;cases s with
  |nil=>exact .inl ⟨rfl,(aE h4).1,rfl⟩
  |mk r=>
   obtain⟨cr,d,q1,q2,q3,q4,q5,q6⟩:=k5 r rfl;obtain⟨addr,cap,e1,e2,e3,e4,e5⟩:=h4;obtain rfl:cap=lo.cap:=by omega
   rw[k1]at e4 e5;exact .inr ⟨r,lo,cr,d,addr,rfl,k1,k3,k4,q1,q2,q3,q4,q5,q6,(aE e1).1,fun h=>by omega,e5,rfl⟩
theorem Ry{S:Nat->Prop}{w:World}:Lw S w (.os t) [.x (.sl t) (.nil:Sl (El t))] (.slice none 0 0) []:=.inr ⟨_,⟨.nil,rfl,.inl ⟨rfl,rfl,rfl⟩⟩,rfl⟩
theorem JN{S:Nat->Prop}{w:World}{r:List (El t)}{lo:rJ}{cr:Array Value}{d:List Value}{addr:Nat}(h1:oq t=true)(h2:0<ei t)(h3:uq w lo.cQ cr)(h4:cr.size=lo.ext)(h5:r.length<=lo.cap)(h6:lo.jA+r.length*ei t<=lo.ext)(h7:o_ (RT S w t) r d)(h8:At w lo.cQ lo.jA d)(h9:0<lo.cap->addr=lo.jA)(h10:addr+lo.cap*ei t<=lo.ext):
  Lw S w (.os t) [.x (.sl t) (.mk r:Sl (El t))] (.slice (some ⟨lo.cQ,addr,none⟩) r.length lo.cap) [lo.cQ]:=
 .inr ⟨_,⟨.mk r,rfl,.inr ⟨⟨lo.cQ,lo.jA,lo.ext,lo.cap,t,some r.length⟩,⟨rfl,rfl,h1,h2,fun r' e=>by grind⟩,⟨addr,lo.cap,rfl,h5,by simp,fun h=>by simpa using h9 h,h10⟩,rfl⟩⟩,rfl⟩
def zV{α:Type}(srt:Array α->Array α)(s:Sl α):Option (Sl α):=bif iu s.l.length 4611686018427387904 then some (s.to (srt s.l.toArray).toList)else none
def Wi{α:Type}(fn:List α->List α)(s:Sl α):Option (Sl α):=bif iu s.l.length 4611686018427387904 then some (s.to (fn s.l))else none
def DF(t:Ty)(g:FuncId)(srt:Array (El t)->Array (El t)):cR:=⟨[(true,.os t),(false,.fn g .ni)],[([],[.os t])],false,[true,false],fun p=>match p with|s=>zV srt s⟩
def Bc(t:Ty)(srt:Array (El t)->Array (El t)):cR:=⟨[(true,.os t)],[([],[.os t])],false,[true],fun p=>match p with|s=>zV srt s⟩
def Si(t:Ty)(fn:List (El t)->List (El t)):cR:=⟨[(true,.os t)],[([.os t],[.gn])],false,[true],fun p=>match p with|s=>Wi fn s⟩
theorem LJ(hv:KO t vals){S:Nat->Prop}{w:World}(hS:∀c,S c->c<w.heap.size){sp:cR}{srt:Array (El t)->Array (El t)}(hsz:∀d,(srt d).size=d.size){s:Sl (El t)}{z:D7 sp.al}{x:Value}{fp:List Nat}{R:Value->World->Prop}
  (hx:Lw S w (.os t) [.x (.sl t) s] x fp) (hw:WZ sp.al z=some ([],[.os t],[.x (.sl t) (s.to (srt s.l.toArray).toList)])) (hn:s.l.length<4611686018427387904) (hfp:∀b∈fp,¬S b/\b<w.heap.size)
  (hcon:∀(cQ off cap:Nat)(d:Array (El t)),HoldsK vals (ei t) w cQ off d->cQ<w.heap.size->d.size<4611686018427387904->¬S cQ->x=.slice (some ⟨cQ,off,none⟩) d.size cap->(∀n os,Left S w fp sp z [x] (.tuple #[]) (sortWorldK vals (ei t) w cQ off n (srt d) os))->R x w)
  (hnil:∀(p:Option Addr)(cap:Nat),x=.slice p 0 cap->Left S w fp sp z [x] (.tuple #[]) w->R x w):R x w:=by
 rcases adQ hx with⟨rfl,rfl,rfl⟩|⟨r,lo,cr,d,addr,rfl,k1,k2,k3,k4,k5,k6,k7,k8,k9,rfl,k10,k11,rfl⟩
 .refine hnil none 0 rfl ⟨S,[],[],[],_,_,_,hw,rfl,iW.refl _ _,fun b h=>.inl h,hS,⟨rfl,rfl⟩,⟨[_],[],[],[],rfl,rfl,Ry,rfl,rfl⟩,kj,fun b h=>by simp at h,(QE.mg _ _).2 fun b h=>h.1⟩
 .obtain ⟨hSb,_⟩:=hfp lo.cQ (by simp);cases r with
  |nil=>
   have e0:(srt #[]).toList=[]:=by grind
   refine hnil _ _ rfl ⟨S,[],[],[lo.cQ],_,_,_,hw,rfl,iW.refl _ _,fun b h=>.inl h,hS,⟨rfl,rfl⟩,⟨[_],[],[lo.cQ],[],rfl,rfl,?_,rfl,rfl⟩,by simp,fun b h=>?_,(QE.mg _ _).2 fun b h=>h.1⟩
   .show Lw S _ (.os t) [.x (.sl t) (.mk (srt #[]).toList:Sl (El t))] _ _;simp_all
   simp_all
  |cons y r=>
   have hb:addr=lo.jA:=k10 (by simp at k6;omega);subst hb;obtain rfl:=(Fu hv).1 k8;refine hcon lo.cQ lo.jA lo.cap (y::r).toArray (row_holds hv k3 k4 k9) k4.lt (by simpa[Sl.l]using hn) hSb (by simp) fun n os=>?_;have hlen:(srt (y::r).toArray).toList.length=(y::r).length:=by rw[gJ,hsz];simp
   refine⟨S,[],[],[lo.cQ],_,_,_,hw,rfl,⟨fun _ h=>h,fun c hc=>Fy (hS c hc) fun e=>hSb (e▸hc)⟩,fun c h=>.inl h,adI hS,⟨rfl,rfl⟩,⟨[_],[],[lo.cQ],[],rfl,rfl,?_,rfl,rfl⟩,by simp,fun c h=>?_,Xp k4⟩
   .have hat:=XZ (n:=n) (os:=os) hv k3 k4 (by rw[hlen,k5];exact k7);have:=JN (S:=S) (lo:=lo) k2 k3 (MF (n:=n) (os:=os) (d:=srt (y::r).toArray) (enc:=vals) (k:=ei t) (off:=lo.jA) k4) (by rw[MZ];exact k5) (by rw[hlen];exact k6) (by rw[hlen];exact k7) ((Fu hv).2 rfl) hat k10 k11;rw[hlen]at this;exact this
   .grind [bY,IP]
theorem abl(hv:KO t vals)(srt:Array (El t)->Array (El t))(hsz:∀d,(srt d).size=d.size)(henter:∀args w,(callFunc f args).run P w=.ok (.enter f args) w)
  (hcon:∀(S:Nat->Prop)(cQ off cap:Nat)(d:Array (El t))(w:World),HoldsK vals (ei t) w cQ off d->cQ<w.heap.size->d.size<4611686018427387904->(∀c,S c->c<w.heap.size)->¬S cQ->KU S w->
   Calls P f #[.slice (some ⟨cQ,off,none⟩) d.size cap,.func (.func g) #[] #[]] w fun e w'=>e=.returned (.tuple #[])/\∃n os,w'=sortWorldK vals (ei t) w cQ off n (srt d) os)
  (hnil:∀(p:Option Addr)(cap:Nat)(fv:Value)(w:World),Calls P f #[.slice p 0 cap,fv] w fun e w'=>e=.returned (.tuple #[])/\w'=w):sG P f (DF t g srt):=by
 refine⟨(fun h=>nomatch h),fun S w xs fp(p:Sl (El t))z hS hr hnd hfp hgl hz=>?_⟩;obtain⟨hl,hz⟩:=aN hz;cases hz;have hl:=by simpa[fM]using hl
 cases xs with
 |nil=>exact hr.elim
 |cons x xs=>
 cases xs with
 |nil=>obtain⟨_,_,_,_,_,_,_,_,h⟩:=hr;exact h.elim
 |cons u xs=>
 cases xs with
 |cons _ _=>obtain⟨_,_,_,_,_,_,_,_,_,_,_,_,_,_,_,_,h⟩:=hr;exact h.elim
 |nil=>
  obtain⟨l1,l2,f1,f2,e1,rfl,h1,_,l3,l4,f3,f4,rfl,rfl,h2,h3,rfl,rfl⟩:=hr;obtain rfl:=h3 rfl
  have hu:u=.func (.func g) #[] #[]/\l3=[]:=by
   rcases h2 with⟨e,_⟩|⟨c,⟨d,rfl,rfl,rfl,_⟩,h4⟩
   .cases e
   .exact ⟨(aE h4).1.symm,rfl⟩
  obtain⟨rfl,rfl⟩:=hu;obtain rfl:[V.x (.sl t) p]=l1:=by have h:[V.x (.sl t) p]=l1++[]:=e1;simpa using h
  simp only[bO]at hfp|-;refine LJ (R:=fun x w=>NY P f [x,.func (.func g) #[] #[]].toArray w _) (sp:=DF t g srt) hv hS hsz h1 rfl hl hfp (fun cQ off cap d hH hb hd hSb ex hL=>?_) fun p cap ex hL=>?_
  .subst ex;refine .inl ⟨f,_,henter _ _,(hcon S cQ off cap d w hH hb hd hS hSb hgl).mono ?_⟩;rintro e w' ⟨rfl,n,os,rfl⟩;exact⟨_,rfl,hL n os⟩
  .subst ex;refine .inl ⟨f,_,henter _ _,(hnil p cap _ w).mono ?_⟩;rintro e w' ⟨rfl,rfl⟩;exact⟨_,rfl,hL⟩
theorem XA(hv:KO t vals)(srt:Array (El t)->Array (El t))(hsz:∀d,(srt d).size=d.size)(henter:∀args w,(callFunc f args).run P w=.ok (.enter f args) w)
  (hcon:∀(cQ off cap:Nat)(d:Array (El t))(w:World),HoldsK vals (ei t) w cQ off d->cQ<w.heap.size->d.size<4611686018427387904->
   Calls P f #[.slice (some ⟨cQ,off,none⟩) d.size cap] w fun e w'=>e=.returned (.tuple #[])/\∃n os,w'=sortWorldK vals (ei t) w cQ off n (srt d) os)
  (hnil:∀(p:Option Addr)(cap:Nat)(w:World),Calls P f #[.slice p 0 cap] w fun e w'=>e=.returned (.tuple #[])/\w'=w):sG P f (Bc t srt):=by
 refine⟨(fun h=>nomatch h),fun S w xs fp(p:Sl _)z hS hr hnd hfp hgl hz=>?_⟩;obtain⟨hl,hz⟩:=aN hz;cases hz;have hl:=by simpa[fM]using hl
 cases xs with
 |nil=>exact hr.elim
 |cons x xs=>
 cases xs with
 |cons _ _=>obtain⟨_,_,_,_,_,_,_,_,h⟩:=hr;exact h.elim
 |nil=>
  obtain⟨l1,l2,f1,f2,e1,rfl,h1,_,rfl,rfl⟩:=hr;obtain rfl:[V.x _ p]=l1:=by have h:[V.x (.sl t) p]=l1++[]:=e1;simpa using h
  simp at hfp|-;refine LJ (R:=fun x w=>NY P f [x].toArray w _) (sp:=Bc t srt) hv hS hsz h1 rfl hl hfp (fun cQ off cap d hH hb hd hSb ex hL=>?_) fun p cap ex hL=>?_
  .subst ex;refine .inl ⟨f,_,henter _ _,(hcon cQ off cap d w hH hb hd).mono ?_⟩;rintro e w' ⟨rfl,n,os,rfl⟩;exact⟨_,rfl,hL n os⟩
  .subst ex;refine .inl ⟨f,_,henter _ _,(hnil p cap w).mono ?_⟩;rintro e w' ⟨rfl,rfl⟩;exact⟨_,rfl,hL⟩
theorem agq(hv:KO t vals)(fn:List (El t)->List (El t))(hfn:fn []=[])(henter:∀args w,(callFunc f args).run P w=.ok (.enter f args) w)
  (hcon:∀(cQ off cap:Nat)(l:List (El t))(w:World),HoldsK vals (ei t) w cQ off l.toArray->cQ<w.heap.size->l.length<4611686018427387904->l.length<=cap->
   Calls P f #[.slice (some ⟨cQ,off,none⟩) l.length cap] w fun e w'=>e=.returned (.slice (some ⟨cQ,off,none⟩) (fn l).length cap)/\∃n os bH,(fn l++bH).length=l.length/\w'=sortWorldK vals (ei t) w cQ off n (fn l++bH).toArray os)
  (hnil:∀(p:Option Addr)(cap:Nat)(w:World),Calls P f #[.slice p 0 cap] w fun e w'=>e=.returned (.slice p 0 cap)/\w'=w):sG P f (Si t fn):=by
 refine⟨(fun h=>nomatch h),fun S w xs fp(p:Sl (El t))z hS hr hnd hfp hgl hz=>?_⟩;have hz:Wi fn p=some z:=hz;obtain⟨hl,hz⟩:=aN hz;cases hz;have hl:p.l.length<4611686018427387904:=by simpa[fM]using hl
 cases xs with
 |nil=>exact hr.elim
 |cons x xs=>
 cases xs with
 |cons _ _=>obtain⟨_,_,_,_,_,_,_,_,h⟩:=hr;exact h.elim
 |nil=>
  obtain⟨l1,l2,f1,f2,e1,rfl,h1,_,rfl,rfl⟩:=hr;obtain rfl:[V.x (.sl t) p]=l1:=by have h:[V.x (.sl t) p]=l1++[]:=e1;simpa using h
  simp only[bO]at hfp|-;rcases adQ h1 with⟨rfl,rfl,rfl⟩|⟨r,lo,cr,d,addr,rfl,k1,k2,k3,k4,k5,k6,k7,k8,k9,rfl,k10,k11,rfl⟩
  .refine .inl ⟨f,_,henter _ _,(hnil none 0 w).mono ?_⟩;rintro e w' ⟨rfl,rfl⟩;exact⟨_,rfl,S,[_],[],[],_,_,_,rfl,rfl,iW.refl _ _,fun b h=>.inl h,hS,⟨[_],[],[],[],rfl,rfl,Ry,rfl,rfl⟩,⟨[],[],[],[],rfl,rfl,.inl ⟨rfl,rfl,rfl⟩,rfl,rfl⟩,kj,fun b h=>by simp at h,(QE.mg _ _).2 fun b h=>h.1⟩
  .obtain ⟨hSb,_⟩:=hfp lo.cQ (by simp);cases r with
   |nil=>
    refine .inl ⟨f,_,henter _ _,(hnil _ _ w).mono ?_⟩;rintro e w' ⟨rfl,rfl⟩;refine⟨_,rfl,S,[_],[lo.cQ],[],_,_,_,rfl,rfl,iW.refl _ _,fun b h=>.inl h,hS,⟨[_],[],[lo.cQ],[],rfl,rfl,?_,rfl,rfl⟩,⟨[],[],[],[],rfl,rfl,.inl ⟨rfl,rfl,rfl⟩,rfl,rfl⟩,by simp,fun b h=>?_,(QE.mg _ _).2 fun b h=>h.1⟩
    .show Lw S _ (.os t) [.x (.sl t) (.mk (fn []):Sl (El t))] _ _;simp_all
    simp_all
   |cons y r=>
    have hb:addr=lo.jA:=k10 (by simp at k6;omega);subst hb;obtain rfl:=(Fu hv).1 k8;refine .inl ⟨f,_,henter _ _,(hcon lo.cQ lo.jA lo.cap (y::r) w (row_holds hv k3 k4 k9) k4.lt hl k6).mono ?_⟩;rintro e w' ⟨rfl,n,os,bH,hrest,rfl⟩;have hle:(fn (y::r)).length<=(y::r).length:=by grind
    have hle2:(fn (y::r)).length*ei t<=(y::r).length*ei t:=du _ hle;refine⟨_,rfl,S,[_],[lo.cQ],[],_,_,_,rfl,rfl,⟨fun _ h=>h,fun c hc=>Fy (hS c hc) fun e=>hSb (e▸hc)⟩,fun c h=>.inl h,adI hS,⟨[_],[],[lo.cQ],[],rfl,rfl,?_,rfl,rfl⟩,⟨[],[],[],[],rfl,rfl,.inl ⟨rfl,rfl,rfl⟩,rfl,rfl⟩,by simp,fun c h=>?_,Xp k4⟩
    .have hat:=XZ (n:=n) (os:=os) (d:=fn (y::r)++bH) hv k3 k4 (by rw[hrest,k5];exact k7);rw[List.flatMap_append]at hat;exact JN (S:=S) (lo:=lo) (r:=fn (y::r)) k2 k3 (MF (n:=n) (os:=os) (d:=(fn (y::r)++bH).toArray) (enc:=vals) (k:=ei t) (off:=lo.jA) k4) (by rw[MZ];exact k5) (by omega) (by omega) ((Fu hv).2 rfl) (DY.1 hat).1 k10 k11
    .grind [bY,IP]
end
open Go.RowKit Go.Maps Go.Shelf
def VX(x:Int):List Int->List Int
 |[]=>[x]
 |y::r=>bif decide (x<=y)then x::y::r else y::VX x r
def pP:List Int->List Int
 |[]=>[]
 |x::r=>VX x (pP r)
theorem G_(x:Int):∀l,(VX x l).Perm (x::l)
 |[]=>.refl _
 |y::r=>by
  unfold VX;cases decide (x<=y)
  .exact ((G_ x r).cons y).trans (.swap x y r)
  .exact .refl _
theorem xd:∀l,(pP l).Perm l
 |[]=>.refl _
 |x::r=>(G_ x _).trans ((xd r).cons x)
theorem H_(x:Int):∀l,l.Pairwise (·<=·)->(VX x l).Pairwise (·<=·)
 |[],_=>List.pairwise_singleton _ _
 |y::r,h=>by
  unfold VX;obtain⟨h1,h2⟩:=dW.1 h;cases e:decide (x<=y)
  .have e:=of_decide_eq_false e;refine dW.2 ⟨fun z hz=>?_,H_ x r h2⟩;rcases aO.1 ((G_ x r).mem_iff.1 hz)with rfl|hz
   .omega
   .exact h1 z hz
  .refine dW.2 ⟨fun z hz=>?_,h⟩
   grind
theorem AP:∀l,(pP l).Pairwise (·<=·)
 |[]=>.nil
 |x::r=>H_ x _ (AP r)
theorem LI{ss L:List Int}(h:ss.Perm L):ss.mergeSort (fun x y=>decide (x<=y))=pP L:=(mergeSort_of_perm_i (h.trans (xd L).symm)).trans (List.mergeSort_of_pairwise ((AP L).imp fun h=>decide_eq_true h))
def WF{ν:Type}(m:Mp Int ν):Prop:=m.es.length<=1000000/\(∀e∈m.es,e.2.2<m.c_/\-9223372036854775808<=e.1/\e.1<=9223372036854775807)/\(m.es.map (·.2.2)).Nodup/\(m.es.map (·.1)).Nodup
instance{ν:Type}(m:Mp Int ν):Decidable (WF m):=inferInstanceAs (Decidable (_/\_/\_/\_))
def L8{ν:Type}(m:Mp Int ν):Bool:=decide (WF m)
def J5{ν:Type}:List (Int×ν×Nat)->Sl Int
 |[]=>.nil
 |es=>.mk (pP (es.map (·.1)))
def rn{ν:Type}(m:Mp Int ν):Sl Int:=J5 m.es
section
variable{P:Program}{S K:Nat->Prop}{w0 w:World}{φ:iq}{H:Hf}{v:Ty}
theorem Mu{es:List (Int×El v×Nat)}:∀{ms:List MapEntry},od S w (.i .i64) v es ms->ms.map (·.key)=(es.map (·.1)).map (Value.int .i64)/\ms.map (·.born)=es.map (·.2.2):=by
 induction es with
 |nil=>intro ms h;cases ms<;>first|exact⟨rfl,rfl⟩|exact h.elim
 |cons e es ih=>intro ms h;cases ms with|nil=>exact h.elim|cons m ms=>obtain⟨⟨c,d,h1,h2,_,_,h5⟩,h6⟩:=h;obtain⟨k1,k2⟩:=ih h6;obtain rfl:c=[Value.int .i64 e.1]:=h1;exact⟨by rw[bN,k1,h2];rfl,by rw[bN,bN,k2,h5]⟩
theorem acm{ti:TypeId}(hti:P.underlying ti=some (.int .i64)){l:rJ}{m:Mp Int (El v)}(hro:RO S w φ l (.mp (.i .i64) v m))(hm:WF m):
  ∃(nn:Nat)(D0:DataW Unit)(R:Value->Option (DataW Unit×List MemPlace)),w.ownsMap P ti R l.cQ nn D0/\Maps.size D0<=1000000/\(intKeys D0).Perm (m.es.map (·.1)):=by
 obtain⟨n1,n2,n3,n4⟩:=hm;obtain⟨_,_,ms,hob,hE⟩:=hro;obtain⟨hkeys,hborn⟩:=Mu hE;have hl:ms.size=m.es.length:=by have:=congrArg List.length hkeys;simpa using this
 have hkx:∀x∈ms.toList,∃a,x.key=.int .i64 a/\keyOf P ti x.key=some (.int .i64 a):=fun x hx=>by have:x.key∈ms.toList.map (·.key):=aR.2 ⟨x,hx,rfl⟩;rw[hkeys]at this;obtain⟨a,ha,e⟩:=aR.1 this;obtain⟨en,hen',rfl⟩:=aR.1 ha;have:=n2 en hen';refine⟨en.1,e.symm,e▸keyOf_int_mk hti ?_⟩;simp only[Lit.wf,ax,decide_eq_true_eq];exact⟨this.2.1,this.2.2⟩
 let R:Value->Option (DataW Unit×List MemPlace):=fun _=>some (.nil,[])
 have hrg:∀x∈ms.toList,∀a,x.key=.int .i64 a->WideElems.rd P ti R x=some (.int .i64 a,.nil):=fun x hx a ha=>by
  obtain⟨a',h1,h2⟩:=hkx x hx;obtain rfl:a'=a:=by rw[h1]at ha;simpa using ha
  simp[WideElems.rd,h2,R]
 have hfit:WideElems.Fit P ti R ms m.c_:=by
  refine⟨?_,⟨fun x hx=>?_,?_,?_⟩,fun x hx=>?_⟩
  .grind [maxLen]
  .have:x.born∈ms.toList.map (·.born):=aR.2 ⟨x,hx,rfl⟩
   grind
  .rw [hborn];exact n3
  .grind
  grind
 refine⟨ms.size,.map _,R,⟨ms,m.c_,hob,hfit,aw _,rfl⟩,?_,?_⟩
 .rw [Maps.size_eq,(WideShapes.sorted_perm _).length_eq,List.length_map,gJ];omega
 .have hp:=((WideShapes.sorted_perm (ms.toList.map (WideElems.rg P ti R))).map fun(p:Lit×DataW Unit)=>Go.intOf p.1)
  refine hp.trans (.of_eq ?_)
  have h3:(ms.toList.map (WideElems.rg P ti R)).map (fun p=>Go.intOf p.1)=ms.toList.map fun x=>(match x.key with|.int _ a=>a|_=>0):=by
   grind [je,List.map_congr_left,WideElems.rg,Go.intOf]
  have h4:(ms.toList.map fun x=>(match x.key with|.int _ a=>a|_=>0))=(ms.toList.map (·.key)).map fun k=>(match k with|Value.int _ a=>a|_=>0):=by rw[je];rfl
  simp_all
theorem NH{o:Oper}{a:Act}{c:Go.Call}{fop:Operand}{f:FuncId}{d:List Value}(ho:o.op=.call c)(hcal:c.callee=.value fop)(hfe:a.eval fop=.func (.func f) #[] d.toArray){xs:List Value}(hxs:c.args.toList.map a.eval=xs){R:Value->World->Prop}(hent:NY P f (xs++d).toArray w R)
  {next:Act->World->Prop} {Q:Exit->Act->World->Prop} (hn:∀val w',R val w'->next (a.put o.dst val) w'):o.wp P a w next Q:=by
 subst hxs
 have hrun:∀r,(callFunc f (c.args.toList.map a.eval++d).toArray).run P w=r->(execOp a.eval o).run P w=r:=by
  have e1:(#[]++c.args.map a.eval)++d.toArray=(c.args.toList.map a.eval++d).toArray:=by simp
  grind [execOp,Sem.run_bind,resolve,Deferred.ofValue,Sem.run_pure,Result.andThen_ok,invoke]
 unfold Oper.wp;rcases hent with⟨g,as',hr,hc⟩|⟨val,hr,hleft⟩
 .rw [hrun _ hr];refine hc.mono fun en w' hR=>?_
  grind
 .rw [hrun _ hr];exact hn val w hleft
def Zk(fc:FuncId):Hk:=⟨fun f vs h n k=>match f,vs with
 |.fn _ _ .ni,[.om id]=>(match fO h id with
  |some (.mp kt vt _)=>k (.fn false fc (.co (.op n (.mp kt vt) []) .ni)) [(n,some (.bx (.mp kt vt) (.om id)))] (n+1) []
  |_=>none)
 |_,_=>none⟩
theorem VQ{fk fc:FuncId}{tc:TypeId}(hen:∀args w,(callFunc fk args).run P w=.ok (.enter fk args) w)
  (hk:∀(mb:Option Nat)(W:World),Calls P fk #[.map mb] W fun e w'=>e=.returned (.func (.func fc) #[] #[.pointer (some ⟨W.heap.size,0,none⟩)])/\w'=W.alloc (.cells #[.map mb] tc)):Lz P fk (Zk fc):=by
 intro o c fop z caps vs h n β kk r ho hcal hS hv hr;cases caps<;>first|(cases hr;done)|skip
 cases vs with
 |nil=>cases hr
 |cons v vs=>
 cases v<;>first|(cases hr;done)|skip
 cases vs<;>first|(cases hr;done)|skip
 rename_i id;change (match fO h id with|some (.mp kt vt _)=>kk _ [(n,some (.bx (.mp kt vt) (.om id)))] (n+1) []|_=>none)=some r at hr;split at hr<;>first|(cases hr;done)|skip
 rename_i kt vt m hm;have hid:id<n:=hS.lt _ _ hm;refine⟨_,_,_,_,hr,cA _,mA.cons (fun _ _=>.inl (aw _)) mA.nil,⟨bh _,trivial⟩,fun p hp t c e=>?_,fun p hp=>?_,?_⟩
 .obtain rfl:=aB.1 hp;cases e;show id<n+1;omega
 .obtain rfl:=aB.1 hp;exact .inl ⟨bh _,trivial⟩
 .intro a S K w0 w φ H hI hsh har hag hfr next Q hn
  obtain⟨cf,⟨d,rfl,k3⟩,k2⟩:=har.1;obtain rfl:d=[]:=k3;have hfe:=by have:=k2;exact(aE this).1.symm
  match hc:c.args.toList,har with
  |[y],har=>
  obtain⟨l,hl,hx⟩:=R1.iB (v:=.om id) har.2.1;refine NH (d:=[]) ho hcal hfe (xs:=[.map (some l.cQ)]) (by rw[hc,List.map_singleton,hx]) (.inl ⟨fk,_,hen _ _,(hk (some l.cQ) w).mono ?_⟩) (R:=fun val w'=>val=.func (.func fc) #[] #[.pointer (some ⟨w.heap.size,0,none⟩)]/\w'=w.alloc (.cells #[.map (some l.cQ)] tc)) ?_
  .simp_all
  .rintro val w' ⟨rfl,rfl⟩;refine hn _ _ (jE.new hI (hfr n (aw _) (bh _)) (l:=⟨w.heap.size,0,0,0,.mp kt vt,none⟩) (fun _ _ _ h=>by cases h;rfl) rfl (fun hs=>⟨rfl,rfl,_,xc w _ tc,?_⟩) rfl ?_)
   .exact ⟨l,pY _ (hfr n (aw _) (bh _)) _ _ hl,rfl⟩
   .exact R1.rw (R1.CH ⟨[.pointer _],rfl,[_],[],rfl,⟨_,gQ _ _ _,rfl,trivial,rfl⟩,rfl⟩ rfl)
def Ol(fc:FuncId):Hk:=⟨fun f vs h n k=>match f,vs with
 |.fn _ _ .ni,[.fn _ fc' (.co (.op b _ []) .ni)]=>bif fc'==fc then(match fO h b with
  |some (.bx _ (.om id))=>(match fO h id with
   |some (.mp (.i .i64) _ m)=>bif L8 m then k (.so n) [(n,some (.ar (.i .i64) (rn m) 0))] (n+1) [b,id]else none
   |_=>none)
  |_=>none)else none
 |_,_=>none⟩
theorem Oj{fs fc:FuncId}{ti:TypeId}(hti:P.underlying ti=some (.int .i64))(hen:∀args w,(callFunc fs args).run P w=.ok (.enter fs args) w)
  (hs:∀(B b nn:Nat)(D0:DataW Unit)(R:Value->Option (DataW Unit×List MemPlace))(w:World),w.cell? ⟨B,0,none⟩=some (.map (some b))->w.ownsMap P ti R b nn D0->Maps.size D0<=1000000->
   Calls P fs #[.func (.func fc) #[] #[.pointer (some ⟨B,0,none⟩)]] w fun e w'=>∃(v:Value)(ss:List Int),e=.returned v/\ss.Perm (intKeys D0)/\
    w'.ownsRow w.heap.size ti 1 v ss.length ((ss.mergeSort (fun x y=>decide (x<=y))).map (Value.int .i64))/\(v=.slice none 0 0<->ss=[])/\Below w.heap.size w w'):Lz P fs (Ol fc):=by
 intro o c fop z caps vs h n β kk r ho hcal hS hv hr;cases caps<;>first|(cases hr;done)|skip
 cases vs with
 |nil=>cases hr
 |cons v vs=>
 cases v<;>first|(cases hr;done)|skip
 rename_i zz fc' caps;cases caps<;>first|(cases hr;done)|skip
 rename_i c1 c2;cases c1<;>first|(cases hr;done)|skip
 rename_i b t p;cases p<;>first|(cases hr;done)|skip
 cases c2<;>first|(cases hr;done)|skip
 cases vs<;>first|(cases hr;done)|skip
 obtain⟨e,hr1⟩:=aN hr;clear hr;obtain rfl:=eq_of_beq e;clear e;split at hr1<;>first|(cases hr1;done)|skip
 rename_i tb id hb;split at hr1<;>first|(cases hr1;done)|skip
 rename_i vt m hm;obtain⟨hok0,hr⟩:=aN hr1;clear hr1;have hok:WF m:=of_decide_eq_true hok0;refine⟨_,_,_,_,hr,cA _,mA.cons (fun _ _=>.inl (aw _)) mA.nil,bh _,fun p hp t c e=>?_,fun p hp=>?_,?_⟩
 .obtain rfl:=aB.1 hp;cases e
 .obtain rfl:=aB.1 hp;exact .inl ⟨bh _,trivial⟩
 .intro a S K w0 w φ H hI hsh har hag hfr next Q hn
  obtain⟨cf,⟨d,rfl,k3⟩,k2⟩:=har.1;obtain rfl:d=[]:=k3;have hfe:a.eval fop=.func (.func fs) #[] #[]:=by have:[Value.func (.func fs) #[] #[]]=[a.eval fop]:=k2;exact(aE this).1.symm
  match hc:c.args.toList,har with
  |[y],har=>
  obtain⟨cy,⟨d,rfl,k4⟩,k5⟩:=har.2.1;obtain⟨d1,d2,rfl,⟨lb,hlb,_,_,rfl⟩,rfl⟩:=k4;have hye:a.eval y=.func (.func fc') #[] #[.pointer (some ⟨lb.cQ,0,none⟩)]:=by have:=k5;have:=(aE this).1.symm;rw[this];cases t<;>rfl
  obtain⟨lb',hlb',hrb,_⟩:=hI.o9 b _ ((hag b (by simp)).trans hb);obtain rfl:=af (hlb.symm.trans hlb');obtain⟨_,_,cr,hown,l,hl,harr⟩:=hrb;obtain⟨l',hl',hrm,_⟩:=hI.o9 id _ ((hag id (by simp)).trans hm);obtain rfl:=af (hl.symm.trans hl')
  have hcell:w.cell? ⟨lb.cQ,0,none⟩=some (.map (some l.cQ)):=by
   rw[hown.cell];have:cr.toList[0]?=some (.map (some l.cQ)):=by rw[harr];rfl
   simpa using this
  obtain⟨nn,D0,R,hown2,hsz,hperm⟩:=acm hti hrm hok
  refine NH (d:=[]) ho hcal hfe (xs:=[_]) (by rw[hc,List.map_singleton,hye]) (.inl ⟨fs,_,hen _ _,(hs lb.cQ l.cQ nn D0 R w hcell hown2 hsz).mono ?_⟩) (R:=fun v w'=>∃ss:List Int,ss.Perm (m.es.map (·.1))/\
    w'.ownsRow w.heap.size ti 1 v ss.length ((pP (m.es.map (·.1))).map (Value.int .i64))/\(v=.slice none 0 0<->ss=[])/\Below w.heap.size w w') ?_
  .rintro e w' ⟨v,ss,rfl,h1,h2,h3,h4⟩;exact⟨v,rfl,ss,h1.trans hperm,by rw[<-LI (h1.trans hperm)];exact h2,h3,h4⟩
  .rintro v w' ⟨ss,hss,⟨hlen,hrow⟩,hnil,hbel⟩;have hstp:iW S w S w':=⟨fun _ h=>h,fun b hb=>hbel.block b (hI.IQ b hb)⟩
   have hfrm:QE (fun b=>b<w.heap.size/\b∉([]:List Nat)) w w':=⟨fun b hb=>hb.1,fun b hb=>hbel.block b hb.1,hbel.size,fun a ha=>hbel.frozen ha,fun b cr ho=>⟨cr,ho.mg (hbel.block b ho.lt),rfl⟩,hbel.os,hbel.output,hbel.tape,by simp⟩
   have hR:∃fp1:List Nat,Lw S w' (.os (.i .i64)) [.x (.sl (.i .i64)) (rn m:Sl (El (.i .i64)))] v fp1/\fp1.Nodup/\∀b∈fp1,w.heap.size<=b/\b<w'.heap.size:=by
    have hll:ss.length=(pP (m.es.map (·.1))).length:=(hss.trans (xd _).symm).length_eq;have hk:(m.es=[]/\rn m=.nil)\/rn m=.mk (pP (m.es.map (·.1)))/\m.es≠[]:=by unfold rn J5;cases m.es with|nil=>exact .inl ⟨rfl,rfl⟩|cons e r=>exact .inr ⟨rfl,by simp⟩
    rcases hk with⟨e,hk⟩|⟨hk,e⟩
    .rw [e]at hss;rw[hk,hnil.2 (List.perm_nil.1 hss)];exact⟨[],Ry,kj,by simp⟩
    .rcases hrow with⟨rfl,_⟩|⟨g,cap,nv,rfl,hg,hcur,hcap,_,hcs,htk⟩
     .have:=hnil.1 rfl;subst this;exact absurd (by simpa using hss.symm.eq_nil) e
     .have ho:uq w' g nv:=⟨ti,hcur⟩
      have hle:(pP (m.es.map (·.1))).length<=cap:=by omega
      rw[hk,hll];refine⟨[g],JN (t:=.i .i64) (r:=pP (m.es.map (·.1))) (lo:=⟨g,0,cap,cap,.i .i64,none⟩) (d:=(pP (m.es.map (·.1))).map (Value.int .i64)) rfl (bh 0) ho (by simpa using hcs) hle (by show 0+_*1<=cap;omega) ?_ ?_ (fun _=>rfl) (by show 0+cap*1<=cap;omega),by simp,fun b hb=>by obtain rfl:=aB.1 hb;exact⟨hg,ho.lt⟩⟩
      .have:∀l:List Int,o_ (RT S w' (.i .i64)) l (l.map (Value.int .i64)):=fun l=>by induction l with|nil=>rfl|cons x l ih=>exact⟨[_],_,rfl,rfl,ih⟩
       exact this _
      .refine (Fj ho).2 fun i x hi=>?_;rw[<-htk]at hi
       have hi2:nv.toList[i]?=some x:=by
        rw[List.getElem?_take]at hi;split at hi
        .exact hi
        .cases hi
       simpa using hi2
   obtain⟨fp1,h1,h2,h3⟩:=hR;let s:S2:=⟨[],h,n,[],.ni⟩
   have hmk:JY [.os (.i .i64)] ([.x (.sl (.i .i64)) (rn m:Sl (El (.i .i64)))]++[]) s=some ([.so n],[],tE s (.ar (.i .i64) (rn m) 0)):=rfl;have hb2:ny [] [] [] s s:=by obtain⟨s1,e1,e2⟩:=KI (k:=fun s'=>some s') (os:=[]) (q:=[]) (l:=[]) (s:=s) (r:=s) rfl;cases e1;exact e2
   obtain⟨ub,um,e1,e2,hd⟩:=Hw (SA:=S) (SB:=S) (K:=K) (w0:=w0) (uf:=[]) (q:=[]) (fp:=[]) (fp1:=fp1) (fp2:=[]) (rs:=[.os (.i .i64)]) (os:=[]) (l2:=[]) (s:=s) (s0:=s) (s1:=s) (BR:=[v]) (lent:=[]) (by rw[GH];exact hI) BG.nil (by simp) hstp (fun b hb=>.inl hb) (fun b hb=>bY (hI.IQ b hb) hbel.size)
    ⟨_,[],fp1,[],rfl,by simp,h1,rfl,rfl⟩ ⟨rfl,rfl⟩ (by simpa using h2) (fun b hb=>by obtain⟨q1,q2⟩:=h3 b (by simpa using hb);exact⟨fun hs=>by have:=hI.IQ b hs;omega,.inr q1,q2⟩) hfrm kj trivial hstp (by simp) hS (wu.refl _) rfl hb2 hmk hfr
   have e3:ub=[]:=by simpa using e1
   have e4:um=[(n,some (.ar (.i .i64) (rn m) 0))]:=List.append_cancel_right (e2.symm:um++h=[(n,some (O.ar (.i .i64) (rn m:Sl (El (.i .i64))) 0))]++h);rw[e3,e4]at hd;exact hn _ _ hd
end
def GI(up sw:Int):Bool:=pT .i64 (pR .i64 up sw) 1==1
section
variable{β:Type}
def tU(up:Int)(m:Mp Int (Int×Int×β))(sk:Int):Int:=m.es.foldl (fun s e=>bif GI up e.2.1.2.1 then s else CL .i64 s (pS .i64 1 e.2.1.2.1)) sk
def Dg(up:Int)(m:Mp Int (Int×Int×β)):Mp Int (Int×Int×β):=⟨m.es.filter fun e=>GI up e.2.1.2.1,m.c_⟩
def Fa(m:Mp Int (Int×Int×β)):Bool:=L8 m&&m.es.all fun e=>decide (0<=e.2.1.2.1)
end
def swR(m:MapEntry):Int:=match m.val with|.agg cs=>(match cs[1]?with|some (Value.int _ n)=>n|_=>0)|_=>0
def zh(up:Int)(m:MapEntry):Bool:=GI up (swR m)
def xN(up:Int)(s:Int)(m:MapEntry):Int:=bif zh up m then s else CL .i64 s (pS .i64 1 (swR m))
def agR(n:Nat)(m:MapEntry):Prop:=(∃a,m.key=.int .i64 a/\-9223372036854775808<=a/\a<=9223372036854775807)/\∃cs:Array Value,m.val=.agg cs/\cs.size=n/\(∀v∈cs.toList,one v=true)/\∃sw,cs[1]?=some (.int .i64 sw)/\0<=sw
def Uu(P:Program)(fd g off n:Nat):Prop:=∀(w:World)(ms:Array MapEntry)(c_ b bu bx C:Nat)(cr:Array Value)(tC:TypeId)(up sk:Int),w.heap[b]?=some (.map ms c_)->w.cell? ⟨bu,0,none⟩=some (.int .i64 up)->w.cell? ⟨bx,0,none⟩=some (.pointer (some ⟨C,0,none⟩))->
 w.heap[C]?=some (.cells cr tC (0,0))->cr[off]?=some (.int .i64 sk)->bu≠C->bx≠C->(∀x∈ms.toList,agR n x)->(ms.toList.map (·.key)).Nodup->(ms.toList.map (·.born)).Nodup->(∀x∈ms.toList,x.born<c_)->
 Calls P fd #[.map (some b),.func (.func g) #[] #[.pointer (some ⟨bu,0,none⟩),.pointer (some ⟨bx,0,none⟩)]] w fun e w'=>e=.returned (.tuple #[])/\∃ms':Array MapEntry,ms'.toList=ms.toList.filter (zh up)/\w'.heap[b]?=some (.map ms' c_)/\
  w'.heap[C]?=some (.cells (cr.setIfInBounds off (.int .i64 (ms.toList.foldl (xN up) sk))) tC (0,0))/\(∀k,k<w.heap.size->k≠b->k≠C->w'.heap[k]?=w.heap[k]?)/\w.heap.size<=w'.heap.size/\w'.os=w.os/\w'.output=w.output/\w'.tape=w.tape
def aeC(g:FuncId)(tX c:Ty)(p:xK):Hk:=⟨fun f vs h n k=>match f,vs with
 |.fn _ _ .ni,[.om id,.fn _ g' (.co (.op bu _ []) (.co (.op bx _ []) .ni))]=>bif g'==g then(match fO h bu,fO h bx with
  |some (.bx _ (.x (.i .i64) up)),some (.bx _ (.op x _ []))=>(match fO h x,fO h id with
   |some (.bx u cont),some (.mp kt vt m)=>bif decide (u=tX)&&!(bu==x)&&!(bx==x)then(match fF (.mp kt vt) (.mp (.i .i64) (.st (.pr (.i .i64) (.pr (.i .i64) c)))) m with
    |some m=>(match zJ cont p with
     |some (.x (.i .i64) sk)=>(match vD cont p (.x (.i .i64) (tU up m sk))with
      |some cont'=>bif Fa m then(bif fg cont' false tX then k (.tp .ni) [(x,some (.bx tX cont')),(id,some (.mp (.i .i64) (.st (.pr (.i .i64) (.pr (.i .i64) c))) (Dg up m)))] n [bu,bx,x,id]else none)else none
      |none=>none)
     |_=>none)
    |none=>none)else none
   |_,_=>none)
  |_,_=>none)else none
 |_,_=>none⟩
section
variable{P:Program}{S K:Nat->Prop}{w0 w w':World}{φ:iq}{H:Hf}{c:Ty}
theorem od.filter{k v:Ty}{p:El k×El v×Nat->Bool}{q:MapEntry->Bool}(hpq:∀e m,Ut S w k v e m->p e=q m):∀{es:List (El k×El v×Nat)}{ms:List MapEntry},od S w k v es ms->od S w k v (es.filter p) (ms.filter q):=by
 intro es;induction es with
 |nil=>intro ms h;cases ms<;>first|trivial|exact h.elim
 |cons e es ih=>
  intro ms h;cases ms with
  |nil=>exact h.elim
  |cons m ms=>
   rw[dN,dN,hpq e m h.1];cases q m
   .simpa using ih h.2
   .simpa using⟨h.1,ih h.2⟩
abbrev Ng(c:Ty):Ty:=.st (.pr (.i .i64) (.pr (.i .i64) c))
theorem Ut.msg{e:Int×El (Ng c)×Nat}{m:MapEntry}(h:Ut S w (.i .i64) (Ng c) e m):swR m=e.2.1.2.1:=by obtain⟨k,d,_,_,h3,h4,_⟩:=h;obtain⟨d1,d2,rfl,rfl,d3,d4,rfl,rfl,_⟩:=h3;simp[swR,h4,rD,kR]
theorem od.all{k v:Ty}{Q:El k×El v×Nat->Prop}{R:MapEntry->Prop}(h:∀e m,Q e->Ut S w k v e m->R m):∀{es:List (El k×El v×Nat)}{ms:List MapEntry},(∀e∈es,Q e)->od S w k v es ms->∀m∈ms,R m:=by
 intro es;induction es with
 |nil=>intro ms _ hE;cases ms<;>first|exact hE.elim|simp
 |cons e es ih=>
  intro ms hq hE;cases ms with
  |nil=>exact hE.elim
  |cons m ms=>
   intro x hx;rcases aO.1 hx with rfl|hx
   .exact h e x (hq e (by simp)) hE.1
   .exact ih (fun e he=>hq e (by simp[he])) hE.2 x hx
theorem od.aqY{k v:Ty}{α:Type}{f:α->El k×El v×Nat->α}{g:α->MapEntry->α}(hfg:∀a e m,Ut S w k v e m->f a e=g a m):∀{es:List (El k×El v×Nat)}{ms:List MapEntry}{a:α},od S w k v es ms->es.foldl f a=ms.foldl g a:=by
 intro es;induction es with
 |nil=>intro ms a h;cases ms<;>first|rfl|exact h.elim
 |cons e es ih=>intro ms a h;cases ms with|nil=>exact h.elim|cons m ms=>rw[List.foldl_cons,hfg a e m h.1];exact ih h.2
theorem Z6{fd g off:Nat}{tX:Ty}{p:xK}(hen:∀args w,(callFunc fd args).run P w=.ok (.enter fd args) w)(hp:Vv tX p)(hty:Fw tX p=some (.i .i64))(hoff:CG tX p=off)(hr:Uu P fd g off (ei (Ng c))):Lz P fd (aeC g tX c p):=by
 intro o cc fop z caps vs h n β kk r ho hcal hS hv hr0;cases caps<;>first|(cases hr0;done)|skip
 cases vs with
 |nil=>cases hr0
 |cons v vs=>
 cases v<;>first|(cases hr0;done)|skip
 rename_i id;cases vs with
 |nil=>cases hr0
 |cons v vs=>
 cases v<;>first|(cases hr0;done)|skip
 rename_i zz g' caps;cases caps<;>first|(cases hr0;done)|skip
 rename_i c1 c2;cases c1<;>first|(cases hr0;done)|skip
 rename_i bu tu pu;cases pu<;>first|(cases hr0;done)|skip
 cases c2<;>first|(cases hr0;done)|skip
 rename_i c3 c4;cases c3<;>first|(cases hr0;done)|skip
 rename_i bx tx px;cases px<;>first|(cases hr0;done)|skip
 cases c4<;>first|(cases hr0;done)|skip
 cases vs<;>first|(cases hr0;done)|skip
 obtain⟨e1,h1⟩:=aN hr0;clear hr0;obtain rfl:=eq_of_beq e1;clear e1;split at h1<;>first|(cases h1;done)|skip
 rename_i t1 up t2 x t9 hbu hbx;split at h1<;>first|(cases h1;done)|skip
 rename_i u cont kt vt m0 hx hid;obtain⟨e2,h2⟩:=aN h1;clear h1;simp only[ax,fS,decide_eq_true_eq,beq_eq_false_iff_ne]at e2;obtain⟨⟨rfl,hne1⟩,hne2⟩:=e2;split at h2<;>first|(cases h2;done)|skip
 rename_i m hm;obtain⟨e3,e4⟩:=kJ hm;cases e3;have e5:m0=m:=e4;clear e4 hm;subst e5;split at h2<;>first|(cases h2;done)|skip
 rename_i sk hget;split at h2<;>first|(cases h2;done)|skip
 rename_i cont' hset;obtain⟨hok,h3⟩:=aN h2;clear h2;obtain⟨hfit,h4⟩:=aN h3;clear h3;simp only[Fa,ax,cw,decide_eq_true_eq]at hok;obtain⟨hok0,hsw⟩:=hok;have hok:WF m0:=of_decide_eq_true hok0;have hxl:=hS.lt _ _ hx;have hil:=hS.lt _ _ hid;have hxi:x≠id:=fun e=>by rw[e,hid]at hx;cases hx
 refine⟨_,_,_,_,h4,aw _,mA.cons (fun o' e=>.inr (.inl (by cases e;rfl))) (mA.cons (fun o' e=>.inr (.inr ⟨_,hid,by cases e;exact trivial⟩)) mA.nil),trivial,fun q hq t1 c1 e=>?_,fun q hq=>?_,?_⟩
 .rcases aO.1 hq with rfl|hq
  .cases e;refine eA (aw _) (mA.gj ?_) (FW (y:=.x (.i .i64) (tU up m0 sk)) (hS.bx _ _ _ hx) trivial hset);exact mA.cons (fun o' e=>.inr (.inl (by cases e;rfl))) (mA.cons (fun o' e=>.inr (.inr ⟨_,hid,by cases e;exact trivial⟩)) mA.nil)
  simp_all
 .rcases aO.1 hq with rfl|hq
  .exact .inl ⟨hxl,trivial⟩
  .obtain rfl:=aB.1 hq;exact .inl ⟨hil,trivial⟩
 .intro a S K w0 w φ H hI hsh har hag hfr next Q hn
  obtain⟨cf,⟨d,rfl,k3⟩,k2⟩:=har.1;obtain rfl:d=[]:=k3;have hfe:a.eval fop=.func (.func fd) #[] #[]:=by have:[Value.func (.func fd) #[] #[]]=[a.eval fop]:=k2;exact(aE this).1.symm
  match hc:cc.args.toList,har with
  |[y1,y2],har=>
  obtain⟨l,hl,hx1⟩:=R1.iB (v:=.om id) har.2.1;obtain⟨cy,⟨d,rfl,k4⟩,k5⟩:=har.2.2.1;obtain⟨d1,d2,rfl,⟨lu,hlu,_,_,rfl⟩,d3,d4,rfl,⟨lb,hlb,_,_,rfl⟩,rfl⟩:=k4;have hye:a.eval y2=.func (.func g') #[] #[.pointer (some ⟨lu.cQ,0,none⟩),.pointer (some ⟨lb.cQ,0,none⟩)]:=by have:[Value.func (.func g') #[] #[.pointer (some ⟨lu.cQ,CG tu [],none⟩),.pointer (some ⟨lb.cQ,CG tx [],none⟩)]]=[a.eval y2]:=k5;have:=(aE this).1.symm;rw[this];cases tu<;>cases tx<;>rfl
  have hHu:=(hag bu (by simp)).trans hbu;have hHb:=(hag bx (by simp)).trans hbx;have hHx:=(hag x (by simp)).trans hx;have hHi:=(hag id (by simp)).trans hid;obtain⟨_,q1,⟨_,_,arrU,hownU,hrcU⟩,_⟩:=hI.o9 bu _ hHu;obtain rfl:=af (hlu.symm.trans q1);obtain⟨_,q2,⟨_,_,arrB,hownB,lx,hlx,_,_,hrcB⟩,_⟩:=hI.o9 bx _ hHb;obtain rfl:=af (hlb.symm.trans q2);obtain⟨_,q3,⟨hlt,hf0,cr,hown,hrc⟩,hobx⟩:=hI.o9 x _ hHx;obtain rfl:=af (hlx.symm.trans q3);obtain⟨_,q4,⟨hdv,hkd,ms,hms,hE⟩,hobi⟩:=hI.o9 id _ hHi;obtain rfl:=af (hl.symm.trans q4);obtain⟨pa,mm,qa,f1,f2,f3,f4,f5⟩:=Bq hf0 hrc hp hty;obtain rfl:mm=[.int .i64 sk]:=(f4 _ hget).1
  have hcU:w.cell? ⟨lu.cQ,0,none⟩=some (.int .i64 up):=by
   rw[hownU.cell];have:arrU.toList[0]?=some (.int .i64 up):=by rw[show arrU.toList=[Value.int .i64 up]from hrcU];rfl
   simpa using this
  have hcB:w.cell? ⟨lb.cQ,0,none⟩=some (.pointer (some ⟨lx.cQ,0,none⟩)):=by
   rw[hownB.cell];have:arrB.toList[0]?=some (.pointer (some ⟨lx.cQ,0,none⟩)):=by rw[hrcB];cases t9<;>rfl
   simpa using this
  have hoff2:cr[off]?=some (.int .i64 sk):=by
   have:cr.toList[pa.length]?=some (.int .i64 sk):=by rw[f1];simp
   grind
  obtain⟨tC,hC⟩:=hown;have hown:uq w lx.cQ cr:=⟨tC,hC⟩
  obtain⟨hkeys,hborn⟩:=Mu hE;have hne3:lu.cQ≠lx.cQ:=fun e=>hI.jz bu x _ _ lu lx hHu hHx hlu hlx hne1 lu.cQ (by simp[ob]) (by simp[ob,e]);have hne4:lb.cQ≠lx.cQ:=fun e=>hI.jz bx x _ _ lb lx hHb hHx hlb hlx hne2 lb.cQ (by simp[ob]) (by simp[ob,e]);have hne5:lx.cQ≠l.cQ:=fun e=>hI.jz x id _ _ lx l hHx hHi hlx hl hxi lx.cQ (by simp[ob]) (by simp[ob,e]);have hmsg:∀y∈ms.toList,agR (ei (Ng c)) y:=od.all (k:=.i .i64) (v:=Ng c) (Q:=fun e=>(-9223372036854775808<=e.1/\e.1<=9223372036854775807)/\0<=e.2.1.2.1) (fun e y hq hEe=>by obtain⟨k1,k6,k7,k8,k9,k10,k11⟩:=hEe;obtain rfl:k1=[Value.int .i64 e.1]:=k7;refine⟨⟨e.1,k8,hq.1⟩,k6.toArray,k10,by have:=k9.len;simpa using this,by simpa using k9.one,e.2.1.2.1,?_,hq.2⟩;obtain⟨d1,d2,rfl,rfl,d3,d4,rfl,rfl,_⟩:=k9;rfl) (fun e he=>⟨(hok.2.1 e he).2,hsw e he⟩) hE;have hrun:=hr w ms m0.c_ l.cQ lu.cQ lb.cQ lx.cQ cr tC up sk hms hcU hcB hC hoff2 hne3 hne4 hmsg (by rw[hkeys];exact List.Pairwise.map _ (fun a b hab e=>hab (by simpa using e)) hok.2.2.2) (by rw[hborn];exact hok.2.2.1) fun y hy=>by have:y.born∈ms.toList.map (·.born):=aR.2 ⟨y,hy,rfl⟩;rw[hborn]at this;obtain⟨e,he,e2⟩:=aR.1 this;exact e2▸(hok.2.1 e he).1
  refine NH (d:=[]) ho hcal hfe (xs:=[_,_]) (by rw[hc,bN,List.map_singleton,hye,(aE hx1).1]) (.inl ⟨fd,_,hen _ _,hrun.mono fun e w' hh=>⟨_,hh.1,rfl,hh.2⟩⟩) (R:=fun v w'=>v=.tuple #[]/\∃ms':Array MapEntry,ms'.toList=ms.toList.filter (zh up)/\w'.heap[l.cQ]?=some (.map ms' m0.c_)/\
  w'.heap[lx.cQ]?=some (.cells (cr.setIfInBounds off (.int .i64 (ms.toList.foldl (xN up) sk))) tC (0,0))/\(∀k,k<w.heap.size->k≠l.cQ->k≠lx.cQ->w'.heap[k]?=w.heap[k]?)/\w.heap.size<=w'.heap.size/\w'.os=w.os/\w'.output=w.output/\w'.tape=w.tape) ?_
  rintro v w' ⟨rfl,ms',g1,g2,g3,g4,g5,g6,g7,g8⟩;have hstp:iW S w S w':=⟨fun _ h=>h,fun k hk=>g4 k (hI.IQ k hk) (fun e=>(hobi l.cQ (by simp[ob])).1 (e▸hk)) (fun e=>(hobx lx.cQ (by simp[ob])).1 (e▸hk))⟩
  have hown':uq w' lx.cQ (cr.setIfInBounds off (.int .i64 (tU up m0 sk))):=⟨tC,by rw[g3];congr 4;exact(od.aqY (fun a e y hy=>by unfold xN zh;rw[hy.msg]) hE).symm⟩
  have hfrz:∀a:Addr,a.block<w.heap.size->w'.frozen? a=w.frozen? a:=fun a ha=>by
   unfold World.frozen?;by_cases e1:a.block=l.cQ
   .rw [e1,g2,hms]
   .by_cases e2:a.block=lx.cQ
    .rw [e2,g3,hC]
    .rw [g4 _ ha e1 e2]
  have hownn:∀b arr0,uq w b arr0->∃arr',uq w' b arr'/\arr'.size=arr0.size:=fun b arr0 h0=>by
   by_cases e2:b=lx.cQ
   .subst e2;obtain rfl:=h0.zH hown;exact⟨_,hown',by simp⟩
   .refine ⟨arr0,h0.mg (g4 b h0.lt (fun e=>?_) e2),rfl⟩;obtain⟨t0,h0⟩:=h0;rw[e,hms]at h0;cases h0
  refine hn _ _ ⟨aw _,S,φ,hstp,Ren.refl _,(fun i l h1 h2=>by rw[h1]at h2;cases h2),⟨[],rfl,rfl⟩,?_⟩;refine hI.iT (fun i=>i=x\/i=id) hstp (Ren.refl _) (fun b hb=>bY (hI.IQ b hb) g5) hI.sk ⟨hI.yu.WM,fun b hb=>?_,bg hI.yu.grow g5,fun a ha=>(hfrz a (bY ha hI.yu.grow)).trans (hI.yu.frz a ha),fun b arr0 h0=>?_,hI.yu.io.trans ⟨g6,g7,g8,by simp⟩⟩ (fun i o hi ho=>?_) (fun i o lo hi ho hlo b hb=>?_) fun i o hi ho=>?_
  .refine (g4 b (bY (hI.yu.WM b hb) hI.yu.grow) (fun e=>?_) (fun e=>?_)).trans (hI.yu.tH b hb)
   .exact (hobi l.cQ (by simp[ob])).2.1 (e▸hb)
   .exact (hobx lx.cQ (by simp[ob])).2.1 (e▸hb)
  .obtain ⟨a1,k1,k2⟩:=hI.yu.N0 b arr0 h0;obtain⟨a2,k3,k4⟩:=hownn b a1 k1;exact⟨a2,k3,k4.trans k2⟩
  .rw [cx,if_neg (fun e=>hi (.inl e.symm)),cx,if_neg (fun e=>hi (.inr e.symm))]at ho;exact ho
  .obtain ⟨m2,b1,_,b4⟩:=hI.o9 i o ho;obtain rfl:=af (hlo.symm.trans b1);refine⟨g4 b (b4 b hb).2.2 (fun e=>?_) (fun e=>?_),(b4 b hb).1⟩
   .exact hI.jz i id _ _ lo l ho hHi hlo hl (fun e=>hi (.inr e)) b hb (by simp[ob,e])
   .exact hI.jz i x _ _ lo lx ho hHx hlo hlx (fun e=>hi (.inl e)) b hb (by simp[ob,e])
  .rcases hi with rfl|rfl
   .rw [cx,if_pos rfl]at ho;cases ho;refine⟨lx,hlx,⟨hlt,hfit,_,hown',?_⟩,fun b hb=>?_⟩
    .have:=f5 (.x (.i .i64) (tU up m0 sk)) cont' [.int .i64 (tU up m0 sk)] hset rfl;have e1:(cr.setIfInBounds off (.int .i64 (tU up m0 sk))).toList=pa++[.int .i64 (tU up m0 sk)]++qa:=by rw[Array.toList_setIfInBounds,f1,<-hoff,<-f2];simp
     rw[e1];exact this.mono hstp (Ren.refl _)
    .obtain rfl:b=lx.cQ:=by simpa[ob]using hb
     obtain⟨c1,c2,c3⟩:=hobx lx.cQ (by simp[ob]);refine⟨c1,c2,bY c3 g5,fun j o2 m2 hj ho2 hm2 hb2=>?_,fun j o2 m2 hj hne ho2 hm2 hb2=>?_⟩
     .rw [cx,if_neg (fun e=>hj (.inl e.symm)),cx,if_neg (fun e=>hj (.inr e.symm))]at ho2;exact hI.jz i j _ _ lx m2 hHx ho2 hlx hm2 (fun e=>hj (.inl e.symm)) lx.cQ (by simp[ob]) hb2
     .rcases hj with rfl|rfl
      .exact hne rfl
      .rw [cx,if_neg hxi,cx,if_pos rfl]at ho2;cases ho2;obtain rfl:=af (hl.symm.trans hm2);exact hne5 (by simpa[ob]using hb2)
   .rw [cx,if_neg hxi,cx,if_pos rfl]at ho;cases ho;refine⟨l,hl,⟨hdv,hkd,ms',g2,?_⟩,fun b hb=>?_⟩
    .rw [g1];exact(od.filter (fun e y hy=>by unfold zh;rw[hy.msg]) hE).mono hstp
    .obtain rfl:b=l.cQ:=by simpa[ob]using hb
     obtain⟨c1,c2,c3⟩:=hobi l.cQ (by simp[ob]);refine⟨c1,c2,bY c3 g5,fun j o2 m2 hj ho2 hm2 hb2=>?_,fun j o2 m2 hj hne ho2 hm2 hb2=>?_⟩
     .rw [cx,if_neg (fun e=>hj (.inl e.symm)),cx,if_neg (fun e=>hj (.inr e.symm))]at ho2;exact hI.jz i j _ _ l m2 hHi ho2 hl hm2 (fun e=>hj (.inr e.symm)) l.cQ (by simp[ob]) hb2
     .rcases hj with rfl|rfl
      .rw [cx,if_pos rfl]at ho2;cases ho2;obtain rfl:=af (hlx.symm.trans hm2)
       exact hne5 (by
        have:l.cQ=lx.cQ:=by simpa[ob]using hb2
        exact this.symm)
      .exact hne rfl
end
def UJ{β:Type}:List (Int×Int)->Int->Int->(Int->Option β)->Option β
 |[],d,_,k=>k d
 |(a,b)::r,d,x,k=>bif x==a then k b else UJ r d x k
def Xm:List (Int×Int)->Int->Int->Int
 |[],d,_=>d
 |(a,b)::r,d,x=>bif x==a then b else Xm r d x
theorem ME{β:Type}{k:Int->Option β}:∀(l:List (Int×Int))(d x:Int),UJ l d x k=k (Xm l d x)
 |[],_,_=>rfl
 |(a,b)::r,d,x=>by
  unfold UJ Xm;cases(x==a)
  .exact ME r d x
  .rfl
def adE(l:List (Int×Int))(d:Int):Hk:=⟨fun f vs _ n k=>match f,vs with
 |.fn _ _ .ni,[.x (.i .i64) a]=>UJ l d a fun c=>k (.x (.i .i64) c) [] (n+1) []
 |_,_=>none⟩
def GL(ro:Bool)(fn:Int->Option Int):cR:=⟨[(false,.x (.i .i64))],[([.x (.i .i64)],[])],ro,[],fun p=>fn p⟩
theorem Xl{P:Program}{f:FuncId}{ro:Bool}{fn:Int->Option Int}{l:List (Int×Int)}{d:Int}(h:sG P f (GL ro fn))(hfn:∀x,fn x=UJ l d x some):Lz P f (adE l d):=by
 intro o c fop z caps vs h2 n β kk r ho hcal hS hv hr;cases caps<;>first|(cases hr;done)|skip
 cases vs with
 |nil=>cases hr
 |cons v vs=>
 cases v<;>first|(cases hr;done)|skip
 rename_i t a;cases t<;>first|(cases hr;done)|skip
 rename_i k;cases k<;>first|(cases hr;done)|skip
 cases vs<;>first|(cases hr;done)|skip
 have hr:UJ l d (a:Int) (fun c=>kk (.x (.i .i64) c) [] (n+1) [])=some r:=hr;rw[ME]at hr;have hT:vi P [(f,.sp (GL ro fn))]:=.cons h .nil
 have hcall:Gj [(f,.sp (GL ro fn))] false [] (.fn z f .ni) [.x (.i .i64) a] (⟨[],h2,n,[],.ni⟩:S2) (fun v s l=>some (v,s,l))=some (.x (.i .i64) (Xm l d a),⟨[],h2,n+1,[],.ni⟩,[]):=by
  have:fn a=some (Xm l d a):=by rw[hfn,ME]
  have e0:Ek h2 f ([V.x (.i .i64) a]++[]) [(f,.sp (GL ro fn))]=some (GL ro fn,[V.x (.i .i64) a],[],[]):=by unfold Ek;rw[beq_self_eq_true];rfl
  unfold Gj;show(match Ek h2 f ([V.x (.i .i64) a]++[]) [(f,TE.sp (GL ro fn))]with|some (sp,pay,ids,q)=>_|none=>none)=_;rw[e0];cases ro<;>(show(fn a).bind _=_;rw[this];rfl)
 obtain⟨v,u,n',l',h1,h3⟩:=Tb (o:=o) ho hcal hT (s:=⟨[],h2,n,[],.ni⟩) hS (fun x hx=>(hv x hx).1) (fun x hx=>(hv x hx).2) hcall;obtain⟨e1,e4⟩:=aq (af h1);obtain⟨e2,e3⟩:=aq e4;clear e4 h1;subst e1 e3;obtain rfl:u=[]:=by have:=congrArg S2.wo e2;simpa[HG]using this
 obtain rfl:n'=n+1:=congrArg S2.next e2;exact⟨_,_,_,_,hr,h3⟩
end Go.Ev
