/- Functions: where one begins, what it hands back. Conditions: the relation of XPa. -/
import Derived.Test.YtoekkpmeeclpeaaGreatUz
import Derived.OpenShut
import Derived.WideKeyArgs
import Derived.Deep.Slices
import Derived.ProofKit
import Derived.WalkKit
import Derived.JoinedCond
import Derived.Shelf.SlSortCmp.WholeK
import Derived.Lib.SlKeysI
import Derived.Maps.Own
import Derived.Below
open Array renaming getElem?_eq_some_iff->bi,length_toList->eY,toArray_toList->jY
open Bool renaming and_eq_true->aw,not_eq_true'->fq
open List renaming Pairwise->lW,all_eq_true->cm,append_nil->bo,drop_drop->kR,drop_eq_nil_of_le->pQ,drop_zero->pO,filter_cons->di,flatMap_cons->eF,foldl_cons->lP,getElem?_eq_getElem->bf,getElem?_eq_some_iff->aV,length_append->aA,map_cons->a_,map_map->jV,mem_append->aF,mem_append_left->bw,mem_append_right->dL,mem_cons->aI,mem_cons_of_mem->bd,mem_map->aL,mem_singleton->az,nodup_append->bD,nodup_nil->ie,pairwise_cons->fD,perm_iff_count->nI,range->aK,take_append_drop->cK
open List.cons renaming inj->aB
open Nat renaming beq->ly,blt->gE,blt_eq->eA,eq_of_beq_eq_true->cV,le_refl->aq,le_succ->aO,le_trans->bg,lt_of_lt_of_le->bY,lt_succ_self->aM,mul_comm->iN,mul_le_mul_right->ct,succ_mul->fj,zero_mul->gD
open Option.some renaming inj->ac,injEq->fh
open Prod.mk renaming inj->ap
noncomputable section
namespace Go.Ev
section
variable{P:Program}{S S' K:Nat->Prop}{w0 w w':World}{φ φ':fM}{H:Hf}{n:Nat}{h:H2}{s:S2}{a:Act}
theorem GF.len:∀{sh:Sh}{l:List V}{c:List Value}{fp:List Nat},GF S w sh l c fp->l.length=(XE sh).length:=by intro sh;induction sh with|x t=>rintro l c fp ⟨_,y,rfl,_⟩;rfl|pt t=>rintro l c fp ⟨_,y,_,_,_,rfl,_⟩;rfl|os t=>rintro l c fp ⟨_,rfl,_⟩;rfl|rw t=>rintro l c fp ⟨_,rfl,_⟩;rfl|mp k v=>rintro l c fp ⟨_,_,rfl,_⟩;rfl|pb t c ih=>rintro l c fp ⟨_,_,_,_,_,_,h4⟩;exact ih h4|st c ih=>intro l c fp h;exact ih h|pr a b iha ihb=>rintro l c fp ⟨l1,l2,_,_,_,_,rfl,_,_,h4,h5⟩;simp[XE,iha h4,ihb h5]|fn f c ih=>rintro l c fp ⟨_,_,h2⟩;exact ih h2|_=>rintro l c fp ⟨rfl,_⟩;rfl
theorem GO.len:∀{cs:List Sh}{l:List V}{xs:List Value}{fp:List Nat},GO S w cs l xs fp->l.length=(pe cs).length:=by
 intro cs;induction cs with
 |nil=>intro l xs fp h;cases xs<;>first|(rw[h.1];rfl)|exact h.elim
 |cons c cs ih=>
  intro l xs fp h;cases xs with
  |nil=>exact h.elim
  |cons x xs=>
   obtain⟨l1,l2,f1,f2,rfl,_,h1,h2⟩:=h
   have:l1.length=(XE c).length:=by
    rcases h1 with⟨rfl,rfl,_⟩|⟨cs,h1,_⟩
    .rfl
    .exact h1.len
   simp[pe,this,ih h2]
theorem Ss:∀{c:Sh}{l bh rest':List V}{x:V}{d:List Value}{fp:List Nat},OT c (l++bh)=some (x,rest')->GF S w c l d fp->rest'=bh/\fp=[]/\RC S w φ x d/\dZ n h x:=by
 intro c;induction c with
 |ni=>intro l bh rest' x d fp hu hr;obtain⟨rfl,rfl,rfl⟩:=hr;cases hu;exact⟨rfl,rfl,rfl,trivial⟩
 |pr a c iha ih=>
  clear iha;intro l bh rest' x d fp hu hr;obtain⟨l1,l2,c1,c2,f1,f2,rfl,rfl,rfl,h1,h2⟩:=hr;cases a<;>first|(cases hu;done)|skip
  rename_i t;obtain⟨rfl,y,b,o,e,rfl,rfl,k1,k2,k3⟩:=h1;have hu2:=(aC (show(bif decide (t=t)&&kS t then(match OT c (l2++bh)with|some (w,l)=>some (V.co (.pt t y) w,l)|none=>none)else none)=some (x,rest')from hu)).2;split at hu2<;>cases hu2;rename_i w1 h3;obtain⟨e1,e2,e3,e4⟩:=ih h3 h2;exact⟨e1,e2,⟨[_],c2,rfl,⟨b,o,e,rfl,k1,k2,k3⟩,e3⟩,trivial,e4⟩
 |_=>intro l bh rest' x d fp hu;cases hu
theorem Uv:∀{ps:List (Bool×Sh)}{i:Nat}{l:List V}{s s':S2}{e:List (Nat×V)}{xs:List Value}{φ:fM}{H:Hf}{fp:List Nat},A3 ps i l s=some (e,s')->KY S w ps l xs fp->Inv S K w0 φ H w->(∀j,s.next<=j->φ j=none)->wy S K w φ H fp->xI s.next s.heap->
  ∃u φ' vs,pf S K w0 w φ H s {s' with gh:=s.gh} fp u φ'/\xI s'.next s'.heap/\xs.length=ps.length/\(∀t v,gB e t=some v->∃j x,t=i+j/\xs[j]?=some x/\RW S w φ' v x/\dZ s'.next s'.heap v)/\
   iA s'.gh=vs++iA s.gh/\Ah S w φ' vs (tU ps xs)/\∀v∈vs,dZ s'.next s'.heap v:=by
 intro ps;induction ps with
 |nil=>intro i l s s' e xs φ H fp he hr hI hf hfr hS;cases xs with|cons x xs=>exact hr.elim|nil=>obtain⟨rfl,rfl⟩:=hr;cases he;exact⟨[],φ,[],pf.none hI (aq _) rfl,hS,rfl,(fun t v h=>by cases h),rfl,trivial,by simp⟩
 |cons p ps ih=>
  obtain⟨b,c⟩:=p;intro i l s s' e xs φ H fp he hr hI hf hfr hS;cases xs with
  |nil=>exact hr.elim
  |cons x xs=>
  obtain⟨l1,l2,f1,f2,rfl,rfl,h1,hb,h2⟩:=hr;cases b with
  |true=>
   simp only[A3]at he;split at he<;>first|(cases he;done)|skip
   rename_i v1 m1 s1 h3;split at he<;>first|(cases he;done)|skip
   rename_i e1 s2 h4;cases he;rcases h1 with⟨rfl,_⟩|⟨cs,h1,h5⟩
   .cases h3
   obtain⟨rfl,hag,u1,φ1,hL1,hc1,hok1⟩:=Kh h3 h1 hI (fun j a _=>hf j a) hfr.left;obtain⟨_,hT,_⟩:=F8 h3
   obtain⟨u2,φ2,vs,hL2,hS2,hl2,he2,hg2,hv2,ho2⟩:=ih h4 h2 hL1.inv (fun j a=>by
    cases e:φ1 j with
    |none=>rfl
    |some m=>have:=hL1.new j m e (hf j (bg hL1.le a));omega) (hL1.N2 hfr) (hT.Az hS)
   have hgh:s1.gh=s.gh:=by rw[hL1.eq]
   have hw:RW S w φ2 v1 x:=R1.rw ⟨cs,hc1.mono (gC.refl _ _) hL2.GL,by rw[hag];simpa using h5⟩;have ho:dZ s2.next s2.heap v1:=dQ hL2.le hL2.fe hok1;have hLL:=hL1.u9 hL2;simp only[hgh]at hLL;refine⟨u2++u1,φ2,v1::vs,hLL,hS2,by simp[hl2],fun t v hv=>?_,by simp[iA,hg2,hgh],⟨hw,hv2⟩,fun v hv=>?_⟩
   .by_cases et:i=t
    .subst et;obtain rfl:v1=v:=by simpa[gB]using hv
     exact⟨0,x,rfl,rfl,hw,ho⟩
    .rw [show gB ((i,v1)::e1) t=gB e1 t by simp only[gB];rw[show(i==t)=false by simpa using et];rfl]at hv;obtain⟨j,y,q1,q2,q3⟩:=he2 t v hv;exact⟨j+1,y,by omega,q2,q3⟩
   .rcases aI.1 hv with rfl|hv
    .exact ho
    .exact ho2 v hv
  |false=>
   obtain rfl:=hb rfl
   have data:∀{v1:V}{e0:List (Nat×V)}{s0:S2},(∀{φ:fM},RW S w φ v1 x)->(∀n h,dZ n h v1)->A3 ps (i+1) l2 s=some (e0,s0)->some ((i,v1)::e0,s0)=some (e,s')->
     ∃u φ' vs,pf S K w0 w φ H s {s' with gh:=s.gh} f2 u φ'/\xI s'.next s'.heap/\(x::xs).length=((false,c)::ps).length/\(∀t v,gB e t=some v->∃j y,t=i+j/\(x::xs)[j]?=some y/\RW S w φ' v y/\dZ s'.next s'.heap v)/\
      iA s'.gh=vs++iA s.gh/\Ah S w φ' vs (tU ((false,c)::ps) (x::xs))/\∀v∈vs,dZ s'.next s'.heap v:=by
    intro v1 e0 s0 hw hk h4 he;cases he;obtain⟨u2,φ2,vs,hL2,hS2,hl2,he2,hg2,hv2,ho2⟩:=ih h4 h2 hI hf (by simpa using hfr) hS;refine⟨u2,φ2,vs,hL2,hS2,by simp[hl2],fun t v hv=>?_,hg2,hv2,ho2⟩;by_cases et:i=t
    .subst et;obtain rfl:v1=v:=by simpa[gB]using hv
     exact⟨0,x,rfl,rfl,hw,hk _ _⟩
    .rw [show gB ((i,v1)::e0) t=gB e0 t by simp only[gB];rw[show(i==t)=false by simpa using et];rfl]at hv;obtain⟨j,y,q1,q2,q3⟩:=he2 t v hv;exact⟨j+1,y,by omega,q2,q3⟩
   rcases h1 with⟨rfl,rfl,_⟩|⟨cs,h1,h5⟩
   .cases l2<;>cases he
   cases c with
   |x t=>
    obtain⟨_,y,rfl,h6⟩:=h1;have h7:=(aC (show(bif decide (t=t)&&kS t then(match A3 ps (i+1) l2 s with|some (e,s)=>some ((i,V.x t y)::e,s)|none=>none)else none)=some (e,s')from he)).2;split at h7<;>first|(cases h7;done)|skip
    rename_i h8;exact data (v1:=.x t y) (R1.rw ⟨cs,h6,h5⟩) (fun _ _=>trivial) h8 h7
   |pt t=>
    obtain⟨_,y,b,o,d,rfl,rfl,k1,k2,k3⟩:=h1;have h7:=(aC (show(bif decide (t=t)&&kS t then(match A3 ps (i+1) l2 s with|some (e,s)=>some ((i,V.pt t y)::e,s)|none=>none)else none)=some (e,s')from he)).2;split at h7<;>first|(cases h7;done)|skip
    rename_i h8;exact data (v1:=.pt t y) (R1.rw ⟨_,⟨b,o,d,rfl,k1,k2,k3⟩,h5⟩) (fun _ _=>trivial) h8 h7
   |nl k=>
    obtain⟨rfl,rfl,_⟩:=h1;have h7:(match A3 ps (i+1) l2 s with|some (e,s)=>some ((i,V.nl k)::e,s)|none=>none)=some (e,s'):=by cases l2<;>exact he
    split at h7<;>first|(cases h7;done)|skip
    rename_i h8;exact data (v1:=.nl k) (R1.rw ⟨_,rfl,h5⟩) (fun _ _=>trivial) h8 h7
   |fn f c2=>
    obtain⟨d,rfl,h6⟩:=h1;have h7:(match OT c2 (l1++l2)with|some (w,l)=>(match A3 ps (i+1) l s with|some (e,s)=>some ((i,V.fn true f w)::e,s)|none=>none)|none=>none)=some (e,s'):=by generalize l1++l2=l3 at he|-;cases l3<;>exact he
    split at h7<;>first|(cases h7;done)|skip
    rename_i w1 l3 h8;have hu:=fun(φ:fM)(n:Nat)(h:H2)=>Ss (φ:=φ) (n:=n) (h:=h) h8 h6;obtain rfl:=(hu .z 0 []).1;split at h7<;>first|(cases h7;done)|skip
    rename_i h9;exact data (v1:=.fn true f w1) (fun{φ}=>R1.rw ⟨_,⟨d,rfl,(hu φ 0 []).2.2.1⟩,h5⟩) (fun n h=>(hu .z n h).2.2.2) h9 h7
   |_=>exfalso;generalize l1++l2=l3 at he;cases l3<;>cases he
theorem Ah.get:∀{vs:List V}{xs:List Value},Ah S w φ vs xs->∀(i:Nat)(c:V)(x:Value),vs[i]?=some c->xs[i]?=some x->RW S w φ c x:=by
 intro vs;induction vs with
 |nil=>intro xs _ i c x h;simp at h
 |cons v vs ih=>intro xs h i c x h1 h2;cases xs with
  |nil=>exact h.elim
  |cons y xs=>cases i with|zero=>simp only[List.getElem?_cons_zero,fh]at h1 h2;subst h1 h2;exact h.1|succ i=>exact ih h.2 i c x (by simpa using h1) (by simpa using h2)
theorem Ah.of:∀{vs:List V}{xs:List Value},vs.length=xs.length->(∀(i:Nat)(c:V)(x:Value),vs[i]?=some c->xs[i]?=some x->RW S w φ c x)->Ah S w φ vs xs:=by
 intro vs;induction vs with
 |nil=>intro xs h _;cases xs<;>first|trivial|(cases h;done)
 |cons v vs ih=>intro xs h h2;cases xs with|nil=>cases h|cons y xs=>exact⟨h2 0 v y rfl rfl,ih (by simpa using h) fun i c x q1 q2=>h2 (i+1) c x (by simpa using q1) (by simpa using q2)⟩
theorem Uu{ps:List (Bool×Sh)}{l:List V}{xs:List Value}{fp:List Nat}{nt:Nat}(he:Xu ps l=some s)(hr:KY S w ps l xs fp)(hs:∀b,S b->b<w.heap.size)(hn:fp.Nodup)(hfp:∀b∈fp,¬S b/\b<w.heap.size)(hg:D2 S w)(hnt:ps.length<=nt):
  xs.length=ps.length/\∃φ,vZ S (fun b=>b<w.heap.size/\b∉fp/\¬S b) w φ (tU ps xs) nt s {tmps:=xs.toArray++Array.replicate (nt-xs.toArray.size) undef,defers:=[]} w:=by
 unfold Xu at he;split at he<;>cases he;rename_i e s1 h1;have hI0:Inv S (fun b=>b<w.heap.size/\b∉fp/\¬S b) w .z (fO []) w:=⟨hs,fun b hb h=>h.2.2 hb,⟨fun b hb=>hb.1,fun _ _=>rfl,aq _,fun _ _=>rfl,fun b bz ho=>⟨bz,ho,rfl⟩,Io.refl _⟩,hg,(fun i o ho=>by cases ho),(fun i j a b l m hi=>by cases hi)⟩
 obtain⟨u,φ,vs,hL,hS,hl,q1,q2,q3,q4⟩:=Uv h1 hr hI0 (fun _ _=>rfl) ⟨hn,fun b hb=>⟨(hfp b hb).1,fun h=>h.2.1 hb,(hfp b hb).2,(fun j a m h=>by cases h)⟩⟩ ⟨fun id=>trivial,(fun id o h=>by cases h),(fun id t c h=>by cases h)⟩;have hH:up (fO []) u=fO s1.heap:=by have:s1.heap=u++[]:=hL.heap;rw[this,p9]
 have hI:=hL.inv;rw[hH]at hI;rw[show iA (V.ni)=[]from rfl,bo]at q2;refine⟨hl,φ,⟨hI,fun t v hv=>?_,by simp;omega,rfl,fun i c v h1 h2=>?_⟩,fun j hj=>?_,fun id l o h1 h2=>?_,⟨hS,fun t v hv=>?_⟩,fun c hc=>?_⟩
 .obtain ⟨j,x,rfl,a1,a2,_⟩:=q1 t v hv;have:(xs.toArray++Array.replicate (nt-xs.toArray.size) undef).getD (0+j) undef=x:=by have ht:j<xs.length:=(aV.1 a1).1;rw[Nat.zero_add];simp_all[Array.getD_eq_getD_getElem?,Array.getElem?_append_left]
  rw[this];exact a2
 .rw [q2]at h1;exact q3.get i c v h1 h2
 .cases e:φ j with|none=>rfl|some m=>have hj:s1.next<=j:=hj;have:0<=j/\j<s1.next:=hL.new j m e rfl;omega
 .obtain ⟨l2,a1,a2,_⟩:=hI.lS id o h2;obtain rfl:=ac (h1.symm.trans a1);exact a2.BO
 .obtain ⟨_,_,_,_,_,a3⟩:=q1 t v hv;exact a3
 .rw [q2]at hc;exact q4 c hc
end
section
variable{P:Program}{S S' K:Nat->Prop}{w0 w w':World}{φ φ':fM}{H:Hf}{n:Nat}{h:H2}{s:S2}{a:Act}{gv:List Value}{nt:Nat}
def Bl(S:Nat->Prop)(w:World)(φ:fM)(H:Hf)(i:List Nat)(R:(Nat->Prop)->List Nat->Prop):Prop:=∃fz ow fp,(fz++ow).Perm i/\wz w φ H ow fp/\∀S':Nat->Prop,gC S w S' w->(∀b,SF S w φ H fz b->S' b)->R S' fp
theorem Bl.N0{i:List Nat}{R:(Nat->Prop)->List Nat->Prop}{fp:List Nat}(h:wz w φ H i fp)(hR:∀S':Nat->Prop,gC S w S' w->R S' fp):Bl S w φ H i R:=⟨[],i,fp,List.Perm.refl _,h,fun S' hs _=>hR S' hs⟩
theorem Bl.V1{i j:List Nat}{R1 R2 R:(Nat->Prop)->List Nat->Prop}(hI:Inv S K w0 φ H w)(hn:(i++j).Nodup)(h1:Bl S w φ H i R1)(h2:Bl S w φ H j R2)(hR:∀S' f1 f2,R1 S' f1->R2 S' f2->R S' (f1++f2)):Bl S w φ H (i++j) R:=by
 obtain⟨z1,o1,f1,p1,q1,r1⟩:=h1;obtain⟨z2,o2,f2,p2,q2,r2⟩:=h2;have hp:((z1++z2)++(o1++o2)).Perm (i++j):=by refine nI.2 fun a=>?_;have e1:=nI.1 p1 a;have e2:=nI.1 p2 a;simp only[List.count_append]at e1 e2|-;omega
 have hn2:(o1++o2).Nodup:=(bD.1 (hp.nodup_iff.2 hn)).2.1;exact⟨z1++z2,o1++o2,f1++f2,hp,wz.append hI hn2 q1 q2,fun S' hs hb=>hR S' f1 f2 (r1 S' hs fun b hm=>hb b ((SF.sub (by simp_all)).sub b hm)) (r2 S' hs fun b hm=>hb b ((SF.sub (by simp_all)).sub b hm))⟩
theorem SY(hI:Inv S K w0 φ (fO h) w)(hbx:∀id t c,fO h id=some (.bx t c)->dZ n h c){c:Sh}{v:V}{l:List V}{i:List Nat}{x:Value}(hc:ZI h c v=some (l,i))(hr:RW S w φ v x)(hal:oN h v=true)(hok:dZ n h v)(hn:i.Nodup):
  Bl S w φ (fO h) i fun S' fp=>EF S' w c l x fp:=by
 have main:ve h c false v=some (l,i)->Bl S w φ (fO h) i fun S' fp=>EF S' w c l x fp:=fun ha=>by obtain⟨fp,f1,f2⟩:=Gz hI hbx ha hr (fun _ _=>rfl) hok hn;exact .N0 f2 fun S' hs=>f1.Jl hs
 cases c with
 |x t=>exact⟨i,[],[],by simp,wz.nil,fun S' hs hb=>Ms hI hbx hs (show GA h (.x t) v=some (l,i)from hc) hr (fun _ _=>rfl) hal hok hb⟩
 |os t=>
  cases v with
  |sb id ver lo u r=>
   have h2:SO h t id ver r=some (l,i):=by
    have hc:(match fO h id with|some (.ar _ _ _)=>(match dR (.sl u) (.sl t) r with|some s=>some ([V.x (.sl t) s],[id])|none=>none)|_=>none)=some (l,i):=hc;split at hc<;>first|(cases hc;done)|skip
    rename_i u1 s1 v1 ho;simp only[oN,aw]at hal;have hal2:=hal.2;rw[ho]at hal2;unfold SO;rw[ho];simp only at hal2|-;rw[show(v1==ver)=true from hal2,cond_true];exact hc
   obtain⟨c,c1,c2⟩:R1 S w φ (.sb id ver lo u r) x:=hr;obtain⟨fp,f1,f2⟩:=KQ hI h2 c1 (fun _ _=>rfl) hok;exact .N0 f2 fun S' hs=>.inr ⟨c,f1.Jl hs,c2⟩
  |_=>exact main hc
 |_=>exact main hc
theorem SX(hI:Inv S K w0 φ (fO h) w)(hbx:∀id t c,fO h id=some (.bx t c)->dZ n h c){c:Sh}{v:V}{l:List V}{i:List Nat}{x:Value}(hc:ZH h c v=some (l,i))(hr:RW S w φ v x)(hok:dZ n h v)(hn:i.Nodup):
  Bl S w φ (fO h) i fun S' fp=>EF S' w c l x fp:=by
 have main:(bif oN h v then ve h c false v else none)=some (l,i)->Bl S w φ (fO h) i fun S' fp=>EF S' w c l x fp:=fun ha=>by obtain⟨fp,f1,f2⟩:=Gz hI hbx (aC ha).2 hr (fun _ _=>rfl) hok hn;exact .N0 f2 fun S' hs=>f1.Jl hs
 cases c with|gn=>cases hc;exact .N0 wz.nil fun S' hs=>.inl ⟨rfl,rfl,rfl⟩|_=>exact main hc
theorem PH(hI:Inv S K w0 φ (fO h) w)(hbx:∀id t c,fO h id=some (.bx t c)->dZ n h c):∀{cs:List Sh}{vs:List V}{l:List V}{i:List Nat}{xs:List Value},Lj h cs vs=some (l,i)->Ah S w φ vs xs->(∀v∈vs,oN h v=true/\dZ n h v)->i.Nodup->
  Bl S w φ (fO h) i fun S' fp=>GO S' w cs l xs fp:=by
 intro cs;induction cs with
 |nil=>intro vs l i xs hc hr _ _;cases vs<;>cases hc;cases xs with|nil=>exact .N0 wz.nil fun _ _=>⟨rfl,rfl⟩|cons x xs=>exact hr.elim
 |cons c cs ih=>
  intro vs l i xs hc hr hv hn;cases vs with
  |nil=>cases hc
  |cons v vs=>
  cases xs with|nil=>exact hr.elim|cons x xs=>simp only[Lj]at hc;split at hc<;>cases hc;rename_i l1 i1 l2 i2 h1 h2;obtain⟨n1,n2,_⟩:=bD.1 hn;exact .V1 hI hn (SY hI hbx h1 hr.1 (hv v (by simp)).1 (hv v (by simp)).2 n1) (ih h2 hr.2 (fun v hm=>hv v (by simp[hm])) n2) fun S' f1 f2 a b=>⟨_,_,f1,f2,rfl,rfl,a,b⟩
theorem PG(hI:Inv S K w0 φ (fO h) w)(hbx:∀id t c,fO h id=some (.bx t c)->dZ n h c):∀{cs:List Sh}{vs:List V}{l:List V}{i:List Nat}{xs:List Value},EY h cs vs=some (l,i)->Ah S w φ vs xs->(∀v∈vs,dZ n h v)->i.Nodup->
  Bl S w φ (fO h) i fun S' fp=>GO S' w cs l xs fp:=by
 intro cs;induction cs with
 |nil=>intro vs l i xs hc hr _ _;cases vs<;>cases hc;cases xs with|nil=>exact .N0 wz.nil fun _ _=>⟨rfl,rfl⟩|cons x xs=>exact hr.elim
 |cons c cs ih=>
  intro vs l i xs hc hr hv hn;cases vs with
  |nil=>cases hc
  |cons v vs=>
  cases xs with|nil=>exact hr.elim|cons x xs=>simp only[EY]at hc;split at hc<;>cases hc;rename_i l1 i1 l2 i2 h1 h2;obtain⟨n1,n2,_⟩:=bD.1 hn;exact .V1 hI hn (SX hI hbx h1 hr.1 (hv v (by simp)) n1) (ih h2 hr.2 (fun v hm=>hv v (by simp[hm])) n2) fun S' f1 f2 a b=>⟨_,_,f1,f2,rfl,rfl,a,b⟩
theorem M9:∀{cs:List Sh}{vs:List V}{l:List V}{i:List Nat},EY h cs vs=some (l,i)->cs.length=vs.length:=by
 intro cs;induction cs with
 |nil=>intro vs l i hc;cases vs<;>first|rfl|cases hc
 |cons c cs ih=>intro vs l i hc;cases vs with|nil=>cases hc|cons v vs=>simp only[EY]at hc;split at hc<;>cases hc;rename_i _ h2;simp[ih h2]
def vC(tmps:Array Value):ResultVar->Sem Value
 |.tmp t=>pure (tmps.getD t undef)
 |.cell a t=>do loadVar t (<-asAddr (tmps.getD a undef))
theorem SV(hR:vZ S K w0 φ gv nt s a w){r:ResultVar}{x:RV}{v:V}(hr:WJ P r=some x)(hv:SW s x=some v):
  ∃val,(vC a.tmps r).run P w=.ok val w/\RW S w φ v val/\oN s.heap v=true/\dZ s.next s.heap v:=by
 have op:∀{t:Nat}{v:V},Nr s.gX s.heap (.tmp t)=some v->RW S w φ v (a.tmps.getD t undef)/\oN s.heap v=true/\dZ s.next s.heap v:=fun{t v}h1=>by obtain⟨q1,q2,q3⟩:=FZ (n:=s.next) (E:=gB s.gX) (fun t v h=>.inr h) hR.ok.gX h1;exact⟨q1.rw hR.rx.gX hR.rx.inv.Kr,q2,q3⟩
 cases r with
 |tmp t=>cases hr;obtain⟨q1,q2,q3⟩:=op hv;exact⟨_,rfl,q1,q2,q3⟩
 |cell t ty=>
  simp only[WJ]at hr;split at hr<;>cases hr;rename_i g m hg hm;simp only[SW]at hv;split at hv<;>first|(cases hv;done)|skip
  rename_i p hp;split at hv<;>first|(cases hv;done)|skip
  rename_i y l hl;obtain⟨hc,h2⟩:=aC hv;cases h2;obtain⟨q1,_,_⟩:=op hp;obtain⟨b,f,c,e,h1,h2⟩:=Ih hR.rx.inv q1 hl fun _ _=>rfl;obtain⟨c1,c2,c3⟩:=Gp hc;have hlen:c.length=m:=h1.len.trans c2;refine⟨nB g c,?_,(R1.of h1 c1 fun e=>hlen.trans (c3 e)).rw,?_,HZ hR.ok.Az.bx hl⟩
  .simp [vC,e,asAddr,tN hg hm h2 hlen c3]
  .simp only[Jn,aw]at hc;exact hc.2
theorem PF(hR:vZ S K w0 φ gv nt s a w):∀{rs:List ResultVar}{xs:List RV}{vs:List V},G6 P rs=some xs->NF (SW s) xs=some vs->∃vals,(rs.mapM (vC a.tmps)).run P w=.ok vals w/\Ah S w φ vs vals/\∀v∈vs,oN s.heap v=true/\dZ s.next s.heap v:=by
 intro rs;induction rs with
 |nil=>intro xs vs h1 h2;cases h1;cases h2;exact⟨[],rfl,trivial,by simp⟩
 |cons r rs ih=>
  intro xs vs h1 h2;simp only[G6]at h1;split at h1<;>cases h1;rename_i x xs hx hxs;simp only[NF]at h2;split at h2<;>cases h2;rename_i v vs hv hvs;obtain⟨val,a1,a2,a3⟩:=SV hR hx hv;obtain⟨vals,b1,b2,b3⟩:=ih hxs hvs;refine⟨val::vals,by simp[a1,b1],⟨a2,b2⟩,fun y hy=>?_⟩;rcases aI.1 hy with rfl|hy
  .exact a3
  .exact b3 y hy
theorem G8{g:Func}{tmps:Array Value}{vs:List Value}(h:(g.results.toList.mapM (vC tmps)).run P w=.ok vs w):(results g tmps).run P w=.ok (yv vs) w:=by
 have e:results g tmps=(do let vs<-g.results.mapM (vC tmps);pure _):=rfl;have e2:g.results.mapM (vC tmps)=(do let vs<-g.results.toList.mapM (vC tmps);pure vs.toArray):=by rw[Array.mapM_eq_mapM_toList,bind_pure_comp]
 rw[e,e2];simp[h]
 match vs with|[]=>rfl|[v]=>rfl|v::v'::r=>simp[yv]
theorem Um(hR:vZ S K w0 φ gv nt s a w){g:Func}{vu:List RV}{rs os:List Sh}{l:List V}(hrv:G6 P g.results.toList=some vu)(hf:N5 vu rs os s=some l)(hlen:os.length=gv.length):
  ∃vals S' fp1 fp2,(results g a.tmps).run P w=.ok (yv vals) w/\gC S w S' w/\(∀b,S' b->¬K b/\b<w.heap.size)/\GO S' w rs (l.take (pe rs).length) vals fp1/\GO S' w os (l.drop (pe rs).length) gv fp2/\(fp1++fp2).Nodup/\
   ∀b∈fp1++fp2,¬S' b/\¬K b/\b<w.heap.size:=by
 unfold N5 at hf;split at hf<;>first|(cases hf;done)|skip
 rename_i vs hvs;split at hf<;>first|(cases hf;done)|skip
 rename_i l1 i l2 j h2 h3;obtain⟨hn,h4⟩:=aC hf;cases h4;have hn:=E6 hn;have hI:=hR.rx.inv;obtain⟨vals,a1,a2,a3⟩:=PF hR hrv hvs;have hg:Ah S w φ (iA s.gh) gv:=.of ((M9 h3).symm.trans hlen) hR.rx.gh;obtain⟨fz,ow,fp,hp,hfp,hall⟩:=Bl.V1 (R:=fun S' fp=>∃f1 f2,fp=f1++f2/\GO S' w rs l1 vals f1/\GO S' w os l2 gv f2) hI hn (PH hI hR.ok.Az.bx h2 a2 a3 (bD.1 hn).1) (PG hI hR.ok.Az.bx h3 hg hR.Ub (bD.1 hn).2.1) fun S' f1 f2 a b=>⟨f1,f2,rfl,a,b⟩;obtain⟨f1,f2,rfl,r1,r2⟩:=hall (SF S w φ (fO s.heap) fz) (SF.Jl fz) fun _ h=>h;have hob:∀{i:Nat}{o:O}{lo:nF}{b:Nat},fO s.heap i=some o->φ i=some lo->b∈ob w lo o->¬S b/\¬K b/\b<w.heap.size:=fun{i o lo b}h1 h2 h3=>by obtain⟨l2,b1,_,b4⟩:=hI.lS i o h1;obtain rfl:=ac (h2.symm.trans b1);exact b4 b h3
 have hlr:=r1.len;refine⟨vals,SF S w φ (fO s.heap) fz,f1,f2,G8 a1,SF.Jl fz,fun b hb=>?_,by rw[<-hlr,List.take_left];exact r1,by rw[<-hlr,List.drop_left];exact r2,hfp.1,fun b hb=>?_⟩
 .rcases hb with hb|⟨i,_,o,lo,h1,h2,h3⟩
  .exact ⟨hI.sk b hb,hI.Cg b hb⟩
  .exact (hob h1 h2 h3).2
 .obtain ⟨i,hi,o,lo,h1,h2,h3⟩:=hfp.2 b hb;obtain⟨q1,q2,q3⟩:=hob h1 h2 h3;refine⟨?_,q2,q3⟩;rintro(hb2|⟨k,hk,o2,lo2,k1,k2,k3⟩)
  .exact q1 hb2
  .have hne:i≠k:=fun e=>(bD.1 (hp.nodup_iff.2 hn)).2.2 k hk i hi e.symm;exact hI.iY i k o o2 lo lo2 h1 k1 h2 k2 hne b h3 k3
end
section
variable{P:Program}{S S' K:Nat->Prop}{w0 w w':World}{φ φ':fM}{H:Hf}{n:Nat}{h:H2}{s:S2}{a:Act}{gv:List Value}{nt:Nat}{tb:EE}{lp:Lp}{aR:Cu}
theorem Q9{vu:List RV}{s:S2}:∀{al:Wy}{z:xT al},Xs vu s al=some z->∃rs os l,OM al z=some (rs,os,l)/\(rs,os)∈al/\N5 vu rs os s=some l:=by
 have key:∀(w:Wy)(r o:List Sh)(z:xT.Ou r o w),Q8 vu s r o w=some z->∃r' o' l,ON (fun a b c=>some (a,b,c)) r o w z=some (r',o',l)/\(r',o')∈(r,o)::w/\N5 vu r' o' s=some l:=by
  intro w;induction w with
  |nil=>
   intro r o z hz;simp only[Q8]at hz;split at hz<;>first|(cases hz;done)|skip
   rename_i l hl;exact⟨r,o,_,rfl,by simp,by rw[tJ hz];exact hl⟩
  |cons p w ih=>
   obtain⟨r',o'⟩:=p;intro r o z hz;simp only[Q8]at hz;split at hz
   .rename_i l hl;split at hz<;>cases hz;rename_i y hy;exact⟨r,o,_,rfl,by simp,by rw[tJ hy];exact hl⟩
   .split at hz<;>cases hz;rename_i y hy;obtain⟨r2,o2,l,h1,h2,h3⟩:=ih r' o' y hy;exact⟨r2,o2,l,h1,bd _ h2,h3⟩
 intro al z hz;cases al with|nil=>exact nomatch z|cons p w=>exact key w p.1 p.2 z hz
def QD(ps:List (Bool×Sh)):Nat:=(ps.filter (·.1)).length
theorem NJ:∀{ps:List (Bool×Sh)}{xs:List Value},xs.length=ps.length->(tU ps xs).length=QD ps:=by
 intro ps;induction ps with
 |nil=>intro xs h;cases xs<;>rfl
 |cons p ps ih=>obtain⟨b,c⟩:=p;intro xs h;cases xs with|nil=>cases h|cons x xs=>have:=ih (xs:=xs) (by simpa using h);cases b<;>simp_all[tU,QD]
def So(sp:dC):Bool:=(sp.al.all fun w=>ly w.2.length (QD sp.ps))&&(!sp.ro||ZG sp)
theorem Rb(hT:qc P tb)(hm:P.follows .mixedOrders=true){f np:Nat}{an:List (Nat×An)}{F:F2}(hF:Mc P aR f np an=some F){sp:dC}(hlen:sp.ps.length=np)(hw:So sp=true)(hfn:∀p z,sp.fn p=some z->evF lp tb (some F) sp.ps sp.al p=some z):aN P f sp:=by
 simp only[So,aw,Bool.or_eq_true,fq]at hw;obtain⟨hal,hro⟩:=hw;refine⟨fun h=>hro.resolve_left (by simp[h]),fun S w xs fp p z hs hr hn hfp hg hz=>?_⟩;have hz:=hfn p z hz;unfold Mc at hF;split at hF<;>first|(cases hF;done)|skip
 rename_i g hg0;split at hF<;>first|(cases hF;done)|skip
 rename_i code hb;split at hF<;>first|(cases hF;done)|skip
 rename_i hc;split at hF<;>cases hF;rename_i vu hrv;obtain⟨hname,hnp,hnt⟩:=hc;simp only[evF]at hz;split at hz<;>first|(cases hz;done)|skip
 rename_i s0 hs0;obtain⟨hxl,φ,hR⟩:=Uu hs0 hr hs hn hfp hg (by omega:sp.ps.length<=g.ntmps);left;refine⟨f,xs.toArray,?_,?_⟩
 .simp_all [callFunc,run_program]
 refine calls_of_wp hg0 hb (wp_mono (UF hT hnt hm code 0 hz hR) fun e a' w' hp=>?_);obtain⟨o,s',h1,rfl,h3,S',φ',h4,h5,h6⟩:=hp
 have wu:Xs vu s' sp.al=some z->a'.defers=[]/\∃v,(results g a'.tmps).run P w'=.ok v w'/\∃v',Ending.returned v=Ending.returned v'/\Left S w fp sp z (tU sp.ps xs) v' w':=by
  intro h1;obtain⟨rs,os,l,e1,e2,e3⟩:=Q9 h1;have hol:os.length=(tU sp.ps xs).length:=by rw[NJ hxl];exact cV (cm.1 hal _ e2)
  obtain⟨vals,S2,fp1,fp2,k1,k2,k3,k4,k5,k6,k7⟩:=Um h6 hrv e3 hol;have hfrm:=h6.rx.inv.sq;have fe:=h4.trans k2;refine⟨h6.rx.defers,_,k1,_,rfl,S2,vals,fp1,fp2,rs,os,l,e1,rfl,fe,fun b hb=>?_,fun b hb=>(k3 b hb).2,k4,k5,k6,fun b hb=>?_,?_⟩
  .by_cases q1:b<w.heap.size
   .by_cases q2:b∈fp
    .exact .inr (.inl q2)
    .by_cases q3:S b
     .exact .inl q3
     .exact absurd ⟨q1,q2,q3⟩ (k3 b hb).1
   .exact .inr (.inr (by omega))
  .obtain ⟨q0,q1,q2⟩:=k7 b hb;refine⟨q0,?_,q2⟩;by_cases q3:b<w.heap.size
   .by_cases q4:b∈fp
    .exact .inl q4
    .by_cases q5:S b
     .exact absurd (fe.sub _ q5) q0
     .exact absurd ⟨q3,q4,q5⟩ q1
   .exact .inr (by omega)
  .refine ⟨fun b hb=>hb.1,fun b hb=>?_,hfrm.grow,hfrm.Sk,hfrm.HI,hfrm.io⟩;by_cases q3:S b
   .exact h4.ju b q3
   .exact hfrm.uu b ⟨hb.1,hb.2,q3⟩
 cases o with|exit id=>cases h1|normal=>exact wu h1|ret=>exact wu h1
theorem aH(hm:P.follows .mixedOrders=true){f np:Nat}{an:List (Nat×An)}(hT:qc P tb){sp:dC}(h1:(So sp&&ly sp.ps.length np)=true)(h3:(fun p=>evF lp tb (Mc P aR f np an) sp.ps sp.al p)=sp.fn):aN P f sp:=by simp only[aw]at h1;cases hF:Mc P aR f np an with|none=>rw[hF]at h3;exact⟨fun h=>(by have:=h1.1;simp_all[So]),fun S w xs fp p z _ _ _ _ _ hz=>by rw[<-h3]at hz;cases hz⟩|some F=>rw[hF]at h3;exact Rb hT hm hF (cV h1.2) h1.1 fun p z hz=>by rw[<-h3]at hz;exact hz
end
open Go.ChangeShapes Go.WideShapes Go.ChangeAt Go.RowKit
def S0(w:World)(b:Nat):Prop:=b<w.heap.size
def wT:Ty->Nat
 |.i .i64|.i .u64|.f .f64=>8
 |_=>0
def xN:(t:Ty)->El t->Prop
 |.i k,x=>k.min<=x/\x<=k.max
 |.s,s=>s.size<=maxLen
 |.f k,b=>(Lit.float k b).wf=true
 |.sl t,s=>(s.l.length<=maxLen/\s.l.length*wT t<=reachBytes)/\∀x∈s.l,xN t x
 |.pr a c,v=>xN a v.1/\xN c v.2
 |.st t,v=>xN t v
 |.ar _ t,v=>∀x∈v.1,xN t x
 |_,_=>True
def Tr(P:Program)(ok:TypeId->Bool)(sz:TypeId->Nat):List Field->Nat->Nat->Bool
 |[],off,wB=>ly off wB
 |f::r,off,wB=>ok f.type&&ly f.offset off&&ly (P.cellsOf f.type) (sz f.type)&&Tr P ok sz r (off+sz f.type) wB
def Qa(P:Program):Nat->TypeId->Bool
 |0,_=>false
 |n+1,t=>match P.underlying t with|some (.int _)|some .bool|some .string|some (.float _)=>true|some (.slice e)=>Qa P n e&&gE 0 (df (gz P n e))&&ly (P.cellsOf e) (df (gz P n e))&&Nat.ble (wT (gz P n e)) (P.bytesOf e)|some (.struct fs)=>Tr P (Qa P n) (fun t=>df (gz P n t)) fs.toList 0 (P.cellsOf t)|some (.array m e)=>Qa P n e&&ly (P.cellsOf e) (df (gz P n e))&&ly (P.cellsOf t) (m*df (gz P n e))|_=>false
section
variable{P:Program}{H:Type}{en:TypeId×Value->H}{w:World}
theorem wD{e:TypeId}{d:DataW H}:∀{l:List (DataW H)},d∈l->∀b∈DataW.weights P e d,b∈DataW.weightsAll P e l
 |x::r,h,b,hb=>by
  simp only[DataW.weightsAll,aF];rcases aI.1 h with rfl|h
  .exact .inl hb
  .exact .inr (wD h b hb)
theorem yX{d:DataW H}{t:TypeId}:∀{ts:List TypeId}{l:List (DataW H)}{i:Nat},ts[i]?=some t->l[i]?=some d->∀b∈DataW.weights P t d,b∈DataW.weightsEach P ts l
 |t'::ts,x::r,0,h1,h2,b,hb=>by simp only[DataW.weightsEach,aF];cases h1;cases h2;exact .inl hb
 |t'::ts,x::r,i+1,h1,h2,b,hb=>by simp only[DataW.weightsEach,aF];exact .inr (yX (i:=i) (by simpa using h1) (by simpa using h2) b hb)
theorem IM{ts':List TypeId}{gs:List (DataW H)}:∀{ts:List TypeId}{l:List (DataW H)},∀b∈DataW.weightsEach P ts l,b∈DataW.weightsEach P (ts++ts') (l++gs)
 |[],_,b,h=>by simp[DataW.weightsEach]at h
 |_::_,[],b,h=>by simp[DataW.weightsEach]at h
 |t::ts,x::r,b,h=>by simp only[DataW.weightsEach,aF,List.cons_append]at h|-;exact h.imp id (IM b)
def Je(P:Program)(t:TypeId)(d:DataW H):Prop:=∀b∈DataW.weights P t d,b<=reachBytes
theorem P2:∀(n:Nat)(t:TypeId),Qa P n t=true->∀{fuel:Nat}{cs:List Value}{x:DataW H×List MemPlace},DataW.trod en P w 0 (fun _=>true) true fuel t cs=some x->Je P t x.1->∃a:El (gz P n t),xN _ a/\RT (S0 w) w (gz P n t) a cs:=by
 intro n;induction n with
 |zero=>intro t h;simp[Qa]at h
 |succ n ih=>
  intro t h fuel cs x hx hwt;simp only[Qa]at h;split at h
  .rename_i k hu;rw[show gz P (n+1) t=.i k by simp only[gz,hu]];obtain⟨n,rfl,_,hw⟩:=DataW.trod_int hu hx;exact⟨n,by simpa[Lit.wf,xN]using hw,rfl⟩
  .rename_i hu;rw[show gz P (n+1) t=.b by simp only[gz,hu]];obtain⟨n,rfl,_⟩:=DataW.trod_bool hu hx;exact⟨n,trivial,rfl⟩
  .rename_i hu;rw[show gz P (n+1) t=.s by simp only[gz,hu]];obtain⟨n,rfl,_,hm⟩:=DataW.trod_string hu hx;exact⟨n,hm,rfl⟩
  .rename_i k hu;rw[show gz P (n+1) t=.f k by simp only[gz,hu]];cases fuel with
   |zero=>simp[DataW.trod]at hx
   |succ n=>
    unfold DataW.trod at hx;simp only[hu]at hx
    match cs,hx with
    |[.float k' b],hx=>
     simp only at hx;split at hx
     .rename_i hw;obtain⟨rfl,hw⟩:=hw;exact⟨b,hw,b,rfl,.inl rfl⟩
     .simp at hx
  .rename_i e hu;simp only[aw]at h;obtain⟨⟨⟨h1,h2⟩,h3⟩,h4⟩:=h;have hc:=cV h3;have hwb:=Nat.le_of_ble_eq_true h4;have hsz:0<df (gz P n e):=by simpa[eA]using h2
   rw[show gz P (n+1) t=.sl (gz P n e)by simp only[gz,hu]];generalize hE:gz P n e=E at hc hsz hwb;rcases Go.Deep.open_slice hu hx with⟨rfl,_⟩|⟨a,len,cap,m,n',D',Pl,rfl,hb,hl,hmax,hm,rfl,hxe⟩
   .exact ⟨(.nil:Sl (El E)),⟨by simp[Sl.l],by simp[Sl.l]⟩,rfl⟩
   .simp only[if_true]at hm;have hlen:len*wT E<=reachBytes:=by have:=hwt ((((aK len).map D').length+((aK (m-len)).map fun j=>D' (len+j)).length)*P.bytesOf e) (by simp only[DataW.weights,hu];exact List.mem_cons_self);refine bg (bg (Nat.mul_le_mul_left _ hwb) (ct _ ?_)) this;simp
    have hwD:∀i,i<len->Je P e (D' i):=fun i hi b hb=>hwt b (by simp only[DataW.weights,hu];exact bd _ (bw _ (wD (aL.2 ⟨i,List.mem_range.2 hi,rfl⟩) b hb)));rw[hm]at hxe;by_cases h0:cap=0
    .obtain rfl:len=0:=by omega
     exact⟨(.mk []:Sl (El E)),⟨by simp[Sl.l],by simp[Sl.l]⟩,a,cap,rfl,by simp,hsz,.inl ⟨rfl,h0⟩⟩
    .obtain ⟨cs0,g1,_⟩:=hxe 0 (by omega);obtain⟨_,hl0,hc0⟩:=World.cells?_some g1;have hz:=hc0 0 (by omega);rw[gD]at hz;have hadd:(a.add 0).add 0=a:=by simp[Addr.add]
     rw[hadd,bf (by omega)]at hz;obtain⟨b,off,spot⟩:=a
     have hsp:spot=none/\b<w.heap.size:=by
      unfold World.cell? at hz;split at hz
      .rename_i hh;split at hz
       .simp at hz
       .rename_i hs;refine⟨by simpa using hs,(bi.1 hh).1⟩
      .simp at hz
     obtain⟨rfl,hblk⟩:=hsp
     have key:∀k,k<=len->∃l:List (El E),l.length=k/\(∀y∈l,xN E y)/\∃d,lC (RT (S0 w) w E) l d/\At w b (off+(len-k)*df E) d:=by
      intro k;induction k with
      |zero=>intro _;exact⟨[],rfl,by simp,[],rfl,trivial⟩
      |succ k ihk=>
       intro hk;obtain⟨l,l1,l2,d,l3,l4⟩:=ihk (by omega);obtain⟨cs',g1,g2⟩:=hxe (len-(k+1)) (by omega);obtain⟨y,g3,g4⟩:∃a:El E,xN E a/\RT (S0 w) w E a cs':=hE▸ih e h1 g2 (hwD _ (by omega));rw[hc]at g1;obtain⟨_,g5,g6⟩:=World.cells?_some g1;refine⟨y::l,by simp[l1],fun z hz=>?_,cs'++d,⟨cs',d,rfl,g4,l3⟩,xJ.2 ⟨Se fun i v hi=>?_,?_⟩⟩
       .rcases aI.1 hz with rfl|hz
        .exact g3
        .exact l2 z hz
       .have:=g6 i (by rw[<-g5];exact(aV.1 hi).1);rw[vX,vX,hi]at this;exact this
       .rw [g5,Nat.add_assoc,<-fj,show(len-(k+1)).succ=len-k by omega];exact l4
     obtain⟨l,l1,l2,d,l3,l4⟩:=key len (aq _);rw[Nat.sub_self,gD]at l4;exact⟨(.mk l:Sl (El E)),⟨⟨by simp[Sl.l];omega,by simp[Sl.l];rw[l1];exact hlen⟩,l2⟩,⟨b,off,none⟩,cap,by rw[l1],by omega,hsz,.inr ⟨hblk,rfl,d,l3,l4⟩⟩
  .rename_i fs hu;rw[show gz P (n+1) t=.st (gz.chn (fs.toList.map fun f=>gz P n f.type))by simp only[gz,hu]];obtain⟨xs,n',rfl,rfl,hl,hxl,hf⟩:=DataW.trod_struct hu hx;have hwX:∀(i:Nat)(f:Field)y,fs[i]?=some f->xs[i]?=some y->Je P f.type y.1:=fun i f y h1 h2 b hb=>hwt b (by simp only[DataW.weights,hu];exact yX (i:=i) (by simp[h1]) (by simp[h2]) b hb)
   have key:∀(suf:List Field)(i off:Nat),(∀j,fs[i+j]?=suf[j]?)->Tr P (Qa P n) (fun t=>df (gz P n t)) suf off (P.cellsOf t)=true->
     ∃v:El (gz.chn (suf.map fun f=>gz P n f.type)),xN _ v/\RT (S0 w) w _ v (cs.drop off):=by
    intro suf;induction suf with
    |nil=>intro i off _ hok;have e:=cV hok;exact⟨(),trivial,pQ (by omega)⟩
    |cons f r ihr=>
     intro i off hi hok;simp only[Tr,aw]at hok;obtain⟨⟨⟨k1,k2⟩,k3⟩,k4⟩:=hok;have k2:=cV k2;have k3:=cV k3;have hif:fs[i]?=some f:=by have:=hi 0;simpa using this
     have h1:=hf i f hif;have hxi:=bf (l:=xs) (i:=i) (by rw[hxl];exact(bi.1 hif).1);rw[hxi]at h1;obtain⟨a,f1,c1⟩:=ih f.type k1 h1 (hwX i f _ hif hxi);rw[k2,k3]at c1;obtain⟨v,f2,c2⟩:=ihr (i+1) (off+df (gz P n f.type)) (fun j=>by have:=hi (j+1);rw[show i+1+j=i+(j+1)by omega,this];rfl) k4;cases r with|nil=>have e:=cV k4;rw[List.take_of_length_le (by rw[List.length_drop];omega)]at c1;exact⟨a,f1,c1⟩|cons g r=>exact⟨(a,v),⟨f1,f2⟩,_,_,by rw[<-kR,cK],c1,c2⟩
   obtain⟨v,f1,c1⟩:=key fs.toList 0 0 (fun j=>by simp) h;exact⟨v,f1,by rw[pO]at c1;exact c1⟩
  .rename_i m e hu;simp only[aw]at h;obtain⟨⟨h1,h2⟩,h3⟩:=h;have h2:=cV h2;have h3:=cV h3;rw[show gz P (n+1) t=.ar m (gz P n e)by simp only[gz,hu]];obtain⟨xs,m',_,rfl,hl,hxl,hf⟩:=DataW.trod_array hu hx;have hwX:∀(i:Nat)y,xs[i]?=some y->Je P e y.1:=fun i y h2 b hb=>hwt b (by simp only[DataW.weights,hu];exact wD (aL.2 ⟨y,List.mem_of_getElem? h2,rfl⟩) b hb)
   have key:∀j,j<=m->∃l:List (El (gz P n e)),l.length=j/\(∀y∈l,xN _ y)/\lC (RT (S0 w) w (gz P n e)) l (cs.drop ((m-j)*df (gz P n e))):=by
    intro j;induction j with
    |zero=>intro _;exact⟨[],rfl,fun y hy=>by simp at hy,pQ (by rw[hl,h3];simp)⟩
    |succ j ihj=>
     intro hj;obtain⟨l,l1,l2,l3⟩:=ihj (by omega);have hk:=hf (m-(j+1)) (by omega);have hxi:=bf (l:=xs) (i:=m-(j+1)) (by omega);rw[hxi]at hk;obtain⟨a,f1,c1⟩:=ih e h1 hk (hwX _ _ hxi);rw[h2]at c1;refine⟨a::l,by simp[l1],fun y hy=>?_,_,_,?_,c1,l3⟩
     .rcases aI.1 hy with rfl|hy
      .exact f1
      .exact l2 y hy
     .rw [show m-j=(m-(j+1))+1 by omega,fj,<-kR,cK]
   obtain⟨l,l1,l2,l3⟩:=key m (aq _);rw[Nat.sub_self,gD,pO]at l3;exact⟨⟨l,l1⟩,l2,l3⟩
  .simp at h
def Jg:List Ty->List V->Prop
 |[],l=>l=[]
 |a::r,l=>∃(v:El a)(m:List V),l=.x a v::m/\xN a v/\Jg r m
theorem Me{a:Ty}(v:El a):DQ a (.x a v)=some v:=by simp[DQ,dR]
theorem Jg.tup:∀{cs:List Ty}{l:List V},Jg cs l->∃p,wG cs l=some p/\vg cs p=l:=by
 have key:∀(r:List Ty)(a:Ty)(l:List V),Jg (a::r) l->∃p,MG a r l=some p:=by intro r;induction r with|nil=>rintro a l ⟨v,m,rfl,_,hm⟩;have hm:m=[]:=hm;subst hm;exact⟨v,Me v⟩|cons c r ih=>rintro a l ⟨v,m,rfl,_,hm⟩;obtain⟨p,hp⟩:=ih c m hm;refine⟨(v,p),?_⟩;show Wr (DQ a (.x a v)) (MG c r m)=_;rw[Me,hp];rfl
 intro cs l h;cases cs with|nil=>have h:l=[]:=h;subst h;exact⟨(),rfl,rfl⟩|cons a r=>obtain⟨p,hp⟩:=key r a l h;exact⟨p,hp,tJ (cs:=a::r) hp⟩
theorem nT{t:TypeId}{r:Reach}{b:Nat}{v:Value}(h:Value.okWide P w r b t v)(hs:match P.underlying t with|some (.struct _)|some (.array _ _)|some (.interface _)|some (.func ..)|some (.chan ..)|some .unsafePointer|some (.map _ _)=>False|_=>True):one v=true:=by
 unfold Value.okWide at h;split at h
 .rename_i he;rw[he]at hs;exact hs.elim
 .rename_i he;rw[he]at hs;exact hs.elim
 .unfold Cell.okWide at h;split at h
  all_goals first
   |(rename_i he;rw[he]at hs;exact hs.elim)
   |skip
  unfold Cell.ok at h;split at h<;>first|rfl|exact h.elim
theorem Gq{v:Value}(h:one v=true):v.cells.toList=[v]:=by cases v<;>first|rfl|cases h
theorem XS{n:Nat}{t:TypeId}(ho:Qa P n t=true){r:Reach}{b:Nat}{v:Value}(hv:Value.okWide P w r b t v){x:DataW H}{ps:List MemPlace}(h:DataW.Trod en P w 0 (fun _=>true) true t v x ps)(hwt:Je P t x):∃a:El (gz P n t),xN _ a/\EF (S0 w) w (.x (gz P n t)) [.x _ a] v []:=by
 obtain⟨fuel,h⟩:=h;obtain⟨a,h1,h2⟩:=P2 n t ho h hwt;refine⟨a,h1,.inr ⟨_,⟨rfl,a,rfl,h2⟩,?_⟩⟩;have flat:∀{u:Ty},iD u=false->one v=true->if V2 (.x u)=true then v=.agg v.cells.toList.toArray else v.cells.toList=[v]:=fun{u}h1 h2=>by rw[if_neg (by show¬iD u=true;rw[h1];simp),Gq h2]
 have ag:∀{u:Ty}{bz:Array Value},iD u=true->v=.agg bz->if V2 (.x u)=true then v=.agg v.cells.toList.toArray else v.cells.toList=[v]:=fun{u bz}h1 h2=>by rw[if_pos (by show iD u=true;exact h1)];subst h2;rfl
 cases n with
 |zero=>simp[Qa]at ho
 |succ n=>
  simp only[Qa]at ho;split at ho
  .rename_i hu;exact flat (by simp[gz,hu,iD]) (nT hv (by rw[hu];trivial))
  .rename_i hu;exact flat (by simp[gz,hu,iD]) (nT hv (by rw[hu];trivial))
  .rename_i hu;exact flat (by simp[gz,hu,iD]) (nT hv (by rw[hu];trivial))
  .rename_i hu;exact flat (by simp[gz,hu,iD]) (nT hv (by rw[hu];trivial))
  .rename_i hu;exact flat (by simp[gz,hu,iD]) (nT hv (by rw[hu];trivial))
  .rename_i fs hu;unfold Value.okWide at hv;rw[hu]at hv;obtain⟨bz,hv,_,_⟩:=hv;exact ag (by simp[gz,hu,iD]) hv
  .rename_i m e hu;unfold Value.okWide at hv;rw[hu]at hv;obtain⟨bz,hv,_,_⟩:=hv;exact ag (by simp[gz,hu,iD]) hv
  .simp at ho
def okA(P:Program)(ts:List TypeId):Bool:=ts.all fun t=>Qa P Rl t
theorem U3{gN:Nat}:∀(ts:List TypeId)(vs:List Value)(ds:List (DataW H))(ps:List MemPlace),DataW.TrodAll en P w 0 (fun _=>true) true ts vs ds ps->(∀b∈DataW.weightsEach P ts ds,b<=reachBytes)->okA P ts=true->
  (∀(j:Nat)t v,ts[j]?=some t->vs[j]?=some v->Value.okWide P w .any gN t v)->∃l,Jg (ts.map (gz P Rl)) l/\KY (S0 w) w (ts.map fun t=>(false,Sh.x (gz P Rl t))) l vs []:=by
 intro ts;induction ts with
 |nil=>intro vs ds ps h _ _ _;cases vs with|nil=>exact⟨[],rfl,rfl,rfl⟩|cons=>cases ds<;>exact h.elim
 |cons t ts ih=>
  intro vs ds ps h hwt hok hv;cases vs with
  |nil=>cases ds<;>exact h.elim
  |cons v vs=>cases ds with|nil=>exact h.elim|cons d ds=>obtain⟨p,q,h1,h2,rfl⟩:=h;simp only[okA,List.all_cons,aw]at hok;obtain⟨a,f1,r1⟩:=XS hok.1 (hv 0 t v rfl rfl) h1 (fun b hb=>hwt b (by simp only[DataW.weightsEach,aF];exact .inl hb));obtain⟨l,f2,r2⟩:=ih vs ds q h2 (fun b hb=>hwt b (by simp only[DataW.weightsEach,aF];exact .inr hb)) (by simpa[okA]using hok.2) fun j t' v' ht hv'=>hv (j+1) t' v' (by simpa using ht) (by simpa using hv');exact⟨.x _ a::l,⟨a,l,rfl,f1,f2⟩,[_],l,[],[],rfl,rfl,r1,(fun _=>rfl),r2⟩
theorem XD:∀(tys:List Ty),pe ((tys.map fun t=>(false,Sh.x t)).map (·.2))=tys:=by intro tys;induction tys with|nil=>rfl|cons a r ih=>show a::pe ((r.map fun t=>(false,Sh.x t)).map (·.2))=a::r;rw[ih]
theorem D8(hl:laidOutB P=true){W W':World}{sp:Nat->Bool}:∀{ts:List TypeId}{vs:List Value}{ds:List (DataW H)}{ps:List MemPlace},ts.all (fun t=>P.readableRec t&&decide (t<P.types.size))=true->
  DataW.TrodAll en P W 0 (fun _=>true) true ts vs ds ps->(∀p∈ps,W.sameAt W' p)->(∀p∈ps,sp p.block=true)->DataW.TrodAll en P W' 0 sp true ts vs ds ps:=by
 intro ts;induction ts with
 |nil=>intro vs ds ps _ h _ _;cases vs<;>cases ds<;>exact h
 |cons t ts ih=>
  intro vs ds ps hts h hsame hsp;cases vs with
  |nil=>cases ds<;>exact h
  |cons v vs=>
   cases ds with
   |nil=>exact h
   |cons d ds=>
    obtain⟨p,q,h1,h2,rfl⟩:=h;simp only[List.all_cons,aw,decide_eq_true_eq]at hts
    exact⟨p,q,WideElems.Trod_stays hl hts.1.1 hts.1.2 h1 (fun x hx=>hsame x (bw _ hx)) (fun x hx=>hsp x (bw _ hx)),
     ih hts.2 h2 (fun x hx=>hsame x (dL _ hx)) (fun x hx=>hsp x (dL _ hx)),rfl⟩
theorem FQ{enc:TypeId×Value->H}{f:Func}{s:ChangeSpec}{xm we handsOn again:Bool}{W W':World}{args:Array Value}{v:Value}{ds gs:List (DataW H)}{fK pa pv:List MemPlace}
  (hW:DataW.Whole enc P f.params.toList s.vars xm W args.toList ds gs fK)
  (hres:∀(b:Nat)(sp:Nat->Bool)(hd:Bool),DataW.TrodAll enc P W' b sp hd f.resultTypes.toList (v.resultList f.resultTypes.size) (s.fn H (ds++gs)).results [])
  (hargs:∀sp:Nat->Bool,(∀p∈fK,sp p.block=true)->DataW.TrodAll enc P W' 0 sp true f.params.toList args.toList (s.fn H (ds++gs)).args pa)
  (hvars:∀sp:Nat->Bool,(∀p∈fK,sp p.block=true)->DataW.TrodVars enc P W' sp s.vars (s.fn H (ds++gs)).vars pv)
  (hps:fK=pa++pv) (hk:W.keptBut W' (·∈fK)) (hfz:∀a,a.block<W.heap.size->W'.frozen? a=W.frozen? a)
  (hok:∀(j:Nat)(t:TypeId)(r:Value),f.resultTypes[j]?=some t->(v.resultList f.resultTypes.size)[j]?=some r->Value.okWide P W' .any 0 t r):
  s.post enc P f xm we handsOn again W args v W':=by
 have hold:∀p∈fK,(fun b=>decide (b<W.heap.size)) p.block=true:=fun p hp=>by simpa using hW.lt p hp
 refine⟨ds,gs,fK,[],pa,pv,hW,hres _ _ _,hargs _ hold,hvars _ hold,World.keptBut_mono (fun p hp=>⟨hp,?_⟩) hk,fun _=>?_⟩
 .rw [hps,aF]at hp;exact Or.inr hp
 .have hlt:=fun p hp=>hW.lt p hp;obtain⟨_,_,_,_,_,hz,hn⟩:=hW;refine⟨hok,_,_,([]++pa)++pv,⟨[]++pa,pv,trodAll_append (hargs _ (fun _ _=>rfl)) (hres _ _ _),hvars _ (fun _ _=>rfl),rfl,?_,?_⟩,?_⟩
  .intro b off hp;rw[hfz _ (hlt _ (by rw[hps];simpa using hp))];exact hz b off (by rw[hps];simpa using hp)
  .intro ha;have:=hn ha;rw[hps]at this;simpa using this
  .intro p hp _;rw[hps];simpa using hp
theorem N_{f:FuncId}{fn:Func}{s:ChangeSpec}{xm we handsOn again:Bool}{tb:TypeId}(hl:laidOutB P=true)(hfn:P.funcs[f]?=some fn)(hbody:fn.body.isSome=true)(hname:(fn.name== "runtime.NumGoroutine")=false)
  (hts:fn.params.toList.all (fun t=>P.readableRec t&&decide (t<P.types.size))=true) (hrt:fn.resultTypes= #[tb]) (htb:P.underlying tb=some .bool) (hvars:s.vars=[])
  {W:World} {args:Array Value} {ds gs:List (DataW H)} {fK:List MemPlace} (hW:DataW.Whole en P fn.params.toList s.vars xm W args.toList ds gs fK)
  (hspec:(s.fn H (ds++gs)).results=[.lit (.bool true)]/\(s.fn H (ds++gs)).args=ds/\(s.fn H (ds++gs)).vars=[])
  (hgl:D2 (S0 W) W) (hwt:(DataW.weightsEach P (fn.params.toList++s.plain.varTypes P) (ds++gs)).all (·<=reachBytes)=true) {gN:Nat} (hval:∀(j:Nat)t v,fn.params[j]?=some t->args[j]?=some v->Value.okWide P W .any gN t v)
  {tys:List Ty} (hty:fn.params.toList.map (gz P Rl)=tys) (hok:okA P fn.params.toList=true) {ro:Bool} {xM:List Bool} {g:xV (pe ((tys.map fun t=>(false,Sh.x t)).map (·.2)))->Option (xT [([.x .b],[])])}
  (hsp:aN P f ⟨tys.map fun t=>(false,Sh.x t),[([.x .b],[])],ro,xM,g⟩) (law:∀p,Jg (pe ((tys.map fun t=>(false,Sh.x t)).map (·.2))) (vg _ p)->g p=some true):
  Calls P f args W fun e W'=>∃v,e=.returned v/\s.post en P fn xm we handsOn again W args v W':=by
 obtain⟨p,q,hA0,hV,hpq,hfz,hno⟩:=id hW;have hA:DataW.TrodAll en P W 0 (fun _=>true) true fn.params.toList args.toList ds p:=hA0;have hwt':∀b∈DataW.weightsEach P fn.params.toList ds,b<=reachBytes:=fun b hb=>by have:=cm.1 hwt b (IM b hb);simpa using this
 obtain⟨l,h1,h2⟩:=U3 (gN:=gN) _ _ _ _ hA hwt' hok fun j t v ht hv=>hval j t v (by simpa using ht) (by simpa using hv);have h3:fn.params.toList.map (fun t=>(false,Sh.x (gz P Rl t)))=tys.map fun t=>(false,Sh.x t):=by rw[<-hty,jV];rfl
 rw[h3]at h2;rw[hty,<-XD tys]at h1;obtain⟨pl,_,hu⟩:=h1.tup;rw[<-hu]at h2;have hent:=hsp.2 (S0 W) W args.toList [] pl true (fun b hb=>hb) h2 ie (by simp) hgl (law pl (by rw[hu];exact h1));have hcall:(callFunc f args).run P W=.ok (.enter f args) W:=by obtain⟨c,hb⟩:=Option.isSome_iff_exists.1 hbody;simp[callFunc,run_program,hfn,hb];intro e;rw[e]at hname;simp at hname
 rw[jY]at hent;rcases hent with⟨g',as',k1,k2⟩|⟨v,k1,_⟩
 .rw [hcall]at k1;obtain⟨⟨rfl,rfl⟩,_⟩:(f=g'/\args=as')/\True:=by simpa using k1
  refine k2.mono fun e W' hp=>?_;obtain⟨v,rfl,S',vu,fp1,fp2,rs,os,l',hway,rfl,fe,hsub,hlt,hrr,hrt',hnd,hb,hfrm⟩:=hp;obtain⟨rfl,e2⟩:=ap (ac hway);obtain⟨rfl,rfl⟩:=ap e2
  have hv:yv vu=.bool true:=by
   cases vu with
   |nil=>exact hrr.elim
   |cons v vu=>
    obtain⟨l1,l2,f1,f2,e1,_,h3,h4⟩:=hrr;cases vu with
    |cons _ _=>exact h4.elim
    |nil=>
     obtain⟨rfl,_⟩:=h4;rcases h3 with⟨e,_⟩|⟨cs,⟨_,y,rfl,h5⟩,h6⟩
     .cases e
     .cases e1;obtain rfl:cs=[.bool true]:=h5;exact(aB h6).1.symm
  refine⟨_,rfl,?_⟩;rw[hv];have hheap:∀b,b<W.heap.size->W'.heap[b]?=W.heap[b]?:=fun b hb=>fe.ju b hb;have hV':DataW.TrodVars en P W (fun _=>true) [] gs q:=by rw[<-hvars];exact hV
  obtain⟨rfl,rfl⟩:=trodVars_none hV'
  have hkept:∀may:MemPlace->Prop,W.keptBut W' may:=by
   intro may;refine⟨hfrm.io.1,hfrm.io.2.1,fun i hi=>?_⟩;have:=hheap i hi;rw[this];cases hx:W.heap[i]?with
   |none=>trivial
   |some o=>cases o<;>simp
  refine FQ (pa:=fK) (pv:=[]) hW (fun _ _ _=>?_) (fun sp hsp=>?_) (fun _ _=>?_) (by simp) (hkept _) hfrm.Sk ?_
  .rw [hspec.1,hrt];exact trodAll_cons_mk (shut_bool htb _) trodAll_mk0
  .rw [hspec.2.1];have hbp:fK=p:=by rw[hpq,bo]
   refine D8 hl hts (by rw[hbp];exact hA) (fun x hx=>?_) hsp;have hx':=hW.lt x hx;have hs:=hheap x.block hx';cases x with|cell b off=>exact yP hs off|map b=>exact hs
  .rw [hspec.2.2,hvars];rfl
  .exact ok_one hrt rfl (okWide_bool_mk htb _)
 .rw [hcall]at k1;simp at k1
theorem NZ{S:Nat->Prop}(h:∀g,Uc g=none):D2 S w:=fun g d hg=>by rw[h g]at hg;simp at hg
end
theorem Uk{a:Ty}{r:List Ty}{v:El a}{m l:List V}(h:Jg (a::r) l)(e:l=.x a v::m):xN a v/\Jg r m:=by obtain⟨v',m',h1,h2,h3⟩:=h;rw[e]at h1;obtain⟨h4,rfl⟩:=aB h1;cases h4;exact⟨h2,h3⟩
theorem L2{t:Ty}{s:Sl (El t)}(h:xN (.sl t) s):s.l.length<9223372036854775808:=by have:s.l.length<=2^63-1:=h.1.1;omega
open Go.Sort
open Go.Proofs (sortWorldK)
section
variable{P:Program}{S:Nat->Prop}{w w':World}{f:FuncId}
theorem Jf.ju(S:Nat->Prop)(w:World):Jf S w w<->∀b,S b->b<w.heap.size:=⟨fun h=>h.OD,fun h=>⟨h,fun _ _=>rfl,aq _,fun _ _=>rfl,fun b bz ho=>⟨bz,ho,rfl⟩,Io.refl _⟩⟩
theorem Left.plain{sp:dC}{z:xT sp.al}{t:Ty}{y:El t}{x:Value}(hw:OM sp.al z=some ([.x t],[],[.x t y]))(ht:iD t=false)(hr:RT S w t y [x])(hS:∀b,S b->b<w.heap.size):Left S w [] sp z [] x w:=⟨S,[x],[],[],_,_,_,hw,rfl,gC.refl _ _,fun b h=>.inl h,hS,⟨[_],[],[],[],rfl,rfl,.inr ⟨[x],⟨rfl,y,rfl,hr⟩,by rw[if_neg (by show¬iD t=true;rw[ht];simp)]⟩,rfl,rfl⟩,⟨rfl,rfl⟩,ie,fun b h=>by simp at h,(Jf.ju _ _).2 fun b h=>h.1⟩
theorem I7{t:Ty}{y:El t}{xs:List Value}{fp:List Nat}(ht:iD t=false)(h:KY S w [(false,.x t)] [.x t y] xs fp):∃x,xs=[x]/\fp=[]/\RT S w t y [x]:=by
 cases xs with
 |nil=>exact h.elim
 |cons x xs=>
  obtain⟨l1,l2,f1,f2,e1,e2,h1,_,h2⟩:=h;cases xs with
  |cons _ _=>exact h2.elim
  |nil=>
   obtain⟨rfl,rfl⟩:=h2;rcases h1 with⟨e,_⟩|⟨cs,⟨rfl,z,rfl,h3⟩,h4⟩
   .cases e
   .rw [if_neg (by show¬iD t=true;rw[ht];simp)]at h4;subst h4;cases e1;exact⟨x,rfl,by simpa using e2,h3⟩
def Us(P:Program)(f:Nat):Bool:=match P.funcs[f]?with
 |some fn=>!(fn.name== "runtime.NumGoroutine")&&fn.body.isNone&&(Extern.findNext fn).isNone
 |none=>false
def Ur(P:Program)(f:Nat):Option (Array Value->Sem Value):=match P.funcs[f]?with
 |some fn=>Extern.find fn
 |none=>none
theorem L7{e:Array Value->Sem Value}(h1:Us P f=true)(h2:Ur P f=some e)(args:Array Value){z:Value}(h:e args=pure z):(callFunc f args).run P w=.ok (.value z) w:=by
 unfold Us at h1;unfold Ur at h2;split at h1
 .rename_i fn hf;rw[hf]at h2;simp only[aw,fq,Option.isNone_iff_eq_none]at h1;have hn':fn.name≠ "runtime.NumGoroutine" :=by simpa using h1.1.1
  have hb':fn.body=none:=by simpa using h1.1.2
  have he:Extern.find fn=some e:=h2;simp[callFunc,hf,hn',hb',h1.2,he,h]
 .cases h1
def vN(n:Nat):Option Int:=bif(FloatKind.f64.format.read n).isNaN then none else some (n:Int)
def vM(n:Int):Option Nat:=some n.toNat
def DB(ro:Bool):dC:=⟨[(false,.x (.f .f64))],[([.x (.i .u64)],[])],ro,[],fun p=>vN p⟩
def DA(ro:Bool):dC:=⟨[(false,.x (.i .u64))],[([.x (.f .f64)],[])],ro,[],fun p=>vM p⟩
theorem KB{ro:Bool}(h1:Us P f=true)(h2:Ur P f=some Extern.MathFloatBits.float64bits):aN P f (DB ro):=by
 refine⟨fun _=>rfl,fun S w xs fp(p:Nat)(z:Int)hS hr _ _ _ hz=>?_⟩;obtain⟨x,rfl,rfl,m,e,hm⟩:=I7 (t:=.f .f64) (y:=p) rfl hr;obtain rfl:=(aB e).1;have hz:vN p=some z:=hz;unfold vN at hz;cases hc:(FloatKind.f64.format.read p).isNaN<;>rw[hc]at hz
 .cases hz;obtain rfl:m=p:=hm.resolve_right fun h=>by have:=h.1;unfold D5 at this;rw[hc]at this;cases this
  exact .inr ⟨.int .u64 (m:Int),L7 h1 h2 _ rfl,Left.plain (t:=.i .u64) rfl rfl rfl hS⟩
 .cases hz
theorem KA{ro:Bool}(h1:Us P f=true)(h2:Ur P f=some Extern.MathFloatBits.float64frombits):aN P f (DA ro):=by refine⟨fun _=>rfl,fun S w xs fp(p:Int)(z:Nat)hS hr _ _ _ hz=>?_⟩;obtain⟨x,rfl,rfl,e⟩:=I7 (t:=.i .u64) (y:=p) rfl hr;obtain rfl:=(aB e).1;obtain rfl:p.toNat=z:=ac hz;exact .inr ⟨.float .f64 p.toNat,L7 h1 h2 _ rfl,Left.plain (t:=.f .f64) rfl rfl ⟨_,rfl,.inl rfl⟩ hS⟩
end
section
variable{α:Type}[Inhabited α]{enc:α->List Value}{k:Nat}{w:World}{bP off n:Nat}{d:Array α}{os:Array Obj}
theorem FG{b:Nat}(hb:b<w.heap.size):(sortWorldK enc k w bP off n d os).heap[b]?=if bP=b then(w.heap[b]?).map (onCells (putCells id off (flatK enc k d)))else w.heap[b]?:=by unfold sortWorldK grow putRowK putRow mapBlock;simp only[heap_ahead];rw[Array.getElem?_append_left (by simpa using hb),Array.getElem?_modify]
theorem Cf:w.heap.size<=(sortWorldK enc k w bP off n d os).heap.size:=by unfold sortWorldK grow putRowK putRow mapBlock;simp
theorem zg{b:Nat}(hb:b<w.heap.size)(hne:b≠bP):(sortWorldK enc k w bP off n d os).heap[b]?=w.heap[b]?:=by rw[FG hb,if_neg (Ne.symm hne)]
theorem FF{bz:Array Value}(ho:pi w bP bz):pi (sortWorldK enc k w bP off n d os) bP (putCells id off (flatK enc k d) bz):=by have hlt:=ho.lt;obtain⟨t,h⟩:=ho;exact⟨t,by rw[FG hlt,if_pos rfl,h];rfl⟩
theorem MP{a:Addr}(ha:a.block<w.heap.size):(sortWorldK enc k w bP off n d os).frozen? a=w.frozen? a:=by
 unfold World.frozen?;rw[FG ha];by_cases e:bP=a.block
 .rw [if_pos e];cases w.heap[a.block]?with
  |none=>rfl
  |some o=>cases o<;>rfl
 .rw [if_neg e]
theorem FS(bz F:Array Value):(putCells id off F bz).size=bz.size:=by simp[putCells]
theorem WO{bz F:Array Value}{j:Nat}(hj:j<F.size)(hk:off+F.size<=bz.size):(putCells id off F bz)[off+j]?=some F[j]!:=by unfold putCells;rw[Array.getElem?_mapIdx,Array.getElem?_eq_getElem (by omega)];simp only[Option.map_some,fh];rw[if_pos ⟨by omega,by omega⟩,Nat.add_sub_cancel_left];rfl
theorem O8{bz:Array Value}(ho:pi w bP bz):Jf (fun c=>c<w.heap.size/\c∉[bP]) w (sortWorldK enc k w bP off n d os):=
 ⟨fun c hc=>hc.1,fun c hc=>zg hc.1 fun e=>hc.2 (by rw[e];simp),Cf,fun a ha=>MP ha,fun c a hc=>by
  by_cases e:c=bP
  .subst e;obtain rfl:=hc.xK ho;exact⟨_,FF hc,FS _ _⟩
  .exact ⟨a,hc.ju (zg hc.lt e),rfl⟩,rfl,rfl,rfl,by simp⟩
theorem Vn{S:Nat->Prop}(hS:∀c,S c->c<w.heap.size):∀c,S c->c<(sortWorldK enc k w bP off n d os).heap.size:=fun c hc=>bY (hS c hc) Cf
end
section
variable{P:Program}{f g:FuncId}{t:Ty}{vals:El t->List Value}
def DV(t:Ty)(vals:El t->List Value):Prop:=∀{S:Nat->Prop}{w:World}{x:El t}{c:List Value},RT S w t x c<->c=vals x
theorem y_(hv:DV t vals)(x:El t):(vals x).length=df t:=RT.len (S:=fun _=>False) (w:=⟨#[],fun _ _=>0,0,default,default⟩) (hv.2 rfl)
theorem yZ(hv:DV t vals){S:Nat->Prop}{w:World}:∀{l:List (El t)}{c:List Value},lC (RT S w t) l c<->c=l.flatMap vals:=by
 intro l;induction l with
 |nil=>intro c;exact Iff.rfl
 |cons x l ih=>
  intro c;constructor
  .rintro ⟨a,b,rfl,h1,h2⟩;rw[hv.1 h1,ih.1 h2,eF]
  .rintro rfl;exact⟨_,_,rfl,hv.2 rfl,ih.2 rfl⟩
theorem ID{α β:Type}{f:α->List β}{k:Nat}(hf:∀x,(f x).length=k):∀(l:List α)(i r:Nat),r<k->(l.flatMap f)[i*k+r]?=(l[i]?).bind fun x=>(f x)[r]?:=by
 intro l;induction l with
 |nil=>intro i r _;simp
 |cons x l ih=>intro i r hr;rw[eF];cases i with|zero=>rw[List.getElem?_append_left (by rw[hf];omega)];simp|succ i=>rw[List.getElem?_append_right (by rw[hf,fj];omega),hf,fj,show i*k+k+r-k=i*k+r by omega,ih i r hr];simp
theorem IC{α β:Type}{f:α->List β}{k:Nat}(hf:∀x,(f x).length=k)(l:List α):(l.flatMap f).length=l.length*k:=by induction l with|nil=>simp|cons x l ih=>rw[eF,aA,hf,ih,List.length_cons,fj];omega
theorem IB(hv:DV t vals)(hs:0<df t)(l:List (El t)){j:Nat}(hj:j<l.length*df t):(l.flatMap vals)[j]?=some (flatK vals (df t) l.toArray)[j]!:=by
 have hq:j/df t<l.length:=Nat.div_lt_of_lt_mul (by rwa[iN]at hj);have hm:j %df t<df t:=Nat.mod_lt _ hs;have h:=ID (y_ hv) l (j/df t) (j %df t) hm;rw[iN,Nat.div_add_mod]at h;rw[h,get_flatK _ _ _ _ (by simpa using hj),bf hq];have h3:l.toArray[j/df t]! =l[j/df t]:=by simp[hq]
 rw[h3,Option.bind_some,bf (by rw[y_ hv];exact hm),List.getElem!_eq_getElem?_getD,bf (by rw[y_ hv];exact hm)];rfl
theorem row_holds(hv:DV t vals)(hs:0<df t){w:World}{b off:Nat}{bz:Array Value}{l:List (El t)}(ho:pi w b bz)(ha:At w b off (l.flatMap vals)):HoldsK vals (df t) w b off l.toArray:=by intro j hj;rw[size_flatK,List.size_toArray]at hj;exact⟨ha.get (IB hv hs l hj),ho.frozen _ _⟩
theorem PD(hv:DV t vals)(hs:0<df t){w:World}{b off n:Nat}{bz:Array Value}{os:Array Obj}{d:List (El t)}(ho:pi w b bz)(hext:off+d.length*df t<=bz.size):At (sortWorldK vals (df t) w b off n d.toArray os) b off (d.flatMap vals):=by
 refine Se fun i v hi=>?_;have hlt:i<d.length*df t:=by rw[<-IC (y_ hv)];exact(aV.1 hi).1
 rw[(FF ho).cell,WO (by rw[size_flatK];simpa using hlt) (by rw[size_flatK];simpa using hext),<-IB hv hs d hlt];exact hi
theorem Vt{S:Nat->Prop}{w:World}{s:Sl (El t)}{x:Value}{fp:List Nat}(h:EF S w (.os t) [.x (.sl t) s] x fp):
  (s=.nil/\x=.slice none 0 0/\fp=[])\/∃(r:List (El t))(lo:nF)(bz:Array Value)(d:List Value)(addr:Nat),s=.mk r/\lo.t=t/\kS t=true/\0<df t/\pi w lo.bP bz/\bz.size=lo.ext/\r.length<=lo.cap/\lo.gN+r.length*df t<=lo.ext/\lC (RT S w t) r d/\At w lo.bP lo.gN d/\
   x=.slice (some ⟨lo.bP,addr,none⟩) r.length lo.cap/\(0<lo.cap->addr=lo.gN)/\addr+lo.cap*df t<=lo.ext/\fp=[lo.bP]:=by
 rcases h with⟨e,_⟩|⟨c,⟨s',e,h1⟩,h2⟩
 .cases e
 cases e;have h2:c=[x]:=h2;subst h2;rcases h1 with⟨rfl,h3,rfl⟩|⟨lo,h3,h4,rfl⟩
 .exact .inl ⟨rfl,(aB h3).1,rfl⟩
 .obtain ⟨k1,k2,k3,k4,k5⟩:=h3;rw[k2]at h4;cases s with
  |nil=>exact .inl ⟨rfl,(aB h4).1,rfl⟩
  |mk r=>
   obtain⟨bz,d,q1,q2,q3,q4,q5,q6⟩:=k5 r rfl;obtain⟨addr,cap,e1,e2,e3,e4,e5⟩:=h4;obtain rfl:cap=lo.cap:=by omega
   rw[k1]at e4 e5;exact .inr ⟨r,lo,bz,d,addr,rfl,k1,k3,k4,q1,q2,q3,q4,q5,q6,(aB e1).1,fun h=>by have:=e4 h;omega,e5,rfl⟩
theorem J1{S:Nat->Prop}{w:World}:EF S w (.os t) [.x (.sl t) (.nil:Sl (El t))] (.slice none 0 0) []:=.inr ⟨_,⟨.nil,rfl,.inl ⟨rfl,rfl,rfl⟩⟩,rfl⟩
theorem C7{S:Nat->Prop}{w:World}{r:List (El t)}{lo:nF}{bz:Array Value}{d:List Value}{addr:Nat}(h1:kS t=true)(h2:0<df t)(h3:pi w lo.bP bz)(h4:bz.size=lo.ext)(h5:r.length<=lo.cap)(h6:lo.gN+r.length*df t<=lo.ext)(h7:lC (RT S w t) r d)(h8:At w lo.bP lo.gN d)(h9:0<lo.cap->addr=lo.gN)(h10:addr+lo.cap*df t<=lo.ext):
  EF S w (.os t) [.x (.sl t) (.mk r:Sl (El t))] (.slice (some ⟨lo.bP,addr,none⟩) r.length lo.cap) [lo.bP]:=
 .inr ⟨_,⟨.mk r,rfl,.inr ⟨⟨lo.bP,lo.gN,lo.ext,lo.cap,t,some r.length⟩,⟨rfl,rfl,h1,h2,fun r' e=>by cases e;exact⟨bz,d,h3,h4,h5,h6,h7,h8⟩⟩,⟨addr,lo.cap,rfl,h5,by simp,fun h=>by simpa using h9 h,h10⟩,rfl⟩⟩,rfl⟩
def tM{α:Type}(srt:Array α->Array α)(s:Sl α):Option (Sl α):=bif gE s.l.length 4611686018427387904 then some (s.to (srt s.l.toArray).toList)else none
def N9{α:Type}(fn:List α->List α)(s:Sl α):Option (Sl α):=bif gE s.l.length 4611686018427387904 then some (s.to (fn s.l))else none
def xu(t:Ty)(g:FuncId)(srt:Array (El t)->Array (El t)):dC:=⟨[(true,.os t),(false,.fn g .ni)],[([],[.os t])],false,[true,false],fun p=>match p with|s=>tM srt s⟩
def uJ(t:Ty)(srt:Array (El t)->Array (El t)):dC:=⟨[(true,.os t)],[([],[.os t])],false,[true],fun p=>match p with|s=>tM srt s⟩
def KF(t:Ty)(fn:List (El t)->List (El t)):dC:=⟨[(true,.os t)],[([.os t],[.gn])],false,[true],fun p=>match p with|s=>N9 fn s⟩
theorem ET(hv:DV t vals){S:Nat->Prop}{w:World}(hS:∀c,S c->c<w.heap.size){sp:dC}{srt:Array (El t)->Array (El t)}(hsz:∀d,(srt d).size=d.size){s:Sl (El t)}{z:xT sp.al}{x:Value}{fp:List Nat}{R:Value->World->Prop}
  (hx:EF S w (.os t) [.x (.sl t) s] x fp) (hw:OM sp.al z=some ([],[.os t],[.x (.sl t) (s.to (srt s.l.toArray).toList)])) (hn:s.l.length<4611686018427387904) (hfp:∀b∈fp,¬S b/\b<w.heap.size)
  (hcon:∀(bP off cap:Nat)(d:Array (El t)),HoldsK vals (df t) w bP off d->bP<w.heap.size->d.size<4611686018427387904->¬S bP->x=.slice (some ⟨bP,off,none⟩) d.size cap->(∀n os,Left S w fp sp z [x] (.tuple #[]) (sortWorldK vals (df t) w bP off n (srt d) os))->R x w)
  (hnil:∀(p:Option Addr)(cap:Nat),x=.slice p 0 cap->Left S w fp sp z [x] (.tuple #[]) w->R x w):R x w:=by
 rcases Vt hx with⟨rfl,rfl,rfl⟩|⟨r,lo,bz,d,addr,rfl,k1,k2,k3,k4,k5,k6,k7,k8,k9,rfl,k10,k11,rfl⟩
 .refine hnil none 0 rfl ⟨S,[],[],[],_,_,_,hw,rfl,gC.refl _ _,fun b h=>.inl h,hS,⟨rfl,rfl⟩,⟨[_],[],[],[],rfl,rfl,J1,rfl,rfl⟩,ie,fun b h=>by simp at h,(Jf.ju _ _).2 fun b h=>h.1⟩
 .obtain ⟨hSb,_⟩:=hfp lo.bP (by simp);cases r with
  |nil=>
   have e0:(srt #[]).toList=[]:=by have:=hsz #[];exact List.length_eq_zero_iff.1 (by simpa using this)
   refine hnil _ _ rfl ⟨S,[],[],[lo.bP],_,_,_,hw,rfl,gC.refl _ _,fun b h=>.inl h,hS,⟨rfl,rfl⟩,⟨[_],[],[lo.bP],[],rfl,rfl,?_,rfl,rfl⟩,by simp,fun b h=>?_,(Jf.ju _ _).2 fun b h=>h.1⟩
   .show EF S _ (.os t) [.x (.sl t) (.mk (srt #[]).toList:Sl (El t))] _ _;rw[e0];exact C7 k2 k3 k4 k5 k6 k7 k8 k9 k10 k11
   .obtain rfl:=az.1 (by simpa using h);exact⟨hSb,.inl (by simp),k4.lt⟩
  |cons y r=>
   have hb:addr=lo.gN:=k10 (by simp at k6;omega);subst hb;obtain rfl:=(yZ hv).1 k8;refine hcon lo.bP lo.gN lo.cap (y::r).toArray (row_holds hv k3 k4 k9) k4.lt (by simpa[Sl.l]using hn) hSb (by simp) fun n os=>?_;have hlen:(srt (y::r).toArray).toList.length=(y::r).length:=by rw[eY,hsz];simp
   refine⟨S,[],[],[lo.bP],_,_,_,hw,rfl,⟨fun _ h=>h,fun c hc=>zg (hS c hc) fun e=>hSb (e▸hc)⟩,fun c h=>.inl h,Vn hS,⟨rfl,rfl⟩,⟨[_],[],[lo.bP],[],rfl,rfl,?_,rfl,rfl⟩,by simp,fun c h=>?_,O8 k4⟩
   .have hat:=PD (n:=n) (os:=os) (d:=(srt (y::r).toArray).toList) hv k3 k4 (by rw[hlen,k5];exact k7);rw[jY]at hat;have:=C7 (S:=S) (lo:=lo) (r:=(srt (y::r).toArray).toList) k2 k3 (FF (n:=n) (os:=os) (d:=srt (y::r).toArray) (enc:=vals) (k:=df t) (off:=lo.gN) k4) (by rw[FS];exact k5) (by rw[hlen];exact k6) (by rw[hlen];exact k7) ((yZ hv).2 rfl) hat k10 k11;rw[hlen]at this;exact this
   .obtain rfl:=az.1 (by simpa using h);exact⟨hSb,.inl (by simp),bY k4.lt Cf⟩
theorem SK(hv:DV t vals)(srt:Array (El t)->Array (El t))(hsz:∀d,(srt d).size=d.size)(henter:∀args w,(callFunc f args).run P w=.ok (.enter f args) w)
  (hcon:∀(S:Nat->Prop)(bP off cap:Nat)(d:Array (El t))(w:World),HoldsK vals (df t) w bP off d->bP<w.heap.size->d.size<4611686018427387904->(∀c,S c->c<w.heap.size)->¬S bP->D2 S w->
   Calls P f #[.slice (some ⟨bP,off,none⟩) d.size cap,.func (.func g) #[] #[]] w fun e w'=>e=.returned (.tuple #[])/\∃n os,w'=sortWorldK vals (df t) w bP off n (srt d) os)
  (hnil:∀(p:Option Addr)(cap:Nat)(fv:Value)(w:World),Calls P f #[.slice p 0 cap,fv] w fun e w'=>e=.returned (.tuple #[])/\w'=w):aN P f (xu t g srt):=by
 refine⟨(fun h=>nomatch h),fun S w xs fp(p:Sl (El t))z hS hr hnd hfp hgl hz=>?_⟩;have hz:tM srt p=some z:=hz;obtain⟨hl,hz⟩:=aC hz;cases hz;have hl:p.l.length<4611686018427387904:=by simpa[eA]using hl
 cases xs with
 |nil=>exact hr.elim
 |cons x xs=>
 cases xs with
 |nil=>obtain⟨_,_,_,_,_,_,_,_,h⟩:=hr;exact h.elim
 |cons u xs=>
 cases xs with
 |cons _ _=>obtain⟨_,_,_,_,_,_,_,_,_,_,_,_,_,_,_,_,h⟩:=hr;exact h.elim
 |nil=>
  obtain⟨l1,l2,f1,f2,e1,rfl,h1,_,l3,l4,f3,f4,rfl,rfl,h2,h3,rfl,rfl⟩:=hr;obtain rfl:=h3 rfl
  have hu:u=.func (.func g) #[] #[]/\l3=[]:=by
   rcases h2 with⟨e,_⟩|⟨c,⟨d,rfl,rfl,rfl,_⟩,h4⟩
   .cases e
   .exact ⟨(aB h4).1.symm,rfl⟩
  obtain⟨rfl,rfl⟩:=hu;obtain rfl:[V.x (.sl t) p]=l1:=by have h:[V.x (.sl t) p]=l1++[]:=e1;simpa using h
  simp only[bo]at hfp|-;refine ET (R:=fun x w=>GJ P f [x,.func (.func g) #[] #[]].toArray w (Left S w f1 (xu t g srt) _ (tU (xu t g srt).ps [x,.func (.func g) #[] #[]]))) (sp:=xu t g srt) hv hS hsz h1 rfl hl hfp (fun bP off cap d hH hb hd hSb ex hL=>?_) fun p cap ex hL=>?_
  .subst ex;refine .inl ⟨f,_,henter _ _,(hcon S bP off cap d w hH hb hd hS hSb hgl).mono ?_⟩;rintro e w' ⟨rfl,n,os,rfl⟩;exact⟨_,rfl,hL n os⟩
  .subst ex;refine .inl ⟨f,_,henter _ _,(hnil p cap _ w).mono ?_⟩;rintro e w' ⟨rfl,rfl⟩;exact⟨_,rfl,hL⟩
theorem Pf(hv:DV t vals)(srt:Array (El t)->Array (El t))(hsz:∀d,(srt d).size=d.size)(henter:∀args w,(callFunc f args).run P w=.ok (.enter f args) w)
  (hcon:∀(bP off cap:Nat)(d:Array (El t))(w:World),HoldsK vals (df t) w bP off d->bP<w.heap.size->d.size<4611686018427387904->
   Calls P f #[.slice (some ⟨bP,off,none⟩) d.size cap] w fun e w'=>e=.returned (.tuple #[])/\∃n os,w'=sortWorldK vals (df t) w bP off n (srt d) os)
  (hnil:∀(p:Option Addr)(cap:Nat)(w:World),Calls P f #[.slice p 0 cap] w fun e w'=>e=.returned (.tuple #[])/\w'=w):aN P f (uJ t srt):=by
 refine⟨(fun h=>nomatch h),fun S w xs fp(p:Sl (El t))z hS hr hnd hfp hgl hz=>?_⟩;have hz:tM srt p=some z:=hz;obtain⟨hl,hz⟩:=aC hz;cases hz;have hl:p.l.length<4611686018427387904:=by simpa[eA]using hl
 cases xs with
 |nil=>exact hr.elim
 |cons x xs=>
 cases xs with
 |cons _ _=>obtain⟨_,_,_,_,_,_,_,_,h⟩:=hr;exact h.elim
 |nil=>
  obtain⟨l1,l2,f1,f2,e1,rfl,h1,_,rfl,rfl⟩:=hr;obtain rfl:[V.x (.sl t) p]=l1:=by have h:[V.x (.sl t) p]=l1++[]:=e1;simpa using h
  simp only[bo]at hfp|-;refine ET (R:=fun x w=>GJ P f [x].toArray w (Left S w f1 (uJ t srt) _ (tU (uJ t srt).ps [x]))) (sp:=uJ t srt) hv hS hsz h1 rfl hl hfp (fun bP off cap d hH hb hd hSb ex hL=>?_) fun p cap ex hL=>?_
  .subst ex;refine .inl ⟨f,_,henter _ _,(hcon bP off cap d w hH hb hd).mono ?_⟩;rintro e w' ⟨rfl,n,os,rfl⟩;exact⟨_,rfl,hL n os⟩
  .subst ex;refine .inl ⟨f,_,henter _ _,(hnil p cap w).mono ?_⟩;rintro e w' ⟨rfl,rfl⟩;exact⟨_,rfl,hL⟩
theorem XA(hv:DV t vals)(fn:List (El t)->List (El t))(hfn:fn []=[])(henter:∀args w,(callFunc f args).run P w=.ok (.enter f args) w)
  (hcon:∀(bP off cap:Nat)(l:List (El t))(w:World),HoldsK vals (df t) w bP off l.toArray->bP<w.heap.size->l.length<4611686018427387904->l.length<=cap->
   Calls P f #[.slice (some ⟨bP,off,none⟩) l.length cap] w fun e w'=>e=.returned (.slice (some ⟨bP,off,none⟩) (fn l).length cap)/\∃n os bh,(fn l++bh).length=l.length/\w'=sortWorldK vals (df t) w bP off n (fn l++bh).toArray os)
  (hnil:∀(p:Option Addr)(cap:Nat)(w:World),Calls P f #[.slice p 0 cap] w fun e w'=>e=.returned (.slice p 0 cap)/\w'=w):aN P f (KF t fn):=by
 refine⟨(fun h=>nomatch h),fun S w xs fp(p:Sl (El t))z hS hr hnd hfp hgl hz=>?_⟩;have hz:N9 fn p=some z:=hz;obtain⟨hl,hz⟩:=aC hz;cases hz;have hl:p.l.length<4611686018427387904:=by simpa[eA]using hl
 cases xs with
 |nil=>exact hr.elim
 |cons x xs=>
 cases xs with
 |cons _ _=>obtain⟨_,_,_,_,_,_,_,_,h⟩:=hr;exact h.elim
 |nil=>
  obtain⟨l1,l2,f1,f2,e1,rfl,h1,_,rfl,rfl⟩:=hr;obtain rfl:[V.x (.sl t) p]=l1:=by have h:[V.x (.sl t) p]=l1++[]:=e1;simpa using h
  simp only[bo]at hfp|-;rcases Vt h1 with⟨rfl,rfl,rfl⟩|⟨r,lo,bz,d,addr,rfl,k1,k2,k3,k4,k5,k6,k7,k8,k9,rfl,k10,k11,rfl⟩
  .refine .inl ⟨f,_,henter _ _,(hnil none 0 w).mono ?_⟩;rintro e w' ⟨rfl,rfl⟩;exact⟨_,rfl,S,[_],[],[],_,_,_,rfl,rfl,gC.refl _ _,fun b h=>.inl h,hS,⟨[_],[],[],[],rfl,rfl,J1,rfl,rfl⟩,⟨[],[],[],[],rfl,rfl,.inl ⟨rfl,rfl,rfl⟩,rfl,rfl⟩,ie,fun b h=>by simp at h,(Jf.ju _ _).2 fun b h=>h.1⟩
  .obtain ⟨hSb,_⟩:=hfp lo.bP (by simp);cases r with
   |nil=>
    refine .inl ⟨f,_,henter _ _,(hnil _ _ w).mono ?_⟩;rintro e w' ⟨rfl,rfl⟩;refine⟨_,rfl,S,[_],[lo.bP],[],_,_,_,rfl,rfl,gC.refl _ _,fun b h=>.inl h,hS,⟨[_],[],[lo.bP],[],rfl,rfl,?_,rfl,rfl⟩,⟨[],[],[],[],rfl,rfl,.inl ⟨rfl,rfl,rfl⟩,rfl,rfl⟩,by simp,fun b h=>?_,(Jf.ju _ _).2 fun b h=>h.1⟩
    .show EF S _ (.os t) [.x (.sl t) (.mk (fn []):Sl (El t))] _ _;rw[hfn];exact C7 k2 k3 k4 k5 k6 k7 k8 k9 k10 k11
    .obtain rfl:=az.1 (by simpa using h);exact⟨hSb,.inl (by simp),k4.lt⟩
   |cons y r=>
    have hb:addr=lo.gN:=k10 (by simp at k6;omega);subst hb;obtain rfl:=(yZ hv).1 k8;refine .inl ⟨f,_,henter _ _,(hcon lo.bP lo.gN lo.cap (y::r) w (row_holds hv k3 k4 k9) k4.lt hl k6).mono ?_⟩;rintro e w' ⟨rfl,n,os,bh,hrest,rfl⟩;have hle:(fn (y::r)).length<=(y::r).length:=by rw[<-hrest,aA];omega
    have hle2:(fn (y::r)).length*df t<=(y::r).length*df t:=ct _ hle;refine⟨_,rfl,S,[_],[lo.bP],[],_,_,_,rfl,rfl,⟨fun _ h=>h,fun c hc=>zg (hS c hc) fun e=>hSb (e▸hc)⟩,fun c h=>.inl h,Vn hS,⟨[_],[],[lo.bP],[],rfl,rfl,?_,rfl,rfl⟩,⟨[],[],[],[],rfl,rfl,.inl ⟨rfl,rfl,rfl⟩,rfl,rfl⟩,by simp,fun c h=>?_,O8 k4⟩
    .have hat:=PD (n:=n) (os:=os) (d:=fn (y::r)++bh) hv k3 k4 (by rw[hrest,k5];exact k7);rw[List.flatMap_append]at hat;exact C7 (S:=S) (lo:=lo) (r:=fn (y::r)) k2 k3 (FF (n:=n) (os:=os) (d:=(fn (y::r)++bh).toArray) (enc:=vals) (k:=df t) (off:=lo.gN) k4) (by rw[FS];exact k5) (by omega) (by omega) ((yZ hv).2 rfl) (xJ.1 hat).1 k10 k11
    .obtain rfl:=az.1 (by simpa using h);exact⟨hSb,.inl (by simp),bY k4.lt Cf⟩
end
open Go.RowKit Go.Maps Go.Shelf
def NS(x:Int):List Int->List Int
 |[]=>[x]
 |y::r=>bif decide (x<=y)then x::y::r else y::NS x r
def qA:List Int->List Int
 |[]=>[]
 |x::r=>NS x (qA r)
theorem AY(x:Int):∀l,(NS x l).Perm (x::l)
 |[]=>.refl _
 |y::r=>by
  unfold NS;cases decide (x<=y)
  .exact ((AY x r).cons y).trans (.swap x y r)
  .exact .refl _
theorem q_:∀l,(qA l).Perm l
 |[]=>.refl _
 |x::r=>(AY x _).trans ((q_ r).cons x)
theorem BE(x:Int):∀l,l.Pairwise (·<=·)->(NS x l).Pairwise (·<=·)
 |[],_=>List.pairwise_singleton _ _
 |y::r,h=>by
  unfold NS;obtain⟨h1,h2⟩:=fD.1 h;cases e:decide (x<=y)
  .have e:¬x<=y:=of_decide_eq_false e;refine fD.2 ⟨fun z hz=>?_,BE x r h2⟩;rcases aI.1 ((AY x r).mem_iff.1 hz)with rfl|hz
   .omega
   .exact h1 z hz
  .have e:x<=y:=of_decide_eq_true e;refine fD.2 ⟨fun z hz=>?_,h⟩;rcases aI.1 hz with rfl|hz
   .exact e
   .have:=h1 z hz;omega
theorem yb:∀l,(qA l).Pairwise (·<=·)
 |[]=>.nil
 |x::r=>BE x _ (yb r)
theorem ES{ss L:List Int}(h:ss.Perm L):ss.mergeSort (fun x y=>decide (x<=y))=qA L:=(mergeSort_of_perm_i (h.trans (q_ L).symm)).trans (List.mergeSort_of_pairwise ((yb L).imp fun h=>decide_eq_true h))
def Ov{ν:Type}(m:Mp Int ν):Prop:=m.es.length<=1000000/\(∀e∈m.es,e.2.2<m.ce/\-9223372036854775808<=e.1/\e.1<=9223372036854775807)/\(m.es.map (·.2.2)).Nodup/\(m.es.map (·.1)).Nodup
instance{ν:Type}(m:Mp Int ν):Decidable (Ov m):=inferInstanceAs (Decidable (_/\_/\_/\_))
def E9{ν:Type}(m:Mp Int ν):Bool:=decide (Ov m)
def Dm{ν:Type}:List (Int×ν×Nat)->Sl Int
 |[]=>.nil
 |es=>.mk (qA (es.map (·.1)))
def nW{ν:Type}(m:Mp Int ν):Sl Int:=Dm m.es
section
variable{P:Program}{S K:Nat->Prop}{w0 w:World}{φ:fM}{H:Hf}{v:Ty}
theorem Fx{es:List (Int×El v×Nat)}:∀{ms:List MapEntry},kO S w (.i .i64) v es ms->ms.map (·.key)=(es.map (·.1)).map (Value.int .i64)/\ms.map (·.born)=es.map (·.2.2):=by
 induction es with
 |nil=>intro ms h;cases ms<;>first|exact⟨rfl,rfl⟩|exact h.elim
 |cons e es ih=>intro ms h;cases ms with|nil=>exact h.elim|cons m ms=>obtain⟨⟨c,d,h1,h2,_,_,h5⟩,h6⟩:=h;obtain⟨k1,k2⟩:=ih h6;obtain rfl:c=[Value.int .i64 e.1]:=h1;exact⟨by rw[a_,a_,a_,k1,h2];rfl,by rw[a_,a_,k2,h5]⟩
theorem TP{ti:TypeId}(hti:P.underlying ti=some (.int .i64)){l:nF}{m:Mp Int (El v)}(hro:RO S w φ l (.mp (.i .i64) v m))(hm:Ov m):
  ∃(nn:Nat)(D0:DataW Unit)(R:Value->Option (DataW Unit×List MemPlace)),w.ownsMap P ti R l.bP nn D0/\Maps.size D0<=1000000/\(intKeys D0).Perm (m.es.map (·.1)):=by
 obtain⟨n1,n2,n3,n4⟩:=hm;obtain⟨_,_,ms,hob,hE⟩:=hro;obtain⟨hkeys,hborn⟩:=Fx hE;have hl:ms.size=m.es.length:=by have:=congrArg List.length hkeys;simpa using this
 have hkx:∀x∈ms.toList,∃a,x.key=.int .i64 a/\keyOf P ti x.key=some (.int .i64 a):=fun x hx=>by have:x.key∈ms.toList.map (·.key):=aL.2 ⟨x,hx,rfl⟩;rw[hkeys]at this;obtain⟨a,ha,e⟩:=aL.1 this;obtain⟨en,hen',rfl⟩:=aL.1 ha;have:=n2 en hen';refine⟨en.1,e.symm,e▸keyOf_int_mk hti ?_⟩;simp only[Lit.wf,aw,decide_eq_true_eq];exact⟨this.2.1,this.2.2⟩
 let R:Value->Option (DataW Unit×List MemPlace):=fun _=>some (.nil,[])
 have hrg:∀x∈ms.toList,∀a,x.key=.int .i64 a->WideElems.rd P ti R x=some (.int .i64 a,.nil):=fun x hx a ha=>by
  obtain⟨a',h1,h2⟩:=hkx x hx;obtain rfl:a'=a:=by rw[h1]at ha;simpa using ha
  simp[WideElems.rd,h2,R]
 have hfit:WideElems.Fit P ti R ms m.ce:=by
  refine⟨?_,⟨fun x hx=>?_,?_,?_⟩,fun x hx=>?_⟩
  .have:ms.size<=1000000:=by omega
   simp only[maxLen];omega
  .have:x.born∈ms.toList.map (·.born):=aL.2 ⟨x,hx,rfl⟩;rw[hborn]at this;obtain⟨e,he,e2⟩:=aL.1 this;exact e2▸(n2 e he).1
  .rw [hborn];exact n3
  .rw [hkeys];exact lW.map _ (fun a b hab e=>hab (by simpa using e)) n4
  .obtain ⟨a,h1,_⟩:=hkx x hx;exact⟨_,hrg x hx a h1⟩
 refine⟨ms.size,.map ((ms.toList.map (WideElems.rg P ti R)).foldr DataW.insert []),R,⟨ms,m.ce,hob,hfit,aq _,rfl⟩,?_,?_⟩
 .rw [Maps.size_eq,(WideShapes.sorted_perm _).length_eq,List.length_map,eY];omega
 .have hp:=((WideShapes.sorted_perm (ms.toList.map (WideElems.rg P ti R))).map fun(p:Lit×DataW Unit)=>Go.intOf p.1)
  refine hp.trans (.of_eq ?_);have h3:(ms.toList.map (WideElems.rg P ti R)).map (fun p=>Go.intOf p.1)=ms.toList.map fun x=>(match x.key with|.int _ a=>a|_=>0):=by rw[jV];refine List.map_congr_left fun x hx=>?_;obtain⟨a,h1,_⟩:=hkx x hx;simp[WideElems.rg,hrg x hx a h1,Go.intOf,h1]
  have h4:(ms.toList.map fun x=>(match x.key with|.int _ a=>a|_=>0))=(ms.toList.map (·.key)).map fun k=>(match k with|Value.int _ a=>a|_=>0):=by rw[jV];rfl
  rw[h3,h4,hkeys,jV];exact List.map_id'' (fun x=>rfl) _
theorem Gt{o:Oper}{a:Act}{c:Go.Call}{fop:Operand}{f:FuncId}{d:List Value}(ho:o.op=.call c)(hcal:c.callee=.value fop)(hfe:a.eval fop=.func (.func f) #[] d.toArray){xs:List Value}(hxs:c.args.toList.map a.eval=xs){R:Value->World->Prop}(hent:GJ P f (xs++d).toArray w R)
  {next:Act->World->Prop} {Q:Exit->Act->World->Prop} (hn:∀val w',R val w'->next (a.put o.dst val) w'):o.wp P a w next Q:=by
 subst hxs
 have hrun:∀r,(callFunc f (c.args.toList.map a.eval++d).toArray).run P w=r->(execOp a.eval o).run P w=r:=by
  intro r hr;have e1:(#[]++c.args.map a.eval)++d.toArray=(c.args.toList.map a.eval++d).toArray:=by apply Array.ext';simp
  simp only[execOp,ho,Sem.run_bind,resolve,hcal,hfe,Deferred.ofValue,Sem.run_pure,Result.andThen_ok,invoke,e1];exact hr
 unfold Oper.wp;rcases hent with⟨g,as',hr,hc⟩|⟨val,hr,hleft⟩
 .rw [hrun _ hr,Oper.upon_enter];refine hc.mono fun en w' hR=>?_;obtain⟨val,rfl,hleft⟩:=hR;exact hn val w' hleft
 .rw [hrun _ hr];exact hn val w hleft
def QI(fc:FuncId):Hk:=⟨fun f vs h n k=>match f,vs with
 |.fn _ _ .ni,[.om id]=>(match fO h id with
  |some (.mp kt vt _)=>k (.fn false fc (.co (.op n (.mp kt vt) []) .ni)) [(n,some (.bx (.mp kt vt) (.om id)))] (n+1) []
  |_=>none)
 |_,_=>none⟩
theorem NN{fk fc:FuncId}{tc:TypeId}(hen:∀args w,(callFunc fk args).run P w=.ok (.enter fk args) w)
  (hk:∀(mb:Option Nat)(W:World),Calls P fk #[.map mb] W fun e w'=>e=.returned (.func (.func fc) #[] #[.pointer (some ⟨W.heap.size,0,none⟩)])/\w'=W.alloc (.cells #[.map mb] tc)):EJ P fk (QI fc):=by
 intro o c fop z caps vs h n β kk r ho hcal hS hv hr;cases caps<;>first|(cases hr;done)|skip
 cases vs with
 |nil=>cases hr
 |cons v vs=>
 cases v<;>first|(cases hr;done)|skip
 cases vs<;>first|(cases hr;done)|skip
 rename_i id;change (match fO h id with|some (.mp kt vt _)=>kk (.fn false fc (.co (.op n (.mp kt vt) []) .ni)) [(n,some (.bx (.mp kt vt) (.om id)))] (n+1) []|_=>none)=some r at hr;split at hr<;>first|(cases hr;done)|skip
 rename_i kt vt m hm;have hid:id<n:=hS.lt _ _ hm;refine⟨_,_,_,_,hr,aO _,jS.cons (fun _ _=>.inl (aq _)) jS.nil,⟨aM _,trivial⟩,fun p hp t c e=>?_,fun p hp=>?_,?_⟩
 .obtain rfl:=az.1 hp;cases e;show id<n+1;omega
 .obtain rfl:=az.1 hp;exact .inl ⟨aM _,trivial⟩
 .intro a S K w0 w φ H hI hsh har hag hfr next Q hn
  obtain⟨cf,⟨d,rfl,k3⟩,k2⟩:=har.1;obtain rfl:d=[]:=k3;have hfe:a.eval fop=.func (.func fk) #[] #[]:=by have:[Value.func (.func fk) #[] #[]]=[a.eval fop]:=k2;exact(aB this).1.symm
  match hc:c.args.toList,har with
  |[y],har=>
  obtain⟨l,hl,hx⟩:=R1.fT (v:=.om id) har.2.1;refine Gt (d:=[]) ho hcal hfe (xs:=[.map (some l.bP)]) (by rw[hc,List.map_singleton,hx]) (.inl ⟨fk,_,hen _ _,(hk (some l.bP) w).mono ?_⟩) (R:=fun val w'=>val=.func (.func fc) #[] #[.pointer (some ⟨w.heap.size,0,none⟩)]/\w'=w.alloc (.cells #[.map (some l.bP)] tc)) ?_
  .rintro e w' ⟨rfl,rfl⟩;exact⟨_,rfl,rfl,rfl⟩
  .rintro val w' ⟨rfl,rfl⟩;refine hn _ _ (gO.new hI (hfr n (aq _) (aM _)) (b:=.cells #[.map (some l.bP)] tc) (l:=⟨w.heap.size,0,0,0,.mp kt vt,none⟩) (fun _ _ _ h=>by cases h;rfl) rfl (fun hs=>⟨rfl,rfl,_,qY w _ tc,?_⟩) rfl ?_)
   .exact ⟨l,mg _ (hfr n (aq _) (aM _)) _ _ hl,rfl⟩
   .exact R1.rw (R1.wC ⟨[.pointer (some ⟨w.heap.size,0,none⟩)],rfl,[_],[],rfl,⟨_,fg _ _ _,rfl,trivial,rfl⟩,rfl⟩ rfl)
def GY(fc:FuncId):Hk:=⟨fun f vs h n k=>match f,vs with
 |.fn _ _ .ni,[.fn _ fc' (.co (.op b _ []) .ni)]=>bif fc'==fc then(match fO h b with
  |some (.bx _ (.om id))=>(match fO h id with
   |some (.mp (.i .i64) _ m)=>bif E9 m then k (.so n) [(n,some (.ar (.i .i64) (nW m) 0))] (n+1) [b,id]else none
   |_=>none)
  |_=>none)else none
 |_,_=>none⟩
theorem GX{fs fc:FuncId}{ti:TypeId}(hti:P.underlying ti=some (.int .i64))(hen:∀args w,(callFunc fs args).run P w=.ok (.enter fs args) w)
  (hs:∀(B b nn:Nat)(D0:DataW Unit)(R:Value->Option (DataW Unit×List MemPlace))(w:World),w.cell? ⟨B,0,none⟩=some (.map (some b))->w.ownsMap P ti R b nn D0->Maps.size D0<=1000000->
   Calls P fs #[.func (.func fc) #[] #[.pointer (some ⟨B,0,none⟩)]] w fun e w'=>∃(v:Value)(ss:List Int),e=.returned v/\ss.Perm (intKeys D0)/\
    w'.ownsRow w.heap.size ti 1 v ss.length ((ss.mergeSort (fun x y=>decide (x<=y))).map (Value.int .i64))/\(v=.slice none 0 0<->ss=[])/\Below w.heap.size w w'):EJ P fs (GY fc):=by
 intro o c fop z caps vs h n β kk r ho hcal hS hv hr;cases caps<;>first|(cases hr;done)|skip
 cases vs with
 |nil=>cases hr
 |cons v vs=>
 cases v<;>first|(cases hr;done)|skip
 rename_i zz fc' caps;cases caps<;>first|(cases hr;done)|skip
 rename_i c1 c2;cases c1<;>first|(cases hr;done)|skip
 rename_i b t p;cases p<;>first|(cases hr;done)|skip
 cases c2<;>first|(cases hr;done)|skip
 cases vs<;>first|(cases hr;done)|skip
 change (bif fc'==fc then(match fO h b with|some (.bx _ (.om id))=>(match fO h id with|some (.mp (.i .i64) _ m)=>bif E9 m then kk (.so n) [(n,some (.ar (.i .i64) (nW m) 0))] (n+1) [b,id]else none|_=>none)|_=>none)else none)=some r at hr;obtain⟨e,hr1⟩:=aC hr;clear hr;obtain rfl:=eq_of_beq e;clear e;split at hr1<;>first|(cases hr1;done)|skip
 rename_i tb id hb;split at hr1<;>first|(cases hr1;done)|skip
 rename_i vt m hm;obtain⟨hok0,hr⟩:=aC hr1;clear hr1;have hok:Ov m:=of_decide_eq_true hok0;refine⟨_,_,_,_,hr,aO _,jS.cons (fun _ _=>.inl (aq _)) jS.nil,aM _,fun p hp t c e=>?_,fun p hp=>?_,?_⟩
 .obtain rfl:=az.1 hp;cases e
 .obtain rfl:=az.1 hp;exact .inl ⟨aM _,trivial⟩
 .intro a S K w0 w φ H hI hsh har hag hfr next Q hn
  obtain⟨cf,⟨d,rfl,k3⟩,k2⟩:=har.1;obtain rfl:d=[]:=k3;have hfe:a.eval fop=.func (.func fs) #[] #[]:=by have:[Value.func (.func fs) #[] #[]]=[a.eval fop]:=k2;exact(aB this).1.symm
  match hc:c.args.toList,har with
  |[y],har=>
  obtain⟨cy,⟨d,rfl,k4⟩,k5⟩:=har.2.1;obtain⟨d1,d2,rfl,⟨lb,hlb,_,_,rfl⟩,rfl⟩:=k4;have hye:a.eval y=.func (.func fc') #[] #[.pointer (some ⟨lb.bP,0,none⟩)]:=by have:[Value.func (.func fc') #[] #[.pointer (some ⟨lb.bP,wm t [],none⟩)]]=[a.eval y]:=k5;have:=(aB this).1.symm;rw[this];cases t<;>rfl
  obtain⟨lb',hlb',hrb,_⟩:=hI.lS b _ ((hag b (by simp)).trans hb);obtain rfl:=ac (hlb.symm.trans hlb');obtain⟨_,_,bz,hown,l,hl,harr⟩:=hrb;obtain⟨l',hl',hrm,_⟩:=hI.lS id _ ((hag id (by simp)).trans hm);obtain rfl:=ac (hl.symm.trans hl')
  have hcell:w.cell? ⟨lb.bP,0,none⟩=some (.map (some l.bP)):=by
   rw[hown.cell];have:bz.toList[0]?=some (.map (some l.bP)):=by rw[harr];rfl
   simpa using this
  obtain⟨nn,D0,R,hown2,hsz,hperm⟩:=TP hti hrm hok
  refine Gt (d:=[]) ho hcal hfe (xs:=[_]) (by rw[hc,List.map_singleton,hye]) (.inl ⟨fs,_,hen _ _,(hs lb.bP l.bP nn D0 R w hcell hown2 hsz).mono ?_⟩) (R:=fun v w'=>∃ss:List Int,ss.Perm (m.es.map (·.1))/\
    w'.ownsRow w.heap.size ti 1 v ss.length ((qA (m.es.map (·.1))).map (Value.int .i64))/\(v=.slice none 0 0<->ss=[])/\Below w.heap.size w w') ?_
  .rintro e w' ⟨v,ss,rfl,h1,h2,h3,h4⟩;exact⟨v,rfl,ss,h1.trans hperm,by rw[<-ES (h1.trans hperm)];exact h2,h3,h4⟩
  .rintro v w' ⟨ss,hss,⟨hlen,hrow⟩,hnil,hbel⟩;have hstp:gC S w S w':=⟨fun _ h=>h,fun b hb=>hbel.block b (hI.Cg b hb)⟩
   have hfrm:Jf (fun b=>b<w.heap.size/\b∉([]:List Nat)) w w':=⟨fun b hb=>hb.1,fun b hb=>hbel.block b hb.1,hbel.size,fun a ha=>hbel.frozen ha,fun b bz ho=>⟨bz,ho.ju (hbel.block b ho.lt),rfl⟩,hbel.os,hbel.output,hbel.tape,by simp⟩
   have hR:∃fp1:List Nat,EF S w' (.os (.i .i64)) [.x (.sl (.i .i64)) (nW m:Sl (El (.i .i64)))] v fp1/\fp1.Nodup/\∀b∈fp1,w.heap.size<=b/\b<w'.heap.size:=by
    have hll:ss.length=(qA (m.es.map (·.1))).length:=(hss.trans (q_ _).symm).length_eq;have hk:(m.es=[]/\nW m=.nil)\/nW m=.mk (qA (m.es.map (·.1)))/\m.es≠[]:=by unfold nW Dm;cases m.es with|nil=>exact .inl ⟨rfl,rfl⟩|cons e r=>exact .inr ⟨rfl,by simp⟩
    rcases hk with⟨e,hk⟩|⟨hk,e⟩
    .rw [e]at hss;rw[hk,hnil.2 (List.perm_nil.1 hss)];exact⟨[],J1,ie,by simp⟩
    .rcases hrow with⟨rfl,_⟩|⟨g,cap,lU,rfl,hg,hcur,hcap,_,hcs,htk⟩
     .have:=hnil.1 rfl;subst this;exact absurd (by simpa using hss.symm.eq_nil) e
     .have ho:pi w' g lU:=⟨ti,hcur⟩
      have hle:(qA (m.es.map (·.1))).length<=cap:=by omega
      rw[hk,hll];refine⟨[g],C7 (t:=.i .i64) (r:=qA (m.es.map (·.1))) (lo:=⟨g,0,cap,cap,.i .i64,none⟩) (d:=(qA (m.es.map (·.1))).map (Value.int .i64)) rfl (aM 0) ho (by simpa using hcs) hle (by show 0+_*1<=cap;omega) ?_ ?_ (fun _=>rfl) (by show 0+cap*1<=cap;omega),by simp,fun b hb=>by obtain rfl:=az.1 hb;exact⟨hg,ho.lt⟩⟩
      .have:∀l:List Int,lC (RT S w' (.i .i64)) l (l.map (Value.int .i64)):=fun l=>by induction l with|nil=>rfl|cons x l ih=>exact⟨[_],_,rfl,rfl,ih⟩
       exact this _
      .refine (yS ho).2 fun i x hi=>?_;rw[<-htk]at hi
       have hi2:lU.toList[i]?=some x:=by
        rw[List.getElem?_take]at hi;split at hi
        .exact hi
        .cases hi
       simpa using hi2
   obtain⟨fp1,h1,h2,h3⟩:=hR;let s:S2:=⟨[],h,n,[],.ni⟩
   have hmk:Dg [.os (.i .i64)] ([.x (.sl (.i .i64)) (nW m:Sl (El (.i .i64)))]++[]) s=some ([.so n],[],oH s (.ar (.i .i64) (nW m) 0)):=rfl;have hb2:ku [] [] [] s s:=by obtain⟨s1,e1,e2⟩:=I6 (k:=fun s'=>some s') (os:=[]) (q:=[]) (l:=[]) (s:=s) (r:=s) rfl;cases e1;exact e2
   obtain⟨ub,um,e1,e2,hd⟩:=Bg (SA:=S) (SB:=S) (K:=K) (w0:=w0) (uf:=[]) (q:=[]) (fp:=[]) (fp1:=fp1) (fp2:=[]) (rs:=[.os (.i .i64)]) (os:=[]) (l2:=[]) (s:=s) (s0:=s) (s1:=s) (vu:=[v]) (lent:=[]) (by rw[Au];exact hI) wz.nil (by simp) hstp (fun b hb=>.inl hb) (fun b hb=>bY (hI.Cg b hb) hbel.size)
    ⟨_,[],fp1,[],rfl,by simp,h1,rfl,rfl⟩ ⟨rfl,rfl⟩ (by simpa using h2) (fun b hb=>by obtain⟨q1,q2⟩:=h3 b (by simpa using hb);exact⟨fun hs=>by have:=hI.Cg b hs;omega,.inr q1,q2⟩) hfrm ie trivial hstp (by simp) hS (qG.refl _) rfl hb2 hmk hfr
   have e3:ub=[]:=by simpa using e1
   have e4:um=[(n,some (.ar (.i .i64) (nW m) 0))]:=List.append_cancel_right (e2.symm:um++h=[(n,some (O.ar (.i .i64) (nW m:Sl (El (.i .i64))) 0))]++h);rw[e3,e4]at hd;exact hn _ _ hd
end
def ME(up sw:Int):Bool:=p7 .i64 (od .i64 up sw) 1==1
section
variable{β:Type}
def kC(up:Int)(m:Mp Int (Int×Int×β))(sk:Int):Int:=m.es.foldl (fun s e=>bif ME up e.2.1.2.1 then s else As .i64 s (sd .i64 1 e.2.1.2.1)) sk
def rL(up:Int)(m:Mp Int (Int×Int×β)):Mp Int (Int×Int×β):=⟨m.es.filter fun e=>ME up e.2.1.2.1,m.ce⟩
def A7(m:Mp Int (Int×Int×β)):Bool:=E9 m&&m.es.all fun e=>decide (0<=e.2.1.2.1)
end
def X8(m:MapEntry):Int:=match m.val with|.agg cs=>(match cs[1]?with|some (Value.int _ n)=>n|_=>0)|_=>0
def sR(up:Int)(m:MapEntry):Bool:=ME up (X8 m)
def rK(up:Int)(s:Int)(m:MapEntry):Int:=bif sR up m then s else As .i64 s (sd .i64 1 (X8 m))
def X0(n:Nat)(m:MapEntry):Prop:=(∃a,m.key=.int .i64 a/\-9223372036854775808<=a/\a<=9223372036854775807)/\∃cs:Array Value,m.val=.agg cs/\cs.size=n/\(∀v∈cs.toList,one v=true)/\∃sw,cs[1]?=some (.int .i64 sw)/\0<=sw
def My(P:Program)(fd g off n:Nat):Prop:=∀(w:World)(ms:Array MapEntry)(ce b bu bx C:Nat)(bz:Array Value)(tC:TypeId)(up sk:Int),w.heap[b]?=some (.map ms ce)->w.cell? ⟨bu,0,none⟩=some (.int .i64 up)->w.cell? ⟨bx,0,none⟩=some (.pointer (some ⟨C,0,none⟩))->
 w.heap[C]?=some (.cells bz tC (0,0))->bz[off]?=some (.int .i64 sk)->bu≠C->bx≠C->(∀x∈ms.toList,X0 n x)->(ms.toList.map (·.key)).Nodup->(ms.toList.map (·.born)).Nodup->(∀x∈ms.toList,x.born<ce)->
 Calls P fd #[.map (some b),.func (.func g) #[] #[.pointer (some ⟨bu,0,none⟩),.pointer (some ⟨bx,0,none⟩)]] w fun e w'=>e=.returned (.tuple #[])/\∃ms':Array MapEntry,ms'.toList=ms.toList.filter (sR up)/\w'.heap[b]?=some (.map ms' ce)/\
  w'.heap[C]?=some (.cells (bz.setIfInBounds off (.int .i64 (ms.toList.foldl (rK up) sk))) tC (0,0))/\(∀k,k<w.heap.size->k≠b->k≠C->w'.heap[k]?=w.heap[k]?)/\w.heap.size<=w'.heap.size/\w'.os=w.os/\w'.output=w.output/\w'.tape=w.tape
def VP(g:FuncId)(tX c:Ty)(p:rI):Hk:=⟨fun f vs h n k=>match f,vs with
 |.fn _ _ .ni,[.om id,.fn _ g' (.co (.op bu _ []) (.co (.op bx _ []) .ni))]=>bif g'==g then(match fO h bu,fO h bx with
  |some (.bx _ (.x (.i .i64) up)),some (.bx _ (.op x _ []))=>(match fO h x,fO h id with
   |some (.bx u cont),some (.mp kt vt m)=>bif decide (u=tX)&&!(bu==x)&&!(bx==x)then(match dR (.mp kt vt) (.mp (.i .i64) (.st (.pr (.i .i64) (.pr (.i .i64) c)))) m with
    |some m=>(match tA cont p with
     |some (.x (.i .i64) sk)=>(match pY cont p (.x (.i .i64) (kC up m sk))with
      |some cont'=>bif A7 m then(bif dF cont' false tX then k (.tp .ni) [(x,some (.bx tX cont')),(id,some (.mp (.i .i64) (.st (.pr (.i .i64) (.pr (.i .i64) c))) (rL up m)))] n [bu,bx,x,id]else none)else none
      |none=>none)
     |_=>none)
    |none=>none)else none
   |_,_=>none)
  |_,_=>none)else none
 |_,_=>none⟩
section
variable{P:Program}{S K:Nat->Prop}{w0 w w':World}{φ:fM}{H:Hf}{c:Ty}
theorem kO.filter{k v:Ty}{p:El k×El v×Nat->Bool}{q:MapEntry->Bool}(hpq:∀e m,Mx S w k v e m->p e=q m):∀{es:List (El k×El v×Nat)}{ms:List MapEntry},kO S w k v es ms->kO S w k v (es.filter p) (ms.filter q):=by
 intro es;induction es with
 |nil=>intro ms h;cases ms<;>first|trivial|exact h.elim
 |cons e es ih=>
  intro ms h;cases ms with
  |nil=>exact h.elim
  |cons m ms=>
   rw[di,di,hpq e m h.1];cases q m
   .simpa using ih h.2
   .simpa using⟨h.1,ih h.2⟩
abbrev F6(c:Ty):Ty:=.st (.pr (.i .i64) (.pr (.i .i64) c))
theorem Mx.msg{e:Int×El (F6 c)×Nat}{m:MapEntry}(h:Mx S w (.i .i64) (F6 c) e m):X8 m=e.2.1.2.1:=by obtain⟨k,d,_,_,h3,h4,_⟩:=h;obtain⟨d1,d2,rfl,rfl,d3,d4,rfl,rfl,_⟩:=h3;simp[X8,h4,nB,iD]
theorem kO.all{k v:Ty}{Q:El k×El v×Nat->Prop}{R:MapEntry->Prop}(h:∀e m,Q e->Mx S w k v e m->R m):∀{es:List (El k×El v×Nat)}{ms:List MapEntry},(∀e∈es,Q e)->kO S w k v es ms->∀m∈ms,R m:=by
 intro es;induction es with
 |nil=>intro ms _ hE;cases ms<;>first|exact hE.elim|simp
 |cons e es ih=>
  intro ms hq hE;cases ms with
  |nil=>exact hE.elim
  |cons m ms=>
   intro x hx;rcases aI.1 hx with rfl|hx
   .exact h e x (hq e (by simp)) hE.1
   .exact ih (fun e he=>hq e (by simp[he])) hE.2 x hx
theorem kO.aeS{k v:Ty}{α:Type}{f:α->El k×El v×Nat->α}{g:α->MapEntry->α}(hfg:∀a e m,Mx S w k v e m->f a e=g a m):∀{es:List (El k×El v×Nat)}{ms:List MapEntry}{a:α},kO S w k v es ms->es.foldl f a=ms.foldl g a:=by
 intro es;induction es with
 |nil=>intro ms a h;cases ms<;>first|rfl|exact h.elim
 |cons e es ih=>intro ms a h;cases ms with|nil=>exact h.elim|cons m ms=>rw[lP,lP,hfg a e m h.1];exact ih h.2
theorem Rn{fd g off:Nat}{tX:Ty}{p:rI}(hen:∀args w,(callFunc fd args).run P w=.ok (.enter fd args) w)(hp:Nv tX p)(hty:zb tX p=some (.i .i64))(hoff:wm tX p=off)(hr:My P fd g off (df (F6 c))):EJ P fd (VP g tX c p):=by
 intro o cc fop z caps vs h n β kk r ho hcal hS hv hr0;cases caps<;>first|(cases hr0;done)|skip
 cases vs with
 |nil=>cases hr0
 |cons v vs=>
 cases v<;>first|(cases hr0;done)|skip
 rename_i id;cases vs with
 |nil=>cases hr0
 |cons v vs=>
 cases v<;>first|(cases hr0;done)|skip
 rename_i zz g' caps;cases caps<;>first|(cases hr0;done)|skip
 rename_i c1 c2;cases c1<;>first|(cases hr0;done)|skip
 rename_i bu tu pu;cases pu<;>first|(cases hr0;done)|skip
 cases c2<;>first|(cases hr0;done)|skip
 rename_i c3 c4;cases c3<;>first|(cases hr0;done)|skip
 rename_i bx tx px;cases px<;>first|(cases hr0;done)|skip
 cases c4<;>first|(cases hr0;done)|skip
 cases vs<;>first|(cases hr0;done)|skip
 change (bif g'==g then(match fO h bu,fO h bx with
  |some (.bx _ (.x (.i .i64) up)),some (.bx _ (.op x _ []))=>(match fO h x,fO h id with
   |some (.bx u cont),some (.mp kt vt m)=>bif decide (u=tX)&&!(bu==x)&&!(bx==x)then(match dR (.mp kt vt) (.mp (.i .i64) (F6 c)) m with
    |some m=>(match tA cont p with
     |some (.x (.i .i64) sk)=>(match pY cont p (.x (.i .i64) (kC up m sk))with
      |some cont'=>bif A7 m then(bif dF cont' false tX then kk (.tp .ni) [(x,some (.bx tX cont')),(id,some (.mp (.i .i64) (F6 c) (rL up m)))] n [bu,bx,x,id]else none)else none
      |none=>none)
     |_=>none)
    |none=>none)else none
   |_,_=>none)
  |_,_=>none)else none)=some r at hr0
 obtain⟨e1,h1⟩:=aC hr0;clear hr0;obtain rfl:=eq_of_beq e1;clear e1;split at h1<;>first|(cases h1;done)|skip
 rename_i t1 up t2 x t9 hbu hbx;split at h1<;>first|(cases h1;done)|skip
 rename_i u cont kt vt m0 hx hid;obtain⟨e2,h2⟩:=aC h1;clear h1;simp only[aw,fq,decide_eq_true_eq,beq_eq_false_iff_ne]at e2;obtain⟨⟨rfl,hne1⟩,hne2⟩:=e2;split at h2<;>first|(cases h2;done)|skip
 rename_i m hm;obtain⟨e3,e4⟩:=iu hm;cases e3;have e5:m0=m:=e4;clear e4 hm;subst e5;split at h2<;>first|(cases h2;done)|skip
 rename_i sk hget;split at h2<;>first|(cases h2;done)|skip
 rename_i cont' hset;obtain⟨hok,h3⟩:=aC h2;clear h2;obtain⟨hfit,h4⟩:=aC h3;clear h3;simp only[A7,aw,cm,decide_eq_true_eq]at hok;obtain⟨hok0,hsw⟩:=hok;have hok:Ov m0:=of_decide_eq_true hok0;have hxl:=hS.lt _ _ hx;have hil:=hS.lt _ _ hid;have hxi:x≠id:=fun e=>by rw[e,hid]at hx;cases hx
 refine⟨_,_,_,_,h4,aq _,jS.cons (fun o' e=>.inr (.inl (by cases e;rfl))) (jS.cons (fun o' e=>.inr (.inr ⟨_,hid,by cases e;exact trivial⟩)) jS.nil),trivial,fun q hq t1 c1 e=>?_,fun q hq=>?_,?_⟩
 .rcases aI.1 hq with rfl|hq
  .cases e;refine dQ (aq _) (jS.fe ?_) (zD (y:=.x (.i .i64) (kC up m0 sk)) (hS.bx _ _ _ hx) trivial hset);exact jS.cons (fun o' e=>.inr (.inl (by cases e;rfl))) (jS.cons (fun o' e=>.inr (.inr ⟨_,hid,by cases e;exact trivial⟩)) jS.nil)
  .obtain rfl:=az.1 hq;cases e
 .rcases aI.1 hq with rfl|hq
  .exact .inl ⟨hxl,trivial⟩
  .obtain rfl:=az.1 hq;exact .inl ⟨hil,trivial⟩
 .intro a S K w0 w φ H hI hsh har hag hfr next Q hn
  obtain⟨cf,⟨d,rfl,k3⟩,k2⟩:=har.1;obtain rfl:d=[]:=k3;have hfe:a.eval fop=.func (.func fd) #[] #[]:=by have:[Value.func (.func fd) #[] #[]]=[a.eval fop]:=k2;exact(aB this).1.symm
  match hc:cc.args.toList,har with
  |[y1,y2],har=>
  obtain⟨l,hl,hx1⟩:=R1.fT (v:=.om id) har.2.1;obtain⟨cy,⟨d,rfl,k4⟩,k5⟩:=har.2.2.1;obtain⟨d1,d2,rfl,⟨lu,hlu,_,_,rfl⟩,d3,d4,rfl,⟨lb,hlb,_,_,rfl⟩,rfl⟩:=k4;have hye:a.eval y2=.func (.func g') #[] #[.pointer (some ⟨lu.bP,0,none⟩),.pointer (some ⟨lb.bP,0,none⟩)]:=by have:[Value.func (.func g') #[] #[.pointer (some ⟨lu.bP,wm tu [],none⟩),.pointer (some ⟨lb.bP,wm tx [],none⟩)]]=[a.eval y2]:=k5;have:=(aB this).1.symm;rw[this];cases tu<;>cases tx<;>rfl
  have hHu:=(hag bu (by simp)).trans hbu;have hHb:=(hag bx (by simp)).trans hbx;have hHx:=(hag x (by simp)).trans hx;have hHi:=(hag id (by simp)).trans hid;obtain⟨_,q1,⟨_,_,arrU,hownU,hrcU⟩,_⟩:=hI.lS bu _ hHu;obtain rfl:=ac (hlu.symm.trans q1);obtain⟨_,q2,⟨_,_,arrB,hownB,lx,hlx,_,_,hrcB⟩,_⟩:=hI.lS bx _ hHb;obtain rfl:=ac (hlb.symm.trans q2);obtain⟨_,q3,⟨hlt,hf0,bz,hown,hrc⟩,hobx⟩:=hI.lS x _ hHx;obtain rfl:=ac (hlx.symm.trans q3);obtain⟨_,q4,⟨hdv,hkd,ms,hms,hE⟩,hobi⟩:=hI.lS id _ hHi;obtain rfl:=ac (hl.symm.trans q4);obtain⟨pa,mm,qa,f1,f2,f3,f4,f5⟩:=uT hf0 hrc hp hty;obtain rfl:mm=[.int .i64 sk]:=(f4 _ hget).1
  have hcU:w.cell? ⟨lu.bP,0,none⟩=some (.int .i64 up):=by
   rw[hownU.cell];have:arrU.toList[0]?=some (.int .i64 up):=by rw[show arrU.toList=[Value.int .i64 up]from hrcU];rfl
   simpa using this
  have hcB:w.cell? ⟨lb.bP,0,none⟩=some (.pointer (some ⟨lx.bP,0,none⟩)):=by
   rw[hownB.cell];have:arrB.toList[0]?=some (.pointer (some ⟨lx.bP,0,none⟩)):=by rw[hrcB];cases t9<;>rfl
   simpa using this
  have hoff2:bz[off]?=some (.int .i64 sk):=by
   have:bz.toList[pa.length]?=some (.int .i64 sk):=by rw[f1];simp
   rw[f2,hoff]at this;simpa using this
  obtain⟨tC,hC⟩:=hown;have hown:pi w lx.bP bz:=⟨tC,hC⟩
  obtain⟨hkeys,hborn⟩:=Fx hE;have hne3:lu.bP≠lx.bP:=fun e=>hI.iY bu x _ _ lu lx hHu hHx hlu hlx hne1 lu.bP (by simp[ob]) (by simp[ob,e]);have hne4:lb.bP≠lx.bP:=fun e=>hI.iY bx x _ _ lb lx hHb hHx hlb hlx hne2 lb.bP (by simp[ob]) (by simp[ob,e]);have hne5:lx.bP≠l.bP:=fun e=>hI.iY x id _ _ lx l hHx hHi hlx hl hxi lx.bP (by simp[ob]) (by simp[ob,e]);have hmsg:∀y∈ms.toList,X0 (df (F6 c)) y:=kO.all (k:=.i .i64) (v:=F6 c) (Q:=fun e=>(-9223372036854775808<=e.1/\e.1<=9223372036854775807)/\0<=e.2.1.2.1) (fun e y hq hEe=>by obtain⟨k1,k6,k7,k8,k9,k10,k11⟩:=hEe;obtain rfl:k1=[Value.int .i64 e.1]:=k7;refine⟨⟨e.1,k8,hq.1⟩,k6.toArray,k10,by have:=k9.len;simpa using this,by simpa using k9.one,e.2.1.2.1,?_,hq.2⟩;obtain⟨d1,d2,rfl,rfl,d3,d4,rfl,rfl,_⟩:=k9;rfl) (fun e he=>⟨(hok.2.1 e he).2,hsw e he⟩) hE;have hrun:=hr w ms m0.ce l.bP lu.bP lb.bP lx.bP bz tC up sk hms hcU hcB hC hoff2 hne3 hne4 hmsg (by rw[hkeys];exact lW.map _ (fun a b hab e=>hab (by simpa using e)) hok.2.2.2) (by rw[hborn];exact hok.2.2.1) fun y hy=>by have:y.born∈ms.toList.map (·.born):=aL.2 ⟨y,hy,rfl⟩;rw[hborn]at this;obtain⟨e,he,e2⟩:=aL.1 this;exact e2▸(hok.2.1 e he).1
  refine Gt (d:=[]) ho hcal hfe (xs:=[_,_]) (by rw[hc,a_,List.map_singleton,hye,(aB hx1).1]) (.inl ⟨fd,_,hen _ _,hrun.mono fun e w' hh=>⟨_,hh.1,rfl,hh.2⟩⟩) (R:=fun v w'=>v=.tuple #[]/\∃ms':Array MapEntry,ms'.toList=ms.toList.filter (sR up)/\w'.heap[l.bP]?=some (.map ms' m0.ce)/\
  w'.heap[lx.bP]?=some (.cells (bz.setIfInBounds off (.int .i64 (ms.toList.foldl (rK up) sk))) tC (0,0))/\(∀k,k<w.heap.size->k≠l.bP->k≠lx.bP->w'.heap[k]?=w.heap[k]?)/\w.heap.size<=w'.heap.size/\w'.os=w.os/\w'.output=w.output/\w'.tape=w.tape) ?_
  rintro v w' ⟨rfl,ms',g1,g2,g3,g4,g5,g6,g7,g8⟩;have hstp:gC S w S w':=⟨fun _ h=>h,fun k hk=>g4 k (hI.Cg k hk) (fun e=>(hobi l.bP (by simp[ob])).1 (e▸hk)) (fun e=>(hobx lx.bP (by simp[ob])).1 (e▸hk))⟩
  have hown':pi w' lx.bP (bz.setIfInBounds off (.int .i64 (kC up m0 sk))):=⟨tC,by rw[g3];congr 4;exact(kO.aeS (fun a e y hy=>by unfold rK sR;rw[hy.msg]) hE).symm⟩
  have hfrz:∀a:Addr,a.block<w.heap.size->w'.frozen? a=w.frozen? a:=fun a ha=>by
   unfold World.frozen?;by_cases e1:a.block=l.bP
   .rw [e1,g2,hms]
   .by_cases e2:a.block=lx.bP
    .rw [e2,g3,hC]
    .rw [g4 _ ha e1 e2]
  have hownn:∀b arr0,pi w b arr0->∃arr',pi w' b arr'/\arr'.size=arr0.size:=fun b arr0 h0=>by
   by_cases e2:b=lx.bP
   .subst e2;obtain rfl:=h0.xK hown;exact⟨_,hown',by simp⟩
   .refine ⟨arr0,h0.ju (g4 b h0.lt (fun e=>?_) e2),rfl⟩;obtain⟨t0,h0⟩:=h0;rw[e,hms]at h0;cases h0
  refine hn _ _ ⟨aq _,S,φ,hstp,Ren.refl _,(fun i l h1 h2=>by rw[h1]at h2;cases h2),⟨[],rfl,rfl⟩,?_⟩;refine hI.gM (fun i=>i=x\/i=id) hstp (Ren.refl _) (fun b hb=>bY (hI.Cg b hb) g5) hI.sk ⟨hI.sq.OD,fun b hb=>?_,bg hI.sq.grow g5,fun a ha=>(hfrz a (bY ha hI.sq.grow)).trans (hI.sq.Sk a ha),fun b arr0 h0=>?_,hI.sq.io.trans ⟨g6,g7,g8,by simp⟩⟩ (fun i o hi ho=>?_) (fun i o lo hi ho hlo b hb=>?_) fun i o hi ho=>?_
  .refine (g4 b (bY (hI.sq.OD b hb) hI.sq.grow) (fun e=>?_) (fun e=>?_)).trans (hI.sq.uu b hb)
   .exact (hobi l.bP (by simp[ob])).2.1 (e▸hb)
   .exact (hobx lx.bP (by simp[ob])).2.1 (e▸hb)
  .obtain ⟨a1,k1,k2⟩:=hI.sq.HI b arr0 h0;obtain⟨a2,k3,k4⟩:=hownn b a1 k1;exact⟨a2,k3,k4.trans k2⟩
  .rw [bC,if_neg (fun e=>hi (.inl e.symm)),bC,if_neg (fun e=>hi (.inr e.symm))]at ho;exact ho
  .obtain ⟨m2,b1,_,b4⟩:=hI.lS i o ho;obtain rfl:=ac (hlo.symm.trans b1);refine⟨g4 b (b4 b hb).2.2 (fun e=>?_) (fun e=>?_),(b4 b hb).1⟩
   .exact hI.iY i id _ _ lo l ho hHi hlo hl (fun e=>hi (.inr e)) b hb (by simp[ob,e])
   .exact hI.iY i x _ _ lo lx ho hHx hlo hlx (fun e=>hi (.inl e)) b hb (by simp[ob,e])
  .rcases hi with rfl|rfl
   .rw [bC,if_pos rfl]at ho;cases ho;refine⟨lx,hlx,⟨hlt,hfit,_,hown',?_⟩,fun b hb=>?_⟩
    .have:=f5 (.x (.i .i64) (kC up m0 sk)) cont' [.int .i64 (kC up m0 sk)] hset rfl;have e1:(bz.setIfInBounds off (.int .i64 (kC up m0 sk))).toList=pa++[.int .i64 (kC up m0 sk)]++qa:=by rw[Array.toList_setIfInBounds,f1,<-hoff,<-f2];simp
     rw[e1];exact this.mono hstp (Ren.refl _)
    .obtain rfl:b=lx.bP:=by simpa[ob]using hb
     obtain⟨c1,c2,c3⟩:=hobx lx.bP (by simp[ob]);refine⟨c1,c2,bY c3 g5,fun j o2 m2 hj ho2 hm2 hb2=>?_,fun j o2 m2 hj hne ho2 hm2 hb2=>?_⟩
     .rw [bC,if_neg (fun e=>hj (.inl e.symm)),bC,if_neg (fun e=>hj (.inr e.symm))]at ho2;exact hI.iY i j _ _ lx m2 hHx ho2 hlx hm2 (fun e=>hj (.inl e.symm)) lx.bP (by simp[ob]) hb2
     .rcases hj with rfl|rfl
      .exact hne rfl
      .rw [bC,if_neg hxi,bC,if_pos rfl]at ho2;cases ho2;obtain rfl:=ac (hl.symm.trans hm2);exact hne5 (by simpa[ob]using hb2)
   .rw [bC,if_neg hxi,bC,if_pos rfl]at ho;cases ho;refine⟨l,hl,⟨hdv,hkd,ms',g2,?_⟩,fun b hb=>?_⟩
    .rw [g1];exact(kO.filter (fun e y hy=>by unfold sR;rw[hy.msg]) hE).mono hstp
    .obtain rfl:b=l.bP:=by simpa[ob]using hb
     obtain⟨c1,c2,c3⟩:=hobi l.bP (by simp[ob]);refine⟨c1,c2,bY c3 g5,fun j o2 m2 hj ho2 hm2 hb2=>?_,fun j o2 m2 hj hne ho2 hm2 hb2=>?_⟩
     .rw [bC,if_neg (fun e=>hj (.inl e.symm)),bC,if_neg (fun e=>hj (.inr e.symm))]at ho2;exact hI.iY i j _ _ l m2 hHi ho2 hl hm2 (fun e=>hj (.inr e.symm)) l.bP (by simp[ob]) hb2
     .rcases hj with rfl|rfl
      .rw [bC,if_pos rfl]at ho2;cases ho2;obtain rfl:=ac (hlx.symm.trans hm2)
       exact hne5 (by
        have:l.bP=lx.bP:=by simpa[ob]using hb2
        exact this.symm)
      .exact hne rfl
end
def ML{β:Type}:List (Int×Int)->Int->Int->(Int->Option β)->Option β
 |[],d,_,k=>k d
 |(a,b)::r,d,x,k=>bif x==a then k b else ML r d x k
def O5:List (Int×Int)->Int->Int->Int
 |[],d,_=>d
 |(a,b)::r,d,x=>bif x==a then b else O5 r d x
theorem FE{β:Type}{k:Int->Option β}:∀(l:List (Int×Int))(d x:Int),ML l d x k=k (O5 l d x)
 |[],_,_=>rfl
 |(a,b)::r,d,x=>by
  unfold ML O5;cases(x==a)
  .exact FE r d x
  .rfl
def Vj(l:List (Int×Int))(d:Int):Hk:=⟨fun f vs _ n k=>match f,vs with
 |.fn _ _ .ni,[.x (.i .i64) a]=>ML l d a fun c=>k (.x (.i .i64) c) [] (n+1) []
 |_,_=>none⟩
def Ax(ro:Bool)(fn:Int->Option Int):dC:=⟨[(false,.x (.i .i64))],[([.x (.i .i64)],[])],ro,[],fun p=>fn p⟩
theorem O4{P:Program}{f:FuncId}{ro:Bool}{fn:Int->Option Int}{l:List (Int×Int)}{d:Int}(h:aN P f (Ax ro fn))(hfn:∀x,fn x=ML l d x some):EJ P f (Vj l d):=by
 intro o c fop z caps vs h2 n β kk r ho hcal hS hv hr;cases caps<;>first|(cases hr;done)|skip
 cases vs with
 |nil=>cases hr
 |cons v vs=>
 cases v<;>first|(cases hr;done)|skip
 rename_i t a;cases t<;>first|(cases hr;done)|skip
 rename_i k;cases k<;>first|(cases hr;done)|skip
 cases vs<;>first|(cases hr;done)|skip
 have hr:ML l d (a:Int) (fun c=>kk (.x (.i .i64) c) [] (n+1) [])=some r:=hr;rw[FE]at hr;have hT:qc P [(f,.sp (Ax ro fn))]:=.cons h .nil
 have hcall:zY [(f,.sp (Ax ro fn))] false [] (.fn z f .ni) [.x (.i .i64) a] (⟨[],h2,n,[],.ni⟩:S2) (fun v s l=>some (v,s,l))=some (.x (.i .i64) (O5 l d a),⟨[],h2,n+1,[],.ni⟩,[]):=by
  have:fn a=some (O5 l d a):=by rw[hfn,FE]
  have e0:yd h2 f ([V.x (.i .i64) a]++[]) [(f,.sp (Ax ro fn))]=some (Ax ro fn,[V.x (.i .i64) a],[],[]):=by unfold yd;rw[beq_self_eq_true];rfl
  unfold zY;show(match yd h2 f ([V.x (.i .i64) a]++[]) [(f,TE.sp (Ax ro fn))]with|some (sp,pay,ids,q)=>_|none=>none)=_;rw[e0];cases ro<;>(show(fn a).bind _=_;rw[this];rfl)
 obtain⟨v,u,n',l',h1,h3⟩:=Lw (o:=o) ho hcal hT (s:=⟨[],h2,n,[],.ni⟩) hS (fun x hx=>(hv x hx).1) (fun x hx=>(hv x hx).2) hcall;obtain⟨e1,e4⟩:=ap (ac h1);obtain⟨e2,e3⟩:=ap e4;clear e4 h1;subst e1 e3;obtain rfl:u=[]:=by have:=congrArg S2.wo e2;simpa[Bm]using this
 obtain rfl:n'=n+1:=congrArg S2.next e2;exact⟨_,_,_,_,hr,h3⟩
end Go.Ev
