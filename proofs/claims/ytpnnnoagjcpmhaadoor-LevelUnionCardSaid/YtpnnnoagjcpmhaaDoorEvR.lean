/- Calls: what a callee's answer means, and that a caller may use it. Conditions: the relation of XEvC. -/
import Derived.Test.YtpnnnoagjcpmhaaDoorEvLa
open Array renaming getD_eq_getD_getElem?->bp,getElem?_append_left->bw,getElem?_setIfInBounds->jh,getElem?_toList->aY,length_toList->bQ,size_append->dL,toArray_toList->jY
open Bool renaming and_eq_true->af,false_eq_true->aN,not_false->dG
open Go renaming Call->kf
open List renaming all_cons->e9,all_eq_true->aV,append_assoc->aP,cons_append->aO,flatMap_cons->bf,getElem?_append_left->bq,getElem?_append_right->bv,getElem?_cons_succ->cN,getElem?_cons_zero->bO,getElem?_eq_getElem->au,getElem?_eq_some_iff->ai,getElem?_map->aD,getElem?_toArray->br,length_append->aG,length_map->aI,length_singleton->bK,map_cons->aq,map_nil->aS,map_toArray->cL,mem_append->ak,mem_append_left->aE,mem_append_right->aC,mem_cons->aF,mem_cons_of_mem->aA,mem_flatMap->bT,mem_flatten->df,mem_map->cz,mem_of_getElem?->aQ,mem_singleton->am,nodup_append->bR,nodup_cons->e_,singleton_append->aU
open List.cons renaming injEq->dg
open Nat renaming add_zero->cu,le_refl->ao,le_succ->bk,le_trans->dD,lt_of_lt_of_le->ci,lt_or_ge->dC,lt_succ_self->aT,mul_le_mul->jW,mul_one->iV
open Option renaming bind_some->ae,getD_some->eO,isSome_iff_exists->fY,map_eq_some_iff->aB
open Option.some renaming inj->aa,injEq->bl
open Prod.mk renaming inj->ad,injEq->cO
namespace Go.Ev
def RA(S:Nat->Prop)(w:World):A->Value->List Nat->Prop
 |.d x,v,fp=>RD S w x v/\fp=[]
 |.agg xs,v,fp=>∃aJ,v=.agg aJ/\xs.length=aJ.size/\(∀(i:Nat)(x:D),xs[i]?=some x->RD S w x (aJ.getD i undef))/\fp=[]
 |.mt t,v,fp=>RT S w t v fp
def KV(S:Nat->Prop)(w:World):List A->List Value->List Nat->Prop
 |[],[],fp=>fp=[]
 |a::as,v::vs,fp=>∃f1 f2,fp=f1++f2/\RA S w a v f1/\KV S w as vs f2
 |_,_,_=>False
def RR(S:Nat->Prop)(w:World):R->Value->List Nat->Prop
 |.c t,v,fp=>RT S w t v fp
 |.agg ts,v,fp=>∃(aJ:Array Value)(fps:List (List Nat)),v=.agg aJ/\ts.length=aJ.size/\fps.length=ts.length/\fps.flatten=fp/\∀(i:Nat)(t:T)(f:List Nat),ts[i]?=some t->fps[i]?=some f->RT S w t (aJ.getD i undef) f
def CB(S:Nat->Prop)(w:World):List R->List Value->List Nat->Prop
 |[],[],fp=>fp=[]
 |r::rs,v::vs,fp=>∃f1 f2,fp=f1++f2/\RR S w r v f1/\CB S w rs vs f2
 |_,_,_=>False
def KJ(S:Nat->Prop)(w:World):List T->List Value->List Nat->Prop
 |[],[],fp=>fp=[]
 |t::ts,v::vs,fp=>∃f1 f2,fp=f1++f2/\((t=.rD/\f1=[])\/RT S w t v f1)/\KJ S w ts vs f2
 |_,_,_=>False
def lp:List A->List Value->List Value
 |.mt _::as,v::vs=>v::lp as vs
 |_::as,_::vs=>lp as vs
 |_,_=>[]
def wh:List Value->Value
 |[v]=>v
 |vs=>.tuple vs.toArray
def O4(P:Program)(f:FuncId)(args:Array Value)(w:World)(R:Value->World->Prop):Prop:=
 (∃g as,(callFunc f args).run P w=.ok (.enter g as) w/\Calls P g as w fun e w'=>∃v,e=.returned v/\R v w')\/
 (∃v,(callFunc f args).run P w=.ok (.value v) w/\R v w)
def Left(S:Nat->Prop)(w:World)(fp:List Nat)(rs:List R)(outs:List T)(lent:List Value)(v:Value)(w':World):Prop:=
 ∃(S':Nat->Prop)(ji:List Value)(fp1 fp2:List Nat),v=wh ji/\fw S w S' w'/\(∀b,S' b->S b\/b∈fp\/w.heap.size<=b)/\(∀b,S' b->b<w'.heap.size)/\
  CB S' w' rs ji fp1/\KJ S' w' outs lent fp2/\(fp1++fp2).Nodup/\(∀b∈fp1++fp2,¬S' b/\(b∈fp\/w.heap.size<=b))/\Ey (fun b=>b<w.heap.size/\b∉fp) w w'
def qV(P:Program)(f:FuncId)(as:List A)(rs:List R)(outs:List T):Prop:=
 ∀(S:Nat->Prop)(w:World)(vs:List Value)(fp:List Nat),(∀b,S b->b<w.heap.size)->KV S w as vs fp->fp.Nodup->(∀b∈fp,¬S b)->sE S w->
  O4 P f vs.toArray w (Left S w fp rs outs (lp as vs))
def lE(P:Program)(call:Call):Prop:=∀f as rs outs,call f as=some (rs,outs)->qV P f as rs outs
theorem KV.Ay{S S':Nat->Prop}{w:World}(hs:fw S w S' w){as:List A}:∀{vs:List Value}{fp:List Nat},KV S w as vs fp->KV S' w as vs fp:=by
 induction as with
 |nil=>intro vs fp h;cases vs<;>exact h
 |cons x as ih=>
  intro vs fp h;cases vs with
  |nil=>exact h
  |cons v vs=>obtain⟨f1,f2,h1,h2,h3⟩:=h;refine⟨f1,f2,h1,?_,ih h3⟩;cases x with|d y=>exact⟨h2.1.mono hs,h2.2⟩|agg xs=>obtain⟨aJ,q1,q2,q3,q4⟩:=h2;exact⟨aJ,q1,q2,fun i x hi=>(q3 i x hi).mono hs,q4⟩|mt t=>exact RT.mono hs h2 fun _ _=>rfl
section
variable{P:Program}{S K:Nat->Prop}{w0 w:World}{Kn:Nat->Prop}{φ:Nat->fE}{H:bz}{e:iE}{ρ:Operand->Value}{o:Oper}{call:Call}
 {nxt n':Nat} {v:TV} {u:eG} {aw:List Nat}
inductive Ew(Kn:Nat->Prop)(φ:Nat->fE)(S:Nat->Prop)(w:World):List (C×List Nat×List Nat)->List Value->Prop
 |nil:Ew Kn φ S w [] []
 |cons {c:C} {bn rd:List Nat} {l:List (C×List Nat×List Nat)} {v:Value} {vs:List Value} (h:RC S w Kn φ c v) (hl:Ew Kn φ S w l vs):Ew Kn φ S w ((c,bn,rd)::l) (v::vs)
theorem Ep{H:bz}(hI:Inv S K w0 Kn φ (av H) w):∀(tvs:List TV)(ms:List Bool)(as:List A)(aw:List Nat)(lent:List (C×List Nat×List Nat))(vs:List Value),
  fy H tvs ms=some (as,aw,lent)->tvs.length=vs.length->(∀(i:Nat)(t:TV)(v:Value),tvs[i]?=some t->vs[i]?=some v->eU S w Kn φ t v)->
  KV (SB S w φ (av H) aw) w as vs ((lent.flatMap (·.2.1)).flatMap (fX w φ (av H)))/\(∀i∈lent.flatMap (·.2.1),∃o,av H i=some o/\cq o=true)/\Ew Kn φ S w lent (lp as vs):=by
 intro tvs;induction tvs with
 |nil=>
  intro ms as aw lent vs h hl hr;obtain⟨rfl,rfl,rfl⟩:[]=as/\[]=aw/\[]=lent:=by simpa[fy]using h
  obtain rfl:vs=[]:=List.length_eq_zero_iff.1 hl.symm;exact⟨rfl,fun i hi=>by simp at hi,.nil⟩
 |cons t tvs ih=>
  intro ms as aw lent vs h hl hr;cases vs with
  |nil=>simp at hl
  |cons v vs=>
   have h0:=hr 0 t v rfl rfl;simp only[fy]at h;split at h
   .simp at h
   .rename_i as1 ids1 lent1 hrec;obtain⟨i1,i2,i3⟩:=ih ms.tail as1 ids1 lent1 vs hrec (by simpa using hl) (fun i t v hi hv=>hr (i+1) t v (by simpa using hi) (by simpa using hv));split at h
    .split at h
     .rename_i c;split at h
      .rename_i t0 bn rd hp;obtain⟨rfl,rfl,rfl⟩:A.mt t0::as1=as/\ids1=aw/\(c,bn,rd)::lent1=lent:=by simpa using h
       cases h0 with
       |c h0=>
        obtain⟨p1,p2⟩:=(pV hI 300).1 c t0 bn rd v hp h0;refine⟨⟨bn.flatMap (fX w φ (av H)),_,by simp,p1.mono (SB.r_ _) (fun _ _=>rfl),i1⟩,fun i hi=>?_,.cons h0 i3⟩;rcases ak.1 (by simpa using hi:i∈bn++lent1.flatMap (·.2.1))with hi|hi
        .exact p2 i hi
        .exact i2 i hi
      .simp at h
     .simp at h
    .split at h
     .rename_i c;split at h
      .rename_i x i hp;obtain⟨rfl,rfl,rfl⟩:A.d x::as1=as/\i++ids1=aw/\lent1=lent:=by simpa using h
       cases h0 with|c h0=>have p1:=(rV hI 300).1 c x i v hp h0;refine⟨⟨[],_,rfl,⟨p1.mono (SB.Ay _ _ fun j hj=>by simp[hj]),rfl⟩,?_⟩,i2,i3⟩;exact i1.Ay (SB.Ay _ _ fun j hj=>by simp[hj])
      .simp at h
     .rename_i cs;split at h
      .rename_i xs i hp;obtain⟨rfl,rfl,rfl⟩:A.agg xs::as1=as/\i++ids1=aw/\lent1=lent:=by simpa using h
       cases h0 with
       |@agg _ aJ hlen h0=>
        obtain⟨q1,q2⟩:=pE hI cs xs i hp (fun i=>aJ[i]?) (fun i c hi=>by
         have hlt:i<aJ.size:=by rw[<-hlen];exact(ai.1 hi).1
         exact⟨aJ.getD i undef,by simp[hlt],h0 i c hi⟩)
        refine⟨⟨[],_,rfl,⟨aJ,rfl,q1.trans hlen,fun j x hj=>?_,rfl⟩,?_⟩,i2,i3⟩
        .obtain ⟨y,hy,hd⟩:=q2 j x hj;have hy':aJ[j]?=some y:=hy;have e1:aJ.getD j undef=y:=by simp[hy']
         rw[e1];exact hd.mono (SB.Ay _ _ fun k hk=>by simp[hk])
        .exact i1.Ay (SB.Ay _ _ fun j hj=>by simp[hj])
      .simp at h
     .simp at h
end
section
variable{P:Program}{S K:Nat->Prop}{w0 w:World}{Kn:Nat->Prop}{φ:Nat->fE}{hf:Nat->Option Ob}{H:bz}{e:iE}{ρ:Operand->Value}{o:Oper}{call:Call}
 {nxt n':Nat} {v:TV} {u:eG} {aw:List Nat}
theorem qd.Mv{fa fb:List Nat}{n m:Nat}{φ1:Nat->fE}(hI:Inv S K w0 Kn φ hf w)(h:qd S K w0 w Kn φ hf fa n m u φ1)(ha:gq w φ hf fb)(hd:∀x∈fa,x∉fb):gq w φ1 (bg u hf) fb:=by
 intro j o hj hown x hx hm;by_cases hu:∃p∈u,p.1=j
 .obtain ⟨p,hp,rfl⟩:=hu;exact hd _ (h.bA p hp x hx) hm
 .have hfn:bX u j=none:=jP fun p hp e=>hu ⟨p,hp,e⟩;have hj':=hj;simp only[bg,hfn]at hj';have hk:=(hI.gg j o hj').1;rw[ff (h.qB.dw j hk) (hj.trans hj'.symm)]at hx;exact ha j o hj' hown x hx hm
theorem FK(r:R)(nxt:Nat)(v:Value)(fp:List Nat)(hI:Inv S K w0 Kn φ hf w)(hfr:∀j,nxt<=j->j<(uK nxt r).2.2->¬Kn j)(h:RR S w r v fp)(hn:fp.Nodup)(hSK:∀b∈fp,¬S b/\¬K b)(ha:gq w φ hf fp):
  ∃φ',qd S K w0 w Kn φ hf fp nxt (uK nxt r).2.2 (uK nxt r).2.1 φ'/\eU S w (mE Kn nxt (uK nxt r).2.2) φ' (uK nxt r).1 v:=by
 cases r with|c t=>obtain⟨φ',h1,h2⟩:=tO t nxt v fp hI hfr h hn hSK ha;exact⟨φ',h1,.c h2⟩|agg ts=>obtain⟨aJ,fps,rfl,h1,h2,rfl,h3⟩:=h;obtain⟨φ',h4,h5,h6⟩:=qW ts nxt (fun i=>aJ.getD i undef) fps hI hfr h2 h3 hn hSK ha;exact⟨φ',h4,.agg (h5.trans h1) h6⟩
theorem Np(r:R)(nxt:Nat):nxt<=(uK nxt r).2.2:=by cases r with|c t=>exact HI t nxt|agg ts=>exact tN ts nxt
theorem lN(nxt:Nat)(r:R)(rs:List R):fV nxt (r::rs)=((uK nxt r).1::(fV (uK nxt r).2.2 rs).1,(uK nxt r).2.1++(fV (uK nxt r).2.2 rs).2.1,(fV (uK nxt r).2.2 rs).2.2):=rfl
theorem EC:∀(rs:List R)(nxt:Nat),nxt<=(fV nxt rs).2.2:=by intro rs;induction rs with|nil=>intro nxt;exact ao _|cons r rs ih=>intro nxt;rw[lN];exact dD (Np r nxt) (ih _)
theorem CL:∀(rs:List R){Kn:Nat->Prop}{φ:Nat->fE}{hf:Nat->Option Ob}(nxt:Nat)(vs:List Value)(fp:List Nat),Inv S K w0 Kn φ hf w->(∀j,nxt<=j->j<(fV nxt rs).2.2->¬Kn j)->CB S w rs vs fp->fp.Nodup->
  (∀b∈fp,¬S b/\¬K b)->gq w φ hf fp->
  ∃φ',qd S K w0 w Kn φ hf fp nxt (fV nxt rs).2.2 (fV nxt rs).2.1 φ'/\(fV nxt rs).1.length=vs.length/\
   ∀(i:Nat)(t:TV)(v:Value),(fV nxt rs).1[i]?=some t->vs[i]?=some v->eU S w (mE Kn nxt (fV nxt rs).2.2) φ' t v:=by
 intro rs;induction rs with
 |nil=>intro Kn φ hf nxt vs fp hI hfr h hn hSK ha;cases vs with|cons v vs=>exact h.elim|nil=>obtain rfl:fp=[]:=h;exact⟨φ,qd.nil hI _ _,rfl,fun i t v hi=>by simp[fV]at hi⟩
 |cons r rs ih=>
  intro Kn φ hf nxt vs fp hI hfr h hn hSK ha;cases vs with
  |nil=>exact h.elim
  |cons v vs=>
   obtain⟨f1,f2,rfl,h1,h2⟩:=h;rw[bR]at hn;obtain⟨hn1,hn2,hn3⟩:=hn;simp only[ak]at hSK;obtain⟨φ1,hL1,hr1⟩:=FK r nxt v f1 hI (fun j hj hj2=>hfr j hj (by rw[lN];exact ci hj2 (EC rs _))) h1 hn1 (fun b hb=>hSK b (.inl hb)) (fun j o hj hown x hx hm=>ha j o hj hown x hx (by simp[hm]))
   obtain⟨φ2,hL2,hlen,hr2⟩:=ih (Kn:=mE Kn nxt (uK nxt r).2.2) (φ:=φ1) (hf:=bg (uK nxt r).2.1 hf) (uK nxt r).2.2 vs f2 hL1.inv (fun j hj hj2 hk=>by
    rcases hk with hk|hk
    .have:=hL1.le;exact hfr j (by omega) (by rw[lN];exact hj2) hk
    .omega) h2 hn2 (fun b hb=>hSK b (.inr hb)) (hL1.Mv hI (fun j o hj hown x hx hm=>ha j o hj hown x hx (by simp[hm])) fun x hx hx2=>hn3 x hx x hx2 rfl)
   have hcomp:=hL1.nW hL2;have hcm:bg ((fV (uK nxt r).2.2 rs).2.1++(uK nxt r).2.1) hf=bg ((uK nxt r).2.1++(fV (uK nxt r).2.2 rs).2.1) hf:=kQ fun p hp q hq e=>by have h1:=hL2.fG p hp;have h2:=hL1.fG q hq;omega
   have hsub:∀i,mE (mE Kn nxt (uK nxt r).2.2) (uK nxt r).2.2 (fV (uK nxt r).2.2 rs).2.2 i->mE Kn nxt (fV (uK nxt r).2.2 rs).2.2 i:=fun i=>(pY hL1.le hL2.le i).1;refine⟨φ2,?_,by simp[lN,hlen],fun i t v' hi hv=>?_⟩
   .simp only[lN];have hsw:∀{p:Nat×Option Ob}{a b:eG},p∈a++b->p∈b++a:=fun hp=>ak.2 (ak.1 hp).symm;exact⟨hcomp.le,hcomp.qB,hcm▸hcomp.inv,fun p hp=>hcomp.fG p (hsw hp),fun p hp x hx=>hcomp.bA p (hsw hp) x (hcm.symm▸hx)⟩
   .cases i with
    |zero=>
     obtain rfl:(uK nxt r).1=t:=by simpa[lN]using hi
     obtain rfl:v=v':=by simpa using hv
     exact(hr1.mono (fw.refl _ _) hL2.qB).kn hsub
    |succ i=>exact(hr2 i t v' (by simpa[lN]using hi) (by simpa using hv)).kn hsub
theorem Inv.put(h:Inv S K w0 Kn φ hf w){i:Nat}(hi:Kn i)(o:Ob)(hfree:cq o=true->∀j b,hf j=some b->cq b=true->j≠i->(φ i).bA∉fX w φ hf j)
  (hro:RO S K w Kn φ (φ i) o)
  (hp:∀sz sl k x,o=.nst sz sl->oW w (φ i) sl k x->x≠(φ i).bA/\(∀j b,hf j=some b->cq b=true->j≠i->x∉fX w φ hf j)/\∀k',oW w (φ i) sl k' x->k'=k:=by intro _ _ _ _ e;cases e):
  Inv S K w0 Kn φ (bg [(i,some o)] hf) w:=by
 have hold:∀j b,bg [(i,some o)] hf j=some b->(j=i/\b=o)\/(j≠i/\hf j=some b):=by
  intro j b hj;rw[bC]at hj;by_cases e:i=j
  .rw [if_pos e]at hj;exact .inl ⟨e.symm,(aa hj).symm⟩
  .rw [if_neg e,dN]at hj;exact .inr ⟨fun q=>e q.symm,hj⟩
 refine h.sI (fw.refl _ _) (Ren.refl _ _) h.qZ h.sk h.lG ?_ ?_ ?_
 .intro id o' ho;rcases hold id o' ho with⟨rfl,rfl⟩|⟨_,ho'⟩
  .exact .inr ⟨hi,hro⟩
  .exact .inl ⟨ho',fun hown=>⟨rfl,((h.gg id o' ho').2.bn hown).1⟩,h.BP ho' fun _ _=>rfl⟩
 .intro a b oa ob ha hb hoa hob hne;rcases hold a oa ha with⟨e1,e2⟩|⟨n1,ha'⟩<;>rcases hold b ob hb with⟨e3,e4⟩|⟨n2,hb'⟩
  .exact absurd (e1.trans e3.symm) hne
  .rw [e1];exact fun e=>hfree (e2▸hoa) b ob hb' hob n2 (dj.2 (.inl e))
  .rw [e3];exact fun e=>hfree (e4▸hob) a oa ha' hoa n1 (dj.2 (.inl e.symm))
  .exact h.ei a b oa ob ha' hb' hoa hob hne
 .intro a sz sl k x ha hpa;rcases hold a _ ha with⟨ea,eo⟩|⟨na,ha'⟩
  .rw [ea]at hpa;obtain⟨p1,p2,p3⟩:=hp sz sl k x eo.symm hpa;refine⟨fun j b hj hown=>?_,fun j sz' sl' k' hj hpj=>?_⟩
   .rcases hold j b hj with⟨ej,_⟩|⟨nj,hj'⟩
    .rw [ej];exact fun e=>p1 e.symm
    .exact fun e=>p2 j b hj' hown nj (dj.2 (.inl e.symm))
   .rcases hold j _ hj with⟨ej,eo2⟩|⟨nj,hj'⟩
    .rw [ej]at hpj;rw[<-eo]at eo2;cases eo2;exact⟨ej.trans ea.symm,p3 k' hpj⟩
    .exact absurd (dj.2 (.inr ⟨sz',sl',k',hj',hpj⟩)) (p2 j _ hj' rfl nj)
  .obtain ⟨p1,p2⟩:=h.sq a sz sl k x ha' hpa;refine⟨fun j b hj hown=>?_,fun j sz' sl' k' hj hpj=>?_⟩
   .rcases hold j b hj with⟨ej,eo⟩|⟨_,hj'⟩
    .rw [ej];exact fun e=>hfree (eo▸hown) a _ ha' rfl na (dj.2 (.inr ⟨sz,sl,k,ha',e▸hpa⟩))
    .exact p1 j b hj' hown
   .rcases hold j _ hj with⟨ej,eo⟩|⟨_,hj'⟩
    .rw [ej]at hpj;exact absurd (dj.2 (.inr ⟨sz,sl,k,ha',hpa⟩)) ((hp sz' sl' k' x eo.symm hpj).2.1 a _ ha' rfl na)
    .exact p2 j sz' sl' k' hj' hpj
structure P_(S K:Nat->Prop)(w0 w:World)(Kn:Nat->Prop)(φ:Nat->fE)(hf:Nat->Option Ob)(fp:List Nat)(owns:List Nat)(nxt m:Nat)(u:eG)(φ':Nat->fE):Prop where
 le:nxt<=m
 qB:Ren Kn φ (mE Kn nxt m) φ'
 inv:Inv S K w0 (mE Kn nxt m) φ' (bg u hf) w
 DP:∀p∈u,p.1∈owns\/(nxt<=p.1/\p.1<m)
 Pa:∀i∈owns,(bX u i).isSome=true
 bA:∀i o,bg u hf i=some o->cq o=true->(i∈owns\/(nxt<=i/\i<m))->∀x∈fX w φ' (bg u hf) i,x∈fp
def iK(l:List (C×List Nat×List Nat)):List Nat:=l.flatMap (·.2.1)
theorem pm(bn:List Nat)(j:Nat):bX (bn.map fun i=>((i,none):Nat×Option Ob)) j=if j∈bn then some none else none:=by
 induction bn with
 |nil=>rfl
 |cons a l ih=>
  simp only[aq,bX];by_cases e:a=j
  .simp [e]
  .have e':(a==j)=false:=by simpa using e
   have e2:¬j=a:=fun h=>e h.symm;simp[e',ih,e2]
theorem RC.NL{id off:Nat}{v:Value}(h:RC S w Kn φ (.op id off) v):v=.pointer (some ⟨(φ id).bA,(φ id).aL+off,none⟩)/\Kn id:=by cases h with|op hk=>exact⟨rfl,hk⟩
theorem kP.HH{w:World}{b:Nat}{a a':Array Value}(h:kP w b a)(h':kP w b a'):a=a':=by obtain⟨t,h⟩:=h;obtain⟨t',h'⟩:=h';rw[h]at h';simp at h';exact h'.1
theorem p9{α:Type}{u:List (Nat×α)}{id:Nat}{x:α}(h:bX u id=some x):∃p∈u,p.1=id:=by
 induction u with
 |nil=>simp[bX]at h
 |cons p r ih=>
  obtain⟨i,y⟩:=p;by_cases e:i=id
  .exact ⟨(i,y),by simp,e⟩
  .have e2:(i==id)=false:=by simpa using e
   simp only[bX,e2,cond_false]at h;obtain⟨p,hp,hpe⟩:=ih h;exact⟨p,by simp[hp],hpe⟩
theorem yR:∀(l:List (C×List Nat×List Nat))(outs:List T)(nxt:Nat)(bu:eG)(m:Nat),dv nxt l outs=some (bu,m)->nxt<=m:=by
 intro l;induction l with
 |nil=>
  intro outs nxt bu m h;cases outs with
  |nil=>obtain⟨_,rfl⟩:[]=bu/\nxt=m:=by simpa[dv]using h
        exact ao _
  |cons t ts=>simp[dv]at h
 |cons p l ih=>
  obtain⟨c,bn,rd⟩:=p;intro outs nxt bu m h;cases outs with
  |nil=>unfold dv at h;simp at h
  |cons t outs=>
   unfold dv at h;split at h
   .simp at*
   .rename_i heq1 heq2;simp only[dg,cO]at heq1 heq2;obtain⟨_,rfl⟩:=heq1;exact ih _ _ _ _ h
   .rename_i heq1 heq2;simp only[dg,cO]at heq1 heq2;obtain⟨_,rfl⟩:=heq1;split at h
    .rename_i w2 k hrec;split at h
     .obtain ⟨_,rfl⟩:=ad (aa h);exact dD (tN _ _) (ih _ _ _ _ hrec)
     .simp at h
    .simp at h
   .rename_i heq1 heq2;simp only[dg,cO]at heq1 heq2;obtain⟨_,rfl⟩:=heq1;split at h
    .split at h
     .rename_i w2 k hrec;obtain⟨_,rfl⟩:=ad (aa h);exact ih _ _ _ _ hrec
     .simp at h
    .simp at h
   .rename_i heq1 heq2;simp only[dg,cO]at heq1 heq2;obtain⟨_,rfl⟩:=heq1;split at h
    .split at h
     .rename_i w2 k hrec;obtain⟨_,rfl⟩:=ad (aa h);exact ih _ _ _ _ hrec
     .simp at h
    .simp at h
   .rename_i heq1 heq2;simp only[dg,cO]at heq1 heq2;obtain⟨_,rfl⟩:=heq1;split at h
    .rename_i w2 k hrec;obtain⟨_,rfl⟩:=ad (aa h);exact ih _ _ _ _ hrec
    .simp at h
   .simp at h
theorem BL{H0:bz}{S0 K0:Nat->Prop}{wp wz:World}{Kn0:Nat->Prop}{φ0:Nat->fE}(hI0:Inv S0 K0 wz Kn0 φ0 (av H0) wp){id len:Nat}
  (hw:(match av H0 id with|some (.aJ _ aj)=>(0==0)&&len==aj.length|some (.nst _ slots)=>(0==0)&&len==slots.length|_=>false)=true):
  ∃aJ,kP wp (φ0 id).bA aJ/\aJ.size=(φ0 id).ext/\(φ0 id).aL+len*(φ0 id).sz<=(φ0 id).ext/\len<=(φ0 id).cap:=by
 split at hw
 .rename_i sz aj ho;obtain⟨_,h0⟩:=hI0.gg _ _ ho;have hl:len=aj.length:=by simpa using hw
  subst hl;cases h0 with|aJ hsz hl hS hK hown hext hfit hr hv=>exact⟨_,hown,hext,by rw[hl];exact hfit,hv⟩
 .rename_i sz slots ho;obtain⟨_,h0⟩:=hI0.gg _ _ ho;have hl:len=slots.length:=by simpa using hw
  subst hl;cases h0 with|nst hsz hl hS hK hown hext hfit hr hv=>exact⟨_,hown,hext,by rw[hl,iV];exact hfit,hv⟩
 .cases hw
theorem Eo{H0:bz}{S0:Nat->Prop}{wp:World}{Kn0:Nat->Prop}{φ0:Nat->fE}{K0:Nat->Prop}{wz:World}(hI0:Inv S0 K0 wz Kn0 φ0 (av H0) wp)(hgrow:∀b aJ,kP wp b aJ->∃arr',kP w b arr'/\arr'.size=aJ.size):
  ∀(l:List (C×List Nat×List Nat))(vs:List Value)(outs:List T)(fp:List Nat){Kn:Nat->Prop}{φ:Nat->fE}{hf:Nat->Option Ob}(nxt:Nat)(bu:eG)(m:Nat),
  Ew Kn0 φ0 S0 wp l vs->dU H0 l=true->KJ S w outs vs fp->Inv S K w0 Kn φ hf w->(∀j,nxt<=j->j<m->¬Kn j)->Ren Kn0 φ0 Kn φ->fp.Nodup->(∀b∈fp,¬S b/\¬K b)->gq w φ hf fp->
  (∀i∈iK l,hf i=none/\Kn0 i)->(iK l).Nodup->dv nxt l outs=some (bu,m)->∃φ',P_ S K w0 w Kn φ hf fp (iK l) nxt m bu φ':=by
 intro l;induction l with
 |nil=>
  intro vs outs fp Kn φ hf nxt bu m hl hw hr hI hfr hren hn hSK ha hown hon h;cases hl;cases outs with
  |cons t ts=>exact hr.elim
  |nil=>
   obtain⟨rfl,rfl⟩:[]=bu/\nxt=m:=by simpa[dv]using h
   exact⟨φ,ao _,ol _ _,hI.kn fun _ hi=>.inl hi,fun p hp=>by simp at hp,fun i hi=>by simp[iK]at hi,fun i o _ _ hx=>by
    rcases hx with hx|hx
    .simp [iK]at hx
    .omega⟩
 |cons p l ih=>
  obtain⟨c,bn,rd⟩:=p;intro vs outs fp Kn φ hf nxt bu m hl hw hr hI hfr hren hn hSK ha hown hon h;cases hl with
  |@cons _ _ _ _ v vs hc hl=>
  cases outs with
  |nil=>exact hr.elim
  |cons t outs=>
   obtain⟨f1,f2,rfl,hr1,hr2⟩:=hr;rw[bR]at hn;obtain⟨hn1,hn2,hn3⟩:=hn;simp only[ak]at hSK;have ha1:gq w φ hf f1:=fun j o hj hown x hx hm=>ha j o hj hown x hx (by simp[hm]);have ha2:gq w φ hf f2:=fun j o hj hown x hx hm=>ha j o hj hown x hx (by simp[hm]);have ho1:∀i∈bn,hf i=none/\Kn0 i:=fun i hi=>hown i (by simp[iK,hi]);have ho2:∀i∈iK l,hf i=none/\Kn0 i:=fun i hi=>hown i (by simp only[iK,bf,ak];exact .inr hi);have hoc:iK ((c,bn,rd)::l)=bn++iK l:=rfl;rw[hoc,bR]at hon;obtain⟨hon1,hon2,hon3⟩:=hon;have hw2:dU H0 l=true:=by cases c<;>simp only[dU,af]at hw<;>first|exact hw|exact hw.2
   have fin:∀(id:Nat)(ob:Ob)(w2:eG)(k:Nat),bn=[id]->(bu,m)=((id,some ob)::w2,k)->dv nxt l outs=some (w2,k)->Inv S K w0 Kn φ (bg [(id,some ob)] hf) w->(∀x∈fX w φ (bg [(id,some ob)] hf) id,x∈f1)->
     ∃φ',P_ S K w0 w Kn φ hf (f1++f2) (iK ((c,bn,rd)::l)) nxt m bu φ':=by
    intro id ob w2 k hownid hbm hrec hput hblk;subst hownid;obtain⟨rfl,rfl⟩:=ad hbm;obtain⟨hidn,hidk0⟩:=ho1 id (by simp);have hidk:=hren.sub id hidk0;have hφ:=hren.dw id hidk0;have hidlt:¬(nxt<=id/\id<m):=fun h=>hfr id h.1 h.2 hidk
    obtain⟨φ2,hB⟩:=ih vs outs f2 nxt w2 m hl hw2 hr2 hput hfr hren hn2 (fun b hb=>hSK b (.inr hb))
     (fun j o hj hown x hx hm=>by
      have hj':=hj;rw[bC]at hj';split at hj'
      .rename_i e;subst e;exact hn3 x (hblk x hx) x hm rfl
      .rw [ff rfl (hj.trans hj'.symm)]at hx;exact ha2 j o hj' hown x hx hm)
     (fun i hi=>by obtain⟨h1,h2⟩:=ho2 i hi;refine⟨?_,h2⟩;have hne:¬id=i:=fun e=>hon3 id (by simp) i hi e;rw[bC,if_neg hne];exact h1) hon2 hrec
    have hkeys:=hB.DP;have hm2:=hB.le
    have hdis:∀q∈w2,id≠q.1:=fun q hq e=>by
     rcases hkeys q hq with h|h
     .exact hon3 id (by simp) q.1 h e
     .omega
    have heq:bg ((id,some ob)::w2) hf=bg w2 (bg [(id,some ob)] hf):=by rw[<-dO];exact kQ (u:=[(id,some ob)]) fun p hp q hq e=>by rw[am.1 hp]at e;exact hdis q hq e
    refine⟨φ2,hB.le,hB.qB,heq▸hB.inv,fun p hp=>?_,fun i hi=>?_,fun i o hio hownio hi=>?_⟩
    .rw [hoc];rcases aF.1 hp with rfl|hp
     .exact .inl (by simp)
     .rcases hkeys p hp with h|h
      .exact .inl (by simp[h])
      .exact .inr h
    .rw [hoc]at hi;simp only[bX];by_cases e:id=i
     .simp [e]
     .have e':(id==i)=false:=by simpa using e
      simp only[e',cond_false];rcases ak.1 hi with hi|hi
      .exact absurd (am.1 hi).symm e
      .exact hB.Pa i hi
    .rw [heq]at hio|-;intro x hx;by_cases hrest:i∈iK l\/(nxt<=i/\i<m)
     .exact aC _ (hB.bA i o hio hownio hrest x hx)
     .have hi2:i=id:=by
       rcases hi with hi|hi
       .rw [hoc]at hi;rcases ak.1 hi with h|h
        .exact am.1 h
        .exact absurd (.inl h) hrest
       .exact absurd (.inr hi) hrest
      subst hi2;have hwn:bX w2 i=none:=jP fun q hq e=>hdis q hq e.symm
      have hwi:bg w2 (bg [(i,some ob)] hf) i=bg [(i,some ob)] hf i:=by
       conv=>lhs;unfold bg
       rw[hwn];rfl
      rw[ff (hB.qB.dw i hidk) hwi]at hx;exact aE _ (hblk x hx)
   unfold dv at h;split at h
   .simp at*
   .--nothing was owned
    rename_i heq1 heq2;simp only[dg,cO]at heq1 heq2;obtain⟨⟨rfl,rfl,rfl⟩,rfl⟩:=heq1;obtain⟨rfl,rfl⟩:=heq2;have hr1:=hr1.resolve_left fun h=>by cases h.1
    have e0:f1=[]:=by cases hr1;rfl
    subst e0;obtain⟨φ',hB⟩:=ih vs outs f2 nxt bu m hl hw2 hr2 hI hfr hren hn2 (fun b hb=>hSK b (.inr hb)) ha2 ho2 hon2 h;exact⟨φ',hB.le,hB.qB,hB.inv,hB.DP,hB.Pa,hB.bA⟩
   .--a box
    rename_i id own' rd' r ts' ts heq1 heq2;simp only[dg,cO]at heq1 heq2;obtain⟨⟨rfl,rfl,rfl⟩,rfl⟩:=heq1;obtain⟨rfl,rfl⟩:=heq2;split at h
    .rename_i w2 k hrec;split at h
     .rename_i hcon;obtain⟨rfl,rfl⟩:(id,some (Ob.box (gC nxt ts').1))::(gC nxt ts').2.1++bn.map (fun i=>((i,none):Nat×Option Ob))++w2=bu/\k=m:=by simpa using h
      have hid:id∈bn:=by simpa using hcon
      obtain⟨hidn,hidk0⟩:=ho1 id hid;have hidk:=hren.sub id hidk0;have hφ:=hren.dw id hidk0;obtain⟨hv,_⟩:=hc.NL;have hr1:=hr1.resolve_left fun h=>by cases h.1
      cases hr1 with
      |@pt _ b aJ fps hown0 hlen hfl hrec2=>
      simp only[Value.pointer.injEq,bl,Addr.mk.injEq]at hv;obtain⟨hb,hbase,_⟩:=hv;rw[<-hφ]at hb hbase;have hbase0:(φ id).aL=0:=by omega
      rw[e_]at hn1;have hmk:=yR _ _ _ _ _ hrec;have hidlt:¬(nxt<=id/\id<k):=fun h=>hfr id h.1 h.2 hidk
      obtain⟨φ1,hL,hcl,hcr⟩:=qW ts' nxt (fun i=>aJ.getD i undef) fps hI (fun j hj hj2=>hfr j hj (by omega)) hfl hrec2 hn1.2 (fun b' hb'=>hSK b' (.inl (aA _ hb')))
       (fun j o hj hown x hx hm=>ha1 j o hj hown x hx (aA _ hm))
      have hm1:=hL.le;have hφ1:φ1 id=φ id:=hL.qB.dw id hidk;have hul:bX (gC nxt ts').2.1 id=none:=jP fun p hp e=>by have:=hL.fG p hp;omega
      have hdead:bg (gC nxt ts').2.1 hf id=none:=by simp only[bg,hul,hidn]
      have hawb:gq w φ1 (bg (gC nxt ts').2.1 hf) [b]:=hL.Mv hI (fun j o hj hown x hx hm=>ha1 j o hj hown x hx (by rw[am.1 hm];simp)) fun x hx hx2=>hn1.1 (by rw[<-am.1 hx2];exact hx)
      have hput:=hL.inv.put (i:=id) (.inl hidk) (.box (gC nxt ts').1) (fun _ j o hj hown hne hm=>by rw[hφ1,<-hb]at hm;exact hawb j o hj hown b hm (by simp))
       (.box (by rw[hφ1];exact hbase0) (by rw[hφ1,<-hb];exact(hSK b (.inl (by simp))).1) (by rw[hφ1,<-hb];exact(hSK b (.inl (by simp))).2) (by rw[hφ1,<-hb];exact hown0) (hcl.trans hlen) hcr)
      have hav2:gq w φ1 (bg (gC nxt ts').2.1 hf) f2:=hL.Mv hI ha2 fun x hx hx2=>hn3 x (aA _ hx) x hx2 rfl;have hult:∀i,¬(nxt<=i/\i<k)->bX (gC nxt ts').2.1 i=none:=fun i hi=>jP fun p hp e=>by have:=hL.fG p hp;omega
      have hownlt:∀i,Kn0 i->¬(nxt<=i/\i<k):=fun i hi h=>hfr i h.1 h.2 (hren.sub i hi);rw[<-dO]at hput
      obtain⟨φ2,hB⟩:=ih vs outs f2 (gC nxt ts').2.2 w2 k hl hw2 hr2 hput (fun j hj hj2 hk=>by
        rcases hk with hk|hk
        .exact hfr j (by omega) hj2 hk
        .omega) ⟨fun i hi=>.inl (hren.sub i hi),fun i hi=>(hL.qB.dw i (hren.sub i hi)).trans (hren.dw i hi)⟩ hn2 (fun b hb=>hSK b (.inr hb))
       (fun j o hj hown x hx hm=>by
        have hj':=hj;rw[aU,bC]at hj';split at hj'
        .rename_i e;subst e;rw[nU (fun _ _ e=>by rw[aU,bC,if_pos rfl]at e;cases e),hφ1,<-hb]at hx;rw[am.1 hx]at hm;exact hn3 b (by simp) b hm rfl
        .rw [ff rfl (hj.trans hj'.symm)]at hx;exact hav2 j o hj' hown x hx hm)
       (fun i hi=>by obtain⟨h1,h2⟩:=ho2 i hi;refine⟨?_,h2⟩;have hne:¬id=i:=fun e=>hon3 id hid i hi e;rw[aU,bC,if_neg hne];simp only[bg,hult i (hownlt i h2),h1]) hon2 hrec
      have hkeys:=hB.DP;have hm2:=hB.le
      have hdis:∀j x,bX w2 j=some x->j≠id/\j∉bn/\bX (gC nxt ts').2.1 j=none:=by
       intro j x hx;obtain⟨p,hp,rfl⟩:=p9 hx;rcases hkeys p hp with h|h
       .exact ⟨fun e=>hon3 id hid p.1 h e.symm,fun e=>hon3 p.1 e p.1 h rfl,hult _ (hownlt _ (ho2 _ h).2)⟩
       .refine ⟨fun e=>by omega,fun e=>by have:=hownlt _ (ho1 _ e).2;omega,jP fun q hq e=>?_⟩;have:=hL.fG q hq;omega
      have heq:bg ((id,some (Ob.box (gC nxt ts').1))::(gC nxt ts').2.1++bn.map (fun i=>((i,none):Nat×Option Ob))++w2) hf=bg w2 (bg ([(id,some (Ob.box (gC nxt ts').1))]++(gC nxt ts').2.1) hf):=by
       have hno:bg (bn.map (fun i=>((i,none):Nat×Option Ob))) (bg w2 hf)=bg w2 hf:=by
        funext j
        conv=>lhs;unfold bg
        rw[pm];by_cases hjo:j∈bn
        .rw [if_pos hjo];have hwj:bX w2 j=none:=by cases hx:bX w2 j with|none=>rfl|some x=>exact absurd hjo (hdis j x hx).2.1
         simp only[bg,hwj,(ho1 j hjo).1]
        .rw [if_neg hjo];rfl
       rw[dO,dO,hno,<-dO,<-dO];refine kQ fun p hp q hq e=>?_;rcases hkeys q hq with h|h
       .rcases aF.1 hp with rfl|hp
        .exact hon3 id hid q.1 h e
        .have:=hL.fG p hp;have:=hownlt _ (ho2 _ h).2;omega
       .rcases aF.1 hp with rfl|hp
        .simp only at e;omega
        .have:=hL.fG p hp;omega
      refine⟨φ2,by omega,⟨fun i h=>.inl h,fun i h=>(hB.qB.dw i (.inl h)).trans (hL.qB.dw i h)⟩,?_,fun p hp=>?_,fun i hi=>?_,fun i o hio hownio hi=>?_⟩
      .rw [heq];exact hB.inv.rC fun i=>pY hm1 hm2 i
      .rw [hoc];simp only[aO,aP,aF,ak,cz]at hp;rcases hp with rfl|hp|⟨i,hi,rfl⟩|hp
       .exact .inl (by simp[hid])
       .have:=hL.fG p hp;exact .inr (by omega)
       .exact .inl (by simp[hi])
       .rcases hkeys p hp with h|h
        .exact .inl (by simp[h])
        .exact .inr (by omega)
      .rw [hoc]at hi;simp only[aO,aP,bX,fP,pm];rcases ak.1 hi with hi|hi
       .by_cases e:id=i
        .simp [e]
        .have e':(id==i)=false:=by simpa using e
         simp only[e',cond_false,if_pos hi];cases bX (gC nxt ts').2.1 i<;>rfl
       .have hs:=hB.Pa i hi;obtain⟨x,hx⟩:=fY.1 hs;obtain⟨h1,h2,h3⟩:=hdis i x hx;have e':(id==i)=false:=by simpa using fun e=>h1 e.symm
        simp only[e',cond_false,h3,if_neg h2,hx,Option.isSome_some]
      .rw [heq]at hio|-;intro x hx;by_cases hrest:i∈iK l\/((gC nxt ts').2.2<=i/\i<k)
       .exact aC _ (hB.bA i o hio hownio hrest x hx)
       .refine aE _ ?_
        have hw2n:bX w2 i=none:=jP fun q hq e=>by
         rcases hkeys q hq with h|h
         .exact hrest (.inl (e▸h))
         .exact hrest (.inr (e▸h))
        have hi2:i∈bn\/(nxt<=i/\i<(gC nxt ts').2.2):=by
         rcases hi with hi|hi
         .rw [hoc]at hi;rcases ak.1 hi with h|h
          .exact .inl h
          .exact absurd (.inl h) hrest
         .exact .inr ⟨hi.1,by
           rcases dC i (gC nxt ts').2.2 with h|h
           .exact h
           .exact absurd (.inr ⟨h,hi.2⟩) hrest⟩
        have hkn:mE Kn nxt (gC nxt ts').2.2 i:=by
         rcases hi2 with h|h
         .exact .inl (hren.sub i (ho1 i h).2)
         .exact .inr h
        have hwi:bg w2 (bg ([(id,some (Ob.box (gC nxt ts').1))]++(gC nxt ts').2.1) hf) i=bg ([(id,some (Ob.box (gC nxt ts').1))]++(gC nxt ts').2.1) hf i:=by
         conv=>lhs;unfold bg
         rw[hw2n];rfl
        rw[ff (hB.qB.dw i hkn) hwi]at hx;by_cases e:id=i
        .subst e;rw[nU (fun _ _ e=>by rw[aU,bC,if_pos rfl]at e;cases e),hφ1,<-hb]at hx;rw[am.1 hx];simp
        .rcases hi2 with h|h
         .exfalso
          have h1:bg w2 (bg ([(id,some (Ob.box (gC nxt ts').1))]++(gC nxt ts').2.1) hf) i=hf i:=by
           simp only[bg,hw2n,aU,bX];have e':(id==i)=false:=by simpa using e
           simp only[e',cond_false,hult i (hownlt i (ho1 i h).2)]
          rw[h1,(ho1 i h).1]at hio;simp at hio
         .have e':(id==i)=false:=by simpa using e
          cases hfu:bX (gC nxt ts').2.1 i with
          |none=>
           exfalso;have h1:bg w2 (bg ([(id,some (Ob.box (gC nxt ts').1))]++(gC nxt ts').2.1) hf) i=hf i:=by simp only[bg,hw2n,aU,bX,e',cond_false,hfu]
           rw[h1]at hio;exact hfr i h.1 (by omega) (hI.gg i o hio).1
          |some x'=>
           obtain⟨p,hp,rfl⟩:=p9 hfu;have hwp:bg ([(id,some (Ob.box (gC nxt ts').1))]++(gC nxt ts').2.1) hf p.1=bg (gC nxt ts').2.1 hf p.1:=by rw[aU,bC,if_neg e]
           rw[ff rfl hwp]at hx;exact aA _ (hL.bA p hp x hx)
     .simp at h
    .simp at h
   .--an array
    rename_i sz id len own' rd' r sz' aj ts heq1 heq2;simp only[dg,cO]at heq1 heq2;obtain⟨⟨rfl,rfl,rfl⟩,rfl⟩:=heq1;obtain⟨rfl,rfl⟩:=heq2;split at h
    .rename_i hcond;obtain⟨hrl,hszz,hownid⟩:=hcond;subst hownid;split at h
     .rename_i w2 k hrec;obtain⟨rfl,rfl⟩:(id,some (Ob.aJ sz aj))::w2=bu/\k=m:=by simpa using h
      obtain⟨hidn,hidk0⟩:=ho1 id (by simp);have hφ:=hren.dw id hidk0;obtain⟨cap,addr,hv,hszl,hk0,hcap,haddr,hextc,hcl⟩:=hc.gE;have hr1:=hr1.resolve_left fun h=>by cases h.1
      cases hr1 with
      |@sl _ _ b off len1 cap1 aJ hsz0 hown0 hlen1 hcap1 hext1 hrr=>
      simp only[Value.slice.injEq,bl,Addr.mk.injEq]at hv;obtain⟨⟨hb,hoff,_⟩,hlen2,hcap2⟩:=hv;subst hszz;simp only[dU,af]at hw;obtain⟨arr0,hown1,hext0,hfit0,hv0⟩:=BL hI0 hw.1;obtain⟨arr1,hown2,hsize2⟩:=hgrow _ _ hown1;rw[hb]at hown0;obtain rfl:=hown0.HH hown2;have hb1:=hSK (φ0 id).bA (.inl (by simp[hb]))
      refine fin id (.aJ sz' aj) w2 k rfl rfl hrec (hI.put (i:=id) (hren.sub id hidk0) (.aJ sz' aj) (fun _ j o hj hown hne hm=>by rw[hφ,<-hb]at hm;exact ha1 j o hj hown b hm (by simp))
       (.aJ hsz0 (by rw[hφ];exact hszl) (by rw[hφ];exact hb1.1) (by rw[hφ];exact hb1.2) (by rw[hφ];exact hown2) (by rw[hφ,<-hext0];exact hsize2)
        (by rw[hφ,hrl,<-hszl];exact hfit0) (by
         rw[hφ];cases aj with
         |nil=>exact⟨fun i r hi=>by simp at hi,fun i r hi=>by simp at hi⟩
         |cons q aj=>
          have:off=(φ0 id).aL:=by rw[hoff,haddr (by simp only[List.length_cons]at hrl;omega)];simp
          rw[<-this];exact hrr) (by rw[hφ,hrl];exact hv0))) fun x hx=>?_
      rw[nU (fun _ _ e=>by rw[bC,if_pos rfl]at e;cases e),hφ,<-hb]at hx;exact hx
     .simp at h
    .simp at h
   .--a cC of aj
    rename_i sz id len own' rd' r szi aj ts heq1 heq2;simp only[dg,cO]at heq1 heq2;obtain⟨⟨rfl,rfl,rfl⟩,rfl⟩:=heq1;obtain⟨rfl,rfl⟩:=heq2;split at h
    .rename_i hcond;obtain⟨hrl,hszz,hownid⟩:=hcond;subst hownid;split at h
     .rename_i w2 k hrec;obtain⟨rfl,rfl⟩:(id,some (Ob.nst szi (aj.map lf)))::w2=bu/\k=m:=by simpa using h
      obtain⟨hidn,hidk0⟩:=ho1 id (by simp);have hφ:=hren.dw id hidk0;obtain⟨cap,addr,hv,hszl,hk0,hcap,haddr,hextc,hcl⟩:=hc.gE;have hr1:=hr1.resolve_left fun h=>by cases h.1
      cases hr1 with
      |@xC _ _ b off cap1 aJ fps hsz0 hown0 hcap1 hext1 hfl hrr=>
      simp only[Value.slice.injEq,bl,Addr.mk.injEq]at hv;obtain⟨⟨hb,hoff,_⟩,hlen2,hcap2⟩:=hv;subst hszz;simp only[dU,af]at hw;obtain⟨arr0,hown1,hext0,hfit0,hv0⟩:=BL hI0 hw.1;obtain⟨arr1,hown2,hsize2⟩:=hgrow _ _ hown1;rw[hb]at hown0;obtain rfl:=hown0.HH hown2;rw[e_]at hn1;have hb1:=hSK b (.inl (by simp));have hbase:∀i,i<aj.length->off+i=(φ0 id).aL+i:=fun i hi=>by rw[hoff,haddr (by omega)];simp
      have hget:∀i,w.cell? ⟨(φ id).bA,i,none⟩=aJ[i]?:=by rw[hφ];exact hown2.cell
      have hpat:∀k x,oW w (φ id) (aj.map lf) k x->∃fp,fps[k]?=some fp/\fp=[x]:=by rintro k x ⟨rs,v,h1,h2,h3⟩;rw[aD]at h1;obtain⟨r,hr1,hr2⟩:=aB.1 h1;have hlt:=(ai.1 hr1).1;have hf:fps[k]?=some fps[k]:=au (by omega);obtain⟨v',q1,q2⟩:=hrr k r fps[k] hr1 hf;rw[hget,hφ,<-hbase k hlt,q1]at h2;obtain rfl:=aa h2;cases r with|none=>cases hr2|some rows'=>obtain⟨b',q3,q4⟩:=q2;rw[q4.bA]at h3;obtain rfl:=aa h3;exact⟨_,hf,q3⟩
      have hmem:∀k x,oW w (φ id) (aj.map lf) k x->x∈fps.flatten:=fun k x hp=>by obtain⟨fp,h1,rfl⟩:=hpat k x hp;exact df.2 ⟨[x],aQ h1,by simp⟩
      have hbl:(φ id).bA=b:=by rw[hφ,<-hb]
      rw[hszl,iV]at hfit0
      refine fin id (.nst szi (aj.map lf)) w2 k rfl rfl hrec (hI.put (i:=id) (hren.sub id hidk0) (.nst szi (aj.map lf)) (fun _ j o hj hown hne hm=>by rw[hbl]at hm;exact ha1 j o hj hown b hm (by simp))
       (.nst hsz0 (by rw[hφ];exact hszl) (by rw[hbl];exact hb1.1) (by rw[hbl];exact hb1.2) (by rw[hφ];exact hown2) (by rw[hφ,<-hext0];exact hsize2)
        (by rw[hφ,aI,hrl];exact hfit0) (fun i s hi=>by
         rw[aD]at hi;obtain⟨r,hr1,rfl⟩:=aB.1 hi;have hlt:=(ai.1 hr1).1;have hf:fps[i]?=some fps[i]:=au (by omega);obtain⟨v,q1,q2⟩:=hrr i r fps[i] hr1 hf;refine⟨v,by rw[hφ,<-hbase i hlt];exact q1,?_⟩;cases r with
         |none=>obtain⟨rfl,_⟩:=q2;exact .nil
         |some rows'=>obtain⟨b',q3,q4⟩:=q2;have hm:b'∈fps.flatten:=df.2 ⟨fps[i],List.getElem_mem _,by rw[q3];simp⟩;exact .bn q4 (hSK b' (.inl (aA _ hm))).1 (hSK b' (.inl (aA _ hm))).2) (by rw[hφ,aI,hrl];exact hv0))
       fun sz' sl' k x eo hp=>by cases eo;have hm:=hmem k x hp;refine⟨fun e=>hn1.1 (by rw[<-hbl,<-e];exact hm),fun j o hj hown hne hx=>ha1 j o hj hown x hx (aA _ hm),fun k' hp'=>?_⟩;obtain⟨fp,h1,rfl⟩:=hpat k x hp;obtain⟨fp',h2,rfl⟩:=hpat k' x hp';exact B3 hn1.2 h2 h1) fun x hx=>?_
      rcases dj.1 hx with rfl|⟨sz',sl',k',h1,h2⟩
      .rw [hbl];simp
      .rw [bC,if_pos rfl]at h1;cases h1;exact aA _ (hmem k' x h2)
     .simp at h
    .simp at h
   .--it is rD
    rename_i heq1 heq2;simp only[dg,cO]at heq1 heq2;obtain⟨⟨rfl,rfl,rfl⟩,rfl⟩:=heq1;obtain⟨rfl,rfl⟩:=heq2;split at h
    .rename_i w2 k hrec;obtain⟨rfl,rfl⟩:bn.map (fun i=>((i,none):Nat×Option Ob))++w2=bu/\k=m:=by simpa using h
     have e0:f1=[]:=by
      rcases hr1 with h|h
      .exact h.2
      .cases h
     subst e0;obtain⟨φ',hB⟩:=ih vs outs f2 nxt w2 k hl hw2 hr2 hI hfr hren hn2 (fun b hb=>hSK b (.inr hb)) ha2 ho2 hon2 hrec;have hmk:=hB.le;have hkeys:=hB.DP
     have hwn:∀j∈bn,bX w2 j=none:=fun j hj=>by
      cases hx:bX w2 j with
      |none=>rfl
      |some x=>
       obtain⟨p,hp,rfl⟩:=p9 hx;rcases hkeys p hp with h|h
       .exact absurd rfl (hon3 p.1 hj p.1 h)
       .exact absurd (hren.sub _ (ho1 _ hj).2) (hfr p.1 h.1 h.2)
     have heq:bg (bn.map (fun i=>((i,none):Nat×Option Ob))++w2) hf=bg w2 hf:=by
      rw[dO];funext j
      conv=>lhs;unfold bg
      rw[pm];by_cases hjo:j∈bn
      .rw [if_pos hjo];simp only[bg,hwn j hjo,(ho1 j hjo).1]
      .rw [if_neg hjo];rfl
     refine⟨φ',hB.le,hB.qB,heq▸hB.inv,fun p hp=>?_,fun i hi=>?_,fun i o hio hownio hi=>?_⟩
     .rw [hoc];rcases ak.1 hp with hp|hp
      .obtain ⟨j,hj,rfl⟩:=cz.1 hp;exact .inl (aE _ hj)
      .rcases hkeys p hp with h|h
       .exact .inl (aC _ h)
       .exact .inr h
     .rw [hoc]at hi;rw[fP,pm];by_cases hjo:i∈bn
      .rw [if_pos hjo];rfl
      .rw [if_neg hjo];exact hB.Pa i ((ak.1 hi).resolve_left hjo)
     .rw [heq]at hio|-;refine hB.bA i o hio hownio (hi.imp (fun h=>?_) id);rw[hoc]at h;refine(ak.1 h).resolve_left fun hjo=>?_;simp only[bg,hwn i hjo,(ho1 i hjo).1]at hio;cases hio
    .simp at h
   .simp at h
end
section
variable{P:Program}{S K:Nat->Prop}{w0 w w':World}{Kn:Nat->Prop}{φ:Nat->fE}{hf hf':Nat->Option Ob}
theorem BU{idA nxt idR sz len:Nat}{slots:List jf}{l:fE}{arr':Array Value}{v:Value}(hI:Inv S K w0 Kn φ hf w)(hob:hf idA=some (.nst sz slots))
  (hk:∀j b,hf' j=some b->hf j=some b/\j≠idA) (hI':Inv S K w0 Kn φ hf' w') (hs:fw S w S w') (hrest:∀x,x≠(φ idA).bA->x<w.heap.size->w'.heap[x]?=w.heap[x]?) (hn:¬Kn nxt)
  (hblk:l.bA=(φ idA).bA\/w.heap.size<=l.bA) (ho':kP w' l.bA arr') (hl:l.sz=1) (hext:arr'.size=l.ext) (hS:¬S l.bA) (hK:¬K l.bA)
  (hcells:∀i,i<slots.length->arr'[l.aL+i]?=w.cell? ⟨(φ idA).bA,(φ idA).aL+i,none⟩) (hnew:arr'[l.aL+slots.length]?=some v) (hr:RC S w Kn φ (.dz sz idR 0 len) v)
  (hfit:l.aL+(slots.length+1)<=l.ext) (hcap:slots.length+1<=l.cap):
  Inv S K w0 (fun j=>Kn j\/j=nxt) (ext φ nxt l) (bg [(nxt,some (.nst sz (slots++[.jZ idR len])))] hf') w':=by
 obtain⟨hkn,h0⟩:=hI.gg _ _ hob;have hlt:(φ idA).bA<w.heap.size:=(h0.bn rfl).2.2;have hren:Ren Kn φ (fun j=>Kn j\/j=nxt) (ext φ nxt l):=fW _ hn
 -- the places that hold aj of their bn are the old ones
 have hp:∀k x,oW w' l (slots++[.jZ idR len]) k x->k<slots.length/\oW w (φ idA) slots k x:=by
  rintro k x ⟨aj,v',h1,h2,h3⟩
  have hk:k<slots.length:=by
   rcases dC k slots.length with h|h
   .exact h
   .rw [bv h]at h1
    match hd:k-slots.length,h1 with|0,h1=>cases h1|d+1,h1=>cases h1
  rw[bq hk]at h1;rw[ho'.cell,hcells k hk]at h2;exact⟨hk,aj,v',h1,h2,h3⟩
 have hin:∀k x,oW w (φ idA) slots k x->x≠(φ idA).bA/\x<w.heap.size:=fun k x h=>⟨fun e=>(hI.sq idA sz slots k x hob h).1 idA _ hob rfl e.symm,(hI.Dr hob h).2.2.1⟩;have hsame:∀j b,hf' j=some b->cq b=true->w'.heap[(φ j).bA]?=w.heap[(φ j).bA]?:=fun j b hj hb=>by obtain⟨hj',hne⟩:=hk j b hj;exact hrest _ (hI.ei j idA b _ hj' hob hb rfl hne) ((hI.gg _ _ hj').2.bn hb).2.2
 -- who else Pa this block
 have hoth:∀j b x,hf' j=some b->cq b=true->x∈fX w' φ hf' j->x≠(φ idA).bA/\x<w.heap.size/\∀k,¬oW w (φ idA) slots k x:=by
  intro j b x hj hb hm;obtain⟨hj',hne⟩:=hk j b hj;rcases dj.1 hm with rfl|⟨szj,slj,kj,h1,h2⟩
  .exact ⟨hI.ei j idA b _ hj' hob hb rfl hne,((hI.gg _ _ hj').2.bn hb).2.2,fun k h=>(hI.sq idA sz slots k _ hob h).1 j b hj' hb rfl⟩
  .have h1':=(hk _ _ h1).1;have h2':=(oW.dw (hsame j _ h1 rfl)).1 h2;exact⟨fun e=>(hI.sq j szj slj kj x h1' h2').1 idA _ hob rfl e.symm,(hI.Dr h1' h2').2.2.1,fun k h=>hne (((hI.sq idA sz slots k x hob h).2 j szj slj kj h1' h2').1)⟩
 refine hI'.name hn l _ (fun _ j b hj hb hm=>?_) (.nst (by cases h0 with|nst hsz=>exact hsz) hl hS hK ho' hext (by rw[aG];exact hfit) (fun i s hi=>?_) (by rw[aG];exact hcap)) fun sz' sl k x e h=>?_
 .obtain ⟨h1,h2,_⟩:=hoth j b _ hj hb hm;rcases hblk with h|h
  .exact h1 h
  .omega
 .rcases dC i slots.length with h|h
  .rw [bq h]at hi;cases h0 with
   |@nst _ _ arrA hsz0 hl0 hS0 hK0 ho0 hext0 hfit0 hr0 hv0=>obtain⟨v',q1,q2⟩:=hr0 i s hi;refine⟨v',by rw[hcells i h,ho0.cell];exact q1,?_⟩;cases q2 with|nil=>exact .nil|@bn aj _ b q hSb hKb=>obtain⟨k1,k2⟩:=hin i b ⟨aj,v',hi,(ho0.cell _).trans q1,q.bA⟩;exact .bn (q.mono hs (hrest b k1 k2)) hSb hKb|jZ q=>exact .jZ (q.mono hs hren)
  .rw [bv h]at hi
   match hd:i-slots.length,hi with
   |0,hi=>
    obtain rfl:=aa hi;obtain rfl:i=slots.length:=by omega
    exact⟨v,hnew,.jZ (hr.mono hs hren)⟩
   |d+1,hi=>cases hi
 .cases e;obtain⟨h1,h2⟩:=hp k x h;obtain⟨h3,h4⟩:=hin k x h2
  refine⟨by rcases hblk with q|q
            .rw [q];exact h3
            .omega,fun j b hj hb hm=>(hoth j b x hj hb hm).2.2 k h2,fun k' h'=>?_⟩
  exact((hI.sq idA sz slots k x hob h2).2 idA sz slots k' hob (hp k' x h').2).2
variable{ρ:Operand->Value}{o:Oper}{H:bz}{nxt:Nat}
theorem LI{t el:TypeId}{x:Operand}{szi idR len:Nat}(ho:o.op=.buildSlice t 1 #[(0,x)])(hu:P.underlying t=some (.slice el))(hs:ew P el=some 1)(hz:f_ P el=some [.slice none 0 0])
  (hI:Inv S K w0 Kn φ (av H) w) (hn:¬Kn nxt) (hsz:0<szi) (hx:eU S w Kn φ (.c (.dz szi idR 0 len)) (ρ x)):
  cW P o ρ S K w0 w Kn φ (av H) nxt (nxt+1) (.c (.dz 1 nxt 0 1)) [(nxt,some (.nst szi [.jZ idR len]))]:=by
 obtain⟨zv,hzr,hzl,_⟩:=kr hz w;cases hx with
 |c hr=>
 obtain⟨cap,addr,hv,_⟩:=hr.gE;obtain⟨nS,nK⟩:=sY hI;have dA:=fw.push (w:=w) hI.qZ (.cells #[ρ x] el);have hren:Ren Kn φ (fun j=>Kn j\/j=nxt) (ext φ nxt ⟨w.heap.size,0,1,1,1⟩):=fW _ hn
 have ha:=hI.alloc hn #[ρ x] el 1 1 (.nst szi [.jZ idR len]) (.nst hsz rfl nS nK (qD w _ el) rfl (by simp) (fun i s hi=>by
  match i,hi with
  |0,hi=>obtain rfl:=aa hi;exact⟨ρ x,rfl,.jZ (hr.mono dA hren)⟩
  |i+1,hi=>cases hi) (by simp)) (by
  intro sz sl k aj e hk;cases e
  match k,hk with
  |0,hk=>cases hk
  |k+1,hk=>cases hk)
 refine⟨.value (.slice (some ⟨w.heap.size,0,none⟩) 1 1),.slice (some ⟨w.heap.size,0,none⟩) 1 1,_,?_,.inl rfl,bk _,S,_,dA,⟨fun _ h=>.inl h,hren.dw⟩,.c ?_,ha.rC fun j=>jM j⟩
 .simp only[execOp,ho,Sem.run_bind,Instr.buildSlice,bE hu,Result.andThen_ok,fq hs];have hzc:zv.cells= #[.slice none 0 0]:=by rw[<-Array.toList_inj,hzl]
  have hxc:(ρ x).cells= #[ρ x]:=by rw[hv];rfl
  simp[hzr,hzc,Instr.fill,hxc,newRow,run_newObj];rw[show Array.range 1= #[0]from rfl,cL];rfl
 .have e:ext φ nxt ⟨w.heap.size,0,1,1,1⟩ nxt=⟨w.heap.size,0,1,1,1⟩:=by simp[ext]
  have:=RC.dz (S:=S) (w:={w with heap:=w.heap.push (.cells #[ρ x] el)}) (Kn:=mE Kn nxt (nxt+1)) (φ:=ext φ nxt ⟨w.heap.size,0,1,1,1⟩) (id:=nxt) (off:=0) (len:=1) (cap:=1) (addr:=0)
   (.inr (by omega)) (ao _) (by rw[e];simp) (by rw[e];simp) (by rw[e])
  rw[e]at this;exact this
theorem Inv.NG{hf:Nat->Option Ob}(h:Inv S K w0 Kn φ hf w)(aJ:Array Value)(t:TypeId):Inv S K w0 Kn φ hf {w with heap:=w.heap.push (.cells aJ t)}:=h.iD (fw.push h.qZ _) (Ren.refl _ _) (fun b hb=>by have:=h.qZ b hb;simp;omega) h.sk (h.lG.push aJ t) (fun id o ho=>.inl ⟨ho,fun hown=>by obtain⟨q1,_,q3⟩:=(h.gg id o ho).2.bn hown;exact⟨fB q3,q1⟩⟩) h.ei (h.wi (Ren.refl _ _) fun b hb=>fB hb)
theorem LJ{c:kf}{s x:Operand}{st xt el el2:TypeId}(ho:o.op=.call c)(hcal:c.callee=.builtin .append)(hargs:c.args= #[s,x])(hts:c.argTypes= #[st,xt])
  (hus:P.underlying st=some (.slice el)) (hux:P.underlying xt=some (.slice el2)) (hsz:ew P el=some 1) (hz:f_ P el=some [.slice none 0 0]) (hby:ju P el=true)
  (hI:Inv S K w0 Kn φ (av H) w) (hn:¬Kn nxt) {szi idA idB idR len:Nat} {slots:List jf} (hne:idA≠idB) (hA:av H idA=some (.nst szi slots)) (hB:av H idB=some (.nst szi [.jZ idR len])) (hlim:slots.length+1<=xF)
  (ha:eU S w Kn φ (.c (.dz 1 idA 0 slots.length)) (ρ s)) (hx:eU S w Kn φ (.c (.dz 1 idB 0 1)) (ρ x)):
  cW P o ρ S K w0 w Kn φ (av H) nxt (nxt+1) (.c (.dz 1 nxt 0 (slots.length+1))) [(idA,none),(idB,none),(nxt,some (.nst szi (slots++[.jZ idR len])))]:=by
 obtain⟨inf,hinf,hb0,hb1⟩:=mC hby;obtain⟨zv,hzr,hzv,_⟩:=kr hz w;cases ha with
 |c ha=>
 cases hx with
 |c hx=>
 obtain⟨Cn,addrB,hvB,hszB,hkB,hcapB,haddrB,hextB,hclB⟩:=hx.gE;obtain⟨capA,addrA,hvA,hszA,hkA,hcapA,haddrA,hextA,hclA⟩:=ha.gE;obtain⟨_,hoB⟩:=hI.gg _ _ hB;obtain⟨_,hoA⟩:=hI.gg _ _ hA
 -- the cell that is appended
 obtain⟨arrB,v,hownB,hgB,hrB⟩:∃arrB v,kP w (φ idB).bA arrB/\arrB[(φ idB).aL]?=some v/\RC S w Kn φ (.dz szi idR 0 len) v:=by
  cases hoB with
  |@nst _ _ arrB hsz0 hl0 hS0 hK0 ho0 hext0 hfit0 hr0 hv0=>obtain⟨v,q1,q2⟩:=hr0 0 _ rfl;cases q2 with|jZ q=>exact⟨arrB,v,ho0,q1,q⟩
 have haB:addrB=(φ idB).aL:=by have:=haddrB (by omega);omega
 have hcB:w.cell? ⟨(φ idB).bA,addrB,none⟩=some v:=by rw[hownB.cell,haB];exact hgB
 have hoB1:one v=true:=hrB.one;have hinfo:∀w:World,(typeInfo el).run P w=.ok inf w:=fun w=>by simp[typeInfo,hinf]
 have hzr':∀w:World,(zeroValue el).run P w=.ok zv w:=by intro w';simp only[zeroValue,typeInfo,Sem.run_bind,run_program,Result.andThen_ok,hinf,Sem.run_pure]at hzr|-;cases hzz:inf.zero with|none=>rw[hzz]at hzr;simp at hzr|some q=>rw[hzz]at hzr;simp at hzr|-;exact hzr
 have hunx:∀w:World,(underlying xt).run P w=.ok (.slice el2) w:=bE hux
 have hnx:∀w':World,w'.heap=w.heap->(Builtin.firstCells 1 1 (.slice (some ⟨(φ idB).bA,addrB,none⟩) 1 Cn)).run P w'=.ok #[v] w':=fun w' hw=>by
  have:=run_loadCells (P:=P) w' ⟨(φ idB).bA,addrB,none⟩ 1 (fun _=>v) fun j hj=>by
   obtain rfl:j=0:=by omega
   have e:w'.cell? ⟨(φ idB).bA,addrB,none⟩=w.cell? ⟨(φ idB).bA,addrB,none⟩:=by unfold World.cell?;rw[hw]
   rw[kO,cu,e,hcB]
  exact this
 have hnA:nxt≠idA:=fun e=>hn (e▸(hI.gg _ _ hA).1);have hnB:nxt≠idB:=fun e=>hn (e▸(hI.gg _ _ hB).1);generalize hhf:bg [(idA,none),(idB,none)] (av H)=hf'
 have hupd:∀ob,bg [(idA,none),(idB,none),(nxt,some ob)] (av H)=bg [(nxt,some ob)] hf':=fun ob=>by
  rw[<-hhf];funext j;simp only[bC,dN];by_cases e1:idA=j
  .rw [if_pos e1,if_neg (fun e=>hnA (e.trans e1.symm)),if_pos e1]
  .by_cases e2:idB=j
   .rw [if_neg e1,if_pos e2,if_neg (fun e=>hnB (e.trans e2.symm)),if_neg e1,if_pos e2]
   .rw [if_neg e1,if_neg e2,if_neg e1,if_neg e2]
 have hk:∀j b,hf' j=some b->av H j=some b/\j≠idA:=fun j b hj=>by
  rw[<-hhf]at hj;simp only[bC,dN]at hj;by_cases e1:idA=j
  .rw [if_pos e1]at hj;cases hj
  .rw [if_neg e1]at hj;by_cases e2:idB=j
   .rw [if_pos e2]at hj;cases hj
   .rw [if_neg e2]at hj;exact⟨hj,fun e=>e1 e.symm⟩
 have hkill:Inv S K w0 Kn φ hf' w:=hI.j5 fun j b hj=>(hk j b hj).1;cases hoA with
 |@nst _ _ arrA hsz0 hl0 hS0 hK0 ho0 hext0 hfit0 hr0 hv0=>
 have hcA:∀i,i<slots.length->∃y,w.cell? ⟨(φ idA).bA,(φ idA).aL+i,none⟩=some y/\arrA[(φ idA).aL+i]?=some y:=fun i hi=>by obtain⟨y,q1,_⟩:=hr0 i slots[i] (au hi);exact⟨y,(ho0.cell _).trans q1,q1⟩
 by_cases hroom:slots.length+1<=capA
 .--there is gO
  have haA:addrA=(φ idA).aL:=by have:=haddrA (by omega);omega
  subst haA;have hfitA:(φ idA).aL+capA<=arrA.size:=by rw[hext0];have:=hextA;rw[hl0]at this;omega
  have hvl:([v]:List Value).length=1:=rfl;obtain⟨p1,p2,p3,p4,p5⟩:=kU (w:=w) (b:=(φ idA).bA) (o:=(φ idA).aL+slots.length) (n:=1) (vs:=[v]) ho0 rfl;have hio:Io w (w.setRow (φ idA).bA (arrA.toList.take ((φ idA).aL+slots.length)++[v]++arrA.toList.drop ((φ idA).aL+slots.length+1)).toArray):=⟨rfl,rfl,rfl,ao _⟩
  obtain⟨ty,hty⟩:=ho0;have dA:=run_storeCells_at P (φ idA).bA ((φ idA).aL+slots.length) ty [v] 0 arrA w hty (by simp;omega) (fun y hy=>by rw[lW,am.1 hy];exact hoB1);have ho0:kP w (φ idA).bA arrA:=⟨ty,hty⟩
  simp only[cu,bK]at dA;generalize hw':w.setRow (φ idA).bA (arrA.toList.take ((φ idA).aL+slots.length)++[v]++arrA.toList.drop ((φ idA).aL+slots.length+1)).toArray=w' at*;have hfree:∀i b,hf' i=some b->cq b=true->(φ idA).bA∉fX w φ hf' i:=by intro i b hi hb hm;obtain⟨hi',hne'⟩:=hk i b hi;rw[ff rfl (hi.trans hi'.symm)]at hm;exact kN hI hi' hA hb rfl hne' hm (iZ idA)
  obtain⟨hs1,hI1⟩:=hkill.MP hS0 hK0 hfree p2 p3 p4 (p5 (by omega)) hio;rw[EG (by simp;omega)]at p1
  have hg:=BU (l:=⟨(φ idA).bA,(φ idA).aL,1,(φ idA).ext,capA⟩) (idR:=idR) (len:=len) (v:=v) hI hA hk hI1 hs1 (fun y hy _=>p2 y hy) hn (.inl rfl) p1 rfl (by simp;exact hext0) hS0 hK0
   (fun i hi=>by obtain⟨y,q1,q2⟩:=hcA i hi;rw[br,List.getElem?_set_ne (by simp only;omega),aY,q1];exact q2)
   (by rw[br,List.getElem?_set_self (by simp;omega)]) hrB (by simp only;omega) (by simp only;omega)
  refine⟨.value (.slice (some ⟨(φ idA).bA,(φ idA).aL,none⟩) (slots.length+1) capA),.slice (some ⟨(φ idA).bA,(φ idA).aL,none⟩) (slots.length+1) capA,w',?_,.inl rfl,bk _,S,ext φ nxt ⟨(φ idA).bA,(φ idA).aL,1,(φ idA).ext,capA⟩,hs1,⟨fun _ h=>.inl h,(fW _ hn).dw⟩,.c ?_,?_⟩
  .have hn2:=hnx w rfl
   simp only[execOp,ho,hcal,resolve,hargs,Sem.run_bind,Sem.run_pure,Result.andThen_ok,invoke,builtin,Builtin.append_,hts,cL,aq,aS,hvA,hvB,br,
    bO,cN,bE hus,fq hsz,hunx,Builtin.lenOf,hroom,if_true,dG,hn2,aN,if_false,kO,iV,dA]
  .have e:ext φ nxt ⟨(φ idA).bA,(φ idA).aL,1,(φ idA).ext,capA⟩ nxt=⟨(φ idA).bA,(φ idA).aL,1,(φ idA).ext,capA⟩:=by simp[ext]
   have:=RC.dz (S:=S) (w:=w') (Kn:=mE Kn nxt (nxt+1)) (φ:=ext φ nxt ⟨(φ idA).bA,(φ idA).aL,1,(φ idA).ext,capA⟩) (id:=nxt) (off:=0) (len:=slots.length+1) (cap:=capA) (addr:=(φ idA).aL)
    (.inr (by omega)) hroom (by rw[e];simp) (by rw[e];simp only;omega) (by rw[e];simp)
   rw[e]at this;exact this
  .rw [hupd];exact hg.rC fun j=>jM j
 .--there is none
  have hnle:¬slots.length+1<=capA:=hroom
  obtain⟨old,hold,holdS,holdG⟩:∃old:Array Value,(∀w':World,w'.heap=w.heap->(Builtin.firstCells 1 slots.length (.slice (some ⟨(φ idA).bA,addrA,none⟩) slots.length capA)).run P w'=.ok old w')/\old.size=slots.length/\
    ∀i,i<slots.length->old[i]?=w.cell? ⟨(φ idA).bA,(φ idA).aL+i,none⟩:=by
   refine⟨((List.range (slots.length*1)).map fun j=>(w.cell? ⟨(φ idA).bA,addrA+j,none⟩).getD undef).toArray,fun w' hw=>run_loadCells w' ⟨(φ idA).bA,addrA,none⟩ _ (fun j=>(w.cell? ⟨(φ idA).bA,addrA+j,none⟩).getD undef) fun j hj=>?_,by simp,fun i hi=>?_⟩
   .have haA:addrA=(φ idA).aL:=by have:=haddrA (by omega);omega
    obtain⟨y,q1,_⟩:=hcA j (by omega);have:w'.cell? ⟨(φ idA).bA,addrA+j,none⟩=w.cell? ⟨(φ idA).bA,addrA+j,none⟩:=by unfold World.cell?;rw[hw]
    rw[kO,this,haA,q1];rfl
   .have haA:addrA=(φ idA).aL:=by have:=haddrA (by omega);omega
    obtain⟨y,q1,_⟩:=hcA i hi;rw[br,aD,List.getElem?_range (by omega),haA,Option.map_some,q1];rfl
  simp only[xF]at hlim;have hcap:¬Builtin.nextslicecap (slots.length+1) capA*inf.bytes>2^48:=by have h1:=zI hlim (by omega:capA<slots.length+1);have h2:Builtin.nextslicecap (slots.length+1) capA*inf.bytes<=6442454016*16384:=jW h1 hb1;omega
  have hbz:¬inf.bytes=0:=by omega
  obtain⟨newCap,hnc,hnq⟩:∃newCap,slots.length+1<=newCap/\(Question.appendCap (slots.length+1) capA el).cut (w.tape w.drawn (.appendCap (slots.length+1) capA el))=newCap:=⟨_,by simp[Question.cut],rfl⟩
  have zsize:∀m,(Builtin.zeroCells zv.cells m).size=m:=by
   intro m;have:zv.cells.size=1:=by rw[<-bQ,hzv];rfl
   simp[Builtin.zeroCells,this]
  have hI1:=(hkill.pu (w.drawn+1) (bk _)).NG (old++ #[v]++Builtin.zeroCells zv.cells (newCap-(slots.length+1))) el;have hsz1:(old++ #[v]++Builtin.zeroCells zv.cells (newCap-(slots.length+1))).size=newCap:=by simp only[dL,zsize,holdS];simp;omega
  obtain⟨nS,nK⟩:=sY hI;have hs1:fw S w S {({w with drawn:=w.drawn+1}:World)with heap:=w.heap.push (.cells (old++ #[v]++Builtin.zeroCells zv.cells (newCap-(slots.length+1))) el)}:=(fw.pu S w _).trans (fw.push (w:={w with drawn:=w.drawn+1}) hI.qZ _);have hown1:=qD {w with drawn:=w.drawn+1} (old++ #[v]++Builtin.zeroCells zv.cells (newCap-(slots.length+1))) el
  have hg:=BU (l:=⟨w.heap.size,0,1,newCap,newCap⟩) (idR:=idR) (len:=len) (v:=v) hI hA hk hI1 hs1 (fun y _ hy=>fB hy) hn (.inr (ao _)) hown1 rfl hsz1 nS nK
   (fun i hi=>by rw[bw (by simp only[dL,holdS];simp;omega),bw (by simp only[holdS];omega)];simp only[Nat.zero_add];exact holdG i hi)
   (by rw[bw (by simp only[dL,holdS];simp),Array.getElem?_append_right (by simp only[holdS];omega)];simp[holdS]) hrB (by simp only;omega) (by simp only;omega)
  refine⟨.value (.slice (some ⟨w.heap.size,0,none⟩) (slots.length+1) newCap),.slice (some ⟨w.heap.size,0,none⟩) (slots.length+1) newCap,_,?_,.inl rfl,bk _,S,ext φ nxt ⟨w.heap.size,0,1,newCap,newCap⟩,hs1,⟨fun _ h=>.inl h,(fW _ hn).dw⟩,.c ?_,?_⟩
  .have ho2:=hold {w with drawn:=w.drawn+1} rfl;have hn2:=hnx {w with drawn:=w.drawn+1} rfl
   simp only[execOp,ho,hcal,resolve,hargs,Sem.run_bind,Sem.run_pure,Result.andThen_ok,invoke,builtin,Builtin.append_,hts,cL,aq,aS,hvA,hvB,br,
    bO,cN,bE hus,fq hsz,hunx,Builtin.lenOf,hnle,if_false,hinfo,hcap,hbz,aN,or_self,and_false,run_choose,Question.forced,run_askRoom,ho2,hn2,hzr',newRow,run_newObj,dG,hnq,if_true]
  .have e:ext φ nxt ⟨w.heap.size,0,1,newCap,newCap⟩ nxt=⟨w.heap.size,0,1,newCap,newCap⟩:=by simp[ext]
   have:=RC.dz (S:=S) (w:={({w with drawn:=w.drawn+1}:World)with heap:=w.heap.push (.cells (old++ #[v]++Builtin.zeroCells zv.cells (newCap-(slots.length+1))) el)}) (Kn:=mE Kn nxt (nxt+1)) (φ:=ext φ nxt ⟨w.heap.size,0,1,newCap,newCap⟩) (id:=nxt) (off:=0) (len:=slots.length+1) (cap:=newCap) (addr:=0)
    (.inr (by omega)) hnc (by rw[e];simp) (by rw[e];simp) (by rw[e];simp)
   rw[e]at this;exact this
  .rw [hupd];exact hg.rC fun j=>jM j
theorem ID{c:kf}{s x:Operand}{st xt el el2:TypeId}(ho:o.op=.call c)(hcal:c.callee=.builtin .append)(hargs:c.args= #[s,x])(hts:c.argTypes= #[st,xt])
  (hus:P.underlying st=some (.slice el)) (hux:P.underlying xt=some (.slice el2)) (hsz:ew P el=some 1) (hz:f_ P el=some [.slice none 0 0]) (hby:ju P el=true)
  (hI:Inv S K w0 Kn φ (av H) w) (hn:¬Kn nxt) {szi idB idR len:Nat} (hB:av H idB=some (.nst szi [.jZ idR len]))
  (ha:eU S w Kn φ (.c (.d (.lit (.slice none 0 0)))) (ρ s)) (hx:eU S w Kn φ (.c (.dz 1 idB 0 1)) (ρ x)):
  cW P o ρ S K w0 w Kn φ (av H) nxt (nxt+1) (.c (.dz 1 nxt 0 1)) [(idB,none),(nxt,some (.nst szi [.jZ idR len]))]:=by
 obtain⟨inf,hinf,hb0,hb1⟩:=mC hby;obtain⟨zv,hzr,hzv,_⟩:=kr hz w;obtain⟨hvA,_⟩:=ha.lit;cases hx with
 |c hx=>
 obtain⟨Cn,addrB,hvB,hszB,hkB,hcapB,haddrB,hextB,hclB⟩:=hx.gE;obtain⟨_,hoB⟩:=hI.gg _ _ hB
 obtain⟨arrB,v,hsz0,hownB,hgB,hrB⟩:∃arrB v,0<szi/\kP w (φ idB).bA arrB/\arrB[(φ idB).aL]?=some v/\RC S w Kn φ (.dz szi idR 0 len) v:=by
  cases hoB with
  |@nst _ _ arrB hsz0 hl0 hS0 hK0 ho0 hext0 hfit0 hr0 hv0=>obtain⟨v,q1,q2⟩:=hr0 0 _ rfl;cases q2 with|jZ q=>exact⟨arrB,v,hsz0,ho0,q1,q⟩
 have haB:addrB=(φ idB).aL:=by have:=haddrB (by omega);omega
 have hcB:w.cell? ⟨(φ idB).bA,addrB,none⟩=some v:=by rw[hownB.cell,haB];exact hgB
 have hinfo:∀w:World,(typeInfo el).run P w=.ok inf w:=fun w=>by simp[typeInfo,hinf]
 have hzr':∀w:World,(zeroValue el).run P w=.ok zv w:=by intro w';simp only[zeroValue,typeInfo,Sem.run_bind,run_program,Result.andThen_ok,hinf,Sem.run_pure]at hzr|-;cases hzz:inf.zero with|none=>rw[hzz]at hzr;simp at hzr|some q=>rw[hzz]at hzr;simp at hzr|-;exact hzr
 have hunx:∀w:World,(underlying xt).run P w=.ok (.slice el2) w:=bE hux
 have hnx:∀w':World,w'.heap=w.heap->(Builtin.firstCells 1 1 (.slice (some ⟨(φ idB).bA,addrB,none⟩) 1 Cn)).run P w'=.ok #[v] w':=fun w' hw=>by
  have:=run_loadCells (P:=P) w' ⟨(φ idB).bA,addrB,none⟩ 1 (fun _=>v) fun j hj=>by
   obtain rfl:j=0:=by omega
   have e:w'.cell? ⟨(φ idB).bA,addrB,none⟩=w.cell? ⟨(φ idB).bA,addrB,none⟩:=by unfold World.cell?;rw[hw]
   rw[kO,cu,e,hcB]
  exact this
 have hnB:nxt≠idB:=fun e=>hn (e▸(hI.gg _ _ hB).1)
 have hupd:∀ob,bg [(idB,none),(nxt,some ob)] (av H)=bg [(nxt,some ob)] (bg [(idB,none)] (av H)):=fun ob=>by
  funext j;simp only[bC,dN];by_cases e2:idB=j
  .rw [if_pos e2,if_neg (fun e=>hnB (e.trans e2.symm)),if_pos e2]
  .rw [if_neg e2,if_neg e2]
 have hkill:Inv S K w0 Kn φ (bg [(idB,none)] (av H)) w:=hI.j5 fun j b hj=>by
  simp only[bC,dN]at hj;by_cases e2:idB=j
  .rw [if_pos e2]at hj;cases hj
  .rw [if_neg e2]at hj;exact hj
 have hcap:¬Builtin.nextslicecap (0+1) 0*inf.bytes>2^48:=by have h1:=zI (need:=0+1) (cap:=0) (by omega) (by omega);have h2:Builtin.nextslicecap (0+1) 0*inf.bytes<=6442454016*16384:=jW h1 hb1;omega
 have hbz:¬inf.bytes=0:=by omega
 obtain⟨newCap,hnc,hnq⟩:∃newCap,1<=newCap/\(Question.appendCap (0+1) 0 el).cut (w.tape w.drawn (.appendCap (0+1) 0 el))=newCap:=⟨_,by simp[Question.cut],rfl⟩
 have zsize:∀m,(Builtin.zeroCells zv.cells m).size=m:=by
  intro m;have:zv.cells.size=1:=by rw[<-bQ,hzv];rfl
  simp[Builtin.zeroCells,this]
 have hsz1:(#[]++ #[v]++Builtin.zeroCells zv.cells (newCap-(0+1))).size=newCap:=by simp only[dL,zsize];simp;omega
 obtain⟨nS,nK⟩:=sY hI;have hren:Ren Kn φ (fun j=>Kn j\/j=nxt) (ext φ nxt ⟨w.heap.size,0,1,(#[]++ #[v]++Builtin.zeroCells zv.cells (newCap-(0+1))).size,newCap⟩):=fW _ hn;have hs1:fw S w S {({w with drawn:=w.drawn+1}:World)with heap:=w.heap.push (.cells (#[]++ #[v]++Builtin.zeroCells zv.cells (newCap-(0+1))) el)}:=(fw.pu S w _).trans (fw.push (w:={w with drawn:=w.drawn+1}) hI.qZ _)
 have hal:=(hkill.pu (w.drawn+1) (bk _)).alloc hn (#[]++ #[v]++Builtin.zeroCells zv.cells (newCap-(0+1))) el 1 newCap (.nst szi [.jZ idR len]) (.nst hsz0 rfl nS nK (qD {w with drawn:=w.drawn+1} _ el) rfl (by simp only[bK,hsz1];omega) (fun i q hi=>by
  match i,hi with
  |0,hi=>obtain rfl:=aa hi;exact⟨v,by rw[bw (by simp)];rfl,.jZ (hrB.mono hs1 hren)⟩
  |i+1,hi=>cases hi) (by simp only[bK];omega)) (by
  intro sz sl k aj e hk;cases e
  match k,hk with
  |0,hk=>cases hk
  |k+1,hk=>cases hk)
 refine⟨.value (.slice (some ⟨w.heap.size,0,none⟩) 1 newCap),.slice (some ⟨w.heap.size,0,none⟩) 1 newCap,_,?_,.inl rfl,bk _,S,ext φ nxt ⟨w.heap.size,0,1,(#[]++ #[v]++Builtin.zeroCells zv.cells (newCap-(0+1))).size,newCap⟩,hs1,⟨fun _ h=>.inl h,hren.dw⟩,.c ?_,?_⟩
 .have hn2:=hnx {w with drawn:=w.drawn+1} rfl;have ho2:∀w':World,(Builtin.firstCells 1 0 (.slice none 0 0)).run P w'=.ok #[] w':=fun w'=>rfl;have hnle:¬(0+1<=0):=by omega
  simp only[execOp,ho,hcal,resolve,hargs,Sem.run_bind,Sem.run_pure,Result.andThen_ok,invoke,builtin,Builtin.append_,hts,cL,aq,aS,hvA,hvB,br,
   bO,cN,bE hus,fq hsz,hunx,Builtin.lenOf,hnle,if_false,hinfo,hcap,hbz,aN,or_self,and_false,run_choose,Question.forced,run_askRoom,ho2,hn2,hzr',newRow,run_newObj,dG,hnq,if_true]
 .generalize hE:(#[]++ #[v]++Builtin.zeroCells zv.cells (newCap-(0+1))).size=E at*;have e:ext φ nxt ⟨w.heap.size,0,1,E,newCap⟩ nxt=⟨w.heap.size,0,1,E,newCap⟩:=by simp[ext]
  have:=RC.dz (S:=S) (w:={({w with drawn:=w.drawn+1}:World)with heap:=w.heap.push (.cells (#[]++ #[v]++Builtin.zeroCells zv.cells (newCap-(0+1))) el)}) (Kn:=mE Kn nxt (nxt+1)) (φ:=ext φ nxt ⟨w.heap.size,0,1,E,newCap⟩) (id:=nxt) (off:=0) (len:=1) (cap:=newCap) (addr:=0)
   (.inr (by omega)) hnc (by rw[e];simp) (by rw[e];simp;omega) (by rw[e];simp)
  rw[e]at this;exact this
 .rw [hupd];exact hal.rC fun j=>jM j
theorem xu{da:uY}{e:TypeId}{z:List Value}{m:Nat}(h:Fy P da e z=some m):ew P e=some 1/\z=[.slice none 0 0]/\ju P e=true:=by
 unfold Fy at h;split at h
 .rename_i hc;refine⟨hc.2.1,?_,hc.2.2⟩;unfold EZ at h;split at h
  .rename_i hc2;have:=hc2.2;unfold zS at this;split at this
   .rfl
   .cases this
  .cases h
 .cases h
variable{call:Call}{v:TV}{u:eG}{aw:List Nat}{n':Nat}
theorem IB{t el:TypeId}{x:Operand}{m:Nat}(ho:o.op=.buildSlice t 1 #[(0,x)])(hu:P.underlying t=some (.slice el))(hs:ew P el=some 1)(hz:f_ P el=some [.slice none 0 0])
  (hI:Inv S K w0 Kn φ (av H) w) (hn0:nxt<n'->¬Kn nxt) {tv:Option TV} (hx:∀y,tv=some y->eU S w Kn φ y (ρ x)) (h:cm call (.Hl m) [tv] H nxt=some (v,u,aw,n')):
  cW P o ρ S K w0 w Kn φ (av H) nxt n' v u:=by
 match tv,h with
 |some (.c x),h=>
  change D2 m x nxt=_ at h;unfold D2 at h;split at h
  .split at h
   .rename_i hc;obtain⟨rfl,hm⟩:=hc;cases h;exact LI ho hu hs hz hI (hn0 (aT _)) hm (hx _ rfl)
   .cases h
  .cases h
theorem IC{c:kf}{s x:Operand}{st xt el el2:TypeId}{m:Nat}(ho:o.op=.call c)(hcal:c.callee=.builtin .append)(hargs:c.args= #[s,x])(hts:c.argTypes= #[st,xt])
  (hus:P.underlying st=some (.slice el)) (hux:P.underlying xt=some (.slice el2)) (hsz:ew P el=some 1) (hz:f_ P el=some [.slice none 0 0]) (hby:ju P el=true)
  (hI:Inv S K w0 Kn φ (av H) w) (hn0:nxt<n'->¬Kn nxt) {ts tx:Option TV} (hs:∀y,ts=some y->eU S w Kn φ y (ρ s)) (hx:∀y,tx=some y->eU S w Kn φ y (ρ x)) (h:cm call (.Cw m) [ts,tx] H nxt=some (v,u,aw,n')):
  cW P o ρ S K w0 w Kn φ (av H) nxt n' v u:=by
 match ts,tx,h with
 |some (.c cs),some (.c cx),h=>
  change mJ m cs cx H nxt=_ at h;unfold mJ at h;split at h
  .rename_i idB;split at h
   .rename_i szB idR len hB;split at h
    .rename_i hsz2;subst hsz2;split at h
     .cases h;exact ID ho hcal hargs hts hus hux hsz hz hby hI (hn0 (aT _)) hB (hs _ rfl) (hx _ rfl)
     .rename_i idA n;split at h
      .rename_i szA slots hA;split at h
       .rename_i hc;obtain⟨rfl,rfl,hne,hl⟩:=hc;cases h;exact LJ ho hcal hargs hts hus hux hsz hz hby hI (hn0 (aT _)) hne hA hB hl (hs _ rfl) (hx _ rfl)
       .cases h
      .cases h
     .cases h
    .cases h
   .cases h
  .cases h
end
section
variable{P:Program}{S K:Nat->Prop}{w0 w:World}{Kn:Nat->Prop}{φ:Nat->fE}{hf:Nat->Option Ob}{H:bz}{e:iE}{ρ:Operand->Value}{o:Oper}{call:Call}{a:Act}
 {nxt n':Nat} {v:TV} {u:eG} {aw:List Nat}
def MI(P:Program)(o:Oper)(a:Act)(S K:Nat->Prop)(w0 w:World)(Kn:Nat->Prop)(φ:Nat->fE)(hf:Nat->Option Ob)(nxt n':Nat)(v:TV)(u:eG):Prop:=∀(next:Act->World->Prop)(Q:Exit->Act->World->Prop),(∀val w',jz S K w0 w Kn φ hf nxt n' v u val w'->next (a.put o.dst val) w')->o.wp P a w next Q
theorem cW.jc(h:cW P o a.eval S K w0 w Kn φ hf nxt n' v u):MI P o a S K w0 w Kn φ hf nxt n' v u:=by
 intro next Q hn
 obtain⟨nx,val,w',hr,hx,hd⟩:=h;unfold Oper.wp;rw[hr];rcases hx with rfl|⟨rfl,rfl⟩
 .exact hn _ _ hd
 .exact hn _ _ hd
theorem Di{tvs:List TV}{vs:List Value}(hl:tvs.length=vs.length)(h:∀(i:Nat)(t:TV)(v:Value),tvs[i]?=some t->vs[i]?=some v->eU S w Kn φ t v):eU S w Kn φ (qA tvs) (wh vs):=by
 have BX:eU S w Kn φ (.gR tvs) (.tuple vs.toArray):=by
  refine .gR (by simpa using hl) fun i x hi=>?_;have hlt:i<vs.length:=by rw[<-hl];exact(ai.1 hi).1
  have:=h i x vs[i] hi (au hlt);simpa[hlt]using this
 match tvs,vs,hl,h,BX with|[],[],_,_,BX=>exact BX|[t],[v],_,h,_=>exact h 0 t v rfl rfl|_::_::_,_::_::_,_,_,BX=>exact BX
theorem RD.E6{S':Nat->Prop}{w':World}{v x:Value}(h:RD S w (.lit v) x):RD S' w' (.lit v) x:=by cases h with|lit h=>exact .lit h|nan hn hm=>exact .nan hn hm|ex=>exact .ex
theorem CB.eJ{S':Nat->Prop}:∀{rs:List R}{vs:List Value}{fp:List Nat},rs.all uh=true->CB S w rs vs fp->CB S' w rs vs []:=by
 intro rs;induction rs with
 |nil=>intro vs fp _ h;cases vs with|nil=>rfl|cons v vs=>exact h.elim
 |cons r rs ih=>
  intro vs fp hl h;cases vs with
  |nil=>exact h.elim
  |cons v vs=>
   simp only[e9,af]at hl;obtain⟨f1,f2,_,h1,h2⟩:=h;refine⟨[],[],rfl,?_,ih hl.2 h2⟩;have hl1:=hl.1;cases r with
   |c t=>
    cases t with
    |d x=>
     cases x with
     |lit y=>have h1:RT S w (.d (.lit y)) v f1:=h1;cases h1 with|d hd=>exact RT.d hd.E6
     |_=>simp[uh]at hl1
    |_=>simp[uh]at hl1
   |agg ts=>
    obtain⟨aJ,fps,rfl,q1,q2,q3,q4⟩:=h1;refine⟨aJ,fps.map fun _=>[],rfl,q1,by simpa using q2,by simp,fun i t f hi hfi=>?_⟩;simp only[uh,aV]at hl1;have ht:=hl1 t (aQ hi);obtain rfl:f=[]:=by rw[aD]at hfi;obtain⟨_,_,rfl⟩:=aB.1 hfi;rfl
    have hlt:i<fps.length:=by rw[q2];exact(ai.1 hi).1
    have:=q4 i t fps[i] hi (au hlt);generalize fps[i]=g at this;cases t with
    |d x=>
     cases x with
     |lit y=>cases this with|d hd=>exact RT.d hd.E6
     |_=>simp at ht
    |_=>simp at ht
theorem Inv.after{S':Nat->Prop}{w':World}{fp:List Nat}(hI:Inv S K w0 Kn φ hf w)(hs:fw S w S' w')(hsub:∀b,S' b->S b\/b∈fp\/w.heap.size<=b)(hlt:∀b,S' b->b<w'.heap.size)
  (hfp:∀b∈fp,¬K b) (haw:gq w φ hf fp) (hfrm:Ey (fun b=>b<w.heap.size/\b∉fp) w w'):Inv S' K w0 Kn φ hf w':=by
 refine hI.iD hs (Ren.refl _ _) hlt (fun b hb hK=>?_) ⟨hI.lG.DO,fun b hb=>?_,dD hI.lG.grow hfrm.grow,fun a ha=>(hfrm.yL a (ci ha hI.lG.grow)).trans (hI.lG.yL a ha),fun b aJ ho=>?_,hI.lG.io.trans hfrm.io⟩ (fun id o ho=>.inl ⟨ho,fun hown=>?_⟩) hI.ei ?_
 .have h1:b<w.heap.size:=ci (hI.lG.DO b hK) hI.lG.grow;rcases hsub b hb with h|h|h
  .exact hI.sk b h hK
  .exact hfp b h hK
  .omega
 .have h1:b<w.heap.size:=ci (hI.lG.DO b hb) hI.lG.grow;exact(hfrm.lr b ⟨h1,fun h=>hfp b h hb⟩).trans (hI.lG.lr b hb)
 .obtain ⟨a1,h1,h2⟩:=hI.lG.bn b aJ ho;obtain⟨a2,h3,h4⟩:=hfrm.bn b a1 h1;exact⟨a2,h3,h4.trans h2⟩
 .obtain ⟨h1,h2,h3⟩:=(hI.gg id o ho).2.bn hown;have h4:=haw id o ho hown _ (iZ id);refine⟨hfrm.lr _ ⟨h3,h4⟩,fun h=>?_⟩;rcases hsub _ h with h|h|h
  .exact h1 h
  .exact h4 h
  .omega
 .intro id sz sl ho;have h4:=haw id _ ho rfl
  have key:∀x∈fX w φ hf id,w'.heap[x]?=w.heap[x]?/\¬S' x:=fun x hx=>by
   obtain⟨h1,_,h3⟩:=mD hI ho rfl hx;refine⟨hfrm.lr _ ⟨h3,h4 x hx⟩,fun h=>?_⟩;rcases hsub _ h with h|h|h
   .exact h1 h
   .exact h4 x hx h
   .omega
  refine⟨ho,(key _ (iZ id)).1,fun k x hp=>?_⟩;obtain⟨q1,q2⟩:=key x (dj.2 (.inr ⟨sz,sl,k,ho,hp⟩));exact⟨q1,q2,(hI.sq id sz sl k x ho hp).1⟩
theorem RT.dP{S0:Nat->Prop}{t:T}{v:Value}{fp:List Nat}(h:Dp t=true)(hr:RT S w t v fp):RT S0 w t v fp:=by
 cases hr with
 |d hd=>cases hd with|lit hp=>exact .d (.lit hp)|nan hn hm=>exact .d (.nan hn hm)|ex=>exact .d .ex|_=>simp[Dp]at h
 |sl h0 ho hl hc he hr=>refine .sl h0 ho hl hc he ⟨hr.1,fun i r hi j x hj=>?_⟩;obtain⟨v,h1,h2⟩:=hr.2 i r hi j x hj;simp only[Dp]at h;have hx:=aV.1 (aV.1 h r (aQ hi)) x (aQ hj);refine⟨v,h1,?_⟩;cases h2 with|lit hp=>exact .lit hp|nan hn hm=>exact .nan hn hm|ex=>exact .ex|_=>simp at hx
 |_=>simp[Dp]at h
theorem KJ.dP{S0:Nat->Prop}:∀{ts:List T}{vs:List Value}{fp:List Nat},ts.all Dp=true->KJ S w ts vs fp->KJ S0 w ts vs fp:=by
 intro ts;induction ts with
 |nil=>intro vs fp _ h;cases vs<;>exact h
 |cons t ts ih=>intro vs fp h hr;simp only[e9,af]at h;cases vs with|nil=>exact hr|cons v vs=>obtain⟨f1,f2,e,h1,h2⟩:=hr;exact⟨f1,f2,e,h1.imp id (RT.dP h.1),ih h.2 h2⟩
theorem Left.dP{S0:Nat->Prop}{fp:List Nat}{rs:List R}{outs:List T}{lent:List Value}{v:Value}{w':World}(h:Left S w fp rs outs lent v w')(hS:∀b,S0 b->S b)(h1:rs.all uh=true)(h2:outs.all Dp=true):Left S0 w fp rs outs lent v w':=by
 obtain⟨S',ji,fp1,fp2,rfl,hs,hsub,hlt,hrr,hrt,hnd,hb,hfrm⟩:=h;refine⟨S0,ji,[],fp2,rfl,⟨fun _ h=>h,fun b hb=>hs.dw b (hS b hb)⟩,fun b h=>.inl h,fun b h=>hlt b (hs.sub b (hS b h)),hrr.eJ h1,hrt.dP h2,?_,fun b hm=>?_,hfrm⟩
 .exact (bR.1 hnd).2.1
 .have:=hb b (aC _ hm);exact⟨fun h=>this.1 (hs.sub b (hS b h)),this.2⟩
theorem xl{as:List A}{aw:List Nat}{lent:List (C×List Nat×List Nat)}{vs:List Value}{rs:List R}{outs:List T}{val:Value}{w':World}{rd:List Nat}
  (hI:Inv S K w0 Kn φ (av H) w) (hfr:∀j,nxt<=j->j<n'->¬Kn j)
  (hown:∀i∈lent.flatMap (·.2.1),∃o,av H i=some o/\cq o=true) (hlent:Ew Kn φ S w lent (lp as vs))
  (hwhole:dU H lent=true) (hnd:(lent.flatMap (·.2.1)).Nodup)
  (hleft:Left (SB S w φ (av H) aw) w ((lent.flatMap (·.2.1)).flatMap (fX w φ (av H))) rs outs (lp as vs) val w')
  (h:(match de H aw aw with
      |none=>none
      |some fu=>
       match dv nxt lent outs with
       |none=>none
       |some (bu,m)=>some (qA (fV m rs).1,(fV m rs).2.1++bu++fu,aw++lent.flatMap (·.2.2),(fV m rs).2.2))=some (v,u,rd,n')):
  jz S K w0 w Kn φ (av H) nxt n' v u val w':=by
 obtain⟨S',ji,fp1,fp2,rfl,hs,hsub,hlt,hrr,hrt,hnd2,hb,hfrm⟩:=hleft;split at h
 .simp at h
 .rename_i fu hfz;split at h
  .simp at h
  .rename_i bu m hbk;obtain⟨rfl,rfl,_,rfl⟩:qA (fV m rs).1=v/\(fV m rs).2.1++bu++fu=u/\aw++lent.flatMap (·.2.2)=rd/\(fV m rs).2.2=n':=by simpa using h
   have hI1:=hI.DW hfz;have hmn:=EC rs m;have hnm:=yR _ _ _ _ _ hbk
   -- what was lent is jZ of the heap
   let kills:eG:=(iK lent).map fun i=>(i,none);have hkn:∀j,bX kills j=if j∈iK lent then some none else none:=pm (iK lent)
   have hf2:∀id o,bg kills (bg fu (av H)) id=some o->id∉iK lent/\bg fu (av H) id=some o:=by
    intro id o ho;have:bg kills (bg fu (av H)) id=(match bX kills id with|some o=>o|none=>bg fu (av H) id):=rfl;rw[this,hkn]at ho;by_cases hm:id∈iK lent
    .rw [if_pos hm]at ho;simp at ho
    .rw [if_neg hm]at ho;exact⟨hm,ho⟩
   have hIk:Inv (SB S w φ (av H) aw) K w0 Kn φ (bg kills (bg fu (av H))) w:=hI1.j5 fun id o ho=>(hf2 id o ho).2
   -- the frozen part agrees with the heap eB, where a thing is owned
   have hold:∀id o,bg fu (av H) id=some o->cq o=true->av H id=some o:=by
    intro id o ho hown;by_cases hm:id∈aw
    .obtain ⟨o',ho',hfn⟩:=(jQ aw fu hfz id).1 hm;simp only[bg,hfn]at ho;obtain rfl:=aa ho;have:=(yM hI hm ho').1;rw[this]at hown;simp at hown
    .simpa only[bg,(jQ aw fu hfz id).2 hm]using ho
   have hbk2:∀j o,bg kills (bg fu (av H)) j=some o->cq o=true->av H j=some o/\fX w φ (bg kills (bg fu (av H))) j=fX w φ (av H) j:=fun j o hj hjo=>by have h3:=hold j o (hf2 j o hj).2 hjo;exact⟨h3,ff rfl (hj.trans h3.symm)⟩
   have haw:gq w φ (bg kills (bg fu (av H))) ((lent.flatMap (·.2.1)).flatMap (fX w φ (av H))):=by intro j o hj hjo x hx hm;obtain⟨h1,h2⟩:=hf2 j o hj;obtain⟨i,hi,hie⟩:=bT.1 hm;obtain⟨oi,hoi,hoio⟩:=hown i hi;obtain⟨h3,h4⟩:=hbk2 j o hj hjo;rw[h4]at hx;exact kN hI hoi h3 hoio hjo (fun e=>h1 (e▸hi)) hie hx
   have hfpK:∀b∈((lent.flatMap (·.2.1)).flatMap (fX w φ (av H))),¬K b/\b<w.heap.size:=by intro b hbm;obtain⟨i,hi,hie⟩:=bT.1 hbm;obtain⟨oi,hoi,hoio⟩:=hown i hi;exact(mD hI hoi hoio hie).2
   have hI2:Inv S' K w0 Kn φ (bg kills (bg fu (av H))) w':=hIk.after hs hsub hlt (fun b hb=>(hfpK b hb).1) haw hfrm
   have hK12:∀b∈fp1++fp2,¬S' b/\¬K b:=fun b hbm=>by
    obtain⟨h1,h2⟩:=hb b hbm;refine⟨h1,fun hk=>?_⟩;rcases h2 with h2|h2
    .exact (hfpK b h2).1 hk
    .have:=hI.lG.DO b hk;have:=hI.lG.grow;omega
   have haw12:gq w' φ (bg kills (bg fu (av H))) (fp1++fp2):=fun j o hj hjo x hx hm=>by
    rw[y_ (hfrm.lr _ ⟨((hIk.gg j o hj).2.bn hjo).2.2,haw j o hj hjo _ (iZ j)⟩)]at hx;rcases(hb _ hm).2 with h2|h2
    .exact haw j o hj hjo x hx h2
    .have:=(mD hIk hj hjo hx).2.2;omega
   rw[bR]at hnd2;obtain⟨hn1,hn2,hn3⟩:=hnd2;simp only[ak]at hK12
   obtain⟨φ1,hB⟩:=Eo hI hfrm.bn lent (lp as vs) outs fp2 nxt bu m hlent hwhole hrt hI2 (fun j h1 h2=>hfr j h1 (by omega)) (Ren.refl _ _) hn2 (fun b hb=>hK12 b (.inr hb))
    (fun j o hj hjo x hx hm=>haw12 j o hj hjo x hx (by simp[hm]))
    (fun i hi=>by obtain⟨oi,hoi,_⟩:=hown i hi;refine⟨?_,(hI.gg i oi hoi).1⟩;show(match bX kills i with|some o=>o|none=>bg fu (av H) i)=none;rw[hkn,if_pos hi]) hnd hbk
   have hkk:bg bu (bg kills (bg fu (av H)))=bg bu (bg fu (av H)):=by
    funext j;by_cases hm:j∈iK lent
    .obtain ⟨x,hx⟩:=fY.1 (hB.Pa j hm);simp only[bg,hx]
    .have h1:bg kills (bg fu (av H)) j=bg fu (av H) j:=by show(match bX kills j with|some o=>o|none=>bg fu (av H) j)=_;rw[hkn,if_neg hm]
     have h2:∀g:Nat->Option Ob,bg bu g j=(match bX bu j with|some o=>o|none=>g j):=fun _=>rfl;rw[h2,h2,h1]
   have hIB:=hB.inv;rw[hkk]at hIB
   have haw1:gq w' φ1 (bg bu (bg fu (av H))) fp1:=by
    intro j o hj hjo x hx hm;by_cases hk:j∈iK lent\/(nxt<=j/\j<m)
    .have:=hB.bA j o (by rw[hkk];exact hj) hjo hk x (by rw[hkk];exact hx);exact hn3 _ hm _ this rfl
    .have hfn:bX bu j=none:=jP fun p hp e=>by
      rcases hB.DP p hp with h|h
      .exact hk (.inl (e▸h))
      .exact hk (.inr (e▸h))
     have hj2:bg kills (bg fu (av H)) j=some o:=by rw[<-hkk]at hj;simpa only[bg,hfn]using hj
     have hknj:=(hI2.gg j o hj2).1;rw[ff (hB.qB.dw j hknj) (hj.trans hj2.symm)]at hx;exact haw12 j o hj2 hjo x hx (by simp[hm])
   obtain⟨φ2,hL,hlen,hr⟩:=CL rs m ji fp1 hIB (fun j h1 h2 hk=>by
     rcases hk with hk|hk
     .exact hfr j (by omega) h2 hk
     .omega) hrr hn1 (fun b hb=>hK12 b (.inl hb)) haw1
   refine⟨by omega,S',φ2,(SB.r_ aw).trans hs,⟨fun i h=>.inl h,fun i h=>(hL.qB.dw i (.inl h)).trans (hB.qB.dw i h)⟩,?_,?_⟩
   .exact (Di hlen hr).kn fun i=>(pY hnm hmn i).1
   .rw [dO,dO];exact hL.inv.rC fun i=>pY hnm hmn i
theorem Hj{as:List A}{aw:List Nat}{lent:List (C×List Nat×List Nat)}{vs:List Value}{rs:List R}{outs:List T}{ro:Bool}{val:Value}{w':World}{rd:List Nat}
  (hI:Inv S K w0 Kn φ (av H) w) (hfr:∀j,nxt<=j->j<n'->¬Kn j)
  (hargs:KV (SB S w φ (av H) aw) w as vs ((lent.flatMap (·.2.1)).flatMap (fX w φ (av H)))) (hown:∀i∈lent.flatMap (·.2.1),∃o,av H i=some o/\cq o=true) (hlent:Ew Kn φ S w lent (lp as vs))
  (hwhole:dU H lent=true) (hnd:(lent.flatMap (·.2.1)).Nodup)
  (hleft:Left (SB S w φ (av H) aw) w ((lent.flatMap (·.2.1)).flatMap (fX w φ (av H))) rs outs (lp as vs) val w')
  (h:(if ro then
      if rs.all uh/\outs.all Dp then
       match dv nxt lent outs with|none=>none|some (bu,m)=>some (qA (fV m rs).1,(fV m rs).2.1++bu,aw++lent.flatMap (·.2.2),(fV m rs).2.2)
      else none
     else
      match de H aw aw with
      |none=>none
      |some fu=>
       match dv nxt lent outs with
       |none=>none
       |some (bu,m)=>some (qA (fV m rs).1,(fV m rs).2.1++bu++fu,aw++lent.flatMap (·.2.2),(fV m rs).2.2))=some (v,u,rd,n')):
  jz S K w0 w Kn φ (av H) nxt n' v u val w':=by
 split at h
 .--nothing that was looked at is BP
  split at h
  .rename_i hcond;obtain⟨hl,hp⟩:=hcond;split at h
   .simp at h
   .rename_i bu m hbk;obtain⟨rfl,rfl,_,rfl⟩:qA (fV m rs).1=v/\(fV m rs).2.1++bu=u/\aw++lent.flatMap (·.2.2)=rd/\(fV m rs).2.2=n':=by simpa using h
    refine xl (aw:=[]) (rd:=lent.flatMap (·.2.2)) hI hfr hown hlent hwhole hnd (hleft.dP (fun b hb=>?_) hl hp) ?_
    .rcases hb with hb|⟨i,hi,_⟩
     .exact .inl hb
     .cases hi
    .simp only[de,hbk,List.append_nil,List.nil_append]
  .simp at h
 .exact xl hI hfr hown hlent hwhole hnd hleft h
theorem yd:∀n,(∀c x aw,dE H n c=some (x,aw)->∀i∈aw,∃o,av H i=some o)/\(∀cs xs aw,fc H n cs=some (xs,aw)->∀i∈aw,∃o,av H i=some o):=by
 have leaf:∀n c x aw,(match c with|.op _ _|.mP _ _=>False|_=>True)->dE H n c=some (x,aw)->∀i∈aw,∃o,av H i=some o:=by
  intro n c x aw hl h i hi;cases c with
  |d y=>simp only[dE,bl,cO]at h;obtain⟨_,rfl⟩:=h;simp at hi
  |dz sz id off len=>
   simp only[dE]at h;split at h
   all_goals first
    |(split at h
      .obtain ⟨_,rfl⟩:=ad (aa h);obtain rfl:=am.1 hi;exact⟨_,by assumption⟩
      .simp at h)
    |(split at h
      .split at h
       .obtain ⟨_,rfl⟩:=ad (aa h);obtain rfl:=am.1 hi;exact⟨_,by assumption⟩
       .simp at h
      .simp at h)
    |simp at h
  |ep id cC off=>
   simp only[dE]at h;split at h
   all_goals first
    |(split at h
      .split at h
       .obtain ⟨_,rfl⟩:=ad (aa h);obtain rfl:=am.1 hi;exact⟨_,by assumption⟩
       .simp at h
      .simp at h)
    |simp at h
  |op id off=>exact hl.elim
  |mP f caps=>exact hl.elim
  |om id=>cases n<;>simp[dE]at h
 intro n;induction n with
 |zero=>
  refine⟨fun c x aw h=>?_,fun cs xs aw h=>?_⟩
  .cases c with|op id off=>simp[dE]at h|mP f caps=>simp[dE]at h|_=>exact leaf 0 _ x aw trivial h
  .cases cs with
   |nil=>
    obtain⟨_,rfl⟩:[]=xs/\[]=aw:=by simpa[fc]using h
    intro i hi;simp at hi
   |cons c cs=>simp[fc]at h
 |succ n ih=>
  refine⟨fun c x aw h=>?_,fun cs xs aw h=>?_⟩
  .cases c with
   |op id off=>
    simp only[dE]at h;split at h
    .split at h
     .obtain ⟨_,rfl⟩:=ad (aa h);intro i hi;obtain rfl:=am.1 hi;exact⟨_,by assumption⟩
     .simp at h
    .split at h
     .rename_i hv;split at h
      .obtain ⟨_,rfl⟩:=ad (aa h);intro i hi;rcases aF.1 hi with rfl|hi
       .exact ⟨_,by assumption⟩
       .exact ih.2 _ _ _ hv i hi
      .simp at h
     .simp at h
    .simp at h
   |mP f caps=>
    simp only[dE]at h;split at h
    .rename_i hv;obtain⟨_,rfl⟩:=ad (aa h);exact ih.2 _ _ _ hv
    .simp at h
   |_=>exact leaf _ _ x aw trivial h
  .cases cs with
   |nil=>
    obtain⟨_,rfl⟩:[]=xs/\[]=aw:=by simpa[fc]using h
    intro i hi;simp at hi
   |cons c cs=>
    simp only[fc]at h;split at h
    .rename_i h1 h2;obtain⟨_,rfl⟩:=ad (aa h);intro i hi;rcases ak.1 hi with hi|hi
     .exact ih.1 _ _ _ h1 i hi
     .exact ih.2 _ _ _ h2 i hi
    .simp at h
theorem AG:∀cs xs aw,du H cs=some (xs,aw)->∀i∈aw,∃o,av H i=some o:=by
 intro cs;induction cs with
 |nil=>
  intro xs aw h i hi;obtain⟨_,rfl⟩:[]=xs/\[]=aw:=by simpa[du]using h
  simp at hi
 |cons c cs ih=>
  intro xs aw h i hi;simp only[du]at h;split at h
  .rename_i h1 h2;obtain⟨_,rfl⟩:=ad (aa h);rcases ak.1 hi with hi|hi
   .exact (yd 300).1 _ _ _ h1 i hi
   .exact ih _ _ h2 i hi
  .simp at h
theorem ze:∀(tvs:List TV)(ms:List Bool)(as:List A)(aw:List Nat)(lent:List (C×List Nat×List Nat)),fy H tvs ms=some (as,aw,lent)->∀i∈aw,∃o,av H i=some o:=by
 intro tvs;induction tvs with
 |nil=>
  intro ms as aw lent h i hi;obtain⟨_,rfl,_⟩:[]=as/\[]=aw/\[]=lent:=by simpa[fy]using h
  simp at hi
 |cons t tvs ih=>
  intro ms as aw lent h i hi;simp only[fy]at h;split at h
  .simp at h
  .rename_i hrec;split at h
   .split at h
    .split at h
     .obtain ⟨_,rfl,_⟩:=(by simpa using h:_/\_/\_)
      exact ih _ _ _ _ hrec i hi
     .simp at h
    .simp at h
   .split at h
    .split at h
     .rename_i hv;obtain⟨_,rfl,_⟩:=(by simpa using h:_/\_/\_)
      rcases ak.1 hi with hi|hi
      .exact (yd 300).1 _ _ _ hv i hi
      .exact ih _ _ _ _ hrec i hi
     .simp at h
    .split at h
     .rename_i hv;obtain⟨_,rfl,_⟩:=(by simpa using h:_/\_/\_)
      rcases ak.1 hi with hi|hi
      .exact AG _ _ _ hv i hi
      .exact ih _ _ _ _ hrec i hi
     .simp at h
    .simp at h
theorem RO.OM{l:fE}{o:Ob}(h:RO S K w Kn φ l o)(hs:∀b,S b->b<w.heap.size):l.bA<w.heap.size:=by cases h with|aJ hsz hl hS hK hown=>exact hown.lt|box hb hS hK hown=>exact hown.lt|map hS hK hmp=>exact(Array.getElem?_eq_some_iff.1 hmp).1|cap hsz hl hS hK hown=>exact hown.lt|nst hsz hl hS hK hown=>exact hown.lt|nL hsz hl hS=>exact hs _ hS|my hb hS=>exact hs _ hS
theorem RO.Rx{l:fE}{o:Ob}(h:RO S K w Kn φ l o)(hs:cq o=false):S l.bA:=by cases h with|nL hsz hl hS=>exact hS|my hb hS=>exact hS|_=>simp[cq]at hs
theorem EU{c:kf}{fop:Operand}{ro:Bool}{iR:List Bool}(ho:o.op=.call c)(hcal:c.callee=.value fop)(hok:lE P call)(hI:Inv S K w0 Kn φ (av H) w)
  (hfr:∀j,nxt<=j->j<n'->¬Kn j) (hρ:∀x tv,jq e x=some tv->eU S w Kn φ tv (a.eval x))
  (h:cm call (.call ro iR) ((fop::c.args.toList).map (jq e)) H nxt=some (v,u,aw,n')):MI P o a S K w0 w Kn φ (av H) nxt n' v u:=by
 rw[aq]at h;change sx call ro iR (jq e fop) (c.args.toList.map (jq e)) H nxt=_ at h;unfold sx at h;split at h
 .rename_i f caps vs hf hvs;split at h
  .simp at h
  .rename_i as ids1 lent hargs;split at h
   .rename_i hcond;obtain⟨hwhole,hnd,hapart⟩:=hcond;split at h
    .simp at h
    .rename_i rs outs hcall
     -- the callee
     have hfv:∃cvs:Array Value,a.eval fop=.func (.func f) #[] cvs/\caps.length=cvs.size/\∀(i:Nat)(x:C),caps[i]?=some x->RC S w Kn φ x (cvs.getD i undef):=by
      split at hf
      .rename_i g capsD hop;obtain⟨rfl,rfl⟩:g=f/\capsD.map C.d=caps:=by simpa using hf
       have hr:=hρ _ _ hop;generalize a.eval fop=fv at hr|-;cases hr with
       |c hr=>cases hr with
        |d hd=>cases hd with|@fn _ _ cvs hlen hrd=>refine⟨cvs,rfl,by simpa using hlen,fun i x hi=>?_⟩;rw[aD]at hi;obtain⟨y,hy,rfl⟩:=aB.1 hi;exact .d (hrd i y hy)
      .rename_i g caps' hop;obtain⟨rfl,rfl⟩:g=f/\caps'=caps:=by simpa using hf
       have hr:=hρ _ _ hop;generalize a.eval fop=fv at hr|-;cases hr with
       |c hr=>cases hr with|@mP _ _ cvs hlen hrc=>exact⟨cvs,rfl,hlen,hrc⟩
      .simp at hf
     obtain⟨cvs,hfe,hcl,hcr⟩:=hfv;obtain⟨hal,har⟩:=tD hρ hvs;let ji:List Value:=c.args.toList.map a.eval++cvs.toList
     obtain⟨p1,p2,p3⟩:=Ep hI (vs++caps.map TV.c) iR as ids1 lent ji hargs (by simp[ji,hal,hcl]) (fun i t val hi hv=>by
      by_cases hlt:i<vs.length
      .rw [bq hlt]at hi;simp only[ji]at hv;rw[bq (by simp only[aI];omega),aD]at hv;obtain⟨x,hx,rfl⟩:=aB.1 hv;exact har i x t hx hi
      .rw [bv (by omega),aD]at hi;obtain⟨x,hx,rfl⟩:=aB.1 hi;simp only[ji]at hv;rw[bv (by simp only[aI];omega)]at hv;simp only[aI,<-hal]at hv;have:=hcr _ x hx;rw[aY]at hv;have e1:cvs.getD (i-vs.length) undef=val:=by simp[hv]
       rw[e1]at this;exact .c this)
     have hSlt:∀b,SB S w φ (av H) ids1 b->b<w.heap.size:=by
      rintro b (hb|⟨i,hi,hb⟩)
      .exact hI.qZ b hb
      .obtain ⟨oi,hoi⟩:=ze _ _ _ _ _ hargs i hi;rcases dj.1 hb with rfl|⟨sz,sl,k,h1,h2⟩
       .exact (hI.gg i oi hoi).2.OM hI.qZ
       .exact (hI.Dr h1 h2).2.2.1
     have hnS:∀b∈((lent.flatMap (·.2.1)).flatMap (fX w φ (av H))),¬SB S w φ (av H) ids1 b:=by
      intro b hb hS;obtain⟨i,hi,hb⟩:=bT.1 hb;obtain⟨oi,hoi,hoio⟩:=p2 i hi;have hb1:=(mD hI hoi hoio hb).1;rcases hS with hS|⟨j,hj,hje⟩
      .exact hb1 hS
      .obtain ⟨oj,hoj⟩:=ze _ _ _ _ _ hargs j hj;cases hjo:cq oj with
       |true=>refine kN hI hoi hoj hoio hjo (fun e=>?_) hb hje;have:=aV.1 hapart i hi;rw[e]at this;simp[hj]at this
       |false=>
        rcases dj.1 hje with rfl|⟨sz,sl,k,h1,_⟩
        .exact hb1 ((hI.gg j oj hoj).2.Rx hjo)
        .rw [hoj]at h1;cases h1;cases hjo
     have hgood:=hok f as rs outs hcall (SB S w φ (av H) ids1) w ji _ hSlt p1 (za hI hnd p2) hnS (hI.zY.mono (SB.r_ _));intro next Q hn
     have hfin:∀val w',Left (SB S w φ (av H) ids1) w ((lent.flatMap (·.2.1)).flatMap (fX w φ (av H))) rs outs (lp as ji) val w'->next (a.put o.dst val) w':=by intro val w' hleft;refine hn val w' (Hj hI hfr p1 p2 p3 hwhole hnd hleft (ro:=ro) (v:=v) (u:=u) (rd:=aw) ?_);exact h
     have hrun:∀r,(callFunc f ji.toArray).run P w=r->(execOp a.eval o).run P w=r:=by
      intro r hr;have e1:(#[]++c.args.map a.eval)++cvs=ji.toArray:=by apply Array.ext';simp[ji]
      simp only[execOp,ho,Sem.run_bind,resolve,hcal,hfe,Deferred.ofValue,Sem.run_pure,Result.andThen_ok,invoke,e1];exact hr
     rcases hgood with⟨g,as',hr,hc⟩|⟨val,hr,hleft⟩
     .unfold Oper.wp;rw[hrun _ hr,Oper.upon_enter];refine hc.mono fun en w' hR=>?_;obtain⟨val,rfl,hleft⟩:=hR;exact hfin val w' hleft
     .unfold Oper.wp;rw[hrun _ hr];exact hfin val w hleft
   .simp at h
 .simp at h
end
section
variable{P:Program}{S K:Nat->Prop}{w0 w:World}{Kn:Nat->Prop}{φ:Nat->fE}{H:bz}{e:iE}{o:Oper}{call:Call}{a:Act}{da:uY}{k:Ev.K}{args:List Operand}
 {nxt n':Nat} {v:TV} {u:eG} {aw:List Nat}
theorem eS{vs:List (Option TV)}:cm call .fr vs H nxt=none:=by unfold cm;split<;>first|rfl|simp_all
theorem Hn{op:BinOp}{t ty:TypeId}{x y:Operand}(ho:o.op=.binOp op t x y ty)(hk:Ft P op t x y=(k,args))(hI:Inv S K w0 Kn φ (av H) w)(hE:iE.ok S w Kn φ e a.tmps)
  (h:cm call k (args.map (jq e)) H nxt=some (v,u,aw,n')):cW P o a.eval S K w0 w Kn φ (av H) nxt n' v u:=by
 have hρ:∀x tv,jq e x=some tv->eU S w Kn φ tv (a.eval x):=fun x tv h=>re hI.zY hE h;have plainBin:(k,args)=(Ev.K.xn op,[x,y])->cW P o a.eval S K w0 w Kn φ (av H) nxt n' v u:=by intro hk;obtain⟨rfl,rfl⟩:=ad hk;exact NO ho hI (fun z hz=>hρ x z hz) (fun z hz=>hρ y z hz) h
 have nilBin:∀kind,(op=.eql\/op=.neq)->IJ P t kind->(k,args)=oD kind (op==.neq) x y->cW P o a.eval S K w0 w Kn φ (av H) nxt n' v u:=by
  intro kind hop hu hk;unfold oD at hk;split at hk
  .rename_i hy;obtain⟨rfl,rfl⟩:=ad hk;exact Bt ho hop hu hI (fun _=>rfl) (.inl ⟨rfl,hy⟩) (fun z hz=>hρ x z hz) h
  .split at hk
   .rename_i hx;obtain⟨rfl,rfl⟩:=ad hk;exact Bt ho hop hu hI (fun _=>rfl) (.inr ⟨rfl,hx⟩) (fun z hz=>hρ y z hz) h
   .obtain ⟨rfl,rfl⟩:=ad hk;rw[eS]at h;simp at h
 have eqs:(op=.eql\/op=.neq)->(match P.underlying t with
  |some .bool=>(Ev.K.sy (op==.neq),[x,y])
  |some (.int _)|some (.float _)|some .string=>(Ev.K.xn op,[x,y])
  |some (.slice _)=>oD 0 (op==.neq) x y
  |some (.pointer _)=>oD 1 (op==.neq) x y
  |some (.func _ _ _)=>oD 2 (op==.neq) x y
  |some (.struct _)|some (.array _ _)=>match xH P 8 t with|some ks=>if P.eqGuardType P.depth t=false then(Ev.K.w6 (op==.neq) ks,[x,y])else(Ev.K.fr,[])|none=>(Ev.K.fr,[])
  |_=>(Ev.K.fr,[]))=(k,args)->cW P o a.eval S K w0 w Kn φ (av H) nxt n' v u:=by
  intro hop hk;split at hk
  .rename_i hu;obtain⟨rfl,rfl⟩:=ad hk;exact Gn ho hop hu hI (fun z hz=>hρ x z hz) (fun z hz=>hρ y z hz) h
  .exact plainBin hk.symm
  .exact plainBin hk.symm
  .exact plainBin hk.symm
  .rename_i hu;exact nilBin 0 hop ⟨_,hu⟩ hk.symm
  .rename_i hu;exact nilBin 1 hop ⟨_,hu⟩ hk.symm
  .rename_i hu;exact nilBin 2 hop ⟨_,_,_,hu⟩ hk.symm
  .rename_i hu;split at hk
   .rename_i hks;split at hk
    .rename_i hg;obtain⟨rfl,rfl⟩:=ad hk;exact Bu ho hop hks (by simp[eY,hu]) hg hI (fun z hz=>hρ x z hz) (fun z hz=>hρ y z hz) h
    .obtain ⟨rfl,rfl⟩:=ad hk;rw[eS]at h;simp at h
   .obtain ⟨rfl,rfl⟩:=ad hk;rw[eS]at h;simp at h
  .rename_i hu;split at hk
   .rename_i hks;split at hk
    .rename_i hg;obtain⟨rfl,rfl⟩:=ad hk;exact Bu ho hop hks (by simp[eY,hu]) hg hI (fun z hz=>hρ x z hz) (fun z hz=>hρ y z hz) h
    .obtain ⟨rfl,rfl⟩:=ad hk;rw[eS]at h;simp at h
   .obtain ⟨rfl,rfl⟩:=ad hk;rw[eS]at h;simp at h
  .obtain ⟨rfl,rfl⟩:=ad hk;rw[eS]at h;simp at h
 cases op with|eql=>exact eqs (.inl rfl) hk|neq=>exact eqs (.inr rfl) hk|_=>exact plainBin hk.symm
theorem mZ{α:Type}{x:Array α}{y:α}(h:x.toList=[y]):x= #[y]:=by rw[<-jY (xs:=x),h]
theorem lc{α:Type}{x:Array α}{y z:α}(h:x.toList=[y,z]):x= #[y,z]:=by rw[<-jY (xs:=x),h]
theorem x9{b:Builtin}{c:kf}(ho:o.op=.call c)(hcal:c.callee=.builtin b)(hk:qP P b c.args.toList c.argTypes.toList=(k,args))(hI:Inv S K w0 Kn φ (av H) w)
  (hE:iE.ok S w Kn φ e a.tmps) (hn0:nxt<n'->¬Kn nxt) (h:cm call k (args.map (jq e)) H nxt=some (v,u,aw,n')):cW P o a.eval S K w0 w Kn φ (av H) nxt n' v u:=by
 have hρ:∀x tv,jq e x=some tv->eU S w Kn φ tv (a.eval x):=fun x tv h=>re hI.zY hE h
 have lenArgs:∀str,k=.len str->args=c.args.toList->∃x,c.args.toList=[x]:=by
  intro str hk ha;subst hk ha;generalize c.args.toList=l at h
  match l,h with|[x],_=>exact⟨x,rfl⟩|[],h=>simp[cm]at h|x::y::r,h=>simp[cm]at h
 unfold qP at hk;split at hk
 .rename_i t hts;split at hk
  .rename_i hu;obtain⟨rfl,rfl⟩:=ad hk;obtain⟨x,hx⟩:=lenArgs true rfl rfl;rw[hx]at h;exact Iv (str:=true) ho hcal (mZ hx) (mZ hts) hu hI (fun z hz=>hρ x z hz) h
  .rename_i hu;obtain⟨rfl,rfl⟩:=ad hk;obtain⟨x,hx⟩:=lenArgs false rfl rfl;rw[hx]at h;exact Iv (str:=false) ho hcal (mZ hx) (mZ hts) ⟨_,hu⟩ hI (fun z hz=>hρ x z hz) h
  .obtain ⟨rfl,rfl⟩:=ad hk;rw[eS]at h;simp at h
 .obtain ⟨rfl,rfl⟩:=ad hk;exact yA (m:=true) ho hcal hI hρ h
 .obtain ⟨rfl,rfl⟩:=ad hk;exact yA (m:=false) ho hcal hI hρ h
 .rename_i s x hts;split at hk
  .rename_i el el2 hus hux;split at hk
   .rename_i n z hsz hz;split at hk
    .rename_i hb;obtain⟨rfl,rfl⟩:=ad hk
     have:∃p q,c.args.toList=[p,q]:=by
      generalize c.args.toList=l at h
      match l,h with|[p,q],_=>exact⟨p,q,rfl⟩|[],h=>simp[cm]at h|[p],h=>simp[cm]at h|p::q::r::t,h=>simp[cm]at h
     obtain⟨p,q,hpq⟩:=this;rw[hpq]at h;exact Gp ho hcal (lc hpq) (lc hts) hus hux hsz hz hb.2 hb.1 hI hn0 (fun z hz=>hρ p z hz) (fun z hz=>hρ q z hz) h
    .obtain ⟨rfl,rfl⟩:=ad hk;rw[eS]at h;simp at h
   .obtain ⟨rfl,rfl⟩:=ad hk;rw[eS]at h;simp at h
  .rename_i el kd hus hux;split at hk
   .rename_i n z hsz hz;split at hk
    .rename_i hb;obtain⟨rfl,rfl⟩:=ad hk
     have:∃p q,c.args.toList=[p,q]:=by
      generalize c.args.toList=l at h
      match l,h with|[p,q],_=>exact⟨p,q,rfl⟩|[],h=>simp[cm]at h|[p],h=>simp[cm]at h|p::q::r::t,h=>simp[cm]at h
     obtain⟨p,q,hpq⟩:=this;rw[hpq]at h;exact NP ho hcal (lc hpq) (lc hts) hus hux hsz hz hb.2 hb.1 hI hn0 (fun z hz=>hρ p z hz) (fun z hz=>hρ q z hz) h
    .obtain ⟨rfl,rfl⟩:=ad hk;rw[eS]at h;simp at h
   .obtain ⟨rfl,rfl⟩:=ad hk;rw[eS]at h;simp at h
  .obtain ⟨rfl,rfl⟩:=ad hk;rw[eS]at h;simp at h
 .rename_i t hts;split at hk
  .rename_i el hu;obtain⟨rfl,rfl⟩:=ad hk
   have:∃p,c.args.toList=[p]:=by
    generalize c.args.toList=l at h
    match l,h with|[p],_=>exact⟨p,rfl⟩|[],h=>simp[cm]at h|p::q::r,h=>simp[cm]at h
   obtain⟨p,hp⟩:=this;rw[hp]at h;exact NM ho hcal (mZ hp) (mZ hts) hu hI (fun z hz=>hρ p z hz) h
  .obtain ⟨rfl,rfl⟩:=ad hk;rw[eS]at h;simp at h
 .rename_i d x hts;split at hk
  .rename_i el hud;split at hk
   .rename_i n hsz;obtain⟨rfl,rfl⟩:=ad hk
    have:∃p q,c.args.toList=[p,q]:=by
     generalize c.args.toList=l at h
     match l,h with|[p,q],_=>exact⟨p,q,rfl⟩|[],h=>simp[cm]at h|[p],h=>simp[cm]at h|p::q::r::t,h=>simp[cm]at h
    obtain⟨p,q,hpq⟩:=this;rw[hpq]at h;exact LH ho hcal (lc hpq) (lc hts) hud hsz hI (fun z hz=>hρ p z hz) (fun z hz=>hρ q z hz) h
   .obtain ⟨rfl,rfl⟩:=ad hk;rw[eS]at h;simp at h
  .obtain ⟨rfl,rfl⟩:=ad hk;rw[eS]at h;simp at h
 .rename_i d hts;split at hk
  .rename_i el hud;split at hk
   .rename_i n z hsz hz;split at hk
    .rename_i hzl;obtain⟨rfl,rfl⟩:=ad hk
     have:∃p,c.args.toList=[p]:=by
      generalize c.args.toList=l at h
      match l,h with|[p],_=>exact⟨p,rfl⟩|[],h=>simp[cm]at h|p::q::r,h=>simp[cm]at h
     obtain⟨p,hp⟩:=this;rw[hp]at h;exact IA ho hcal (mZ hp) (mZ hts) hud hsz hz hzl hI (fun z hz=>hρ p z hz) h
    .obtain ⟨rfl,rfl⟩:=ad hk;rw[eS]at h;simp at h
   .obtain ⟨rfl,rfl⟩:=ad hk;rw[eS]at h;simp at h
  .obtain ⟨rfl,rfl⟩:=ad hk;rw[eS]at h;simp at h
 .obtain ⟨rfl,rfl⟩:=ad hk;rw[eS]at h;simp at h
theorem Bo(hok:lE P call)(hk:uW P da o.op=(k,args))(hI:Inv S K w0 Kn φ (av H) w)(hE:iE.ok S w Kn φ e a.tmps)(hfr:∀j,nxt<=j->j<n'->¬Kn j)
  (h:cm call k (args.map (jq e)) H nxt=some (v,u,aw,n')):MI P o a S K w0 w Kn φ (av H) nxt n' v u:=by
 have hρ:∀x tv,jq e x=some tv->eU S w Kn φ tv (a.eval x):=fun x tv h=>re hI.zY hE h;have hn0:nxt<n'->¬Kn nxt:=fun h=>hfr nxt (ao _) h;have fr:(k,args)=(Ev.K.fr,[])->MI P o a S K w0 w Kn φ (av H) nxt n' v u:=by intro hk;obtain⟨rfl,rfl⟩:=ad hk;rw[eS]at h;simp at h
 generalize hop:o.op=op at hk;unfold uW at hk;split at hk
 .obtain ⟨rfl,rfl⟩:=ad hk;exact(MQ (.inl hop) hI (fun z hz=>hρ _ z hz) h).jc
 .obtain ⟨rfl,rfl⟩:=ad hk;exact(MQ (.inr hop) hI (fun z hz=>hρ _ z hz) h).jc
 .obtain ⟨rfl,rfl⟩:=ad hk;exact(LF hop hI (fun z hz=>hρ _ z hz) (fun z hz=>hρ _ z hz) (fun z hz=>hρ _ z hz) h).jc
 .--alloc
  split at hk
  .rename_i hz;obtain⟨rfl,rfl⟩:=ad hk;exact(IE hop hz hI hn0 h).jc
  .exact fr hk.symm
 .obtain ⟨rfl,rfl⟩:=ad hk;exact(NN hop hI hn0 (fun z hz=>hρ _ z hz) h).jc
 .--build
  split at hk
  .rename_i hu hz;split at hk
   .rename_i hpl;split at hk
    .rename_i hall;obtain⟨rfl,rfl⟩:=ad hk;exact(Bw hop hz (.inl ⟨_,hu,hpl,hall⟩) hI hρ h).jc
    .exact fr hk.symm
   .exact fr hk.symm
  .rename_i hu hz;split at hk
   .rename_i hs;obtain⟨rfl,rfl⟩:=ad hk;exact(Bw hop hz (.inr ⟨_,_,_,hu,hs,rfl⟩) hI hρ h).jc
   .exact fr hk.symm
  .exact fr hk.symm
 .--buildSlice
  split at hk
  .rename_i hu;split at hk
   .rename_i hs hz;split at hk
    .rename_i r hr;unfold Ky at hr;split at hr
     .rename_i parts hp;split at hr
      .rename_i m hm;obtain rfl:=aa hr;obtain⟨rfl,rfl⟩:=ad hk;obtain⟨q1,rfl,q3⟩:=xu hm;exact(IB (by rw[hop,mZ hp]) hu q1 hz hI hn0 (fun z hz=>hρ _ z hz) h).jc
      .cases hr
     .cases hr
    .split at hk
     .rename_i hl;obtain⟨rfl,rfl⟩:=ad hk;exact(xV hop hu hs hz hl hI hn0 hρ h).jc
     .exact fr hk.symm
   .exact fr hk.symm
  .exact fr hk.symm
 .--load
  split at hk
  .rename_i ha hs;obtain⟨rfl,rfl⟩:=ad hk;split at h
   .rename_i hc;obtain⟨_,_,rfl,rfl⟩:=hc;exact(Iu hop ha hs hI hn0 (fun z hz=>hρ _ z hz) h).jc
   .exact (ET hop ha hs hI (fun z hz=>hρ _ z hz) h).jc
  .exact fr hk.symm
 .--store
  split at hk
  .rename_i hs;obtain⟨rfl,rfl⟩:=ad hk;exact(Is hop hs hI (fun z hz=>hρ _ z hz) (fun z hz=>hρ _ z hz) h).jc
  .exact fr hk.symm
 .obtain ⟨rfl,rfl⟩:=ad hk;exact(Bq hop hI (fun z hz=>hρ _ z hz) h).jc
 .exact (Hn hop hk hI hE h).jc
 .obtain ⟨rfl,rfl⟩:=ad hk;exact(Pw hop hI (fun z hz=>hρ _ z hz) h).jc
 .--convert
  split at hk
  .rename_i hs hd;obtain⟨rfl,rfl⟩:=ad hk;exact(DC hop hs hd hI (fun z hz=>hρ _ z hz) h).jc
  .rename_i hs hd;obtain⟨rfl,rfl⟩:=ad hk;exact(Iz hop hs hd hI (fun z hz=>hρ _ z hz) h).jc
  .rename_i hs hd;obtain⟨rfl,rfl⟩:=ad hk;exact(Bv hop hs hd hI (fun z hz=>hρ _ z hz) h).jc
  .exact fr hk.symm
 .--makeFunc
  split at hk
  .rename_i hf;obtain⟨rfl,rfl⟩:=ad hk;exact(LG hop hf hI hρ h).jc
  .exact fr hk.symm
 .--makeSlice
  split at hk
  .rename_i hu;split at hk
   .rename_i hs hz;split at hk
    .rename_i hl;obtain⟨rfl,rfl⟩:=ad hk;split at h
     .rename_i m hm;unfold EZ at hm;split at hm
      .rename_i hc;split at hm
       .split at hm
        .obtain rfl:=aa hm;exact(It hop hu hs hz hl.1 hl.2 hc.2 (Nat.succ_pos _) hI hn0 (fun z hz=>hρ _ z hz) (fun z hz=>hρ _ z hz) h).jc
        .cases hm
       .cases hm
      .cases hm
     .exact (sT hop hu hs hz hl.1 hl.2 hI hn0 (fun z hz=>hρ _ z hz) (fun z hz=>hρ _ z hz) h).jc
    .exact fr hk.symm
   .exact fr hk.symm
  .exact fr hk.symm
 .--slice
  split at hk
  .rename_i hu;obtain⟨rfl,rfl⟩:=ad hk;exact(Bp (str:=true) hop hu hI hρ h).jc
  .rename_i hu;split at hk
   .rename_i hs;obtain⟨rfl,rfl⟩:=ad hk;exact(Bp (str:=false) hop ⟨_,hu,hs⟩ hI hρ h).jc
   .exact fr hk.symm
  .exact fr hk.symm
 .--zu
  split at hk
  .rename_i hu;split at hk
   .rename_i hs;obtain⟨rfl,rfl⟩:=ad hk;exact(Gl hop hu hs hI hn0 hρ h).jc
   .exact fr hk.symm
  .exact fr hk.symm
 .--fieldAddr
  split at hk
  .rename_i hu;split at hk
   .rename_i hf;split at hk
    .rename_i hs;obtain⟨rfl,rfl⟩:=ad hk;exact(zH hop hu hf hs hI (fun z hz=>hρ _ z hz) h).jc
    .exact fr hk.symm
   .exact fr hk.symm
  .exact fr hk.symm
 .--field
  split at hk
  .rename_i hu;split at hk
   .rename_i hf;split at hk
    .rename_i ha hs;obtain⟨rfl,rfl⟩:=ad hk;exact(Ix hop hu hf ha hs hI (fun z hz=>hρ _ z hz) h).jc
    .exact fr hk.symm
   .exact fr hk.symm
  .exact fr hk.symm
 .--indexAddr
  split at hk
  .rename_i hu;split at hk
   .rename_i hs;obtain⟨rfl,rfl⟩:=ad hk;exact(sU (aJ:=none) hop ⟨_,hu,hs⟩ hI (fun z hz=>hρ _ z hz) (fun z hz=>hρ _ z hz) h).jc
   .exact fr hk.symm
  .rename_i hu;split at hk
   .rename_i hs;obtain⟨rfl,rfl⟩:=ad hk;exact(sU (aJ:=some _) hop ⟨_,hu,hs⟩ hI (fun z hz=>hρ _ z hz) (fun z hz=>hρ _ z hz) h).jc
   .exact fr hk.symm
  .exact fr hk.symm
 .--index
  split at hk
  .rename_i hu;obtain⟨rfl,rfl⟩:=ad hk;exact(Bs hop hu hI (fun z hz=>hρ _ z hz) (fun z hz=>hρ _ z hz) h).jc
  .rename_i hu;split at hk
   .rename_i ha hs;obtain⟨rfl,rfl⟩:=ad hk;exact(Iw hop hu ha hs hI (fun z hz=>hρ _ z hz) (fun z hz=>hρ _ z hz) h).jc
   .exact fr hk.symm
  .exact fr hk.symm
 .obtain ⟨rfl,rfl⟩:=ad hk;exact(DB hop hI (fun z hz=>hρ _ z hz) h).jc
 .--makeMap
  split at hk
  .split at hk
   .obtain ⟨rfl,rfl⟩:=ad hk;exact(DA hop hI hn0 h).jc
   .exact fr hk.symm
  .exact fr hk.symm
 .--lookup
  split at hk
  .rename_i hu;split at hk
   .rename_i hm;obtain⟨rfl,rfl⟩:=ad hk;exact(Gm hop hu hm hI (fun z hz=>hρ _ z hz) (fun z hz=>hρ _ z hz) h).jc
   .exact fr hk.symm
  .exact fr hk.symm
 .--mapEntry
  split at hk
  .rename_i hu;split at hk
   .rename_i hm;obtain⟨rfl,rfl⟩:=ad hk;exact(Br hop hu hm hI (fun z hz=>hρ _ z hz) (fun z hz=>hρ _ z hz) h).jc
   .exact fr hk.symm
  .exact fr hk.symm
 .--entryStore
  split at hk
  .split at hk
   .obtain ⟨rfl,rfl⟩:=ad hk;exact(xU hop hI (fun z hz=>hρ _ z hz) (fun z hz=>hρ _ z hz) (fun z hz=>hρ _ z hz) h).jc
   .exact fr hk.symm
  .exact fr hk.symm
 .--call
  rename_i c;split at hk
  .rename_i hcal;split at hk
   .rename_i r hr;unfold Fz at hr;split at hr
    .rename_i s x st xt hargs hts;split at hr
     .rename_i el el2 hus hux;split at hr
      .rename_i z hz;split at hr
       .rename_i m hm;obtain rfl:=aa hr;obtain⟨rfl,rfl⟩:=ad hk;obtain⟨q1,rfl,q3⟩:=xu hm;exact(IC hop hcal (lc hargs) (lc hts) hus hux q1 hz q3 hI hn0 (fun z hz=>hρ _ z hz) (fun z hz=>hρ _ z hz) h).jc
       .cases hr
      .cases hr
     .cases hr
    .cases hr
   .exact (x9 hop hcal hk hI hE hn0 h).jc
  .rename_i f hcal;split at hk
   .split at hk
    .rename_i hf;obtain⟨rfl,rfl⟩:=ad hk
     have:∃p q,c.args.toList=[p,q]:=by
      generalize c.args.toList=l at h
      match l,h with|[p,q],_=>exact⟨p,q,rfl⟩|[],h=>simp[cm]at h|[p],h=>simp[cm]at h|p::q::r::t,h=>simp[cm]at h
     obtain⟨p,q,hpq⟩:=this;rw[hpq]at h;exact(NK hop hcal (lc hpq) hf rfl hI (fun z hz=>hρ p z hz) (fun z hz=>hρ q z hz) h).jc
    .exact fr hk.symm
   .obtain ⟨rfl,rfl⟩:=ad hk;exact EU hop hcal hok hI hfr hρ h
  .rename_i hcal;obtain⟨rfl,rfl⟩:=ad hk;exact EU hop hcal hok hI hfr hρ h
  .exact fr hk.symm
 .exact fr hk.symm
end
def fz(P:Program)(da:uY)(nt:Nat)(all:Array Oper)(o:Oper):mj:=
 {dst:=o.dst
  k:=if(match o.dst with|some d=>decide (d<nt)|none=>true)then(uW P da o.op).1 else .fr
  args:=(uW P da o.op).2
  guard:=match o.guard with|none=>none|some (j,b)=>some (((all[j]?).bind (·.dst)).getD 1000000000,b)}
def qi:C:=.mP 0 []
def RG(S:Nat->Prop)(w:World)(Kn:Nat->Prop)(φ:Nat->fE)(c:C)(v:Value):Prop:=c=qi\/RC S w Kn φ c v
theorem RG.mono{S S':Nat->Prop}{w w':World}{Kn Kn':Nat->Prop}{φ φ':Nat->fE}(hs:fw S w S' w')(hr:Ren Kn φ Kn' φ'){x:C}{v:Value}(h:RG S w Kn φ x v):RG S' w' Kn' φ' x v:=h.imp id fun h=>h.mono hs hr
structure Eu(S K:Nat->Prop)(w0:World)(Kn:Nat->Prop)(φ:Nat->fE)(gv:List Value)(nt:Nat)(s:St)(a:Act)(w:World):Prop where
 inv:Inv S K w0 Kn φ (av s.heap) w
 db:iE.ok S w Kn φ s.db a.tmps
 size:a.tmps.size=nt
 defers:a.defers=[]
 fG:∀j,s.next<=j->¬Kn j
 gh:∀(i:Nat)(c:C)(v:Value),s.gh[i]?=some c->gv[i]?=some v->RG S w Kn φ c v
section
variable{P:Program}{S K:Nat->Prop}{w0 w:World}{Kn:Nat->Prop}{φ:Nat->fE}{gv:List Value}{nt:Nat}{a:Act}{call:Call}{da:uY}{s s':St}
theorem Lv{a:Act}{d:Nat}{v:Value}(h:d<a.tmps.size)(t:Nat):(a.put (some d) v).tmps.getD t undef=if t=d then v else a.tmps.getD t undef:=by
 simp only[Act.put,bp,jh];by_cases e:d=t
 .subst e;simp[h]
 .have e2:¬t=d:=fun h=>e h.symm;simp[e,e2]
theorem sO{a:Act}(d:Option Nat)(v:Value):(a.put d v).tmps.size=a.tmps.size:=by cases d<;>simp[Act.put]
theorem pT{a:Act}(d:Option Nat)(v:Value):(a.put d v).defers=a.defers:=by cases d<;>simp[Act.put]
theorem j6(e:iE)(d:Option Nat)(v:TV)(t:Nat):bX (put e d v) t=if d=some t then some v else bX e t:=by
 cases d with
 |none=>simp[put]
 |some d=>
  simp only[put,bX];by_cases h:d=t
  .simp [h]
  .have h':(d==t)=false:=by simpa using h
   simp[h,h']
theorem wU(e:iE)(d:Option Nat)(t:Nat):bX (drop e d) t=if d=some t then some (.gR [])else bX e t:=j6 e d (.gR []) t
theorem iE.Ig{e:iE}{S':Nat->Prop}{w':World}{Kn':Nat->Prop}{φ':Nat->fE}(hE:iE.ok S w Kn φ e a.tmps)(hs:fw S w S' w')(hr:Ren Kn φ Kn' φ'){d:Option Nat}{v:TV}{val:Value}
  (hd:∀x,d=some x->x<a.tmps.size) (hv:eU S' w' Kn' φ' v val):iE.ok S' w' Kn' φ' (Ev.put e d v) (a.put d val).tmps:=by
 intro t x hx;rw[j6]at hx;cases d with
 |none=>simp only[reduceCtorEq,if_false]at hx;exact(hE t x hx).mono hs hr
 |some d=>
  rw[Lv (hd d rfl)];by_cases h:t=d
  .subst h;simp only[if_true]at hx;rw[if_pos rfl,<-aa hx];exact hv
  .have h2:¬(some d=some t):=fun e=>h (aa e).symm;rw[if_neg h2]at hx;rw[if_neg h];exact(hE t x hx).mono hs hr
theorem iE.Fo{e:iE}(hE:iE.ok S w Kn φ e a.tmps){d:Option Nat}:iE.ok S w Kn φ (Ev.drop e d) (a.put d undef).tmps:=by
 intro t x hx;rw[wU]at hx;have hu:eU S w Kn φ (.gR []) undef:=.gR rfl fun i x hi=>by simp at hi
 split at hx
 .rename_i h;subst h;obtain rfl:=aa hx;have:(a.put (some t) undef).tmps.getD t undef=undef:=by simp only[Act.put,bp,jh,if_true];split<;>rfl
  rw[this];exact hu
 .rename_i h;have:=hE t x hx;cases d with|none=>exact this|some d=>have h2:¬d=t:=fun e=>h (by rw[e]);simp only[Act.put,bp,jh,if_neg h2];rw[bp]at this;exact this
theorem n_{e:iE}(hE:iE.ok S w Kn φ e a.tmps)(hsz:a.tmps.size<1000000000){all:Array Oper}{o:Oper}{b:Bool}(h:ja e (fz P da nt all o).guard=some b):
  Region.wanted o (yielded all a.tmps)=b:=by
 unfold fz at h;simp only at h;unfold Region.wanted;cases hg:o.guard with
 |none=>rw[hg]at h;simpa[ja]using h
 |some p=>
  obtain⟨j,want⟩:=p;rw[hg]at h;simp only[ja]at h;split at h
  .rename_i x hx;have hr:=hE _ _ hx;obtain⟨hv,_⟩:=hr.lit;cases hd:(all[j]?).bind (·.dst)with
   |none=>rw[hd]at hv;simp only[Option.getD_none]at hv;rw[bp,Array.getElem?_eq_none (by omega)]at hv;simp[undef]at hv
   |some t=>
    rw[hd]at hv;simp only[eO]at hv
    have ht:a.tmps[t]?=some (.bool x):=by
     rw[bp]at hv;cases ht:a.tmps[t]?with
     |none=>rw[ht]at hv;simp[undef]at hv
     |some y=>rw[ht]at hv;simpa using hv
    obtain rfl:=aa h;simp only[yielded,hd,ae,ht];cases x<;>cases want<;>rfl
  .rename_i hx;have hr:=hE _ _ hx;obtain rfl:=aa h;cases hd:(all[j]?).bind (·.dst)with
   |none=>simp only[yielded,hd,Option.bind_none];rfl
   |some t=>
    rw[hd]at hr;simp only[eO]at hr;generalize hv:a.tmps.getD t undef=v at hr;cases hr with
    |@gR _ aJ hlen _=>
     rw[bp]at hv;simp only[yielded,hd,ae];cases ht:a.tmps[t]?with
     |none=>rfl
     |some y=>rw[ht]at hv;simp only[eO]at hv;subst hv;rfl
  .simp at h
end
section
variable{H H':bz}
def gf(H H':bz)(aw:List Nat):Prop:=∀i∈aw,av H' i=av H i
theorem gf.left{a b:List Nat}(h:gf H H' (a++b)):gf H H' a:=fun i hi=>h i (aE _ hi)
theorem gf.right{a b:List Nat}(h:gf H H' (a++b)):gf H H' b:=fun i hi=>h i (aC _ hi)
theorem rW:∀n,(∀c x aw,dE H n c=some (x,aw)->gf H H' aw->dE H' n c=some (x,aw))/\
  (∀cs xs aw,fc H n cs=some (xs,aw)->gf H H' aw->fc H' n cs=some (xs,aw)):=by
 have leaf:∀n c x aw,(match c with|.op _ _|.mP _ _=>False|_=>True)->dE H n c=some (x,aw)->gf H H' aw->dE H' n c=some (x,aw):=by
  intro n c x aw hl h ha;cases c with
  |d y=>simpa only[dE]using h
  |dz sz id off len=>
   have:av H' id=av H id:=ha id (by
    simp only[dE]at h;split at h
    all_goals first
     |(split at h
       .obtain ⟨_,rfl⟩:=ad (aa h);simp
       .simp at h)
     |(split at h
       .split at h
        .obtain ⟨_,rfl⟩:=ad (aa h);simp
        .simp at h
       .simp at h)
     |simp at h)
   simp only[dE]at h|-;rw[this];exact h
  |ep id cC off=>
   have:av H' id=av H id:=ha id (by
    simp only[dE]at h;split at h
    all_goals first
     |(split at h
       .split at h
        .obtain ⟨_,rfl⟩:=ad (aa h);simp
        .simp at h
       .simp at h)
     |simp at h)
   simp only[dE]at h|-;rw[this];exact h
  |op id off=>exact hl.elim
  |mP f caps=>exact hl.elim
  |om id=>cases n<;>simp[dE]at h
 intro n;induction n with
 |zero=>
  refine⟨fun c x aw h ha=>?_,fun cs xs aw h ha=>?_⟩
  .cases c with|op id off=>simp[dE]at h|mP f caps=>simp[dE]at h|_=>exact leaf 0 _ x aw trivial h ha
  .cases cs with|nil=>simpa only[fc]using h|cons c cs=>simp[fc]at h
 |succ n ih=>
  refine⟨fun c x aw h ha=>?_,fun cs xs aw h ha=>?_⟩
  .cases c with
   |op id off=>
    simp only[dE]at h|-;split at h
    .rename_i ho;split at h
     .rename_i hle;obtain⟨rfl,rfl⟩:=ad (aa h);rw[ha id (by simp),ho];simp only[hle,if_true]
     .simp at h
    .rename_i ho;split at h
     .rename_i hv;split at h
      .rename_i hle;obtain⟨rfl,rfl⟩:=ad (aa h);rw[ha id (by simp),ho];simp only[ih.2 _ _ _ hv (fun i hi=>ha i (by simp[hi])),hle,if_true]
      .simp at h
     .simp at h
    .simp at h
   |mP f caps=>
    simp only[dE]at h|-;split at h
    .rename_i hv;obtain⟨rfl,rfl⟩:=ad (aa h);simp only[ih.2 _ _ _ hv ha]
    .simp at h
   |_=>exact leaf _ _ x aw trivial h ha
  .cases cs with
   |nil=>simpa only[fc]using h
   |cons c cs=>
    simp only[fc]at h|-;split at h
    .rename_i h1 h2;obtain⟨rfl,rfl⟩:=ad (aa h);simp only[ih.1 _ _ _ h1 ha.left,ih.2 _ _ _ h2 ha.right]
    .simp at h
theorem pF:∀cs xs aw,du H cs=some (xs,aw)->gf H H' aw->du H' cs=some (xs,aw):=by
 intro cs;induction cs with
 |nil=>intro xs aw h _;simpa only[du]using h
 |cons c cs ih=>
  intro xs aw h ha;simp only[du]at h|-;split at h
  .rename_i h1 h2;obtain⟨rfl,rfl⟩:=ad (aa h);simp only[(rW 300).1 _ _ _ h1 ha.left,ih _ _ h2 ha.right]
  .simp at h
theorem p8{all:List Nat}(ha:gf H H' all):∀(l:List Nat)(u:eG),(∀i∈l,i∈all)->de H all l=some u->de H' all l=some u:=by
 intro l;induction l with
 |nil=>intro u _ h;simpa only[de]using h
 |cons a l ih=>
  intro u hl h;simp only[de]at h|-;split at h
  .rename_i o u' ho hu
   have hob:iN H' all a=some o:=by
    unfold iN at ho|-;rw[ha a (hl a (by simp))];split at ho
    .exact ho
    .exact ho
    .exact ho
    .split at ho
     .rename_i hv;split at ho
      .rename_i hall;simp only[(rW 300).2 _ _ _ hv (fun i hi=>ha i (by simpa using aV.1 hall i hi)),hall,if_true];exact ho
      .simp at ho
     .simp at ho
    .simp at ho
    .simp at ho
    .exact ho
    .simp at ho
   simp only[hob,ih u' (fun i hi=>hl i (by simp[hi])) hu];exact h
  .simp at h
theorem wG{agg:Bool}{n:Nat}{p:C}{v:TV}{aw:List Nat}(h:ge agg n p H=some (v,aw))(ha:gf H H' aw):ge agg n p H'=some (v,aw):=by
 unfold ge at h|-;split at h
 .exact h
 .rename_i id cC off
  have:av H' id=av H id:=ha id (by
   split at h
   all_goals first
    |(split at h
      .split at h
       .obtain ⟨_,rfl⟩:=ad (aa h);simp
       .simp at h
      .simp at h)
    |simp at h)
  simp only[this];exact h
 .rename_i id off
  have:av H' id=av H id:=ha id (by
   split at h
   all_goals first
    |(split at h
      .obtain ⟨_,rfl⟩:=ad (aa h);simp
      .simp at h)
    |simp at h)
  simp only[this];exact h
 .simp at h
theorem Dl{id cC sz:Nat}{slots:List jf}{cs:List C}{u:eG}{aw:List Nat}(h:p_ id cC sz slots cs H=some (u,aw))(ha:gf H H' aw):p_ id cC sz slots cs H'=some (u,aw):=by
 unfold p_ at h|-;split at h
 .exact h
 .rename_i sz' id2 len
  have hid:id2∈aw:=by
   repeat' split at h
   all_goals first
    |(simp at h;done)
    |(obtain⟨_,h2⟩:=ad (aa h);rw[<-h2];simp)
  simp only[ha id2 hid];exact h
 .simp at h
theorem BG{agg:Bool}{n nxt n':Nat}{p:C}{v:TV}{u:eG}{aw:List Nat}(h:j7 agg n p H nxt=some (v,u,aw,n'))(ha:gf H H' aw):ge agg n p H'=none/\j7 agg n p H' nxt=some (v,u,aw,n'):=by
 unfold j7 at h;split at h
 case h_2=>simp at h
 rename_i id cC;split at h
 case h_2=>simp at h
 rename_i sz slots ho
 have hid:id∈aw:=by
  repeat' split at h
  all_goals first
   |(simp at h;done)
   |(obtain⟨_,_,h2,_⟩:=(by simpa using h:_/\_/\[id]=aw/\_);rw[<-h2];simp)
 have ho':av H' id=some (.nst sz slots):=by rw[ha id hid];exact ho
 refine⟨by simp only[ge,ho'],?_⟩;simp only[j7,ho'];exact h
theorem AM{n:Nat}{p:C}{v:TV}{u:eG}{aw:List Nat}(h:kF n p v H=some (u,aw))(ha:gf H H' aw):kF n p v H'=some (u,aw):=by
 unfold kF at h|-;split at h
 .simp at h
 .rename_i cs hcs;split at h
  .rename_i hlen;simp only[hlen,if_true];split at h
   .rename_i id cC off;split at h
    .rename_i sz aj ho;split at h
     .rename_i r ds ids1 hr hv;split at h
      .rename_i u1 hfz;split at h
       .rename_i hb;obtain⟨rfl,rfl⟩:=ad (aa h);have ha1:gf H H' ids1:=fun i hi=>ha i (by simp[hi]);simp only[ha id (by simp),ho,hr,pF _ _ _ hv ha1,p8 ha1 _ _ (fun i hi=>hi) hfz,hb.1,hb.2,and_self,if_true]
       .simp at h
      .simp at h
     .simp at h
    .rename_i sz slots ho;split at h
     .rename_i hc
      have hid:id∈aw/\∀i,cs=[.dz sz i 0 0]->True:=by
       refine⟨?_,fun _ _=>trivial⟩;unfold p_ at h
       repeat' split at h
       all_goals first
        |(simp at h;done)
        |(obtain⟨_,h2⟩:=ad (aa h);rw[<-h2];simp)
      simp only[ha id hid.1,ho,if_pos hc];exact Dl h ha
     .simp at h
    .simp at h
   .rename_i id off;split at h
    .rename_i cells ho;split at h
     .rename_i hb;obtain⟨rfl,rfl⟩:=ad (aa h);simp only[ha id (by simp),ho,hb,if_true]
     .simp at h
    .simp at h
   .simp at h
  .simp at h
theorem mW{sz:Nat}{x:C}{new:List (List D)}{aw:List Nat}(h:ic sz H x=some (new,aw))(ha:gf H H' aw):ic sz H' x=some (new,aw):=by
 unfold ic at h|-;split at h
 .exact h
 .exact h
 .rename_i sz' id off len
  have:av H' id=av H id:=ha id (by
   split at h
   all_goals first
    |(split at h
      .obtain ⟨_,rfl⟩:=ad (aa h);simp
      .simp at h)
    |simp at h)
  simp only[this];exact h
 .simp at h
theorem D9{sz:Nat}{d x:C}{i:Int}{u:eG}{aw:List Nat}(h:kK sz d x H=some (i,u,aw))(ha:gf H H' aw):kK sz d x H'=some (i,u,aw):=by
 unfold kK at h|-;split at h
 .rename_i new ids1 hr;obtain⟨_,_,rfl⟩:_/\_/\ids1=aw:=by simpa using h
  rw[mW hr ha];exact h
 .rename_i new ids1 sz' id off len hr;split at h
  .rename_i szo aj ho;split at h
   .rename_i hb;obtain⟨_,_,rfl⟩:_/\_/\id::ids1=aw:=by simpa using h
    rw[mW hr fun j hj=>ha j (aA _ hj)];simp only[ha id (by simp),ho,if_pos hb];exact h
   .simp at h
  .simp at h
 .simp at h
theorem Cf{sz:Nat}{d x:C}{i:Int}{u:eG}{aw:List Nat}(h:m_ sz d x H=some (i,u,aw))(ha:gf H H' aw):m_ sz d x H'=some (i,u,aw)/\kK sz d x H'=none:=by
 unfold m_ at h|-;split at h
 case h_2=>simp at h
 rename_i sz' id off len sz2 id2 off2 len2
 have hids:aw=[id,id2]:=by
  repeat' split at h
  all_goals first
   |(simp at h;done)
   |(obtain⟨_,_,h2⟩:=(by simpa using h:_/\_/\[id,id2]=aw);exact h2.symm)
 subst hids;have a1:=ha id (by simp);have a2:=ha id2 (by simp);refine⟨by simp only[a1,a2];exact h,?_⟩
 have:∃szo aj cp,av H' id=some (.cap szo aj cp):=by
  rw[a1];split at h
  .exact ⟨_,_,_,by assumption⟩
  .exact ⟨_,_,_,by assumption⟩
  .simp at h
 obtain⟨szo,aj,cp,ho⟩:=this;unfold kK;split
 .rename_i hd;simp at hd
 .rename_i hd;obtain⟨rfl,rfl,rfl,rfl⟩:=(by simpa using hd:_/\_/\_/\_)
  rw[ho]
 .rfl
theorem Ao{sz nxt n':Nat}{s x:C}{v:TV}{u:eG}{aw:List Nat}(h:mA sz s x H nxt=some (v,u,aw,n'))(ha:gf H H' aw):mA sz s x H' nxt=some (v,u,aw,n'):=by
 unfold mA at h|-;split at h
 .simp at h
 .rename_i new ids1 hr;split at h
  .have e1:ids1=aw:=by
    split at h
    .split at h
     .obtain ⟨_,_,h3,_⟩:=(by simpa using h:_/\_/\ids1=aw/\_);exact h3
     .obtain ⟨_,_,h3,_⟩:=(by simpa using h:_/\_/\ids1=aw/\_);exact h3
    .simp at h
   subst e1;simp only[mW hr ha];exact h
  .rename_i sz' id off len;split at h
   .rename_i szo aj ho;split at h
    .rename_i hb;have e1:id::ids1=aw:=by obtain⟨_,_,h3,_⟩:=(by simpa using h:_/\_/\id::ids1=aw/\_);exact h3
     subst e1;simp only[mW hr (fun i hi=>ha i (by simp[hi])),ha id (by simp),ho];rw[if_pos hb];exact h
    .simp at h
   .simp at h
  .simp at h
theorem Dt:∀n,(∀c t bn rd,dZ H n c=some (t,bn,rd)->gf H H' rd->dZ H' n c=some (t,bn,rd))/\
  (∀cs ts bn rd,gM H n cs=some (ts,bn,rd)->gf H H' rd->gM H' n cs=some (ts,bn,rd)):=by
 have leaf:∀n c t bn rd,(match c with|.op _ _=>False|_=>True)->dZ H n c=some (t,bn,rd)->gf H H' rd->dZ H' n c=some (t,bn,rd):=by
  intro n c t bn rd hl h ha;cases c with
  |d y=>cases n<;>simpa only[dZ]using h
  |dz sz id off len=>
   have hm:id∈rd:=by
    cases n<;>
    .simp only[dZ]at h;split at h
     all_goals first
      |(split at h
        .split at h
         .obtain ⟨_,_,h3⟩:=(by simpa using h:_/\_/\[id]=rd);rw[<-h3];simp
         .simp at h
        .simp at h)
      |(split at h
        .obtain ⟨_,_,h3⟩:=(by simpa using h:_/\_/\[id]=rd);rw[<-h3];simp
        .simp at h)
      |simp at h
   have:av H' id=av H id:=ha id hm;cases n<;>
   .simp only[dZ]at h|-;rw[this];exact h
  |ep id cC off=>cases n<;>simp[dZ]at h
  |mP f caps=>cases n<;>simp[dZ]at h
  |om id=>cases n<;>simp[dZ]at h
  |op id off=>exact hl.elim
 intro n;induction n with
 |zero=>
  refine⟨fun c t bn rd h ha=>?_,fun cs ts bn rd h ha=>?_⟩
  .cases c with|op id off=>simp[dZ]at h|_=>exact leaf 0 _ t bn rd trivial h ha
  .cases cs with|nil=>simpa only[gM]using h|cons c cs=>simp[gM]at h
 |succ n ih=>
  refine⟨fun c t bn rd h ha=>?_,fun cs ts bn rd h ha=>?_⟩
  .cases c with
   |op id off=>
    cases off with
    |succ off=>simp[dZ]at h
    |zero=>
     simp only[dZ]at h|-;split at h
     .rename_i ho;split at h
      .rename_i ts own' rd' hp;obtain⟨h1,h2,h3⟩:=(by simpa using h:T.pt ts=t/\id::own'=bn/\id::rd'=rd)
       subst h1 h2 h3;rw[ha id (by simp),ho];simp only[ih.2 _ _ _ _ hp (fun i hi=>ha i (by simp[hi]))]
      .simp at h
     .rename_i cells ho;obtain⟨h1,h2,h3⟩:=(by simpa using h:T.d (.pt cells)=t/\[]=bn/\[id]=rd)
      subst h1 h2 h3;rw[ha id (by simp),ho]
     .simp at h
   |_=>exact leaf _ _ t bn rd trivial h ha
  .cases cs with
   |nil=>simpa only[gM]using h
   |cons c cs=>
    simp only[gM]at h|-;split at h
    .rename_i t0 a i0 ts0 b j0 h1 h2;obtain⟨e1,e2,e3⟩:=(by simpa using h:t0::ts0=ts/\a++b=bn/\i0++j0=rd)
     subst e1 e2 e3;simp only[ih.1 _ _ _ _ h1 ha.left,ih.2 _ _ _ _ h2 ha.right]
    .simp at h
theorem xr:∀(tvs:List TV)(ms:List Bool)(as:List A)(aw:List Nat)(lent:List (C×List Nat×List Nat)),fy H tvs ms=some (as,aw,lent)->gf H H' aw->gf H H' (lent.flatMap (·.2.2))->
  fy H' tvs ms=some (as,aw,lent):=by
 intro tvs;induction tvs with
 |nil=>intro ms as aw lent h _ _;simpa only[fy]using h
 |cons t tvs ih=>
  intro ms as aw lent h ha hb;simp only[fy]at h|-;split at h
  .simp at h
  .rename_i as1 ids1 lent1 hrec;split at h
   .rename_i hm;split at h
    .split at h
     .rename_i t0 bn rd hp;obtain⟨e1,e2,e3⟩:=(by simpa using h:A.mt t0::as1=as/\ids1=aw/\(_,bn,rd)::lent1=lent)
      subst e1 e2 e3;simp only[bf]at hb;simp only[ih _ _ _ _ hrec ha hb.right,hm,if_true,(Dt 300).1 _ _ _ _ hp hb.left]
     .simp at h
    .simp at h
   .rename_i hm;split at h
    .split at h
     .rename_i x i hv;obtain⟨e1,e2,e3⟩:=(by simpa using h:A.d x::as1=as/\i++ids1=aw/\lent1=lent)
      subst e1 e2 e3;simp only[ih _ _ _ _ hrec ha.right hb,hm,if_false,aN,(rW 300).1 _ _ _ hv ha.left]
     .simp at h
    .split at h
     .rename_i xs i hv;obtain⟨e1,e2,e3⟩:=(by simpa using h:A.agg xs::as1=as/\i++ids1=aw/\lent1=lent)
      subst e1 e2 e3;simp only[ih _ _ _ _ hrec ha.right hb,hm,if_false,aN,pF _ _ _ hv ha.left]
     .simp at h
    .simp at h
theorem E7:∀(tvs:List TV)(ms:List Bool)(as:List A)(aw:List Nat)(lent:List (C×List Nat×List Nat)),fy H tvs ms=some (as,aw,lent)->
  ∀c bn rd,(c,bn,rd)∈lent->∃t,dZ H 300 c=some (t,bn,rd):=by
 intro tvs;induction tvs with
 |nil=>
  intro ms as aw lent h c bn rd hm;obtain⟨_,_,rfl⟩:[]=as/\[]=aw/\[]=lent:=by simpa[fy]using h
  simp at hm
 |cons t tvs ih=>
  intro ms as aw lent h c bn rd hm;simp only[fy]at h;split at h
  .simp at h
  .rename_i as1 ids1 lent1 hrec;split at h
   .split at h
    .split at h
     .rename_i c0 _ t0 own0 rd0 hp;obtain⟨_,_,e3⟩:=(by simpa using h:A.mt t0::as1=as/\ids1=aw/\(_,own0,rd0)::lent1=lent)
      subst e3;rcases aF.1 hm with hm|hm
      .simp only[cO]at hm;obtain⟨g1,g2,g3⟩:=hm;rw[g1,g2,g3];exact⟨_,hp⟩
      .exact ih _ _ _ _ hrec c bn rd hm
     .simp at h
    .simp at h
   .split at h
    .split at h
     .obtain ⟨_,_,e3⟩:=(by simpa using h:_/\_/\lent1=lent)
      subst e3;exact ih _ _ _ _ hrec c bn rd hm
     .simp at h
    .split at h
     .obtain ⟨_,_,e3⟩:=(by simpa using h:_/\_/\lent1=lent)
      subst e3;exact ih _ _ _ _ hrec c bn rd hm
     .simp at h
    .simp at h
theorem uI:∀(l:List (C×List Nat×List Nat)),(∀c bn rd,(c,bn,rd)∈l->∃t,dZ H 300 c=some (t,bn,rd))->gf H H' (l.flatMap (·.2.2))->dU H' l=dU H l:=by
 intro l;induction l with
 |nil=>intro _ _;rfl
 |cons p l ih=>
  obtain⟨c,bn,rd⟩:=p;intro hp ha;simp only[bf]at ha;have h1:=ih (fun c bn rd hm=>hp c bn rd (by simp[hm])) ha.right;cases c with
  |dz sz id off len=>
   obtain⟨t,ht⟩:=hp (.dz sz id off len) bn rd (by simp)
   have hm:id∈rd:=by
    simp only[dZ]at ht;split at ht
    all_goals first
     |(split at ht
       .split at ht
        .obtain ⟨_,_,h3⟩:=(by simpa using ht:_/\_/\[id]=rd);rw[<-h3];simp
        .simp at ht
       .simp at ht)
     |(split at ht
       .obtain ⟨_,_,h3⟩:=(by simpa using ht:_/\_/\[id]=rd);rw[<-h3];simp
       .simp at ht)
     |simp at ht
   simp only[dU,h1,ha.left id hm]
  |_=>simp only[dU,h1]
theorem Ei{call:Call}{ro:Bool}{iR:List Bool}{f:Option TV}{vs:List (Option TV)}{nxt n':Nat}{v:TV}{u:eG}{aw:List Nat}(h:sx call ro iR f vs H nxt=some (v,u,aw,n'))(ha:gf H H' aw):
  sx call ro iR f vs H' nxt=some (v,u,aw,n'):=by
 unfold sx at h|-;split at h
 .rename_i f caps vs hf hvs;split at h
  .simp at h
  .rename_i as ids1 lent hargs;split at h
   .rename_i hcond;split at h
    .simp at h
    .rename_i rs outs hcall;by_cases hro:ro=true
     .rw [if_pos hro]at h;split at h
      .rename_i hc;split at h
       .simp at h
       .rename_i bu m hbk;have e1:ids1++lent.flatMap (·.2.2)=aw:=by obtain⟨_,_,h3,_⟩:=(by simpa using h:_/\_/\ids1++lent.flatMap (·.2.2)=aw/\_);exact h3
        subst e1;simp only[xr _ _ _ _ _ hargs ha.left ha.right];rw[if_pos (by rw[uI lent (E7 _ _ _ _ _ hargs) ha.right];exact hcond)];simp only[hcall];rw[if_pos hro,if_pos hc];simp only[hbk];exact h
      .simp at h
     .rw [if_neg hro]at h;split at h
      .simp at h
      .rename_i fu hfz;split at h
       .simp at h
       .rename_i bu m hbk;have e1:ids1++lent.flatMap (·.2.2)=aw:=by obtain⟨_,_,h3,_⟩:=(by simpa using h:_/\_/\ids1++lent.flatMap (·.2.2)=aw/\_);exact h3
        subst e1;simp only[xr _ _ _ _ _ hargs ha.left ha.right];rw[if_pos (by rw[uI lent (E7 _ _ _ _ _ hargs) ha.right];exact hcond)];simp only[hcall];rw[if_neg hro];simp only[p8 ha.left _ _ (fun i hi=>hi) hfz,hbk];exact h
   .simp at h
 .simp at h
theorem uz{call:Call}{sz len:Nat}{zero:List Value}{places:List Nat}{vs:List (Option TV)}{nxt n':Nat}{v:TV}{u:eG}{aw:List Nat}
  (h:cm call (.buildSlice sz len zero places) vs H nxt=some (v,u,aw,n')) (ha:gf H H' aw):cm call (.buildSlice sz len zero places) vs H' nxt=some (v,u,aw,n'):=by
 have key:∀G:bz,cm call (.buildSlice sz len zero places) vs G nxt=(match dX vs with
  |some xs=>
   (match lx (eJ zero) ((places.map fun i=>(i*sz,sz)).zip xs)with
   |some cs=>
    (match du G cs with
    |some (ds,aw)=>(match de G aw aw with|some u=>some (TV.c (.dz sz nxt 0 len),(nxt,some (Ob.aJ sz (kL sz len ds)))::u,aw,nxt+1)|none=>none)
    |none=>none)
   |none=>none)
  |none=>none):=fun _=>rfl
 rw[key]at h|-;split at h
 .rename_i xs hxs;split at h
  .rename_i cs hcs;split at h
   .rename_i ds ids1 hv;split at h
    .rename_i u1 hfz;obtain⟨_,_,h3,_⟩:=(by simpa using h:_/\_/\ids1=aw/\_)
     subst h3;simp only[pF _ _ _ hv ha,p8 ha _ _ (fun i hi=>hi) hfz];exact h
    .simp at h
   .simp at h
  .simp at h
 .simp at h
theorem zN{ka va ok:Bool}{ks:List Kd}{z:List Value}{m:C}{k v:TV}{aw:List Nat}(h:gx ka ks va z ok m k H=some (v,aw))(ha:gf H H' aw):gx ka ks va z ok m k H'=some (v,aw):=by
 unfold gx at h|-;split at h
 .exact h
 .rename_i id key hkey
  have hid:id∈aw:=by
   repeat' split at h
   all_goals first
    |(simp at h;done)
    |(obtain⟨_,h2⟩:=ad (aa h);rw[<-h2];simp)
  simp only[ha id hid];exact h
 .simp at h
theorem B6{ka va:Bool}{ks:List Kd}{z:List Value}{m:C}{k v:TV}{u:eG}{aw:List Nat}(h:lA ka ks va z m k H=some (v,u,aw))(ha:gf H H' aw):lA ka ks va z m k H'=some (v,u,aw):=by
 unfold lA at h|-;split at h
 .rename_i id key hkey
  have hid:id∈aw:=by
   repeat' split at h
   all_goals first
    |(simp at h;done)
    |(obtain⟨_,_,h2⟩:=(by simpa using h:_/\_/\[id]=aw);rw[<-h2];simp)
  simp only[ha id hid];exact h
 .simp at h
theorem Aa{va:Bool}{n:Nat}{m:C}{s:Option TV}{x:TV}{u:eG}{aw:List Nat}(h:lB va n m s x H=some (u,aw))(ha:gf H H' aw):lB va n m s x H'=some (u,aw):=by
 unfold lB at h|-;split at h
 .rename_i id s1 ds dA hds
  have hid:id∈aw:=by
   repeat' split at h
   all_goals first
    |(simp at h;done)
    |(obtain⟨_,h2⟩:=(by simpa using h:_/\[id]=aw);rw[<-h2];simp)
  simp only[ha id hid];exact h
 .simp at h
theorem wj{str:Bool}{sz:Nat}{x y:C}{l m:Int}{aw:List Nat}(h:l5 str sz x l m H=some (y,aw))(ha:gf H H' aw):l5 str sz x l m H'=some (y,aw):=by
 unfold l5 at h|-;split at h
 .rename_i sz' id off len
  have hid:id∈aw:=by
   repeat' split at h
   all_goals first
    |(simp at h;done)
    |(obtain⟨_,h2⟩:=(by simpa using h:_/\[id]=aw);rw[<-h2];simp)
  simp only[ha id hid];exact h
 .simp at h
theorem Cj{z:List Value}{x:C}{u:eG}{aw:List Nat}(h:nc z x H=some (u,aw))(ha:gf H H' aw):nc z x H'=some (u,aw):=by
 unfold nc at h|-;split at h
 .rename_i sz id off len
  have hid:id∈aw:=by
   repeat' split at h
   all_goals first
    |(simp at h;done)
    |(obtain⟨_,h2⟩:=(by simpa using h:_/\[id]=aw);rw[<-h2];simp)
  simp only[ha id hid];exact h
 .simp at h
theorem Er{szi nxt n':Nat}{s x:C}{v:TV}{u:eG}{aw:List Nat}(h:mJ szi s x H nxt=some (v,u,aw,n'))(ha:gf H H' aw):mJ szi s x H' nxt=some (v,u,aw,n'):=by
 unfold mJ at h|-;split at h
 .rename_i idB;split at h
  .rename_i szB idR len hB;split at h
   .rename_i hsz;split at h
    .cases h;simp only[ha idB (by simp),hB,if_pos hsz]
    .rename_i idA n;split at h
     .rename_i szA slots hA;split at h
      .rename_i hc;cases h;simp only[ha idB (by simp),ha idA (by simp),hB,hA,if_pos hsz,if_pos hc]
      .cases h
     .cases h
    .cases h
   .cases h
  .cases h
 .cases h
def EA:Ev.K->Bool
 |.rJ|.Cw _|.slice _ _ _ _|.clear _|.Ki|.P5 _|.Pu|.load _ _|.store _|.buildSlice _ _ _ _|.append _|.copy _|.call _ _|.lookup _ _ _ _ _|.mapEntry _ _ _ _|.entryStore _ _=>true
 |_=>false
theorem GZ{call:Call}{k:Ev.K}{vs:List (Option TV)}{nxt:Nat}(hk:EA k=false):cm call k vs H nxt=cm call k vs H' nxt:=by
 cases k<;>first
  |(simp[EA]at hk;done)
  |(unfold cm;split<;>first|rfl|simp_all)
theorem G0{call:Call}{k:Ev.K}{vs:List (Option TV)}{nxt n':Nat}{v:TV}{u:eG}{aw:List Nat}(h:cm call k vs H nxt=some (v,u,aw,n'))(ha:gf H H' aw):
  cm call k vs H' nxt=some (v,u,aw,n'):=by
 cases k with
 |load agg n=>
  match vs,h with
  |[some (.c p)],h=>
   change (match ge agg n p H with|some (v,aw)=>some (v,[],aw,nxt)|none=>none)=_ at h;show(match ge agg n p H' with|some (v,aw)=>some (v,[],aw,nxt)|none=>none)=_;split at h
   .rename_i hl;obtain⟨_,_,h3,_⟩:=(by simpa using h:_/\_/\_=aw/\_)
    subst h3;rw[wG hl ha];exact h
   .simp at h
 |rJ=>
  match vs,h with
  |[some (.c p)],h=>
   change (match ge false 1 p H with|some (v,aw)=>some (v,[],aw,nxt)|none=>j7 false 1 p H nxt)=_ at h;show(match ge false 1 p H' with|some (v,aw)=>some (v,[],aw,nxt)|none=>j7 false 1 p H' nxt)=_;split at h
   .rename_i hl;obtain⟨_,_,h3,_⟩:=(by simpa using h:_/\_/\_=aw/\_)
    subst h3;rw[wG hl ha];exact h
   .obtain ⟨h1,h2⟩:=BG h ha;rw[h1];exact h2
 |Cw szi=>match vs,h with|[some (.c s),some (.c x)],h=>exact Er (s:=s) (x:=x) h ha
 |store n=>
  match vs,h with
  |[some (.c p),some x],h=>
   change (match kF n p x H with|some (u,aw)=>some (TV.gR [],u,aw,nxt)|none=>none)=_ at h;show(match kF n p x H' with|some (u,aw)=>some (TV.gR [],u,aw,nxt)|none=>none)=_;split at h
   .rename_i hl;obtain⟨_,_,h3,_⟩:=(by simpa using h:_/\_/\_=aw/\_)
    subst h3;rw[AM hl ha];exact h
   .simp at h
 |buildSlice sz len zero places=>exact uz h ha
 |clear z=>
  match vs,h with
  |[some (.c d)],h=>
   change (match nc z d H with|some (u,aw)=>some (TV.gR [],u,aw,nxt)|none=>none)=_ at h;show(match nc z d H' with|some (u,aw)=>some (TV.gR [],u,aw,nxt)|none=>none)=_;split at h
   .rename_i hl;obtain⟨_,_,h3,_⟩:=(by simpa using h:_/\_/\_=aw/\_)
    subst h3;rw[Cj hl ha];exact h
   .simp at h
 |slice str sz lo hi=>
  have dw:hi=false->cm call (.slice str sz lo hi) vs H nxt=cm call (.slice str sz lo hi) vs H' nxt:=by
   intro hlh
   cases lo<;>cases hi<;>first
    |(simp at hlh;done)
    |(match vs with
     |[]=>rfl
     |none::_=>rfl
     |some (.agg _)::_=>rfl
     |some (.gR _)::_=>rfl
     |some (.c _)::[]=>rfl
     |some (.c _)::_::[]=>rfl
     |some (.c _)::_::_::_=>rfl)
  cases hi with
  |false=>rw[<-dw rfl];exact h
  |true=>
   cases lo with
   |false=>
    match vs,h with
    |[some (.c x),m],h=>
     change (match b_ m with
      |some m=>(match eX str sz x none (some m)with
       |some y=>some (TV.c y,([]:eG),([]:List Nat),nxt)
       |none=>(match l5 str sz x 0 m H with|some (y,aw)=>some (TV.c y,([]:eG),aw,nxt)|none=>none))
      |none=>none)=_ at h
     show(match b_ m with
      |some m=>(match eX str sz x none (some m)with
       |some y=>some (TV.c y,([]:eG),([]:List Nat),nxt)
       |none=>(match l5 str sz x 0 m H' with|some (y,aw)=>some (TV.c y,([]:eG),aw,nxt)|none=>none))
      |none=>none)=_
     split at h
     .split at h
      .exact h
      .split at h
       .rename_i hl;obtain⟨_,_,h3,_⟩:=(by simpa using h:_/\_/\_=aw/\_)
        subst h3;rw[wj hl ha];exact h
       .simp at h
     .simp at h
   |true=>
    match vs,h with
    |[some (.c x),l,m],h=>
     change (match b_ l,b_ m with
      |some l,some m=>(match eX str sz x (some l) (some m)with
       |some y=>some (TV.c y,([]:eG),([]:List Nat),nxt)
       |none=>(match l5 str sz x l m H with|some (y,aw)=>some (TV.c y,([]:eG),aw,nxt)|none=>none))
      |_,_=>none)=_ at h
     show(match b_ l,b_ m with
      |some l,some m=>(match eX str sz x (some l) (some m)with
       |some y=>some (TV.c y,([]:eG),([]:List Nat),nxt)
       |none=>(match l5 str sz x l m H' with|some (y,aw)=>some (TV.c y,([]:eG),aw,nxt)|none=>none))
      |_,_=>none)=_
     split at h
     .split at h
      .exact h
      .split at h
       .rename_i hl;obtain⟨_,_,h3,_⟩:=(by simpa using h:_/\_/\_=aw/\_)
        subst h3;rw[wj hl ha];exact h
       .simp at h
     .simp at h
 |append sz=>match vs,h with|[some (.c s),some (.c x)],h=>exact Ao (s:=s) (x:=x) h ha
 |copy sz=>
  match vs,h with
  |[some (.c d),some (.c x)],h=>
   change (match kK sz d x H with|some (i,u,aw)=>some (lv (.int .i64 i),u,aw,nxt)|none=>(match m_ sz d x H with|some (i,u,aw)=>some (lv (.int .i64 i),u,aw,nxt)|none=>none))=_ at h;show(match kK sz d x H' with|some (i,u,aw)=>some (lv (.int .i64 i),u,aw,nxt)|none=>(match m_ sz d x H' with|some (i,u,aw)=>some (lv (.int .i64 i),u,aw,nxt)|none=>none))=_;split at h
   .rename_i hl;obtain⟨_,_,h3,_⟩:=(by simpa using h:_/\_/\_=aw/\_)
    subst h3;rw[D9 hl ha];exact h
   .split at h
    .rename_i hl;obtain⟨_,_,h3,_⟩:=(by simpa using h:_/\_/\_=aw/\_)
     subst h3;obtain⟨e1,e2⟩:=Cf hl ha;rw[e2,e1];exact h
    .simp at h
 |Ki=>
  match vs,h with
  |[some (.c x)],h=>
   change (match wZ x H with|some (n,aw)=>some (lv (.int .i64 n),([]:eG),aw,nxt)|none=>none)=_ at h;show(match wZ x H' with|some (n,aw)=>some (lv (.int .i64 n),([]:eG),aw,nxt)|none=>none)=_;split at h
   .rename_i m ids1 hl;obtain⟨_,_,h3,_⟩:=(by simpa using h:_/\_/\_=aw/\_)
    subst h3
    have:wZ x H'=some (m,ids1):=by
     unfold wZ at hl|-;split at hl
     .rename_i id off len
      have hid:id∈ids1:=by
       repeat' split at hl
       all_goals first
        |(simp at hl;done)
        |(obtain⟨_,h2⟩:=(by simpa using hl:_/\[id]=ids1);rw[<-h2];simp)
      simp only[ha id hid];exact hl
     .simp at hl
    rw[this];exact h
   .simp at h
 |Pu=>
  match vs,h with
  |[some (.c x),some (.c y)],h=>
   change (match wY x y H with|some aw=>some (lv (.bool false),([]:eG),aw,nxt)|none=>none)=_ at h;show(match wY x y H' with|some aw=>some (lv (.bool false),([]:eG),aw,nxt)|none=>none)=_;split at h
   .rename_i ids1 hl;obtain⟨_,_,h3,_⟩:=(by simpa using h:_/\_/\_=aw/\_)
    subst h3
    have:wY x y H'=some ids1:=by
     unfold wY at hl|-;split at hl
     .rename_i a o1 l1 sz2 b o2 l2
      have hid:ids1=[a,b]:=by
       repeat' split at hl
       all_goals first
        |(simp at hl;done)
        |(exact(aa hl).symm)
      subst hid;simp only[ha a (by simp),ha b (by simp)];exact hl
     .simp at hl
    rw[this];exact h
   .simp at h
 |P5 z=>
  match vs,h with
  |[some (.c x),some (.c (.d (.lit (.int k1 k))))],h=>
   change yS z x k H nxt=_ at h;show yS z x k H' nxt=_;unfold yS at h|-;split at h
   .rename_i sz' id off len
    have hid:id∈aw:=by
     repeat' split at h
     all_goals first
      |(simp at h;done)
      |(obtain⟨_,_,h2,_⟩:=(by simpa using h:_/\_/\[id]=aw/\_);rw[<-h2];simp)
    simp only[ha id hid];exact h
   .simp at h
 |call ro iR=>match vs,h with|f::vs,h=>exact Ei (f:=f) (vs:=vs) h ha
 |lookup ka ks va z ok=>
  match vs,h with
  |[some (.c m),some k],h=>
   change (match gx ka ks va z ok m k H with|some (v,aw)=>some (v,([]:eG),aw,nxt)|none=>none)=_ at h;show(match gx ka ks va z ok m k H' with|some (v,aw)=>some (v,([]:eG),aw,nxt)|none=>none)=_;split at h
   .rename_i hl;obtain⟨_,_,h3,_⟩:=(by simpa using h:_/\_/\_=aw/\_)
    subst h3;rw[zN hl ha];exact h
   .simp at h
 |mapEntry ka ks va z=>
  match vs,h with
  |[some (.c m),some k],h=>
   change (match lA ka ks va z m k H with|some (v,u,aw)=>some (v,u,aw,nxt)|none=>none)=_ at h;show(match lA ka ks va z m k H' with|some (v,u,aw)=>some (v,u,aw,nxt)|none=>none)=_;split at h
   .rename_i hl;obtain⟨_,_,h3,_⟩:=(by simpa using h:_/\_/\_=aw/\_)
    subst h3;rw[B6 hl ha];exact h
   .simp at h
 |entryStore va n=>
  match vs,h with
  |[some (.c m),s,some x],h=>
   change (match lB va n m s x H with|some (u,aw)=>some (TV.gR [],u,aw,nxt)|none=>none)=_ at h;show(match lB va n m s x H' with|some (u,aw)=>some (TV.gR [],u,aw,nxt)|none=>none)=_;split at h
   .rename_i hl;obtain⟨_,_,h3,_⟩:=(by simpa using h:_/\_/\_=aw/\_)
    subst h3;rw[Aa hl ha];exact h
   .simp at h
 |_=>rw[GZ (H:=H') (H':=H) rfl];exact h
end
end Go.Ev
