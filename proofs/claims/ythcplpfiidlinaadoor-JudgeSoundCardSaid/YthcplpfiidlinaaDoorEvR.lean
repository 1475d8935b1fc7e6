/- Calls: what a callee's answer means, and that a caller may use it. Conditions: the relation of XEvC. -/
import Derived.Test.YthcplpfiidlinaaDoorEvLa
open Array renaming getD_eq_getD_getElem?->bz,getElem?_setIfInBounds->j8
open Bool renaming and_eq_true->ai,false_eq_true->aR
open List renaming all_eq_true->bd,append_assoc->aJ,cons_append->aT,flatMap_cons->bl,getElem?_append_left->bF,getElem?_append_right->bM,getElem?_eq_getElem->aD,getElem?_eq_some_iff->ak,getElem?_map->aI,length_map->aQ,map_cons->aA,mem_append->ao,mem_append_left->aC,mem_append_right->aG,mem_cons->aK,mem_cons_of_mem->aB,mem_flatMap->da,mem_flatten->dq,mem_map->cN,mem_of_getElem?->aW,mem_singleton->aq,nodup_append->bZ,nodup_cons->eE,singleton_append->aY
open List.cons renaming injEq->du
open Nat renaming le_refl->au,le_trans->fy,lt_of_lt_of_le->cU,mul_one->lR
open Option renaming bind_some->ae,getD_some->fx,isSome_iff_exists->gG,map_eq_some_iff->aH
open Option.some renaming inj->aa,injEq->bq
open Prod.mk renaming inj->ad,injEq->cQ
namespace Go.Ev
def RA(S:Nat->Prop)(w:World):A->Value->List Nat->Prop
 |.d x,v,fp=>RD S w x v/\fp=[]
 |.agg xs,v,fp=>∃aM,v=.agg aM/\xs.length=aM.size/\(∀(i:Nat)(x:D),xs[i]?=some x->RD S w x (aM.getD i undef))/\fp=[]
 |.mt t,v,fp=>RT S w t v fp
def KI(S:Nat->Prop)(w:World):List A->List Value->List Nat->Prop
 |[],[],fp=>fp=[]
 |a::as,v::vs,fp=>∃f1 f2,fp=f1++f2/\RA S w a v f1/\KI S w as vs f2
 |_,_,_=>False
def RR(S:Nat->Prop)(w:World):R->Value->List Nat->Prop
 |.c t,v,fp=>RT S w t v fp
 |.agg ts,v,fp=>∃(aM:Array Value)(fps:List (List Nat)),v=.agg aM/\ts.length=aM.size/\fps.length=ts.length/\fps.flatten=fp/\∀(i:Nat)(t:T)(f:List Nat),ts[i]?=some t->fps[i]?=some f->RT S w t (aM.getD i undef) f
def Da(S:Nat->Prop)(w:World):List R->List Value->List Nat->Prop
 |[],[],fp=>fp=[]
 |r::rs,v::vs,fp=>∃f1 f2,fp=f1++f2/\RR S w r v f1/\Da S w rs vs f2
 |_,_,_=>False
def MU(S:Nat->Prop)(w:World):List T->List Value->List Nat->Prop
 |[],[],fp=>fp=[]
 |t::ts,v::vs,fp=>∃f1 f2,fp=f1++f2/\((t=.vy/\f1=[])\/RT S w t v f1)/\MU S w ts vs f2
 |_,_,_=>False
def nq:List A->List Value->List Value
 |.mt _::as,v::vs=>v::nq as vs
 |_::as,_::vs=>nq as vs
 |_,_=>[]
def xk:List Value->Value
 |[v]=>v
 |vs=>.tuple vs.toArray
def OG(P:Program)(f:FuncId)(args:Array Value)(w:World)(R:Value->World->Prop):Prop:=
 (∃g as,(callFunc f args).run P w=.ok (.enter g as) w/\Calls P g as w fun e w'=>∃v,e=.returned v/\R v w')\/
 (∃v,(callFunc f args).run P w=.ok (.value v) w/\R v w)
def Left(S:Nat->Prop)(w:World)(fp:List Nat)(rs:List R)(outs:List T)(lent:List Value)(v:Value)(w':World):Prop:=
 ∃(S':Nat->Prop)(kD:List Value)(fp1 fp2:List Nat),v=xk kD/\gF S w S' w'/\(∀b,S' b->S b\/b∈fp\/w.heap.size<=b)/\(∀b,S' b->b<w'.heap.size)/\
  Da S' w' rs kD fp1/\MU S' w' outs lent fp2/\(fp1++fp2).Nodup/\(∀b∈fp1++fp2,¬S' b/\(b∈fp\/w.heap.size<=b))/\FZ (fun b=>b<w.heap.size/\b∉fp) w w'
def Ba(P:Program)(f:FuncId)(as:List A)(rs:List R)(outs:List T):Prop:=
 ∀(S:Nat->Prop)(w:World)(vs:List Value)(fp:List Nat),(∀b,S b->b<w.heap.size)->KI S w as vs fp->fp.Nodup->(∀b∈fp,¬S b)->za S w->
  OG P f vs.toArray w (Left S w fp rs outs (nq as vs))
def mu(P:Program)(call:Call):Prop:=∀f as rs outs,call f as=some (rs,outs)->Ba P f as rs outs
theorem KI.Bb{S S':Nat->Prop}{w:World}(hs:gF S w S' w){as:List A}:∀{vs:List Value}{fp:List Nat},KI S w as vs fp->KI S' w as vs fp:=by
 induction as with
 |nil=>intro vs fp h;cases vs<;>exact h
 |cons x as ih=>
  intro vs fp h;cases vs with
  |nil=>exact h
  |cons v vs=>obtain⟨f1,f2,h1,h2,h3⟩:=h;refine⟨f1,f2,h1,?_,ih h3⟩;cases x with|d y=>exact⟨h2.1.mono hs,h2.2⟩|agg xs=>obtain⟨aM,q1,q2,q3,q4⟩:=h2;exact⟨aM,q1,q2,fun i x hi=>(q3 i x hi).mono hs,q4⟩|mt t=>exact RT.mono hs h2 fun _ _=>rfl
section
variable{P:Program}{S K:Nat->Prop}{w0 w:World}{Kn:Nat->Prop}{φ:Nat->gr}{H:bE}{e:jp}{ρ:Operand->Value}{o:Oper}{call:Call}
 {nxt n':Nat} {v:TV} {u:fm} {aw:List Nat}
inductive HQ(Kn:Nat->Prop)(φ:Nat->gr)(S:Nat->Prop)(w:World):List (C×List Nat×List Nat)->List Value->Prop
 |nil:HQ Kn φ S w [] []
 |cons {c:C} {bv rd:List Nat} {l:List (C×List Nat×List Nat)} {v:Value} {vs:List Value} (h:RC S w Kn φ c v) (hl:HQ Kn φ S w l vs):HQ Kn φ S w ((c,bv,rd)::l) (v::vs)
theorem E3{H:bE}(hI:Inv S K w0 Kn φ (az H) w):∀(tvs:List TV)(ms:List Bool)(as:List A)(aw:List Nat)(lent:List (C×List Nat×List Nat))(vs:List Value),
  fZ H tvs ms=some (as,aw,lent)->tvs.length=vs.length->(∀(i:Nat)(t:TV)(v:Value),tvs[i]?=some t->vs[i]?=some v->fR S w Kn φ t v)->
  KI (SB S w φ (az H) aw) w as vs ((lent.flatMap (·.2.1)).flatMap (gV w φ (az H)))/\(∀i∈lent.flatMap (·.2.1),∃o,az H i=some o/\cD o=true)/\HQ Kn φ S w lent (nq as vs):=by
 intro tvs;induction tvs with
 |nil=>
  intro ms as aw lent vs h hl hr;obtain⟨rfl,rfl,rfl⟩:[]=as/\[]=aw/\[]=lent:=by simpa[fZ]using h
  obtain rfl:vs=[]:=List.length_eq_zero_iff.1 hl.symm;exact⟨rfl,fun i hi=>by simp at hi,.nil⟩
 |cons t tvs ih=>
  intro ms as aw lent vs h hl hr;cases vs with
  |nil=>simp at hl
  |cons v vs=>
   have h0:=hr 0 t v rfl rfl;simp only[fZ]at h;split at h
   .simp at h
   .rename_i as1 ids1 lent1 hrec;obtain⟨i1,i2,i3⟩:=ih ms.tail as1 ids1 lent1 vs hrec (by simpa using hl) (fun i t v hi hv=>hr (i+1) t v (by simpa using hi) (by simpa using hv));split at h
    .split at h
     .rename_i c;split at h
      .rename_i t0 bv rd hp;obtain⟨rfl,rfl,rfl⟩:A.mt t0::as1=as/\ids1=aw/\(c,bv,rd)::lent1=lent:=by simpa using h
       cases h0 with
       |c h0=>
        obtain⟨p1,p2⟩:=(qJ hI 300).1 c t0 bv rd v hp h0;refine⟨⟨bv.flatMap (gV w φ (az H)),_,by simp,p1.mono (SB.tn _) (fun _ _=>rfl),i1⟩,fun i hi=>?_,.cons h0 i3⟩;rcases ao.1 (by simpa using hi:i∈bv++lent1.flatMap (·.2.1))with hi|hi
        .exact p2 i hi
        .exact i2 i hi
      .simp at h
     .simp at h
    .split at h
     .rename_i c;split at h
      .rename_i x i hp;obtain⟨rfl,rfl,rfl⟩:A.d x::as1=as/\i++ids1=aw/\lent1=lent:=by simpa using h
       cases h0 with|c h0=>have p1:=(tf hI 300).1 c x i v hp h0;refine⟨⟨[],_,rfl,⟨p1.mono (SB.Bb _ _ fun j hj=>by simp[hj]),rfl⟩,?_⟩,i2,i3⟩;exact i1.Bb (SB.Bb _ _ fun j hj=>by simp[hj])
      .simp at h
     .rename_i cs;split at h
      .rename_i xs i hp;obtain⟨rfl,rfl,rfl⟩:A.agg xs::as1=as/\i++ids1=aw/\lent1=lent:=by simpa using h
       cases h0 with
       |@agg _ aM hlen h0=>
        obtain⟨q1,q2⟩:=qv hI cs xs i hp (fun i=>aM[i]?) (fun i c hi=>by
         have hlt:i<aM.size:=by rw[<-hlen];exact(ak.1 hi).1
         exact⟨aM.getD i undef,by simp[hlt],h0 i c hi⟩)
        refine⟨⟨[],_,rfl,⟨aM,rfl,q1.trans hlen,fun j x hj=>?_,rfl⟩,?_⟩,i2,i3⟩
        .obtain ⟨y,hy,hd⟩:=q2 j x hj;have hy':aM[j]?=some y:=hy;have e1:aM.getD j undef=y:=by simp[hy']
         rw[e1];exact hd.mono (SB.Bb _ _ fun k hk=>by simp[hk])
        .exact i1.Bb (SB.Bb _ _ fun j hj=>by simp[hj])
      .simp at h
     .simp at h
end
section
variable{P:Program}{S K:Nat->Prop}{w0 w:World}{Kn:Nat->Prop}{φ:Nat->gr}{hf:Nat->Option Ob}{H:bE}{e:jp}{ρ:Operand->Value}{o:Oper}{call:Call}
 {nxt n':Nat} {v:TV} {u:fm} {aw:List Nat}
theorem q_.Mc{fa fb:List Nat}{n m:Nat}{φ1:Nat->gr}(hI:Inv S K w0 Kn φ hf w)(h:q_ S K w0 w Kn φ hf fa n m u φ1)(ha:ip w φ hf fb)(hd:∀x∈fa,x∉fb):ip w φ1 (bm u hf) fb:=by
 intro j o hj hown x hx hm;by_cases hu:∃p∈u,p.1=j
 .obtain ⟨p,hp,rfl⟩:=hu;exact hd _ (h.cK p hp x hx) hm
 .have hfn:cg u j=none:=kK fun p hp e=>hu ⟨p,hp,e⟩;have hj':=hj;simp only[bm,hfn]at hj';have hk:=(hI.iv j o hj').1;rw[ga (h.rt.dU j hk) (hj.trans hj'.symm)]at hx;exact ha j o hj' hown x hx hm
theorem F5(r:R)(nxt:Nat)(v:Value)(fp:List Nat)(hI:Inv S K w0 Kn φ hf w)(hfr:∀j,nxt<=j->j<(vQ nxt r).2.2->¬Kn j)(h:RR S w r v fp)(hn:fp.Nodup)(hSK:∀b∈fp,¬S b/\¬K b)(ha:ip w φ hf fp):
  ∃φ',q_ S K w0 w Kn φ hf fp nxt (vQ nxt r).2.2 (vQ nxt r).2.1 φ'/\fR S w (ow Kn nxt (vQ nxt r).2.2) φ' (vQ nxt r).1 v:=by
 cases r with|c t=>obtain⟨φ',h1,h2⟩:=uU t nxt v fp hI hfr h hn hSK ha;exact⟨φ',h1,.c h2⟩|agg ts=>obtain⟨aM,fps,rfl,h1,h2,rfl,h3⟩:=h;obtain⟨φ',h4,h5,h6⟩:=se ts nxt (fun i=>aM.getD i undef) fps hI hfr h2 h3 hn hSK ha;exact⟨φ',h4,.agg (h5.trans h1) h6⟩
theorem M4(r:R)(nxt:Nat):nxt<=(vQ nxt r).2.2:=by cases r with|c t=>exact H5 t nxt|agg ts=>exact uT ts nxt
theorem mF(nxt:Nat)(r:R)(rs:List R):gT nxt (r::rs)=((vQ nxt r).1::(gT (vQ nxt r).2.2 rs).1,(vQ nxt r).2.1++(gT (vQ nxt r).2.2 rs).2.1,(gT (vQ nxt r).2.2 rs).2.2):=rfl
theorem E_:∀(rs:List R)(nxt:Nat),nxt<=(gT nxt rs).2.2:=by intro rs;induction rs with|nil=>intro nxt;exact au _|cons r rs ih=>intro nxt;rw[mF];exact fy (M4 r nxt) (ih _)
theorem wO:∀(rs:List R){Kn:Nat->Prop}{φ:Nat->gr}{hf:Nat->Option Ob}(nxt:Nat)(vs:List Value)(fp:List Nat),Inv S K w0 Kn φ hf w->(∀j,nxt<=j->j<(gT nxt rs).2.2->¬Kn j)->Da S w rs vs fp->fp.Nodup->
  (∀b∈fp,¬S b/\¬K b)->ip w φ hf fp->
  ∃φ',q_ S K w0 w Kn φ hf fp nxt (gT nxt rs).2.2 (gT nxt rs).2.1 φ'/\(gT nxt rs).1.length=vs.length/\
   ∀(i:Nat)(t:TV)(v:Value),(gT nxt rs).1[i]?=some t->vs[i]?=some v->fR S w (ow Kn nxt (gT nxt rs).2.2) φ' t v:=by
 intro rs;induction rs with
 |nil=>intro Kn φ hf nxt vs fp hI hfr h hn hSK ha;cases vs with|cons v vs=>exact h.elim|nil=>obtain rfl:fp=[]:=h;exact⟨φ,q_.nil hI _ _,rfl,fun i t v hi=>by simp[gT]at hi⟩
 |cons r rs ih=>
  intro Kn φ hf nxt vs fp hI hfr h hn hSK ha;cases vs with
  |nil=>exact h.elim
  |cons v vs=>
   obtain⟨f1,f2,rfl,h1,h2⟩:=h;rw[bZ]at hn;obtain⟨hn1,hn2,hn3⟩:=hn;simp only[ao]at hSK;obtain⟨φ1,hL1,hr1⟩:=F5 r nxt v f1 hI (fun j hj hj2=>hfr j hj (by rw[mF];exact cU hj2 (E_ rs _))) h1 hn1 (fun b hb=>hSK b (.inl hb)) (fun j o hj hown x hx hm=>ha j o hj hown x hx (by simp[hm]))
   obtain⟨φ2,hL2,hlen,hr2⟩:=ih (Kn:=ow Kn nxt (vQ nxt r).2.2) (φ:=φ1) (hf:=bm (vQ nxt r).2.1 hf) (vQ nxt r).2.2 vs f2 hL1.inv (fun j hj hj2 hk=>by
    rcases hk with hk|hk
    .have:=hL1.le;exact hfr j (by omega) (by rw[mF];exact hj2) hk
    .omega) h2 hn2 (fun b hb=>hSK b (.inr hb)) (hL1.Mc hI (fun j o hj hown x hx hm=>ha j o hj hown x hx (by simp[hm])) fun x hx hx2=>hn3 x hx x hx2 rfl)
   have hcomp:=hL1.pg hL2;have hcm:bm ((gT (vQ nxt r).2.2 rs).2.1++(vQ nxt r).2.1) hf=bm ((vQ nxt r).2.1++(gT (vQ nxt r).2.2 rs).2.1) hf:=lJ fun p hp q hq e=>by have h1:=hL2.gp p hp;have h2:=hL1.gp q hq;omega
   have hsub:∀i,ow (ow Kn nxt (vQ nxt r).2.2) (vQ nxt r).2.2 (gT (vQ nxt r).2.2 rs).2.2 i->ow Kn nxt (gT (vQ nxt r).2.2 rs).2.2 i:=fun i=>(qN hL1.le hL2.le i).1;refine⟨φ2,?_,by simp[mF,hlen],fun i t v' hi hv=>?_⟩
   .simp only[mF];have hsw:∀{p:Nat×Option Ob}{a b:fm},p∈a++b->p∈b++a:=fun hp=>ao.2 (ao.1 hp).symm;exact⟨hcomp.le,hcomp.rt,hcm▸hcomp.inv,fun p hp=>hcomp.gp p (hsw hp),fun p hp x hx=>hcomp.cK p (hsw hp) x (hcm.symm▸hx)⟩
   .cases i with
    |zero=>
     obtain rfl:(vQ nxt r).1=t:=by simpa[mF]using hi
     obtain rfl:v=v':=by simpa using hv
     exact(hr1.mono (gF.refl _ _) hL2.rt).kn hsub
    |succ i=>exact(hr2 i t v' (by simpa[mF]using hi) (by simpa using hv)).kn hsub
theorem Inv.put(h:Inv S K w0 Kn φ hf w){i:Nat}(hi:Kn i)(o:Ob)(hfree:cD o=true->∀j b,hf j=some b->cD b=true->j≠i->(φ i).cK∉gV w φ hf j)
  (hro:RO S K w Kn φ (φ i) o)
  (hp:∀sz sl k x,o=.nst sz sl->ri w (φ i) sl k x->x≠(φ i).cK/\(∀j b,hf j=some b->cD b=true->j≠i->x∉gV w φ hf j)/\∀k',ri w (φ i) sl k' x->k'=k:=by intro _ _ _ _ e;cases e):
  Inv S K w0 Kn φ (bm [(i,some o)] hf) w:=by
 have hold:∀j b,bm [(i,some o)] hf j=some b->(j=i/\b=o)\/(j≠i/\hf j=some b):=by
  intro j b hj;rw[bP]at hj;by_cases e:i=j
  .rw [if_pos e]at hj;exact .inl ⟨e.symm,(aa hj).symm⟩
  .rw [if_neg e,fz]at hj;exact .inr ⟨fun q=>e q.symm,hj⟩
 refine h.t_ (gF.refl _ _) (sH.refl _ _) h.t6 h.sk h.mz ?_ ?_ ?_
 .intro id o' ho;rcases hold id o' ho with⟨rfl,rfl⟩|⟨_,ho'⟩
  .exact .inr ⟨hi,hro⟩
  .exact .inl ⟨ho',fun hown=>⟨rfl,((h.iv id o' ho').2.bv hown).1⟩,h.Ct ho' fun _ _=>rfl⟩
 .intro a b oa ob ha hb hoa hob hne;rcases hold a oa ha with⟨e1,e2⟩|⟨n1,ha'⟩<;>rcases hold b ob hb with⟨e3,e4⟩|⟨n2,hb'⟩
  .exact absurd (e1.trans e3.symm) hne
  .rw [e1];exact fun e=>hfree (e2▸hoa) b ob hb' hob n2 (dE.2 (.inl e))
  .rw [e3];exact fun e=>hfree (e4▸hob) a oa ha' hoa n1 (dE.2 (.inl e.symm))
  .exact h.jo a b oa ob ha' hb' hoa hob hne
 .intro a sz sl k x ha hpa;rcases hold a _ ha with⟨ea,eo⟩|⟨na,ha'⟩
  .rw [ea]at hpa;obtain⟨p1,p2,p3⟩:=hp sz sl k x eo.symm hpa;refine⟨fun j b hj hown=>?_,fun j sz' sl' k' hj hpj=>?_⟩
   .rcases hold j b hj with⟨ej,_⟩|⟨nj,hj'⟩
    .rw [ej];exact fun e=>p1 e.symm
    .exact fun e=>p2 j b hj' hown nj (dE.2 (.inl e.symm))
   .rcases hold j _ hj with⟨ej,eo2⟩|⟨nj,hj'⟩
    .rw [ej]at hpj;rw[<-eo]at eo2;cases eo2;exact⟨ej.trans ea.symm,p3 k' hpj⟩
    .exact absurd (dE.2 (.inr ⟨sz',sl',k',hj',hpj⟩)) (p2 j _ hj' rfl nj)
  .obtain ⟨p1,p2⟩:=h.vV a sz sl k x ha' hpa;refine⟨fun j b hj hown=>?_,fun j sz' sl' k' hj hpj=>?_⟩
   .rcases hold j b hj with⟨ej,eo⟩|⟨_,hj'⟩
    .rw [ej];exact fun e=>hfree (eo▸hown) a _ ha' rfl na (dE.2 (.inr ⟨sz,sl,k,ha',e▸hpa⟩))
    .exact p1 j b hj' hown
   .rcases hold j _ hj with⟨ej,eo⟩|⟨_,hj'⟩
    .rw [ej]at hpj;exact absurd (dE.2 (.inr ⟨sz,sl,k,ha',hpa⟩)) ((hp sz' sl' k' x eo.symm hpj).2.1 a _ ha' rfl na)
    .exact p2 j sz' sl' k' hj' hpj
structure PI(S K:Nat->Prop)(w0 w:World)(Kn:Nat->Prop)(φ:Nat->gr)(hf:Nat->Option Ob)(fp:List Nat)(owns:List Nat)(nxt m:Nat)(u:fm)(φ':Nat->gr):Prop where
 le:nxt<=m
 rt:sH Kn φ (ow Kn nxt m) φ'
 inv:Inv S K w0 (ow Kn nxt m) φ' (bm u hf) w
 Ej:∀p∈u,p.1∈owns\/(nxt<=p.1/\p.1<m)
 Pf:∀i∈owns,(cg u i).isSome=true
 cK:∀i o,bm u hf i=some o->cD o=true->(i∈owns\/(nxt<=i/\i<m))->∀x∈gV w φ' (bm u hf) i,x∈fp
def jB(l:List (C×List Nat×List Nat)):List Nat:=l.flatMap (·.2.1)
theorem qi(bv:List Nat)(j:Nat):cg (bv.map fun i=>((i,none):Nat×Option Ob)) j=if j∈bv then some none else none:=by
 induction bv with
 |nil=>rfl
 |cons a l ih=>
  simp only[aA,cg];by_cases e:a=j
  .simp [e]
  .have e':(a==j)=false:=by simpa using e
   have e2:¬j=a:=fun h=>e h.symm;simp[e',ih,e2]
theorem RC.Nr{id off:Nat}{v:Value}(h:RC S w Kn φ (.op id off) v):v=.pointer (some ⟨(φ id).cK,(φ id).aP+off,none⟩)/\Kn id:=by cases h with|op hk=>exact⟨rfl,hk⟩
theorem nR.H4{w:World}{b:Nat}{a a':Array Value}(h:nR w b a)(h':nR w b a'):a=a':=by obtain⟨t,h⟩:=h;obtain⟨t',h'⟩:=h';rw[h]at h';simp at h';exact h'.1
theorem qV{α:Type}{u:List (Nat×α)}{id:Nat}{x:α}(h:cg u id=some x):∃p∈u,p.1=id:=by
 induction u with
 |nil=>simp[cg]at h
 |cons p r ih=>
  obtain⟨i,y⟩:=p;by_cases e:i=id
  .exact ⟨(i,y),by simp,e⟩
  .have e2:(i==id)=false:=by simpa using e
   simp only[cg,e2,cond_false]at h;obtain⟨p,hp,hpe⟩:=ih h;exact⟨p,by simp[hp],hpe⟩
theorem zQ:∀(l:List (C×List Nat×List Nat))(outs:List T)(nxt:Nat)(bu:fm)(m:Nat),eQ nxt l outs=some (bu,m)->nxt<=m:=by
 intro l;induction l with
 |nil=>
  intro outs nxt bu m h;cases outs with
  |nil=>obtain⟨_,rfl⟩:[]=bu/\nxt=m:=by simpa[eQ]using h
        exact au _
  |cons t ts=>simp[eQ]at h
 |cons p l ih=>
  obtain⟨c,bv,rd⟩:=p;intro outs nxt bu m h;cases outs with
  |nil=>unfold eQ at h;simp at h
  |cons t outs=>
   unfold eQ at h;split at h
   .simp at*
   .rename_i heq1 heq2;simp only[du,cQ]at heq1 heq2;obtain⟨_,rfl⟩:=heq1;exact ih _ _ _ _ h
   .rename_i heq1 heq2;simp only[du,cQ]at heq1 heq2;obtain⟨_,rfl⟩:=heq1;split at h
    .rename_i w2 k hrec;split at h
     .obtain ⟨_,rfl⟩:=ad (aa h);exact fy (uT _ _) (ih _ _ _ _ hrec)
     .simp at h
    .simp at h
   .rename_i heq1 heq2;simp only[du,cQ]at heq1 heq2;obtain⟨_,rfl⟩:=heq1;split at h
    .split at h
     .rename_i w2 k hrec;obtain⟨_,rfl⟩:=ad (aa h);exact ih _ _ _ _ hrec
     .simp at h
    .simp at h
   .rename_i heq1 heq2;simp only[du,cQ]at heq1 heq2;obtain⟨_,rfl⟩:=heq1;split at h
    .split at h
     .rename_i w2 k hrec;obtain⟨_,rfl⟩:=ad (aa h);exact ih _ _ _ _ hrec
     .simp at h
    .simp at h
   .rename_i heq1 heq2;simp only[du,cQ]at heq1 heq2;obtain⟨_,rfl⟩:=heq1;split at h
    .rename_i w2 k hrec;obtain⟨_,rfl⟩:=ad (aa h);exact ih _ _ _ _ hrec
    .simp at h
   .simp at h
theorem Cp{H0:bE}{S0 K0:Nat->Prop}{wp wz:World}{Kn0:Nat->Prop}{φ0:Nat->gr}(hI0:Inv S0 K0 wz Kn0 φ0 (az H0) wp){id len:Nat}
  (hw:(match az H0 id with|some (.aM _ am)=>(0==0)&&len==am.length|some (.nst _ slots)=>(0==0)&&len==slots.length|_=>false)=true):
  ∃aM,nR wp (φ0 id).cK aM/\aM.size=(φ0 id).ext/\(φ0 id).aP+len*(φ0 id).sz<=(φ0 id).ext/\len<=(φ0 id).cap:=by
 split at hw
 .rename_i sz am ho;obtain⟨_,h0⟩:=hI0.iv _ _ ho;have hl:len=am.length:=by simpa using hw
  subst hl;cases h0 with|aM hsz hl hS hK hown hext hfit hr hv=>exact⟨_,hown,hext,by rw[hl];exact hfit,hv⟩
 .rename_i sz slots ho;obtain⟨_,h0⟩:=hI0.iv _ _ ho;have hl:len=slots.length:=by simpa using hw
  subst hl;cases h0 with|nst hsz hl hS hK hown hext hfit hr hv=>exact⟨_,hown,hext,by rw[hl,lR];exact hfit,hv⟩
 .cases hw
theorem E2{H0:bE}{S0:Nat->Prop}{wp:World}{Kn0:Nat->Prop}{φ0:Nat->gr}{K0:Nat->Prop}{wz:World}(hI0:Inv S0 K0 wz Kn0 φ0 (az H0) wp)(hgrow:∀b aM,nR wp b aM->∃arr',nR w b arr'/\arr'.size=aM.size):
  ∀(l:List (C×List Nat×List Nat))(vs:List Value)(outs:List T)(fp:List Nat){Kn:Nat->Prop}{φ:Nat->gr}{hf:Nat->Option Ob}(nxt:Nat)(bu:fm)(m:Nat),
  HQ Kn0 φ0 S0 wp l vs->eF H0 l=true->MU S w outs vs fp->Inv S K w0 Kn φ hf w->(∀j,nxt<=j->j<m->¬Kn j)->sH Kn0 φ0 Kn φ->fp.Nodup->(∀b∈fp,¬S b/\¬K b)->ip w φ hf fp->
  (∀i∈jB l,hf i=none/\Kn0 i)->(jB l).Nodup->eQ nxt l outs=some (bu,m)->∃φ',PI S K w0 w Kn φ hf fp (jB l) nxt m bu φ':=by
 intro l;induction l with
 |nil=>
  intro vs outs fp Kn φ hf nxt bu m hl hw hr hI hfr hren hn hSK ha hown hon h;cases hl;cases outs with
  |cons t ts=>exact hr.elim
  |nil=>
   obtain⟨rfl,rfl⟩:[]=bu/\nxt=m:=by simpa[eQ]using h
   exact⟨φ,au _,ss _ _,hI.kn fun _ hi=>.inl hi,fun p hp=>by simp at hp,fun i hi=>by simp[jB]at hi,fun i o _ _ hx=>by
    rcases hx with hx|hx
    .simp [jB]at hx
    .omega⟩
 |cons p l ih=>
  obtain⟨c,bv,rd⟩:=p;intro vs outs fp Kn φ hf nxt bu m hl hw hr hI hfr hren hn hSK ha hown hon h;cases hl with
  |@cons _ _ _ _ v vs hc hl=>
  cases outs with
  |nil=>exact hr.elim
  |cons t outs=>
   obtain⟨f1,f2,rfl,hr1,hr2⟩:=hr;rw[bZ]at hn;obtain⟨hn1,hn2,hn3⟩:=hn;simp only[ao]at hSK;have ha1:ip w φ hf f1:=fun j o hj hown x hx hm=>ha j o hj hown x hx (by simp[hm]);have ha2:ip w φ hf f2:=fun j o hj hown x hx hm=>ha j o hj hown x hx (by simp[hm]);have ho1:∀i∈bv,hf i=none/\Kn0 i:=fun i hi=>hown i (by simp[jB,hi]);have ho2:∀i∈jB l,hf i=none/\Kn0 i:=fun i hi=>hown i (by simp only[jB,bl,ao];exact .inr hi);have hoc:jB ((c,bv,rd)::l)=bv++jB l:=rfl;rw[hoc,bZ]at hon;obtain⟨hon1,hon2,hon3⟩:=hon;have hw2:eF H0 l=true:=by cases c<;>simp only[eF,ai]at hw<;>first|exact hw|exact hw.2
   have fin:∀(id:Nat)(ob:Ob)(w2:fm)(k:Nat),bv=[id]->(bu,m)=((id,some ob)::w2,k)->eQ nxt l outs=some (w2,k)->Inv S K w0 Kn φ (bm [(id,some ob)] hf) w->(∀x∈gV w φ (bm [(id,some ob)] hf) id,x∈f1)->
     ∃φ',PI S K w0 w Kn φ hf (f1++f2) (jB ((c,bv,rd)::l)) nxt m bu φ':=by
    intro id ob w2 k hownid hbm hrec hput hblk;subst hownid;obtain⟨rfl,rfl⟩:=ad hbm;obtain⟨hidn,hidk0⟩:=ho1 id (by simp);have hidk:=hren.sub id hidk0;have hφ:=hren.dU id hidk0;have hidlt:¬(nxt<=id/\id<m):=fun h=>hfr id h.1 h.2 hidk
    obtain⟨φ2,hB⟩:=ih vs outs f2 nxt w2 m hl hw2 hr2 hput hfr hren hn2 (fun b hb=>hSK b (.inr hb))
     (fun j o hj hown x hx hm=>by
      have hj':=hj;rw[bP]at hj';split at hj'
      .rename_i e;subst e;exact hn3 x (hblk x hx) x hm rfl
      .rw [ga rfl (hj.trans hj'.symm)]at hx;exact ha2 j o hj' hown x hx hm)
     (fun i hi=>by obtain⟨h1,h2⟩:=ho2 i hi;refine⟨?_,h2⟩;have hne:¬id=i:=fun e=>hon3 id (by simp) i hi e;rw[bP,if_neg hne];exact h1) hon2 hrec
    have hkeys:=hB.Ej;have hm2:=hB.le
    have hdis:∀q∈w2,id≠q.1:=fun q hq e=>by
     rcases hkeys q hq with h|h
     .exact hon3 id (by simp) q.1 h e
     .omega
    have heq:bm ((id,some ob)::w2) hf=bm w2 (bm [(id,some ob)] hf):=by rw[<-dV];exact lJ (u:=[(id,some ob)]) fun p hp q hq e=>by rw[aq.1 hp]at e;exact hdis q hq e
    refine⟨φ2,hB.le,hB.rt,heq▸hB.inv,fun p hp=>?_,fun i hi=>?_,fun i o hio hownio hi=>?_⟩
    .rw [hoc];rcases aK.1 hp with rfl|hp
     .exact .inl (by simp)
     .rcases hkeys p hp with h|h
      .exact .inl (by simp[h])
      .exact .inr h
    .rw [hoc]at hi;simp only[cg];by_cases e:id=i
     .simp [e]
     .have e':(id==i)=false:=by simpa using e
      simp only[e',cond_false];rcases ao.1 hi with hi|hi
      .exact absurd (aq.1 hi).symm e
      .exact hB.Pf i hi
    .rw [heq]at hio|-;intro x hx;by_cases hrest:i∈jB l\/(nxt<=i/\i<m)
     .exact aG _ (hB.cK i o hio hownio hrest x hx)
     .have hi2:i=id:=by
       rcases hi with hi|hi
       .rw [hoc]at hi;rcases ao.1 hi with h|h
        .exact aq.1 h
        .exact absurd (.inl h) hrest
       .exact absurd (.inr hi) hrest
      subst hi2;have hwn:cg w2 i=none:=kK fun q hq e=>hdis q hq e.symm
      have hwi:bm w2 (bm [(i,some ob)] hf) i=bm [(i,some ob)] hf i:=by
       conv=>lhs;unfold bm
       rw[hwn];rfl
      rw[ga (hB.rt.dU i hidk) hwi]at hx;exact aC _ (hblk x hx)
   unfold eQ at h;split at h
   .simp at*
   .--nothing was owned
    rename_i heq1 heq2;simp only[du,cQ]at heq1 heq2;obtain⟨⟨rfl,rfl,rfl⟩,rfl⟩:=heq1;obtain⟨rfl,rfl⟩:=heq2;have hr1:=hr1.resolve_left fun h=>by cases h.1
    have e0:f1=[]:=by cases hr1;rfl
    subst e0;obtain⟨φ',hB⟩:=ih vs outs f2 nxt bu m hl hw2 hr2 hI hfr hren hn2 (fun b hb=>hSK b (.inr hb)) ha2 ho2 hon2 h;exact⟨φ',hB.le,hB.rt,hB.inv,hB.Ej,hB.Pf,hB.cK⟩
   .--a box
    rename_i id own' rd' r ts' ts heq1 heq2;simp only[du,cQ]at heq1 heq2;obtain⟨⟨rfl,rfl,rfl⟩,rfl⟩:=heq1;obtain⟨rfl,rfl⟩:=heq2;split at h
    .rename_i w2 k hrec;split at h
     .rename_i hcon;obtain⟨rfl,rfl⟩:(id,some (Ob.box (hO nxt ts').1))::(hO nxt ts').2.1++bv.map (fun i=>((i,none):Nat×Option Ob))++w2=bu/\k=m:=by simpa using h
      have hid:id∈bv:=by simpa using hcon
      obtain⟨hidn,hidk0⟩:=ho1 id hid;have hidk:=hren.sub id hidk0;have hφ:=hren.dU id hidk0;obtain⟨hv,_⟩:=hc.Nr;have hr1:=hr1.resolve_left fun h=>by cases h.1
      cases hr1 with
      |@pt _ b aM fps hown0 hlen hfl hrec2=>
      simp only[Value.pointer.injEq,bq,Addr.mk.injEq]at hv;obtain⟨hb,hbase,_⟩:=hv;rw[<-hφ]at hb hbase;have hbase0:(φ id).aP=0:=by omega
      rw[eE]at hn1;have hmk:=zQ _ _ _ _ _ hrec;have hidlt:¬(nxt<=id/\id<k):=fun h=>hfr id h.1 h.2 hidk
      obtain⟨φ1,hL,hcl,hcr⟩:=se ts' nxt (fun i=>aM.getD i undef) fps hI (fun j hj hj2=>hfr j hj (by omega)) hfl hrec2 hn1.2 (fun b' hb'=>hSK b' (.inl (aB _ hb')))
       (fun j o hj hown x hx hm=>ha1 j o hj hown x hx (aB _ hm))
      have hm1:=hL.le;have hφ1:φ1 id=φ id:=hL.rt.dU id hidk;have hul:cg (hO nxt ts').2.1 id=none:=kK fun p hp e=>by have:=hL.gp p hp;omega
      have hdead:bm (hO nxt ts').2.1 hf id=none:=by simp only[bm,hul,hidn]
      have hawb:ip w φ1 (bm (hO nxt ts').2.1 hf) [b]:=hL.Mc hI (fun j o hj hown x hx hm=>ha1 j o hj hown x hx (by rw[aq.1 hm];simp)) fun x hx hx2=>hn1.1 (by rw[<-aq.1 hx2];exact hx)
      have hput:=hL.inv.put (i:=id) (.inl hidk) (.box (hO nxt ts').1) (fun _ j o hj hown hne hm=>by rw[hφ1,<-hb]at hm;exact hawb j o hj hown b hm (by simp))
       (.box (by rw[hφ1];exact hbase0) (by rw[hφ1,<-hb];exact(hSK b (.inl (by simp))).1) (by rw[hφ1,<-hb];exact(hSK b (.inl (by simp))).2) (by rw[hφ1,<-hb];exact hown0) (hcl.trans hlen) hcr)
      have hav2:ip w φ1 (bm (hO nxt ts').2.1 hf) f2:=hL.Mc hI ha2 fun x hx hx2=>hn3 x (aB _ hx) x hx2 rfl;have hult:∀i,¬(nxt<=i/\i<k)->cg (hO nxt ts').2.1 i=none:=fun i hi=>kK fun p hp e=>by have:=hL.gp p hp;omega
      have hownlt:∀i,Kn0 i->¬(nxt<=i/\i<k):=fun i hi h=>hfr i h.1 h.2 (hren.sub i hi);rw[<-dV]at hput
      obtain⟨φ2,hB⟩:=ih vs outs f2 (hO nxt ts').2.2 w2 k hl hw2 hr2 hput (fun j hj hj2 hk=>by
        rcases hk with hk|hk
        .exact hfr j (by omega) hj2 hk
        .omega) ⟨fun i hi=>.inl (hren.sub i hi),fun i hi=>(hL.rt.dU i (hren.sub i hi)).trans (hren.dU i hi)⟩ hn2 (fun b hb=>hSK b (.inr hb))
       (fun j o hj hown x hx hm=>by
        have hj':=hj;rw[aY,bP]at hj';split at hj'
        .rename_i e;subst e;rw[o6 (fun _ _ e=>by rw[aY,bP,if_pos rfl]at e;cases e),hφ1,<-hb]at hx;rw[aq.1 hx]at hm;exact hn3 b (by simp) b hm rfl
        .rw [ga rfl (hj.trans hj'.symm)]at hx;exact hav2 j o hj' hown x hx hm)
       (fun i hi=>by obtain⟨h1,h2⟩:=ho2 i hi;refine⟨?_,h2⟩;have hne:¬id=i:=fun e=>hon3 id hid i hi e;rw[aY,bP,if_neg hne];simp only[bm,hult i (hownlt i h2),h1]) hon2 hrec
      have hkeys:=hB.Ej;have hm2:=hB.le
      have hdis:∀j x,cg w2 j=some x->j≠id/\j∉bv/\cg (hO nxt ts').2.1 j=none:=by
       intro j x hx;obtain⟨p,hp,rfl⟩:=qV hx;rcases hkeys p hp with h|h
       .exact ⟨fun e=>hon3 id hid p.1 h e.symm,fun e=>hon3 p.1 e p.1 h rfl,hult _ (hownlt _ (ho2 _ h).2)⟩
       .refine ⟨fun e=>by omega,fun e=>by have:=hownlt _ (ho1 _ e).2;omega,kK fun q hq e=>?_⟩;have:=hL.gp q hq;omega
      have heq:bm ((id,some (Ob.box (hO nxt ts').1))::(hO nxt ts').2.1++bv.map (fun i=>((i,none):Nat×Option Ob))++w2) hf=bm w2 (bm ([(id,some (Ob.box (hO nxt ts').1))]++(hO nxt ts').2.1) hf):=by
       have hno:bm (bv.map (fun i=>((i,none):Nat×Option Ob))) (bm w2 hf)=bm w2 hf:=by
        funext j
        conv=>lhs;unfold bm
        rw[qi];by_cases hjo:j∈bv
        .rw [if_pos hjo];have hwj:cg w2 j=none:=by cases hx:cg w2 j with|none=>rfl|some x=>exact absurd hjo (hdis j x hx).2.1
         simp only[bm,hwj,(ho1 j hjo).1]
        .rw [if_neg hjo];rfl
       rw[dV,dV,hno,<-dV,<-dV];refine lJ fun p hp q hq e=>?_;rcases hkeys q hq with h|h
       .rcases aK.1 hp with rfl|hp
        .exact hon3 id hid q.1 h e
        .have:=hL.gp p hp;have:=hownlt _ (ho2 _ h).2;omega
       .rcases aK.1 hp with rfl|hp
        .simp only at e;omega
        .have:=hL.gp p hp;omega
      refine⟨φ2,by omega,⟨fun i h=>.inl h,fun i h=>(hB.rt.dU i (.inl h)).trans (hL.rt.dU i h)⟩,?_,fun p hp=>?_,fun i hi=>?_,fun i o hio hownio hi=>?_⟩
      .rw [heq];exact hB.inv.wj fun i=>qN hm1 hm2 i
      .rw [hoc];simp only[aT,aJ,aK,ao,cN]at hp;rcases hp with rfl|hp|⟨i,hi,rfl⟩|hp
       .exact .inl (by simp[hid])
       .have:=hL.gp p hp;exact .inr (by omega)
       .exact .inl (by simp[hi])
       .rcases hkeys p hp with h|h
        .exact .inl (by simp[h])
        .exact .inr (by omega)
      .rw [hoc]at hi;simp only[aT,aJ,cg,gy,qi];rcases ao.1 hi with hi|hi
       .by_cases e:id=i
        .simp [e]
        .have e':(id==i)=false:=by simpa using e
         simp only[e',cond_false,if_pos hi];cases cg (hO nxt ts').2.1 i<;>rfl
       .have hs:=hB.Pf i hi;obtain⟨x,hx⟩:=gG.1 hs;obtain⟨h1,h2,h3⟩:=hdis i x hx;have e':(id==i)=false:=by simpa using fun e=>h1 e.symm
        simp only[e',cond_false,h3,if_neg h2,hx,Option.isSome_some]
      .rw [heq]at hio|-;intro x hx;by_cases hrest:i∈jB l\/((hO nxt ts').2.2<=i/\i<k)
       .exact aG _ (hB.cK i o hio hownio hrest x hx)
       .refine aC _ ?_
        have hw2n:cg w2 i=none:=kK fun q hq e=>by
         rcases hkeys q hq with h|h
         .exact hrest (.inl (e▸h))
         .exact hrest (.inr (e▸h))
        have hi2:i∈bv\/(nxt<=i/\i<(hO nxt ts').2.2):=by
         rcases hi with hi|hi
         .rw [hoc]at hi;rcases ao.1 hi with h|h
          .exact .inl h
          .exact absurd (.inl h) hrest
         .exact .inr ⟨hi.1,by
           rcases Nat.lt_or_ge i (hO nxt ts').2.2 with h|h
           .exact h
           .exact absurd (.inr ⟨h,hi.2⟩) hrest⟩
        have hkn:ow Kn nxt (hO nxt ts').2.2 i:=by
         rcases hi2 with h|h
         .exact .inl (hren.sub i (ho1 i h).2)
         .exact .inr h
        have hwi:bm w2 (bm ([(id,some (Ob.box (hO nxt ts').1))]++(hO nxt ts').2.1) hf) i=bm ([(id,some (Ob.box (hO nxt ts').1))]++(hO nxt ts').2.1) hf i:=by
         conv=>lhs;unfold bm
         rw[hw2n];rfl
        rw[ga (hB.rt.dU i hkn) hwi]at hx;by_cases e:id=i
        .subst e;rw[o6 (fun _ _ e=>by rw[aY,bP,if_pos rfl]at e;cases e),hφ1,<-hb]at hx;rw[aq.1 hx];simp
        .rcases hi2 with h|h
         .exfalso
          have h1:bm w2 (bm ([(id,some (Ob.box (hO nxt ts').1))]++(hO nxt ts').2.1) hf) i=hf i:=by
           simp only[bm,hw2n,aY,cg];have e':(id==i)=false:=by simpa using e
           simp only[e',cond_false,hult i (hownlt i (ho1 i h).2)]
          rw[h1,(ho1 i h).1]at hio;simp at hio
         .have e':(id==i)=false:=by simpa using e
          cases hfu:cg (hO nxt ts').2.1 i with
          |none=>
           exfalso;have h1:bm w2 (bm ([(id,some (Ob.box (hO nxt ts').1))]++(hO nxt ts').2.1) hf) i=hf i:=by simp only[bm,hw2n,aY,cg,e',cond_false,hfu]
           rw[h1]at hio;exact hfr i h.1 (by omega) (hI.iv i o hio).1
          |some x'=>
           obtain⟨p,hp,rfl⟩:=qV hfu;have hwp:bm ([(id,some (Ob.box (hO nxt ts').1))]++(hO nxt ts').2.1) hf p.1=bm (hO nxt ts').2.1 hf p.1:=by rw[aY,bP,if_neg e]
           rw[ga rfl hwp]at hx;exact aB _ (hL.cK p hp x hx)
     .simp at h
    .simp at h
   .--an array
    rename_i sz id len own' rd' r sz' am ts heq1 heq2;simp only[du,cQ]at heq1 heq2;obtain⟨⟨rfl,rfl,rfl⟩,rfl⟩:=heq1;obtain⟨rfl,rfl⟩:=heq2;split at h
    .rename_i hcond;obtain⟨hrl,hszz,hownid⟩:=hcond;subst hownid;split at h
     .rename_i w2 k hrec;obtain⟨rfl,rfl⟩:(id,some (Ob.aM sz am))::w2=bu/\k=m:=by simpa using h
      obtain⟨hidn,hidk0⟩:=ho1 id (by simp);have hφ:=hren.dU id hidk0;obtain⟨cap,addr,hv,hszl,hk0,hcap,haddr,hextc,hcl⟩:=hc.jP;have hr1:=hr1.resolve_left fun h=>by cases h.1
      cases hr1 with
      |@sl _ _ b off len1 cap1 aM hsz0 hown0 hlen1 hcap1 hext1 hrr=>
      simp only[Value.slice.injEq,bq,Addr.mk.injEq]at hv;obtain⟨⟨hb,hoff,_⟩,hlen2,hcap2⟩:=hv;subst hszz;simp only[eF,ai]at hw;obtain⟨arr0,hown1,hext0,hfit0,hv0⟩:=Cp hI0 hw.1;obtain⟨arr1,hown2,hsize2⟩:=hgrow _ _ hown1;rw[hb]at hown0;obtain rfl:=hown0.H4 hown2;have hb1:=hSK (φ0 id).cK (.inl (by simp[hb]))
      refine fin id (.aM sz' am) w2 k rfl rfl hrec (hI.put (i:=id) (hren.sub id hidk0) (.aM sz' am) (fun _ j o hj hown hne hm=>by rw[hφ,<-hb]at hm;exact ha1 j o hj hown b hm (by simp))
       (.aM hsz0 (by rw[hφ];exact hszl) (by rw[hφ];exact hb1.1) (by rw[hφ];exact hb1.2) (by rw[hφ];exact hown2) (by rw[hφ,<-hext0];exact hsize2)
        (by rw[hφ,hrl,<-hszl];exact hfit0) (by
         rw[hφ];cases am with
         |nil=>exact⟨fun i r hi=>by simp at hi,fun i r hi=>by simp at hi⟩
         |cons q am=>
          have:off=(φ0 id).aP:=by rw[hoff,haddr (by simp only[List.length_cons]at hrl;omega)];simp
          rw[<-this];exact hrr) (by rw[hφ,hrl];exact hv0))) fun x hx=>?_
      rw[o6 (fun _ _ e=>by rw[bP,if_pos rfl]at e;cases e),hφ,<-hb]at hx;exact hx
     .simp at h
    .simp at h
   .--a cY of am
    rename_i sz id len own' rd' r szi am ts heq1 heq2;simp only[du,cQ]at heq1 heq2;obtain⟨⟨rfl,rfl,rfl⟩,rfl⟩:=heq1;obtain⟨rfl,rfl⟩:=heq2;split at h
    .rename_i hcond;obtain⟨hrl,hszz,hownid⟩:=hcond;subst hownid;split at h
     .rename_i w2 k hrec;obtain⟨rfl,rfl⟩:(id,some (Ob.nst szi (am.map lZ)))::w2=bu/\k=m:=by simpa using h
      obtain⟨hidn,hidk0⟩:=ho1 id (by simp);have hφ:=hren.dU id hidk0;obtain⟨cap,addr,hv,hszl,hk0,hcap,haddr,hextc,hcl⟩:=hc.jP;have hr1:=hr1.resolve_left fun h=>by cases h.1
      cases hr1 with
      |@yz _ _ b off cap1 aM fps hsz0 hown0 hcap1 hext1 hfl hrr=>
      simp only[Value.slice.injEq,bq,Addr.mk.injEq]at hv;obtain⟨⟨hb,hoff,_⟩,hlen2,hcap2⟩:=hv;subst hszz;simp only[eF,ai]at hw;obtain⟨arr0,hown1,hext0,hfit0,hv0⟩:=Cp hI0 hw.1;obtain⟨arr1,hown2,hsize2⟩:=hgrow _ _ hown1;rw[hb]at hown0;obtain rfl:=hown0.H4 hown2;rw[eE]at hn1;have hb1:=hSK b (.inl (by simp));have hbase:∀i,i<am.length->off+i=(φ0 id).aP+i:=fun i hi=>by rw[hoff,haddr (by omega)];simp
      have hget:∀i,w.cell? ⟨(φ id).cK,i,none⟩=aM[i]?:=by rw[hφ];exact hown2.cell
      have hpat:∀k x,ri w (φ id) (am.map lZ) k x->∃fp,fps[k]?=some fp/\fp=[x]:=by rintro k x ⟨rs,v,h1,h2,h3⟩;rw[aI]at h1;obtain⟨r,hr1,hr2⟩:=aH.1 h1;have hlt:=(ak.1 hr1).1;have hf:fps[k]?=some fps[k]:=aD (by omega);obtain⟨v',q1,q2⟩:=hrr k r fps[k] hr1 hf;rw[hget,hφ,<-hbase k hlt,q1]at h2;obtain rfl:=aa h2;cases r with|none=>cases hr2|some rows'=>obtain⟨b',q3,q4⟩:=q2;rw[q4.cK]at h3;obtain rfl:=aa h3;exact⟨_,hf,q3⟩
      have hmem:∀k x,ri w (φ id) (am.map lZ) k x->x∈fps.flatten:=fun k x hp=>by obtain⟨fp,h1,rfl⟩:=hpat k x hp;exact dq.2 ⟨[x],aW h1,by simp⟩
      have hbl:(φ id).cK=b:=by rw[hφ,<-hb]
      rw[hszl,lR]at hfit0
      refine fin id (.nst szi (am.map lZ)) w2 k rfl rfl hrec (hI.put (i:=id) (hren.sub id hidk0) (.nst szi (am.map lZ)) (fun _ j o hj hown hne hm=>by rw[hbl]at hm;exact ha1 j o hj hown b hm (by simp))
       (.nst hsz0 (by rw[hφ];exact hszl) (by rw[hbl];exact hb1.1) (by rw[hbl];exact hb1.2) (by rw[hφ];exact hown2) (by rw[hφ,<-hext0];exact hsize2)
        (by rw[hφ,aQ,hrl];exact hfit0) (fun i s hi=>by
         rw[aI]at hi;obtain⟨r,hr1,rfl⟩:=aH.1 hi;have hlt:=(ak.1 hr1).1;have hf:fps[i]?=some fps[i]:=aD (by omega);obtain⟨v,q1,q2⟩:=hrr i r fps[i] hr1 hf;refine⟨v,by rw[hφ,<-hbase i hlt];exact q1,?_⟩;cases r with
         |none=>obtain⟨rfl,_⟩:=q2;exact .nil
         |some rows'=>obtain⟨b',q3,q4⟩:=q2;have hm:b'∈fps.flatten:=dq.2 ⟨fps[i],List.getElem_mem _,by rw[q3];simp⟩;exact .bv q4 (hSK b' (.inl (aB _ hm))).1 (hSK b' (.inl (aB _ hm))).2) (by rw[hφ,aQ,hrl];exact hv0))
       fun sz' sl' k x eo hp=>by cases eo;have hm:=hmem k x hp;refine⟨fun e=>hn1.1 (by rw[<-hbl,<-e];exact hm),fun j o hj hown hne hx=>ha1 j o hj hown x hx (aB _ hm),fun k' hp'=>?_⟩;obtain⟨fp,h1,rfl⟩:=hpat k x hp;obtain⟨fp',h2,rfl⟩:=hpat k' x hp';exact CF hn1.2 h2 h1) fun x hx=>?_
      rcases dE.1 hx with rfl|⟨sz',sl',k',h1,h2⟩
      .rw [hbl];simp
      .rw [bP,if_pos rfl]at h1;cases h1;exact aB _ (hmem k' x h2)
     .simp at h
    .simp at h
   .--it is vy
    rename_i heq1 heq2;simp only[du,cQ]at heq1 heq2;obtain⟨⟨rfl,rfl,rfl⟩,rfl⟩:=heq1;obtain⟨rfl,rfl⟩:=heq2;split at h
    .rename_i w2 k hrec;obtain⟨rfl,rfl⟩:bv.map (fun i=>((i,none):Nat×Option Ob))++w2=bu/\k=m:=by simpa using h
     have e0:f1=[]:=by
      rcases hr1 with h|h
      .exact h.2
      .cases h
     subst e0;obtain⟨φ',hB⟩:=ih vs outs f2 nxt w2 k hl hw2 hr2 hI hfr hren hn2 (fun b hb=>hSK b (.inr hb)) ha2 ho2 hon2 hrec;have hmk:=hB.le;have hkeys:=hB.Ej
     have hwn:∀j∈bv,cg w2 j=none:=fun j hj=>by
      cases hx:cg w2 j with
      |none=>rfl
      |some x=>
       obtain⟨p,hp,rfl⟩:=qV hx;rcases hkeys p hp with h|h
       .exact absurd rfl (hon3 p.1 hj p.1 h)
       .exact absurd (hren.sub _ (ho1 _ hj).2) (hfr p.1 h.1 h.2)
     have heq:bm (bv.map (fun i=>((i,none):Nat×Option Ob))++w2) hf=bm w2 hf:=by
      rw[dV];funext j
      conv=>lhs;unfold bm
      rw[qi];by_cases hjo:j∈bv
      .rw [if_pos hjo];simp only[bm,hwn j hjo,(ho1 j hjo).1]
      .rw [if_neg hjo];rfl
     refine⟨φ',hB.le,hB.rt,heq▸hB.inv,fun p hp=>?_,fun i hi=>?_,fun i o hio hownio hi=>?_⟩
     .rw [hoc];rcases ao.1 hp with hp|hp
      .obtain ⟨j,hj,rfl⟩:=cN.1 hp;exact .inl (aC _ hj)
      .rcases hkeys p hp with h|h
       .exact .inl (aG _ h)
       .exact .inr h
     .rw [hoc]at hi;rw[gy,qi];by_cases hjo:i∈bv
      .rw [if_pos hjo];rfl
      .rw [if_neg hjo];exact hB.Pf i ((ao.1 hi).resolve_left hjo)
     .rw [heq]at hio|-;refine hB.cK i o hio hownio (hi.imp (fun h=>?_) id);rw[hoc]at h;refine(ao.1 h).resolve_left fun hjo=>?_;simp only[bm,hwn i hjo,(ho1 i hjo).1]at hio;cases hio
    .simp at h
   .simp at h
end
section
variable{P:Program}{S K:Nat->Prop}{w0 w:World}{Kn:Nat->Prop}{φ:Nat->gr}{hf:Nat->Option Ob}{H:bE}{e:jp}{ρ:Operand->Value}{o:Oper}{call:Call}{a:Act}
 {nxt n':Nat} {v:TV} {u:fm} {aw:List Nat}
def Ms(P:Program)(o:Oper)(a:Act)(S K:Nat->Prop)(w0 w:World)(Kn:Nat->Prop)(φ:Nat->gr)(hf:Nat->Option Ob)(nxt n':Nat)(v:TV)(u:fm):Prop:=∀(next:Act->World->Prop)(Q:Exit->Act->World->Prop),(∀val w',kP S K w0 w Kn φ hf nxt n' v u val w'->next (a.put o.dst val) w')->o.wp P a w next Q
theorem dp.kJ(h:dp P o a.eval S K w0 w Kn φ hf nxt n' v u):Ms P o a S K w0 w Kn φ hf nxt n' v u:=by
 intro next Q hn
 obtain⟨nx,val,w',hr,hx,hd⟩:=h;unfold Oper.wp;rw[hr];rcases hx with rfl|⟨rfl,rfl⟩
 .exact hn _ _ hd
 .exact hn _ _ hd
theorem xl{tvs:List TV}{vs:List Value}(hl:tvs.length=vs.length)(h:∀(i:Nat)(t:TV)(v:Value),tvs[i]?=some t->vs[i]?=some v->fR S w Kn φ t v):fR S w Kn φ (sK tvs) (xk vs):=by
 have Di:fR S w Kn φ (.iz tvs) (.tuple vs.toArray):=by
  refine .iz (by simpa using hl) fun i x hi=>?_;have hlt:i<vs.length:=by rw[<-hl];exact(ak.1 hi).1
  have:=h i x vs[i] hi (aD hlt);simpa[hlt]using this
 match tvs,vs,hl,h,Di with|[],[],_,_,Di=>exact Di|[t],[v],_,h,_=>exact h 0 t v rfl rfl|_::_::_,_::_::_,_,_,Di=>exact Di
theorem RD.FC{S':Nat->Prop}{w':World}{v x:Value}(h:RD S w (.lit v) x):RD S' w' (.lit v) x:=by cases h with|lit h=>exact .lit h
theorem Da.e9{S':Nat->Prop}:∀{rs:List R}{vs:List Value}{fp:List Nat},rs.all xM=true->Da S w rs vs fp->Da S' w rs vs []:=by
 intro rs;induction rs with
 |nil=>intro vs fp _ h;cases vs with|nil=>rfl|cons v vs=>exact h.elim
 |cons r rs ih=>
  intro vs fp hl h;cases vs with
  |nil=>exact h.elim
  |cons v vs=>
   simp only[List.all_cons,ai]at hl;obtain⟨f1,f2,_,h1,h2⟩:=h;refine⟨[],[],rfl,?_,ih hl.2 h2⟩;have hl1:=hl.1;cases r with
   |c t=>
    cases t with
    |d x=>
     cases x with
     |lit y=>have h1:RT S w (.d (.lit y)) v f1:=h1;cases h1 with|d hd=>exact RT.d hd.FC
     |_=>simp[xM]at hl1
    |_=>simp[xM]at hl1
   |agg ts=>
    obtain⟨aM,fps,rfl,q1,q2,q3,q4⟩:=h1;refine⟨aM,fps.map fun _=>[],rfl,q1,by simpa using q2,by simp,fun i t f hi hfi=>?_⟩;simp only[xM,bd]at hl1;have ht:=hl1 t (aW hi);obtain rfl:f=[]:=by rw[aI]at hfi;obtain⟨_,_,rfl⟩:=aH.1 hfi;rfl
    have hlt:i<fps.length:=by rw[q2];exact(ak.1 hi).1
    have:=q4 i t fps[i] hi (aD hlt);generalize fps[i]=g at this;cases t with
    |d x=>
     cases x with
     |lit y=>cases this with|d hd=>exact RT.d hd.FC
     |_=>simp at ht
    |_=>simp at ht
theorem Inv.after{S':Nat->Prop}{w':World}{fp:List Nat}(hI:Inv S K w0 Kn φ hf w)(hs:gF S w S' w')(hsub:∀b,S' b->S b\/b∈fp\/w.heap.size<=b)(hlt:∀b,S' b->b<w'.heap.size)
  (hfp:∀b∈fp,¬K b) (haw:ip w φ hf fp) (hfrm:FZ (fun b=>b<w.heap.size/\b∉fp) w w'):Inv S' K w0 Kn φ hf w':=by
 refine hI.jK hs (sH.refl _ _) hlt (fun b hb hK=>?_) ⟨hI.mz.Ei,fun b hb=>?_,fy hI.mz.qQ hfrm.qQ,fun a ha=>(hfrm.zJ a (cU ha hI.mz.qQ)).trans (hI.mz.zJ a ha),fun b aM ho=>?_,hI.mz.io.trans hfrm.io⟩ (fun id o ho=>.inl ⟨ho,fun hown=>?_⟩) hI.jo ?_
 .have h1:b<w.heap.size:=cU (hI.mz.Ei b hK) hI.mz.qQ;rcases hsub b hb with h|h|h
  .exact hI.sk b h hK
  .exact hfp b h hK
  .omega
 .have h1:b<w.heap.size:=cU (hI.mz.Ei b hb) hI.mz.qQ;exact(hfrm.my b ⟨h1,fun h=>hfp b h hb⟩).trans (hI.mz.my b hb)
 .obtain ⟨a1,h1,h2⟩:=hI.mz.bv b aM ho;obtain⟨a2,h3,h4⟩:=hfrm.bv b a1 h1;exact⟨a2,h3,h4.trans h2⟩
 .obtain ⟨h1,h2,h3⟩:=(hI.iv id o ho).2.bv hown;have h4:=haw id o ho hown _ (kp id);refine⟨hfrm.my _ ⟨h3,h4⟩,fun h=>?_⟩;rcases hsub _ h with h|h|h
  .exact h1 h
  .exact h4 h
  .omega
 .intro id sz sl ho;have h4:=haw id _ ho rfl
  have key:∀x∈gV w φ hf id,w'.heap[x]?=w.heap[x]?/\¬S' x:=fun x hx=>by
   obtain⟨h1,_,h3⟩:=nC hI ho rfl hx;refine⟨hfrm.my _ ⟨h3,h4 x hx⟩,fun h=>?_⟩;rcases hsub _ h with h|h|h
   .exact h1 h
   .exact h4 x hx h
   .omega
  refine⟨ho,(key _ (kp id)).1,fun k x hp=>?_⟩;obtain⟨q1,q2⟩:=key x (dE.2 (.inr ⟨sz,sl,k,ho,hp⟩));exact⟨q1,q2,(hI.vV id sz sl k x ho hp).1⟩
theorem HD{as:List A}{aw:List Nat}{lent:List (C×List Nat×List Nat)}{vs:List Value}{rs:List R}{outs:List T}{ro:Bool}{val:Value}{w':World}{rd:List Nat}
  (hI:Inv S K w0 Kn φ (az H) w) (hfr:∀j,nxt<=j->j<n'->¬Kn j)
  (hargs:KI (SB S w φ (az H) aw) w as vs ((lent.flatMap (·.2.1)).flatMap (gV w φ (az H)))) (hown:∀i∈lent.flatMap (·.2.1),∃o,az H i=some o/\cD o=true) (hlent:HQ Kn φ S w lent (nq as vs))
  (hwhole:eF H lent=true) (hnd:(lent.flatMap (·.2.1)).Nodup)
  (hleft:Left (SB S w φ (az H) aw) w ((lent.flatMap (·.2.1)).flatMap (gV w φ (az H))) rs outs (nq as vs) val w')
  (h:(if ro then
      if rs.all xM/\lent.isEmpty/\outs.isEmpty then some (sK (gT nxt rs).1,(gT nxt rs).2.1,aw,(gT nxt rs).2.2)else none
     else
      match dK H aw aw with
      |none=>none
      |some fu=>
       match eQ nxt lent outs with
       |none=>none
       |some (bu,m)=>some (sK (gT m rs).1,(gT m rs).2.1++bu++fu,aw++lent.flatMap (·.2.2),(gT m rs).2.2))=some (v,u,rd,n')):
  kP S K w0 w Kn φ (az H) nxt n' v u val w':=by
 obtain⟨S',kD,fp1,fp2,rfl,hs,hsub,hlt,hrr,hrt,hnd2,hb,hfrm⟩:=hleft;split at h
 .--nothing is Ct
  split at h
  .rename_i hcond;obtain⟨hl,hle,hoe⟩:=hcond;have hle':lent=[]:=by simpa using hle
   subst hle';obtain⟨rfl,rfl,_,rfl⟩:sK (gT nxt rs).1=v/\(gT nxt rs).2.1=u/\aw=rd/\(gT nxt rs).2.2=n':=by simpa using h
   have hI':Inv S K w0 Kn φ (az H) w':=hI.after (fp:=[]) ⟨fun _ h=>h,fun b hb=>hs.dU b (.inl hb)⟩ (fun b hb=>.inl hb) (fun b hb=>cU (hI.t6 b hb) hfrm.qQ) (fun b hb=>by simp at hb)
    (fun j o _ _ x _ h=>by simp at h) hfrm
   obtain⟨φ',hL,hlen,hr⟩:=wO rs nxt kD [] hI' hfr (hrr.e9 hl) List.nodup_nil (fun b hb=>by simp at hb) (fun j o _ _ x _ h=>by simp at h);exact⟨hL.le,S,φ',⟨fun _ h=>h,fun b hb=>hs.dU b (.inl hb)⟩,hL.rt,xl hlen hr,hL.inv⟩
  .simp at h
 .split at h
  .simp at h
  .rename_i fu hfz;split at h
   .simp at h
   .rename_i bu m hbk;obtain⟨rfl,rfl,_,rfl⟩:sK (gT m rs).1=v/\(gT m rs).2.1++bu++fu=u/\aw++lent.flatMap (·.2.2)=rd/\(gT m rs).2.2=n':=by simpa using h
    have hI1:=hI.EB hfz;have hmn:=E_ rs m;have hnm:=zQ _ _ _ _ _ hbk
    -- what was lent is dO of the heap
    let kills:fm:=(jB lent).map fun i=>(i,none);have hkn:∀j,cg kills j=if j∈jB lent then some none else none:=qi (jB lent)
    have hf2:∀id o,bm kills (bm fu (az H)) id=some o->id∉jB lent/\bm fu (az H) id=some o:=by
     intro id o ho;have:bm kills (bm fu (az H)) id=(match cg kills id with|some o=>o|none=>bm fu (az H) id):=rfl;rw[this,hkn]at ho;by_cases hm:id∈jB lent
     .rw [if_pos hm]at ho;simp at ho
     .rw [if_neg hm]at ho;exact⟨hm,ho⟩
    have hIk:Inv (SB S w φ (az H) aw) K w0 Kn φ (bm kills (bm fu (az H))) w:=hI1.lm fun id o ho=>(hf2 id o ho).2
    -- the frozen part agrees with the heap eR, where a thing is owned
    have hold:∀id o,bm fu (az H) id=some o->cD o=true->az H id=some o:=by
     intro id o ho hown;by_cases hm:id∈aw
     .obtain ⟨o',ho',hfn⟩:=(kL aw fu hfz id).1 hm;simp only[bm,hfn]at ho;obtain rfl:=aa ho;have:=(zK hI hm ho').1;rw[this]at hown;simp at hown
     .simpa only[bm,(kL aw fu hfz id).2 hm]using ho
    have hbk2:∀j o,bm kills (bm fu (az H)) j=some o->cD o=true->az H j=some o/\gV w φ (bm kills (bm fu (az H))) j=gV w φ (az H) j:=fun j o hj hjo=>by have h3:=hold j o (hf2 j o hj).2 hjo;exact⟨h3,ga rfl (hj.trans h3.symm)⟩
    have haw:ip w φ (bm kills (bm fu (az H))) ((lent.flatMap (·.2.1)).flatMap (gV w φ (az H))):=by intro j o hj hjo x hx hm;obtain⟨h1,h2⟩:=hf2 j o hj;obtain⟨i,hi,hie⟩:=da.1 hm;obtain⟨oi,hoi,hoio⟩:=hown i hi;obtain⟨h3,h4⟩:=hbk2 j o hj hjo;rw[h4]at hx;exact mW hI hoi h3 hoio hjo (fun e=>h1 (e▸hi)) hie hx
    have hfpK:∀b∈((lent.flatMap (·.2.1)).flatMap (gV w φ (az H))),¬K b/\b<w.heap.size:=by intro b hbm;obtain⟨i,hi,hie⟩:=da.1 hbm;obtain⟨oi,hoi,hoio⟩:=hown i hi;exact(nC hI hoi hoio hie).2
    have hI2:Inv S' K w0 Kn φ (bm kills (bm fu (az H))) w':=hIk.after hs hsub hlt (fun b hb=>(hfpK b hb).1) haw hfrm
    have hK12:∀b∈fp1++fp2,¬S' b/\¬K b:=fun b hbm=>by
     obtain⟨h1,h2⟩:=hb b hbm;refine⟨h1,fun hk=>?_⟩;rcases h2 with h2|h2
     .exact (hfpK b h2).1 hk
     .have:=hI.mz.Ei b hk;have:=hI.mz.qQ;omega
    have haw12:ip w' φ (bm kills (bm fu (az H))) (fp1++fp2):=fun j o hj hjo x hx hm=>by
     rw[z6 (hfrm.my _ ⟨((hIk.iv j o hj).2.bv hjo).2.2,haw j o hj hjo _ (kp j)⟩)]at hx;rcases(hb _ hm).2 with h2|h2
     .exact haw j o hj hjo x hx h2
     .have:=(nC hIk hj hjo hx).2.2;omega
    rw[bZ]at hnd2;obtain⟨hn1,hn2,hn3⟩:=hnd2;simp only[ao]at hK12
    obtain⟨φ1,hB⟩:=E2 hI hfrm.bv lent (nq as vs) outs fp2 nxt bu m hlent hwhole hrt hI2 (fun j h1 h2=>hfr j h1 (by omega)) (sH.refl _ _) hn2 (fun b hb=>hK12 b (.inr hb))
     (fun j o hj hjo x hx hm=>haw12 j o hj hjo x hx (by simp[hm]))
     (fun i hi=>by obtain⟨oi,hoi,_⟩:=hown i hi;refine⟨?_,(hI.iv i oi hoi).1⟩;show(match cg kills i with|some o=>o|none=>bm fu (az H) i)=none;rw[hkn,if_pos hi]) hnd hbk
    have hkk:bm bu (bm kills (bm fu (az H)))=bm bu (bm fu (az H)):=by
     funext j;by_cases hm:j∈jB lent
     .obtain ⟨x,hx⟩:=gG.1 (hB.Pf j hm);simp only[bm,hx]
     .have h1:bm kills (bm fu (az H)) j=bm fu (az H) j:=by show(match cg kills j with|some o=>o|none=>bm fu (az H) j)=_;rw[hkn,if_neg hm]
      have h2:∀g:Nat->Option Ob,bm bu g j=(match cg bu j with|some o=>o|none=>g j):=fun _=>rfl;rw[h2,h2,h1]
    have hIB:=hB.inv;rw[hkk]at hIB
    have haw1:ip w' φ1 (bm bu (bm fu (az H))) fp1:=by
     intro j o hj hjo x hx hm;by_cases hk:j∈jB lent\/(nxt<=j/\j<m)
     .have:=hB.cK j o (by rw[hkk];exact hj) hjo hk x (by rw[hkk];exact hx);exact hn3 _ hm _ this rfl
     .have hfn:cg bu j=none:=kK fun p hp e=>by
       rcases hB.Ej p hp with h|h
       .exact hk (.inl (e▸h))
       .exact hk (.inr (e▸h))
      have hj2:bm kills (bm fu (az H)) j=some o:=by rw[<-hkk]at hj;simpa only[bm,hfn]using hj
      have hknj:=(hI2.iv j o hj2).1;rw[ga (hB.rt.dU j hknj) (hj.trans hj2.symm)]at hx;exact haw12 j o hj2 hjo x hx (by simp[hm])
    obtain⟨φ2,hL,hlen,hr⟩:=wO rs m kD fp1 hIB (fun j h1 h2 hk=>by
      rcases hk with hk|hk
      .exact hfr j (by omega) h2 hk
      .omega) hrr hn1 (fun b hb=>hK12 b (.inl hb)) haw1
    refine⟨by omega,S',φ2,(SB.tn aw).trans hs,⟨fun i h=>.inl h,fun i h=>(hL.rt.dU i (.inl h)).trans (hB.rt.dU i h)⟩,?_,?_⟩
    .exact (xl hlen hr).kn fun i=>(qN hnm hmn i).1
    .rw [dV,dV];exact hL.inv.wj fun i=>qN hnm hmn i
theorem zd:∀n,(∀c x aw,dH H n c=some (x,aw)->∀i∈aw,∃o,az H i=some o)/\(∀cs xs aw,fI H n cs=some (xs,aw)->∀i∈aw,∃o,az H i=some o):=by
 have leaf:∀n c x aw,(match c with|.op _ _|.nW _ _=>False|_=>True)->dH H n c=some (x,aw)->∀i∈aw,∃o,az H i=some o:=by
  intro n c x aw hl h i hi;cases c with
  |d y=>simp only[dH,bq,cQ]at h;obtain⟨_,rfl⟩:=h;simp at hi
  |eZ sz id off len=>
   simp only[dH]at h;split at h
   all_goals first
    |(split at h
      .obtain ⟨_,rfl⟩:=ad (aa h);obtain rfl:=aq.1 hi;exact⟨_,by assumption⟩
      .simp at h)
    |(split at h
      .split at h
       .obtain ⟨_,rfl⟩:=ad (aa h);obtain rfl:=aq.1 hi;exact⟨_,by assumption⟩
       .simp at h
      .simp at h)
    |simp at h
  |ep id cY off=>
   simp only[dH]at h;split at h
   all_goals first
    |(split at h
      .split at h
       .obtain ⟨_,rfl⟩:=ad (aa h);obtain rfl:=aq.1 hi;exact⟨_,by assumption⟩
       .simp at h
      .simp at h)
    |simp at h
  |op id off=>exact hl.elim
  |nW f caps=>exact hl.elim
  |om id=>cases n<;>simp[dH]at h
 intro n;induction n with
 |zero=>
  refine⟨fun c x aw h=>?_,fun cs xs aw h=>?_⟩
  .cases c with|op id off=>simp[dH]at h|nW f caps=>simp[dH]at h|_=>exact leaf 0 _ x aw trivial h
  .cases cs with
   |nil=>
    obtain⟨_,rfl⟩:[]=xs/\[]=aw:=by simpa[fI]using h
    intro i hi;simp at hi
   |cons c cs=>simp[fI]at h
 |succ n ih=>
  refine⟨fun c x aw h=>?_,fun cs xs aw h=>?_⟩
  .cases c with
   |op id off=>
    simp only[dH]at h;split at h
    .split at h
     .obtain ⟨_,rfl⟩:=ad (aa h);intro i hi;obtain rfl:=aq.1 hi;exact⟨_,by assumption⟩
     .simp at h
    .split at h
     .rename_i hv;split at h
      .obtain ⟨_,rfl⟩:=ad (aa h);intro i hi;rcases aK.1 hi with rfl|hi
       .exact ⟨_,by assumption⟩
       .exact ih.2 _ _ _ hv i hi
      .simp at h
     .simp at h
    .simp at h
   |nW f caps=>
    simp only[dH]at h;split at h
    .rename_i hv;obtain⟨_,rfl⟩:=ad (aa h);exact ih.2 _ _ _ hv
    .simp at h
   |_=>exact leaf _ _ x aw trivial h
  .cases cs with
   |nil=>
    obtain⟨_,rfl⟩:[]=xs/\[]=aw:=by simpa[fI]using h
    intro i hi;simp at hi
   |cons c cs=>
    simp only[fI]at h;split at h
    .rename_i h1 h2;obtain⟨_,rfl⟩:=ad (aa h);intro i hi;rcases ao.1 hi with hi|hi
     .exact ih.1 _ _ _ h1 i hi
     .exact ih.2 _ _ _ h2 i hi
    .simp at h
theorem Bm:∀cs xs aw,dC H cs=some (xs,aw)->∀i∈aw,∃o,az H i=some o:=by
 intro cs;induction cs with
 |nil=>
  intro xs aw h i hi;obtain⟨_,rfl⟩:[]=xs/\[]=aw:=by simpa[dC]using h
  simp at hi
 |cons c cs ih=>
  intro xs aw h i hi;simp only[dC]at h;split at h
  .rename_i h1 h2;obtain⟨_,rfl⟩:=ad (aa h);rcases ao.1 hi with hi|hi
   .exact (zd 300).1 _ _ _ h1 i hi
   .exact ih _ _ h2 i hi
  .simp at h
theorem z_:∀(tvs:List TV)(ms:List Bool)(as:List A)(aw:List Nat)(lent:List (C×List Nat×List Nat)),fZ H tvs ms=some (as,aw,lent)->∀i∈aw,∃o,az H i=some o:=by
 intro tvs;induction tvs with
 |nil=>
  intro ms as aw lent h i hi;obtain⟨_,rfl,_⟩:[]=as/\[]=aw/\[]=lent:=by simpa[fZ]using h
  simp at hi
 |cons t tvs ih=>
  intro ms as aw lent h i hi;simp only[fZ]at h;split at h
  .simp at h
  .rename_i hrec;split at h
   .split at h
    .split at h
     .obtain ⟨_,rfl,_⟩:=(by simpa using h:_/\_/\_)
      exact ih _ _ _ _ hrec i hi
     .simp at h
    .simp at h
   .split at h
    .split at h
     .rename_i hv;obtain⟨_,rfl,_⟩:=(by simpa using h:_/\_/\_)
      rcases ao.1 hi with hi|hi
      .exact (zd 300).1 _ _ _ hv i hi
      .exact ih _ _ _ _ hrec i hi
     .simp at h
    .split at h
     .rename_i hv;obtain⟨_,rfl,_⟩:=(by simpa using h:_/\_/\_)
      rcases ao.1 hi with hi|hi
      .exact Bm _ _ _ hv i hi
      .exact ih _ _ _ _ hrec i hi
     .simp at h
    .simp at h
theorem RO.Oj{l:gr}{o:Ob}(h:RO S K w Kn φ l o)(hs:∀b,S b->b<w.heap.size):l.cK<w.heap.size:=by cases h with|aM hsz hl hS hK hown=>exact hown.lt|box hb hS hK hown=>exact hown.lt|map hS hK hmp=>exact(Array.getElem?_eq_some_iff.1 hmp).1|cap hsz hl hS hK hown=>exact hown.lt|nst hsz hl hS hK hown=>exact hown.lt|oV hsz hl hS=>exact hs _ hS|ny hb hS=>exact hs _ hS
theorem RO.Ri{l:gr}{o:Ob}(h:RO S K w Kn φ l o)(hs:cD o=false):S l.cK:=by cases h with|oV hsz hl hS=>exact hS|ny hb hS=>exact hS|_=>simp[cD]at hs
theorem Fs{c:Go.Call}{fop:Operand}{ro:Bool}{jL:List Bool}(ho:o.op=.call c)(hcal:c.callee=.value fop)(hok:mu P call)(hI:Inv S K w0 Kn φ (az H) w)
  (hfr:∀j,nxt<=j->j<n'->¬Kn j) (hρ:∀x tv,km e x=some tv->fR S w Kn φ tv (a.eval x))
  (h:cA call (.call ro jL) ((fop::c.args.toList).map (km e)) H nxt=some (v,u,aw,n')):Ms P o a S K w0 w Kn φ (az H) nxt n' v u:=by
 rw[aA]at h;change tP call ro jL (km e fop) (c.args.toList.map (km e)) H nxt=_ at h;unfold tP at h;split at h
 .rename_i f caps vs hf hvs;split at h
  .simp at h
  .rename_i as ids1 lent hargs;split at h
   .rename_i hcond;obtain⟨hwhole,hnd,hapart⟩:=hcond;split at h
    .simp at h
    .rename_i rs outs hcall
     -- the callee
     have hfv:∃cvs:Array Value,a.eval fop=.func (.func f) #[] cvs/\caps.length=cvs.size/\∀(i:Nat)(x:C),caps[i]?=some x->RC S w Kn φ x (cvs.getD i undef):=by
      split at hf
      .rename_i g capsD hop;obtain⟨rfl,rfl⟩:g=f/\capsD.map C.d=caps:=by simpa using hf
       have hr:=hρ _ _ hop;generalize a.eval fop=fv at hr|-;cases hr with
       |c hr=>cases hr with
        |d hd=>cases hd with|@fn _ _ cvs hlen hrd=>refine⟨cvs,rfl,by simpa using hlen,fun i x hi=>?_⟩;rw[aI]at hi;obtain⟨y,hy,rfl⟩:=aH.1 hi;exact .d (hrd i y hy)
      .rename_i g caps' hop;obtain⟨rfl,rfl⟩:g=f/\caps'=caps:=by simpa using hf
       have hr:=hρ _ _ hop;generalize a.eval fop=fv at hr|-;cases hr with
       |c hr=>cases hr with|@nW _ _ cvs hlen hrc=>exact⟨cvs,rfl,hlen,hrc⟩
      .simp at hf
     obtain⟨cvs,hfe,hcl,hcr⟩:=hfv;obtain⟨hal,har⟩:=uK hρ hvs;let kD:List Value:=c.args.toList.map a.eval++cvs.toList
     obtain⟨p1,p2,p3⟩:=E3 hI (vs++caps.map TV.c) jL as ids1 lent kD hargs (by simp[kD,hal,hcl]) (fun i t val hi hv=>by
      by_cases hlt:i<vs.length
      .rw [bF hlt]at hi;simp only[kD]at hv;rw[bF (by simp only[aQ];omega),aI]at hv;obtain⟨x,hx,rfl⟩:=aH.1 hv;exact har i x t hx hi
      .rw [bM (by omega),aI]at hi;obtain⟨x,hx,rfl⟩:=aH.1 hi;simp only[kD]at hv;rw[bM (by simp only[aQ];omega)]at hv;simp only[aQ,<-hal]at hv;have:=hcr _ x hx;rw[Array.getElem?_toList]at hv;have e1:cvs.getD (i-vs.length) undef=val:=by simp[hv]
       rw[e1]at this;exact .c this)
     have hSlt:∀b,SB S w φ (az H) ids1 b->b<w.heap.size:=by
      rintro b (hb|⟨i,hi,hb⟩)
      .exact hI.t6 b hb
      .obtain ⟨oi,hoi⟩:=z_ _ _ _ _ _ hargs i hi;rcases dE.1 hb with rfl|⟨sz,sl,k,h1,h2⟩
       .exact (hI.iv i oi hoi).2.Oj hI.t6
       .exact (hI.Gy h1 h2).2.2.1
     have hnS:∀b∈((lent.flatMap (·.2.1)).flatMap (gV w φ (az H))),¬SB S w φ (az H) ids1 b:=by
      intro b hb hS;obtain⟨i,hi,hb⟩:=da.1 hb;obtain⟨oi,hoi,hoio⟩:=p2 i hi;have hb1:=(nC hI hoi hoio hb).1;rcases hS with hS|⟨j,hj,hje⟩
      .exact hb1 hS
      .obtain ⟨oj,hoj⟩:=z_ _ _ _ _ _ hargs j hj;cases hjo:cD oj with
       |true=>refine mW hI hoi hoj hoio hjo (fun e=>?_) hb hje;have:=bd.1 hapart i hi;rw[e]at this;simp[hj]at this
       |false=>
        rcases dE.1 hje with rfl|⟨sz,sl,k,h1,_⟩
        .exact hb1 ((hI.iv j oj hoj).2.Ri hjo)
        .rw [hoj]at h1;cases h1;cases hjo
     have hgood:=hok f as rs outs hcall (SB S w φ (az H) ids1) w kD _ hSlt p1 (z7 hI hnd p2) hnS (hI.AJ.mono (SB.tn _));intro next Q hn
     have hfin:∀val w',Left (SB S w φ (az H) ids1) w ((lent.flatMap (·.2.1)).flatMap (gV w φ (az H))) rs outs (nq as kD) val w'->next (a.put o.dst val) w':=by intro val w' hleft;refine hn val w' (HD hI hfr p1 p2 p3 hwhole hnd hleft (ro:=ro) (v:=v) (u:=u) (rd:=aw) ?_);exact h
     have hrun:∀r,(callFunc f kD.toArray).run P w=r->(execOp a.eval o).run P w=r:=by
      intro r hr;have e1:(#[]++c.args.map a.eval)++cvs=kD.toArray:=by apply Array.ext';simp[kD]
      simp only[execOp,ho,Sem.run_bind,resolve,hcal,hfe,Deferred.ofValue,Sem.run_pure,Result.andThen_ok,invoke,e1];exact hr
     rcases hgood with⟨g,as',hr,hc⟩|⟨val,hr,hleft⟩
     .unfold Oper.wp;rw[hrun _ hr,Oper.upon_enter];refine hc.mono fun en w' hR=>?_;obtain⟨val,rfl,hleft⟩:=hR;exact hfin val w' hleft
     .unfold Oper.wp;rw[hrun _ hr];exact hfin val w hleft
   .simp at h
 .simp at h
end
section
variable{P:Program}{S K:Nat->Prop}{w0 w:World}{Kn:Nat->Prop}{φ:Nat->gr}{H:bE}{e:jp}{o:Oper}{call:Call}{a:Act}{db:Aa}{k:Ev.K}{args:List Operand}
 {nxt n':Nat} {v:TV} {u:fm} {aw:List Nat}
theorem fD{vs:List (Option TV)}:cA call .fU vs H nxt=none:=by unfold cA;split<;>first|rfl|simp_all
theorem HF{op:BinOp}{t ty:TypeId}{x y:Operand}(ho:o.op=.binOp op t x y ty)(hk:FS P op t x y=(k,args))(hI:Inv S K w0 Kn φ (az H) w)(hE:jp.ok S w Kn φ e a.tmps)
  (h:cA call k (args.map (km e)) H nxt=some (v,u,aw,n')):dp P o a.eval S K w0 w Kn φ (az H) nxt n' v u:=by
 have hρ:∀x tv,km e x=some tv->fR S w Kn φ tv (a.eval x):=fun x tv h=>sv hI.AJ hE h;have plainBin:(k,args)=(Ev.K.yZ op,[x,y])->dp P o a.eval S K w0 w Kn φ (az H) nxt n' v u:=by intro hk;obtain⟨rfl,rfl⟩:=ad hk;exact Nu ho hI (fun z hz=>hρ x z hz) (fun z hz=>hρ y z hz) h
 have nilBin:∀kind,(op=.eql\/op=.neq)->IQ P t kind->(k,args)=pD kind (op==.neq) x y->dp P o a.eval S K w0 w Kn φ (az H) nxt n' v u:=by
  intro kind hop hu hk;unfold pD at hk;split at hk
  .rename_i hy;obtain⟨rfl,rfl⟩:=ad hk;exact B9 ho hop hu hI (fun _=>rfl) (.inl ⟨rfl,hy⟩) (fun z hz=>hρ x z hz) h
  .split at hk
   .rename_i hx;obtain⟨rfl,rfl⟩:=ad hk;exact B9 ho hop hu hI (fun _=>rfl) (.inr ⟨rfl,hx⟩) (fun z hz=>hρ y z hz) h
   .obtain ⟨rfl,rfl⟩:=ad hk;rw[fD]at h;simp at h
 have eqs:(op=.eql\/op=.neq)->(match P.underlying t with
  |some .bool=>(Ev.K.tQ (op==.neq),[x,y])
  |some (.int _)|some (.float _)|some .string=>(Ev.K.yZ op,[x,y])
  |some (.slice _)=>pD 0 (op==.neq) x y
  |some (.pointer _)=>pD 1 (op==.neq) x y
  |some (.func _ _ _)=>pD 2 (op==.neq) x y
  |some (.struct _)|some (.array _ _)=>match yC P 8 t with|some ks=>if P.eqGuardType P.depth t=false then(Ev.K.x9 (op==.neq) ks,[x,y])else(Ev.K.fU,[])|none=>(Ev.K.fU,[])
  |_=>(Ev.K.fU,[]))=(k,args)->dp P o a.eval S K w0 w Kn φ (az H) nxt n' v u:=by
  intro hop hk;split at hk
  .rename_i hu;obtain⟨rfl,rfl⟩:=ad hk;exact GK ho hop hu hI (fun z hz=>hρ x z hz) (fun z hz=>hρ y z hz) h
  .exact plainBin hk.symm
  .exact plainBin hk.symm
  .exact plainBin hk.symm
  .rename_i hu;exact nilBin 0 hop ⟨_,hu⟩ hk.symm
  .rename_i hu;exact nilBin 1 hop ⟨_,hu⟩ hk.symm
  .rename_i hu;exact nilBin 2 hop ⟨_,_,_,hu⟩ hk.symm
  .rename_i hu;split at hk
   .rename_i hks;split at hk
    .rename_i hg;obtain⟨rfl,rfl⟩:=ad hk;exact B_ ho hop hks (by simp[fG,hu]) hg hI (fun z hz=>hρ x z hz) (fun z hz=>hρ y z hz) h
    .obtain ⟨rfl,rfl⟩:=ad hk;rw[fD]at h;simp at h
   .obtain ⟨rfl,rfl⟩:=ad hk;rw[fD]at h;simp at h
  .rename_i hu;split at hk
   .rename_i hks;split at hk
    .rename_i hg;obtain⟨rfl,rfl⟩:=ad hk;exact B_ ho hop hks (by simp[fG,hu]) hg hI (fun z hz=>hρ x z hz) (fun z hz=>hρ y z hz) h
    .obtain ⟨rfl,rfl⟩:=ad hk;rw[fD]at h;simp at h
   .obtain ⟨rfl,rfl⟩:=ad hk;rw[fD]at h;simp at h
  .obtain ⟨rfl,rfl⟩:=ad hk;rw[fD]at h;simp at h
 cases op with|eql=>exact eqs (.inl rfl) hk|neq=>exact eqs (.inr rfl) hk|_=>exact plainBin hk.symm
theorem px{α:Type}{x:Array α}{y:α}(h:x.toList=[y]):x= #[y]:=by rw[<-Array.toArray_toList (xs:=x),h]
theorem oG{α:Type}{x:Array α}{y z:α}(h:x.toList=[y,z]):x= #[y,z]:=by rw[<-Array.toArray_toList (xs:=x),h]
theorem yY{b:Builtin}{c:Go.Call}(ho:o.op=.call c)(hcal:c.callee=.builtin b)(hk:rU P b c.args.toList c.argTypes.toList=(k,args))(hI:Inv S K w0 Kn φ (az H) w)
  (hE:jp.ok S w Kn φ e a.tmps) (hn0:nxt<n'->¬Kn nxt) (h:cA call k (args.map (km e)) H nxt=some (v,u,aw,n')):dp P o a.eval S K w0 w Kn φ (az H) nxt n' v u:=by
 have hρ:∀x tv,km e x=some tv->fR S w Kn φ tv (a.eval x):=fun x tv h=>sv hI.AJ hE h
 have lenArgs:∀str,k=.len str->args=c.args.toList->∃x,c.args.toList=[x]:=by
  intro str hk ha;subst hk ha;generalize c.args.toList=l at h
  match l,h with|[x],_=>exact⟨x,rfl⟩|[],h=>simp[cA]at h|x::y::r,h=>simp[cA]at h
 unfold rU at hk;split at hk
 .rename_i t hts;split at hk
  .rename_i hu;obtain⟨rfl,rfl⟩:=ad hk;obtain⟨x,hx⟩:=lenArgs true rfl rfl;rw[hx]at h;exact IE (str:=true) ho hcal (px hx) (px hts) hu hI (fun z hz=>hρ x z hz) h
  .rename_i hu;obtain⟨rfl,rfl⟩:=ad hk;obtain⟨x,hx⟩:=lenArgs false rfl rfl;rw[hx]at h;exact IE (str:=false) ho hcal (px hx) (px hts) ⟨_,hu⟩ hI (fun z hz=>hρ x z hz) h
  .obtain ⟨rfl,rfl⟩:=ad hk;rw[fD]at h;simp at h
 .obtain ⟨rfl,rfl⟩:=ad hk;exact zy (m:=true) ho hcal hI hρ h
 .obtain ⟨rfl,rfl⟩:=ad hk;exact zy (m:=false) ho hcal hI hρ h
 .rename_i s x hts;split at hk
  .rename_i el el2 hus hux;split at hk
   .rename_i n z hsz hz;split at hk
    .rename_i hb;obtain⟨rfl,rfl⟩:=ad hk
     have:∃p q,c.args.toList=[p,q]:=by
      generalize c.args.toList=l at h
      match l,h with|[p,q],_=>exact⟨p,q,rfl⟩|[],h=>simp[cA]at h|[p],h=>simp[cA]at h|p::q::r::t,h=>simp[cA]at h
     obtain⟨p,q,hpq⟩:=this;rw[hpq]at h;exact GL ho hcal (oG hpq) (oG hts) hus hux hsz hz hb.2 hb.1 hI hn0 (fun z hz=>hρ p z hz) (fun z hz=>hρ q z hz) h
    .obtain ⟨rfl,rfl⟩:=ad hk;rw[fD]at h;simp at h
   .obtain ⟨rfl,rfl⟩:=ad hk;rw[fD]at h;simp at h
  .rename_i el kd hus hux;split at hk
   .rename_i n z hsz hz;split at hk
    .rename_i hb;obtain⟨rfl,rfl⟩:=ad hk
     have:∃p q,c.args.toList=[p,q]:=by
      generalize c.args.toList=l at h
      match l,h with|[p,q],_=>exact⟨p,q,rfl⟩|[],h=>simp[cA]at h|[p],h=>simp[cA]at h|p::q::r::t,h=>simp[cA]at h
     obtain⟨p,q,hpq⟩:=this;rw[hpq]at h;exact Nv ho hcal (oG hpq) (oG hts) hus hux hsz hz hb.2 hb.1 hI hn0 (fun z hz=>hρ p z hz) (fun z hz=>hρ q z hz) h
    .obtain ⟨rfl,rfl⟩:=ad hk;rw[fD]at h;simp at h
   .obtain ⟨rfl,rfl⟩:=ad hk;rw[fD]at h;simp at h
  .obtain ⟨rfl,rfl⟩:=ad hk;rw[fD]at h;simp at h
 .rename_i t hts;split at hk
  .rename_i el hu;obtain⟨rfl,rfl⟩:=ad hk
   have:∃p,c.args.toList=[p]:=by
    generalize c.args.toList=l at h
    match l,h with|[p],_=>exact⟨p,rfl⟩|[],h=>simp[cA]at h|p::q::r,h=>simp[cA]at h
   obtain⟨p,hp⟩:=this;rw[hp]at h;exact Ns ho hcal (px hp) (px hts) hu hI (fun z hz=>hρ p z hz) h
  .obtain ⟨rfl,rfl⟩:=ad hk;rw[fD]at h;simp at h
 .rename_i d x hts;split at hk
  .rename_i el hud;split at hk
   .rename_i n hsz;obtain⟨rfl,rfl⟩:=ad hk
    have:∃p q,c.args.toList=[p,q]:=by
     generalize c.args.toList=l at h
     match l,h with|[p,q],_=>exact⟨p,q,rfl⟩|[],h=>simp[cA]at h|[p],h=>simp[cA]at h|p::q::r::t,h=>simp[cA]at h
    obtain⟨p,q,hpq⟩:=this;rw[hpq]at h;exact Lr ho hcal (oG hpq) (oG hts) hud hsz hI (fun z hz=>hρ p z hz) (fun z hz=>hρ q z hz) h
   .obtain ⟨rfl,rfl⟩:=ad hk;rw[fD]at h;simp at h
  .obtain ⟨rfl,rfl⟩:=ad hk;rw[fD]at h;simp at h
 .rename_i d hts;split at hk
  .rename_i el hud;split at hk
   .rename_i n z hsz hz;split at hk
    .rename_i hzl;obtain⟨rfl,rfl⟩:=ad hk
     have:∃p,c.args.toList=[p]:=by
      generalize c.args.toList=l at h
      match l,h with|[p],_=>exact⟨p,rfl⟩|[],h=>simp[cA]at h|p::q::r,h=>simp[cA]at h
     obtain⟨p,hp⟩:=this;rw[hp]at h;exact II ho hcal (px hp) (px hts) hud hsz hz hzl hI (fun z hz=>hρ p z hz) h
    .obtain ⟨rfl,rfl⟩:=ad hk;rw[fD]at h;simp at h
   .obtain ⟨rfl,rfl⟩:=ad hk;rw[fD]at h;simp at h
  .obtain ⟨rfl,rfl⟩:=ad hk;rw[fD]at h;simp at h
 .obtain ⟨rfl,rfl⟩:=ad hk;rw[fD]at h;simp at h
theorem B4(hok:mu P call)(hk:v8 P db o.op=(k,args))(hI:Inv S K w0 Kn φ (az H) w)(hE:jp.ok S w Kn φ e a.tmps)(hfr:∀j,nxt<=j->j<n'->¬Kn j)
  (h:cA call k (args.map (km e)) H nxt=some (v,u,aw,n')):Ms P o a S K w0 w Kn φ (az H) nxt n' v u:=by
 have hρ:∀x tv,km e x=some tv->fR S w Kn φ tv (a.eval x):=fun x tv h=>sv hI.AJ hE h;have hn0:nxt<n'->¬Kn nxt:=fun h=>hfr nxt (au _) h;have fU:(k,args)=(Ev.K.fU,[])->Ms P o a S K w0 w Kn φ (az H) nxt n' v u:=by intro hk;obtain⟨rfl,rfl⟩:=ad hk;rw[fD]at h;simp at h
 generalize hop:o.op=op at hk;unfold v8 at hk;split at hk
 .obtain ⟨rfl,rfl⟩:=ad hk;exact(MA (.inl hop) hI (fun z hz=>hρ _ z hz) h).kJ
 .obtain ⟨rfl,rfl⟩:=ad hk;exact(MA (.inr hop) hI (fun z hz=>hρ _ z hz) h).kJ
 .obtain ⟨rfl,rfl⟩:=ad hk;exact(Lp hop hI (fun z hz=>hρ _ z hz) (fun z hz=>hρ _ z hz) (fun z hz=>hρ _ z hz) h).kJ
 .--alloc
  split at hk
  .rename_i hz;obtain⟨rfl,rfl⟩:=ad hk;exact(IJ hop hz hI hn0 h).kJ
  .exact fU hk.symm
 .obtain ⟨rfl,rfl⟩:=ad hk;exact(Nt hop hI hn0 (fun z hz=>hρ _ z hz) h).kJ
 .--build
  split at hk
  .rename_i hu hz;split at hk
   .rename_i hpl;split at hk
    .rename_i hall;obtain⟨rfl,rfl⟩:=ad hk;exact(Cb hop hz (.inl ⟨_,hu,hpl,hall⟩) hI hρ h).kJ
    .exact fU hk.symm
   .exact fU hk.symm
  .rename_i hu hz;split at hk
   .rename_i hs;obtain⟨rfl,rfl⟩:=ad hk;exact(Cb hop hz (.inr ⟨_,_,_,hu,hs,rfl⟩) hI hρ h).kJ
   .exact fU hk.symm
  .exact fU hk.symm
 .--buildSlice
  split at hk
  .rename_i hu;split at hk
   .rename_i hs hz;split at hk
    .rename_i hl;obtain⟨rfl,rfl⟩:=ad hk;exact(yO hop hu hs hz hl hI hn0 hρ h).kJ
    .exact fU hk.symm
   .exact fU hk.symm
  .exact fU hk.symm
 .--load
  split at hk
  .rename_i ha hs;obtain⟨rfl,rfl⟩:=ad hk;split at h
   .rename_i hc;obtain⟨_,_,rfl,rfl⟩:=hc;exact(ID hop ha hs hI hn0 (fun z hz=>hρ _ z hz) h).kJ
   .exact (Fq hop ha hs hI (fun z hz=>hρ _ z hz) h).kJ
  .exact fU hk.symm
 .--store
  split at hk
  .rename_i hs;obtain⟨rfl,rfl⟩:=ad hk;exact(IB hop hs hI (fun z hz=>hρ _ z hz) (fun z hz=>hρ _ z hz) h).kJ
  .exact fU hk.symm
 .obtain ⟨rfl,rfl⟩:=ad hk;exact(B6 hop hI (fun z hz=>hρ _ z hz) h).kJ
 .exact (HF hop hk hI hE h).kJ
 .obtain ⟨rfl,rfl⟩:=ad hk;exact(O3 hop hI (fun z hz=>hρ _ z hz) h).kJ
 .--convert
  split at hk
  .rename_i hs hd;obtain⟨rfl,rfl⟩:=ad hk;exact(D7 hop hs hd hI (fun z hz=>hρ _ z hz) h).kJ
  .rename_i hs hd;obtain⟨rfl,rfl⟩:=ad hk;exact(Ca hop hs hd hI (fun z hz=>hρ _ z hz) h).kJ
  .exact fU hk.symm
 .--makeFunc
  split at hk
  .rename_i hf;obtain⟨rfl,rfl⟩:=ad hk;exact(Lq hop hf hI hρ h).kJ
  .exact fU hk.symm
 .--makeSlice
  split at hk
  .rename_i hu;split at hk
   .rename_i hs hz;split at hk
    .rename_i hl;obtain⟨rfl,rfl⟩:=ad hk;split at h
     .rename_i m hm;unfold MB at hm;split at hm
      .rename_i hc;split at hm
       .split at hm
        .obtain rfl:=aa hm;exact(IC hop hu hs hz hl.1 hl.2 hc.2 (Nat.succ_pos _) hI hn0 (fun z hz=>hρ _ z hz) (fun z hz=>hρ _ z hz) h).kJ
        .cases hm
       .cases hm
      .cases hm
     .exact (ui hop hu hs hz hl.1 hl.2 hI hn0 (fun z hz=>hρ _ z hz) (fun z hz=>hρ _ z hz) h).kJ
    .exact fU hk.symm
   .exact fU hk.symm
  .exact fU hk.symm
 .--slice
  split at hk
  .rename_i hu;obtain⟨rfl,rfl⟩:=ad hk;exact(B5 (str:=true) hop hu hI hρ h).kJ
  .rename_i hu;split at hk
   .rename_i hs;obtain⟨rfl,rfl⟩:=ad hk;exact(B5 (str:=false) hop ⟨_,hu,hs⟩ hI hρ h).kJ
   .exact fU hk.symm
  .exact fU hk.symm
 .--Ak
  split at hk
  .rename_i hu;split at hk
   .rename_i hs;obtain⟨rfl,rfl⟩:=ad hk;exact(GI hop hu hs hI hn0 hρ h).kJ
   .exact fU hk.symm
  .exact fU hk.symm
 .--fieldAddr
  split at hk
  .rename_i hu;split at hk
   .rename_i hf;split at hk
    .rename_i hs;obtain⟨rfl,rfl⟩:=ad hk;exact(Az hop hu hf hs hI (fun z hz=>hρ _ z hz) h).kJ
    .exact fU hk.symm
   .exact fU hk.symm
  .exact fU hk.symm
 .--field
  split at hk
  .rename_i hu;split at hk
   .rename_i hf;split at hk
    .rename_i ha hs;obtain⟨rfl,rfl⟩:=ad hk;exact(IG hop hu hf ha hs hI (fun z hz=>hρ _ z hz) h).kJ
    .exact fU hk.symm
   .exact fU hk.symm
  .exact fU hk.symm
 .--indexAddr
  split at hk
  .rename_i hu;split at hk
   .rename_i hs;obtain⟨rfl,rfl⟩:=ad hk;exact(uj (aM:=none) hop ⟨_,hu,hs⟩ hI (fun z hz=>hρ _ z hz) (fun z hz=>hρ _ z hz) h).kJ
   .exact fU hk.symm
  .rename_i hu;split at hk
   .rename_i hs;obtain⟨rfl,rfl⟩:=ad hk;exact(uj (aM:=some _) hop ⟨_,hu,hs⟩ hI (fun z hz=>hρ _ z hz) (fun z hz=>hρ _ z hz) h).kJ
   .exact fU hk.symm
  .exact fU hk.symm
 .--index
  split at hk
  .rename_i hu;obtain⟨rfl,rfl⟩:=ad hk;exact(B8 hop hu hI (fun z hz=>hρ _ z hz) (fun z hz=>hρ _ z hz) h).kJ
  .rename_i hu;split at hk
   .rename_i ha hs;obtain⟨rfl,rfl⟩:=ad hk;exact(IF hop hu ha hs hI (fun z hz=>hρ _ z hz) (fun z hz=>hρ _ z hz) h).kJ
   .exact fU hk.symm
  .exact fU hk.symm
 .obtain ⟨rfl,rfl⟩:=ad hk;exact(D6 hop hI (fun z hz=>hρ _ z hz) h).kJ
 .--makeMap
  split at hk
  .split at hk
   .obtain ⟨rfl,rfl⟩:=ad hk;exact(D5 hop hI hn0 h).kJ
   .exact fU hk.symm
  .exact fU hk.symm
 .--lookup
  split at hk
  .rename_i hu;split at hk
   .rename_i hm;obtain⟨rfl,rfl⟩:=ad hk;exact(GJ hop hu hm hI (fun z hz=>hρ _ z hz) (fun z hz=>hρ _ z hz) h).kJ
   .exact fU hk.symm
  .exact fU hk.symm
 .--mapEntry
  split at hk
  .rename_i hu;split at hk
   .rename_i hm;obtain⟨rfl,rfl⟩:=ad hk;exact(B7 hop hu hm hI (fun z hz=>hρ _ z hz) (fun z hz=>hρ _ z hz) h).kJ
   .exact fU hk.symm
  .exact fU hk.symm
 .--entryStore
  split at hk
  .split at hk
   .obtain ⟨rfl,rfl⟩:=ad hk;exact(yN hop hI (fun z hz=>hρ _ z hz) (fun z hz=>hρ _ z hz) (fun z hz=>hρ _ z hz) h).kJ
   .exact fU hk.symm
  .exact fU hk.symm
 .--call
  rename_i c;split at hk
  .rename_i hcal;exact(yY hop hcal hk hI hE hn0 h).kJ
  .rename_i f hcal;split at hk
   .split at hk
    .rename_i hf;obtain⟨rfl,rfl⟩:=ad hk
     have:∃p q,c.args.toList=[p,q]:=by
      generalize c.args.toList=l at h
      match l,h with|[p,q],_=>exact⟨p,q,rfl⟩|[],h=>simp[cA]at h|[p],h=>simp[cA]at h|p::q::r::t,h=>simp[cA]at h
     obtain⟨p,q,hpq⟩:=this;rw[hpq]at h;exact(Nq hop hcal (oG hpq) hf rfl hI (fun z hz=>hρ p z hz) (fun z hz=>hρ q z hz) h).kJ
    .exact fU hk.symm
   .obtain ⟨rfl,rfl⟩:=ad hk;exact Fs hop hcal hok hI hfr hρ h
  .rename_i hcal;obtain⟨rfl,rfl⟩:=ad hk;exact Fs hop hcal hok hI hfr hρ h
  .exact fU hk.symm
 .exact fU hk.symm
end
def f_(P:Program)(db:Aa)(nt:Nat)(all:Array Oper)(o:Oper):m9:=
 {dst:=o.dst
  k:=if(match o.dst with|some d=>decide (d<nt)|none=>true)then(v8 P db o.op).1 else .fU
  args:=(v8 P db o.op).2
  guard:=match o.guard with|none=>none|some (j,b)=>some (((all[j]?).bind (·.dst)).getD 1000000000,b)}
def rf:C:=.nW 0 []
def RG(S:Nat->Prop)(w:World)(Kn:Nat->Prop)(φ:Nat->gr)(c:C)(v:Value):Prop:=c=rf\/RC S w Kn φ c v
theorem RG.mono{S S':Nat->Prop}{w w':World}{Kn Kn':Nat->Prop}{φ φ':Nat->gr}(hs:gF S w S' w')(hr:sH Kn φ Kn' φ'){x:C}{v:Value}(h:RG S w Kn φ x v):RG S' w' Kn' φ' x v:=h.imp id fun h=>h.mono hs hr
structure E6(S K:Nat->Prop)(w0:World)(Kn:Nat->Prop)(φ:Nat->gr)(gv:List Value)(nt:Nat)(s:St)(a:Act)(w:World):Prop where
 inv:Inv S K w0 Kn φ (az s.heap) w
 dm:jp.ok S w Kn φ s.dm a.tmps
 size:a.tmps.size=nt
 defers:a.defers=[]
 gp:∀j,s.next<=j->¬Kn j
 gh:∀(i:Nat)(c:C)(v:Value),s.gh[i]?=some c->gv[i]?=some v->RG S w Kn φ c v
section
variable{P:Program}{S K:Nat->Prop}{w0 w:World}{Kn:Nat->Prop}{φ:Nat->gr}{gv:List Value}{nt:Nat}{a:Act}{call:Call}{db:Aa}{s s':St}
theorem Lg{a:Act}{d:Nat}{v:Value}(h:d<a.tmps.size)(t:Nat):(a.put (some d) v).tmps.getD t undef=if t=d then v else a.tmps.getD t undef:=by
 simp only[Act.put,bz,j8];by_cases e:d=t
 .subst e;simp[h]
 .have e2:¬t=d:=fun h=>e h.symm;simp[e,e2]
theorem ud{a:Act}(d:Option Nat)(v:Value):(a.put d v).tmps.size=a.tmps.size:=by cases d<;>simp[Act.put]
theorem qH{a:Act}(d:Option Nat)(v:Value):(a.put d v).defers=a.defers:=by cases d<;>simp[Act.put]
theorem kU(e:jp)(d:Option Nat)(v:TV)(t:Nat):cg (put e d v) t=if d=some t then some v else cg e t:=by
 cases d with
 |none=>simp[put]
 |some d=>
  simp only[put,cg];by_cases h:d=t
  .simp [h]
  .have h':(d==t)=false:=by simpa using h
   simp[h,h']
theorem xX(e:jp)(d:Option Nat)(t:Nat):cg (drop e d) t=if d=some t then some (.iz [])else cg e t:=kU e d (.iz []) t
theorem jp.It{e:jp}{S':Nat->Prop}{w':World}{Kn':Nat->Prop}{φ':Nat->gr}(hE:jp.ok S w Kn φ e a.tmps)(hs:gF S w S' w')(hr:sH Kn φ Kn' φ'){d:Option Nat}{v:TV}{val:Value}
  (hd:∀x,d=some x->x<a.tmps.size) (hv:fR S' w' Kn' φ' v val):jp.ok S' w' Kn' φ' (Ev.put e d v) (a.put d val).tmps:=by
 intro t x hx;rw[kU]at hx;cases d with
 |none=>simp only[reduceCtorEq,if_false]at hx;exact(hE t x hx).mono hs hr
 |some d=>
  rw[Lg (hd d rfl)];by_cases h:t=d
  .subst h;simp only[if_true]at hx;rw[if_pos rfl,<-aa hx];exact hv
  .have h2:¬(some d=some t):=fun e=>h (aa e).symm;rw[if_neg h2]at hx;rw[if_neg h];exact(hE t x hx).mono hs hr
theorem jp.FO{e:jp}(hE:jp.ok S w Kn φ e a.tmps){d:Option Nat}:jp.ok S w Kn φ (Ev.drop e d) (a.put d undef).tmps:=by
 intro t x hx;rw[xX]at hx;have hu:fR S w Kn φ (.iz []) undef:=.iz rfl fun i x hi=>by simp at hi
 split at hx
 .rename_i h;subst h;obtain rfl:=aa hx;have:(a.put (some t) undef).tmps.getD t undef=undef:=by simp only[Act.put,bz,j8,if_true];split<;>rfl
  rw[this];exact hu
 .rename_i h;have:=hE t x hx;cases d with|none=>exact this|some d=>have h2:¬d=t:=fun e=>h (by rw[e]);simp only[Act.put,bz,j8,if_neg h2];rw[bz]at this;exact this
theorem pm{e:jp}(hE:jp.ok S w Kn φ e a.tmps)(hsz:a.tmps.size<1000000000){all:Array Oper}{o:Oper}{b:Bool}(h:jX e (f_ P db nt all o).guard=some b):
  Region.wanted o (yielded all a.tmps)=b:=by
 unfold f_ at h;simp only at h;unfold Region.wanted;cases hg:o.guard with
 |none=>rw[hg]at h;simpa[jX]using h
 |some p=>
  obtain⟨j,want⟩:=p;rw[hg]at h;simp only[jX]at h;split at h
  .rename_i x hx;have hr:=hE _ _ hx;obtain⟨hv,_⟩:=hr.lit;cases hd:(all[j]?).bind (·.dst)with
   |none=>rw[hd]at hv;simp only[Option.getD_none]at hv;rw[bz,Array.getElem?_eq_none (by omega)]at hv;simp[undef]at hv
   |some t=>
    rw[hd]at hv;simp only[fx]at hv
    have ht:a.tmps[t]?=some (.bool x):=by
     rw[bz]at hv;cases ht:a.tmps[t]?with
     |none=>rw[ht]at hv;simp[undef]at hv
     |some y=>rw[ht]at hv;simpa using hv
    obtain rfl:=aa h;simp only[yielded,hd,ae,ht];cases x<;>cases want<;>rfl
  .rename_i hx;have hr:=hE _ _ hx;obtain rfl:=aa h;cases hd:(all[j]?).bind (·.dst)with
   |none=>simp only[yielded,hd,Option.bind_none];rfl
   |some t=>
    rw[hd]at hr;simp only[fx]at hr;generalize hv:a.tmps.getD t undef=v at hr;cases hr with
    |@iz _ aM hlen _=>
     rw[bz]at hv;simp only[yielded,hd,ae];cases ht:a.tmps[t]?with
     |none=>rfl
     |some y=>rw[ht]at hv;simp only[fx]at hv;subst hv;rfl
  .simp at h
end
section
variable{H H':bE}
def gP(H H':bE)(aw:List Nat):Prop:=∀i∈aw,az H' i=az H i
theorem gP.left{a b:List Nat}(h:gP H H' (a++b)):gP H H' a:=fun i hi=>h i (aC _ hi)
theorem gP.right{a b:List Nat}(h:gP H H' (a++b)):gP H H' b:=fun i hi=>h i (aG _ hi)
theorem tg:∀n,(∀c x aw,dH H n c=some (x,aw)->gP H H' aw->dH H' n c=some (x,aw))/\
  (∀cs xs aw,fI H n cs=some (xs,aw)->gP H H' aw->fI H' n cs=some (xs,aw)):=by
 have leaf:∀n c x aw,(match c with|.op _ _|.nW _ _=>False|_=>True)->dH H n c=some (x,aw)->gP H H' aw->dH H' n c=some (x,aw):=by
  intro n c x aw hl h ha;cases c with
  |d y=>simpa only[dH]using h
  |eZ sz id off len=>
   have:az H' id=az H id:=ha id (by
    simp only[dH]at h;split at h
    all_goals first
     |(split at h
       .obtain ⟨_,rfl⟩:=ad (aa h);simp
       .simp at h)
     |(split at h
       .split at h
        .obtain ⟨_,rfl⟩:=ad (aa h);simp
        .simp at h
       .simp at h)
     |simp at h)
   simp only[dH]at h|-;rw[this];exact h
  |ep id cY off=>
   have:az H' id=az H id:=ha id (by
    simp only[dH]at h;split at h
    all_goals first
     |(split at h
       .split at h
        .obtain ⟨_,rfl⟩:=ad (aa h);simp
        .simp at h
       .simp at h)
     |simp at h)
   simp only[dH]at h|-;rw[this];exact h
  |op id off=>exact hl.elim
  |nW f caps=>exact hl.elim
  |om id=>cases n<;>simp[dH]at h
 intro n;induction n with
 |zero=>
  refine⟨fun c x aw h ha=>?_,fun cs xs aw h ha=>?_⟩
  .cases c with|op id off=>simp[dH]at h|nW f caps=>simp[dH]at h|_=>exact leaf 0 _ x aw trivial h ha
  .cases cs with|nil=>simpa only[fI]using h|cons c cs=>simp[fI]at h
 |succ n ih=>
  refine⟨fun c x aw h ha=>?_,fun cs xs aw h ha=>?_⟩
  .cases c with
   |op id off=>
    simp only[dH]at h|-;split at h
    .rename_i ho;split at h
     .rename_i hle;obtain⟨rfl,rfl⟩:=ad (aa h);rw[ha id (by simp),ho];simp only[hle,if_true]
     .simp at h
    .rename_i ho;split at h
     .rename_i hv;split at h
      .rename_i hle;obtain⟨rfl,rfl⟩:=ad (aa h);rw[ha id (by simp),ho];simp only[ih.2 _ _ _ hv (fun i hi=>ha i (by simp[hi])),hle,if_true]
      .simp at h
     .simp at h
    .simp at h
   |nW f caps=>
    simp only[dH]at h|-;split at h
    .rename_i hv;obtain⟨rfl,rfl⟩:=ad (aa h);simp only[ih.2 _ _ _ hv ha]
    .simp at h
   |_=>exact leaf _ _ x aw trivial h ha
  .cases cs with
   |nil=>simpa only[fI]using h
   |cons c cs=>
    simp only[fI]at h|-;split at h
    .rename_i h1 h2;obtain⟨rfl,rfl⟩:=ad (aa h);simp only[ih.1 _ _ _ h1 ha.left,ih.2 _ _ _ h2 ha.right]
    .simp at h
theorem qw:∀cs xs aw,dC H cs=some (xs,aw)->gP H H' aw->dC H' cs=some (xs,aw):=by
 intro cs;induction cs with
 |nil=>intro xs aw h _;simpa only[dC]using h
 |cons c cs ih=>
  intro xs aw h ha;simp only[dC]at h|-;split at h
  .rename_i h1 h2;obtain⟨rfl,rfl⟩:=ad (aa h);simp only[(tg 300).1 _ _ _ h1 ha.left,ih _ _ h2 ha.right]
  .simp at h
theorem qU{all:List Nat}(ha:gP H H' all):∀(l:List Nat)(u:fm),(∀i∈l,i∈all)->dK H all l=some u->dK H' all l=some u:=by
 intro l;induction l with
 |nil=>intro u _ h;simpa only[dK]using h
 |cons a l ih=>
  intro u hl h;simp only[dK]at h|-;split at h
  .rename_i o u' ho hu
   have hob:jH H' all a=some o:=by
    unfold jH at ho|-;rw[ha a (hl a (by simp))];split at ho
    .exact ho
    .exact ho
    .exact ho
    .split at ho
     .rename_i hv;split at ho
      .rename_i hall;simp only[(tg 300).2 _ _ _ hv (fun i hi=>ha i (by simpa using bd.1 hall i hi)),hall,if_true];exact ho
      .simp at ho
     .simp at ho
    .simp at ho
    .simp at ho
    .exact ho
    .simp at ho
   simp only[hob,ih u' (fun i hi=>hl i (by simp[hi])) hu];exact h
  .simp at h
theorem xI{agg:Bool}{n:Nat}{p:C}{v:TV}{aw:List Nat}(h:gL agg n p H=some (v,aw))(ha:gP H H' aw):gL agg n p H'=some (v,aw):=by
 unfold gL at h|-;split at h
 .exact h
 .rename_i id cY off
  have:az H' id=az H id:=ha id (by
   split at h
   all_goals first
    |(split at h
      .split at h
       .obtain ⟨_,rfl⟩:=ad (aa h);simp
       .simp at h
      .simp at h)
    |simp at h)
  simp only[this];exact h
 .rename_i id off
  have:az H' id=az H id:=ha id (by
   split at h
   all_goals first
    |(split at h
      .obtain ⟨_,rfl⟩:=ad (aa h);simp
      .simp at h)
    |simp at h)
  simp only[this];exact h
 .simp at h
theorem DS{id cY sz:Nat}{slots:List kx}{cs:List C}{u:fm}{aw:List Nat}(h:qW id cY sz slots cs H=some (u,aw))(ha:gP H H' aw):qW id cY sz slots cs H'=some (u,aw):=by
 unfold qW at h|-;split at h
 .exact h
 .rename_i sz' id2 len
  have hid:id2∈aw:=by
   repeat' split at h
   all_goals first
    |(simp at h;done)
    |(obtain⟨_,h2⟩:=ad (aa h);rw[<-h2];simp)
  simp only[ha id2 hid];exact h
 .simp at h
theorem Cl{agg:Bool}{n nxt n':Nat}{p:C}{v:TV}{u:fm}{aw:List Nat}(h:kV agg n p H nxt=some (v,u,aw,n'))(ha:gP H H' aw):gL agg n p H'=none/\kV agg n p H' nxt=some (v,u,aw,n'):=by
 unfold kV at h;split at h
 case h_2=>simp at h
 rename_i id cY;split at h
 case h_2=>simp at h
 rename_i sz slots ho
 have hid:id∈aw:=by
  repeat' split at h
  all_goals first
   |(simp at h;done)
   |(obtain⟨_,_,h2,_⟩:=(by simpa using h:_/\_/\[id]=aw/\_);rw[<-h2];simp)
 have ho':az H' id=some (.nst sz slots):=by rw[ha id hid];exact ho
 refine⟨by simp only[gL,ho'],?_⟩;simp only[kV,ho'];exact h
theorem Bs{n:Nat}{p:C}{v:TV}{u:fm}{aw:List Nat}(h:ly n p v H=some (u,aw))(ha:gP H H' aw):ly n p v H'=some (u,aw):=by
 unfold ly at h|-;split at h
 .simp at h
 .rename_i cs hcs;split at h
  .rename_i hlen;simp only[hlen,if_true];split at h
   .rename_i id cY off;split at h
    .rename_i sz am ho;split at h
     .rename_i r ds ids1 hr hv;split at h
      .rename_i u1 hfz;split at h
       .rename_i hb;obtain⟨rfl,rfl⟩:=ad (aa h);have ha1:gP H H' ids1:=fun i hi=>ha i (by simp[hi]);simp only[ha id (by simp),ho,hr,qw _ _ _ hv ha1,qU ha1 _ _ (fun i hi=>hi) hfz,hb.1,hb.2,and_self,if_true]
       .simp at h
      .simp at h
     .simp at h
    .rename_i sz slots ho;split at h
     .rename_i hc
      have hid:id∈aw/\∀i,cs=[.eZ sz i 0 0]->True:=by
       refine⟨?_,fun _ _=>trivial⟩;unfold qW at h
       repeat' split at h
       all_goals first
        |(simp at h;done)
        |(obtain⟨_,h2⟩:=ad (aa h);rw[<-h2];simp)
      simp only[ha id hid.1,ho,if_pos hc];exact DS h ha
     .simp at h
    .simp at h
   .rename_i id off;split at h
    .rename_i cells ho;split at h
     .rename_i hb;obtain⟨rfl,rfl⟩:=ad (aa h);simp only[ha id (by simp),ho,hb,if_true]
     .simp at h
    .simp at h
   .simp at h
  .simp at h
theorem oc{sz:Nat}{x:C}{new:List (List D)}{aw:List Nat}(h:iO sz H x=some (new,aw))(ha:gP H H' aw):iO sz H' x=some (new,aw):=by
 unfold iO at h|-;split at h
 .exact h
 .exact h
 .rename_i sz' id off len
  have:az H' id=az H id:=ha id (by
   split at h
   all_goals first
    |(split at h
      .obtain ⟨_,rfl⟩:=ad (aa h);simp
      .simp at h)
    |simp at h)
  simp only[this];exact h
 .simp at h
theorem EO{sz:Nat}{d x:C}{i:Int}{u:fm}{aw:List Nat}(h:lF sz d x H=some (i,u,aw))(ha:gP H H' aw):lF sz d x H'=some (i,u,aw):=by
 unfold lF at h|-;split at h
 .rename_i new ids1 hr;obtain⟨_,_,rfl⟩:_/\_/\ids1=aw:=by simpa using h
  rw[oc hr ha];exact h
 .rename_i new ids1 sz' id off len hr;split at h
  .rename_i szo am ho;split at h
   .rename_i hb;obtain⟨_,_,rfl⟩:_/\_/\id::ids1=aw:=by simpa using h
    rw[oc hr fun j hj=>ha j (aB _ hj)];simp only[ha id (by simp),ho,if_pos hb];exact h
   .simp at h
  .simp at h
 .simp at h
theorem CT{sz:Nat}{d x:C}{i:Int}{u:fm}{aw:List Nat}(h:ol sz d x H=some (i,u,aw))(ha:gP H H' aw):ol sz d x H'=some (i,u,aw)/\lF sz d x H'=none:=by
 unfold ol at h|-;split at h
 case h_2=>simp at h
 rename_i sz' id off len sz2 id2 off2 len2
 have hids:aw=[id,id2]:=by
  repeat' split at h
  all_goals first
   |(simp at h;done)
   |(obtain⟨_,_,h2⟩:=(by simpa using h:_/\_/\[id,id2]=aw);exact h2.symm)
 subst hids;have a1:=ha id (by simp);have a2:=ha id2 (by simp);refine⟨by simp only[a1,a2];exact h,?_⟩
 have:∃szo am cp,az H' id=some (.cap szo am cp):=by
  rw[a1];split at h
  .exact ⟨_,_,_,by assumption⟩
  .exact ⟨_,_,_,by assumption⟩
  .simp at h
 obtain⟨szo,am,cp,ho⟩:=this;unfold lF;split
 .rename_i hd;simp at hd
 .rename_i hd;obtain⟨rfl,rfl,rfl,rfl⟩:=(by simpa using hd:_/\_/\_/\_)
  rw[ho]
 .rfl
theorem A3{sz nxt n':Nat}{s x:C}{v:TV}{u:fm}{aw:List Nat}(h:nA sz s x H nxt=some (v,u,aw,n'))(ha:gP H H' aw):nA sz s x H' nxt=some (v,u,aw,n'):=by
 unfold nA at h|-;split at h
 .simp at h
 .rename_i new ids1 hr;split at h
  .have e1:ids1=aw:=by
    split at h
    .split at h
     .obtain ⟨_,_,h3,_⟩:=(by simpa using h:_/\_/\ids1=aw/\_);exact h3
     .obtain ⟨_,_,h3,_⟩:=(by simpa using h:_/\_/\ids1=aw/\_);exact h3
    .simp at h
   subst e1;simp only[oc hr ha];exact h
  .rename_i sz' id off len;split at h
   .rename_i szo am ho;split at h
    .rename_i hb;have e1:id::ids1=aw:=by obtain⟨_,_,h3,_⟩:=(by simpa using h:_/\_/\id::ids1=aw/\_);exact h3
     subst e1;simp only[oc hr (fun i hi=>ha i (by simp[hi])),ha id (by simp),ho];rw[if_pos hb];exact h
    .simp at h
   .simp at h
  .simp at h
theorem DZ:∀n,(∀c t bv rd,ez H n c=some (t,bv,rd)->gP H H' rd->ez H' n c=some (t,bv,rd))/\
  (∀cs ts bv rd,ic H n cs=some (ts,bv,rd)->gP H H' rd->ic H' n cs=some (ts,bv,rd)):=by
 have leaf:∀n c t bv rd,(match c with|.op _ _=>False|_=>True)->ez H n c=some (t,bv,rd)->gP H H' rd->ez H' n c=some (t,bv,rd):=by
  intro n c t bv rd hl h ha;cases c with
  |d y=>cases n<;>simpa only[ez]using h
  |eZ sz id off len=>
   have hm:id∈rd:=by
    cases n<;>
    .simp only[ez]at h;split at h
     all_goals first
      |(split at h
        .split at h
         .obtain ⟨_,_,h3⟩:=(by simpa using h:_/\_/\[id]=rd);rw[<-h3];simp
         .simp at h
        .simp at h)
      |(split at h
        .obtain ⟨_,_,h3⟩:=(by simpa using h:_/\_/\[id]=rd);rw[<-h3];simp
        .simp at h)
      |simp at h
   have:az H' id=az H id:=ha id hm;cases n<;>
   .simp only[ez]at h|-;rw[this];exact h
  |ep id cY off=>cases n<;>simp[ez]at h
  |nW f caps=>cases n<;>simp[ez]at h
  |om id=>cases n<;>simp[ez]at h
  |op id off=>exact hl.elim
 intro n;induction n with
 |zero=>
  refine⟨fun c t bv rd h ha=>?_,fun cs ts bv rd h ha=>?_⟩
  .cases c with|op id off=>simp[ez]at h|_=>exact leaf 0 _ t bv rd trivial h ha
  .cases cs with|nil=>simpa only[ic]using h|cons c cs=>simp[ic]at h
 |succ n ih=>
  refine⟨fun c t bv rd h ha=>?_,fun cs ts bv rd h ha=>?_⟩
  .cases c with
   |op id off=>
    cases off with
    |succ off=>simp[ez]at h
    |zero=>
     simp only[ez]at h|-;split at h
     .rename_i ho;split at h
      .rename_i ts own' rd' hp;obtain⟨h1,h2,h3⟩:=(by simpa using h:T.pt ts=t/\id::own'=bv/\id::rd'=rd)
       subst h1 h2 h3;rw[ha id (by simp),ho];simp only[ih.2 _ _ _ _ hp (fun i hi=>ha i (by simp[hi]))]
      .simp at h
     .rename_i cells ho;obtain⟨h1,h2,h3⟩:=(by simpa using h:T.d (.pt cells)=t/\[]=bv/\[id]=rd)
      subst h1 h2 h3;rw[ha id (by simp),ho]
     .simp at h
   |_=>exact leaf _ _ t bv rd trivial h ha
  .cases cs with
   |nil=>simpa only[ic]using h
   |cons c cs=>
    simp only[ic]at h|-;split at h
    .rename_i t0 a i0 ts0 b j0 h1 h2;obtain⟨e1,e2,e3⟩:=(by simpa using h:t0::ts0=ts/\a++b=bv/\i0++j0=rd)
     subst e1 e2 e3;simp only[ih.1 _ _ _ _ h1 ha.left,ih.2 _ _ _ _ h2 ha.right]
    .simp at h
theorem yq:∀(tvs:List TV)(ms:List Bool)(as:List A)(aw:List Nat)(lent:List (C×List Nat×List Nat)),fZ H tvs ms=some (as,aw,lent)->gP H H' aw->gP H H' (lent.flatMap (·.2.2))->
  fZ H' tvs ms=some (as,aw,lent):=by
 intro tvs;induction tvs with
 |nil=>intro ms as aw lent h _ _;simpa only[fZ]using h
 |cons t tvs ih=>
  intro ms as aw lent h ha hb;simp only[fZ]at h|-;split at h
  .simp at h
  .rename_i as1 ids1 lent1 hrec;split at h
   .rename_i hm;split at h
    .split at h
     .rename_i t0 bv rd hp;obtain⟨e1,e2,e3⟩:=(by simpa using h:A.mt t0::as1=as/\ids1=aw/\(_,bv,rd)::lent1=lent)
      subst e1 e2 e3;simp only[bl]at hb;simp only[ih _ _ _ _ hrec ha hb.right,hm,if_true,(DZ 300).1 _ _ _ _ hp hb.left]
     .simp at h
    .simp at h
   .rename_i hm;split at h
    .split at h
     .rename_i x i hv;obtain⟨e1,e2,e3⟩:=(by simpa using h:A.d x::as1=as/\i++ids1=aw/\lent1=lent)
      subst e1 e2 e3;simp only[ih _ _ _ _ hrec ha.right hb,hm,if_false,aR,(tg 300).1 _ _ _ hv ha.left]
     .simp at h
    .split at h
     .rename_i xs i hv;obtain⟨e1,e2,e3⟩:=(by simpa using h:A.agg xs::as1=as/\i++ids1=aw/\lent1=lent)
      subst e1 e2 e3;simp only[ih _ _ _ _ hrec ha.right hb,hm,if_false,aR,qw _ _ _ hv ha.left]
     .simp at h
    .simp at h
theorem LF:∀(tvs:List TV)(ms:List Bool)(as:List A)(aw:List Nat)(lent:List (C×List Nat×List Nat)),fZ H tvs ms=some (as,aw,lent)->
  ∀c bv rd,(c,bv,rd)∈lent->∃t,ez H 300 c=some (t,bv,rd):=by
 intro tvs;induction tvs with
 |nil=>
  intro ms as aw lent h c bv rd hm;obtain⟨_,_,rfl⟩:[]=as/\[]=aw/\[]=lent:=by simpa[fZ]using h
  simp at hm
 |cons t tvs ih=>
  intro ms as aw lent h c bv rd hm;simp only[fZ]at h;split at h
  .simp at h
  .rename_i as1 ids1 lent1 hrec;split at h
   .split at h
    .split at h
     .rename_i c0 _ t0 own0 rd0 hp;obtain⟨_,_,e3⟩:=(by simpa using h:A.mt t0::as1=as/\ids1=aw/\(_,own0,rd0)::lent1=lent)
      subst e3;rcases aK.1 hm with hm|hm
      .simp only[cQ]at hm;obtain⟨g1,g2,g3⟩:=hm;rw[g1,g2,g3];exact⟨_,hp⟩
      .exact ih _ _ _ _ hrec c bv rd hm
     .simp at h
    .simp at h
   .split at h
    .split at h
     .obtain ⟨_,_,e3⟩:=(by simpa using h:_/\_/\lent1=lent)
      subst e3;exact ih _ _ _ _ hrec c bv rd hm
     .simp at h
    .split at h
     .obtain ⟨_,_,e3⟩:=(by simpa using h:_/\_/\lent1=lent)
      subst e3;exact ih _ _ _ _ hrec c bv rd hm
     .simp at h
    .simp at h
theorem Bh:∀(l:List (C×List Nat×List Nat)),(∀c bv rd,(c,bv,rd)∈l->∃t,ez H 300 c=some (t,bv,rd))->gP H H' (l.flatMap (·.2.2))->eF H' l=eF H l:=by
 intro l;induction l with
 |nil=>intro _ _;rfl
 |cons p l ih=>
  obtain⟨c,bv,rd⟩:=p;intro hp ha;simp only[bl]at ha;have h1:=ih (fun c bv rd hm=>hp c bv rd (by simp[hm])) ha.right;cases c with
  |eZ sz id off len=>
   obtain⟨t,ht⟩:=hp (.eZ sz id off len) bv rd (by simp)
   have hm:id∈rd:=by
    simp only[ez]at ht;split at ht
    all_goals first
     |(split at ht
       .split at ht
        .obtain ⟨_,_,h3⟩:=(by simpa using ht:_/\_/\[id]=rd);rw[<-h3];simp
        .simp at ht
       .simp at ht)
     |(split at ht
       .obtain ⟨_,_,h3⟩:=(by simpa using ht:_/\_/\[id]=rd);rw[<-h3];simp
       .simp at ht)
     |simp at ht
   simp only[eF,h1,ha.left id hm]
  |_=>simp only[eF,h1]
theorem EZ{call:Call}{ro:Bool}{jL:List Bool}{f:Option TV}{vs:List (Option TV)}{nxt n':Nat}{v:TV}{u:fm}{aw:List Nat}(h:tP call ro jL f vs H nxt=some (v,u,aw,n'))(ha:gP H H' aw):
  tP call ro jL f vs H' nxt=some (v,u,aw,n'):=by
 unfold tP at h|-;split at h
 .rename_i f caps vs hf hvs;split at h
  .simp at h
  .rename_i as ids1 lent hargs;split at h
   .rename_i hcond;split at h
    .simp at h
    .rename_i rs outs hcall;by_cases hro:ro=true
     .rw [if_pos hro]at h;split at h
      .rename_i hc;have hle:lent=[]:=by simpa using hc.2.1
       subst hle;have e1:ids1=aw:=by obtain⟨_,_,h3,_⟩:=(by simpa using h:_/\_/\ids1=aw/\_);exact h3
       subst e1;simp only[yq _ _ _ _ _ hargs ha (fun i hi=>by simp at hi)];rw[if_pos ⟨rfl,hcond.2⟩];simp only[hcall,hro,if_true];rw[if_pos hc];exact h
      .simp at h
     .rw [if_neg hro]at h;split at h
      .simp at h
      .rename_i fu hfz;split at h
       .simp at h
       .rename_i bu m hbk;have e1:ids1++lent.flatMap (·.2.2)=aw:=by obtain⟨_,_,h3,_⟩:=(by simpa using h:_/\_/\ids1++lent.flatMap (·.2.2)=aw/\_);exact h3
        subst e1;simp only[yq _ _ _ _ _ hargs ha.left ha.right];rw[if_pos (by rw[Bh lent (LF _ _ _ _ _ hargs) ha.right];exact hcond)];simp only[hcall];rw[if_neg hro];simp only[qU ha.left _ _ (fun i hi=>hi) hfz,hbk];exact h
   .simp at h
 .simp at h
theorem vJ{call:Call}{sz len:Nat}{zero:List Value}{places:List Nat}{vs:List (Option TV)}{nxt n':Nat}{v:TV}{u:fm}{aw:List Nat}
  (h:cA call (.buildSlice sz len zero places) vs H nxt=some (v,u,aw,n')) (ha:gP H H' aw):cA call (.buildSlice sz len zero places) vs H' nxt=some (v,u,aw,n'):=by
 have key:∀G:bE,cA call (.buildSlice sz len zero places) vs G nxt=(match er vs with
  |some xs=>
   (match me (e9 zero) ((places.map fun i=>(i*sz,sz)).zip xs)with
   |some cs=>
    (match dC G cs with
    |some (ds,aw)=>(match dK G aw aw with|some u=>some (TV.c (.eZ sz nxt 0 len),(nxt,some (Ob.aM sz (lG sz len ds)))::u,aw,nxt+1)|none=>none)
    |none=>none)
   |none=>none)
  |none=>none):=fun _=>rfl
 rw[key]at h|-;split at h
 .rename_i xs hxs;split at h
  .rename_i cs hcs;split at h
   .rename_i ds ids1 hv;split at h
    .rename_i u1 hfz;obtain⟨_,_,h3,_⟩:=(by simpa using h:_/\_/\ids1=aw/\_)
     subst h3;simp only[qw _ _ _ hv ha,qU ha _ _ (fun i hi=>hi) hfz];exact h
    .simp at h
   .simp at h
  .simp at h
 .simp at h
theorem AB{ka va ok:Bool}{ks:List Kd}{z:List Value}{m:C}{k v:TV}{aw:List Nat}(h:gY ka ks va z ok m k H=some (v,aw))(ha:gP H H' aw):gY ka ks va z ok m k H'=some (v,aw):=by
 unfold gY at h|-;split at h
 .exact h
 .rename_i id key hkey
  have hid:id∈aw:=by
   repeat' split at h
   all_goals first
    |(simp at h;done)
    |(obtain⟨_,h2⟩:=ad (aa h);rw[<-h2];simp)
  simp only[ha id hid];exact h
 .simp at h
theorem CI{ka va:Bool}{ks:List Kd}{z:List Value}{m:C}{k v:TV}{u:fm}{aw:List Nat}(h:mh ka ks va z m k H=some (v,u,aw))(ha:gP H H' aw):mh ka ks va z m k H'=some (v,u,aw):=by
 unfold mh at h|-;split at h
 .rename_i id key hkey
  have hid:id∈aw:=by
   repeat' split at h
   all_goals first
    |(simp at h;done)
    |(obtain⟨_,_,h2⟩:=(by simpa using h:_/\_/\[id]=aw);rw[<-h2];simp)
  simp only[ha id hid];exact h
 .simp at h
theorem AS{va:Bool}{n:Nat}{m:C}{s:Option TV}{x:TV}{u:fm}{aw:List Nat}(h:mi va n m s x H=some (u,aw))(ha:gP H H' aw):mi va n m s x H'=some (u,aw):=by
 unfold mi at h|-;split at h
 .rename_i id s1 ds eC hds
  have hid:id∈aw:=by
   repeat' split at h
   all_goals first
    |(simp at h;done)
    |(obtain⟨_,h2⟩:=(by simpa using h:_/\[id]=aw);rw[<-h2];simp)
  simp only[ha id hid];exact h
 .simp at h
theorem xm{str:Bool}{sz:Nat}{x y:C}{l m:Int}{aw:List Nat}(h:mV str sz x l m H=some (y,aw))(ha:gP H H' aw):mV str sz x l m H'=some (y,aw):=by
 unfold mV at h|-;split at h
 .rename_i sz' id off len
  have hid:id∈aw:=by
   repeat' split at h
   all_goals first
    |(simp at h;done)
    |(obtain⟨_,h2⟩:=(by simpa using h:_/\[id]=aw);rw[<-h2];simp)
  simp only[ha id hid];exact h
 .simp at h
theorem CV{z:List Value}{x:C}{u:fm}{aw:List Nat}(h:oq z x H=some (u,aw))(ha:gP H H' aw):oq z x H'=some (u,aw):=by
 unfold oq at h|-;split at h
 .rename_i sz id off len
  have hid:id∈aw:=by
   repeat' split at h
   all_goals first
    |(simp at h;done)
    |(obtain⟨_,h2⟩:=(by simpa using h:_/\[id]=aw);rw[<-h2];simp)
  simp only[ha id hid];exact h
 .simp at h
def E8:Ev.K->Bool
 |.sS|.slice _ _ _ _|.clear _|.Kh|.PE _|.O2|.load _ _|.store _|.buildSlice _ _ _ _|.append _|.copy _|.call _ _|.lookup _ _ _ _ _|.mapEntry _ _ _ _|.entryStore _ _=>true
 |_=>false
theorem Hi{call:Call}{k:Ev.K}{vs:List (Option TV)}{nxt:Nat}(hk:E8 k=false):cA call k vs H nxt=cA call k vs H' nxt:=by
 cases k<;>first
  |(simp[E8]at hk;done)
  |(unfold cA;split<;>first|rfl|simp_all)
theorem Hj{call:Call}{k:Ev.K}{vs:List (Option TV)}{nxt n':Nat}{v:TV}{u:fm}{aw:List Nat}(h:cA call k vs H nxt=some (v,u,aw,n'))(ha:gP H H' aw):
  cA call k vs H' nxt=some (v,u,aw,n'):=by
 cases k with
 |load agg n=>
  match vs,h with
  |[some (.c p)],h=>
   change (match gL agg n p H with|some (v,aw)=>some (v,[],aw,nxt)|none=>none)=_ at h;show(match gL agg n p H' with|some (v,aw)=>some (v,[],aw,nxt)|none=>none)=_;split at h
   .rename_i hl;obtain⟨_,_,h3,_⟩:=(by simpa using h:_/\_/\_=aw/\_)
    subst h3;rw[xI hl ha];exact h
   .simp at h
 |sS=>
  match vs,h with
  |[some (.c p)],h=>
   change (match gL false 1 p H with|some (v,aw)=>some (v,[],aw,nxt)|none=>kV false 1 p H nxt)=_ at h;show(match gL false 1 p H' with|some (v,aw)=>some (v,[],aw,nxt)|none=>kV false 1 p H' nxt)=_;split at h
   .rename_i hl;obtain⟨_,_,h3,_⟩:=(by simpa using h:_/\_/\_=aw/\_)
    subst h3;rw[xI hl ha];exact h
   .obtain ⟨h1,h2⟩:=Cl h ha;rw[h1];exact h2
 |store n=>
  match vs,h with
  |[some (.c p),some x],h=>
   change (match ly n p x H with|some (u,aw)=>some (TV.iz [],u,aw,nxt)|none=>none)=_ at h;show(match ly n p x H' with|some (u,aw)=>some (TV.iz [],u,aw,nxt)|none=>none)=_;split at h
   .rename_i hl;obtain⟨_,_,h3,_⟩:=(by simpa using h:_/\_/\_=aw/\_)
    subst h3;rw[Bs hl ha];exact h
   .simp at h
 |buildSlice sz len zero places=>exact vJ h ha
 |clear z=>
  match vs,h with
  |[some (.c d)],h=>
   change (match oq z d H with|some (u,aw)=>some (TV.iz [],u,aw,nxt)|none=>none)=_ at h;show(match oq z d H' with|some (u,aw)=>some (TV.iz [],u,aw,nxt)|none=>none)=_;split at h
   .rename_i hl;obtain⟨_,_,h3,_⟩:=(by simpa using h:_/\_/\_=aw/\_)
    subst h3;rw[CV hl ha];exact h
   .simp at h
 |slice str sz lo hi=>
  have dU:hi=false->cA call (.slice str sz lo hi) vs H nxt=cA call (.slice str sz lo hi) vs H' nxt:=by
   intro hlh
   cases lo<;>cases hi<;>first
    |(simp at hlh;done)
    |(match vs with
     |[]=>rfl
     |none::_=>rfl
     |some (.agg _)::_=>rfl
     |some (.iz _)::_=>rfl
     |some (.c _)::[]=>rfl
     |some (.c _)::_::[]=>rfl
     |some (.c _)::_::_::_=>rfl)
  cases hi with
  |false=>rw[<-dU rfl];exact h
  |true=>
   cases lo with
   |false=>
    match vs,h with
    |[some (.c x),m],h=>
     change (match cm m with
      |some m=>(match fF str sz x none (some m)with
       |some y=>some (TV.c y,([]:fm),([]:List Nat),nxt)
       |none=>(match mV str sz x 0 m H with|some (y,aw)=>some (TV.c y,([]:fm),aw,nxt)|none=>none))
      |none=>none)=_ at h
     show(match cm m with
      |some m=>(match fF str sz x none (some m)with
       |some y=>some (TV.c y,([]:fm),([]:List Nat),nxt)
       |none=>(match mV str sz x 0 m H' with|some (y,aw)=>some (TV.c y,([]:fm),aw,nxt)|none=>none))
      |none=>none)=_
     split at h
     .split at h
      .exact h
      .split at h
       .rename_i hl;obtain⟨_,_,h3,_⟩:=(by simpa using h:_/\_/\_=aw/\_)
        subst h3;rw[xm hl ha];exact h
       .simp at h
     .simp at h
   |true=>
    match vs,h with
    |[some (.c x),l,m],h=>
     change (match cm l,cm m with
      |some l,some m=>(match fF str sz x (some l) (some m)with
       |some y=>some (TV.c y,([]:fm),([]:List Nat),nxt)
       |none=>(match mV str sz x l m H with|some (y,aw)=>some (TV.c y,([]:fm),aw,nxt)|none=>none))
      |_,_=>none)=_ at h
     show(match cm l,cm m with
      |some l,some m=>(match fF str sz x (some l) (some m)with
       |some y=>some (TV.c y,([]:fm),([]:List Nat),nxt)
       |none=>(match mV str sz x l m H' with|some (y,aw)=>some (TV.c y,([]:fm),aw,nxt)|none=>none))
      |_,_=>none)=_
     split at h
     .split at h
      .exact h
      .split at h
       .rename_i hl;obtain⟨_,_,h3,_⟩:=(by simpa using h:_/\_/\_=aw/\_)
        subst h3;rw[xm hl ha];exact h
       .simp at h
     .simp at h
 |append sz=>match vs,h with|[some (.c s),some (.c x)],h=>exact A3 (s:=s) (x:=x) h ha
 |copy sz=>
  match vs,h with
  |[some (.c d),some (.c x)],h=>
   change (match lF sz d x H with|some (i,u,aw)=>some (lv (.int .i64 i),u,aw,nxt)|none=>(match ol sz d x H with|some (i,u,aw)=>some (lv (.int .i64 i),u,aw,nxt)|none=>none))=_ at h;show(match lF sz d x H' with|some (i,u,aw)=>some (lv (.int .i64 i),u,aw,nxt)|none=>(match ol sz d x H' with|some (i,u,aw)=>some (lv (.int .i64 i),u,aw,nxt)|none=>none))=_;split at h
   .rename_i hl;obtain⟨_,_,h3,_⟩:=(by simpa using h:_/\_/\_=aw/\_)
    subst h3;rw[EO hl ha];exact h
   .split at h
    .rename_i hl;obtain⟨_,_,h3,_⟩:=(by simpa using h:_/\_/\_=aw/\_)
     subst h3;obtain⟨e1,e2⟩:=CT hl ha;rw[e2,e1];exact h
    .simp at h
 |Kh=>
  match vs,h with
  |[some (.c x)],h=>
   change (match x8 x H with|some (n,aw)=>some (lv (.int .i64 n),([]:fm),aw,nxt)|none=>none)=_ at h;show(match x8 x H' with|some (n,aw)=>some (lv (.int .i64 n),([]:fm),aw,nxt)|none=>none)=_;split at h
   .rename_i m ids1 hl;obtain⟨_,_,h3,_⟩:=(by simpa using h:_/\_/\_=aw/\_)
    subst h3
    have:x8 x H'=some (m,ids1):=by
     unfold x8 at hl|-;split at hl
     .rename_i id off len
      have hid:id∈ids1:=by
       repeat' split at hl
       all_goals first
        |(simp at hl;done)
        |(obtain⟨_,h2⟩:=(by simpa using hl:_/\[id]=ids1);rw[<-h2];simp)
      simp only[ha id hid];exact hl
     .simp at hl
    rw[this];exact h
   .simp at h
 |O2=>
  match vs,h with
  |[some (.c x),some (.c y)],h=>
   change (match x7 x y H with|some aw=>some (lv (.bool false),([]:fm),aw,nxt)|none=>none)=_ at h;show(match x7 x y H' with|some aw=>some (lv (.bool false),([]:fm),aw,nxt)|none=>none)=_;split at h
   .rename_i ids1 hl;obtain⟨_,_,h3,_⟩:=(by simpa using h:_/\_/\_=aw/\_)
    subst h3
    have:x7 x y H'=some ids1:=by
     unfold x7 at hl|-;split at hl
     .rename_i a o1 l1 sz2 b o2 l2
      have hid:ids1=[a,b]:=by
       repeat' split at hl
       all_goals first
        |(simp at hl;done)
        |(exact(aa hl).symm)
      subst hid;simp only[ha a (by simp),ha b (by simp)];exact hl
     .simp at hl
    rw[this];exact h
   .simp at h
 |PE z=>
  match vs,h with
  |[some (.c x),some (.c (.d (.lit (.int k1 k))))],h=>
   change zR z x k H nxt=_ at h;show zR z x k H' nxt=_;unfold zR at h|-;split at h
   .rename_i sz' id off len
    have hid:id∈aw:=by
     repeat' split at h
     all_goals first
      |(simp at h;done)
      |(obtain⟨_,_,h2,_⟩:=(by simpa using h:_/\_/\[id]=aw/\_);rw[<-h2];simp)
    simp only[ha id hid];exact h
   .simp at h
 |call ro jL=>match vs,h with|f::vs,h=>exact EZ (f:=f) (vs:=vs) h ha
 |lookup ka ks va z ok=>
  match vs,h with
  |[some (.c m),some k],h=>
   change (match gY ka ks va z ok m k H with|some (v,aw)=>some (v,([]:fm),aw,nxt)|none=>none)=_ at h;show(match gY ka ks va z ok m k H' with|some (v,aw)=>some (v,([]:fm),aw,nxt)|none=>none)=_;split at h
   .rename_i hl;obtain⟨_,_,h3,_⟩:=(by simpa using h:_/\_/\_=aw/\_)
    subst h3;rw[AB hl ha];exact h
   .simp at h
 |mapEntry ka ks va z=>
  match vs,h with
  |[some (.c m),some k],h=>
   change (match mh ka ks va z m k H with|some (v,u,aw)=>some (v,u,aw,nxt)|none=>none)=_ at h;show(match mh ka ks va z m k H' with|some (v,u,aw)=>some (v,u,aw,nxt)|none=>none)=_;split at h
   .rename_i hl;obtain⟨_,_,h3,_⟩:=(by simpa using h:_/\_/\_=aw/\_)
    subst h3;rw[CI hl ha];exact h
   .simp at h
 |entryStore va n=>
  match vs,h with
  |[some (.c m),s,some x],h=>
   change (match mi va n m s x H with|some (u,aw)=>some (TV.iz [],u,aw,nxt)|none=>none)=_ at h;show(match mi va n m s x H' with|some (u,aw)=>some (TV.iz [],u,aw,nxt)|none=>none)=_;split at h
   .rename_i hl;obtain⟨_,_,h3,_⟩:=(by simpa using h:_/\_/\_=aw/\_)
    subst h3;rw[AS hl ha];exact h
   .simp at h
 |_=>rw[Hi (H:=H') (H':=H) rfl];exact h
end
end Go.Ev
