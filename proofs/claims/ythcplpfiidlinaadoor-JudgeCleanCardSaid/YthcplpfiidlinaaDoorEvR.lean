/- Calls: what a callee's answer means, and that a caller may use it. Conditions: the relation of XEvC. -/
import Derived.Test.YthcplpfiidlinaaDoorEvLa
open Array renaming getD_eq_getD_getElem?->bv,getElem?_setIfInBounds->ky,toArray_toList->lm
open Bool renaming and_eq_true->ai,false_eq_true->aS
open List renaming all_eq_true->bc,append_assoc->aJ,cons_append->aT,flatMap_cons->bi,getElem?_append_left->bM,getElem?_append_right->bP,getElem?_eq_getElem->av,getElem?_eq_some_iff->ak,getElem?_map->aG,length_map->aN,map_cons->aD,mem_append->ap,mem_append_left->aE,mem_append_right->aH,mem_cons->aM,mem_cons_of_mem->aC,mem_flatMap->cn,mem_flatten->dH,mem_map->b_,mem_of_getElem?->aW,mem_singleton->am,nodup_append->bV,nodup_cons->fR,singleton_append->aY
open List.cons renaming injEq->dJ
open Nat renaming le_refl->au,le_trans->e_,lt_of_lt_of_le->cg,mul_one->lj
open Option renaming bind_some->af,getD_some->fC,isSome_iff_exists->gW,map_eq_some_iff->aF
open Option.some renaming inj->aa,injEq->bl
open Prod.mk renaming inj->ad,injEq->da
namespace Go.Ev
def RA(S:Nat->Prop)(w:World):A->Value->List Nat->Prop
 |.d x,v,fp=>RD S w x v/\fp=[]
 |.agg xs,v,fp=>∃aL,v=.agg aL/\xs.length=aL.size/\(∀(i:Nat)(x:D),xs[i]?=some x->RD S w x (aL.getD i undef))/\fp=[]
 |.mt t,v,fp=>RT S w t v fp
def M3(S:Nat->Prop)(w:World):List A->List Value->List Nat->Prop
 |[],[],fp=>fp=[]
 |a::as,v::vs,fp=>∃f1 f2,fp=f1++f2/\RA S w a v f1/\M3 S w as vs f2
 |_,_,_=>False
def RR(S:Nat->Prop)(w:World):R->Value->List Nat->Prop
 |.c t,v,fp=>RT S w t v fp
 |.agg ts,v,fp=>∃(aL:Array Value)(fps:List (List Nat)),v=.agg aL/\ts.length=aL.size/\fps.length=ts.length/\fps.flatten=fp/\∀(i:Nat)(t:T)(f:List Nat),ts[i]?=some t->fps[i]?=some f->RT S w t (aL.getD i undef) f
def Ey(S:Nat->Prop)(w:World):List R->List Value->List Nat->Prop
 |[],[],fp=>fp=[]
 |r::rs,v::vs,fp=>∃f1 f2,fp=f1++f2/\RR S w r v f1/\Ey S w rs vs f2
 |_,_,_=>False
def Pv(S:Nat->Prop)(w:World):List T->List Value->List Nat->Prop
 |[],[],fp=>fp=[]
 |t::ts,v::vs,fp=>∃f1 f2,fp=f1++f2/\((t=.uE/\f1=[])\/RT S w t v f1)/\Pv S w ts vs f2
 |_,_,_=>False
def nZ:List A->List Value->List Value
 |.mt _::as,v::vs=>v::nZ as vs
 |_::as,_::vs=>nZ as vs
 |_,_=>[]
def yj:List Value->Value
 |[v]=>v
 |vs=>.tuple vs.toArray
def Rj(P:Program)(f:FuncId)(args:Array Value)(w:World)(R:Value->World->Prop):Prop:=
 (∃g as,(callFunc f args).run P w=.ok (.enter g as) w/\Calls P g as w fun e w'=>∃v,e=.returned v/\R v w')\/
 (∃v,(callFunc f args).run P w=.ok (.value v) w/\R v w)
def Left(S:Nat->Prop)(w:World)(fp:List Nat)(rs:List R)(outs:List T)(lent:List Value)(v:Value)(w':World):Prop:=
 ∃(S':Nat->Prop)(kF:List Value)(fp1 fp2:List Nat),v=yj kF/\gV S w S' w'/\(∀b,S' b->S b\/b∈fp\/w.heap.size<=b)/\(∀b,S' b->b<w'.heap.size)/\
  Ey S' w' rs kF fp1/\Pv S' w' outs lent fp2/\(fp1++fp2).Nodup/\(∀b∈fp1++fp2,¬S' b/\(b∈fp\/w.heap.size<=b))/\GE (fun b=>b<w.heap.size/\b∉fp) w w'
def r_(P:Program)(f:FuncId)(as:List A)(rs:List R)(outs:List T):Prop:=
 ∀(S:Nat->Prop)(w:World)(vs:List Value)(fp:List Nat),(∀b,S b->b<w.heap.size)->M3 S w as vs fp->fp.Nodup->(∀b∈fp,¬S b)->uM S w->
  Rj P f vs.toArray w (Left S w fp rs outs (nZ as vs))
def m9(P:Program)(call:Call):Prop:=∀f as rs outs,call f as=some (rs,outs)->r_ P f as rs outs
theorem M3.Cn{S S':Nat->Prop}{w:World}(hs:gV S w S' w){as:List A}:∀{vs:List Value}{fp:List Nat},M3 S w as vs fp->M3 S' w as vs fp:=by
 induction as with
 |nil=>intro vs fp h;cases vs<;>exact h
 |cons x as ih=>
  intro vs fp h;cases vs with
  |nil=>exact h
  |cons v vs=>obtain⟨f1,f2,h1,h2,h3⟩:=h;refine⟨f1,f2,h1,?_,ih h3⟩;cases x with|d y=>exact⟨h2.1.mono hs,h2.2⟩|agg xs=>obtain⟨aL,q1,q2,q3,q4⟩:=h2;exact⟨aL,q1,q2,fun i x hi=>(q3 i x hi).mono hs,q4⟩|mt t=>exact RT.mono hs h2 fun _ _=>rfl
section
variable{P:Program}{S K:Nat->Prop}{w0 w:World}{Kn:Nat->Prop}{φ:Nat->gF}{H:bF}{e:jJ}{ρ:Operand->Value}{o:Oper}{call:Call}
 {nxt n':Nat} {v:TV} {u:fx} {aA:List Nat}
inductive JF(Kn:Nat->Prop)(φ:Nat->gF)(S:Nat->Prop)(w:World):List (C×List Nat×List Nat)->List Value->Prop
 |nil:JF Kn φ S w [] []
 |cons {c:C} {bq rd:List Nat} {l:List (C×List Nat×List Nat)} {v:Value} {vs:List Value} (h:RC S w Kn φ c v) (hl:JF Kn φ S w l vs):JF Kn φ S w ((c,bq,rd)::l) (v::vs)
theorem Gz{H:bF}(hI:Inv S K w0 Kn φ (aB H) w):∀(tvs:List TV)(ms:List Bool)(as:List A)(aA:List Nat)(lent:List (C×List Nat×List Nat))(vs:List Value),
  gu H tvs ms=some (as,aA,lent)->tvs.length=vs.length->(∀(i:Nat)(t:TV)(v:Value),tvs[i]?=some t->vs[i]?=some v->gf S w Kn φ t v)->
  M3 (SB S w φ (aB H) aA) w as vs ((lent.flatMap (·.2.1)).flatMap (ip w φ (aB H)))/\(∀i∈lent.flatMap (·.2.1),∃o,aB H i=some o/\cT o=true)/\JF Kn φ S w lent (nZ as vs):=by
 intro tvs;induction tvs with
 |nil=>
  intro ms as aA lent vs h hl hr;obtain⟨rfl,rfl,rfl⟩:[]=as/\[]=aA/\[]=lent:=by simpa[gu]using h
  obtain rfl:vs=[]:=List.length_eq_zero_iff.1 hl.symm;exact⟨rfl,fun i hi=>by simp at hi,.nil⟩
 |cons t tvs ih=>
  intro ms as aA lent vs h hl hr;cases vs with
  |nil=>simp at hl
  |cons v vs=>
   have h0:=hr 0 t v rfl rfl;simp only[gu]at h;split at h
   .simp at h
   .rename_i as1 ids1 lent1 hrec;obtain⟨i1,i2,i3⟩:=ih ms.tail as1 ids1 lent1 vs hrec (by simpa using hl) (fun i t v hi hv=>hr (i+1) t v (by simpa using hi) (by simpa using hv));split at h
    .split at h
     .rename_i c;split at h
      .rename_i t0 bq rd hp;obtain⟨rfl,rfl,rfl⟩:A.mt t0::as1=as/\ids1=aA/\(c,bq,rd)::lent1=lent:=by simpa using h
       cases h0 with
       |c h0=>
        obtain⟨p1,p2⟩:=(rl hI 300).1 c t0 bq rd v hp h0;refine⟨⟨bq.flatMap (ip w φ (aB H)),_,by simp,p1.mono (SB.um _) (fun _ _=>rfl),i1⟩,fun i hi=>?_,.cons h0 i3⟩;rcases ap.1 (by simpa using hi:i∈bq++lent1.flatMap (·.2.1))with hi|hi
        .exact p2 i hi
        .exact i2 i hi
      .simp at h
     .simp at h
    .split at h
     .rename_i c;split at h
      .rename_i x i hp;obtain⟨rfl,rfl,rfl⟩:A.d x::as1=as/\i++ids1=aA/\lent1=lent:=by simpa using h
       cases h0 with|c h0=>have p1:=(ui hI 300).1 c x i v hp h0;refine⟨⟨[],_,rfl,⟨p1.mono (SB.Cn _ _ fun j hj=>by simp[hj]),rfl⟩,?_⟩,i2,i3⟩;exact i1.Cn (SB.Cn _ _ fun j hj=>by simp[hj])
      .simp at h
     .rename_i cs;split at h
      .rename_i xs i hp;obtain⟨rfl,rfl,rfl⟩:A.agg xs::as1=as/\i++ids1=aA/\lent1=lent:=by simpa using h
       cases h0 with
       |@agg _ aL hlen h0=>
        obtain⟨q1,q2⟩:=qX hI cs xs i hp (fun i=>aL[i]?) (fun i c hi=>by
         have hlt:i<aL.size:=by rw[<-hlen];exact(ak.1 hi).1
         exact⟨aL.getD i undef,by simp[hlt],h0 i c hi⟩)
        refine⟨⟨[],_,rfl,⟨aL,rfl,q1.trans hlen,fun j x hj=>?_,rfl⟩,?_⟩,i2,i3⟩
        .obtain ⟨y,hy,hd⟩:=q2 j x hj;have hy':aL[j]?=some y:=hy;have e1:aL.getD j undef=y:=by simp[hy']
         rw[e1];exact hd.mono (SB.Cn _ _ fun k hk=>by simp[hk])
        .exact i1.Cn (SB.Cn _ _ fun j hj=>by simp[hj])
      .simp at h
     .simp at h
end
section
variable{P:Program}{S K:Nat->Prop}{w0 w:World}{Kn:Nat->Prop}{φ:Nat->gF}{hf:Nat->Option Ob}{H:bF}{e:jJ}{ρ:Operand->Value}{o:Oper}{call:Call}
 {nxt n':Nat} {v:TV} {u:fx} {aA:List Nat}
theorem rI.OH{fa fb:List Nat}{n m:Nat}{φ1:Nat->gF}(hI:Inv S K w0 Kn φ hf w)(h:rI S K w0 w Kn φ hf fa n m u φ1)(ha:iT w φ hf fb)(hd:∀x∈fa,x∉fb):iT w φ1 (bk u hf) fb:=by
 intro j o hj hown x hx hm;by_cases hu:∃p∈u,p.1=j
 .obtain ⟨p,hp,rfl⟩:=hu;exact hd _ (h.bU p hp x hx) hm
 .have hfn:cq u j=none:=k_ fun p hp e=>hu ⟨p,hp,e⟩;have hj':=hj;simp only[bk,hfn]at hj';have hk:=(hI.iL j o hj').1;rw[gx (h.se.eh j hk) (hj.trans hj'.symm)]at hx;exact ha j o hj' hown x hx hm
theorem HG(r:R)(nxt:Nat)(v:Value)(fp:List Nat)(hI:Inv S K w0 Kn φ hf w)(hfr:∀j,nxt<=j->j<(wN nxt r).2.2->¬Kn j)(h:RR S w r v fp)(hn:fp.Nodup)(hSK:∀b∈fp,¬S b/\¬K b)(ha:iT w φ hf fp):
  ∃φ',rI S K w0 w Kn φ hf fp nxt (wN nxt r).2.2 (wN nxt r).2.1 φ'/\gf S w (o7 Kn nxt (wN nxt r).2.2) φ' (wN nxt r).1 v:=by
 cases r with|c t=>obtain⟨φ',h1,h2⟩:=vJ t nxt v fp hI hfr h hn hSK ha;exact⟨φ',h1,.c h2⟩|agg ts=>obtain⟨aL,fps,rfl,h1,h2,rfl,h3⟩:=h;obtain⟨φ',h4,h5,h6⟩:=sZ ts nxt (fun i=>aL.getD i undef) fps hI hfr h2 h3 hn hSK ha;exact⟨φ',h4,.agg (h5.trans h1) h6⟩
theorem PH(r:R)(nxt:Nat):nxt<=(wN nxt r).2.2:=by cases r with|c t=>exact JR t nxt|agg ts=>exact vI ts nxt
theorem nr(nxt:Nat)(r:R)(rs:List R):ij nxt (r::rs)=((wN nxt r).1::(ij (wN nxt r).2.2 rs).1,(wN nxt r).2.1++(ij (wN nxt r).2.2 rs).2.1,(ij (wN nxt r).2.2 rs).2.2):=rfl
theorem GI:∀(rs:List R)(nxt:Nat),nxt<=(ij nxt rs).2.2:=by intro rs;induction rs with|nil=>intro nxt;exact au _|cons r rs ih=>intro nxt;rw[nr];exact e_ (PH r nxt) (ih _)
theorem xO:∀(rs:List R){Kn:Nat->Prop}{φ:Nat->gF}{hf:Nat->Option Ob}(nxt:Nat)(vs:List Value)(fp:List Nat),Inv S K w0 Kn φ hf w->(∀j,nxt<=j->j<(ij nxt rs).2.2->¬Kn j)->Ey S w rs vs fp->fp.Nodup->
  (∀b∈fp,¬S b/\¬K b)->iT w φ hf fp->
  ∃φ',rI S K w0 w Kn φ hf fp nxt (ij nxt rs).2.2 (ij nxt rs).2.1 φ'/\(ij nxt rs).1.length=vs.length/\
   ∀(i:Nat)(t:TV)(v:Value),(ij nxt rs).1[i]?=some t->vs[i]?=some v->gf S w (o7 Kn nxt (ij nxt rs).2.2) φ' t v:=by
 intro rs;induction rs with
 |nil=>intro Kn φ hf nxt vs fp hI hfr h hn hSK ha;cases vs with|cons v vs=>exact h.elim|nil=>obtain rfl:fp=[]:=h;exact⟨φ,rI.nil hI _ _,rfl,fun i t v hi=>by simp[ij]at hi⟩
 |cons r rs ih=>
  intro Kn φ hf nxt vs fp hI hfr h hn hSK ha;cases vs with
  |nil=>exact h.elim
  |cons v vs=>
   obtain⟨f1,f2,rfl,h1,h2⟩:=h;rw[bV]at hn;obtain⟨hn1,hn2,hn3⟩:=hn;simp only[ap]at hSK;obtain⟨φ1,hL1,hr1⟩:=HG r nxt v f1 hI (fun j hj hj2=>hfr j hj (by rw[nr];exact cg hj2 (GI rs _))) h1 hn1 (fun b hb=>hSK b (.inl hb)) (fun j o hj hown x hx hm=>ha j o hj hown x hx (by simp[hm]))
   obtain⟨φ2,hL2,hlen,hr2⟩:=ih (Kn:=o7 Kn nxt (wN nxt r).2.2) (φ:=φ1) (hf:=bk (wN nxt r).2.1 hf) (wN nxt r).2.2 vs f2 hL1.inv (fun j hj hj2 hk=>by
    rcases hk with hk|hk
    .have:=hL1.le;exact hfr j (by omega) (by rw[nr];exact hj2) hk
    .omega) h2 hn2 (fun b hb=>hSK b (.inr hb)) (hL1.OH hI (fun j o hj hown x hx hm=>ha j o hj hown x hx (by simp[hm])) fun x hx hx2=>hn3 x hx x hx2 rfl)
   have hcomp:=hL1.pL hL2;have hcm:bk ((ij (wN nxt r).2.2 rs).2.1++(wN nxt r).2.1) hf=bk ((wN nxt r).2.1++(ij (wN nxt r).2.2 rs).2.1) hf:=mu fun p hp q hq e=>by have h1:=hL2.gD p hp;have h2:=hL1.gD q hq;omega
   have hsub:∀i,o7 (o7 Kn nxt (wN nxt r).2.2) (wN nxt r).2.2 (ij (wN nxt r).2.2 rs).2.2 i->o7 Kn nxt (ij (wN nxt r).2.2 rs).2.2 i:=fun i=>(rn hL1.le hL2.le i).1;refine⟨φ2,?_,by simp[nr,hlen],fun i t v' hi hv=>?_⟩
   .simp only[nr];have hsw:∀{p:Nat×Option Ob}{a b:fx},p∈a++b->p∈b++a:=fun hp=>ap.2 (ap.1 hp).symm;exact⟨hcomp.le,hcomp.se,hcm▸hcomp.inv,fun p hp=>hcomp.gD p (hsw hp),fun p hp x hx=>hcomp.bU p (hsw hp) x (hcm.symm▸hx)⟩
   .cases i with
    |zero=>
     obtain rfl:(wN nxt r).1=t:=by simpa[nr]using hi
     obtain rfl:v=v':=by simpa using hv
     exact(hr1.mono (gV.refl _ _) hL2.se).kn hsub
    |succ i=>exact(hr2 i t v' (by simpa[nr]using hi) (by simpa using hv)).kn hsub
theorem Inv.put(h:Inv S K w0 Kn φ hf w){i:Nat}(hi:Kn i)(o:Ob)(hfree:cT o=true->∀j b,hf j=some b->cT b=true->j≠i->(φ i).bU∉ip w φ hf j)
  (hro:RO S K w Kn φ (φ i) o)
  (hp:∀sz sl k x,o=.nst sz sl->rT w (φ i) sl k x->x≠(φ i).bU/\(∀j b,hf j=some b->cT b=true->j≠i->x∉ip w φ hf j)/\∀k',rT w (φ i) sl k' x->k'=k:=by intro _ _ _ _ e;cases e):
  Inv S K w0 Kn φ (bk [(i,some o)] hf) w:=by
 have hold:∀j b,bk [(i,some o)] hf j=some b->(j=i/\b=o)\/(j≠i/\hf j=some b):=by
  intro j b hj;rw[bQ]at hj;by_cases e:i=j
  .rw [if_pos e]at hj;exact .inl ⟨e.symm,(aa hj).symm⟩
  .rw [if_neg e,fF]at hj;exact .inr ⟨fun q=>e q.symm,hj⟩
 refine h.uS (gV.refl _ _) (Ren.refl _ _) h.uO h.sk h.ng ?_ ?_ ?_
 .intro id o' ho;rcases hold id o' ho with⟨rfl,rfl⟩|⟨_,ho'⟩
  .exact .inr ⟨hi,hro⟩
  .exact .inl ⟨ho',fun hown=>⟨rfl,((h.iL id o' ho').2.bq hown).1⟩,h.DN ho' fun _ _=>rfl⟩
 .intro a b oa ob ha hb hoa hob hne;rcases hold a oa ha with⟨e1,e2⟩|⟨n1,ha'⟩<;>rcases hold b ob hb with⟨e3,e4⟩|⟨n2,hb'⟩
  .exact absurd (e1.trans e3.symm) hne
  .rw [e1];exact fun e=>hfree (e2▸hoa) b ob hb' hob n2 (dQ.2 (.inl e))
  .rw [e3];exact fun e=>hfree (e4▸hob) a oa ha' hoa n1 (dQ.2 (.inl e.symm))
  .exact h.eJ a b oa ob ha' hb' hoa hob hne
 .intro a sz sl k x ha hpa;rcases hold a _ ha with⟨ea,eo⟩|⟨na,ha'⟩
  .rw [ea]at hpa;obtain⟨p1,p2,p3⟩:=hp sz sl k x eo.symm hpa;refine⟨fun j b hj hown=>?_,fun j sz' sl' k' hj hpj=>?_⟩
   .rcases hold j b hj with⟨ej,_⟩|⟨nj,hj'⟩
    .rw [ej];exact fun e=>p1 e.symm
    .exact fun e=>p2 j b hj' hown nj (dQ.2 (.inl e.symm))
   .rcases hold j _ hj with⟨ej,eo2⟩|⟨nj,hj'⟩
    .rw [ej]at hpj;rw[<-eo]at eo2;cases eo2;exact⟨ej.trans ea.symm,p3 k' hpj⟩
    .exact absurd (dQ.2 (.inr ⟨sz',sl',k',hj',hpj⟩)) (p2 j _ hj' rfl nj)
  .obtain ⟨p1,p2⟩:=h.wT a sz sl k x ha' hpa;refine⟨fun j b hj hown=>?_,fun j sz' sl' k' hj hpj=>?_⟩
   .rcases hold j b hj with⟨ej,eo⟩|⟨_,hj'⟩
    .rw [ej];exact fun e=>hfree (eo▸hown) a _ ha' rfl na (dQ.2 (.inr ⟨sz,sl,k,ha',e▸hpa⟩))
    .exact p1 j b hj' hown
   .rcases hold j _ hj with⟨ej,eo⟩|⟨_,hj'⟩
    .rw [ej]at hpj;exact absurd (dQ.2 (.inr ⟨sz,sl,k,ha',hpa⟩)) ((hp sz' sl' k' x eo.symm hpj).2.1 a _ ha' rfl na)
    .exact p2 j sz' sl' k' hj' hpj
structure Sy(S K:Nat->Prop)(w0 w:World)(Kn:Nat->Prop)(φ:Nat->gF)(hf:Nat->Option Ob)(fp:List Nat)(owns:List Nat)(nxt m:Nat)(u:fx)(φ':Nat->gF):Prop where
 le:nxt<=m
 se:Ren Kn φ (o7 Kn nxt m) φ'
 inv:Inv S K w0 (o7 Kn nxt m) φ' (bk u hf) w
 FP:∀p∈u,p.1∈owns\/(nxt<=p.1/\p.1<m)
 R6:∀i∈owns,(cq u i).isSome=true
 bU:∀i o,bk u hf i=some o->cT o=true->(i∈owns\/(nxt<=i/\i<m))->∀x∈ip w φ' (bk u hf) i,x∈fp
def jV(l:List (C×List Nat×List Nat)):List Nat:=l.flatMap (·.2.1)
theorem qJ(bq:List Nat)(j:Nat):cq (bq.map fun i=>((i,none):Nat×Option Ob)) j=if j∈bq then some none else none:=by
 induction bq with
 |nil=>rfl
 |cons a l ih=>
  simp only[aD,cq];by_cases e:a=j
  .simp [e]
  .have e':(a==j)=false:=by simpa using e
   have e2:¬j=a:=fun h=>e h.symm;simp[e',ih,e2]
theorem RC.P5{id off:Nat}{v:Value}(h:RC S w Kn φ (.op id off) v):v=.pointer (some ⟨(φ id).bU,(φ id).aQ+off,none⟩)/\Kn id:=by cases h with|op hk=>exact⟨rfl,hk⟩
theorem m8.JQ{w:World}{b:Nat}{a a':Array Value}(h:m8 w b a)(h':m8 w b a'):a=a':=by obtain⟨t,h⟩:=h;obtain⟨t',h'⟩:=h';rw[h]at h';simp at h';exact h'.1
theorem rA{α:Type}{u:List (Nat×α)}{id:Nat}{x:α}(h:cq u id=some x):∃p∈u,p.1=id:=by
 induction u with
 |nil=>simp[cq]at h
 |cons p r ih=>
  obtain⟨i,y⟩:=p;by_cases e:i=id
  .exact ⟨(i,y),by simp,e⟩
  .have e2:(i==id)=false:=by simpa using e
   simp only[cq,e2,cond_false]at h;obtain⟨p,hp,hpe⟩:=ih h;exact⟨p,by simp[hp],hpe⟩
theorem AZ:∀(l:List (C×List Nat×List Nat))(outs:List T)(nxt:Nat)(bu:fx)(m:Nat),eV nxt l outs=some (bu,m)->nxt<=m:=by
 intro l;induction l with
 |nil=>
  intro outs nxt bu m h;cases outs with
  |nil=>obtain⟨_,rfl⟩:[]=bu/\nxt=m:=by simpa[eV]using h
        exact au _
  |cons t ts=>simp[eV]at h
 |cons p l ih=>
  obtain⟨c,bq,rd⟩:=p;intro outs nxt bu m h;cases outs with
  |nil=>unfold eV at h;simp at h
  |cons t outs=>
   unfold eV at h;split at h
   .simp at*
   .rename_i heq1 heq2;simp only[dJ,da]at heq1 heq2;obtain⟨_,rfl⟩:=heq1;exact ih _ _ _ _ h
   .rename_i heq1 heq2;simp only[dJ,da]at heq1 heq2;obtain⟨_,rfl⟩:=heq1;split at h
    .rename_i w2 k hrec;split at h
     .obtain ⟨_,rfl⟩:=ad (aa h);exact e_ (vI _ _) (ih _ _ _ _ hrec)
     .simp at h
    .simp at h
   .rename_i heq1 heq2;simp only[dJ,da]at heq1 heq2;obtain⟨_,rfl⟩:=heq1;split at h
    .split at h
     .rename_i w2 k hrec;obtain⟨_,rfl⟩:=ad (aa h);exact ih _ _ _ _ hrec
     .simp at h
    .simp at h
   .rename_i heq1 heq2;simp only[dJ,da]at heq1 heq2;obtain⟨_,rfl⟩:=heq1;split at h
    .split at h
     .rename_i w2 k hrec;obtain⟨_,rfl⟩:=ad (aa h);exact ih _ _ _ _ hrec
     .simp at h
    .simp at h
   .rename_i heq1 heq2;simp only[dJ,da]at heq1 heq2;obtain⟨_,rfl⟩:=heq1;split at h
    .rename_i w2 k hrec;obtain⟨_,rfl⟩:=ad (aa h);exact ih _ _ _ _ hrec
    .simp at h
   .simp at h
theorem DI{H0:bF}{S0 K0:Nat->Prop}{wp wz:World}{Kn0:Nat->Prop}{φ0:Nat->gF}(hI0:Inv S0 K0 wz Kn0 φ0 (aB H0) wp){id len:Nat}
  (hw:(match aB H0 id with|some (.aL _ ao)=>(0==0)&&len==ao.length|some (.nst _ slots)=>(0==0)&&len==slots.length|_=>false)=true):
  ∃aL,m8 wp (φ0 id).bU aL/\aL.size=(φ0 id).ext/\(φ0 id).aQ+len*(φ0 id).sz<=(φ0 id).ext/\len<=(φ0 id).cap:=by
 split at hw
 .rename_i sz ao ho;obtain⟨_,h0⟩:=hI0.iL _ _ ho;have hl:len=ao.length:=by simpa using hw
  subst hl;cases h0 with|aL hsz hl hS hK hown hext hfit hr hv=>exact⟨_,hown,hext,by rw[hl];exact hfit,hv⟩
 .rename_i sz slots ho;obtain⟨_,h0⟩:=hI0.iL _ _ ho;have hl:len=slots.length:=by simpa using hw
  subst hl;cases h0 with|nst hsz hl hS hK hown hext hfit hr hv=>exact⟨_,hown,hext,by rw[hl,lj];exact hfit,hv⟩
 .cases hw
theorem Gx{H0:bF}{S0:Nat->Prop}{wp:World}{Kn0:Nat->Prop}{φ0:Nat->gF}{K0:Nat->Prop}{wz:World}(hI0:Inv S0 K0 wz Kn0 φ0 (aB H0) wp)(hgrow:∀b aL,m8 wp b aL->∃arr',m8 w b arr'/\arr'.size=aL.size):
  ∀(l:List (C×List Nat×List Nat))(vs:List Value)(outs:List T)(fp:List Nat){Kn:Nat->Prop}{φ:Nat->gF}{hf:Nat->Option Ob}(nxt:Nat)(bu:fx)(m:Nat),
  JF Kn0 φ0 S0 wp l vs->eL H0 l=true->Pv S w outs vs fp->Inv S K w0 Kn φ hf w->(∀j,nxt<=j->j<m->¬Kn j)->Ren Kn0 φ0 Kn φ->fp.Nodup->(∀b∈fp,¬S b/\¬K b)->iT w φ hf fp->
  (∀i∈jV l,hf i=none/\Kn0 i)->(jV l).Nodup->eV nxt l outs=some (bu,m)->∃φ',Sy S K w0 w Kn φ hf fp (jV l) nxt m bu φ':=by
 intro l;induction l with
 |nil=>
  intro vs outs fp Kn φ hf nxt bu m hl hw hr hI hfr hren hn hSK ha hown hon h;cases hl;cases outs with
  |cons t ts=>exact hr.elim
  |nil=>
   obtain⟨rfl,rfl⟩:[]=bu/\nxt=m:=by simpa[eV]using h
   exact⟨φ,au _,tu _ _,hI.kn fun _ hi=>.inl hi,fun p hp=>by simp at hp,fun i hi=>by simp[jV]at hi,fun i o _ _ hx=>by
    rcases hx with hx|hx
    .simp [jV]at hx
    .omega⟩
 |cons p l ih=>
  obtain⟨c,bq,rd⟩:=p;intro vs outs fp Kn φ hf nxt bu m hl hw hr hI hfr hren hn hSK ha hown hon h;cases hl with
  |@cons _ _ _ _ v vs hc hl=>
  cases outs with
  |nil=>exact hr.elim
  |cons t outs=>
   obtain⟨f1,f2,rfl,hr1,hr2⟩:=hr;rw[bV]at hn;obtain⟨hn1,hn2,hn3⟩:=hn;simp only[ap]at hSK;have ha1:iT w φ hf f1:=fun j o hj hown x hx hm=>ha j o hj hown x hx (by simp[hm]);have ha2:iT w φ hf f2:=fun j o hj hown x hx hm=>ha j o hj hown x hx (by simp[hm]);have ho1:∀i∈bq,hf i=none/\Kn0 i:=fun i hi=>hown i (by simp[jV,hi]);have ho2:∀i∈jV l,hf i=none/\Kn0 i:=fun i hi=>hown i (by simp only[jV,bi,ap];exact .inr hi);have hoc:jV ((c,bq,rd)::l)=bq++jV l:=rfl;rw[hoc,bV]at hon;obtain⟨hon1,hon2,hon3⟩:=hon;have hw2:eL H0 l=true:=by cases c<;>simp only[eL,ai]at hw<;>first|exact hw|exact hw.2
   have fin:∀(id:Nat)(ob:Ob)(w2:fx)(k:Nat),bq=[id]->(bu,m)=((id,some ob)::w2,k)->eV nxt l outs=some (w2,k)->Inv S K w0 Kn φ (bk [(id,some ob)] hf) w->(∀x∈ip w φ (bk [(id,some ob)] hf) id,x∈f1)->
     ∃φ',Sy S K w0 w Kn φ hf (f1++f2) (jV ((c,bq,rd)::l)) nxt m bu φ':=by
    intro id ob w2 k hownid hbm hrec hput hblk;subst hownid;obtain⟨rfl,rfl⟩:=ad hbm;obtain⟨hidn,hidk0⟩:=ho1 id (by simp);have hidk:=hren.sub id hidk0;have hφ:=hren.eh id hidk0;have hidlt:¬(nxt<=id/\id<m):=fun h=>hfr id h.1 h.2 hidk
    obtain⟨φ2,hB⟩:=ih vs outs f2 nxt w2 m hl hw2 hr2 hput hfr hren hn2 (fun b hb=>hSK b (.inr hb))
     (fun j o hj hown x hx hm=>by
      have hj':=hj;rw[bQ]at hj';split at hj'
      .rename_i e;subst e;exact hn3 x (hblk x hx) x hm rfl
      .rw [gx rfl (hj.trans hj'.symm)]at hx;exact ha2 j o hj' hown x hx hm)
     (fun i hi=>by obtain⟨h1,h2⟩:=ho2 i hi;refine⟨?_,h2⟩;have hne:¬id=i:=fun e=>hon3 id (by simp) i hi e;rw[bQ,if_neg hne];exact h1) hon2 hrec
    have hkeys:=hB.FP;have hm2:=hB.le
    have hdis:∀q∈w2,id≠q.1:=fun q hq e=>by
     rcases hkeys q hq with h|h
     .exact hon3 id (by simp) q.1 h e
     .omega
    have heq:bk ((id,some ob)::w2) hf=bk w2 (bk [(id,some ob)] hf):=by rw[<-ei];exact mu (u:=[(id,some ob)]) fun p hp q hq e=>by rw[am.1 hp]at e;exact hdis q hq e
    refine⟨φ2,hB.le,hB.se,heq▸hB.inv,fun p hp=>?_,fun i hi=>?_,fun i o hio hownio hi=>?_⟩
    .rw [hoc];rcases aM.1 hp with rfl|hp
     .exact .inl (by simp)
     .rcases hkeys p hp with h|h
      .exact .inl (by simp[h])
      .exact .inr h
    .rw [hoc]at hi;simp only[cq];by_cases e:id=i
     .simp [e]
     .have e':(id==i)=false:=by simpa using e
      simp only[e',cond_false];rcases ap.1 hi with hi|hi
      .exact absurd (am.1 hi).symm e
      .exact hB.R6 i hi
    .rw [heq]at hio|-;intro x hx;by_cases hrest:i∈jV l\/(nxt<=i/\i<m)
     .exact aH _ (hB.bU i o hio hownio hrest x hx)
     .have hi2:i=id:=by
       rcases hi with hi|hi
       .rw [hoc]at hi;rcases ap.1 hi with h|h
        .exact am.1 h
        .exact absurd (.inl h) hrest
       .exact absurd (.inr hi) hrest
      subst hi2;have hwn:cq w2 i=none:=k_ fun q hq e=>hdis q hq e.symm
      have hwi:bk w2 (bk [(i,some ob)] hf) i=bk [(i,some ob)] hf i:=by
       conv=>lhs;unfold bk
       rw[hwn];rfl
      rw[gx (hB.se.eh i hidk) hwi]at hx;exact aE _ (hblk x hx)
   unfold eV at h;split at h
   .simp at*
   .--nothing was owned
    rename_i heq1 heq2;simp only[dJ,da]at heq1 heq2;obtain⟨⟨rfl,rfl,rfl⟩,rfl⟩:=heq1;obtain⟨rfl,rfl⟩:=heq2;have hr1:=hr1.resolve_left fun h=>by cases h.1
    have e0:f1=[]:=by cases hr1;rfl
    subst e0;obtain⟨φ',hB⟩:=ih vs outs f2 nxt bu m hl hw2 hr2 hI hfr hren hn2 (fun b hb=>hSK b (.inr hb)) ha2 ho2 hon2 h;exact⟨φ',hB.le,hB.se,hB.inv,hB.FP,hB.R6,hB.bU⟩
   .--a box
    rename_i id own' rd' r ts' ts heq1 heq2;simp only[dJ,da]at heq1 heq2;obtain⟨⟨rfl,rfl,rfl⟩,rfl⟩:=heq1;obtain⟨rfl,rfl⟩:=heq2;split at h
    .rename_i w2 k hrec;split at h
     .rename_i hcon;obtain⟨rfl,rfl⟩:(id,some (Ob.box (iA nxt ts').1))::(iA nxt ts').2.1++bq.map (fun i=>((i,none):Nat×Option Ob))++w2=bu/\k=m:=by simpa using h
      have hid:id∈bq:=by simpa using hcon
      obtain⟨hidn,hidk0⟩:=ho1 id hid;have hidk:=hren.sub id hidk0;have hφ:=hren.eh id hidk0;obtain⟨hv,_⟩:=hc.P5;have hr1:=hr1.resolve_left fun h=>by cases h.1
      cases hr1 with
      |@pt _ b aL fps hown0 hlen hfl hrec2=>
      simp only[Value.pointer.injEq,bl,Addr.mk.injEq]at hv;obtain⟨hb,hbase,_⟩:=hv;rw[<-hφ]at hb hbase;have hbase0:(φ id).aQ=0:=by omega
      rw[fR]at hn1;have hmk:=AZ _ _ _ _ _ hrec;have hidlt:¬(nxt<=id/\id<k):=fun h=>hfr id h.1 h.2 hidk
      obtain⟨φ1,hL,hcl,hcr⟩:=sZ ts' nxt (fun i=>aL.getD i undef) fps hI (fun j hj hj2=>hfr j hj (by omega)) hfl hrec2 hn1.2 (fun b' hb'=>hSK b' (.inl (aC _ hb')))
       (fun j o hj hown x hx hm=>ha1 j o hj hown x hx (aC _ hm))
      have hm1:=hL.le;have hφ1:φ1 id=φ id:=hL.se.eh id hidk;have hul:cq (iA nxt ts').2.1 id=none:=k_ fun p hp e=>by have:=hL.gD p hp;omega
      have hdead:bk (iA nxt ts').2.1 hf id=none:=by simp only[bk,hul,hidn]
      have hawb:iT w φ1 (bk (iA nxt ts').2.1 hf) [b]:=hL.OH hI (fun j o hj hown x hx hm=>ha1 j o hj hown x hx (by rw[am.1 hm];simp)) fun x hx hx2=>hn1.1 (by rw[<-am.1 hx2];exact hx)
      have hput:=hL.inv.put (i:=id) (.inl hidk) (.box (iA nxt ts').1) (fun _ j o hj hown hne hm=>by rw[hφ1,<-hb]at hm;exact hawb j o hj hown b hm (by simp))
       (.box (by rw[hφ1];exact hbase0) (by rw[hφ1,<-hb];exact(hSK b (.inl (by simp))).1) (by rw[hφ1,<-hb];exact(hSK b (.inl (by simp))).2) (by rw[hφ1,<-hb];exact hown0) (hcl.trans hlen) hcr)
      have hav2:iT w φ1 (bk (iA nxt ts').2.1 hf) f2:=hL.OH hI ha2 fun x hx hx2=>hn3 x (aC _ hx) x hx2 rfl;have hult:∀i,¬(nxt<=i/\i<k)->cq (iA nxt ts').2.1 i=none:=fun i hi=>k_ fun p hp e=>by have:=hL.gD p hp;omega
      have hownlt:∀i,Kn0 i->¬(nxt<=i/\i<k):=fun i hi h=>hfr i h.1 h.2 (hren.sub i hi);rw[<-ei]at hput
      obtain⟨φ2,hB⟩:=ih vs outs f2 (iA nxt ts').2.2 w2 k hl hw2 hr2 hput (fun j hj hj2 hk=>by
        rcases hk with hk|hk
        .exact hfr j (by omega) hj2 hk
        .omega) ⟨fun i hi=>.inl (hren.sub i hi),fun i hi=>(hL.se.eh i (hren.sub i hi)).trans (hren.eh i hi)⟩ hn2 (fun b hb=>hSK b (.inr hb))
       (fun j o hj hown x hx hm=>by
        have hj':=hj;rw[aY,bQ]at hj';split at hj'
        .rename_i e;subst e;rw[pE (fun _ _ e=>by rw[aY,bQ,if_pos rfl]at e;cases e),hφ1,<-hb]at hx;rw[am.1 hx]at hm;exact hn3 b (by simp) b hm rfl
        .rw [gx rfl (hj.trans hj'.symm)]at hx;exact hav2 j o hj' hown x hx hm)
       (fun i hi=>by obtain⟨h1,h2⟩:=ho2 i hi;refine⟨?_,h2⟩;have hne:¬id=i:=fun e=>hon3 id hid i hi e;rw[aY,bQ,if_neg hne];simp only[bk,hult i (hownlt i h2),h1]) hon2 hrec
      have hkeys:=hB.FP;have hm2:=hB.le
      have hdis:∀j x,cq w2 j=some x->j≠id/\j∉bq/\cq (iA nxt ts').2.1 j=none:=by
       intro j x hx;obtain⟨p,hp,rfl⟩:=rA hx;rcases hkeys p hp with h|h
       .exact ⟨fun e=>hon3 id hid p.1 h e.symm,fun e=>hon3 p.1 e p.1 h rfl,hult _ (hownlt _ (ho2 _ h).2)⟩
       .refine ⟨fun e=>by omega,fun e=>by have:=hownlt _ (ho1 _ e).2;omega,k_ fun q hq e=>?_⟩;have:=hL.gD q hq;omega
      have heq:bk ((id,some (Ob.box (iA nxt ts').1))::(iA nxt ts').2.1++bq.map (fun i=>((i,none):Nat×Option Ob))++w2) hf=bk w2 (bk ([(id,some (Ob.box (iA nxt ts').1))]++(iA nxt ts').2.1) hf):=by
       have hno:bk (bq.map (fun i=>((i,none):Nat×Option Ob))) (bk w2 hf)=bk w2 hf:=by
        funext j
        conv=>lhs;unfold bk
        rw[qJ];by_cases hjo:j∈bq
        .rw [if_pos hjo];have hwj:cq w2 j=none:=by cases hx:cq w2 j with|none=>rfl|some x=>exact absurd hjo (hdis j x hx).2.1
         simp only[bk,hwj,(ho1 j hjo).1]
        .rw [if_neg hjo];rfl
       rw[ei,ei,hno,<-ei,<-ei];refine mu fun p hp q hq e=>?_;rcases hkeys q hq with h|h
       .rcases aM.1 hp with rfl|hp
        .exact hon3 id hid q.1 h e
        .have:=hL.gD p hp;have:=hownlt _ (ho2 _ h).2;omega
       .rcases aM.1 hp with rfl|hp
        .simp only at e;omega
        .have:=hL.gD p hp;omega
      refine⟨φ2,by omega,⟨fun i h=>.inl h,fun i h=>(hB.se.eh i (.inl h)).trans (hL.se.eh i h)⟩,?_,fun p hp=>?_,fun i hi=>?_,fun i o hio hownio hi=>?_⟩
      .rw [heq];exact hB.inv.xh fun i=>rn hm1 hm2 i
      .rw [hoc];simp only[aT,aJ,aM,ap,b_]at hp;rcases hp with rfl|hp|⟨i,hi,rfl⟩|hp
       .exact .inl (by simp[hid])
       .have:=hL.gD p hp;exact .inr (by omega)
       .exact .inl (by simp[hi])
       .rcases hkeys p hp with h|h
        .exact .inl (by simp[h])
        .exact .inr (by omega)
      .rw [hoc]at hi;simp only[aT,aJ,cq,gM,qJ];rcases ap.1 hi with hi|hi
       .by_cases e:id=i
        .simp [e]
        .have e':(id==i)=false:=by simpa using e
         simp only[e',cond_false,if_pos hi];cases cq (iA nxt ts').2.1 i<;>rfl
       .have hs:=hB.R6 i hi;obtain⟨x,hx⟩:=gW.1 hs;obtain⟨h1,h2,h3⟩:=hdis i x hx;have e':(id==i)=false:=by simpa using fun e=>h1 e.symm
        simp only[e',cond_false,h3,if_neg h2,hx,Option.isSome_some]
      .rw [heq]at hio|-;intro x hx;by_cases hrest:i∈jV l\/((iA nxt ts').2.2<=i/\i<k)
       .exact aH _ (hB.bU i o hio hownio hrest x hx)
       .refine aE _ ?_
        have hw2n:cq w2 i=none:=k_ fun q hq e=>by
         rcases hkeys q hq with h|h
         .exact hrest (.inl (e▸h))
         .exact hrest (.inr (e▸h))
        have hi2:i∈bq\/(nxt<=i/\i<(iA nxt ts').2.2):=by
         rcases hi with hi|hi
         .rw [hoc]at hi;rcases ap.1 hi with h|h
          .exact .inl h
          .exact absurd (.inl h) hrest
         .exact .inr ⟨hi.1,by
           rcases Nat.lt_or_ge i (iA nxt ts').2.2 with h|h
           .exact h
           .exact absurd (.inr ⟨h,hi.2⟩) hrest⟩
        have hkn:o7 Kn nxt (iA nxt ts').2.2 i:=by
         rcases hi2 with h|h
         .exact .inl (hren.sub i (ho1 i h).2)
         .exact .inr h
        have hwi:bk w2 (bk ([(id,some (Ob.box (iA nxt ts').1))]++(iA nxt ts').2.1) hf) i=bk ([(id,some (Ob.box (iA nxt ts').1))]++(iA nxt ts').2.1) hf i:=by
         conv=>lhs;unfold bk
         rw[hw2n];rfl
        rw[gx (hB.se.eh i hkn) hwi]at hx;by_cases e:id=i
        .subst e;rw[pE (fun _ _ e=>by rw[aY,bQ,if_pos rfl]at e;cases e),hφ1,<-hb]at hx;rw[am.1 hx];simp
        .rcases hi2 with h|h
         .exfalso
          have h1:bk w2 (bk ([(id,some (Ob.box (iA nxt ts').1))]++(iA nxt ts').2.1) hf) i=hf i:=by
           simp only[bk,hw2n,aY,cq];have e':(id==i)=false:=by simpa using e
           simp only[e',cond_false,hult i (hownlt i (ho1 i h).2)]
          rw[h1,(ho1 i h).1]at hio;simp at hio
         .have e':(id==i)=false:=by simpa using e
          cases hfu:cq (iA nxt ts').2.1 i with
          |none=>
           exfalso;have h1:bk w2 (bk ([(id,some (Ob.box (iA nxt ts').1))]++(iA nxt ts').2.1) hf) i=hf i:=by simp only[bk,hw2n,aY,cq,e',cond_false,hfu]
           rw[h1]at hio;exact hfr i h.1 (by omega) (hI.iL i o hio).1
          |some x'=>
           obtain⟨p,hp,rfl⟩:=rA hfu;have hwp:bk ([(id,some (Ob.box (iA nxt ts').1))]++(iA nxt ts').2.1) hf p.1=bk (iA nxt ts').2.1 hf p.1:=by rw[aY,bQ,if_neg e]
           rw[gx rfl hwp]at hx;exact aC _ (hL.bU p hp x hx)
     .simp at h
    .simp at h
   .--an array
    rename_i sz id len own' rd' r sz' ao ts heq1 heq2;simp only[dJ,da]at heq1 heq2;obtain⟨⟨rfl,rfl,rfl⟩,rfl⟩:=heq1;obtain⟨rfl,rfl⟩:=heq2;split at h
    .rename_i hcond;obtain⟨hrl,hszz,hownid⟩:=hcond;subst hownid;split at h
     .rename_i w2 k hrec;obtain⟨rfl,rfl⟩:(id,some (Ob.aL sz ao))::w2=bu/\k=m:=by simpa using h
      obtain⟨hidn,hidk0⟩:=ho1 id (by simp);have hφ:=hren.eh id hidk0;obtain⟨cap,addr,hv,hszl,hk0,hcap,haddr,hextc,hcl⟩:=hc.ke;have hr1:=hr1.resolve_left fun h=>by cases h.1
      cases hr1 with
      |@sl _ _ b off len1 cap1 aL hsz0 hown0 hlen1 hcap1 hext1 hrr=>
      simp only[Value.slice.injEq,bl,Addr.mk.injEq]at hv;obtain⟨⟨hb,hoff,_⟩,hlen2,hcap2⟩:=hv;subst hszz;simp only[eL,ai]at hw;obtain⟨arr0,hown1,hext0,hfit0,hv0⟩:=DI hI0 hw.1;obtain⟨arr1,hown2,hsize2⟩:=hgrow _ _ hown1;rw[hb]at hown0;obtain rfl:=hown0.JQ hown2;have hb1:=hSK (φ0 id).bU (.inl (by simp[hb]))
      refine fin id (.aL sz' ao) w2 k rfl rfl hrec (hI.put (i:=id) (hren.sub id hidk0) (.aL sz' ao) (fun _ j o hj hown hne hm=>by rw[hφ,<-hb]at hm;exact ha1 j o hj hown b hm (by simp))
       (.aL hsz0 (by rw[hφ];exact hszl) (by rw[hφ];exact hb1.1) (by rw[hφ];exact hb1.2) (by rw[hφ];exact hown2) (by rw[hφ,<-hext0];exact hsize2)
        (by rw[hφ,hrl,<-hszl];exact hfit0) (by
         rw[hφ];cases ao with
         |nil=>exact⟨fun i r hi=>by simp at hi,fun i r hi=>by simp at hi⟩
         |cons q ao=>
          have:off=(φ0 id).aQ:=by rw[hoff,haddr (by simp only[List.length_cons]at hrl;omega)];simp
          rw[<-this];exact hrr) (by rw[hφ,hrl];exact hv0))) fun x hx=>?_
      rw[pE (fun _ _ e=>by rw[bQ,if_pos rfl]at e;cases e),hφ,<-hb]at hx;exact hx
     .simp at h
    .simp at h
   .--a di of ao
    rename_i sz id len own' rd' r szi ao ts heq1 heq2;simp only[dJ,da]at heq1 heq2;obtain⟨⟨rfl,rfl,rfl⟩,rfl⟩:=heq1;obtain⟨rfl,rfl⟩:=heq2;split at h
    .rename_i hcond;obtain⟨hrl,hszz,hownid⟩:=hcond;subst hownid;split at h
     .rename_i w2 k hrec;obtain⟨rfl,rfl⟩:(id,some (Ob.nst szi (ao.map mK)))::w2=bu/\k=m:=by simpa using h
      obtain⟨hidn,hidk0⟩:=ho1 id (by simp);have hφ:=hren.eh id hidk0;obtain⟨cap,addr,hv,hszl,hk0,hcap,haddr,hextc,hcl⟩:=hc.ke;have hr1:=hr1.resolve_left fun h=>by cases h.1
      cases hr1 with
      |@zD _ _ b off cap1 aL fps hsz0 hown0 hcap1 hext1 hfl hrr=>
      simp only[Value.slice.injEq,bl,Addr.mk.injEq]at hv;obtain⟨⟨hb,hoff,_⟩,hlen2,hcap2⟩:=hv;subst hszz;simp only[eL,ai]at hw;obtain⟨arr0,hown1,hext0,hfit0,hv0⟩:=DI hI0 hw.1;obtain⟨arr1,hown2,hsize2⟩:=hgrow _ _ hown1;rw[hb]at hown0;obtain rfl:=hown0.JQ hown2;rw[fR]at hn1;have hb1:=hSK b (.inl (by simp));have hbase:∀i,i<ao.length->off+i=(φ0 id).aQ+i:=fun i hi=>by rw[hoff,haddr (by omega)];simp
      have hget:∀i,w.cell? ⟨(φ id).bU,i,none⟩=aL[i]?:=by rw[hφ];exact hown2.cell
      have hpat:∀k x,rT w (φ id) (ao.map mK) k x->∃fp,fps[k]?=some fp/\fp=[x]:=by rintro k x ⟨rs,v,h1,h2,h3⟩;rw[aG]at h1;obtain⟨r,hr1,hr2⟩:=aF.1 h1;have hlt:=(ak.1 hr1).1;have hf:fps[k]?=some fps[k]:=av (by omega);obtain⟨v',q1,q2⟩:=hrr k r fps[k] hr1 hf;rw[hget,hφ,<-hbase k hlt,q1]at h2;obtain rfl:=aa h2;cases r with|none=>cases hr2|some rows'=>obtain⟨b',q3,q4⟩:=q2;rw[q4.bU]at h3;obtain rfl:=aa h3;exact⟨_,hf,q3⟩
      have hmem:∀k x,rT w (φ id) (ao.map mK) k x->x∈fps.flatten:=fun k x hp=>by obtain⟨fp,h1,rfl⟩:=hpat k x hp;exact dH.2 ⟨[x],aW h1,by simp⟩
      have hbl:(φ id).bU=b:=by rw[hφ,<-hb]
      rw[hszl,lj]at hfit0
      refine fin id (.nst szi (ao.map mK)) w2 k rfl rfl hrec (hI.put (i:=id) (hren.sub id hidk0) (.nst szi (ao.map mK)) (fun _ j o hj hown hne hm=>by rw[hbl]at hm;exact ha1 j o hj hown b hm (by simp))
       (.nst hsz0 (by rw[hφ];exact hszl) (by rw[hbl];exact hb1.1) (by rw[hbl];exact hb1.2) (by rw[hφ];exact hown2) (by rw[hφ,<-hext0];exact hsize2)
        (by rw[hφ,aN,hrl];exact hfit0) (fun i s hi=>by
         rw[aG]at hi;obtain⟨r,hr1,rfl⟩:=aF.1 hi;have hlt:=(ak.1 hr1).1;have hf:fps[i]?=some fps[i]:=av (by omega);obtain⟨v,q1,q2⟩:=hrr i r fps[i] hr1 hf;refine⟨v,by rw[hφ,<-hbase i hlt];exact q1,?_⟩;cases r with
         |none=>obtain⟨rfl,_⟩:=q2;exact .nil
         |some rows'=>obtain⟨b',q3,q4⟩:=q2;have hm:b'∈fps.flatten:=dH.2 ⟨fps[i],List.getElem_mem _,by rw[q3];simp⟩;exact .bq q4 (hSK b' (.inl (aC _ hm))).1 (hSK b' (.inl (aC _ hm))).2) (by rw[hφ,aN,hrl];exact hv0))
       fun sz' sl' k x eo hp=>by cases eo;have hm:=hmem k x hp;refine⟨fun e=>hn1.1 (by rw[<-hbl,<-e];exact hm),fun j o hj hown hne hx=>ha1 j o hj hown x hx (aC _ hm),fun k' hp'=>?_⟩;obtain⟨fp,h1,rfl⟩:=hpat k x hp;obtain⟨fp',h2,rfl⟩:=hpat k' x hp';exact DW hn1.2 h2 h1) fun x hx=>?_
      rcases dQ.1 hx with rfl|⟨sz',sl',k',h1,h2⟩
      .rw [hbl];simp
      .rw [bQ,if_pos rfl]at h1;cases h1;exact aC _ (hmem k' x h2)
     .simp at h
    .simp at h
   .--it is uE
    rename_i heq1 heq2;simp only[dJ,da]at heq1 heq2;obtain⟨⟨rfl,rfl,rfl⟩,rfl⟩:=heq1;obtain⟨rfl,rfl⟩:=heq2;split at h
    .rename_i w2 k hrec;obtain⟨rfl,rfl⟩:bq.map (fun i=>((i,none):Nat×Option Ob))++w2=bu/\k=m:=by simpa using h
     have e0:f1=[]:=by
      rcases hr1 with h|h
      .exact h.2
      .cases h
     subst e0;obtain⟨φ',hB⟩:=ih vs outs f2 nxt w2 k hl hw2 hr2 hI hfr hren hn2 (fun b hb=>hSK b (.inr hb)) ha2 ho2 hon2 hrec;have hmk:=hB.le;have hkeys:=hB.FP
     have hwn:∀j∈bq,cq w2 j=none:=fun j hj=>by
      cases hx:cq w2 j with
      |none=>rfl
      |some x=>
       obtain⟨p,hp,rfl⟩:=rA hx;rcases hkeys p hp with h|h
       .exact absurd rfl (hon3 p.1 hj p.1 h)
       .exact absurd (hren.sub _ (ho1 _ hj).2) (hfr p.1 h.1 h.2)
     have heq:bk (bq.map (fun i=>((i,none):Nat×Option Ob))++w2) hf=bk w2 hf:=by
      rw[ei];funext j
      conv=>lhs;unfold bk
      rw[qJ];by_cases hjo:j∈bq
      .rw [if_pos hjo];simp only[bk,hwn j hjo,(ho1 j hjo).1]
      .rw [if_neg hjo];rfl
     refine⟨φ',hB.le,hB.se,heq▸hB.inv,fun p hp=>?_,fun i hi=>?_,fun i o hio hownio hi=>?_⟩
     .rw [hoc];rcases ap.1 hp with hp|hp
      .obtain ⟨j,hj,rfl⟩:=b_.1 hp;exact .inl (aE _ hj)
      .rcases hkeys p hp with h|h
       .exact .inl (aH _ h)
       .exact .inr h
     .rw [hoc]at hi;rw[gM,qJ];by_cases hjo:i∈bq
      .rw [if_pos hjo];rfl
      .rw [if_neg hjo];exact hB.R6 i ((ap.1 hi).resolve_left hjo)
     .rw [heq]at hio|-;refine hB.bU i o hio hownio (hi.imp (fun h=>?_) id);rw[hoc]at h;refine(ap.1 h).resolve_left fun hjo=>?_;simp only[bk,hwn i hjo,(ho1 i hjo).1]at hio;cases hio
    .simp at h
   .simp at h
end
section
variable{P:Program}{S K:Nat->Prop}{w0 w:World}{Kn:Nat->Prop}{φ:Nat->gF}{hf:Nat->Option Ob}{H:bF}{e:jJ}{ρ:Operand->Value}{o:Oper}{call:Call}{a:Act}
 {nxt n':Nat} {v:TV} {u:fx} {aA:List Nat}
def OY(P:Program)(o:Oper)(a:Act)(S K:Nat->Prop)(w0 w:World)(Kn:Nat->Prop)(φ:Nat->gF)(hf:Nat->Option Ob)(nxt n':Nat)(v:TV)(u:fx):Prop:=∀(next:Act->World->Prop)(Q:Exit->Act->World->Prop),(∀val w',li S K w0 w Kn φ hf nxt n' v u val w'->next (a.put o.dst val) w')->o.wp P a w next Q
theorem dF.k9(h:dF P o a.eval S K w0 w Kn φ hf nxt n' v u):OY P o a S K w0 w Kn φ hf nxt n' v u:=by
 intro next Q hn
 obtain⟨nx,val,w',hr,hx,hd⟩:=h;unfold Oper.wp;rw[hr];rcases hx with rfl|⟨rfl,rfl⟩
 .exact hn _ _ hd
 .exact hn _ _ hd
theorem yl{tvs:List TV}{vs:List Value}(hl:tvs.length=vs.length)(h:∀(i:Nat)(t:TV)(v:Value),tvs[i]?=some t->vs[i]?=some v->gf S w Kn φ t v):gf S w Kn φ (tU tvs) (yj vs):=by
 have EF:gf S w Kn φ (.iN tvs) (.tuple vs.toArray):=by
  refine .iN (by simpa using hl) fun i x hi=>?_;have hlt:i<vs.length:=by rw[<-hl];exact(ak.1 hi).1
  have:=h i x vs[i] hi (av hlt);simpa[hlt]using this
 match tvs,vs,hl,h,EF with|[],[],_,_,EF=>exact EF|[t],[v],_,h,_=>exact h 0 t v rfl rfl|_::_::_,_::_::_,_,_,EF=>exact EF
theorem RD.Hb{S':Nat->Prop}{w':World}{v x:Value}(h:RD S w (.lit v) x):RD S' w' (.lit v) x:=by cases h with|lit h=>exact .lit h
theorem Ey.fk{S':Nat->Prop}:∀{rs:List R}{vs:List Value}{fp:List Nat},rs.all yM=true->Ey S w rs vs fp->Ey S' w rs vs []:=by
 intro rs;induction rs with
 |nil=>intro vs fp _ h;cases vs with|nil=>rfl|cons v vs=>exact h.elim
 |cons r rs ih=>
  intro vs fp hl h;cases vs with
  |nil=>exact h.elim
  |cons v vs=>
   simp only[List.all_cons,ai]at hl;obtain⟨f1,f2,_,h1,h2⟩:=h;refine⟨[],[],rfl,?_,ih hl.2 h2⟩;have hl1:=hl.1;cases r with
   |c t=>
    cases t with
    |d x=>
     cases x with
     |lit y=>have h1:RT S w (.d (.lit y)) v f1:=h1;cases h1 with|d hd=>exact RT.d hd.Hb
     |_=>simp[yM]at hl1
    |_=>simp[yM]at hl1
   |agg ts=>
    obtain⟨aL,fps,rfl,q1,q2,q3,q4⟩:=h1;refine⟨aL,fps.map fun _=>[],rfl,q1,by simpa using q2,by simp,fun i t f hi hfi=>?_⟩;simp only[yM,bc]at hl1;have ht:=hl1 t (aW hi);obtain rfl:f=[]:=by rw[aG]at hfi;obtain⟨_,_,rfl⟩:=aF.1 hfi;rfl
    have hlt:i<fps.length:=by rw[q2];exact(ak.1 hi).1
    have:=q4 i t fps[i] hi (av hlt);generalize fps[i]=g at this;cases t with
    |d x=>
     cases x with
     |lit y=>cases this with|d hd=>exact RT.d hd.Hb
     |_=>simp at ht
    |_=>simp at ht
theorem Inv.after{S':Nat->Prop}{w':World}{fp:List Nat}(hI:Inv S K w0 Kn φ hf w)(hs:gV S w S' w')(hsub:∀b,S' b->S b\/b∈fp\/w.heap.size<=b)(hlt:∀b,S' b->b<w'.heap.size)
  (hfp:∀b∈fp,¬K b) (haw:iT w φ hf fp) (hfrm:GE (fun b=>b<w.heap.size/\b∉fp) w w'):Inv S' K w0 Kn φ hf w':=by
 refine hI.kE hs (Ren.refl _ _) hlt (fun b hb hK=>?_) ⟨hI.ng.FO,fun b hb=>?_,e_ hI.ng.grow hfrm.grow,fun a ha=>(hfrm.AS a (cg ha hI.ng.grow)).trans (hI.ng.AS a ha),fun b aL ho=>?_,hI.ng.io.trans hfrm.io⟩ (fun id o ho=>.inl ⟨ho,fun hown=>?_⟩) hI.eJ ?_
 .have h1:b<w.heap.size:=cg (hI.ng.FO b hK) hI.ng.grow;rcases hsub b hb with h|h|h
  .exact hI.sk b h hK
  .exact hfp b h hK
  .omega
 .have h1:b<w.heap.size:=cg (hI.ng.FO b hb) hI.ng.grow;exact(hfrm.mQ b ⟨h1,fun h=>hfp b h hb⟩).trans (hI.ng.mQ b hb)
 .obtain ⟨a1,h1,h2⟩:=hI.ng.bq b aL ho;obtain⟨a2,h3,h4⟩:=hfrm.bq b a1 h1;exact⟨a2,h3,h4.trans h2⟩
 .obtain ⟨h1,h2,h3⟩:=(hI.iL id o ho).2.bq hown;have h4:=haw id o ho hown _ (kO id);refine⟨hfrm.mQ _ ⟨h3,h4⟩,fun h=>?_⟩;rcases hsub _ h with h|h|h
  .exact h1 h
  .exact h4 h
  .omega
 .intro id sz sl ho;have h4:=haw id _ ho rfl
  have key:∀x∈ip w φ hf id,w'.heap[x]?=w.heap[x]?/\¬S' x:=fun x hx=>by
   obtain⟨h1,_,h3⟩:=oq hI ho rfl hx;refine⟨hfrm.mQ _ ⟨h3,h4 x hx⟩,fun h=>?_⟩;rcases hsub _ h with h|h|h
   .exact h1 h
   .exact h4 x hx h
   .omega
  refine⟨ho,(key _ (kO id)).1,fun k x hp=>?_⟩;obtain⟨q1,q2⟩:=key x (dQ.2 (.inr ⟨sz,sl,k,ho,hp⟩));exact⟨q1,q2,(hI.wT id sz sl k x ho hp).1⟩
theorem Jt{as:List A}{aA:List Nat}{lent:List (C×List Nat×List Nat)}{vs:List Value}{rs:List R}{outs:List T}{ro:Bool}{val:Value}{w':World}{rd:List Nat}
  (hI:Inv S K w0 Kn φ (aB H) w) (hfr:∀j,nxt<=j->j<n'->¬Kn j)
  (hargs:M3 (SB S w φ (aB H) aA) w as vs ((lent.flatMap (·.2.1)).flatMap (ip w φ (aB H)))) (hown:∀i∈lent.flatMap (·.2.1),∃o,aB H i=some o/\cT o=true) (hlent:JF Kn φ S w lent (nZ as vs))
  (hwhole:eL H lent=true) (hnd:(lent.flatMap (·.2.1)).Nodup)
  (hleft:Left (SB S w φ (aB H) aA) w ((lent.flatMap (·.2.1)).flatMap (ip w φ (aB H))) rs outs (nZ as vs) val w')
  (h:(if ro then
      if rs.all yM/\lent.isEmpty/\outs.isEmpty then some (tU (ij nxt rs).1,(ij nxt rs).2.1,aA,(ij nxt rs).2.2)else none
     else
      match dW H aA aA with
      |none=>none
      |some fu=>
       match eV nxt lent outs with
       |none=>none
       |some (bu,m)=>some (tU (ij m rs).1,(ij m rs).2.1++bu++fu,aA++lent.flatMap (·.2.2),(ij m rs).2.2))=some (v,u,rd,n')):
  li S K w0 w Kn φ (aB H) nxt n' v u val w':=by
 obtain⟨S',kF,fp1,fp2,rfl,hs,hsub,hlt,hrr,hrt,hnd2,hb,hfrm⟩:=hleft;split at h
 .--nothing is DN
  split at h
  .rename_i hcond;obtain⟨hl,hle,hoe⟩:=hcond;have hle':lent=[]:=by simpa using hle
   subst hle';obtain⟨rfl,rfl,_,rfl⟩:tU (ij nxt rs).1=v/\(ij nxt rs).2.1=u/\aA=rd/\(ij nxt rs).2.2=n':=by simpa using h
   have hI':Inv S K w0 Kn φ (aB H) w':=hI.after (fp:=[]) ⟨fun _ h=>h,fun b hb=>hs.eh b (.inl hb)⟩ (fun b hb=>.inl hb) (fun b hb=>cg (hI.uO b hb) hfrm.grow) (fun b hb=>by simp at hb)
    (fun j o _ _ x _ h=>by simp at h) hfrm
   obtain⟨φ',hL,hlen,hr⟩:=xO rs nxt kF [] hI' hfr (hrr.fk hl) List.nodup_nil (fun b hb=>by simp at hb) (fun j o _ _ x _ h=>by simp at h);exact⟨hL.le,S,φ',⟨fun _ h=>h,fun b hb=>hs.eh b (.inl hb)⟩,hL.se,yl hlen hr,hL.inv⟩
  .simp at h
 .split at h
  .simp at h
  .rename_i fu hfz;split at h
   .simp at h
   .rename_i bu m hbk;obtain⟨rfl,rfl,_,rfl⟩:tU (ij m rs).1=v/\(ij m rs).2.1++bu++fu=u/\aA++lent.flatMap (·.2.2)=rd/\(ij m rs).2.2=n':=by simpa using h
    have hI1:=hI.F3 hfz;have hmn:=GI rs m;have hnm:=AZ _ _ _ _ _ hbk
    -- what was lent is dX of the heap
    let kills:fx:=(jV lent).map fun i=>(i,none);have hkn:∀j,cq kills j=if j∈jV lent then some none else none:=qJ (jV lent)
    have hf2:∀id o,bk kills (bk fu (aB H)) id=some o->id∉jV lent/\bk fu (aB H) id=some o:=by
     intro id o ho;have:bk kills (bk fu (aB H)) id=(match cq kills id with|some o=>o|none=>bk fu (aB H) id):=rfl;rw[this,hkn]at ho;by_cases hm:id∈jV lent
     .rw [if_pos hm]at ho;simp at ho
     .rw [if_neg hm]at ho;exact⟨hm,ho⟩
    have hIk:Inv (SB S w φ (aB H) aA) K w0 Kn φ (bk kills (bk fu (aB H))) w:=hI1.lV fun id o ho=>(hf2 id o ho).2
    -- the frozen part agrees with the heap eW, where a thing is owned
    have hold:∀id o,bk fu (aB H) id=some o->cT o=true->aB H id=some o:=by
     intro id o ho hown;by_cases hm:id∈aA
     .obtain ⟨o',ho',hfn⟩:=(lc aA fu hfz id).1 hm;simp only[bk,hfn]at ho;obtain rfl:=aa ho;have:=(AT hI hm ho').1;rw[this]at hown;simp at hown
     .simpa only[bk,(lc aA fu hfz id).2 hm]using ho
    have hbk2:∀j o,bk kills (bk fu (aB H)) j=some o->cT o=true->aB H j=some o/\ip w φ (bk kills (bk fu (aB H))) j=ip w φ (aB H) j:=fun j o hj hjo=>by have h3:=hold j o (hf2 j o hj).2 hjo;exact⟨h3,gx rfl (hj.trans h3.symm)⟩
    have haw:iT w φ (bk kills (bk fu (aB H))) ((lent.flatMap (·.2.1)).flatMap (ip w φ (aB H))):=by intro j o hj hjo x hx hm;obtain⟨h1,h2⟩:=hf2 j o hj;obtain⟨i,hi,hie⟩:=cn.1 hm;obtain⟨oi,hoi,hoio⟩:=hown i hi;obtain⟨h3,h4⟩:=hbk2 j o hj hjo;rw[h4]at hx;exact nM hI hoi h3 hoio hjo (fun e=>h1 (e▸hi)) hie hx
    have hfpK:∀b∈((lent.flatMap (·.2.1)).flatMap (ip w φ (aB H))),¬K b/\b<w.heap.size:=by intro b hbm;obtain⟨i,hi,hie⟩:=cn.1 hbm;obtain⟨oi,hoi,hoio⟩:=hown i hi;exact(oq hI hoi hoio hie).2
    have hI2:Inv S' K w0 Kn φ (bk kills (bk fu (aB H))) w':=hIk.after hs hsub hlt (fun b hb=>(hfpK b hb).1) haw hfrm
    have hK12:∀b∈fp1++fp2,¬S' b/\¬K b:=fun b hbm=>by
     obtain⟨h1,h2⟩:=hb b hbm;refine⟨h1,fun hk=>?_⟩;rcases h2 with h2|h2
     .exact (hfpK b h2).1 hk
     .have:=hI.ng.FO b hk;have:=hI.ng.grow;omega
    have haw12:iT w' φ (bk kills (bk fu (aB H))) (fp1++fp2):=fun j o hj hjo x hx hm=>by
     rw[Bc (hfrm.mQ _ ⟨((hIk.iL j o hj).2.bq hjo).2.2,haw j o hj hjo _ (kO j)⟩)]at hx;rcases(hb _ hm).2 with h2|h2
     .exact haw j o hj hjo x hx h2
     .have:=(oq hIk hj hjo hx).2.2;omega
    rw[bV]at hnd2;obtain⟨hn1,hn2,hn3⟩:=hnd2;simp only[ap]at hK12
    obtain⟨φ1,hB⟩:=Gx hI hfrm.bq lent (nZ as vs) outs fp2 nxt bu m hlent hwhole hrt hI2 (fun j h1 h2=>hfr j h1 (by omega)) (Ren.refl _ _) hn2 (fun b hb=>hK12 b (.inr hb))
     (fun j o hj hjo x hx hm=>haw12 j o hj hjo x hx (by simp[hm]))
     (fun i hi=>by obtain⟨oi,hoi,_⟩:=hown i hi;refine⟨?_,(hI.iL i oi hoi).1⟩;show(match cq kills i with|some o=>o|none=>bk fu (aB H) i)=none;rw[hkn,if_pos hi]) hnd hbk
    have hkk:bk bu (bk kills (bk fu (aB H)))=bk bu (bk fu (aB H)):=by
     funext j;by_cases hm:j∈jV lent
     .obtain ⟨x,hx⟩:=gW.1 (hB.R6 j hm);simp only[bk,hx]
     .have h1:bk kills (bk fu (aB H)) j=bk fu (aB H) j:=by show(match cq kills j with|some o=>o|none=>bk fu (aB H) j)=_;rw[hkn,if_neg hm]
      have h2:∀g:Nat->Option Ob,bk bu g j=(match cq bu j with|some o=>o|none=>g j):=fun _=>rfl;rw[h2,h2,h1]
    have hIB:=hB.inv;rw[hkk]at hIB
    have haw1:iT w' φ1 (bk bu (bk fu (aB H))) fp1:=by
     intro j o hj hjo x hx hm;by_cases hk:j∈jV lent\/(nxt<=j/\j<m)
     .have:=hB.bU j o (by rw[hkk];exact hj) hjo hk x (by rw[hkk];exact hx);exact hn3 _ hm _ this rfl
     .have hfn:cq bu j=none:=k_ fun p hp e=>by
       rcases hB.FP p hp with h|h
       .exact hk (.inl (e▸h))
       .exact hk (.inr (e▸h))
      have hj2:bk kills (bk fu (aB H)) j=some o:=by rw[<-hkk]at hj;simpa only[bk,hfn]using hj
      have hknj:=(hI2.iL j o hj2).1;rw[gx (hB.se.eh j hknj) (hj.trans hj2.symm)]at hx;exact haw12 j o hj2 hjo x hx (by simp[hm])
    obtain⟨φ2,hL,hlen,hr⟩:=xO rs m kF fp1 hIB (fun j h1 h2 hk=>by
      rcases hk with hk|hk
      .exact hfr j (by omega) h2 hk
      .omega) hrr hn1 (fun b hb=>hK12 b (.inl hb)) haw1
    refine⟨by omega,S',φ2,(SB.um aA).trans hs,⟨fun i h=>.inl h,fun i h=>(hL.se.eh i (.inl h)).trans (hB.se.eh i h)⟩,?_,?_⟩
    .exact (yl hlen hr).kn fun i=>(rn hnm hmn i).1
    .rw [ei,ei];exact hL.inv.xh fun i=>rn hnm hmn i
theorem Aj:∀n,(∀c x aA,dV H n c=some (x,aA)->∀i∈aA,∃o,aB H i=some o)/\(∀cs xs aA,fS H n cs=some (xs,aA)->∀i∈aA,∃o,aB H i=some o):=by
 have leaf:∀n c x aA,(match c with|.op _ _|.oN _ _=>False|_=>True)->dV H n c=some (x,aA)->∀i∈aA,∃o,aB H i=some o:=by
  intro n c x aA hl h i hi;cases c with
  |d y=>simp only[dV,bl,da]at h;obtain⟨_,rfl⟩:=h;simp at hi
  |fh sz id off len=>
   simp only[dV]at h;split at h
   all_goals first
    |(split at h
      .obtain ⟨_,rfl⟩:=ad (aa h);obtain rfl:=am.1 hi;exact⟨_,by assumption⟩
      .simp at h)
    |(split at h
      .split at h
       .obtain ⟨_,rfl⟩:=ad (aa h);obtain rfl:=am.1 hi;exact⟨_,by assumption⟩
       .simp at h
      .simp at h)
    |simp at h
  |ep id di off=>
   simp only[dV]at h;split at h
   all_goals first
    |(split at h
      .split at h
       .obtain ⟨_,rfl⟩:=ad (aa h);obtain rfl:=am.1 hi;exact⟨_,by assumption⟩
       .simp at h
      .simp at h)
    |simp at h
  |op id off=>exact hl.elim
  |oN f caps=>exact hl.elim
  |om id=>cases n<;>simp[dV]at h
 intro n;induction n with
 |zero=>
  refine⟨fun c x aA h=>?_,fun cs xs aA h=>?_⟩
  .cases c with|op id off=>simp[dV]at h|oN f caps=>simp[dV]at h|_=>exact leaf 0 _ x aA trivial h
  .cases cs with
   |nil=>
    obtain⟨_,rfl⟩:[]=xs/\[]=aA:=by simpa[fS]using h
    intro i hi;simp at hi
   |cons c cs=>simp[fS]at h
 |succ n ih=>
  refine⟨fun c x aA h=>?_,fun cs xs aA h=>?_⟩
  .cases c with
   |op id off=>
    simp only[dV]at h;split at h
    .split at h
     .obtain ⟨_,rfl⟩:=ad (aa h);intro i hi;obtain rfl:=am.1 hi;exact⟨_,by assumption⟩
     .simp at h
    .split at h
     .rename_i hv;split at h
      .obtain ⟨_,rfl⟩:=ad (aa h);intro i hi;rcases aM.1 hi with rfl|hi
       .exact ⟨_,by assumption⟩
       .exact ih.2 _ _ _ hv i hi
      .simp at h
     .simp at h
    .simp at h
   |oN f caps=>
    simp only[dV]at h;split at h
    .rename_i hv;obtain⟨_,rfl⟩:=ad (aa h);exact ih.2 _ _ _ hv
    .simp at h
   |_=>exact leaf _ _ x aA trivial h
  .cases cs with
   |nil=>
    obtain⟨_,rfl⟩:[]=xs/\[]=aA:=by simpa[fS]using h
    intro i hi;simp at hi
   |cons c cs=>
    simp only[fS]at h;split at h
    .rename_i h1 h2;obtain⟨_,rfl⟩:=ad (aa h);intro i hi;rcases ap.1 hi with hi|hi
     .exact ih.1 _ _ _ h1 i hi
     .exact ih.2 _ _ _ h2 i hi
    .simp at h
theorem Cw:∀cs xs aA,dP H cs=some (xs,aA)->∀i∈aA,∃o,aB H i=some o:=by
 intro cs;induction cs with
 |nil=>
  intro xs aA h i hi;obtain⟨_,rfl⟩:[]=xs/\[]=aA:=by simpa[dP]using h
  simp at hi
 |cons c cs ih=>
  intro xs aA h i hi;simp only[dP]at h;split at h
  .rename_i h1 h2;obtain⟨_,rfl⟩:=ad (aa h);rcases ap.1 hi with hi|hi
   .exact (Aj 300).1 _ _ _ h1 i hi
   .exact ih _ _ h2 i hi
  .simp at h
theorem Bh:∀(tvs:List TV)(ms:List Bool)(as:List A)(aA:List Nat)(lent:List (C×List Nat×List Nat)),gu H tvs ms=some (as,aA,lent)->∀i∈aA,∃o,aB H i=some o:=by
 intro tvs;induction tvs with
 |nil=>
  intro ms as aA lent h i hi;obtain⟨_,rfl,_⟩:[]=as/\[]=aA/\[]=lent:=by simpa[gu]using h
  simp at hi
 |cons t tvs ih=>
  intro ms as aA lent h i hi;simp only[gu]at h;split at h
  .simp at h
  .rename_i hrec;split at h
   .split at h
    .split at h
     .obtain ⟨_,rfl,_⟩:=(by simpa using h:_/\_/\_)
      exact ih _ _ _ _ hrec i hi
     .simp at h
    .simp at h
   .split at h
    .split at h
     .rename_i hv;obtain⟨_,rfl,_⟩:=(by simpa using h:_/\_/\_)
      rcases ap.1 hi with hi|hi
      .exact (Aj 300).1 _ _ _ hv i hi
      .exact ih _ _ _ _ hrec i hi
     .simp at h
    .split at h
     .rename_i hv;obtain⟨_,rfl,_⟩:=(by simpa using h:_/\_/\_)
      rcases ap.1 hi with hi|hi
      .exact Cw _ _ _ hv i hi
      .exact ih _ _ _ _ hrec i hi
     .simp at h
    .simp at h
theorem RO.QW{l:gF}{o:Ob}(h:RO S K w Kn φ l o)(hs:∀b,S b->b<w.heap.size):l.bU<w.heap.size:=by cases h with|aL hsz hl hS hK hown=>exact hown.lt|box hb hS hK hown=>exact hown.lt|map hS hK hmp=>exact(Array.getElem?_eq_some_iff.1 hmp).1|cap hsz hl hS hK hown=>exact hown.lt|nst hsz hl hS hK hown=>exact hown.lt|py hsz hl hS=>exact hs _ hS|oe hb hS=>exact hs _ hS
theorem RO.Uy{l:gF}{o:Ob}(h:RO S K w Kn φ l o)(hs:cT o=false):S l.bU:=by cases h with|py hsz hl hS=>exact hS|oe hb hS=>exact hS|_=>simp[cT]at hs
theorem G0{c:Go.Call}{fop:Operand}{ro:Bool}{j8:List Bool}(ho:o.op=.call c)(hcal:c.callee=.value fop)(hok:m9 P call)(hI:Inv S K w0 Kn φ (aB H) w)
  (hfr:∀j,nxt<=j->j<n'->¬Kn j) (hρ:∀x tv,kM e x=some tv->gf S w Kn φ tv (a.eval x))
  (h:cN call (.call ro j8) ((fop::c.args.toList).map (kM e)) H nxt=some (v,u,aA,n')):OY P o a S K w0 w Kn φ (aB H) nxt n' v u:=by
 rw[aD]at h;change uF call ro j8 (kM e fop) (c.args.toList.map (kM e)) H nxt=_ at h;unfold uF at h;split at h
 .rename_i f caps vs hf hvs;split at h
  .simp at h
  .rename_i as ids1 lent hargs;split at h
   .rename_i hcond;obtain⟨hwhole,hnd,hapart⟩:=hcond;split at h
    .simp at h
    .rename_i rs outs hcall
     -- the callee
     have hfv:∃cvs:Array Value,a.eval fop=.func (.func f) #[] cvs/\caps.length=cvs.size/\∀(i:Nat)(x:C),caps[i]?=some x->RC S w Kn φ x (cvs.getD i undef):=by
      split at hf
      .rename_i g capsD hop;obtain⟨rfl,rfl⟩:g=f/\capsD.map C.d=caps:=by simpa using hf
       have hr:=hρ _ _ hop;generalize a.eval fop=fv at hr|-;cases hr with
       |c hr=>cases hr with
        |d hd=>cases hd with|@fn _ _ cvs hlen hrd=>refine⟨cvs,rfl,by simpa using hlen,fun i x hi=>?_⟩;rw[aG]at hi;obtain⟨y,hy,rfl⟩:=aF.1 hi;exact .d (hrd i y hy)
      .rename_i g caps' hop;obtain⟨rfl,rfl⟩:g=f/\caps'=caps:=by simpa using hf
       have hr:=hρ _ _ hop;generalize a.eval fop=fv at hr|-;cases hr with
       |c hr=>cases hr with|@oN _ _ cvs hlen hrc=>exact⟨cvs,rfl,hlen,hrc⟩
      .simp at hf
     obtain⟨cvs,hfe,hcl,hcr⟩:=hfv;obtain⟨hal,har⟩:=vz hρ hvs;let kF:List Value:=c.args.toList.map a.eval++cvs.toList
     obtain⟨p1,p2,p3⟩:=Gz hI (vs++caps.map TV.c) j8 as ids1 lent kF hargs (by simp[kF,hal,hcl]) (fun i t val hi hv=>by
      by_cases hlt:i<vs.length
      .rw [bM hlt]at hi;simp only[kF]at hv;rw[bM (by simp only[aN];omega),aG]at hv;obtain⟨x,hx,rfl⟩:=aF.1 hv;exact har i x t hx hi
      .rw [bP (by omega),aG]at hi;obtain⟨x,hx,rfl⟩:=aF.1 hi;simp only[kF]at hv;rw[bP (by simp only[aN];omega)]at hv;simp only[aN,<-hal]at hv;have:=hcr _ x hx;rw[Array.getElem?_toList]at hv;have e1:cvs.getD (i-vs.length) undef=val:=by simp[hv]
       rw[e1]at this;exact .c this)
     have hSlt:∀b,SB S w φ (aB H) ids1 b->b<w.heap.size:=by
      rintro b (hb|⟨i,hi,hb⟩)
      .exact hI.uO b hb
      .obtain ⟨oi,hoi⟩:=Bh _ _ _ _ _ hargs i hi;rcases dQ.1 hb with rfl|⟨sz,sl,k,h1,h2⟩
       .exact (hI.iL i oi hoi).2.QW hI.uO
       .exact (hI.Ig h1 h2).2.2.1
     have hnS:∀b∈((lent.flatMap (·.2.1)).flatMap (ip w φ (aB H))),¬SB S w φ (aB H) ids1 b:=by
      intro b hb hS;obtain⟨i,hi,hb⟩:=cn.1 hb;obtain⟨oi,hoi,hoio⟩:=p2 i hi;have hb1:=(oq hI hoi hoio hb).1;rcases hS with hS|⟨j,hj,hje⟩
      .exact hb1 hS
      .obtain ⟨oj,hoj⟩:=Bh _ _ _ _ _ hargs j hj;cases hjo:cT oj with
       |true=>refine nM hI hoi hoj hoio hjo (fun e=>?_) hb hje;have:=bc.1 hapart i hi;rw[e]at this;simp[hj]at this
       |false=>
        rcases dQ.1 hje with rfl|⟨sz,sl,k,h1,_⟩
        .exact hb1 ((hI.iL j oj hoj).2.Uy hjo)
        .rw [hoj]at h1;cases h1;cases hjo
     have hgood:=hok f as rs outs hcall (SB S w φ (aB H) ids1) w kF _ hSlt p1 (Be hI hnd p2) hnS (hI.BU.mono (SB.um _));intro next Q hn
     have hfin:∀val w',Left (SB S w φ (aB H) ids1) w ((lent.flatMap (·.2.1)).flatMap (ip w φ (aB H))) rs outs (nZ as kF) val w'->next (a.put o.dst val) w':=by intro val w' hleft;refine hn val w' (Jt hI hfr p1 p2 p3 hwhole hnd hleft (ro:=ro) (v:=v) (u:=u) (rd:=aA) ?_);exact h
     have hrun:∀r,(callFunc f kF.toArray).run P w=r->(execOp a.eval o).run P w=r:=by
      intro r hr;have e1:(#[]++c.args.map a.eval)++cvs=kF.toArray:=by apply Array.ext';simp[kF]
      simp only[execOp,ho,Sem.run_bind,resolve,hcal,hfe,Deferred.ofValue,Sem.run_pure,Result.andThen_ok,invoke,e1];exact hr
     rcases hgood with⟨g,as',hr,hc⟩|⟨val,hr,hleft⟩
     .unfold Oper.wp;rw[hrun _ hr,Oper.upon_enter];refine hc.mono fun en w' hR=>?_;obtain⟨val,rfl,hleft⟩:=hR;exact hfin val w' hleft
     .unfold Oper.wp;rw[hrun _ hr];exact hfin val w hleft
   .simp at h
 .simp at h
end
section
variable{P:Program}{S K:Nat->Prop}{w0 w:World}{Kn:Nat->Prop}{φ:Nat->gF}{H:bF}{e:jJ}{o:Oper}{call:Call}{a:Act}{dg:Ah}{k:Ev.K}{args:List Operand}
 {nxt n':Nat} {v:TV} {u:fx} {aA:List Nat}
theorem fJ{vs:List (Option TV)}:cN call .gj vs H nxt=none:=by unfold cN;split<;>first|rfl|simp_all
theorem Jv{op:BinOp}{t ty:TypeId}{x y:Operand}(ho:o.op=.binOp op t x y ty)(hk:Hu P op t x y=(k,args))(hI:Inv S K w0 Kn φ (aB H) w)(hE:jJ.ok S w Kn φ e a.tmps)
  (h:cN call k (args.map (kM e)) H nxt=some (v,u,aA,n')):dF P o a.eval S K w0 w Kn φ (aB H) nxt n' v u:=by
 have hρ:∀x tv,kM e x=some tv->gf S w Kn φ tv (a.eval x):=fun x tv h=>tw hI.BU hE h;have plainBin:(k,args)=(Ev.K.Ad op,[x,y])->dF P o a.eval S K w0 w Kn φ (aB H) nxt n' v u:=by intro hk;obtain⟨rfl,rfl⟩:=ad hk;exact P8 ho hI (fun z hz=>hρ x z hz) (fun z hz=>hρ y z hz) h
 have nilBin:∀kind,(op=.eql\/op=.neq)->KN P t kind->(k,args)=p8 kind (op==.neq) x y->dF P o a.eval S K w0 w Kn φ (aB H) nxt n' v u:=by
  intro kind hop hu hk;unfold p8 at hk;split at hk
  .rename_i hy;obtain⟨rfl,rfl⟩:=ad hk;exact Dn ho hop hu hI (fun _=>rfl) (.inl ⟨rfl,hy⟩) (fun z hz=>hρ x z hz) h
  .split at hk
   .rename_i hx;obtain⟨rfl,rfl⟩:=ad hk;exact Dn ho hop hu hI (fun _=>rfl) (.inr ⟨rfl,hx⟩) (fun z hz=>hρ y z hz) h
   .obtain ⟨rfl,rfl⟩:=ad hk;rw[fJ]at h;simp at h
 have eqs:(op=.eql\/op=.neq)->(match P.underlying t with
  |some .bool=>(Ev.K.uG (op==.neq),[x,y])
  |some (.int _)|some (.float _)|some .string=>(Ev.K.Ad op,[x,y])
  |some (.slice _)=>p8 0 (op==.neq) x y
  |some (.pointer _)=>p8 1 (op==.neq) x y
  |some (.func _ _ _)=>p8 2 (op==.neq) x y
  |some (.struct _)|some (.array _ _)=>match zH P 8 t with|some ks=>if P.eqGuardType P.depth t=false then(Ev.K.zf (op==.neq) ks,[x,y])else(Ev.K.gj,[])|none=>(Ev.K.gj,[])
  |_=>(Ev.K.gj,[]))=(k,args)->dF P o a.eval S K w0 w Kn φ (aB H) nxt n' v u:=by
  intro hop hk;split at hk
  .rename_i hu;obtain⟨rfl,rfl⟩:=ad hk;exact Iu ho hop hu hI (fun z hz=>hρ x z hz) (fun z hz=>hρ y z hz) h
  .exact plainBin hk.symm
  .exact plainBin hk.symm
  .exact plainBin hk.symm
  .rename_i hu;exact nilBin 0 hop ⟨_,hu⟩ hk.symm
  .rename_i hu;exact nilBin 1 hop ⟨_,hu⟩ hk.symm
  .rename_i hu;exact nilBin 2 hop ⟨_,_,_,hu⟩ hk.symm
  .rename_i hu;split at hk
   .rename_i hks;split at hk
    .rename_i hg;obtain⟨rfl,rfl⟩:=ad hk;exact Do ho hop hks (by simp[fM,hu]) hg hI (fun z hz=>hρ x z hz) (fun z hz=>hρ y z hz) h
    .obtain ⟨rfl,rfl⟩:=ad hk;rw[fJ]at h;simp at h
   .obtain ⟨rfl,rfl⟩:=ad hk;rw[fJ]at h;simp at h
  .rename_i hu;split at hk
   .rename_i hks;split at hk
    .rename_i hg;obtain⟨rfl,rfl⟩:=ad hk;exact Do ho hop hks (by simp[fM,hu]) hg hI (fun z hz=>hρ x z hz) (fun z hz=>hρ y z hz) h
    .obtain ⟨rfl,rfl⟩:=ad hk;rw[fJ]at h;simp at h
   .obtain ⟨rfl,rfl⟩:=ad hk;rw[fJ]at h;simp at h
  .obtain ⟨rfl,rfl⟩:=ad hk;rw[fJ]at h;simp at h
 cases op with|eql=>exact eqs (.inl rfl) hk|neq=>exact eqs (.inr rfl) hk|_=>exact plainBin hk.symm
theorem pX{α:Type}{x:Array α}{y:α}(h:x.toList=[y]):x= #[y]:=by rw[<-lm (xs:=x),h]
theorem pg{α:Type}{x:Array α}{y z:α}(h:x.toList=[y,z]):x= #[y,z]:=by rw[<-lm (xs:=x),h]
theorem Ac{b:Builtin}{c:Go.Call}(ho:o.op=.call c)(hcal:c.callee=.builtin b)(hk:sQ P b c.args.toList c.argTypes.toList=(k,args))(hI:Inv S K w0 Kn φ (aB H) w)
  (hE:jJ.ok S w Kn φ e a.tmps) (hn0:nxt<n'->¬Kn nxt) (h:cN call k (args.map (kM e)) H nxt=some (v,u,aA,n')):dF P o a.eval S K w0 w Kn φ (aB H) nxt n' v u:=by
 have hρ:∀x tv,kM e x=some tv->gf S w Kn φ tv (a.eval x):=fun x tv h=>tw hI.BU hE h
 have lenArgs:∀str,k=.len str->args=c.args.toList->∃x,c.args.toList=[x]:=by
  intro str hk ha;subst hk ha;generalize c.args.toList=l at h
  match l,h with|[x],_=>exact⟨x,rfl⟩|[],h=>simp[cN]at h|x::y::r,h=>simp[cN]at h
 unfold sQ at hk;split at hk
 .rename_i t hts;split at hk
  .rename_i hu;obtain⟨rfl,rfl⟩:=ad hk;obtain⟨x,hx⟩:=lenArgs true rfl rfl;rw[hx]at h;exact KB (str:=true) ho hcal (pX hx) (pX hts) hu hI (fun z hz=>hρ x z hz) h
  .rename_i hu;obtain⟨rfl,rfl⟩:=ad hk;obtain⟨x,hx⟩:=lenArgs false rfl rfl;rw[hx]at h;exact KB (str:=false) ho hcal (pX hx) (pX hts) ⟨_,hu⟩ hI (fun z hz=>hρ x z hz) h
  .obtain ⟨rfl,rfl⟩:=ad hk;rw[fJ]at h;simp at h
 .obtain ⟨rfl,rfl⟩:=ad hk;exact AD (m:=true) ho hcal hI hρ h
 .obtain ⟨rfl,rfl⟩:=ad hk;exact AD (m:=false) ho hcal hI hρ h
 .rename_i s x hts;split at hk
  .rename_i el el2 hus hux;split at hk
   .rename_i n z hsz hz;split at hk
    .rename_i hb;obtain⟨rfl,rfl⟩:=ad hk
     have:∃p q,c.args.toList=[p,q]:=by
      generalize c.args.toList=l at h
      match l,h with|[p,q],_=>exact⟨p,q,rfl⟩|[],h=>simp[cN]at h|[p],h=>simp[cN]at h|p::q::r::t,h=>simp[cN]at h
     obtain⟨p,q,hpq⟩:=this;rw[hpq]at h;exact Iv ho hcal (pg hpq) (pg hts) hus hux hsz hz hb.2 hb.1 hI hn0 (fun z hz=>hρ p z hz) (fun z hz=>hρ q z hz) h
    .obtain ⟨rfl,rfl⟩:=ad hk;rw[fJ]at h;simp at h
   .obtain ⟨rfl,rfl⟩:=ad hk;rw[fJ]at h;simp at h
  .rename_i el kd hus hux;split at hk
   .rename_i n z hsz hz;split at hk
    .rename_i hb;obtain⟨rfl,rfl⟩:=ad hk
     have:∃p q,c.args.toList=[p,q]:=by
      generalize c.args.toList=l at h
      match l,h with|[p,q],_=>exact⟨p,q,rfl⟩|[],h=>simp[cN]at h|[p],h=>simp[cN]at h|p::q::r::t,h=>simp[cN]at h
     obtain⟨p,q,hpq⟩:=this;rw[hpq]at h;exact P9 ho hcal (pg hpq) (pg hts) hus hux hsz hz hb.2 hb.1 hI hn0 (fun z hz=>hρ p z hz) (fun z hz=>hρ q z hz) h
    .obtain ⟨rfl,rfl⟩:=ad hk;rw[fJ]at h;simp at h
   .obtain ⟨rfl,rfl⟩:=ad hk;rw[fJ]at h;simp at h
  .obtain ⟨rfl,rfl⟩:=ad hk;rw[fJ]at h;simp at h
 .rename_i t hts;split at hk
  .rename_i el hu;obtain⟨rfl,rfl⟩:=ad hk
   have:∃p,c.args.toList=[p]:=by
    generalize c.args.toList=l at h
    match l,h with|[p],_=>exact⟨p,rfl⟩|[],h=>simp[cN]at h|p::q::r,h=>simp[cN]at h
   obtain⟨p,hp⟩:=this;rw[hp]at h;exact P6 ho hcal (pX hp) (pX hts) hu hI (fun z hz=>hρ p z hz) h
  .obtain ⟨rfl,rfl⟩:=ad hk;rw[fJ]at h;simp at h
 .rename_i d x hts;split at hk
  .rename_i el hud;split at hk
   .rename_i n hsz;obtain⟨rfl,rfl⟩:=ad hk
    have:∃p q,c.args.toList=[p,q]:=by
     generalize c.args.toList=l at h
     match l,h with|[p,q],_=>exact⟨p,q,rfl⟩|[],h=>simp[cN]at h|[p],h=>simp[cN]at h|p::q::r::t,h=>simp[cN]at h
    obtain⟨p,q,hpq⟩:=this;rw[hpq]at h;exact NQ ho hcal (pg hpq) (pg hts) hud hsz hI (fun z hz=>hρ p z hz) (fun z hz=>hρ q z hz) h
   .obtain ⟨rfl,rfl⟩:=ad hk;rw[fJ]at h;simp at h
  .obtain ⟨rfl,rfl⟩:=ad hk;rw[fJ]at h;simp at h
 .rename_i d hts;split at hk
  .rename_i el hud;split at hk
   .rename_i n z hsz hz;split at hk
    .rename_i hzl;obtain⟨rfl,rfl⟩:=ad hk
     have:∃p,c.args.toList=[p]:=by
      generalize c.args.toList=l at h
      match l,h with|[p],_=>exact⟨p,rfl⟩|[],h=>simp[cN]at h|p::q::r,h=>simp[cN]at h
     obtain⟨p,hp⟩:=this;rw[hp]at h;exact KF ho hcal (pX hp) (pX hts) hud hsz hz hzl hI (fun z hz=>hρ p z hz) h
    .obtain ⟨rfl,rfl⟩:=ad hk;rw[fJ]at h;simp at h
   .obtain ⟨rfl,rfl⟩:=ad hk;rw[fJ]at h;simp at h
  .obtain ⟨rfl,rfl⟩:=ad hk;rw[fJ]at h;simp at h
 .obtain ⟨rfl,rfl⟩:=ad hk;rw[fJ]at h;simp at h
theorem Di(hok:m9 P call)(hk:w6 P dg o.op=(k,args))(hI:Inv S K w0 Kn φ (aB H) w)(hE:jJ.ok S w Kn φ e a.tmps)(hfr:∀j,nxt<=j->j<n'->¬Kn j)
  (h:cN call k (args.map (kM e)) H nxt=some (v,u,aA,n')):OY P o a S K w0 w Kn φ (aB H) nxt n' v u:=by
 have hρ:∀x tv,kM e x=some tv->gf S w Kn φ tv (a.eval x):=fun x tv h=>tw hI.BU hE h;have hn0:nxt<n'->¬Kn nxt:=fun h=>hfr nxt (au _) h;have gj:(k,args)=(Ev.K.gj,[])->OY P o a S K w0 w Kn φ (aB H) nxt n' v u:=by intro hk;obtain⟨rfl,rfl⟩:=ad hk;rw[fJ]at h;simp at h
 generalize hop:o.op=op at hk;unfold w6 at hk;split at hk
 .obtain ⟨rfl,rfl⟩:=ad hk;exact(O6 (.inl hop) hI (fun z hz=>hρ _ z hz) h).k9
 .obtain ⟨rfl,rfl⟩:=ad hk;exact(O6 (.inr hop) hI (fun z hz=>hρ _ z hz) h).k9
 .obtain ⟨rfl,rfl⟩:=ad hk;exact(NO hop hI (fun z hz=>hρ _ z hz) (fun z hz=>hρ _ z hz) (fun z hz=>hρ _ z hz) h).k9
 .--alloc
  split at hk
  .rename_i hz;obtain⟨rfl,rfl⟩:=ad hk;exact(KG hop hz hI hn0 h).k9
  .exact gj hk.symm
 .obtain ⟨rfl,rfl⟩:=ad hk;exact(P7 hop hI hn0 (fun z hz=>hρ _ z hz) h).k9
 .--build
  split at hk
  .rename_i hu hz;split at hk
   .rename_i hpl;split at hk
    .rename_i hall;obtain⟨rfl,rfl⟩:=ad hk;exact(Dq hop hz (.inl ⟨_,hu,hpl,hall⟩) hI hρ h).k9
    .exact gj hk.symm
   .exact gj hk.symm
  .rename_i hu hz;split at hk
   .rename_i hs;obtain⟨rfl,rfl⟩:=ad hk;exact(Dq hop hz (.inr ⟨_,_,_,hu,hs,rfl⟩) hI hρ h).k9
   .exact gj hk.symm
  .exact gj hk.symm
 .--buildSlice
  split at hk
  .rename_i hu;split at hk
   .rename_i hs hz;split at hk
    .rename_i hl;obtain⟨rfl,rfl⟩:=ad hk;exact(zU hop hu hs hz hl hI hn0 hρ h).k9
    .exact gj hk.symm
   .exact gj hk.symm
  .exact gj hk.symm
 .--load
  split at hk
  .rename_i ha hs;obtain⟨rfl,rfl⟩:=ad hk;split at h
   .rename_i hc;obtain⟨_,_,rfl,rfl⟩:=hc;exact(KA hop ha hs hI hn0 (fun z hz=>hρ _ z hz) h).k9
   .exact (GZ hop ha hs hI (fun z hz=>hρ _ z hz) h).k9
  .exact gj hk.symm
 .--store
  split at hk
  .rename_i hs;obtain⟨rfl,rfl⟩:=ad hk;exact(Ky hop hs hI (fun z hz=>hρ _ z hz) (fun z hz=>hρ _ z hz) h).k9
  .exact gj hk.symm
 .obtain ⟨rfl,rfl⟩:=ad hk;exact(Dk hop hI (fun z hz=>hρ _ z hz) h).k9
 .exact (Jv hop hk hI hE h).k9
 .obtain ⟨rfl,rfl⟩:=ad hk;exact(RN hop hI (fun z hz=>hρ _ z hz) h).k9
 .--convert
  split at hk
  .rename_i hs hd;obtain⟨rfl,rfl⟩:=ad hk;exact(FB hop hs hd hI (fun z hz=>hρ _ z hz) h).k9
  .rename_i hs hd;obtain⟨rfl,rfl⟩:=ad hk;exact(Dp hop hs hd hI (fun z hz=>hρ _ z hz) h).k9
  .exact gj hk.symm
 .--makeFunc
  split at hk
  .rename_i hf;obtain⟨rfl,rfl⟩:=ad hk;exact(NP hop hf hI hρ h).k9
  .exact gj hk.symm
 .--makeSlice
  split at hk
  .rename_i hu;split at hk
   .rename_i hs hz;split at hk
    .rename_i hl;obtain⟨rfl,rfl⟩:=ad hk;split at h
     .rename_i m hm;unfold O7 at hm;split at hm
      .rename_i hc;split at hm
       .split at hm
        .obtain rfl:=aa hm;exact(Kz hop hu hs hz hl.1 hl.2 hc.2 (Nat.succ_pos _) hI hn0 (fun z hz=>hρ _ z hz) (fun z hz=>hρ _ z hz) h).k9
        .cases hm
       .cases hm
      .cases hm
     .exact (u7 hop hu hs hz hl.1 hl.2 hI hn0 (fun z hz=>hρ _ z hz) (fun z hz=>hρ _ z hz) h).k9
    .exact gj hk.symm
   .exact gj hk.symm
  .exact gj hk.symm
 .--slice
  split at hk
  .rename_i hu;obtain⟨rfl,rfl⟩:=ad hk;exact(Dj (str:=true) hop hu hI hρ h).k9
  .rename_i hu;split at hk
   .rename_i hs;obtain⟨rfl,rfl⟩:=ad hk;exact(Dj (str:=false) hop ⟨_,hu,hs⟩ hI hρ h).k9
   .exact gj hk.symm
  .exact gj hk.symm
 .--Bv
  split at hk
  .rename_i hu;split at hk
   .rename_i hs;obtain⟨rfl,rfl⟩:=ad hk;exact(Is hop hu hs hI hn0 hρ h).k9
   .exact gj hk.symm
  .exact gj hk.symm
 .--fieldAddr
  split at hk
  .rename_i hu;split at hk
   .rename_i hf;split at hk
    .rename_i hs;obtain⟨rfl,rfl⟩:=ad hk;exact(BH hop hu hf hs hI (fun z hz=>hρ _ z hz) h).k9
    .exact gj hk.symm
   .exact gj hk.symm
  .exact gj hk.symm
 .--field
  split at hk
  .rename_i hu;split at hk
   .rename_i hf;split at hk
    .rename_i ha hs;obtain⟨rfl,rfl⟩:=ad hk;exact(KD hop hu hf ha hs hI (fun z hz=>hρ _ z hz) h).k9
    .exact gj hk.symm
   .exact gj hk.symm
  .exact gj hk.symm
 .--indexAddr
  split at hk
  .rename_i hu;split at hk
   .rename_i hs;obtain⟨rfl,rfl⟩:=ad hk;exact(u9 (aL:=none) hop ⟨_,hu,hs⟩ hI (fun z hz=>hρ _ z hz) (fun z hz=>hρ _ z hz) h).k9
   .exact gj hk.symm
  .rename_i hu;split at hk
   .rename_i hs;obtain⟨rfl,rfl⟩:=ad hk;exact(u9 (aL:=some _) hop ⟨_,hu,hs⟩ hI (fun z hz=>hρ _ z hz) (fun z hz=>hρ _ z hz) h).k9
   .exact gj hk.symm
  .exact gj hk.symm
 .--index
  split at hk
  .rename_i hu;obtain⟨rfl,rfl⟩:=ad hk;exact(Dm hop hu hI (fun z hz=>hρ _ z hz) (fun z hz=>hρ _ z hz) h).k9
  .rename_i hu;split at hk
   .rename_i ha hs;obtain⟨rfl,rfl⟩:=ad hk;exact(KC hop hu ha hs hI (fun z hz=>hρ _ z hz) (fun z hz=>hρ _ z hz) h).k9
   .exact gj hk.symm
  .exact gj hk.symm
 .obtain ⟨rfl,rfl⟩:=ad hk;exact(FA hop hI (fun z hz=>hρ _ z hz) h).k9
 .--makeMap
  split at hk
  .split at hk
   .obtain ⟨rfl,rfl⟩:=ad hk;exact(Fz hop hI hn0 h).k9
   .exact gj hk.symm
  .exact gj hk.symm
 .--lookup
  split at hk
  .rename_i hu;split at hk
   .rename_i hm;obtain⟨rfl,rfl⟩:=ad hk;exact(It hop hu hm hI (fun z hz=>hρ _ z hz) (fun z hz=>hρ _ z hz) h).k9
   .exact gj hk.symm
  .exact gj hk.symm
 .--mapEntry
  split at hk
  .rename_i hu;split at hk
   .rename_i hm;obtain⟨rfl,rfl⟩:=ad hk;exact(Dl hop hu hm hI (fun z hz=>hρ _ z hz) (fun z hz=>hρ _ z hz) h).k9
   .exact gj hk.symm
  .exact gj hk.symm
 .--entryStore
  split at hk
  .split at hk
   .obtain ⟨rfl,rfl⟩:=ad hk;exact(zT hop hI (fun z hz=>hρ _ z hz) (fun z hz=>hρ _ z hz) (fun z hz=>hρ _ z hz) h).k9
   .exact gj hk.symm
  .exact gj hk.symm
 .--call
  rename_i c;split at hk
  .rename_i hcal;exact(Ac hop hcal hk hI hE hn0 h).k9
  .rename_i f hcal;split at hk
   .split at hk
    .rename_i hf;obtain⟨rfl,rfl⟩:=ad hk
     have:∃p q,c.args.toList=[p,q]:=by
      generalize c.args.toList=l at h
      match l,h with|[p,q],_=>exact⟨p,q,rfl⟩|[],h=>simp[cN]at h|[p],h=>simp[cN]at h|p::q::r::t,h=>simp[cN]at h
     obtain⟨p,q,hpq⟩:=this;rw[hpq]at h;exact(P4 hop hcal (pg hpq) hf rfl hI (fun z hz=>hρ p z hz) (fun z hz=>hρ q z hz) h).k9
    .exact gj hk.symm
   .obtain ⟨rfl,rfl⟩:=ad hk;exact G0 hop hcal hok hI hfr hρ h
  .rename_i hcal;obtain⟨rfl,rfl⟩:=ad hk;exact G0 hop hcal hok hI hfr hρ h
  .exact gj hk.symm
 .exact gj hk.symm
end
def gw(P:Program)(dg:Ah)(nt:Nat)(all:Array Oper)(o:Oper):nQ:=
 {dst:=o.dst
  k:=if(match o.dst with|some d=>decide (d<nt)|none=>true)then(w6 P dg o.op).1 else .gj
  args:=(w6 P dg o.op).2
  guard:=match o.guard with|none=>none|some (j,b)=>some (((all[j]?).bind (·.dst)).getD 1000000000,b)}
def rP:C:=.oN 0 []
def RG(S:Nat->Prop)(w:World)(Kn:Nat->Prop)(φ:Nat->gF)(c:C)(v:Value):Prop:=c=rP\/RC S w Kn φ c v
theorem RG.mono{S S':Nat->Prop}{w w':World}{Kn Kn':Nat->Prop}{φ φ':Nat->gF}(hs:gV S w S' w')(hr:Ren Kn φ Kn' φ'){x:C}{v:Value}(h:RG S w Kn φ x v):RG S' w' Kn' φ' x v:=h.imp id fun h=>h.mono hs hr
structure GD(S K:Nat->Prop)(w0:World)(Kn:Nat->Prop)(φ:Nat->gF)(gv:List Value)(nt:Nat)(s:St)(a:Act)(w:World):Prop where
 inv:Inv S K w0 Kn φ (aB s.heap) w
 dD:jJ.ok S w Kn φ s.dD a.tmps
 size:a.tmps.size=nt
 defers:a.defers=[]
 gD:∀j,s.next<=j->¬Kn j
 gh:∀(i:Nat)(c:C)(v:Value),s.gh[i]?=some c->gv[i]?=some v->RG S w Kn φ c v
section
variable{P:Program}{S K:Nat->Prop}{w0 w:World}{Kn:Nat->Prop}{φ:Nat->gF}{gv:List Value}{nt:Nat}{a:Act}{call:Call}{dg:Ah}{s s':St}
theorem NG{a:Act}{d:Nat}{v:Value}(h:d<a.tmps.size)(t:Nat):(a.put (some d) v).tmps.getD t undef=if t=d then v else a.tmps.getD t undef:=by
 simp only[Act.put,bv,ky];by_cases e:d=t
 .subst e;simp[h]
 .have e2:¬t=d:=fun h=>e h.symm;simp[e,e2]
theorem uX{a:Act}(d:Option Nat)(v:Value):(a.put d v).tmps.size=a.tmps.size:=by cases d<;>simp[Act.put]
theorem rj{a:Act}(d:Option Nat)(v:Value):(a.put d v).defers=a.defers:=by cases d<;>simp[Act.put]
theorem ly(e:jJ)(d:Option Nat)(v:TV)(t:Nat):cq (put e d v) t=if d=some t then some v else cq e t:=by
 cases d with
 |none=>simp[put]
 |some d=>
  simp only[put,cq];by_cases h:d=t
  .simp [h]
  .have h':(d==t)=false:=by simpa using h
   simp[h,h']
theorem y9(e:jJ)(d:Option Nat)(t:Nat):cq (drop e d) t=if d=some t then some (.iN [])else cq e t:=ly e d (.iN []) t
theorem jJ.Kl{e:jJ}{S':Nat->Prop}{w':World}{Kn':Nat->Prop}{φ':Nat->gF}(hE:jJ.ok S w Kn φ e a.tmps)(hs:gV S w S' w')(hr:Ren Kn φ Kn' φ'){d:Option Nat}{v:TV}{val:Value}
  (hd:∀x,d=some x->x<a.tmps.size) (hv:gf S' w' Kn' φ' v val):jJ.ok S' w' Kn' φ' (Ev.put e d v) (a.put d val).tmps:=by
 intro t x hx;rw[ly]at hx;cases d with
 |none=>simp only[reduceCtorEq,if_false]at hx;exact(hE t x hx).mono hs hr
 |some d=>
  rw[NG (hd d rfl)];by_cases h:t=d
  .subst h;simp only[if_true]at hx;rw[if_pos rfl,<-aa hx];exact hv
  .have h2:¬(some d=some t):=fun e=>h (aa e).symm;rw[if_neg h2]at hx;rw[if_neg h];exact(hE t x hx).mono hs hr
theorem jJ.Hq{e:jJ}(hE:jJ.ok S w Kn φ e a.tmps){d:Option Nat}:jJ.ok S w Kn φ (Ev.drop e d) (a.put d undef).tmps:=by
 intro t x hx;rw[y9]at hx;have hu:gf S w Kn φ (.iN []) undef:=.iN rfl fun i x hi=>by simp at hi
 split at hx
 .rename_i h;subst h;obtain rfl:=aa hx;have:(a.put (some t) undef).tmps.getD t undef=undef:=by simp only[Act.put,bv,ky,if_true];split<;>rfl
  rw[this];exact hu
 .rename_i h;have:=hE t x hx;cases d with|none=>exact this|some d=>have h2:¬d=t:=fun e=>h (by rw[e]);simp only[Act.put,bv,ky,if_neg h2];rw[bv]at this;exact this
theorem pQ{e:jJ}(hE:jJ.ok S w Kn φ e a.tmps)(hsz:a.tmps.size<1000000000){all:Array Oper}{o:Oper}{b:Bool}(h:kp e (gw P dg nt all o).guard=some b):
  Region.wanted o (yielded all a.tmps)=b:=by
 unfold gw at h;simp only at h;unfold Region.wanted;cases hg:o.guard with
 |none=>rw[hg]at h;simpa[kp]using h
 |some p=>
  obtain⟨j,want⟩:=p;rw[hg]at h;simp only[kp]at h;split at h
  .rename_i x hx;have hr:=hE _ _ hx;obtain⟨hv,_⟩:=hr.lit;cases hd:(all[j]?).bind (·.dst)with
   |none=>rw[hd]at hv;simp only[Option.getD_none]at hv;rw[bv,Array.getElem?_eq_none (by omega)]at hv;simp[undef]at hv
   |some t=>
    rw[hd]at hv;simp only[fC]at hv
    have ht:a.tmps[t]?=some (.bool x):=by
     rw[bv]at hv;cases ht:a.tmps[t]?with
     |none=>rw[ht]at hv;simp[undef]at hv
     |some y=>rw[ht]at hv;simpa using hv
    obtain rfl:=aa h;simp only[yielded,hd,af,ht];cases x<;>cases want<;>rfl
  .rename_i hx;have hr:=hE _ _ hx;obtain rfl:=aa h;cases hd:(all[j]?).bind (·.dst)with
   |none=>simp only[yielded,hd,Option.bind_none];rfl
   |some t=>
    rw[hd]at hr;simp only[fC]at hr;generalize hv:a.tmps.getD t undef=v at hr;cases hr with
    |@iN _ aL hlen _=>
     rw[bv]at hv;simp only[yielded,hd,af];cases ht:a.tmps[t]?with
     |none=>rfl
     |some y=>rw[ht]at hv;simp only[fC]at hv;subst hv;rfl
  .simp at h
end
section
variable{H H':bF}
def ie(H H':bF)(aA:List Nat):Prop:=∀i∈aA,aB H' i=aB H i
theorem ie.left{a b:List Nat}(h:ie H H' (a++b)):ie H H' a:=fun i hi=>h i (aE _ hi)
theorem ie.right{a b:List Nat}(h:ie H H' (a++b)):ie H H' b:=fun i hi=>h i (aH _ hi)
theorem uj:∀n,(∀c x aA,dV H n c=some (x,aA)->ie H H' aA->dV H' n c=some (x,aA))/\
  (∀cs xs aA,fS H n cs=some (xs,aA)->ie H H' aA->fS H' n cs=some (xs,aA)):=by
 have leaf:∀n c x aA,(match c with|.op _ _|.oN _ _=>False|_=>True)->dV H n c=some (x,aA)->ie H H' aA->dV H' n c=some (x,aA):=by
  intro n c x aA hl h ha;cases c with
  |d y=>simpa only[dV]using h
  |fh sz id off len=>
   have:aB H' id=aB H id:=ha id (by
    simp only[dV]at h;split at h
    all_goals first
     |(split at h
       .obtain ⟨_,rfl⟩:=ad (aa h);simp
       .simp at h)
     |(split at h
       .split at h
        .obtain ⟨_,rfl⟩:=ad (aa h);simp
        .simp at h
       .simp at h)
     |simp at h)
   simp only[dV]at h|-;rw[this];exact h
  |ep id di off=>
   have:aB H' id=aB H id:=ha id (by
    simp only[dV]at h;split at h
    all_goals first
     |(split at h
       .split at h
        .obtain ⟨_,rfl⟩:=ad (aa h);simp
        .simp at h
       .simp at h)
     |simp at h)
   simp only[dV]at h|-;rw[this];exact h
  |op id off=>exact hl.elim
  |oN f caps=>exact hl.elim
  |om id=>cases n<;>simp[dV]at h
 intro n;induction n with
 |zero=>
  refine⟨fun c x aA h ha=>?_,fun cs xs aA h ha=>?_⟩
  .cases c with|op id off=>simp[dV]at h|oN f caps=>simp[dV]at h|_=>exact leaf 0 _ x aA trivial h ha
  .cases cs with|nil=>simpa only[fS]using h|cons c cs=>simp[fS]at h
 |succ n ih=>
  refine⟨fun c x aA h ha=>?_,fun cs xs aA h ha=>?_⟩
  .cases c with
   |op id off=>
    simp only[dV]at h|-;split at h
    .rename_i ho;split at h
     .rename_i hle;obtain⟨rfl,rfl⟩:=ad (aa h);rw[ha id (by simp),ho];simp only[hle,if_true]
     .simp at h
    .rename_i ho;split at h
     .rename_i hv;split at h
      .rename_i hle;obtain⟨rfl,rfl⟩:=ad (aa h);rw[ha id (by simp),ho];simp only[ih.2 _ _ _ hv (fun i hi=>ha i (by simp[hi])),hle,if_true]
      .simp at h
     .simp at h
    .simp at h
   |oN f caps=>
    simp only[dV]at h|-;split at h
    .rename_i hv;obtain⟨rfl,rfl⟩:=ad (aa h);simp only[ih.2 _ _ _ hv ha]
    .simp at h
   |_=>exact leaf _ _ x aA trivial h ha
  .cases cs with
   |nil=>simpa only[fS]using h
   |cons c cs=>
    simp only[fS]at h|-;split at h
    .rename_i h1 h2;obtain⟨rfl,rfl⟩:=ad (aa h);simp only[ih.1 _ _ _ h1 ha.left,ih.2 _ _ _ h2 ha.right]
    .simp at h
theorem qY:∀cs xs aA,dP H cs=some (xs,aA)->ie H H' aA->dP H' cs=some (xs,aA):=by
 intro cs;induction cs with
 |nil=>intro xs aA h _;simpa only[dP]using h
 |cons c cs ih=>
  intro xs aA h ha;simp only[dP]at h|-;split at h
  .rename_i h1 h2;obtain⟨rfl,rfl⟩:=ad (aa h);simp only[(uj 300).1 _ _ _ h1 ha.left,ih _ _ h2 ha.right]
  .simp at h
theorem rz{all:List Nat}(ha:ie H H' all):∀(l:List Nat)(u:fx),(∀i∈l,i∈all)->dW H all l=some u->dW H' all l=some u:=by
 intro l;induction l with
 |nil=>intro u _ h;simpa only[dW]using h
 |cons a l ih=>
  intro u hl h;simp only[dW]at h|-;split at h
  .rename_i o u' ho hu
   have hob:j5 H' all a=some o:=by
    unfold j5 at ho|-;rw[ha a (hl a (by simp))];split at ho
    .exact ho
    .exact ho
    .exact ho
    .split at ho
     .rename_i hv;split at ho
      .rename_i hall;simp only[(uj 300).2 _ _ _ hv (fun i hi=>ha i (by simpa using bc.1 hall i hi)),hall,if_true];exact ho
      .simp at ho
     .simp at ho
    .simp at ho
    .simp at ho
    .exact ho
    .simp at ho
   simp only[hob,ih u' (fun i hi=>hl i (by simp[hi])) hu];exact h
  .simp at h
theorem yI{agg:Bool}{n:Nat}{p:C}{v:TV}{aA:List Nat}(h:h_ agg n p H=some (v,aA))(ha:ie H H' aA):h_ agg n p H'=some (v,aA):=by
 unfold h_ at h|-;split at h
 .exact h
 .rename_i id di off
  have:aB H' id=aB H id:=ha id (by
   split at h
   all_goals first
    |(split at h
      .split at h
       .obtain ⟨_,rfl⟩:=ad (aa h);simp
       .simp at h
      .simp at h)
    |simp at h)
  simp only[this];exact h
 .rename_i id off
  have:aB H' id=aB H id:=ha id (by
   split at h
   all_goals first
    |(split at h
      .obtain ⟨_,rfl⟩:=ad (aa h);simp
      .simp at h)
    |simp at h)
  simp only[this];exact h
 .simp at h
theorem Fj{id di sz:Nat}{slots:List kT}{cs:List C}{u:fx}{aA:List Nat}(h:rB id di sz slots cs H=some (u,aA))(ha:ie H H' aA):rB id di sz slots cs H'=some (u,aA):=by
 unfold rB at h|-;split at h
 .exact h
 .rename_i sz' id2 len
  have hid:id2∈aA:=by
   repeat' split at h
   all_goals first
    |(simp at h;done)
    |(obtain⟨_,h2⟩:=ad (aa h);rw[<-h2];simp)
  simp only[ha id2 hid];exact h
 .simp at h
theorem DD{agg:Bool}{n nxt n':Nat}{p:C}{v:TV}{u:fx}{aA:List Nat}(h:lA agg n p H nxt=some (v,u,aA,n'))(ha:ie H H' aA):h_ agg n p H'=none/\lA agg n p H' nxt=some (v,u,aA,n'):=by
 unfold lA at h;split at h
 case h_2=>simp at h
 rename_i id di;split at h
 case h_2=>simp at h
 rename_i sz slots ho
 have hid:id∈aA:=by
  repeat' split at h
  all_goals first
   |(simp at h;done)
   |(obtain⟨_,_,h2,_⟩:=(by simpa using h:_/\_/\[id]=aA/\_);rw[<-h2];simp)
 have ho':aB H' id=some (.nst sz slots):=by rw[ha id hid];exact ho
 refine⟨by simp only[h_,ho'],?_⟩;simp only[lA,ho'];exact h
theorem CE{n:Nat}{p:C}{v:TV}{u:fx}{aA:List Nat}(h:mb n p v H=some (u,aA))(ha:ie H H' aA):mb n p v H'=some (u,aA):=by
 unfold mb at h|-;split at h
 .simp at h
 .rename_i cs hcs;split at h
  .rename_i hlen;simp only[hlen,if_true];split at h
   .rename_i id di off;split at h
    .rename_i sz ao ho;split at h
     .rename_i r ds ids1 hr hv;split at h
      .rename_i u1 hfz;split at h
       .rename_i hb;obtain⟨rfl,rfl⟩:=ad (aa h);have ha1:ie H H' ids1:=fun i hi=>ha i (by simp[hi]);simp only[ha id (by simp),ho,hr,qY _ _ _ hv ha1,rz ha1 _ _ (fun i hi=>hi) hfz,hb.1,hb.2,and_self,if_true]
       .simp at h
      .simp at h
     .simp at h
    .rename_i sz slots ho;split at h
     .rename_i hc
      have hid:id∈aA/\∀i,cs=[.fh sz i 0 0]->True:=by
       refine⟨?_,fun _ _=>trivial⟩;unfold rB at h
       repeat' split at h
       all_goals first
        |(simp at h;done)
        |(obtain⟨_,h2⟩:=ad (aa h);rw[<-h2];simp)
      simp only[ha id hid.1,ho,if_pos hc];exact Fj h ha
     .simp at h
    .simp at h
   .rename_i id off;split at h
    .rename_i cells ho;split at h
     .rename_i hb;obtain⟨rfl,rfl⟩:=ad (aa h);simp only[ha id (by simp),ho,hb,if_true]
     .simp at h
    .simp at h
   .simp at h
  .simp at h
theorem oT{sz:Nat}{x:C}{new:List (List D)}{aA:List Nat}(h:jb sz H x=some (new,aA))(ha:ie H H' aA):jb sz H' x=some (new,aA):=by
 unfold jb at h|-;split at h
 .exact h
 .exact h
 .rename_i sz' id off len
  have:aB H' id=aB H id:=ha id (by
   split at h
   all_goals first
    |(split at h
      .obtain ⟨_,rfl⟩:=ad (aa h);simp
      .simp at h)
    |simp at h)
  simp only[this];exact h
 .simp at h
theorem Gi{sz:Nat}{d x:C}{i:Int}{u:fx}{aA:List Nat}(h:mn sz d x H=some (i,u,aA))(ha:ie H H' aA):mn sz d x H'=some (i,u,aA):=by
 unfold mn at h|-;split at h
 .rename_i new ids1 hr;obtain⟨_,_,rfl⟩:_/\_/\ids1=aA:=by simpa using h
  rw[oT hr ha];exact h
 .rename_i new ids1 sz' id off len hr;split at h
  .rename_i szo ao ho;split at h
   .rename_i hb;obtain⟨_,_,rfl⟩:_/\_/\id::ids1=aA:=by simpa using h
    rw[oT hr fun j hj=>ha j (aC _ hj)];simp only[ha id (by simp),ho,if_pos hb];exact h
   .simp at h
  .simp at h
 .simp at h
theorem D_{sz:Nat}{d x:C}{i:Int}{u:fx}{aA:List Nat}(h:oX sz d x H=some (i,u,aA))(ha:ie H H' aA):oX sz d x H'=some (i,u,aA)/\mn sz d x H'=none:=by
 unfold oX at h|-;split at h
 case h_2=>simp at h
 rename_i sz' id off len sz2 id2 off2 len2
 have hids:aA=[id,id2]:=by
  repeat' split at h
  all_goals first
   |(simp at h;done)
   |(obtain⟨_,_,h2⟩:=(by simpa using h:_/\_/\[id,id2]=aA);exact h2.symm)
 subst hids;have a1:=ha id (by simp);have a2:=ha id2 (by simp);refine⟨by simp only[a1,a2];exact h,?_⟩
 have:∃szo ao cp,aB H' id=some (.cap szo ao cp):=by
  rw[a1];split at h
  .exact ⟨_,_,_,by assumption⟩
  .exact ⟨_,_,_,by assumption⟩
  .simp at h
 obtain⟨szo,ao,cp,ho⟩:=this;unfold mn;split
 .rename_i hd;simp at hd
 .rename_i hd;obtain⟨rfl,rfl,rfl,rfl⟩:=(by simpa using hd:_/\_/\_/\_)
  rw[ho]
 .rfl
theorem Ce{sz nxt n':Nat}{s x:C}{v:TV}{u:fx}{aA:List Nat}(h:oh sz s x H nxt=some (v,u,aA,n'))(ha:ie H H' aA):oh sz s x H' nxt=some (v,u,aA,n'):=by
 unfold oh at h|-;split at h
 .simp at h
 .rename_i new ids1 hr;split at h
  .have e1:ids1=aA:=by
    split at h
    .split at h
     .obtain ⟨_,_,h3,_⟩:=(by simpa using h:_/\_/\ids1=aA/\_);exact h3
     .obtain ⟨_,_,h3,_⟩:=(by simpa using h:_/\_/\ids1=aA/\_);exact h3
    .simp at h
   subst e1;simp only[oT hr ha];exact h
  .rename_i sz' id off len;split at h
   .rename_i szo ao ho;split at h
    .rename_i hb;have e1:id::ids1=aA:=by obtain⟨_,_,h3,_⟩:=(by simpa using h:_/\_/\id::ids1=aA/\_);exact h3
     subst e1;simp only[oT hr (fun i hi=>ha i (by simp[hi])),ha id (by simp),ho];rw[if_pos hb];exact h
    .simp at h
   .simp at h
  .simp at h
theorem Fs:∀n,(∀c t bq rd,eH H n c=some (t,bq,rd)->ie H H' rd->eH H' n c=some (t,bq,rd))/\
  (∀cs ts bq rd,iE H n cs=some (ts,bq,rd)->ie H H' rd->iE H' n cs=some (ts,bq,rd)):=by
 have leaf:∀n c t bq rd,(match c with|.op _ _=>False|_=>True)->eH H n c=some (t,bq,rd)->ie H H' rd->eH H' n c=some (t,bq,rd):=by
  intro n c t bq rd hl h ha;cases c with
  |d y=>cases n<;>simpa only[eH]using h
  |fh sz id off len=>
   have hm:id∈rd:=by
    cases n<;>
    .simp only[eH]at h;split at h
     all_goals first
      |(split at h
        .split at h
         .obtain ⟨_,_,h3⟩:=(by simpa using h:_/\_/\[id]=rd);rw[<-h3];simp
         .simp at h
        .simp at h)
      |(split at h
        .obtain ⟨_,_,h3⟩:=(by simpa using h:_/\_/\[id]=rd);rw[<-h3];simp
        .simp at h)
      |simp at h
   have:aB H' id=aB H id:=ha id hm;cases n<;>
   .simp only[eH]at h|-;rw[this];exact h
  |ep id di off=>cases n<;>simp[eH]at h
  |oN f caps=>cases n<;>simp[eH]at h
  |om id=>cases n<;>simp[eH]at h
  |op id off=>exact hl.elim
 intro n;induction n with
 |zero=>
  refine⟨fun c t bq rd h ha=>?_,fun cs ts bq rd h ha=>?_⟩
  .cases c with|op id off=>simp[eH]at h|_=>exact leaf 0 _ t bq rd trivial h ha
  .cases cs with|nil=>simpa only[iE]using h|cons c cs=>simp[iE]at h
 |succ n ih=>
  refine⟨fun c t bq rd h ha=>?_,fun cs ts bq rd h ha=>?_⟩
  .cases c with
   |op id off=>
    cases off with
    |succ off=>simp[eH]at h
    |zero=>
     simp only[eH]at h|-;split at h
     .rename_i ho;split at h
      .rename_i ts own' rd' hp;obtain⟨h1,h2,h3⟩:=(by simpa using h:T.pt ts=t/\id::own'=bq/\id::rd'=rd)
       subst h1 h2 h3;rw[ha id (by simp),ho];simp only[ih.2 _ _ _ _ hp (fun i hi=>ha i (by simp[hi]))]
      .simp at h
     .rename_i cells ho;obtain⟨h1,h2,h3⟩:=(by simpa using h:T.d (.pt cells)=t/\[]=bq/\[id]=rd)
      subst h1 h2 h3;rw[ha id (by simp),ho]
     .simp at h
   |_=>exact leaf _ _ t bq rd trivial h ha
  .cases cs with
   |nil=>simpa only[iE]using h
   |cons c cs=>
    simp only[iE]at h|-;split at h
    .rename_i t0 a i0 ts0 b j0 h1 h2;obtain⟨e1,e2,e3⟩:=(by simpa using h:t0::ts0=ts/\a++b=bq/\i0++j0=rd)
     subst e1 e2 e3;simp only[ih.1 _ _ _ _ h1 ha.left,ih.2 _ _ _ _ h2 ha.right]
    .simp at h
theorem zw:∀(tvs:List TV)(ms:List Bool)(as:List A)(aA:List Nat)(lent:List (C×List Nat×List Nat)),gu H tvs ms=some (as,aA,lent)->ie H H' aA->ie H H' (lent.flatMap (·.2.2))->
  gu H' tvs ms=some (as,aA,lent):=by
 intro tvs;induction tvs with
 |nil=>intro ms as aA lent h _ _;simpa only[gu]using h
 |cons t tvs ih=>
  intro ms as aA lent h ha hb;simp only[gu]at h|-;split at h
  .simp at h
  .rename_i as1 ids1 lent1 hrec;split at h
   .rename_i hm;split at h
    .split at h
     .rename_i t0 bq rd hp;obtain⟨e1,e2,e3⟩:=(by simpa using h:A.mt t0::as1=as/\ids1=aA/\(_,bq,rd)::lent1=lent)
      subst e1 e2 e3;simp only[bi]at hb;simp only[ih _ _ _ _ hrec ha hb.right,hm,if_true,(Fs 300).1 _ _ _ _ hp hb.left]
     .simp at h
    .simp at h
   .rename_i hm;split at h
    .split at h
     .rename_i x i hv;obtain⟨e1,e2,e3⟩:=(by simpa using h:A.d x::as1=as/\i++ids1=aA/\lent1=lent)
      subst e1 e2 e3;simp only[ih _ _ _ _ hrec ha.right hb,hm,if_false,aS,(uj 300).1 _ _ _ hv ha.left]
     .simp at h
    .split at h
     .rename_i xs i hv;obtain⟨e1,e2,e3⟩:=(by simpa using h:A.agg xs::as1=as/\i++ids1=aA/\lent1=lent)
      subst e1 e2 e3;simp only[ih _ _ _ _ hrec ha.right hb,hm,if_false,aS,qY _ _ _ hv ha.left]
     .simp at h
    .simp at h
theorem N7:∀(tvs:List TV)(ms:List Bool)(as:List A)(aA:List Nat)(lent:List (C×List Nat×List Nat)),gu H tvs ms=some (as,aA,lent)->
  ∀c bq rd,(c,bq,rd)∈lent->∃t,eH H 300 c=some (t,bq,rd):=by
 intro tvs;induction tvs with
 |nil=>
  intro ms as aA lent h c bq rd hm;obtain⟨_,_,rfl⟩:[]=as/\[]=aA/\[]=lent:=by simpa[gu]using h
  simp at hm
 |cons t tvs ih=>
  intro ms as aA lent h c bq rd hm;simp only[gu]at h;split at h
  .simp at h
  .rename_i as1 ids1 lent1 hrec;split at h
   .split at h
    .split at h
     .rename_i c0 _ t0 own0 rd0 hp;obtain⟨_,_,e3⟩:=(by simpa using h:A.mt t0::as1=as/\ids1=aA/\(_,own0,rd0)::lent1=lent)
      subst e3;rcases aM.1 hm with hm|hm
      .simp only[da]at hm;obtain⟨g1,g2,g3⟩:=hm;rw[g1,g2,g3];exact⟨_,hp⟩
      .exact ih _ _ _ _ hrec c bq rd hm
     .simp at h
    .simp at h
   .split at h
    .split at h
     .obtain ⟨_,_,e3⟩:=(by simpa using h:_/\_/\lent1=lent)
      subst e3;exact ih _ _ _ _ hrec c bq rd hm
     .simp at h
    .split at h
     .obtain ⟨_,_,e3⟩:=(by simpa using h:_/\_/\lent1=lent)
      subst e3;exact ih _ _ _ _ hrec c bq rd hm
     .simp at h
    .simp at h
theorem Cs:∀(l:List (C×List Nat×List Nat)),(∀c bq rd,(c,bq,rd)∈l->∃t,eH H 300 c=some (t,bq,rd))->ie H H' (l.flatMap (·.2.2))->eL H' l=eL H l:=by
 intro l;induction l with
 |nil=>intro _ _;rfl
 |cons p l ih=>
  obtain⟨c,bq,rd⟩:=p;intro hp ha;simp only[bi]at ha;have h1:=ih (fun c bq rd hm=>hp c bq rd (by simp[hm])) ha.right;cases c with
  |fh sz id off len=>
   obtain⟨t,ht⟩:=hp (.fh sz id off len) bq rd (by simp)
   have hm:id∈rd:=by
    simp only[eH]at ht;split at ht
    all_goals first
     |(split at ht
       .split at ht
        .obtain ⟨_,_,h3⟩:=(by simpa using ht:_/\_/\[id]=rd);rw[<-h3];simp
        .simp at ht
       .simp at ht)
     |(split at ht
       .obtain ⟨_,_,h3⟩:=(by simpa using ht:_/\_/\[id]=rd);rw[<-h3];simp
       .simp at ht)
     |simp at ht
   simp only[eL,h1,ha.left id hm]
  |_=>simp only[eL,h1]
theorem Gu{call:Call}{ro:Bool}{j8:List Bool}{f:Option TV}{vs:List (Option TV)}{nxt n':Nat}{v:TV}{u:fx}{aA:List Nat}(h:uF call ro j8 f vs H nxt=some (v,u,aA,n'))(ha:ie H H' aA):
  uF call ro j8 f vs H' nxt=some (v,u,aA,n'):=by
 unfold uF at h|-;split at h
 .rename_i f caps vs hf hvs;split at h
  .simp at h
  .rename_i as ids1 lent hargs;split at h
   .rename_i hcond;split at h
    .simp at h
    .rename_i rs outs hcall;by_cases hro:ro=true
     .rw [if_pos hro]at h;split at h
      .rename_i hc;have hle:lent=[]:=by simpa using hc.2.1
       subst hle;have e1:ids1=aA:=by obtain⟨_,_,h3,_⟩:=(by simpa using h:_/\_/\ids1=aA/\_);exact h3
       subst e1;simp only[zw _ _ _ _ _ hargs ha (fun i hi=>by simp at hi)];rw[if_pos ⟨rfl,hcond.2⟩];simp only[hcall,hro,if_true];rw[if_pos hc];exact h
      .simp at h
     .rw [if_neg hro]at h;split at h
      .simp at h
      .rename_i fu hfz;split at h
       .simp at h
       .rename_i bu m hbk;have e1:ids1++lent.flatMap (·.2.2)=aA:=by obtain⟨_,_,h3,_⟩:=(by simpa using h:_/\_/\ids1++lent.flatMap (·.2.2)=aA/\_);exact h3
        subst e1;simp only[zw _ _ _ _ _ hargs ha.left ha.right];rw[if_pos (by rw[Cs lent (N7 _ _ _ _ _ hargs) ha.right];exact hcond)];simp only[hcall];rw[if_neg hro];simp only[rz ha.left _ _ (fun i hi=>hi) hfz,hbk];exact h
   .simp at h
 .simp at h
theorem wF{call:Call}{sz len:Nat}{zero:List Value}{places:List Nat}{vs:List (Option TV)}{nxt n':Nat}{v:TV}{u:fx}{aA:List Nat}
  (h:cN call (.buildSlice sz len zero places) vs H nxt=some (v,u,aA,n')) (ha:ie H H' aA):cN call (.buildSlice sz len zero places) vs H' nxt=some (v,u,aA,n'):=by
 have key:∀G:bF,cN call (.buildSlice sz len zero places) vs G nxt=(match eF vs with
  |some xs=>
   (match mU (fk zero) ((places.map fun i=>(i*sz,sz)).zip xs)with
   |some cs=>
    (match dP G cs with
    |some (ds,aA)=>(match dW G aA aA with|some u=>some (TV.c (.fh sz nxt 0 len),(nxt,some (Ob.aL sz (mo sz len ds)))::u,aA,nxt+1)|none=>none)
    |none=>none)
   |none=>none)
  |none=>none):=fun _=>rfl
 rw[key]at h|-;split at h
 .rename_i xs hxs;split at h
  .rename_i cs hcs;split at h
   .rename_i ds ids1 hv;split at h
    .rename_i u1 hfz;obtain⟨_,_,h3,_⟩:=(by simpa using h:_/\_/\ids1=aA/\_)
     subst h3;simp only[qY _ _ _ hv ha,rz ha _ _ (fun i hi=>hi) hfz];exact h
    .simp at h
   .simp at h
  .simp at h
 .simp at h
theorem BM{ka va ok:Bool}{ks:List Kd}{z:List Value}{m:C}{k v:TV}{aA:List Nat}(h:iv ka ks va z ok m k H=some (v,aA))(ha:ie H H' aA):iv ka ks va z ok m k H'=some (v,aA):=by
 unfold iv at h|-;split at h
 .exact h
 .rename_i id key hkey
  have hid:id∈aA:=by
   repeat' split at h
   all_goals first
    |(simp at h;done)
    |(obtain⟨_,h2⟩:=ad (aa h);rw[<-h2];simp)
  simp only[ha id hid];exact h
 .simp at h
theorem DZ{ka va:Bool}{ks:List Kd}{z:List Value}{m:C}{k v:TV}{u:fx}{aA:List Nat}(h:mW ka ks va z m k H=some (v,u,aA))(ha:ie H H' aA):mW ka ks va z m k H'=some (v,u,aA):=by
 unfold mW at h|-;split at h
 .rename_i id key hkey
  have hid:id∈aA:=by
   repeat' split at h
   all_goals first
    |(simp at h;done)
    |(obtain⟨_,_,h2⟩:=(by simpa using h:_/\_/\[id]=aA);rw[<-h2];simp)
  simp only[ha id hid];exact h
 .simp at h
theorem B0{va:Bool}{n:Nat}{m:C}{s:Option TV}{x:TV}{u:fx}{aA:List Nat}(h:mX va n m s x H=some (u,aA))(ha:ie H H' aA):mX va n m s x H'=some (u,aA):=by
 unfold mX at h|-;split at h
 .rename_i id s1 ds eI hds
  have hid:id∈aA:=by
   repeat' split at h
   all_goals first
    |(simp at h;done)
    |(obtain⟨_,h2⟩:=(by simpa using h:_/\[id]=aA);rw[<-h2];simp)
  simp only[ha id hid];exact h
 .simp at h
theorem ym{str:Bool}{sz:Nat}{x y:C}{l m:Int}{aA:List Nat}(h:nL str sz x l m H=some (y,aA))(ha:ie H H' aA):nL str sz x l m H'=some (y,aA):=by
 unfold nL at h|-;split at h
 .rename_i sz' id off len
  have hid:id∈aA:=by
   repeat' split at h
   all_goals first
    |(simp at h;done)
    |(obtain⟨_,h2⟩:=(by simpa using h:_/\[id]=aA);rw[<-h2];simp)
  simp only[ha id hid];exact h
 .simp at h
theorem Ec{z:List Value}{x:C}{u:fx}{aA:List Nat}(h:oY z x H=some (u,aA))(ha:ie H H' aA):oY z x H'=some (u,aA):=by
 unfold oY at h|-;split at h
 .rename_i sz id off len
  have hid:id∈aA:=by
   repeat' split at h
   all_goals first
    |(simp at h;done)
    |(obtain⟨_,h2⟩:=(by simpa using h:_/\[id]=aA);rw[<-h2];simp)
  simp only[ha id hid];exact h
 .simp at h
def GG:Ev.K->Bool
 |.t7|.slice _ _ _ _|.clear _|.MA|.Ss _|.RL|.load _ _|.store _|.buildSlice _ _ _ _|.append _|.copy _|.call _ _|.lookup _ _ _ _ _|.mapEntry _ _ _ _|.entryStore _ _=>true
 |_=>false
theorem I8{call:Call}{k:Ev.K}{vs:List (Option TV)}{nxt:Nat}(hk:GG k=false):cN call k vs H nxt=cN call k vs H' nxt:=by
 cases k<;>first
  |(simp[GG]at hk;done)
  |(unfold cN;split<;>first|rfl|simp_all)
theorem I9{call:Call}{k:Ev.K}{vs:List (Option TV)}{nxt n':Nat}{v:TV}{u:fx}{aA:List Nat}(h:cN call k vs H nxt=some (v,u,aA,n'))(ha:ie H H' aA):
  cN call k vs H' nxt=some (v,u,aA,n'):=by
 cases k with
 |load agg n=>
  match vs,h with
  |[some (.c p)],h=>
   change (match h_ agg n p H with|some (v,aA)=>some (v,[],aA,nxt)|none=>none)=_ at h;show(match h_ agg n p H' with|some (v,aA)=>some (v,[],aA,nxt)|none=>none)=_;split at h
   .rename_i hl;obtain⟨_,_,h3,_⟩:=(by simpa using h:_/\_/\_=aA/\_)
    subst h3;rw[yI hl ha];exact h
   .simp at h
 |t7=>
  match vs,h with
  |[some (.c p)],h=>
   change (match h_ false 1 p H with|some (v,aA)=>some (v,[],aA,nxt)|none=>lA false 1 p H nxt)=_ at h;show(match h_ false 1 p H' with|some (v,aA)=>some (v,[],aA,nxt)|none=>lA false 1 p H' nxt)=_;split at h
   .rename_i hl;obtain⟨_,_,h3,_⟩:=(by simpa using h:_/\_/\_=aA/\_)
    subst h3;rw[yI hl ha];exact h
   .obtain ⟨h1,h2⟩:=DD h ha;rw[h1];exact h2
 |store n=>
  match vs,h with
  |[some (.c p),some x],h=>
   change (match mb n p x H with|some (u,aA)=>some (TV.iN [],u,aA,nxt)|none=>none)=_ at h;show(match mb n p x H' with|some (u,aA)=>some (TV.iN [],u,aA,nxt)|none=>none)=_;split at h
   .rename_i hl;obtain⟨_,_,h3,_⟩:=(by simpa using h:_/\_/\_=aA/\_)
    subst h3;rw[CE hl ha];exact h
   .simp at h
 |buildSlice sz len zero places=>exact wF h ha
 |clear z=>
  match vs,h with
  |[some (.c d)],h=>
   change (match oY z d H with|some (u,aA)=>some (TV.iN [],u,aA,nxt)|none=>none)=_ at h;show(match oY z d H' with|some (u,aA)=>some (TV.iN [],u,aA,nxt)|none=>none)=_;split at h
   .rename_i hl;obtain⟨_,_,h3,_⟩:=(by simpa using h:_/\_/\_=aA/\_)
    subst h3;rw[Ec hl ha];exact h
   .simp at h
 |slice str sz lo hi=>
  have eh:hi=false->cN call (.slice str sz lo hi) vs H nxt=cN call (.slice str sz lo hi) vs H' nxt:=by
   intro hlh
   cases lo<;>cases hi<;>first
    |(simp at hlh;done)
    |(match vs with
     |[]=>rfl
     |none::_=>rfl
     |some (.agg _)::_=>rfl
     |some (.iN _)::_=>rfl
     |some (.c _)::[]=>rfl
     |some (.c _)::_::[]=>rfl
     |some (.c _)::_::_::_=>rfl)
  cases hi with
  |false=>rw[<-eh rfl];exact h
  |true=>
   cases lo with
   |false=>
    match vs,h with
    |[some (.c x),m],h=>
     change (match cA m with
      |some m=>(match fL str sz x none (some m)with
       |some y=>some (TV.c y,([]:fx),([]:List Nat),nxt)
       |none=>(match nL str sz x 0 m H with|some (y,aA)=>some (TV.c y,([]:fx),aA,nxt)|none=>none))
      |none=>none)=_ at h
     show(match cA m with
      |some m=>(match fL str sz x none (some m)with
       |some y=>some (TV.c y,([]:fx),([]:List Nat),nxt)
       |none=>(match nL str sz x 0 m H' with|some (y,aA)=>some (TV.c y,([]:fx),aA,nxt)|none=>none))
      |none=>none)=_
     split at h
     .split at h
      .exact h
      .split at h
       .rename_i hl;obtain⟨_,_,h3,_⟩:=(by simpa using h:_/\_/\_=aA/\_)
        subst h3;rw[ym hl ha];exact h
       .simp at h
     .simp at h
   |true=>
    match vs,h with
    |[some (.c x),l,m],h=>
     change (match cA l,cA m with
      |some l,some m=>(match fL str sz x (some l) (some m)with
       |some y=>some (TV.c y,([]:fx),([]:List Nat),nxt)
       |none=>(match nL str sz x l m H with|some (y,aA)=>some (TV.c y,([]:fx),aA,nxt)|none=>none))
      |_,_=>none)=_ at h
     show(match cA l,cA m with
      |some l,some m=>(match fL str sz x (some l) (some m)with
       |some y=>some (TV.c y,([]:fx),([]:List Nat),nxt)
       |none=>(match nL str sz x l m H' with|some (y,aA)=>some (TV.c y,([]:fx),aA,nxt)|none=>none))
      |_,_=>none)=_
     split at h
     .split at h
      .exact h
      .split at h
       .rename_i hl;obtain⟨_,_,h3,_⟩:=(by simpa using h:_/\_/\_=aA/\_)
        subst h3;rw[ym hl ha];exact h
       .simp at h
     .simp at h
 |append sz=>match vs,h with|[some (.c s),some (.c x)],h=>exact Ce (s:=s) (x:=x) h ha
 |copy sz=>
  match vs,h with
  |[some (.c d),some (.c x)],h=>
   change (match mn sz d x H with|some (i,u,aA)=>some (lv (.int .i64 i),u,aA,nxt)|none=>(match oX sz d x H with|some (i,u,aA)=>some (lv (.int .i64 i),u,aA,nxt)|none=>none))=_ at h;show(match mn sz d x H' with|some (i,u,aA)=>some (lv (.int .i64 i),u,aA,nxt)|none=>(match oX sz d x H' with|some (i,u,aA)=>some (lv (.int .i64 i),u,aA,nxt)|none=>none))=_;split at h
   .rename_i hl;obtain⟨_,_,h3,_⟩:=(by simpa using h:_/\_/\_=aA/\_)
    subst h3;rw[Gi hl ha];exact h
   .split at h
    .rename_i hl;obtain⟨_,_,h3,_⟩:=(by simpa using h:_/\_/\_=aA/\_)
     subst h3;obtain⟨e1,e2⟩:=D_ hl ha;rw[e2,e1];exact h
    .simp at h
 |MA=>
  match vs,h with
  |[some (.c x)],h=>
   change (match ze x H with|some (n,aA)=>some (lv (.int .i64 n),([]:fx),aA,nxt)|none=>none)=_ at h;show(match ze x H' with|some (n,aA)=>some (lv (.int .i64 n),([]:fx),aA,nxt)|none=>none)=_;split at h
   .rename_i m ids1 hl;obtain⟨_,_,h3,_⟩:=(by simpa using h:_/\_/\_=aA/\_)
    subst h3
    have:ze x H'=some (m,ids1):=by
     unfold ze at hl|-;split at hl
     .rename_i id off len
      have hid:id∈ids1:=by
       repeat' split at hl
       all_goals first
        |(simp at hl;done)
        |(obtain⟨_,h2⟩:=(by simpa using hl:_/\[id]=ids1);rw[<-h2];simp)
      simp only[ha id hid];exact hl
     .simp at hl
    rw[this];exact h
   .simp at h
 |RL=>
  match vs,h with
  |[some (.c x),some (.c y)],h=>
   change (match zd x y H with|some aA=>some (lv (.bool false),([]:fx),aA,nxt)|none=>none)=_ at h;show(match zd x y H' with|some aA=>some (lv (.bool false),([]:fx),aA,nxt)|none=>none)=_;split at h
   .rename_i ids1 hl;obtain⟨_,_,h3,_⟩:=(by simpa using h:_/\_/\_=aA/\_)
    subst h3
    have:zd x y H'=some ids1:=by
     unfold zd at hl|-;split at hl
     .rename_i a o1 l1 sz2 b o2 l2
      have hid:ids1=[a,b]:=by
       repeat' split at hl
       all_goals first
        |(simp at hl;done)
        |(exact(aa hl).symm)
      subst hid;simp only[ha a (by simp),ha b (by simp)];exact hl
     .simp at hl
    rw[this];exact h
   .simp at h
 |Ss z=>
  match vs,h with
  |[some (.c x),some (.c (.d (.lit (.int k1 k))))],h=>
   change A0 z x k H nxt=_ at h;show A0 z x k H' nxt=_;unfold A0 at h|-;split at h
   .rename_i sz' id off len
    have hid:id∈aA:=by
     repeat' split at h
     all_goals first
      |(simp at h;done)
      |(obtain⟨_,_,h2,_⟩:=(by simpa using h:_/\_/\[id]=aA/\_);rw[<-h2];simp)
    simp only[ha id hid];exact h
   .simp at h
 |call ro j8=>match vs,h with|f::vs,h=>exact Gu (f:=f) (vs:=vs) h ha
 |lookup ka ks va z ok=>
  match vs,h with
  |[some (.c m),some k],h=>
   change (match iv ka ks va z ok m k H with|some (v,aA)=>some (v,([]:fx),aA,nxt)|none=>none)=_ at h;show(match iv ka ks va z ok m k H' with|some (v,aA)=>some (v,([]:fx),aA,nxt)|none=>none)=_;split at h
   .rename_i hl;obtain⟨_,_,h3,_⟩:=(by simpa using h:_/\_/\_=aA/\_)
    subst h3;rw[BM hl ha];exact h
   .simp at h
 |mapEntry ka ks va z=>
  match vs,h with
  |[some (.c m),some k],h=>
   change (match mW ka ks va z m k H with|some (v,u,aA)=>some (v,u,aA,nxt)|none=>none)=_ at h;show(match mW ka ks va z m k H' with|some (v,u,aA)=>some (v,u,aA,nxt)|none=>none)=_;split at h
   .rename_i hl;obtain⟨_,_,h3,_⟩:=(by simpa using h:_/\_/\_=aA/\_)
    subst h3;rw[DZ hl ha];exact h
   .simp at h
 |entryStore va n=>
  match vs,h with
  |[some (.c m),s,some x],h=>
   change (match mX va n m s x H with|some (u,aA)=>some (TV.iN [],u,aA,nxt)|none=>none)=_ at h;show(match mX va n m s x H' with|some (u,aA)=>some (TV.iN [],u,aA,nxt)|none=>none)=_;split at h
   .rename_i hl;obtain⟨_,_,h3,_⟩:=(by simpa using h:_/\_/\_=aA/\_)
    subst h3;rw[B0 hl ha];exact h
   .simp at h
 |_=>rw[I8 (H:=H') (H':=H) rfl];exact h
end
end Go.Ev
