/- Calls: what a callee's answer means, and that a caller may use it. Conditions: the relation of XEvC. -/
import Derived.Test.YtingpmogbibghaaEvLa
open Array renaming getD_eq_getD_getElem?->br,getElem?_setIfInBounds->lH
open Bool renaming and_eq_true->ai,false_eq_true->aO
open List renaming all_cons->gk,all_eq_true->aT,append_assoc->aI,cons_append->aU,flatMap_cons->bo,getElem?_append_left->bC,getElem?_append_right->bF,getElem?_eq_getElem->aB,getElem?_eq_some_iff->ao,getElem?_map->aK,length_map->aF,map_cons->aD,mem_append->ap,mem_append_left->aA,mem_append_right->aC,mem_cons->aJ,mem_cons_of_mem->av,mem_flatMap->cU,mem_flatten->dO,mem_map->bv,mem_of_getElem?->aR,mem_singleton->aq,nodup_append->cC,nodup_cons->gX,singleton_append->bd
open List.cons renaming injEq->dP
open Nat renaming le_refl->am,le_trans->bt,lt_of_lt_of_le->dp,mul_one->lh
open Option renaming bind_some->ae,getD_some->fV,isSome_iff_exists->gj,map_eq_some_iff->aG
open Option.some renaming inj->aa,injEq->ce
open Prod.mk renaming inj->af,injEq->dh
namespace Go.Ev
def RA(S:Nat->Prop)(w:World):A->Value->List Nat->Prop
 |.d x,v,fp=>RD S w x v/\fp=[]
 |.agg xs,v,fp=>∃aL,v=.agg aL/\xs.length=aL.size/\(∀(i:Nat)(x:D),xs[i]?=some x->RD S w x (aL.getD i undef))/\fp=[]
 |.mt t,v,fp=>RT S w t v fp
def NP(S:Nat->Prop)(w:World):List A->List Value->List Nat->Prop
 |[],[],fp=>fp=[]
 |a::as,v::vs,fp=>∃f1 f2,fp=f1++f2/\RA S w a v f1/\NP S w as vs f2
 |_,_,_=>False
def RR(S:Nat->Prop)(w:World):R->Value->List Nat->Prop
 |.c t,v,fp=>RT S w t v fp
 |.agg ts,v,fp=>∃(aL:Array Value)(fps:List (List Nat)),v=.agg aL/\ts.length=aL.size/\fps.length=ts.length/\fps.flatten=fp/\∀(i:Nat)(t:T)(f:List Nat),ts[i]?=some t->fps[i]?=some f->RT S w t (aL.getD i undef) f
def FW(S:Nat->Prop)(w:World):List R->List Value->List Nat->Prop
 |[],[],fp=>fp=[]
 |r::rs,v::vs,fp=>∃f1 f2,fp=f1++f2/\RR S w r v f1/\FW S w rs vs f2
 |_,_,_=>False
def NH(S:Nat->Prop)(w:World):List T->List Value->List Nat->Prop
 |[],[],fp=>fp=[]
 |t::ts,v::vs,fp=>∃f1 f2,fp=f1++f2/\((t=.wK/\f1=[])\/RT S w t v f1)/\NH S w ts vs f2
 |_,_,_=>False
def ol:List A->List Value->List Value
 |.mt _::as,v::vs=>v::ol as vs
 |_::as,_::vs=>ol as vs
 |_,_=>[]
def zN:List Value->Value
 |[v]=>v
 |vs=>.tuple vs.toArray
def Sa(P:Program)(f:FuncId)(args:Array Value)(w:World)(R:Value->World->Prop):Prop:=
 (∃g as,(callFunc f args).run P w=.ok (.enter g as) w/\Calls P g as w fun e w'=>∃v,e=.returned v/\R v w')\/
 (∃v,(callFunc f args).run P w=.ok (.value v) w/\R v w)
def Left(S:Nat->Prop)(w:World)(fp:List Nat)(rs:List R)(outs:List T)(lent:List Value)(v:Value)(w':World):Prop:=
 ∃(S':Nat->Prop)(lX:List Value)(fp1 fp2:List Nat),v=zN lX/\ia S w S' w'/\(∀b,S' b->S b\/b∈fp\/w.heap.size<=b)/\(∀b,S' b->b<w'.heap.size)/\
  FW S' w' rs lX fp1/\NH S' w' outs lent fp2/\(fp1++fp2).Nodup/\(∀b∈fp1++fp2,¬S' b/\(b∈fp\/w.heap.size<=b))/\I5 (fun b=>b<w.heap.size/\b∉fp) w w'
def AW(P:Program)(f:FuncId)(as:List A)(rs:List R)(outs:List T):Prop:=
 ∀(S:Nat->Prop)(w:World)(vs:List Value)(fp:List Nat),(∀b,S b->b<w.heap.size)->NP S w as vs fp->fp.Nodup->(∀b∈fp,¬S b)->DB S w->
  Sa P f vs.toArray w (Left S w fp rs outs (ol as vs))
def oC(P:Program)(call:Call):Prop:=∀f as rs outs,call f as=some (rs,outs)->AW P f as rs outs
theorem NP.DC{S S':Nat->Prop}{w:World}(hs:ia S w S' w){as:List A}:∀{vs:List Value}{fp:List Nat},NP S w as vs fp->NP S' w as vs fp:=by
 induction as with
 |nil=>intro vs fp h;cases vs<;>exact h
 |cons x as ih=>
  intro vs fp h;cases vs with
  |nil=>exact h
  |cons v vs=>obtain⟨f1,f2,h1,h2,h3⟩:=h;refine⟨f1,f2,h1,?_,ih h3⟩;cases x with|d y=>exact⟨h2.1.mono hs,h2.2⟩|agg xs=>obtain⟨aL,q1,q2,q3,q4⟩:=h2;exact⟨aL,q1,q2,fun i x hi=>(q3 i x hi).mono hs,q4⟩|mt t=>exact RT.mono hs h2 fun _ _=>rfl
section
variable{P:Program}{S K:Nat->Prop}{w0 w:World}{Kn:Nat->Prop}{φ:Nat->gW}{H:bD}{e:kA}{ρ:Operand->Value}{o:Oper}{call:Call}
 {nxt n':Nat} {v:TV} {u:fN} {aw:List Nat}
inductive HQ(Kn:Nat->Prop)(φ:Nat->gW)(S:Nat->Prop)(w:World):List (C×List Nat×List Nat)->List Value->Prop
 |nil:HQ Kn φ S w [] []
 |cons {c:C} {bq rd:List Nat} {l:List (C×List Nat×List Nat)} {v:Value} {vs:List Value} (h:RC S w Kn φ c v) (hl:HQ Kn φ S w l vs):HQ Kn φ S w ((c,bq,rd)::l) (v::vs)
theorem HM{H:bD}(hI:Inv S K w0 Kn φ (az H) w):∀(tvs:List TV)(ms:List Bool)(as:List A)(aw:List Nat)(lent:List (C×List Nat×List Nat))(vs:List Value),
  gK H tvs ms=some (as,aw,lent)->tvs.length=vs.length->(∀(i:Nat)(t:TV)(v:Value),tvs[i]?=some t->vs[i]?=some v->gw S w Kn φ t v)->
  NP (SB S w φ (az H) aw) w as vs ((lent.flatMap (·.2.1)).flatMap (iH w φ (az H)))/\(∀i∈lent.flatMap (·.2.1),∃o,az H i=some o/\cL o=true)/\HQ Kn φ S w lent (ol as vs):=by
 intro tvs;induction tvs with
 |nil=>
  intro ms as aw lent vs h hl hr;obtain⟨rfl,rfl,rfl⟩:[]=as/\[]=aw/\[]=lent:=by simpa[gK]using h
  obtain rfl:vs=[]:=List.length_eq_zero_iff.1 hl.symm;exact⟨rfl,fun i hi=>by simp at hi,.nil⟩
 |cons t tvs ih=>
  intro ms as aw lent vs h hl hr;cases vs with
  |nil=>simp at hl
  |cons v vs=>
   have h0:=hr 0 t v rfl rfl;simp only[gK]at h;split at h
   .simp at h
   .rename_i as1 ids1 lent1 hrec;obtain⟨i1,i2,i3⟩:=ih ms.tail as1 ids1 lent1 vs hrec (by simpa using hl) (fun i t v hi hv=>hr (i+1) t v (by simpa using hi) (by simpa using hv));split at h
    .split at h
     .rename_i c;split at h
      .rename_i t0 bq rd hp;obtain⟨rfl,rfl,rfl⟩:A.mt t0::as1=as/\ids1=aw/\(c,bq,rd)::lent1=lent:=by simpa using h
       cases h0 with
       |c h0=>
        obtain⟨p1,p2⟩:=(te hI 300).1 c t0 bq rd v hp h0;refine⟨⟨bq.flatMap (iH w φ (az H)),_,by simp,p1.mono (SB.vn _) (fun _ _=>rfl),i1⟩,fun i hi=>?_,.cons h0 i3⟩;rcases ap.1 (by simpa using hi:i∈bq++lent1.flatMap (·.2.1))with hi|hi
        .exact p2 i hi
        .exact i2 i hi
      .simp at h
     .simp at h
    .split at h
     .rename_i c;split at h
      .rename_i x i hp;obtain⟨rfl,rfl,rfl⟩:A.d x::as1=as/\i++ids1=aw/\lent1=lent:=by simpa using h
       cases h0 with|c h0=>have p1:=(vh hI 300).1 c x i v hp h0;refine⟨⟨[],_,rfl,⟨p1.mono (SB.DC _ _ fun j hj=>by simp[hj]),rfl⟩,?_⟩,i2,i3⟩;exact i1.DC (SB.DC _ _ fun j hj=>by simp[hj])
      .simp at h
     .rename_i cs;split at h
      .rename_i xs i hp;obtain⟨rfl,rfl,rfl⟩:A.agg xs::as1=as/\i++ids1=aw/\lent1=lent:=by simpa using h
       cases h0 with
       |@agg _ aL hlen h0=>
        obtain⟨q1,q2⟩:=sK hI cs xs i hp (fun i=>aL[i]?) (fun i c hi=>by
         have hlt:i<aL.size:=by rw[<-hlen];exact(ao.1 hi).1
         exact⟨aL.getD i undef,by simp[hlt],h0 i c hi⟩)
        refine⟨⟨[],_,rfl,⟨aL,rfl,q1.trans hlen,fun j x hj=>?_,rfl⟩,?_⟩,i2,i3⟩
        .obtain ⟨y,hy,hd⟩:=q2 j x hj;have hy':aL[j]?=some y:=hy;have e1:aL.getD j undef=y:=by simp[hy']
         rw[e1];exact hd.mono (SB.DC _ _ fun k hk=>by simp[hk])
        .exact i1.DC (SB.DC _ _ fun j hj=>by simp[hj])
      .simp at h
     .simp at h
end
section
variable{P:Program}{S K:Nat->Prop}{w0 w:World}{Kn:Nat->Prop}{φ:Nat->gW}{hf:Nat->Option Ob}{H:bD}{e:kA}{ρ:Operand->Value}{o:Oper}{call:Call}
 {nxt n':Nat} {v:TV} {u:fN} {aw:List Nat}
theorem tD.Py{fa fb:List Nat}{n m:Nat}{φ1:Nat->gW}(hI:Inv S K w0 Kn φ hf w)(h:tD S K w0 w Kn φ hf fa n m u φ1)(ha:uZ w φ hf fb)(hd:∀x∈fa,x∉fb):uZ w φ1 (bn u hf) fb:=by
 intro j o hj hown x hx hm;by_cases hu:∃p∈u,p.1=j
 .obtain ⟨p,hp,rfl⟩:=hu;exact hd _ (h.cQ p hp x hx) hm
 .have hfn:cn u j=none:=mu fun p hp e=>hu ⟨p,hp,e⟩;have hj':=hj;simp only[bn,hfn]at hj';have hk:=(hI.jy j o hj').1;rw[gO (h.t6.same j hk) (hj.trans hj'.symm)]at hx;exact ha j o hj' hown x hx hm
theorem I9(r:R)(nxt:Nat)(v:Value)(fp:List Nat)(hI:Inv S K w0 Kn φ hf w)(hfr:∀j,nxt<=j->j<(x8 nxt r).2.2->¬Kn j)(h:RR S w r v fp)(hn:fp.Nodup)(hSK:∀b∈fp,¬S b/\¬K b)(ha:uZ w φ hf fp):
  ∃φ',tD S K w0 w Kn φ hf fp nxt (x8 nxt r).2.2 (x8 nxt r).2.1 φ'/\gw S w (qi Kn nxt (x8 nxt r).2.2) φ' (x8 nxt r).1 v:=by
 cases r with|c t=>obtain⟨φ',h1,h2⟩:=w_ t nxt v fp hI hfr h hn hSK ha;exact⟨φ',h1,.c h2⟩|agg ts=>obtain⟨aL,fps,rfl,h1,h2,rfl,h3⟩:=h;obtain⟨φ',h4,h5,h6⟩:=uv ts nxt (fun i=>aL.getD i undef) fps hI hfr h2 h3 hn hSK ha;exact⟨φ',h4,.agg (h5.trans h1) h6⟩
theorem Qo(r:R)(nxt:Nat):nxt<=(x8 nxt r).2.2:=by cases r with|c t=>exact KY t nxt|agg ts=>exact w9 ts nxt
theorem oO(nxt:Nat)(r:R)(rs:List R):il nxt (r::rs)=((x8 nxt r).1::(il (x8 nxt r).2.2 rs).1,(x8 nxt r).2.1++(il (x8 nxt r).2.2 rs).2.1,(il (x8 nxt r).2.2 rs).2.2):=rfl
theorem HV:∀(rs:List R)(nxt:Nat),nxt<=(il nxt rs).2.2:=by intro rs;induction rs with|nil=>intro nxt;exact am _|cons r rs ih=>intro nxt;rw[oO];exact bt (Qo r nxt) (ih _)
theorem F7:∀(rs:List R){Kn:Nat->Prop}{φ:Nat->gW}{hf:Nat->Option Ob}(nxt:Nat)(vs:List Value)(fp:List Nat),Inv S K w0 Kn φ hf w->(∀j,nxt<=j->j<(il nxt rs).2.2->¬Kn j)->FW S w rs vs fp->fp.Nodup->
  (∀b∈fp,¬S b/\¬K b)->uZ w φ hf fp->
  ∃φ',tD S K w0 w Kn φ hf fp nxt (il nxt rs).2.2 (il nxt rs).2.1 φ'/\(il nxt rs).1.length=vs.length/\
   ∀(i:Nat)(t:TV)(v:Value),(il nxt rs).1[i]?=some t->vs[i]?=some v->gw S w (qi Kn nxt (il nxt rs).2.2) φ' t v:=by
 intro rs;induction rs with
 |nil=>intro Kn φ hf nxt vs fp hI hfr h hn hSK ha;cases vs with|cons v vs=>exact h.elim|nil=>obtain rfl:fp=[]:=h;exact⟨φ,tD.nil hI _ _,rfl,fun i t v hi=>by simp[il]at hi⟩
 |cons r rs ih=>
  intro Kn φ hf nxt vs fp hI hfr h hn hSK ha;cases vs with
  |nil=>exact h.elim
  |cons v vs=>
   obtain⟨f1,f2,rfl,h1,h2⟩:=h;rw[cC]at hn;obtain⟨hn1,hn2,hn3⟩:=hn;simp only[ap]at hSK;obtain⟨φ1,hL1,hr1⟩:=I9 r nxt v f1 hI (fun j hj hj2=>hfr j hj (by rw[oO];exact dp hj2 (HV rs _))) h1 hn1 (fun b hb=>hSK b (.inl hb)) (fun j o hj hown x hx hm=>ha j o hj hown x hx (by simp[hm]))
   obtain⟨φ2,hL2,hlen,hr2⟩:=ih (Kn:=qi Kn nxt (x8 nxt r).2.2) (φ:=φ1) (hf:=bn (x8 nxt r).2.1 hf) (x8 nxt r).2.2 vs f2 hL1.inv (fun j hj hj2 hk=>by
    rcases hk with hk|hk
    .have:=hL1.le;exact hfr j (by omega) (by rw[oO];exact hj2) hk
    .omega) h2 hn2 (fun b hb=>hSK b (.inr hb)) (hL1.Py hI (fun j o hj hown x hx hm=>ha j o hj hown x hx (by simp[hm])) fun x hx hx2=>hn3 x hx x hx2 rfl)
   have hcomp:=hL1.qR hL2;have hcm:bn ((il (x8 nxt r).2.2 rs).2.1++(x8 nxt r).2.1) hf=bn ((x8 nxt r).2.1++(il (x8 nxt r).2.2 rs).2.1) hf:=nH fun p hp q hq e=>by have h1:=hL2.gV p hp;have h2:=hL1.gV q hq;omega
   have hsub:∀i,qi (qi Kn nxt (x8 nxt r).2.2) (x8 nxt r).2.2 (il (x8 nxt r).2.2 rs).2.2 i->qi Kn nxt (il (x8 nxt r).2.2 rs).2.2 i:=fun i=>(tj hL1.le hL2.le i).1;refine⟨φ2,?_,by simp[oO,hlen],fun i t v' hi hv=>?_⟩
   .simp only[oO];have hsw:∀{p:Nat×Option Ob}{a b:fN},p∈a++b->p∈b++a:=fun hp=>ap.2 (ap.1 hp).symm;exact⟨hcomp.le,hcomp.t6,hcm▸hcomp.inv,fun p hp=>hcomp.gV p (hsw hp),fun p hp x hx=>hcomp.cQ p (hsw hp) x (hcm.symm▸hx)⟩
   .cases i with
    |zero=>
     obtain rfl:(x8 nxt r).1=t:=by simpa[oO]using hi
     obtain rfl:v=v':=by simpa using hv
     exact(hr1.mono (ia.refl _ _) hL2.t6).kn hsub
    |succ i=>exact(hr2 i t v' (by simpa[oO]using hi) (by simpa using hv)).kn hsub
theorem Inv.put(h:Inv S K w0 Kn φ hf w){i:Nat}(hi:Kn i)(o:Ob)(hfree:cL o=true->∀j b,hf j=some b->cL b=true->j≠i->(φ i).cQ∉iH w φ hf j)
  (hro:RO S K w Kn φ (φ i) o)
  (hp:∀sz sl k x,o=.nst sz sl->tL w (φ i) sl k x->x≠(φ i).cQ/\(∀j b,hf j=some b->cL b=true->j≠i->x∉iH w φ hf j)/\∀k',tL w (φ i) sl k' x->k'=k:=by intro _ _ _ _ e;cases e):
  Inv S K w0 Kn φ (bn [(i,some o)] hf) w:=by
 have hold:∀j b,bn [(i,some o)] hf j=some b->(j=i/\b=o)\/(j≠i/\hf j=some b):=by
  intro j b hj;rw[bV]at hj;by_cases e:i=j
  .rw [if_pos e]at hj;exact .inl ⟨e.symm,(aa hj).symm⟩
  .rw [if_neg e,fW]at hj;exact .inr ⟨fun q=>e q.symm,hj⟩
 refine h.vX (ia.refl _ _) (uO.refl _ _) h.vY h.sk h.oJ ?_ ?_ ?_
 .intro id o' ho;rcases hold id o' ho with⟨rfl,rfl⟩|⟨_,ho'⟩
  .exact .inr ⟨hi,hro⟩
  .exact .inl ⟨ho',fun hown=>⟨rfl,((h.jy id o' ho').2.bq hown).1⟩,h.Fe ho' fun _ _=>rfl⟩
 .intro a b oa ob ha hb hoa hob hne;rcases hold a oa ha with⟨e1,e2⟩|⟨n1,ha'⟩<;>rcases hold b ob hb with⟨e3,e4⟩|⟨n2,hb'⟩
  .exact absurd (e1.trans e3.symm) hne
  .rw [e1];exact fun e=>hfree (e2▸hoa) b ob hb' hob n2 (dZ.2 (.inl e))
  .rw [e3];exact fun e=>hfree (e4▸hob) a oa ha' hoa n1 (dZ.2 (.inl e.symm))
  .exact h.pL a b oa ob ha' hb' hoa hob hne
 .intro a sz sl k x ha hpa;rcases hold a _ ha with⟨ea,eo⟩|⟨na,ha'⟩
  .rw [ea]at hpa;obtain⟨p1,p2,p3⟩:=hp sz sl k x eo.symm hpa;refine⟨fun j b hj hown=>?_,fun j sz' sl' k' hj hpj=>?_⟩
   .rcases hold j b hj with⟨ej,_⟩|⟨nj,hj'⟩
    .rw [ej];exact fun e=>p1 e.symm
    .exact fun e=>p2 j b hj' hown nj (dZ.2 (.inl e.symm))
   .rcases hold j _ hj with⟨ej,eo2⟩|⟨nj,hj'⟩
    .rw [ej]at hpj;rw[<-eo]at eo2;cases eo2;exact⟨ej.trans ea.symm,p3 k' hpj⟩
    .exact absurd (dZ.2 (.inr ⟨sz',sl',k',hj',hpj⟩)) (p2 j _ hj' rfl nj)
  .obtain ⟨p1,p2⟩:=h.ye a sz sl k x ha' hpa;refine⟨fun j b hj hown=>?_,fun j sz' sl' k' hj hpj=>?_⟩
   .rcases hold j b hj with⟨ej,eo⟩|⟨_,hj'⟩
    .rw [ej];exact fun e=>hfree (eo▸hown) a _ ha' rfl na (dZ.2 (.inr ⟨sz,sl,k,ha',e▸hpa⟩))
    .exact p1 j b hj' hown
   .rcases hold j _ hj with⟨ej,eo⟩|⟨_,hj'⟩
    .rw [ej]at hpj;exact absurd (dZ.2 (.inr ⟨sz,sl,k,ha',hpa⟩)) ((hp sz' sl' k' x eo.symm hpj).2.1 a _ ha' rfl na)
    .exact p2 j sz' sl' k' hj' hpj
structure TD(S K:Nat->Prop)(w0 w:World)(Kn:Nat->Prop)(φ:Nat->gW)(hf:Nat->Option Ob)(fp:List Nat)(owns:List Nat)(nxt m:Nat)(u:fN)(φ':Nat->gW):Prop where
 le:nxt<=m
 t6:uO Kn φ (qi Kn nxt m) φ'
 inv:Inv S K w0 (qi Kn nxt m) φ' (bn u hf) w
 G9:∀p∈u,p.1∈owns\/(nxt<=p.1/\p.1<m)
 S8:∀i∈owns,(cn u i).isSome=true
 cQ:∀i o,bn u hf i=some o->cL o=true->(i∈owns\/(nxt<=i/\i<m))->∀x∈iH w φ' (bn u hf) i,x∈fp
def kS(l:List (C×List Nat×List Nat)):List Nat:=l.flatMap (·.2.1)
theorem sn(bq:List Nat)(j:Nat):cn (bq.map fun i=>((i,none):Nat×Option Ob)) j=if j∈bq then some none else none:=by
 induction bq with
 |nil=>rfl
 |cons a l ih=>
  simp only[aD,cn];by_cases e:a=j
  .simp [e]
  .have e':(a==j)=false:=by simpa using e
   have e2:¬j=a:=fun h=>e h.symm;simp[e',ih,e2]
theorem RC.QM{id off:Nat}{v:Value}(h:RC S w Kn φ (.op id off) v):v=.pointer (some ⟨(φ id).cQ,(φ id).aN+off,none⟩)/\Kn id:=by cases h with|op hk=>exact⟨rfl,hk⟩
theorem pP.KX{w:World}{b:Nat}{a a':Array Value}(h:pP w b a)(h':pP w b a'):a=a':=by obtain⟨t,h⟩:=h;obtain⟨t',h'⟩:=h';rw[h]at h';simp at h';exact h'.1
theorem tq{α:Type}{u:List (Nat×α)}{id:Nat}{x:α}(h:cn u id=some x):∃p∈u,p.1=id:=by
 induction u with
 |nil=>simp[cn]at h
 |cons p r ih=>
  obtain⟨i,y⟩:=p;by_cases e:i=id
  .exact ⟨(i,y),by simp,e⟩
  .have e2:(i==id)=false:=by simpa using e
   simp only[cn,e2,cond_false]at h;obtain⟨p,hp,hpe⟩:=ih h;exact⟨p,by simp[hp],hpe⟩
theorem Ca:∀(l:List (C×List Nat×List Nat))(outs:List T)(nxt:Nat)(bu:fN)(m:Nat),dX nxt l outs=some (bu,m)->nxt<=m:=by
 intro l;induction l with
 |nil=>
  intro outs nxt bu m h;cases outs with
  |nil=>obtain⟨_,rfl⟩:[]=bu/\nxt=m:=by simpa[dX]using h
        exact am _
  |cons t ts=>simp[dX]at h
 |cons p l ih=>
  obtain⟨c,bq,rd⟩:=p;intro outs nxt bu m h;cases outs with
  |nil=>unfold dX at h;simp at h
  |cons t outs=>
   unfold dX at h;split at h
   .simp at*
   .rename_i heq1 heq2;simp only[dP,dh]at heq1 heq2;obtain⟨_,rfl⟩:=heq1;exact ih _ _ _ _ h
   .rename_i heq1 heq2;simp only[dP,dh]at heq1 heq2;obtain⟨_,rfl⟩:=heq1;split at h
    .rename_i w2 k hrec;split at h
     .obtain ⟨_,rfl⟩:=af (aa h);exact bt (w9 _ _) (ih _ _ _ _ hrec)
     .simp at h
    .simp at h
   .rename_i heq1 heq2;simp only[dP,dh]at heq1 heq2;obtain⟨_,rfl⟩:=heq1;split at h
    .split at h
     .rename_i w2 k hrec;obtain⟨_,rfl⟩:=af (aa h);exact ih _ _ _ _ hrec
     .simp at h
    .simp at h
   .rename_i heq1 heq2;simp only[dP,dh]at heq1 heq2;obtain⟨_,rfl⟩:=heq1;split at h
    .split at h
     .rename_i w2 k hrec;obtain⟨_,rfl⟩:=af (aa h);exact ih _ _ _ _ hrec
     .simp at h
    .simp at h
   .rename_i heq1 heq2;simp only[dP,dh]at heq1 heq2;obtain⟨_,rfl⟩:=heq1;split at h
    .rename_i w2 k hrec;obtain⟨_,rfl⟩:=af (aa h);exact ih _ _ _ _ hrec
    .simp at h
   .simp at h
theorem Fa{H0:bD}{S0 K0:Nat->Prop}{wp wz:World}{Kn0:Nat->Prop}{φ0:Nat->gW}(hI0:Inv S0 K0 wz Kn0 φ0 (az H0) wp){id len:Nat}
  (hw:(match az H0 id with|some (.aL _ rows)=>(0==0)&&len==rows.length|some (.nst _ slots)=>(0==0)&&len==slots.length|_=>false)=true):
  ∃aL,pP wp (φ0 id).cQ aL/\aL.size=(φ0 id).ext/\(φ0 id).aN+len*(φ0 id).sz<=(φ0 id).ext/\len<=(φ0 id).cap:=by
 split at hw
 .rename_i sz rows ho;obtain⟨_,h0⟩:=hI0.jy _ _ ho;have hl:len=rows.length:=by simpa using hw
  subst hl;cases h0 with|aL hsz hl hS hK hown hext hfit hr hv=>exact⟨_,hown,hext,by rw[hl];exact hfit,hv⟩
 .rename_i sz slots ho;obtain⟨_,h0⟩:=hI0.jy _ _ ho;have hl:len=slots.length:=by simpa using hw
  subst hl;cases h0 with|nst hsz hl hS hK hown hext hfit hr hv=>exact⟨_,hown,hext,by rw[hl,lh];exact hfit,hv⟩
 .cases hw
theorem HL{H0:bD}{S0:Nat->Prop}{wp:World}{Kn0:Nat->Prop}{φ0:Nat->gW}{K0:Nat->Prop}{wz:World}(hI0:Inv S0 K0 wz Kn0 φ0 (az H0) wp)(hgrow:∀b aL,pP wp b aL->∃arr',pP w b arr'/\arr'.size=aL.size):
  ∀(l:List (C×List Nat×List Nat))(vs:List Value)(outs:List T)(fp:List Nat){Kn:Nat->Prop}{φ:Nat->gW}{hf:Nat->Option Ob}(nxt:Nat)(bu:fN)(m:Nat),
  HQ Kn0 φ0 S0 wp l vs->eT H0 l=true->NH S w outs vs fp->Inv S K w0 Kn φ hf w->(∀j,nxt<=j->j<m->¬Kn j)->uO Kn0 φ0 Kn φ->fp.Nodup->(∀b∈fp,¬S b/\¬K b)->uZ w φ hf fp->
  (∀i∈kS l,hf i=none/\Kn0 i)->(kS l).Nodup->dX nxt l outs=some (bu,m)->∃φ',TD S K w0 w Kn φ hf fp (kS l) nxt m bu φ':=by
 intro l;induction l with
 |nil=>
  intro vs outs fp Kn φ hf nxt bu m hl hw hr hI hfr hren hn hSK ha hown hon h;cases hl;cases outs with
  |cons t ts=>exact hr.elim
  |nil=>
   obtain⟨rfl,rfl⟩:[]=bu/\nxt=m:=by simpa[dX]using h
   exact⟨φ,am _,rb _ _,hI.kn fun _ hi=>.inl hi,fun p hp=>by simp at hp,fun i hi=>by simp[kS]at hi,fun i o _ _ hx=>by
    rcases hx with hx|hx
    .simp [kS]at hx
    .omega⟩
 |cons p l ih=>
  obtain⟨c,bq,rd⟩:=p;intro vs outs fp Kn φ hf nxt bu m hl hw hr hI hfr hren hn hSK ha hown hon h;cases hl with
  |@cons _ _ _ _ v vs hc hl=>
  cases outs with
  |nil=>exact hr.elim
  |cons t outs=>
   obtain⟨f1,f2,rfl,hr1,hr2⟩:=hr;rw[cC]at hn;obtain⟨hn1,hn2,hn3⟩:=hn;simp only[ap]at hSK;have ha1:uZ w φ hf f1:=fun j o hj hown x hx hm=>ha j o hj hown x hx (by simp[hm]);have ha2:uZ w φ hf f2:=fun j o hj hown x hx hm=>ha j o hj hown x hx (by simp[hm]);have ho1:∀i∈bq,hf i=none/\Kn0 i:=fun i hi=>hown i (by simp[kS,hi]);have ho2:∀i∈kS l,hf i=none/\Kn0 i:=fun i hi=>hown i (by simp only[kS,bo,ap];exact .inr hi);have hoc:kS ((c,bq,rd)::l)=bq++kS l:=rfl;rw[hoc,cC]at hon;obtain⟨hon1,hon2,hon3⟩:=hon;have hw2:eT H0 l=true:=by cases c<;>simp only[eT,ai]at hw<;>first|exact hw|exact hw.2
   have rO:∀(id:Nat)(ob:Ob)(w2:fN)(k:Nat),bq=[id]->(bu,m)=((id,some ob)::w2,k)->dX nxt l outs=some (w2,k)->Inv S K w0 Kn φ (bn [(id,some ob)] hf) w->(∀x∈iH w φ (bn [(id,some ob)] hf) id,x∈f1)->
     ∃φ',TD S K w0 w Kn φ hf (f1++f2) (kS ((c,bq,rd)::l)) nxt m bu φ':=by
    intro id ob w2 k hownid hbm hrec hput hblk;subst hownid;obtain⟨rfl,rfl⟩:=af hbm;obtain⟨hidn,hidk0⟩:=ho1 id (by simp);have hidk:=hren.sub id hidk0;have hφ:=hren.same id hidk0;have hidlt:¬(nxt<=id/\id<m):=fun h=>hfr id h.1 h.2 hidk
    obtain⟨φ2,hB⟩:=ih vs outs f2 nxt w2 m hl hw2 hr2 hput hfr hren hn2 (fun b hb=>hSK b (.inr hb))
     (fun j o hj hown x hx hm=>by
      have hj':=hj;rw[bV]at hj';split at hj'
      .rename_i e;subst e;exact hn3 x (hblk x hx) x hm rfl
      .rw [gO rfl (hj.trans hj'.symm)]at hx;exact ha2 j o hj' hown x hx hm)
     (fun i hi=>by obtain⟨h1,h2⟩:=ho2 i hi;refine⟨?_,h2⟩;have hne:¬id=i:=fun e=>hon3 id (by simp) i hi e;rw[bV,if_neg hne];exact h1) hon2 hrec
    have hkeys:=hB.G9;have hm2:=hB.le
    have hdis:∀q∈w2,id≠q.1:=fun q hq e=>by
     rcases hkeys q hq with h|h
     .exact hon3 id (by simp) q.1 h e
     .omega
    have heq:bn ((id,some ob)::w2) hf=bn w2 (bn [(id,some ob)] hf):=by rw[<-eP];exact nH (u:=[(id,some ob)]) fun p hp q hq e=>by rw[aq.1 hp]at e;exact hdis q hq e
    refine⟨φ2,hB.le,hB.t6,heq▸hB.inv,fun p hp=>?_,fun i hi=>?_,fun i o hio hownio hi=>?_⟩
    .rw [hoc];rcases aJ.1 hp with rfl|hp
     .exact .inl (by simp)
     .rcases hkeys p hp with h|h
      .exact .inl (by simp[h])
      .exact .inr h
    .rw [hoc]at hi;simp only[cn];by_cases e:id=i
     .simp [e]
     .have e':(id==i)=false:=by simpa using e
      simp only[e',cond_false];rcases ap.1 hi with hi|hi
      .exact absurd (aq.1 hi).symm e
      .exact hB.S8 i hi
    .rw [heq]at hio|-;intro x hx;by_cases hrest:i∈kS l\/(nxt<=i/\i<m)
     .exact aC _ (hB.cQ i o hio hownio hrest x hx)
     .have hi2:i=id:=by
       rcases hi with hi|hi
       .rw [hoc]at hi;rcases ap.1 hi with h|h
        .exact aq.1 h
        .exact absurd (.inl h) hrest
       .exact absurd (.inr hi) hrest
      subst hi2;have hwn:cn w2 i=none:=mu fun q hq e=>hdis q hq e.symm
      have hwi:bn w2 (bn [(i,some ob)] hf) i=bn [(i,some ob)] hf i:=by
       conv=>lhs;unfold bn
       rw[hwn];rfl
      rw[gO (hB.t6.same i hidk) hwi]at hx;exact aA _ (hblk x hx)
   unfold dX at h;split at h
   .simp at*
   .--nothing was owned
    rename_i heq1 heq2;simp only[dP,dh]at heq1 heq2;obtain⟨⟨rfl,rfl,rfl⟩,rfl⟩:=heq1;obtain⟨rfl,rfl⟩:=heq2;have hr1:=hr1.resolve_left fun h=>by cases h.1
    have e0:f1=[]:=by cases hr1;rfl
    subst e0;obtain⟨φ',hB⟩:=ih vs outs f2 nxt bu m hl hw2 hr2 hI hfr hren hn2 (fun b hb=>hSK b (.inr hb)) ha2 ho2 hon2 h;exact⟨φ',hB.le,hB.t6,hB.inv,hB.G9,hB.S8,hB.cQ⟩
   .--a box
    rename_i id own' rd' r ts' ts heq1 heq2;simp only[dP,dh]at heq1 heq2;obtain⟨⟨rfl,rfl,rfl⟩,rfl⟩:=heq1;obtain⟨rfl,rfl⟩:=heq2;split at h
    .rename_i w2 k hrec;split at h
     .rename_i hcon;obtain⟨rfl,rfl⟩:(id,some (Ob.box (jb nxt ts').1))::(jb nxt ts').2.1++bq.map (fun i=>((i,none):Nat×Option Ob))++w2=bu/\k=m:=by simpa using h
      have hid:id∈bq:=by simpa using hcon
      obtain⟨hidn,hidk0⟩:=ho1 id hid;have hidk:=hren.sub id hidk0;have hφ:=hren.same id hidk0;obtain⟨hv,_⟩:=hc.QM;have hr1:=hr1.resolve_left fun h=>by cases h.1
      cases hr1 with
      |@pt _ b aL fps hown0 hlen hfl hrec2=>
      simp only[Value.pointer.injEq,ce,Addr.mk.injEq]at hv;obtain⟨hb,hbase,_⟩:=hv;rw[<-hφ]at hb hbase;have hbase0:(φ id).aN=0:=by omega
      rw[gX]at hn1;have hmk:=Ca _ _ _ _ _ hrec;have hidlt:¬(nxt<=id/\id<k):=fun h=>hfr id h.1 h.2 hidk
      obtain⟨φ1,hL,hcl,hcr⟩:=uv ts' nxt (fun i=>aL.getD i undef) fps hI (fun j hj hj2=>hfr j hj (by omega)) hfl hrec2 hn1.2 (fun b' hb'=>hSK b' (.inl (av _ hb')))
       (fun j o hj hown x hx hm=>ha1 j o hj hown x hx (av _ hm))
      have hm1:=hL.le;have hφ1:φ1 id=φ id:=hL.t6.same id hidk;have hul:cn (jb nxt ts').2.1 id=none:=mu fun p hp e=>by have:=hL.gV p hp;omega
      have hdead:bn (jb nxt ts').2.1 hf id=none:=by simp only[bn,hul,hidn]
      have hawb:uZ w φ1 (bn (jb nxt ts').2.1 hf) [b]:=hL.Py hI (fun j o hj hown x hx hm=>ha1 j o hj hown x hx (by rw[aq.1 hm];simp)) fun x hx hx2=>hn1.1 (by rw[<-aq.1 hx2];exact hx)
      have hput:=hL.inv.put (i:=id) (.inl hidk) (.box (jb nxt ts').1) (fun _ j o hj hown hne hm=>by rw[hφ1,<-hb]at hm;exact hawb j o hj hown b hm (by simp))
       (.box (by rw[hφ1];exact hbase0) (by rw[hφ1,<-hb];exact(hSK b (.inl (by simp))).1) (by rw[hφ1,<-hb];exact(hSK b (.inl (by simp))).2) (by rw[hφ1,<-hb];exact hown0) (hcl.trans hlen) hcr)
      have hav2:uZ w φ1 (bn (jb nxt ts').2.1 hf) f2:=hL.Py hI ha2 fun x hx hx2=>hn3 x (av _ hx) x hx2 rfl;have hult:∀i,¬(nxt<=i/\i<k)->cn (jb nxt ts').2.1 i=none:=fun i hi=>mu fun p hp e=>by have:=hL.gV p hp;omega
      have hownlt:∀i,Kn0 i->¬(nxt<=i/\i<k):=fun i hi h=>hfr i h.1 h.2 (hren.sub i hi);rw[<-eP]at hput
      obtain⟨φ2,hB⟩:=ih vs outs f2 (jb nxt ts').2.2 w2 k hl hw2 hr2 hput (fun j hj hj2 hk=>by
        rcases hk with hk|hk
        .exact hfr j (by omega) hj2 hk
        .omega) ⟨fun i hi=>.inl (hren.sub i hi),fun i hi=>(hL.t6.same i (hren.sub i hi)).trans (hren.same i hi)⟩ hn2 (fun b hb=>hSK b (.inr hb))
       (fun j o hj hown x hx hm=>by
        have hj':=hj;rw[bd,bV]at hj';split at hj'
        .rename_i e;subst e;rw[qN (fun _ _ e=>by rw[bd,bV,if_pos rfl]at e;cases e),hφ1,<-hb]at hx;rw[aq.1 hx]at hm;exact hn3 b (by simp) b hm rfl
        .rw [gO rfl (hj.trans hj'.symm)]at hx;exact hav2 j o hj' hown x hx hm)
       (fun i hi=>by obtain⟨h1,h2⟩:=ho2 i hi;refine⟨?_,h2⟩;have hne:¬id=i:=fun e=>hon3 id hid i hi e;rw[bd,bV,if_neg hne];simp only[bn,hult i (hownlt i h2),h1]) hon2 hrec
      have hkeys:=hB.G9;have hm2:=hB.le
      have hdis:∀j x,cn w2 j=some x->j≠id/\j∉bq/\cn (jb nxt ts').2.1 j=none:=by
       intro j x hx;obtain⟨p,hp,rfl⟩:=tq hx;rcases hkeys p hp with h|h
       .exact ⟨fun e=>hon3 id hid p.1 h e.symm,fun e=>hon3 p.1 e p.1 h rfl,hult _ (hownlt _ (ho2 _ h).2)⟩
       .refine ⟨fun e=>by omega,fun e=>by have:=hownlt _ (ho1 _ e).2;omega,mu fun q hq e=>?_⟩;have:=hL.gV q hq;omega
      have heq:bn ((id,some (Ob.box (jb nxt ts').1))::(jb nxt ts').2.1++bq.map (fun i=>((i,none):Nat×Option Ob))++w2) hf=bn w2 (bn ([(id,some (Ob.box (jb nxt ts').1))]++(jb nxt ts').2.1) hf):=by
       have hno:bn (bq.map (fun i=>((i,none):Nat×Option Ob))) (bn w2 hf)=bn w2 hf:=by
        funext j
        conv=>lhs;unfold bn
        rw[sn];by_cases hjo:j∈bq
        .rw [if_pos hjo];have hwj:cn w2 j=none:=by cases hx:cn w2 j with|none=>rfl|some x=>exact absurd hjo (hdis j x hx).2.1
         simp only[bn,hwj,(ho1 j hjo).1]
        .rw [if_neg hjo];rfl
       rw[eP,eP,hno,<-eP,<-eP];refine nH fun p hp q hq e=>?_;rcases hkeys q hq with h|h
       .rcases aJ.1 hp with rfl|hp
        .exact hon3 id hid q.1 h e
        .have:=hL.gV p hp;have:=hownlt _ (ho2 _ h).2;omega
       .rcases aJ.1 hp with rfl|hp
        .simp only at e;omega
        .have:=hL.gV p hp;omega
      refine⟨φ2,by omega,⟨fun i h=>.inl h,fun i h=>(hB.t6.same i (.inl h)).trans (hL.t6.same i h)⟩,?_,fun p hp=>?_,fun i hi=>?_,fun i o hio hownio hi=>?_⟩
      .rw [heq];exact hB.inv.yB fun i=>tj hm1 hm2 i
      .rw [hoc];simp only[aU,aI,aJ,ap,bv]at hp;rcases hp with rfl|hp|⟨i,hi,rfl⟩|hp
       .exact .inl (by simp[hid])
       .have:=hL.gV p hp;exact .inr (by omega)
       .exact .inl (by simp[hi])
       .rcases hkeys p hp with h|h
        .exact .inl (by simp[h])
        .exact .inr (by omega)
      .rw [hoc]at hi;simp only[aU,aI,cn,ic,sn];rcases ap.1 hi with hi|hi
       .by_cases e:id=i
        .simp [e]
        .have e':(id==i)=false:=by simpa using e
         simp only[e',cond_false,if_pos hi];cases cn (jb nxt ts').2.1 i<;>rfl
       .have hs:=hB.S8 i hi;obtain⟨x,hx⟩:=gj.1 hs;obtain⟨h1,h2,h3⟩:=hdis i x hx;have e':(id==i)=false:=by simpa using fun e=>h1 e.symm
        simp only[e',cond_false,h3,if_neg h2,hx,Option.isSome_some]
      .rw [heq]at hio|-;intro x hx;by_cases hrest:i∈kS l\/((jb nxt ts').2.2<=i/\i<k)
       .exact aC _ (hB.cQ i o hio hownio hrest x hx)
       .refine aA _ ?_
        have hw2n:cn w2 i=none:=mu fun q hq e=>by
         rcases hkeys q hq with h|h
         .exact hrest (.inl (e▸h))
         .exact hrest (.inr (e▸h))
        have hi2:i∈bq\/(nxt<=i/\i<(jb nxt ts').2.2):=by
         rcases hi with hi|hi
         .rw [hoc]at hi;rcases ap.1 hi with h|h
          .exact .inl h
          .exact absurd (.inl h) hrest
         .exact .inr ⟨hi.1,by
           rcases Nat.lt_or_ge i (jb nxt ts').2.2 with h|h
           .exact h
           .exact absurd (.inr ⟨h,hi.2⟩) hrest⟩
        have hkn:qi Kn nxt (jb nxt ts').2.2 i:=by
         rcases hi2 with h|h
         .exact .inl (hren.sub i (ho1 i h).2)
         .exact .inr h
        have hwi:bn w2 (bn ([(id,some (Ob.box (jb nxt ts').1))]++(jb nxt ts').2.1) hf) i=bn ([(id,some (Ob.box (jb nxt ts').1))]++(jb nxt ts').2.1) hf i:=by
         conv=>lhs;unfold bn
         rw[hw2n];rfl
        rw[gO (hB.t6.same i hkn) hwi]at hx;by_cases e:id=i
        .subst e;rw[qN (fun _ _ e=>by rw[bd,bV,if_pos rfl]at e;cases e),hφ1,<-hb]at hx;rw[aq.1 hx];simp
        .rcases hi2 with h|h
         .exfalso
          have h1:bn w2 (bn ([(id,some (Ob.box (jb nxt ts').1))]++(jb nxt ts').2.1) hf) i=hf i:=by
           simp only[bn,hw2n,bd,cn];have e':(id==i)=false:=by simpa using e
           simp only[e',cond_false,hult i (hownlt i (ho1 i h).2)]
          rw[h1,(ho1 i h).1]at hio;simp at hio
         .have e':(id==i)=false:=by simpa using e
          cases hfu:cn (jb nxt ts').2.1 i with
          |none=>
           exfalso;have h1:bn w2 (bn ([(id,some (Ob.box (jb nxt ts').1))]++(jb nxt ts').2.1) hf) i=hf i:=by simp only[bn,hw2n,bd,cn,e',cond_false,hfu]
           rw[h1]at hio;exact hfr i h.1 (by omega) (hI.jy i o hio).1
          |some x'=>
           obtain⟨p,hp,rfl⟩:=tq hfu;have hwp:bn ([(id,some (Ob.box (jb nxt ts').1))]++(jb nxt ts').2.1) hf p.1=bn (jb nxt ts').2.1 hf p.1:=by rw[bd,bV,if_neg e]
           rw[gO rfl hwp]at hx;exact av _ (hL.cQ p hp x hx)
     .simp at h
    .simp at h
   .--an array
    rename_i sz id len own' rd' r sz' rows ts heq1 heq2;simp only[dP,dh]at heq1 heq2;obtain⟨⟨rfl,rfl,rfl⟩,rfl⟩:=heq1;obtain⟨rfl,rfl⟩:=heq2;split at h
    .rename_i hcond;obtain⟨hrl,hszz,hownid⟩:=hcond;subst hownid;split at h
     .rename_i w2 k hrec;obtain⟨rfl,rfl⟩:(id,some (Ob.aL sz rows))::w2=bu/\k=m:=by simpa using h
      obtain⟨hidn,hidk0⟩:=ho1 id (by simp);have hφ:=hren.same id hidk0;obtain⟨cap,addr,hv,hszl,hk0,hcap,haddr,hextc,hcl⟩:=hc.ll;have hr1:=hr1.resolve_left fun h=>by cases h.1
      cases hr1 with
      |@sl _ _ b off len1 cap1 aL hsz0 hown0 hlen1 hcap1 hext1 hrr=>
      simp only[Value.slice.injEq,ce,Addr.mk.injEq]at hv;obtain⟨⟨hb,hoff,_⟩,hlen2,hcap2⟩:=hv;subst hszz;simp only[eT,ai]at hw;obtain⟨arr0,hown1,hext0,hfit0,hv0⟩:=Fa hI0 hw.1;obtain⟨arr1,hown2,hsize2⟩:=hgrow _ _ hown1;rw[hb]at hown0;obtain rfl:=hown0.KX hown2;have hb1:=hSK (φ0 id).cQ (.inl (by simp[hb]))
      refine rO id (.aL sz' rows) w2 k rfl rfl hrec (hI.put (i:=id) (hren.sub id hidk0) (.aL sz' rows) (fun _ j o hj hown hne hm=>by rw[hφ,<-hb]at hm;exact ha1 j o hj hown b hm (by simp))
       (.aL hsz0 (by rw[hφ];exact hszl) (by rw[hφ];exact hb1.1) (by rw[hφ];exact hb1.2) (by rw[hφ];exact hown2) (by rw[hφ,<-hext0];exact hsize2)
        (by rw[hφ,hrl,<-hszl];exact hfit0) (by
         rw[hφ];cases rows with
         |nil=>exact⟨fun i r hi=>by simp at hi,fun i r hi=>by simp at hi⟩
         |cons q rows=>
          have:off=(φ0 id).aN:=by rw[hoff,haddr (by simp only[List.length_cons]at hrl;omega)];simp
          rw[<-this];exact hrr) (by rw[hφ,hrl];exact hv0))) fun x hx=>?_
      rw[qN (fun _ _ e=>by rw[bV,if_pos rfl]at e;cases e),hφ,<-hb]at hx;exact hx
     .simp at h
    .simp at h
   .--a bw of rows
    rename_i sz id len own' rd' r szi rows ts heq1 heq2;simp only[dP,dh]at heq1 heq2;obtain⟨⟨rfl,rfl,rfl⟩,rfl⟩:=heq1;obtain⟨rfl,rfl⟩:=heq2;split at h
    .rename_i hcond;obtain⟨hrl,hszz,hownid⟩:=hcond;subst hownid;split at h
     .rename_i w2 k hrec;obtain⟨rfl,rfl⟩:(id,some (Ob.nst szi (rows.map nX)))::w2=bu/\k=m:=by simpa using h
      obtain⟨hidn,hidk0⟩:=ho1 id (by simp);have hφ:=hren.same id hidk0;obtain⟨cap,addr,hv,hszl,hk0,hcap,haddr,hextc,hcl⟩:=hc.ll;have hr1:=hr1.resolve_left fun h=>by cases h.1
      cases hr1 with
      |@AZ _ _ b off cap1 aL fps hsz0 hown0 hcap1 hext1 hfl hrr=>
      simp only[Value.slice.injEq,ce,Addr.mk.injEq]at hv;obtain⟨⟨hb,hoff,_⟩,hlen2,hcap2⟩:=hv;subst hszz;simp only[eT,ai]at hw;obtain⟨arr0,hown1,hext0,hfit0,hv0⟩:=Fa hI0 hw.1;obtain⟨arr1,hown2,hsize2⟩:=hgrow _ _ hown1;rw[hb]at hown0;obtain rfl:=hown0.KX hown2;rw[gX]at hn1;have hb1:=hSK b (.inl (by simp));have hbase:∀i,i<rows.length->off+i=(φ0 id).aN+i:=fun i hi=>by rw[hoff,haddr (by omega)];simp
      have hget:∀i,w.cell? ⟨(φ id).cQ,i,none⟩=aL[i]?:=by rw[hφ];exact hown2.cell
      have hpat:∀k x,tL w (φ id) (rows.map nX) k x->∃fp,fps[k]?=some fp/\fp=[x]:=by rintro k x ⟨rs,v,h1,h2,h3⟩;rw[aK]at h1;obtain⟨r,hr1,hr2⟩:=aG.1 h1;have hlt:=(ao.1 hr1).1;have hf:fps[k]?=some fps[k]:=aB (by omega);obtain⟨v',q1,q2⟩:=hrr k r fps[k] hr1 hf;rw[hget,hφ,<-hbase k hlt,q1]at h2;obtain rfl:=aa h2;cases r with|none=>cases hr2|some rows'=>obtain⟨b',q3,q4⟩:=q2;rw[q4.cQ]at h3;obtain rfl:=aa h3;exact⟨_,hf,q3⟩
      have hmem:∀k x,tL w (φ id) (rows.map nX) k x->x∈fps.flatten:=fun k x hp=>by obtain⟨fp,h1,rfl⟩:=hpat k x hp;exact dO.2 ⟨[x],aR h1,by simp⟩
      have hbl:(φ id).cQ=b:=by rw[hφ,<-hb]
      rw[hszl,lh]at hfit0
      refine rO id (.nst szi (rows.map nX)) w2 k rfl rfl hrec (hI.put (i:=id) (hren.sub id hidk0) (.nst szi (rows.map nX)) (fun _ j o hj hown hne hm=>by rw[hbl]at hm;exact ha1 j o hj hown b hm (by simp))
       (.nst hsz0 (by rw[hφ];exact hszl) (by rw[hbl];exact hb1.1) (by rw[hbl];exact hb1.2) (by rw[hφ];exact hown2) (by rw[hφ,<-hext0];exact hsize2)
        (by rw[hφ,aF,hrl];exact hfit0) (fun i s hi=>by
         rw[aK]at hi;obtain⟨r,hr1,rfl⟩:=aG.1 hi;have hlt:=(ao.1 hr1).1;have hf:fps[i]?=some fps[i]:=aB (by omega);obtain⟨v,q1,q2⟩:=hrr i r fps[i] hr1 hf;refine⟨v,by rw[hφ,<-hbase i hlt];exact q1,?_⟩;cases r with
         |none=>obtain⟨rfl,_⟩:=q2;exact .nil
         |some rows'=>obtain⟨b',q3,q4⟩:=q2;have hm:b'∈fps.flatten:=dO.2 ⟨fps[i],List.getElem_mem _,by rw[q3];simp⟩;exact .bq q4 (hSK b' (.inl (av _ hm))).1 (hSK b' (.inl (av _ hm))).2) (by rw[hφ,aF,hrl];exact hv0))
       fun sz' sl' k x eo hp=>by cases eo;have hm:=hmem k x hp;refine⟨fun e=>hn1.1 (by rw[<-hbl,<-e];exact hm),fun j o hj hown hne hx=>ha1 j o hj hown x hx (av _ hm),fun k' hp'=>?_⟩;obtain⟨fp,h1,rfl⟩:=hpat k x hp;obtain⟨fp',h2,rfl⟩:=hpat k' x hp';exact Ft hn1.2 h2 h1) fun x hx=>?_
      rcases dZ.1 hx with rfl|⟨sz',sl',k',h1,h2⟩
      .rw [hbl];simp
      .rw [bV,if_pos rfl]at h1;cases h1;exact av _ (hmem k' x h2)
     .simp at h
    .simp at h
   .--it is wK
    rename_i heq1 heq2;simp only[dP,dh]at heq1 heq2;obtain⟨⟨rfl,rfl,rfl⟩,rfl⟩:=heq1;obtain⟨rfl,rfl⟩:=heq2;split at h
    .rename_i w2 k hrec;obtain⟨rfl,rfl⟩:bq.map (fun i=>((i,none):Nat×Option Ob))++w2=bu/\k=m:=by simpa using h
     have e0:f1=[]:=by
      rcases hr1 with h|h
      .exact h.2
      .cases h
     subst e0;obtain⟨φ',hB⟩:=ih vs outs f2 nxt w2 k hl hw2 hr2 hI hfr hren hn2 (fun b hb=>hSK b (.inr hb)) ha2 ho2 hon2 hrec;have hmk:=hB.le;have hkeys:=hB.G9
     have hwn:∀j∈bq,cn w2 j=none:=fun j hj=>by
      cases hx:cn w2 j with
      |none=>rfl
      |some x=>
       obtain⟨p,hp,rfl⟩:=tq hx;rcases hkeys p hp with h|h
       .exact absurd rfl (hon3 p.1 hj p.1 h)
       .exact absurd (hren.sub _ (ho1 _ hj).2) (hfr p.1 h.1 h.2)
     have heq:bn (bq.map (fun i=>((i,none):Nat×Option Ob))++w2) hf=bn w2 hf:=by
      rw[eP];funext j
      conv=>lhs;unfold bn
      rw[sn];by_cases hjo:j∈bq
      .rw [if_pos hjo];simp only[bn,hwn j hjo,(ho1 j hjo).1]
      .rw [if_neg hjo];rfl
     refine⟨φ',hB.le,hB.t6,heq▸hB.inv,fun p hp=>?_,fun i hi=>?_,fun i o hio hownio hi=>?_⟩
     .rw [hoc];rcases ap.1 hp with hp|hp
      .obtain ⟨j,hj,rfl⟩:=bv.1 hp;exact .inl (aA _ hj)
      .rcases hkeys p hp with h|h
       .exact .inl (aC _ h)
       .exact .inr h
     .rw [hoc]at hi;rw[ic,sn];by_cases hjo:i∈bq
      .rw [if_pos hjo];rfl
      .rw [if_neg hjo];exact hB.S8 i ((ap.1 hi).resolve_left hjo)
     .rw [heq]at hio|-;refine hB.cQ i o hio hownio (hi.imp (fun h=>?_) id);rw[hoc]at h;refine(ap.1 h).resolve_left fun hjo=>?_;simp only[bn,hwn i hjo,(ho1 i hjo).1]at hio;cases hio
    .simp at h
   .simp at h
end
section
variable{P:Program}{S K:Nat->Prop}{w0 w:World}{Kn:Nat->Prop}{φ:Nat->gW}{hf:Nat->Option Ob}{H:bD}{e:kA}{ρ:Operand->Value}{o:Oper}{call:Call}{a:Act}
 {nxt n':Nat} {v:TV} {u:fN} {aw:List Nat}
def PL(P:Program)(o:Oper)(a:Act)(S K:Nat->Prop)(w0 w:World)(Kn:Nat->Prop)(φ:Nat->gW)(hf:Nat->Option Ob)(nxt n':Nat)(v:TV)(u:fN):Prop:=∀(next:Act->World->Prop)(Q:Exit->Act->World->Prop),(∀val w',lV S K w0 w Kn φ hf nxt n' v u val w'->next (a.put o.dst val) w')->o.wp P a w next Q
theorem dL.lT(h:dL P o a.eval S K w0 w Kn φ hf nxt n' v u):PL P o a S K w0 w Kn φ hf nxt n' v u:=by
 intro next Q hn
 obtain⟨nx,val,w',hr,hx,hd⟩:=h;unfold Oper.wp;rw[hr];rcases hx with rfl|⟨rfl,rfl⟩
 .exact hn _ _ hd
 .exact hn _ _ hd
theorem GC{tvs:List TV}{vs:List Value}(hl:tvs.length=vs.length)(h:∀(i:Nat)(t:TV)(v:Value),tvs[i]?=some t->vs[i]?=some v->gw S w Kn φ t v):gw S w Kn φ (t5 tvs) (zN vs):=by
 have F3:gw S w Kn φ (.jA tvs) (.tuple vs.toArray):=by
  refine .jA (by simpa using hl) fun i x hi=>?_;have hlt:i<vs.length:=by rw[<-hl];exact(ao.1 hi).1
  have:=h i x vs[i] hi (aB hlt);simpa[hlt]using this
 match tvs,vs,hl,h,F3 with|[],[],_,_,F3=>exact F3|[t],[v],_,h,_=>exact h 0 t v rfl rfl|_::_::_,_::_::_,_,_,F3=>exact F3
theorem RD.IB{S':Nat->Prop}{w':World}{v x:Value}(h:RD S w (.lit v) x):RD S' w' (.lit v) x:=by cases h with|lit h=>exact .lit h|nan hn hm=>exact .nan hn hm|ex=>exact .ex
theorem FW.fL{S':Nat->Prop}:∀{rs:List R}{vs:List Value}{fp:List Nat},rs.all xG=true->FW S w rs vs fp->FW S' w rs vs []:=by
 intro rs;induction rs with
 |nil=>intro vs fp _ h;cases vs with|nil=>rfl|cons v vs=>exact h.elim
 |cons r rs ih=>
  intro vs fp hl h;cases vs with
  |nil=>exact h.elim
  |cons v vs=>
   simp only[gk,ai]at hl;obtain⟨f1,f2,_,h1,h2⟩:=h;refine⟨[],[],rfl,?_,ih hl.2 h2⟩;have hl1:=hl.1;cases r with
   |c t=>
    cases t with
    |d x=>
     cases x with
     |lit y=>have h1:RT S w (.d (.lit y)) v f1:=h1;cases h1 with|d hd=>exact RT.d hd.IB
     |_=>simp[xG]at hl1
    |_=>simp[xG]at hl1
   |agg ts=>
    obtain⟨aL,fps,rfl,q1,q2,q3,q4⟩:=h1;refine⟨aL,fps.map fun _=>[],rfl,q1,by simpa using q2,by simp,fun i t f hi hfi=>?_⟩;simp only[xG,aT]at hl1;have ht:=hl1 t (aR hi);obtain rfl:f=[]:=by rw[aK]at hfi;obtain⟨_,_,rfl⟩:=aG.1 hfi;rfl
    have hlt:i<fps.length:=by rw[q2];exact(ao.1 hi).1
    have:=q4 i t fps[i] hi (aB hlt);generalize fps[i]=g at this;cases t with
    |d x=>
     cases x with
     |lit y=>cases this with|d hd=>exact RT.d hd.IB
     |_=>simp at ht
    |_=>simp at ht
theorem Inv.after{S':Nat->Prop}{w':World}{fp:List Nat}(hI:Inv S K w0 Kn φ hf w)(hs:ia S w S' w')(hsub:∀b,S' b->S b\/b∈fp\/w.heap.size<=b)(hlt:∀b,S' b->b<w'.heap.size)
  (hfp:∀b∈fp,¬K b) (haw:uZ w φ hf fp) (hfrm:I5 (fun b=>b<w.heap.size/\b∉fp) w w'):Inv S' K w0 Kn φ hf w':=by
 refine hI.nW hs (uO.refl _ _) hlt (fun b hb hK=>?_) ⟨hI.oJ.G8,fun b hb=>?_,bt hI.oJ.grow hfrm.grow,fun a ha=>(hfrm.B5 a (dp ha hI.oJ.grow)).trans (hI.oJ.B5 a ha),fun b aL ho=>?_,hI.oJ.io.trans hfrm.io⟩ (fun id o ho=>.inl ⟨ho,fun hown=>?_⟩) hI.pL ?_
 .have h1:b<w.heap.size:=dp (hI.oJ.G8 b hK) hI.oJ.grow;rcases hsub b hb with h|h|h
  .exact hI.sk b h hK
  .exact hfp b h hK
  .omega
 .have h1:b<w.heap.size:=dp (hI.oJ.G8 b hb) hI.oJ.grow;exact(hfrm.nz b ⟨h1,fun h=>hfp b h hb⟩).trans (hI.oJ.nz b hb)
 .obtain ⟨a1,h1,h2⟩:=hI.oJ.bq b aL ho;obtain⟨a2,h3,h4⟩:=hfrm.bq b a1 h1;exact⟨a2,h3,h4.trans h2⟩
 .obtain ⟨h1,h2,h3⟩:=(hI.jy id o ho).2.bq hown;have h4:=haw id o ho hown _ (lQ id);refine⟨hfrm.nz _ ⟨h3,h4⟩,fun h=>?_⟩;rcases hsub _ h with h|h|h
  .exact h1 h
  .exact h4 h
  .omega
 .intro id sz sl ho;have h4:=haw id _ ho rfl
  have key:∀x∈iH w φ hf id,w'.heap[x]?=w.heap[x]?/\¬S' x:=fun x hx=>by
   obtain⟨h1,_,h3⟩:=pF hI ho rfl hx;refine⟨hfrm.nz _ ⟨h3,h4 x hx⟩,fun h=>?_⟩;rcases hsub _ h with h|h|h
   .exact h1 h
   .exact h4 x hx h
   .omega
  refine⟨ho,(key _ (lQ id)).1,fun k x hp=>?_⟩;obtain⟨q1,q2⟩:=key x (dZ.2 (.inr ⟨sz,sl,k,ho,hp⟩));exact⟨q1,q2,(hI.ye id sz sl k x ho hp).1⟩
theorem RT.fg{S0:Nat->Prop}{t:T}{v:Value}{fp:List Nat}(h:GL t=true)(hr:RT S w t v fp):RT S0 w t v fp:=by
 cases hr with
 |d hd=>cases hd with|lit hp=>exact .d (.lit hp)|nan hn hm=>exact .d (.nan hn hm)|ex=>exact .d .ex|_=>simp[GL]at h
 |sl h0 ho hl hc he hr=>refine .sl h0 ho hl hc he ⟨hr.1,fun i r hi j x hj=>?_⟩;obtain⟨v,h1,h2⟩:=hr.2 i r hi j x hj;simp only[GL]at h;have hx:=aT.1 (aT.1 h r (aR hi)) x (aR hj);refine⟨v,h1,?_⟩;cases h2 with|lit hp=>exact .lit hp|nan hn hm=>exact .nan hn hm|ex=>exact .ex|_=>simp at hx
 |_=>simp[GL]at h
theorem NH.fg{S0:Nat->Prop}:∀{ts:List T}{vs:List Value}{fp:List Nat},ts.all GL=true->NH S w ts vs fp->NH S0 w ts vs fp:=by
 intro ts;induction ts with
 |nil=>intro vs fp _ h;cases vs<;>exact h
 |cons t ts ih=>intro vs fp h hr;simp only[gk,ai]at h;cases vs with|nil=>exact hr|cons v vs=>obtain⟨f1,f2,e,h1,h2⟩:=hr;exact⟨f1,f2,e,h1.imp id (RT.fg h.1),ih h.2 h2⟩
theorem Left.fg{S0:Nat->Prop}{fp:List Nat}{rs:List R}{outs:List T}{lent:List Value}{v:Value}{w':World}(h:Left S w fp rs outs lent v w')(hS:∀b,S0 b->S b)(h1:rs.all xG=true)(h2:outs.all GL=true):Left S0 w fp rs outs lent v w':=by
 obtain⟨S',lX,fp1,fp2,rfl,hs,hsub,hlt,hrr,hrt,hnd,hb,hfrm⟩:=h;refine⟨S0,lX,[],fp2,rfl,⟨fun _ h=>h,fun b hb=>hs.same b (hS b hb)⟩,fun b h=>.inl h,fun b h=>hlt b (hs.sub b (hS b h)),hrr.fL h1,hrt.fg h2,?_,fun b hm=>?_,hfrm⟩
 .exact (cC.1 hnd).2.1
 .have:=hb b (aC _ hm);exact⟨fun h=>this.1 (hs.sub b (hS b h)),this.2⟩
theorem AK{as:List A}{aw:List Nat}{lent:List (C×List Nat×List Nat)}{vs:List Value}{rs:List R}{outs:List T}{val:Value}{w':World}{rd:List Nat}
  (hI:Inv S K w0 Kn φ (az H) w) (hfr:∀j,nxt<=j->j<n'->¬Kn j)
  (hown:∀i∈lent.flatMap (·.2.1),∃o,az H i=some o/\cL o=true) (hlent:HQ Kn φ S w lent (ol as vs))
  (hwhole:eT H lent=true) (hnd:(lent.flatMap (·.2.1)).Nodup)
  (hleft:Left (SB S w φ (az H) aw) w ((lent.flatMap (·.2.1)).flatMap (iH w φ (az H))) rs outs (ol as vs) val w')
  (h:(match dM H aw aw with
      |none=>none
      |some fu=>
       match dX nxt lent outs with
       |none=>none
       |some (bu,m)=>some (t5 (il m rs).1,(il m rs).2.1++bu++fu,aw++lent.flatMap (·.2.2),(il m rs).2.2))=some (v,u,rd,n')):
  lV S K w0 w Kn φ (az H) nxt n' v u val w':=by
 obtain⟨S',lX,fp1,fp2,rfl,hs,hsub,hlt,hrr,hrt,hnd2,hb,hfrm⟩:=hleft;split at h
 .simp at h
 .rename_i fu hfz;split at h
  .simp at h
  .rename_i bu m hbk;obtain⟨rfl,rfl,_,rfl⟩:t5 (il m rs).1=v/\(il m rs).2.1++bu++fu=u/\aw++lent.flatMap (·.2.2)=rd/\(il m rs).2.2=n':=by simpa using h
   have hI1:=hI.Hg hfz;have hmn:=HV rs m;have hnm:=Ca _ _ _ _ _ hbk
   -- what was lent is ez of the heap
   let kills:fN:=(kS lent).map fun i=>(i,none);have hkn:∀j,cn kills j=if j∈kS lent then some none else none:=sn (kS lent)
   have hf2:∀id o,bn kills (bn fu (az H)) id=some o->id∉kS lent/\bn fu (az H) id=some o:=by
    intro id o ho;have:bn kills (bn fu (az H)) id=(match cn kills id with|some o=>o|none=>bn fu (az H) id):=rfl;rw[this,hkn]at ho;by_cases hm:id∈kS lent
    .rw [if_pos hm]at ho;simp at ho
    .rw [if_neg hm]at ho;exact⟨hm,ho⟩
   have hIk:Inv (SB S w φ (az H) aw) K w0 Kn φ (bn kills (bn fu (az H))) w:=hI1.m8 fun id o ho=>(hf2 id o ho).2
   -- the frozen part agrees with the heap fz, where a thing is owned
   have hold:∀id o,bn fu (az H) id=some o->cL o=true->az H id=some o:=by
    intro id o ho hown;by_cases hm:id∈aw
    .obtain ⟨o',ho',hfn⟩:=(mw aw fu hfz id).1 hm;simp only[bn,hfn]at ho;obtain rfl:=aa ho;have:=(B6 hI hm ho').1;rw[this]at hown;simp at hown
    .simpa only[bn,(mw aw fu hfz id).2 hm]using ho
   have hbk2:∀j o,bn kills (bn fu (az H)) j=some o->cL o=true->az H j=some o/\iH w φ (bn kills (bn fu (az H))) j=iH w φ (az H) j:=fun j o hj hjo=>by have h3:=hold j o (hf2 j o hj).2 hjo;exact⟨h3,gO rfl (hj.trans h3.symm)⟩
   have haw:uZ w φ (bn kills (bn fu (az H))) ((lent.flatMap (·.2.1)).flatMap (iH w φ (az H))):=by intro j o hj hjo x hx hm;obtain⟨h1,h2⟩:=hf2 j o hj;obtain⟨i,hi,hie⟩:=cU.1 hm;obtain⟨oi,hoi,hoio⟩:=hown i hi;obtain⟨h3,h4⟩:=hbk2 j o hj hjo;rw[h4]at hx;exact o6 hI hoi h3 hoio hjo (fun e=>h1 (e▸hi)) hie hx
   have hfpK:∀b∈((lent.flatMap (·.2.1)).flatMap (iH w φ (az H))),¬K b/\b<w.heap.size:=by intro b hbm;obtain⟨i,hi,hie⟩:=cU.1 hbm;obtain⟨oi,hoi,hoio⟩:=hown i hi;exact(pF hI hoi hoio hie).2
   have hI2:Inv S' K w0 Kn φ (bn kills (bn fu (az H))) w':=hIk.after hs hsub hlt (fun b hb=>(hfpK b hb).1) haw hfrm
   have hK12:∀b∈fp1++fp2,¬S' b/\¬K b:=fun b hbm=>by
    obtain⟨h1,h2⟩:=hb b hbm;refine⟨h1,fun hk=>?_⟩;rcases h2 with h2|h2
    .exact (hfpK b h2).1 hk
    .have:=hI.oJ.G8 b hk;have:=hI.oJ.grow;omega
   have haw12:uZ w' φ (bn kills (bn fu (az H))) (fp1++fp2):=fun j o hj hjo x hx hm=>by
    rw[Cn (hfrm.nz _ ⟨((hIk.jy j o hj).2.bq hjo).2.2,haw j o hj hjo _ (lQ j)⟩)]at hx;rcases(hb _ hm).2 with h2|h2
    .exact haw j o hj hjo x hx h2
    .have:=(pF hIk hj hjo hx).2.2;omega
   rw[cC]at hnd2;obtain⟨hn1,hn2,hn3⟩:=hnd2;simp only[ap]at hK12
   obtain⟨φ1,hB⟩:=HL hI hfrm.bq lent (ol as vs) outs fp2 nxt bu m hlent hwhole hrt hI2 (fun j h1 h2=>hfr j h1 (by omega)) (uO.refl _ _) hn2 (fun b hb=>hK12 b (.inr hb))
    (fun j o hj hjo x hx hm=>haw12 j o hj hjo x hx (by simp[hm]))
    (fun i hi=>by obtain⟨oi,hoi,_⟩:=hown i hi;refine⟨?_,(hI.jy i oi hoi).1⟩;show(match cn kills i with|some o=>o|none=>bn fu (az H) i)=none;rw[hkn,if_pos hi]) hnd hbk
   have hkk:bn bu (bn kills (bn fu (az H)))=bn bu (bn fu (az H)):=by
    funext j;by_cases hm:j∈kS lent
    .obtain ⟨x,hx⟩:=gj.1 (hB.S8 j hm);simp only[bn,hx]
    .have h1:bn kills (bn fu (az H)) j=bn fu (az H) j:=by show(match cn kills j with|some o=>o|none=>bn fu (az H) j)=_;rw[hkn,if_neg hm]
     have h2:∀g:Nat->Option Ob,bn bu g j=(match cn bu j with|some o=>o|none=>g j):=fun _=>rfl;rw[h2,h2,h1]
   have hIB:=hB.inv;rw[hkk]at hIB
   have haw1:uZ w' φ1 (bn bu (bn fu (az H))) fp1:=by
    intro j o hj hjo x hx hm;by_cases hk:j∈kS lent\/(nxt<=j/\j<m)
    .have:=hB.cQ j o (by rw[hkk];exact hj) hjo hk x (by rw[hkk];exact hx);exact hn3 _ hm _ this rfl
    .have hfn:cn bu j=none:=mu fun p hp e=>by
      rcases hB.G9 p hp with h|h
      .exact hk (.inl (e▸h))
      .exact hk (.inr (e▸h))
     have hj2:bn kills (bn fu (az H)) j=some o:=by rw[<-hkk]at hj;simpa only[bn,hfn]using hj
     have hknj:=(hI2.jy j o hj2).1;rw[gO (hB.t6.same j hknj) (hj.trans hj2.symm)]at hx;exact haw12 j o hj2 hjo x hx (by simp[hm])
   obtain⟨φ2,hL,hlen,hr⟩:=F7 rs m lX fp1 hIB (fun j h1 h2 hk=>by
     rcases hk with hk|hk
     .exact hfr j (by omega) h2 hk
     .omega) hrr hn1 (fun b hb=>hK12 b (.inl hb)) haw1
   refine⟨by omega,S',φ2,(SB.vn aw).trans hs,⟨fun i h=>.inl h,fun i h=>(hL.t6.same i (.inl h)).trans (hB.t6.same i h)⟩,?_,?_⟩
   .exact (GC hlen hr).kn fun i=>(tj hnm hmn i).1
   .rw [eP,eP];exact hL.inv.yB fun i=>tj hnm hmn i
theorem KE{as:List A}{aw:List Nat}{lent:List (C×List Nat×List Nat)}{vs:List Value}{rs:List R}{outs:List T}{ro:Bool}{val:Value}{w':World}{rd:List Nat}
  (hI:Inv S K w0 Kn φ (az H) w) (hfr:∀j,nxt<=j->j<n'->¬Kn j)
  (hargs:NP (SB S w φ (az H) aw) w as vs ((lent.flatMap (·.2.1)).flatMap (iH w φ (az H)))) (hown:∀i∈lent.flatMap (·.2.1),∃o,az H i=some o/\cL o=true) (hlent:HQ Kn φ S w lent (ol as vs))
  (hwhole:eT H lent=true) (hnd:(lent.flatMap (·.2.1)).Nodup)
  (hleft:Left (SB S w φ (az H) aw) w ((lent.flatMap (·.2.1)).flatMap (iH w φ (az H))) rs outs (ol as vs) val w')
  (h:(if ro then
      if rs.all xG/\outs.all GL then
       match dX nxt lent outs with|none=>none|some (bu,m)=>some (t5 (il m rs).1,(il m rs).2.1++bu,aw++lent.flatMap (·.2.2),(il m rs).2.2)
      else none
     else
      match dM H aw aw with
      |none=>none
      |some fu=>
       match dX nxt lent outs with
       |none=>none
       |some (bu,m)=>some (t5 (il m rs).1,(il m rs).2.1++bu++fu,aw++lent.flatMap (·.2.2),(il m rs).2.2))=some (v,u,rd,n')):
  lV S K w0 w Kn φ (az H) nxt n' v u val w':=by
 split at h
 .--nothing that was looked at is Fe
  split at h
  .rename_i hcond;obtain⟨hl,hp⟩:=hcond;split at h
   .simp at h
   .rename_i bu m hbk;obtain⟨rfl,rfl,_,rfl⟩:t5 (il m rs).1=v/\(il m rs).2.1++bu=u/\aw++lent.flatMap (·.2.2)=rd/\(il m rs).2.2=n':=by simpa using h
    refine AK (aw:=[]) (rd:=lent.flatMap (·.2.2)) hI hfr hown hlent hwhole hnd (hleft.fg (fun b hb=>?_) hl hp) ?_
    .rcases hb with hb|⟨i,hi,_⟩
     .exact .inl hb
     .cases hi
    .simp only[dM,hbk,List.append_nil,List.nil_append]
  .simp at h
 .exact AK hI hfr hown hlent hwhole hnd hleft h
theorem Bw:∀n,(∀c x aw,ei H n c=some (x,aw)->∀i∈aw,∃o,az H i=some o)/\(∀cs xs aw,gu H n cs=some (xs,aw)->∀i∈aw,∃o,az H i=some o):=by
 have leaf:∀n c x aw,(match c with|.op _ _|.pS _ _=>False|_=>True)->ei H n c=some (x,aw)->∀i∈aw,∃o,az H i=some o:=by
  intro n c x aw hl h i hi;cases c with
  |d y=>simp only[ei,ce,dh]at h;obtain⟨_,rfl⟩:=h;simp at hi
  |fK sz id off len=>
   simp only[ei]at h;split at h
   all_goals first
    |(split at h
      .obtain ⟨_,rfl⟩:=af (aa h);obtain rfl:=aq.1 hi;exact⟨_,by assumption⟩
      .simp at h)
    |(split at h
      .split at h
       .obtain ⟨_,rfl⟩:=af (aa h);obtain rfl:=aq.1 hi;exact⟨_,by assumption⟩
       .simp at h
      .simp at h)
    |simp at h
  |ep id bw off=>
   simp only[ei]at h;split at h
   all_goals first
    |(split at h
      .split at h
       .obtain ⟨_,rfl⟩:=af (aa h);obtain rfl:=aq.1 hi;exact⟨_,by assumption⟩
       .simp at h
      .simp at h)
    |simp at h
  |op id off=>exact hl.elim
  |pS f caps=>exact hl.elim
  |om id=>cases n<;>simp[ei]at h
 intro n;induction n with
 |zero=>
  refine⟨fun c x aw h=>?_,fun cs xs aw h=>?_⟩
  .cases c with|op id off=>simp[ei]at h|pS f caps=>simp[ei]at h|_=>exact leaf 0 _ x aw trivial h
  .cases cs with
   |nil=>
    obtain⟨_,rfl⟩:[]=xs/\[]=aw:=by simpa[gu]using h
    intro i hi;simp at hi
   |cons c cs=>simp[gu]at h
 |succ n ih=>
  refine⟨fun c x aw h=>?_,fun cs xs aw h=>?_⟩
  .cases c with
   |op id off=>
    simp only[ei]at h;split at h
    .split at h
     .obtain ⟨_,rfl⟩:=af (aa h);intro i hi;obtain rfl:=aq.1 hi;exact⟨_,by assumption⟩
     .simp at h
    .split at h
     .rename_i hv;split at h
      .obtain ⟨_,rfl⟩:=af (aa h);intro i hi;rcases aJ.1 hi with rfl|hi
       .exact ⟨_,by assumption⟩
       .exact ih.2 _ _ _ hv i hi
      .simp at h
     .simp at h
    .simp at h
   |pS f caps=>
    simp only[ei]at h;split at h
    .rename_i hv;obtain⟨_,rfl⟩:=af (aa h);exact ih.2 _ _ _ hv
    .simp at h
   |_=>exact leaf _ _ x aw trivial h
  .cases cs with
   |nil=>
    obtain⟨_,rfl⟩:[]=xs/\[]=aw:=by simpa[gu]using h
    intro i hi;simp at hi
   |cons c cs=>
    simp only[gu]at h;split at h
    .rename_i h1 h2;obtain⟨_,rfl⟩:=af (aa h);intro i hi;rcases ap.1 hi with hi|hi
     .exact ih.1 _ _ _ h1 i hi
     .exact ih.2 _ _ _ h2 i hi
    .simp at h
theorem DM:∀cs xs aw,dU H cs=some (xs,aw)->∀i∈aw,∃o,az H i=some o:=by
 intro cs;induction cs with
 |nil=>
  intro xs aw h i hi;obtain⟨_,rfl⟩:[]=xs/\[]=aw:=by simpa[dU]using h
  simp at hi
 |cons c cs ih=>
  intro xs aw h i hi;simp only[dU]at h;split at h
  .rename_i h1 h2;obtain⟨_,rfl⟩:=af (aa h);rcases ap.1 hi with hi|hi
   .exact (Bw 300).1 _ _ _ h1 i hi
   .exact ih _ _ h2 i hi
  .simp at h
theorem Cp:∀(tvs:List TV)(ms:List Bool)(as:List A)(aw:List Nat)(lent:List (C×List Nat×List Nat)),gK H tvs ms=some (as,aw,lent)->∀i∈aw,∃o,az H i=some o:=by
 intro tvs;induction tvs with
 |nil=>
  intro ms as aw lent h i hi;obtain⟨_,rfl,_⟩:[]=as/\[]=aw/\[]=lent:=by simpa[gK]using h
  simp at hi
 |cons t tvs ih=>
  intro ms as aw lent h i hi;simp only[gK]at h;split at h
  .simp at h
  .rename_i hrec;split at h
   .split at h
    .split at h
     .obtain ⟨_,rfl,_⟩:=(by simpa using h:_/\_/\_)
      exact ih _ _ _ _ hrec i hi
     .simp at h
    .simp at h
   .split at h
    .split at h
     .rename_i hv;obtain⟨_,rfl,_⟩:=(by simpa using h:_/\_/\_)
      rcases ap.1 hi with hi|hi
      .exact (Bw 300).1 _ _ _ hv i hi
      .exact ih _ _ _ _ hrec i hi
     .simp at h
    .split at h
     .rename_i hv;obtain⟨_,rfl,_⟩:=(by simpa using h:_/\_/\_)
      rcases ap.1 hi with hi|hi
      .exact DM _ _ _ hv i hi
      .exact ih _ _ _ _ hrec i hi
     .simp at h
    .simp at h
theorem RO.RM{l:gW}{o:Ob}(h:RO S K w Kn φ l o)(hs:∀b,S b->b<w.heap.size):l.cQ<w.heap.size:=by cases h with|aL hsz hl hS hK hown=>exact hown.lt|box hb hS hK hown=>exact hown.lt|map hS hK hmp=>exact(Array.getElem?_eq_some_iff.1 hmp).1|cap hsz hl hS hK hown=>exact hown.lt|nst hsz hl hS hK hown=>exact hown.lt|qH hsz hl hS=>exact hs _ hS|py hb hS=>exact hs _ hS
theorem RO.VE{l:gW}{o:Ob}(h:RO S K w Kn φ l o)(hs:cL o=false):S l.cQ:=by cases h with|qH hsz hl hS=>exact hS|py hb hS=>exact hS|_=>simp[cL]at hs
theorem Il{c:Go.Call}{fop:Operand}{ro:Bool}{ld:List Bool}(ho:o.op=.call c)(hcal:c.callee=.value fop)(hok:oC P call)(hI:Inv S K w0 Kn φ (az H) w)
  (hfr:∀j,nxt<=j->j<n'->¬Kn j) (hρ:∀x tv,lN e x=some tv->gw S w Kn φ tv (a.eval x))
  (h:cI call (.call ro ld) ((fop::c.args.toList).map (lN e)) H nxt=some (v,u,aw,n')):PL P o a S K w0 w Kn φ (az H) nxt n' v u:=by
 rw[aD]at h;change vG call ro ld (lN e fop) (c.args.toList.map (lN e)) H nxt=_ at h;unfold vG at h;split at h
 .rename_i f caps vs hf hvs;split at h
  .simp at h
  .rename_i as ids1 lent hargs;split at h
   .rename_i hcond;obtain⟨hwhole,hnd,hapart⟩:=hcond;split at h
    .simp at h
    .rename_i rs outs hcall
     -- the callee
     have hfv:∃cvs:Array Value,a.eval fop=.func (.func f) #[] cvs/\caps.length=cvs.size/\∀(i:Nat)(x:C),caps[i]?=some x->RC S w Kn φ x (cvs.getD i undef):=by
      split at hf
      .rename_i g capsD hop;obtain⟨rfl,rfl⟩:g=f/\capsD.map C.d=caps:=by simpa using hf
       have hr:=hρ _ _ hop;generalize a.eval fop=fv at hr|-;cases hr with
       |c hr=>cases hr with
        |d hd=>cases hd with|@fn _ _ cvs hlen hrd=>refine⟨cvs,rfl,by simpa using hlen,fun i x hi=>?_⟩;rw[aK]at hi;obtain⟨y,hy,rfl⟩:=aG.1 hi;exact .d (hrd i y hy)
      .rename_i g caps' hop;obtain⟨rfl,rfl⟩:g=f/\caps'=caps:=by simpa using hf
       have hr:=hρ _ _ hop;generalize a.eval fop=fv at hr|-;cases hr with
       |c hr=>cases hr with|@pS _ _ cvs hlen hrc=>exact⟨cvs,rfl,hlen,hrc⟩
      .simp at hf
     obtain⟨cvs,hfe,hcl,hcr⟩:=hfv;obtain⟨hal,har⟩:=wS hρ hvs;let lX:List Value:=c.args.toList.map a.eval++cvs.toList
     obtain⟨p1,p2,p3⟩:=HM hI (vs++caps.map TV.c) ld as ids1 lent lX hargs (by simp[lX,hal,hcl]) (fun i t val hi hv=>by
      by_cases hlt:i<vs.length
      .rw [bC hlt]at hi;simp only[lX]at hv;rw[bC (by simp only[aF];omega),aK]at hv;obtain⟨x,hx,rfl⟩:=aG.1 hv;exact har i x t hx hi
      .rw [bF (by omega),aK]at hi;obtain⟨x,hx,rfl⟩:=aG.1 hi;simp only[lX]at hv;rw[bF (by simp only[aF];omega)]at hv;simp only[aF,<-hal]at hv;have:=hcr _ x hx;rw[Array.getElem?_toList]at hv;have e1:cvs.getD (i-vs.length) undef=val:=by simp[hv]
       rw[e1]at this;exact .c this)
     have hSlt:∀b,SB S w φ (az H) ids1 b->b<w.heap.size:=by
      rintro b (hb|⟨i,hi,hb⟩)
      .exact hI.vY b hb
      .obtain ⟨oi,hoi⟩:=Cp _ _ _ _ _ hargs i hi;rcases dZ.1 hb with rfl|⟨sz,sl,k,h1,h2⟩
       .exact (hI.jy i oi hoi).2.RM hI.vY
       .exact (hI.JB h1 h2).2.2.1
     have hnS:∀b∈((lent.flatMap (·.2.1)).flatMap (iH w φ (az H))),¬SB S w φ (az H) ids1 b:=by
      intro b hb hS;obtain⟨i,hi,hb⟩:=cU.1 hb;obtain⟨oi,hoi,hoio⟩:=p2 i hi;have hb1:=(pF hI hoi hoio hb).1;rcases hS with hS|⟨j,hj,hje⟩
      .exact hb1 hS
      .obtain ⟨oj,hoj⟩:=Cp _ _ _ _ _ hargs j hj;cases hjo:cL oj with
       |true=>refine o6 hI hoi hoj hoio hjo (fun e=>?_) hb hje;have:=aT.1 hapart i hi;rw[e]at this;simp[hj]at this
       |false=>
        rcases dZ.1 hje with rfl|⟨sz,sl,k,h1,_⟩
        .exact hb1 ((hI.jy j oj hoj).2.VE hjo)
        .rw [hoj]at h1;cases h1;cases hjo
     have hgood:=hok f as rs outs hcall (SB S w φ (az H) ids1) w lX _ hSlt p1 (Co hI hnd p2) hnS (hI.C9.mono (SB.vn _));intro next Q hn
     have hfin:∀val w',Left (SB S w φ (az H) ids1) w ((lent.flatMap (·.2.1)).flatMap (iH w φ (az H))) rs outs (ol as lX) val w'->next (a.put o.dst val) w':=by intro val w' hleft;refine hn val w' (KE hI hfr p1 p2 p3 hwhole hnd hleft (ro:=ro) (v:=v) (u:=u) (rd:=aw) ?_);exact h
     have hrun:∀r,(callFunc f lX.toArray).run P w=r->(execOp a.eval o).run P w=r:=by
      intro r hr;have e1:(#[]++c.args.map a.eval)++cvs=lX.toArray:=by apply Array.ext';simp[lX]
      simp only[execOp,ho,Sem.run_bind,resolve,hcal,hfe,Deferred.ofValue,Sem.run_pure,Result.andThen_ok,invoke,e1];exact hr
     rcases hgood with⟨g,as',hr,hc⟩|⟨val,hr,hleft⟩
     .unfold Oper.wp;rw[hrun _ hr,Oper.upon_enter];refine hc.mono fun en w' hR=>?_;obtain⟨val,rfl,hleft⟩:=hR;exact hfin val w' hleft
     .unfold Oper.wp;rw[hrun _ hr];exact hfin val w hleft
   .simp at h
 .simp at h
end
section
variable{P:Program}{S K:Nat->Prop}{w0 w:World}{Kn:Nat->Prop}{φ:Nat->gW}{H:bD}{e:kA}{o:Oper}{call:Call}{a:Act}{cE:Cq}{k:Ev.K}{args:List Operand}
 {nxt n':Nat} {v:TV} {u:fN} {aw:List Nat}
theorem fZ{vs:List (Option TV)}:cI call .gG vs H nxt=none:=by unfold cI;split<;>first|rfl|simp_all
theorem KF{op:BinOp}{t ty:TypeId}{x y:Operand}(ho:o.op=.binOp op t x y ty)(hk:IZ P op t x y=(k,args))(hI:Inv S K w0 Kn φ (az H) w)(hE:kA.ok S w Kn φ e a.tmps)
  (h:cI call k (args.map (lN e)) H nxt=some (v,u,aw,n')):dL P o a.eval S K w0 w Kn φ (az H) nxt n' v u:=by
 have hρ:∀x tv,lN e x=some tv->gw S w Kn φ tv (a.eval x):=fun x tv h=>uF hI.C9 hE h;have plainBin:(k,args)=(Ev.K.AL op,[x,y])->dL P o a.eval S K w0 w Kn φ (az H) nxt n' v u:=by intro hk;obtain⟨rfl,rfl⟩:=af hk;exact QP ho hI (fun z hz=>hρ x z hz) (fun z hz=>hρ y z hz) h
 have nilBin:∀kind,(op=.eql\/op=.neq)->LY P t kind->(k,args)=rm kind (op==.neq) x y->dL P o a.eval S K w0 w Kn φ (az H) nxt n' v u:=by
  intro kind hop hu hk;unfold rm at hk;split at hk
  .rename_i hy;obtain⟨rfl,rfl⟩:=af hk;exact EK ho hop hu hI (fun _=>rfl) (.inl ⟨rfl,hy⟩) (fun z hz=>hρ x z hz) h
  .split at hk
   .rename_i hx;obtain⟨rfl,rfl⟩:=af hk;exact EK ho hop hu hI (fun _=>rfl) (.inr ⟨rfl,hx⟩) (fun z hz=>hρ y z hz) h
   .obtain ⟨rfl,rfl⟩:=af hk;rw[fZ]at h;simp at h
 have eqs:(op=.eql\/op=.neq)->(match P.underlying t with
  |some .bool=>(Ev.K.vH (op==.neq),[x,y])
  |some (.int _)|some (.float _)|some .string=>(Ev.K.AL op,[x,y])
  |some (.slice _)=>rm 0 (op==.neq) x y
  |some (.pointer _)=>rm 1 (op==.neq) x y
  |some (.func _ _ _)=>rm 2 (op==.neq) x y
  |some (.struct _)|some (.array _ _)=>match A5 P 8 t with|some ks=>if P.eqGuardType P.depth t=false then(Ev.K.Ay (op==.neq) ks,[x,y])else(Ev.K.gG,[])|none=>(Ev.K.gG,[])
  |_=>(Ev.K.gG,[]))=(k,args)->dL P o a.eval S K w0 w Kn φ (az H) nxt n' v u:=by
  intro hop hk;split at hk
  .rename_i hu;obtain⟨rfl,rfl⟩:=af hk;exact JM ho hop hu hI (fun z hz=>hρ x z hz) (fun z hz=>hρ y z hz) h
  .exact plainBin hk.symm
  .exact plainBin hk.symm
  .exact plainBin hk.symm
  .rename_i hu;exact nilBin 0 hop ⟨_,hu⟩ hk.symm
  .rename_i hu;exact nilBin 1 hop ⟨_,hu⟩ hk.symm
  .rename_i hu;exact nilBin 2 hop ⟨_,_,_,hu⟩ hk.symm
  .rename_i hu;split at hk
   .rename_i hks;split at hk
    .rename_i hg;obtain⟨rfl,rfl⟩:=af hk;exact EL ho hop hks (by simp[YW,hu]) hg hI (fun z hz=>hρ x z hz) (fun z hz=>hρ y z hz) h
    .obtain ⟨rfl,rfl⟩:=af hk;rw[fZ]at h;simp at h
   .obtain ⟨rfl,rfl⟩:=af hk;rw[fZ]at h;simp at h
  .rename_i hu;split at hk
   .rename_i hks;split at hk
    .rename_i hg;obtain⟨rfl,rfl⟩:=af hk;exact EL ho hop hks (by simp[YW,hu]) hg hI (fun z hz=>hρ x z hz) (fun z hz=>hρ y z hz) h
    .obtain ⟨rfl,rfl⟩:=af hk;rw[fZ]at h;simp at h
   .obtain ⟨rfl,rfl⟩:=af hk;rw[fZ]at h;simp at h
  .obtain ⟨rfl,rfl⟩:=af hk;rw[fZ]at h;simp at h
 cases op with|eql=>exact eqs (.inl rfl) hk|neq=>exact eqs (.inr rfl) hk|_=>exact plainBin hk.symm
theorem rh{α:Type}{x:Array α}{y:α}(h:x.toList=[y]):x= #[y]:=by rw[<-Array.toArray_toList (xs:=x),h]
theorem qo{α:Type}{x:Array α}{y z:α}(h:x.toList=[y,z]):x= #[y,z]:=by rw[<-Array.toArray_toList (xs:=x),h]
theorem Za{b:Builtin}{c:Go.Call}(ho:o.op=.call c)(hcal:c.callee=.builtin b)(hk:um P b c.args.toList c.argTypes.toList=(k,args))(hI:Inv S K w0 Kn φ (az H) w)
  (hE:kA.ok S w Kn φ e a.tmps) (hn0:nxt<n'->¬Kn nxt) (h:cI call k (args.map (lN e)) H nxt=some (v,u,aw,n')):dL P o a.eval S K w0 w Kn φ (az H) nxt n' v u:=by
 have hρ:∀x tv,lN e x=some tv->gw S w Kn φ tv (a.eval x):=fun x tv h=>uF hI.C9 hE h
 have lenArgs:∀str,k=.len str->args=c.args.toList->∃x,c.args.toList=[x]:=by
  intro str hk ha;subst hk ha;generalize c.args.toList=l at h
  match l,h with|[x],_=>exact⟨x,rfl⟩|[],h=>simp[cI]at h|x::y::r,h=>simp[cI]at h
 unfold um at hk;split at hk
 .rename_i t hts;split at hk
  .rename_i hu;obtain⟨rfl,rfl⟩:=af hk;obtain⟨x,hx⟩:=lenArgs true rfl rfl;rw[hx]at h;exact LL (str:=true) ho hcal (rh hx) (rh hts) hu hI (fun z hz=>hρ x z hz) h
  .rename_i hu;obtain⟨rfl,rfl⟩:=af hk;obtain⟨x,hx⟩:=lenArgs false rfl rfl;rw[hx]at h;exact LL (str:=false) ho hcal (rh hx) (rh hts) ⟨_,hu⟩ hI (fun z hz=>hρ x z hz) h
  .obtain ⟨rfl,rfl⟩:=af hk;rw[fZ]at h;simp at h
 .obtain ⟨rfl,rfl⟩:=af hk;exact BT (m:=true) ho hcal hI hρ h
 .obtain ⟨rfl,rfl⟩:=af hk;exact BT (m:=false) ho hcal hI hρ h
 .rename_i s x hts;split at hk
  .rename_i el el2 hus hux;split at hk
   .rename_i n z hsz hz;split at hk
    .rename_i hb;obtain⟨rfl,rfl⟩:=af hk
     have:∃p q,c.args.toList=[p,q]:=by
      generalize c.args.toList=l at h
      match l,h with|[p,q],_=>exact⟨p,q,rfl⟩|[],h=>simp[cI]at h|[p],h=>simp[cI]at h|p::q::r::t,h=>simp[cI]at h
     obtain⟨p,q,hpq⟩:=this;rw[hpq]at h;exact JN ho hcal (qo hpq) (qo hts) hus hux hsz hz hb.2 hb.1 hI hn0 (fun z hz=>hρ p z hz) (fun z hz=>hρ q z hz) h
    .obtain ⟨rfl,rfl⟩:=af hk;rw[fZ]at h;simp at h
   .obtain ⟨rfl,rfl⟩:=af hk;rw[fZ]at h;simp at h
  .rename_i el kd hus hux;split at hk
   .rename_i n z hsz hz;split at hk
    .rename_i hb;obtain⟨rfl,rfl⟩:=af hk
     have:∃p q,c.args.toList=[p,q]:=by
      generalize c.args.toList=l at h
      match l,h with|[p,q],_=>exact⟨p,q,rfl⟩|[],h=>simp[cI]at h|[p],h=>simp[cI]at h|p::q::r::t,h=>simp[cI]at h
     obtain⟨p,q,hpq⟩:=this;rw[hpq]at h;exact QQ ho hcal (qo hpq) (qo hts) hus hux hsz hz hb.2 hb.1 hI hn0 (fun z hz=>hρ p z hz) (fun z hz=>hρ q z hz) h
    .obtain ⟨rfl,rfl⟩:=af hk;rw[fZ]at h;simp at h
   .obtain ⟨rfl,rfl⟩:=af hk;rw[fZ]at h;simp at h
  .obtain ⟨rfl,rfl⟩:=af hk;rw[fZ]at h;simp at h
 .rename_i t hts;split at hk
  .rename_i el hu;obtain⟨rfl,rfl⟩:=af hk
   have:∃p,c.args.toList=[p]:=by
    generalize c.args.toList=l at h
    match l,h with|[p],_=>exact⟨p,rfl⟩|[],h=>simp[cI]at h|p::q::r,h=>simp[cI]at h
   obtain⟨p,hp⟩:=this;rw[hp]at h;exact QN ho hcal (rh hp) (rh hts) hu hI (fun z hz=>hρ p z hz) h
  .obtain ⟨rfl,rfl⟩:=af hk;rw[fZ]at h;simp at h
 .rename_i d x hts;split at hk
  .rename_i el hud;split at hk
   .rename_i n hsz;obtain⟨rfl,rfl⟩:=af hk
    have:∃p q,c.args.toList=[p,q]:=by
     generalize c.args.toList=l at h
     match l,h with|[p,q],_=>exact⟨p,q,rfl⟩|[],h=>simp[cI]at h|[p],h=>simp[cI]at h|p::q::r::t,h=>simp[cI]at h
    obtain⟨p,q,hpq⟩:=this;rw[hpq]at h;exact OH ho hcal (qo hpq) (qo hts) hud hsz hI (fun z hz=>hρ p z hz) (fun z hz=>hρ q z hz) h
   .obtain ⟨rfl,rfl⟩:=af hk;rw[fZ]at h;simp at h
  .obtain ⟨rfl,rfl⟩:=af hk;rw[fZ]at h;simp at h
 .rename_i d hts;split at hk
  .rename_i el hud;split at hk
   .rename_i n z hsz hz;split at hk
    .rename_i hzl;obtain⟨rfl,rfl⟩:=af hk
     have:∃p,c.args.toList=[p]:=by
      generalize c.args.toList=l at h
      match l,h with|[p],_=>exact⟨p,rfl⟩|[],h=>simp[cI]at h|p::q::r,h=>simp[cI]at h
     obtain⟨p,hp⟩:=this;rw[hp]at h;exact LQ ho hcal (rh hp) (rh hts) hud hsz hz hzl hI (fun z hz=>hρ p z hz) h
    .obtain ⟨rfl,rfl⟩:=af hk;rw[fZ]at h;simp at h
   .obtain ⟨rfl,rfl⟩:=af hk;rw[fZ]at h;simp at h
  .obtain ⟨rfl,rfl⟩:=af hk;rw[fZ]at h;simp at h
 .obtain ⟨rfl,rfl⟩:=af hk;rw[fZ]at h;simp at h
theorem EF(hok:oC P call)(hk:yq P cE o.op=(k,args))(hI:Inv S K w0 Kn φ (az H) w)(hE:kA.ok S w Kn φ e a.tmps)(hfr:∀j,nxt<=j->j<n'->¬Kn j)
  (h:cI call k (args.map (lN e)) H nxt=some (v,u,aw,n')):PL P o a S K w0 w Kn φ (az H) nxt n' v u:=by
 have hρ:∀x tv,lN e x=some tv->gw S w Kn φ tv (a.eval x):=fun x tv h=>uF hI.C9 hE h;have hn0:nxt<n'->¬Kn nxt:=fun h=>hfr nxt (am _) h;have gG:(k,args)=(Ev.K.gG,[])->PL P o a S K w0 w Kn φ (az H) nxt n' v u:=by intro hk;obtain⟨rfl,rfl⟩:=af hk;rw[fZ]at h;simp at h
 generalize hop:o.op=op at hk;unfold yq at hk;split at hk
 .obtain ⟨rfl,rfl⟩:=af hk;exact(PU (.inl hop) hI (fun z hz=>hρ _ z hz) h).lT
 .obtain ⟨rfl,rfl⟩:=af hk;exact(PU (.inr hop) hI (fun z hz=>hρ _ z hz) h).lT
 .obtain ⟨rfl,rfl⟩:=af hk;exact(OF hop hI (fun z hz=>hρ _ z hz) (fun z hz=>hρ _ z hz) (fun z hz=>hρ _ z hz) h).lT
 .--alloc
  split at hk
  .rename_i hz;obtain⟨rfl,rfl⟩:=af hk;exact(LR hop hz hI hn0 h).lT
  .exact gG hk.symm
 .obtain ⟨rfl,rfl⟩:=af hk;exact(QO hop hI hn0 (fun z hz=>hρ _ z hz) h).lT
 .--build
  split at hk
  .rename_i hu hz;split at hk
   .rename_i hpl;split at hk
    .rename_i hall;obtain⟨rfl,rfl⟩:=af hk;exact(EN hop hz (.inl ⟨_,hu,hpl,hall⟩) hI hρ h).lT
    .exact gG hk.symm
   .exact gG hk.symm
  .rename_i hu hz;split at hk
   .rename_i hs;obtain⟨rfl,rfl⟩:=af hk;exact(EN hop hz (.inr ⟨_,_,_,hu,hs,rfl⟩) hI hρ h).lT
   .exact gG hk.symm
  .exact gG hk.symm
 .--buildSlice
  split at hk
  .rename_i hu;split at hk
   .rename_i hs hz;split at hk
    .rename_i hl;obtain⟨rfl,rfl⟩:=af hk;exact(Bh hop hu hs hz hl hI hn0 hρ h).lT
    .exact gG hk.symm
   .exact gG hk.symm
  .exact gG hk.symm
 .--load
  split at hk
  .rename_i ha hs;obtain⟨rfl,rfl⟩:=af hk;split at h
   .rename_i hc;obtain⟨_,_,rfl,rfl⟩:=hc;exact(LK hop ha hs hI hn0 (fun z hz=>hρ _ z hz) h).lT
   .exact (Ik hop ha hs hI (fun z hz=>hρ _ z hz) h).lT
  .exact gG hk.symm
 .--store
  split at hk
  .rename_i hs;obtain⟨rfl,rfl⟩:=af hk;exact(LI hop hs hI (fun z hz=>hρ _ z hz) (fun z hz=>hρ _ z hz) h).lT
  .exact gG hk.symm
 .obtain ⟨rfl,rfl⟩:=af hk;exact(EH hop hI (fun z hz=>hρ _ z hz) h).lT
 .exact (KF hop hk hI hE h).lT
 .obtain ⟨rfl,rfl⟩:=af hk;exact(Sy hop hI (fun z hz=>hρ _ z hz) h).lT
 .--convert
  split at hk
  .rename_i hs hd;obtain⟨rfl,rfl⟩:=af hk;exact(GX hop hs hd hI (fun z hz=>hρ _ z hz) h).lT
  .rename_i hs hd;obtain⟨rfl,rfl⟩:=af hk;exact(LP hop hs hd hI (fun z hz=>hρ _ z hz) h).lT
  .rename_i hs hd;obtain⟨rfl,rfl⟩:=af hk;exact(EM hop hs hd hI (fun z hz=>hρ _ z hz) h).lT
  .exact gG hk.symm
 .--makeFunc
  split at hk
  .rename_i hf;obtain⟨rfl,rfl⟩:=af hk;exact(OG hop hf hI hρ h).lT
  .exact gG hk.symm
 .--makeSlice
  split at hk
  .rename_i hu;split at hk
   .rename_i hs hz;split at hk
    .rename_i hl;obtain⟨rfl,rfl⟩:=af hk;split at h
     .rename_i m hm;unfold PW at hm;split at hm
      .rename_i hc;split at hm
       .split at hm
        .obtain rfl:=aa hm;exact(LJ hop hu hs hz hl.1 hl.2 hc.2 (Nat.succ_pos _) hI hn0 (fun z hz=>hρ _ z hz) (fun z hz=>hρ _ z hz) h).lT
        .cases hm
       .cases hm
      .cases hm
     .exact (wn hop hu hs hz hl.1 hl.2 hI hn0 (fun z hz=>hρ _ z hz) (fun z hz=>hρ _ z hz) h).lT
    .exact gG hk.symm
   .exact gG hk.symm
  .exact gG hk.symm
 .--slice
  split at hk
  .rename_i hu;obtain⟨rfl,rfl⟩:=af hk;exact(EG (str:=true) hop hu hI hρ h).lT
  .rename_i hu;split at hk
   .rename_i hs;obtain⟨rfl,rfl⟩:=af hk;exact(EG (str:=false) hop ⟨_,hu,hs⟩ hI hρ h).lT
   .exact gG hk.symm
  .exact gG hk.symm
 .--CE
  split at hk
  .rename_i hu;split at hk
   .rename_i hs;obtain⟨rfl,rfl⟩:=af hk;exact(JK hop hu hs hI hn0 hρ h).lT
   .exact gG hk.symm
  .exact gG hk.symm
 .--fieldAddr
  split at hk
  .rename_i hu;split at hk
   .rename_i hf;split at hk
    .rename_i hs;obtain⟨rfl,rfl⟩:=af hk;exact(CU hop hu hf hs hI (fun z hz=>hρ _ z hz) h).lT
    .exact gG hk.symm
   .exact gG hk.symm
  .exact gG hk.symm
 .--field
  split at hk
  .rename_i hu;split at hk
   .rename_i hf;split at hk
    .rename_i ha hs;obtain⟨rfl,rfl⟩:=af hk;exact(LN hop hu hf ha hs hI (fun z hz=>hρ _ z hz) h).lT
    .exact gG hk.symm
   .exact gG hk.symm
  .exact gG hk.symm
 .--indexAddr
  split at hk
  .rename_i hu;split at hk
   .rename_i hs;obtain⟨rfl,rfl⟩:=af hk;exact(wu (aL:=none) hop ⟨_,hu,hs⟩ hI (fun z hz=>hρ _ z hz) (fun z hz=>hρ _ z hz) h).lT
   .exact gG hk.symm
  .rename_i hu;split at hk
   .rename_i hs;obtain⟨rfl,rfl⟩:=af hk;exact(wu (aL:=some _) hop ⟨_,hu,hs⟩ hI (fun z hz=>hρ _ z hz) (fun z hz=>hρ _ z hz) h).lT
   .exact gG hk.symm
  .exact gG hk.symm
 .--index
  split at hk
  .rename_i hu;obtain⟨rfl,rfl⟩:=af hk;exact(EJ hop hu hI (fun z hz=>hρ _ z hz) (fun z hz=>hρ _ z hz) h).lT
  .rename_i hu;split at hk
   .rename_i ha hs;obtain⟨rfl,rfl⟩:=af hk;exact(LM hop hu ha hs hI (fun z hz=>hρ _ z hz) (fun z hz=>hρ _ z hz) h).lT
   .exact gG hk.symm
  .exact gG hk.symm
 .obtain ⟨rfl,rfl⟩:=af hk;exact(GW hop hI (fun z hz=>hρ _ z hz) h).lT
 .--makeMap
  split at hk
  .split at hk
   .obtain ⟨rfl,rfl⟩:=af hk;exact(GU hop hI hn0 h).lT
   .exact gG hk.symm
  .exact gG hk.symm
 .--lookup
  split at hk
  .rename_i hu;split at hk
   .rename_i hm;obtain⟨rfl,rfl⟩:=af hk;exact(JL hop hu hm hI (fun z hz=>hρ _ z hz) (fun z hz=>hρ _ z hz) h).lT
   .exact gG hk.symm
  .exact gG hk.symm
 .--mapEntry
  split at hk
  .rename_i hu;split at hk
   .rename_i hm;obtain⟨rfl,rfl⟩:=af hk;exact(EI hop hu hm hI (fun z hz=>hρ _ z hz) (fun z hz=>hρ _ z hz) h).lT
   .exact gG hk.symm
  .exact gG hk.symm
 .--entryStore
  split at hk
  .split at hk
   .obtain ⟨rfl,rfl⟩:=af hk;exact(Bg hop hI (fun z hz=>hρ _ z hz) (fun z hz=>hρ _ z hz) (fun z hz=>hρ _ z hz) h).lT
   .exact gG hk.symm
  .exact gG hk.symm
 .--call
  rename_i c;split at hk
  .rename_i hcal;exact(Za hop hcal hk hI hE hn0 h).lT
  .rename_i f hcal;split at hk
   .split at hk
    .rename_i hf;obtain⟨rfl,rfl⟩:=af hk
     have:∃p q,c.args.toList=[p,q]:=by
      generalize c.args.toList=l at h
      match l,h with|[p,q],_=>exact⟨p,q,rfl⟩|[],h=>simp[cI]at h|[p],h=>simp[cI]at h|p::q::r::t,h=>simp[cI]at h
     obtain⟨p,q,hpq⟩:=this;rw[hpq]at h;exact(QL hop hcal (qo hpq) hf rfl hI (fun z hz=>hρ p z hz) (fun z hz=>hρ q z hz) h).lT
    .exact gG hk.symm
   .obtain ⟨rfl,rfl⟩:=af hk;exact Il hop hcal hok hI hfr hρ h
  .rename_i hcal;obtain⟨rfl,rfl⟩:=af hk;exact Il hop hcal hok hI hfr hρ h
  .exact gG hk.symm
 .exact gG hk.symm
end
def gL(P:Program)(cE:Cq)(nt:Nat)(all:Array Oper)(o:Oper):pk:=
 {dst:=o.dst
  k:=if(match o.dst with|some d=>decide (d<nt)|none=>true)then(yq P cE o.op).1 else .gG
  args:=(yq P cE o.op).2
  guard:=match o.guard with|none=>none|some (j,b)=>some (((all[j]?).bind (·.dst)).getD 1000000000,b)}
def tJ:C:=.pS 0 []
def RG(S:Nat->Prop)(w:World)(Kn:Nat->Prop)(φ:Nat->gW)(c:C)(v:Value):Prop:=c=tJ\/RC S w Kn φ c v
theorem RG.mono{S S':Nat->Prop}{w w':World}{Kn Kn':Nat->Prop}{φ φ':Nat->gW}(hs:ia S w S' w')(hr:uO Kn φ Kn' φ'){x:C}{v:Value}(h:RG S w Kn φ x v):RG S' w' Kn' φ' x v:=h.imp id fun h=>h.mono hs hr
structure HP(S K:Nat->Prop)(w0:World)(Kn:Nat->Prop)(φ:Nat->gW)(gv:List Value)(nt:Nat)(s:St)(a:Act)(w:World):Prop where
 inv:Inv S K w0 Kn φ (az s.heap) w
 dF:kA.ok S w Kn φ s.dF a.tmps
 size:a.tmps.size=nt
 defers:a.defers=[]
 gV:∀j,s.next<=j->¬Kn j
 gh:∀(i:Nat)(c:C)(v:Value),s.gh[i]?=some c->gv[i]?=some v->RG S w Kn φ c v
section
variable{P:Program}{S K:Nat->Prop}{w0 w:World}{Kn:Nat->Prop}{φ:Nat->gW}{gv:List Value}{nt:Nat}{a:Act}{call:Call}{cE:Cq}{s s':St}
theorem Ox{a:Act}{d:Nat}{v:Value}(h:d<a.tmps.size)(t:Nat):(a.put (some d) v).tmps.getD t undef=if t=d then v else a.tmps.getD t undef:=by
 simp only[Act.put,br,lH];by_cases e:d=t
 .subst e;simp[h]
 .have e2:¬t=d:=fun h=>e h.symm;simp[e,e2]
theorem wg{a:Act}(d:Option Nat)(v:Value):(a.put d v).tmps.size=a.tmps.size:=by cases d<;>simp[Act.put]
theorem sZ{a:Act}(d:Option Nat)(v:Value):(a.put d v).defers=a.defers:=by cases d<;>simp[Act.put]
theorem mE(e:kA)(d:Option Nat)(v:TV)(t:Nat):cn (put e d v) t=if d=some t then some v else cn e t:=by
 cases d with
 |none=>simp[put]
 |some d=>
  simp only[put,cn];by_cases h:d=t
  .simp [h]
  .have h':(d==t)=false:=by simpa using h
   simp[h,h']
theorem Ak(e:kA)(d:Option Nat)(t:Nat):cn (drop e d) t=if d=some t then some (.jA [])else cn e t:=mE e d (.jA []) t
theorem kA.LA{e:kA}{S':Nat->Prop}{w':World}{Kn':Nat->Prop}{φ':Nat->gW}(hE:kA.ok S w Kn φ e a.tmps)(hs:ia S w S' w')(hr:uO Kn φ Kn' φ'){d:Option Nat}{v:TV}{val:Value}
  (hd:∀x,d=some x->x<a.tmps.size) (hv:gw S' w' Kn' φ' v val):kA.ok S' w' Kn' φ' (Ev.put e d v) (a.put d val).tmps:=by
 intro t x hx;rw[mE]at hx;cases d with
 |none=>simp only[reduceCtorEq,if_false]at hx;exact(hE t x hx).mono hs hr
 |some d=>
  rw[Ox (hd d rfl)];by_cases h:t=d
  .subst h;simp only[if_true]at hx;rw[if_pos rfl,<-aa hx];exact hv
  .have h2:¬(some d=some t):=fun e=>h (aa e).symm;rw[if_neg h2]at hx;rw[if_neg h];exact(hE t x hx).mono hs hr
theorem kA.IV{e:kA}(hE:kA.ok S w Kn φ e a.tmps){d:Option Nat}:kA.ok S w Kn φ (Ev.drop e d) (a.put d undef).tmps:=by
 intro t x hx;rw[Ak]at hx;have hu:gw S w Kn φ (.jA []) undef:=.jA rfl fun i x hi=>by simp at hi
 split at hx
 .rename_i h;subst h;obtain rfl:=aa hx;have:(a.put (some t) undef).tmps.getD t undef=undef:=by simp only[Act.put,br,lH,if_true];split<;>rfl
  rw[this];exact hu
 .rename_i h;have:=hE t x hx;cases d with|none=>exact this|some d=>have h2:¬d=t:=fun e=>h (by rw[e]);simp only[Act.put,br,lH,if_neg h2];rw[br]at this;exact this
theorem qW{e:kA}(hE:kA.ok S w Kn φ e a.tmps)(hsz:a.tmps.size<1000000000){all:Array Oper}{o:Oper}{b:Bool}(h:lx e (gL P cE nt all o).guard=some b):
  Region.wanted o (yielded all a.tmps)=b:=by
 unfold gL at h;simp only at h;unfold Region.wanted;cases hg:o.guard with
 |none=>rw[hg]at h;simpa[lx]using h
 |some p=>
  obtain⟨j,want⟩:=p;rw[hg]at h;simp only[lx]at h;split at h
  .rename_i x hx;have hr:=hE _ _ hx;obtain⟨hv,_⟩:=hr.lit;cases hd:(all[j]?).bind (·.dst)with
   |none=>rw[hd]at hv;simp only[Option.getD_none]at hv;rw[br,Array.getElem?_eq_none (by omega)]at hv;simp[undef]at hv
   |some t=>
    rw[hd]at hv;simp only[fV]at hv
    have ht:a.tmps[t]?=some (.bool x):=by
     rw[br]at hv;cases ht:a.tmps[t]?with
     |none=>rw[ht]at hv;simp[undef]at hv
     |some y=>rw[ht]at hv;simpa using hv
    obtain rfl:=aa h;simp only[yielded,hd,ae,ht];cases x<;>cases want<;>rfl
  .rename_i hx;have hr:=hE _ _ hx;obtain rfl:=aa h;cases hd:(all[j]?).bind (·.dst)with
   |none=>simp only[yielded,hd,Option.bind_none];rfl
   |some t=>
    rw[hd]at hr;simp only[fV]at hr;generalize hv:a.tmps.getD t undef=v at hr;cases hr with
    |@jA _ aL hlen _=>
     rw[br]at hv;simp only[yielded,hd,ae];cases ht:a.tmps[t]?with
     |none=>rfl
     |some y=>rw[ht]at hv;simp only[fV]at hv;subst hv;rfl
  .simp at h
end
section
variable{H H':bD}
def iN(H H':bD)(aw:List Nat):Prop:=∀i∈aw,az H' i=az H i
theorem iN.left{a b:List Nat}(h:iN H H' (a++b)):iN H H' a:=fun i hi=>h i (aA _ hi)
theorem iN.right{a b:List Nat}(h:iN H H' (a++b)):iN H H' b:=fun i hi=>h i (aC _ hi)
theorem vi:∀n,(∀c x aw,ei H n c=some (x,aw)->iN H H' aw->ei H' n c=some (x,aw))/\
  (∀cs xs aw,gu H n cs=some (xs,aw)->iN H H' aw->gu H' n cs=some (xs,aw)):=by
 have leaf:∀n c x aw,(match c with|.op _ _|.pS _ _=>False|_=>True)->ei H n c=some (x,aw)->iN H H' aw->ei H' n c=some (x,aw):=by
  intro n c x aw hl h ha;cases c with
  |d y=>simpa only[ei]using h
  |fK sz id off len=>
   have:az H' id=az H id:=ha id (by
    simp only[ei]at h;split at h
    all_goals first
     |(split at h
       .obtain ⟨_,rfl⟩:=af (aa h);simp
       .simp at h)
     |(split at h
       .split at h
        .obtain ⟨_,rfl⟩:=af (aa h);simp
        .simp at h
       .simp at h)
     |simp at h)
   simp only[ei]at h|-;rw[this];exact h
  |ep id bw off=>
   have:az H' id=az H id:=ha id (by
    simp only[ei]at h;split at h
    all_goals first
     |(split at h
       .split at h
        .obtain ⟨_,rfl⟩:=af (aa h);simp
        .simp at h
       .simp at h)
     |simp at h)
   simp only[ei]at h|-;rw[this];exact h
  |op id off=>exact hl.elim
  |pS f caps=>exact hl.elim
  |om id=>cases n<;>simp[ei]at h
 intro n;induction n with
 |zero=>
  refine⟨fun c x aw h ha=>?_,fun cs xs aw h ha=>?_⟩
  .cases c with|op id off=>simp[ei]at h|pS f caps=>simp[ei]at h|_=>exact leaf 0 _ x aw trivial h ha
  .cases cs with|nil=>simpa only[gu]using h|cons c cs=>simp[gu]at h
 |succ n ih=>
  refine⟨fun c x aw h ha=>?_,fun cs xs aw h ha=>?_⟩
  .cases c with
   |op id off=>
    simp only[ei]at h|-;split at h
    .rename_i ho;split at h
     .rename_i hle;obtain⟨rfl,rfl⟩:=af (aa h);rw[ha id (by simp),ho];simp only[hle,if_true]
     .simp at h
    .rename_i ho;split at h
     .rename_i hv;split at h
      .rename_i hle;obtain⟨rfl,rfl⟩:=af (aa h);rw[ha id (by simp),ho];simp only[ih.2 _ _ _ hv (fun i hi=>ha i (by simp[hi])),hle,if_true]
      .simp at h
     .simp at h
    .simp at h
   |pS f caps=>
    simp only[ei]at h|-;split at h
    .rename_i hv;obtain⟨rfl,rfl⟩:=af (aa h);simp only[ih.2 _ _ _ hv ha]
    .simp at h
   |_=>exact leaf _ _ x aw trivial h ha
  .cases cs with
   |nil=>simpa only[gu]using h
   |cons c cs=>
    simp only[gu]at h|-;split at h
    .rename_i h1 h2;obtain⟨rfl,rfl⟩:=af (aa h);simp only[ih.1 _ _ _ h1 ha.left,ih.2 _ _ _ h2 ha.right]
    .simp at h
theorem sL:∀cs xs aw,dU H cs=some (xs,aw)->iN H H' aw->dU H' cs=some (xs,aw):=by
 intro cs;induction cs with
 |nil=>intro xs aw h _;simpa only[dU]using h
 |cons c cs ih=>
  intro xs aw h ha;simp only[dU]at h|-;split at h
  .rename_i h1 h2;obtain⟨rfl,rfl⟩:=af (aa h);simp only[(vi 300).1 _ _ _ h1 ha.left,ih _ _ h2 ha.right]
  .simp at h
theorem tn{all:List Nat}(ha:iN H H' all):∀(l:List Nat)(u:fN),(∀i∈l,i∈all)->dM H all l=some u->dM H' all l=some u:=by
 intro l;induction l with
 |nil=>intro u _ h;simpa only[dM]using h
 |cons a l ih=>
  intro u hl h;simp only[dM]at h|-;split at h
  .rename_i o u' ho hu
   have hob:kT H' all a=some o:=by
    unfold kT at ho|-;rw[ha a (hl a (by simp))];split at ho
    .exact ho
    .exact ho
    .exact ho
    .split at ho
     .rename_i hv;split at ho
      .rename_i hall;simp only[(vi 300).2 _ _ _ hv (fun i hi=>ha i (by simpa using aT.1 hall i hi)),hall,if_true];exact ho
      .simp at ho
     .simp at ho
    .simp at ho
    .simp at ho
    .exact ho
    .simp at ho
   simp only[hob,ih u' (fun i hi=>hl i (by simp[hi])) hu];exact h
  .simp at h
theorem Aa{agg:Bool}{n:Nat}{p:C}{v:TV}{aw:List Nat}(h:iC agg n p H=some (v,aw))(ha:iN H H' aw):iC agg n p H'=some (v,aw):=by
 unfold iC at h|-;split at h
 .exact h
 .rename_i id bw off
  have:az H' id=az H id:=ha id (by
   split at h
   all_goals first
    |(split at h
      .split at h
       .obtain ⟨_,rfl⟩:=af (aa h);simp
       .simp at h
      .simp at h)
    |simp at h)
  simp only[this];exact h
 .rename_i id off
  have:az H' id=az H id:=ha id (by
   split at h
   all_goals first
    |(split at h
      .obtain ⟨_,rfl⟩:=af (aa h);simp
      .simp at h)
    |simp at h)
  simp only[this];exact h
 .simp at h
theorem GG{id bw sz:Nat}{slots:List lU}{cs:List C}{u:fN}{aw:List Nat}(h:tw id bw sz slots cs H=some (u,aw))(ha:iN H H' aw):tw id bw sz slots cs H'=some (u,aw):=by
 unfold tw at h|-;split at h
 .exact h
 .rename_i sz' id2 len
  have hid:id2∈aw:=by
   repeat' split at h
   all_goals first
    |(simp at h;done)
    |(obtain⟨_,h2⟩:=af (aa h);rw[<-h2];simp)
  simp only[ha id2 hid];exact h
 .simp at h
theorem E4{agg:Bool}{n nxt n':Nat}{p:C}{v:TV}{u:fN}{aw:List Nat}(h:mF agg n p H nxt=some (v,u,aw,n'))(ha:iN H H' aw):iC agg n p H'=none/\mF agg n p H' nxt=some (v,u,aw,n'):=by
 unfold mF at h;split at h
 case h_2=>simp at h
 rename_i id bw;split at h
 case h_2=>simp at h
 rename_i sz slots ho
 have hid:id∈aw:=by
  repeat' split at h
  all_goals first
   |(simp at h;done)
   |(obtain⟨_,_,h2,_⟩:=(by simpa using h:_/\_/\[id]=aw/\_);rw[<-h2];simp)
 have ho':az H' id=some (.nst sz slots):=by rw[ha id hid];exact ho
 refine⟨by simp only[iC,ho'],?_⟩;simp only[mF,ho'];exact h
theorem DU{n:Nat}{p:C}{v:TV}{u:fN}{aw:List Nat}(h:nq n p v H=some (u,aw))(ha:iN H H' aw):nq n p v H'=some (u,aw):=by
 unfold nq at h|-;split at h
 .simp at h
 .rename_i cs hcs;split at h
  .rename_i hlen;simp only[hlen,if_true];split at h
   .rename_i id bw off;split at h
    .rename_i sz rows ho;split at h
     .rename_i r ds ids1 hr hv;split at h
      .rename_i u1 hfz;split at h
       .rename_i hb;obtain⟨rfl,rfl⟩:=af (aa h);have ha1:iN H H' ids1:=fun i hi=>ha i (by simp[hi]);simp only[ha id (by simp),ho,hr,sL _ _ _ hv ha1,tn ha1 _ _ (fun i hi=>hi) hfz,hb.1,hb.2,and_self,if_true]
       .simp at h
      .simp at h
     .simp at h
    .rename_i sz slots ho;split at h
     .rename_i hc
      have hid:id∈aw/\∀i,cs=[.fK sz i 0 0]->True:=by
       refine⟨?_,fun _ _=>trivial⟩;unfold tw at h
       repeat' split at h
       all_goals first
        |(simp at h;done)
        |(obtain⟨_,h2⟩:=af (aa h);rw[<-h2];simp)
      simp only[ha id hid.1,ho,if_pos hc];exact GG h ha
     .simp at h
    .simp at h
   .rename_i id off;split at h
    .rename_i cells ho;split at h
     .rename_i hb;obtain⟨rfl,rfl⟩:=af (aa h);simp only[ha id (by simp),ho,hb,if_true]
     .simp at h
    .simp at h
   .simp at h
  .simp at h
theorem pZ{sz:Nat}{x:C}{new:List (List D)}{aw:List Nat}(h:jV sz H x=some (new,aw))(ha:iN H H' aw):jV sz H' x=some (new,aw):=by
 unfold jV at h|-;split at h
 .exact h
 .exact h
 .rename_i sz' id off len
  have:az H' id=az H id:=ha id (by
   split at h
   all_goals first
    |(split at h
      .obtain ⟨_,rfl⟩:=af (aa h);simp
      .simp at h)
    |simp at h)
  simp only[this];exact h
 .simp at h
theorem Hv{sz:Nat}{d x:C}{i:Int}{u:fN}{aw:List Nat}(h:nB sz d x H=some (i,u,aw))(ha:iN H H' aw):nB sz d x H'=some (i,u,aw):=by
 unfold nB at h|-;split at h
 .rename_i new ids1 hr;obtain⟨_,_,rfl⟩:_/\_/\ids1=aw:=by simpa using h
  rw[pZ hr ha];exact h
 .rename_i new ids1 sz' id off len hr;split at h
  .rename_i szo rows ho;split at h
   .rename_i hb;obtain⟨_,_,rfl⟩:_/\_/\id::ids1=aw:=by simpa using h
    rw[pZ hr fun j hj=>ha j (av _ hj)];simp only[ha id (by simp),ho,if_pos hb];exact h
   .simp at h
  .simp at h
 .simp at h
theorem FF{sz:Nat}{d x:C}{i:Int}{u:fN}{aw:List Nat}(h:qc sz d x H=some (i,u,aw))(ha:iN H H' aw):qc sz d x H'=some (i,u,aw)/\nB sz d x H'=none:=by
 unfold qc at h|-;split at h
 case h_2=>simp at h
 rename_i sz' id off len sz2 id2 off2 len2
 have hids:aw=[id,id2]:=by
  repeat' split at h
  all_goals first
   |(simp at h;done)
   |(obtain⟨_,_,h2⟩:=(by simpa using h:_/\_/\[id,id2]=aw);exact h2.symm)
 subst hids;have a1:=ha id (by simp);have a2:=ha id2 (by simp);refine⟨by simp only[a1,a2];exact h,?_⟩
 have:∃szo rows cp,az H' id=some (.cap szo rows cp):=by
  rw[a1];split at h
  .exact ⟨_,_,_,by assumption⟩
  .exact ⟨_,_,_,by assumption⟩
  .simp at h
 obtain⟨szo,rows,cp,ho⟩:=this;unfold nB;split
 .rename_i hd;simp at hd
 .rename_i hd;obtain⟨rfl,rfl,rfl,rfl⟩:=(by simpa using hd:_/\_/\_/\_)
  rw[ho]
 .rfl
theorem Dt{sz nxt n':Nat}{s x:C}{v:TV}{u:fN}{aw:List Nat}(h:pC sz s x H nxt=some (v,u,aw,n'))(ha:iN H H' aw):pC sz s x H' nxt=some (v,u,aw,n'):=by
 unfold pC at h|-;split at h
 .simp at h
 .rename_i new ids1 hr;split at h
  .have e1:ids1=aw:=by
    split at h
    .split at h
     .obtain ⟨_,_,h3,_⟩:=(by simpa using h:_/\_/\ids1=aw/\_);exact h3
     .obtain ⟨_,_,h3,_⟩:=(by simpa using h:_/\_/\ids1=aw/\_);exact h3
    .simp at h
   subst e1;simp only[pZ hr ha];exact h
  .rename_i sz' id off len;split at h
   .rename_i szo rows ho;split at h
    .rename_i hb;have e1:id::ids1=aw:=by obtain⟨_,_,h3,_⟩:=(by simpa using h:_/\_/\id::ids1=aw/\_);exact h3
     subst e1;simp only[pZ hr (fun i hi=>ha i (by simp[hi])),ha id (by simp),ho];rw[if_pos hb];exact h
    .simp at h
   .simp at h
  .simp at h
theorem GP:∀n,(∀c t bq rd,fc H n c=some (t,bq,rd)->iN H H' rd->fc H' n c=some (t,bq,rd))/\
  (∀cs ts bq rd,jk H n cs=some (ts,bq,rd)->iN H H' rd->jk H' n cs=some (ts,bq,rd)):=by
 have leaf:∀n c t bq rd,(match c with|.op _ _=>False|_=>True)->fc H n c=some (t,bq,rd)->iN H H' rd->fc H' n c=some (t,bq,rd):=by
  intro n c t bq rd hl h ha;cases c with
  |d y=>cases n<;>simpa only[fc]using h
  |fK sz id off len=>
   have hm:id∈rd:=by
    cases n<;>
    .simp only[fc]at h;split at h
     all_goals first
      |(split at h
        .split at h
         .obtain ⟨_,_,h3⟩:=(by simpa using h:_/\_/\[id]=rd);rw[<-h3];simp
         .simp at h
        .simp at h)
      |(split at h
        .obtain ⟨_,_,h3⟩:=(by simpa using h:_/\_/\[id]=rd);rw[<-h3];simp
        .simp at h)
      |simp at h
   have:az H' id=az H id:=ha id hm;cases n<;>
   .simp only[fc]at h|-;rw[this];exact h
  |ep id bw off=>cases n<;>simp[fc]at h
  |pS f caps=>cases n<;>simp[fc]at h
  |om id=>cases n<;>simp[fc]at h
  |op id off=>exact hl.elim
 intro n;induction n with
 |zero=>
  refine⟨fun c t bq rd h ha=>?_,fun cs ts bq rd h ha=>?_⟩
  .cases c with|op id off=>simp[fc]at h|_=>exact leaf 0 _ t bq rd trivial h ha
  .cases cs with|nil=>simpa only[jk]using h|cons c cs=>simp[jk]at h
 |succ n ih=>
  refine⟨fun c t bq rd h ha=>?_,fun cs ts bq rd h ha=>?_⟩
  .cases c with
   |op id off=>
    cases off with
    |succ off=>simp[fc]at h
    |zero=>
     simp only[fc]at h|-;split at h
     .rename_i ho;split at h
      .rename_i ts own' rd' hp;obtain⟨h1,h2,h3⟩:=(by simpa using h:T.pt ts=t/\id::own'=bq/\id::rd'=rd)
       subst h1 h2 h3;rw[ha id (by simp),ho];simp only[ih.2 _ _ _ _ hp (fun i hi=>ha i (by simp[hi]))]
      .simp at h
     .rename_i cells ho;obtain⟨h1,h2,h3⟩:=(by simpa using h:T.d (.pt cells)=t/\[]=bq/\[id]=rd)
      subst h1 h2 h3;rw[ha id (by simp),ho]
     .simp at h
   |_=>exact leaf _ _ t bq rd trivial h ha
  .cases cs with
   |nil=>simpa only[jk]using h
   |cons c cs=>
    simp only[jk]at h|-;split at h
    .rename_i t0 a i0 ts0 b j0 h1 h2;obtain⟨e1,e2,e3⟩:=(by simpa using h:t0::ts0=ts/\a++b=bq/\i0++j0=rd)
     subst e1 e2 e3;simp only[ih.1 _ _ _ _ h1 ha.left,ih.2 _ _ _ _ h2 ha.right]
    .simp at h
theorem AS:∀(tvs:List TV)(ms:List Bool)(as:List A)(aw:List Nat)(lent:List (C×List Nat×List Nat)),gK H tvs ms=some (as,aw,lent)->iN H H' aw->iN H H' (lent.flatMap (·.2.2))->
  gK H' tvs ms=some (as,aw,lent):=by
 intro tvs;induction tvs with
 |nil=>intro ms as aw lent h _ _;simpa only[gK]using h
 |cons t tvs ih=>
  intro ms as aw lent h ha hb;simp only[gK]at h|-;split at h
  .simp at h
  .rename_i as1 ids1 lent1 hrec;split at h
   .rename_i hm;split at h
    .split at h
     .rename_i t0 bq rd hp;obtain⟨e1,e2,e3⟩:=(by simpa using h:A.mt t0::as1=as/\ids1=aw/\(_,bq,rd)::lent1=lent)
      subst e1 e2 e3;simp only[bo]at hb;simp only[ih _ _ _ _ hrec ha hb.right,hm,if_true,(GP 300).1 _ _ _ _ hp hb.left]
     .simp at h
    .simp at h
   .rename_i hm;split at h
    .split at h
     .rename_i x i hv;obtain⟨e1,e2,e3⟩:=(by simpa using h:A.d x::as1=as/\i++ids1=aw/\lent1=lent)
      subst e1 e2 e3;simp only[ih _ _ _ _ hrec ha.right hb,hm,if_false,aO,(vi 300).1 _ _ _ hv ha.left]
     .simp at h
    .split at h
     .rename_i xs i hv;obtain⟨e1,e2,e3⟩:=(by simpa using h:A.agg xs::as1=as/\i++ids1=aw/\lent1=lent)
      subst e1 e2 e3;simp only[ih _ _ _ _ hrec ha.right hb,hm,if_false,aO,sL _ _ _ hv ha.left]
     .simp at h
    .simp at h
theorem IC:∀(tvs:List TV)(ms:List Bool)(as:List A)(aw:List Nat)(lent:List (C×List Nat×List Nat)),gK H tvs ms=some (as,aw,lent)->
  ∀c bq rd,(c,bq,rd)∈lent->∃t,fc H 300 c=some (t,bq,rd):=by
 intro tvs;induction tvs with
 |nil=>
  intro ms as aw lent h c bq rd hm;obtain⟨_,_,rfl⟩:[]=as/\[]=aw/\[]=lent:=by simpa[gK]using h
  simp at hm
 |cons t tvs ih=>
  intro ms as aw lent h c bq rd hm;simp only[gK]at h;split at h
  .simp at h
  .rename_i as1 ids1 lent1 hrec;split at h
   .split at h
    .split at h
     .rename_i c0 _ t0 own0 rd0 hp;obtain⟨_,_,e3⟩:=(by simpa using h:A.mt t0::as1=as/\ids1=aw/\(_,own0,rd0)::lent1=lent)
      subst e3;rcases aJ.1 hm with hm|hm
      .simp only[dh]at hm;obtain⟨g1,g2,g3⟩:=hm;rw[g1,g2,g3];exact⟨_,hp⟩
      .exact ih _ _ _ _ hrec c bq rd hm
     .simp at h
    .simp at h
   .split at h
    .split at h
     .obtain ⟨_,_,e3⟩:=(by simpa using h:_/\_/\lent1=lent)
      subst e3;exact ih _ _ _ _ hrec c bq rd hm
     .simp at h
    .split at h
     .obtain ⟨_,_,e3⟩:=(by simpa using h:_/\_/\lent1=lent)
      subst e3;exact ih _ _ _ _ hrec c bq rd hm
     .simp at h
    .simp at h
theorem x6:∀(l:List (C×List Nat×List Nat)),(∀c bq rd,(c,bq,rd)∈l->∃t,fc H 300 c=some (t,bq,rd))->iN H H' (l.flatMap (·.2.2))->eT H' l=eT H l:=by
 intro l;induction l with
 |nil=>intro _ _;rfl
 |cons p l ih=>
  obtain⟨c,bq,rd⟩:=p;intro hp ha;simp only[bo]at ha;have h1:=ih (fun c bq rd hm=>hp c bq rd (by simp[hm])) ha.right;cases c with
  |fK sz id off len=>
   obtain⟨t,ht⟩:=hp (.fK sz id off len) bq rd (by simp)
   have hm:id∈rd:=by
    simp only[fc]at ht;split at ht
    all_goals first
     |(split at ht
       .split at ht
        .obtain ⟨_,_,h3⟩:=(by simpa using ht:_/\_/\[id]=rd);rw[<-h3];simp
        .simp at ht
       .simp at ht)
     |(split at ht
       .obtain ⟨_,_,h3⟩:=(by simpa using ht:_/\_/\[id]=rd);rw[<-h3];simp
       .simp at ht)
     |simp at ht
   simp only[eT,h1,ha.left id hm]
  |_=>simp only[eT,h1]
theorem HG{call:Call}{ro:Bool}{ld:List Bool}{f:Option TV}{vs:List (Option TV)}{nxt n':Nat}{v:TV}{u:fN}{aw:List Nat}(h:vG call ro ld f vs H nxt=some (v,u,aw,n'))(ha:iN H H' aw):
  vG call ro ld f vs H' nxt=some (v,u,aw,n'):=by
 unfold vG at h|-;split at h
 .rename_i f caps vs hf hvs;split at h
  .simp at h
  .rename_i as ids1 lent hargs;split at h
   .rename_i hcond;split at h
    .simp at h
    .rename_i rs outs hcall;by_cases hro:ro=true
     .rw [if_pos hro]at h;split at h
      .rename_i hc;split at h
       .simp at h
       .rename_i bu m hbk;have e1:ids1++lent.flatMap (·.2.2)=aw:=by obtain⟨_,_,h3,_⟩:=(by simpa using h:_/\_/\ids1++lent.flatMap (·.2.2)=aw/\_);exact h3
        subst e1;simp only[AS _ _ _ _ _ hargs ha.left ha.right];rw[if_pos (by rw[x6 lent (IC _ _ _ _ _ hargs) ha.right];exact hcond)];simp only[hcall];rw[if_pos hro,if_pos hc];simp only[hbk];exact h
      .simp at h
     .rw [if_neg hro]at h;split at h
      .simp at h
      .rename_i fu hfz;split at h
       .simp at h
       .rename_i bu m hbk;have e1:ids1++lent.flatMap (·.2.2)=aw:=by obtain⟨_,_,h3,_⟩:=(by simpa using h:_/\_/\ids1++lent.flatMap (·.2.2)=aw/\_);exact h3
        subst e1;simp only[AS _ _ _ _ _ hargs ha.left ha.right];rw[if_pos (by rw[x6 lent (IC _ _ _ _ _ hargs) ha.right];exact hcond)];simp only[hcall];rw[if_neg hro];simp only[tn ha.left _ _ (fun i hi=>hi) hfz,hbk];exact h
   .simp at h
 .simp at h
theorem xX{call:Call}{sz len:Nat}{zero:List Value}{places:List Nat}{vs:List (Option TV)}{nxt n':Nat}{v:TV}{u:fN}{aw:List Nat}
  (h:cI call (.buildSlice sz len zero places) vs H nxt=some (v,u,aw,n')) (ha:iN H H' aw):cI call (.buildSlice sz len zero places) vs H' nxt=some (v,u,aw,n'):=by
 have key:∀G:bD,cI call (.buildSlice sz len zero places) vs G nxt=(match eX vs with
  |some xs=>
   (match ot (fL zero) ((places.map fun i=>(i*sz,sz)).zip xs)with
   |some cs=>
    (match dU G cs with
    |some (ds,aw)=>(match dM G aw aw with|some u=>some (TV.c (.fK sz nxt 0 len),(nxt,some (Ob.aL sz (nC sz len ds)))::u,aw,nxt+1)|none=>none)
    |none=>none)
   |none=>none)
  |none=>none):=fun _=>rfl
 rw[key]at h|-;split at h
 .rename_i xs hxs;split at h
  .rename_i cs hcs;split at h
   .rename_i ds ids1 hv;split at h
    .rename_i u1 hfz;obtain⟨_,_,h3,_⟩:=(by simpa using h:_/\_/\ids1=aw/\_)
     subst h3;simp only[sL _ _ _ hv ha,tn ha _ _ (fun i hi=>hi) hfz];exact h
    .simp at h
   .simp at h
  .simp at h
 .simp at h
theorem CY{ka va ok:Bool}{ks:List Kd}{z:List Value}{m:C}{k v:TV}{aw:List Nat}(h:iX ka ks va z ok m k H=some (v,aw))(ha:iN H H' aw):iX ka ks va z ok m k H'=some (v,aw):=by
 unfold iX at h|-;split at h
 .exact h
 .rename_i id key hkey
  have hid:id∈aw:=by
   repeat' split at h
   all_goals first
    |(simp at h;done)
    |(obtain⟨_,h2⟩:=af (aa h);rw[<-h2];simp)
  simp only[ha id hid];exact h
 .simp at h
theorem Fx{ka va:Bool}{ks:List Kd}{z:List Value}{m:C}{k v:TV}{u:fN}{aw:List Nat}(h:ow ka ks va z m k H=some (v,u,aw))(ha:iN H H' aw):ow ka ks va z m k H'=some (v,u,aw):=by
 unfold ow at h|-;split at h
 .rename_i id key hkey
  have hid:id∈aw:=by
   repeat' split at h
   all_goals first
    |(simp at h;done)
    |(obtain⟨_,_,h2⟩:=(by simpa using h:_/\_/\[id]=aw);rw[<-h2];simp)
  simp only[ha id hid];exact h
 .simp at h
theorem Dh{va:Bool}{n:Nat}{m:C}{s:Option TV}{x:TV}{u:fN}{aw:List Nat}(h:oz va n m s x H=some (u,aw))(ha:iN H H' aw):oz va n m s x H'=some (u,aw):=by
 unfold oz at h|-;split at h
 .rename_i id s1 ds eE hds
  have hid:id∈aw:=by
   repeat' split at h
   all_goals first
    |(simp at h;done)
    |(obtain⟨_,h2⟩:=(by simpa using h:_/\[id]=aw);rw[<-h2];simp)
  simp only[ha id hid];exact h
 .simp at h
theorem zO{str:Bool}{sz:Nat}{x y:C}{l m:Int}{aw:List Nat}(h:o4 str sz x l m H=some (y,aw))(ha:iN H H' aw):o4 str sz x l m H'=some (y,aw):=by
 unfold o4 at h|-;split at h
 .rename_i sz' id off len
  have hid:id∈aw:=by
   repeat' split at h
   all_goals first
    |(simp at h;done)
    |(obtain⟨_,h2⟩:=(by simpa using h:_/\[id]=aw);rw[<-h2];simp)
  simp only[ha id hid];exact h
 .simp at h
theorem FJ{z:List Value}{x:C}{u:fN}{aw:List Nat}(h:qd z x H=some (u,aw))(ha:iN H H' aw):qd z x H'=some (u,aw):=by
 unfold qd at h|-;split at h
 .rename_i sz id off len
  have hid:id∈aw:=by
   repeat' split at h
   all_goals first
    |(simp at h;done)
    |(obtain⟨_,h2⟩:=(by simpa using h:_/\[id]=aw);rw[<-h2];simp)
  simp only[ha id hid];exact h
 .simp at h
def HT:Ev.K->Bool
 |.u6|.slice _ _ _ _|.clear _|.Nk|.TB _|.Sx|.load _ _|.store _|.buildSlice _ _ _ _|.append _|.copy _|.call _ _|.lookup _ _ _ _ _|.mapEntry _ _ _ _|.entryStore _ _=>true
 |_=>false
theorem Km{call:Call}{k:Ev.K}{vs:List (Option TV)}{nxt:Nat}(hk:HT k=false):cI call k vs H nxt=cI call k vs H' nxt:=by
 cases k<;>first
  |(simp[HT]at hk;done)
  |(unfold cI;split<;>first|rfl|simp_all)
theorem Ko{call:Call}{k:Ev.K}{vs:List (Option TV)}{nxt n':Nat}{v:TV}{u:fN}{aw:List Nat}(h:cI call k vs H nxt=some (v,u,aw,n'))(ha:iN H H' aw):
  cI call k vs H' nxt=some (v,u,aw,n'):=by
 cases k with
 |load agg n=>
  match vs,h with
  |[some (.c p)],h=>
   change (match iC agg n p H with|some (v,aw)=>some (v,[],aw,nxt)|none=>none)=_ at h;show(match iC agg n p H' with|some (v,aw)=>some (v,[],aw,nxt)|none=>none)=_;split at h
   .rename_i hl;obtain⟨_,_,h3,_⟩:=(by simpa using h:_/\_/\_=aw/\_)
    subst h3;rw[Aa hl ha];exact h
   .simp at h
 |u6=>
  match vs,h with
  |[some (.c p)],h=>
   change (match iC false 1 p H with|some (v,aw)=>some (v,[],aw,nxt)|none=>mF false 1 p H nxt)=_ at h;show(match iC false 1 p H' with|some (v,aw)=>some (v,[],aw,nxt)|none=>mF false 1 p H' nxt)=_;split at h
   .rename_i hl;obtain⟨_,_,h3,_⟩:=(by simpa using h:_/\_/\_=aw/\_)
    subst h3;rw[Aa hl ha];exact h
   .obtain ⟨h1,h2⟩:=E4 h ha;rw[h1];exact h2
 |store n=>
  match vs,h with
  |[some (.c p),some x],h=>
   change (match nq n p x H with|some (u,aw)=>some (TV.jA [],u,aw,nxt)|none=>none)=_ at h;show(match nq n p x H' with|some (u,aw)=>some (TV.jA [],u,aw,nxt)|none=>none)=_;split at h
   .rename_i hl;obtain⟨_,_,h3,_⟩:=(by simpa using h:_/\_/\_=aw/\_)
    subst h3;rw[DU hl ha];exact h
   .simp at h
 |buildSlice sz len zero places=>exact xX h ha
 |clear z=>
  match vs,h with
  |[some (.c d)],h=>
   change (match qd z d H with|some (u,aw)=>some (TV.jA [],u,aw,nxt)|none=>none)=_ at h;show(match qd z d H' with|some (u,aw)=>some (TV.jA [],u,aw,nxt)|none=>none)=_;split at h
   .rename_i hl;obtain⟨_,_,h3,_⟩:=(by simpa using h:_/\_/\_=aw/\_)
    subst h3;rw[FJ hl ha];exact h
   .simp at h
 |slice str sz lo hi=>
  have same:hi=false->cI call (.slice str sz lo hi) vs H nxt=cI call (.slice str sz lo hi) vs H' nxt:=by
   intro hlh
   cases lo<;>cases hi<;>first
    |(simp at hlh;done)
    |(match vs with
     |[]=>rfl
     |none::_=>rfl
     |some (.agg _)::_=>rfl
     |some (.jA _)::_=>rfl
     |some (.c _)::[]=>rfl
     |some (.c _)::_::[]=>rfl
     |some (.c _)::_::_::_=>rfl)
  cases hi with
  |false=>rw[<-same rfl];exact h
  |true=>
   cases lo with
   |false=>
    match vs,h with
    |[some (.c x),m],h=>
     change (match cA m with
      |some m=>(match ge str sz x none (some m)with
       |some y=>some (TV.c y,([]:fN),([]:List Nat),nxt)
       |none=>(match o4 str sz x 0 m H with|some (y,aw)=>some (TV.c y,([]:fN),aw,nxt)|none=>none))
      |none=>none)=_ at h
     show(match cA m with
      |some m=>(match ge str sz x none (some m)with
       |some y=>some (TV.c y,([]:fN),([]:List Nat),nxt)
       |none=>(match o4 str sz x 0 m H' with|some (y,aw)=>some (TV.c y,([]:fN),aw,nxt)|none=>none))
      |none=>none)=_
     split at h
     .split at h
      .exact h
      .split at h
       .rename_i hl;obtain⟨_,_,h3,_⟩:=(by simpa using h:_/\_/\_=aw/\_)
        subst h3;rw[zO hl ha];exact h
       .simp at h
     .simp at h
   |true=>
    match vs,h with
    |[some (.c x),l,m],h=>
     change (match cA l,cA m with
      |some l,some m=>(match ge str sz x (some l) (some m)with
       |some y=>some (TV.c y,([]:fN),([]:List Nat),nxt)
       |none=>(match o4 str sz x l m H with|some (y,aw)=>some (TV.c y,([]:fN),aw,nxt)|none=>none))
      |_,_=>none)=_ at h
     show(match cA l,cA m with
      |some l,some m=>(match ge str sz x (some l) (some m)with
       |some y=>some (TV.c y,([]:fN),([]:List Nat),nxt)
       |none=>(match o4 str sz x l m H' with|some (y,aw)=>some (TV.c y,([]:fN),aw,nxt)|none=>none))
      |_,_=>none)=_
     split at h
     .split at h
      .exact h
      .split at h
       .rename_i hl;obtain⟨_,_,h3,_⟩:=(by simpa using h:_/\_/\_=aw/\_)
        subst h3;rw[zO hl ha];exact h
       .simp at h
     .simp at h
 |append sz=>match vs,h with|[some (.c s),some (.c x)],h=>exact Dt (s:=s) (x:=x) h ha
 |copy sz=>
  match vs,h with
  |[some (.c d),some (.c x)],h=>
   change (match nB sz d x H with|some (i,u,aw)=>some (lv (.int .i64 i),u,aw,nxt)|none=>(match qc sz d x H with|some (i,u,aw)=>some (lv (.int .i64 i),u,aw,nxt)|none=>none))=_ at h;show(match nB sz d x H' with|some (i,u,aw)=>some (lv (.int .i64 i),u,aw,nxt)|none=>(match qc sz d x H' with|some (i,u,aw)=>some (lv (.int .i64 i),u,aw,nxt)|none=>none))=_;split at h
   .rename_i hl;obtain⟨_,_,h3,_⟩:=(by simpa using h:_/\_/\_=aw/\_)
    subst h3;rw[Hv hl ha];exact h
   .split at h
    .rename_i hl;obtain⟨_,_,h3,_⟩:=(by simpa using h:_/\_/\_=aw/\_)
     subst h3;obtain⟨e1,e2⟩:=FF hl ha;rw[e2,e1];exact h
    .simp at h
 |Nk=>
  match vs,h with
  |[some (.c x)],h=>
   change (match Ax x H with|some (n,aw)=>some (lv (.int .i64 n),([]:fN),aw,nxt)|none=>none)=_ at h;show(match Ax x H' with|some (n,aw)=>some (lv (.int .i64 n),([]:fN),aw,nxt)|none=>none)=_;split at h
   .rename_i m ids1 hl;obtain⟨_,_,h3,_⟩:=(by simpa using h:_/\_/\_=aw/\_)
    subst h3
    have:Ax x H'=some (m,ids1):=by
     unfold Ax at hl|-;split at hl
     .rename_i id off len
      have hid:id∈ids1:=by
       repeat' split at hl
       all_goals first
        |(simp at hl;done)
        |(obtain⟨_,h2⟩:=(by simpa using hl:_/\[id]=ids1);rw[<-h2];simp)
      simp only[ha id hid];exact hl
     .simp at hl
    rw[this];exact h
   .simp at h
 |Sx=>
  match vs,h with
  |[some (.c x),some (.c y)],h=>
   change (match Aw x y H with|some aw=>some (lv (.bool false),([]:fN),aw,nxt)|none=>none)=_ at h;show(match Aw x y H' with|some aw=>some (lv (.bool false),([]:fN),aw,nxt)|none=>none)=_;split at h
   .rename_i ids1 hl;obtain⟨_,_,h3,_⟩:=(by simpa using h:_/\_/\_=aw/\_)
    subst h3
    have:Aw x y H'=some ids1:=by
     unfold Aw at hl|-;split at hl
     .rename_i a o1 l1 sz2 b o2 l2
      have hid:ids1=[a,b]:=by
       repeat' split at hl
       all_goals first
        |(simp at hl;done)
        |(exact(aa hl).symm)
      subst hid;simp only[ha a (by simp),ha b (by simp)];exact hl
     .simp at hl
    rw[this];exact h
   .simp at h
 |TB z=>
  match vs,h with
  |[some (.c x),some (.c (.d (.lit (.int k1 k))))],h=>
   change Cb z x k H nxt=_ at h;show Cb z x k H' nxt=_;unfold Cb at h|-;split at h
   .rename_i sz' id off len
    have hid:id∈aw:=by
     repeat' split at h
     all_goals first
      |(simp at h;done)
      |(obtain⟨_,_,h2,_⟩:=(by simpa using h:_/\_/\[id]=aw/\_);rw[<-h2];simp)
    simp only[ha id hid];exact h
   .simp at h
 |call ro ld=>match vs,h with|f::vs,h=>exact HG (f:=f) (vs:=vs) h ha
 |lookup ka ks va z ok=>
  match vs,h with
  |[some (.c m),some k],h=>
   change (match iX ka ks va z ok m k H with|some (v,aw)=>some (v,([]:fN),aw,nxt)|none=>none)=_ at h;show(match iX ka ks va z ok m k H' with|some (v,aw)=>some (v,([]:fN),aw,nxt)|none=>none)=_;split at h
   .rename_i hl;obtain⟨_,_,h3,_⟩:=(by simpa using h:_/\_/\_=aw/\_)
    subst h3;rw[CY hl ha];exact h
   .simp at h
 |mapEntry ka ks va z=>
  match vs,h with
  |[some (.c m),some k],h=>
   change (match ow ka ks va z m k H with|some (v,u,aw)=>some (v,u,aw,nxt)|none=>none)=_ at h;show(match ow ka ks va z m k H' with|some (v,u,aw)=>some (v,u,aw,nxt)|none=>none)=_;split at h
   .rename_i hl;obtain⟨_,_,h3,_⟩:=(by simpa using h:_/\_/\_=aw/\_)
    subst h3;rw[Fx hl ha];exact h
   .simp at h
 |entryStore va n=>
  match vs,h with
  |[some (.c m),s,some x],h=>
   change (match oz va n m s x H with|some (u,aw)=>some (TV.jA [],u,aw,nxt)|none=>none)=_ at h;show(match oz va n m s x H' with|some (u,aw)=>some (TV.jA [],u,aw,nxt)|none=>none)=_;split at h
   .rename_i hl;obtain⟨_,_,h3,_⟩:=(by simpa using h:_/\_/\_=aw/\_)
    subst h3;rw[Dh hl ha];exact h
   .simp at h
 |_=>rw[Km (H:=H') (H':=H) rfl];exact h
end
end Go.Ev
