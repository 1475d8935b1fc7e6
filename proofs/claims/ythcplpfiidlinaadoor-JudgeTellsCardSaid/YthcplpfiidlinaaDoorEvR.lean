/- Calls: what a callee's answer means, and that a caller may use it. Conditions: the relation of XEvC. -/
import Derived.Test.YthcplpfiidlinaaDoorEvLa
open Array renaming getD_eq_getD_getElem?->bI,getElem?_setIfInBounds->kD
open Bool renaming and_eq_true->ai,false_eq_true->aX
open List renaming all_eq_true->bq,append_assoc->aH,cons_append->bd,flatMap_cons->bf,getElem?_append_left->bS,getElem?_append_right->bX,getElem?_eq_getElem->aE,getElem?_eq_some_iff->aq,getElem?_map->aM,length_map->aV,map_cons->aD,mem_append->au,mem_append_left->aG,mem_append_right->aI,mem_cons->aQ,mem_cons_of_mem->aF,mem_flatMap->dn,mem_flatten->dL,mem_map->c9,mem_of_getElem?->bk,mem_singleton->av,nodup_append->cE,nodup_cons->fT,singleton_append->bn
open List.cons renaming injEq->dM
open Nat renaming le_refl->aw,le_trans->fI,lt_of_lt_of_le->dg,mul_one->mP
open Option renaming bind_some->ae,getD_some->fH,isSome_iff_exists->gV,map_eq_some_iff->aK
open Option.some renaming inj->aa,injEq->bE
open Prod.mk renaming inj->ad,injEq->da
namespace Go.Ev
def RA(S:Nat->Prop)(w:World):A->Value->List Nat->Prop
 |.d x,v,fp=>RD S w x v/\fp=[]
 |.agg xs,v,fp=>∃aP,v=.agg aP/\xs.length=aP.size/\(∀(i:Nat)(x:D),xs[i]?=some x->RD S w x (aP.getD i undef))/\fp=[]
 |.mt t,v,fp=>RT S w t v fp
def L6(S:Nat->Prop)(w:World):List A->List Value->List Nat->Prop
 |[],[],fp=>fp=[]
 |a::as,v::vs,fp=>∃f1 f2,fp=f1++f2/\RA S w a v f1/\L6 S w as vs f2
 |_,_,_=>False
def RR(S:Nat->Prop)(w:World):R->Value->List Nat->Prop
 |.c t,v,fp=>RT S w t v fp
 |.agg ts,v,fp=>∃(aP:Array Value)(fps:List (List Nat)),v=.agg aP/\ts.length=aP.size/\fps.length=ts.length/\fps.flatten=fp/\∀(i:Nat)(t:T)(f:List Nat),ts[i]?=some t->fps[i]?=some f->RT S w t (aP.getD i undef) f
def EH(S:Nat->Prop)(w:World):List R->List Value->List Nat->Prop
 |[],[],fp=>fp=[]
 |r::rs,v::vs,fp=>∃f1 f2,fp=f1++f2/\RR S w r v f1/\EH S w rs vs f2
 |_,_,_=>False
def Oh(S:Nat->Prop)(w:World):List T->List Value->List Nat->Prop
 |[],[],fp=>fp=[]
 |t::ts,v::vs,fp=>∃f1 f2,fp=f1++f2/\((t=.wR/\f1=[])\/RT S w t v f1)/\Oh S w ts vs f2
 |_,_,_=>False
def oQ:List A->List Value->List Value
 |.mt _::as,v::vs=>v::oQ as vs
 |_::as,_::vs=>oQ as vs
 |_,_=>[]
def yL:List Value->Value
 |[v]=>v
 |vs=>.tuple vs.toArray
def P4(P:Program)(f:FuncId)(args:Array Value)(w:World)(R:Value->World->Prop):Prop:=
 (∃g as,(callFunc f args).run P w=.ok (.enter g as) w/\Calls P g as w fun e w'=>∃v,e=.returned v/\R v w')\/
 (∃v,(callFunc f args).run P w=.ok (.value v) w/\R v w)
def Left(S:Nat->Prop)(w:World)(fp:List Nat)(rs:List R)(outs:List T)(lent:List Value)(v:Value)(w':World):Prop:=
 ∃(S':Nat->Prop)(k8:List Value)(fp1 fp2:List Nat),v=yL k8/\gU S w S' w'/\(∀b,S' b->S b\/b∈fp\/w.heap.size<=b)/\(∀b,S' b->b<w'.heap.size)/\
  EH S' w' rs k8 fp1/\Oh S' w' outs lent fp2/\(fp1++fp2).Nodup/\(∀b∈fp1++fp2,¬S' b/\(b∈fp\/w.heap.size<=b))/\Hw (fun b=>b<w.heap.size/\b∉fp) w w'
def Cz(P:Program)(f:FuncId)(as:List A)(rs:List R)(outs:List T):Prop:=
 ∀(S:Nat->Prop)(w:World)(vs:List Value)(fp:List Nat),(∀b,S b->b<w.heap.size)->L6 S w as vs fp->fp.Nodup->(∀b∈fp,¬S b)->Ay S w->
  P4 P f vs.toArray w (Left S w fp rs outs (oQ as vs))
def nz(P:Program)(call:Call):Prop:=∀f as rs outs,call f as=some (rs,outs)->Cz P f as rs outs
theorem L6.CA{S S':Nat->Prop}{w:World}(hs:gU S w S' w){as:List A}:∀{vs:List Value}{fp:List Nat},L6 S w as vs fp->L6 S' w as vs fp:=by
 induction as with
 |nil=>intro vs fp h;cases vs<;>exact h
 |cons x as ih=>
  intro vs fp h;cases vs with
  |nil=>exact h
  |cons v vs=>obtain⟨f1,f2,h1,h2,h3⟩:=h;refine⟨f1,f2,h1,?_,ih h3⟩;cases x with|d y=>exact⟨h2.1.mono hs,h2.2⟩|agg xs=>obtain⟨aP,q1,q2,q3,q4⟩:=h2;exact⟨aP,q1,q2,fun i x hi=>(q3 i x hi).mono hs,q4⟩|mt t=>exact RT.mono hs h2 fun _ _=>rfl
section
variable{P:Program}{S K:Nat->Prop}{w0 w:World}{Kn:Nat->Prop}{φ:Nat->gI}{H:bM}{e:jG}{ρ:Operand->Value}{o:Oper}{call:Call}
 {nxt n':Nat} {v:TV} {u:fA} {aB:List Nat}
inductive Jk(Kn:Nat->Prop)(φ:Nat->gI)(S:Nat->Prop)(w:World):List (C×List Nat×List Nat)->List Value->Prop
 |nil:Jk Kn φ S w [] []
 |cons {c:C} {bG rd:List Nat} {l:List (C×List Nat×List Nat)} {v:Value} {vs:List Value} (h:RC S w Kn φ c v) (hl:Jk Kn φ S w l vs):Jk Kn φ S w ((c,bG,rd)::l) (v::vs)
theorem GE{H:bM}(hI:Inv S K w0 Kn φ (aC H) w):∀(tvs:List TV)(ms:List Bool)(as:List A)(aB:List Nat)(lent:List (C×List Nat×List Nat))(vs:List Value),
  gu H tvs ms=some (as,aB,lent)->tvs.length=vs.length->(∀(i:Nat)(t:TV)(v:Value),tvs[i]?=some t->vs[i]?=some v->ge S w Kn φ t v)->
  L6 (SB S w φ (aC H) aB) w as vs ((lent.flatMap (·.2.1)).flatMap (ip w φ (aC H)))/\(∀i∈lent.flatMap (·.2.1),∃o,aC H i=some o/\cR o=true)/\Jk Kn φ S w lent (oQ as vs):=by
 intro tvs;induction tvs with
 |nil=>
  intro ms as aB lent vs h hl hr;obtain⟨rfl,rfl,rfl⟩:[]=as/\[]=aB/\[]=lent:=by simpa[gu]using h
  obtain rfl:vs=[]:=List.length_eq_zero_iff.1 hl.symm;exact⟨rfl,fun i hi=>by simp at hi,.nil⟩
 |cons t tvs ih=>
  intro ms as aB lent vs h hl hr;cases vs with
  |nil=>simp at hl
  |cons v vs=>
   have h0:=hr 0 t v rfl rfl;simp only[gu]at h;split at h
   .simp at h
   .rename_i as1 ids1 lent1 hrec;obtain⟨i1,i2,i3⟩:=ih ms.tail as1 ids1 lent1 vs hrec (by simpa using hl) (fun i t v hi hv=>hr (i+1) t v (by simpa using hi) (by simpa using hv));split at h
    .split at h
     .rename_i c;split at h
      .rename_i t0 bG rd hp;obtain⟨rfl,rfl,rfl⟩:A.mt t0::as1=as/\ids1=aB/\(c,bG,rd)::lent1=lent:=by simpa using h
       cases h0 with
       |c h0=>
        obtain⟨p1,p2⟩:=(si hI 300).1 c t0 bG rd v hp h0;refine⟨⟨bG.flatMap (ip w φ (aC H)),_,by simp,p1.mono (SB.uR _) (fun _ _=>rfl),i1⟩,fun i hi=>?_,.cons h0 i3⟩;rcases au.1 (by simpa using hi:i∈bG++lent1.flatMap (·.2.1))with hi|hi
        .exact p2 i hi
        .exact i2 i hi
      .simp at h
     .simp at h
    .split at h
     .rename_i c;split at h
      .rename_i x i hp;obtain⟨rfl,rfl,rfl⟩:A.d x::as1=as/\i++ids1=aB/\lent1=lent:=by simpa using h
       cases h0 with|c h0=>have p1:=(uM hI 300).1 c x i v hp h0;refine⟨⟨[],_,rfl,⟨p1.mono (SB.CA _ _ fun j hj=>by simp[hj]),rfl⟩,?_⟩,i2,i3⟩;exact i1.CA (SB.CA _ _ fun j hj=>by simp[hj])
      .simp at h
     .rename_i cs;split at h
      .rename_i xs i hp;obtain⟨rfl,rfl,rfl⟩:A.agg xs::as1=as/\i++ids1=aB/\lent1=lent:=by simpa using h
       cases h0 with
       |@agg _ aP hlen h0=>
        obtain⟨q1,q2⟩:=rR hI cs xs i hp (fun i=>aP[i]?) (fun i c hi=>by
         have hlt:i<aP.size:=by rw[<-hlen];exact(aq.1 hi).1
         exact⟨aP.getD i undef,by simp[hlt],h0 i c hi⟩)
        refine⟨⟨[],_,rfl,⟨aP,rfl,q1.trans hlen,fun j x hj=>?_,rfl⟩,?_⟩,i2,i3⟩
        .obtain ⟨y,hy,hd⟩:=q2 j x hj;have hy':aP[j]?=some y:=hy;have e1:aP.getD j undef=y:=by simp[hy']
         rw[e1];exact hd.mono (SB.CA _ _ fun k hk=>by simp[hk])
        .exact i1.CA (SB.CA _ _ fun j hj=>by simp[hj])
      .simp at h
     .simp at h
end
section
variable{P:Program}{S K:Nat->Prop}{w0 w:World}{Kn:Nat->Prop}{φ:Nat->gI}{hf:Nat->Option Ob}{H:bM}{e:jG}{ρ:Operand->Value}{o:Oper}{call:Call}
 {nxt n':Nat} {v:TV} {u:fA} {aB:List Nat}
theorem sJ.NC{fa fb:List Nat}{n m:Nat}{φ1:Nat->gI}(hI:Inv S K w0 Kn φ hf w)(h:sJ S K w0 w Kn φ hf fa n m u φ1)(ha:gj w φ hf fb)(hd:∀x∈fa,x∉fb):gj w φ1 (bA u hf) fb:=by
 intro j o hj hown x hx hm;by_cases hu:∃p∈u,p.1=j
 .obtain ⟨p,hp,rfl⟩:=hu;exact hd _ (h.cY p hp x hx) hm
 .have hfn:cz u j=none:=lx fun p hp e=>hu ⟨p,hp,e⟩;have hj':=hj;simp only[bA,hfn]at hj';have hk:=(hI.iN j o hj').1;rw[gx (h.sY.eu j hk) (hj.trans hj'.symm)]at hx;exact ha j o hj' hown x hx hm
theorem HB(r:R)(nxt:Nat)(v:Value)(fp:List Nat)(hI:Inv S K w0 Kn φ hf w)(hfr:∀j,nxt<=j->j<(xh nxt r).2.2->¬Kn j)(h:RR S w r v fp)(hn:fp.Nodup)(hSK:∀b∈fp,¬S b/\¬K b)(ha:gj w φ hf fp):
  ∃φ',sJ S K w0 w Kn φ hf fp nxt (xh nxt r).2.2 (xh nxt r).2.1 φ'/\ge S w (pJ Kn nxt (xh nxt r).2.2) φ' (xh nxt r).1 v:=by
 cases r with|c t=>obtain⟨φ',h1,h2⟩:=wh t nxt v fp hI hfr h hn hSK ha;exact⟨φ',h1,.c h2⟩|agg ts=>obtain⟨aP,fps,rfl,h1,h2,rfl,h3⟩:=h;obtain⟨φ',h4,h5,h6⟩:=t4 ts nxt (fun i=>aP.getD i undef) fps hI hfr h2 h3 hn hSK ha;exact⟨φ',h4,.agg (h5.trans h1) h6⟩
theorem Ov(r:R)(nxt:Nat):nxt<=(xh nxt r).2.2:=by cases r with|c t=>exact Jv t nxt|agg ts=>exact wg ts nxt
theorem nH(nxt:Nat)(r:R)(rs:List R):ik nxt (r::rs)=((xh nxt r).1::(ik (xh nxt r).2.2 rs).1,(xh nxt r).2.1++(ik (xh nxt r).2.2 rs).2.1,(ik (xh nxt r).2.2 rs).2.2):=rfl
theorem GL:∀(rs:List R)(nxt:Nat),nxt<=(ik nxt rs).2.2:=by intro rs;induction rs with|nil=>intro nxt;exact aw _|cons r rs ih=>intro nxt;rw[nH];exact fI (Ov r nxt) (ih _)
theorem yl:∀(rs:List R){Kn:Nat->Prop}{φ:Nat->gI}{hf:Nat->Option Ob}(nxt:Nat)(vs:List Value)(fp:List Nat),Inv S K w0 Kn φ hf w->(∀j,nxt<=j->j<(ik nxt rs).2.2->¬Kn j)->EH S w rs vs fp->fp.Nodup->
  (∀b∈fp,¬S b/\¬K b)->gj w φ hf fp->
  ∃φ',sJ S K w0 w Kn φ hf fp nxt (ik nxt rs).2.2 (ik nxt rs).2.1 φ'/\(ik nxt rs).1.length=vs.length/\
   ∀(i:Nat)(t:TV)(v:Value),(ik nxt rs).1[i]?=some t->vs[i]?=some v->ge S w (pJ Kn nxt (ik nxt rs).2.2) φ' t v:=by
 intro rs;induction rs with
 |nil=>intro Kn φ hf nxt vs fp hI hfr h hn hSK ha;cases vs with|cons v vs=>exact h.elim|nil=>obtain rfl:fp=[]:=h;exact⟨φ,sJ.nil hI _ _,rfl,fun i t v hi=>by simp[ik]at hi⟩
 |cons r rs ih=>
  intro Kn φ hf nxt vs fp hI hfr h hn hSK ha;cases vs with
  |nil=>exact h.elim
  |cons v vs=>
   obtain⟨f1,f2,rfl,h1,h2⟩:=h;rw[cE]at hn;obtain⟨hn1,hn2,hn3⟩:=hn;simp only[au]at hSK;obtain⟨φ1,hL1,hr1⟩:=HB r nxt v f1 hI (fun j hj hj2=>hfr j hj (by rw[nH];exact dg hj2 (GL rs _))) h1 hn1 (fun b hb=>hSK b (.inl hb)) (fun j o hj hown x hx hm=>ha j o hj hown x hx (by simp[hm]))
   obtain⟨φ2,hL2,hlen,hr2⟩:=ih (Kn:=pJ Kn nxt (xh nxt r).2.2) (φ:=φ1) (hf:=bA (xh nxt r).2.1 hf) (xh nxt r).2.2 vs f2 hL1.inv (fun j hj hj2 hk=>by
    rcases hk with hk|hk
    .have:=hL1.le;exact hfr j (by omega) (by rw[nH];exact hj2) hk
    .omega) h2 hn2 (fun b hb=>hSK b (.inr hb)) (hL1.NC hI (fun j o hj hown x hx hm=>ha j o hj hown x hx (by simp[hm])) fun x hx hx2=>hn3 x hx x hx2 rfl)
   have hcomp:=hL1.qt hL2;have hcm:bA ((ik (xh nxt r).2.2 rs).2.1++(xh nxt r).2.1) hf=bA ((xh nxt r).2.1++(ik (xh nxt r).2.2 rs).2.1) hf:=mH fun p hp q hq e=>by have h1:=hL2.gG p hp;have h2:=hL1.gG q hq;omega
   have hsub:∀i,pJ (pJ Kn nxt (xh nxt r).2.2) (xh nxt r).2.2 (ik (xh nxt r).2.2 rs).2.2 i->pJ Kn nxt (ik (xh nxt r).2.2 rs).2.2 i:=fun i=>(ss hL1.le hL2.le i).1;refine⟨φ2,?_,by simp[nH,hlen],fun i t v' hi hv=>?_⟩
   .simp only[nH];have hsw:∀{p:Nat×Option Ob}{a b:fA},p∈a++b->p∈b++a:=fun hp=>au.2 (au.1 hp).symm;exact⟨hcomp.le,hcomp.sY,hcm▸hcomp.inv,fun p hp=>hcomp.gG p (hsw hp),fun p hp x hx=>hcomp.cY p (hsw hp) x (hcm.symm▸hx)⟩
   .cases i with
    |zero=>
     obtain rfl:(xh nxt r).1=t:=by simpa[nH]using hi
     obtain rfl:v=v':=by simpa using hv
     exact(hr1.mono (gU.refl _ _) hL2.sY).kn hsub
    |succ i=>exact(hr2 i t v' (by simpa[nH]using hi) (by simpa using hv)).kn hsub
theorem Inv.put(h:Inv S K w0 Kn φ hf w){i:Nat}(hi:Kn i)(o:Ob)(hfree:cR o=true->∀j b,hf j=some b->cR b=true->j≠i->(φ i).cY∉ip w φ hf j)
  (hro:RO S K w Kn φ (φ i) o)
  (hp:∀sz sl k x,o=.nst sz sl->sQ w (φ i) sl k x->x≠(φ i).cY/\(∀j b,hf j=some b->cR b=true->j≠i->x∉ip w φ hf j)/\∀k',sQ w (φ i) sl k' x->k'=k:=by intro _ _ _ _ e;cases e):
  Inv S K w0 Kn φ (bA [(i,some o)] hf) w:=by
 have hold:∀j b,bA [(i,some o)] hf j=some b->(j=i/\b=o)\/(j≠i/\hf j=some b):=by
  intro j b hj;rw[bZ]at hj;by_cases e:i=j
  .rw [if_pos e]at hj;exact .inl ⟨e.symm,(aa hj).symm⟩
  .rw [if_neg e,fJ]at hj;exact .inr ⟨fun q=>e q.symm,hj⟩
 refine h.vv (gU.refl _ _) (up.refl _ _) h.vn h.sk h.nD ?_ ?_ ?_
 .intro id o' ho;rcases hold id o' ho with⟨rfl,rfl⟩|⟨_,ho'⟩
  .exact .inr ⟨hi,hro⟩
  .exact .inl ⟨ho',fun hown=>⟨rfl,((h.iN id o' ho').2.bG hown).1⟩,h.DX ho' fun _ _=>rfl⟩
 .intro a b oa ob ha hb hoa hob hne;rcases hold a oa ha with⟨e1,e2⟩|⟨n1,ha'⟩<;>rcases hold b ob hb with⟨e3,e4⟩|⟨n2,hb'⟩
  .exact absurd (e1.trans e3.symm) hne
  .rw [e1];exact fun e=>hfree (e2▸hoa) b ob hb' hob n2 (dR.2 (.inl e))
  .rw [e3];exact fun e=>hfree (e4▸hob) a oa ha' hoa n1 (dR.2 (.inl e.symm))
  .exact h.jE a b oa ob ha' hb' hoa hob hne
 .intro a sz sl k x ha hpa;rcases hold a _ ha with⟨ea,eo⟩|⟨na,ha'⟩
  .rw [ea]at hpa;obtain⟨p1,p2,p3⟩:=hp sz sl k x eo.symm hpa;refine⟨fun j b hj hown=>?_,fun j sz' sl' k' hj hpj=>?_⟩
   .rcases hold j b hj with⟨ej,_⟩|⟨nj,hj'⟩
    .rw [ej];exact fun e=>p1 e.symm
    .exact fun e=>p2 j b hj' hown nj (dR.2 (.inl e.symm))
   .rcases hold j _ hj with⟨ej,eo2⟩|⟨nj,hj'⟩
    .rw [ej]at hpj;rw[<-eo]at eo2;cases eo2;exact⟨ej.trans ea.symm,p3 k' hpj⟩
    .exact absurd (dR.2 (.inr ⟨sz',sl',k',hj',hpj⟩)) (p2 j _ hj' rfl nj)
  .obtain ⟨p1,p2⟩:=h.xq a sz sl k x ha' hpa;refine⟨fun j b hj hown=>?_,fun j sz' sl' k' hj hpj=>?_⟩
   .rcases hold j b hj with⟨ej,eo⟩|⟨_,hj'⟩
    .rw [ej];exact fun e=>hfree (eo▸hown) a _ ha' rfl na (dR.2 (.inr ⟨sz,sl,k,ha',e▸hpa⟩))
    .exact p1 j b hj' hown
   .rcases hold j _ hj with⟨ej,eo⟩|⟨_,hj'⟩
    .rw [ej]at hpj;exact absurd (dR.2 (.inr ⟨sz,sl,k,ha',hpa⟩)) ((hp sz' sl' k' x eo.symm hpj).2.1 a _ ha' rfl na)
    .exact p2 j sz' sl' k' hj' hpj
structure Q3(S K:Nat->Prop)(w0 w:World)(Kn:Nat->Prop)(φ:Nat->gI)(hf:Nat->Option Ob)(fp:List Nat)(owns:List Nat)(nxt m:Nat)(u:fA)(φ':Nat->gI):Prop where
 le:nxt<=m
 sY:up Kn φ (pJ Kn nxt m) φ'
 inv:Inv S K w0 (pJ Kn nxt m) φ' (bA u hf) w
 FZ:∀p∈u,p.1∈owns\/(nxt<=p.1/\p.1<m)
 QF:∀i∈owns,(cz u i).isSome=true
 cY:∀i o,bA u hf i=some o->cR o=true->(i∈owns\/(nxt<=i/\i<m))->∀x∈ip w φ' (bA u hf) i,x∈fp
def jS(l:List (C×List Nat×List Nat)):List Nat:=l.flatMap (·.2.1)
theorem rD(bG:List Nat)(j:Nat):cz (bG.map fun i=>((i,none):Nat×Option Ob)) j=if j∈bG then some none else none:=by
 induction bG with
 |nil=>rfl
 |cons a l ih=>
  simp only[aD,cz];by_cases e:a=j
  .simp [e]
  .have e':(a==j)=false:=by simpa using e
   have e2:¬j=a:=fun h=>e h.symm;simp[e',ih,e2]
theorem RC.OQ{id off:Nat}{v:Value}(h:RC S w Kn φ (.op id off) v):v=.pointer (some ⟨(φ id).cY,(φ id).aT+off,none⟩)/\Kn id:=by cases h with|op hk=>exact⟨rfl,hk⟩
theorem pk.Ju{w:World}{b:Nat}{a a':Array Value}(h:pk w b a)(h':pk w b a'):a=a':=by obtain⟨t,h⟩:=h;obtain⟨t',h'⟩:=h';rw[h]at h';simp at h';exact h'.1
theorem sD{α:Type}{u:List (Nat×α)}{id:Nat}{x:α}(h:cz u id=some x):∃p∈u,p.1=id:=by
 induction u with
 |nil=>simp[cz]at h
 |cons p r ih=>
  obtain⟨i,y⟩:=p;by_cases e:i=id
  .exact ⟨(i,y),by simp,e⟩
  .have e2:(i==id)=false:=by simpa using e
   simp only[cz,e2,cond_false]at h;obtain⟨p,hp,hpe⟩:=ih h;exact⟨p,by simp[hp],hpe⟩
theorem Bc:∀(l:List (C×List Nat×List Nat))(outs:List T)(nxt:Nat)(bu:fA)(m:Nat),eW nxt l outs=some (bu,m)->nxt<=m:=by
 intro l;induction l with
 |nil=>
  intro outs nxt bu m h;cases outs with
  |nil=>obtain⟨_,rfl⟩:[]=bu/\nxt=m:=by simpa[eW]using h
        exact aw _
  |cons t ts=>simp[eW]at h
 |cons p l ih=>
  obtain⟨c,bG,rd⟩:=p;intro outs nxt bu m h;cases outs with
  |nil=>unfold eW at h;simp at h
  |cons t outs=>
   unfold eW at h;split at h
   .simp at*
   .rename_i heq1 heq2;simp only[dM,da]at heq1 heq2;obtain⟨_,rfl⟩:=heq1;exact ih _ _ _ _ h
   .rename_i heq1 heq2;simp only[dM,da]at heq1 heq2;obtain⟨_,rfl⟩:=heq1;split at h
    .rename_i w2 k hrec;split at h
     .obtain ⟨_,rfl⟩:=ad (aa h);exact fI (wg _ _) (ih _ _ _ _ hrec)
     .simp at h
    .simp at h
   .rename_i heq1 heq2;simp only[dM,da]at heq1 heq2;obtain⟨_,rfl⟩:=heq1;split at h
    .split at h
     .rename_i w2 k hrec;obtain⟨_,rfl⟩:=ad (aa h);exact ih _ _ _ _ hrec
     .simp at h
    .simp at h
   .rename_i heq1 heq2;simp only[dM,da]at heq1 heq2;obtain⟨_,rfl⟩:=heq1;split at h
    .split at h
     .rename_i w2 k hrec;obtain⟨_,rfl⟩:=ad (aa h);exact ih _ _ _ _ hrec
     .simp at h
    .simp at h
   .rename_i heq1 heq2;simp only[dM,da]at heq1 heq2;obtain⟨_,rfl⟩:=heq1;split at h
    .rename_i w2 k hrec;obtain⟨_,rfl⟩:=ad (aa h);exact ih _ _ _ _ hrec
    .simp at h
   .simp at h
theorem DS{H0:bM}{S0 K0:Nat->Prop}{wp wz:World}{Kn0:Nat->Prop}{φ0:Nat->gI}(hI0:Inv S0 K0 wz Kn0 φ0 (aC H0) wp){id len:Nat}
  (hw:(match aC H0 id with|some (.aP _ ao)=>(0==0)&&len==ao.length|some (.nst _ slots)=>(0==0)&&len==slots.length|_=>false)=true):
  ∃aP,pk wp (φ0 id).cY aP/\aP.size=(φ0 id).ext/\(φ0 id).aT+len*(φ0 id).sz<=(φ0 id).ext/\len<=(φ0 id).cap:=by
 split at hw
 .rename_i sz ao ho;obtain⟨_,h0⟩:=hI0.iN _ _ ho;have hl:len=ao.length:=by simpa using hw
  subst hl;cases h0 with|aP hsz hl hS hK hown hext hfit hr hv=>exact⟨_,hown,hext,by rw[hl];exact hfit,hv⟩
 .rename_i sz slots ho;obtain⟨_,h0⟩:=hI0.iN _ _ ho;have hl:len=slots.length:=by simpa using hw
  subst hl;cases h0 with|nst hsz hl hS hK hown hext hfit hr hv=>exact⟨_,hown,hext,by rw[hl,mP];exact hfit,hv⟩
 .cases hw
theorem GD{H0:bM}{S0:Nat->Prop}{wp:World}{Kn0:Nat->Prop}{φ0:Nat->gI}{K0:Nat->Prop}{wz:World}(hI0:Inv S0 K0 wz Kn0 φ0 (aC H0) wp)(hgrow:∀b aP,pk wp b aP->∃arr',pk w b arr'/\arr'.size=aP.size):
  ∀(l:List (C×List Nat×List Nat))(vs:List Value)(outs:List T)(fp:List Nat){Kn:Nat->Prop}{φ:Nat->gI}{hf:Nat->Option Ob}(nxt:Nat)(bu:fA)(m:Nat),
  Jk Kn0 φ0 S0 wp l vs->eL H0 l=true->Oh S w outs vs fp->Inv S K w0 Kn φ hf w->(∀j,nxt<=j->j<m->¬Kn j)->up Kn0 φ0 Kn φ->fp.Nodup->(∀b∈fp,¬S b/\¬K b)->gj w φ hf fp->
  (∀i∈jS l,hf i=none/\Kn0 i)->(jS l).Nodup->eW nxt l outs=some (bu,m)->∃φ',Q3 S K w0 w Kn φ hf fp (jS l) nxt m bu φ':=by
 intro l;induction l with
 |nil=>
  intro vs outs fp Kn φ hf nxt bu m hl hw hr hI hfr hren hn hSK ha hown hon h;cases hl;cases outs with
  |cons t ts=>exact hr.elim
  |nil=>
   obtain⟨rfl,rfl⟩:[]=bu/\nxt=m:=by simpa[eW]using h
   exact⟨φ,aw _,ub _ _,hI.kn fun _ hi=>.inl hi,fun p hp=>by simp at hp,fun i hi=>by simp[jS]at hi,fun i o _ _ hx=>by
    rcases hx with hx|hx
    .simp [jS]at hx
    .omega⟩
 |cons p l ih=>
  obtain⟨c,bG,rd⟩:=p;intro vs outs fp Kn φ hf nxt bu m hl hw hr hI hfr hren hn hSK ha hown hon h;cases hl with
  |@cons _ _ _ _ v vs hc hl=>
  cases outs with
  |nil=>exact hr.elim
  |cons t outs=>
   obtain⟨f1,f2,rfl,hr1,hr2⟩:=hr;rw[cE]at hn;obtain⟨hn1,hn2,hn3⟩:=hn;simp only[au]at hSK;have ha1:gj w φ hf f1:=fun j o hj hown x hx hm=>ha j o hj hown x hx (by simp[hm]);have ha2:gj w φ hf f2:=fun j o hj hown x hx hm=>ha j o hj hown x hx (by simp[hm]);have ho1:∀i∈bG,hf i=none/\Kn0 i:=fun i hi=>hown i (by simp[jS,hi]);have ho2:∀i∈jS l,hf i=none/\Kn0 i:=fun i hi=>hown i (by simp only[jS,bf,au];exact .inr hi);have hoc:jS ((c,bG,rd)::l)=bG++jS l:=rfl;rw[hoc,cE]at hon;obtain⟨hon1,hon2,hon3⟩:=hon;have hw2:eL H0 l=true:=by cases c<;>simp only[eL,ai]at hw<;>first|exact hw|exact hw.2
   have fin:∀(id:Nat)(ob:Ob)(w2:fA)(k:Nat),bG=[id]->(bu,m)=((id,some ob)::w2,k)->eW nxt l outs=some (w2,k)->Inv S K w0 Kn φ (bA [(id,some ob)] hf) w->(∀x∈ip w φ (bA [(id,some ob)] hf) id,x∈f1)->
     ∃φ',Q3 S K w0 w Kn φ hf (f1++f2) (jS ((c,bG,rd)::l)) nxt m bu φ':=by
    intro id ob w2 k hownid hbm hrec hput hblk;subst hownid;obtain⟨rfl,rfl⟩:=ad hbm;obtain⟨hidn,hidk0⟩:=ho1 id (by simp);have hidk:=hren.sub id hidk0;have hφ:=hren.eu id hidk0;have hidlt:¬(nxt<=id/\id<m):=fun h=>hfr id h.1 h.2 hidk
    obtain⟨φ2,hB⟩:=ih vs outs f2 nxt w2 m hl hw2 hr2 hput hfr hren hn2 (fun b hb=>hSK b (.inr hb))
     (fun j o hj hown x hx hm=>by
      have hj':=hj;rw[bZ]at hj';split at hj'
      .rename_i e;subst e;exact hn3 x (hblk x hx) x hm rfl
      .rw [gx rfl (hj.trans hj'.symm)]at hx;exact ha2 j o hj' hown x hx hm)
     (fun i hi=>by obtain⟨h1,h2⟩:=ho2 i hi;refine⟨?_,h2⟩;have hne:¬id=i:=fun e=>hon3 id (by simp) i hi e;rw[bZ,if_neg hne];exact h1) hon2 hrec
    have hkeys:=hB.FZ;have hm2:=hB.le
    have hdis:∀q∈w2,id≠q.1:=fun q hq e=>by
     rcases hkeys q hq with h|h
     .exact hon3 id (by simp) q.1 h e
     .omega
    have heq:bA ((id,some ob)::w2) hf=bA w2 (bA [(id,some ob)] hf):=by rw[<-ew];exact mH (u:=[(id,some ob)]) fun p hp q hq e=>by rw[av.1 hp]at e;exact hdis q hq e
    refine⟨φ2,hB.le,hB.sY,heq▸hB.inv,fun p hp=>?_,fun i hi=>?_,fun i o hio hownio hi=>?_⟩
    .rw [hoc];rcases aQ.1 hp with rfl|hp
     .exact .inl (by simp)
     .rcases hkeys p hp with h|h
      .exact .inl (by simp[h])
      .exact .inr h
    .rw [hoc]at hi;simp only[cz];by_cases e:id=i
     .simp [e]
     .have e':(id==i)=false:=by simpa using e
      simp only[e',cond_false];rcases au.1 hi with hi|hi
      .exact absurd (av.1 hi).symm e
      .exact hB.QF i hi
    .rw [heq]at hio|-;intro x hx;by_cases hrest:i∈jS l\/(nxt<=i/\i<m)
     .exact aI _ (hB.cY i o hio hownio hrest x hx)
     .have hi2:i=id:=by
       rcases hi with hi|hi
       .rw [hoc]at hi;rcases au.1 hi with h|h
        .exact av.1 h
        .exact absurd (.inl h) hrest
       .exact absurd (.inr hi) hrest
      subst hi2;have hwn:cz w2 i=none:=lx fun q hq e=>hdis q hq e.symm
      have hwi:bA w2 (bA [(i,some ob)] hf) i=bA [(i,some ob)] hf i:=by
       conv=>lhs;unfold bA
       rw[hwn];rfl
      rw[gx (hB.sY.eu i hidk) hwi]at hx;exact aG _ (hblk x hx)
   unfold eW at h;split at h
   .simp at*
   .--nothing was owned
    rename_i heq1 heq2;simp only[dM,da]at heq1 heq2;obtain⟨⟨rfl,rfl,rfl⟩,rfl⟩:=heq1;obtain⟨rfl,rfl⟩:=heq2;have hr1:=hr1.resolve_left fun h=>by cases h.1
    have e0:f1=[]:=by cases hr1;rfl
    subst e0;obtain⟨φ',hB⟩:=ih vs outs f2 nxt bu m hl hw2 hr2 hI hfr hren hn2 (fun b hb=>hSK b (.inr hb)) ha2 ho2 hon2 h;exact⟨φ',hB.le,hB.sY,hB.inv,hB.FZ,hB.QF,hB.cY⟩
   .--a box
    rename_i id own' rd' r ts' ts heq1 heq2;simp only[dM,da]at heq1 heq2;obtain⟨⟨rfl,rfl,rfl⟩,rfl⟩:=heq1;obtain⟨rfl,rfl⟩:=heq2;split at h
    .rename_i w2 k hrec;split at h
     .rename_i hcon;obtain⟨rfl,rfl⟩:(id,some (Ob.box (iC nxt ts').1))::(iC nxt ts').2.1++bG.map (fun i=>((i,none):Nat×Option Ob))++w2=bu/\k=m:=by simpa using h
      have hid:id∈bG:=by simpa using hcon
      obtain⟨hidn,hidk0⟩:=ho1 id hid;have hidk:=hren.sub id hidk0;have hφ:=hren.eu id hidk0;obtain⟨hv,_⟩:=hc.OQ;have hr1:=hr1.resolve_left fun h=>by cases h.1
      cases hr1 with
      |@pt _ b aP fps hown0 hlen hfl hrec2=>
      simp only[Value.pointer.injEq,bE,Addr.mk.injEq]at hv;obtain⟨hb,hbase,_⟩:=hv;rw[<-hφ]at hb hbase;have hbase0:(φ id).aT=0:=by omega
      rw[fT]at hn1;have hmk:=Bc _ _ _ _ _ hrec;have hidlt:¬(nxt<=id/\id<k):=fun h=>hfr id h.1 h.2 hidk
      obtain⟨φ1,hL,hcl,hcr⟩:=t4 ts' nxt (fun i=>aP.getD i undef) fps hI (fun j hj hj2=>hfr j hj (by omega)) hfl hrec2 hn1.2 (fun b' hb'=>hSK b' (.inl (aF _ hb')))
       (fun j o hj hown x hx hm=>ha1 j o hj hown x hx (aF _ hm))
      have hm1:=hL.le;have hφ1:φ1 id=φ id:=hL.sY.eu id hidk;have hul:cz (iC nxt ts').2.1 id=none:=lx fun p hp e=>by have:=hL.gG p hp;omega
      have hdead:bA (iC nxt ts').2.1 hf id=none:=by simp only[bA,hul,hidn]
      have hawb:gj w φ1 (bA (iC nxt ts').2.1 hf) [b]:=hL.NC hI (fun j o hj hown x hx hm=>ha1 j o hj hown x hx (by rw[av.1 hm];simp)) fun x hx hx2=>hn1.1 (by rw[<-av.1 hx2];exact hx)
      have hput:=hL.inv.put (i:=id) (.inl hidk) (.box (iC nxt ts').1) (fun _ j o hj hown hne hm=>by rw[hφ1,<-hb]at hm;exact hawb j o hj hown b hm (by simp))
       (.box (by rw[hφ1];exact hbase0) (by rw[hφ1,<-hb];exact(hSK b (.inl (by simp))).1) (by rw[hφ1,<-hb];exact(hSK b (.inl (by simp))).2) (by rw[hφ1,<-hb];exact hown0) (hcl.trans hlen) hcr)
      have hav2:gj w φ1 (bA (iC nxt ts').2.1 hf) f2:=hL.NC hI ha2 fun x hx hx2=>hn3 x (aF _ hx) x hx2 rfl;have hult:∀i,¬(nxt<=i/\i<k)->cz (iC nxt ts').2.1 i=none:=fun i hi=>lx fun p hp e=>by have:=hL.gG p hp;omega
      have hownlt:∀i,Kn0 i->¬(nxt<=i/\i<k):=fun i hi h=>hfr i h.1 h.2 (hren.sub i hi);rw[<-ew]at hput
      obtain⟨φ2,hB⟩:=ih vs outs f2 (iC nxt ts').2.2 w2 k hl hw2 hr2 hput (fun j hj hj2 hk=>by
        rcases hk with hk|hk
        .exact hfr j (by omega) hj2 hk
        .omega) ⟨fun i hi=>.inl (hren.sub i hi),fun i hi=>(hL.sY.eu i (hren.sub i hi)).trans (hren.eu i hi)⟩ hn2 (fun b hb=>hSK b (.inr hb))
       (fun j o hj hown x hx hm=>by
        have hj':=hj;rw[bn,bZ]at hj';split at hj'
        .rename_i e;subst e;rw[ql (fun _ _ e=>by rw[bn,bZ,if_pos rfl]at e;cases e),hφ1,<-hb]at hx;rw[av.1 hx]at hm;exact hn3 b (by simp) b hm rfl
        .rw [gx rfl (hj.trans hj'.symm)]at hx;exact hav2 j o hj' hown x hx hm)
       (fun i hi=>by obtain⟨h1,h2⟩:=ho2 i hi;refine⟨?_,h2⟩;have hne:¬id=i:=fun e=>hon3 id hid i hi e;rw[bn,bZ,if_neg hne];simp only[bA,hult i (hownlt i h2),h1]) hon2 hrec
      have hkeys:=hB.FZ;have hm2:=hB.le
      have hdis:∀j x,cz w2 j=some x->j≠id/\j∉bG/\cz (iC nxt ts').2.1 j=none:=by
       intro j x hx;obtain⟨p,hp,rfl⟩:=sD hx;rcases hkeys p hp with h|h
       .exact ⟨fun e=>hon3 id hid p.1 h e.symm,fun e=>hon3 p.1 e p.1 h rfl,hult _ (hownlt _ (ho2 _ h).2)⟩
       .refine ⟨fun e=>by omega,fun e=>by have:=hownlt _ (ho1 _ e).2;omega,lx fun q hq e=>?_⟩;have:=hL.gG q hq;omega
      have heq:bA ((id,some (Ob.box (iC nxt ts').1))::(iC nxt ts').2.1++bG.map (fun i=>((i,none):Nat×Option Ob))++w2) hf=bA w2 (bA ([(id,some (Ob.box (iC nxt ts').1))]++(iC nxt ts').2.1) hf):=by
       have hno:bA (bG.map (fun i=>((i,none):Nat×Option Ob))) (bA w2 hf)=bA w2 hf:=by
        funext j
        conv=>lhs;unfold bA
        rw[rD];by_cases hjo:j∈bG
        .rw [if_pos hjo];have hwj:cz w2 j=none:=by cases hx:cz w2 j with|none=>rfl|some x=>exact absurd hjo (hdis j x hx).2.1
         simp only[bA,hwj,(ho1 j hjo).1]
        .rw [if_neg hjo];rfl
       rw[ew,ew,hno,<-ew,<-ew];refine mH fun p hp q hq e=>?_;rcases hkeys q hq with h|h
       .rcases aQ.1 hp with rfl|hp
        .exact hon3 id hid q.1 h e
        .have:=hL.gG p hp;have:=hownlt _ (ho2 _ h).2;omega
       .rcases aQ.1 hp with rfl|hp
        .simp only at e;omega
        .have:=hL.gG p hp;omega
      refine⟨φ2,by omega,⟨fun i h=>.inl h,fun i h=>(hB.sY.eu i (.inl h)).trans (hL.sY.eu i h)⟩,?_,fun p hp=>?_,fun i hi=>?_,fun i o hio hownio hi=>?_⟩
      .rw [heq];exact hB.inv.xK fun i=>ss hm1 hm2 i
      .rw [hoc];simp only[bd,aH,aQ,au,c9]at hp;rcases hp with rfl|hp|⟨i,hi,rfl⟩|hp
       .exact .inl (by simp[hid])
       .have:=hL.gG p hp;exact .inr (by omega)
       .exact .inl (by simp[hi])
       .rcases hkeys p hp with h|h
        .exact .inl (by simp[h])
        .exact .inr (by omega)
      .rw [hoc]at hi;simp only[bd,aH,cz,gM,rD];rcases au.1 hi with hi|hi
       .by_cases e:id=i
        .simp [e]
        .have e':(id==i)=false:=by simpa using e
         simp only[e',cond_false,if_pos hi];cases cz (iC nxt ts').2.1 i<;>rfl
       .have hs:=hB.QF i hi;obtain⟨x,hx⟩:=gV.1 hs;obtain⟨h1,h2,h3⟩:=hdis i x hx;have e':(id==i)=false:=by simpa using fun e=>h1 e.symm
        simp only[e',cond_false,h3,if_neg h2,hx,Option.isSome_some]
      .rw [heq]at hio|-;intro x hx;by_cases hrest:i∈jS l\/((iC nxt ts').2.2<=i/\i<k)
       .exact aI _ (hB.cY i o hio hownio hrest x hx)
       .refine aG _ ?_
        have hw2n:cz w2 i=none:=lx fun q hq e=>by
         rcases hkeys q hq with h|h
         .exact hrest (.inl (e▸h))
         .exact hrest (.inr (e▸h))
        have hi2:i∈bG\/(nxt<=i/\i<(iC nxt ts').2.2):=by
         rcases hi with hi|hi
         .rw [hoc]at hi;rcases au.1 hi with h|h
          .exact .inl h
          .exact absurd (.inl h) hrest
         .exact .inr ⟨hi.1,by
           rcases Nat.lt_or_ge i (iC nxt ts').2.2 with h|h
           .exact h
           .exact absurd (.inr ⟨h,hi.2⟩) hrest⟩
        have hkn:pJ Kn nxt (iC nxt ts').2.2 i:=by
         rcases hi2 with h|h
         .exact .inl (hren.sub i (ho1 i h).2)
         .exact .inr h
        have hwi:bA w2 (bA ([(id,some (Ob.box (iC nxt ts').1))]++(iC nxt ts').2.1) hf) i=bA ([(id,some (Ob.box (iC nxt ts').1))]++(iC nxt ts').2.1) hf i:=by
         conv=>lhs;unfold bA
         rw[hw2n];rfl
        rw[gx (hB.sY.eu i hkn) hwi]at hx;by_cases e:id=i
        .subst e;rw[ql (fun _ _ e=>by rw[bn,bZ,if_pos rfl]at e;cases e),hφ1,<-hb]at hx;rw[av.1 hx];simp
        .rcases hi2 with h|h
         .exfalso
          have h1:bA w2 (bA ([(id,some (Ob.box (iC nxt ts').1))]++(iC nxt ts').2.1) hf) i=hf i:=by
           simp only[bA,hw2n,bn,cz];have e':(id==i)=false:=by simpa using e
           simp only[e',cond_false,hult i (hownlt i (ho1 i h).2)]
          rw[h1,(ho1 i h).1]at hio;simp at hio
         .have e':(id==i)=false:=by simpa using e
          cases hfu:cz (iC nxt ts').2.1 i with
          |none=>
           exfalso;have h1:bA w2 (bA ([(id,some (Ob.box (iC nxt ts').1))]++(iC nxt ts').2.1) hf) i=hf i:=by simp only[bA,hw2n,bn,cz,e',cond_false,hfu]
           rw[h1]at hio;exact hfr i h.1 (by omega) (hI.iN i o hio).1
          |some x'=>
           obtain⟨p,hp,rfl⟩:=sD hfu;have hwp:bA ([(id,some (Ob.box (iC nxt ts').1))]++(iC nxt ts').2.1) hf p.1=bA (iC nxt ts').2.1 hf p.1:=by rw[bn,bZ,if_neg e]
           rw[gx rfl hwp]at hx;exact aF _ (hL.cY p hp x hx)
     .simp at h
    .simp at h
   .--an array
    rename_i sz id len own' rd' r sz' ao ts heq1 heq2;simp only[dM,da]at heq1 heq2;obtain⟨⟨rfl,rfl,rfl⟩,rfl⟩:=heq1;obtain⟨rfl,rfl⟩:=heq2;split at h
    .rename_i hcond;obtain⟨hrl,hszz,hownid⟩:=hcond;subst hownid;split at h
     .rename_i w2 k hrec;obtain⟨rfl,rfl⟩:(id,some (Ob.aP sz ao))::w2=bu/\k=m:=by simpa using h
      obtain⟨hidn,hidk0⟩:=ho1 id (by simp);have hφ:=hren.eu id hidk0;obtain⟨cap,addr,hv,hszl,hk0,hcap,haddr,hextc,hcl⟩:=hc.kg;have hr1:=hr1.resolve_left fun h=>by cases h.1
      cases hr1 with
      |@sl _ _ b off len1 cap1 aP hsz0 hown0 hlen1 hcap1 hext1 hrr=>
      simp only[Value.slice.injEq,bE,Addr.mk.injEq]at hv;obtain⟨⟨hb,hoff,_⟩,hlen2,hcap2⟩:=hv;subst hszz;simp only[eL,ai]at hw;obtain⟨arr0,hown1,hext0,hfit0,hv0⟩:=DS hI0 hw.1;obtain⟨arr1,hown2,hsize2⟩:=hgrow _ _ hown1;rw[hb]at hown0;obtain rfl:=hown0.Ju hown2;have hb1:=hSK (φ0 id).cY (.inl (by simp[hb]))
      refine fin id (.aP sz' ao) w2 k rfl rfl hrec (hI.put (i:=id) (hren.sub id hidk0) (.aP sz' ao) (fun _ j o hj hown hne hm=>by rw[hφ,<-hb]at hm;exact ha1 j o hj hown b hm (by simp))
       (.aP hsz0 (by rw[hφ];exact hszl) (by rw[hφ];exact hb1.1) (by rw[hφ];exact hb1.2) (by rw[hφ];exact hown2) (by rw[hφ,<-hext0];exact hsize2)
        (by rw[hφ,hrl,<-hszl];exact hfit0) (by
         rw[hφ];cases ao with
         |nil=>exact⟨fun i r hi=>by simp at hi,fun i r hi=>by simp at hi⟩
         |cons q ao=>
          have:off=(φ0 id).aT:=by rw[hoff,haddr (by simp only[List.length_cons]at hrl;omega)];simp
          rw[<-this];exact hrr) (by rw[hφ,hrl];exact hv0))) fun x hx=>?_
      rw[ql (fun _ _ e=>by rw[bZ,if_pos rfl]at e;cases e),hφ,<-hb]at hx;exact hx
     .simp at h
    .simp at h
   .--a cU of ao
    rename_i sz id len own' rd' r szi ao ts heq1 heq2;simp only[dM,da]at heq1 heq2;obtain⟨⟨rfl,rfl,rfl⟩,rfl⟩:=heq1;obtain⟨rfl,rfl⟩:=heq2;split at h
    .rename_i hcond;obtain⟨hrl,hszz,hownid⟩:=hcond;subst hownid;split at h
     .rename_i w2 k hrec;obtain⟨rfl,rfl⟩:(id,some (Ob.nst szi (ao.map mY)))::w2=bu/\k=m:=by simpa using h
      obtain⟨hidn,hidk0⟩:=ho1 id (by simp);have hφ:=hren.eu id hidk0;obtain⟨cap,addr,hv,hszl,hk0,hcap,haddr,hextc,hcl⟩:=hc.kg;have hr1:=hr1.resolve_left fun h=>by cases h.1
      cases hr1 with
      |@zZ _ _ b off cap1 aP fps hsz0 hown0 hcap1 hext1 hfl hrr=>
      simp only[Value.slice.injEq,bE,Addr.mk.injEq]at hv;obtain⟨⟨hb,hoff,_⟩,hlen2,hcap2⟩:=hv;subst hszz;simp only[eL,ai]at hw;obtain⟨arr0,hown1,hext0,hfit0,hv0⟩:=DS hI0 hw.1;obtain⟨arr1,hown2,hsize2⟩:=hgrow _ _ hown1;rw[hb]at hown0;obtain rfl:=hown0.Ju hown2;rw[fT]at hn1;have hb1:=hSK b (.inl (by simp));have hbase:∀i,i<ao.length->off+i=(φ0 id).aT+i:=fun i hi=>by rw[hoff,haddr (by omega)];simp
      have hget:∀i,w.cell? ⟨(φ id).cY,i,none⟩=aP[i]?:=by rw[hφ];exact hown2.cell
      have hpat:∀k x,sQ w (φ id) (ao.map mY) k x->∃fp,fps[k]?=some fp/\fp=[x]:=by rintro k x ⟨rs,v,h1,h2,h3⟩;rw[aM]at h1;obtain⟨r,hr1,hr2⟩:=aK.1 h1;have hlt:=(aq.1 hr1).1;have hf:fps[k]?=some fps[k]:=aE (by omega);obtain⟨v',q1,q2⟩:=hrr k r fps[k] hr1 hf;rw[hget,hφ,<-hbase k hlt,q1]at h2;obtain rfl:=aa h2;cases r with|none=>cases hr2|some rows'=>obtain⟨b',q3,q4⟩:=q2;rw[q4.cY]at h3;obtain rfl:=aa h3;exact⟨_,hf,q3⟩
      have hmem:∀k x,sQ w (φ id) (ao.map mY) k x->x∈fps.flatten:=fun k x hp=>by obtain⟨fp,h1,rfl⟩:=hpat k x hp;exact dL.2 ⟨[x],bk h1,by simp⟩
      have hbl:(φ id).cY=b:=by rw[hφ,<-hb]
      rw[hszl,mP]at hfit0
      refine fin id (.nst szi (ao.map mY)) w2 k rfl rfl hrec (hI.put (i:=id) (hren.sub id hidk0) (.nst szi (ao.map mY)) (fun _ j o hj hown hne hm=>by rw[hbl]at hm;exact ha1 j o hj hown b hm (by simp))
       (.nst hsz0 (by rw[hφ];exact hszl) (by rw[hbl];exact hb1.1) (by rw[hbl];exact hb1.2) (by rw[hφ];exact hown2) (by rw[hφ,<-hext0];exact hsize2)
        (by rw[hφ,aV,hrl];exact hfit0) (fun i s hi=>by
         rw[aM]at hi;obtain⟨r,hr1,rfl⟩:=aK.1 hi;have hlt:=(aq.1 hr1).1;have hf:fps[i]?=some fps[i]:=aE (by omega);obtain⟨v,q1,q2⟩:=hrr i r fps[i] hr1 hf;refine⟨v,by rw[hφ,<-hbase i hlt];exact q1,?_⟩;cases r with
         |none=>obtain⟨rfl,_⟩:=q2;exact .nil
         |some rows'=>obtain⟨b',q3,q4⟩:=q2;have hm:b'∈fps.flatten:=dL.2 ⟨fps[i],List.getElem_mem _,by rw[q3];simp⟩;exact .bG q4 (hSK b' (.inl (aF _ hm))).1 (hSK b' (.inl (aF _ hm))).2) (by rw[hφ,aV,hrl];exact hv0))
       fun sz' sl' k x eo hp=>by cases eo;have hm:=hmem k x hp;refine⟨fun e=>hn1.1 (by rw[<-hbl,<-e];exact hm),fun j o hj hown hne hx=>ha1 j o hj hown x hx (aF _ hm),fun k' hp'=>?_⟩;obtain⟨fp,h1,rfl⟩:=hpat k x hp;obtain⟨fp',h2,rfl⟩:=hpat k' x hp';exact D8 hn1.2 h2 h1) fun x hx=>?_
      rcases dR.1 hx with rfl|⟨sz',sl',k',h1,h2⟩
      .rw [hbl];simp
      .rw [bZ,if_pos rfl]at h1;cases h1;exact aF _ (hmem k' x h2)
     .simp at h
    .simp at h
   .--it is wR
    rename_i heq1 heq2;simp only[dM,da]at heq1 heq2;obtain⟨⟨rfl,rfl,rfl⟩,rfl⟩:=heq1;obtain⟨rfl,rfl⟩:=heq2;split at h
    .rename_i w2 k hrec;obtain⟨rfl,rfl⟩:bG.map (fun i=>((i,none):Nat×Option Ob))++w2=bu/\k=m:=by simpa using h
     have e0:f1=[]:=by
      rcases hr1 with h|h
      .exact h.2
      .cases h
     subst e0;obtain⟨φ',hB⟩:=ih vs outs f2 nxt w2 k hl hw2 hr2 hI hfr hren hn2 (fun b hb=>hSK b (.inr hb)) ha2 ho2 hon2 hrec;have hmk:=hB.le;have hkeys:=hB.FZ
     have hwn:∀j∈bG,cz w2 j=none:=fun j hj=>by
      cases hx:cz w2 j with
      |none=>rfl
      |some x=>
       obtain⟨p,hp,rfl⟩:=sD hx;rcases hkeys p hp with h|h
       .exact absurd rfl (hon3 p.1 hj p.1 h)
       .exact absurd (hren.sub _ (ho1 _ hj).2) (hfr p.1 h.1 h.2)
     have heq:bA (bG.map (fun i=>((i,none):Nat×Option Ob))++w2) hf=bA w2 hf:=by
      rw[ew];funext j
      conv=>lhs;unfold bA
      rw[rD];by_cases hjo:j∈bG
      .rw [if_pos hjo];simp only[bA,hwn j hjo,(ho1 j hjo).1]
      .rw [if_neg hjo];rfl
     refine⟨φ',hB.le,hB.sY,heq▸hB.inv,fun p hp=>?_,fun i hi=>?_,fun i o hio hownio hi=>?_⟩
     .rw [hoc];rcases au.1 hp with hp|hp
      .obtain ⟨j,hj,rfl⟩:=c9.1 hp;exact .inl (aG _ hj)
      .rcases hkeys p hp with h|h
       .exact .inl (aI _ h)
       .exact .inr h
     .rw [hoc]at hi;rw[gM,rD];by_cases hjo:i∈bG
      .rw [if_pos hjo];rfl
      .rw [if_neg hjo];exact hB.QF i ((au.1 hi).resolve_left hjo)
     .rw [heq]at hio|-;refine hB.cY i o hio hownio (hi.imp (fun h=>?_) id);rw[hoc]at h;refine(au.1 h).resolve_left fun hjo=>?_;simp only[bA,hwn i hjo,(ho1 i hjo).1]at hio;cases hio
    .simp at h
   .simp at h
end
section
variable{P:Program}{S K:Nat->Prop}{w0 w:World}{Kn:Nat->Prop}{φ:Nat->gI}{hf:Nat->Option Ob}{H:bM}{e:jG}{ρ:Operand->Value}{o:Oper}{call:Call}{a:Act}
 {nxt n':Nat} {v:TV} {u:fA} {aB:List Nat}
def NO(P:Program)(o:Oper)(a:Act)(S K:Nat->Prop)(w0 w:World)(Kn:Nat->Prop)(φ:Nat->gI)(hf:Nat->Option Ob)(nxt n':Nat)(v:TV)(u:fA):Prop:=∀(next:Act->World->Prop)(Q:Exit->Act->World->Prop),(∀val w',lE S K w0 w Kn φ hf nxt n' v u val w'->next (a.put o.dst val) w')->o.wp P a w next Q
theorem dK.lw(h:dK P o a.eval S K w0 w Kn φ hf nxt n' v u):NO P o a S K w0 w Kn φ hf nxt n' v u:=by
 intro next Q hn
 obtain⟨nx,val,w',hr,hx,hd⟩:=h;unfold Oper.wp;rw[hr];rcases hx with rfl|⟨rfl,rfl⟩
 .exact hn _ _ hd
 .exact hn _ _ hd
theorem yM{tvs:List TV}{vs:List Value}(hl:tvs.length=vs.length)(h:∀(i:Nat)(t:TV)(v:Value),tvs[i]?=some t->vs[i]?=some v->ge S w Kn φ t v):ge S w Kn φ (ut tvs) (yL vs):=by
 have EP:ge S w Kn φ (.iP tvs) (.tuple vs.toArray):=by
  refine .iP (by simpa using hl) fun i x hi=>?_;have hlt:i<vs.length:=by rw[<-hl];exact(aq.1 hi).1
  have:=h i x vs[i] hi (aE hlt);simpa[hlt]using this
 match tvs,vs,hl,h,EP with|[],[],_,_,EP=>exact EP|[t],[v],_,h,_=>exact h 0 t v rfl rfl|_::_::_,_::_::_,_,_,EP=>exact EP
theorem RD.Ha{S':Nat->Prop}{w':World}{v x:Value}(h:RD S w (.lit v) x):RD S' w' (.lit v) x:=by cases h with|lit h=>exact .lit h
theorem EH.fk{S':Nat->Prop}:∀{rs:List R}{vs:List Value}{fp:List Nat},rs.all zg=true->EH S w rs vs fp->EH S' w rs vs []:=by
 intro rs;induction rs with
 |nil=>intro vs fp _ h;cases vs with|nil=>rfl|cons v vs=>exact h.elim
 |cons r rs ih=>
  intro vs fp hl h;cases vs with
  |nil=>exact h.elim
  |cons v vs=>
   simp only[List.all_cons,ai]at hl;obtain⟨f1,f2,_,h1,h2⟩:=h;refine⟨[],[],rfl,?_,ih hl.2 h2⟩;have hl1:=hl.1;cases r with
   |c t=>
    cases t with
    |d x=>
     cases x with
     |lit y=>have h1:RT S w (.d (.lit y)) v f1:=h1;cases h1 with|d hd=>exact RT.d hd.Ha
     |_=>simp[zg]at hl1
    |_=>simp[zg]at hl1
   |agg ts=>
    obtain⟨aP,fps,rfl,q1,q2,q3,q4⟩:=h1;refine⟨aP,fps.map fun _=>[],rfl,q1,by simpa using q2,by simp,fun i t f hi hfi=>?_⟩;simp only[zg,bq]at hl1;have ht:=hl1 t (bk hi);obtain rfl:f=[]:=by rw[aM]at hfi;obtain⟨_,_,rfl⟩:=aK.1 hfi;rfl
    have hlt:i<fps.length:=by rw[q2];exact(aq.1 hi).1
    have:=q4 i t fps[i] hi (aE hlt);generalize fps[i]=g at this;cases t with
    |d x=>
     cases x with
     |lit y=>cases this with|d hd=>exact RT.d hd.Ha
     |_=>simp at ht
    |_=>simp at ht
theorem Inv.after{S':Nat->Prop}{w':World}{fp:List Nat}(hI:Inv S K w0 Kn φ hf w)(hs:gU S w S' w')(hsub:∀b,S' b->S b\/b∈fp\/w.heap.size<=b)(hlt:∀b,S' b->b<w'.heap.size)
  (hfp:∀b∈fp,¬K b) (haw:gj w φ hf fp) (hfrm:Hw (fun b=>b<w.heap.size/\b∉fp) w w'):Inv S' K w0 Kn φ hf w':=by
 refine hI.ja hs (up.refl _ _) hlt (fun b hb hK=>?_) ⟨hI.nD.FY,fun b hb=>?_,fI hI.nD.sx hfrm.sx,fun a ha=>(hfrm.A5 a (dg ha hI.nD.sx)).trans (hI.nD.A5 a ha),fun b aP ho=>?_,hI.nD.io.trans hfrm.io⟩ (fun id o ho=>.inl ⟨ho,fun hown=>?_⟩) hI.jE ?_
 .have h1:b<w.heap.size:=dg (hI.nD.FY b hK) hI.nD.sx;rcases hsub b hb with h|h|h
  .exact hI.sk b h hK
  .exact hfp b h hK
  .omega
 .have h1:b<w.heap.size:=dg (hI.nD.FY b hb) hI.nD.sx;exact(hfrm.nC b ⟨h1,fun h=>hfp b h hb⟩).trans (hI.nD.nC b hb)
 .obtain ⟨a1,h1,h2⟩:=hI.nD.bG b aP ho;obtain⟨a2,h3,h4⟩:=hfrm.bG b a1 h1;exact⟨a2,h3,h4.trans h2⟩
 .obtain ⟨h1,h2,h3⟩:=(hI.iN id o ho).2.bG hown;have h4:=haw id o ho hown _ (kR id);refine⟨hfrm.nC _ ⟨h3,h4⟩,fun h=>?_⟩;rcases hsub _ h with h|h|h
  .exact h1 h
  .exact h4 h
  .omega
 .intro id sz sl ho;have h4:=haw id _ ho rfl
  have key:∀x∈ip w φ hf id,w'.heap[x]?=w.heap[x]?/\¬S' x:=fun x hx=>by
   obtain⟨h1,_,h3⟩:=oZ hI ho rfl hx;refine⟨hfrm.nC _ ⟨h3,h4 x hx⟩,fun h=>?_⟩;rcases hsub _ h with h|h|h
   .exact h1 h
   .exact h4 x hx h
   .omega
  refine⟨ho,(key _ (kR id)).1,fun k x hp=>?_⟩;obtain⟨q1,q2⟩:=key x (dR.2 (.inr ⟨sz,sl,k,ho,hp⟩));exact⟨q1,q2,(hI.xq id sz sl k x ho hp).1⟩
theorem I9{as:List A}{aB:List Nat}{lent:List (C×List Nat×List Nat)}{vs:List Value}{rs:List R}{outs:List T}{ro:Bool}{val:Value}{w':World}{rd:List Nat}
  (hI:Inv S K w0 Kn φ (aC H) w) (hfr:∀j,nxt<=j->j<n'->¬Kn j)
  (hargs:L6 (SB S w φ (aC H) aB) w as vs ((lent.flatMap (·.2.1)).flatMap (ip w φ (aC H)))) (hown:∀i∈lent.flatMap (·.2.1),∃o,aC H i=some o/\cR o=true) (hlent:Jk Kn φ S w lent (oQ as vs))
  (hwhole:eL H lent=true) (hnd:(lent.flatMap (·.2.1)).Nodup)
  (hleft:Left (SB S w φ (aC H) aB) w ((lent.flatMap (·.2.1)).flatMap (ip w φ (aC H))) rs outs (oQ as vs) val w')
  (h:(if ro then
      if rs.all zg/\lent.isEmpty/\outs.isEmpty then some (ut (ik nxt rs).1,(ik nxt rs).2.1,aB,(ik nxt rs).2.2)else none
     else
      match dZ H aB aB with
      |none=>none
      |some fu=>
       match eW nxt lent outs with
       |none=>none
       |some (bu,m)=>some (ut (ik m rs).1,(ik m rs).2.1++bu++fu,aB++lent.flatMap (·.2.2),(ik m rs).2.2))=some (v,u,rd,n')):
  lE S K w0 w Kn φ (aC H) nxt n' v u val w':=by
 obtain⟨S',k8,fp1,fp2,rfl,hs,hsub,hlt,hrr,hrt,hnd2,hb,hfrm⟩:=hleft;split at h
 .--nothing is DX
  split at h
  .rename_i hcond;obtain⟨hl,hle,hoe⟩:=hcond;have hle':lent=[]:=by simpa using hle
   subst hle';obtain⟨rfl,rfl,_,rfl⟩:ut (ik nxt rs).1=v/\(ik nxt rs).2.1=u/\aB=rd/\(ik nxt rs).2.2=n':=by simpa using h
   have hI':Inv S K w0 Kn φ (aC H) w':=hI.after (fp:=[]) ⟨fun _ h=>h,fun b hb=>hs.eu b (.inl hb)⟩ (fun b hb=>.inl hb) (fun b hb=>dg (hI.vn b hb) hfrm.sx) (fun b hb=>by simp at hb)
    (fun j o _ _ x _ h=>by simp at h) hfrm
   obtain⟨φ',hL,hlen,hr⟩:=yl rs nxt k8 [] hI' hfr (hrr.fk hl) List.nodup_nil (fun b hb=>by simp at hb) (fun j o _ _ x _ h=>by simp at h);exact⟨hL.le,S,φ',⟨fun _ h=>h,fun b hb=>hs.eu b (.inl hb)⟩,hL.sY,yM hlen hr,hL.inv⟩
  .simp at h
 .split at h
  .simp at h
  .rename_i fu hfz;split at h
   .simp at h
   .rename_i bu m hbk;obtain⟨rfl,rfl,_,rfl⟩:ut (ik m rs).1=v/\(ik m rs).2.1++bu++fu=u/\aB++lent.flatMap (·.2.2)=rd/\(ik m rs).2.2=n':=by simpa using h
    have hI1:=hI.Gb hfz;have hmn:=GL rs m;have hnm:=Bc _ _ _ _ _ hbk
    -- what was lent is cF of the heap
    let kills:fA:=(jS lent).map fun i=>(i,none);have hkn:∀j,cz kills j=if j∈jS lent then some none else none:=rD (jS lent)
    have hf2:∀id o,bA kills (bA fu (aC H)) id=some o->id∉jS lent/\bA fu (aC H) id=some o:=by
     intro id o ho;have:bA kills (bA fu (aC H)) id=(match cz kills id with|some o=>o|none=>bA fu (aC H) id):=rfl;rw[this,hkn]at ho;by_cases hm:id∈jS lent
     .rw [if_pos hm]at ho;simp at ho
     .rw [if_neg hm]at ho;exact⟨hm,ho⟩
    have hIk:Inv (SB S w φ (aC H) aB) K w0 Kn φ (bA kills (bA fu (aC H))) w:=hI1.mg fun id o ho=>(hf2 id o ho).2
    -- the frozen part agrees with the heap eX, where a thing is owned
    have hold:∀id o,bA fu (aC H) id=some o->cR o=true->aC H id=some o:=by
     intro id o ho hown;by_cases hm:id∈aB
     .obtain ⟨o',ho',hfn⟩:=(ly aB fu hfz id).1 hm;simp only[bA,hfn]at ho;obtain rfl:=aa ho;have:=(A6 hI hm ho').1;rw[this]at hown;simp at hown
     .simpa only[bA,(ly aB fu hfz id).2 hm]using ho
    have hbk2:∀j o,bA kills (bA fu (aC H)) j=some o->cR o=true->aC H j=some o/\ip w φ (bA kills (bA fu (aC H))) j=ip w φ (aC H) j:=fun j o hj hjo=>by have h3:=hold j o (hf2 j o hj).2 hjo;exact⟨h3,gx rfl (hj.trans h3.symm)⟩
    have haw:gj w φ (bA kills (bA fu (aC H))) ((lent.flatMap (·.2.1)).flatMap (ip w φ (aC H))):=by intro j o hj hjo x hx hm;obtain⟨h1,h2⟩:=hf2 j o hj;obtain⟨i,hi,hie⟩:=dn.1 hm;obtain⟨oi,hoi,hoio⟩:=hown i hi;obtain⟨h3,h4⟩:=hbk2 j o hj hjo;rw[h4]at hx;exact oh hI hoi h3 hoio hjo (fun e=>h1 (e▸hi)) hie hx
    have hfpK:∀b∈((lent.flatMap (·.2.1)).flatMap (ip w φ (aC H))),¬K b/\b<w.heap.size:=by intro b hbm;obtain⟨i,hi,hie⟩:=dn.1 hbm;obtain⟨oi,hoi,hoio⟩:=hown i hi;exact(oZ hI hoi hoio hie).2
    have hI2:Inv S' K w0 Kn φ (bA kills (bA fu (aC H))) w':=hIk.after hs hsub hlt (fun b hb=>(hfpK b hb).1) haw hfrm
    have hK12:∀b∈fp1++fp2,¬S' b/\¬K b:=fun b hbm=>by
     obtain⟨h1,h2⟩:=hb b hbm;refine⟨h1,fun hk=>?_⟩;rcases h2 with h2|h2
     .exact (hfpK b h2).1 hk
     .have:=hI.nD.FY b hk;have:=hI.nD.sx;omega
    have haw12:gj w' φ (bA kills (bA fu (aC H))) (fp1++fp2):=fun j o hj hjo x hx hm=>by
     rw[Bu (hfrm.nC _ ⟨((hIk.iN j o hj).2.bG hjo).2.2,haw j o hj hjo _ (kR j)⟩)]at hx;rcases(hb _ hm).2 with h2|h2
     .exact haw j o hj hjo x hx h2
     .have:=(oZ hIk hj hjo hx).2.2;omega
    rw[cE]at hnd2;obtain⟨hn1,hn2,hn3⟩:=hnd2;simp only[au]at hK12
    obtain⟨φ1,hB⟩:=GD hI hfrm.bG lent (oQ as vs) outs fp2 nxt bu m hlent hwhole hrt hI2 (fun j h1 h2=>hfr j h1 (by omega)) (up.refl _ _) hn2 (fun b hb=>hK12 b (.inr hb))
     (fun j o hj hjo x hx hm=>haw12 j o hj hjo x hx (by simp[hm]))
     (fun i hi=>by obtain⟨oi,hoi,_⟩:=hown i hi;refine⟨?_,(hI.iN i oi hoi).1⟩;show(match cz kills i with|some o=>o|none=>bA fu (aC H) i)=none;rw[hkn,if_pos hi]) hnd hbk
    have hkk:bA bu (bA kills (bA fu (aC H)))=bA bu (bA fu (aC H)):=by
     funext j;by_cases hm:j∈jS lent
     .obtain ⟨x,hx⟩:=gV.1 (hB.QF j hm);simp only[bA,hx]
     .have h1:bA kills (bA fu (aC H)) j=bA fu (aC H) j:=by show(match cz kills j with|some o=>o|none=>bA fu (aC H) j)=_;rw[hkn,if_neg hm]
      have h2:∀g:Nat->Option Ob,bA bu g j=(match cz bu j with|some o=>o|none=>g j):=fun _=>rfl;rw[h2,h2,h1]
    have hIB:=hB.inv;rw[hkk]at hIB
    have haw1:gj w' φ1 (bA bu (bA fu (aC H))) fp1:=by
     intro j o hj hjo x hx hm;by_cases hk:j∈jS lent\/(nxt<=j/\j<m)
     .have:=hB.cY j o (by rw[hkk];exact hj) hjo hk x (by rw[hkk];exact hx);exact hn3 _ hm _ this rfl
     .have hfn:cz bu j=none:=lx fun p hp e=>by
       rcases hB.FZ p hp with h|h
       .exact hk (.inl (e▸h))
       .exact hk (.inr (e▸h))
      have hj2:bA kills (bA fu (aC H)) j=some o:=by rw[<-hkk]at hj;simpa only[bA,hfn]using hj
      have hknj:=(hI2.iN j o hj2).1;rw[gx (hB.sY.eu j hknj) (hj.trans hj2.symm)]at hx;exact haw12 j o hj2 hjo x hx (by simp[hm])
    obtain⟨φ2,hL,hlen,hr⟩:=yl rs m k8 fp1 hIB (fun j h1 h2 hk=>by
      rcases hk with hk|hk
      .exact hfr j (by omega) h2 hk
      .omega) hrr hn1 (fun b hb=>hK12 b (.inl hb)) haw1
    refine⟨by omega,S',φ2,(SB.uR aB).trans hs,⟨fun i h=>.inl h,fun i h=>(hL.sY.eu i (.inl h)).trans (hB.sY.eu i h)⟩,?_,?_⟩
    .exact (yM hlen hr).kn fun i=>(ss hnm hmn i).1
    .rw [ew,ew];exact hL.inv.xK fun i=>ss hnm hmn i
theorem AB:∀n,(∀c x aB,dW H n c=some (x,aB)->∀i∈aB,∃o,aC H i=some o)/\(∀cs xs aB,fU H n cs=some (xs,aB)->∀i∈aB,∃o,aC H i=some o):=by
 have leaf:∀n c x aB,(match c with|.op _ _|.po _ _=>False|_=>True)->dW H n c=some (x,aB)->∀i∈aB,∃o,aC H i=some o:=by
  intro n c x aB hl h i hi;cases c with
  |d y=>simp only[dW,bE,da]at h;obtain⟨_,rfl⟩:=h;simp at hi
  |fh sz id off len=>
   simp only[dW]at h;split at h
   all_goals first
    |(split at h
      .obtain ⟨_,rfl⟩:=ad (aa h);obtain rfl:=av.1 hi;exact⟨_,by assumption⟩
      .simp at h)
    |(split at h
      .split at h
       .obtain ⟨_,rfl⟩:=ad (aa h);obtain rfl:=av.1 hi;exact⟨_,by assumption⟩
       .simp at h
      .simp at h)
    |simp at h
  |ep id cU off=>
   simp only[dW]at h;split at h
   all_goals first
    |(split at h
      .split at h
       .obtain ⟨_,rfl⟩:=ad (aa h);obtain rfl:=av.1 hi;exact⟨_,by assumption⟩
       .simp at h
      .simp at h)
    |simp at h
  |op id off=>exact hl.elim
  |po f caps=>exact hl.elim
  |om id=>cases n<;>simp[dW]at h
 intro n;induction n with
 |zero=>
  refine⟨fun c x aB h=>?_,fun cs xs aB h=>?_⟩
  .cases c with|op id off=>simp[dW]at h|po f caps=>simp[dW]at h|_=>exact leaf 0 _ x aB trivial h
  .cases cs with
   |nil=>
    obtain⟨_,rfl⟩:[]=xs/\[]=aB:=by simpa[fU]using h
    intro i hi;simp at hi
   |cons c cs=>simp[fU]at h
 |succ n ih=>
  refine⟨fun c x aB h=>?_,fun cs xs aB h=>?_⟩
  .cases c with
   |op id off=>
    simp only[dW]at h;split at h
    .split at h
     .obtain ⟨_,rfl⟩:=ad (aa h);intro i hi;obtain rfl:=av.1 hi;exact⟨_,by assumption⟩
     .simp at h
    .split at h
     .rename_i hv;split at h
      .obtain ⟨_,rfl⟩:=ad (aa h);intro i hi;rcases aQ.1 hi with rfl|hi
       .exact ⟨_,by assumption⟩
       .exact ih.2 _ _ _ hv i hi
      .simp at h
     .simp at h
    .simp at h
   |po f caps=>
    simp only[dW]at h;split at h
    .rename_i hv;obtain⟨_,rfl⟩:=ad (aa h);exact ih.2 _ _ _ hv
    .simp at h
   |_=>exact leaf _ _ x aB trivial h
  .cases cs with
   |nil=>
    obtain⟨_,rfl⟩:[]=xs/\[]=aB:=by simpa[fU]using h
    intro i hi;simp at hi
   |cons c cs=>
    simp only[fU]at h;split at h
    .rename_i h1 h2;obtain⟨_,rfl⟩:=ad (aa h);intro i hi;rcases au.1 hi with hi|hi
     .exact ih.1 _ _ _ h1 i hi
     .exact ih.2 _ _ _ h2 i hi
    .simp at h
theorem CK:∀cs xs aB,dQ H cs=some (xs,aB)->∀i∈aB,∃o,aC H i=some o:=by
 intro cs;induction cs with
 |nil=>
  intro xs aB h i hi;obtain⟨_,rfl⟩:[]=xs/\[]=aB:=by simpa[dQ]using h
  simp at hi
 |cons c cs ih=>
  intro xs aB h i hi;simp only[dQ]at h;split at h
  .rename_i h1 h2;obtain⟨_,rfl⟩:=ad (aa h);rcases au.1 hi with hi|hi
   .exact (AB 300).1 _ _ _ h1 i hi
   .exact ih _ _ h2 i hi
  .simp at h
theorem By:∀(tvs:List TV)(ms:List Bool)(as:List A)(aB:List Nat)(lent:List (C×List Nat×List Nat)),gu H tvs ms=some (as,aB,lent)->∀i∈aB,∃o,aC H i=some o:=by
 intro tvs;induction tvs with
 |nil=>
  intro ms as aB lent h i hi;obtain⟨_,rfl,_⟩:[]=as/\[]=aB/\[]=lent:=by simpa[gu]using h
  simp at hi
 |cons t tvs ih=>
  intro ms as aB lent h i hi;simp only[gu]at h;split at h
  .simp at h
  .rename_i hrec;split at h
   .split at h
    .split at h
     .obtain ⟨_,rfl,_⟩:=(by simpa using h:_/\_/\_)
      exact ih _ _ _ _ hrec i hi
     .simp at h
    .simp at h
   .split at h
    .split at h
     .rename_i hv;obtain⟨_,rfl,_⟩:=(by simpa using h:_/\_/\_)
      rcases au.1 hi with hi|hi
      .exact (AB 300).1 _ _ _ hv i hi
      .exact ih _ _ _ _ hrec i hi
     .simp at h
    .split at h
     .rename_i hv;obtain⟨_,rfl,_⟩:=(by simpa using h:_/\_/\_)
      rcases au.1 hi with hi|hi
      .exact CK _ _ _ hv i hi
      .exact ih _ _ _ _ hrec i hi
     .simp at h
    .simp at h
theorem RO.PL{l:gI}{o:Ob}(h:RO S K w Kn φ l o)(hs:∀b,S b->b<w.heap.size):l.cY<w.heap.size:=by cases h with|aP hsz hl hS hK hown=>exact hown.lt|box hb hS hK hown=>exact hown.lt|map hS hK hmp=>exact(Array.getElem?_eq_some_iff.1 hmp).1|cap hsz hl hS hK hown=>exact hown.lt|nst hsz hl hS hK hown=>exact hown.lt|qc hsz hl hS=>exact hs _ hS|oV hb hS=>exact hs _ hS
theorem RO.TC{l:gI}{o:Ob}(h:RO S K w Kn φ l o)(hs:cR o=false):S l.cY:=by cases h with|qc hsz hl hS=>exact hS|oV hb hS=>exact hS|_=>simp[cR]at hs
theorem G1{c:Go.Call}{fop:Operand}{ro:Bool}{j7:List Bool}(ho:o.op=.call c)(hcal:c.callee=.value fop)(hok:nz P call)(hI:Inv S K w0 Kn φ (aC H) w)
  (hfr:∀j,nxt<=j->j<n'->¬Kn j) (hρ:∀x tv,kP e x=some tv->ge S w Kn φ tv (a.eval x))
  (h:cL call (.call ro j7) ((fop::c.args.toList).map (kP e)) H nxt=some (v,u,aB,n')):NO P o a S K w0 w Kn φ (aC H) nxt n' v u:=by
 rw[aD]at h;change vd call ro j7 (kP e fop) (c.args.toList.map (kP e)) H nxt=_ at h;unfold vd at h;split at h
 .rename_i f caps vs hf hvs;split at h
  .simp at h
  .rename_i as ids1 lent hargs;split at h
   .rename_i hcond;obtain⟨hwhole,hnd,hapart⟩:=hcond;split at h
    .simp at h
    .rename_i rs outs hcall
     -- the callee
     have hfv:∃cvs:Array Value,a.eval fop=.func (.func f) #[] cvs/\caps.length=cvs.size/\∀(i:Nat)(x:C),caps[i]?=some x->RC S w Kn φ x (cvs.getD i undef):=by
      split at hf
      .rename_i g capsD hop;obtain⟨rfl,rfl⟩:g=f/\capsD.map C.d=caps:=by simpa using hf
       have hr:=hρ _ _ hop;generalize a.eval fop=fv at hr|-;cases hr with
       |c hr=>cases hr with
        |d hd=>cases hd with|@fn _ _ cvs hlen hrd=>refine⟨cvs,rfl,by simpa using hlen,fun i x hi=>?_⟩;rw[aM]at hi;obtain⟨y,hy,rfl⟩:=aK.1 hi;exact .d (hrd i y hy)
      .rename_i g caps' hop;obtain⟨rfl,rfl⟩:g=f/\caps'=caps:=by simpa using hf
       have hr:=hρ _ _ hop;generalize a.eval fop=fv at hr|-;cases hr with
       |c hr=>cases hr with|@po _ _ cvs hlen hrc=>exact⟨cvs,rfl,hlen,hrc⟩
      .simp at hf
     obtain⟨cvs,hfe,hcl,hcr⟩:=hfv;obtain⟨hal,har⟩:=v6 hρ hvs;let k8:List Value:=c.args.toList.map a.eval++cvs.toList
     obtain⟨p1,p2,p3⟩:=GE hI (vs++caps.map TV.c) j7 as ids1 lent k8 hargs (by simp[k8,hal,hcl]) (fun i t val hi hv=>by
      by_cases hlt:i<vs.length
      .rw [bS hlt]at hi;simp only[k8]at hv;rw[bS (by simp only[aV];omega),aM]at hv;obtain⟨x,hx,rfl⟩:=aK.1 hv;exact har i x t hx hi
      .rw [bX (by omega),aM]at hi;obtain⟨x,hx,rfl⟩:=aK.1 hi;simp only[k8]at hv;rw[bX (by simp only[aV];omega)]at hv;simp only[aV,<-hal]at hv;have:=hcr _ x hx;rw[Array.getElem?_toList]at hv;have e1:cvs.getD (i-vs.length) undef=val:=by simp[hv]
       rw[e1]at this;exact .c this)
     have hSlt:∀b,SB S w φ (aC H) ids1 b->b<w.heap.size:=by
      rintro b (hb|⟨i,hi,hb⟩)
      .exact hI.vn b hb
      .obtain ⟨oi,hoi⟩:=By _ _ _ _ _ hargs i hi;rcases dR.1 hb with rfl|⟨sz,sl,k,h1,h2⟩
       .exact (hI.iN i oi hoi).2.PL hI.vn
       .exact (hI.H8 h1 h2).2.2.1
     have hnS:∀b∈((lent.flatMap (·.2.1)).flatMap (ip w φ (aC H))),¬SB S w φ (aC H) ids1 b:=by
      intro b hb hS;obtain⟨i,hi,hb⟩:=dn.1 hb;obtain⟨oi,hoi,hoio⟩:=p2 i hi;have hb1:=(oZ hI hoi hoio hb).1;rcases hS with hS|⟨j,hj,hje⟩
      .exact hb1 hS
      .obtain ⟨oj,hoj⟩:=By _ _ _ _ _ hargs j hj;cases hjo:cR oj with
       |true=>refine oh hI hoi hoj hoio hjo (fun e=>?_) hb hje;have:=bq.1 hapart i hi;rw[e]at this;simp[hj]at this
       |false=>
        rcases dR.1 hje with rfl|⟨sz,sl,k,h1,_⟩
        .exact hb1 ((hI.iN j oj hoj).2.TC hjo)
        .rw [hoj]at h1;cases h1;cases hjo
     have hgood:=hok f as rs outs hcall (SB S w φ (aC H) ids1) w k8 _ hSlt p1 (Bv hI hnd p2) hnS (hI.B7.mono (SB.uR _));intro next Q hn
     have hfin:∀val w',Left (SB S w φ (aC H) ids1) w ((lent.flatMap (·.2.1)).flatMap (ip w φ (aC H))) rs outs (oQ as k8) val w'->next (a.put o.dst val) w':=by intro val w' hleft;refine hn val w' (I9 hI hfr p1 p2 p3 hwhole hnd hleft (ro:=ro) (v:=v) (u:=u) (rd:=aB) ?_);exact h
     have hrun:∀r,(callFunc f k8.toArray).run P w=r->(execOp a.eval o).run P w=r:=by
      intro r hr;have e1:(#[]++c.args.map a.eval)++cvs=k8.toArray:=by apply Array.ext';simp[k8]
      simp only[execOp,ho,Sem.run_bind,resolve,hcal,hfe,Deferred.ofValue,Sem.run_pure,Result.andThen_ok,invoke,e1];exact hr
     rcases hgood with⟨g,as',hr,hc⟩|⟨val,hr,hleft⟩
     .unfold Oper.wp;rw[hrun _ hr,Oper.upon_enter];refine hc.mono fun en w' hR=>?_;obtain⟨val,rfl,hleft⟩:=hR;exact hfin val w' hleft
     .unfold Oper.wp;rw[hrun _ hr];exact hfin val w hleft
   .simp at h
 .simp at h
end
section
variable{P:Program}{S K:Nat->Prop}{w0 w:World}{Kn:Nat->Prop}{φ:Nat->gI}{H:bM}{e:jG}{o:Oper}{call:Call}{a:Act}{cH:Bz}{k:Ev.K}{args:List Operand}
 {nxt n':Nat} {v:TV} {u:fA} {aB:List Nat}
theorem fN{vs:List (Option TV)}:cL call .gi vs H nxt=none:=by unfold cL;split<;>first|rfl|simp_all
theorem Ja{op:BinOp}{t ty:TypeId}{x y:Operand}(ho:o.op=.binOp op t x y ty)(hk:Hn P op t x y=(k,args))(hI:Inv S K w0 Kn φ (aC H) w)(hE:jG.ok S w Kn φ e a.tmps)
  (h:cL call k (args.map (kP e)) H nxt=some (v,u,aB,n')):dK P o a.eval S K w0 w Kn φ (aC H) nxt n' v u:=by
 have hρ:∀x tv,kP e x=some tv->ge S w Kn φ tv (a.eval x):=fun x tv h=>ue hI.B7 hE h;have plainBin:(k,args)=(Ev.K.Au op,[x,y])->dK P o a.eval S K w0 w Kn φ (aC H) nxt n' v u:=by intro hk;obtain⟨rfl,rfl⟩:=ad hk;exact OT ho hI (fun z hz=>hρ x z hz) (fun z hz=>hρ y z hz) h
 have nilBin:∀kind,(op=.eql\/op=.neq)->Kf P t kind->(k,args)=qM kind (op==.neq) x y->dK P o a.eval S K w0 w Kn φ (aC H) nxt n' v u:=by
  intro kind hop hu hk;unfold qM at hk;split at hk
  .rename_i hy;obtain⟨rfl,rfl⟩:=ad hk;exact DD ho hop hu hI (fun _=>rfl) (.inl ⟨rfl,hy⟩) (fun z hz=>hρ x z hz) h
  .split at hk
   .rename_i hx;obtain⟨rfl,rfl⟩:=ad hk;exact DD ho hop hu hI (fun _=>rfl) (.inr ⟨rfl,hx⟩) (fun z hz=>hρ y z hz) h
   .obtain ⟨rfl,rfl⟩:=ad hk;rw[fN]at h;simp at h
 have eqs:(op=.eql\/op=.neq)->(match P.underlying t with
  |some .bool=>(Ev.K.ve (op==.neq),[x,y])
  |some (.int _)|some (.float _)|some .string=>(Ev.K.Au op,[x,y])
  |some (.slice _)=>qM 0 (op==.neq) x y
  |some (.pointer _)=>qM 1 (op==.neq) x y
  |some (.func _ _ _)=>qM 2 (op==.neq) x y
  |some (.struct _)|some (.array _ _)=>match z5 P 8 t with|some ks=>if P.eqGuardType P.depth t=false then(Ev.K.zD (op==.neq) ks,[x,y])else(Ev.K.gi,[])|none=>(Ev.K.gi,[])
  |_=>(Ev.K.gi,[]))=(k,args)->dK P o a.eval S K w0 w Kn φ (aC H) nxt n' v u:=by
  intro hop hk;split at hk
  .rename_i hu;obtain⟨rfl,rfl⟩:=ad hk;exact Ik ho hop hu hI (fun z hz=>hρ x z hz) (fun z hz=>hρ y z hz) h
  .exact plainBin hk.symm
  .exact plainBin hk.symm
  .exact plainBin hk.symm
  .rename_i hu;exact nilBin 0 hop ⟨_,hu⟩ hk.symm
  .rename_i hu;exact nilBin 1 hop ⟨_,hu⟩ hk.symm
  .rename_i hu;exact nilBin 2 hop ⟨_,_,_,hu⟩ hk.symm
  .rename_i hu;split at hk
   .rename_i hks;split at hk
    .rename_i hg;obtain⟨rfl,rfl⟩:=ad hk;exact DE ho hop hks (by simp[fS,hu]) hg hI (fun z hz=>hρ x z hz) (fun z hz=>hρ y z hz) h
    .obtain ⟨rfl,rfl⟩:=ad hk;rw[fN]at h;simp at h
   .obtain ⟨rfl,rfl⟩:=ad hk;rw[fN]at h;simp at h
  .rename_i hu;split at hk
   .rename_i hks;split at hk
    .rename_i hg;obtain⟨rfl,rfl⟩:=ad hk;exact DE ho hop hks (by simp[fS,hu]) hg hI (fun z hz=>hρ x z hz) (fun z hz=>hρ y z hz) h
    .obtain ⟨rfl,rfl⟩:=ad hk;rw[fN]at h;simp at h
   .obtain ⟨rfl,rfl⟩:=ad hk;rw[fN]at h;simp at h
  .obtain ⟨rfl,rfl⟩:=ad hk;rw[fN]at h;simp at h
 cases op with|eql=>exact eqs (.inl rfl) hk|neq=>exact eqs (.inr rfl) hk|_=>exact plainBin hk.symm
theorem qI{α:Type}{x:Array α}{y:α}(h:x.toList=[y]):x= #[y]:=by rw[<-Array.toArray_toList (xs:=x),h]
theorem pQ{α:Type}{x:Array α}{y z:α}(h:x.toList=[y,z]):x= #[y,z]:=by rw[<-Array.toArray_toList (xs:=x),h]
theorem As{b:Builtin}{c:Go.Call}(ho:o.op=.call c)(hcal:c.callee=.builtin b)(hk:tQ P b c.args.toList c.argTypes.toList=(k,args))(hI:Inv S K w0 Kn φ (aC H) w)
  (hE:jG.ok S w Kn φ e a.tmps) (hn0:nxt<n'->¬Kn nxt) (h:cL call k (args.map (kP e)) H nxt=some (v,u,aB,n')):dK P o a.eval S K w0 w Kn φ (aC H) nxt n' v u:=by
 have hρ:∀x tv,kP e x=some tv->ge S w Kn φ tv (a.eval x):=fun x tv h=>ue hI.B7 hE h
 have lenArgs:∀str,k=.len str->args=c.args.toList->∃x,c.args.toList=[x]:=by
  intro str hk ha;subst hk ha;generalize c.args.toList=l at h
  match l,h with|[x],_=>exact⟨x,rfl⟩|[],h=>simp[cL]at h|x::y::r,h=>simp[cL]at h
 unfold tQ at hk;split at hk
 .rename_i t hts;split at hk
  .rename_i hu;obtain⟨rfl,rfl⟩:=ad hk;obtain⟨x,hx⟩:=lenArgs true rfl rfl;rw[hx]at h;exact J4 (str:=true) ho hcal (qI hx) (qI hts) hu hI (fun z hz=>hρ x z hz) h
  .rename_i hu;obtain⟨rfl,rfl⟩:=ad hk;obtain⟨x,hx⟩:=lenArgs false rfl rfl;rw[hx]at h;exact J4 (str:=false) ho hcal (qI hx) (qI hts) ⟨_,hu⟩ hI (fun z hz=>hρ x z hz) h
  .obtain ⟨rfl,rfl⟩:=ad hk;rw[fN]at h;simp at h
 .obtain ⟨rfl,rfl⟩:=ad hk;exact AW (m:=true) ho hcal hI hρ h
 .obtain ⟨rfl,rfl⟩:=ad hk;exact AW (m:=false) ho hcal hI hρ h
 .rename_i s x hts;split at hk
  .rename_i el el2 hus hux;split at hk
   .rename_i n z hsz hz;split at hk
    .rename_i hb;obtain⟨rfl,rfl⟩:=ad hk
     have:∃p q,c.args.toList=[p,q]:=by
      generalize c.args.toList=l at h
      match l,h with|[p,q],_=>exact⟨p,q,rfl⟩|[],h=>simp[cL]at h|[p],h=>simp[cL]at h|p::q::r::t,h=>simp[cL]at h
     obtain⟨p,q,hpq⟩:=this;rw[hpq]at h;exact Il ho hcal (pQ hpq) (pQ hts) hus hux hsz hz hb.2 hb.1 hI hn0 (fun z hz=>hρ p z hz) (fun z hz=>hρ q z hz) h
    .obtain ⟨rfl,rfl⟩:=ad hk;rw[fN]at h;simp at h
   .obtain ⟨rfl,rfl⟩:=ad hk;rw[fN]at h;simp at h
  .rename_i el kd hus hux;split at hk
   .rename_i n z hsz hz;split at hk
    .rename_i hb;obtain⟨rfl,rfl⟩:=ad hk
     have:∃p q,c.args.toList=[p,q]:=by
      generalize c.args.toList=l at h
      match l,h with|[p,q],_=>exact⟨p,q,rfl⟩|[],h=>simp[cL]at h|[p],h=>simp[cL]at h|p::q::r::t,h=>simp[cL]at h
     obtain⟨p,q,hpq⟩:=this;rw[hpq]at h;exact OU ho hcal (pQ hpq) (pQ hts) hus hux hsz hz hb.2 hb.1 hI hn0 (fun z hz=>hρ p z hz) (fun z hz=>hρ q z hz) h
    .obtain ⟨rfl,rfl⟩:=ad hk;rw[fN]at h;simp at h
   .obtain ⟨rfl,rfl⟩:=ad hk;rw[fN]at h;simp at h
  .obtain ⟨rfl,rfl⟩:=ad hk;rw[fN]at h;simp at h
 .rename_i t hts;split at hk
  .rename_i el hu;obtain⟨rfl,rfl⟩:=ad hk
   have:∃p,c.args.toList=[p]:=by
    generalize c.args.toList=l at h
    match l,h with|[p],_=>exact⟨p,rfl⟩|[],h=>simp[cL]at h|p::q::r,h=>simp[cL]at h
   obtain⟨p,hp⟩:=this;rw[hp]at h;exact OR ho hcal (qI hp) (qI hts) hu hI (fun z hz=>hρ p z hz) h
  .obtain ⟨rfl,rfl⟩:=ad hk;rw[fN]at h;simp at h
 .rename_i d x hts;split at hk
  .rename_i el hud;split at hk
   .rename_i n hsz;obtain⟨rfl,rfl⟩:=ad hk
    have:∃p q,c.args.toList=[p,q]:=by
     generalize c.args.toList=l at h
     match l,h with|[p,q],_=>exact⟨p,q,rfl⟩|[],h=>simp[cL]at h|[p],h=>simp[cL]at h|p::q::r::t,h=>simp[cL]at h
    obtain⟨p,q,hpq⟩:=this;rw[hpq]at h;exact MQ ho hcal (pQ hpq) (pQ hts) hud hsz hI (fun z hz=>hρ p z hz) (fun z hz=>hρ q z hz) h
   .obtain ⟨rfl,rfl⟩:=ad hk;rw[fN]at h;simp at h
  .obtain ⟨rfl,rfl⟩:=ad hk;rw[fN]at h;simp at h
 .rename_i d hts;split at hk
  .rename_i el hud;split at hk
   .rename_i n z hsz hz;split at hk
    .rename_i hzl;obtain⟨rfl,rfl⟩:=ad hk
     have:∃p,c.args.toList=[p]:=by
      generalize c.args.toList=l at h
      match l,h with|[p],_=>exact⟨p,rfl⟩|[],h=>simp[cL]at h|p::q::r,h=>simp[cL]at h
     obtain⟨p,hp⟩:=this;rw[hp]at h;exact J8 ho hcal (qI hp) (qI hts) hud hsz hz hzl hI (fun z hz=>hρ p z hz) h
    .obtain ⟨rfl,rfl⟩:=ad hk;rw[fN]at h;simp at h
   .obtain ⟨rfl,rfl⟩:=ad hk;rw[fN]at h;simp at h
  .obtain ⟨rfl,rfl⟩:=ad hk;rw[fN]at h;simp at h
 .obtain ⟨rfl,rfl⟩:=ad hk;rw[fN]at h;simp at h
theorem Dy(hok:nz P call)(hk:xD P cH o.op=(k,args))(hI:Inv S K w0 Kn φ (aC H) w)(hE:jG.ok S w Kn φ e a.tmps)(hfr:∀j,nxt<=j->j<n'->¬Kn j)
  (h:cL call k (args.map (kP e)) H nxt=some (v,u,aB,n')):NO P o a S K w0 w Kn φ (aC H) nxt n' v u:=by
 have hρ:∀x tv,kP e x=some tv->ge S w Kn φ tv (a.eval x):=fun x tv h=>ue hI.B7 hE h;have hn0:nxt<n'->¬Kn nxt:=fun h=>hfr nxt (aw _) h;have gi:(k,args)=(Ev.K.gi,[])->NO P o a S K w0 w Kn φ (aC H) nxt n' v u:=by intro hk;obtain⟨rfl,rfl⟩:=ad hk;rw[fN]at h;simp at h
 generalize hop:o.op=op at hk;unfold xD at hk;split at hk
 .obtain ⟨rfl,rfl⟩:=ad hk;exact(NW (.inl hop) hI (fun z hz=>hρ _ z hz) h).lw
 .obtain ⟨rfl,rfl⟩:=ad hk;exact(NW (.inr hop) hI (fun z hz=>hρ _ z hz) h).lw
 .obtain ⟨rfl,rfl⟩:=ad hk;exact(MO hop hI (fun z hz=>hρ _ z hz) (fun z hz=>hρ _ z hz) (fun z hz=>hρ _ z hz) h).lw
 .--alloc
  split at hk
  .rename_i hz;obtain⟨rfl,rfl⟩:=ad hk;exact(J9 hop hz hI hn0 h).lw
  .exact gi hk.symm
 .obtain ⟨rfl,rfl⟩:=ad hk;exact(OS hop hI hn0 (fun z hz=>hρ _ z hz) h).lw
 .--build
  split at hk
  .rename_i hu hz;split at hk
   .rename_i hpl;split at hk
    .rename_i hall;obtain⟨rfl,rfl⟩:=ad hk;exact(DG hop hz (.inl ⟨_,hu,hpl,hall⟩) hI hρ h).lw
    .exact gi hk.symm
   .exact gi hk.symm
  .rename_i hu hz;split at hk
   .rename_i hs;obtain⟨rfl,rfl⟩:=ad hk;exact(DG hop hz (.inr ⟨_,_,_,hu,hs,rfl⟩) hI hρ h).lw
   .exact gi hk.symm
  .exact gi hk.symm
 .--buildSlice
  split at hk
  .rename_i hu;split at hk
   .rename_i hs hz;split at hk
    .rename_i hl;obtain⟨rfl,rfl⟩:=ad hk;exact(Ag hop hu hs hz hl hI hn0 hρ h).lw
    .exact gi hk.symm
   .exact gi hk.symm
  .exact gi hk.symm
 .--load
  split at hk
  .rename_i ha hs;obtain⟨rfl,rfl⟩:=ad hk;split at h
   .rename_i hc;obtain⟨_,_,rfl,rfl⟩:=hc;exact(J3 hop ha hs hI hn0 (fun z hz=>hρ _ z hz) h).lw
   .exact (G0 hop ha hs hI (fun z hz=>hρ _ z hz) h).lw
  .exact gi hk.symm
 .--store
  split at hk
  .rename_i hs;obtain⟨rfl,rfl⟩:=ad hk;exact(J1 hop hs hI (fun z hz=>hρ _ z hz) (fun z hz=>hρ _ z hz) h).lw
  .exact gi hk.symm
 .obtain ⟨rfl,rfl⟩:=ad hk;exact(DA hop hI (fun z hz=>hρ _ z hz) h).lw
 .exact (Ja hop hk hI hE h).lw
 .obtain ⟨rfl,rfl⟩:=ad hk;exact(Qp hop hI (fun z hz=>hρ _ z hz) h).lw
 .--convert
  split at hk
  .rename_i hs hd;obtain⟨rfl,rfl⟩:=ad hk;exact(FN hop hs hd hI (fun z hz=>hρ _ z hz) h).lw
  .rename_i hs hd;obtain⟨rfl,rfl⟩:=ad hk;exact(DF hop hs hd hI (fun z hz=>hρ _ z hz) h).lw
  .exact gi hk.symm
 .--makeFunc
  split at hk
  .rename_i hf;obtain⟨rfl,rfl⟩:=ad hk;exact(MP hop hf hI hρ h).lw
  .exact gi hk.symm
 .--makeSlice
  split at hk
  .rename_i hu;split at hk
   .rename_i hs hz;split at hk
    .rename_i hl;obtain⟨rfl,rfl⟩:=ad hk;split at h
     .rename_i m hm;unfold NX at hm;split at hm
      .rename_i hc;split at hm
       .split at hm
        .obtain rfl:=aa hm;exact(J2 hop hu hs hz hl.1 hl.2 hc.2 (Nat.succ_pos _) hI hn0 (fun z hz=>hρ _ z hz) (fun z hz=>hρ _ z hz) h).lw
        .cases hm
       .cases hm
      .cases hm
     .exact (vG hop hu hs hz hl.1 hl.2 hI hn0 (fun z hz=>hρ _ z hz) (fun z hz=>hρ _ z hz) h).lw
    .exact gi hk.symm
   .exact gi hk.symm
  .exact gi hk.symm
 .--slice
  split at hk
  .rename_i hu;obtain⟨rfl,rfl⟩:=ad hk;exact(Dz (str:=true) hop hu hI hρ h).lw
  .rename_i hu;split at hk
   .rename_i hs;obtain⟨rfl,rfl⟩:=ad hk;exact(Dz (str:=false) hop ⟨_,hu,hs⟩ hI hρ h).lw
   .exact gi hk.symm
  .exact gi hk.symm
 .--BI
  split at hk
  .rename_i hu;split at hk
   .rename_i hs;obtain⟨rfl,rfl⟩:=ad hk;exact(Ii hop hu hs hI hn0 hρ h).lw
   .exact gi hk.symm
  .exact gi hk.symm
 .--fieldAddr
  split at hk
  .rename_i hu;split at hk
   .rename_i hf;split at hk
    .rename_i hs;obtain⟨rfl,rfl⟩:=ad hk;exact(BZ hop hu hf hs hI (fun z hz=>hρ _ z hz) h).lw
    .exact gi hk.symm
   .exact gi hk.symm
  .exact gi hk.symm
 .--field
  split at hk
  .rename_i hu;split at hk
   .rename_i hf;split at hk
    .rename_i ha hs;obtain⟨rfl,rfl⟩:=ad hk;exact(J6 hop hu hf ha hs hI (fun z hz=>hρ _ z hz) h).lw
    .exact gi hk.symm
   .exact gi hk.symm
  .exact gi hk.symm
 .--indexAddr
  split at hk
  .rename_i hu;split at hk
   .rename_i hs;obtain⟨rfl,rfl⟩:=ad hk;exact(vH (aP:=none) hop ⟨_,hu,hs⟩ hI (fun z hz=>hρ _ z hz) (fun z hz=>hρ _ z hz) h).lw
   .exact gi hk.symm
  .rename_i hu;split at hk
   .rename_i hs;obtain⟨rfl,rfl⟩:=ad hk;exact(vH (aP:=some _) hop ⟨_,hu,hs⟩ hI (fun z hz=>hρ _ z hz) (fun z hz=>hρ _ z hz) h).lw
   .exact gi hk.symm
  .exact gi hk.symm
 .--index
  split at hk
  .rename_i hu;obtain⟨rfl,rfl⟩:=ad hk;exact(DC hop hu hI (fun z hz=>hρ _ z hz) (fun z hz=>hρ _ z hz) h).lw
  .rename_i hu;split at hk
   .rename_i ha hs;obtain⟨rfl,rfl⟩:=ad hk;exact(J5 hop hu ha hs hI (fun z hz=>hρ _ z hz) (fun z hz=>hρ _ z hz) h).lw
   .exact gi hk.symm
  .exact gi hk.symm
 .obtain ⟨rfl,rfl⟩:=ad hk;exact(FM hop hI (fun z hz=>hρ _ z hz) h).lw
 .--makeMap
  split at hk
  .split at hk
   .obtain ⟨rfl,rfl⟩:=ad hk;exact(FL hop hI hn0 h).lw
   .exact gi hk.symm
  .exact gi hk.symm
 .--lookup
  split at hk
  .rename_i hu;split at hk
   .rename_i hm;obtain⟨rfl,rfl⟩:=ad hk;exact(Ij hop hu hm hI (fun z hz=>hρ _ z hz) (fun z hz=>hρ _ z hz) h).lw
   .exact gi hk.symm
  .exact gi hk.symm
 .--mapEntry
  split at hk
  .rename_i hu;split at hk
   .rename_i hm;obtain⟨rfl,rfl⟩:=ad hk;exact(DB hop hu hm hI (fun z hz=>hρ _ z hz) (fun z hz=>hρ _ z hz) h).lw
   .exact gi hk.symm
  .exact gi hk.symm
 .--entryStore
  split at hk
  .split at hk
   .obtain ⟨rfl,rfl⟩:=ad hk;exact(Af hop hI (fun z hz=>hρ _ z hz) (fun z hz=>hρ _ z hz) (fun z hz=>hρ _ z hz) h).lw
   .exact gi hk.symm
  .exact gi hk.symm
 .--call
  rename_i c;split at hk
  .rename_i hcal;exact(As hop hcal hk hI hE hn0 h).lw
  .rename_i f hcal;split at hk
   .split at hk
    .rename_i hf;obtain⟨rfl,rfl⟩:=ad hk
     have:∃p q,c.args.toList=[p,q]:=by
      generalize c.args.toList=l at h
      match l,h with|[p,q],_=>exact⟨p,q,rfl⟩|[],h=>simp[cL]at h|[p],h=>simp[cL]at h|p::q::r::t,h=>simp[cL]at h
     obtain⟨p,q,hpq⟩:=this;rw[hpq]at h;exact(OO hop hcal (pQ hpq) hf rfl hI (fun z hz=>hρ p z hz) (fun z hz=>hρ q z hz) h).lw
    .exact gi hk.symm
   .obtain ⟨rfl,rfl⟩:=ad hk;exact G1 hop hcal hok hI hfr hρ h
  .rename_i hcal;obtain⟨rfl,rfl⟩:=ad hk;exact G1 hop hcal hok hI hfr hρ h
  .exact gi hk.symm
 .exact gi hk.symm
end
def gw(P:Program)(cH:Bz)(nt:Nat)(all:Array Oper)(o:Oper):oE:=
 {dst:=o.dst
  k:=if(match o.dst with|some d=>decide (d<nt)|none=>true)then(xD P cH o.op).1 else .gi
  args:=(xD P cH o.op).2
  guard:=match o.guard with|none=>none|some (j,b)=>some (((all[j]?).bind (·.dst)).getD 1000000000,b)}
def sO:C:=.po 0 []
def RG(S:Nat->Prop)(w:World)(Kn:Nat->Prop)(φ:Nat->gI)(c:C)(v:Value):Prop:=c=sO\/RC S w Kn φ c v
theorem RG.mono{S S':Nat->Prop}{w w':World}{Kn Kn':Nat->Prop}{φ φ':Nat->gI}(hs:gU S w S' w')(hr:up Kn φ Kn' φ'){x:C}{v:Value}(h:RG S w Kn φ x v):RG S' w' Kn' φ' x v:=h.imp id fun h=>h.mono hs hr
structure GH(S K:Nat->Prop)(w0:World)(Kn:Nat->Prop)(φ:Nat->gI)(gv:List Value)(nt:Nat)(s:St)(a:Act)(w:World):Prop where
 inv:Inv S K w0 Kn φ (aC s.heap) w
 dH:jG.ok S w Kn φ s.dH a.tmps
 size:a.tmps.size=nt
 defers:a.defers=[]
 gG:∀j,s.next<=j->¬Kn j
 gh:∀(i:Nat)(c:C)(v:Value),s.gh[i]?=some c->gv[i]?=some v->RG S w Kn φ c v
section
variable{P:Program}{S K:Nat->Prop}{w0 w:World}{Kn:Nat->Prop}{φ:Nat->gI}{gv:List Value}{nt:Nat}{a:Act}{call:Call}{cH:Bz}{s s':St}
theorem MG{a:Act}{d:Nat}{v:Value}(h:d<a.tmps.size)(t:Nat):(a.put (some d) v).tmps.getD t undef=if t=d then v else a.tmps.getD t undef:=by
 simp only[Act.put,bI,kD];by_cases e:d=t
 .subst e;simp[h]
 .have e2:¬t=d:=fun h=>e h.symm;simp[e,e2]
theorem vB{a:Act}(d:Option Nat)(v:Value):(a.put d v).tmps.size=a.tmps.size:=by cases d<;>simp[Act.put]
theorem sg{a:Act}(d:Option Nat)(v:Value):(a.put d v).defers=a.defers:=by cases d<;>simp[Act.put]
theorem lI(e:jG)(d:Option Nat)(v:TV)(t:Nat):cz (put e d v) t=if d=some t then some v else cz e t:=by
 cases d with
 |none=>simp[put]
 |some d=>
  simp only[put,cz];by_cases h:d=t
  .simp [h]
  .have h':(d==t)=false:=by simpa using h
   simp[h,h']
theorem zw(e:jG)(d:Option Nat)(t:Nat):cz (drop e d) t=if d=some t then some (.iP [])else cz e t:=lI e d (.iP []) t
theorem jG.JT{e:jG}{S':Nat->Prop}{w':World}{Kn':Nat->Prop}{φ':Nat->gI}(hE:jG.ok S w Kn φ e a.tmps)(hs:gU S w S' w')(hr:up Kn φ Kn' φ'){d:Option Nat}{v:TV}{val:Value}
  (hd:∀x,d=some x->x<a.tmps.size) (hv:ge S' w' Kn' φ' v val):jG.ok S' w' Kn' φ' (Ev.put e d v) (a.put d val).tmps:=by
 intro t x hx;rw[lI]at hx;cases d with
 |none=>simp only[reduceCtorEq,if_false]at hx;exact(hE t x hx).mono hs hr
 |some d=>
  rw[MG (hd d rfl)];by_cases h:t=d
  .subst h;simp only[if_true]at hx;rw[if_pos rfl,<-aa hx];exact hv
  .have h2:¬(some d=some t):=fun e=>h (aa e).symm;rw[if_neg h2]at hx;rw[if_neg h];exact(hE t x hx).mono hs hr
theorem jG.Hj{e:jG}(hE:jG.ok S w Kn φ e a.tmps){d:Option Nat}:jG.ok S w Kn φ (Ev.drop e d) (a.put d undef).tmps:=by
 intro t x hx;rw[zw]at hx;have hu:ge S w Kn φ (.iP []) undef:=.iP rfl fun i x hi=>by simp at hi
 split at hx
 .rename_i h;subst h;obtain rfl:=aa hx;have:(a.put (some t) undef).tmps.getD t undef=undef:=by simp only[Act.put,bI,kD,if_true];split<;>rfl
  rw[this];exact hu
 .rename_i h;have:=hE t x hx;cases d with|none=>exact this|some d=>have h2:¬d=t:=fun e=>h (by rw[e]);simp only[Act.put,bI,kD,if_neg h2];rw[bI]at this;exact this
theorem qx{e:jG}(hE:jG.ok S w Kn φ e a.tmps)(hsz:a.tmps.size<1000000000){all:Array Oper}{o:Oper}{b:Bool}(h:kw e (gw P cH nt all o).guard=some b):
  Region.wanted o (yielded all a.tmps)=b:=by
 unfold gw at h;simp only at h;unfold Region.wanted;cases hg:o.guard with
 |none=>rw[hg]at h;simpa[kw]using h
 |some p=>
  obtain⟨j,want⟩:=p;rw[hg]at h;simp only[kw]at h;split at h
  .rename_i x hx;have hr:=hE _ _ hx;obtain⟨hv,_⟩:=hr.lit;cases hd:(all[j]?).bind (·.dst)with
   |none=>rw[hd]at hv;simp only[Option.getD_none]at hv;rw[bI,Array.getElem?_eq_none (by omega)]at hv;simp[undef]at hv
   |some t=>
    rw[hd]at hv;simp only[fH]at hv
    have ht:a.tmps[t]?=some (.bool x):=by
     rw[bI]at hv;cases ht:a.tmps[t]?with
     |none=>rw[ht]at hv;simp[undef]at hv
     |some y=>rw[ht]at hv;simpa using hv
    obtain rfl:=aa h;simp only[yielded,hd,ae,ht];cases x<;>cases want<;>rfl
  .rename_i hx;have hr:=hE _ _ hx;obtain rfl:=aa h;cases hd:(all[j]?).bind (·.dst)with
   |none=>simp only[yielded,hd,Option.bind_none];rfl
   |some t=>
    rw[hd]at hr;simp only[fH]at hr;generalize hv:a.tmps.getD t undef=v at hr;cases hr with
    |@iP _ aP hlen _=>
     rw[bI]at hv;simp only[yielded,hd,ae];cases ht:a.tmps[t]?with
     |none=>rfl
     |some y=>rw[ht]at hv;simp only[fH]at hv;subst hv;rfl
  .simp at h
end
section
variable{H H':bM}
def ig(H H':bM)(aB:List Nat):Prop:=∀i∈aB,aC H' i=aC H i
theorem ig.left{a b:List Nat}(h:ig H H' (a++b)):ig H H' a:=fun i hi=>h i (aG _ hi)
theorem ig.right{a b:List Nat}(h:ig H H' (a++b)):ig H H' b:=fun i hi=>h i (aI _ hi)
theorem uN:∀n,(∀c x aB,dW H n c=some (x,aB)->ig H H' aB->dW H' n c=some (x,aB))/\
  (∀cs xs aB,fU H n cs=some (xs,aB)->ig H H' aB->fU H' n cs=some (xs,aB)):=by
 have leaf:∀n c x aB,(match c with|.op _ _|.po _ _=>False|_=>True)->dW H n c=some (x,aB)->ig H H' aB->dW H' n c=some (x,aB):=by
  intro n c x aB hl h ha;cases c with
  |d y=>simpa only[dW]using h
  |fh sz id off len=>
   have:aC H' id=aC H id:=ha id (by
    simp only[dW]at h;split at h
    all_goals first
     |(split at h
       .obtain ⟨_,rfl⟩:=ad (aa h);simp
       .simp at h)
     |(split at h
       .split at h
        .obtain ⟨_,rfl⟩:=ad (aa h);simp
        .simp at h
       .simp at h)
     |simp at h)
   simp only[dW]at h|-;rw[this];exact h
  |ep id cU off=>
   have:aC H' id=aC H id:=ha id (by
    simp only[dW]at h;split at h
    all_goals first
     |(split at h
       .split at h
        .obtain ⟨_,rfl⟩:=ad (aa h);simp
        .simp at h
       .simp at h)
     |simp at h)
   simp only[dW]at h|-;rw[this];exact h
  |op id off=>exact hl.elim
  |po f caps=>exact hl.elim
  |om id=>cases n<;>simp[dW]at h
 intro n;induction n with
 |zero=>
  refine⟨fun c x aB h ha=>?_,fun cs xs aB h ha=>?_⟩
  .cases c with|op id off=>simp[dW]at h|po f caps=>simp[dW]at h|_=>exact leaf 0 _ x aB trivial h ha
  .cases cs with|nil=>simpa only[fU]using h|cons c cs=>simp[fU]at h
 |succ n ih=>
  refine⟨fun c x aB h ha=>?_,fun cs xs aB h ha=>?_⟩
  .cases c with
   |op id off=>
    simp only[dW]at h|-;split at h
    .rename_i ho;split at h
     .rename_i hle;obtain⟨rfl,rfl⟩:=ad (aa h);rw[ha id (by simp),ho];simp only[hle,if_true]
     .simp at h
    .rename_i ho;split at h
     .rename_i hv;split at h
      .rename_i hle;obtain⟨rfl,rfl⟩:=ad (aa h);rw[ha id (by simp),ho];simp only[ih.2 _ _ _ hv (fun i hi=>ha i (by simp[hi])),hle,if_true]
      .simp at h
     .simp at h
    .simp at h
   |po f caps=>
    simp only[dW]at h|-;split at h
    .rename_i hv;obtain⟨rfl,rfl⟩:=ad (aa h);simp only[ih.2 _ _ _ hv ha]
    .simp at h
   |_=>exact leaf _ _ x aB trivial h ha
  .cases cs with
   |nil=>simpa only[fU]using h
   |cons c cs=>
    simp only[fU]at h|-;split at h
    .rename_i h1 h2;obtain⟨rfl,rfl⟩:=ad (aa h);simp only[ih.1 _ _ _ h1 ha.left,ih.2 _ _ _ h2 ha.right]
    .simp at h
theorem rS:∀cs xs aB,dQ H cs=some (xs,aB)->ig H H' aB->dQ H' cs=some (xs,aB):=by
 intro cs;induction cs with
 |nil=>intro xs aB h _;simpa only[dQ]using h
 |cons c cs ih=>
  intro xs aB h ha;simp only[dQ]at h|-;split at h
  .rename_i h1 h2;obtain⟨rfl,rfl⟩:=ad (aa h);simp only[(uN 300).1 _ _ _ h1 ha.left,ih _ _ h2 ha.right]
  .simp at h
theorem sC{all:List Nat}(ha:ig H H' all):∀(l:List Nat)(u:fA),(∀i∈l,i∈all)->dZ H all l=some u->dZ H' all l=some u:=by
 intro l;induction l with
 |nil=>intro u _ h;simpa only[dZ]using h
 |cons a l ih=>
  intro u hl h;simp only[dZ]at h|-;split at h
  .rename_i o u' ho hu
   have hob:jY H' all a=some o:=by
    unfold jY at ho|-;rw[ha a (hl a (by simp))];split at ho
    .exact ho
    .exact ho
    .exact ho
    .split at ho
     .rename_i hv;split at ho
      .rename_i hall;simp only[(uN 300).2 _ _ _ hv (fun i hi=>ha i (by simpa using bq.1 hall i hi)),hall,if_true];exact ho
      .simp at ho
     .simp at ho
    .simp at ho
    .simp at ho
    .exact ho
    .simp at ho
   simp only[hob,ih u' (fun i hi=>hl i (by simp[hi])) hu];exact h
  .simp at h
theorem zb{agg:Bool}{n:Nat}{p:C}{v:TV}{aB:List Nat}(h:hO agg n p H=some (v,aB))(ha:ig H H' aB):hO agg n p H'=some (v,aB):=by
 unfold hO at h|-;split at h
 .exact h
 .rename_i id cU off
  have:aC H' id=aC H id:=ha id (by
   split at h
   all_goals first
    |(split at h
      .split at h
       .obtain ⟨_,rfl⟩:=ad (aa h);simp
       .simp at h
      .simp at h)
    |simp at h)
  simp only[this];exact h
 .rename_i id off
  have:aC H' id=aC H id:=ha id (by
   split at h
   all_goals first
    |(split at h
      .obtain ⟨_,rfl⟩:=ad (aa h);simp
      .simp at h)
    |simp at h)
  simp only[this];exact h
 .simp at h
theorem Fy{id cU sz:Nat}{slots:List kX}{cs:List C}{u:fA}{aB:List Nat}(h:sE id cU sz slots cs H=some (u,aB))(ha:ig H H' aB):sE id cU sz slots cs H'=some (u,aB):=by
 unfold sE at h|-;split at h
 .exact h
 .rename_i sz' id2 len
  have hid:id2∈aB:=by
   repeat' split at h
   all_goals first
    |(simp at h;done)
    |(obtain⟨_,h2⟩:=ad (aa h);rw[<-h2];simp)
  simp only[ha id2 hid];exact h
 .simp at h
theorem DP{agg:Bool}{n nxt n':Nat}{p:C}{v:TV}{u:fA}{aB:List Nat}(h:lJ agg n p H nxt=some (v,u,aB,n'))(ha:ig H H' aB):hO agg n p H'=none/\lJ agg n p H' nxt=some (v,u,aB,n'):=by
 unfold lJ at h;split at h
 case h_2=>simp at h
 rename_i id cU;split at h
 case h_2=>simp at h
 rename_i sz slots ho
 have hid:id∈aB:=by
  repeat' split at h
  all_goals first
   |(simp at h;done)
   |(obtain⟨_,_,h2,_⟩:=(by simpa using h:_/\_/\[id]=aB/\_);rw[<-h2];simp)
 have ho':aC H' id=some (.nst sz slots):=by rw[ha id hid];exact ho
 refine⟨by simp only[hO,ho'],?_⟩;simp only[lJ,ho'];exact h
theorem CP{n:Nat}{p:C}{v:TV}{u:fA}{aB:List Nat}(h:mu n p v H=some (u,aB))(ha:ig H H' aB):mu n p v H'=some (u,aB):=by
 unfold mu at h|-;split at h
 .simp at h
 .rename_i cs hcs;split at h
  .rename_i hlen;simp only[hlen,if_true];split at h
   .rename_i id cU off;split at h
    .rename_i sz ao ho;split at h
     .rename_i r ds ids1 hr hv;split at h
      .rename_i u1 hfz;split at h
       .rename_i hb;obtain⟨rfl,rfl⟩:=ad (aa h);have ha1:ig H H' ids1:=fun i hi=>ha i (by simp[hi]);simp only[ha id (by simp),ho,hr,rS _ _ _ hv ha1,sC ha1 _ _ (fun i hi=>hi) hfz,hb.1,hb.2,and_self,if_true]
       .simp at h
      .simp at h
     .simp at h
    .rename_i sz slots ho;split at h
     .rename_i hc
      have hid:id∈aB/\∀i,cs=[.fh sz i 0 0]->True:=by
       refine⟨?_,fun _ _=>trivial⟩;unfold sE at h
       repeat' split at h
       all_goals first
        |(simp at h;done)
        |(obtain⟨_,h2⟩:=ad (aa h);rw[<-h2];simp)
      simp only[ha id hid.1,ho,if_pos hc];exact Fy h ha
     .simp at h
    .simp at h
   .rename_i id off;split at h
    .rename_i cells ho;split at h
     .rename_i hb;obtain⟨rfl,rfl⟩:=ad (aa h);simp only[ha id (by simp),ho,hb,if_true]
     .simp at h
    .simp at h
   .simp at h
  .simp at h
theorem py{sz:Nat}{x:C}{new:List (List D)}{aB:List Nat}(h:jf sz H x=some (new,aB))(ha:ig H H' aB):jf sz H' x=some (new,aB):=by
 unfold jf at h|-;split at h
 .exact h
 .exact h
 .rename_i sz' id off len
  have:aC H' id=aC H id:=ha id (by
   split at h
   all_goals first
    |(split at h
      .obtain ⟨_,rfl⟩:=ad (aa h);simp
      .simp at h)
    |simp at h)
  simp only[this];exact h
 .simp at h
theorem Gp{sz:Nat}{d x:C}{i:Int}{u:fA}{aB:List Nat}(h:mD sz d x H=some (i,u,aB))(ha:ig H H' aB):mD sz d x H'=some (i,u,aB):=by
 unfold mD at h|-;split at h
 .rename_i new ids1 hr;obtain⟨_,_,rfl⟩:_/\_/\ids1=aB:=by simpa using h
  rw[py hr ha];exact h
 .rename_i new ids1 sz' id off len hr;split at h
  .rename_i szo ao ho;split at h
   .rename_i hb;obtain⟨_,_,rfl⟩:_/\_/\id::ids1=aB:=by simpa using h
    rw[py hr fun j hj=>ha j (aF _ hj)];simp only[ha id (by simp),ho,if_pos hb];exact h
   .simp at h
  .simp at h
 .simp at h
theorem Ek{sz:Nat}{d x:C}{i:Int}{u:fA}{aB:List Nat}(h:pE sz d x H=some (i,u,aB))(ha:ig H H' aB):pE sz d x H'=some (i,u,aB)/\mD sz d x H'=none:=by
 unfold pE at h|-;split at h
 case h_2=>simp at h
 rename_i sz' id off len sz2 id2 off2 len2
 have hids:aB=[id,id2]:=by
  repeat' split at h
  all_goals first
   |(simp at h;done)
   |(obtain⟨_,_,h2⟩:=(by simpa using h:_/\_/\[id,id2]=aB);exact h2.symm)
 subst hids;have a1:=ha id (by simp);have a2:=ha id2 (by simp);refine⟨by simp only[a1,a2];exact h,?_⟩
 have:∃szo ao cp,aC H' id=some (.cap szo ao cp):=by
  rw[a1];split at h
  .exact ⟨_,_,_,by assumption⟩
  .exact ⟨_,_,_,by assumption⟩
  .simp at h
 obtain⟨szo,ao,cp,ho⟩:=this;unfold mD;split
 .rename_i hd;simp at hd
 .rename_i hd;obtain⟨rfl,rfl,rfl,rfl⟩:=(by simpa using hd:_/\_/\_/\_)
  rw[ho]
 .rfl
theorem Cq{sz nxt n':Nat}{s x:C}{v:TV}{u:fA}{aB:List Nat}(h:oX sz s x H nxt=some (v,u,aB,n'))(ha:ig H H' aB):oX sz s x H' nxt=some (v,u,aB,n'):=by
 unfold oX at h|-;split at h
 .simp at h
 .rename_i new ids1 hr;split at h
  .have e1:ids1=aB:=by
    split at h
    .split at h
     .obtain ⟨_,_,h3,_⟩:=(by simpa using h:_/\_/\ids1=aB/\_);exact h3
     .obtain ⟨_,_,h3,_⟩:=(by simpa using h:_/\_/\ids1=aB/\_);exact h3
    .simp at h
   subst e1;simp only[py hr ha];exact h
  .rename_i sz' id off len;split at h
   .rename_i szo ao ho;split at h
    .rename_i hb;have e1:id::ids1=aB:=by obtain⟨_,_,h3,_⟩:=(by simpa using h:_/\_/\id::ids1=aB/\_);exact h3
     subst e1;simp only[py hr (fun i hi=>ha i (by simp[hi])),ha id (by simp),ho];rw[if_pos hb];exact h
    .simp at h
   .simp at h
  .simp at h
theorem FF:∀n,(∀c t bG rd,eK H n c=some (t,bG,rd)->ig H H' rd->eK H' n c=some (t,bG,rd))/\
  (∀cs ts bG rd,iF H n cs=some (ts,bG,rd)->ig H H' rd->iF H' n cs=some (ts,bG,rd)):=by
 have leaf:∀n c t bG rd,(match c with|.op _ _=>False|_=>True)->eK H n c=some (t,bG,rd)->ig H H' rd->eK H' n c=some (t,bG,rd):=by
  intro n c t bG rd hl h ha;cases c with
  |d y=>cases n<;>simpa only[eK]using h
  |fh sz id off len=>
   have hm:id∈rd:=by
    cases n<;>
    .simp only[eK]at h;split at h
     all_goals first
      |(split at h
        .split at h
         .obtain ⟨_,_,h3⟩:=(by simpa using h:_/\_/\[id]=rd);rw[<-h3];simp
         .simp at h
        .simp at h)
      |(split at h
        .obtain ⟨_,_,h3⟩:=(by simpa using h:_/\_/\[id]=rd);rw[<-h3];simp
        .simp at h)
      |simp at h
   have:aC H' id=aC H id:=ha id hm;cases n<;>
   .simp only[eK]at h|-;rw[this];exact h
  |ep id cU off=>cases n<;>simp[eK]at h
  |po f caps=>cases n<;>simp[eK]at h
  |om id=>cases n<;>simp[eK]at h
  |op id off=>exact hl.elim
 intro n;induction n with
 |zero=>
  refine⟨fun c t bG rd h ha=>?_,fun cs ts bG rd h ha=>?_⟩
  .cases c with|op id off=>simp[eK]at h|_=>exact leaf 0 _ t bG rd trivial h ha
  .cases cs with|nil=>simpa only[iF]using h|cons c cs=>simp[iF]at h
 |succ n ih=>
  refine⟨fun c t bG rd h ha=>?_,fun cs ts bG rd h ha=>?_⟩
  .cases c with
   |op id off=>
    cases off with
    |succ off=>simp[eK]at h
    |zero=>
     simp only[eK]at h|-;split at h
     .rename_i ho;split at h
      .rename_i ts own' rd' hp;obtain⟨h1,h2,h3⟩:=(by simpa using h:T.pt ts=t/\id::own'=bG/\id::rd'=rd)
       subst h1 h2 h3;rw[ha id (by simp),ho];simp only[ih.2 _ _ _ _ hp (fun i hi=>ha i (by simp[hi]))]
      .simp at h
     .rename_i cells ho;obtain⟨h1,h2,h3⟩:=(by simpa using h:T.d (.pt cells)=t/\[]=bG/\[id]=rd)
      subst h1 h2 h3;rw[ha id (by simp),ho]
     .simp at h
   |_=>exact leaf _ _ t bG rd trivial h ha
  .cases cs with
   |nil=>simpa only[iF]using h
   |cons c cs=>
    simp only[iF]at h|-;split at h
    .rename_i t0 a i0 ts0 b j0 h1 h2;obtain⟨e1,e2,e3⟩:=(by simpa using h:t0::ts0=ts/\a++b=bG/\i0++j0=rd)
     subst e1 e2 e3;simp only[ih.1 _ _ _ _ h1 ha.left,ih.2 _ _ _ _ h2 ha.right]
    .simp at h
theorem zS:∀(tvs:List TV)(ms:List Bool)(as:List A)(aB:List Nat)(lent:List (C×List Nat×List Nat)),gu H tvs ms=some (as,aB,lent)->ig H H' aB->ig H H' (lent.flatMap (·.2.2))->
  gu H' tvs ms=some (as,aB,lent):=by
 intro tvs;induction tvs with
 |nil=>intro ms as aB lent h _ _;simpa only[gu]using h
 |cons t tvs ih=>
  intro ms as aB lent h ha hb;simp only[gu]at h|-;split at h
  .simp at h
  .rename_i as1 ids1 lent1 hrec;split at h
   .rename_i hm;split at h
    .split at h
     .rename_i t0 bG rd hp;obtain⟨e1,e2,e3⟩:=(by simpa using h:A.mt t0::as1=as/\ids1=aB/\(_,bG,rd)::lent1=lent)
      subst e1 e2 e3;simp only[bf]at hb;simp only[ih _ _ _ _ hrec ha hb.right,hm,if_true,(FF 300).1 _ _ _ _ hp hb.left]
     .simp at h
    .simp at h
   .rename_i hm;split at h
    .split at h
     .rename_i x i hv;obtain⟨e1,e2,e3⟩:=(by simpa using h:A.d x::as1=as/\i++ids1=aB/\lent1=lent)
      subst e1 e2 e3;simp only[ih _ _ _ _ hrec ha.right hb,hm,if_false,aX,(uN 300).1 _ _ _ hv ha.left]
     .simp at h
    .split at h
     .rename_i xs i hv;obtain⟨e1,e2,e3⟩:=(by simpa using h:A.agg xs::as1=as/\i++ids1=aB/\lent1=lent)
      subst e1 e2 e3;simp only[ih _ _ _ _ hrec ha.right hb,hm,if_false,aX,rS _ _ _ hv ha.left]
     .simp at h
    .simp at h
theorem M2:∀(tvs:List TV)(ms:List Bool)(as:List A)(aB:List Nat)(lent:List (C×List Nat×List Nat)),gu H tvs ms=some (as,aB,lent)->
  ∀c bG rd,(c,bG,rd)∈lent->∃t,eK H 300 c=some (t,bG,rd):=by
 intro tvs;induction tvs with
 |nil=>
  intro ms as aB lent h c bG rd hm;obtain⟨_,_,rfl⟩:[]=as/\[]=aB/\[]=lent:=by simpa[gu]using h
  simp at hm
 |cons t tvs ih=>
  intro ms as aB lent h c bG rd hm;simp only[gu]at h;split at h
  .simp at h
  .rename_i as1 ids1 lent1 hrec;split at h
   .split at h
    .split at h
     .rename_i c0 _ t0 own0 rd0 hp;obtain⟨_,_,e3⟩:=(by simpa using h:A.mt t0::as1=as/\ids1=aB/\(_,own0,rd0)::lent1=lent)
      subst e3;rcases aQ.1 hm with hm|hm
      .simp only[da]at hm;obtain⟨g1,g2,g3⟩:=hm;rw[g1,g2,g3];exact⟨_,hp⟩
      .exact ih _ _ _ _ hrec c bG rd hm
     .simp at h
    .simp at h
   .split at h
    .split at h
     .obtain ⟨_,_,e3⟩:=(by simpa using h:_/\_/\lent1=lent)
      subst e3;exact ih _ _ _ _ hrec c bG rd hm
     .simp at h
    .split at h
     .obtain ⟨_,_,e3⟩:=(by simpa using h:_/\_/\lent1=lent)
      subst e3;exact ih _ _ _ _ hrec c bG rd hm
     .simp at h
    .simp at h
theorem CG:∀(l:List (C×List Nat×List Nat)),(∀c bG rd,(c,bG,rd)∈l->∃t,eK H 300 c=some (t,bG,rd))->ig H H' (l.flatMap (·.2.2))->eL H' l=eL H l:=by
 intro l;induction l with
 |nil=>intro _ _;rfl
 |cons p l ih=>
  obtain⟨c,bG,rd⟩:=p;intro hp ha;simp only[bf]at ha;have h1:=ih (fun c bG rd hm=>hp c bG rd (by simp[hm])) ha.right;cases c with
  |fh sz id off len=>
   obtain⟨t,ht⟩:=hp (.fh sz id off len) bG rd (by simp)
   have hm:id∈rd:=by
    simp only[eK]at ht;split at ht
    all_goals first
     |(split at ht
       .split at ht
        .obtain ⟨_,_,h3⟩:=(by simpa using ht:_/\_/\[id]=rd);rw[<-h3];simp
        .simp at ht
       .simp at ht)
     |(split at ht
       .obtain ⟨_,_,h3⟩:=(by simpa using ht:_/\_/\[id]=rd);rw[<-h3];simp
       .simp at ht)
     |simp at ht
   simp only[eL,h1,ha.left id hm]
  |_=>simp only[eL,h1]
theorem GA{call:Call}{ro:Bool}{j7:List Bool}{f:Option TV}{vs:List (Option TV)}{nxt n':Nat}{v:TV}{u:fA}{aB:List Nat}(h:vd call ro j7 f vs H nxt=some (v,u,aB,n'))(ha:ig H H' aB):
  vd call ro j7 f vs H' nxt=some (v,u,aB,n'):=by
 unfold vd at h|-;split at h
 .rename_i f caps vs hf hvs;split at h
  .simp at h
  .rename_i as ids1 lent hargs;split at h
   .rename_i hcond;split at h
    .simp at h
    .rename_i rs outs hcall;by_cases hro:ro=true
     .rw [if_pos hro]at h;split at h
      .rename_i hc;have hle:lent=[]:=by simpa using hc.2.1
       subst hle;have e1:ids1=aB:=by obtain⟨_,_,h3,_⟩:=(by simpa using h:_/\_/\ids1=aB/\_);exact h3
       subst e1;simp only[zS _ _ _ _ _ hargs ha (fun i hi=>by simp at hi)];rw[if_pos ⟨rfl,hcond.2⟩];simp only[hcall,hro,if_true];rw[if_pos hc];exact h
      .simp at h
     .rw [if_neg hro]at h;split at h
      .simp at h
      .rename_i fu hfz;split at h
       .simp at h
       .rename_i bu m hbk;have e1:ids1++lent.flatMap (·.2.2)=aB:=by obtain⟨_,_,h3,_⟩:=(by simpa using h:_/\_/\ids1++lent.flatMap (·.2.2)=aB/\_);exact h3
        subst e1;simp only[zS _ _ _ _ _ hargs ha.left ha.right];rw[if_pos (by rw[CG lent (M2 _ _ _ _ _ hargs) ha.right];exact hcond)];simp only[hcall];rw[if_neg hro];simp only[sC ha.left _ _ (fun i hi=>hi) hfz,hbk];exact h
   .simp at h
 .simp at h
theorem w9{call:Call}{sz len:Nat}{zero:List Value}{places:List Nat}{vs:List (Option TV)}{nxt n':Nat}{v:TV}{u:fA}{aB:List Nat}
  (h:cL call (.buildSlice sz len zero places) vs H nxt=some (v,u,aB,n')) (ha:ig H H' aB):cL call (.buildSlice sz len zero places) vs H' nxt=some (v,u,aB,n'):=by
 have key:∀G:bM,cL call (.buildSlice sz len zero places) vs G nxt=(match eH vs with
  |some xs=>
   (match nn (fk zero) ((places.map fun i=>(i*sz,sz)).zip xs)with
   |some cs=>
    (match dQ G cs with
    |some (ds,aB)=>(match dZ G aB aB with|some u=>some (TV.c (.fh sz nxt 0 len),(nxt,some (Ob.aP sz (mE sz len ds)))::u,aB,nxt+1)|none=>none)
    |none=>none)
   |none=>none)
  |none=>none):=fun _=>rfl
 rw[key]at h|-;split at h
 .rename_i xs hxs;split at h
  .rename_i cs hcs;split at h
   .rename_i ds ids1 hv;split at h
    .rename_i u1 hfz;obtain⟨_,_,h3,_⟩:=(by simpa using h:_/\_/\ids1=aB/\_)
     subst h3;simp only[rS _ _ _ hv ha,sC ha _ _ (fun i hi=>hi) hfz];exact h
    .simp at h
   .simp at h
  .simp at h
 .simp at h
theorem B1{ka va ok:Bool}{ks:List Kd}{z:List Value}{m:C}{k v:TV}{aB:List Nat}(h:iw ka ks va z ok m k H=some (v,aB))(ha:ig H H' aB):iw ka ks va z ok m k H'=some (v,aB):=by
 unfold iw at h|-;split at h
 .exact h
 .rename_i id key hkey
  have hid:id∈aB:=by
   repeat' split at h
   all_goals first
    |(simp at h;done)
    |(obtain⟨_,h2⟩:=ad (aa h);rw[<-h2];simp)
  simp only[ha id hid];exact h
 .simp at h
theorem Ea{ka va:Bool}{ks:List Kd}{z:List Value}{m:C}{k v:TV}{u:fA}{aB:List Nat}(h:nr ka ks va z m k H=some (v,u,aB))(ha:ig H H' aB):nr ka ks va z m k H'=some (v,u,aB):=by
 unfold nr at h|-;split at h
 .rename_i id key hkey
  have hid:id∈aB:=by
   repeat' split at h
   all_goals first
    |(simp at h;done)
    |(obtain⟨_,_,h2⟩:=(by simpa using h:_/\_/\[id]=aB);rw[<-h2];simp)
  simp only[ha id hid];exact h
 .simp at h
theorem Ce{va:Bool}{n:Nat}{m:C}{s:Option TV}{x:TV}{u:fA}{aB:List Nat}(h:nu va n m s x H=some (u,aB))(ha:ig H H' aB):nu va n m s x H'=some (u,aB):=by
 unfold nu at h|-;split at h
 .rename_i id s1 ds eh hds
  have hid:id∈aB:=by
   repeat' split at h
   all_goals first
    |(simp at h;done)
    |(obtain⟨_,h2⟩:=(by simpa using h:_/\[id]=aB);rw[<-h2];simp)
  simp only[ha id hid];exact h
 .simp at h
theorem yN{str:Bool}{sz:Nat}{x y:C}{l m:Int}{aB:List Nat}(h:od str sz x l m H=some (y,aB))(ha:ig H H' aB):od str sz x l m H'=some (y,aB):=by
 unfold od at h|-;split at h
 .rename_i sz' id off len
  have hid:id∈aB:=by
   repeat' split at h
   all_goals first
    |(simp at h;done)
    |(obtain⟨_,h2⟩:=(by simpa using h:_/\[id]=aB);rw[<-h2];simp)
  simp only[ha id hid];exact h
 .simp at h
theorem En{z:List Value}{x:C}{u:fA}{aB:List Nat}(h:pF z x H=some (u,aB))(ha:ig H H' aB):pF z x H'=some (u,aB):=by
 unfold pF at h|-;split at h
 .rename_i sz id off len
  have hid:id∈aB:=by
   repeat' split at h
   all_goals first
    |(simp at h;done)
    |(obtain⟨_,h2⟩:=(by simpa using h:_/\[id]=aB);rw[<-h2];simp)
  simp only[ha id hid];exact h
 .simp at h
def GJ:Ev.K->Bool
 |.uD|.slice _ _ _ _|.clear _|.LH|.Q0 _|.Qo|.load _ _|.store _|.buildSlice _ _ _ _|.append _|.copy _|.call _ _|.lookup _ _ _ _ _|.mapEntry _ _ _ _|.entryStore _ _=>true
 |_=>false
theorem IR{call:Call}{k:Ev.K}{vs:List (Option TV)}{nxt:Nat}(hk:GJ k=false):cL call k vs H nxt=cL call k vs H' nxt:=by
 cases k<;>first
  |(simp[GJ]at hk;done)
  |(unfold cL;split<;>first|rfl|simp_all)
theorem IS{call:Call}{k:Ev.K}{vs:List (Option TV)}{nxt n':Nat}{v:TV}{u:fA}{aB:List Nat}(h:cL call k vs H nxt=some (v,u,aB,n'))(ha:ig H H' aB):
  cL call k vs H' nxt=some (v,u,aB,n'):=by
 cases k with
 |load agg n=>
  match vs,h with
  |[some (.c p)],h=>
   change (match hO agg n p H with|some (v,aB)=>some (v,[],aB,nxt)|none=>none)=_ at h;show(match hO agg n p H' with|some (v,aB)=>some (v,[],aB,nxt)|none=>none)=_;split at h
   .rename_i hl;obtain⟨_,_,h3,_⟩:=(by simpa using h:_/\_/\_=aB/\_)
    subst h3;rw[zb hl ha];exact h
   .simp at h
 |uD=>
  match vs,h with
  |[some (.c p)],h=>
   change (match hO false 1 p H with|some (v,aB)=>some (v,[],aB,nxt)|none=>lJ false 1 p H nxt)=_ at h;show(match hO false 1 p H' with|some (v,aB)=>some (v,[],aB,nxt)|none=>lJ false 1 p H' nxt)=_;split at h
   .rename_i hl;obtain⟨_,_,h3,_⟩:=(by simpa using h:_/\_/\_=aB/\_)
    subst h3;rw[zb hl ha];exact h
   .obtain ⟨h1,h2⟩:=DP h ha;rw[h1];exact h2
 |store n=>
  match vs,h with
  |[some (.c p),some x],h=>
   change (match mu n p x H with|some (u,aB)=>some (TV.iP [],u,aB,nxt)|none=>none)=_ at h;show(match mu n p x H' with|some (u,aB)=>some (TV.iP [],u,aB,nxt)|none=>none)=_;split at h
   .rename_i hl;obtain⟨_,_,h3,_⟩:=(by simpa using h:_/\_/\_=aB/\_)
    subst h3;rw[CP hl ha];exact h
   .simp at h
 |buildSlice sz len zero places=>exact w9 h ha
 |clear z=>
  match vs,h with
  |[some (.c d)],h=>
   change (match pF z d H with|some (u,aB)=>some (TV.iP [],u,aB,nxt)|none=>none)=_ at h;show(match pF z d H' with|some (u,aB)=>some (TV.iP [],u,aB,nxt)|none=>none)=_;split at h
   .rename_i hl;obtain⟨_,_,h3,_⟩:=(by simpa using h:_/\_/\_=aB/\_)
    subst h3;rw[En hl ha];exact h
   .simp at h
 |slice str sz lo hi=>
  have eu:hi=false->cL call (.slice str sz lo hi) vs H nxt=cL call (.slice str sz lo hi) vs H' nxt:=by
   intro hlh
   cases lo<;>cases hi<;>first
    |(simp at hlh;done)
    |(match vs with
     |[]=>rfl
     |none::_=>rfl
     |some (.agg _)::_=>rfl
     |some (.iP _)::_=>rfl
     |some (.c _)::[]=>rfl
     |some (.c _)::_::[]=>rfl
     |some (.c _)::_::_::_=>rfl)
  cases hi with
  |false=>rw[<-eu rfl];exact h
  |true=>
   cases lo with
   |false=>
    match vs,h with
    |[some (.c x),m],h=>
     change (match cD m with
      |some m=>(match fQ str sz x none (some m)with
       |some y=>some (TV.c y,([]:fA),([]:List Nat),nxt)
       |none=>(match od str sz x 0 m H with|some (y,aB)=>some (TV.c y,([]:fA),aB,nxt)|none=>none))
      |none=>none)=_ at h
     show(match cD m with
      |some m=>(match fQ str sz x none (some m)with
       |some y=>some (TV.c y,([]:fA),([]:List Nat),nxt)
       |none=>(match od str sz x 0 m H' with|some (y,aB)=>some (TV.c y,([]:fA),aB,nxt)|none=>none))
      |none=>none)=_
     split at h
     .split at h
      .exact h
      .split at h
       .rename_i hl;obtain⟨_,_,h3,_⟩:=(by simpa using h:_/\_/\_=aB/\_)
        subst h3;rw[yN hl ha];exact h
       .simp at h
     .simp at h
   |true=>
    match vs,h with
    |[some (.c x),l,m],h=>
     change (match cD l,cD m with
      |some l,some m=>(match fQ str sz x (some l) (some m)with
       |some y=>some (TV.c y,([]:fA),([]:List Nat),nxt)
       |none=>(match od str sz x l m H with|some (y,aB)=>some (TV.c y,([]:fA),aB,nxt)|none=>none))
      |_,_=>none)=_ at h
     show(match cD l,cD m with
      |some l,some m=>(match fQ str sz x (some l) (some m)with
       |some y=>some (TV.c y,([]:fA),([]:List Nat),nxt)
       |none=>(match od str sz x l m H' with|some (y,aB)=>some (TV.c y,([]:fA),aB,nxt)|none=>none))
      |_,_=>none)=_
     split at h
     .split at h
      .exact h
      .split at h
       .rename_i hl;obtain⟨_,_,h3,_⟩:=(by simpa using h:_/\_/\_=aB/\_)
        subst h3;rw[yN hl ha];exact h
       .simp at h
     .simp at h
 |append sz=>match vs,h with|[some (.c s),some (.c x)],h=>exact Cq (s:=s) (x:=x) h ha
 |copy sz=>
  match vs,h with
  |[some (.c d),some (.c x)],h=>
   change (match mD sz d x H with|some (i,u,aB)=>some (lv (.int .i64 i),u,aB,nxt)|none=>(match pE sz d x H with|some (i,u,aB)=>some (lv (.int .i64 i),u,aB,nxt)|none=>none))=_ at h;show(match mD sz d x H' with|some (i,u,aB)=>some (lv (.int .i64 i),u,aB,nxt)|none=>(match pE sz d x H' with|some (i,u,aB)=>some (lv (.int .i64 i),u,aB,nxt)|none=>none))=_;split at h
   .rename_i hl;obtain⟨_,_,h3,_⟩:=(by simpa using h:_/\_/\_=aB/\_)
    subst h3;rw[Gp hl ha];exact h
   .split at h
    .rename_i hl;obtain⟨_,_,h3,_⟩:=(by simpa using h:_/\_/\_=aB/\_)
     subst h3;obtain⟨e1,e2⟩:=Ek hl ha;rw[e2,e1];exact h
    .simp at h
 |LH=>
  match vs,h with
  |[some (.c x)],h=>
   change (match zC x H with|some (n,aB)=>some (lv (.int .i64 n),([]:fA),aB,nxt)|none=>none)=_ at h;show(match zC x H' with|some (n,aB)=>some (lv (.int .i64 n),([]:fA),aB,nxt)|none=>none)=_;split at h
   .rename_i m ids1 hl;obtain⟨_,_,h3,_⟩:=(by simpa using h:_/\_/\_=aB/\_)
    subst h3
    have:zC x H'=some (m,ids1):=by
     unfold zC at hl|-;split at hl
     .rename_i id off len
      have hid:id∈ids1:=by
       repeat' split at hl
       all_goals first
        |(simp at hl;done)
        |(obtain⟨_,h2⟩:=(by simpa using hl:_/\[id]=ids1);rw[<-h2];simp)
      simp only[ha id hid];exact hl
     .simp at hl
    rw[this];exact h
   .simp at h
 |Qo=>
  match vs,h with
  |[some (.c x),some (.c y)],h=>
   change (match zB x y H with|some aB=>some (lv (.bool false),([]:fA),aB,nxt)|none=>none)=_ at h;show(match zB x y H' with|some aB=>some (lv (.bool false),([]:fA),aB,nxt)|none=>none)=_;split at h
   .rename_i ids1 hl;obtain⟨_,_,h3,_⟩:=(by simpa using h:_/\_/\_=aB/\_)
    subst h3
    have:zB x y H'=some ids1:=by
     unfold zB at hl|-;split at hl
     .rename_i a o1 l1 sz2 b o2 l2
      have hid:ids1=[a,b]:=by
       repeat' split at hl
       all_goals first
        |(simp at hl;done)
        |(exact(aa hl).symm)
      subst hid;simp only[ha a (by simp),ha b (by simp)];exact hl
     .simp at hl
    rw[this];exact h
   .simp at h
 |Q0 z=>
  match vs,h with
  |[some (.c x),some (.c (.d (.lit (.int k1 k))))],h=>
   change Be z x k H nxt=_ at h;show Be z x k H' nxt=_;unfold Be at h|-;split at h
   .rename_i sz' id off len
    have hid:id∈aB:=by
     repeat' split at h
     all_goals first
      |(simp at h;done)
      |(obtain⟨_,_,h2,_⟩:=(by simpa using h:_/\_/\[id]=aB/\_);rw[<-h2];simp)
    simp only[ha id hid];exact h
   .simp at h
 |call ro j7=>match vs,h with|f::vs,h=>exact GA (f:=f) (vs:=vs) h ha
 |lookup ka ks va z ok=>
  match vs,h with
  |[some (.c m),some k],h=>
   change (match iw ka ks va z ok m k H with|some (v,aB)=>some (v,([]:fA),aB,nxt)|none=>none)=_ at h;show(match iw ka ks va z ok m k H' with|some (v,aB)=>some (v,([]:fA),aB,nxt)|none=>none)=_;split at h
   .rename_i hl;obtain⟨_,_,h3,_⟩:=(by simpa using h:_/\_/\_=aB/\_)
    subst h3;rw[B1 hl ha];exact h
   .simp at h
 |mapEntry ka ks va z=>
  match vs,h with
  |[some (.c m),some k],h=>
   change (match nr ka ks va z m k H with|some (v,u,aB)=>some (v,u,aB,nxt)|none=>none)=_ at h;show(match nr ka ks va z m k H' with|some (v,u,aB)=>some (v,u,aB,nxt)|none=>none)=_;split at h
   .rename_i hl;obtain⟨_,_,h3,_⟩:=(by simpa using h:_/\_/\_=aB/\_)
    subst h3;rw[Ea hl ha];exact h
   .simp at h
 |entryStore va n=>
  match vs,h with
  |[some (.c m),s,some x],h=>
   change (match nu va n m s x H with|some (u,aB)=>some (TV.iP [],u,aB,nxt)|none=>none)=_ at h;show(match nu va n m s x H' with|some (u,aB)=>some (TV.iP [],u,aB,nxt)|none=>none)=_;split at h
   .rename_i hl;obtain⟨_,_,h3,_⟩:=(by simpa using h:_/\_/\_=aB/\_)
    subst h3;rw[Ce hl ha];exact h
   .simp at h
 |_=>rw[IR (H:=H') (H':=H) rfl];exact h
end
end Go.Ev
