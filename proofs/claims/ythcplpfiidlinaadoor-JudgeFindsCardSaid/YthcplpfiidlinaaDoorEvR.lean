/- Calls: what a callee's answer means, and that a caller may use it. Conditions: the relation of XEvC. -/
import Derived.Test.YthcplpfiidlinaaDoorEvLa
open Array renaming getD_eq_getD_getElem?->bw,getElem?_setIfInBounds->kG,toArray_toList->lC
open Bool renaming and_eq_true->ai,false_eq_true->aT
open List renaming all_eq_true->bd,append_assoc->aJ,cons_append->aU,flatMap_cons->bk,getElem?_append_left->bO,getElem?_append_right->bR,getElem?_eq_getElem->aw,getElem?_eq_some_iff->ak,getElem?_map->aH,length_map->aO,map_cons->aD,mem_append->ap,mem_append_left->aE,mem_append_right->aG,mem_cons->aN,mem_cons_of_mem->aC,mem_flatMap->bU,mem_flatten->dO,mem_map->cj,mem_of_getElem?->aX,mem_singleton->ao,nodup_append->bZ,nodup_cons->fZ,singleton_append->aZ
open List.cons renaming injEq->dQ
open Nat renaming le_refl->au,le_trans->fq,lt_of_lt_of_le->cn,mul_one->ly
open Option renaming bind_some->af,getD_some->fK,isSome_iff_exists->hZ,map_eq_some_iff->aF
open Option.some renaming inj->aa,injEq->bn
open Prod.mk renaming inj->ad,injEq->dg
namespace Go.Ev
def RA(S:Nat->Prop)(w:World):A->Value->List Nat->Prop
 |.d x,v,fp=>RD S w x v/\fp=[]
 |.agg xs,v,fp=>∃aM,v=.agg aM/\xs.length=aM.size/\(∀(i:Nat)(x:D),xs[i]?=some x->RD S w x (aM.getD i undef))/\fp=[]
 |.mt t,v,fp=>RT S w t v fp
def Nt(S:Nat->Prop)(w:World):List A->List Value->List Nat->Prop
 |[],[],fp=>fp=[]
 |a::as,v::vs,fp=>∃f1 f2,fp=f1++f2/\RA S w a v f1/\Nt S w as vs f2
 |_,_,_=>False
def RR(S:Nat->Prop)(w:World):R->Value->List Nat->Prop
 |.c t,v,fp=>RT S w t v fp
 |.agg ts,v,fp=>∃(aM:Array Value)(fps:List (List Nat)),v=.agg aM/\ts.length=aM.size/\fps.length=ts.length/\fps.flatten=fp/\∀(i:Nat)(t:T)(f:List Nat),ts[i]?=some t->fps[i]?=some f->RT S w t (aM.getD i undef) f
def EV(S:Nat->Prop)(w:World):List R->List Value->List Nat->Prop
 |[],[],fp=>fp=[]
 |r::rs,v::vs,fp=>∃f1 f2,fp=f1++f2/\RR S w r v f1/\EV S w rs vs f2
 |_,_,_=>False
def PP(S:Nat->Prop)(w:World):List T->List Value->List Nat->Prop
 |[],[],fp=>fp=[]
 |t::ts,v::vs,fp=>∃f1 f2,fp=f1++f2/\((t=.uS/\f1=[])\/RT S w t v f1)/\PP S w ts vs f2
 |_,_,_=>False
def oC:List A->List Value->List Value
 |.mt _::as,v::vs=>v::oC as vs
 |_::as,_::vs=>oC as vs
 |_,_=>[]
def yB:List Value->Value
 |[v]=>v
 |vs=>.tuple vs.toArray
def RH(P:Program)(f:FuncId)(args:Array Value)(w:World)(R:Value->World->Prop):Prop:=
 (∃g as,(callFunc f args).run P w=.ok (.enter g as) w/\Calls P g as w fun e w'=>∃v,e=.returned v/\R v w')\/
 (∃v,(callFunc f args).run P w=.ok (.value v) w/\R v w)
def Left(S:Nat->Prop)(w:World)(fp:List Nat)(rs:List R)(outs:List T)(lent:List Value)(v:Value)(w':World):Prop:=
 ∃(S':Nat->Prop)(kN:List Value)(fp1 fp2:List Nat),v=yB kN/\hC S w S' w'/\(∀b,S' b->S b\/b∈fp\/w.heap.size<=b)/\(∀b,S' b->b<w'.heap.size)/\
  EV S' w' rs kN fp1/\PP S' w' outs lent fp2/\(fp1++fp2).Nodup/\(∀b∈fp1++fp2,¬S' b/\(b∈fp\/w.heap.size<=b))/\G2 (fun b=>b<w.heap.size/\b∉fp) w w'
def sy(P:Program)(f:FuncId)(as:List A)(rs:List R)(outs:List T):Prop:=
 ∀(S:Nat->Prop)(w:World)(vs:List Value)(fp:List Nat),(∀b,S b->b<w.heap.size)->Nt S w as vs fp->fp.Nodup->(∀b∈fp,¬S b)->u4 S w->
  RH P f vs.toArray w (Left S w fp rs outs (oC as vs))
def ny(P:Program)(call:Call):Prop:=∀f as rs outs,call f as=some (rs,outs)->sy P f as rs outs
theorem Nt.CL{S S':Nat->Prop}{w:World}(hs:hC S w S' w){as:List A}:∀{vs:List Value}{fp:List Nat},Nt S w as vs fp->Nt S' w as vs fp:=by
 induction as with
 |nil=>intro vs fp h;cases vs<;>exact h
 |cons x as ih=>
  intro vs fp h;cases vs with
  |nil=>exact h
  |cons v vs=>obtain⟨f1,f2,h1,h2,h3⟩:=h;refine⟨f1,f2,h1,?_,ih h3⟩;cases x with|d y=>exact⟨h2.1.mono hs,h2.2⟩|agg xs=>obtain⟨aM,q1,q2,q3,q4⟩:=h2;exact⟨aM,q1,q2,fun i x hi=>(q3 i x hi).mono hs,q4⟩|mt t=>exact RT.mono hs h2 fun _ _=>rfl
section
variable{P:Program}{S K:Nat->Prop}{w0 w:World}{Kn:Nat->Prop}{φ:Nat->gO}{H:bF}{e:jP}{ρ:Operand->Value}{o:Oper}{call:Call}
 {nxt n':Nat} {v:TV} {u:fF} {aA:List Nat}
inductive J8(Kn:Nat->Prop)(φ:Nat->gO)(S:Nat->Prop)(w:World):List (C×List Nat×List Nat)->List Value->Prop
 |nil:J8 Kn φ S w [] []
 |cons {c:C} {bv rd:List Nat} {l:List (C×List Nat×List Nat)} {v:Value} {vs:List Value} (h:RC S w Kn φ c v) (hl:J8 Kn φ S w l vs):J8 Kn φ S w ((c,bv,rd)::l) (v::vs)
theorem GW{H:bF}(hI:Inv S K w0 Kn φ (aB H) w):∀(tvs:List TV)(ms:List Bool)(as:List A)(aA:List Nat)(lent:List (C×List Nat×List Nat))(vs:List Value),
  gD H tvs ms=some (as,aA,lent)->tvs.length=vs.length->(∀(i:Nat)(t:TV)(v:Value),tvs[i]?=some t->vs[i]?=some v->gr S w Kn φ t v)->
  Nt (SB S w φ (aB H) aA) w as vs ((lent.flatMap (·.2.1)).flatMap (iw w φ (aB H)))/\(∀i∈lent.flatMap (·.2.1),∃o,aB H i=some o/\cX o=true)/\J8 Kn φ S w lent (oC as vs):=by
 intro tvs;induction tvs with
 |nil=>
  intro ms as aA lent vs h hl hr;obtain⟨rfl,rfl,rfl⟩:[]=as/\[]=aA/\[]=lent:=by simpa[gD]using h
  obtain rfl:vs=[]:=List.length_eq_zero_iff.1 hl.symm;exact⟨rfl,fun i hi=>by simp at hi,.nil⟩
 |cons t tvs ih=>
  intro ms as aA lent vs h hl hr;cases vs with
  |nil=>simp at hl
  |cons v vs=>
   have h0:=hr 0 t v rfl rfl;simp only[gD]at h;split at h
   .simp at h
   .rename_i as1 ids1 lent1 hrec;obtain⟨i1,i2,i3⟩:=ih ms.tail as1 ids1 lent1 vs hrec (by simpa using hl) (fun i t v hi hv=>hr (i+1) t v (by simpa using hi) (by simpa using hv));split at h
    .split at h
     .rename_i c;split at h
      .rename_i t0 bv rd hp;obtain⟨rfl,rfl,rfl⟩:A.mt t0::as1=as/\ids1=aA/\(c,bv,rd)::lent1=lent:=by simpa using h
       cases h0 with
       |c h0=>
        obtain⟨p1,p2⟩:=(rD hI 300).1 c t0 bv rd v hp h0;refine⟨⟨bv.flatMap (iw w φ (aB H)),_,by simp,p1.mono (SB.uC _) (fun _ _=>rfl),i1⟩,fun i hi=>?_,.cons h0 i3⟩;rcases ap.1 (by simpa using hi:i∈bv++lent1.flatMap (·.2.1))with hi|hi
        .exact p2 i hi
        .exact i2 i hi
      .simp at h
     .simp at h
    .split at h
     .rename_i c;split at h
      .rename_i x i hp;obtain⟨rfl,rfl,rfl⟩:A.d x::as1=as/\i++ids1=aA/\lent1=lent:=by simpa using h
       cases h0 with|c h0=>have p1:=(uy hI 300).1 c x i v hp h0;refine⟨⟨[],_,rfl,⟨p1.mono (SB.CL _ _ fun j hj=>by simp[hj]),rfl⟩,?_⟩,i2,i3⟩;exact i1.CL (SB.CL _ _ fun j hj=>by simp[hj])
      .simp at h
     .rename_i cs;split at h
      .rename_i xs i hp;obtain⟨rfl,rfl,rfl⟩:A.agg xs::as1=as/\i++ids1=aA/\lent1=lent:=by simpa using h
       cases h0 with
       |@agg _ aM hlen h0=>
        obtain⟨q1,q2⟩:=rl hI cs xs i hp (fun i=>aM[i]?) (fun i c hi=>by
         have hlt:i<aM.size:=by rw[<-hlen];exact(ak.1 hi).1
         exact⟨aM.getD i undef,by simp[hlt],h0 i c hi⟩)
        refine⟨⟨[],_,rfl,⟨aM,rfl,q1.trans hlen,fun j x hj=>?_,rfl⟩,?_⟩,i2,i3⟩
        .obtain ⟨y,hy,hd⟩:=q2 j x hj;have hy':aM[j]?=some y:=hy;have e1:aM.getD j undef=y:=by simp[hy']
         rw[e1];exact hd.mono (SB.CL _ _ fun k hk=>by simp[hk])
        .exact i1.CL (SB.CL _ _ fun j hj=>by simp[hj])
      .simp at h
     .simp at h
end
section
variable{P:Program}{S K:Nat->Prop}{w0 w:World}{Kn:Nat->Prop}{φ:Nat->gO}{hf:Nat->Option Ob}{H:bF}{e:jP}{ρ:Operand->Value}{o:Oper}{call:Call}
 {nxt n':Nat} {v:TV} {u:fF} {aA:List Nat}
theorem rW.O4{fa fb:List Nat}{n m:Nat}{φ1:Nat->gO}(hI:Inv S K w0 Kn φ hf w)(h:rW S K w0 w Kn φ hf fa n m u φ1)(ha:ja w φ hf fb)(hd:∀x∈fa,x∉fb):ja w φ1 (bm u hf) fb:=by
 intro j o hj hown x hx hm;by_cases hu:∃p∈u,p.1=j
 .obtain ⟨p,hp,rfl⟩:=hu;exact hd _ (h.bY p hp x hx) hm
 .have hfn:cA u j=none:=lm fun p hp e=>hu ⟨p,hp,e⟩;have hj':=hj;simp only[bm,hfn]at hj';have hk:=(hI.iR j o hj').1;rw[gF (h.sB.eC j hk) (hj.trans hj'.symm)]at hx;exact ha j o hj' hown x hx hm
theorem Ib(r:R)(nxt:Nat)(v:Value)(fp:List Nat)(hI:Inv S K w0 Kn φ hf w)(hfr:∀j,nxt<=j->j<(w6 nxt r).2.2->¬Kn j)(h:RR S w r v fp)(hn:fp.Nodup)(hSK:∀b∈fp,¬S b/\¬K b)(ha:ja w φ hf fp):
  ∃φ',rW S K w0 w Kn φ hf fp nxt (w6 nxt r).2.2 (w6 nxt r).2.1 φ'/\gr S w (pn Kn nxt (w6 nxt r).2.2) φ' (w6 nxt r).1 v:=by
 cases r with|c t=>obtain⟨φ',h1,h2⟩:=vW t nxt v fp hI hfr h hn hSK ha;exact⟨φ',h1,.c h2⟩|agg ts=>obtain⟨aM,fps,rfl,h1,h2,rfl,h3⟩:=h;obtain⟨φ',h4,h5,h6⟩:=tF ts nxt (fun i=>aM.getD i undef) fps hI hfr h2 h3 hn hSK ha;exact⟨φ',h4,.agg (h5.trans h1) h6⟩
theorem P1(r:R)(nxt:Nat):nxt<=(w6 nxt r).2.2:=by cases r with|c t=>exact Kj t nxt|agg ts=>exact vV ts nxt
theorem nG(nxt:Nat)(r:R)(rs:List R):ir nxt (r::rs)=((w6 nxt r).1::(ir (w6 nxt r).2.2 rs).1,(w6 nxt r).2.1++(ir (w6 nxt r).2.2 rs).2.1,(ir (w6 nxt r).2.2 rs).2.2):=rfl
theorem G6:∀(rs:List R)(nxt:Nat),nxt<=(ir nxt rs).2.2:=by intro rs;induction rs with|nil=>intro nxt;exact au _|cons r rs ih=>intro nxt;rw[nG];exact fq (P1 r nxt) (ih _)
theorem x9:∀(rs:List R){Kn:Nat->Prop}{φ:Nat->gO}{hf:Nat->Option Ob}(nxt:Nat)(vs:List Value)(fp:List Nat),Inv S K w0 Kn φ hf w->(∀j,nxt<=j->j<(ir nxt rs).2.2->¬Kn j)->EV S w rs vs fp->fp.Nodup->
  (∀b∈fp,¬S b/\¬K b)->ja w φ hf fp->
  ∃φ',rW S K w0 w Kn φ hf fp nxt (ir nxt rs).2.2 (ir nxt rs).2.1 φ'/\(ir nxt rs).1.length=vs.length/\
   ∀(i:Nat)(t:TV)(v:Value),(ir nxt rs).1[i]?=some t->vs[i]?=some v->gr S w (pn Kn nxt (ir nxt rs).2.2) φ' t v:=by
 intro rs;induction rs with
 |nil=>intro Kn φ hf nxt vs fp hI hfr h hn hSK ha;cases vs with|cons v vs=>exact h.elim|nil=>obtain rfl:fp=[]:=h;exact⟨φ,rW.nil hI _ _,rfl,fun i t v hi=>by simp[ir]at hi⟩
 |cons r rs ih=>
  intro Kn φ hf nxt vs fp hI hfr h hn hSK ha;cases vs with
  |nil=>exact h.elim
  |cons v vs=>
   obtain⟨f1,f2,rfl,h1,h2⟩:=h;rw[bZ]at hn;obtain⟨hn1,hn2,hn3⟩:=hn;simp only[ap]at hSK;obtain⟨φ1,hL1,hr1⟩:=Ib r nxt v f1 hI (fun j hj hj2=>hfr j hj (by rw[nG];exact cn hj2 (G6 rs _))) h1 hn1 (fun b hb=>hSK b (.inl hb)) (fun j o hj hown x hx hm=>ha j o hj hown x hx (by simp[hm]))
   obtain⟨φ2,hL2,hlen,hr2⟩:=ih (Kn:=pn Kn nxt (w6 nxt r).2.2) (φ:=φ1) (hf:=bm (w6 nxt r).2.1 hf) (w6 nxt r).2.2 vs f2 hL1.inv (fun j hj hj2 hk=>by
    rcases hk with hk|hk
    .have:=hL1.le;exact hfr j (by omega) (by rw[nG];exact hj2) hk
    .omega) h2 hn2 (fun b hb=>hSK b (.inr hb)) (hL1.O4 hI (fun j o hj hown x hx hm=>ha j o hj hown x hx (by simp[hm])) fun x hx hx2=>hn3 x hx x hx2 rfl)
   have hcomp:=hL1.pY hL2;have hcm:bm ((ir (w6 nxt r).2.2 rs).2.1++(w6 nxt r).2.1) hf=bm ((w6 nxt r).2.1++(ir (w6 nxt r).2.2 rs).2.1) hf:=mJ fun p hp q hq e=>by have h1:=hL2.gM p hp;have h2:=hL1.gM q hq;omega
   have hsub:∀i,pn (pn Kn nxt (w6 nxt r).2.2) (w6 nxt r).2.2 (ir (w6 nxt r).2.2 rs).2.2 i->pn Kn nxt (ir (w6 nxt r).2.2 rs).2.2 i:=fun i=>(rF hL1.le hL2.le i).1;refine⟨φ2,?_,by simp[nG,hlen],fun i t v' hi hv=>?_⟩
   .simp only[nG];have hsw:∀{p:Nat×Option Ob}{a b:fF},p∈a++b->p∈b++a:=fun hp=>ap.2 (ap.1 hp).symm;exact⟨hcomp.le,hcomp.sB,hcm▸hcomp.inv,fun p hp=>hcomp.gM p (hsw hp),fun p hp x hx=>hcomp.bY p (hsw hp) x (hcm.symm▸hx)⟩
   .cases i with
    |zero=>
     obtain rfl:(w6 nxt r).1=t:=by simpa[nG]using hi
     obtain rfl:v=v':=by simpa using hv
     exact(hr1.mono (hC.refl _ _) hL2.sB).kn hsub
    |succ i=>exact(hr2 i t v' (by simpa[nG]using hi) (by simpa using hv)).kn hsub
theorem Inv.put(h:Inv S K w0 Kn φ hf w){i:Nat}(hi:Kn i)(o:Ob)(hfree:cX o=true->∀j b,hf j=some b->cX b=true->j≠i->(φ i).bY∉iw w φ hf j)
  (hro:RO S K w Kn φ (φ i) o)
  (hp:∀sz sl k x,o=.nst sz sl->sj w (φ i) sl k x->x≠(φ i).bY/\(∀j b,hf j=some b->cX b=true->j≠i->x∉iw w φ hf j)/\∀k',sj w (φ i) sl k' x->k'=k:=by intro _ _ _ _ e;cases e):
  Inv S K w0 Kn φ (bm [(i,some o)] hf) w:=by
 have hold:∀j b,bm [(i,some o)] hf j=some b->(j=i/\b=o)\/(j≠i/\hf j=some b):=by
  intro j b hj;rw[bT]at hj;by_cases e:i=j
  .rw [if_pos e]at hj;exact .inl ⟨e.symm,(aa hj).symm⟩
  .rw [if_neg e,fP]at hj;exact .inr ⟨fun q=>e q.symm,hj⟩
 refine h.vb (hC.refl _ _) (Ren.refl _ _) h.u6 h.sk h.nB ?_ ?_ ?_
 .intro id o' ho;rcases hold id o' ho with⟨rfl,rfl⟩|⟨_,ho'⟩
  .exact .inr ⟨hi,hro⟩
  .exact .inl ⟨ho',fun hown=>⟨rfl,((h.iR id o' ho').2.bv hown).1⟩,h.D9 ho' fun _ _=>rfl⟩
 .intro a b oa ob ha hb hoa hob hne;rcases hold a oa ha with⟨e1,e2⟩|⟨n1,ha'⟩<;>rcases hold b ob hb with⟨e3,e4⟩|⟨n2,hb'⟩
  .exact absurd (e1.trans e3.symm) hne
  .rw [e1];exact fun e=>hfree (e2▸hoa) b ob hb' hob n2 (dX.2 (.inl e))
  .rw [e3];exact fun e=>hfree (e4▸hob) a oa ha' hoa n1 (dX.2 (.inl e.symm))
  .exact h.eR a b oa ob ha' hb' hoa hob hne
 .intro a sz sl k x ha hpa;rcases hold a _ ha with⟨ea,eo⟩|⟨na,ha'⟩
  .rw [ea]at hpa;obtain⟨p1,p2,p3⟩:=hp sz sl k x eo.symm hpa;refine⟨fun j b hj hown=>?_,fun j sz' sl' k' hj hpj=>?_⟩
   .rcases hold j b hj with⟨ej,_⟩|⟨nj,hj'⟩
    .rw [ej];exact fun e=>p1 e.symm
    .exact fun e=>p2 j b hj' hown nj (dX.2 (.inl e.symm))
   .rcases hold j _ hj with⟨ej,eo2⟩|⟨nj,hj'⟩
    .rw [ej]at hpj;rw[<-eo]at eo2;cases eo2;exact⟨ej.trans ea.symm,p3 k' hpj⟩
    .exact absurd (dX.2 (.inr ⟨sz',sl',k',hj',hpj⟩)) (p2 j _ hj' rfl nj)
  .obtain ⟨p1,p2⟩:=h.xe a sz sl k x ha' hpa;refine⟨fun j b hj hown=>?_,fun j sz' sl' k' hj hpj=>?_⟩
   .rcases hold j b hj with⟨ej,eo⟩|⟨_,hj'⟩
    .rw [ej];exact fun e=>hfree (eo▸hown) a _ ha' rfl na (dX.2 (.inr ⟨sz,sl,k,ha',e▸hpa⟩))
    .exact p1 j b hj' hown
   .rcases hold j _ hj with⟨ej,eo⟩|⟨_,hj'⟩
    .rw [ej]at hpj;exact absurd (dX.2 (.inr ⟨sz,sl,k,ha',hpa⟩)) ((hp sz' sl' k' x eo.symm hpj).2.1 a _ ha' rfl na)
    .exact p2 j sz' sl' k' hj' hpj
structure SZ(S K:Nat->Prop)(w0 w:World)(Kn:Nat->Prop)(φ:Nat->gO)(hf:Nat->Option Ob)(fp:List Nat)(owns:List Nat)(nxt m:Nat)(u:fF)(φ':Nat->gO):Prop where
 le:nxt<=m
 sB:Ren Kn φ (pn Kn nxt m) φ'
 inv:Inv S K w0 (pn Kn nxt m) φ' (bm u hf) w
 Gc:∀p∈u,p.1∈owns\/(nxt<=p.1/\p.1<m)
 Sy:∀i∈owns,(cA u i).isSome=true
 bY:∀i o,bm u hf i=some o->cX o=true->(i∈owns\/(nxt<=i/\i<m))->∀x∈iw w φ' (bm u hf) i,x∈fp
def j5(l:List (C×List Nat×List Nat)):List Nat:=l.flatMap (·.2.1)
theorem qW(bv:List Nat)(j:Nat):cA (bv.map fun i=>((i,none):Nat×Option Ob)) j=if j∈bv then some none else none:=by
 induction bv with
 |nil=>rfl
 |cons a l ih=>
  simp only[aD,cA];by_cases e:a=j
  .simp [e]
  .have e':(a==j)=false:=by simpa using e
   have e2:¬j=a:=fun h=>e h.symm;simp[e',ih,e2]
theorem RC.Qn{id off:Nat}{v:Value}(h:RC S w Kn φ (.op id off) v):v=.pointer (some ⟨(φ id).bY,(φ id).aR+off,none⟩)/\Kn id:=by cases h with|op hk=>exact⟨rfl,hk⟩
theorem nw.Ki{w:World}{b:Nat}{a a':Array Value}(h:nw w b a)(h':nw w b a'):a=a':=by obtain⟨t,h⟩:=h;obtain⟨t',h'⟩:=h';rw[h]at h';simp at h';exact h'.1
theorem rN{α:Type}{u:List (Nat×α)}{id:Nat}{x:α}(h:cA u id=some x):∃p∈u,p.1=id:=by
 induction u with
 |nil=>simp[cA]at h
 |cons p r ih=>
  obtain⟨i,y⟩:=p;by_cases e:i=id
  .exact ⟨(i,y),by simp,e⟩
  .have e2:(i==id)=false:=by simpa using e
   simp only[cA,e2,cond_false]at h;obtain⟨p,hp,hpe⟩:=ih h;exact⟨p,by simp[hp],hpe⟩
theorem Bl:∀(l:List (C×List Nat×List Nat))(outs:List T)(nxt:Nat)(bu:fF)(m:Nat),fc nxt l outs=some (bu,m)->nxt<=m:=by
 intro l;induction l with
 |nil=>
  intro outs nxt bu m h;cases outs with
  |nil=>obtain⟨_,rfl⟩:[]=bu/\nxt=m:=by simpa[fc]using h
        exact au _
  |cons t ts=>simp[fc]at h
 |cons p l ih=>
  obtain⟨c,bv,rd⟩:=p;intro outs nxt bu m h;cases outs with
  |nil=>unfold fc at h;simp at h
  |cons t outs=>
   unfold fc at h;split at h
   .simp at*
   .rename_i heq1 heq2;simp only[dQ,dg]at heq1 heq2;obtain⟨_,rfl⟩:=heq1;exact ih _ _ _ _ h
   .rename_i heq1 heq2;simp only[dQ,dg]at heq1 heq2;obtain⟨_,rfl⟩:=heq1;split at h
    .rename_i w2 k hrec;split at h
     .obtain ⟨_,rfl⟩:=ad (aa h);exact fq (vV _ _) (ih _ _ _ _ hrec)
     .simp at h
    .simp at h
   .rename_i heq1 heq2;simp only[dQ,dg]at heq1 heq2;obtain⟨_,rfl⟩:=heq1;split at h
    .split at h
     .rename_i w2 k hrec;obtain⟨_,rfl⟩:=ad (aa h);exact ih _ _ _ _ hrec
     .simp at h
    .simp at h
   .rename_i heq1 heq2;simp only[dQ,dg]at heq1 heq2;obtain⟨_,rfl⟩:=heq1;split at h
    .split at h
     .rename_i w2 k hrec;obtain⟨_,rfl⟩:=ad (aa h);exact ih _ _ _ _ hrec
     .simp at h
    .simp at h
   .rename_i heq1 heq2;simp only[dQ,dg]at heq1 heq2;obtain⟨_,rfl⟩:=heq1;split at h
    .rename_i w2 k hrec;obtain⟨_,rfl⟩:=ad (aa h);exact ih _ _ _ _ hrec
    .simp at h
   .simp at h
theorem D4{H0:bF}{S0 K0:Nat->Prop}{wp wz:World}{Kn0:Nat->Prop}{φ0:Nat->gO}(hI0:Inv S0 K0 wz Kn0 φ0 (aB H0) wp){id len:Nat}
  (hw:(match aB H0 id with|some (.aM _ aq)=>(0==0)&&len==aq.length|some (.nst _ slots)=>(0==0)&&len==slots.length|_=>false)=true):
  ∃aM,nw wp (φ0 id).bY aM/\aM.size=(φ0 id).ext/\(φ0 id).aR+len*(φ0 id).sz<=(φ0 id).ext/\len<=(φ0 id).cap:=by
 split at hw
 .rename_i sz aq ho;obtain⟨_,h0⟩:=hI0.iR _ _ ho;have hl:len=aq.length:=by simpa using hw
  subst hl;cases h0 with|aM hsz hl hS hK hown hext hfit hr hv=>exact⟨_,hown,hext,by rw[hl];exact hfit,hv⟩
 .rename_i sz slots ho;obtain⟨_,h0⟩:=hI0.iR _ _ ho;have hl:len=slots.length:=by simpa using hw
  subst hl;cases h0 with|nst hsz hl hS hK hown hext hfit hr hv=>exact⟨_,hown,hext,by rw[hl,ly];exact hfit,hv⟩
 .cases hw
theorem GU{H0:bF}{S0:Nat->Prop}{wp:World}{Kn0:Nat->Prop}{φ0:Nat->gO}{K0:Nat->Prop}{wz:World}(hI0:Inv S0 K0 wz Kn0 φ0 (aB H0) wp)(hgrow:∀b aM,nw wp b aM->∃arr',nw w b arr'/\arr'.size=aM.size):
  ∀(l:List (C×List Nat×List Nat))(vs:List Value)(outs:List T)(fp:List Nat){Kn:Nat->Prop}{φ:Nat->gO}{hf:Nat->Option Ob}(nxt:Nat)(bu:fF)(m:Nat),
  J8 Kn0 φ0 S0 wp l vs->eS H0 l=true->PP S w outs vs fp->Inv S K w0 Kn φ hf w->(∀j,nxt<=j->j<m->¬Kn j)->Ren Kn0 φ0 Kn φ->fp.Nodup->(∀b∈fp,¬S b/\¬K b)->ja w φ hf fp->
  (∀i∈j5 l,hf i=none/\Kn0 i)->(j5 l).Nodup->fc nxt l outs=some (bu,m)->∃φ',SZ S K w0 w Kn φ hf fp (j5 l) nxt m bu φ':=by
 intro l;induction l with
 |nil=>
  intro vs outs fp Kn φ hf nxt bu m hl hw hr hI hfr hren hn hSK ha hown hon h;cases hl;cases outs with
  |cons t ts=>exact hr.elim
  |nil=>
   obtain⟨rfl,rfl⟩:[]=bu/\nxt=m:=by simpa[fc]using h
   exact⟨φ,au _,tP _ _,hI.kn fun _ hi=>.inl hi,fun p hp=>by simp at hp,fun i hi=>by simp[j5]at hi,fun i o _ _ hx=>by
    rcases hx with hx|hx
    .simp [j5]at hx
    .omega⟩
 |cons p l ih=>
  obtain⟨c,bv,rd⟩:=p;intro vs outs fp Kn φ hf nxt bu m hl hw hr hI hfr hren hn hSK ha hown hon h;cases hl with
  |@cons _ _ _ _ v vs hc hl=>
  cases outs with
  |nil=>exact hr.elim
  |cons t outs=>
   obtain⟨f1,f2,rfl,hr1,hr2⟩:=hr;rw[bZ]at hn;obtain⟨hn1,hn2,hn3⟩:=hn;simp only[ap]at hSK;have ha1:ja w φ hf f1:=fun j o hj hown x hx hm=>ha j o hj hown x hx (by simp[hm]);have ha2:ja w φ hf f2:=fun j o hj hown x hx hm=>ha j o hj hown x hx (by simp[hm]);have ho1:∀i∈bv,hf i=none/\Kn0 i:=fun i hi=>hown i (by simp[j5,hi]);have ho2:∀i∈j5 l,hf i=none/\Kn0 i:=fun i hi=>hown i (by simp only[j5,bk,ap];exact .inr hi);have hoc:j5 ((c,bv,rd)::l)=bv++j5 l:=rfl;rw[hoc,bZ]at hon;obtain⟨hon1,hon2,hon3⟩:=hon;have hw2:eS H0 l=true:=by cases c<;>simp only[eS,ai]at hw<;>first|exact hw|exact hw.2
   have fin:∀(id:Nat)(ob:Ob)(w2:fF)(k:Nat),bv=[id]->(bu,m)=((id,some ob)::w2,k)->fc nxt l outs=some (w2,k)->Inv S K w0 Kn φ (bm [(id,some ob)] hf) w->(∀x∈iw w φ (bm [(id,some ob)] hf) id,x∈f1)->
     ∃φ',SZ S K w0 w Kn φ hf (f1++f2) (j5 ((c,bv,rd)::l)) nxt m bu φ':=by
    intro id ob w2 k hownid hbm hrec hput hblk;subst hownid;obtain⟨rfl,rfl⟩:=ad hbm;obtain⟨hidn,hidk0⟩:=ho1 id (by simp);have hidk:=hren.sub id hidk0;have hφ:=hren.eC id hidk0;have hidlt:¬(nxt<=id/\id<m):=fun h=>hfr id h.1 h.2 hidk
    obtain⟨φ2,hB⟩:=ih vs outs f2 nxt w2 m hl hw2 hr2 hput hfr hren hn2 (fun b hb=>hSK b (.inr hb))
     (fun j o hj hown x hx hm=>by
      have hj':=hj;rw[bT]at hj';split at hj'
      .rename_i e;subst e;exact hn3 x (hblk x hx) x hm rfl
      .rw [gF rfl (hj.trans hj'.symm)]at hx;exact ha2 j o hj' hown x hx hm)
     (fun i hi=>by obtain⟨h1,h2⟩:=ho2 i hi;refine⟨?_,h2⟩;have hne:¬id=i:=fun e=>hon3 id (by simp) i hi e;rw[bT,if_neg hne];exact h1) hon2 hrec
    have hkeys:=hB.Gc;have hm2:=hB.le
    have hdis:∀q∈w2,id≠q.1:=fun q hq e=>by
     rcases hkeys q hq with h|h
     .exact hon3 id (by simp) q.1 h e
     .omega
    have heq:bm ((id,some ob)::w2) hf=bm w2 (bm [(id,some ob)] hf):=by rw[<-eD];exact mJ (u:=[(id,some ob)]) fun p hp q hq e=>by rw[ao.1 hp]at e;exact hdis q hq e
    refine⟨φ2,hB.le,hB.sB,heq▸hB.inv,fun p hp=>?_,fun i hi=>?_,fun i o hio hownio hi=>?_⟩
    .rw [hoc];rcases aN.1 hp with rfl|hp
     .exact .inl (by simp)
     .rcases hkeys p hp with h|h
      .exact .inl (by simp[h])
      .exact .inr h
    .rw [hoc]at hi;simp only[cA];by_cases e:id=i
     .simp [e]
     .have e':(id==i)=false:=by simpa using e
      simp only[e',cond_false];rcases ap.1 hi with hi|hi
      .exact absurd (ao.1 hi).symm e
      .exact hB.Sy i hi
    .rw [heq]at hio|-;intro x hx;by_cases hrest:i∈j5 l\/(nxt<=i/\i<m)
     .exact aG _ (hB.bY i o hio hownio hrest x hx)
     .have hi2:i=id:=by
       rcases hi with hi|hi
       .rw [hoc]at hi;rcases ap.1 hi with h|h
        .exact ao.1 h
        .exact absurd (.inl h) hrest
       .exact absurd (.inr hi) hrest
      subst hi2;have hwn:cA w2 i=none:=lm fun q hq e=>hdis q hq e.symm
      have hwi:bm w2 (bm [(i,some ob)] hf) i=bm [(i,some ob)] hf i:=by
       conv=>lhs;unfold bm
       rw[hwn];rfl
      rw[gF (hB.sB.eC i hidk) hwi]at hx;exact aE _ (hblk x hx)
   unfold fc at h;split at h
   .simp at*
   .--nothing was owned
    rename_i heq1 heq2;simp only[dQ,dg]at heq1 heq2;obtain⟨⟨rfl,rfl,rfl⟩,rfl⟩:=heq1;obtain⟨rfl,rfl⟩:=heq2;have hr1:=hr1.resolve_left fun h=>by cases h.1
    have e0:f1=[]:=by cases hr1;rfl
    subst e0;obtain⟨φ',hB⟩:=ih vs outs f2 nxt bu m hl hw2 hr2 hI hfr hren hn2 (fun b hb=>hSK b (.inr hb)) ha2 ho2 hon2 h;exact⟨φ',hB.le,hB.sB,hB.inv,hB.Gc,hB.Sy,hB.bY⟩
   .--a box
    rename_i id own' rd' r ts' ts heq1 heq2;simp only[dQ,dg]at heq1 heq2;obtain⟨⟨rfl,rfl,rfl⟩,rfl⟩:=heq1;obtain⟨rfl,rfl⟩:=heq2;split at h
    .rename_i w2 k hrec;split at h
     .rename_i hcon;obtain⟨rfl,rfl⟩:(id,some (Ob.box (iF nxt ts').1))::(iF nxt ts').2.1++bv.map (fun i=>((i,none):Nat×Option Ob))++w2=bu/\k=m:=by simpa using h
      have hid:id∈bv:=by simpa using hcon
      obtain⟨hidn,hidk0⟩:=ho1 id hid;have hidk:=hren.sub id hidk0;have hφ:=hren.eC id hidk0;obtain⟨hv,_⟩:=hc.Qn;have hr1:=hr1.resolve_left fun h=>by cases h.1
      cases hr1 with
      |@pt _ b aM fps hown0 hlen hfl hrec2=>
      simp only[Value.pointer.injEq,bn,Addr.mk.injEq]at hv;obtain⟨hb,hbase,_⟩:=hv;rw[<-hφ]at hb hbase;have hbase0:(φ id).aR=0:=by omega
      rw[fZ]at hn1;have hmk:=Bl _ _ _ _ _ hrec;have hidlt:¬(nxt<=id/\id<k):=fun h=>hfr id h.1 h.2 hidk
      obtain⟨φ1,hL,hcl,hcr⟩:=tF ts' nxt (fun i=>aM.getD i undef) fps hI (fun j hj hj2=>hfr j hj (by omega)) hfl hrec2 hn1.2 (fun b' hb'=>hSK b' (.inl (aC _ hb')))
       (fun j o hj hown x hx hm=>ha1 j o hj hown x hx (aC _ hm))
      have hm1:=hL.le;have hφ1:φ1 id=φ id:=hL.sB.eC id hidk;have hul:cA (iF nxt ts').2.1 id=none:=lm fun p hp e=>by have:=hL.gM p hp;omega
      have hdead:bm (iF nxt ts').2.1 hf id=none:=by simp only[bm,hul,hidn]
      have hawb:ja w φ1 (bm (iF nxt ts').2.1 hf) [b]:=hL.O4 hI (fun j o hj hown x hx hm=>ha1 j o hj hown x hx (by rw[ao.1 hm];simp)) fun x hx hx2=>hn1.1 (by rw[<-ao.1 hx2];exact hx)
      have hput:=hL.inv.put (i:=id) (.inl hidk) (.box (iF nxt ts').1) (fun _ j o hj hown hne hm=>by rw[hφ1,<-hb]at hm;exact hawb j o hj hown b hm (by simp))
       (.box (by rw[hφ1];exact hbase0) (by rw[hφ1,<-hb];exact(hSK b (.inl (by simp))).1) (by rw[hφ1,<-hb];exact(hSK b (.inl (by simp))).2) (by rw[hφ1,<-hb];exact hown0) (hcl.trans hlen) hcr)
      have hav2:ja w φ1 (bm (iF nxt ts').2.1 hf) f2:=hL.O4 hI ha2 fun x hx hx2=>hn3 x (aC _ hx) x hx2 rfl;have hult:∀i,¬(nxt<=i/\i<k)->cA (iF nxt ts').2.1 i=none:=fun i hi=>lm fun p hp e=>by have:=hL.gM p hp;omega
      have hownlt:∀i,Kn0 i->¬(nxt<=i/\i<k):=fun i hi h=>hfr i h.1 h.2 (hren.sub i hi);rw[<-eD]at hput
      obtain⟨φ2,hB⟩:=ih vs outs f2 (iF nxt ts').2.2 w2 k hl hw2 hr2 hput (fun j hj hj2 hk=>by
        rcases hk with hk|hk
        .exact hfr j (by omega) hj2 hk
        .omega) ⟨fun i hi=>.inl (hren.sub i hi),fun i hi=>(hL.sB.eC i (hren.sub i hi)).trans (hren.eC i hi)⟩ hn2 (fun b hb=>hSK b (.inr hb))
       (fun j o hj hown x hx hm=>by
        have hj':=hj;rw[aZ,bT]at hj';split at hj'
        .rename_i e;subst e;rw[pQ (fun _ _ e=>by rw[aZ,bT,if_pos rfl]at e;cases e),hφ1,<-hb]at hx;rw[ao.1 hx]at hm;exact hn3 b (by simp) b hm rfl
        .rw [gF rfl (hj.trans hj'.symm)]at hx;exact hav2 j o hj' hown x hx hm)
       (fun i hi=>by obtain⟨h1,h2⟩:=ho2 i hi;refine⟨?_,h2⟩;have hne:¬id=i:=fun e=>hon3 id hid i hi e;rw[aZ,bT,if_neg hne];simp only[bm,hult i (hownlt i h2),h1]) hon2 hrec
      have hkeys:=hB.Gc;have hm2:=hB.le
      have hdis:∀j x,cA w2 j=some x->j≠id/\j∉bv/\cA (iF nxt ts').2.1 j=none:=by
       intro j x hx;obtain⟨p,hp,rfl⟩:=rN hx;rcases hkeys p hp with h|h
       .exact ⟨fun e=>hon3 id hid p.1 h e.symm,fun e=>hon3 p.1 e p.1 h rfl,hult _ (hownlt _ (ho2 _ h).2)⟩
       .refine ⟨fun e=>by omega,fun e=>by have:=hownlt _ (ho1 _ e).2;omega,lm fun q hq e=>?_⟩;have:=hL.gM q hq;omega
      have heq:bm ((id,some (Ob.box (iF nxt ts').1))::(iF nxt ts').2.1++bv.map (fun i=>((i,none):Nat×Option Ob))++w2) hf=bm w2 (bm ([(id,some (Ob.box (iF nxt ts').1))]++(iF nxt ts').2.1) hf):=by
       have hno:bm (bv.map (fun i=>((i,none):Nat×Option Ob))) (bm w2 hf)=bm w2 hf:=by
        funext j
        conv=>lhs;unfold bm
        rw[qW];by_cases hjo:j∈bv
        .rw [if_pos hjo];have hwj:cA w2 j=none:=by cases hx:cA w2 j with|none=>rfl|some x=>exact absurd hjo (hdis j x hx).2.1
         simp only[bm,hwj,(ho1 j hjo).1]
        .rw [if_neg hjo];rfl
       rw[eD,eD,hno,<-eD,<-eD];refine mJ fun p hp q hq e=>?_;rcases hkeys q hq with h|h
       .rcases aN.1 hp with rfl|hp
        .exact hon3 id hid q.1 h e
        .have:=hL.gM p hp;have:=hownlt _ (ho2 _ h).2;omega
       .rcases aN.1 hp with rfl|hp
        .simp only at e;omega
        .have:=hL.gM p hp;omega
      refine⟨φ2,by omega,⟨fun i h=>.inl h,fun i h=>(hB.sB.eC i (.inl h)).trans (hL.sB.eC i h)⟩,?_,fun p hp=>?_,fun i hi=>?_,fun i o hio hownio hi=>?_⟩
      .rw [heq];exact hB.inv.xA fun i=>rF hm1 hm2 i
      .rw [hoc];simp only[aU,aJ,aN,ap,cj]at hp;rcases hp with rfl|hp|⟨i,hi,rfl⟩|hp
       .exact .inl (by simp[hid])
       .have:=hL.gM p hp;exact .inr (by omega)
       .exact .inl (by simp[hi])
       .rcases hkeys p hp with h|h
        .exact .inl (by simp[h])
        .exact .inr (by omega)
      .rw [hoc]at hi;simp only[aU,aJ,cA,gV,qW];rcases ap.1 hi with hi|hi
       .by_cases e:id=i
        .simp [e]
        .have e':(id==i)=false:=by simpa using e
         simp only[e',cond_false,if_pos hi];cases cA (iF nxt ts').2.1 i<;>rfl
       .have hs:=hB.Sy i hi;obtain⟨x,hx⟩:=hZ.1 hs;obtain⟨h1,h2,h3⟩:=hdis i x hx;have e':(id==i)=false:=by simpa using fun e=>h1 e.symm
        simp only[e',cond_false,h3,if_neg h2,hx,Option.isSome_some]
      .rw [heq]at hio|-;intro x hx;by_cases hrest:i∈j5 l\/((iF nxt ts').2.2<=i/\i<k)
       .exact aG _ (hB.bY i o hio hownio hrest x hx)
       .refine aE _ ?_
        have hw2n:cA w2 i=none:=lm fun q hq e=>by
         rcases hkeys q hq with h|h
         .exact hrest (.inl (e▸h))
         .exact hrest (.inr (e▸h))
        have hi2:i∈bv\/(nxt<=i/\i<(iF nxt ts').2.2):=by
         rcases hi with hi|hi
         .rw [hoc]at hi;rcases ap.1 hi with h|h
          .exact .inl h
          .exact absurd (.inl h) hrest
         .exact .inr ⟨hi.1,by
           rcases Nat.lt_or_ge i (iF nxt ts').2.2 with h|h
           .exact h
           .exact absurd (.inr ⟨h,hi.2⟩) hrest⟩
        have hkn:pn Kn nxt (iF nxt ts').2.2 i:=by
         rcases hi2 with h|h
         .exact .inl (hren.sub i (ho1 i h).2)
         .exact .inr h
        have hwi:bm w2 (bm ([(id,some (Ob.box (iF nxt ts').1))]++(iF nxt ts').2.1) hf) i=bm ([(id,some (Ob.box (iF nxt ts').1))]++(iF nxt ts').2.1) hf i:=by
         conv=>lhs;unfold bm
         rw[hw2n];rfl
        rw[gF (hB.sB.eC i hkn) hwi]at hx;by_cases e:id=i
        .subst e;rw[pQ (fun _ _ e=>by rw[aZ,bT,if_pos rfl]at e;cases e),hφ1,<-hb]at hx;rw[ao.1 hx];simp
        .rcases hi2 with h|h
         .exfalso
          have h1:bm w2 (bm ([(id,some (Ob.box (iF nxt ts').1))]++(iF nxt ts').2.1) hf) i=hf i:=by
           simp only[bm,hw2n,aZ,cA];have e':(id==i)=false:=by simpa using e
           simp only[e',cond_false,hult i (hownlt i (ho1 i h).2)]
          rw[h1,(ho1 i h).1]at hio;simp at hio
         .have e':(id==i)=false:=by simpa using e
          cases hfu:cA (iF nxt ts').2.1 i with
          |none=>
           exfalso;have h1:bm w2 (bm ([(id,some (Ob.box (iF nxt ts').1))]++(iF nxt ts').2.1) hf) i=hf i:=by simp only[bm,hw2n,aZ,cA,e',cond_false,hfu]
           rw[h1]at hio;exact hfr i h.1 (by omega) (hI.iR i o hio).1
          |some x'=>
           obtain⟨p,hp,rfl⟩:=rN hfu;have hwp:bm ([(id,some (Ob.box (iF nxt ts').1))]++(iF nxt ts').2.1) hf p.1=bm (iF nxt ts').2.1 hf p.1:=by rw[aZ,bT,if_neg e]
           rw[gF rfl hwp]at hx;exact aC _ (hL.bY p hp x hx)
     .simp at h
    .simp at h
   .--an array
    rename_i sz id len own' rd' r sz' aq ts heq1 heq2;simp only[dQ,dg]at heq1 heq2;obtain⟨⟨rfl,rfl,rfl⟩,rfl⟩:=heq1;obtain⟨rfl,rfl⟩:=heq2;split at h
    .rename_i hcond;obtain⟨hrl,hszz,hownid⟩:=hcond;subst hownid;split at h
     .rename_i w2 k hrec;obtain⟨rfl,rfl⟩:(id,some (Ob.aM sz aq))::w2=bu/\k=m:=by simpa using h
      obtain⟨hidn,hidk0⟩:=ho1 id (by simp);have hφ:=hren.eC id hidk0;obtain⟨cap,addr,hv,hszl,hk0,hcap,haddr,hextc,hcl⟩:=hc.ko;have hr1:=hr1.resolve_left fun h=>by cases h.1
      cases hr1 with
      |@sl _ _ b off len1 cap1 aM hsz0 hown0 hlen1 hcap1 hext1 hrr=>
      simp only[Value.slice.injEq,bn,Addr.mk.injEq]at hv;obtain⟨⟨hb,hoff,_⟩,hlen2,hcap2⟩:=hv;subst hszz;simp only[eS,ai]at hw;obtain⟨arr0,hown1,hext0,hfit0,hv0⟩:=D4 hI0 hw.1;obtain⟨arr1,hown2,hsize2⟩:=hgrow _ _ hown1;rw[hb]at hown0;obtain rfl:=hown0.Ki hown2;have hb1:=hSK (φ0 id).bY (.inl (by simp[hb]))
      refine fin id (.aM sz' aq) w2 k rfl rfl hrec (hI.put (i:=id) (hren.sub id hidk0) (.aM sz' aq) (fun _ j o hj hown hne hm=>by rw[hφ,<-hb]at hm;exact ha1 j o hj hown b hm (by simp))
       (.aM hsz0 (by rw[hφ];exact hszl) (by rw[hφ];exact hb1.1) (by rw[hφ];exact hb1.2) (by rw[hφ];exact hown2) (by rw[hφ,<-hext0];exact hsize2)
        (by rw[hφ,hrl,<-hszl];exact hfit0) (by
         rw[hφ];cases aq with
         |nil=>exact⟨fun i r hi=>by simp at hi,fun i r hi=>by simp at hi⟩
         |cons q aq=>
          have:off=(φ0 id).aR:=by rw[hoff,haddr (by simp only[List.length_cons]at hrl;omega)];simp
          rw[<-this];exact hrr) (by rw[hφ,hrl];exact hv0))) fun x hx=>?_
      rw[pQ (fun _ _ e=>by rw[bT,if_pos rfl]at e;cases e),hφ,<-hb]at hx;exact hx
     .simp at h
    .simp at h
   .--a dl of aq
    rename_i sz id len own' rd' r szi aq ts heq1 heq2;simp only[dQ,dg]at heq1 heq2;obtain⟨⟨rfl,rfl,rfl⟩,rfl⟩:=heq1;obtain⟨rfl,rfl⟩:=heq2;split at h
    .rename_i hcond;obtain⟨hrl,hszz,hownid⟩:=hcond;subst hownid;split at h
     .rename_i w2 k hrec;obtain⟨rfl,rfl⟩:(id,some (Ob.nst szi (aq.map mZ)))::w2=bu/\k=m:=by simpa using h
      obtain⟨hidn,hidk0⟩:=ho1 id (by simp);have hφ:=hren.eC id hidk0;obtain⟨cap,addr,hv,hszl,hk0,hcap,haddr,hextc,hcl⟩:=hc.ko;have hr1:=hr1.resolve_left fun h=>by cases h.1
      cases hr1 with
      |@zU _ _ b off cap1 aM fps hsz0 hown0 hcap1 hext1 hfl hrr=>
      simp only[Value.slice.injEq,bn,Addr.mk.injEq]at hv;obtain⟨⟨hb,hoff,_⟩,hlen2,hcap2⟩:=hv;subst hszz;simp only[eS,ai]at hw;obtain⟨arr0,hown1,hext0,hfit0,hv0⟩:=D4 hI0 hw.1;obtain⟨arr1,hown2,hsize2⟩:=hgrow _ _ hown1;rw[hb]at hown0;obtain rfl:=hown0.Ki hown2;rw[fZ]at hn1;have hb1:=hSK b (.inl (by simp));have hbase:∀i,i<aq.length->off+i=(φ0 id).aR+i:=fun i hi=>by rw[hoff,haddr (by omega)];simp
      have hget:∀i,w.cell? ⟨(φ id).bY,i,none⟩=aM[i]?:=by rw[hφ];exact hown2.cell
      have hpat:∀k x,sj w (φ id) (aq.map mZ) k x->∃fp,fps[k]?=some fp/\fp=[x]:=by rintro k x ⟨rs,v,h1,h2,h3⟩;rw[aH]at h1;obtain⟨r,hr1,hr2⟩:=aF.1 h1;have hlt:=(ak.1 hr1).1;have hf:fps[k]?=some fps[k]:=aw (by omega);obtain⟨v',q1,q2⟩:=hrr k r fps[k] hr1 hf;rw[hget,hφ,<-hbase k hlt,q1]at h2;obtain rfl:=aa h2;cases r with|none=>cases hr2|some rows'=>obtain⟨b',q3,q4⟩:=q2;rw[q4.bY]at h3;obtain rfl:=aa h3;exact⟨_,hf,q3⟩
      have hmem:∀k x,sj w (φ id) (aq.map mZ) k x->x∈fps.flatten:=fun k x hp=>by obtain⟨fp,h1,rfl⟩:=hpat k x hp;exact dO.2 ⟨[x],aX h1,by simp⟩
      have hbl:(φ id).bY=b:=by rw[hφ,<-hb]
      rw[hszl,ly]at hfit0
      refine fin id (.nst szi (aq.map mZ)) w2 k rfl rfl hrec (hI.put (i:=id) (hren.sub id hidk0) (.nst szi (aq.map mZ)) (fun _ j o hj hown hne hm=>by rw[hbl]at hm;exact ha1 j o hj hown b hm (by simp))
       (.nst hsz0 (by rw[hφ];exact hszl) (by rw[hbl];exact hb1.1) (by rw[hbl];exact hb1.2) (by rw[hφ];exact hown2) (by rw[hφ,<-hext0];exact hsize2)
        (by rw[hφ,aO,hrl];exact hfit0) (fun i s hi=>by
         rw[aH]at hi;obtain⟨r,hr1,rfl⟩:=aF.1 hi;have hlt:=(ak.1 hr1).1;have hf:fps[i]?=some fps[i]:=aw (by omega);obtain⟨v,q1,q2⟩:=hrr i r fps[i] hr1 hf;refine⟨v,by rw[hφ,<-hbase i hlt];exact q1,?_⟩;cases r with
         |none=>obtain⟨rfl,_⟩:=q2;exact .nil
         |some rows'=>obtain⟨b',q3,q4⟩:=q2;have hm:b'∈fps.flatten:=dO.2 ⟨fps[i],List.getElem_mem _,by rw[q3];simp⟩;exact .bv q4 (hSK b' (.inl (aC _ hm))).1 (hSK b' (.inl (aC _ hm))).2) (by rw[hφ,aO,hrl];exact hv0))
       fun sz' sl' k x eo hp=>by cases eo;have hm:=hmem k x hp;refine⟨fun e=>hn1.1 (by rw[<-hbl,<-e];exact hm),fun j o hj hown hne hx=>ha1 j o hj hown x hx (aC _ hm),fun k' hp'=>?_⟩;obtain⟨fp,h1,rfl⟩:=hpat k x hp;obtain⟨fp',h2,rfl⟩:=hpat k' x hp';exact Ej hn1.2 h2 h1) fun x hx=>?_
      rcases dX.1 hx with rfl|⟨sz',sl',k',h1,h2⟩
      .rw [hbl];simp
      .rw [bT,if_pos rfl]at h1;cases h1;exact aC _ (hmem k' x h2)
     .simp at h
    .simp at h
   .--it is uS
    rename_i heq1 heq2;simp only[dQ,dg]at heq1 heq2;obtain⟨⟨rfl,rfl,rfl⟩,rfl⟩:=heq1;obtain⟨rfl,rfl⟩:=heq2;split at h
    .rename_i w2 k hrec;obtain⟨rfl,rfl⟩:bv.map (fun i=>((i,none):Nat×Option Ob))++w2=bu/\k=m:=by simpa using h
     have e0:f1=[]:=by
      rcases hr1 with h|h
      .exact h.2
      .cases h
     subst e0;obtain⟨φ',hB⟩:=ih vs outs f2 nxt w2 k hl hw2 hr2 hI hfr hren hn2 (fun b hb=>hSK b (.inr hb)) ha2 ho2 hon2 hrec;have hmk:=hB.le;have hkeys:=hB.Gc
     have hwn:∀j∈bv,cA w2 j=none:=fun j hj=>by
      cases hx:cA w2 j with
      |none=>rfl
      |some x=>
       obtain⟨p,hp,rfl⟩:=rN hx;rcases hkeys p hp with h|h
       .exact absurd rfl (hon3 p.1 hj p.1 h)
       .exact absurd (hren.sub _ (ho1 _ hj).2) (hfr p.1 h.1 h.2)
     have heq:bm (bv.map (fun i=>((i,none):Nat×Option Ob))++w2) hf=bm w2 hf:=by
      rw[eD];funext j
      conv=>lhs;unfold bm
      rw[qW];by_cases hjo:j∈bv
      .rw [if_pos hjo];simp only[bm,hwn j hjo,(ho1 j hjo).1]
      .rw [if_neg hjo];rfl
     refine⟨φ',hB.le,hB.sB,heq▸hB.inv,fun p hp=>?_,fun i hi=>?_,fun i o hio hownio hi=>?_⟩
     .rw [hoc];rcases ap.1 hp with hp|hp
      .obtain ⟨j,hj,rfl⟩:=cj.1 hp;exact .inl (aE _ hj)
      .rcases hkeys p hp with h|h
       .exact .inl (aG _ h)
       .exact .inr h
     .rw [hoc]at hi;rw[gV,qW];by_cases hjo:i∈bv
      .rw [if_pos hjo];rfl
      .rw [if_neg hjo];exact hB.Sy i ((ap.1 hi).resolve_left hjo)
     .rw [heq]at hio|-;refine hB.bY i o hio hownio (hi.imp (fun h=>?_) id);rw[hoc]at h;refine(ap.1 h).resolve_left fun hjo=>?_;simp only[bm,hwn i hjo,(ho1 i hjo).1]at hio;cases hio
    .simp at h
   .simp at h
end
section
variable{P:Program}{S K:Nat->Prop}{w0 w:World}{Kn:Nat->Prop}{φ:Nat->gO}{hf:Nat->Option Ob}{H:bF}{e:jP}{ρ:Operand->Value}{o:Oper}{call:Call}{a:Act}
 {nxt n':Nat} {v:TV} {u:fF} {aA:List Nat}
def Pj(P:Program)(o:Oper)(a:Act)(S K:Nat->Prop)(w0 w:World)(Kn:Nat->Prop)(φ:Nat->gO)(hf:Nat->Option Ob)(nxt n':Nat)(v:TV)(u:fF):Prop:=∀(next:Act->World->Prop)(Q:Exit->Act->World->Prop),(∀val w',lx S K w0 w Kn φ hf nxt n' v u val w'->next (a.put o.dst val) w')->o.wp P a w next Q
theorem dK.ll(h:dK P o a.eval S K w0 w Kn φ hf nxt n' v u):Pj P o a S K w0 w Kn φ hf nxt n' v u:=by
 intro next Q hn
 obtain⟨nx,val,w',hr,hx,hd⟩:=h;unfold Oper.wp;rw[hr];rcases hx with rfl|⟨rfl,rfl⟩
 .exact hn _ _ hd
 .exact hn _ _ hd
theorem yC{tvs:List TV}{vs:List Value}(hl:tvs.length=vs.length)(h:∀(i:Nat)(t:TV)(v:Value),tvs[i]?=some t->vs[i]?=some v->gr S w Kn φ t v):gr S w Kn φ (ud tvs) (yB vs):=by
 have E2:gr S w Kn φ (.iT tvs) (.tuple vs.toArray):=by
  refine .iT (by simpa using hl) fun i x hi=>?_;have hlt:i<vs.length:=by rw[<-hl];exact(ak.1 hi).1
  have:=h i x vs[i] hi (aw hlt);simpa[hlt]using this
 match tvs,vs,hl,h,E2 with|[],[],_,_,E2=>exact E2|[t],[v],_,h,_=>exact h 0 t v rfl rfl|_::_::_,_::_::_,_,_,E2=>exact E2
theorem RD.HC{S':Nat->Prop}{w':World}{v x:Value}(h:RD S w (.lit v) x):RD S' w' (.lit v) x:=by cases h with|lit h=>exact .lit h
theorem EV.fz{S':Nat->Prop}:∀{rs:List R}{vs:List Value}{fp:List Nat},rs.all y8=true->EV S w rs vs fp->EV S' w rs vs []:=by
 intro rs;induction rs with
 |nil=>intro vs fp _ h;cases vs with|nil=>rfl|cons v vs=>exact h.elim
 |cons r rs ih=>
  intro vs fp hl h;cases vs with
  |nil=>exact h.elim
  |cons v vs=>
   simp only[List.all_cons,ai]at hl;obtain⟨f1,f2,_,h1,h2⟩:=h;refine⟨[],[],rfl,?_,ih hl.2 h2⟩;have hl1:=hl.1;cases r with
   |c t=>
    cases t with
    |d x=>
     cases x with
     |lit y=>have h1:RT S w (.d (.lit y)) v f1:=h1;cases h1 with|d hd=>exact RT.d hd.HC
     |_=>simp[y8]at hl1
    |_=>simp[y8]at hl1
   |agg ts=>
    obtain⟨aM,fps,rfl,q1,q2,q3,q4⟩:=h1;refine⟨aM,fps.map fun _=>[],rfl,q1,by simpa using q2,by simp,fun i t f hi hfi=>?_⟩;simp only[y8,bd]at hl1;have ht:=hl1 t (aX hi);obtain rfl:f=[]:=by rw[aH]at hfi;obtain⟨_,_,rfl⟩:=aF.1 hfi;rfl
    have hlt:i<fps.length:=by rw[q2];exact(ak.1 hi).1
    have:=q4 i t fps[i] hi (aw hlt);generalize fps[i]=g at this;cases t with
    |d x=>
     cases x with
     |lit y=>cases this with|d hd=>exact RT.d hd.HC
     |_=>simp at ht
    |_=>simp at ht
theorem Inv.after{S':Nat->Prop}{w':World}{fp:List Nat}(hI:Inv S K w0 Kn φ hf w)(hs:hC S w S' w')(hsub:∀b,S' b->S b\/b∈fp\/w.heap.size<=b)(hlt:∀b,S' b->b<w'.heap.size)
  (hfp:∀b∈fp,¬K b) (haw:ja w φ hf fp) (hfrm:G2 (fun b=>b<w.heap.size/\b∉fp) w w'):Inv S' K w0 Kn φ hf w':=by
 refine hI.kM hs (Ren.refl _ _) hlt (fun b hb hK=>?_) ⟨hI.nB.Gb,fun b hb=>?_,fq hI.nB.grow hfrm.grow,fun a ha=>(hfrm.Bc a (cn ha hI.nB.grow)).trans (hI.nB.Bc a ha),fun b aM ho=>?_,hI.nB.io.trans hfrm.io⟩ (fun id o ho=>.inl ⟨ho,fun hown=>?_⟩) hI.eR ?_
 .have h1:b<w.heap.size:=cn (hI.nB.Gb b hK) hI.nB.grow;rcases hsub b hb with h|h|h
  .exact hI.sk b h hK
  .exact hfp b h hK
  .omega
 .have h1:b<w.heap.size:=cn (hI.nB.Gb b hb) hI.nB.grow;exact(hfrm.nc b ⟨h1,fun h=>hfp b h hb⟩).trans (hI.nB.nc b hb)
 .obtain ⟨a1,h1,h2⟩:=hI.nB.bv b aM ho;obtain⟨a2,h3,h4⟩:=hfrm.bv b a1 h1;exact⟨a2,h3,h4.trans h2⟩
 .obtain ⟨h1,h2,h3⟩:=(hI.iR id o ho).2.bv hown;have h4:=haw id o ho hown _ (kW id);refine⟨hfrm.nc _ ⟨h3,h4⟩,fun h=>?_⟩;rcases hsub _ h with h|h|h
  .exact h1 h
  .exact h4 h
  .omega
 .intro id sz sl ho;have h4:=haw id _ ho rfl
  have key:∀x∈iw w φ hf id,w'.heap[x]?=w.heap[x]?/\¬S' x:=fun x hx=>by
   obtain⟨h1,_,h3⟩:=oJ hI ho rfl hx;refine⟨hfrm.nc _ ⟨h3,h4 x hx⟩,fun h=>?_⟩;rcases hsub _ h with h|h|h
   .exact h1 h
   .exact h4 x hx h
   .omega
  refine⟨ho,(key _ (kW id)).1,fun k x hp=>?_⟩;obtain⟨q1,q2⟩:=key x (dX.2 (.inr ⟨sz,sl,k,ho,hp⟩));exact⟨q1,q2,(hI.xe id sz sl k x ho hp).1⟩
theorem JW{as:List A}{aA:List Nat}{lent:List (C×List Nat×List Nat)}{vs:List Value}{rs:List R}{outs:List T}{ro:Bool}{val:Value}{w':World}{rd:List Nat}
  (hI:Inv S K w0 Kn φ (aB H) w) (hfr:∀j,nxt<=j->j<n'->¬Kn j)
  (hargs:Nt (SB S w φ (aB H) aA) w as vs ((lent.flatMap (·.2.1)).flatMap (iw w φ (aB H)))) (hown:∀i∈lent.flatMap (·.2.1),∃o,aB H i=some o/\cX o=true) (hlent:J8 Kn φ S w lent (oC as vs))
  (hwhole:eS H lent=true) (hnd:(lent.flatMap (·.2.1)).Nodup)
  (hleft:Left (SB S w φ (aB H) aA) w ((lent.flatMap (·.2.1)).flatMap (iw w φ (aB H))) rs outs (oC as vs) val w')
  (h:(if ro then
      if rs.all y8/\lent.isEmpty/\outs.isEmpty then some (ud (ir nxt rs).1,(ir nxt rs).2.1,aA,(ir nxt rs).2.2)else none
     else
      match eh H aA aA with
      |none=>none
      |some fu=>
       match fc nxt lent outs with
       |none=>none
       |some (bu,m)=>some (ud (ir m rs).1,(ir m rs).2.1++bu++fu,aA++lent.flatMap (·.2.2),(ir m rs).2.2))=some (v,u,rd,n')):
  lx S K w0 w Kn φ (aB H) nxt n' v u val w':=by
 obtain⟨S',kN,fp1,fp2,rfl,hs,hsub,hlt,hrr,hrt,hnd2,hb,hfrm⟩:=hleft;split at h
 .--nothing is D9
  split at h
  .rename_i hcond;obtain⟨hl,hle,hoe⟩:=hcond;have hle':lent=[]:=by simpa using hle
   subst hle';obtain⟨rfl,rfl,_,rfl⟩:ud (ir nxt rs).1=v/\(ir nxt rs).2.1=u/\aA=rd/\(ir nxt rs).2.2=n':=by simpa using h
   have hI':Inv S K w0 Kn φ (aB H) w':=hI.after (fp:=[]) ⟨fun _ h=>h,fun b hb=>hs.eC b (.inl hb)⟩ (fun b hb=>.inl hb) (fun b hb=>cn (hI.u6 b hb) hfrm.grow) (fun b hb=>by simp at hb)
    (fun j o _ _ x _ h=>by simp at h) hfrm
   obtain⟨φ',hL,hlen,hr⟩:=x9 rs nxt kN [] hI' hfr (hrr.fz hl) List.nodup_nil (fun b hb=>by simp at hb) (fun j o _ _ x _ h=>by simp at h);exact⟨hL.le,S,φ',⟨fun _ h=>h,fun b hb=>hs.eC b (.inl hb)⟩,hL.sB,yC hlen hr,hL.inv⟩
  .simp at h
 .split at h
  .simp at h
  .rename_i fu hfz;split at h
   .simp at h
   .rename_i bu m hbk;obtain⟨rfl,rfl,_,rfl⟩:ud (ir m rs).1=v/\(ir m rs).2.1++bu++fu=u/\aA++lent.flatMap (·.2.2)=rd/\(ir m rs).2.2=n':=by simpa using h
    have hI1:=hI.Gs hfz;have hmn:=G6 rs m;have hnm:=Bl _ _ _ _ _ hbk
    -- what was lent is eg of the heap
    let kills:fF:=(j5 lent).map fun i=>(i,none);have hkn:∀j,cA kills j=if j∈j5 lent then some none else none:=qW (j5 lent)
    have hf2:∀id o,bm kills (bm fu (aB H)) id=some o->id∉j5 lent/\bm fu (aB H) id=some o:=by
     intro id o ho;have:bm kills (bm fu (aB H)) id=(match cA kills id with|some o=>o|none=>bm fu (aB H) id):=rfl;rw[this,hkn]at ho;by_cases hm:id∈j5 lent
     .rw [if_pos hm]at ho;simp at ho
     .rw [if_neg hm]at ho;exact⟨hm,ho⟩
    have hIk:Inv (SB S w φ (aB H) aA) K w0 Kn φ (bm kills (bm fu (aB H))) w:=hI1.md fun id o ho=>(hf2 id o ho).2
    -- the frozen part agrees with the heap ff, where a thing is owned
    have hold:∀id o,bm fu (aB H) id=some o->cX o=true->aB H id=some o:=by
     intro id o ho hown;by_cases hm:id∈aA
     .obtain ⟨o',ho',hfn⟩:=(lp aA fu hfz id).1 hm;simp only[bm,hfn]at ho;obtain rfl:=aa ho;have:=(Be hI hm ho').1;rw[this]at hown;simp at hown
     .simpa only[bm,(lp aA fu hfz id).2 hm]using ho
    have hbk2:∀j o,bm kills (bm fu (aB H)) j=some o->cX o=true->aB H j=some o/\iw w φ (bm kills (bm fu (aB H))) j=iw w φ (aB H) j:=fun j o hj hjo=>by have h3:=hold j o (hf2 j o hj).2 hjo;exact⟨h3,gF rfl (hj.trans h3.symm)⟩
    have haw:ja w φ (bm kills (bm fu (aB H))) ((lent.flatMap (·.2.1)).flatMap (iw w φ (aB H))):=by intro j o hj hjo x hx hm;obtain⟨h1,h2⟩:=hf2 j o hj;obtain⟨i,hi,hie⟩:=bU.1 hm;obtain⟨oi,hoi,hoio⟩:=hown i hi;obtain⟨h3,h4⟩:=hbk2 j o hj hjo;rw[h4]at hx;exact od hI hoi h3 hoio hjo (fun e=>h1 (e▸hi)) hie hx
    have hfpK:∀b∈((lent.flatMap (·.2.1)).flatMap (iw w φ (aB H))),¬K b/\b<w.heap.size:=by intro b hbm;obtain⟨i,hi,hie⟩:=bU.1 hbm;obtain⟨oi,hoi,hoio⟩:=hown i hi;exact(oJ hI hoi hoio hie).2
    have hI2:Inv S' K w0 Kn φ (bm kills (bm fu (aB H))) w':=hIk.after hs hsub hlt (fun b hb=>(hfpK b hb).1) haw hfrm
    have hK12:∀b∈fp1++fp2,¬S' b/\¬K b:=fun b hbm=>by
     obtain⟨h1,h2⟩:=hb b hbm;refine⟨h1,fun hk=>?_⟩;rcases h2 with h2|h2
     .exact (hfpK b h2).1 hk
     .have:=hI.nB.Gb b hk;have:=hI.nB.grow;omega
    have haw12:ja w' φ (bm kills (bm fu (aB H))) (fp1++fp2):=fun j o hj hjo x hx hm=>by
     rw[Bz (hfrm.nc _ ⟨((hIk.iR j o hj).2.bv hjo).2.2,haw j o hj hjo _ (kW j)⟩)]at hx;rcases(hb _ hm).2 with h2|h2
     .exact haw j o hj hjo x hx h2
     .have:=(oJ hIk hj hjo hx).2.2;omega
    rw[bZ]at hnd2;obtain⟨hn1,hn2,hn3⟩:=hnd2;simp only[ap]at hK12
    obtain⟨φ1,hB⟩:=GU hI hfrm.bv lent (oC as vs) outs fp2 nxt bu m hlent hwhole hrt hI2 (fun j h1 h2=>hfr j h1 (by omega)) (Ren.refl _ _) hn2 (fun b hb=>hK12 b (.inr hb))
     (fun j o hj hjo x hx hm=>haw12 j o hj hjo x hx (by simp[hm]))
     (fun i hi=>by obtain⟨oi,hoi,_⟩:=hown i hi;refine⟨?_,(hI.iR i oi hoi).1⟩;show(match cA kills i with|some o=>o|none=>bm fu (aB H) i)=none;rw[hkn,if_pos hi]) hnd hbk
    have hkk:bm bu (bm kills (bm fu (aB H)))=bm bu (bm fu (aB H)):=by
     funext j;by_cases hm:j∈j5 lent
     .obtain ⟨x,hx⟩:=hZ.1 (hB.Sy j hm);simp only[bm,hx]
     .have h1:bm kills (bm fu (aB H)) j=bm fu (aB H) j:=by show(match cA kills j with|some o=>o|none=>bm fu (aB H) j)=_;rw[hkn,if_neg hm]
      have h2:∀g:Nat->Option Ob,bm bu g j=(match cA bu j with|some o=>o|none=>g j):=fun _=>rfl;rw[h2,h2,h1]
    have hIB:=hB.inv;rw[hkk]at hIB
    have haw1:ja w' φ1 (bm bu (bm fu (aB H))) fp1:=by
     intro j o hj hjo x hx hm;by_cases hk:j∈j5 lent\/(nxt<=j/\j<m)
     .have:=hB.bY j o (by rw[hkk];exact hj) hjo hk x (by rw[hkk];exact hx);exact hn3 _ hm _ this rfl
     .have hfn:cA bu j=none:=lm fun p hp e=>by
       rcases hB.Gc p hp with h|h
       .exact hk (.inl (e▸h))
       .exact hk (.inr (e▸h))
      have hj2:bm kills (bm fu (aB H)) j=some o:=by rw[<-hkk]at hj;simpa only[bm,hfn]using hj
      have hknj:=(hI2.iR j o hj2).1;rw[gF (hB.sB.eC j hknj) (hj.trans hj2.symm)]at hx;exact haw12 j o hj2 hjo x hx (by simp[hm])
    obtain⟨φ2,hL,hlen,hr⟩:=x9 rs m kN fp1 hIB (fun j h1 h2 hk=>by
      rcases hk with hk|hk
      .exact hfr j (by omega) h2 hk
      .omega) hrr hn1 (fun b hb=>hK12 b (.inl hb)) haw1
    refine⟨by omega,S',φ2,(SB.uC aA).trans hs,⟨fun i h=>.inl h,fun i h=>(hL.sB.eC i (.inl h)).trans (hB.sB.eC i h)⟩,?_,?_⟩
    .exact (yC hlen hr).kn fun i=>(rF hnm hmn i).1
    .rw [eD,eD];exact hL.inv.xA fun i=>rF hnm hmn i
theorem AF:∀n,(∀c x aA,ed H n c=some (x,aA)->∀i∈aA,∃o,aB H i=some o)/\(∀cs xs aA,f_ H n cs=some (xs,aA)->∀i∈aA,∃o,aB H i=some o):=by
 have leaf:∀n c x aA,(match c with|.op _ _|.o5 _ _=>False|_=>True)->ed H n c=some (x,aA)->∀i∈aA,∃o,aB H i=some o:=by
  intro n c x aA hl h i hi;cases c with
  |d y=>simp only[ed,bn,dg]at h;obtain⟨_,rfl⟩:=h;simp at hi
  |fy sz id off len=>
   simp only[ed]at h;split at h
   all_goals first
    |(split at h
      .obtain ⟨_,rfl⟩:=ad (aa h);obtain rfl:=ao.1 hi;exact⟨_,by assumption⟩
      .simp at h)
    |(split at h
      .split at h
       .obtain ⟨_,rfl⟩:=ad (aa h);obtain rfl:=ao.1 hi;exact⟨_,by assumption⟩
       .simp at h
      .simp at h)
    |simp at h
  |ep id dl off=>
   simp only[ed]at h;split at h
   all_goals first
    |(split at h
      .split at h
       .obtain ⟨_,rfl⟩:=ad (aa h);obtain rfl:=ao.1 hi;exact⟨_,by assumption⟩
       .simp at h
      .simp at h)
    |simp at h
  |op id off=>exact hl.elim
  |o5 f caps=>exact hl.elim
  |om id=>cases n<;>simp[ed]at h
 intro n;induction n with
 |zero=>
  refine⟨fun c x aA h=>?_,fun cs xs aA h=>?_⟩
  .cases c with|op id off=>simp[ed]at h|o5 f caps=>simp[ed]at h|_=>exact leaf 0 _ x aA trivial h
  .cases cs with
   |nil=>
    obtain⟨_,rfl⟩:[]=xs/\[]=aA:=by simpa[f_]using h
    intro i hi;simp at hi
   |cons c cs=>simp[f_]at h
 |succ n ih=>
  refine⟨fun c x aA h=>?_,fun cs xs aA h=>?_⟩
  .cases c with
   |op id off=>
    simp only[ed]at h;split at h
    .split at h
     .obtain ⟨_,rfl⟩:=ad (aa h);intro i hi;obtain rfl:=ao.1 hi;exact⟨_,by assumption⟩
     .simp at h
    .split at h
     .rename_i hv;split at h
      .obtain ⟨_,rfl⟩:=ad (aa h);intro i hi;rcases aN.1 hi with rfl|hi
       .exact ⟨_,by assumption⟩
       .exact ih.2 _ _ _ hv i hi
      .simp at h
     .simp at h
    .simp at h
   |o5 f caps=>
    simp only[ed]at h;split at h
    .rename_i hv;obtain⟨_,rfl⟩:=ad (aa h);exact ih.2 _ _ _ hv
    .simp at h
   |_=>exact leaf _ _ x aA trivial h
  .cases cs with
   |nil=>
    obtain⟨_,rfl⟩:[]=xs/\[]=aA:=by simpa[f_]using h
    intro i hi;simp at hi
   |cons c cs=>
    simp only[f_]at h;split at h
    .rename_i h1 h2;obtain⟨_,rfl⟩:=ad (aa h);intro i hi;rcases ap.1 hi with hi|hi
     .exact ih.1 _ _ _ h1 i hi
     .exact ih.2 _ _ _ h2 i hi
    .simp at h
theorem CU:∀cs xs aA,dW H cs=some (xs,aA)->∀i∈aA,∃o,aB H i=some o:=by
 intro cs;induction cs with
 |nil=>
  intro xs aA h i hi;obtain⟨_,rfl⟩:[]=xs/\[]=aA:=by simpa[dW]using h
  simp at hi
 |cons c cs ih=>
  intro xs aA h i hi;simp only[dW]at h;split at h
  .rename_i h1 h2;obtain⟨_,rfl⟩:=ad (aa h);rcases ap.1 hi with hi|hi
   .exact (AF 300).1 _ _ _ h1 i hi
   .exact ih _ _ h2 i hi
  .simp at h
theorem BD:∀(tvs:List TV)(ms:List Bool)(as:List A)(aA:List Nat)(lent:List (C×List Nat×List Nat)),gD H tvs ms=some (as,aA,lent)->∀i∈aA,∃o,aB H i=some o:=by
 intro tvs;induction tvs with
 |nil=>
  intro ms as aA lent h i hi;obtain⟨_,rfl,_⟩:[]=as/\[]=aA/\[]=lent:=by simpa[gD]using h
  simp at hi
 |cons t tvs ih=>
  intro ms as aA lent h i hi;simp only[gD]at h;split at h
  .simp at h
  .rename_i hrec;split at h
   .split at h
    .split at h
     .obtain ⟨_,rfl,_⟩:=(by simpa using h:_/\_/\_)
      exact ih _ _ _ _ hrec i hi
     .simp at h
    .simp at h
   .split at h
    .split at h
     .rename_i hv;obtain⟨_,rfl,_⟩:=(by simpa using h:_/\_/\_)
      rcases ap.1 hi with hi|hi
      .exact (AF 300).1 _ _ _ hv i hi
      .exact ih _ _ _ _ hrec i hi
     .simp at h
    .split at h
     .rename_i hv;obtain⟨_,rfl,_⟩:=(by simpa using h:_/\_/\_)
      rcases ap.1 hi with hi|hi
      .exact CU _ _ _ hv i hi
      .exact ih _ _ _ _ hrec i hi
     .simp at h
    .simp at h
theorem RO.Rh{l:gO}{o:Ob}(h:RO S K w Kn φ l o)(hs:∀b,S b->b<w.heap.size):l.bY<w.heap.size:=by cases h with|aM hsz hl hS hK hown=>exact hown.lt|box hb hS hK hown=>exact hown.lt|map hS hK hmp=>exact(Array.getElem?_eq_some_iff.1 hmp).1|cap hsz hl hS hK hown=>exact hown.lt|nst hsz hl hS hK hown=>exact hown.lt|pJ hsz hl hS=>exact hs _ hS|oF hb hS=>exact hs _ hS
theorem RO.UV{l:gO}{o:Ob}(h:RO S K w Kn φ l o)(hs:cX o=false):S l.bY:=by cases h with|pJ hsz hl hS=>exact hS|oF hb hS=>exact hS|_=>simp[cX]at hs
theorem Hm{c:Go.Call}{fop:Operand}{ro:Bool}{kh:List Bool}(ho:o.op=.call c)(hcal:c.callee=.value fop)(hok:ny P call)(hI:Inv S K w0 Kn φ (aB H) w)
  (hfr:∀j,nxt<=j->j<n'->¬Kn j) (hρ:∀x tv,kU e x=some tv->gr S w Kn φ tv (a.eval x))
  (h:cQ call (.call ro kh) ((fop::c.args.toList).map (kU e)) H nxt=some (v,u,aA,n')):Pj P o a S K w0 w Kn φ (aB H) nxt n' v u:=by
 rw[aD]at h;change uT call ro kh (kU e fop) (c.args.toList.map (kU e)) H nxt=_ at h;unfold uT at h;split at h
 .rename_i f caps vs hf hvs;split at h
  .simp at h
  .rename_i as ids1 lent hargs;split at h
   .rename_i hcond;obtain⟨hwhole,hnd,hapart⟩:=hcond;split at h
    .simp at h
    .rename_i rs outs hcall
     -- the callee
     have hfv:∃cvs:Array Value,a.eval fop=.func (.func f) #[] cvs/\caps.length=cvs.size/\∀(i:Nat)(x:C),caps[i]?=some x->RC S w Kn φ x (cvs.getD i undef):=by
      split at hf
      .rename_i g capsD hop;obtain⟨rfl,rfl⟩:g=f/\capsD.map C.d=caps:=by simpa using hf
       have hr:=hρ _ _ hop;generalize a.eval fop=fv at hr|-;cases hr with
       |c hr=>cases hr with
        |d hd=>cases hd with|@fn _ _ cvs hlen hrd=>refine⟨cvs,rfl,by simpa using hlen,fun i x hi=>?_⟩;rw[aH]at hi;obtain⟨y,hy,rfl⟩:=aF.1 hi;exact .d (hrd i y hy)
      .rename_i g caps' hop;obtain⟨rfl,rfl⟩:g=f/\caps'=caps:=by simpa using hf
       have hr:=hρ _ _ hop;generalize a.eval fop=fv at hr|-;cases hr with
       |c hr=>cases hr with|@o5 _ _ cvs hlen hrc=>exact⟨cvs,rfl,hlen,hrc⟩
      .simp at hf
     obtain⟨cvs,hfe,hcl,hcr⟩:=hfv;obtain⟨hal,har⟩:=vN hρ hvs;let kN:List Value:=c.args.toList.map a.eval++cvs.toList
     obtain⟨p1,p2,p3⟩:=GW hI (vs++caps.map TV.c) kh as ids1 lent kN hargs (by simp[kN,hal,hcl]) (fun i t val hi hv=>by
      by_cases hlt:i<vs.length
      .rw [bO hlt]at hi;simp only[kN]at hv;rw[bO (by simp only[aO];omega),aH]at hv;obtain⟨x,hx,rfl⟩:=aF.1 hv;exact har i x t hx hi
      .rw [bR (by omega),aH]at hi;obtain⟨x,hx,rfl⟩:=aF.1 hi;simp only[kN]at hv;rw[bR (by simp only[aO];omega)]at hv;simp only[aO,<-hal]at hv;have:=hcr _ x hx;rw[Array.getElem?_toList]at hv;have e1:cvs.getD (i-vs.length) undef=val:=by simp[hv]
       rw[e1]at this;exact .c this)
     have hSlt:∀b,SB S w φ (aB H) ids1 b->b<w.heap.size:=by
      rintro b (hb|⟨i,hi,hb⟩)
      .exact hI.u6 b hb
      .obtain ⟨oi,hoi⟩:=BD _ _ _ _ _ hargs i hi;rcases dX.1 hb with rfl|⟨sz,sl,k,h1,h2⟩
       .exact (hI.iR i oi hoi).2.Rh hI.u6
       .exact (hI.IK h1 h2).2.2.1
     have hnS:∀b∈((lent.flatMap (·.2.1)).flatMap (iw w φ (aB H))),¬SB S w φ (aB H) ids1 b:=by
      intro b hb hS;obtain⟨i,hi,hb⟩:=bU.1 hb;obtain⟨oi,hoi,hoio⟩:=p2 i hi;have hb1:=(oJ hI hoi hoio hb).1;rcases hS with hS|⟨j,hj,hje⟩
      .exact hb1 hS
      .obtain ⟨oj,hoj⟩:=BD _ _ _ _ _ hargs j hj;cases hjo:cX oj with
       |true=>refine od hI hoi hoj hoio hjo (fun e=>?_) hb hje;have:=bd.1 hapart i hi;rw[e]at this;simp[hj]at this
       |false=>
        rcases dX.1 hje with rfl|⟨sz,sl,k,h1,_⟩
        .exact hb1 ((hI.iR j oj hoj).2.UV hjo)
        .rw [hoj]at h1;cases h1;cases hjo
     have hgood:=hok f as rs outs hcall (SB S w φ (aB H) ids1) w kN _ hSlt p1 (BA hI hnd p2) hnS (hI.Ce.mono (SB.uC _));intro next Q hn
     have hfin:∀val w',Left (SB S w φ (aB H) ids1) w ((lent.flatMap (·.2.1)).flatMap (iw w φ (aB H))) rs outs (oC as kN) val w'->next (a.put o.dst val) w':=by intro val w' hleft;refine hn val w' (JW hI hfr p1 p2 p3 hwhole hnd hleft (ro:=ro) (v:=v) (u:=u) (rd:=aA) ?_);exact h
     have hrun:∀r,(callFunc f kN.toArray).run P w=r->(execOp a.eval o).run P w=r:=by
      intro r hr;have e1:(#[]++c.args.map a.eval)++cvs=kN.toArray:=by apply Array.ext';simp[kN]
      simp only[execOp,ho,Sem.run_bind,resolve,hcal,hfe,Deferred.ofValue,Sem.run_pure,Result.andThen_ok,invoke,e1];exact hr
     rcases hgood with⟨g,as',hr,hc⟩|⟨val,hr,hleft⟩
     .unfold Oper.wp;rw[hrun _ hr,Oper.upon_enter];refine hc.mono fun en w' hR=>?_;obtain⟨val,rfl,hleft⟩:=hR;exact hfin val w' hleft
     .unfold Oper.wp;rw[hrun _ hr];exact hfin val w hleft
   .simp at h
 .simp at h
end
section
variable{P:Program}{S K:Nat->Prop}{w0 w:World}{Kn:Nat->Prop}{φ:Nat->gO}{H:bF}{e:jP}{o:Oper}{call:Call}{a:Act}{df:AB}{k:Ev.K}{args:List Operand}
 {nxt n':Nat} {v:TV} {u:fF} {aA:List Nat}
theorem fT{vs:List (Option TV)}:cQ call .gx vs H nxt=none:=by unfold cQ;split<;>first|rfl|simp_all
theorem JY{op:BinOp}{t ty:TypeId}{x y:Operand}(ho:o.op=.binOp op t x y ty)(hk:HW P op t x y=(k,args))(hI:Inv S K w0 Kn φ (aB H) w)(hE:jP.ok S w Kn φ e a.tmps)
  (h:cQ call k (args.map (kU e)) H nxt=some (v,u,aA,n')):dK P o a.eval S K w0 w Kn φ (aB H) nxt n' v u:=by
 have hρ:∀x tv,kU e x=some tv->gr S w Kn φ tv (a.eval x):=fun x tv h=>tQ hI.Ce hE h;have plainBin:(k,args)=(Ev.K.Ax op,[x,y])->dK P o a.eval S K w0 w Kn φ (aB H) nxt n' v u:=by intro hk;obtain⟨rfl,rfl⟩:=ad hk;exact Qq ho hI (fun z hz=>hρ x z hz) (fun z hz=>hρ y z hz) h
 have nilBin:∀kind,(op=.eql\/op=.neq)->Le P t kind->(k,args)=ql kind (op==.neq) x y->dK P o a.eval S K w0 w Kn φ (aB H) nxt n' v u:=by
  intro kind hop hu hk;unfold ql at hk;split at hk
  .rename_i hy;obtain⟨rfl,rfl⟩:=ad hk;exact DH ho hop hu hI (fun _=>rfl) (.inl ⟨rfl,hy⟩) (fun z hz=>hρ x z hz) h
  .split at hk
   .rename_i hx;obtain⟨rfl,rfl⟩:=ad hk;exact DH ho hop hu hI (fun _=>rfl) (.inr ⟨rfl,hx⟩) (fun z hz=>hρ y z hz) h
   .obtain ⟨rfl,rfl⟩:=ad hk;rw[fT]at h;simp at h
 have eqs:(op=.eql\/op=.neq)->(match P.underlying t with
  |some .bool=>(Ev.K.uU (op==.neq),[x,y])
  |some (.int _)|some (.float _)|some .string=>(Ev.K.Ax op,[x,y])
  |some (.slice _)=>ql 0 (op==.neq) x y
  |some (.pointer _)=>ql 1 (op==.neq) x y
  |some (.func _ _ _)=>ql 2 (op==.neq) x y
  |some (.struct _)|some (.array _ _)=>match zY P 8 t with|some ks=>if P.eqGuardType P.depth t=false then(Ev.K.zx (op==.neq) ks,[x,y])else(Ev.K.gx,[])|none=>(Ev.K.gx,[])
  |_=>(Ev.K.gx,[]))=(k,args)->dK P o a.eval S K w0 w Kn φ (aB H) nxt n' v u:=by
  intro hop hk;split at hk
  .rename_i hu;obtain⟨rfl,rfl⟩:=ad hk;exact IX ho hop hu hI (fun z hz=>hρ x z hz) (fun z hz=>hρ y z hz) h
  .exact plainBin hk.symm
  .exact plainBin hk.symm
  .exact plainBin hk.symm
  .rename_i hu;exact nilBin 0 hop ⟨_,hu⟩ hk.symm
  .rename_i hu;exact nilBin 1 hop ⟨_,hu⟩ hk.symm
  .rename_i hu;exact nilBin 2 hop ⟨_,_,_,hu⟩ hk.symm
  .rename_i hu;split at hk
   .rename_i hks;split at hk
    .rename_i hg;obtain⟨rfl,rfl⟩:=ad hk;exact DI ho hop hks (by simp[fW,hu]) hg hI (fun z hz=>hρ x z hz) (fun z hz=>hρ y z hz) h
    .obtain ⟨rfl,rfl⟩:=ad hk;rw[fT]at h;simp at h
   .obtain ⟨rfl,rfl⟩:=ad hk;rw[fT]at h;simp at h
  .rename_i hu;split at hk
   .rename_i hks;split at hk
    .rename_i hg;obtain⟨rfl,rfl⟩:=ad hk;exact DI ho hop hks (by simp[fW,hu]) hg hI (fun z hz=>hρ x z hz) (fun z hz=>hρ y z hz) h
    .obtain ⟨rfl,rfl⟩:=ad hk;rw[fT]at h;simp at h
   .obtain ⟨rfl,rfl⟩:=ad hk;rw[fT]at h;simp at h
  .obtain ⟨rfl,rfl⟩:=ad hk;rw[fT]at h;simp at h
 cases op with|eql=>exact eqs (.inl rfl) hk|neq=>exact eqs (.inr rfl) hk|_=>exact plainBin hk.symm
theorem qg{α:Type}{x:Array α}{y:α}(h:x.toList=[y]):x= #[y]:=by rw[<-lC (xs:=x),h]
theorem pw{α:Type}{x:Array α}{y z:α}(h:x.toList=[y,z]):x= #[y,z]:=by rw[<-lC (xs:=x),h]
theorem Aw{b:Builtin}{c:Go.Call}(ho:o.op=.call c)(hcal:c.callee=.builtin b)(hk:tj P b c.args.toList c.argTypes.toList=(k,args))(hI:Inv S K w0 Kn φ (aB H) w)
  (hE:jP.ok S w Kn φ e a.tmps) (hn0:nxt<n'->¬Kn nxt) (h:cQ call k (args.map (kU e)) H nxt=some (v,u,aA,n')):dK P o a.eval S K w0 w Kn φ (aB H) nxt n' v u:=by
 have hρ:∀x tv,kU e x=some tv->gr S w Kn φ tv (a.eval x):=fun x tv h=>tQ hI.Ce hE h
 have lenArgs:∀str,k=.len str->args=c.args.toList->∃x,c.args.toList=[x]:=by
  intro str hk ha;subst hk ha;generalize c.args.toList=l at h
  match l,h with|[x],_=>exact⟨x,rfl⟩|[],h=>simp[cQ]at h|x::y::r,h=>simp[cQ]at h
 unfold tj at hk;split at hk
 .rename_i t hts;split at hk
  .rename_i hu;obtain⟨rfl,rfl⟩:=ad hk;obtain⟨x,hx⟩:=lenArgs true rfl rfl;rw[hx]at h;exact K2 (str:=true) ho hcal (qg hx) (qg hts) hu hI (fun z hz=>hρ x z hz) h
  .rename_i hu;obtain⟨rfl,rfl⟩:=ad hk;obtain⟨x,hx⟩:=lenArgs false rfl rfl;rw[hx]at h;exact K2 (str:=false) ho hcal (qg hx) (qg hts) ⟨_,hu⟩ hI (fun z hz=>hρ x z hz) h
  .obtain ⟨rfl,rfl⟩:=ad hk;rw[fT]at h;simp at h
 .obtain ⟨rfl,rfl⟩:=ad hk;exact AY (m:=true) ho hcal hI hρ h
 .obtain ⟨rfl,rfl⟩:=ad hk;exact AY (m:=false) ho hcal hI hρ h
 .rename_i s x hts;split at hk
  .rename_i el el2 hus hux;split at hk
   .rename_i n z hsz hz;split at hk
    .rename_i hb;obtain⟨rfl,rfl⟩:=ad hk
     have:∃p q,c.args.toList=[p,q]:=by
      generalize c.args.toList=l at h
      match l,h with|[p,q],_=>exact⟨p,q,rfl⟩|[],h=>simp[cQ]at h|[p],h=>simp[cQ]at h|p::q::r::t,h=>simp[cQ]at h
     obtain⟨p,q,hpq⟩:=this;rw[hpq]at h;exact IY ho hcal (pw hpq) (pw hts) hus hux hsz hz hb.2 hb.1 hI hn0 (fun z hz=>hρ p z hz) (fun z hz=>hρ q z hz) h
    .obtain ⟨rfl,rfl⟩:=ad hk;rw[fT]at h;simp at h
   .obtain ⟨rfl,rfl⟩:=ad hk;rw[fT]at h;simp at h
  .rename_i el kd hus hux;split at hk
   .rename_i n z hsz hz;split at hk
    .rename_i hb;obtain⟨rfl,rfl⟩:=ad hk
     have:∃p q,c.args.toList=[p,q]:=by
      generalize c.args.toList=l at h
      match l,h with|[p,q],_=>exact⟨p,q,rfl⟩|[],h=>simp[cQ]at h|[p],h=>simp[cQ]at h|p::q::r::t,h=>simp[cQ]at h
     obtain⟨p,q,hpq⟩:=this;rw[hpq]at h;exact Qr ho hcal (pw hpq) (pw hts) hus hux hsz hz hb.2 hb.1 hI hn0 (fun z hz=>hρ p z hz) (fun z hz=>hρ q z hz) h
    .obtain ⟨rfl,rfl⟩:=ad hk;rw[fT]at h;simp at h
   .obtain ⟨rfl,rfl⟩:=ad hk;rw[fT]at h;simp at h
  .obtain ⟨rfl,rfl⟩:=ad hk;rw[fT]at h;simp at h
 .rename_i t hts;split at hk
  .rename_i el hu;obtain⟨rfl,rfl⟩:=ad hk
   have:∃p,c.args.toList=[p]:=by
    generalize c.args.toList=l at h
    match l,h with|[p],_=>exact⟨p,rfl⟩|[],h=>simp[cQ]at h|p::q::r,h=>simp[cQ]at h
   obtain⟨p,hp⟩:=this;rw[hp]at h;exact Qo ho hcal (qg hp) (qg hts) hu hI (fun z hz=>hρ p z hz) h
  .obtain ⟨rfl,rfl⟩:=ad hk;rw[fT]at h;simp at h
 .rename_i d x hts;split at hk
  .rename_i el hud;split at hk
   .rename_i n hsz;obtain⟨rfl,rfl⟩:=ad hk
    have:∃p q,c.args.toList=[p,q]:=by
     generalize c.args.toList=l at h
     match l,h with|[p,q],_=>exact⟨p,q,rfl⟩|[],h=>simp[cQ]at h|[p],h=>simp[cQ]at h|p::q::r::t,h=>simp[cQ]at h
    obtain⟨p,q,hpq⟩:=this;rw[hpq]at h;exact Of ho hcal (pw hpq) (pw hts) hud hsz hI (fun z hz=>hρ p z hz) (fun z hz=>hρ q z hz) h
   .obtain ⟨rfl,rfl⟩:=ad hk;rw[fT]at h;simp at h
  .obtain ⟨rfl,rfl⟩:=ad hk;rw[fT]at h;simp at h
 .rename_i d hts;split at hk
  .rename_i el hud;split at hk
   .rename_i n z hsz hz;split at hk
    .rename_i hzl;obtain⟨rfl,rfl⟩:=ad hk
     have:∃p,c.args.toList=[p]:=by
      generalize c.args.toList=l at h
      match l,h with|[p],_=>exact⟨p,rfl⟩|[],h=>simp[cQ]at h|p::q::r,h=>simp[cQ]at h
     obtain⟨p,hp⟩:=this;rw[hp]at h;exact K6 ho hcal (qg hp) (qg hts) hud hsz hz hzl hI (fun z hz=>hρ p z hz) h
    .obtain ⟨rfl,rfl⟩:=ad hk;rw[fT]at h;simp at h
   .obtain ⟨rfl,rfl⟩:=ad hk;rw[fT]at h;simp at h
  .obtain ⟨rfl,rfl⟩:=ad hk;rw[fT]at h;simp at h
 .obtain ⟨rfl,rfl⟩:=ad hk;rw[fT]at h;simp at h
theorem DC(hok:ny P call)(hk:xo P df o.op=(k,args))(hI:Inv S K w0 Kn φ (aB H) w)(hE:jP.ok S w Kn φ e a.tmps)(hfr:∀j,nxt<=j->j<n'->¬Kn j)
  (h:cQ call k (args.map (kU e)) H nxt=some (v,u,aA,n')):Pj P o a S K w0 w Kn φ (aB H) nxt n' v u:=by
 have hρ:∀x tv,kU e x=some tv->gr S w Kn φ tv (a.eval x):=fun x tv h=>tQ hI.Ce hE h;have hn0:nxt<n'->¬Kn nxt:=fun h=>hfr nxt (au _) h;have gx:(k,args)=(Ev.K.gx,[])->Pj P o a S K w0 w Kn φ (aB H) nxt n' v u:=by intro hk;obtain⟨rfl,rfl⟩:=ad hk;rw[fT]at h;simp at h
 generalize hop:o.op=op at hk;unfold xo at hk;split at hk
 .obtain ⟨rfl,rfl⟩:=ad hk;exact(Ps (.inl hop) hI (fun z hz=>hρ _ z hz) h).ll
 .obtain ⟨rfl,rfl⟩:=ad hk;exact(Ps (.inr hop) hI (fun z hz=>hρ _ z hz) h).ll
 .obtain ⟨rfl,rfl⟩:=ad hk;exact(Od hop hI (fun z hz=>hρ _ z hz) (fun z hz=>hρ _ z hz) (fun z hz=>hρ _ z hz) h).ll
 .--alloc
  split at hk
  .rename_i hz;obtain⟨rfl,rfl⟩:=ad hk;exact(K7 hop hz hI hn0 h).ll
  .exact gx hk.symm
 .obtain ⟨rfl,rfl⟩:=ad hk;exact(Qp hop hI hn0 (fun z hz=>hρ _ z hz) h).ll
 .--build
  split at hk
  .rename_i hu hz;split at hk
   .rename_i hpl;split at hk
    .rename_i hall;obtain⟨rfl,rfl⟩:=ad hk;exact(DK hop hz (.inl ⟨_,hu,hpl,hall⟩) hI hρ h).ll
    .exact gx hk.symm
   .exact gx hk.symm
  .rename_i hu hz;split at hk
   .rename_i hs;obtain⟨rfl,rfl⟩:=ad hk;exact(DK hop hz (.inr ⟨_,_,_,hu,hs,rfl⟩) hI hρ h).ll
   .exact gx hk.symm
  .exact gx hk.symm
 .--buildSlice
  split at hk
  .rename_i hu;split at hk
   .rename_i hs hz;split at hk
    .rename_i hl;obtain⟨rfl,rfl⟩:=ad hk;exact(Ai hop hu hs hz hl hI hn0 hρ h).ll
    .exact gx hk.symm
   .exact gx hk.symm
  .exact gx hk.symm
 .--load
  split at hk
  .rename_i ha hs;obtain⟨rfl,rfl⟩:=ad hk;split at h
   .rename_i hc;obtain⟨_,_,rfl,rfl⟩:=hc;exact(K1 hop ha hs hI hn0 (fun z hz=>hρ _ z hz) h).ll
   .exact (Hl hop ha hs hI (fun z hz=>hρ _ z hz) h).ll
  .exact gx hk.symm
 .--store
  split at hk
  .rename_i hs;obtain⟨rfl,rfl⟩:=ad hk;exact(KY hop hs hI (fun z hz=>hρ _ z hz) (fun z hz=>hρ _ z hz) h).ll
  .exact gx hk.symm
 .obtain ⟨rfl,rfl⟩:=ad hk;exact(DE hop hI (fun z hz=>hρ _ z hz) h).ll
 .exact (JY hop hk hI hE h).ll
 .obtain ⟨rfl,rfl⟩:=ad hk;exact(Sf hop hI (fun z hz=>hρ _ z hz) h).ll
 .--convert
  split at hk
  .rename_i hs hd;obtain⟨rfl,rfl⟩:=ad hk;exact(FY hop hs hd hI (fun z hz=>hρ _ z hz) h).ll
  .rename_i hs hd;obtain⟨rfl,rfl⟩:=ad hk;exact(DJ hop hs hd hI (fun z hz=>hρ _ z hz) h).ll
  .exact gx hk.symm
 .--makeFunc
  split at hk
  .rename_i hf;obtain⟨rfl,rfl⟩:=ad hk;exact(Oe hop hf hI hρ h).ll
  .exact gx hk.symm
 .--makeSlice
  split at hk
  .rename_i hu;split at hk
   .rename_i hs hz;split at hk
    .rename_i hl;obtain⟨rfl,rfl⟩:=ad hk;split at h
     .rename_i m hm;unfold Pt at hm;split at hm
      .rename_i hc;split at hm
       .split at hm
        .obtain rfl:=aa hm;exact(KZ hop hu hs hz hl.1 hl.2 hc.2 (Nat.succ_pos _) hI hn0 (fun z hz=>hρ _ z hz) (fun z hz=>hρ _ z hz) h).ll
        .cases hm
       .cases hm
      .cases hm
     .exact (vo hop hu hs hz hl.1 hl.2 hI hn0 (fun z hz=>hρ _ z hz) (fun z hz=>hρ _ z hz) h).ll
    .exact gx hk.symm
   .exact gx hk.symm
  .exact gx hk.symm
 .--slice
  split at hk
  .rename_i hu;obtain⟨rfl,rfl⟩:=ad hk;exact(DD (str:=true) hop hu hI hρ h).ll
  .rename_i hu;split at hk
   .rename_i hs;obtain⟨rfl,rfl⟩:=ad hk;exact(DD (str:=false) hop ⟨_,hu,hs⟩ hI hρ h).ll
   .exact gx hk.symm
  .exact gx hk.symm
 .--BQ
  split at hk
  .rename_i hu;split at hk
   .rename_i hs;obtain⟨rfl,rfl⟩:=ad hk;exact(IV hop hu hs hI hn0 hρ h).ll
   .exact gx hk.symm
  .exact gx hk.symm
 .--fieldAddr
  split at hk
  .rename_i hu;split at hk
   .rename_i hf;split at hk
    .rename_i hs;obtain⟨rfl,rfl⟩:=ad hk;exact(B2 hop hu hf hs hI (fun z hz=>hρ _ z hz) h).ll
    .exact gx hk.symm
   .exact gx hk.symm
  .exact gx hk.symm
 .--field
  split at hk
  .rename_i hu;split at hk
   .rename_i hf;split at hk
    .rename_i ha hs;obtain⟨rfl,rfl⟩:=ad hk;exact(K4 hop hu hf ha hs hI (fun z hz=>hρ _ z hz) h).ll
    .exact gx hk.symm
   .exact gx hk.symm
  .exact gx hk.symm
 .--indexAddr
  split at hk
  .rename_i hu;split at hk
   .rename_i hs;obtain⟨rfl,rfl⟩:=ad hk;exact(vp (aM:=none) hop ⟨_,hu,hs⟩ hI (fun z hz=>hρ _ z hz) (fun z hz=>hρ _ z hz) h).ll
   .exact gx hk.symm
  .rename_i hu;split at hk
   .rename_i hs;obtain⟨rfl,rfl⟩:=ad hk;exact(vp (aM:=some _) hop ⟨_,hu,hs⟩ hI (fun z hz=>hρ _ z hz) (fun z hz=>hρ _ z hz) h).ll
   .exact gx hk.symm
  .exact gx hk.symm
 .--index
  split at hk
  .rename_i hu;obtain⟨rfl,rfl⟩:=ad hk;exact(DG hop hu hI (fun z hz=>hρ _ z hz) (fun z hz=>hρ _ z hz) h).ll
  .rename_i hu;split at hk
   .rename_i ha hs;obtain⟨rfl,rfl⟩:=ad hk;exact(K3 hop hu ha hs hI (fun z hz=>hρ _ z hz) (fun z hz=>hρ _ z hz) h).ll
   .exact gx hk.symm
  .exact gx hk.symm
 .obtain ⟨rfl,rfl⟩:=ad hk;exact(FX hop hI (fun z hz=>hρ _ z hz) h).ll
 .--makeMap
  split at hk
  .split at hk
   .obtain ⟨rfl,rfl⟩:=ad hk;exact(FW hop hI hn0 h).ll
   .exact gx hk.symm
  .exact gx hk.symm
 .--lookup
  split at hk
  .rename_i hu;split at hk
   .rename_i hm;obtain⟨rfl,rfl⟩:=ad hk;exact(IW hop hu hm hI (fun z hz=>hρ _ z hz) (fun z hz=>hρ _ z hz) h).ll
   .exact gx hk.symm
  .exact gx hk.symm
 .--mapEntry
  split at hk
  .rename_i hu;split at hk
   .rename_i hm;obtain⟨rfl,rfl⟩:=ad hk;exact(DF hop hu hm hI (fun z hz=>hρ _ z hz) (fun z hz=>hρ _ z hz) h).ll
   .exact gx hk.symm
  .exact gx hk.symm
 .--entryStore
  split at hk
  .split at hk
   .obtain ⟨rfl,rfl⟩:=ad hk;exact(Ah hop hI (fun z hz=>hρ _ z hz) (fun z hz=>hρ _ z hz) (fun z hz=>hρ _ z hz) h).ll
   .exact gx hk.symm
  .exact gx hk.symm
 .--call
  rename_i c;split at hk
  .rename_i hcal;exact(Aw hop hcal hk hI hE hn0 h).ll
  .rename_i f hcal;split at hk
   .split at hk
    .rename_i hf;obtain⟨rfl,rfl⟩:=ad hk
     have:∃p q,c.args.toList=[p,q]:=by
      generalize c.args.toList=l at h
      match l,h with|[p,q],_=>exact⟨p,q,rfl⟩|[],h=>simp[cQ]at h|[p],h=>simp[cQ]at h|p::q::r::t,h=>simp[cQ]at h
     obtain⟨p,q,hpq⟩:=this;rw[hpq]at h;exact(Qm hop hcal (pw hpq) hf rfl hI (fun z hz=>hρ p z hz) (fun z hz=>hρ q z hz) h).ll
    .exact gx hk.symm
   .obtain ⟨rfl,rfl⟩:=ad hk;exact Hm hop hcal hok hI hfr hρ h
  .rename_i hcal;obtain⟨rfl,rfl⟩:=ad hk;exact Hm hop hcal hok hI hfr hρ h
  .exact gx hk.symm
 .exact gx hk.symm
end
def gE(P:Program)(df:AB)(nt:Nat)(all:Array Oper)(o:Oper):ol:=
 {dst:=o.dst
  k:=if(match o.dst with|some d=>decide (d<nt)|none=>true)then(xo P df o.op).1 else .gx
  args:=(xo P df o.op).2
  guard:=match o.guard with|none=>none|some (j,b)=>some (((all[j]?).bind (·.dst)).getD 1000000000,b)}
def sf:C:=.o5 0 []
def RG(S:Nat->Prop)(w:World)(Kn:Nat->Prop)(φ:Nat->gO)(c:C)(v:Value):Prop:=c=sf\/RC S w Kn φ c v
theorem RG.mono{S S':Nat->Prop}{w w':World}{Kn Kn':Nat->Prop}{φ φ':Nat->gO}(hs:hC S w S' w')(hr:Ren Kn φ Kn' φ'){x:C}{v:Value}(h:RG S w Kn φ x v):RG S' w' Kn' φ' x v:=h.imp id fun h=>h.mono hs hr
structure G0(S K:Nat->Prop)(w0:World)(Kn:Nat->Prop)(φ:Nat->gO)(gv:List Value)(nt:Nat)(s:St)(a:Act)(w:World):Prop where
 inv:Inv S K w0 Kn φ (aB s.heap) w
 dH:jP.ok S w Kn φ s.dH a.tmps
 size:a.tmps.size=nt
 defers:a.defers=[]
 gM:∀j,s.next<=j->¬Kn j
 gh:∀(i:Nat)(c:C)(v:Value),s.gh[i]?=some c->gv[i]?=some v->RG S w Kn φ c v
section
variable{P:Program}{S K:Nat->Prop}{w0 w:World}{Kn:Nat->Prop}{φ:Nat->gO}{gv:List Value}{nt:Nat}{a:Act}{call:Call}{df:AB}{s s':St}
theorem N5{a:Act}{d:Nat}{v:Value}(h:d<a.tmps.size)(t:Nat):(a.put (some d) v).tmps.getD t undef=if t=d then v else a.tmps.getD t undef:=by
 simp only[Act.put,bw,kG];by_cases e:d=t
 .subst e;simp[h]
 .have e2:¬t=d:=fun h=>e h.symm;simp[e,e2]
theorem vg{a:Act}(d:Option Nat)(v:Value):(a.put d v).tmps.size=a.tmps.size:=by cases d<;>simp[Act.put]
theorem rB{a:Act}(d:Option Nat)(v:Value):(a.put d v).defers=a.defers:=by cases d<;>simp[Act.put]
theorem lH(e:jP)(d:Option Nat)(v:TV)(t:Nat):cA (put e d v) t=if d=some t then some v else cA e t:=by
 cases d with
 |none=>simp[put]
 |some d=>
  simp only[put,cA];by_cases h:d=t
  .simp [h]
  .have h':(d==t)=false:=by simpa using h
   simp[h,h']
theorem zo(e:jP)(d:Option Nat)(t:Nat):cA (drop e d) t=if d=some t then some (.iT [])else cA e t:=lH e d (.iT []) t
theorem jP.KM{e:jP}{S':Nat->Prop}{w':World}{Kn':Nat->Prop}{φ':Nat->gO}(hE:jP.ok S w Kn φ e a.tmps)(hs:hC S w S' w')(hr:Ren Kn φ Kn' φ'){d:Option Nat}{v:TV}{val:Value}
  (hd:∀x,d=some x->x<a.tmps.size) (hv:gr S' w' Kn' φ' v val):jP.ok S' w' Kn' φ' (Ev.put e d v) (a.put d val).tmps:=by
 intro t x hx;rw[lH]at hx;cases d with
 |none=>simp only[reduceCtorEq,if_false]at hx;exact(hE t x hx).mono hs hr
 |some d=>
  rw[N5 (hd d rfl)];by_cases h:t=d
  .subst h;simp only[if_true]at hx;rw[if_pos rfl,<-aa hx];exact hv
  .have h2:¬(some d=some t):=fun e=>h (aa e).symm;rw[if_neg h2]at hx;rw[if_neg h];exact(hE t x hx).mono hs hr
theorem jP.HQ{e:jP}(hE:jP.ok S w Kn φ e a.tmps){d:Option Nat}:jP.ok S w Kn φ (Ev.drop e d) (a.put d undef).tmps:=by
 intro t x hx;rw[zo]at hx;have hu:gr S w Kn φ (.iT []) undef:=.iT rfl fun i x hi=>by simp at hi
 split at hx
 .rename_i h;subst h;obtain rfl:=aa hx;have:(a.put (some t) undef).tmps.getD t undef=undef:=by simp only[Act.put,bw,kG,if_true];split<;>rfl
  rw[this];exact hu
 .rename_i h;have:=hE t x hx;cases d with|none=>exact this|some d=>have h2:¬d=t:=fun e=>h (by rw[e]);simp only[Act.put,bw,kG,if_neg h2];rw[bw]at this;exact this
theorem p_{e:jP}(hE:jP.ok S w Kn φ e a.tmps)(hsz:a.tmps.size<1000000000){all:Array Oper}{o:Oper}{b:Bool}(h:kz e (gE P df nt all o).guard=some b):
  Region.wanted o (yielded all a.tmps)=b:=by
 unfold gE at h;simp only at h;unfold Region.wanted;cases hg:o.guard with
 |none=>rw[hg]at h;simpa[kz]using h
 |some p=>
  obtain⟨j,want⟩:=p;rw[hg]at h;simp only[kz]at h;split at h
  .rename_i x hx;have hr:=hE _ _ hx;obtain⟨hv,_⟩:=hr.lit;cases hd:(all[j]?).bind (·.dst)with
   |none=>rw[hd]at hv;simp only[Option.getD_none]at hv;rw[bw,Array.getElem?_eq_none (by omega)]at hv;simp[undef]at hv
   |some t=>
    rw[hd]at hv;simp only[fK]at hv
    have ht:a.tmps[t]?=some (.bool x):=by
     rw[bw]at hv;cases ht:a.tmps[t]?with
     |none=>rw[ht]at hv;simp[undef]at hv
     |some y=>rw[ht]at hv;simpa using hv
    obtain rfl:=aa h;simp only[yielded,hd,af,ht];cases x<;>cases want<;>rfl
  .rename_i hx;have hr:=hE _ _ hx;obtain rfl:=aa h;cases hd:(all[j]?).bind (·.dst)with
   |none=>simp only[yielded,hd,Option.bind_none];rfl
   |some t=>
    rw[hd]at hr;simp only[fK]at hr;generalize hv:a.tmps.getD t undef=v at hr;cases hr with
    |@iT _ aM hlen _=>
     rw[bw]at hv;simp only[yielded,hd,af];cases ht:a.tmps[t]?with
     |none=>rfl
     |some y=>rw[ht]at hv;simp only[fK]at hv;subst hv;rfl
  .simp at h
end
section
variable{H H':bF}
def ip(H H':bF)(aA:List Nat):Prop:=∀i∈aA,aB H' i=aB H i
theorem ip.left{a b:List Nat}(h:ip H H' (a++b)):ip H H' a:=fun i hi=>h i (aE _ hi)
theorem ip.right{a b:List Nat}(h:ip H H' (a++b)):ip H H' b:=fun i hi=>h i (aG _ hi)
theorem uz:∀n,(∀c x aA,ed H n c=some (x,aA)->ip H H' aA->ed H' n c=some (x,aA))/\
  (∀cs xs aA,f_ H n cs=some (xs,aA)->ip H H' aA->f_ H' n cs=some (xs,aA)):=by
 have leaf:∀n c x aA,(match c with|.op _ _|.o5 _ _=>False|_=>True)->ed H n c=some (x,aA)->ip H H' aA->ed H' n c=some (x,aA):=by
  intro n c x aA hl h ha;cases c with
  |d y=>simpa only[ed]using h
  |fy sz id off len=>
   have:aB H' id=aB H id:=ha id (by
    simp only[ed]at h;split at h
    all_goals first
     |(split at h
       .obtain ⟨_,rfl⟩:=ad (aa h);simp
       .simp at h)
     |(split at h
       .split at h
        .obtain ⟨_,rfl⟩:=ad (aa h);simp
        .simp at h
       .simp at h)
     |simp at h)
   simp only[ed]at h|-;rw[this];exact h
  |ep id dl off=>
   have:aB H' id=aB H id:=ha id (by
    simp only[ed]at h;split at h
    all_goals first
     |(split at h
       .split at h
        .obtain ⟨_,rfl⟩:=ad (aa h);simp
        .simp at h
       .simp at h)
     |simp at h)
   simp only[ed]at h|-;rw[this];exact h
  |op id off=>exact hl.elim
  |o5 f caps=>exact hl.elim
  |om id=>cases n<;>simp[ed]at h
 intro n;induction n with
 |zero=>
  refine⟨fun c x aA h ha=>?_,fun cs xs aA h ha=>?_⟩
  .cases c with|op id off=>simp[ed]at h|o5 f caps=>simp[ed]at h|_=>exact leaf 0 _ x aA trivial h ha
  .cases cs with|nil=>simpa only[f_]using h|cons c cs=>simp[f_]at h
 |succ n ih=>
  refine⟨fun c x aA h ha=>?_,fun cs xs aA h ha=>?_⟩
  .cases c with
   |op id off=>
    simp only[ed]at h|-;split at h
    .rename_i ho;split at h
     .rename_i hle;obtain⟨rfl,rfl⟩:=ad (aa h);rw[ha id (by simp),ho];simp only[hle,if_true]
     .simp at h
    .rename_i ho;split at h
     .rename_i hv;split at h
      .rename_i hle;obtain⟨rfl,rfl⟩:=ad (aa h);rw[ha id (by simp),ho];simp only[ih.2 _ _ _ hv (fun i hi=>ha i (by simp[hi])),hle,if_true]
      .simp at h
     .simp at h
    .simp at h
   |o5 f caps=>
    simp only[ed]at h|-;split at h
    .rename_i hv;obtain⟨rfl,rfl⟩:=ad (aa h);simp only[ih.2 _ _ _ hv ha]
    .simp at h
   |_=>exact leaf _ _ x aA trivial h ha
  .cases cs with
   |nil=>simpa only[f_]using h
   |cons c cs=>
    simp only[f_]at h|-;split at h
    .rename_i h1 h2;obtain⟨rfl,rfl⟩:=ad (aa h);simp only[ih.1 _ _ _ h1 ha.left,ih.2 _ _ _ h2 ha.right]
    .simp at h
theorem rm:∀cs xs aA,dW H cs=some (xs,aA)->ip H H' aA->dW H' cs=some (xs,aA):=by
 intro cs;induction cs with
 |nil=>intro xs aA h _;simpa only[dW]using h
 |cons c cs ih=>
  intro xs aA h ha;simp only[dW]at h|-;split at h
  .rename_i h1 h2;obtain⟨rfl,rfl⟩:=ad (aa h);simp only[(uz 300).1 _ _ _ h1 ha.left,ih _ _ h2 ha.right]
  .simp at h
theorem rM{all:List Nat}(ha:ip H H' all):∀(l:List Nat)(u:fF),(∀i∈l,i∈all)->eh H all l=some u->eh H' all l=some u:=by
 intro l;induction l with
 |nil=>intro u _ h;simpa only[eh]using h
 |cons a l ih=>
  intro u hl h;simp only[eh]at h|-;split at h
  .rename_i o u' ho hu
   have hob:ke H' all a=some o:=by
    unfold ke at ho|-;rw[ha a (hl a (by simp))];split at ho
    .exact ho
    .exact ho
    .exact ho
    .split at ho
     .rename_i hv;split at ho
      .rename_i hall;simp only[(uz 300).2 _ _ _ hv (fun i hi=>ha i (by simpa using bd.1 hall i hi)),hall,if_true];exact ho
      .simp at ho
     .simp at ho
    .simp at ho
    .simp at ho
    .exact ho
    .simp at ho
   simp only[hob,ih u' (fun i hi=>hl i (by simp[hi])) hu];exact h
  .simp at h
theorem yW{agg:Bool}{n:Nat}{p:C}{v:TV}{aA:List Nat}(h:ig agg n p H=some (v,aA))(ha:ip H H' aA):ig agg n p H'=some (v,aA):=by
 unfold ig at h|-;split at h
 .exact h
 .rename_i id dl off
  have:aB H' id=aB H id:=ha id (by
   split at h
   all_goals first
    |(split at h
      .split at h
       .obtain ⟨_,rfl⟩:=ad (aa h);simp
       .simp at h
      .simp at h)
    |simp at h)
  simp only[this];exact h
 .rename_i id off
  have:aB H' id=aB H id:=ha id (by
   split at h
   all_goals first
    |(split at h
      .obtain ⟨_,rfl⟩:=ad (aa h);simp
      .simp at h)
    |simp at h)
  simp only[this];exact h
 .simp at h
theorem FI{id dl sz:Nat}{slots:List k8}{cs:List C}{u:fF}{aA:List Nat}(h:rO id dl sz slots cs H=some (u,aA))(ha:ip H H' aA):rO id dl sz slots cs H'=some (u,aA):=by
 unfold rO at h|-;split at h
 .exact h
 .rename_i sz' id2 len
  have hid:id2∈aA:=by
   repeat' split at h
   all_goals first
    |(simp at h;done)
    |(obtain⟨_,h2⟩:=ad (aa h);rw[<-h2];simp)
  simp only[ha id2 hid];exact h
 .simp at h
theorem DY{agg:Bool}{n nxt n':Nat}{p:C}{v:TV}{u:fF}{aA:List Nat}(h:lI agg n p H nxt=some (v,u,aA,n'))(ha:ip H H' aA):ig agg n p H'=none/\lI agg n p H' nxt=some (v,u,aA,n'):=by
 unfold lI at h;split at h
 case h_2=>simp at h
 rename_i id dl;split at h
 case h_2=>simp at h
 rename_i sz slots ho
 have hid:id∈aA:=by
  repeat' split at h
  all_goals first
   |(simp at h;done)
   |(obtain⟨_,_,h2,_⟩:=(by simpa using h:_/\_/\[id]=aA/\_);rw[<-h2];simp)
 have ho':aB H' id=some (.nst sz slots):=by rw[ha id hid];exact ho
 refine⟨by simp only[ig,ho'],?_⟩;simp only[lI,ho'];exact h
theorem C1{n:Nat}{p:C}{v:TV}{u:fF}{aA:List Nat}(h:mu n p v H=some (u,aA))(ha:ip H H' aA):mu n p v H'=some (u,aA):=by
 unfold mu at h|-;split at h
 .simp at h
 .rename_i cs hcs;split at h
  .rename_i hlen;simp only[hlen,if_true];split at h
   .rename_i id dl off;split at h
    .rename_i sz aq ho;split at h
     .rename_i r ds ids1 hr hv;split at h
      .rename_i u1 hfz;split at h
       .rename_i hb;obtain⟨rfl,rfl⟩:=ad (aa h);have ha1:ip H H' ids1:=fun i hi=>ha i (by simp[hi]);simp only[ha id (by simp),ho,hr,rm _ _ _ hv ha1,rM ha1 _ _ (fun i hi=>hi) hfz,hb.1,hb.2,and_self,if_true]
       .simp at h
      .simp at h
     .simp at h
    .rename_i sz slots ho;split at h
     .rename_i hc
      have hid:id∈aA/\∀i,cs=[.fy sz i 0 0]->True:=by
       refine⟨?_,fun _ _=>trivial⟩;unfold rO at h
       repeat' split at h
       all_goals first
        |(simp at h;done)
        |(obtain⟨_,h2⟩:=ad (aa h);rw[<-h2];simp)
      simp only[ha id hid.1,ho,if_pos hc];exact FI h ha
     .simp at h
    .simp at h
   .rename_i id off;split at h
    .rename_i cells ho;split at h
     .rename_i hb;obtain⟨rfl,rfl⟩:=ad (aa h);simp only[ha id (by simp),ho,hb,if_true]
     .simp at h
    .simp at h
   .simp at h
  .simp at h
theorem o_{sz:Nat}{x:C}{new:List (List D)}{aA:List Nat}(h:jk sz H x=some (new,aA))(ha:ip H H' aA):jk sz H' x=some (new,aA):=by
 unfold jk at h|-;split at h
 .exact h
 .exact h
 .rename_i sz' id off len
  have:aB H' id=aB H id:=ha id (by
   split at h
   all_goals first
    |(split at h
      .obtain ⟨_,rfl⟩:=ad (aa h);simp
      .simp at h)
    |simp at h)
  simp only[this];exact h
 .simp at h
theorem GH{sz:Nat}{d x:C}{i:Int}{u:fF}{aA:List Nat}(h:mE sz d x H=some (i,u,aA))(ha:ip H H' aA):mE sz d x H'=some (i,u,aA):=by
 unfold mE at h|-;split at h
 .rename_i new ids1 hr;obtain⟨_,_,rfl⟩:_/\_/\ids1=aA:=by simpa using h
  rw[o_ hr ha];exact h
 .rename_i new ids1 sz' id off len hr;split at h
  .rename_i szo aq ho;split at h
   .rename_i hb;obtain⟨_,_,rfl⟩:_/\_/\id::ids1=aA:=by simpa using h
    rw[o_ hr fun j hj=>ha j (aC _ hj)];simp only[ha id (by simp),ho,if_pos hb];exact h
   .simp at h
  .simp at h
 .simp at h
theorem EB{sz:Nat}{d x:C}{i:Int}{u:fF}{aA:List Nat}(h:ph sz d x H=some (i,u,aA))(ha:ip H H' aA):ph sz d x H'=some (i,u,aA)/\mE sz d x H'=none:=by
 unfold ph at h|-;split at h
 case h_2=>simp at h
 rename_i sz' id off len sz2 id2 off2 len2
 have hids:aA=[id,id2]:=by
  repeat' split at h
  all_goals first
   |(simp at h;done)
   |(obtain⟨_,_,h2⟩:=(by simpa using h:_/\_/\[id,id2]=aA);exact h2.symm)
 subst hids;have a1:=ha id (by simp);have a2:=ha id2 (by simp);refine⟨by simp only[a1,a2];exact h,?_⟩
 have:∃szo aq cp,aB H' id=some (.cap szo aq cp):=by
  rw[a1];split at h
  .exact ⟨_,_,_,by assumption⟩
  .exact ⟨_,_,_,by assumption⟩
  .simp at h
 obtain⟨szo,aq,cp,ho⟩:=this;unfold mE;split
 .rename_i hd;simp at hd
 .rename_i hd;obtain⟨rfl,rfl,rfl,rfl⟩:=(by simpa using hd:_/\_/\_/\_)
  rw[ho]
 .rfl
theorem CB{sz nxt n':Nat}{s x:C}{v:TV}{u:fF}{aA:List Nat}(h:oH sz s x H nxt=some (v,u,aA,n'))(ha:ip H H' aA):oH sz s x H' nxt=some (v,u,aA,n'):=by
 unfold oH at h|-;split at h
 .simp at h
 .rename_i new ids1 hr;split at h
  .have e1:ids1=aA:=by
    split at h
    .split at h
     .obtain ⟨_,_,h3,_⟩:=(by simpa using h:_/\_/\ids1=aA/\_);exact h3
     .obtain ⟨_,_,h3,_⟩:=(by simpa using h:_/\_/\ids1=aA/\_);exact h3
    .simp at h
   subst e1;simp only[o_ hr ha];exact h
  .rename_i sz' id off len;split at h
   .rename_i szo aq ho;split at h
    .rename_i hb;have e1:id::ids1=aA:=by obtain⟨_,_,h3,_⟩:=(by simpa using h:_/\_/\id::ids1=aA/\_);exact h3
     subst e1;simp only[o_ hr (fun i hi=>ha i (by simp[hi])),ha id (by simp),ho];rw[if_pos hb];exact h
    .simp at h
   .simp at h
  .simp at h
theorem FP:∀n,(∀c t bv rd,eP H n c=some (t,bv,rd)->ip H H' rd->eP H' n c=some (t,bv,rd))/\
  (∀cs ts bv rd,iK H n cs=some (ts,bv,rd)->ip H H' rd->iK H' n cs=some (ts,bv,rd)):=by
 have leaf:∀n c t bv rd,(match c with|.op _ _=>False|_=>True)->eP H n c=some (t,bv,rd)->ip H H' rd->eP H' n c=some (t,bv,rd):=by
  intro n c t bv rd hl h ha;cases c with
  |d y=>cases n<;>simpa only[eP]using h
  |fy sz id off len=>
   have hm:id∈rd:=by
    cases n<;>
    .simp only[eP]at h;split at h
     all_goals first
      |(split at h
        .split at h
         .obtain ⟨_,_,h3⟩:=(by simpa using h:_/\_/\[id]=rd);rw[<-h3];simp
         .simp at h
        .simp at h)
      |(split at h
        .obtain ⟨_,_,h3⟩:=(by simpa using h:_/\_/\[id]=rd);rw[<-h3];simp
        .simp at h)
      |simp at h
   have:aB H' id=aB H id:=ha id hm;cases n<;>
   .simp only[eP]at h|-;rw[this];exact h
  |ep id dl off=>cases n<;>simp[eP]at h
  |o5 f caps=>cases n<;>simp[eP]at h
  |om id=>cases n<;>simp[eP]at h
  |op id off=>exact hl.elim
 intro n;induction n with
 |zero=>
  refine⟨fun c t bv rd h ha=>?_,fun cs ts bv rd h ha=>?_⟩
  .cases c with|op id off=>simp[eP]at h|_=>exact leaf 0 _ t bv rd trivial h ha
  .cases cs with|nil=>simpa only[iK]using h|cons c cs=>simp[iK]at h
 |succ n ih=>
  refine⟨fun c t bv rd h ha=>?_,fun cs ts bv rd h ha=>?_⟩
  .cases c with
   |op id off=>
    cases off with
    |succ off=>simp[eP]at h
    |zero=>
     simp only[eP]at h|-;split at h
     .rename_i ho;split at h
      .rename_i ts own' rd' hp;obtain⟨h1,h2,h3⟩:=(by simpa using h:T.pt ts=t/\id::own'=bv/\id::rd'=rd)
       subst h1 h2 h3;rw[ha id (by simp),ho];simp only[ih.2 _ _ _ _ hp (fun i hi=>ha i (by simp[hi]))]
      .simp at h
     .rename_i cells ho;obtain⟨h1,h2,h3⟩:=(by simpa using h:T.d (.pt cells)=t/\[]=bv/\[id]=rd)
      subst h1 h2 h3;rw[ha id (by simp),ho]
     .simp at h
   |_=>exact leaf _ _ t bv rd trivial h ha
  .cases cs with
   |nil=>simpa only[iK]using h
   |cons c cs=>
    simp only[iK]at h|-;split at h
    .rename_i t0 a i0 ts0 b j0 h1 h2;obtain⟨e1,e2,e3⟩:=(by simpa using h:t0::ts0=ts/\a++b=bv/\i0++j0=rd)
     subst e1 e2 e3;simp only[ih.1 _ _ _ _ h1 ha.left,ih.2 _ _ _ _ h2 ha.right]
    .simp at h
theorem zO:∀(tvs:List TV)(ms:List Bool)(as:List A)(aA:List Nat)(lent:List (C×List Nat×List Nat)),gD H tvs ms=some (as,aA,lent)->ip H H' aA->ip H H' (lent.flatMap (·.2.2))->
  gD H' tvs ms=some (as,aA,lent):=by
 intro tvs;induction tvs with
 |nil=>intro ms as aA lent h _ _;simpa only[gD]using h
 |cons t tvs ih=>
  intro ms as aA lent h ha hb;simp only[gD]at h|-;split at h
  .simp at h
  .rename_i as1 ids1 lent1 hrec;split at h
   .rename_i hm;split at h
    .split at h
     .rename_i t0 bv rd hp;obtain⟨e1,e2,e3⟩:=(by simpa using h:A.mt t0::as1=as/\ids1=aA/\(_,bv,rd)::lent1=lent)
      subst e1 e2 e3;simp only[bk]at hb;simp only[ih _ _ _ _ hrec ha hb.right,hm,if_true,(FP 300).1 _ _ _ _ hp hb.left]
     .simp at h
    .simp at h
   .rename_i hm;split at h
    .split at h
     .rename_i x i hv;obtain⟨e1,e2,e3⟩:=(by simpa using h:A.d x::as1=as/\i++ids1=aA/\lent1=lent)
      subst e1 e2 e3;simp only[ih _ _ _ _ hrec ha.right hb,hm,if_false,aT,(uz 300).1 _ _ _ hv ha.left]
     .simp at h
    .split at h
     .rename_i xs i hv;obtain⟨e1,e2,e3⟩:=(by simpa using h:A.agg xs::as1=as/\i++ids1=aA/\lent1=lent)
      subst e1 e2 e3;simp only[ih _ _ _ _ hrec ha.right hb,hm,if_false,aT,rm _ _ _ hv ha.left]
     .simp at h
    .simp at h
theorem Ox:∀(tvs:List TV)(ms:List Bool)(as:List A)(aA:List Nat)(lent:List (C×List Nat×List Nat)),gD H tvs ms=some (as,aA,lent)->
  ∀c bv rd,(c,bv,rd)∈lent->∃t,eP H 300 c=some (t,bv,rd):=by
 intro tvs;induction tvs with
 |nil=>
  intro ms as aA lent h c bv rd hm;obtain⟨_,_,rfl⟩:[]=as/\[]=aA/\[]=lent:=by simpa[gD]using h
  simp at hm
 |cons t tvs ih=>
  intro ms as aA lent h c bv rd hm;simp only[gD]at h;split at h
  .simp at h
  .rename_i as1 ids1 lent1 hrec;split at h
   .split at h
    .split at h
     .rename_i c0 _ t0 own0 rd0 hp;obtain⟨_,_,e3⟩:=(by simpa using h:A.mt t0::as1=as/\ids1=aA/\(_,own0,rd0)::lent1=lent)
      subst e3;rcases aN.1 hm with hm|hm
      .simp only[dg]at hm;obtain⟨g1,g2,g3⟩:=hm;rw[g1,g2,g3];exact⟨_,hp⟩
      .exact ih _ _ _ _ hrec c bv rd hm
     .simp at h
    .simp at h
   .split at h
    .split at h
     .obtain ⟨_,_,e3⟩:=(by simpa using h:_/\_/\lent1=lent)
      subst e3;exact ih _ _ _ _ hrec c bv rd hm
     .simp at h
    .split at h
     .obtain ⟨_,_,e3⟩:=(by simpa using h:_/\_/\lent1=lent)
      subst e3;exact ih _ _ _ _ hrec c bv rd hm
     .simp at h
    .simp at h
theorem CP:∀(l:List (C×List Nat×List Nat)),(∀c bv rd,(c,bv,rd)∈l->∃t,eP H 300 c=some (t,bv,rd))->ip H H' (l.flatMap (·.2.2))->eS H' l=eS H l:=by
 intro l;induction l with
 |nil=>intro _ _;rfl
 |cons p l ih=>
  obtain⟨c,bv,rd⟩:=p;intro hp ha;simp only[bk]at ha;have h1:=ih (fun c bv rd hm=>hp c bv rd (by simp[hm])) ha.right;cases c with
  |fy sz id off len=>
   obtain⟨t,ht⟩:=hp (.fy sz id off len) bv rd (by simp)
   have hm:id∈rd:=by
    simp only[eP]at ht;split at ht
    all_goals first
     |(split at ht
       .split at ht
        .obtain ⟨_,_,h3⟩:=(by simpa using ht:_/\_/\[id]=rd);rw[<-h3];simp
        .simp at ht
       .simp at ht)
     |(split at ht
       .obtain ⟨_,_,h3⟩:=(by simpa using ht:_/\_/\[id]=rd);rw[<-h3];simp
       .simp at ht)
     |simp at ht
   simp only[eS,h1,ha.left id hm]
  |_=>simp only[eS,h1]
theorem GR{call:Call}{ro:Bool}{kh:List Bool}{f:Option TV}{vs:List (Option TV)}{nxt n':Nat}{v:TV}{u:fF}{aA:List Nat}(h:uT call ro kh f vs H nxt=some (v,u,aA,n'))(ha:ip H H' aA):
  uT call ro kh f vs H' nxt=some (v,u,aA,n'):=by
 unfold uT at h|-;split at h
 .rename_i f caps vs hf hvs;split at h
  .simp at h
  .rename_i as ids1 lent hargs;split at h
   .rename_i hcond;split at h
    .simp at h
    .rename_i rs outs hcall;by_cases hro:ro=true
     .rw [if_pos hro]at h;split at h
      .rename_i hc;have hle:lent=[]:=by simpa using hc.2.1
       subst hle;have e1:ids1=aA:=by obtain⟨_,_,h3,_⟩:=(by simpa using h:_/\_/\ids1=aA/\_);exact h3
       subst e1;simp only[zO _ _ _ _ _ hargs ha (fun i hi=>by simp at hi)];rw[if_pos ⟨rfl,hcond.2⟩];simp only[hcall,hro,if_true];rw[if_pos hc];exact h
      .simp at h
     .rw [if_neg hro]at h;split at h
      .simp at h
      .rename_i fu hfz;split at h
       .simp at h
       .rename_i bu m hbk;have e1:ids1++lent.flatMap (·.2.2)=aA:=by obtain⟨_,_,h3,_⟩:=(by simpa using h:_/\_/\ids1++lent.flatMap (·.2.2)=aA/\_);exact h3
        subst e1;simp only[zO _ _ _ _ _ hargs ha.left ha.right];rw[if_pos (by rw[CP lent (Ox _ _ _ _ _ hargs) ha.right];exact hcond)];simp only[hcall];rw[if_neg hro];simp only[rM ha.left _ _ (fun i hi=>hi) hfz,hbk];exact h
   .simp at h
 .simp at h
theorem wT{call:Call}{sz len:Nat}{zero:List Value}{places:List Nat}{vs:List (Option TV)}{nxt n':Nat}{v:TV}{u:fF}{aA:List Nat}
  (h:cQ call (.buildSlice sz len zero places) vs H nxt=some (v,u,aA,n')) (ha:ip H H' aA):cQ call (.buildSlice sz len zero places) vs H' nxt=some (v,u,aA,n'):=by
 have key:∀G:bF,cQ call (.buildSlice sz len zero places) vs G nxt=(match eM vs with
  |some xs=>
   (match nk (fz zero) ((places.map fun i=>(i*sz,sz)).zip xs)with
   |some cs=>
    (match dW G cs with
    |some (ds,aA)=>(match eh G aA aA with|some u=>some (TV.c (.fy sz nxt 0 len),(nxt,some (Ob.aM sz (mF sz len ds)))::u,aA,nxt+1)|none=>none)
    |none=>none)
   |none=>none)
  |none=>none):=fun _=>rfl
 rw[key]at h|-;split at h
 .rename_i xs hxs;split at h
  .rename_i cs hcs;split at h
   .rename_i ds ids1 hv;split at h
    .rename_i u1 hfz;obtain⟨_,_,h3,_⟩:=(by simpa using h:_/\_/\ids1=aA/\_)
     subst h3;simp only[rm _ _ _ hv ha,rM ha _ _ (fun i hi=>hi) hfz];exact h
    .simp at h
   .simp at h
  .simp at h
 .simp at h
theorem B7{ka va ok:Bool}{ks:List Kd}{z:List Value}{m:C}{k v:TV}{aA:List Nat}(h:iC ka ks va z ok m k H=some (v,aA))(ha:ip H H' aA):iC ka ks va z ok m k H'=some (v,aA):=by
 unfold iC at h|-;split at h
 .exact h
 .rename_i id key hkey
  have hid:id∈aA:=by
   repeat' split at h
   all_goals first
    |(simp at h;done)
    |(obtain⟨_,h2⟩:=ad (aa h);rw[<-h2];simp)
  simp only[ha id hid];exact h
 .simp at h
theorem En{ka va:Bool}{ks:List Kd}{z:List Value}{m:C}{k v:TV}{u:fF}{aA:List Nat}(h:nn ka ks va z m k H=some (v,u,aA))(ha:ip H H' aA):nn ka ks va z m k H'=some (v,u,aA):=by
 unfold nn at h|-;split at h
 .rename_i id key hkey
  have hid:id∈aA:=by
   repeat' split at h
   all_goals first
    |(simp at h;done)
    |(obtain⟨_,_,h2⟩:=(by simpa using h:_/\_/\[id]=aA);rw[<-h2];simp)
  simp only[ha id hid];exact h
 .simp at h
theorem Ck{va:Bool}{n:Nat}{m:C}{s:Option TV}{x:TV}{u:fF}{aA:List Nat}(h:nq va n m s x H=some (u,aA))(ha:ip H H' aA):nq va n m s x H'=some (u,aA):=by
 unfold nq at h|-;split at h
 .rename_i id s1 ds eQ hds
  have hid:id∈aA:=by
   repeat' split at h
   all_goals first
    |(simp at h;done)
    |(obtain⟨_,h2⟩:=(by simpa using h:_/\[id]=aA);rw[<-h2];simp)
  simp only[ha id hid];exact h
 .simp at h
theorem yD{str:Bool}{sz:Nat}{x y:C}{l m:Int}{aA:List Nat}(h:nZ str sz x l m H=some (y,aA))(ha:ip H H' aA):nZ str sz x l m H'=some (y,aA):=by
 unfold nZ at h|-;split at h
 .rename_i sz' id off len
  have hid:id∈aA:=by
   repeat' split at h
   all_goals first
    |(simp at h;done)
    |(obtain⟨_,h2⟩:=(by simpa using h:_/\[id]=aA);rw[<-h2];simp)
  simp only[ha id hid];exact h
 .simp at h
theorem EE{z:List Value}{x:C}{u:fF}{aA:List Nat}(h:pi z x H=some (u,aA))(ha:ip H H' aA):pi z x H'=some (u,aA):=by
 unfold pi at h|-;split at h
 .rename_i sz id off len
  have hid:id∈aA:=by
   repeat' split at h
   all_goals first
    |(simp at h;done)
    |(obtain⟨_,h2⟩:=(by simpa using h:_/\[id]=aA);rw[<-h2];simp)
  simp only[ha id hid];exact h
 .simp at h
def G4:Ev.K->Bool
 |.uj|.slice _ _ _ _|.clear _|.MY|.SV _|.Sd|.load _ _|.store _|.buildSlice _ _ _ _|.append _|.copy _|.call _ _|.lookup _ _ _ _ _|.mapEntry _ _ _ _|.entryStore _ _=>true
 |_=>false
theorem Jz{call:Call}{k:Ev.K}{vs:List (Option TV)}{nxt:Nat}(hk:G4 k=false):cQ call k vs H nxt=cQ call k vs H' nxt:=by
 cases k<;>first
  |(simp[G4]at hk;done)
  |(unfold cQ;split<;>first|rfl|simp_all)
theorem JA{call:Call}{k:Ev.K}{vs:List (Option TV)}{nxt n':Nat}{v:TV}{u:fF}{aA:List Nat}(h:cQ call k vs H nxt=some (v,u,aA,n'))(ha:ip H H' aA):
  cQ call k vs H' nxt=some (v,u,aA,n'):=by
 cases k with
 |load agg n=>
  match vs,h with
  |[some (.c p)],h=>
   change (match ig agg n p H with|some (v,aA)=>some (v,[],aA,nxt)|none=>none)=_ at h;show(match ig agg n p H' with|some (v,aA)=>some (v,[],aA,nxt)|none=>none)=_;split at h
   .rename_i hl;obtain⟨_,_,h3,_⟩:=(by simpa using h:_/\_/\_=aA/\_)
    subst h3;rw[yW hl ha];exact h
   .simp at h
 |uj=>
  match vs,h with
  |[some (.c p)],h=>
   change (match ig false 1 p H with|some (v,aA)=>some (v,[],aA,nxt)|none=>lI false 1 p H nxt)=_ at h;show(match ig false 1 p H' with|some (v,aA)=>some (v,[],aA,nxt)|none=>lI false 1 p H' nxt)=_;split at h
   .rename_i hl;obtain⟨_,_,h3,_⟩:=(by simpa using h:_/\_/\_=aA/\_)
    subst h3;rw[yW hl ha];exact h
   .obtain ⟨h1,h2⟩:=DY h ha;rw[h1];exact h2
 |store n=>
  match vs,h with
  |[some (.c p),some x],h=>
   change (match mu n p x H with|some (u,aA)=>some (TV.iT [],u,aA,nxt)|none=>none)=_ at h;show(match mu n p x H' with|some (u,aA)=>some (TV.iT [],u,aA,nxt)|none=>none)=_;split at h
   .rename_i hl;obtain⟨_,_,h3,_⟩:=(by simpa using h:_/\_/\_=aA/\_)
    subst h3;rw[C1 hl ha];exact h
   .simp at h
 |buildSlice sz len zero places=>exact wT h ha
 |clear z=>
  match vs,h with
  |[some (.c d)],h=>
   change (match pi z d H with|some (u,aA)=>some (TV.iT [],u,aA,nxt)|none=>none)=_ at h;show(match pi z d H' with|some (u,aA)=>some (TV.iT [],u,aA,nxt)|none=>none)=_;split at h
   .rename_i hl;obtain⟨_,_,h3,_⟩:=(by simpa using h:_/\_/\_=aA/\_)
    subst h3;rw[EE hl ha];exact h
   .simp at h
 |slice str sz lo hi=>
  have eC:hi=false->cQ call (.slice str sz lo hi) vs H nxt=cQ call (.slice str sz lo hi) vs H' nxt:=by
   intro hlh
   cases lo<;>cases hi<;>first
    |(simp at hlh;done)
    |(match vs with
     |[]=>rfl
     |none::_=>rfl
     |some (.agg _)::_=>rfl
     |some (.iT _)::_=>rfl
     |some (.c _)::[]=>rfl
     |some (.c _)::_::[]=>rfl
     |some (.c _)::_::_::_=>rfl)
  cases hi with
  |false=>rw[<-eC rfl];exact h
  |true=>
   cases lo with
   |false=>
    match vs,h with
    |[some (.c x),m],h=>
     change (match cE m with
      |some m=>(match fV str sz x none (some m)with
       |some y=>some (TV.c y,([]:fF),([]:List Nat),nxt)
       |none=>(match nZ str sz x 0 m H with|some (y,aA)=>some (TV.c y,([]:fF),aA,nxt)|none=>none))
      |none=>none)=_ at h
     show(match cE m with
      |some m=>(match fV str sz x none (some m)with
       |some y=>some (TV.c y,([]:fF),([]:List Nat),nxt)
       |none=>(match nZ str sz x 0 m H' with|some (y,aA)=>some (TV.c y,([]:fF),aA,nxt)|none=>none))
      |none=>none)=_
     split at h
     .split at h
      .exact h
      .split at h
       .rename_i hl;obtain⟨_,_,h3,_⟩:=(by simpa using h:_/\_/\_=aA/\_)
        subst h3;rw[yD hl ha];exact h
       .simp at h
     .simp at h
   |true=>
    match vs,h with
    |[some (.c x),l,m],h=>
     change (match cE l,cE m with
      |some l,some m=>(match fV str sz x (some l) (some m)with
       |some y=>some (TV.c y,([]:fF),([]:List Nat),nxt)
       |none=>(match nZ str sz x l m H with|some (y,aA)=>some (TV.c y,([]:fF),aA,nxt)|none=>none))
      |_,_=>none)=_ at h
     show(match cE l,cE m with
      |some l,some m=>(match fV str sz x (some l) (some m)with
       |some y=>some (TV.c y,([]:fF),([]:List Nat),nxt)
       |none=>(match nZ str sz x l m H' with|some (y,aA)=>some (TV.c y,([]:fF),aA,nxt)|none=>none))
      |_,_=>none)=_
     split at h
     .split at h
      .exact h
      .split at h
       .rename_i hl;obtain⟨_,_,h3,_⟩:=(by simpa using h:_/\_/\_=aA/\_)
        subst h3;rw[yD hl ha];exact h
       .simp at h
     .simp at h
 |append sz=>match vs,h with|[some (.c s),some (.c x)],h=>exact CB (s:=s) (x:=x) h ha
 |copy sz=>
  match vs,h with
  |[some (.c d),some (.c x)],h=>
   change (match mE sz d x H with|some (i,u,aA)=>some (lv (.int .i64 i),u,aA,nxt)|none=>(match ph sz d x H with|some (i,u,aA)=>some (lv (.int .i64 i),u,aA,nxt)|none=>none))=_ at h;show(match mE sz d x H' with|some (i,u,aA)=>some (lv (.int .i64 i),u,aA,nxt)|none=>(match ph sz d x H' with|some (i,u,aA)=>some (lv (.int .i64 i),u,aA,nxt)|none=>none))=_;split at h
   .rename_i hl;obtain⟨_,_,h3,_⟩:=(by simpa using h:_/\_/\_=aA/\_)
    subst h3;rw[GH hl ha];exact h
   .split at h
    .rename_i hl;obtain⟨_,_,h3,_⟩:=(by simpa using h:_/\_/\_=aA/\_)
     subst h3;obtain⟨e1,e2⟩:=EB hl ha;rw[e2,e1];exact h
    .simp at h
 |MY=>
  match vs,h with
  |[some (.c x)],h=>
   change (match zw x H with|some (n,aA)=>some (lv (.int .i64 n),([]:fF),aA,nxt)|none=>none)=_ at h;show(match zw x H' with|some (n,aA)=>some (lv (.int .i64 n),([]:fF),aA,nxt)|none=>none)=_;split at h
   .rename_i m ids1 hl;obtain⟨_,_,h3,_⟩:=(by simpa using h:_/\_/\_=aA/\_)
    subst h3
    have:zw x H'=some (m,ids1):=by
     unfold zw at hl|-;split at hl
     .rename_i id off len
      have hid:id∈ids1:=by
       repeat' split at hl
       all_goals first
        |(simp at hl;done)
        |(obtain⟨_,h2⟩:=(by simpa using hl:_/\[id]=ids1);rw[<-h2];simp)
      simp only[ha id hid];exact hl
     .simp at hl
    rw[this];exact h
   .simp at h
 |Sd=>
  match vs,h with
  |[some (.c x),some (.c y)],h=>
   change (match zu x y H with|some aA=>some (lv (.bool false),([]:fF),aA,nxt)|none=>none)=_ at h;show(match zu x y H' with|some aA=>some (lv (.bool false),([]:fF),aA,nxt)|none=>none)=_;split at h
   .rename_i ids1 hl;obtain⟨_,_,h3,_⟩:=(by simpa using h:_/\_/\_=aA/\_)
    subst h3
    have:zu x y H'=some ids1:=by
     unfold zu at hl|-;split at hl
     .rename_i a o1 l1 sz2 b o2 l2
      have hid:ids1=[a,b]:=by
       repeat' split at hl
       all_goals first
        |(simp at hl;done)
        |(exact(aa hl).symm)
      subst hid;simp only[ha a (by simp),ha b (by simp)];exact hl
     .simp at hl
    rw[this];exact h
   .simp at h
 |SV z=>
  match vs,h with
  |[some (.c x),some (.c (.d (.lit (.int k1 k))))],h=>
   change Bm z x k H nxt=_ at h;show Bm z x k H' nxt=_;unfold Bm at h|-;split at h
   .rename_i sz' id off len
    have hid:id∈aA:=by
     repeat' split at h
     all_goals first
      |(simp at h;done)
      |(obtain⟨_,_,h2,_⟩:=(by simpa using h:_/\_/\[id]=aA/\_);rw[<-h2];simp)
    simp only[ha id hid];exact h
   .simp at h
 |call ro kh=>match vs,h with|f::vs,h=>exact GR (f:=f) (vs:=vs) h ha
 |lookup ka ks va z ok=>
  match vs,h with
  |[some (.c m),some k],h=>
   change (match iC ka ks va z ok m k H with|some (v,aA)=>some (v,([]:fF),aA,nxt)|none=>none)=_ at h;show(match iC ka ks va z ok m k H' with|some (v,aA)=>some (v,([]:fF),aA,nxt)|none=>none)=_;split at h
   .rename_i hl;obtain⟨_,_,h3,_⟩:=(by simpa using h:_/\_/\_=aA/\_)
    subst h3;rw[B7 hl ha];exact h
   .simp at h
 |mapEntry ka ks va z=>
  match vs,h with
  |[some (.c m),some k],h=>
   change (match nn ka ks va z m k H with|some (v,u,aA)=>some (v,u,aA,nxt)|none=>none)=_ at h;show(match nn ka ks va z m k H' with|some (v,u,aA)=>some (v,u,aA,nxt)|none=>none)=_;split at h
   .rename_i hl;obtain⟨_,_,h3,_⟩:=(by simpa using h:_/\_/\_=aA/\_)
    subst h3;rw[En hl ha];exact h
   .simp at h
 |entryStore va n=>
  match vs,h with
  |[some (.c m),s,some x],h=>
   change (match nq va n m s x H with|some (u,aA)=>some (TV.iT [],u,aA,nxt)|none=>none)=_ at h;show(match nq va n m s x H' with|some (u,aA)=>some (TV.iT [],u,aA,nxt)|none=>none)=_;split at h
   .rename_i hl;obtain⟨_,_,h3,_⟩:=(by simpa using h:_/\_/\_=aA/\_)
    subst h3;rw[Ck hl ha];exact h
   .simp at h
 |_=>rw[Jz (H:=H') (H':=H) rfl];exact h
end
end Go.Ev
