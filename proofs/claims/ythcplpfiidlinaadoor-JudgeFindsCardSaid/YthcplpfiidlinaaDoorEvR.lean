/- Calls: what a callee's answer means, and that a caller may use it. Conditions: the relation of XEvC. -/
import Derived.Test.YthcplpfiidlinaaDoorEvLa
open Array renaming getD_eq_getD_getElem?->bw,getElem?_setIfInBounds->kE,toArray_toList->lx
open Bool renaming and_eq_true->ai,false_eq_true->aT
open List renaming all_eq_true->bd,append_assoc->aJ,cons_append->aU,flatMap_cons->bi,getElem?_append_left->bN,getElem?_append_right->bQ,getElem?_eq_getElem->aw,getElem?_eq_some_iff->ak,getElem?_map->aH,length_map->aO,map_cons->aD,mem_append->ap,mem_append_left->aE,mem_append_right->aG,mem_cons->aN,mem_cons_of_mem->aC,mem_flatMap->bS,mem_flatten->dL,mem_map->ci,mem_of_getElem?->aX,mem_singleton->am,nodup_append->bX,nodup_cons->fY,singleton_append->aZ
open List.cons renaming injEq->dN
open Nat renaming le_refl->au,le_trans->fk,lt_of_lt_of_le->cm,mul_one->lr
open Option renaming bind_some->af,getD_some->fH,isSome_iff_exists->hC,map_eq_some_iff->aF
open Option.some renaming inj->aa,injEq->bm
open Prod.mk renaming inj->ad,injEq->de
namespace Go.Ev
def RA(S:Nat->Prop)(w:World):A->Value->List Nat->Prop
 |.d x,v,fp=>RD S w x v/\fp=[]
 |.agg xs,v,fp=>∃aM,v=.agg aM/\xs.length=aM.size/\(∀(i:Nat)(x:D),xs[i]?=some x->RD S w x (aM.getD i undef))/\fp=[]
 |.mt t,v,fp=>RT S w t v fp
def Nn(S:Nat->Prop)(w:World):List A->List Value->List Nat->Prop
 |[],[],fp=>fp=[]
 |a::as,v::vs,fp=>∃f1 f2,fp=f1++f2/\RA S w a v f1/\Nn S w as vs f2
 |_,_,_=>False
def RR(S:Nat->Prop)(w:World):R->Value->List Nat->Prop
 |.c t,v,fp=>RT S w t v fp
 |.agg ts,v,fp=>∃(aM:Array Value)(fps:List (List Nat)),v=.agg aM/\ts.length=aM.size/\fps.length=ts.length/\fps.flatten=fp/\∀(i:Nat)(t:T)(f:List Nat),ts[i]?=some t->fps[i]?=some f->RT S w t (aM.getD i undef) f
def EP(S:Nat->Prop)(w:World):List R->List Value->List Nat->Prop
 |[],[],fp=>fp=[]
 |r::rs,v::vs,fp=>∃f1 f2,fp=f1++f2/\RR S w r v f1/\EP S w rs vs f2
 |_,_,_=>False
def PN(S:Nat->Prop)(w:World):List T->List Value->List Nat->Prop
 |[],[],fp=>fp=[]
 |t::ts,v::vs,fp=>∃f1 f2,fp=f1++f2/\((t=.uN/\f1=[])\/RT S w t v f1)/\PN S w ts vs f2
 |_,_,_=>False
def oq:List A->List Value->List Value
 |.mt _::as,v::vs=>v::oq as vs
 |_::as,_::vs=>oq as vs
 |_,_=>[]
def yu:List Value->Value
 |[v]=>v
 |vs=>.tuple vs.toArray
def RB(P:Program)(f:FuncId)(args:Array Value)(w:World)(R:Value->World->Prop):Prop:=
 (∃g as,(callFunc f args).run P w=.ok (.enter g as) w/\Calls P g as w fun e w'=>∃v,e=.returned v/\R v w')\/
 (∃v,(callFunc f args).run P w=.ok (.value v) w/\R v w)
def Left(S:Nat->Prop)(w:World)(fp:List Nat)(rs:List R)(outs:List T)(lent:List Value)(v:Value)(w':World):Prop:=
 ∃(S':Nat->Prop)(kK:List Value)(fp1 fp2:List Nat),v=yu kK/\g_ S w S' w'/\(∀b,S' b->S b\/b∈fp\/w.heap.size<=b)/\(∀b,S' b->b<w'.heap.size)/\
  EP S' w' rs kK fp1/\PN S' w' outs lent fp2/\(fp1++fp2).Nodup/\(∀b∈fp1++fp2,¬S' b/\(b∈fp\/w.heap.size<=b))/\GW (fun b=>b<w.heap.size/\b∉fp) w w'
def sq(P:Program)(f:FuncId)(as:List A)(rs:List R)(outs:List T):Prop:=
 ∀(S:Nat->Prop)(w:World)(vs:List Value)(fp:List Nat),(∀b,S b->b<w.heap.size)->Nn S w as vs fp->fp.Nodup->(∀b∈fp,¬S b)->uV S w->
  RB P f vs.toArray w (Left S w fp rs outs (oq as vs))
def nr(P:Program)(call:Call):Prop:=∀f as rs outs,call f as=some (rs,outs)->sq P f as rs outs
theorem Nn.CD{S S':Nat->Prop}{w:World}(hs:g_ S w S' w){as:List A}:∀{vs:List Value}{fp:List Nat},Nn S w as vs fp->Nn S' w as vs fp:=by
 induction as with
 |nil=>intro vs fp h;cases vs<;>exact h
 |cons x as ih=>
  intro vs fp h;cases vs with
  |nil=>exact h
  |cons v vs=>obtain⟨f1,f2,h1,h2,h3⟩:=h;refine⟨f1,f2,h1,?_,ih h3⟩;cases x with|d y=>exact⟨h2.1.mono hs,h2.2⟩|agg xs=>obtain⟨aM,q1,q2,q3,q4⟩:=h2;exact⟨aM,q1,q2,fun i x hi=>(q3 i x hi).mono hs,q4⟩|mt t=>exact RT.mono hs h2 fun _ _=>rfl
section
variable{P:Program}{S K:Nat->Prop}{w0 w:World}{Kn:Nat->Prop}{φ:Nat->gN}{H:bF}{e:jO}{ρ:Operand->Value}{o:Oper}{call:Call}
 {nxt n':Nat} {v:TV} {u:fC} {aA:List Nat}
inductive J2(Kn:Nat->Prop)(φ:Nat->gN)(S:Nat->Prop)(w:World):List (C×List Nat×List Nat)->List Value->Prop
 |nil:J2 Kn φ S w [] []
 |cons {c:C} {bt rd:List Nat} {l:List (C×List Nat×List Nat)} {v:Value} {vs:List Value} (h:RC S w Kn φ c v) (hl:J2 Kn φ S w l vs):J2 Kn φ S w ((c,bt,rd)::l) (v::vs)
theorem GQ{H:bF}(hI:Inv S K w0 Kn φ (aB H) w):∀(tvs:List TV)(ms:List Bool)(as:List A)(aA:List Nat)(lent:List (C×List Nat×List Nat))(vs:List Value),
  gD H tvs ms=some (as,aA,lent)->tvs.length=vs.length->(∀(i:Nat)(t:TV)(v:Value),tvs[i]?=some t->vs[i]?=some v->gr S w Kn φ t v)->
  Nn (SB S w φ (aB H) aA) w as vs ((lent.flatMap (·.2.1)).flatMap (iv w φ (aB H)))/\(∀i∈lent.flatMap (·.2.1),∃o,aB H i=some o/\cW o=true)/\J2 Kn φ S w lent (oq as vs):=by
 intro tvs;induction tvs with
 |nil=>
  intro ms as aA lent vs h hl hr;obtain⟨rfl,rfl,rfl⟩:[]=as/\[]=aA/\[]=lent:=by simpa[gD]using h
  obtain rfl:vs=[]:=List.length_eq_zero_iff.1 hl.symm;exact⟨rfl,fun i hi=>by simp at hi,.nil⟩
 |cons t tvs ih=>
  intro ms as aA lent vs h hl hr;cases vs with
  |nil=>simp at hl
  |cons v vs=>
   have h0:=hr 0 t v rfl rfl;simp only[gD]at h;split at h
   .simp at h
   .rename_i as1 ids1 lent1 hrec;obtain⟨i1,i2,i3⟩:=ih ms.tail as1 ids1 lent1 vs hrec (by simpa using hl) (fun i t v hi hv=>hr (i+1) t v (by simpa using hi) (by simpa using hv));split at h
    .split at h
     .rename_i c;split at h
      .rename_i t0 bt rd hp;obtain⟨rfl,rfl,rfl⟩:A.mt t0::as1=as/\ids1=aA/\(c,bt,rd)::lent1=lent:=by simpa using h
       cases h0 with
       |c h0=>
        obtain⟨p1,p2⟩:=(rz hI 300).1 c t0 bt rd v hp h0;refine⟨⟨bt.flatMap (iv w φ (aB H)),_,by simp,p1.mono (SB.ux _) (fun _ _=>rfl),i1⟩,fun i hi=>?_,.cons h0 i3⟩;rcases ap.1 (by simpa using hi:i∈bt++lent1.flatMap (·.2.1))with hi|hi
        .exact p2 i hi
        .exact i2 i hi
      .simp at h
     .simp at h
    .split at h
     .rename_i c;split at h
      .rename_i x i hp;obtain⟨rfl,rfl,rfl⟩:A.d x::as1=as/\i++ids1=aA/\lent1=lent:=by simpa using h
       cases h0 with|c h0=>have p1:=(ur hI 300).1 c x i v hp h0;refine⟨⟨[],_,rfl,⟨p1.mono (SB.CD _ _ fun j hj=>by simp[hj]),rfl⟩,?_⟩,i2,i3⟩;exact i1.CD (SB.CD _ _ fun j hj=>by simp[hj])
      .simp at h
     .rename_i cs;split at h
      .rename_i xs i hp;obtain⟨rfl,rfl,rfl⟩:A.agg xs::as1=as/\i++ids1=aA/\lent1=lent:=by simpa using h
       cases h0 with
       |@agg _ aM hlen h0=>
        obtain⟨q1,q2⟩:=ri hI cs xs i hp (fun i=>aM[i]?) (fun i c hi=>by
         have hlt:i<aM.size:=by rw[<-hlen];exact(ak.1 hi).1
         exact⟨aM.getD i undef,by simp[hlt],h0 i c hi⟩)
        refine⟨⟨[],_,rfl,⟨aM,rfl,q1.trans hlen,fun j x hj=>?_,rfl⟩,?_⟩,i2,i3⟩
        .obtain ⟨y,hy,hd⟩:=q2 j x hj;have hy':aM[j]?=some y:=hy;have e1:aM.getD j undef=y:=by simp[hy']
         rw[e1];exact hd.mono (SB.CD _ _ fun k hk=>by simp[hk])
        .exact i1.CD (SB.CD _ _ fun j hj=>by simp[hj])
      .simp at h
     .simp at h
end
section
variable{P:Program}{S K:Nat->Prop}{w0 w:World}{Kn:Nat->Prop}{φ:Nat->gN}{hf:Nat->Option Ob}{H:bF}{e:jO}{ρ:Operand->Value}{o:Oper}{call:Call}
 {nxt n':Nat} {v:TV} {u:fC} {aA:List Nat}
theorem rR.O1{fa fb:List Nat}{n m:Nat}{φ1:Nat->gN}(hI:Inv S K w0 Kn φ hf w)(h:rR S K w0 w Kn φ hf fa n m u φ1)(ha:iZ w φ hf fb)(hd:∀x∈fa,x∉fb):iZ w φ1 (bl u hf) fb:=by
 intro j o hj hown x hx hm;by_cases hu:∃p∈u,p.1=j
 .obtain ⟨p,hp,rfl⟩:=hu;exact hd _ (h.bW p hp x hx) hm
 .have hfn:cz u j=none:=li fun p hp e=>hu ⟨p,hp,e⟩;have hj':=hj;simp only[bl,hfn]at hj';have hk:=(hI.iP j o hj').1;rw[gF (h.su.ez j hk) (hj.trans hj'.symm)]at hx;exact ha j o hj' hown x hx hm
theorem H4(r:R)(nxt:Nat)(v:Value)(fp:List Nat)(hI:Inv S K w0 Kn φ hf w)(hfr:∀j,nxt<=j->j<(wV nxt r).2.2->¬Kn j)(h:RR S w r v fp)(hn:fp.Nodup)(hSK:∀b∈fp,¬S b/\¬K b)(ha:iZ w φ hf fp):
  ∃φ',rR S K w0 w Kn φ hf fp nxt (wV nxt r).2.2 (wV nxt r).2.1 φ'/\gr S w (pj Kn nxt (wV nxt r).2.2) φ' (wV nxt r).1 v:=by
 cases r with|c t=>obtain⟨φ',h1,h2⟩:=vR t nxt v fp hI hfr h hn hSK ha;exact⟨φ',h1,.c h2⟩|agg ts=>obtain⟨aM,fps,rfl,h1,h2,rfl,h3⟩:=h;obtain⟨φ',h4,h5,h6⟩:=tu ts nxt (fun i=>aM.getD i undef) fps hI hfr h2 h3 hn hSK ha;exact⟨φ',h4,.agg (h5.trans h1) h6⟩
theorem PZ(r:R)(nxt:Nat):nxt<=(wV nxt r).2.2:=by cases r with|c t=>exact Kc t nxt|agg ts=>exact vQ ts nxt
theorem nC(nxt:Nat)(r:R)(rs:List R):iq nxt (r::rs)=((wV nxt r).1::(iq (wV nxt r).2.2 rs).1,(wV nxt r).2.1++(iq (wV nxt r).2.2 rs).2.1,(iq (wV nxt r).2.2 rs).2.2):=rfl
theorem G0:∀(rs:List R)(nxt:Nat),nxt<=(iq nxt rs).2.2:=by intro rs;induction rs with|nil=>intro nxt;exact au _|cons r rs ih=>intro nxt;rw[nC];exact fk (PZ r nxt) (ih _)
theorem xX:∀(rs:List R){Kn:Nat->Prop}{φ:Nat->gN}{hf:Nat->Option Ob}(nxt:Nat)(vs:List Value)(fp:List Nat),Inv S K w0 Kn φ hf w->(∀j,nxt<=j->j<(iq nxt rs).2.2->¬Kn j)->EP S w rs vs fp->fp.Nodup->
  (∀b∈fp,¬S b/\¬K b)->iZ w φ hf fp->
  ∃φ',rR S K w0 w Kn φ hf fp nxt (iq nxt rs).2.2 (iq nxt rs).2.1 φ'/\(iq nxt rs).1.length=vs.length/\
   ∀(i:Nat)(t:TV)(v:Value),(iq nxt rs).1[i]?=some t->vs[i]?=some v->gr S w (pj Kn nxt (iq nxt rs).2.2) φ' t v:=by
 intro rs;induction rs with
 |nil=>intro Kn φ hf nxt vs fp hI hfr h hn hSK ha;cases vs with|cons v vs=>exact h.elim|nil=>obtain rfl:fp=[]:=h;exact⟨φ,rR.nil hI _ _,rfl,fun i t v hi=>by simp[iq]at hi⟩
 |cons r rs ih=>
  intro Kn φ hf nxt vs fp hI hfr h hn hSK ha;cases vs with
  |nil=>exact h.elim
  |cons v vs=>
   obtain⟨f1,f2,rfl,h1,h2⟩:=h;rw[bX]at hn;obtain⟨hn1,hn2,hn3⟩:=hn;simp only[ap]at hSK;obtain⟨φ1,hL1,hr1⟩:=H4 r nxt v f1 hI (fun j hj hj2=>hfr j hj (by rw[nC];exact cm hj2 (G0 rs _))) h1 hn1 (fun b hb=>hSK b (.inl hb)) (fun j o hj hown x hx hm=>ha j o hj hown x hx (by simp[hm]))
   obtain⟨φ2,hL2,hlen,hr2⟩:=ih (Kn:=pj Kn nxt (wV nxt r).2.2) (φ:=φ1) (hf:=bl (wV nxt r).2.1 hf) (wV nxt r).2.2 vs f2 hL1.inv (fun j hj hj2 hk=>by
    rcases hk with hk|hk
    .have:=hL1.le;exact hfr j (by omega) (by rw[nC];exact hj2) hk
    .omega) h2 hn2 (fun b hb=>hSK b (.inr hb)) (hL1.O1 hI (fun j o hj hown x hx hm=>ha j o hj hown x hx (by simp[hm])) fun x hx hx2=>hn3 x hx x hx2 rfl)
   have hcomp:=hL1.pU hL2;have hcm:bl ((iq (wV nxt r).2.2 rs).2.1++(wV nxt r).2.1) hf=bl ((wV nxt r).2.1++(iq (wV nxt r).2.2 rs).2.1) hf:=mE fun p hp q hq e=>by have h1:=hL2.gL p hp;have h2:=hL1.gL q hq;omega
   have hsub:∀i,pj (pj Kn nxt (wV nxt r).2.2) (wV nxt r).2.2 (iq (wV nxt r).2.2 rs).2.2 i->pj Kn nxt (iq (wV nxt r).2.2 rs).2.2 i:=fun i=>(rB hL1.le hL2.le i).1;refine⟨φ2,?_,by simp[nC,hlen],fun i t v' hi hv=>?_⟩
   .simp only[nC];have hsw:∀{p:Nat×Option Ob}{a b:fC},p∈a++b->p∈b++a:=fun hp=>ap.2 (ap.1 hp).symm;exact⟨hcomp.le,hcomp.su,hcm▸hcomp.inv,fun p hp=>hcomp.gL p (hsw hp),fun p hp x hx=>hcomp.bW p (hsw hp) x (hcm.symm▸hx)⟩
   .cases i with
    |zero=>
     obtain rfl:(wV nxt r).1=t:=by simpa[nC]using hi
     obtain rfl:v=v':=by simpa using hv
     exact(hr1.mono (g_.refl _ _) hL2.su).kn hsub
    |succ i=>exact(hr2 i t v' (by simpa[nC]using hi) (by simpa using hv)).kn hsub
theorem Inv.put(h:Inv S K w0 Kn φ hf w){i:Nat}(hi:Kn i)(o:Ob)(hfree:cW o=true->∀j b,hf j=some b->cW b=true->j≠i->(φ i).bW∉iv w φ hf j)
  (hro:RO S K w Kn φ (φ i) o)
  (hp:∀sz sl k x,o=.nst sz sl->se w (φ i) sl k x->x≠(φ i).bW/\(∀j b,hf j=some b->cW b=true->j≠i->x∉iv w φ hf j)/\∀k',se w (φ i) sl k' x->k'=k:=by intro _ _ _ _ e;cases e):
  Inv S K w0 Kn φ (bl [(i,some o)] hf) w:=by
 have hold:∀j b,bl [(i,some o)] hf j=some b->(j=i/\b=o)\/(j≠i/\hf j=some b):=by
  intro j b hj;rw[bR]at hj;by_cases e:i=j
  .rw [if_pos e]at hj;exact .inl ⟨e.symm,(aa hj).symm⟩
  .rw [if_neg e,fL]at hj;exact .inr ⟨fun q=>e q.symm,hj⟩
 refine h.u5 (g_.refl _ _) (Ren.refl _ _) h.uX h.sk h.nw ?_ ?_ ?_
 .intro id o' ho;rcases hold id o' ho with⟨rfl,rfl⟩|⟨_,ho'⟩
  .exact .inr ⟨hi,hro⟩
  .exact .inl ⟨ho',fun hown=>⟨rfl,((h.iP id o' ho').2.bt hown).1⟩,h.D2 ho' fun _ _=>rfl⟩
 .intro a b oa ob ha hb hoa hob hne;rcases hold a oa ha with⟨e1,e2⟩|⟨n1,ha'⟩<;>rcases hold b ob hb with⟨e3,e4⟩|⟨n2,hb'⟩
  .exact absurd (e1.trans e3.symm) hne
  .rw [e1];exact fun e=>hfree (e2▸hoa) b ob hb' hob n2 (dU.2 (.inl e))
  .rw [e3];exact fun e=>hfree (e4▸hob) a oa ha' hoa n1 (dU.2 (.inl e.symm))
  .exact h.eN a b oa ob ha' hb' hoa hob hne
 .intro a sz sl k x ha hpa;rcases hold a _ ha with⟨ea,eo⟩|⟨na,ha'⟩
  .rw [ea]at hpa;obtain⟨p1,p2,p3⟩:=hp sz sl k x eo.symm hpa;refine⟨fun j b hj hown=>?_,fun j sz' sl' k' hj hpj=>?_⟩
   .rcases hold j b hj with⟨ej,_⟩|⟨nj,hj'⟩
    .rw [ej];exact fun e=>p1 e.symm
    .exact fun e=>p2 j b hj' hown nj (dU.2 (.inl e.symm))
   .rcases hold j _ hj with⟨ej,eo2⟩|⟨nj,hj'⟩
    .rw [ej]at hpj;rw[<-eo]at eo2;cases eo2;exact⟨ej.trans ea.symm,p3 k' hpj⟩
    .exact absurd (dU.2 (.inr ⟨sz',sl',k',hj',hpj⟩)) (p2 j _ hj' rfl nj)
  .obtain ⟨p1,p2⟩:=h.w7 a sz sl k x ha' hpa;refine⟨fun j b hj hown=>?_,fun j sz' sl' k' hj hpj=>?_⟩
   .rcases hold j b hj with⟨ej,eo⟩|⟨_,hj'⟩
    .rw [ej];exact fun e=>hfree (eo▸hown) a _ ha' rfl na (dU.2 (.inr ⟨sz,sl,k,ha',e▸hpa⟩))
    .exact p1 j b hj' hown
   .rcases hold j _ hj with⟨ej,eo⟩|⟨_,hj'⟩
    .rw [ej]at hpj;exact absurd (dU.2 (.inr ⟨sz,sl,k,ha',hpa⟩)) ((hp sz' sl' k' x eo.symm hpj).2.1 a _ ha' rfl na)
    .exact p2 j sz' sl' k' hj' hpj
structure SU(S K:Nat->Prop)(w0 w:World)(Kn:Nat->Prop)(φ:Nat->gN)(hf:Nat->Option Ob)(fp:List Nat)(owns:List Nat)(nxt m:Nat)(u:fC)(φ':Nat->gN):Prop where
 le:nxt<=m
 su:Ren Kn φ (pj Kn nxt m) φ'
 inv:Inv S K w0 (pj Kn nxt m) φ' (bl u hf) w
 F7:∀p∈u,p.1∈owns\/(nxt<=p.1/\p.1<m)
 Sq:∀i∈owns,(cz u i).isSome=true
 bW:∀i o,bl u hf i=some o->cW o=true->(i∈owns\/(nxt<=i/\i<m))->∀x∈iv w φ' (bl u hf) i,x∈fp
def j4(l:List (C×List Nat×List Nat)):List Nat:=l.flatMap (·.2.1)
theorem qT(bt:List Nat)(j:Nat):cz (bt.map fun i=>((i,none):Nat×Option Ob)) j=if j∈bt then some none else none:=by
 induction bt with
 |nil=>rfl
 |cons a l ih=>
  simp only[aD,cz];by_cases e:a=j
  .simp [e]
  .have e':(a==j)=false:=by simpa using e
   have e2:¬j=a:=fun h=>e h.symm;simp[e',ih,e2]
theorem RC.Qm{id off:Nat}{v:Value}(h:RC S w Kn φ (.op id off) v):v=.pointer (some ⟨(φ id).bW,(φ id).aR+off,none⟩)/\Kn id:=by cases h with|op hk=>exact⟨rfl,hk⟩
theorem nq.Kb{w:World}{b:Nat}{a a':Array Value}(h:nq w b a)(h':nq w b a'):a=a':=by obtain⟨t,h⟩:=h;obtain⟨t',h'⟩:=h';rw[h]at h';simp at h';exact h'.1
theorem rJ{α:Type}{u:List (Nat×α)}{id:Nat}{x:α}(h:cz u id=some x):∃p∈u,p.1=id:=by
 induction u with
 |nil=>simp[cz]at h
 |cons p r ih=>
  obtain⟨i,y⟩:=p;by_cases e:i=id
  .exact ⟨(i,y),by simp,e⟩
  .have e2:(i==id)=false:=by simpa using e
   simp only[cz,e2,cond_false]at h;obtain⟨p,hp,hpe⟩:=ih h;exact⟨p,by simp[hp],hpe⟩
theorem Ba:∀(l:List (C×List Nat×List Nat))(outs:List T)(nxt:Nat)(bu:fC)(m:Nat),eZ nxt l outs=some (bu,m)->nxt<=m:=by
 intro l;induction l with
 |nil=>
  intro outs nxt bu m h;cases outs with
  |nil=>obtain⟨_,rfl⟩:[]=bu/\nxt=m:=by simpa[eZ]using h
        exact au _
  |cons t ts=>simp[eZ]at h
 |cons p l ih=>
  obtain⟨c,bt,rd⟩:=p;intro outs nxt bu m h;cases outs with
  |nil=>unfold eZ at h;simp at h
  |cons t outs=>
   unfold eZ at h;split at h
   .simp at*
   .rename_i heq1 heq2;simp only[dN,de]at heq1 heq2;obtain⟨_,rfl⟩:=heq1;exact ih _ _ _ _ h
   .rename_i heq1 heq2;simp only[dN,de]at heq1 heq2;obtain⟨_,rfl⟩:=heq1;split at h
    .rename_i w2 k hrec;split at h
     .obtain ⟨_,rfl⟩:=ad (aa h);exact fk (vQ _ _) (ih _ _ _ _ hrec)
     .simp at h
    .simp at h
   .rename_i heq1 heq2;simp only[dN,de]at heq1 heq2;obtain⟨_,rfl⟩:=heq1;split at h
    .split at h
     .rename_i w2 k hrec;obtain⟨_,rfl⟩:=ad (aa h);exact ih _ _ _ _ hrec
     .simp at h
    .simp at h
   .rename_i heq1 heq2;simp only[dN,de]at heq1 heq2;obtain⟨_,rfl⟩:=heq1;split at h
    .split at h
     .rename_i w2 k hrec;obtain⟨_,rfl⟩:=ad (aa h);exact ih _ _ _ _ hrec
     .simp at h
    .simp at h
   .rename_i heq1 heq2;simp only[dN,de]at heq1 heq2;obtain⟨_,rfl⟩:=heq1;split at h
    .rename_i w2 k hrec;obtain⟨_,rfl⟩:=ad (aa h);exact ih _ _ _ _ hrec
    .simp at h
   .simp at h
theorem DX{H0:bF}{S0 K0:Nat->Prop}{wp wz:World}{Kn0:Nat->Prop}{φ0:Nat->gN}(hI0:Inv S0 K0 wz Kn0 φ0 (aB H0) wp){id len:Nat}
  (hw:(match aB H0 id with|some (.aM _ aq)=>(0==0)&&len==aq.length|some (.nst _ slots)=>(0==0)&&len==slots.length|_=>false)=true):
  ∃aM,nq wp (φ0 id).bW aM/\aM.size=(φ0 id).ext/\(φ0 id).aR+len*(φ0 id).sz<=(φ0 id).ext/\len<=(φ0 id).cap:=by
 split at hw
 .rename_i sz aq ho;obtain⟨_,h0⟩:=hI0.iP _ _ ho;have hl:len=aq.length:=by simpa using hw
  subst hl;cases h0 with|aM hsz hl hS hK hown hext hfit hr hv=>exact⟨_,hown,hext,by rw[hl];exact hfit,hv⟩
 .rename_i sz slots ho;obtain⟨_,h0⟩:=hI0.iP _ _ ho;have hl:len=slots.length:=by simpa using hw
  subst hl;cases h0 with|nst hsz hl hS hK hown hext hfit hr hv=>exact⟨_,hown,hext,by rw[hl,lr];exact hfit,hv⟩
 .cases hw
theorem GP{H0:bF}{S0:Nat->Prop}{wp:World}{Kn0:Nat->Prop}{φ0:Nat->gN}{K0:Nat->Prop}{wz:World}(hI0:Inv S0 K0 wz Kn0 φ0 (aB H0) wp)(hgrow:∀b aM,nq wp b aM->∃arr',nq w b arr'/\arr'.size=aM.size):
  ∀(l:List (C×List Nat×List Nat))(vs:List Value)(outs:List T)(fp:List Nat){Kn:Nat->Prop}{φ:Nat->gN}{hf:Nat->Option Ob}(nxt:Nat)(bu:fC)(m:Nat),
  J2 Kn0 φ0 S0 wp l vs->eP H0 l=true->PN S w outs vs fp->Inv S K w0 Kn φ hf w->(∀j,nxt<=j->j<m->¬Kn j)->Ren Kn0 φ0 Kn φ->fp.Nodup->(∀b∈fp,¬S b/\¬K b)->iZ w φ hf fp->
  (∀i∈j4 l,hf i=none/\Kn0 i)->(j4 l).Nodup->eZ nxt l outs=some (bu,m)->∃φ',SU S K w0 w Kn φ hf fp (j4 l) nxt m bu φ':=by
 intro l;induction l with
 |nil=>
  intro vs outs fp Kn φ hf nxt bu m hl hw hr hI hfr hren hn hSK ha hown hon h;cases hl;cases outs with
  |cons t ts=>exact hr.elim
  |nil=>
   obtain⟨rfl,rfl⟩:[]=bu/\nxt=m:=by simpa[eZ]using h
   exact⟨φ,au _,tK _ _,hI.kn fun _ hi=>.inl hi,fun p hp=>by simp at hp,fun i hi=>by simp[j4]at hi,fun i o _ _ hx=>by
    rcases hx with hx|hx
    .simp [j4]at hx
    .omega⟩
 |cons p l ih=>
  obtain⟨c,bt,rd⟩:=p;intro vs outs fp Kn φ hf nxt bu m hl hw hr hI hfr hren hn hSK ha hown hon h;cases hl with
  |@cons _ _ _ _ v vs hc hl=>
  cases outs with
  |nil=>exact hr.elim
  |cons t outs=>
   obtain⟨f1,f2,rfl,hr1,hr2⟩:=hr;rw[bX]at hn;obtain⟨hn1,hn2,hn3⟩:=hn;simp only[ap]at hSK;have ha1:iZ w φ hf f1:=fun j o hj hown x hx hm=>ha j o hj hown x hx (by simp[hm]);have ha2:iZ w φ hf f2:=fun j o hj hown x hx hm=>ha j o hj hown x hx (by simp[hm]);have ho1:∀i∈bt,hf i=none/\Kn0 i:=fun i hi=>hown i (by simp[j4,hi]);have ho2:∀i∈j4 l,hf i=none/\Kn0 i:=fun i hi=>hown i (by simp only[j4,bi,ap];exact .inr hi);have hoc:j4 ((c,bt,rd)::l)=bt++j4 l:=rfl;rw[hoc,bX]at hon;obtain⟨hon1,hon2,hon3⟩:=hon;have hw2:eP H0 l=true:=by cases c<;>simp only[eP,ai]at hw<;>first|exact hw|exact hw.2
   have fin:∀(id:Nat)(ob:Ob)(w2:fC)(k:Nat),bt=[id]->(bu,m)=((id,some ob)::w2,k)->eZ nxt l outs=some (w2,k)->Inv S K w0 Kn φ (bl [(id,some ob)] hf) w->(∀x∈iv w φ (bl [(id,some ob)] hf) id,x∈f1)->
     ∃φ',SU S K w0 w Kn φ hf (f1++f2) (j4 ((c,bt,rd)::l)) nxt m bu φ':=by
    intro id ob w2 k hownid hbm hrec hput hblk;subst hownid;obtain⟨rfl,rfl⟩:=ad hbm;obtain⟨hidn,hidk0⟩:=ho1 id (by simp);have hidk:=hren.sub id hidk0;have hφ:=hren.ez id hidk0;have hidlt:¬(nxt<=id/\id<m):=fun h=>hfr id h.1 h.2 hidk
    obtain⟨φ2,hB⟩:=ih vs outs f2 nxt w2 m hl hw2 hr2 hput hfr hren hn2 (fun b hb=>hSK b (.inr hb))
     (fun j o hj hown x hx hm=>by
      have hj':=hj;rw[bR]at hj';split at hj'
      .rename_i e;subst e;exact hn3 x (hblk x hx) x hm rfl
      .rw [gF rfl (hj.trans hj'.symm)]at hx;exact ha2 j o hj' hown x hx hm)
     (fun i hi=>by obtain⟨h1,h2⟩:=ho2 i hi;refine⟨?_,h2⟩;have hne:¬id=i:=fun e=>hon3 id (by simp) i hi e;rw[bR,if_neg hne];exact h1) hon2 hrec
    have hkeys:=hB.F7;have hm2:=hB.le
    have hdis:∀q∈w2,id≠q.1:=fun q hq e=>by
     rcases hkeys q hq with h|h
     .exact hon3 id (by simp) q.1 h e
     .omega
    have heq:bl ((id,some ob)::w2) hf=bl w2 (bl [(id,some ob)] hf):=by rw[<-eA];exact mE (u:=[(id,some ob)]) fun p hp q hq e=>by rw[am.1 hp]at e;exact hdis q hq e
    refine⟨φ2,hB.le,hB.su,heq▸hB.inv,fun p hp=>?_,fun i hi=>?_,fun i o hio hownio hi=>?_⟩
    .rw [hoc];rcases aN.1 hp with rfl|hp
     .exact .inl (by simp)
     .rcases hkeys p hp with h|h
      .exact .inl (by simp[h])
      .exact .inr h
    .rw [hoc]at hi;simp only[cz];by_cases e:id=i
     .simp [e]
     .have e':(id==i)=false:=by simpa using e
      simp only[e',cond_false];rcases ap.1 hi with hi|hi
      .exact absurd (am.1 hi).symm e
      .exact hB.Sq i hi
    .rw [heq]at hio|-;intro x hx;by_cases hrest:i∈j4 l\/(nxt<=i/\i<m)
     .exact aG _ (hB.bW i o hio hownio hrest x hx)
     .have hi2:i=id:=by
       rcases hi with hi|hi
       .rw [hoc]at hi;rcases ap.1 hi with h|h
        .exact am.1 h
        .exact absurd (.inl h) hrest
       .exact absurd (.inr hi) hrest
      subst hi2;have hwn:cz w2 i=none:=li fun q hq e=>hdis q hq e.symm
      have hwi:bl w2 (bl [(i,some ob)] hf) i=bl [(i,some ob)] hf i:=by
       conv=>lhs;unfold bl
       rw[hwn];rfl
      rw[gF (hB.su.ez i hidk) hwi]at hx;exact aE _ (hblk x hx)
   unfold eZ at h;split at h
   .simp at*
   .--nothing was owned
    rename_i heq1 heq2;simp only[dN,de]at heq1 heq2;obtain⟨⟨rfl,rfl,rfl⟩,rfl⟩:=heq1;obtain⟨rfl,rfl⟩:=heq2;have hr1:=hr1.resolve_left fun h=>by cases h.1
    have e0:f1=[]:=by cases hr1;rfl
    subst e0;obtain⟨φ',hB⟩:=ih vs outs f2 nxt bu m hl hw2 hr2 hI hfr hren hn2 (fun b hb=>hSK b (.inr hb)) ha2 ho2 hon2 h;exact⟨φ',hB.le,hB.su,hB.inv,hB.F7,hB.Sq,hB.bW⟩
   .--a box
    rename_i id own' rd' r ts' ts heq1 heq2;simp only[dN,de]at heq1 heq2;obtain⟨⟨rfl,rfl,rfl⟩,rfl⟩:=heq1;obtain⟨rfl,rfl⟩:=heq2;split at h
    .rename_i w2 k hrec;split at h
     .rename_i hcon;obtain⟨rfl,rfl⟩:(id,some (Ob.box (iD nxt ts').1))::(iD nxt ts').2.1++bt.map (fun i=>((i,none):Nat×Option Ob))++w2=bu/\k=m:=by simpa using h
      have hid:id∈bt:=by simpa using hcon
      obtain⟨hidn,hidk0⟩:=ho1 id hid;have hidk:=hren.sub id hidk0;have hφ:=hren.ez id hidk0;obtain⟨hv,_⟩:=hc.Qm;have hr1:=hr1.resolve_left fun h=>by cases h.1
      cases hr1 with
      |@pt _ b aM fps hown0 hlen hfl hrec2=>
      simp only[Value.pointer.injEq,bm,Addr.mk.injEq]at hv;obtain⟨hb,hbase,_⟩:=hv;rw[<-hφ]at hb hbase;have hbase0:(φ id).aR=0:=by omega
      rw[fY]at hn1;have hmk:=Ba _ _ _ _ _ hrec;have hidlt:¬(nxt<=id/\id<k):=fun h=>hfr id h.1 h.2 hidk
      obtain⟨φ1,hL,hcl,hcr⟩:=tu ts' nxt (fun i=>aM.getD i undef) fps hI (fun j hj hj2=>hfr j hj (by omega)) hfl hrec2 hn1.2 (fun b' hb'=>hSK b' (.inl (aC _ hb')))
       (fun j o hj hown x hx hm=>ha1 j o hj hown x hx (aC _ hm))
      have hm1:=hL.le;have hφ1:φ1 id=φ id:=hL.su.ez id hidk;have hul:cz (iD nxt ts').2.1 id=none:=li fun p hp e=>by have:=hL.gL p hp;omega
      have hdead:bl (iD nxt ts').2.1 hf id=none:=by simp only[bl,hul,hidn]
      have hawb:iZ w φ1 (bl (iD nxt ts').2.1 hf) [b]:=hL.O1 hI (fun j o hj hown x hx hm=>ha1 j o hj hown x hx (by rw[am.1 hm];simp)) fun x hx hx2=>hn1.1 (by rw[<-am.1 hx2];exact hx)
      have hput:=hL.inv.put (i:=id) (.inl hidk) (.box (iD nxt ts').1) (fun _ j o hj hown hne hm=>by rw[hφ1,<-hb]at hm;exact hawb j o hj hown b hm (by simp))
       (.box (by rw[hφ1];exact hbase0) (by rw[hφ1,<-hb];exact(hSK b (.inl (by simp))).1) (by rw[hφ1,<-hb];exact(hSK b (.inl (by simp))).2) (by rw[hφ1,<-hb];exact hown0) (hcl.trans hlen) hcr)
      have hav2:iZ w φ1 (bl (iD nxt ts').2.1 hf) f2:=hL.O1 hI ha2 fun x hx hx2=>hn3 x (aC _ hx) x hx2 rfl;have hult:∀i,¬(nxt<=i/\i<k)->cz (iD nxt ts').2.1 i=none:=fun i hi=>li fun p hp e=>by have:=hL.gL p hp;omega
      have hownlt:∀i,Kn0 i->¬(nxt<=i/\i<k):=fun i hi h=>hfr i h.1 h.2 (hren.sub i hi);rw[<-eA]at hput
      obtain⟨φ2,hB⟩:=ih vs outs f2 (iD nxt ts').2.2 w2 k hl hw2 hr2 hput (fun j hj hj2 hk=>by
        rcases hk with hk|hk
        .exact hfr j (by omega) hj2 hk
        .omega) ⟨fun i hi=>.inl (hren.sub i hi),fun i hi=>(hL.su.ez i (hren.sub i hi)).trans (hren.ez i hi)⟩ hn2 (fun b hb=>hSK b (.inr hb))
       (fun j o hj hown x hx hm=>by
        have hj':=hj;rw[aZ,bR]at hj';split at hj'
        .rename_i e;subst e;rw[pN (fun _ _ e=>by rw[aZ,bR,if_pos rfl]at e;cases e),hφ1,<-hb]at hx;rw[am.1 hx]at hm;exact hn3 b (by simp) b hm rfl
        .rw [gF rfl (hj.trans hj'.symm)]at hx;exact hav2 j o hj' hown x hx hm)
       (fun i hi=>by obtain⟨h1,h2⟩:=ho2 i hi;refine⟨?_,h2⟩;have hne:¬id=i:=fun e=>hon3 id hid i hi e;rw[aZ,bR,if_neg hne];simp only[bl,hult i (hownlt i h2),h1]) hon2 hrec
      have hkeys:=hB.F7;have hm2:=hB.le
      have hdis:∀j x,cz w2 j=some x->j≠id/\j∉bt/\cz (iD nxt ts').2.1 j=none:=by
       intro j x hx;obtain⟨p,hp,rfl⟩:=rJ hx;rcases hkeys p hp with h|h
       .exact ⟨fun e=>hon3 id hid p.1 h e.symm,fun e=>hon3 p.1 e p.1 h rfl,hult _ (hownlt _ (ho2 _ h).2)⟩
       .refine ⟨fun e=>by omega,fun e=>by have:=hownlt _ (ho1 _ e).2;omega,li fun q hq e=>?_⟩;have:=hL.gL q hq;omega
      have heq:bl ((id,some (Ob.box (iD nxt ts').1))::(iD nxt ts').2.1++bt.map (fun i=>((i,none):Nat×Option Ob))++w2) hf=bl w2 (bl ([(id,some (Ob.box (iD nxt ts').1))]++(iD nxt ts').2.1) hf):=by
       have hno:bl (bt.map (fun i=>((i,none):Nat×Option Ob))) (bl w2 hf)=bl w2 hf:=by
        funext j
        conv=>lhs;unfold bl
        rw[qT];by_cases hjo:j∈bt
        .rw [if_pos hjo];have hwj:cz w2 j=none:=by cases hx:cz w2 j with|none=>rfl|some x=>exact absurd hjo (hdis j x hx).2.1
         simp only[bl,hwj,(ho1 j hjo).1]
        .rw [if_neg hjo];rfl
       rw[eA,eA,hno,<-eA,<-eA];refine mE fun p hp q hq e=>?_;rcases hkeys q hq with h|h
       .rcases aN.1 hp with rfl|hp
        .exact hon3 id hid q.1 h e
        .have:=hL.gL p hp;have:=hownlt _ (ho2 _ h).2;omega
       .rcases aN.1 hp with rfl|hp
        .simp only at e;omega
        .have:=hL.gL p hp;omega
      refine⟨φ2,by omega,⟨fun i h=>.inl h,fun i h=>(hB.su.ez i (.inl h)).trans (hL.su.ez i h)⟩,?_,fun p hp=>?_,fun i hi=>?_,fun i o hio hownio hi=>?_⟩
      .rw [heq];exact hB.inv.xr fun i=>rB hm1 hm2 i
      .rw [hoc];simp only[aU,aJ,aN,ap,ci]at hp;rcases hp with rfl|hp|⟨i,hi,rfl⟩|hp
       .exact .inl (by simp[hid])
       .have:=hL.gL p hp;exact .inr (by omega)
       .exact .inl (by simp[hi])
       .rcases hkeys p hp with h|h
        .exact .inl (by simp[h])
        .exact .inr (by omega)
      .rw [hoc]at hi;simp only[aU,aJ,cz,gU,qT];rcases ap.1 hi with hi|hi
       .by_cases e:id=i
        .simp [e]
        .have e':(id==i)=false:=by simpa using e
         simp only[e',cond_false,if_pos hi];cases cz (iD nxt ts').2.1 i<;>rfl
       .have hs:=hB.Sq i hi;obtain⟨x,hx⟩:=hC.1 hs;obtain⟨h1,h2,h3⟩:=hdis i x hx;have e':(id==i)=false:=by simpa using fun e=>h1 e.symm
        simp only[e',cond_false,h3,if_neg h2,hx,Option.isSome_some]
      .rw [heq]at hio|-;intro x hx;by_cases hrest:i∈j4 l\/((iD nxt ts').2.2<=i/\i<k)
       .exact aG _ (hB.bW i o hio hownio hrest x hx)
       .refine aE _ ?_
        have hw2n:cz w2 i=none:=li fun q hq e=>by
         rcases hkeys q hq with h|h
         .exact hrest (.inl (e▸h))
         .exact hrest (.inr (e▸h))
        have hi2:i∈bt\/(nxt<=i/\i<(iD nxt ts').2.2):=by
         rcases hi with hi|hi
         .rw [hoc]at hi;rcases ap.1 hi with h|h
          .exact .inl h
          .exact absurd (.inl h) hrest
         .exact .inr ⟨hi.1,by
           rcases Nat.lt_or_ge i (iD nxt ts').2.2 with h|h
           .exact h
           .exact absurd (.inr ⟨h,hi.2⟩) hrest⟩
        have hkn:pj Kn nxt (iD nxt ts').2.2 i:=by
         rcases hi2 with h|h
         .exact .inl (hren.sub i (ho1 i h).2)
         .exact .inr h
        have hwi:bl w2 (bl ([(id,some (Ob.box (iD nxt ts').1))]++(iD nxt ts').2.1) hf) i=bl ([(id,some (Ob.box (iD nxt ts').1))]++(iD nxt ts').2.1) hf i:=by
         conv=>lhs;unfold bl
         rw[hw2n];rfl
        rw[gF (hB.su.ez i hkn) hwi]at hx;by_cases e:id=i
        .subst e;rw[pN (fun _ _ e=>by rw[aZ,bR,if_pos rfl]at e;cases e),hφ1,<-hb]at hx;rw[am.1 hx];simp
        .rcases hi2 with h|h
         .exfalso
          have h1:bl w2 (bl ([(id,some (Ob.box (iD nxt ts').1))]++(iD nxt ts').2.1) hf) i=hf i:=by
           simp only[bl,hw2n,aZ,cz];have e':(id==i)=false:=by simpa using e
           simp only[e',cond_false,hult i (hownlt i (ho1 i h).2)]
          rw[h1,(ho1 i h).1]at hio;simp at hio
         .have e':(id==i)=false:=by simpa using e
          cases hfu:cz (iD nxt ts').2.1 i with
          |none=>
           exfalso;have h1:bl w2 (bl ([(id,some (Ob.box (iD nxt ts').1))]++(iD nxt ts').2.1) hf) i=hf i:=by simp only[bl,hw2n,aZ,cz,e',cond_false,hfu]
           rw[h1]at hio;exact hfr i h.1 (by omega) (hI.iP i o hio).1
          |some x'=>
           obtain⟨p,hp,rfl⟩:=rJ hfu;have hwp:bl ([(id,some (Ob.box (iD nxt ts').1))]++(iD nxt ts').2.1) hf p.1=bl (iD nxt ts').2.1 hf p.1:=by rw[aZ,bR,if_neg e]
           rw[gF rfl hwp]at hx;exact aC _ (hL.bW p hp x hx)
     .simp at h
    .simp at h
   .--an array
    rename_i sz id len own' rd' r sz' aq ts heq1 heq2;simp only[dN,de]at heq1 heq2;obtain⟨⟨rfl,rfl,rfl⟩,rfl⟩:=heq1;obtain⟨rfl,rfl⟩:=heq2;split at h
    .rename_i hcond;obtain⟨hrl,hszz,hownid⟩:=hcond;subst hownid;split at h
     .rename_i w2 k hrec;obtain⟨rfl,rfl⟩:(id,some (Ob.aM sz aq))::w2=bu/\k=m:=by simpa using h
      obtain⟨hidn,hidk0⟩:=ho1 id (by simp);have hφ:=hren.ez id hidk0;obtain⟨cap,addr,hv,hszl,hk0,hcap,haddr,hextc,hcl⟩:=hc.kj;have hr1:=hr1.resolve_left fun h=>by cases h.1
      cases hr1 with
      |@sl _ _ b off len1 cap1 aM hsz0 hown0 hlen1 hcap1 hext1 hrr=>
      simp only[Value.slice.injEq,bm,Addr.mk.injEq]at hv;obtain⟨⟨hb,hoff,_⟩,hlen2,hcap2⟩:=hv;subst hszz;simp only[eP,ai]at hw;obtain⟨arr0,hown1,hext0,hfit0,hv0⟩:=DX hI0 hw.1;obtain⟨arr1,hown2,hsize2⟩:=hgrow _ _ hown1;rw[hb]at hown0;obtain rfl:=hown0.Kb hown2;have hb1:=hSK (φ0 id).bW (.inl (by simp[hb]))
      refine fin id (.aM sz' aq) w2 k rfl rfl hrec (hI.put (i:=id) (hren.sub id hidk0) (.aM sz' aq) (fun _ j o hj hown hne hm=>by rw[hφ,<-hb]at hm;exact ha1 j o hj hown b hm (by simp))
       (.aM hsz0 (by rw[hφ];exact hszl) (by rw[hφ];exact hb1.1) (by rw[hφ];exact hb1.2) (by rw[hφ];exact hown2) (by rw[hφ,<-hext0];exact hsize2)
        (by rw[hφ,hrl,<-hszl];exact hfit0) (by
         rw[hφ];cases aq with
         |nil=>exact⟨fun i r hi=>by simp at hi,fun i r hi=>by simp at hi⟩
         |cons q aq=>
          have:off=(φ0 id).aR:=by rw[hoff,haddr (by simp only[List.length_cons]at hrl;omega)];simp
          rw[<-this];exact hrr) (by rw[hφ,hrl];exact hv0))) fun x hx=>?_
      rw[pN (fun _ _ e=>by rw[bR,if_pos rfl]at e;cases e),hφ,<-hb]at hx;exact hx
     .simp at h
    .simp at h
   .--a dj of aq
    rename_i sz id len own' rd' r szi aq ts heq1 heq2;simp only[dN,de]at heq1 heq2;obtain⟨⟨rfl,rfl,rfl⟩,rfl⟩:=heq1;obtain⟨rfl,rfl⟩:=heq2;split at h
    .rename_i hcond;obtain⟨hrl,hszz,hownid⟩:=hcond;subst hownid;split at h
     .rename_i w2 k hrec;obtain⟨rfl,rfl⟩:(id,some (Ob.nst szi (aq.map mV)))::w2=bu/\k=m:=by simpa using h
      obtain⟨hidn,hidk0⟩:=ho1 id (by simp);have hφ:=hren.ez id hidk0;obtain⟨cap,addr,hv,hszl,hk0,hcap,haddr,hextc,hcl⟩:=hc.kj;have hr1:=hr1.resolve_left fun h=>by cases h.1
      cases hr1 with
      |@zN _ _ b off cap1 aM fps hsz0 hown0 hcap1 hext1 hfl hrr=>
      simp only[Value.slice.injEq,bm,Addr.mk.injEq]at hv;obtain⟨⟨hb,hoff,_⟩,hlen2,hcap2⟩:=hv;subst hszz;simp only[eP,ai]at hw;obtain⟨arr0,hown1,hext0,hfit0,hv0⟩:=DX hI0 hw.1;obtain⟨arr1,hown2,hsize2⟩:=hgrow _ _ hown1;rw[hb]at hown0;obtain rfl:=hown0.Kb hown2;rw[fY]at hn1;have hb1:=hSK b (.inl (by simp));have hbase:∀i,i<aq.length->off+i=(φ0 id).aR+i:=fun i hi=>by rw[hoff,haddr (by omega)];simp
      have hget:∀i,w.cell? ⟨(φ id).bW,i,none⟩=aM[i]?:=by rw[hφ];exact hown2.cell
      have hpat:∀k x,se w (φ id) (aq.map mV) k x->∃fp,fps[k]?=some fp/\fp=[x]:=by rintro k x ⟨rs,v,h1,h2,h3⟩;rw[aH]at h1;obtain⟨r,hr1,hr2⟩:=aF.1 h1;have hlt:=(ak.1 hr1).1;have hf:fps[k]?=some fps[k]:=aw (by omega);obtain⟨v',q1,q2⟩:=hrr k r fps[k] hr1 hf;rw[hget,hφ,<-hbase k hlt,q1]at h2;obtain rfl:=aa h2;cases r with|none=>cases hr2|some rows'=>obtain⟨b',q3,q4⟩:=q2;rw[q4.bW]at h3;obtain rfl:=aa h3;exact⟨_,hf,q3⟩
      have hmem:∀k x,se w (φ id) (aq.map mV) k x->x∈fps.flatten:=fun k x hp=>by obtain⟨fp,h1,rfl⟩:=hpat k x hp;exact dL.2 ⟨[x],aX h1,by simp⟩
      have hbl:(φ id).bW=b:=by rw[hφ,<-hb]
      rw[hszl,lr]at hfit0
      refine fin id (.nst szi (aq.map mV)) w2 k rfl rfl hrec (hI.put (i:=id) (hren.sub id hidk0) (.nst szi (aq.map mV)) (fun _ j o hj hown hne hm=>by rw[hbl]at hm;exact ha1 j o hj hown b hm (by simp))
       (.nst hsz0 (by rw[hφ];exact hszl) (by rw[hbl];exact hb1.1) (by rw[hbl];exact hb1.2) (by rw[hφ];exact hown2) (by rw[hφ,<-hext0];exact hsize2)
        (by rw[hφ,aO,hrl];exact hfit0) (fun i s hi=>by
         rw[aH]at hi;obtain⟨r,hr1,rfl⟩:=aF.1 hi;have hlt:=(ak.1 hr1).1;have hf:fps[i]?=some fps[i]:=aw (by omega);obtain⟨v,q1,q2⟩:=hrr i r fps[i] hr1 hf;refine⟨v,by rw[hφ,<-hbase i hlt];exact q1,?_⟩;cases r with
         |none=>obtain⟨rfl,_⟩:=q2;exact .nil
         |some rows'=>obtain⟨b',q3,q4⟩:=q2;have hm:b'∈fps.flatten:=dL.2 ⟨fps[i],List.getElem_mem _,by rw[q3];simp⟩;exact .bt q4 (hSK b' (.inl (aC _ hm))).1 (hSK b' (.inl (aC _ hm))).2) (by rw[hφ,aO,hrl];exact hv0))
       fun sz' sl' k x eo hp=>by cases eo;have hm:=hmem k x hp;refine⟨fun e=>hn1.1 (by rw[<-hbl,<-e];exact hm),fun j o hj hown hne hx=>ha1 j o hj hown x hx (aC _ hm),fun k' hp'=>?_⟩;obtain⟨fp,h1,rfl⟩:=hpat k x hp;obtain⟨fp',h2,rfl⟩:=hpat k' x hp';exact Eb hn1.2 h2 h1) fun x hx=>?_
      rcases dU.1 hx with rfl|⟨sz',sl',k',h1,h2⟩
      .rw [hbl];simp
      .rw [bR,if_pos rfl]at h1;cases h1;exact aC _ (hmem k' x h2)
     .simp at h
    .simp at h
   .--it is uN
    rename_i heq1 heq2;simp only[dN,de]at heq1 heq2;obtain⟨⟨rfl,rfl,rfl⟩,rfl⟩:=heq1;obtain⟨rfl,rfl⟩:=heq2;split at h
    .rename_i w2 k hrec;obtain⟨rfl,rfl⟩:bt.map (fun i=>((i,none):Nat×Option Ob))++w2=bu/\k=m:=by simpa using h
     have e0:f1=[]:=by
      rcases hr1 with h|h
      .exact h.2
      .cases h
     subst e0;obtain⟨φ',hB⟩:=ih vs outs f2 nxt w2 k hl hw2 hr2 hI hfr hren hn2 (fun b hb=>hSK b (.inr hb)) ha2 ho2 hon2 hrec;have hmk:=hB.le;have hkeys:=hB.F7
     have hwn:∀j∈bt,cz w2 j=none:=fun j hj=>by
      cases hx:cz w2 j with
      |none=>rfl
      |some x=>
       obtain⟨p,hp,rfl⟩:=rJ hx;rcases hkeys p hp with h|h
       .exact absurd rfl (hon3 p.1 hj p.1 h)
       .exact absurd (hren.sub _ (ho1 _ hj).2) (hfr p.1 h.1 h.2)
     have heq:bl (bt.map (fun i=>((i,none):Nat×Option Ob))++w2) hf=bl w2 hf:=by
      rw[eA];funext j
      conv=>lhs;unfold bl
      rw[qT];by_cases hjo:j∈bt
      .rw [if_pos hjo];simp only[bl,hwn j hjo,(ho1 j hjo).1]
      .rw [if_neg hjo];rfl
     refine⟨φ',hB.le,hB.su,heq▸hB.inv,fun p hp=>?_,fun i hi=>?_,fun i o hio hownio hi=>?_⟩
     .rw [hoc];rcases ap.1 hp with hp|hp
      .obtain ⟨j,hj,rfl⟩:=ci.1 hp;exact .inl (aE _ hj)
      .rcases hkeys p hp with h|h
       .exact .inl (aG _ h)
       .exact .inr h
     .rw [hoc]at hi;rw[gU,qT];by_cases hjo:i∈bt
      .rw [if_pos hjo];rfl
      .rw [if_neg hjo];exact hB.Sq i ((ap.1 hi).resolve_left hjo)
     .rw [heq]at hio|-;refine hB.bW i o hio hownio (hi.imp (fun h=>?_) id);rw[hoc]at h;refine(ap.1 h).resolve_left fun hjo=>?_;simp only[bl,hwn i hjo,(ho1 i hjo).1]at hio;cases hio
    .simp at h
   .simp at h
end
section
variable{P:Program}{S K:Nat->Prop}{w0 w:World}{Kn:Nat->Prop}{φ:Nat->gN}{hf:Nat->Option Ob}{H:bF}{e:jO}{ρ:Operand->Value}{o:Oper}{call:Call}{a:Act}
 {nxt n':Nat} {v:TV} {u:fC} {aA:List Nat}
def Pf(P:Program)(o:Oper)(a:Act)(S K:Nat->Prop)(w0 w:World)(Kn:Nat->Prop)(φ:Nat->gN)(hf:Nat->Option Ob)(nxt n':Nat)(v:TV)(u:fC):Prop:=∀(next:Act->World->Prop)(Q:Exit->Act->World->Prop),(∀val w',lq S K w0 w Kn φ hf nxt n' v u val w'->next (a.put o.dst val) w')->o.wp P a w next Q
theorem dJ.lh(h:dJ P o a.eval S K w0 w Kn φ hf nxt n' v u):Pf P o a S K w0 w Kn φ hf nxt n' v u:=by
 intro next Q hn
 obtain⟨nx,val,w',hr,hx,hd⟩:=h;unfold Oper.wp;rw[hr];rcases hx with rfl|⟨rfl,rfl⟩
 .exact hn _ _ hd
 .exact hn _ _ hd
theorem yv{tvs:List TV}{vs:List Value}(hl:tvs.length=vs.length)(h:∀(i:Nat)(t:TV)(v:Value),tvs[i]?=some t->vs[i]?=some v->gr S w Kn φ t v):gr S w Kn φ (t_ tvs) (yu vs):=by
 have EW:gr S w Kn φ (.iR tvs) (.tuple vs.toArray):=by
  refine .iR (by simpa using hl) fun i x hi=>?_;have hlt:i<vs.length:=by rw[<-hl];exact(ak.1 hi).1
  have:=h i x vs[i] hi (aw hlt);simpa[hlt]using this
 match tvs,vs,hl,h,EW with|[],[],_,_,EW=>exact EW|[t],[v],_,h,_=>exact h 0 t v rfl rfl|_::_::_,_::_::_,_,_,EW=>exact EW
theorem RD.Hu{S':Nat->Prop}{w':World}{v x:Value}(h:RD S w (.lit v) x):RD S' w' (.lit v) x:=by cases h with|lit h=>exact .lit h
theorem EP.fx{S':Nat->Prop}:∀{rs:List R}{vs:List Value}{fp:List Nat},rs.all yV=true->EP S w rs vs fp->EP S' w rs vs []:=by
 intro rs;induction rs with
 |nil=>intro vs fp _ h;cases vs with|nil=>rfl|cons v vs=>exact h.elim
 |cons r rs ih=>
  intro vs fp hl h;cases vs with
  |nil=>exact h.elim
  |cons v vs=>
   simp only[List.all_cons,ai]at hl;obtain⟨f1,f2,_,h1,h2⟩:=h;refine⟨[],[],rfl,?_,ih hl.2 h2⟩;have hl1:=hl.1;cases r with
   |c t=>
    cases t with
    |d x=>
     cases x with
     |lit y=>have h1:RT S w (.d (.lit y)) v f1:=h1;cases h1 with|d hd=>exact RT.d hd.Hu
     |_=>simp[yV]at hl1
    |_=>simp[yV]at hl1
   |agg ts=>
    obtain⟨aM,fps,rfl,q1,q2,q3,q4⟩:=h1;refine⟨aM,fps.map fun _=>[],rfl,q1,by simpa using q2,by simp,fun i t f hi hfi=>?_⟩;simp only[yV,bd]at hl1;have ht:=hl1 t (aX hi);obtain rfl:f=[]:=by rw[aH]at hfi;obtain⟨_,_,rfl⟩:=aF.1 hfi;rfl
    have hlt:i<fps.length:=by rw[q2];exact(ak.1 hi).1
    have:=q4 i t fps[i] hi (aw hlt);generalize fps[i]=g at this;cases t with
    |d x=>
     cases x with
     |lit y=>cases this with|d hd=>exact RT.d hd.Hu
     |_=>simp at ht
    |_=>simp at ht
theorem Inv.after{S':Nat->Prop}{w':World}{fp:List Nat}(hI:Inv S K w0 Kn φ hf w)(hs:g_ S w S' w')(hsub:∀b,S' b->S b\/b∈fp\/w.heap.size<=b)(hlt:∀b,S' b->b<w'.heap.size)
  (hfp:∀b∈fp,¬K b) (haw:iZ w φ hf fp) (hfrm:GW (fun b=>b<w.heap.size/\b∉fp) w w'):Inv S' K w0 Kn φ hf w':=by
 refine hI.kJ hs (Ren.refl _ _) hlt (fun b hb hK=>?_) ⟨hI.nw.F6,fun b hb=>?_,fk hI.nw.grow hfrm.grow,fun a ha=>(hfrm.A4 a (cm ha hI.nw.grow)).trans (hI.nw.A4 a ha),fun b aM ho=>?_,hI.nw.io.trans hfrm.io⟩ (fun id o ho=>.inl ⟨ho,fun hown=>?_⟩) hI.eN ?_
 .have h1:b<w.heap.size:=cm (hI.nw.F6 b hK) hI.nw.grow;rcases hsub b hb with h|h|h
  .exact hI.sk b h hK
  .exact hfp b h hK
  .omega
 .have h1:b<w.heap.size:=cm (hI.nw.F6 b hb) hI.nw.grow;exact(hfrm.m7 b ⟨h1,fun h=>hfp b h hb⟩).trans (hI.nw.m7 b hb)
 .obtain ⟨a1,h1,h2⟩:=hI.nw.bt b aM ho;obtain⟨a2,h3,h4⟩:=hfrm.bt b a1 h1;exact⟨a2,h3,h4.trans h2⟩
 .obtain ⟨h1,h2,h3⟩:=(hI.iP id o ho).2.bt hown;have h4:=haw id o ho hown _ (kT id);refine⟨hfrm.m7 _ ⟨h3,h4⟩,fun h=>?_⟩;rcases hsub _ h with h|h|h
  .exact h1 h
  .exact h4 h
  .omega
 .intro id sz sl ho;have h4:=haw id _ ho rfl
  have key:∀x∈iv w φ hf id,w'.heap[x]?=w.heap[x]?/\¬S' x:=fun x hx=>by
   obtain⟨h1,_,h3⟩:=oD hI ho rfl hx;refine⟨hfrm.m7 _ ⟨h3,h4 x hx⟩,fun h=>?_⟩;rcases hsub _ h with h|h|h
   .exact h1 h
   .exact h4 x hx h
   .omega
  refine⟨ho,(key _ (kT id)).1,fun k x hp=>?_⟩;obtain⟨q1,q2⟩:=key x (dU.2 (.inr ⟨sz,sl,k,ho,hp⟩));exact⟨q1,q2,(hI.w7 id sz sl k x ho hp).1⟩
theorem JN{as:List A}{aA:List Nat}{lent:List (C×List Nat×List Nat)}{vs:List Value}{rs:List R}{outs:List T}{ro:Bool}{val:Value}{w':World}{rd:List Nat}
  (hI:Inv S K w0 Kn φ (aB H) w) (hfr:∀j,nxt<=j->j<n'->¬Kn j)
  (hargs:Nn (SB S w φ (aB H) aA) w as vs ((lent.flatMap (·.2.1)).flatMap (iv w φ (aB H)))) (hown:∀i∈lent.flatMap (·.2.1),∃o,aB H i=some o/\cW o=true) (hlent:J2 Kn φ S w lent (oq as vs))
  (hwhole:eP H lent=true) (hnd:(lent.flatMap (·.2.1)).Nodup)
  (hleft:Left (SB S w φ (aB H) aA) w ((lent.flatMap (·.2.1)).flatMap (iv w φ (aB H))) rs outs (oq as vs) val w')
  (h:(if ro then
      if rs.all yV/\lent.isEmpty/\outs.isEmpty then some (t_ (iq nxt rs).1,(iq nxt rs).2.1,aA,(iq nxt rs).2.2)else none
     else
      match dZ H aA aA with
      |none=>none
      |some fu=>
       match eZ nxt lent outs with
       |none=>none
       |some (bu,m)=>some (t_ (iq m rs).1,(iq m rs).2.1++bu++fu,aA++lent.flatMap (·.2.2),(iq m rs).2.2))=some (v,u,rd,n')):
  lq S K w0 w Kn φ (aB H) nxt n' v u val w':=by
 obtain⟨S',kK,fp1,fp2,rfl,hs,hsub,hlt,hrr,hrt,hnd2,hb,hfrm⟩:=hleft;split at h
 .--nothing is D2
  split at h
  .rename_i hcond;obtain⟨hl,hle,hoe⟩:=hcond;have hle':lent=[]:=by simpa using hle
   subst hle';obtain⟨rfl,rfl,_,rfl⟩:t_ (iq nxt rs).1=v/\(iq nxt rs).2.1=u/\aA=rd/\(iq nxt rs).2.2=n':=by simpa using h
   have hI':Inv S K w0 Kn φ (aB H) w':=hI.after (fp:=[]) ⟨fun _ h=>h,fun b hb=>hs.ez b (.inl hb)⟩ (fun b hb=>.inl hb) (fun b hb=>cm (hI.uX b hb) hfrm.grow) (fun b hb=>by simp at hb)
    (fun j o _ _ x _ h=>by simp at h) hfrm
   obtain⟨φ',hL,hlen,hr⟩:=xX rs nxt kK [] hI' hfr (hrr.fx hl) List.nodup_nil (fun b hb=>by simp at hb) (fun j o _ _ x _ h=>by simp at h);exact⟨hL.le,S,φ',⟨fun _ h=>h,fun b hb=>hs.ez b (.inl hb)⟩,hL.su,yv hlen hr,hL.inv⟩
  .simp at h
 .split at h
  .simp at h
  .rename_i fu hfz;split at h
   .simp at h
   .rename_i bu m hbk;obtain⟨rfl,rfl,_,rfl⟩:t_ (iq m rs).1=v/\(iq m rs).2.1++bu++fu=u/\aA++lent.flatMap (·.2.2)=rd/\(iq m rs).2.2=n':=by simpa using h
    have hI1:=hI.Gl hfz;have hmn:=G0 rs m;have hnm:=Ba _ _ _ _ _ hbk
    -- what was lent is ed of the heap
    let kills:fC:=(j4 lent).map fun i=>(i,none);have hkn:∀j,cz kills j=if j∈j4 lent then some none else none:=qT (j4 lent)
    have hf2:∀id o,bl kills (bl fu (aB H)) id=some o->id∉j4 lent/\bl fu (aB H) id=some o:=by
     intro id o ho;have:bl kills (bl fu (aB H)) id=(match cz kills id with|some o=>o|none=>bl fu (aB H) id):=rfl;rw[this,hkn]at ho;by_cases hm:id∈j4 lent
     .rw [if_pos hm]at ho;simp at ho
     .rw [if_neg hm]at ho;exact⟨hm,ho⟩
    have hIk:Inv (SB S w φ (aB H) aA) K w0 Kn φ (bl kills (bl fu (aB H))) w:=hI1.l_ fun id o ho=>(hf2 id o ho).2
    -- the frozen part agrees with the heap e9, where a thing is owned
    have hold:∀id o,bl fu (aB H) id=some o->cW o=true->aB H id=some o:=by
     intro id o ho hown;by_cases hm:id∈aA
     .obtain ⟨o',ho',hfn⟩:=(lj aA fu hfz id).1 hm;simp only[bl,hfn]at ho;obtain rfl:=aa ho;have:=(A5 hI hm ho').1;rw[this]at hown;simp at hown
     .simpa only[bl,(lj aA fu hfz id).2 hm]using ho
    have hbk2:∀j o,bl kills (bl fu (aB H)) j=some o->cW o=true->aB H j=some o/\iv w φ (bl kills (bl fu (aB H))) j=iv w φ (aB H) j:=fun j o hj hjo=>by have h3:=hold j o (hf2 j o hj).2 hjo;exact⟨h3,gF rfl (hj.trans h3.symm)⟩
    have haw:iZ w φ (bl kills (bl fu (aB H))) ((lent.flatMap (·.2.1)).flatMap (iv w φ (aB H))):=by intro j o hj hjo x hx hm;obtain⟨h1,h2⟩:=hf2 j o hj;obtain⟨i,hi,hie⟩:=bS.1 hm;obtain⟨oi,hoi,hoio⟩:=hown i hi;obtain⟨h3,h4⟩:=hbk2 j o hj hjo;rw[h4]at hx;exact nW hI hoi h3 hoio hjo (fun e=>h1 (e▸hi)) hie hx
    have hfpK:∀b∈((lent.flatMap (·.2.1)).flatMap (iv w φ (aB H))),¬K b/\b<w.heap.size:=by intro b hbm;obtain⟨i,hi,hie⟩:=bS.1 hbm;obtain⟨oi,hoi,hoio⟩:=hown i hi;exact(oD hI hoi hoio hie).2
    have hI2:Inv S' K w0 Kn φ (bl kills (bl fu (aB H))) w':=hIk.after hs hsub hlt (fun b hb=>(hfpK b hb).1) haw hfrm
    have hK12:∀b∈fp1++fp2,¬S' b/\¬K b:=fun b hbm=>by
     obtain⟨h1,h2⟩:=hb b hbm;refine⟨h1,fun hk=>?_⟩;rcases h2 with h2|h2
     .exact (hfpK b h2).1 hk
     .have:=hI.nw.F6 b hk;have:=hI.nw.grow;omega
    have haw12:iZ w' φ (bl kills (bl fu (aB H))) (fp1++fp2):=fun j o hj hjo x hx hm=>by
     rw[Bq (hfrm.m7 _ ⟨((hIk.iP j o hj).2.bt hjo).2.2,haw j o hj hjo _ (kT j)⟩)]at hx;rcases(hb _ hm).2 with h2|h2
     .exact haw j o hj hjo x hx h2
     .have:=(oD hIk hj hjo hx).2.2;omega
    rw[bX]at hnd2;obtain⟨hn1,hn2,hn3⟩:=hnd2;simp only[ap]at hK12
    obtain⟨φ1,hB⟩:=GP hI hfrm.bt lent (oq as vs) outs fp2 nxt bu m hlent hwhole hrt hI2 (fun j h1 h2=>hfr j h1 (by omega)) (Ren.refl _ _) hn2 (fun b hb=>hK12 b (.inr hb))
     (fun j o hj hjo x hx hm=>haw12 j o hj hjo x hx (by simp[hm]))
     (fun i hi=>by obtain⟨oi,hoi,_⟩:=hown i hi;refine⟨?_,(hI.iP i oi hoi).1⟩;show(match cz kills i with|some o=>o|none=>bl fu (aB H) i)=none;rw[hkn,if_pos hi]) hnd hbk
    have hkk:bl bu (bl kills (bl fu (aB H)))=bl bu (bl fu (aB H)):=by
     funext j;by_cases hm:j∈j4 lent
     .obtain ⟨x,hx⟩:=hC.1 (hB.Sq j hm);simp only[bl,hx]
     .have h1:bl kills (bl fu (aB H)) j=bl fu (aB H) j:=by show(match cz kills j with|some o=>o|none=>bl fu (aB H) j)=_;rw[hkn,if_neg hm]
      have h2:∀g:Nat->Option Ob,bl bu g j=(match cz bu j with|some o=>o|none=>g j):=fun _=>rfl;rw[h2,h2,h1]
    have hIB:=hB.inv;rw[hkk]at hIB
    have haw1:iZ w' φ1 (bl bu (bl fu (aB H))) fp1:=by
     intro j o hj hjo x hx hm;by_cases hk:j∈j4 lent\/(nxt<=j/\j<m)
     .have:=hB.bW j o (by rw[hkk];exact hj) hjo hk x (by rw[hkk];exact hx);exact hn3 _ hm _ this rfl
     .have hfn:cz bu j=none:=li fun p hp e=>by
       rcases hB.F7 p hp with h|h
       .exact hk (.inl (e▸h))
       .exact hk (.inr (e▸h))
      have hj2:bl kills (bl fu (aB H)) j=some o:=by rw[<-hkk]at hj;simpa only[bl,hfn]using hj
      have hknj:=(hI2.iP j o hj2).1;rw[gF (hB.su.ez j hknj) (hj.trans hj2.symm)]at hx;exact haw12 j o hj2 hjo x hx (by simp[hm])
    obtain⟨φ2,hL,hlen,hr⟩:=xX rs m kK fp1 hIB (fun j h1 h2 hk=>by
      rcases hk with hk|hk
      .exact hfr j (by omega) h2 hk
      .omega) hrr hn1 (fun b hb=>hK12 b (.inl hb)) haw1
    refine⟨by omega,S',φ2,(SB.ux aA).trans hs,⟨fun i h=>.inl h,fun i h=>(hL.su.ez i (.inl h)).trans (hB.su.ez i h)⟩,?_,?_⟩
    .exact (yv hlen hr).kn fun i=>(rB hnm hmn i).1
    .rw [eA,eA];exact hL.inv.xr fun i=>rB hnm hmn i
theorem Ax:∀n,(∀c x aA,dY H n c=some (x,aA)->∀i∈aA,∃o,aB H i=some o)/\(∀cs xs aA,fZ H n cs=some (xs,aA)->∀i∈aA,∃o,aB H i=some o):=by
 have leaf:∀n c x aA,(match c with|.op _ _|.oX _ _=>False|_=>True)->dY H n c=some (x,aA)->∀i∈aA,∃o,aB H i=some o:=by
  intro n c x aA hl h i hi;cases c with
  |d y=>simp only[dY,bm,de]at h;obtain⟨_,rfl⟩:=h;simp at hi
  |fw sz id off len=>
   simp only[dY]at h;split at h
   all_goals first
    |(split at h
      .obtain ⟨_,rfl⟩:=ad (aa h);obtain rfl:=am.1 hi;exact⟨_,by assumption⟩
      .simp at h)
    |(split at h
      .split at h
       .obtain ⟨_,rfl⟩:=ad (aa h);obtain rfl:=am.1 hi;exact⟨_,by assumption⟩
       .simp at h
      .simp at h)
    |simp at h
  |ep id dj off=>
   simp only[dY]at h;split at h
   all_goals first
    |(split at h
      .split at h
       .obtain ⟨_,rfl⟩:=ad (aa h);obtain rfl:=am.1 hi;exact⟨_,by assumption⟩
       .simp at h
      .simp at h)
    |simp at h
  |op id off=>exact hl.elim
  |oX f caps=>exact hl.elim
  |om id=>cases n<;>simp[dY]at h
 intro n;induction n with
 |zero=>
  refine⟨fun c x aA h=>?_,fun cs xs aA h=>?_⟩
  .cases c with|op id off=>simp[dY]at h|oX f caps=>simp[dY]at h|_=>exact leaf 0 _ x aA trivial h
  .cases cs with
   |nil=>
    obtain⟨_,rfl⟩:[]=xs/\[]=aA:=by simpa[fZ]using h
    intro i hi;simp at hi
   |cons c cs=>simp[fZ]at h
 |succ n ih=>
  refine⟨fun c x aA h=>?_,fun cs xs aA h=>?_⟩
  .cases c with
   |op id off=>
    simp only[dY]at h;split at h
    .split at h
     .obtain ⟨_,rfl⟩:=ad (aa h);intro i hi;obtain rfl:=am.1 hi;exact⟨_,by assumption⟩
     .simp at h
    .split at h
     .rename_i hv;split at h
      .obtain ⟨_,rfl⟩:=ad (aa h);intro i hi;rcases aN.1 hi with rfl|hi
       .exact ⟨_,by assumption⟩
       .exact ih.2 _ _ _ hv i hi
      .simp at h
     .simp at h
    .simp at h
   |oX f caps=>
    simp only[dY]at h;split at h
    .rename_i hv;obtain⟨_,rfl⟩:=ad (aa h);exact ih.2 _ _ _ hv
    .simp at h
   |_=>exact leaf _ _ x aA trivial h
  .cases cs with
   |nil=>
    obtain⟨_,rfl⟩:[]=xs/\[]=aA:=by simpa[fZ]using h
    intro i hi;simp at hi
   |cons c cs=>
    simp only[fZ]at h;split at h
    .rename_i h1 h2;obtain⟨_,rfl⟩:=ad (aa h);intro i hi;rcases ap.1 hi with hi|hi
     .exact ih.1 _ _ _ h1 i hi
     .exact ih.2 _ _ _ h2 i hi
    .simp at h
theorem CL:∀cs xs aA,dT H cs=some (xs,aA)->∀i∈aA,∃o,aB H i=some o:=by
 intro cs;induction cs with
 |nil=>
  intro xs aA h i hi;obtain⟨_,rfl⟩:[]=xs/\[]=aA:=by simpa[dT]using h
  simp at hi
 |cons c cs ih=>
  intro xs aA h i hi;simp only[dT]at h;split at h
  .rename_i h1 h2;obtain⟨_,rfl⟩:=ad (aa h);rcases ap.1 hi with hi|hi
   .exact (Ax 300).1 _ _ _ h1 i hi
   .exact ih _ _ h2 i hi
  .simp at h
theorem Bu:∀(tvs:List TV)(ms:List Bool)(as:List A)(aA:List Nat)(lent:List (C×List Nat×List Nat)),gD H tvs ms=some (as,aA,lent)->∀i∈aA,∃o,aB H i=some o:=by
 intro tvs;induction tvs with
 |nil=>
  intro ms as aA lent h i hi;obtain⟨_,rfl,_⟩:[]=as/\[]=aA/\[]=lent:=by simpa[gD]using h
  simp at hi
 |cons t tvs ih=>
  intro ms as aA lent h i hi;simp only[gD]at h;split at h
  .simp at h
  .rename_i hrec;split at h
   .split at h
    .split at h
     .obtain ⟨_,rfl,_⟩:=(by simpa using h:_/\_/\_)
      exact ih _ _ _ _ hrec i hi
     .simp at h
    .simp at h
   .split at h
    .split at h
     .rename_i hv;obtain⟨_,rfl,_⟩:=(by simpa using h:_/\_/\_)
      rcases ap.1 hi with hi|hi
      .exact (Ax 300).1 _ _ _ hv i hi
      .exact ih _ _ _ _ hrec i hi
     .simp at h
    .split at h
     .rename_i hv;obtain⟨_,rfl,_⟩:=(by simpa using h:_/\_/\_)
      rcases ap.1 hi with hi|hi
      .exact CL _ _ _ hv i hi
      .exact ih _ _ _ _ hrec i hi
     .simp at h
    .simp at h
theorem RO.Re{l:gN}{o:Ob}(h:RO S K w Kn φ l o)(hs:∀b,S b->b<w.heap.size):l.bW<w.heap.size:=by cases h with|aM hsz hl hS hK hown=>exact hown.lt|box hb hS hK hown=>exact hown.lt|map hS hK hmp=>exact(Array.getElem?_eq_some_iff.1 hmp).1|cap hsz hl hS hK hown=>exact hown.lt|nst hsz hl hS hK hown=>exact hown.lt|pG hsz hl hS=>exact hs _ hS|oz hb hS=>exact hs _ hS
theorem RO.UR{l:gN}{o:Ob}(h:RO S K w Kn φ l o)(hs:cW o=false):S l.bW:=by cases h with|pG hsz hl hS=>exact hS|oz hb hS=>exact hS|_=>simp[cW]at hs
theorem Hg{c:Go.Call}{fop:Operand}{ro:Bool}{kg:List Bool}(ho:o.op=.call c)(hcal:c.callee=.value fop)(hok:nr P call)(hI:Inv S K w0 Kn φ (aB H) w)
  (hfr:∀j,nxt<=j->j<n'->¬Kn j) (hρ:∀x tv,kR e x=some tv->gr S w Kn φ tv (a.eval x))
  (h:cP call (.call ro kg) ((fop::c.args.toList).map (kR e)) H nxt=some (v,u,aA,n')):Pf P o a S K w0 w Kn φ (aB H) nxt n' v u:=by
 rw[aD]at h;change uO call ro kg (kR e fop) (c.args.toList.map (kR e)) H nxt=_ at h;unfold uO at h;split at h
 .rename_i f caps vs hf hvs;split at h
  .simp at h
  .rename_i as ids1 lent hargs;split at h
   .rename_i hcond;obtain⟨hwhole,hnd,hapart⟩:=hcond;split at h
    .simp at h
    .rename_i rs outs hcall
     -- the callee
     have hfv:∃cvs:Array Value,a.eval fop=.func (.func f) #[] cvs/\caps.length=cvs.size/\∀(i:Nat)(x:C),caps[i]?=some x->RC S w Kn φ x (cvs.getD i undef):=by
      split at hf
      .rename_i g capsD hop;obtain⟨rfl,rfl⟩:g=f/\capsD.map C.d=caps:=by simpa using hf
       have hr:=hρ _ _ hop;generalize a.eval fop=fv at hr|-;cases hr with
       |c hr=>cases hr with
        |d hd=>cases hd with|@fn _ _ cvs hlen hrd=>refine⟨cvs,rfl,by simpa using hlen,fun i x hi=>?_⟩;rw[aH]at hi;obtain⟨y,hy,rfl⟩:=aF.1 hi;exact .d (hrd i y hy)
      .rename_i g caps' hop;obtain⟨rfl,rfl⟩:g=f/\caps'=caps:=by simpa using hf
       have hr:=hρ _ _ hop;generalize a.eval fop=fv at hr|-;cases hr with
       |c hr=>cases hr with|@oX _ _ cvs hlen hrc=>exact⟨cvs,rfl,hlen,hrc⟩
      .simp at hf
     obtain⟨cvs,hfe,hcl,hcr⟩:=hfv;obtain⟨hal,har⟩:=vH hρ hvs;let kK:List Value:=c.args.toList.map a.eval++cvs.toList
     obtain⟨p1,p2,p3⟩:=GQ hI (vs++caps.map TV.c) kg as ids1 lent kK hargs (by simp[kK,hal,hcl]) (fun i t val hi hv=>by
      by_cases hlt:i<vs.length
      .rw [bN hlt]at hi;simp only[kK]at hv;rw[bN (by simp only[aO];omega),aH]at hv;obtain⟨x,hx,rfl⟩:=aF.1 hv;exact har i x t hx hi
      .rw [bQ (by omega),aH]at hi;obtain⟨x,hx,rfl⟩:=aF.1 hi;simp only[kK]at hv;rw[bQ (by simp only[aO];omega)]at hv;simp only[aO,<-hal]at hv;have:=hcr _ x hx;rw[Array.getElem?_toList]at hv;have e1:cvs.getD (i-vs.length) undef=val:=by simp[hv]
       rw[e1]at this;exact .c this)
     have hSlt:∀b,SB S w φ (aB H) ids1 b->b<w.heap.size:=by
      rintro b (hb|⟨i,hi,hb⟩)
      .exact hI.uX b hb
      .obtain ⟨oi,hoi⟩:=Bu _ _ _ _ _ hargs i hi;rcases dU.1 hb with rfl|⟨sz,sl,k,h1,h2⟩
       .exact (hI.iP i oi hoi).2.Re hI.uX
       .exact (hI.IC h1 h2).2.2.1
     have hnS:∀b∈((lent.flatMap (·.2.1)).flatMap (iv w φ (aB H))),¬SB S w φ (aB H) ids1 b:=by
      intro b hb hS;obtain⟨i,hi,hb⟩:=bS.1 hb;obtain⟨oi,hoi,hoio⟩:=p2 i hi;have hb1:=(oD hI hoi hoio hb).1;rcases hS with hS|⟨j,hj,hje⟩
      .exact hb1 hS
      .obtain ⟨oj,hoj⟩:=Bu _ _ _ _ _ hargs j hj;cases hjo:cW oj with
       |true=>refine nW hI hoi hoj hoio hjo (fun e=>?_) hb hje;have:=bd.1 hapart i hi;rw[e]at this;simp[hj]at this
       |false=>
        rcases dU.1 hje with rfl|⟨sz,sl,k,h1,_⟩
        .exact hb1 ((hI.iP j oj hoj).2.UR hjo)
        .rw [hoj]at h1;cases h1;cases hjo
     have hgood:=hok f as rs outs hcall (SB S w φ (aB H) ids1) w kK _ hSlt p1 (Br hI hnd p2) hnS (hI.B5.mono (SB.ux _));intro next Q hn
     have hfin:∀val w',Left (SB S w φ (aB H) ids1) w ((lent.flatMap (·.2.1)).flatMap (iv w φ (aB H))) rs outs (oq as kK) val w'->next (a.put o.dst val) w':=by intro val w' hleft;refine hn val w' (JN hI hfr p1 p2 p3 hwhole hnd hleft (ro:=ro) (v:=v) (u:=u) (rd:=aA) ?_);exact h
     have hrun:∀r,(callFunc f kK.toArray).run P w=r->(execOp a.eval o).run P w=r:=by
      intro r hr;have e1:(#[]++c.args.map a.eval)++cvs=kK.toArray:=by apply Array.ext';simp[kK]
      simp only[execOp,ho,Sem.run_bind,resolve,hcal,hfe,Deferred.ofValue,Sem.run_pure,Result.andThen_ok,invoke,e1];exact hr
     rcases hgood with⟨g,as',hr,hc⟩|⟨val,hr,hleft⟩
     .unfold Oper.wp;rw[hrun _ hr,Oper.upon_enter];refine hc.mono fun en w' hR=>?_;obtain⟨val,rfl,hleft⟩:=hR;exact hfin val w' hleft
     .unfold Oper.wp;rw[hrun _ hr];exact hfin val w hleft
   .simp at h
 .simp at h
end
section
variable{P:Program}{S K:Nat->Prop}{w0 w:World}{Kn:Nat->Prop}{φ:Nat->gN}{H:bF}{e:jO}{o:Oper}{call:Call}{a:Act}{di:Au}{k:Ev.K}{args:List Operand}
 {nxt n':Nat} {v:TV} {u:fC} {aA:List Nat}
theorem fQ{vs:List (Option TV)}:cP call .gx vs H nxt=none:=by unfold cP;split<;>first|rfl|simp_all
theorem JQ{op:BinOp}{t ty:TypeId}{x y:Operand}(ho:o.op=.binOp op t x y ty)(hk:HN P op t x y=(k,args))(hI:Inv S K w0 Kn φ (aB H) w)(hE:jO.ok S w Kn φ e a.tmps)
  (h:cP call k (args.map (kR e)) H nxt=some (v,u,aA,n')):dJ P o a.eval S K w0 w Kn φ (aB H) nxt n' v u:=by
 have hρ:∀x tv,kR e x=some tv->gr S w Kn φ tv (a.eval x):=fun x tv h=>tL hI.B5 hE h;have plainBin:(k,args)=(Ev.K.Ap op,[x,y])->dJ P o a.eval S K w0 w Kn φ (aB H) nxt n' v u:=by intro hk;obtain⟨rfl,rfl⟩:=ad hk;exact Qp ho hI (fun z hz=>hρ x z hz) (fun z hz=>hρ y z hz) h
 have nilBin:∀kind,(op=.eql\/op=.neq)->K_ P t kind->(k,args)=qi kind (op==.neq) x y->dJ P o a.eval S K w0 w Kn φ (aB H) nxt n' v u:=by
  intro kind hop hu hk;unfold qi at hk;split at hk
  .rename_i hy;obtain⟨rfl,rfl⟩:=ad hk;exact DA ho hop hu hI (fun _=>rfl) (.inl ⟨rfl,hy⟩) (fun z hz=>hρ x z hz) h
  .split at hk
   .rename_i hx;obtain⟨rfl,rfl⟩:=ad hk;exact DA ho hop hu hI (fun _=>rfl) (.inr ⟨rfl,hx⟩) (fun z hz=>hρ y z hz) h
   .obtain ⟨rfl,rfl⟩:=ad hk;rw[fQ]at h;simp at h
 have eqs:(op=.eql\/op=.neq)->(match P.underlying t with
  |some .bool=>(Ev.K.uP (op==.neq),[x,y])
  |some (.int _)|some (.float _)|some .string=>(Ev.K.Ap op,[x,y])
  |some (.slice _)=>qi 0 (op==.neq) x y
  |some (.pointer _)=>qi 1 (op==.neq) x y
  |some (.func _ _ _)=>qi 2 (op==.neq) x y
  |some (.struct _)|some (.array _ _)=>match zR P 8 t with|some ks=>if P.eqGuardType P.depth t=false then(Ev.K.zp (op==.neq) ks,[x,y])else(Ev.K.gx,[])|none=>(Ev.K.gx,[])
  |_=>(Ev.K.gx,[]))=(k,args)->dJ P o a.eval S K w0 w Kn φ (aB H) nxt n' v u:=by
  intro hop hk;split at hk
  .rename_i hu;obtain⟨rfl,rfl⟩:=ad hk;exact IP ho hop hu hI (fun z hz=>hρ x z hz) (fun z hz=>hρ y z hz) h
  .exact plainBin hk.symm
  .exact plainBin hk.symm
  .exact plainBin hk.symm
  .rename_i hu;exact nilBin 0 hop ⟨_,hu⟩ hk.symm
  .rename_i hu;exact nilBin 1 hop ⟨_,hu⟩ hk.symm
  .rename_i hu;exact nilBin 2 hop ⟨_,_,_,hu⟩ hk.symm
  .rename_i hu;split at hk
   .rename_i hks;split at hk
    .rename_i hg;obtain⟨rfl,rfl⟩:=ad hk;exact DB ho hop hks (by simp[fV,hu]) hg hI (fun z hz=>hρ x z hz) (fun z hz=>hρ y z hz) h
    .obtain ⟨rfl,rfl⟩:=ad hk;rw[fQ]at h;simp at h
   .obtain ⟨rfl,rfl⟩:=ad hk;rw[fQ]at h;simp at h
  .rename_i hu;split at hk
   .rename_i hks;split at hk
    .rename_i hg;obtain⟨rfl,rfl⟩:=ad hk;exact DB ho hop hks (by simp[fV,hu]) hg hI (fun z hz=>hρ x z hz) (fun z hz=>hρ y z hz) h
    .obtain ⟨rfl,rfl⟩:=ad hk;rw[fQ]at h;simp at h
   .obtain ⟨rfl,rfl⟩:=ad hk;rw[fQ]at h;simp at h
  .obtain ⟨rfl,rfl⟩:=ad hk;rw[fQ]at h;simp at h
 cases op with|eql=>exact eqs (.inl rfl) hk|neq=>exact eqs (.inr rfl) hk|_=>exact plainBin hk.symm
theorem qd{α:Type}{x:Array α}{y:α}(h:x.toList=[y]):x= #[y]:=by rw[<-lx (xs:=x),h]
theorem pp{α:Type}{x:Array α}{y z:α}(h:x.toList=[y,z]):x= #[y,z]:=by rw[<-lx (xs:=x),h]
theorem Ao{b:Builtin}{c:Go.Call}(ho:o.op=.call c)(hcal:c.callee=.builtin b)(hk:sZ P b c.args.toList c.argTypes.toList=(k,args))(hI:Inv S K w0 Kn φ (aB H) w)
  (hE:jO.ok S w Kn φ e a.tmps) (hn0:nxt<n'->¬Kn nxt) (h:cP call k (args.map (kR e)) H nxt=some (v,u,aA,n')):dJ P o a.eval S K w0 w Kn φ (aB H) nxt n' v u:=by
 have hρ:∀x tv,kR e x=some tv->gr S w Kn φ tv (a.eval x):=fun x tv h=>tL hI.B5 hE h
 have lenArgs:∀str,k=.len str->args=c.args.toList->∃x,c.args.toList=[x]:=by
  intro str hk ha;subst hk ha;generalize c.args.toList=l at h
  match l,h with|[x],_=>exact⟨x,rfl⟩|[],h=>simp[cP]at h|x::y::r,h=>simp[cP]at h
 unfold sZ at hk;split at hk
 .rename_i t hts;split at hk
  .rename_i hu;obtain⟨rfl,rfl⟩:=ad hk;obtain⟨x,hx⟩:=lenArgs true rfl rfl;rw[hx]at h;exact KW (str:=true) ho hcal (qd hx) (qd hts) hu hI (fun z hz=>hρ x z hz) h
  .rename_i hu;obtain⟨rfl,rfl⟩:=ad hk;obtain⟨x,hx⟩:=lenArgs false rfl rfl;rw[hx]at h;exact KW (str:=false) ho hcal (qd hx) (qd hts) ⟨_,hu⟩ hI (fun z hz=>hρ x z hz) h
  .obtain ⟨rfl,rfl⟩:=ad hk;rw[fQ]at h;simp at h
 .obtain ⟨rfl,rfl⟩:=ad hk;exact AQ (m:=true) ho hcal hI hρ h
 .obtain ⟨rfl,rfl⟩:=ad hk;exact AQ (m:=false) ho hcal hI hρ h
 .rename_i s x hts;split at hk
  .rename_i el el2 hus hux;split at hk
   .rename_i n z hsz hz;split at hk
    .rename_i hb;obtain⟨rfl,rfl⟩:=ad hk
     have:∃p q,c.args.toList=[p,q]:=by
      generalize c.args.toList=l at h
      match l,h with|[p,q],_=>exact⟨p,q,rfl⟩|[],h=>simp[cP]at h|[p],h=>simp[cP]at h|p::q::r::t,h=>simp[cP]at h
     obtain⟨p,q,hpq⟩:=this;rw[hpq]at h;exact IQ ho hcal (pp hpq) (pp hts) hus hux hsz hz hb.2 hb.1 hI hn0 (fun z hz=>hρ p z hz) (fun z hz=>hρ q z hz) h
    .obtain ⟨rfl,rfl⟩:=ad hk;rw[fQ]at h;simp at h
   .obtain ⟨rfl,rfl⟩:=ad hk;rw[fQ]at h;simp at h
  .rename_i el kd hus hux;split at hk
   .rename_i n z hsz hz;split at hk
    .rename_i hb;obtain⟨rfl,rfl⟩:=ad hk
     have:∃p q,c.args.toList=[p,q]:=by
      generalize c.args.toList=l at h
      match l,h with|[p,q],_=>exact⟨p,q,rfl⟩|[],h=>simp[cP]at h|[p],h=>simp[cP]at h|p::q::r::t,h=>simp[cP]at h
     obtain⟨p,q,hpq⟩:=this;rw[hpq]at h;exact Qq ho hcal (pp hpq) (pp hts) hus hux hsz hz hb.2 hb.1 hI hn0 (fun z hz=>hρ p z hz) (fun z hz=>hρ q z hz) h
    .obtain ⟨rfl,rfl⟩:=ad hk;rw[fQ]at h;simp at h
   .obtain ⟨rfl,rfl⟩:=ad hk;rw[fQ]at h;simp at h
  .obtain ⟨rfl,rfl⟩:=ad hk;rw[fQ]at h;simp at h
 .rename_i t hts;split at hk
  .rename_i el hu;obtain⟨rfl,rfl⟩:=ad hk
   have:∃p,c.args.toList=[p]:=by
    generalize c.args.toList=l at h
    match l,h with|[p],_=>exact⟨p,rfl⟩|[],h=>simp[cP]at h|p::q::r,h=>simp[cP]at h
   obtain⟨p,hp⟩:=this;rw[hp]at h;exact Qn ho hcal (qd hp) (qd hts) hu hI (fun z hz=>hρ p z hz) h
  .obtain ⟨rfl,rfl⟩:=ad hk;rw[fQ]at h;simp at h
 .rename_i d x hts;split at hk
  .rename_i el hud;split at hk
   .rename_i n hsz;obtain⟨rfl,rfl⟩:=ad hk
    have:∃p q,c.args.toList=[p,q]:=by
     generalize c.args.toList=l at h
     match l,h with|[p,q],_=>exact⟨p,q,rfl⟩|[],h=>simp[cP]at h|[p],h=>simp[cP]at h|p::q::r::t,h=>simp[cP]at h
    obtain⟨p,q,hpq⟩:=this;rw[hpq]at h;exact N_ ho hcal (pp hpq) (pp hts) hud hsz hI (fun z hz=>hρ p z hz) (fun z hz=>hρ q z hz) h
   .obtain ⟨rfl,rfl⟩:=ad hk;rw[fQ]at h;simp at h
  .obtain ⟨rfl,rfl⟩:=ad hk;rw[fQ]at h;simp at h
 .rename_i d hts;split at hk
  .rename_i el hud;split at hk
   .rename_i n z hsz hz;split at hk
    .rename_i hzl;obtain⟨rfl,rfl⟩:=ad hk
     have:∃p,c.args.toList=[p]:=by
      generalize c.args.toList=l at h
      match l,h with|[p],_=>exact⟨p,rfl⟩|[],h=>simp[cP]at h|p::q::r,h=>simp[cP]at h
     obtain⟨p,hp⟩:=this;rw[hp]at h;exact K1 ho hcal (qd hp) (qd hts) hud hsz hz hzl hI (fun z hz=>hρ p z hz) h
    .obtain ⟨rfl,rfl⟩:=ad hk;rw[fQ]at h;simp at h
   .obtain ⟨rfl,rfl⟩:=ad hk;rw[fQ]at h;simp at h
  .obtain ⟨rfl,rfl⟩:=ad hk;rw[fQ]at h;simp at h
 .obtain ⟨rfl,rfl⟩:=ad hk;rw[fQ]at h;simp at h
theorem Dv(hok:nr P call)(hk:xh P di o.op=(k,args))(hI:Inv S K w0 Kn φ (aB H) w)(hE:jO.ok S w Kn φ e a.tmps)(hfr:∀j,nxt<=j->j<n'->¬Kn j)
  (h:cP call k (args.map (kR e)) H nxt=some (v,u,aA,n')):Pf P o a S K w0 w Kn φ (aB H) nxt n' v u:=by
 have hρ:∀x tv,kR e x=some tv->gr S w Kn φ tv (a.eval x):=fun x tv h=>tL hI.B5 hE h;have hn0:nxt<n'->¬Kn nxt:=fun h=>hfr nxt (au _) h;have gx:(k,args)=(Ev.K.gx,[])->Pf P o a S K w0 w Kn φ (aB H) nxt n' v u:=by intro hk;obtain⟨rfl,rfl⟩:=ad hk;rw[fQ]at h;simp at h
 generalize hop:o.op=op at hk;unfold xh at hk;split at hk
 .obtain ⟨rfl,rfl⟩:=ad hk;exact(Pq (.inl hop) hI (fun z hz=>hρ _ z hz) h).lh
 .obtain ⟨rfl,rfl⟩:=ad hk;exact(Pq (.inr hop) hI (fun z hz=>hρ _ z hz) h).lh
 .obtain ⟨rfl,rfl⟩:=ad hk;exact(N8 hop hI (fun z hz=>hρ _ z hz) (fun z hz=>hρ _ z hz) (fun z hz=>hρ _ z hz) h).lh
 .--alloc
  split at hk
  .rename_i hz;obtain⟨rfl,rfl⟩:=ad hk;exact(K2 hop hz hI hn0 h).lh
  .exact gx hk.symm
 .obtain ⟨rfl,rfl⟩:=ad hk;exact(Qo hop hI hn0 (fun z hz=>hρ _ z hz) h).lh
 .--build
  split at hk
  .rename_i hu hz;split at hk
   .rename_i hpl;split at hk
    .rename_i hall;obtain⟨rfl,rfl⟩:=ad hk;exact(DD hop hz (.inl ⟨_,hu,hpl,hall⟩) hI hρ h).lh
    .exact gx hk.symm
   .exact gx hk.symm
  .rename_i hu hz;split at hk
   .rename_i hs;obtain⟨rfl,rfl⟩:=ad hk;exact(DD hop hz (.inr ⟨_,_,_,hu,hs,rfl⟩) hI hρ h).lh
   .exact gx hk.symm
  .exact gx hk.symm
 .--buildSlice
  split at hk
  .rename_i hu;split at hk
   .rename_i hs hz;split at hk
    .rename_i hl;obtain⟨rfl,rfl⟩:=ad hk;exact(Ab hop hu hs hz hl hI hn0 hρ h).lh
    .exact gx hk.symm
   .exact gx hk.symm
  .exact gx hk.symm
 .--load
  split at hk
  .rename_i ha hs;obtain⟨rfl,rfl⟩:=ad hk;split at h
   .rename_i hc;obtain⟨_,_,rfl,rfl⟩:=hc;exact(KV hop ha hs hI hn0 (fun z hz=>hρ _ z hz) h).lh
   .exact (Hf hop ha hs hI (fun z hz=>hρ _ z hz) h).lh
  .exact gx hk.symm
 .--store
  split at hk
  .rename_i hs;obtain⟨rfl,rfl⟩:=ad hk;exact(KT hop hs hI (fun z hz=>hρ _ z hz) (fun z hz=>hρ _ z hz) h).lh
  .exact gx hk.symm
 .obtain ⟨rfl,rfl⟩:=ad hk;exact(Dx hop hI (fun z hz=>hρ _ z hz) h).lh
 .exact (JQ hop hk hI hE h).lh
 .obtain ⟨rfl,rfl⟩:=ad hk;exact(Sa hop hI (fun z hz=>hρ _ z hz) h).lh
 .--convert
  split at hk
  .rename_i hs hd;obtain⟨rfl,rfl⟩:=ad hk;exact(FR hop hs hd hI (fun z hz=>hρ _ z hz) h).lh
  .rename_i hs hd;obtain⟨rfl,rfl⟩:=ad hk;exact(DC hop hs hd hI (fun z hz=>hρ _ z hz) h).lh
  .exact gx hk.symm
 .--makeFunc
  split at hk
  .rename_i hf;obtain⟨rfl,rfl⟩:=ad hk;exact(N9 hop hf hI hρ h).lh
  .exact gx hk.symm
 .--makeSlice
  split at hk
  .rename_i hu;split at hk
   .rename_i hs hz;split at hk
    .rename_i hl;obtain⟨rfl,rfl⟩:=ad hk;split at h
     .rename_i m hm;unfold Pr at hm;split at hm
      .rename_i hc;split at hm
       .split at hm
        .obtain rfl:=aa hm;exact(KU hop hu hs hz hl.1 hl.2 hc.2 (Nat.succ_pos _) hI hn0 (fun z hz=>hρ _ z hz) (fun z hz=>hρ _ z hz) h).lh
        .cases hm
       .cases hm
      .cases hm
     .exact (vh hop hu hs hz hl.1 hl.2 hI hn0 (fun z hz=>hρ _ z hz) (fun z hz=>hρ _ z hz) h).lh
    .exact gx hk.symm
   .exact gx hk.symm
  .exact gx hk.symm
 .--slice
  split at hk
  .rename_i hu;obtain⟨rfl,rfl⟩:=ad hk;exact(Dw (str:=true) hop hu hI hρ h).lh
  .rename_i hu;split at hk
   .rename_i hs;obtain⟨rfl,rfl⟩:=ad hk;exact(Dw (str:=false) hop ⟨_,hu,hs⟩ hI hρ h).lh
   .exact gx hk.symm
  .exact gx hk.symm
 .--BH
  split at hk
  .rename_i hu;split at hk
   .rename_i hs;obtain⟨rfl,rfl⟩:=ad hk;exact(IM hop hu hs hI hn0 hρ h).lh
   .exact gx hk.symm
  .exact gx hk.symm
 .--fieldAddr
  split at hk
  .rename_i hu;split at hk
   .rename_i hf;split at hk
    .rename_i hs;obtain⟨rfl,rfl⟩:=ad hk;exact(BT hop hu hf hs hI (fun z hz=>hρ _ z hz) h).lh
    .exact gx hk.symm
   .exact gx hk.symm
  .exact gx hk.symm
 .--field
  split at hk
  .rename_i hu;split at hk
   .rename_i hf;split at hk
    .rename_i ha hs;obtain⟨rfl,rfl⟩:=ad hk;exact(KY hop hu hf ha hs hI (fun z hz=>hρ _ z hz) h).lh
    .exact gx hk.symm
   .exact gx hk.symm
  .exact gx hk.symm
 .--indexAddr
  split at hk
  .rename_i hu;split at hk
   .rename_i hs;obtain⟨rfl,rfl⟩:=ad hk;exact(vi (aM:=none) hop ⟨_,hu,hs⟩ hI (fun z hz=>hρ _ z hz) (fun z hz=>hρ _ z hz) h).lh
   .exact gx hk.symm
  .rename_i hu;split at hk
   .rename_i hs;obtain⟨rfl,rfl⟩:=ad hk;exact(vi (aM:=some _) hop ⟨_,hu,hs⟩ hI (fun z hz=>hρ _ z hz) (fun z hz=>hρ _ z hz) h).lh
   .exact gx hk.symm
  .exact gx hk.symm
 .--index
  split at hk
  .rename_i hu;obtain⟨rfl,rfl⟩:=ad hk;exact(Dz hop hu hI (fun z hz=>hρ _ z hz) (fun z hz=>hρ _ z hz) h).lh
  .rename_i hu;split at hk
   .rename_i ha hs;obtain⟨rfl,rfl⟩:=ad hk;exact(KX hop hu ha hs hI (fun z hz=>hρ _ z hz) (fun z hz=>hρ _ z hz) h).lh
   .exact gx hk.symm
  .exact gx hk.symm
 .obtain ⟨rfl,rfl⟩:=ad hk;exact(FQ hop hI (fun z hz=>hρ _ z hz) h).lh
 .--makeMap
  split at hk
  .split at hk
   .obtain ⟨rfl,rfl⟩:=ad hk;exact(FP hop hI hn0 h).lh
   .exact gx hk.symm
  .exact gx hk.symm
 .--lookup
  split at hk
  .rename_i hu;split at hk
   .rename_i hm;obtain⟨rfl,rfl⟩:=ad hk;exact(IN hop hu hm hI (fun z hz=>hρ _ z hz) (fun z hz=>hρ _ z hz) h).lh
   .exact gx hk.symm
  .exact gx hk.symm
 .--mapEntry
  split at hk
  .rename_i hu;split at hk
   .rename_i hm;obtain⟨rfl,rfl⟩:=ad hk;exact(Dy hop hu hm hI (fun z hz=>hρ _ z hz) (fun z hz=>hρ _ z hz) h).lh
   .exact gx hk.symm
  .exact gx hk.symm
 .--entryStore
  split at hk
  .split at hk
   .obtain ⟨rfl,rfl⟩:=ad hk;exact(Aa hop hI (fun z hz=>hρ _ z hz) (fun z hz=>hρ _ z hz) (fun z hz=>hρ _ z hz) h).lh
   .exact gx hk.symm
  .exact gx hk.symm
 .--call
  rename_i c;split at hk
  .rename_i hcal;exact(Ao hop hcal hk hI hE hn0 h).lh
  .rename_i f hcal;split at hk
   .split at hk
    .rename_i hf;obtain⟨rfl,rfl⟩:=ad hk
     have:∃p q,c.args.toList=[p,q]:=by
      generalize c.args.toList=l at h
      match l,h with|[p,q],_=>exact⟨p,q,rfl⟩|[],h=>simp[cP]at h|[p],h=>simp[cP]at h|p::q::r::t,h=>simp[cP]at h
     obtain⟨p,q,hpq⟩:=this;rw[hpq]at h;exact(Ql hop hcal (pp hpq) hf rfl hI (fun z hz=>hρ p z hz) (fun z hz=>hρ q z hz) h).lh
    .exact gx hk.symm
   .obtain ⟨rfl,rfl⟩:=ad hk;exact Hg hop hcal hok hI hfr hρ h
  .rename_i hcal;obtain⟨rfl,rfl⟩:=ad hk;exact Hg hop hcal hok hI hfr hρ h
  .exact gx hk.symm
 .exact gx hk.symm
end
def gE(P:Program)(di:Au)(nt:Nat)(all:Array Oper)(o:Oper):nZ:=
 {dst:=o.dst
  k:=if(match o.dst with|some d=>decide (d<nt)|none=>true)then(xh P di o.op).1 else .gx
  args:=(xh P di o.op).2
  guard:=match o.guard with|none=>none|some (j,b)=>some (((all[j]?).bind (·.dst)).getD 1000000000,b)}
def rY:C:=.oX 0 []
def RG(S:Nat->Prop)(w:World)(Kn:Nat->Prop)(φ:Nat->gN)(c:C)(v:Value):Prop:=c=rY\/RC S w Kn φ c v
theorem RG.mono{S S':Nat->Prop}{w w':World}{Kn Kn':Nat->Prop}{φ φ':Nat->gN}(hs:g_ S w S' w')(hr:Ren Kn φ Kn' φ'){x:C}{v:Value}(h:RG S w Kn φ x v):RG S' w' Kn' φ' x v:=h.imp id fun h=>h.mono hs hr
structure GU(S K:Nat->Prop)(w0:World)(Kn:Nat->Prop)(φ:Nat->gN)(gv:List Value)(nt:Nat)(s:St)(a:Act)(w:World):Prop where
 inv:Inv S K w0 Kn φ (aB s.heap) w
 dG:jO.ok S w Kn φ s.dG a.tmps
 size:a.tmps.size=nt
 defers:a.defers=[]
 gL:∀j,s.next<=j->¬Kn j
 gh:∀(i:Nat)(c:C)(v:Value),s.gh[i]?=some c->gv[i]?=some v->RG S w Kn φ c v
section
variable{P:Program}{S K:Nat->Prop}{w0 w:World}{Kn:Nat->Prop}{φ:Nat->gN}{gv:List Value}{nt:Nat}{a:Act}{call:Call}{di:Au}{s s':St}
theorem N0{a:Act}{d:Nat}{v:Value}(h:d<a.tmps.size)(t:Nat):(a.put (some d) v).tmps.getD t undef=if t=d then v else a.tmps.getD t undef:=by
 simp only[Act.put,bw,kE];by_cases e:d=t
 .subst e;simp[h]
 .have e2:¬t=d:=fun h=>e h.symm;simp[e,e2]
theorem vb{a:Act}(d:Option Nat)(v:Value):(a.put d v).tmps.size=a.tmps.size:=by cases d<;>simp[Act.put]
theorem rx{a:Act}(d:Option Nat)(v:Value):(a.put d v).defers=a.defers:=by cases d<;>simp[Act.put]
theorem lD(e:jO)(d:Option Nat)(v:TV)(t:Nat):cz (put e d v) t=if d=some t then some v else cz e t:=by
 cases d with
 |none=>simp[put]
 |some d=>
  simp only[put,cz];by_cases h:d=t
  .simp [h]
  .have h':(d==t)=false:=by simpa using h
   simp[h,h']
theorem zi(e:jO)(d:Option Nat)(t:Nat):cz (drop e d) t=if d=some t then some (.iR [])else cz e t:=lD e d (.iR []) t
theorem jO.KH{e:jO}{S':Nat->Prop}{w':World}{Kn':Nat->Prop}{φ':Nat->gN}(hE:jO.ok S w Kn φ e a.tmps)(hs:g_ S w S' w')(hr:Ren Kn φ Kn' φ'){d:Option Nat}{v:TV}{val:Value}
  (hd:∀x,d=some x->x<a.tmps.size) (hv:gr S' w' Kn' φ' v val):jO.ok S' w' Kn' φ' (Ev.put e d v) (a.put d val).tmps:=by
 intro t x hx;rw[lD]at hx;cases d with
 |none=>simp only[reduceCtorEq,if_false]at hx;exact(hE t x hx).mono hs hr
 |some d=>
  rw[N0 (hd d rfl)];by_cases h:t=d
  .subst h;simp only[if_true]at hx;rw[if_pos rfl,<-aa hx];exact hv
  .have h2:¬(some d=some t):=fun e=>h (aa e).symm;rw[if_neg h2]at hx;rw[if_neg h];exact(hE t x hx).mono hs hr
theorem jO.HI{e:jO}(hE:jO.ok S w Kn φ e a.tmps){d:Option Nat}:jO.ok S w Kn φ (Ev.drop e d) (a.put d undef).tmps:=by
 intro t x hx;rw[zi]at hx;have hu:gr S w Kn φ (.iR []) undef:=.iR rfl fun i x hi=>by simp at hi
 split at hx
 .rename_i h;subst h;obtain rfl:=aa hx;have:(a.put (some t) undef).tmps.getD t undef=undef:=by simp only[Act.put,bw,kE,if_true];split<;>rfl
  rw[this];exact hu
 .rename_i h;have:=hE t x hx;cases d with|none=>exact this|some d=>have h2:¬d=t:=fun e=>h (by rw[e]);simp only[Act.put,bw,kE,if_neg h2];rw[bw]at this;exact this
theorem p7{e:jO}(hE:jO.ok S w Kn φ e a.tmps)(hsz:a.tmps.size<1000000000){all:Array Oper}{o:Oper}{b:Bool}(h:kx e (gE P di nt all o).guard=some b):
  Region.wanted o (yielded all a.tmps)=b:=by
 unfold gE at h;simp only at h;unfold Region.wanted;cases hg:o.guard with
 |none=>rw[hg]at h;simpa[kx]using h
 |some p=>
  obtain⟨j,want⟩:=p;rw[hg]at h;simp only[kx]at h;split at h
  .rename_i x hx;have hr:=hE _ _ hx;obtain⟨hv,_⟩:=hr.lit;cases hd:(all[j]?).bind (·.dst)with
   |none=>rw[hd]at hv;simp only[Option.getD_none]at hv;rw[bw,Array.getElem?_eq_none (by omega)]at hv;simp[undef]at hv
   |some t=>
    rw[hd]at hv;simp only[fH]at hv
    have ht:a.tmps[t]?=some (.bool x):=by
     rw[bw]at hv;cases ht:a.tmps[t]?with
     |none=>rw[ht]at hv;simp[undef]at hv
     |some y=>rw[ht]at hv;simpa using hv
    obtain rfl:=aa h;simp only[yielded,hd,af,ht];cases x<;>cases want<;>rfl
  .rename_i hx;have hr:=hE _ _ hx;obtain rfl:=aa h;cases hd:(all[j]?).bind (·.dst)with
   |none=>simp only[yielded,hd,Option.bind_none];rfl
   |some t=>
    rw[hd]at hr;simp only[fH]at hr;generalize hv:a.tmps.getD t undef=v at hr;cases hr with
    |@iR _ aM hlen _=>
     rw[bw]at hv;simp only[yielded,hd,af];cases ht:a.tmps[t]?with
     |none=>rfl
     |some y=>rw[ht]at hv;simp only[fH]at hv;subst hv;rfl
  .simp at h
end
section
variable{H H':bF}
def il(H H':bF)(aA:List Nat):Prop:=∀i∈aA,aB H' i=aB H i
theorem il.left{a b:List Nat}(h:il H H' (a++b)):il H H' a:=fun i hi=>h i (aE _ hi)
theorem il.right{a b:List Nat}(h:il H H' (a++b)):il H H' b:=fun i hi=>h i (aG _ hi)
theorem ut:∀n,(∀c x aA,dY H n c=some (x,aA)->il H H' aA->dY H' n c=some (x,aA))/\
  (∀cs xs aA,fZ H n cs=some (xs,aA)->il H H' aA->fZ H' n cs=some (xs,aA)):=by
 have leaf:∀n c x aA,(match c with|.op _ _|.oX _ _=>False|_=>True)->dY H n c=some (x,aA)->il H H' aA->dY H' n c=some (x,aA):=by
  intro n c x aA hl h ha;cases c with
  |d y=>simpa only[dY]using h
  |fw sz id off len=>
   have:aB H' id=aB H id:=ha id (by
    simp only[dY]at h;split at h
    all_goals first
     |(split at h
       .obtain ⟨_,rfl⟩:=ad (aa h);simp
       .simp at h)
     |(split at h
       .split at h
        .obtain ⟨_,rfl⟩:=ad (aa h);simp
        .simp at h
       .simp at h)
     |simp at h)
   simp only[dY]at h|-;rw[this];exact h
  |ep id dj off=>
   have:aB H' id=aB H id:=ha id (by
    simp only[dY]at h;split at h
    all_goals first
     |(split at h
       .split at h
        .obtain ⟨_,rfl⟩:=ad (aa h);simp
        .simp at h
       .simp at h)
     |simp at h)
   simp only[dY]at h|-;rw[this];exact h
  |op id off=>exact hl.elim
  |oX f caps=>exact hl.elim
  |om id=>cases n<;>simp[dY]at h
 intro n;induction n with
 |zero=>
  refine⟨fun c x aA h ha=>?_,fun cs xs aA h ha=>?_⟩
  .cases c with|op id off=>simp[dY]at h|oX f caps=>simp[dY]at h|_=>exact leaf 0 _ x aA trivial h ha
  .cases cs with|nil=>simpa only[fZ]using h|cons c cs=>simp[fZ]at h
 |succ n ih=>
  refine⟨fun c x aA h ha=>?_,fun cs xs aA h ha=>?_⟩
  .cases c with
   |op id off=>
    simp only[dY]at h|-;split at h
    .rename_i ho;split at h
     .rename_i hle;obtain⟨rfl,rfl⟩:=ad (aa h);rw[ha id (by simp),ho];simp only[hle,if_true]
     .simp at h
    .rename_i ho;split at h
     .rename_i hv;split at h
      .rename_i hle;obtain⟨rfl,rfl⟩:=ad (aa h);rw[ha id (by simp),ho];simp only[ih.2 _ _ _ hv (fun i hi=>ha i (by simp[hi])),hle,if_true]
      .simp at h
     .simp at h
    .simp at h
   |oX f caps=>
    simp only[dY]at h|-;split at h
    .rename_i hv;obtain⟨rfl,rfl⟩:=ad (aa h);simp only[ih.2 _ _ _ hv ha]
    .simp at h
   |_=>exact leaf _ _ x aA trivial h ha
  .cases cs with
   |nil=>simpa only[fZ]using h
   |cons c cs=>
    simp only[fZ]at h|-;split at h
    .rename_i h1 h2;obtain⟨rfl,rfl⟩:=ad (aa h);simp only[ih.1 _ _ _ h1 ha.left,ih.2 _ _ _ h2 ha.right]
    .simp at h
theorem rj:∀cs xs aA,dT H cs=some (xs,aA)->il H H' aA->dT H' cs=some (xs,aA):=by
 intro cs;induction cs with
 |nil=>intro xs aA h _;simpa only[dT]using h
 |cons c cs ih=>
  intro xs aA h ha;simp only[dT]at h|-;split at h
  .rename_i h1 h2;obtain⟨rfl,rfl⟩:=ad (aa h);simp only[(ut 300).1 _ _ _ h1 ha.left,ih _ _ h2 ha.right]
  .simp at h
theorem rI{all:List Nat}(ha:il H H' all):∀(l:List Nat)(u:fC),(∀i∈l,i∈all)->dZ H all l=some u->dZ H' all l=some u:=by
 intro l;induction l with
 |nil=>intro u _ h;simpa only[dZ]using h
 |cons a l ih=>
  intro u hl h;simp only[dZ]at h|-;split at h
  .rename_i o u' ho hu
   have hob:kc H' all a=some o:=by
    unfold kc at ho|-;rw[ha a (hl a (by simp))];split at ho
    .exact ho
    .exact ho
    .exact ho
    .split at ho
     .rename_i hv;split at ho
      .rename_i hall;simp only[(ut 300).2 _ _ _ hv (fun i hi=>ha i (by simpa using bd.1 hall i hi)),hall,if_true];exact ho
      .simp at ho
     .simp at ho
    .simp at ho
    .simp at ho
    .exact ho
    .simp at ho
   simp only[hob,ih u' (fun i hi=>hl i (by simp[hi])) hu];exact h
  .simp at h
theorem yR{agg:Bool}{n:Nat}{p:C}{v:TV}{aA:List Nat}(h:ie agg n p H=some (v,aA))(ha:il H H' aA):ie agg n p H'=some (v,aA):=by
 unfold ie at h|-;split at h
 .exact h
 .rename_i id dj off
  have:aB H' id=aB H id:=ha id (by
   split at h
   all_goals first
    |(split at h
      .split at h
       .obtain ⟨_,rfl⟩:=ad (aa h);simp
       .simp at h
      .simp at h)
    |simp at h)
  simp only[this];exact h
 .rename_i id off
  have:aB H' id=aB H id:=ha id (by
   split at h
   all_goals first
    |(split at h
      .obtain ⟨_,rfl⟩:=ad (aa h);simp
      .simp at h)
    |simp at h)
  simp only[this];exact h
 .simp at h
theorem FB{id dj sz:Nat}{slots:List kY}{cs:List C}{u:fC}{aA:List Nat}(h:rK id dj sz slots cs H=some (u,aA))(ha:il H H' aA):rK id dj sz slots cs H'=some (u,aA):=by
 unfold rK at h|-;split at h
 .exact h
 .rename_i sz' id2 len
  have hid:id2∈aA:=by
   repeat' split at h
   all_goals first
    |(simp at h;done)
    |(obtain⟨_,h2⟩:=ad (aa h);rw[<-h2];simp)
  simp only[ha id2 hid];exact h
 .simp at h
theorem DR{agg:Bool}{n nxt n':Nat}{p:C}{v:TV}{u:fC}{aA:List Nat}(h:lE agg n p H nxt=some (v,u,aA,n'))(ha:il H H' aA):ie agg n p H'=none/\lE agg n p H' nxt=some (v,u,aA,n'):=by
 unfold lE at h;split at h
 case h_2=>simp at h
 rename_i id dj;split at h
 case h_2=>simp at h
 rename_i sz slots ho
 have hid:id∈aA:=by
  repeat' split at h
  all_goals first
   |(simp at h;done)
   |(obtain⟨_,_,h2,_⟩:=(by simpa using h:_/\_/\[id]=aA/\_);rw[<-h2];simp)
 have ho':aB H' id=some (.nst sz slots):=by rw[ha id hid];exact ho
 refine⟨by simp only[ie,ho'],?_⟩;simp only[lE,ho'];exact h
theorem CT{n:Nat}{p:C}{v:TV}{u:fC}{aA:List Nat}(h:mn n p v H=some (u,aA))(ha:il H H' aA):mn n p v H'=some (u,aA):=by
 unfold mn at h|-;split at h
 .simp at h
 .rename_i cs hcs;split at h
  .rename_i hlen;simp only[hlen,if_true];split at h
   .rename_i id dj off;split at h
    .rename_i sz aq ho;split at h
     .rename_i r ds ids1 hr hv;split at h
      .rename_i u1 hfz;split at h
       .rename_i hb;obtain⟨rfl,rfl⟩:=ad (aa h);have ha1:il H H' ids1:=fun i hi=>ha i (by simp[hi]);simp only[ha id (by simp),ho,hr,rj _ _ _ hv ha1,rI ha1 _ _ (fun i hi=>hi) hfz,hb.1,hb.2,and_self,if_true]
       .simp at h
      .simp at h
     .simp at h
    .rename_i sz slots ho;split at h
     .rename_i hc
      have hid:id∈aA/\∀i,cs=[.fw sz i 0 0]->True:=by
       refine⟨?_,fun _ _=>trivial⟩;unfold rK at h
       repeat' split at h
       all_goals first
        |(simp at h;done)
        |(obtain⟨_,h2⟩:=ad (aa h);rw[<-h2];simp)
      simp only[ha id hid.1,ho,if_pos hc];exact FB h ha
     .simp at h
    .simp at h
   .rename_i id off;split at h
    .rename_i cells ho;split at h
     .rename_i hb;obtain⟨rfl,rfl⟩:=ad (aa h);simp only[ha id (by simp),ho,hb,if_true]
     .simp at h
    .simp at h
   .simp at h
  .simp at h
theorem o7{sz:Nat}{x:C}{new:List (List D)}{aA:List Nat}(h:ji sz H x=some (new,aA))(ha:il H H' aA):ji sz H' x=some (new,aA):=by
 unfold ji at h|-;split at h
 .exact h
 .exact h
 .rename_i sz' id off len
  have:aB H' id=aB H id:=ha id (by
   split at h
   all_goals first
    |(split at h
      .obtain ⟨_,rfl⟩:=ad (aa h);simp
      .simp at h)
    |simp at h)
  simp only[this];exact h
 .simp at h
theorem GC{sz:Nat}{d x:C}{i:Int}{u:fC}{aA:List Nat}(h:mA sz d x H=some (i,u,aA))(ha:il H H' aA):mA sz d x H'=some (i,u,aA):=by
 unfold mA at h|-;split at h
 .rename_i new ids1 hr;obtain⟨_,_,rfl⟩:_/\_/\ids1=aA:=by simpa using h
  rw[o7 hr ha];exact h
 .rename_i new ids1 sz' id off len hr;split at h
  .rename_i szo aq ho;split at h
   .rename_i hb;obtain⟨_,_,rfl⟩:_/\_/\id::ids1=aA:=by simpa using h
    rw[o7 hr fun j hj=>ha j (aC _ hj)];simp only[ha id (by simp),ho,if_pos hb];exact h
   .simp at h
  .simp at h
 .simp at h
theorem Es{sz:Nat}{d x:C}{i:Int}{u:fC}{aA:List Nat}(h:pd sz d x H=some (i,u,aA))(ha:il H H' aA):pd sz d x H'=some (i,u,aA)/\mA sz d x H'=none:=by
 unfold pd at h|-;split at h
 case h_2=>simp at h
 rename_i sz' id off len sz2 id2 off2 len2
 have hids:aA=[id,id2]:=by
  repeat' split at h
  all_goals first
   |(simp at h;done)
   |(obtain⟨_,_,h2⟩:=(by simpa using h:_/\_/\[id,id2]=aA);exact h2.symm)
 subst hids;have a1:=ha id (by simp);have a2:=ha id2 (by simp);refine⟨by simp only[a1,a2];exact h,?_⟩
 have:∃szo aq cp,aB H' id=some (.cap szo aq cp):=by
  rw[a1];split at h
  .exact ⟨_,_,_,by assumption⟩
  .exact ⟨_,_,_,by assumption⟩
  .simp at h
 obtain⟨szo,aq,cp,ho⟩:=this;unfold mA;split
 .rename_i hd;simp at hd
 .rename_i hd;obtain⟨rfl,rfl,rfl,rfl⟩:=(by simpa using hd:_/\_/\_/\_)
  rw[ho]
 .rfl
theorem Cr{sz nxt n':Nat}{s x:C}{v:TV}{u:fC}{aA:List Nat}(h:oB sz s x H nxt=some (v,u,aA,n'))(ha:il H H' aA):oB sz s x H' nxt=some (v,u,aA,n'):=by
 unfold oB at h|-;split at h
 .simp at h
 .rename_i new ids1 hr;split at h
  .have e1:ids1=aA:=by
    split at h
    .split at h
     .obtain ⟨_,_,h3,_⟩:=(by simpa using h:_/\_/\ids1=aA/\_);exact h3
     .obtain ⟨_,_,h3,_⟩:=(by simpa using h:_/\_/\ids1=aA/\_);exact h3
    .simp at h
   subst e1;simp only[o7 hr ha];exact h
  .rename_i sz' id off len;split at h
   .rename_i szo aq ho;split at h
    .rename_i hb;have e1:id::ids1=aA:=by obtain⟨_,_,h3,_⟩:=(by simpa using h:_/\_/\id::ids1=aA/\_);exact h3
     subst e1;simp only[o7 hr (fun i hi=>ha i (by simp[hi])),ha id (by simp),ho];rw[if_pos hb];exact h
    .simp at h
   .simp at h
  .simp at h
theorem FI:∀n,(∀c t bt rd,eL H n c=some (t,bt,rd)->il H H' rd->eL H' n c=some (t,bt,rd))/\
  (∀cs ts bt rd,iI H n cs=some (ts,bt,rd)->il H H' rd->iI H' n cs=some (ts,bt,rd)):=by
 have leaf:∀n c t bt rd,(match c with|.op _ _=>False|_=>True)->eL H n c=some (t,bt,rd)->il H H' rd->eL H' n c=some (t,bt,rd):=by
  intro n c t bt rd hl h ha;cases c with
  |d y=>cases n<;>simpa only[eL]using h
  |fw sz id off len=>
   have hm:id∈rd:=by
    cases n<;>
    .simp only[eL]at h;split at h
     all_goals first
      |(split at h
        .split at h
         .obtain ⟨_,_,h3⟩:=(by simpa using h:_/\_/\[id]=rd);rw[<-h3];simp
         .simp at h
        .simp at h)
      |(split at h
        .obtain ⟨_,_,h3⟩:=(by simpa using h:_/\_/\[id]=rd);rw[<-h3];simp
        .simp at h)
      |simp at h
   have:aB H' id=aB H id:=ha id hm;cases n<;>
   .simp only[eL]at h|-;rw[this];exact h
  |ep id dj off=>cases n<;>simp[eL]at h
  |oX f caps=>cases n<;>simp[eL]at h
  |om id=>cases n<;>simp[eL]at h
  |op id off=>exact hl.elim
 intro n;induction n with
 |zero=>
  refine⟨fun c t bt rd h ha=>?_,fun cs ts bt rd h ha=>?_⟩
  .cases c with|op id off=>simp[eL]at h|_=>exact leaf 0 _ t bt rd trivial h ha
  .cases cs with|nil=>simpa only[iI]using h|cons c cs=>simp[iI]at h
 |succ n ih=>
  refine⟨fun c t bt rd h ha=>?_,fun cs ts bt rd h ha=>?_⟩
  .cases c with
   |op id off=>
    cases off with
    |succ off=>simp[eL]at h
    |zero=>
     simp only[eL]at h|-;split at h
     .rename_i ho;split at h
      .rename_i ts own' rd' hp;obtain⟨h1,h2,h3⟩:=(by simpa using h:T.pt ts=t/\id::own'=bt/\id::rd'=rd)
       subst h1 h2 h3;rw[ha id (by simp),ho];simp only[ih.2 _ _ _ _ hp (fun i hi=>ha i (by simp[hi]))]
      .simp at h
     .rename_i cells ho;obtain⟨h1,h2,h3⟩:=(by simpa using h:T.d (.pt cells)=t/\[]=bt/\[id]=rd)
      subst h1 h2 h3;rw[ha id (by simp),ho]
     .simp at h
   |_=>exact leaf _ _ t bt rd trivial h ha
  .cases cs with
   |nil=>simpa only[iI]using h
   |cons c cs=>
    simp only[iI]at h|-;split at h
    .rename_i t0 a i0 ts0 b j0 h1 h2;obtain⟨e1,e2,e3⟩:=(by simpa using h:t0::ts0=ts/\a++b=bt/\i0++j0=rd)
     subst e1 e2 e3;simp only[ih.1 _ _ _ _ h1 ha.left,ih.2 _ _ _ _ h2 ha.right]
    .simp at h
theorem zH:∀(tvs:List TV)(ms:List Bool)(as:List A)(aA:List Nat)(lent:List (C×List Nat×List Nat)),gD H tvs ms=some (as,aA,lent)->il H H' aA->il H H' (lent.flatMap (·.2.2))->
  gD H' tvs ms=some (as,aA,lent):=by
 intro tvs;induction tvs with
 |nil=>intro ms as aA lent h _ _;simpa only[gD]using h
 |cons t tvs ih=>
  intro ms as aA lent h ha hb;simp only[gD]at h|-;split at h
  .simp at h
  .rename_i as1 ids1 lent1 hrec;split at h
   .rename_i hm;split at h
    .split at h
     .rename_i t0 bt rd hp;obtain⟨e1,e2,e3⟩:=(by simpa using h:A.mt t0::as1=as/\ids1=aA/\(_,bt,rd)::lent1=lent)
      subst e1 e2 e3;simp only[bi]at hb;simp only[ih _ _ _ _ hrec ha hb.right,hm,if_true,(FI 300).1 _ _ _ _ hp hb.left]
     .simp at h
    .simp at h
   .rename_i hm;split at h
    .split at h
     .rename_i x i hv;obtain⟨e1,e2,e3⟩:=(by simpa using h:A.d x::as1=as/\i++ids1=aA/\lent1=lent)
      subst e1 e2 e3;simp only[ih _ _ _ _ hrec ha.right hb,hm,if_false,aT,(ut 300).1 _ _ _ hv ha.left]
     .simp at h
    .split at h
     .rename_i xs i hv;obtain⟨e1,e2,e3⟩:=(by simpa using h:A.agg xs::as1=as/\i++ids1=aA/\lent1=lent)
      subst e1 e2 e3;simp only[ih _ _ _ _ hrec ha.right hb,hm,if_false,aT,rj _ _ _ hv ha.left]
     .simp at h
    .simp at h
theorem Ou:∀(tvs:List TV)(ms:List Bool)(as:List A)(aA:List Nat)(lent:List (C×List Nat×List Nat)),gD H tvs ms=some (as,aA,lent)->
  ∀c bt rd,(c,bt,rd)∈lent->∃t,eL H 300 c=some (t,bt,rd):=by
 intro tvs;induction tvs with
 |nil=>
  intro ms as aA lent h c bt rd hm;obtain⟨_,_,rfl⟩:[]=as/\[]=aA/\[]=lent:=by simpa[gD]using h
  simp at hm
 |cons t tvs ih=>
  intro ms as aA lent h c bt rd hm;simp only[gD]at h;split at h
  .simp at h
  .rename_i as1 ids1 lent1 hrec;split at h
   .split at h
    .split at h
     .rename_i c0 _ t0 own0 rd0 hp;obtain⟨_,_,e3⟩:=(by simpa using h:A.mt t0::as1=as/\ids1=aA/\(_,own0,rd0)::lent1=lent)
      subst e3;rcases aN.1 hm with hm|hm
      .simp only[de]at hm;obtain⟨g1,g2,g3⟩:=hm;rw[g1,g2,g3];exact⟨_,hp⟩
      .exact ih _ _ _ _ hrec c bt rd hm
     .simp at h
    .simp at h
   .split at h
    .split at h
     .obtain ⟨_,_,e3⟩:=(by simpa using h:_/\_/\lent1=lent)
      subst e3;exact ih _ _ _ _ hrec c bt rd hm
     .simp at h
    .split at h
     .obtain ⟨_,_,e3⟩:=(by simpa using h:_/\_/\lent1=lent)
      subst e3;exact ih _ _ _ _ hrec c bt rd hm
     .simp at h
    .simp at h
theorem CH:∀(l:List (C×List Nat×List Nat)),(∀c bt rd,(c,bt,rd)∈l->∃t,eL H 300 c=some (t,bt,rd))->il H H' (l.flatMap (·.2.2))->eP H' l=eP H l:=by
 intro l;induction l with
 |nil=>intro _ _;rfl
 |cons p l ih=>
  obtain⟨c,bt,rd⟩:=p;intro hp ha;simp only[bi]at ha;have h1:=ih (fun c bt rd hm=>hp c bt rd (by simp[hm])) ha.right;cases c with
  |fw sz id off len=>
   obtain⟨t,ht⟩:=hp (.fw sz id off len) bt rd (by simp)
   have hm:id∈rd:=by
    simp only[eL]at ht;split at ht
    all_goals first
     |(split at ht
       .split at ht
        .obtain ⟨_,_,h3⟩:=(by simpa using ht:_/\_/\[id]=rd);rw[<-h3];simp
        .simp at ht
       .simp at ht)
     |(split at ht
       .obtain ⟨_,_,h3⟩:=(by simpa using ht:_/\_/\[id]=rd);rw[<-h3];simp
       .simp at ht)
     |simp at ht
   simp only[eP,h1,ha.left id hm]
  |_=>simp only[eP,h1]
theorem GM{call:Call}{ro:Bool}{kg:List Bool}{f:Option TV}{vs:List (Option TV)}{nxt n':Nat}{v:TV}{u:fC}{aA:List Nat}(h:uO call ro kg f vs H nxt=some (v,u,aA,n'))(ha:il H H' aA):
  uO call ro kg f vs H' nxt=some (v,u,aA,n'):=by
 unfold uO at h|-;split at h
 .rename_i f caps vs hf hvs;split at h
  .simp at h
  .rename_i as ids1 lent hargs;split at h
   .rename_i hcond;split at h
    .simp at h
    .rename_i rs outs hcall;by_cases hro:ro=true
     .rw [if_pos hro]at h;split at h
      .rename_i hc;have hle:lent=[]:=by simpa using hc.2.1
       subst hle;have e1:ids1=aA:=by obtain⟨_,_,h3,_⟩:=(by simpa using h:_/\_/\ids1=aA/\_);exact h3
       subst e1;simp only[zH _ _ _ _ _ hargs ha (fun i hi=>by simp at hi)];rw[if_pos ⟨rfl,hcond.2⟩];simp only[hcall,hro,if_true];rw[if_pos hc];exact h
      .simp at h
     .rw [if_neg hro]at h;split at h
      .simp at h
      .rename_i fu hfz;split at h
       .simp at h
       .rename_i bu m hbk;have e1:ids1++lent.flatMap (·.2.2)=aA:=by obtain⟨_,_,h3,_⟩:=(by simpa using h:_/\_/\ids1++lent.flatMap (·.2.2)=aA/\_);exact h3
        subst e1;simp only[zH _ _ _ _ _ hargs ha.left ha.right];rw[if_pos (by rw[CH lent (Ou _ _ _ _ _ hargs) ha.right];exact hcond)];simp only[hcall];rw[if_neg hro];simp only[rI ha.left _ _ (fun i hi=>hi) hfz,hbk];exact h
   .simp at h
 .simp at h
theorem wO{call:Call}{sz len:Nat}{zero:List Value}{places:List Nat}{vs:List (Option TV)}{nxt n':Nat}{v:TV}{u:fC}{aA:List Nat}
  (h:cP call (.buildSlice sz len zero places) vs H nxt=some (v,u,aA,n')) (ha:il H H' aA):cP call (.buildSlice sz len zero places) vs H' nxt=some (v,u,aA,n'):=by
 have key:∀G:bF,cP call (.buildSlice sz len zero places) vs G nxt=(match eJ vs with
  |some xs=>
   (match nc (fx zero) ((places.map fun i=>(i*sz,sz)).zip xs)with
   |some cs=>
    (match dT G cs with
    |some (ds,aA)=>(match dZ G aA aA with|some u=>some (TV.c (.fw sz nxt 0 len),(nxt,some (Ob.aM sz (mB sz len ds)))::u,aA,nxt+1)|none=>none)
    |none=>none)
   |none=>none)
  |none=>none):=fun _=>rfl
 rw[key]at h|-;split at h
 .rename_i xs hxs;split at h
  .rename_i cs hcs;split at h
   .rename_i ds ids1 hv;split at h
    .rename_i u1 hfz;obtain⟨_,_,h3,_⟩:=(by simpa using h:_/\_/\ids1=aA/\_)
     subst h3;simp only[rj _ _ _ hv ha,rI ha _ _ (fun i hi=>hi) hfz];exact h
    .simp at h
   .simp at h
  .simp at h
 .simp at h
theorem BX{ka va ok:Bool}{ks:List Kd}{z:List Value}{m:C}{k v:TV}{aA:List Nat}(h:iA ka ks va z ok m k H=some (v,aA))(ha:il H H' aA):iA ka ks va z ok m k H'=some (v,aA):=by
 unfold iA at h|-;split at h
 .exact h
 .rename_i id key hkey
  have hid:id∈aA:=by
   repeat' split at h
   all_goals first
    |(simp at h;done)
    |(obtain⟨_,h2⟩:=ad (aa h);rw[<-h2];simp)
  simp only[ha id hid];exact h
 .simp at h
theorem Ef{ka va:Bool}{ks:List Kd}{z:List Value}{m:C}{k v:TV}{u:fC}{aA:List Nat}(h:ng ka ks va z m k H=some (v,u,aA))(ha:il H H' aA):ng ka ks va z m k H'=some (v,u,aA):=by
 unfold ng at h|-;split at h
 .rename_i id key hkey
  have hid:id∈aA:=by
   repeat' split at h
   all_goals first
    |(simp at h;done)
    |(obtain⟨_,_,h2⟩:=(by simpa using h:_/\_/\[id]=aA);rw[<-h2];simp)
  simp only[ha id hid];exact h
 .simp at h
theorem Ca{va:Bool}{n:Nat}{m:C}{s:Option TV}{x:TV}{u:fC}{aA:List Nat}(h:nh va n m s x H=some (u,aA))(ha:il H H' aA):nh va n m s x H'=some (u,aA):=by
 unfold nh at h|-;split at h
 .rename_i id s1 ds eM hds
  have hid:id∈aA:=by
   repeat' split at h
   all_goals first
    |(simp at h;done)
    |(obtain⟨_,h2⟩:=(by simpa using h:_/\[id]=aA);rw[<-h2];simp)
  simp only[ha id hid];exact h
 .simp at h
theorem yy{str:Bool}{sz:Nat}{x y:C}{l m:Int}{aA:List Nat}(h:nU str sz x l m H=some (y,aA))(ha:il H H' aA):nU str sz x l m H'=some (y,aA):=by
 unfold nU at h|-;split at h
 .rename_i sz' id off len
  have hid:id∈aA:=by
   repeat' split at h
   all_goals first
    |(simp at h;done)
    |(obtain⟨_,h2⟩:=(by simpa using h:_/\[id]=aA);rw[<-h2];simp)
  simp only[ha id hid];exact h
 .simp at h
theorem Ew{z:List Value}{x:C}{u:fC}{aA:List Nat}(h:pf z x H=some (u,aA))(ha:il H H' aA):pf z x H'=some (u,aA):=by
 unfold pf at h|-;split at h
 .rename_i sz id off len
  have hid:id∈aA:=by
   repeat' split at h
   all_goals first
    |(simp at h;done)
    |(obtain⟨_,h2⟩:=(by simpa using h:_/\[id]=aA);rw[<-h2];simp)
  simp only[ha id hid];exact h
 .simp at h
def GY:Ev.K->Bool
 |.uf|.slice _ _ _ _|.clear _|.MT|.SO _|.R9|.load _ _|.store _|.buildSlice _ _ _ _|.append _|.copy _|.call _ _|.lookup _ _ _ _ _|.mapEntry _ _ _ _|.entryStore _ _=>true
 |_=>false
theorem Js{call:Call}{k:Ev.K}{vs:List (Option TV)}{nxt:Nat}(hk:GY k=false):cP call k vs H nxt=cP call k vs H' nxt:=by
 cases k<;>first
  |(simp[GY]at hk;done)
  |(unfold cP;split<;>first|rfl|simp_all)
theorem Jt{call:Call}{k:Ev.K}{vs:List (Option TV)}{nxt n':Nat}{v:TV}{u:fC}{aA:List Nat}(h:cP call k vs H nxt=some (v,u,aA,n'))(ha:il H H' aA):
  cP call k vs H' nxt=some (v,u,aA,n'):=by
 cases k with
 |load agg n=>
  match vs,h with
  |[some (.c p)],h=>
   change (match ie agg n p H with|some (v,aA)=>some (v,[],aA,nxt)|none=>none)=_ at h;show(match ie agg n p H' with|some (v,aA)=>some (v,[],aA,nxt)|none=>none)=_;split at h
   .rename_i hl;obtain⟨_,_,h3,_⟩:=(by simpa using h:_/\_/\_=aA/\_)
    subst h3;rw[yR hl ha];exact h
   .simp at h
 |uf=>
  match vs,h with
  |[some (.c p)],h=>
   change (match ie false 1 p H with|some (v,aA)=>some (v,[],aA,nxt)|none=>lE false 1 p H nxt)=_ at h;show(match ie false 1 p H' with|some (v,aA)=>some (v,[],aA,nxt)|none=>lE false 1 p H' nxt)=_;split at h
   .rename_i hl;obtain⟨_,_,h3,_⟩:=(by simpa using h:_/\_/\_=aA/\_)
    subst h3;rw[yR hl ha];exact h
   .obtain ⟨h1,h2⟩:=DR h ha;rw[h1];exact h2
 |store n=>
  match vs,h with
  |[some (.c p),some x],h=>
   change (match mn n p x H with|some (u,aA)=>some (TV.iR [],u,aA,nxt)|none=>none)=_ at h;show(match mn n p x H' with|some (u,aA)=>some (TV.iR [],u,aA,nxt)|none=>none)=_;split at h
   .rename_i hl;obtain⟨_,_,h3,_⟩:=(by simpa using h:_/\_/\_=aA/\_)
    subst h3;rw[CT hl ha];exact h
   .simp at h
 |buildSlice sz len zero places=>exact wO h ha
 |clear z=>
  match vs,h with
  |[some (.c d)],h=>
   change (match pf z d H with|some (u,aA)=>some (TV.iR [],u,aA,nxt)|none=>none)=_ at h;show(match pf z d H' with|some (u,aA)=>some (TV.iR [],u,aA,nxt)|none=>none)=_;split at h
   .rename_i hl;obtain⟨_,_,h3,_⟩:=(by simpa using h:_/\_/\_=aA/\_)
    subst h3;rw[Ew hl ha];exact h
   .simp at h
 |slice str sz lo hi=>
  have ez:hi=false->cP call (.slice str sz lo hi) vs H nxt=cP call (.slice str sz lo hi) vs H' nxt:=by
   intro hlh
   cases lo<;>cases hi<;>first
    |(simp at hlh;done)
    |(match vs with
     |[]=>rfl
     |none::_=>rfl
     |some (.agg _)::_=>rfl
     |some (.iR _)::_=>rfl
     |some (.c _)::[]=>rfl
     |some (.c _)::_::[]=>rfl
     |some (.c _)::_::_::_=>rfl)
  cases hi with
  |false=>rw[<-ez rfl];exact h
  |true=>
   cases lo with
   |false=>
    match vs,h with
    |[some (.c x),m],h=>
     change (match cD m with
      |some m=>(match fU str sz x none (some m)with
       |some y=>some (TV.c y,([]:fC),([]:List Nat),nxt)
       |none=>(match nU str sz x 0 m H with|some (y,aA)=>some (TV.c y,([]:fC),aA,nxt)|none=>none))
      |none=>none)=_ at h
     show(match cD m with
      |some m=>(match fU str sz x none (some m)with
       |some y=>some (TV.c y,([]:fC),([]:List Nat),nxt)
       |none=>(match nU str sz x 0 m H' with|some (y,aA)=>some (TV.c y,([]:fC),aA,nxt)|none=>none))
      |none=>none)=_
     split at h
     .split at h
      .exact h
      .split at h
       .rename_i hl;obtain⟨_,_,h3,_⟩:=(by simpa using h:_/\_/\_=aA/\_)
        subst h3;rw[yy hl ha];exact h
       .simp at h
     .simp at h
   |true=>
    match vs,h with
    |[some (.c x),l,m],h=>
     change (match cD l,cD m with
      |some l,some m=>(match fU str sz x (some l) (some m)with
       |some y=>some (TV.c y,([]:fC),([]:List Nat),nxt)
       |none=>(match nU str sz x l m H with|some (y,aA)=>some (TV.c y,([]:fC),aA,nxt)|none=>none))
      |_,_=>none)=_ at h
     show(match cD l,cD m with
      |some l,some m=>(match fU str sz x (some l) (some m)with
       |some y=>some (TV.c y,([]:fC),([]:List Nat),nxt)
       |none=>(match nU str sz x l m H' with|some (y,aA)=>some (TV.c y,([]:fC),aA,nxt)|none=>none))
      |_,_=>none)=_
     split at h
     .split at h
      .exact h
      .split at h
       .rename_i hl;obtain⟨_,_,h3,_⟩:=(by simpa using h:_/\_/\_=aA/\_)
        subst h3;rw[yy hl ha];exact h
       .simp at h
     .simp at h
 |append sz=>match vs,h with|[some (.c s),some (.c x)],h=>exact Cr (s:=s) (x:=x) h ha
 |copy sz=>
  match vs,h with
  |[some (.c d),some (.c x)],h=>
   change (match mA sz d x H with|some (i,u,aA)=>some (lv (.int .i64 i),u,aA,nxt)|none=>(match pd sz d x H with|some (i,u,aA)=>some (lv (.int .i64 i),u,aA,nxt)|none=>none))=_ at h;show(match mA sz d x H' with|some (i,u,aA)=>some (lv (.int .i64 i),u,aA,nxt)|none=>(match pd sz d x H' with|some (i,u,aA)=>some (lv (.int .i64 i),u,aA,nxt)|none=>none))=_;split at h
   .rename_i hl;obtain⟨_,_,h3,_⟩:=(by simpa using h:_/\_/\_=aA/\_)
    subst h3;rw[GC hl ha];exact h
   .split at h
    .rename_i hl;obtain⟨_,_,h3,_⟩:=(by simpa using h:_/\_/\_=aA/\_)
     subst h3;obtain⟨e1,e2⟩:=Es hl ha;rw[e2,e1];exact h
    .simp at h
 |MT=>
  match vs,h with
  |[some (.c x)],h=>
   change (match zo x H with|some (n,aA)=>some (lv (.int .i64 n),([]:fC),aA,nxt)|none=>none)=_ at h;show(match zo x H' with|some (n,aA)=>some (lv (.int .i64 n),([]:fC),aA,nxt)|none=>none)=_;split at h
   .rename_i m ids1 hl;obtain⟨_,_,h3,_⟩:=(by simpa using h:_/\_/\_=aA/\_)
    subst h3
    have:zo x H'=some (m,ids1):=by
     unfold zo at hl|-;split at hl
     .rename_i id off len
      have hid:id∈ids1:=by
       repeat' split at hl
       all_goals first
        |(simp at hl;done)
        |(obtain⟨_,h2⟩:=(by simpa using hl:_/\[id]=ids1);rw[<-h2];simp)
      simp only[ha id hid];exact hl
     .simp at hl
    rw[this];exact h
   .simp at h
 |R9=>
  match vs,h with
  |[some (.c x),some (.c y)],h=>
   change (match zn x y H with|some aA=>some (lv (.bool false),([]:fC),aA,nxt)|none=>none)=_ at h;show(match zn x y H' with|some aA=>some (lv (.bool false),([]:fC),aA,nxt)|none=>none)=_;split at h
   .rename_i ids1 hl;obtain⟨_,_,h3,_⟩:=(by simpa using h:_/\_/\_=aA/\_)
    subst h3
    have:zn x y H'=some ids1:=by
     unfold zn at hl|-;split at hl
     .rename_i a o1 l1 sz2 b o2 l2
      have hid:ids1=[a,b]:=by
       repeat' split at hl
       all_goals first
        |(simp at hl;done)
        |(exact(aa hl).symm)
      subst hid;simp only[ha a (by simp),ha b (by simp)];exact hl
     .simp at hl
    rw[this];exact h
   .simp at h
 |SO z=>
  match vs,h with
  |[some (.c x),some (.c (.d (.lit (.int k1 k))))],h=>
   change Bb z x k H nxt=_ at h;show Bb z x k H' nxt=_;unfold Bb at h|-;split at h
   .rename_i sz' id off len
    have hid:id∈aA:=by
     repeat' split at h
     all_goals first
      |(simp at h;done)
      |(obtain⟨_,_,h2,_⟩:=(by simpa using h:_/\_/\[id]=aA/\_);rw[<-h2];simp)
    simp only[ha id hid];exact h
   .simp at h
 |call ro kg=>match vs,h with|f::vs,h=>exact GM (f:=f) (vs:=vs) h ha
 |lookup ka ks va z ok=>
  match vs,h with
  |[some (.c m),some k],h=>
   change (match iA ka ks va z ok m k H with|some (v,aA)=>some (v,([]:fC),aA,nxt)|none=>none)=_ at h;show(match iA ka ks va z ok m k H' with|some (v,aA)=>some (v,([]:fC),aA,nxt)|none=>none)=_;split at h
   .rename_i hl;obtain⟨_,_,h3,_⟩:=(by simpa using h:_/\_/\_=aA/\_)
    subst h3;rw[BX hl ha];exact h
   .simp at h
 |mapEntry ka ks va z=>
  match vs,h with
  |[some (.c m),some k],h=>
   change (match ng ka ks va z m k H with|some (v,u,aA)=>some (v,u,aA,nxt)|none=>none)=_ at h;show(match ng ka ks va z m k H' with|some (v,u,aA)=>some (v,u,aA,nxt)|none=>none)=_;split at h
   .rename_i hl;obtain⟨_,_,h3,_⟩:=(by simpa using h:_/\_/\_=aA/\_)
    subst h3;rw[Ef hl ha];exact h
   .simp at h
 |entryStore va n=>
  match vs,h with
  |[some (.c m),s,some x],h=>
   change (match nh va n m s x H with|some (u,aA)=>some (TV.iR [],u,aA,nxt)|none=>none)=_ at h;show(match nh va n m s x H' with|some (u,aA)=>some (TV.iR [],u,aA,nxt)|none=>none)=_;split at h
   .rename_i hl;obtain⟨_,_,h3,_⟩:=(by simpa using h:_/\_/\_=aA/\_)
    subst h3;rw[Ca hl ha];exact h
   .simp at h
 |_=>rw[Js (H:=H') (H':=H) rfl];exact h
end
end Go.Ev
