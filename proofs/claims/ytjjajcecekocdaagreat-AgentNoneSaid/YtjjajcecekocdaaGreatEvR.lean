/- Calls: what a callee's answer means, and that a caller may use it. Conditions: the relation of XEvC. -/
import Derived.Test.YtjjajcecekocdaaGreatEvLa
open Array renaming getD_eq_getD_getElem?->bC,getElem?_append_left->bM,getElem?_setIfInBounds->kq,getElem?_toList->aW,length_toList->ei,range->js,size_append->eD
open Bool renaming and_eq_true->ah,false_eq_true->aE,not_false->lh
open Go renaming Call->kO
open List renaming all_cons->fJ,all_eq_true->aV,append_assoc->aS,cons_append->aO,flatMap_cons->br,getElem?_append_left->bg,getElem?_append_right->bl,getElem?_cons_succ->bR,getElem?_cons_zero->bz,getElem?_eq_getElem->az,getElem?_eq_some_iff->aj,getElem?_map->aL,getElem?_toArray->bc,getElem_mem->lB,length_append->bm,length_map->aR,map_cons->ap,map_nil->aN,map_toArray->cj,mem_append->ak,mem_append_left->aG,mem_append_right->aD,mem_cons->aJ,mem_cons_of_mem->aC,mem_flatMap->jS,mem_flatten->ez,mem_map->eh,mem_of_getElem?->bd,mem_singleton->aq,nodup_append->dj,nodup_cons->hP,range->eJ,singleton_append->aT
open List.cons renaming injEq->dK
open Nat renaming add_zero->cY,le_refl->am,le_succ->a_,le_trans->e9,lt_of_lt_of_le->dY,lt_or_ge->gQ,lt_succ_self->aQ,mul_le_mul->lf,mul_one->ld,succ_pos->cQ
open Option renaming bind_some->gK,getD_some->cm,isSome_iff_exists->fH,map_eq_some_iff->aM,map_none->fL,map_some->bn
open Option.some renaming inj->aa,injEq->bS
open Prod.mk renaming inj->ad,injEq->c9
namespace Go.Ev
def RA(S:Nat->Prop)(w:World):A->Value->List Nat->Prop
 |.d x,v,fp=>RD S w x v/\fp=[]
 |.agg xs,v,fp=>∃aF,v=.agg aF/\xs.length=aF.size/\(∀(i:Nat)(x:D),xs[i]?=some x->RD S w x (aF.getD i undef))/\fp=[]
 |.mt t,v,fp=>RT S w t v fp
def J5(S:Nat->Prop)(w:World):List A->List Value->List Nat->Prop
 |[],[],fp=>fp=[]
 |a::as,v::vs,fp=>∃f1 f2,fp=f1++f2/\RA S w a v f1/\J5 S w as vs f2
 |_,_,_=>False
def RR(S:Nat->Prop)(w:World):R->Value->List Nat->Prop
 |.c t,v,fp=>RT S w t v fp
 |.agg ts,v,fp=>∃(aF:Array Value)(fps:List (List Nat)),v=.agg aF/\ts.length=aF.size/\fps.length=ts.length/\fps.flatten=fp/\∀(i:Nat)(t:T)(f:List Nat),ts[i]?=some t->fps[i]?=some f->RT S w t (aF.getD i undef) f
def Dl(S:Nat->Prop)(w:World):List R->List Value->List Nat->Prop
 |[],[],fp=>fp=[]
 |r::rs,v::vs,fp=>∃f1 f2,fp=f1++f2/\RR S w r v f1/\Dl S w rs vs f2
 |_,_,_=>False
def JY(S:Nat->Prop)(w:World):List T->List Value->List Nat->Prop
 |[],[],fp=>fp=[]
 |t::ts,v::vs,fp=>∃f1 f2,fp=f1++f2/\((t=.j6/\f1=[])\/RT S w t v f1)/\JY S w ts vs f2
 |_,_,_=>False
def mR:List A->List Value->List Value
 |.mt _::as,v::vs=>v::mR as vs
 |_::as,_::vs=>mR as vs
 |_,_=>[]
def x9:List Value->Value
 |[v]=>v
 |vs=>.tuple vs.toArray
def N6(P:Program)(f:FuncId)(args:Array Value)(w:World)(R:Value->World->Prop):Prop:=
 (∃g as,(callFunc f args).run P w=.ok (.enter g as) w/\Calls P g as w fun e w'=>∃v,e=.returned v/\R v w')\/
 (∃v,(callFunc f args).run P w=.ok (.value v) w/\R v w)
def Left(S:Nat->Prop)(w:World)(fp:List Nat)(rs:List R)(outs:List T)(lent:List Value)(v:Value)(w':World):Prop:=
 ∃(S':Nat->Prop)(ki:List Value)(fp1 fp2:List Nat),v=x9 ki/\fX S w S' w'/\(∀b,S' b->S b\/b∈fp\/w.heap.size<=b)/\(∀b,S' b->b<w'.heap.size)/\
  Dl S' w' rs ki fp1/\JY S' w' outs lent fp2/\(fp1++fp2).Nodup/\(∀b∈fp1++fp2,¬S' b/\(b∈fp\/w.heap.size<=b))/\FS (fun b=>b<w.heap.size/\b∉fp) w w'
def xm(P:Program)(f:FuncId)(as:List A)(rs:List R)(outs:List T):Prop:=
 ∀(S:Nat->Prop)(w:World)(vs:List Value)(fp:List Nat),(∀b,S b->b<w.heap.size)->J5 S w as vs fp->fp.Nodup->(∀b∈fp,¬S b)->Bx S w->
  N6 P f vs.toArray w (Left S w fp rs outs (mR as vs))
def kD(P:Program)(call:Call):Prop:=∀f as rs outs,call f as=some (rs,outs)->xm P f as rs outs
theorem J5.zO{S S':Nat->Prop}{w:World}(hs:fX S w S' w){as:List A}:∀{vs:List Value}{fp:List Nat},J5 S w as vs fp->J5 S' w as vs fp:=by
 induction as with
 |nil=>intro vs fp h;cases vs<;>exact h
 |cons x as ih=>
  intro vs fp h;cases vs with
  |nil=>exact h
  |cons v vs=>obtain⟨f1,f2,h1,h2,h3⟩:=h;refine⟨f1,f2,h1,?_,ih h3⟩;cases x with|d y=>exact⟨h2.1.mono hs,h2.2⟩|agg xs=>obtain⟨aF,q1,q2,q3,q4⟩:=h2;exact⟨aF,q1,q2,fun i x hi=>(q3 i x hi).mono hs,q4⟩|mt t=>exact RT.mono hs h2 fun _ _=>rfl
section
variable{P:Program}{S K:Nat->Prop}{w0 w:World}{Kn:Nat->Prop}{φ:Nat->gi}{H:bh}{e:hZ}{ρ:Operand->Value}{o:Oper}{call:Call}
 {nxt n':Nat} {v:TV} {u:eg} {au:List Nat}
inductive EV(Kn:Nat->Prop)(φ:Nat->gi)(S:Nat->Prop)(w:World):List (C×List Nat×List Nat)->List Value->Prop
 |nil:EV Kn φ S w [] []
 |cons {c:C} {bi rd:List Nat} {l:List (C×List Nat×List Nat)} {v:Value} {vs:List Value} (h:RC S w Kn φ c v) (hl:EV Kn φ S w l vs):EV Kn φ S w ((c,bi,rd)::l) (v::vs)
theorem EQ{H:bh}(hI:Inv S K w0 Kn φ (ao H) w):∀(tvs:List TV)(ms:List Bool)(as:List A)(au:List Nat)(lent:List (C×List Nat×List Nat))(vs:List Value),
  ge H tvs ms=some (as,au,lent)->tvs.length=vs.length->(∀(i:Nat)(t:TV)(v:Value),tvs[i]?=some t->vs[i]?=some v->e_ S w Kn φ t v)->
  J5 (SB S w φ (ao H) au) w as vs ((lent.flatMap (·.2.1)).flatMap (gJ w φ (ao H)))/\(∀i∈lent.flatMap (·.2.1),∃o,ao H i=some o/\cn o=true)/\EV Kn φ S w lent (mR as vs):=by
 intro tvs;induction tvs with
 |nil=>
  intro ms as au lent vs h hl hr;obtain⟨rfl,rfl,rfl⟩:[]=as/\[]=au/\[]=lent:=by simpa[ge]using h
  obtain rfl:vs=[]:=List.length_eq_zero_iff.1 hl.symm;exact⟨rfl,fun i hi=>by simp at hi,.nil⟩
 |cons t tvs ih=>
  intro ms as au lent vs h hl hr;cases vs with
  |nil=>simp at hl
  |cons v vs=>
   have h0:=hr 0 t v rfl rfl;simp only[ge]at h;split at h
   .simp at h
   .rename_i as1 ids1 lent1 hrec;obtain⟨i1,i2,i3⟩:=ih ms.tail as1 ids1 lent1 vs hrec (by simpa using hl) (fun i t v hi hv=>hr (i+1) t v (by simpa using hi) (by simpa using hv));split at h
    .split at h
     .rename_i c;split at h
      .rename_i t0 bi rd hp;obtain⟨rfl,rfl,rfl⟩:A.mt t0::as1=as/\ids1=au/\(c,bi,rd)::lent1=lent:=by simpa using h
       cases h0 with
       |c h0=>
        obtain⟨p1,p2⟩:=(rJ hI 300).1 c t0 bi rd v hp h0;refine⟨⟨bi.flatMap (gJ w φ (ao H)),_,by simp,p1.mono (SB.sH _) (fun _ _=>rfl),i1⟩,fun i hi=>?_,.cons h0 i3⟩;rcases ak.1 (by simpa using hi:i∈bi++lent1.flatMap (·.2.1))with hi|hi
        .exact p2 i hi
        .exact i2 i hi
      .simp at h
     .simp at h
    .split at h
     .rename_i c;split at h
      .rename_i x i hp;obtain⟨rfl,rfl,rfl⟩:A.d x::as1=as/\i++ids1=au/\lent1=lent:=by simpa using h
       cases h0 with|c h0=>have p1:=(uw hI 300).1 c x i v hp h0;refine⟨⟨[],_,rfl,⟨p1.mono (SB.zO _ _ fun j hj=>by simp[hj]),rfl⟩,?_⟩,i2,i3⟩;exact i1.zO (SB.zO _ _ fun j hj=>by simp[hj])
      .simp at h
     .rename_i cs;split at h
      .rename_i xs i hp;obtain⟨rfl,rfl,rfl⟩:A.agg xs::as1=as/\i++ids1=au/\lent1=lent:=by simpa using h
       cases h0 with
       |@agg _ aF hlen h0=>
        obtain⟨q1,q2⟩:=oR hI cs xs i hp (fun i=>aF[i]?) (fun i c hi=>by
         have hlt:i<aF.size:=by rw[<-hlen];exact(aj.1 hi).1
         exact⟨aF.getD i undef,by simp[hlt],h0 i c hi⟩)
        refine⟨⟨[],_,rfl,⟨aF,rfl,q1.trans hlen,fun j x hj=>?_,rfl⟩,?_⟩,i2,i3⟩
        .obtain ⟨y,hy,hd⟩:=q2 j x hj;have hy':aF[j]?=some y:=hy;have e1:aF.getD j undef=y:=by simp[hy']
         rw[e1];exact hd.mono (SB.zO _ _ fun k hk=>by simp[hk])
        .exact i1.zO (SB.zO _ _ fun j hj=>by simp[hj])
      .simp at h
     .simp at h
end
section
variable{P:Program}{S K:Nat->Prop}{w0 w:World}{Kn:Nat->Prop}{φ:Nat->gi}{hf:Nat->Option Ob}{H:bh}{e:hZ}{ρ:Operand->Value}{o:Oper}{call:Call}
 {nxt n':Nat} {v:TV} {u:eg} {au:List Nat}
theorem sg.LN{fa fb:List Nat}{n m:Nat}{φ1:Nat->gi}(hI:Inv S K w0 Kn φ hf w)(h:sg S K w0 w Kn φ hf fa n m u φ1)(ha:ug w φ hf fb)(hd:∀x∈fa,x∉fb):ug w φ1 (aZ u hf) fb:=by
 intro j o hj hown x hx hm;by_cases hu:∃p∈u,p.1=j
 .obtain ⟨p,hp,rfl⟩:=hu;exact hd _ (h.bT p hp x hx) hm
 .have hfn:bQ u j=none:=kX fun p hp e=>hu ⟨p,hp,e⟩;have hj':=hj;simp only[aZ,hfn]at hj';have hk:=(hI.gF j o hj').1;rw[fR (h.sM.dW j hk) (hj.trans hj'.symm)]at hx;exact ha j o hj' hown x hx hm
theorem FW(r:R)(nxt:Nat)(v:Value)(fp:List Nat)(hI:Inv S K w0 Kn φ hf w)(hfr:∀j,nxt<=j->j<(wH nxt r).2.2->¬Kn j)(h:RR S w r v fp)(hn:fp.Nodup)(hSK:∀b∈fp,¬S b/\¬K b)(ha:ug w φ hf fp):
  ∃φ',sg S K w0 w Kn φ hf fp nxt (wH nxt r).2.2 (wH nxt r).2.1 φ'/\e_ S w (nz Kn nxt (wH nxt r).2.2) φ' (wH nxt r).1 v:=by
 cases r with|c t=>obtain⟨φ',h1,h2⟩:=vN t nxt v fp hI hfr h hn hSK ha;exact⟨φ',h1,.c h2⟩|agg ts=>obtain⟨aF,fps,rfl,h1,h2,rfl,h3⟩:=h;obtain⟨φ',h4,h5,h6⟩:=tF ts nxt (fun i=>aF.getD i undef) fps hI hfr h2 h3 hn hSK ha;exact⟨φ',h4,.agg (h5.trans h1) h6⟩
theorem Mt(r:R)(nxt:Nat):nxt<=(wH nxt r).2.2:=by cases r with|c t=>exact HD t nxt|agg ts=>exact vM ts nxt
theorem nA(nxt:Nat)(r:R)(rs:List R):gN nxt (r::rs)=((wH nxt r).1::(gN (wH nxt r).2.2 rs).1,(wH nxt r).2.1++(gN (wH nxt r).2.2 rs).2.1,(gN (wH nxt r).2.2 rs).2.2):=rfl
theorem EZ:∀(rs:List R)(nxt:Nat),nxt<=(gN nxt rs).2.2:=by intro rs;induction rs with|nil=>intro nxt;exact am _|cons r rs ih=>intro nxt;rw[nA];exact e9 (Mt r nxt) (ih _)
theorem Ds:∀(rs:List R){Kn:Nat->Prop}{φ:Nat->gi}{hf:Nat->Option Ob}(nxt:Nat)(vs:List Value)(fp:List Nat),Inv S K w0 Kn φ hf w->(∀j,nxt<=j->j<(gN nxt rs).2.2->¬Kn j)->Dl S w rs vs fp->fp.Nodup->
  (∀b∈fp,¬S b/\¬K b)->ug w φ hf fp->
  ∃φ',sg S K w0 w Kn φ hf fp nxt (gN nxt rs).2.2 (gN nxt rs).2.1 φ'/\(gN nxt rs).1.length=vs.length/\
   ∀(i:Nat)(t:TV)(v:Value),(gN nxt rs).1[i]?=some t->vs[i]?=some v->e_ S w (nz Kn nxt (gN nxt rs).2.2) φ' t v:=by
 intro rs;induction rs with
 |nil=>intro Kn φ hf nxt vs fp hI hfr h hn hSK ha;cases vs with|cons v vs=>exact h.elim|nil=>obtain rfl:fp=[]:=h;exact⟨φ,sg.nil hI _ _,rfl,fun i t v hi=>by simp[gN]at hi⟩
 |cons r rs ih=>
  intro Kn φ hf nxt vs fp hI hfr h hn hSK ha;cases vs with
  |nil=>exact h.elim
  |cons v vs=>
   obtain⟨f1,f2,rfl,h1,h2⟩:=h;rw[dj]at hn;obtain⟨hn1,hn2,hn3⟩:=hn;simp only[ak]at hSK;obtain⟨φ1,hL1,hr1⟩:=FW r nxt v f1 hI (fun j hj hj2=>hfr j hj (by rw[nA];exact dY hj2 (EZ rs _))) h1 hn1 (fun b hb=>hSK b (.inl hb)) (fun j o hj hown x hx hm=>ha j o hj hown x hx (by simp[hm]))
   obtain⟨φ2,hL2,hlen,hr2⟩:=ih (Kn:=nz Kn nxt (wH nxt r).2.2) (φ:=φ1) (hf:=aZ (wH nxt r).2.1 hf) (wH nxt r).2.2 vs f2 hL1.inv (fun j hj hj2 hk=>by
    rcases hk with hk|hk
    .have:=hL1.le;exact hfr j (by omega) (by rw[nA];exact hj2) hk
    .omega) h2 hn2 (fun b hb=>hSK b (.inr hb)) (hL1.LN hI (fun j o hj hown x hx hm=>ha j o hj hown x hx (by simp[hm])) fun x hx hx2=>hn3 x hx x hx2 rfl)
   have hcomp:=hL1.pP hL2;have hcm:aZ ((gN (wH nxt r).2.2 rs).2.1++(wH nxt r).2.1) hf=aZ ((wH nxt r).2.1++(gN (wH nxt r).2.2 rs).2.1) hf:=mq fun p hp q hq e=>by have h1:=hL2.fP p hp;have h2:=hL1.fP q hq;omega
   have hsub:∀i,nz (nz Kn nxt (wH nxt r).2.2) (wH nxt r).2.2 (gN (wH nxt r).2.2 rs).2.2 i->nz Kn nxt (gN (wH nxt r).2.2 rs).2.2 i:=fun i=>(rL hL1.le hL2.le i).1;refine⟨φ2,?_,by simp[nA,hlen],fun i t v' hi hv=>?_⟩
   .simp only[nA];have hsw:∀{p:Nat×Option Ob}{a b:eg},p∈a++b->p∈b++a:=fun hp=>ak.2 (ak.1 hp).symm;exact⟨hcomp.le,hcomp.sM,hcm▸hcomp.inv,fun p hp=>hcomp.fP p (hsw hp),fun p hp x hx=>hcomp.bT p (hsw hp) x (hcm.symm▸hx)⟩
   .cases i with
    |zero=>
     obtain rfl:(wH nxt r).1=t:=by simpa[nA]using hi
     obtain rfl:v=v':=by simpa using hv
     exact(hr1.mono (fX.refl _ _) hL2.sM).kn hsub
    |succ i=>exact(hr2 i t v' (by simpa[nA]using hi) (by simpa using hv)).kn hsub
theorem Inv.put(h:Inv S K w0 Kn φ hf w){i:Nat}(hi:Kn i)(o:Ob)(hfree:cn o=true->∀j b,hf j=some b->cn b=true->j≠i->(φ i).bT∉gJ w φ hf j)
  (hro:RO S K w Kn φ (φ i) o)
  (hp:∀sz sl k x,o=.nst sz sl->qH w (φ i) sl k x->x≠(φ i).bT/\(∀j b,hf j=some b->cn b=true->j≠i->x∉gJ w φ hf j)/\∀k',qH w (φ i) sl k' x->k'=k:=by intro _ _ _ _ e;cases e):
  Inv S K w0 Kn φ (aZ [(i,some o)] hf) w:=by
 have hold:∀j b,aZ [(i,some o)] hf j=some b->(j=i/\b=o)\/(j≠i/\hf j=some b):=by
  intro j b hj;rw[bD]at hj;by_cases e:i=j
  .rw [if_pos e]at hj;exact .inl ⟨e.symm,(aa hj).symm⟩
  .rw [if_neg e,eE]at hj;exact .inr ⟨fun q=>e q.symm,hj⟩
 refine h.u6 (fX.refl _ _) (ry.refl _ _) h.sJ h.sk h.nh ?_ ?_ ?_
 .intro id o' ho;rcases hold id o' ho with⟨rfl,rfl⟩|⟨_,ho'⟩
  .exact .inr ⟨hi,hro⟩
  .exact .inl ⟨ho',fun hown=>⟨rfl,((h.gF id o' ho').2.bi hown).1⟩,h.Cy ho' fun _ _=>rfl⟩
 .intro a b oa ob ha hb hoa hob hne;rcases hold a oa ha with⟨e1,e2⟩|⟨n1,ha'⟩<;>rcases hold b ob hb with⟨e3,e4⟩|⟨n2,hb'⟩
  .exact absurd (e1.trans e3.symm) hne
  .rw [e1];exact fun e=>hfree (e2▸hoa) b ob hb' hob n2 (dP.2 (.inl e))
  .rw [e3];exact fun e=>hfree (e4▸hob) a oa ha' hoa n1 (dP.2 (.inl e.symm))
  .exact h.nm a b oa ob ha' hb' hoa hob hne
 .intro a sz sl k x ha hpa;rcases hold a _ ha with⟨ea,eo⟩|⟨na,ha'⟩
  .rw [ea]at hpa;obtain⟨p1,p2,p3⟩:=hp sz sl k x eo.symm hpa;refine⟨fun j b hj hown=>?_,fun j sz' sl' k' hj hpj=>?_⟩
   .rcases hold j b hj with⟨ej,_⟩|⟨nj,hj'⟩
    .rw [ej];exact fun e=>p1 e.symm
    .exact fun e=>p2 j b hj' hown nj (dP.2 (.inl e.symm))
   .rcases hold j _ hj with⟨ej,eo2⟩|⟨nj,hj'⟩
    .rw [ej]at hpj;rw[<-eo]at eo2;cases eo2;exact⟨ej.trans ea.symm,p3 k' hpj⟩
    .exact absurd (dP.2 (.inr ⟨sz',sl',k',hj',hpj⟩)) (p2 j _ hj' rfl nj)
  .obtain ⟨p1,p2⟩:=h.uJ a sz sl k x ha' hpa;refine⟨fun j b hj hown=>?_,fun j sz' sl' k' hj hpj=>?_⟩
   .rcases hold j b hj with⟨ej,eo⟩|⟨_,hj'⟩
    .rw [ej];exact fun e=>hfree (eo▸hown) a _ ha' rfl na (dP.2 (.inr ⟨sz,sl,k,ha',e▸hpa⟩))
    .exact p1 j b hj' hown
   .rcases hold j _ hj with⟨ej,eo⟩|⟨_,hj'⟩
    .rw [ej]at hpj;exact absurd (dP.2 (.inr ⟨sz,sl,k,ha',hpa⟩)) ((hp sz' sl' k' x eo.symm hpj).2.1 a _ ha' rfl na)
    .exact p2 j sz' sl' k' hj' hpj
structure PO(S K:Nat->Prop)(w0 w:World)(Kn:Nat->Prop)(φ:Nat->gi)(hf:Nat->Option Ob)(fp:List Nat)(owns:List Nat)(nxt m:Nat)(u:eg)(φ':Nat->gi):Prop where
 le:nxt<=m
 sM:ry Kn φ (nz Kn nxt m) φ'
 inv:Inv S K w0 (nz Kn nxt m) φ' (aZ u hf) w
 Ef:∀p∈u,p.1∈owns\/(nxt<=p.1/\p.1<m)
 Ej:∀i∈owns,(bQ u i).isSome=true
 bT:∀i o,aZ u hf i=some o->cn o=true->(i∈owns\/(nxt<=i/\i<m))->∀x∈gJ w φ' (aZ u hf) i,x∈fp
def jL(l:List (C×List Nat×List Nat)):List Nat:=l.flatMap (·.2.1)
theorem rb(bi:List Nat)(j:Nat):bQ (bi.map fun i=>((i,none):Nat×Option Ob)) j=if j∈bi then some none else none:=by
 induction bi with
 |nil=>rfl
 |cons a l ih=>
  simp only[ap,bQ];by_cases e:a=j
  .simp [e]
  .have e':(a==j)=false:=by simpa using e
   have e2:¬j=a:=fun h=>e h.symm;simp[e',ih,e2]
theorem RC.MN{id off:Nat}{v:Value}(h:RC S w Kn φ (.op id off) v):v=.pointer (some ⟨(φ id).bT,(φ id).aK+off,none⟩)/\Kn id:=by cases h with|op hk=>exact⟨rfl,hk⟩
theorem nL.HC{w:World}{b:Nat}{a a':Array Value}(h:nL w b a)(h':nL w b a'):a=a':=by obtain⟨t,h⟩:=h;obtain⟨t',h'⟩:=h';rw[h]at h';simp at h';exact h'.1
theorem rR{α:Type}{u:List (Nat×α)}{id:Nat}{x:α}(h:bQ u id=some x):∃p∈u,p.1=id:=by
 induction u with
 |nil=>simp[bQ]at h
 |cons p r ih=>
  obtain⟨i,y⟩:=p;by_cases e:i=id
  .exact ⟨(i,y),by simp,e⟩
  .have e2:(i==id)=false:=by simpa using e
   simp only[bQ,e2,cond_false]at h;obtain⟨p,hp,hpe⟩:=ih h;exact⟨p,by simp[hp],hpe⟩
theorem Aj:∀(l:List (C×List Nat×List Nat))(outs:List T)(nxt:Nat)(bu:eg)(m:Nat),dX nxt l outs=some (bu,m)->nxt<=m:=by
 intro l;induction l with
 |nil=>
  intro outs nxt bu m h;cases outs with
  |nil=>obtain⟨_,rfl⟩:[]=bu/\nxt=m:=by simpa[dX]using h
        exact am _
  |cons t ts=>simp[dX]at h
 |cons p l ih=>
  obtain⟨c,bi,rd⟩:=p;intro outs nxt bu m h;cases outs with
  |nil=>unfold dX at h;simp at h
  |cons t outs=>
   unfold dX at h;split at h
   .simp at*
   .rename_i heq1 heq2;simp only[dK,c9]at heq1 heq2;obtain⟨_,rfl⟩:=heq1;exact ih _ _ _ _ h
   .rename_i heq1 heq2;simp only[dK,c9]at heq1 heq2;obtain⟨_,rfl⟩:=heq1;split at h
    .rename_i w2 k hrec;split at h
     .obtain ⟨_,rfl⟩:=ad (aa h);exact e9 (vM _ _) (ih _ _ _ _ hrec)
     .simp at h
    .simp at h
   .rename_i heq1 heq2;simp only[dK,c9]at heq1 heq2;obtain⟨_,rfl⟩:=heq1;split at h
    .split at h
     .rename_i w2 k hrec;obtain⟨_,rfl⟩:=ad (aa h);exact ih _ _ _ _ hrec
     .simp at h
    .simp at h
   .rename_i heq1 heq2;simp only[dK,c9]at heq1 heq2;obtain⟨_,rfl⟩:=heq1;split at h
    .split at h
     .rename_i w2 k hrec;obtain⟨_,rfl⟩:=ad (aa h);exact ih _ _ _ _ hrec
     .simp at h
    .simp at h
   .rename_i heq1 heq2;simp only[dK,c9]at heq1 heq2;obtain⟨_,rfl⟩:=heq1;split at h
    .rename_i w2 k hrec;obtain⟨_,rfl⟩:=ad (aa h);exact ih _ _ _ _ hrec
    .simp at h
   .simp at h
theorem Ct{H0:bh}{S0 K0:Nat->Prop}{wp wz:World}{Kn0:Nat->Prop}{φ0:Nat->gi}(hI0:Inv S0 K0 wz Kn0 φ0 (ao H0) wp){id len:Nat}
  (hw:(match ao H0 id with|some (.aF _ rows)=>(0==0)&&len==rows.length|some (.nst _ slots)=>(0==0)&&len==slots.length|_=>false)=true):
  ∃aF,nL wp (φ0 id).bT aF/\aF.size=(φ0 id).ext/\(φ0 id).aK+len*(φ0 id).sz<=(φ0 id).ext/\len<=(φ0 id).cap:=by
 split at hw
 .rename_i sz rows ho;obtain⟨_,h0⟩:=hI0.gF _ _ ho;have hl:len=rows.length:=by simpa using hw
  subst hl;cases h0 with|aF hsz hl hS hK hown hext hfit hr hv=>exact⟨_,hown,hext,by rw[hl];exact hfit,hv⟩
 .rename_i sz slots ho;obtain⟨_,h0⟩:=hI0.gF _ _ ho;have hl:len=slots.length:=by simpa using hw
  subst hl;cases h0 with|nst hsz hl hS hK hown hext hfit hr hv=>exact⟨_,hown,hext,by rw[hl,ld];exact hfit,hv⟩
 .cases hw
theorem EP{H0:bh}{S0:Nat->Prop}{wp:World}{Kn0:Nat->Prop}{φ0:Nat->gi}{K0:Nat->Prop}{wz:World}(hI0:Inv S0 K0 wz Kn0 φ0 (ao H0) wp)(hgrow:∀b aF,nL wp b aF->∃arr',nL w b arr'/\arr'.size=aF.size):
  ∀(l:List (C×List Nat×List Nat))(vs:List Value)(outs:List T)(fp:List Nat){Kn:Nat->Prop}{φ:Nat->gi}{hf:Nat->Option Ob}(nxt:Nat)(bu:eg)(m:Nat),
  EV Kn0 φ0 S0 wp l vs->eF H0 l=true->JY S w outs vs fp->Inv S K w0 Kn φ hf w->(∀j,nxt<=j->j<m->¬Kn j)->ry Kn0 φ0 Kn φ->fp.Nodup->(∀b∈fp,¬S b/\¬K b)->ug w φ hf fp->
  (∀i∈jL l,hf i=none/\Kn0 i)->(jL l).Nodup->dX nxt l outs=some (bu,m)->∃φ',PO S K w0 w Kn φ hf fp (jL l) nxt m bu φ':=by
 intro l;induction l with
 |nil=>
  intro vs outs fp Kn φ hf nxt bu m hl hw hr hI hfr hren hn hSK ha hown hon h;cases hl;cases outs with
  |cons t ts=>exact hr.elim
  |nil=>
   obtain⟨rfl,rfl⟩:[]=bu/\nxt=m:=by simpa[dX]using h
   exact⟨φ,am _,p9 _ _,hI.kn fun _ hi=>.inl hi,fun p hp=>by simp at hp,fun i hi=>by simp[jL]at hi,fun i o _ _ hx=>by
    rcases hx with hx|hx
    .simp [jL]at hx
    .omega⟩
 |cons p l ih=>
  obtain⟨c,bi,rd⟩:=p;intro vs outs fp Kn φ hf nxt bu m hl hw hr hI hfr hren hn hSK ha hown hon h;cases hl with
  |@cons _ _ _ _ v vs hc hl=>
  cases outs with
  |nil=>exact hr.elim
  |cons t outs=>
   obtain⟨f1,f2,rfl,hr1,hr2⟩:=hr;rw[dj]at hn;obtain⟨hn1,hn2,hn3⟩:=hn;simp only[ak]at hSK;have ha1:ug w φ hf f1:=fun j o hj hown x hx hm=>ha j o hj hown x hx (by simp[hm]);have ha2:ug w φ hf f2:=fun j o hj hown x hx hm=>ha j o hj hown x hx (by simp[hm]);have ho1:∀i∈bi,hf i=none/\Kn0 i:=fun i hi=>hown i (by simp[jL,hi]);have ho2:∀i∈jL l,hf i=none/\Kn0 i:=fun i hi=>hown i (by simp only[jL,br,ak];exact .inr hi);have hoc:jL ((c,bi,rd)::l)=bi++jL l:=rfl;rw[hoc,dj]at hon;obtain⟨hon1,hon2,hon3⟩:=hon;have hw2:eF H0 l=true:=by cases c<;>simp only[eF,ah]at hw<;>first|exact hw|exact hw.2
   have fin:∀(id:Nat)(ob:Ob)(w2:eg)(k:Nat),bi=[id]->(bu,m)=((id,some ob)::w2,k)->dX nxt l outs=some (w2,k)->Inv S K w0 Kn φ (aZ [(id,some ob)] hf) w->(∀x∈gJ w φ (aZ [(id,some ob)] hf) id,x∈f1)->
     ∃φ',PO S K w0 w Kn φ hf (f1++f2) (jL ((c,bi,rd)::l)) nxt m bu φ':=by
    intro id ob w2 k hownid hbm hrec hput hblk;subst hownid;obtain⟨rfl,rfl⟩:=ad hbm;obtain⟨hidn,hidk0⟩:=ho1 id (by simp);have hidk:=hren.sub id hidk0;have hφ:=hren.dW id hidk0;have hidlt:¬(nxt<=id/\id<m):=fun h=>hfr id h.1 h.2 hidk
    obtain⟨φ2,hB⟩:=ih vs outs f2 nxt w2 m hl hw2 hr2 hput hfr hren hn2 (fun b hb=>hSK b (.inr hb))
     (fun j o hj hown x hx hm=>by
      have hj':=hj;rw[bD]at hj';split at hj'
      .rename_i e;subst e;exact hn3 x (hblk x hx) x hm rfl
      .rw [fR rfl (hj.trans hj'.symm)]at hx;exact ha2 j o hj' hown x hx hm)
     (fun i hi=>by obtain⟨h1,h2⟩:=ho2 i hi;refine⟨?_,h2⟩;have hne:¬id=i:=fun e=>hon3 id (by simp) i hi e;rw[bD,if_neg hne];exact h1) hon2 hrec
    have hkeys:=hB.Ef;have hm2:=hB.le
    have hdis:∀q∈w2,id≠q.1:=fun q hq e=>by
     rcases hkeys q hq with h|h
     .exact hon3 id (by simp) q.1 h e
     .omega
    have heq:aZ ((id,some ob)::w2) hf=aZ w2 (aZ [(id,some ob)] hf):=by rw[<-dL];exact mq (u:=[(id,some ob)]) fun p hp q hq e=>by rw[aq.1 hp]at e;exact hdis q hq e
    refine⟨φ2,hB.le,hB.sM,heq▸hB.inv,fun p hp=>?_,fun i hi=>?_,fun i o hio hownio hi=>?_⟩
    .rw [hoc];rcases aJ.1 hp with rfl|hp
     .exact .inl (by simp)
     .rcases hkeys p hp with h|h
      .exact .inl (by simp[h])
      .exact .inr h
    .rw [hoc]at hi;simp only[bQ];by_cases e:id=i
     .simp [e]
     .have e':(id==i)=false:=by simpa using e
      simp only[e',cond_false];rcases ak.1 hi with hi|hi
      .exact absurd (aq.1 hi).symm e
      .exact hB.Ej i hi
    .rw [heq]at hio|-;intro x hx;by_cases hrest:i∈jL l\/(nxt<=i/\i<m)
     .exact aD _ (hB.bT i o hio hownio hrest x hx)
     .have hi2:i=id:=by
       rcases hi with hi|hi
       .rw [hoc]at hi;rcases ak.1 hi with h|h
        .exact aq.1 h
        .exact absurd (.inl h) hrest
       .exact absurd (.inr hi) hrest
      subst hi2;have hwn:bQ w2 i=none:=kX fun q hq e=>hdis q hq e.symm
      have hwi:aZ w2 (aZ [(i,some ob)] hf) i=aZ [(i,some ob)] hf i:=by
       conv=>lhs;unfold aZ
       rw[hwn];rfl
      rw[fR (hB.sM.dW i hidk) hwi]at hx;exact aG _ (hblk x hx)
   unfold dX at h;split at h
   .simp at*
   .--nothing was owned
    rename_i heq1 heq2;simp only[dK,c9]at heq1 heq2;obtain⟨⟨rfl,rfl,rfl⟩,rfl⟩:=heq1;obtain⟨rfl,rfl⟩:=heq2;have hr1:=hr1.resolve_left fun h=>by cases h.1
    have e0:f1=[]:=by cases hr1;rfl
    subst e0;obtain⟨φ',hB⟩:=ih vs outs f2 nxt bu m hl hw2 hr2 hI hfr hren hn2 (fun b hb=>hSK b (.inr hb)) ha2 ho2 hon2 h;exact⟨φ',hB.le,hB.sM,hB.inv,hB.Ef,hB.Ej,hB.bT⟩
   .--a box
    rename_i id own' rd' r ts' ts heq1 heq2;simp only[dK,c9]at heq1 heq2;obtain⟨⟨rfl,rfl,rfl⟩,rfl⟩:=heq1;obtain⟨rfl,rfl⟩:=heq2;split at h
    .rename_i w2 k hrec;split at h
     .rename_i hcon;obtain⟨rfl,rfl⟩:(id,some (Ob.box (il nxt ts').1))::(il nxt ts').2.1++bi.map (fun i=>((i,none):Nat×Option Ob))++w2=bu/\k=m:=by simpa using h
      have hid:id∈bi:=by simpa using hcon
      obtain⟨hidn,hidk0⟩:=ho1 id hid;have hidk:=hren.sub id hidk0;have hφ:=hren.dW id hidk0;obtain⟨hv,_⟩:=hc.MN;have hr1:=hr1.resolve_left fun h=>by cases h.1
      cases hr1 with
      |@pt _ b aF fps hown0 hlen hfl hrec2=>
      simp only[Value.pointer.injEq,bS,Addr.mk.injEq]at hv;obtain⟨hb,hbase,_⟩:=hv;rw[<-hφ]at hb hbase;have hbase0:(φ id).aK=0:=by omega
      rw[hP]at hn1;have hmk:=Aj _ _ _ _ _ hrec;have hidlt:¬(nxt<=id/\id<k):=fun h=>hfr id h.1 h.2 hidk
      obtain⟨φ1,hL,hcl,hcr⟩:=tF ts' nxt (fun i=>aF.getD i undef) fps hI (fun j hj hj2=>hfr j hj (by omega)) hfl hrec2 hn1.2 (fun b' hb'=>hSK b' (.inl (aC _ hb')))
       (fun j o hj hown x hx hm=>ha1 j o hj hown x hx (aC _ hm))
      have hm1:=hL.le;have hφ1:φ1 id=φ id:=hL.sM.dW id hidk;have hul:bQ (il nxt ts').2.1 id=none:=kX fun p hp e=>by have:=hL.fP p hp;omega
      have hdead:aZ (il nxt ts').2.1 hf id=none:=by simp only[aZ,hul,hidn]
      have hawb:ug w φ1 (aZ (il nxt ts').2.1 hf) [b]:=hL.LN hI (fun j o hj hown x hx hm=>ha1 j o hj hown x hx (by rw[aq.1 hm];simp)) fun x hx hx2=>hn1.1 (by rw[<-aq.1 hx2];exact hx)
      have hput:=hL.inv.put (i:=id) (.inl hidk) (.box (il nxt ts').1) (fun _ j o hj hown hne hm=>by rw[hφ1,<-hb]at hm;exact hawb j o hj hown b hm (by simp))
       (.box (by rw[hφ1];exact hbase0) (by rw[hφ1,<-hb];exact(hSK b (.inl (by simp))).1) (by rw[hφ1,<-hb];exact(hSK b (.inl (by simp))).2) (by rw[hφ1,<-hb];exact hown0) (hcl.trans hlen) hcr)
      have hav2:ug w φ1 (aZ (il nxt ts').2.1 hf) f2:=hL.LN hI ha2 fun x hx hx2=>hn3 x (aC _ hx) x hx2 rfl;have hult:∀i,¬(nxt<=i/\i<k)->bQ (il nxt ts').2.1 i=none:=fun i hi=>kX fun p hp e=>by have:=hL.fP p hp;omega
      have hownlt:∀i,Kn0 i->¬(nxt<=i/\i<k):=fun i hi h=>hfr i h.1 h.2 (hren.sub i hi);rw[<-dL]at hput
      obtain⟨φ2,hB⟩:=ih vs outs f2 (il nxt ts').2.2 w2 k hl hw2 hr2 hput (fun j hj hj2 hk=>by
        rcases hk with hk|hk
        .exact hfr j (by omega) hj2 hk
        .omega) ⟨fun i hi=>.inl (hren.sub i hi),fun i hi=>(hL.sM.dW i (hren.sub i hi)).trans (hren.dW i hi)⟩ hn2 (fun b hb=>hSK b (.inr hb))
       (fun j o hj hown x hx hm=>by
        have hj':=hj;rw[aT,bD]at hj';split at hj'
        .rename_i e;subst e;rw[m6 (fun _ _ e=>by rw[aT,bD,if_pos rfl]at e;cases e),hφ1,<-hb]at hx;rw[aq.1 hx]at hm;exact hn3 b (by simp) b hm rfl
        .rw [fR rfl (hj.trans hj'.symm)]at hx;exact hav2 j o hj' hown x hx hm)
       (fun i hi=>by obtain⟨h1,h2⟩:=ho2 i hi;refine⟨?_,h2⟩;have hne:¬id=i:=fun e=>hon3 id hid i hi e;rw[aT,bD,if_neg hne];simp only[aZ,hult i (hownlt i h2),h1]) hon2 hrec
      have hkeys:=hB.Ef;have hm2:=hB.le
      have hdis:∀j x,bQ w2 j=some x->j≠id/\j∉bi/\bQ (il nxt ts').2.1 j=none:=by
       intro j x hx;obtain⟨p,hp,rfl⟩:=rR hx;rcases hkeys p hp with h|h
       .exact ⟨fun e=>hon3 id hid p.1 h e.symm,fun e=>hon3 p.1 e p.1 h rfl,hult _ (hownlt _ (ho2 _ h).2)⟩
       .refine ⟨fun e=>by omega,fun e=>by have:=hownlt _ (ho1 _ e).2;omega,kX fun q hq e=>?_⟩;have:=hL.fP q hq;omega
      have heq:aZ ((id,some (Ob.box (il nxt ts').1))::(il nxt ts').2.1++bi.map (fun i=>((i,none):Nat×Option Ob))++w2) hf=aZ w2 (aZ ([(id,some (Ob.box (il nxt ts').1))]++(il nxt ts').2.1) hf):=by
       have hno:aZ (bi.map (fun i=>((i,none):Nat×Option Ob))) (aZ w2 hf)=aZ w2 hf:=by
        funext j
        conv=>lhs;unfold aZ
        rw[rb];by_cases hjo:j∈bi
        .rw [if_pos hjo];have hwj:bQ w2 j=none:=by cases hx:bQ w2 j with|none=>rfl|some x=>exact absurd hjo (hdis j x hx).2.1
         simp only[aZ,hwj,(ho1 j hjo).1]
        .rw [if_neg hjo];rfl
       rw[dL,dL,hno,<-dL,<-dL];refine mq fun p hp q hq e=>?_;rcases hkeys q hq with h|h
       .rcases aJ.1 hp with rfl|hp
        .exact hon3 id hid q.1 h e
        .have:=hL.fP p hp;have:=hownlt _ (ho2 _ h).2;omega
       .rcases aJ.1 hp with rfl|hp
        .simp only at e;omega
        .have:=hL.fP p hp;omega
      refine⟨φ2,by omega,⟨fun i h=>.inl h,fun i h=>(hB.sM.dW i (.inl h)).trans (hL.sM.dW i h)⟩,?_,fun p hp=>?_,fun i hi=>?_,fun i o hio hownio hi=>?_⟩
      .rw [heq];exact hB.inv.sv fun i=>rL hm1 hm2 i
      .rw [hoc];simp only[aO,aS,aJ,ak,eh]at hp;rcases hp with rfl|hp|⟨i,hi,rfl⟩|hp
       .exact .inl (by simp[hid])
       .have:=hL.fP p hp;exact .inr (by omega)
       .exact .inl (by simp[hi])
       .rcases hkeys p hp with h|h
        .exact .inl (by simp[h])
        .exact .inr (by omega)
      .rw [hoc]at hi;simp only[aO,aS,bQ,gG,rb];rcases ak.1 hi with hi|hi
       .by_cases e:id=i
        .simp [e]
        .have e':(id==i)=false:=by simpa using e
         simp only[e',cond_false,if_pos hi];cases bQ (il nxt ts').2.1 i<;>rfl
       .have hs:=hB.Ej i hi;obtain⟨x,hx⟩:=fH.1 hs;obtain⟨h1,h2,h3⟩:=hdis i x hx;have e':(id==i)=false:=by simpa using fun e=>h1 e.symm
        simp only[e',cond_false,h3,if_neg h2,hx,Option.isSome_some]
      .rw [heq]at hio|-;intro x hx;by_cases hrest:i∈jL l\/((il nxt ts').2.2<=i/\i<k)
       .exact aD _ (hB.bT i o hio hownio hrest x hx)
       .refine aG _ ?_
        have hw2n:bQ w2 i=none:=kX fun q hq e=>by
         rcases hkeys q hq with h|h
         .exact hrest (.inl (e▸h))
         .exact hrest (.inr (e▸h))
        have hi2:i∈bi\/(nxt<=i/\i<(il nxt ts').2.2):=by
         rcases hi with hi|hi
         .rw [hoc]at hi;rcases ak.1 hi with h|h
          .exact .inl h
          .exact absurd (.inl h) hrest
         .exact .inr ⟨hi.1,by
           rcases gQ i (il nxt ts').2.2 with h|h
           .exact h
           .exact absurd (.inr ⟨h,hi.2⟩) hrest⟩
        have hkn:nz Kn nxt (il nxt ts').2.2 i:=by
         rcases hi2 with h|h
         .exact .inl (hren.sub i (ho1 i h).2)
         .exact .inr h
        have hwi:aZ w2 (aZ ([(id,some (Ob.box (il nxt ts').1))]++(il nxt ts').2.1) hf) i=aZ ([(id,some (Ob.box (il nxt ts').1))]++(il nxt ts').2.1) hf i:=by
         conv=>lhs;unfold aZ
         rw[hw2n];rfl
        rw[fR (hB.sM.dW i hkn) hwi]at hx;by_cases e:id=i
        .subst e;rw[m6 (fun _ _ e=>by rw[aT,bD,if_pos rfl]at e;cases e),hφ1,<-hb]at hx;rw[aq.1 hx];simp
        .rcases hi2 with h|h
         .exfalso
          have h1:aZ w2 (aZ ([(id,some (Ob.box (il nxt ts').1))]++(il nxt ts').2.1) hf) i=hf i:=by
           simp only[aZ,hw2n,aT,bQ];have e':(id==i)=false:=by simpa using e
           simp only[e',cond_false,hult i (hownlt i (ho1 i h).2)]
          rw[h1,(ho1 i h).1]at hio;simp at hio
         .have e':(id==i)=false:=by simpa using e
          cases hfu:bQ (il nxt ts').2.1 i with
          |none=>
           exfalso;have h1:aZ w2 (aZ ([(id,some (Ob.box (il nxt ts').1))]++(il nxt ts').2.1) hf) i=hf i:=by simp only[aZ,hw2n,aT,bQ,e',cond_false,hfu]
           rw[h1]at hio;exact hfr i h.1 (by omega) (hI.gF i o hio).1
          |some x'=>
           obtain⟨p,hp,rfl⟩:=rR hfu;have hwp:aZ ([(id,some (Ob.box (il nxt ts').1))]++(il nxt ts').2.1) hf p.1=aZ (il nxt ts').2.1 hf p.1:=by rw[aT,bD,if_neg e]
           rw[fR rfl hwp]at hx;exact aC _ (hL.bT p hp x hx)
     .simp at h
    .simp at h
   .--an array
    rename_i sz id len own' rd' r sz' rows ts heq1 heq2;simp only[dK,c9]at heq1 heq2;obtain⟨⟨rfl,rfl,rfl⟩,rfl⟩:=heq1;obtain⟨rfl,rfl⟩:=heq2;split at h
    .rename_i hcond;obtain⟨hrl,hszz,hownid⟩:=hcond;subst hownid;split at h
     .rename_i w2 k hrec;obtain⟨rfl,rfl⟩:(id,some (Ob.aF sz rows))::w2=bu/\k=m:=by simpa using h
      obtain⟨hidn,hidk0⟩:=ho1 id (by simp);have hφ:=hren.dW id hidk0;obtain⟨cap,addr,hv,hszl,hk0,hcap,haddr,hextc,hcl⟩:=hc.gW;have hr1:=hr1.resolve_left fun h=>by cases h.1
      cases hr1 with
      |@sl _ _ b off len1 cap1 aF hsz0 hown0 hlen1 hcap1 hext1 hrr=>
      simp only[Value.slice.injEq,bS,Addr.mk.injEq]at hv;obtain⟨⟨hb,hoff,_⟩,hlen2,hcap2⟩:=hv;subst hszz;simp only[eF,ah]at hw;obtain⟨arr0,hown1,hext0,hfit0,hv0⟩:=Ct hI0 hw.1;obtain⟨arr1,hown2,hsize2⟩:=hgrow _ _ hown1;rw[hb]at hown0;obtain rfl:=hown0.HC hown2;have hb1:=hSK (φ0 id).bT (.inl (by simp[hb]))
      refine fin id (.aF sz' rows) w2 k rfl rfl hrec (hI.put (i:=id) (hren.sub id hidk0) (.aF sz' rows) (fun _ j o hj hown hne hm=>by rw[hφ,<-hb]at hm;exact ha1 j o hj hown b hm (by simp))
       (.aF hsz0 (by rw[hφ];exact hszl) (by rw[hφ];exact hb1.1) (by rw[hφ];exact hb1.2) (by rw[hφ];exact hown2) (by rw[hφ,<-hext0];exact hsize2)
        (by rw[hφ,hrl,<-hszl];exact hfit0) (by
         rw[hφ];cases rows with
         |nil=>exact⟨fun i r hi=>by simp at hi,fun i r hi=>by simp at hi⟩
         |cons q rows=>
          have:off=(φ0 id).aK:=by rw[hoff,haddr (by simp only[List.length_cons]at hrl;omega)];simp
          rw[<-this];exact hrr) (by rw[hφ,hrl];exact hv0))) fun x hx=>?_
      rw[m6 (fun _ _ e=>by rw[bD,if_pos rfl]at e;cases e),hφ,<-hb]at hx;exact hx
     .simp at h
    .simp at h
   .--a eU of rows
    rename_i sz id len own' rd' r szi rows ts heq1 heq2;simp only[dK,c9]at heq1 heq2;obtain⟨⟨rfl,rfl,rfl⟩,rfl⟩:=heq1;obtain⟨rfl,rfl⟩:=heq2;split at h
    .rename_i hcond;obtain⟨hrl,hszz,hownid⟩:=hcond;subst hownid;split at h
     .rename_i w2 k hrec;obtain⟨rfl,rfl⟩:(id,some (Ob.nst szi (rows.map mL)))::w2=bu/\k=m:=by simpa using h
      obtain⟨hidn,hidk0⟩:=ho1 id (by simp);have hφ:=hren.dW id hidk0;obtain⟨cap,addr,hv,hszl,hk0,hcap,haddr,hextc,hcl⟩:=hc.gW;have hr1:=hr1.resolve_left fun h=>by cases h.1
      cases hr1 with
      |@zh _ _ b off cap1 aF fps hsz0 hown0 hcap1 hext1 hfl hrr=>
      simp only[Value.slice.injEq,bS,Addr.mk.injEq]at hv;obtain⟨⟨hb,hoff,_⟩,hlen2,hcap2⟩:=hv;subst hszz;simp only[eF,ah]at hw;obtain⟨arr0,hown1,hext0,hfit0,hv0⟩:=Ct hI0 hw.1;obtain⟨arr1,hown2,hsize2⟩:=hgrow _ _ hown1;rw[hb]at hown0;obtain rfl:=hown0.HC hown2;rw[hP]at hn1;have hb1:=hSK b (.inl (by simp));have hbase:∀i,i<rows.length->off+i=(φ0 id).aK+i:=fun i hi=>by rw[hoff,haddr (by omega)];simp
      have hget:∀i,w.cell? ⟨(φ id).bT,i,none⟩=aF[i]?:=by rw[hφ];exact hown2.cell
      have hpat:∀k x,qH w (φ id) (rows.map mL) k x->∃fp,fps[k]?=some fp/\fp=[x]:=by rintro k x ⟨rs,v,h1,h2,h3⟩;rw[aL]at h1;obtain⟨r,hr1,hr2⟩:=aM.1 h1;have hlt:=(aj.1 hr1).1;have hf:fps[k]?=some fps[k]:=az (by omega);obtain⟨v',q1,q2⟩:=hrr k r fps[k] hr1 hf;rw[hget,hφ,<-hbase k hlt,q1]at h2;obtain rfl:=aa h2;cases r with|none=>cases hr2|some rows'=>obtain⟨b',q3,q4⟩:=q2;rw[q4.bT]at h3;obtain rfl:=aa h3;exact⟨_,hf,q3⟩
      have hmem:∀k x,qH w (φ id) (rows.map mL) k x->x∈fps.flatten:=fun k x hp=>by obtain⟨fp,h1,rfl⟩:=hpat k x hp;exact ez.2 ⟨[x],bd h1,by simp⟩
      have hbl:(φ id).bT=b:=by rw[hφ,<-hb]
      rw[hszl,ld]at hfit0
      refine fin id (.nst szi (rows.map mL)) w2 k rfl rfl hrec (hI.put (i:=id) (hren.sub id hidk0) (.nst szi (rows.map mL)) (fun _ j o hj hown hne hm=>by rw[hbl]at hm;exact ha1 j o hj hown b hm (by simp))
       (.nst hsz0 (by rw[hφ];exact hszl) (by rw[hbl];exact hb1.1) (by rw[hbl];exact hb1.2) (by rw[hφ];exact hown2) (by rw[hφ,<-hext0];exact hsize2)
        (by rw[hφ,aR,hrl];exact hfit0) (fun i s hi=>by
         rw[aL]at hi;obtain⟨r,hr1,rfl⟩:=aM.1 hi;have hlt:=(aj.1 hr1).1;have hf:fps[i]?=some fps[i]:=az (by omega);obtain⟨v,q1,q2⟩:=hrr i r fps[i] hr1 hf;refine⟨v,by rw[hφ,<-hbase i hlt];exact q1,?_⟩;cases r with
         |none=>obtain⟨rfl,_⟩:=q2;exact .nil
         |some rows'=>obtain⟨b',q3,q4⟩:=q2;have hm:b'∈fps.flatten:=ez.2 ⟨fps[i],lB _,by rw[q3];simp⟩;exact .bi q4 (hSK b' (.inl (aC _ hm))).1 (hSK b' (.inl (aC _ hm))).2) (by rw[hφ,aR,hrl];exact hv0))
       fun sz' sl' k x eo hp=>by cases eo;have hm:=hmem k x hp;refine⟨fun e=>hn1.1 (by rw[<-hbl,<-e];exact hm),fun j o hj hown hne hx=>ha1 j o hj hown x hx (aC _ hm),fun k' hp'=>?_⟩;obtain⟨fp,h1,rfl⟩:=hpat k x hp;obtain⟨fp',h2,rfl⟩:=hpat k' x hp';exact CO hn1.2 h2 h1) fun x hx=>?_
      rcases dP.1 hx with rfl|⟨sz',sl',k',h1,h2⟩
      .rw [hbl];simp
      .rw [bD,if_pos rfl]at h1;cases h1;exact aC _ (hmem k' x h2)
     .simp at h
    .simp at h
   .--it is j6
    rename_i heq1 heq2;simp only[dK,c9]at heq1 heq2;obtain⟨⟨rfl,rfl,rfl⟩,rfl⟩:=heq1;obtain⟨rfl,rfl⟩:=heq2;split at h
    .rename_i w2 k hrec;obtain⟨rfl,rfl⟩:bi.map (fun i=>((i,none):Nat×Option Ob))++w2=bu/\k=m:=by simpa using h
     have e0:f1=[]:=by
      rcases hr1 with h|h
      .exact h.2
      .cases h
     subst e0;obtain⟨φ',hB⟩:=ih vs outs f2 nxt w2 k hl hw2 hr2 hI hfr hren hn2 (fun b hb=>hSK b (.inr hb)) ha2 ho2 hon2 hrec;have hmk:=hB.le;have hkeys:=hB.Ef
     have hwn:∀j∈bi,bQ w2 j=none:=fun j hj=>by
      cases hx:bQ w2 j with
      |none=>rfl
      |some x=>
       obtain⟨p,hp,rfl⟩:=rR hx;rcases hkeys p hp with h|h
       .exact absurd rfl (hon3 p.1 hj p.1 h)
       .exact absurd (hren.sub _ (ho1 _ hj).2) (hfr p.1 h.1 h.2)
     have heq:aZ (bi.map (fun i=>((i,none):Nat×Option Ob))++w2) hf=aZ w2 hf:=by
      rw[dL];funext j
      conv=>lhs;unfold aZ
      rw[rb];by_cases hjo:j∈bi
      .rw [if_pos hjo];simp only[aZ,hwn j hjo,(ho1 j hjo).1]
      .rw [if_neg hjo];rfl
     refine⟨φ',hB.le,hB.sM,heq▸hB.inv,fun p hp=>?_,fun i hi=>?_,fun i o hio hownio hi=>?_⟩
     .rw [hoc];rcases ak.1 hp with hp|hp
      .obtain ⟨j,hj,rfl⟩:=eh.1 hp;exact .inl (aG _ hj)
      .rcases hkeys p hp with h|h
       .exact .inl (aD _ h)
       .exact .inr h
     .rw [hoc]at hi;rw[gG,rb];by_cases hjo:i∈bi
      .rw [if_pos hjo];rfl
      .rw [if_neg hjo];exact hB.Ej i ((ak.1 hi).resolve_left hjo)
     .rw [heq]at hio|-;refine hB.bT i o hio hownio (hi.imp (fun h=>?_) id);rw[hoc]at h;refine(ak.1 h).resolve_left fun hjo=>?_;simp only[aZ,hwn i hjo,(ho1 i hjo).1]at hio;cases hio
    .simp at h
   .simp at h
end
section
variable{P:Program}{S K:Nat->Prop}{w0 w w':World}{Kn:Nat->Prop}{φ:Nat->gi}{hf hf':Nat->Option Ob}
theorem CE{idA nxt idR sz len:Nat}{slots:List ko}{l:gi}{arr':Array Value}{v:Value}(hI:Inv S K w0 Kn φ hf w)(hob:hf idA=some (.nst sz slots))
  (hk:∀j b,hf' j=some b->hf j=some b/\j≠idA) (hI':Inv S K w0 Kn φ hf' w') (hs:fX S w S w') (hrest:∀x,x≠(φ idA).bT->x<w.heap.size->w'.heap[x]?=w.heap[x]?) (hn:¬Kn nxt)
  (hblk:l.bT=(φ idA).bT\/w.heap.size<=l.bT) (ho':nL w' l.bT arr') (hl:l.sz=1) (hext:arr'.size=l.ext) (hS:¬S l.bT) (hK:¬K l.bT)
  (hcells:∀i,i<slots.length->arr'[l.aK+i]?=w.cell? ⟨(φ idA).bT,(φ idA).aK+i,none⟩) (hnew:arr'[l.aK+slots.length]?=some v) (hr:RC S w Kn φ (.bP sz idR 0 len) v)
  (hfit:l.aK+(slots.length+1)<=l.ext) (hcap:slots.length+1<=l.cap):
  Inv S K w0 (fun j=>Kn j\/j=nxt) (ext φ nxt l) (aZ [(nxt,some (.nst sz (slots++[.kU idR len])))] hf') w':=by
 obtain⟨hkn,h0⟩:=hI.gF _ _ hob;have hlt:(φ idA).bT<w.heap.size:=(h0.bi rfl).2.2;have hren:ry Kn φ (fun j=>Kn j\/j=nxt) (ext φ nxt l):=ga _ hn
 -- the places that hold rows of their bi are the old ones
 have hp:∀k x,qH w' l (slots++[.kU idR len]) k x->k<slots.length/\qH w (φ idA) slots k x:=by
  rintro k x ⟨rows,v',h1,h2,h3⟩
  have hk:k<slots.length:=by
   rcases gQ k slots.length with h|h
   .exact h
   .rw [bl h]at h1
    match hd:k-slots.length,h1 with|0,h1=>cases h1|d+1,h1=>cases h1
  rw[bg hk]at h1;rw[ho'.cell,hcells k hk]at h2;exact⟨hk,rows,v',h1,h2,h3⟩
 have hin:∀k x,qH w (φ idA) slots k x->x≠(φ idA).bT/\x<w.heap.size:=fun k x h=>⟨fun e=>(hI.uJ idA sz slots k x hob h).1 idA _ hob rfl e.symm,(hI.DV hob h).2.2.1⟩;have hsame:∀j b,hf' j=some b->cn b=true->w'.heap[(φ j).bT]?=w.heap[(φ j).bT]?:=fun j b hj hb=>by obtain⟨hj',hne⟩:=hk j b hj;exact hrest _ (hI.nm j idA b _ hj' hob hb rfl hne) ((hI.gF _ _ hj').2.bi hb).2.2
 -- who else Ej this block
 have hoth:∀j b x,hf' j=some b->cn b=true->x∈gJ w' φ hf' j->x≠(φ idA).bT/\x<w.heap.size/\∀k,¬qH w (φ idA) slots k x:=by
  intro j b x hj hb hm;obtain⟨hj',hne⟩:=hk j b hj;rcases dP.1 hm with rfl|⟨szj,slj,kj,h1,h2⟩
  .exact ⟨hI.nm j idA b _ hj' hob hb rfl hne,((hI.gF _ _ hj').2.bi hb).2.2,fun k h=>(hI.uJ idA sz slots k _ hob h).1 j b hj' hb rfl⟩
  .have h1':=(hk _ _ h1).1;have h2':=(qH.dW (hsame j _ h1 rfl)).1 h2;exact⟨fun e=>(hI.uJ j szj slj kj x h1' h2').1 idA _ hob rfl e.symm,(hI.DV h1' h2').2.2.1,fun k h=>hne (((hI.uJ idA sz slots k x hob h).2 j szj slj kj h1' h2').1)⟩
 refine hI'.name hn l _ (fun _ j b hj hb hm=>?_) (.nst (by cases h0 with|nst hsz=>exact hsz) hl hS hK ho' hext (by rw[bm];exact hfit) (fun i s hi=>?_) (by rw[bm];exact hcap)) fun sz' sl k x e h=>?_
 .obtain ⟨h1,h2,_⟩:=hoth j b _ hj hb hm;rcases hblk with h|h
  .exact h1 h
  .omega
 .rcases gQ i slots.length with h|h
  .rw [bg h]at hi;cases h0 with
   |@nst _ _ arrA hsz0 hl0 hS0 hK0 ho0 hext0 hfit0 hr0 hv0=>obtain⟨v',q1,q2⟩:=hr0 i s hi;refine⟨v',by rw[hcells i h,ho0.cell];exact q1,?_⟩;cases q2 with|nil=>exact .nil|@bi rows _ b q hSb hKb=>obtain⟨k1,k2⟩:=hin i b ⟨rows,v',hi,(ho0.cell _).trans q1,q.bT⟩;exact .bi (q.mono hs (hrest b k1 k2)) hSb hKb|kU q=>exact .kU (q.mono hs hren)
  .rw [bl h]at hi
   match hd:i-slots.length,hi with
   |0,hi=>
    obtain rfl:=aa hi;obtain rfl:i=slots.length:=by omega
    exact⟨v,hnew,.kU (hr.mono hs hren)⟩
   |d+1,hi=>cases hi
 .cases e;obtain⟨h1,h2⟩:=hp k x h;obtain⟨h3,h4⟩:=hin k x h2
  refine⟨by rcases hblk with q|q
            .rw [q];exact h3
            .omega,fun j b hj hb hm=>(hoth j b x hj hb hm).2.2 k h2,fun k' h'=>?_⟩
  exact((hI.uJ idA sz slots k x hob h2).2 idA sz slots k' hob (hp k' x h').2).2
variable{ρ:Operand->Value}{o:Oper}{H:bh}{nxt:Nat}
theorem KL{t el:TypeId}{x:Operand}{szi idR len:Nat}(ho:o.op=.buildSlice t 1 #[(0,x)])(hu:P.underlying t=some (.slice el))(hs:eM P el=some 1)(hz:gC P el=some [.slice none 0 0])
  (hI:Inv S K w0 Kn φ (ao H) w) (hn:¬Kn nxt) (hsz:0<szi) (hx:e_ S w Kn φ (.c (.bP szi idR 0 len)) (ρ x)):
  cU P o ρ S K w0 w Kn φ (ao H) nxt (nxt+1) (.c (.bP 1 nxt 0 1)) [(nxt,some (.nst szi [.kU idR len]))]:=by
 obtain⟨zv,hzr,hzl,_⟩:=kT hz w;cases hx with
 |c hr=>
 obtain⟨cap,addr,hv,_⟩:=hr.gW;obtain⟨nS,nK⟩:=tP hI;have eG:=fX.push (w:=w) hI.sJ (.cells #[ρ x] el);have hren:ry Kn φ (fun j=>Kn j\/j=nxt) (ext φ nxt ⟨w.heap.size,0,1,1,1⟩):=ga _ hn
 have ha:=hI.alloc hn #[ρ x] el 1 1 (.nst szi [.kU idR len]) (.nst hsz rfl nS nK (qW w _ el) rfl (by simp) (fun i s hi=>by
  match i,hi with
  |0,hi=>obtain rfl:=aa hi;exact⟨ρ x,rfl,.kU (hr.mono eG hren)⟩
  |i+1,hi=>cases hi) (by simp)) (by
  intro sz sl k rows e hk;cases e
  match k,hk with
  |0,hk=>cases hk
  |k+1,hk=>cases hk)
 refine⟨.value (.slice (some ⟨w.heap.size,0,none⟩) 1 1),.slice (some ⟨w.heap.size,0,none⟩) 1 1,_,?_,.inl rfl,a_ _,S,_,eG,⟨fun _ h=>.inl h,hren.dW⟩,.c ?_,ha.sv fun j=>km j⟩
 .simp only[execOp,ho,Sem.run_bind,Instr.buildSlice,bv hu,Result.andThen_ok,fE hs];have hzc:zv.cells= #[.slice none 0 0]:=by rw[<-Array.toList_inj,hzl]
  have hxc:(ρ x).cells= #[ρ x]:=by rw[hv];rfl
  simp[hzr,hzc,Instr.fill,hxc,newRow,run_newObj];rw[show js 1= #[0]from rfl,cj];rfl
 .have e:ext φ nxt ⟨w.heap.size,0,1,1,1⟩ nxt=⟨w.heap.size,0,1,1,1⟩:=by simp[ext]
  have:=RC.bP (S:=S) (w:={w with heap:=w.heap.push (.cells #[ρ x] el)}) (Kn:=nz Kn nxt (nxt+1)) (φ:=ext φ nxt ⟨w.heap.size,0,1,1,1⟩) (id:=nxt) (off:=0) (len:=1) (cap:=1) (addr:=0)
   (.inr (by omega)) (am _) (by rw[e];simp) (by rw[e];simp) (by rw[e])
  rw[e]at this;exact this
theorem Inv.MG{hf:Nat->Option Ob}(h:Inv S K w0 Kn φ hf w)(aF:Array Value)(t:TypeId):Inv S K w0 Kn φ hf {w with heap:=w.heap.push (.cells aF t)}:=h.oV (fX.push h.sJ _) (ry.refl _ _) (fun b hb=>by have:=h.sJ b hb;simp;omega) h.sk (h.nh.push aF t) (fun id o ho=>.inl ⟨ho,fun hown=>by obtain⟨q1,_,q3⟩:=(h.gF id o ho).2.bi hown;exact⟨gm q3,q1⟩⟩) h.nm (h.x_ (ry.refl _ _) fun b hb=>gm hb)
theorem KN{c:kO}{s x:Operand}{st xt el el2:TypeId}(ho:o.op=.call c)(hcal:c.callee=.builtin .append)(hargs:c.args= #[s,x])(hts:c.argTypes= #[st,xt])
  (hus:P.underlying st=some (.slice el)) (hux:P.underlying xt=some (.slice el2)) (hsz:eM P el=some 1) (hz:gC P el=some [.slice none 0 0]) (hby:kI P el=true)
  (hI:Inv S K w0 Kn φ (ao H) w) (hn:¬Kn nxt) {szi idA idB idR len:Nat} {slots:List ko} (hne:idA≠idB) (hA:ao H idA=some (.nst szi slots)) (hB:ao H idB=some (.nst szi [.kU idR len])) (hlim:slots.length+1<=qM)
  (ha:e_ S w Kn φ (.c (.bP 1 idA 0 slots.length)) (ρ s)) (hx:e_ S w Kn φ (.c (.bP 1 idB 0 1)) (ρ x)):
  cU P o ρ S K w0 w Kn φ (ao H) nxt (nxt+1) (.c (.bP 1 nxt 0 (slots.length+1))) [(idA,none),(idB,none),(nxt,some (.nst szi (slots++[.kU idR len])))]:=by
 obtain⟨inf,hinf,hb0,hb1⟩:=oe hby;obtain⟨zv,hzr,hzv,_⟩:=kT hz w;cases ha with
 |c ha=>
 cases hx with
 |c hx=>
 obtain⟨C_,addrB,hvB,hszB,hkB,hcapB,haddrB,hextB,hclB⟩:=hx.gW;obtain⟨capA,addrA,hvA,hszA,hkA,hcapA,haddrA,hextA,hclA⟩:=ha.gW;obtain⟨_,hoB⟩:=hI.gF _ _ hB;obtain⟨_,hoA⟩:=hI.gF _ _ hA
 -- the cell that is appended
 obtain⟨arrB,v,hownB,hgB,hrB⟩:∃arrB v,nL w (φ idB).bT arrB/\arrB[(φ idB).aK]?=some v/\RC S w Kn φ (.bP szi idR 0 len) v:=by
  cases hoB with
  |@nst _ _ arrB hsz0 hl0 hS0 hK0 ho0 hext0 hfit0 hr0 hv0=>obtain⟨v,q1,q2⟩:=hr0 0 _ rfl;cases q2 with|kU q=>exact⟨arrB,v,ho0,q1,q⟩
 have haB:addrB=(φ idB).aK:=by have:=haddrB (by omega);omega
 have hcB:w.cell? ⟨(φ idB).bT,addrB,none⟩=some v:=by rw[hownB.cell,haB];exact hgB
 have hoB1:one v=true:=hrB.one;have hinfo:∀w:World,(typeInfo el).run P w=.ok inf w:=fun w=>by simp[typeInfo,hinf]
 have hzr':∀w:World,(zeroValue el).run P w=.ok zv w:=by intro w';simp only[zeroValue,typeInfo,Sem.run_bind,run_program,Result.andThen_ok,hinf,Sem.run_pure]at hzr|-;cases hzz:inf.zero with|none=>rw[hzz]at hzr;simp at hzr|some q=>rw[hzz]at hzr;simp at hzr|-;exact hzr
 have hunx:∀w:World,(underlying xt).run P w=.ok (.slice el2) w:=bv hux
 have hnx:∀w':World,w'.heap=w.heap->(Builtin.firstCells 1 1 (.slice (some ⟨(φ idB).bT,addrB,none⟩) 1 C_)).run P w'=.ok #[v] w':=fun w' hw=>by
  have:=run_loadCells (P:=P) w' ⟨(φ idB).bT,addrB,none⟩ 1 (fun _=>v) fun j hj=>by
   obtain rfl:j=0:=by omega
   have e:w'.cell? ⟨(φ idB).bT,addrB,none⟩=w.cell? ⟨(φ idB).bT,addrB,none⟩:=by unfold World.cell?;rw[hw]
   rw[lM,cY,e,hcB]
  exact this
 have hnA:nxt≠idA:=fun e=>hn (e▸(hI.gF _ _ hA).1);have hnB:nxt≠idB:=fun e=>hn (e▸(hI.gF _ _ hB).1);generalize hhf:aZ [(idA,none),(idB,none)] (ao H)=hf'
 have hupd:∀ob,aZ [(idA,none),(idB,none),(nxt,some ob)] (ao H)=aZ [(nxt,some ob)] hf':=fun ob=>by
  rw[<-hhf];funext j;simp only[bD,eE];by_cases e1:idA=j
  .rw [if_pos e1,if_neg (fun e=>hnA (e.trans e1.symm)),if_pos e1]
  .by_cases e2:idB=j
   .rw [if_neg e1,if_pos e2,if_neg (fun e=>hnB (e.trans e2.symm)),if_neg e1,if_pos e2]
   .rw [if_neg e1,if_neg e2,if_neg e1,if_neg e2]
 have hk:∀j b,hf' j=some b->ao H j=some b/\j≠idA:=fun j b hj=>by
  rw[<-hhf]at hj;simp only[bD,eE]at hj;by_cases e1:idA=j
  .rw [if_pos e1]at hj;cases hj
  .rw [if_neg e1]at hj;by_cases e2:idB=j
   .rw [if_pos e2]at hj;cases hj
   .rw [if_neg e2]at hj;exact⟨hj,fun e=>e1 e.symm⟩
 have hkill:Inv S K w0 Kn φ hf' w:=hI.ll fun j b hj=>(hk j b hj).1;cases hoA with
 |@nst _ _ arrA hsz0 hl0 hS0 hK0 ho0 hext0 hfit0 hr0 hv0=>
 have hcA:∀i,i<slots.length->∃y,w.cell? ⟨(φ idA).bT,(φ idA).aK+i,none⟩=some y/\arrA[(φ idA).aK+i]?=some y:=fun i hi=>by obtain⟨y,q1,_⟩:=hr0 i slots[i] (az hi);exact⟨y,(ho0.cell _).trans q1,q1⟩
 by_cases hroom:slots.length+1<=capA
 .--there is eL
  have haA:addrA=(φ idA).aK:=by have:=haddrA (by omega);omega
  subst haA;have hfitA:(φ idA).aK+capA<=arrA.size:=by rw[hext0];have:=hextA;rw[hl0]at this;omega
  have hvl:([v]:List Value).length=1:=rfl;obtain⟨p1,p2,p3,p4,p5⟩:=my (w:=w) (b:=(φ idA).bT) (o:=(φ idA).aK+slots.length) (n:=1) (vs:=[v]) ho0 rfl;have hio:Io w (w.setRow (φ idA).bT (arrA.toList.take ((φ idA).aK+slots.length)++[v]++arrA.toList.drop ((φ idA).aK+slots.length+1)).toArray):=⟨rfl,rfl,rfl,am _⟩
  obtain⟨ty,hty⟩:=ho0;have eG:=run_storeCells_at P (φ idA).bT ((φ idA).aK+slots.length) ty [v] 0 arrA w hty (by simp;omega) (fun y hy=>by rw[nH,aq.1 hy];exact hoB1);have ho0:nL w (φ idA).bT arrA:=⟨ty,hty⟩
  simp only[cY,List.length_singleton]at eG;generalize hw':w.setRow (φ idA).bT (arrA.toList.take ((φ idA).aK+slots.length)++[v]++arrA.toList.drop ((φ idA).aK+slots.length+1)).toArray=w' at*;have hfree:∀i b,hf' i=some b->cn b=true->(φ idA).bT∉gJ w φ hf' i:=by intro i b hi hb hm;obtain⟨hi',hne'⟩:=hk i b hi;rw[fR rfl (hi.trans hi'.symm)]at hm;exact mj hI hi' hA hb rfl hne' hm (j9 idA)
  obtain⟨hs1,hI1⟩:=hkill.L3 hS0 hK0 hfree p2 p3 p4 (p5 (by omega)) hio;rw[E4 (by simp;omega)]at p1
  have hg:=CE (l:=⟨(φ idA).bT,(φ idA).aK,1,(φ idA).ext,capA⟩) (idR:=idR) (len:=len) (v:=v) hI hA hk hI1 hs1 (fun y hy _=>p2 y hy) hn (.inl rfl) p1 rfl (by simp;exact hext0) hS0 hK0
   (fun i hi=>by obtain⟨y,q1,q2⟩:=hcA i hi;rw[bc,List.getElem?_set_ne (by simp only;omega),aW,q1];exact q2)
   (by rw[bc,List.getElem?_set_self (by simp;omega)]) hrB (by simp only;omega) (by simp only;omega)
  refine⟨.value (.slice (some ⟨(φ idA).bT,(φ idA).aK,none⟩) (slots.length+1) capA),.slice (some ⟨(φ idA).bT,(φ idA).aK,none⟩) (slots.length+1) capA,w',?_,.inl rfl,a_ _,S,ext φ nxt ⟨(φ idA).bT,(φ idA).aK,1,(φ idA).ext,capA⟩,hs1,⟨fun _ h=>.inl h,(ga _ hn).dW⟩,.c ?_,?_⟩
  .have hn2:=hnx w rfl
   simp only[execOp,ho,hcal,resolve,hargs,Sem.run_bind,Sem.run_pure,Result.andThen_ok,invoke,builtin,Builtin.append_,hts,cj,ap,aN,hvA,hvB,bc,
    bz,bR,bv hus,fE hsz,hunx,Builtin.lenOf,hroom,if_true,lh,hn2,aE,if_false,lM,ld,eG]
  .have e:ext φ nxt ⟨(φ idA).bT,(φ idA).aK,1,(φ idA).ext,capA⟩ nxt=⟨(φ idA).bT,(φ idA).aK,1,(φ idA).ext,capA⟩:=by simp[ext]
   have:=RC.bP (S:=S) (w:=w') (Kn:=nz Kn nxt (nxt+1)) (φ:=ext φ nxt ⟨(φ idA).bT,(φ idA).aK,1,(φ idA).ext,capA⟩) (id:=nxt) (off:=0) (len:=slots.length+1) (cap:=capA) (addr:=(φ idA).aK)
    (.inr (by omega)) hroom (by rw[e];simp) (by rw[e];simp only;omega) (by rw[e];simp)
   rw[e]at this;exact this
  .rw [hupd];exact hg.sv fun j=>km j
 .--there is none
  have hnle:¬slots.length+1<=capA:=hroom
  obtain⟨old,hold,holdS,holdG⟩:∃old:Array Value,(∀w':World,w'.heap=w.heap->(Builtin.firstCells 1 slots.length (.slice (some ⟨(φ idA).bT,addrA,none⟩) slots.length capA)).run P w'=.ok old w')/\old.size=slots.length/\
    ∀i,i<slots.length->old[i]?=w.cell? ⟨(φ idA).bT,(φ idA).aK+i,none⟩:=by
   refine⟨((eJ (slots.length*1)).map fun j=>(w.cell? ⟨(φ idA).bT,addrA+j,none⟩).getD undef).toArray,fun w' hw=>run_loadCells w' ⟨(φ idA).bT,addrA,none⟩ _ (fun j=>(w.cell? ⟨(φ idA).bT,addrA+j,none⟩).getD undef) fun j hj=>?_,by simp,fun i hi=>?_⟩
   .have haA:addrA=(φ idA).aK:=by have:=haddrA (by omega);omega
    obtain⟨y,q1,_⟩:=hcA j (by omega);have:w'.cell? ⟨(φ idA).bT,addrA+j,none⟩=w.cell? ⟨(φ idA).bT,addrA+j,none⟩:=by unfold World.cell?;rw[hw]
    rw[lM,this,haA,q1];rfl
   .have haA:addrA=(φ idA).aK:=by have:=haddrA (by omega);omega
    obtain⟨y,q1,_⟩:=hcA i hi;rw[bc,aL,List.getElem?_range (by omega),haA,bn,q1];rfl
  simp only[qM]at hlim;have hcap:¬Builtin.nextslicecap (slots.length+1) capA*inf.bytes>2^48:=by have h1:=AS hlim (by omega:capA<slots.length+1);have h2:Builtin.nextslicecap (slots.length+1) capA*inf.bytes<=6442454016*16384:=lf h1 hb1;omega
  have hbz:¬inf.bytes=0:=by omega
  obtain⟨newCap,hnc,hnq⟩:∃newCap,slots.length+1<=newCap/\(Question.appendCap (slots.length+1) capA el).cut (w.tape w.drawn (.appendCap (slots.length+1) capA el))=newCap:=⟨_,by simp[Question.cut],rfl⟩
  have zsize:∀m,(Builtin.zeroCells zv.cells m).size=m:=by
   intro m;have:zv.cells.size=1:=by rw[<-ei,hzv];rfl
   simp[Builtin.zeroCells,this]
  have hI1:=(hkill.rj (w.drawn+1) (a_ _)).MG (old++ #[v]++Builtin.zeroCells zv.cells (newCap-(slots.length+1))) el;have hsz1:(old++ #[v]++Builtin.zeroCells zv.cells (newCap-(slots.length+1))).size=newCap:=by simp only[eD,zsize,holdS];simp;omega
  obtain⟨nS,nK⟩:=tP hI;have hs1:fX S w S {({w with drawn:=w.drawn+1}:World)with heap:=w.heap.push (.cells (old++ #[v]++Builtin.zeroCells zv.cells (newCap-(slots.length+1))) el)}:=(fX.rj S w _).trans (fX.push (w:={w with drawn:=w.drawn+1}) hI.sJ _);have hown1:=qW {w with drawn:=w.drawn+1} (old++ #[v]++Builtin.zeroCells zv.cells (newCap-(slots.length+1))) el
  have hg:=CE (l:=⟨w.heap.size,0,1,newCap,newCap⟩) (idR:=idR) (len:=len) (v:=v) hI hA hk hI1 hs1 (fun y _ hy=>gm hy) hn (.inr (am _)) hown1 rfl hsz1 nS nK
   (fun i hi=>by rw[bM (by simp only[eD,holdS];simp;omega),bM (by simp only[holdS];omega)];simp only[Nat.zero_add];exact holdG i hi)
   (by rw[bM (by simp only[eD,holdS];simp),Array.getElem?_append_right (by simp only[holdS];omega)];simp[holdS]) hrB (by simp only;omega) (by simp only;omega)
  refine⟨.value (.slice (some ⟨w.heap.size,0,none⟩) (slots.length+1) newCap),.slice (some ⟨w.heap.size,0,none⟩) (slots.length+1) newCap,_,?_,.inl rfl,a_ _,S,ext φ nxt ⟨w.heap.size,0,1,newCap,newCap⟩,hs1,⟨fun _ h=>.inl h,(ga _ hn).dW⟩,.c ?_,?_⟩
  .have ho2:=hold {w with drawn:=w.drawn+1} rfl;have hn2:=hnx {w with drawn:=w.drawn+1} rfl
   simp only[execOp,ho,hcal,resolve,hargs,Sem.run_bind,Sem.run_pure,Result.andThen_ok,invoke,builtin,Builtin.append_,hts,cj,ap,aN,hvA,hvB,bc,
    bz,bR,bv hus,fE hsz,hunx,Builtin.lenOf,hnle,if_false,hinfo,hcap,hbz,aE,or_self,and_false,run_choose,Question.forced,run_askRoom,ho2,hn2,hzr',newRow,run_newObj,lh,hnq,if_true]
  .have e:ext φ nxt ⟨w.heap.size,0,1,newCap,newCap⟩ nxt=⟨w.heap.size,0,1,newCap,newCap⟩:=by simp[ext]
   have:=RC.bP (S:=S) (w:={({w with drawn:=w.drawn+1}:World)with heap:=w.heap.push (.cells (old++ #[v]++Builtin.zeroCells zv.cells (newCap-(slots.length+1))) el)}) (Kn:=nz Kn nxt (nxt+1)) (φ:=ext φ nxt ⟨w.heap.size,0,1,newCap,newCap⟩) (id:=nxt) (off:=0) (len:=slots.length+1) (cap:=newCap) (addr:=0)
    (.inr (by omega)) hnc (by rw[e];simp) (by rw[e];simp) (by rw[e];simp)
   rw[e]at this;exact this
  .rw [hupd];exact hg.sv fun j=>km j
theorem Ik{c:kO}{s x:Operand}{st xt el el2:TypeId}(ho:o.op=.call c)(hcal:c.callee=.builtin .append)(hargs:c.args= #[s,x])(hts:c.argTypes= #[st,xt])
  (hus:P.underlying st=some (.slice el)) (hux:P.underlying xt=some (.slice el2)) (hsz:eM P el=some 1) (hz:gC P el=some [.slice none 0 0]) (hby:kI P el=true)
  (hI:Inv S K w0 Kn φ (ao H) w) (hn:¬Kn nxt) {szi idB idR len:Nat} (hB:ao H idB=some (.nst szi [.kU idR len]))
  (ha:e_ S w Kn φ (.c (.d (.lit (.slice none 0 0)))) (ρ s)) (hx:e_ S w Kn φ (.c (.bP 1 idB 0 1)) (ρ x)):
  cU P o ρ S K w0 w Kn φ (ao H) nxt (nxt+1) (.c (.bP 1 nxt 0 1)) [(idB,none),(nxt,some (.nst szi [.kU idR len]))]:=by
 obtain⟨inf,hinf,hb0,hb1⟩:=oe hby;obtain⟨zv,hzr,hzv,_⟩:=kT hz w;obtain⟨hvA,_⟩:=ha.lit;cases hx with
 |c hx=>
 obtain⟨C_,addrB,hvB,hszB,hkB,hcapB,haddrB,hextB,hclB⟩:=hx.gW;obtain⟨_,hoB⟩:=hI.gF _ _ hB
 obtain⟨arrB,v,hsz0,hownB,hgB,hrB⟩:∃arrB v,0<szi/\nL w (φ idB).bT arrB/\arrB[(φ idB).aK]?=some v/\RC S w Kn φ (.bP szi idR 0 len) v:=by
  cases hoB with
  |@nst _ _ arrB hsz0 hl0 hS0 hK0 ho0 hext0 hfit0 hr0 hv0=>obtain⟨v,q1,q2⟩:=hr0 0 _ rfl;cases q2 with|kU q=>exact⟨arrB,v,hsz0,ho0,q1,q⟩
 have haB:addrB=(φ idB).aK:=by have:=haddrB (by omega);omega
 have hcB:w.cell? ⟨(φ idB).bT,addrB,none⟩=some v:=by rw[hownB.cell,haB];exact hgB
 have hinfo:∀w:World,(typeInfo el).run P w=.ok inf w:=fun w=>by simp[typeInfo,hinf]
 have hzr':∀w:World,(zeroValue el).run P w=.ok zv w:=by intro w';simp only[zeroValue,typeInfo,Sem.run_bind,run_program,Result.andThen_ok,hinf,Sem.run_pure]at hzr|-;cases hzz:inf.zero with|none=>rw[hzz]at hzr;simp at hzr|some q=>rw[hzz]at hzr;simp at hzr|-;exact hzr
 have hunx:∀w:World,(underlying xt).run P w=.ok (.slice el2) w:=bv hux
 have hnx:∀w':World,w'.heap=w.heap->(Builtin.firstCells 1 1 (.slice (some ⟨(φ idB).bT,addrB,none⟩) 1 C_)).run P w'=.ok #[v] w':=fun w' hw=>by
  have:=run_loadCells (P:=P) w' ⟨(φ idB).bT,addrB,none⟩ 1 (fun _=>v) fun j hj=>by
   obtain rfl:j=0:=by omega
   have e:w'.cell? ⟨(φ idB).bT,addrB,none⟩=w.cell? ⟨(φ idB).bT,addrB,none⟩:=by unfold World.cell?;rw[hw]
   rw[lM,cY,e,hcB]
  exact this
 have hnB:nxt≠idB:=fun e=>hn (e▸(hI.gF _ _ hB).1)
 have hupd:∀ob,aZ [(idB,none),(nxt,some ob)] (ao H)=aZ [(nxt,some ob)] (aZ [(idB,none)] (ao H)):=fun ob=>by
  funext j;simp only[bD,eE];by_cases e2:idB=j
  .rw [if_pos e2,if_neg (fun e=>hnB (e.trans e2.symm)),if_pos e2]
  .rw [if_neg e2,if_neg e2]
 have hkill:Inv S K w0 Kn φ (aZ [(idB,none)] (ao H)) w:=hI.ll fun j b hj=>by
  simp only[bD,eE]at hj;by_cases e2:idB=j
  .rw [if_pos e2]at hj;cases hj
  .rw [if_neg e2]at hj;exact hj
 have hcap:¬Builtin.nextslicecap (0+1) 0*inf.bytes>2^48:=by have h1:=AS (need:=0+1) (cap:=0) (by omega) (by omega);have h2:Builtin.nextslicecap (0+1) 0*inf.bytes<=6442454016*16384:=lf h1 hb1;omega
 have hbz:¬inf.bytes=0:=by omega
 obtain⟨newCap,hnc,hnq⟩:∃newCap,1<=newCap/\(Question.appendCap (0+1) 0 el).cut (w.tape w.drawn (.appendCap (0+1) 0 el))=newCap:=⟨_,by simp[Question.cut],rfl⟩
 have zsize:∀m,(Builtin.zeroCells zv.cells m).size=m:=by
  intro m;have:zv.cells.size=1:=by rw[<-ei,hzv];rfl
  simp[Builtin.zeroCells,this]
 have hsz1:(#[]++ #[v]++Builtin.zeroCells zv.cells (newCap-(0+1))).size=newCap:=by simp only[eD,zsize];simp;omega
 obtain⟨nS,nK⟩:=tP hI;have hren:ry Kn φ (fun j=>Kn j\/j=nxt) (ext φ nxt ⟨w.heap.size,0,1,(#[]++ #[v]++Builtin.zeroCells zv.cells (newCap-(0+1))).size,newCap⟩):=ga _ hn;have hs1:fX S w S {({w with drawn:=w.drawn+1}:World)with heap:=w.heap.push (.cells (#[]++ #[v]++Builtin.zeroCells zv.cells (newCap-(0+1))) el)}:=(fX.rj S w _).trans (fX.push (w:={w with drawn:=w.drawn+1}) hI.sJ _)
 have hal:=(hkill.rj (w.drawn+1) (a_ _)).alloc hn (#[]++ #[v]++Builtin.zeroCells zv.cells (newCap-(0+1))) el 1 newCap (.nst szi [.kU idR len]) (.nst hsz0 rfl nS nK (qW {w with drawn:=w.drawn+1} _ el) rfl (by simp only[List.length_singleton,hsz1];omega) (fun i q hi=>by
  match i,hi with
  |0,hi=>obtain rfl:=aa hi;exact⟨v,by rw[bM (by simp)];rfl,.kU (hrB.mono hs1 hren)⟩
  |i+1,hi=>cases hi) (by simp only[List.length_singleton];omega)) (by
  intro sz sl k rows e hk;cases e
  match k,hk with
  |0,hk=>cases hk
  |k+1,hk=>cases hk)
 refine⟨.value (.slice (some ⟨w.heap.size,0,none⟩) 1 newCap),.slice (some ⟨w.heap.size,0,none⟩) 1 newCap,_,?_,.inl rfl,a_ _,S,ext φ nxt ⟨w.heap.size,0,1,(#[]++ #[v]++Builtin.zeroCells zv.cells (newCap-(0+1))).size,newCap⟩,hs1,⟨fun _ h=>.inl h,hren.dW⟩,.c ?_,?_⟩
 .have hn2:=hnx {w with drawn:=w.drawn+1} rfl;have ho2:∀w':World,(Builtin.firstCells 1 0 (.slice none 0 0)).run P w'=.ok #[] w':=fun w'=>rfl;have hnle:¬(0+1<=0):=by omega
  simp only[execOp,ho,hcal,resolve,hargs,Sem.run_bind,Sem.run_pure,Result.andThen_ok,invoke,builtin,Builtin.append_,hts,cj,ap,aN,hvA,hvB,bc,
   bz,bR,bv hus,fE hsz,hunx,Builtin.lenOf,hnle,if_false,hinfo,hcap,hbz,aE,or_self,and_false,run_choose,Question.forced,run_askRoom,ho2,hn2,hzr',newRow,run_newObj,lh,hnq,if_true]
 .generalize hE:(#[]++ #[v]++Builtin.zeroCells zv.cells (newCap-(0+1))).size=E at*;have e:ext φ nxt ⟨w.heap.size,0,1,E,newCap⟩ nxt=⟨w.heap.size,0,1,E,newCap⟩:=by simp[ext]
  have:=RC.bP (S:=S) (w:={({w with drawn:=w.drawn+1}:World)with heap:=w.heap.push (.cells (#[]++ #[v]++Builtin.zeroCells zv.cells (newCap-(0+1))) el)}) (Kn:=nz Kn nxt (nxt+1)) (φ:=ext φ nxt ⟨w.heap.size,0,1,E,newCap⟩) (id:=nxt) (off:=0) (len:=1) (cap:=newCap) (addr:=0)
   (.inr (by omega)) hnc (by rw[e];simp) (by rw[e];simp;omega) (by rw[e];simp)
  rw[e]at this;exact this
 .rw [hupd];exact hal.sv fun j=>km j
theorem yZ{bq:uX}{e:TypeId}{z:List Value}{m:Nat}(h:FO P bq e z=some m):eM P e=some 1/\z=[.slice none 0 0]/\kI P e=true:=by
 unfold FO at h;split at h
 .rename_i hc;refine⟨hc.2.1,?_,hc.2.2⟩;unfold Fm at h;split at h
  .rename_i hc2;have:=hc2.2;unfold A1 at this;split at this
   .rfl
   .cases this
  .cases h
 .cases h
variable{call:Call}{v:TV}{u:eg}{au:List Nat}{n':Nat}
theorem Ii{t el:TypeId}{x:Operand}{m:Nat}(ho:o.op=.buildSlice t 1 #[(0,x)])(hu:P.underlying t=some (.slice el))(hs:eM P el=some 1)(hz:gC P el=some [.slice none 0 0])
  (hI:Inv S K w0 Kn φ (ao H) w) (hn0:nxt<n'->¬Kn nxt) {tv:Option TV} (hx:∀y,tv=some y->e_ S w Kn φ y (ρ x)) (h:bX call (.Hi m) [tv] H nxt=some (v,u,au,n')):
  cU P o ρ S K w0 w Kn φ (ao H) nxt n' v u:=by
 match tv,h with
 |some (.c x),h=>
  change Es m x nxt=_ at h;unfold Es at h;split at h
  .split at h
   .rename_i hc;obtain⟨rfl,hm⟩:=hc;cases h;exact KL ho hu hs hz hI (hn0 (aQ _)) hm (hx _ rfl)
   .cases h
  .cases h
theorem Ij{c:kO}{s x:Operand}{st xt el el2:TypeId}{m:Nat}(ho:o.op=.call c)(hcal:c.callee=.builtin .append)(hargs:c.args= #[s,x])(hts:c.argTypes= #[st,xt])
  (hus:P.underlying st=some (.slice el)) (hux:P.underlying xt=some (.slice el2)) (hsz:eM P el=some 1) (hz:gC P el=some [.slice none 0 0]) (hby:kI P el=true)
  (hI:Inv S K w0 Kn φ (ao H) w) (hn0:nxt<n'->¬Kn nxt) {ts tx:Option TV} (hs:∀y,ts=some y->e_ S w Kn φ y (ρ s)) (hx:∀y,tx=some y->e_ S w Kn φ y (ρ x)) (h:bX call (.Dg m) [ts,tx] H nxt=some (v,u,au,n')):
  cU P o ρ S K w0 w Kn φ (ao H) nxt n' v u:=by
 match ts,tx,h with
 |some (.c cs),some (.c cx),h=>
  change oE m cs cx H nxt=_ at h;unfold oE at h;split at h
  .rename_i idB;split at h
   .rename_i szB idR len hB;split at h
    .rename_i hsz2;subst hsz2;split at h
     .cases h;exact Ik ho hcal hargs hts hus hux hsz hz hby hI (hn0 (aQ _)) hB (hs _ rfl) (hx _ rfl)
     .rename_i idA n;split at h
      .rename_i szA slots hA;split at h
       .rename_i hc;obtain⟨rfl,rfl,hne,hl⟩:=hc;cases h;exact KN ho hcal hargs hts hus hux hsz hz hby hI (hn0 (aQ _)) hne hA hB hl (hs _ rfl) (hx _ rfl)
       .cases h
      .cases h
     .cases h
    .cases h
   .cases h
  .cases h
end
section
variable{P:Program}{S K:Nat->Prop}{w0 w:World}{Kn:Nat->Prop}{φ:Nat->gi}{H:bh}{ρ:Operand->Value}{o:Oper}{call:Call}
 {nxt n':Nat} {v:TV} {u:eg} {au:List Nat}
theorem se.vw{T:Nat->Prop}{x:TV}{cs:List C}{ds:List D}{val:Value}(hr:e_ S w Kn φ x val)(hc:cellsOf x=some cs)(hl:ds.length=cs.length)
  (hd:∀(i:Nat)(d:D),ds[i]?=some d->∃v,val.cells.toList[i]?=some v/\RD T w d v):se T w (qd x) ds val:=by
 cases hr with
 |@c x v h=>
  obtain rfl:[x]=cs:=by simpa[cellsOf]using hc
  have e:=rW h.one
  match ds,hl,hd with
  |[d],_,hd=>
   obtain⟨v',h1,h2⟩:=hd 0 d rfl;rw[e]at h1;obtain rfl:val=v':=by simpa using h1
   exact⟨d,rfl,h2⟩
 |@agg cs' aF hlen h=>
  obtain rfl:cs'=cs:=by simpa[cellsOf]using hc
  refine⟨aF,rfl,hl.trans hlen,fun i x hi=>?_⟩;obtain⟨v',h1,h2⟩:=hd i x hi;have h1:aF.toList[i]?=some v':=h1;have e:aF.getD i undef=v':=by rw[aW]at h1;simp[h1]
  rw[e];exact h2
 |gB=>simp[cellsOf]at hc
theorem oJ.put{ka va:Bool}{es:List rt}{ms:Array MapEntry}(hE:oJ S w ka va es ms.toList){i:Nat}(hi:i<es.length){ds:List D}{kv x:Value}(hk:Bw ka (es.getD i default).1 kv)(hx:se S w va ds x):
  oJ S w ka va (es.set i ((es.getD i default).1,ds,(es.getD i default).2.2)) (ms.modify i (fun e=>{e with key:=kv,val:=x})).toList:=by
 obtain⟨e0,e1,e3,e4⟩:=hE.JL (j:=i) (by rw[<-hE.1];exact hi);refine⟨by simp[hE.1],fun j e m hj hm=>?_⟩;have hm':(ms.modify i (fun e=>{e with key:=kv,val:=x}))[j]?=some m:=by rw[<-aW];exact hm
 rw[Array.getElem?_modify]at hm';rw[List.getElem?_set]at hj;by_cases hij:i=j
 .subst hij;rw[if_pos rfl]at hm' hj;rw[if_pos hi]at hj;obtain rfl:=aa hj;have ea:ms[i]?=some (ms.toList.getD i default):=by rw[<-e0];simp
  rw[ea]at hm';obtain rfl:({ms.toList.getD i default with key:=kv,val:=x}:MapEntry)=m:=by simpa using hm'
  exact⟨hk,hx,e4⟩
 .rw [if_neg hij]at hm' hj;exact hE.2 j e m hj (by simpa using hm')
theorem oJ.push{ka va:Bool}{es:List rt}{ms:Array MapEntry}(hE:oJ S w ka va es ms.toList){key:List Value}{ds:List D}{kv x:Value}{bN:Nat}(hk:Bw ka key kv)(hx:se S w va ds x):
  oJ S w ka va (es++[(key,ds,bN)]) (ms.push {key:=kv,val:=x,born:=bN}).toList:=by
 refine⟨by simp[hE.1],fun i e m hi hm=>?_⟩;rw[Array.toList_push]at hm;rcases gQ i es.length with hlt|hge
 .rw [bg hlt]at hi;rw[bg (by rw[<-hE.1];exact hlt)]at hm;exact hE.2 i e m hi hm
 .rw [bl hge]at hi;rw[bl (by rw[<-hE.1];exact hge),<-hE.1]at hm;have h0:i-es.length=0:=by have:=(aj.1 hi).1;simp at this;omega
  rw[h0]at hi hm;obtain rfl:(key,ds,bN)=e:=by simpa using hi
  obtain rfl:MapEntry.mk kv x bN=m:=by simpa using hm
  exact⟨hk,hx,rfl⟩
theorem oJ.mC{ka va:Bool}{es:List rt}{ms:Array MapEntry}(hE:oJ S w ka va es ms.toList)(i:Nat):oJ S w ka va (es.eraseIdx i) (ms.eraseIdxIfInBounds i).toList:=by
 have e:(ms.eraseIdxIfInBounds i).toList=ms.toList.eraseIdx i:=by
  unfold Array.eraseIdxIfInBounds;split
  .simp
  .rename_i h;rw[List.eraseIdx_of_length_le (by simpa using h)]
 rw[e];refine⟨by simp[List.length_eraseIdx,hE.1],fun j x m hj hm=>?_⟩;rw[List.getElem?_eraseIdx]at hj hm;split at hj
 .rename_i h;rw[if_pos h]at hm;exact hE.2 j x m hj hm
 .rename_i h;rw[if_neg h]at hm;exact hE.2 (j+1) x m hj hm
theorem Gl{t kt et:TypeId}{ka va:Bool}{ks:List Kd}{z:List Value}{n:Nat}{m ix x:Operand}(ho:o.op=.mapUpdate t m ix x)(hu:P.underlying t=some (.map kt et))
  (hm:qX P kt et=some (ka,ks,va,z)) (hI:Inv S K w0 Kn φ (ao H) w) {tm tk tx:Option TV} (hx:∀y,tm=some y->e_ S w Kn φ y (ρ m)) (hy:∀y,tk=some y->e_ S w Kn φ y (ρ ix))
  (hz:∀y,tx=some y->e_ S w Kn φ y (ρ x)) (h:bX call (.sQ ka ks va n) [tm,tk,tx] H nxt=some (v,u,au,n')):cU P o ρ S K w0 w Kn φ (ao H) nxt n' v u:=by
 match tm,tk,tx,h,hx,hy,hz with
 |some (.c mc),some k,some xv,h,hx,hy,hz=>
  change (match rT ka ks va n mc k xv H with|some (u,au)=>some (TV.gB [],u,au,nxt)|none=>none)=_ at h;split at h
  .rename_i u1 ids1 hl;obtain⟨rfl,rfl,rfl,rfl⟩:TV.gB []=v/\u1=u/\ids1=au/\nxt=n':=by simpa using h
   simp only[qX]at hm;split at hm
   .rename_i ka' ks' va' z' hag hk hae hz';split at hm
    .obtain ⟨rfl,rfl,rfl,rfl⟩:ka'=ka/\ks'=ks/\va'=va/\z'=z:=by simpa using hm
     have hrm:=hx _ rfl;generalize hv1:ρ m=vm at hrm;unfold rT at hl;split at hl
     .rename_i id key cs hkey hcs;obtain⟨hkv,hkl,hrk⟩:=mA hkey (hy _ rfl);split at hl
      .rename_i ds ids2 hvw;split at hl
       .rename_i fu hfz;split at hl
        .rename_i ka2 va2 es bN hob;split at hl
         .rename_i hc;obtain⟨rfl,rfl,hn,hag2,hnm⟩:=hc;have hnm:id∉ids2:=by simpa using hnm
          cases hrm with
          |c hrm=>
           cases hrm with
           |om hkn=>
            have hcr:=(hz _ rfl).cr hcs
            obtain⟨hdl,hds⟩:=oR hI cs ds ids2 hvw (fun i=>(ρ x).cells.toList[i]?) (fun i c hi=>by
             have hlt:i<(ρ x).cells.toList.length:=by rw[<-hcr.1];exact(aj.1 hi).1
             exact⟨_,az hlt,hcr.2 i c _ hi (az hlt)⟩)
            have hval:=se.vw (hz _ rfl) hcs hdl hds;rw[hag2]at hval;have hI1:=hI.A_ hfz;have hob1:aZ fu (ao H) id=some (.map ka2 va2 es bN):=by simp only[aZ,(j7 ids2 fu hfz id).2 hnm,hob]
            obtain⟨_,h0⟩:=hI1.gF _ _ hob1;obtain⟨ms,hms,hE⟩:=h0.Jh;have hck:=nC (P:=P) false 9992 8 kt ks' hk ka2 hag _ w hkl;split at hl
            .rename_i i hfe;obtain⟨f1,f2⟩:=lk (P:=P) hk hag hE hfe;obtain⟨f3,f4⟩:=f2 i rfl;obtain⟨e0,e1,e3,e4⟩:=hE.JL f3;obtain⟨_,hqq⟩:=CP hfe;obtain⟨_,ag,hag',hone⟩:=uz 8 kt ks' hk;obtain rfl:ka2=ag:=aa (hag.symm.trans hag');have hold:(ms.toList.getD i default).key=qL ka2 key:=by rw[e1.qL,<-f4]
             obtain⟨rfl,rfl⟩:=ad (aa hl);have ea:ms[i]?=some (ms.toList.getD i default):=by rw[<-e0];simp
             have hE':=hE.put (i:=i) (kv:=qL ka2 key) (x:=ρ x) (ds:=ds) (by rw[hE.1];exact f3) (by rw[<-hold];exact e1) hval;obtain⟨hs,hI'⟩:=hI1.uG (clock':=bN) hob1 hms hE';refine⟨.skip,undef,{w with heap:=w.heap.setIfInBounds (φ id).bT (.map (ms.modify i (fun e=>{e with key:=qL ka2 key,val:=ρ x})) bN)},?_,.inr ⟨rfl,rfl⟩,hI.zO ((SB.sH ids2).trans hs) hI' ?_⟩
             .have eG:=Cw (P:=P) (w:=w) hold (u9 (n:=9999) hone hqq);simp only[execOp,ho,Instr.mapUpdate,hv1,Sem.run_bind,bv hu,Result.andThen_ok,j4 hms,hkv];rw[show(10000:Nat)=8+9992 from rfl,hck];simp only[Result.andThen_ok,Sem.run_bind,f1,bn,ea,cm,eG,ma _ hms,Sem.run_pure]
             .rw [<-dL];rfl
            .rename_i hfe;obtain⟨f1,_⟩:=lk (P:=P) hk hag hE hfe;obtain⟨rfl,rfl⟩:=ad (aa hl);have hE':=hE.push (bN:=bN) (kv:=qL ka2 key) (x:=ρ x) (ds:=ds) (key:=key) (hkv▸hrk) hval;obtain⟨hs,hI'⟩:=hI1.uG (clock':=bN+1) hob1 hms hE';refine⟨.skip,undef,{w with heap:=w.heap.setIfInBounds (φ id).bT (.map (ms.push {key:=qL ka2 key,val:=ρ x,born:=bN}) (bN+1))},?_,.inr ⟨rfl,rfl⟩,hI.zO ((SB.sH ids2).trans hs) hI' ?_⟩
             .simp only[execOp,ho,Instr.mapUpdate,hv1,Sem.run_bind,bv hu,Result.andThen_ok,j4 hms,hkv];rw[show(10000:Nat)=8+9992 from rfl,hck];simp only[Result.andThen_ok,Sem.run_bind,f1,fL,ma _ hms,Sem.run_pure]
             .rw [<-dL];rfl
            .simp at hl
         .simp at hl
        .simp at hl
       .simp at hl
      .simp at hl
     .simp at hl
    .simp at hm
   .simp at hm
  .simp at h
theorem Gm{c:kO}{t kt et kt2:TypeId}{ka va:Bool}{ks:List Kd}{z:List Value}{m ix:Operand}(ho:o.op=.call c)(hcal:c.callee=.builtin .delete)(hargs:c.args= #[m,ix])(hts:c.argTypes= #[t,kt2])
  (hu:P.underlying t=some (.map kt et)) (hm:qX P kt et=some (ka,ks,va,z)) (hI:Inv S K w0 Kn φ (ao H) w) {tm tk:Option TV} (hx:∀y,tm=some y->e_ S w Kn φ y (ρ m)) (hy:∀y,tk=some y->e_ S w Kn φ y (ρ ix))
  (h:bX call (.sR ka ks) [tm,tk] H nxt=some (v,u,au,n')):cU P o ρ S K w0 w Kn φ (ao H) nxt n' v u:=by
 match tm,tk,h,hx,hy with
 |some (.c mc),some k,h,hx,hy=>
  change (match rU ka ks mc k H with|some (u,au)=>some (TV.gB [],u,au,nxt)|none=>none)=_ at h;split at h
  .rename_i u1 ids1 hl;obtain⟨rfl,rfl,rfl,rfl⟩:TV.gB []=v/\u1=u/\ids1=au/\nxt=n':=by simpa using h
   simp only[qX]at hm;split at hm
   .rename_i ka' ks' va' z' hag hk hae hz';split at hm
    .obtain ⟨rfl,rfl,rfl,rfl⟩:ka'=ka/\ks'=ks/\va'=va/\z'=z:=by simpa using hm
     have hrm:=hx _ rfl;generalize hv1:ρ m=vm at hrm;have unit:∀{w':World},e_ S w' Kn φ (.gB []) (.tuple #[]):=.gB rfl fun i x hi=>by simp at hi
     unfold rU at hl;split at hl
     .rename_i key hkey;obtain⟨hkv,hkl,_⟩:=mA hkey (hy _ rfl);obtain⟨rfl,_⟩:=hrm.lit;obtain⟨rfl,rfl⟩:=ad (aa hl);have hck:=nC (P:=P) true 9992 8 kt ks' hk ka' hag _ w hkl;refine cU.pure hI ?_ unit
      simp only[execOp,ho,hcal,resolve,hargs,Sem.run_bind,Sem.run_pure,Result.andThen_ok,invoke,builtin,Builtin.delete_,hts,cj,ap,aN,hv1,hkv,bc,
       bz,bR,bv hu]
      rw[show(10000:Nat)=8+9992 from rfl,hck];simp only[Result.andThen_ok,Sem.run_pure]
     .rename_i id key hkey;obtain⟨hkv,hkl,_⟩:=mA hkey (hy _ rfl);split at hl
      .rename_i ka2 va2 es bN hob;split at hl
       .rename_i hkv2;subst hkv2;cases hrm with
        |c hrm=>
         cases hrm with
         |om hkn=>
          obtain⟨_,h0⟩:=hI.gF _ _ hob;obtain⟨ms,hms,hE⟩:=h0.Jh;have hck:=nC (P:=P) ms.isEmpty 9992 8 kt ks' hk ka2 hag _ w hkl;split at hl
          .rename_i i hfe;obtain⟨f1,_⟩:=lk (P:=P) hk hag hE hfe;obtain⟨rfl,rfl⟩:=ad (aa hl);obtain⟨hs,hI'⟩:=hI.uG (clock':=bN) hob hms (hE.mC i);refine⟨.value (.tuple #[]),_,{w with heap:=w.heap.setIfInBounds (φ id).bT (.map (ms.eraseIdxIfInBounds i) bN)},?_,.inl rfl,kp.set hs hI' unit⟩
           simp only[execOp,ho,hcal,resolve,hargs,Sem.run_bind,Sem.run_pure,Result.andThen_ok,invoke,builtin,Builtin.delete_,hts,cj,ap,aN,hv1,hkv,bc,
            bz,bR,bv hu,j4 hms]
           rw[show(10000:Nat)=8+9992 from rfl,hck];simp only[Result.andThen_ok,Sem.run_bind,f1,bn,ma _ hms,Sem.run_pure]
          .rename_i hfe;obtain⟨f1,_⟩:=lk (P:=P) hk hag hE hfe;obtain⟨rfl,rfl⟩:=ad (aa hl);obtain⟨hs,hI'⟩:=hI.uG (clock':=bN) hob hms hE;refine⟨.value (.tuple #[]),_,{w with heap:=w.heap.setIfInBounds (φ id).bT (.map ms bN)},?_,.inl rfl,kp.set hs hI' unit⟩
           simp only[execOp,ho,hcal,resolve,hargs,Sem.run_bind,Sem.run_pure,Result.andThen_ok,invoke,builtin,Builtin.delete_,hts,cj,ap,aN,hv1,hkv,bc,
            bz,bR,bv hu,j4 hms]
           rw[show(10000:Nat)=8+9992 from rfl,hck];simp only[Result.andThen_ok,Sem.run_bind,f1,fL,ma _ hms,Sem.run_pure]
          .simp at hl
       .simp at hl
      .simp at hl
     .simp at hl
    .simp at hm
   .simp at hm
  .simp at h
variable{e:hZ}
theorem KM{t el:TypeId}{len n:Nat}{parts:Array (Nat×Operand)}{z:List Value}(ho:o.op=.buildSlice t len parts)(hu:P.underlying t=some (.slice el))
  (hs:eM P el=some (n+1)) (hz:gC P el=some z) (hlim:len*(n+1)<=4096/\z.length=n+1)
  (hI:Inv S K w0 Kn φ (ao H) w) (hn0:nxt<n'->¬Kn nxt) (hρ:∀x tv,jB e x=some tv->e_ S w Kn φ tv (ρ x))
  (h:bX call (.NP (n+1) len ((eJ (len*(n+1))).map fun i=>z.getD (i %(n+1)) undef) (parts.toList.map (·.1))) ((parts.toList.map (·.2)).map (jB e)) H nxt=some (v,u,au,n')):
  cU P o ρ S K w0 w Kn φ (ao H) nxt n' v u:=by
 generalize hzs:((eJ (len*(n+1))).map fun i=>z.getD (i %(n+1)) undef)=zs at h
 change (match dz ((parts.toList.map (·.2)).map (jB e))with
  |some xs=>
   (match kE (eQ zs) (((parts.toList.map fun(p:Nat×Operand)=>p.1).map fun i=>(i*(n+1),n+1)).zip xs)with
   |some cs=>some (TV.c (.bP (n+1) nxt 0 len),[(nxt,some (Ob.box cs))],([]:List Nat),nxt+1)
   |none=>none)
  |none=>none)=_ at h
 split at h
 .rename_i xs hxs;split at h
  .rename_i cs hcs;obtain⟨rfl,rfl,rfl,rfl⟩:TV.c (.bP (n+1) nxt 0 len)=v/\[(nxt,some (Ob.box cs))]=u/\[]=au/\nxt+1=n':=by simpa using h
   have hn:=hn0 (aQ _);obtain⟨hl,hr⟩:=tf hρ hxs;obtain⟨zv,hzr,hzl,hzp⟩:=kT hz w
   have hzp':∀x∈zs,eR x=true:=by
    intro x hx;rw[<-hzs]at hx;obtain⟨i,_,rfl⟩:=eh.1 hx;have hlt:i %(n+1)<z.length:=by rw[hlim.2];exact Nat.mod_lt _ (cQ _)
    have:z.getD (i %(n+1)) undef=z[i %(n+1)]:=by simp[List.getD,hlt]
    rw[this];exact hzp _ (lB hlt)
   have hzero:∃zc:Array Value,(len*(n+1)=0->zc= #[])/\(¬len*(n+1)=0->zc=zv.cells)/\
     ((js (len*(n+1))).map (fun i=>zc[i %zc.size]!)).toList=zs:=by
    by_cases hc:len*(n+1)=0
    .refine ⟨#[],fun _=>rfl,fun h=>absurd hc h,?_⟩;rw[<-hzs,hc];simp
    .refine ⟨zv.cells,fun h=>absurd h hc,fun _=>rfl,?_⟩;rw[sC hzl hlim.2 (cQ _),hzs]
   obtain⟨zc,hzc,hzc1,hzc2⟩:=hzero
   obtain⟨arr',h3,h4⟩:=uL (S:=S) (w:=w) (Kn:=Kn) (φ:=φ) (ρ:=ρ) (fun i=>some (i*(n+1),n+1)) parts.toList _ xs (eQ zs) cs ((js (len*(n+1))).map (fun i=>zc[i %zc.size]!))
    (by simp) (fun i p q hp hq=>by simp only[aL,hp,bn]at hq;exact hq) (by simpa using hl)
    (fun i p x hp hx=>hr i p.2 x (by simp only[aL,hp,bn]) hx) (by rw[hzc2];exact AY hzp') hcs
   obtain⟨h5,h6⟩:=yN h4
   have hcl:cs.length=len*(n+1):=by
    have:∀(l:List ((Nat×Nat)×TV))(a b:List C),kE a l=some b->b.length=a.length:=by
     intro l;induction l with
     |nil=>
      intro a b h;obtain rfl:a=b:=by simpa[kE]using h
      rfl
     |cons p l ih=>
      intro a b h;obtain⟨⟨off,m⟩,x⟩:=p;simp only[kE]at h;split at h
      .split at h
       .rename_i hb;rw[ih _ _ h,eA _ _ _ (by omega)]
       .simp at h
      .simp at h
    rw[this _ _ _ hcs,<-hzs];simp[eQ]
   obtain⟨nS,nK⟩:=tP hI;have eG:=fX.push (w:=w) hI.sJ (.cells arr' el);have hren:ry Kn φ (fun j=>Kn j\/j=nxt) (ext φ nxt ⟨w.heap.size,0,n+1,arr'.size,len⟩):=ga _ hn;have ha:=hI.alloc hn arr' el (n+1) len (.box cs) (.box rfl nS nK (qW w _ el) h5 fun i x hi=>(h6 i x hi).mono eG hren);refine⟨.value (.slice (some ⟨w.heap.size,0,none⟩) len len),.slice (some ⟨w.heap.size,0,none⟩) len len,_,?_,.inl rfl,a_ _,S,_,eG,⟨fun _ h=>.inl h,hren.dW⟩,.c ?_,ha.sv fun j=>km j⟩
   .have h3':Instr.fill (fun i=>some (i*(n+1),n+1)) ((js (len*(n+1))).map (fun i=>zc[i %zc.size]!)) (parts.map fun p=>(p.1,ρ p.2)).toList=some arr':=by rw[<-h3];simp
    have hlim':¬len*(n+1)>2^24:=by have:=hlim.1;omega
    simp only[execOp,ho,Sem.run_bind,Instr.buildSlice,bv hu,Result.andThen_ok,fE hs,if_neg hlim'];by_cases hc:len*(n+1)=0
    .rw [hzc hc]at h3';simp only[if_pos hc,Sem.run_bind,Sem.run_pure,Result.andThen_ok,h3',newRow,run_newObj]
    .rw [hzc1 hc]at h3';simp only[if_neg hc,Sem.run_bind,hzr,Sem.run_pure,Result.andThen_ok,h3',newRow,run_newObj]
   .have e:ext φ nxt ⟨w.heap.size,0,n+1,arr'.size,len⟩ nxt=⟨w.heap.size,0,n+1,arr'.size,len⟩:=by simp[ext]
    have:=RC.bP (S:=S) (w:={w with heap:=w.heap.push (.cells arr' el)}) (Kn:=nz Kn nxt (nxt+1)) (φ:=ext φ nxt ⟨w.heap.size,0,n+1,arr'.size,len⟩) (id:=nxt) (off:=0) (len:=len) (cap:=len) (addr:=0)
     (.inr (by omega)) (am _) (by rw[e];simp) (by rw[e];simp only;omega) (by rw[e];simp)
    rw[e]at this;exact this
  .simp at h
 .simp at h
theorem MM{t el:TypeId}{x i:Operand}{sz:Nat}(ho:o.op=.indexAddr t x i)(hu:P.underlying t=some (.slice el))(hsz:eM P el=some sz)
  (hI:Inv S K w0 Kn φ (ao H) w) {tx ti:Option TV} (hx:∀y,tx=some y->e_ S w Kn φ y (ρ x)) (hi:∀y,ti=some y->e_ S w Kn φ y (ρ i))
  (h:bX call (.SM sz) [tx,ti] H nxt=some (v,u,au,n')):cU P o ρ S K w0 w Kn φ (ao H) nxt n' v u:=by
 match tx,h,hx with
 |some (.c c),h,hx=>
  change (match ci ti with|some i=>(match Je sz c i with|some y=>some (TV.c y,([]:eg),([]:List Nat),nxt)|none=>none)|none=>none)=_ at h;split at h
  .rename_i n hn;obtain⟨k,hk⟩:=iE hn hi;split at h
   .rename_i y hy;obtain⟨rfl,rfl,rfl,rfl⟩:TV.c y=v/\[]=u/\[]=au/\nxt=n':=by simpa using h
    have hr:=hx _ rfl;generalize hv0:ρ x=val at hr;cases hr with
    |c hr=>
     unfold Je at hy;split at hy
     .rename_i sz' id off len;split at hy
      .rename_i hb;obtain⟨h0,h1,rfl⟩:=hb;obtain rfl:=aa hy;cases hr with
       |@bP _ _ _ cap addr hkn hcap haddr hext=>
        have run:(execOp ρ o).run P w=.ok (.value (.pointer (some ⟨(φ id).bT,addr+n.toNat*(φ id).sz,none⟩))) w:=by simp[execOp,ho,hv0,Instr.indexAt,mx hk,bv hu,h0,h1,fE hsz,lM]
        refine cU.pure hI run (.c ?_);have ha:=haddr (by omega);have e1:addr+n.toNat*(φ id).sz=(φ id).aK+(off+n.toNat)*(φ id).sz:=by rw[ha,Nat.add_mul];omega
        rw[e1];exact .op hkn
      .simp at hy
     .simp at hy
   .simp at h
  .simp at h
end
section
variable{P:Program}{S K:Nat->Prop}{w0 w:World}{Kn:Nat->Prop}{φ:Nat->gi}{hf:Nat->Option Ob}{H:bh}{e:hZ}{ρ:Operand->Value}{o:Oper}{call:Call}{a:Act}
 {nxt n':Nat} {v:TV} {u:eg} {au:List Nat}
def LY(P:Program)(o:Oper)(a:Act)(S K:Nat->Prop)(w0 w:World)(Kn:Nat->Prop)(φ:Nat->gi)(hf:Nat->Option Ob)(nxt n':Nat)(v:TV)(u:eg):Prop:=∀(next:Act->World->Prop)(Q:Exit->Act->World->Prop),(∀val w',kp S K w0 w Kn φ hf nxt n' v u val w'->next (a.put o.dst val) w')->o.wp P a w next Q
theorem cU.jM(h:cU P o a.eval S K w0 w Kn φ hf nxt n' v u):LY P o a S K w0 w Kn φ hf nxt n' v u:=by
 intro next Q hn
 obtain⟨nx,val,w',hr,hx,hd⟩:=h;unfold Oper.wp;rw[hr];rcases hx with rfl|⟨rfl,rfl⟩
 .exact hn _ _ hd
 .exact hn _ _ hd
theorem DN{tvs:List TV}{vs:List Value}(hl:tvs.length=vs.length)(h:∀(i:Nat)(t:TV)(v:Value),tvs[i]?=some t->vs[i]?=some v->e_ S w Kn φ t v):e_ S w Kn φ (sK tvs) (x9 vs):=by
 have CG:e_ S w Kn φ (.gB tvs) (.tuple vs.toArray):=by
  refine .gB (by simpa using hl) fun i x hi=>?_;have hlt:i<vs.length:=by rw[<-hl];exact(aj.1 hi).1
  have:=h i x vs[i] hi (az hlt);simpa[hlt]using this
 match tvs,vs,hl,h,CG with|[],[],_,_,CG=>exact CG|[t],[v],_,h,_=>exact h 0 t v rfl rfl|_::_::_,_::_::_,_,_,CG=>exact CG
theorem RD.Fu{S':Nat->Prop}{w':World}{v x:Value}(h:RD S w (.lit v) x):RD S' w' (.lit v) x:=by cases h with|lit h=>exact .lit h|nan hn hm=>exact .nan hn hm|ex=>exact .ex
theorem Dl.eQ{S':Nat->Prop}:∀{rs:List R}{vs:List Value}{fp:List Nat},rs.all wg=true->Dl S w rs vs fp->Dl S' w rs vs []:=by
 intro rs;induction rs with
 |nil=>intro vs fp _ h;cases vs with|nil=>rfl|cons v vs=>exact h.elim
 |cons r rs ih=>
  intro vs fp hl h;cases vs with
  |nil=>exact h.elim
  |cons v vs=>
   simp only[fJ,ah]at hl;obtain⟨f1,f2,_,h1,h2⟩:=h;refine⟨[],[],rfl,?_,ih hl.2 h2⟩;have hl1:=hl.1;cases r with
   |c t=>
    cases t with
    |d x=>
     cases x with
     |lit y=>have h1:RT S w (.d (.lit y)) v f1:=h1;cases h1 with|d hd=>exact RT.d hd.Fu
     |_=>simp[wg]at hl1
    |_=>simp[wg]at hl1
   |agg ts=>
    obtain⟨aF,fps,rfl,q1,q2,q3,q4⟩:=h1;refine⟨aF,fps.map fun _=>[],rfl,q1,by simpa using q2,by simp,fun i t f hi hfi=>?_⟩;simp only[wg,aV]at hl1;have ht:=hl1 t (bd hi);obtain rfl:f=[]:=by rw[aL]at hfi;obtain⟨_,_,rfl⟩:=aM.1 hfi;rfl
    have hlt:i<fps.length:=by rw[q2];exact(aj.1 hi).1
    have:=q4 i t fps[i] hi (az hlt);generalize fps[i]=g at this;cases t with
    |d x=>
     cases x with
     |lit y=>cases this with|d hd=>exact RT.d hd.Fu
     |_=>simp at ht
    |_=>simp at ht
theorem Inv.after{S':Nat->Prop}{w':World}{fp:List Nat}(hI:Inv S K w0 Kn φ hf w)(hs:fX S w S' w')(hsub:∀b,S' b->S b\/b∈fp\/w.heap.size<=b)(hlt:∀b,S' b->b<w'.heap.size)
  (hfp:∀b∈fp,¬K b) (haw:ug w φ hf fp) (hfrm:FS (fun b=>b<w.heap.size/\b∉fp) w w'):Inv S' K w0 Kn φ hf w':=by
 refine hI.oV hs (ry.refl _ _) hlt (fun b hb hK=>?_) ⟨hI.nh.Ed,fun b hb=>?_,e9 hI.nh.sx hfrm.sx,fun a ha=>(hfrm.Ad a (dY ha hI.nh.sx)).trans (hI.nh.Ad a ha),fun b aF ho=>?_,hI.nh.io.trans hfrm.io⟩ (fun id o ho=>.inl ⟨ho,fun hown=>?_⟩) hI.nm ?_
 .have h1:b<w.heap.size:=dY (hI.nh.Ed b hK) hI.nh.sx;rcases hsub b hb with h|h|h
  .exact hI.sk b h hK
  .exact hfp b h hK
  .omega
 .have h1:b<w.heap.size:=dY (hI.nh.Ed b hb) hI.nh.sx;exact(hfrm.md b ⟨h1,fun h=>hfp b h hb⟩).trans (hI.nh.md b hb)
 .obtain ⟨a1,h1,h2⟩:=hI.nh.bi b aF ho;obtain⟨a2,h3,h4⟩:=hfrm.bi b a1 h1;exact⟨a2,h3,h4.trans h2⟩
 .obtain ⟨h1,h2,h3⟩:=(hI.gF id o ho).2.bi hown;have h4:=haw id o ho hown _ (j9 id);refine⟨hfrm.md _ ⟨h3,h4⟩,fun h=>?_⟩;rcases hsub _ h with h|h|h
  .exact h1 h
  .exact h4 h
  .omega
 .intro id sz sl ho;have h4:=haw id _ ho rfl
  have key:∀x∈gJ w φ hf id,w'.heap[x]?=w.heap[x]?/\¬S' x:=fun x hx=>by
   obtain⟨h1,_,h3⟩:=og hI ho rfl hx;refine⟨hfrm.md _ ⟨h3,h4 x hx⟩,fun h=>?_⟩;rcases hsub _ h with h|h|h
   .exact h1 h
   .exact h4 x hx h
   .omega
  refine⟨ho,(key _ (j9 id)).1,fun k x hp=>?_⟩;obtain⟨q1,q2⟩:=key x (dP.2 (.inr ⟨sz,sl,k,ho,hp⟩));exact⟨q1,q2,(hI.uJ id sz sl k x ho hp).1⟩
theorem RT.eR{S0:Nat->Prop}{t:T}{v:Value}{fp:List Nat}(h:DT t=true)(hr:RT S w t v fp):RT S0 w t v fp:=by
 cases hr with
 |d hd=>cases hd with|lit hp=>exact .d (.lit hp)|nan hn hm=>exact .d (.nan hn hm)|ex=>exact .d .ex|_=>simp[DT]at h
 |sl h0 ho hl hc he hr=>refine .sl h0 ho hl hc he ⟨hr.1,fun i r hi j x hj=>?_⟩;obtain⟨v,h1,h2⟩:=hr.2 i r hi j x hj;simp only[DT]at h;have hx:=aV.1 (aV.1 h r (bd hi)) x (bd hj);refine⟨v,h1,?_⟩;cases h2 with|lit hp=>exact .lit hp|nan hn hm=>exact .nan hn hm|ex=>exact .ex|_=>simp at hx
 |_=>simp[DT]at h
theorem JY.eR{S0:Nat->Prop}:∀{ts:List T}{vs:List Value}{fp:List Nat},ts.all DT=true->JY S w ts vs fp->JY S0 w ts vs fp:=by
 intro ts;induction ts with
 |nil=>intro vs fp _ h;cases vs<;>exact h
 |cons t ts ih=>intro vs fp h hr;simp only[fJ,ah]at h;cases vs with|nil=>exact hr|cons v vs=>obtain⟨f1,f2,e,h1,h2⟩:=hr;exact⟨f1,f2,e,h1.imp id (RT.eR h.1),ih h.2 h2⟩
theorem Left.eR{S0:Nat->Prop}{fp:List Nat}{rs:List R}{outs:List T}{lent:List Value}{v:Value}{w':World}(h:Left S w fp rs outs lent v w')(hS:∀b,S0 b->S b)(h1:rs.all wg=true)(h2:outs.all DT=true):Left S0 w fp rs outs lent v w':=by
 obtain⟨S',ki,fp1,fp2,rfl,hs,hsub,hlt,hrr,hrt,hnd,hb,hfrm⟩:=h;refine⟨S0,ki,[],fp2,rfl,⟨fun _ h=>h,fun b hb=>hs.dW b (hS b hb)⟩,fun b h=>.inl h,fun b h=>hlt b (hs.sub b (hS b h)),hrr.eQ h1,hrt.eR h2,?_,fun b hm=>?_,hfrm⟩
 .exact (dj.1 hnd).2.1
 .have:=hb b (aD _ hm);exact⟨fun h=>this.1 (hs.sub b (hS b h)),this.2⟩
theorem yS{as:List A}{au:List Nat}{lent:List (C×List Nat×List Nat)}{vs:List Value}{rs:List R}{outs:List T}{val:Value}{w':World}{rd:List Nat}
  (hI:Inv S K w0 Kn φ (ao H) w) (hfr:∀j,nxt<=j->j<n'->¬Kn j)
  (hown:∀i∈lent.flatMap (·.2.1),∃o,ao H i=some o/\cn o=true) (hlent:EV Kn φ S w lent (mR as vs))
  (hwhole:eF H lent=true) (hnd:(lent.flatMap (·.2.1)).Nodup)
  (hleft:Left (SB S w φ (ao H) au) w ((lent.flatMap (·.2.1)).flatMap (gJ w φ (ao H))) rs outs (mR as vs) val w')
  (h:(match dh H au au with
      |none=>none
      |some fu=>
       match dX nxt lent outs with
       |none=>none
       |some (bu,m)=>some (sK (gN m rs).1,(gN m rs).2.1++bu++fu,au++lent.flatMap (·.2.2),(gN m rs).2.2))=some (v,u,rd,n')):
  kp S K w0 w Kn φ (ao H) nxt n' v u val w':=by
 obtain⟨S',ki,fp1,fp2,rfl,hs,hsub,hlt,hrr,hrt,hnd2,hb,hfrm⟩:=hleft;split at h
 .simp at h
 .rename_i fu hfz;split at h
  .simp at h
  .rename_i bu m hbk;obtain⟨rfl,rfl,_,rfl⟩:sK (gN m rs).1=v/\(gN m rs).2.1++bu++fu=u/\au++lent.flatMap (·.2.2)=rd/\(gN m rs).2.2=n':=by simpa using h
   have hI1:=hI.A_ hfz;have hmn:=EZ rs m;have hnm:=Aj _ _ _ _ _ hbk
   -- what was lent is kU of the heap
   let kills:eg:=(jL lent).map fun i=>(i,none);have hkn:∀j,bQ kills j=if j∈jL lent then some none else none:=rb (jL lent)
   have hf2:∀id o,aZ kills (aZ fu (ao H)) id=some o->id∉jL lent/\aZ fu (ao H) id=some o:=by
    intro id o ho;have:aZ kills (aZ fu (ao H)) id=(match bQ kills id with|some o=>o|none=>aZ fu (ao H) id):=rfl;rw[this,hkn]at ho;by_cases hm:id∈jL lent
    .rw [if_pos hm]at ho;simp at ho
    .rw [if_neg hm]at ho;exact⟨hm,ho⟩
   have hIk:Inv (SB S w φ (ao H) au) K w0 Kn φ (aZ kills (aZ fu (ao H))) w:=hI1.ll fun id o ho=>(hf2 id o ho).2
   -- the frozen part agrees with the heap eI, where a thing is owned
   have hold:∀id o,aZ fu (ao H) id=some o->cn o=true->ao H id=some o:=by
    intro id o ho hown;by_cases hm:id∈au
    .obtain ⟨o',ho',hfn⟩:=(j7 au fu hfz id).1 hm;simp only[aZ,hfn]at ho;obtain rfl:=aa ho;have:=(Ae hI hm ho').1;rw[this]at hown;simp at hown
    .simpa only[aZ,(j7 au fu hfz id).2 hm]using ho
   have hbk2:∀j o,aZ kills (aZ fu (ao H)) j=some o->cn o=true->ao H j=some o/\gJ w φ (aZ kills (aZ fu (ao H))) j=gJ w φ (ao H) j:=fun j o hj hjo=>by have h3:=hold j o (hf2 j o hj).2 hjo;exact⟨h3,fR rfl (hj.trans h3.symm)⟩
   have haw:ug w φ (aZ kills (aZ fu (ao H))) ((lent.flatMap (·.2.1)).flatMap (gJ w φ (ao H))):=by intro j o hj hjo x hx hm;obtain⟨h1,h2⟩:=hf2 j o hj;obtain⟨i,hi,hie⟩:=jS.1 hm;obtain⟨oi,hoi,hoio⟩:=hown i hi;obtain⟨h3,h4⟩:=hbk2 j o hj hjo;rw[h4]at hx;exact mj hI hoi h3 hoio hjo (fun e=>h1 (e▸hi)) hie hx
   have hfpK:∀b∈((lent.flatMap (·.2.1)).flatMap (gJ w φ (ao H))),¬K b/\b<w.heap.size:=by intro b hbm;obtain⟨i,hi,hie⟩:=jS.1 hbm;obtain⟨oi,hoi,hoio⟩:=hown i hi;exact(og hI hoi hoio hie).2
   have hI2:Inv S' K w0 Kn φ (aZ kills (aZ fu (ao H))) w':=hIk.after hs hsub hlt (fun b hb=>(hfpK b hb).1) haw hfrm
   have hK12:∀b∈fp1++fp2,¬S' b/\¬K b:=fun b hbm=>by
    obtain⟨h1,h2⟩:=hb b hbm;refine⟨h1,fun hk=>?_⟩;rcases h2 with h2|h2
    .exact (hfpK b h2).1 hk
    .have:=hI.nh.Ed b hk;have:=hI.nh.sx;omega
   have haw12:ug w' φ (aZ kills (aZ fu (ao H))) (fp1++fp2):=fun j o hj hjo x hx hm=>by
    rw[Av (hfrm.md _ ⟨((hIk.gF j o hj).2.bi hjo).2.2,haw j o hj hjo _ (j9 j)⟩)]at hx;rcases(hb _ hm).2 with h2|h2
    .exact haw j o hj hjo x hx h2
    .have:=(og hIk hj hjo hx).2.2;omega
   rw[dj]at hnd2;obtain⟨hn1,hn2,hn3⟩:=hnd2;simp only[ak]at hK12
   obtain⟨φ1,hB⟩:=EP hI hfrm.bi lent (mR as vs) outs fp2 nxt bu m hlent hwhole hrt hI2 (fun j h1 h2=>hfr j h1 (by omega)) (ry.refl _ _) hn2 (fun b hb=>hK12 b (.inr hb))
    (fun j o hj hjo x hx hm=>haw12 j o hj hjo x hx (by simp[hm]))
    (fun i hi=>by obtain⟨oi,hoi,_⟩:=hown i hi;refine⟨?_,(hI.gF i oi hoi).1⟩;show(match bQ kills i with|some o=>o|none=>aZ fu (ao H) i)=none;rw[hkn,if_pos hi]) hnd hbk
   have hkk:aZ bu (aZ kills (aZ fu (ao H)))=aZ bu (aZ fu (ao H)):=by
    funext j;by_cases hm:j∈jL lent
    .obtain ⟨x,hx⟩:=fH.1 (hB.Ej j hm);simp only[aZ,hx]
    .have h1:aZ kills (aZ fu (ao H)) j=aZ fu (ao H) j:=by show(match bQ kills j with|some o=>o|none=>aZ fu (ao H) j)=_;rw[hkn,if_neg hm]
     have h2:∀g:Nat->Option Ob,aZ bu g j=(match bQ bu j with|some o=>o|none=>g j):=fun _=>rfl;rw[h2,h2,h1]
   have hIB:=hB.inv;rw[hkk]at hIB
   have haw1:ug w' φ1 (aZ bu (aZ fu (ao H))) fp1:=by
    intro j o hj hjo x hx hm;by_cases hk:j∈jL lent\/(nxt<=j/\j<m)
    .have:=hB.bT j o (by rw[hkk];exact hj) hjo hk x (by rw[hkk];exact hx);exact hn3 _ hm _ this rfl
    .have hfn:bQ bu j=none:=kX fun p hp e=>by
      rcases hB.Ef p hp with h|h
      .exact hk (.inl (e▸h))
      .exact hk (.inr (e▸h))
     have hj2:aZ kills (aZ fu (ao H)) j=some o:=by rw[<-hkk]at hj;simpa only[aZ,hfn]using hj
     have hknj:=(hI2.gF j o hj2).1;rw[fR (hB.sM.dW j hknj) (hj.trans hj2.symm)]at hx;exact haw12 j o hj2 hjo x hx (by simp[hm])
   obtain⟨φ2,hL,hlen,hr⟩:=Ds rs m ki fp1 hIB (fun j h1 h2 hk=>by
     rcases hk with hk|hk
     .exact hfr j (by omega) h2 hk
     .omega) hrr hn1 (fun b hb=>hK12 b (.inl hb)) haw1
   refine⟨by omega,S',φ2,(SB.sH au).trans hs,⟨fun i h=>.inl h,fun i h=>(hL.sM.dW i (.inl h)).trans (hB.sM.dW i h)⟩,?_,?_⟩
   .exact (DN hlen hr).kn fun i=>(rL hnm hmn i).1
   .rw [dL,dL];exact hL.inv.sv fun i=>rL hnm hmn i
theorem Hg{as:List A}{au:List Nat}{lent:List (C×List Nat×List Nat)}{vs:List Value}{rs:List R}{outs:List T}{ro:Bool}{val:Value}{w':World}{rd:List Nat}
  (hI:Inv S K w0 Kn φ (ao H) w) (hfr:∀j,nxt<=j->j<n'->¬Kn j)
  (hargs:J5 (SB S w φ (ao H) au) w as vs ((lent.flatMap (·.2.1)).flatMap (gJ w φ (ao H)))) (hown:∀i∈lent.flatMap (·.2.1),∃o,ao H i=some o/\cn o=true) (hlent:EV Kn φ S w lent (mR as vs))
  (hwhole:eF H lent=true) (hnd:(lent.flatMap (·.2.1)).Nodup)
  (hleft:Left (SB S w φ (ao H) au) w ((lent.flatMap (·.2.1)).flatMap (gJ w φ (ao H))) rs outs (mR as vs) val w')
  (h:(if ro then
      if rs.all wg/\outs.all DT then
       match dX nxt lent outs with|none=>none|some (bu,m)=>some (sK (gN m rs).1,(gN m rs).2.1++bu,au++lent.flatMap (·.2.2),(gN m rs).2.2)
      else none
     else
      match dh H au au with
      |none=>none
      |some fu=>
       match dX nxt lent outs with
       |none=>none
       |some (bu,m)=>some (sK (gN m rs).1,(gN m rs).2.1++bu++fu,au++lent.flatMap (·.2.2),(gN m rs).2.2))=some (v,u,rd,n')):
  kp S K w0 w Kn φ (ao H) nxt n' v u val w':=by
 split at h
 .--nothing that was looked at is Cy
  split at h
  .rename_i hcond;obtain⟨hl,hp⟩:=hcond;split at h
   .simp at h
   .rename_i bu m hbk;obtain⟨rfl,rfl,_,rfl⟩:sK (gN m rs).1=v/\(gN m rs).2.1++bu=u/\au++lent.flatMap (·.2.2)=rd/\(gN m rs).2.2=n':=by simpa using h
    refine yS (au:=[]) (rd:=lent.flatMap (·.2.2)) hI hfr hown hlent hwhole hnd (hleft.eR (fun b hb=>?_) hl hp) ?_
    .rcases hb with hb|⟨i,hi,_⟩
     .exact .inl hb
     .cases hi
    .simp only[dh,hbk,List.append_nil,List.nil_append]
  .simp at h
 .exact yS hI hfr hown hlent hwhole hnd hleft h
theorem zK:∀n,(∀c x au,eu H n c=some (x,au)->∀i∈au,∃o,ao H i=some o)/\(∀cs xs au,fN H n cs=some (xs,au)->∀i∈au,∃o,ao H i=some o):=by
 have leaf:∀n c x au,(match c with|.op _ _|.oL _ _=>False|_=>True)->eu H n c=some (x,au)->∀i∈au,∃o,ao H i=some o:=by
  intro n c x au hl h i hi;cases c with
  |d y=>simp only[eu,bS,c9]at h;obtain⟨_,rfl⟩:=h;simp at hi
  |bP sz id off len=>
   simp only[eu]at h;split at h
   all_goals first
    |(split at h
      .obtain ⟨_,rfl⟩:=ad (aa h);obtain rfl:=aq.1 hi;exact⟨_,by assumption⟩
      .simp at h)
    |(split at h
      .split at h
       .obtain ⟨_,rfl⟩:=ad (aa h);obtain rfl:=aq.1 hi;exact⟨_,by assumption⟩
       .simp at h
      .simp at h)
    |simp at h
  |ep id eU off=>
   simp only[eu]at h;split at h
   all_goals first
    |(split at h
      .split at h
       .obtain ⟨_,rfl⟩:=ad (aa h);obtain rfl:=aq.1 hi;exact⟨_,by assumption⟩
       .simp at h
      .simp at h)
    |simp at h
  |op id off=>exact hl.elim
  |oL f caps=>exact hl.elim
  |om id=>cases n<;>simp[eu]at h
 intro n;induction n with
 |zero=>
  refine⟨fun c x au h=>?_,fun cs xs au h=>?_⟩
  .cases c with|op id off=>simp[eu]at h|oL f caps=>simp[eu]at h|_=>exact leaf 0 _ x au trivial h
  .cases cs with
   |nil=>
    obtain⟨_,rfl⟩:[]=xs/\[]=au:=by simpa[fN]using h
    intro i hi;simp at hi
   |cons c cs=>simp[fN]at h
 |succ n ih=>
  refine⟨fun c x au h=>?_,fun cs xs au h=>?_⟩
  .cases c with
   |op id off=>
    simp only[eu]at h;split at h
    .split at h
     .obtain ⟨_,rfl⟩:=ad (aa h);intro i hi;obtain rfl:=aq.1 hi;exact⟨_,by assumption⟩
     .simp at h
    .split at h
     .rename_i hv;split at h
      .obtain ⟨_,rfl⟩:=ad (aa h);intro i hi;rcases aJ.1 hi with rfl|hi
       .exact ⟨_,by assumption⟩
       .exact ih.2 _ _ _ hv i hi
      .simp at h
     .simp at h
    .simp at h
   |oL f caps=>
    simp only[eu]at h;split at h
    .rename_i hv;obtain⟨_,rfl⟩:=ad (aa h);exact ih.2 _ _ _ hv
    .simp at h
   |_=>exact leaf _ _ x au trivial h
  .cases cs with
   |nil=>
    obtain⟨_,rfl⟩:[]=xs/\[]=au:=by simpa[fN]using h
    intro i hi;simp at hi
   |cons c cs=>
    simp only[fN]at h;split at h
    .rename_i h1 h2;obtain⟨_,rfl⟩:=ad (aa h);intro i hi;rcases ak.1 hi with hi|hi
     .exact ih.1 _ _ _ h1 i hi
     .exact ih.2 _ _ _ h2 i hi
    .simp at h
theorem BF:∀cs xs au,dC H cs=some (xs,au)->∀i∈au,∃o,ao H i=some o:=by
 intro cs;induction cs with
 |nil=>
  intro xs au h i hi;obtain⟨_,rfl⟩:[]=xs/\[]=au:=by simpa[dC]using h
  simp at hi
 |cons c cs ih=>
  intro xs au h i hi;simp only[dC]at h;split at h
  .rename_i h1 h2;obtain⟨_,rfl⟩:=ad (aa h);rcases ak.1 hi with hi|hi
   .exact (zK 300).1 _ _ _ h1 i hi
   .exact ih _ _ h2 i hi
  .simp at h
theorem Ax:∀(tvs:List TV)(ms:List Bool)(as:List A)(au:List Nat)(lent:List (C×List Nat×List Nat)),ge H tvs ms=some (as,au,lent)->∀i∈au,∃o,ao H i=some o:=by
 intro tvs;induction tvs with
 |nil=>
  intro ms as au lent h i hi;obtain⟨_,rfl,_⟩:[]=as/\[]=au/\[]=lent:=by simpa[ge]using h
  simp at hi
 |cons t tvs ih=>
  intro ms as au lent h i hi;simp only[ge]at h;split at h
  .simp at h
  .rename_i hrec;split at h
   .split at h
    .split at h
     .obtain ⟨_,rfl,_⟩:=(by simpa using h:_/\_/\_)
      exact ih _ _ _ _ hrec i hi
     .simp at h
    .simp at h
   .split at h
    .split at h
     .rename_i hv;obtain⟨_,rfl,_⟩:=(by simpa using h:_/\_/\_)
      rcases ak.1 hi with hi|hi
      .exact (zK 300).1 _ _ _ hv i hi
      .exact ih _ _ _ _ hrec i hi
     .simp at h
    .split at h
     .rename_i hv;obtain⟨_,rfl,_⟩:=(by simpa using h:_/\_/\_)
      rcases ak.1 hi with hi|hi
      .exact BF _ _ _ hv i hi
      .exact ih _ _ _ _ hrec i hi
     .simp at h
    .simp at h
theorem RO.NN{l:gi}{o:Ob}(h:RO S K w Kn φ l o)(hs:∀b,S b->b<w.heap.size):l.bT<w.heap.size:=by cases h with|aF hsz hl hS hK hown=>exact hown.lt|box hb hS hK hown=>exact hown.lt|map hS hK hmp=>exact(Array.getElem?_eq_some_iff.1 hmp).1|cap hsz hl hS hK hown=>exact hown.lt|nst hsz hl hS hK hown=>exact hown.lt|pD hsz hl hS=>exact hs _ hS|nZ hb hS=>exact hs _ hS
theorem RO.SO{l:gi}{o:Ob}(h:RO S K w Kn φ l o)(hs:cn o=false):S l.bT:=by cases h with|pD hsz hl hS=>exact hS|nZ hb hS=>exact hS|_=>simp[cn]at hs
theorem Fh{c:kO}{fop:Operand}{ro:Bool}{jT:List Bool}(ho:o.op=.call c)(hcal:c.callee=.value fop)(hok:kD P call)(hI:Inv S K w0 Kn φ (ao H) w)
  (hfr:∀j,nxt<=j->j<n'->¬Kn j) (hρ:∀x tv,jB e x=some tv->e_ S w Kn φ tv (a.eval x))
  (h:bX call (.call ro jT) ((fop::c.args.toList).map (jB e)) H nxt=some (v,u,au,n')):LY P o a S K w0 w Kn φ (ao H) nxt n' v u:=by
 rw[ap]at h;change uM call ro jT (jB e fop) (c.args.toList.map (jB e)) H nxt=_ at h;unfold uM at h;split at h
 .rename_i f caps vs hf hvs;split at h
  .simp at h
  .rename_i as ids1 lent hargs;split at h
   .rename_i hcond;obtain⟨hwhole,hnd,hapart⟩:=hcond;split at h
    .simp at h
    .rename_i rs outs hcall
     -- the callee
     have hfv:∃cvs:Array Value,a.eval fop=.func (.func f) #[] cvs/\caps.length=cvs.size/\∀(i:Nat)(x:C),caps[i]?=some x->RC S w Kn φ x (cvs.getD i undef):=by
      split at hf
      .rename_i g capsD hop;obtain⟨rfl,rfl⟩:g=f/\capsD.map C.d=caps:=by simpa using hf
       have hr:=hρ _ _ hop;generalize a.eval fop=fv at hr|-;cases hr with
       |c hr=>cases hr with
        |d hd=>cases hd with|@fn _ _ cvs hlen hrd=>refine⟨cvs,rfl,by simpa using hlen,fun i x hi=>?_⟩;rw[aL]at hi;obtain⟨y,hy,rfl⟩:=aM.1 hi;exact .d (hrd i y hy)
      .rename_i g caps' hop;obtain⟨rfl,rfl⟩:g=f/\caps'=caps:=by simpa using hf
       have hr:=hρ _ _ hop;generalize a.eval fop=fv at hr|-;cases hr with
       |c hr=>cases hr with|@oL _ _ cvs hlen hrc=>exact⟨cvs,rfl,hlen,hrc⟩
      .simp at hf
     obtain⟨cvs,hfe,hcl,hcr⟩:=hfv;obtain⟨hal,har⟩:=tf hρ hvs;let ki:List Value:=c.args.toList.map a.eval++cvs.toList
     obtain⟨p1,p2,p3⟩:=EQ hI (vs++caps.map TV.c) jT as ids1 lent ki hargs (by simp[ki,hal,hcl]) (fun i t val hi hv=>by
      by_cases hlt:i<vs.length
      .rw [bg hlt]at hi;simp only[ki]at hv;rw[bg (by simp only[aR];omega),aL]at hv;obtain⟨x,hx,rfl⟩:=aM.1 hv;exact har i x t hx hi
      .rw [bl (by omega),aL]at hi;obtain⟨x,hx,rfl⟩:=aM.1 hi;simp only[ki]at hv;rw[bl (by simp only[aR];omega)]at hv;simp only[aR,<-hal]at hv;have:=hcr _ x hx;rw[aW]at hv;have e1:cvs.getD (i-vs.length) undef=val:=by simp[hv]
       rw[e1]at this;exact .c this)
     have hSlt:∀b,SB S w φ (ao H) ids1 b->b<w.heap.size:=by
      rintro b (hb|⟨i,hi,hb⟩)
      .exact hI.sJ b hb
      .obtain ⟨oi,hoi⟩:=Ax _ _ _ _ _ hargs i hi;rcases dP.1 hb with rfl|⟨sz,sl,k,h1,h2⟩
       .exact (hI.gF i oi hoi).2.NN hI.sJ
       .exact (hI.DV h1 h2).2.2.1
     have hnS:∀b∈((lent.flatMap (·.2.1)).flatMap (gJ w φ (ao H))),¬SB S w φ (ao H) ids1 b:=by
      intro b hb hS;obtain⟨i,hi,hb⟩:=jS.1 hb;obtain⟨oi,hoi,hoio⟩:=p2 i hi;have hb1:=(og hI hoi hoio hb).1;rcases hS with hS|⟨j,hj,hje⟩
      .exact hb1 hS
      .obtain ⟨oj,hoj⟩:=Ax _ _ _ _ _ hargs j hj;cases hjo:cn oj with
       |true=>refine mj hI hoi hoj hoio hjo (fun e=>?_) hb hje;have:=aV.1 hapart i hi;rw[e]at this;simp[hj]at this
       |false=>
        rcases dP.1 hje with rfl|⟨sz,sl,k,h1,_⟩
        .exact hb1 ((hI.gF j oj hoj).2.SO hjo)
        .rw [hoj]at h1;cases h1;cases hjo
     have hgood:=hok f as rs outs hcall (SB S w φ (ao H) ids1) w ki _ hSlt p1 (Aw hI hnd p2) hnS (hI.A5.mono (SB.sH _));intro next Q hn
     have hfin:∀val w',Left (SB S w φ (ao H) ids1) w ((lent.flatMap (·.2.1)).flatMap (gJ w φ (ao H))) rs outs (mR as ki) val w'->next (a.put o.dst val) w':=by intro val w' hleft;refine hn val w' (Hg hI hfr p1 p2 p3 hwhole hnd hleft (ro:=ro) (v:=v) (u:=u) (rd:=au) ?_);exact h
     have hrun:∀r,(callFunc f ki.toArray).run P w=r->(execOp a.eval o).run P w=r:=by
      intro r hr;have e1:(#[]++c.args.map a.eval)++cvs=ki.toArray:=by apply Array.ext';simp[ki]
      simp only[execOp,ho,Sem.run_bind,resolve,hcal,hfe,Deferred.ofValue,Sem.run_pure,Result.andThen_ok,invoke,e1];exact hr
     rcases hgood with⟨g,as',hr,hc⟩|⟨val,hr,hleft⟩
     .unfold Oper.wp;rw[hrun _ hr,Oper.upon_enter];refine hc.mono fun en w' hR=>?_;obtain⟨val,rfl,hleft⟩:=hR;exact hfin val w' hleft
     .unfold Oper.wp;rw[hrun _ hr];exact hfin val w hleft
   .simp at h
 .simp at h
end
section
variable{P:Program}{S K:Nat->Prop}{w0 w:World}{Kn:Nat->Prop}{φ:Nat->gi}{H:bh}{e:hZ}{o:Oper}{call:Call}{a:Act}{bq:uX}{k:Ev.K}{args:List Operand}
 {nxt n':Nat} {v:TV} {u:eg} {au:List Nat}
theorem eZ{vs:List (Option TV)}:bX call .fG vs H nxt=none:=by unfold bX;split<;>first|rfl|simp_all
theorem Hj{op:BinOp}{t ty:TypeId}{x y:Operand}(ho:o.op=.binOp op t x y ty)(hk:FJ P op t x y=(k,args))(hI:Inv S K w0 Kn φ (ao H) w)(hE:hZ.ok S w Kn φ e a.tmps)
  (h:bX call k (args.map (jB e)) H nxt=some (v,u,au,n')):cU P o a.eval S K w0 w Kn φ (ao H) nxt n' v u:=by
 have hρ:∀x tv,jB e x=some tv->e_ S w Kn φ tv (a.eval x):=fun x tv h=>tO hI.A5 hE h;have plainBin:(k,args)=(Ev.K.sy op,[x,y])->cU P o a.eval S K w0 w Kn φ (ao H) nxt n' v u:=by intro hk;obtain⟨rfl,rfl⟩:=ad hk;exact MQ ho hI (fun z hz=>hρ x z hz) (fun z hz=>hρ y z hz) h
 have nilBin:∀kind,(op=.eql\/op=.neq)->Ir P t kind->(k,args)=qh kind (op==.neq) x y->cU P o a.eval S K w0 w Kn φ (ao H) nxt n' v u:=by
  intro kind hop hu hk;unfold qh at hk;split at hk
  .rename_i hy;obtain⟨rfl,rfl⟩:=ad hk;exact Cf ho hop hu hI (fun _=>rfl) (.inl ⟨rfl,hy⟩) (fun z hz=>hρ x z hz) h
  .split at hk
   .rename_i hx;obtain⟨rfl,rfl⟩:=ad hk;exact Cf ho hop hu hI (fun _=>rfl) (.inr ⟨rfl,hx⟩) (fun z hz=>hρ y z hz) h
   .obtain ⟨rfl,rfl⟩:=ad hk;rw[eZ]at h;simp at h
 have eqs:(op=.eql\/op=.neq)->(match P.underlying t with
  |some .bool=>(Ev.K.uN (op==.neq),[x,y])
  |some (.int _)|some (.float _)|some .string=>(Ev.K.sy op,[x,y])
  |some (.slice _)=>qh 0 (op==.neq) x y
  |some (.pointer _)=>qh 1 (op==.neq) x y
  |some (.func _ _ _)=>qh 2 (op==.neq) x y
  |some (.struct _)|some (.array _ _)=>match zm P 8 t with|some ks=>if P.eqGuardType P.depth t=false then(Ev.K.yH (op==.neq) ks,[x,y])else(Ev.K.fG,[])|none=>(Ev.K.fG,[])
  |_=>(Ev.K.fG,[]))=(k,args)->cU P o a.eval S K w0 w Kn φ (ao H) nxt n' v u:=by
  intro hop hk;split at hk
  .rename_i hu;obtain⟨rfl,rfl⟩:=ad hk;exact Gp ho hop hu hI (fun z hz=>hρ x z hz) (fun z hz=>hρ y z hz) h
  .exact plainBin hk.symm
  .exact plainBin hk.symm
  .exact plainBin hk.symm
  .rename_i hu;exact nilBin 0 hop ⟨_,hu⟩ hk.symm
  .rename_i hu;exact nilBin 1 hop ⟨_,hu⟩ hk.symm
  .rename_i hu;exact nilBin 2 hop ⟨_,_,_,hu⟩ hk.symm
  .rename_i hu;split at hk
   .rename_i hks;split at hk
    .rename_i hg;obtain⟨rfl,rfl⟩:=ad hk;exact Cg ho hop hks (by simp[fA,hu]) hg hI (fun z hz=>hρ x z hz) (fun z hz=>hρ y z hz) h
    .obtain ⟨rfl,rfl⟩:=ad hk;rw[eZ]at h;simp at h
   .obtain ⟨rfl,rfl⟩:=ad hk;rw[eZ]at h;simp at h
  .rename_i hu;split at hk
   .rename_i hks;split at hk
    .rename_i hg;obtain⟨rfl,rfl⟩:=ad hk;exact Cg ho hop hks (by simp[fA,hu]) hg hI (fun z hz=>hρ x z hz) (fun z hz=>hρ y z hz) h
    .obtain ⟨rfl,rfl⟩:=ad hk;rw[eZ]at h;simp at h
   .obtain ⟨rfl,rfl⟩:=ad hk;rw[eZ]at h;simp at h
  .obtain ⟨rfl,rfl⟩:=ad hk;rw[eZ]at h;simp at h
 cases op with|eql=>exact eqs (.inl rfl) hk|neq=>exact eqs (.inr rfl) hk|_=>exact plainBin hk.symm
theorem o3{α:Type}{x:Array α}{y:α}(h:x.toList=[y]):x= #[y]:=by rw[<-Array.toArray_toList (xs:=x),h]
theorem kQ{α:Type}{x:Array α}{y z:α}(h:x.toList=[y,z]):x= #[y,z]:=by rw[<-Array.toArray_toList (xs:=x),h]
theorem zE{b:Builtin}{c:kO}(ho:o.op=.call c)(hcal:c.callee=.builtin b)(hk:sZ P b c.args.toList c.argTypes.toList=(k,args))(hI:Inv S K w0 Kn φ (ao H) w)
  (hE:hZ.ok S w Kn φ e a.tmps) (hn0:nxt<n'->¬Kn nxt) (h:bX call k (args.map (jB e)) H nxt=some (v,u,au,n')):cU P o a.eval S K w0 w Kn φ (ao H) nxt n' v u:=by
 have hρ:∀x tv,jB e x=some tv->e_ S w Kn φ tv (a.eval x):=fun x tv h=>tO hI.A5 hE h
 have lenArgs:∀str,k=.len str->args=c.args.toList->∃x,c.args.toList=[x]:=by
  intro str hk ha;subst hk ha;generalize c.args.toList=l at h
  match l,h with|[x],_=>exact⟨x,rfl⟩|[],h=>simp[bX]at h|x::y::r,h=>simp[bX]at h
 unfold sZ at hk;split at hk
 .rename_i t hts;split at hk
  .rename_i hu;obtain⟨rfl,rfl⟩:=ad hk;obtain⟨x,hx⟩:=lenArgs true rfl rfl;rw[hx]at h;exact Ib (str:=true) ho hcal (o3 hx) (o3 hts) hu hI (fun z hz=>hρ x z hz) h
  .rename_i hu;obtain⟨rfl,rfl⟩:=ad hk;obtain⟨x,hx⟩:=lenArgs false rfl rfl;rw[hx]at h;exact Ib (str:=false) ho hcal (o3 hx) (o3 hts) ⟨_,hu⟩ hI (fun z hz=>hρ x z hz) h
  .obtain ⟨rfl,rfl⟩:=ad hk;rw[eZ]at h;simp at h
 .obtain ⟨rfl,rfl⟩:=ad hk;exact z4 (m:=true) ho hcal hI hρ h
 .obtain ⟨rfl,rfl⟩:=ad hk;exact z4 (m:=false) ho hcal hI hρ h
 .rename_i s x hts;split at hk
  .rename_i el el2 hus hux;split at hk
   .rename_i n z hsz hz;split at hk
    .rename_i hb;obtain⟨rfl,rfl⟩:=ad hk
     have:∃p q,c.args.toList=[p,q]:=by
      generalize c.args.toList=l at h
      match l,h with|[p,q],_=>exact⟨p,q,rfl⟩|[],h=>simp[bX]at h|[p],h=>simp[bX]at h|p::q::r::t,h=>simp[bX]at h
     obtain⟨p,q,hpq⟩:=this;rw[hpq]at h;exact Gq ho hcal (kQ hpq) (kQ hts) hus hux hsz hz hb.2 hb.1 hI hn0 (fun z hz=>hρ p z hz) (fun z hz=>hρ q z hz) h
    .obtain ⟨rfl,rfl⟩:=ad hk;rw[eZ]at h;simp at h
   .obtain ⟨rfl,rfl⟩:=ad hk;rw[eZ]at h;simp at h
  .rename_i el kd hus hux;split at hk
   .rename_i n z hsz hz;split at hk
    .rename_i hb;obtain⟨rfl,rfl⟩:=ad hk
     have:∃p q,c.args.toList=[p,q]:=by
      generalize c.args.toList=l at h
      match l,h with|[p,q],_=>exact⟨p,q,rfl⟩|[],h=>simp[bX]at h|[p],h=>simp[bX]at h|p::q::r::t,h=>simp[bX]at h
     obtain⟨p,q,hpq⟩:=this;rw[hpq]at h;exact MR ho hcal (kQ hpq) (kQ hts) hus hux hsz hz hb.2 hb.1 hI hn0 (fun z hz=>hρ p z hz) (fun z hz=>hρ q z hz) h
    .obtain ⟨rfl,rfl⟩:=ad hk;rw[eZ]at h;simp at h
   .obtain ⟨rfl,rfl⟩:=ad hk;rw[eZ]at h;simp at h
  .obtain ⟨rfl,rfl⟩:=ad hk;rw[eZ]at h;simp at h
 .rename_i t hts;split at hk
  .rename_i el hu;obtain⟨rfl,rfl⟩:=ad hk
   have:∃p,c.args.toList=[p]:=by
    generalize c.args.toList=l at h
    match l,h with|[p],_=>exact⟨p,rfl⟩|[],h=>simp[bX]at h|p::q::r,h=>simp[bX]at h
   obtain⟨p,hp⟩:=this;rw[hp]at h;exact MO ho hcal (o3 hp) (o3 hts) hu hI (fun z hz=>hρ p z hz) h
  .obtain ⟨rfl,rfl⟩:=ad hk;rw[eZ]at h;simp at h
 .rename_i d x hts;split at hk
  .rename_i el hud;split at hk
   .rename_i n hsz;obtain⟨rfl,rfl⟩:=ad hk
    have:∃p q,c.args.toList=[p,q]:=by
     generalize c.args.toList=l at h
     match l,h with|[p,q],_=>exact⟨p,q,rfl⟩|[],h=>simp[bX]at h|[p],h=>simp[bX]at h|p::q::r::t,h=>simp[bX]at h
    obtain⟨p,q,hpq⟩:=this;rw[hpq]at h;exact KK ho hcal (kQ hpq) (kQ hts) hud hsz hI (fun z hz=>hρ p z hz) (fun z hz=>hρ q z hz) h
   .obtain ⟨rfl,rfl⟩:=ad hk;rw[eZ]at h;simp at h
  .obtain ⟨rfl,rfl⟩:=ad hk;rw[eZ]at h;simp at h
 .rename_i mt kt2 hts;split at hk
  .rename_i hu;split at hk
   .rename_i hm;obtain⟨rfl,rfl⟩:=ad hk
    have:∃p q,c.args.toList=[p,q]:=by
     generalize c.args.toList=l at h
     match l,h with|[p,q],_=>exact⟨p,q,rfl⟩|[],h=>simp[bX]at h|[p],h=>simp[bX]at h|p::q::r::t,h=>simp[bX]at h
    obtain⟨p,q,hpq⟩:=this;rw[hpq]at h;exact Gm ho hcal (kQ hpq) (kQ hts) hu hm hI (fun z hz=>hρ p z hz) (fun z hz=>hρ q z hz) h
   .obtain ⟨rfl,rfl⟩:=ad hk;rw[eZ]at h;simp at h
  .obtain ⟨rfl,rfl⟩:=ad hk;rw[eZ]at h;simp at h
 .rename_i d hts;split at hk
  .rename_i el hud;split at hk
   .rename_i n z hsz hz;split at hk
    .rename_i hzl;obtain⟨rfl,rfl⟩:=ad hk
     have:∃p,c.args.toList=[p]:=by
      generalize c.args.toList=l at h
      match l,h with|[p],_=>exact⟨p,rfl⟩|[],h=>simp[bX]at h|p::q::r,h=>simp[bX]at h
     obtain⟨p,hp⟩:=this;rw[hp]at h;exact Ih ho hcal (o3 hp) (o3 hts) hud hsz hz hzl hI (fun z hz=>hρ p z hz) h
    .obtain ⟨rfl,rfl⟩:=ad hk;rw[eZ]at h;simp at h
   .obtain ⟨rfl,rfl⟩:=ad hk;rw[eZ]at h;simp at h
  .obtain ⟨rfl,rfl⟩:=ad hk;rw[eZ]at h;simp at h
 .obtain ⟨rfl,rfl⟩:=ad hk;rw[eZ]at h;simp at h
theorem Ca(hok:kD P call)(hk:wU P bq o.op=(k,args))(hI:Inv S K w0 Kn φ (ao H) w)(hE:hZ.ok S w Kn φ e a.tmps)(hfr:∀j,nxt<=j->j<n'->¬Kn j)
  (h:bX call k (args.map (jB e)) H nxt=some (v,u,au,n')):LY P o a S K w0 w Kn φ (ao H) nxt n' v u:=by
 have hρ:∀x tv,jB e x=some tv->e_ S w Kn φ tv (a.eval x):=fun x tv h=>tO hI.A5 hE h;have hn0:nxt<n'->¬Kn nxt:=fun h=>hfr nxt (am _) h;have fG:(k,args)=(Ev.K.fG,[])->LY P o a S K w0 w Kn φ (ao H) nxt n' v u:=by intro hk;obtain⟨rfl,rfl⟩:=ad hk;rw[eZ]at h;simp at h
 generalize hop:o.op=op at hk;unfold wU at hk;split at hk
 .obtain ⟨rfl,rfl⟩:=ad hk;exact(L4 (.inl hop) hI (fun z hz=>hρ _ z hz) h).jM
 .obtain ⟨rfl,rfl⟩:=ad hk;exact(L4 (.inr hop) hI (fun z hz=>hρ _ z hz) h).jM
 .obtain ⟨rfl,rfl⟩:=ad hk;exact(KI hop hI (fun z hz=>hρ _ z hz) (fun z hz=>hρ _ z hz) (fun z hz=>hρ _ z hz) h).jM
 .--alloc
  split at hk
  .rename_i hz;obtain⟨rfl,rfl⟩:=ad hk;exact(Il hop hz hI hn0 h).jM
  .exact fG hk.symm
 .obtain ⟨rfl,rfl⟩:=ad hk;exact(MP hop hI hn0 (fun z hz=>hρ _ z hz) h).jM
 .--build
  split at hk
  .rename_i hu hz;split at hk
   .rename_i hpl;split at hk
    .rename_i hall;obtain⟨rfl,rfl⟩:=ad hk;exact(Ci hop hz (.inl ⟨_,hu,hpl,hall⟩) hI hρ h).jM
    .exact fG hk.symm
   .exact fG hk.symm
  .rename_i hu hz;split at hk
   .rename_i hs;obtain⟨rfl,rfl⟩:=ad hk;exact(Ci hop hz (.inr ⟨_,_,_,hu,hs,rfl⟩) hI hρ h).jM
   .exact fG hk.symm
  .exact fG hk.symm
 .--buildSlice
  split at hk
  .rename_i hu;split at hk
   .rename_i hs hz;split at hk
    .rename_i r hr;unfold JP at hr;split at hr
     .rename_i parts hp;split at hr
      .rename_i m hm;obtain rfl:=aa hr;obtain⟨rfl,rfl⟩:=ad hk;obtain⟨q1,rfl,q3⟩:=yZ hm;exact(Ii (by rw[hop,o3 hp]) hu q1 hz hI hn0 (fun z hz=>hρ _ z hz) h).jM
      .cases hr
     .cases hr
    .split at hk
     .rename_i hl;obtain⟨rfl,rfl⟩:=ad hk;exact(KM hop hu hs hz ⟨hl.1,hl.2.1⟩ hI hn0 hρ h).jM
     split at hk
     .rename_i hl;obtain⟨rfl,rfl⟩:=ad hk;exact(zw hop hu hs hz hl hI hn0 hρ h).jM
     .exact fG hk.symm
   .exact fG hk.symm
  .exact fG hk.symm
 .--load
  split at hk
  .rename_i ha hs;obtain⟨rfl,rfl⟩:=ad hk;split at h
   .rename_i hc;obtain⟨_,_,rfl,rfl⟩:=hc;exact(Ia hop ha hs hI hn0 (fun z hz=>hρ _ z hz) h).jM
   .exact (Ff hop ha hs hI (fun z hz=>hρ _ z hz) h).jM
  .exact fG hk.symm
 .--store
  split at hk
  .rename_i hs;obtain⟨rfl,rfl⟩:=ad hk;exact(H9 hop hs hI (fun z hz=>hρ _ z hz) (fun z hz=>hρ _ z hz) h).jM
  .exact fG hk.symm
 .obtain ⟨rfl,rfl⟩:=ad hk;exact(Cc hop hI (fun z hz=>hρ _ z hz) h).jM
 .exact (Hj hop hk hI hE h).jM
 .obtain ⟨rfl,rfl⟩:=ad hk;exact(OI hop hI (fun z hz=>hρ _ z hz) h).jM
 .--convert
  split at hk
  .rename_i hs hd;obtain⟨rfl,rfl⟩:=ad hk;exact(D4 hop hs hd hI (fun z hz=>hρ _ z hz) h).jM
  .rename_i hs hd;obtain⟨rfl,rfl⟩:=ad hk;exact(Ig hop hs hd hI (fun z hz=>hρ _ z hz) h).jM
  .rename_i hs hd;obtain⟨rfl,rfl⟩:=ad hk;exact(Ch hop hs hd hI (fun z hz=>hρ _ z hz) h).jM
  .exact fG hk.symm
 .--makeFunc
  split at hk
  .rename_i hf;obtain⟨rfl,rfl⟩:=ad hk;exact(KJ hop hf hI hρ h).jM
  .exact fG hk.symm
 .--makeSlice
  split at hk
  .rename_i hu;split at hk
   .rename_i hs hz;split at hk
    .rename_i hl;obtain⟨rfl,rfl⟩:=ad hk;split at h
     .rename_i m hm;unfold Fm at hm;split at hm
      .rename_i hc;split at hm
       .split at hm
        .obtain rfl:=aa hm;exact(H_ hop hu hs hz hl.1 hl.2 hc.2 (cQ _) hI hn0 (fun z hz=>hρ _ z hz) (fun z hz=>hρ _ z hz) h).jM
        .cases hm
       .cases hm
      .cases hm
     .exact (vj hop hu hs hz hl.1 hl.2 hI hn0 (fun z hz=>hρ _ z hz) (fun z hz=>hρ _ z hz) h).jM
    .exact fG hk.symm
   .exact fG hk.symm
  .exact fG hk.symm
 .--slice
  split at hk
  .rename_i hu;obtain⟨rfl,rfl⟩:=ad hk;exact(Cb (str:=true) hop hu hI hρ h).jM
  .rename_i hu;split at hk
   .rename_i hs;obtain⟨rfl,rfl⟩:=ad hk;exact(Cb (str:=false) hop ⟨_,hu,hs⟩ hI hρ h).jM
   .exact fG hk.symm
  .exact fG hk.symm
 .--vT
  split at hk
  .rename_i hu;split at hk
   .rename_i hs;obtain⟨rfl,rfl⟩:=ad hk;exact(Gk hop hu hs hI hn0 hρ h).jM
   .exact fG hk.symm
  .exact fG hk.symm
 .--fieldAddr
  split at hk
  .rename_i hu;split at hk
   .rename_i hf;split at hk
    .rename_i hs;obtain⟨rfl,rfl⟩:=ad hk;exact(AR hop hu hf hs hI (fun z hz=>hρ _ z hz) h).jM
    .exact fG hk.symm
   .exact fG hk.symm
  .exact fG hk.symm
 .--field
  split at hk
  .rename_i hu;split at hk
   .rename_i hf;split at hk
    .rename_i ha hs;obtain⟨rfl,rfl⟩:=ad hk;exact(Ie hop hu hf ha hs hI (fun z hz=>hρ _ z hz) h).jM
    .exact fG hk.symm
   .exact fG hk.symm
  .exact fG hk.symm
 .--indexAddr
  split at hk
  .rename_i hu;split at hk
   .rename_i hs;split at hk
    .obtain ⟨rfl,rfl⟩:=ad hk;exact(MM hop hu hs hI (fun z hz=>hρ _ z hz) (fun z hz=>hρ _ z hz) h).jM
    .obtain ⟨rfl,rfl⟩:=ad hk;exact(vk (aF:=none) hop ⟨_,hu,hs⟩ hI (fun z hz=>hρ _ z hz) (fun z hz=>hρ _ z hz) h).jM
   .exact fG hk.symm
  .rename_i hu;split at hk
   .rename_i hs;obtain⟨rfl,rfl⟩:=ad hk;exact(vk (aF:=some _) hop ⟨_,hu,hs⟩ hI (fun z hz=>hρ _ z hz) (fun z hz=>hρ _ z hz) h).jM
   .exact fG hk.symm
  .exact fG hk.symm
 .--index
  split at hk
  .rename_i hu;obtain⟨rfl,rfl⟩:=ad hk;exact(Ce hop hu hI (fun z hz=>hρ _ z hz) (fun z hz=>hρ _ z hz) h).jM
  .rename_i hu;split at hk
   .rename_i ha hs;obtain⟨rfl,rfl⟩:=ad hk;exact(Ic hop hu ha hs hI (fun z hz=>hρ _ z hz) (fun z hz=>hρ _ z hz) h).jM
   .exact fG hk.symm
  .exact fG hk.symm
 .obtain ⟨rfl,rfl⟩:=ad hk;exact(D3 hop hI (fun z hz=>hρ _ z hz) h).jM
 .--makeMap
  split at hk
  .split at hk
   .obtain ⟨rfl,rfl⟩:=ad hk;exact(D2 hop hI hn0 h).jM
   .exact fG hk.symm
  .exact fG hk.symm
 .--lookup
  split at hk
  .rename_i hu;split at hk
   .rename_i hm;obtain⟨rfl,rfl⟩:=ad hk;exact(Gn hop hu hm hI (fun z hz=>hρ _ z hz) (fun z hz=>hρ _ z hz) h).jM
   .exact fG hk.symm
  .exact fG hk.symm
 .--mapEntry
  split at hk
  .rename_i hu;split at hk
   .rename_i hm;obtain⟨rfl,rfl⟩:=ad hk;exact(Cd hop hu hm hI (fun z hz=>hρ _ z hz) (fun z hz=>hρ _ z hz) h).jM
   .exact fG hk.symm
  .exact fG hk.symm
 .--mapUpdate
  split at hk
  .rename_i hu;split at hk
   .rename_i hm;obtain⟨rfl,rfl⟩:=ad hk;exact(Gl hop hu hm hI (fun z hz=>hρ _ z hz) (fun z hz=>hρ _ z hz) (fun z hz=>hρ _ z hz) h).jM
   .exact fG hk.symm
  .exact fG hk.symm
 .--entryStore
  split at hk
  .split at hk
   .obtain ⟨rfl,rfl⟩:=ad hk;exact(zu hop hI (fun z hz=>hρ _ z hz) (fun z hz=>hρ _ z hz) (fun z hz=>hρ _ z hz) h).jM
   .exact fG hk.symm
  .exact fG hk.symm
 .--call
  rename_i c;split at hk
  .rename_i hcal;split at hk
   .rename_i r hr;unfold FP at hr;split at hr
    .rename_i s x st xt hargs hts;split at hr
     .rename_i el el2 hus hux;split at hr
      .rename_i z hz;split at hr
       .rename_i m hm;obtain rfl:=aa hr;obtain⟨rfl,rfl⟩:=ad hk;obtain⟨q1,rfl,q3⟩:=yZ hm;exact(Ij hop hcal (kQ hargs) (kQ hts) hus hux q1 hz q3 hI hn0 (fun z hz=>hρ _ z hz) (fun z hz=>hρ _ z hz) h).jM
       .cases hr
      .cases hr
     .cases hr
    .cases hr
   .exact (zE hop hcal hk hI hE hn0 h).jM
  .rename_i f hcal;split at hk
   .split at hk
    .rename_i hf;obtain⟨rfl,rfl⟩:=ad hk
     have:∃p q,c.args.toList=[p,q]:=by
      generalize c.args.toList=l at h
      match l,h with|[p,q],_=>exact⟨p,q,rfl⟩|[],h=>simp[bX]at h|[p],h=>simp[bX]at h|p::q::r::t,h=>simp[bX]at h
     obtain⟨p,q,hpq⟩:=this;rw[hpq]at h;exact(ML hop hcal (kQ hpq) hf rfl hI (fun z hz=>hρ p z hz) (fun z hz=>hρ q z hz) h).jM
    .exact fG hk.symm
   .obtain ⟨rfl,rfl⟩:=ad hk;exact Fh hop hcal hok hI hfr hρ h
  .rename_i hcal;obtain⟨rfl,rfl⟩:=ad hk;exact Fh hop hcal hok hI hfr hρ h
  .exact fG hk.symm
 .exact fG hk.symm
end
def gf(P:Program)(bq:uX)(nt:Nat)(all:Array Oper)(o:Oper):l6:=
 {dst:=o.dst
  k:=if(match o.dst with|some d=>decide (d<nt)|none=>true)then(wU P bq o.op).1 else .fG
  args:=(wU P bq o.op).2
  guard:=match o.guard with|none=>none|some (j,b)=>some (((all[j]?).bind (·.dst)).getD 1000000000,b)}
def sn:C:=.oL 0 []
def RG(S:Nat->Prop)(w:World)(Kn:Nat->Prop)(φ:Nat->gi)(c:C)(v:Value):Prop:=c=sn\/RC S w Kn φ c v
theorem RG.mono{S S':Nat->Prop}{w w':World}{Kn Kn':Nat->Prop}{φ φ':Nat->gi}(hs:fX S w S' w')(hr:ry Kn φ Kn' φ'){x:C}{v:Value}(h:RG S w Kn φ x v):RG S' w' Kn' φ' x v:=h.imp id fun h=>h.mono hs hr
structure EU(S K:Nat->Prop)(w0:World)(Kn:Nat->Prop)(φ:Nat->gi)(gv:List Value)(nt:Nat)(s:St)(a:Act)(w:World):Prop where
 inv:Inv S K w0 Kn φ (ao s.heap) w
 cR:hZ.ok S w Kn φ s.cR a.tmps
 size:a.tmps.size=nt
 defers:a.defers=[]
 fP:∀j,s.next<=j->¬Kn j
 gh:∀(i:Nat)(c:C)(v:Value),s.gh[i]?=some c->gv[i]?=some v->RG S w Kn φ c v
section
variable{P:Program}{S K:Nat->Prop}{w0 w:World}{Kn:Nat->Prop}{φ:Nat->gi}{gv:List Value}{nt:Nat}{a:Act}{call:Call}{bq:uX}{s s':St}
theorem KB{a:Act}{d:Nat}{v:Value}(h:d<a.tmps.size)(t:Nat):(a.put (some d) v).tmps.getD t undef=if t=d then v else a.tmps.getD t undef:=by
 simp only[Act.put,bC,kq];by_cases e:d=t
 .subst e;simp[h]
 .have e2:¬t=d:=fun h=>e h.symm;simp[e,e2]
theorem vf{a:Act}(d:Option Nat)(v:Value):(a.put d v).tmps.size=a.tmps.size:=by cases d<;>simp[Act.put]
theorem rH{a:Act}(d:Option Nat)(v:Value):(a.put d v).defers=a.defers:=by cases d<;>simp[Act.put]
theorem lm(e:hZ)(d:Option Nat)(v:TV)(t:Nat):bQ (put e d v) t=if d=some t then some v else bQ e t:=by
 cases d with
 |none=>simp[put]
 |some d=>
  simp only[put,bQ];by_cases h:d=t
  .simp [h]
  .have h':(d==t)=false:=by simpa using h
   simp[h,h']
theorem yE(e:hZ)(d:Option Nat)(t:Nat):bQ (drop e d) t=if d=some t then some (.gB [])else bQ e t:=lm e d (.gB []) t
theorem hZ.H3{e:hZ}{S':Nat->Prop}{w':World}{Kn':Nat->Prop}{φ':Nat->gi}(hE:hZ.ok S w Kn φ e a.tmps)(hs:fX S w S' w')(hr:ry Kn φ Kn' φ'){d:Option Nat}{v:TV}{val:Value}
  (hd:∀x,d=some x->x<a.tmps.size) (hv:e_ S' w' Kn' φ' v val):hZ.ok S' w' Kn' φ' (Ev.put e d v) (a.put d val).tmps:=by
 intro t x hx;rw[lm]at hx;cases d with
 |none=>simp only[reduceCtorEq,if_false]at hx;exact(hE t x hx).mono hs hr
 |some d=>
  rw[KB (hd d rfl)];by_cases h:t=d
  .subst h;simp only[if_true]at hx;rw[if_pos rfl,<-aa hx];exact hv
  .have h2:¬(some d=some t):=fun e=>h (aa e).symm;rw[if_neg h2]at hx;rw[if_neg h];exact(hE t x hx).mono hs hr
theorem hZ.FH{e:hZ}(hE:hZ.ok S w Kn φ e a.tmps){d:Option Nat}:hZ.ok S w Kn φ (Ev.drop e d) (a.put d undef).tmps:=by
 intro t x hx;rw[yE]at hx;have hu:e_ S w Kn φ (.gB []) undef:=.gB rfl fun i x hi=>by simp at hi
 split at hx
 .rename_i h;subst h;obtain rfl:=aa hx;have:(a.put (some t) undef).tmps.getD t undef=undef:=by simp only[Act.put,bC,kq,if_true];split<;>rfl
  rw[this];exact hu
 .rename_i h;have:=hE t x hx;cases d with|none=>exact this|some d=>have h2:¬d=t:=fun e=>h (by rw[e]);simp only[Act.put,bC,kq,if_neg h2];rw[bC]at this;exact this
theorem pT{e:hZ}(hE:hZ.ok S w Kn φ e a.tmps)(hsz:a.tmps.size<1000000000){all:Array Oper}{o:Oper}{b:Bool}(h:jy e (gf P bq nt all o).guard=some b):
  Region.wanted o (yielded all a.tmps)=b:=by
 unfold gf at h;simp only at h;unfold Region.wanted;cases hg:o.guard with
 |none=>rw[hg]at h;simpa[jy]using h
 |some p=>
  obtain⟨j,want⟩:=p;rw[hg]at h;simp only[jy]at h;split at h
  .rename_i x hx;have hr:=hE _ _ hx;obtain⟨hv,_⟩:=hr.lit;cases hd:(all[j]?).bind (·.dst)with
   |none=>rw[hd]at hv;simp only[Option.getD_none]at hv;rw[bC,Array.getElem?_eq_none (by omega)]at hv;simp[undef]at hv
   |some t=>
    rw[hd]at hv;simp only[cm]at hv
    have ht:a.tmps[t]?=some (.bool x):=by
     rw[bC]at hv;cases ht:a.tmps[t]?with
     |none=>rw[ht]at hv;simp[undef]at hv
     |some y=>rw[ht]at hv;simpa using hv
    obtain rfl:=aa h;simp only[yielded,hd,gK,ht];cases x<;>cases want<;>rfl
  .rename_i hx;have hr:=hE _ _ hx;obtain rfl:=aa h;cases hd:(all[j]?).bind (·.dst)with
   |none=>simp only[yielded,hd,Option.bind_none];rfl
   |some t=>
    rw[hd]at hr;simp only[cm]at hr;generalize hv:a.tmps.getD t undef=v at hr;cases hr with
    |@gB _ aF hlen _=>
     rw[bC]at hv;simp only[yielded,hd,gK];cases ht:a.tmps[t]?with
     |none=>rfl
     |some y=>rw[ht]at hv;simp only[cm]at hv;subst hv;rfl
  .simp at h
end
section
variable{H H':bh}
def gr(H H':bh)(au:List Nat):Prop:=∀i∈au,ao H' i=ao H i
theorem gr.left{a b:List Nat}(h:gr H H' (a++b)):gr H H' a:=fun i hi=>h i (aG _ hi)
theorem gr.right{a b:List Nat}(h:gr H H' (a++b)):gr H H' b:=fun i hi=>h i (aD _ hi)
theorem ux:∀n,(∀c x au,eu H n c=some (x,au)->gr H H' au->eu H' n c=some (x,au))/\
  (∀cs xs au,fN H n cs=some (xs,au)->gr H H' au->fN H' n cs=some (xs,au)):=by
 have leaf:∀n c x au,(match c with|.op _ _|.oL _ _=>False|_=>True)->eu H n c=some (x,au)->gr H H' au->eu H' n c=some (x,au):=by
  intro n c x au hl h ha;cases c with
  |d y=>simpa only[eu]using h
  |bP sz id off len=>
   have:ao H' id=ao H id:=ha id (by
    simp only[eu]at h;split at h
    all_goals first
     |(split at h
       .obtain ⟨_,rfl⟩:=ad (aa h);simp
       .simp at h)
     |(split at h
       .split at h
        .obtain ⟨_,rfl⟩:=ad (aa h);simp
        .simp at h
       .simp at h)
     |simp at h)
   simp only[eu]at h|-;rw[this];exact h
  |ep id eU off=>
   have:ao H' id=ao H id:=ha id (by
    simp only[eu]at h;split at h
    all_goals first
     |(split at h
       .split at h
        .obtain ⟨_,rfl⟩:=ad (aa h);simp
        .simp at h
       .simp at h)
     |simp at h)
   simp only[eu]at h|-;rw[this];exact h
  |op id off=>exact hl.elim
  |oL f caps=>exact hl.elim
  |om id=>cases n<;>simp[eu]at h
 intro n;induction n with
 |zero=>
  refine⟨fun c x au h ha=>?_,fun cs xs au h ha=>?_⟩
  .cases c with|op id off=>simp[eu]at h|oL f caps=>simp[eu]at h|_=>exact leaf 0 _ x au trivial h ha
  .cases cs with|nil=>simpa only[fN]using h|cons c cs=>simp[fN]at h
 |succ n ih=>
  refine⟨fun c x au h ha=>?_,fun cs xs au h ha=>?_⟩
  .cases c with
   |op id off=>
    simp only[eu]at h|-;split at h
    .rename_i ho;split at h
     .rename_i hle;obtain⟨rfl,rfl⟩:=ad (aa h);rw[ha id (by simp),ho];simp only[hle,if_true]
     .simp at h
    .rename_i ho;split at h
     .rename_i hv;split at h
      .rename_i hle;obtain⟨rfl,rfl⟩:=ad (aa h);rw[ha id (by simp),ho];simp only[ih.2 _ _ _ hv (fun i hi=>ha i (by simp[hi])),hle,if_true]
      .simp at h
     .simp at h
    .simp at h
   |oL f caps=>
    simp only[eu]at h|-;split at h
    .rename_i hv;obtain⟨rfl,rfl⟩:=ad (aa h);simp only[ih.2 _ _ _ hv ha]
    .simp at h
   |_=>exact leaf _ _ x au trivial h ha
  .cases cs with
   |nil=>simpa only[fN]using h
   |cons c cs=>
    simp only[fN]at h|-;split at h
    .rename_i h1 h2;obtain⟨rfl,rfl⟩:=ad (aa h);simp only[ih.1 _ _ _ h1 ha.left,ih.2 _ _ _ h2 ha.right]
    .simp at h
theorem oS:∀cs xs au,dC H cs=some (xs,au)->gr H H' au->dC H' cs=some (xs,au):=by
 intro cs;induction cs with
 |nil=>intro xs au h _;simpa only[dC]using h
 |cons c cs ih=>
  intro xs au h ha;simp only[dC]at h|-;split at h
  .rename_i h1 h2;obtain⟨rfl,rfl⟩:=ad (aa h);simp only[(ux 300).1 _ _ _ h1 ha.left,ih _ _ h2 ha.right]
  .simp at h
theorem o7{all:List Nat}(ha:gr H H' all):∀(l:List Nat)(u:eg),(∀i∈l,i∈all)->dh H all l=some u->dh H' all l=some u:=by
 intro l;induction l with
 |nil=>intro u _ h;simpa only[dh]using h
 |cons a l ih=>
  intro u hl h;simp only[dh]at h|-;split at h
  .rename_i o u' ho hu
   have hob:jN H' all a=some o:=by
    unfold jN at ho|-;rw[ha a (hl a (by simp))];split at ho
    .exact ho
    .exact ho
    .exact ho
    .split at ho
     .rename_i hv;split at ho
      .rename_i hall;simp only[(ux 300).2 _ _ _ hv (fun i hi=>ha i (by simpa using aV.1 hall i hi)),hall,if_true];exact ho
      .simp at ho
     .simp at ho
    .simp at ho
    .simp at ho
    .exact ho
    .simp at ho
   simp only[hob,ih u' (fun i hi=>hl i (by simp[hi])) hu];exact h
  .simp at h
theorem yt{agg:Bool}{n:Nat}{p:C}{v:TV}{au:List Nat}(h:gT agg n p H=some (v,au))(ha:gr H H' au):gT agg n p H'=some (v,au):=by
 unfold gT at h|-;split at h
 .exact h
 .rename_i id eU off
  have:ao H' id=ao H id:=ha id (by
   split at h
   all_goals first
    |(split at h
      .split at h
       .obtain ⟨_,rfl⟩:=ad (aa h);simp
       .simp at h
      .simp at h)
    |simp at h)
  simp only[this];exact h
 .rename_i id off
  have:ao H' id=ao H id:=ha id (by
   split at h
   all_goals first
    |(split at h
      .obtain ⟨_,rfl⟩:=ad (aa h);simp
      .simp at h)
    |simp at h)
  simp only[this];exact h
 .simp at h
theorem DQ{id eU sz:Nat}{slots:List ko}{cs:List C}{u:eg}{au:List Nat}(h:rS id eU sz slots cs H=some (u,au))(ha:gr H H' au):rS id eU sz slots cs H'=some (u,au):=by
 unfold rS at h|-;split at h
 .exact h
 .rename_i sz' id2 len
  have hid:id2∈au:=by
   repeat' split at h
   all_goals first
    |(simp at h;done)
    |(obtain⟨_,h2⟩:=ad (aa h);rw[<-h2];simp)
  simp only[ha id2 hid];exact h
 .simp at h
theorem Cq{agg:Bool}{n nxt n':Nat}{p:C}{v:TV}{u:eg}{au:List Nat}(h:lp agg n p H nxt=some (v,u,au,n'))(ha:gr H H' au):gT agg n p H'=none/\lp agg n p H' nxt=some (v,u,au,n'):=by
 unfold lp at h;split at h
 case h_2=>simp at h
 rename_i id eU;split at h
 case h_2=>simp at h
 rename_i sz slots ho
 have hid:id∈au:=by
  repeat' split at h
  all_goals first
   |(simp at h;done)
   |(obtain⟨_,_,h2,_⟩:=(by simpa using h:_/\_/\[id]=au/\_);rw[<-h2];simp)
 have ho':ao H' id=some (.nst sz slots):=by rw[ha id hid];exact ho
 refine⟨by simp only[gT,ho'],?_⟩;simp only[lp,ho'];exact h
theorem BJ{n:Nat}{p:C}{v:TV}{u:eg}{au:List Nat}(h:lY n p v H=some (u,au))(ha:gr H H' au):lY n p v H'=some (u,au):=by
 unfold lY at h|-;split at h
 .simp at h
 .rename_i cs hcs;split at h
  .rename_i hlen;simp only[hlen,if_true];split at h
   .rename_i id eU off;split at h
    .rename_i sz rows ho;split at h
     .rename_i r ds ids1 hr hv;split at h
      .rename_i u1 hfz;split at h
       .rename_i hb;obtain⟨rfl,rfl⟩:=ad (aa h);have ha1:gr H H' ids1:=fun i hi=>ha i (by simp[hi]);simp only[ha id (by simp),ho,hr,oS _ _ _ hv ha1,o7 ha1 _ _ (fun i hi=>hi) hfz,hb.1,hb.2,and_self,if_true]
       .simp at h
      .simp at h
     .simp at h
    .rename_i sz slots ho;split at h
     .rename_i hc
      have hid:id∈au/\∀i,cs=[.bP sz i 0 0]->True:=by
       refine⟨?_,fun _ _=>trivial⟩;unfold rS at h
       repeat' split at h
       all_goals first
        |(simp at h;done)
        |(obtain⟨_,h2⟩:=ad (aa h);rw[<-h2];simp)
      simp only[ha id hid.1,ho,if_pos hc];exact DQ h ha
     .simp at h
    .simp at h
   .rename_i id off;split at h
    .rename_i cells ho;split at h
     .rename_i hb;obtain⟨rfl,rfl⟩:=ad (aa h);simp only[ha id (by simp),ho,hb,if_true]
     .simp at h
    .simp at h
   .simp at h
  .simp at h
theorem oW{sz:Nat}{x:C}{new:List (List D)}{au:List Nat}(h:fY sz H x=some (new,au))(ha:gr H H' au):fY sz H' x=some (new,au):=by
 unfold fY at h|-;split at h
 .exact h
 .exact h
 .rename_i sz' id off len
  have:ao H' id=ao H id:=ha id (by
   split at h
   all_goals first
    |(split at h
      .obtain ⟨_,rfl⟩:=ad (aa h);simp
      .simp at h)
    |simp at h)
  simp only[this];exact h
 .simp at h
theorem EA{sz:Nat}{d x:C}{i:Int}{u:eg}{au:List Nat}(h:jx sz d x H=some (i,u,au))(ha:gr H H' au):jx sz d x H'=some (i,u,au):=by
 unfold jx at h|-;split at h
 .rename_i new ids1 hr;obtain⟨_,_,rfl⟩:_/\_/\ids1=au:=by simpa using h
  rw[oW hr ha];exact h
 .rename_i new ids1 sz' id off len hr;split at h
  .rename_i szo rows ho;split at h
   .rename_i hb;obtain⟨_,_,rfl⟩:_/\_/\id::ids1=au:=by simpa using h
    rw[oW hr fun j hj=>ha j (aC _ hj)];simp only[ha id (by simp),ho,if_pos hb];exact h
   .simp at h
  .simp at h
 .simp at h
theorem C1{sz:Nat}{d x:C}{i:Int}{u:eg}{au:List Nat}(h:kF sz d x H=some (i,u,au))(ha:gr H H' au):kF sz d x H'=some (i,u,au)/\jx sz d x H'=none:=by
 unfold kF at h|-;split at h
 case h_2=>simp at h
 rename_i sz' id off len sz2 id2 off2 len2
 have hids:au=[id,id2]:=by
  repeat' split at h
  all_goals first
   |(simp at h;done)
   |(obtain⟨_,_,h2⟩:=(by simpa using h:_/\_/\[id,id2]=au);exact h2.symm)
 subst hids;have a1:=ha id (by simp);have a2:=ha id2 (by simp);refine⟨by simp only[a1,a2];exact h,?_⟩
 have:∃szo rows cp,ao H' id=some (.cap szo rows cp):=by
  rw[a1];split at h
  .exact ⟨_,_,_,by assumption⟩
  .exact ⟨_,_,_,by assumption⟩
  .simp at h
 obtain⟨szo,rows,cp,ho⟩:=this;unfold jx;split
 .rename_i hd;simp at hd
 .rename_i hd;obtain⟨rfl,rfl,rfl,rfl⟩:=(by simpa using hd:_/\_/\_/\_)
  rw[ho]
 .rfl
theorem Bn{sz nxt n':Nat}{s x:C}{v:TV}{u:eg}{au:List Nat}(h:jk sz s x H nxt=some (v,u,au,n'))(ha:gr H H' au):jk sz s x H' nxt=some (v,u,au,n'):=by
 unfold jk at h|-;split at h
 .simp at h
 .rename_i new ids1 hr;split at h
  .have e1:ids1=au:=by
    split at h
    .split at h
     .obtain ⟨_,_,h3,_⟩:=(by simpa using h:_/\_/\ids1=au/\_);exact h3
     .obtain ⟨_,_,h3,_⟩:=(by simpa using h:_/\_/\ids1=au/\_);exact h3
    .simp at h
   subst e1;simp only[oW hr ha];exact h
  .rename_i sz' id off len;split at h
   .rename_i szo rows ho;split at h
    .rename_i hb;have e1:id::ids1=au:=by obtain⟨_,_,h3,_⟩:=(by simpa using h:_/\_/\id::ids1=au/\_);exact h3
     subst e1;simp only[oW hr (fun i hi=>ha i (by simp[hi])),ha id (by simp),ho];rw[if_pos hb];exact h
    .simp at h
   .simp at h
  .simp at h
theorem DX:∀n,(∀c t bi rd,dn H n c=some (t,bi,rd)->gr H H' rd->dn H' n c=some (t,bi,rd))/\
  (∀cs ts bi rd,iB H n cs=some (ts,bi,rd)->gr H H' rd->iB H' n cs=some (ts,bi,rd)):=by
 have leaf:∀n c t bi rd,(match c with|.op _ _=>False|_=>True)->dn H n c=some (t,bi,rd)->gr H H' rd->dn H' n c=some (t,bi,rd):=by
  intro n c t bi rd hl h ha;cases c with
  |d y=>cases n<;>simpa only[dn]using h
  |bP sz id off len=>
   have hm:id∈rd:=by
    cases n<;>
    .simp only[dn]at h;split at h
     all_goals first
      |(split at h
        .split at h
         .obtain ⟨_,_,h3⟩:=(by simpa using h:_/\_/\[id]=rd);rw[<-h3];simp
         .simp at h
        .simp at h)
      |(split at h
        .obtain ⟨_,_,h3⟩:=(by simpa using h:_/\_/\[id]=rd);rw[<-h3];simp
        .simp at h)
      |simp at h
   have:ao H' id=ao H id:=ha id hm;cases n<;>
   .simp only[dn]at h|-;rw[this];exact h
  |ep id eU off=>cases n<;>simp[dn]at h
  |oL f caps=>cases n<;>simp[dn]at h
  |om id=>
   simp only[dn]at h|-
   have hm:id∈rd:=by
    split at h
    .obtain ⟨_,_,h3⟩:=(by simpa using h:_/\_/\[id]=rd);rw[<-h3];simp
    .simp at h
   rw[ha id hm];exact h
  |op id off=>exact hl.elim
 intro n;induction n with
 |zero=>
  refine⟨fun c t bi rd h ha=>?_,fun cs ts bi rd h ha=>?_⟩
  .cases c with|op id off=>simp[dn]at h|_=>exact leaf 0 _ t bi rd trivial h ha
  .cases cs with|nil=>simpa only[iB]using h|cons c cs=>simp[iB]at h
 |succ n ih=>
  refine⟨fun c t bi rd h ha=>?_,fun cs ts bi rd h ha=>?_⟩
  .cases c with
   |op id off=>
    cases off with
    |succ off=>simp[dn]at h
    |zero=>
     simp only[dn]at h|-;split at h
     .rename_i ho;split at h
      .rename_i ts own' rd' hp;obtain⟨h1,h2,h3⟩:=(by simpa using h:T.pt ts=t/\id::own'=bi/\id::rd'=rd)
       subst h1 h2 h3;rw[ha id (by simp),ho];simp only[ih.2 _ _ _ _ hp (fun i hi=>ha i (by simp[hi]))]
      .simp at h
     .rename_i cells ho;obtain⟨h1,h2,h3⟩:=(by simpa using h:T.d (.pt cells)=t/\[]=bi/\[id]=rd)
      subst h1 h2 h3;rw[ha id (by simp),ho]
     .simp at h
   |_=>exact leaf _ _ t bi rd trivial h ha
  .cases cs with
   |nil=>simpa only[iB]using h
   |cons c cs=>
    simp only[iB]at h|-;split at h
    .rename_i t0 a i0 ts0 b j0 h1 h2;obtain⟨e1,e2,e3⟩:=(by simpa using h:t0::ts0=ts/\a++b=bi/\i0++j0=rd)
     subst e1 e2 e3;simp only[ih.1 _ _ _ _ h1 ha.left,ih.2 _ _ _ _ h2 ha.right]
    .simp at h
theorem yY:∀(tvs:List TV)(ms:List Bool)(as:List A)(au:List Nat)(lent:List (C×List Nat×List Nat)),ge H tvs ms=some (as,au,lent)->gr H H' au->gr H H' (lent.flatMap (·.2.2))->
  ge H' tvs ms=some (as,au,lent):=by
 intro tvs;induction tvs with
 |nil=>intro ms as au lent h _ _;simpa only[ge]using h
 |cons t tvs ih=>
  intro ms as au lent h ha hb;simp only[ge]at h|-;split at h
  .simp at h
  .rename_i as1 ids1 lent1 hrec;split at h
   .rename_i hm;split at h
    .split at h
     .rename_i t0 bi rd hp;obtain⟨e1,e2,e3⟩:=(by simpa using h:A.mt t0::as1=as/\ids1=au/\(_,bi,rd)::lent1=lent)
      subst e1 e2 e3;simp only[br]at hb;simp only[ih _ _ _ _ hrec ha hb.right,hm,if_true,(DX 300).1 _ _ _ _ hp hb.left]
     .simp at h
    .simp at h
   .rename_i hm;split at h
    .split at h
     .rename_i x i hv;obtain⟨e1,e2,e3⟩:=(by simpa using h:A.d x::as1=as/\i++ids1=au/\lent1=lent)
      subst e1 e2 e3;simp only[ih _ _ _ _ hrec ha.right hb,hm,if_false,aE,(ux 300).1 _ _ _ hv ha.left]
     .simp at h
    .split at h
     .rename_i xs i hv;obtain⟨e1,e2,e3⟩:=(by simpa using h:A.agg xs::as1=as/\i++ids1=au/\lent1=lent)
      subst e1 e2 e3;simp only[ih _ _ _ _ hrec ha.right hb,hm,if_false,aE,oS _ _ _ hv ha.left]
     .simp at h
    .simp at h
theorem Fv:∀(tvs:List TV)(ms:List Bool)(as:List A)(au:List Nat)(lent:List (C×List Nat×List Nat)),ge H tvs ms=some (as,au,lent)->
  ∀c bi rd,(c,bi,rd)∈lent->∃t,dn H 300 c=some (t,bi,rd):=by
 intro tvs;induction tvs with
 |nil=>
  intro ms as au lent h c bi rd hm;obtain⟨_,_,rfl⟩:[]=as/\[]=au/\[]=lent:=by simpa[ge]using h
  simp at hm
 |cons t tvs ih=>
  intro ms as au lent h c bi rd hm;simp only[ge]at h;split at h
  .simp at h
  .rename_i as1 ids1 lent1 hrec;split at h
   .split at h
    .split at h
     .rename_i c0 _ t0 own0 rd0 hp;obtain⟨_,_,e3⟩:=(by simpa using h:A.mt t0::as1=as/\ids1=au/\(_,own0,rd0)::lent1=lent)
      subst e3;rcases aJ.1 hm with hm|hm
      .simp only[c9]at hm;obtain⟨g1,g2,g3⟩:=hm;rw[g1,g2,g3];exact⟨_,hp⟩
      .exact ih _ _ _ _ hrec c bi rd hm
     .simp at h
    .simp at h
   .split at h
    .split at h
     .obtain ⟨_,_,e3⟩:=(by simpa using h:_/\_/\lent1=lent)
      subst e3;exact ih _ _ _ _ hrec c bi rd hm
     .simp at h
    .split at h
     .obtain ⟨_,_,e3⟩:=(by simpa using h:_/\_/\lent1=lent)
      subst e3;exact ih _ _ _ _ hrec c bi rd hm
     .simp at h
    .simp at h
theorem wG:∀(l:List (C×List Nat×List Nat)),(∀c bi rd,(c,bi,rd)∈l->∃t,dn H 300 c=some (t,bi,rd))->gr H H' (l.flatMap (·.2.2))->eF H' l=eF H l:=by
 intro l;induction l with
 |nil=>intro _ _;rfl
 |cons p l ih=>
  obtain⟨c,bi,rd⟩:=p;intro hp ha;simp only[br]at ha;have h1:=ih (fun c bi rd hm=>hp c bi rd (by simp[hm])) ha.right;cases c with
  |bP sz id off len=>
   obtain⟨t,ht⟩:=hp (.bP sz id off len) bi rd (by simp)
   have hm:id∈rd:=by
    simp only[dn]at ht;split at ht
    all_goals first
     |(split at ht
       .split at ht
        .obtain ⟨_,_,h3⟩:=(by simpa using ht:_/\_/\[id]=rd);rw[<-h3];simp
        .simp at ht
       .simp at ht)
     |(split at ht
       .obtain ⟨_,_,h3⟩:=(by simpa using ht:_/\_/\[id]=rd);rw[<-h3];simp
       .simp at ht)
     |simp at ht
   simp only[eF,h1,ha.left id hm]
  |_=>simp only[eF,h1]
theorem EK{call:Call}{ro:Bool}{jT:List Bool}{f:Option TV}{vs:List (Option TV)}{nxt n':Nat}{v:TV}{u:eg}{au:List Nat}(h:uM call ro jT f vs H nxt=some (v,u,au,n'))(ha:gr H H' au):
  uM call ro jT f vs H' nxt=some (v,u,au,n'):=by
 unfold uM at h|-;split at h
 .rename_i f caps vs hf hvs;split at h
  .simp at h
  .rename_i as ids1 lent hargs;split at h
   .rename_i hcond;split at h
    .simp at h
    .rename_i rs outs hcall;by_cases hro:ro=true
     .rw [if_pos hro]at h;split at h
      .rename_i hc;split at h
       .simp at h
       .rename_i bu m hbk;have e1:ids1++lent.flatMap (·.2.2)=au:=by obtain⟨_,_,h3,_⟩:=(by simpa using h:_/\_/\ids1++lent.flatMap (·.2.2)=au/\_);exact h3
        subst e1;simp only[yY _ _ _ _ _ hargs ha.left ha.right];rw[if_pos (by rw[wG lent (Fv _ _ _ _ _ hargs) ha.right];exact hcond)];simp only[hcall];rw[if_pos hro,if_pos hc];simp only[hbk];exact h
      .simp at h
     .rw [if_neg hro]at h;split at h
      .simp at h
      .rename_i fu hfz;split at h
       .simp at h
       .rename_i bu m hbk;have e1:ids1++lent.flatMap (·.2.2)=au:=by obtain⟨_,_,h3,_⟩:=(by simpa using h:_/\_/\ids1++lent.flatMap (·.2.2)=au/\_);exact h3
        subst e1;simp only[yY _ _ _ _ _ hargs ha.left ha.right];rw[if_pos (by rw[wG lent (Fv _ _ _ _ _ hargs) ha.right];exact hcond)];simp only[hcall];rw[if_neg hro];simp only[o7 ha.left _ _ (fun i hi=>hi) hfz,hbk];exact h
   .simp at h
 .simp at h
theorem wB{call:Call}{sz len:Nat}{zero:List Value}{places:List Nat}{vs:List (Option TV)}{nxt n':Nat}{v:TV}{u:eg}{au:List Nat}
  (h:bX call (.buildSlice sz len zero places) vs H nxt=some (v,u,au,n')) (ha:gr H H' au):bX call (.buildSlice sz len zero places) vs H' nxt=some (v,u,au,n'):=by
 have key:∀G:bh,bX call (.buildSlice sz len zero places) vs G nxt=(match dz vs with
  |some xs=>
   (match kE (eQ zero) ((places.map fun i=>(i*sz,sz)).zip xs)with
   |some cs=>
    (match dC G cs with
    |some (ds,au)=>(match dh G au au with|some u=>some (TV.c (.bP sz nxt 0 len),(nxt,some (Ob.aF sz (mg sz len ds)))::u,au,nxt+1)|none=>none)
    |none=>none)
   |none=>none)
  |none=>none):=fun _=>rfl
 rw[key]at h|-;split at h
 .rename_i xs hxs;split at h
  .rename_i cs hcs;split at h
   .rename_i ds ids1 hv;split at h
    .rename_i u1 hfz;obtain⟨_,_,h3,_⟩:=(by simpa using h:_/\_/\ids1=au/\_)
     subst h3;simp only[oS _ _ _ hv ha,o7 ha _ _ (fun i hi=>hi) hfz];exact h
    .simp at h
   .simp at h
  .simp at h
 .simp at h
theorem AW{ka va ok:Bool}{ks:List Kd}{z:List Value}{m:C}{k v:TV}{au:List Nat}(h:ia ka ks va z ok m k H=some (v,au))(ha:gr H H' au):ia ka ks va z ok m k H'=some (v,au):=by
 unfold ia at h|-;split at h
 .exact h
 .rename_i id key hkey
  have hid:id∈au:=by
   repeat' split at h
   all_goals first
    |(simp at h;done)
    |(obtain⟨_,h2⟩:=ad (aa h);rw[<-h2];simp)
  simp only[ha id hid];exact h
 .simp at h
theorem CV{ka va:Bool}{ks:List Kd}{z:List Value}{m:C}{k v:TV}{u:eg}{au:List Nat}(h:mU ka ks va z m k H=some (v,u,au))(ha:gr H H' au):mU ka ks va z m k H'=some (v,u,au):=by
 unfold mU at h|-;split at h
 .rename_i id key hkey
  have hid:id∈au:=by
   repeat' split at h
   all_goals first
    |(simp at h;done)
    |(obtain⟨_,_,h2⟩:=(by simpa using h:_/\_/\[id]=au);rw[<-h2];simp)
  simp only[ha id hid];exact h
 .simp at h
theorem Bb{va:Bool}{n:Nat}{m:C}{s:Option TV}{x:TV}{u:eg}{au:List Nat}(h:mV va n m s x H=some (u,au))(ha:gr H H' au):mV va n m s x H'=some (u,au):=by
 unfold mV at h|-;split at h
 .rename_i id s1 ds eG hds
  have hid:id∈au:=by
   repeat' split at h
   all_goals first
    |(simp at h;done)
    |(obtain⟨_,h2⟩:=(by simpa using h:_/\[id]=au);rw[<-h2];simp)
  simp only[ha id hid];exact h
 .simp at h
theorem yb{str:Bool}{sz:Nat}{x y:C}{l m:Int}{au:List Nat}(h:jw str sz x l m H=some (y,au))(ha:gr H H' au):jw str sz x l m H'=some (y,au):=by
 unfold jw at h|-;split at h
 .rename_i sz' id off len
  have hid:id∈au:=by
   repeat' split at h
   all_goals first
    |(simp at h;done)
    |(obtain⟨_,h2⟩:=(by simpa using h:_/\[id]=au);rw[<-h2];simp)
  simp only[ha id hid];exact h
 .simp at h
theorem C5{z:List Value}{x:C}{u:eg}{au:List Nat}(h:lZ z x H=some (u,au))(ha:gr H H' au):lZ z x H'=some (u,au):=by
 unfold lZ at h|-;split at h
 .rename_i sz id off len
  have hid:id∈au:=by
   repeat' split at h
   all_goals first
    |(simp at h;done)
    |(obtain⟨_,h2⟩:=(by simpa using h:_/\[id]=au);rw[<-h2];simp)
  simp only[ha id hid];exact h
 .simp at h
theorem ER{szi nxt n':Nat}{s x:C}{v:TV}{u:eg}{au:List Nat}(h:oE szi s x H nxt=some (v,u,au,n'))(ha:gr H H' au):oE szi s x H' nxt=some (v,u,au,n'):=by
 unfold oE at h|-;split at h
 .rename_i idB;split at h
  .rename_i szB idR len hB;split at h
   .rename_i hsz;split at h
    .cases h;simp only[ha idB (by simp),hB,if_pos hsz]
    .rename_i idA n;split at h
     .rename_i szA slots hA;split at h
      .rename_i hc;cases h;simp only[ha idB (by simp),ha idA (by simp),hB,hA,if_pos hsz,if_pos hc]
      .cases h
     .cases h
    .cases h
   .cases h
  .cases h
 .cases h
theorem D8{ka va:Bool}{ks:List Kd}{n:Nat}{m:C}{k x:TV}{u:eg}{au:List Nat}(h:rT ka ks va n m k x H=some (u,au))(ha:gr H H' au):rT ka ks va n m k x H'=some (u,au):=by
 unfold rT at h|-;split at h
 .rename_i id key cs hkey hcs;split at h
  .rename_i ds ids1 hv;split at h
   .rename_i fu hfz
    have hids:au=id::ids1:=by
     repeat' split at h
     all_goals first
      |(simp at h;done)
      |(obtain⟨_,h2⟩:=ad (aa h);exact h2.symm)
    subst hids;have ha1:gr H H' ids1:=fun i hi=>ha i (by simp[hi]);simp only[oS _ _ _ hv ha1,o7 ha1 _ _ (fun i hi=>hi) hfz,ha id (by simp)];exact h
   .simp at h
  .simp at h
 .simp at h
theorem D9{ka:Bool}{ks:List Kd}{m:C}{k:TV}{u:eg}{au:List Nat}(h:rU ka ks m k H=some (u,au))(ha:gr H H' au):rU ka ks m k H'=some (u,au):=by
 unfold rU at h|-;split at h
 .exact h
 .rename_i id key hkey
  have hid:id∈au:=by
   repeat' split at h
   all_goals first
    |(simp at h;done)
    |(obtain⟨_,h2⟩:=ad (aa h);rw[<-h2];simp)
  simp only[ha id hid];exact h
 .simp at h
def EX:Ev.K->Bool
 |.uj|.sQ _ _ _ _|.sR _ _|.Dg _|.slice _ _ _ _|.clear _|.EI|.NX _|.MH|.load _ _|.store _|.buildSlice _ _ _ _|.append _|.copy _|.call _ _|.lookup _ _ _ _ _|.mapEntry _ _ _ _|.entryStore _ _=>true
 |_=>false
theorem GZ{call:Call}{k:Ev.K}{vs:List (Option TV)}{nxt:Nat}(hk:EX k=false):bX call k vs H nxt=bX call k vs H' nxt:=by
 cases k<;>first
  |(simp[EX]at hk;done)
  |(unfold bX;split<;>first|rfl|simp_all)
theorem G0{call:Call}{k:Ev.K}{vs:List (Option TV)}{nxt n':Nat}{v:TV}{u:eg}{au:List Nat}(h:bX call k vs H nxt=some (v,u,au,n'))(ha:gr H H' au):
  bX call k vs H' nxt=some (v,u,au,n'):=by
 cases k with
 |load agg n=>
  match vs,h with
  |[some (.c p)],h=>
   change (match gT agg n p H with|some (v,au)=>some (v,[],au,nxt)|none=>none)=_ at h;show(match gT agg n p H' with|some (v,au)=>some (v,[],au,nxt)|none=>none)=_;split at h
   .rename_i hl;obtain⟨_,_,h3,_⟩:=(by simpa using h:_/\_/\_=au/\_)
    subst h3;rw[yt hl ha];exact h
   .simp at h
 |uj=>
  match vs,h with
  |[some (.c p)],h=>
   change (match gT false 1 p H with|some (v,au)=>some (v,[],au,nxt)|none=>lp false 1 p H nxt)=_ at h;show(match gT false 1 p H' with|some (v,au)=>some (v,[],au,nxt)|none=>lp false 1 p H' nxt)=_;split at h
   .rename_i hl;obtain⟨_,_,h3,_⟩:=(by simpa using h:_/\_/\_=au/\_)
    subst h3;rw[yt hl ha];exact h
   .obtain ⟨h1,h2⟩:=Cq h ha;rw[h1];exact h2
 |sQ ka ks va n=>
  match vs,h with
  |[some (.c m),some k,some x],h=>
   change (match rT ka ks va n m k x H with|some (u,au)=>some (TV.gB [],u,au,nxt)|none=>none)=_ at h;show(match rT ka ks va n m k x H' with|some (u,au)=>some (TV.gB [],u,au,nxt)|none=>none)=_;split at h
   .rename_i hl;obtain⟨_,_,h3,_⟩:=(by simpa using h:_/\_/\_=au/\_)
    subst h3;rw[D8 hl ha];exact h
   .simp at h
 |sR ka ks=>
  match vs,h with
  |[some (.c m),some k],h=>
   change (match rU ka ks m k H with|some (u,au)=>some (TV.gB [],u,au,nxt)|none=>none)=_ at h;show(match rU ka ks m k H' with|some (u,au)=>some (TV.gB [],u,au,nxt)|none=>none)=_;split at h
   .rename_i hl;obtain⟨_,_,h3,_⟩:=(by simpa using h:_/\_/\_=au/\_)
    subst h3;rw[D9 hl ha];exact h
   .simp at h
 |Dg szi=>match vs,h with|[some (.c s),some (.c x)],h=>exact ER (s:=s) (x:=x) h ha
 |store n=>
  match vs,h with
  |[some (.c p),some x],h=>
   change (match lY n p x H with|some (u,au)=>some (TV.gB [],u,au,nxt)|none=>none)=_ at h;show(match lY n p x H' with|some (u,au)=>some (TV.gB [],u,au,nxt)|none=>none)=_;split at h
   .rename_i hl;obtain⟨_,_,h3,_⟩:=(by simpa using h:_/\_/\_=au/\_)
    subst h3;rw[BJ hl ha];exact h
   .simp at h
 |buildSlice sz len zero places=>exact wB h ha
 |clear z=>
  match vs,h with
  |[some (.c d)],h=>
   change (match lZ z d H with|some (u,au)=>some (TV.gB [],u,au,nxt)|none=>none)=_ at h;show(match lZ z d H' with|some (u,au)=>some (TV.gB [],u,au,nxt)|none=>none)=_;split at h
   .rename_i hl;obtain⟨_,_,h3,_⟩:=(by simpa using h:_/\_/\_=au/\_)
    subst h3;rw[C5 hl ha];exact h
   .simp at h
 |slice str sz lo hi=>
  have dW:hi=false->bX call (.slice str sz lo hi) vs H nxt=bX call (.slice str sz lo hi) vs H' nxt:=by
   intro hlh
   cases lo<;>cases hi<;>first
    |(simp at hlh;done)
    |(match vs with
     |[]=>rfl
     |none::_=>rfl
     |some (.agg _)::_=>rfl
     |some (.gB _)::_=>rfl
     |some (.c _)::[]=>rfl
     |some (.c _)::_::[]=>rfl
     |some (.c _)::_::_::_=>rfl)
  cases hi with
  |false=>rw[<-dW rfl];exact h
  |true=>
   cases lo with
   |false=>
    match vs,h with
    |[some (.c x),m],h=>
     change (match ci m with
      |some m=>(match cD str sz x none (some m)with
       |some y=>some (TV.c y,([]:eg),([]:List Nat),nxt)
       |none=>(match jw str sz x 0 m H with|some (y,au)=>some (TV.c y,([]:eg),au,nxt)|none=>none))
      |none=>none)=_ at h
     show(match ci m with
      |some m=>(match cD str sz x none (some m)with
       |some y=>some (TV.c y,([]:eg),([]:List Nat),nxt)
       |none=>(match jw str sz x 0 m H' with|some (y,au)=>some (TV.c y,([]:eg),au,nxt)|none=>none))
      |none=>none)=_
     split at h
     .split at h
      .exact h
      .split at h
       .rename_i hl;obtain⟨_,_,h3,_⟩:=(by simpa using h:_/\_/\_=au/\_)
        subst h3;rw[yb hl ha];exact h
       .simp at h
     .simp at h
   |true=>
    match vs,h with
    |[some (.c x),l,m],h=>
     change (match ci l,ci m with
      |some l,some m=>(match cD str sz x (some l) (some m)with
       |some y=>some (TV.c y,([]:eg),([]:List Nat),nxt)
       |none=>(match jw str sz x l m H with|some (y,au)=>some (TV.c y,([]:eg),au,nxt)|none=>none))
      |_,_=>none)=_ at h
     show(match ci l,ci m with
      |some l,some m=>(match cD str sz x (some l) (some m)with
       |some y=>some (TV.c y,([]:eg),([]:List Nat),nxt)
       |none=>(match jw str sz x l m H' with|some (y,au)=>some (TV.c y,([]:eg),au,nxt)|none=>none))
      |_,_=>none)=_
     split at h
     .split at h
      .exact h
      .split at h
       .rename_i hl;obtain⟨_,_,h3,_⟩:=(by simpa using h:_/\_/\_=au/\_)
        subst h3;rw[yb hl ha];exact h
       .simp at h
     .simp at h
 |append sz=>match vs,h with|[some (.c s),some (.c x)],h=>exact Bn (s:=s) (x:=x) h ha
 |copy sz=>
  match vs,h with
  |[some (.c d),some (.c x)],h=>
   change (match jx sz d x H with|some (i,u,au)=>some (lv (.int .i64 i),u,au,nxt)|none=>(match kF sz d x H with|some (i,u,au)=>some (lv (.int .i64 i),u,au,nxt)|none=>none))=_ at h;show(match jx sz d x H' with|some (i,u,au)=>some (lv (.int .i64 i),u,au,nxt)|none=>(match kF sz d x H' with|some (i,u,au)=>some (lv (.int .i64 i),u,au,nxt)|none=>none))=_;split at h
   .rename_i hl;obtain⟨_,_,h3,_⟩:=(by simpa using h:_/\_/\_=au/\_)
    subst h3;rw[EA hl ha];exact h
   .split at h
    .rename_i hl;obtain⟨_,_,h3,_⟩:=(by simpa using h:_/\_/\_=au/\_)
     subst h3;obtain⟨e1,e2⟩:=C1 hl ha;rw[e2,e1];exact h
    .simp at h
 |EI=>
  match vs,h with
  |[some (.c x)],h=>
   change (match vB x H with|some (n,au)=>some (lv (.int .i64 n),([]:eg),au,nxt)|none=>none)=_ at h;show(match vB x H' with|some (n,au)=>some (lv (.int .i64 n),([]:eg),au,nxt)|none=>none)=_;split at h
   .rename_i m ids1 hl;obtain⟨_,_,h3,_⟩:=(by simpa using h:_/\_/\_=au/\_)
    subst h3
    have:vB x H'=some (m,ids1):=by
     unfold vB at hl|-;split at hl
     .rename_i id off len
      have hid:id∈ids1:=by
       repeat' split at hl
       all_goals first
        |(simp at hl;done)
        |(obtain⟨_,h2⟩:=(by simpa using hl:_/\[id]=ids1);rw[<-h2];simp)
      simp only[ha id hid];exact hl
     .simp at hl
    rw[this];exact h
   .simp at h
 |MH=>
  match vs,h with
  |[some (.c x),some (.c y)],h=>
   change (match um x y H with|some au=>some (lv (.bool false),([]:eg),au,nxt)|none=>none)=_ at h;show(match um x y H' with|some au=>some (lv (.bool false),([]:eg),au,nxt)|none=>none)=_;split at h
   .rename_i ids1 hl;obtain⟨_,_,h3,_⟩:=(by simpa using h:_/\_/\_=au/\_)
    subst h3
    have:um x y H'=some ids1:=by
     unfold um at hl|-;split at hl
     .rename_i a o1 l1 sz2 b o2 l2
      have hid:ids1=[a,b]:=by
       repeat' split at hl
       all_goals first
        |(simp at hl;done)
        |(exact(aa hl).symm)
      subst hid;simp only[ha a (by simp),ha b (by simp)];exact hl
     .simp at hl
    rw[this];exact h
   .simp at h
 |NX z=>
  match vs,h with
  |[some (.c x),some (.c (.d (.lit (.int k1 k))))],h=>
   change wS z x k H nxt=_ at h;show wS z x k H' nxt=_;unfold wS at h|-;split at h
   .rename_i sz' id off len
    have hid:id∈au:=by
     repeat' split at h
     all_goals first
      |(simp at h;done)
      |(obtain⟨_,_,h2,_⟩:=(by simpa using h:_/\_/\[id]=au/\_);rw[<-h2];simp)
    simp only[ha id hid];exact h
   .simp at h
 |call ro jT=>match vs,h with|f::vs,h=>exact EK (f:=f) (vs:=vs) h ha
 |lookup ka ks va z ok=>
  match vs,h with
  |[some (.c m),some k],h=>
   change (match ia ka ks va z ok m k H with|some (v,au)=>some (v,([]:eg),au,nxt)|none=>none)=_ at h;show(match ia ka ks va z ok m k H' with|some (v,au)=>some (v,([]:eg),au,nxt)|none=>none)=_;split at h
   .rename_i hl;obtain⟨_,_,h3,_⟩:=(by simpa using h:_/\_/\_=au/\_)
    subst h3;rw[AW hl ha];exact h
   .simp at h
 |mapEntry ka ks va z=>
  match vs,h with
  |[some (.c m),some k],h=>
   change (match mU ka ks va z m k H with|some (v,u,au)=>some (v,u,au,nxt)|none=>none)=_ at h;show(match mU ka ks va z m k H' with|some (v,u,au)=>some (v,u,au,nxt)|none=>none)=_;split at h
   .rename_i hl;obtain⟨_,_,h3,_⟩:=(by simpa using h:_/\_/\_=au/\_)
    subst h3;rw[CV hl ha];exact h
   .simp at h
 |entryStore va n=>
  match vs,h with
  |[some (.c m),s,some x],h=>
   change (match mV va n m s x H with|some (u,au)=>some (TV.gB [],u,au,nxt)|none=>none)=_ at h;show(match mV va n m s x H' with|some (u,au)=>some (TV.gB [],u,au,nxt)|none=>none)=_;split at h
   .rename_i hl;obtain⟨_,_,h3,_⟩:=(by simpa using h:_/\_/\_=au/\_)
    subst h3;rw[Bb hl ha];exact h
   .simp at h
 |_=>rw[GZ (H:=H') (H':=H) rfl];exact h
end
end Go.Ev
