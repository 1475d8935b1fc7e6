/- Calls: what a callee's answer means, and that a caller may use it. Conditions: the relation of XEvC. -/
import Derived.Test.YtingpmogbibghaaEvLa
open Array renaming getD_eq_getD_getElem?->aX,getElem?_setIfInBounds->gz
open Bool renaming and_eq_true->ae,false_eq_true->aG
open List renaming all_cons->dC,all_eq_true->aL,append_assoc->aI,cons_append->aK,flatMap_cons->aZ,getElem?_append_left->bm,getElem?_append_right->bw,getElem?_eq_getElem->ap,getElem?_eq_some_iff->af,getElem?_map->aC,length_map->aH,map_cons->am,mem_append->ah,mem_append_left->az,mem_append_right->av,mem_cons->aE,mem_cons_of_mem->aq,mem_flatMap->fY,mem_flatten->ce,mem_map->c8,mem_of_getElem?->aS,mem_singleton->ao,nodup_append->bR,nodup_cons->eQ,singleton_append->aP
open List.cons renaming injEq->cf
open Nat renaming le_refl->ai,le_trans->cZ,lt_of_lt_of_le->ct,mul_one->gQ
open Option renaming bind_some->aR,getD_some->di,isSome_iff_exists->J_,map_eq_some_iff->aA
open Option.some renaming inj->aa,injEq->bp
open Prod.mk renaming inj->ad,injEq->bP
namespace Go.Ev
def RA(S:Nat->Prop)(w:World):A->Value->List Nat->Prop
 |.d x,v,fp=>RD S w x v/\fp=[]
 |.agg xs,v,fp=>∃aB,v=.agg aB/\xs.length=aB.size/\(∀(i:Nat)(x:D),xs[i]?=some x->RD S w x (aB.getD i undef))/\fp=[]
 |.mt t,v,fp=>RT S w t v fp
def D0(S:Nat->Prop)(w:World):List A->List Value->List Nat->Prop
 |[],[],fp=>fp=[]
 |a::as,v::vs,fp=>∃f1 f2,fp=f1++f2/\RA S w a v f1/\D0 S w as vs f2
 |_,_,_=>False
def RR(S:Nat->Prop)(w:World):R->Value->List Nat->Prop
 |.c t,v,fp=>RT S w t v fp
 |.agg ts,v,fp=>∃(aB:Array Value)(fps:List (List Nat)),v=.agg aB/\ts.length=aB.size/\fps.length=ts.length/\fps.flatten=fp/\∀(i:Nat)(t:T)(f:List Nat),ts[i]?=some t->fps[i]?=some f->RT S w t (aB.getD i undef) f
def wM(S:Nat->Prop)(w:World):List R->List Value->List Nat->Prop
 |[],[],fp=>fp=[]
 |r::rs,v::vs,fp=>∃f1 f2,fp=f1++f2/\RR S w r v f1/\wM S w rs vs f2
 |_,_,_=>False
def DT(S:Nat->Prop)(w:World):List T->List Value->List Nat->Prop
 |[],[],fp=>fp=[]
 |t::ts,v::vs,fp=>∃f1 f2,fp=f1++f2/\((t=.Nl/\f1=[])\/RT S w t v f1)/\DT S w ts vs f2
 |_,_,_=>False
def iJ:List A->List Value->List Value
 |.mt _::as,v::vs=>v::iJ as vs
 |_::as,_::vs=>iJ as vs
 |_,_=>[]
def qx:List Value->Value
 |[v]=>v
 |vs=>.tuple vs.toArray
def HU(P:Program)(f:FuncId)(args:Array Value)(w:World)(R:Value->World->Prop):Prop:=
 (∃g as,(callFunc f args).run P w=.ok (.enter g as) w/\Calls P g as w fun e w'=>∃v,e=.returned v/\R v w')\/
 (∃v,(callFunc f args).run P w=.ok (.value v) w/\R v w)
def Left(S:Nat->Prop)(w:World)(fp:List Nat)(rs:List R)(outs:List T)(lent:List Value)(v:Value)(w':World):Prop:=
 ∃(S':Nat->Prop)(gu:List Value)(fp1 fp2:List Nat),v=qx gu/\WJ S w S' w'/\(∀b,S' b->S b\/b∈fp\/w.heap.size<=b)/\(∀b,S' b->b<w'.heap.size)/\
  wM S' w' rs gu fp1/\DT S' w' outs lent fp2/\(fp1++fp2).Nodup/\(∀b∈fp1++fp2,¬S' b/\(b∈fp\/w.heap.size<=b))/\zR (fun b=>b<w.heap.size/\b∉fp) w w'
def ow(P:Program)(f:FuncId)(as:List A)(rs:List R)(outs:List T):Prop:=
 ∀(S:Nat->Prop)(w:World)(vs:List Value)(fp:List Nat),(∀b,S b->b<w.heap.size)->D0 S w as vs fp->fp.Nodup->(∀b∈fp,¬S b)->uz S w->
  HU P f vs.toArray w (Left S w fp rs outs (iJ as vs))
def fB(P:Program)(call:Call):Prop:=∀f as rs outs,call f as=some (rs,outs)->ow P f as rs outs
theorem D0.uA{S S':Nat->Prop}{w:World}(hs:WJ S w S' w){as:List A}:∀{vs:List Value}{fp:List Nat},D0 S w as vs fp->D0 S' w as vs fp:=by
 induction as with
 |nil=>intro vs fp h;cases vs<;>exact h
 |cons x as ih=>
  intro vs fp h;cases vs with
  |nil=>exact h
  |cons v vs=>obtain⟨f1,f2,h1,h2,h3⟩:=h;refine⟨f1,f2,h1,?_,ih h3⟩;cases x with|d y=>exact⟨h2.1.mono hs,h2.2⟩|agg xs=>obtain⟨aB,q1,q2,q3,q4⟩:=h2;exact⟨aB,q1,q2,fun i x hi=>(q3 i x hi).mono hs,q4⟩|mt t=>exact RT.mono hs h2 fun _ _=>rfl
section
variable{P:Program}{S K:Nat->Prop}{w0 w:World}{Kn:Nat->Prop}{φ:Nat->d_}{H:aY}{e:fN}{ρ:Operand->Value}{o:Oper}{call:Call}
 {nxt n':Nat} {v:TV} {u:de} {aj:List Nat}
inductive yQ(Kn:Nat->Prop)(φ:Nat->d_)(S:Nat->Prop)(w:World):List (C×List Nat×List Nat)->List Value->Prop
 |nil:yQ Kn φ S w [] []
 |cons {c:C} {aW rd:List Nat} {l:List (C×List Nat×List Nat)} {v:Value} {vs:List Value} (h:RC S w Kn φ c v) (hl:yQ Kn φ S w l vs):yQ Kn φ S w ((c,aW,rd)::l) (v::vs)
theorem yM{H:aY}(hI:Inv S K w0 Kn φ (ak H) w):∀(tvs:List TV)(ms:List Bool)(as:List A)(aj:List Nat)(lent:List (C×List Nat×List Nat))(vs:List Value),
  dQ H tvs ms=some (as,aj,lent)->tvs.length=vs.length->(∀(i:Nat)(t:TV)(v:Value),tvs[i]?=some t->vs[i]?=some v->dH S w Kn φ t v)->
  D0 (SB S w φ (ak H) aj) w as vs ((lent.flatMap (·.2.1)).flatMap (adh w φ (ak H)))/\(∀i∈lent.flatMap (·.2.1),∃o,ak H i=some o/\bF o=true)/\yQ Kn φ S w lent (iJ as vs):=by
 intro tvs;induction tvs with
 |nil=>
  intro ms as aj lent vs h hl hr;obtain⟨rfl,rfl,rfl⟩:[]=as/\[]=aj/\[]=lent:=by simpa[dQ]using h
  obtain rfl:vs=[]:=List.length_eq_zero_iff.1 hl.symm;exact⟨rfl,fun i hi=>by simp at hi,.nil⟩
 |cons t tvs ih=>
  intro ms as aj lent vs h hl hr;cases vs with
  |nil=>simp at hl
  |cons v vs=>
   have h0:=hr 0 t v rfl rfl;simp only[dQ]at h;split at h
   .simp at h
   .rename_i as1 ids1 lent1 hrec;obtain⟨i1,i2,i3⟩:=ih ms.tail as1 ids1 lent1 vs hrec (by simpa using hl) (fun i t v hi hv=>hr (i+1) t v (by simpa using hi) (by simpa using hv));split at h
    .split at h
     .rename_i c;split at h
      .rename_i t0 aW rd hp;obtain⟨rfl,rfl,rfl⟩:A.mt t0::as1=as/\ids1=aj/\(c,aW,rd)::lent1=lent:=by simpa using h
       cases h0 with
       |c h0=>
        obtain⟨p1,p2⟩:=(MU hI 300).1 c t0 aW rd v hp h0;refine⟨⟨aW.flatMap (adh w φ (ak H)),_,by simp,p1.mono (SB.nk _) (fun _ _=>rfl),i1⟩,fun i hi=>?_,.cons h0 i3⟩;rcases ah.1 (by simpa using hi:i∈aW++lent1.flatMap (·.2.1))with hi|hi
        .exact p2 i hi
        .exact i2 i hi
      .simp at h
     .simp at h
    .split at h
     .rename_i c;split at h
      .rename_i x i hp;obtain⟨rfl,rfl,rfl⟩:A.d x::as1=as/\i++ids1=aj/\lent1=lent:=by simpa using h
       cases h0 with|c h0=>have p1:=(nf hI 300).1 c x i v hp h0;refine⟨⟨[],_,rfl,⟨p1.mono (SB.uA _ _ fun j hj=>by simp[hj]),rfl⟩,?_⟩,i2,i3⟩;exact i1.uA (SB.uA _ _ fun j hj=>by simp[hj])
      .simp at h
     .rename_i cs;split at h
      .rename_i xs i hp;obtain⟨rfl,rfl,rfl⟩:A.agg xs::as1=as/\i++ids1=aj/\lent1=lent:=by simpa using h
       cases h0 with
       |@agg _ aB hlen h0=>
        obtain⟨q1,q2⟩:=lq hI cs xs i hp (fun i=>aB[i]?) (fun i c hi=>by
         have hlt:i<aB.size:=by rw[<-hlen];exact(af.1 hi).1
         exact⟨aB.getD i undef,by simp[hlt],h0 i c hi⟩)
        refine⟨⟨[],_,rfl,⟨aB,rfl,q1.trans hlen,fun j x hj=>?_,rfl⟩,?_⟩,i2,i3⟩
        .obtain ⟨y,hy,hd⟩:=q2 j x hj;have hy':aB[j]?=some y:=hy;have e1:aB.getD j undef=y:=by simp[hy']
         rw[e1];exact hd.mono (SB.uA _ _ fun k hk=>by simp[hk])
        .exact i1.uA (SB.uA _ _ fun j hj=>by simp[hj])
      .simp at h
     .simp at h
end
section
variable{P:Program}{S K:Nat->Prop}{w0 w:World}{Kn:Nat->Prop}{φ:Nat->d_}{hf:Nat->Option Ob}{H:aY}{e:fN}{ρ:Operand->Value}{o:Oper}{call:Call}
 {nxt n':Nat} {v:TV} {u:de} {aj:List Nat}
theorem lM.Ft{fa fb:List Nat}{n m:Nat}{φ1:Nat->d_}(hI:Inv S K w0 Kn φ hf w)(h:lM S K w0 w Kn φ hf fa n m u φ1)(ha:m6 w φ hf fb)(hd:∀x∈fa,x∉fb):m6 w φ1 (aU u hf) fb:=by
 intro j o hj hown x hx hm;by_cases hu:∃p∈u,p.1=j
 .obtain ⟨p,hp,rfl⟩:=hu;exact hd _ (h.bH p hp x hx) hm
 .have hfn:bv u j=none:=gN fun p hp e=>hu ⟨p,hp,e⟩;have hj':=hj;simp only[aU,hfn]at hj';have hk:=(hI.fh j o hj').1;rw[dU (h.MW.cK j hk) (hj.trans hj'.symm)]at hx;exact ha j o hj' hown x hx hm
theorem zV(r:R)(nxt:Nat)(v:Value)(fp:List Nat)(hI:Inv S K w0 Kn φ hf w)(hfr:∀j,nxt<=j->j<(pp nxt r).2.2->¬Kn j)(h:RR S w r v fp)(hn:fp.Nodup)(hSK:∀b∈fp,¬S b/\¬K b)(ha:m6 w φ hf fp):
  ∃φ',lM S K w0 w Kn φ hf fp nxt (pp nxt r).2.2 (pp nxt r).2.1 φ'/\dH S w (jI Kn nxt (pp nxt r).2.2) φ' (pp nxt r).1 v:=by
 cases r with|c t=>obtain⟨φ',h1,h2⟩:=oD t nxt v fp hI hfr h hn hSK ha;exact⟨φ',h1,.c h2⟩|agg ts=>obtain⟨aB,fps,rfl,h1,h2,rfl,h3⟩:=h;obtain⟨φ',h4,h5,h6⟩:=mz ts nxt (fun i=>aB.getD i undef) fps hI hfr h2 h3 hn hSK ha;exact⟨φ',h4,.agg (h5.trans h1) h6⟩
theorem Gi(r:R)(nxt:Nat):nxt<=(pp nxt r).2.2:=by cases r with|c t=>exact BB t nxt|agg ts=>exact oC ts nxt
theorem iY(nxt:Nat)(r:R)(rs:List R):J9 nxt (r::rs)=((pp nxt r).1::(J9 (pp nxt r).2.2 rs).1,(pp nxt r).2.1++(J9 (pp nxt r).2.2 rs).2.1,(J9 (pp nxt r).2.2 rs).2.2):=rfl
theorem yU:∀(rs:List R)(nxt:Nat),nxt<=(J9 nxt rs).2.2:=by intro rs;induction rs with|nil=>intro nxt;exact ai _|cons r rs ih=>intro nxt;rw[iY];exact cZ (Gi r nxt) (ih _)
theorem wY:∀(rs:List R){Kn:Nat->Prop}{φ:Nat->d_}{hf:Nat->Option Ob}(nxt:Nat)(vs:List Value)(fp:List Nat),Inv S K w0 Kn φ hf w->(∀j,nxt<=j->j<(J9 nxt rs).2.2->¬Kn j)->wM S w rs vs fp->fp.Nodup->
  (∀b∈fp,¬S b/\¬K b)->m6 w φ hf fp->
  ∃φ',lM S K w0 w Kn φ hf fp nxt (J9 nxt rs).2.2 (J9 nxt rs).2.1 φ'/\(J9 nxt rs).1.length=vs.length/\
   ∀(i:Nat)(t:TV)(v:Value),(J9 nxt rs).1[i]?=some t->vs[i]?=some v->dH S w (jI Kn nxt (J9 nxt rs).2.2) φ' t v:=by
 intro rs;induction rs with
 |nil=>intro Kn φ hf nxt vs fp hI hfr h hn hSK ha;cases vs with|cons v vs=>exact h.elim|nil=>obtain rfl:fp=[]:=h;exact⟨φ,lM.nil hI _ _,rfl,fun i t v hi=>by simp[J9]at hi⟩
 |cons r rs ih=>
  intro Kn φ hf nxt vs fp hI hfr h hn hSK ha;cases vs with
  |nil=>exact h.elim
  |cons v vs=>
   obtain⟨f1,f2,rfl,h1,h2⟩:=h;rw[bR]at hn;obtain⟨hn1,hn2,hn3⟩:=hn;simp only[ah]at hSK;obtain⟨φ1,hL1,hr1⟩:=zV r nxt v f1 hI (fun j hj hj2=>hfr j hj (by rw[iY];exact ct hj2 (yU rs _))) h1 hn1 (fun b hb=>hSK b (.inl hb)) (fun j o hj hown x hx hm=>ha j o hj hown x hx (by simp[hm]))
   obtain⟨φ2,hL2,hlen,hr2⟩:=ih (Kn:=jI Kn nxt (pp nxt r).2.2) (φ:=φ1) (hf:=aU (pp nxt r).2.1 hf) (pp nxt r).2.2 vs f2 hL1.inv (fun j hj hj2 hk=>by
    rcases hk with hk|hk
    .have:=hL1.le;exact hfr j (by omega) (by rw[iY];exact hj2) hk
    .omega) h2 hn2 (fun b hb=>hSK b (.inr hb)) (hL1.Ft hI (fun j o hj hown x hx hm=>ha j o hj hown x hx (by simp[hm])) fun x hx hx2=>hn3 x hx x hx2 rfl)
   have hcomp:=hL1.kf hL2;have hcm:aU ((J9 (pp nxt r).2.2 rs).2.1++(pp nxt r).2.1) hf=aU ((pp nxt r).2.1++(J9 (pp nxt r).2.2 rs).2.1) hf:=iu fun p hp q hq e=>by have h1:=hL2.dP p hp;have h2:=hL1.dP q hq;omega
   have hsub:∀i,jI (jI Kn nxt (pp nxt r).2.2) (pp nxt r).2.2 (J9 (pp nxt r).2.2 rs).2.2 i->jI Kn nxt (J9 (pp nxt r).2.2 rs).2.2 i:=fun i=>(lG hL1.le hL2.le i).1;refine⟨φ2,?_,by simp[iY,hlen],fun i t v' hi hv=>?_⟩
   .simp only[iY];have hsw:∀{p:Nat×Option Ob}{a b:de},p∈a++b->p∈b++a:=fun hp=>ah.2 (ah.1 hp).symm;exact⟨hcomp.le,hcomp.MW,hcm▸hcomp.inv,fun p hp=>hcomp.dP p (hsw hp),fun p hp x hx=>hcomp.bH p (hsw hp) x (hcm.symm▸hx)⟩
   .cases i with
    |zero=>
     obtain rfl:(pp nxt r).1=t:=by simpa[iY]using hi
     obtain rfl:v=v':=by simpa using hv
     exact(hr1.mono (WJ.refl _ _) hL2.MW).kn hsub
    |succ i=>exact(hr2 i t v' (by simpa[iY]using hi) (by simpa using hv)).kn hsub
theorem Inv.put(h:Inv S K w0 Kn φ hf w){i:Nat}(hi:Kn i)(o:Ob)(hfree:bF o=true->∀j b,hf j=some b->bF b=true->j≠i->(φ i).bH∉adh w φ hf j)
  (hro:RO S K w Kn φ (φ i) o)
  (hp:∀sz sl k x,o=.nst sz sl->lR w (φ i) sl k x->x≠(φ i).bH/\(∀j b,hf j=some b->bF b=true->j≠i->x∉adh w φ hf j)/\∀k',lR w (φ i) sl k' x->k'=k:=by intro _ _ _ _ e;cases e):
  Inv S K w0 Kn φ (aU [(i,some o)] hf) w:=by
 have hold:∀j b,aU [(i,some o)] hf j=some b->(j=i/\b=o)\/(j≠i/\hf j=some b):=by
  intro j b hj;rw[bk]at hj;by_cases e:i=j
  .rw [if_pos e]at hj;exact .inl ⟨e.symm,(aa hj).symm⟩
  .rw [if_neg e,dl]at hj;exact .inr ⟨fun q=>e q.symm,hj⟩
 refine h.nL (WJ.refl _ _) (mS.refl _ _) h.nM h.sk h.iT ?_ ?_ ?_
 .intro id o' ho;rcases hold id o' ho with⟨rfl,rfl⟩|⟨_,ho'⟩
  .exact .inr ⟨hi,hro⟩
  .exact .inl ⟨ho',fun hown=>⟨rfl,((h.fh id o' ho').2.aW hown).1⟩,h.vT ho' fun _ _=>rfl⟩
 .intro a b oa ob ha hb hoa hob hne;rcases hold a oa ha with⟨e1,e2⟩|⟨n1,ha'⟩<;>rcases hold b ob hb with⟨e3,e4⟩|⟨n2,hb'⟩
  .exact absurd (e1.trans e3.symm) hne
  .rw [e1];exact fun e=>hfree (e2▸hoa) b ob hb' hob n2 (cu.2 (.inl e))
  .rw [e3];exact fun e=>hfree (e4▸hob) a oa ha' hoa n1 (cu.2 (.inl e.symm))
  .exact h.jq a b oa ob ha' hb' hoa hob hne
 .intro a sz sl k x ha hpa;rcases hold a _ ha with⟨ea,eo⟩|⟨na,ha'⟩
  .rw [ea]at hpa;obtain⟨p1,p2,p3⟩:=hp sz sl k x eo.symm hpa;refine⟨fun j b hj hown=>?_,fun j sz' sl' k' hj hpj=>?_⟩
   .rcases hold j b hj with⟨ej,_⟩|⟨nj,hj'⟩
    .rw [ej];exact fun e=>p1 e.symm
    .exact fun e=>p2 j b hj' hown nj (cu.2 (.inl e.symm))
   .rcases hold j _ hj with⟨ej,eo2⟩|⟨nj,hj'⟩
    .rw [ej]at hpj;rw[<-eo]at eo2;cases eo2;exact⟨ej.trans ea.symm,p3 k' hpj⟩
    .exact absurd (cu.2 (.inr ⟨sz',sl',k',hj',hpj⟩)) (p2 j _ hj' rfl nj)
  .obtain ⟨p1,p2⟩:=h.pw a sz sl k x ha' hpa;refine⟨fun j b hj hown=>?_,fun j sz' sl' k' hj hpj=>?_⟩
   .rcases hold j b hj with⟨ej,eo⟩|⟨_,hj'⟩
    .rw [ej];exact fun e=>hfree (eo▸hown) a _ ha' rfl na (cu.2 (.inr ⟨sz,sl,k,ha',e▸hpa⟩))
    .exact p1 j b hj' hown
   .rcases hold j _ hj with⟨ej,eo⟩|⟨_,hj'⟩
    .rw [ej]at hpj;exact absurd (cu.2 (.inr ⟨sz,sl,k,ha',hpa⟩)) ((hp sz' sl' k' x eo.symm hpj).2.1 a _ ha' rfl na)
    .exact p2 j sz' sl' k' hj' hpj
structure IR(S K:Nat->Prop)(w0 w:World)(Kn:Nat->Prop)(φ:Nat->d_)(hf:Nat->Option Ob)(fp:List Nat)(owns:List Nat)(nxt m:Nat)(u:de)(φ':Nat->d_):Prop where
 le:nxt<=m
 MW:mS Kn φ (jI Kn nxt m) φ'
 inv:Inv S K w0 (jI Kn nxt m) φ' (aU u hf) w
 xY:∀p∈u,p.1∈owns\/(nxt<=p.1/\p.1<m)
 Is:∀i∈owns,(bv u i).isSome=true
 bH:∀i o,aU u hf i=some o->bF o=true->(i∈owns\/(nxt<=i/\i<m))->∀x∈adh w φ' (aU u hf) i,x∈fp
def fU(l:List (C×List Nat×List Nat)):List Nat:=l.flatMap (·.2.1)
theorem k9(aW:List Nat)(j:Nat):bv (aW.map fun i=>((i,none):Nat×Option Ob)) j=if j∈aW then some none else none:=by
 induction aW with
 |nil=>rfl
 |cons a l ih=>
  simp only[am,bv];by_cases e:a=j
  .simp [e]
  .have e':(a==j)=false:=by simpa using e
   have e2:¬j=a:=fun h=>e h.symm;simp[e',ih,e2]
theorem RC.GD{id off:Nat}{v:Value}(h:RC S w Kn φ (.op id off) v):v=.pointer (some ⟨(φ id).bH,(φ id).aF+off,none⟩)/\Kn id:=by cases h with|op hk=>exact⟨rfl,hk⟩
theorem ju.BA{w:World}{b:Nat}{a a':Array Value}(h:ju w b a)(h':ju w b a'):a=a':=by obtain⟨t,h⟩:=h;obtain⟨t',h'⟩:=h';rw[h]at h';simp at h';exact h'.1
theorem lI{α:Type}{u:List (Nat×α)}{id:Nat}{x:α}(h:bv u id=some x):∃p∈u,p.1=id:=by
 induction u with
 |nil=>simp[bv]at h
 |cons p r ih=>
  obtain⟨i,y⟩:=p;by_cases e:i=id
  .exact ⟨(i,y),by simp,e⟩
  .have e2:(i==id)=false:=by simpa using e
   simp only[bv,e2,cond_false]at h;obtain⟨p,hp,hpe⟩:=ih h;exact⟨p,by simp[hp],hpe⟩
theorem sT:∀(l:List (C×List Nat×List Nat))(outs:List T)(nxt:Nat)(bu:de)(m:Nat),cq nxt l outs=some (bu,m)->nxt<=m:=by
 intro l;induction l with
 |nil=>
  intro outs nxt bu m h;cases outs with
  |nil=>obtain⟨_,rfl⟩:[]=bu/\nxt=m:=by simpa[cq]using h
        exact ai _
  |cons t ts=>simp[cq]at h
 |cons p l ih=>
  obtain⟨c,aW,rd⟩:=p;intro outs nxt bu m h;cases outs with
  |nil=>unfold cq at h;simp at h
  |cons t outs=>
   unfold cq at h;split at h
   .simp at*
   .rename_i heq1 heq2;simp only[cf,bP]at heq1 heq2;obtain⟨_,rfl⟩:=heq1;exact ih _ _ _ _ h
   .rename_i heq1 heq2;simp only[cf,bP]at heq1 heq2;obtain⟨_,rfl⟩:=heq1;split at h
    .rename_i w2 k hrec;split at h
     .obtain ⟨_,rfl⟩:=ad (aa h);exact cZ (oC _ _) (ih _ _ _ _ hrec)
     .simp at h
    .simp at h
   .rename_i heq1 heq2;simp only[cf,bP]at heq1 heq2;obtain⟨_,rfl⟩:=heq1;split at h
    .split at h
     .rename_i w2 k hrec;obtain⟨_,rfl⟩:=ad (aa h);exact ih _ _ _ _ hrec
     .simp at h
    .simp at h
   .rename_i heq1 heq2;simp only[cf,bP]at heq1 heq2;obtain⟨_,rfl⟩:=heq1;split at h
    .split at h
     .rename_i w2 k hrec;obtain⟨_,rfl⟩:=ad (aa h);exact ih _ _ _ _ hrec
     .simp at h
    .simp at h
   .rename_i heq1 heq2;simp only[cf,bP]at heq1 heq2;obtain⟨_,rfl⟩:=heq1;split at h
    .rename_i w2 k hrec;obtain⟨_,rfl⟩:=ad (aa h);exact ih _ _ _ _ hrec
    .simp at h
   .simp at h
theorem vP{H0:aY}{S0 K0:Nat->Prop}{wp wz:World}{Kn0:Nat->Prop}{φ0:Nat->d_}(hI0:Inv S0 K0 wz Kn0 φ0 (ak H0) wp){id len:Nat}
  (hw:(match ak H0 id with|some (.aB _ rows)=>(0==0)&&len==rows.length|some (.nst _ slots)=>(0==0)&&len==slots.length|_=>false)=true):
  ∃aB,ju wp (φ0 id).bH aB/\aB.size=(φ0 id).ext/\(φ0 id).aF+len*(φ0 id).sz<=(φ0 id).ext/\len<=(φ0 id).cap:=by
 split at hw
 .rename_i sz rows ho;obtain⟨_,h0⟩:=hI0.fh _ _ ho;have hl:len=rows.length:=by simpa using hw
  subst hl;cases h0 with|aB hsz hl hS hK hown hext hfit hr hv=>exact⟨_,hown,hext,by rw[hl];exact hfit,hv⟩
 .rename_i sz slots ho;obtain⟨_,h0⟩:=hI0.fh _ _ ho;have hl:len=slots.length:=by simpa using hw
  subst hl;cases h0 with|nst hsz hl hS hK hown hext hfit hr hv=>exact⟨_,hown,hext,by rw[hl,gQ];exact hfit,hv⟩
 .cases hw
theorem yK{H0:aY}{S0:Nat->Prop}{wp:World}{Kn0:Nat->Prop}{φ0:Nat->d_}{K0:Nat->Prop}{wz:World}(hI0:Inv S0 K0 wz Kn0 φ0 (ak H0) wp)(hgrow:∀b aB,ju wp b aB->∃arr',ju w b arr'/\arr'.size=aB.size):
  ∀(l:List (C×List Nat×List Nat))(vs:List Value)(outs:List T)(fp:List Nat){Kn:Nat->Prop}{φ:Nat->d_}{hf:Nat->Option Ob}(nxt:Nat)(bu:de)(m:Nat),
  yQ Kn0 φ0 S0 wp l vs->cI H0 l=true->DT S w outs vs fp->Inv S K w0 Kn φ hf w->(∀j,nxt<=j->j<m->¬Kn j)->mS Kn0 φ0 Kn φ->fp.Nodup->(∀b∈fp,¬S b/\¬K b)->m6 w φ hf fp->
  (∀i∈fU l,hf i=none/\Kn0 i)->(fU l).Nodup->cq nxt l outs=some (bu,m)->∃φ',IR S K w0 w Kn φ hf fp (fU l) nxt m bu φ':=by
 intro l;induction l with
 |nil=>
  intro vs outs fp Kn φ hf nxt bu m hl hw hr hI hfr hren hn hSK ha hown hon h;cases hl;cases outs with
  |cons t ts=>exact hr.elim
  |nil=>
   obtain⟨rfl,rfl⟩:[]=bu/\nxt=m:=by simpa[cq]using h
   exact⟨φ,ai _,kq _ _,hI.kn fun _ hi=>.inl hi,fun p hp=>by simp at hp,fun i hi=>by simp[fU]at hi,fun i o _ _ hx=>by
    rcases hx with hx|hx
    .simp [fU]at hx
    .omega⟩
 |cons p l ih=>
  obtain⟨c,aW,rd⟩:=p;intro vs outs fp Kn φ hf nxt bu m hl hw hr hI hfr hren hn hSK ha hown hon h;cases hl with
  |@cons _ _ _ _ v vs hc hl=>
  cases outs with
  |nil=>exact hr.elim
  |cons t outs=>
   obtain⟨f1,f2,rfl,hr1,hr2⟩:=hr;rw[bR]at hn;obtain⟨hn1,hn2,hn3⟩:=hn;simp only[ah]at hSK;have ha1:m6 w φ hf f1:=fun j o hj hown x hx hm=>ha j o hj hown x hx (by simp[hm]);have ha2:m6 w φ hf f2:=fun j o hj hown x hx hm=>ha j o hj hown x hx (by simp[hm]);have ho1:∀i∈aW,hf i=none/\Kn0 i:=fun i hi=>hown i (by simp[fU,hi]);have ho2:∀i∈fU l,hf i=none/\Kn0 i:=fun i hi=>hown i (by simp only[fU,aZ,ah];exact .inr hi);have hoc:fU ((c,aW,rd)::l)=aW++fU l:=rfl;rw[hoc,bR]at hon;obtain⟨hon1,hon2,hon3⟩:=hon;have hw2:cI H0 l=true:=by cases c<;>simp only[cI,ae]at hw<;>first|exact hw|exact hw.2
   have fin:∀(id:Nat)(ob:Ob)(w2:de)(k:Nat),aW=[id]->(bu,m)=((id,some ob)::w2,k)->cq nxt l outs=some (w2,k)->Inv S K w0 Kn φ (aU [(id,some ob)] hf) w->(∀x∈adh w φ (aU [(id,some ob)] hf) id,x∈f1)->
     ∃φ',IR S K w0 w Kn φ hf (f1++f2) (fU ((c,aW,rd)::l)) nxt m bu φ':=by
    intro id ob w2 k hownid hbm hrec hput hblk;subst hownid;obtain⟨rfl,rfl⟩:=ad hbm;obtain⟨hidn,hidk0⟩:=ho1 id (by simp);have hidk:=hren.sub id hidk0;have hφ:=hren.cK id hidk0;have hidlt:¬(nxt<=id/\id<m):=fun h=>hfr id h.1 h.2 hidk
    obtain⟨φ2,hB⟩:=ih vs outs f2 nxt w2 m hl hw2 hr2 hput hfr hren hn2 (fun b hb=>hSK b (.inr hb))
     (fun j o hj hown x hx hm=>by
      have hj':=hj;rw[bk]at hj';split at hj'
      .rename_i e;subst e;exact hn3 x (hblk x hx) x hm rfl
      .rw [dU rfl (hj.trans hj'.symm)]at hx;exact ha2 j o hj' hown x hx hm)
     (fun i hi=>by obtain⟨h1,h2⟩:=ho2 i hi;refine⟨?_,h2⟩;have hne:¬id=i:=fun e=>hon3 id (by simp) i hi e;rw[bk,if_neg hne];exact h1) hon2 hrec
    have hkeys:=hB.xY;have hm2:=hB.le
    have hdis:∀q∈w2,id≠q.1:=fun q hq e=>by
     rcases hkeys q hq with h|h
     .exact hon3 id (by simp) q.1 h e
     .omega
    have heq:aU ((id,some ob)::w2) hf=aU w2 (aU [(id,some ob)] hf):=by rw[<-cF];exact iu (u:=[(id,some ob)]) fun p hp q hq e=>by rw[ao.1 hp]at e;exact hdis q hq e
    refine⟨φ2,hB.le,hB.MW,heq▸hB.inv,fun p hp=>?_,fun i hi=>?_,fun i o hio hownio hi=>?_⟩
    .rw [hoc];rcases aE.1 hp with rfl|hp
     .exact .inl (by simp)
     .rcases hkeys p hp with h|h
      .exact .inl (by simp[h])
      .exact .inr h
    .rw [hoc]at hi;simp only[bv];by_cases e:id=i
     .simp [e]
     .have e':(id==i)=false:=by simpa using e
      simp only[e',cond_false];rcases ah.1 hi with hi|hi
      .exact absurd (ao.1 hi).symm e
      .exact hB.Is i hi
    .rw [heq]at hio|-;intro x hx;by_cases hrest:i∈fU l\/(nxt<=i/\i<m)
     .exact av _ (hB.bH i o hio hownio hrest x hx)
     .have hi2:i=id:=by
       rcases hi with hi|hi
       .rw [hoc]at hi;rcases ah.1 hi with h|h
        .exact ao.1 h
        .exact absurd (.inl h) hrest
       .exact absurd (.inr hi) hrest
      subst hi2;have hwn:bv w2 i=none:=gN fun q hq e=>hdis q hq e.symm
      have hwi:aU w2 (aU [(i,some ob)] hf) i=aU [(i,some ob)] hf i:=by
       conv=>lhs;unfold aU
       rw[hwn];rfl
      rw[dU (hB.MW.cK i hidk) hwi]at hx;exact az _ (hblk x hx)
   unfold cq at h;split at h
   .simp at*
   .--nothing was owned
    rename_i heq1 heq2;simp only[cf,bP]at heq1 heq2;obtain⟨⟨rfl,rfl,rfl⟩,rfl⟩:=heq1;obtain⟨rfl,rfl⟩:=heq2;have hr1:=hr1.resolve_left fun h=>by cases h.1
    have e0:f1=[]:=by cases hr1;rfl
    subst e0;obtain⟨φ',hB⟩:=ih vs outs f2 nxt bu m hl hw2 hr2 hI hfr hren hn2 (fun b hb=>hSK b (.inr hb)) ha2 ho2 hon2 h;exact⟨φ',hB.le,hB.MW,hB.inv,hB.xY,hB.Is,hB.bH⟩
   .--a box
    rename_i id own' rd' r ts' ts heq1 heq2;simp only[cf,bP]at heq1 heq2;obtain⟨⟨rfl,rfl,rfl⟩,rfl⟩:=heq1;obtain⟨rfl,rfl⟩:=heq2;split at h
    .rename_i w2 k hrec;split at h
     .rename_i hcon;obtain⟨rfl,rfl⟩:(id,some (Ob.box (eW nxt ts').1))::(eW nxt ts').2.1++aW.map (fun i=>((i,none):Nat×Option Ob))++w2=bu/\k=m:=by simpa using h
      have hid:id∈aW:=by simpa using hcon
      obtain⟨hidn,hidk0⟩:=ho1 id hid;have hidk:=hren.sub id hidk0;have hφ:=hren.cK id hidk0;obtain⟨hv,_⟩:=hc.GD;have hr1:=hr1.resolve_left fun h=>by cases h.1
      cases hr1 with
      |@pt _ b aB fps hown0 hlen hfl hrec2=>
      simp only[Value.pointer.injEq,bp,Addr.mk.injEq]at hv;obtain⟨hb,hbase,_⟩:=hv;rw[<-hφ]at hb hbase;have hbase0:(φ id).aF=0:=by omega
      rw[eQ]at hn1;have hmk:=sT _ _ _ _ _ hrec;have hidlt:¬(nxt<=id/\id<k):=fun h=>hfr id h.1 h.2 hidk
      obtain⟨φ1,hL,hcl,hcr⟩:=mz ts' nxt (fun i=>aB.getD i undef) fps hI (fun j hj hj2=>hfr j hj (by omega)) hfl hrec2 hn1.2 (fun b' hb'=>hSK b' (.inl (aq _ hb')))
       (fun j o hj hown x hx hm=>ha1 j o hj hown x hx (aq _ hm))
      have hm1:=hL.le;have hφ1:φ1 id=φ id:=hL.MW.cK id hidk;have hul:bv (eW nxt ts').2.1 id=none:=gN fun p hp e=>by have:=hL.dP p hp;omega
      have hdead:aU (eW nxt ts').2.1 hf id=none:=by simp only[aU,hul,hidn]
      have hawb:m6 w φ1 (aU (eW nxt ts').2.1 hf) [b]:=hL.Ft hI (fun j o hj hown x hx hm=>ha1 j o hj hown x hx (by rw[ao.1 hm];simp)) fun x hx hx2=>hn1.1 (by rw[<-ao.1 hx2];exact hx)
      have hput:=hL.inv.put (i:=id) (.inl hidk) (.box (eW nxt ts').1) (fun _ j o hj hown hne hm=>by rw[hφ1,<-hb]at hm;exact hawb j o hj hown b hm (by simp))
       (.box (by rw[hφ1];exact hbase0) (by rw[hφ1,<-hb];exact(hSK b (.inl (by simp))).1) (by rw[hφ1,<-hb];exact(hSK b (.inl (by simp))).2) (by rw[hφ1,<-hb];exact hown0) (hcl.trans hlen) hcr)
      have hav2:m6 w φ1 (aU (eW nxt ts').2.1 hf) f2:=hL.Ft hI ha2 fun x hx hx2=>hn3 x (aq _ hx) x hx2 rfl;have hult:∀i,¬(nxt<=i/\i<k)->bv (eW nxt ts').2.1 i=none:=fun i hi=>gN fun p hp e=>by have:=hL.dP p hp;omega
      have hownlt:∀i,Kn0 i->¬(nxt<=i/\i<k):=fun i hi h=>hfr i h.1 h.2 (hren.sub i hi);rw[<-cF]at hput
      obtain⟨φ2,hB⟩:=ih vs outs f2 (eW nxt ts').2.2 w2 k hl hw2 hr2 hput (fun j hj hj2 hk=>by
        rcases hk with hk|hk
        .exact hfr j (by omega) hj2 hk
        .omega) ⟨fun i hi=>.inl (hren.sub i hi),fun i hi=>(hL.MW.cK i (hren.sub i hi)).trans (hren.cK i hi)⟩ hn2 (fun b hb=>hSK b (.inr hb))
       (fun j o hj hown x hx hm=>by
        have hj':=hj;rw[aP,bk]at hj';split at hj'
        .rename_i e;subst e;rw[j_ (fun _ _ e=>by rw[aP,bk,if_pos rfl]at e;cases e),hφ1,<-hb]at hx;rw[ao.1 hx]at hm;exact hn3 b (by simp) b hm rfl
        .rw [dU rfl (hj.trans hj'.symm)]at hx;exact hav2 j o hj' hown x hx hm)
       (fun i hi=>by obtain⟨h1,h2⟩:=ho2 i hi;refine⟨?_,h2⟩;have hne:¬id=i:=fun e=>hon3 id hid i hi e;rw[aP,bk,if_neg hne];simp only[aU,hult i (hownlt i h2),h1]) hon2 hrec
      have hkeys:=hB.xY;have hm2:=hB.le
      have hdis:∀j x,bv w2 j=some x->j≠id/\j∉aW/\bv (eW nxt ts').2.1 j=none:=by
       intro j x hx;obtain⟨p,hp,rfl⟩:=lI hx;rcases hkeys p hp with h|h
       .exact ⟨fun e=>hon3 id hid p.1 h e.symm,fun e=>hon3 p.1 e p.1 h rfl,hult _ (hownlt _ (ho2 _ h).2)⟩
       .refine ⟨fun e=>by omega,fun e=>by have:=hownlt _ (ho1 _ e).2;omega,gN fun q hq e=>?_⟩;have:=hL.dP q hq;omega
      have heq:aU ((id,some (Ob.box (eW nxt ts').1))::(eW nxt ts').2.1++aW.map (fun i=>((i,none):Nat×Option Ob))++w2) hf=aU w2 (aU ([(id,some (Ob.box (eW nxt ts').1))]++(eW nxt ts').2.1) hf):=by
       have hno:aU (aW.map (fun i=>((i,none):Nat×Option Ob))) (aU w2 hf)=aU w2 hf:=by
        funext j
        conv=>lhs;unfold aU
        rw[k9];by_cases hjo:j∈aW
        .rw [if_pos hjo];have hwj:bv w2 j=none:=by cases hx:bv w2 j with|none=>rfl|some x=>exact absurd hjo (hdis j x hx).2.1
         simp only[aU,hwj,(ho1 j hjo).1]
        .rw [if_neg hjo];rfl
       rw[cF,cF,hno,<-cF,<-cF];refine iu fun p hp q hq e=>?_;rcases hkeys q hq with h|h
       .rcases aE.1 hp with rfl|hp
        .exact hon3 id hid q.1 h e
        .have:=hL.dP p hp;have:=hownlt _ (ho2 _ h).2;omega
       .rcases aE.1 hp with rfl|hp
        .simp only at e;omega
        .have:=hL.dP p hp;omega
      refine⟨φ2,by omega,⟨fun i h=>.inl h,fun i h=>(hB.MW.cK i (.inl h)).trans (hL.MW.cK i h)⟩,?_,fun p hp=>?_,fun i hi=>?_,fun i o hio hownio hi=>?_⟩
      .rw [heq];exact hB.inv.pJ fun i=>lG hm1 hm2 i
      .rw [hoc];simp only[aK,aI,aE,ah,c8]at hp;rcases hp with rfl|hp|⟨i,hi,rfl⟩|hp
       .exact .inl (by simp[hid])
       .have:=hL.dP p hp;exact .inr (by omega)
       .exact .inl (by simp[hi])
       .rcases hkeys p hp with h|h
        .exact .inl (by simp[h])
        .exact .inr (by omega)
      .rw [hoc]at hi;simp only[aK,aI,bv,eh,k9];rcases ah.1 hi with hi|hi
       .by_cases e:id=i
        .simp [e]
        .have e':(id==i)=false:=by simpa using e
         simp only[e',cond_false,if_pos hi];cases bv (eW nxt ts').2.1 i<;>rfl
       .have hs:=hB.Is i hi;obtain⟨x,hx⟩:=J_.1 hs;obtain⟨h1,h2,h3⟩:=hdis i x hx;have e':(id==i)=false:=by simpa using fun e=>h1 e.symm
        simp only[e',cond_false,h3,if_neg h2,hx,Option.isSome_some]
      .rw [heq]at hio|-;intro x hx;by_cases hrest:i∈fU l\/((eW nxt ts').2.2<=i/\i<k)
       .exact av _ (hB.bH i o hio hownio hrest x hx)
       .refine az _ ?_
        have hw2n:bv w2 i=none:=gN fun q hq e=>by
         rcases hkeys q hq with h|h
         .exact hrest (.inl (e▸h))
         .exact hrest (.inr (e▸h))
        have hi2:i∈aW\/(nxt<=i/\i<(eW nxt ts').2.2):=by
         rcases hi with hi|hi
         .rw [hoc]at hi;rcases ah.1 hi with h|h
          .exact .inl h
          .exact absurd (.inl h) hrest
         .exact .inr ⟨hi.1,by
           rcases Nat.lt_or_ge i (eW nxt ts').2.2 with h|h
           .exact h
           .exact absurd (.inr ⟨h,hi.2⟩) hrest⟩
        have hkn:jI Kn nxt (eW nxt ts').2.2 i:=by
         rcases hi2 with h|h
         .exact .inl (hren.sub i (ho1 i h).2)
         .exact .inr h
        have hwi:aU w2 (aU ([(id,some (Ob.box (eW nxt ts').1))]++(eW nxt ts').2.1) hf) i=aU ([(id,some (Ob.box (eW nxt ts').1))]++(eW nxt ts').2.1) hf i:=by
         conv=>lhs;unfold aU
         rw[hw2n];rfl
        rw[dU (hB.MW.cK i hkn) hwi]at hx;by_cases e:id=i
        .subst e;rw[j_ (fun _ _ e=>by rw[aP,bk,if_pos rfl]at e;cases e),hφ1,<-hb]at hx;rw[ao.1 hx];simp
        .rcases hi2 with h|h
         .exfalso
          have h1:aU w2 (aU ([(id,some (Ob.box (eW nxt ts').1))]++(eW nxt ts').2.1) hf) i=hf i:=by
           simp only[aU,hw2n,aP,bv];have e':(id==i)=false:=by simpa using e
           simp only[e',cond_false,hult i (hownlt i (ho1 i h).2)]
          rw[h1,(ho1 i h).1]at hio;simp at hio
         .have e':(id==i)=false:=by simpa using e
          cases hfu:bv (eW nxt ts').2.1 i with
          |none=>
           exfalso;have h1:aU w2 (aU ([(id,some (Ob.box (eW nxt ts').1))]++(eW nxt ts').2.1) hf) i=hf i:=by simp only[aU,hw2n,aP,bv,e',cond_false,hfu]
           rw[h1]at hio;exact hfr i h.1 (by omega) (hI.fh i o hio).1
          |some x'=>
           obtain⟨p,hp,rfl⟩:=lI hfu;have hwp:aU ([(id,some (Ob.box (eW nxt ts').1))]++(eW nxt ts').2.1) hf p.1=aU (eW nxt ts').2.1 hf p.1:=by rw[aP,bk,if_neg e]
           rw[dU rfl hwp]at hx;exact aq _ (hL.bH p hp x hx)
     .simp at h
    .simp at h
   .--an array
    rename_i sz id len own' rd' r sz' rows ts heq1 heq2;simp only[cf,bP]at heq1 heq2;obtain⟨⟨rfl,rfl,rfl⟩,rfl⟩:=heq1;obtain⟨rfl,rfl⟩:=heq2;split at h
    .rename_i hcond;obtain⟨hrl,hszz,hownid⟩:=hcond;subst hownid;split at h
     .rename_i w2 k hrec;obtain⟨rfl,rfl⟩:(id,some (Ob.aB sz rows))::w2=bu/\k=m:=by simpa using h
      obtain⟨hidn,hidk0⟩:=ho1 id (by simp);have hφ:=hren.cK id hidk0;obtain⟨cap,addr,hv,hszl,hk0,hcap,haddr,hextc,hcl⟩:=hc.gk;have hr1:=hr1.resolve_left fun h=>by cases h.1
      cases hr1 with
      |@sl _ _ b off len1 cap1 aB hsz0 hown0 hlen1 hcap1 hext1 hrr=>
      simp only[Value.slice.injEq,bp,Addr.mk.injEq]at hv;obtain⟨⟨hb,hoff,_⟩,hlen2,hcap2⟩:=hv;subst hszz;simp only[cI,ae]at hw;obtain⟨arr0,hown1,hext0,hfit0,hv0⟩:=vP hI0 hw.1;obtain⟨arr1,hown2,hsize2⟩:=hgrow _ _ hown1;rw[hb]at hown0;obtain rfl:=hown0.BA hown2;have hb1:=hSK (φ0 id).bH (.inl (by simp[hb]))
      refine fin id (.aB sz' rows) w2 k rfl rfl hrec (hI.put (i:=id) (hren.sub id hidk0) (.aB sz' rows) (fun _ j o hj hown hne hm=>by rw[hφ,<-hb]at hm;exact ha1 j o hj hown b hm (by simp))
       (.aB hsz0 (by rw[hφ];exact hszl) (by rw[hφ];exact hb1.1) (by rw[hφ];exact hb1.2) (by rw[hφ];exact hown2) (by rw[hφ,<-hext0];exact hsize2)
        (by rw[hφ,hrl,<-hszl];exact hfit0) (by
         rw[hφ];cases rows with
         |nil=>exact⟨fun i r hi=>by simp at hi,fun i r hi=>by simp at hi⟩
         |cons q rows=>
          have:off=(φ0 id).aF:=by rw[hoff,haddr (by simp only[List.length_cons]at hrl;omega)];simp
          rw[<-this];exact hrr) (by rw[hφ,hrl];exact hv0))) fun x hx=>?_
      rw[j_ (fun _ _ e=>by rw[bk,if_pos rfl]at e;cases e),hφ,<-hb]at hx;exact hx
     .simp at h
    .simp at h
   .--a cU of rows
    rename_i sz id len own' rd' r szi rows ts heq1 heq2;simp only[cf,bP]at heq1 heq2;obtain⟨⟨rfl,rfl,rfl⟩,rfl⟩:=heq1;obtain⟨rfl,rfl⟩:=heq2;split at h
    .rename_i hcond;obtain⟨hrl,hszz,hownid⟩:=hcond;subst hownid;split at h
     .rename_i w2 k hrec;obtain⟨rfl,rfl⟩:(id,some (Ob.nst szi (rows.map iG)))::w2=bu/\k=m:=by simpa using h
      obtain⟨hidn,hidk0⟩:=ho1 id (by simp);have hφ:=hren.cK id hidk0;obtain⟨cap,addr,hv,hszl,hk0,hcap,haddr,hextc,hcl⟩:=hc.gk;have hr1:=hr1.resolve_left fun h=>by cases h.1
      cases hr1 with
      |@rK _ _ b off cap1 aB fps hsz0 hown0 hcap1 hext1 hfl hrr=>
      simp only[Value.slice.injEq,bp,Addr.mk.injEq]at hv;obtain⟨⟨hb,hoff,_⟩,hlen2,hcap2⟩:=hv;subst hszz;simp only[cI,ae]at hw;obtain⟨arr0,hown1,hext0,hfit0,hv0⟩:=vP hI0 hw.1;obtain⟨arr1,hown2,hsize2⟩:=hgrow _ _ hown1;rw[hb]at hown0;obtain rfl:=hown0.BA hown2;rw[eQ]at hn1;have hb1:=hSK b (.inl (by simp));have hbase:∀i,i<rows.length->off+i=(φ0 id).aF+i:=fun i hi=>by rw[hoff,haddr (by omega)];simp
      have hget:∀i,w.cell? ⟨(φ id).bH,i,none⟩=aB[i]?:=by rw[hφ];exact hown2.cell
      have hpat:∀k x,lR w (φ id) (rows.map iG) k x->∃fp,fps[k]?=some fp/\fp=[x]:=by rintro k x ⟨rs,v,h1,h2,h3⟩;rw[aC]at h1;obtain⟨r,hr1,hr2⟩:=aA.1 h1;have hlt:=(af.1 hr1).1;have hf:fps[k]?=some fps[k]:=ap (by omega);obtain⟨v',q1,q2⟩:=hrr k r fps[k] hr1 hf;rw[hget,hφ,<-hbase k hlt,q1]at h2;obtain rfl:=aa h2;cases r with|none=>cases hr2|some rows'=>obtain⟨b',q3,q4⟩:=q2;rw[q4.bH]at h3;obtain rfl:=aa h3;exact⟨_,hf,q3⟩
      have hmem:∀k x,lR w (φ id) (rows.map iG) k x->x∈fps.flatten:=fun k x hp=>by obtain⟨fp,h1,rfl⟩:=hpat k x hp;exact ce.2 ⟨[x],aS h1,by simp⟩
      have hbl:(φ id).bH=b:=by rw[hφ,<-hb]
      rw[hszl,gQ]at hfit0
      refine fin id (.nst szi (rows.map iG)) w2 k rfl rfl hrec (hI.put (i:=id) (hren.sub id hidk0) (.nst szi (rows.map iG)) (fun _ j o hj hown hne hm=>by rw[hbl]at hm;exact ha1 j o hj hown b hm (by simp))
       (.nst hsz0 (by rw[hφ];exact hszl) (by rw[hbl];exact hb1.1) (by rw[hbl];exact hb1.2) (by rw[hφ];exact hown2) (by rw[hφ,<-hext0];exact hsize2)
        (by rw[hφ,aH,hrl];exact hfit0) (fun i s hi=>by
         rw[aC]at hi;obtain⟨r,hr1,rfl⟩:=aA.1 hi;have hlt:=(af.1 hr1).1;have hf:fps[i]?=some fps[i]:=ap (by omega);obtain⟨v,q1,q2⟩:=hrr i r fps[i] hr1 hf;refine⟨v,by rw[hφ,<-hbase i hlt];exact q1,?_⟩;cases r with
         |none=>obtain⟨rfl,_⟩:=q2;exact .nil
         |some rows'=>obtain⟨b',q3,q4⟩:=q2;have hm:b'∈fps.flatten:=ce.2 ⟨fps[i],List.getElem_mem _,by rw[q3];simp⟩;exact .aW q4 (hSK b' (.inl (aq _ hm))).1 (hSK b' (.inl (aq _ hm))).2) (by rw[hφ,aH,hrl];exact hv0))
       fun sz' sl' k x eo hp=>by cases eo;have hm:=hmem k x hp;refine⟨fun e=>hn1.1 (by rw[<-hbl,<-e];exact hm),fun j o hj hown hne hx=>ha1 j o hj hown x hx (aq _ hm),fun k' hp'=>?_⟩;obtain⟨fp,h1,rfl⟩:=hpat k x hp;obtain⟨fp',h2,rfl⟩:=hpat k' x hp';exact v9 hn1.2 h2 h1) fun x hx=>?_
      rcases cu.1 hx with rfl|⟨sz',sl',k',h1,h2⟩
      .rw [hbl];simp
      .rw [bk,if_pos rfl]at h1;cases h1;exact aq _ (hmem k' x h2)
     .simp at h
    .simp at h
   .--it is Nl
    rename_i heq1 heq2;simp only[cf,bP]at heq1 heq2;obtain⟨⟨rfl,rfl,rfl⟩,rfl⟩:=heq1;obtain⟨rfl,rfl⟩:=heq2;split at h
    .rename_i w2 k hrec;obtain⟨rfl,rfl⟩:aW.map (fun i=>((i,none):Nat×Option Ob))++w2=bu/\k=m:=by simpa using h
     have e0:f1=[]:=by
      rcases hr1 with h|h
      .exact h.2
      .cases h
     subst e0;obtain⟨φ',hB⟩:=ih vs outs f2 nxt w2 k hl hw2 hr2 hI hfr hren hn2 (fun b hb=>hSK b (.inr hb)) ha2 ho2 hon2 hrec;have hmk:=hB.le;have hkeys:=hB.xY
     have hwn:∀j∈aW,bv w2 j=none:=fun j hj=>by
      cases hx:bv w2 j with
      |none=>rfl
      |some x=>
       obtain⟨p,hp,rfl⟩:=lI hx;rcases hkeys p hp with h|h
       .exact absurd rfl (hon3 p.1 hj p.1 h)
       .exact absurd (hren.sub _ (ho1 _ hj).2) (hfr p.1 h.1 h.2)
     have heq:aU (aW.map (fun i=>((i,none):Nat×Option Ob))++w2) hf=aU w2 hf:=by
      rw[cF];funext j
      conv=>lhs;unfold aU
      rw[k9];by_cases hjo:j∈aW
      .rw [if_pos hjo];simp only[aU,hwn j hjo,(ho1 j hjo).1]
      .rw [if_neg hjo];rfl
     refine⟨φ',hB.le,hB.MW,heq▸hB.inv,fun p hp=>?_,fun i hi=>?_,fun i o hio hownio hi=>?_⟩
     .rw [hoc];rcases ah.1 hp with hp|hp
      .obtain ⟨j,hj,rfl⟩:=c8.1 hp;exact .inl (az _ hj)
      .rcases hkeys p hp with h|h
       .exact .inl (av _ h)
       .exact .inr h
     .rw [hoc]at hi;rw[eh,k9];by_cases hjo:i∈aW
      .rw [if_pos hjo];rfl
      .rw [if_neg hjo];exact hB.Is i ((ah.1 hi).resolve_left hjo)
     .rw [heq]at hio|-;refine hB.bH i o hio hownio (hi.imp (fun h=>?_) id);rw[hoc]at h;refine(ah.1 h).resolve_left fun hjo=>?_;simp only[aU,hwn i hjo,(ho1 i hjo).1]at hio;cases hio
    .simp at h
   .simp at h
end
section
variable{P:Program}{S K:Nat->Prop}{w0 w:World}{Kn:Nat->Prop}{φ:Nat->d_}{hf:Nat->Option Ob}{H:aY}{e:fN}{ρ:Operand->Value}{o:Oper}{call:Call}{a:Act}
 {nxt n':Nat} {v:TV} {u:de} {aj:List Nat}
def FE(P:Program)(o:Oper)(a:Act)(S K:Nat->Prop)(w0 w:World)(Kn:Nat->Prop)(φ:Nat->d_)(hf:Nat->Option Ob)(nxt n':Nat)(v:TV)(u:de):Prop:=∀(next:Act->World->Prop)(Q:Exit->Act->World->Prop),(∀val w',gI S K w0 w Kn φ hf nxt n' v u val w'->next (a.put o.dst val) w')->o.wp P a w next Q
theorem bZ.gG(h:bZ P o a.eval S K w0 w Kn φ hf nxt n' v u):FE P o a S K w0 w Kn φ hf nxt n' v u:=by
 intro next Q hn
 obtain⟨nx,val,w',hr,hx,hd⟩:=h;unfold Oper.wp;rw[hr];rcases hx with rfl|⟨rfl,rfl⟩
 .exact hn _ _ hd
 .exact hn _ _ hd
theorem xy{tvs:List TV}{vs:List Value}(hl:tvs.length=vs.length)(h:∀(i:Nat)(t:TV)(v:Value),tvs[i]?=some t->vs[i]?=some v->dH S w Kn φ t v):dH S w Kn φ (Sq tvs) (qx vs):=by
 have wS:dH S w Kn φ (.fm tvs) (.tuple vs.toArray):=by
  refine .fm (by simpa using hl) fun i x hi=>?_;have hlt:i<vs.length:=by rw[<-hl];exact(af.1 hi).1
  have:=h i x vs[i] hi (ap hlt);simpa[hlt]using this
 match tvs,vs,hl,h,wS with|[],[],_,_,wS=>exact wS|[t],[v],_,h,_=>exact h 0 t v rfl rfl|_::_::_,_::_::_,_,_,wS=>exact wS
theorem RD.zx{S':Nat->Prop}{w':World}{v x:Value}(h:RD S w (.lit v) x):RD S' w' (.lit v) x:=by cases h with|lit h=>exact .lit h|nan hn hm=>exact .nan hn hm|ex=>exact .ex
theorem wM.db{S':Nat->Prop}:∀{rs:List R}{vs:List Value}{fp:List Nat},rs.all oX=true->wM S w rs vs fp->wM S' w rs vs []:=by
 intro rs;induction rs with
 |nil=>intro vs fp _ h;cases vs with|nil=>rfl|cons v vs=>exact h.elim
 |cons r rs ih=>
  intro vs fp hl h;cases vs with
  |nil=>exact h.elim
  |cons v vs=>
   simp only[dC,ae]at hl;obtain⟨f1,f2,_,h1,h2⟩:=h;refine⟨[],[],rfl,?_,ih hl.2 h2⟩;have hl1:=hl.1;cases r with
   |c t=>
    cases t with
    |d x=>
     cases x with
     |lit y=>have h1:RT S w (.d (.lit y)) v f1:=h1;cases h1 with|d hd=>exact RT.d hd.zx
     |_=>simp[oX]at hl1
    |_=>simp[oX]at hl1
   |agg ts=>
    obtain⟨aB,fps,rfl,q1,q2,q3,q4⟩:=h1;refine⟨aB,fps.map fun _=>[],rfl,q1,by simpa using q2,by simp,fun i t f hi hfi=>?_⟩;simp only[oX,aL]at hl1;have ht:=hl1 t (aS hi);obtain rfl:f=[]:=by rw[aC]at hfi;obtain⟨_,_,rfl⟩:=aA.1 hfi;rfl
    have hlt:i<fps.length:=by rw[q2];exact(af.1 hi).1
    have:=q4 i t fps[i] hi (ap hlt);generalize fps[i]=g at this;cases t with
    |d x=>
     cases x with
     |lit y=>cases this with|d hd=>exact RT.d hd.zx
     |_=>simp at ht
    |_=>simp at ht
theorem Inv.after{S':Nat->Prop}{w':World}{fp:List Nat}(hI:Inv S K w0 Kn φ hf w)(hs:WJ S w S' w')(hsub:∀b,S' b->S b\/b∈fp\/w.heap.size<=b)(hlt:∀b,S' b->b<w'.heap.size)
  (hfp:∀b∈fp,¬K b) (haw:m6 w φ hf fp) (hfrm:zR (fun b=>b<w.heap.size/\b∉fp) w w'):Inv S' K w0 Kn φ hf w':=by
 refine hI.jQ hs (mS.refl _ _) hlt (fun b hb hK=>?_) ⟨hI.iT.xX,fun b hb=>?_,cZ hI.iT.grow hfrm.grow,fun a ha=>(hfrm.sO a (ct ha hI.iT.grow)).trans (hI.iT.sO a ha),fun b aB ho=>?_,hI.iT.io.trans hfrm.io⟩ (fun id o ho=>.inl ⟨ho,fun hown=>?_⟩) hI.jq ?_
 .have h1:b<w.heap.size:=ct (hI.iT.xX b hK) hI.iT.grow;rcases hsub b hb with h|h|h
  .exact hI.sk b h hK
  .exact hfp b h hK
  .omega
 .have h1:b<w.heap.size:=ct (hI.iT.xX b hb) hI.iT.grow;exact(hfrm.ik b ⟨h1,fun h=>hfp b h hb⟩).trans (hI.iT.ik b hb)
 .obtain ⟨a1,h1,h2⟩:=hI.iT.aW b aB ho;obtain⟨a2,h3,h4⟩:=hfrm.aW b a1 h1;exact⟨a2,h3,h4.trans h2⟩
 .obtain ⟨h1,h2,h3⟩:=(hI.fh id o ho).2.aW hown;have h4:=haw id o ho hown _ (gE id);refine⟨hfrm.ik _ ⟨h3,h4⟩,fun h=>?_⟩;rcases hsub _ h with h|h|h
  .exact h1 h
  .exact h4 h
  .omega
 .intro id sz sl ho;have h4:=haw id _ ho rfl
  have key:∀x∈adh w φ hf id,w'.heap[x]?=w.heap[x]?/\¬S' x:=fun x hx=>by
   obtain⟨h1,_,h3⟩:=jl hI ho rfl hx;refine⟨hfrm.ik _ ⟨h3,h4 x hx⟩,fun h=>?_⟩;rcases hsub _ h with h|h|h
   .exact h1 h
   .exact h4 x hx h
   .omega
  refine⟨ho,(key _ (gE id)).1,fun k x hp=>?_⟩;obtain⟨q1,q2⟩:=key x (cu.2 (.inr ⟨sz,sl,k,ho,hp⟩));exact⟨q1,q2,(hI.pw id sz sl k x ho hp).1⟩
theorem RT.cO{S0:Nat->Prop}{t:T}{v:Value}{fp:List Nat}(h:xE t=true)(hr:RT S w t v fp):RT S0 w t v fp:=by
 cases hr with
 |d hd=>cases hd with|lit hp=>exact .d (.lit hp)|nan hn hm=>exact .d (.nan hn hm)|ex=>exact .d .ex|_=>simp[xE]at h
 |sl h0 ho hl hc he hr=>refine .sl h0 ho hl hc he ⟨hr.1,fun i r hi j x hj=>?_⟩;obtain⟨v,h1,h2⟩:=hr.2 i r hi j x hj;simp only[xE]at h;have hx:=aL.1 (aL.1 h r (aS hi)) x (aS hj);refine⟨v,h1,?_⟩;cases h2 with|lit hp=>exact .lit hp|nan hn hm=>exact .nan hn hm|ex=>exact .ex|_=>simp at hx
 |_=>simp[xE]at h
theorem DT.cO{S0:Nat->Prop}:∀{ts:List T}{vs:List Value}{fp:List Nat},ts.all xE=true->DT S w ts vs fp->DT S0 w ts vs fp:=by
 intro ts;induction ts with
 |nil=>intro vs fp _ h;cases vs<;>exact h
 |cons t ts ih=>intro vs fp h hr;simp only[dC,ae]at h;cases vs with|nil=>exact hr|cons v vs=>obtain⟨f1,f2,e,h1,h2⟩:=hr;exact⟨f1,f2,e,h1.imp id (RT.cO h.1),ih h.2 h2⟩
theorem Left.cO{S0:Nat->Prop}{fp:List Nat}{rs:List R}{outs:List T}{lent:List Value}{v:Value}{w':World}(h:Left S w fp rs outs lent v w')(hS:∀b,S0 b->S b)(h1:rs.all oX=true)(h2:outs.all xE=true):Left S0 w fp rs outs lent v w':=by
 obtain⟨S',gu,fp1,fp2,rfl,hs,hsub,hlt,hrr,hrt,hnd,hb,hfrm⟩:=h;refine⟨S0,gu,[],fp2,rfl,⟨fun _ h=>h,fun b hb=>hs.cK b (hS b hb)⟩,fun b h=>.inl h,fun b h=>hlt b (hs.sub b (hS b h)),hrr.db h1,hrt.cO h2,?_,fun b hm=>?_,hfrm⟩
 .exact (bR.1 hnd).2.1
 .have:=hb b (av _ hm);exact⟨fun h=>this.1 (hs.sub b (hS b h)),this.2⟩
theorem rA{as:List A}{aj:List Nat}{lent:List (C×List Nat×List Nat)}{vs:List Value}{rs:List R}{outs:List T}{val:Value}{w':World}{rd:List Nat}
  (hI:Inv S K w0 Kn φ (ak H) w) (hfr:∀j,nxt<=j->j<n'->¬Kn j)
  (hown:∀i∈lent.flatMap (·.2.1),∃o,ak H i=some o/\bF o=true) (hlent:yQ Kn φ S w lent (iJ as vs))
  (hwhole:cI H lent=true) (hnd:(lent.flatMap (·.2.1)).Nodup)
  (hleft:Left (SB S w φ (ak H) aj) w ((lent.flatMap (·.2.1)).flatMap (adh w φ (ak H))) rs outs (iJ as vs) val w')
  (h:(match b_ H aj aj with
      |none=>none
      |some fu=>
       match cq nxt lent outs with
       |none=>none
       |some (bu,m)=>some (Sq (J9 m rs).1,(J9 m rs).2.1++bu++fu,aj++lent.flatMap (·.2.2),(J9 m rs).2.2))=some (v,u,rd,n')):
  gI S K w0 w Kn φ (ak H) nxt n' v u val w':=by
 obtain⟨S',gu,fp1,fp2,rfl,hs,hsub,hlt,hrr,hrt,hnd2,hb,hfrm⟩:=hleft;split at h
 .simp at h
 .rename_i fu hfz;split at h
  .simp at h
  .rename_i bu m hbk;obtain⟨rfl,rfl,_,rfl⟩:Sq (J9 m rs).1=v/\(J9 m rs).2.1++bu++fu=u/\aj++lent.flatMap (·.2.2)=rd/\(J9 m rs).2.2=n':=by simpa using h
   have hI1:=hI.x_ hfz;have hmn:=yU rs m;have hnm:=sT _ _ _ _ _ hbk
   -- what was lent is ku of the heap
   let kills:de:=(fU lent).map fun i=>(i,none);have hkn:∀j,bv kills j=if j∈fU lent then some none else none:=k9 (fU lent)
   have hf2:∀id o,aU kills (aU fu (ak H)) id=some o->id∉fU lent/\aU fu (ak H) id=some o:=by
    intro id o ho;have:aU kills (aU fu (ak H)) id=(match bv kills id with|some o=>o|none=>aU fu (ak H) id):=rfl;rw[this,hkn]at ho;by_cases hm:id∈fU lent
    .rw [if_pos hm]at ho;simp at ho
    .rw [if_neg hm]at ho;exact⟨hm,ho⟩
   have hIk:Inv (SB S w φ (ak H) aj) K w0 Kn φ (aU kills (aU fu (ak H))) w:=hI1.Mg fun id o ho=>(hf2 id o ho).2
   -- the frozen part agrees with the heap cV, where a thing is owned
   have hold:∀id o,aU fu (ak H) id=some o->bF o=true->ak H id=some o:=by
    intro id o ho hown;by_cases hm:id∈aj
    .obtain ⟨o',ho',hfn⟩:=(gO aj fu hfz id).1 hm;simp only[aU,hfn]at ho;obtain rfl:=aa ho;have:=(sP hI hm ho').1;rw[this]at hown;simp at hown
    .simpa only[aU,(gO aj fu hfz id).2 hm]using ho
   have hbk2:∀j o,aU kills (aU fu (ak H)) j=some o->bF o=true->ak H j=some o/\adh w φ (aU kills (aU fu (ak H))) j=adh w φ (ak H) j:=fun j o hj hjo=>by have h3:=hold j o (hf2 j o hj).2 hjo;exact⟨h3,dU rfl (hj.trans h3.symm)⟩
   have haw:m6 w φ (aU kills (aU fu (ak H))) ((lent.flatMap (·.2.1)).flatMap (adh w φ (ak H))):=by intro j o hj hjo x hx hm;obtain⟨h1,h2⟩:=hf2 j o hj;obtain⟨i,hi,hie⟩:=fY.1 hm;obtain⟨oi,hoi,hoio⟩:=hown i hi;obtain⟨h3,h4⟩:=hbk2 j o hj hjo;rw[h4]at hx;exact MA hI hoi h3 hoio hjo (fun e=>h1 (e▸hi)) hie hx
   have hfpK:∀b∈((lent.flatMap (·.2.1)).flatMap (adh w φ (ak H))),¬K b/\b<w.heap.size:=by intro b hbm;obtain⟨i,hi,hie⟩:=fY.1 hbm;obtain⟨oi,hoi,hoio⟩:=hown i hi;exact(jl hI hoi hoio hie).2
   have hI2:Inv S' K w0 Kn φ (aU kills (aU fu (ak H))) w':=hIk.after hs hsub hlt (fun b hb=>(hfpK b hb).1) haw hfrm
   have hK12:∀b∈fp1++fp2,¬S' b/\¬K b:=fun b hbm=>by
    obtain⟨h1,h2⟩:=hb b hbm;refine⟨h1,fun hk=>?_⟩;rcases h2 with h2|h2
    .exact (hfpK b h2).1 hk
    .have:=hI.iT.xX b hk;have:=hI.iT.grow;omega
   have haw12:m6 w' φ (aU kills (aU fu (ak H))) (fp1++fp2):=fun j o hj hjo x hx hm=>by
    rw[s_ (hfrm.ik _ ⟨((hIk.fh j o hj).2.aW hjo).2.2,haw j o hj hjo _ (gE j)⟩)]at hx;rcases(hb _ hm).2 with h2|h2
    .exact haw j o hj hjo x hx h2
    .have:=(jl hIk hj hjo hx).2.2;omega
   rw[bR]at hnd2;obtain⟨hn1,hn2,hn3⟩:=hnd2;simp only[ah]at hK12
   obtain⟨φ1,hB⟩:=yK hI hfrm.aW lent (iJ as vs) outs fp2 nxt bu m hlent hwhole hrt hI2 (fun j h1 h2=>hfr j h1 (by omega)) (mS.refl _ _) hn2 (fun b hb=>hK12 b (.inr hb))
    (fun j o hj hjo x hx hm=>haw12 j o hj hjo x hx (by simp[hm]))
    (fun i hi=>by obtain⟨oi,hoi,_⟩:=hown i hi;refine⟨?_,(hI.fh i oi hoi).1⟩;show(match bv kills i with|some o=>o|none=>aU fu (ak H) i)=none;rw[hkn,if_pos hi]) hnd hbk
   have hkk:aU bu (aU kills (aU fu (ak H)))=aU bu (aU fu (ak H)):=by
    funext j;by_cases hm:j∈fU lent
    .obtain ⟨x,hx⟩:=J_.1 (hB.Is j hm);simp only[aU,hx]
    .have h1:aU kills (aU fu (ak H)) j=aU fu (ak H) j:=by show(match bv kills j with|some o=>o|none=>aU fu (ak H) j)=_;rw[hkn,if_neg hm]
     have h2:∀g:Nat->Option Ob,aU bu g j=(match bv bu j with|some o=>o|none=>g j):=fun _=>rfl;rw[h2,h2,h1]
   have hIB:=hB.inv;rw[hkk]at hIB
   have haw1:m6 w' φ1 (aU bu (aU fu (ak H))) fp1:=by
    intro j o hj hjo x hx hm;by_cases hk:j∈fU lent\/(nxt<=j/\j<m)
    .have:=hB.bH j o (by rw[hkk];exact hj) hjo hk x (by rw[hkk];exact hx);exact hn3 _ hm _ this rfl
    .have hfn:bv bu j=none:=gN fun p hp e=>by
      rcases hB.xY p hp with h|h
      .exact hk (.inl (e▸h))
      .exact hk (.inr (e▸h))
     have hj2:aU kills (aU fu (ak H)) j=some o:=by rw[<-hkk]at hj;simpa only[aU,hfn]using hj
     have hknj:=(hI2.fh j o hj2).1;rw[dU (hB.MW.cK j hknj) (hj.trans hj2.symm)]at hx;exact haw12 j o hj2 hjo x hx (by simp[hm])
   obtain⟨φ2,hL,hlen,hr⟩:=wY rs m gu fp1 hIB (fun j h1 h2 hk=>by
     rcases hk with hk|hk
     .exact hfr j (by omega) h2 hk
     .omega) hrr hn1 (fun b hb=>hK12 b (.inl hb)) haw1
   refine⟨by omega,S',φ2,(SB.nk aj).trans hs,⟨fun i h=>.inl h,fun i h=>(hL.MW.cK i (.inl h)).trans (hB.MW.cK i h)⟩,?_,?_⟩
   .exact (xy hlen hr).kn fun i=>(lG hnm hmn i).1
   .rw [cF,cF];exact hL.inv.pJ fun i=>lG hnm hmn i
theorem Bj{as:List A}{aj:List Nat}{lent:List (C×List Nat×List Nat)}{vs:List Value}{rs:List R}{outs:List T}{ro:Bool}{val:Value}{w':World}{rd:List Nat}
  (hI:Inv S K w0 Kn φ (ak H) w) (hfr:∀j,nxt<=j->j<n'->¬Kn j)
  (hargs:D0 (SB S w φ (ak H) aj) w as vs ((lent.flatMap (·.2.1)).flatMap (adh w φ (ak H)))) (hown:∀i∈lent.flatMap (·.2.1),∃o,ak H i=some o/\bF o=true) (hlent:yQ Kn φ S w lent (iJ as vs))
  (hwhole:cI H lent=true) (hnd:(lent.flatMap (·.2.1)).Nodup)
  (hleft:Left (SB S w φ (ak H) aj) w ((lent.flatMap (·.2.1)).flatMap (adh w φ (ak H))) rs outs (iJ as vs) val w')
  (h:(if ro then
      if rs.all oX/\outs.all xE then
       match cq nxt lent outs with|none=>none|some (bu,m)=>some (Sq (J9 m rs).1,(J9 m rs).2.1++bu,aj++lent.flatMap (·.2.2),(J9 m rs).2.2)
      else none
     else
      match b_ H aj aj with
      |none=>none
      |some fu=>
       match cq nxt lent outs with
       |none=>none
       |some (bu,m)=>some (Sq (J9 m rs).1,(J9 m rs).2.1++bu++fu,aj++lent.flatMap (·.2.2),(J9 m rs).2.2))=some (v,u,rd,n')):
  gI S K w0 w Kn φ (ak H) nxt n' v u val w':=by
 split at h
 .--nothing that was looked at is vT
  split at h
  .rename_i hcond;obtain⟨hl,hp⟩:=hcond;split at h
   .simp at h
   .rename_i bu m hbk;obtain⟨rfl,rfl,_,rfl⟩:Sq (J9 m rs).1=v/\(J9 m rs).2.1++bu=u/\aj++lent.flatMap (·.2.2)=rd/\(J9 m rs).2.2=n':=by simpa using h
    refine rA (aj:=[]) (rd:=lent.flatMap (·.2.2)) hI hfr hown hlent hwhole hnd (hleft.cO (fun b hb=>?_) hl hp) ?_
    .rcases hb with hb|⟨i,hi,_⟩
     .exact .inl hb
     .cases hi
    .simp only[b_,hbk,List.append_nil,List.nil_append]
  .simp at h
 .exact rA hI hfr hown hlent hwhole hnd hleft h
theorem sg:∀n,(∀c x aj,cz H n c=some (x,aj)->∀i∈aj,∃o,ak H i=some o)/\(∀cs xs aj,dF H n cs=some (xs,aj)->∀i∈aj,∃o,ak H i=some o):=by
 have leaf:∀n c x aj,(match c with|.op _ _|.jy _ _=>False|_=>True)->cz H n c=some (x,aj)->∀i∈aj,∃o,ak H i=some o:=by
  intro n c x aj hl h i hi;cases c with
  |d y=>simp only[cz,bp,bP]at h;obtain⟨_,rfl⟩:=h;simp at hi
  |da sz id off len=>
   simp only[cz]at h;split at h
   all_goals first
    |(split at h
      .obtain ⟨_,rfl⟩:=ad (aa h);obtain rfl:=ao.1 hi;exact⟨_,by assumption⟩
      .simp at h)
    |(split at h
      .split at h
       .obtain ⟨_,rfl⟩:=ad (aa h);obtain rfl:=ao.1 hi;exact⟨_,by assumption⟩
       .simp at h
      .simp at h)
    |simp at h
  |ep id cU off=>
   simp only[cz]at h;split at h
   all_goals first
    |(split at h
      .split at h
       .obtain ⟨_,rfl⟩:=ad (aa h);obtain rfl:=ao.1 hi;exact⟨_,by assumption⟩
       .simp at h
      .simp at h)
    |simp at h
  |op id off=>exact hl.elim
  |jy f caps=>exact hl.elim
  |om id=>cases n<;>simp[cz]at h
 intro n;induction n with
 |zero=>
  refine⟨fun c x aj h=>?_,fun cs xs aj h=>?_⟩
  .cases c with|op id off=>simp[cz]at h|jy f caps=>simp[cz]at h|_=>exact leaf 0 _ x aj trivial h
  .cases cs with
   |nil=>
    obtain⟨_,rfl⟩:[]=xs/\[]=aj:=by simpa[dF]using h
    intro i hi;simp at hi
   |cons c cs=>simp[dF]at h
 |succ n ih=>
  refine⟨fun c x aj h=>?_,fun cs xs aj h=>?_⟩
  .cases c with
   |op id off=>
    simp only[cz]at h;split at h
    .split at h
     .obtain ⟨_,rfl⟩:=ad (aa h);intro i hi;obtain rfl:=ao.1 hi;exact⟨_,by assumption⟩
     .simp at h
    .split at h
     .rename_i hv;split at h
      .obtain ⟨_,rfl⟩:=ad (aa h);intro i hi;rcases aE.1 hi with rfl|hi
       .exact ⟨_,by assumption⟩
       .exact ih.2 _ _ _ hv i hi
      .simp at h
     .simp at h
    .simp at h
   |jy f caps=>
    simp only[cz]at h;split at h
    .rename_i hv;obtain⟨_,rfl⟩:=ad (aa h);exact ih.2 _ _ _ hv
    .simp at h
   |_=>exact leaf _ _ x aj trivial h
  .cases cs with
   |nil=>
    obtain⟨_,rfl⟩:[]=xs/\[]=aj:=by simpa[dF]using h
    intro i hi;simp at hi
   |cons c cs=>
    simp only[dF]at h;split at h
    .rename_i h1 h2;obtain⟨_,rfl⟩:=ad (aa h);intro i hi;rcases ah.1 hi with hi|hi
     .exact ih.1 _ _ _ h1 i hi
     .exact ih.2 _ _ _ h2 i hi
    .simp at h
theorem uJ:∀cs xs aj,cm H cs=some (xs,aj)->∀i∈aj,∃o,ak H i=some o:=by
 intro cs;induction cs with
 |nil=>
  intro xs aj h i hi;obtain⟨_,rfl⟩:[]=xs/\[]=aj:=by simpa[cm]using h
  simp at hi
 |cons c cs ih=>
  intro xs aj h i hi;simp only[cm]at h;split at h
  .rename_i h1 h2;obtain⟨_,rfl⟩:=ad (aa h);rcases ah.1 hi with hi|hi
   .exact (sg 300).1 _ _ _ h1 i hi
   .exact ih _ _ h2 i hi
  .simp at h
theorem tg:∀(tvs:List TV)(ms:List Bool)(as:List A)(aj:List Nat)(lent:List (C×List Nat×List Nat)),dQ H tvs ms=some (as,aj,lent)->∀i∈aj,∃o,ak H i=some o:=by
 intro tvs;induction tvs with
 |nil=>
  intro ms as aj lent h i hi;obtain⟨_,rfl,_⟩:[]=as/\[]=aj/\[]=lent:=by simpa[dQ]using h
  simp at hi
 |cons t tvs ih=>
  intro ms as aj lent h i hi;simp only[dQ]at h;split at h
  .simp at h
  .rename_i hrec;split at h
   .split at h
    .split at h
     .obtain ⟨_,rfl,_⟩:=(by simpa using h:_/\_/\_)
      exact ih _ _ _ _ hrec i hi
     .simp at h
    .simp at h
   .split at h
    .split at h
     .rename_i hv;obtain⟨_,rfl,_⟩:=(by simpa using h:_/\_/\_)
      rcases ah.1 hi with hi|hi
      .exact (sg 300).1 _ _ _ hv i hi
      .exact ih _ _ _ _ hrec i hi
     .simp at h
    .split at h
     .rename_i hv;obtain⟨_,rfl,_⟩:=(by simpa using h:_/\_/\_)
      rcases ah.1 hi with hi|hi
      .exact uJ _ _ _ hv i hi
      .exact ih _ _ _ _ hrec i hi
     .simp at h
    .simp at h
theorem RO.Hy{l:d_}{o:Ob}(h:RO S K w Kn φ l o)(hs:∀b,S b->b<w.heap.size):l.bH<w.heap.size:=by cases h with|aB hsz hl hS hK hown=>exact hown.lt|box hb hS hK hown=>exact hown.lt|map hS hK hmp=>exact(Array.getElem?_eq_some_iff.1 hmp).1|cap hsz hl hS hK hown=>exact hown.lt|nst hsz hl hS hK hown=>exact hown.lt|ML hsz hl hS=>exact hs _ hS|ji hb hS=>exact hs _ hS
theorem RO.Jt{l:d_}{o:Ob}(h:RO S K w Kn φ l o)(hs:bF o=false):S l.bH:=by cases h with|ML hsz hl hS=>exact hS|ji hb hS=>exact hS|_=>simp[bF]at hs
theorem zg{c:Go.Call}{fop:Operand}{ro:Bool}{ga:List Bool}(ho:o.op=.call c)(hcal:c.callee=.value fop)(hok:fB P call)(hI:Inv S K w0 Kn φ (ak H) w)
  (hfr:∀j,nxt<=j->j<n'->¬Kn j) (hρ:∀x tv,L9 e x=some tv->dH S w Kn φ tv (a.eval x))
  (h:bD call (.call ro ga) ((fop::c.args.toList).map (L9 e)) H nxt=some (v,u,aj,n')):FE P o a S K w0 w Kn φ (ak H) nxt n' v u:=by
 rw[am]at h;change nz call ro ga (L9 e fop) (c.args.toList.map (L9 e)) H nxt=_ at h;unfold nz at h;split at h
 .rename_i f caps vs hf hvs;split at h
  .simp at h
  .rename_i as ids1 lent hargs;split at h
   .rename_i hcond;obtain⟨hwhole,hnd,hapart⟩:=hcond;split at h
    .simp at h
    .rename_i rs outs hcall
     -- the callee
     have hfv:∃cvs:Array Value,a.eval fop=.func (.func f) #[] cvs/\caps.length=cvs.size/\∀(i:Nat)(x:C),caps[i]?=some x->RC S w Kn φ x (cvs.getD i undef):=by
      split at hf
      .rename_i g capsD hop;obtain⟨rfl,rfl⟩:g=f/\capsD.map C.d=caps:=by simpa using hf
       have hr:=hρ _ _ hop;generalize a.eval fop=fv at hr|-;cases hr with
       |c hr=>cases hr with
        |d hd=>cases hd with|@fn _ _ cvs hlen hrd=>refine⟨cvs,rfl,by simpa using hlen,fun i x hi=>?_⟩;rw[aC]at hi;obtain⟨y,hy,rfl⟩:=aA.1 hi;exact .d (hrd i y hy)
      .rename_i g caps' hop;obtain⟨rfl,rfl⟩:g=f/\caps'=caps:=by simpa using hf
       have hr:=hρ _ _ hop;generalize a.eval fop=fv at hr|-;cases hr with
       |c hr=>cases hr with|@jy _ _ cvs hlen hrc=>exact⟨cvs,rfl,hlen,hrc⟩
      .simp at hf
     obtain⟨cvs,hfe,hcl,hcr⟩:=hfv;obtain⟨hal,har⟩:=ol hρ hvs;let gu:List Value:=c.args.toList.map a.eval++cvs.toList
     obtain⟨p1,p2,p3⟩:=yM hI (vs++caps.map TV.c) ga as ids1 lent gu hargs (by simp[gu,hal,hcl]) (fun i t val hi hv=>by
      by_cases hlt:i<vs.length
      .rw [bm hlt]at hi;simp only[gu]at hv;rw[bm (by simp only[aH];omega),aC]at hv;obtain⟨x,hx,rfl⟩:=aA.1 hv;exact har i x t hx hi
      .rw [bw (by omega),aC]at hi;obtain⟨x,hx,rfl⟩:=aA.1 hi;simp only[gu]at hv;rw[bw (by simp only[aH];omega)]at hv;simp only[aH,<-hal]at hv;have:=hcr _ x hx;rw[Array.getElem?_toList]at hv;have e1:cvs.getD (i-vs.length) undef=val:=by simp[hv]
       rw[e1]at this;exact .c this)
     have hSlt:∀b,SB S w φ (ak H) ids1 b->b<w.heap.size:=by
      rintro b (hb|⟨i,hi,hb⟩)
      .exact hI.nM b hb
      .obtain ⟨oi,hoi⟩:=tg _ _ _ _ _ hargs i hi;rcases cu.1 hb with rfl|⟨sz,sl,k,h1,h2⟩
       .exact (hI.fh i oi hoi).2.Hy hI.nM
       .exact (hI.Ai h1 h2).2.2.1
     have hnS:∀b∈((lent.flatMap (·.2.1)).flatMap (adh w φ (ak H))),¬SB S w φ (ak H) ids1 b:=by
      intro b hb hS;obtain⟨i,hi,hb⟩:=fY.1 hb;obtain⟨oi,hoi,hoio⟩:=p2 i hi;have hb1:=(jl hI hoi hoio hb).1;rcases hS with hS|⟨j,hj,hje⟩
      .exact hb1 hS
      .obtain ⟨oj,hoj⟩:=tg _ _ _ _ _ hargs j hj;cases hjo:bF oj with
       |true=>refine MA hI hoi hoj hoio hjo (fun e=>?_) hb hje;have:=aL.1 hapart i hi;rw[e]at this;simp[hj]at this
       |false=>
        rcases cu.1 hje with rfl|⟨sz,sl,k,h1,_⟩
        .exact hb1 ((hI.fh j oj hoj).2.Jt hjo)
        .rw [hoj]at h1;cases h1;cases hjo
     have hgood:=hok f as rs outs hcall (SB S w φ (ak H) ids1) w gu _ hSlt p1 (te hI hnd p2) hnS (hI.t7.mono (SB.nk _));intro next Q hn
     have hfin:∀val w',Left (SB S w φ (ak H) ids1) w ((lent.flatMap (·.2.1)).flatMap (adh w φ (ak H))) rs outs (iJ as gu) val w'->next (a.put o.dst val) w':=by intro val w' hleft;refine hn val w' (Bj hI hfr p1 p2 p3 hwhole hnd hleft (ro:=ro) (v:=v) (u:=u) (rd:=aj) ?_);exact h
     have hrun:∀r,(callFunc f gu.toArray).run P w=r->(execOp a.eval o).run P w=r:=by
      intro r hr;have e1:(#[]++c.args.map a.eval)++cvs=gu.toArray:=by apply Array.ext';simp[gu]
      simp only[execOp,ho,Sem.run_bind,resolve,hcal,hfe,Deferred.ofValue,Sem.run_pure,Result.andThen_ok,invoke,e1];exact hr
     rcases hgood with⟨g,as',hr,hc⟩|⟨val,hr,hleft⟩
     .unfold Oper.wp;rw[hrun _ hr,Oper.upon_enter];refine hc.mono fun en w' hR=>?_;obtain⟨val,rfl,hleft⟩:=hR;exact hfin val w' hleft
     .unfold Oper.wp;rw[hrun _ hr];exact hfin val w hleft
   .simp at h
 .simp at h
end
section
variable{P:Program}{S K:Nat->Prop}{w0 w:World}{Kn:Nat->Prop}{φ:Nat->d_}{H:aY}{e:fN}{o:Oper}{call:Call}{a:Act}{QC:pT}{k:Ev.K}{args:List Operand}
 {nxt n':Nat} {v:TV} {u:de} {aj:List Nat}
theorem WA{vs:List (Option TV)}:bD call .dL vs H nxt=none:=by unfold bD;split<;>first|rfl|simp_all
theorem Bl{op:BinOp}{t ty:TypeId}{x y:Operand}(ho:o.op=.binOp op t x y ty)(hk:zL P op t x y=(k,args))(hI:Inv S K w0 Kn φ (ak H) w)(hE:fN.ok S w Kn φ e a.tmps)
  (h:bD call k (args.map (L9 e)) H nxt=some (v,u,aj,n')):bZ P o a.eval S K w0 w Kn φ (ak H) nxt n' v u:=by
 have hρ:∀x tv,L9 e x=some tv->dH S w Kn φ tv (a.eval x):=fun x tv h=>mH hI.t7 hE h;have plainBin:(k,args)=(Ev.K.rB op,[x,y])->bZ P o a.eval S K w0 w Kn φ (ak H) nxt n' v u:=by intro hk;obtain⟨rfl,rfl⟩:=ad hk;exact GG ho hI (fun z hz=>hρ x z hz) (fun z hz=>hρ y z hz) h
 have nilBin:∀kind,(op=.eql\/op=.neq)->Cl P t kind->(k,args)=kC kind (op==.neq) x y->bZ P o a.eval S K w0 w Kn φ (ak H) nxt n' v u:=by
  intro kind hop hu hk;unfold kC at hk;split at hk
  .rename_i hy;obtain⟨rfl,rfl⟩:=ad hk;exact vz ho hop hu hI (fun _=>rfl) (.inl ⟨rfl,hy⟩) (fun z hz=>hρ x z hz) h
  .split at hk
   .rename_i hx;obtain⟨rfl,rfl⟩:=ad hk;exact vz ho hop hu hI (fun _=>rfl) (.inr ⟨rfl,hx⟩) (fun z hz=>hρ y z hz) h
   .obtain ⟨rfl,rfl⟩:=ad hk;rw[WA]at h;simp at h
 have eqs:(op=.eql\/op=.neq)->(match P.underlying t with
  |some .bool=>(Ev.K.nA (op==.neq),[x,y])
  |some (.int _)|some (.float _)|some .string=>(Ev.K.rB op,[x,y])
  |some (.slice _)=>kC 0 (op==.neq) x y
  |some (.pointer _)=>kC 1 (op==.neq) x y
  |some (.func _ _ _)=>kC 2 (op==.neq) x y
  |some (.struct _)|some (.array _ _)=>match rN P 8 t with|some ks=>if P.eqGuardType P.depth t=false then(Ev.K.rh (op==.neq) ks,[x,y])else(Ev.K.dL,[])|none=>(Ev.K.dL,[])
  |_=>(Ev.K.dL,[]))=(k,args)->bZ P o a.eval S K w0 w Kn φ (ak H) nxt n' v u:=by
  intro hop hk;split at hk
  .rename_i hu;obtain⟨rfl,rfl⟩:=ad hk;exact Au ho hop hu hI (fun z hz=>hρ x z hz) (fun z hz=>hρ y z hz) h
  .exact plainBin hk.symm
  .exact plainBin hk.symm
  .exact plainBin hk.symm
  .rename_i hu;exact nilBin 0 hop ⟨_,hu⟩ hk.symm
  .rename_i hu;exact nilBin 1 hop ⟨_,hu⟩ hk.symm
  .rename_i hu;exact nilBin 2 hop ⟨_,_,_,hu⟩ hk.symm
  .rename_i hu;split at hk
   .rename_i hks;split at hk
    .rename_i hg;obtain⟨rfl,rfl⟩:=ad hk;exact vA ho hop hks (by simp[du,hu]) hg hI (fun z hz=>hρ x z hz) (fun z hz=>hρ y z hz) h
    .obtain ⟨rfl,rfl⟩:=ad hk;rw[WA]at h;simp at h
   .obtain ⟨rfl,rfl⟩:=ad hk;rw[WA]at h;simp at h
  .rename_i hu;split at hk
   .rename_i hks;split at hk
    .rename_i hg;obtain⟨rfl,rfl⟩:=ad hk;exact vA ho hop hks (by simp[du,hu]) hg hI (fun z hz=>hρ x z hz) (fun z hz=>hρ y z hz) h
    .obtain ⟨rfl,rfl⟩:=ad hk;rw[WA]at h;simp at h
   .obtain ⟨rfl,rfl⟩:=ad hk;rw[WA]at h;simp at h
  .obtain ⟨rfl,rfl⟩:=ad hk;rw[WA]at h;simp at h
 cases op with|eql=>exact eqs (.inl rfl) hk|neq=>exact eqs (.inr rfl) hk|_=>exact plainBin hk.symm
theorem kw{α:Type}{x:Array α}{y:α}(h:x.toList=[y]):x= #[y]:=by rw[<-Array.toArray_toList (xs:=x),h]
theorem jP{α:Type}{x:Array α}{y z:α}(h:x.toList=[y,z]):x= #[y,z]:=by rw[<-Array.toArray_toList (xs:=x),h]
theorem sd{b:Builtin}{c:Go.Call}(ho:o.op=.call c)(hcal:c.callee=.builtin b)(hk:mo P b c.args.toList c.argTypes.toList=(k,args))(hI:Inv S K w0 Kn φ (ak H) w)
  (hE:fN.ok S w Kn φ e a.tmps) (hn0:nxt<n'->¬Kn nxt) (h:bD call k (args.map (L9 e)) H nxt=some (v,u,aj,n')):bZ P o a.eval S K w0 w Kn φ (ak H) nxt n' v u:=by
 have hρ:∀x tv,L9 e x=some tv->dH S w Kn φ tv (a.eval x):=fun x tv h=>mH hI.t7 hE h
 have lenArgs:∀str,k=.len str->args=c.args.toList->∃x,c.args.toList=[x]:=by
  intro str hk ha;subst hk ha;generalize c.args.toList=l at h
  match l,h with|[x],_=>exact⟨x,rfl⟩|[],h=>simp[bD]at h|x::y::r,h=>simp[bD]at h
 unfold mo at hk;split at hk
 .rename_i t hts;split at hk
  .rename_i hu;obtain⟨rfl,rfl⟩:=ad hk;obtain⟨x,hx⟩:=lenArgs true rfl rfl;rw[hx]at h;exact Cb (str:=true) ho hcal (kw hx) (kw hts) hu hI (fun z hz=>hρ x z hz) h
  .rename_i hu;obtain⟨rfl,rfl⟩:=ad hk;obtain⟨x,hx⟩:=lenArgs false rfl rfl;rw[hx]at h;exact Cb (str:=false) ho hcal (kw hx) (kw hts) ⟨_,hu⟩ hI (fun z hz=>hρ x z hz) h
  .obtain ⟨rfl,rfl⟩:=ad hk;rw[WA]at h;simp at h
 .obtain ⟨rfl,rfl⟩:=ad hk;exact sG (m:=true) ho hcal hI hρ h
 .obtain ⟨rfl,rfl⟩:=ad hk;exact sG (m:=false) ho hcal hI hρ h
 .rename_i s x hts;split at hk
  .rename_i el el2 hus hux;split at hk
   .rename_i n z hsz hz;split at hk
    .rename_i hb;obtain⟨rfl,rfl⟩:=ad hk
     have:∃p q,c.args.toList=[p,q]:=by
      generalize c.args.toList=l at h
      match l,h with|[p,q],_=>exact⟨p,q,rfl⟩|[],h=>simp[bD]at h|[p],h=>simp[bD]at h|p::q::r::t,h=>simp[bD]at h
     obtain⟨p,q,hpq⟩:=this;rw[hpq]at h;exact Av ho hcal (jP hpq) (jP hts) hus hux hsz hz hb.2 hb.1 hI hn0 (fun z hz=>hρ p z hz) (fun z hz=>hρ q z hz) h
    .obtain ⟨rfl,rfl⟩:=ad hk;rw[WA]at h;simp at h
   .obtain ⟨rfl,rfl⟩:=ad hk;rw[WA]at h;simp at h
  .rename_i el kd hus hux;split at hk
   .rename_i n z hsz hz;split at hk
    .rename_i hb;obtain⟨rfl,rfl⟩:=ad hk
     have:∃p q,c.args.toList=[p,q]:=by
      generalize c.args.toList=l at h
      match l,h with|[p,q],_=>exact⟨p,q,rfl⟩|[],h=>simp[bD]at h|[p],h=>simp[bD]at h|p::q::r::t,h=>simp[bD]at h
     obtain⟨p,q,hpq⟩:=this;rw[hpq]at h;exact GH ho hcal (jP hpq) (jP hts) hus hux hsz hz hb.2 hb.1 hI hn0 (fun z hz=>hρ p z hz) (fun z hz=>hρ q z hz) h
    .obtain ⟨rfl,rfl⟩:=ad hk;rw[WA]at h;simp at h
   .obtain ⟨rfl,rfl⟩:=ad hk;rw[WA]at h;simp at h
  .obtain ⟨rfl,rfl⟩:=ad hk;rw[WA]at h;simp at h
 .rename_i t hts;split at hk
  .rename_i el hu;obtain⟨rfl,rfl⟩:=ad hk
   have:∃p,c.args.toList=[p]:=by
    generalize c.args.toList=l at h
    match l,h with|[p],_=>exact⟨p,rfl⟩|[],h=>simp[bD]at h|p::q::r,h=>simp[bD]at h
   obtain⟨p,hp⟩:=this;rw[hp]at h;exact GE ho hcal (kw hp) (kw hts) hu hI (fun z hz=>hρ p z hz) h
  .obtain ⟨rfl,rfl⟩:=ad hk;rw[WA]at h;simp at h
 .rename_i d x hts;split at hk
  .rename_i el hud;split at hk
   .rename_i n hsz;obtain⟨rfl,rfl⟩:=ad hk
    have:∃p q,c.args.toList=[p,q]:=by
     generalize c.args.toList=l at h
     match l,h with|[p,q],_=>exact⟨p,q,rfl⟩|[],h=>simp[bD]at h|[p],h=>simp[bD]at h|p::q::r::t,h=>simp[bD]at h
    obtain⟨p,q,hpq⟩:=this;rw[hpq]at h;exact EJ ho hcal (jP hpq) (jP hts) hud hsz hI (fun z hz=>hρ p z hz) (fun z hz=>hρ q z hz) h
   .obtain ⟨rfl,rfl⟩:=ad hk;rw[WA]at h;simp at h
  .obtain ⟨rfl,rfl⟩:=ad hk;rw[WA]at h;simp at h
 .rename_i d hts;split at hk
  .rename_i el hud;split at hk
   .rename_i n z hsz hz;split at hk
    .rename_i hzl;obtain⟨rfl,rfl⟩:=ad hk
     have:∃p,c.args.toList=[p]:=by
      generalize c.args.toList=l at h
      match l,h with|[p],_=>exact⟨p,rfl⟩|[],h=>simp[bD]at h|p::q::r,h=>simp[bD]at h
     obtain⟨p,hp⟩:=this;rw[hp]at h;exact Cg ho hcal (kw hp) (kw hts) hud hsz hz hzl hI (fun z hz=>hρ p z hz) h
    .obtain ⟨rfl,rfl⟩:=ad hk;rw[WA]at h;simp at h
   .obtain ⟨rfl,rfl⟩:=ad hk;rw[WA]at h;simp at h
  .obtain ⟨rfl,rfl⟩:=ad hk;rw[WA]at h;simp at h
 .obtain ⟨rfl,rfl⟩:=ad hk;rw[WA]at h;simp at h
theorem vr(hok:fB P call)(hk:Ns P QC o.op=(k,args))(hI:Inv S K w0 Kn φ (ak H) w)(hE:fN.ok S w Kn φ e a.tmps)(hfr:∀j,nxt<=j->j<n'->¬Kn j)
  (h:bD call k (args.map (L9 e)) H nxt=some (v,u,aj,n')):FE P o a S K w0 w Kn φ (ak H) nxt n' v u:=by
 have hρ:∀x tv,L9 e x=some tv->dH S w Kn φ tv (a.eval x):=fun x tv h=>mH hI.t7 hE h;have hn0:nxt<n'->¬Kn nxt:=fun h=>hfr nxt (ai _) h;have dL:(k,args)=(Ev.K.dL,[])->FE P o a S K w0 w Kn φ (ak H) nxt n' v u:=by intro hk;obtain⟨rfl,rfl⟩:=ad hk;rw[WA]at h;simp at h
 generalize hop:o.op=op at hk;unfold Ns at hk;split at hk
 .obtain ⟨rfl,rfl⟩:=ad hk;exact(FL (.inl hop) hI (fun z hz=>hρ _ z hz) h).gG
 .obtain ⟨rfl,rfl⟩:=ad hk;exact(FL (.inr hop) hI (fun z hz=>hρ _ z hz) h).gG
 .obtain ⟨rfl,rfl⟩:=ad hk;exact(EH hop hI (fun z hz=>hρ _ z hz) (fun z hz=>hρ _ z hz) (fun z hz=>hρ _ z hz) h).gG
 .--alloc
  split at hk
  .rename_i hz;obtain⟨rfl,rfl⟩:=ad hk;exact(Ch hop hz hI hn0 h).gG
  .exact dL hk.symm
 .obtain ⟨rfl,rfl⟩:=ad hk;exact(GF hop hI hn0 (fun z hz=>hρ _ z hz) h).gG
 .--build
  split at hk
  .rename_i hu hz;split at hk
   .rename_i hpl;split at hk
    .rename_i hall;obtain⟨rfl,rfl⟩:=ad hk;exact(vC hop hz (.inl ⟨_,hu,hpl,hall⟩) hI hρ h).gG
    .exact dL hk.symm
   .exact dL hk.symm
  .rename_i hu hz;split at hk
   .rename_i hs;obtain⟨rfl,rfl⟩:=ad hk;exact(vC hop hz (.inr ⟨_,_,_,hu,hs,rfl⟩) hI hρ h).gG
   .exact dL hk.symm
  .exact dL hk.symm
 .--buildSlice
  split at hk
  .rename_i hu;split at hk
   .rename_i hs hz;split at hk
    .rename_i hl;obtain⟨rfl,rfl⟩:=ad hk;exact(rU hop hu hs hz hl hI hn0 hρ h).gG
    .exact dL hk.symm
   .exact dL hk.symm
  .exact dL hk.symm
 .--load
  split at hk
  .rename_i ha hs;obtain⟨rfl,rfl⟩:=ad hk;split at h
   .rename_i hc;obtain⟨_,_,rfl,rfl⟩:=hc;exact(Ca hop ha hs hI hn0 (fun z hz=>hρ _ z hz) h).gG
   .exact (zf hop ha hs hI (fun z hz=>hρ _ z hz) h).gG
  .exact dL hk.symm
 .--store
  split at hk
  .rename_i hs;obtain⟨rfl,rfl⟩:=ad hk;exact(B9 hop hs hI (fun z hz=>hρ _ z hz) (fun z hz=>hρ _ z hz) h).gG
  .exact dL hk.symm
 .obtain ⟨rfl,rfl⟩:=ad hk;exact(vv hop hI (fun z hz=>hρ _ z hz) h).gG
 .exact (Bl hop hk hI hE h).gG
 .obtain ⟨rfl,rfl⟩:=ad hk;exact(Ij hop hI (fun z hz=>hρ _ z hz) h).gG
 .--convert
  split at hk
  .rename_i hs hd;obtain⟨rfl,rfl⟩:=ad hk;exact(xO hop hs hd hI (fun z hz=>hρ _ z hz) h).gG
  .rename_i hs hd;obtain⟨rfl,rfl⟩:=ad hk;exact(Cf hop hs hd hI (fun z hz=>hρ _ z hz) h).gG
  .rename_i hs hd;obtain⟨rfl,rfl⟩:=ad hk;exact(vB hop hs hd hI (fun z hz=>hρ _ z hz) h).gG
  .exact dL hk.symm
 .--makeFunc
  split at hk
  .rename_i hf;obtain⟨rfl,rfl⟩:=ad hk;exact(EI hop hf hI hρ h).gG
  .exact dL hk.symm
 .--makeSlice
  split at hk
  .rename_i hu;split at hk
   .rename_i hs hz;split at hk
    .rename_i hl;obtain⟨rfl,rfl⟩:=ad hk;split at h
     .rename_i m hm;unfold FM at hm;split at hm
      .rename_i hc;split at hm
       .split at hm
        .obtain rfl:=aa hm;exact(B_ hop hu hs hz hl.1 hl.2 hc.2 (Nat.succ_pos _) hI hn0 (fun z hz=>hρ _ z hz) (fun z hz=>hρ _ z hz) h).gG
        .cases hm
       .cases hm
      .cases hm
     .exact (nW hop hu hs hz hl.1 hl.2 hI hn0 (fun z hz=>hρ _ z hz) (fun z hz=>hρ _ z hz) h).gG
    .exact dL hk.symm
   .exact dL hk.symm
  .exact dL hk.symm
 .--slice
  split at hk
  .rename_i hu;obtain⟨rfl,rfl⟩:=ad hk;exact(vu (str:=true) hop hu hI hρ h).gG
  .rename_i hu;split at hk
   .rename_i hs;obtain⟨rfl,rfl⟩:=ad hk;exact(vu (str:=false) hop ⟨_,hu,hs⟩ hI hρ h).gG
   .exact dL hk.symm
  .exact dL hk.symm
 .--tD
  split at hk
  .rename_i hu;split at hk
   .rename_i hs;obtain⟨rfl,rfl⟩:=ad hk;exact(As hop hu hs hI hn0 hρ h).gG
   .exact dL hk.symm
  .exact dL hk.symm
 .--fieldAddr
  split at hk
  .rename_i hu;split at hk
   .rename_i hf;split at hk
    .rename_i hs;obtain⟨rfl,rfl⟩:=ad hk;exact(tP hop hu hf hs hI (fun z hz=>hρ _ z hz) h).gG
    .exact dL hk.symm
   .exact dL hk.symm
  .exact dL hk.symm
 .--field
  split at hk
  .rename_i hu;split at hk
   .rename_i hf;split at hk
    .rename_i ha hs;obtain⟨rfl,rfl⟩:=ad hk;exact(Cd hop hu hf ha hs hI (fun z hz=>hρ _ z hz) h).gG
    .exact dL hk.symm
   .exact dL hk.symm
  .exact dL hk.symm
 .--indexAddr
  split at hk
  .rename_i hu;split at hk
   .rename_i hs;obtain⟨rfl,rfl⟩:=ad hk;exact(nX (aB:=none) hop ⟨_,hu,hs⟩ hI (fun z hz=>hρ _ z hz) (fun z hz=>hρ _ z hz) h).gG
   .exact dL hk.symm
  .rename_i hu;split at hk
   .rename_i hs;obtain⟨rfl,rfl⟩:=ad hk;exact(nX (aB:=some _) hop ⟨_,hu,hs⟩ hI (fun z hz=>hρ _ z hz) (fun z hz=>hρ _ z hz) h).gG
   .exact dL hk.symm
  .exact dL hk.symm
 .--index
  split at hk
  .rename_i hu;obtain⟨rfl,rfl⟩:=ad hk;exact(vy hop hu hI (fun z hz=>hρ _ z hz) (fun z hz=>hρ _ z hz) h).gG
  .rename_i hu;split at hk
   .rename_i ha hs;obtain⟨rfl,rfl⟩:=ad hk;exact(Cc hop hu ha hs hI (fun z hz=>hρ _ z hz) (fun z hz=>hρ _ z hz) h).gG
   .exact dL hk.symm
  .exact dL hk.symm
 .obtain ⟨rfl,rfl⟩:=ad hk;exact(xN hop hI (fun z hz=>hρ _ z hz) h).gG
 .--makeMap
  split at hk
  .split at hk
   .obtain ⟨rfl,rfl⟩:=ad hk;exact(xM hop hI hn0 h).gG
   .exact dL hk.symm
  .exact dL hk.symm
 .--lookup
  split at hk
  .rename_i hu;split at hk
   .rename_i hm;obtain⟨rfl,rfl⟩:=ad hk;exact(TX hop hu hm hI (fun z hz=>hρ _ z hz) (fun z hz=>hρ _ z hz) h).gG
   .exact dL hk.symm
  .exact dL hk.symm
 .--mapEntry
  split at hk
  .rename_i hu;split at hk
   .rename_i hm;obtain⟨rfl,rfl⟩:=ad hk;exact(vw hop hu hm hI (fun z hz=>hρ _ z hz) (fun z hz=>hρ _ z hz) h).gG
   .exact dL hk.symm
  .exact dL hk.symm
 .--entryStore
  split at hk
  .split at hk
   .obtain ⟨rfl,rfl⟩:=ad hk;exact(rT hop hI (fun z hz=>hρ _ z hz) (fun z hz=>hρ _ z hz) (fun z hz=>hρ _ z hz) h).gG
   .exact dL hk.symm
  .exact dL hk.symm
 .--call
  rename_i c;split at hk
  .rename_i hcal;exact(sd hop hcal hk hI hE hn0 h).gG
  .rename_i f hcal;split at hk
   .split at hk
    .rename_i hf;obtain⟨rfl,rfl⟩:=ad hk
     have:∃p q,c.args.toList=[p,q]:=by
      generalize c.args.toList=l at h
      match l,h with|[p,q],_=>exact⟨p,q,rfl⟩|[],h=>simp[bD]at h|[p],h=>simp[bD]at h|p::q::r::t,h=>simp[bD]at h
     obtain⟨p,q,hpq⟩:=this;rw[hpq]at h;exact(GC hop hcal (jP hpq) hf rfl hI (fun z hz=>hρ p z hz) (fun z hz=>hρ q z hz) h).gG
    .exact dL hk.symm
   .obtain ⟨rfl,rfl⟩:=ad hk;exact zg hop hcal hok hI hfr hρ h
  .rename_i hcal;obtain⟨rfl,rfl⟩:=ad hk;exact zg hop hcal hok hI hfr hρ h
  .exact dL hk.symm
 .exact dL hk.symm
end
def QL(P:Program)(QC:pT)(nt:Nat)(all:Array Oper)(o:Oper):iX:=
 {dst:=o.dst
  k:=if(match o.dst with|some d=>decide (d<nt)|none=>true)then(Ns P QC o.op).1 else .dL
  args:=(Ns P QC o.op).2
  guard:=match o.guard with|none=>none|some (j,b)=>some (((all[j]?).bind (·.dst)).getD 1000000000,b)}
def lP:C:=.jy 0 []
def RG(S:Nat->Prop)(w:World)(Kn:Nat->Prop)(φ:Nat->d_)(c:C)(v:Value):Prop:=c=lP\/RC S w Kn φ c v
theorem RG.mono{S S':Nat->Prop}{w w':World}{Kn Kn':Nat->Prop}{φ φ':Nat->d_}(hs:WJ S w S' w')(hr:mS Kn φ Kn' φ'){x:C}{v:Value}(h:RG S w Kn φ x v):RG S' w' Kn' φ' x v:=h.imp id fun h=>h.mono hs hr
structure yP(S K:Nat->Prop)(w0:World)(Kn:Nat->Prop)(φ:Nat->d_)(gv:List Value)(nt:Nat)(s:St)(a:Act)(w:World):Prop where
 inv:Inv S K w0 Kn φ (ak s.heap) w
 bS:fN.ok S w Kn φ s.bS a.tmps
 size:a.tmps.size=nt
 defers:a.defers=[]
 dP:∀j,s.next<=j->¬Kn j
 gh:∀(i:Nat)(c:C)(v:Value),s.gh[i]?=some c->gv[i]?=some v->RG S w Kn φ c v
section
variable{P:Program}{S K:Nat->Prop}{w0 w:World}{Kn:Nat->Prop}{φ:Nat->d_}{gv:List Value}{nt:Nat}{a:Act}{call:Call}{QC:pT}{s s':St}
theorem Ez{a:Act}{d:Nat}{v:Value}(h:d<a.tmps.size)(t:Nat):(a.put (some d) v).tmps.getD t undef=if t=d then v else a.tmps.getD t undef:=by
 simp only[Act.put,aX,gz];by_cases e:d=t
 .subst e;simp[h]
 .have e2:¬t=d:=fun h=>e h.symm;simp[e,e2]
theorem nR{a:Act}(d:Option Nat)(v:Value):(a.put d v).tmps.size=a.tmps.size:=by cases d<;>simp[Act.put]
theorem MT{a:Act}(d:Option Nat)(v:Value):(a.put d v).defers=a.defers:=by cases d<;>simp[Act.put]
theorem gT(e:fN)(d:Option Nat)(v:TV)(t:Nat):bv (put e d v) t=if d=some t then some v else bv e t:=by
 cases d with
 |none=>simp[put]
 |some d=>
  simp only[put,bv];by_cases h:d=t
  .simp [h]
  .have h':(d==t)=false:=by simpa using h
   simp[h,h']
theorem qZ(e:fN)(d:Option Nat)(t:Nat):bv (drop e d) t=if d=some t then some (.fm [])else bv e t:=gT e d (.fm []) t
theorem fN.OT{e:fN}{S':Nat->Prop}{w':World}{Kn':Nat->Prop}{φ':Nat->d_}(hE:fN.ok S w Kn φ e a.tmps)(hs:WJ S w S' w')(hr:mS Kn φ Kn' φ'){d:Option Nat}{v:TV}{val:Value}
  (hd:∀x,d=some x->x<a.tmps.size) (hv:dH S' w' Kn' φ' v val):fN.ok S' w' Kn' φ' (Ev.put e d v) (a.put d val).tmps:=by
 intro t x hx;rw[gT]at hx;cases d with
 |none=>simp only[reduceCtorEq,if_false]at hx;exact(hE t x hx).mono hs hr
 |some d=>
  rw[Ez (hd d rfl)];by_cases h:t=d
  .subst h;simp only[if_true]at hx;rw[if_pos rfl,<-aa hx];exact hv
  .have h2:¬(some d=some t):=fun e=>h (aa e).symm;rw[if_neg h2]at hx;rw[if_neg h];exact(hE t x hx).mono hs hr
theorem fN.zJ{e:fN}(hE:fN.ok S w Kn φ e a.tmps){d:Option Nat}:fN.ok S w Kn φ (Ev.drop e d) (a.put d undef).tmps:=by
 intro t x hx;rw[qZ]at hx;have hu:dH S w Kn φ (.fm []) undef:=.fm rfl fun i x hi=>by simp at hi
 split at hx
 .rename_i h;subst h;obtain rfl:=aa hx;have:(a.put (some t) undef).tmps.getD t undef=undef:=by simp only[Act.put,aX,gz,if_true];split<;>rfl
  rw[this];exact hu
 .rename_i h;have:=hE t x hx;cases d with|none=>exact this|some d=>have h2:¬d=t:=fun e=>h (by rw[e]);simp only[Act.put,aX,gz,if_neg h2];rw[aX]at this;exact this
theorem kj{e:fN}(hE:fN.ok S w Kn φ e a.tmps)(hsz:a.tmps.size<1000000000){all:Array Oper}{o:Oper}{b:Bool}(h:gb e (QL P QC nt all o).guard=some b):
  Region.wanted o (yielded all a.tmps)=b:=by
 unfold QL at h;simp only at h;unfold Region.wanted;cases hg:o.guard with
 |none=>rw[hg]at h;simpa[gb]using h
 |some p=>
  obtain⟨j,want⟩:=p;rw[hg]at h;simp only[gb]at h;split at h
  .rename_i x hx;have hr:=hE _ _ hx;obtain⟨hv,_⟩:=hr.lit;cases hd:(all[j]?).bind (·.dst)with
   |none=>rw[hd]at hv;simp only[Option.getD_none]at hv;rw[aX,Array.getElem?_eq_none (by omega)]at hv;simp[undef]at hv
   |some t=>
    rw[hd]at hv;simp only[di]at hv
    have ht:a.tmps[t]?=some (.bool x):=by
     rw[aX]at hv;cases ht:a.tmps[t]?with
     |none=>rw[ht]at hv;simp[undef]at hv
     |some y=>rw[ht]at hv;simpa using hv
    obtain rfl:=aa h;simp only[yielded,hd,aR,ht];cases x<;>cases want<;>rfl
  .rename_i hx;have hr:=hE _ _ hx;obtain rfl:=aa h;cases hd:(all[j]?).bind (·.dst)with
   |none=>simp only[yielded,hd,Option.bind_none];rfl
   |some t=>
    rw[hd]at hr;simp only[di]at hr;generalize hv:a.tmps.getD t undef=v at hr;cases hr with
    |@fm _ aB hlen _=>
     rw[aX]at hv;simp only[yielded,hd,aR];cases ht:a.tmps[t]?with
     |none=>rfl
     |some y=>rw[ht]at hv;simp only[di]at hv;subst hv;rfl
  .simp at h
end
section
variable{H H':aY}
def eK(H H':aY)(aj:List Nat):Prop:=∀i∈aj,ak H' i=ak H i
theorem eK.left{a b:List Nat}(h:eK H H' (a++b)):eK H H' a:=fun i hi=>h i (az _ hi)
theorem eK.right{a b:List Nat}(h:eK H H' (a++b)):eK H H' b:=fun i hi=>h i (av _ hi)
theorem ng:∀n,(∀c x aj,cz H n c=some (x,aj)->eK H H' aj->cz H' n c=some (x,aj))/\
  (∀cs xs aj,dF H n cs=some (xs,aj)->eK H H' aj->dF H' n cs=some (xs,aj)):=by
 have leaf:∀n c x aj,(match c with|.op _ _|.jy _ _=>False|_=>True)->cz H n c=some (x,aj)->eK H H' aj->cz H' n c=some (x,aj):=by
  intro n c x aj hl h ha;cases c with
  |d y=>simpa only[cz]using h
  |da sz id off len=>
   have:ak H' id=ak H id:=ha id (by
    simp only[cz]at h;split at h
    all_goals first
     |(split at h
       .obtain ⟨_,rfl⟩:=ad (aa h);simp
       .simp at h)
     |(split at h
       .split at h
        .obtain ⟨_,rfl⟩:=ad (aa h);simp
        .simp at h
       .simp at h)
     |simp at h)
   simp only[cz]at h|-;rw[this];exact h
  |ep id cU off=>
   have:ak H' id=ak H id:=ha id (by
    simp only[cz]at h;split at h
    all_goals first
     |(split at h
       .split at h
        .obtain ⟨_,rfl⟩:=ad (aa h);simp
        .simp at h
       .simp at h)
     |simp at h)
   simp only[cz]at h|-;rw[this];exact h
  |op id off=>exact hl.elim
  |jy f caps=>exact hl.elim
  |om id=>cases n<;>simp[cz]at h
 intro n;induction n with
 |zero=>
  refine⟨fun c x aj h ha=>?_,fun cs xs aj h ha=>?_⟩
  .cases c with|op id off=>simp[cz]at h|jy f caps=>simp[cz]at h|_=>exact leaf 0 _ x aj trivial h ha
  .cases cs with|nil=>simpa only[dF]using h|cons c cs=>simp[dF]at h
 |succ n ih=>
  refine⟨fun c x aj h ha=>?_,fun cs xs aj h ha=>?_⟩
  .cases c with
   |op id off=>
    simp only[cz]at h|-;split at h
    .rename_i ho;split at h
     .rename_i hle;obtain⟨rfl,rfl⟩:=ad (aa h);rw[ha id (by simp),ho];simp only[hle,if_true]
     .simp at h
    .rename_i ho;split at h
     .rename_i hv;split at h
      .rename_i hle;obtain⟨rfl,rfl⟩:=ad (aa h);rw[ha id (by simp),ho];simp only[ih.2 _ _ _ hv (fun i hi=>ha i (by simp[hi])),hle,if_true]
      .simp at h
     .simp at h
    .simp at h
   |jy f caps=>
    simp only[cz]at h|-;split at h
    .rename_i hv;obtain⟨rfl,rfl⟩:=ad (aa h);simp only[ih.2 _ _ _ hv ha]
    .simp at h
   |_=>exact leaf _ _ x aj trivial h ha
  .cases cs with
   |nil=>simpa only[dF]using h
   |cons c cs=>
    simp only[dF]at h|-;split at h
    .rename_i h1 h2;obtain⟨rfl,rfl⟩:=ad (aa h);simp only[ih.1 _ _ _ h1 ha.left,ih.2 _ _ _ h2 ha.right]
    .simp at h
theorem Sg:∀cs xs aj,cm H cs=some (xs,aj)->eK H H' aj->cm H' cs=some (xs,aj):=by
 intro cs;induction cs with
 |nil=>intro xs aj h _;simpa only[cm]using h
 |cons c cs ih=>
  intro xs aj h ha;simp only[cm]at h|-;split at h
  .rename_i h1 h2;obtain⟨rfl,rfl⟩:=ad (aa h);simp only[(ng 300).1 _ _ _ h1 ha.left,ih _ _ h2 ha.right]
  .simp at h
theorem lH{all:List Nat}(ha:eK H H' all):∀(l:List Nat)(u:de),(∀i∈l,i∈all)->b_ H all l=some u->b_ H' all l=some u:=by
 intro l;induction l with
 |nil=>intro u _ h;simpa only[b_]using h
 |cons a l ih=>
  intro u hl h;simp only[b_]at h|-;split at h
  .rename_i o u' ho hu
   have hob:fV H' all a=some o:=by
    unfold fV at ho|-;rw[ha a (hl a (by simp))];split at ho
    .exact ho
    .exact ho
    .exact ho
    .split at ho
     .rename_i hv;split at ho
      .rename_i hall;simp only[(ng 300).2 _ _ _ hv (fun i hi=>ha i (by simpa using aL.1 hall i hi)),hall,if_true];exact ho
      .simp at ho
     .simp at ho
    .simp at ho
    .simp at ho
    .exact ho
    .simp at ho
   simp only[hob,ih u' (fun i hi=>hl i (by simp[hi])) hu];exact h
  .simp at h
theorem qR{agg:Bool}{n:Nat}{p:C}{v:TV}{aj:List Nat}(h:eH agg n p H=some (v,aj))(ha:eK H H' aj):eH agg n p H'=some (v,aj):=by
 unfold eH at h|-;split at h
 .exact h
 .rename_i id cU off
  have:ak H' id=ak H id:=ha id (by
   split at h
   all_goals first
    |(split at h
      .split at h
       .obtain ⟨_,rfl⟩:=ad (aa h);simp
       .simp at h
      .simp at h)
    |simp at h)
  simp only[this];exact h
 .rename_i id off
  have:ak H' id=ak H id:=ha id (by
   split at h
   all_goals first
    |(split at h
      .obtain ⟨_,rfl⟩:=ad (aa h);simp
      .simp at h)
    |simp at h)
  simp only[this];exact h
 .simp at h
theorem xB{id cU sz:Nat}{slots:List gH}{cs:List C}{u:de}{aj:List Nat}(h:lK id cU sz slots cs H=some (u,aj))(ha:eK H H' aj):lK id cU sz slots cs H'=some (u,aj):=by
 unfold lK at h|-;split at h
 .exact h
 .rename_i sz' id2 len
  have hid:id2∈aj:=by
   repeat' split at h
   all_goals first
    |(simp at h;done)
    |(obtain⟨_,h2⟩:=ad (aa h);rw[<-h2];simp)
  simp only[ha id2 hid];exact h
 .simp at h
theorem vL{agg:Bool}{n nxt n':Nat}{p:C}{v:TV}{u:de}{aj:List Nat}(h:gU agg n p H nxt=some (v,u,aj,n'))(ha:eK H H' aj):eH agg n p H'=none/\gU agg n p H' nxt=some (v,u,aj,n'):=by
 unfold gU at h;split at h
 case h_2=>simp at h
 rename_i id cU;split at h
 case h_2=>simp at h
 rename_i sz slots ho
 have hid:id∈aj:=by
  repeat' split at h
  all_goals first
   |(simp at h;done)
   |(obtain⟨_,_,h2,_⟩:=(by simpa using h:_/\_/\[id]=aj/\_);rw[<-h2];simp)
 have ho':ak H' id=some (.nst sz slots):=by rw[ha id hid];exact ho
 refine⟨by simp only[eH,ho'],?_⟩;simp only[gU,ho'];exact h
theorem uP{n:Nat}{p:C}{v:TV}{u:de}{aj:List Nat}(h:ia n p v H=some (u,aj))(ha:eK H H' aj):ia n p v H'=some (u,aj):=by
 unfold ia at h|-;split at h
 .simp at h
 .rename_i cs hcs;split at h
  .rename_i hlen;simp only[hlen,if_true];split at h
   .rename_i id cU off;split at h
    .rename_i sz rows ho;split at h
     .rename_i r ds ids1 hr hv;split at h
      .rename_i u1 hfz;split at h
       .rename_i hb;obtain⟨rfl,rfl⟩:=ad (aa h);have ha1:eK H H' ids1:=fun i hi=>ha i (by simp[hi]);simp only[ha id (by simp),ho,hr,Sg _ _ _ hv ha1,lH ha1 _ _ (fun i hi=>hi) hfz,hb.1,hb.2,and_self,if_true]
       .simp at h
      .simp at h
     .simp at h
    .rename_i sz slots ho;split at h
     .rename_i hc
      have hid:id∈aj/\∀i,cs=[.da sz i 0 0]->True:=by
       refine⟨?_,fun _ _=>trivial⟩;unfold lK at h
       repeat' split at h
       all_goals first
        |(simp at h;done)
        |(obtain⟨_,h2⟩:=ad (aa h);rw[<-h2];simp)
      simp only[ha id hid.1,ho,if_pos hc];exact xB h ha
     .simp at h
    .simp at h
   .rename_i id off;split at h
    .rename_i cells ho;split at h
     .rename_i hb;obtain⟨rfl,rfl⟩:=ad (aa h);simp only[ha id (by simp),ho,hb,if_true]
     .simp at h
    .simp at h
   .simp at h
  .simp at h
theorem jD{sz:Nat}{x:C}{new:List (List D)}{aj:List Nat}(h:fz sz H x=some (new,aj))(ha:eK H H' aj):fz sz H' x=some (new,aj):=by
 unfold fz at h|-;split at h
 .exact h
 .exact h
 .rename_i sz' id off len
  have:ak H' id=ak H id:=ha id (by
   split at h
   all_goals first
    |(split at h
      .obtain ⟨_,rfl⟩:=ad (aa h);simp
      .simp at h)
    |simp at h)
  simp only[this];exact h
 .simp at h
theorem yr{sz:Nat}{d x:C}{i:Int}{u:de}{aj:List Nat}(h:il sz d x H=some (i,u,aj))(ha:eK H H' aj):il sz d x H'=some (i,u,aj):=by
 unfold il at h|-;split at h
 .rename_i new ids1 hr;obtain⟨_,_,rfl⟩:_/\_/\ids1=aj:=by simpa using h
  rw[jD hr ha];exact h
 .rename_i new ids1 sz' id off len hr;split at h
  .rename_i szo rows ho;split at h
   .rename_i hb;obtain⟨_,_,rfl⟩:_/\_/\id::ids1=aj:=by simpa using h
    rw[jD hr fun j hj=>ha j (aq _ hj)];simp only[ha id (by simp),ho,if_pos hb];exact h
   .simp at h
  .simp at h
 .simp at h
theorem wm{sz:Nat}{d x:C}{i:Int}{u:de}{aj:List Nat}(h:jF sz d x H=some (i,u,aj))(ha:eK H H' aj):jF sz d x H'=some (i,u,aj)/\il sz d x H'=none:=by
 unfold jF at h|-;split at h
 case h_2=>simp at h
 rename_i sz' id off len sz2 id2 off2 len2
 have hids:aj=[id,id2]:=by
  repeat' split at h
  all_goals first
   |(simp at h;done)
   |(obtain⟨_,_,h2⟩:=(by simpa using h:_/\_/\[id,id2]=aj);exact h2.symm)
 subst hids;have a1:=ha id (by simp);have a2:=ha id2 (by simp);refine⟨by simp only[a1,a2];exact h,?_⟩
 have:∃szo rows cp,ak H' id=some (.cap szo rows cp):=by
  rw[a1];split at h
  .exact ⟨_,_,_,by assumption⟩
  .exact ⟨_,_,_,by assumption⟩
  .simp at h
 obtain⟨szo,rows,cp,ho⟩:=this;unfold il;split
 .rename_i hd;simp at hd
 .rename_i hd;obtain⟨rfl,rfl,rfl,rfl⟩:=(by simpa using hd:_/\_/\_/\_)
  rw[ho]
 .rfl
theorem uq{sz nxt n':Nat}{s x:C}{v:TV}{u:de}{aj:List Nat}(h:jj sz s x H nxt=some (v,u,aj,n'))(ha:eK H H' aj):jj sz s x H' nxt=some (v,u,aj,n'):=by
 unfold jj at h|-;split at h
 .simp at h
 .rename_i new ids1 hr;split at h
  .have e1:ids1=aj:=by
    split at h
    .split at h
     .obtain ⟨_,_,h3,_⟩:=(by simpa using h:_/\_/\ids1=aj/\_);exact h3
     .obtain ⟨_,_,h3,_⟩:=(by simpa using h:_/\_/\ids1=aj/\_);exact h3
    .simp at h
   subst e1;simp only[jD hr ha];exact h
  .rename_i sz' id off len;split at h
   .rename_i szo rows ho;split at h
    .rename_i hb;have e1:id::ids1=aj:=by obtain⟨_,_,h3,_⟩:=(by simpa using h:_/\_/\id::ids1=aj/\_);exact h3
     subst e1;simp only[jD hr (fun i hi=>ha i (by simp[hi])),ha id (by simp),ho];rw[if_pos hb];exact h
    .simp at h
   .simp at h
  .simp at h
theorem xH:∀n,(∀c t aW rd,cG H n c=some (t,aW,rd)->eK H H' rd->cG H' n c=some (t,aW,rd))/\
  (∀cs ts aW rd,eY H n cs=some (ts,aW,rd)->eK H H' rd->eY H' n cs=some (ts,aW,rd)):=by
 have leaf:∀n c t aW rd,(match c with|.op _ _=>False|_=>True)->cG H n c=some (t,aW,rd)->eK H H' rd->cG H' n c=some (t,aW,rd):=by
  intro n c t aW rd hl h ha;cases c with
  |d y=>cases n<;>simpa only[cG]using h
  |da sz id off len=>
   have hm:id∈rd:=by
    cases n<;>
    .simp only[cG]at h;split at h
     all_goals first
      |(split at h
        .split at h
         .obtain ⟨_,_,h3⟩:=(by simpa using h:_/\_/\[id]=rd);rw[<-h3];simp
         .simp at h
        .simp at h)
      |(split at h
        .obtain ⟨_,_,h3⟩:=(by simpa using h:_/\_/\[id]=rd);rw[<-h3];simp
        .simp at h)
      |simp at h
   have:ak H' id=ak H id:=ha id hm;cases n<;>
   .simp only[cG]at h|-;rw[this];exact h
  |ep id cU off=>cases n<;>simp[cG]at h
  |jy f caps=>cases n<;>simp[cG]at h
  |om id=>cases n<;>simp[cG]at h
  |op id off=>exact hl.elim
 intro n;induction n with
 |zero=>
  refine⟨fun c t aW rd h ha=>?_,fun cs ts aW rd h ha=>?_⟩
  .cases c with|op id off=>simp[cG]at h|_=>exact leaf 0 _ t aW rd trivial h ha
  .cases cs with|nil=>simpa only[eY]using h|cons c cs=>simp[eY]at h
 |succ n ih=>
  refine⟨fun c t aW rd h ha=>?_,fun cs ts aW rd h ha=>?_⟩
  .cases c with
   |op id off=>
    cases off with
    |succ off=>simp[cG]at h
    |zero=>
     simp only[cG]at h|-;split at h
     .rename_i ho;split at h
      .rename_i ts own' rd' hp;obtain⟨h1,h2,h3⟩:=(by simpa using h:T.pt ts=t/\id::own'=aW/\id::rd'=rd)
       subst h1 h2 h3;rw[ha id (by simp),ho];simp only[ih.2 _ _ _ _ hp (fun i hi=>ha i (by simp[hi]))]
      .simp at h
     .rename_i cells ho;obtain⟨h1,h2,h3⟩:=(by simpa using h:T.d (.pt cells)=t/\[]=aW/\[id]=rd)
      subst h1 h2 h3;rw[ha id (by simp),ho]
     .simp at h
   |_=>exact leaf _ _ t aW rd trivial h ha
  .cases cs with
   |nil=>simpa only[eY]using h
   |cons c cs=>
    simp only[eY]at h|-;split at h
    .rename_i t0 a i0 ts0 b j0 h1 h2;obtain⟨e1,e2,e3⟩:=(by simpa using h:t0::ts0=ts/\a++b=aW/\i0++j0=rd)
     subst e1 e2 e3;simp only[ih.1 _ _ _ _ h1 ha.left,ih.2 _ _ _ _ h2 ha.right]
    .simp at h
theorem rF:∀(tvs:List TV)(ms:List Bool)(as:List A)(aj:List Nat)(lent:List (C×List Nat×List Nat)),dQ H tvs ms=some (as,aj,lent)->eK H H' aj->eK H H' (lent.flatMap (·.2.2))->
  dQ H' tvs ms=some (as,aj,lent):=by
 intro tvs;induction tvs with
 |nil=>intro ms as aj lent h _ _;simpa only[dQ]using h
 |cons t tvs ih=>
  intro ms as aj lent h ha hb;simp only[dQ]at h|-;split at h
  .simp at h
  .rename_i as1 ids1 lent1 hrec;split at h
   .rename_i hm;split at h
    .split at h
     .rename_i t0 aW rd hp;obtain⟨e1,e2,e3⟩:=(by simpa using h:A.mt t0::as1=as/\ids1=aj/\(_,aW,rd)::lent1=lent)
      subst e1 e2 e3;simp only[aZ]at hb;simp only[ih _ _ _ _ hrec ha hb.right,hm,if_true,(xH 300).1 _ _ _ _ hp hb.left]
     .simp at h
    .simp at h
   .rename_i hm;split at h
    .split at h
     .rename_i x i hv;obtain⟨e1,e2,e3⟩:=(by simpa using h:A.d x::as1=as/\i++ids1=aj/\lent1=lent)
      subst e1 e2 e3;simp only[ih _ _ _ _ hrec ha.right hb,hm,if_false,aG,(ng 300).1 _ _ _ hv ha.left]
     .simp at h
    .split at h
     .rename_i xs i hv;obtain⟨e1,e2,e3⟩:=(by simpa using h:A.agg xs::as1=as/\i++ids1=aj/\lent1=lent)
      subst e1 e2 e3;simp only[ih _ _ _ _ hrec ha.right hb,hm,if_false,aG,Sg _ _ _ hv ha.left]
     .simp at h
    .simp at h
theorem zy:∀(tvs:List TV)(ms:List Bool)(as:List A)(aj:List Nat)(lent:List (C×List Nat×List Nat)),dQ H tvs ms=some (as,aj,lent)->
  ∀c aW rd,(c,aW,rd)∈lent->∃t,cG H 300 c=some (t,aW,rd):=by
 intro tvs;induction tvs with
 |nil=>
  intro ms as aj lent h c aW rd hm;obtain⟨_,_,rfl⟩:[]=as/\[]=aj/\[]=lent:=by simpa[dQ]using h
  simp at hm
 |cons t tvs ih=>
  intro ms as aj lent h c aW rd hm;simp only[dQ]at h;split at h
  .simp at h
  .rename_i as1 ids1 lent1 hrec;split at h
   .split at h
    .split at h
     .rename_i c0 _ t0 own0 rd0 hp;obtain⟨_,_,e3⟩:=(by simpa using h:A.mt t0::as1=as/\ids1=aj/\(_,own0,rd0)::lent1=lent)
      subst e3;rcases aE.1 hm with hm|hm
      .simp only[bP]at hm;obtain⟨g1,g2,g3⟩:=hm;rw[g1,g2,g3];exact⟨_,hp⟩
      .exact ih _ _ _ _ hrec c aW rd hm
     .simp at h
    .simp at h
   .split at h
    .split at h
     .obtain ⟨_,_,e3⟩:=(by simpa using h:_/\_/\lent1=lent)
      subst e3;exact ih _ _ _ _ hrec c aW rd hm
     .simp at h
    .split at h
     .obtain ⟨_,_,e3⟩:=(by simpa using h:_/\_/\lent1=lent)
      subst e3;exact ih _ _ _ _ hrec c aW rd hm
     .simp at h
    .simp at h
theorem po:∀(l:List (C×List Nat×List Nat)),(∀c aW rd,(c,aW,rd)∈l->∃t,cG H 300 c=some (t,aW,rd))->eK H H' (l.flatMap (·.2.2))->cI H' l=cI H l:=by
 intro l;induction l with
 |nil=>intro _ _;rfl
 |cons p l ih=>
  obtain⟨c,aW,rd⟩:=p;intro hp ha;simp only[aZ]at ha;have h1:=ih (fun c aW rd hm=>hp c aW rd (by simp[hm])) ha.right;cases c with
  |da sz id off len=>
   obtain⟨t,ht⟩:=hp (.da sz id off len) aW rd (by simp)
   have hm:id∈rd:=by
    simp only[cG]at ht;split at ht
    all_goals first
     |(split at ht
       .split at ht
        .obtain ⟨_,_,h3⟩:=(by simpa using ht:_/\_/\[id]=rd);rw[<-h3];simp
        .simp at ht
       .simp at ht)
     |(split at ht
       .obtain ⟨_,_,h3⟩:=(by simpa using ht:_/\_/\[id]=rd);rw[<-h3];simp
       .simp at ht)
     |simp at ht
   simp only[cI,h1,ha.left id hm]
  |_=>simp only[cI,h1]
theorem yE{call:Call}{ro:Bool}{ga:List Bool}{f:Option TV}{vs:List (Option TV)}{nxt n':Nat}{v:TV}{u:de}{aj:List Nat}(h:nz call ro ga f vs H nxt=some (v,u,aj,n'))(ha:eK H H' aj):
  nz call ro ga f vs H' nxt=some (v,u,aj,n'):=by
 unfold nz at h|-;split at h
 .rename_i f caps vs hf hvs;split at h
  .simp at h
  .rename_i as ids1 lent hargs;split at h
   .rename_i hcond;split at h
    .simp at h
    .rename_i rs outs hcall;by_cases hro:ro=true
     .rw [if_pos hro]at h;split at h
      .rename_i hc;split at h
       .simp at h
       .rename_i bu m hbk;have e1:ids1++lent.flatMap (·.2.2)=aj:=by obtain⟨_,_,h3,_⟩:=(by simpa using h:_/\_/\ids1++lent.flatMap (·.2.2)=aj/\_);exact h3
        subst e1;simp only[rF _ _ _ _ _ hargs ha.left ha.right];rw[if_pos (by rw[po lent (zy _ _ _ _ _ hargs) ha.right];exact hcond)];simp only[hcall];rw[if_pos hro,if_pos hc];simp only[hbk];exact h
      .simp at h
     .rw [if_neg hro]at h;split at h
      .simp at h
      .rename_i fu hfz;split at h
       .simp at h
       .rename_i bu m hbk;have e1:ids1++lent.flatMap (·.2.2)=aj:=by obtain⟨_,_,h3,_⟩:=(by simpa using h:_/\_/\ids1++lent.flatMap (·.2.2)=aj/\_);exact h3
        subst e1;simp only[rF _ _ _ _ _ hargs ha.left ha.right];rw[if_pos (by rw[po lent (zy _ _ _ _ _ hargs) ha.right];exact hcond)];simp only[hcall];rw[if_neg hro];simp only[lH ha.left _ _ (fun i hi=>hi) hfz,hbk];exact h
   .simp at h
 .simp at h
theorem pk{call:Call}{sz len:Nat}{zero:List Value}{places:List Nat}{vs:List (Option TV)}{nxt n':Nat}{v:TV}{u:de}{aj:List Nat}
  (h:bD call (.buildSlice sz len zero places) vs H nxt=some (v,u,aj,n')) (ha:eK H H' aj):bD call (.buildSlice sz len zero places) vs H' nxt=some (v,u,aj,n'):=by
 have key:∀G:aY,bD call (.buildSlice sz len zero places) vs G nxt=(match cD vs with
  |some xs=>
   (match iL (db zero) ((places.map fun i=>(i*sz,sz)).zip xs)with
   |some cs=>
    (match cm G cs with
    |some (ds,aj)=>(match b_ G aj aj with|some u=>some (TV.c (.da sz nxt 0 len),(nxt,some (Ob.aB sz (ip sz len ds)))::u,aj,nxt+1)|none=>none)
    |none=>none)
   |none=>none)
  |none=>none):=fun _=>rfl
 rw[key]at h|-;split at h
 .rename_i xs hxs;split at h
  .rename_i cs hcs;split at h
   .rename_i ds ids1 hv;split at h
    .rename_i u1 hfz;obtain⟨_,_,h3,_⟩:=(by simpa using h:_/\_/\ids1=aj/\_)
     subst h3;simp only[Sg _ _ _ hv ha,lH ha _ _ (fun i hi=>hi) hfz];exact h
    .simp at h
   .simp at h
  .simp at h
 .simp at h
theorem tV{ka va ok:Bool}{ks:List Kd}{z:List Value}{m:C}{k v:TV}{aj:List Nat}(h:LR ka ks va z ok m k H=some (v,aj))(ha:eK H H' aj):LR ka ks va z ok m k H'=some (v,aj):=by
 unfold LR at h|-;split at h
 .exact h
 .rename_i id key hkey
  have hid:id∈aj:=by
   repeat' split at h
   all_goals first
    |(simp at h;done)
    |(obtain⟨_,h2⟩:=ad (aa h);rw[<-h2];simp)
  simp only[ha id hid];exact h
 .simp at h
theorem we{ka va:Bool}{ks:List Kd}{z:List Value}{m:C}{k v:TV}{u:de}{aj:List Nat}(h:iN ka ks va z m k H=some (v,u,aj))(ha:eK H H' aj):iN ka ks va z m k H'=some (v,u,aj):=by
 unfold iN at h|-;split at h
 .rename_i id key hkey
  have hid:id∈aj:=by
   repeat' split at h
   all_goals first
    |(simp at h;done)
    |(obtain⟨_,_,h2⟩:=(by simpa using h:_/\_/\[id]=aj);rw[<-h2];simp)
  simp only[ha id hid];exact h
 .simp at h
theorem ue{va:Bool}{n:Nat}{m:C}{s:Option TV}{x:TV}{u:de}{aj:List Nat}(h:iO va n m s x H=some (u,aj))(ha:eK H H' aj):iO va n m s x H'=some (u,aj):=by
 unfold iO at h|-;split at h
 .rename_i id s1 ds c9 hds
  have hid:id∈aj:=by
   repeat' split at h
   all_goals first
    |(simp at h;done)
    |(obtain⟨_,h2⟩:=(by simpa using h:_/\[id]=aj);rw[<-h2];simp)
  simp only[ha id hid];exact h
 .simp at h
theorem qy{str:Bool}{sz:Nat}{x y:C}{l m:Int}{aj:List Nat}(h:Mz str sz x l m H=some (y,aj))(ha:eK H H' aj):Mz str sz x l m H'=some (y,aj):=by
 unfold Mz at h|-;split at h
 .rename_i sz' id off len
  have hid:id∈aj:=by
   repeat' split at h
   all_goals first
    |(simp at h;done)
    |(obtain⟨_,h2⟩:=(by simpa using h:_/\[id]=aj);rw[<-h2];simp)
  simp only[ha id hid];exact h
 .simp at h
theorem ZE{z:List Value}{x:C}{u:de}{aj:List Nat}(h:jG z x H=some (u,aj))(ha:eK H H' aj):jG z x H'=some (u,aj):=by
 unfold jG at h|-;split at h
 .rename_i sz id off len
  have hid:id∈aj:=by
   repeat' split at h
   all_goals first
    |(simp at h;done)
    |(obtain⟨_,h2⟩:=(by simpa using h:_/\[id]=aj);rw[<-h2];simp)
  simp only[ha id hid];exact h
 .simp at h
def yS:Ev.K->Bool
 |.m7|.slice _ _ _ _|.clear _|.DA|.IP _|.Ii|.load _ _|.store _|.buildSlice _ _ _ _|.append _|.copy _|.call _ _|.lookup _ _ _ _ _|.mapEntry _ _ _ _|.entryStore _ _=>true
 |_=>false
theorem OC{call:Call}{k:Ev.K}{vs:List (Option TV)}{nxt:Nat}(hk:yS k=false):bD call k vs H nxt=bD call k vs H' nxt:=by
 cases k<;>first
  |(simp[yS]at hk;done)
  |(unfold bD;split<;>first|rfl|simp_all)
theorem A3{call:Call}{k:Ev.K}{vs:List (Option TV)}{nxt n':Nat}{v:TV}{u:de}{aj:List Nat}(h:bD call k vs H nxt=some (v,u,aj,n'))(ha:eK H H' aj):
  bD call k vs H' nxt=some (v,u,aj,n'):=by
 cases k with
 |load agg n=>
  match vs,h with
  |[some (.c p)],h=>
   change (match eH agg n p H with|some (v,aj)=>some (v,[],aj,nxt)|none=>none)=_ at h;show(match eH agg n p H' with|some (v,aj)=>some (v,[],aj,nxt)|none=>none)=_;split at h
   .rename_i hl;obtain⟨_,_,h3,_⟩:=(by simpa using h:_/\_/\_=aj/\_)
    subst h3;rw[qR hl ha];exact h
   .simp at h
 |m7=>
  match vs,h with
  |[some (.c p)],h=>
   change (match eH false 1 p H with|some (v,aj)=>some (v,[],aj,nxt)|none=>gU false 1 p H nxt)=_ at h;show(match eH false 1 p H' with|some (v,aj)=>some (v,[],aj,nxt)|none=>gU false 1 p H' nxt)=_;split at h
   .rename_i hl;obtain⟨_,_,h3,_⟩:=(by simpa using h:_/\_/\_=aj/\_)
    subst h3;rw[qR hl ha];exact h
   .obtain ⟨h1,h2⟩:=vL h ha;rw[h1];exact h2
 |store n=>
  match vs,h with
  |[some (.c p),some x],h=>
   change (match ia n p x H with|some (u,aj)=>some (TV.fm [],u,aj,nxt)|none=>none)=_ at h;show(match ia n p x H' with|some (u,aj)=>some (TV.fm [],u,aj,nxt)|none=>none)=_;split at h
   .rename_i hl;obtain⟨_,_,h3,_⟩:=(by simpa using h:_/\_/\_=aj/\_)
    subst h3;rw[uP hl ha];exact h
   .simp at h
 |buildSlice sz len zero places=>exact pk h ha
 |clear z=>
  match vs,h with
  |[some (.c d)],h=>
   change (match jG z d H with|some (u,aj)=>some (TV.fm [],u,aj,nxt)|none=>none)=_ at h;show(match jG z d H' with|some (u,aj)=>some (TV.fm [],u,aj,nxt)|none=>none)=_;split at h
   .rename_i hl;obtain⟨_,_,h3,_⟩:=(by simpa using h:_/\_/\_=aj/\_)
    subst h3;rw[ZE hl ha];exact h
   .simp at h
 |slice str sz lo hi=>
  have cK:hi=false->bD call (.slice str sz lo hi) vs H nxt=bD call (.slice str sz lo hi) vs H' nxt:=by
   intro hlh
   cases lo<;>cases hi<;>first
    |(simp at hlh;done)
    |(match vs with
     |[]=>rfl
     |none::_=>rfl
     |some (.agg _)::_=>rfl
     |some (.fm _)::_=>rfl
     |some (.c _)::[]=>rfl
     |some (.c _)::_::[]=>rfl
     |some (.c _)::_::_::_=>rfl)
  cases hi with
  |false=>rw[<-cK rfl];exact h
  |true=>
   cases lo with
   |false=>
    match vs,h with
    |[some (.c x),m],h=>
     change (match bC m with
      |some m=>(match dq str sz x none (some m)with
       |some y=>some (TV.c y,([]:de),([]:List Nat),nxt)
       |none=>(match Mz str sz x 0 m H with|some (y,aj)=>some (TV.c y,([]:de),aj,nxt)|none=>none))
      |none=>none)=_ at h
     show(match bC m with
      |some m=>(match dq str sz x none (some m)with
       |some y=>some (TV.c y,([]:de),([]:List Nat),nxt)
       |none=>(match Mz str sz x 0 m H' with|some (y,aj)=>some (TV.c y,([]:de),aj,nxt)|none=>none))
      |none=>none)=_
     split at h
     .split at h
      .exact h
      .split at h
       .rename_i hl;obtain⟨_,_,h3,_⟩:=(by simpa using h:_/\_/\_=aj/\_)
        subst h3;rw[qy hl ha];exact h
       .simp at h
     .simp at h
   |true=>
    match vs,h with
    |[some (.c x),l,m],h=>
     change (match bC l,bC m with
      |some l,some m=>(match dq str sz x (some l) (some m)with
       |some y=>some (TV.c y,([]:de),([]:List Nat),nxt)
       |none=>(match Mz str sz x l m H with|some (y,aj)=>some (TV.c y,([]:de),aj,nxt)|none=>none))
      |_,_=>none)=_ at h
     show(match bC l,bC m with
      |some l,some m=>(match dq str sz x (some l) (some m)with
       |some y=>some (TV.c y,([]:de),([]:List Nat),nxt)
       |none=>(match Mz str sz x l m H' with|some (y,aj)=>some (TV.c y,([]:de),aj,nxt)|none=>none))
      |_,_=>none)=_
     split at h
     .split at h
      .exact h
      .split at h
       .rename_i hl;obtain⟨_,_,h3,_⟩:=(by simpa using h:_/\_/\_=aj/\_)
        subst h3;rw[qy hl ha];exact h
       .simp at h
     .simp at h
 |append sz=>match vs,h with|[some (.c s),some (.c x)],h=>exact uq (s:=s) (x:=x) h ha
 |copy sz=>
  match vs,h with
  |[some (.c d),some (.c x)],h=>
   change (match il sz d x H with|some (i,u,aj)=>some (lv (.int .i64 i),u,aj,nxt)|none=>(match jF sz d x H with|some (i,u,aj)=>some (lv (.int .i64 i),u,aj,nxt)|none=>none))=_ at h;show(match il sz d x H' with|some (i,u,aj)=>some (lv (.int .i64 i),u,aj,nxt)|none=>(match jF sz d x H' with|some (i,u,aj)=>some (lv (.int .i64 i),u,aj,nxt)|none=>none))=_;split at h
   .rename_i hl;obtain⟨_,_,h3,_⟩:=(by simpa using h:_/\_/\_=aj/\_)
    subst h3;rw[yr hl ha];exact h
   .split at h
    .rename_i hl;obtain⟨_,_,h3,_⟩:=(by simpa using h:_/\_/\_=aj/\_)
     subst h3;obtain⟨e1,e2⟩:=wm hl ha;rw[e2,e1];exact h
    .simp at h
 |DA=>
  match vs,h with
  |[some (.c x)],h=>
   change (match rg x H with|some (n,aj)=>some (lv (.int .i64 n),([]:de),aj,nxt)|none=>none)=_ at h;show(match rg x H' with|some (n,aj)=>some (lv (.int .i64 n),([]:de),aj,nxt)|none=>none)=_;split at h
   .rename_i m ids1 hl;obtain⟨_,_,h3,_⟩:=(by simpa using h:_/\_/\_=aj/\_)
    subst h3
    have:rg x H'=some (m,ids1):=by
     unfold rg at hl|-;split at hl
     .rename_i id off len
      have hid:id∈ids1:=by
       repeat' split at hl
       all_goals first
        |(simp at hl;done)
        |(obtain⟨_,h2⟩:=(by simpa using hl:_/\[id]=ids1);rw[<-h2];simp)
      simp only[ha id hid];exact hl
     .simp at hl
    rw[this];exact h
   .simp at h
 |Ii=>
  match vs,h with
  |[some (.c x),some (.c y)],h=>
   change (match rf x y H with|some aj=>some (lv (.bool false),([]:de),aj,nxt)|none=>none)=_ at h;show(match rf x y H' with|some aj=>some (lv (.bool false),([]:de),aj,nxt)|none=>none)=_;split at h
   .rename_i ids1 hl;obtain⟨_,_,h3,_⟩:=(by simpa using h:_/\_/\_=aj/\_)
    subst h3
    have:rf x y H'=some ids1:=by
     unfold rf at hl|-;split at hl
     .rename_i a o1 l1 sz2 b o2 l2
      have hid:ids1=[a,b]:=by
       repeat' split at hl
       all_goals first
        |(simp at hl;done)
        |(exact(aa hl).symm)
      subst hid;simp only[ha a (by simp),ha b (by simp)];exact hl
     .simp at hl
    rw[this];exact h
   .simp at h
 |IP z=>
  match vs,h with
  |[some (.c x),some (.c (.d (.lit (.int k1 k))))],h=>
   change sU z x k H nxt=_ at h;show sU z x k H' nxt=_;unfold sU at h|-;split at h
   .rename_i sz' id off len
    have hid:id∈aj:=by
     repeat' split at h
     all_goals first
      |(simp at h;done)
      |(obtain⟨_,_,h2,_⟩:=(by simpa using h:_/\_/\[id]=aj/\_);rw[<-h2];simp)
    simp only[ha id hid];exact h
   .simp at h
 |call ro ga=>match vs,h with|f::vs,h=>exact yE (f:=f) (vs:=vs) h ha
 |lookup ka ks va z ok=>
  match vs,h with
  |[some (.c m),some k],h=>
   change (match LR ka ks va z ok m k H with|some (v,aj)=>some (v,([]:de),aj,nxt)|none=>none)=_ at h;show(match LR ka ks va z ok m k H' with|some (v,aj)=>some (v,([]:de),aj,nxt)|none=>none)=_;split at h
   .rename_i hl;obtain⟨_,_,h3,_⟩:=(by simpa using h:_/\_/\_=aj/\_)
    subst h3;rw[tV hl ha];exact h
   .simp at h
 |mapEntry ka ks va z=>
  match vs,h with
  |[some (.c m),some k],h=>
   change (match iN ka ks va z m k H with|some (v,u,aj)=>some (v,u,aj,nxt)|none=>none)=_ at h;show(match iN ka ks va z m k H' with|some (v,u,aj)=>some (v,u,aj,nxt)|none=>none)=_;split at h
   .rename_i hl;obtain⟨_,_,h3,_⟩:=(by simpa using h:_/\_/\_=aj/\_)
    subst h3;rw[we hl ha];exact h
   .simp at h
 |entryStore va n=>
  match vs,h with
  |[some (.c m),s,some x],h=>
   change (match iO va n m s x H with|some (u,aj)=>some (TV.fm [],u,aj,nxt)|none=>none)=_ at h;show(match iO va n m s x H' with|some (u,aj)=>some (TV.fm [],u,aj,nxt)|none=>none)=_;split at h
   .rename_i hl;obtain⟨_,_,h3,_⟩:=(by simpa using h:_/\_/\_=aj/\_)
    subst h3;rw[ue hl ha];exact h
   .simp at h
 |_=>rw[OC (H:=H') (H':=H) rfl];exact h
end
end Go.Ev
