/- Calls: what a callee's answer means, and that a caller may use it. Conditions: the relation of XEvC. -/
import Derived.Test.YtjjajcecekocdaaGreatEvLa
open Array renaming getD_eq_getD_getElem?->bN,getElem?_setIfInBounds->abK,getElem?_toList->bc,range->kK
open Bool renaming and_eq_true->ak,false_eq_true->aH
open Go renaming Call->n_
open List renaming all_cons->gp,all_eq_true->a_,append_assoc->aR,cons_append->aU,getElem?_append_left->bH,getElem?_append_right->bL,getElem?_cons_succ->dw,getElem?_cons_zero->cn,getElem?_eq_getElem->aC,getElem?_eq_some_iff->ap,getElem?_map->aQ,getElem?_toArray->cf,getElem_mem->jm,length_map->aM,map_cons->aq,map_nil->aW,map_toArray->dK,mem_append->ao,mem_append_left->aI,mem_append_right->aG,mem_cons->aN,mem_cons_of_mem->aF,mem_flatMap->jl,mem_flatten->eP,mem_map->bB,mem_of_getElem?->bp,mem_singleton->au,nodup_append->cD,nodup_cons->fR,range->fB,singleton_append->bd
open List.cons renaming injEq->eh
open Nat renaming le_refl->am,le_trans->e_,lt_of_lt_of_le->dD,succ_pos->dv
open Option renaming bind_some->ah,getD_some->bF,isSome_iff_exists->fq,map_eq_some_iff->aP,map_none->gr,map_some->bK
open Option.some renaming inj->aa,injEq->bM
open Prod.mk renaming inj->af,injEq->cF
namespace Go.Ev
def RA(S:Nat->Prop)(w:World):A->Value->List Nat->Prop
 |.d x,v,fp=>RD S w x v/\fp=[]
 |.agg xs,v,fp=>∃aK,v=.agg aK/\xs.length=aK.size/\(∀(i:Nat)(x:D),xs[i]?=some x->RD S w x (aK.getD i undef))/\fp=[]
 |.mt t,v,fp=>RT S w t v fp
def Ny(S:Nat->Prop)(w:World):List A->List Value->List Nat->Prop
 |[],[],fp=>fp=[]
 |a::as,v::vs,fp=>∃f1 f2,fp=f1++f2/\RA S w a v f1/\Ny S w as vs f2
 |_,_,_=>False
def RR(S:Nat->Prop)(w:World):R->Value->List Nat->Prop
 |.c t,v,fp=>RT S w t v fp
 |.agg ts,v,fp=>∃(aK:Array Value)(fps:List (List Nat)),v=.agg aK/\ts.length=aK.size/\fps.length=ts.length/\fps.flatten=fp/\∀(i:Nat)(t:T)(f:List Nat),ts[i]?=some t->fps[i]?=some f->RT S w t (aK.getD i undef) f
def E8(S:Nat->Prop)(w:World):List R->List Value->List Nat->Prop
 |[],[],fp=>fp=[]
 |r::rs,v::vs,fp=>∃f1 f2,fp=f1++f2/\RR S w r v f1/\E8 S w rs vs f2
 |_,_,_=>False
def No(S:Nat->Prop)(w:World):List T->List Value->List Nat->Prop
 |[],[],fp=>fp=[]
 |t::ts,v::vs,fp=>∃f1 f2,fp=f1++f2/\((t=.eH/\f1=[])\/RT S w t v f1)/\No S w ts vs f2
 |_,_,_=>False
def nH:List A->List Value->List Value
 |.mt _::as,v::vs=>v::nH as vs
 |_::as,_::vs=>nH as vs
 |_,_=>[]
def yZ:List Value->Value
 |[v]=>v
 |vs=>.tuple vs.toArray
def Tb(P:Program)(f:FuncId)(args:Array Value)(w:World)(R:Value->World->Prop):Prop:=
 (∃g as,(callFunc f args).run P w=.ok (.enter g as) w/\Calls P g as w fun e w'=>∃v,e=.returned v/\R v w')\/
 (∃v,(callFunc f args).run P w=.ok (.value v) w/\R v w)
def Left(S:Nat->Prop)(w:World)(fp:List Nat)(rs:List R)(outs:List T)(lent:List Value)(v:Value)(w':World):Prop:=
 ∃(S':Nat->Prop)(kW:List Value)(fp1 fp2:List Nat),v=yZ kW/\gZ S w S' w'/\(∀b,S' b->S b\/b∈fp\/w.heap.size<=b)/\(∀b,S' b->b<w'.heap.size)/\
  E8 S' w' rs kW fp1/\No S' w' outs lent fp2/\(fp1++fp2).Nodup/\(∀b∈fp1++fp2,¬S' b/\(b∈fp\/w.heap.size<=b))/\Ie (fun b=>b<w.heap.size/\b∉fp) w w'
def yf(P:Program)(f:FuncId)(as:List A)(rs:List R)(outs:List T):Prop:=
 ∀(S:Nat->Prop)(w:World)(vs:List Value)(fp:List Nat),(∀b,S b->b<w.heap.size)->Ny S w as vs fp->fp.Nodup->(∀b∈fp,¬S b)->CW S w->
  Tb P f vs.toArray w (Left S w fp rs outs (nH as vs))
def kE(P:Program)(call:Call):Prop:=∀f as rs outs,call f as=some (rs,outs)->yf P f as rs outs
theorem Ny.AS{S S':Nat->Prop}{w:World}(hs:gZ S w S' w){as:List A}:∀{vs:List Value}{fp:List Nat},Ny S w as vs fp->Ny S' w as vs fp:=by
 induction as with
 |nil=>intro vs fp h;cases vs<;>exact h
 |cons x as ih=>
  intro vs fp h;cases vs with
  |nil=>exact h
  |cons v vs=>obtain⟨f1,f2,h1,h2,h3⟩:=h;refine⟨f1,f2,h1,?_,ih h3⟩;cases x with|d y=>exact⟨h2.1.mono hs,h2.2⟩|agg xs=>obtain⟨aK,q1,q2,q3,q4⟩:=h2;exact⟨aK,q1,q2,fun i x hi=>(q3 i x hi).mono hs,q4⟩|mt t=>exact RT.mono hs h2 fun _ _=>rfl
section
variable{P:Program}{S K:Nat->Prop}{w0 w:World}{Kn:Nat->Prop}{φ:Nat->gV}{H:bC}{e:iL}{ρ:Operand->Value}{o:Oper}{call:Call}
 {nxt n':Nat} {v:TV} {u:eS} {az:List Nat}
inductive GZ(Kn:Nat->Prop)(φ:Nat->gV)(S:Nat->Prop)(w:World):List (C×List Nat×List Nat)->List Value->Prop
 |nil:GZ Kn φ S w [] []
 |cons {c:C} {bD rd:List Nat} {l:List (C×List Nat×List Nat)} {v:Value} {vs:List Value} (h:RC S w Kn φ c v) (hl:GZ Kn φ S w l vs):GZ Kn φ S w ((c,bD,rd)::l) (v::vs)
theorem GS{H:bC}(hI:Inv S K w0 Kn φ (aw H) w):∀(tvs:List TV)(ms:List Bool)(as:List A)(az:List Nat)(lent:List (C×List Nat×List Nat))(vs:List Value),
  gJ H tvs ms=some (as,az,lent)->tvs.length=vs.length->(∀(i:Nat)(t:TV)(v:Value),tvs[i]?=some t->vs[i]?=some v->fX S w Kn φ t v)->
  Ny (SB S w φ (aw H) az) w as vs ((lent.flatMap (·.2.1)).flatMap (iw w φ (aw H)))/\(∀i∈lent.flatMap (·.2.1),∃o,aw H i=some o/\cW o=true)/\GZ Kn φ S w lent (nH as vs):=by
 intro tvs;induction tvs with
 |nil=>
  intro ms as az lent vs h hl hr;obtain⟨rfl,rfl,rfl⟩:[]=as/\[]=az/\[]=lent:=by simpa[gJ]using h
  obtain rfl:vs=[]:=List.length_eq_zero_iff.1 hl.symm;exact⟨rfl,fun i hi=>by simp at hi,.nil⟩
 |cons t tvs ih=>
  intro ms as az lent vs h hl hr;cases vs with
  |nil=>simp at hl
  |cons v vs=>
   have h0:=hr 0 t v rfl rfl;simp only[gJ]at h;split at h
   .simp at h
   .rename_i as1 ids1 lent1 hrec;obtain⟨i1,i2,i3⟩:=ih ms.tail as1 ids1 lent1 vs hrec (by simpa using hl) (fun i t v hi hv=>hr (i+1) t v (by simpa using hi) (by simpa using hv));split at h
    .split at h
     .rename_i c;split at h
      .rename_i t0 bD rd hp;obtain⟨rfl,rfl,rfl⟩:A.mt t0::as1=as/\ids1=az/\(c,bD,rd)::lent1=lent:=by simpa using h
       cases h0 with
       |c h0=>
        obtain⟨p1,p2⟩:=(sB hI 300).1 c t0 bD rd v hp h0;refine⟨⟨bD.flatMap (iw w φ (aw H)),_,by simp,p1.mono (SB.tG _) (fun _ _=>rfl),i1⟩,fun i hi=>?_,.cons h0 i3⟩;rcases ao.1 (by simpa using hi:i∈bD++lent1.flatMap (·.2.1))with hi|hi
        .exact p2 i hi
        .exact i2 i hi
      .simp at h
     .simp at h
    .split at h
     .rename_i c;split at h
      .rename_i x i hp;obtain⟨rfl,rfl,rfl⟩:A.d x::as1=as/\i++ids1=az/\lent1=lent:=by simpa using h
       cases h0 with|c h0=>have p1:=(vc hI 300).1 c x i v hp h0;refine⟨⟨[],_,rfl,⟨p1.mono (SB.AS _ _ fun j hj=>by simp[hj]),rfl⟩,?_⟩,i2,i3⟩;exact i1.AS (SB.AS _ _ fun j hj=>by simp[hj])
      .simp at h
     .rename_i cs;split at h
      .rename_i xs i hp;obtain⟨rfl,rfl,rfl⟩:A.agg xs::as1=as/\i++ids1=az/\lent1=lent:=by simpa using h
       cases h0 with
       |@agg _ aK hlen h0=>
        obtain⟨q1,q2⟩:=pu hI cs xs i hp (fun i=>aK[i]?) (fun i c hi=>by
         have hlt:i<aK.size:=by rw[<-hlen];exact(ap.1 hi).1
         exact⟨aK.getD i undef,by simp[hlt],h0 i c hi⟩)
        refine⟨⟨[],_,rfl,⟨aK,rfl,q1.trans hlen,fun j x hj=>?_,rfl⟩,?_⟩,i2,i3⟩
        .obtain ⟨y,hy,hd⟩:=q2 j x hj;have hy':aK[j]?=some y:=hy;have e1:aK.getD j undef=y:=by simp[hy']
         rw[e1];exact hd.mono (SB.AS _ _ fun k hk=>by simp[hk])
        .exact i1.AS (SB.AS _ _ fun j hj=>by simp[hj])
      .simp at h
     .simp at h
end
section
variable{P:Program}{S K:Nat->Prop}{w0 w:World}{Kn:Nat->Prop}{φ:Nat->gV}{hf:Nat->Option Ob}{H:bC}{e:iL}{ρ:Operand->Value}{o:Oper}{call:Call}
 {nxt n':Nat} {v:TV} {u:eS} {az:List Nat}
theorem sS.PS{fa fb:List Nat}{n m:Nat}{φ1:Nat->gV}(hI:Inv S K w0 Kn φ hf w)(h:sS S K w0 w Kn φ hf fa n m u φ1)(ha:uV w φ hf fb)(hd:∀x∈fa,x∉fb):uV w φ1 (bq u hf) fb:=by
 intro j o hj hown x hx hm;by_cases hu:∃p∈u,p.1=j
 .obtain ⟨p,hp,rfl⟩:=hu;exact hd _ (h.dj p hp x hx) hm
 .have hfn:=lI fun p hp e=>hu ⟨p,hp,e⟩;have hj':=hj;simp[bq,hfn]at hj';have hk:=(hI.iM j o hj').1;rw[gN (h.tN.ez j hk) (hj.trans hj'.symm)]at hx;exact ha j o hj' hown x hx hm
theorem Ik(r:R)(nxt:Nat)(v:Value)(fp:List Nat)(hI:Inv S K w0 Kn φ hf w)(hfr:∀j,nxt<=j->j<(xx nxt r).2.2->¬Kn j)(h:RR S w r v fp)(hn:fp.Nodup)(hSK:∀b∈fp,¬S b/\¬K b)(ha:uV w φ hf fp):
  ∃φ',sS S K w0 w Kn φ hf fp nxt (xx nxt r).2.2 (xx nxt r).2.1 φ'/\fX S w (o4 Kn nxt (xx nxt r).2.2) φ' (xx nxt r).1 v:=by
 cases r with|c t=>obtain⟨φ',h1,h2⟩:=wD t nxt v fp hI hfr h hn hSK ha;exact⟨φ',h1,.c h2⟩|agg ts=>obtain⟨aK,fps,rfl,h1,h2,rfl,h3⟩:=h;obtain⟨φ',h4,h5,h6⟩:=ui ts nxt _ fps hI hfr h2 h3 hn hSK ha;exact⟨φ',h4,.agg (h5.trans h1) h6⟩
theorem QT(r:R)(nxt:Nat):nxt<=(xx nxt r).2.2:=by cases r with|c t=>exact Kp t nxt|agg ts=>exact wC ts nxt
theorem oh(nxt:Nat)(r:R)(rs:List R):il nxt (r::rs)=((xx nxt r).1::(il (xx nxt r).2.2 rs).1,(xx nxt r).2.1++(il (xx nxt r).2.2 rs).2.1,(il (xx nxt r).2.2 rs).2.2):=rfl
theorem G4:∀(rs:List R)(nxt:Nat),nxt<=(il nxt rs).2.2:=by intro rs;induction rs with|nil=>intro nxt;exact am _|cons r rs ih=>grind [oh,e_,QT]
theorem Fp:∀(rs:List R){Kn:Nat->Prop}{φ:Nat->gV}{hf:Nat->Option Ob}(nxt:Nat)(vs:List Value)(fp:List Nat),Inv S K w0 Kn φ hf w->(∀j,nxt<=j->j<(il nxt rs).2.2->¬Kn j)->E8 S w rs vs fp->fp.Nodup->
  (∀b∈fp,¬S b/\¬K b)->uV w φ hf fp->
  ∃φ',sS S K w0 w Kn φ hf fp nxt (il nxt rs).2.2 (il nxt rs).2.1 φ'/\(il nxt rs).1.length=vs.length/\
   ∀(i:Nat)(t:TV)(v:Value),(il nxt rs).1[i]?=some t->vs[i]?=some v->fX S w (o4 Kn nxt (il nxt rs).2.2) φ' t v:=by
 intro rs;induction rs with
 |nil=>intro Kn φ hf nxt vs fp hI hfr h hn hSK ha;cases vs with|cons v vs=>exact h.elim|nil=>exact⟨φ,sS.nil hI _ _,rfl,fun i t v hi=>by simp[il]at hi⟩
 |cons r rs ih=>
  intro Kn φ hf nxt vs fp hI hfr h hn hSK ha;cases vs with
  |nil=>exact h.elim
  |cons v vs=>
   obtain⟨f1,f2,rfl,h1,h2⟩:=h;rw[cD]at hn;obtain⟨hn1,hn2,hn3⟩:=hn;simp at hSK;obtain⟨φ1,hL1,hr1⟩:=Ik r nxt v f1 hI (fun j hj hj2=>hfr j hj (by exact dD hj2 (G4 rs _))) h1 hn1 (fun b hb=>hSK b (.inl hb)) (fun j o hj hown x hx hm=>ha j o hj hown x hx (by simp[hm]))
   obtain⟨φ2,hL2,hlen,hr2⟩:=ih (xx nxt r).2.2 vs f2 hL1.inv (fun j hj hj2 hk=>by
    rcases hk with hk|hk
    .have:=hL1.le;exact hfr j (by omega) (by exact hj2) hk
    .omega) h2 hn2 (fun b hb=>hSK b (.inr hb)) (hL1.PS hI (fun j o hj hown x hx hm=>ha j o hj hown x hx (by simp[hm])) fun x hx hx2=>hn3 x hx x hx2 rfl)
   have hcomp:=hL1.qk hL2;have hcm:bq _ hf=bq _ hf:=m7 fun p hp q hq e=>by have h1:=hL2.gx p hp;have h2:=hL1.gx q hq;omega
   have hsub:∀i,o4 _ (xx nxt r).2.2 (il (xx nxt r).2.2 rs).2.2 i->o4 Kn nxt (il (xx nxt r).2.2 rs).2.2 i:=fun i=>(sF hL1.le hL2.le i).1;refine⟨φ2,?_,by simp[oh,hlen],fun i t v' hi hv=>?_⟩
   .have hsw:∀{p:Nat×Option Ob}{a b:eS},p∈a++b->p∈b++a:=fun hp=>ao.2 (ao.1 hp).symm;exact⟨hcomp.le,hcomp.tN,hcm▸hcomp.inv,fun p hp=>hcomp.gx p (hsw hp),fun p hp x hx=>hcomp.dj p (hsw hp) x (hcm.symm▸hx)⟩
   .cases i with
    |zero=>
     obtain rfl:(xx nxt r).1=t:=by simpa[oh]using hi
     obtain rfl:v=v':=by simpa using hv
     exact(hr1.mono (gZ.refl _ _) hL2.tN).kn hsub
    |succ i=>exact(hr2 i t v' (by simpa) (by simpa using hv)).kn hsub
theorem Inv.put(h:Inv S K w0 Kn φ hf w){i:Nat}(hi:Kn i)(o:Ob)(hfree:cW o=true->∀j b,hf j=some b->cW b=true->j≠i->(φ i).dj∉iw w φ hf j)
  (hro:RO S K w Kn φ (φ i) o)
  (hp:∀sz sl k x,o=.nst sz sl->sW w (φ i) sl k x->x≠(φ i).dj/\(∀j b,hf j=some b->cW b=true->j≠i->x∉iw w φ hf j)/\∀k',sW w (φ i) sl k' x->k'=k:=by intro _ _ _ _ e;cases e):
  Inv S K w0 Kn φ (bq [(i,some o)] hf) w:=by
 have hold:∀j b,bq [(i,some o)] hf j=some b->(j=i/\b=o)\/(j≠i/\hf j=some b):=by
  intro j b hj;rw[cg]at hj;by_cases e:i=j
  .simp_all
  .rw [if_neg e,fY]at hj;exact .inr ⟨fun q=>e q.symm,hj⟩
 refine h.vN (gZ.refl _ _) (Ren.refl _ _) h.vJ h.sk h.od ?_ ?_ ?_
 .intro id o' ho;rcases hold id o' ho with⟨rfl,rfl⟩|⟨_,ho'⟩
  .exact .inr ⟨hi,hro⟩
  .exact .inl ⟨ho',fun hown=>⟨rfl,((h.iM id o' ho').2.bD hown).1⟩,h.Cd ho' fun _ _=>rfl⟩
 .intro a b oa ob ha hb hoa hob hne;rcases hold a oa ha with⟨e1,e2⟩|⟨n1,ha'⟩<;>rcases hold b ob hb with⟨e3,e4⟩|⟨n2,hb'⟩
  .exact absurd (e1.trans e3.symm) hne
  .grind [eG]
  .grind [eG]
  .exact h.o9 a b oa ob ha' hb' hoa hob hne
 .intro a sz sl k x ha hpa;rcases hold a _ ha with⟨ea,eo⟩|⟨na,ha'⟩
  .rw [ea]at hpa;obtain⟨p1,p2,p3⟩:=hp sz sl k x eo.symm hpa;refine⟨fun j b hj hown=>?_,fun j sz' sl' k' hj hpj=>?_⟩
   .grind [eG]
   .rcases hold j _ hj with⟨ej,eo2⟩|⟨nj,hj'⟩
    .grind
    .exact absurd (eG.2 (.inr ⟨sz',sl',k',hj',hpj⟩)) (p2 j _ hj' rfl nj)
  .obtain ⟨p1,p2⟩:=h.xC a sz sl k x ha' hpa;refine⟨fun j b hj hown=>?_,fun j sz' sl' k' hj hpj=>?_⟩
   .rcases hold j b hj with⟨ej,eo⟩|⟨_,hj'⟩
    .rw [ej];exact fun e=>hfree (eo▸hown) a _ ha' rfl na (eG.2 (.inr ⟨sz,sl,k,ha',e▸hpa⟩))
    .exact p1 j b hj' hown
   .rcases hold j _ hj with⟨ej,eo⟩|⟨_,hj'⟩
    .rw [ej]at hpj;exact absurd (eG.2 (.inr ⟨sz,sl,k,ha',hpa⟩)) ((hp sz' sl' k' x eo.symm hpj).2.1 a _ ha' rfl na)
    .exact p2 j sz' sl' k' hj' hpj
structure VY(S K:Nat->Prop)(w0 w:World)(Kn:Nat->Prop)(φ:Nat->gV)(hf:Nat->Option Ob)(fp:List Nat)(owns:List Nat)(nxt m:Nat)(u:eS)(φ':Nat->gV):Prop where
 le:nxt<=m
 tN:Ren Kn φ (o4 Kn nxt m) φ'
 inv:Inv S K w0 (o4 Kn nxt m) φ' (bq u hf) w
 D_:∀p∈u,p.1∈owns\/(nxt<=p.1/\p.1<m)
 AB:∀i∈owns,(cm u i).isSome=true
 dj:∀i o,bq u hf i=some o->cW o=true->(i∈owns\/(nxt<=i/\i<m))->∀x∈iw w φ' (bq u hf) i,x∈fp
def kq(l:List (C×List Nat×List Nat)):List Nat:=l.flatMap (·.2.1)
theorem rO(bD:List Nat)(j:Nat):cm (bD.map fun i=>((i,none):Nat×Option Ob)) j=if j∈bD then some none else none:=by induction bD with|nil=>rfl|cons a l ih=>grind [cm]
theorem RC.Rj{id off:Nat}{v:Value}(h:RC S w Kn φ (.op id off) v):v=.pointer (some ⟨(φ id).dj,(φ id).aJ+off,none⟩)/\Kn id:=by cases h with|op hk=>exact⟨rfl,hk⟩
theorem pk.Ko{w:World}{b:Nat}{a a':Array Value}(h:pk w b a)(h':pk w b a'):a=a':=by obtain⟨t,h⟩:=h;obtain⟨t',h'⟩:=h';rw[h]at h';simp at h';exact h'.1
theorem sH{α:Type}{u:List (Nat×α)}{id:Nat}{x:α}(h:cm u id=some x):∃p∈u,p.1=id:=by
 induction u with
 |nil=>simp[cm]at h
 |cons p r ih=>
  obtain⟨i,y⟩:=p;by_cases e:i=id
  .exact ⟨(i,y),by simp,e⟩
  .have e2:(i==id)=false:=by simpa using e
   simp_all[cm]
theorem Bj:∀(l:List (C×List Nat×List Nat))(outs:List T)(nxt:Nat)(bu:eS)(m:Nat),eF nxt l outs=some (bu,m)->nxt<=m:=by
 intro l;induction l with
 |nil=>
  intro outs nxt bu m h;cases outs with
  |nil=>obtain⟨_,rfl⟩:[]=bu/\nxt=m:=by simpa[eF]using h
        exact am _
  |cons t ts=>simp[eF]at h
 |cons p l ih=>
  intro outs nxt bu m h;cases outs with
  |nil=>unfold eF at h;simp at h
  |cons t outs=>
   unfold eF at h;split at h
   .simp at*
   .grind
   .rename_i heq1 heq2;obtain⟨_,rfl⟩:=heq1;split at h
    .rename_i w2 k hrec;split at h
     .obtain ⟨_,rfl⟩:=af (aa h);exact e_ (wC _ _) (ih _ _ _ _ hrec)
     .simp at h
    .simp at h
   .grind
   .grind
   .grind
   .simp at h
theorem D7{H0:bC}{S0 K0:Nat->Prop}{wp wz:World}{Kn0:Nat->Prop}{φ0:Nat->gV}(hI0:Inv S0 K0 wz Kn0 φ0 (aw H0) wp){id len:Nat}
  (hw:(match aw H0 id with|some (.aK _ rows)=>(0==0)&&len==rows.length|some (.nst _ slots)=>(0==0)&&len==slots.length|_=>false)=true):
  ∃aK,pk wp (φ0 id).dj aK/\aK.size=(φ0 id).ext/\(φ0 id).aJ+len*(φ0 id).sz<=(φ0 id).ext/\len<=(φ0 id).cap:=by
 split at hw
 .rename_i sz rows ho;obtain⟨_,h0⟩:=hI0.iM _ _ ho;cases h0 with|aK hsz hl hS hK hown hext hfit hr hv=>grind
 .rename_i sz slots ho;obtain⟨_,h0⟩:=hI0.iM _ _ ho;cases h0 with|nst hsz hl hS hK hown hext hfit hr hv=>grind
 .cases hw
theorem GR{H0:bC}{S0:Nat->Prop}{wp:World}{Kn0:Nat->Prop}{φ0:Nat->gV}{K0:Nat->Prop}{wz:World}(hI0:Inv S0 K0 wz Kn0 φ0 (aw H0) wp)(hgrow:∀b aK,pk wp b aK->∃arr',pk w b arr'/\arr'.size=aK.size):
  ∀(l:List (C×List Nat×List Nat))(vs:List Value)(outs:List T)(fp:List Nat){Kn:Nat->Prop}{φ:Nat->gV}{hf:Nat->Option Ob}(nxt:Nat)(bu:eS)(m:Nat),
  GZ Kn0 φ0 S0 wp l vs->eY H0 l=true->No S w outs vs fp->Inv S K w0 Kn φ hf w->(∀j,nxt<=j->j<m->¬Kn j)->Ren Kn0 φ0 Kn φ->fp.Nodup->(∀b∈fp,¬S b/\¬K b)->uV w φ hf fp->
  (∀i∈kq l,hf i=none/\Kn0 i)->(kq l).Nodup->eF nxt l outs=some (bu,m)->∃φ',VY S K w0 w Kn φ hf fp (kq l) nxt m bu φ':=by
 intro l;induction l with
 |nil=>
  intro vs outs fp Kn φ hf nxt bu m hl hw hr hI hfr hren hn hSK ha hown hon h;cases hl;cases outs with
  |cons t ts=>exact hr.elim
  |nil=>
   obtain⟨rfl,rfl⟩:[]=bu/\nxt=m:=by simpa[eF]using h
   exact⟨φ,am _,qz _ _,hI.kn fun _ hi=>.inl hi,fun p hp=>by simp at hp,fun i hi=>by simp[kq]at hi,fun i o _ _ hx=>by
    grind [kq]⟩
 |cons p l ih=>
  obtain⟨c,bD,rd⟩:=p;intro vs outs fp Kn φ hf nxt bu m hl hw hr hI hfr hren hn hSK ha hown hon h;cases hl with
  |@cons _ _ _ _ v vs hc hl=>
  cases outs with
  |nil=>exact hr.elim
  |cons t outs=>
   obtain⟨f1,f2,rfl,hr1,hr2⟩:=hr;rw[cD]at hn;obtain⟨hn1,hn2,hn3⟩:=hn;simp only[ao]at hSK;have ha1:uV w φ hf f1:=fun j o hj hown x hx hm=>ha j o hj hown x hx (by simp[hm]);have ha2:uV w φ hf f2:=fun j o hj hown x hx hm=>ha j o hj hown x hx (by simp[hm]);have ho1:∀i∈bD,hf i=none/\Kn0 i:=fun i hi=>hown i (by simp[kq,hi]);have ho2:∀i∈kq l,hf i=none/\Kn0 i:=fun i hi=>hown i (by grind [kq]);have hoc:kq ((c,bD,rd)::l)=bD++kq l:=rfl;rw[hoc,cD]at hon;obtain⟨hon1,hon2,hon3⟩:=hon;have hw2:eY H0 l=true:=by cases c<;>simp only[eY,ak]at hw<;>first|exact hw|exact hw.2
   have fin:∀(id:Nat)(ob:Ob)(w2:eS)(k:Nat),bD=[id]->(bu,m)=((id,some ob)::w2,k)->eF nxt l outs=some (w2,k)->Inv S K w0 Kn φ (bq [(id,some ob)] hf) w->(∀x∈iw w φ (bq [(id,some ob)] hf) id,x∈f1)->
     ∃φ',VY S K w0 w Kn φ hf (f1++f2) (kq ((c,bD,rd)::l)) nxt m bu φ':=by
    intro id ob w2 k hownid hbm hrec hput hblk;subst hownid;obtain⟨rfl,rfl⟩:=af hbm;obtain⟨hidn,hidk0⟩:=ho1 id (by simp);have hidk:=hren.sub id hidk0;have hφ:=hren.ez id hidk0;have hidlt:¬(nxt<=id/\id<m):=fun h=>hfr id h.1 h.2 hidk
    obtain⟨φ2,hB⟩:=ih vs outs f2 nxt w2 m hl hw2 hr2 hput hfr hren hn2 (fun b hb=>hSK b (.inr hb))
     (fun j o hj hown x hx hm=>by
      have hj':=hj;rw[cg]at hj';split at hj'
      .grind
      .rw [gN rfl (hj.trans hj'.symm)]at hx;exact ha2 j o hj' hown x hx hm)
     (fun i hi=>by obtain⟨h1,h2⟩:=ho2 i hi;refine⟨?_,h2⟩;have hne:¬id=i:=fun e=>hon3 id (by simp) i hi e;rw[cg,if_neg hne];exact h1) hon2 hrec
    have hkeys:=hB.D_;have hm2:=hB.le
    have hdis:∀q∈w2,id≠q.1:=fun q hq e=>by
     grind
    have heq:bq ((id,some ob)::w2) hf=bq w2 (bq [(id,some ob)] hf):=by
     rw[<-ei]
     grind [m7,au]
    refine⟨φ2,hB.le,hB.tN,heq▸hB.inv,fun p hp=>?_,fun i hi=>?_,fun i o hio hownio hi=>?_⟩
    .rw [hoc];rcases aN.1 hp with rfl|hp
     .exact .inl (by simp)
     .rcases hkeys p hp with h|h
      .exact .inl (by simp[h])
      .exact .inr h
    .rw [hoc]at hi;simp only[cm];by_cases e:id=i
     .simp [e]
     .have e':(id==i)=false:=by simpa using e
      simp only[e',cond_false];rcases ao.1 hi with hi|hi
      .grind
      .exact hB.AB i hi
    .rw [heq]at hio|-;intro x hx;by_cases hrest:i∈kq l\/(nxt<=i/\i<m)
     .exact aG _ (hB.dj i o hio hownio hrest x hx)
     .have hi2:i=id:=by
       grind
      subst hi2;have hwn:cm w2 i=none:=lI fun q hq e=>hdis q hq e.symm
      have hwi:bq w2 (bq [(i,some ob)] hf) i=bq [(i,some ob)] hf i:=by
       conv=>lhs;unfold bq
       rw[hwn];rfl
      rw[gN (hB.tN.ez i hidk) hwi]at hx
      grind
   unfold eF at h;split at h
   .simp at*
   .--nothing was owned
    rename_i heq1 heq2;simp only[eh,cF]at heq1 heq2;obtain⟨⟨rfl,rfl,rfl⟩,rfl⟩:=heq1;obtain⟨rfl,rfl⟩:=heq2;have hr1:=hr1.resolve_left fun h=>by cases h.1
    have e0:f1=[]:=by cases hr1;rfl
    subst e0;obtain⟨φ',hB⟩:=ih vs outs f2 nxt bu m hl hw2 hr2 hI hfr hren hn2 (fun b hb=>hSK b (.inr hb)) ha2 ho2 hon2 h
    grind
   .--a box
    rename_i id own' rd' r ts' ts heq1 heq2;simp only[eh,cF]at heq1 heq2;obtain⟨⟨rfl,rfl,rfl⟩,rfl⟩:=heq1;obtain⟨rfl,rfl⟩:=heq2;split at h
    .rename_i w2 k hrec;split at h
     .rename_i hcon;obtain⟨rfl,rfl⟩:(id,some (Ob.box (ja nxt ts').1))::(ja nxt ts').2.1++bD.map (fun i=>((i,none):Nat×Option Ob))++w2=bu/\k=m:=by simpa using h
      have hid:id∈bD:=by simpa using hcon
      obtain⟨hidn,hidk0⟩:=ho1 id hid;have hidk:=hren.sub id hidk0;have hφ:=hren.ez id hidk0;obtain⟨hv,_⟩:=hc.Rj;have hr1:=hr1.resolve_left fun h=>by cases h.1
      cases hr1 with
      |@pt _ b aK fps hown0 hlen hfl hrec2=>
      simp only[Value.pointer.injEq,bM,Addr.mk.injEq]at hv;obtain⟨hb,hbase,_⟩:=hv;rw[<-hφ]at hb hbase;have hbase0:(φ id).aJ=0:=by omega
      rw[fR]at hn1;have hmk:=Bj _ _ _ _ _ hrec;have hidlt:¬(nxt<=id/\id<k):=fun h=>hfr id h.1 h.2 hidk
      obtain⟨φ1,hL,hcl,hcr⟩:=ui ts' nxt (fun i=>aK.getD i undef) fps hI (fun j hj hj2=>hfr j hj (by omega)) hfl hrec2 hn1.2 (fun b' hb'=>hSK b' (.inl (aF _ hb')))
       (fun j o hj hown x hx hm=>ha1 j o hj hown x hx (aF _ hm))
      have hm1:=hL.le;have hφ1:φ1 id=φ id:=hL.tN.ez id hidk;have hul:cm (ja nxt ts').2.1 id=none:=lI fun p hp e=>by have:=hL.gx p hp;omega
      have hdead:bq (ja nxt ts').2.1 hf id=none:=by simp only[bq,hul,hidn]
      have hawb:uV w φ1 (bq (ja nxt ts').2.1 hf) [b]:=hL.PS hI (fun j o hj hown x hx hm=>ha1 j o hj hown x hx (by rw[au.1 hm];simp)) fun x hx hx2=>hn1.1 (by rw[<-au.1 hx2];exact hx)
      have hput:=hL.inv.put (i:=id) (.inl hidk) (.box (ja nxt ts').1) (fun _ j o hj hown hne hm=>by rw[hφ1,<-hb]at hm;exact hawb j o hj hown b hm (by simp))
       (.box (by rw[hφ1];exact hbase0) (by rw[hφ1,<-hb];exact(hSK b (.inl (by simp))).1) (by rw[hφ1,<-hb];exact(hSK b (.inl (by simp))).2) (by rw[hφ1,<-hb];exact hown0) (hcl.trans hlen) hcr)
      have hav2:uV w φ1 (bq (ja nxt ts').2.1 hf) f2:=hL.PS hI ha2 fun x hx hx2=>hn3 x (aF _ hx) x hx2 rfl;have hult:∀i,¬(nxt<=i/\i<k)->cm (ja nxt ts').2.1 i=none:=fun i hi=>lI fun p hp e=>by have:=hL.gx p hp;omega
      have hownlt:∀i,Kn0 i->¬(nxt<=i/\i<k):=fun i hi h=>hfr i h.1 h.2 (hren.sub i hi);rw[<-ei]at hput
      obtain⟨φ2,hB⟩:=ih vs outs f2 (ja nxt ts').2.2 w2 k hl hw2 hr2 hput (fun j hj hj2 hk=>by
        rcases hk with hk|hk
        .exact hfr j (by omega) hj2 hk
        .omega) ⟨fun i hi=>.inl (hren.sub i hi),fun i hi=>(hL.tN.ez i (hren.sub i hi)).trans (hren.ez i hi)⟩ hn2 (fun b hb=>hSK b (.inr hb))
       (fun j o hj hown x hx hm=>by
        have hj':=hj;rw[bd,cg]at hj';split at hj'
        .rename_i e;subst e;rw[nQ (fun _ _ e=>by grind),hφ1,<-hb]at hx;rw[au.1 hx]at hm;exact hn3 b (by simp) b hm rfl
        .rw [gN rfl (hj.trans hj'.symm)]at hx;exact hav2 j o hj' hown x hx hm)
       (fun i hi=>by obtain⟨h1,h2⟩:=ho2 i hi;refine⟨?_,h2⟩;have hne:¬id=i:=fun e=>hon3 id hid i hi e;rw[bd,cg,if_neg hne];simp only[bq,hult i (hownlt i h2),h1]) hon2 hrec
      have hkeys:=hB.D_;have hm2:=hB.le
      have hdis:∀j x,cm w2 j=some x->j≠id/\j∉bD/\cm (ja nxt ts').2.1 j=none:=by
       intro j x hx;obtain⟨p,hp,rfl⟩:=sH hx;rcases hkeys p hp with h|h
       .exact ⟨fun e=>hon3 id hid p.1 h e.symm,fun e=>hon3 p.1 e p.1 h rfl,hult _ (hownlt _ (ho2 _ h).2)⟩
       .refine ⟨fun e=>by omega,fun e=>by have:=hownlt _ (ho1 _ e).2;omega,lI fun q hq e=>?_⟩;have:=hL.gx q hq;omega
      have heq:bq ((id,some (Ob.box (ja nxt ts').1))::(ja nxt ts').2.1++bD.map (fun i=>((i,none):Nat×Option Ob))++w2) hf=bq w2 (bq ([(id,some (Ob.box (ja nxt ts').1))]++(ja nxt ts').2.1) hf):=by
       have hno:bq (bD.map (fun i=>((i,none):Nat×Option Ob))) (bq w2 hf)=bq w2 hf:=by
        funext j
        conv=>lhs;unfold bq
        rw[rO];by_cases hjo:j∈bD
        .rw [if_pos hjo];have hwj:cm w2 j=none:=by cases hx:cm w2 j with|none=>rfl|some x=>exact absurd hjo (hdis j x hx).2.1
         simp only[bq,hwj,(ho1 j hjo).1]
        .rw [if_neg hjo];rfl
       rw[ei,ei,hno,<-ei,<-ei];refine m7 fun p hp q hq e=>?_;rcases hkeys q hq with h|h
       .rcases aN.1 hp with rfl|hp
        .exact hon3 id hid q.1 h e
        .have:=hL.gx p hp;have:=hownlt _ (ho2 _ h).2;omega
       .rcases aN.1 hp with rfl|hp
        .simp only at e;omega
        .have:=hL.gx p hp;omega
      refine⟨φ2,by omega,⟨fun i h=>.inl h,fun i h=>(hB.tN.ez i (.inl h)).trans (hL.tN.ez i h)⟩,?_,fun p hp=>?_,fun i hi=>?_,fun i o hio hownio hi=>?_⟩
      .rw [heq];exact hB.inv.wd fun i=>sF hm1 hm2 i
      .rw [hoc];simp only[aU,aR,aN,ao,bB]at hp;rcases hp with rfl|hp|⟨i,hi,rfl⟩|hp
       .exact .inl (by simp[hid])
       .have:=hL.gx p hp;exact .inr (by omega)
       .exact .inl (by simp[hi])
       .rcases hkeys p hp with h|h
        .exact .inl (by simp[h])
        .exact .inr (by omega)
      .rw [hoc]at hi;simp only[aU,aR,cm,ic,rO];rcases ao.1 hi with hi|hi
       .by_cases e:id=i
        .simp [e]
        .have e':(id==i)=false:=by simpa using e
         simp only[e',cond_false,if_pos hi];cases cm (ja nxt ts').2.1 i<;>rfl
       .have hs:=hB.AB i hi;obtain⟨x,hx⟩:=fq.1 hs;obtain⟨h1,h2,h3⟩:=hdis i x hx;have e':(id==i)=false:=by simpa using fun e=>h1 e.symm
        simp only[e',cond_false,h3,if_neg h2,hx,Option.isSome_some]
      .rw [heq]at hio|-;intro x hx;by_cases hrest:i∈kq l\/((ja nxt ts').2.2<=i/\i<k)
       .exact aG _ (hB.dj i o hio hownio hrest x hx)
       .refine aI _ ?_
        have hw2n:cm w2 i=none:=lI fun q hq e=>by
         grind
        have hi2:i∈bD\/(nxt<=i/\i<(ja nxt ts').2.2):=by
         grind
        have hkn:o4 Kn nxt (ja nxt ts').2.2 i:=by
         rcases hi2 with h|h
         .exact .inl (hren.sub i (ho1 i h).2)
         .exact .inr h
        have hwi:bq w2 (bq ([(id,some (Ob.box (ja nxt ts').1))]++(ja nxt ts').2.1) hf) i=bq ([(id,some (Ob.box (ja nxt ts').1))]++(ja nxt ts').2.1) hf i:=by
         conv=>lhs;unfold bq
         rw[hw2n];rfl
        rw[gN (hB.tN.ez i hkn) hwi]at hx;by_cases e:id=i
        .subst e;rw[nQ (fun _ _ e=>by rw[bd,cg,if_pos rfl]at e;cases e),hφ1,<-hb]at hx;rw[au.1 hx];simp
        .rcases hi2 with h|h
         .exfalso
          have h1:bq w2 (bq ([(id,some (Ob.box (ja nxt ts').1))]++(ja nxt ts').2.1) hf) i=hf i:=by
           simp only[bq,hw2n,bd,cm];have e':(id==i)=false:=by simpa using e
           simp only[e',cond_false,hult i (hownlt i (ho1 i h).2)]
          rw[h1,(ho1 i h).1]at hio;simp at hio
         .have e':(id==i)=false:=by simpa using e
          cases hfu:cm (ja nxt ts').2.1 i with
          |none=>
           exfalso;have h1:bq w2 (bq ([(id,some (Ob.box (ja nxt ts').1))]++(ja nxt ts').2.1) hf) i=hf i:=by simp only[bq,hw2n,bd,cm,e',cond_false,hfu]
           rw[h1]at hio;exact hfr i h.1 (by omega) (hI.iM i o hio).1
          |some x'=>
           obtain⟨p,hp,rfl⟩:=sH hfu;have hwp:bq ([(id,some (Ob.box (ja nxt ts').1))]++(ja nxt ts').2.1) hf p.1=bq (ja nxt ts').2.1 hf p.1:=by rw[bd,cg,if_neg e]
           rw[gN rfl hwp]at hx;exact aF _ (hL.dj p hp x hx)
     .simp at h
    .simp at h
   .--an array
    rename_i sz id len own' rd' r sz' rows ts heq1 heq2;simp only[eh,cF]at heq1 heq2;obtain⟨⟨rfl,rfl,rfl⟩,rfl⟩:=heq1;obtain⟨rfl,rfl⟩:=heq2;split at h
    .rename_i hcond;obtain⟨hrl,hszz,hownid⟩:=hcond;subst hownid;split at h
     .rename_i w2 k hrec;obtain⟨rfl,rfl⟩:(id,some (Ob.aK sz rows))::w2=bu/\k=m:=by simpa using h
      obtain⟨hidn,hidk0⟩:=ho1 id (by simp);have hφ:=hren.ez id hidk0;obtain⟨cap,addr,hv,hszl,hk0,hcap,haddr,hextc,hcl⟩:=hc.j_;have hr1:=hr1.resolve_left fun h=>by cases h.1
      cases hr1 with
      |@sl _ _ b off len1 cap1 aK hsz0 hown0 hlen1 hcap1 hext1 hrr=>
      simp only[Value.slice.injEq,bM,Addr.mk.injEq]at hv;obtain⟨⟨hb,hoff,_⟩,hlen2,hcap2⟩:=hv;subst hszz;simp only[eY,ak]at hw;obtain⟨arr0,hown1,hext0,hfit0,hv0⟩:=D7 hI0 hw.1;obtain⟨arr1,hown2,hsize2⟩:=hgrow _ _ hown1;rw[hb]at hown0;obtain rfl:=hown0.Ko hown2;have hb1:=hSK (φ0 id).dj (.inl (by simp[hb]))
      refine fin id (.aK sz' rows) w2 k rfl rfl hrec (hI.put (i:=id) (hren.sub id hidk0) (.aK sz' rows) (fun _ j o hj hown hne hm=>by rw[hφ,<-hb]at hm;exact ha1 j o hj hown b hm (by simp))
       (.aK hsz0 (by rw[hφ];exact hszl) (by rw[hφ];exact hb1.1) (by rw[hφ];exact hb1.2) (by rw[hφ];exact hown2) (by rw[hφ,<-hext0];exact hsize2)
        (by rw[hφ,hrl,<-hszl];exact hfit0) (by
         rw[hφ];cases rows with
         |nil=>exact⟨fun i r hi=>by simp at hi,fun i r hi=>by simp at hi⟩
         |cons q rows=>
          have:off=(φ0 id).aJ:=by rw[hoff,haddr (by simp only[List.length_cons]at hrl;omega)];simp
          rw[<-this];exact hrr) (by rw[hφ,hrl];exact hv0))) fun x hx=>?_
      rw[nQ (fun _ _ e=>by rw[cg,if_pos rfl]at e;cases e),hφ,<-hb]at hx;exact hx
     .simp at h
    .simp at h
   .--a fy of rows
    rename_i sz id len own' rd' r szi rows ts heq1 heq2;simp only[eh,cF]at heq1 heq2;obtain⟨⟨rfl,rfl,rfl⟩,rfl⟩:=heq1;obtain⟨rfl,rfl⟩:=heq2;split at h
    .rename_i hcond;obtain⟨hrl,hszz,hownid⟩:=hcond;subst hownid;split at h
     .rename_i w2 k hrec;obtain⟨rfl,rfl⟩:(id,some (Ob.nst szi (rows.map nA)))::w2=bu/\k=m:=by simpa using h
      obtain⟨hidn,hidk0⟩:=ho1 id (by simp);have hφ:=hren.ez id hidk0;obtain⟨cap,addr,hv,hszl,hk0,hcap,haddr,hextc,hcl⟩:=hc.j_;have hr1:=hr1.resolve_left fun h=>by cases h.1
      cases hr1 with
      |@Ai _ _ b off cap1 aK fps hsz0 hown0 hcap1 hext1 hfl hrr=>
      simp only[Value.slice.injEq,bM,Addr.mk.injEq]at hv;obtain⟨⟨hb,hoff,_⟩,hlen2,hcap2⟩:=hv;subst hszz;simp only[eY,ak]at hw;obtain⟨arr0,hown1,hext0,hfit0,hv0⟩:=D7 hI0 hw.1;obtain⟨arr1,hown2,hsize2⟩:=hgrow _ _ hown1;rw[hb]at hown0;obtain rfl:=hown0.Ko hown2;rw[fR]at hn1;have hb1:=hSK b (.inl (by simp));have hbase:∀i,i<rows.length->off+i=(φ0 id).aJ+i:=fun i hi=>by rw[hoff,haddr (by omega)];simp
      have hget:∀i,w.cell? ⟨(φ id).dj,i,none⟩=aK[i]?:=by rw[hφ];exact hown2.cell
      have hpat:∀k x,sW w (φ id) (rows.map nA) k x->∃fp,fps[k]?=some fp/\fp=[x]:=by
       rintro k x ⟨rs,v,h1,h2,h3⟩;rw[aQ]at h1;obtain⟨r,hr1,hr2⟩:=aP.1 h1;have hlt:=(ap.1 hr1).1;have hf:fps[k]?=some fps[k]:=aC (by omega);obtain⟨v',q1,q2⟩:=hrr k r fps[k] hr1 hf;rw[hget,hφ,<-hbase k hlt,q1]at h2;obtain rfl:=aa h2;cases r with
       |none=>cases hr2
       |some rows'=>
        obtain⟨b',q3,q4⟩:=q2;rw[q4.dj]at h3
        grind
      have hmem:∀k x,sW w (φ id) (rows.map nA) k x->x∈fps.flatten:=fun k x hp=>by obtain⟨fp,h1,rfl⟩:=hpat k x hp;exact eP.2 ⟨[x],bp h1,by simp⟩
      have hbl:(φ id).dj=b:=by rw[hφ,<-hb]
      rw[hszl,Nat.mul_one]at hfit0
      refine fin id (.nst szi (rows.map nA)) w2 k rfl rfl hrec (hI.put (i:=id) (hren.sub id hidk0) (.nst szi (rows.map nA)) (fun _ j o hj hown hne hm=>by rw[hbl]at hm;exact ha1 j o hj hown b hm (by simp))
       (.nst hsz0 (by rw[hφ];exact hszl) (by rw[hbl];exact hb1.1) (by rw[hbl];exact hb1.2) (by rw[hφ];exact hown2) (by rw[hφ,<-hext0];exact hsize2)
        (by rw[hφ,aM,hrl];exact hfit0) (fun i s hi=>by
         rw[aQ]at hi;obtain⟨r,hr1,rfl⟩:=aP.1 hi;have hlt:=(ap.1 hr1).1;have hf:fps[i]?=some fps[i]:=aC (by omega);obtain⟨v,q1,q2⟩:=hrr i r fps[i] hr1 hf;refine⟨v,by rw[hφ,<-hbase i hlt];exact q1,?_⟩;cases r with
         |none=>obtain⟨rfl,_⟩:=q2;exact .nil
         |some rows'=>obtain⟨b',q3,q4⟩:=q2;have hm:b'∈fps.flatten:=eP.2 ⟨fps[i],jm _,by rw[q3];simp⟩;exact .bD q4 (hSK b' (.inl (aF _ hm))).1 (hSK b' (.inl (aF _ hm))).2) (by rw[hφ,aM,hrl];exact hv0))
       fun sz' sl' k x eo hp=>by cases eo;have hm:=hmem k x hp;refine⟨fun e=>hn1.1 (by rw[<-hbl,<-e];exact hm),fun j o hj hown hne hx=>ha1 j o hj hown x hx (aF _ hm),fun k' hp'=>?_⟩;obtain⟨fp,h1,rfl⟩:=hpat k x hp;obtain⟨fp',h2,rfl⟩:=hpat k' x hp';exact Es hn1.2 h2 h1) fun x hx=>?_
      rcases eG.1 hx with rfl|⟨sz',sl',k',h1,h2⟩
      .rw [hbl];simp
      .rw [cg,if_pos rfl]at h1
       grind
     .simp at h
    .simp at h
   .--it is eH
    rename_i heq1 heq2;simp only[eh,cF]at heq1 heq2;obtain⟨⟨rfl,rfl,rfl⟩,rfl⟩:=heq1;obtain⟨rfl,rfl⟩:=heq2;split at h
    .rename_i w2 k hrec;obtain⟨rfl,rfl⟩:bD.map (fun i=>((i,none):Nat×Option Ob))++w2=bu/\k=m:=by simpa using h
     have e0:f1=[]:=by
      rcases hr1 with h|h
      .exact h.2
      .cases h
     subst e0;obtain⟨φ',hB⟩:=ih vs outs f2 nxt w2 k hl hw2 hr2 hI hfr hren hn2 (fun b hb=>hSK b (.inr hb)) ha2 ho2 hon2 hrec;have hmk:=hB.le;have hkeys:=hB.D_
     have hwn:∀j∈bD,cm w2 j=none:=fun j hj=>by
      cases hx:cm w2 j with
      |none=>rfl
      |some x=>
       obtain⟨p,hp,rfl⟩:=sH hx;rcases hkeys p hp with h|h
       .exact absurd rfl (hon3 p.1 hj p.1 h)
       .exact absurd (hren.sub _ (ho1 _ hj).2) (hfr p.1 h.1 h.2)
     have heq:bq (bD.map (fun i=>((i,none):Nat×Option Ob))++w2) hf=bq w2 hf:=by
      rw[ei];funext j
      conv=>lhs;unfold bq
      rw[rO];by_cases hjo:j∈bD
      .rw [if_pos hjo];simp only[bq,hwn j hjo,(ho1 j hjo).1]
      .rw [if_neg hjo];rfl
     refine⟨φ',hB.le,hB.tN,heq▸hB.inv,fun p hp=>?_,fun i hi=>?_,fun i o hio hownio hi=>?_⟩
     .rw [hoc];rcases ao.1 hp with hp|hp
      .obtain ⟨j,hj,rfl⟩:=bB.1 hp;exact .inl (aI _ hj)
      grind [aG]
     .rw [hoc]at hi;rw[ic,rO];by_cases hjo:i∈bD
      .rw [if_pos hjo];rfl
      .rw [if_neg hjo];exact hB.AB i ((ao.1 hi).resolve_left hjo)
     .rw [heq]at hio|-;refine hB.dj i o hio hownio (hi.imp (fun h=>?_) id);rw[hoc]at h;refine(ao.1 h).resolve_left fun hjo=>?_;simp only[bq,hwn i hjo,(ho1 i hjo).1]at hio;cases hio
    .simp at h
   .simp at h
end
section
variable{P:Program}{S K:Nat->Prop}{w0 w:World}{Kn:Nat->Prop}{φ:Nat->gV}{H:bC}{ρ:Operand->Value}{o:Oper}{call:Call}
 {nxt n':Nat} {v:TV} {u:eS} {az:List Nat}
theorem sR.vw{T:Nat->Prop}{x:TV}{cs:List C}{ds:List D}{val:Value}(hr:fX S w Kn φ x val)(hc:cellsOf x=some cs)(hl:ds.length=cs.length)
  (hd:∀(i:Nat)(d:D),ds[i]?=some d->∃v,val.cells.toList[i]?=some v/\RD T w d v):sR T w (qN x) ds val:=by
 cases hr with
 |@c x v h=>
  obtain rfl:[x]=cs:=by simpa[cellsOf]using hc
  have e:=sN h.one
  match ds,hl,hd with
  |[d],_,hd=>
   obtain⟨v',h1,h2⟩:=hd 0 d rfl;rw[e]at h1;obtain rfl:val=v':=by simpa using h1
   exact⟨d,rfl,h2⟩
 |@agg cs' aK hlen h=>
  obtain rfl:cs'=cs:=by simpa[cellsOf]using hc
  refine⟨aK,rfl,hl.trans hlen,fun i x hi=>?_⟩;obtain⟨v',h1,h2⟩:=hd i x hi;have h1:aK.toList[i]?=some v':=h1;have e:aK.getD i undef=v':=by rw[bc]at h1;simp[h1]
  rw[e];exact h2
 |ia=>simp[cellsOf]at hc
theorem pm.put{ka va:Bool}{es:List rY}{ms:Array MapEntry}(hE:pm S w ka va es ms.toList){i:Nat}(hi:i<es.length){ds:List D}{kv x:Value}(hk:CT ka (es.getD i default).1 kv)(hx:sR S w va ds x):
  pm S w ka va (es.set i ((es.getD i default).1,ds,(es.getD i default).2.2)) (ms.modify i (fun e=>{e with key:=kv,val:=x})).toList:=by
 obtain⟨e0,e1,e3,e4⟩:=hE.xM (j:=i) (by rw[<-hE.1];exact hi);refine⟨by simp[hE.1],fun j e m hj hm=>?_⟩;have hm':(ms.modify i (fun e=>{e with key:=kv,val:=x}))[j]?=some m:=by rw[<-bc];exact hm
 rw[Array.getElem?_modify]at hm';rw[List.getElem?_set]at hj;by_cases hij:i=j
 .subst hij;rw[if_pos rfl]at hm' hj;rw[if_pos hi]at hj;obtain rfl:=aa hj;have ea:ms[i]?=some (ms.toList.getD i default):=by rw[<-e0];simp
  rw[ea]at hm';obtain rfl:({ms.toList.getD i default with key:=kv,val:=x}:MapEntry)=m:=by simpa using hm'
  exact⟨hk,hx,e4⟩
 .rw [if_neg hij]at hm' hj;exact hE.2 j e m hj (by simpa using hm')
theorem pm.push{ka va:Bool}{es:List rY}{ms:Array MapEntry}(hE:pm S w ka va es ms.toList){key:List Value}{ds:List D}{kv x:Value}{bP:Nat}(hk:CT ka key kv)(hx:sR S w va ds x):
  pm S w ka va (es++[(key,ds,bP)]) (ms.push {key:=kv,val:=x,born:=bP}).toList:=by
 refine⟨by simp[hE.1],fun i e m hi hm=>?_⟩;rw[Array.toList_push]at hm;rcases Nat.lt_or_ge i es.length with hlt|hge
 .rw [bH hlt]at hi;rw[bH (by rw[<-hE.1];exact hlt)]at hm;exact hE.2 i e m hi hm
 .rw [bL hge]at hi;rw[bL (by rw[<-hE.1];exact hge),<-hE.1]at hm;have h0:i-es.length=0:=by have:=(ap.1 hi).1;simp at this;omega
  rw[h0]at hi hm;obtain rfl:(key,ds,bP)=e:=by simpa using hi
  obtain rfl:MapEntry.mk kv x bP=m:=by simpa using hm
  exact⟨hk,hx,rfl⟩
theorem pm.erase{ka va:Bool}{es:List rY}{ms:Array MapEntry}(hE:pm S w ka va es ms.toList)(i:Nat):pm S w ka va (es.eraseIdx i) (ms.eraseIdxIfInBounds i).toList:=by
 have e:(ms.eraseIdxIfInBounds i).toList=ms.toList.eraseIdx i:=by
  unfold Array.eraseIdxIfInBounds;split
  .simp
  .rename_i h;rw[List.eraseIdx_of_length_le (by simpa using h)]
 rw[e];refine⟨by simp[List.length_eraseIdx,hE.1],fun j x m hj hm=>?_⟩;rw[List.getElem?_eraseIdx]at hj hm;split at hj
 .rename_i h;rw[if_pos h]at hm;exact hE.2 j x m hj hm
 .rename_i h;rw[if_neg h]at hm;exact hE.2 (j+1) x m hj hm
theorem IW{t kt et:TypeId}{ka va:Bool}{ks:List Kd}{z:List Value}{n:Nat}{m ix x:Operand}(ho:o.op=.mapUpdate t m ix x)(hu:P.underlying t=some (.map kt et))
  (hm:rI P kt et=some (ka,ks,va,z)) (hI:Inv S K w0 Kn φ (aw H) w) {tm tk tx:Option TV} (hx:∀y,tm=some y->fX S w Kn φ y (ρ m)) (hy:∀y,tk=some y->fX S w Kn φ y (ρ ix))
  (hz:∀y,tx=some y->fX S w Kn φ y (ρ x)) (h:cC call (.tT ka ks va n) [tm,tk,tx] H nxt=some (v,u,az,n')):dH P o ρ S K w0 w Kn φ (aw H) nxt n' v u:=by
 match tm,tk,tx,h,hx,hy,hz with
 |some (.c mc),some k,some xv,h,hx,hy,hz=>
  change (match sJ ka ks va n mc k xv H with|some (u,az)=>some (TV.ia [],u,az,nxt)|none=>none)=_ at h;split at h
  .rename_i u1 ids1 hl;obtain⟨rfl,rfl,rfl,rfl⟩:TV.ia []=v/\u1=u/\ids1=az/\nxt=n':=by simpa using h
   simp only[rI]at hm;split at hm
   .rename_i ka' ks' va' z' hag hk hae hz';split at hm
    .obtain ⟨rfl,rfl,rfl,rfl⟩:ka'=ka/\ks'=ks/\va'=va/\z'=z:=by simpa using hm
     have hrm:=hx _ rfl;generalize hv1:ρ m=vm at hrm;unfold sJ at hl;split at hl
     .rename_i id key cs hkey hcs;obtain⟨hkv,hkl,hrk⟩:=ng hkey (hy _ rfl);split at hl
      .rename_i ds ids2 hvw;split at hl
       .rename_i fu hfz;split at hl
        .rename_i ka2 va2 es bP hob;split at hl
         .rename_i hc;obtain⟨rfl,rfl,hn,hag2,hnm⟩:=hc;have hnm:id∉ids2:=by simpa using hnm
          cases hrm with
          |c hrm=>
           cases hrm with
           |om hkn=>
            have hcr:=(hz _ rfl).cr hcs
            obtain⟨hdl,hds⟩:=pu hI cs ds ids2 hvw (fun i=>(ρ x).cells.toList[i]?) (fun i c hi=>by
             have hlt:i<(ρ x).cells.toList.length:=by rw[<-hcr.1];exact(ap.1 hi).1
             exact⟨_,aC hlt,hcr.2 i c _ hi (aC hlt)⟩)
            have hval:=sR.vw (hz _ rfl) hcs hdl hds;rw[hag2]at hval;have hI1:=hI.Co hfz;have hob1:bq fu (aw H) id=some (.map ka2 va2 es bP):=by simp only[bq,(kP ids2 fu hfz id).2 hnm,hob]
            obtain⟨_,h0⟩:=hI1.iM _ _ hob1;obtain⟨ms,hms,hE⟩:=h0.Ms;have hck:=ot (P:=P) false 9992 8 kt ks' hk ka2 hag _ w hkl;split at hl
            .rename_i i hfe;obtain⟨f1,f2⟩:=lT (P:=P) hk hag hE hfe;obtain⟨f3,f4⟩:=f2 i rfl;obtain⟨e0,e1,e3,e4⟩:=hE.xM f3;obtain⟨_,hqq⟩:=Eu hfe;obtain⟨_,ag,hag',hone⟩:=vf 8 kt ks' hk;obtain rfl:ka2=ag:=aa (hag.symm.trans hag');have hold:(ms.toList.getD i default).key=ru ka2 key:=by rw[e1.ru,<-f4]
             obtain⟨rfl,rfl⟩:=af (aa hl);have ea:ms[i]?=some (ms.toList.getD i default):=by rw[<-e0];simp
             have hE':=hE.put (i:=i) (kv:=ru ka2 key) (x:=ρ x) (ds:=ds) (by rw[hE.1];exact f3) (by rw[<-hold];exact e1) hval;obtain⟨hs,hI'⟩:=hI1.vn (clock':=bP) hob1 hms hE';refine⟨.skip,undef,{w with heap:=w.heap.setIfInBounds (φ id).dj (.map (ms.modify i (fun e=>{e with key:=ru ka2 key,val:=ρ x})) bP)},?_,.inr ⟨rfl,rfl⟩,hI.AS ((SB.tG ids2).trans hs) hI' ?_⟩
             .have eU:=Eb (P:=P) (w:=w) hold (vP (n:=9999) hone hqq);simp only[execOp,ho,Instr.mapUpdate,hv1,Sem.run_bind,bQ hu,Result.andThen_ok,kM hms,hkv];rw[show(10000:Nat)=8+9992 from rfl,hck];simp only[Result.andThen_ok,Sem.run_bind,f1,bK,ea,bF,eU,mU _ hms,Sem.run_pure]
             .rw [<-ei];rfl
            .rename_i hfe;obtain⟨f1,_⟩:=lT (P:=P) hk hag hE hfe;obtain⟨rfl,rfl⟩:=af (aa hl);have hE':=hE.push (bP:=bP) (kv:=ru ka2 key) (x:=ρ x) (ds:=ds) (key:=key) (hkv▸hrk) hval;obtain⟨hs,hI'⟩:=hI1.vn (clock':=bP+1) hob1 hms hE';refine⟨.skip,undef,{w with heap:=w.heap.setIfInBounds (φ id).dj (.map (ms.push {key:=ru ka2 key,val:=ρ x,born:=bP}) (bP+1))},?_,.inr ⟨rfl,rfl⟩,hI.AS ((SB.tG ids2).trans hs) hI' ?_⟩
             .simp only[execOp,ho,Instr.mapUpdate,hv1,Sem.run_bind,bQ hu,Result.andThen_ok,kM hms,hkv];rw[show(10000:Nat)=8+9992 from rfl,hck];simp only[Result.andThen_ok,Sem.run_bind,f1,gr,mU _ hms,Sem.run_pure]
             .rw [<-ei];rfl
            .simp at hl
         .simp at hl
        .simp at hl
       .simp at hl
      .simp at hl
     .simp at hl
    .simp at hm
   .simp at hm
  .simp at h
theorem IX{c:n_}{t kt et kt2:TypeId}{ka va:Bool}{ks:List Kd}{z:List Value}{m ix:Operand}(ho:o.op=.call c)(hcal:c.callee=.builtin .delete)(hargs:c.args= #[m,ix])(hts:c.argTypes= #[t,kt2])
  (hu:P.underlying t=some (.map kt et)) (hm:rI P kt et=some (ka,ks,va,z)) (hI:Inv S K w0 Kn φ (aw H) w) {tm tk:Option TV} (hx:∀y,tm=some y->fX S w Kn φ y (ρ m)) (hy:∀y,tk=some y->fX S w Kn φ y (ρ ix))
  (h:cC call (.tU ka ks) [tm,tk] H nxt=some (v,u,az,n')):dH P o ρ S K w0 w Kn φ (aw H) nxt n' v u:=by
 match tm,tk,h,hx,hy with
 |some (.c mc),some k,h,hx,hy=>
  change (match sK ka ks mc k H with|some (u,az)=>some (TV.ia [],u,az,nxt)|none=>none)=_ at h;split at h
  .rename_i u1 ids1 hl;obtain⟨rfl,rfl,rfl,rfl⟩:TV.ia []=v/\u1=u/\ids1=az/\nxt=n':=by simpa using h
   simp only[rI]at hm;split at hm
   .rename_i ka' ks' va' z' hag hk hae hz';split at hm
    .obtain ⟨rfl,rfl,rfl,rfl⟩:ka'=ka/\ks'=ks/\va'=va/\z'=z:=by simpa using hm
     have hrm:=hx _ rfl;generalize hv1:ρ m=vm at hrm;have unit:∀{w':World},fX S w' Kn φ (.ia []) (.tuple #[]):=.ia rfl fun i x hi=>by simp at hi
     unfold sK at hl;split at hl
     .rename_i key hkey;obtain⟨hkv,hkl,_⟩:=ng hkey (hy _ rfl);obtain⟨rfl,_⟩:=hrm.lit;obtain⟨rfl,rfl⟩:=af (aa hl);have hck:=ot (P:=P) true 9992 8 kt ks' hk ka' hag _ w hkl;refine dH.pure hI ?_ unit
      simp only[execOp,ho,hcal,resolve,hargs,Sem.run_bind,Sem.run_pure,Result.andThen_ok,invoke,builtin,Builtin.delete_,hts,dK,aq,aW,hv1,hkv,cf,
       cn,dw,bQ hu]
      rw[show(10000:Nat)=8+9992 from rfl,hck];simp only[Result.andThen_ok,Sem.run_pure]
     .rename_i id key hkey;obtain⟨hkv,hkl,_⟩:=ng hkey (hy _ rfl);split at hl
      .rename_i ka2 va2 es bP hob;split at hl
       .rename_i hkv2;subst hkv2;cases hrm with
        |c hrm=>
         cases hrm with
         |om hkn=>
          obtain⟨_,h0⟩:=hI.iM _ _ hob;obtain⟨ms,hms,hE⟩:=h0.Ms;have hck:=ot (P:=P) ms.isEmpty 9992 8 kt ks' hk ka2 hag _ w hkl;split at hl
          .rename_i i hfe;obtain⟨f1,_⟩:=lT (P:=P) hk hag hE hfe;obtain⟨rfl,rfl⟩:=af (aa hl);obtain⟨hs,hI'⟩:=hI.vn (clock':=bP) hob hms (hE.erase i);refine⟨.value (.tuple #[]),_,{w with heap:=w.heap.setIfInBounds (φ id).dj (.map (ms.eraseIdxIfInBounds i) bP)},?_,.inl rfl,kZ.set hs hI' unit⟩
           simp only[execOp,ho,hcal,resolve,hargs,Sem.run_bind,Sem.run_pure,Result.andThen_ok,invoke,builtin,Builtin.delete_,hts,dK,aq,aW,hv1,hkv,cf,
            cn,dw,bQ hu,kM hms]
           rw[show(10000:Nat)=8+9992 from rfl,hck];simp only[Result.andThen_ok,Sem.run_bind,f1,bK,mU _ hms,Sem.run_pure]
          .rename_i hfe;obtain⟨f1,_⟩:=lT (P:=P) hk hag hE hfe;obtain⟨rfl,rfl⟩:=af (aa hl);obtain⟨hs,hI'⟩:=hI.vn (clock':=bP) hob hms hE;refine⟨.value (.tuple #[]),_,{w with heap:=w.heap.setIfInBounds (φ id).dj (.map ms bP)},?_,.inl rfl,kZ.set hs hI' unit⟩
           simp only[execOp,ho,hcal,resolve,hargs,Sem.run_bind,Sem.run_pure,Result.andThen_ok,invoke,builtin,Builtin.delete_,hts,dK,aq,aW,hv1,hkv,cf,
            cn,dw,bQ hu,kM hms]
           rw[show(10000:Nat)=8+9992 from rfl,hck];simp only[Result.andThen_ok,Sem.run_bind,f1,gr,mU _ hms,Sem.run_pure]
          .simp at hl
       .simp at hl
      .simp at hl
     .simp at hl
    .simp at hm
   .simp at hm
  .simp at h
variable{e:iL}
theorem Oy{t el:TypeId}{len n:Nat}{parts:Array (Nat×Operand)}{z:List Value}(ho:o.op=.buildSlice t len parts)(hu:P.underlying t=some (.slice el))
  (hs:fS P el=some (n+1)) (hz:jU P el=some z) (hlim:len*(n+1)<=4096/\z.length=n+1)
  (hI:Inv S K w0 Kn φ (aw H) w) (hn0:nxt<n'->¬Kn nxt) (hρ:∀x tv,ke e x=some tv->fX S w Kn φ tv (ρ x))
  (h:cC call (.SL (n+1) len ((fB (len*(n+1))).map fun i=>z.getD (i %(n+1)) undef) (parts.toList.map (·.1))) ((parts.toList.map (·.2)).map (ke e)) H nxt=some (v,u,az,n')):
  dH P o ρ S K w0 w Kn φ (aw H) nxt n' v u:=by
 generalize hzs:((fB (len*(n+1))).map fun i=>z.getD (i %(n+1)) undef)=zs at h
 change (match dY ((parts.toList.map (·.2)).map (ke e))with
  |some xs=>
   (match li (fm zs) (((parts.toList.map fun(p:Nat×Operand)=>p.1).map fun i=>(i*(n+1),n+1)).zip xs)with
   |some cs=>some (TV.c (.cE (n+1) nxt 0 len),[(nxt,some (Ob.box cs))],([]:List Nat),nxt+1)
   |none=>none)
  |none=>none)=_ at h
 split at h
 .rename_i xs hxs;split at h
  .rename_i cs hcs;obtain⟨rfl,rfl,rfl,rfl⟩:TV.c (.cE (n+1) nxt 0 len)=v/\[(nxt,some (Ob.box cs))]=u/\[]=az/\nxt+1=n':=by simpa using h
   have hn:=hn0 (Nat.lt_succ_self _);obtain⟨hl,hr⟩:=ud hρ hxs;obtain⟨zv,hzr,hzl,hzp⟩:=oO hz w
   have hzp':∀x∈zs,ft x=true:=by
    intro x hx;rw[<-hzs]at hx;obtain⟨i,_,rfl⟩:=bB.1 hx;have hlt:i %(n+1)<z.length:=by rw[hlim.2];exact Nat.mod_lt _ (dv _)
    have:z.getD (i %(n+1)) undef=z[i %(n+1)]:=by simp[List.getD,hlt]
    rw[this];exact hzp _ (jm hlt)
   have hzero:∃zc:Array Value,(len*(n+1)=0->zc= #[])/\(¬len*(n+1)=0->zc=zv.cells)/\
     ((kK (len*(n+1))).map (fun i=>zc[i %zc.size]!)).toList=zs:=by
    by_cases hc:len*(n+1)=0
    .refine ⟨#[],fun _=>rfl,fun h=>absurd hc h,?_⟩;rw[<-hzs,hc];simp
    .refine ⟨zv.cells,fun h=>absurd h hc,fun _=>rfl,?_⟩;rw[tq hzl hlim.2 (dv _),hzs]
   obtain⟨zc,hzc,hzc1,hzc2⟩:=hzero
   obtain⟨arr',h3,h4⟩:=vv (S:=S) (w:=w) (Kn:=Kn) (φ:=φ) (ρ:=ρ) (fun i=>some (i*(n+1),n+1)) parts.toList _ xs (fm zs) cs ((kK (len*(n+1))).map (fun i=>zc[i %zc.size]!))
    (by simp) (fun i p q hp hq=>by simp only[aQ,hp,bK]at hq;exact hq) (by simpa using hl)
    (fun i p x hp hx=>hr i p.2 x (by simp only[aQ,hp,bK]) hx) (by rw[hzc2];exact B_ hzp') hcs
   obtain⟨h5,h6⟩:=zQ h4
   have hcl:cs.length=len*(n+1):=by
    have:∀(l:List ((Nat×Nat)×TV))(a b:List C),li a l=some b->b.length=a.length:=by
     intro l;induction l with
     |nil=>
      intro a b h;obtain rfl:a=b:=by simpa[li]using h
      rfl
     |cons p l ih=>
      intro a b h;obtain⟨⟨off,m⟩,x⟩:=p;simp only[li]at h;split at h
      .split at h
       .rename_i hb;rw[ih _ _ h,eT _ _ _ (by omega)]
       .simp at h
      .simp at h
    rw[this _ _ _ hcs,<-hzs];simp[fm]
   obtain⟨nS,nK⟩:=B4 hI;have eU:=gZ.push (w:=w) hI.vJ (.cells arr' el);have hren:Ren Kn φ (fun j=>Kn j\/j=nxt) (ext φ nxt ⟨w.heap.size,0,n+1,arr'.size,len⟩):=jw _ hn;have ha:=hI.alloc hn arr' el (n+1) len (.box cs) (.box rfl nS nK (zj w _ el) h5 fun i x hi=>(h6 i x hi).mono eU hren);refine⟨.value (.slice (some ⟨w.heap.size,0,none⟩) len len),.slice (some ⟨w.heap.size,0,none⟩) len len,_,?_,.inl rfl,Nat.le_succ _,S,_,eU,⟨fun _ h=>.inl h,hren.ez⟩,.c ?_,ha.wd fun j=>oU j⟩
   .have h3':Instr.fill (fun i=>some (i*(n+1),n+1)) ((kK (len*(n+1))).map (fun i=>zc[i %zc.size]!)) (parts.map fun p=>(p.1,ρ p.2)).toList=some arr':=by rw[<-h3];simp
    have hlim':¬len*(n+1)>2^24:=by have:=hlim.1;omega
    simp only[execOp,ho,Sem.run_bind,Instr.buildSlice,bQ hu,Result.andThen_ok,gY hs,if_neg hlim'];by_cases hc:len*(n+1)=0
    .rw [hzc hc]at h3';simp only[if_pos hc,Sem.run_bind,Sem.run_pure,Result.andThen_ok,h3',newRow,run_newObj]
    .rw [hzc1 hc]at h3';simp only[if_neg hc,Sem.run_bind,hzr,Sem.run_pure,Result.andThen_ok,h3',newRow,run_newObj]
   .have e:ext φ nxt ⟨w.heap.size,0,n+1,arr'.size,len⟩ nxt=⟨w.heap.size,0,n+1,arr'.size,len⟩:=by simp[ext]
    have:=RC.cE (S:=S) (w:={w with heap:=w.heap.push (.cells arr' el)}) (Kn:=o4 Kn nxt (nxt+1)) (φ:=ext φ nxt ⟨w.heap.size,0,n+1,arr'.size,len⟩) (id:=nxt) (off:=0) (len:=len) (cap:=len) (addr:=0)
     (.inr (by omega)) (am _) (by rw[e];simp) (by rw[e];simp only;omega) (by rw[e];simp)
    rw[e]at this;exact this
  .simp at h
 .simp at h
theorem Ri{t el:TypeId}{x i:Operand}{sz:Nat}(ho:o.op=.indexAddr t x i)(hu:P.underlying t=some (.slice el))(hsz:fS P el=some sz)
  (hI:Inv S K w0 Kn φ (aw H) w) {tx ti:Option TV} (hx:∀y,tx=some y->fX S w Kn φ y (ρ x)) (hi:∀y,ti=some y->fX S w Kn φ y (ρ i))
  (h:cC call (.YE sz) [tx,ti] H nxt=some (v,u,az,n')):dH P o ρ S K w0 w Kn φ (aw H) nxt n' v u:=by
 match tx,h,hx with
 |some (.c c),h,hx=>
  change (match cG ti with|some i=>(match Mo sz c i with|some y=>some (TV.c y,([]:eS),([]:List Nat),nxt)|none=>none)|none=>none)=_ at h;split at h
  .rename_i n hn;obtain⟨k,hk⟩:=jg hn hi;split at h
   .rename_i y hy;obtain⟨rfl,rfl,rfl,rfl⟩:TV.c y=v/\[]=u/\[]=az/\nxt=n':=by simpa using h
    have hr:=hx _ rfl;generalize hv0:ρ x=val at hr;cases hr with
    |c hr=>
     unfold Mo at hy;split at hy
     .rename_i sz' id off len;split at hy
      .rename_i hb;obtain⟨h0,h1,rfl⟩:=hb;obtain rfl:=aa hy;cases hr with
       |@cE _ _ _ cap addr hkn hcap haddr hext=>
        have run:(execOp ρ o).run P w=.ok (.value (.pointer (some ⟨(φ id).dj,addr+n.toNat*(φ id).sz,none⟩))) w:=by simp[execOp,ho,hv0,Instr.indexAt,nd hk,bQ hu,h0,h1,gY hsz,ph]
        refine dH.pure hI run (.c ?_);have ha:=haddr (by omega);have e1:addr+n.toNat*(φ id).sz=(φ id).aJ+(off+n.toNat)*(φ id).sz:=by rw[ha,Nat.add_mul];omega
        rw[e1];exact .op hkn
      .simp at hy
     .simp at hy
   .simp at h
  .simp at h
end
section
variable{P:Program}{S K:Nat->Prop}{w0 w:World}{Kn:Nat->Prop}{φ:Nat->gV}{hf:Nat->Option Ob}{H:bC}{e:iL}{ρ:Operand->Value}{o:Oper}{call:Call}{a:Act}
 {nxt n':Nat} {v:TV} {u:eS} {az:List Nat}
def P5(P:Program)(o:Oper)(a:Act)(S K:Nat->Prop)(w0 w:World)(Kn:Nat->Prop)(φ:Nat->gV)(hf:Nat->Option Ob)(nxt n':Nat)(v:TV)(u:eS):Prop:=∀(next:Act->World->Prop)(Q:Exit->Act->World->Prop),(∀val w',kZ S K w0 w Kn φ hf nxt n' v u val w'->next (a.put o.dst val) w')->o.wp P a w next Q
theorem dH.kH(h:dH P o a.eval S K w0 w Kn φ hf nxt n' v u):P5 P o a S K w0 w Kn φ hf nxt n' v u:=by
 intro next Q hn
 obtain⟨nx,val,w',hr,hx,hd⟩:=h;unfold Oper.wp;rw[hr];rcases hx with rfl|⟨rfl,rfl⟩
 .exact hn _ _ hd
 .exact hn _ _ hd
theorem FO{tvs:List TV}{vs:List Value}(hl:tvs.length=vs.length)(h:∀(i:Nat)(t:TV)(v:Value),tvs[i]?=some t->vs[i]?=some v->fX S w Kn φ t v):fX S w Kn φ (tL tvs) (yZ vs):=by
 have Fc:fX S w Kn φ (.ia tvs) (.tuple vs.toArray):=by
  refine .ia (by simpa using hl) fun i x hi=>?_;have hlt:i<vs.length:=by grind
  have:=h i x vs[i] hi (aC hlt);simpa[hlt]using this
 match tvs,vs,hl,h,Fc with|[],[],_,_,Fc=>exact Fc|[t],[v],_,h,_=>exact h 0 t v rfl rfl|_::_::_,_::_::_,_,_,Fc=>exact Fc
theorem RD.HH{S':Nat->Prop}{w':World}{v x:Value}(h:RD S w (.lit v) x):RD S' w' (.lit v) x:=by cases h with|lit h=>exact .lit h|nan hn hm=>exact .nan hn hm|ex=>exact .ex
theorem E8.fm{S':Nat->Prop}:∀{rs:List R}{vs:List Value}{fp:List Nat},rs.all wZ=true->E8 S w rs vs fp->E8 S' w rs vs []:=by
 intro rs;induction rs with
 |nil=>intro vs fp _ h;cases vs with|nil=>rfl|cons v vs=>exact h.elim
 |cons r rs ih=>
  intro vs fp hl h;cases vs with
  |nil=>exact h.elim
  |cons v vs=>
   simp only[gp,ak]at hl;obtain⟨f1,f2,_,h1,h2⟩:=h;refine⟨[],[],rfl,?_,ih hl.2 h2⟩;have hl1:=hl.1;cases r with
   |c t=>
    cases t with
    |d x=>
     cases x with
     |lit y=>cases h1 with|d hd=>exact RT.d hd.HH
     |_=>simp[wZ]at hl1
    |_=>simp[wZ]at hl1
   |agg ts=>
    obtain⟨aK,fps,rfl,q1,q2,q3,q4⟩:=h1;refine⟨aK,fps.map fun _=>[],rfl,q1,by simpa using q2,by simp,fun i t f hi hfi=>?_⟩;simp[wZ]at hl1;have ht:=hl1 t (bp hi);obtain rfl:f=[]:=by simp_all
    have hlt:i<fps.length:=by grind
    have:=q4 i t fps[i] hi (aC hlt);generalize fps[i]=g at this;cases t with
    |d x=>
     cases x with
     |lit y=>cases this with|d hd=>exact RT.d hd.HH
     |_=>simp at ht
    |_=>simp at ht
theorem Inv.after{S':Nat->Prop}{w':World}{fp:List Nat}(hI:Inv S K w0 Kn φ hf w)(hs:gZ S w S' w')(hsub:∀b,S' b->S b\/b∈fp\/w.heap.size<=b)(hlt:∀b,S' b->b<w'.heap.size)
  (hfp:∀b∈fp,¬K b) (haw:uV w φ hf fp) (hfrm:Ie (fun b=>b<w.heap.size/\b∉fp) w w'):Inv S' K w0 Kn φ hf w':=by
 refine hI.pN hs (Ren.refl _ _) hlt (fun b hb hK=>?_) ⟨hI.od.Gi,fun b hb=>?_,e_ hI.od.tf hfrm.tf,fun a ha=>(hfrm.Ba a (dD ha hI.od.tf)).trans (hI.od.Ba a ha),fun b aK ho=>?_,hI.od.io.trans hfrm.io⟩ (fun id o ho=>.inl ⟨ho,fun hown=>?_⟩) hI.o9 ?_
 .have h1:=dD (hI.od.Gi b hK) hI.od.tf;rcases hsub b hb with h|h|h
  .exact hI.sk b h hK
  .exact hfp b h hK
  .omega
 .have h1:=dD (hI.od.Gi b hb) hI.od.tf;exact(hfrm.mV b ⟨h1,fun h=>hfp b h hb⟩).trans (hI.od.mV b hb)
 .obtain ⟨a1,h1,h2⟩:=hI.od.bD b aK ho;obtain⟨a2,h3,h4⟩:=hfrm.bD b a1 h1;exact⟨a2,h3,h4.trans h2⟩
 .obtain ⟨h1,h2,h3⟩:=(hI.iM id o ho).2.bD hown;have h4:=haw id o ho hown _ (lp id);refine⟨hfrm.mV _ ⟨h3,h4⟩,fun h=>?_⟩
  grind
 .intro id sz sl ho;have h4:=haw id _ ho rfl
  have key:∀x∈iw w φ hf id,w'.heap[x]?=w.heap[x]?/\¬S' x:=fun x hx=>by
   obtain⟨h1,_,h3⟩:=oZ hI ho rfl hx;refine⟨hfrm.mV _ ⟨h3,h4 x hx⟩,fun h=>?_⟩
   grind
  refine⟨ho,(key _ (lp id)).1,fun k x hp=>?_⟩;obtain⟨q1,q2⟩:=key x (eG.2 (.inr ⟨sz,sl,k,ho,hp⟩));exact⟨q1,q2,(hI.xC id sz sl k x ho hp).1⟩
theorem RT.ft{S0:Nat->Prop}{t:T}{v:Value}{fp:List Nat}(h:FV t=true)(hr:RT S w t v fp):RT S0 w t v fp:=by
 cases hr with
 |d hd=>cases hd with|lit hp=>exact .d (.lit hp)|nan hn hm=>exact .d (.nan hn hm)|ex=>exact .d .ex|_=>simp[FV]at h
 |sl h0 ho hl hc he hr=>refine .sl h0 ho hl hc he ⟨hr.1,fun i r hi j x hj=>?_⟩;obtain⟨v,h1,h2⟩:=hr.2 i r hi j x hj;have hx:=a_.1 (a_.1 h r (bp hi)) x (bp hj);refine⟨v,h1,?_⟩;cases h2 with|lit hp=>exact .lit hp|nan hn hm=>exact .nan hn hm|ex=>exact .ex|_=>simp at hx
 |_=>simp[FV]at h
theorem No.ft{S0:Nat->Prop}:∀{ts:List T}{vs:List Value}{fp:List Nat},ts.all FV=true->No S w ts vs fp->No S0 w ts vs fp:=by
 intro ts;induction ts with
 |nil=>intro vs fp _ h;cases vs<;>exact h
 |cons t ts ih=>intro vs fp h hr;simp only[gp,ak]at h;cases vs with|nil=>exact hr|cons v vs=>obtain⟨f1,f2,e,h1,h2⟩:=hr;exact⟨f1,f2,e,h1.imp id (RT.ft h.1),ih h.2 h2⟩
theorem Left.ft{S0:Nat->Prop}{fp:List Nat}{rs:List R}{outs:List T}{lent:List Value}{v:Value}{w':World}(h:Left S w fp rs outs lent v w')(hS:∀b,S0 b->S b)(h1:rs.all wZ=true)(h2:outs.all FV=true):Left S0 w fp rs outs lent v w':=by
 obtain⟨S',kW,fp1,fp2,rfl,hs,hsub,hlt,hrr,hrt,hnd,hb,hfrm⟩:=h;refine⟨S0,kW,[],fp2,rfl,⟨fun _ h=>h,fun b hb=>hs.ez b (hS b hb)⟩,fun b h=>.inl h,fun b h=>hlt b (hs.sub b (hS b h)),hrr.fm h1,hrt.ft h2,?_,fun b hm=>?_,hfrm⟩
 .exact (cD.1 hnd).2.1
 .have:=hb b (aG _ hm);exact⟨fun h=>this.1 (hs.sub b (hS b h)),this.2⟩
theorem zX{as:List A}{az:List Nat}{lent:List (C×List Nat×List Nat)}{vs:List Value}{rs:List R}{outs:List T}{val:Value}{w':World}{rd:List Nat}
  (hI:Inv S K w0 Kn φ (aw H) w) (hfr:∀j,nxt<=j->j<n'->¬Kn j)
  (hown:∀i∈lent.flatMap (·.2.1),∃o,aw H i=some o/\cW o=true) (hlent:GZ Kn φ S w lent (nH as vs))
  (hwhole:eY H lent=true) (hnd:(lent.flatMap (·.2.1)).Nodup)
  (hleft:Left (SB S w φ (aw H) az) w ((lent.flatMap (·.2.1)).flatMap (iw w φ (aw H))) rs outs (nH as vs) val w')
  (h:(match dJ H az az with
      |none=>none
      |some fu=>
       match eF nxt lent outs with
       |none=>none
       |some (bu,m)=>some (tL (il m rs).1,(il m rs).2.1++bu++fu,az++lent.flatMap (·.2.2),(il m rs).2.2))=some (v,u,rd,n')):
  kZ S K w0 w Kn φ (aw H) nxt n' v u val w':=by
 obtain⟨S',kW,fp1,fp2,rfl,hs,hsub,hlt,hrr,hrt,hnd2,hb,hfrm⟩:=hleft;split at h
 .simp at h
 .rename_i fu hfz;split at h
  .simp at h
  .rename_i bu m hbk;obtain⟨rfl,rfl,_,rfl⟩:tL (il m rs).1=v/\(il m rs).2.1++bu++fu=u/\az++lent.flatMap (·.2.2)=rd/\(il m rs).2.2=n':=by simpa using h
   have hI1:=hI.Co hfz;have hmn:=G4 rs m;have hnm:=Bj _ _ _ _ _ hbk
   -- what was lent is oA of the heap
   let kills:eS:=(kq lent).map fun i=>(i,none);have hkn:=rO (kq lent)
   have hf2:∀id o,bq kills (bq fu (aw H)) id=some o->id∉kq lent/\bq fu (aw H) id=some o:=by
    intro id o ho;have:bq kills (bq fu (aw H)) id=(match cm kills id with|some o=>o|none=>bq fu (aw H) id):=rfl
    grind
   have hIk:=hI1.mD fun id o ho=>(hf2 id o ho).2
   -- the frozen part agrees with the heap e9, where a thing is owned
   have hold:∀id o,bq fu (aw H) id=some o->cW o=true->aw H id=some o:=by
    intro id o ho hown;by_cases hm:id∈az
    .obtain ⟨o',ho',hfn⟩:=(kP az fu hfz id).1 hm;simp only[bq,hfn]at ho;obtain rfl:=aa ho;have:=(Bb hI hm ho').1;rw[this]at hown;simp at hown
    grind [bq,kP]
   have hbk2:∀j o,bq kills (bq fu (aw H)) j=some o->cW o=true->aw H j=some o/\iw w φ (bq kills (bq fu (aw H))) j=iw w φ (aw H) j:=fun j o hj hjo=>by have h3:=hold j o (hf2 j o hj).2 hjo;exact⟨h3,gN rfl (hj.trans h3.symm)⟩
   have haw:uV w φ (bq kills (bq fu (aw H))) ((lent.flatMap (·.2.1)).flatMap (iw w φ (aw H))):=by intro j o hj hjo x hx hm;obtain⟨h1,h2⟩:=hf2 j o hj;obtain⟨i,hi,hie⟩:=jl.1 hm;obtain⟨oi,hoi,hoio⟩:=hown i hi;obtain⟨h3,h4⟩:=hbk2 j o hj hjo;rw[h4]at hx;exact oF hI hoi h3 hoio hjo (fun e=>h1 (e▸hi)) hie hx
   have hfpK:∀b∈((lent.flatMap (·.2.1)).flatMap (iw w φ (aw H))),¬K b/\b<w.heap.size:=by intro b hbm;obtain⟨i,hi,hie⟩:=jl.1 hbm;obtain⟨oi,hoi,hoio⟩:=hown i hi;exact(oZ hI hoi hoio hie).2
   have hI2:=hIk.after hs hsub hlt (fun b hb=>(hfpK b hb).1) haw hfrm
   have hK12:∀b∈fp1++fp2,¬S' b/\¬K b:=fun b hbm=>by
    obtain⟨h1,h2⟩:=hb b hbm;refine⟨h1,fun hk=>?_⟩;rcases h2 with h2|h2
    .exact (hfpK b h2).1 hk
    .have:=hI.od.Gi b hk;have:=hI.od.tf;omega
   have haw12:uV w' φ (bq kills (bq fu (aw H))) (fp1++fp2):=fun j o hj hjo x hx hm=>by
    rw[BA (hfrm.mV _ ⟨((hIk.iM j o hj).2.bD hjo).2.2,haw j o hj hjo _ (lp j)⟩)]at hx;rcases(hb _ hm).2 with h2|h2
    .exact haw j o hj hjo x hx h2
    .have:=(oZ hIk hj hjo hx).2.2;omega
   rw[cD]at hnd2;obtain⟨hn1,hn2,hn3⟩:=hnd2;simp only[ao]at hK12
   obtain⟨φ1,hB⟩:=GR hI hfrm.bD lent (nH as vs) outs fp2 nxt bu m hlent hwhole hrt hI2 (fun j h1 h2=>hfr j h1 (by omega)) (Ren.refl _ _) hn2 (fun b hb=>hK12 b (.inr hb))
    (fun j o hj hjo x hx hm=>haw12 j o hj hjo x hx (by simp[hm]))
    (fun i hi=>by obtain⟨oi,hoi,_⟩:=hown i hi;refine⟨?_,(hI.iM i oi hoi).1⟩;show(match cm kills i with|some o=>o|none=>bq fu (aw H) i)=none;rw[hkn,if_pos hi]) hnd hbk
   have hkk:bq bu (bq kills (bq fu (aw H)))=bq bu (bq fu (aw H)):=by
    funext j;by_cases hm:j∈kq lent
    .obtain ⟨x,hx⟩:=fq.1 (hB.AB j hm);simp only[bq,hx]
    .have h1:bq kills (bq fu (aw H)) j=bq fu (aw H) j:=by show(match cm kills j with|some o=>o|none=>bq fu (aw H) j)=_;rw[hkn,if_neg hm]
     have h2:∀g:Nat->Option Ob,bq bu g j=(match cm bu j with|some o=>o|none=>g j):=fun _=>rfl;rw[h2,h2,h1]
   have hIB:=hB.inv;rw[hkk]at hIB
   have haw1:uV w' φ1 (bq bu (bq fu (aw H))) fp1:=by
    intro j o hj hjo x hx hm;by_cases hk:j∈kq lent\/(nxt<=j/\j<m)
    .have:=hB.dj j o (by rw[hkk];exact hj) hjo hk x (by rw[hkk];exact hx);exact hn3 _ hm _ this rfl
    .have hfn:cm bu j=none:=lI fun p hp e=>by
      rcases hB.D_ p hp with h|h
      .exact hk (.inl (e▸h))
      .exact hk (.inr (e▸h))
     have hj2:bq kills (bq fu (aw H)) j=some o:=by rw[<-hkk]at hj;simpa only[bq,hfn]using hj
     have hknj:=(hI2.iM j o hj2).1;rw[gN (hB.tN.ez j hknj) (hj.trans hj2.symm)]at hx;exact haw12 j o hj2 hjo x hx (by simp[hm])
   obtain⟨φ2,hL,hlen,hr⟩:=Fp rs m kW fp1 hIB (fun j h1 h2 hk=>by
     rcases hk with hk|hk
     .exact hfr j (by omega) h2 hk
     .omega) hrr hn1 (fun b hb=>hK12 b (.inl hb)) haw1
   refine⟨by omega,S',φ2,(SB.tG az).trans hs,⟨fun i h=>.inl h,fun i h=>(hL.tN.ez i (.inl h)).trans (hB.tN.ez i h)⟩,?_,?_⟩
   .exact (FO hlen hr).kn fun i=>(sF hnm hmn i).1
   .rw [ei,ei];exact hL.inv.wd fun i=>sF hnm hmn i
theorem J0{as:List A}{az:List Nat}{lent:List (C×List Nat×List Nat)}{vs:List Value}{rs:List R}{outs:List T}{ro:Bool}{val:Value}{w':World}{rd:List Nat}
  (hI:Inv S K w0 Kn φ (aw H) w) (hfr:∀j,nxt<=j->j<n'->¬Kn j)
  (hargs:Ny (SB S w φ (aw H) az) w as vs ((lent.flatMap (·.2.1)).flatMap (iw w φ (aw H)))) (hown:∀i∈lent.flatMap (·.2.1),∃o,aw H i=some o/\cW o=true) (hlent:GZ Kn φ S w lent (nH as vs))
  (hwhole:eY H lent=true) (hnd:(lent.flatMap (·.2.1)).Nodup)
  (hleft:Left (SB S w φ (aw H) az) w ((lent.flatMap (·.2.1)).flatMap (iw w φ (aw H))) rs outs (nH as vs) val w')
  (h:(if ro then
      if rs.all wZ/\outs.all FV then
       match eF nxt lent outs with|none=>none|some (bu,m)=>some (tL (il m rs).1,(il m rs).2.1++bu,az++lent.flatMap (·.2.2),(il m rs).2.2)
      else none
     else
      match dJ H az az with
      |none=>none
      |some fu=>
       match eF nxt lent outs with
       |none=>none
       |some (bu,m)=>some (tL (il m rs).1,(il m rs).2.1++bu++fu,az++lent.flatMap (·.2.2),(il m rs).2.2))=some (v,u,rd,n')):
  kZ S K w0 w Kn φ (aw H) nxt n' v u val w':=by
 split at h
 .--nothing that was looked at is Cd
  split at h
  .rename_i hcond;obtain⟨hl,hp⟩:=hcond;split at h
   .simp at h
   .refine zX (az:=[]) (rd:=lent.flatMap (·.2.2)) hI hfr hown hlent hwhole hnd (hleft.ft (fun b hb=>?_) hl hp) ?_
    .rcases hb with hb|⟨i,hi,_⟩
     .exact .inl hb
     .cases hi
    grind [dJ]
  .simp at h
 .exact zX hI hfr hown hlent hwhole hnd hleft h
theorem AN:∀n,(∀c x az,eM H n c=some (x,az)->∀i∈az,∃o,aw H i=some o)/\(∀cs xs az,gw H n cs=some (xs,az)->∀i∈az,∃o,aw H i=some o):=by
 have leaf:∀n c x az,(match c with|.op _ _|.pp _ _=>False|_=>True)->eM H n c=some (x,az)->∀i∈az,∃o,aw H i=some o:=by
  intro n c x az hl h i hi;cases c with
  |d y=>simp only[eM]at h;simp_all
  |cE sz id off len=>
   simp only[eM]at h
   grind
  |ep id fy off=>
   simp only[eM]at h
   grind
  |op id off=>exact hl.elim
  |pp f caps=>exact hl.elim
  |om id=>cases n<;>simp[eM]at h
 intro n;induction n with
 |zero=>
  refine⟨fun c x az h=>?_,fun cs xs az h=>?_⟩
  .cases c with|op id off=>simp[eM]at h|pp f caps=>simp[eM]at h|_=>exact leaf 0 _ x az trivial h
  .cases cs with
   |nil=>
    obtain⟨_,rfl⟩:[]=xs/\[]=az:=by simpa[gw]using h
    intro i hi;simp at hi
   |cons c cs=>simp[gw]at h
 |succ n ih=>
  refine⟨fun c x az h=>?_,fun cs xs az h=>?_⟩
  .cases c with
   |op id off=>
    simp only[eM]at h
    grind
   |pp f caps=>
    simp only[eM]at h
    grind
   |_=>exact leaf _ _ x az trivial h
  .cases cs with
   |nil=>
    obtain⟨_,rfl⟩:[]=xs/\[]=az:=by simpa[gw]using h
    intro i hi;simp at hi
   |cons c cs=>
    simp only[gw]at h
    grind
theorem C8:∀cs xs az,dZ H cs=some (xs,az)->∀i∈az,∃o,aw H i=some o:=by
 intro cs;induction cs with
 |nil=>
  intro xs az h i hi;obtain⟨_,rfl⟩:[]=xs/\[]=az:=by simpa[dZ]using h
  simp at hi
 |cons c cs ih=>
  intro xs az h i hi;simp[dZ]at h;split at h
  .rename_i h1 h2;obtain⟨_,rfl⟩:=af (aa h);rcases ao.1 hi with hi|hi
   .exact (AN 300).1 _ _ _ h1 i hi
   .exact ih _ _ h2 i hi
  .simp at h
theorem BC:∀(tvs:List TV)(ms:List Bool)(as:List A)(az:List Nat)(lent:List (C×List Nat×List Nat)),gJ H tvs ms=some (as,az,lent)->∀i∈az,∃o,aw H i=some o:=by
 intro tvs;induction tvs with
 |nil=>
  intro ms as az lent h i hi;obtain⟨_,rfl,_⟩:[]=as/\[]=az/\[]=lent:=by simpa[gJ]using h
  simp at hi
 |cons t tvs ih=>
  intro ms as az lent h i hi;simp[gJ]at h;split at h
  .simp at h
  .rename_i hrec;split at h
   .grind
   .split at h
    .split at h
     .rename_i hv;obtain⟨_,rfl,_⟩:=(by simpa using h:_/\_/\_)
      rcases ao.1 hi with hi|hi
      .exact (AN 300).1 _ _ _ hv i hi
      .exact ih _ _ _ _ hrec i hi
     .simp at h
    .split at h
     .grind [C8]
     .simp at h
    .simp at h
theorem RO.SJ{l:gV}{o:Ob}(h:RO S K w Kn φ l o)(hs:∀b,S b->b<w.heap.size):l.dj<w.heap.size:=by cases h with|aK hsz hl hS hK hown=>exact hown.lt|box hb hS hK hown=>exact hown.lt|map hS hK hmp=>grind|cap hsz hl hS hK hown=>exact hown.lt|nst hsz hl hS hK hown=>exact hown.lt|p_ hsz hl hS=>exact hs _ hS|oW hb hS=>exact hs _ hS
theorem RO.YH{l:gV}{o:Ob}(h:RO S K w Kn φ l o)(hs:cW o=false):S l.dj:=by cases h with|p_ hsz hl hS=>exact hS|oW hb hS=>exact hS|_=>simp[cW]at hs
theorem Hv{c:n_}{fop:Operand}{ro:Bool}{kG:List Bool}(ho:o.op=.call c)(hcal:c.callee=.value fop)(mo:kE P call)(hI:Inv S K w0 Kn φ (aw H) w)
  (hfr:∀j,nxt<=j->j<n'->¬Kn j) (hρ:∀x tv,ke e x=some tv->fX S w Kn φ tv (a.eval x))
  (h:cC call (.call ro kG) ((fop::c.args.toList).map (ke e)) H nxt=some (v,u,az,n')):P5 P o a S K w0 w Kn φ (aw H) nxt n' v u:=by
 rw[aq]at h;change vy call ro kG (ke e fop) (c.args.toList.map (ke e)) H nxt=_ at h;unfold vy at h;split at h
 .rename_i f caps vs hf hvs;split at h
  .simp at h
  .rename_i as ids1 lent hargs;split at h
   .rename_i hcond;obtain⟨hwhole,hnd,hapart⟩:=hcond;split at h
    .simp at h
    .rename_i rs outs hcall
     -- the callee
     have hfv:∃cvs:Array Value,a.eval fop=.func (.func f) #[] cvs/\caps.length=cvs.size/\∀(i:Nat)(x:C),caps[i]?=some x->RC S w Kn φ x (cvs.getD i undef):=by
      split at hf
      .rename_i g capsD hop;obtain⟨rfl,rfl⟩:g=f/\capsD.map C.d=caps:=by simpa using hf
       have hr:=hρ _ _ hop;generalize a.eval fop=fv at hr|-;cases hr with
       |c hr=>cases hr with
        |d hd=>cases hd with|@fn _ _ cvs hlen hrd=>refine⟨cvs,rfl,by simpa using hlen,fun i x hi=>?_⟩;rw[aQ]at hi;obtain⟨y,hy,rfl⟩:=aP.1 hi;exact .d (hrd i y hy)
      .rename_i g caps' hop;obtain⟨rfl,rfl⟩:g=f/\caps'=caps:=by simpa using hf
       have hr:=hρ _ _ hop;generalize a.eval fop=fv at hr|-;cases hr with
       |c hr=>cases hr with|@pp _ _ cvs hlen hrc=>exact⟨cvs,rfl,hlen,hrc⟩
      .simp at hf
     obtain⟨cvs,hfe,hcl,hcr⟩:=hfv;obtain⟨hal,har⟩:=ud hρ hvs;let kW:List Value:=c.args.toList.map a.eval++cvs.toList
     obtain⟨p1,p2,p3⟩:=GS hI (vs++caps.map TV.c) kG as ids1 lent kW hargs (by simp[kW,hal,hcl]) (fun i t val hi hv=>by
      by_cases hlt:i<vs.length
      .rw [bH hlt]at hi;simp only[kW]at hv;rw[bH (by simp only[aM];omega),aQ]at hv;obtain⟨x,hx,rfl⟩:=aP.1 hv;exact har i x t hx hi
      .rw [bL (by omega),aQ]at hi;obtain⟨x,hx,rfl⟩:=aP.1 hi;simp only[kW]at hv;rw[bL (by simp only[aM];omega)]at hv;simp only[aM,<-hal]at hv;have:=hcr _ x hx;rw[bc]at hv;have e1:cvs.getD (i-vs.length) undef=val:=by simp[hv]
       rw[e1]at this;exact .c this)
     have hSlt:∀b,SB S w φ (aw H) ids1 b->b<w.heap.size:=by
      rintro b (hb|⟨i,hi,hb⟩)
      .exact hI.vJ b hb
      .obtain ⟨oi,hoi⟩:=BC _ _ _ _ _ hargs i hi;rcases eG.1 hb with rfl|⟨sz,sl,k,h1,h2⟩
       .exact (hI.iM i oi hoi).2.SJ hI.vJ
       .exact (hI.IN h1 h2).2.2.1
     have hnS:∀b∈((lent.flatMap (·.2.1)).flatMap (iw w φ (aw H))),¬SB S w φ (aw H) ids1 b:=by
      intro b hb hS;obtain⟨i,hi,hb⟩:=jl.1 hb;obtain⟨oi,hoi,hoio⟩:=p2 i hi;have hb1:=(oZ hI hoi hoio hb).1;rcases hS with hS|⟨j,hj,hje⟩
      .exact hb1 hS
      .obtain ⟨oj,hoj⟩:=BC _ _ _ _ _ hargs j hj;cases hjo:cW oj with
       |true=>
        refine oF hI hoi hoj hoio hjo (fun e=>?_) hb hje
        grind
       |false=>
        rcases eG.1 hje with rfl|⟨sz,sl,k,h1,_⟩
        .exact hb1 ((hI.iM j oj hoj).2.YH hjo)
        .rw [hoj]at h1;cases h1;cases hjo
     have hgood:=mo f as rs outs hcall (SB S w φ (aw H) ids1) w kW _ hSlt p1 (BB hI hnd p2) hnS (hI.Cj.mono (SB.tG _));intro next Q hn
     have hfin:∀val w',Left (SB S w φ (aw H) ids1) w ((lent.flatMap (·.2.1)).flatMap (iw w φ (aw H))) rs outs (nH as kW) val w'->next (a.put o.dst val) w':=by intro val w' hleft;refine hn val w' (J0 hI hfr p1 p2 p3 hwhole hnd hleft (ro:=ro) (v:=v) (u:=u) (rd:=az) ?_);exact h
     have hrun:∀r,(callFunc f kW.toArray).run P w=r->(execOp a.eval o).run P w=r:=by
      intro r hr;have e1:(#[]++c.args.map a.eval)++cvs=kW.toArray:=by apply Array.ext';simp[kW]
      simp only[execOp,ho,Sem.run_bind,resolve,hcal,hfe,Deferred.ofValue,Sem.run_pure,Result.andThen_ok,invoke,e1];exact hr
     rcases hgood with⟨g,as',hr,hc⟩|⟨val,hr,hleft⟩
     .unfold Oper.wp;rw[hrun _ hr,Oper.upon_enter];refine hc.mono fun en w' hR=>?_
      grind
     .unfold Oper.wp;rw[hrun _ hr];exact hfin val w hleft
   .simp at h
 .simp at h
end
section
variable{P:Program}{S K:Nat->Prop}{w0 w:World}{Kn:Nat->Prop}{φ:Nat->gV}{H:bC}{e:iL}{o:Oper}{call:Call}{a:Act}{bz:ww}{k:Ev.K}{args:List Operand}
 {nxt n':Nat} {v:TV} {u:eS} {az:List Nat}
theorem fH{vs:List (Option TV)}:cC call .gk vs H nxt=none:=by unfold cC;split<;>first|rfl|simp_all
theorem J2{op:BinOp}{t ty:TypeId}{x y:Operand}(ho:o.op=.binOp op t x y ty)(hk:H5 P op t x y=(k,args))(hI:Inv S K w0 Kn φ (aw H) w)(hE:iL.ok S w Kn φ e a.tmps)
  (h:cC call k (args.map (ke e)) H nxt=some (v,u,az,n')):dH P o a.eval S K w0 w Kn φ (aw H) nxt n' v u:=by
 have hρ:∀x tv,ke e x=some tv->fX S w Kn φ tv (a.eval x):=fun x tv h=>uy hI.Cj hE h
 have plainBin:(k,args)=(Ev.K.th op,[x,y])->dH P o a.eval S K w0 w Kn φ (aw H) nxt n' v u:=by
  intro hk;obtain⟨rfl,rfl⟩:=af hk
  grind [Rm]
 have nilBin:∀kind,(op=.eql\/op=.neq)->Lm P t kind->(k,args)=qS kind (op==.neq) x y->dH P o a.eval S K w0 w Kn φ (aw H) nxt n' v u:=by
  intro kind hop hu hk;unfold qS at hk;split at hk
  .rename_i hy;obtain⟨rfl,rfl⟩:=af hk;exact DS ho hop hu hI (fun _=>rfl) (.inl ⟨rfl,hy⟩) (fun z hz=>hρ x z hz) h
  .split at hk
   .rename_i hx;obtain⟨rfl,rfl⟩:=af hk;exact DS ho hop hu hI (fun _=>rfl) (.inr ⟨rfl,hx⟩) (fun z hz=>hρ y z hz) h
   .obtain ⟨rfl,rfl⟩:=af hk;rw[fH]at h;simp at h
 have eqs:(op=.eql\/op=.neq)->(match P.underlying t with
  |some .bool=>(Ev.K.vz (op==.neq),[x,y])
  |some (.int _)|some (.float _)|some .string=>(Ev.K.th op,[x,y])
  |some (.slice _)=>qS 0 (op==.neq) x y
  |some (.pointer _)=>qS 1 (op==.neq) x y
  |some (.func _ _ _)=>qS 2 (op==.neq) x y
  |some (.struct _)|some (.array _ _)=>match Am P 8 t with|some ks=>if P.eqGuardType P.depth t=false then(Ev.K.zJ (op==.neq) ks,[x,y])else(Ev.K.gk,[])|none=>(Ev.K.gk,[])
  |_=>(Ev.K.gk,[]))=(k,args)->dH P o a.eval S K w0 w Kn φ (aw H) nxt n' v u:=by
  intro hop hk;split at hk
  .rename_i hu
   grind [IZ]
  .exact plainBin hk.symm
  .exact plainBin hk.symm
  .exact plainBin hk.symm
  .rename_i hu;exact nilBin 0 hop ⟨_,hu⟩ hk.symm
  .rename_i hu;exact nilBin 1 hop ⟨_,hu⟩ hk.symm
  .rename_i hu;exact nilBin 2 hop ⟨_,_,_,hu⟩ hk.symm
  .rename_i hu;split at hk
   .rename_i hks;split at hk
    .rename_i hg
     grind [DT,ge]
    .obtain ⟨rfl,rfl⟩:=af hk;rw[fH]at h;simp at h
   .obtain ⟨rfl,rfl⟩:=af hk;rw[fH]at h;simp at h
  .rename_i hu;split at hk
   .rename_i hks;split at hk
    .rename_i hg
     grind [DT,ge]
    .obtain ⟨rfl,rfl⟩:=af hk;rw[fH]at h;simp at h
   .obtain ⟨rfl,rfl⟩:=af hk;rw[fH]at h;simp at h
  .obtain ⟨rfl,rfl⟩:=af hk;rw[fH]at h;simp at h
 cases op with|eql=>exact eqs (.inl rfl) hk|neq=>exact eqs (.inr rfl) hk|_=>exact plainBin hk.symm
theorem qI{α:Type}{x:Array α}{y:α}(h:x.toList=[y]):x= #[y]:=by rw[<-Array.toArray_toList (xs:=x),h]
theorem ny{α:Type}{x:Array α}{y z:α}(h:x.toList=[y,z]):x= #[y,z]:=by rw[<-Array.toArray_toList (xs:=x),h]
theorem AJ{b:Builtin}{c:n_}(ho:o.op=.call c)(hcal:c.callee=.builtin b)(hk:t_ P b c.args.toList c.argTypes.toList=(k,args))(hI:Inv S K w0 Kn φ (aw H) w)
  (hE:iL.ok S w Kn φ e a.tmps) (hn0:nxt<n'->¬Kn nxt) (h:cC call k (args.map (ke e)) H nxt=some (v,u,az,n')):dH P o a.eval S K w0 w Kn φ (aw H) nxt n' v u:=by
 have hρ:∀x tv,ke e x=some tv->fX S w Kn φ tv (a.eval x):=fun x tv h=>uy hI.Cj hE h
 have lenArgs:∀str,k=.len str->args=c.args.toList->∃x,c.args.toList=[x]:=by
  intro str hk ha;subst hk ha;generalize c.args.toList=l at h
  match l,h with|[x],_=>exact⟨x,rfl⟩|[],h=>simp[cC]at h|x::y::r,h=>simp[cC]at h
 unfold t_ at hk;split at hk
 .rename_i t hts;split at hk
  .rename_i hu;obtain⟨rfl,rfl⟩:=af hk;obtain⟨x,hx⟩:=lenArgs true rfl rfl
   grind [La,qI]
  .rename_i hu;obtain⟨rfl,rfl⟩:=af hk;obtain⟨x,hx⟩:=lenArgs false rfl rfl;rw[hx]at h;exact La (str:=false) ho hcal (qI hx) (qI hts) ⟨_,hu⟩ hI (fun z hz=>hρ x z hz) h
  .obtain ⟨rfl,rfl⟩:=af hk;rw[fH]at h;simp at h
 .obtain ⟨rfl,rfl⟩:=af hk;exact A4 (m:=true) ho hcal hI hρ h
 .obtain ⟨rfl,rfl⟩:=af hk;exact A4 (m:=false) ho hcal hI hρ h
 .rename_i s x hts;split at hk
  .rename_i el el2 hus hux;split at hk
   .rename_i n z hsz hz;split at hk
    .rename_i hb;obtain⟨rfl,rfl⟩:=af hk
     have:∃p q,c.args.toList=[p,q]:=by
      generalize c.args.toList=l at h
      match l,h with|[p,q],_=>exact⟨p,q,rfl⟩|[],h=>simp[cC]at h|[p],h=>simp[cC]at h|p::q::r::t,h=>simp[cC]at h
     grind [I0,ny]
    .obtain ⟨rfl,rfl⟩:=af hk;rw[fH]at h;simp at h
   .obtain ⟨rfl,rfl⟩:=af hk;rw[fH]at h;simp at h
  .rename_i el kd hus hux;split at hk
   .rename_i n z hsz hz;split at hk
    .rename_i hb;obtain⟨rfl,rfl⟩:=af hk
     have:∃p q,c.args.toList=[p,q]:=by
      generalize c.args.toList=l at h
      match l,h with|[p,q],_=>exact⟨p,q,rfl⟩|[],h=>simp[cC]at h|[p],h=>simp[cC]at h|p::q::r::t,h=>simp[cC]at h
     grind [Rn,ny]
    .obtain ⟨rfl,rfl⟩:=af hk;rw[fH]at h;simp at h
   .obtain ⟨rfl,rfl⟩:=af hk;rw[fH]at h;simp at h
  .obtain ⟨rfl,rfl⟩:=af hk;rw[fH]at h;simp at h
 .rename_i t hts;split at hk
  .rename_i el hu;obtain⟨rfl,rfl⟩:=af hk
   have:∃p,c.args.toList=[p]:=by
    generalize c.args.toList=l at h
    match l,h with|[p],_=>exact⟨p,rfl⟩|[],h=>simp[cC]at h|p::q::r,h=>simp[cC]at h
   grind [Rk,qI]
  .obtain ⟨rfl,rfl⟩:=af hk;rw[fH]at h;simp at h
 .rename_i d x hts;split at hk
  .rename_i el hud;split at hk
   .rename_i n hsz;obtain⟨rfl,rfl⟩:=af hk
    have:∃p q,c.args.toList=[p,q]:=by
     generalize c.args.toList=l at h
     match l,h with|[p,q],_=>exact⟨p,q,rfl⟩|[],h=>simp[cC]at h|[p],h=>simp[cC]at h|p::q::r::t,h=>simp[cC]at h
    grind [Ox,ny]
   .obtain ⟨rfl,rfl⟩:=af hk;rw[fH]at h;simp at h
  .obtain ⟨rfl,rfl⟩:=af hk;rw[fH]at h;simp at h
 .rename_i mt kt2 hts;split at hk
  .rename_i hu;split at hk
   .rename_i hm;obtain⟨rfl,rfl⟩:=af hk
    have:∃p q,c.args.toList=[p,q]:=by
     generalize c.args.toList=l at h
     match l,h with|[p,q],_=>exact⟨p,q,rfl⟩|[],h=>simp[cC]at h|[p],h=>simp[cC]at h|p::q::r::t,h=>simp[cC]at h
    grind [IX,ny]
   .obtain ⟨rfl,rfl⟩:=af hk;rw[fH]at h;simp at h
  .obtain ⟨rfl,rfl⟩:=af hk;rw[fH]at h;simp at h
 .rename_i d hts;split at hk
  .rename_i el hud;split at hk
   .rename_i n z hsz hz;split at hk
    .rename_i hzl;obtain⟨rfl,rfl⟩:=af hk
     have:∃p,c.args.toList=[p]:=by
      generalize c.args.toList=l at h
      match l,h with|[p],_=>exact⟨p,rfl⟩|[],h=>simp[cC]at h|p::q::r,h=>simp[cC]at h
     grind [Lf,qI]
    .obtain ⟨rfl,rfl⟩:=af hk;rw[fH]at h;simp at h
   .obtain ⟨rfl,rfl⟩:=af hk;rw[fH]at h;simp at h
  .obtain ⟨rfl,rfl⟩:=af hk;rw[fH]at h;simp at h
 .obtain ⟨rfl,rfl⟩:=af hk;rw[fH]at h;simp at h
theorem DN(mo:kE P call)(hk:xL P bz o.op=(k,args))(hI:Inv S K w0 Kn φ (aw H) w)(hE:iL.ok S w Kn φ e a.tmps)(hfr:∀j,nxt<=j->j<n'->¬Kn j)
  (h:cC call k (args.map (ke e)) H nxt=some (v,u,az,n')):P5 P o a S K w0 w Kn φ (aw H) nxt n' v u:=by
 have hρ:∀x tv,ke e x=some tv->fX S w Kn φ tv (a.eval x):=fun x tv h=>uy hI.Cj hE h;have hn0:nxt<n'->¬Kn nxt:=fun h=>hfr nxt (am _) h;have gk:(k,args)=(Ev.K.gk,[])->P5 P o a S K w0 w Kn φ (aw H) nxt n' v u:=by intro hk;obtain⟨rfl,rfl⟩:=af hk;rw[fH]at h;simp at h
 generalize hop:o.op=op at hk;unfold xL at hk;split at hk
 .obtain ⟨rfl,rfl⟩:=af hk;exact(Qd (.inl hop) hI (fun z hz=>hρ _ z hz) h).kH
 .obtain ⟨rfl,rfl⟩:=af hk;exact(Qd (.inr hop) hI (fun z hz=>hρ _ z hz) h).kH
 .obtain ⟨rfl,rfl⟩:=af hk;exact(Ov hop hI (fun z hz=>hρ _ z hz) (fun z hz=>hρ _ z hz) (fun z hz=>hρ _ z hz) h).kH
 .--alloc
  split at hk
  .rename_i hz;obtain⟨rfl,rfl⟩:=af hk;exact(Lg hop hz hI hn0 h).kH
  .exact gk hk.symm
 .obtain ⟨rfl,rfl⟩:=af hk;exact(Rl hop hI hn0 (fun z hz=>hρ _ z hz) h).kH
 .--build
  split at hk
  .rename_i hu hz;split at hk
   .rename_i hpl;split at hk
    .rename_i hall;obtain⟨rfl,rfl⟩:=af hk;exact(DV hop hz (.inl ⟨_,hu,hpl,hall⟩) hI hρ h).kH
    .exact gk hk.symm
   .exact gk hk.symm
  .rename_i hu hz;split at hk
   .rename_i hs;obtain⟨rfl,rfl⟩:=af hk;exact(DV hop hz (.inr ⟨_,_,_,hu,hs,rfl⟩) hI hρ h).kH
   .exact gk hk.symm
  .exact gk hk.symm
 .--buildSlice
  split at hk
  .rename_i hu;split at hk
   .rename_i hs hz;split at hk
    .rename_i hl;obtain⟨rfl,rfl⟩:=af hk;exact(Oy hop hu hs hz ⟨hl.1,hl.2.1⟩ hI hn0 hρ h).kH
    split at hk
    .rename_i hl;obtain⟨rfl,rfl⟩:=af hk;exact(Ay hop hu hs hz hl hI hn0 hρ h).kH
    .exact gk hk.symm
   .exact gk hk.symm
  .exact gk hk.symm
 .--load
  split at hk
  .rename_i ha hs;obtain⟨rfl,rfl⟩:=af hk;split at h
   .rename_i hc;obtain⟨_,_,rfl,rfl⟩:=hc;exact(K_ hop ha hs hI hn0 (fun z hz=>hρ _ z hz) h).kH
   .exact (Hu hop ha hs hI (fun z hz=>hρ _ z hz) h).kH
  .exact gk hk.symm
 .--store
  split at hk
  .rename_i hs;obtain⟨rfl,rfl⟩:=af hk;exact(K8 hop hs hI (fun z hz=>hρ _ z hz) (fun z hz=>hρ _ z hz) h).kH
  .exact gk hk.symm
 .obtain ⟨rfl,rfl⟩:=af hk;exact(DP hop hI (fun z hz=>hρ _ z hz) h).kH
 .exact (J2 hop hk hI hE h).kH
 .obtain ⟨rfl,rfl⟩:=af hk;exact(Un hop hI (fun z hz=>hρ _ z hz) h).kH
 .--convert
  split at hk
  .rename_i hs hd;obtain⟨rfl,rfl⟩:=af hk;exact(F6 hop hs hd hI (fun z hz=>hρ _ z hz) h).kH
  .rename_i hs hd;obtain⟨rfl,rfl⟩:=af hk;exact(Le hop hs hd hI (fun z hz=>hρ _ z hz) h).kH
  .rename_i hs hd;obtain⟨rfl,rfl⟩:=af hk;exact(DU hop hs hd hI (fun z hz=>hρ _ z hz) h).kH
  .exact gk hk.symm
 .--makeFunc
  split at hk
  .rename_i hf;obtain⟨rfl,rfl⟩:=af hk;exact(Ow hop hf hI hρ h).kH
  .exact gk hk.symm
 .--makeSlice
  split at hk
  .rename_i hu;split at hk
   .rename_i hs hz;split at hk
    .rename_i hl;obtain⟨rfl,rfl⟩:=af hk;split at h
     .rename_i m hm;unfold Qi at hm;split at hm
      .rename_i hc;split at hm
       .split at hm
        .obtain rfl:=aa hm;exact(K9 hop hu hs hz hl.1 hl.2 hc.2 (dv _) hI hn0 (fun z hz=>hρ _ z hz) (fun z hz=>hρ _ z hz) h).kH
        .cases hm
       .cases hm
      .cases hm
     .exact (vW hop hu hs hz hl.1 hl.2 hI hn0 (fun z hz=>hρ _ z hz) (fun z hz=>hρ _ z hz) h).kH
    .exact gk hk.symm
   .exact gk hk.symm
  .exact gk hk.symm
 .--slice
  split at hk
  .rename_i hu;obtain⟨rfl,rfl⟩:=af hk;exact(DO (str:=true) hop hu hI hρ h).kH
  .rename_i hu;split at hk
   .rename_i hs;obtain⟨rfl,rfl⟩:=af hk;exact(DO (str:=false) hop ⟨_,hu,hs⟩ hI hρ h).kH
   .exact gk hk.symm
  .exact gk hk.symm
 .--wK
  split at hk
  .rename_i hu;split at hk
   .rename_i hs;obtain⟨rfl,rfl⟩:=af hk;exact(IV hop hu hs hI hn0 hρ h).kH
   .exact gk hk.symm
  .exact gk hk.symm
 .--fieldAddr
  split at hk
  .rename_i hu;split at hk
   .rename_i hf;split at hk
    .rename_i hs;obtain⟨rfl,rfl⟩:=af hk;exact(B2 hop hu hf hs hI (fun z hz=>hρ _ z hz) h).kH
    .exact gk hk.symm
   .exact gk hk.symm
  .exact gk hk.symm
 .--field
  split at hk
  .rename_i hu;split at hk
   .rename_i hf;split at hk
    .rename_i ha hs;obtain⟨rfl,rfl⟩:=af hk;exact(Lc hop hu hf ha hs hI (fun z hz=>hρ _ z hz) h).kH
    .exact gk hk.symm
   .exact gk hk.symm
  .exact gk hk.symm
 .--indexAddr
  split at hk
  .rename_i hu;split at hk
   .rename_i hs;split at hk
    .obtain ⟨rfl,rfl⟩:=af hk;exact(Ri hop hu hs hI (fun z hz=>hρ _ z hz) (fun z hz=>hρ _ z hz) h).kH
    .obtain ⟨rfl,rfl⟩:=af hk;exact(vX (aK:=none) hop ⟨_,hu,hs⟩ hI (fun z hz=>hρ _ z hz) (fun z hz=>hρ _ z hz) h).kH
   .exact gk hk.symm
  .rename_i hu;split at hk
   .rename_i hs;obtain⟨rfl,rfl⟩:=af hk;exact(vX (aK:=some _) hop ⟨_,hu,hs⟩ hI (fun z hz=>hρ _ z hz) (fun z hz=>hρ _ z hz) h).kH
   .exact gk hk.symm
  .exact gk hk.symm
 .--index
  split at hk
  .rename_i hu;obtain⟨rfl,rfl⟩:=af hk;exact(DR hop hu hI (fun z hz=>hρ _ z hz) (fun z hz=>hρ _ z hz) h).kH
  .rename_i hu;split at hk
   .rename_i ha hs;obtain⟨rfl,rfl⟩:=af hk;exact(Lb hop hu ha hs hI (fun z hz=>hρ _ z hz) (fun z hz=>hρ _ z hz) h).kH
   .exact gk hk.symm
  .exact gk hk.symm
 .obtain ⟨rfl,rfl⟩:=af hk;exact(F5 hop hI (fun z hz=>hρ _ z hz) h).kH
 .--makeMap
  split at hk
  .split at hk
   .obtain ⟨rfl,rfl⟩:=af hk;exact(F4 hop hI hn0 h).kH
   .exact gk hk.symm
  .exact gk hk.symm
 .--lookup
  split at hk
  .rename_i hu;split at hk
   .rename_i hm;obtain⟨rfl,rfl⟩:=af hk;exact(IY hop hu hm hI (fun z hz=>hρ _ z hz) (fun z hz=>hρ _ z hz) h).kH
   .exact gk hk.symm
  .exact gk hk.symm
 .--mapEntry
  split at hk
  .rename_i hu;split at hk
   .rename_i hm;obtain⟨rfl,rfl⟩:=af hk;exact(DQ hop hu hm hI (fun z hz=>hρ _ z hz) (fun z hz=>hρ _ z hz) h).kH
   .exact gk hk.symm
  .exact gk hk.symm
 .--mapUpdate
  split at hk
  .rename_i hu;split at hk
   .rename_i hm;obtain⟨rfl,rfl⟩:=af hk;exact(IW hop hu hm hI (fun z hz=>hρ _ z hz) (fun z hz=>hρ _ z hz) (fun z hz=>hρ _ z hz) h).kH
   .exact gk hk.symm
  .exact gk hk.symm
 .--entryStore
  split at hk
  .split at hk
   .obtain ⟨rfl,rfl⟩:=af hk;exact(Ax hop hI (fun z hz=>hρ _ z hz) (fun z hz=>hρ _ z hz) (fun z hz=>hρ _ z hz) h).kH
   .exact gk hk.symm
  .exact gk hk.symm
 .--call
  rename_i c;split at hk
  .rename_i hcal;exact(AJ hop hcal hk hI hE hn0 h).kH
  .rename_i f hcal;split at hk
   .split at hk
    .rename_i hf;obtain⟨rfl,rfl⟩:=af hk
     have:∃p q,c.args.toList=[p,q]:=by
      generalize c.args.toList=l at h
      match l,h with|[p,q],_=>exact⟨p,q,rfl⟩|[],h=>simp[cC]at h|[p],h=>simp[cC]at h|p::q::r::t,h=>simp[cC]at h
     obtain⟨p,q,hpq⟩:=this;rw[hpq]at h;exact(Rh hop hcal (ny hpq) hf rfl hI (fun z hz=>hρ p z hz) (fun z hz=>hρ q z hz) h).kH
    .exact gk hk.symm
   .obtain ⟨rfl,rfl⟩:=af hk;exact Hv hop hcal mo hI hfr hρ h
  .rename_i hcal;obtain⟨rfl,rfl⟩:=af hk;exact Hv hop hcal mo hI hfr hρ h
  .exact gk hk.symm
 .exact gk hk.symm
end
def gK(P:Program)(bz:ww)(nt:Nat)(all:Array Oper)(o:Oper):mO:=
 {dst:=o.dst
  k:=if(match o.dst with|some d=>decide (d<nt)|none=>true)then(xL P bz o.op).1 else .gk
  args:=(xL P bz o.op).2
  guard:=match o.guard with|none=>none|some (j,b)=>some (((all[j]?).bind (·.dst)).getD 1000000000,b)}
def sU:C:=.pp 0 []
def RG(S:Nat->Prop)(w:World)(Kn:Nat->Prop)(φ:Nat->gV)(c:C)(v:Value):Prop:=c=sU\/RC S w Kn φ c v
theorem RG.mono{S S':Nat->Prop}{w w':World}{Kn Kn':Nat->Prop}{φ φ':Nat->gV}(hs:gZ S w S' w')(hr:Ren Kn φ Kn' φ'){x:C}{v:Value}(h:RG S w Kn φ x v):RG S' w' Kn' φ' x v:=h.imp id fun h=>h.mono hs hr
structure GX(S K:Nat->Prop)(w0:World)(Kn:Nat->Prop)(φ:Nat->gV)(gv:List Value)(nt:Nat)(s:St)(a:Act)(w:World):Prop where
 inv:Inv S K w0 Kn φ (aw s.heap) w
 dE:iL.ok S w Kn φ s.dE a.tmps
 size:a.tmps.size=nt
 defers:a.defers=[]
 gx:∀j,s.next<=j->¬Kn j
 gh:∀(i:Nat)(c:C)(v:Value),s.gh[i]?=some c->gv[i]?=some v->RG S w Kn φ c v
section
variable{P:Program}{S K:Nat->Prop}{w0 w:World}{Kn:Nat->Prop}{φ:Nat->gV}{gv:List Value}{nt:Nat}{a:Act}{call:Call}{bz:ww}{s s':St}
theorem Oh{a:Act}{d:Nat}{v:Value}(h:d<a.tmps.size)(t:Nat):(a.put (some d) v).tmps.getD t undef=if t=d then v else a.tmps.getD t undef:=by
 simp only[Act.put,bN,abK];by_cases e:d=t
 .subst e;simp[h]
 .have e2:¬t=d:=fun h=>e h.symm;simp[e,e2]
theorem vT{a:Act}(d:Option Nat)(v:Value):(a.put d v).tmps.size=a.tmps.size:=by cases d<;>simp[Act.put]
theorem sy{a:Act}(d:Option Nat)(v:Value):(a.put d v).defers=a.defers:=by cases d<;>simp[Act.put]
theorem lX(e:iL)(d:Option Nat)(v:TV)(t:Nat):cm (put e d v) t=if d=some t then some v else cm e t:=by
 cases d with
 |none=>simp[put]
 |some d=>
  simp only[put,cm];by_cases h:d=t
  .simp [h]
  .have h':(d==t)=false:=by simpa using h
   simp[h,h']
theorem zH(e:iL)(d:Option Nat)(t:Nat):cm (drop e d) t=if d=some t then some (.ia [])else cm e t:=lX e d (.ia []) t
theorem iL.KU{e:iL}{S':Nat->Prop}{w':World}{Kn':Nat->Prop}{φ':Nat->gV}(hE:iL.ok S w Kn φ e a.tmps)(hs:gZ S w S' w')(hr:Ren Kn φ Kn' φ'){d:Option Nat}{v:TV}{val:Value}
  (hd:∀x,d=some x->x<a.tmps.size) (hv:fX S' w' Kn' φ' v val):iL.ok S' w' Kn' φ' (Ev.put e d v) (a.put d val).tmps:=by
 intro t x hx;rw[lX]at hx;cases d with
 |none=>simp only[reduceCtorEq,if_false]at hx;exact(hE t x hx).mono hs hr
 |some d=>
  rw[Oh (hd d rfl)];by_cases h:t=d
  .subst h;simp only[if_true]at hx;rw[if_pos rfl,<-aa hx];exact hv
  .have h2:¬(some d=some t):=fun e=>h (aa e).symm;rw[if_neg h2]at hx;rw[if_neg h];exact(hE t x hx).mono hs hr
theorem iL.yu{e:iL}(hE:iL.ok S w Kn φ e a.tmps){d:Option Nat}:iL.ok S w Kn φ (Ev.drop e d) (a.put d undef).tmps:=by
 intro t x hx;rw[zH]at hx;have hu:fX S w Kn φ (.ia []) undef:=.ia rfl fun i x hi=>by simp at hi
 split at hx
 .rename_i h;subst h;obtain rfl:=aa hx;have:(a.put (some t) undef).tmps.getD t undef=undef:=by simp only[Act.put,bN,abK,if_true];split<;>rfl
  rw[this];exact hu
 .rename_i h;have:=hE t x hx;cases d with|none=>exact this|some d=>have h2:¬d=t:=fun e=>h (by rw[e]);simp only[Act.put,bN,abK,if_neg h2];rw[bN]at this;exact this
theorem qp{e:iL}(hE:iL.ok S w Kn φ e a.tmps)(hsz:a.tmps.size<1000000000){all:Array Oper}{o:Oper}{b:Bool}(h:j8 e (gK P bz nt all o).guard=some b):
  Region.wanted o (yielded all a.tmps)=b:=by
 unfold gK at h;simp only at h;unfold Region.wanted;cases hg:o.guard with
 |none=>rw[hg]at h;simpa[j8]using h
 |some p=>
  obtain⟨j,want⟩:=p;rw[hg]at h;simp only[j8]at h;split at h
  .rename_i x hx;have hr:=hE _ _ hx;obtain⟨hv,_⟩:=hr.lit;cases hd:(all[j]?).bind (·.dst)with
   |none=>rw[hd]at hv;simp only[Option.getD_none]at hv;rw[bN,Array.getElem?_eq_none (by omega)]at hv;simp[undef]at hv
   |some t=>
    rw[hd]at hv;simp only[bF]at hv
    have ht:a.tmps[t]?=some (.bool x):=by
     rw[bN]at hv;cases ht:a.tmps[t]?with
     |none=>rw[ht]at hv;simp[undef]at hv
     |some y=>rw[ht]at hv;simpa using hv
    obtain rfl:=aa h;simp only[yielded,hd,ah,ht];cases x<;>cases want<;>rfl
  .rename_i hx;have hr:=hE _ _ hx;obtain rfl:=aa h;cases hd:(all[j]?).bind (·.dst)with
   |none=>simp only[yielded,hd,Option.bind_none];rfl
   |some t=>
    rw[hd]at hr;simp only[bF]at hr;generalize hv:a.tmps.getD t undef=v at hr;cases hr with
    |@ia _ aK hlen _=>
     rw[bN]at hv;simp only[yielded,hd,ah];cases ht:a.tmps[t]?with
     |none=>rfl
     |some y=>rw[ht]at hv;simp only[bF]at hv;subst hv;rfl
  .simp at h
end
section
variable{H H':bC}
def h_(H H':bC)(az:List Nat):Prop:=∀i∈az,aw H' i=aw H i
theorem h_.left{a b:List Nat}(h:h_ H H' (a++b)):h_ H H' a:=fun i hi=>h i (aI _ hi)
theorem h_.right{a b:List Nat}(h:h_ H H' (a++b)):h_ H H' b:=fun i hi=>h i (aG _ hi)
theorem vd:∀n,(∀c x az,eM H n c=some (x,az)->h_ H H' az->eM H' n c=some (x,az))/\
  (∀cs xs az,gw H n cs=some (xs,az)->h_ H H' az->gw H' n cs=some (xs,az)):=by
 have leaf:∀n c x az,(match c with|.op _ _|.pp _ _=>False|_=>True)->eM H n c=some (x,az)->h_ H H' az->eM H' n c=some (x,az):=by
  intro n c x az hl h ha;cases c with
  |d y=>simpa only[eM]using h
  |cE sz id off len=>
   have:=ha id (by
    simp only[eM]at h
    grind)
   simp only[eM]at h|-;rw[this];exact h
  |ep id fy off=>
   have:=ha id (by
    simp only[eM]at h
    grind)
   simp only[eM]at h|-;rw[this];exact h
  |op id off=>exact hl.elim
  |pp f caps=>exact hl.elim
  |om id=>cases n<;>simp[eM]at h
 intro n;induction n with
 |zero=>
  refine⟨fun c x az h ha=>?_,fun cs xs az h ha=>?_⟩
  .cases c with|op id off=>simp[eM]at h|pp f caps=>simp[eM]at h|_=>exact leaf 0 _ x az trivial h ha
  grind [gw]
 |succ n ih=>
  refine⟨fun c x az h ha=>?_,fun cs xs az h ha=>?_⟩
  .cases c with
   |op id off=>
    simp only[eM]at h|-;split at h
    .rename_i ho;split at h
     .rename_i hle;obtain⟨rfl,rfl⟩:=af (aa h);rw[ha id (by simp),ho];simp only[hle,if_true]
     .simp at h
    .rename_i ho;split at h
     .rename_i hv;split at h
      .rename_i hle;obtain⟨rfl,rfl⟩:=af (aa h);rw[ha id (by simp),ho];simp only[ih.2 _ _ _ hv (fun i hi=>ha i (by simp[hi])),hle,if_true]
      .simp at h
     .simp at h
    .simp at h
   |pp f caps=>
    simp only[eM]at h|-
    grind
   |_=>exact leaf _ _ x az trivial h ha
  .cases cs with
   |nil=>simpa only[gw]using h
   |cons c cs=>
    simp only[gw]at h|-;split at h
    .rename_i h1 h2;obtain⟨rfl,rfl⟩:=af (aa h);simp only[ih.1 _ _ _ h1 ha.left,ih.2 _ _ _ h2 ha.right]
    .simp at h
theorem pw:∀cs xs az,dZ H cs=some (xs,az)->h_ H H' az->dZ H' cs=some (xs,az):=by
 intro cs;induction cs with
 |nil=>intro xs az h _;simpa only[dZ]using h
 |cons c cs ih=>
  intro xs az h ha;simp[dZ]at h|-;split at h
  .rename_i h1 h2;obtain⟨rfl,rfl⟩:=af (aa h);simp[(vd 300).1 _ _ _ h1 ha.left,ih _ _ h2 ha.right]
  .simp at h
theorem pD{all:List Nat}(ha:h_ H H' all):∀(l:List Nat)(u:eS),(∀i∈l,i∈all)->dJ H all l=some u->dJ H' all l=some u:=by
 intro l;induction l with
 |nil=>intro u _ h;simpa only[dJ]using h
 |cons a l ih=>
  intro u hl h;simp[dJ]at h|-;split at h
  .rename_i o u' ho hu
   have hob:kw H' all a=some o:=by
    unfold kw at ho|-;rw[ha a (hl a (by simp))];split at ho
    .exact ho
    .exact ho
    .exact ho
    .split at ho
     .rename_i hv;split at ho
      .rename_i hall;simp only[(vd 300).2 _ _ _ hv (fun i hi=>ha i (by simp_all)),hall];exact ho
      .simp at ho
     .simp at ho
    .simp at ho
    .simp at ho
    .exact ho
    .simp at ho
   simp_all
  .simp at h
theorem zx{agg:Bool}{n:Nat}{p:C}{v:TV}{az:List Nat}(h:iv agg n p H=some (v,az))(ha:h_ H H' az):iv agg n p H'=some (v,az):=by
 unfold iv at h|-;split at h
 .exact h
 .rename_i id fy off
  have:=ha id (by
   grind)
  simp[this];exact h
 .rename_i id off
  have:=ha id (by
   grind)
  simp[this];exact h
 .simp at h
theorem FS{id fy sz:Nat}{slots:List ly}{cs:List C}{u:eS}{az:List Nat}(h:sI id fy sz slots cs H=some (u,az))(ha:h_ H H' az):sI id fy sz slots cs H'=some (u,az):=by
 unfold sI at h|-;split at h
 .exact h
 .rename_i sz' id2 len
  have hid:id2∈az:=by
   grind
  simp[ha id2 hid];exact h
 .simp at h
theorem D4{agg:Bool}{n nxt n':Nat}{p:C}{v:TV}{u:eS}{az:List Nat}(h:lY agg n p H nxt=some (v,u,az,n'))(ha:h_ H H' az):iv agg n p H'=none/\lY agg n p H' nxt=some (v,u,az,n'):=by
 unfold lY at h;split at h
 case h_2=>simp at h
 rename_i id fy;split at h
 case h_2=>simp at h
 rename_i sz slots ho
 have hid:id∈az:=by
  grind
 have ho':aw H' id=some (.nst sz slots):=by rw[ha id hid];exact ho
 grind [iv,lY]
theorem Db{n:Nat}{p:C}{v:TV}{u:eS}{az:List Nat}(h:mL n p v H=some (u,az))(ha:h_ H H' az):mL n p v H'=some (u,az):=by
 unfold mL at h|-;split at h
 .simp at h
 .rename_i cs hcs;split at h
  .rename_i hlen;simp only[hlen,if_true];split at h
   .rename_i id fy off;split at h
    .rename_i sz rows ho;split at h
     .rename_i r ds ids1 hr hv;split at h
      .rename_i u1 hfz;split at h
       .rename_i hb;obtain⟨rfl,rfl⟩:=af (aa h);have ha1:h_ H H' ids1:=fun i hi=>ha i (by simp[hi]);simp only[ha id (by simp),ho,hr,pw _ _ _ hv ha1,pD ha1 _ _ (fun i hi=>hi) hfz,hb.1,hb.2,and_self,if_true]
       .simp at h
      .simp at h
     .simp at h
    .rename_i sz slots ho;split at h
     .rename_i hc
      have hid:id∈az/\∀i,cs=[.cE sz i 0 0]->True:=by
       unfold sI at h
       grind
      simp only[ha id hid.1,ho,if_pos hc];exact FS h ha
     .simp at h
    .simp at h
   .rename_i id off;split at h
    .rename_i cells ho;split at h
     .rename_i hb;obtain⟨rfl,rfl⟩:=af (aa h);simp only[ha id (by simp),ho,hb,if_true]
     .simp at h
    .simp at h
   .simp at h
  .simp at h
theorem pz{sz:Nat}{x:C}{new:List (List D)}{az:List Nat}(h:gF sz H x=some (new,az))(ha:h_ H H' az):gF sz H' x=some (new,az):=by
 unfold gF at h|-;split at h
 .exact h
 .exact h
 .rename_i sz' id off len
  have:=ha id (by
   grind)
  simp[this];exact h
 .simp at h
theorem GB{sz:Nat}{d x:C}{i:Int}{u:eS}{az:List Nat}(h:jY sz d x H=some (i,u,az))(ha:h_ H H' az):jY sz d x H'=some (i,u,az):=by
 unfold jY at h|-;split at h
 .rename_i new ids1 hr;obtain⟨_,_,rfl⟩:_/\_/\ids1=az:=by simpa using h
  rw[pz hr ha];exact h
 .rename_i new ids1 sz' id off len hr;split at h
  .rename_i szo rows ho;split at h
   .rename_i hb;obtain⟨_,_,rfl⟩:_/\_/\id::ids1=az:=by simpa using h
    rw[pz hr fun j hj=>ha j (aF _ hj)];simp only[ha id (by simp),ho,if_pos hb];exact h
   .simp at h
  .simp at h
 .simp at h
theorem EK{sz:Nat}{d x:C}{i:Int}{u:eS}{az:List Nat}(h:lj sz d x H=some (i,u,az))(ha:h_ H H' az):lj sz d x H'=some (i,u,az)/\jY sz d x H'=none:=by
 unfold lj at h|-;split at h
 case h_2=>simp at h
 rename_i sz' id off len sz2 id2 off2 len2
 have hids:az=[id,id2]:=by
  grind
 subst hids;have a1:=ha id (by simp);have a2:=ha id2 (by simp);unfold jY
 grind
theorem CK{sz nxt n':Nat}{s x:C}{v:TV}{u:eS}{az:List Nat}(h:jI sz s x H nxt=some (v,u,az,n'))(ha:h_ H H' az):jI sz s x H' nxt=some (v,u,az,n'):=by
 unfold jI at h|-;split at h
 .simp at h
 .rename_i new ids1 hr;split at h
  .grind [pz]
  .rename_i sz' id off len;split at h
   .rename_i szo rows ho;split at h
    .rename_i hb;have e1:id::ids1=az:=by simp_all
     subst e1;simp only[pz hr (fun i hi=>ha i (by simp[hi])),ha id (by simp),ho];rw[if_pos hb];exact h
    .simp at h
   .simp at h
  .simp at h
theorem FY:∀n,(∀c t bD rd,dU H n c=some (t,bD,rd)->h_ H H' rd->dU H' n c=some (t,bD,rd))/\
  (∀cs ts bD rd,jc H n cs=some (ts,bD,rd)->h_ H H' rd->jc H' n cs=some (ts,bD,rd)):=by
 have leaf:∀n c t bD rd,(match c with|.op _ _=>False|_=>True)->dU H n c=some (t,bD,rd)->h_ H H' rd->dU H' n c=some (t,bD,rd):=by
  intro n c t bD rd hl h ha;cases c with
  |d y=>cases n<;>simpa only[dU]using h
  |cE sz id off len=>
   have hm:id∈rd:=by
    cases n<;>
    .grind [dU]
   have:=ha id hm;cases n<;>
   .simp only[dU]at h|-;rw[this];exact h
  |ep id fy off=>cases n<;>simp[dU]at h
  |pp f caps=>cases n<;>simp[dU]at h
  |om id=>
   simp only[dU]at h|-
   have hm:id∈rd:=by
    grind
   rw[ha id hm];exact h
  |op id off=>exact hl.elim
 intro n;induction n with
 |zero=>
  refine⟨fun c t bD rd h ha=>?_,fun cs ts bD rd h ha=>?_⟩
  .cases c with|op id off=>simp[dU]at h|_=>exact leaf 0 _ t bD rd trivial h ha
  grind [jc]
 |succ n ih=>
  refine⟨fun c t bD rd h ha=>?_,fun cs ts bD rd h ha=>?_⟩
  .cases c with
   |op id off=>
    cases off with
    |succ off=>simp[dU]at h
    |zero=>
     simp only[dU]at h|-;split at h
     .rename_i ho;split at h
      .rename_i ts own' rd' hp;obtain⟨h1,h2,h3⟩:=(by simpa using h:T.pt ts=t/\id::own'=bD/\id::rd'=rd)
       subst h1 h2 h3;rw[ha id (by simp),ho];simp only[ih.2 _ _ _ _ hp (fun i hi=>ha i (by simp[hi]))]
      .simp at h
     .rename_i cells ho;obtain⟨h1,h2,h3⟩:=(by simpa using h:T.d (.pt cells)=t/\[]=bD/\[id]=rd)
      subst h1 h2 h3;rw[ha id (by simp),ho]
     .simp at h
   |_=>exact leaf _ _ t bD rd trivial h ha
  .cases cs with
   |nil=>simpa only[jc]using h
   |cons c cs=>
    simp only[jc]at h|-;split at h
    .rename_i t0 a i0 ts0 b j0 h1 h2;obtain⟨e1,e2,e3⟩:=(by simpa using h:t0::ts0=ts/\a++b=bD/\i0++j0=rd)
     subst e1 e2 e3;simp only[ih.1 _ _ _ _ h1 ha.left,ih.2 _ _ _ _ h2 ha.right]
    .simp at h
theorem z8:∀(tvs:List TV)(ms:List Bool)(as:List A)(az:List Nat)(lent:List (C×List Nat×List Nat)),gJ H tvs ms=some (as,az,lent)->h_ H H' az->h_ H H' (lent.flatMap (·.2.2))->
  gJ H' tvs ms=some (as,az,lent):=by
 intro tvs;induction tvs with
 |nil=>intro ms as az lent h _ _;simpa only[gJ]using h
 |cons t tvs ih=>
  intro ms as az lent h ha hb;simp[gJ]at h|-;split at h
  .simp at h
  .rename_i as1 ids1 lent1 hrec;split at h
   .rename_i hm;split at h
    .split at h
     .rename_i t0 bD rd hp;obtain⟨e1,e2,e3⟩:=(by simpa using h:A.mt t0::as1=as/\ids1=az/\(_,bD,rd)::lent1=lent)
      subst e1 e2 e3;simp only[ih _ _ _ _ hrec ha hb.right,hm,if_true,(FY 300).1 _ _ _ _ hp hb.left]
     .simp at h
    .simp at h
   .rename_i hm;split at h
    .split at h
     .rename_i x i hv;obtain⟨e1,e2,e3⟩:=(by simpa using h:A.d x::as1=as/\i++ids1=az/\lent1=lent)
      subst e1 e2 e3;simp only[ih _ _ _ _ hrec ha.right hb,hm,if_false,aH,(vd 300).1 _ _ _ hv ha.left]
     .simp at h
    .split at h
     .rename_i xs i hv;obtain⟨e1,e2,e3⟩:=(by simpa using h:A.agg xs::as1=as/\i++ids1=az/\lent1=lent)
      subst e1 e2 e3;simp only[ih _ _ _ _ hrec ha.right hb,hm,if_false,aH,pw _ _ _ hv ha.left]
     .simp at h
    .simp at h
theorem HI:∀(tvs:List TV)(ms:List Bool)(as:List A)(az:List Nat)(lent:List (C×List Nat×List Nat)),gJ H tvs ms=some (as,az,lent)->
  ∀c bD rd,(c,bD,rd)∈lent->∃t,dU H 300 c=some (t,bD,rd):=by
 intro tvs;induction tvs with
 |nil=>
  intro ms as az lent h c bD rd hm;obtain⟨_,_,rfl⟩:[]=as/\[]=az/\[]=lent:=by simpa[gJ]using h
  simp at hm
 |cons t tvs ih=>
  intro ms as az lent h c bD rd hm;simp[gJ]at h;split at h
  .simp at h
  .rename_i as1 ids1 lent1 hrec;split at h
   .split at h
    .split at h
     .rename_i c0 _ t0 own0 rd0 hp;obtain⟨_,_,e3⟩:=(by simpa using h:A.mt t0::as1=as/\ids1=az/\(_,own0,rd0)::lent1=lent)
      subst e3;rcases aN.1 hm with hm|hm
      .simp at hm;obtain⟨g1,g2,g3⟩:=hm;rw[g1,g2,g3];exact⟨_,hp⟩
      .exact ih _ _ _ _ hrec c bD rd hm
     .simp at h
    .simp at h
   .split at h
    .split at h
     .obtain ⟨_,_,e3⟩:=(by simpa using h:_/\_/\lent1=lent)
      subst e3;exact ih _ _ _ _ hrec c bD rd hm
     .simp at h
    .split at h
     .obtain ⟨_,_,e3⟩:=(by simpa using h:_/\_/\lent1=lent)
      subst e3;exact ih _ _ _ _ hrec c bD rd hm
     .simp at h
    .simp at h
theorem xw:∀(l:List (C×List Nat×List Nat)),(∀c bD rd,(c,bD,rd)∈l->∃t,dU H 300 c=some (t,bD,rd))->h_ H H' (l.flatMap (·.2.2))->eY H' l=eY H l:=by
 intro l;induction l with
 |nil=>intro _ _;rfl
 |cons p l ih=>
  obtain⟨c,bD,rd⟩:=p;intro hp ha;have h1:=ih (fun c bD rd hm=>hp c bD rd (by simp[hm])) ha.right;cases c with
  |cE sz id off len=>
   have hm:id∈rd:=by
    grind [dU]
   simp[eY,h1,ha.left id hm]
  |_=>simp[eY,h1]
theorem GL{call:Call}{ro:Bool}{kG:List Bool}{f:Option TV}{vs:List (Option TV)}{nxt n':Nat}{v:TV}{u:eS}{az:List Nat}(h:vy call ro kG f vs H nxt=some (v,u,az,n'))(ha:h_ H H' az):
  vy call ro kG f vs H' nxt=some (v,u,az,n'):=by
 unfold vy at h|-;split at h
 .split at h
  .simp at h
  .rename_i as ids1 lent hargs;split at h
   .rename_i hcond;split at h
    .simp at h
    .rename_i rs outs hcall;by_cases hro:ro=true
     .rw [if_pos hro]at h;split at h
      .split at h
       .simp at h
       .rename_i bu m hbk;have e1:ids1++lent.flatMap (·.2.2)=az:=by simp_all
        subst e1;simp only[z8 _ _ _ _ _ hargs ha.left ha.right];rw[if_pos (by rw[xw lent (HI _ _ _ _ _ hargs) ha.right];exact hcond)];simp_all
      .simp at h
     .rw [if_neg hro]at h;split at h
      .simp at h
      .rename_i fu hfz;split at h
       .simp at h
       .rename_i bu m hbk;have e1:ids1++lent.flatMap (·.2.2)=az:=by simp_all
        subst e1;simp only[z8 _ _ _ _ _ hargs ha.left ha.right];rw[if_pos (by rw[xw lent (HI _ _ _ _ _ hargs) ha.right];exact hcond)];simp only[hcall];rw[if_neg hro];simp only[pD ha.left _ _ (fun i hi=>hi) hfz,hbk];exact h
   .simp at h
 .simp at h
theorem xp{call:Call}{sz len:Nat}{zero:List Value}{places:List Nat}{vs:List (Option TV)}{nxt n':Nat}{v:TV}{u:eS}{az:List Nat}
  (h:cC call (.buildSlice sz len zero places) vs H nxt=some (v,u,az,n')) (ha:h_ H H' az):cC call (.buildSlice sz len zero places) vs H' nxt=some (v,u,az,n'):=by
 have key:∀G,cC call (.buildSlice sz len zero places) vs G nxt=(match dY vs with
  |some xs=>
   (match li _ _ with
   |some cs=>
    (match dZ G cs with
    |some (ds,az)=>(match dJ G az az with|some u=>some (TV.c _,(nxt,some _)::u,az,nxt+1)|none=>none)
    |none=>none)
   |none=>none)
  |none=>none):=fun _=>rfl
 rw[key]at h|-;split at h
 .split at h
  .split at h
   .grind [pw,pD]
   .simp at h
  .simp at h
 .simp at h
theorem B8{ka va ok:Bool}{ks:List Kd}{z:List Value}{m:C}{k v:TV}{az:List Nat}(h:iQ ka ks va z ok m k H=some (v,az))(ha:h_ H H' az):iQ ka ks va z ok m k H'=some (v,az):=by
 unfold iQ at h|-;split at h
 .exact h
 .rename_i id key hkey
  have hid:id∈az:=by
   grind
  simp[ha id hid];exact h
 .simp at h
theorem EB{ka va:Bool}{ks:List Kd}{z:List Value}{m:C}{k v:TV}{u:eS}{az:List Nat}(h:nN ka ks va z m k H=some (v,u,az))(ha:h_ H H' az):nN ka ks va z m k H'=some (v,u,az):=by
 unfold nN at h|-;split at h
 .rename_i id key hkey
  have hid:id∈az:=by
   grind
  simp only[ha id hid];exact h
 .simp at h
theorem Cq{va:Bool}{n:Nat}{m:C}{s:Option TV}{x:TV}{u:eS}{az:List Nat}(h:nO va n m s x H=some (u,az))(ha:h_ H H' az):nO va n m s x H'=some (u,az):=by
 unfold nO at h|-;split at h
 .rename_i id s1 ds eU hds
  have hid:id∈az:=by
   grind
  simp[ha id hid];exact h
 .simp at h
theorem y_{str:Bool}{sz:Nat}{x y:C}{l m:Int}{az:List Nat}(h:jX str sz x l m H=some (y,az))(ha:h_ H H' az):jX str sz x l m H'=some (y,az):=by
 unfold jX at h|-;split at h
 .rename_i sz' id off len
  have hid:id∈az:=by
   grind
  simp[ha id hid];exact h
 .simp at h
theorem EN{z:List Value}{x:C}{u:eS}{az:List Nat}(h:mM z x H=some (u,az))(ha:h_ H H' az):mM z x H'=some (u,az):=by
 unfold mM at h|-;split at h
 .rename_i sz id off len
  have hid:id∈az:=by
   grind
  simp[ha id hid];exact h
 .simp at h
theorem F_{ka va:Bool}{ks:List Kd}{n:Nat}{m:C}{k x:TV}{u:eS}{az:List Nat}(h:sJ ka ks va n m k x H=some (u,az))(ha:h_ H H' az):sJ ka ks va n m k x H'=some (u,az):=by
 unfold sJ at h|-;split at h
 .rename_i id key cs hkey hcs;split at h
  .rename_i ds ids1 hv;split at h
   .rename_i fu hfz
    have hids:az=id::ids1:=by
     grind
    subst hids;have ha1:h_ H H' ids1:=fun i hi=>ha i (by simp[hi]);simp only[pw _ _ _ hv ha1,pD ha1 _ _ (fun i hi=>hi) hfz,ha id (by simp)];exact h
   .simp at h
  .simp at h
 .simp at h
theorem Ga{ka:Bool}{ks:List Kd}{m:C}{k:TV}{u:eS}{az:List Nat}(h:sK ka ks m k H=some (u,az))(ha:h_ H H' az):sK ka ks m k H'=some (u,az):=by
 unfold sK at h|-;split at h
 .exact h
 .rename_i id key hkey
  have hid:id∈az:=by
   grind
  simp[ha id hid];exact h
 .simp at h
def G1:Ev.K->Bool
 |.uY|.tT _ _ _ _|.tU _ _|.slice _ _ _ _|.clear _|.GJ|.SX _|.Q9|.load _ _|.store _|.buildSlice _ _ _ _|.append _|.copy _|.call _ _|.lookup _ _ _ _ _|.mapEntry _ _ _ _|.entryStore _ _=>true
 |_=>false
theorem JA{call:Call}{k:Ev.K}{vs:List (Option TV)}{nxt:Nat}(hk:G1 k=false):cC call k vs H nxt=cC call k vs H' nxt:=by
 cases k<;>first
  |(simp[G1]at hk;done)
  |(unfold cC;split<;>first|rfl|simp_all)
theorem JB{call:Call}{k:Ev.K}{vs:List (Option TV)}{nxt n':Nat}{v:TV}{u:eS}{az:List Nat}(h:cC call k vs H nxt=some (v,u,az,n'))(ha:h_ H H' az):
  cC call k vs H' nxt=some (v,u,az,n'):=by
 cases k with
 |load agg n=>
  match vs,h with
  |[some (.c p)],h=>
   change (match iv agg n p H with|some (v,az)=>some (v,[],az,nxt)|none=>none)=_ at h;show(match iv agg n p H' with|some (v,az)=>some (v,[],az,nxt)|none=>none)=_
   grind [zx]
 |uY=>
  match vs,h with
  |[some (.c p)],h=>
   change (match iv false 1 p H with|some (v,az)=>some (v,[],az,nxt)|none=>lY false 1 p H nxt)=_ at h;show(match iv false 1 p H' with|some (v,az)=>some (v,[],az,nxt)|none=>lY false 1 p H' nxt)=_
   grind [zx,D4]
 |tT ka ks va n=>
  match vs,h with
  |[some (.c m),some k,some x],h=>
   change (match sJ ka ks va n m k x H with|some (u,az)=>some (TV.ia [],u,az,nxt)|none=>none)=_ at h;show(match sJ ka ks va n m k x H' with|some (u,az)=>some (TV.ia [],u,az,nxt)|none=>none)=_
   grind [F_]
 |tU ka ks=>
  match vs,h with
  |[some (.c m),some k],h=>
   change (match sK ka ks m k H with|some (u,az)=>some (TV.ia [],u,az,nxt)|none=>none)=_ at h;show(match sK ka ks m k H' with|some (u,az)=>some (TV.ia [],u,az,nxt)|none=>none)=_
   grind [Ga]
 |store n=>
  match vs,h with
  |[some (.c p),some x],h=>
   change (match mL n p x H with|some (u,az)=>some (TV.ia [],u,az,nxt)|none=>none)=_ at h;show(match mL n p x H' with|some (u,az)=>some (TV.ia [],u,az,nxt)|none=>none)=_
   grind [Db]
 |buildSlice sz len zero places=>exact xp h ha
 |clear z=>
  match vs,h with
  |[some (.c d)],h=>
   change (match mM z d H with|some (u,az)=>some (TV.ia [],u,az,nxt)|none=>none)=_ at h;show(match mM z d H' with|some (u,az)=>some (TV.ia [],u,az,nxt)|none=>none)=_
   grind [EN]
 |slice str sz lo hi=>
  have ez:hi=false->cC call (.slice str sz lo hi) vs H nxt=cC call (.slice str sz lo hi) vs H' nxt:=by
   intro hlh
   cases lo<;>cases hi<;>first
    |(simp at hlh;done)
    |(match vs with
     |[]=>rfl
     |none::_=>rfl
     |some (.agg _)::_=>rfl
     |some (.ia _)::_=>rfl
     |some (.c _)::[]=>rfl
     |some (.c _)::_::[]=>rfl
     |some (.c _)::_::_::_=>rfl)
  cases hi with
  |false=>rw[<-ez rfl];exact h
  |true=>
   cases lo with
   |false=>
    match vs,h with
    |[some (.c x),m],h=>
     change (match cG m with
      |some m=>(match cZ str sz x none (some m)with
       |some y=>some (TV.c y,([]:eS),([]:List Nat),nxt)
       |none=>(match jX str sz x 0 m H with|some (y,az)=>some (TV.c y,([]:eS),az,nxt)|none=>none))
      |none=>none)=_ at h
     show(match cG m with
      |some m=>(match cZ str sz x none (some m)with
       |some y=>some (TV.c y,([]:eS),([]:List Nat),nxt)
       |none=>(match jX str sz x 0 m H' with|some (y,az)=>some (TV.c y,([]:eS),az,nxt)|none=>none))
      |none=>none)=_
     grind [y_]
   |true=>
    match vs,h with
    |[some (.c x),l,m],h=>
     change (match cG l,cG m with
      |some l,some m=>(match cZ str sz x (some l) (some m)with
       |some y=>some (TV.c y,([]:eS),([]:List Nat),nxt)
       |none=>(match jX str sz x l m H with|some (y,az)=>some (TV.c y,([]:eS),az,nxt)|none=>none))
      |_,_=>none)=_ at h
     show(match cG l,cG m with
      |some l,some m=>(match cZ str sz x (some l) (some m)with
       |some y=>some (TV.c y,([]:eS),([]:List Nat),nxt)
       |none=>(match jX str sz x l m H' with|some (y,az)=>some (TV.c y,([]:eS),az,nxt)|none=>none))
      |_,_=>none)=_
     grind [y_]
 |append sz=>match vs,h with|[some (.c s),some (.c x)],h=>exact CK (s:=s) (x:=x) h ha
 |copy sz=>
  match vs,h with
  |[some (.c d),some (.c x)],h=>
   change (match jY sz d x H with|some (i,u,az)=>some (lv (.int .i64 i),u,az,nxt)|none=>(match lj sz d x H with|some (i,u,az)=>some (lv (.int .i64 i),u,az,nxt)|none=>none))=_ at h;show(match jY sz d x H' with|some (i,u,az)=>some (lv (.int .i64 i),u,az,nxt)|none=>(match lj sz d x H' with|some (i,u,az)=>some (lv (.int .i64 i),u,az,nxt)|none=>none))=_
   grind [GB,EK]
 |GJ=>
  match vs,h with
  |[some (.c x)],h=>
   change (match wi x H with|some (n,az)=>some (lv (.int .i64 n),([]:eS),az,nxt)|none=>none)=_ at h;show(match wi x H' with|some (n,az)=>some (lv (.int .i64 n),([]:eS),az,nxt)|none=>none)=_;split at h
   .rename_i m ids1 hl;obtain⟨_,_,h3,_⟩:=(by simpa using h:_/\_/\_=az/\_)
    subst h3
    have:wi x H'=some (m,ids1):=by
     unfold wi at hl|-;split at hl
     .rename_i id off len
      have hid:id∈ids1:=by
       grind
      simp only[ha id hid];exact hl
     .simp at hl
    rw[this];exact h
   .simp at h
 |Q9=>
  match vs,h with
  |[some (.c x),some (.c y)],h=>
   change (match ZQ x y H with|some az=>some (lv (.bool false),([]:eS),az,nxt)|none=>none)=_ at h;show(match ZQ x y H' with|some az=>some (lv (.bool false),([]:eS),az,nxt)|none=>none)=_;split at h
   .rename_i ids1 hl;obtain⟨_,_,h3,_⟩:=(by simpa using h:_/\_/\_=az/\_)
    subst h3
    have:ZQ x y H'=some ids1:=by
     unfold ZQ at hl|-;split at hl
     .rename_i a o1 l1 sz2 b o2 l2
      have hid:ids1=[a,b]:=by
       grind
      subst hid;simp only[ha a (by simp),ha b (by simp)];exact hl
     .simp at hl
    rw[this];exact h
   .simp at h
 |SX z=>
  match vs,h with
  |[some (.c x),some (.c (.d (.lit (.int k1 k))))],h=>
   change xJ z x k H nxt=_ at h;show xJ z x k H' nxt=_;unfold xJ at h|-;split at h
   .rename_i sz' id off len
    have hid:id∈az:=by
     grind
    simp only[ha id hid];exact h
   .simp at h
 |call ro kG=>match vs,h with|f::vs,h=>exact GL (f:=f) (vs:=vs) h ha
 |lookup ka ks va z ok=>
  match vs,h with
  |[some (.c m),some k],h=>
   change (match iQ ka ks va z ok m k H with|some (v,az)=>some (v,([]:eS),az,nxt)|none=>none)=_ at h;show(match iQ ka ks va z ok m k H' with|some (v,az)=>some (v,([]:eS),az,nxt)|none=>none)=_
   grind [B8]
 |mapEntry ka ks va z=>
  match vs,h with
  |[some (.c m),some k],h=>
   change (match nN ka ks va z m k H with|some (v,u,az)=>some (v,u,az,nxt)|none=>none)=_ at h;show(match nN ka ks va z m k H' with|some (v,u,az)=>some (v,u,az,nxt)|none=>none)=_
   grind [EB]
 |entryStore va n=>
  match vs,h with
  |[some (.c m),s,some x],h=>
   change (match nO va n m s x H with|some (u,az)=>some (TV.ia [],u,az,nxt)|none=>none)=_ at h;show(match nO va n m s x H' with|some (u,az)=>some (TV.ia [],u,az,nxt)|none=>none)=_
   grind [Cq]
 |_=>rw[JA (H:=H') (H':=H) rfl];exact h
end
end Go.Ev
