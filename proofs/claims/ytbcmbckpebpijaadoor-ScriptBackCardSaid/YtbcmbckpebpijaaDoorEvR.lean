/- Calls: what a callee's answer means, and that a caller may use it. Conditions: the relation of XEvC. -/
import Derived.Test.YtbcmbckpebpijaaDoorEvLa
open Array renaming getD_eq_getD_getElem?->bm,getElem?_setIfInBounds->h_,getElem?_toList->aU,range->gN
open Bool renaming and_eq_true->ae,false_eq_true->aM
open Go renaming Call->j6
open List renaming all_cons->ed,all_eq_true->aQ,append_assoc->aO,cons_append->aJ,flatMap_cons->bd,getElem?_append_left->bn,getElem?_append_right->bo,getElem?_cons_succ->ce,getElem?_cons_zero->bF,getElem?_eq_getElem->ai,getElem?_eq_some_iff->ah,getElem?_map->aB,getElem?_toArray->bz,getElem_mem->eT,length_map->aK,map_cons->aq,map_nil->aR,map_toArray->cu,mem_append->aj,mem_append_left->aC,mem_append_right->aA,mem_cons->aD,mem_cons_of_mem->av,mem_flatMap->gH,mem_flatten->cY,mem_map->cU,mem_of_getElem?->aT,mem_singleton->am,nodup_append->cA,nodup_cons->fm,range->dz,singleton_append->aX
open List.cons renaming injEq->cJ
open Nat renaming le_refl->ak,le_trans->dg,lt_of_lt_of_le->bQ,lt_or_ge->fE,mul_one->iC,succ_pos->b_
open Option renaming bind_some->af,getD_some->dn,isSome_iff_exists->d_,map_eq_some_iff->aG,map_none->eg,map_some->bh
open Option.some renaming inj->aa,injEq->bH
open Prod.mk renaming inj->ad,injEq->bO
namespace Go.Ev
def RA(S:Nat->Prop)(w:World):A->Value->List Nat->Prop
 |.d x,v,fp=>RD S w x v/\fp=[]
 |.agg xs,v,fp=>∃aH,v=.agg aH/\xs.length=aH.size/\(∀(i:Nat)(x:D),xs[i]?=some x->RD S w x (aH.getD i undef))/\fp=[]
 |.mt t,v,fp=>RT S w t v fp
def Ec(S:Nat->Prop)(w:World):List A->List Value->List Nat->Prop
 |[],[],fp=>fp=[]
 |a::as,v::vs,fp=>∃f1 f2,fp=f1++f2/\RA S w a v f1/\Ec S w as vs f2
 |_,_,_=>False
def RR(S:Nat->Prop)(w:World):R->Value->List Nat->Prop
 |.c t,v,fp=>RT S w t v fp
 |.agg ts,v,fp=>∃(aH:Array Value)(fps:List (List Nat)),v=.agg aH/\ts.length=aH.size/\fps.length=ts.length/\fps.flatten=fp/\∀(i:Nat)(t:T)(f:List Nat),ts[i]?=some t->fps[i]?=some f->RT S w t (aH.getD i undef) f
def xh(S:Nat->Prop)(w:World):List R->List Value->List Nat->Prop
 |[],[],fp=>fp=[]
 |r::rs,v::vs,fp=>∃f1 f2,fp=f1++f2/\RR S w r v f1/\xh S w rs vs f2
 |_,_,_=>False
def GR(S:Nat->Prop)(w:World):List T->List Value->List Nat->Prop
 |[],[],fp=>fp=[]
 |t::ts,v::vs,fp=>∃f1 f2,fp=f1++f2/\((t=.qV/\f1=[])\/RT S w t v f1)/\GR S w ts vs f2
 |_,_,_=>False
def jA:List A->List Value->List Value
 |.mt _::as,v::vs=>v::jA as vs
 |_::as,_::vs=>jA as vs
 |_,_=>[]
def pI:List Value->Value
 |[v]=>v
 |vs=>.tuple vs.toArray
def Lg(P:Program)(f:FuncId)(args:Array Value)(w:World)(R:Value->World->Prop):Prop:=
 (∃g as,(callFunc f args).run P w=.ok (.enter g as) w/\Calls P g as w fun e w'=>∃v,e=.returned v/\R v w')\/
 (∃v,(callFunc f args).run P w=.ok (.value v) w/\R v w)
def Left(S:Nat->Prop)(w:World)(fp:List Nat)(rs:List R)(outs:List T)(lent:List Value)(v:Value)(w':World):Prop:=
 ∃(S':Nat->Prop)(gO:List Value)(fp1 fp2:List Nat),v=pI gO/\eM S w S' w'/\(∀b,S' b->S b\/b∈fp\/w.heap.size<=b)/\(∀b,S' b->b<w'.heap.size)/\
  xh S' w' rs gO fp1/\GR S' w' outs lent fp2/\(fp1++fp2).Nodup/\(∀b∈fp1++fp2,¬S' b/\(b∈fp\/w.heap.size<=b))/\Cy (fun b=>b<w.heap.size/\b∉fp) w w'
def rh(P:Program)(f:FuncId)(as:List A)(rs:List R)(outs:List T):Prop:=
 ∀(S:Nat->Prop)(w:World)(vs:List Value)(fp:List Nat),(∀b,S b->b<w.heap.size)->Ec S w as vs fp->fp.Nodup->(∀b∈fp,¬S b)->ph S w->
  Lg P f vs.toArray w (Left S w fp rs outs (jA as vs))
def j4(P:Program)(call:Call):Prop:=∀f as rs outs,call f as=some (rs,outs)->rh P f as rs outs
theorem Ec.uO{S S':Nat->Prop}{w:World}(hs:eM S w S' w){as:List A}:∀{vs:List Value}{fp:List Nat},Ec S w as vs fp->Ec S' w as vs fp:=by
 induction as with
 |nil=>intro vs fp h;cases vs<;>exact h
 |cons x as ih=>
  intro vs fp h;cases vs with
  |nil=>exact h
  |cons v vs=>obtain⟨f1,f2,h1,h2,h3⟩:=h;refine⟨f1,f2,h1,?_,ih h3⟩;cases x with|d y=>exact⟨h2.1.mono hs,h2.2⟩|agg xs=>obtain⟨aH,q1,q2,q3,q4⟩:=h2;exact⟨aH,q1,q2,fun i x hi=>(q3 i x hi).mono hs,q4⟩|mt t=>exact RT.mono hs h2 fun _ _=>rfl
section
variable{P:Program}{S K:Nat->Prop}{w0 w:World}{Kn:Nat->Prop}{φ:Nat->eG}{H:bl}{e:gy}{ρ:Operand->Value}{o:Oper}{call:Call}
 {nxt n':Nat} {v:TV} {u:dD} {ap:List Nat}
inductive Bw(Kn:Nat->Prop)(φ:Nat->eG)(S:Nat->Prop)(w:World):List (C×List Nat×List Nat)->List Value->Prop
 |nil:Bw Kn φ S w [] []
 |cons {c:C} {bf rd:List Nat} {l:List (C×List Nat×List Nat)} {v:Value} {vs:List Value} (h:RC S w Kn φ c v) (hl:Bw Kn φ S w l vs):Bw Kn φ S w ((c,bf,rd)::l) (v::vs)
theorem Bs{H:bl}(hI:Inv S K w0 Kn φ (au H) w):∀(tvs:List TV)(ms:List Bool)(as:List A)(ap:List Nat)(lent:List (C×List Nat×List Nat))(vs:List Value),
  eA H tvs ms=some (as,ap,lent)->tvs.length=vs.length->(∀(i:Nat)(t:TV)(v:Value),tvs[i]?=some t->vs[i]?=some v->dO S w Kn φ t v)->
  Ec (SB S w φ (au H) ap) w as vs ((lent.flatMap (·.2.1)).flatMap (fc w φ (au H)))/\(∀i∈lent.flatMap (·.2.1),∃o,au H i=some o/\bP o=true)/\Bw Kn φ S w lent (jA as vs):=by
 intro tvs;induction tvs with
 |nil=>
  intro ms as ap lent vs h hl hr;obtain⟨rfl,rfl,rfl⟩:[]=as/\[]=ap/\[]=lent:=by simpa[eA]using h
  obtain rfl:vs=[]:=List.length_eq_zero_iff.1 hl.symm;exact⟨rfl,fun i hi=>by simp at hi,.nil⟩
 |cons t tvs ih=>
  intro ms as ap lent vs h hl hr;cases vs with
  |nil=>simp at hl
  |cons v vs=>
   have h0:=hr 0 t v rfl rfl;simp only[eA]at h;split at h
   .simp at h
   .rename_i as1 ids1 lent1 hrec;obtain⟨i1,i2,i3⟩:=ih ms.tail as1 ids1 lent1 vs hrec (by simpa using hl) (fun i t v hi hv=>hr (i+1) t v (by simpa using hi) (by simpa using hv));split at h
    .split at h
     .rename_i c;split at h
      .rename_i t0 bf rd hp;obtain⟨rfl,rfl,rfl⟩:A.mt t0::as1=as/\ids1=ap/\(c,bf,rd)::lent1=lent:=by simpa using h
       cases h0 with
       |c h0=>
        obtain⟨p1,p2⟩:=(nc hI 300).1 c t0 bf rd v hp h0;refine⟨⟨bf.flatMap (fc w φ (au H)),_,by simp,p1.mono (SB.nT _) (fun _ _=>rfl),i1⟩,fun i hi=>?_,.cons h0 i3⟩;rcases aj.1 (by simpa using hi:i∈bf++lent1.flatMap (·.2.1))with hi|hi
        .exact p2 i hi
        .exact i2 i hi
      .simp at h
     .simp at h
    .split at h
     .rename_i c;split at h
      .rename_i x i hp;obtain⟨rfl,rfl,rfl⟩:A.d x::as1=as/\i++ids1=ap/\lent1=lent:=by simpa using h
       cases h0 with|c h0=>have p1:=(px hI 300).1 c x i v hp h0;refine⟨⟨[],_,rfl,⟨p1.mono (SB.uO _ _ fun j hj=>by simp[hj]),rfl⟩,?_⟩,i2,i3⟩;exact i1.uO (SB.uO _ _ fun j hj=>by simp[hj])
      .simp at h
     .rename_i cs;split at h
      .rename_i xs i hp;obtain⟨rfl,rfl,rfl⟩:A.agg xs::as1=as/\i++ids1=ap/\lent1=lent:=by simpa using h
       cases h0 with
       |@agg _ aH hlen h0=>
        obtain⟨q1,q2⟩:=kU hI cs xs i hp (fun i=>aH[i]?) (fun i c hi=>by
         have hlt:i<aH.size:=by rw[<-hlen];exact(ah.1 hi).1
         exact⟨aH.getD i undef,by simp[hlt],h0 i c hi⟩)
        refine⟨⟨[],_,rfl,⟨aH,rfl,q1.trans hlen,fun j x hj=>?_,rfl⟩,?_⟩,i2,i3⟩
        .obtain ⟨y,hy,hd⟩:=q2 j x hj;have hy':aH[j]?=some y:=hy;have e1:aH.getD j undef=y:=by simp[hy']
         rw[e1];exact hd.mono (SB.uO _ _ fun k hk=>by simp[hk])
        .exact i1.uO (SB.uO _ _ fun j hj=>by simp[hj])
      .simp at h
     .simp at h
end
section
variable{P:Program}{S K:Nat->Prop}{w0 w:World}{Kn:Nat->Prop}{φ:Nat->eG}{hf:Nat->Option Ob}{H:bl}{e:gy}{ρ:Operand->Value}{o:Oper}{call:Call}
 {nxt n':Nat} {v:TV} {u:dD} {ap:List Nat}
theorem nz.IJ{fa fb:List Nat}{n m:Nat}{φ1:Nat->eG}(hI:Inv S K w0 Kn φ hf w)(h:nz S K w0 w Kn φ hf fa n m u φ1)(ha:pj w φ hf fb)(hd:∀x∈fa,x∉fb):pj w φ1 (a_ u hf) fb:=by
 intro j o hj hown x hx hm;by_cases hu:∃p∈u,p.1=j
 .obtain ⟨p,hp,rfl⟩:=hu;exact hd _ (h.bU p hp x hx) hm
 .have hfn:bM u j=none:=iA fun p hp e=>hu ⟨p,hp,e⟩;have hj':=hj;simp only[a_,hfn]at hj';have hk:=(hI.fC j o hj').1;rw[eC (h.nZ.same j hk) (hj.trans hj'.symm)]at hx;exact ha j o hj' hown x hx hm
theorem CD(r:R)(nxt:Nat)(v:Value)(fp:List Nat)(hI:Inv S K w0 Kn φ hf w)(hfr:∀j,nxt<=j->j<(rj nxt r).2.2->¬Kn j)(h:RR S w r v fp)(hn:fp.Nodup)(hSK:∀b∈fp,¬S b/\¬K b)(ha:pj w φ hf fp):
  ∃φ',nz S K w0 w Kn φ hf fp nxt (rj nxt r).2.2 (rj nxt r).2.1 φ'/\dO S w (kF Kn nxt (rj nxt r).2.2) φ' (rj nxt r).1 v:=by
 cases r with|c t=>obtain⟨φ',h1,h2⟩:=qw t nxt v fp hI hfr h hn hSK ha;exact⟨φ',h1,.c h2⟩|agg ts=>obtain⟨aH,fps,rfl,h1,h2,rfl,h3⟩:=h;obtain⟨φ',h4,h5,h6⟩:=oJ ts nxt (fun i=>aH.getD i undef) fps hI hfr h2 h3 hn hSK ha;exact⟨φ',h4,.agg (h5.trans h1) h6⟩
theorem Jw(r:R)(nxt:Nat):nxt<=(rj nxt r).2.2:=by cases r with|c t=>exact Ej t nxt|agg ts=>exact qv ts nxt
theorem kc(nxt:Nat)(r:R)(rs:List R):eW nxt (r::rs)=((rj nxt r).1::(eW (rj nxt r).2.2 rs).1,(rj nxt r).2.1++(eW (rj nxt r).2.2 rs).2.1,(eW (rj nxt r).2.2 rs).2.2):=rfl
theorem BB:∀(rs:List R)(nxt:Nat),nxt<=(eW nxt rs).2.2:=by intro rs;induction rs with|nil=>intro nxt;exact ak _|cons r rs ih=>intro nxt;rw[kc];exact dg (Jw r nxt) (ih _)
theorem zP:∀(rs:List R){Kn:Nat->Prop}{φ:Nat->eG}{hf:Nat->Option Ob}(nxt:Nat)(vs:List Value)(fp:List Nat),Inv S K w0 Kn φ hf w->(∀j,nxt<=j->j<(eW nxt rs).2.2->¬Kn j)->xh S w rs vs fp->fp.Nodup->
  (∀b∈fp,¬S b/\¬K b)->pj w φ hf fp->
  ∃φ',nz S K w0 w Kn φ hf fp nxt (eW nxt rs).2.2 (eW nxt rs).2.1 φ'/\(eW nxt rs).1.length=vs.length/\
   ∀(i:Nat)(t:TV)(v:Value),(eW nxt rs).1[i]?=some t->vs[i]?=some v->dO S w (kF Kn nxt (eW nxt rs).2.2) φ' t v:=by
 intro rs;induction rs with
 |nil=>intro Kn φ hf nxt vs fp hI hfr h hn hSK ha;cases vs with|cons v vs=>exact h.elim|nil=>obtain rfl:fp=[]:=h;exact⟨φ,nz.nil hI _ _,rfl,fun i t v hi=>by simp[eW]at hi⟩
 |cons r rs ih=>
  intro Kn φ hf nxt vs fp hI hfr h hn hSK ha;cases vs with
  |nil=>exact h.elim
  |cons v vs=>
   obtain⟨f1,f2,rfl,h1,h2⟩:=h;rw[cA]at hn;obtain⟨hn1,hn2,hn3⟩:=hn;simp only[aj]at hSK;obtain⟨φ1,hL1,hr1⟩:=CD r nxt v f1 hI (fun j hj hj2=>hfr j hj (by rw[kc];exact bQ hj2 (BB rs _))) h1 hn1 (fun b hb=>hSK b (.inl hb)) (fun j o hj hown x hx hm=>ha j o hj hown x hx (by simp[hm]))
   obtain⟨φ2,hL2,hlen,hr2⟩:=ih (Kn:=kF Kn nxt (rj nxt r).2.2) (φ:=φ1) (hf:=a_ (rj nxt r).2.1 hf) (rj nxt r).2.2 vs f2 hL1.inv (fun j hj hj2 hk=>by
    rcases hk with hk|hk
    .have:=hL1.le;exact hfr j (by omega) (by rw[kc];exact hj2) hk
    .omega) h2 hn2 (fun b hb=>hSK b (.inr hb)) (hL1.IJ hI (fun j o hj hown x hx hm=>ha j o hj hown x hx (by simp[hm])) fun x hx hx2=>hn3 x hx x hx2 rfl)
   have hcomp:=hL1.lJ hL2;have hcm:a_ ((eW (rj nxt r).2.2 rs).2.1++(rj nxt r).2.1) hf=a_ ((rj nxt r).2.1++(eW (rj nxt r).2.2 rs).2.1) hf:=jw fun p hp q hq e=>by have h1:=hL2.eJ p hp;have h2:=hL1.eJ q hq;omega
   have hsub:∀i,kF (kF Kn nxt (rj nxt r).2.2) (rj nxt r).2.2 (eW (rj nxt r).2.2 rs).2.2 i->kF Kn nxt (eW (rj nxt r).2.2 rs).2.2 i:=fun i=>(ng hL1.le hL2.le i).1;refine⟨φ2,?_,by simp[kc,hlen],fun i t v' hi hv=>?_⟩
   .simp only[kc];have hsw:∀{p:Nat×Option Ob}{a b:dD},p∈a++b->p∈b++a:=fun hp=>aj.2 (aj.1 hp).symm;exact⟨hcomp.le,hcomp.nZ,hcm▸hcomp.inv,fun p hp=>hcomp.eJ p (hsw hp),fun p hp x hx=>hcomp.bU p (hsw hp) x (hcm.symm▸hx)⟩
   .cases i with
    |zero=>
     obtain rfl:(rj nxt r).1=t:=by simpa[kc]using hi
     obtain rfl:v=v':=by simpa using hv
     exact(hr1.mono (eM.refl _ _) hL2.nZ).kn hsub
    |succ i=>exact(hr2 i t v' (by simpa[kc]using hi) (by simpa using hv)).kn hsub
theorem Inv.put(h:Inv S K w0 Kn φ hf w){i:Nat}(hi:Kn i)(o:Ob)(hfree:bP o=true->∀j b,hf j=some b->bP b=true->j≠i->(φ i).bU∉fc w φ hf j)
  (hro:RO S K w Kn φ (φ i) o)
  (hp:∀sz sl k x,o=.nst sz sl->nH w (φ i) sl k x->x≠(φ i).bU/\(∀j b,hf j=some b->bP b=true->j≠i->x∉fc w φ hf j)/\∀k',nH w (φ i) sl k' x->k'=k:=by intro _ _ _ _ e;cases e):
  Inv S K w0 Kn φ (a_ [(i,some o)] hf) w:=by
 have hold:∀j b,a_ [(i,some o)] hf j=some b->(j=i/\b=o)\/(j≠i/\hf j=some b):=by
  intro j b hj;rw[bB]at hj;by_cases e:i=j
  .rw [if_pos e]at hj;exact .inl ⟨e.symm,(aa hj).symm⟩
  .rw [if_neg e,dU]at hj;exact .inr ⟨fun q=>e q.symm,hj⟩
 refine h.pY (eM.refl _ _) (Ren.refl _ _) h.pU h.sk h.j8 ?_ ?_ ?_
 .intro id o' ho;rcases hold id o' ho with⟨rfl,rfl⟩|⟨_,ho'⟩
  .exact .inr ⟨hi,hro⟩
  .exact .inl ⟨ho',fun hown=>⟨rfl,((h.fC id o' ho').2.bf hown).1⟩,h.yQ ho' fun _ _=>rfl⟩
 .intro a b oa ob ha hb hoa hob hne;rcases hold a oa ha with⟨e1,e2⟩|⟨n1,ha'⟩<;>rcases hold b ob hb with⟨e3,e4⟩|⟨n2,hb'⟩
  .exact absurd (e1.trans e3.symm) hne
  .rw [e1];exact fun e=>hfree (e2▸hoa) b ob hb' hob n2 (cS.2 (.inl e))
  .rw [e3];exact fun e=>hfree (e4▸hob) a oa ha' hoa n1 (cS.2 (.inl e.symm))
  .exact h.kJ a b oa ob ha' hb' hoa hob hne
 .intro a sz sl k x ha hpa;rcases hold a _ ha with⟨ea,eo⟩|⟨na,ha'⟩
  .rw [ea]at hpa;obtain⟨p1,p2,p3⟩:=hp sz sl k x eo.symm hpa;refine⟨fun j b hj hown=>?_,fun j sz' sl' k' hj hpj=>?_⟩
   .rcases hold j b hj with⟨ej,_⟩|⟨nj,hj'⟩
    .rw [ej];exact fun e=>p1 e.symm
    .exact fun e=>p2 j b hj' hown nj (cS.2 (.inl e.symm))
   .rcases hold j _ hj with⟨ej,eo2⟩|⟨nj,hj'⟩
    .rw [ej]at hpj;rw[<-eo]at eo2;cases eo2;exact⟨ej.trans ea.symm,p3 k' hpj⟩
    .exact absurd (cS.2 (.inr ⟨sz',sl',k',hj',hpj⟩)) (p2 j _ hj' rfl nj)
  .obtain ⟨p1,p2⟩:=h.rp a sz sl k x ha' hpa;refine⟨fun j b hj hown=>?_,fun j sz' sl' k' hj hpj=>?_⟩
   .rcases hold j b hj with⟨ej,eo⟩|⟨_,hj'⟩
    .rw [ej];exact fun e=>hfree (eo▸hown) a _ ha' rfl na (cS.2 (.inr ⟨sz,sl,k,ha',e▸hpa⟩))
    .exact p1 j b hj' hown
   .rcases hold j _ hj with⟨ej,eo⟩|⟨_,hj'⟩
    .rw [ej]at hpj;exact absurd (cS.2 (.inr ⟨sz,sl,k,ha',hpa⟩)) ((hp sz' sl' k' x eo.symm hpj).2.1 a _ ha' rfl na)
    .exact p2 j sz' sl' k' hj' hpj
structure Mg(S K:Nat->Prop)(w0 w:World)(Kn:Nat->Prop)(φ:Nat->eG)(hf:Nat->Option Ob)(fp:List Nat)(owns:List Nat)(nxt m:Nat)(u:dD)(φ':Nat->eG):Prop where
 le:nxt<=m
 nZ:Ren Kn φ (kF Kn nxt m) φ'
 inv:Inv S K w0 (kF Kn nxt m) φ' (a_ u hf) w
 AO:∀p∈u,p.1∈owns\/(nxt<=p.1/\p.1<m)
 LS:∀i∈owns,(bM u i).isSome=true
 bU:∀i o,a_ u hf i=some o->bP o=true->(i∈owns\/(nxt<=i/\i<m))->∀x∈fc w φ' (a_ u hf) i,x∈fp
def gD(l:List (C×List Nat×List Nat)):List Nat:=l.flatMap (·.2.1)
theorem mH(bf:List Nat)(j:Nat):bM (bf.map fun i=>((i,none):Nat×Option Ob)) j=if j∈bf then some none else none:=by
 induction bf with
 |nil=>rfl
 |cons a l ih=>
  simp only[aq,bM];by_cases e:a=j
  .simp [e]
  .have e':(a==j)=false:=by simpa using e
   have e2:¬j=a:=fun h=>e h.symm;simp[e',ih,e2]
theorem RC.JX{id off:Nat}{v:Value}(h:RC S w Kn φ (.op id off) v):v=.pointer (some ⟨(φ id).bU,(φ id).aL+off,none⟩)/\Kn id:=by cases h with|op hk=>exact⟨rfl,hk⟩
theorem kN.Ei{w:World}{b:Nat}{a a':Array Value}(h:kN w b a)(h':kN w b a'):a=a':=by obtain⟨t,h⟩:=h;obtain⟨t',h'⟩:=h';rw[h]at h';simp at h';exact h'.1
theorem nk{α:Type}{u:List (Nat×α)}{id:Nat}{x:α}(h:bM u id=some x):∃p∈u,p.1=id:=by
 induction u with
 |nil=>simp[bM]at h
 |cons p r ih=>
  obtain⟨i,y⟩:=p;by_cases e:i=id
  .exact ⟨(i,y),by simp,e⟩
  .have e2:(i==id)=false:=by simpa using e
   simp only[bM,e2,cond_false]at h;obtain⟨p,hp,hpe⟩:=ih h;exact⟨p,by simp[hp],hpe⟩
theorem vr:∀(l:List (C×List Nat×List Nat))(outs:List T)(nxt:Nat)(bu:dD)(m:Nat),cQ nxt l outs=some (bu,m)->nxt<=m:=by
 intro l;induction l with
 |nil=>
  intro outs nxt bu m h;cases outs with
  |nil=>obtain⟨_,rfl⟩:[]=bu/\nxt=m:=by simpa[cQ]using h
        exact ak _
  |cons t ts=>simp[cQ]at h
 |cons p l ih=>
  obtain⟨c,bf,rd⟩:=p;intro outs nxt bu m h;cases outs with
  |nil=>unfold cQ at h;simp at h
  |cons t outs=>
   unfold cQ at h;split at h
   .simp at*
   .rename_i heq1 heq2;simp only[cJ,bO]at heq1 heq2;obtain⟨_,rfl⟩:=heq1;exact ih _ _ _ _ h
   .rename_i heq1 heq2;simp only[cJ,bO]at heq1 heq2;obtain⟨_,rfl⟩:=heq1;split at h
    .rename_i w2 k hrec;split at h
     .obtain ⟨_,rfl⟩:=ad (aa h);exact dg (qv _ _) (ih _ _ _ _ hrec)
     .simp at h
    .simp at h
   .rename_i heq1 heq2;simp only[cJ,bO]at heq1 heq2;obtain⟨_,rfl⟩:=heq1;split at h
    .split at h
     .rename_i w2 k hrec;obtain⟨_,rfl⟩:=ad (aa h);exact ih _ _ _ _ hrec
     .simp at h
    .simp at h
   .rename_i heq1 heq2;simp only[cJ,bO]at heq1 heq2;obtain⟨_,rfl⟩:=heq1;split at h
    .split at h
     .rename_i w2 k hrec;obtain⟨_,rfl⟩:=ad (aa h);exact ih _ _ _ _ hrec
     .simp at h
    .simp at h
   .rename_i heq1 heq2;simp only[cJ,bO]at heq1 heq2;obtain⟨_,rfl⟩:=heq1;split at h
    .rename_i w2 k hrec;obtain⟨_,rfl⟩:=ad (aa h);exact ih _ _ _ _ hrec
    .simp at h
   .simp at h
theorem yM{H0:bl}{S0 K0:Nat->Prop}{wp wz:World}{Kn0:Nat->Prop}{φ0:Nat->eG}(hI0:Inv S0 K0 wz Kn0 φ0 (au H0) wp){id len:Nat}
  (hw:(match au H0 id with|some (.aH _ rows)=>(0==0)&&len==rows.length|some (.nst _ slots)=>(0==0)&&len==slots.length|_=>false)=true):
  ∃aH,kN wp (φ0 id).bU aH/\aH.size=(φ0 id).ext/\(φ0 id).aL+len*(φ0 id).sz<=(φ0 id).ext/\len<=(φ0 id).cap:=by
 split at hw
 .rename_i sz rows ho;obtain⟨_,h0⟩:=hI0.fC _ _ ho;have hl:len=rows.length:=by simpa using hw
  subst hl;cases h0 with|aH hsz hl hS hK hown hext hfit hr hv=>exact⟨_,hown,hext,by rw[hl];exact hfit,hv⟩
 .rename_i sz slots ho;obtain⟨_,h0⟩:=hI0.fC _ _ ho;have hl:len=slots.length:=by simpa using hw
  subst hl;cases h0 with|nst hsz hl hS hK hown hext hfit hr hv=>exact⟨_,hown,hext,by rw[hl,iC];exact hfit,hv⟩
 .cases hw
theorem Bp{H0:bl}{S0:Nat->Prop}{wp:World}{Kn0:Nat->Prop}{φ0:Nat->eG}{K0:Nat->Prop}{wz:World}(hI0:Inv S0 K0 wz Kn0 φ0 (au H0) wp)(hgrow:∀b aH,kN wp b aH->∃arr',kN w b arr'/\arr'.size=aH.size):
  ∀(l:List (C×List Nat×List Nat))(vs:List Value)(outs:List T)(fp:List Nat){Kn:Nat->Prop}{φ:Nat->eG}{hf:Nat->Option Ob}(nxt:Nat)(bu:dD)(m:Nat),
  Bw Kn0 φ0 S0 wp l vs->de H0 l=true->GR S w outs vs fp->Inv S K w0 Kn φ hf w->(∀j,nxt<=j->j<m->¬Kn j)->Ren Kn0 φ0 Kn φ->fp.Nodup->(∀b∈fp,¬S b/\¬K b)->pj w φ hf fp->
  (∀i∈gD l,hf i=none/\Kn0 i)->(gD l).Nodup->cQ nxt l outs=some (bu,m)->∃φ',Mg S K w0 w Kn φ hf fp (gD l) nxt m bu φ':=by
 intro l;induction l with
 |nil=>
  intro vs outs fp Kn φ hf nxt bu m hl hw hr hI hfr hren hn hSK ha hown hon h;cases hl;cases outs with
  |cons t ts=>exact hr.elim
  |nil=>
   obtain⟨rfl,rfl⟩:[]=bu/\nxt=m:=by simpa[cQ]using h
   exact⟨φ,ak _,lT _ _,hI.kn fun _ hi=>.inl hi,fun p hp=>by simp at hp,fun i hi=>by simp[gD]at hi,fun i o _ _ hx=>by
    rcases hx with hx|hx
    .simp [gD]at hx
    .omega⟩
 |cons p l ih=>
  obtain⟨c,bf,rd⟩:=p;intro vs outs fp Kn φ hf nxt bu m hl hw hr hI hfr hren hn hSK ha hown hon h;cases hl with
  |@cons _ _ _ _ v vs hc hl=>
  cases outs with
  |nil=>exact hr.elim
  |cons t outs=>
   obtain⟨f1,f2,rfl,hr1,hr2⟩:=hr;rw[cA]at hn;obtain⟨hn1,hn2,hn3⟩:=hn;simp only[aj]at hSK;have ha1:pj w φ hf f1:=fun j o hj hown x hx hm=>ha j o hj hown x hx (by simp[hm]);have ha2:pj w φ hf f2:=fun j o hj hown x hx hm=>ha j o hj hown x hx (by simp[hm]);have ho1:∀i∈bf,hf i=none/\Kn0 i:=fun i hi=>hown i (by simp[gD,hi]);have ho2:∀i∈gD l,hf i=none/\Kn0 i:=fun i hi=>hown i (by simp only[gD,bd,aj];exact .inr hi);have hoc:gD ((c,bf,rd)::l)=bf++gD l:=rfl;rw[hoc,cA]at hon;obtain⟨hon1,hon2,hon3⟩:=hon;have hw2:de H0 l=true:=by cases c<;>simp only[de,ae]at hw<;>first|exact hw|exact hw.2
   have fin:∀(id:Nat)(ob:Ob)(w2:dD)(k:Nat),bf=[id]->(bu,m)=((id,some ob)::w2,k)->cQ nxt l outs=some (w2,k)->Inv S K w0 Kn φ (a_ [(id,some ob)] hf) w->(∀x∈fc w φ (a_ [(id,some ob)] hf) id,x∈f1)->
     ∃φ',Mg S K w0 w Kn φ hf (f1++f2) (gD ((c,bf,rd)::l)) nxt m bu φ':=by
    intro id ob w2 k hownid hbm hrec hput hblk;subst hownid;obtain⟨rfl,rfl⟩:=ad hbm;obtain⟨hidn,hidk0⟩:=ho1 id (by simp);have hidk:=hren.sub id hidk0;have hφ:=hren.same id hidk0;have hidlt:¬(nxt<=id/\id<m):=fun h=>hfr id h.1 h.2 hidk
    obtain⟨φ2,hB⟩:=ih vs outs f2 nxt w2 m hl hw2 hr2 hput hfr hren hn2 (fun b hb=>hSK b (.inr hb))
     (fun j o hj hown x hx hm=>by
      have hj':=hj;rw[bB]at hj';split at hj'
      .rename_i e;subst e;exact hn3 x (hblk x hx) x hm rfl
      .rw [eC rfl (hj.trans hj'.symm)]at hx;exact ha2 j o hj' hown x hx hm)
     (fun i hi=>by obtain⟨h1,h2⟩:=ho2 i hi;refine⟨?_,h2⟩;have hne:¬id=i:=fun e=>hon3 id (by simp) i hi e;rw[bB,if_neg hne];exact h1) hon2 hrec
    have hkeys:=hB.AO;have hm2:=hB.le
    have hdis:∀q∈w2,id≠q.1:=fun q hq e=>by
     rcases hkeys q hq with h|h
     .exact hon3 id (by simp) q.1 h e
     .omega
    have heq:a_ ((id,some ob)::w2) hf=a_ w2 (a_ [(id,some ob)] hf):=by rw[<-cK];exact jw (u:=[(id,some ob)]) fun p hp q hq e=>by rw[am.1 hp]at e;exact hdis q hq e
    refine⟨φ2,hB.le,hB.nZ,heq▸hB.inv,fun p hp=>?_,fun i hi=>?_,fun i o hio hownio hi=>?_⟩
    .rw [hoc];rcases aD.1 hp with rfl|hp
     .exact .inl (by simp)
     .rcases hkeys p hp with h|h
      .exact .inl (by simp[h])
      .exact .inr h
    .rw [hoc]at hi;simp only[bM];by_cases e:id=i
     .simp [e]
     .have e':(id==i)=false:=by simpa using e
      simp only[e',cond_false];rcases aj.1 hi with hi|hi
      .exact absurd (am.1 hi).symm e
      .exact hB.LS i hi
    .rw [heq]at hio|-;intro x hx;by_cases hrest:i∈gD l\/(nxt<=i/\i<m)
     .exact aA _ (hB.bU i o hio hownio hrest x hx)
     .have hi2:i=id:=by
       rcases hi with hi|hi
       .rw [hoc]at hi;rcases aj.1 hi with h|h
        .exact am.1 h
        .exact absurd (.inl h) hrest
       .exact absurd (.inr hi) hrest
      subst hi2;have hwn:bM w2 i=none:=iA fun q hq e=>hdis q hq e.symm
      have hwi:a_ w2 (a_ [(i,some ob)] hf) i=a_ [(i,some ob)] hf i:=by
       conv=>lhs;unfold a_
       rw[hwn];rfl
      rw[eC (hB.nZ.same i hidk) hwi]at hx;exact aC _ (hblk x hx)
   unfold cQ at h;split at h
   .simp at*
   .--nothing was owned
    rename_i heq1 heq2;simp only[cJ,bO]at heq1 heq2;obtain⟨⟨rfl,rfl,rfl⟩,rfl⟩:=heq1;obtain⟨rfl,rfl⟩:=heq2;have hr1:=hr1.resolve_left fun h=>by cases h.1
    have e0:f1=[]:=by cases hr1;rfl
    subst e0;obtain⟨φ',hB⟩:=ih vs outs f2 nxt bu m hl hw2 hr2 hI hfr hren hn2 (fun b hb=>hSK b (.inr hb)) ha2 ho2 hon2 h;exact⟨φ',hB.le,hB.nZ,hB.inv,hB.AO,hB.LS,hB.bU⟩
   .--a box
    rename_i id own' rd' r ts' ts heq1 heq2;simp only[cJ,bO]at heq1 heq2;obtain⟨⟨rfl,rfl,rfl⟩,rfl⟩:=heq1;obtain⟨rfl,rfl⟩:=heq2;split at h
    .rename_i w2 k hrec;split at h
     .rename_i hcon;obtain⟨rfl,rfl⟩:(id,some (Ob.box (fy nxt ts').1))::(fy nxt ts').2.1++bf.map (fun i=>((i,none):Nat×Option Ob))++w2=bu/\k=m:=by simpa using h
      have hid:id∈bf:=by simpa using hcon
      obtain⟨hidn,hidk0⟩:=ho1 id hid;have hidk:=hren.sub id hidk0;have hφ:=hren.same id hidk0;obtain⟨hv,_⟩:=hc.JX;have hr1:=hr1.resolve_left fun h=>by cases h.1
      cases hr1 with
      |@pt _ b aH fps hown0 hlen hfl hrec2=>
      simp only[Value.pointer.injEq,bH,Addr.mk.injEq]at hv;obtain⟨hb,hbase,_⟩:=hv;rw[<-hφ]at hb hbase;have hbase0:(φ id).aL=0:=by omega
      rw[fm]at hn1;have hmk:=vr _ _ _ _ _ hrec;have hidlt:¬(nxt<=id/\id<k):=fun h=>hfr id h.1 h.2 hidk
      obtain⟨φ1,hL,hcl,hcr⟩:=oJ ts' nxt (fun i=>aH.getD i undef) fps hI (fun j hj hj2=>hfr j hj (by omega)) hfl hrec2 hn1.2 (fun b' hb'=>hSK b' (.inl (av _ hb')))
       (fun j o hj hown x hx hm=>ha1 j o hj hown x hx (av _ hm))
      have hm1:=hL.le;have hφ1:φ1 id=φ id:=hL.nZ.same id hidk;have hul:bM (fy nxt ts').2.1 id=none:=iA fun p hp e=>by have:=hL.eJ p hp;omega
      have hdead:a_ (fy nxt ts').2.1 hf id=none:=by simp only[a_,hul,hidn]
      have hawb:pj w φ1 (a_ (fy nxt ts').2.1 hf) [b]:=hL.IJ hI (fun j o hj hown x hx hm=>ha1 j o hj hown x hx (by rw[am.1 hm];simp)) fun x hx hx2=>hn1.1 (by rw[<-am.1 hx2];exact hx)
      have hput:=hL.inv.put (i:=id) (.inl hidk) (.box (fy nxt ts').1) (fun _ j o hj hown hne hm=>by rw[hφ1,<-hb]at hm;exact hawb j o hj hown b hm (by simp))
       (.box (by rw[hφ1];exact hbase0) (by rw[hφ1,<-hb];exact(hSK b (.inl (by simp))).1) (by rw[hφ1,<-hb];exact(hSK b (.inl (by simp))).2) (by rw[hφ1,<-hb];exact hown0) (hcl.trans hlen) hcr)
      have hav2:pj w φ1 (a_ (fy nxt ts').2.1 hf) f2:=hL.IJ hI ha2 fun x hx hx2=>hn3 x (av _ hx) x hx2 rfl;have hult:∀i,¬(nxt<=i/\i<k)->bM (fy nxt ts').2.1 i=none:=fun i hi=>iA fun p hp e=>by have:=hL.eJ p hp;omega
      have hownlt:∀i,Kn0 i->¬(nxt<=i/\i<k):=fun i hi h=>hfr i h.1 h.2 (hren.sub i hi);rw[<-cK]at hput
      obtain⟨φ2,hB⟩:=ih vs outs f2 (fy nxt ts').2.2 w2 k hl hw2 hr2 hput (fun j hj hj2 hk=>by
        rcases hk with hk|hk
        .exact hfr j (by omega) hj2 hk
        .omega) ⟨fun i hi=>.inl (hren.sub i hi),fun i hi=>(hL.nZ.same i (hren.sub i hi)).trans (hren.same i hi)⟩ hn2 (fun b hb=>hSK b (.inr hb))
       (fun j o hj hown x hx hm=>by
        have hj':=hj;rw[aX,bB]at hj';split at hj'
        .rename_i e;subst e;rw[jY (fun _ _ e=>by rw[aX,bB,if_pos rfl]at e;cases e),hφ1,<-hb]at hx;rw[am.1 hx]at hm;exact hn3 b (by simp) b hm rfl
        .rw [eC rfl (hj.trans hj'.symm)]at hx;exact hav2 j o hj' hown x hx hm)
       (fun i hi=>by obtain⟨h1,h2⟩:=ho2 i hi;refine⟨?_,h2⟩;have hne:¬id=i:=fun e=>hon3 id hid i hi e;rw[aX,bB,if_neg hne];simp only[a_,hult i (hownlt i h2),h1]) hon2 hrec
      have hkeys:=hB.AO;have hm2:=hB.le
      have hdis:∀j x,bM w2 j=some x->j≠id/\j∉bf/\bM (fy nxt ts').2.1 j=none:=by
       intro j x hx;obtain⟨p,hp,rfl⟩:=nk hx;rcases hkeys p hp with h|h
       .exact ⟨fun e=>hon3 id hid p.1 h e.symm,fun e=>hon3 p.1 e p.1 h rfl,hult _ (hownlt _ (ho2 _ h).2)⟩
       .refine ⟨fun e=>by omega,fun e=>by have:=hownlt _ (ho1 _ e).2;omega,iA fun q hq e=>?_⟩;have:=hL.eJ q hq;omega
      have heq:a_ ((id,some (Ob.box (fy nxt ts').1))::(fy nxt ts').2.1++bf.map (fun i=>((i,none):Nat×Option Ob))++w2) hf=a_ w2 (a_ ([(id,some (Ob.box (fy nxt ts').1))]++(fy nxt ts').2.1) hf):=by
       have hno:a_ (bf.map (fun i=>((i,none):Nat×Option Ob))) (a_ w2 hf)=a_ w2 hf:=by
        funext j
        conv=>lhs;unfold a_
        rw[mH];by_cases hjo:j∈bf
        .rw [if_pos hjo];have hwj:bM w2 j=none:=by cases hx:bM w2 j with|none=>rfl|some x=>exact absurd hjo (hdis j x hx).2.1
         simp only[a_,hwj,(ho1 j hjo).1]
        .rw [if_neg hjo];rfl
       rw[cK,cK,hno,<-cK,<-cK];refine jw fun p hp q hq e=>?_;rcases hkeys q hq with h|h
       .rcases aD.1 hp with rfl|hp
        .exact hon3 id hid q.1 h e
        .have:=hL.eJ p hp;have:=hownlt _ (ho2 _ h).2;omega
       .rcases aD.1 hp with rfl|hp
        .simp only at e;omega
        .have:=hL.eJ p hp;omega
      refine⟨φ2,by omega,⟨fun i h=>.inl h,fun i h=>(hB.nZ.same i (.inl h)).trans (hL.nZ.same i h)⟩,?_,fun p hp=>?_,fun i hi=>?_,fun i o hio hownio hi=>?_⟩
      .rw [heq];exact hB.inv.qj fun i=>ng hm1 hm2 i
      .rw [hoc];simp only[aJ,aO,aD,aj,cU]at hp;rcases hp with rfl|hp|⟨i,hi,rfl⟩|hp
       .exact .inl (by simp[hid])
       .have:=hL.eJ p hp;exact .inr (by omega)
       .exact .inl (by simp[hi])
       .rcases hkeys p hp with h|h
        .exact .inl (by simp[h])
        .exact .inr (by omega)
      .rw [hoc]at hi;simp only[aJ,aO,bM,eP,mH];rcases aj.1 hi with hi|hi
       .by_cases e:id=i
        .simp [e]
        .have e':(id==i)=false:=by simpa using e
         simp only[e',cond_false,if_pos hi];cases bM (fy nxt ts').2.1 i<;>rfl
       .have hs:=hB.LS i hi;obtain⟨x,hx⟩:=d_.1 hs;obtain⟨h1,h2,h3⟩:=hdis i x hx;have e':(id==i)=false:=by simpa using fun e=>h1 e.symm
        simp only[e',cond_false,h3,if_neg h2,hx,Option.isSome_some]
      .rw [heq]at hio|-;intro x hx;by_cases hrest:i∈gD l\/((fy nxt ts').2.2<=i/\i<k)
       .exact aA _ (hB.bU i o hio hownio hrest x hx)
       .refine aC _ ?_
        have hw2n:bM w2 i=none:=iA fun q hq e=>by
         rcases hkeys q hq with h|h
         .exact hrest (.inl (e▸h))
         .exact hrest (.inr (e▸h))
        have hi2:i∈bf\/(nxt<=i/\i<(fy nxt ts').2.2):=by
         rcases hi with hi|hi
         .rw [hoc]at hi;rcases aj.1 hi with h|h
          .exact .inl h
          .exact absurd (.inl h) hrest
         .exact .inr ⟨hi.1,by
           rcases fE i (fy nxt ts').2.2 with h|h
           .exact h
           .exact absurd (.inr ⟨h,hi.2⟩) hrest⟩
        have hkn:kF Kn nxt (fy nxt ts').2.2 i:=by
         rcases hi2 with h|h
         .exact .inl (hren.sub i (ho1 i h).2)
         .exact .inr h
        have hwi:a_ w2 (a_ ([(id,some (Ob.box (fy nxt ts').1))]++(fy nxt ts').2.1) hf) i=a_ ([(id,some (Ob.box (fy nxt ts').1))]++(fy nxt ts').2.1) hf i:=by
         conv=>lhs;unfold a_
         rw[hw2n];rfl
        rw[eC (hB.nZ.same i hkn) hwi]at hx;by_cases e:id=i
        .subst e;rw[jY (fun _ _ e=>by rw[aX,bB,if_pos rfl]at e;cases e),hφ1,<-hb]at hx;rw[am.1 hx];simp
        .rcases hi2 with h|h
         .exfalso
          have h1:a_ w2 (a_ ([(id,some (Ob.box (fy nxt ts').1))]++(fy nxt ts').2.1) hf) i=hf i:=by
           simp only[a_,hw2n,aX,bM];have e':(id==i)=false:=by simpa using e
           simp only[e',cond_false,hult i (hownlt i (ho1 i h).2)]
          rw[h1,(ho1 i h).1]at hio;simp at hio
         .have e':(id==i)=false:=by simpa using e
          cases hfu:bM (fy nxt ts').2.1 i with
          |none=>
           exfalso;have h1:a_ w2 (a_ ([(id,some (Ob.box (fy nxt ts').1))]++(fy nxt ts').2.1) hf) i=hf i:=by simp only[a_,hw2n,aX,bM,e',cond_false,hfu]
           rw[h1]at hio;exact hfr i h.1 (by omega) (hI.fC i o hio).1
          |some x'=>
           obtain⟨p,hp,rfl⟩:=nk hfu;have hwp:a_ ([(id,some (Ob.box (fy nxt ts').1))]++(fy nxt ts').2.1) hf p.1=a_ (fy nxt ts').2.1 hf p.1:=by rw[aX,bB,if_neg e]
           rw[eC rfl hwp]at hx;exact av _ (hL.bU p hp x hx)
     .simp at h
    .simp at h
   .--an array
    rename_i sz id len own' rd' r sz' rows ts heq1 heq2;simp only[cJ,bO]at heq1 heq2;obtain⟨⟨rfl,rfl,rfl⟩,rfl⟩:=heq1;obtain⟨rfl,rfl⟩:=heq2;split at h
    .rename_i hcond;obtain⟨hrl,hszz,hownid⟩:=hcond;subst hownid;split at h
     .rename_i w2 k hrec;obtain⟨rfl,rfl⟩:(id,some (Ob.aH sz rows))::w2=bu/\k=m:=by simpa using h
      obtain⟨hidn,hidk0⟩:=ho1 id (by simp);have hφ:=hren.same id hidk0;obtain⟨cap,addr,hv,hszl,hk0,hcap,haddr,hextc,hcl⟩:=hc.gQ;have hr1:=hr1.resolve_left fun h=>by cases h.1
      cases hr1 with
      |@sl _ _ b off len1 cap1 aH hsz0 hown0 hlen1 hcap1 hext1 hrr=>
      simp only[Value.slice.injEq,bH,Addr.mk.injEq]at hv;obtain⟨⟨hb,hoff,_⟩,hlen2,hcap2⟩:=hv;subst hszz;simp only[de,ae]at hw;obtain⟨arr0,hown1,hext0,hfit0,hv0⟩:=yM hI0 hw.1;obtain⟨arr1,hown2,hsize2⟩:=hgrow _ _ hown1;rw[hb]at hown0;obtain rfl:=hown0.Ei hown2;have hb1:=hSK (φ0 id).bU (.inl (by simp[hb]))
      refine fin id (.aH sz' rows) w2 k rfl rfl hrec (hI.put (i:=id) (hren.sub id hidk0) (.aH sz' rows) (fun _ j o hj hown hne hm=>by rw[hφ,<-hb]at hm;exact ha1 j o hj hown b hm (by simp))
       (.aH hsz0 (by rw[hφ];exact hszl) (by rw[hφ];exact hb1.1) (by rw[hφ];exact hb1.2) (by rw[hφ];exact hown2) (by rw[hφ,<-hext0];exact hsize2)
        (by rw[hφ,hrl,<-hszl];exact hfit0) (by
         rw[hφ];cases rows with
         |nil=>exact⟨fun i r hi=>by simp at hi,fun i r hi=>by simp at hi⟩
         |cons q rows=>
          have:off=(φ0 id).aL:=by rw[hoff,haddr (by simp only[List.length_cons]at hrl;omega)];simp
          rw[<-this];exact hrr) (by rw[hφ,hrl];exact hv0))) fun x hx=>?_
      rw[jY (fun _ _ e=>by rw[bB,if_pos rfl]at e;cases e),hφ,<-hb]at hx;exact hx
     .simp at h
    .simp at h
   .--a dv of rows
    rename_i sz id len own' rd' r szi rows ts heq1 heq2;simp only[cJ,bO]at heq1 heq2;obtain⟨⟨rfl,rfl,rfl⟩,rfl⟩:=heq1;obtain⟨rfl,rfl⟩:=heq2;split at h
    .rename_i hcond;obtain⟨hrl,hszz,hownid⟩:=hcond;subst hownid;split at h
     .rename_i w2 k hrec;obtain⟨rfl,rfl⟩:(id,some (Ob.nst szi (rows.map jO)))::w2=bu/\k=m:=by simpa using h
      obtain⟨hidn,hidk0⟩:=ho1 id (by simp);have hφ:=hren.same id hidk0;obtain⟨cap,addr,hv,hszl,hk0,hcap,haddr,hextc,hcl⟩:=hc.gQ;have hr1:=hr1.resolve_left fun h=>by cases h.1
      cases hr1 with
      |@ui _ _ b off cap1 aH fps hsz0 hown0 hcap1 hext1 hfl hrr=>
      simp only[Value.slice.injEq,bH,Addr.mk.injEq]at hv;obtain⟨⟨hb,hoff,_⟩,hlen2,hcap2⟩:=hv;subst hszz;simp only[de,ae]at hw;obtain⟨arr0,hown1,hext0,hfit0,hv0⟩:=yM hI0 hw.1;obtain⟨arr1,hown2,hsize2⟩:=hgrow _ _ hown1;rw[hb]at hown0;obtain rfl:=hown0.Ei hown2;rw[fm]at hn1;have hb1:=hSK b (.inl (by simp));have hbase:∀i,i<rows.length->off+i=(φ0 id).aL+i:=fun i hi=>by rw[hoff,haddr (by omega)];simp
      have hget:∀i,w.cell? ⟨(φ id).bU,i,none⟩=aH[i]?:=by rw[hφ];exact hown2.cell
      have hpat:∀k x,nH w (φ id) (rows.map jO) k x->∃fp,fps[k]?=some fp/\fp=[x]:=by rintro k x ⟨rs,v,h1,h2,h3⟩;rw[aB]at h1;obtain⟨r,hr1,hr2⟩:=aG.1 h1;have hlt:=(ah.1 hr1).1;have hf:fps[k]?=some fps[k]:=ai (by omega);obtain⟨v',q1,q2⟩:=hrr k r fps[k] hr1 hf;rw[hget,hφ,<-hbase k hlt,q1]at h2;obtain rfl:=aa h2;cases r with|none=>cases hr2|some rows'=>obtain⟨b',q3,q4⟩:=q2;rw[q4.bU]at h3;obtain rfl:=aa h3;exact⟨_,hf,q3⟩
      have hmem:∀k x,nH w (φ id) (rows.map jO) k x->x∈fps.flatten:=fun k x hp=>by obtain⟨fp,h1,rfl⟩:=hpat k x hp;exact cY.2 ⟨[x],aT h1,by simp⟩
      have hbl:(φ id).bU=b:=by rw[hφ,<-hb]
      rw[hszl,iC]at hfit0
      refine fin id (.nst szi (rows.map jO)) w2 k rfl rfl hrec (hI.put (i:=id) (hren.sub id hidk0) (.nst szi (rows.map jO)) (fun _ j o hj hown hne hm=>by rw[hbl]at hm;exact ha1 j o hj hown b hm (by simp))
       (.nst hsz0 (by rw[hφ];exact hszl) (by rw[hbl];exact hb1.1) (by rw[hbl];exact hb1.2) (by rw[hφ];exact hown2) (by rw[hφ,<-hext0];exact hsize2)
        (by rw[hφ,aK,hrl];exact hfit0) (fun i s hi=>by
         rw[aB]at hi;obtain⟨r,hr1,rfl⟩:=aG.1 hi;have hlt:=(ah.1 hr1).1;have hf:fps[i]?=some fps[i]:=ai (by omega);obtain⟨v,q1,q2⟩:=hrr i r fps[i] hr1 hf;refine⟨v,by rw[hφ,<-hbase i hlt];exact q1,?_⟩;cases r with
         |none=>obtain⟨rfl,_⟩:=q2;exact .nil
         |some rows'=>obtain⟨b',q3,q4⟩:=q2;have hm:b'∈fps.flatten:=cY.2 ⟨fps[i],eT _,by rw[q3];simp⟩;exact .bf q4 (hSK b' (.inl (av _ hm))).1 (hSK b' (.inl (av _ hm))).2) (by rw[hφ,aK,hrl];exact hv0))
       fun sz' sl' k x eo hp=>by cases eo;have hm:=hmem k x hp;refine⟨fun e=>hn1.1 (by rw[<-hbl,<-e];exact hm),fun j o hj hown hne hx=>ha1 j o hj hown x hx (av _ hm),fun k' hp'=>?_⟩;obtain⟨fp,h1,rfl⟩:=hpat k x hp;obtain⟨fp',h2,rfl⟩:=hpat k' x hp';exact y7 hn1.2 h2 h1) fun x hx=>?_
      rcases cS.1 hx with rfl|⟨sz',sl',k',h1,h2⟩
      .rw [hbl];simp
      .rw [bB,if_pos rfl]at h1;cases h1;exact av _ (hmem k' x h2)
     .simp at h
    .simp at h
   .--it is qV
    rename_i heq1 heq2;simp only[cJ,bO]at heq1 heq2;obtain⟨⟨rfl,rfl,rfl⟩,rfl⟩:=heq1;obtain⟨rfl,rfl⟩:=heq2;split at h
    .rename_i w2 k hrec;obtain⟨rfl,rfl⟩:bf.map (fun i=>((i,none):Nat×Option Ob))++w2=bu/\k=m:=by simpa using h
     have e0:f1=[]:=by
      rcases hr1 with h|h
      .exact h.2
      .cases h
     subst e0;obtain⟨φ',hB⟩:=ih vs outs f2 nxt w2 k hl hw2 hr2 hI hfr hren hn2 (fun b hb=>hSK b (.inr hb)) ha2 ho2 hon2 hrec;have hmk:=hB.le;have hkeys:=hB.AO
     have hwn:∀j∈bf,bM w2 j=none:=fun j hj=>by
      cases hx:bM w2 j with
      |none=>rfl
      |some x=>
       obtain⟨p,hp,rfl⟩:=nk hx;rcases hkeys p hp with h|h
       .exact absurd rfl (hon3 p.1 hj p.1 h)
       .exact absurd (hren.sub _ (ho1 _ hj).2) (hfr p.1 h.1 h.2)
     have heq:a_ (bf.map (fun i=>((i,none):Nat×Option Ob))++w2) hf=a_ w2 hf:=by
      rw[cK];funext j
      conv=>lhs;unfold a_
      rw[mH];by_cases hjo:j∈bf
      .rw [if_pos hjo];simp only[a_,hwn j hjo,(ho1 j hjo).1]
      .rw [if_neg hjo];rfl
     refine⟨φ',hB.le,hB.nZ,heq▸hB.inv,fun p hp=>?_,fun i hi=>?_,fun i o hio hownio hi=>?_⟩
     .rw [hoc];rcases aj.1 hp with hp|hp
      .obtain ⟨j,hj,rfl⟩:=cU.1 hp;exact .inl (aC _ hj)
      .rcases hkeys p hp with h|h
       .exact .inl (aA _ h)
       .exact .inr h
     .rw [hoc]at hi;rw[eP,mH];by_cases hjo:i∈bf
      .rw [if_pos hjo];rfl
      .rw [if_neg hjo];exact hB.LS i ((aj.1 hi).resolve_left hjo)
     .rw [heq]at hio|-;refine hB.bU i o hio hownio (hi.imp (fun h=>?_) id);rw[hoc]at h;refine(aj.1 h).resolve_left fun hjo=>?_;simp only[a_,hwn i hjo,(ho1 i hjo).1]at hio;cases hio
    .simp at h
   .simp at h
end
section
variable{P:Program}{S K:Nat->Prop}{w0 w:World}{Kn:Nat->Prop}{φ:Nat->eG}{H:bl}{ρ:Operand->Value}{o:Oper}{call:Call}
 {nxt n':Nat} {v:TV} {u:dD} {ap:List Nat}
theorem ny.vw{T:Nat->Prop}{x:TV}{cs:List C}{ds:List D}{val:Value}(hr:dO S w Kn φ x val)(hc:cellsOf x=some cs)(hl:ds.length=cs.length)
  (hd:∀(i:Nat)(d:D),ds[i]?=some d->∃v,val.cells.toList[i]?=some v/\RD T w d v):ny T w (lY x) ds val:=by
 cases hr with
 |@c x v h=>
  obtain rfl:[x]=cs:=by simpa[cellsOf]using hc
  have e:=nu h.one
  match ds,hl,hd with
  |[d],_,hd=>
   obtain⟨v',h1,h2⟩:=hd 0 d rfl;rw[e]at h1;obtain rfl:val=v':=by simpa using h1
   exact⟨d,rfl,h2⟩
 |@agg cs' aH hlen h=>
  obtain rfl:cs'=cs:=by simpa[cellsOf]using hc
  refine⟨aH,rfl,hl.trans hlen,fun i x hi=>?_⟩;obtain⟨v',h1,h2⟩:=hd i x hi;have h1:aH.toList[i]?=some v':=h1;have e:aH.getD i undef=v':=by rw[aU]at h1;simp[h1]
  rw[e];exact h2
 |eU=>simp[cellsOf]at hc
theorem kO.put{ka va:Bool}{es:List mS}{ms:Array MapEntry}(hE:kO S w ka va es ms.toList){i:Nat}(hi:i<es.length){ds:List D}{kv x:Value}(hk:xj ka (es.getD i default).1 kv)(hx:ny S w va ds x):
  kO S w ka va (es.set i ((es.getD i default).1,ds,(es.getD i default).2.2)) (ms.modify i (fun e=>{e with key:=kv,val:=x})).toList:=by
 obtain⟨e0,e1,e3,e4⟩:=hE.GG (j:=i) (by rw[<-hE.1];exact hi);refine⟨by simp[hE.1],fun j e m hj hm=>?_⟩;have hm':(ms.modify i (fun e=>{e with key:=kv,val:=x}))[j]?=some m:=by rw[<-aU];exact hm
 rw[Array.getElem?_modify]at hm';rw[List.getElem?_set]at hj;by_cases hij:i=j
 .subst hij;rw[if_pos rfl]at hm' hj;rw[if_pos hi]at hj;obtain rfl:=aa hj;have ea:ms[i]?=some (ms.toList.getD i default):=by rw[<-e0];simp
  rw[ea]at hm';obtain rfl:({ms.toList.getD i default with key:=kv,val:=x}:MapEntry)=m:=by simpa using hm'
  exact⟨hk,hx,e4⟩
 .rw [if_neg hij]at hm' hj;exact hE.2 j e m hj (by simpa using hm')
theorem kO.push{ka va:Bool}{es:List mS}{ms:Array MapEntry}(hE:kO S w ka va es ms.toList){key:List Value}{ds:List D}{kv x:Value}{bA:Nat}(hk:xj ka key kv)(hx:ny S w va ds x):
  kO S w ka va (es++[(key,ds,bA)]) (ms.push {key:=kv,val:=x,born:=bA}).toList:=by
 refine⟨by simp[hE.1],fun i e m hi hm=>?_⟩;rw[Array.toList_push]at hm;rcases fE i es.length with hlt|hge
 .rw [bn hlt]at hi;rw[bn (by rw[<-hE.1];exact hlt)]at hm;exact hE.2 i e m hi hm
 .rw [bo hge]at hi;rw[bo (by rw[<-hE.1];exact hge),<-hE.1]at hm;have h0:i-es.length=0:=by have:=(ah.1 hi).1;simp at this;omega
  rw[h0]at hi hm;obtain rfl:(key,ds,bA)=e:=by simpa using hi
  obtain rfl:MapEntry.mk kv x bA=m:=by simpa using hm
  exact⟨hk,hx,rfl⟩
theorem kO.jD{ka va:Bool}{es:List mS}{ms:Array MapEntry}(hE:kO S w ka va es ms.toList)(i:Nat):kO S w ka va (es.eraseIdx i) (ms.eraseIdxIfInBounds i).toList:=by
 have e:(ms.eraseIdxIfInBounds i).toList=ms.toList.eraseIdx i:=by
  unfold Array.eraseIdxIfInBounds;split
  .simp
  .rename_i h;rw[List.eraseIdx_of_length_le (by simpa using h)]
 rw[e];refine⟨by simp[List.length_eraseIdx,hE.1],fun j x m hj hm=>?_⟩;rw[List.getElem?_eraseIdx]at hj hm;split at hj
 .rename_i h;rw[if_pos h]at hm;exact hE.2 j x m hj hm
 .rename_i h;rw[if_neg h]at hm;exact hE.2 (j+1) x m hj hm
theorem Da{t kt et:TypeId}{ka va:Bool}{ks:List Kd}{z:List Value}{n:Nat}{m ix x:Operand}(ho:o.op=.mapUpdate t m ix x)(hu:P.underlying t=some (.map kt et))
  (hm:mB P kt et=some (ka,ks,va,z)) (hI:Inv S K w0 Kn φ (au H) w) {tm tk tx:Option TV} (hx:∀y,tm=some y->dO S w Kn φ y (ρ m)) (hy:∀y,tk=some y->dO S w Kn φ y (ρ ix))
  (hz:∀y,tx=some y->dO S w Kn φ y (ρ x)) (h:bN call (.og ka ks va n) [tm,tk,tx] H nxt=some (v,u,ap,n')):ct P o ρ S K w0 w Kn φ (au H) nxt n' v u:=by
 match tm,tk,tx,h,hx,hy,hz with
 |some (.c mc),some k,some xv,h,hx,hy,hz=>
  change (match nq ka ks va n mc k xv H with|some (u,ap)=>some (TV.eU [],u,ap,nxt)|none=>none)=_ at h;split at h
  .rename_i u1 ids1 hl;obtain⟨rfl,rfl,rfl,rfl⟩:TV.eU []=v/\u1=u/\ids1=ap/\nxt=n':=by simpa using h
   simp only[mB]at hm;split at hm
   .rename_i ka' ks' va' z' hag hk hae hz';split at hm
    .obtain ⟨rfl,rfl,rfl,rfl⟩:ka'=ka/\ks'=ks/\va'=va/\z'=z:=by simpa using hm
     have hrm:=hx _ rfl;generalize hv1:ρ m=vm at hrm;unfold nq at hl;split at hl
     .rename_i id key cs hkey hcs;obtain⟨hkv,hkl,hrk⟩:=jB hkey (hy _ rfl);split at hl
      .rename_i ds ids2 hvw;split at hl
       .rename_i fu hfz;split at hl
        .rename_i ka2 va2 es bA hob;split at hl
         .rename_i hc;obtain⟨rfl,rfl,hn,hag2,hnm⟩:=hc;have hnm:id∉ids2:=by simpa using hnm
          cases hrm with
          |c hrm=>
           cases hrm with
           |om hkn=>
            have hcr:=(hz _ rfl).cr hcs
            obtain⟨hdl,hds⟩:=kU hI cs ds ids2 hvw (fun i=>(ρ x).cells.toList[i]?) (fun i c hi=>by
             have hlt:i<(ρ x).cells.toList.length:=by rw[<-hcr.1];exact(ah.1 hi).1
             exact⟨_,ai hlt,hcr.2 i c _ hi (ai hlt)⟩)
            have hval:=ny.vw (hz _ rfl) hcs hdl hds;rw[hag2]at hval;have hI1:=hI.wI hfz;have hob1:a_ fu (au H) id=some (.map ka2 va2 es bA):=by simp only[a_,(gS ids2 fu hfz id).2 hnm,hob]
            obtain⟨_,h0⟩:=hI1.fC _ _ hob1;obtain⟨ms,hms,hE⟩:=h0.Gd;have hck:=ke (P:=P) false 9992 8 kt ks' hk ka2 hag _ w hkl;split at hl
            .rename_i i hfe;obtain⟨f1,f2⟩:=iG (P:=P) hk hag hE hfe;obtain⟨f3,f4⟩:=f2 i rfl;obtain⟨e0,e1,e3,e4⟩:=hE.GG f3;obtain⟨_,hqq⟩:=y8 hfe;obtain⟨_,ag,hag',hone⟩:=pA 8 kt ks' hk;obtain rfl:ka2=ag:=aa (hag.symm.trans hag');have hold:(ms.toList.getD i default).key=mr ka2 key:=by rw[e1.mr,<-f4]
             obtain⟨rfl,rfl⟩:=ad (aa hl);have ea:ms[i]?=some (ms.toList.getD i default):=by rw[<-e0];simp
             have hE':=hE.put (i:=i) (kv:=mr ka2 key) (x:=ρ x) (ds:=ds) (by rw[hE.1];exact f3) (by rw[<-hold];exact e1) hval;obtain⟨hs,hI'⟩:=hI1.pG (clock':=bA) hob1 hms hE';refine⟨.skip,undef,{w with heap:=w.heap.setIfInBounds (φ id).bU (.map (ms.modify i (fun e=>{e with key:=mr ka2 key,val:=ρ x})) bA)},?_,.inr ⟨rfl,rfl⟩,hI.uO ((SB.nT ids2).trans hs) hI' ?_⟩
             .have dm:=yP (P:=P) (w:=w) hold (p7 (n:=9999) hone hqq);simp only[execOp,ho,Instr.mapUpdate,hv1,Sem.run_bind,bp hu,Result.andThen_ok,gP hms,hkv];rw[show(10000:Nat)=8+9992 from rfl,hck];simp only[Result.andThen_ok,Sem.run_bind,f1,bh,ea,dn,dm,jp _ hms,Sem.run_pure]
             .rw [<-cK];rfl
            .rename_i hfe;obtain⟨f1,_⟩:=iG (P:=P) hk hag hE hfe;obtain⟨rfl,rfl⟩:=ad (aa hl);have hE':=hE.push (bA:=bA) (kv:=mr ka2 key) (x:=ρ x) (ds:=ds) (key:=key) (hkv▸hrk) hval;obtain⟨hs,hI'⟩:=hI1.pG (clock':=bA+1) hob1 hms hE';refine⟨.skip,undef,{w with heap:=w.heap.setIfInBounds (φ id).bU (.map (ms.push {key:=mr ka2 key,val:=ρ x,born:=bA}) (bA+1))},?_,.inr ⟨rfl,rfl⟩,hI.uO ((SB.nT ids2).trans hs) hI' ?_⟩
             .simp only[execOp,ho,Instr.mapUpdate,hv1,Sem.run_bind,bp hu,Result.andThen_ok,gP hms,hkv];rw[show(10000:Nat)=8+9992 from rfl,hck];simp only[Result.andThen_ok,Sem.run_bind,f1,eg,jp _ hms,Sem.run_pure]
             .rw [<-cK];rfl
            .simp at hl
         .simp at hl
        .simp at hl
       .simp at hl
      .simp at hl
     .simp at hl
    .simp at hm
   .simp at hm
  .simp at h
theorem Db{c:j6}{t kt et kt2:TypeId}{ka va:Bool}{ks:List Kd}{z:List Value}{m ix:Operand}(ho:o.op=.call c)(hcal:c.callee=.builtin .delete)(hargs:c.args= #[m,ix])(hts:c.argTypes= #[t,kt2])
  (hu:P.underlying t=some (.map kt et)) (hm:mB P kt et=some (ka,ks,va,z)) (hI:Inv S K w0 Kn φ (au H) w) {tm tk:Option TV} (hx:∀y,tm=some y->dO S w Kn φ y (ρ m)) (hy:∀y,tk=some y->dO S w Kn φ y (ρ ix))
  (h:bN call (.oh ka ks) [tm,tk] H nxt=some (v,u,ap,n')):ct P o ρ S K w0 w Kn φ (au H) nxt n' v u:=by
 match tm,tk,h,hx,hy with
 |some (.c mc),some k,h,hx,hy=>
  change (match nr ka ks mc k H with|some (u,ap)=>some (TV.eU [],u,ap,nxt)|none=>none)=_ at h;split at h
  .rename_i u1 ids1 hl;obtain⟨rfl,rfl,rfl,rfl⟩:TV.eU []=v/\u1=u/\ids1=ap/\nxt=n':=by simpa using h
   simp only[mB]at hm;split at hm
   .rename_i ka' ks' va' z' hag hk hae hz';split at hm
    .obtain ⟨rfl,rfl,rfl,rfl⟩:ka'=ka/\ks'=ks/\va'=va/\z'=z:=by simpa using hm
     have hrm:=hx _ rfl;generalize hv1:ρ m=vm at hrm;have unit:∀{w':World},dO S w' Kn φ (.eU []) (.tuple #[]):=.eU rfl fun i x hi=>by simp at hi
     unfold nr at hl;split at hl
     .rename_i key hkey;obtain⟨hkv,hkl,_⟩:=jB hkey (hy _ rfl);obtain⟨rfl,_⟩:=hrm.lit;obtain⟨rfl,rfl⟩:=ad (aa hl);have hck:=ke (P:=P) true 9992 8 kt ks' hk ka' hag _ w hkl;refine ct.pure hI ?_ unit
      simp only[execOp,ho,hcal,resolve,hargs,Sem.run_bind,Sem.run_pure,Result.andThen_ok,invoke,builtin,Builtin.delete_,hts,cu,aq,aR,hv1,hkv,bz,
       bF,ce,bp hu]
      rw[show(10000:Nat)=8+9992 from rfl,hck];simp only[Result.andThen_ok,Sem.run_pure]
     .rename_i id key hkey;obtain⟨hkv,hkl,_⟩:=jB hkey (hy _ rfl);split at hl
      .rename_i ka2 va2 es bA hob;split at hl
       .rename_i hkv2;subst hkv2;cases hrm with
        |c hrm=>
         cases hrm with
         |om hkn=>
          obtain⟨_,h0⟩:=hI.fC _ _ hob;obtain⟨ms,hms,hE⟩:=h0.Gd;have hck:=ke (P:=P) ms.isEmpty 9992 8 kt ks' hk ka2 hag _ w hkl;split at hl
          .rename_i i hfe;obtain⟨f1,_⟩:=iG (P:=P) hk hag hE hfe;obtain⟨rfl,rfl⟩:=ad (aa hl);obtain⟨hs,hI'⟩:=hI.pG (clock':=bA) hob hms (hE.jD i);refine⟨.value (.tuple #[]),_,{w with heap:=w.heap.setIfInBounds (φ id).bU (.map (ms.eraseIdxIfInBounds i) bA)},?_,.inl rfl,hO.set hs hI' unit⟩
           simp only[execOp,ho,hcal,resolve,hargs,Sem.run_bind,Sem.run_pure,Result.andThen_ok,invoke,builtin,Builtin.delete_,hts,cu,aq,aR,hv1,hkv,bz,
            bF,ce,bp hu,gP hms]
           rw[show(10000:Nat)=8+9992 from rfl,hck];simp only[Result.andThen_ok,Sem.run_bind,f1,bh,jp _ hms,Sem.run_pure]
          .rename_i hfe;obtain⟨f1,_⟩:=iG (P:=P) hk hag hE hfe;obtain⟨rfl,rfl⟩:=ad (aa hl);obtain⟨hs,hI'⟩:=hI.pG (clock':=bA) hob hms hE;refine⟨.value (.tuple #[]),_,{w with heap:=w.heap.setIfInBounds (φ id).bU (.map ms bA)},?_,.inl rfl,hO.set hs hI' unit⟩
           simp only[execOp,ho,hcal,resolve,hargs,Sem.run_bind,Sem.run_pure,Result.andThen_ok,invoke,builtin,Builtin.delete_,hts,cu,aq,aR,hv1,hkv,bz,
            bF,ce,bp hu,gP hms]
           rw[show(10000:Nat)=8+9992 from rfl,hck];simp only[Result.andThen_ok,Sem.run_bind,f1,eg,jp _ hms,Sem.run_pure]
          .simp at hl
       .simp at hl
      .simp at hl
     .simp at hl
    .simp at hm
   .simp at hm
  .simp at h
variable{e:gy}
theorem HM{t el:TypeId}{len n:Nat}{parts:Array (Nat×Operand)}{z:List Value}(ho:o.op=.buildSlice t len parts)(hu:P.underlying t=some (.slice el))
  (hs:dN P el=some (n+1)) (hz:gr P el=some z) (hlim:len*(n+1)<=4096/\z.length=n+1)
  (hI:Inv S K w0 Kn φ (au H) w) (hn0:nxt<n'->¬Kn nxt) (hρ:∀x tv,g_ e x=some tv->dO S w Kn φ tv (ρ x))
  (h:bN call (.KW (n+1) len ((dz (len*(n+1))).map fun i=>z.getD (i %(n+1)) undef) (parts.toList.map (·.1))) ((parts.toList.map (·.2)).map (g_ e)) H nxt=some (v,u,ap,n')):
  ct P o ρ S K w0 w Kn φ (au H) nxt n' v u:=by
 generalize hzs:((dz (len*(n+1))).map fun i=>z.getD (i %(n+1)) undef)=zs at h
 change (match cT ((parts.toList.map (·.2)).map (g_ e))with
  |some xs=>
   (match ig (dk zs) (((parts.toList.map fun(p:Nat×Operand)=>p.1).map fun i=>(i*(n+1),n+1)).zip xs)with
   |some cs=>some (TV.c (.dq (n+1) nxt 0 len),[(nxt,some (Ob.box cs))],([]:List Nat),nxt+1)
   |none=>none)
  |none=>none)=_ at h
 split at h
 .rename_i xs hxs;split at h
  .rename_i cs hcs;obtain⟨rfl,rfl,rfl,rfl⟩:TV.c (.dq (n+1) nxt 0 len)=v/\[(nxt,some (Ob.box cs))]=u/\[]=ap/\nxt+1=n':=by simpa using h
   have hn:=hn0 (Nat.lt_succ_self _);obtain⟨hl,hr⟩:=oG hρ hxs;obtain⟨zv,hzr,hzl,hzp⟩:=kq hz w
   have hzp':∀x∈zs,ck x=true:=by
    intro x hx;rw[<-hzs]at hx;obtain⟨i,_,rfl⟩:=cU.1 hx;have hlt:i %(n+1)<z.length:=by rw[hlim.2];exact Nat.mod_lt _ (b_ _)
    have:z.getD (i %(n+1)) undef=z[i %(n+1)]:=by simp[List.getD,hlt]
    rw[this];exact hzp _ (eT hlt)
   have hzero:∃zc:Array Value,(len*(n+1)=0->zc= #[])/\(¬len*(n+1)=0->zc=zv.cells)/\
     ((gN (len*(n+1))).map (fun i=>zc[i %zc.size]!)).toList=zs:=by
    by_cases hc:len*(n+1)=0
    .refine ⟨#[],fun _=>rfl,fun h=>absurd hc h,?_⟩;rw[<-hzs,hc];simp
    .refine ⟨zv.cells,fun h=>absurd h hc,fun _=>rfl,?_⟩;rw[nN hzl hlim.2 (b_ _),hzs]
   obtain⟨zc,hzc,hzc1,hzc2⟩:=hzero
   obtain⟨arr',h3,h4⟩:=pM (S:=S) (w:=w) (Kn:=Kn) (φ:=φ) (ρ:=ρ) (fun i=>some (i*(n+1),n+1)) parts.toList _ xs (dk zs) cs ((gN (len*(n+1))).map (fun i=>zc[i %zc.size]!))
    (by simp) (fun i p q hp hq=>by simp only[aB,hp,bh]at hq;exact hq) (by simpa using hl)
    (fun i p x hp hx=>hr i p.2 x (by simp only[aB,hp,bh]) hx) (by rw[hzc2];exact wu hzp') hcs
   obtain⟨h5,h6⟩:=tV h4
   have hcl:cs.length=len*(n+1):=by
    have:∀(l:List ((Nat×Nat)×TV))(a b:List C),ig a l=some b->b.length=a.length:=by
     intro l;induction l with
     |nil=>
      intro a b h;obtain rfl:a=b:=by simpa[ig]using h
      rfl
     |cons p l ih=>
      intro a b h;obtain⟨⟨off,m⟩,x⟩:=p;simp only[ig]at h;split at h
      .split at h
       .rename_i hb;rw[ih _ _ h,c8 _ _ _ (by omega)]
       .simp at h
      .simp at h
    rw[this _ _ _ hcs,<-hzs];simp[dk]
   obtain⟨nS,nK⟩:=wm hI;have dm:=eM.push (w:=w) hI.pU (.cells arr' el);have hren:Ren Kn φ (fun j=>Kn j\/j=nxt) (ext φ nxt ⟨w.heap.size,0,n+1,arr'.size,len⟩):=fW _ hn;have ha:=hI.alloc hn arr' el (n+1) len (.box cs) (.box rfl nS nK (sW w _ el) h5 fun i x hi=>(h6 i x hi).mono dm hren);refine⟨.value (.slice (some ⟨w.heap.size,0,none⟩) len len),.slice (some ⟨w.heap.size,0,none⟩) len len,_,?_,.inl rfl,Nat.le_succ _,S,_,dm,⟨fun _ h=>.inl h,hren.same⟩,.c ?_,ha.qj fun j=>ky j⟩
   .have h3':Instr.fill (fun i=>some (i*(n+1),n+1)) ((gN (len*(n+1))).map (fun i=>zc[i %zc.size]!)) (parts.map fun p=>(p.1,ρ p.2)).toList=some arr':=by rw[<-h3];simp
    have hlim':¬len*(n+1)>2^24:=by have:=hlim.1;omega
    simp only[execOp,ho,Sem.run_bind,Instr.buildSlice,bp hu,Result.andThen_ok,eK hs,if_neg hlim'];by_cases hc:len*(n+1)=0
    .rw [hzc hc]at h3';simp only[if_pos hc,Sem.run_bind,Sem.run_pure,Result.andThen_ok,h3',newRow,run_newObj]
    .rw [hzc1 hc]at h3';simp only[if_neg hc,Sem.run_bind,hzr,Sem.run_pure,Result.andThen_ok,h3',newRow,run_newObj]
   .have e:ext φ nxt ⟨w.heap.size,0,n+1,arr'.size,len⟩ nxt=⟨w.heap.size,0,n+1,arr'.size,len⟩:=by simp[ext]
    have:=RC.dq (S:=S) (w:={w with heap:=w.heap.push (.cells arr' el)}) (Kn:=kF Kn nxt (nxt+1)) (φ:=ext φ nxt ⟨w.heap.size,0,n+1,arr'.size,len⟩) (id:=nxt) (off:=0) (len:=len) (cap:=len) (addr:=0)
     (.inr (by omega)) (ak _) (by rw[e];simp) (by rw[e];simp only;omega) (by rw[e];simp)
    rw[e]at this;exact this
  .simp at h
 .simp at h
theorem JW{t el:TypeId}{x i:Operand}{sz:Nat}(ho:o.op=.indexAddr t x i)(hu:P.underlying t=some (.slice el))(hsz:dN P el=some sz)
  (hI:Inv S K w0 Kn φ (au H) w) {tx ti:Option TV} (hx:∀y,tx=some y->dO S w Kn φ y (ρ x)) (hi:∀y,ti=some y->dO S w Kn φ y (ρ i))
  (h:bN call (.Nb sz) [tx,ti] H nxt=some (v,u,ap,n')):ct P o ρ S K w0 w Kn φ (au H) nxt n' v u:=by
 match tx,h,hx with
 |some (.c c),h,hx=>
  change (match bL ti with|some i=>(match Ga sz c i with|some y=>some (TV.c y,([]:dD),([]:List Nat),nxt)|none=>none)|none=>none)=_ at h;split at h
  .rename_i n hn;obtain⟨k,hk⟩:=fK hn hi;split at h
   .rename_i y hy;obtain⟨rfl,rfl,rfl,rfl⟩:TV.c y=v/\[]=u/\[]=ap/\nxt=n':=by simpa using h
    have hr:=hx _ rfl;generalize hv0:ρ x=val at hr;cases hr with
    |c hr=>
     unfold Ga at hy;split at hy
     .rename_i sz' id off len;split at hy
      .rename_i hb;obtain⟨h0,h1,rfl⟩:=hb;obtain rfl:=aa hy;cases hr with
       |@dq _ _ _ cap addr hkn hcap haddr hext=>
        have run:(execOp ρ o).run P w=.ok (.value (.pointer (some ⟨(φ id).bU,addr+n.toNat*(φ id).sz,none⟩))) w:=by simp[execOp,ho,hv0,Instr.indexAt,jy hk,bp hu,h0,h1,eK hsz,kL]
        refine ct.pure hI run (.c ?_);have ha:=haddr (by omega);have e1:addr+n.toNat*(φ id).sz=(φ id).aL+(off+n.toNat)*(φ id).sz:=by rw[ha,Nat.add_mul];omega
        rw[e1];exact .op hkn
      .simp at hy
     .simp at hy
   .simp at h
  .simp at h
end
section
variable{P:Program}{S K:Nat->Prop}{w0 w:World}{Kn:Nat->Prop}{φ:Nat->eG}{hf:Nat->Option Ob}{H:bl}{e:gy}{ρ:Operand->Value}{o:Oper}{call:Call}{a:Act}
 {nxt n':Nat} {v:TV} {u:dD} {ap:List Nat}
def IW(P:Program)(o:Oper)(a:Act)(S K:Nat->Prop)(w0 w:World)(Kn:Nat->Prop)(φ:Nat->eG)(hf:Nat->Option Ob)(nxt n':Nat)(v:TV)(u:dD):Prop:=∀(next:Act->World->Prop)(Q:Exit->Act->World->Prop),(∀val w',hO S K w0 w Kn φ hf nxt n' v u val w'->next (a.put o.dst val) w')->o.wp P a w next Q
theorem ct.gR(h:ct P o a.eval S K w0 w Kn φ hf nxt n' v u):IW P o a S K w0 w Kn φ hf nxt n' v u:=by
 intro next Q hn
 obtain⟨nx,val,w',hr,hx,hd⟩:=h;unfold Oper.wp;rw[hr];rcases hx with rfl|⟨rfl,rfl⟩
 .exact hn _ _ hd
 .exact hn _ _ hd
theorem Ai{tvs:List TV}{vs:List Value}(hl:tvs.length=vs.length)(h:∀(i:Nat)(t:TV)(v:Value),tvs[i]?=some t->vs[i]?=some v->dO S w Kn φ t v):dO S w Kn φ (nY tvs) (pI vs):=by
 have zK:dO S w Kn φ (.eU tvs) (.tuple vs.toArray):=by
  refine .eU (by simpa using hl) fun i x hi=>?_;have hlt:i<vs.length:=by rw[<-hl];exact(ah.1 hi).1
  have:=h i x vs[i] hi (ai hlt);simpa[hlt]using this
 match tvs,vs,hl,h,zK with|[],[],_,_,zK=>exact zK|[t],[v],_,h,_=>exact h 0 t v rfl rfl|_::_::_,_::_::_,_,_,zK=>exact zK
theorem RD.B8{S':Nat->Prop}{w':World}{v x:Value}(h:RD S w (.lit v) x):RD S' w' (.lit v) x:=by cases h with|lit h=>exact .lit h|nan hn hm=>exact .nan hn hm|ex=>exact .ex|jk h=>exact .jk h
theorem xh.dk{S':Nat->Prop}:∀{rs:List R}{vs:List Value}{fp:List Nat},rs.all qO=true->xh S w rs vs fp->xh S' w rs vs []:=by
 intro rs;induction rs with
 |nil=>intro vs fp _ h;cases vs with|nil=>rfl|cons v vs=>exact h.elim
 |cons r rs ih=>
  intro vs fp hl h;cases vs with
  |nil=>exact h.elim
  |cons v vs=>
   simp only[ed,ae]at hl;obtain⟨f1,f2,_,h1,h2⟩:=h;refine⟨[],[],rfl,?_,ih hl.2 h2⟩;have hl1:=hl.1;cases r with
   |c t=>
    cases t with
    |d x=>
     cases x with
     |lit y=>have h1:RT S w (.d (.lit y)) v f1:=h1;cases h1 with|d hd=>exact RT.d hd.B8
     |_=>simp[qO]at hl1
    |_=>simp[qO]at hl1
   |agg ts=>
    obtain⟨aH,fps,rfl,q1,q2,q3,q4⟩:=h1;refine⟨aH,fps.map fun _=>[],rfl,q1,by simpa using q2,by simp,fun i t f hi hfi=>?_⟩;simp only[qO,aQ]at hl1;have ht:=hl1 t (aT hi);obtain rfl:f=[]:=by rw[aB]at hfi;obtain⟨_,_,rfl⟩:=aG.1 hfi;rfl
    have hlt:i<fps.length:=by rw[q2];exact(ah.1 hi).1
    have:=q4 i t fps[i] hi (ai hlt);generalize fps[i]=g at this;cases t with
    |d x=>
     cases x with
     |lit y=>cases this with|d hd=>exact RT.d hd.B8
     |_=>simp at ht
    |_=>simp at ht
theorem Inv.after{S':Nat->Prop}{w':World}{fp:List Nat}(hI:Inv S K w0 Kn φ hf w)(hs:eM S w S' w')(hsub:∀b,S' b->S b\/b∈fp\/w.heap.size<=b)(hlt:∀b,S' b->b<w'.heap.size)
  (hfp:∀b∈fp,¬K b) (haw:pj w φ hf fp) (hfrm:Cy (fun b=>b<w.heap.size/\b∉fp) w w'):Inv S' K w0 Kn φ hf w':=by
 refine hI.ll hs (Ren.refl _ _) hlt (fun b hb hK=>?_) ⟨hI.j8.AN,fun b hb=>?_,dg hI.j8.grow hfrm.grow,fun a ha=>(hfrm.vi a (bQ ha hI.j8.grow)).trans (hI.j8.vi a ha),fun b aH ho=>?_,hI.j8.io.trans hfrm.io⟩ (fun id o ho=>.inl ⟨ho,fun hown=>?_⟩) hI.kJ ?_
 .have h1:b<w.heap.size:=bQ (hI.j8.AN b hK) hI.j8.grow;rcases hsub b hb with h|h|h
  .exact hI.sk b h hK
  .exact hfp b h hK
  .omega
 .have h1:b<w.heap.size:=bQ (hI.j8.AN b hb) hI.j8.grow;exact(hfrm.jT b ⟨h1,fun h=>hfp b h hb⟩).trans (hI.j8.jT b hb)
 .obtain ⟨a1,h1,h2⟩:=hI.j8.bf b aH ho;obtain⟨a2,h3,h4⟩:=hfrm.bf b a1 h1;exact⟨a2,h3,h4.trans h2⟩
 .obtain ⟨h1,h2,h3⟩:=(hI.fC id o ho).2.bf hown;have h4:=haw id o ho hown _ (ik id);refine⟨hfrm.jT _ ⟨h3,h4⟩,fun h=>?_⟩;rcases hsub _ h with h|h|h
  .exact h1 h
  .exact h4 h
  .omega
 .intro id sz sl ho;have h4:=haw id _ ho rfl
  have key:∀x∈fc w φ hf id,w'.heap[x]?=w.heap[x]?/\¬S' x:=fun x hx=>by
   obtain⟨h1,_,h3⟩:=kE hI ho rfl hx;refine⟨hfrm.jT _ ⟨h3,h4 x hx⟩,fun h=>?_⟩;rcases hsub _ h with h|h|h
   .exact h1 h
   .exact h4 x hx h
   .omega
  refine⟨ho,(key _ (ik id)).1,fun k x hp=>?_⟩;obtain⟨q1,q2⟩:=key x (cS.2 (.inr ⟨sz,sl,k,ho,hp⟩));exact⟨q1,q2,(hI.rp id sz sl k x ho hp).1⟩
theorem RT.ck{S0:Nat->Prop}{t:T}{v:Value}{fp:List Nat}(h:Ap t=true)(hr:RT S w t v fp):RT S0 w t v fp:=by
 cases hr with
 |d hd=>cases hd with|lit hp=>exact .d (.lit hp)|nan hn hm=>exact .d (.nan hn hm)|ex=>exact .d .ex|jk h=>exact .d (.jk h)|_=>simp[Ap]at h
 |sl h0 ho hl hc he hr=>refine .sl h0 ho hl hc he ⟨hr.1,fun i r hi j x hj=>?_⟩;obtain⟨v,h1,h2⟩:=hr.2 i r hi j x hj;simp only[Ap]at h;have hx:=aQ.1 (aQ.1 h r (aT hi)) x (aT hj);refine⟨v,h1,?_⟩;cases h2 with|lit hp=>exact .lit hp|nan hn hm=>exact .nan hn hm|ex=>exact .ex|jk h=>exact .jk h|_=>simp at hx
 |_=>simp[Ap]at h
theorem GR.ck{S0:Nat->Prop}:∀{ts:List T}{vs:List Value}{fp:List Nat},ts.all Ap=true->GR S w ts vs fp->GR S0 w ts vs fp:=by
 intro ts;induction ts with
 |nil=>intro vs fp _ h;cases vs<;>exact h
 |cons t ts ih=>intro vs fp h hr;simp only[ed,ae]at h;cases vs with|nil=>exact hr|cons v vs=>obtain⟨f1,f2,e,h1,h2⟩:=hr;exact⟨f1,f2,e,h1.imp id (RT.ck h.1),ih h.2 h2⟩
theorem Left.ck{S0:Nat->Prop}{fp:List Nat}{rs:List R}{outs:List T}{lent:List Value}{v:Value}{w':World}(h:Left S w fp rs outs lent v w')(hS:∀b,S0 b->S b)(h1:rs.all qO=true)(h2:outs.all Ap=true):Left S0 w fp rs outs lent v w':=by
 obtain⟨S',gO,fp1,fp2,rfl,hs,hsub,hlt,hrr,hrt,hnd,hb,hfrm⟩:=h;refine⟨S0,gO,[],fp2,rfl,⟨fun _ h=>h,fun b hb=>hs.same b (hS b hb)⟩,fun b h=>.inl h,fun b h=>hlt b (hs.sub b (hS b h)),hrr.dk h1,hrt.ck h2,?_,fun b hm=>?_,hfrm⟩
 .exact (cA.1 hnd).2.1
 .have:=hb b (aA _ hm);exact⟨fun h=>this.1 (hs.sub b (hS b h)),this.2⟩
theorem t7{as:List A}{ap:List Nat}{lent:List (C×List Nat×List Nat)}{vs:List Value}{rs:List R}{outs:List T}{val:Value}{w':World}{rd:List Nat}
  (hI:Inv S K w0 Kn φ (au H) w) (hfr:∀j,nxt<=j->j<n'->¬Kn j)
  (hown:∀i∈lent.flatMap (·.2.1),∃o,au H i=some o/\bP o=true) (hlent:Bw Kn φ S w lent (jA as vs))
  (hwhole:de H lent=true) (hnd:(lent.flatMap (·.2.1)).Nodup)
  (hleft:Left (SB S w φ (au H) ap) w ((lent.flatMap (·.2.1)).flatMap (fc w φ (au H))) rs outs (jA as vs) val w')
  (h:(match cq H ap ap with
      |none=>none
      |some fu=>
       match cQ nxt lent outs with
       |none=>none
       |some (bu,m)=>some (nY (eW m rs).1,(eW m rs).2.1++bu++fu,ap++lent.flatMap (·.2.2),(eW m rs).2.2))=some (v,u,rd,n')):
  hO S K w0 w Kn φ (au H) nxt n' v u val w':=by
 obtain⟨S',gO,fp1,fp2,rfl,hs,hsub,hlt,hrr,hrt,hnd2,hb,hfrm⟩:=hleft;split at h
 .simp at h
 .rename_i fu hfz;split at h
  .simp at h
  .rename_i bu m hbk;obtain⟨rfl,rfl,_,rfl⟩:nY (eW m rs).1=v/\(eW m rs).2.1++bu++fu=u/\ap++lent.flatMap (·.2.2)=rd/\(eW m rs).2.2=n':=by simpa using h
   have hI1:=hI.wI hfz;have hmn:=BB rs m;have hnm:=vr _ _ _ _ _ hbk
   -- what was lent is out of the heap
   let kills:dD:=(gD lent).map fun i=>(i,none);have hkn:∀j,bM kills j=if j∈gD lent then some none else none:=mH (gD lent)
   have hf2:∀id o,a_ kills (a_ fu (au H)) id=some o->id∉gD lent/\a_ fu (au H) id=some o:=by
    intro id o ho;have:a_ kills (a_ fu (au H)) id=(match bM kills id with|some o=>o|none=>a_ fu (au H) id):=rfl;rw[this,hkn]at ho;by_cases hm:id∈gD lent
    .rw [if_pos hm]at ho;simp at ho
    .rw [if_neg hm]at ho;exact⟨hm,ho⟩
   have hIk:Inv (SB S w φ (au H) ap) K w0 Kn φ (a_ kills (a_ fu (au H))) w:=hI1.i_ fun id o ho=>(hf2 id o ho).2
   -- the frozen part agrees with the heap dw, where a thing is owned
   have hold:∀id o,a_ fu (au H) id=some o->bP o=true->au H id=some o:=by
    intro id o ho hown;by_cases hm:id∈ap
    .obtain ⟨o',ho',hfn⟩:=(gS ap fu hfz id).1 hm;simp only[a_,hfn]at ho;obtain rfl:=aa ho;have:=(vj hI hm ho').1;rw[this]at hown;simp at hown
    .simpa only[a_,(gS ap fu hfz id).2 hm]using ho
   have hbk2:∀j o,a_ kills (a_ fu (au H)) j=some o->bP o=true->au H j=some o/\fc w φ (a_ kills (a_ fu (au H))) j=fc w φ (au H) j:=fun j o hj hjo=>by have h3:=hold j o (hf2 j o hj).2 hjo;exact⟨h3,eC rfl (hj.trans h3.symm)⟩
   have haw:pj w φ (a_ kills (a_ fu (au H))) ((lent.flatMap (·.2.1)).flatMap (fc w φ (au H))):=by intro j o hj hjo x hx hm;obtain⟨h1,h2⟩:=hf2 j o hj;obtain⟨i,hi,hie⟩:=gH.1 hm;obtain⟨oi,hoi,hoio⟩:=hown i hi;obtain⟨h3,h4⟩:=hbk2 j o hj hjo;rw[h4]at hx;exact kj hI hoi h3 hoio hjo (fun e=>h1 (e▸hi)) hie hx
   have hfpK:∀b∈((lent.flatMap (·.2.1)).flatMap (fc w φ (au H))),¬K b/\b<w.heap.size:=by intro b hbm;obtain⟨i,hi,hie⟩:=gH.1 hbm;obtain⟨oi,hoi,hoio⟩:=hown i hi;exact(kE hI hoi hoio hie).2
   have hI2:Inv S' K w0 Kn φ (a_ kills (a_ fu (au H))) w':=hIk.after hs hsub hlt (fun b hb=>(hfpK b hb).1) haw hfrm
   have hK12:∀b∈fp1++fp2,¬S' b/\¬K b:=fun b hbm=>by
    obtain⟨h1,h2⟩:=hb b hbm;refine⟨h1,fun hk=>?_⟩;rcases h2 with h2|h2
    .exact (hfpK b h2).1 hk
    .have:=hI.j8.AN b hk;have:=hI.j8.grow;omega
   have haw12:pj w' φ (a_ kills (a_ fu (au H))) (fp1++fp2):=fun j o hj hjo x hx hm=>by
    rw[vJ (hfrm.jT _ ⟨((hIk.fC j o hj).2.bf hjo).2.2,haw j o hj hjo _ (ik j)⟩)]at hx;rcases(hb _ hm).2 with h2|h2
    .exact haw j o hj hjo x hx h2
    .have:=(kE hIk hj hjo hx).2.2;omega
   rw[cA]at hnd2;obtain⟨hn1,hn2,hn3⟩:=hnd2;simp only[aj]at hK12
   obtain⟨φ1,hB⟩:=Bp hI hfrm.bf lent (jA as vs) outs fp2 nxt bu m hlent hwhole hrt hI2 (fun j h1 h2=>hfr j h1 (by omega)) (Ren.refl _ _) hn2 (fun b hb=>hK12 b (.inr hb))
    (fun j o hj hjo x hx hm=>haw12 j o hj hjo x hx (by simp[hm]))
    (fun i hi=>by obtain⟨oi,hoi,_⟩:=hown i hi;refine⟨?_,(hI.fC i oi hoi).1⟩;show(match bM kills i with|some o=>o|none=>a_ fu (au H) i)=none;rw[hkn,if_pos hi]) hnd hbk
   have hkk:a_ bu (a_ kills (a_ fu (au H)))=a_ bu (a_ fu (au H)):=by
    funext j;by_cases hm:j∈gD lent
    .obtain ⟨x,hx⟩:=d_.1 (hB.LS j hm);simp only[a_,hx]
    .have h1:a_ kills (a_ fu (au H)) j=a_ fu (au H) j:=by show(match bM kills j with|some o=>o|none=>a_ fu (au H) j)=_;rw[hkn,if_neg hm]
     have h2:∀g:Nat->Option Ob,a_ bu g j=(match bM bu j with|some o=>o|none=>g j):=fun _=>rfl;rw[h2,h2,h1]
   have hIB:=hB.inv;rw[hkk]at hIB
   have haw1:pj w' φ1 (a_ bu (a_ fu (au H))) fp1:=by
    intro j o hj hjo x hx hm;by_cases hk:j∈gD lent\/(nxt<=j/\j<m)
    .have:=hB.bU j o (by rw[hkk];exact hj) hjo hk x (by rw[hkk];exact hx);exact hn3 _ hm _ this rfl
    .have hfn:bM bu j=none:=iA fun p hp e=>by
      rcases hB.AO p hp with h|h
      .exact hk (.inl (e▸h))
      .exact hk (.inr (e▸h))
     have hj2:a_ kills (a_ fu (au H)) j=some o:=by rw[<-hkk]at hj;simpa only[a_,hfn]using hj
     have hknj:=(hI2.fC j o hj2).1;rw[eC (hB.nZ.same j hknj) (hj.trans hj2.symm)]at hx;exact haw12 j o hj2 hjo x hx (by simp[hm])
   obtain⟨φ2,hL,hlen,hr⟩:=zP rs m gO fp1 hIB (fun j h1 h2 hk=>by
     rcases hk with hk|hk
     .exact hfr j (by omega) h2 hk
     .omega) hrr hn1 (fun b hb=>hK12 b (.inl hb)) haw1
   refine⟨by omega,S',φ2,(SB.nT ap).trans hs,⟨fun i h=>.inl h,fun i h=>(hL.nZ.same i (.inl h)).trans (hB.nZ.same i h)⟩,?_,?_⟩
   .exact (Ai hlen hr).kn fun i=>(ng hnm hmn i).1
   .rw [cK,cK];exact hL.inv.qj fun i=>ng hnm hmn i
theorem DY{as:List A}{ap:List Nat}{lent:List (C×List Nat×List Nat)}{vs:List Value}{rs:List R}{outs:List T}{ro:Bool}{val:Value}{w':World}{rd:List Nat}
  (hI:Inv S K w0 Kn φ (au H) w) (hfr:∀j,nxt<=j->j<n'->¬Kn j)
  (hargs:Ec (SB S w φ (au H) ap) w as vs ((lent.flatMap (·.2.1)).flatMap (fc w φ (au H)))) (hown:∀i∈lent.flatMap (·.2.1),∃o,au H i=some o/\bP o=true) (hlent:Bw Kn φ S w lent (jA as vs))
  (hwhole:de H lent=true) (hnd:(lent.flatMap (·.2.1)).Nodup)
  (hleft:Left (SB S w φ (au H) ap) w ((lent.flatMap (·.2.1)).flatMap (fc w φ (au H))) rs outs (jA as vs) val w')
  (h:(if ro then
      if rs.all qO/\outs.all Ap then
       match cQ nxt lent outs with|none=>none|some (bu,m)=>some (nY (eW m rs).1,(eW m rs).2.1++bu,ap++lent.flatMap (·.2.2),(eW m rs).2.2)
      else none
     else
      match cq H ap ap with
      |none=>none
      |some fu=>
       match cQ nxt lent outs with
       |none=>none
       |some (bu,m)=>some (nY (eW m rs).1,(eW m rs).2.1++bu++fu,ap++lent.flatMap (·.2.2),(eW m rs).2.2))=some (v,u,rd,n')):
  hO S K w0 w Kn φ (au H) nxt n' v u val w':=by
 split at h
 .--nothing that was looked at is yQ
  split at h
  .rename_i hcond;obtain⟨hl,hp⟩:=hcond;split at h
   .simp at h
   .rename_i bu m hbk;obtain⟨rfl,rfl,_,rfl⟩:nY (eW m rs).1=v/\(eW m rs).2.1++bu=u/\ap++lent.flatMap (·.2.2)=rd/\(eW m rs).2.2=n':=by simpa using h
    refine t7 (ap:=[]) (rd:=lent.flatMap (·.2.2)) hI hfr hown hlent hwhole hnd (hleft.ck (fun b hb=>?_) hl hp) ?_
    .rcases hb with hb|⟨i,hi,_⟩
     .exact .inl hb
     .cases hi
    .simp only[cq,hbk,List.append_nil,List.nil_append]
  .simp at h
 .exact t7 hI hfr hown hlent hwhole hnd hleft h
theorem uH:∀n,(∀c x ap,cW H n c=some (x,ap)->∀i∈ap,∃o,au H i=some o)/\(∀cs xs ap,eh H n cs=some (xs,ap)->∀i∈ap,∃o,au H i=some o):=by
 have leaf:∀n c x ap,(match c with|.op _ _|.kR _ _=>False|_=>True)->cW H n c=some (x,ap)->∀i∈ap,∃o,au H i=some o:=by
  intro n c x ap hl h i hi;cases c with
  |d y=>simp only[cW,bH,bO]at h;obtain⟨_,rfl⟩:=h;simp at hi
  |dq sz id off len=>
   simp only[cW]at h;split at h
   all_goals first
    |(split at h
      .obtain ⟨_,rfl⟩:=ad (aa h);obtain rfl:=am.1 hi;exact⟨_,by assumption⟩
      .simp at h)
    |(split at h
      .split at h
       .obtain ⟨_,rfl⟩:=ad (aa h);obtain rfl:=am.1 hi;exact⟨_,by assumption⟩
       .simp at h
      .simp at h)
    |simp at h
  |ep id dv off=>
   simp only[cW]at h;split at h
   all_goals first
    |(split at h
      .split at h
       .obtain ⟨_,rfl⟩:=ad (aa h);obtain rfl:=am.1 hi;exact⟨_,by assumption⟩
       .simp at h
      .simp at h)
    |simp at h
  |op id off=>exact hl.elim
  |kR f caps=>exact hl.elim
  |om id=>cases n<;>simp[cW]at h
 intro n;induction n with
 |zero=>
  refine⟨fun c x ap h=>?_,fun cs xs ap h=>?_⟩
  .cases c with|op id off=>simp[cW]at h|kR f caps=>simp[cW]at h|_=>exact leaf 0 _ x ap trivial h
  .cases cs with
   |nil=>
    obtain⟨_,rfl⟩:[]=xs/\[]=ap:=by simpa[eh]using h
    intro i hi;simp at hi
   |cons c cs=>simp[eh]at h
 |succ n ih=>
  refine⟨fun c x ap h=>?_,fun cs xs ap h=>?_⟩
  .cases c with
   |op id off=>
    simp only[cW]at h;split at h
    .split at h
     .obtain ⟨_,rfl⟩:=ad (aa h);intro i hi;obtain rfl:=am.1 hi;exact⟨_,by assumption⟩
     .simp at h
    .split at h
     .rename_i hv;split at h
      .obtain ⟨_,rfl⟩:=ad (aa h);intro i hi;rcases aD.1 hi with rfl|hi
       .exact ⟨_,by assumption⟩
       .exact ih.2 _ _ _ hv i hi
      .simp at h
     .simp at h
    .simp at h
   |kR f caps=>
    simp only[cW]at h;split at h
    .rename_i hv;obtain⟨_,rfl⟩:=ad (aa h);exact ih.2 _ _ _ hv
    .simp at h
   |_=>exact leaf _ _ x ap trivial h
  .cases cs with
   |nil=>
    obtain⟨_,rfl⟩:[]=xs/\[]=ap:=by simpa[eh]using h
    intro i hi;simp at hi
   |cons c cs=>
    simp only[eh]at h;split at h
    .rename_i h1 h2;obtain⟨_,rfl⟩:=ad (aa h);intro i hi;rcases aj.1 hi with hi|hi
     .exact ih.1 _ _ _ h1 i hi
     .exact ih.2 _ _ _ h2 i hi
    .simp at h
theorem xw:∀cs xs ap,cH H cs=some (xs,ap)->∀i∈ap,∃o,au H i=some o:=by
 intro cs;induction cs with
 |nil=>
  intro xs ap h i hi;obtain⟨_,rfl⟩:[]=xs/\[]=ap:=by simpa[cH]using h
  simp at hi
 |cons c cs ih=>
  intro xs ap h i hi;simp only[cH]at h;split at h
  .rename_i h1 h2;obtain⟨_,rfl⟩:=ad (aa h);rcases aj.1 hi with hi|hi
   .exact (uH 300).1 _ _ _ h1 i hi
   .exact ih _ _ h2 i hi
  .simp at h
theorem vM:∀(tvs:List TV)(ms:List Bool)(as:List A)(ap:List Nat)(lent:List (C×List Nat×List Nat)),eA H tvs ms=some (as,ap,lent)->∀i∈ap,∃o,au H i=some o:=by
 intro tvs;induction tvs with
 |nil=>
  intro ms as ap lent h i hi;obtain⟨_,rfl,_⟩:[]=as/\[]=ap/\[]=lent:=by simpa[eA]using h
  simp at hi
 |cons t tvs ih=>
  intro ms as ap lent h i hi;simp only[eA]at h;split at h
  .simp at h
  .rename_i hrec;split at h
   .split at h
    .split at h
     .obtain ⟨_,rfl,_⟩:=(by simpa using h:_/\_/\_)
      exact ih _ _ _ _ hrec i hi
     .simp at h
    .simp at h
   .split at h
    .split at h
     .rename_i hv;obtain⟨_,rfl,_⟩:=(by simpa using h:_/\_/\_)
      rcases aj.1 hi with hi|hi
      .exact (uH 300).1 _ _ _ hv i hi
      .exact ih _ _ _ _ hrec i hi
     .simp at h
    .split at h
     .rename_i hv;obtain⟨_,rfl,_⟩:=(by simpa using h:_/\_/\_)
      rcases aj.1 hi with hi|hi
      .exact xw _ _ _ hv i hi
      .exact ih _ _ _ _ hrec i hi
     .simp at h
    .simp at h
theorem RO.KU{l:eG}{o:Ob}(h:RO S K w Kn φ l o)(hs:∀b,S b->b<w.heap.size):l.bU<w.heap.size:=by cases h with|aH hsz hl hS hK hown=>exact hown.lt|box hb hS hK hown=>exact hown.lt|map hS hK hmp=>exact(Array.getElem?_eq_some_iff.1 hmp).1|cap hsz hl hS hK hown=>exact hown.lt|nst hsz hl hS hK hown=>exact hown.lt|lB hsz hl hS=>exact hs _ hS|kA hb hS=>exact hs _ hS
theorem RO.Nd{l:eG}{o:Ob}(h:RO S K w Kn φ l o)(hs:bP o=false):S l.bU:=by cases h with|lB hsz hl hS=>exact hS|kA hb hS=>exact hS|_=>simp[bP]at hs
theorem BV{c:j6}{fop:Operand}{ro:Bool}{gJ:List Bool}(ho:o.op=.call c)(hcal:c.callee=.value fop)(hok:j4 P call)(hI:Inv S K w0 Kn φ (au H) w)
  (hfr:∀j,nxt<=j->j<n'->¬Kn j) (hρ:∀x tv,g_ e x=some tv->dO S w Kn φ tv (a.eval x))
  (h:bN call (.call ro gJ) ((fop::c.args.toList).map (g_ e)) H nxt=some (v,u,ap,n')):IW P o a S K w0 w Kn φ (au H) nxt n' v u:=by
 rw[aq]at h;change pN call ro gJ (g_ e fop) (c.args.toList.map (g_ e)) H nxt=_ at h;unfold pN at h;split at h
 .rename_i f caps vs hf hvs;split at h
  .simp at h
  .rename_i as ids1 lent hargs;split at h
   .rename_i hcond;obtain⟨hwhole,hnd,hapart⟩:=hcond;split at h
    .simp at h
    .rename_i rs outs hcall
     -- the callee
     have hfv:∃cvs:Array Value,a.eval fop=.func (.func f) #[] cvs/\caps.length=cvs.size/\∀(i:Nat)(x:C),caps[i]?=some x->RC S w Kn φ x (cvs.getD i undef):=by
      split at hf
      .rename_i g capsD hop;obtain⟨rfl,rfl⟩:g=f/\capsD.map C.d=caps:=by simpa using hf
       have hr:=hρ _ _ hop;generalize a.eval fop=fv at hr|-;cases hr with
       |c hr=>cases hr with
        |d hd=>cases hd with|@fn _ _ cvs hlen hrd=>refine⟨cvs,rfl,by simpa using hlen,fun i x hi=>?_⟩;rw[aB]at hi;obtain⟨y,hy,rfl⟩:=aG.1 hi;exact .d (hrd i y hy)
      .rename_i g caps' hop;obtain⟨rfl,rfl⟩:g=f/\caps'=caps:=by simpa using hf
       have hr:=hρ _ _ hop;generalize a.eval fop=fv at hr|-;cases hr with
       |c hr=>cases hr with|@kR _ _ cvs hlen hrc=>exact⟨cvs,rfl,hlen,hrc⟩
      .simp at hf
     obtain⟨cvs,hfe,hcl,hcr⟩:=hfv;obtain⟨hal,har⟩:=oG hρ hvs;let gO:List Value:=c.args.toList.map a.eval++cvs.toList
     obtain⟨p1,p2,p3⟩:=Bs hI (vs++caps.map TV.c) gJ as ids1 lent gO hargs (by simp[gO,hal,hcl]) (fun i t val hi hv=>by
      by_cases hlt:i<vs.length
      .rw [bn hlt]at hi;simp only[gO]at hv;rw[bn (by simp only[aK];omega),aB]at hv;obtain⟨x,hx,rfl⟩:=aG.1 hv;exact har i x t hx hi
      .rw [bo (by omega),aB]at hi;obtain⟨x,hx,rfl⟩:=aG.1 hi;simp only[gO]at hv;rw[bo (by simp only[aK];omega)]at hv;simp only[aK,<-hal]at hv;have:=hcr _ x hx;rw[aU]at hv;have e1:cvs.getD (i-vs.length) undef=val:=by simp[hv]
       rw[e1]at this;exact .c this)
     have hSlt:∀b,SB S w φ (au H) ids1 b->b<w.heap.size:=by
      rintro b (hb|⟨i,hi,hb⟩)
      .exact hI.pU b hb
      .obtain ⟨oi,hoi⟩:=vM _ _ _ _ _ hargs i hi;rcases cS.1 hb with rfl|⟨sz,sl,k,h1,h2⟩
       .exact (hI.fC i oi hoi).2.KU hI.pU
       .exact (hI.C3 h1 h2).2.2.1
     have hnS:∀b∈((lent.flatMap (·.2.1)).flatMap (fc w φ (au H))),¬SB S w φ (au H) ids1 b:=by
      intro b hb hS;obtain⟨i,hi,hb⟩:=gH.1 hb;obtain⟨oi,hoi,hoio⟩:=p2 i hi;have hb1:=(kE hI hoi hoio hb).1;rcases hS with hS|⟨j,hj,hje⟩
      .exact hb1 hS
      .obtain ⟨oj,hoj⟩:=vM _ _ _ _ _ hargs j hj;cases hjo:bP oj with
       |true=>refine kj hI hoi hoj hoio hjo (fun e=>?_) hb hje;have:=aQ.1 hapart i hi;rw[e]at this;simp[hj]at this
       |false=>
        rcases cS.1 hje with rfl|⟨sz,sl,k,h1,_⟩
        .exact hb1 ((hI.fC j oj hoj).2.Nd hjo)
        .rw [hoj]at h1;cases h1;cases hjo
     have hgood:=hok f as rs outs hcall (SB S w φ (au H) ids1) w gO _ hSlt p1 (vK hI hnd p2) hnS (hI.wD.mono (SB.nT _));intro next Q hn
     have hfin:∀val w',Left (SB S w φ (au H) ids1) w ((lent.flatMap (·.2.1)).flatMap (fc w φ (au H))) rs outs (jA as gO) val w'->next (a.put o.dst val) w':=by intro val w' hleft;refine hn val w' (DY hI hfr p1 p2 p3 hwhole hnd hleft (ro:=ro) (v:=v) (u:=u) (rd:=ap) ?_);exact h
     have hrun:∀r,(callFunc f gO.toArray).run P w=r->(execOp a.eval o).run P w=r:=by
      intro r hr;have e1:(#[]++c.args.map a.eval)++cvs=gO.toArray:=by apply Array.ext';simp[gO]
      simp only[execOp,ho,Sem.run_bind,resolve,hcal,hfe,Deferred.ofValue,Sem.run_pure,Result.andThen_ok,invoke,e1];exact hr
     rcases hgood with⟨g,as',hr,hc⟩|⟨val,hr,hleft⟩
     .unfold Oper.wp;rw[hrun _ hr,Oper.upon_enter];refine hc.mono fun en w' hR=>?_;obtain⟨val,rfl,hleft⟩:=hR;exact hfin val w' hleft
     .unfold Oper.wp;rw[hrun _ hr];exact hfin val w hleft
   .simp at h
 .simp at h
end
section
variable{P:Program}{S K:Nat->Prop}{w0 w:World}{Kn:Nat->Prop}{φ:Nat->eG}{H:bl}{e:gy}{o:Oper}{call:Call}{a:Act}{dQ:xe}{k:Ev.K}{args:List Operand}
 {nxt n':Nat} {v:TV} {u:dD} {ap:List Nat}
theorem dF{vs:List (Option TV)}:bN call .dM vs H nxt=none:=by unfold bN;split<;>first|rfl|simp_all
theorem DZ{op:BinOp}{t ty:TypeId}{x y:Operand}(ho:o.op=.binOp op t x y ty)(hk:Co P op t x y=(k,args))(hI:Inv S K w0 Kn φ (au H) w)(hE:gy.ok S w Kn φ e a.tmps)
  (h:bN call k (args.map (g_ e)) H nxt=some (v,u,ap,n')):ct P o a.eval S K w0 w Kn φ (au H) nxt n' v u:=by
 have hρ:∀x tv,g_ e x=some tv->dO S w Kn φ tv (a.eval x):=fun x tv h=>oQ hI.wD hE h;have plainBin:(k,args)=(Ev.K.t8 op,[x,y])->ct P o a.eval S K w0 w Kn φ (au H) nxt n' v u:=by intro hk;obtain⟨rfl,rfl⟩:=ad hk;exact J0 ho hI (fun z hz=>hρ x z hz) (fun z hz=>hρ y z hz) h
 have nilBin:∀kind,(op=.eql\/op=.neq)->Fd P t kind->(k,args)=l9 kind (op==.neq) x y->ct P o a.eval S K w0 w Kn φ (au H) nxt n' v u:=by
  intro kind hop hu hk;unfold l9 at hk;split at hk
  .rename_i hy;obtain⟨rfl,rfl⟩:=ad hk;exact yp ho hop hu hI (fun _=>rfl) (.inl ⟨rfl,hy⟩) (fun z hz=>hρ x z hz) h
  .split at hk
   .rename_i hx;obtain⟨rfl,rfl⟩:=ad hk;exact yp ho hop hu hI (fun _=>rfl) (.inr ⟨rfl,hx⟩) (fun z hz=>hρ y z hz) h
   .obtain ⟨rfl,rfl⟩:=ad hk;rw[dF]at h;simp at h
 have eqs:(op=.eql\/op=.neq)->(match P.underlying t with
  |some .bool=>(Ev.K.pO (op==.neq),[x,y])
  |some (.int _)|some (.float _)|some .string=>(Ev.K.t8 op,[x,y])
  |some (.slice _)=>l9 0 (op==.neq) x y
  |some (.pointer _)=>l9 1 (op==.neq) x y
  |some (.func _ _ _)=>l9 2 (op==.neq) x y
  |some (.struct _)|some (.array _ _)=>match ul P 8 t with|some ks=>if P.eqGuardType P.depth t=false then(Ev.K.tP (op==.neq) ks,[x,y])else(Ev.K.dM,[])|none=>(Ev.K.dM,[])
  |_=>(Ev.K.dM,[]))=(k,args)->ct P o a.eval S K w0 w Kn φ (au H) nxt n' v u:=by
  intro hop hk;split at hk
  .rename_i hu;obtain⟨rfl,rfl⟩:=ad hk;exact Dd ho hop hu hI (fun z hz=>hρ x z hz) (fun z hz=>hρ y z hz) h
  .exact plainBin hk.symm
  .exact plainBin hk.symm
  .exact plainBin hk.symm
  .rename_i hu;exact nilBin 0 hop ⟨_,hu⟩ hk.symm
  .rename_i hu;exact nilBin 1 hop ⟨_,hu⟩ hk.symm
  .rename_i hu;exact nilBin 2 hop ⟨_,_,_,hu⟩ hk.symm
  .rename_i hu;split at hk
   .rename_i hks;split at hk
    .rename_i hg;obtain⟨rfl,rfl⟩:=ad hk;exact yq ho hop hks (by simp[dY,hu]) hg hI (fun z hz=>hρ x z hz) (fun z hz=>hρ y z hz) h
    .obtain ⟨rfl,rfl⟩:=ad hk;rw[dF]at h;simp at h
   .obtain ⟨rfl,rfl⟩:=ad hk;rw[dF]at h;simp at h
  .rename_i hu;split at hk
   .rename_i hks;split at hk
    .rename_i hg;obtain⟨rfl,rfl⟩:=ad hk;exact yq ho hop hks (by simp[dY,hu]) hg hI (fun z hz=>hρ x z hz) (fun z hz=>hρ y z hz) h
    .obtain ⟨rfl,rfl⟩:=ad hk;rw[dF]at h;simp at h
   .obtain ⟨rfl,rfl⟩:=ad hk;rw[dF]at h;simp at h
  .obtain ⟨rfl,rfl⟩:=ad hk;rw[dF]at h;simp at h
 cases op with|eql=>exact eqs (.inl rfl) hk|neq=>exact eqs (.inr rfl) hk|_=>exact plainBin hk.symm
theorem lV{α:Type}{x:Array α}{y:α}(h:x.toList=[y]):x= #[y]:=by rw[<-Array.toArray_toList (xs:=x),h]
theorem jN{α:Type}{x:Array α}{y z:α}(h:x.toList=[y,z]):x= #[y,z]:=by rw[<-Array.toArray_toList (xs:=x),h]
theorem uE{b:Builtin}{c:j6}(ho:o.op=.call c)(hcal:c.callee=.builtin b)(hk:oD P b c.args.toList c.argTypes.toList=(k,args))(hI:Inv S K w0 Kn φ (au H) w)
  (hE:gy.ok S w Kn φ e a.tmps) (hn0:nxt<n'->¬Kn nxt) (h:bN call k (args.map (g_ e)) H nxt=some (v,u,ap,n')):ct P o a.eval S K w0 w Kn φ (au H) nxt n' v u:=by
 have hρ:∀x tv,g_ e x=some tv->dO S w Kn φ tv (a.eval x):=fun x tv h=>oQ hI.wD hE h
 have lenArgs:∀str,k=.len str->args=c.args.toList->∃x,c.args.toList=[x]:=by
  intro str hk ha;subst hk ha;generalize c.args.toList=l at h
  match l,h with|[x],_=>exact⟨x,rfl⟩|[],h=>simp[bN]at h|x::y::r,h=>simp[bN]at h
 unfold oD at hk;split at hk
 .rename_i t hts;split at hk
  .rename_i hu;obtain⟨rfl,rfl⟩:=ad hk;obtain⟨x,hx⟩:=lenArgs true rfl rfl;rw[hx]at h;exact E3 (str:=true) ho hcal (lV hx) (lV hts) hu hI (fun z hz=>hρ x z hz) h
  .rename_i hu;obtain⟨rfl,rfl⟩:=ad hk;obtain⟨x,hx⟩:=lenArgs false rfl rfl;rw[hx]at h;exact E3 (str:=false) ho hcal (lV hx) (lV hts) ⟨_,hu⟩ hI (fun z hz=>hρ x z hz) h
  .obtain ⟨rfl,rfl⟩:=ad hk;rw[dF]at h;simp at h
 .obtain ⟨rfl,rfl⟩:=ad hk;exact u4 (m:=true) ho hcal hI hρ h
 .obtain ⟨rfl,rfl⟩:=ad hk;exact u4 (m:=false) ho hcal hI hρ h
 .rename_i s x hts;split at hk
  .rename_i el el2 hus hux;split at hk
   .rename_i n z hsz hz;split at hk
    .rename_i hb;obtain⟨rfl,rfl⟩:=ad hk
     have:∃p q,c.args.toList=[p,q]:=by
      generalize c.args.toList=l at h
      match l,h with|[p,q],_=>exact⟨p,q,rfl⟩|[],h=>simp[bN]at h|[p],h=>simp[bN]at h|p::q::r::t,h=>simp[bN]at h
     obtain⟨p,q,hpq⟩:=this;rw[hpq]at h;exact De ho hcal (jN hpq) (jN hts) hus hux hsz hz hb.2 hb.1 hI hn0 (fun z hz=>hρ p z hz) (fun z hz=>hρ q z hz) h
    .obtain ⟨rfl,rfl⟩:=ad hk;rw[dF]at h;simp at h
   .obtain ⟨rfl,rfl⟩:=ad hk;rw[dF]at h;simp at h
  .rename_i el kd hus hux;split at hk
   .rename_i n z hsz hz;split at hk
    .rename_i hb;obtain⟨rfl,rfl⟩:=ad hk
     have:∃p q,c.args.toList=[p,q]:=by
      generalize c.args.toList=l at h
      match l,h with|[p,q],_=>exact⟨p,q,rfl⟩|[],h=>simp[bN]at h|[p],h=>simp[bN]at h|p::q::r::t,h=>simp[bN]at h
     obtain⟨p,q,hpq⟩:=this;rw[hpq]at h;exact J1 ho hcal (jN hpq) (jN hts) hus hux hsz hz hb.2 hb.1 hI hn0 (fun z hz=>hρ p z hz) (fun z hz=>hρ q z hz) h
    .obtain ⟨rfl,rfl⟩:=ad hk;rw[dF]at h;simp at h
   .obtain ⟨rfl,rfl⟩:=ad hk;rw[dF]at h;simp at h
  .obtain ⟨rfl,rfl⟩:=ad hk;rw[dF]at h;simp at h
 .rename_i t hts;split at hk
  .rename_i el hu;obtain⟨rfl,rfl⟩:=ad hk
   have:∃p,c.args.toList=[p]:=by
    generalize c.args.toList=l at h
    match l,h with|[p],_=>exact⟨p,rfl⟩|[],h=>simp[bN]at h|p::q::r,h=>simp[bN]at h
   obtain⟨p,hp⟩:=this;rw[hp]at h;exact JY ho hcal (lV hp) (lV hts) hu hI (fun z hz=>hρ p z hz) h
  .obtain ⟨rfl,rfl⟩:=ad hk;rw[dF]at h;simp at h
 .rename_i d x hts;split at hk
  .rename_i el hud;split at hk
   .rename_i n hsz;obtain⟨rfl,rfl⟩:=ad hk
    have:∃p q,c.args.toList=[p,q]:=by
     generalize c.args.toList=l at h
     match l,h with|[p,q],_=>exact⟨p,q,rfl⟩|[],h=>simp[bN]at h|[p],h=>simp[bN]at h|p::q::r::t,h=>simp[bN]at h
    obtain⟨p,q,hpq⟩:=this;rw[hpq]at h;exact HL ho hcal (jN hpq) (jN hts) hud hsz hI (fun z hz=>hρ p z hz) (fun z hz=>hρ q z hz) h
   .obtain ⟨rfl,rfl⟩:=ad hk;rw[dF]at h;simp at h
  .obtain ⟨rfl,rfl⟩:=ad hk;rw[dF]at h;simp at h
 .rename_i mt kt2 hts;split at hk
  .rename_i hu;split at hk
   .rename_i hm;obtain⟨rfl,rfl⟩:=ad hk
    have:∃p q,c.args.toList=[p,q]:=by
     generalize c.args.toList=l at h
     match l,h with|[p,q],_=>exact⟨p,q,rfl⟩|[],h=>simp[bN]at h|[p],h=>simp[bN]at h|p::q::r::t,h=>simp[bN]at h
    obtain⟨p,q,hpq⟩:=this;rw[hpq]at h;exact Db ho hcal (jN hpq) (jN hts) hu hm hI (fun z hz=>hρ p z hz) (fun z hz=>hρ q z hz) h
   .obtain ⟨rfl,rfl⟩:=ad hk;rw[dF]at h;simp at h
  .obtain ⟨rfl,rfl⟩:=ad hk;rw[dF]at h;simp at h
 .rename_i d hts;split at hk
  .rename_i el hud;split at hk
   .rename_i n z hsz hz;split at hk
    .rename_i hzl;obtain⟨rfl,rfl⟩:=ad hk
     have:∃p,c.args.toList=[p]:=by
      generalize c.args.toList=l at h
      match l,h with|[p],_=>exact⟨p,rfl⟩|[],h=>simp[bN]at h|p::q::r,h=>simp[bN]at h
     obtain⟨p,hp⟩:=this;rw[hp]at h;exact E8 ho hcal (lV hp) (lV hts) hud hsz hz hzl hI (fun z hz=>hρ p z hz) h
    .obtain ⟨rfl,rfl⟩:=ad hk;rw[dF]at h;simp at h
   .obtain ⟨rfl,rfl⟩:=ad hk;rw[dF]at h;simp at h
  .obtain ⟨rfl,rfl⟩:=ad hk;rw[dF]at h;simp at h
 .obtain ⟨rfl,rfl⟩:=ad hk;rw[dF]at h;simp at h
theorem yj(hok:j4 P call)(hk:rA P dQ o.op=(k,args))(hI:Inv S K w0 Kn φ (au H) w)(hE:gy.ok S w Kn φ e a.tmps)(hfr:∀j,nxt<=j->j<n'->¬Kn j)
  (h:bN call k (args.map (g_ e)) H nxt=some (v,u,ap,n')):IW P o a S K w0 w Kn φ (au H) nxt n' v u:=by
 have hρ:∀x tv,g_ e x=some tv->dO S w Kn φ tv (a.eval x):=fun x tv h=>oQ hI.wD hE h;have hn0:nxt<n'->¬Kn nxt:=fun h=>hfr nxt (ak _) h;have dM:(k,args)=(Ev.K.dM,[])->IW P o a S K w0 w Kn φ (au H) nxt n' v u:=by intro hk;obtain⟨rfl,rfl⟩:=ad hk;rw[dF]at h;simp at h
 generalize hop:o.op=op at hk;unfold rA at hk;split at hk
 .obtain ⟨rfl,rfl⟩:=ad hk;exact(I2 (.inl hop) hI (fun z hz=>hρ _ z hz) h).gR
 .obtain ⟨rfl,rfl⟩:=ad hk;exact(I2 (.inr hop) hI (fun z hz=>hρ _ z hz) h).gR
 .obtain ⟨rfl,rfl⟩:=ad hk;exact(HI hop hI (fun z hz=>hρ _ z hz) (fun z hz=>hρ _ z hz) (fun z hz=>hρ _ z hz) h).gR
 .--alloc
  split at hk
  .rename_i hz;obtain⟨rfl,rfl⟩:=ad hk;exact(E9 hop hz hI hn0 h).gR
  .exact dM hk.symm
 .obtain ⟨rfl,rfl⟩:=ad hk;exact(JZ hop hI hn0 (fun z hz=>hρ _ z hz) h).gR
 .--build
  split at hk
  .rename_i hu hz;split at hk
   .rename_i hpl;split at hk
    .rename_i hall;obtain⟨rfl,rfl⟩:=ad hk;exact(yt hop hz (.inl ⟨_,hu,hpl,hall⟩) hI hρ h).gR
    .exact dM hk.symm
   .exact dM hk.symm
  .rename_i hu hz;split at hk
   .rename_i hs;obtain⟨rfl,rfl⟩:=ad hk;exact(yt hop hz (.inr ⟨_,_,_,hu,hs,rfl⟩) hI hρ h).gR
   .exact dM hk.symm
  .exact dM hk.symm
 .--buildSlice
  split at hk
  .rename_i hu;split at hk
   .rename_i hs hz;split at hk
    .rename_i hl;obtain⟨rfl,rfl⟩:=ad hk;exact(HM hop hu hs hz ⟨hl.1,hl.2.1⟩ hI hn0 hρ h).gR
    split at hk
    .rename_i hl;obtain⟨rfl,rfl⟩:=ad hk;exact(uv hop hu hs hz hl hI hn0 hρ h).gR
    .exact dM hk.symm
   .exact dM hk.symm
  .exact dM hk.symm
 .--load
  split at hk
  .rename_i ha hs;obtain⟨rfl,rfl⟩:=ad hk;split at h
   .rename_i hc;obtain⟨_,_,rfl,rfl⟩:=hc;exact(E2 hop ha hs hI hn0 (fun z hz=>hρ _ z hz) h).gR
   .exact (BU hop ha hs hI (fun z hz=>hρ _ z hz) h).gR
  .exact dM hk.symm
 .--store
  split at hk
  .rename_i hs;obtain⟨rfl,rfl⟩:=ad hk;exact(E0 hop hs hI (fun z hz=>hρ _ z hz) (fun z hz=>hρ _ z hz) h).gR
  .exact dM hk.symm
 .obtain ⟨rfl,rfl⟩:=ad hk;exact(ym hop hI (fun z hz=>hρ _ z hz) h).gR
 .exact (DZ hop hk hI hE h).gR
 .obtain ⟨rfl,rfl⟩:=ad hk;exact(LG hop hI (fun z hz=>hρ _ z hz) h).gR
 .--convert
  split at hk
  .rename_i hs hd;obtain⟨rfl,rfl⟩:=ad hk;exact(Az hop hs hd hI (fun z hz=>hρ _ z hz) h).gR
  .rename_i hs hd;obtain⟨rfl,rfl⟩:=ad hk;exact(E7 hop hs hd hI (fun z hz=>hρ _ z hz) h).gR
  .rename_i hs hd;obtain⟨rfl,rfl⟩:=ad hk;exact(yr hop hs hd hI (fun z hz=>hρ _ z hz) h).gR
  .exact dM hk.symm
 .--makeFunc
  split at hk
  .rename_i hf;obtain⟨rfl,rfl⟩:=ad hk;exact(HJ hop hf hI hρ h).gR
  .exact dM hk.symm
 .--makeSlice
  split at hk
  .rename_i hu;split at hk
   .rename_i hs hz;split at hk
    .rename_i hl;obtain⟨rfl,rfl⟩:=ad hk;split at h
     .rename_i m hm;unfold I4 at hm;split at hm
      .rename_i hc;split at hm
       .split at hm
        .obtain rfl:=aa hm;exact(E1 hop hu hs hz hl.1 hl.2 hc.2 (b_ _) hI hn0 (fun z hz=>hρ _ z hz) (fun z hz=>hρ _ z hz) h).gR
        .cases hm
       .cases hm
      .cases hm
     .exact (qb hop hu hs hz hl.1 hl.2 hI hn0 (fun z hz=>hρ _ z hz) (fun z hz=>hρ _ z hz) h).gR
    .exact dM hk.symm
   .exact dM hk.symm
  .exact dM hk.symm
 .--slice
  split at hk
  .rename_i hu;obtain⟨rfl,rfl⟩:=ad hk;exact(yl (str:=true) hop hu hI hρ h).gR
  .rename_i hu;split at hk
   .rename_i hs;obtain⟨rfl,rfl⟩:=ad hk;exact(yl (str:=false) hop ⟨_,hu,hs⟩ hI hρ h).gR
   .exact dM hk.symm
  .exact dM hk.symm
 .--vX
  split at hk
  .rename_i hu;split at hk
   .rename_i hs;obtain⟨rfl,rfl⟩:=ad hk;exact(C_ hop hu hs hI hn0 hρ h).gR
   .exact dM hk.symm
  .exact dM hk.symm
 .--fieldAddr
  split at hk
  .rename_i hu;split at hk
   .rename_i hf;split at hk
    .rename_i hs;obtain⟨rfl,rfl⟩:=ad hk;exact(wi hop hu hf hs hI (fun z hz=>hρ _ z hz) h).gR
    .exact dM hk.symm
   .exact dM hk.symm
  .exact dM hk.symm
 .--field
  split at hk
  .rename_i hu;split at hk
   .rename_i hf;split at hk
    .rename_i ha hs;obtain⟨rfl,rfl⟩:=ad hk;exact(E5 hop hu hf ha hs hI (fun z hz=>hρ _ z hz) h).gR
    .exact dM hk.symm
   .exact dM hk.symm
  .exact dM hk.symm
 .--indexAddr
  split at hk
  .rename_i hu;split at hk
   .rename_i hs;split at hk
    .obtain ⟨rfl,rfl⟩:=ad hk;exact(JW hop hu hs hI (fun z hz=>hρ _ z hz) (fun z hz=>hρ _ z hz) h).gR
    .obtain ⟨rfl,rfl⟩:=ad hk;exact(qc (aH:=none) hop ⟨_,hu,hs⟩ hI (fun z hz=>hρ _ z hz) (fun z hz=>hρ _ z hz) h).gR
   .exact dM hk.symm
  .rename_i hu;split at hk
   .rename_i hs;obtain⟨rfl,rfl⟩:=ad hk;exact(qc (aH:=some _) hop ⟨_,hu,hs⟩ hI (fun z hz=>hρ _ z hz) (fun z hz=>hρ _ z hz) h).gR
   .exact dM hk.symm
  .exact dM hk.symm
 .--index
  split at hk
  .rename_i hu;obtain⟨rfl,rfl⟩:=ad hk;exact(yo hop hu hI (fun z hz=>hρ _ z hz) (fun z hz=>hρ _ z hz) h).gR
  .rename_i hu;split at hk
   .rename_i ha hs;obtain⟨rfl,rfl⟩:=ad hk;exact(E4 hop hu ha hs hI (fun z hz=>hρ _ z hz) (fun z hz=>hρ _ z hz) h).gR
   .exact dM hk.symm
  .exact dM hk.symm
 .obtain ⟨rfl,rfl⟩:=ad hk;exact(Ay hop hI (fun z hz=>hρ _ z hz) h).gR
 .--makeMap
  split at hk
  .split at hk
   .obtain ⟨rfl,rfl⟩:=ad hk;exact(Ax hop hI hn0 h).gR
   .exact dM hk.symm
  .exact dM hk.symm
 .--lookup
  split at hk
  .rename_i hu;split at hk
   .rename_i hm;obtain⟨rfl,rfl⟩:=ad hk;exact(Dc hop hu hm hI (fun z hz=>hρ _ z hz) (fun z hz=>hρ _ z hz) h).gR
   .exact dM hk.symm
  .exact dM hk.symm
 .--mapEntry
  split at hk
  .rename_i hu;split at hk
   .rename_i hm;obtain⟨rfl,rfl⟩:=ad hk;exact(yn hop hu hm hI (fun z hz=>hρ _ z hz) (fun z hz=>hρ _ z hz) h).gR
   .exact dM hk.symm
  .exact dM hk.symm
 .--mapUpdate
  split at hk
  .rename_i hu;split at hk
   .rename_i hm;obtain⟨rfl,rfl⟩:=ad hk;exact(Da hop hu hm hI (fun z hz=>hρ _ z hz) (fun z hz=>hρ _ z hz) (fun z hz=>hρ _ z hz) h).gR
   .exact dM hk.symm
  .exact dM hk.symm
 .--entryStore
  split at hk
  .split at hk
   .obtain ⟨rfl,rfl⟩:=ad hk;exact(ut hop hI (fun z hz=>hρ _ z hz) (fun z hz=>hρ _ z hz) (fun z hz=>hρ _ z hz) h).gR
   .exact dM hk.symm
  .exact dM hk.symm
 .--call
  rename_i c;split at hk
  .rename_i hcal;exact(uE hop hcal hk hI hE hn0 h).gR
  .rename_i f hcal;split at hk
   .split at hk
    .rename_i hf;obtain⟨rfl,rfl⟩:=ad hk
     have:∃p q,c.args.toList=[p,q]:=by
      generalize c.args.toList=l at h
      match l,h with|[p,q],_=>exact⟨p,q,rfl⟩|[],h=>simp[bN]at h|[p],h=>simp[bN]at h|p::q::r::t,h=>simp[bN]at h
     obtain⟨p,q,hpq⟩:=this;rw[hpq]at h;exact(JU hop hcal (jN hpq) hf rfl hI (fun z hz=>hρ p z hz) (fun z hz=>hρ q z hz) h).gR
    .exact dM hk.symm
   .obtain ⟨rfl,rfl⟩:=ad hk;exact BV hop hcal hok hI hfr hρ h
  .rename_i hcal;obtain⟨rfl,rfl⟩:=ad hk;exact BV hop hcal hok hI hfr hρ h
  .exact dM hk.symm
 .exact dM hk.symm
end
def eB(P:Program)(dQ:xe)(nt:Nat)(all:Array Oper)(o:Oper):km:=
 {dst:=o.dst
  k:=if(match o.dst with|some d=>decide (d<nt)|none=>true)then(rA P dQ o.op).1 else .dM
  args:=(rA P dQ o.op).2
  guard:=match o.guard with|none=>none|some (j,b)=>some (((all[j]?).bind (·.dst)).getD 1000000000,b)}
def nD:C:=.kR 0 []
def RG(S:Nat->Prop)(w:World)(Kn:Nat->Prop)(φ:Nat->eG)(c:C)(v:Value):Prop:=c=nD\/RC S w Kn φ c v
theorem RG.mono{S S':Nat->Prop}{w w':World}{Kn Kn':Nat->Prop}{φ φ':Nat->eG}(hs:eM S w S' w')(hr:Ren Kn φ Kn' φ'){x:C}{v:Value}(h:RG S w Kn φ x v):RG S' w' Kn' φ' x v:=h.imp id fun h=>h.mono hs hr
structure Bv(S K:Nat->Prop)(w0:World)(Kn:Nat->Prop)(φ:Nat->eG)(gv:List Value)(nt:Nat)(s:St)(a:Act)(w:World):Prop where
 inv:Inv S K w0 Kn φ (au s.heap) w
 cG:gy.ok S w Kn φ s.cG a.tmps
 size:a.tmps.size=nt
 defers:a.defers=[]
 eJ:∀j,s.next<=j->¬Kn j
 gh:∀(i:Nat)(c:C)(v:Value),s.gh[i]?=some c->gv[i]?=some v->RG S w Kn φ c v
section
variable{P:Program}{S K:Nat->Prop}{w0 w:World}{Kn:Nat->Prop}{φ:Nat->eG}{gv:List Value}{nt:Nat}{a:Act}{call:Call}{dQ:xe}{s s':St}
theorem Hx{a:Act}{d:Nat}{v:Value}(h:d<a.tmps.size)(t:Nat):(a.put (some d) v).tmps.getD t undef=if t=d then v else a.tmps.getD t undef:=by
 simp only[Act.put,bm,h_];by_cases e:d=t
 .subst e;simp[h]
 .have e2:¬t=d:=fun h=>e h.symm;simp[e,e2]
theorem p9{a:Act}(d:Option Nat)(v:Value):(a.put d v).tmps.size=a.tmps.size:=by cases d<;>simp[Act.put]
theorem m9{a:Act}(d:Option Nat)(v:Value):(a.put d v).defers=a.defers:=by cases d<;>simp[Act.put]
theorem iH(e:gy)(d:Option Nat)(v:TV)(t:Nat):bM (put e d v) t=if d=some t then some v else bM e t:=by
 cases d with
 |none=>simp[put]
 |some d=>
  simp only[put,bM];by_cases h:d=t
  .simp [h]
  .have h':(d==t)=false:=by simpa using h
   simp[h,h']
theorem tK(e:gy)(d:Option Nat)(t:Nat):bM (drop e d) t=if d=some t then some (.eU [])else bM e t:=iH e d (.eU []) t
theorem gy.ET{e:gy}{S':Nat->Prop}{w':World}{Kn':Nat->Prop}{φ':Nat->eG}(hE:gy.ok S w Kn φ e a.tmps)(hs:eM S w S' w')(hr:Ren Kn φ Kn' φ'){d:Option Nat}{v:TV}{val:Value}
  (hd:∀x,d=some x->x<a.tmps.size) (hv:dO S' w' Kn' φ' v val):gy.ok S' w' Kn' φ' (Ev.put e d v) (a.put d val).tmps:=by
 intro t x hx;rw[iH]at hx;cases d with
 |none=>simp only[reduceCtorEq,if_false]at hx;exact(hE t x hx).mono hs hr
 |some d=>
  rw[Hx (hd d rfl)];by_cases h:t=d
  .subst h;simp only[if_true]at hx;rw[if_pos rfl,<-aa hx];exact hv
  .have h2:¬(some d=some t):=fun e=>h (aa e).symm;rw[if_neg h2]at hx;rw[if_neg h];exact(hE t x hx).mono hs hr
theorem gy.Cl{e:gy}(hE:gy.ok S w Kn φ e a.tmps){d:Option Nat}:gy.ok S w Kn φ (Ev.drop e d) (a.put d undef).tmps:=by
 intro t x hx;rw[tK]at hx;have hu:dO S w Kn φ (.eU []) undef:=.eU rfl fun i x hi=>by simp at hi
 split at hx
 .rename_i h;subst h;obtain rfl:=aa hx;have:(a.put (some t) undef).tmps.getD t undef=undef:=by simp only[Act.put,bm,h_,if_true];split<;>rfl
  rw[this];exact hu
 .rename_i h;have:=hE t x hx;cases d with|none=>exact this|some d=>have h2:¬d=t:=fun e=>h (by rw[e]);simp only[Act.put,bm,h_,if_neg h2];rw[bm]at this;exact this
theorem lO{e:gy}(hE:gy.ok S w Kn φ e a.tmps)(hsz:a.tmps.size<1000000000){all:Array Oper}{o:Oper}{b:Bool}(h:gZ e (eB P dQ nt all o).guard=some b):
  Region.wanted o (yielded all a.tmps)=b:=by
 unfold eB at h;simp only at h;unfold Region.wanted;cases hg:o.guard with
 |none=>rw[hg]at h;simpa[gZ]using h
 |some p=>
  obtain⟨j,want⟩:=p;rw[hg]at h;simp only[gZ]at h;split at h
  .rename_i x hx;have hr:=hE _ _ hx;obtain⟨hv,_⟩:=hr.lit;cases hd:(all[j]?).bind (·.dst)with
   |none=>rw[hd]at hv;simp only[Option.getD_none]at hv;rw[bm,Array.getElem?_eq_none (by omega)]at hv;simp[undef]at hv
   |some t=>
    rw[hd]at hv;simp only[dn]at hv
    have ht:a.tmps[t]?=some (.bool x):=by
     rw[bm]at hv;cases ht:a.tmps[t]?with
     |none=>rw[ht]at hv;simp[undef]at hv
     |some y=>rw[ht]at hv;simpa using hv
    obtain rfl:=aa h;simp only[yielded,hd,af,ht];cases x<;>cases want<;>rfl
  .rename_i hx;have hr:=hE _ _ hx;obtain rfl:=aa h;cases hd:(all[j]?).bind (·.dst)with
   |none=>simp only[yielded,hd,Option.bind_none];rfl
   |some t=>
    rw[hd]at hr;simp only[dn]at hr;generalize hv:a.tmps.getD t undef=v at hr;cases hr with
    |@eU _ aH hlen _=>
     rw[bm]at hv;simp only[yielded,hd,af];cases ht:a.tmps[t]?with
     |none=>rfl
     |some y=>rw[ht]at hv;simp only[dn]at hv;subst hv;rfl
  .simp at h
end
section
variable{H H':bl}
def eN(H H':bl)(ap:List Nat):Prop:=∀i∈ap,au H' i=au H i
theorem eN.left{a b:List Nat}(h:eN H H' (a++b)):eN H H' a:=fun i hi=>h i (aC _ hi)
theorem eN.right{a b:List Nat}(h:eN H H' (a++b)):eN H H' b:=fun i hi=>h i (aA _ hi)
theorem py:∀n,(∀c x ap,cW H n c=some (x,ap)->eN H H' ap->cW H' n c=some (x,ap))/\
  (∀cs xs ap,eh H n cs=some (xs,ap)->eN H H' ap->eh H' n cs=some (xs,ap)):=by
 have leaf:∀n c x ap,(match c with|.op _ _|.kR _ _=>False|_=>True)->cW H n c=some (x,ap)->eN H H' ap->cW H' n c=some (x,ap):=by
  intro n c x ap hl h ha;cases c with
  |d y=>simpa only[cW]using h
  |dq sz id off len=>
   have:au H' id=au H id:=ha id (by
    simp only[cW]at h;split at h
    all_goals first
     |(split at h
       .obtain ⟨_,rfl⟩:=ad (aa h);simp
       .simp at h)
     |(split at h
       .split at h
        .obtain ⟨_,rfl⟩:=ad (aa h);simp
        .simp at h
       .simp at h)
     |simp at h)
   simp only[cW]at h|-;rw[this];exact h
  |ep id dv off=>
   have:au H' id=au H id:=ha id (by
    simp only[cW]at h;split at h
    all_goals first
     |(split at h
       .split at h
        .obtain ⟨_,rfl⟩:=ad (aa h);simp
        .simp at h
       .simp at h)
     |simp at h)
   simp only[cW]at h|-;rw[this];exact h
  |op id off=>exact hl.elim
  |kR f caps=>exact hl.elim
  |om id=>cases n<;>simp[cW]at h
 intro n;induction n with
 |zero=>
  refine⟨fun c x ap h ha=>?_,fun cs xs ap h ha=>?_⟩
  .cases c with|op id off=>simp[cW]at h|kR f caps=>simp[cW]at h|_=>exact leaf 0 _ x ap trivial h ha
  .cases cs with|nil=>simpa only[eh]using h|cons c cs=>simp[eh]at h
 |succ n ih=>
  refine⟨fun c x ap h ha=>?_,fun cs xs ap h ha=>?_⟩
  .cases c with
   |op id off=>
    simp only[cW]at h|-;split at h
    .rename_i ho;split at h
     .rename_i hle;obtain⟨rfl,rfl⟩:=ad (aa h);rw[ha id (by simp),ho];simp only[hle,if_true]
     .simp at h
    .rename_i ho;split at h
     .rename_i hv;split at h
      .rename_i hle;obtain⟨rfl,rfl⟩:=ad (aa h);rw[ha id (by simp),ho];simp only[ih.2 _ _ _ hv (fun i hi=>ha i (by simp[hi])),hle,if_true]
      .simp at h
     .simp at h
    .simp at h
   |kR f caps=>
    simp only[cW]at h|-;split at h
    .rename_i hv;obtain⟨rfl,rfl⟩:=ad (aa h);simp only[ih.2 _ _ _ hv ha]
    .simp at h
   |_=>exact leaf _ _ x ap trivial h ha
  .cases cs with
   |nil=>simpa only[eh]using h
   |cons c cs=>
    simp only[eh]at h|-;split at h
    .rename_i h1 h2;obtain⟨rfl,rfl⟩:=ad (aa h);simp only[ih.1 _ _ _ h1 ha.left,ih.2 _ _ _ h2 ha.right]
    .simp at h
theorem kV:∀cs xs ap,cH H cs=some (xs,ap)->eN H H' ap->cH H' cs=some (xs,ap):=by
 intro cs;induction cs with
 |nil=>intro xs ap h _;simpa only[cH]using h
 |cons c cs ih=>
  intro xs ap h ha;simp only[cH]at h|-;split at h
  .rename_i h1 h2;obtain⟨rfl,rfl⟩:=ad (aa h);simp only[(py 300).1 _ _ _ h1 ha.left,ih _ _ h2 ha.right]
  .simp at h
theorem k8{all:List Nat}(ha:eN H H' all):∀(l:List Nat)(u:dD),(∀i∈l,i∈all)->cq H all l=some u->cq H' all l=some u:=by
 intro l;induction l with
 |nil=>intro u _ h;simpa only[cq]using h
 |cons a l ih=>
  intro u hl h;simp only[cq]at h|-;split at h
  .rename_i o u' ho hu
   have hob:gF H' all a=some o:=by
    unfold gF at ho|-;rw[ha a (hl a (by simp))];split at ho
    .exact ho
    .exact ho
    .exact ho
    .split at ho
     .rename_i hv;split at ho
      .rename_i hall;simp only[(py 300).2 _ _ _ hv (fun i hi=>ha i (by simpa using aQ.1 hall i hi)),hall,if_true];exact ho
      .simp at ho
     .simp at ho
    .simp at ho
    .simp at ho
    .exact ho
    .simp at ho
   simp only[hob,ih u' (fun i hi=>hl i (by simp[hi])) hu];exact h
  .simp at h
theorem tn{agg:Bool}{n:Nat}{p:C}{v:TV}{ap:List Nat}(h:e_ agg n p H=some (v,ap))(ha:eN H H' ap):e_ agg n p H'=some (v,ap):=by
 unfold e_ at h|-;split at h
 .exact h
 .rename_i id dv off
  have:au H' id=au H id:=ha id (by
   split at h
   all_goals first
    |(split at h
      .split at h
       .obtain ⟨_,rfl⟩:=ad (aa h);simp
       .simp at h
      .simp at h)
    |simp at h)
  simp only[this];exact h
 .rename_i id off
  have:au H' id=au H id:=ha id (by
   split at h
   all_goals first
    |(split at h
      .obtain ⟨_,rfl⟩:=ad (aa h);simp
      .simp at h)
    |simp at h)
  simp only[this];exact h
 .simp at h
theorem Al{id dv sz:Nat}{slots:List iq}{cs:List C}{u:dD}{ap:List Nat}(h:nn id dv sz slots cs H=some (u,ap))(ha:eN H H' ap):nn id dv sz slots cs H'=some (u,ap):=by
 unfold nn at h|-;split at h
 .exact h
 .rename_i sz' id2 len
  have hid:id2∈ap:=by
   repeat' split at h
   all_goals first
    |(simp at h;done)
    |(obtain⟨_,h2⟩:=ad (aa h);rw[<-h2];simp)
  simp only[ha id2 hid];exact h
 .simp at h
theorem yF{agg:Bool}{n nxt n':Nat}{p:C}{v:TV}{u:dD}{ap:List Nat}(h:iI agg n p H nxt=some (v,u,ap,n'))(ha:eN H H' ap):e_ agg n p H'=none/\iI agg n p H' nxt=some (v,u,ap,n'):=by
 unfold iI at h;split at h
 case h_2=>simp at h
 rename_i id dv;split at h
 case h_2=>simp at h
 rename_i sz slots ho
 have hid:id∈ap:=by
  repeat' split at h
  all_goals first
   |(simp at h;done)
   |(obtain⟨_,_,h2,_⟩:=(by simpa using h:_/\_/\[id]=ap/\_);rw[<-h2];simp)
 have ho':au H' id=some (.nst sz slots):=by rw[ha id hid];exact ho
 refine⟨by simp only[e_,ho'],?_⟩;simp only[iI,ho'];exact h
theorem xC{n:Nat}{p:C}{v:TV}{u:dD}{ap:List Nat}(h:jg n p v H=some (u,ap))(ha:eN H H' ap):jg n p v H'=some (u,ap):=by
 unfold jg at h|-;split at h
 .simp at h
 .rename_i cs hcs;split at h
  .rename_i hlen;simp only[hlen,if_true];split at h
   .rename_i id dv off;split at h
    .rename_i sz rows ho;split at h
     .rename_i r ds ids1 hr hv;split at h
      .rename_i u1 hfz;split at h
       .rename_i hb;obtain⟨rfl,rfl⟩:=ad (aa h);have ha1:eN H H' ids1:=fun i hi=>ha i (by simp[hi]);simp only[ha id (by simp),ho,hr,kV _ _ _ hv ha1,k8 ha1 _ _ (fun i hi=>hi) hfz,hb.1,hb.2,and_self,if_true]
       .simp at h
      .simp at h
     .simp at h
    .rename_i sz slots ho;split at h
     .rename_i hc
      have hid:id∈ap/\∀i,cs=[.dq sz i 0 0]->True:=by
       refine⟨?_,fun _ _=>trivial⟩;unfold nn at h
       repeat' split at h
       all_goals first
        |(simp at h;done)
        |(obtain⟨_,h2⟩:=ad (aa h);rw[<-h2];simp)
      simp only[ha id hid.1,ho,if_pos hc];exact Al h ha
     .simp at h
    .simp at h
   .rename_i id off;split at h
    .rename_i cells ho;split at h
     .rename_i hb;obtain⟨rfl,rfl⟩:=ad (aa h);simp only[ha id (by simp),ho,hb,if_true]
     .simp at h
    .simp at h
   .simp at h
  .simp at h
theorem kX{sz:Nat}{x:C}{new:List (List D)}{ap:List Nat}(h:ga sz H x=some (new,ap))(ha:eN H H' ap):ga sz H' x=some (new,ap):=by
 unfold ga at h|-;split at h
 .exact h
 .exact h
 .rename_i sz' id off len
  have:au H' id=au H id:=ha id (by
   split at h
   all_goals first
    |(split at h
      .obtain ⟨_,rfl⟩:=ad (aa h);simp
      .simp at h)
    |simp at h)
  simp only[this];exact h
 .simp at h
theorem A9{sz:Nat}{d x:C}{i:Int}{u:dD}{ap:List Nat}(h:jr sz d x H=some (i,u,ap))(ha:eN H H' ap):jr sz d x H'=some (i,u,ap):=by
 unfold jr at h|-;split at h
 .rename_i new ids1 hr;obtain⟨_,_,rfl⟩:_/\_/\ids1=ap:=by simpa using h
  rw[kX hr ha];exact h
 .rename_i new ids1 sz' id off len hr;split at h
  .rename_i szo rows ho;split at h
   .rename_i hb;obtain⟨_,_,rfl⟩:_/\_/\id::ids1=ap:=by simpa using h
    rw[kX hr fun j hj=>ha j (av _ hj)];simp only[ha id (by simp),ho,if_pos hb];exact h
   .simp at h
  .simp at h
 .simp at h
theorem zj{sz:Nat}{d x:C}{i:Int}{u:dD}{ap:List Nat}(h:k9 sz d x H=some (i,u,ap))(ha:eN H H' ap):k9 sz d x H'=some (i,u,ap)/\jr sz d x H'=none:=by
 unfold k9 at h|-;split at h
 case h_2=>simp at h
 rename_i sz' id off len sz2 id2 off2 len2
 have hids:ap=[id,id2]:=by
  repeat' split at h
  all_goals first
   |(simp at h;done)
   |(obtain⟨_,_,h2⟩:=(by simpa using h:_/\_/\[id,id2]=ap);exact h2.symm)
 subst hids;have a1:=ha id (by simp);have a2:=ha id2 (by simp);refine⟨by simp only[a1,a2];exact h,?_⟩
 have:∃szo rows cp,au H' id=some (.cap szo rows cp):=by
  rw[a1];split at h
  .exact ⟨_,_,_,by assumption⟩
  .exact ⟨_,_,_,by assumption⟩
  .simp at h
 obtain⟨szo,rows,cp,ho⟩:=this;unfold jr;split
 .rename_i hd;simp at hd
 .rename_i hd;obtain⟨rfl,rfl,rfl,rfl⟩:=(by simpa using hd:_/\_/\_/\_)
  rw[ho]
 .rfl
theorem w7{sz nxt n':Nat}{s x:C}{v:TV}{u:dD}{ap:List Nat}(h:kC sz s x H nxt=some (v,u,ap,n'))(ha:eN H H' ap):kC sz s x H' nxt=some (v,u,ap,n'):=by
 unfold kC at h|-;split at h
 .simp at h
 .rename_i new ids1 hr;split at h
  .have e1:ids1=ap:=by
    split at h
    .split at h
     .obtain ⟨_,_,h3,_⟩:=(by simpa using h:_/\_/\ids1=ap/\_);exact h3
     .obtain ⟨_,_,h3,_⟩:=(by simpa using h:_/\_/\ids1=ap/\_);exact h3
    .simp at h
   subst e1;simp only[kX hr ha];exact h
  .rename_i sz' id off len;split at h
   .rename_i szo rows ho;split at h
    .rename_i hb;have e1:id::ids1=ap:=by obtain⟨_,_,h3,_⟩:=(by simpa using h:_/\_/\id::ids1=ap/\_);exact h3
     subst e1;simp only[kX hr (fun i hi=>ha i (by simp[hi])),ha id (by simp),ho];rw[if_pos hb];exact h
    .simp at h
   .simp at h
  .simp at h
theorem As:∀n,(∀c t bf rd,cR H n c=some (t,bf,rd)->eN H H' rd->cR H' n c=some (t,bf,rd))/\
  (∀cs ts bf rd,fF H n cs=some (ts,bf,rd)->eN H H' rd->fF H' n cs=some (ts,bf,rd)):=by
 have leaf:∀n c t bf rd,(match c with|.op _ _=>False|_=>True)->cR H n c=some (t,bf,rd)->eN H H' rd->cR H' n c=some (t,bf,rd):=by
  intro n c t bf rd hl h ha;cases c with
  |d y=>cases n<;>simpa only[cR]using h
  |dq sz id off len=>
   have hm:id∈rd:=by
    cases n<;>
    .simp only[cR]at h;split at h
     all_goals first
      |(split at h
        .split at h
         .obtain ⟨_,_,h3⟩:=(by simpa using h:_/\_/\[id]=rd);rw[<-h3];simp
         .simp at h
        .simp at h)
      |(split at h
        .obtain ⟨_,_,h3⟩:=(by simpa using h:_/\_/\[id]=rd);rw[<-h3];simp
        .simp at h)
      |simp at h
   have:au H' id=au H id:=ha id hm;cases n<;>
   .simp only[cR]at h|-;rw[this];exact h
  |ep id dv off=>cases n<;>simp[cR]at h
  |kR f caps=>cases n<;>simp[cR]at h
  |om id=>
   simp only[cR]at h|-
   have hm:id∈rd:=by
    split at h
    .obtain ⟨_,_,h3⟩:=(by simpa using h:_/\_/\[id]=rd);rw[<-h3];simp
    .simp at h
   rw[ha id hm];exact h
  |op id off=>exact hl.elim
 intro n;induction n with
 |zero=>
  refine⟨fun c t bf rd h ha=>?_,fun cs ts bf rd h ha=>?_⟩
  .cases c with|op id off=>simp[cR]at h|_=>exact leaf 0 _ t bf rd trivial h ha
  .cases cs with|nil=>simpa only[fF]using h|cons c cs=>simp[fF]at h
 |succ n ih=>
  refine⟨fun c t bf rd h ha=>?_,fun cs ts bf rd h ha=>?_⟩
  .cases c with
   |op id off=>
    cases off with
    |succ off=>simp[cR]at h
    |zero=>
     simp only[cR]at h|-;split at h
     .rename_i ho;split at h
      .rename_i ts own' rd' hp;obtain⟨h1,h2,h3⟩:=(by simpa using h:T.pt ts=t/\id::own'=bf/\id::rd'=rd)
       subst h1 h2 h3;rw[ha id (by simp),ho];simp only[ih.2 _ _ _ _ hp (fun i hi=>ha i (by simp[hi]))]
      .simp at h
     .rename_i cells ho;obtain⟨h1,h2,h3⟩:=(by simpa using h:T.d (.pt cells)=t/\[]=bf/\[id]=rd)
      subst h1 h2 h3;rw[ha id (by simp),ho]
     .simp at h
   |_=>exact leaf _ _ t bf rd trivial h ha
  .cases cs with
   |nil=>simpa only[fF]using h
   |cons c cs=>
    simp only[fF]at h|-;split at h
    .rename_i t0 a i0 ts0 b j0 h1 h2;obtain⟨e1,e2,e3⟩:=(by simpa using h:t0::ts0=ts/\a++b=bf/\i0++j0=rd)
     subst e1 e2 e3;simp only[ih.1 _ _ _ _ h1 ha.left,ih.2 _ _ _ _ h2 ha.right]
    .simp at h
theorem ud:∀(tvs:List TV)(ms:List Bool)(as:List A)(ap:List Nat)(lent:List (C×List Nat×List Nat)),eA H tvs ms=some (as,ap,lent)->eN H H' ap->eN H H' (lent.flatMap (·.2.2))->
  eA H' tvs ms=some (as,ap,lent):=by
 intro tvs;induction tvs with
 |nil=>intro ms as ap lent h _ _;simpa only[eA]using h
 |cons t tvs ih=>
  intro ms as ap lent h ha hb;simp only[eA]at h|-;split at h
  .simp at h
  .rename_i as1 ids1 lent1 hrec;split at h
   .rename_i hm;split at h
    .split at h
     .rename_i t0 bf rd hp;obtain⟨e1,e2,e3⟩:=(by simpa using h:A.mt t0::as1=as/\ids1=ap/\(_,bf,rd)::lent1=lent)
      subst e1 e2 e3;simp only[bd]at hb;simp only[ih _ _ _ _ hrec ha hb.right,hm,if_true,(As 300).1 _ _ _ _ hp hb.left]
     .simp at h
    .simp at h
   .rename_i hm;split at h
    .split at h
     .rename_i x i hv;obtain⟨e1,e2,e3⟩:=(by simpa using h:A.d x::as1=as/\i++ids1=ap/\lent1=lent)
      subst e1 e2 e3;simp only[ih _ _ _ _ hrec ha.right hb,hm,if_false,aM,(py 300).1 _ _ _ hv ha.left]
     .simp at h
    .split at h
     .rename_i xs i hv;obtain⟨e1,e2,e3⟩:=(by simpa using h:A.agg xs::as1=as/\i++ids1=ap/\lent1=lent)
      subst e1 e2 e3;simp only[ih _ _ _ _ hrec ha.right hb,hm,if_false,aM,kV _ _ _ hv ha.left]
     .simp at h
    .simp at h
theorem B9:∀(tvs:List TV)(ms:List Bool)(as:List A)(ap:List Nat)(lent:List (C×List Nat×List Nat)),eA H tvs ms=some (as,ap,lent)->
  ∀c bf rd,(c,bf,rd)∈lent->∃t,cR H 300 c=some (t,bf,rd):=by
 intro tvs;induction tvs with
 |nil=>
  intro ms as ap lent h c bf rd hm;obtain⟨_,_,rfl⟩:[]=as/\[]=ap/\[]=lent:=by simpa[eA]using h
  simp at hm
 |cons t tvs ih=>
  intro ms as ap lent h c bf rd hm;simp only[eA]at h;split at h
  .simp at h
  .rename_i as1 ids1 lent1 hrec;split at h
   .split at h
    .split at h
     .rename_i c0 _ t0 own0 rd0 hp;obtain⟨_,_,e3⟩:=(by simpa using h:A.mt t0::as1=as/\ids1=ap/\(_,own0,rd0)::lent1=lent)
      subst e3;rcases aD.1 hm with hm|hm
      .simp only[bO]at hm;obtain⟨g1,g2,g3⟩:=hm;rw[g1,g2,g3];exact⟨_,hp⟩
      .exact ih _ _ _ _ hrec c bf rd hm
     .simp at h
    .simp at h
   .split at h
    .split at h
     .obtain ⟨_,_,e3⟩:=(by simpa using h:_/\_/\lent1=lent)
      subst e3;exact ih _ _ _ _ hrec c bf rd hm
     .simp at h
    .split at h
     .obtain ⟨_,_,e3⟩:=(by simpa using h:_/\_/\lent1=lent)
      subst e3;exact ih _ _ _ _ hrec c bf rd hm
     .simp at h
    .simp at h
theorem ri:∀(l:List (C×List Nat×List Nat)),(∀c bf rd,(c,bf,rd)∈l->∃t,cR H 300 c=some (t,bf,rd))->eN H H' (l.flatMap (·.2.2))->de H' l=de H l:=by
 intro l;induction l with
 |nil=>intro _ _;rfl
 |cons p l ih=>
  obtain⟨c,bf,rd⟩:=p;intro hp ha;simp only[bd]at ha;have h1:=ih (fun c bf rd hm=>hp c bf rd (by simp[hm])) ha.right;cases c with
  |dq sz id off len=>
   obtain⟨t,ht⟩:=hp (.dq sz id off len) bf rd (by simp)
   have hm:id∈rd:=by
    simp only[cR]at ht;split at ht
    all_goals first
     |(split at ht
       .split at ht
        .obtain ⟨_,_,h3⟩:=(by simpa using ht:_/\_/\[id]=rd);rw[<-h3];simp
        .simp at ht
       .simp at ht)
     |(split at ht
       .obtain ⟨_,_,h3⟩:=(by simpa using ht:_/\_/\[id]=rd);rw[<-h3];simp
       .simp at ht)
     |simp at ht
   simp only[de,h1,ha.left id hm]
  |_=>simp only[de,h1]
theorem Bj{call:Call}{ro:Bool}{gJ:List Bool}{f:Option TV}{vs:List (Option TV)}{nxt n':Nat}{v:TV}{u:dD}{ap:List Nat}(h:pN call ro gJ f vs H nxt=some (v,u,ap,n'))(ha:eN H H' ap):
  pN call ro gJ f vs H' nxt=some (v,u,ap,n'):=by
 unfold pN at h|-;split at h
 .rename_i f caps vs hf hvs;split at h
  .simp at h
  .rename_i as ids1 lent hargs;split at h
   .rename_i hcond;split at h
    .simp at h
    .rename_i rs outs hcall;by_cases hro:ro=true
     .rw [if_pos hro]at h;split at h
      .rename_i hc;split at h
       .simp at h
       .rename_i bu m hbk;have e1:ids1++lent.flatMap (·.2.2)=ap:=by obtain⟨_,_,h3,_⟩:=(by simpa using h:_/\_/\ids1++lent.flatMap (·.2.2)=ap/\_);exact h3
        subst e1;simp only[ud _ _ _ _ _ hargs ha.left ha.right];rw[if_pos (by rw[ri lent (B9 _ _ _ _ _ hargs) ha.right];exact hcond)];simp only[hcall];rw[if_pos hro,if_pos hc];simp only[hbk];exact h
      .simp at h
     .rw [if_neg hro]at h;split at h
      .simp at h
      .rename_i fu hfz;split at h
       .simp at h
       .rename_i bu m hbk;have e1:ids1++lent.flatMap (·.2.2)=ap:=by obtain⟨_,_,h3,_⟩:=(by simpa using h:_/\_/\ids1++lent.flatMap (·.2.2)=ap/\_);exact h3
        subst e1;simp only[ud _ _ _ _ _ hargs ha.left ha.right];rw[if_pos (by rw[ri lent (B9 _ _ _ _ _ hargs) ha.right];exact hcond)];simp only[hcall];rw[if_neg hro];simp only[k8 ha.left _ _ (fun i hi=>hi) hfz,hbk];exact h
   .simp at h
 .simp at h
theorem re{call:Call}{sz len:Nat}{zero:List Value}{places:List Nat}{vs:List (Option TV)}{nxt n':Nat}{v:TV}{u:dD}{ap:List Nat}
  (h:bN call (.buildSlice sz len zero places) vs H nxt=some (v,u,ap,n')) (ha:eN H H' ap):bN call (.buildSlice sz len zero places) vs H' nxt=some (v,u,ap,n'):=by
 have key:∀G:bl,bN call (.buildSlice sz len zero places) vs G nxt=(match cT vs with
  |some xs=>
   (match ig (dk zero) ((places.map fun i=>(i*sz,sz)).zip xs)with
   |some cs=>
    (match cH G cs with
    |some (ds,ap)=>(match cq G ap ap with|some u=>some (TV.c (.dq sz nxt 0 len),(nxt,some (Ob.aH sz (js sz len ds)))::u,ap,nxt+1)|none=>none)
    |none=>none)
   |none=>none)
  |none=>none):=fun _=>rfl
 rw[key]at h|-;split at h
 .rename_i xs hxs;split at h
  .rename_i cs hcs;split at h
   .rename_i ds ids1 hv;split at h
    .rename_i u1 hfz;obtain⟨_,_,h3,_⟩:=(by simpa using h:_/\_/\ids1=ap/\_)
     subst h3;simp only[kV _ _ _ hv ha,k8 ha _ _ (fun i hi=>hi) hfz];exact h
    .simp at h
   .simp at h
  .simp at h
 .simp at h
theorem wq{ka va ok:Bool}{ks:List Kd}{z:List Value}{m:C}{k v:TV}{ap:List Nat}(h:fq ka ks va z ok m k H=some (v,ap))(ha:eN H H' ap):fq ka ks va z ok m k H'=some (v,ap):=by
 unfold fq at h|-;split at h
 .exact h
 .rename_i id key hkey
  have hid:id∈ap:=by
   repeat' split at h
   all_goals first
    |(simp at h;done)
    |(obtain⟨_,h2⟩:=ad (aa h);rw[<-h2];simp)
  simp only[ha id hid];exact h
 .simp at h
theorem zb{ka va:Bool}{ks:List Kd}{z:List Value}{m:C}{k v:TV}{u:dD}{ap:List Nat}(h:jV ka ks va z m k H=some (v,u,ap))(ha:eN H H' ap):jV ka ks va z m k H'=some (v,u,ap):=by
 unfold jV at h|-;split at h
 .rename_i id key hkey
  have hid:id∈ap:=by
   repeat' split at h
   all_goals first
    |(simp at h;done)
    |(obtain⟨_,_,h2⟩:=(by simpa using h:_/\_/\[id]=ap);rw[<-h2];simp)
  simp only[ha id hid];exact h
 .simp at h
theorem wK{va:Bool}{n:Nat}{m:C}{s:Option TV}{x:TV}{u:dD}{ap:List Nat}(h:jW va n m s x H=some (u,ap))(ha:eN H H' ap):jW va n m s x H'=some (u,ap):=by
 unfold jW at h|-;split at h
 .rename_i id s1 ds dm hds
  have hid:id∈ap:=by
   repeat' split at h
   all_goals first
    |(simp at h;done)
    |(obtain⟨_,h2⟩:=(by simpa using h:_/\[id]=ap);rw[<-h2];simp)
  simp only[ha id hid];exact h
 .simp at h
theorem sQ{str:Bool}{sz:Nat}{x y:C}{l m:Int}{ap:List Nat}(h:ki str sz x l m H=some (y,ap))(ha:eN H H' ap):ki str sz x l m H'=some (y,ap):=by
 unfold ki at h|-;split at h
 .rename_i sz' id off len
  have hid:id∈ap:=by
   repeat' split at h
   all_goals first
    |(simp at h;done)
    |(obtain⟨_,h2⟩:=(by simpa using h:_/\[id]=ap);rw[<-h2];simp)
  simp only[ha id hid];exact h
 .simp at h
theorem zo{z:List Value}{x:C}{u:dD}{ap:List Nat}(h:k_ z x H=some (u,ap))(ha:eN H H' ap):k_ z x H'=some (u,ap):=by
 unfold k_ at h|-;split at h
 .rename_i sz id off len
  have hid:id∈ap:=by
   repeat' split at h
   all_goals first
    |(simp at h;done)
    |(obtain⟨_,h2⟩:=(by simpa using h:_/\[id]=ap);rw[<-h2];simp)
  simp only[ha id hid];exact h
 .simp at h
theorem AF{ka va:Bool}{ks:List Kd}{n:Nat}{m:C}{k x:TV}{u:dD}{ap:List Nat}(h:nq ka ks va n m k x H=some (u,ap))(ha:eN H H' ap):nq ka ks va n m k x H'=some (u,ap):=by
 unfold nq at h|-;split at h
 .rename_i id key cs hkey hcs;split at h
  .rename_i ds ids1 hv;split at h
   .rename_i fu hfz
    have hids:ap=id::ids1:=by
     repeat' split at h
     all_goals first
      |(simp at h;done)
      |(obtain⟨_,h2⟩:=ad (aa h);exact h2.symm)
    subst hids;have ha1:eN H H' ids1:=fun i hi=>ha i (by simp[hi]);simp only[kV _ _ _ hv ha1,k8 ha1 _ _ (fun i hi=>hi) hfz,ha id (by simp)];exact h
   .simp at h
  .simp at h
 .simp at h
theorem AG{ka:Bool}{ks:List Kd}{m:C}{k:TV}{u:dD}{ap:List Nat}(h:nr ka ks m k H=some (u,ap))(ha:eN H H' ap):nr ka ks m k H'=some (u,ap):=by
 unfold nr at h|-;split at h
 .exact h
 .rename_i id key hkey
  have hid:id∈ap:=by
   repeat' split at h
   all_goals first
    |(simp at h;done)
    |(obtain⟨_,h2⟩:=ad (aa h);rw[<-h2];simp)
  simp only[ha id hid];exact h
 .simp at h
def By:Ev.K->Bool
 |.pk|.og _ _ _ _|.oh _ _|.slice _ _ _ _|.clear _|.Gw|.Me _|.LD|.load _ _|.store _|.buildSlice _ _ _ _|.append _|.copy _|.call _ _|.lookup _ _ _ _ _|.mapEntry _ _ _ _|.entryStore _ _=>true
 |_=>false
theorem DI{call:Call}{k:Ev.K}{vs:List (Option TV)}{nxt:Nat}(hk:By k=false):bN call k vs H nxt=bN call k vs H' nxt:=by
 cases k<;>first
  |(simp[By]at hk;done)
  |(unfold bN;split<;>first|rfl|simp_all)
theorem DJ{call:Call}{k:Ev.K}{vs:List (Option TV)}{nxt n':Nat}{v:TV}{u:dD}{ap:List Nat}(h:bN call k vs H nxt=some (v,u,ap,n'))(ha:eN H H' ap):
  bN call k vs H' nxt=some (v,u,ap,n'):=by
 cases k with
 |load agg n=>
  match vs,h with
  |[some (.c p)],h=>
   change (match e_ agg n p H with|some (v,ap)=>some (v,[],ap,nxt)|none=>none)=_ at h;show(match e_ agg n p H' with|some (v,ap)=>some (v,[],ap,nxt)|none=>none)=_;split at h
   .rename_i hl;obtain⟨_,_,h3,_⟩:=(by simpa using h:_/\_/\_=ap/\_)
    subst h3;rw[tn hl ha];exact h
   .simp at h
 |pk=>
  match vs,h with
  |[some (.c p)],h=>
   change (match e_ false 1 p H with|some (v,ap)=>some (v,[],ap,nxt)|none=>iI false 1 p H nxt)=_ at h;show(match e_ false 1 p H' with|some (v,ap)=>some (v,[],ap,nxt)|none=>iI false 1 p H' nxt)=_;split at h
   .rename_i hl;obtain⟨_,_,h3,_⟩:=(by simpa using h:_/\_/\_=ap/\_)
    subst h3;rw[tn hl ha];exact h
   .obtain ⟨h1,h2⟩:=yF h ha;rw[h1];exact h2
 |og ka ks va n=>
  match vs,h with
  |[some (.c m),some k,some x],h=>
   change (match nq ka ks va n m k x H with|some (u,ap)=>some (TV.eU [],u,ap,nxt)|none=>none)=_ at h;show(match nq ka ks va n m k x H' with|some (u,ap)=>some (TV.eU [],u,ap,nxt)|none=>none)=_;split at h
   .rename_i hl;obtain⟨_,_,h3,_⟩:=(by simpa using h:_/\_/\_=ap/\_)
    subst h3;rw[AF hl ha];exact h
   .simp at h
 |oh ka ks=>
  match vs,h with
  |[some (.c m),some k],h=>
   change (match nr ka ks m k H with|some (u,ap)=>some (TV.eU [],u,ap,nxt)|none=>none)=_ at h;show(match nr ka ks m k H' with|some (u,ap)=>some (TV.eU [],u,ap,nxt)|none=>none)=_;split at h
   .rename_i hl;obtain⟨_,_,h3,_⟩:=(by simpa using h:_/\_/\_=ap/\_)
    subst h3;rw[AG hl ha];exact h
   .simp at h
 |store n=>
  match vs,h with
  |[some (.c p),some x],h=>
   change (match jg n p x H with|some (u,ap)=>some (TV.eU [],u,ap,nxt)|none=>none)=_ at h;show(match jg n p x H' with|some (u,ap)=>some (TV.eU [],u,ap,nxt)|none=>none)=_;split at h
   .rename_i hl;obtain⟨_,_,h3,_⟩:=(by simpa using h:_/\_/\_=ap/\_)
    subst h3;rw[xC hl ha];exact h
   .simp at h
 |buildSlice sz len zero places=>exact re h ha
 |clear z=>
  match vs,h with
  |[some (.c d)],h=>
   change (match k_ z d H with|some (u,ap)=>some (TV.eU [],u,ap,nxt)|none=>none)=_ at h;show(match k_ z d H' with|some (u,ap)=>some (TV.eU [],u,ap,nxt)|none=>none)=_;split at h
   .rename_i hl;obtain⟨_,_,h3,_⟩:=(by simpa using h:_/\_/\_=ap/\_)
    subst h3;rw[zo hl ha];exact h
   .simp at h
 |slice str sz lo hi=>
  have same:hi=false->bN call (.slice str sz lo hi) vs H nxt=bN call (.slice str sz lo hi) vs H' nxt:=by
   intro hlh
   cases lo<;>cases hi<;>first
    |(simp at hlh;done)
    |(match vs with
     |[]=>rfl
     |none::_=>rfl
     |some (.agg _)::_=>rfl
     |some (.eU _)::_=>rfl
     |some (.c _)::[]=>rfl
     |some (.c _)::_::[]=>rfl
     |some (.c _)::_::_::_=>rfl)
  cases hi with
  |false=>rw[<-same rfl];exact h
  |true=>
   cases lo with
   |false=>
    match vs,h with
    |[some (.c x),m],h=>
     change (match bL m with
      |some m=>(match dX str sz x none (some m)with
       |some y=>some (TV.c y,([]:dD),([]:List Nat),nxt)
       |none=>(match ki str sz x 0 m H with|some (y,ap)=>some (TV.c y,([]:dD),ap,nxt)|none=>none))
      |none=>none)=_ at h
     show(match bL m with
      |some m=>(match dX str sz x none (some m)with
       |some y=>some (TV.c y,([]:dD),([]:List Nat),nxt)
       |none=>(match ki str sz x 0 m H' with|some (y,ap)=>some (TV.c y,([]:dD),ap,nxt)|none=>none))
      |none=>none)=_
     split at h
     .split at h
      .exact h
      .split at h
       .rename_i hl;obtain⟨_,_,h3,_⟩:=(by simpa using h:_/\_/\_=ap/\_)
        subst h3;rw[sQ hl ha];exact h
       .simp at h
     .simp at h
   |true=>
    match vs,h with
    |[some (.c x),l,m],h=>
     change (match bL l,bL m with
      |some l,some m=>(match dX str sz x (some l) (some m)with
       |some y=>some (TV.c y,([]:dD),([]:List Nat),nxt)
       |none=>(match ki str sz x l m H with|some (y,ap)=>some (TV.c y,([]:dD),ap,nxt)|none=>none))
      |_,_=>none)=_ at h
     show(match bL l,bL m with
      |some l,some m=>(match dX str sz x (some l) (some m)with
       |some y=>some (TV.c y,([]:dD),([]:List Nat),nxt)
       |none=>(match ki str sz x l m H' with|some (y,ap)=>some (TV.c y,([]:dD),ap,nxt)|none=>none))
      |_,_=>none)=_
     split at h
     .split at h
      .exact h
      .split at h
       .rename_i hl;obtain⟨_,_,h3,_⟩:=(by simpa using h:_/\_/\_=ap/\_)
        subst h3;rw[sQ hl ha];exact h
       .simp at h
     .simp at h
 |append sz=>match vs,h with|[some (.c s),some (.c x)],h=>exact w7 (s:=s) (x:=x) h ha
 |copy sz=>
  match vs,h with
  |[some (.c d),some (.c x)],h=>
   change (match jr sz d x H with|some (i,u,ap)=>some (lv (.int .i64 i),u,ap,nxt)|none=>(match k9 sz d x H with|some (i,u,ap)=>some (lv (.int .i64 i),u,ap,nxt)|none=>none))=_ at h;show(match jr sz d x H' with|some (i,u,ap)=>some (lv (.int .i64 i),u,ap,nxt)|none=>(match k9 sz d x H' with|some (i,u,ap)=>some (lv (.int .i64 i),u,ap,nxt)|none=>none))=_;split at h
   .rename_i hl;obtain⟨_,_,h3,_⟩:=(by simpa using h:_/\_/\_=ap/\_)
    subst h3;rw[A9 hl ha];exact h
   .split at h
    .rename_i hl;obtain⟨_,_,h3,_⟩:=(by simpa using h:_/\_/\_=ap/\_)
     subst h3;obtain⟨e1,e2⟩:=zj hl ha;rw[e2,e1];exact h
    .simp at h
 |Gw=>
  match vs,h with
  |[some (.c x)],h=>
   change (match tO x H with|some (n,ap)=>some (lv (.int .i64 n),([]:dD),ap,nxt)|none=>none)=_ at h;show(match tO x H' with|some (n,ap)=>some (lv (.int .i64 n),([]:dD),ap,nxt)|none=>none)=_;split at h
   .rename_i m ids1 hl;obtain⟨_,_,h3,_⟩:=(by simpa using h:_/\_/\_=ap/\_)
    subst h3
    have:tO x H'=some (m,ids1):=by
     unfold tO at hl|-;split at hl
     .rename_i id off len
      have hid:id∈ids1:=by
       repeat' split at hl
       all_goals first
        |(simp at hl;done)
        |(obtain⟨_,h2⟩:=(by simpa using hl:_/\[id]=ids1);rw[<-h2];simp)
      simp only[ha id hid];exact hl
     .simp at hl
    rw[this];exact h
   .simp at h
 |LD=>
  match vs,h with
  |[some (.c x),some (.c y)],h=>
   change (match tN x y H with|some ap=>some (lv (.bool false),([]:dD),ap,nxt)|none=>none)=_ at h;show(match tN x y H' with|some ap=>some (lv (.bool false),([]:dD),ap,nxt)|none=>none)=_;split at h
   .rename_i ids1 hl;obtain⟨_,_,h3,_⟩:=(by simpa using h:_/\_/\_=ap/\_)
    subst h3
    have:tN x y H'=some ids1:=by
     unfold tN at hl|-;split at hl
     .rename_i a o1 l1 sz2 b o2 l2
      have hid:ids1=[a,b]:=by
       repeat' split at hl
       all_goals first
        |(simp at hl;done)
        |(exact(aa hl).symm)
      subst hid;simp only[ha a (by simp),ha b (by simp)];exact hl
     .simp at hl
    rw[this];exact h
   .simp at h
 |Me z=>
  match vs,h with
  |[some (.c x),some (.c (.d (.lit (.int k1 k))))],h=>
   change vu z x k H nxt=_ at h;show vu z x k H' nxt=_;unfold vu at h|-;split at h
   .rename_i sz' id off len
    have hid:id∈ap:=by
     repeat' split at h
     all_goals first
      |(simp at h;done)
      |(obtain⟨_,_,h2,_⟩:=(by simpa using h:_/\_/\[id]=ap/\_);rw[<-h2];simp)
    simp only[ha id hid];exact h
   .simp at h
 |call ro gJ=>match vs,h with|f::vs,h=>exact Bj (f:=f) (vs:=vs) h ha
 |lookup ka ks va z ok=>
  match vs,h with
  |[some (.c m),some k],h=>
   change (match fq ka ks va z ok m k H with|some (v,ap)=>some (v,([]:dD),ap,nxt)|none=>none)=_ at h;show(match fq ka ks va z ok m k H' with|some (v,ap)=>some (v,([]:dD),ap,nxt)|none=>none)=_;split at h
   .rename_i hl;obtain⟨_,_,h3,_⟩:=(by simpa using h:_/\_/\_=ap/\_)
    subst h3;rw[wq hl ha];exact h
   .simp at h
 |mapEntry ka ks va z=>
  match vs,h with
  |[some (.c m),some k],h=>
   change (match jV ka ks va z m k H with|some (v,u,ap)=>some (v,u,ap,nxt)|none=>none)=_ at h;show(match jV ka ks va z m k H' with|some (v,u,ap)=>some (v,u,ap,nxt)|none=>none)=_;split at h
   .rename_i hl;obtain⟨_,_,h3,_⟩:=(by simpa using h:_/\_/\_=ap/\_)
    subst h3;rw[zb hl ha];exact h
   .simp at h
 |entryStore va n=>
  match vs,h with
  |[some (.c m),s,some x],h=>
   change (match jW va n m s x H with|some (u,ap)=>some (TV.eU [],u,ap,nxt)|none=>none)=_ at h;show(match jW va n m s x H' with|some (u,ap)=>some (TV.eU [],u,ap,nxt)|none=>none)=_;split at h
   .rename_i hl;obtain⟨_,_,h3,_⟩:=(by simpa using h:_/\_/\_=ap/\_)
    subst h3;rw[wK hl ha];exact h
   .simp at h
 |_=>rw[DI (H:=H') (H':=H) rfl];exact h
end
end Go.Ev
