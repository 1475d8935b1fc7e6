/- Calls: what a callee's answer means, and that a caller may use it. Conditions: the relation of XEvC. -/
import Derived.Test.YtoekkpmeeclpeaaGreatEvLa
open Array renaming getD_eq_getD_getElem?->cV,range->lR
open Bool renaming and_eq_true->ak,false_eq_true->bD
open Go renaming Call->oc
open List renaming all_cons->fR,all_eq_true->bg,append_assoc->aM,cons_append->bI,getElem?_append_left->bG,getElem?_append_right->ck,getElem?_cons_succ->cN,getElem?_cons_zero->bP,getElem?_eq_getElem->ao,getElem?_eq_some_iff->aB,getElem?_map->aN,getElem?_toArray->bK,getElem_mem->eN,length_map->aD,map_cons->aK,map_nil->aZ,map_toArray->c9,mem_append->aC,mem_append_left->aU,mem_append_right->aX,mem_cons->aW,mem_cons_of_mem->aI,mem_flatMap->cm,mem_flatten->dP,mem_map->br,mem_of_getElem?->aF,mem_singleton->aq,nodup_append->da,nodup_cons->il,range->bm,singleton_append->a_
open List.cons renaming injEq->mR
open Nat renaming le_refl->am,le_trans->bo,lt_of_lt_of_le->cP,succ_pos->cL
open Option renaming isSome_iff_exists->eM,map_eq_some_iff->aH
open Option.some renaming inj->aa,injEq->eY
open Prod.mk renaming inj->af,injEq->iL
namespace Go.Ev
def RA(S:Nat->Prop)(w:World):A->Value->List Nat->Prop
 |.d x,v,fp=>RD S w x v/\fp=[]
 |.agg xs,v,fp=>∃aG,v=.agg aG/\xs.length=aG.size/\(∀(i:Nat)(x:D),xs[i]?=some x->RD S w x (aG.getD i undef))/\fp=[]
 |.mt t,v,fp=>RT S w t v fp
def O7(S:Nat->Prop)(w:World):List A->List Value->List Nat->Prop
 |[],[],fp=>fp=[]
 |a::as,v::vs,fp=>∃f1 f2,fp=f1++f2/\RA S w a v f1/\O7 S w as vs f2
 |_,_,_=>False
def RR(S:Nat->Prop)(w:World):R->Value->List Nat->Prop
 |.c t,v,fp=>RT S w t v fp
 |.agg ts,v,fp=>∃(aG:Array Value)(fps:List (List Nat)),v=.agg aG/\ts.length=aG.size/\fps.length=ts.length/\fps.flatten=fp/\∀(i:Nat)(t:T)(f:List Nat),ts[i]?=some t->fps[i]?=some f->RT S w t (aG.getD i undef) f
def Gx(S:Nat->Prop)(w:World):List R->List Value->List Nat->Prop
 |[],[],fp=>fp=[]
 |r::rs,v::vs,fp=>∃f1 f2,fp=f1++f2/\RR S w r v f1/\Gx S w rs vs f2
 |_,_,_=>False
def OY(S:Nat->Prop)(w:World):List T->List Value->List Nat->Prop
 |[],[],fp=>fp=[]
 |t::ts,v::vs,fp=>∃f1 f2,fp=f1++f2/\((t=.tF/\f1=[])\/RT S w t v f1)/\OY S w ts vs f2
 |_,_,_=>False
def kT:List A->List Value->List Value
 |.mt _::as,v::vs=>v::kT as vs
 |_::as,_::vs=>kT as vs
 |_,_=>[]
def z7:List Value->Value
 |[v]=>v
 |vs=>.tuple vs.toArray
def T4(P:Program)(f:FuncId)(args:Array Value)(w:World)(R:Value->World->Prop):Prop:=
 (∃g as,(callFunc f args).run P w=.ok (.enter g as) w/\Calls P g as w fun e w'=>∃v,e=.returned v/\R v w')\/
 (∃v,(callFunc f args).run P w=.ok (.value v) w/\R v w)
def Left(S:Nat->Prop)(w:World)(fp:List Nat)(rs:List R)(outs:List T)(lent:List Value)(v:Value)(w':World):Prop:=
 ∃(S':Nat->Prop)(jJ:List Value)(fp1 fp2:List Nat),v=z7 jJ/\gy S w S' w'/\(∀b,S' b->S b\/b∈fp\/w.heap.size<=b)/\(∀b,S' b->b<w'.heap.size)/\
  Gx S' w' rs jJ fp1/\OY S' w' outs lent fp2/\(fp1++fp2).Nodup/\(∀b∈fp1++fp2,¬S' b/\(b∈fp\/w.heap.size<=b))/\JM (fun b=>b<w.heap.size/\b∉fp) w w'
def xw(P:Program)(f:FuncId)(as:List A)(rs:List R)(outs:List T):Prop:=
 ∀(S:Nat->Prop)(w:World)(vs:List Value)(fp:List Nat),(∀b,S b->b<w.heap.size)->O7 S w as vs fp->fp.Nodup->(∀b∈fp,¬S b)->DY S w->
  T4 P f vs.toArray w (Left S w fp rs outs (kT as vs))
def fg(P:Program)(call:Call):Prop:=∀f as rs outs,call f as=some (rs,outs)->xw P f as rs outs
theorem O7.BQ{S S':Nat->Prop}{w:World}(hs:gy S w S' w){as:List A}:∀{vs:List Value}{fp:List Nat},O7 S w as vs fp->O7 S' w as vs fp:=by
 induction as with
 |nil=>intro vs fp h;cases vs<;>exact h
 |cons x as ih=>
  intro vs fp h;cases vs with
  |nil=>exact h
  |cons v vs=>obtain⟨f1,f2,h1,h2,h3⟩:=h;refine⟨f1,f2,h1,?_,ih h3⟩;cases x with|d y=>exact⟨h2.1.mono hs,h2.2⟩|agg xs=>obtain⟨aG,q1,q2,q3,q4⟩:=h2;exact⟨aG,q1,q2,fun i x hi=>(q3 i x hi).mono hs,q4⟩|mt t=>exact RT.mono hs h2 fun _ _=>rfl
section
variable{P:Program}{S K:Nat->Prop}{w0 w:World}{Kn:Nat->Prop}{φ:Nat->gj}{H:bp}{e:jk}{ρ:Operand->Value}{o:Oper}{call:Call}
 {nxt n':Nat} {v:TV} {u:eW} {av:List Nat}
inductive Iw(Kn:Nat->Prop)(φ:Nat->gj)(S:Nat->Prop)(w:World):List (C×List Nat×List Nat)->List Value->Prop
 |nil:Iw Kn φ S w [] []
 |cons {c:C} {bk rd:List Nat} {l:List (C×List Nat×List Nat)} {v:Value} {vs:List Value} (h:RC S w Kn φ c v) (hl:Iw Kn φ S w l vs):Iw Kn φ S w ((c,bk,rd)::l) (v::vs)
theorem Is{H:bp}(hI:Inv S K w0 Kn φ (au H) w):∀(tvs:List TV)(ms:List Bool)(as:List A)(av:List Nat)(lent:List (C×List Nat×List Nat))(vs:List Value),
  gm H tvs ms=some (as,av,lent)->tvs.length=vs.length->(∀(i:Nat)(t:TV)(v:Value),tvs[i]?=some t->vs[i]?=some v->fz S w Kn φ t v)->
  O7 (SB S w φ (au H) av) w as vs ((lent.flatMap (·.2.1)).flatMap (ij w φ (au H)))/\(∀i∈lent.flatMap (·.2.1),∃o,au H i=some o/\cA o=true)/\Iw Kn φ S w lent (kT as vs):=by
 intro tvs;induction tvs with
 |nil=>
  intro ms as av lent vs h hl hr;obtain⟨rfl,rfl,rfl⟩:[]=as/\[]=av/\[]=lent:=by simpa[gm]using h
  obtain rfl:vs=[]:=List.length_eq_zero_iff.1 hl.symm;exact⟨rfl,fun i hi=>by simp at hi,.nil⟩
 |cons t tvs ih=>
  intro ms as av lent vs h hl hr;cases vs with
  |nil=>simp at hl
  |cons v vs=>
   have h0:=hr 0 t v rfl rfl;simp only[gm]at h;split at h
   .simp at h
   .rename_i as1 ids1 lent1 hrec;obtain⟨i1,i2,i3⟩:=ih ms.tail as1 ids1 lent1 vs hrec (by simpa using hl) (fun i t v hi hv=>hr (i+1) t v (by simpa using hi) (by simpa using hv));split at h
    .split at h
     .rename_i c;split at h
      .rename_i t0 bk rd hp;obtain⟨rfl,rfl,rfl⟩:A.mt t0::as1=as/\ids1=av/\(c,bk,rd)::lent1=lent:=by simpa using h
       cases h0 with
       |c h0=>
        obtain⟨p1,p2⟩:=(sL hI 300).1 c t0 bk rd v hp h0;refine⟨⟨bk.flatMap (ij w φ (au H)),_,by simp,p1.mono (SB.tR _) (fun _ _=>rfl),i1⟩,fun i hi=>?_,.cons h0 i3⟩;rcases aC.1 (by simpa using hi:i∈bk++lent1.flatMap (·.2.1))with hi|hi
        .exact p2 i hi
        .exact i2 i hi
      .simp at h
     .simp at h
    .split at h
     .rename_i c;split at h
      .rename_i x i hp;obtain⟨rfl,rfl,rfl⟩:A.d x::as1=as/\i++ids1=av/\lent1=lent:=by simpa using h
       cases h0 with|c h0=>have p1:=(vB hI 300).1 c x i v hp h0;refine⟨⟨[],_,rfl,⟨p1.mono (SB.BQ _ _ fun j hj=>by simp[hj]),rfl⟩,?_⟩,i2,i3⟩;exact i1.BQ (SB.BQ _ _ fun j hj=>by simp[hj])
      .simp at h
     .rename_i cs;split at h
      .rename_i xs i hp;obtain⟨rfl,rfl,rfl⟩:A.agg xs::as1=as/\i++ids1=av/\lent1=lent:=by simpa using h
       cases h0 with
       |@agg _ aG hlen h0=>
        obtain⟨q1,q2⟩:=pC hI cs xs i hp (fun i=>aG[i]?) (fun i c hi=>by
         have hlt:i<aG.size:=by rw[<-hlen];exact(aB.1 hi).1
         exact⟨aG.getD i undef,by simp[hlt],h0 i c hi⟩)
        refine⟨⟨[],_,rfl,⟨aG,rfl,q1.trans hlen,fun j x hj=>?_,rfl⟩,?_⟩,i2,i3⟩
        .obtain ⟨y,hy,hd⟩:=q2 j x hj;have hy':aG[j]?=some y:=hy;have e1:aG.getD j undef=y:=by simp[hy']
         rw[e1];exact hd.mono (SB.BQ _ _ fun k hk=>by simp[hk])
        .exact i1.BQ (SB.BQ _ _ fun j hj=>by simp[hj])
      .simp at h
     .simp at h
end
section
variable{P:Program}{S K:Nat->Prop}{w0 w:World}{Kn:Nat->Prop}{φ:Nat->gj}{hf:Nat->Option Ob}{H:bp}{e:jk}{ρ:Operand->Value}{o:Oper}{call:Call}
 {nxt n':Nat} {v:TV} {u:eW} {av:List Nat}
theorem tg.QS{fa fb:List Nat}{n m:Nat}{φ1:Nat->gj}(hI:Inv S K w0 Kn φ hf w)(h:tg S K w0 w Kn φ hf fa n m u φ1)(ha:vk w φ hf fb)(hd:∀x∈fa,x∉fb):vk w φ1 (bf u hf) fb:=by
 intro j o hj hown x hx hm;by_cases hu:∃p∈u,p.1=j
 .obtain ⟨p,hp,rfl⟩:=hu;exact hd _ (h.cQ p hp x hx) hm
 .have hfn:=lM fun p hp e=>hu ⟨p,hp,e⟩;have hj':=hj;simp[bf,hfn]at hj';have hk:=(hI.iI j o hj').1;rw[gp (h.uN.dH j hk) (hj.trans hj'.symm)]at hx;exact ha j o hj' hown x hx hm
theorem JS(r:R)(nxt:Nat)(v:Value)(fp:List Nat)(hI:Inv S K w0 Kn φ hf w)(hfr:∀j,nxt<=j->j<(CP nxt r).2.2->¬Kn j)(h:RR S w r v fp)(hn:fp.Nodup)(hSK:∀b∈fp,¬S b/\¬K b)(ha:vk w φ hf fp):
  ∃φ',tg S K w0 w Kn φ hf fp nxt (CP nxt r).2.2 (CP nxt r).2.1 φ'/\fz S w (po Kn nxt (CP nxt r).2.2) φ' (CP nxt r).1 v:=by
 cases r with|c t=>obtain⟨φ',h1,h2⟩:=xB t nxt v fp hI hfr h hn hSK ha;exact⟨φ',h1,.c h2⟩|agg ts=>obtain⟨aG,fps,rfl,h1,h2,rfl,h3⟩:=h;obtain⟨φ',h4,h5,h6⟩:=uB ts nxt _ fps hI hfr h2 h3 hn hSK ha;exact⟨φ',h4,.agg (h5.trans h1) h6⟩
theorem RY(r:R)(nxt:Nat):nxt<=(CP nxt r).2.2:=by cases r with|c t=>exact LX t nxt|agg ts=>exact xA ts nxt
theorem xz(nxt:Nat)(r:R)(rs:List R):iC nxt (r::rs)=((CP nxt r).1::(iC (CP nxt r).2.2 rs).1,(CP nxt r).2.1++(iC (CP nxt r).2.2 rs).2.1,(iC (CP nxt r).2.2 rs).2.2):=rfl
theorem IA:∀(rs:List R)(nxt:Nat),nxt<=(iC nxt rs).2.2:=by intro rs;induction rs with|nil=>intro nxt;exact am _|cons r rs ih=>grind [xz,bo,RY]
theorem GF:∀(rs:List R){Kn:Nat->Prop}{φ:Nat->gj}{hf:Nat->Option Ob}(nxt:Nat)(vs:List Value)(fp:List Nat),Inv S K w0 Kn φ hf w->(∀j,nxt<=j->j<(iC nxt rs).2.2->¬Kn j)->Gx S w rs vs fp->fp.Nodup->
  (∀b∈fp,¬S b/\¬K b)->vk w φ hf fp->
  ∃φ',tg S K w0 w Kn φ hf fp nxt (iC nxt rs).2.2 (iC nxt rs).2.1 φ'/\(iC nxt rs).1.length=vs.length/\
   ∀(i:Nat)(t:TV)(v:Value),(iC nxt rs).1[i]?=some t->vs[i]?=some v->fz S w (po Kn nxt (iC nxt rs).2.2) φ' t v:=by
 intro rs;induction rs with
 |nil=>intro Kn φ hf nxt vs fp hI hfr h hn hSK ha;cases vs with|cons v vs=>exact h.elim|nil=>exact⟨φ,tg.nil hI _ _,rfl,fun i t v hi=>by simp[iC]at hi⟩
 |cons r rs ih=>
  intro Kn φ hf nxt vs fp hI hfr h hn hSK ha;cases vs with
  |nil=>exact h.elim
  |cons v vs=>
   obtain⟨f1,f2,rfl,h1,h2⟩:=h;rw[da]at hn;obtain⟨hn1,hn2,hn3⟩:=hn;simp at hSK;obtain⟨φ1,hL1,hr1⟩:=JS r nxt v f1 hI (fun j hj hj2=>hfr j hj (by exact cP hj2 (IA rs _))) h1 hn1 (fun b hb=>hSK b (.inl hb)) (fun j o hj hown x hx hm=>ha j o hj hown x hx (by simp[hm]))
   obtain⟨φ2,hL2,hlen,hr2⟩:=ih (CP nxt r).2.2 vs f2 hL1.inv (fun j hj hj2 hk=>by
    rcases hk with hk|hk
    .have:=hL1.le;exact hfr j (by omega) (by exact hj2) hk
    .omega) h2 hn2 (fun b hb=>hSK b (.inr hb)) (hL1.QS hI (fun j o hj hown x hx hm=>ha j o hj hown x hx (by simp[hm])) fun x hx hx2=>hn3 x hx x hx2 rfl)
   have hcomp:=hL1.pR hL2;have hcm:bf _ hf=bf _ hf:=m9 fun p hp q hq e=>by have h1:=hL2.fP p hp;have h2:=hL1.fP q hq;omega
   have hsub:∀i,po _ (CP nxt r).2.2 (iC (CP nxt r).2.2 rs).2.2 i->po Kn nxt (iC (CP nxt r).2.2 rs).2.2 i:=fun i=>(sR hL1.le hL2.le i).1;refine⟨φ2,?_,by simp[xz,hlen],fun i t v' hi hv=>?_⟩
   .have hsw:∀{p:Nat×Option Ob}{a b:eW},p∈a++b->p∈b++a:=fun hp=>aC.2 (aC.1 hp).symm;exact⟨hcomp.le,hcomp.uN,hcm▸hcomp.inv,fun p hp=>hcomp.fP p (hsw hp),fun p hp x hx=>hcomp.cQ p (hsw hp) x (hcm.symm▸hx)⟩
   .cases i with
    |zero=>
     obtain rfl:(CP nxt r).1=t:=by simpa[xz]using hi
     obtain rfl:v=v':=by simpa using hv
     exact(hr1.mono (gy.refl _ _) hL2.uN).kn hsub
    |succ i=>exact(hr2 i t v' (by simpa) (by simpa using hv)).kn hsub
theorem Inv.put(h:Inv S K w0 Kn φ hf w){i:Nat}(hi:Kn i)(o:Ob)(hfree:cA o=true->∀j b,hf j=some b->cA b=true->j≠i->(φ i).cQ∉ij w φ hf j)
  (hro:RO S K w Kn φ (φ i) o)
  (hp:∀sz sl k x,o=.nst sz sl->tw w (φ i) sl k x->x≠(φ i).cQ/\(∀j b,hf j=some b->cA b=true->j≠i->x∉ij w φ hf j)/\∀k',tw w (φ i) sl k' x->k'=k:=by intro _ _ _ _ e;cases e):
  Inv S K w0 Kn φ (bf [(i,some o)] hf) w:=by
 have hold:∀j b,bf [(i,some o)] hf j=some b->(j=i/\b=o)\/(j≠i/\hf j=some b):=by
  intro j b hj;rw[bO]at hj;by_cases e:i=j
  .simp_all
  .rw [if_neg e,k_]at hj;exact .inr ⟨fun q=>e q.symm,hj⟩
 refine h.wu (gy.refl _ _) (Ren.refl _ _) h.uH h.sk h.oe ?_ ?_ ?_
 .intro id o' ho;rcases hold id o' ho with⟨rfl,rfl⟩|⟨_,ho'⟩
  .exact .inr ⟨hi,hro⟩
  .exact .inl ⟨ho',fun hown=>⟨rfl,((h.iI id o' ho').2.bk hown).1⟩,h.FH ho' fun _ _=>rfl⟩
 .intro a b oa ob ha hb hoa hob hne;rcases hold a oa ha with⟨e1,e2⟩|⟨n1,ha'⟩<;>rcases hold b ob hb with⟨e3,e4⟩|⟨n2,hb'⟩
  .exact absurd (e1.trans e3.symm) hne
  .grind [dF]
  .grind [dF]
  .exact h.ph a b oa ob ha' hb' hoa hob hne
 .intro a sz sl k x ha hpa;rcases hold a _ ha with⟨ea,eo⟩|⟨na,ha'⟩
  .rw [ea]at hpa;obtain⟨p1,p2,p3⟩:=hp sz sl k x eo.symm hpa;refine⟨fun j b hj hown=>?_,fun j sz' sl' k' hj hpj=>?_⟩
   .grind [dF]
   .rcases hold j _ hj with⟨ej,eo2⟩|⟨nj,hj'⟩
    .grind
    .exact absurd (dF.2 (.inr ⟨sz',sl',k',hj',hpj⟩)) (p2 j _ hj' rfl nj)
  .obtain ⟨p1,p2⟩:=h.yB a sz sl k x ha' hpa;refine⟨fun j b hj hown=>?_,fun j sz' sl' k' hj hpj=>?_⟩
   .rcases hold j b hj with⟨ej,eo⟩|⟨_,hj'⟩
    .rw [ej];exact fun e=>hfree (eo▸hown) a _ ha' rfl na (dF.2 (.inr ⟨sz,sl,k,ha',e▸hpa⟩))
    .exact p1 j b hj' hown
   .rcases hold j _ hj with⟨ej,eo⟩|⟨_,hj'⟩
    .rw [ej]at hpj;exact absurd (dF.2 (.inr ⟨sz,sl,k,ha',hpa⟩)) ((hp sz' sl' k' x eo.symm hpj).2.1 a _ ha' rfl na)
    .exact p2 j sz' sl' k' hj' hpj
structure Vv(S K:Nat->Prop)(w0 w:World)(Kn:Nat->Prop)(φ:Nat->gj)(hf:Nat->Option Ob)(fp:List Nat)(owns:List Nat)(nxt m:Nat)(u:eW)(φ':Nat->gj):Prop where
 le:nxt<=m
 uN:Ren Kn φ (po Kn nxt m) φ'
 inv:Inv S K w0 (po Kn nxt m) φ' (bf u hf) w
 Dr:∀p∈u,p.1∈owns\/(nxt<=p.1/\p.1<m)
 VC:∀i∈owns,(bV u i).isSome=true
 cQ:∀i o,bf u hf i=some o->cA o=true->(i∈owns\/(nxt<=i/\i<m))->∀x∈ij w φ' (bf u hf) i,x∈fp
def kP(l:List (C×List Nat×List Nat)):List Nat:=l.flatMap (·.2.1)
theorem rS(bk:List Nat)(j:Nat):bV (bk.map fun i=>((i,none):Nat×Option Ob)) j=if j∈bk then some none else none:=by induction bk with|nil=>rfl|cons a l ih=>grind [bV]
theorem RC.Sv{id off:Nat}{v:Value}(h:RC S w Kn φ (.op id off) v):v=.pointer (some ⟨(φ id).cQ,(φ id).aL+off,none⟩)/\Kn id:=by cases h with|op hk=>exact⟨rfl,hk⟩
theorem pn.LW{w:World}{b:Nat}{a a':Array Value}(h:pn w b a)(h':pn w b a'):a=a':=by obtain⟨t,h⟩:=h;obtain⟨t',h'⟩:=h';rw[h]at h';simp at h';exact h'.1
theorem sU{α:Type}{u:List (Nat×α)}{id:Nat}{x:α}(h:bV u id=some x):∃p∈u,p.1=id:=by
 induction u with
 |nil=>simp[bV]at h
 |cons p r ih=>
  obtain⟨i,y⟩:=p;by_cases e:i=id
  .exact ⟨(i,y),by simp,e⟩
  .have e2:(i==id)=false:=by simpa using e
   simp_all[bV]
theorem Cs:∀(l:List (C×List Nat×List Nat))(outs:List T)(nxt:Nat)(bu:eW)(m:Nat),dC nxt l outs=some (bu,m)->nxt<=m:=by
 intro l;induction l with
 |nil=>
  intro outs nxt bu m h;cases outs with
  |nil=>obtain⟨_,rfl⟩:[]=bu/\nxt=m:=by simpa[dC]using h
        exact am _
  |cons t ts=>simp[dC]at h
 |cons p l ih=>
  intro outs nxt bu m h;cases outs with
  |nil=>unfold dC at h;simp at h
  |cons t outs=>
   unfold dC at h;split at h
   .simp at*
   .grind
   .rename_i heq1 heq2;obtain⟨_,rfl⟩:=heq1;split at h
    .rename_i w2 k hrec;split at h
     .obtain ⟨_,rfl⟩:=af (aa h);exact bo (xA _ _) (ih _ _ _ _ hrec)
     .simp at h
    .simp at h
   .grind
   .grind
   .grind
   .simp at h
theorem FC{H0:bp}{S0 K0:Nat->Prop}{wp wz:World}{Kn0:Nat->Prop}{φ0:Nat->gj}(hI0:Inv S0 K0 wz Kn0 φ0 (au H0) wp){id len:Nat}
  (hw:(match au H0 id with|some (.aG _ rows)=>(0==0)&&len==rows.length|some (.nst _ slots)=>(0==0)&&len==slots.length|_=>false)=true):
  ∃aG,pn wp (φ0 id).cQ aG/\aG.size=(φ0 id).ext/\(φ0 id).aL+len*(φ0 id).sz<=(φ0 id).ext/\len<=(φ0 id).cap:=by
 split at hw
 .rename_i sz rows ho;obtain⟨_,h0⟩:=hI0.iI _ _ ho;cases h0 with|aG hsz hl hS hK hown hext hfit hr hv=>grind
 .rename_i sz slots ho;obtain⟨_,h0⟩:=hI0.iI _ _ ho;cases h0 with|nst hsz hl hS hK hown hext hfit hr hv=>grind
 .cases hw
theorem Iq{H0:bp}{S0:Nat->Prop}{wp:World}{Kn0:Nat->Prop}{φ0:Nat->gj}{K0:Nat->Prop}{wz:World}(hI0:Inv S0 K0 wz Kn0 φ0 (au H0) wp)(hgrow:∀b aG,pn wp b aG->∃arr',pn w b arr'/\arr'.size=aG.size):
  ∀(l:List (C×List Nat×List Nat))(vs:List Value)(outs:List T)(fp:List Nat){Kn:Nat->Prop}{φ:Nat->gj}{hf:Nat->Option Ob}(nxt:Nat)(bu:eW)(m:Nat),
  Iw Kn0 φ0 S0 wp l vs->dY H0 l=true->OY S w outs vs fp->Inv S K w0 Kn φ hf w->(∀j,nxt<=j->j<m->¬Kn j)->Ren Kn0 φ0 Kn φ->fp.Nodup->(∀b∈fp,¬S b/\¬K b)->vk w φ hf fp->
  (∀i∈kP l,hf i=none/\Kn0 i)->(kP l).Nodup->dC nxt l outs=some (bu,m)->∃φ',Vv S K w0 w Kn φ hf fp (kP l) nxt m bu φ':=by
 intro l;induction l with
 |nil=>
  intro vs outs fp Kn φ hf nxt bu m hl hw hr hI hfr hren hn hSK ha hown hon h;cases hl;cases outs with
  |cons t ts=>exact hr.elim
  |nil=>
   obtain⟨rfl,rfl⟩:[]=bu/\nxt=m:=by simpa[dC]using h
   exact⟨φ,am _,qM _ _,hI.kn fun _ hi=>.inl hi,fun p hp=>by simp at hp,fun i hi=>by simp[kP]at hi,fun i o _ _ hx=>by
    grind [kP]⟩
 |cons p l ih=>
  obtain⟨c,bk,rd⟩:=p;intro vs outs fp Kn φ hf nxt bu m hl hw hr hI hfr hren hn hSK ha hown hon h;cases hl with
  |@cons _ _ _ _ v vs hc hl=>
  cases outs with
  |nil=>exact hr.elim
  |cons t outs=>
   obtain⟨f1,f2,rfl,hr1,hr2⟩:=hr;rw[da]at hn;obtain⟨hn1,hn2,hn3⟩:=hn;simp only[aC]at hSK;have ha1:vk w φ hf f1:=fun j o hj hown x hx hm=>ha j o hj hown x hx (by simp[hm]);have ha2:vk w φ hf f2:=fun j o hj hown x hx hm=>ha j o hj hown x hx (by simp[hm]);have ho1:∀i∈bk,hf i=none/\Kn0 i:=fun i hi=>hown i (by simp[kP,hi]);have ho2:∀i∈kP l,hf i=none/\Kn0 i:=fun i hi=>hown i (by grind [kP]);have hoc:kP ((c,bk,rd)::l)=bk++kP l:=rfl;rw[hoc,da]at hon;obtain⟨hon1,hon2,hon3⟩:=hon;have hw2:dY H0 l=true:=by cases c<;>simp only[dY,ak]at hw<;>first|exact hw|exact hw.2
   have qU:∀(id:Nat)(ob:Ob)(w2:eW)(k:Nat),bk=[id]->(bu,m)=((id,some ob)::w2,k)->dC nxt l outs=some (w2,k)->Inv S K w0 Kn φ (bf [(id,some ob)] hf) w->(∀x∈ij w φ (bf [(id,some ob)] hf) id,x∈f1)->
     ∃φ',Vv S K w0 w Kn φ hf (f1++f2) (kP ((c,bk,rd)::l)) nxt m bu φ':=by
    intro id ob w2 k hownid hbm hrec hput hblk;subst hownid;obtain⟨rfl,rfl⟩:=af hbm;obtain⟨hidn,hidk0⟩:=ho1 id (by simp);have hidk:=hren.sub id hidk0;have hφ:=hren.dH id hidk0;have hidlt:¬(nxt<=id/\id<m):=fun h=>hfr id h.1 h.2 hidk
    obtain⟨φ2,hB⟩:=ih vs outs f2 nxt w2 m hl hw2 hr2 hput hfr hren hn2 (fun b hb=>hSK b (.inr hb))
     (fun j o hj hown x hx hm=>by
      have hj':=hj;rw[bO]at hj';split at hj'
      .grind
      .rw [gp rfl (hj.trans hj'.symm)]at hx;exact ha2 j o hj' hown x hx hm)
     (fun i hi=>by obtain⟨h1,h2⟩:=ho2 i hi;refine⟨?_,h2⟩;have hne:¬id=i:=fun e=>hon3 id (by simp) i hi e;rw[bO,if_neg hne];exact h1) hon2 hrec
    have hkeys:=hB.Dr;have hm2:=hB.le
    have hdis:∀q∈w2,id≠q.1:=fun q hq e=>by
     grind
    have heq:bf ((id,some ob)::w2) hf=bf w2 (bf [(id,some ob)] hf):=by
     rw[<-dp]
     grind [m9,aq]
    refine⟨φ2,hB.le,hB.uN,heq▸hB.inv,fun p hp=>?_,fun i hi=>?_,fun i o hio hownio hi=>?_⟩
    .rw [hoc];rcases aW.1 hp with rfl|hp
     .exact .inl (by simp)
     .rcases hkeys p hp with h|h
      .exact .inl (by simp[h])
      .exact .inr h
    .rw [hoc]at hi;simp only[bV];by_cases e:id=i
     .simp [e]
     .have e':(id==i)=false:=by simpa using e
      simp only[e',cond_false];rcases aC.1 hi with hi|hi
      .grind
      .exact hB.VC i hi
    .rw [heq]at hio|-;intro x hx;by_cases hrest:i∈kP l\/(nxt<=i/\i<m)
     .exact aX _ (hB.cQ i o hio hownio hrest x hx)
     .have hi2:i=id:=by
       grind
      subst hi2;have hwn:bV w2 i=none:=lM fun q hq e=>hdis q hq e.symm
      have hwi:bf w2 (bf [(i,some ob)] hf) i=bf [(i,some ob)] hf i:=by
       conv=>lhs;unfold bf
       rw[hwn];rfl
      rw[gp (hB.uN.dH i hidk) hwi]at hx
      grind
   unfold dC at h;split at h
   .simp at*
   .--nothing was owned
    rename_i heq1 heq2;simp only[mR,iL]at heq1 heq2;obtain⟨⟨rfl,rfl,rfl⟩,rfl⟩:=heq1;obtain⟨rfl,rfl⟩:=heq2;have hr1:=hr1.resolve_left fun h=>by cases h.1
    have e0:f1=[]:=by cases hr1;rfl
    subst e0;obtain⟨φ',hB⟩:=ih vs outs f2 nxt bu m hl hw2 hr2 hI hfr hren hn2 (fun b hb=>hSK b (.inr hb)) ha2 ho2 hon2 h
    grind
   .--a box
    rename_i id own' rd' r ts' ts heq1 heq2;simp only[mR,iL]at heq1 heq2;obtain⟨⟨rfl,rfl,rfl⟩,rfl⟩:=heq1;obtain⟨rfl,rfl⟩:=heq2;split at h
    .rename_i w2 k hrec;split at h
     .rename_i hcon;obtain⟨rfl,rfl⟩:(id,some (Ob.box (iH nxt ts').1))::(iH nxt ts').2.1++bk.map (fun i=>((i,none):Nat×Option Ob))++w2=bu/\k=m:=by simpa using h
      have hid:id∈bk:=by simpa using hcon
      obtain⟨hidn,hidk0⟩:=ho1 id hid;have hidk:=hren.sub id hidk0;have hφ:=hren.dH id hidk0;obtain⟨hv,_⟩:=hc.Sv;have hr1:=hr1.resolve_left fun h=>by cases h.1
      cases hr1 with
      |@pt _ b aG fps hown0 hlen hfl hrec2=>
      simp only[Value.pointer.injEq,eY,Addr.mk.injEq]at hv;obtain⟨hb,hbase,_⟩:=hv;rw[<-hφ]at hb hbase;have hbase0:(φ id).aL=0:=by omega
      rw[il]at hn1;have hmk:=Cs _ _ _ _ _ hrec;have hidlt:¬(nxt<=id/\id<k):=fun h=>hfr id h.1 h.2 hidk
      obtain⟨φ1,hL,hcl,hcr⟩:=uB ts' nxt (fun i=>aG.getD i undef) fps hI (fun j hj hj2=>hfr j hj (by omega)) hfl hrec2 hn1.2 (fun b' hb'=>hSK b' (.inl (aI _ hb')))
       (fun j o hj hown x hx hm=>ha1 j o hj hown x hx (aI _ hm))
      have hm1:=hL.le;have hφ1:φ1 id=φ id:=hL.uN.dH id hidk;have hul:bV (iH nxt ts').2.1 id=none:=lM fun p hp e=>by have:=hL.fP p hp;omega
      have hdead:bf (iH nxt ts').2.1 hf id=none:=by simp only[bf,hul,hidn]
      have hawb:vk w φ1 (bf (iH nxt ts').2.1 hf) [b]:=hL.QS hI (fun j o hj hown x hx hm=>ha1 j o hj hown x hx (by rw[aq.1 hm];simp)) fun x hx hx2=>hn1.1 (by rw[<-aq.1 hx2];exact hx)
      have hput:=hL.inv.put (i:=id) (.inl hidk) (.box (iH nxt ts').1) (fun _ j o hj hown hne hm=>by rw[hφ1,<-hb]at hm;exact hawb j o hj hown b hm (by simp))
       (.box (by rw[hφ1];exact hbase0) (by rw[hφ1,<-hb];exact(hSK b (.inl (by simp))).1) (by rw[hφ1,<-hb];exact(hSK b (.inl (by simp))).2) (by rw[hφ1,<-hb];exact hown0) (hcl.trans hlen) hcr)
      have hav2:vk w φ1 (bf (iH nxt ts').2.1 hf) f2:=hL.QS hI ha2 fun x hx hx2=>hn3 x (aI _ hx) x hx2 rfl;have hult:∀i,¬(nxt<=i/\i<k)->bV (iH nxt ts').2.1 i=none:=fun i hi=>lM fun p hp e=>by have:=hL.fP p hp;omega
      have hownlt:∀i,Kn0 i->¬(nxt<=i/\i<k):=fun i hi h=>hfr i h.1 h.2 (hren.sub i hi);rw[<-dp]at hput
      obtain⟨φ2,hB⟩:=ih vs outs f2 (iH nxt ts').2.2 w2 k hl hw2 hr2 hput (fun j hj hj2 hk=>by
        rcases hk with hk|hk
        .exact hfr j (by omega) hj2 hk
        .omega) ⟨fun i hi=>.inl (hren.sub i hi),fun i hi=>(hL.uN.dH i (hren.sub i hi)).trans (hren.dH i hi)⟩ hn2 (fun b hb=>hSK b (.inr hb))
       (fun j o hj hown x hx hm=>by
        have hj':=hj;rw[a_,bO]at hj';split at hj'
        .rename_i e;subst e;rw[nV (fun _ _ e=>by grind),hφ1,<-hb]at hx;rw[aq.1 hx]at hm;exact hn3 b (by simp) b hm rfl
        .rw [gp rfl (hj.trans hj'.symm)]at hx;exact hav2 j o hj' hown x hx hm)
       (fun i hi=>by obtain⟨h1,h2⟩:=ho2 i hi;refine⟨?_,h2⟩;have hne:¬id=i:=fun e=>hon3 id hid i hi e;rw[a_,bO,if_neg hne];simp only[bf,hult i (hownlt i h2),h1]) hon2 hrec
      have hkeys:=hB.Dr;have hm2:=hB.le
      have hdis:∀j x,bV w2 j=some x->j≠id/\j∉bk/\bV (iH nxt ts').2.1 j=none:=by
       intro j x hx;obtain⟨p,hp,rfl⟩:=sU hx;rcases hkeys p hp with h|h
       .exact ⟨fun e=>hon3 id hid p.1 h e.symm,fun e=>hon3 p.1 e p.1 h rfl,hult _ (hownlt _ (ho2 _ h).2)⟩
       .refine ⟨fun e=>by omega,fun e=>by have:=hownlt _ (ho1 _ e).2;omega,lM fun q hq e=>?_⟩;have:=hL.fP q hq;omega
      have heq:bf ((id,some (Ob.box (iH nxt ts').1))::(iH nxt ts').2.1++bk.map (fun i=>((i,none):Nat×Option Ob))++w2) hf=bf w2 (bf ([(id,some (Ob.box (iH nxt ts').1))]++(iH nxt ts').2.1) hf):=by
       have hno:bf (bk.map (fun i=>((i,none):Nat×Option Ob))) (bf w2 hf)=bf w2 hf:=by
        funext j
        conv=>lhs;unfold bf
        rw[rS];by_cases hjo:j∈bk
        .rw [if_pos hjo];have hwj:bV w2 j=none:=by cases hx:bV w2 j with|none=>rfl|some x=>exact absurd hjo (hdis j x hx).2.1
         simp only[bf,hwj,(ho1 j hjo).1]
        .rw [if_neg hjo];rfl
       rw[dp,dp,hno,<-dp,<-dp];refine m9 fun p hp q hq e=>?_;rcases hkeys q hq with h|h
       .rcases aW.1 hp with rfl|hp
        .exact hon3 id hid q.1 h e
        .have:=hL.fP p hp;have:=hownlt _ (ho2 _ h).2;omega
       .rcases aW.1 hp with rfl|hp
        .simp only at e;omega
        .have:=hL.fP p hp;omega
      refine⟨φ2,by omega,⟨fun i h=>.inl h,fun i h=>(hB.uN.dH i (.inl h)).trans (hL.uN.dH i h)⟩,?_,fun p hp=>?_,fun i hi=>?_,fun i o hio hownio hi=>?_⟩
      .rw [heq];exact hB.inv.wV fun i=>sR hm1 hm2 i
      .rw [hoc];simp only[bI,aM,aW,aC,br]at hp;rcases hp with rfl|hp|⟨i,hi,rfl⟩|hp
       .exact .inl (by simp[hid])
       .have:=hL.fP p hp;exact .inr (by omega)
       .exact .inl (by simp[hi])
       .rcases hkeys p hp with h|h
        .exact .inl (by simp[h])
        .exact .inr (by omega)
      .rw [hoc]at hi;simp only[bI,aM,bV,gN,rS];rcases aC.1 hi with hi|hi
       .by_cases e:id=i
        .simp [e]
        .have e':(id==i)=false:=by simpa using e
         simp only[e',cond_false,if_pos hi];cases bV (iH nxt ts').2.1 i<;>rfl
       .have hs:=hB.VC i hi;obtain⟨x,hx⟩:=eM.1 hs;obtain⟨h1,h2,h3⟩:=hdis i x hx;have e':(id==i)=false:=by simpa using fun e=>h1 e.symm
        simp only[e',cond_false,h3,if_neg h2,hx,Option.isSome_some]
      .rw [heq]at hio|-;intro x hx;by_cases hrest:i∈kP l\/((iH nxt ts').2.2<=i/\i<k)
       .exact aX _ (hB.cQ i o hio hownio hrest x hx)
       .refine aU _ ?_
        have hw2n:bV w2 i=none:=lM fun q hq e=>by
         grind
        have hi2:i∈bk\/(nxt<=i/\i<(iH nxt ts').2.2):=by
         grind
        have hkn:po Kn nxt (iH nxt ts').2.2 i:=by
         rcases hi2 with h|h
         .exact .inl (hren.sub i (ho1 i h).2)
         .exact .inr h
        have hwi:bf w2 (bf ([(id,some (Ob.box (iH nxt ts').1))]++(iH nxt ts').2.1) hf) i=bf ([(id,some (Ob.box (iH nxt ts').1))]++(iH nxt ts').2.1) hf i:=by
         conv=>lhs;unfold bf
         rw[hw2n];rfl
        rw[gp (hB.uN.dH i hkn) hwi]at hx;by_cases e:id=i
        .subst e;rw[nV (fun _ _ e=>by rw[a_,bO,if_pos rfl]at e;cases e),hφ1,<-hb]at hx;rw[aq.1 hx];simp
        .rcases hi2 with h|h
         .exfalso
          have h1:bf w2 (bf ([(id,some (Ob.box (iH nxt ts').1))]++(iH nxt ts').2.1) hf) i=hf i:=by
           simp only[bf,hw2n,a_,bV];have e':(id==i)=false:=by simpa using e
           simp only[e',cond_false,hult i (hownlt i (ho1 i h).2)]
          rw[h1,(ho1 i h).1]at hio;simp at hio
         .have e':(id==i)=false:=by simpa using e
          cases hfu:bV (iH nxt ts').2.1 i with
          |none=>
           exfalso;have h1:bf w2 (bf ([(id,some (Ob.box (iH nxt ts').1))]++(iH nxt ts').2.1) hf) i=hf i:=by simp only[bf,hw2n,a_,bV,e',cond_false,hfu]
           rw[h1]at hio;exact hfr i h.1 (by omega) (hI.iI i o hio).1
          |some x'=>
           obtain⟨p,hp,rfl⟩:=sU hfu;have hwp:bf ([(id,some (Ob.box (iH nxt ts').1))]++(iH nxt ts').2.1) hf p.1=bf (iH nxt ts').2.1 hf p.1:=by rw[a_,bO,if_neg e]
           rw[gp rfl hwp]at hx;exact aI _ (hL.cQ p hp x hx)
     .simp at h
    .simp at h
   .--an array
    rename_i sz id len own' rd' r sz' rows ts heq1 heq2;simp only[mR,iL]at heq1 heq2;obtain⟨⟨rfl,rfl,rfl⟩,rfl⟩:=heq1;obtain⟨rfl,rfl⟩:=heq2;split at h
    .rename_i hcond;obtain⟨hrl,hszz,hownid⟩:=hcond;subst hownid;split at h
     .rename_i w2 k hrec;obtain⟨rfl,rfl⟩:(id,some (Ob.aG sz rows))::w2=bu/\k=m:=by simpa using h
      obtain⟨hidn,hidk0⟩:=ho1 id (by simp);have hφ:=hren.dH id hidk0;obtain⟨cap,addr,hv,hszl,hk0,hcap,haddr,hextc,hcl⟩:=hc.kp;have hr1:=hr1.resolve_left fun h=>by cases h.1
      cases hr1 with
      |@sl _ _ b off len1 cap1 aG hsz0 hown0 hlen1 hcap1 hext1 hrr=>
      simp only[Value.slice.injEq,eY,Addr.mk.injEq]at hv;obtain⟨⟨hb,hoff,_⟩,hlen2,hcap2⟩:=hv;subst hszz;simp only[dY,ak]at hw;obtain⟨arr0,hown1,hext0,hfit0,hv0⟩:=FC hI0 hw.1;obtain⟨arr1,hown2,hsize2⟩:=hgrow _ _ hown1;rw[hb]at hown0;obtain rfl:=hown0.LW hown2;have hb1:=hSK (φ0 id).cQ (.inl (by simp[hb]))
      refine qU id (.aG sz' rows) w2 k rfl rfl hrec (hI.put (i:=id) (hren.sub id hidk0) (.aG sz' rows) (fun _ j o hj hown hne hm=>by rw[hφ,<-hb]at hm;exact ha1 j o hj hown b hm (by simp))
       (.aG hsz0 (by rw[hφ];exact hszl) (by rw[hφ];exact hb1.1) (by rw[hφ];exact hb1.2) (by rw[hφ];exact hown2) (by rw[hφ,<-hext0];exact hsize2)
        (by rw[hφ,hrl,<-hszl];exact hfit0) (by
         rw[hφ];cases rows with
         |nil=>exact⟨fun i r hi=>by simp at hi,fun i r hi=>by simp at hi⟩
         |cons q rows=>
          have:off=(φ0 id).aL:=by rw[hoff,haddr (by simp only[List.length_cons]at hrl;omega)];simp
          rw[<-this];exact hrr) (by rw[hφ,hrl];exact hv0))) fun x hx=>?_
      rw[nV (fun _ _ e=>by rw[bO,if_pos rfl]at e;cases e),hφ,<-hb]at hx;exact hx
     .simp at h
    .simp at h
   .--a bv of rows
    rename_i sz id len own' rd' r szi rows ts heq1 heq2;simp only[mR,iL]at heq1 heq2;obtain⟨⟨rfl,rfl,rfl⟩,rfl⟩:=heq1;obtain⟨rfl,rfl⟩:=heq2;split at h
    .rename_i hcond;obtain⟨hrl,hszz,hownid⟩:=hcond;subst hownid;split at h
     .rename_i w2 k hrec;obtain⟨rfl,rfl⟩:(id,some (Ob.nst szi (rows.map ny)))::w2=bu/\k=m:=by simpa using h
      obtain⟨hidn,hidk0⟩:=ho1 id (by simp);have hφ:=hren.dH id hidk0;obtain⟨cap,addr,hv,hszl,hk0,hcap,haddr,hextc,hcl⟩:=hc.kp;have hr1:=hr1.resolve_left fun h=>by cases h.1
      cases hr1 with
      |@Bh _ _ b off cap1 aG fps hsz0 hown0 hcap1 hext1 hfl hrr=>
      simp only[Value.slice.injEq,eY,Addr.mk.injEq]at hv;obtain⟨⟨hb,hoff,_⟩,hlen2,hcap2⟩:=hv;subst hszz;simp only[dY,ak]at hw;obtain⟨arr0,hown1,hext0,hfit0,hv0⟩:=FC hI0 hw.1;obtain⟨arr1,hown2,hsize2⟩:=hgrow _ _ hown1;rw[hb]at hown0;obtain rfl:=hown0.LW hown2;rw[il]at hn1;have hb1:=hSK b (.inl (by simp));have hbase:∀i,i<rows.length->off+i=(φ0 id).aL+i:=fun i hi=>by rw[hoff,haddr (by omega)];simp
      have hget:∀i,w.cell? ⟨(φ id).cQ,i,none⟩=aG[i]?:=by rw[hφ];exact hown2.cell
      have hpat:∀k x,tw w (φ id) (rows.map ny) k x->∃fp,fps[k]?=some fp/\fp=[x]:=by
       rintro k x ⟨rs,v,h1,h2,h3⟩;rw[aN]at h1;obtain⟨r,hr1,hr2⟩:=aH.1 h1;have hlt:=(aB.1 hr1).1;have hf:fps[k]?=some fps[k]:=ao (by omega);obtain⟨v',q1,q2⟩:=hrr k r fps[k] hr1 hf;rw[hget,hφ,<-hbase k hlt,q1]at h2;obtain rfl:=aa h2;cases r with
       |none=>cases hr2
       |some rows'=>
        obtain⟨b',q3,q4⟩:=q2;rw[q4.cQ]at h3
        grind
      have hmem:∀k x,tw w (φ id) (rows.map ny) k x->x∈fps.flatten:=fun k x hp=>by obtain⟨fp,h1,rfl⟩:=hpat k x hp;exact dP.2 ⟨[x],aF h1,by simp⟩
      have hbl:(φ id).cQ=b:=by rw[hφ,<-hb]
      rw[hszl,Nat.mul_one]at hfit0
      refine qU id (.nst szi (rows.map ny)) w2 k rfl rfl hrec (hI.put (i:=id) (hren.sub id hidk0) (.nst szi (rows.map ny)) (fun _ j o hj hown hne hm=>by rw[hbl]at hm;exact ha1 j o hj hown b hm (by simp))
       (.nst hsz0 (by rw[hφ];exact hszl) (by rw[hbl];exact hb1.1) (by rw[hbl];exact hb1.2) (by rw[hφ];exact hown2) (by rw[hφ,<-hext0];exact hsize2)
        (by rw[hφ,aD,hrl];exact hfit0) (fun i s hi=>by
         rw[aN]at hi;obtain⟨r,hr1,rfl⟩:=aH.1 hi;have hlt:=(aB.1 hr1).1;have hf:fps[i]?=some fps[i]:=ao (by omega);obtain⟨v,q1,q2⟩:=hrr i r fps[i] hr1 hf;refine⟨v,by rw[hφ,<-hbase i hlt];exact q1,?_⟩;cases r with
         |none=>obtain⟨rfl,_⟩:=q2;exact .nil
         |some rows'=>obtain⟨b',q3,q4⟩:=q2;have hm:b'∈fps.flatten:=dP.2 ⟨fps[i],eN _,by rw[q3];simp⟩;exact .bk q4 (hSK b' (.inl (aI _ hm))).1 (hSK b' (.inl (aI _ hm))).2) (by rw[hφ,aD,hrl];exact hv0))
       fun sz' sl' k x eo hp=>by cases eo;have hm:=hmem k x hp;refine⟨fun e=>hn1.1 (by rw[<-hbl,<-e];exact hm),fun j o hj hown hne hx=>ha1 j o hj hown x hx (aI _ hm),fun k' hp'=>?_⟩;obtain⟨fp,h1,rfl⟩:=hpat k x hp;obtain⟨fp',h2,rfl⟩:=hpat k' x hp';exact FU hn1.2 h2 h1) fun x hx=>?_
      rcases dF.1 hx with rfl|⟨sz',sl',k',h1,h2⟩
      .rw [hbl];simp
      .rw [bO,if_pos rfl]at h1
       grind
     .simp at h
    .simp at h
   .--it is tF
    rename_i heq1 heq2;simp only[mR,iL]at heq1 heq2;obtain⟨⟨rfl,rfl,rfl⟩,rfl⟩:=heq1;obtain⟨rfl,rfl⟩:=heq2;split at h
    .rename_i w2 k hrec;obtain⟨rfl,rfl⟩:bk.map (fun i=>((i,none):Nat×Option Ob))++w2=bu/\k=m:=by simpa using h
     have e0:f1=[]:=by
      rcases hr1 with h|h
      .exact h.2
      .cases h
     subst e0;obtain⟨φ',hB⟩:=ih vs outs f2 nxt w2 k hl hw2 hr2 hI hfr hren hn2 (fun b hb=>hSK b (.inr hb)) ha2 ho2 hon2 hrec;have hmk:=hB.le;have hkeys:=hB.Dr
     have hwn:∀j∈bk,bV w2 j=none:=fun j hj=>by
      cases hx:bV w2 j with
      |none=>rfl
      |some x=>
       obtain⟨p,hp,rfl⟩:=sU hx;rcases hkeys p hp with h|h
       .exact absurd rfl (hon3 p.1 hj p.1 h)
       .exact absurd (hren.sub _ (ho1 _ hj).2) (hfr p.1 h.1 h.2)
     have heq:bf (bk.map (fun i=>((i,none):Nat×Option Ob))++w2) hf=bf w2 hf:=by
      rw[dp];funext j
      conv=>lhs;unfold bf
      rw[rS];by_cases hjo:j∈bk
      .rw [if_pos hjo];simp only[bf,hwn j hjo,(ho1 j hjo).1]
      .rw [if_neg hjo];rfl
     refine⟨φ',hB.le,hB.uN,heq▸hB.inv,fun p hp=>?_,fun i hi=>?_,fun i o hio hownio hi=>?_⟩
     .rw [hoc];rcases aC.1 hp with hp|hp
      .obtain ⟨j,hj,rfl⟩:=br.1 hp;exact .inl (aU _ hj)
      grind [aX]
     .rw [hoc]at hi;rw[gN,rS];by_cases hjo:i∈bk
      .rw [if_pos hjo];rfl
      .rw [if_neg hjo];exact hB.VC i ((aC.1 hi).resolve_left hjo)
     .rw [heq]at hio|-;refine hB.cQ i o hio hownio (hi.imp (fun h=>?_) id);rw[hoc]at h;refine(aC.1 h).resolve_left fun hjo=>?_;simp only[bf,hwn i hjo,(ho1 i hjo).1]at hio;cases hio
    .simp at h
   .simp at h
end
section
variable{P:Program}{S K:Nat->Prop}{w0 w:World}{Kn:Nat->Prop}{φ:Nat->gj}{H:bp}{ρ:Operand->Value}{o:Oper}{call:Call}
 {nxt n':Nat} {v:TV} {u:eW} {av:List Nat}
theorem tG.vw{T:Nat->Prop}{x:TV}{cs:List C}{ds:List D}{val:Value}(hr:fz S w Kn φ x val)(hc:cellsOf x=some cs)(hl:ds.length=cs.length)
  (hd:∀(i:Nat)(d:D),ds[i]?=some d->∃v,val.cells.toList[i]?=some v/\RD T w d v):tG T w (qR x) ds val:=by
 cases hr with
 |@c x v h=>
  obtain rfl:[x]=cs:=by simpa[cellsOf]using hc
  have e:=sZ h.one
  match ds,hl,hd with
  |[d],_,hd=>
   obtain⟨v',h1,h2⟩:=hd 0 d rfl;rw[e]at h1;obtain rfl:val=v':=by simpa using h1
   exact⟨d,rfl,h2⟩
 |@agg cs' aG hlen h=>
  obtain rfl:cs'=cs:=by simpa[cellsOf]using hc
  refine⟨aG,rfl,hl.trans hlen,fun i x hi=>?_⟩;obtain⟨v',h1,h2⟩:=hd i x hi;have h1:aG.toList[i]?=some v':=h1;simp_all
 |gX=>simp[cellsOf]at hc
theorem pp.put{ka va:Bool}{es:List r_}{ms:Array MapEntry}(hE:pp S w ka va es ms.toList){i:Nat}(hi:i<es.length){ds:List D}{kv x:Value}(hk:DV ka (es.getD i default).1 kv)(hx:tG S w va ds x):
  pp S w ka va (es.set i ((es.getD i default).1,ds,(es.getD i default).2.2)) (ms.modify i (fun e=>{e with key:=kv,val:=x})).toList:=by
 obtain⟨e0,e1,e3,e4⟩:=hE.gU (by rw[<-hE.1];exact hi);refine⟨by simp[hE.1],fun j e m hj hm=>?_⟩;have hm':(ms.modify i (fun e=>{e with key:=kv,val:=x}))[j]?=some m:=by grind
 rw[Array.getElem?_modify]at hm';rw[List.getElem?_set]at hj;by_cases hij:i=j
 .grind
 .rw [if_neg hij]at hm' hj;exact hE.2 j e m hj (by simpa using hm')
theorem pp.push{ka va:Bool}{es:List r_}{ms:Array MapEntry}(hE:pp S w ka va es ms.toList){key:List Value}{ds:List D}{kv x:Value}{bE:Nat}(hk:DV ka key kv)(hx:tG S w va ds x):
  pp S w ka va (es++[(key,ds,bE)]) (ms.push {key:=kv,val:=x,born:=bE}).toList:=by
 refine⟨by simp[hE.1],fun i e m hi hm=>?_⟩;rw[Array.toList_push]at hm;rcases Nat.lt_or_ge i es.length with hlt|hge
 .rw [bG hlt]at hi;rw[bG (by rw[<-hE.1];exact hlt)]at hm;exact hE.2 i e m hi hm
 .rw [ck (by rw[<-hE.1];exact hge)]at hm
  grind
theorem pp.pw{ka va:Bool}{es:List r_}{ms:Array MapEntry}(hE:pp S w ka va es ms.toList)(i:Nat):pp S w ka va (es.eraseIdx i) (ms.eraseIdxIfInBounds i).toList:=by
 have e:(ms.eraseIdxIfInBounds i).toList=ms.toList.eraseIdx i:=by simp_all
 rw[e];refine⟨by simp[List.length_eraseIdx,hE.1],fun j x m hj hm=>?_⟩;rw[List.getElem?_eraseIdx]at hj hm;split at hj
 .rename_i h;rw[if_pos h]at hm;exact hE.2 j x m hj hm
 .rename_i h;rw[if_neg h]at hm;exact hE.2 _ x m hj hm
theorem Kz{t kt et:TypeId}{ka va:Bool}{ks:List Kd}{z:List Value}{n:Nat}{m ix x:Operand}(ho:o.op=.mapUpdate t m ix x)(hu:P.underlying t=some (.map kt et))
  (hm:rM P kt et=some (ka,ks,va,z)) (hI:Inv S K w0 Kn φ (au H) w) {tm tk tx:Option TV} (hx:∀y,tm=some y->fz S w Kn φ y (ρ m)) (hy:∀y,tk=some y->fz S w Kn φ y (ρ ix))
  (hz:∀y,tx=some y->fz S w Kn φ y (ρ x)) (h:ci call (.uc ka ks va n) [tm,tk,tx] H nxt=some (v,u,av,n')):cX P o ρ S K w0 w Kn φ (au H) nxt n' v u:=by
 match tm,tk,tx,h,hx,hy,hz with
 |some (.c mc),some k,some xv,h,hx,hy,hz=>
  change (match sX ka ks va n mc k xv H with|some (u,av)=>some (TV.gX [],u,av,nxt)|none=>none)=_ at h;split at h
  .rename_i u1 ids1 hl;obtain⟨rfl,rfl,rfl,rfl⟩:TV.gX []=v/\u1=u/\ids1=av/\nxt=n':=by simpa using h
   simp only[rM]at hm;split at hm
   .rename_i ka' ks' va' z' hag hk hae hz';split at hm
    .obtain ⟨rfl,rfl,rfl,rfl⟩:ka'=ka/\ks'=ks/\va'=va/\z'=z:=by simpa using hm
     have hrm:=hx _ rfl;generalize hv1:ρ m=vm at hrm;unfold sX at hl;split at hl
     .rename_i id key cs hkey hcs;obtain⟨hkv,hkl,hrk⟩:=nf hkey (hy _ rfl);split at hl
      .rename_i ds ids2 hvw;split at hl
       .rename_i fu hfz;split at hl
        .rename_i ka2 va2 es bE hob;split at hl
         .rename_i hc;obtain⟨rfl,rfl,hn,hag2,hnm⟩:=hc;have hnm:id∉ids2:=by simpa using hnm
          cases hrm with
          |c hrm=>
           cases hrm with
           |om hkn=>
            have hcr:=(hz _ rfl).cr hcs
            obtain⟨hdl,hds⟩:=pC hI cs ds ids2 hvw (fun i=>(ρ x).cells.toList[i]?) (fun i c hi=>by
             have hlt:i<(ρ x).cells.toList.length:=by rw[<-hcr.1];grind
             exact⟨_,ao hlt,hcr.2 i c _ hi (ao hlt)⟩)
            have hval:=tG.vw (hz _ rfl) hcs hdl hds;rw[hag2]at hval;have hI1:=hI.DB hfz;have hob1:bf fu (au H) id=some (.map ka2 va2 es bE):=by simp only[bf,(ku ids2 fu hfz id).2 hnm,hob]
            obtain⟨_,h0⟩:=hI1.iI _ _ hob1;obtain⟨ms,hms,hE⟩:=h0.Od;have hck:=ov (P:=P) false 9992 8 kt ks' hk ka2 hag _ w hkl;split at hl
            .rename_i i hfe;obtain⟨f1,f2⟩:=lS (P:=P) hk hag hE hfe;obtain⟨f3,f4⟩:=f2 i rfl;obtain⟨e0,e1,e3,e4⟩:=hE.gU f3;obtain⟨_,hqq⟩:=FW hfe;obtain⟨_,ag,hag',hone⟩:=vF 8 kt ks' hk;obtain rfl:ka2=ag:=aa (hag.symm.trans hag');have hold:(ms.toList.getD i default).key=ua ka2 key:=by rw[e1.ua,<-f4]
             obtain⟨rfl,rfl⟩:=af (aa hl);have hE':=hE.put (i:=i) (kv:=ua ka2 key) (x:=ρ x) (ds:=ds) (by rw[hE.1];exact f3) (by rw[<-hold];exact e1) hval;obtain⟨hs,hI'⟩:=hI1.vL (clock':=bE) hob1 hms hE';refine⟨.skip,undef,{w with heap:=w.heap.setIfInBounds (φ id).cQ _},?_,.inr ⟨rfl,rfl⟩,hI.BQ ((SB.tR ids2).trans hs) hI' ?_⟩
             .have dR:=FF (P:=P) (w:=w) hold (ww (n:=9999) hone hqq);simp only[execOp,ho,Instr.mapUpdate,hv1,Sem.run_bind,bz hu,Result.andThen_ok,km hms,hkv]
              grind [Result.andThen_ok,Sem.run_bind,mW,Sem.run_pure]
             .rw [<-dp];rfl
            .rename_i hfe;obtain⟨f1,_⟩:=lS (P:=P) hk hag hE hfe;obtain⟨rfl,rfl⟩:=af (aa hl);have hE':=hE.push (bE:=bE) (kv:=ua ka2 key) (x:=ρ x) (ds:=ds) (key:=key) (hkv▸hrk) hval;obtain⟨hs,hI'⟩:=hI1.vL (clock':=bE+1) hob1 hms hE';refine⟨.skip,undef,{w with heap:=w.heap.setIfInBounds (φ id).cQ _},?_,.inr ⟨rfl,rfl⟩,hI.BQ ((SB.tR ids2).trans hs) hI' ?_⟩
             .simp only[execOp,ho,Instr.mapUpdate,hv1,Sem.run_bind,bz hu,Result.andThen_ok,km hms,hkv]
              grind [Result.andThen_ok,Sem.run_bind,mW,Sem.run_pure]
             .rw [<-dp];rfl
            .simp at hl
         .simp at hl
        .simp at hl
       .simp at hl
      .simp at hl
     .simp at hl
    .simp at hm
   .simp at hm
  .simp at h
theorem KA{c:oc}{t kt et kt2:TypeId}{ka va:Bool}{ks:List Kd}{z:List Value}{m ix:Operand}(ho:o.op=.call c)(hcal:c.callee=.builtin .delete)(hargs:c.args= #[m,ix])(hts:c.argTypes= #[t,kt2])
  (hu:P.underlying t=some (.map kt et)) (hm:rM P kt et=some (ka,ks,va,z)) (hI:Inv S K w0 Kn φ (au H) w) {tm tk:Option TV} (hx:∀y,tm=some y->fz S w Kn φ y (ρ m)) (hy:∀y,tk=some y->fz S w Kn φ y (ρ ix))
  (h:ci call (.ud ka ks) [tm,tk] H nxt=some (v,u,av,n')):cX P o ρ S K w0 w Kn φ (au H) nxt n' v u:=by
 match tm,tk,h,hx,hy with
 |some (.c mc),some k,h,hx,hy=>
  change (match sY ka ks mc k H with|some (u,av)=>some (TV.gX [],u,av,nxt)|none=>none)=_ at h;split at h
  .rename_i u1 ids1 hl;obtain⟨rfl,rfl,rfl,rfl⟩:TV.gX []=v/\u1=u/\ids1=av/\nxt=n':=by simpa using h
   simp only[rM]at hm;split at hm
   .rename_i ka' ks' va' z' hag hk hae hz';split at hm
    .obtain ⟨rfl,rfl,rfl,rfl⟩:ka'=ka/\ks'=ks/\va'=va/\z'=z:=by simpa using hm
     have hrm:=hx _ rfl;generalize hv1:ρ m=vm at hrm;have unit:∀{w':World},fz S w' Kn φ (.gX []) (.tuple #[]):=.gX rfl fun i x hi=>by simp at hi
     unfold sY at hl;split at hl
     .rename_i key hkey;obtain⟨hkv,hkl,_⟩:=nf hkey (hy _ rfl);obtain⟨rfl,_⟩:=hrm.lit;obtain⟨rfl,rfl⟩:=af (aa hl);have hck:=ov (P:=P) true 9992 8 kt ks' hk ka' hag _ w hkl;refine cX.pure hI ?_ unit
      simp only[execOp,ho,hcal,resolve,hargs,Sem.run_bind,Sem.run_pure,Result.andThen_ok,invoke,builtin,Builtin.delete_,hts,c9,aK,aZ,hv1,hkv,bK,
       bP,cN,bz hu]
      simp_all
     .rename_i id key hkey;obtain⟨hkv,hkl,_⟩:=nf hkey (hy _ rfl);split at hl
      .rename_i ka2 va2 es bE hob;split at hl
       .rename_i hkv2;subst hkv2;cases hrm with
        |c hrm=>
         cases hrm with
         |om hkn=>
          obtain⟨_,h0⟩:=hI.iI _ _ hob;obtain⟨ms,hms,hE⟩:=h0.Od;have hck:=ov (P:=P) ms.isEmpty 9992 8 kt ks' hk ka2 hag _ w hkl;split at hl
          .rename_i i hfe;obtain⟨f1,_⟩:=lS (P:=P) hk hag hE hfe;obtain⟨rfl,rfl⟩:=af (aa hl);obtain⟨hs,hI'⟩:=hI.vL (clock':=bE) hob hms (hE.pw i);refine⟨.value (.tuple #[]),_,{w with heap:=w.heap.setIfInBounds (φ id).cQ (.map (ms.eraseIdxIfInBounds i) bE)},?_,.inl rfl,kH.set hs hI' unit⟩
           simp only[execOp,ho,hcal,resolve,hargs,Sem.run_bind,Sem.run_pure,Result.andThen_ok,invoke,builtin,Builtin.delete_,hts,c9,aK,aZ,hv1,hkv,bK,
            bP,cN,bz hu,km hms]
           grind [Result.andThen_ok,Sem.run_bind,mW,Sem.run_pure]
          .rename_i hfe;obtain⟨f1,_⟩:=lS (P:=P) hk hag hE hfe;obtain⟨rfl,rfl⟩:=af (aa hl);obtain⟨hs,hI'⟩:=hI.vL (clock':=bE) hob hms hE;refine⟨.value (.tuple #[]),_,{w with heap:=w.heap.setIfInBounds (φ id).cQ (.map ms bE)},?_,.inl rfl,kH.set hs hI' unit⟩
           simp only[execOp,ho,hcal,resolve,hargs,Sem.run_bind,Sem.run_pure,Result.andThen_ok,invoke,builtin,Builtin.delete_,hts,c9,aK,aZ,hv1,hkv,bK,
            bP,cN,bz hu,km hms]
           grind [Result.andThen_ok,Sem.run_bind,mW,Sem.run_pure]
          .simp at hl
       .simp at hl
      .simp at hl
     .simp at hl
    .simp at hm
   .simp at hm
  .simp at h
variable{e:jk}
theorem PZ{t el:TypeId}{len n:Nat}{parts:Array (Nat×Operand)}{z:List Value}(ho:o.op=.buildSlice t len parts)(hu:P.underlying t=some (.slice el))
  (hs:fw P el=some (n+1)) (hz:jE P el=some z) (hlim:len*(n+1)<=4096/\z.length=n+1)
  (hI:Inv S K w0 Kn φ (au H) w) (hn0:nxt<n'->¬Kn nxt) (hρ:∀x tv,kz e x=some tv->fz S w Kn φ tv (ρ x))
  (h:ci call (.TI (n+1) len ((bm (len*(n+1))).map fun i=>z.getD (i %(n+1)) undef) (parts.toList.map (·.1))) ((parts.toList.map (·.2)).map (kz e)) H nxt=some (v,u,av,n')):
  cX P o ρ S K w0 w Kn φ (au H) nxt n' v u:=by
 generalize hzs:((bm (len*(n+1))).map fun i=>z.getD (i %(n+1)) undef)=zs at h
 change (match dD ((parts.toList.map (·.2)).map (kz e))with
  |some xs=>
   (match kU (eS zs) _ with
   |some cs=>some (TV.c (.fx (n+1) nxt 0 len),[(nxt,some (Ob.box cs))],([]:List Nat),nxt+1)
   |none=>none)
  |none=>none)=_ at h
 split at h
 .rename_i xs hxs;split at h
  .rename_i cs hcs;obtain⟨rfl,rfl,rfl,rfl⟩:TV.c (.fx (n+1) nxt 0 len)=v/\[(nxt,some (Ob.box cs))]=u/\[]=av/\nxt+1=n':=by simpa using h
   have hn:=hn0 (Nat.lt_succ_self _);obtain⟨hl,hr⟩:=ux hρ hxs;obtain⟨zv,hzr,hzl,hzp⟩:=oU hz w;have hzp':∀x∈zs,ez x=true:=by intro x hx;rw[<-hzs]at hx;obtain⟨i,_,rfl⟩:=br.1 hx;simp_all[Nat.mod_lt,cL,undef,List.getD,eN]
   have hzero:∃zc:Array Value,(len*(n+1)=0->zc= #[])/\(¬len*(n+1)=0->zc=zv.cells)/\
     ((lR (len*(n+1))).map (fun i=>zc[i %zc.size]!)).toList=zs:=by
    by_cases hc:len*(n+1)=0
    .simp_all
    .refine ⟨zv.cells,fun h=>absurd h hc,fun _=>rfl,?_⟩;rw[tJ hzl hlim.2 (cL _),hzs]
   obtain⟨zc,hzc,hzc1,hzc2⟩:=hzero
   obtain⟨arr',h3,h4⟩:=vU (S:=S) (w:=w) (Kn:=Kn) (φ:=φ) (ρ:=ρ) (fun i=>some (i*(n+1),n+1)) parts.toList _ xs (eS zs) cs _
    (by simp) (fun i p q hp hq=>by simp_all) (by simpa using hl)
    (fun i p x hp hx=>hr i p.2 x (by simp_all) hx) (by rw[hzc2];exact Dl hzp') hcs
   obtain⟨h5,h6⟩:=AV h4
   have hcl:cs.length=len*(n+1):=by
    have:∀(l:List ((Nat×Nat)×TV))(a b:List C),kU a l=some b->b.length=a.length:=by
     intro l;induction l with
     |nil=>
      intro a b h;obtain rfl:a=b:=by simpa[kU]using h
      rfl
     |cons p l ih=>grind [kU,eL]
    rw[this _ _ _ hcs,<-hzs];simp[eS]
   obtain⟨nS,nK⟩:=Dg hI;have dR:=gy.push (w:=w) hI.uH (.cells arr' el);have hren:Ren Kn φ (fun j=>Kn j\/j=nxt) (ext φ nxt ⟨w.heap.size,0,n+1,arr'.size,len⟩):=iZ _ hn;have ha:=hI.alloc hn arr' el (n+1) len (.box cs) (.box rfl nS nK (Ai w _ el) h5 fun i x hi=>(h6 i x hi).mono dR hren);refine⟨.value (.slice (some ⟨w.heap.size,0,none⟩) len len),.slice (some ⟨w.heap.size,0,none⟩) len len,_,?_,.inl rfl,Nat.le_succ _,S,_,dR,⟨fun _ h=>.inl h,hren.dH⟩,.c ?_,ha.wV fun j=>o3 j⟩
   .have h3':Instr.fill (fun i=>some (i*(n+1),n+1)) ((lR (len*(n+1))).map (fun i=>zc[i %zc.size]!)) (parts.map fun p=>(p.1,ρ p.2)).toList=some arr':=by rw[<-h3];simp
    have hlim':¬len*(n+1)>2^24:=by have:=hlim.1;omega
    simp only[execOp,ho,Sem.run_bind,Instr.buildSlice,bz hu,Result.andThen_ok,gG hs,if_neg hlim'];by_cases hc:len*(n+1)=0
    .rw [hzc hc]at h3';simp only[if_pos hc,Sem.run_bind,Sem.run_pure,Result.andThen_ok,h3',newRow,run_newObj]
    simp_all[if_neg,Sem.run_bind,Sem.run_pure,Result.andThen_ok,newRow,run_newObj]
   .have e:ext φ nxt ⟨w.heap.size,0,n+1,arr'.size,len⟩ nxt=⟨w.heap.size,0,n+1,arr'.size,len⟩:=by simp[ext]
    have:=RC.fx (S:=S) (w:={w with heap:=w.heap.push (.cells arr' el)}) (Kn:=po Kn nxt (nxt+1)) (φ:=ext φ nxt ⟨w.heap.size,0,n+1,arr'.size,len⟩) (id:=nxt) (off:=0) (len:=len) (cap:=len) (addr:=0)
     (.inr (by omega)) (am _) (by rw[e];simp) (by rw[e];simp only;omega) (by rw[e];simp)
    rw[e]at this;exact this
  .simp at h
 .simp at h
theorem Su{t el:TypeId}{x i:Operand}{sz:Nat}(ho:o.op=.indexAddr t x i)(hu:P.underlying t=some (.slice el))(hsz:fw P el=some sz)
  (hI:Inv S K w0 Kn φ (au H) w) {tx ti:Option TV} (hx:∀y,tx=some y->fz S w Kn φ y (ρ x)) (hi:∀y,ti=some y->fz S w Kn φ y (ρ i))
  (h:ci call (.Yy sz) [tx,ti] H nxt=some (v,u,av,n')):cX P o ρ S K w0 w Kn φ (au H) nxt n' v u:=by
 match tx,h,hx with
 |some (.c c),h,hx=>
  change (match ce ti with|some i=>(match N8 sz c i with|some y=>some (TV.c y,([]:eW),([]:List Nat),nxt)|none=>none)|none=>none)=_ at h;split at h
  .rename_i n hn;obtain⟨k,hk⟩:=iO hn hi;split at h
   .rename_i y hy;obtain⟨rfl,rfl,rfl,rfl⟩:TV.c y=v/\[]=u/\[]=av/\nxt=n':=by simpa using h
    have hr:=hx _ rfl;generalize hv0:ρ x=val at hr;cases hr with
    |c hr=>
     unfold N8 at hy;split at hy
     .rename_i sz' id off len;split at hy
      .rename_i hb;obtain⟨h0,h1,rfl⟩:=hb;obtain rfl:=aa hy;cases hr with
       |@fx _ _ _ cap addr hkn hcap haddr hext=>
        have run:(execOp ρ o).run P w=.ok (.value (.pointer (some ⟨(φ id).cQ,addr+n.toNat*(φ id).sz,none⟩))) w:=by simp[execOp,ho,hv0,Instr.indexAt,nc hk,bz hu,h0,h1,gG hsz,pk]
        refine cX.pure hI run (.c ?_);have ha:=haddr (by omega);have e1:addr+n.toNat*(φ id).sz=(φ id).aL+(off+n.toNat)*(φ id).sz:=by rw[Nat.add_mul];omega
        rw[e1];exact .op hkn
      .simp at hy
     .simp at hy
   .simp at h
  .simp at h
end
section
variable{P:Program}{S K:Nat->Prop}{w0 w:World}{Kn:Nat->Prop}{φ:Nat->gj}{hf:Nat->Option Ob}{H:bp}{e:jk}{ρ:Operand->Value}{o:Oper}{call:Call}{a:Act}
 {nxt n':Nat} {v:TV} {u:eW} {av:List Nat}
def Q5(P:Program)(o:Oper)(a:Act)(S K:Nat->Prop)(w0 w:World)(Kn:Nat->Prop)(φ:Nat->gj)(hf:Nat->Option Ob)(nxt n':Nat)(v:TV)(u:eW):Prop:=∀(next:Act->World->Prop)(Q:Exit->Act->World->Prop),(∀val w',kH S K w0 w Kn φ hf nxt n' v u val w'->next (a.put o.dst val) w')->o.wp P a w next Q
theorem cX.kr(h:cX P o a.eval S K w0 w Kn φ hf nxt n' v u):Q5 P o a S K w0 w Kn φ hf nxt n' v u:=by
 intro next Q hn
 obtain⟨nx,val,w',hr,hx,hd⟩:=h;unfold Oper.wp;rw[hr];rcases hx with rfl|⟨rfl,rfl⟩
 .exact hn _ _ hd
 .exact hn _ _ hd
theorem G_{tvs:List TV}{vs:List Value}(hl:tvs.length=vs.length)(h:∀(i:Nat)(t:TV)(v:Value),tvs[i]?=some t->vs[i]?=some v->fz S w Kn φ t v):fz S w Kn φ (ve tvs) (z7 vs):=by
 have GA:fz S w Kn φ (.gX tvs) (.tuple vs.toArray):=by
  refine .gX (by simpa using hl) fun i x hi=>?_;have hlt:i<vs.length:=by grind
  have:=h i x vs[i] hi (ao hlt);simpa[hlt]using this
 match tvs,vs,hl,h,GA with|[],[],_,_,GA=>exact GA|[t],[v],_,h,_=>exact h 0 t v rfl rfl|_::_::_,_::_::_,_,_,GA=>exact GA
theorem RD.Jd{S':Nat->Prop}{w':World}{v x:Value}(h:RD S w (.lit v) x):RD S' w' (.lit v) x:=by cases h with|lit h=>exact .lit h|nan hn hm=>exact .nan hn hm|ex=>exact .ex
theorem Gx.eS{S':Nat->Prop}:∀{rs:List R}{vs:List Value}{fp:List Nat},rs.all x5=true->Gx S w rs vs fp->Gx S' w rs vs []:=by
 intro rs;induction rs with
 |nil=>intro vs fp _ h;cases vs with|nil=>rfl|cons v vs=>exact h.elim
 |cons r rs ih=>
  intro vs fp hl h;cases vs with
  |nil=>exact h.elim
  |cons v vs=>
   simp only[fR,ak]at hl;obtain⟨f1,f2,_,h1,h2⟩:=h;refine⟨[],[],rfl,?_,ih hl.2 h2⟩;have hl1:=hl.1;cases r with
   |c t=>
    cases t with
    |d x=>
     cases x with
     |lit y=>cases h1 with|d hd=>exact RT.d hd.Jd
     |_=>simp[x5]at hl1
    |_=>simp[x5]at hl1
   |agg ts=>
    obtain⟨aG,fps,rfl,q1,q2,q3,q4⟩:=h1;refine⟨aG,fps.map fun _=>[],rfl,q1,by simpa using q2,by simp,fun i t f hi hfi=>?_⟩;simp[x5]at hl1;have ht:=hl1 t (aF hi);obtain rfl:f=[]:=by simp_all
    have hlt:i<fps.length:=by grind
    have:=q4 i t fps[i] hi (ao hlt);generalize fps[i]=g at this;cases t with
    |d x=>
     cases x with
     |lit y=>cases this with|d hd=>exact RT.d hd.Jd
     |_=>simp at ht
    |_=>simp at ht
theorem Inv.after{S':Nat->Prop}{w':World}{fp:List Nat}(hI:Inv S K w0 Kn φ hf w)(hs:gy S w S' w')(hsub:∀b,S' b->S b\/b∈fp\/w.heap.size<=b)(hlt:∀b,S' b->b<w'.heap.size)
  (hfp:∀b∈fp,¬K b) (haw:vk w φ hf fp) (hfrm:JM (fun b=>b<w.heap.size/\b∉fp) w w'):Inv S' K w0 Kn φ hf w':=by
 refine hI.ld hs (Ren.refl _ _) hlt (fun b hb hK=>?_) ⟨hI.oe.HK,fun b hb=>?_,bo hI.oe.sT hfrm.sT,fun a ha=>(hfrm.Bj a (cP ha hI.oe.sT)).trans (hI.oe.Bj a ha),fun b aG ho=>?_,hI.oe.io.trans hfrm.io⟩ (fun id o ho=>.inl ⟨ho,fun hown=>?_⟩) hI.ph ?_
 .have h1:=cP (hI.oe.HK b hK) hI.oe.sT;rcases hsub b hb with h|h|h
  .exact hI.sk b h hK
  .exact hfp b h hK
  .omega
 .have h1:=cP (hI.oe.HK b hb) hI.oe.sT;exact(hfrm.lK b ⟨h1,fun h=>hfp b h hb⟩).trans (hI.oe.lK b hb)
 .obtain ⟨a1,h1,h2⟩:=hI.oe.bk b aG ho;obtain⟨a2,h3,h4⟩:=hfrm.bk b a1 h1;exact⟨a2,h3,h4.trans h2⟩
 .obtain ⟨h1,h2,h3⟩:=(hI.iI id o ho).2.bk hown;have h4:=haw id o ho hown _ (kW id);refine⟨hfrm.lK _ ⟨h3,h4⟩,fun h=>?_⟩
  grind
 .intro id sz sl ho;have h4:=haw id _ ho rfl
  have key:∀x∈ij w φ hf id,w'.heap[x]?=w.heap[x]?/\¬S' x:=fun x hx=>by
   obtain⟨h1,_,h3⟩:=nU hI ho rfl hx;refine⟨hfrm.lK _ ⟨h3,h4 x hx⟩,fun h=>?_⟩
   grind
  refine⟨ho,(key _ (kW id)).1,fun k x hp=>?_⟩;obtain⟨q1,q2⟩:=key x (dF.2 (.inr ⟨sz,sl,k,ho,hp⟩));exact⟨q1,q2,(hI.yB id sz sl k x ho hp).1⟩
theorem RT.ez{S0:Nat->Prop}{t:T}{v:Value}{fp:List Nat}(h:IX t=true)(hr:RT S w t v fp):RT S0 w t v fp:=by
 cases hr with
 |d hd=>cases hd with|lit hp=>exact .d (.lit hp)|nan hn hm=>exact .d (.nan hn hm)|ex=>exact .d .ex|_=>simp[IX]at h
 |sl h0 ho hl hc he hr=>refine .sl h0 ho hl hc he ⟨hr.1,fun i r hi j x hj=>?_⟩;obtain⟨v,h1,h2⟩:=hr.2 i r hi j x hj;have hx:=bg.1 (bg.1 h r (aF hi)) x (aF hj);refine⟨v,h1,?_⟩;cases h2 with|lit hp=>exact .lit hp|nan hn hm=>exact .nan hn hm|ex=>exact .ex|_=>simp at hx
 |_=>simp[IX]at h
theorem OY.ez{S0:Nat->Prop}:∀{ts:List T}{vs:List Value}{fp:List Nat},ts.all IX=true->OY S w ts vs fp->OY S0 w ts vs fp:=by
 intro ts;induction ts with
 |nil=>intro vs fp _ h;cases vs<;>exact h
 |cons t ts ih=>intro vs fp h hr;simp only[fR,ak]at h;cases vs with|nil=>exact hr|cons v vs=>obtain⟨f1,f2,e,h1,h2⟩:=hr;exact⟨f1,f2,e,h1.imp id (RT.ez h.1),ih h.2 h2⟩
theorem Left.ez{S0:Nat->Prop}{fp:List Nat}{rs:List R}{outs:List T}{lent:List Value}{v:Value}{w':World}(h:Left S w fp rs outs lent v w')(hS:∀b,S0 b->S b)(h1:rs.all x5=true)(h2:outs.all IX=true):Left S0 w fp rs outs lent v w':=by
 obtain⟨S',jJ,fp1,fp2,rfl,hs,hsub,hlt,hrr,hrt,hnd,hb,hfrm⟩:=h;refine⟨S0,jJ,[],fp2,rfl,⟨fun _ h=>h,fun b hb=>hs.dH b (hS b hb)⟩,fun b h=>.inl h,fun b h=>hlt b (hs.sub b (hS b h)),hrr.eS h1,hrt.ez h2,?_,fun b hm=>?_,hfrm⟩
 .exact (da.1 hnd).2.1
 .have:=hb b (aX _ hm);exact⟨fun h=>this.1 (hs.sub b (hS b h)),this.2⟩
theorem A4{as:List A}{av:List Nat}{lent:List (C×List Nat×List Nat)}{vs:List Value}{rs:List R}{outs:List T}{val:Value}{w':World}{rd:List Nat}
  (hI:Inv S K w0 Kn φ (au H) w) (hfr:∀j,nxt<=j->j<n'->¬Kn j)
  (hown:∀i∈lent.flatMap (·.2.1),∃o,au H i=some o/\cA o=true) (hlent:Iw Kn φ S w lent (kT as vs))
  (hwhole:dY H lent=true) (hnd:(lent.flatMap (·.2.1)).Nodup)
  (hleft:Left (SB S w φ (au H) av) w ((lent.flatMap (·.2.1)).flatMap (ij w φ (au H))) rs outs (kT as vs) val w')
  (h:(match c8 H av av with
      |none=>none
      |some fu=>
       match dC nxt lent outs with
       |none=>none
       |some (bu,m)=>some (ve (iC m rs).1,(iC m rs).2.1++bu++fu,av++lent.flatMap (·.2.2),(iC m rs).2.2))=some (v,u,rd,n')):
  kH S K w0 w Kn φ (au H) nxt n' v u val w':=by
 obtain⟨S',jJ,fp1,fp2,rfl,hs,hsub,hlt,hrr,hrt,hnd2,hb,hfrm⟩:=hleft;split at h
 .simp at h
 .rename_i fu hfz;split at h
  .simp at h
  .rename_i bu m hbk;obtain⟨rfl,rfl,_,rfl⟩:ve (iC m rs).1=v/\(iC m rs).2.1++bu++fu=u/\av++lent.flatMap (·.2.2)=rd/\(iC m rs).2.2=n':=by simpa using h
   have hI1:=hI.DB hfz;have hmn:=IA rs m;have hnm:=Cs _ _ _ _ _ hbk
   -- what was lent is dQ of the heap
   let kills:eW:=(kP lent).map fun i=>(i,none);have hkn:=rS (kP lent)
   have hf2:∀id o,bf kills (bf fu (au H)) id=some o->id∉kP lent/\bf fu (au H) id=some o:=by
    intro id o ho;have:bf kills (bf fu (au H)) id=(match bV kills id with|some o=>o|none=>bf fu (au H) id):=rfl
    grind
   have hIk:=hI1.mC fun id o ho=>(hf2 id o ho).2
   -- the frozen part agrees with the heap eU, where a thing is owned
   have hold:∀id o,bf fu (au H) id=some o->cA o=true->au H id=some o:=by
    intro id o ho hown;by_cases hm:id∈av
    .obtain ⟨o',ho',hfn⟩:=(ku av fu hfz id).1 hm;simp only[bf,hfn]at ho;obtain rfl:=aa ho;have:=(Cm hI hm ho').1;rw[this]at hown;simp at hown
    grind [bf,ku]
   have hbk2:∀j o,bf kills (bf fu (au H)) j=some o->cA o=true->au H j=some o/\ij w φ (bf kills (bf fu (au H))) j=ij w φ (au H) j:=fun j o hj hjo=>by have h3:=hold j o (hf2 j o hj).2 hjo;exact⟨h3,gp rfl (hj.trans h3.symm)⟩
   have haw:vk w φ (bf kills (bf fu (au H))) ((lent.flatMap (·.2.1)).flatMap (ij w φ (au H))):=by intro j o hj hjo x hx hm;obtain⟨h1,h2⟩:=hf2 j o hj;obtain⟨i,hi,hie⟩:=cm.1 hm;obtain⟨oi,hoi,hoio⟩:=hown i hi;obtain⟨h3,h4⟩:=hbk2 j o hj hjo;rw[h4]at hx;exact oH hI hoi h3 hoio hjo (fun e=>h1 (e▸hi)) hie hx
   have hfpK:∀b∈((lent.flatMap (·.2.1)).flatMap (ij w φ (au H))),¬K b/\b<w.heap.size:=by intro b hbm;obtain⟨i,hi,hie⟩:=cm.1 hbm;obtain⟨oi,hoi,hoio⟩:=hown i hi;exact(nU hI hoi hoio hie).2
   have hI2:=hIk.after hs hsub hlt (fun b hb=>(hfpK b hb).1) haw hfrm
   have hK12:∀b∈fp1++fp2,¬S' b/\¬K b:=fun b hbm=>by
    obtain⟨h1,h2⟩:=hb b hbm;refine⟨h1,fun hk=>?_⟩;rcases h2 with h2|h2
    .exact (hfpK b h2).1 hk
    .have:=hI.oe.HK b hk;have:=hI.oe.sT;omega
   have haw12:vk w' φ (bf kills (bf fu (au H))) (fp1++fp2):=fun j o hj hjo x hx hm=>by
    rw[CG (hfrm.lK _ ⟨((hIk.iI j o hj).2.bk hjo).2.2,haw j o hj hjo _ (kW j)⟩)]at hx;rcases(hb _ hm).2 with h2|h2
    .exact haw j o hj hjo x hx h2
    .have:=(nU hIk hj hjo hx).2.2;omega
   rw[da]at hnd2;obtain⟨hn1,hn2,hn3⟩:=hnd2;simp only[aC]at hK12
   obtain⟨φ1,hB⟩:=Iq hI hfrm.bk lent (kT as vs) outs fp2 nxt bu m hlent hwhole hrt hI2 (fun j h1 h2=>hfr j h1 (by omega)) (Ren.refl _ _) hn2 (fun b hb=>hK12 b (.inr hb))
    (fun j o hj hjo x hx hm=>haw12 j o hj hjo x hx (by simp[hm]))
    (fun i hi=>by obtain⟨oi,hoi,_⟩:=hown i hi;refine⟨?_,(hI.iI i oi hoi).1⟩;show(match bV kills i with|some o=>o|none=>bf fu (au H) i)=none;rw[hkn,if_pos hi]) hnd hbk
   have hkk:bf bu (bf kills (bf fu (au H)))=bf bu (bf fu (au H)):=by
    funext j;by_cases hm:j∈kP lent
    .obtain ⟨x,hx⟩:=eM.1 (hB.VC j hm);simp only[bf,hx]
    .have h1:bf kills (bf fu (au H)) j=bf fu (au H) j:=by show(match bV kills j with|some o=>o|none=>bf fu (au H) j)=_;rw[hkn,if_neg hm]
     have h2:∀g:Nat->Option Ob,bf bu g j=(match bV bu j with|some o=>o|none=>g j):=fun _=>rfl;rw[h2,h2,h1]
   have hIB:=hB.inv;rw[hkk]at hIB
   have haw1:vk w' φ1 (bf bu (bf fu (au H))) fp1:=by
    intro j o hj hjo x hx hm;by_cases hk:j∈kP lent\/(nxt<=j/\j<m)
    .have:=hB.cQ j o (by rw[hkk];exact hj) hjo hk x (by rw[hkk];exact hx);exact hn3 _ hm _ this rfl
    .have hfn:bV bu j=none:=lM fun p hp e=>by
      rcases hB.Dr p hp with h|h
      .exact hk (.inl (e▸h))
      .exact hk (.inr (e▸h))
     have hj2:bf kills (bf fu (au H)) j=some o:=by rw[<-hkk]at hj;simpa only[bf,hfn]using hj
     have hknj:=(hI2.iI j o hj2).1;rw[gp (hB.uN.dH j hknj) (hj.trans hj2.symm)]at hx;exact haw12 j o hj2 hjo x hx (by simp[hm])
   obtain⟨φ2,hL,hlen,hr⟩:=GF rs m jJ fp1 hIB (fun j h1 h2 hk=>by
     rcases hk with hk|hk
     .exact hfr j (by omega) h2 hk
     .omega) hrr hn1 (fun b hb=>hK12 b (.inl hb)) haw1
   refine⟨by omega,S',φ2,(SB.tR av).trans hs,⟨fun i h=>.inl h,fun i h=>(hL.uN.dH i (.inl h)).trans (hB.uN.dH i h)⟩,?_,?_⟩
   .exact (G_ hlen hr).kn fun i=>(sR hnm hmn i).1
   .rw [dp,dp];exact hL.inv.wV fun i=>sR hnm hmn i
theorem Lz{as:List A}{av:List Nat}{lent:List (C×List Nat×List Nat)}{vs:List Value}{rs:List R}{outs:List T}{ro:Bool}{val:Value}{w':World}{rd:List Nat}
  (hI:Inv S K w0 Kn φ (au H) w) (hfr:∀j,nxt<=j->j<n'->¬Kn j)
  (hargs:O7 (SB S w φ (au H) av) w as vs ((lent.flatMap (·.2.1)).flatMap (ij w φ (au H)))) (hown:∀i∈lent.flatMap (·.2.1),∃o,au H i=some o/\cA o=true) (hlent:Iw Kn φ S w lent (kT as vs))
  (hwhole:dY H lent=true) (hnd:(lent.flatMap (·.2.1)).Nodup)
  (hleft:Left (SB S w φ (au H) av) w ((lent.flatMap (·.2.1)).flatMap (ij w φ (au H))) rs outs (kT as vs) val w')
  (h:(if ro then
      if rs.all x5/\outs.all IX then
       match dC nxt lent outs with|none=>none|some (bu,m)=>some (ve (iC m rs).1,(iC m rs).2.1++bu,av++lent.flatMap (·.2.2),(iC m rs).2.2)
      else none
     else
      match c8 H av av with
      |none=>none
      |some fu=>
       match dC nxt lent outs with
       |none=>none
       |some (bu,m)=>some (ve (iC m rs).1,(iC m rs).2.1++bu++fu,av++lent.flatMap (·.2.2),(iC m rs).2.2))=some (v,u,rd,n')):
  kH S K w0 w Kn φ (au H) nxt n' v u val w':=by
 split at h
 .--nothing that was looked at is FH
  split at h
  .rename_i hcond;obtain⟨hl,hp⟩:=hcond;split at h
   .simp at h
   .refine A4 (av:=[]) (rd:=lent.flatMap (·.2.2)) hI hfr hown hlent hwhole hnd (hleft.ez (fun b hb=>?_) hl hp) ?_
    .rcases hb with hb|⟨i,hi,_⟩
     .exact .inl hb
     .cases hi
    grind [c8]
  .simp at h
 .exact A4 hI hfr hown hlent hwhole hnd hleft h
theorem BL:∀n,(∀c x av,dW H n c=some (x,av)->∀i∈av,∃o,au H i=some o)/\(∀cs xs av,gf H n cs=some (xs,av)->∀i∈av,∃o,au H i=some o):=by
 have leaf:∀n c x av,(match c with|.op _ _|.pJ _ _=>False|_=>True)->dW H n c=some (x,av)->∀i∈av,∃o,au H i=some o:=by
  intro n c x av hl h i hi;cases c with
  |d y=>simp only[dW]at h;simp_all
  |fx sz id off len=>
   simp only[dW]at h
   grind
  |ep id bv off=>
   simp only[dW]at h
   grind
  |op id off=>exact hl.elim
  |pJ f caps=>exact hl.elim
  |om id=>cases n<;>simp[dW]at h
 intro n;induction n with
 |zero=>
  refine⟨fun c x av h=>?_,fun cs xs av h=>?_⟩
  .cases c with|op id off=>simp[dW]at h|pJ f caps=>simp[dW]at h|_=>exact leaf 0 _ x av trivial h
  .cases cs with
   |nil=>
    obtain⟨_,rfl⟩:[]=xs/\[]=av:=by simpa[gf]using h
    intro i hi;simp at hi
   |cons c cs=>simp[gf]at h
 |succ n ih=>
  refine⟨fun c x av h=>?_,fun cs xs av h=>?_⟩
  .cases c with
   |op id off=>
    simp only[dW]at h
    grind
   |pJ f caps=>
    simp only[dW]at h
    grind
   |_=>exact leaf _ _ x av trivial h
  .cases cs with
   |nil=>
    obtain⟨_,rfl⟩:[]=xs/\[]=av:=by simpa[gf]using h
    intro i hi;simp at hi
   |cons c cs=>
    simp only[gf]at h
    grind
theorem Ec:∀cs xs av,dn H cs=some (xs,av)->∀i∈av,∃o,au H i=some o:=by
 intro cs;induction cs with
 |nil=>
  intro xs av h i hi;obtain⟨_,rfl⟩:[]=xs/\[]=av:=by simpa[dn]using h
  simp at hi
 |cons c cs ih=>
  intro xs av h i hi;simp[dn]at h;split at h
  .rename_i h1 h2;obtain⟨_,rfl⟩:=af (aa h);rcases aC.1 hi with hi|hi
   .exact (BL 300).1 _ _ _ h1 i hi
   .exact ih _ _ h2 i hi
  .simp at h
theorem CH:∀(tvs:List TV)(ms:List Bool)(as:List A)(av:List Nat)(lent:List (C×List Nat×List Nat)),gm H tvs ms=some (as,av,lent)->∀i∈av,∃o,au H i=some o:=by
 intro tvs;induction tvs with
 |nil=>
  intro ms as av lent h i hi;obtain⟨_,rfl,_⟩:[]=as/\[]=av/\[]=lent:=by simpa[gm]using h
  simp at hi
 |cons t tvs ih=>
  intro ms as av lent h i hi;simp[gm]at h;split at h
  .simp at h
  .rename_i hrec;split at h
   .grind
   .split at h
    .split at h
     .rename_i hv;obtain⟨_,rfl,_⟩:=(by simpa using h:_/\_/\_)
      rcases aC.1 hi with hi|hi
      .exact (BL 300).1 _ _ _ hv i hi
      .exact ih _ _ _ _ hrec i hi
     .simp at h
    .split at h
     .grind [Ec]
     .simp at h
    .simp at h
theorem RO.TH{l:gj}{o:Ob}(h:RO S K w Kn φ l o)(hs:∀b,S b->b<w.heap.size):l.cQ<w.heap.size:=by cases h with|aG hsz hl hS hK hown=>exact hown.lt|box hb hS hK hown=>exact hown.lt|map hS hK hmp=>grind|cap hsz hl hS hK hown=>exact hown.lt|nst hsz hl hS hK hown=>exact hown.lt|qu hsz hl hS=>exact hs _ hS|o7 hb hS=>exact hs _ hS
theorem RO.YA{l:gj}{o:Ob}(h:RO S K w Kn φ l o)(hs:cA o=false):S l.cQ:=by cases h with|qu hsz hl hS=>exact hS|o7 hb hS=>exact hS|_=>simp[cA]at hs
theorem I1{c:oc}{fop:Operand}{ro:Bool}{kq:List Bool}(ho:o.op=.call c)(hcal:c.callee=.value fop)(hok:fg P call)(hI:Inv S K w0 Kn φ (au H) w)
  (hfr:∀j,nxt<=j->j<n'->¬Kn j) (hρ:∀x tv,kz e x=some tv->fz S w Kn φ tv (a.eval x))
  (h:ci call (.call ro kq) ((fop::c.args.toList).map (kz e)) H nxt=some (v,u,av,n')):Q5 P o a S K w0 w Kn φ (au H) nxt n' v u:=by
 rw[aK]at h;change vW call ro kq (kz e fop) (c.args.toList.map (kz e)) H nxt=_ at h;unfold vW at h;split at h
 .rename_i f caps vs hf hvs;split at h
  .simp at h
  .rename_i as ids1 lent hargs;split at h
   .rename_i hcond;obtain⟨hwhole,hnd,hapart⟩:=hcond;split at h
    .simp at h
    .rename_i rs outs hcall
     -- the callee
     have hfv:∃cvs:Array Value,a.eval fop=.func (.func f) #[] cvs/\caps.length=cvs.size/\∀(i:Nat)(x:C),caps[i]?=some x->RC S w Kn φ x (cvs.getD i undef):=by
      split at hf
      .rename_i g capsD hop;obtain⟨rfl,rfl⟩:g=f/\capsD.map C.d=caps:=by simpa using hf
       have hr:=hρ _ _ hop;generalize a.eval fop=fv at hr|-;cases hr with
       |c hr=>cases hr with
        |d hd=>cases hd with|@fn _ _ cvs hlen hrd=>refine⟨cvs,rfl,by simpa using hlen,fun i x hi=>?_⟩;rw[aN]at hi;obtain⟨y,hy,rfl⟩:=aH.1 hi;exact .d (hrd i y hy)
      .rename_i g caps' hop;obtain⟨rfl,rfl⟩:g=f/\caps'=caps:=by simpa using hf
       have hr:=hρ _ _ hop;generalize a.eval fop=fv at hr|-;cases hr with
       |c hr=>cases hr with|@pJ _ _ cvs hlen hrc=>exact⟨cvs,rfl,hlen,hrc⟩
      .simp at hf
     obtain⟨cvs,hfe,hcl,hcr⟩:=hfv;obtain⟨hal,har⟩:=ux hρ hvs;let jJ:List Value:=c.args.toList.map a.eval++cvs.toList
     obtain⟨p1,p2,p3⟩:=Is hI (vs++caps.map TV.c) kq as ids1 lent jJ hargs (by simp[jJ,hal,hcl]) (fun i t val hi hv=>by
      by_cases hlt:i<vs.length
      .rw [bG hlt]at hi;simp only[jJ]at hv;rw[bG (by simp only[aD];omega),aN]at hv;obtain⟨x,hx,rfl⟩:=aH.1 hv;exact har i x t hx hi
      .rw [ck (by omega),aN]at hi;obtain⟨x,hx,rfl⟩:=aH.1 hi;simp only[jJ]at hv;rw[ck (by simp only[aD];omega)]at hv;simp only[aD,<-hal]at hv;have:=hcr _ x hx;rw[Array.getElem?_toList]at hv;have e1:cvs.getD (i-vs.length) undef=val:=by simp[hv]
       rw[e1]at this;exact .c this)
     have hSlt:∀b,SB S w φ (au H) ids1 b->b<w.heap.size:=by
      rintro b (hb|⟨i,hi,hb⟩)
      .exact hI.uH b hb
      .obtain ⟨oi,hoi⟩:=CH _ _ _ _ _ hargs i hi;rcases dF.1 hb with rfl|⟨sz,sl,k,h1,h2⟩
       .exact (hI.iI i oi hoi).2.TH hI.uH
       .exact (hI.Kp h1 h2).2.2.1
     have hnS:∀b∈((lent.flatMap (·.2.1)).flatMap (ij w φ (au H))),¬SB S w φ (au H) ids1 b:=by
      intro b hb hS;obtain⟨i,hi,hb⟩:=cm.1 hb;obtain⟨oi,hoi,hoio⟩:=p2 i hi;have hb1:=(nU hI hoi hoio hb).1;rcases hS with hS|⟨j,hj,hje⟩
      .exact hb1 hS
      .obtain ⟨oj,hoj⟩:=CH _ _ _ _ _ hargs j hj;cases hjo:cA oj with
       |true=>
        refine oH hI hoi hoj hoio hjo (fun e=>?_) hb hje
        grind
       |false=>
        rcases dF.1 hje with rfl|⟨sz,sl,k,h1,_⟩
        .exact hb1 ((hI.iI j oj hoj).2.YA hjo)
        .rw [hoj]at h1;cases h1;cases hjo
     have hgood:=hok f as rs outs hcall (SB S w φ (au H) ids1) w jJ _ hSlt p1 (yp hI hnd p2) hnS (hI.Bz.mono (SB.tR _));intro next Q hn
     have hfin:∀val w',Left (SB S w φ (au H) ids1) w ((lent.flatMap (·.2.1)).flatMap (ij w φ (au H))) rs outs (kT as jJ) val w'->next (a.put o.dst val) w':=by intro val w' hleft;refine hn val w' (Lz hI hfr p1 p2 p3 hwhole hnd hleft (ro:=ro) (v:=v) (u:=u) (rd:=av) ?_);exact h
     have hrun:∀r,(callFunc f jJ.toArray).run P w=r->(execOp a.eval o).run P w=r:=by
      intro r hr;have e1:(#[]++c.args.map a.eval)++cvs=jJ.toArray:=by apply Array.ext';simp[jJ]
      simp only[execOp,ho,Sem.run_bind,resolve,hcal,hfe,Deferred.ofValue,Sem.run_pure,Result.andThen_ok,invoke,e1];exact hr
     rcases hgood with⟨g,as',hr,hc⟩|⟨val,hr,hleft⟩
     .unfold Oper.wp;rw[hrun _ hr,Oper.upon_enter];refine hc.mono fun en w' hR=>?_
      grind
     .unfold Oper.wp;rw[hrun _ hr];exact hfin val w hleft
   .simp at h
 .simp at h
end
section
variable{P:Program}{S K:Nat->Prop}{w0 w:World}{Kn:Nat->Prop}{φ:Nat->gj}{H:bp}{e:jk}{o:Oper}{call:Call}{a:Act}{bM:xp}{k:Ev.K}{args:List Operand}
 {nxt n':Nat} {v:TV} {u:eW} {av:List Nat}
theorem eF{vs:List (Option TV)}:ci call .fL vs H nxt=none:=by unfold ci;split<;>first|rfl|simp_all
theorem LA{op:BinOp}{t ty:TypeId}{x y:Operand}(ho:o.op=.binOp op t x y ty)(hk:JC P op t x y=(k,args))(hI:Inv S K w0 Kn φ (au H) w)(hE:jk.ok S w Kn φ e a.tmps)
  (h:ci call k (args.map (kz e)) H nxt=some (v,u,av,n')):cX P o a.eval S K w0 w Kn φ (au H) nxt n' v u:=by
 have hρ:∀x tv,kz e x=some tv->fz S w Kn φ tv (a.eval x):=fun x tv h=>rK hI.Bz hE h
 have plainBin:(k,args)=(Ev.K.A6 op,[x,y])->cX P o a.eval S K w0 w Kn φ (au H) nxt n' v u:=by
  intro hk;obtain⟨rfl,rfl⟩:=af hk
  grind [Sy]
 have nilBin:∀kind,(op=.eql\/op=.neq)->M5 P t kind->(k,args)=ra kind (op==.neq) x y->cX P o a.eval S K w0 w Kn φ (au H) nxt n' v u:=by
  intro kind hop hu hk;unfold ra at hk;split at hk
  .rename_i hy;obtain⟨rfl,rfl⟩:=af hk;exact E8 ho hop hu hI (fun _=>rfl) (.inl ⟨rfl,hy⟩) (fun z hz=>hρ x z hz) h
  .split at hk
   .rename_i hx;obtain⟨rfl,rfl⟩:=af hk;exact E8 ho hop hu hI (fun _=>rfl) (.inr ⟨rfl,hx⟩) (fun z hz=>hρ y z hz) h
   .obtain ⟨rfl,rfl⟩:=af hk;rw[eF]at h;simp at h
 have eqs:(op=.eql\/op=.neq)->(match P.underlying t with
  |some .bool=>(Ev.K.vX (op==.neq),[x,y])
  |some (.int _)|some (.float _)|some .string=>(Ev.K.A6 op,[x,y])
  |some (.slice _)=>ra 0 (op==.neq) x y
  |some (.pointer _)=>ra 1 (op==.neq) x y
  |some (.func _ _ _)=>ra 2 (op==.neq) x y
  |some (.struct _)|some (.array _ _)=>match Bm P 8 t with|some ks=>if P.eqGuardType P.depth t=false then(Ev.K.AO (op==.neq) ks,[x,y])else(Ev.K.fL,[])|none=>(Ev.K.fL,[])
  |_=>(Ev.K.fL,[]))=(k,args)->cX P o a.eval S K w0 w Kn φ (au H) nxt n' v u:=by
  intro hop hk;split at hk
  .rename_i hu
   grind [KC]
  .exact plainBin hk.symm
  .exact plainBin hk.symm
  .exact plainBin hk.symm
  .rename_i hu;exact nilBin 0 hop ⟨_,hu⟩ hk.symm
  .rename_i hu;exact nilBin 1 hop ⟨_,hu⟩ hk.symm
  .rename_i hu;exact nilBin 2 hop ⟨_,_,_,hu⟩ hk.symm
  .rename_i hu;split at hk
   .rename_i hks;split at hk
    .rename_i hg
     grind [E9,fJ]
    .obtain ⟨rfl,rfl⟩:=af hk;rw[eF]at h;simp at h
   .obtain ⟨rfl,rfl⟩:=af hk;rw[eF]at h;simp at h
  .rename_i hu;split at hk
   .rename_i hks;split at hk
    .rename_i hg
     grind [E9,fJ]
    .obtain ⟨rfl,rfl⟩:=af hk;rw[eF]at h;simp at h
   .obtain ⟨rfl,rfl⟩:=af hk;rw[eF]at h;simp at h
  .obtain ⟨rfl,rfl⟩:=af hk;rw[eF]at h;simp at h
 cases op with|eql=>exact eqs (.inl rfl) hk|neq=>exact eqs (.inr rfl) hk|_=>exact plainBin hk.symm
theorem wN{α:Type}{x:Array α}{y:α}(h:x.toList=[y]):x= #[y]:=by rw[<-Array.toArray_toList (xs:=x),h]
theorem tN{α:Type}{x:Array α}{y z:α}(h:x.toList=[y,z]):x= #[y,z]:=by rw[<-Array.toArray_toList (xs:=x),h]
theorem BF{b:Builtin}{c:oc}(ho:o.op=.call c)(hcal:c.callee=.builtin b)(hk:ut P b c.args.toList c.argTypes.toList=(k,args))(hI:Inv S K w0 Kn φ (au H) w)
  (hE:jk.ok S w Kn φ e a.tmps) (hn0:nxt<n'->¬Kn nxt) (h:ci call k (args.map (kz e)) H nxt=some (v,u,av,n')):cX P o a.eval S K w0 w Kn φ (au H) nxt n' v u:=by
 have hρ:∀x tv,kz e x=some tv->fz S w Kn φ tv (a.eval x):=fun x tv h=>rK hI.Bz hE h
 have lenArgs:∀str,k=.len str->args=c.args.toList->∃x,c.args.toList=[x]:=by
  intro str hk ha;subst hk ha;generalize c.args.toList=l at h
  match l,h with|[x],_=>exact⟨x,rfl⟩|[],h=>simp[ci]at h|x::y::r,h=>simp[ci]at h
 unfold ut at hk;split at hk
 .rename_i t hts;split at hk
  .rename_i hu;obtain⟨rfl,rfl⟩:=af hk;obtain⟨x,hx⟩:=lenArgs true rfl rfl
   grind [MQ,wN]
  .rename_i hu;obtain⟨rfl,rfl⟩:=af hk;obtain⟨x,hx⟩:=lenArgs false rfl rfl;rw[hx]at h;exact MQ (str:=false) ho hcal (wN hx) (wN hts) ⟨_,hu⟩ hI (fun z hz=>hρ x z hz) h
  .obtain ⟨rfl,rfl⟩:=af hk;rw[eF]at h;simp at h
 .obtain ⟨rfl,rfl⟩:=af hk;exact Ca (m:=true) ho hcal hI hρ h
 .obtain ⟨rfl,rfl⟩:=af hk;exact Ca (m:=false) ho hcal hI hρ h
 .rename_i s x hts;split at hk
  .rename_i el el2 hus hux;split at hk
   .rename_i n z hsz hz;split at hk
    .rename_i hb;obtain⟨rfl,rfl⟩:=af hk
     have:∃p q,c.args.toList=[p,q]:=by
      generalize c.args.toList=l at h
      match l,h with|[p,q],_=>exact⟨p,q,rfl⟩|[],h=>simp[ci]at h|[p],h=>simp[ci]at h|p::q::r::t,h=>simp[ci]at h
     grind [KD,tN]
    .obtain ⟨rfl,rfl⟩:=af hk;rw[eF]at h;simp at h
   .obtain ⟨rfl,rfl⟩:=af hk;rw[eF]at h;simp at h
  .rename_i el kd hus hux;split at hk
   .rename_i n z hsz hz;split at hk
    .rename_i hb;obtain⟨rfl,rfl⟩:=af hk
     have:∃p q,c.args.toList=[p,q]:=by
      generalize c.args.toList=l at h
      match l,h with|[p,q],_=>exact⟨p,q,rfl⟩|[],h=>simp[ci]at h|[p],h=>simp[ci]at h|p::q::r::t,h=>simp[ci]at h
     grind [Sz,tN]
    .obtain ⟨rfl,rfl⟩:=af hk;rw[eF]at h;simp at h
   .obtain ⟨rfl,rfl⟩:=af hk;rw[eF]at h;simp at h
  .obtain ⟨rfl,rfl⟩:=af hk;rw[eF]at h;simp at h
 .rename_i t hts;split at hk
  .rename_i el hu;obtain⟨rfl,rfl⟩:=af hk
   have:∃p,c.args.toList=[p]:=by
    generalize c.args.toList=l at h
    match l,h with|[p],_=>exact⟨p,rfl⟩|[],h=>simp[ci]at h|p::q::r,h=>simp[ci]at h
   grind [Sw,wN]
  .obtain ⟨rfl,rfl⟩:=af hk;rw[eF]at h;simp at h
 .rename_i d x hts;split at hk
  .rename_i el hud;split at hk
   .rename_i n hsz;obtain⟨rfl,rfl⟩:=af hk
    have:∃p q,c.args.toList=[p,q]:=by
     generalize c.args.toList=l at h
     match l,h with|[p,q],_=>exact⟨p,q,rfl⟩|[],h=>simp[ci]at h|[p],h=>simp[ci]at h|p::q::r::t,h=>simp[ci]at h
    grind [PY,tN]
   .obtain ⟨rfl,rfl⟩:=af hk;rw[eF]at h;simp at h
  .obtain ⟨rfl,rfl⟩:=af hk;rw[eF]at h;simp at h
 .rename_i mt kt2 hts;split at hk
  .rename_i hu;split at hk
   .rename_i hm;obtain⟨rfl,rfl⟩:=af hk
    have:∃p q,c.args.toList=[p,q]:=by
     generalize c.args.toList=l at h
     match l,h with|[p,q],_=>exact⟨p,q,rfl⟩|[],h=>simp[ci]at h|[p],h=>simp[ci]at h|p::q::r::t,h=>simp[ci]at h
    grind [KA,tN]
   .obtain ⟨rfl,rfl⟩:=af hk;rw[eF]at h;simp at h
  .obtain ⟨rfl,rfl⟩:=af hk;rw[eF]at h;simp at h
 .rename_i d hts;split at hk
  .rename_i el hud;split at hk
   .rename_i n z hsz hz;split at hk
    .rename_i hzl;obtain⟨rfl,rfl⟩:=af hk
     have:∃p,c.args.toList=[p]:=by
      generalize c.args.toList=l at h
      match l,h with|[p],_=>exact⟨p,rfl⟩|[],h=>simp[ci]at h|p::q::r,h=>simp[ci]at h
     grind [MV,wN]
    .obtain ⟨rfl,rfl⟩:=af hk;rw[eF]at h;simp at h
   .obtain ⟨rfl,rfl⟩:=af hk;rw[eF]at h;simp at h
  .obtain ⟨rfl,rfl⟩:=af hk;rw[eF]at h;simp at h
 .obtain ⟨rfl,rfl⟩:=af hk;rw[eF]at h;simp at h
theorem Ak(hok:fg P call)(hk:vv P bM o.op=(k,args))(hI:Inv S K w0 Kn φ (au H) w)(hE:jk.ok S w Kn φ e a.tmps)(hfr:∀j,nxt<=j->j<n'->¬Kn j)
  (h:ci call k (args.map (kz e)) H nxt=some (v,u,av,n')):Q5 P o a S K w0 w Kn φ (au H) nxt n' v u:=by
 have hρ:∀x tv,kz e x=some tv->fz S w Kn φ tv (a.eval x):=fun x tv h=>rK hI.Bz hE h;have hn0:nxt<n'->¬Kn nxt:=fun h=>hfr nxt (am _) h;have fL:(k,args)=(Ev.K.fL,[])->Q5 P o a S K w0 w Kn φ (au H) nxt n' v u:=by intro hk;obtain⟨rfl,rfl⟩:=af hk;rw[eF]at h;simp at h
 generalize hop:o.op=op at hk;unfold vv at hk;split at hk
 .obtain ⟨rfl,rfl⟩:=af hk;exact(Re (.inl hop) hI (fun z hz=>hρ _ z hz) h).kr
 .obtain ⟨rfl,rfl⟩:=af hk;exact(Re (.inr hop) hI (fun z hz=>hρ _ z hz) h).kr
 .obtain ⟨rfl,rfl⟩:=af hk;exact(PW hop hI (fun z hz=>hρ _ z hz) (fun z hz=>hρ _ z hz) (fun z hz=>hρ _ z hz) h).kr
 .--alloc
  split at hk
  .rename_i hz;obtain⟨rfl,rfl⟩:=af hk;exact(MW hop hz hI hn0 h).kr
  .exact fL hk.symm
 .obtain ⟨rfl,rfl⟩:=af hk;exact(Sx hop hI hn0 (fun z hz=>hρ _ z hz) h).kr
 .--build
  split at hk
  .rename_i hu hz;split at hk
   .rename_i hpl;split at hk
    .rename_i hall;obtain⟨rfl,rfl⟩:=af hk;exact(Fa hop hz (.inl ⟨_,hu,hpl,hall⟩) hI hρ h).kr
    .exact fL hk.symm
   .exact fL hk.symm
  .rename_i hu hz;split at hk
   .rename_i hs;obtain⟨rfl,rfl⟩:=af hk;exact(Fa hop hz (.inr ⟨_,_,_,hu,hs,rfl⟩) hI hρ h).kr
   .exact fL hk.symm
  .exact fL hk.symm
 .--buildSlice
  split at hk
  .rename_i hu;split at hk
   .rename_i hs hz;split at hk
    .rename_i hl;obtain⟨rfl,rfl⟩:=af hk;exact(PZ hop hu hs hz ⟨hl.1,hl.2.1⟩ hI hn0 hρ h).kr
    split at hk
    .rename_i hl;obtain⟨rfl,rfl⟩:=af hk;exact(Bv hop hu hs hz hl hI hn0 hρ h).kr
    .exact fL hk.symm
   .exact fL hk.symm
  .exact fL hk.symm
 .--load
  split at hk
  .rename_i ha hs;obtain⟨rfl,rfl⟩:=af hk;split at h
   .rename_i hc;obtain⟨_,_,rfl,rfl⟩:=hc;exact(MP hop ha hs hI hn0 (fun z hz=>hρ _ z hz) h).kr
   .exact (I0 hop ha hs hI (fun z hz=>hρ _ z hz) h).kr
  .exact fL hk.symm
 .--store
  split at hk
  .rename_i hs;obtain⟨rfl,rfl⟩:=af hk;exact(MN hop hs hI (fun z hz=>hρ _ z hz) (fun z hz=>hρ _ z hz) h).kr
  .exact fL hk.symm
 .obtain ⟨rfl,rfl⟩:=af hk;exact(E5 hop hI (fun z hz=>hρ _ z hz) h).kr
 .exact (LA hop hk hI hE h).kr
 .obtain ⟨rfl,rfl⟩:=af hk;exact(Us hop hI (fun z hz=>hρ _ z hz) h).kr
 .--convert
  split at hk
  .rename_i hs hd;obtain⟨rfl,rfl⟩:=af hk;exact(Hv hop hs hd hI (fun z hz=>hρ _ z hz) h).kr
  .rename_i hs hd;obtain⟨rfl,rfl⟩:=af hk;exact(MU hop hs hd hI (fun z hz=>hρ _ z hz) h).kr
  .rename_i hs hd;obtain⟨rfl,rfl⟩:=af hk;exact(E_ hop hs hd hI (fun z hz=>hρ _ z hz) h).kr
  .exact fL hk.symm
 .--makeFunc
  split at hk
  .rename_i hf;obtain⟨rfl,rfl⟩:=af hk;exact(PX hop hf hI hρ h).kr
  .exact fL hk.symm
 .--makeSlice
  split at hk
  .rename_i hu;split at hk
   .rename_i hs hz;split at hk
    .rename_i hl;obtain⟨rfl,rfl⟩:=af hk;split at h
     .rename_i m hm;unfold Rh at hm;split at hm
      .rename_i hc;split at hm
       .split at hm
        .obtain rfl:=aa hm;exact(MO hop hu hs hz hl.1 hl.2 hc.2 (cL _) hI hn0 (fun z hz=>hρ _ z hz) (fun z hz=>hρ _ z hz) h).kr
        .cases hm
       .cases hm
      .cases hm
     .exact (wJ hop hu hs hz hl.1 hl.2 hI hn0 (fun z hz=>hρ _ z hz) (fun z hz=>hρ _ z hz) h).kr
    .exact fL hk.symm
   .exact fL hk.symm
  .exact fL hk.symm
 .--slice
  split at hk
  .rename_i hu;obtain⟨rfl,rfl⟩:=af hk;exact(E4 (str:=true) hop hu hI hρ h).kr
  .rename_i hu;split at hk
   .rename_i hs;obtain⟨rfl,rfl⟩:=af hk;exact(E4 (str:=false) hop ⟨_,hu,hs⟩ hI hρ h).kr
   .exact fL hk.symm
  .exact fL hk.symm
 .--CW
  split at hk
  .rename_i hu;split at hk
   .rename_i hs;obtain⟨rfl,rfl⟩:=af hk;exact(Ky hop hu hs hI hn0 hρ h).kr
   .exact fL hk.symm
  .exact fL hk.symm
 .--fieldAddr
  split at hk
  .rename_i hu;split at hk
   .rename_i hf;split at hk
    .rename_i hs;obtain⟨rfl,rfl⟩:=af hk;exact(Dd hop hu hf hs hI (fun z hz=>hρ _ z hz) h).kr
    .exact fL hk.symm
   .exact fL hk.symm
  .exact fL hk.symm
 .--field
  split at hk
  .rename_i hu;split at hk
   .rename_i hf;split at hk
    .rename_i ha hs;obtain⟨rfl,rfl⟩:=af hk;exact(MS hop hu hf ha hs hI (fun z hz=>hρ _ z hz) h).kr
    .exact fL hk.symm
   .exact fL hk.symm
  .exact fL hk.symm
 .--indexAddr
  split at hk
  .rename_i hu;split at hk
   .rename_i hs;split at hk
    .obtain ⟨rfl,rfl⟩:=af hk;exact(Su hop hu hs hI (fun z hz=>hρ _ z hz) (fun z hz=>hρ _ z hz) h).kr
    .obtain ⟨rfl,rfl⟩:=af hk;exact(wK (aG:=none) hop ⟨_,hu,hs⟩ hI (fun z hz=>hρ _ z hz) (fun z hz=>hρ _ z hz) h).kr
   .exact fL hk.symm
  .rename_i hu;split at hk
   .rename_i hs;obtain⟨rfl,rfl⟩:=af hk;exact(wK (aG:=some _) hop ⟨_,hu,hs⟩ hI (fun z hz=>hρ _ z hz) (fun z hz=>hρ _ z hz) h).kr
   .exact fL hk.symm
  .exact fL hk.symm
 .--index
  split at hk
  .rename_i hu;obtain⟨rfl,rfl⟩:=af hk;exact(E7 hop hu hI (fun z hz=>hρ _ z hz) (fun z hz=>hρ _ z hz) h).kr
  .rename_i hu;split at hk
   .rename_i ha hs;obtain⟨rfl,rfl⟩:=af hk;exact(MR hop hu ha hs hI (fun z hz=>hρ _ z hz) (fun z hz=>hρ _ z hz) h).kr
   .exact fL hk.symm
  .exact fL hk.symm
 .obtain ⟨rfl,rfl⟩:=af hk;exact(Hu hop hI (fun z hz=>hρ _ z hz) h).kr
 .--makeMap
  split at hk
  .split at hk
   .obtain ⟨rfl,rfl⟩:=af hk;exact(Ht hop hI hn0 h).kr
   .exact fL hk.symm
  .exact fL hk.symm
 .--lookup
  split at hk
  .rename_i hu;split at hk
   .rename_i hm;obtain⟨rfl,rfl⟩:=af hk;exact(KB hop hu hm hI (fun z hz=>hρ _ z hz) (fun z hz=>hρ _ z hz) h).kr
   .exact fL hk.symm
  .exact fL hk.symm
 .--mapEntry
  split at hk
  .rename_i hu;split at hk
   .rename_i hm;obtain⟨rfl,rfl⟩:=af hk;exact(E6 hop hu hm hI (fun z hz=>hρ _ z hz) (fun z hz=>hρ _ z hz) h).kr
   .exact fL hk.symm
  .exact fL hk.symm
 .--mapUpdate
  split at hk
  .rename_i hu;split at hk
   .rename_i hm;obtain⟨rfl,rfl⟩:=af hk;exact(Kz hop hu hm hI (fun z hz=>hρ _ z hz) (fun z hz=>hρ _ z hz) (fun z hz=>hρ _ z hz) h).kr
   .exact fL hk.symm
  .exact fL hk.symm
 .--entryStore
  split at hk
  .split at hk
   .obtain ⟨rfl,rfl⟩:=af hk;exact(Bu hop hI (fun z hz=>hρ _ z hz) (fun z hz=>hρ _ z hz) (fun z hz=>hρ _ z hz) h).kr
   .exact fL hk.symm
  .exact fL hk.symm
 .--call
  rename_i c;split at hk
  .rename_i hcal;exact(BF hop hcal hk hI hE hn0 h).kr
  .rename_i f hcal;split at hk
   .split at hk
    .rename_i hf;obtain⟨rfl,rfl⟩:=af hk
     have:∃p q,c.args.toList=[p,q]:=by
      generalize c.args.toList=l at h
      match l,h with|[p,q],_=>exact⟨p,q,rfl⟩|[],h=>simp[ci]at h|[p],h=>simp[ci]at h|p::q::r::t,h=>simp[ci]at h
     obtain⟨p,q,hpq⟩:=this;rw[hpq]at h;exact(Ss hop hcal (tN hpq) hf rfl hI (fun z hz=>hρ p z hz) (fun z hz=>hρ q z hz) h).kr
    .exact fL hk.symm
   .obtain ⟨rfl,rfl⟩:=af hk;exact I1 hop hcal hok hI hfr hρ h
  .rename_i hcal;obtain⟨rfl,rfl⟩:=af hk;exact I1 hop hcal hok hI hfr hρ h
  .exact fL hk.symm
 .exact fL hk.symm
end
def eE(P:Program)(bM:xp)(nt:Nat)(all:Array Oper)(o:Oper):ol:=
 {dst:=o.dst
  k:=if(match o.dst with|some d=>decide (d<nt)|none=>true)then(vv P bM o.op).1 else .fL
  args:=(vv P bM o.op).2
  guard:=match o.guard with|none=>none|some (j,b)=>some (((all[j]?).bind (·.dst)).getD 1000000000,b)}
def ui:C:=.pJ 0 []
def RG(S:Nat->Prop)(w:World)(Kn:Nat->Prop)(φ:Nat->gj)(c:C)(v:Value):Prop:=c=ui\/RC S w Kn φ c v
theorem RG.mono{S S':Nat->Prop}{w w':World}{Kn Kn':Nat->Prop}{φ φ':Nat->gj}(hs:gy S w S' w')(hr:Ren Kn φ Kn' φ'){x:C}{v:Value}(h:RG S w Kn φ x v):RG S' w' Kn' φ' x v:=h.imp id fun h=>h.mono hs hr
structure Bl(S K:Nat->Prop)(w0:World)(Kn:Nat->Prop)(φ:Nat->gj)(gv:List Value)(nt:Nat)(s:St)(a:Act)(w:World):Prop where
 inv:Inv S K w0 Kn φ (au s.heap) w
 cW:jk.ok S w Kn φ s.cW a.tmps
 size:a.tmps.size=nt
 defers:a.defers=[]
 fP:∀j,s.next<=j->¬Kn j
 gh:∀(i:Nat)(c:C)(v:Value),s.gh[i]?=some c->gv[i]?=some v->RG S w Kn φ c v
section
variable{P:Program}{S K:Nat->Prop}{w0 w:World}{Kn:Nat->Prop}{φ:Nat->gj}{gv:List Value}{nt:Nat}{a:Act}{call:Call}{bM:xp}{s s':St}
theorem C9{a:Act}{d:Nat}{v:Value}(h:d<a.tmps.size)(t:Nat):(a.put (some d) v).tmps.getD t undef=if t=d then v else a.tmps.getD t undef:=by
 simp[Act.put]
 grind
theorem nJ{a:Act}(d:Option Nat)(v:Value):(a.put d v).tmps.size=a.tmps.size:=by cases d<;>simp[Act.put]
theorem lH{a:Act}(d:Option Nat)(v:Value):(a.put d v).defers=a.defers:=by cases d<;>simp[Act.put]
theorem lV(e:jk)(d:Option Nat)(v:TV)(t:Nat):bV (put e d v) t=if d=some t then some v else bV e t:=by cases d with|none=>simp[put]|some d=>grind [put,bV]
theorem AF(e:jk)(d:Option Nat)(t:Nat):bV (drop e d) t=if d=some t then some (.gX [])else bV e t:=lV e d _ t
theorem jk.C8{e:jk}{S':Nat->Prop}{w':World}{Kn':Nat->Prop}{φ':Nat->gj}(hE:jk.ok S w Kn φ e a.tmps)(hs:gy S w S' w')(hr:Ren Kn φ Kn' φ'){d:Option Nat}{v:TV}{val:Value}
  (hd:∀x,d=some x->x<a.tmps.size) (hv:fz S' w' Kn' φ' v val):jk.ok S' w' Kn' φ' (Ev.put e d v) (a.put d val).tmps:=by
 intro t x hx;rw[lV]at hx;cases d with
 |none=>exact(hE t x hx).mono hs hr
 |some d=>
  rw[C9 (hd d rfl)];by_cases h:t=d
  .simp_all
  .have h2:=fun e=>h (aa e).symm;rw[if_neg h2]at hx;rw[if_neg h];exact(hE t x hx).mono hs hr
theorem jk.DJ{e:jk}(hE:jk.ok S w Kn φ e a.tmps){d:Option Nat}:jk.ok S w Kn φ (Ev.drop e d) (a.put d undef).tmps:=by
 intro t x hx;rw[AF]at hx;have hu:fz S w Kn φ (.gX []) undef:=.gX rfl fun i x hi=>by simp at hi
 split at hx
 .rename_i h;subst h;obtain rfl:=aa hx;have:(a.put (some t) undef).tmps.getD t undef=undef:=by simp[Act.put,Array.getElem?_setIfInBounds,if_true];split<;>rfl
  rw[this];exact hu
 .have:=hE t x hx;cases d with|none=>exact this|some d=>simp_all[Act.put]
theorem m8{e:jk}(hE:jk.ok S w Kn φ e a.tmps)(hsz:a.tmps.size<1000000000){all:Array Oper}{o:Oper}{b:Bool}(h:ke e (eE P bM nt all o).guard=some b):
  Region.wanted o (yielded all a.tmps)=b:=by
 unfold eE at h;unfold Region.wanted;cases hg:o.guard with
 |none=>rw[hg]at h;simpa[ke]using h
 |some p=>
  obtain⟨j,want⟩:=p;rw[hg]at h;simp[ke]at h;split at h
  .rename_i x hx;have hr:=hE _ _ hx;obtain⟨hv,_⟩:=hr.lit;cases hd:(all[j]?).bind (·.dst)with
   |none=>grind [cV,Array.getElem?_eq_none,undef]
   |some t=>
    have ht:a.tmps[t]?=some (.bool x):=by
     rw[cV]at hv
     grind [undef]
    obtain rfl:=aa h;simp only[yielded,hd,Option.bind_some,ht];cases x<;>cases want<;>rfl
  .rename_i hx;have hr:=hE _ _ hx;obtain rfl:=aa h;cases hd:(all[j]?).bind (·.dst)with
   |none=>simp only[yielded,hd];rfl
   |some t=>
    rw[hd]at hr;simp only[Option.getD_some]at hr;generalize hv:a.tmps.getD t undef=v at hr;cases hr with
    |@gX _ aG hlen _=>
     rw[cV]at hv
     grind [yielded]
  .simp at h
end
section
variable{H H':bp}
def gJ(H H':bp)(av:List Nat):Prop:=∀i∈av,au H' i=au H i
theorem gJ.left{a b:List Nat}(h:gJ H H' (a++b)):gJ H H' a:=fun i hi=>h i (aU _ hi)
theorem gJ.right{a b:List Nat}(h:gJ H H' (a++b)):gJ H H' b:=fun i hi=>h i (aX _ hi)
theorem vC:∀n,(∀c x av,dW H n c=some (x,av)->gJ H H' av->dW H' n c=some (x,av))/\
  (∀cs xs av,gf H n cs=some (xs,av)->gJ H H' av->gf H' n cs=some (xs,av)):=by
 have leaf:∀n c x av,(match c with|.op _ _|.pJ _ _=>False|_=>True)->dW H n c=some (x,av)->gJ H H' av->dW H' n c=some (x,av):=by
  intro n c x av hl h ha;cases c with
  |d y=>simpa only[dW]using h
  |fx sz id off len=>
   have:=ha id (by
    simp only[dW]at h
    grind)
   simp only[dW]at h|-;rw[this];exact h
  |ep id bv off=>
   have:=ha id (by
    simp only[dW]at h
    grind)
   simp only[dW]at h|-;rw[this];exact h
  |op id off=>exact hl.elim
  |pJ f caps=>exact hl.elim
  |om id=>cases n<;>simp[dW]at h
 intro n;induction n with
 |zero=>
  refine⟨fun c x av h ha=>?_,fun cs xs av h ha=>?_⟩
  .cases c with|op id off=>simp[dW]at h|pJ f caps=>simp[dW]at h|_=>exact leaf 0 _ x av trivial h ha
  grind [gf]
 |succ n ih=>
  refine⟨fun c x av h ha=>?_,fun cs xs av h ha=>?_⟩
  .cases c with
   |op id off=>
    simp only[dW]at h|-;split at h
    .rename_i ho;split at h
     .rename_i hle;obtain⟨rfl,rfl⟩:=af (aa h);rw[ha id (by simp),ho];simp only[hle,if_true]
     .simp at h
    .rename_i ho;split at h
     .rename_i hv;split at h
      .rename_i hle;obtain⟨rfl,rfl⟩:=af (aa h);rw[ha id (by simp),ho];simp only[ih.2 _ _ _ hv (fun i hi=>ha i (by simp[hi])),hle,if_true]
      .simp at h
     .simp at h
    .simp at h
   |pJ f caps=>
    simp only[dW]at h|-
    grind
   |_=>exact leaf _ _ x av trivial h ha
  .cases cs with
   |nil=>simpa only[gf]using h
   |cons c cs=>
    simp only[gf]at h|-;split at h
    .rename_i h1 h2;obtain⟨rfl,rfl⟩:=af (aa h);simp only[ih.1 _ _ _ h1 ha.left,ih.2 _ _ _ h2 ha.right]
    .simp at h
theorem pD:∀cs xs av,dn H cs=some (xs,av)->gJ H H' av->dn H' cs=some (xs,av):=by
 intro cs;induction cs with
 |nil=>intro xs av h _;simpa only[dn]using h
 |cons c cs ih=>
  intro xs av h ha;simp[dn]at h|-;split at h
  .rename_i h1 h2;obtain⟨rfl,rfl⟩:=af (aa h);simp[(vC 300).1 _ _ _ h1 ha.left,ih _ _ h2 ha.right]
  .simp at h
theorem pM{all:List Nat}(ha:gJ H H' all):∀(l:List Nat)(u:eW),(∀i∈l,i∈all)->c8 H all l=some u->c8 H' all l=some u:=by
 intro l;induction l with
 |nil=>intro u _ h;simpa only[c8]using h
 |cons a l ih=>
  intro u hl h;simp[c8]at h|-;split at h
  .rename_i o u' ho hu
   have hob:jU H' all a=some o:=by
    unfold jU at ho|-;rw[ha a (hl a (by simp))];split at ho
    .exact ho
    .exact ho
    .exact ho
    .split at ho
     .rename_i hv;split at ho
      .rename_i hall;simp only[(vC 300).2 _ _ _ hv (fun i hi=>ha i (by simp_all)),hall];exact ho
      .simp at ho
     .simp at ho
    .simp at ho
    .simp at ho
    .exact ho
    .simp at ho
   simp_all
  .simp at h
theorem Au{agg:Bool}{n:Nat}{p:C}{v:TV}{av:List Nat}(h:g_ agg n p H=some (v,av))(ha:gJ H H' av):g_ agg n p H'=some (v,av):=by
 unfold g_ at h|-;split at h
 .exact h
 .rename_i id bv off
  have:=ha id (by
   grind)
  simp[this];exact h
 .rename_i id off
  have:=ha id (by
   grind)
  simp[this];exact h
 .simp at h
theorem He{id bv sz:Nat}{slots:List k8}{cs:List C}{u:eW}{av:List Nat}(h:sW id bv sz slots cs H=some (u,av))(ha:gJ H H' av):sW id bv sz slots cs H'=some (u,av):=by
 unfold sW at h|-;split at h
 .exact h
 .rename_i sz' id2 len
  have hid:id2∈av:=by
   grind
  simp[ha id2 hid];exact h
 .simp at h
theorem Fw{agg:Bool}{n nxt n':Nat}{p:C}{v:TV}{u:eW}{av:List Nat}(h:lW agg n p H nxt=some (v,u,av,n'))(ha:gJ H H' av):g_ agg n p H'=none/\lW agg n p H' nxt=some (v,u,av,n'):=by
 unfold lW at h;split at h
 case h_2=>simp at h
 rename_i id bv;split at h
 case h_2=>simp at h
 rename_i sz slots ho
 have hid:id∈av:=by
  grind
 have ho':au H' id=some (.nst sz slots):=by rw[ha id hid];exact ho
 grind [g_,lW]
theorem Eh{n:Nat}{p:C}{v:TV}{u:eW}{av:List Nat}(h:mN n p v H=some (u,av))(ha:gJ H H' av):mN n p v H'=some (u,av):=by
 unfold mN at h|-;split at h
 .simp at h
 .rename_i cs hcs;split at h
  .rename_i hlen;simp only[hlen,if_true];split at h
   .rename_i id bv off;split at h
    .rename_i sz rows ho;split at h
     .rename_i r ds ids1 hr hv;split at h
      .rename_i u1 hfz;split at h
       .rename_i hb;obtain⟨rfl,rfl⟩:=af (aa h);have ha1:gJ H H' ids1:=fun i hi=>ha i (by simp[hi]);simp only[ha id (by simp),ho,hr,pD _ _ _ hv ha1,pM ha1 _ _ (fun i hi=>hi) hfz,hb.1,hb.2,and_self,if_true]
       .simp at h
      .simp at h
     .simp at h
    .rename_i sz slots ho;split at h
     .rename_i hc
      have hid:id∈av/\∀i,cs=[.fx sz i 0 0]->True:=by
       unfold sW at h
       grind
      simp only[ha id hid.1,ho,if_pos hc];exact He h ha
     .simp at h
    .simp at h
   .rename_i id off;split at h
    .rename_i cells ho;split at h
     .rename_i hb;obtain⟨rfl,rfl⟩:=af (aa h);simp only[ha id (by simp),ho,hb,if_true]
     .simp at h
    .simp at h
   .simp at h
  .simp at h
theorem pH{sz:Nat}{x:C}{new:List (List D)}{av:List Nat}(h:jh sz H x=some (new,av))(ha:gJ H H' av):jh sz H' x=some (new,av):=by
 unfold jh at h|-;split at h
 .exact h
 .exact h
 .rename_i sz' id off len
  have:=ha id (by
   grind)
  simp[this];exact h
 .simp at h
theorem H9{sz:Nat}{d x:C}{i:Int}{u:eW}{av:List Nat}(h:mY sz d x H=some (i,u,av))(ha:gJ H H' av):mY sz d x H'=some (i,u,av):=by
 unfold mY at h|-;split at h
 .rename_i new ids1 hr;obtain⟨_,_,rfl⟩:_/\_/\ids1=av:=by simpa using h
  rw[pH hr ha];exact h
 .rename_i new ids1 sz' id off len hr;split at h
  .rename_i szo rows ho;split at h
   .rename_i hb;obtain⟨_,_,rfl⟩:_/\_/\id::ids1=av:=by simpa using h
    rw[pH hr fun j hj=>ha j (aI _ hj)];simp only[ha id (by simp),ho,if_pos hb];exact h
   .simp at h
  .simp at h
 .simp at h
theorem F_{sz:Nat}{d x:C}{i:Int}{u:eW}{av:List Nat}(h:pO sz d x H=some (i,u,av))(ha:gJ H H' av):pO sz d x H'=some (i,u,av)/\mY sz d x H'=none:=by
 unfold pO at h|-;split at h
 case h_2=>simp at h
 rename_i sz' id off len sz2 id2 off2 len2
 have hids:av=[id,id2]:=by
  grind
 subst hids;have a1:=ha id (by simp);have a2:=ha id2 (by simp);unfold mY
 grind
theorem DP{sz nxt n':Nat}{s x:C}{v:TV}{u:eW}{av:List Nat}(h:o9 sz s x H nxt=some (v,u,av,n'))(ha:gJ H H' av):o9 sz s x H' nxt=some (v,u,av,n'):=by
 unfold o9 at h|-;split at h
 .simp at h
 .rename_i new ids1 hr;split at h
  .grind [pH]
  .rename_i sz' id off len;split at h
   .rename_i szo rows ho;split at h
    .rename_i hb;have e1:id::ids1=av:=by simp_all
     subst e1;simp only[pH hr (fun i hi=>ha i (by simp[hi])),ha id (by simp),ho];rw[if_pos hb];exact h
    .simp at h
   .simp at h
  .simp at h
theorem Hm:∀n,(∀c t bk rd,dE H n c=some (t,bk,rd)->gJ H H' rd->dE H' n c=some (t,bk,rd))/\
  (∀cs ts bk rd,iU H n cs=some (ts,bk,rd)->gJ H H' rd->iU H' n cs=some (ts,bk,rd)):=by
 have leaf:∀n c t bk rd,(match c with|.op _ _=>False|_=>True)->dE H n c=some (t,bk,rd)->gJ H H' rd->dE H' n c=some (t,bk,rd):=by
  intro n c t bk rd hl h ha;cases c with
  |d y=>cases n<;>simpa only[dE]using h
  |fx sz id off len=>
   have hm:id∈rd:=by
    cases n<;>
    .grind [dE]
   have:=ha id hm;cases n<;>
   .simp only[dE]at h|-;rw[this];exact h
  |ep id bv off=>cases n<;>simp[dE]at h
  |pJ f caps=>cases n<;>simp[dE]at h
  |om id=>
   simp only[dE]at h|-
   have hm:id∈rd:=by
    grind
   rw[ha id hm];exact h
  |op id off=>exact hl.elim
 intro n;induction n with
 |zero=>
  refine⟨fun c t bk rd h ha=>?_,fun cs ts bk rd h ha=>?_⟩
  .cases c with|op id off=>simp[dE]at h|_=>exact leaf 0 _ t bk rd trivial h ha
  grind [iU]
 |succ n ih=>
  refine⟨fun c t bk rd h ha=>?_,fun cs ts bk rd h ha=>?_⟩
  .cases c with
   |op id off=>
    cases off with
    |succ off=>simp[dE]at h
    |zero=>
     simp only[dE]at h|-;split at h
     .rename_i ho;split at h
      .rename_i ts own' rd' hp;obtain⟨h1,h2,h3⟩:=(by simpa using h:T.pt ts=t/\id::own'=bk/\id::rd'=rd)
       subst h1 h2 h3;rw[ha id (by simp),ho];simp only[ih.2 _ _ _ _ hp (fun i hi=>ha i (by simp[hi]))]
      .simp at h
     .rename_i cells ho;obtain⟨h1,h2,h3⟩:=(by simpa using h:T.d (.pt cells)=t/\[]=bk/\[id]=rd)
      subst h1 h2 h3;rw[ha id (by simp),ho]
     .simp at h
   |_=>exact leaf _ _ t bk rd trivial h ha
  .cases cs with
   |nil=>simpa only[iU]using h
   |cons c cs=>
    simp only[iU]at h|-;split at h
    .rename_i t0 a i0 ts0 b j0 h1 h2;obtain⟨e1,e2,e3⟩:=(by simpa using h:t0::ts0=ts/\a++b=bk/\i0++j0=rd)
     subst e1 e2 e3;simp only[ih.1 _ _ _ _ h1 ha.left,ih.2 _ _ _ _ h2 ha.right]
    .simp at h
theorem A_:∀(tvs:List TV)(ms:List Bool)(as:List A)(av:List Nat)(lent:List (C×List Nat×List Nat)),gm H tvs ms=some (as,av,lent)->gJ H H' av->gJ H H' (lent.flatMap (·.2.2))->
  gm H' tvs ms=some (as,av,lent):=by
 intro tvs;induction tvs with
 |nil=>intro ms as av lent h _ _;simpa only[gm]using h
 |cons t tvs ih=>
  intro ms as av lent h ha hb;simp[gm]at h|-;split at h
  .simp at h
  .rename_i as1 ids1 lent1 hrec;split at h
   .rename_i hm;split at h
    .split at h
     .rename_i t0 bk rd hp;obtain⟨e1,e2,e3⟩:=(by simpa using h:A.mt t0::as1=as/\ids1=av/\(_,bk,rd)::lent1=lent)
      subst e1 e2 e3;simp only[ih _ _ _ _ hrec ha hb.right,hm,if_true,(Hm 300).1 _ _ _ _ hp hb.left]
     .simp at h
    .simp at h
   .rename_i hm;split at h
    .split at h
     .rename_i x i hv;obtain⟨e1,e2,e3⟩:=(by simpa using h:A.d x::as1=as/\i++ids1=av/\lent1=lent)
      subst e1 e2 e3;simp only[ih _ _ _ _ hrec ha.right hb,hm,if_false,bD,(vC 300).1 _ _ _ hv ha.left]
     .simp at h
    .split at h
     .rename_i xs i hv;obtain⟨e1,e2,e3⟩:=(by simpa using h:A.agg xs::as1=as/\i++ids1=av/\lent1=lent)
      subst e1 e2 e3;simp only[ih _ _ _ _ hrec ha.right hb,hm,if_false,bD,pD _ _ _ hv ha.left]
     .simp at h
    .simp at h
theorem Jf:∀(tvs:List TV)(ms:List Bool)(as:List A)(av:List Nat)(lent:List (C×List Nat×List Nat)),gm H tvs ms=some (as,av,lent)->
  ∀c bk rd,(c,bk,rd)∈lent->∃t,dE H 300 c=some (t,bk,rd):=by
 intro tvs;induction tvs with
 |nil=>
  intro ms as av lent h c bk rd hm;obtain⟨_,_,rfl⟩:[]=as/\[]=av/\[]=lent:=by simpa[gm]using h
  simp at hm
 |cons t tvs ih=>
  intro ms as av lent h c bk rd hm;simp[gm]at h;split at h
  .simp at h
  .rename_i as1 ids1 lent1 hrec;split at h
   .split at h
    .split at h
     .rename_i c0 _ t0 own0 rd0 hp;obtain⟨_,_,e3⟩:=(by simpa using h:A.mt t0::as1=as/\ids1=av/\(_,own0,rd0)::lent1=lent)
      subst e3;rcases aW.1 hm with hm|hm
      .simp at hm;obtain⟨g1,g2,g3⟩:=hm;rw[g1,g2,g3];exact⟨_,hp⟩
      .exact ih _ _ _ _ hrec c bk rd hm
     .simp at h
    .simp at h
   .split at h
    .split at h
     .obtain ⟨_,_,e3⟩:=(by simpa using h:_/\_/\lent1=lent)
      subst e3;exact ih _ _ _ _ hrec c bk rd hm
     .simp at h
    .split at h
     .obtain ⟨_,_,e3⟩:=(by simpa using h:_/\_/\lent1=lent)
      subst e3;exact ih _ _ _ _ hrec c bk rd hm
     .simp at h
    .simp at h
theorem yt:∀(l:List (C×List Nat×List Nat)),(∀c bk rd,(c,bk,rd)∈l->∃t,dE H 300 c=some (t,bk,rd))->gJ H H' (l.flatMap (·.2.2))->dY H' l=dY H l:=by
 intro l;induction l with
 |nil=>intro _ _;rfl
 |cons p l ih=>
  obtain⟨c,bk,rd⟩:=p;intro hp ha;have h1:=ih (fun c bk rd hm=>hp c bk rd (by simp[hm])) ha.right;cases c with
  |fx sz id off len=>
   have hm:id∈rd:=by
    grind [dE]
   simp[dY,h1,ha.left id hm]
  |_=>simp[dY,h1]
theorem Ik{call:Call}{ro:Bool}{kq:List Bool}{f:Option TV}{vs:List (Option TV)}{nxt n':Nat}{v:TV}{u:eW}{av:List Nat}(h:vW call ro kq f vs H nxt=some (v,u,av,n'))(ha:gJ H H' av):
  vW call ro kq f vs H' nxt=some (v,u,av,n'):=by
 unfold vW at h|-;split at h
 .split at h
  .simp at h
  .rename_i as ids1 lent hargs;split at h
   .rename_i hcond;split at h
    .simp at h
    .rename_i rs outs hcall;by_cases hro:ro=true
     .rw [if_pos hro]at h;split at h
      .split at h
       .simp at h
       .rename_i bu m hbk;have e1:ids1++lent.flatMap (·.2.2)=av:=by simp_all
        subst e1;simp only[A_ _ _ _ _ _ hargs ha.left ha.right];rw[if_pos (by rw[yt lent (Jf _ _ _ _ _ hargs) ha.right];exact hcond)];simp_all
      .simp at h
     .rw [if_neg hro]at h;split at h
      .simp at h
      .rename_i fu hfz;split at h
       .simp at h
       .rename_i bu m hbk;have e1:ids1++lent.flatMap (·.2.2)=av:=by simp_all
        subst e1;simp only[A_ _ _ _ _ _ hargs ha.left ha.right];rw[if_pos (by rw[yt lent (Jf _ _ _ _ _ hargs) ha.right];exact hcond)];simp only[hcall];rw[if_neg hro];simp only[pM ha.left _ _ (fun i hi=>hi) hfz,hbk];exact h
   .simp at h
 .simp at h
theorem yo{call:Call}{sz len:Nat}{zero:List Value}{places:List Nat}{vs:List (Option TV)}{nxt n':Nat}{v:TV}{u:eW}{av:List Nat}
  (h:ci call (.buildSlice sz len zero places) vs H nxt=some (v,u,av,n')) (ha:gJ H H' av):ci call (.buildSlice sz len zero places) vs H' nxt=some (v,u,av,n'):=by
 have key:∀G,ci call (.buildSlice sz len zero places) vs G nxt=(match dD vs with
  |some xs=>
   (match kU _ _ with
   |some cs=>
    (match dn G cs with
    |some (ds,av)=>(match c8 G av av with|some u=>some (TV.c _,(nxt,some _)::u,av,nxt+1)|none=>none)
    |none=>none)
   |none=>none)
  |none=>none):=fun _=>rfl
 rw[key]at h|-;split at h
 .split at h
  .split at h
   .grind [pD,pM]
   .simp at h
  .simp at h
 .simp at h
theorem Dj{ka va ok:Bool}{ks:List Kd}{z:List Value}{m:C}{k v:TV}{av:List Nat}(h:ir ka ks va z ok m k H=some (v,av))(ha:gJ H H' av):ir ka ks va z ok m k H'=some (v,av):=by
 unfold ir at h|-;split at h
 .exact h
 .rename_i id key hkey
  have hid:id∈av:=by
   grind
  simp[ha id hid];exact h
 .simp at h
theorem F3{ka va:Bool}{ks:List Kd}{z:List Value}{m:C}{k v:TV}{u:eW}{av:List Nat}(h:nP ka ks va z m k H=some (v,u,av))(ha:gJ H H' av):nP ka ks va z m k H'=some (v,u,av):=by
 unfold nP at h|-;split at h
 .rename_i id key hkey
  have hid:id∈av:=by
   grind
  simp only[ha id hid];exact h
 .simp at h
theorem DF{va:Bool}{n:Nat}{m:C}{s:Option TV}{x:TV}{u:eW}{av:List Nat}(h:nQ va n m s x H=some (u,av))(ha:gJ H H' av):nQ va n m s x H'=some (u,av):=by
 unfold nQ at h|-;split at h
 .rename_i id s1 ds dR hds
  have hid:id∈av:=by
   grind
  simp[ha id hid];exact h
 .simp at h
theorem z8{str:Bool}{sz:Nat}{x y:C}{l m:Int}{av:List Nat}(h:oF str sz x l m H=some (y,av))(ha:gJ H H' av):oF str sz x l m H'=some (y,av):=by
 unfold oF at h|-;split at h
 .rename_i sz' id off len
  have hid:id∈av:=by
   grind
  simp[ha id hid];exact h
 .simp at h
theorem Ge{z:List Value}{x:C}{u:eW}{av:List Nat}(h:pP z x H=some (u,av))(ha:gJ H H' av):pP z x H'=some (u,av):=by
 unfold pP at h|-;split at h
 .rename_i sz id off len
  have hid:id∈av:=by
   grind
  simp[ha id hid];exact h
 .simp at h
theorem HA{ka va:Bool}{ks:List Kd}{n:Nat}{m:C}{k x:TV}{u:eW}{av:List Nat}(h:sX ka ks va n m k x H=some (u,av))(ha:gJ H H' av):sX ka ks va n m k x H'=some (u,av):=by
 unfold sX at h|-;split at h
 .rename_i id key cs hkey hcs;split at h
  .rename_i ds ids1 hv;split at h
   .rename_i fu hfz
    have hids:av=id::ids1:=by
     grind
    subst hids;have ha1:gJ H H' ids1:=fun i hi=>ha i (by simp[hi]);simp only[pD _ _ _ hv ha1,pM ha1 _ _ (fun i hi=>hi) hfz,ha id (by simp)];exact h
   .simp at h
  .simp at h
 .simp at h
theorem HE{ka:Bool}{ks:List Kd}{m:C}{k:TV}{u:eW}{av:List Nat}(h:sY ka ks m k H=some (u,av))(ha:gJ H H' av):sY ka ks m k H'=some (u,av):=by
 unfold sY at h|-;split at h
 .exact h
 .rename_i id key hkey
  have hid:id∈av:=by
   grind
  simp[ha id hid];exact h
 .simp at h
def Iy:Ev.K->Bool
 |.vq|.uc _ _ _ _|.ud _ _|.slice _ _ _ _|.clear _|.OA|.Vr _|.Uq|.load _ _|.store _|.buildSlice _ _ _ _|.append _|.copy _|.call _ _|.lookup _ _ _ _ _|.mapEntry _ _ _ _|.entryStore _ _=>true
 |_=>false
theorem Le{call:Call}{k:Ev.K}{vs:List (Option TV)}{nxt:Nat}(hk:Iy k=false):ci call k vs H nxt=ci call k vs H' nxt:=by
 cases k<;>first
  |(simp[Iy]at hk;done)
  |(unfold ci;split<;>first|rfl|simp_all)
theorem Lf{call:Call}{k:Ev.K}{vs:List (Option TV)}{nxt n':Nat}{v:TV}{u:eW}{av:List Nat}(h:ci call k vs H nxt=some (v,u,av,n'))(ha:gJ H H' av):
  ci call k vs H' nxt=some (v,u,av,n'):=by
 cases k with
 |load agg n=>
  match vs,h with
  |[some (.c p)],h=>
   change (match g_ agg n p H with|some (v,av)=>some (v,[],av,nxt)|none=>none)=_ at h;show(match g_ agg n p H' with|some (v,av)=>some (v,[],av,nxt)|none=>none)=_
   grind [Au]
 |vq=>
  match vs,h with
  |[some (.c p)],h=>
   change (match g_ false 1 p H with|some (v,av)=>some (v,[],av,nxt)|none=>lW false 1 p H nxt)=_ at h;show(match g_ false 1 p H' with|some (v,av)=>some (v,[],av,nxt)|none=>lW false 1 p H' nxt)=_
   grind [Au,Fw]
 |uc ka ks va n=>
  match vs,h with
  |[some (.c m),some k,some x],h=>
   change (match sX ka ks va n m k x H with|some (u,av)=>some (TV.gX [],u,av,nxt)|none=>none)=_ at h;show(match sX ka ks va n m k x H' with|some (u,av)=>some (TV.gX [],u,av,nxt)|none=>none)=_
   grind [HA]
 |ud ka ks=>
  match vs,h with
  |[some (.c m),some k],h=>
   change (match sY ka ks m k H with|some (u,av)=>some (TV.gX [],u,av,nxt)|none=>none)=_ at h;show(match sY ka ks m k H' with|some (u,av)=>some (TV.gX [],u,av,nxt)|none=>none)=_
   grind [HE]
 |store n=>
  match vs,h with
  |[some (.c p),some x],h=>
   change (match mN n p x H with|some (u,av)=>some (TV.gX [],u,av,nxt)|none=>none)=_ at h;show(match mN n p x H' with|some (u,av)=>some (TV.gX [],u,av,nxt)|none=>none)=_
   grind [Eh]
 |buildSlice sz len zero places=>exact yo h ha
 |clear z=>
  match vs,h with
  |[some (.c d)],h=>
   change (match pP z d H with|some (u,av)=>some (TV.gX [],u,av,nxt)|none=>none)=_ at h;show(match pP z d H' with|some (u,av)=>some (TV.gX [],u,av,nxt)|none=>none)=_
   grind [Ge]
 |slice str sz lo hi=>
  have dH:hi=false->ci call (.slice str sz lo hi) vs H nxt=ci call (.slice str sz lo hi) vs H' nxt:=by
   intro hlh
   cases lo<;>cases hi<;>first
    |(simp at hlh;done)
    |(match vs with
     |[]=>rfl
     |none::_=>rfl
     |some (.agg _)::_=>rfl
     |some (.gX _)::_=>rfl
     |some (.c _)::[]=>rfl
     |some (.c _)::_::[]=>rfl
     |some (.c _)::_::_::_=>rfl)
  cases hi with
  |false=>rw[<-dH rfl];exact h
  |true=>
   cases lo with
   |false=>
    match vs,h with
    |[some (.c x),m],h=>
     change (match ce m with
      |some m=>(match fI str sz x none (some m)with
       |some y=>some (TV.c y,([]:eW),([]:List Nat),nxt)
       |none=>(match oF str sz x 0 m H with|some (y,av)=>some (TV.c y,([]:eW),av,nxt)|none=>none))
      |none=>none)=_ at h
     show(match ce m with
      |some m=>(match fI str sz x none (some m)with
       |some y=>some (TV.c y,([]:eW),([]:List Nat),nxt)
       |none=>(match oF str sz x 0 m H' with|some (y,av)=>some (TV.c y,([]:eW),av,nxt)|none=>none))
      |none=>none)=_
     grind [z8]
   |true=>
    match vs,h with
    |[some (.c x),l,m],h=>
     change (match ce l,ce m with
      |some l,some m=>(match fI str sz x (some l) (some m)with
       |some y=>some (TV.c y,([]:eW),([]:List Nat),nxt)
       |none=>(match oF str sz x l m H with|some (y,av)=>some (TV.c y,([]:eW),av,nxt)|none=>none))
      |_,_=>none)=_ at h
     show(match ce l,ce m with
      |some l,some m=>(match fI str sz x (some l) (some m)with
       |some y=>some (TV.c y,([]:eW),([]:List Nat),nxt)
       |none=>(match oF str sz x l m H' with|some (y,av)=>some (TV.c y,([]:eW),av,nxt)|none=>none))
      |_,_=>none)=_
     grind [z8]
 |append sz=>match vs,h with|[some (.c s),some (.c x)],h=>exact DP (s:=s) (x:=x) h ha
 |copy sz=>
  match vs,h with
  |[some (.c d),some (.c x)],h=>
   change (match mY sz d x H with|some (i,u,av)=>some (lv (.int .i64 i),u,av,nxt)|none=>(match pO sz d x H with|some (i,u,av)=>some (lv (.int .i64 i),u,av,nxt)|none=>none))=_ at h;show(match mY sz d x H' with|some (i,u,av)=>some (lv (.int .i64 i),u,av,nxt)|none=>(match pO sz d x H' with|some (i,u,av)=>some (lv (.int .i64 i),u,av,nxt)|none=>none))=_
   grind [H9,F_]
 |OA=>
  match vs,h with
  |[some (.c x)],h=>
   change (match AN x H with|some (n,av)=>some (lv (.int .i64 n),([]:eW),av,nxt)|none=>none)=_ at h;show(match AN x H' with|some (n,av)=>some (lv (.int .i64 n),([]:eW),av,nxt)|none=>none)=_;split at h
   .rename_i m ids1 hl;obtain⟨_,_,h3,_⟩:=(by simpa using h:_/\_/\_=av/\_)
    subst h3
    have:AN x H'=some (m,ids1):=by
     unfold AN at hl|-;split at hl
     .rename_i id off len
      have hid:id∈ids1:=by
       grind
      simp only[ha id hid];exact hl
     .simp at hl
    rw[this];exact h
   .simp at h
 |Uq=>
  match vs,h with
  |[some (.c x),some (.c y)],h=>
   change (match AL x y H with|some av=>some (lv (.bool false),([]:eW),av,nxt)|none=>none)=_ at h;show(match AL x y H' with|some av=>some (lv (.bool false),([]:eW),av,nxt)|none=>none)=_;split at h
   .rename_i ids1 hl;obtain⟨_,_,h3,_⟩:=(by simpa using h:_/\_/\_=av/\_)
    subst h3
    have:AL x y H'=some ids1:=by
     unfold AL at hl|-;split at hl
     .rename_i a o1 l1 sz2 b o2 l2
      have hid:ids1=[a,b]:=by
       grind
      subst hid;simp only[ha a (by simp),ha b (by simp)];exact hl
     .simp at hl
    rw[this];exact h
   .simp at h
 |Vr z=>
  match vs,h with
  |[some (.c x),some (.c (.d (.lit (.int k1 k))))],h=>
   change Ct z x k H nxt=_ at h;show Ct z x k H' nxt=_;unfold Ct at h|-;split at h
   .rename_i sz' id off len
    have hid:id∈av:=by
     grind
    simp only[ha id hid];exact h
   .simp at h
 |call ro kq=>match vs,h with|f::vs,h=>exact Ik (f:=f) (vs:=vs) h ha
 |lookup ka ks va z ok=>
  match vs,h with
  |[some (.c m),some k],h=>
   change (match ir ka ks va z ok m k H with|some (v,av)=>some (v,([]:eW),av,nxt)|none=>none)=_ at h;show(match ir ka ks va z ok m k H' with|some (v,av)=>some (v,([]:eW),av,nxt)|none=>none)=_
   grind [Dj]
 |mapEntry ka ks va z=>
  match vs,h with
  |[some (.c m),some k],h=>
   change (match nP ka ks va z m k H with|some (v,u,av)=>some (v,u,av,nxt)|none=>none)=_ at h;show(match nP ka ks va z m k H' with|some (v,u,av)=>some (v,u,av,nxt)|none=>none)=_
   grind [F3]
 |entryStore va n=>
  match vs,h with
  |[some (.c m),s,some x],h=>
   change (match nQ va n m s x H with|some (u,av)=>some (TV.gX [],u,av,nxt)|none=>none)=_ at h;show(match nQ va n m s x H' with|some (u,av)=>some (TV.gX [],u,av,nxt)|none=>none)=_
   grind [DF]
 |_=>rw[Le (H:=H') (H':=H) rfl];exact h
end
end Go.Ev
