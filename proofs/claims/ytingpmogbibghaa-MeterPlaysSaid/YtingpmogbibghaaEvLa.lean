/- Comparisons of plain cells, and maps: the model's operations against the abstract machine's. Conditions: the relation of XEvC. -/
import Derived.Test.YtingpmogbibghaaEvL
import Derived.ChangeKeysEq
import Derived.WideKeyRuns
open Array renaming getElem?_append_left->bT,getElem?_eq_some_iff->aT,getElem?_toList->aQ,length_toList->dp,size_append->eN
open Bool renaming and_eq_true->ae,false_eq_true->aG
open List renaming all_eq_true->aL,drop_drop->cj,getElem?_append_left->bm,getElem?_append_right->bw,getElem?_cons_succ->c_,getElem?_cons_zero->bJ,getElem?_eq_some_iff->af,getElem?_map->aC,getElem?_range->fR,getElem?_replicate->bY,getElem?_toArray->bE,getElem_of_mem->eV,headD_cons->bd,length_append->bh,length_drop->ew,length_eq_one_iff->dV,length_eq_zero_iff->aV,length_replicate->bW,length_take->eu,map_cons->am,map_nil->aO,map_toArray->cS,mem_cons->aE,mem_of_getElem?->aS,range->dJ,replicate->au,size_toArray->eM,take_of_length_le->dj
open List.cons renaming inj->bz
open Nat renaming add_mul->bf,add_zero->ci,le_refl->ai,le_succ->a_,lt_succ_self->aN,min_le_right->fc,mod_eq_of_lt->WX,mul_le_mul_right->aw,succ_mul->cg,succ_pos->bV,zero_add->bl,zero_le->gi,zero_mul->eC
open Option renaming bind_eq_some_iff->dM,map_eq_some_iff->aA,map_none->gw,map_some->bB
open Option.some renaming inj->aa,injEq->bp
open Prod.mk renaming inj->ad
namespace Go.Ev
section
variable{P:Program}{S K:Nat->Prop}{w0 w:World}{Kn:Nat->Prop}{φ:Nat->d_}{H:aY}{e:fN}{ρ:Operand->Value}{o:Oper}{call:Call}
 {nxt n':Nat} {v:TV} {u:de} {aj:List Nat}
def lU(ag:Bool)(xs:List Value):Value:=if ag then .agg xs.toArray else xs.headD undef
theorem oE:∀(d:Nat)(t:TypeId)(ks:List Kd),rN P d t=some ks->dm P t=some ks.length/\∃ag,du P t=some ag/\(ag=false->ks.length=1):=by
 intro d t ks h;cases d with
 |zero=>simp[rN]at h
 |succ d=>
  unfold rN at h;split at h
  .rename_i hu;split at h
   .rename_i hs;obtain rfl:=aa h;exact⟨hs,false,by simp[du,hu],fun _=>rfl⟩
   .simp at h
  .rename_i hu;split at h
   .rename_i hs;obtain rfl:=aa h;exact⟨hs,false,by simp[du,hu],fun _=>rfl⟩
   .simp at h
  .rename_i hu;split at h
   .rename_i hs;obtain rfl:=aa h;exact⟨hs,false,by simp[du,hu],fun _=>rfl⟩
   .simp at h
  .rename_i n el hu;split at h
   .split at h
    .rename_i ks1 _ hs;obtain rfl:=aa h;refine⟨?_,true,by simp[du,hu],fun h=>by simp at h⟩;rw[hs.2];simp[List.length_flatten]
    .simp at h
   .simp at h
  .rename_i fs hu;split at h
   .split at h
    .rename_i hs;obtain rfl:=aa h;exact⟨hs.2,true,by simp[du,hu],fun h=>by simp at h⟩
    .simp at h
   .simp at h
  .simp at h
theorem yB{t:TypeId}{n:Nat}(h:dm P t=some n):P.cellsOf t=n:=by simp only[dm]at h;simp[Program.cellsOf,h]
theorem EV{t:TypeId}{n:Nat}(h:dm P t=some n):∃i,P.info? t=some i:=by simp only[dm,aA]at h;obtain⟨i,hi,_⟩:=h;exact⟨i,hi⟩
theorem jJ{t:TypeId}{n:Nat}{ag:Bool}(hn:dm P t=some n)(ha:du P t=some ag)(h1:ag=false->n=1){xs:List Value}{off:Nat}(hfit:off+n<=xs.length)(w:World):
  (part t xs.toArray off).run P w=.ok (lU ag ((xs.drop off).take n)) w:=by
 cases ag with
 |true=>simp only[part,Sem.run_bind,mF ha,Result.andThen_ok,if_true,eF hn,Sem.run_pure,lU];congr 2;apply Array.ext';simp[List.extract_eq_take_drop]
 |false=>
  obtain rfl:=h1 rfl;have hlt:off<xs.length:=by omega
  have e1:(xs.drop off).take 1=[xs[off]]:=by rw[List.drop_eq_getElem_cons hlt];rfl
  simp only[part,Sem.run_bind,mF ha,Result.andThen_ok,aG,if_false,lU,e1,bd];have:xs.toArray[off]?=some xs[off]:=by simp[hlt]
  rw[this];rfl
theorem gP:∀{ks:List Kd}{xs ys:List Value}{b:Bool},QK ks xs ys=some b->xs.length=ks.length/\ys.length=ks.length:=by
 intro ks;induction ks with
 |nil=>intro xs ys b h;cases xs<;>cases ys<;>simp_all[QK]
 |cons k ks ih=>
  intro xs ys b h;cases xs with
  |nil=>simp[QK]at h
  |cons x xs=>
   cases ys with
   |nil=>simp[QK]at h
   |cons y ys=>
    simp only[QK]at h;split at h
    .rename_i a c ha hc;obtain⟨h1,h2⟩:=ih hc;exact⟨by simp[h1],by simp[h2]⟩
    .simp at h
theorem wd:∀{ks ls:List Kd}{xs ys:List Value}{b:Bool},QK (ks++ls) xs ys=some b->
  ∃b1 b2,QK ks (xs.take ks.length) (ys.take ks.length)=some b1/\QK ls (xs.drop ks.length) (ys.drop ks.length)=some b2/\b=(b1&&b2):=by
 intro ks;induction ks with
 |nil=>intro ls xs ys b h;exact⟨true,b,by simp[QK],by simpa using h,by simp⟩
 |cons k ks ih=>
  intro ls xs ys b h;cases xs with
  |nil=>simp[QK]at h
  |cons x xs=>
   cases ys with
   |nil=>simp[QK]at h
   |cons y ys=>
    simp only[List.cons_append,QK]at h;split at h
    .rename_i a c ha hc;obtain rfl:=aa h;obtain⟨b1,b2,h1,h2,rfl⟩:=ih hc;exact⟨a&&b1,b2,by simp[QK,ha,h1],by simpa using h2,by rw[Bool.and_assoc]⟩
    .simp at h
theorem DB{a b:ByteArray}(h:(a==b)=true):a=b:=by
 obtain⟨x⟩:=a;obtain⟨y⟩:=b;have e:x=y:=by simpa using(show(x==y)=true from h)
 rw[e]
theorem Hh{k:Kd}{x y:Value}(h:uF k x y=some true):x=y:=by
 unfold uF at h;split at h
 .split at h
  .rename_i hk;obtain⟨rfl,rfl⟩:=hk;obtain rfl:_=_:=by simpa using h
   rfl
  .simp at h
 .obtain rfl:_=_:=by simpa using h
  rfl
 .have:=DB (aa h);rw[this]
 .simp at h
theorem E7:∀{ks:List Kd}{xs ys:List Value},QK ks xs ys=some true->xs=ys:=by
 intro ks;induction ks with
 |nil=>intro xs ys h;cases xs<;>cases ys<;>simp_all[QK]
 |cons k ks ih=>
  intro xs ys h;cases xs with
  |nil=>simp[QK]at h
  |cons x xs=>
   cases ys with
   |nil=>simp[QK]at h
   |cons y ys=>
    simp only[QK]at h;split at h
    .rename_i a c ha hc;have h2:=aa h;rw[ae]at h2;obtain⟨rfl,rfl⟩:=h2;rw[Hh ha,ih hc]
    .simp at h
def HT(P:Program)(D:Nat)(t:TypeId)(ks:List Kd)(ag:Bool):Prop:=∀(xs ys:List Value)(b:Bool)(w:World),QK ks xs ys=some b->(Op.equalIn D t (lU ag xs) (lU ag ys)).run P w=.ok b w
theorem rR{D d:Nat}(w:World)(ih:∀(t:TypeId)(ks:List Kd),rN P d t=some ks->∀ag,du P t=some ag->HT P D t ks ag)(xs ys:List Value):
  ∀(fs:List Field)(off:Nat)(ks:List Kd)(b:Bool),Gj P (rN P d) fs off=some ks->off<=xs.length->off<=ys.length->QK ks (xs.drop off) (ys.drop off)=some b->(Op.eqFields D xs.toArray ys.toArray fs).run P w=.ok b w:=by
 intro fs;induction fs with
 |nil=>
  intro off ks b h _ _ he;obtain rfl:[]=ks:=by simpa[Gj]using h
  obtain⟨h1,h2⟩:=gP he;rw[aV.1 h1,aV.1 h2]at he;obtain rfl:true=b:=by simpa[QK]using he
  simp[Op.eqFields]
 |cons f fs ihf=>
  intro off ks b h o1 o2 he;simp only[Gj]at h;split at h
  .rename_i hc;obtain⟨hoff,hname⟩:=hc;split at h
   .rename_i k1 hk1;split at h
    .rename_i hsz;split at h
     .rename_i l hl;obtain rfl:=aa h;obtain⟨_,ag,hag,hone⟩:=oE d f.type k1 hk1;obtain⟨l1,l2⟩:=gP he;rw[ew,bh]at l1 l2;obtain⟨b1,b2,h1,h2,rfl⟩:=wd he;have hfit1:f.offset+k1.length<=xs.length:=by omega
      have hfit2:f.offset+k1.length<=ys.length:=by omega
      have p1:=jJ (w:=w) hsz hag hone hfit1;have p2:=jJ (w:=w) hsz hag hone hfit2;rw[hoff]at p1 p2;have p3:=ih f.type k1 hk1 ag hag _ _ b1 w h1;rw[cj]at h2;have p4:=ihf (off+k1.length) l b2 hl (by omega) (by omega) (by simpa[cj,Nat.add_comm]using h2);simp only[Op.eqFields,hname,ne_eq,not_false_eq_true,if_true,Sem.run_bind,hoff,p1,p2,p3,Result.andThen_ok];cases b1
      .simp
      .simpa using p4
     .simp at h
    .simp at h
   .simp at h
  .simp at h
theorem tH{D:Nat}{t:TypeId}{ks:List Kd}{ag:Bool}(w:World)(hn:dm P t=some ks.length)(ha:du P t=some ag)(h1:ag=false->ks.length=1)(ih:HT P D t ks ag)(xs ys:List Value):
  ∀(n i:Nat)(b:Bool),i*ks.length<=xs.length->i*ks.length<=ys.length->QK (au n ks).flatten (xs.drop (i*ks.length)) (ys.drop (i*ks.length))=some b->
   (Op.eqItems D t ks.length xs.toArray ys.toArray (List.range' i n)).run P w=.ok b w:=by
 intro n;induction n with
 |zero=>
  intro i b _ _ he;obtain⟨h1,h2⟩:=gP he;rw[aV.1 h1,aV.1 h2]at he;obtain rfl:true=b:=by simpa[QK]using he
  simp[Op.eqItems]
 |succ n ihn=>
  intro i b o1 o2 he;rw[List.replicate_succ,List.flatten_cons]at he;obtain⟨l1,l2⟩:=gP he;rw[ew,bh]at l1 l2;obtain⟨b1,b2,q1,q2,rfl⟩:=wd he;have e1:(i+1)*ks.length=i*ks.length+ks.length:=cg ..;have p1:=jJ (w:=w) hn ha h1 (xs:=xs) (off:=i*ks.length) (by omega);have p2:=jJ (w:=w) hn ha h1 (xs:=ys) (off:=i*ks.length) (by omega);have p3:=ih _ _ b1 w q1;rw[cj,cj,<-e1]at q2;have p4:=ihn (i+1) b2 (by omega) (by omega) q2;rw[List.range'_succ];simp only[Op.eqItems,Sem.run_bind,p1,p2,p3,Result.andThen_ok];cases b1
  .simp
  .simpa using p4
theorem y8(k:Nat):∀(d:Nat)(t:TypeId)(ks:List Kd),rN P d t=some ks->∀ag,du P t=some ag->HT P (d+k) t ks ag:=by
 intro d;induction d with
 |zero=>intro t ks h;simp[rN]at h
 |succ d ih=>
  intro t ks h ag hag xs ys b w he;rw[show d+1+k=(d+k)+1 by omega]
  have one:∀{q:Kd},P.underlying t≠none->ks=[q]->ag=false->∃x y,xs=[x]/\ys=[y]/\uF q x y=some b:=by
   rintro q _ rfl _;obtain⟨l1,l2⟩:=gP he;obtain⟨x,rfl⟩:=dV.1 l1;obtain⟨y,rfl⟩:=dV.1 l2;refine⟨x,y,rfl,rfl,?_⟩;simp only[QK]at he;split at he
   .rename_i a c ha hc;obtain rfl:=aa hc;rw[ha];simpa using he
   .simp at he
  unfold rN at h;split at h
  .rename_i hu;have hg:ag=false:=by simpa[du,hu]using hag.symm
   split at h
   .obtain ⟨x,y,rfl,rfl,hk⟩:=one (q:=.b) (by simp[hu]) (aa h).symm hg;subst hg;simp only[lU,aG,if_false,bd];unfold uF at hk;split at hk<;>first|(simp_all;done)|skip
    obtain rfl:=aa hk;exact run_equalIn_bool w _ _ _ _ hu
   .simp at h
  .rename_i q0 hu;have hg:ag=false:=by simpa[du,hu]using hag.symm
   split at h
   .obtain ⟨x,y,rfl,rfl,hk⟩:=one (q:=.i q0) (by simp[hu]) (aa h).symm hg;subst hg;simp only[lU,aG,if_false,bd];unfold uF at hk;split at hk<;>first|(simp_all;done)|skip
    split at hk
    .rename_i hkk;obtain⟨rfl,rfl⟩:=hkk;obtain rfl:=aa hk;exact run_equalIn_int w _ _ _ _ _ _ hu
    .simp at hk
   .simp at h
  .rename_i hu;have hg:ag=false:=by simpa[du,hu]using hag.symm
   split at h
   .obtain ⟨x,y,rfl,rfl,hk⟩:=one (q:=.s) (by simp[hu]) (aa h).symm hg;subst hg;simp only[lU,aG,if_false,bd];unfold uF at hk;split at hk<;>first|(simp_all;done)|skip
    obtain rfl:=aa hk;rw[beq_toListBytes];exact run_equalIn_string w _ _ _ _ hu
   .simp at h
  .rename_i n el hu;have hg:ag=true:=by simpa[du,hu]using hag.symm
   subst hg;split at h
   .split at h
    .rename_i k1 hk1 hs;obtain rfl:=aa h;obtain⟨_,ag1,hag1,hone⟩:=oE d el k1 hk1;obtain⟨i,hi⟩:=EV hs.1;simp only[lU,if_true];rw[run_equalIn_array w _ _ _ hu hi,yB hs.1,List.range_eq_range'];exact tH w hs.1 hag1 hone (ih el k1 hk1 ag1 hag1) xs ys n 0 b (by simp) (by simp) (by simpa using he)
    .simp at h
   .simp at h
  .rename_i fs hu;have hg:ag=true:=by simpa[du,hu]using hag.symm
   subst hg;split at h
   .split at h
    .rename_i k1 hk1 hs;obtain rfl:=aa h;simp only[lU,if_true];have hf:P.fieldsOf t=fs:=by simp[Program.fieldsOf,hu]
     rw[run_equalIn_struct w _ _ _ _ (by rw[hf];exact hu) hs.1,hf];exact rR w (fun t ks h ag hag=>ih t ks h ag hag) xs ys fs.toList 0 _ b hk1 (gi _) (gi _) (by simpa using he)
    .simp at h
   .simp at h
  .simp at h
def FF(P:Program)(em:Bool)(D:Nat)(t:TypeId)(n:Nat)(ag:Bool):Prop:=∀(xs:List Value)(w:World),xs.length=n->(Instr.checkKey em D t (lU ag xs)).run P w=.ok () w
theorem nv(em:Bool)(k:Nat):∀(d:Nat)(t:TypeId)(ks:List Kd),rN P d t=some ks->∀ag,du P t=some ag->FF P em (d+k) t ks.length ag:=by
 intro d;induction d with
 |zero=>intro t ks h;simp[rN]at h
 |succ d ih=>
  intro t ks h ag hag xs w hl;rw[show d+1+k=(d+k)+1 by omega];unfold rN at h;rw[Instr.checkKey];split at h
  .rename_i hu;simp only[Sem.run_bind,bo hu,Result.andThen_ok];rfl
  .rename_i q0 hu;simp only[Sem.run_bind,bo hu,Result.andThen_ok];rfl
  .rename_i hu;simp only[Sem.run_bind,bo hu,Result.andThen_ok];rfl
  .rename_i n el hu;have hg:ag=true:=by simpa[du,hu]using hag.symm
   subst hg;split at h
   .split at h
    .rename_i k1 hk1 hs;obtain rfl:=aa h;obtain⟨_,ag1,hag1,hone⟩:=oE d el k1 hk1;have hl2:xs.length=n*k1.length:=by rw[hl];simp[List.length_flatten]
     simp only[lU,if_true,Sem.run_bind,bo hu,Result.andThen_ok];simp only[Std.Legacy.Range.forIn_eq_forIn_range',Std.Legacy.Range.size,Nat.sub_zero,Nat.add_one_sub_one,Nat.div_one]
     have each:∀i∈List.range' 0 n,i*k1.length+k1.length<=xs.length:=fun i hi=>by
      have hi':i<n:=by simpa using hi
      rw[hl2,<-cg];exact aw _ hi'
     generalize List.range' 0 n=is at each;induction is with|nil=>simp|cons j is ihj=>have p1:=jJ (w:=w) hs.1 hag1 hone (xs:=xs) (off:=j*k1.length) (each j (by simp));have p2:=ih el k1 hk1 ag1 hag1 ((xs.drop (j*k1.length)).take k1.length) w (by rw[eu,ew];have:=each j (by simp);omega);simp only[List.forIn_cons,Sem.run_bind,eF hs.1,Result.andThen_ok,p1,p2,Sem.run_pure];exact ihj (fun y hy=>each y (by simp[hy]))
    .simp at h
   .simp at h
  .rename_i fs hu;have hg:ag=true:=by simpa[du,hu]using hag.symm
   subst hg;split at h
   .split at h
    .rename_i k1 hk1 hs;obtain rfl:=aa h;simp only[lU,if_true,Sem.run_bind,bo hu,Result.andThen_ok];rw[<-Array.forIn_toList]
     have main:∀(L:List Field)(off:Nat)(l:List Kd),Gj P (rN P d) L off=some l->off+l.length=xs.length->
       (forIn L PUnit.unit (fun f r=>if f.name≠ "_" then do Instr.checkKey em (d+k) f.type (<-part f.type xs.toArray f.offset);pure (ForInStep.yield PUnit.unit)else pure (ForInStep.yield PUnit.unit)):Sem PUnit).run P w=.ok PUnit.unit w:=by
      intro L;induction L with
      |nil=>intro off l _ _;simp
      |cons f L ihL=>
       intro off l h ho;simp only[Gj]at h;split at h
       .rename_i hc;obtain⟨hoff,hname⟩:=hc;split at h
        .rename_i k1 hk1;split at h
         .rename_i hsz;split at h
          .rename_i l1 hl1;obtain rfl:=aa h;rw[bh]at ho;obtain⟨_,ag1,hag1,hone⟩:=oE d f.type k1 hk1;have p1:=jJ (w:=w) hsz hag1 hone (xs:=xs) (off:=f.offset) (by omega);have p2:=ih f.type k1 hk1 ag1 hag1 ((xs.drop f.offset).take k1.length) w (by rw[eu,ew];omega);simp only[List.forIn_cons,Sem.run_bind,hname,ne_eq,not_false_eq_true,if_true,Result.andThen_ok,p1,p2,Sem.run_pure];exact ihL (off+k1.length) l1 hl1 (by omega)
          .simp at h
         .simp at h
        .simp at h
       .simp at h
     rw[main fs.toList 0 _ hk1 (by omega)];rfl
    .simp at h
   .simp at h
  .simp at h
theorem mJ:∀{cs:List C}{l:List Value},gZ cs=some l->cs=db l:=by
 intro cs;induction cs with
 |nil=>
  intro l h;obtain rfl:[]=l:=by simpa[gZ]using h
  rfl
 |cons c cs ih=>
  intro l h;unfold gZ at h;split at h
  .simp_all
  .rename_i v0 r0 he;obtain⟨rfl,rfl⟩:=bz he;split at h
   .rename_i l1 hl;obtain rfl:=aa h;rw[ih hl];rfl
   .simp at h
  .simp at h
theorem xZ:∀{ks:List Kd}{l:List Value},pZ ks l=true->∀x∈l,GZ x=false
 |[],[],_,x,hx=>by cases hx
 |[],_::_,h,_,_=>by cases h
 |_::_,[],h,_,_=>by cases h
 |k::ks,y::l,h,x,hx=>by
  rw[pZ,ae]at h;rcases aE.1 hx with rfl|hx
  .cases k<;>cases x<;>first|rfl|exact absurd h.1 (by simp[AM])
  .exact xZ h.2 x hx
theorem uf:∀{ks:List Kd}{l m:List Value}{b:Bool},QK ks l m=some b->(∀x∈l,GZ x=false)/\∀x∈m,GZ x=false
 |[],[],[],_,_=>⟨fun _ hx=>(by cases hx),fun _ hx=>(by cases hx)⟩
 |[],[],_::_,_,h=>by cases h
 |[],_::_,_,_,h=>by cases h
 |_::_,[],_,_,h=>by cases h
 |_::_,_::_,[],_,h=>by cases h
 |k::ks,y::l,z::m,b,h=>by
  rw[QK]at h;split at h
  .rename_i b1 b2 h1 h2;have ih:=uf h2;refine⟨fun x hx=>?_,fun x hx=>?_⟩
   .rcases aE.1 hx with rfl|hx
    .cases k<;>cases x<;>first|rfl|exact absurd h1 (by simp[uF])
    .exact ih.1 x hx
   .rcases aE.1 hx with rfl|hx
    .cases k<;>cases x<;>first|rfl|(cases y<;>exact absurd h1 (by simp[uF]))
    .exact ih.2 x hx
  .cases h
theorem qT{l:List Value}{aB:Array Value}(hnf:∀x∈l,GZ x=false)(hlen:(db l).length=aB.size)(h:∀(i:Nat)(x:C),(db l)[i]?=some x->RC S w Kn φ x (aB.getD i undef)):
  aB=l.toArray/\∀x∈l,cO x=true:=by
 have key:∀(i:Nat)(x:Value),l[i]?=some x->aB.getD i undef=x/\cO x=true:=by
  intro i x hi;have:=h i (.d (.lit x)) (by simp[db,hi]);cases this with
  |d hd=>generalize hv:aB.getD i undef=v0 at hd;cases hd with|lit hp=>exact⟨rfl,hp⟩|nan=>exact absurd (hnf _ (aS hi)) (by simp[GZ])|ex=>exact absurd (hnf _ (aS hi)) (by simp[GZ])
 constructor
 .apply Array.ext
  .simpa [db]using hlen.symm
  .intro i h1 h2;have h3:i<l.length:=by simpa using h2
   have:=(key i l[i] (by simp[h3])).1;simp only[Array.getD,h1,dite_true]at this;simpa using this
 .intro x hx;obtain⟨i,hi,rfl⟩:=eV hx;exact(key i _ (by simp[hi])).2
theorem kZ{cs:List C}{ks:List Kd}{key:List Value}(h:(match gZ cs with|some l=>if pZ ks l=true then some l else none|none=>none)=some key):gZ cs=some key/\pZ ks key=true:=by
 split at h
 .rename_i l hl;split at h
  .rename_i hk;obtain rfl:=aa h;exact⟨hl,hk⟩
  .simp at h
 .simp at h
theorem mh{ka:Bool}{ks:List Kd}{k:TV}{key:List Value}{val:Value}(h:jz ka ks k=some key)(hr:dH S w Kn φ k val):val=lU ka key/\key.length=ks.length/\Z9 ka key val:=by
 cases k with
 |agg cs=>
  simp only[jz]at h;split at h
  .rename_i hc;obtain⟨rfl,hcl⟩:=hc;obtain rfl:=mJ (kZ h).1;cases hr with|agg hlen hr=>obtain⟨rfl,hp⟩:=qT (xZ (kZ h).2) hlen hr;exact⟨by simp[lU],by simpa[db]using hcl,hp,by simp⟩
  .simp at h
 |c x=>
  simp only[jz]at h;split at h
  .rename_i hc;obtain⟨rfl,hcl⟩:=hc;have hko:=(kZ h).2;have:=mJ (kZ h).1;cases key with
   |nil=>simp[db]at this
   |cons y r=>
    cases r with
    |nil=>
     obtain rfl:x=.d (.lit y):=by simpa[db]using this
     obtain⟨rfl,hp⟩:=hr.lit (xZ hko y (.head _));exact⟨by simp[lU],by simp[hcl],by simpa using hp,by simp⟩
    |cons z r=>simp[db]at this
  .simp at h
 |fm xs=>simp[jz]at h
theorem Z9.lU{ka:Bool}{k:List Value}{v:Value}(h:Z9 ka k v):v=Ev.lU ka k:=by obtain⟨_,h⟩:=h;cases ka with|true=>simpa[Ev.lU]using h|false=>simp only[aG,if_false]at h;rw[h];simp[Ev.lU]
def mZ(S:Nat->Prop)(w:World)(ka va:Bool)(es:List mx)(ms:List MapEntry):Prop:=es.length=ms.length/\∀(i:Nat)(e:mx)(m:MapEntry),es[i]?=some e->ms[i]?=some m->Z9 ka e.1 m.key/\pn S w va e.2.1 m.val/\m.born=e.2.2
theorem mZ.tail{ka va:Bool}{e:mx}{es:List mx}{m:MapEntry}{ms:List MapEntry}(h:mZ S w ka va (e::es) (m::ms)):mZ S w ka va es ms:=⟨by simpa using h.1,fun i e m hi hm=>h.2 (i+1) e m (by simpa using hi) (by simpa using hm)⟩
theorem xr{t:TypeId}{ks:List Kd}{ka va:Bool}{key:List Value}(hk:rN P 8 t=some ks)(hag:du P t=some ka):∀(es:List mx)(ms:List MapEntry)(i:Nat)(r:Option Nat),
  mZ S w ka va es ms->iK ks key es i=some r->
   (Instr.findAsking t (lU ka key) ms i).run P w=.ok (r.map fun j=>(j,(ms.getD (j-i) default).val)) w/\
   (ka=false->∀d,P.underlying t=some d->Instr.findNow d (lU ka key) ms i=some (r.map fun j=>(j,(ms.getD (j-i) default).val)))/\
   ∀j,r=some j->i<=j/\j-i<ms.length/\key=(es.getD (j-i) default).1:=by
 intro es;induction es with
 |nil=>
  intro ms i r hE h;obtain rfl:none=r:=by simpa[iK]using h
  obtain rfl:ms=[]:=aV.1 hE.1.symm;exact⟨by simp[Instr.findAsking],fun _ _ _=>rfl,fun j hj=>by simp at hj⟩
 |cons e es ih=>
  intro ms i r hE h;cases ms with
  |nil=>exact absurd hE.1 (by simp)
  |cons m ms=>
   obtain⟨h1,_,_⟩:=hE.2 0 e m rfl rfl;have hmk:=h1.lU;simp only[iK]at h;have heq:∀b,QK ks key e.1=some b->(Op.equal t (lU ka key) m.key).run P w=.ok b w:=fun b hb=>by rw[hmk,k_];exact y8 9992 8 t ks hk ka hag key e.1 b w hb
   have hnow:∀b,QK ks key e.1=some b->ka=false->∀d,P.underlying t=some d->Instr.sameNow d (lU ka key) m.key=some b:=by
    intro b hb hka d hd;rw[hmk];subst hka;obtain⟨_,ag,hag',hone⟩:=oE 8 t ks hk;obtain rfl:false=ag:=aa (hag.symm.trans hag');obtain⟨l1,l2⟩:=gP hb;obtain⟨q,rfl⟩:=dV.1 (hone rfl);obtain⟨x,rfl⟩:=dV.1 l1;obtain⟨y,hy⟩:=dV.1 l2;rw[hy]at hb|-
    have hb':uF q x y=some b:=by
     simp only[QK]at hb;split at hb
     .rename_i a c ha hc;obtain rfl:=aa hc;rw[ha];simpa using hb
     .simp at hb
    simp only[lU,aG,if_false,bd];unfold rN at hk;rw[hd]at hk;unfold uF at hb';simp only[du,hd,bB,bp]at hag;cases d<;>simp at hk hag
    all_goals
     obtain⟨_,hq⟩:=hk;subst hq;split at hb'<;>simp_all[Instr.sameNow]
   split at h
   .rename_i hb;obtain rfl:=aa h;refine⟨by simp[Instr.findAsking,heq true hb],fun hka d hd=>by simp[Instr.findNow,hnow true hb hka d hd],fun j hj=>?_⟩;obtain rfl:i=j:=aa hj;exact⟨ai _,by simp,by simpa using E7 hb⟩
   .rename_i hb;obtain⟨a1,a2,a3⟩:=ih ms (i+1) r hE.tail h
    have hsh:(r.map fun j=>(j,(ms.getD (j-(i+1)) default).val))=r.map fun j=>(j,((m::ms).getD (j-i) default).val):=by
     cases r with
     |none=>rfl
     |some j=>
      have:=(a3 j rfl).1;have e1:j-i=(j-(i+1))+1:=by omega
      simp only[bB,e1,List.getD_cons_succ]
    refine⟨?_,fun hka d hd=>?_,fun j hj=>?_⟩
    .simp only[Instr.findAsking,Sem.run_bind,heq false hb,Result.andThen_ok,aG,if_false];rw[a1,hsh]
    .simp only[Instr.findNow,hnow false hb hka d hd];rw[a2 hka d hd,hsh]
    .obtain ⟨b1,b2,b3⟩:=a3 j hj;have e1:j-i=(j-(i+1))+1:=by omega
     exact⟨by omega,by rw[e1];simp;omega,by rw[b3,e1];simp⟩
   .simp at h
theorem kT{t:TypeId}{ks:List Kd}{ka va:Bool}{key:List Value}(hk:rN P 8 t=some ks)(hag:du P t=some ka){es:List mx}{ms:List MapEntry}{r:Option Nat}
  (hE:mZ S w ka va es ms) (h:iK ks key es 0=some r):
  (Instr.findKey t (lU ka key) ms).run P w=.ok (r.map fun j=>(j,(ms.getD j default).val)) w/\∀j,r=some j->j<ms.length/\key=(es.getD j default).1:=by
 obtain⟨h1,h2,h3⟩:=xr hk hag es ms 0 r hE h;refine⟨?_,fun j hj=>let⟨_,a,b⟩:=h3 j hj;⟨by simpa using a,by simpa using b⟩⟩;cases ka with
 |true=>
  rw[run_findKey_eq]
  .simpa using h1
  .simp only[du,aA]at hag;obtain⟨d,hd,hd2⟩:=hag;rw[hd];cases d<;>simp_all
 |false=>simp only[du,aA]at hag;obtain⟨d,hd,_⟩:=hag;have:=h2 rfl d hd;simp only[Nat.sub_zero]at this;simp[Instr.findKey,bo hd,this]
theorem ja{va:Bool}{ds:List D}{tv:TV}{v:Value}(h:jO va ds=some tv)(hr:pn S w va ds v):dH S w Kn φ tv v:=by
 unfold jO at h;unfold pn at hr;cases va with
 |true=>simp only[if_true]at h hr;obtain rfl:=aa h;obtain⟨aB,rfl,h1,h2⟩:=hr;refine .agg (by simpa using h1) fun i x hi=>?_;rw[aC]at hi;obtain⟨d,hd,rfl⟩:=aA.1 hi;exact .d (h2 i d hd)
 |false=>
  simp only[aG,if_false]at h hr;obtain⟨x,rfl,h1⟩:=hr;obtain rfl:TV.c (.d x)=tv:=by simpa using h
  exact .c (.d h1)
theorem oM{t:TypeId}{z:List Value}{va:Bool}{tv:TV}(hz:fS P t=some z)(ha:wU P t=some va)(h:jO va (bO z)=some tv)(w:World):
  ∃v,(zeroValue t).run P w=.ok v w/\pn S w va (bO z) v:=by
 simp only[fS]at hz;split at hz
 .rename_i v hv;split at hz
  .rename_i hp;obtain rfl:=aa hz;obtain⟨i,hi,hz⟩:=dM.1 hv;refine⟨v,by simp[zeroValue,typeInfo,hi,hz],?_⟩;have hpl:∀x∈v.cells.toList,cO x=true:=fun x hx=>aL.1 hp x hx;simp only[wU,hv,bB,bp]at ha;cases v with
   |agg aB=>
    obtain rfl:true=va:=by simpa using ha
    refine⟨aB,rfl,by simp[bO,Value.cells],fun i x hi=>?_⟩;simp only[bO,aC,Value.cells]at hi;obtain⟨y,hy,rfl⟩:=aA.1 hi;have hlt:i<aB.size:=by simpa using(af.1 hy).1
    have e:aB.getD i undef=y:=by rw[aQ]at hy;simp[hy]
    rw[e];exact .lit (hpl y (aS hy))
   |_=>
    obtain rfl:false=va:=by simpa using ha
    exact⟨_,rfl,.lit (hpl _ (by simp[Value.cells]))⟩
  .simp at hz
 .simp at hz
theorem vA{t ty:TypeId}{op:BinOp}{x y:Operand}{ks:List Kd}(ho:o.op=.binOp op t x y ty)(hop:op=.eql\/op=.neq)(hk:rN P 8 t=some ks)(hag:du P t=some true)
  (hg:P.eqGuardType P.depth t=false) (hI:Inv S K w0 Kn φ (ak H) w) {tx ty':Option TV} (hx:∀y,tx=some y->dH S w Kn φ y (ρ x)) (hy:∀z,ty'=some z->dH S w Kn φ z (ρ y))
  (h:bD call (.rh (op==.neq) ks) [tx,ty'] H nxt=some (v,u,aj,n')):bZ P o ρ S K w0 w Kn φ (ak H) nxt n' v u:=by
 match tx,ty',h,hx,hy with
 |some (.agg xs),some (.agg ys),h,hx,hy=>
  change (match gZ xs,gZ ys with
   |some xs,some ys=>(match QK ks xs ys with|some b=>some (lv (.bool (if(op==BinOp.neq)then !b else b)),([]:de),([]:List Nat),nxt)|none=>none)
   |_,_=>none)=_ at h
  split at h
  .rename_i xs1 ys1 e1 e2;split at h
   .rename_i b hb;obtain⟨rfl,rfl,rfl,rfl⟩:lv (.bool (if(op==BinOp.neq)then !b else b))=v/\[]=u/\[]=aj/\nxt=n':=by simpa using h
    obtain rfl:=mJ e1;obtain rfl:=mJ e2;have h1:=hx _ rfl;have h2:=hy _ rfl;generalize hv1:ρ x=v1 at h1;generalize hv2:ρ y=v2 at h2;cases h1 with
    |agg l1 h1=>cases h2 with|agg l2 h2=>obtain⟨rfl,_⟩:=qT (uf hb).1 l1 h1;obtain⟨rfl,_⟩:=qT (uf hb).2 l2 h2;refine bZ.pure hI ?_ (.kI rfl);have he:=y8 (P:=P) 9992 8 t ks hk true hag xs1 ys1 b w hb;have hc:=lw (P:=P) (w:=w) hop (t:=t) (x:=.agg xs1.toArray) (y:=.agg ys1.toArray) (b:=b) x y rfl rfl (run_eqGuard_agg w op t x y _ _ hg) (by rw[k_];simpa[lU]using he);simp only[execOp,ho,Sem.run_bind,hv1,hv2];rw[Sem.run_bind]at hc;rw[hc];rfl
   .simp at h
  .simp at h
theorem gI.set{n:Nat}{tv:TV}{val:Value}{hf:Nat->Option Ob}{u:de}{w':World}(hs:WJ S w S w')(hI:Inv S K w0 Kn φ (aU u hf) w')(h:dH S w' Kn φ tv val):gI S K w0 w Kn φ hf n n tv u val w':=⟨ai _,S,φ,hs,kq _ _,h.kn fun _ hi=>.inl hi,hI.kn fun _ hi=>.inl hi⟩
theorem mZ.mono{S':Nat->Prop}{w':World}(hs:WJ S w S' w'){ka va:Bool}{es:List mx}{ms:List MapEntry}(h:mZ S w ka va es ms):mZ S' w' ka va es ms:=⟨h.1,fun i e m hi hm=>let⟨a,b,c⟩:=h.2 i e m hi hm;⟨a,b.mono hs,c⟩⟩
theorem RO.Hi{l:d_}{ka va:Bool}{es:List mx}{dg:Nat}(h:RO S K w Kn φ l (.map ka va es dg)):∃ms:Array MapEntry,w.heap[l.bH]?=some (.map ms dg)/\mZ S w ka va es ms.toList:=by cases h with|map hS hK ho hlen hr=>exact⟨_,ho,by simpa using hlen,fun i e m hi hm=>hr i e m hi (by simpa using hm)⟩
theorem Inv.xk{hf:Nat->Option Ob}(hI:Inv S K w0 Kn φ hf w){id:Nat}{ka va:Bool}{es es':List mx}{dg clock':Nat}{ms ms':Array MapEntry}(ho:hf id=some (.map ka va es dg))
  (hw:w.heap[(φ id).bH]?=some (.map ms dg)) (hE:mZ S w ka va es' ms'.toList):
  WJ S w S {w with heap:=w.heap.setIfInBounds (φ id).bH (.map ms' clock')}/\
  Inv S K w0 Kn φ (aU [(id,some (.map ka va es' clock'))] hf) {w with heap:=w.heap.setIfInBounds (φ id).bH (.map ms' clock')}:=by
 have hlt:(φ id).bH<w.heap.size:=(aT.1 hw).1;have hself:({w with heap:=w.heap.setIfInBounds (φ id).bH (.map ms' clock')}:World).heap[(φ id).bH]?=some (.map ms' clock'):=by simp[hlt]
 have hoth:∀b,b≠(φ id).bH->({w with heap:=w.heap.setIfInBounds (φ id).bH (.map ms' clock')}:World).heap[b]?=w.heap[b]?:=fun b hb=>by simp[Ne.symm hb]
 obtain⟨_,h0⟩:=hI.fh _ _ ho;refine hI.set ho rfl hoth (by simp) (fun a=>?_) (fun aB hown=>?_) ⟨rfl,rfl,rfl,ai _⟩ fun hs=>?_
 .unfold World.frozen?;by_cases e:a.block=(φ id).bH
  .rw [e,hself,hw]
  .rw [hoth _ e]
 .obtain ⟨t,ht⟩:=hown;rw[hw]at ht;simp at ht
 .cases h0 with|map hS hK _ _ _=>exact .map hS hK hself (by simpa using hE.1) fun i e m hi hm=>(hE.mono hs).2 i e m hi (by simpa using hm)
theorem jS{r:Nat}{ms:Array MapEntry}{dg:Nat}(hb:w.heap[r]?=some (.map ms dg)):(getObj r).run P w=.ok (.map ms dg) w:=by simp[getObj,Sem.run,hb]
theorem nu{r:Nat}{ms:Array MapEntry}{dg:Nat}(ob:Obj)(hb:w.heap[r]?=some (.map ms dg)):(setObj r ob).run P w=.ok () {w with heap:=w.heap.setIfInBounds r ob}:=by simp[setObj,Sem.run,hb]
theorem xM{t:TypeId}{ka va:Bool}(ho:o.op=.makeMap t none)(hI:Inv S K w0 Kn φ (ak H) w)(hn0:nxt<n'->¬Kn nxt)
  (h:bD call (.makeMap ka va) [] H nxt=some (v,u,aj,n')):bZ P o ρ S K w0 w Kn φ (ak H) nxt n' v u:=by
 obtain⟨rfl,rfl,rfl,rfl⟩:TV.c (.om nxt)=v/\[(nxt,some (.map ka va [] 0))]=u/\[]=aj/\nxt+1=n':=by simpa[bD]using h
 have hn:=hn0 (aN _);obtain⟨nS,nK⟩:=zn hI;refine⟨.value (.map (some w.heap.size)),_,{w with heap:=w.heap.push (.map #[] 0)},?_,.inl rfl,?_⟩
 .simp [execOp,ho,Instr.makeMap,newObj,Sem.run]
 have hs:=WJ.push (w:=w) hI.nM (.map #[] 0)
 refine⟨a_ _,S,_,hs,⟨fun _ h=>.inl h,(fP _ hn).cK⟩,.c ?_,(hI.HL hn (ob:=.map #[] 0) (fun c t r h=>by cases h) ⟨w.heap.size,0,1,0,0⟩ rfl (.map ka va [] 0)
  (.map (ms:= #[]) nS nK (by simp) rfl fun i e m hi=>by simp at hi)).pJ fun j=>jY j⟩
 have:=RC.om (S:=S) (w:={w with heap:=w.heap.push (.map #[] 0)}) (Kn:=jI Kn nxt (nxt+1)) (φ:=ext φ nxt ⟨w.heap.size,0,1,0,0⟩) (id:=nxt) (.inr (by omega));simpa[ext]using this
theorem mZ.Fu{ka va:Bool}{es:List mx}{ms:List MapEntry}(h:mZ S w ka va es ms){j:Nat}(hj:j<ms.length):
  ms[j]?=some (ms.getD j default)/\Z9 ka (es.getD j default).1 (ms.getD j default).key/\pn S w va (es.getD j default).2.1 (ms.getD j default).val/\(ms.getD j default).born=(es.getD j default).2.2:=by
 have hj2:j<es.length:=by rw[h.1];exact hj
 have e1:ms[j]?=some (ms.getD j default):=by simp[hj]
 have e2:es[j]?=some (es.getD j default):=by simp[hj2]
 exact⟨e1,h.2 j _ _ e2 e1⟩
theorem TX{t kt et:TypeId}{ka va ok:Bool}{ks:List Kd}{z:List Value}{m ix:Operand}(ho:o.op=.lookup t m ix ok)(hu:P.underlying t=some (.map kt et))
  (hm:qQ P kt et=some (ka,ks,va,z)) (hI:Inv S K w0 Kn φ (ak H) w) {tm tk:Option TV} (hx:∀y,tm=some y->dH S w Kn φ y (ρ m)) (hy:∀y,tk=some y->dH S w Kn φ y (ρ ix))
  (h:bD call (.lookup ka ks va z ok) [tm,tk] H nxt=some (v,u,aj,n')):bZ P o ρ S K w0 w Kn φ (ak H) nxt n' v u:=by
 match tm,tk,h,hx,hy with
 |some (.c mc),some k,h,hx,hy=>
  change (match LR ka ks va z ok mc k H with|some (v,aj)=>some (v,([]:de),aj,nxt)|none=>none)=_ at h;split at h
  .rename_i v1 ids1 hl;obtain⟨rfl,rfl,rfl,rfl⟩:v1=v/\[]=u/\ids1=aj/\nxt=n':=by simpa using h
   simp only[qQ]at hm;split at hm
   .rename_i ka' ks' va' z' hag hk hae hz;split at hm
    .rename_i hza;obtain⟨rfl,rfl,rfl,rfl⟩:ka'=ka/\ks'=ks/\va'=va/\z'=z:=by simpa using hm
     have hrm:=hx _ rfl;generalize hv1:ρ m=vm at hrm
     have fin:∀(b:Bool)(tv:TV)(val:Value),dH S w Kn φ tv val->dH S w Kn φ (if ok then .fm [tv,lv (.bool b)]else tv) (if ok then .tuple #[val,.bool b]else val):=by
      intro b tv val hr;cases ok with
      |false=>exact hr
      |true=>
       refine .fm rfl fun i x hi=>?_
       match i,hi with
       |0,hi=>obtain rfl:tv=x:=by simpa using hi
              exact hr
       |1,hi=>obtain rfl:lv (.bool b)=x:=by simpa using hi
              exact .kI rfl
     unfold LR at hl;split at hl
     .rename_i key hkey;obtain⟨hkv,hkl,_⟩:=mh hkey (hy _ rfl);split at hl
      .rename_i tv hval;obtain⟨rfl,rfl⟩:=ad (aa hl);obtain⟨rfl,_⟩:=hrm.lit;obtain⟨zv,hzr,hzv⟩:=oM (S:=S) hz hza hval w;have hck:=nv (P:=P) true 9992 8 kt ks' hk ka' hag _ w hkl;refine bZ.pure hI ?_ (fin false tv zv (ja hval hzv));have hfk:=kT (P:=P) (S:=S) (w:=w) (va:=va') (key:=key) hk hag (es:=[]) (ms:=[]) (r:=none) ⟨rfl,fun i e m hi=>by simp at hi⟩ rfl;simp only[execOp,ho,Instr.lookup,hv1,Sem.run_bind,bo hu,Result.andThen_ok,hkv,Sem.run_pure];rw[show(#[]:Array MapEntry).isEmpty=true from rfl,show(10000:Nat)=8+9992 from rfl,hck];simp only[Result.andThen_ok,Sem.run_bind,hfk.1,gw,hzr,Sem.run_pure]
      .simp at hl
     .rename_i id key hkey;obtain⟨hkv,hkl,_⟩:=mh hkey (hy _ rfl);split at hl
      .rename_i ka2 va2 es dg hob;split at hl
       .rename_i hkv2;obtain⟨rfl,rfl⟩:=hkv2;cases hrm with
        |c hrm=>
         cases hrm with
         |om hkn=>
          obtain⟨_,h0⟩:=hI.fh _ _ hob;obtain⟨ms,hms,hE⟩:=h0.Hi;have hck:=nv (P:=P) ms.isEmpty 9992 8 kt ks' hk ka2 hag _ w hkl;split at hl
          .rename_i i hfe;obtain⟨f1,f2⟩:=kT (P:=P) hk hag hE hfe;obtain⟨f3,f4⟩:=f2 i rfl;obtain⟨_,_,e3,_⟩:=hE.Fu f3;split at hl
           .rename_i tv hval;obtain⟨rfl,rfl⟩:=ad (aa hl);refine bZ.pure hI ?_ (fin true tv _ (ja hval e3));simp only[execOp,ho,Instr.lookup,hv1,Sem.run_bind,bo hu,Result.andThen_ok,jS hms,hkv,Sem.run_pure];rw[show(10000:Nat)=8+9992 from rfl,hck];simp only[Result.andThen_ok,Sem.run_bind,f1,bB,Sem.run_pure]
           .simp at hl
          .rename_i hfe;obtain⟨f1,_⟩:=kT (P:=P) hk hag hE hfe;split at hl
           .rename_i tv hval;obtain⟨rfl,rfl⟩:=ad (aa hl);obtain⟨zv,hzr,hzv⟩:=oM (S:=S) hz hza hval w;refine bZ.pure hI ?_ (fin false tv zv (ja hval hzv));simp only[execOp,ho,Instr.lookup,hv1,Sem.run_bind,bo hu,Result.andThen_ok,jS hms,hkv,Sem.run_pure];rw[show(10000:Nat)=8+9992 from rfl,hck];simp only[Result.andThen_ok,Sem.run_bind,f1,gw,hzr,Sem.run_pure]
           .simp at hl
          .simp at hl
       .simp at hl
      .simp at hl
     .simp at hl
    .simp at hm
   .simp at hm
  .simp at h
theorem yF(a:ByteArray):(a==a)=true:=by rw[beq_toListBytes];simp
theorem uX{q:Kd}{x:Value}{b:Bool}{y:Value}(h:uF q x y=some b)(n:Nat):Instr.sameBits n x x=true:=by
 unfold uF at h;split at h<;>first|(simp at h;done)|skip
 all_goals(cases n<;>simp[Instr.sameBits,yF])
theorem tG{l:List Value}(n:Nat)(h:∀x∈l,∀n,Instr.sameBits n x x=true):Instr.sameBits (n+1) (.agg l.toArray) (.agg l.toArray)=true:=by
 simp only[Instr.sameBits,beq_self_eq_true,Bool.true_and];rw[aL];rintro⟨x,y⟩ hxy;have hx:x∈l:=by simpa using(List.of_mem_zip hxy).1
 have hyx:x=y:=by obtain⟨i,hi,e⟩:=eV hxy;simp only[List.getElem_zip,Prod.mk.injEq]at e;exact e.1.symm.trans e.2
 subst hyx;exact h x hx n
theorem tF{ks:List Kd}{key k':List Value}{ka:Bool}(hone:ka=false->ks.length=1)(h:QK ks key k'=some true)(n:Nat):Instr.sameBits (n+1) (lU ka key) (lU ka key)=true:=by
 have all:∀(ks:List Kd)(a c:List Value)(b:Bool),QK ks a c=some b->∀x∈a,∀n,Instr.sameBits n x x=true:=by
  intro ks;induction ks with
  |nil=>intro a c b h;cases a<;>cases c<;>simp_all[QK]
  |cons q ks ih=>
   intro a c b h x hx n;cases a with
   |nil=>simp at hx
   |cons y a=>
    cases c with
    |nil=>simp[QK]at h
    |cons z c=>
     simp only[QK]at h;split at h
     .rename_i b1 b2 h1 h2;rcases aE.1 hx with rfl|hx
      .exact uX h1 n
      .exact ih a c b2 h2 x hx n
     .simp at h
 have hall:=all ks key k' true h;cases ka with|true=>exact tG n hall|false=>obtain⟨l1,_⟩:=gP h;rw[hone rfl]at l1;obtain⟨x,rfl⟩:=dV.1 l1;exact hall x (by simp) (n+1)
theorem Dc{ks:List Kd}{key:List Value}:∀{es:List mx}{i j:Nat},iK ks key es i=some (some j)->i<=j/\QK ks key (es.getD (j-i) default).1=some true:=by
 intro es;induction es with
 |nil=>intro i j h;simp[iK]at h
 |cons e es ih=>
  intro i j h;simp only[iK]at h;split at h
  .rename_i hb;obtain rfl:i=j:=by simpa using h
   exact⟨ai _,by simpa using hb⟩
  .obtain ⟨h1,h2⟩:=ih h;have e1:j-i=(j-(i+1))+1:=by omega
   exact⟨by omega,by rw[e1];simpa using h2⟩
  .simp at h
theorem vJ{ms:Array MapEntry}{j:Nat}{f:MapEntry->MapEntry}(h:f (ms.toList.getD j default)=ms.toList.getD j default):ms.modify j f=ms:=by
 apply Array.ext
 .simp
 .intro i h1 h2;rw[Array.getElem_modify];split
  .rename_i e;subst e;have:ms.toList.getD j default=ms[j]:=by simp[List.getD_eq_getElem?_getD,h2]
   rw[this]at h;exact h
  .rfl
theorem CH{old new:Value}(h1:old=new)(h2:Instr.sameBits 10000 new new=true):(Instr.keyThatStays old new).run P w=.ok new w:=by subst h1;unfold Instr.keyThatStays;rw[if_pos h2];rfl
theorem vw{t kt et:TypeId}{ka va:Bool}{ks:List Kd}{z:List Value}{m ix:Operand}(ho:o.op=.mapEntry t m ix)(hu:P.underlying t=some (.map kt et))
  (hm:qQ P kt et=some (ka,ks,va,z)) (hI:Inv S K w0 Kn φ (ak H) w) {tm tk:Option TV} (hx:∀y,tm=some y->dH S w Kn φ y (ρ m)) (hy:∀y,tk=some y->dH S w Kn φ y (ρ ix))
  (h:bD call (.mapEntry ka ks va z) [tm,tk] H nxt=some (v,u,aj,n')):bZ P o ρ S K w0 w Kn φ (ak H) nxt n' v u:=by
 match tm,tk,h,hx,hy with
 |some (.c mc),some k,h,hx,hy=>
  change (match iN ka ks va z mc k H with|some (v,u,aj)=>some (v,u,aj,nxt)|none=>none)=_ at h;split at h
  .rename_i v1 u1 ids1 hl;obtain⟨rfl,rfl,rfl,rfl⟩:v1=v/\u1=u/\ids1=aj/\nxt=n':=by simpa using h
   simp only[qQ]at hm;split at hm
   .rename_i ka' ks' va' z' hag hk hae hz;split at hm
    .rename_i hza;obtain⟨rfl,rfl,rfl,rfl⟩:ka'=ka/\ks'=ks/\va'=va/\z'=z:=by simpa using hm
     have hrm:=hx _ rfl;generalize hv1:ρ m=vm at hrm
     have zX:∀{w':World}{tv:TV}{val:Value}{n:Nat},dH S w' Kn φ tv val->dH S w' Kn φ (.fm [tv,lv (.int .i64 n)]) (.tuple #[val,goInt n]):=by
      intro w' tv val n hr;refine .fm rfl fun i x hi=>?_
      match i,hi with
      |0,hi=>obtain rfl:tv=x:=by simpa using hi
             exact hr
      |1,hi=>obtain rfl:lv (.int .i64 n)=x:=by simpa using hi
             exact .kI rfl
     unfold iN at hl;split at hl
     .rename_i id key hkey;obtain⟨hkv,hkl,hrk⟩:=mh hkey (hy _ rfl);split at hl
      .rename_i ka2 va2 es dg hob;split at hl
       .rename_i hkv2;obtain⟨rfl,rfl⟩:=hkv2;cases hrm with
        |c hrm=>
         cases hrm with
         |om hkn=>
          obtain⟨_,h0⟩:=hI.fh _ _ hob;obtain⟨ms,hms,hE⟩:=h0.Hi;have hck:=nv (P:=P) false 9992 8 kt ks' hk ka2 hag _ w hkl;split at hl
          .rename_i i hfe;obtain⟨f1,f2⟩:=kT (P:=P) hk hag hE hfe;obtain⟨f3,f4⟩:=f2 i rfl;obtain⟨e0,e1,e3,e4⟩:=hE.Fu f3;obtain⟨_,hqq⟩:=Dc hfe;obtain⟨_,ag,hag',hone⟩:=oE 8 kt ks' hk;obtain rfl:ka2=ag:=aa (hag.symm.trans hag');have hold:(ms.toList.getD i default).key=lU ka2 key:=by rw[e1.lU,<-f4]
           split at hl
           .rename_i tv hval;obtain⟨rfl,rfl,rfl⟩:_/\_/\_:=by simpa using hl
            have ea:ms[i]?=some (ms.toList.getD i default):=by rw[<-e0];simp
            obtain⟨hs,hI'⟩:=hI.xk (clock':=dg) hob hms hE;refine⟨.value (.tuple #[(ms.toList.getD i default).val,goInt (ms.toList.getD i default).born]),_,{w with heap:=w.heap.setIfInBounds (φ id).bH (.map ms dg)},?_,.inl rfl,gI.set hs hI' ?_⟩
            .have c9:=CH (P:=P) (w:=w) hold (tF (n:=9999) hone hqq);have hmod:ms.modify i (fun e=>{e with key:=lU ka2 key})=ms:=vJ (by rw[<-hold]);simp only[execOp,ho,Instr.mapEntry,hv1,Sem.run_bind,bo hu,Result.andThen_ok,jS hms,hkv];rw[show(10000:Nat)=8+9992 from rfl,hck];simp only[Result.andThen_ok,Sem.run_bind,f1,bB,ea,Option.getD_some,c9,hmod,nu _ hms,Sem.run_pure]
            .rw [e4];exact zX (ja hval (e3.mono hs))
           .simp at hl
          .rename_i hfe;obtain⟨f1,_⟩:=kT (P:=P) hk hag hE hfe;split at hl
           .rename_i tv hval;obtain⟨rfl,rfl,rfl⟩:_/\_/\_:=by simpa using hl
            obtain⟨zv,hzr,hzv⟩:=oM (S:=S) hz hza hval w
            have hE':mZ S w ka2 va2 (es++[(key,bO z',dg)]) (ms.push {key:=lU ka2 key,val:=zv,born:=dg}).toList:=by
             refine⟨by simp[hE.1],fun i e m hi hm=>?_⟩;rw[Array.toList_push]at hm;rcases Nat.lt_or_ge i es.length with hlt|hge
             .rw [bm hlt]at hi;rw[bm (by rw[<-hE.1];exact hlt)]at hm;exact hE.2 i e m hi hm
             .rw [bw hge]at hi;rw[bw (by rw[<-hE.1];exact hge),<-hE.1]at hm;have h0:i-es.length=0:=by have:=(af.1 hi).1;simp at this;omega
              rw[h0]at hi hm;obtain rfl:(key,bO z',dg)=e:=by simpa using hi
              obtain rfl:MapEntry.mk (lU ka2 key) zv dg=m:=by simpa using hm
              exact⟨hkv▸hrk,hzv,rfl⟩
            obtain⟨hs,hI'⟩:=hI.xk (clock':=dg+1) hob hms hE';refine⟨.value (.tuple #[zv,goInt dg]),_,{w with heap:=w.heap.setIfInBounds (φ id).bH (.map (ms.push {key:=lU ka2 key,val:=zv,born:=dg}) (dg+1))},?_,.inl rfl,gI.set hs hI' ?_⟩
            .simp only[execOp,ho,Instr.mapEntry,hv1,Sem.run_bind,bo hu,Result.andThen_ok,jS hms,hkv];rw[show(10000:Nat)=8+9992 from rfl,hck];simp only[Result.andThen_ok,Sem.run_bind,f1,gw,hzr,nu _ hms,Sem.run_pure]
            .exact zX (ja hval (hzv.mono hs))
           .simp at hl
          .simp at hl
       .simp at hl
      .simp at hl
     .simp at hl
    .simp at hm
   .simp at hm
  .simp at h
theorem E8:∀{cs:List C}{l:List D},rl cs=some l->cs=l.map .d:=by
 intro cs;induction cs with
 |nil=>
  intro l h;obtain rfl:[]=l:=by simpa[rl]using h
  rfl
 |cons c cs ih=>
  intro l h;unfold rl at h;split at h
  .simp_all
  .rename_i v0 r0 he;obtain⟨rfl,rfl⟩:=bz he;split at h
   .rename_i l1 hl;obtain rfl:=aa h;rw[ih hl];rfl
   .simp at h
  .simp at h
theorem pn.of{x:TV}{cs:List C}{ds:List D}{val:Value}(hr:dH S w Kn φ x val)(hc:cellsOf x=some cs)(hd:rl cs=some ds):pn S w (p6 x) ds val:=by
 have e:=E8 hd;subst e;cases hr with
 |@c x v h=>
  have e1:[x]=ds.map C.d:=by simpa[cellsOf]using hc
  cases ds with
  |nil=>simp at e1
  |cons d r=>
   cases r with
   |nil=>
    obtain rfl:x=.d d:=by simpa using e1
    cases h with|d hd=>exact⟨d,rfl,hd⟩
   |cons _ _=>simp at e1
 |@agg cs' aB hlen h=>
  obtain rfl:cs'=ds.map C.d:=by simpa[cellsOf]using hc
  refine⟨aB,rfl,by simpa using hlen,fun i x hi=>?_⟩;have:=h i (.d x) (by simp[hi]);generalize aB.getD i undef=q at this|-;cases this with|d hd=>exact hd
 |fm=>simp[cellsOf]at hc
theorem mZ.find{ka va:Bool}{s:Int}:∀{es:List mx}{ms:List MapEntry},mZ S w ka va es ms->ms.findIdx? (fun e=>(e.born:Int)==s)=es.findIdx? (fun e=>decide ((e.2.2:Int)=s)):=by
 intro es;induction es with
 |nil=>intro ms h;obtain rfl:ms=[]:=aV.1 h.1.symm;rfl
 |cons e es ih=>
  intro ms h;cases ms with
  |nil=>exact absurd h.1 (by simp)
  |cons m ms=>
   obtain⟨_,_,hb⟩:=h.2 0 e m rfl rfl;rw[List.findIdx?_cons,List.findIdx?_cons,ih h.tail,hb];by_cases hc:(e.2.2:Int)=s
   .simp [hc]
   .simp [hc]
theorem rT{t:TypeId}{va:Bool}{n:Nat}{m st x:Operand}(ho:o.op=.entryStore t m st x)(hI:Inv S K w0 Kn φ (ak H) w){tm ts tx:Option TV}
  (hx:∀y,tm=some y->dH S w Kn φ y (ρ m)) (hy:∀y,ts=some y->dH S w Kn φ y (ρ st)) (hz:∀y,tx=some y->dH S w Kn φ y (ρ x))
  (h:bD call (.entryStore va n) [tm,ts,tx] H nxt=some (v,u,aj,n')):bZ P o ρ S K w0 w Kn φ (ak H) nxt n' v u:=by
 match tm,tx,h,hx,hz with
 |some (.c mc),some xv,h,hx,hz=>
  change (match iO va n mc ts xv H with|some (u,aj)=>some (TV.fm [],u,aj,nxt)|none=>none)=_ at h;split at h
  .rename_i u1 ids1 hl;obtain⟨rfl,rfl,rfl,rfl⟩:TV.fm []=v/\u1=u/\ids1=aj/\nxt=n':=by simpa using h
   have hrm:=hx _ rfl;generalize hv1:ρ m=vm at hrm;unfold iO at hl;split at hl
   .rename_i id s ds c9 hds;obtain⟨cs,hcs,hds⟩:=dM.1 hds;split at hl
    .rename_i ka va2 es dg hob;split at hl
     .rename_i hc;obtain⟨rfl,hn,hag⟩:=hc;split at hl
      .rename_i i hfi;obtain⟨rfl,rfl⟩:_/\_:=by simpa using hl
       cases hrm with
       |c hrm=>
        cases hrm with
        |om hkn=>
         obtain⟨_,h0⟩:=hI.fh _ _ hob;obtain⟨ms,hms,hE⟩:=h0.Hi;have hval:=pn.of (hz _ rfl) hcs hds;rw[hag]at hval
         -- the stamp
         have hsi:(asInt (ρ st)).run P w=.ok s w:=by
          unfold bC at c9;split at c9
          .rename_i k0 n0;obtain rfl:=aa c9;obtain⟨e1,_⟩:=(hy _ rfl).lit;rw[e1];simp[asInt,asIntOf]
          .simp at c9
         have hlt:i<es.length:=by obtain⟨h1,_⟩:=List.findIdx?_eq_some_iff_getElem.1 hfi;exact h1
         obtain⟨e0,e1,e3,e4⟩:=hE.Fu (j:=i) (by rw[<-hE.1];exact hlt)
         have hE':mZ S w ka va2 (es.set i ((es.getD i default).1,ds,(es.getD i default).2.2)) (ms.modify i (fun e=>{e with val:=ρ x})).toList:=by
          refine⟨by simp[hE.1],fun j e m hi hm=>?_⟩;have hm':(ms.modify i (fun e=>{e with val:=ρ x}))[j]?=some m:=by rw[<-aQ];exact hm
          rw[Array.getElem?_modify]at hm';rw[List.getElem?_set]at hi;by_cases hij:i=j
          .subst hij;rw[if_pos rfl]at hm' hi;rw[if_pos hlt]at hi;obtain rfl:=aa hi;have ea:ms[i]?=some (ms.toList.getD i default):=by rw[<-e0];simp
           rw[ea]at hm';obtain rfl:({ms.toList.getD i default with val:=ρ x}:MapEntry)=m:=by simpa using hm'
           exact⟨e1,hval,e4⟩
          .rw [if_neg hij]at hm' hi;exact hE.2 j e m hi (by simpa using hm')
         obtain⟨hs,hI'⟩:=hI.xk (clock':=dg) hob hms hE';refine⟨.skip,undef,{w with heap:=w.heap.setIfInBounds (φ id).bH (.map (ms.modify i (fun e=>{e with val:=ρ x})) dg)},?_,.inr ⟨rfl,rfl⟩,hI.uA hs hI' rfl⟩;have hfi2:ms.findIdx? (fun e=>(e.born:Int)==s)=some i:=by rw[<-hfi,<-hE.find,<-List.findIdx?_toArray]
         simp only[execOp,ho,Instr.entryStore,hv1,Sem.run_bind,Result.andThen_ok,jS hms,hsi,hfi2,nu _ hms,Sem.run_pure]
      .simp at hl
     .simp at hl
    .simp at hl
   .simp at hl
  .simp at h
theorem nO{sz:Nat}{x:C}{xv:Value}{new:List (List D)}(hsz:0<sz)(hI:Inv S K w0 Kn φ (ak H) w)(hr:RC S w Kn φ x xv)(h:fz sz H x=some (new,aj))(n:Nat)(hn:n<=new.length):
  (Builtin.lenOf xv).run P w=.ok new.length w/\∃aB,(Builtin.firstCells sz n xv).run P w=.ok aB w/\aB.size=n*sz/\bG S w sz (fun i=>aB[i]?) 0 (new.take n)/\∀x∈aB.toList,one x=true:=by
 have Oz:∀{b addr len cap:Nat},new.length=len->bG S w sz (fun i=>w.cell? ⟨b,i,none⟩) addr new->xv=.slice (some ⟨b,addr,none⟩) len cap->
   (Builtin.lenOf xv).run P w=.ok new.length w/\∃aB,(Builtin.firstCells sz n xv).run P w=.ok aB w/\aB.size=n*sz/\bG S w sz (fun i=>aB[i]?) 0 (new.take n)/\∀x∈aB.toList,one x=true:=by
  intro b addr len cap hl hR hv;subst hl hv;have hR2:=hR.sub 0 n;rw[List.drop_zero,eC,ci]at hR2;obtain⟨aB,h1,h2,h3,h4⟩:=kX (P:=P) hsz hR2;have e:(new.take n).length=n:=by simp;omega
  rw[e]at h1 h2;exact⟨rfl,aB,h1 w rfl,h2,h3,h4⟩
 unfold fz at h;split at h
 .obtain ⟨rfl,rfl⟩:[]=new/\[]=aj:=by simpa using h
  obtain rfl:n=0:=by simpa using hn
  cases hr with
  |d hd=>cases hd with|lit hp=>exact⟨rfl, #[],rfl,by simp,⟨fun i r hi=>by simp at hi,fun i r hi=>by simp at hi⟩,fun x hx=>by simp at hx⟩
 .rename_i sz' rows;split at h
  .rename_i e1;subst e1;obtain⟨rfl,rfl⟩:rows=new/\[]=aj:=by simpa using h
   cases hr with
   |d hd=>cases hd with
    |sl f hb hsz0 hcap hrow hcell hrd=>exact Oz rfl ⟨hrow,fun i r hi j x hj=>⟨_,hcell i r hi j x hj,hrd i r hi j x hj⟩⟩ rfl
    |mD hsz0=>
     obtain rfl:n=0:=by simpa using hn
     refine⟨rfl, #[],?_,by simp,⟨fun i r hi=>by simp at hi,fun i r hi=>by simp at hi⟩,fun x hx=>by simp at hx⟩;simp only[Builtin.firstCells,eC];rfl
  .simp at h
 .rename_i sz' id off len
  have key:∀szo rows,(ak H id=some (.aB szo rows)\/ak H id=some (.ML szo rows))->(if sz'=sz/\off+len<=rows.length then some ((rows.drop off).take len,[id])else none)=some (new,aj)->
    (Builtin.lenOf xv).run P w=.ok new.length w/\∃aB,(Builtin.firstCells sz n xv).run P w=.ok aB w/\aB.size=n*sz/\bG S w sz (fun i=>aB[i]?) 0 (new.take n)/\∀x∈aB.toList,one x=true:=by
   intro szo rows ho hq;split at hq
   .rename_i hb;obtain⟨e1,hle⟩:=hb;subst e1;obtain⟨rfl,rfl⟩:=ad (aa hq);obtain⟨hsz1,hl,hR⟩:=iZ hI ho;subst hl;cases hr with|da hk hcap haddr hext=>exact Oz (by simp;omega) (hR.pH off len fun h=>haddr (by omega)) rfl
   .simp at hq
  split at h
  .exact key _ _ (.inl (by assumption)) h
  .exact key _ _ (.inr (by assumption)) h
  .simp at h
 .simp at h
theorem u7{sz aF off:Nat}{rows ns:List (List D)}{aB:Array Value}{vs:List Value}(h:bG S w sz (fun i=>aB[i]?) aF rows)(hfit:off+ns.length<=rows.length)
  (hl:vs.length=ns.length*sz) (hn:bG S w sz (fun i=>vs[i]?) 0 ns) (hsz:aF+rows.length*sz<=aB.size):
  bG S w sz (fun i=>(aM aB.toList (aF+off*sz) vs).toArray[i]?) aF (aM rows off ns):=by
 have hmul:(off+ns.length)*sz<=rows.length*sz:=aw _ hfit;rw[bf]at hmul;have hget:∀k,(aM aB.toList (aF+off*sz) vs).toArray[k]?=if k<aF+off*sz then aB[k]?else if k<aF+off*sz+vs.length then vs[k-(aF+off*sz)]?else aB[k]?:=by intro k;rw[<-aQ];show(aM aB.toList _ vs)[k]?=_;rw[fH _ _ _ (by simp;omega)];simp only[aQ]
 have Fu:∀(i:Nat)(r:List D),(aM rows off ns)[i]?=some r->r.length=sz/\∀(j:Nat)(x:D),r[j]?=some x->∃y,(aM aB.toList (aF+off*sz) vs).toArray[aF+i*sz+j]?=some y/\RD S w x y:=by
  intro i r hi;rw[fH _ _ _ hfit]at hi;by_cases c1:i<off
  .rw [if_pos c1]at hi;refine⟨h.1 i r hi,fun j x hj=>?_⟩;obtain⟨y,hy,hr⟩:=h.2 i r hi j x hj;have hjl:j<sz:=by rw[<-h.1 i r hi];exact(af.1 hj).1
   have:(i+1)*sz<=off*sz:=aw _ c1;rw[cg]at this;exact⟨y,by rw[hget,if_pos (by omega)];exact hy,hr⟩
  .rw [if_neg c1]at hi;by_cases c2:i<off+ns.length
   .rw [if_pos c2]at hi;refine⟨hn.1 _ r hi,fun j x hj=>?_⟩;obtain⟨y,hy,hr⟩:=hn.2 _ r hi j x hj;have hjl:j<sz:=by rw[<-hn.1 _ r hi];exact(af.1 hj).1
    have e1:i*sz=off*sz+(i-off)*sz:=by rw[<-bf];congr 1;omega
    have hm:(i-off+1)*sz<=ns.length*sz:=aw _ (by omega);rw[cg]at hm;refine⟨y,?_,hr⟩;rw[hget,if_neg (by omega),if_pos (by omega)];rw[<-hy];show vs[_]?=vs[_]?;congr 1;omega
   .rw [if_neg c2]at hi;refine⟨h.1 i r hi,fun j x hj=>?_⟩;obtain⟨y,hy,hr⟩:=h.2 i r hi j x hj;have:(off+ns.length)*sz<=i*sz:=aw _ (by omega);rw[bf]at this;exact⟨y,by rw[hget,if_neg (by omega),if_neg (by omega)];exact hy,hr⟩
 exact⟨fun i r hi=>(Fu i r hi).1,fun i r hi=>(Fu i r hi).2⟩
theorem uT{α:Type}(l:List α)(off:Nat)(p:List α)(hfit:off<=l.length)(i:Nat):
  (aM l off p)[i]?=if i<off then l[i]?else if i<off+p.length then p[i-off]?else l[i]?:=by
 unfold aM;by_cases h1:i<off
 .rw [List.append_assoc,bm (by simp;omega)];simp[h1]
 .by_cases h2:i<off+p.length
  .rw [bm (by simp;omega),bw (by simp;omega)];simp only[eu,h1,h2,if_true,if_false];congr 1;omega
  .rw [bw (by simp;omega)];simp only[bh,eu,List.getElem?_drop,h1,h2,if_false];congr 1;omega
theorem qk{α:Type}(l:List α)(off:Nat)(p:List α)(hfit:off<=l.length):(aM l off p).length=max l.length (off+p.length):=by unfold aM;simp;omega
theorem Ac{sz aF off:Nat}{rows ns:List (List D)}{aB:Array Value}{vs:List Value}(h:bG S w sz (fun i=>aB[i]?) aF rows)(hfit:off<=rows.length)
  (hl:vs.length=ns.length*sz) (hn:bG S w sz (fun i=>vs[i]?) 0 ns) (hsz:aF+off*sz+ns.length*sz<=aB.size):
  bG S w sz (fun i=>(aM aB.toList (aF+off*sz) vs).toArray[i]?) aF (aM rows off ns):=by
 have hget:∀k,(aM aB.toList (aF+off*sz) vs).toArray[k]?=if k<aF+off*sz then aB[k]?else if k<aF+off*sz+vs.length then vs[k-(aF+off*sz)]?else aB[k]?:=by intro k;rw[<-aQ];show(aM aB.toList _ vs)[k]?=_;rw[fH _ _ _ (by simp;omega)];simp only[aQ]
 have Fu:∀(i:Nat)(r:List D),(aM rows off ns)[i]?=some r->r.length=sz/\∀(j:Nat)(x:D),r[j]?=some x->∃y,(aM aB.toList (aF+off*sz) vs).toArray[aF+i*sz+j]?=some y/\RD S w x y:=by
  intro i r hi;rw[uT _ _ _ hfit]at hi;by_cases c1:i<off
  .rw [if_pos c1]at hi;refine⟨h.1 i r hi,fun j x hj=>?_⟩;obtain⟨y,hy,hr⟩:=h.2 i r hi j x hj;have hjl:j<sz:=by rw[<-h.1 i r hi];exact(af.1 hj).1
   have:(i+1)*sz<=off*sz:=aw _ c1;rw[cg]at this;exact⟨y,by rw[hget,if_pos (by omega)];exact hy,hr⟩
  .rw [if_neg c1]at hi;by_cases c2:i<off+ns.length
   .rw [if_pos c2]at hi;refine⟨hn.1 _ r hi,fun j x hj=>?_⟩;obtain⟨y,hy,hr⟩:=hn.2 _ r hi j x hj;have hjl:j<sz:=by rw[<-hn.1 _ r hi];exact(af.1 hj).1
    have e1:i*sz=off*sz+(i-off)*sz:=by rw[<-bf];congr 1;omega
    have hm:(i-off+1)*sz<=ns.length*sz:=aw _ (by omega);rw[cg]at hm;refine⟨y,?_,hr⟩;rw[hget,if_neg (by omega),if_pos (by omega)];rw[<-hy];show vs[_]?=vs[_]?;congr 1;omega
   .rw [if_neg c2]at hi;refine⟨h.1 i r hi,fun j x hj=>?_⟩;obtain⟨y,hy,hr⟩:=h.2 i r hi j x hj;have:(off+ns.length)*sz<=i*sz:=aw _ (by omega);rw[bf]at this;exact⟨y,by rw[hget,if_neg (by omega),if_neg (by omega)];exact hy,hr⟩
 exact⟨fun i r hi=>(Fu i r hi).1,fun i r hi=>(Fu i r hi).2⟩
theorem Ce{c:Go.Call}{d x:Operand}{dt xt el:TypeId}{n:Nat}{dc xc:C}{i:Int}(ho:o.op=.call c)(hcal:c.callee=.builtin .copy)(hargs:c.args= #[d,x])(hts:c.argTypes= #[dt,xt])
  (hud:P.underlying dt=some (.slice el)) (hsz:dm P el=some (n+1)) (hI:Inv S K w0 Kn φ (ak H) w) (hdr:dH S w Kn φ (.c dc) (ρ d)) (hxr:dH S w Kn φ (.c xc) (ρ x))
  (hl:jF (n+1) dc xc H=some (i,u,aj)):bZ P o ρ S K w0 w Kn φ (ak H) nxt nxt (lv (.int .i64 i)) u:=by
 unfold jF at hl;split at hl
 case h_2=>simp at hl
 rename_i sz' id off len sz2 id2 off2 len2
 have key:∀szo rows cp rows2,ak H id=some (.cap szo rows cp)->sz'=n+1->sz2=n+1->off<=rows.length->off2+min len2 len<=rows2.length->(φ id2).sz=n+1->
   bG S w (n+1) (fun i=>w.cell? ⟨(φ id2).bH,i,none⟩) (φ id2).aF rows2->
   bZ P o ρ S K w0 w Kn φ (ak H) nxt nxt (lv (.int .i64 (min len2 len:Nat))) [(id,some (.cap (n+1) (aM rows off ((rows2.drop off2).take (min len2 len))) cp))]:=by
  intro szo rows cp rows2 hob e1 e3 hoff hle hsz2 hR2;subst e1 e3;generalize hv0:ρ d=val at hdr;generalize hv1:ρ x=val1 at hxr;cases hdr with
  |c hdr=>
  cases hxr with
  |c hxr=>
  obtain⟨cap2,addr2,rfl,_,_,hcap2,haddr2,_,_⟩:=hxr.gk;have hnl:((rows2.drop off2).take (min len2 len)).length=min len2 len:=by simp;omega
  obtain⟨aB,h2,h3,h4,h5⟩:=kX (P:=P) (sz:=n+1) (bV n) (hR2.pH (addr:=addr2) off2 (min len2 len) fun h=>by rw[haddr2 (by omega),hsz2]);rw[hnl]at h2 h3;have h1:(Builtin.lenOf (.slice (some ⟨(φ id2).bH,addr2,none⟩) len2 cap2)).run P w=.ok len2 w:=rfl;have h2:(Builtin.firstCells (n+1) (min len2 len) (.slice (some ⟨(φ id2).bH,addr2,none⟩) len2 cap2)).run P w=.ok aB w:=h2 w rfl;have hmn:Nat.min len2 len=min len2 len:=rfl;obtain⟨hk0,h0⟩:=hI.fh _ _ hob;generalize hphi:φ id=l at*;cases h0 with
  |@cap _ _ _ old hsz0 hl hS hK hown hext hfit hrr hvis hcc=>
  obtain⟨cap,addr,rfl,hszl,hk,hcap,haddr,hextc,hcl⟩:=hdr.gk;rw[hphi]at hv0 haddr hextc hszl hcl;have e2:szo=n+1:=by rw[<-hl,hszl]
  subst e2;rw[hl]at haddr hextc
  have run:∀w',(storeCells ⟨l.bH,addr,none⟩ aB.toList).run P w=.ok () w'->(execOp ρ o).run P w=.ok (.value (goInt ((min len2 len:Nat):Int))) w':=by
   intro w' c9
   simp only[execOp,ho,hcal,resolve,hargs,Sem.run_bind,Sem.run_pure,Result.andThen_ok,invoke,builtin,Builtin.copy_,hts,cS,am,aO,hv0,hv1,bE,
    bJ,c_,bo hud,eF hsz,h1,hmn,h2,c9]
  generalize hnew:(rows2.drop off2).take (min len2 len)=new at*;rcases Nat.eq_zero_or_pos (min len2 len)with hz|hz
  .have ha:aB.toList=[]:=by rw[hz,eC]at h3;exact aV.1 (by simpa using h3)
   have hns:new=[]:=aV.1 (by rw[hnl];exact hz);have hsame:aM rows off new=rows:=by rw[hns];simp[aM]
   have hupd:aU [(id,some (Ob.cap (n+1) (aM rows off new) cp))] (ak H)=ak H:=by
    funext j;rw[bk,hsame];split
    .rename_i e;rw[<-e,hob]
    .rfl
   refine⟨.value _,_,_,run w (by rw[ha];rfl),.inl rfl,gI.set (WJ.refl _ _) (by rw[hupd];exact hI) (.c (.d (.lit rfl)))⟩
  .have hpos:0<cap:=by have:=fc len2 len;omega
   have haddr:=haddr hpos;obtain⟨ty,hty⟩:=hown;have hlen:aB.toList.length=min len2 len*(n+1):=by simpa using h3
   have hml:min len2 len*(n+1)<=len*(n+1):=aw _ (fc _ _);have hmc:len*(n+1)<=cap*(n+1):=aw _ hcap;have c9:=run_storeCells_at P l.bH addr ty aB.toList 0 old w hty (by rw[hlen,hext];omega) (fun v hv=>by rw[jU];exact h5 v hv);simp only[ci]at c9;have hown:ju w l.bH old:=⟨ty,hty⟩
   obtain⟨p1,p2,p3,p4,p5⟩:=Mx (w:=w) (b:=l.bH) (o:=addr) (n:=aB.toList.length) (vs:=aB.toList) hown rfl
   have hset:=hI.set (o':=.cap (n+1) (aM rows off new) cp) hob rfl (by rw[hphi];exact p2) p3 p4 (by rw[hphi];exact p5 (by rw[hlen,hext];omega)) ⟨rfl,rfl,rfl,ai _⟩ (fun hstp=>by
    rw[hphi];have h6:=(Ac (vs:=aB.toList) (off:=off) hrr hoff (by rw[hnl];exact hlen) (by simpa using h4) (by rw[hnl,hext];omega)).mono hstp;rw[<-haddr]at h6;have hsl:(aM rows off new).length=max rows.length (off+min len2 len):=by rw[qk _ _ _ hoff,hnl]
    have:=fc len2 len;exact .cap hsz0 hl hS hK p1 (by simp only[eM];rw[cQ _ _ _ (by rw[hlen];simp only[dp,hext];omega)];simpa using hext) hfit h6 (by rw[hsl];omega) hcc)
   exact⟨.value _,_,_,run _ c9,.inl rfl,gI.set hset.1 hset.2 (.c (.d (.lit rfl)))⟩
 split at hl
 .rename_i szo rows cp szo2 rows2 hob hob2;split at hl
  .rename_i hb;obtain⟨e1,e3,hoff,hle⟩:=hb;obtain⟨rfl,rfl,_⟩:((min len2 len:Nat):Int)=i/\[(id,some (Ob.cap (n+1) (aM rows off ((rows2.drop off2).take (min len2 len))) cp))]=u/\[id,id2]=aj:=by simpa using hl
   obtain⟨_,hl2,hR2⟩:=iZ hI (.inl hob2);have hs2:(φ id2).sz=n+1:=by cases hxr with|c hxr=>obtain⟨_,_,_,h9,_⟩:=hxr.gk;rw[h9,e3]
   obtain rfl:szo2=n+1:=by rw[<-hl2,hs2]
   exact key _ _ _ _ hob e1 e3 hoff hle hs2 hR2
  .simp at hl
 .rename_i szo rows cp szo2 rows2 cp2 hob hob2;split at hl
  .rename_i hb;obtain⟨e1,e3,hoff,hle⟩:=hb;obtain⟨rfl,rfl,_⟩:((min len2 len:Nat):Int)=i/\[(id,some (Ob.cap (n+1) (aM rows off ((rows2.drop off2).take (min len2 len))) cp))]=u/\[id,id2]=aj:=by simpa using hl
   obtain⟨_,h0⟩:=hI.fh _ _ hob2;cases h0 with
   |cap hsz0 hl2 hS hK hown hext hfit hrr hvis hcc=>
    have hs2:(φ id2).sz=n+1:=by cases hxr with|c hxr=>obtain⟨_,_,_,h9,_⟩:=hxr.gk;rw[h9,e3]
    obtain rfl:szo2=n+1:=by rw[<-hl2,hs2]
    exact key _ _ _ _ hob e1 e3 hoff hle hs2 ⟨hrr.1,fun i r hi j x hj=>let⟨y,hy,hd⟩:=hrr.2 i r hi j x hj;⟨y,(hown.cell _).trans hy,hd⟩⟩
  .simp at hl
 .simp at hl
theorem EJ{c:Go.Call}{d x:Operand}{dt xt el:TypeId}{n:Nat}(ho:o.op=.call c)(hcal:c.callee=.builtin .copy)(hargs:c.args= #[d,x])(hts:c.argTypes= #[dt,xt])
  (hud:P.underlying dt=some (.slice el)) (hsz:dm P el=some (n+1)) (hI:Inv S K w0 Kn φ (ak H) w) {td tx:Option TV} (hd:∀y,td=some y->dH S w Kn φ y (ρ d)) (hx:∀y,tx=some y->dH S w Kn φ y (ρ x))
  (h:bD call (.copy (n+1)) [td,tx] H nxt=some (v,u,aj,n')):bZ P o ρ S K w0 w Kn φ (ak H) nxt n' v u:=by
 match td,tx,h,hd,hx with
 |some (.c dc),some (.c xc),h,hd,hx=>
  change (match il (n+1) dc xc H with|some (i,u,aj)=>some (lv (.int .i64 i),u,aj,nxt)|none=>(match jF (n+1) dc xc H with|some (i,u,aj)=>some (lv (.int .i64 i),u,aj,nxt)|none=>none))=_ at h;split at h
  .rename_i i u1 ids1 hl;obtain⟨rfl,rfl,rfl,rfl⟩:lv (.int .i64 i)=v/\u1=u/\ids1=aj/\nxt=n':=by simpa using h
   unfold il at hl;cases hx _ rfl with
   |c hxr=>
   split at hl
   .rename_i new ids2 hrx;obtain⟨rfl,rfl,rfl⟩:0=i/\[]=u1/\ids2=ids1:=by simpa using hl
    obtain⟨hv,_⟩:=(hd _ rfl).lit;obtain⟨h1,aB,h2,h3,_,_⟩:=nO (P:=P) (sz:=n+1) (bV n) hI hxr hrx 0 (gi _);have he:(Nat.min new.length 0)=0:=Nat.min_zero _;refine bZ.pure hI ?_ (.c (.d (.lit rfl)))
    simp only[execOp,ho,hcal,resolve,hargs,Sem.run_bind,Sem.run_pure,Result.andThen_ok,invoke,builtin,Builtin.copy_,hts,cS,am,aO,hv,bE,
     bJ,c_,bo hud,eF hsz,h1,he,h2,goInt]
    rfl
   .rename_i new ids2 sz' id off len hrx;split at hl
    .rename_i szo rows hob;split at hl
     .rename_i hb;obtain⟨e1,hle⟩:=hb;subst e1;obtain⟨rfl,rfl,rfl⟩:((min new.length len:Nat):Int)=i/\[(id,some (Ob.aB (n+1) (aM rows off (new.take len))))]=u1/\id::ids2=ids1:=by simpa using hl
      have hdr:=hd _ rfl;generalize hv0:ρ d=val at hdr;cases hdr with
      |c hdr=>
      obtain⟨h1,aB,h2,h3,h4,h5⟩:=nO (P:=P) (sz:=n+1) (bV n) hI hxr hrx (min new.length len) (Nat.min_le_left _ _)
      have htk:new.take (min new.length len)=new.take len:=by
       rcases Nat.le_total new.length len with hc|hc
       .rw [Nat.min_eq_left hc,dj (ai _),dj hc]
       .rw [Nat.min_eq_right hc]
      rw[htk]at h4;have htl:(new.take len).length=min new.length len:=by simp[Nat.min_comm]
      have hmn:Nat.min new.length len=min new.length len:=rfl;obtain⟨hk0,h0⟩:=hI.fh _ _ hob;generalize hphi:φ id=l at*;cases h0 with
      |@aB _ _ old hsz0 hl hS hK hown hext hfit hrr hvis=>
      obtain⟨cap,addr,rfl,hszl,hk,hcap,haddr,hextc,hcl⟩:=hdr.gk;rw[hphi]at hv0 haddr hextc hszl hcl;have e2:szo=n+1:=by rw[<-hl,hszl]
      subst e2;rw[hl]at haddr hextc
      have run:∀w',(storeCells ⟨l.bH,addr,none⟩ aB.toList).run P w=.ok () w'->(execOp ρ o).run P w=.ok (.value (goInt ((min new.length len:Nat):Int))) w':=by
       intro w' c9
       simp only[execOp,ho,hcal,resolve,hargs,Sem.run_bind,Sem.run_pure,Result.andThen_ok,invoke,builtin,Builtin.copy_,hts,cS,am,aO,hv0,bE,
        bJ,c_,bo hud,eF hsz,h1,hmn,h2,c9]
      rcases Nat.eq_zero_or_pos (min new.length len)with hz|hz
      .have ha:aB.toList=[]:=by rw[hz,eC]at h3;exact aV.1 (by simpa using h3)
       have hns:new.take len=[]:=aV.1 (by rw[htl];exact hz);have hsame:aM rows off (new.take len)=rows:=by rw[hns];simp[aM]
       have hupd:aU [(id,some (Ob.aB (n+1) (aM rows off (new.take len))))] (ak H)=ak H:=by
        funext j;rw[bk,hsame];split
        .rename_i e;rw[<-e,hob]
        .rfl
       refine⟨.value _,_,_,run w (by rw[ha];rfl),.inl rfl,gI.set (WJ.refl _ _) (by rw[hupd];exact hI) (.c (.d (.lit rfl)))⟩
      .have hpos:0<cap:=by have:=fc new.length len;omega
       have haddr:=haddr hpos;obtain⟨ty,hty⟩:=hown;have hlen:aB.toList.length=min new.length len*(n+1):=by simpa using h3
       have hml:min new.length len*(n+1)<=len*(n+1):=aw _ (fc _ _);have hmc:len*(n+1)<=cap*(n+1):=aw _ hcap;have c9:=run_storeCells_at P l.bH addr ty aB.toList 0 old w hty (by rw[hlen,hext];omega) (fun v hv=>by rw[jU];exact h5 v hv);simp only[ci]at c9;have hown:ju w l.bH old:=⟨ty,hty⟩
       obtain⟨p1,p2,p3,p4,p5⟩:=Mx (w:=w) (b:=l.bH) (o:=addr) (n:=aB.toList.length) (vs:=aB.toList) hown rfl;have hset:=hI.set (o':=.aB (n+1) (aM rows off (new.take len))) hob rfl (by rw[hphi];exact p2) p3 p4 (by rw[hphi];exact p5 (by rw[hlen,hext];omega)) ⟨rfl,rfl,rfl,ai _⟩ (fun hstp=>by rw[hphi];have h6:=(u7 (vs:=aB.toList) (off:=off) hrr (by rw[htl];have:=fc new.length len;omega) (by rw[htl];exact hlen) (by simpa using h4) (by rw[hext];exact hfit)).mono hstp;rw[<-haddr]at h6;have hsl:(aM rows off (new.take len)).length=rows.length:=cQ _ _ _ (by rw[htl];have:=fc new.length len;omega);exact .aB hsz0 hl hS hK p1 (by simp only[eM];rw[cQ _ _ _ (by rw[hlen];simp only[dp,hext];omega)];simpa using hext) (by rw[hsl];exact hfit) h6 (by rw[hsl];exact hvis));exact⟨.value _,_,_,run _ c9,.inl rfl,gI.set hset.1 hset.2 (.c (.d (.lit rfl)))⟩
     .simp at hl
    .simp at hl
   .simp at hl
  .split at h
   .rename_i i u1 ids1 hl;obtain⟨rfl,rfl,rfl,rfl⟩:lv (.int .i64 i)=v/\u1=u/\ids1=aj/\nxt=n':=by simpa using h
    exact Ce ho hcal hargs hts hud hsz hI (hd _ rfl) (hx _ rfl) hl
   .simp at h
theorem Cg{c:Go.Call}{d:Operand}{dt el:TypeId}{n:Nat}{z:List Value}(ho:o.op=.call c)(hcal:c.callee=.builtin .clear)(hargs:c.args= #[d])(hts:c.argTypes= #[dt])
  (hud:P.underlying dt=some (.slice el)) (_hsz:dm P el=some (n+1)) (hz:fS P el=some z) (hzl:z.length=n+1) (hI:Inv S K w0 Kn φ (ak H) w) {td:Option TV} (hd:∀y,td=some y->dH S w Kn φ y (ρ d))
  (h:bD call (.clear z) [td] H nxt=some (v,u,aj,n')):bZ P o ρ S K w0 w Kn φ (ak H) nxt n' v u:=by
 obtain⟨zv,hzr,hzv,hzp⟩:=jR hz w
 match td,h,hd with
 |some (.c dc),h,hd=>
  change (match jG z dc H with|some (u,aj)=>some (TV.fm [],u,aj,nxt)|none=>none)=_ at h;split at h
  .rename_i u1 ids1 hl;obtain⟨rfl,rfl,rfl,rfl⟩:TV.fm []=v/\u1=u/\ids1=aj/\nxt=n':=by simpa using h
   unfold jG at hl;split at hl
   .rename_i sz' id off len;split at hl
    .rename_i szo rows hob;split at hl
     .rename_i hb;obtain⟨e1,hle⟩:=hb;rw[hzl]at e1;subst e1;obtain⟨rfl,_⟩:=ad (aa hl);have hdr:=hd _ rfl;generalize hv0:ρ d=val at hdr;cases hdr with
      |c hdr=>
      obtain⟨hk0,h0⟩:=hI.fh _ _ hob;generalize hphi:φ id=l at*;cases h0 with
      |@aB _ _ old hsz0 hlz hS hK hown hext hfit hrr hvis=>
      obtain⟨cap,addr,rfl,hszl,hk,hcap,haddr,hextc,hcl⟩:=hdr.gk;rw[hphi]at hv0 haddr hextc hszl hcl;have e2:szo=n+1:=by rw[<-hlz,hszl]
      subst e2;rw[hlz]at haddr hextc;have hzs:zv.cells.size=n+1:=by rw[<-hzl,<-hzv];simp
      obtain⟨inf,hzr'⟩:∃inf:Unit,True:=⟨(),trivial⟩
      cases len with
      |zero=>
       have hsame:aM rows off (au 0 (bO z))=rows:=by simp[aM]
       have hupd:aU [(id,some (Ob.aB (n+1) (aM rows off (au 0 (bO z)))))] (ak H)=ak H:=by
        funext j;rw[bk,hsame];split
        .rename_i e;rw[<-e,hob]
        .rfl
       refine⟨.value (.tuple #[]),.tuple #[],w,?_,.inl rfl,gI.set (WJ.refl _ _) (by rw[hupd];exact hI) (.fm rfl fun i x hi=>by simp at hi)⟩
       simp only[execOp,ho,hcal,resolve,hargs,Sem.run_bind,Sem.run_pure,Result.andThen_ok,invoke,builtin,Builtin.clear_,hts,cS,am,aO,hv0,bE,
        bJ,bo hud]
      |succ len=>
       have hpos:0<cap:=by omega
       have haddr:=haddr hpos;obtain⟨ty,hty⟩:=hown;let aB:=(Builtin.zeroCells zv.cells (len+1)).toList;have hlen:aB.length=(len+1)*(n+1):=by simp[aB,Builtin.zeroCells,hzs]
       have hget:∀k,k<(len+1)*(n+1)->aB[k]?=z[k %(n+1)]?:=fun k hk=>by
        have harr:aB=(dJ ((len+1)*(n+1))).map fun i=>z.getD (i %(n+1)) undef:=by have:=nI (n:=(len+1)*(n+1)) hzv hzl (bV n);simp only[aB,Builtin.zeroCells,hzs];rw[hzs]at this;exact this
        have hm:k %(n+1)<z.length:=by rw[hzl];exact Nat.mod_lt _ (bV _)
        rw[harr,aC,fR hk];simp[List.getD,List.getElem?_eq_getElem hm]
       have hmc:(len+1)*(n+1)<=cap*(n+1):=aw _ hcap;have c9:=run_storeCells_at P l.bH addr ty aB 0 old w hty (by rw[hlen,hext];omega) (fun v hv=>by rw[jU];obtain⟨k,hk⟩:=List.getElem?_of_mem hv;have hkl:=(af.1 hk).1;rw[hlen]at hkl;rw[hget k hkl]at hk;exact nZ (hzp v (aS hk)));simp only[ci]at c9;have hown:ju w l.bH old:=⟨ty,hty⟩
       obtain⟨p1,p2,p3,p4,p5⟩:=Mx (w:=w) (b:=l.bH) (o:=addr) (n:=aB.length) (vs:=aB) hown rfl;have hrl:(au (len+1) (bO z)).length=len+1:=by simp
       have hset:=hI.set (o':=.aB (n+1) (aM rows off (au (len+1) (bO z)))) hob rfl (by rw[hphi];exact p2) p3 p4 (by rw[hphi];exact p5 (by rw[hlen,hext];omega)) ⟨rfl,rfl,rfl,ai _⟩ (fun hstp=>by
        rw[hphi]
        have h6:=(u7 (vs:=aB) (ns:=au (len+1) (bO z)) (off:=off) hrr (by rw[hrl];omega) (by rw[hrl];exact hlen) ⟨fun i r hi=>by
          rw[bY]at hi;split at hi
          .rw [<-aa hi];simp[bO,hzl]
          .simp at hi,fun i r hi j x hj=>by
          rw[bY]at hi;split at hi
          .rename_i hil;obtain rfl:=aa hi;simp only[bO,aC]at hj;obtain⟨y,hy,rfl⟩:=aA.1 hj;have hjl:j<n+1:=by rw[<-hzl];exact(af.1 hy).1
           have hm:(i+1)*(n+1)<=(len+1)*(n+1):=aw _ hil;rw[cg]at hm;refine⟨y,?_,.lit (hzp y (aS hy))⟩;show aB[0+i*(n+1)+j]?=_;rw[hget _ (by omega),bl,Nat.mul_comm,Nat.mul_add_mod,WX hjl];exact hy
          .simp at hi⟩ (by rw[hext];exact hfit)).mono hstp
        rw[<-haddr]at h6;have hsl:(aM rows off (au (len+1) (bO z))).length=rows.length:=cQ _ _ _ (by rw[hrl];omega);exact .aB hsz0 hlz hS hK p1 (by simp only[eM];rw[cQ _ _ _ (by rw[hlen];simp only[dp,hext];omega)];simpa using hext) (by rw[hsl];exact hfit) h6 (by rw[hsl];exact hvis))
       refine⟨.value (.tuple #[]),.tuple #[],_,?_,.inl rfl,gI.set hset.1 hset.2 (.fm rfl fun i x hi=>by simp at hi)⟩
       simp only[execOp,ho,hcal,resolve,hargs,Sem.run_bind,Sem.run_pure,Result.andThen_ok,invoke,builtin,Builtin.clear_,hts,cS,am,aO,hv0,bE,
        bJ,bo hud,hzr]
       rw[c9];rfl
     .simp at hl
    .simp at hl
   .simp at hl
  .simp at h
theorem GE{c:Go.Call}{d:Operand}{dt el:TypeId}(ho:o.op=.call c)(hcal:c.callee=.builtin .cap)(hargs:c.args= #[d])(hts:c.argTypes= #[dt])
  (hud:P.underlying dt=some (.slice el)) (hI:Inv S K w0 Kn φ (ak H) w) {td:Option TV} (hd:∀y,td=some y->dH S w Kn φ y (ρ d))
  (h:bD call .DA [td] H nxt=some (v,u,aj,n')):bZ P o ρ S K w0 w Kn φ (ak H) nxt n' v u:=by
 match td,h,hd with
 |some (.c dc),h,hd=>
  change (match rg dc H with|some (n,aj)=>some (lv (.int .i64 n),([]:de),aj,nxt)|none=>none)=_ at h;split at h
  .rename_i m ids1 hl;obtain⟨rfl,rfl,rfl,rfl⟩:lv (.int .i64 m)=v/\[]=u/\ids1=aj/\nxt=n':=by simpa using h
   unfold rg at hl;split at hl
   .rename_i sz id off len;split at hl
    .rename_i szo rows cp hob;obtain⟨rfl,_⟩:=ad (aa hl);have hdr:=hd _ rfl;generalize hv0:ρ d=val at hdr;cases hdr with
     |c hdr=>
     obtain⟨cap,addr,rfl,_,_,_,_,_,hcl⟩:=hdr.gk;obtain⟨_,h0⟩:=hI.fh _ _ hob;cases h0 with
     |cap hsz0 hl hS hK hown hext hfit hrr hvis hcc=>
     have e:cp-off=cap:=by omega
     refine bZ.pure hI ?_ (.c (.d (.lit rfl)))
     simp only[execOp,ho,hcal,resolve,hargs,Sem.run_bind,Sem.run_pure,Result.andThen_ok,invoke,builtin,Builtin.cap_,hts,cS,am,aO,hv0,bE,
      bJ,bo hud,e]
     rfl
    .simp at hl
   .simp at hl
  .simp at h
theorem oN{w:World}{ts rs:Array TypeId}{tS e:TypeId}{sz:Nat}(hts:ts[0]?=some tS)(ht:P.underlying tS=some (.slice e))(hz:dm P e=some (sz+1))
  {a b:Addr} {la ca lb cb:Nat} (hne:a.block≠b.block) {A B:Array Value} (hA:ju w a.block A) (hB:ju w b.block B) (hkB:B.size≠0):
  (Extern.SlicesOverlaps.overlaps ts rs #[.slice (some a) la ca,.slice (some b) lb cb]).run P w=.ok (.bool false) w:=by
 have hnb:(a.block !=b.block)=true:=by simpa using hne
 have hnb':(a.block==b.block)=false:=by simpa using hne
 obtain⟨tA,hA1⟩:=hA;obtain⟨tB,hB1⟩:=hB;have hsa:w.shape? a.block=some (tA,A.size):=by simp[World.shape?,hA1]
 have hsb:w.shape? b.block=some (tB,B.size):=by simp[World.shape?,hB1]
 have hfa:w.frozen? a=false:=by simp[World.frozen?,hA1]
 have hfe:w.frozen? {block:=a.block,off:=A.size}=false:=by simp[World.frozen?,hA1]
 change Sem.run P (α:=Value) (do
  let some t:=ts[0]?|stuck "slices.overlaps: no parameter types"
  let .slice elem<-underlying t|stuck "slices.overlaps: slice type expected"
  let size<-sizeOf elem
  match(some a:Option Addr),(some b:Option Addr)with
  |some a,some b=>
   if la=0\/lb=0\/size=0 then pure (Value.bool false)
   else if a.block !=b.block&&(<-frozen a)&&(<-frozen b)then unsupported .addressObserved
   else do
    if a.block !=b.block then do
     noView a;noView b
     if<-mayBeOne a b then return Value.bool ((<-choose (.extern "sameAddr.stringBytes" 2))==1)
    pure (Value.bool (a.block==b.block&&a.off<b.off+lb*size&&b.off<a.off+la*size))
  |_,_=>pure (Value.bool false)) w=_
 by_cases h0:la=0\/lb=0
 .simp only[hts,Sem.run_bind,bo ht,eF hz,Result.andThen_ok];rw[if_pos (h0.elim .inl fun h=>.inr (.inl h))];rfl
 .cases hk:B.size with|zero=>exact absurd hk hkB|succ kB=>rw[hk]at hsb;simp[hts,bo ht,eF hz,h0,hnb,hnb',frozen,noView,viewAt,mayBeOne,stringish,shape,Sem.run,hsa,hsb,hfa,hfe]
theorem xq{f:FuncId}{fn:Func}{e:Array Value->Sem Value}(hf:P.funcs[f]?=some fn)(hname:(fn.name== "runtime.NumGoroutine")=false)
  (hb:fn.body.isNone=true) (hn:Extern.findNext fn=none) (he:Extern.find fn=some e) (args:Array Value) (w:World):
  (callFunc f args).run P w=((e args).run P w).andThen fun v w'=>.ok (.value v) w':=by
 have h1:fn.name≠ "runtime.NumGoroutine" :=by simpa using hname
 have h2:fn.body=none:=by simpa using hb
 simp[callFunc,hf,h1,h2,hn,he,mark,Sem.run]
theorem EF:Extern.allGenericRows.lookup "slices.overlaps" =none:=by kernel_rfl
theorem Aj:Extern.allTypedRows.lookup "slices.overlaps" =some Extern.SlicesOverlaps.overlaps:=by kernel_rfl
theorem GC{c:Go.Call}{f:FuncId}{x y:Operand}(ho:o.op=.call c)(hcal:c.callee=.value (.func f))(hargs:c.args= #[x,y])(hf:CO P f=true)(hρf:ρ (.func f)=.func (.func f) #[] #[])
  (hI:Inv S K w0 Kn φ (ak H) w) {tx ty:Option TV} (hx:∀z,tx=some z->dH S w Kn φ z (ρ x)) (hy:∀z,ty=some z->dH S w Kn φ z (ρ y))
  (h:bD call .Ii [tx,ty] H nxt=some (v,u,aj,n')):bZ P o ρ S K w0 w Kn φ (ak H) nxt n' v u:=by
 match tx,ty,h,hx,hy with
 |some (.c xc),some (.c yc),h,hx,hy=>
  change (match rf xc yc H with|some aj=>some (lv (.bool false),([]:de),aj,nxt)|none=>none)=_ at h;split at h
  .rename_i ids1 hl;obtain⟨rfl,rfl,rfl,rfl⟩:lv (.bool false)=v/\[]=u/\ids1=aj/\nxt=n':=by simpa using h
   unfold rf at hl;split at hl
   .rename_i sz1 a off1 len1 sz2 b off2 len2;split at hl
    .rename_i s1 rows1 s2 rows2 cp hoa hob;split at hl
     .rename_i hc;obtain⟨hne,hcp⟩:=hc;have hxr:=hx _ rfl;have hyr:=hy _ rfl;generalize hv0:ρ x=val at hxr;generalize hv1:ρ y=val1 at hyr;cases hxr with
      |c hxr=>
      cases hyr with
      |c hyr=>
      obtain⟨cap1,addr1,rfl,_⟩:=hxr.gk;obtain⟨cap2,addr2,rfl,_⟩:=hyr.gk;have hd:=hI.jq a b _ _ hoa hob rfl rfl hne;obtain⟨_,h0⟩:=hI.fh _ _ hoa;obtain⟨_,h1⟩:=hI.fh _ _ hob;cases h0 with
      |@aB _ _ A _ _ _ _ hownA=>
      cases h1 with
      |@cap _ _ _ B hsz0 _ _ _ hownB hext hfit=>
      have hB0:B.size≠0:=by rw[hext];have:1*1<=cp*s2:=Nat.mul_le_mul hcp hsz0;omega
      unfold CO at hf;split at hf
      case h_2=>simp at hf
      rename_i fn hfn;simp only[ae,Option.isNone_iff_eq_none,Bool.not_eq_true',beq_iff_eq]at hf;obtain⟨⟨⟨⟨⟨⟨⟨f1,f2⟩,f3⟩,f4⟩,f5⟩,f6⟩,f7⟩,f8⟩:=hf;split at f8
      case h_2=>simp at f8
      rename_i t r hpar;split at f8
      case h_2=>simp at f8
      rename_i el hel;split at f8
      case h_2=>simp at f8
      rename_i n hsz;have hp0:fn.params[0]?=some t:=by rw[<-aQ,hpar];rfl
      have hfind:Extern.find fn=some (Extern.SlicesOverlaps.overlaps fn.params fn.resultTypes):=by unfold Extern.find;simp only[f4,f5,f6,f7,EF,Aj];rfl
      have hrun:=xq (P:=P) (f:=f) hfn f1 (by rw[f2];rfl) f3 hfind #[.slice (some ⟨(φ a).bH,addr1,none⟩) len1 cap1,.slice (some ⟨(φ b).bH,addr2,none⟩) len2 cap2] w;rw[oN hp0 hel hsz hd hownA hownB hB0]at hrun;refine bZ.pure hI (val:=.bool false) ?_ (.c (.d (.lit rfl)));simp only[execOp,ho,hcal,resolve,hargs,Deferred.ofValue,Sem.run_bind,Sem.run_pure,Result.andThen_ok,invoke,cS,am,aO,hv0,hv1,hρf,Array.append_empty,Array.empty_append];simpa using hrun
     .simp at hl
    .simp at hl
   .simp at hl
  .simp at h
theorem xw{n a m:Nat}{z:List Value}{zv:Value}{aB:Array Value}(hzv:zv.cells.toList=z)(hzl:z.length=n+1)(hzp:∀y∈z,cO y=true)(harr:aB=Builtin.zeroCells zv.cells m)(hle:a<=m):
  bG S w (n+1) (fun i=>aB[i]?) 0 (au a (bO z)):=by
 have hsz:zv.cells.size=n+1:=by rw[<-hzl,<-hzv];simp
 have hl:aB.toList=(dJ (m*(n+1))).map fun i=>z.getD (i %(n+1)) undef:=by rw[harr];unfold Builtin.zeroCells;rw[nI hzv hzl (bV _),hsz]
 refine⟨fun i r hi=>?_,fun i r hi j x hj=>?_⟩
 .obtain ⟨_,rfl⟩:i<a/\bO z=r:=by
   rw[bY]at hi;split at hi
   .rename_i hlt;exact⟨hlt,aa hi⟩
   .simp at hi
  simp[bO,hzl]
 .obtain ⟨hlt,rfl⟩:i<a/\bO z=r:=by
   rw[bY]at hi;split at hi
   .rename_i hlt;exact⟨hlt,aa hi⟩
   .simp at hi
  simp only[bO,aC]at hj;obtain⟨y,hy,rfl⟩:=aA.1 hj;have hjl:j<n+1:=by rw[<-hzl];exact(af.1 hy).1
  refine⟨y,?_,.lit (hzp y (aS hy))⟩;have hidx:i*(n+1)+j<m*(n+1):=by have:(i+1)*(n+1)<=m*(n+1):=aw _ (by omega);rw[cg]at this;omega
  show aB[0+i*(n+1)+j]?=some y;rw[<-aQ,hl,bl,aC,fR hidx];have e1:(i*(n+1)+j) %(n+1)=j:=by rw[Nat.add_comm,Nat.add_mul_mod_self_right];exact WX hjl
  simp[e1,List.getD,hy]
theorem GH{c:Go.Call}{s x:Operand}{st xt el:TypeId}{kd:IntKind}{n:Nat}{z:List Value}(ho:o.op=.call c)(hcal:c.callee=.builtin .append)(hargs:c.args= #[s,x])(hts:c.argTypes= #[st,xt])
  (hus:P.underlying st=some (.slice el)) (hux:P.underlying xt=some (.int kd)) (hsz:dm P el=some (n+1)) (hz:fS P el=some z) (hzl:z.length=n+1) (hby:jH P el=true)
  (hI:Inv S K w0 Kn φ (ak H) w) (hn0:nxt<n'->¬Kn nxt) {ta tx:Option TV} (ha:∀y,ta=some y->dH S w Kn φ y (ρ s)) (hx:∀y,tx=some y->dH S w Kn φ y (ρ x))
  (h:bD call (.IP z) [ta,tx] H nxt=some (v,u,aj,n')):bZ P o ρ S K w0 w Kn φ (ak H) nxt n' v u:=by
 obtain⟨inf,hinf,hb0,hb1⟩:=mr hby;obtain⟨zv,hzr,hzv,hzp⟩:=jR hz w
 match ta,tx,h,ha,hx with
 |some (.c sc),some (.c (.d (.lit (.int k1 k)))),h,ha,hx=>
  change sU z sc k H nxt=_ at h;unfold sU at h;split at h
  case h_2=>simp at h
  rename_i sz' id off len;split at h
  case h_2=>simp at h
  rename_i szo rows cp hob;split at h
  case isFalse=>simp at h
  rename_i hc;obtain⟨e1,hk0,hlim,hvis,hcp⟩:=hc;rw[hzl]at e1;subst e1;simp only[vO]at hlim;obtain⟨rfl,rfl,rfl,rfl⟩:TV.c (.da z.length nxt 0 (len+k.toNat))=v/\[(nxt,some (Ob.aB z.length ((rows.drop off).take len++au k.toNat (bO z))))]=u/\[id]=aj/\nxt+1=n':=by simpa using h
  have hn:=hn0 (aN _);obtain⟨hvx,_⟩:=(hx _ rfl).lit;have hr:=ha _ rfl;generalize hv0:ρ s=val at hr;cases hr with
  |c hr=>
  obtain⟨_,h0⟩:=hI.fh _ _ hob;generalize hphi:φ id=l at*;cases h0 with
  |@cap _ _ _ aB hsz0 hl hS hK hown hext hfit hrr hvv hcc=>
  obtain⟨cap,addr,rfl,hszl,hk,hcap,haddr,hextc,hcl⟩:=hr.gk;rw[hphi]at hv0 haddr hextc hszl hcl;have e2:szo=n+1:=by rw[<-hl,hszl]
  subst e2;rw[hl]at haddr;have hlt:cap<len+k.toNat:=by omega
  have hkp:0<k.toNat:=by omega
  have hlen:((rows.drop off).take len).length=len:=by simp;omega
  have hRc:bG S w (n+1) (fun i=>w.cell? ⟨l.bH,i,none⟩) addr ((rows.drop off).take len):=by have hR:=hrr.pH (addr:=addr) off len fun h=>haddr (by omega);exact⟨hR.1,fun i r hi j x hj=>let⟨y,hy,hd⟩:=hR.2 i r hi j x hj;⟨y,(hown.cell _).trans hy,hd⟩⟩
  obtain⟨old,hold,hos,hoR,hoone⟩:=kX (P:=P) (sz:=n+1) (bV n) hRc;rw[hlen]at hold hos;have hinfo:∀w:World,(typeInfo el).run P w=.ok inf w:=fun w=>by simp[typeInfo,hinf]
  have hzr':∀w:World,(zeroValue el).run P w=.ok zv w:=by intro w';simp only[zeroValue,typeInfo,Sem.run_bind,run_program,Result.andThen_ok,hinf,Sem.run_pure]at hzr|-;cases hzz:inf.zero with|none=>rw[hzz]at hzr;simp at hzr|some q=>rw[hzz]at hzr;simp at hzr|-;exact hzr
  have hunx:∀w:World,(underlying xt).run P w=.ok (.int kd) w:=bo hux;have hwk:IntKind.i64.wrap k=k:=YL hk0 (by omega);have hkn:¬k<0:=by omega
  have hmul:k*(inf.bytes:Int)<=2147483648*16384:=Int.mul_le_mul (by omega) (by omega) (by omega) (by omega);have hbig:¬k*(inf.bytes:Int)>2^48:=by omega
  have hcapn:¬Builtin.nextslicecap (len+k.toNat) cap*inf.bytes>2^48:=by have h1:=Cj hlim hlt;have h2:Builtin.nextslicecap (len+k.toNat) cap*inf.bytes<=6442454016*16384:=Nat.mul_le_mul h1 hb1;omega
  have hbz:¬inf.bytes=0:=by omega
  have hnle:¬len+k.toNat<=cap:=by omega
  have hmx:¬(((len+k.toNat:Nat):Int)>IntKind.i64.max):=by have:IntKind.i64.max=9223372036854775807:=rfl;rw[this];omega
  have hns:¬k.toNat*(n+1)=0:=by have:1*1<=k.toNat*(n+1):=Nat.mul_le_mul hkp (by omega);omega
  have ho2:(Builtin.firstCells (n+1) len (.slice (some ⟨l.bH,addr,none⟩) len cap)).run P {w with drawn:=w.drawn+1}=.ok old {w with drawn:=w.drawn+1}:=hold {w with drawn:=w.drawn+1} rfl;have hzs:zv.cells.size=n+1:=by rw[<-hzl,<-hzv];simp
  have zsize:∀m,(Builtin.zeroCells zv.cells m).size=m*(n+1):=by intro m;simp[Builtin.zeroCells,hzs]
  have hnc:len+k.toNat<=(Question.appendCap (len+k.toNat) cap el).cut (w.tape w.drawn (.appendCap (len+k.toNat) cap el)):=by simp[Question.cut]
  have hrun:(execOp ρ o).run P w=.ok (.value (.slice (some ⟨w.heap.size,0,none⟩) (len+k.toNat) ((Question.appendCap (len+k.toNat) cap el).cut (w.tape w.drawn (.appendCap (len+k.toNat) cap el)))))
    {({w with drawn:=w.drawn+1}:World)with heap:=w.heap.push (.cells (old++Builtin.zeroCells zv.cells k.toNat++Builtin.zeroCells zv.cells ((Question.appendCap (len+k.toNat) cap el).cut (w.tape w.drawn (.appendCap (len+k.toNat) cap el))-(len+k.toNat))) el)}:=by
   simp only[execOp,ho,hcal,resolve,hargs,Sem.run_bind,Sem.run_pure,Result.andThen_ok,invoke,builtin,Builtin.append_,hts,cS,am,aO,hv0,hvx,bE,
    bJ,c_,bo hus,eF hsz,hunx,oP (n:=k) (k:=k1) rfl,hwk,hkn,if_false,hinfo,hbig,hnle,hmx,false_and,hcapn,if_true,hns,run_choose,Question.forced,run_askRoom,ho2,hzr',newRow,run_newObj,Bool.not_true,aG]
  generalize hcv:(Question.appendCap (len+k.toNat) cap el).cut (w.tape w.drawn (.appendCap (len+k.toNat) cap el))=newCap at*;refine⟨.value _,_,_,hrun,.inl rfl,?_⟩
  have hD:=gI.aB (K:=K) (w0:=w0) (hI.mX (w.drawn+1) (a_ _)) hn (sz:=n+1) (cap:=newCap) (aB:=old++Builtin.zeroCells zv.cells k.toNat++Builtin.zeroCells zv.cells (newCap-(len+k.toNat))) (rows:=(rows.drop off).take len++au k.toNat (bO z)) el (bV n)
   (by rw[bh,hlen,bW];exact hnc)
   (by simp only[eN,hos,zsize];rw[<-bf,<-bf];exact aw _ (by omega))
   (bG.mono (WJ.mX S w _) (by
    refine kp ⟨hoR.1,fun i r hi j x hj=>?_⟩ ?_
    .obtain ⟨y,hy,hr⟩:=hoR.2 i r hi j x hj;refine⟨y,?_,hr⟩;have hlt:=(aT.1 hy).1;show(old++_++_)[_]?=_;rw[bT (by rw[eN];omega),bT hlt];exact hy
    .have hz2:=xw (S:=S) (w:=w) (a:=k.toNat) (m:=k.toNat) hzv hzl hzp rfl (ai _);refine⟨hz2.1,fun i r hi j x hj=>?_⟩;obtain⟨y,hy,hr⟩:=hz2.2 i r hi j x hj;refine⟨y,?_,hr⟩;have hlt:=(aT.1 hy).1;show(old++_++_)[_]?=_;rw[hlen,bT (by rw[eN,hos];omega),Array.getElem?_append_right (by rw[hos];omega)];rw[<-hy,hos];show(Builtin.zeroCells zv.cells k.toNat)[_]?=(Builtin.zeroCells zv.cells k.toNat)[_]?;congr 1;omega))
  rw[bh,hlen,bW]at hD;rw[hzl];obtain⟨a1,S',φ',a2,a3,a4,a5⟩:=hD;exact⟨a1,S',φ',(WJ.mX S w _).trans a2,a3,a4,a5⟩
end
end Go.Ev
