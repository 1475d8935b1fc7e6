/- Comparisons of plain cells, and maps: the model's operations against the abstract machine's. Conditions: the relation of XEvC. -/
import Derived.Test.YtbcmbckpebpijaaDoorEvL
import Derived.ChangeKeysEq
import Derived.WideKeyRuns
open Array renaming getElem?_append_left->bY,getElem?_eq_some_iff->aP,getElem?_toList->aU,length_toList->dW,size_append->fh
open Bool renaming and_eq_true->ae,false_eq_true->aM
open Go renaming Call->j6
open List renaming all_eq_true->aQ,drop_drop->cj,getElem?_append_left->bn,getElem?_append_right->bo,getElem?_cons_succ->ce,getElem?_cons_zero->bF,getElem?_eq_some_iff->ah,getElem?_map->aB,getElem?_range->gA,getElem?_replicate->cF,getElem?_toArray->bz,getElem_of_mem->fx,headD_cons->bt,length_append->aZ,length_drop->bR,length_eq_one_iff->eD,length_eq_zero_iff->bc,length_replicate->cD,length_take->dp,map_cons->aq,map_nil->aR,map_toArray->cu,mem_cons->aD,mem_of_getElem?->aT,range->dz,replicate->aw,size_toArray->fg,take_of_length_le->cO
open List.cons renaming inj->bK
open Nat renaming add_mul->bv,add_zero->cN,le_refl->ak,le_succ->bg,lt_succ_self->aS,min_le_right->fL,mul_le_mul_right->aF,succ_mul->cM,succ_pos->b_,zero_add->bD,zero_le->dK,zero_mul->gq
open Option renaming bind_eq_some_iff->bE,map_eq_some_iff->aG,map_none->eg,map_some->bh
open Option.some renaming inj->aa,injEq->bH
open Prod.mk renaming inj->ad
namespace Go.Ev
section
variable{P:Program}{S K:Nat->Prop}{w0 w:World}{Kn:Nat->Prop}{φ:Nat->eG}{H:bl}{e:gy}{ρ:Operand->Value}{o:Oper}{call:Call}
 {nxt n':Nat} {v:TV} {u:dD} {ap:List Nat}
def mr(ag:Bool)(xs:List Value):Value:=if ag then .agg xs.toArray else xs.headD undef
theorem pA:∀(d:Nat)(t:TypeId)(ks:List Kd),ul P d t=some ks->dN P t=some ks.length/\∃ag,dY P t=some ag/\(ag=false->ks.length=1):=by
 intro d t ks h;cases d with
 |zero=>simp[ul]at h
 |succ d=>
  unfold ul at h;split at h
  .rename_i hu;split at h
   .rename_i hs;obtain rfl:=aa h;exact⟨hs,false,by simp[dY,hu],fun _=>rfl⟩
   .simp at h
  .rename_i hu;split at h
   .rename_i hs;obtain rfl:=aa h;exact⟨hs,false,by simp[dY,hu],fun _=>rfl⟩
   .simp at h
  .rename_i hu;split at h
   .rename_i hs;obtain rfl:=aa h;exact⟨hs,false,by simp[dY,hu],fun _=>rfl⟩
   .simp at h
  .rename_i n el hu;split at h
   .split at h
    .rename_i ks1 _ hs;obtain rfl:=aa h;refine⟨?_,true,by simp[dY,hu],fun h=>by simp at h⟩;rw[hs.2];simp[List.length_flatten]
    .simp at h
   .simp at h
  .rename_i fs hu;split at h
   .split at h
    .rename_i hs;obtain rfl:=aa h;exact⟨hs.2,true,by simp[dY,hu],fun h=>by simp at h⟩
    .simp at h
   .simp at h
  .simp at h
theorem Bg{t:TypeId}{n:Nat}(h:dN P t=some n):P.cellsOf t=n:=by simp only[dN]at h;simp[Program.cellsOf,h]
theorem If{t:TypeId}{n:Nat}(h:dN P t=some n):∃i,P.info? t=some i:=by simp only[dN,aG]at h;obtain⟨i,hi,_⟩:=h;exact⟨i,hi⟩
theorem lf{t:TypeId}{n:Nat}{ag:Bool}(hn:dN P t=some n)(ha:dY P t=some ag)(h1:ag=false->n=1){xs:List Value}{off:Nat}(hfit:off+n<=xs.length)(w:World):
  (part t xs.toArray off).run P w=.ok (mr ag ((xs.drop off).take n)) w:=by
 cases ag with
 |true=>simp only[part,Sem.run_bind,oP ha,Result.andThen_ok,if_true,eK hn,Sem.run_pure,mr];congr 2;apply Array.ext';simp[List.extract_eq_take_drop]
 |false=>
  obtain rfl:=h1 rfl;have hlt:off<xs.length:=by omega
  have e1:(xs.drop off).take 1=[xs[off]]:=by rw[List.drop_eq_getElem_cons hlt];rfl
  simp only[part,Sem.run_bind,oP ha,Result.andThen_ok,aM,if_false,mr,e1,bt];have:xs.toArray[off]?=some xs[off]:=by simp[hlt]
  rw[this];rfl
theorem iB:∀{ks:List Kd}{xs ys:List Value}{b:Bool},eu ks xs ys=some b->xs.length=ks.length/\ys.length=ks.length:=by
 intro ks;induction ks with
 |nil=>intro xs ys b h;cases xs<;>cases ys<;>simp_all[eu]
 |cons k ks ih=>
  intro xs ys b h;cases xs with
  |nil=>simp[eu]at h
  |cons x xs=>
   cases ys with
   |nil=>simp[eu]at h
   |cons y ys=>
    simp only[eu]at h;split at h
    .rename_i a c ha hc;obtain⟨h1,h2⟩:=ih hc;exact⟨by simp[h1],by simp[h2]⟩
    .simp at h
theorem za:∀{ks ls:List Kd}{xs ys:List Value}{b:Bool},eu (ks++ls) xs ys=some b->
  ∃b1 b2,eu ks (xs.take ks.length) (ys.take ks.length)=some b1/\eu ls (xs.drop ks.length) (ys.drop ks.length)=some b2/\b=(b1&&b2):=by
 intro ks;induction ks with
 |nil=>intro ls xs ys b h;exact⟨true,b,by simp[eu],by simpa using h,by simp⟩
 |cons k ks ih=>
  intro ls xs ys b h;cases xs with
  |nil=>simp[eu]at h
  |cons x xs=>
   cases ys with
   |nil=>simp[eu]at h
   |cons y ys=>
    simp only[List.cons_append,eu]at h;split at h
    .rename_i a c ha hc;obtain rfl:=aa h;obtain⟨b1,b2,h1,h2,rfl⟩:=ih hc;exact⟨a&&b1,b2,by simp[eu,ha,h1],by simpa using h2,by rw[Bool.and_assoc]⟩
    .simp at h
theorem Gx{a b:ByteArray}(h:(a==b)=true):a=b:=by
 obtain⟨x⟩:=a;obtain⟨y⟩:=b;have e:x=y:=by simpa using(show(x==y)=true from h)
 rw[e]
theorem KC{k:Kd}{x y:Value}(h:xo k x y=some true):x=y:=by
 unfold xo at h;split at h
 .split at h
  .rename_i hk;obtain⟨rfl,rfl⟩:=hk;obtain rfl:_=_:=by simpa using h
   rfl
  .simp at h
 .obtain rfl:_=_:=by simpa using h
  rfl
 .have:=Gx (aa h);rw[this]
 .simp at h
theorem Ir:∀{ks:List Kd}{xs ys:List Value},eu ks xs ys=some true->xs=ys:=by
 intro ks;induction ks with
 |nil=>intro xs ys h;cases xs<;>cases ys<;>simp_all[eu]
 |cons k ks ih=>
  intro xs ys h;cases xs with
  |nil=>simp[eu]at h
  |cons x xs=>
   cases ys with
   |nil=>simp[eu]at h
   |cons y ys=>
    simp only[eu]at h;split at h
    .rename_i a c ha hc;have h2:=aa h;rw[ae]at h2;obtain⟨rfl,rfl⟩:=h2;rw[KC ha,ih hc]
    .simp at h
def Lf(P:Program)(D:Nat)(t:TypeId)(ks:List Kd)(ag:Bool):Prop:=∀(xs ys:List Value)(b:Bool)(w:World),eu ks xs ys=some b->(Op.equalIn D t (mr ag xs) (mr ag ys)).run P w=.ok b w
theorem up{D d:Nat}(w:World)(ih:∀(t:TypeId)(ks:List Kd),ul P d t=some ks->∀ag,dY P t=some ag->Lf P D t ks ag)(xs ys:List Value):
  ∀(fs:List Field)(off:Nat)(ks:List Kd)(b:Bool),Jx P (ul P d) fs off=some ks->off<=xs.length->off<=ys.length->eu ks (xs.drop off) (ys.drop off)=some b->(Op.eqFields D xs.toArray ys.toArray fs).run P w=.ok b w:=by
 intro fs;induction fs with
 |nil=>
  intro off ks b h _ _ he;obtain rfl:[]=ks:=by simpa[Jx]using h
  obtain⟨h1,h2⟩:=iB he;rw[bc.1 h1,bc.1 h2]at he;obtain rfl:true=b:=by simpa[eu]using he
  simp[Op.eqFields]
 |cons f fs ihf=>
  intro off ks b h o1 o2 he;simp only[Jx]at h;split at h
  .rename_i hc;obtain⟨hoff,hname⟩:=hc;split at h
   .rename_i k1 hk1;split at h
    .rename_i hsz;split at h
     .rename_i l hl;obtain rfl:=aa h;obtain⟨_,ag,hag,hone⟩:=pA d f.type k1 hk1;obtain⟨l1,l2⟩:=iB he;rw[bR,aZ]at l1 l2;obtain⟨b1,b2,h1,h2,rfl⟩:=za he;have hfit1:f.offset+k1.length<=xs.length:=by omega
      have hfit2:f.offset+k1.length<=ys.length:=by omega
      have p1:=lf (w:=w) hsz hag hone hfit1;have p2:=lf (w:=w) hsz hag hone hfit2;rw[hoff]at p1 p2;have p3:=ih f.type k1 hk1 ag hag _ _ b1 w h1;rw[cj]at h2;have p4:=ihf (off+k1.length) l b2 hl (by omega) (by omega) (by simpa[cj,Nat.add_comm]using h2);simp only[Op.eqFields,hname,ne_eq,not_false_eq_true,if_true,Sem.run_bind,hoff,p1,p2,p3,Result.andThen_ok];cases b1
      .simp
      .simpa using p4
     .simp at h
    .simp at h
   .simp at h
  .simp at h
theorem v8{D:Nat}{t:TypeId}{ks:List Kd}{ag:Bool}(w:World)(hn:dN P t=some ks.length)(ha:dY P t=some ag)(h1:ag=false->ks.length=1)(ih:Lf P D t ks ag)(xs ys:List Value):
  ∀(n i:Nat)(b:Bool),i*ks.length<=xs.length->i*ks.length<=ys.length->eu (aw n ks).flatten (xs.drop (i*ks.length)) (ys.drop (i*ks.length))=some b->
   (Op.eqItems D t ks.length xs.toArray ys.toArray (List.range' i n)).run P w=.ok b w:=by
 intro n;induction n with
 |zero=>
  intro i b _ _ he;obtain⟨h1,h2⟩:=iB he;rw[bc.1 h1,bc.1 h2]at he;obtain rfl:true=b:=by simpa[eu]using he
  simp[Op.eqItems]
 |succ n ihn=>
  intro i b o1 o2 he;rw[List.replicate_succ,List.flatten_cons]at he;obtain⟨l1,l2⟩:=iB he;rw[bR,aZ]at l1 l2;obtain⟨b1,b2,q1,q2,rfl⟩:=za he;have e1:(i+1)*ks.length=i*ks.length+ks.length:=cM ..;have p1:=lf (w:=w) hn ha h1 (xs:=xs) (off:=i*ks.length) (by omega);have p2:=lf (w:=w) hn ha h1 (xs:=ys) (off:=i*ks.length) (by omega);have p3:=ih _ _ b1 w q1;rw[cj,cj,<-e1]at q2;have p4:=ihn (i+1) b2 (by omega) (by omega) q2;rw[List.range'_succ];simp only[Op.eqItems,Sem.run_bind,p1,p2,p3,Result.andThen_ok];cases b1
  .simp
  .simpa using p4
theorem BL(k:Nat):∀(d:Nat)(t:TypeId)(ks:List Kd),ul P d t=some ks->∀ag,dY P t=some ag->Lf P (d+k) t ks ag:=by
 intro d;induction d with
 |zero=>intro t ks h;simp[ul]at h
 |succ d ih=>
  intro t ks h ag hag xs ys b w he;rw[show d+1+k=(d+k)+1 by omega]
  have one:∀{q:Kd},P.underlying t≠none->ks=[q]->ag=false->∃x y,xs=[x]/\ys=[y]/\xo q x y=some b:=by
   rintro q _ rfl _;obtain⟨l1,l2⟩:=iB he;obtain⟨x,rfl⟩:=eD.1 l1;obtain⟨y,rfl⟩:=eD.1 l2;refine⟨x,y,rfl,rfl,?_⟩;simp only[eu]at he;split at he
   .rename_i a c ha hc;obtain rfl:=aa hc;rw[ha];simpa using he
   .simp at he
  unfold ul at h;split at h
  .rename_i hu;have hg:ag=false:=by simpa[dY,hu]using hag.symm
   split at h
   .obtain ⟨x,y,rfl,rfl,hk⟩:=one (q:=.b) (by simp[hu]) (aa h).symm hg;subst hg;simp only[mr,aM,if_false,bt];unfold xo at hk;split at hk<;>first|(simp_all;done)|skip
    obtain rfl:=aa hk;exact run_equalIn_bool w _ _ _ _ hu
   .simp at h
  .rename_i q0 hu;have hg:ag=false:=by simpa[dY,hu]using hag.symm
   split at h
   .obtain ⟨x,y,rfl,rfl,hk⟩:=one (q:=.i q0) (by simp[hu]) (aa h).symm hg;subst hg;simp only[mr,aM,if_false,bt];unfold xo at hk;split at hk<;>first|(simp_all;done)|skip
    split at hk
    .rename_i hkk;obtain⟨rfl,rfl⟩:=hkk;obtain rfl:=aa hk;exact run_equalIn_int w _ _ _ _ _ _ hu
    .simp at hk
   .simp at h
  .rename_i hu;have hg:ag=false:=by simpa[dY,hu]using hag.symm
   split at h
   .obtain ⟨x,y,rfl,rfl,hk⟩:=one (q:=.s) (by simp[hu]) (aa h).symm hg;subst hg;simp only[mr,aM,if_false,bt];unfold xo at hk;split at hk<;>first|(simp_all;done)|skip
    obtain rfl:=aa hk;rw[beq_toListBytes];exact run_equalIn_string w _ _ _ _ hu
   .simp at h
  .rename_i n el hu;have hg:ag=true:=by simpa[dY,hu]using hag.symm
   subst hg;split at h
   .split at h
    .rename_i k1 hk1 hs;obtain rfl:=aa h;obtain⟨_,ag1,hag1,hone⟩:=pA d el k1 hk1;obtain⟨i,hi⟩:=If hs.1;simp only[mr,if_true];rw[run_equalIn_array w _ _ _ hu hi,Bg hs.1,List.range_eq_range'];exact v8 w hs.1 hag1 hone (ih el k1 hk1 ag1 hag1) xs ys n 0 b (by simp) (by simp) (by simpa using he)
    .simp at h
   .simp at h
  .rename_i fs hu;have hg:ag=true:=by simpa[dY,hu]using hag.symm
   subst hg;split at h
   .split at h
    .rename_i k1 hk1 hs;obtain rfl:=aa h;simp only[mr,if_true];have hf:P.fieldsOf t=fs:=by simp[Program.fieldsOf,hu]
     rw[run_equalIn_struct w _ _ _ _ (by rw[hf];exact hu) hs.1,hf];exact up w (fun t ks h ag hag=>ih t ks h ag hag) xs ys fs.toList 0 _ b hk1 (dK _) (dK _) (by simpa using he)
    .simp at h
   .simp at h
  .simp at h
def IX(P:Program)(em:Bool)(D:Nat)(t:TypeId)(n:Nat)(ag:Bool):Prop:=∀(xs:List Value)(w:World),xs.length=n->(Instr.checkKey em D t (mr ag xs)).run P w=.ok () w
theorem ke(em:Bool)(k:Nat):∀(d:Nat)(t:TypeId)(ks:List Kd),ul P d t=some ks->∀ag,dY P t=some ag->IX P em (d+k) t ks.length ag:=by
 intro d;induction d with
 |zero=>intro t ks h;simp[ul]at h
 |succ d ih=>
  intro t ks h ag hag xs w hl;rw[show d+1+k=(d+k)+1 by omega];unfold ul at h;rw[Instr.checkKey];split at h
  .rename_i hu;simp only[Sem.run_bind,bp hu,Result.andThen_ok];rfl
  .rename_i q0 hu;simp only[Sem.run_bind,bp hu,Result.andThen_ok];rfl
  .rename_i hu;simp only[Sem.run_bind,bp hu,Result.andThen_ok];rfl
  .rename_i n el hu;have hg:ag=true:=by simpa[dY,hu]using hag.symm
   subst hg;split at h
   .split at h
    .rename_i k1 hk1 hs;obtain rfl:=aa h;obtain⟨_,ag1,hag1,hone⟩:=pA d el k1 hk1;have hl2:xs.length=n*k1.length:=by rw[hl];simp[List.length_flatten]
     simp only[mr,if_true,Sem.run_bind,bp hu,Result.andThen_ok];simp only[Std.Legacy.Range.forIn_eq_forIn_range',Std.Legacy.Range.size,Nat.sub_zero,Nat.add_one_sub_one,Nat.div_one]
     have each:∀i∈List.range' 0 n,i*k1.length+k1.length<=xs.length:=fun i hi=>by
      have hi':i<n:=by simpa using hi
      rw[hl2,<-cM];exact aF _ hi'
     generalize List.range' 0 n=is at each;induction is with|nil=>simp|cons j is ihj=>have p1:=lf (w:=w) hs.1 hag1 hone (xs:=xs) (off:=j*k1.length) (each j (by simp));have p2:=ih el k1 hk1 ag1 hag1 ((xs.drop (j*k1.length)).take k1.length) w (by rw[dp,bR];have:=each j (by simp);omega);simp only[List.forIn_cons,Sem.run_bind,eK hs.1,Result.andThen_ok,p1,p2,Sem.run_pure];exact ihj (fun y hy=>each y (by simp[hy]))
    .simp at h
   .simp at h
  .rename_i fs hu;have hg:ag=true:=by simpa[dY,hu]using hag.symm
   subst hg;split at h
   .split at h
    .rename_i k1 hk1 hs;obtain rfl:=aa h;simp only[mr,if_true,Sem.run_bind,bp hu,Result.andThen_ok];rw[<-Array.forIn_toList]
     have main:∀(L:List Field)(off:Nat)(l:List Kd),Jx P (ul P d) L off=some l->off+l.length=xs.length->
       (forIn L PUnit.unit (fun f r=>if f.name≠ "_" then do Instr.checkKey em (d+k) f.type (<-part f.type xs.toArray f.offset);pure (ForInStep.yield PUnit.unit)else pure (ForInStep.yield PUnit.unit)):Sem PUnit).run P w=.ok PUnit.unit w:=by
      intro L;induction L with
      |nil=>intro off l _ _;simp
      |cons f L ihL=>
       intro off l h ho;simp only[Jx]at h;split at h
       .rename_i hc;obtain⟨hoff,hname⟩:=hc;split at h
        .rename_i k1 hk1;split at h
         .rename_i hsz;split at h
          .rename_i l1 hl1;obtain rfl:=aa h;rw[aZ]at ho;obtain⟨_,ag1,hag1,hone⟩:=pA d f.type k1 hk1;have p1:=lf (w:=w) hsz hag1 hone (xs:=xs) (off:=f.offset) (by omega);have p2:=ih f.type k1 hk1 ag1 hag1 ((xs.drop f.offset).take k1.length) w (by rw[dp,bR];omega);simp only[List.forIn_cons,Sem.run_bind,hname,ne_eq,not_false_eq_true,if_true,Result.andThen_ok,p1,p2,Sem.run_pure];exact ihL (off+k1.length) l1 hl1 (by omega)
          .simp at h
         .simp at h
        .simp at h
       .simp at h
     rw[main fs.toList 0 _ hk1 (by omega)];rfl
    .simp at h
   .simp at h
  .simp at h
theorem oR:∀{cs:List C}{l:List Value},iR cs=some l->cs=dk l:=by
 intro cs;induction cs with
 |nil=>
  intro l h;obtain rfl:[]=l:=by simpa[iR]using h
  rfl
 |cons c cs ih=>
  intro l h;unfold iR at h;split at h
  .simp_all
  .rename_i v0 r0 he;obtain⟨rfl,rfl⟩:=bK he;split at h
   .rename_i l1 hl;obtain rfl:=aa h;rw[ih hl];rfl
   .simp at h
  .simp at h
theorem AQ:∀{ks:List Kd}{l:List Value},r_ ks l=true->∀x∈l,yT x=false
 |[],[],_,x,hx=>by cases hx
 |[],_::_,h,_,_=>by cases h
 |_::_,[],h,_,_=>by cases h
 |k::ks,y::l,h,x,hx=>by
  rw[r_,ae]at h;rcases aD.1 hx with rfl|hx
  .cases k<;>cases x<;>first|rfl|exact absurd h.1 (by simp[Du])
  .exact AQ h.2 x hx
theorem wL:∀{ks:List Kd}{l m:List Value}{b:Bool},eu ks l m=some b->(∀x∈l,yT x=false)/\∀x∈m,yT x=false
 |[],[],[],_,_=>⟨fun _ hx=>(by cases hx),fun _ hx=>(by cases hx)⟩
 |[],[],_::_,_,h=>by cases h
 |[],_::_,_,_,h=>by cases h
 |_::_,[],_,_,h=>by cases h
 |_::_,_::_,[],_,h=>by cases h
 |k::ks,y::l,z::m,b,h=>by
  rw[eu]at h;split at h
  .rename_i b1 b2 h1 h2;have ih:=wL h2;refine⟨fun x hx=>?_,fun x hx=>?_⟩
   .rcases aD.1 hx with rfl|hx
    .cases k<;>cases x<;>first|rfl|exact absurd h1 (by simp[xo])
    .exact ih.1 x hx
   .rcases aD.1 hx with rfl|hx
    .cases k<;>cases x<;>first|rfl|(cases y<;>exact absurd h1 (by simp[xo]))
    .exact ih.2 x hx
  .cases h
theorem tt{l:List Value}{aH:Array Value}(hnf:∀x∈l,yT x=false)(hlen:(dk l).length=aH.size)(h:∀(i:Nat)(x:C),(dk l)[i]?=some x->RC S w Kn φ x (aH.getD i undef)):
  aH=l.toArray/\∀x∈l,ck x=true:=by
 have key:∀(i:Nat)(x:Value),l[i]?=some x->aH.getD i undef=x/\ck x=true:=by
  intro i x hi;have:=h i (.d (.lit x)) (by simp[dk,hi]);cases this with
  |d hd=>generalize hv:aH.getD i undef=v0 at hd;cases hd with|lit hp=>exact⟨rfl,hp⟩|nan=>exact absurd (hnf _ (aT hi)) (by simp[yT])|ex=>exact absurd (hnf _ (aT hi)) (by simp[yT])|jk=>exact absurd (hnf _ (aT hi)) (by simp[yT])
 constructor
 .apply Array.ext
  .simpa [dk]using hlen.symm
  .intro i h1 h2;have h3:i<l.length:=by simpa using h2
   have:=(key i l[i] (by simp[h3])).1;simp only[Array.getD,h1,dite_true]at this;simpa using this
 .intro x hx;obtain⟨i,hi,rfl⟩:=fx hx;exact(key i _ (by simp[hi])).2
theorem mD{cs:List C}{ks:List Kd}{key:List Value}(h:(match iR cs with|some l=>if r_ ks l=true then some l else none|none=>none)=some key):iR cs=some key/\r_ ks key=true:=by
 split at h
 .rename_i l hl;split at h
  .rename_i hk;obtain rfl:=aa h;exact⟨hl,hk⟩
  .simp at h
 .simp at h
theorem jB{ka:Bool}{ks:List Kd}{k:TV}{key:List Value}{val:Value}(h:jC ka ks k=some key)(hr:dO S w Kn φ k val):val=mr ka key/\key.length=ks.length/\xj ka key val:=by
 cases k with
 |agg cs=>
  simp only[jC]at h;split at h
  .rename_i hc;obtain⟨rfl,hcl⟩:=hc;obtain rfl:=oR (mD h).1;cases hr with|agg hlen hr=>obtain⟨rfl,hp⟩:=tt (AQ (mD h).2) hlen hr;exact⟨by simp[mr],by simpa[dk]using hcl,hp,by simp⟩
  .simp at h
 |c x=>
  simp only[jC]at h;split at h
  .rename_i hc;obtain⟨rfl,hcl⟩:=hc;have hko:=(mD h).2;have:=oR (mD h).1;cases key with
   |nil=>simp[dk]at this
   |cons y r=>
    cases r with
    |nil=>
     obtain rfl:x=.d (.lit y):=by simpa[dk]using this
     obtain⟨rfl,hp⟩:=hr.lit (AQ hko y (.head _));exact⟨by simp[mr],by simp[hcl],by simpa using hp,by simp⟩
    |cons z r=>simp[dk]at this
  .simp at h
 |eU xs=>simp[jC]at h
theorem xj.mr{ka:Bool}{k:List Value}{v:Value}(h:xj ka k v):v=Ev.mr ka k:=by obtain⟨_,h⟩:=h;cases ka with|true=>simpa[Ev.mr]using h|false=>simp only[aM,if_false]at h;rw[h];simp[Ev.mr]
def kO(S:Nat->Prop)(w:World)(ka va:Bool)(es:List mS)(ms:List MapEntry):Prop:=es.length=ms.length/\∀(i:Nat)(e:mS)(m:MapEntry),es[i]?=some e->ms[i]?=some m->xj ka e.1 m.key/\ny S w va e.2.1 m.val/\m.born=e.2.2
theorem kO.tail{ka va:Bool}{e:mS}{es:List mS}{m:MapEntry}{ms:List MapEntry}(h:kO S w ka va (e::es) (m::ms)):kO S w ka va es ms:=⟨by simpa using h.1,fun i e m hi hm=>h.2 (i+1) e m (by simpa using hi) (by simpa using hm)⟩
theorem Ae{t:TypeId}{ks:List Kd}{ka va:Bool}{key:List Value}(hk:ul P 8 t=some ks)(hag:dY P t=some ka):∀(es:List mS)(ms:List MapEntry)(i:Nat)(r:Option Nat),
  kO S w ka va es ms->jb ks key es i=some r->
   (Instr.findAsking t (mr ka key) ms i).run P w=.ok (r.map fun j=>(j,(ms.getD (j-i) default).val)) w/\
   (ka=false->∀d,P.underlying t=some d->Instr.findNow d (mr ka key) ms i=some (r.map fun j=>(j,(ms.getD (j-i) default).val)))/\
   ∀j,r=some j->i<=j/\j-i<ms.length/\key=(es.getD (j-i) default).1:=by
 intro es;induction es with
 |nil=>
  intro ms i r hE h;obtain rfl:none=r:=by simpa[jb]using h
  obtain rfl:ms=[]:=bc.1 hE.1.symm;exact⟨by simp[Instr.findAsking],fun _ _ _=>rfl,fun j hj=>by simp at hj⟩
 |cons e es ih=>
  intro ms i r hE h;cases ms with
  |nil=>exact absurd hE.1 (by simp)
  |cons m ms=>
   obtain⟨h1,_,_⟩:=hE.2 0 e m rfl rfl;have hmk:=h1.mr;simp only[jb]at h;have heq:∀b,eu ks key e.1=some b->(Op.equal t (mr ka key) m.key).run P w=.ok b w:=fun b hb=>by rw[hmk,mJ];exact BL 9992 8 t ks hk ka hag key e.1 b w hb
   have hnow:∀b,eu ks key e.1=some b->ka=false->∀d,P.underlying t=some d->Instr.sameNow d (mr ka key) m.key=some b:=by
    intro b hb hka d hd;rw[hmk];subst hka;obtain⟨_,ag,hag',hone⟩:=pA 8 t ks hk;obtain rfl:false=ag:=aa (hag.symm.trans hag');obtain⟨l1,l2⟩:=iB hb;obtain⟨q,rfl⟩:=eD.1 (hone rfl);obtain⟨x,rfl⟩:=eD.1 l1;obtain⟨y,hy⟩:=eD.1 l2;rw[hy]at hb|-
    have hb':xo q x y=some b:=by
     simp only[eu]at hb;split at hb
     .rename_i a c ha hc;obtain rfl:=aa hc;rw[ha];simpa using hb
     .simp at hb
    simp only[mr,aM,if_false,bt];unfold ul at hk;rw[hd]at hk;unfold xo at hb';simp only[dY,hd,bh,bH]at hag;cases d<;>simp at hk hag
    all_goals
     obtain⟨_,hq⟩:=hk;subst hq;split at hb'<;>simp_all[Instr.sameNow]
   split at h
   .rename_i hb;obtain rfl:=aa h;refine⟨by simp[Instr.findAsking,heq true hb],fun hka d hd=>by simp[Instr.findNow,hnow true hb hka d hd],fun j hj=>?_⟩;obtain rfl:i=j:=aa hj;exact⟨ak _,by simp,by simpa using Ir hb⟩
   .rename_i hb;obtain⟨a1,a2,a3⟩:=ih ms (i+1) r hE.tail h
    have hsh:(r.map fun j=>(j,(ms.getD (j-(i+1)) default).val))=r.map fun j=>(j,((m::ms).getD (j-i) default).val):=by
     cases r with
     |none=>rfl
     |some j=>
      have:=(a3 j rfl).1;have e1:j-i=(j-(i+1))+1:=by omega
      simp only[bh,e1,List.getD_cons_succ]
    refine⟨?_,fun hka d hd=>?_,fun j hj=>?_⟩
    .simp only[Instr.findAsking,Sem.run_bind,heq false hb,Result.andThen_ok,aM,if_false];rw[a1,hsh]
    .simp only[Instr.findNow,hnow false hb hka d hd];rw[a2 hka d hd,hsh]
    .obtain ⟨b1,b2,b3⟩:=a3 j hj;have e1:j-i=(j-(i+1))+1:=by omega
     exact⟨by omega,by rw[e1];simp;omega,by rw[b3,e1];simp⟩
   .simp at h
theorem iG{t:TypeId}{ks:List Kd}{ka va:Bool}{key:List Value}(hk:ul P 8 t=some ks)(hag:dY P t=some ka){es:List mS}{ms:List MapEntry}{r:Option Nat}
  (hE:kO S w ka va es ms) (h:jb ks key es 0=some r):
  (Instr.findKey t (mr ka key) ms).run P w=.ok (r.map fun j=>(j,(ms.getD j default).val)) w/\∀j,r=some j->j<ms.length/\key=(es.getD j default).1:=by
 obtain⟨h1,h2,h3⟩:=Ae hk hag es ms 0 r hE h;refine⟨?_,fun j hj=>let⟨_,a,b⟩:=h3 j hj;⟨by simpa using a,by simpa using b⟩⟩;cases ka with
 |true=>
  rw[run_findKey_eq]
  .simpa using h1
  .simp only[dY,aG]at hag;obtain⟨d,hd,hd2⟩:=hag;rw[hd];cases d<;>simp_all
 |false=>simp only[dY,aG]at hag;obtain⟨d,hd,_⟩:=hag;have:=h2 rfl d hd;simp only[Nat.sub_zero]at this;simp[Instr.findKey,bp hd,this]
theorem ko{va:Bool}{ds:List D}{tv:TV}{v:Value}(h:lk va ds=some tv)(hr:ny S w va ds v):dO S w Kn φ tv v:=by
 unfold lk at h;unfold ny at hr;cases va with
 |true=>simp only[if_true]at h hr;obtain rfl:=aa h;obtain⟨aH,rfl,h1,h2⟩:=hr;refine .agg (by simpa using h1) fun i x hi=>?_;rw[aB]at hi;obtain⟨d,hd,rfl⟩:=aG.1 hi;exact .d (h2 i d hd)
 |false=>
  simp only[aM,if_false]at h hr;obtain⟨x,rfl,h1⟩:=hr;obtain rfl:TV.c (.d x)=tv:=by simpa using h
  exact .c (.d h1)
theorem qE{t:TypeId}{z:List Value}{va:Bool}{tv:TV}(hz:gr P t=some z)(ha:zL P t=some va)(h:lk va (cn z)=some tv)(w:World):
  ∃v,(zeroValue t).run P w=.ok v w/\ny S w va (cn z) v:=by
 simp only[gr]at hz;split at hz
 .rename_i v hv;split at hz
  .rename_i hp;obtain rfl:=aa hz;obtain⟨i,hi,hz⟩:=bE.1 hv;refine⟨v,by simp[zeroValue,typeInfo,hi,hz],?_⟩;have hpl:∀x∈v.cells.toList,ck x=true:=fun x hx=>aQ.1 hp x hx;simp only[zL,hv,bh,bH]at ha;cases v with
   |agg aH=>
    obtain rfl:true=va:=by simpa using ha
    refine⟨aH,rfl,by simp[cn,Value.cells],fun i x hi=>?_⟩;simp only[cn,aB,Value.cells]at hi;obtain⟨y,hy,rfl⟩:=aG.1 hi;have hlt:i<aH.size:=by simpa using(ah.1 hy).1
    have e:aH.getD i undef=y:=by rw[aU]at hy;simp[hy]
    rw[e];exact .lit (hpl y (aT hy))
   |_=>
    obtain rfl:false=va:=by simpa using ha
    exact⟨_,rfl,.lit (hpl _ (by simp[Value.cells]))⟩
  .simp at hz
 .simp at hz
theorem yq{t ty:TypeId}{op:BinOp}{x y:Operand}{ks:List Kd}(ho:o.op=.binOp op t x y ty)(hop:op=.eql\/op=.neq)(hk:ul P 8 t=some ks)(hag:dY P t=some true)
  (hg:P.eqGuardType P.depth t=false) (hI:Inv S K w0 Kn φ (au H) w) {tx ty':Option TV} (hx:∀y,tx=some y->dO S w Kn φ y (ρ x)) (hy:∀z,ty'=some z->dO S w Kn φ z (ρ y))
  (h:bN call (.tP (op==.neq) ks) [tx,ty'] H nxt=some (v,u,ap,n')):ct P o ρ S K w0 w Kn φ (au H) nxt n' v u:=by
 match tx,ty',h,hx,hy with
 |some (.agg xs),some (.agg ys),h,hx,hy=>
  change (match iR xs,iR ys with
   |some xs,some ys=>(match eu ks xs ys with|some b=>some (lv (.bool (if(op==BinOp.neq)then !b else b)),([]:dD),([]:List Nat),nxt)|none=>none)
   |_,_=>none)=_ at h
  split at h
  .rename_i xs1 ys1 e1 e2;split at h
   .rename_i b hb;obtain⟨rfl,rfl,rfl,rfl⟩:lv (.bool (if(op==BinOp.neq)then !b else b))=v/\[]=u/\[]=ap/\nxt=n':=by simpa using h
    obtain rfl:=oR e1;obtain rfl:=oR e2;have h1:=hx _ rfl;have h2:=hy _ rfl;generalize hv1:ρ x=v1 at h1;generalize hv2:ρ y=v2 at h2;cases h1 with
    |agg l1 h1=>cases h2 with|agg l2 h2=>obtain⟨rfl,_⟩:=tt (wL hb).1 l1 h1;obtain⟨rfl,_⟩:=tt (wL hb).2 l2 h2;refine ct.pure hI ?_ (.mh rfl);have he:=BL (P:=P) 9992 8 t ks hk true hag xs1 ys1 b w hb;have hc:=mZ (P:=P) (w:=w) hop (t:=t) (x:=.agg xs1.toArray) (y:=.agg ys1.toArray) (b:=b) x y rfl rfl (run_eqGuard_agg w op t x y _ _ hg) (by rw[mJ];simpa[mr]using he);simp only[execOp,ho,Sem.run_bind,hv1,hv2];rw[Sem.run_bind]at hc;rw[hc];rfl
   .simp at h
  .simp at h
theorem hO.set{n:Nat}{tv:TV}{val:Value}{hf:Nat->Option Ob}{u:dD}{w':World}(hs:eM S w S w')(hI:Inv S K w0 Kn φ (a_ u hf) w')(h:dO S w' Kn φ tv val):hO S K w0 w Kn φ hf n n tv u val w':=⟨ak _,S,φ,hs,lT _ _,h.kn fun _ hi=>.inl hi,hI.kn fun _ hi=>.inl hi⟩
theorem kO.mono{S':Nat->Prop}{w':World}(hs:eM S w S' w'){ka va:Bool}{es:List mS}{ms:List MapEntry}(h:kO S w ka va es ms):kO S' w' ka va es ms:=⟨h.1,fun i e m hi hm=>let⟨a,b,c⟩:=h.2 i e m hi hm;⟨a,b.mono hs,c⟩⟩
theorem RO.Gd{l:eG}{ka va:Bool}{es:List mS}{bA:Nat}(h:RO S K w Kn φ l (.map ka va es bA)):∃ms:Array MapEntry,w.heap[l.bU]?=some (.map ms bA)/\kO S w ka va es ms.toList:=by cases h with|map hS hK ho hlen hr=>exact⟨_,ho,by simpa using hlen,fun i e m hi hm=>hr i e m hi (by simpa using hm)⟩
theorem Inv.pG{hf:Nat->Option Ob}(hI:Inv S K w0 Kn φ hf w){id:Nat}{ka va:Bool}{es es':List mS}{bA clock':Nat}{ms ms':Array MapEntry}(ho:hf id=some (.map ka va es bA))
  (hw:w.heap[(φ id).bU]?=some (.map ms bA)) (hE:kO S w ka va es' ms'.toList):
  eM S w S {w with heap:=w.heap.setIfInBounds (φ id).bU (.map ms' clock')}/\
  Inv S K w0 Kn φ (a_ [(id,some (.map ka va es' clock'))] hf) {w with heap:=w.heap.setIfInBounds (φ id).bU (.map ms' clock')}:=by
 have hlt:(φ id).bU<w.heap.size:=(aP.1 hw).1;have hself:({w with heap:=w.heap.setIfInBounds (φ id).bU (.map ms' clock')}:World).heap[(φ id).bU]?=some (.map ms' clock'):=by simp[hlt]
 have hoth:∀b,b≠(φ id).bU->({w with heap:=w.heap.setIfInBounds (φ id).bU (.map ms' clock')}:World).heap[b]?=w.heap[b]?:=fun b hb=>by simp[Ne.symm hb]
 obtain⟨_,h0⟩:=hI.fC _ _ ho;refine hI.set ho rfl hoth (by simp) (fun a=>?_) (fun aH hown=>?_) ⟨rfl,rfl,rfl,ak _⟩ fun hs=>?_
 .unfold World.frozen?;by_cases e:a.block=(φ id).bU
  .rw [e,hself,hw]
  .rw [hoth _ e]
 .obtain ⟨t,ht⟩:=hown;rw[hw]at ht;simp at ht
 .cases h0 with|map hS hK _ _ _=>exact .map hS hK hself (by simpa using hE.1) fun i e m hi hm=>(hE.mono hs).2 i e m hi (by simpa using hm)
theorem gP{r:Nat}{ms:Array MapEntry}{bA:Nat}(hb:w.heap[r]?=some (.map ms bA)):(getObj r).run P w=.ok (.map ms bA) w:=by simp[getObj,Sem.run,hb]
theorem jp{r:Nat}{ms:Array MapEntry}{bA:Nat}(ob:Obj)(hb:w.heap[r]?=some (.map ms bA)):(setObj r ob).run P w=.ok () {w with heap:=w.heap.setIfInBounds r ob}:=by simp[setObj,Sem.run,hb]
theorem Ax{t:TypeId}{ka va:Bool}(ho:o.op=.makeMap t none)(hI:Inv S K w0 Kn φ (au H) w)(hn0:nxt<n'->¬Kn nxt)
  (h:bN call (.makeMap ka va) [] H nxt=some (v,u,ap,n')):ct P o ρ S K w0 w Kn φ (au H) nxt n' v u:=by
 obtain⟨rfl,rfl,rfl,rfl⟩:TV.c (.om nxt)=v/\[(nxt,some (.map ka va [] 0))]=u/\[]=ap/\nxt+1=n':=by simpa[bN]using h
 have hn:=hn0 (aS _);obtain⟨nS,nK⟩:=wm hI;refine⟨.value (.map (some w.heap.size)),_,{w with heap:=w.heap.push (.map #[] 0)},?_,.inl rfl,?_⟩
 .simp [execOp,ho,Instr.makeMap,newObj,Sem.run]
 have hs:=eM.push (w:=w) hI.pU (.map #[] 0)
 refine⟨bg _,S,_,hs,⟨fun _ h=>.inl h,(fW _ hn).same⟩,.c ?_,(hI.K8 hn (ob:=.map #[] 0) (fun c t r h=>by cases h) ⟨w.heap.size,0,1,0,0⟩ rfl (.map ka va [] 0)
  (.map (ms:= #[]) nS nK (by simp) rfl fun i e m hi=>by simp at hi)).qj fun j=>ky j⟩
 have:=RC.om (S:=S) (w:={w with heap:=w.heap.push (.map #[] 0)}) (Kn:=kF Kn nxt (nxt+1)) (φ:=ext φ nxt ⟨w.heap.size,0,1,0,0⟩) (id:=nxt) (.inr (by omega));simpa[ext]using this
theorem kO.GG{ka va:Bool}{es:List mS}{ms:List MapEntry}(h:kO S w ka va es ms){j:Nat}(hj:j<ms.length):
  ms[j]?=some (ms.getD j default)/\xj ka (es.getD j default).1 (ms.getD j default).key/\ny S w va (es.getD j default).2.1 (ms.getD j default).val/\(ms.getD j default).born=(es.getD j default).2.2:=by
 have hj2:j<es.length:=by rw[h.1];exact hj
 have e1:ms[j]?=some (ms.getD j default):=by simp[hj]
 have e2:es[j]?=some (es.getD j default):=by simp[hj2]
 exact⟨e1,h.2 j _ _ e2 e1⟩
theorem Dc{t kt et:TypeId}{ka va ok:Bool}{ks:List Kd}{z:List Value}{m ix:Operand}(ho:o.op=.lookup t m ix ok)(hu:P.underlying t=some (.map kt et))
  (hm:mB P kt et=some (ka,ks,va,z)) (hI:Inv S K w0 Kn φ (au H) w) {tm tk:Option TV} (hx:∀y,tm=some y->dO S w Kn φ y (ρ m)) (hy:∀y,tk=some y->dO S w Kn φ y (ρ ix))
  (h:bN call (.lookup ka ks va z ok) [tm,tk] H nxt=some (v,u,ap,n')):ct P o ρ S K w0 w Kn φ (au H) nxt n' v u:=by
 match tm,tk,h,hx,hy with
 |some (.c mc),some k,h,hx,hy=>
  change (match fq ka ks va z ok mc k H with|some (v,ap)=>some (v,([]:dD),ap,nxt)|none=>none)=_ at h;split at h
  .rename_i v1 ids1 hl;obtain⟨rfl,rfl,rfl,rfl⟩:v1=v/\[]=u/\ids1=ap/\nxt=n':=by simpa using h
   simp only[mB]at hm;split at hm
   .rename_i ka' ks' va' z' hag hk hae hz;split at hm
    .rename_i hza;obtain⟨rfl,rfl,rfl,rfl⟩:ka'=ka/\ks'=ks/\va'=va/\z'=z:=by simpa using hm
     have hrm:=hx _ rfl;generalize hv1:ρ m=vm at hrm
     have fin:∀(b:Bool)(tv:TV)(val:Value),dO S w Kn φ tv val->dO S w Kn φ (if ok then .eU [tv,lv (.bool b)]else tv) (if ok then .tuple #[val,.bool b]else val):=by
      intro b tv val hr;cases ok with
      |false=>exact hr
      |true=>
       refine .eU rfl fun i x hi=>?_
       match i,hi with
       |0,hi=>obtain rfl:tv=x:=by simpa using hi
              exact hr
       |1,hi=>obtain rfl:lv (.bool b)=x:=by simpa using hi
              exact .mh rfl
     unfold fq at hl;split at hl
     .rename_i key hkey;obtain⟨hkv,hkl,_⟩:=jB hkey (hy _ rfl);split at hl
      .rename_i tv hval;obtain⟨rfl,rfl⟩:=ad (aa hl);obtain⟨rfl,_⟩:=hrm.lit;obtain⟨zv,hzr,hzv⟩:=qE (S:=S) hz hza hval w;have hck:=ke (P:=P) true 9992 8 kt ks' hk ka' hag _ w hkl;refine ct.pure hI ?_ (fin false tv zv (ko hval hzv));have hfk:=iG (P:=P) (S:=S) (w:=w) (va:=va') (key:=key) hk hag (es:=[]) (ms:=[]) (r:=none) ⟨rfl,fun i e m hi=>by simp at hi⟩ rfl;simp only[execOp,ho,Instr.lookup,hv1,Sem.run_bind,bp hu,Result.andThen_ok,hkv,Sem.run_pure];rw[show(#[]:Array MapEntry).isEmpty=true from rfl,show(10000:Nat)=8+9992 from rfl,hck];simp only[Result.andThen_ok,Sem.run_bind,hfk.1,eg,hzr,Sem.run_pure]
      .simp at hl
     .rename_i id key hkey;obtain⟨hkv,hkl,_⟩:=jB hkey (hy _ rfl);split at hl
      .rename_i ka2 va2 es bA hob;split at hl
       .rename_i hkv2;obtain⟨rfl,rfl⟩:=hkv2;cases hrm with
        |c hrm=>
         cases hrm with
         |om hkn=>
          obtain⟨_,h0⟩:=hI.fC _ _ hob;obtain⟨ms,hms,hE⟩:=h0.Gd;have hck:=ke (P:=P) ms.isEmpty 9992 8 kt ks' hk ka2 hag _ w hkl;split at hl
          .rename_i i hfe;obtain⟨f1,f2⟩:=iG (P:=P) hk hag hE hfe;obtain⟨f3,f4⟩:=f2 i rfl;obtain⟨_,_,e3,_⟩:=hE.GG f3;split at hl
           .rename_i tv hval;obtain⟨rfl,rfl⟩:=ad (aa hl);refine ct.pure hI ?_ (fin true tv _ (ko hval e3));simp only[execOp,ho,Instr.lookup,hv1,Sem.run_bind,bp hu,Result.andThen_ok,gP hms,hkv,Sem.run_pure];rw[show(10000:Nat)=8+9992 from rfl,hck];simp only[Result.andThen_ok,Sem.run_bind,f1,bh,Sem.run_pure]
           .simp at hl
          .rename_i hfe;obtain⟨f1,_⟩:=iG (P:=P) hk hag hE hfe;split at hl
           .rename_i tv hval;obtain⟨rfl,rfl⟩:=ad (aa hl);obtain⟨zv,hzr,hzv⟩:=qE (S:=S) hz hza hval w;refine ct.pure hI ?_ (fin false tv zv (ko hval hzv));simp only[execOp,ho,Instr.lookup,hv1,Sem.run_bind,bp hu,Result.andThen_ok,gP hms,hkv,Sem.run_pure];rw[show(10000:Nat)=8+9992 from rfl,hck];simp only[Result.andThen_ok,Sem.run_bind,f1,eg,hzr,Sem.run_pure]
           .simp at hl
          .simp at hl
       .simp at hl
      .simp at hl
     .simp at hl
    .simp at hm
   .simp at hm
  .simp at h
theorem Bl(a:ByteArray):(a==a)=true:=by rw[beq_toListBytes];simp
theorem xL{q:Kd}{x:Value}{b:Bool}{y:Value}(h:xo q x y=some b)(n:Nat):Instr.sameBits n x x=true:=by
 unfold xo at h;split at h<;>first|(simp at h;done)|skip
 all_goals(cases n<;>simp[Instr.sameBits,Bl])
theorem v7{l:List Value}(n:Nat)(h:∀x∈l,∀n,Instr.sameBits n x x=true):Instr.sameBits (n+1) (.agg l.toArray) (.agg l.toArray)=true:=by
 simp only[Instr.sameBits,beq_self_eq_true,Bool.true_and];rw[aQ];rintro⟨x,y⟩ hxy;have hx:x∈l:=by simpa using(List.of_mem_zip hxy).1
 have hyx:x=y:=by obtain⟨i,hi,e⟩:=fx hxy;simp only[List.getElem_zip,Prod.mk.injEq]at e;exact e.1.symm.trans e.2
 subst hyx;exact h x hx n
theorem p7{ks:List Kd}{key k':List Value}{ka:Bool}(hone:ka=false->ks.length=1)(h:eu ks key k'=some true)(n:Nat):Instr.sameBits (n+1) (mr ka key) (mr ka key)=true:=by
 have all:∀(ks:List Kd)(a c:List Value)(b:Bool),eu ks a c=some b->∀x∈a,∀n,Instr.sameBits n x x=true:=by
  intro ks;induction ks with
  |nil=>intro a c b h;cases a<;>cases c<;>simp_all[eu]
  |cons q ks ih=>
   intro a c b h x hx n;cases a with
   |nil=>simp at hx
   |cons y a=>
    cases c with
    |nil=>simp[eu]at h
    |cons z c=>
     simp only[eu]at h;split at h
     .rename_i b1 b2 h1 h2;rcases aD.1 hx with rfl|hx
      .exact xL h1 n
      .exact ih a c b2 h2 x hx n
     .simp at h
 have hall:=all ks key k' true h;cases ka with|true=>exact v7 n hall|false=>obtain⟨l1,_⟩:=iB h;rw[hone rfl]at l1;obtain⟨x,rfl⟩:=eD.1 l1;exact hall x (by simp) (n+1)
theorem y8{ks:List Kd}{key:List Value}:∀{es:List mS}{i j:Nat},jb ks key es i=some (some j)->i<=j/\eu ks key (es.getD (j-i) default).1=some true:=by
 intro es;induction es with
 |nil=>intro i j h;simp[jb]at h
 |cons e es ih=>
  intro i j h;simp only[jb]at h;split at h
  .rename_i hb;obtain rfl:i=j:=by simpa using h
   exact⟨ak _,by simpa using hb⟩
  .obtain ⟨h1,h2⟩:=ih h;have e1:j-i=(j-(i+1))+1:=by omega
   exact⟨by omega,by rw[e1];simpa using h2⟩
  .simp at h
theorem yC{ms:Array MapEntry}{j:Nat}{f:MapEntry->MapEntry}(h:f (ms.toList.getD j default)=ms.toList.getD j default):ms.modify j f=ms:=by
 apply Array.ext
 .simp
 .intro i h1 h2;rw[Array.getElem_modify];split
  .rename_i e;subst e;have:ms.toList.getD j default=ms[j]:=by simp[List.getD_eq_getElem?_getD,h2]
   rw[this]at h;exact h
  .rfl
theorem yP{old new:Value}(h1:old=new)(h2:Instr.sameBits 10000 new new=true):(Instr.keyThatStays old new).run P w=.ok new w:=by subst h1;unfold Instr.keyThatStays;rw[if_pos h2];rfl
theorem yn{t kt et:TypeId}{ka va:Bool}{ks:List Kd}{z:List Value}{m ix:Operand}(ho:o.op=.mapEntry t m ix)(hu:P.underlying t=some (.map kt et))
  (hm:mB P kt et=some (ka,ks,va,z)) (hI:Inv S K w0 Kn φ (au H) w) {tm tk:Option TV} (hx:∀y,tm=some y->dO S w Kn φ y (ρ m)) (hy:∀y,tk=some y->dO S w Kn φ y (ρ ix))
  (h:bN call (.mapEntry ka ks va z) [tm,tk] H nxt=some (v,u,ap,n')):ct P o ρ S K w0 w Kn φ (au H) nxt n' v u:=by
 match tm,tk,h,hx,hy with
 |some (.c mc),some k,h,hx,hy=>
  change (match jV ka ks va z mc k H with|some (v,u,ap)=>some (v,u,ap,nxt)|none=>none)=_ at h;split at h
  .rename_i v1 u1 ids1 hl;obtain⟨rfl,rfl,rfl,rfl⟩:v1=v/\u1=u/\ids1=ap/\nxt=n':=by simpa using h
   simp only[mB]at hm;split at hm
   .rename_i ka' ks' va' z' hag hk hae hz;split at hm
    .rename_i hza;obtain⟨rfl,rfl,rfl,rfl⟩:ka'=ka/\ks'=ks/\va'=va/\z'=z:=by simpa using hm
     have hrm:=hx _ rfl;generalize hv1:ρ m=vm at hrm
     have CF:∀{w':World}{tv:TV}{val:Value}{n:Nat},dO S w' Kn φ tv val->dO S w' Kn φ (.eU [tv,lv (.int .i64 n)]) (.tuple #[val,goInt n]):=by
      intro w' tv val n hr;refine .eU rfl fun i x hi=>?_
      match i,hi with
      |0,hi=>obtain rfl:tv=x:=by simpa using hi
             exact hr
      |1,hi=>obtain rfl:lv (.int .i64 n)=x:=by simpa using hi
             exact .mh rfl
     unfold jV at hl;split at hl
     .rename_i id key hkey;obtain⟨hkv,hkl,hrk⟩:=jB hkey (hy _ rfl);split at hl
      .rename_i ka2 va2 es bA hob;split at hl
       .rename_i hkv2;obtain⟨rfl,rfl⟩:=hkv2;cases hrm with
        |c hrm=>
         cases hrm with
         |om hkn=>
          obtain⟨_,h0⟩:=hI.fC _ _ hob;obtain⟨ms,hms,hE⟩:=h0.Gd;have hck:=ke (P:=P) false 9992 8 kt ks' hk ka2 hag _ w hkl;split at hl
          .rename_i i hfe;obtain⟨f1,f2⟩:=iG (P:=P) hk hag hE hfe;obtain⟨f3,f4⟩:=f2 i rfl;obtain⟨e0,e1,e3,e4⟩:=hE.GG f3;obtain⟨_,hqq⟩:=y8 hfe;obtain⟨_,ag,hag',hone⟩:=pA 8 kt ks' hk;obtain rfl:ka2=ag:=aa (hag.symm.trans hag');have hold:(ms.toList.getD i default).key=mr ka2 key:=by rw[e1.mr,<-f4]
           split at hl
           .rename_i tv hval;obtain⟨rfl,rfl,rfl⟩:_/\_/\_:=by simpa using hl
            have ea:ms[i]?=some (ms.toList.getD i default):=by rw[<-e0];simp
            obtain⟨hs,hI'⟩:=hI.pG (clock':=bA) hob hms hE;refine⟨.value (.tuple #[(ms.toList.getD i default).val,goInt (ms.toList.getD i default).born]),_,{w with heap:=w.heap.setIfInBounds (φ id).bU (.map ms bA)},?_,.inl rfl,hO.set hs hI' ?_⟩
            .have dm:=yP (P:=P) (w:=w) hold (p7 (n:=9999) hone hqq);have hmod:ms.modify i (fun e=>{e with key:=mr ka2 key})=ms:=yC (by rw[<-hold]);simp only[execOp,ho,Instr.mapEntry,hv1,Sem.run_bind,bp hu,Result.andThen_ok,gP hms,hkv];rw[show(10000:Nat)=8+9992 from rfl,hck];simp only[Result.andThen_ok,Sem.run_bind,f1,bh,ea,Option.getD_some,dm,hmod,jp _ hms,Sem.run_pure]
            .rw [e4];exact CF (ko hval (e3.mono hs))
           .simp at hl
          .rename_i hfe;obtain⟨f1,_⟩:=iG (P:=P) hk hag hE hfe;split at hl
           .rename_i tv hval;obtain⟨rfl,rfl,rfl⟩:_/\_/\_:=by simpa using hl
            obtain⟨zv,hzr,hzv⟩:=qE (S:=S) hz hza hval w
            have hE':kO S w ka2 va2 (es++[(key,cn z',bA)]) (ms.push {key:=mr ka2 key,val:=zv,born:=bA}).toList:=by
             refine⟨by simp[hE.1],fun i e m hi hm=>?_⟩;rw[Array.toList_push]at hm;rcases Nat.lt_or_ge i es.length with hlt|hge
             .rw [bn hlt]at hi;rw[bn (by rw[<-hE.1];exact hlt)]at hm;exact hE.2 i e m hi hm
             .rw [bo hge]at hi;rw[bo (by rw[<-hE.1];exact hge),<-hE.1]at hm;have h0:i-es.length=0:=by have:=(ah.1 hi).1;simp at this;omega
              rw[h0]at hi hm;obtain rfl:(key,cn z',bA)=e:=by simpa using hi
              obtain rfl:MapEntry.mk (mr ka2 key) zv bA=m:=by simpa using hm
              exact⟨hkv▸hrk,hzv,rfl⟩
            obtain⟨hs,hI'⟩:=hI.pG (clock':=bA+1) hob hms hE';refine⟨.value (.tuple #[zv,goInt bA]),_,{w with heap:=w.heap.setIfInBounds (φ id).bU (.map (ms.push {key:=mr ka2 key,val:=zv,born:=bA}) (bA+1))},?_,.inl rfl,hO.set hs hI' ?_⟩
            .simp only[execOp,ho,Instr.mapEntry,hv1,Sem.run_bind,bp hu,Result.andThen_ok,gP hms,hkv];rw[show(10000:Nat)=8+9992 from rfl,hck];simp only[Result.andThen_ok,Sem.run_bind,f1,eg,hzr,jp _ hms,Sem.run_pure]
            .exact CF (ko hval (hzv.mono hs))
           .simp at hl
          .simp at hl
       .simp at hl
      .simp at hl
     .simp at hl
    .simp at hm
   .simp at hm
  .simp at h
theorem Is:∀{cs:List C}{l:List D},tT cs=some l->cs=l.map .d:=by
 intro cs;induction cs with
 |nil=>
  intro l h;obtain rfl:[]=l:=by simpa[tT]using h
  rfl
 |cons c cs ih=>
  intro l h;unfold tT at h;split at h
  .simp_all
  .rename_i v0 r0 he;obtain⟨rfl,rfl⟩:=bK he;split at h
   .rename_i l1 hl;obtain rfl:=aa h;rw[ih hl];rfl
   .simp at h
  .simp at h
theorem ny.of{x:TV}{cs:List C}{ds:List D}{val:Value}(hr:dO S w Kn φ x val)(hc:cellsOf x=some cs)(hd:tT cs=some ds):ny S w (lY x) ds val:=by
 have e:=Is hd;subst e;cases hr with
 |@c x v h=>
  have e1:[x]=ds.map C.d:=by simpa[cellsOf]using hc
  cases ds with
  |nil=>simp at e1
  |cons d r=>
   cases r with
   |nil=>
    obtain rfl:x=.d d:=by simpa using e1
    cases h with|d hd=>exact⟨d,rfl,hd⟩
   |cons _ _=>simp at e1
 |@agg cs' aH hlen h=>
  obtain rfl:cs'=ds.map C.d:=by simpa[cellsOf]using hc
  refine⟨aH,rfl,by simpa using hlen,fun i x hi=>?_⟩;have:=h i (.d x) (by simp[hi]);generalize aH.getD i undef=q at this|-;cases this with|d hd=>exact hd
 |eU=>simp[cellsOf]at hc
theorem kO.find{ka va:Bool}{s:Int}:∀{es:List mS}{ms:List MapEntry},kO S w ka va es ms->ms.findIdx? (fun e=>(e.born:Int)==s)=es.findIdx? (fun e=>decide ((e.2.2:Int)=s)):=by
 intro es;induction es with
 |nil=>intro ms h;obtain rfl:ms=[]:=bc.1 h.1.symm;rfl
 |cons e es ih=>
  intro ms h;cases ms with
  |nil=>exact absurd h.1 (by simp)
  |cons m ms=>
   obtain⟨_,_,hb⟩:=h.2 0 e m rfl rfl;rw[List.findIdx?_cons,List.findIdx?_cons,ih h.tail,hb];by_cases hc:(e.2.2:Int)=s
   .simp [hc]
   .simp [hc]
theorem ut{t:TypeId}{va:Bool}{n:Nat}{m st x:Operand}(ho:o.op=.entryStore t m st x)(hI:Inv S K w0 Kn φ (au H) w){tm ts tx:Option TV}
  (hx:∀y,tm=some y->dO S w Kn φ y (ρ m)) (hy:∀y,ts=some y->dO S w Kn φ y (ρ st)) (hz:∀y,tx=some y->dO S w Kn φ y (ρ x))
  (h:bN call (.entryStore va n) [tm,ts,tx] H nxt=some (v,u,ap,n')):ct P o ρ S K w0 w Kn φ (au H) nxt n' v u:=by
 match tm,tx,h,hx,hz with
 |some (.c mc),some xv,h,hx,hz=>
  change (match jW va n mc ts xv H with|some (u,ap)=>some (TV.eU [],u,ap,nxt)|none=>none)=_ at h;split at h
  .rename_i u1 ids1 hl;obtain⟨rfl,rfl,rfl,rfl⟩:TV.eU []=v/\u1=u/\ids1=ap/\nxt=n':=by simpa using h
   have hrm:=hx _ rfl;generalize hv1:ρ m=vm at hrm;unfold jW at hl;split at hl
   .rename_i id s ds dm hds;obtain⟨cs,hcs,hds⟩:=bE.1 hds;split at hl
    .rename_i ka va2 es bA hob;split at hl
     .rename_i hc;obtain⟨rfl,hn,hag⟩:=hc;split at hl
      .rename_i i hfi;obtain⟨rfl,rfl⟩:_/\_:=by simpa using hl
       cases hrm with
       |c hrm=>
        cases hrm with
        |om hkn=>
         obtain⟨_,h0⟩:=hI.fC _ _ hob;obtain⟨ms,hms,hE⟩:=h0.Gd;have hval:=ny.of (hz _ rfl) hcs hds;rw[hag]at hval
         -- the stamp
         have hsi:(asInt (ρ st)).run P w=.ok s w:=by
          unfold bL at dm;split at dm
          .rename_i k0 n0;obtain rfl:=aa dm;obtain⟨e1,_⟩:=(hy _ rfl).lit;rw[e1];simp[asInt,asIntOf]
          .simp at dm
         have hlt:i<es.length:=by obtain⟨h1,_⟩:=List.findIdx?_eq_some_iff_getElem.1 hfi;exact h1
         obtain⟨e0,e1,e3,e4⟩:=hE.GG (j:=i) (by rw[<-hE.1];exact hlt)
         have hE':kO S w ka va2 (es.set i ((es.getD i default).1,ds,(es.getD i default).2.2)) (ms.modify i (fun e=>{e with val:=ρ x})).toList:=by
          refine⟨by simp[hE.1],fun j e m hi hm=>?_⟩;have hm':(ms.modify i (fun e=>{e with val:=ρ x}))[j]?=some m:=by rw[<-aU];exact hm
          rw[Array.getElem?_modify]at hm';rw[List.getElem?_set]at hi;by_cases hij:i=j
          .subst hij;rw[if_pos rfl]at hm' hi;rw[if_pos hlt]at hi;obtain rfl:=aa hi;have ea:ms[i]?=some (ms.toList.getD i default):=by rw[<-e0];simp
           rw[ea]at hm';obtain rfl:({ms.toList.getD i default with val:=ρ x}:MapEntry)=m:=by simpa using hm'
           exact⟨e1,hval,e4⟩
          .rw [if_neg hij]at hm' hi;exact hE.2 j e m hi (by simpa using hm')
         obtain⟨hs,hI'⟩:=hI.pG (clock':=bA) hob hms hE';refine⟨.skip,undef,{w with heap:=w.heap.setIfInBounds (φ id).bU (.map (ms.modify i (fun e=>{e with val:=ρ x})) bA)},?_,.inr ⟨rfl,rfl⟩,hI.uO hs hI' rfl⟩;have hfi2:ms.findIdx? (fun e=>(e.born:Int)==s)=some i:=by rw[<-hfi,<-hE.find,<-List.findIdx?_toArray]
         simp only[execOp,ho,Instr.entryStore,hv1,Sem.run_bind,Result.andThen_ok,gP hms,hsi,hfi2,jp _ hms,Sem.run_pure]
      .simp at hl
     .simp at hl
    .simp at hl
   .simp at hl
  .simp at h
theorem p8{sz:Nat}{x:C}{xv:Value}{new:List (List D)}(hsz:0<sz)(hI:Inv S K w0 Kn φ (au H) w)(hr:RC S w Kn φ x xv)(h:ga sz H x=some (new,ap))(n:Nat)(hn:n<=new.length):
  (Builtin.lenOf xv).run P w=.ok new.length w/\∃aH,(Builtin.firstCells sz n xv).run P w=.ok aH w/\aH.size=n*sz/\bS S w sz (fun i=>aH[i]?) 0 (new.take n)/\∀x∈aH.toList,one x=true:=by
 have mem:∀{b addr len cap:Nat},new.length=len->bS S w sz (fun i=>w.cell? ⟨b,i,none⟩) addr new->xv=.slice (some ⟨b,addr,none⟩) len cap->
   (Builtin.lenOf xv).run P w=.ok new.length w/\∃aH,(Builtin.firstCells sz n xv).run P w=.ok aH w/\aH.size=n*sz/\bS S w sz (fun i=>aH[i]?) 0 (new.take n)/\∀x∈aH.toList,one x=true:=by
  intro b addr len cap hl hR hv;subst hl hv;have hR2:=hR.sub 0 n;rw[List.drop_zero,gq,cN]at hR2;obtain⟨aH,h1,h2,h3,h4⟩:=mC (P:=P) hsz hR2;have e:(new.take n).length=n:=by simp;omega
  rw[e]at h1 h2;exact⟨rfl,aH,h1 w rfl,h2,h3,h4⟩
 unfold ga at h;split at h
 .obtain ⟨rfl,rfl⟩:[]=new/\[]=ap:=by simpa using h
  obtain rfl:n=0:=by simpa using hn
  cases hr with
  |d hd=>cases hd with|lit hp=>exact⟨rfl, #[],rfl,by simp,⟨fun i r hi=>by simp at hi,fun i r hi=>by simp at hi⟩,fun x hx=>by simp at hx⟩
 .rename_i sz' rows;split at h
  .rename_i e1;subst e1;obtain⟨rfl,rfl⟩:rows=new/\[]=ap:=by simpa using h
   cases hr with
   |d hd=>cases hd with
    |sl f hb hsz0 hcap hrow hcell hrd=>exact mem rfl ⟨hrow,fun i r hi j x hj=>⟨_,hcell i r hi j x hj,hrd i r hi j x hj⟩⟩ rfl
    |nV hsz0=>
     obtain rfl:n=0:=by simpa using hn
     refine⟨rfl, #[],?_,by simp,⟨fun i r hi=>by simp at hi,fun i r hi=>by simp at hi⟩,fun x hx=>by simp at hx⟩;simp only[Builtin.firstCells,gq];rfl
  .simp at h
 .rename_i sz' id off len
  have key:∀szo rows,(au H id=some (.aH szo rows)\/au H id=some (.lB szo rows))->(if sz'=sz/\off+len<=rows.length then some ((rows.drop off).take len,[id])else none)=some (new,ap)->
    (Builtin.lenOf xv).run P w=.ok new.length w/\∃aH,(Builtin.firstCells sz n xv).run P w=.ok aH w/\aH.size=n*sz/\bS S w sz (fun i=>aH[i]?) 0 (new.take n)/\∀x∈aH.toList,one x=true:=by
   intro szo rows ho hq;split at hq
   .rename_i hb;obtain⟨e1,hle⟩:=hb;subst e1;obtain⟨rfl,rfl⟩:=ad (aa hq);obtain⟨hsz1,hl,hR⟩:=kf hI ho;subst hl;cases hr with|dq hk hcap haddr hext=>exact mem (by simp;omega) (hR.rE off len fun h=>haddr (by omega)) rfl
   .simp at hq
  split at h
  .exact key _ _ (.inl (by assumption)) h
  .exact key _ _ (.inr (by assumption)) h
  .simp at h
 .simp at h
theorem xR{sz aL off:Nat}{rows ns:List (List D)}{aH:Array Value}{vs:List Value}(h:bS S w sz (fun i=>aH[i]?) aL rows)(hfit:off+ns.length<=rows.length)
  (hl:vs.length=ns.length*sz) (hn:bS S w sz (fun i=>vs[i]?) 0 ns) (hsz:aL+rows.length*sz<=aH.size):
  bS S w sz (fun i=>(aV aH.toList (aL+off*sz) vs).toArray[i]?) aL (aV rows off ns):=by
 have hmul:(off+ns.length)*sz<=rows.length*sz:=aF _ hfit;rw[bv]at hmul;have hget:∀k,(aV aH.toList (aL+off*sz) vs).toArray[k]?=if k<aL+off*sz then aH[k]?else if k<aL+off*sz+vs.length then vs[k-(aL+off*sz)]?else aH[k]?:=by intro k;rw[<-aU];show(aV aH.toList _ vs)[k]?=_;rw[gu _ _ _ (by simp;omega)];simp only[aU]
 have GG:∀(i:Nat)(r:List D),(aV rows off ns)[i]?=some r->r.length=sz/\∀(j:Nat)(x:D),r[j]?=some x->∃y,(aV aH.toList (aL+off*sz) vs).toArray[aL+i*sz+j]?=some y/\RD S w x y:=by
  intro i r hi;rw[gu _ _ _ hfit]at hi;by_cases c1:i<off
  .rw [if_pos c1]at hi;refine⟨h.1 i r hi,fun j x hj=>?_⟩;obtain⟨y,hy,hr⟩:=h.2 i r hi j x hj;have hjl:j<sz:=by rw[<-h.1 i r hi];exact(ah.1 hj).1
   have:(i+1)*sz<=off*sz:=aF _ c1;rw[cM]at this;exact⟨y,by rw[hget,if_pos (by omega)];exact hy,hr⟩
  .rw [if_neg c1]at hi;by_cases c2:i<off+ns.length
   .rw [if_pos c2]at hi;refine⟨hn.1 _ r hi,fun j x hj=>?_⟩;obtain⟨y,hy,hr⟩:=hn.2 _ r hi j x hj;have hjl:j<sz:=by rw[<-hn.1 _ r hi];exact(ah.1 hj).1
    have e1:i*sz=off*sz+(i-off)*sz:=by rw[<-bv];congr 1;omega
    have hm:(i-off+1)*sz<=ns.length*sz:=aF _ (by omega);rw[cM]at hm;refine⟨y,?_,hr⟩;rw[hget,if_neg (by omega),if_pos (by omega)];rw[<-hy];show vs[_]?=vs[_]?;congr 1;omega
   .rw [if_neg c2]at hi;refine⟨h.1 i r hi,fun j x hj=>?_⟩;obtain⟨y,hy,hr⟩:=h.2 i r hi j x hj;have:(off+ns.length)*sz<=i*sz:=aF _ (by omega);rw[bv]at this;exact⟨y,by rw[hget,if_neg (by omega),if_neg (by omega)];exact hy,hr⟩
 exact⟨fun i r hi=>(GG i r hi).1,fun i r hi=>(GG i r hi).2⟩
theorem xH{α:Type}(l:List α)(off:Nat)(p:List α)(hfit:off<=l.length)(i:Nat):
  (aV l off p)[i]?=if i<off then l[i]?else if i<off+p.length then p[i-off]?else l[i]?:=by
 unfold aV;by_cases h1:i<off
 .rw [List.append_assoc,bn (by simp;omega)];simp[h1]
 .by_cases h2:i<off+p.length
  .rw [bn (by simp;omega),bo (by simp;omega)];simp only[dp,h1,h2,if_true,if_false];congr 1;omega
  .rw [bo (by simp;omega)];simp only[aZ,dp,List.getElem?_drop,h1,h2,if_false];congr 1;omega
theorem sF{α:Type}(l:List α)(off:Nat)(p:List α)(hfit:off<=l.length):(aV l off p).length=max l.length (off+p.length):=by unfold aV;simp;omega
theorem CX{sz aL off:Nat}{rows ns:List (List D)}{aH:Array Value}{vs:List Value}(h:bS S w sz (fun i=>aH[i]?) aL rows)(hfit:off<=rows.length)
  (hl:vs.length=ns.length*sz) (hn:bS S w sz (fun i=>vs[i]?) 0 ns) (hsz:aL+off*sz+ns.length*sz<=aH.size):
  bS S w sz (fun i=>(aV aH.toList (aL+off*sz) vs).toArray[i]?) aL (aV rows off ns):=by
 have hget:∀k,(aV aH.toList (aL+off*sz) vs).toArray[k]?=if k<aL+off*sz then aH[k]?else if k<aL+off*sz+vs.length then vs[k-(aL+off*sz)]?else aH[k]?:=by intro k;rw[<-aU];show(aV aH.toList _ vs)[k]?=_;rw[gu _ _ _ (by simp;omega)];simp only[aU]
 have GG:∀(i:Nat)(r:List D),(aV rows off ns)[i]?=some r->r.length=sz/\∀(j:Nat)(x:D),r[j]?=some x->∃y,(aV aH.toList (aL+off*sz) vs).toArray[aL+i*sz+j]?=some y/\RD S w x y:=by
  intro i r hi;rw[xH _ _ _ hfit]at hi;by_cases c1:i<off
  .rw [if_pos c1]at hi;refine⟨h.1 i r hi,fun j x hj=>?_⟩;obtain⟨y,hy,hr⟩:=h.2 i r hi j x hj;have hjl:j<sz:=by rw[<-h.1 i r hi];exact(ah.1 hj).1
   have:(i+1)*sz<=off*sz:=aF _ c1;rw[cM]at this;exact⟨y,by rw[hget,if_pos (by omega)];exact hy,hr⟩
  .rw [if_neg c1]at hi;by_cases c2:i<off+ns.length
   .rw [if_pos c2]at hi;refine⟨hn.1 _ r hi,fun j x hj=>?_⟩;obtain⟨y,hy,hr⟩:=hn.2 _ r hi j x hj;have hjl:j<sz:=by rw[<-hn.1 _ r hi];exact(ah.1 hj).1
    have e1:i*sz=off*sz+(i-off)*sz:=by rw[<-bv];congr 1;omega
    have hm:(i-off+1)*sz<=ns.length*sz:=aF _ (by omega);rw[cM]at hm;refine⟨y,?_,hr⟩;rw[hget,if_neg (by omega),if_pos (by omega)];rw[<-hy];show vs[_]?=vs[_]?;congr 1;omega
   .rw [if_neg c2]at hi;refine⟨h.1 i r hi,fun j x hj=>?_⟩;obtain⟨y,hy,hr⟩:=h.2 i r hi j x hj;have:(off+ns.length)*sz<=i*sz:=aF _ (by omega);rw[bv]at this;exact⟨y,by rw[hget,if_neg (by omega),if_neg (by omega)];exact hy,hr⟩
 exact⟨fun i r hi=>(GG i r hi).1,fun i r hi=>(GG i r hi).2⟩
theorem E6{c:j6}{d x:Operand}{dt xt el:TypeId}{n:Nat}{dc xc:C}{i:Int}(ho:o.op=.call c)(hcal:c.callee=.builtin .copy)(hargs:c.args= #[d,x])(hts:c.argTypes= #[dt,xt])
  (hud:P.underlying dt=some (.slice el)) (hsz:dN P el=some (n+1)) (hI:Inv S K w0 Kn φ (au H) w) (hdr:dO S w Kn φ (.c dc) (ρ d)) (hxr:dO S w Kn φ (.c xc) (ρ x))
  (hl:k9 (n+1) dc xc H=some (i,u,ap)):ct P o ρ S K w0 w Kn φ (au H) nxt nxt (lv (.int .i64 i)) u:=by
 unfold k9 at hl;split at hl
 case h_2=>simp at hl
 rename_i sz' id off len sz2 id2 off2 len2
 have key:∀szo rows cp rows2,au H id=some (.cap szo rows cp)->sz'=n+1->sz2=n+1->off<=rows.length->off2+min len2 len<=rows2.length->(φ id2).sz=n+1->
   bS S w (n+1) (fun i=>w.cell? ⟨(φ id2).bU,i,none⟩) (φ id2).aL rows2->
   ct P o ρ S K w0 w Kn φ (au H) nxt nxt (lv (.int .i64 (min len2 len:Nat))) [(id,some (.cap (n+1) (aV rows off ((rows2.drop off2).take (min len2 len))) cp))]:=by
  intro szo rows cp rows2 hob e1 e3 hoff hle hsz2 hR2;subst e1 e3;generalize hv0:ρ d=val at hdr;generalize hv1:ρ x=val1 at hxr;cases hdr with
  |c hdr=>
  cases hxr with
  |c hxr=>
  obtain⟨cap2,addr2,rfl,_,_,hcap2,haddr2,_,_⟩:=hxr.gQ;have hnl:((rows2.drop off2).take (min len2 len)).length=min len2 len:=by simp;omega
  obtain⟨aH,h2,h3,h4,h5⟩:=mC (P:=P) (sz:=n+1) (b_ n) (hR2.rE (addr:=addr2) off2 (min len2 len) fun h=>by rw[haddr2 (by omega),hsz2]);rw[hnl]at h2 h3;have h1:(Builtin.lenOf (.slice (some ⟨(φ id2).bU,addr2,none⟩) len2 cap2)).run P w=.ok len2 w:=rfl;have h2:(Builtin.firstCells (n+1) (min len2 len) (.slice (some ⟨(φ id2).bU,addr2,none⟩) len2 cap2)).run P w=.ok aH w:=h2 w rfl;have hmn:Nat.min len2 len=min len2 len:=rfl;obtain⟨hk0,h0⟩:=hI.fC _ _ hob;generalize hphi:φ id=l at*;cases h0 with
  |@cap _ _ _ old hsz0 hl hS hK hown hext hfit hrr hvis hcc=>
  obtain⟨cap,addr,rfl,hszl,hk,hcap,haddr,hextc,hcl⟩:=hdr.gQ;rw[hphi]at hv0 haddr hextc hszl hcl;have e2:szo=n+1:=by rw[<-hl,hszl]
  subst e2;rw[hl]at haddr hextc
  have run:∀w',(storeCells ⟨l.bU,addr,none⟩ aH.toList).run P w=.ok () w'->(execOp ρ o).run P w=.ok (.value (goInt ((min len2 len:Nat):Int))) w':=by
   intro w' dm
   simp only[execOp,ho,hcal,resolve,hargs,Sem.run_bind,Sem.run_pure,Result.andThen_ok,invoke,builtin,Builtin.copy_,hts,cu,aq,aR,hv0,hv1,bz,
    bF,ce,bp hud,eK hsz,h1,hmn,h2,dm]
  generalize hnew:(rows2.drop off2).take (min len2 len)=new at*;rcases Nat.eq_zero_or_pos (min len2 len)with hz|hz
  .have ha:aH.toList=[]:=by rw[hz,gq]at h3;exact bc.1 (by simpa using h3)
   have hns:new=[]:=bc.1 (by rw[hnl];exact hz);have hsame:aV rows off new=rows:=by rw[hns];simp[aV]
   have hupd:a_ [(id,some (Ob.cap (n+1) (aV rows off new) cp))] (au H)=au H:=by
    funext j;rw[bB,hsame];split
    .rename_i e;rw[<-e,hob]
    .rfl
   refine⟨.value _,_,_,run w (by rw[ha];rfl),.inl rfl,hO.set (eM.refl _ _) (by rw[hupd];exact hI) (.c (.d (.lit rfl)))⟩
  .have hpos:0<cap:=by have:=fL len2 len;omega
   have haddr:=haddr hpos;obtain⟨ty,hty⟩:=hown;have hlen:aH.toList.length=min len2 len*(n+1):=by simpa using h3
   have hml:min len2 len*(n+1)<=len*(n+1):=aF _ (fL _ _);have hmc:len*(n+1)<=cap*(n+1):=aF _ hcap;have dm:=run_storeCells_at P l.bU addr ty aH.toList 0 old w hty (by rw[hlen,hext];omega) (fun v hv=>by rw[lq];exact h5 v hv);simp only[cN]at dm;have hown:kN w l.bU old:=⟨ty,hty⟩
   obtain⟨p1,p2,p3,p4,p5⟩:=kh (w:=w) (b:=l.bU) (o:=addr) (n:=aH.toList.length) (vs:=aH.toList) hown rfl
   have hset:=hI.set (o':=.cap (n+1) (aV rows off new) cp) hob rfl (by rw[hphi];exact p2) p3 p4 (by rw[hphi];exact p5 (by rw[hlen,hext];omega)) ⟨rfl,rfl,rfl,ak _⟩ (fun hstp=>by
    rw[hphi];have h6:=(CX (vs:=aH.toList) (off:=off) hrr hoff (by rw[hnl];exact hlen) (by simpa using h4) (by rw[hnl,hext];omega)).mono hstp;rw[<-haddr]at h6;have hsl:(aV rows off new).length=max rows.length (off+min len2 len):=by rw[sF _ _ _ hoff,hnl]
    have:=fL len2 len;exact .cap hsz0 hl hS hK p1 (by simp only[fg];rw[c8 _ _ _ (by rw[hlen];simp only[dW,hext];omega)];simpa using hext) hfit h6 (by rw[hsl];omega) hcc)
   exact⟨.value _,_,_,run _ dm,.inl rfl,hO.set hset.1 hset.2 (.c (.d (.lit rfl)))⟩
 split at hl
 .rename_i szo rows cp szo2 rows2 hob hob2;split at hl
  .rename_i hb;obtain⟨e1,e3,hoff,hle⟩:=hb;obtain⟨rfl,rfl,_⟩:((min len2 len:Nat):Int)=i/\[(id,some (Ob.cap (n+1) (aV rows off ((rows2.drop off2).take (min len2 len))) cp))]=u/\[id,id2]=ap:=by simpa using hl
   obtain⟨_,hl2,hR2⟩:=kf hI (.inl hob2);have hs2:(φ id2).sz=n+1:=by cases hxr with|c hxr=>obtain⟨_,_,_,h9,_⟩:=hxr.gQ;rw[h9,e3]
   obtain rfl:szo2=n+1:=by rw[<-hl2,hs2]
   exact key _ _ _ _ hob e1 e3 hoff hle hs2 hR2
  .simp at hl
 .rename_i szo rows cp szo2 rows2 cp2 hob hob2;split at hl
  .rename_i hb;obtain⟨e1,e3,hoff,hle⟩:=hb;obtain⟨rfl,rfl,_⟩:((min len2 len:Nat):Int)=i/\[(id,some (Ob.cap (n+1) (aV rows off ((rows2.drop off2).take (min len2 len))) cp))]=u/\[id,id2]=ap:=by simpa using hl
   obtain⟨_,h0⟩:=hI.fC _ _ hob2;cases h0 with
   |cap hsz0 hl2 hS hK hown hext hfit hrr hvis hcc=>
    have hs2:(φ id2).sz=n+1:=by cases hxr with|c hxr=>obtain⟨_,_,_,h9,_⟩:=hxr.gQ;rw[h9,e3]
    obtain rfl:szo2=n+1:=by rw[<-hl2,hs2]
    exact key _ _ _ _ hob e1 e3 hoff hle hs2 ⟨hrr.1,fun i r hi j x hj=>let⟨y,hy,hd⟩:=hrr.2 i r hi j x hj;⟨y,(hown.cell _).trans hy,hd⟩⟩
  .simp at hl
 .simp at hl
theorem HL{c:j6}{d x:Operand}{dt xt el:TypeId}{n:Nat}(ho:o.op=.call c)(hcal:c.callee=.builtin .copy)(hargs:c.args= #[d,x])(hts:c.argTypes= #[dt,xt])
  (hud:P.underlying dt=some (.slice el)) (hsz:dN P el=some (n+1)) (hI:Inv S K w0 Kn φ (au H) w) {td tx:Option TV} (hd:∀y,td=some y->dO S w Kn φ y (ρ d)) (hx:∀y,tx=some y->dO S w Kn φ y (ρ x))
  (h:bN call (.copy (n+1)) [td,tx] H nxt=some (v,u,ap,n')):ct P o ρ S K w0 w Kn φ (au H) nxt n' v u:=by
 match td,tx,h,hd,hx with
 |some (.c dc),some (.c xc),h,hd,hx=>
  change (match jr (n+1) dc xc H with|some (i,u,ap)=>some (lv (.int .i64 i),u,ap,nxt)|none=>(match k9 (n+1) dc xc H with|some (i,u,ap)=>some (lv (.int .i64 i),u,ap,nxt)|none=>none))=_ at h;split at h
  .rename_i i u1 ids1 hl;obtain⟨rfl,rfl,rfl,rfl⟩:lv (.int .i64 i)=v/\u1=u/\ids1=ap/\nxt=n':=by simpa using h
   unfold jr at hl;cases hx _ rfl with
   |c hxr=>
   split at hl
   .rename_i new ids2 hrx;obtain⟨rfl,rfl,rfl⟩:0=i/\[]=u1/\ids2=ids1:=by simpa using hl
    obtain⟨hv,_⟩:=(hd _ rfl).lit;obtain⟨h1,aH,h2,h3,_,_⟩:=p8 (P:=P) (sz:=n+1) (b_ n) hI hxr hrx 0 (dK _);have he:(Nat.min new.length 0)=0:=Nat.min_zero _;refine ct.pure hI ?_ (.c (.d (.lit rfl)))
    simp only[execOp,ho,hcal,resolve,hargs,Sem.run_bind,Sem.run_pure,Result.andThen_ok,invoke,builtin,Builtin.copy_,hts,cu,aq,aR,hv,bz,
     bF,ce,bp hud,eK hsz,h1,he,h2,goInt]
    rfl
   .rename_i new ids2 sz' id off len hrx;split at hl
    .rename_i szo rows hob;split at hl
     .rename_i hb;obtain⟨e1,hle⟩:=hb;subst e1;obtain⟨rfl,rfl,rfl⟩:((min new.length len:Nat):Int)=i/\[(id,some (Ob.aH (n+1) (aV rows off (new.take len))))]=u1/\id::ids2=ids1:=by simpa using hl
      have hdr:=hd _ rfl;generalize hv0:ρ d=val at hdr;cases hdr with
      |c hdr=>
      obtain⟨h1,aH,h2,h3,h4,h5⟩:=p8 (P:=P) (sz:=n+1) (b_ n) hI hxr hrx (min new.length len) (Nat.min_le_left _ _)
      have htk:new.take (min new.length len)=new.take len:=by
       rcases Nat.le_total new.length len with hc|hc
       .rw [Nat.min_eq_left hc,cO (ak _),cO hc]
       .rw [Nat.min_eq_right hc]
      rw[htk]at h4;have htl:(new.take len).length=min new.length len:=by simp[Nat.min_comm]
      have hmn:Nat.min new.length len=min new.length len:=rfl;obtain⟨hk0,h0⟩:=hI.fC _ _ hob;generalize hphi:φ id=l at*;cases h0 with
      |@aH _ _ old hsz0 hl hS hK hown hext hfit hrr hvis=>
      obtain⟨cap,addr,rfl,hszl,hk,hcap,haddr,hextc,hcl⟩:=hdr.gQ;rw[hphi]at hv0 haddr hextc hszl hcl;have e2:szo=n+1:=by rw[<-hl,hszl]
      subst e2;rw[hl]at haddr hextc
      have run:∀w',(storeCells ⟨l.bU,addr,none⟩ aH.toList).run P w=.ok () w'->(execOp ρ o).run P w=.ok (.value (goInt ((min new.length len:Nat):Int))) w':=by
       intro w' dm
       simp only[execOp,ho,hcal,resolve,hargs,Sem.run_bind,Sem.run_pure,Result.andThen_ok,invoke,builtin,Builtin.copy_,hts,cu,aq,aR,hv0,bz,
        bF,ce,bp hud,eK hsz,h1,hmn,h2,dm]
      rcases Nat.eq_zero_or_pos (min new.length len)with hz|hz
      .have ha:aH.toList=[]:=by rw[hz,gq]at h3;exact bc.1 (by simpa using h3)
       have hns:new.take len=[]:=bc.1 (by rw[htl];exact hz);have hsame:aV rows off (new.take len)=rows:=by rw[hns];simp[aV]
       have hupd:a_ [(id,some (Ob.aH (n+1) (aV rows off (new.take len))))] (au H)=au H:=by
        funext j;rw[bB,hsame];split
        .rename_i e;rw[<-e,hob]
        .rfl
       refine⟨.value _,_,_,run w (by rw[ha];rfl),.inl rfl,hO.set (eM.refl _ _) (by rw[hupd];exact hI) (.c (.d (.lit rfl)))⟩
      .have hpos:0<cap:=by have:=fL new.length len;omega
       have haddr:=haddr hpos;obtain⟨ty,hty⟩:=hown;have hlen:aH.toList.length=min new.length len*(n+1):=by simpa using h3
       have hml:min new.length len*(n+1)<=len*(n+1):=aF _ (fL _ _);have hmc:len*(n+1)<=cap*(n+1):=aF _ hcap;have dm:=run_storeCells_at P l.bU addr ty aH.toList 0 old w hty (by rw[hlen,hext];omega) (fun v hv=>by rw[lq];exact h5 v hv);simp only[cN]at dm;have hown:kN w l.bU old:=⟨ty,hty⟩
       obtain⟨p1,p2,p3,p4,p5⟩:=kh (w:=w) (b:=l.bU) (o:=addr) (n:=aH.toList.length) (vs:=aH.toList) hown rfl;have hset:=hI.set (o':=.aH (n+1) (aV rows off (new.take len))) hob rfl (by rw[hphi];exact p2) p3 p4 (by rw[hphi];exact p5 (by rw[hlen,hext];omega)) ⟨rfl,rfl,rfl,ak _⟩ (fun hstp=>by rw[hphi];have h6:=(xR (vs:=aH.toList) (off:=off) hrr (by rw[htl];have:=fL new.length len;omega) (by rw[htl];exact hlen) (by simpa using h4) (by rw[hext];exact hfit)).mono hstp;rw[<-haddr]at h6;have hsl:(aV rows off (new.take len)).length=rows.length:=c8 _ _ _ (by rw[htl];have:=fL new.length len;omega);exact .aH hsz0 hl hS hK p1 (by simp only[fg];rw[c8 _ _ _ (by rw[hlen];simp only[dW,hext];omega)];simpa using hext) (by rw[hsl];exact hfit) h6 (by rw[hsl];exact hvis));exact⟨.value _,_,_,run _ dm,.inl rfl,hO.set hset.1 hset.2 (.c (.d (.lit rfl)))⟩
     .simp at hl
    .simp at hl
   .simp at hl
  .split at h
   .rename_i i u1 ids1 hl;obtain⟨rfl,rfl,rfl,rfl⟩:lv (.int .i64 i)=v/\u1=u/\ids1=ap/\nxt=n':=by simpa using h
    exact E6 ho hcal hargs hts hud hsz hI (hd _ rfl) (hx _ rfl) hl
   .simp at h
theorem E8{c:j6}{d:Operand}{dt el:TypeId}{n:Nat}{z:List Value}(ho:o.op=.call c)(hcal:c.callee=.builtin .clear)(hargs:c.args= #[d])(hts:c.argTypes= #[dt])
  (hud:P.underlying dt=some (.slice el)) (_hsz:dN P el=some (n+1)) (hz:gr P el=some z) (hzl:z.length=n+1) (hI:Inv S K w0 Kn φ (au H) w) {td:Option TV} (hd:∀y,td=some y->dO S w Kn φ y (ρ d))
  (h:bN call (.clear z) [td] H nxt=some (v,u,ap,n')):ct P o ρ S K w0 w Kn φ (au H) nxt n' v u:=by
 obtain⟨zv,hzr,hzv,hzp⟩:=kq hz w
 match td,h,hd with
 |some (.c dc),h,hd=>
  change (match k_ z dc H with|some (u,ap)=>some (TV.eU [],u,ap,nxt)|none=>none)=_ at h;split at h
  .rename_i u1 ids1 hl;obtain⟨rfl,rfl,rfl,rfl⟩:TV.eU []=v/\u1=u/\ids1=ap/\nxt=n':=by simpa using h
   unfold k_ at hl;split at hl
   .rename_i sz' id off len;split at hl
    .rename_i szo rows hob;split at hl
     .rename_i hb;obtain⟨e1,hle⟩:=hb;rw[hzl]at e1;subst e1;obtain⟨rfl,_⟩:=ad (aa hl);have hdr:=hd _ rfl;generalize hv0:ρ d=val at hdr;cases hdr with
      |c hdr=>
      obtain⟨hk0,h0⟩:=hI.fC _ _ hob;generalize hphi:φ id=l at*;cases h0 with
      |@aH _ _ old hsz0 hlz hS hK hown hext hfit hrr hvis=>
      obtain⟨cap,addr,rfl,hszl,hk,hcap,haddr,hextc,hcl⟩:=hdr.gQ;rw[hphi]at hv0 haddr hextc hszl hcl;have e2:szo=n+1:=by rw[<-hlz,hszl]
      subst e2;rw[hlz]at haddr hextc;have hzs:zv.cells.size=n+1:=by rw[<-hzl,<-hzv];simp
      obtain⟨inf,hzr'⟩:∃inf:Unit,True:=⟨(),trivial⟩
      cases len with
      |zero=>
       have hsame:aV rows off (aw 0 (cn z))=rows:=by simp[aV]
       have hupd:a_ [(id,some (Ob.aH (n+1) (aV rows off (aw 0 (cn z)))))] (au H)=au H:=by
        funext j;rw[bB,hsame];split
        .rename_i e;rw[<-e,hob]
        .rfl
       refine⟨.value (.tuple #[]),.tuple #[],w,?_,.inl rfl,hO.set (eM.refl _ _) (by rw[hupd];exact hI) (.eU rfl fun i x hi=>by simp at hi)⟩
       simp only[execOp,ho,hcal,resolve,hargs,Sem.run_bind,Sem.run_pure,Result.andThen_ok,invoke,builtin,Builtin.clear_,hts,cu,aq,aR,hv0,bz,
        bF,bp hud]
      |succ len=>
       have hpos:0<cap:=by omega
       have haddr:=haddr hpos;obtain⟨ty,hty⟩:=hown;let aH:=(Builtin.zeroCells zv.cells (len+1)).toList;have hlen:aH.length=(len+1)*(n+1):=by simp[aH,Builtin.zeroCells,hzs]
       have hget:∀k,k<(len+1)*(n+1)->aH[k]?=z[k %(n+1)]?:=fun k hk=>by
        have harr:aH=(dz ((len+1)*(n+1))).map fun i=>z.getD (i %(n+1)) undef:=by have:=nN (n:=(len+1)*(n+1)) hzv hzl (b_ n);simp only[aH,Builtin.zeroCells,hzs];rw[hzs]at this;exact this
        have hm:k %(n+1)<z.length:=by rw[hzl];exact Nat.mod_lt _ (b_ _)
        rw[harr,aB,gA hk];simp[List.getD,List.getElem?_eq_getElem hm]
       have hmc:(len+1)*(n+1)<=cap*(n+1):=aF _ hcap;have dm:=run_storeCells_at P l.bU addr ty aH 0 old w hty (by rw[hlen,hext];omega) (fun v hv=>by rw[lq];obtain⟨k,hk⟩:=List.getElem?_of_mem hv;have hkl:=(ah.1 hk).1;rw[hlen]at hkl;rw[hget k hkl]at hk;exact qe (hzp v (aT hk)));simp only[cN]at dm;have hown:kN w l.bU old:=⟨ty,hty⟩
       obtain⟨p1,p2,p3,p4,p5⟩:=kh (w:=w) (b:=l.bU) (o:=addr) (n:=aH.length) (vs:=aH) hown rfl;have hrl:(aw (len+1) (cn z)).length=len+1:=by simp
       have hset:=hI.set (o':=.aH (n+1) (aV rows off (aw (len+1) (cn z)))) hob rfl (by rw[hphi];exact p2) p3 p4 (by rw[hphi];exact p5 (by rw[hlen,hext];omega)) ⟨rfl,rfl,rfl,ak _⟩ (fun hstp=>by
        rw[hphi]
        have h6:=(xR (vs:=aH) (ns:=aw (len+1) (cn z)) (off:=off) hrr (by rw[hrl];omega) (by rw[hrl];exact hlen) ⟨fun i r hi=>by
          rw[cF]at hi;split at hi
          .rw [<-aa hi];simp[cn,hzl]
          .simp at hi,fun i r hi j x hj=>by
          rw[cF]at hi;split at hi
          .rename_i hil;obtain rfl:=aa hi;simp only[cn,aB]at hj;obtain⟨y,hy,rfl⟩:=aG.1 hj;have hjl:j<n+1:=by rw[<-hzl];exact(ah.1 hy).1
           have hm:(i+1)*(n+1)<=(len+1)*(n+1):=aF _ hil;rw[cM]at hm;refine⟨y,?_,.lit (hzp y (aT hy))⟩;show aH[0+i*(n+1)+j]?=_;rw[hget _ (by omega),bD,Nat.mul_comm,Nat.mul_add_mod,Nat.mod_eq_of_lt hjl];exact hy
          .simp at hi⟩ (by rw[hext];exact hfit)).mono hstp
        rw[<-haddr]at h6;have hsl:(aV rows off (aw (len+1) (cn z))).length=rows.length:=c8 _ _ _ (by rw[hrl];omega);exact .aH hsz0 hlz hS hK p1 (by simp only[fg];rw[c8 _ _ _ (by rw[hlen];simp only[dW,hext];omega)];simpa using hext) (by rw[hsl];exact hfit) h6 (by rw[hsl];exact hvis))
       refine⟨.value (.tuple #[]),.tuple #[],_,?_,.inl rfl,hO.set hset.1 hset.2 (.eU rfl fun i x hi=>by simp at hi)⟩
       simp only[execOp,ho,hcal,resolve,hargs,Sem.run_bind,Sem.run_pure,Result.andThen_ok,invoke,builtin,Builtin.clear_,hts,cu,aq,aR,hv0,bz,
        bF,bp hud,hzr]
       rw[dm];rfl
     .simp at hl
    .simp at hl
   .simp at hl
  .simp at h
theorem JY{c:j6}{d:Operand}{dt el:TypeId}(ho:o.op=.call c)(hcal:c.callee=.builtin .cap)(hargs:c.args= #[d])(hts:c.argTypes= #[dt])
  (hud:P.underlying dt=some (.slice el)) (hI:Inv S K w0 Kn φ (au H) w) {td:Option TV} (hd:∀y,td=some y->dO S w Kn φ y (ρ d))
  (h:bN call .Gw [td] H nxt=some (v,u,ap,n')):ct P o ρ S K w0 w Kn φ (au H) nxt n' v u:=by
 match td,h,hd with
 |some (.c dc),h,hd=>
  change (match tO dc H with|some (n,ap)=>some (lv (.int .i64 n),([]:dD),ap,nxt)|none=>none)=_ at h;split at h
  .rename_i m ids1 hl;obtain⟨rfl,rfl,rfl,rfl⟩:lv (.int .i64 m)=v/\[]=u/\ids1=ap/\nxt=n':=by simpa using h
   unfold tO at hl;split at hl
   .rename_i sz id off len;split at hl
    .rename_i szo rows cp hob;obtain⟨rfl,_⟩:=ad (aa hl);have hdr:=hd _ rfl;generalize hv0:ρ d=val at hdr;cases hdr with
     |c hdr=>
     obtain⟨cap,addr,rfl,_,_,_,_,_,hcl⟩:=hdr.gQ;obtain⟨_,h0⟩:=hI.fC _ _ hob;cases h0 with
     |cap hsz0 hl hS hK hown hext hfit hrr hvis hcc=>
     have e:cp-off=cap:=by omega
     refine ct.pure hI ?_ (.c (.d (.lit rfl)))
     simp only[execOp,ho,hcal,resolve,hargs,Sem.run_bind,Sem.run_pure,Result.andThen_ok,invoke,builtin,Builtin.cap_,hts,cu,aq,aR,hv0,bz,
      bF,bp hud,e]
     rfl
    .simp at hl
   .simp at hl
  .simp at h
theorem qF{w:World}{ts rs:Array TypeId}{tS e:TypeId}{sz:Nat}(hts:ts[0]?=some tS)(ht:P.underlying tS=some (.slice e))(hz:dN P e=some (sz+1))
  {a b:Addr} {la ca lb cb:Nat} (hne:a.block≠b.block) {A B:Array Value} (hA:kN w a.block A) (hB:kN w b.block B) (hkB:B.size≠0):
  (Extern.SlicesOverlaps.overlaps ts rs #[.slice (some a) la ca,.slice (some b) lb cb]).run P w=.ok (.bool false) w:=by
 have hnb:(a.block !=b.block)=true:=by simpa using hne
 have hnb':(a.block==b.block)=false:=by simpa using hne
 obtain⟨tA,hA1⟩:=hA;obtain⟨tB,hB1⟩:=hB;have hsa:w.shape? a.block=some (tA,A.size):=by simp[World.shape?,hA1]
 have hsb:w.shape? b.block=some (tB,B.size):=by simp[World.shape?,hB1]
 have hfa:w.frozen? a=false:=by simp[World.frozen?,hA1]
 have hfe:w.frozen? {block:=a.block,off:=A.size}=false:=by simp[World.frozen?,hA1]
 change Sem.run P (α:=Value) (do
  let some t:=ts[0]?|stuck "slices.overlaps: no parameter types"
  let .slice elem<-underlying t|stuck "slices.overlaps: slice type expected"
  let size<-sizeOf elem
  match(some a:Option Addr),(some b:Option Addr)with
  |some a,some b=>
   if la=0\/lb=0\/size=0 then pure (Value.bool false)
   else if a.block !=b.block&&(<-frozen a)&&(<-frozen b)then unsupported .addressObserved
   else do
    if a.block !=b.block then do
     noView a;noView b
     if<-mayBeOne a b then return Value.bool ((<-choose (.extern "sameAddr.stringBytes" 2))==1)
    pure (Value.bool (a.block==b.block&&a.off<b.off+lb*size&&b.off<a.off+la*size))
  |_,_=>pure (Value.bool false)) w=_
 by_cases h0:la=0\/lb=0
 .simp only[hts,Sem.run_bind,bp ht,eK hz,Result.andThen_ok];rw[if_pos (h0.elim .inl fun h=>.inr (.inl h))];rfl
 .cases hk:B.size with|zero=>exact absurd hk hkB|succ kB=>rw[hk]at hsb;simp[hts,bp ht,eK hz,h0,hnb,hnb',frozen,noView,viewAt,mayBeOne,stringish,shape,Sem.run,hsa,hsb,hfa,hfe]
theorem Ad{f:FuncId}{fn:Func}{e:Array Value->Sem Value}(hf:P.funcs[f]?=some fn)(hname:(fn.name== "runtime.NumGoroutine")=false)
  (hb:fn.body.isNone=true) (hn:Extern.findNext fn=none) (he:Extern.find fn=some e) (args:Array Value) (w:World):
  (callFunc f args).run P w=((e args).run P w).andThen fun v w'=>.ok (.value v) w':=by
 have h1:fn.name≠ "runtime.NumGoroutine" :=by simpa using hname
 have h2:fn.body=none:=by simpa using hb
 simp[callFunc,hf,h1,h2,hn,he,mark,Sem.run]
theorem HH:Extern.allGenericRows.lookup "slices.overlaps" =none:=by kernel_rfl
theorem C4:Extern.allTypedRows.lookup "slices.overlaps" =some Extern.SlicesOverlaps.overlaps:=by kernel_rfl
theorem JU{c:j6}{f:FuncId}{x y:Operand}(ho:o.op=.call c)(hcal:c.callee=.value (.func f))(hargs:c.args= #[x,y])(hf:FK P f=true)(hρf:ρ (.func f)=.func (.func f) #[] #[])
  (hI:Inv S K w0 Kn φ (au H) w) {tx ty:Option TV} (hx:∀z,tx=some z->dO S w Kn φ z (ρ x)) (hy:∀z,ty=some z->dO S w Kn φ z (ρ y))
  (h:bN call .LD [tx,ty] H nxt=some (v,u,ap,n')):ct P o ρ S K w0 w Kn φ (au H) nxt n' v u:=by
 match tx,ty,h,hx,hy with
 |some (.c xc),some (.c yc),h,hx,hy=>
  change (match tN xc yc H with|some ap=>some (lv (.bool false),([]:dD),ap,nxt)|none=>none)=_ at h;split at h
  .rename_i ids1 hl;obtain⟨rfl,rfl,rfl,rfl⟩:lv (.bool false)=v/\[]=u/\ids1=ap/\nxt=n':=by simpa using h
   unfold tN at hl;split at hl
   .rename_i sz1 a off1 len1 sz2 b off2 len2;split at hl
    .rename_i s1 rows1 s2 rows2 cp hoa hob;split at hl
     .rename_i hc;obtain⟨hne,hcp⟩:=hc;have hxr:=hx _ rfl;have hyr:=hy _ rfl;generalize hv0:ρ x=val at hxr;generalize hv1:ρ y=val1 at hyr;cases hxr with
      |c hxr=>
      cases hyr with
      |c hyr=>
      obtain⟨cap1,addr1,rfl,_⟩:=hxr.gQ;obtain⟨cap2,addr2,rfl,_⟩:=hyr.gQ;have hd:=hI.kJ a b _ _ hoa hob rfl rfl hne;obtain⟨_,h0⟩:=hI.fC _ _ hoa;obtain⟨_,h1⟩:=hI.fC _ _ hob;cases h0 with
      |@aH _ _ A _ _ _ _ hownA=>
      cases h1 with
      |@cap _ _ _ B hsz0 _ _ _ hownB hext hfit=>
      have hB0:B.size≠0:=by rw[hext];have:1*1<=cp*s2:=Nat.mul_le_mul hcp hsz0;omega
      unfold FK at hf;split at hf
      case h_2=>simp at hf
      rename_i fn hfn;simp only[ae,Option.isNone_iff_eq_none,Bool.not_eq_true',beq_iff_eq]at hf;obtain⟨⟨⟨⟨⟨⟨⟨f1,f2⟩,f3⟩,f4⟩,f5⟩,f6⟩,f7⟩,f8⟩:=hf;split at f8
      case h_2=>simp at f8
      rename_i t r hpar;split at f8
      case h_2=>simp at f8
      rename_i el hel;split at f8
      case h_2=>simp at f8
      rename_i n hsz;have hp0:fn.params[0]?=some t:=by rw[<-aU,hpar];rfl
      have hfind:Extern.find fn=some (Extern.SlicesOverlaps.overlaps fn.params fn.resultTypes):=by unfold Extern.find;simp only[f4,f5,f6,f7,HH,C4];rfl
      have hrun:=Ad (P:=P) (f:=f) hfn f1 (by rw[f2];rfl) f3 hfind #[.slice (some ⟨(φ a).bU,addr1,none⟩) len1 cap1,.slice (some ⟨(φ b).bU,addr2,none⟩) len2 cap2] w;rw[qF hp0 hel hsz hd hownA hownB hB0]at hrun;refine ct.pure hI (val:=.bool false) ?_ (.c (.d (.lit rfl)));simp only[execOp,ho,hcal,resolve,hargs,Deferred.ofValue,Sem.run_bind,Sem.run_pure,Result.andThen_ok,invoke,cu,aq,aR,hv0,hv1,hρf,Array.append_empty,Array.empty_append];simpa using hrun
     .simp at hl
    .simp at hl
   .simp at hl
  .simp at h
theorem Ag{n a m:Nat}{z:List Value}{zv:Value}{aH:Array Value}(hzv:zv.cells.toList=z)(hzl:z.length=n+1)(hzp:∀y∈z,ck y=true)(harr:aH=Builtin.zeroCells zv.cells m)(hle:a<=m):
  bS S w (n+1) (fun i=>aH[i]?) 0 (aw a (cn z)):=by
 have hsz:zv.cells.size=n+1:=by rw[<-hzl,<-hzv];simp
 have hl:aH.toList=(dz (m*(n+1))).map fun i=>z.getD (i %(n+1)) undef:=by rw[harr];unfold Builtin.zeroCells;rw[nN hzv hzl (b_ _),hsz]
 refine⟨fun i r hi=>?_,fun i r hi j x hj=>?_⟩
 .obtain ⟨_,rfl⟩:i<a/\cn z=r:=by
   rw[cF]at hi;split at hi
   .rename_i hlt;exact⟨hlt,aa hi⟩
   .simp at hi
  simp[cn,hzl]
 .obtain ⟨hlt,rfl⟩:i<a/\cn z=r:=by
   rw[cF]at hi;split at hi
   .rename_i hlt;exact⟨hlt,aa hi⟩
   .simp at hi
  simp only[cn,aB]at hj;obtain⟨y,hy,rfl⟩:=aG.1 hj;have hjl:j<n+1:=by rw[<-hzl];exact(ah.1 hy).1
  refine⟨y,?_,.lit (hzp y (aT hy))⟩;have hidx:i*(n+1)+j<m*(n+1):=by have:(i+1)*(n+1)<=m*(n+1):=aF _ (by omega);rw[cM]at this;omega
  show aH[0+i*(n+1)+j]?=some y;rw[<-aU,hl,bD,aB,gA hidx];have e1:(i*(n+1)+j) %(n+1)=j:=by rw[Nat.add_comm,Nat.add_mul_mod_self_right];exact Nat.mod_eq_of_lt hjl
  simp[e1,List.getD,hy]
theorem J1{c:j6}{s x:Operand}{st xt el:TypeId}{kd:IntKind}{n:Nat}{z:List Value}(ho:o.op=.call c)(hcal:c.callee=.builtin .append)(hargs:c.args= #[s,x])(hts:c.argTypes= #[st,xt])
  (hus:P.underlying st=some (.slice el)) (hux:P.underlying xt=some (.int kd)) (hsz:dN P el=some (n+1)) (hz:gr P el=some z) (hzl:z.length=n+1) (hby:ld P el=true)
  (hI:Inv S K w0 Kn φ (au H) w) (hn0:nxt<n'->¬Kn nxt) {ta tx:Option TV} (ha:∀y,ta=some y->dO S w Kn φ y (ρ s)) (hx:∀y,tx=some y->dO S w Kn φ y (ρ x))
  (h:bN call (.Me z) [ta,tx] H nxt=some (v,u,ap,n')):ct P o ρ S K w0 w Kn φ (au H) nxt n' v u:=by
 obtain⟨inf,hinf,hb0,hb1⟩:=oF hby;obtain⟨zv,hzr,hzv,hzp⟩:=kq hz w
 match ta,tx,h,ha,hx with
 |some (.c sc),some (.c (.d (.lit (.int k1 k)))),h,ha,hx=>
  change vu z sc k H nxt=_ at h;unfold vu at h;split at h
  case h_2=>simp at h
  rename_i sz' id off len;split at h
  case h_2=>simp at h
  rename_i szo rows cp hob;split at h
  case isFalse=>simp at h
  rename_i hc;obtain⟨e1,hk0,hlim,hvis,hcp⟩:=hc;rw[hzl]at e1;subst e1;simp only[yL]at hlim;obtain⟨rfl,rfl,rfl,rfl⟩:TV.c (.dq z.length nxt 0 (len+k.toNat))=v/\[(nxt,some (Ob.aH z.length ((rows.drop off).take len++aw k.toNat (cn z))))]=u/\[id]=ap/\nxt+1=n':=by simpa using h
  have hn:=hn0 (aS _);obtain⟨hvx,_⟩:=(hx _ rfl).lit;have hr:=ha _ rfl;generalize hv0:ρ s=val at hr;cases hr with
  |c hr=>
  obtain⟨_,h0⟩:=hI.fC _ _ hob;generalize hphi:φ id=l at*;cases h0 with
  |@cap _ _ _ aH hsz0 hl hS hK hown hext hfit hrr hvv hcc=>
  obtain⟨cap,addr,rfl,hszl,hk,hcap,haddr,hextc,hcl⟩:=hr.gQ;rw[hphi]at hv0 haddr hextc hszl hcl;have e2:szo=n+1:=by rw[<-hl,hszl]
  subst e2;rw[hl]at haddr;have hlt:cap<len+k.toNat:=by omega
  have hkp:0<k.toNat:=by omega
  have hlen:((rows.drop off).take len).length=len:=by simp;omega
  have hRc:bS S w (n+1) (fun i=>w.cell? ⟨l.bU,i,none⟩) addr ((rows.drop off).take len):=by have hR:=hrr.rE (addr:=addr) off len fun h=>haddr (by omega);exact⟨hR.1,fun i r hi j x hj=>let⟨y,hy,hd⟩:=hR.2 i r hi j x hj;⟨y,(hown.cell _).trans hy,hd⟩⟩
  obtain⟨old,hold,hos,hoR,hoone⟩:=mC (P:=P) (sz:=n+1) (b_ n) hRc;rw[hlen]at hold hos;have hinfo:∀w:World,(typeInfo el).run P w=.ok inf w:=fun w=>by simp[typeInfo,hinf]
  have hzr':∀w:World,(zeroValue el).run P w=.ok zv w:=by intro w';simp only[zeroValue,typeInfo,Sem.run_bind,run_program,Result.andThen_ok,hinf,Sem.run_pure]at hzr|-;cases hzz:inf.zero with|none=>rw[hzz]at hzr;simp at hzr|some q=>rw[hzz]at hzr;simp at hzr|-;exact hzr
  have hunx:∀w:World,(underlying xt).run P w=.ok (.int kd) w:=bp hux;have hwk:IntKind.i64.wrap k=k:=pu hk0 (by omega);have hkn:¬k<0:=by omega
  have hmul:k*(inf.bytes:Int)<=2147483648*16384:=Int.mul_le_mul (by omega) (by omega) (by omega) (by omega);have hbig:¬k*(inf.bytes:Int)>2^48:=by omega
  have hcapn:¬Builtin.nextslicecap (len+k.toNat) cap*inf.bytes>2^48:=by have h1:=Fb hlim hlt;have h2:Builtin.nextslicecap (len+k.toNat) cap*inf.bytes<=6442454016*16384:=Nat.mul_le_mul h1 hb1;omega
  have hbz:¬inf.bytes=0:=by omega
  have hnle:¬len+k.toNat<=cap:=by omega
  have hmx:¬(((len+k.toNat:Nat):Int)>IntKind.i64.max):=by have:IntKind.i64.max=9223372036854775807:=rfl;rw[this];omega
  have hns:¬k.toNat*(n+1)=0:=by have:1*1<=k.toNat*(n+1):=Nat.mul_le_mul hkp (by omega);omega
  have ho2:(Builtin.firstCells (n+1) len (.slice (some ⟨l.bU,addr,none⟩) len cap)).run P {w with drawn:=w.drawn+1}=.ok old {w with drawn:=w.drawn+1}:=hold {w with drawn:=w.drawn+1} rfl;have hzs:zv.cells.size=n+1:=by rw[<-hzl,<-hzv];simp
  have zsize:∀m,(Builtin.zeroCells zv.cells m).size=m*(n+1):=by intro m;simp[Builtin.zeroCells,hzs]
  have hnc:len+k.toNat<=(Question.appendCap (len+k.toNat) cap el).cut (w.tape w.drawn (.appendCap (len+k.toNat) cap el)):=by simp[Question.cut]
  have hrun:(execOp ρ o).run P w=.ok (.value (.slice (some ⟨w.heap.size,0,none⟩) (len+k.toNat) ((Question.appendCap (len+k.toNat) cap el).cut (w.tape w.drawn (.appendCap (len+k.toNat) cap el)))))
    {({w with drawn:=w.drawn+1}:World)with heap:=w.heap.push (.cells (old++Builtin.zeroCells zv.cells k.toNat++Builtin.zeroCells zv.cells ((Question.appendCap (len+k.toNat) cap el).cut (w.tape w.drawn (.appendCap (len+k.toNat) cap el))-(len+k.toNat))) el)}:=by
   simp only[execOp,ho,hcal,resolve,hargs,Sem.run_bind,Sem.run_pure,Result.andThen_ok,invoke,builtin,Builtin.append_,hts,cu,aq,aR,hv0,hvx,bz,
    bF,ce,bp hus,eK hsz,hunx,qH (n:=k) (k:=k1) rfl,hwk,hkn,if_false,hinfo,hbig,hnle,hmx,false_and,hcapn,if_true,hns,run_choose,Question.forced,run_askRoom,ho2,hzr',newRow,run_newObj,Bool.not_true,aM]
  generalize hcv:(Question.appendCap (len+k.toNat) cap el).cut (w.tape w.drawn (.appendCap (len+k.toNat) cap el))=newCap at*;refine⟨.value _,_,_,hrun,.inl rfl,?_⟩
  have hD:=hO.aH (K:=K) (w0:=w0) (hI.pf (w.drawn+1) (bg _)) hn (sz:=n+1) (cap:=newCap) (aH:=old++Builtin.zeroCells zv.cells k.toNat++Builtin.zeroCells zv.cells (newCap-(len+k.toNat))) (rows:=(rows.drop off).take len++aw k.toNat (cn z)) el (b_ n)
   (by rw[aZ,hlen,cD];exact hnc)
   (by simp only[fh,hos,zsize];rw[<-bv,<-bv];exact aF _ (by omega))
   (bS.mono (eM.pf S w _) (by
    refine lS ⟨hoR.1,fun i r hi j x hj=>?_⟩ ?_
    .obtain ⟨y,hy,hr⟩:=hoR.2 i r hi j x hj;refine⟨y,?_,hr⟩;have hlt:=(aP.1 hy).1;show(old++_++_)[_]?=_;rw[bY (by rw[fh];omega),bY hlt];exact hy
    .have hz2:=Ag (S:=S) (w:=w) (a:=k.toNat) (m:=k.toNat) hzv hzl hzp rfl (ak _);refine⟨hz2.1,fun i r hi j x hj=>?_⟩;obtain⟨y,hy,hr⟩:=hz2.2 i r hi j x hj;refine⟨y,?_,hr⟩;have hlt:=(aP.1 hy).1;show(old++_++_)[_]?=_;rw[hlen,bY (by rw[fh,hos];omega),Array.getElem?_append_right (by rw[hos];omega)];rw[<-hy,hos];show(Builtin.zeroCells zv.cells k.toNat)[_]?=(Builtin.zeroCells zv.cells k.toNat)[_]?;congr 1;omega))
  rw[aZ,hlen,cD]at hD;rw[hzl];obtain⟨a1,S',φ',a2,a3,a4,a5⟩:=hD;exact⟨a1,S',φ',(eM.pf S w _).trans a2,a3,a4,a5⟩
end
end Go.Ev
