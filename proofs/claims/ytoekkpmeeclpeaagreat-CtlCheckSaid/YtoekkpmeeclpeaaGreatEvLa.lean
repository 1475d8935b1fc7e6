/- Comparisons of plain cells, and maps: the model's operations against the abstract machine's. Conditions: the relation of XEvC. -/
import Derived.Test.YtoekkpmeeclpeaaGreatEvL
import Derived.ChangeKeysEq
import Derived.WideKeyRuns
open Array renaming getElem?_eq_some_iff->bq,getElem?_toList->cO,length_toList->jM,size_append->jD
open Bool renaming and_eq_true->ak,false_eq_true->bD
open Go renaming Call->oc
open List renaming drop_drop->eJ,getElem?_append_left->bG,getElem?_append_right->ck,getElem?_cons_succ->cN,getElem?_cons_zero->bP,getElem?_map->aN,getElem?_replicate->ic,getElem?_toArray->bK,getElem_of_mem->b_,headD_cons->cF,length_append->ap,length_drop->cE,length_eq_one_iff->eg,length_eq_zero_iff->aO,map_cons->aK,map_nil->aZ,map_toArray->c9,mem_cons->aW,mem_of_getElem?->aF,range->bm,replicate->aj,size_toArray->ia
open Nat renaming add_mul->bA,add_zero->fy,le_refl->am,le_succ->bn,lt_succ_self->aQ,mod_eq_of_lt->iQ,mul_le_mul_right->az,succ_mul->dJ,succ_pos->cL,zero_add->bS,zero_le->cY,zero_mul->jz
open Option renaming bind_eq_some_iff->fZ,map_eq_some_iff->aH,map_some->gF
open Option.some renaming inj->aa,injEq->eY
open Prod.mk renaming inj->af
namespace Go.Ev
section
variable{P:Program}{S K:Nat->Prop}{w0 w:World}{Kn:Nat->Prop}{φ:Nat->gj}{H:bp}{e:jk}{ρ:Operand->Value}{o:Oper}{call:Call}
 {nxt n':Nat} {v:TV} {u:eW} {av:List Nat}
def ua(ag:Bool)(xs:List Value):Value:=if ag then .agg xs.toArray else xs.headD undef
theorem vF:∀(d:Nat)(t:TypeId)(ks:List Kd),Bm P d t=some ks->fw P t=some ks.length/\∃ag,fJ P t=some ag/\(ag=false->ks.length=1):=by
 intro d t ks h;cases d with
 |zero=>simp[Bm]at h
 |succ d=>
  unfold Bm at h;split at h
  .rename_i hu;split at h
   .rename_i hs;obtain rfl:=aa h;exact⟨hs,false,by simp[fJ,hu],fun _=>rfl⟩
   .simp at h
  .rename_i hu;split at h
   .rename_i hs;obtain rfl:=aa h;exact⟨hs,false,by simp[fJ,hu],fun _=>rfl⟩
   .simp at h
  .rename_i hu;split at h
   .rename_i hs;obtain rfl:=aa h;exact⟨hs,false,by simp[fJ,hu],fun _=>rfl⟩
   .simp at h
  .split at h
   .split at h
    .obtain rfl:=aa h;simp_all[fJ]
    .simp at h
   .simp at h
  .split at h
   .split at h
    .obtain rfl:=aa h;simp_all[fJ]
    .simp at h
   .simp at h
  .simp at h
theorem Ih{t:TypeId}{n:Nat}(h:fw P t=some n):P.cellsOf t=n:=by simp only[fw]at h;simp[Program.cellsOf,h]
theorem Qh{t:TypeId}{n:Nat}(h:fw P t=some n):∃i,P.info? t=some i:=by
 grind [fw,aH]
theorem pW{t:TypeId}{n:Nat}{ag:Bool}(hn:fw P t=some n)(ha:fJ P t=some ag)(h1:ag=false->n=1){xs:List Value}{off:Nat}(hfit:off+n<=xs.length)(w:World):
  (part t xs.toArray off).run P w=.ok (ua ag ((xs.drop off).take n)) w:=by
 cases ag with
 |true=>simp only[part,Sem.run_bind,uL ha,Result.andThen_ok,if_true,gG hn,ua];simp_all
 |false=>
  obtain rfl:=h1 rfl;have hlt:off<xs.length:=by omega
  have e1:(xs.drop off).take 1=[xs[off]]:=by rw[List.drop_eq_getElem_cons hlt];rfl
  simp_all[part,uL,ua]
theorem lN:∀{ks:List Kd}{xs ys:List Value}{b:Bool},ge ks xs ys=some b->xs.length=ks.length/\ys.length=ks.length:=by
 intro ks;induction ks with
 |nil=>intro xs ys b h;cases xs<;>cases ys<;>simp_all[ge]
 |cons k ks ih=>
  intro xs ys b h;cases xs with
  |nil=>simp[ge]at h
  |cons x xs=>cases ys with|nil=>simp[ge]at h|cons y ys=>grind [ge]
theorem F1:∀{ks ls:List Kd}{xs ys:List Value}{b:Bool},ge (ks++ls) xs ys=some b->
  ∃b1 b2,ge ks (xs.take ks.length) (ys.take ks.length)=some b1/\ge ls (xs.drop ks.length) (ys.drop ks.length)=some b2/\b=(b1&&b2):=by
 intro ks;induction ks with
 |nil=>grind [ge]
 |cons k ks ih=>
  intro ls xs ys b h;cases xs with
  |nil=>simp[ge]at h
  |cons x xs=>
   cases ys with
   |nil=>simp[ge]at h
   |cons y ys=>
    simp[ge]at h;split at h
    .grind [ge,Bool.and_assoc]
    .simp at h
theorem OB{a b:ByteArray}(h:(a==b)=true):a=b:=by
 obtain⟨x⟩:=a;obtain⟨y⟩:=b;have e:=by simpa using(show(x==y)=true from h)
 rw[e]
theorem Tk{k:Kd}{x y:Value}(h:D6 k x y=some true):x=y:=by
 unfold D6 at h;split at h
 .simp_all
 .simp_all
 .have:=OB (aa h);rw[this]
 .simp at h
theorem Qx:∀{ks:List Kd}{xs ys:List Value},ge ks xs ys=some true->xs=ys:=by
 intro ks;induction ks with
 |nil=>intro xs ys h;cases xs<;>cases ys<;>simp_all[ge]
 |cons k ks ih=>
  intro xs ys h;cases xs with
  |nil=>simp[ge]at h
  |cons x xs=>
   cases ys with
   |nil=>simp[ge]at h
   |cons y ys=>
    simp[ge]at h;split at h
    .rename_i a c ha hc;have h2:=aa h;rw[ak]at h2;obtain⟨rfl,rfl⟩:=h2;rw[Tk ha,ih hc]
    .simp at h
def T3(P:Program)(D:Nat)(t:TypeId)(ks:List Kd)(ag:Bool):Prop:=∀(xs ys:List Value)(b:Bool)(w:World),ge ks xs ys=some b->(Op.equalIn D t (ua ag xs) (ua ag ys)).run P w=.ok b w
theorem Br{D d:Nat}(w:World)(ih:∀(t:TypeId)(ks:List Kd),Bm P d t=some ks->∀ag,fJ P t=some ag->T3 P D t ks ag)(xs ys:List Value):
  ∀(fs:List Field)(off:Nat)(ks:List Kd)(b:Bool),R0 P (Bm P d) fs off=some ks->off<=xs.length->off<=ys.length->ge ks (xs.drop off) (ys.drop off)=some b->(Op.eqFields D xs.toArray ys.toArray fs).run P w=.ok b w:=by
 intro fs;induction fs with
 |nil=>
  intro off ks b h _ _ he;obtain rfl:[]=ks:=by simpa[R0]using h
  obtain⟨h1,h2⟩:=lN he;rw[aO.1 h1,aO.1 h2]at he;obtain rfl:true=b:=by simpa[ge]using he
  simp[Op.eqFields]
 |cons f fs ihf=>
  intro off ks b h o1 o2 he;simp only[R0]at h;split at h
  .rename_i hc;obtain⟨hoff,hname⟩:=hc;split at h
   .rename_i k1 hk1;split at h
    .rename_i hsz;split at h
     .rename_i l hl;obtain rfl:=aa h;obtain⟨_,ag,hag,hone⟩:=vF d f.type k1 hk1;obtain⟨l1,l2⟩:=lN he;rw[cE,ap]at l1 l2;obtain⟨b1,b2,h1,h2,rfl⟩:=F1 he;have hfit1:f.offset+k1.length<=xs.length:=by omega
      have hfit2:f.offset+k1.length<=ys.length:=by omega
      have p1:=pW hsz hag hone hfit1;have p2:=pW hsz hag hone hfit2;rw[hoff]at p1 p2;have p3:=ih f.type k1 hk1 ag hag _ _ b1 w h1;have p4:=ihf _ l b2 hl (by omega) (by omega) (by simp_all);simp[Op.eqFields,hname,ne_eq,not_false_eq_true,if_true,Sem.run_bind,hoff,p1,p2,p3,Result.andThen_ok];cases b1
      .simp
      .simpa using p4
     .simp at h
    .simp at h
   .simp at h
  .simp at h
theorem C0{D:Nat}{t:TypeId}{ks:List Kd}{ag:Bool}(w:World)(hn:fw P t=some ks.length)(ha:fJ P t=some ag)(h1:ag=false->ks.length=1)(ih:T3 P D t ks ag)(xs ys:List Value):
  ∀(n i:Nat)(b:Bool),i*ks.length<=xs.length->i*ks.length<=ys.length->ge (aj n ks).flatten (xs.drop (i*ks.length)) (ys.drop (i*ks.length))=some b->
   (Op.eqItems D t ks.length xs.toArray ys.toArray (List.range' i n)).run P w=.ok b w:=by
 intro n;induction n with
 |zero=>
  intro i b _ _ he;obtain⟨h1,h2⟩:=lN he;rw[aO.1 h1,aO.1 h2]at he;obtain rfl:true=b:=by simpa[ge]using he
  simp[Op.eqItems]
 |succ n ihn=>
  intro i b o1 o2 he;rw[List.replicate_succ,List.flatten_cons]at he;obtain⟨l1,l2⟩:=lN he;rw[cE,ap]at l1 l2;obtain⟨b1,b2,q1,q2,rfl⟩:=F1 he;have e1:(i+1)*ks.length=i*ks.length+ks.length:=dJ ..;have p1:=pW hn ha h1 (xs:=xs) (off:=i*ks.length) (by omega);have p2:=pW hn ha h1 (xs:=ys) (off:=i*ks.length) (by omega);have p3:=ih _ _ b1 w q1;rw[eJ,eJ,<-e1]at q2;have p4:=ihn _ b2 (by omega) (by omega) q2;rw[List.range'_succ];simp[Op.eqItems,Sem.run_bind,p1,p2,p3,Result.andThen_ok];cases b1
  .simp
  .simpa using p4
theorem IM(k:Nat):∀(d:Nat)(t:TypeId)(ks:List Kd),Bm P d t=some ks->∀ag,fJ P t=some ag->T3 P (d+k) t ks ag:=by
 intro d;induction d with
 |zero=>intro t ks h;simp[Bm]at h
 |succ d ih=>
  intro t ks h ag hag xs ys b w he;rw[show d+1+k=(d+k)+1 by omega]
  have one:∀{q:Kd},P.underlying t≠none->ks=[q]->ag=false->∃x y,xs=[x]/\ys=[y]/\D6 q x y=some b:=by
   rintro q _ rfl _;obtain⟨l1,l2⟩:=lN he;obtain⟨x,rfl⟩:=eg.1 l1;obtain⟨y,rfl⟩:=eg.1 l2;refine⟨x,y,rfl,rfl,?_⟩;simp only[ge]at he
   grind
  unfold Bm at h;split at h
  .rename_i hu;have hg:ag=false:=by simpa[fJ,hu]using hag.symm
   split at h
   .obtain ⟨x,y,rfl,rfl,hk⟩:=one (q:=.b) (by simp[hu]) (aa h).symm hg;subst hg;unfold D6 at hk;split at hk<;>first|(simp_all;done)|skip
    obtain rfl:=aa hk;exact run_equalIn_bool w _ _ _ _ hu
   .simp at h
  .rename_i q0 hu;have hg:ag=false:=by simpa[fJ,hu]using hag.symm
   split at h
   .obtain ⟨x,y,rfl,rfl,hk⟩:=one (q:=.i q0) (by simp[hu]) (aa h).symm hg;subst hg;unfold D6 at hk;split at hk<;>first|(simp_all;done)|skip
    split at hk
    .rename_i hkk;obtain⟨rfl,rfl⟩:=hkk;obtain rfl:=aa hk;exact run_equalIn_int w _ _ _ _ _ _ hu
    .simp at hk
   .simp at h
  .rename_i hu;have hg:ag=false:=by simpa[fJ,hu]using hag.symm
   split at h
   .obtain ⟨x,y,rfl,rfl,hk⟩:=one (q:=.s) (by simp[hu]) (aa h).symm hg;subst hg;simp only[ua,bD,if_false,cF];unfold D6 at hk;split at hk<;>first|(simp_all;done)|skip
    obtain rfl:=aa hk
    grind [beq_toListBytes,run_equalIn_string]
   .simp at h
  .rename_i n el hu;have hg:ag=true:=by simpa[fJ,hu]using hag.symm
   subst hg;split at h
   .split at h
    .rename_i k1 hk1 hs;obtain rfl:=aa h;obtain⟨_,ag1,hag1,hone⟩:=vF d el k1 hk1;obtain⟨i,hi⟩:=Qh hs.1;simp only[ua,if_true];rw[run_equalIn_array w _ _ _ hu hi,Ih hs.1,List.range_eq_range']
     grind [C0]
    .simp at h
   .simp at h
  .rename_i fs hu;have hg:ag=true:=by simpa[fJ,hu]using hag.symm
   subst hg;split at h
   .split at h
    .rename_i k1 hk1 hs;obtain rfl:=aa h;simp only[ua,if_true];have hf:P.fieldsOf t=fs:=by simp[Program.fieldsOf,hu]
     rw[run_equalIn_struct w _ _ _ _ (by rw[hf];exact hu) hs.1,hf];exact Br w (fun t ks h ag hag=>ih t ks h ag hag) xs ys fs.toList 0 _ b hk1 (cY _) (cY _) (by simpa using he)
    .simp at h
   .simp at h
  .simp at h
def Q6(P:Program)(em:Bool)(D:Nat)(t:TypeId)(n:Nat)(ag:Bool):Prop:=∀(xs:List Value)(w:World),xs.length=n->(Instr.checkKey em D t (ua ag xs)).run P w=.ok () w
theorem ov(em:Bool)(k:Nat):∀(d:Nat)(t:TypeId)(ks:List Kd),Bm P d t=some ks->∀ag,fJ P t=some ag->Q6 P em (d+k) t ks.length ag:=by
 intro d;induction d with
 |zero=>intro t ks h;simp[Bm]at h
 |succ d ih=>
  intro t ks h ag hag xs w hl;rw[show d+1+k=(d+k)+1 by omega];unfold Bm at h;rw[Instr.checkKey];split at h
  .simp_all [Sem.run_bind,bz,Result.andThen_ok]
  .simp_all [Sem.run_bind,bz,Result.andThen_ok]
  .simp_all [Sem.run_bind,bz,Result.andThen_ok]
  .rename_i n el hu;have hg:ag=true:=by simpa[fJ,hu]using hag.symm
   subst hg;split at h
   .split at h
    .rename_i k1 hk1 hs;obtain rfl:=aa h;obtain⟨_,ag1,hag1,hone⟩:=vF d el k1 hk1;have hl2:xs.length=n*k1.length:=by rw[hl];simp[List.length_flatten]
     simp only[ua,if_true,Sem.run_bind,bz hu,Result.andThen_ok];simp only[Std.Legacy.Range.forIn_eq_forIn_range',Std.Legacy.Range.size,Nat.sub_zero,Nat.add_one_sub_one,Nat.div_one]
     have each:∀i∈List.range' 0 n,i*k1.length+k1.length<=xs.length:=fun i hi=>by
      have hi':i<n:=by simpa using hi
      rw[hl2,<-dJ];exact az _ hi'
     generalize List.range' 0 n=is at each;induction is with|nil=>simp|cons j is ihj=>have p1:=pW (w:=w) hs.1 hag1 hone (xs:=xs) (off:=j*k1.length) (each j (by simp));have p2:=ih el k1 hk1 ag1 hag1 ((xs.drop (j*k1.length)).take k1.length) w (by rw[List.length_take,cE];have:=each j (by simp);omega);simp_all[List.forIn_cons,Sem.run_bind,gG,Result.andThen_ok,Sem.run_pure]
    .simp at h
   .simp at h
  .rename_i fs hu;have hg:ag=true:=by simpa[fJ,hu]using hag.symm
   subst hg;split at h
   .split at h
    .rename_i k1 hk1 hs;obtain rfl:=aa h;simp only[ua,if_true,Sem.run_bind,bz hu,Result.andThen_ok];rw[<-Array.forIn_toList]
     have main:∀(L:List Field)(off:Nat)(l:List Kd),R0 P (Bm P d) L off=some l->off+l.length=xs.length->
       (forIn L PUnit.unit (fun f r=>if f.name≠ "_" then do Instr.checkKey em (d+k) f.type (<-part f.type xs.toArray f.offset);pure (ForInStep.yield PUnit.unit)else pure (ForInStep.yield PUnit.unit)):Sem PUnit).run P w=.ok PUnit.unit w:=by
      intro L;induction L with
      |nil=>intro off l _ _;simp
      |cons f L ihL=>
       intro off l h ho;simp only[R0]at h;split at h
       .rename_i hc;obtain⟨hoff,hname⟩:=hc;split at h
        .rename_i k1 hk1;split at h
         .rename_i hsz;split at h
          .rename_i l1 hl1;obtain rfl:=aa h;rw[ap]at ho;obtain⟨_,ag1,hag1,hone⟩:=vF d f.type k1 hk1;have p1:=pW (w:=w) hsz hag1 hone (xs:=xs) (off:=f.offset) (by omega);have p2:=ih f.type k1 hk1 ag1 hag1 ((xs.drop f.offset).take k1.length) w (by grind);simp only[List.forIn_cons,Sem.run_bind,hname,ne_eq,not_false_eq_true,if_true,Result.andThen_ok,p1,p2,Sem.run_pure]
           grind
          .simp at h
         .simp at h
        .simp at h
       .simp at h
     rw[main fs.toList 0 _ hk1 (by omega)];rfl
    .simp at h
   .simp at h
  .simp at h
theorem uP:∀{cs:List C}{l:List Value},mn cs=some l->cs=eS l:=by
 intro cs;induction cs with
 |nil=>
  intro l h;obtain rfl:[]=l:=by simpa[mn]using h
  rfl
 |cons c cs ih=>
  intro l h;unfold mn at h;split at h
  .simp_all
  .rename_i v0 r0 he;obtain⟨rfl,rfl⟩:=List.cons.inj he;split at h
   .rename_i l1 hl;obtain rfl:=aa h;rw[ih hl];rfl
   .simp at h
  .simp at h
theorem HL:∀{ks:List Kd}{l:List Value},zt ks l=true->∀x∈l,SY x=false
 |[],[],_,x,hx=>by cases hx
 |[],_::_,h,_,_=>by cases h
 |_::_,[],h,_,_=>by cases h
 |k::ks,y::l,h,x,hx=>by
  rw[zt,ak]at h;rcases aW.1 hx with rfl|hx
  .cases k<;>cases x<;>first|rfl|exact absurd h.1 (by simp[KW])
  .exact HL h.2 x hx
theorem DG:∀{ks:List Kd}{l m:List Value}{b:Bool},ge ks l m=some b->(∀x∈l,SY x=false)/\∀x∈m,SY x=false
 |[],[],[],_,_=>⟨fun _ hx=>(by cases hx),fun _ hx=>(by cases hx)⟩
 |[],[],_::_,_,h=>by cases h
 |[],_::_,_,_,h=>by cases h
 |_::_,[],_,_,h=>by cases h
 |_::_,_::_,[],_,h=>by cases h
 |k::ks,y::l,z::m,b,h=>by
  rw[ge]at h;split at h
  .rename_i b1 b2 h1 h2;have ih:=DG h2;refine⟨fun x hx=>?_,fun x hx=>?_⟩
   .rcases aW.1 hx with rfl|hx
    .cases k<;>cases x<;>first|rfl|exact absurd h1 (by simp[D6])
    .exact ih.1 x hx
   .rcases aW.1 hx with rfl|hx
    .cases k<;>cases x<;>first|rfl|(cases y<;>exact absurd h1 (by simp[D6]))
    .exact ih.2 x hx
  .cases h
theorem Aw{l:List Value}{aG:Array Value}(hnf:∀x∈l,SY x=false)(hlen:(eS l).length=aG.size)(h:∀(i:Nat)(x:C),(eS l)[i]?=some x->RC S w Kn φ x (aG.getD i undef)):
  aG=l.toArray/\∀x∈l,ez x=true:=by
 have key:∀(i:Nat)(x:Value),l[i]?=some x->aG.getD i undef=x/\ez x=true:=by
  intro i x hi;have:=h i (.d (.lit x)) (by simp[eS,hi]);cases this with
  |d hd=>generalize hv:aG.getD i undef=v0 at hd;cases hd with|lit hp=>exact⟨rfl,hp⟩|nan=>exact absurd (hnf _ (aF hi)) (by simp[SY])|ex=>exact absurd (hnf _ (aF hi)) (by simp[SY])
 constructor
 .apply Array.ext
  .simpa [eS]using hlen.symm
  .intro i h1 h2;have h3:=by simpa using h2
   have:=(key i l[i] (by simp)).1;simp_all
 .intro x hx;obtain⟨i,hi,rfl⟩:=b_ hx;exact(key i _ (by simp)).2
theorem rO{cs:List C}{ks:List Kd}{key:List Value}(h:(match mn cs with|some l=>if zt ks l=true then some l else none|none=>none)=some key):mn cs=some key/\zt ks key=true:=by
 grind
theorem nf{ka:Bool}{ks:List Kd}{k:TV}{key:List Value}{val:Value}(h:ng ka ks k=some key)(hr:fz S w Kn φ k val):val=ua ka key/\key.length=ks.length/\DV ka key val:=by
 cases k with
 |agg cs=>
  simp only[ng]at h;split at h
  .rename_i hc;obtain⟨rfl,hcl⟩:=hc;obtain rfl:=uP (rO h).1;cases hr with|agg hlen hr=>obtain⟨rfl,hp⟩:=Aw (HL (rO h).2) hlen hr;exact⟨by simp[ua],by simpa[eS]using hcl,hp,by simp⟩
  .simp at h
 |c x=>
  simp only[ng]at h;split at h
  .rename_i hc;obtain⟨rfl,hcl⟩:=hc;have hko:=(rO h).2;have:=uP (rO h).1;cases key with
   |nil=>simp[eS]at this
   |cons y r=>
    cases r with
    |nil=>
     obtain rfl:x=.d _:=by simpa[eS]using this
     obtain⟨rfl,hp⟩:=hr.lit (HL hko y (.head _));exact⟨by simp[ua],by simp[hcl],by simpa using hp,by simp⟩
    |cons z r=>simp[eS]at this
  .simp at h
 |gX xs=>simp[ng]at h
theorem DV.ua{ka:Bool}{k:List Value}{v:Value}(h:DV ka k v):v=Ev.ua ka k:=by obtain⟨_,h⟩:=h;cases ka with|true=>simpa|false=>simp_all[Ev.ua]
def pp(S:Nat->Prop)(w:World)(ka va:Bool)(es:List r_)(ms:List MapEntry):Prop:=es.length=ms.length/\∀(i:Nat)(e:r_)(m:MapEntry),es[i]?=some e->ms[i]?=some m->DV ka e.1 m.key/\tG S w va e.2.1 m.val/\m.born=e.2.2
theorem pp.tail{ka va:Bool}{e:r_}{es:List r_}{m:MapEntry}{ms:List MapEntry}(h:pp S w ka va (e::es) (m::ms)):pp S w ka va es ms:=⟨by simpa using h.1,fun i e m hi hm=>h.2 (i+1) e m (by simpa using hi) (by simpa using hm)⟩
theorem G2{t:TypeId}{ks:List Kd}{ka va:Bool}{key:List Value}(hk:Bm P 8 t=some ks)(hag:fJ P t=some ka):∀(es:List r_)(ms:List MapEntry)(i:Nat)(r:Option Nat),
  pp S w ka va es ms->mE ks key es i=some r->
   (Instr.findAsking t (ua ka key) ms i).run P w=.ok (r.map fun j=>(j,(ms.getD (j-i) default).val)) w/\
   (ka=false->∀d,P.underlying t=some d->Instr.findNow d (ua ka key) ms i=some (r.map fun j=>(j,(ms.getD (j-i) default).val)))/\
   ∀j,r=some j->i<=j/\j-i<ms.length/\key=(es.getD (j-i) default).1:=by
 intro es;induction es with
 |nil=>
  intro ms i r hE h;obtain rfl:none=r:=by simpa[mE]using h
  obtain rfl:ms=[]:=aO.1 hE.1.symm;exact⟨by simp[Instr.findAsking],fun _ _ _=>rfl,fun j hj=>by simp at hj⟩
 |cons e es ih=>
  intro ms i r hE h;cases ms with
  |nil=>exact absurd hE.1 (by simp)
  |cons m ms=>
   obtain⟨h1,_,_⟩:=hE.2 0 e m rfl rfl;have hmk:=h1.ua;simp only[mE]at h;have heq:∀b,ge ks key e.1=some b->(Op.equal t (ua ka key) m.key).run P w=.ok b w:=fun b hb=>by rw[hmk,um];exact IM 9992 8 t ks hk ka hag key e.1 b w hb
   have hnow:∀b,ge ks key e.1=some b->ka=false->∀d,P.underlying t=some d->Instr.sameNow d (ua ka key) m.key=some b:=by
    intro b hb hka d hd;rw[hmk];subst hka;obtain⟨_,ag,hag',hone⟩:=vF 8 t ks hk;obtain rfl:false=ag:=aa (hag.symm.trans hag');obtain⟨l1,l2⟩:=lN hb;obtain⟨q,rfl⟩:=eg.1 (hone rfl);obtain⟨x,rfl⟩:=eg.1 l1;obtain⟨y,hy⟩:=eg.1 l2;rw[hy]at hb|-
    have hb':D6 q x y=some b:=by
     simp only[ge]at hb;split at hb
     .rename_i a c ha hc;obtain rfl:=aa hc;rw[ha];simpa using hb
     .simp at hb
    simp only[ua,bD,if_false,cF];unfold Bm at hk;rw[hd]at hk;unfold D6 at hb';simp only[fJ,hd,gF,eY]at hag;cases d<;>simp at hk hag
    all_goals
     obtain⟨_,hq⟩:=hk;subst hq;split at hb'<;>simp_all[Instr.sameNow]
   split at h
   .rename_i hb;obtain rfl:=aa h;refine⟨by simp[Instr.findAsking,heq true hb],fun hka d hd=>by simp[Instr.findNow,hnow true hb hka d hd],fun j hj=>?_⟩;obtain rfl:i=j:=aa hj;exact⟨am _,by simp,by simpa using Qx hb⟩
   .rename_i hb;obtain⟨a1,a2,a3⟩:=ih ms (i+1) r hE.tail h
    have hsh:(r.map fun j=>(j,(ms.getD (j-(i+1)) default).val))=r.map fun j=>(j,((m::ms).getD (j-i) default).val):=by
     cases r with
     |none=>rfl
     |some j=>
      have:=(a3 j rfl).1;have e1:j-i=(j-(i+1))+1:=by omega
      simp only[gF,e1,List.getD_cons_succ]
    refine⟨?_,fun hka d hd=>?_,fun j hj=>?_⟩
    .simp only[Instr.findAsking,Sem.run_bind,heq false hb,Result.andThen_ok,bD,if_false];rw[a1,hsh]
    .simp only[Instr.findNow,hnow false hb hka d hd];rw[a2 hka d hd,hsh]
    .obtain ⟨b1,b2,b3⟩:=a3 j hj;have e1:j-i=(j-(i+1))+1:=by omega
     exact⟨by omega,by rw[e1];simp;omega,by rw[b3,e1];simp⟩
   .simp at h
theorem lS{t:TypeId}{ks:List Kd}{ka va:Bool}{key:List Value}(hk:Bm P 8 t=some ks)(hag:fJ P t=some ka){es:List r_}{ms:List MapEntry}{r:Option Nat}
  (hE:pp S w ka va es ms) (h:mE ks key es 0=some r):
  (Instr.findKey t (ua ka key) ms).run P w=.ok (r.map fun j=>(j,(ms.getD j default).val)) w/\∀j,r=some j->j<ms.length/\key=(es.getD j default).1:=by
 obtain⟨h1,h2,h3⟩:=G2 hk hag es ms 0 r hE h;refine⟨?_,fun j hj=>let⟨_,a,b⟩:=h3 j hj;⟨by simpa using a,by simpa using b⟩⟩;cases ka with
 |true=>
  rw[run_findKey_eq]
  .simpa using h1
  grind [fJ,aH]
 |false=>simp[fJ]at hag;obtain⟨d,hd,_⟩:=hag;simp_all[Instr.findKey,bz]
theorem oS{va:Bool}{ds:List D}{tv:TV}{v:Value}(h:qE va ds=some tv)(hr:tG S w va ds v):fz S w Kn φ tv v:=by
 unfold qE at h;cases va with
 |true=>obtain rfl:=aa h;obtain⟨aG,rfl,h1,h2⟩:=hr;refine .agg (by simpa using h1) fun i x hi=>?_;rw[aN]at hi;obtain⟨d,hd,rfl⟩:=aH.1 hi;exact .d (h2 i d hd)
 |false=>
  obtain⟨x,rfl,h1⟩:=hr;obtain rfl:TV.c _=tv:=by simpa using h
  exact .c (.d h1)
theorem xI{t:TypeId}{z:List Value}{va:Bool}{tv:TV}(hz:jE P t=some z)(ha:GC P t=some va)(h:qE va (dj z)=some tv)(w:World):
  ∃v,(zeroValue t).run P w=.ok v w/\tG S w va (dj z) v:=by
 simp only[jE]at hz;split at hz
 .rename_i v hv;split at hz
  .rename_i hp;obtain rfl:=aa hz;obtain⟨i,hi,hz⟩:=fZ.1 hv;refine⟨v,by simp[zeroValue,typeInfo,hi,hz],?_⟩;have hpl:=fun x hx=>List.all_eq_true.1 hp x hx;simp[GC,hv]at ha;cases v with
   |agg aG=>
    obtain rfl:true=va:=by simpa using ha
    refine⟨aG,rfl,by simp[dj,Value.cells],fun i x hi=>?_⟩;simp only[dj,aN,Value.cells]at hi;obtain⟨y,hy,rfl⟩:=aH.1 hi;have e:aG.getD i undef=y:=by simp_all
    rw[e];exact .lit (hpl y (aF hy))
   |_=>
    obtain rfl:false=va:=by simpa using ha
    exact⟨_,rfl,.lit (hpl _ (by simp[Value.cells]))⟩
  .simp at hz
 .simp at hz
theorem E9{t ty:TypeId}{op:BinOp}{x y:Operand}{ks:List Kd}(ho:o.op=.binOp op t x y ty)(hop:op=.eql\/op=.neq)(hk:Bm P 8 t=some ks)(hag:fJ P t=some true)
  (hg:P.eqGuardType P.depth t=false) (hI:Inv S K w0 Kn φ (au H) w) {tx ty':Option TV} (hx:∀y,tx=some y->fz S w Kn φ y (ρ x)) (hy:∀z,ty'=some z->fz S w Kn φ z (ρ y))
  (h:ci call (.AO (op==.neq) ks) [tx,ty'] H nxt=some (v,u,av,n')):cX P o ρ S K w0 w Kn φ (au H) nxt n' v u:=by
 match tx,ty',h,hx,hy with
 |some (.agg xs),some (.agg ys),h,hx,hy=>
  change (match mn xs,mn ys with
   |some xs,some ys=>(match ge ks xs ys with|some b=>some (lv _,([]:eW),([]:List Nat),nxt)|none=>none)
   |_,_=>none)=_ at h
  split at h
  .rename_i xs1 ys1 e1 e2;split at h
   .rename_i b hb;obtain⟨rfl,rfl,rfl,rfl⟩:lv _=v/\[]=u/\[]=av/\nxt=n':=by simpa using h
    obtain rfl:=uP e1;obtain rfl:=uP e2;have h1:=hx _ rfl;have h2:=hy _ rfl;generalize hv1:ρ x=v1 at h1;generalize hv2:ρ y=v2 at h2;cases h1 with
    |agg l1 h1=>cases h2 with|agg l2 h2=>obtain⟨rfl,_⟩:=Aw (DG hb).1 l1 h1;obtain⟨rfl,_⟩:=Aw (DG hb).2 l2 h2;refine cX.pure hI ?_ (.rq rfl);have he:=IM 9992 8 t ks hk true hag xs1 ys1 b w hb;have hc:=sD (w:=w) hop (t:=t) (b:=b) x y rfl rfl (run_eqGuard_agg w op t x y _ _ hg) (by simpa);simp only[execOp,ho,Sem.run_bind,hv1,hv2];simp_all
   .simp at h
  .simp at h
theorem kH.set{n:Nat}{tv:TV}{val:Value}{hf:Nat->Option Ob}{u:eW}{w':World}(hs:gy S w S w')(hI:Inv S K w0 Kn φ (bf u hf) w')(h:fz S w' Kn φ tv val):kH S K w0 w Kn φ hf n n tv u val w':=⟨am _,S,φ,hs,qM _ _,h.kn fun _ hi=>.inl hi,hI.kn fun _ hi=>.inl hi⟩
theorem pp.mono{S':Nat->Prop}{w':World}(hs:gy S w S' w'){ka va:Bool}{es:List r_}{ms:List MapEntry}(h:pp S w ka va es ms):pp S' w' ka va es ms:=⟨h.1,fun i e m hi hm=>let⟨a,b,c⟩:=h.2 i e m hi hm;⟨a,b.mono hs,c⟩⟩
theorem RO.Od{l:gj}{ka va:Bool}{es:List r_}{bE:Nat}(h:RO S K w Kn φ l (.map ka va es bE)):∃ms:Array MapEntry,w.heap[l.cQ]?=some (.map ms bE)/\pp S w ka va es ms.toList:=by cases h with|map hS hK ho hlen hr=>exact⟨_,ho,by simpa using hlen,fun i e m hi hm=>hr i e m hi (by simpa using hm)⟩
theorem Inv.vL{hf:Nat->Option Ob}(hI:Inv S K w0 Kn φ hf w){id:Nat}{ka va:Bool}{es es':List r_}{bE clock':Nat}{ms ms':Array MapEntry}(ho:hf id=some (.map ka va es bE))
  (hw:w.heap[(φ id).cQ]?=some (.map ms bE)) (hE:pp S w ka va es' ms'.toList):
  gy S w S {w with heap:=w.heap.setIfInBounds (φ id).cQ (.map ms' clock')}/\
  Inv S K w0 Kn φ (bf [(id,some (.map ka va es' clock'))] hf) {w with heap:=w.heap.setIfInBounds (φ id).cQ (.map ms' clock')}:=by
 have hlt:=(bq.1 hw).1;have hself:({w with heap:=w.heap.setIfInBounds (φ id).cQ (.map ms' clock')}:World).heap[(φ id).cQ]?=some (.map ms' clock'):=by simp[hlt]
 have hoth:∀b,b≠(φ id).cQ->({w with heap:=w.heap.setIfInBounds (φ id).cQ (.map ms' clock')}:World).heap[b]?=w.heap[b]?:=fun b hb=>by simp[Ne.symm hb]
 obtain⟨_,h0⟩:=hI.iI _ _ ho;refine hI.set ho rfl hoth (by simp) (fun a=>?_) (fun aG hown=>?_) ⟨rfl,rfl,rfl,am _⟩ fun hs=>?_
 .grind [World.frozen?]
 .obtain ⟨t,ht⟩:=hown;rw[hw]at ht;simp at ht
 .cases h0 with|map hS hK _ _ _=>exact .map hS hK hself (by simpa using hE.1) fun i e m hi hm=>(hE.mono hs).2 i e m hi (by simpa using hm)
theorem km{r:Nat}{ms:Array MapEntry}{bE:Nat}(hb:w.heap[r]?=some (.map ms bE)):(getObj r).run P w=.ok (.map ms bE) w:=by simp[getObj,Sem.run,hb]
theorem mW{r:Nat}{ms:Array MapEntry}{bE:Nat}(ob:Obj)(hb:w.heap[r]?=some (.map ms bE)):(setObj r ob).run P w=.ok () {w with heap:=w.heap.setIfInBounds r ob}:=by simp[setObj,Sem.run,hb]
theorem Ht{t:TypeId}{ka va:Bool}(ho:o.op=.makeMap t none)(hI:Inv S K w0 Kn φ (au H) w)(hn0:nxt<n'->¬Kn nxt)
  (h:ci call (.makeMap ka va) [] H nxt=some (v,u,av,n')):cX P o ρ S K w0 w Kn φ (au H) nxt n' v u:=by
 obtain⟨rfl,rfl,rfl,rfl⟩:TV.c _=v/\[(nxt,some _)]=u/\[]=av/\nxt+1=n':=by simpa[ci]using h
 have hn:=hn0 (aQ _);obtain⟨nS,nK⟩:=Dg hI;refine⟨.value (.map (some w.heap.size)),_,{w with heap:=w.heap.push (.map #[] 0)},?_,.inl rfl,?_⟩
 .simp [execOp,ho,Instr.makeMap]
 have hs:=gy.push hI.uH (.map #[] 0)
 refine⟨bn _,S,_,hs,⟨fun _ h=>.inl h,(iZ _ hn).dH⟩,.c ?_,(hI.TR hn (fun c t r h=>by cases h) ⟨w.heap.size,0,1,0,0⟩ rfl _
  (.map (ms:= #[]) nS nK (by simp) rfl fun i e m hi=>by simp at hi)).wV fun j=>o3 j⟩
 have:=RC.om (S:=S) (w:={w with heap:=w.heap.push (.map #[] 0)}) (Kn:=po Kn nxt (nxt+1)) (φ:=ext φ nxt ⟨w.heap.size,0,1,0,0⟩) (id:=nxt) (.inr (by omega));simpa[ext]using this
theorem pp.gU{ka va:Bool}{es:List r_}{ms:List MapEntry}(h:pp S w ka va es ms){j:Nat}(hj:j<ms.length):
  ms[j]?=some (ms.getD j default)/\DV ka (es.getD j default).1 (ms.getD j default).key/\tG S w va (es.getD j default).2.1 (ms.getD j default).val/\(ms.getD j default).born=(es.getD j default).2.2:=by
 have hj2:j<es.length:=by rw[h.1];exact hj
 have e1:ms[j]?=some (ms.getD j default):=by simp[hj]
 have e2:es[j]?=some (es.getD j default):=by simp[hj2]
 exact⟨e1,h.2 j _ _ e2 e1⟩
theorem KB{t kt et:TypeId}{ka va ok:Bool}{ks:List Kd}{z:List Value}{m ix:Operand}(ho:o.op=.lookup t m ix ok)(hu:P.underlying t=some (.map kt et))
  (hm:rM P kt et=some (ka,ks,va,z)) (hI:Inv S K w0 Kn φ (au H) w) {tm tk:Option TV} (hx:∀y,tm=some y->fz S w Kn φ y (ρ m)) (hy:∀y,tk=some y->fz S w Kn φ y (ρ ix))
  (h:ci call (.lookup ka ks va z ok) [tm,tk] H nxt=some (v,u,av,n')):cX P o ρ S K w0 w Kn φ (au H) nxt n' v u:=by
 match tm,tk,h,hx,hy with
 |some (.c mc),some k,h,hx,hy=>
  change (match ir ka ks va z ok mc k H with|some (v,av)=>some (v,([]:eW),av,nxt)|none=>none)=_ at h;split at h
  .rename_i v1 ids1 hl;obtain⟨rfl,rfl,rfl,rfl⟩:v1=v/\[]=u/\ids1=av/\nxt=n':=by simpa using h
   simp only[rM]at hm;split at hm
   .rename_i ka' ks' va' z' hag hk hae hz;split at hm
    .rename_i hza;obtain⟨rfl,rfl,rfl,rfl⟩:ka'=ka/\ks'=ks/\va'=va/\z'=z:=by simpa using hm
     have hrm:=hx _ rfl;generalize hv1:ρ m=vm at hrm
     have qU:∀(b:Bool)(tv:TV)(val:Value),fz S w Kn φ tv val->fz S w Kn φ (if ok then .gX [tv,lv (.bool b)]else tv) (if ok then .tuple #[val,.bool b]else val):=by
      intro b tv val hr;cases ok with
      |false=>exact hr
      |true=>
       refine .gX rfl fun i x hi=>?_
       match i,hi with
       |0,hi=>simp_all
       |1,hi=>obtain rfl:lv (.bool b)=x:=by simpa using hi
              exact .rq rfl
     unfold ir at hl;split at hl
     .rename_i key hkey;obtain⟨hkv,hkl,_⟩:=nf hkey (hy _ rfl);split at hl
      .rename_i tv hval;obtain⟨rfl,rfl⟩:=af (aa hl);obtain⟨rfl,_⟩:=hrm.lit;obtain⟨zv,hzr,hzv⟩:=xI (S:=S) hz hza hval w;have hck:=ov (P:=P) true 9992 8 kt ks' hk ka' hag _ w hkl;refine cX.pure hI ?_ (qU false tv zv (oS hval hzv));have hfk:=lS (P:=P) (S:=S) (w:=w) (va:=va') (key:=key) hk hag (es:=[]) (ms:=[]) (r:=none) ⟨rfl,fun i e m hi=>by simp at hi⟩ rfl;simp only[execOp,ho,Instr.lookup,hv1,Sem.run_bind,bz hu,Result.andThen_ok,hkv,Sem.run_pure];simp_all
      .simp at hl
     .rename_i id key hkey;obtain⟨hkv,hkl,_⟩:=nf hkey (hy _ rfl);split at hl
      .rename_i ka2 va2 es bE hob;split at hl
       .rename_i hkv2;obtain⟨rfl,rfl⟩:=hkv2;cases hrm with
        |c hrm=>
         cases hrm with
         |om hkn=>
          obtain⟨_,h0⟩:=hI.iI _ _ hob;obtain⟨ms,hms,hE⟩:=h0.Od;have hck:=ov (P:=P) ms.isEmpty 9992 8 kt ks' hk ka2 hag _ w hkl;split at hl
          .rename_i i hfe;obtain⟨f1,f2⟩:=lS (P:=P) hk hag hE hfe;obtain⟨f3,f4⟩:=f2 i rfl;obtain⟨_,_,e3,_⟩:=hE.gU f3;split at hl
           .rename_i tv hval;obtain⟨rfl,rfl⟩:=af (aa hl);refine cX.pure hI ?_ (qU true tv _ (oS hval e3));simp only[execOp,ho,Instr.lookup,hv1,Sem.run_bind,bz hu,Result.andThen_ok,km hms,hkv,Sem.run_pure]
            grind [Result.andThen_ok,Sem.run_bind,Sem.run_pure]
           .simp at hl
          .rename_i hfe;obtain⟨f1,_⟩:=lS (P:=P) hk hag hE hfe;split at hl
           .rename_i tv hval;obtain⟨rfl,rfl⟩:=af (aa hl);obtain⟨zv,hzr,hzv⟩:=xI (S:=S) hz hza hval w;refine cX.pure hI ?_ (qU false tv zv (oS hval hzv));simp only[execOp,ho,Instr.lookup,hv1,Sem.run_bind,bz hu,Result.andThen_ok,km hms,hkv,Sem.run_pure];rw[show(10000:Nat)=8+9992 from rfl,hck]
            grind [Result.andThen_ok,Sem.run_bind,Sem.run_pure]
           .simp at hl
          .simp at hl
       .simp at hl
      .simp at hl
     .simp at hl
    .simp at hm
   .simp at hm
  .simp at h
theorem Il(a:ByteArray):(a==a)=true:=by rw[beq_toListBytes];simp
theorem Ey{q:Kd}{x:Value}{b:Bool}{y:Value}(h:D6 q x y=some b)(n:Nat):Instr.sameBits n x x=true:=by
 unfold D6 at h;split at h<;>first|(simp at h)|skip
 all_goals(cases n<;>simp[Instr.sameBits,Il])
theorem CZ{l:List Value}(n:Nat)(h:∀x∈l,∀n,Instr.sameBits n x x=true):Instr.sameBits (n+1) (.agg l.toArray) (.agg l.toArray)=true:=by
 simp[Instr.sameBits]
 grind [b_,Prod.mk.injEq]
theorem ww{ks:List Kd}{key k':List Value}{ka:Bool}(hone:ka=false->ks.length=1)(h:ge ks key k'=some true)(n:Nat):Instr.sameBits (n+1) (ua ka key) (ua ka key)=true:=by
 have all:∀(ks:List Kd)(a c:List Value)(b:Bool),ge ks a c=some b->∀x∈a,∀n,Instr.sameBits n x x=true:=by
  intro ks;induction ks with
  |nil=>intro a c b h;cases a<;>cases c<;>simp_all[ge]
  |cons q ks ih=>
   intro a c b h x hx n;cases a with
   |nil=>simp at hx
   |cons y a=>
    cases c with
    |nil=>simp[ge]at h
    |cons z c=>
     simp[ge]at h;split at h
     .rename_i b1 b2 h1 h2;rcases aW.1 hx with rfl|hx
      .exact Ey h1 n
      .exact ih a c b2 h2 x hx n
     .simp at h
 have hall:=all ks key k' true h;cases ka with|true=>exact CZ n hall|false=>obtain⟨l1,_⟩:=lN h;rw[hone rfl]at l1;obtain⟨x,rfl⟩:=eg.1 l1;exact hall x (by simp) _
theorem FW{ks:List Kd}{key:List Value}:∀{es:List r_}{i j:Nat},mE ks key es i=some (some j)->i<=j/\ge ks key (es.getD (j-i) default).1=some true:=by
 intro es;induction es with
 |nil=>intro i j h;simp[mE]at h
 |cons e es ih=>
  intro i j h;simp[mE]at h;split at h
  .simp_all
  .obtain ⟨h1,h2⟩:=ih h;have e1:j-i=(j-(i+1))+1:=by omega
   exact⟨by omega,by rw[e1];simpa using h2⟩
  .simp at h
theorem Fo{ms:Array MapEntry}{j:Nat}{f:MapEntry->MapEntry}(h:f (ms.toList.getD j default)=ms.toList.getD j default):ms.modify j f=ms:=by
 grind
theorem FF{old new:Value}(h1:old=new)(h2:Instr.sameBits 10000 new new=true):(Instr.keyThatStays old new).run P w=.ok new w:=by subst h1;unfold Instr.keyThatStays;rw[if_pos h2];rfl
theorem E6{t kt et:TypeId}{ka va:Bool}{ks:List Kd}{z:List Value}{m ix:Operand}(ho:o.op=.mapEntry t m ix)(hu:P.underlying t=some (.map kt et))
  (hm:rM P kt et=some (ka,ks,va,z)) (hI:Inv S K w0 Kn φ (au H) w) {tm tk:Option TV} (hx:∀y,tm=some y->fz S w Kn φ y (ρ m)) (hy:∀y,tk=some y->fz S w Kn φ y (ρ ix))
  (h:ci call (.mapEntry ka ks va z) [tm,tk] H nxt=some (v,u,av,n')):cX P o ρ S K w0 w Kn φ (au H) nxt n' v u:=by
 match tm,tk,h,hx,hy with
 |some (.c mc),some k,h,hx,hy=>
  change (match nP ka ks va z mc k H with|some (v,u,av)=>some (v,u,av,nxt)|none=>none)=_ at h;split at h
  .rename_i v1 u1 ids1 hl;obtain⟨rfl,rfl,rfl,rfl⟩:v1=v/\u1=u/\ids1=av/\nxt=n':=by simpa using h
   simp only[rM]at hm;split at hm
   .rename_i ka' ks' va' z' hag hk hae hz;split at hm
    .rename_i hza;obtain⟨rfl,rfl,rfl,rfl⟩:ka'=ka/\ks'=ks/\va'=va/\z'=z:=by simpa using hm
     have hrm:=hx _ rfl;generalize hv1:ρ m=vm at hrm
     have JW:∀{w':World}{tv:TV}{val:Value}{n:Nat},fz S w' Kn φ tv val->fz S w' Kn φ (.gX [tv,lv (.int .i64 n)]) (.tuple #[val,goInt n]):=by
      intro w' tv val n hr;refine .gX rfl fun i x hi=>?_
      match i,hi with
      |0,hi=>simp_all
      |1,hi=>obtain rfl:lv (.int .i64 n)=x:=by simpa using hi
             exact .rq rfl
     unfold nP at hl;split at hl
     .rename_i id key hkey;obtain⟨hkv,hkl,hrk⟩:=nf hkey (hy _ rfl);split at hl
      .rename_i ka2 va2 es bE hob;split at hl
       .rename_i hkv2;obtain⟨rfl,rfl⟩:=hkv2;cases hrm with
        |c hrm=>
         cases hrm with
         |om hkn=>
          obtain⟨_,h0⟩:=hI.iI _ _ hob;obtain⟨ms,hms,hE⟩:=h0.Od;have hck:=ov (P:=P) false 9992 8 kt ks' hk ka2 hag _ w hkl;split at hl
          .rename_i i hfe;obtain⟨f1,f2⟩:=lS (P:=P) hk hag hE hfe;obtain⟨f3,f4⟩:=f2 i rfl;obtain⟨e0,e1,e3,e4⟩:=hE.gU f3;obtain⟨_,hqq⟩:=FW hfe;obtain⟨_,ag,hag',hone⟩:=vF 8 kt ks' hk;obtain rfl:ka2=ag:=aa (hag.symm.trans hag');have hold:(ms.toList.getD i default).key=ua ka2 key:=by rw[e1.ua,<-f4]
           split at hl
           .rename_i tv hval;obtain⟨rfl,rfl,rfl⟩:_/\_/\_:=by simpa using hl
            have ea:ms[i]?=some (ms.toList.getD i default):=by rw[<-e0];simp
            obtain⟨hs,hI'⟩:=hI.vL (clock':=bE) hob hms hE;refine⟨.value (.tuple #[(ms.toList.getD i default).val,goInt (ms.toList.getD i default).born]),_,{w with heap:=w.heap.setIfInBounds (φ id).cQ (.map ms bE)},?_,.inl rfl,kH.set hs hI' ?_⟩
            .have dR:=FF (P:=P) (w:=w) hold (ww (n:=9999) hone hqq);have hmod:ms.modify i (fun e=>{e with key:=ua ka2 key})=ms:=Fo (by rw[<-hold]);simp only[execOp,ho,Instr.mapEntry,hv1,Sem.run_bind,bz hu,Result.andThen_ok,km hms,hkv];rw[show(10000:Nat)=8+9992 from rfl,hck];simp only[Result.andThen_ok,Sem.run_bind,f1,gF,ea,Option.getD_some,dR,hmod,mW _ hms,Sem.run_pure]
            .rw [e4];exact JW (oS hval (e3.mono hs))
           .simp at hl
          .rename_i hfe;obtain⟨f1,_⟩:=lS (P:=P) hk hag hE hfe;split at hl
           .rename_i tv hval;obtain⟨rfl,rfl,rfl⟩:_/\_/\_:=by simpa using hl
            obtain⟨zv,hzr,hzv⟩:=xI (S:=S) hz hza hval w
            have hE':pp S w ka2 va2 (es++[(key,dj z',bE)]) (ms.push {key:=ua ka2 key,val:=zv,born:=bE}).toList:=by
             refine⟨by simp[hE.1],fun i e m hi hm=>?_⟩;rw[Array.toList_push]at hm;rcases Nat.lt_or_ge i es.length with hlt|hge
             .rw [bG hlt]at hi;rw[bG (by rw[<-hE.1];exact hlt)]at hm;exact hE.2 i e m hi hm
             .rw [ck hge]at hi;rw[ck (by rw[<-hE.1];exact hge),<-hE.1]at hm
              have h0:i-es.length=0:=by
               grind
              grind
            obtain⟨hs,hI'⟩:=hI.vL (clock':=bE+1) hob hms hE';refine⟨.value (.tuple #[zv,goInt bE]),_,{w with heap:=w.heap.setIfInBounds (φ id).cQ (.map (ms.push {key:=ua ka2 key,val:=zv,born:=bE}) (bE+1))},?_,.inl rfl,kH.set hs hI' ?_⟩
            .simp only[execOp,ho,Instr.mapEntry,hv1,Sem.run_bind,bz hu,Result.andThen_ok,km hms,hkv];rw[show(10000:Nat)=8+9992 from rfl,hck];simp only[Result.andThen_ok,Sem.run_bind,f1,Option.map_none,hzr,mW _ hms,Sem.run_pure]
            .exact JW (oS hval (hzv.mono hs))
           .simp at hl
          .simp at hl
       .simp at hl
      .simp at hl
     .simp at hl
    .simp at hm
   .simp at hm
  .simp at h
theorem Qy:∀{cs:List C}{l:List D},AS cs=some l->cs=l.map .d:=by
 intro cs;induction cs with
 |nil=>
  intro l h;obtain rfl:[]=l:=by simpa[AS]using h
  rfl
 |cons c cs ih=>
  intro l h;unfold AS at h
  grind
theorem tG.of{x:TV}{cs:List C}{ds:List D}{val:Value}(hr:fz S w Kn φ x val)(hc:cellsOf x=some cs)(hd:AS cs=some ds):tG S w (qR x) ds val:=by
 have e:=Qy hd;subst e;cases hr with
 |@c x v h=>
  have e1:=by simpa[cellsOf]using hc
  cases ds with
  |nil=>simp at e1
  |cons d r=>
   cases r with
   |nil=>
    obtain rfl:x=.d d:=by simpa using e1
    cases h with|d hd=>exact⟨d,rfl,hd⟩
   |cons _ _=>simp at e1
 |@agg cs' aG hlen h=>
  obtain rfl:cs'=ds.map C.d:=by simpa[cellsOf]using hc
  refine⟨aG,rfl,by simpa using hlen,fun i x hi=>?_⟩;have:=h i (.d x) (by simp[hi]);cases this with|d hd=>exact hd
 |gX=>simp[cellsOf]at hc
theorem pp.find{ka va:Bool}{s:Int}:∀{es:List r_}{ms:List MapEntry},pp S w ka va es ms->ms.findIdx? (fun e=>(e.born:Int)==s)=es.findIdx? (fun e=>decide ((e.2.2:Int)=s)):=by
 intro es;induction es with
 |nil=>intro ms h;obtain rfl:ms=[]:=aO.1 h.1.symm;rfl
 |cons e es ih=>intro ms h;cases ms with|nil=>exact absurd h.1 (by simp)|cons m ms=>obtain⟨_,_,hb⟩:=h.2 0 e m rfl rfl;rw[List.findIdx?_cons,List.findIdx?_cons,ih h.tail];simp_all
theorem Bu{t:TypeId}{va:Bool}{n:Nat}{m st x:Operand}(ho:o.op=.entryStore t m st x)(hI:Inv S K w0 Kn φ (au H) w){tm ts tx:Option TV}
  (hx:∀y,tm=some y->fz S w Kn φ y (ρ m)) (hy:∀y,ts=some y->fz S w Kn φ y (ρ st)) (hz:∀y,tx=some y->fz S w Kn φ y (ρ x))
  (h:ci call (.entryStore va n) [tm,ts,tx] H nxt=some (v,u,av,n')):cX P o ρ S K w0 w Kn φ (au H) nxt n' v u:=by
 match tm,tx,h,hx,hz with
 |some (.c mc),some xv,h,hx,hz=>
  change (match nQ va n mc ts xv H with|some (u,av)=>some (TV.gX [],u,av,nxt)|none=>none)=_ at h;split at h
  .rename_i u1 ids1 hl;obtain⟨rfl,rfl,rfl,rfl⟩:TV.gX []=v/\u1=u/\ids1=av/\nxt=n':=by simpa using h
   have hrm:=hx _ rfl;generalize hv1:ρ m=vm at hrm;unfold nQ at hl;split at hl
   .rename_i id s ds dR hds;obtain⟨cs,hcs,hds⟩:=fZ.1 hds;split at hl
    .rename_i ka va2 es bE hob;split at hl
     .rename_i hc;obtain⟨rfl,hn,hag⟩:=hc;split at hl
      .rename_i i hfi;obtain⟨rfl,rfl⟩:_/\_:=by simpa using hl
       cases hrm with
       |c hrm=>
        cases hrm with
        |om hkn=>
         obtain⟨_,h0⟩:=hI.iI _ _ hob;obtain⟨ms,hms,hE⟩:=h0.Od;have hval:=tG.of (hz _ rfl) hcs hds
         have hsi:(asInt (ρ st)).run P w=.ok s w:=by
          unfold ce at dR;split at dR
          .rename_i k0 n0;obtain rfl:=aa dR;obtain⟨e1,_⟩:=(hy _ rfl).lit;rw[e1];simp[asInt,asIntOf]
          .simp at dR
         have hlt:i<es.length:=by
          grind [List.findIdx?_eq_some_iff_getElem]
         obtain⟨e0,e1,e3,e4⟩:=hE.gU (j:=i) (by rw[<-hE.1];exact hlt)
         have hE':pp S w ka va2 (es.set i ((es.getD i default).1,ds,(es.getD i default).2.2)) (ms.modify i (fun e=>{e with val:=ρ x})).toList:=by
          refine⟨by simp[hE.1],fun j e m hi hm=>?_⟩;have hm':(ms.modify i (fun e=>{e with val:=ρ x}))[j]?=some m:=by grind
          rw[Array.getElem?_modify]at hm';rw[List.getElem?_set]at hi;by_cases hij:i=j
          .grind
          .rw [if_neg hij]at hm' hi;exact hE.2 j e m hi (by simpa using hm')
         obtain⟨hs,hI'⟩:=hI.vL (clock':=bE) hob hms hE';refine⟨.skip,undef,{w with heap:=w.heap.setIfInBounds (φ id).cQ _},?_,.inr ⟨rfl,rfl⟩,hI.BQ hs hI' rfl⟩;have hfi2:ms.findIdx? (fun e=>(e.born:Int)==s)=some i:=by rw[<-hfi,<-hE.find,<-List.findIdx?_toArray]
         simp only[execOp,ho,Instr.entryStore,hv1,Sem.run_bind,Result.andThen_ok,km hms,hsi,hfi2,mW _ hms,Sem.run_pure]
      .simp at hl
     .simp at hl
    .simp at hl
   .simp at hl
  .simp at h
theorem wx{sz:Nat}{x:C}{xv:Value}{new:List (List D)}(hsz:0<sz)(hI:Inv S K w0 Kn φ (au H) w)(hr:RC S w Kn φ x xv)(h:jh sz H x=some (new,av))(n:Nat)(hn:n<=new.length):
  (Builtin.lenOf xv).run P w=.ok new.length w/\∃aG,(Builtin.firstCells sz n xv).run P w=.ok aG w/\aG.size=n*sz/\cI S w sz (fun i=>aG[i]?) 0 (new.take n)/\∀x∈aG.toList,one x=true:=by
 have xW:∀{b addr len cap:Nat},new.length=len->cI S w sz (fun i=>w.cell? ⟨b,i,none⟩) addr new->xv=.slice (some ⟨b,addr,none⟩) len cap->
   (Builtin.lenOf xv).run P w=.ok new.length w/\∃aG,(Builtin.firstCells sz n xv).run P w=.ok aG w/\aG.size=n*sz/\cI S w sz (fun i=>aG[i]?) 0 (new.take n)/\∀x∈aG.toList,one x=true:=by
  intro b addr len cap hl hR hv;subst hl hv;have hR2:=hR.sub 0 n;rw[List.drop_zero,jz,fy]at hR2;obtain⟨aG,h1,h2,h3,h4⟩:=rN (P:=P) hsz hR2;have e:(new.take n).length=n:=by simp;omega
  rw[e]at h1 h2;exact⟨rfl,aG,h1 w rfl,h2,h3,h4⟩
 unfold jh at h;split at h
 .obtain ⟨rfl,rfl⟩:[]=new/\[]=av:=by simpa using h
  obtain rfl:n=0:=by simpa using hn
  cases hr with
  |d hd=>cases hd with|lit hp=>exact⟨rfl, #[],rfl,by simp,⟨fun i r hi=>by simp at hi,fun i r hi=>by simp at hi⟩,fun x hx=>by simp at hx⟩
 .rename_i sz' rows;split at h
  .rename_i e1;subst e1;obtain⟨rfl,rfl⟩:rows=new/\[]=av:=by simpa using h
   cases hr with
   |d hd=>cases hd with
    |sl f hb hsz0 hcap hrow hcell hrd=>exact xW rfl ⟨hrow,fun i r hi j x hj=>⟨_,hcell i r hi j x hj,hrd i r hi j x hj⟩⟩ rfl
    |uJ hsz0=>
     obtain rfl:n=0:=by simpa using hn
     refine⟨rfl, #[],?_,by simp,⟨fun i r hi=>by simp at hi,fun i r hi=>by simp at hi⟩,fun x hx=>by simp at hx⟩;simp only[Builtin.firstCells,jz];rfl
  .simp at h
 .rename_i sz' id off len
  have key:∀szo rows,(au H id=some (.aG szo rows)\/au H id=some (.qu szo rows))->(if sz'=sz/\off+len<=rows.length then some ((rows.drop off).take len,[id])else none)=some (new,av)->
    (Builtin.lenOf xv).run P w=.ok new.length w/\∃aG,(Builtin.firstCells sz n xv).run P w=.ok aG w/\aG.size=n*sz/\cI S w sz (fun i=>aG[i]?) 0 (new.take n)/\∀x∈aG.toList,one x=true:=by
   intro szo rows ho hq;split at hq
   .rename_i hb;obtain⟨e1,hle⟩:=hb;subst e1;obtain⟨rfl,rfl⟩:=af (aa hq);obtain⟨hsz1,hl,hR⟩:=ow hI ho;subst hl;cases hr with|fx hk hcap haddr hext=>exact xW (by simp;omega) (hR.yR off len fun h=>haddr (by omega)) rfl
   .simp at hq
  grind
 .simp at h
theorem ED{sz aL off:Nat}{rows ns:List (List D)}{aG:Array Value}{vs:List Value}(h:cI S w sz (fun i=>aG[i]?) aL rows)(hfit:off+ns.length<=rows.length)
  (hl:vs.length=ns.length*sz) (hn:cI S w sz (fun i=>vs[i]?) 0 ns) (hsz:aL+rows.length*sz<=aG.size):
  cI S w sz (fun i=>(aT aG.toList (aL+off*sz) vs).toArray[i]?) aL (aT rows off ns):=by
 have hmul:(off+ns.length)*sz<=rows.length*sz:=az _ hfit;rw[bA]at hmul
 have hget:∀k,(aT aG.toList (aL+off*sz) vs).toArray[k]?=if k<aL+off*sz then aG[k]?else if k<aL+off*sz+vs.length then vs[k-(aL+off*sz)]?else aG[k]?:=by
  grind [aT,jG]
 have gU:∀(i:Nat)(r:List D),(aT rows off ns)[i]?=some r->r.length=sz/\∀(j:Nat)(x:D),r[j]?=some x->∃y,(aT aG.toList (aL+off*sz) vs).toArray[aL+i*sz+j]?=some y/\RD S w x y:=by
  intro i r hi;rw[jG _ _ _ hfit]at hi;by_cases c1:i<off
  .rw [if_pos c1]at hi;refine⟨h.1 i r hi,fun j x hj=>?_⟩;obtain⟨y,hy,hr⟩:=h.2 i r hi j x hj;have hjl:j<sz:=by rw[<-h.1 i r hi];grind
   have:(i+1)*sz<=off*sz:=az _ c1;rw[dJ]at this;exact⟨y,by rw[hget,if_pos (by omega)];exact hy,hr⟩
  .rw [if_neg c1]at hi;by_cases c2:i<off+ns.length
   .rw [if_pos c2]at hi;refine⟨hn.1 _ r hi,fun j x hj=>?_⟩;obtain⟨y,hy,hr⟩:=hn.2 _ r hi j x hj;have hjl:j<sz:=by rw[<-hn.1 _ r hi];grind
    have e1:i*sz=off*sz+(i-off)*sz:=by rw[<-bA];congr 1;omega
    have hm:(i-off+1)*sz<=ns.length*sz:=az _ (by omega);rw[dJ]at hm;refine⟨y,?_,hr⟩;rw[hget,if_neg (by omega),if_pos (by omega)];rw[<-hy];show vs[_]?=vs[_]?;congr 1;omega
   .rw [if_neg c2]at hi;refine⟨h.1 i r hi,fun j x hj=>?_⟩;obtain⟨y,hy,hr⟩:=h.2 i r hi j x hj;have:(off+ns.length)*sz<=i*sz:=az _ (by omega);rw[bA]at this;exact⟨y,by rw[hget,if_neg (by omega),if_neg (by omega)];exact hy,hr⟩
 exact⟨fun i r hi=>(gU i r hi).1,fun i r hi=>(gU i r hi).2⟩
theorem Ep{α:Type}(l:List α)(off:Nat)(p:List α)(hfit:off<=l.length)(i:Nat):
  (aT l off p)[i]?=if i<off then l[i]?else if i<off+p.length then p[i-off]?else l[i]?:=by
 unfold aT
 grind
theorem zP{α:Type}(l:List α)(off:Nat)(p:List α)(hfit:off<=l.length):(aT l off p).length=max l.length (off+p.length):=by unfold aT;simp;omega
theorem Ke{sz aL off:Nat}{rows ns:List (List D)}{aG:Array Value}{vs:List Value}(h:cI S w sz (fun i=>aG[i]?) aL rows)(hfit:off<=rows.length)
  (hl:vs.length=ns.length*sz) (hn:cI S w sz (fun i=>vs[i]?) 0 ns) (hsz:aL+off*sz+ns.length*sz<=aG.size):
  cI S w sz (fun i=>(aT aG.toList (aL+off*sz) vs).toArray[i]?) aL (aT rows off ns):=by
 have hget:∀k,(aT aG.toList (aL+off*sz) vs).toArray[k]?=if k<aL+off*sz then aG[k]?else if k<aL+off*sz+vs.length then vs[k-(aL+off*sz)]?else aG[k]?:=by
  grind [aT,jG]
 have gU:∀(i:Nat)(r:List D),(aT rows off ns)[i]?=some r->r.length=sz/\∀(j:Nat)(x:D),r[j]?=some x->∃y,(aT aG.toList (aL+off*sz) vs).toArray[aL+i*sz+j]?=some y/\RD S w x y:=by
  intro i r hi;rw[Ep _ _ _ hfit]at hi;by_cases c1:i<off
  .rw [if_pos c1]at hi;refine⟨h.1 i r hi,fun j x hj=>?_⟩;obtain⟨y,hy,hr⟩:=h.2 i r hi j x hj;have hjl:j<sz:=by rw[<-h.1 i r hi];grind
   have:(i+1)*sz<=off*sz:=az _ c1
   grind
  .rw [if_neg c1]at hi;by_cases c2:i<off+ns.length
   .rw [if_pos c2]at hi;refine⟨hn.1 _ r hi,fun j x hj=>?_⟩;obtain⟨y,hy,hr⟩:=hn.2 _ r hi j x hj;have hjl:j<sz:=by rw[<-hn.1 _ r hi];grind
    have e1:i*sz=off*sz+(i-off)*sz:=by rw[<-bA];congr 1;omega
    have hm:(i-off+1)*sz<=ns.length*sz:=az _ (by omega);rw[dJ]at hm;refine⟨y,?_,hr⟩;rw[hget,if_neg (by omega),if_pos (by omega)];rw[<-hy];show vs[_]?=vs[_]?;congr 1;omega
   .rw [if_neg c2]at hi;refine⟨h.1 i r hi,fun j x hj=>?_⟩;obtain⟨y,hy,hr⟩:=h.2 i r hi j x hj;have:(off+ns.length)*sz<=i*sz:=az _ (by omega);rw[bA]at this;exact⟨y,by rw[hget,if_neg (by omega),if_neg (by omega)];exact hy,hr⟩
 exact⟨fun i r hi=>(gU i r hi).1,fun i r hi=>(gU i r hi).2⟩
theorem MT{c:oc}{d x:Operand}{dt xt el:TypeId}{n:Nat}{dc xc:C}{i:Int}(ho:o.op=.call c)(hcal:c.callee=.builtin .copy)(hargs:c.args= #[d,x])(hts:c.argTypes= #[dt,xt])
  (hud:P.underlying dt=some (.slice el)) (hsz:fw P el=some (n+1)) (hI:Inv S K w0 Kn φ (au H) w) (hdr:fz S w Kn φ (.c dc) (ρ d)) (hxr:fz S w Kn φ (.c xc) (ρ x))
  (hl:pO (n+1) dc xc H=some (i,u,av)):cX P o ρ S K w0 w Kn φ (au H) nxt nxt (lv (.int .i64 i)) u:=by
 unfold pO at hl;split at hl
 case h_2=>simp at hl
 rename_i sz' id off len sz2 id2 off2 len2
 have key:∀szo rows cp rows2,au H id=some (.cap szo rows cp)->sz'=n+1->sz2=n+1->off<=rows.length->off2+min len2 len<=rows2.length->(φ id2).sz=n+1->
   cI S w (n+1) (fun i=>w.cell? ⟨(φ id2).cQ,i,none⟩) (φ id2).aL rows2->
   cX P o ρ S K w0 w Kn φ (au H) nxt nxt (lv (.int .i64 (min len2 len:Nat))) [(id,some (.cap (n+1) (aT rows off ((rows2.drop off2).take (min len2 len))) cp))]:=by
  intro szo rows cp rows2 hob e1 e3 hoff hle hsz2 hR2;subst e1 e3;generalize hv0:ρ d=val at hdr;generalize hv1:ρ x=val1 at hxr;cases hdr with
  |c hdr=>
  cases hxr with
  |c hxr=>
  obtain⟨cap2,addr2,rfl,_,_,hcap2,haddr2,_,_⟩:=hxr.kp;have hnl:((rows2.drop off2).take (min len2 len)).length=min len2 len:=by simp;omega
  obtain⟨aG,h2,h3,h4,h5⟩:=rN (P:=P) (sz:=n+1) (cL n) (hR2.yR (addr:=addr2) off2 (min len2 len) fun h=>by rw[haddr2 (by omega),hsz2]);rw[hnl]at h2 h3;have h1:(Builtin.lenOf (.slice (some ⟨(φ id2).cQ,addr2,none⟩) len2 cap2)).run P w=.ok len2 w:=rfl;have h2:(Builtin.firstCells (n+1) (min len2 len) (.slice (some ⟨(φ id2).cQ,addr2,none⟩) len2 cap2)).run P w=.ok aG w:=h2 w rfl;have hmn:Nat.min len2 len=min len2 len:=rfl;obtain⟨hk0,h0⟩:=hI.iI _ _ hob;generalize hphi:φ id=l at*;cases h0 with
  |@cap _ _ _ old hsz0 hl hS hK hown hext hfit hrr hvis hcc=>
  obtain⟨cap,addr,rfl,hszl,hk,hcap,haddr,hextc,hcl⟩:=hdr.kp;rw[hphi]at hv0 haddr hextc hszl hcl;have e2:szo=n+1:=by rw[<-hl,hszl]
  subst e2;rw[hl]at haddr hextc
  have run:∀w',(storeCells ⟨l.cQ,addr,none⟩ aG.toList).run P w=.ok () w'->(execOp ρ o).run P w=.ok (.value (goInt ((min len2 len:Nat):Int))) w':=by
   intro w' dR
   simp only[execOp,ho,hcal,resolve,hargs,Sem.run_bind,Sem.run_pure,Result.andThen_ok,invoke,builtin,Builtin.copy_,hts,c9,aK,aZ,hv0,hv1,bK,
    bP,cN,bz hud,gG hsz,h1,hmn,h2,dR]
  generalize hnew:(rows2.drop off2).take (min len2 len)=new at*;rcases Nat.eq_zero_or_pos (min len2 len)with hz|hz
  .have ha:aG.toList=[]:=by rw[hz,jz]at h3;exact aO.1 (by simpa using h3)
   have hns:new=[]:=aO.1 (by rw[hnl];exact hz);have hsame:aT rows off new=rows:=by rw[hns];simp[aT]
   have hupd:bf [(id,some (Ob.cap (n+1) (aT rows off new) cp))] (au H)=au H:=by
    funext j;rw[bO,hsame];split
    .rename_i e;rw[<-e,hob]
    .rfl
   refine⟨.value _,_,_,run w (by rw[ha];rfl),.inl rfl,kH.set (gy.refl _ _) (by rw[hupd];exact hI) (.c (.d (.lit rfl)))⟩
  .have hpos:0<cap:=by omega
   have haddr:=haddr hpos;obtain⟨ty,hty⟩:=hown;have hlen:aG.toList.length=min len2 len*(n+1):=by simpa using h3
   have hml:min len2 len*(n+1)<=len*(n+1):=az _ (Nat.min_le_right _ _);have hmc:len*(n+1)<=cap*(n+1):=az _ hcap;have dR:=run_storeCells_at P l.cQ addr ty aG.toList 0 old w hty (by rw[hlen,hext];omega) (fun v hv=>by rw[sM];exact h5 v hv);simp only[fy]at dR;have hown:pn w l.cQ old:=⟨ty,hty⟩
   obtain⟨p1,p2,p3,p4,p5⟩:=oB (w:=w) (b:=l.cQ) (o:=addr) (n:=aG.toList.length) (vs:=aG.toList) hown rfl
   have hset:=hI.set (o':=.cap (n+1) (aT rows off new) cp) hob rfl (by rw[hphi];exact p2) p3 p4 (by rw[hphi];exact p5 (by rw[hlen,hext];omega)) ⟨rfl,rfl,rfl,am _⟩ (fun hstp=>by
    rw[hphi];have h6:=(Ke (vs:=aG.toList) (off:=off) hrr hoff (by rw[hnl];exact hlen) (by simpa using h4) (by rw[hnl,hext];omega)).mono hstp;rw[<-haddr]at h6;have hsl:(aT rows off new).length=max rows.length (off+min len2 len):=by rw[zP _ _ _ hoff,hnl]
    have:=Nat.min_le_right len2 len;exact .cap hsz0 hl hS hK p1 (by grind [ia,eL,jM]) hfit h6 (by rw[hsl];omega) hcc)
   exact⟨.value _,_,_,run _ dR,.inl rfl,kH.set hset.1 hset.2 (.c (.d (.lit rfl)))⟩
 split at hl
 .rename_i szo rows cp szo2 rows2 hob hob2;split at hl
  .rename_i hb;obtain⟨e1,e3,hoff,hle⟩:=hb;obtain⟨rfl,rfl,_⟩:((min len2 len:Nat):Int)=i/\[(id,some (Ob.cap (n+1) (aT rows off ((rows2.drop off2).take (min len2 len))) cp))]=u/\[id,id2]=av:=by simpa using hl
   obtain⟨_,hl2,hR2⟩:=ow hI (.inl hob2);have hs2:(φ id2).sz=n+1:=by cases hxr with|c hxr=>obtain⟨_,_,_,h9,_⟩:=hxr.kp;rw[h9,e3]
   simp_all
  .simp at hl
 .rename_i szo rows cp szo2 rows2 cp2 hob hob2;split at hl
  .rename_i hb;obtain⟨e1,e3,hoff,hle⟩:=hb;obtain⟨rfl,rfl,_⟩:((min len2 len:Nat):Int)=i/\[(id,some (Ob.cap (n+1) (aT rows off ((rows2.drop off2).take (min len2 len))) cp))]=u/\[id,id2]=av:=by simpa using hl
   obtain⟨_,h0⟩:=hI.iI _ _ hob2;cases h0 with
   |cap hsz0 hl2 hS hK hown hext hfit hrr hvis hcc=>
    have hs2:(φ id2).sz=n+1:=by cases hxr with|c hxr=>obtain⟨_,_,_,h9,_⟩:=hxr.kp;rw[h9,e3]
    obtain rfl:szo2=n+1:=by rw[<-hl2,hs2]
    exact key _ _ _ _ hob e1 e3 hoff hle hs2 ⟨hrr.1,fun i r hi j x hj=>let⟨y,hy,hd⟩:=hrr.2 i r hi j x hj;⟨y,(hown.cell _).trans hy,hd⟩⟩
  .simp at hl
 .simp at hl
theorem PY{c:oc}{d x:Operand}{dt xt el:TypeId}{n:Nat}(ho:o.op=.call c)(hcal:c.callee=.builtin .copy)(hargs:c.args= #[d,x])(hts:c.argTypes= #[dt,xt])
  (hud:P.underlying dt=some (.slice el)) (hsz:fw P el=some (n+1)) (hI:Inv S K w0 Kn φ (au H) w) {td tx:Option TV} (hd:∀y,td=some y->fz S w Kn φ y (ρ d)) (hx:∀y,tx=some y->fz S w Kn φ y (ρ x))
  (h:ci call (.copy (n+1)) [td,tx] H nxt=some (v,u,av,n')):cX P o ρ S K w0 w Kn φ (au H) nxt n' v u:=by
 match td,tx,h,hd,hx with
 |some (.c dc),some (.c xc),h,hd,hx=>
  change (match mY (n+1) dc xc H with|some (i,u,av)=>some (lv (.int .i64 i),u,av,nxt)|none=>(match pO (n+1) dc xc H with|some (i,u,av)=>some (lv (.int .i64 i),u,av,nxt)|none=>none))=_ at h;split at h
  .rename_i i u1 ids1 hl;obtain⟨rfl,rfl,rfl,rfl⟩:lv (.int .i64 i)=v/\u1=u/\ids1=av/\nxt=n':=by simpa using h
   unfold mY at hl;cases hx _ rfl with
   |c hxr=>
   split at hl
   .rename_i new ids2 hrx;obtain⟨rfl,rfl,rfl⟩:0=i/\[]=u1/\ids2=ids1:=by simpa using hl
    obtain⟨hv,_⟩:=(hd _ rfl).lit;obtain⟨h1,aG,h2,h3,_,_⟩:=wx (P:=P) (sz:=n+1) (cL n) hI hxr hrx 0 (cY _);have he:(Nat.min new.length 0)=0:=Nat.min_zero _;refine cX.pure hI ?_ (.c (.d (.lit rfl)))
    simp only[execOp,ho,hcal,resolve,hargs,Sem.run_bind,Sem.run_pure,Result.andThen_ok,invoke,builtin,Builtin.copy_,hts,c9,aK,aZ,hv,bK,
     bP,cN,bz hud,gG hsz,h1,he,h2,goInt]
    rfl
   .rename_i new ids2 sz' id off len hrx;split at hl
    .rename_i szo rows hob;split at hl
     .rename_i hb;obtain⟨e1,hle⟩:=hb;subst e1;obtain⟨rfl,rfl,rfl⟩:((min new.length len:Nat):Int)=i/\[(id,some (Ob.aG (n+1) (aT rows off (new.take len))))]=u1/\id::ids2=ids1:=by simpa using hl
      have hdr:=hd _ rfl;generalize hv0:ρ d=val at hdr;cases hdr with
      |c hdr=>
      obtain⟨h1,aG,h2,h3,h4,h5⟩:=wx (P:=P) (sz:=n+1) (cL n) hI hxr hrx (min new.length len) (Nat.min_le_left _ _)
      have htk:new.take (min new.length len)=new.take len:=by
       grind
      rw[htk]at h4;have htl:(new.take len).length=min new.length len:=by simp[Nat.min_comm]
      have hmn:Nat.min new.length len=min new.length len:=rfl;obtain⟨hk0,h0⟩:=hI.iI _ _ hob;generalize hphi:φ id=l at*;cases h0 with
      |@aG _ _ old hsz0 hl hS hK hown hext hfit hrr hvis=>
      obtain⟨cap,addr,rfl,hszl,hk,hcap,haddr,hextc,hcl⟩:=hdr.kp;rw[hphi]at hv0 haddr hextc hszl hcl;have e2:szo=n+1:=by rw[<-hl,hszl]
      subst e2;rw[hl]at haddr hextc
      have run:∀w',(storeCells ⟨l.cQ,addr,none⟩ aG.toList).run P w=.ok () w'->(execOp ρ o).run P w=.ok (.value (goInt ((min new.length len:Nat):Int))) w':=by
       intro w' dR
       simp only[execOp,ho,hcal,resolve,hargs,Sem.run_bind,Sem.run_pure,Result.andThen_ok,invoke,builtin,Builtin.copy_,hts,c9,aK,aZ,hv0,bK,
        bP,cN,bz hud,gG hsz,h1,hmn,h2,dR]
      rcases Nat.eq_zero_or_pos (min new.length len)with hz|hz
      .have ha:aG.toList=[]:=by simp_all
       have hns:new.take len=[]:=aO.1 (by rw[htl];exact hz);have hsame:aT rows off (new.take len)=rows:=by rw[hns];simp[aT]
       have hupd:bf [(id,some (Ob.aG (n+1) (aT rows off (new.take len))))] (au H)=au H:=by
        funext j;rw[bO,hsame];split
        .rename_i e;rw[<-e,hob]
        .rfl
       refine⟨.value _,_,_,run w (by rw[ha];rfl),.inl rfl,kH.set (gy.refl _ _) (by rw[hupd];exact hI) (.c (.d (.lit rfl)))⟩
      .have hpos:0<cap:=by omega
       have haddr:=haddr hpos;obtain⟨ty,hty⟩:=hown;have hlen:aG.toList.length=min new.length len*(n+1):=by simpa using h3
       have hml:min new.length len*(n+1)<=len*(n+1):=az _ (Nat.min_le_right _ _);have hmc:len*(n+1)<=cap*(n+1):=az _ hcap;have dR:=run_storeCells_at P l.cQ addr ty aG.toList 0 old w hty (by rw[hlen,hext];omega) (fun v hv=>by rw[sM];exact h5 v hv);simp only[fy]at dR;have hown:pn w l.cQ old:=⟨ty,hty⟩
       obtain⟨p1,p2,p3,p4,p5⟩:=oB (w:=w) (b:=l.cQ) (o:=addr) (n:=aG.toList.length) (vs:=aG.toList) hown rfl;have hset:=hI.set (o':=.aG (n+1) (aT rows off (new.take len))) hob rfl (by rw[hphi];exact p2) p3 p4 (by rw[hphi];exact p5 (by rw[hlen,hext];omega)) ⟨rfl,rfl,rfl,am _⟩ (fun hstp=>by rw[hphi];have h6:=(ED (vs:=aG.toList) (off:=off) hrr (by rw[htl];omega) (by rw[htl];exact hlen) (by simpa using h4) (by rw[hext];exact hfit)).mono hstp;rw[<-haddr]at h6;have hsl:(aT rows off (new.take len)).length=rows.length:=eL _ _ _ (by omega);exact .aG hsz0 hl hS hK p1 (by grind [ia,eL,jM]) (by rw[hsl];exact hfit) h6 (by rw[hsl];exact hvis));exact⟨.value _,_,_,run _ dR,.inl rfl,kH.set hset.1 hset.2 (.c (.d (.lit rfl)))⟩
     .simp at hl
    .simp at hl
   .simp at hl
  .split at h
   .rename_i i u1 ids1 hl;obtain⟨rfl,rfl,rfl,rfl⟩:lv (.int .i64 i)=v/\u1=u/\ids1=av/\nxt=n':=by simpa using h
    exact MT ho hcal hargs hts hud hsz hI (hd _ rfl) (hx _ rfl) hl
   .simp at h
theorem MV{c:oc}{d:Operand}{dt el:TypeId}{n:Nat}{z:List Value}(ho:o.op=.call c)(hcal:c.callee=.builtin .clear)(hargs:c.args= #[d])(hts:c.argTypes= #[dt])
  (hud:P.underlying dt=some (.slice el)) (_hsz:fw P el=some (n+1)) (hz:jE P el=some z) (hzl:z.length=n+1) (hI:Inv S K w0 Kn φ (au H) w) {td:Option TV} (hd:∀y,td=some y->fz S w Kn φ y (ρ d))
  (h:ci call (.clear z) [td] H nxt=some (v,u,av,n')):cX P o ρ S K w0 w Kn φ (au H) nxt n' v u:=by
 obtain⟨zv,hzr,hzv,hzp⟩:=oU hz w
 match td,h,hd with
 |some (.c dc),h,hd=>
  change (match pP z dc H with|some (u,av)=>some (TV.gX [],u,av,nxt)|none=>none)=_ at h;split at h
  .rename_i u1 ids1 hl;obtain⟨rfl,rfl,rfl,rfl⟩:TV.gX []=v/\u1=u/\ids1=av/\nxt=n':=by simpa using h
   unfold pP at hl;split at hl
   .rename_i sz' id off len;split at hl
    .rename_i szo rows hob;split at hl
     .rename_i hb;obtain⟨e1,hle⟩:=hb;rw[hzl]at e1;subst e1;obtain⟨rfl,_⟩:=af (aa hl);have hdr:=hd _ rfl;generalize hv0:ρ d=val at hdr;cases hdr with
      |c hdr=>
      obtain⟨hk0,h0⟩:=hI.iI _ _ hob;generalize hphi:φ id=l at*;cases h0 with
      |@aG _ _ old hsz0 hlz hS hK hown hext hfit hrr hvis=>
      obtain⟨cap,addr,rfl,hszl,hk,hcap,haddr,hextc,hcl⟩:=hdr.kp;rw[hphi]at hv0 haddr hextc hszl hcl;have e2:szo=n+1:=by rw[<-hlz,hszl]
      subst e2;rw[hlz]at haddr hextc;have hzs:zv.cells.size=n+1:=by rw[<-hzl,<-hzv];simp
      obtain⟨inf,hzr'⟩:∃inf:Unit,True:=⟨(),trivial⟩
      cases len with
      |zero=>
       have hsame:aT rows off (aj 0 (dj z))=rows:=by simp[aT]
       have hupd:bf [(id,some (Ob.aG (n+1) (aT rows off (aj 0 (dj z)))))] (au H)=au H:=by
        funext j;rw[bO,hsame];split
        .rename_i e;rw[<-e,hob]
        .rfl
       refine⟨.value (.tuple #[]),.tuple #[],w,?_,.inl rfl,kH.set (gy.refl _ _) (by rw[hupd];exact hI) (.gX rfl fun i x hi=>by simp at hi)⟩
       simp only[execOp,ho,hcal,resolve,hargs,Sem.run_bind,Sem.run_pure,Result.andThen_ok,invoke,builtin,Builtin.clear_,hts,c9,aK,aZ,hv0,bK,
        bP,bz hud]
      |succ len=>
       have hpos:0<cap:=by omega
       have haddr:=haddr hpos;obtain⟨ty,hty⟩:=hown;let aG:=(Builtin.zeroCells zv.cells (len+1)).toList;have hlen:aG.length=(len+1)*(n+1):=by simp[aG,Builtin.zeroCells,hzs]
       have hget:∀k,k<(len+1)*(n+1)->aG[k]?=z[k %(n+1)]?:=fun k hk=>by
        have harr:aG=(bm ((len+1)*(n+1))).map fun i=>z.getD (i %(n+1)) undef:=by
         have:=tJ (n:=(len+1)*(n+1)) hzv hzl (cL n)
         grind [Builtin.zeroCells]
        have hm:k %(n+1)<z.length:=by rw[hzl];exact Nat.mod_lt _ (cL _)
        simp_all
       have hmc:(len+1)*(n+1)<=cap*(n+1):=az _ hcap;have dR:=run_storeCells_at P l.cQ addr ty aG 0 old w hty (by rw[hlen,hext];omega) (fun v hv=>by rw[sM];obtain⟨k,hk⟩:=List.getElem?_of_mem hv;have hkl:=(List.getElem?_eq_some_iff.1 hk).1;rw[hlen]at hkl;rw[hget k hkl]at hk;exact wM (hzp v (aF hk)));simp only[fy]at dR;have hown:pn w l.cQ old:=⟨ty,hty⟩
       obtain⟨p1,p2,p3,p4,p5⟩:=oB (w:=w) (b:=l.cQ) (o:=addr) (n:=aG.length) (vs:=aG) hown rfl;have hrl:(aj (len+1) (dj z)).length=len+1:=by simp
       have hset:=hI.set (o':=.aG (n+1) (aT rows off (aj (len+1) (dj z)))) hob rfl (by rw[hphi];exact p2) p3 p4 (by rw[hphi];exact p5 (by rw[hlen,hext];omega)) ⟨rfl,rfl,rfl,am _⟩ (fun hstp=>by
        rw[hphi]
        have h6:=(ED (vs:=aG) (ns:=aj (len+1) (dj z)) (off:=off) hrr (by rw[hrl];omega) (by rw[hrl];exact hlen) ⟨fun i r hi=>by
          rw[ic]at hi;split at hi
          .rw [<-aa hi];simp[dj,hzl]
          .simp at hi,fun i r hi j x hj=>by
          rw[ic]at hi;split at hi
          .rename_i hil;obtain rfl:=aa hi;simp only[dj,aN]at hj;obtain⟨y,hy,rfl⟩:=aH.1 hj;have hjl:j<n+1:=by grind
           have hm:(i+1)*(n+1)<=(len+1)*(n+1):=az _ hil;rw[dJ]at hm;refine⟨y,?_,.lit (hzp y (aF hy))⟩;show aG[0+i*(n+1)+j]?=_;rw[hget _ (by omega),bS,Nat.mul_comm,Nat.mul_add_mod,iQ hjl];exact hy
          .simp at hi⟩ (by rw[hext];exact hfit)).mono hstp
        rw[<-haddr]at h6;have hsl:(aT rows off (aj (len+1) (dj z))).length=rows.length:=eL _ _ _ (by rw[hrl];omega);exact .aG hsz0 hlz hS hK p1 (by grind [ia,eL,jM]) (by rw[hsl];exact hfit) h6 (by rw[hsl];exact hvis))
       refine⟨.value (.tuple #[]),.tuple #[],_,?_,.inl rfl,kH.set hset.1 hset.2 (.gX rfl fun i x hi=>by simp at hi)⟩
       simp only[execOp,ho,hcal,resolve,hargs,Sem.run_bind,Sem.run_pure,Result.andThen_ok,invoke,builtin,Builtin.clear_,hts,c9,aK,aZ,hv0,bK,
        bP,bz hud,hzr]
       rw[dR];rfl
     .simp at hl
    .simp at hl
   .simp at hl
  .simp at h
theorem Sw{c:oc}{d:Operand}{dt el:TypeId}(ho:o.op=.call c)(hcal:c.callee=.builtin .cap)(hargs:c.args= #[d])(hts:c.argTypes= #[dt])
  (hud:P.underlying dt=some (.slice el)) (hI:Inv S K w0 Kn φ (au H) w) {td:Option TV} (hd:∀y,td=some y->fz S w Kn φ y (ρ d))
  (h:ci call .OA [td] H nxt=some (v,u,av,n')):cX P o ρ S K w0 w Kn φ (au H) nxt n' v u:=by
 match td,h,hd with
 |some (.c dc),h,hd=>
  change (match AN dc H with|some (n,av)=>some (lv _,([]:eW),av,nxt)|none=>none)=_ at h;split at h
  .rename_i m ids1 hl;obtain⟨rfl,rfl,rfl,rfl⟩:lv _=v/\[]=u/\ids1=av/\nxt=n':=by simpa using h
   unfold AN at hl;split at hl
   .rename_i sz id off len;split at hl
    .rename_i szo rows cp hob;obtain⟨rfl,_⟩:=af (aa hl);have hdr:=hd _ rfl;generalize hv0:ρ d=val at hdr;cases hdr with
     |c hdr=>
     obtain⟨cap,addr,rfl,_,_,_,_,_,hcl⟩:=hdr.kp;obtain⟨_,h0⟩:=hI.iI _ _ hob;cases h0 with
     |cap hsz0 hl hS hK hown hext hfit hrr hvis hcc=>
     have e:cp-off=cap:=by omega
     refine cX.pure hI ?_ (.c (.d (.lit rfl)))
     simp only[execOp,ho,hcal,resolve,hargs,Sem.run_bind,Sem.run_pure,Result.andThen_ok,invoke,builtin,Builtin.cap_,hts,c9,aK,hv0,bK,
      bP,bz hud,e]
     rfl
    .simp at hl
   .simp at hl
  .simp at h
theorem xJ{w:World}{ts rs:Array TypeId}{tS e:TypeId}{sz:Nat}(hts:ts[0]?=some tS)(ht:P.underlying tS=some (.slice e))(hz:fw P e=some (sz+1))
  {a b:Addr} {la ca lb cb:Nat} (hne:a.block≠b.block) {A B:Array Value} (hA:pn w a.block A) (hB:pn w b.block B) (hkB:B.size≠0):
  (Extern.SlicesOverlaps.overlaps ts rs #[.slice (some a) la ca,.slice (some b) lb cb]).run P w=.ok (.bool false) w:=by
 have hnb:(a.block !=b.block)=true:=by simpa using hne
 have hnb':(a.block==b.block)=false:=by simpa using hne
 obtain⟨tA,hA1⟩:=hA;obtain⟨tB,hB1⟩:=hB;have hsa:w.shape? a.block=some (tA,A.size):=by simp[World.shape?,hA1]
 have hsb:w.shape? b.block=some (tB,B.size):=by simp[World.shape?,hB1]
 have hfa:w.frozen? a=false:=by simp[World.frozen?,hA1]
 have hfe:w.frozen? {block:=a.block,off:=A.size}=false:=by simp[World.frozen?,hA1]
 change Sem.run P (α:=Value) (do
  let some t:=ts[0]?|stuck "slices.overlaps: no parameter types"
  let .slice elem<-underlying t|stuck "slices.overlaps: slice type expected"
  let size<-sizeOf elem
  match(some a:Option Addr),(some b:Option Addr)with
  |some a,some b=>
   if la=0\/lb=0\/size=0 then pure (Value.bool false)
   else if a.block !=b.block&&(<-frozen a)&&(<-frozen b)then unsupported .addressObserved
   else do
    if a.block !=b.block then do
     noView a;noView b
     if<-mayBeOne a b then return Value.bool ((<-choose (.extern "sameAddr.stringBytes" 2))==1)
    pure _
  |_,_=>pure (Value.bool false)) w=_
 by_cases h0:la=0\/lb=0
 .simp only[hts,Sem.run_bind,bz ht,gG hz,Result.andThen_ok];simp_all
 .cases hk:B.size with|zero=>exact absurd hk hkB|succ kB=>rw[hk]at hsb;simp[hts,bz ht,gG hz,h0,hnb,hnb',frozen,noView,viewAt,mayBeOne,stringish,shape,Sem.run,hsa,hsb,hfa,hfe]
theorem G1{f:FuncId}{fn:Func}{e:Array Value->Sem Value}(hf:P.funcs[f]?=some fn)(hname:(fn.name== "runtime.NumGoroutine")=false)
  (hb:fn.body.isNone=true) (hn:Extern.findNext fn=none) (he:Extern.find fn=some e) (args:Array Value) (w:World):
  (callFunc f args).run P w=((e args).run P w).andThen fun v w'=>.ok (.value v) w':=by
 simp_all[callFunc]
theorem PU:Extern.allGenericRows.lookup "slices.overlaps" =none:=by kernel_rfl
theorem Kq:Extern.allTypedRows.lookup "slices.overlaps" =some Extern.SlicesOverlaps.overlaps:=by kernel_rfl
theorem Ss{c:oc}{f:FuncId}{x y:Operand}(ho:o.op=.call c)(hcal:c.callee=.value (.func f))(hargs:c.args= #[x,y])(hf:NE P f=true)(hρf:ρ (.func f)=.func (.func f) #[] #[])
  (hI:Inv S K w0 Kn φ (au H) w) {tx ty:Option TV} (hx:∀z,tx=some z->fz S w Kn φ z (ρ x)) (hy:∀z,ty=some z->fz S w Kn φ z (ρ y))
  (h:ci call .Uq [tx,ty] H nxt=some (v,u,av,n')):cX P o ρ S K w0 w Kn φ (au H) nxt n' v u:=by
 match tx,ty,h,hx,hy with
 |some (.c xc),some (.c yc),h,hx,hy=>
  change (match AL xc yc H with|some av=>some (lv (.bool false),([]:eW),av,nxt)|none=>none)=_ at h;split at h
  .rename_i ids1 hl;obtain⟨rfl,rfl,rfl,rfl⟩:lv (.bool false)=v/\[]=u/\ids1=av/\nxt=n':=by simpa using h
   unfold AL at hl;split at hl
   .rename_i sz1 a off1 len1 sz2 b off2 len2;split at hl
    .rename_i s1 rows1 s2 rows2 cp hoa hob;split at hl
     .rename_i hc;obtain⟨hne,hcp⟩:=hc;have hxr:=hx _ rfl;have hyr:=hy _ rfl;generalize hv0:ρ x=val at hxr;generalize hv1:ρ y=val1 at hyr;cases hxr with
      |c hxr=>
      cases hyr with
      |c hyr=>
      obtain⟨cap1,addr1,rfl,_⟩:=hxr.kp;obtain⟨cap2,addr2,rfl,_⟩:=hyr.kp;have hd:=hI.ph a b _ _ hoa hob rfl rfl hne;obtain⟨_,h0⟩:=hI.iI _ _ hoa;obtain⟨_,h1⟩:=hI.iI _ _ hob;cases h0 with
      |@aG _ _ A _ _ _ _ hownA=>
      cases h1 with
      |@cap _ _ _ B hsz0 _ _ _ hownB hext hfit=>
      have hB0:B.size≠0:=by have:1*1<=cp*s2:=Nat.mul_le_mul hcp hsz0;omega
      unfold NE at hf;split at hf
      case h_2=>simp at hf
      rename_i fn hfn;simp only[ak,Option.isNone_iff_eq_none,Bool.not_eq_true',beq_iff_eq]at hf;obtain⟨⟨⟨⟨⟨⟨⟨f1,f2⟩,f3⟩,f4⟩,f5⟩,f6⟩,f7⟩,f8⟩:=hf;split at f8
      case h_2=>simp at f8
      rename_i t r hpar;split at f8
      case h_2=>simp at f8
      rename_i el hel;split at f8
      case h_2=>simp at f8
      rename_i n hsz;have hp0:fn.params[0]?=some t:=by rw[<-cO,hpar];rfl
      have hfind:Extern.find fn=some (Extern.SlicesOverlaps.overlaps fn.params fn.resultTypes):=by
       grind [Extern.find,PU,Kq]
      have hrun:=G1 (P:=P) (f:=f) hfn f1 (by rw[f2];rfl) f3 hfind #[.slice (some ⟨(φ a).cQ,addr1,none⟩) len1 cap1,.slice (some ⟨(φ b).cQ,addr2,none⟩) len2 cap2] w;rw[xJ hp0 hel hsz hd hownA hownB hB0]at hrun;refine cX.pure hI (val:=.bool false) ?_ (.c (.d (.lit rfl)));simp only[execOp,ho,hcal,resolve,hargs,Deferred.ofValue,Sem.run_bind,Sem.run_pure,Result.andThen_ok,invoke,c9,aK,aZ,hv0,hv1,hρf,Array.append_empty,Array.empty_append];simpa using hrun
     .simp at hl
    .simp at hl
   .simp at hl
  .simp at h
theorem G4{n a m:Nat}{z:List Value}{zv:Value}{aG:Array Value}(hzv:zv.cells.toList=z)(hzl:z.length=n+1)(hzp:∀y∈z,ez y=true)(harr:aG=Builtin.zeroCells zv.cells m)(hle:a<=m):
  cI S w (n+1) (fun i=>aG[i]?) 0 (aj a (dj z)):=by
 have hsz:zv.cells.size=n+1:=by rw[<-hzl,<-hzv];simp
 have hl:aG.toList=(bm (m*(n+1))).map fun i=>z.getD (i %(n+1)) undef:=by rw[harr];unfold Builtin.zeroCells;rw[tJ hzv hzl (cL _),hsz]
 refine⟨fun i r hi=>?_,fun i r hi j x hj=>?_⟩
 .obtain ⟨_,rfl⟩:i<a/\dj z=r:=by
   grind
  simp[dj,hzl]
 .obtain ⟨hlt,rfl⟩:i<a/\dj z=r:=by
   grind
  simp only[dj,aN]at hj;obtain⟨y,hy,rfl⟩:=aH.1 hj;have hjl:j<n+1:=by grind
  refine⟨y,?_,.lit (hzp y (aF hy))⟩;have hidx:i*(n+1)+j<m*(n+1):=by have:(i+1)*(n+1)<=m*(n+1):=az _ (by omega);rw[dJ]at this;omega
  show aG[0+i*(n+1)+j]?=some y;rw[<-cO,hl,bS]
  grind [Nat.add_comm,Nat.add_mul_mod_self_right,iQ,List.getD]
theorem Sz{c:oc}{s x:Operand}{st xt el:TypeId}{kd:IntKind}{n:Nat}{z:List Value}(ho:o.op=.call c)(hcal:c.callee=.builtin .append)(hargs:c.args= #[s,x])(hts:c.argTypes= #[st,xt])
  (hus:P.underlying st=some (.slice el)) (hux:P.underlying xt=some (.int kd)) (hsz:fw P el=some (n+1)) (hz:jE P el=some z) (hzl:z.length=n+1) (hby:pS P el=true)
  (hI:Inv S K w0 Kn φ (au H) w) (hn0:nxt<n'->¬Kn nxt) {ta tx:Option TV} (ha:∀y,ta=some y->fz S w Kn φ y (ρ s)) (hx:∀y,tx=some y->fz S w Kn φ y (ρ x))
  (h:ci call (.Vr z) [ta,tx] H nxt=some (v,u,av,n')):cX P o ρ S K w0 w Kn φ (au H) nxt n' v u:=by
 obtain⟨inf,hinf,hb0,hb1⟩:=uw hby;obtain⟨zv,hzr,hzv,hzp⟩:=oU hz w
 match ta,tx,h,ha,hx with
 |some (.c sc),some (.c (.d (.lit (.int k1 k)))),h,ha,hx=>
  change Ct z sc k H nxt=_ at h;unfold Ct at h;split at h
  case h_2=>simp at h
  rename_i sz' id off len;split at h
  case h_2=>simp at h
  rename_i szo rows cp hob;split at h
  case isFalse=>simp at h
  rename_i hc;obtain⟨e1,hk0,hlim,hvis,hcp⟩:=hc;rw[hzl]at e1;subst e1;simp only[KU]at hlim;obtain⟨rfl,rfl,rfl,rfl⟩:TV.c (.fx z.length nxt 0 (len+k.toNat))=v/\[(nxt,some (Ob.aG z.length ((rows.drop off).take len++aj k.toNat (dj z))))]=u/\[id]=av/\nxt+1=n':=by simpa using h
  have hn:=hn0 (aQ _);obtain⟨hvx,_⟩:=(hx _ rfl).lit;have hr:=ha _ rfl;generalize hv0:ρ s=val at hr;cases hr with
  |c hr=>
  obtain⟨_,h0⟩:=hI.iI _ _ hob;generalize hphi:φ id=l at*;cases h0 with
  |@cap _ _ _ aG hsz0 hl hS hK hown hext hfit hrr hvv hcc=>
  obtain⟨cap,addr,rfl,hszl,hk,hcap,haddr,hextc,hcl⟩:=hr.kp;rw[hphi]at hv0 haddr hextc hszl hcl;have e2:szo=n+1:=by rw[<-hl,hszl]
  subst e2;rw[hl]at haddr;have hlt:cap<len+k.toNat:=by omega
  have hkp:0<k.toNat:=by omega
  have hlen:((rows.drop off).take len).length=len:=by simp;omega
  have hRc:cI S w (n+1) (fun i=>w.cell? ⟨l.cQ,i,none⟩) addr ((rows.drop off).take len):=by have hR:=hrr.yR (addr:=addr) off len fun h=>haddr (by omega);exact⟨hR.1,fun i r hi j x hj=>let⟨y,hy,hd⟩:=hR.2 i r hi j x hj;⟨y,(hown.cell _).trans hy,hd⟩⟩
  obtain⟨old,hold,hos,hoR,hoone⟩:=rN (P:=P) (sz:=n+1) (cL n) hRc;rw[hlen]at hold hos;have hinfo:∀w:World,(typeInfo el).run P w=.ok inf w:=fun w=>by simp[typeInfo,hinf]
  have hzr':∀w:World,(zeroValue el).run P w=.ok zv w:=by intro w';simp only[zeroValue,typeInfo,Sem.run_bind,run_program,Result.andThen_ok,hinf,Sem.run_pure]at hzr|-;cases hzz:inf.zero with|none=>rw[hzz]at hzr;simp at hzr|some q=>simp_all
  have hunx:∀w:World,(underlying xt).run P w=.ok (.int kd) w:=bz hux;have hwk:IntKind.i64.wrap k=k:=vA hk0 (by omega);have hkn:¬k<0:=by omega
  have hmul:k*(inf.bytes:Int)<=2147483648*16384:=Int.mul_le_mul (by omega) (by omega) (by omega) (by omega);have hbig:¬k*(inf.bytes:Int)>2^48:=by omega
  have hcapn:¬Builtin.nextslicecap (len+k.toNat) cap*inf.bytes>2^48:=by have h1:=M3 hlim hlt;have h2:Builtin.nextslicecap (len+k.toNat) cap*inf.bytes<=6442454016*16384:=Nat.mul_le_mul h1 hb1;omega
  have hbz:¬inf.bytes=0:=by omega
  have hnle:¬len+k.toNat<=cap:=by omega
  have hmx:¬(((len+k.toNat:Nat):Int)>IntKind.i64.max):=by have:IntKind.i64.max=9223372036854775807:=rfl;rw[this];omega
  have hns:¬k.toNat*(n+1)=0:=by
   grind
  have ho2:(Builtin.firstCells (n+1) len (.slice (some ⟨l.cQ,addr,none⟩) len cap)).run P {w with drawn:=w.drawn+1}=.ok old {w with drawn:=w.drawn+1}:=hold {w with drawn:=w.drawn+1} rfl;have hzs:zv.cells.size=n+1:=by rw[<-hzl,<-hzv];simp
  have zsize:∀m,(Builtin.zeroCells zv.cells m).size=m*(n+1):=by intro m;simp[Builtin.zeroCells,hzs]
  have hnc:len+k.toNat<=(Question.appendCap (len+k.toNat) cap el).cut (w.tape w.drawn (.appendCap (len+k.toNat) cap el)):=by simp[Question.cut]
  have hrun:(execOp ρ o).run P w=.ok (.value (.slice (some ⟨w.heap.size,0,none⟩) (len+k.toNat) ((Question.appendCap (len+k.toNat) cap el).cut (w.tape w.drawn (.appendCap (len+k.toNat) cap el)))))
    {({w with drawn:=w.drawn+1}:World)with heap:=w.heap.push (.cells (old++Builtin.zeroCells zv.cells k.toNat++Builtin.zeroCells zv.cells ((Question.appendCap (len+k.toNat) cap el).cut (w.tape w.drawn (.appendCap (len+k.toNat) cap el))-(len+k.toNat))) el)}:=by
   simp only[execOp,ho,hcal,resolve,hargs,Sem.run_bind,Sem.run_pure,Result.andThen_ok,invoke,builtin,Builtin.append_,hts,c9,aK,aZ,hv0,hvx,bK,
    bP,cN,bz hus,gG hsz,hunx,xL (n:=k) (k:=k1) rfl,hwk,hkn,if_false,hinfo,hbig,hnle,hmx,false_and,hcapn,if_true,hns,run_choose,Question.forced,run_askRoom,ho2,hzr',newRow,run_newObj,Bool.not_true,bD]
  generalize hcv:(Question.appendCap (len+k.toNat) cap el).cut (w.tape w.drawn (.appendCap (len+k.toNat) cap el))=newCap at*;refine⟨.value _,_,_,hrun,.inl rfl,?_⟩
  have hD:=kH.aG (K:=K) (w0:=w0) (hI.vh (w.drawn+1) (bn _)) hn (sz:=n+1) (cap:=newCap) (aG:=old++Builtin.zeroCells zv.cells k.toNat++Builtin.zeroCells zv.cells (newCap-(len+k.toNat))) (rows:=(rows.drop off).take len++aj k.toNat (dj z)) el (cL n)
   (by simp_all)
   (by simp only[jD,hos,zsize];rw[<-bA,<-bA];exact az _ (by omega))
   (cI.mono (gy.vh S w _) (by
    refine qL ⟨hoR.1,fun i r hi j x hj=>?_⟩ ?_
    .obtain ⟨y,hy,hr⟩:=hoR.2 i r hi j x hj
     grind
    .have hz2:=G4 (S:=S) (w:=w) (a:=k.toNat) (m:=k.toNat) hzv hzl hzp rfl (am _);refine⟨hz2.1,fun i r hi j x hj=>?_⟩;obtain⟨y,hy,hr⟩:=hz2.2 i r hi j x hj;refine⟨y,?_,hr⟩;have hlt:=(bq.1 hy).1;show(old++_++_)[_]?=_;rw[hlen,Array.getElem?_append_left (by rw[jD,hos];omega),Array.getElem?_append_right (by rw[hos];omega)];rw[<-hy,hos];show(Builtin.zeroCells zv.cells k.toNat)[_]?=(Builtin.zeroCells zv.cells k.toNat)[_]?;congr 1;omega))
  rw[ap,hlen,List.length_replicate]at hD;rw[hzl];obtain⟨a1,S',φ',a2,a3,a4,a5⟩:=hD;exact⟨a1,S',φ',(gy.vh S w _).trans a2,a3,a4,a5⟩
end
end Go.Ev
