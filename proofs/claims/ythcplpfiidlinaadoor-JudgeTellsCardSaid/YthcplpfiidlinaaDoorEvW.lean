/- A region in any order, against the text's order. Conditions: operations whose names meet are ordered by the text; operations whose objects meet are ordered by the text, or the check at the run says that they do not meet. -/
import Derived.Test.YthcplpfiidlinaaDoorEvR
import Derived.Orders
import Derived.Scope
noncomputable section
open Array renaming getD->kr,getD_eq_getD_getElem?->bI,getElem?_eq_getElem->jh,getElem?_eq_some_iff->bv,getElem?_toList->bo
open Bool renaming and_eq_true->ai,false_eq_true->aX,or_eq_true->cA
open Classical renaming choose->ga,choose_spec->de
open List renaming Sublist->dj,all_eq_true->bq,flatMap_append->iB,getD_eq_getElem?_getD->cX,getElem?_eq_getElem->aE,getElem?_eq_some_iff->aq,getElem?_map->aM,length_cons->cP,length_eq_zero_iff->bz,map_cons->aD,mem_append->au,mem_append_left->aG,mem_append_right->aI,mem_cons->aQ,mem_cons_of_mem->aF,mem_cons_self->du,mem_flatten->dL,mem_of_getElem?->bk,mem_singleton->av,nodup_append->cE
open List.Sublist renaming refl->ci
open Nat renaming add_assoc->db,add_sub_cancel'->jJ,add_zero->di,le_refl->aw,lt_or_ge->e_,mul_le_mul_left->lT,zero_add->bN
open Option renaming bind_some->ae,map_eq_some_iff->aK
open Option.some renaming inj->aa,injEq->bE
open Prod.mk renaming inj->ad,injEq->da
namespace Go.Ev
def z0:Ev.K->Nat
 |.mv|.pick|.build _ _|.nilCheck|.Au _|.ve _|.rF _ _|.zD _ _|.un _|.vY _|.tP|.It _|.fieldAddr _ _|.field _ _ _
 |.indexAddr _ _|.qb|.index _ _ _|.extract _|.len _|.u9 _|.gi=>0
 |.load _ _|.lookup _ _ _ _ _|.slice _ _ _ _=>1
 |_=>2
theorem KK{call:Call}{k:Ev.K}{vs:List (Option TV)}{H:bM}{nxt n:Nat}{v:TV}{u:fA}{aB:List Nat}(hk:z0 k<=1)(h:cL call k vs H nxt=some (v,u,aB,n)):u=[]:=by
 cases k<;>first
  |(simp[z0]at hk;done)
  |(unfold cL at h
    repeat' split at h
    all_goals first
     |(simp at h;done)
     |(simp only[bE,da]at h;exact h.2.1.symm)
     |(simp_all;done))
theorem KJ{call:Call}{k:Ev.K}{vs:List (Option TV)}{H:bM}{nxt n:Nat}{v:TV}{u:fA}{aB:List Nat}(hk:z0 k=0)(h:cL call k vs H nxt=some (v,u,aB,n)):aB=[]:=by
 cases k<;>first
  |(simp[z0]at hk;done)
  |(unfold cL at h
    repeat' split at h
    all_goals first
     |(simp at h;done)
     |(simp only[bE,da]at h;exact h.2.2.1.symm)
     |(simp_all;done))
def qh(acc:List Nat):List Edge->Nat
 |[]=>0
 |e::r=>if Region.binds .any e then(qh acc r)|||2^e.on|||acc.getD e.on 0 else qh acc r
def LR:List Oper->List Nat->List Nat
 |[],acc=>acc
 |o::r,acc=>LR r (acc++[qh acc o.after.toList])
def yU(m:List Nat):List Oper->Nat->Bool
 |[],_=>true
 |o::r,i=>m.getD i 0==qh m o.after.toList&&o.after.toList.all (fun e=>!(Region.binds .any e)||decide (e.on<i))&&yU m r (i+1)
def eX(m:List Nat)(i j:Nat):Bool:=(m.getD j 0).testBit i
def TP:Operand->Option Nat
 |.tmp t=>some t
 |_=>none
def FT(o:oE):List Nat:=o.args.filterMap TP++(match o.guard with|some (t,_)=>[t]|none=>[])
def IE(d:Option Nat)(l:List Nat):Bool:=match d with|some d=>l.contains d|none=>false
def zJ(a b:oE):Bool:=IE a.dst (FT b)||IE b.dst (FT a)||IE a.dst b.dst.toList
def vw(m:List Nat)(i:Nat)(a:oE):List oE->Nat->Bool
 |[],_=>true
 |b::r,j=>(eX m i j||!zJ a b)&&vw m i a r (j+1)
def yC(m:List Nat):List oE->Nat->Bool
 |[],_=>true
 |a::r,i=>vw m i a r (i+1)&&yC m r (i+1)
def Fc:Value->Value->Bool
 |.int k a,.int k' b=>decide (k=k')&&decide (a=b)
 |.bool a,.bool b=>decide (a=b)
 |.string a,.string b=>decide (a.toList=b.toList)
 |.float k a,.float k' b=>decide (k=k')&&decide (a=b)
 |.slice none 0 0,.slice none 0 0|.pointer none,.pointer none|.map none,.map none|.nilFunc,.nilFunc|.nilIface,.nilIface=>true
 |_,_=>false
def AK:List Value->List Value->Bool
 |[],[]=>true
 |x::xs,y::ys=>Fc x y&&AK xs ys
 |_,_=>false
def AF:Ev.K->Ev.K->Bool
 |.lookup ka ks va z false,.mapEntry ka' ks' va' z'=>decide (ka=ka')&&decide (ks=ks')&&decide (va=va')&&AK z z'
 |_,_=>false
def wX(m:List Nat)(i:Nat)(a:oE):List oE->Nat->List (Nat×Nat)
 |[],_=>[]
 |b::r,j=>if eX m i j||z0 b.k==0||z0 b.k+z0 a.k<=2 then wX m i a r (j+1)else(i,if AF a.k b.k then 1000+j else j)::wX m i a r (j+1)
def tO(m:List Nat):List oE->Nat->List (Nat×Nat)
 |[],_=>[]
 |a::r,i=>(if z0 a.k==0 then[]else wX m i a r (i+1))++tO m r (i+1)
def wZ(ops:List Oper)(cops:List oE)(nC:List Nat):CC:=
 let m:=LR ops []
 if yU m ops 0&&yC m cops 0&&decide (cops.length<=1000)then .drawn cops (tO m cops 0) nC else .gi
theorem Aq{acc:List Nat}{j:Nat}:∀{es:List Edge},(qh acc es).testBit j=true->∃e∈es,Region.binds .any e=true/\(e.on=j\/(acc.getD e.on 0).testBit j=true):=by
 intro es;induction es with
 |nil=>intro h;simp[qh]at h
 |cons e r ih=>
  intro h;simp only[qh]at h;split at h
  .rename_i hb;simp only[Nat.testBit_or,cA,Nat.testBit_two_pow,decide_eq_true_eq]at h;rcases h with(h|h)|h
   .obtain ⟨e',he,h'⟩:=ih h;exact⟨e',aF _ he,h'⟩
   .exact ⟨e,du,hb,.inl h⟩
   .exact ⟨e,du,hb,.inr h⟩
  .obtain ⟨e',he,h'⟩:=ih h;exact⟨e',aF _ he,h'⟩
theorem FH{m:List Nat}:∀{l:List Oper}{i:Nat},yU m l i=true->∀(k:Nat)(o:Oper),l[k]?=some o->
  (∀j,eX m j (i+k)=true->∃e∈o.after,Region.binds .any e=true/\(e.on=j\/eX m j e.on=true))/\∀e∈o.after,Region.binds .any e=true->e.on<i+k:=by
 intro l;induction l with
 |nil=>intro i _ k o hk;simp at hk
 |cons o0 r ih=>
  intro i h k o hk;simp only[yU,ai]at h;obtain⟨⟨h1,h2⟩,h3⟩:=h;cases k with
  |zero=>
   obtain rfl:o0=o:=by simpa using hk
   refine⟨fun j hj=>?_,fun e he hb=>?_⟩
   .unfold eX at hj;rw[di,(by simpa using h1:m.getD i 0=_)]at hj;obtain⟨e,he,h'⟩:=Aq hj;exact⟨e,by simpa using he,h'⟩
   .have:=bq.1 h2 e (by simpa using he);simpa[hb]using this
  |succ k=>have:=ih h3 k o (by simpa using hk);rw[show i+1+k=i+(k+1)by omega]at this;exact this
theorem z9{m:List Nat}{i:Nat}{a:oE}:∀{l:List oE}{j:Nat},vw m i a l j=true->∀(k:Nat)(b:oE),l[k]?=some b->eX m i (j+k)=true\/zJ a b=false:=by
 intro l;induction l with
 |nil=>intro j _ k b hk;simp at hk
 |cons b0 r ih=>
  intro j h k b hk;simp only[vw,ai]at h;cases k with
  |zero=>
   obtain rfl:b0=b:=by simpa using hk
   simpa using h.1
  |succ k=>have:=ih h.2 k b (by simpa using hk);rwa[show j+1+k=j+(k+1)by omega]at this
theorem Fb{m:List Nat}:∀{l:List oE}{i:Nat},yC m l i=true->∀(k k':Nat)(a b:oE),l[k]?=some a->l[k']?=some b->k<k'->eX m (i+k) (i+k')=true\/zJ a b=false:=by
 intro l;induction l with
 |nil=>intro i _ k k' a b hk;simp at hk
 |cons a0 r ih=>
  intro i h k k' a b hk hk' hlt;simp only[yC,ai]at h;cases k' with
  |zero=>omega
  |succ k'=>
   cases k with
   |zero=>
    obtain rfl:a0=a:=by simpa using hk
    have:=z9 h.1 k' b (by simpa using hk');rwa[show i+1+k'=i+(k'+1)by omega]at this
   |succ k=>have:=ih h.2 k k' a b (by simpa using hk) (by simpa using hk') (by omega);rwa[show i+1+k=i+(k+1)by omega,show i+1+k'=i+(k'+1)by omega]at this
theorem Ec{m:List Nat}{i:Nat}{a:oE}:∀{l:List oE}{j:Nat},∀(k:Nat)(b:oE),l[k]?=some b->eX m i (j+k)=true\/z0 b.k=0\/z0 b.k+z0 a.k<=2\/(i,if AF a.k b.k then 1000+(j+k)else j+k)∈wX m i a l j:=by
 intro l;induction l with
 |nil=>intro j k b hk;simp at hk
 |cons b0 r ih=>
  intro j k b hk;cases k with
  |zero=>
   obtain rfl:b0=b:=by simpa using hk
   simp only[wX];split
   .rename_i h;simp only[cA,beq_iff_eq,decide_eq_true_eq]at h;rcases h with(h|h)|h
    .exact .inl h
    .exact .inr (.inl h)
    .exact .inr (.inr (.inl h))
   .exact .inr (.inr (.inr (du ..)))
  |succ k=>
   have:=ih (j:=j+1) k b (by simpa using hk);rw[show j+1+k=j+(k+1)by omega]at this;rcases this with h|h|h|h
   .exact .inl h
   .exact .inr (.inl h)
   .exact .inr (.inr (.inl h))
   .refine .inr (.inr (.inr ?_));simp only[wX];split
    .exact h
    .exact aF _ h
theorem Ee{m:List Nat}:∀{l:List oE}{i:Nat},∀(k k':Nat)(a b:oE),l[k]?=some a->l[k']?=some b->k<k'->
  eX m (i+k) (i+k')=true\/z0 a.k=0\/z0 b.k=0\/z0 b.k+z0 a.k<=2\/(i+k,if AF a.k b.k then 1000+(i+k')else i+k')∈tO m l i:=by
 intro l;induction l with
 |nil=>intro i k k' a b hk;simp at hk
 |cons a0 r ih=>
  intro i k k' a b hk hk' hlt;cases k' with
  |zero=>omega
  |succ k'=>
   cases k with
   |zero=>
    obtain rfl:a0=a:=by simpa using hk
    have:=Ec (m:=m) (i:=i) (a:=a0) (j:=i+1) k' b (by simpa using hk');rw[show i+1+k'=i+(k'+1)by omega]at this;rcases this with h|h|h|h
    .exact .inl h
    .exact .inr (.inr (.inl h))
    .exact .inr (.inr (.inr (.inl h)))
    .by_cases e:z0 a0.k=0
     .exact .inr (.inl e)
     .refine .inr (.inr (.inr (.inr ?_)));simp only[tO,beq_iff_eq,e,if_false];exact aG _ h
   |succ k=>
    have:=ih (i:=i+1) k k' a b (by simpa using hk) (by simpa using hk') (by omega);rw[show i+1+k=i+(k+1)by omega,show i+1+k'=i+(k'+1)by omega]at this;rcases this with h|h|h|h|h
    .exact .inl h
    .exact .inr (.inl h)
    .exact .inr (.inr (.inl h))
    .exact .inr (.inr (.inr (.inl h)))
    .exact .inr (.inr (.inr (.inr (by simp only[tO];exact aI _ h))))
theorem HN{a b:Value}(h:Fc a b=true):a=b:=by
 unfold Fc at h;split at h<;>first|rfl|(simp at h;done)|skip
 .obtain ⟨rfl,rfl⟩:_/\_:=by simpa using h
  rfl
 .obtain rfl:_=_:=by simpa using h
  rfl
 .rename_i x y;have:x.toList=y.toList:=by simpa using h
  rw[ByteArray.toList_eq,ByteArray.toList_eq]at this;obtain⟨⟨x⟩⟩:=x;obtain⟨⟨y⟩⟩:=y;have e:x=y:=by simpa using this
  rw[e]
 .obtain ⟨rfl,rfl⟩:_/\_:=by simpa using h
  rfl
theorem JK:∀{a b:List Value},AK a b=true->a=b:=by
 intro a;induction a with
 |nil=>intro b h;cases b<;>simp_all[AK]
 |cons x a ih=>intro b h;cases b with|nil=>simp[AK]at h|cons y b=>simp only[AK,ai]at h;rw[HN h.1,ih h.2]
theorem KL:∀{ks:List Kd}{a b:List Value},z4 ks a=true->z4 ks b=true->∃r,gE ks a b=some r:=by
 intro ks;induction ks with
 |nil=>intro a b h1 h2;cases a<;>cases b<;>simp_all[z4,gE]
 |cons k ks ih=>
  intro a b h1 h2;cases a with
  |nil=>simp[z4]at h1
  |cons x a=>
   cases b with
   |nil=>simp[z4]at h2
   |cons y b=>
    simp only[z4,ai]at h1 h2;obtain⟨r,hr⟩:=ih h1.2 h2.2;have hk:∃q,EQ k x y=some q:=by have ha:=h1.1;have hb:=h2.1;cases k<;>cases x<;>cases y<;>simp_all[KM,EQ]
    obtain⟨q,hq⟩:=hk;exact⟨q&&r,by simp[gE,hq,hr]⟩
theorem IK{ks:List Kd}{key:List Value}{e:tY}:∀{es:List tY}{i:Nat},
  nm ks key (es++[e]) i=(match nm ks key es i with|some (some j)=>some (some j)|some none=>(match gE ks key e.1 with|some true=>some (some (i+es.length))|some false=>some none|none=>none)|none=>none):=by
 intro es;induction es with
 |nil=>intro i;simp only[List.nil_append,nm,List.length_nil,di];cases gE ks key e.1 with|none=>rfl|some b=>cases b<;>rfl
 |cons x es ih=>
  intro i;simp only[List.cons_append,nm];cases gE ks key x.1 with
  |none=>rfl
  |some b=>cases b with|true=>rfl|false=>simp only[ih,cP];rw[show i+1+es.length=i+(es.length+1)by omega]
theorem Ll{ks:List Kd}{key:List Value}:∀{es:List tY}{i j:Nat},nm ks key es i=some (some j)->j<i+es.length:=by
 intro es;induction es with
 |nil=>intro i j h;simp[nm]at h
 |cons x es ih=>
  intro i j h;simp only[nm]at h;split at h
  .obtain rfl:i=j:=by simpa using h
   simp
  .have:=ih h;simp only[cP];omega
  .simp at h
theorem DW{ka:Bool}{ks:List Kd}{k:TV}{key:List Value}(h:pq ka ks k=some key):z4 ks key=true:=by
 cases k with
 |agg cs=>
  simp only[pq]at h;split at h
  .exact (vS h).2
  .simp at h
 |c x=>
  simp only[pq]at h;split at h
  .exact (vS h).2
  .simp at h
 |iP xs=>simp[pq]at h
theorem HI{call1 call2:Call}{k1 k2:Ev.K}{vs1 vs2:List (Option TV)}{H H':bM}{nx1 nx2 n n2 id:Nat}{v v2:TV}{u u2:fA}{ids2:List Nat}(hk:AF k1 k2=true)
  (h1:cL call1 k1 vs1 H nx1=some (v,u,[id],n)) (h2:cL call2 k2 vs2 H' nx2=some (v2,u2,ids2,n2)) (hs:aC H' id=aC H id) (ht:id∈u2.map (·.1)):
  cL call1 k1 vs1 (u2++H) nx1=some (v,u,[id],n):=by
 unfold AF at hk;split at hk
 .rename_i ka ks va z ka' ks' va' z';simp only[ai,decide_eq_true_eq]at hk;obtain⟨⟨⟨rfl,rfl⟩,rfl⟩,hz⟩:=hk;obtain rfl:=JK hz
  match vs1,vs2,h1,h2 with
  |[some (.c m1),some kt1],[some (.c m2),some kt2],h1,h2=>
   change (match iw ka ks va z false m1 kt1 H with|some (v,aB)=>some (v,([]:fA),aB,nx1)|none=>none)=_ at h1;change (match nr ka ks va z m2 kt2 H' with|some (v,u,aB)=>some (v,u,aB,nx2)|none=>none)=_ at h2;show(match iw ka ks va z false m1 kt1 (u2++H)with|some (v,aB)=>some (v,([]:fA),aB,nx1)|none=>none)=_
   have key:iw ka ks va z false m1 kt1 H=some (v,[id])->iw ka ks va z false m1 kt1 (u2++H)=some (v,[id]):=by
    clear h1;intro h1;split at h2
    .rename_i v3 u3 ids3 h3;obtain⟨_,rfl,_,_⟩:v3=v2/\u3=u2/\ids3=ids2/\nx2=n2:=by simpa using h2
     unfold nr at h3;split at h3
     .rename_i id2 key2 hkey2;have hok2:=DW hkey2;split at h3
      .rename_i ka2 va2 es fc hob;split at h3
       .rename_i hkv;obtain⟨rfl,rfl⟩:=hkv
        -- what is laid anew
        have hu:∃es' clock',u3=[(id2,some (.map ka2 va2 es' clock'))]/\(es'=es\/es'=es++[(key2,dk z,fc)]):=by
         split at h3
         .split at h3
          .obtain ⟨_,rfl,_⟩:=(by simpa using h3:_/\_/\_)
           exact⟨_,_,rfl,.inl rfl⟩
          .simp at h3
         .split at h3
          .obtain ⟨_,rfl,_⟩:=(by simpa using h3:_/\_/\_)
           exact⟨_,_,rfl,.inr rfl⟩
          .simp at h3
         .simp at h3
        obtain⟨es',clock',rfl,hes⟩:=hu;obtain rfl:id=id2:=by simpa using ht
        have hl2:aC ([(id,some (Ob.map ka2 va2 es' clock'))]++H) id=some (.map ka2 va2 es' clock'):=by rw[gF,bZ,if_pos rfl]
        rw[hs]at hob;unfold iw at h1|-;split at h1
        .split at h1
         .simp at h1
         .simp at h1
        .rename_i id1 key1 hkey1;have hok1:=DW hkey1
         have hid:id1=id:=by
          repeat' split at h1
          all_goals first
           |(simp at h1;done)
           |(obtain⟨_,h4⟩:=ad (aa h1);simpa using h4)
         subst hid;simp only[hob,hl2,and_self,if_true]at h1|-;rcases hes with rfl|rfl
         .exact h1
         .rw [IK];split at h1
          .rename_i j hf;have hlt:=Ll hf;rw[bN]at hlt;simp only[hf];have e1:(es++[(key2,dk z,fc)]).getD j default=es.getD j default:=by simp only[cX];rw[List.getElem?_append_left hlt]
           rw[e1];exact h1
          .rename_i hf;simp only[hf];obtain⟨r,hr⟩:=KL hok1 hok2;simp only[hr];cases r with
           |false=>exact h1
           |true=>
            have e1:(es++[(key2,dk z,fc)]).getD (0+es.length) default=(key2,dk z,fc):=by simp[cX]
            simp only[e1];exact h1
          .simp at h1
        .simp at h1
       .simp at h3
      .simp at h3
     .simp at h3
    .simp at h2
   split at h1
   .rename_i v1 ids1 hl;obtain⟨rfl,rfl,rfl,rfl⟩:v1=v/\[]=u/\ids1=[id]/\nx1=n:=by simpa using h1
    rw[key hl]
   .simp at h1
 .simp at hk
abbrev GI:=Option (TV×fA×List Nat×Nat)
def Gi:GI->Option TV
 |some (v,_)=>some v
 |none=>some (.iP [])
def re:GI->fA
 |some (_,u,_)=>u
 |none=>[]
def qg:GI->List Nat
 |some (_,_,r,_)=>r
 |none=>[]
def Ax(call:Call)(aT i:Nat)(o:oE)(e:jG)(h:bM)(f:GI)(e':jG)(h':bM):Prop:=match f with|some (v,u,aB,n)=>kw e o.guard=some true/\cL call o.k (o.args.map (kP e)) h (aT+iS*i)=some (v,u,aB,n)/\n<=aT+iS*(i+1)/\e'=put e o.dst v/\h'=u++h|none=>kw e o.guard=some false/\e'=drop e o.dst/\h'=h
theorem Ef{calls:Nat->Call}{aT:Nat}:∀(l:List oE)(i:Nat)(e:jG)(h:bM)(e':jG)(h':bM)(tr:List (List Nat×List Nat)),nv calls aT l i e h=some (e',h',tr)->
  ∃(E:Nat->jG)(Hp:Nat->bM)(ef:Nat->GI),E 0=e/\Hp 0=h/\E l.length=e'/\Hp l.length=h'/\
   ∀(k:Nat)(o:oE),l[k]?=some o->Ax (calls (i+k)) aT (i+k) o (E k) (Hp k) (ef k) (E (k+1)) (Hp (k+1))/\tr[k]?=some (qg (ef k),(re (ef k)).map (·.1)):=by
 intro l;induction l with
 |nil=>
  intro i e h e' h' tr hh;obtain⟨rfl,rfl,rfl⟩:e=e'/\h=h'/\[]=tr:=by simpa[nv]using hh
  exact⟨fun _=>e,fun _=>h,fun _=>none,rfl,rfl,rfl,rfl,fun k o hk=>by simp at hk⟩
 |cons o r ih=>
  intro i e h e' h' tr hh;simp only[nv]at hh
  have fin:∀(f:GI)(e1:jG)(h1:bM)(tr1:List (List Nat×List Nat)),nv calls aT r (i+1) e1 h1=some (e',h',tr1)->Ax (calls i) aT i o e h f e1 h1->tr=(qg f,(re f).map (·.1))::tr1->
    ∃(E:Nat->jG)(Hp:Nat->bM)(ef:Nat->GI),E 0=e/\Hp 0=h/\E (o::r).length=e'/\Hp (o::r).length=h'/\
     ∀(k:Nat)(o':oE),(o::r)[k]?=some o'->Ax (calls (i+k)) aT (i+k) o' (E k) (Hp k) (ef k) (E (k+1)) (Hp (k+1))/\tr[k]?=some (qg (ef k),(re (ef k)).map (·.1)):=by
   intro f e1 h1 tr1 hrun hs htr;obtain⟨E,Hp,ef,a1,a2,a3,a4,a5⟩:=ih (i+1) e1 h1 e' h' tr1 hrun;refine⟨fun k=>match k with|0=>e|k+1=>E k,fun k=>match k with|0=>h|k+1=>Hp k,fun k=>match k with|0=>f|k+1=>ef k,rfl,rfl,a3,a4,fun k o' hk=>?_⟩;subst htr;cases k with
   |zero=>
    obtain rfl:o=o':=by simpa using hk
    refine⟨?_,by simp⟩;simp only[di,a1,a2];exact hs
   |succ k=>have:=a5 k o' (by simpa using hk);rw[show i+1+k=i+(k+1)by omega]at this;exact⟨this.1,by simpa using this.2⟩
  split at hh
  .rename_i hw;split at hh
   .rename_i v u aB n hev;split at hh
    .rename_i hn;split at hh
     .rename_i e1 h1 tr1 hrun;obtain⟨rfl,rfl,rfl⟩:e1=e'/\h1=h'/\_=tr:=by simpa using hh
      exact fin (some (v,u,aB,n)) _ _ tr1 hrun ⟨hw,hev,hn,rfl,rfl⟩ rfl
     .simp at hh
    .simp at hh
   .simp at hh
  .rename_i hw;split at hh
   .rename_i e1 h1 tr1 hrun;obtain⟨rfl,rfl,rfl⟩:e1=e'/\h1=h'/\_=tr:=by simpa using hh
    exact fin none _ _ tr1 hrun ⟨hw,rfl,rfl⟩ rfl
   .simp at hh
  .simp at hh
section
variable(dst:Nat->Option Nat)(ef:Nat->GI)(D:Nat->Bool)(e0:Nat->Option TV)(h0:Nat->Option Ob)
def pg:Nat->Nat->Option TV
 |0,t=>e0 t
 |k+1,t=>if D k=true/\dst k=some t then Gi (ef k)else pg k t
def jD:Nat->Nat->Option Ob
 |0,i=>h0 i
 |k+1,i=>if D k=true then(match cz (re (ef k)) i with|some o=>o|none=>jD k i)else jD k i
end
def vk(ef:Nat->GI)(k id:Nat):Prop:=id∈(re (ef k)).map (·.1)
theorem ui{α:Type}{u:List (Nat×α)}{id:Nat}(h:id∉u.map (·.1)):cz u id=none:=by
 induction u with
 |nil=>rfl
 |cons p r ih=>
  obtain⟨i,x⟩:=p;simp only[aD,aQ,not_or]at h;have:(i==id)=false:=by simpa using fun e:i=id=>h.1 e.symm
  simp[cz,this,ih h.2]
theorem Lf{α:Type}{u:List (Nat×α)}{id:Nat}(h:id∈u.map (·.1)):∃x,cz u id=some x:=by
 induction u with
 |nil=>simp at h
 |cons p r ih=>
  obtain⟨i,x⟩:=p;by_cases e:i=id
  .exact ⟨x,by simp[cz,e]⟩
  .have e':(i==id)=false:=by simpa using e
   simp only[aD,aQ]at h;rcases h with h|h
   .exact absurd h.symm e
   .simpa [cz,e']using ih h
section
variable{dst:Nat->Option Nat}{ef:Nat->GI}{D D':Nat->Bool}{E:Nat->jG}{Hp:Nat->bM}
theorem Cf{n i t:Nat}(hstep:∀k,k<n->∀t,cz (E (k+1)) t=if dst k=some t then Gi (ef k)else cz (E k) t)(hi:i<=n)
  (h1:∀k,k<i->dst k=some t->D k=true) (h2:∀k,i<=k->k<n->dst k=some t->D k=false):pg dst ef D (cz (E 0)) n t=cz (E i) t:=by
 have a:∀k,k<=i->pg dst ef D (cz (E 0)) k t=cz (E k) t:=by
  intro k;induction k with
  |zero=>intro _;rfl
  |succ k ih=>
   intro hk;rw[pg,hstep k (by omega)];by_cases hd:dst k=some t
   .rw [if_pos ⟨h1 k (by omega) hd,hd⟩,if_pos hd]
   .rw [if_neg (fun h=>hd h.2),if_neg hd,ih (by omega)]
 have b:∀d,i+d<=n->pg dst ef D (cz (E 0)) (i+d) t=cz (E i) t:=by intro d;induction d with|zero=>intro _;exact a i (aw _)|succ d ih=>intro hd;rw[<-db,pg,if_neg,ih (by omega)];rintro⟨hD,hdst⟩;rw[h2 (i+d) (by omega) (by omega) hdst]at hD;simp at hD
 have:=b (n-i) (by omega);rwa[jJ hi]at this
theorem zo{n i id:Nat}(hstep:∀k,k<n->∀id,aC (Hp (k+1)) id=match cz (re (ef k)) id with|some o=>o|none=>aC (Hp k) id)(hi:i<=n)
  (h1:∀k,k<i->vk ef k id->D k=true) (h2:∀k,i<=k->k<n->vk ef k id->D k=false):jD ef D (aC (Hp 0)) n id=aC (Hp i) id:=by
 have a:∀k,k<=i->jD ef D (aC (Hp 0)) k id=aC (Hp k) id:=by
  intro k;induction k with
  |zero=>intro _;rfl
  |succ k ih=>
   intro hk;rw[jD,hstep k (by omega),ih (by omega)];by_cases ht:vk ef k id
   .rw [if_pos (h1 k (by omega) ht)]
   .rw [ui ht];simp
 have b:∀d,i+d<=n->jD ef D (aC (Hp 0)) (i+d) id=aC (Hp i) id:=by
  intro d;induction d with
  |zero=>intro _;exact a i (aw _)
  |succ d ih=>
   intro hd;rw[<-db,jD,ih (by omega)];by_cases ht:vk ef (i+d) id
   .rw [if_neg (by simp[h2 (i+d) (by omega) (by omega) ht])]
   .rw [ui ht];simp
 have:=b (n-i) (by omega);rwa[jJ hi]at this
theorem Lq{e0:Nat->Option TV}{n i t:Nat}(hi:i<n)(hD:∀k,k≠i->D' k=D k)(hDi:D' i=true)(hDi0:D i=false)
  (h:dst i=some t->∀k,i<k->k<n->D k=true->dst k≠some t):
  pg dst ef D' e0 n t=if dst i=some t then Gi (ef i)else pg dst ef D e0 n t:=by
 have a:∀k,k<=i->pg dst ef D' e0 k t=pg dst ef D e0 k t:=by intro k;induction k with|zero=>intro _;rfl|succ k ih=>intro hk;rw[pg,pg,hD k (by omega),ih (by omega)]
 have b:∀d,i+1+d<=n->pg dst ef D' e0 (i+1+d) t=if dst i=some t then Gi (ef i)else pg dst ef D e0 (i+1+d) t:=by
  intro d;induction d with
  |zero=>intro _;show pg dst ef D' e0 (i+1) t=if dst i=some t then Gi (ef i)else pg dst ef D e0 (i+1) t;rw[pg,pg,hDi,hDi0,a i (aw _)];simp
  |succ d ih=>
   intro hd;rw[<-db,pg,pg,hD (i+1+d) (by omega),ih (by omega)];by_cases hc:D (i+1+d)=true/\dst (i+1+d)=some t
   .rw [if_pos hc,if_pos hc,if_neg];intro hdi;exact h hdi (i+1+d) (by omega) (by omega) hc.1 hc.2
   .rw [if_neg hc,if_neg hc]
 have:=b (n-(i+1)) (by omega);rwa[jJ (by omega)]at this
theorem IF{h0:Nat->Option Ob}{n i id:Nat}(hi:i<n)(hD:∀k,k≠i->D' k=D k)(hDi:D' i=true)(hDi0:D i=false)
  (h:vk ef i id->∀k,i<k->k<n->D k=true->¬vk ef k id):
  jD ef D' h0 n id=match cz (re (ef i)) id with|some o=>o|none=>jD ef D h0 n id:=by
 have a:∀k,k<=i->jD ef D' h0 k id=jD ef D h0 k id:=by intro k;induction k with|zero=>intro _;rfl|succ k ih=>intro hk;rw[jD,jD,hD k (by omega),ih (by omega)]
 have b:∀d,i+1+d<=n->jD ef D' h0 (i+1+d) id=match cz (re (ef i)) id with|some o=>o|none=>jD ef D h0 (i+1+d) id:=by
  intro d;induction d with
  |zero=>
   intro _;show jD ef D' h0 (i+1) id=match cz (re (ef i)) id with|some o=>o|none=>jD ef D h0 (i+1) id
   rw[jD,jD,hDi,hDi0,a i (aw _)];simp
  |succ d ih=>
   intro hd;rw[<-db,jD,jD,hD (i+1+d) (by omega),ih (by omega)];by_cases ht:vk ef i id
   .by_cases hc:D (i+1+d)=true
    .rw [ui (h ht (i+1+d) (by omega) (by omega) hc)];simp
    .rw [if_neg hc,if_neg hc]
   .rw [ui ht]
 have:=b (n-(i+1)) (by omega);rwa[jJ (by omega)]at this
end
section
variable{P:Program}{S K:Nat->Prop}{w0 w:World}{Kn:Nat->Prop}{φ:Nat->gI}{gv:List Value}{nt:Nat}{a:Act}{call:Call}{calls:Nat->Call}{cH:Bz}{s s':St}
 {ops:Array Oper} {l:List oE} {m:List Nat} {aT:Nat} {E:Nat->jG} {Hp:Nat->bM} {ef:Nat->GI}
def rH(l:List oE)(k:Nat):Option Nat:=(l[k]?).bind (·.dst)
def Og(calls:Nat->Call)(l:List oE)(aT:Nat)(E:Nat->jG)(Hp:Nat->bM)(ef:Nat->GI)(i j:Nat):Prop:=∃c v u id n,l[i]?=some c/\ef i=some (v,u,[id],n)/\cL (calls i) c.k (c.args.map (kP (E i))) (re (ef j)++Hp i) (aT+iS*i)=some (v,u,[id],n)
structure EI(P:Program)(cH:Bz)(nt:Nat)(calls:Nat->Call)(ops:Array Oper)(l:List oE)(m:List Nat)(aT:Nat)(E:Nat->jG)(Hp:Nat->bM)(ef:Nat->GI):Prop where
 len:l.length=ops.size
 Uf:∀(k:Nat)(o:Oper),ops[k]?=some o->l[k]?=some (gw P cH nt ops o)
 ja:∀(k:Nat)(c:oE),l[k]?=some c->Ax (calls k) aT k c (E k) (Hp k) (ef k) (E (k+1)) (Hp (k+1))
 Sx:∀(k:Nat)(o:Oper),ops[k]?=some o->(∀j,eX m j k=true->∃e∈o.after,Region.binds .any e=true/\(e.on=j\/eX m j e.on=true))/\∀e∈o.after,Region.binds .any e=true->e.on<k
 TF:∀(i j:Nat)(a b:oE),l[i]?=some a->l[j]?=some b->i<j->eX m i j=true\/zJ a b=false
 TJ:∀(i j:Nat),i<j->j<ops.size->eX m i j=true\/((∀id,vk ef i id->id∉qg (ef j)/\¬vk ef j id)/\((∀id,vk ef j id->id∉qg (ef i))\/Og calls l aT E Hp ef i j))
theorem Ax.dH{i:Nat}{o:oE}{e e':jG}{h h':bM}{f:GI}(hs:Ax call aT i o e h f e' h')(t:Nat):cz e' t=if o.dst=some t then Gi f else cz e t:=by cases f with|none=>obtain⟨_,rfl,_⟩:=hs;rw[zw];rfl|some p=>obtain⟨v,u,r,n⟩:=p;obtain⟨_,_,_,rfl,_⟩:=hs;rw[lI];rfl
theorem Ax.heap{i:Nat}{o:oE}{e e':jG}{h h':bM}{f:GI}(hs:Ax call aT i o e h f e' h')(id:Nat):aC h' id=match cz (re f) id with|some o=>o|none=>aC h id:=by cases f with|none=>obtain⟨_,_,rfl⟩:=hs;rfl|some p=>obtain⟨v,u,r,n⟩:=p;obtain⟨_,_,_,_,rfl⟩:=hs;rw[gF];rfl
theorem MI{e':jG}{h':bM}{e:jG}{h:bM}{tr:List (List Nat×List Nat)}(hl:l=ops.toList.map (gw P cH nt ops))(hord:yU m ops.toList 0=true)(hsch:yC m l 0=true)
  (hev:nv calls aT l 0 e h=some (e',h',tr)) (hdyn:Bi tr (tO m l 0)=true) (hsmall:l.length<=1000):
  ∃E Hp ef,EI P cH nt calls ops l m aT E Hp ef/\E 0=e/\Hp 0=h/\E ops.size=e'/\Hp ops.size=h':=by
 obtain⟨E,Hp,ef,h1,h2,h3,h4,h5⟩:=Ef l 0 e h e' h' tr hev;have hlen:l.length=ops.size:=by rw[hl];simp
 refine⟨E,Hp,ef,⟨hlen,?_,?_,?_,?_,?_⟩,h1,h2,hlen▸h3,hlen▸h4⟩
 .intro k o hk;rw[hl,aM,bo,hk];rfl
 .intro k c hk;have:=(h5 k c hk).1;rwa[bN]at this
 .intro k o hk;have:=FH hord k o (by rw[bo];exact hk);rwa[bN]at this
 .intro i j a b ha hb hij;have:=Fb hsch i j a b ha hb hij;rwa[bN,bN]at this
 .intro i j hij hj;have hi':i<l.length:=by omega
  have hj':j<l.length:=by omega
  obtain⟨a,ha⟩:∃a,l[i]?=some a:=⟨_,aE hi'⟩
  obtain⟨b,hb⟩:∃b,l[j]?=some b:=⟨_,aE hj'⟩
  have sa:=h5 i a ha;have sb:=h5 j b hb;have noU:∀(k:Nat)(c:oE),Ax (calls (0+k)) aT (0+k) c (E k) (Hp k) (ef k) (E (k+1)) (Hp (k+1))->z0 c.k<=1->∀id,¬vk ef k id:=by intro k c hs hc id ht;unfold vk at ht;generalize hf:ef k=f at hs ht;cases f with|none=>simp[re]at ht|some p=>obtain⟨v,u,r,n⟩:=p;obtain⟨_,hev1,_⟩:=hs;rw[show re (some (v,u,r,n))=u from rfl,KK hc hev1]at ht;simp at ht
  have noR:∀(k:Nat)(c:oE),Ax (calls (0+k)) aT (0+k) c (E k) (Hp k) (ef k) (E (k+1)) (Hp (k+1))->z0 c.k=0->∀id,id∉qg (ef k):=by intro k c hs hc id ht;generalize hf:ef k=f at hs ht;cases f with|none=>simp[qg]at ht|some p=>obtain⟨v,u,r,n⟩:=p;obtain⟨_,hev1,_⟩:=hs;rw[show qg (some (v,u,r,n))=r from rfl,KJ hc hev1]at ht;simp at ht
  rcases Ee (m:=m) (i:=0) i j a b ha hb hij with h|h|h|h|h
  .rw [bN,bN]at h;exact .inl h
  .exact .inr ⟨fun id ht=>absurd ht (noU i a sa.1 (by omega) id),.inl fun id _=>noR i a sa.1 h id⟩
  .exact .inr ⟨fun id _=>⟨noR j b sb.1 h id,noU j b sb.1 (by omega) id⟩,.inl fun id ht=>absurd ht (noU j b sb.1 (by omega) id)⟩
  .by_cases ea:z0 a.k<=1
   .by_cases eb:z0 b.k<=1
    .exact .inr ⟨fun id ht=>absurd ht (noU i a sa.1 ea id),.inl fun id ht=>absurd ht (noU j b sb.1 eb id)⟩
    .have:z0 a.k=0:=by omega
     exact .inr ⟨fun id ht=>absurd ht (noU i a sa.1 (by omega) id),.inl fun id _=>noR i a sa.1 this id⟩
   .have:z0 b.k=0:=by omega
    exact .inr ⟨fun id _=>⟨noR j b sb.1 this id,noU j b sb.1 (by omega) id⟩,.inl fun id ht=>absurd ht (noU j b sb.1 (by omega) id)⟩
  .rw [bN,bN]at h
   have hapart:mm (qg (ef i),(re (ef i)).map (·.1)) (qg (ef j),(re (ef j)).map (·.1))=true->
     (∀id,vk ef i id->id∉qg (ef j)/\¬vk ef j id)/\((∀id,vk ef j id->id∉qg (ef i))\/Og calls l aT E Hp ef i j):=by
    intro this;simp only[mm,ai,bq,Bool.not_eq_true',List.contains_eq_mem,decide_eq_false_iff_not]at this;exact⟨fun id ht=>⟨(this.1 id ht).1,(this.1 id ht).2⟩,.inl fun id ht=>this.2 id ht⟩
   have hd:=bq.1 hdyn _ h;by_cases hso:AF a.k b.k=true
   .rw [if_pos hso]at hd;simp only at hd;rw[if_pos (by omega),show 1000+j-1000=j by omega]at hd;simp only[E7,sa.2,sb.2,cA]at hd;rcases hd with hd|hd
    .exact .inr (hapart hd)
    .right;split at hd
     .rename_i id hab;obtain⟨hR,hU⟩:=ad hab;refine⟨fun id ht=>by unfold vk at ht;rw[hU]at ht;simp at ht,?_⟩;by_cases htj:vk ef j id
      .right
       -- nobody between lays that object anew
       have hsame:∀k,i<=k->k<=j->aC (Hp k) id=aC (Hp i) id:=by
        intro k hk;induction k with
        |zero=>intro _;rw[show i=0 by omega]
        |succ k ih=>
         intro hkj;by_cases e:i=k+1
         .rw [e]
         .have hik:i<=k:=by omega
          rw[<-ih hik (by omega)];obtain⟨c,hc⟩:∃c,l[k]?=some c:=⟨_,aE (by omega)⟩
          have sk:=h5 k c hc;rw[sk.1.heap id]
          have hn:id∉(re (ef k)).map (·.1):=by
           by_cases e2:k=i
           .subst e2;rw[hU];simp
           .have hm:(qg (ef k),(re (ef k)).map (·.1))∈(tr.take j).drop (i+1):=by refine bk (i:=k-(i+1)) ?_;rw[List.getElem?_drop,show i+1+(k-(i+1))=k by omega,List.getElem?_take,if_pos (by omega)];exact sk.2
            have:=bq.1 hd _ hm;simpa using this
          rw[ui hn]
       have sai:=sa.1;have sbj:=sb.1;generalize hfi:ef i=fi at sai hR hU;generalize hfj:ef j=fj at sbj;cases fi with
       |none=>simp[qg]at hR
       |some p=>obtain⟨v,u,aB,n⟩:=p;obtain rfl:aB=[id]:=hR;cases fj with|none=>unfold vk at htj;rw[hfj]at htj;simp[re]at htj|some q=>obtain⟨v2,u2,ids2,n2⟩:=q;unfold vk at htj;rw[hfj]at htj;obtain⟨_,hev1,_⟩:=sai;obtain⟨_,hev2,_⟩:=sbj;rw[bN]at hev1 hev2;exact⟨a,v,u,id,n,ha,hfi,by rw[hfj];exact HI hso hev1 hev2 (hsame j (by omega) (aw _)) htj⟩
      .left;intro id2 ht2;rw[hR];simp only[av];rintro rfl;exact htj ht2
     .simp at hd
   .rw [if_neg hso]at hd;simp only at hd;rw[if_neg (by omega)]at hd;simp only[sa.2,sb.2]at hd;exact .inr (hapart hd)
def zY(ops:Array Oper)(D:Nat->Bool):Prop:=∀(k:Nat)(o:Oper),ops[k]?=some o->D k=true->∀e∈o.after,Region.binds .any e=true->D e.on=true
theorem EI.LC(hp:EI P cH nt calls ops l m aT E Hp ef){D:Nat->Bool}(hc:zY ops D){i:Nat}:∀(N j:Nat),j<N->j<ops.size->D j=true->eX m i j=true->D i=true:=by
 intro N;induction N with
 |zero=>intro j hj;omega
 |succ N ih=>
  intro j hj hjn hD hb;have ho:ops[j]?=some ops[j]:=jh hjn;obtain⟨h1,h2⟩:=hp.Sx j _ ho;obtain⟨e,he,hbd,h⟩:=h1 i hb;have hDe:=hc j _ ho hD e he hbd;rcases h with h|h
  .rw [<-h];exact hDe
  .have:=h2 e he hbd;exact ih e.on (by omega) (by omega) hDe h
theorem EI.Qn(hp:EI P cH nt calls ops l m aT E Hp ef){D:Nat->Bool}(hc:zY ops D){i j:Nat}{o:Oper}(hi:ops[i]?=some o)(hall:∀e∈o.after,Region.binds .any e=true->D e.on=true)
  (hb:eX m j i=true):D j=true:=by
 obtain⟨h1,h2⟩:=hp.Sx i _ hi;obtain⟨e,he,hbd,h⟩:=h1 j hb;have hDe:=hall e he hbd;rcases h with h|h
 .rw [<-h];exact hDe
 .have:=h2 e he hbd;have hlt:i<ops.size:=(bv.1 hi).1;exact hp.LC hc (e.on+1) e.on (by omega) (by omega) hDe h
theorem Hd{d:Option Nat}{l:List Nat}{t:Nat}(hd:d=some t)(h:t∈l):IE d l=true:=by subst hd;simpa[IE]using h
theorem EI.Sq(hp:EI P cH nt calls ops l m aT E Hp ef){D:Nat->Bool}(hc:zY ops D){i:Nat}{o:Oper}{c:oE}(hi:ops[i]?=some o)(hci:l[i]?=some c)(hD:D i=false)
  (hall:∀e∈o.after,Region.binds .any e=true->D e.on=true):
  (∀t∈FT c,pg (rH l) ef D (cz (E 0)) ops.size t=cz (E i) t)/\(∃G,(∀id∈qg (ef i),jD ef D (aC (Hp 0)) ops.size id=aC G id)/\∀v u aB n,ef i=some (v,u,aB,n)->cL (calls i) c.k (c.args.map (kP (E i))) G (aT+iS*i)=some (v,u,aB,n))/\
  (∀t,c.dst=some t->∀k,i<k->k<ops.size->D k=true->rH l k≠some t)/\(∀id,vk ef i id->∀k,i<k->k<ops.size->D k=true->¬vk ef k id):=by
 have hlt:i<ops.size:=(bv.1 hi).1;have get:∀k,k<ops.size->∃b,l[k]?=some b:=fun k hk=>⟨_,aE (by rw[hp.len];exact hk)⟩;have lat:∀k,i<k->k<ops.size->eX m i k=true->D k=false:=by intro k _ hk hb;cases hDk:D k with|false=>rfl|true=>rw[hp.LC hc (k+1) k (by omega) hk hDk hb]at hD;simp at hD
 refine⟨fun t ht=>?_,?_,fun t ht k hik hk hDk hdk=>?_,fun id ht k hik hk hDk htk=>?_⟩
 .refine Cf (fun k hk t=>?_) (Nat.le_of_lt hlt) (fun k hk hd=>?_) (fun k hik hk hd=>?_)
  .obtain ⟨b,hb⟩:=get k hk;have:=(hp.ja k b hb).dH t;rw[this];simp[rH,hb]
  .obtain ⟨b,hb⟩:=get k (by omega);have hbd:b.dst=some t:=by simpa[rH,hb]using hd
   rcases hp.TF k i b c hb hci hk with h|h
   .exact hp.Qn hc hi hall h
   .simp [zJ,Hd hbd ht]at h
  .rcases e_ i k with h1|h1
   .obtain ⟨b,hb⟩:=get k (by omega);have hbd:b.dst=some t:=by simpa[rH,hb]using hd
    rcases hp.TF i k c b hci hb h1 with h|h
    .exact lat k h1 hk h
    .simp [zJ,Hd hbd ht]at h
   .obtain rfl:k=i:=by omega
    exact hD
 .have hev:∀v u aB n,ef i=some (v,u,aB,n)->cL (calls i) c.k (c.args.map (kP (E i))) (Hp i) (aT+iS*i)=some (v,u,aB,n):=by intro v u aB n hf;have hs:=hp.ja i c hci;rw[hf]at hs;exact hs.2.1
  by_cases hsoft:∃k,i<k/\k<ops.size/\D k=true/\∃id∈qg (ef i),vk ef k id
  .--the QC of those that came ahead
   obtain⟨k,⟨hik,hk,hDk,id0,hid0,ht0⟩,hmax⟩:∃k,(i<k/\k<ops.size/\D k=true/\∃id∈qg (ef i),vk ef k id)/\∀k',k<k'->¬(i<k'/\k'<ops.size/\D k'=true/\∃id∈qg (ef i),vk ef k' id):=by
    have:∀(N:Nat)(k:Nat),ops.size-k<=N->(i<k/\k<ops.size/\D k=true/\∃id∈qg (ef i),vk ef k id)->
      ∃k,(i<k/\k<ops.size/\D k=true/\∃id∈qg (ef i),vk ef k id)/\∀k',k<k'->¬(i<k'/\k'<ops.size/\D k'=true/\∃id∈qg (ef i),vk ef k' id):=by
     intro N;induction N with
     |zero=>intro k h1 h2;omega
     |succ N ihN=>
      intro k h1 h2;by_cases hm:∃k',k<k'/\(i<k'/\k'<ops.size/\D k'=true/\∃id∈qg (ef i),vk ef k' id)
      .obtain ⟨k',h3,h4⟩:=hm;exact ihN k' (by omega) h4
      .exact ⟨k,h2,fun k' h3 h4=>hm ⟨k',h3,h4⟩⟩
    obtain⟨k,h⟩:=hsoft;exact this _ k (aw _) h
   rcases hp.TJ i k hik hk with h|⟨_,h|h⟩
   .rw [lat k hik hk h]at hDk;simp at hDk
   .exact absurd hid0 (h id0 ht0)
   .obtain ⟨c',v,u,id,n,hc',hf,hev'⟩:=h;obtain rfl:c=c':=aa (hci.symm.trans hc');have hR:qg (ef i)=[id]:=by rw[hf];rfl
    refine⟨re (ef k)++Hp i,fun id' hid'=>?_,fun v' u' ids' n' hf'=>?_⟩
    .obtain rfl:id'=id:=by rw[hR]at hid';simpa using hid'
     obtain rfl:id0=id':=by rw[hR]at hid0;simpa using hid0
     obtain⟨x,hx⟩:=Lf ht0
     have hlast:∀n',k<n'->n'<=ops.size->jD ef D (aC (Hp 0)) n' id0=x:=by
      intro n' hkn;induction n' with
      |zero=>omega
      |succ n' ihn=>
       intro hn';simp only[jD];by_cases e:n'=k
       .subst e;rw[hx];simp[hDk]
       .have hno:¬(D n'=true/\vk ef n' id0):=fun hh=>hmax n' (by omega) ⟨by omega,by omega,hh.1,id0,hid',hh.2⟩;have:=ihn (by omega) (by omega);cases hDn:D n' with|false=>simpa[hDn]using this|true=>have hnt:¬vk ef n' id0:=fun h=>hno ⟨hDn,h⟩;rw[ui hnt];simpa[hDn]using this
     rw[hlast ops.size hk (aw _),gF];simp only[bA,hx]
    .rw [hf]at hf';obtain⟨rfl,rfl,rfl,rfl⟩:v=v'/\u=u'/\[id]=ids'/\n=n':=by simpa using hf'
     exact hev'
  .refine ⟨Hp i,fun id hid=>?_,hev⟩;refine zo (fun k hk id=>?_) (Nat.le_of_lt hlt) (fun k hk hd=>?_) (fun k hik hk hd=>?_)
   .obtain ⟨b,hb⟩:=get k hk;exact(hp.ja k b hb).heap id
   .rcases hp.TJ k i hk hlt with h|h
    .exact hp.Qn hc hi hall h
    .exact absurd hid (h.1 id hd).1
   .rcases e_ i k with h1|h1
    .cases hDk:D k with|false=>rfl|true=>exact absurd ⟨k,h1,hk,hDk,id,hid,hd⟩ hsoft
    .obtain rfl:k=i:=by omega
     exact hD
 .obtain ⟨b,hb⟩:=get k hk;have hbd:b.dst=some t:=by simpa[rH,hb]using hdk
  rcases hp.TF i k c b hci hb hik with h|h
  .rw [lat k hik hk h]at hDk;simp at hDk
  .simp [zJ,ht,hbd,IE]at h
 .rcases hp.TJ i k hik hk with h|h
  .rw [lat k hik hk h]at hDk;simp at hDk
  .exact absurd htk (h.1 id ht).2
def I3(D:Nat->Bool):Nat->Nat
 |0=>0
 |k+1=>I3 D k+if D k=true then 0 else 1
theorem Ns{D D':Nat->Bool}{i:Nat}(hD:∀k,k≠i->D' k=D k)(h1:D' i=true)(h0:D i=false):∀n,i<n->I3 D' n+1=I3 D n:=by
 have a:∀k,k<=i->I3 D' k=I3 D k:=by intro k;induction k with|zero=>intro _;rfl|succ k ih=>intro hk;simp only[I3];rw[ih (by omega),hD k (by omega)]
 intro n;induction n with
 |zero=>intro h;omega
 |succ n ih=>
  intro h;simp only[I3];by_cases e:i=n
  .subst e;rw[a i (aw _),h1,h0];simp
  .have:=ih (by omega);rw[hD n (fun h=>e h.symm)];omega
theorem LB{D:Nat->Bool}:∀{n:Nat},I3 D n=0->∀k,k<n->D k=true:=by
 intro n;induction n with
 |zero=>intro _ k hk;omega
 |succ n ih=>
  intro h k hk;simp only[I3]at h;by_cases e:k=n
  .subst e;by_cases hd:D k=true
   .exact hd
   .simp [hd]at h
  .exact ih (by omega) k (by omega)
theorem Nr(n:Nat):I3 (fun _=>false) n=n:=by induction n with|zero=>rfl|succ n ih=>simp[I3,ih]
theorem CH{e e':jG}{g:Option (Nat×Bool)}(h:∀t∈(match g with|some (t,_)=>[t]|none=>([]:List Nat)),cz e' t=cz e t):kw e' g=kw e g:=by cases g with|none=>rfl|some p=>obtain⟨t,b⟩:=p;simp only[kw,h t (by simp)]
theorem Ie{e e':jG}:∀{args:List Operand},(∀t∈args.filterMap TP,cz e' t=cz e t)->args.map (kP e')=args.map (kP e):=by intro args h;refine List.map_congr_left fun x hx=>?_;cases x with|tmp t=>exact h t (List.mem_filterMap.2 ⟨.tmp t,hx,rfl⟩)|_=>rfl
theorem Ls(hok:∀i,nz P (calls i))(hnt:nt<1000000000){Q:Exit->Act->World->Prop}(hp:EI P cH nt calls ops l m aT E Hp ef){S0:Nat->Prop}{ws:World}{gh:List C}
  (hQ:∀S' Kn' φ' a' w',gU S0 ws S' w'->GH S' K w0 Kn' φ' gv nt ⟨E ops.size,Hp ops.size,aT+iS*l.length,gh⟩ a' w'->Q .normal a' w'):
  ∀(fuel:Nat)(listed:Array Bool)(S:Nat->Prop)(Kn:Nat->Prop)(φ:Nat->gI)(a:Act)(w:World)(ec:jG)(hc:bM),
  listed.size=ops.size->I3 (fun k=>listed.getD k false) ops.size<=fuel->zY ops (fun k=>listed.getD k false)->
  (∀t,cz ec t=pg (rH l) ef (fun k=>listed.getD k false) (cz (E 0)) ops.size t)->(∀id,aC hc id=jD ef (fun k=>listed.getD k false) (aC (Hp 0)) ops.size id)->
  Inv S K w0 Kn φ (aC hc) w->jG.ok S w Kn φ ec a.tmps->a.tmps.size=nt->a.defers=[]->
  (∀j,Kn j->j<aT\/∃i,i<ops.size/\listed.getD i false=true/\aT+iS*i<=j/\j<aT+iS*(i+1))->
  (∀(i:Nat)(c:C)(v:Value),gh[i]?=some c->gv[i]?=some v->RG S w Kn φ c v)->gU S0 ws S w->wpAny P .any ops Q fuel listed a w:=by
 intro fuel;induction fuel with
 |zero=>
  intro listed S Kn φ a w ec hc hsz hcnt hcl henv hheap hI hE hts hdf hKn hgh hstp;have hall:=LB (Nat.le_zero.1 hcnt);refine⟨?_,?_⟩
  .rw [List.eq_nil_iff_forall_not_mem];intro i hi;obtain⟨h0,o,ho,_⟩:=mem_ready.1 hi;have hlt:i<ops.size:=(bv.1 ho).1;have h2:=hall i hlt;have hlt2:i<listed.size:=by omega
   simp[kr,hlt2]at h0 h2;rw[h0]at h2;simp at h2
  .refine hQ S Kn φ a w hstp ⟨?_,?_,hts,hdf,?_,hgh⟩
   .have:aC hc=aC (Hp ops.size):=by funext id;rw[hheap];refine zo (fun k hk id=>?_) (aw _) (fun k hk _=>hall k hk) (fun k h1 h2 _=>by omega);exact(hp.ja k _ (aE (by rw[hp.len];exact hk))).heap id
    rw[<-this];exact hI
   .intro t x hx;refine hE t x ?_;rw[henv,<-hx];refine Cf (fun k hk t=>?_) (aw _) (fun k hk _=>hall k hk) (fun k h1 h2 _=>by omega);have hb:l[k]?=some _:=aE (by rw[hp.len];exact hk);have:=(hp.ja k _ hb).dH t;rw[this];simp only[rH,hb,ae]
   .intro j hj hk;have hj':aT+iS*l.length<=j:=hj;rw[hp.len]at hj';rcases hKn j hk with h|⟨i,hi,_,h1,h2⟩
    .omega
    .have:iS*(i+1)<=iS*ops.size:=lT _ (by omega);omega
 |succ fuel ih=>
  intro listed S Kn φ a w ec hc hsz hcnt hcl henv hheap hI hE hts hdf hKn hgh hstp
  have fin:(∀k,k<ops.size->listed.getD k false=true)->Q .normal a w:=by
   intro hall;refine hQ S Kn φ a w hstp ⟨?_,?_,hts,hdf,?_,hgh⟩
   .have:aC hc=aC (Hp ops.size):=by funext id;rw[hheap];refine zo (fun k hk id=>?_) (aw _) (fun k hk _=>hall k hk) (fun k h1 h2 _=>by omega);exact(hp.ja k _ (aE (by rw[hp.len];exact hk))).heap id
    rw[<-this];exact hI
   .intro t x hx;refine hE t x ?_;rw[henv,<-hx];refine Cf (fun k hk t=>?_) (aw _) (fun k hk _=>hall k hk) (fun k h1 h2 _=>by omega);have hb:l[k]?=some _:=aE (by rw[hp.len];exact hk);have:=(hp.ja k _ hb).dH t;rw[this];simp only[rH,hb,ae]
   .intro j hj hk;have hj':aT+iS*l.length<=j:=hj;rw[hp.len]at hj';rcases hKn j hk with h|⟨i,hi,_,h1,h2⟩
    .omega
    .have:iS*(i+1)<=iS*ops.size:=lT _ (by omega);omega
  refine⟨fun hnil=>fin ?_,fun i hi=>?_⟩
  .--nothing is ready:all is done
   intro k;induction k using Nat.strongRecOn with
   |_ k ihk=>
    intro hk;cases hd:listed.getD k false with
    |true=>rfl
    |false=>
     exfalso;have ho:ops[k]?=some ops[k]:=jh hk
     have:k∈Region.ready .any ops listed:=by
      rw[mem_ready];refine⟨?_,_,ho,fun e he hbk=>?_⟩
      .have hlt2:k<listed.size:=by omega
       simp[kr,hlt2]at hd|-;exact hd
      .have:=(hp.Sx k _ ho).2 e he hbk;exact ihk e.on this (by omega)
     rw[hnil]at this;simp at this
  .obtain ⟨h0,o,ho,hall⟩:=mem_ready.1 hi;have hlt:i<ops.size:=(bv.1 ho).1;have hlt2:i<listed.size:=by omega
   have hD:listed.getD i false=false:=by simp[kr,hlt2]at h0|-;exact h0
   have hci:=hp.Uf i o ho;have hstep:=hp.ja i _ hci;obtain⟨s1,s2,s3,s4⟩:=hp.Sq (D:=fun k=>listed.getD k false) hcl ho hci hD hall;have hD':∀k,k≠i->(listed.setIfInBounds i true).getD k false=listed.getD k false:=fun k hk=>getD_set_ne false (fun e=>hk e.symm);have hDi:(listed.setIfInBounds i true).getD i false=true:=by simp[hlt2]
   have hcnt':I3 (fun k=>(listed.setIfInBounds i true).getD k false) ops.size<=fuel:=by have:=Ns (D:=fun k=>listed.getD k false) (D':=fun k=>(listed.setIfInBounds i true).getD k false) hD' hDi hD ops.size hlt;omega
   have hcl':zY ops (fun k=>(listed.setIfInBounds i true).getD k false):=by
    intro k o' ho' hk e he hb;by_cases e1:k=i
    .subst e1;obtain rfl:o=o':=by have:=ho.symm.trans ho';exact aa this
     exact getD_set_true (hall e he hb)
    .have hk':listed.getD k false=true:=by rw[<-hD' k e1];exact hk
     exact getD_set_true (hcl k o' ho' hk' e he hb)
   have hdstD:rH l i=o.dst:=by simp[rH,hci,gw]
   have henv':∀t,pg (rH l) ef (fun k=>(listed.setIfInBounds i true).getD k false) (cz (E 0)) ops.size t=if o.dst=some t then Gi (ef i)else cz ec t:=by intro t;rw[Lq (D:=fun k=>listed.getD k false) hlt hD' hDi hD (fun hd=>s3 t (by rw[hdstD]at hd;exact hd)),hdstD,henv t]
   have hheap':∀id,jD ef (fun k=>(listed.setIfInBounds i true).getD k false) (aC (Hp 0)) ops.size id=match cz (re (ef i)) id with|some o=>o|none=>aC hc id:=by
    intro id;rw[IF (D:=fun k=>listed.getD k false) hlt hD' hDi hD (fun ht=>s4 id ht),hheap id]
    all_goals(cases cz (re (ef i)) id<;>rfl)
   have hwe:kw ec (gw P cH nt ops o).guard=kw (E i) (gw P cH nt ops o).guard:=by refine CH fun t ht=>?_;rw[henv t];exact s1 t (aI _ ht)
   have hae:(gw P cH nt ops o).args.map (kP ec)=(gw P cH nt ops o).args.map (kP (E i)):=by refine Ie fun t ht=>?_;rw[henv t];exact s1 t (aG _ ht)
   simp only[wpOp,ho];generalize hfe:ef i=f at hstep henv' hheap' s2;cases f with
   |none=>
    obtain⟨hw,_,_⟩:=hstep;rw[<-hwe]at hw;have hwant:=qx hE (by rw[hts];exact hnt) hw;rw[if_neg (by simp[hwant])];refine ih _ S Kn φ _ w (drop ec o.dst) hc (by simp[hsz]) hcnt' hcl' ?_ ?_ hI (jG.Hj hE) (by rw[vB];exact hts) (by rw[sg];exact hdf) ?_ hgh hstp
    .intro t;rw[henv' t,zw];rfl
    .intro id;rw[hheap' id];rfl
    .intro j hj;rcases hKn j hj with h|⟨k,hk,h1,h2⟩
     .exact .inl h
     .exact .inr ⟨k,hk,getD_set_true h1,h2⟩
   |some p=>
    obtain⟨v,u,aB,n⟩:=p;obtain⟨hw,hev,hn,_,_⟩:=hstep;rw[<-hwe]at hw;obtain⟨G,g1,g2⟩:=s2;have hev3:=g2 v u aB n rfl;rw[<-hae]at hev3;have hev2:=IS (H':=hc) hev3 (fun id hid=>by rw[hheap id];exact g1 id hid);have hwant:=qx hE (by rw[hts];exact hnt) hw;rw[if_pos hwant];left
    have hdst:∀x,o.dst=some x->x<a.tmps.size:=by
     intro x hx;rw[hts];rcases e_ x nt with h1|h1
     .exact h1
     .exfalso;have:(gw P cH nt ops o).k=.gi:=by simp only[gw,hx];rw[if_neg (by simp;omega)]
      rw[this,fN]at hev2;simp at hev2
    have hk:xD P cH o.op=((gw P cH nt ops o).k,(gw P cH nt ops o).args):=by
     have:(gw P cH nt ops o).k=(xD P cH o.op).1:=by simp only[gw];rw[if_pos];cases hd:o.dst with|none=>rfl|some d=>have:=hdst d hd;rw[hts]at this;simpa using this
     rw[this];rfl
    have hfr:∀j,aT+iS*i<=j->j<n->¬Kn j:=by
     intro j h1 h2 hk;rcases hKn j hk with h|⟨k,hkn,h3,h4,h5⟩
     .omega
     .have hne:k≠i:=by rintro rfl;rw[h3]at hD;simp at hD
      rcases e_ k i with h6|h6
      .have:iS*(k+1)<=iS*i:=lT _ (by omega);omega
      .have:iS*(i+1)<=iS*k:=lT _ (by omega);omega
    have hgo:=Dy (hok i) hk hI hE hfr hev2;refine hgo _ _ fun val w' hDn=>?_;obtain⟨hle,S',φ',h1,h2,h3,h4⟩:=hDn;refine ih _ S' (pJ Kn (aT+iS*i) n) φ' _ w' (put ec o.dst v) (u++hc) (by simp[hsz]) hcnt' hcl' ?_ ?_ ?_ (jG.JT hE h1 h2 hdst h3) (by rw[vB];exact hts) (by rw[sg];exact hdf) ?_ ?_ (hstp.trans h1)
    .intro t;rw[henv' t,lI];rfl
    .intro id;rw[hheap' id,gF];rfl
    .rw [gF];exact h4
    .intro j hj;rcases hj with hj|hj
     .rcases hKn j hj with h|⟨k,hk,h1,h2⟩
      .exact .inl h
      .exact .inr ⟨k,hk,getD_set_true h1,h2⟩
     .exact .inr ⟨i,hlt,hDi,hj.1,by omega⟩
    .intro i c v hc hv;exact(hgh i c v hc hv).mono h1 h2
theorem Eg(hok:∀i,nz P (calls i))(hnt:nt<1000000000){Q:Exit->Act->World->Prop}{e':jG}{h':bM}{tr:List (List Nat×List Nat)}(hl:l=ops.toList.map (gw P cH nt ops))
  (hord:yU m ops.toList 0=true) (hsch:yC m l 0=true) (hev:nv calls s.next l 0 s.dH s.heap=some (e',h',tr)) (hdyn:Bi tr (tO m l 0)=true) (hsmall:l.length<=1000)
  (hR:GH S K w0 Kn φ gv nt s a w)
  (hQ:∀S' Kn' φ' a' w',gU S w S' w'->GH S' K w0 Kn' φ' gv nt ⟨e',h',s.next+iS*l.length,s.gh⟩ a' w'->Q .normal a' w'):
  wpAny P .any ops Q ops.size (Array.replicate ops.size false) a {w with drawn:=w.drawn+1}:=by
 obtain⟨E,Hp,ef,hp,h1,h2,h3,h4⟩:=MI hl hord hsch hev hdyn hsmall;have hd:∀k,(Array.replicate ops.size false).getD k false=false:=by intro k;simp only[bI,Array.getElem?_replicate];split<;>rfl
 have eh:gU S w S {w with drawn:=w.drawn+1}:=gU.xN S w _;refine Ls (gv:=gv) (K:=K) (w0:=w0) hok hnt hp (S0:=S) (ws:=w) (gh:=s.gh) ?_ ops.size _ S Kn φ a _ s.dH s.heap (by simp) ?_ ?_ ?_ ?_ (hR.inv.xN _ (Nat.le_succ _)) ?_ hR.size hR.defers ?_ ?_ eh
 .rw [h3,h4];exact hQ
 .simp only[hd,Nr];exact aw _
 .intro k o _ hk;simp only[hd]at hk;simp at hk
 .intro t;simp only[hd];rw[h1];have:∀k,pg (rH l) ef (fun _=>false) (cz s.dH) k t=cz s.dH t:=by intro k;induction k with|zero=>rfl|succ k ih=>simp[pg,ih]
  exact(this _).symm
 .intro id;simp only[hd];rw[h2];have:∀k,jD ef (fun _=>false) (aC s.heap) k id=aC s.heap id:=by intro k;induction k with|zero=>rfl|succ k ih=>simp[jD,ih]
  exact(this _).symm
 .intro t x hx;exact(hR.dH t x hx).mono eh (up.refl _ _)
 .intro j hj;rcases e_ j s.next with h|h
  .exact .inl h
  .exact absurd hj (hR.gG j h)
 .intro i c v hc hv;exact(hR.gh i c v hc hv).mono eh (up.refl _ _)
end
def qt(P:Program)(cH:Bz)(nt:Nat):Code->CC
 |.skip=>.skip
 |.region _ ops draw=>if draw then wZ ops.toList (ops.toList.map (gw P cH nt ops)) []else .region (ops.toList.map (gw P cH nt ops)) []
 |.seq a b=>.seq (qt P cH nt a) (qt P cH nt b)
 |.cond c a b=>.cond c (qt P cH nt a) (qt P cH nt b)
 |.block id a=>.block id (qt P cH nt a)
 |.loop a=>.loop [] (qt P cH nt a)
 |.scope a=>qt P cH nt a
 |.label _=>.skip
 |.exit id=>.exit id
 |.ret=>.ret
 |_=>.gi
def OM:sR->Exit
 |.normal=>.normal
 |.exit id=>.exit id
 |.ret=>.ret
def Sub(s s1:St):Prop:=∀(S K:Nat->Prop)(w0:World)(Kn:Nat->Prop)(φ:Nat->gI)(gv:List Value)(nt:Nat)(a:Act)(w:World),
 GH S K w0 Kn φ gv nt s a w->∃S' Kn' φ',gU S w S' w/\GH S' K w0 Kn' φ' gv nt s1 a w
theorem Sub.refl(s:St):Sub s s:=fun S _ _ Kn φ _ _ _ w h=>⟨S,Kn,φ,gU.refl S w,h⟩
theorem Sub.trans{s s1 s2:St}(a:Sub s s1)(b:Sub s1 s2):Sub s s2:=fun S K w0 Kn φ gv nt ac w h=>
 let⟨S1,Kn1,φ1,h1,h2⟩:=a S K w0 Kn φ gv nt ac w h;let⟨S2,Kn2,φ2,h3,h4⟩:=b S1 K w0 Kn1 φ1 gv nt ac w h2
 ⟨S2,Kn2,φ2,h1.trans h3,h4⟩
def wk(Q:St->Prop)(s:St):Prop:=∃s1,Sub s s1/\Q s1
theorem wk.of{Q:St->Prop}{s:St}(h:Q s):wk Q s:=⟨s,Sub.refl s,h⟩
def WO(P:Program):List oE->St->(St->Prop)->Prop
 |[],s,Q=>wk Q s
 |o::r,s,Q=>∃s1,Sub s s1/\
  ((kw s1.dH o.guard=some true/\∃call v u aB n,nz P call/\cL call o.k (o.args.map (kP s1.dH)) s1.heap s1.next=some (v,u,aB,n)/\WO P r ⟨put s1.dH o.dst v,u++s1.heap,n,s1.gh⟩ Q)\/
   (kw s1.dH o.guard=some false/\WO P r ⟨drop s1.dH o.dst,s1.heap,s1.next,s1.gh⟩ Q))
def uK(R:St->Prop)(Q:sR->St->Prop):sR->St->Prop
 |.normal,s=>R s
 |.exit id,s=>Q (.exit id) s
 |.ret,s=>Q .ret s
def wa(id:Nat)(Q:sR->St->Prop):sR->St->Prop
 |.exit id',s=>if id'=id then Q .normal s else Q (.exit id') s
 |.normal,s=>Q .normal s
 |.ret,s=>Q .ret s
def W(P:Program):CC->St->(sR->St->Prop)->Prop
 |.skip,s,Q=>wk (Q .normal) s
 |.region ops _,s,Q=>WO P ops s fun s'=>wk (Q .normal) s'
 |.drawn ops dyn _,s,Q=>∃s1,Sub s s1/\∃calls e h tr,(∀i,nz P (calls i))/\nv calls s1.next ops 0 s1.dH s1.heap=some (e,h,tr)/\Bi tr dyn=true/\
   wk (Q .normal) ⟨e,h,s1.next+iS*ops.length,s1.gh⟩
 |.seq a b,s,Q=>W P a s (uK (fun s'=>W P b s' Q) Q)
 |.cond c a b,s0,Q=>∃s,Sub s0 s/\∃t,kP s.dH c=some (.c (.d (.lit (.bool t))))/\(t=true->W P a s Q)/\(t=false->W P b s Q)
 |.block id a,s,Q=>W P a s (wa id Q)
 |.loop _ a,s,Q=>∃(I:Nat->St->Prop)(n:Nat),wk (I n) s/\∀n s,I n s->W P a s (uK (fun s'=>∃m,m<n/\wk (I m) s') Q)
 |.exit id,s,Q=>wk (Q (.exit id)) s
 |.ret,s,Q=>wk (Q .ret) s
 |.gi,_,_=>False
section
variable{P:Program}{S K:Nat->Prop}{w0 w:World}{Kn:Nat->Prop}{φ:Nat->gI}{gv:List Value}{nt:Nat}{a:Act}{cH:Bz}{s s':St}
theorem Jq{all:Array Oper}{R:Exit->Act->World->Prop}(hnt:nt<1000000000){Q:St->Prop}:∀(l:List Nat)(os:List Oper)(s:St)(S:Nat->Prop)(Kn:Nat->Prop)(φ:Nat->gI)(a:Act)(w:World),
  (∀(i j:Nat),l[i]?=some j->all[j]?=os[i]?)->l.length=os.length->WO P (os.map (gw P cH nt all)) s Q->GH S K w0 Kn φ gv nt s a w->
  (∀S' Kn' φ' s' a' w',Q s'->gU S w S' w'->GH S' K w0 Kn' φ' gv nt s' a' w'->R .normal a' w')->wpOps P all R l a w:=by
 intro l;induction l with
 |nil=>intro os s S Kn φ a w _ hl h hR hQ;obtain rfl:os=[]:=bz.1 hl.symm;obtain⟨s1,h1,h2⟩:=h;obtain⟨S1,Kn1,φ1,h3,h4⟩:=h1 S K w0 Kn φ gv nt a w hR;exact hQ S1 Kn1 φ1 s1 a w h2 h3 h4
 |cons i l ih=>
  intro os s S Kn φ a w hi hl h hR hQ;cases os with
  |nil=>simp at hl
  |cons o os=>
   have ho:all[i]?=some o:=by simpa using hi 0 i rfl
   simp only[aD,WO]at h;obtain⟨s1,hsub,h⟩:=h;obtain⟨S1,Kn1,φ1,hs1,hR1⟩:=hsub S K w0 Kn φ gv nt a w hR;simp only[wpOps,ho];rcases h with⟨hw,call,v,u,aB,n,hok,hev,h⟩|⟨hw,h⟩
   .have hwant:=qx hR1.dH (by rw[hR1.size];exact hnt) hw;rw[if_pos hwant];left
    have hdst:∀x,o.dst=some x->x<a.tmps.size:=by
     intro x hx;rw[hR1.size];rcases e_ x nt with h1|h1
     .exact h1
     .exfalso;have:(gw P cH nt all o).k=.gi:=by simp only[gw,hx];rw[if_neg (by simp;omega)]
      rw[this,fN]at hev;simp at hev
    have hk:xD P cH o.op=((gw P cH nt all o).k,(gw P cH nt all o).args):=by
     have:(gw P cH nt all o).k=(xD P cH o.op).1:=by simp only[gw];rw[if_pos];cases hd:o.dst with|none=>rfl|some d=>have:=hdst d hd;rw[hR1.size]at this;simpa using this
     rw[this];rfl
    have hgo:=Dy hok hk hR1.inv hR1.dH (fun j hj _=>hR1.gG j hj) hev;refine hgo _ _ fun val w' hD=>?_;obtain⟨hle,S',φ',h1,h2,h3,h4⟩:=hD;refine ih os _ S' (pJ Kn1 s1.next n) φ' _ w' (fun i' j hj=>hi (i'+1) j (by simpa using hj)) (by simpa using hl) h ⟨?_,?_,?_,?_,?_,?_⟩ fun S2 Kn2 φ2 s2 a2 w2 h0 h5 h6=>hQ S2 Kn2 φ2 s2 a2 w2 h0 ((hs1.trans h1).trans h5) h6
    .simp only[gF];exact h4
    .exact jG.JT hR1.dH h1 h2 hdst h3
    .rw [vB];exact hR1.size
    .rw [sg];exact hR1.defers
    .intro j hj hk;simp only at hj;rcases hk with hk|hk
     .exact hR1.gG j (by omega) hk
     .omega
    .intro i c v hc hv;exact(hR1.gh i c v hc hv).mono h1 h2
   .have hwant:=qx hR1.dH (by rw[hR1.size];exact hnt) hw;rw[if_neg (by simp[hwant])];refine ih os _ S1 Kn1 φ1 _ w (fun i' j hj=>hi (i'+1) j (by simpa using hj)) (by simpa using hl) h ⟨hR1.inv,?_,?_,?_,hR1.gG,hR1.gh⟩ fun S2 Kn2 φ2 s2 a2 w2 h0 h5 h6=>hQ S2 Kn2 φ2 s2 a2 w2 h0 (hs1.trans h5) h6
    .exact jG.Hj hR1.dH
    .rw [vB];exact hR1.size
    .rw [sg];exact hR1.defers
theorem BC{c:Code}{Q:Exit->Act->World->Prop}(J:Nat->Act->World->Prop)(n:Nat)(h₀:J n a w)
  (round:∀n a w,J n a w->c.wp P (Exit.then (fun a w=>∃m,m<n/\J m a w) Q) a w):(Code.loop c).wp P Q a w:=by
 intro b k cs
 have key:∀n a w,J n a w->∃e a' w',Q e a' w'/\Arrives P (lone (b.at a (.code c::.inLoop c::k)) cs w) b k cs e a' w':=by
  intro n;induction n using Nat.strongRecOn with
  |_ n ih=>intro a w hJ;obtain⟨e,a₁,w₁,hq,harr⟩:=round n a w hJ b (.inLoop c::k) cs;cases e with|normal=>obtain⟨m,hlt,hq⟩:=hq;obtain⟨e₂,a₂,w₂,hq₂,harr₂⟩:=ih m hlt a₁ w₁ hq;exact⟨e₂,a₂,w₂,hq₂,.of_steps (Steps.trans harr (.one step_inLoop)) harr₂⟩|exit id=>exact⟨_,a₁,w₁,hq,.pass (x:=.inLoop c) rfl (fun _ _=>.inl (by simp)) harr⟩|goto l=>exact⟨_,a₁,w₁,hq,.pass (x:=.inLoop c) rfl (fun _ _=>.inl (by simp)) harr⟩|ret=>exact⟨_,a₁,w₁,hq,.pass (x:=.inLoop c) rfl (fun _ _=>.inl (by simp)) harr⟩|panic ch=>exact⟨_,a₁,w₁,hq,.pass (x:=.inLoop c) rfl (fun _ _=>.inl (by simp)) harr⟩|outgrown=>exact⟨_,a₁,w₁,hq,.pass (x:=.inLoop c) rfl (fun _ _=>.inl (by simp)) harr⟩
 obtain⟨e,a',w',hq,harr⟩:=key n a w h₀;exact⟨e,a',w',hq,.of_steps (.one step_loop) harr⟩
def xS(S K:Nat->Prop)(w0 w:World)(gv:List Value)(nt:Nat)(Q:sR->St->Prop)(e:Exit)(a':Act)(w':World):Prop:=∃o s',Q o s'/\e=OM o/\∃S' Kn' φ',gU S w S' w'/\GH S' K w0 Kn' φ' gv nt s' a' w'
theorem xS.trans{S':Nat->Prop}{w':World}(h:gU S w S' w'){Q:sR->St->Prop}{e:Exit}{a':Act}{w'':World}(hp:xS S' K w0 w' gv nt Q e a' w''):xS S K w0 w gv nt Q e a' w'':=by obtain⟨o,s',h0,h1,S'',Kn',φ',h2,h3⟩:=hp;exact⟨o,s',h0,h1,S'',Kn',φ',h.trans h2,h3⟩
theorem xS.AX{Q:sR->St->Prop}{o:sR}{a':Act}{w':World}{S' Kn':Nat->Prop}{φ':Nat->gI}(h:wk (Q o) s')(hs:gU S w S' w')(hR:GH S' K w0 Kn' φ' gv nt s' a' w'):xS S K w0 w gv nt Q (OM o) a' w':=by obtain⟨s1,h1,h2⟩:=h;obtain⟨S1,Kn1,φ1,h3,h4⟩:=h1 S' K w0 Kn' φ' gv nt a' w' hR;exact⟨o,s1,h2,rfl,S1,Kn1,φ1,hs.trans h3,h4⟩
theorem Gr(hnt:nt<1000000000)(hm:P.follows .mixedOrders=true):∀(code:Code)(s:St)(Q:sR->St->Prop)(S:Nat->Prop)(Kn:Nat->Prop)(φ:Nat->gI)(a:Act)(w:World),
  W P (qt P cH nt code) s Q->GH S K w0 Kn φ gv nt s a w->code.wp P (xS S K w0 w gv nt Q) a w:=by
 intro code;induction code with
 |skip=>intro s Q S Kn φ a w h hR;exact wp_skip (xS.AX h (gU.refl _ _) hR)
 |region id ops draw=>
  intro s Q S Kn φ a w h hR;simp only[qt]at h;cases draw with
  |false=>
   simp only[aX,if_false,W]at h;refine wp_region ?_;refine Jq (gv:=gv) (K:=K) (w0:=w0) hnt (List.range ops.size) ops.toList s S Kn φ a w ?_ (by simp) h hR fun S' Kn' φ' s' a' w' h0 h1 h2=>xS.AX (o:=.normal) h0 h1 h2;intro i j hj;obtain⟨hlt,rfl⟩:i<ops.size/\i=j:=by have:=aq.1 hj;obtain⟨h1,h2⟩:=this;simp at h1 h2;exact⟨h1,h2⟩
   simp
  |true=>
   simp only[if_true]at h;unfold wZ at h;simp only at h;split at h
   .rename_i hc;simp only[ai]at hc;simp only[W]at h;obtain⟨s1,hsub,calls,e1,h1,tr,hok,hev,hdyn,hq⟩:=h;obtain⟨S1,Kn1,φ1,hs1,hR1⟩:=hsub S K w0 Kn φ gv nt a w hR;refine wp_region_any hm ?_;exact Eg hok hnt rfl hc.1.1 hc.1.2 hev hdyn (by simpa using hc.2) hR1 fun S' Kn' φ' a' w' h1 h2=>xS.AX (o:=.normal) hq (hs1.trans h1) h2
   .simp [W]at h
 |seq x y ihx ihy=>intro s Q S Kn φ a w h hR;simp only[qt,W]at h;refine wp_seq ?_;refine wp_mono (ihx s _ S Kn φ a w h hR) fun e a' w' hp=>?_;obtain⟨o,s',h0,rfl,S',Kn',φ',h1,h2⟩:=hp;cases o with|normal=>exact wp_mono (ihy s' Q S' Kn' φ' a' w' h0 h2) fun e a'' w'' hp=>hp.trans h1|exit id=>exact⟨.exit id,s',h0,rfl,S',Kn',φ',h1,h2⟩|ret=>exact⟨.ret,s',h0,rfl,S',Kn',φ',h1,h2⟩
 |cond c x y ihx ihy=>intro s Q S Kn φ a w h hR;simp only[qt,W]at h;obtain⟨s1,hsub,t,ht,h1,h2⟩:=h;obtain⟨S1,Kn1,φ1,hs1,hR1⟩:=hsub S K w0 Kn φ gv nt a w hR;have hv:=(ue hR1.inv.B7 hR1.dH ht).lit.1;refine wp_cond hv ?_;cases t with|true=>exact wp_mono (ihx s1 Q S1 Kn1 φ1 a w (h1 rfl) hR1) fun _ _ _ hp=>hp.trans hs1|false=>exact wp_mono (ihy s1 Q S1 Kn1 φ1 a w (h2 rfl) hR1) fun _ _ _ hp=>hp.trans hs1
 |block id x ih=>
  intro s Q S Kn φ a w h hR;simp only[qt,W]at h;refine wp_block ?_;refine wp_mono (ih s _ S Kn φ a w h hR) fun e a' w' hp=>?_;obtain⟨o,s',h0,rfl,hp⟩:=hp;cases o with
  |normal=>exact⟨.normal,s',h0,rfl,hp⟩
  |ret=>exact⟨.ret,s',h0,rfl,hp⟩
  |exit id'=>
   simp only[OM,Exit.inBlock];simp only[wa]at h0;by_cases hid:id'=id
   .rw [if_pos hid]at h0|-;exact⟨.normal,s',h0,rfl,hp⟩
   .rw [if_neg hid]at h0|-;exact⟨.exit id',s',h0,rfl,hp⟩
 |loop x ih=>intro s Q S Kn φ a w h hR;simp only[qt,W]at h;obtain⟨I,n,⟨s0,hsub,hI⟩,hstep⟩:=h;obtain⟨S0,Kn0,φ0,hs0,hR0⟩:=hsub S K w0 Kn φ gv nt a w hR;refine BC (J:=fun n a' w'=>∃s1 S1 Kn1 φ1,gU S w S1 w'/\GH S1 K w0 Kn1 φ1 gv nt s1 a' w'/\I n s1) n ⟨s0,S0,Kn0,φ0,hs0,hR0,hI⟩ fun n a1 w1 hJ=>?_;obtain⟨s1,S1,Kn1,φ1,h1,h2,h3⟩:=hJ;refine wp_mono (ih s1 _ S1 Kn1 φ1 a1 w1 (hstep n s1 h3) h2) fun e a' w' hp=>?_;obtain⟨o,s2,h0,rfl,S2,Kn2,φ2,h4,h5⟩:=hp;cases o with|normal=>obtain⟨m,hm,s3,h6,h7⟩:=h0;obtain⟨S3,Kn3,φ3,h8,h9⟩:=h6 S2 K w0 Kn2 φ2 gv nt a' w' h5;exact⟨m,hm,s3,S3,Kn3,φ3,(h1.trans h4).trans h8,h9,h7⟩|exit id=>exact⟨.exit id,s2,h0,rfl,S2,Kn2,φ2,h1.trans h4,h5⟩|ret=>exact⟨.ret,s2,h0,rfl,S2,Kn2,φ2,h1.trans h4,h5⟩
 |exit id=>intro s Q S Kn φ a w h hR;exact wp_exit (xS.AX (o:=.exit id) h (gU.refl _ _) hR)
 |ret=>intro s Q S Kn φ a w h hR;exact wp_ret (xS.AX (o:=.ret) h (gU.refl _ _) hR)
 |scope x ih=>intro s Q S Kn φ a w h hR;refine wp_scope_straight (wp_mono (ih s Q S Kn φ a w h hR) fun e a' w' hp=>?_);obtain⟨o,s',h0,rfl,h1⟩:=hp;cases o<;>exact⟨_,s',h0,rfl,h1⟩
 |label l=>intro s Q S Kn φ a w h hR;exact wp_label (xS.AX (o:=.normal) h (gU.refl _ _) hR)
 |_=>intro s Q S Kn φ a w h hR;simp[qt,W]at h
end
def Ms(P:Program):ResultVar->Option RV
 |.tmp t=>some (.tmp t)
 |.cell a t=>match fS P t,fK P t with|some g,some n=>some (.cell a g n)|_,_=>none
def AL(P:Program):List ResultVar->Option (List RV)
 |[]=>some []
 |r::rs=>match Ms P r,AL P rs with|some x,some xs=>some (x::xs)|_,_=>none
def zK(P:Program)(cH:Bz)(f np:Nat):Option Fn:=
 match P.funcs[f]?with
 |none=>none
 |some g=>
  match g.body with
  |none=>none
  |some code=>
   if(g.name== "runtime.NumGoroutine")=false/\np<=g.ntmps/\g.ntmps<1000000000 then
    match AL P g.results.toList with|some k8=>some ⟨np,g.ntmps,k8,qt P cH g.ntmps code⟩|none=>none
   else none
section
variable{P:Program}{S K:Nat->Prop}{w0 w:World}{gv:List Value}{nt:Nat}{a:Act}{call:Call}{cH:Bz}{s s':St}
theorem Eb:∀(as:List A){Kn:Nat->Prop}{φ:Nat->gI}{hf:Nat->Option Ob}(vs:List Value)(fp:List Nat)(i n:Nat),Inv S K w0 Kn φ hf w->(∀j,n<=j->¬Kn j)->L6 S w as vs fp->fp.Nodup->
  (∀b∈fp,¬S b/\¬K b)->gj w φ hf fp->
  ∃φ',sJ S K w0 w Kn φ hf fp n (enter as i n).2.2.1 (enter as i n).2.1 φ'/\
   (∀t x,cz (enter as i n).1 t=some x->i<=t/\∃v,vs[t-i]?=some v/\ge S w (pJ Kn n (enter as i n).2.2.1) φ' x v)/\
   (∀(k:Nat)(c:C)(v:Value),(enter as i n).2.2.2[k]?=some c->(oQ as vs)[k]?=some v->RC S w (pJ Kn n (enter as i n).2.2.1) φ' c v)/\
   (enter as i n).2.2.2.length=(oQ as vs).length/\as.length=vs.length:=by
 intro as;induction as with
 |nil=>intro Kn φ hf vs fp i n hI hfr h hn hSK ha;cases vs with|cons v vs=>exact h.elim|nil=>obtain rfl:fp=[]:=h;exact⟨φ,sJ.nil hI _ _,fun t x hx=>by simp[enter,cz]at hx,fun k c v hk=>by simp[enter]at hk,rfl,rfl⟩
 |cons x as ih=>
  intro Kn φ hf vs fp i n hI hfr h hn hSK ha;cases vs with
  |nil=>exact h.elim
  |cons v vs=>
   obtain⟨f1,f2,rfl,h1,h2⟩:=h;have next:∀{e:jG}{i':Nat}{t:Nat}{x:TV}{φ':Nat->gI}{Kn':Nat->Prop},i+1<=t/\(∃v,vs[t-(i+1)]?=some v/\ge S w Kn' φ' x v)->i<=t/\∃v',(v::vs)[t-i]?=some v'/\ge S w Kn' φ' x v':=by intro e i' t x φ' Kn' ⟨q1,v',q2,q3⟩;refine⟨by omega,v',?_,q3⟩;rw[show t-i=(t-(i+1))+1 by omega];simpa using q2
   cases x with
   |d y=>
    obtain⟨h1,rfl⟩:=h1;obtain⟨φ',q1,q2,q3,q4,q5⟩:=ih (Kn:=Kn) (φ:=φ) (hf:=hf) vs f2 (i+1) n hI hfr h2 (by simpa using hn) (by simpa using hSK) (by simpa using ha);refine⟨φ',q1,fun t x hx=>?_,q3,q4,by simp[q5]⟩;simp only[enter,cz]at hx;by_cases e:i=t
    .subst e;simp at hx;subst hx;exact⟨aw _,v,by simp,.c (.d h1)⟩
    .have e':(i==t)=false:=by simpa using e
     rw[e',cond_false]at hx;exact next (e:=[]) (i':=0) (q2 t x hx)
   |agg xs=>
    obtain⟨aP,rfl,hlen,h1,rfl⟩:=h1;obtain⟨φ',q1,q2,q3,q4,q5⟩:=ih (Kn:=Kn) (φ:=φ) (hf:=hf) vs f2 (i+1) n hI hfr h2 (by simpa using hn) (by simpa using hSK) (by simpa using ha);refine⟨φ',q1,fun t x hx=>?_,q3,q4,by simp[q5]⟩;simp only[enter,cz]at hx;by_cases e:i=t
    .subst e;simp at hx;subst hx;refine⟨aw _,_,by simp;rfl,.agg (by simpa using hlen) fun j x hj=>?_⟩;rw[aM]at hj;obtain⟨d,hd,rfl⟩:=aK.1 hj;exact .d (h1 j d hd)
    .have e':(i==t)=false:=by simpa using e
     rw[e',cond_false]at hx;exact next (e:=[]) (i':=0) (q2 t x hx)
   |mt t0=>
    rw[cE]at hn;obtain⟨hn1,hn2,hn3⟩:=hn;simp only[au]at hSK;obtain⟨φ1,hL1,hr1⟩:=wh t0 n v f1 hI (fun j hj _=>hfr j hj) h1 hn1 (fun b hb=>hSK b (.inl hb)) (fun j o hj hown x hx hm=>ha j o hj hown x hx (by simp[hm]))
    obtain⟨φ2,hL2,q2,q3,q4,q5⟩:=ih (Kn:=pJ Kn n (kY n t0).2.2) (φ:=φ1) (hf:=bA (kY n t0).2.1 hf) vs f2 (i+1) (kY n t0).2.2 hL1.inv (fun j hj hk=>by
     rcases hk with hk|hk
     .have:=hL1.le;exact hfr j (by omega) hk
     .omega) h2 hn2 (fun b hb=>hSK b (.inr hb)) (hL1.NC hI (fun j o hj hown x hx hm=>ha j o hj hown x hx (by simp[hm])) fun x hx hx2=>hn3 x hx x hx2 rfl)
    have hcomp:=hL1.qt hL2;have hcm:bA ((enter as (i+1) (kY n t0).2.2).2.1++(kY n t0).2.1) hf=bA ((kY n t0).2.1++(enter as (i+1) (kY n t0).2.2).2.1) hf:=mH fun p hp q hq e=>by have h1:=hL2.gG p hp;have h2:=hL1.gG q hq;omega
    have hsub:∀j,pJ (pJ Kn n (kY n t0).2.2) (kY n t0).2.2 (enter as (i+1) (kY n t0).2.2).2.2.1 j->pJ Kn n (enter as (i+1) (kY n t0).2.2).2.2.1 j:=fun j=>(ss hL1.le hL2.le j).1;refine⟨φ2,?_,fun t x hx=>?_,fun k c v' hk hv=>?_,by simp[enter,oQ,q4],by simp[q5]⟩
    .simp only[enter];have hsw:∀{p:Nat×Option Ob}{a b:fA},p∈a++b->p∈b++a:=fun hp=>au.2 (au.1 hp).symm;exact⟨hcomp.le,hcomp.sY,hcm▸hcomp.inv,fun p hp=>hcomp.gG p (hsw hp),fun p hp x hx=>hcomp.cY p (hsw hp) x (hcm.symm▸hx)⟩
    .simp only[enter,cz]at hx|-;by_cases e:i=t
     .subst e;simp at hx;subst hx;exact⟨aw _,v,by simp,.c ((hr1.mono (gU.refl _ _) hL2.sY).kn hsub)⟩
     .have e':(i==t)=false:=by simpa using e
      rw[e',cond_false]at hx;obtain⟨p1,v',p2,p3⟩:=q2 t x hx;exact next (e:=[]) (i':=0) ⟨p1,v',p2,p3.mono (gU.refl _ _) ⟨hsub,fun _ _=>rfl⟩⟩
    .simp only[enter]at hk|-;simp only[oQ]at hv;cases k with
     |zero=>
      obtain rfl:(kY n t0).1=c:=by simpa using hk
      obtain rfl:v=v':=by simpa using hv
      exact(hr1.mono (gU.refl _ _) hL2.sY).kn hsub
     |succ k=>exact(q3 k c v' (by simpa using hk) (by simpa using hv)).kn hsub
theorem Dr{Kn:Nat->Prop}{φ:Nat->gI}{H:bM}(hI:Inv S K w0 Kn φ (aC H) w){v:TV}{r:R}{bG:List Nat}{x:Value}(h:sM H v=some (r,bG))(hv:ge S w Kn φ v x):
  RR S w r x (bG.flatMap (ip w φ (aC H)))/\∀i∈bG,∃o,aC H i=some o/\cR o=true:=by
 cases hv with
 |c hv=>
  simp only[sM]at h;split at h
  .rename_i t aB rd hp;obtain⟨rfl,rfl⟩:R.c t=r/\aB=bG:=by simpa using h
   exact(si hI 300).1 _ _ _ _ _ hp hv
  .simp at h
 |@agg cs aP hlen hv=>
  simp only[sM]at h;split at h
  .rename_i ts aB rd hp;obtain⟨rfl,rfl⟩:R.agg ts=r/\aB=bG:=by simpa using h
   obtain⟨h1,⟨fps,h2,h3,h4⟩,h5⟩:=(si hI 300).2 _ _ _ _ hp (fun i=>aP.getD i undef) hv;exact⟨⟨aP,fps,rfl,h1.trans hlen,h2,h3,h4⟩,h5⟩
  .simp at h
 |iP hlen hv=>simp[sM]at h
theorem BX{Kn:Nat->Prop}{φ:Nat->gI}{H:bM}(hI:Inv S K w0 Kn φ (aC H) w):∀(tvs:List TV)(vs:List Value)(rs:List R)(bG:List Nat),u6 H tvs=some (rs,bG)->tvs.length=vs.length->
  (∀(i:Nat)(t:TV)(v:Value),tvs[i]?=some t->vs[i]?=some v->ge S w Kn φ t v)->EH S w rs vs (bG.flatMap (ip w φ (aC H)))/\∀i∈bG,∃o,aC H i=some o/\cR o=true:=by
 intro tvs;induction tvs with
 |nil=>
  intro vs rs bG h hl hr;obtain⟨rfl,rfl⟩:[]=rs/\[]=bG:=by simpa[u6]using h
  obtain rfl:vs=[]:=bz.1 hl.symm;exact⟨rfl,fun i hi=>by simp at hi⟩
 |cons t tvs ih=>
  intro vs rs bG h hl hr;cases vs with
  |nil=>simp at hl
  |cons v vs=>
   simp only[u6]at h;split at h
   .rename_i r o1 rs1 o2 hp hps;obtain⟨rfl,rfl⟩:r::rs1=rs/\o1++o2=bG:=by simpa using h
    obtain⟨a1,a2⟩:=Dr hI hp (hr 0 t v rfl rfl);obtain⟨b1,b2⟩:=ih vs rs1 o2 hps (by simpa using hl) (fun i t v hi hv=>hr (i+1) t v (by simpa using hi) (by simpa using hv));refine⟨⟨_,_,by simp,a1,b1⟩,fun i hi=>?_⟩;rcases au.1 hi with hi|hi
    .exact a2 i hi
    .exact b2 i hi
   .simp at h
inductive v_(h:bM):List C->List T->List Nat->Prop
 |nil:v_ h [] [] []
 |cons {c:C} {cs:List C} {t:T} {ts:List T} {a i b:List Nat} (h1:eK h 300 c=some (t,a,i)) (h2:v_ h cs ts b):v_ h (c::cs) (t::ts) (a++b)
 |wR {c:C} {cs:List C} {ts:List T} {b:List Nat} (h2:v_ h cs ts b):v_ h (c::cs) (.wR::ts) b
theorem Ds{Kn:Nat->Prop}{φ:Nat->gI}{H:bM}(hI:Inv S K w0 Kn φ (aC H) w){cs:List C}{ts:List T}{bG:List Nat}(h:v_ H cs ts bG):∀(vs:List Value),cs.length=vs.length->
  (∀(i:Nat)(c:C)(v:Value),cs[i]?=some c->vs[i]?=some v->RG S w Kn φ c v)->Oh S w ts vs (bG.flatMap (ip w φ (aC H)))/\∀i∈bG,∃o,aC H i=some o/\cR o=true:=by
 induction h with
 |nil=>intro vs hl hr;obtain rfl:vs=[]:=bz.1 hl.symm;exact⟨rfl,fun i hi=>by simp at hi⟩
 |@cons c cs t ts a rd b hp _ ih=>
  intro vs hl hr;cases vs with
  |nil=>simp at hl
  |cons v vs=>
   have hrc:RC S w Kn φ c v:=(hr 0 c v rfl rfl).resolve_left fun e=>by subst e;simp[sO,eK]at hp
   obtain⟨a1,a2⟩:=(si hI 300).1 _ _ _ _ _ hp hrc;obtain⟨b1,b2⟩:=ih vs (by simpa using hl) (fun i t v hi hv=>hr (i+1) t v (by simpa using hi) (by simpa using hv));refine⟨⟨_,_,by simp,.inr a1,b1⟩,fun i hi=>?_⟩;rcases au.1 hi with hi|hi
   .exact a2 i hi
   .exact b2 i hi
 |@wR c cs ts b _ ih=>intro vs hl hr;cases vs with|nil=>simp at hl|cons v vs=>obtain⟨b1,b2⟩:=ih vs (by simpa using hl) (fun i t v hi hv=>hr (i+1) t v (by simpa using hi) (by simpa using hv));exact⟨⟨[],_,rfl,.inl ⟨rfl,rfl⟩,b1⟩,b2⟩
def xg(k8:List RV)(s:St)(rs:List R)(outs:List T):Prop:=∃vs a b,eH (k8.map (xn s))=some vs/\u6 s.heap vs=some (rs,a)/\v_ s.heap s.gh outs b/\(a++b).Nodup
def r_(tmps:Array Value):ResultVar->Sem Value
 |.tmp t=>pure (tmps.getD t undef)
 |.cell a t=>do loadVar t (<-asAddr (tmps.getD a undef))
theorem DQ{t:TypeId}{pv val:Value}(h:(Instr.loadAt t pv).run P w=.ok val w):(do loadVar t (<-asAddr pv):Sem Value).run P w=.ok val w:=by
 cases pv with
 |pointer x=>cases x with|some a=>simpa[Instr.loadAt,Instr.sureAddr,asAddr]using h|none=>simp[Instr.loadAt,Instr.sureAddr]at h
 |_=>simp[Instr.loadAt,Instr.sureAddr]at h
theorem BO{Kn:Nat->Prop}{φ:Nat->gI}(hI:Inv S K w0 Kn φ (aC s.heap) w)(hE:jG.ok S w Kn φ s.dH a.tmps){r:ResultVar}{x:RV}{v:TV}(hr:Ms P r=some x)(h:xn s x=some v):
  ∃val,(r_ a.tmps r).run P w=.ok val w/\ge S w Kn φ v val:=by
 cases r with
 |tmp t=>
  obtain rfl:RV.tmp t=x:=by simpa[Ms]using hr
  exact⟨_,by simp[r_],hE t v h⟩
 |cell t ty=>
  simp only[Ms]at hr;split at hr
  .rename_i g n hg hn;obtain rfl:=aa hr;simp only[xn]at h;split at h
   .rename_i p hp;split at h
    .rename_i v' aB hl;obtain rfl:=aa h;cases hE t _ hp with|c hc=>obtain⟨val,h1,h2⟩:=yH hg hn hI hc hl;exact⟨val,DQ h1,h2⟩
    .simp at h
   .simp at h
  .simp at hr
theorem Ad{Kn:Nat->Prop}{φ:Nat->gI}(hI:Inv S K w0 Kn φ (aC s.heap) w)(hE:jG.ok S w Kn φ s.dH a.tmps):∀(rs:List ResultVar)(xs:List RV)(tvs:List TV),AL P rs=some xs->eH (xs.map (xn s))=some tvs->
  ∃vs,(rs.mapM (r_ a.tmps)).run P w=.ok vs w/\tvs.length=vs.length/\∀(i:Nat)(t:TV)(v:Value),tvs[i]?=some t->vs[i]?=some v->ge S w Kn φ t v:=by
 intro rs;induction rs with
 |nil=>
  intro xs tvs h1 h2;obtain rfl:[]=xs:=by simpa[AL]using h1
  obtain rfl:[]=tvs:=by simpa[eH]using h2
  exact⟨[],by simp,rfl,fun i t v hi=>by simp at hi⟩
 |cons r rs ih=>
  intro xs tvs h1 h2;simp only[AL]at h1;split at h1
  .rename_i x xs1 hx hxs;obtain rfl:=aa h1;simp only[aD]at h2;cases hv:xn s x with
   |none=>rw[hv]at h2;simp[eH]at h2
   |some v=>
    rw[hv]at h2;simp only[eH]at h2;split at h2
    .rename_i tvs1 htv;obtain rfl:=aa h2;obtain⟨val,q1,q2⟩:=BO hI hE hx hv;obtain⟨vs,q3,q4,q5⟩:=ih xs1 tvs1 hxs htv;refine⟨val::vs,by simp[List.mapM_cons,q1,q3],by simp[q4],fun i t v' hi hv'=>?_⟩;cases i with
     |zero=>
      obtain rfl:v=t:=by simpa using hi
      obtain rfl:val=v':=by simpa using hv'
      exact q2
     |succ i=>exact q5 i t v' (by simpa using hi) (by simpa using hv')
    .simp at h2
  .simp at h1
theorem C3{g:Func}{tmps:Array Value}{vs:List Value}(h:(g.results.toList.mapM (r_ tmps)).run P w=.ok vs w):(results g tmps).run P w=.ok (yL vs) w:=by
 have e:results g tmps=(do let vs<-g.results.mapM (r_ tmps);pure (if h:vs.size=1 then vs[0]else .tuple vs)):=rfl;have e2:g.results.mapM (r_ tmps)=(do let vs<-g.results.toList.mapM (r_ tmps);pure vs.toArray):=by rw[Array.mapM_eq_mapM_toList,bind_pure_comp]
 rw[e,e2];simp only[Sem.run_bind,h,Result.andThen_ok,Sem.run_pure]
 match vs with|[]=>rfl|[v]=>rfl|v::v'::r=>simp[yL]
def OH(sz:Nat):Option (List (List D))->D
 |none=>.lit (.slice none 0 0)
 |some ao=>.sl sz ao
mutual
def sV:T->D
 |.d x=>x
 |.wR=>.lit .nilFunc
 |.sl sz ao=>.sl sz ao
 |.zZ sz ao=>.sl 1 (ao.map fun r=>[OH sz r])
 |.pt ts=>.pt (M_ ts)
def M_:List T->List D
 |[]=>[]
 |t::ts=>sV t::M_ ts
end
theorem Ld:∀ts:List T,M_ ts=ts.map sV:=by intro ts;induction ts with|nil=>rfl|cons t ts ih=>simp[M_,ih]
theorem RT.A5{S S':Nat->Prop}{w:World}{t:T}{v:Value}{fp:List Nat}(h:RT S w t v fp)(hS:∀b,S b->S' b)(hb:∀b∈fp,S' b):RD S' w (sV t) v:=by
 have eh:gU S w S' w:=⟨hS,fun _ _=>rfl⟩
 induction h with
 |d h=>exact h.mono eh
 |@sl sz ao b off len cap aP hsz ho hlen hcap hext hr=>
  subst hlen;refine .sl (fun i j=>aP.getD (off+i*sz+j) undef) (hb b (by simp)) hsz hcap hr.1 (fun i r hi j x hj=>?_) (fun i r hi j x hj=>?_)
  .obtain ⟨v,h1,h2⟩:=hr.2 i r hi j x hj;simp only at h1;rw[ho.cell,h1,bI,h1];rfl
  .obtain ⟨v,h1,h2⟩:=hr.2 i r hi j x hj;simp only at h1;rw[bI,h1];exact h2.mono eh
 |@zZ sz ao b off cap aP fps hsz ho hcap hext hfl h=>
  have key:=RD.AJ (S:=S') (w:=w) (sz:=1) (ao:=ao.map fun r=>[OH sz r]) (b:=b) (off:=off) (len:=ao.length) (cap:=cap) (hb b (by simp)) Nat.one_pos (by simp) hcap ⟨fun i r hi=>?_,fun i r hi j x hj=>?_⟩
  .exact key
  .rw [aM]at hi;obtain⟨r',_,rfl⟩:=aK.1 hi;rfl
  .rw [aM]at hi;obtain⟨r',hr',rfl⟩:=aK.1 hi;have hl:=(aq.1 hr').1;cases j with
   |succ j=>simp at hj
   |zero=>
    obtain rfl:OH sz r'=x:=by simpa using hj
    obtain⟨v,h1,h2⟩:=h i r' fps[i] hr' (aE (by omega));refine⟨v,by rw[Nat.mul_one,di];exact(ho.cell _).trans h1,?_⟩;cases r' with|none=>obtain⟨rfl,_⟩:=h2;exact .lit rfl|some rows'=>obtain⟨b',q1,q2⟩:=h2;exact q2.rd eh (hb b' (aF _ (dL.2 ⟨fps[i],List.getElem_mem _,by rw[q1];simp⟩)))
 |@pt ts b aP fps ho hlen hfl h ih=>
  simp only[sV,Ld];have hlt:∀(j:Nat)(x:D),(ts.map sV)[j]?=some x->∃t f,ts[j]?=some t/\fps[j]?=some f/\x=sV t:=by intro j x hj;rw[aM]at hj;obtain⟨t,ht,rfl⟩:=aK.1 hj;have hl:=(aq.1 ht).1;exact⟨t,_,ht,aE (by omega),rfl⟩
  have key:=RD.pt (S:=S') (w:=w) (cells:=ts.map sV) (b:=b) (off:=0) (fun j=>aP.getD j undef) (hb b (by simp)) (fun j x hj=>?_) (fun j x hj=>?_)
  .exact key
  .obtain ⟨t,f,h1,h2,rfl⟩:=hlt j x hj;have hl:=(aq.1 h1).1;rw[bN,ho.cell,bI,jh (by omega)];rfl
  .obtain ⟨t,f,h1,h2,rfl⟩:=hlt j x hj;exact ih j t f h1 h2 fun b hbm=>hb b (aF _ (dL.2 ⟨f,bk h2,hbm⟩))
def IG:R->R
 |.c t=>.c (.d (sV t))
 |.agg ts=>.agg (ts.map fun t=>.d (sV t))
def uG:List Bool->List R->List R
 |b::bs,r::rs=>(if b then IG r else r)::uG bs rs
 |_,rs=>rs
theorem RR.y8{S S':Nat->Prop}{w:World}(hS:∀b,S b->S' b){r:R}{v:Value}{fp:List Nat}(h:RR S w r v fp):RR S' w r v fp:=by
 have eh:gU S w S' w:=⟨hS,fun _ _=>rfl⟩
 cases r with|c t=>exact RT.mono eh h fun _ _=>rfl|agg ts=>obtain⟨aP,fps,h1,h2,h3,h4,h5⟩:=h;exact⟨aP,fps,h1,h2,h3,h4,fun i t f hi hf=>(h5 i t f hi hf).mono eh fun _ _=>rfl⟩
theorem RR.A5{S S':Nat->Prop}{w:World}(hS:∀b,S b->S' b){r:R}{v:Value}{fp:List Nat}(h:RR S w r v fp)(hb:∀b∈fp,S' b):RR S' w (IG r) v []:=by
 cases r with
 |c t=>exact .d (RT.A5 h hS hb)
 |agg ts=>
  obtain⟨aP,fps,h1,h2,h3,h4,h5⟩:=h;refine⟨aP,ts.map fun _=>[],h1,by simp[h2],by simp,?_,fun i t f hi hf=>?_⟩
  .clear h5 h3 h2;induction ts with|nil=>rfl|cons t ts ih=>simp
  .simp only[aM,aK]at hi hf;obtain⟨t0,ht0,rfl⟩:=hi;obtain⟨_,_,rfl⟩:=hf;have hl:=(aq.1 ht0).1;have hf:fps[i]?=some _:=aE (by omega);refine .d ((h5 i t0 _ ht0 hf).A5 hS fun b hbm=>hb b ?_);rw[<-h4];exact dL.2 ⟨_,bk hf,hbm⟩
theorem EH.y8{S S':Nat->Prop}{w:World}(hS:∀b,S b->S' b):∀{rs:List R}{vs:List Value}{fp:List Nat},EH S w rs vs fp->EH S' w rs vs fp:=by
 intro rs;induction rs with
 |nil=>intro vs fp h;cases vs<;>exact h
 |cons r rs ih=>intro vs fp h;cases vs with|nil=>exact h|cons v vs=>obtain⟨f1,f2,h1,h2,h3⟩:=h;exact⟨f1,f2,h1,h2.y8 hS,ih h3⟩
theorem EH.A5{S:Nat->Prop}{w:World}:∀(m:List Bool)(rs:List R)(vs:List Value)(fp:List Nat),EH S w rs vs fp->fp.Nodup->
  ∃fpK,fpK.Sublist fp/\∀S':Nat->Prop,(∀b,S b->S' b)->(∀b∈fp,b∉fpK->S' b)->EH S' w (uG m rs) vs fpK:=by
 intro m;induction m with
 |nil=>intro rs vs fp h hn;exact⟨fp,ci _,fun S' hS _=>by cases rs<;>exact h.y8 hS⟩
 |cons b m ih=>
  intro rs vs fp h hn;cases rs with
  |nil=>exact⟨fp,ci _,fun S' hS _=>h.y8 hS⟩
  |cons r rs=>
   cases vs with
   |nil=>exact h.elim
   |cons v vs=>
    obtain⟨f1,f2,rfl,h2,h3⟩:=h;obtain⟨n1,n2,n3⟩:=cE.1 hn;obtain⟨fpK,hsub,hk⟩:=ih rs vs f2 h3 n2;cases b with
    |true=>refine⟨fpK,hsub.trans (List.sublist_append_right _ _),fun S' hS hb=>⟨[],fpK,rfl,h2.A5 hS fun b hbm=>hb b (aG _ hbm) fun hb2=>n3 b hbm b (hsub.subset hb2) rfl,hk S' hS fun b hbm hb2=>hb b (aI _ hbm) hb2⟩⟩
    |false=>
     refine⟨f1++fpK,dj.append (ci _) hsub,fun S' hS hb=>⟨f1,fpK,rfl,h2.y8 hS,hk S' hS fun b hbm hb2=>hb b (aI _ hbm) fun hb3=>?_⟩⟩;rcases au.1 hb3 with h|h
     .exact n3 b h b hbm rfl
     .exact hb2 h
theorem EH.lt{S:Nat->Prop}{w:World}:∀{rs:List R}{vs:List Value}{fp:List Nat},EH S w rs vs fp->∀b∈fp,b<w.heap.size:=by
 intro rs;induction rs with
 |nil=>intro vs fp h b hb;cases vs with|nil=>have h':fp=[]:=h;subst h';simp at hb|cons _ _=>exact h.elim
 |cons r rs ih=>
  intro vs fp h b hb;cases vs with
  |nil=>exact h.elim
  |cons v vs=>
   obtain⟨f1,f2,rfl,h2,h3⟩:=h;rcases au.1 hb with hb|hb
   .cases r with|c t=>exact RT.lt h2 b hb|agg ts=>obtain⟨aP,fps,_,q2,q3,rfl,q5⟩:=h2;obtain⟨fp,hfp,hbf⟩:=dL.1 hb;obtain⟨i,hi,rfl⟩:=List.getElem_of_mem hfp;exact(q5 i _ _ (aE (by omega:i<ts.length)) (aE hi)).lt b hbf
   .exact ih h3 b hb
theorem Oh.y8{S S':Nat->Prop}{w:World}(hS:∀b,S b->S' b):∀{ts:List T}{vs:List Value}{fp:List Nat},Oh S w ts vs fp->Oh S' w ts vs fp:=by
 intro ts;induction ts with
 |nil=>intro vs fp h;cases vs<;>exact h
 |cons r rs ih=>intro vs fp h;cases vs with|nil=>exact h|cons v vs=>obtain⟨f1,f2,h1,h2,h3⟩:=h;exact⟨f1,f2,h1,h2.imp id fun h2=>RT.mono ⟨hS,fun _ _=>rfl⟩ h2 fun _ _=>rfl,ih h3⟩
theorem Left.A5{S:Nat->Prop}{w w':World}{fp:List Nat}{rs:List R}{outs:List T}{lent:List Value}{v:Value}(m:List Bool)(h:Left S w fp rs outs lent v w'):Left S w fp (uG m rs) outs lent v w':=by
 obtain⟨S',k8,fp1,fp2,h1,h2,h3,h4,h5,h6,h7,h8,h9⟩:=h;obtain⟨n1,n2,n3⟩:=cE.1 h7;obtain⟨fpK,hsub,hk⟩:=EH.A5 m rs k8 fp1 h5 n1
 refine⟨fun b=>S' b\/(b∈fp1/\b∉fpK),k8,fpK,fp2,h1,⟨fun b hb=>.inl (h2.sub b hb),h2.eu⟩,fun b hb=>?_,fun b hb=>?_,hk _ (fun b hb=>.inl hb) (fun b hb hb2=>.inr ⟨hb,hb2⟩),
  Oh.y8 (fun b hb=>.inl hb) h6,?_,fun b hb=>?_,h9⟩
 .rcases hb with hb|hb
  .exact h3 b hb
  .exact .inr (h8 b (aG _ hb.1)).2
 .rcases hb with hb|hb
  .exact h4 b hb
  .exact EH.lt h5 b hb.1
 .exact (dj.append hsub (ci fp2)).nodup h7
 .rcases au.1 hb with hb|hb
  .exact ⟨fun h=>h.elim (h8 b (aG _ (hsub.subset hb))).1 fun h=>h.2 hb,(h8 b (aG _ (hsub.subset hb))).2⟩
  .exact ⟨fun h=>h.elim (h8 b (aI _ hb)).1 fun h=>n3 b h.1 b hb rfl,(h8 b (aI _ hb)).2⟩
def L0(k8:List RV)(m:List Bool)(len:Nat)(rs:List R)(outs:List T):sR->St->Prop
 |.exit _,_=>False
 |.normal,s=>wk (fun s=>s.gh.length=len/\∃rs0,xg k8 s rs0 outs/\uG m rs0=rs) s
 |.ret,s=>wk (fun s=>s.gh.length=len/\∃rs0,xg k8 s rs0 outs/\uG m rs0=rs) s
def pG(as:List A):St:=⟨(enter as 0 0).1,(enter as 0 0).2.1,(enter as 0 0).2.2.1,(enter as 0 0).2.2.2⟩
def Ug(P:Program)(F:Fn)(m:List Bool)(as:List A)(rs:List R)(outs:List T):Prop:=as.length=F.np/\W P F.body (pG as) (L0 F.k8 m (pG as).gh.length rs outs)
def Uh(s:St)(Q:St->Prop):Prop:=∀(S K:Nat->Prop)(w0:World)(Kn:Nat->Prop)(φ:Nat->gI)(gv:List Value)(nt:Nat)(a:Act)(w:World),GH S K w0 Kn φ gv nt s a w->∃s1,Q s1/\GH S K w0 Kn φ gv nt s1 a w
theorem Lg(hm:P.follows .mixedOrders=true){f np:Nat}{F:Fn}(hF:zK P cH f np=some F){as:List A}{rs:List R}{outs:List T}
  {m:List Bool} (h:as.length=F.np/\Uh (pG as) fun s=>W P F.body s (L0 F.k8 m (pG as).gh.length rs outs)):Cz P f as rs outs:=by
 unfold zK at hF;split at hF
 .simp at hF
 rename_i g hg;split at hF
 .simp at hF
 rename_i code hb;split at hF
 case isFalse=>simp at hF
 rename_i hc;obtain⟨hname,hnp,hnt⟩:=hc;split at hF
 case h_2=>simp at hF
 rename_i k8 hrv;obtain rfl:=aa hF;obtain⟨hlen,h⟩:=h;simp only at hlen h;intro S w vs fp hlt hargs hnd hfp hglob;left;refine⟨f,vs.toArray,?_,?_⟩
 .simp [callFunc,run_program,hg,hb];intro e;rw[e]at hname;simp at hname
 refine calls_of_wp hg hb ?_;have hI0:Inv S (fun b=>b<w.heap.size/\b∉fp/\¬S b) w (fun _=>False) (fun _=>default) (aC []) w:=by refine⟨hlt,fun b hb h=>h.2.2 hb,⟨fun b hb=>hb.1,fun _ _=>rfl,aw _,fun _ _=>rfl,fun b aP ho=>⟨aP,ho,rfl⟩,Io.refl _⟩,fun id o ho=>by simp[aC,cz]at ho,fun i j a b ha=>by simp[aC,cz]at ha,hglob,fun i sz sl k x hi=>by simp[aC,cz]at hi⟩
 obtain⟨φ,hL,q1,q2,q3,q4⟩:=Eb as (S:=S) (K:=fun b=>b<w.heap.size/\b∉fp/\¬S b) (w0:=w) (w:=w) (Kn:=fun _=>False) (φ:=fun _=>default) (hf:=aC []) vs fp 0 0 hI0 (fun _ _ h=>h) hargs hnd
  (fun b hb=>⟨hfp b hb,fun h=>h.2.1 hb⟩) (fun j o ho=>by simp[aC,cz]at ho)
 unfold pG at h;generalize hen:enter as 0 0=en at h hL q1 q2 q3;obtain⟨e,hp,n,lent⟩:=en;simp only at h hL q1 q2 q3
 have hRel:GH S (fun b=>b<w.heap.size/\b∉fp/\¬S b) w (pJ (fun _=>False) 0 n) φ (oQ as vs) g.ntmps ⟨e,hp,n,lent⟩
   {tmps:=vs.toArray++Array.replicate (g.ntmps-vs.toArray.size) undef,defers:=[]} w:=by
  refine⟨?_,fun t x hx=>?_,?_,rfl,fun j hj hk=>?_,fun i c v h1 h2=>.inr (q2 i c v h1 h2)⟩
  .have:aC hp=bA hp (aC []):=by rw[<-gF,List.append_nil]
   rw[this];exact hL.inv
  .obtain ⟨_,v,hv,hr⟩:=q1 t x hx;have hv':vs[t]?=some v:=by simpa using hv
   have:(vs.toArray++Array.replicate (g.ntmps-vs.toArray.size) undef).getD t undef=v:=by have ht:t<vs.length:=(aq.1 hv').1;rw[bI,Array.getElem?_append_left (by simpa using ht)];simp[hv']
   simp only[this];exact hr
  .simp;omega
  .rcases hk with hk|hk
   .exact hk
   .have:n<=j:=hj;omega
 obtain⟨s1,h,hRel⟩:=h _ _ _ _ _ _ _ _ _ hRel;refine wp_mono (Gr hnt hm code s1 _ S _ φ _ w h hRel) fun ex a' w' hp=>?_;obtain⟨o,s',hl,rfl,S',Kn',φ',hs,hR⟩:=hp
 have main:∀(s':St)(rs:List R)(S' Kn':Nat->Prop)(φ':Nat->gI),gU S w S' w'->GH S' (fun b=>b<w.heap.size/\b∉fp/\¬S b) w Kn' φ' (oQ as vs) g.ntmps s' a' w'->s'.gh.length=lent.length->xg k8 s' rs outs->
   a'.defers=[]/\∃v,(results g a'.tmps).run P w'=.ok v w'/\∃v',Ending.returned v=Ending.returned v'/\Left S w fp rs outs (oQ as vs) v' w':=by
  intro s' rs S' Kn' φ' hs hR hgl hlv;obtain⟨tvs,oa,ob,htv,hpr,hpc,hnod⟩:=hlv;obtain⟨rv,p1,p2,p3⟩:=Ad hR.inv hR.dH _ _ _ hrv htv;obtain⟨r1,r2⟩:=BX hR.inv tvs rv rs oa hpr p2 p3;obtain⟨t1,t2⟩:=Ds hR.inv hpc (oQ as vs) (hgl.trans q3) hR.gh
  have hown:∀i∈oa++ob,∃o,aC s'.heap i=some o/\cR o=true:=by
   intro i hi;rcases au.1 hi with hi|hi
   .exact r2 i hi
   .exact t2 i hi
  have hfrm:=hR.inv.nD;refine⟨hR.defers,_,C3 p1,_,rfl,S',rv,_,_,rfl,hs,fun b hb=>?_,hR.inv.vn,r1,t1,?_,?_,?_⟩
  .by_cases h1:b<w.heap.size
   .by_cases h2:b∈fp
    .exact .inr (.inl h2)
    .by_cases h3:S b
     .exact .inl h3
     .exact absurd ⟨h1,h2,h3⟩ (hR.inv.sk b hb)
   .exact .inr (.inr (by omega))
  .rw [<-iB];exact Bv hR.inv hnod hown
  .rw [<-iB];intro b hb;obtain⟨i,hi,hb⟩:=List.mem_flatMap.1 hb;obtain⟨oi,hoi,hoo⟩:=hown i hi;obtain⟨k1,k2,k3⟩:=oZ hR.inv hoi hoo hb;refine⟨k1,?_⟩;by_cases h1:b<w.heap.size
   .by_cases h2:b∈fp
    .exact .inl h2
    .by_cases h3:S b
     .exact absurd (hs.sub _ h3) k1
     .exact absurd ⟨h1,h2,h3⟩ k2
   .exact .inr (by omega)
  .refine ⟨fun b hb=>hb.1,fun b hb=>?_,hfrm.sx,hfrm.A5,hfrm.bG,hfrm.io⟩;by_cases h3:S b
   .exact hs.eu b h3
   .exact hfrm.nC b ⟨hb.1,hb.2,h3⟩
 have fin:wk (fun s=>s.gh.length=lent.length/\∃rs0,xg k8 s rs0 outs/\uG m rs0=rs) s'->
   a'.defers=[]/\∃v,(results g a'.tmps).run P w'=.ok v w'/\∃v',Ending.returned v=Ending.returned v'/\Left S w fp rs outs (oQ as vs) v' w':=by
  rintro⟨s1,hsub,hgl,rs0,hlv,rfl⟩;obtain⟨S1,Kn1,φ1,hs1,hR1⟩:=hsub S' _ w Kn' φ' _ _ a' w' hR;obtain⟨q1,v,q2,v',q3,q4⟩:=main s1 rs0 S1 Kn1 φ1 (hs.trans hs1) hR1 hgl hlv;exact⟨q1,v,q2,v',q3,q4.A5 m⟩
 cases o with|exit id=>exact hl.elim|normal=>exact fin hl|ret=>exact fin hl
theorem Nb(hm:P.follows .mixedOrders=true){f np:Nat}{F:Fn}(hF:zK P cH f np=some F){as:List A}{rs:List R}{outs:List T}
  {m:List Bool} (h:Ug P F m as rs outs):Cz P f as rs outs:=
 Lg hm hF ⟨h.1,fun _ _ _ _ _ _ _ _ _ hR=>⟨_,h.2,hR⟩⟩
end
section
variable{P:Program}{s s':St}{e:jG}{h:bM}{n:Nat}{gh:List C}
theorem Sub.heap{h':bM}{n':Nat}(hh:∀id,aC h' id=aC h id\/aC h' id=none)(hn:n<=n'):Sub ⟨e,h,n,gh⟩ ⟨e,h',n',gh⟩:=by intro S K w0 Kn φ gv nt a w hR;exact⟨S,Kn,φ,gU.refl S w,hR.inv.mg fun id o ho=>(hh id).elim (fun q=>q▸ho) fun q=>by rw[q]at ho;simp at ho,hR.dH,hR.size,hR.defers,fun j hj=>hR.gG j (Nat.le_trans hn hj),hR.gh⟩
theorem E1{id id2 sz sz2 cU:Nat}{slots:List kX}{ao:List (List D)}(ho:aC h id=some (.nst sz slots))(hs:slots[cU]?=some (.cF id2 ao.length))(h2:aC h id2=some (.aP sz2 ao)):
  Sub ⟨e,h,n,gh⟩ ⟨e,(id,some (.nst sz (slots.set cU (.bG ao))))::(id2,none)::h,n,gh⟩:=by
 intro S K w0 Kn φ gv nt a w hR;have e1:aC ((id,some (.nst sz (slots.set cU (.bG ao))))::(id2,none)::h)=bA [(id,some (.nst sz (slots.set cU (.bG ao)))),(id2,none)] (aC h):=gF [(id,some (.nst sz (slots.set cU (.bG ao)))),(id2,none)] h;exact⟨S,Kn,φ,gU.refl S w,e1▸hR.inv.LU ho hs h2,hR.dH,hR.size,hR.defers,hR.gG,hR.gh⟩
theorem Mm{t id sz szo off len:Nat}{ao rows':List (List D)}(ht:cz e t=some (.c (.fh sz id off len)))(ho:aC h id=some (.aP szo ao))(hr:(ao.drop off).take len=rows')(hle:off+len<=ao.length):
  Sub ⟨e,h,n,gh⟩ ⟨(t,.c (.fh sz n 0 len))::e,(id,none)::(n,some (.aP sz rows'))::h,n+1,gh⟩:=by
 intro S K w0 Kn φ gv nt a w hR;have hn:¬Kn n:=hR.gG n (aw _);have hI:=hR.inv;obtain⟨hk0,h0⟩:=hI.iN _ _ ho;have hne:id≠n:=fun e=>hn (e▸hk0);have hv:=hR.dH t _ ht;generalize hval:a.tmps.getD t undef=val at hv;cases hv with
 |c hv=>
 have hkill:Inv S K w0 Kn φ (bA [(id,none)] (aC h)) w:=hI.mg fun i o ho=>by
  rw[bZ]at ho;split at ho
  .simp at ho
  .exact ho
 have hfree:∀i o,bA [(id,none)] (aC h) i=some o->cR o=true->(φ id).cY∉ip w φ (bA [(id,none)] (aC h)) i:=by
  intro i o hi hown hm;have hi':=hi;rw[bZ]at hi';split at hi'
  .simp at hi'
  .rename_i hne2;rw[gx rfl (hi.trans hi'.symm)]at hm;exact oh hI hi' ho hown rfl (fun e=>hne2 e.symm) hm (kR id)
 generalize hphi:φ id=l at*;cases h0 with
 |@aP _ _ aP hsz0 hl hS hK hown hext hfit hrr hvis=>
 obtain⟨cap,addr,rfl,hszl,hk,hcap,haddr,hextc,hcl⟩:=hv.kg;rw[hphi]at haddr hextc hszl hcl;obtain rfl:sz=szo:=by rw[<-hl,hszl]
 rw[hl]at haddr hextc;subst hr;have hlen:((ao.drop off).take len).length=len:=by simp;omega
 have hcm:len*sz<=cap*sz:=Nat.mul_le_mul_right _ hcap;have hR2:cT S w sz (fun i=>aP[i]?) addr ((ao.drop off).take len):=hrr.xI off len fun h=>haddr (by omega)
 have hname:=hkill.name hn ⟨l.cY,addr,sz,l.ext,cap⟩ (.aP sz ((ao.drop off).take len)) (fun _ j b hj hb hm=>hfree j b hj hb hm)
  (.aP hsz0 rfl hS hK hown hext (by rw[hlen];simp only;omega) hR2 (by rw[hlen];exact hcap))
 have hren:up Kn φ (fun j=>Kn j\/j=n) (ext φ n ⟨l.cY,addr,sz,l.ext,cap⟩):=jH _ hn;refine⟨S,fun j=>Kn j\/j=n,ext φ n ⟨l.cY,addr,sz,l.ext,cap⟩,gU.refl S w,⟨?_,?_,hR.size,hR.defers,?_,?_⟩⟩
 .have:aC ((id,none)::(n,some (.aP sz ((ao.drop off).take len)))::h)=bA [(n,some (.aP sz ((ao.drop off).take len)))] (bA [(id,none)] (aC h)):=by have e1:aC ((id,none)::(n,some (Ob.aP sz ((ao.drop off).take len)))::h)=bA ([(id,none)]++[(n,some (.aP sz ((ao.drop off).take len)))]) (aC h):=gF [(id,none),(n,some (.aP sz ((ao.drop off).take len)))] h;rw[e1,<-ew];exact mH (u:=[(id,none)]) fun p hp q hq=>by obtain rfl:=av.1 hp;obtain rfl:=av.1 hq;exact hne
  rw[this];exact hname
 .intro t' x hx;simp only[cz]at hx;by_cases et:t=t'
  .subst et;simp at hx;subst hx;rw[hval];have e:ext φ n ⟨l.cY,addr,sz,l.ext,cap⟩ n=⟨l.cY,addr,sz,l.ext,cap⟩:=by simp[ext]
   have:=RC.fh (S:=S) (w:=w) (Kn:=fun j=>Kn j\/j=n) (φ:=ext φ n ⟨l.cY,addr,sz,l.ext,cap⟩) (id:=n) (off:=0) (len:=len) (cap:=cap) (addr:=addr)
    (.inr rfl) hcap (by rw[e];simp) (by rw[e];exact hextc) (by rw[e];simp)
   rw[e]at this;rw[hphi];exact .c this
  .have e':(t==t')=false:=by simpa using et
   rw[e',cond_false]at hx;exact(hR.dH t' x hx).mono (gU.refl _ _) hren
 .intro j hj hk;simp only at hj;rcases hk with hk|hk
  .exact hR.gG j (by simp only;omega) hk
  .omega
 .intro i c v hc hv;exact(hR.gh i c v hc hv).mono (gU.refl _ _) hren
theorem wk.sub{Q:St->Prop}(hs:Sub s s')(h:wk Q s'):wk Q s:=let⟨s1,h1,h2⟩:=h;⟨s1,hs.trans h1,h2⟩
theorem wk.mono{Q Q':St->Prop}(h:wk Q s)(hq:∀s,Q s->Q' s):wk Q' s:=let⟨s1,h1,h2⟩:=h;⟨s1,h1,hq _ h2⟩
theorem WO.mono{Q Q':St->Prop}(hq:∀s,Q s->Q' s):∀{ops:List oE}{s:St},WO P ops s Q->WO P ops s Q':=by
 intro ops;induction ops with
 |nil=>intro s h;exact wk.mono h hq
 |cons o r ih=>
  intro s h;obtain⟨s1,h1,h⟩:=h;refine⟨s1,h1,?_⟩;rcases h with⟨hw,call,v,u,aB,n,hok,hev,h⟩|⟨hw,h⟩
  .exact .inl ⟨hw,call,v,u,aB,n,hok,hev,ih h⟩
  .exact .inr ⟨hw,ih h⟩
theorem WO.sub{Q:St->Prop}{ops:List oE}(hs:Sub s s')(h:WO P ops s' Q):WO P ops s Q:=by cases ops with|nil=>exact wk.sub hs h|cons o r=>obtain⟨s1,h1,h⟩:=h;exact⟨s1,hs.trans h1,h⟩
theorem uK.mono{R R':St->Prop}{Q Q':sR->St->Prop}(hr:∀s,R s->R' s)(hq:∀o s,Q o s->Q' o s):∀o s,uK R Q o s->uK R' Q' o s:=by intro o s h;cases o with|normal=>exact hr _ h|exit id=>exact hq _ _ h|ret=>exact hq _ _ h
theorem wa.mono{id:Nat}{Q Q':sR->St->Prop}(hq:∀o s,Q o s->Q' o s):∀o s,wa id Q o s->wa id Q' o s:=by
 intro o s h;cases o with
 |normal=>exact hq _ _ h
 |ret=>exact hq _ _ h
 |exit id'=>
  simp only[wa]at h|-;split at h
  .rw [if_pos (by assumption)];exact hq _ _ h
  .rw [if_neg (by assumption)];exact hq _ _ h
theorem W.mono:∀{c:CC}{s:St}{Q Q':sR->St->Prop},(∀o s,Q o s->Q' o s)->W P c s Q->W P c s Q':=by intro c;induction c with|seq a b iha ihb=>intro s Q Q' hq h;exact iha (uK.mono (fun s h=>ihb hq h) hq) h|cond c a b iha ihb=>intro s Q Q' hq h;obtain⟨s1,h0,t,h1,h2,h3⟩:=h;exact⟨s1,h0,t,h1,fun ht=>iha hq (h2 ht),fun ht=>ihb hq (h3 ht)⟩|block id a ih=>intro s Q Q' hq h;exact ih (wa.mono hq) h|loop nC a ih=>intro s Q Q' hq h;obtain⟨I,n,h1,h2⟩:=h;exact⟨I,n,h1,fun n s hi=>ih (uK.mono (fun s h=>h) hq) (h2 n s hi)⟩|skip=>intro s Q Q' hq h;exact wk.mono h fun s h=>hq _ _ h|exit id=>intro s Q Q' hq h;exact wk.mono h fun s h=>hq _ _ h|ret=>intro s Q Q' hq h;exact wk.mono h fun s h=>hq _ _ h|region ops nC=>intro s Q Q' hq h;exact WO.mono (fun s h=>h.mono fun s h=>hq _ _ h) h|drawn ops dyn nC=>intro s Q Q' hq h;obtain⟨s1,h0,calls,e,hh,tr,h1,h2,h3,h4⟩:=h;exact⟨s1,h0,calls,e,hh,tr,h1,h2,h3,h4.mono fun s h=>hq _ _ h⟩|gi=>intro s Q Q' hq h;exact h
theorem W.sub:∀{c:CC}{s s':St}{Q:sR->St->Prop},Sub s s'->W P c s' Q->W P c s Q:=by intro c;induction c with|seq a b iha ihb=>intro s s' Q hs h;exact iha hs h|cond c a b iha ihb=>intro s s' Q hs h;obtain⟨s1,h0,h1⟩:=h;exact⟨s1,hs.trans h0,h1⟩|block id a ih=>intro s s' Q hs h;exact ih hs h|loop nC a ih=>intro s s' Q hs h;obtain⟨I,n,h1,h2⟩:=h;exact⟨I,n,wk.sub hs h1,h2⟩|skip=>intro s s' Q hs h;exact wk.sub hs h|exit id=>intro s s' Q hs h;exact wk.sub hs h|ret=>intro s s' Q hs h;exact wk.sub hs h|region ops nC=>intro s s' Q hs h;exact WO.sub hs h|drawn ops dyn nC=>intro s s' Q hs h;obtain⟨s1,h0,h1⟩:=h;exact⟨s1,hs.trans h0,h1⟩|gi=>intro s s' Q hs h;exact h
section
variable{Q:sR->St->Prop}
theorem NR{a b:CC}(h:W P a s (uK (fun s'=>W P b s' Q) Q)):W P (.seq a b) s Q:=h
theorem Ma{id:Nat}{a:CC}(h:W P a s (wa id Q)):W P (.block id a) s Q:=h
theorem Ot{c:Operand}{a b:CC}{t:Bool}(hc:kP s.dH c=some (.c (.d (.lit (.bool t)))))(h1:t=true->W P a s Q)(h2:t=false->W P b s Q):W P (.cond c a b) s Q:=⟨s,Sub.refl s,t,hc,h1,h2⟩
theorem Jt{ops:List oE}{nC:List Nat}(h:WO P ops s fun s'=>wk (Q .normal) s'):W P (.region ops nC) s Q:=h
end
def jP{α β:Type}(f:α->Option (α⊕β)):Nat->α->Option β
 |0,_=>none
 |n+1,a=>match f a with|some (.inl a')=>jP f n a'|some (.inr b)=>some b|none=>none
theorem xm{α β:Type}{f:α->Option (α⊕β)}:∀{n m:Nat}{a:α}{b:β},n<=m->jP f n a=some b->jP f m a=some b:=by
 intro n;induction n with
 |zero=>intro m a b _ h;simp[jP]at h
 |succ n ih=>
  intro m a b hm h;cases m with
  |zero=>omega
  |succ m=>
   simp only[jP]at h|-;split at h
   .exact ih (by omega) h
   .exact h
   .simp at h
open Classical in
def bc{α β:Type}(f:α->Option (α⊕β))(a:α):Option β:=if h:∃n b,jP f n a=some b then some (ga (de h))else none
theorem pC{α β:Type}{f:α->Option (α⊕β)}{a:α}{b:β}:bc f a=some b<->∃n,jP f n a=some b:=by
 constructor
 .intro h;unfold bc at h;split at h
  .rename_i hx;refine⟨ga hx,?_⟩;rw[de (de hx)];exact h
  .simp at h
 .rintro ⟨n,hn⟩;have hx:∃n b,jP f n a=some b:=⟨n,b,hn⟩
  unfold bc;rw[dif_pos hx];have h2:=de (de hx);have h3:=xm (Nat.le_max_left n (ga hx)) hn;have h4:=xm (Nat.le_max_right n (ga hx)) h2;rw[h3]at h4;rw[<-h4]
theorem DO{α β:Type}(f:α->Option (α⊕β))(a:α):bc f a=match f a with
  |some (.inl a')=>bc f a'
  |some (.inr b)=>some b
  |none=>none:=by
 apply Option.ext;intro b;rw[pC];constructor
 .rintro ⟨n,hn⟩;cases n with
  |zero=>simp[jP]at hn
  |succ n=>
   simp only[jP]at hn;split at hn
   .exact pC.2 ⟨n,hn⟩
   .exact hn
   .simp at hn
 .intro h;split at h
  .rename_i a' ha;obtain⟨n,hn⟩:=pC.1 h;exact⟨n+1,by simp only[jP,ha];exact hn⟩
  .rename_i b' ha;exact⟨1,by simp only[jP,ha];exact h⟩
  .simp at h
theorem bL{α β:Type}{f:α->Option (α⊕β)}{a a':α}(h:f a=some (.inl a')):bc f a=bc f a':=by rw[DO,h]
theorem bC{α β:Type}{f:α->Option (α⊕β)}{a:α}{b:β}(h:f a=some (.inr b)):bc f a=some b:=by rw[DO,h]
def qU:Ev.Call:=fun _ _=>none
theorem rq:nz P qU:=fun _ _ _ _ h=>by simp[qU]at h
section
variable{Q:St->Prop}{r:List oE}{d:Nat}{k:K}{args:List Operand}{v:TV}{u:fA}{aB:List Nat}{m g:Nat}{b c:Bool}
def Lh:Option TV->Option (FuncId×List C)
 |some (.c (.d (.fn f caps)))=>some (f,caps.map C.d)
 |some (.c (.po f caps))=>some (f,caps)
 |_=>none
def callee(h:bM)(j7:List Bool):List (Option TV)->Option (FuncId×List A)
 |f::vs=>
  match Lh f,eH vs with
  |some (f,caps),some vs=>match gu h (vs++caps.map TV.c) j7 with|some (as,_,_)=>some (f,as)|none=>none
  |_,_=>none
 |[]=>none
def u_(h:bM)(nxt:Nat)(ro:Bool)(aB:List Nat)(lent:List (C×List Nat×List Nat)):Option (List R×List T)->GG
 |none=>none
 |some (rs,outs)=>
  if ro then
   if rs.all zg/\lent.isEmpty/\outs.isEmpty then
    some (ut (ik nxt rs).1,(ik nxt rs).2.1,aB,(ik nxt rs).2.2)
   else none
  else
   match dZ h aB aB with
   |none=>none
   |some fu=>match eW nxt lent outs with|none=>none|some (bu,m)=>some (ut (ik m rs).1,(ik m rs).2.1++bu++fu,aB++lent.flatMap (·.2.2),(ik m rs).2.2)
theorem Bb(call:Ev.Call)(ro:Bool)(j7:List Bool)(fv:Option TV)(vs:List (Option TV))(h:bM)(nxt:Nat):
  vd call ro j7 fv vs h nxt=match Lh fv,eH vs with
   |some (f,caps),some vs=>match gu h (vs++caps.map TV.c) j7 with|none=>none|some (as,aB,lent)=>if eL h lent/\(lent.flatMap (fun(p:C×List Nat×List Nat)=>p.2.1)).Nodup/\(lent.flatMap (fun(p:C×List Nat×List Nat)=>p.2.1)).all (fun i=>!aB.contains i)then u_ h nxt ro aB lent (call f as)else none
   |_,_=>none:=by
 have e1:∀(o:Option (List R×List T))(aB:List Nat)(lent:List (C×List Nat×List Nat)),(match o with
    |none=>none
    |some (rs,outs)=>
     if ro then
      if rs.all zg/\lent.isEmpty/\outs.isEmpty then
       let(vs,u,m):=ik nxt rs
       some (ut vs,u,aB,m)
      else none
     else
      match dZ h aB aB with
      |none=>none
      |some fu=>
       match eW nxt lent outs with
       |none=>none
       |some (bu,m)=>
        let(vs,u,k):=ik m rs
        some (ut vs,u++bu++fu,aB++lent.flatMap (fun(p:C×List Nat×List Nat)=>p.2.2),k))=u_ h nxt ro aB lent o:=by
  intro o aB lent;cases o with|none=>rfl|some p=>rfl
 have e2:(match fv with|some (.c (.d (.fn f caps)))=>some (f,caps.map C.d)|some (.c (.po f caps))=>some (f,caps)|_=>none)=Lh fv:=rfl
 show(match(match fv with|some (.c (.d (.fn f caps)))=>some (f,caps.map C.d)|some (.c (.po f caps))=>some (f,caps)|_=>none),eH vs with
   |some (f,caps),some vs=>
    match gu h (vs++caps.map TV.c) j7 with
    |none=>none
    |some (as,aB,lent)=>
     if eL h lent/\(lent.flatMap (fun(p:C×List Nat×List Nat)=>p.2.1)).Nodup/\(lent.flatMap (fun(p:C×List Nat×List Nat)=>p.2.1)).all (fun i=>!aB.contains i)then
      (match call f as with
    |none=>none
    |some (rs,outs)=>
     if ro then
      if rs.all zg/\lent.isEmpty/\outs.isEmpty then
       let(vs,u,m):=ik nxt rs
       some (ut vs,u,aB,m)
      else none
     else
      match dZ h aB aB with
      |none=>none
      |some fu=>
       match eW nxt lent outs with
       |none=>none
       |some (bu,m)=>
        let(vs,u,k):=ik m rs
        some (ut vs,u++bu++fu,aB++lent.flatMap (fun(p:C×List Nat×List Nat)=>p.2.2),k))else none
   |_,_=>none)=_
 simp only[e1,e2]
open Classical in
def only(f:FuncId)(as:List A)(rs:List R)(outs:List T):Ev.Call:=fun f' as'=>if f'=f/\as'=as then some (rs,outs)else none
theorem G3{f:FuncId}{as:List A}{rs:List R}{outs:List T}(hg:Cz P f as rs outs):nz P (only f as rs outs):=by
 intro f' as' rs' outs' h;unfold only at h;split at h
 .rename_i he;obtain⟨rfl,rfl⟩:=he;obtain⟨rfl,rfl⟩:=ad (aa h);exact hg
 .simp at h
theorem Bt{f:FuncId}{as:List A}{rs:List R}{outs:List T}{ro:Bool}{j7:List Bool}{vs:List (Option TV)}{x:TV×fA×List Nat×Nat}
  (h2:callee h j7 vs=some (f,as)) (h1:cL (fun _ _=>some (rs,outs)) (.call ro j7) vs h n=some x):cL (only f as rs outs) (.call ro j7) vs h n=some x:=by
 cases vs with
 |nil=>simp[callee]at h2
 |cons fv vs=>
  simp only[callee]at h2;simp only[cL,Bb]at h1|-;split at h2
  .rename_i f' caps vs' hf hvs;simp only[hf,hvs]at h1|-;split at h2
   .rename_i as' aB lent hargs;obtain⟨rfl,rfl⟩:=ad (aa h2);rw[hargs]at h1|-;simp only[only,and_self,if_true]at h1|-;exact h1
   .simp at h2
  .simp at h2
theorem Hq{fv:Option TV}{ovs:List (Option TV)}{vs:List TV}{f:FuncId}{caps:List C}{as:List A}{aB:List Nat}{lent:List (C×List Nat×List Nat)}{ro:Bool}{j7:List Bool}{rs:List R}{outs:List T}{x:TV×fA×List Nat×Nat}
  (hf:Lh fv=some (f,caps)) (hv:eH ovs=some vs) (ha:gu h (vs++caps.map TV.c) j7=some (as,aB,lent)) (hw:eL h lent=true)
  (hn:decide ((lent.flatMap (fun(p:C×List Nat×List Nat)=>p.2.1)).Nodup/\(lent.flatMap (fun(p:C×List Nat×List Nat)=>p.2.1)).all (fun i=>!aB.contains i)=true)=true)
  (hl:u_ h n ro aB lent (some (rs,outs))=some x):
  callee h j7 (fv::ovs)=some (f,as)/\cL (fun _ _=>some (rs,outs)) (.call ro j7) (fv::ovs) h n=some x:=by
 have hn':=of_decide_eq_true hn;constructor
 .simp only[callee,hf,hv,ha]
 .simp only[cL,Bb,hf,hv,ha];rw[if_pos ⟨hw,hn'⟩];exact hl
theorem Tx{aB:List Nat}{lent:List (C×List Nat×List Nat)}{rs:List R}{outs:List T}{fu bu:fA}{m:Nat}(hz:dZ h aB aB=some fu)(hb:eW n lent outs=some (bu,m)):
  u_ h n false aB lent (some (rs,outs))=some (ut (ik m rs).1,(ik m rs).2.1++bu++fu,aB++lent.flatMap (·.2.2),(ik m rs).2.2):=by
 simp only[u_,hz,hb,aX,if_false]
theorem Nz{sz id len k:Nat}{ao:List (List D)}{rd:List Nat}{r:List (C×List Nat×List Nat)}{ts:List T}{w:fA}(hl:ao.length=len)(hr:eW n r ts=some (w,k)):
  eW n ((.fh sz id 0 len,[id],rd)::r) (.sl sz ao::ts)=some ((id,some (.aP sz ao))::w,k):=by
 simp only[eW,hl,hr,and_self,if_true]
theorem Ny{id k:Nat}{bG rd:List Nat}{r:List (C×List Nat×List Nat)}{ts' ts:List T}{w:fA}(hc:bG.contains id=true)(hr:eW (iC n ts').2.2 r ts=some (w,k)):
  eW n ((.op id 0,bG,rd)::r) (.pt ts'::ts)=some ((id,some (.box (iC n ts').1))::(iC n ts').2.1++bG.map (fun i=>(i,none))++w,k):=by
 simp only[eW,hr,hc,if_true]
theorem Jd{c:C}{bG rd:List Nat}{k:Nat}{r:List (C×List Nat×List Nat)}{ts:List T}{w:fA}(hr:eW n r ts=some (w,k)):eW n ((c,bG,rd)::r) (.wR::ts)=some (bG.map (fun i=>(i,none))++w,k):=by simp[eW,hr]
theorem TD{c:C}{vs:List TV}{ms:List Bool}{as:List A}{aB i:List Nat}{lent:List (C×List Nat×List Nat)}{x:D}(hv:dW h 300 c=some (x,i))(hm:ms.headD false=false)(hr:gu h vs ms.tail=some (as,aB,lent)):
  gu h (.c c::vs) ms=some (.d x::as,i++aB,lent):=by simp only[gu,hr,hm,hv,aX,if_false]
theorem Py{cs:List C}{vs:List TV}{ms:List Bool}{as:List A}{aB i:List Nat}{lent:List (C×List Nat×List Nat)}{xs:List D}(hv:dQ h cs=some (xs,i))(hm:ms.headD false=false)(hr:gu h vs ms.tail=some (as,aB,lent)):
  gu h (.agg cs::vs) ms=some (.agg xs::as,i++aB,lent):=by simp only[gu,hr,hm,hv,aX,if_false]
theorem QN{c:C}{vs:List TV}{ms:List Bool}{as:List A}{aB bG rd:List Nat}{lent:List (C×List Nat×List Nat)}{t:T}(hv:eK h 300 c=some (t,bG,rd))(hm:ms.headD false=true)(hr:gu h vs ms.tail=some (as,aB,lent)):
  gu h (.c c::vs) ms=some (.mt t::as,aB,(c,bG,rd)::lent):=by simp only[gu,hr,hm,hv,if_true]
end
abbrev Tr:=List (List Nat×List Nat)
abbrev Qd:=jG×bM×Tr
def LS(e:jG)(d:Option Nat)(h:bM)(tr:Tr)(top:Nat)(r:GG):Option Qd:=match r with|some (v,u,aB,m)=>if m<=top then some (put e d v,u++h,tr++[(aB,u.map (·.1))])else none|none=>none
def CT(call:Ev.Call)(aT i:Nat)(o:oE)(s:Qd):Option Qd:=match kw s.1 o.guard with|some true=>LS s.1 o.dst s.2.1 s.2.2 (aT+iS*(i+1)) (cL call o.k (o.args.map (kP s.1)) s.2.1 (aT+iS*i))|some false=>some (drop s.1 o.dst,s.2.1,s.2.2++[([],[])])|none=>none
def Cd(calls:Nat->Ev.Call)(aT:Nat):List oE->Nat->Qd->Option Qd
 |[],_,s=>some s
 |o::r,i,s=>(CT (calls i) aT i o s).bind (Cd calls aT r (i+1))
theorem Nj{calls:Nat->Ev.Call}{aT:Nat}:∀(l:List oE)(i:Nat)(e:jG)(h:bM)(tr:Tr)(e':jG)(h':bM)(tr':Tr),Cd calls aT l i (e,h,tr)=some (e',h',tr')->
  ∃t,nv calls aT l i e h=some (e',h',t)/\tr'=tr++t:=by
 intro l;induction l with
 |nil=>
  intro i e h tr e' h' tr' hh;obtain⟨rfl,rfl,rfl⟩:e=e'/\h=h'/\tr=tr':=by simpa[Cd]using hh
  exact⟨[],rfl,by simp⟩
 |cons o r ih=>
  intro i e h tr e' h' tr' hh;unfold Cd CT at hh;unfold nv;cases hw:kw e o.guard with
  |none=>simp[hw]at hh
  |some b=>
   cases b with
   |false=>simp only[hw,ae]at hh;obtain⟨t,h1,h2⟩:=ih _ _ _ _ _ _ _ hh;exact⟨([],[])::t,by simp[h1],by simp[h2]⟩
   |true=>
    simp only[hw]at hh;cases hv:cL (calls i) o.k (o.args.map (kP e)) h (aT+iS*i)with
    |none=>simp[hv,LS]at hh
    |some p=>
     obtain⟨v,u,aB,m⟩:=p;simp only[hv,LS]at hh;by_cases hm:m<=aT+iS*(i+1)
     .rw [if_pos hm,ae]at hh;obtain⟨t,h1,h2⟩:=ih _ _ _ _ _ _ _ hh;exact⟨(aB,u.map (·.1))::t,by simp[hm,h1],by simp[h2]⟩
     .rw [if_neg hm]at hh;simp at hh
theorem Gg{calls calls':Nat->Ev.Call}{aT:Nat}:∀(l:List oE)(i:Nat)(s:Qd),(∀j,i<=j->calls j=calls' j)->Cd calls aT l i s=Cd calls' aT l i s:=by intro l;induction l with|nil=>intro i s _;rfl|cons o r ih=>intro i s hc;simp only[Cd,hc i (aw _)];congr 1;funext s';exact ih (i+1) s' fun j hj=>hc j (by omega)
def WD(P:Program)(aT:Nat)(ops:List oE)(i:Nat)(e:jG)(h:bM)(tr:Tr)(Q:jG->bM->Tr->Prop):Prop:=∃calls,(∀j,nz P (calls j))/\∃e' h' tr',Cd calls aT ops i (e,h,tr)=some (e',h',tr')/\Q e' h' tr'
theorem L_{Q:sR->St->Prop}{ops:List oE}{dyn:List (Nat×Nat)}{nC:List Nat}
  (hw:WD P n ops 0 e h [] fun e' h' tr=>Bi tr dyn=true/\wk (Q .normal) ⟨e',h',n+iS*ops.length,gh⟩):W P (.drawn ops dyn nC) ⟨e,h,n,gh⟩ Q:=by
 obtain⟨calls,hok,e',h',tr',h1,hd,hq⟩:=hw;obtain⟨t,h4,ht⟩:=Nj _ _ _ _ _ _ _ _ h1;obtain rfl:tr'=t:=by simpa using ht
 exact⟨_,Sub.refl _,calls,e',h',_,hok,h4,hd,hq⟩
section
variable{aT i:Nat}{ops r:List oE}{tr:Tr}{Q:jG->bM->Tr->Prop}{d:Nat}{k:K}{args:List Operand}{v:TV}{u:fA}{aB:List Nat}{m g:Nat}{b c:Bool}
theorem QU(hq:Q e h tr):WD P aT [] i e h tr Q:=⟨fun _=>qU,fun _=>rq,e,h,tr,rfl,hq⟩
theorem Lt{call:Ev.Call}{o:oE}{e1:jG}{h1:bM}{tr1:Tr}(hok:nz P call)(hs:CT call aT i o (e,h,tr)=some (e1,h1,tr1))(hq:WD P aT r (i+1) e1 h1 tr1 Q):WD P aT (o::r) i e h tr Q:=by
 obtain⟨calls,hc,e',h',tr',h2,h3⟩:=hq;refine⟨fun j=>if j=i then call else calls j,fun j=>?_,e',h',tr',?_,h3⟩
 .show nz P (if j=i then call else calls j);split
  .exact hok
  .exact hc j
 .simp only[Cd,if_true,hs,ae];rw[Gg (calls':=calls) r (i+1) _ fun j hj=>if_neg (by omega)];exact h2
theorem PX{e:jG}{dd:Option Nat}{top:Nat}(hm:m<=top):LS e dd h tr top (some (v,u,aB,m))=some (put e dd v,u++h,tr++[(aB,u.map (·.1))]):=by simp only[LS];rw[if_pos hm]
theorem Mz:aT+iS*i<=aT+iS*(i+1):=by simp only[iS];omega
end
section
variable{R:St->Prop}{Q:sR->St->Prop}{id id':Nat}
end
inductive Fg:bM->bM->Prop
 |nil:Fg [] []
 |cons {p:Nat×Option Ob} {a b:bM} (h:Fg a b):Fg (p::a) (p::b)
 |skip {i:Nat} {a b:bM} (h:Fg a b):Fg a ((i,none)::b)
end
end Go.Ev
