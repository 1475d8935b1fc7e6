/- A region in any order, against the text's order. Conditions: operations whose names meet are ordered by the text; operations whose objects meet are ordered by the text, or the check at the run says that they do not meet. -/
import Derived.Test.YtbcmbckpebpijaaDoorEvR
import Derived.Orders
import Derived.Scope
open Array renaming getD->gX,getD_eq_getD_getElem?->bm,getElem?_eq_getElem->iP,getElem?_eq_some_iff->aP,getElem?_toList->aU
open Bool renaming and_eq_true->ae,false_eq_true->aM,or_eq_true->cV
open Classical renaming choose->fP,choose_spec->dA
open List renaming Sublist->bT,all_eq_true->aQ,flatMap_append->iU,getD_eq_getElem?_getD->cZ,getElem?_eq_getElem->ai,getElem?_eq_some_iff->ah,getElem?_map->aB,length_cons->cz,length_eq_zero_iff->bc,map_cons->aq,mem_append->aj,mem_append_left->aC,mem_append_right->aA,mem_cons->aD,mem_cons_of_mem->av,mem_cons_self->bG,mem_flatten->cY,mem_of_getElem?->aT,mem_singleton->am,nodup_append->cA
open List.Sublist renaming refl->br
open Nat renaming add_assoc->cg,add_sub_cancel'->gz,add_zero->cN,le_refl->ak,lt_or_ge->fE,mul_le_mul_left->iS,zero_add->bD
open Option renaming bind_some->af,map_eq_some_iff->aG
open Option.some renaming inj->aa,injEq->bH
open Prod.mk renaming inj->ad,injEq->bO
noncomputable section
namespace Go.Ev
def uk:Ev.K->Nat
 |.mv|.pick|.build _ _|.nilCheck|.t8 _|.pO _|.mK _ _|.tP _ _|.un _|.qn _|.zk _|.oC|.Do _|.fieldAddr _ _|.field _ _ _
 |.indexAddr _ _|.lA|.index _ _ _|.extract _|.len _|.ne _|.dM=>0
 |.load _ _|.lookup _ _ _ _ _|.slice _ _ _ _=>1
 |_=>2
set_option maxHeartbeats 2000000 in
theorem FD{call:Call}{k:Ev.K}{vs:List (Option TV)}{H:bl}{nxt n:Nat}{v:TV}{u:dD}{ap:List Nat}(hk:uk k<=1)(h:bN call k vs H nxt=some (v,u,ap,n)):u=[]:=by
 cases k<;>first
  |(simp[uk]at hk;done)
  |(unfold bN at h
    repeat' split at h
    all_goals first
     |(simp at h;done)
     |(simp only[bH,bO]at h;exact h.2.1.symm)
     |(simp_all;done))
set_option maxHeartbeats 2000000 in
theorem FC{call:Call}{k:Ev.K}{vs:List (Option TV)}{H:bl}{nxt n:Nat}{v:TV}{u:dD}{ap:List Nat}(hk:uk k=0)(h:bN call k vs H nxt=some (v,u,ap,n)):ap=[]:=by
 cases k<;>first
  |(simp[uk]at hk;done)
  |(unfold bN at h
    repeat' split at h
    all_goals first
     |(simp at h;done)
     |(simp only[bH,bO]at h;exact h.2.2.1.symm)
     |(simp_all;done))
def lE(acc:List Nat):List Edge->Nat
 |[]=>0
 |e::r=>if Region.binds .any e then(lE acc r)|||2^e.on|||acc.getD e.on 0 else lE acc r
def GL:List Oper->List Nat->List Nat
 |[],acc=>acc
 |o::r,acc=>GL r (acc++[lE acc o.after.toList])
def sX(m:List Nat):List Oper->Nat->Bool
 |[],_=>true
 |o::r,i=>m.getD i 0==lE m o.after.toList&&o.after.toList.all (fun e=>!(Region.binds .any e)||decide (e.on<i))&&sX m r (i+1)
def dw(m:List Nat)(i j:Nat):Bool:=(m.getD j 0).testBit i
def Nv:Operand->Option Nat
 |.tmp t=>some t
 |_=>none
def AH(o:km):List Nat:=o.args.filterMap Nv++(match o.guard with|some (t,_)=>[t]|none=>[])
def Dy(d:Option Nat)(l:List Nat):Bool:=match d with|some d=>l.contains d|none=>false
def tW(a b:km):Bool:=Dy a.dst (AH b)||Dy b.dst (AH a)||Dy a.dst b.dst.toList
def p6(m:List Nat)(i:Nat)(a:km):List km->Nat->Bool
 |[],_=>true
 |b::r,j=>(dw m i j||!tW a b)&&p6 m i a r (j+1)
def sJ(m:List Nat):List km->Nat->Bool
 |[],_=>true
 |a::r,i=>p6 m i a r (i+1)&&sJ m r (i+1)
def z_:Value->Value->Bool
 |.int k a,.int k' b=>decide (k=k')&&decide (a=b)
 |.bool a,.bool b=>decide (a=b)
 |.string a,.string b=>decide (a.toList=b.toList)
 |.float k a,.float k' b=>decide (k=k')&&decide (a=b)
 |.slice none 0 0,.slice none 0 0|.pointer none,.pointer none|.map none,.map none|.nilFunc,.nilFunc|.nilIface,.nilIface=>true
 |_,_=>false
def uT:List Value->List Value->Bool
 |[],[]=>true
 |x::xs,y::ys=>z_ x y&&uT xs ys
 |_,_=>false
def uP:Ev.K->Ev.K->Bool
 |.lookup ka ks va z false,.mapEntry ka' ks' va' z'=>decide (ka=ka')&&decide (ks=ks')&&decide (va=va')&&uT z z'
 |_,_=>false
def qZ(m:List Nat)(i:Nat)(a:km):List km->Nat->List (Nat×Nat)
 |[],_=>[]
 |b::r,j=>if dw m i j||uk b.k==0||uk b.k+uk a.k<=2 then qZ m i a r (j+1)else(i,if uP a.k b.k then 1000+j else j)::qZ m i a r (j+1)
def oA(m:List Nat):List km->Nat->List (Nat×Nat)
 |[],_=>[]
 |a::r,i=>(if uk a.k==0 then[]else qZ m i a r (i+1))++oA m r (i+1)
def q_(ops:List Oper)(cops:List km)(jT:List Nat):CC:=
 let m:=GL ops []
 if sX m ops 0&&sJ m cops 0&&decide (cops.length<=1000)then .drawn cops (oA m cops 0) jT else .dM
theorem uB{acc:List Nat}{j:Nat}:∀{es:List Edge},(lE acc es).testBit j=true->∃e∈es,Region.binds .any e=true/\(e.on=j\/(acc.getD e.on 0).testBit j=true):=by
 intro es;induction es with
 |nil=>intro h;simp[lE]at h
 |cons e r ih=>
  intro h;simp only[lE]at h;split at h
  .rename_i hb;simp only[Nat.testBit_or,cV,Nat.testBit_two_pow,decide_eq_true_eq]at h;rcases h with(h|h)|h
   .obtain ⟨e',he,h'⟩:=ih h;exact⟨e',av _ he,h'⟩
   .exact ⟨e,bG,hb,.inl h⟩
   .exact ⟨e,bG,hb,.inr h⟩
  .obtain ⟨e',he,h'⟩:=ih h;exact⟨e',av _ he,h'⟩
theorem At{m:List Nat}:∀{l:List Oper}{i:Nat},sX m l i=true->∀(k:Nat)(o:Oper),l[k]?=some o->
  (∀j,dw m j (i+k)=true->∃e∈o.after,Region.binds .any e=true/\(e.on=j\/dw m j e.on=true))/\∀e∈o.after,Region.binds .any e=true->e.on<i+k:=by
 intro l;induction l with
 |nil=>intro i _ k o hk;simp at hk
 |cons o0 r ih=>
  intro i h k o hk;simp only[sX,ae]at h;obtain⟨⟨h1,h2⟩,h3⟩:=h;cases k with
  |zero=>
   obtain rfl:o0=o:=by simpa using hk
   refine⟨fun j hj=>?_,fun e he hb=>?_⟩
   .unfold dw at hj;rw[cN,(by simpa using h1:m.getD i 0=_)]at hj;obtain⟨e,he,h'⟩:=uB hj;exact⟨e,by simpa using he,h'⟩
   .have:=aQ.1 h2 e (by simpa using he);simpa[hb]using this
  |succ k=>have:=ih h3 k o (by simpa using hk);rw[show i+1+k=i+(k+1)by omega]at this;exact this
theorem uo{m:List Nat}{i:Nat}{a:km}:∀{l:List km}{j:Nat},p6 m i a l j=true->∀(k:Nat)(b:km),l[k]?=some b->dw m i (j+k)=true\/tW a b=false:=by
 intro l;induction l with
 |nil=>intro j _ k b hk;simp at hk
 |cons b0 r ih=>
  intro j h k b hk;simp only[p6,ae]at h;cases k with
  |zero=>
   obtain rfl:b0=b:=by simpa using hk
   simpa using h.1
  |succ k=>have:=ih h.2 k b (by simpa using hk);rwa[show j+1+k=j+(k+1)by omega]at this
theorem z8{m:List Nat}:∀{l:List km}{i:Nat},sJ m l i=true->∀(k k':Nat)(a b:km),l[k]?=some a->l[k']?=some b->k<k'->dw m (i+k) (i+k')=true\/tW a b=false:=by
 intro l;induction l with
 |nil=>intro i _ k k' a b hk;simp at hk
 |cons a0 r ih=>
  intro i h k k' a b hk hk' hlt;simp only[sJ,ae]at h;cases k' with
  |zero=>omega
  |succ k'=>
   cases k with
   |zero=>
    obtain rfl:a0=a:=by simpa using hk
    have:=uo h.1 k' b (by simpa using hk');rwa[show i+1+k'=i+(k'+1)by omega]at this
   |succ k=>have:=ih h.2 k k' a b (by simpa using hk) (by simpa using hk') (by omega);rwa[show i+1+k=i+(k+1)by omega,show i+1+k'=i+(k'+1)by omega]at this
theorem ze{m:List Nat}{i:Nat}{a:km}:∀{l:List km}{j:Nat},∀(k:Nat)(b:km),l[k]?=some b->dw m i (j+k)=true\/uk b.k=0\/uk b.k+uk a.k<=2\/(i,if uP a.k b.k then 1000+(j+k)else j+k)∈qZ m i a l j:=by
 intro l;induction l with
 |nil=>intro j k b hk;simp at hk
 |cons b0 r ih=>
  intro j k b hk;cases k with
  |zero=>
   obtain rfl:b0=b:=by simpa using hk
   simp only[qZ];split
   .rename_i h;simp only[cV,beq_iff_eq,decide_eq_true_eq]at h;rcases h with(h|h)|h
    .exact .inl h
    .exact .inr (.inl h)
    .exact .inr (.inr (.inl h))
   .exact .inr (.inr (.inr (bG ..)))
  |succ k=>
   have:=ih (j:=j+1) k b (by simpa using hk);rw[show j+1+k=j+(k+1)by omega]at this;rcases this with h|h|h|h
   .exact .inl h
   .exact .inr (.inl h)
   .exact .inr (.inr (.inl h))
   .refine .inr (.inr (.inr ?_));simp only[qZ];split
    .exact h
    .exact av _ h
theorem zf{m:List Nat}:∀{l:List km}{i:Nat},∀(k k':Nat)(a b:km),l[k]?=some a->l[k']?=some b->k<k'->
  dw m (i+k) (i+k')=true\/uk a.k=0\/uk b.k=0\/uk b.k+uk a.k<=2\/(i+k,if uP a.k b.k then 1000+(i+k')else i+k')∈oA m l i:=by
 intro l;induction l with
 |nil=>intro i k k' a b hk;simp at hk
 |cons a0 r ih=>
  intro i k k' a b hk hk' hlt;cases k' with
  |zero=>omega
  |succ k'=>
   cases k with
   |zero=>
    obtain rfl:a0=a:=by simpa using hk
    have:=ze (m:=m) (i:=i) (a:=a0) (j:=i+1) k' b (by simpa using hk');rw[show i+1+k'=i+(k'+1)by omega]at this;rcases this with h|h|h|h
    .exact .inl h
    .exact .inr (.inr (.inl h))
    .exact .inr (.inr (.inr (.inl h)))
    .by_cases e:uk a0.k=0
     .exact .inr (.inl e)
     .refine .inr (.inr (.inr (.inr ?_)));simp only[oA,beq_iff_eq,e,if_false];exact aC _ h
   |succ k=>
    have:=ih (i:=i+1) k k' a b (by simpa using hk) (by simpa using hk') (by omega);rw[show i+1+k=i+(k+1)by omega,show i+1+k'=i+(k'+1)by omega]at this;rcases this with h|h|h|h|h
    .exact .inl h
    .exact .inr (.inl h)
    .exact .inr (.inr (.inl h))
    .exact .inr (.inr (.inr (.inl h)))
    .exact .inr (.inr (.inr (.inr (by simp only[oA];exact aA _ h))))
theorem CT{a b:Value}(h:z_ a b=true):a=b:=by
 unfold z_ at h;split at h<;>first|rfl|(simp at h;done)|skip
 .obtain ⟨rfl,rfl⟩:_/\_:=by simpa using h
  rfl
 .obtain rfl:_=_:=by simpa using h
  rfl
 .rename_i x y;have:x.toList=y.toList:=by simpa using h
  rw[ByteArray.toList_eq,ByteArray.toList_eq]at this;obtain⟨⟨x⟩⟩:=x;obtain⟨⟨y⟩⟩:=y;have e:x=y:=by simpa using this
  rw[e]
 .obtain ⟨rfl,rfl⟩:_/\_:=by simpa using h
  rfl
theorem EH:∀{a b:List Value},uT a b=true->a=b:=by
 intro a;induction a with
 |nil=>intro b h;cases b<;>simp_all[uT]
 |cons x a ih=>intro b h;cases b with|nil=>simp[uT]at h|cons y b=>simp only[uT,ae]at h;rw[CT h.1,ih h.2]
theorem FE:∀{ks:List Kd}{a b:List Value},r_ ks a=true->r_ ks b=true->∃r,eu ks a b=some r:=by
 intro ks;induction ks with
 |nil=>intro a b h1 h2;cases a<;>cases b<;>simp_all[r_,eu]
 |cons k ks ih=>
  intro a b h1 h2;cases a with
  |nil=>simp[r_]at h1
  |cons x a=>
   cases b with
   |nil=>simp[r_]at h2
   |cons y b=>
    simp only[r_,ae]at h1 h2;obtain⟨r,hr⟩:=ih h1.2 h2.2;have hk:∃q,xo k x y=some q:=by have ha:=h1.1;have hb:=h2.1;cases k<;>cases x<;>cases y<;>simp_all[Du,xo]
    obtain⟨q,hq⟩:=hk;exact⟨q&&r,by simp[eu,hq,hr]⟩
theorem DC{ks:List Kd}{key:List Value}{e:mS}:∀{es:List mS}{i:Nat},
  jb ks key (es++[e]) i=(match jb ks key es i with|some (some j)=>some (some j)|some none=>(match eu ks key e.1 with|some true=>some (some (i+es.length))|some false=>some none|none=>none)|none=>none):=by
 intro es;induction es with
 |nil=>intro i;simp only[List.nil_append,jb,List.length_nil,cN];cases eu ks key e.1 with|none=>rfl|some b=>cases b<;>rfl
 |cons x es ih=>
  intro i;simp only[List.cons_append,jb];cases eu ks key x.1 with
  |none=>rfl
  |some b=>cases b with|true=>rfl|false=>simp only[ih,cz];rw[show i+1+es.length=i+(es.length+1)by omega]
theorem F8{ks:List Kd}{key:List Value}:∀{es:List mS}{i j:Nat},jb ks key es i=some (some j)->j<i+es.length:=by
 intro es;induction es with
 |nil=>intro i j h;simp[jb]at h
 |cons x es ih=>
  intro i j h;simp only[jb]at h;split at h
  .obtain rfl:i=j:=by simpa using h
   simp
  .have:=ih h;simp only[cz];omega
  .simp at h
theorem yO{ka:Bool}{ks:List Kd}{k:TV}{key:List Value}(h:jC ka ks k=some key):r_ ks key=true:=by
 cases k with
 |agg cs=>
  simp only[jC]at h;split at h
  .exact (mD h).2
  .simp at h
 |c x=>
  simp only[jC]at h;split at h
  .exact (mD h).2
  .simp at h
 |eU xs=>simp[jC]at h
theorem CN{call1 call2:Call}{k1 k2:Ev.K}{vs1 vs2:List (Option TV)}{H H':bl}{nx1 nx2 n n2 id:Nat}{v v2:TV}{u u2:dD}{ids2:List Nat}(hk:uP k1 k2=true)
  (h1:bN call1 k1 vs1 H nx1=some (v,u,[id],n)) (h2:bN call2 k2 vs2 H' nx2=some (v2,u2,ids2,n2)) (hs:au H' id=au H id) (ht:id∈u2.map (·.1)):
  bN call1 k1 vs1 (u2++H) nx1=some (v,u,[id],n):=by
 unfold uP at hk;split at hk
 .rename_i ka ks va z ka' ks' va' z';simp only[ae,decide_eq_true_eq]at hk;obtain⟨⟨⟨rfl,rfl⟩,rfl⟩,hz⟩:=hk;obtain rfl:=EH hz
  match vs1,vs2,h1,h2 with
  |[some (.c m1),some kt1],[some (.c m2),some kt2],h1,h2=>
   change (match fq ka ks va z false m1 kt1 H with|some (v,ap)=>some (v,([]:dD),ap,nx1)|none=>none)=_ at h1;change (match jV ka ks va z m2 kt2 H' with|some (v,u,ap)=>some (v,u,ap,nx2)|none=>none)=_ at h2;show(match fq ka ks va z false m1 kt1 (u2++H)with|some (v,ap)=>some (v,([]:dD),ap,nx1)|none=>none)=_
   have key:fq ka ks va z false m1 kt1 H=some (v,[id])->fq ka ks va z false m1 kt1 (u2++H)=some (v,[id]):=by
    clear h1;intro h1;split at h2
    .rename_i v3 u3 ids3 h3;obtain⟨_,rfl,_,_⟩:v3=v2/\u3=u2/\ids3=ids2/\nx2=n2:=by simpa using h2
     unfold jV at h3;split at h3
     .rename_i id2 key2 hkey2;have hok2:=yO hkey2;split at h3
      .rename_i ka2 va2 es bA hob;split at h3
       .rename_i hkv;obtain⟨rfl,rfl⟩:=hkv
        -- what is laid anew
        have hu:∃es' clock',u3=[(id2,some (.map ka2 va2 es' clock'))]/\(es'=es\/es'=es++[(key2,cn z,bA)]):=by
         split at h3
         .split at h3
          .obtain ⟨_,rfl,_⟩:=(by simpa using h3:_/\_/\_)
           exact⟨_,_,rfl,.inl rfl⟩
          .simp at h3
         .split at h3
          .obtain ⟨_,rfl,_⟩:=(by simpa using h3:_/\_/\_)
           exact⟨_,_,rfl,.inr rfl⟩
          .simp at h3
         .simp at h3
        obtain⟨es',clock',rfl,hes⟩:=hu;obtain rfl:id=id2:=by simpa using ht
        have hl2:au ([(id,some (Ob.map ka2 va2 es' clock'))]++H) id=some (.map ka2 va2 es' clock'):=by rw[eI,bB,if_pos rfl]
        rw[hs]at hob;unfold fq at h1|-;split at h1
        .split at h1
         .simp at h1
         .simp at h1
        .rename_i id1 key1 hkey1;have hok1:=yO hkey1
         have hid:id1=id:=by
          repeat' split at h1
          all_goals first
           |(simp at h1;done)
           |(obtain⟨_,h4⟩:=ad (aa h1);simpa using h4)
         subst hid;simp only[hob,hl2,and_self,if_true]at h1|-;rcases hes with rfl|rfl
         .exact h1
         .rw [DC];split at h1
          .rename_i j hf;have hlt:=F8 hf;rw[bD]at hlt;simp only[hf];have e1:(es++[(key2,cn z,bA)]).getD j default=es.getD j default:=by simp only[cZ];rw[List.getElem?_append_left hlt]
           rw[e1];exact h1
          .rename_i hf;simp only[hf];obtain⟨r,hr⟩:=FE hok1 hok2;simp only[hr];cases r with
           |false=>exact h1
           |true=>
            have e1:(es++[(key2,cn z,bA)]).getD (0+es.length) default=(key2,cn z,bA):=by simp[cZ]
            simp only[e1];exact h1
          .simp at h1
        .simp at h1
       .simp at h3
      .simp at h3
     .simp at h3
    .simp at h2
   split at h1
   .rename_i v1 ids1 hl;obtain⟨rfl,rfl,rfl,rfl⟩:v1=v/\[]=u/\ids1=[id]/\nx1=n:=by simpa using h1
    rw[key hl]
   .simp at h1
 .simp at hk
abbrev Bx:=Option (TV×dD×List Nat×Nat)
def A4:Bx->Option TV
 |some (v,_)=>some v
 |none=>some (.eU [])
def mn:Bx->dD
 |some (_,u,_)=>u
 |none=>[]
def lD:Bx->List Nat
 |some (_,_,r,_)=>r
 |none=>[]
def uG(call:Call)(aL i:Nat)(o:km)(e:gy)(h:bl)(f:Bx)(e':gy)(h':bl):Prop:=match f with|some (v,u,ap,n)=>gZ e o.guard=some true/\bN call o.k (o.args.map (g_ e)) h (aL+fS*i)=some (v,u,ap,n)/\n<=aL+fS*(i+1)/\e'=put e o.dst v/\h'=u++h|none=>gZ e o.guard=some false/\e'=drop e o.dst/\h'=h
theorem zg{calls:Nat->Call}{aL:Nat}:∀(l:List km)(i:Nat)(e:gy)(h:bl)(e':gy)(h':bl)(tr:List (List Nat×List Nat)),jX calls aL l i e h=some (e',h',tr)->
  ∃(E:Nat->gy)(Hp:Nat->bl)(ef:Nat->Bx),E 0=e/\Hp 0=h/\E l.length=e'/\Hp l.length=h'/\
   ∀(k:Nat)(o:km),l[k]?=some o->uG (calls (i+k)) aL (i+k) o (E k) (Hp k) (ef k) (E (k+1)) (Hp (k+1))/\tr[k]?=some (lD (ef k),(mn (ef k)).map (·.1)):=by
 intro l;induction l with
 |nil=>
  intro i e h e' h' tr hh;obtain⟨rfl,rfl,rfl⟩:e=e'/\h=h'/\[]=tr:=by simpa[jX]using hh
  exact⟨fun _=>e,fun _=>h,fun _=>none,rfl,rfl,rfl,rfl,fun k o hk=>by simp at hk⟩
 |cons o r ih=>
  intro i e h e' h' tr hh;simp only[jX]at hh
  have fin:∀(f:Bx)(e1:gy)(h1:bl)(tr1:List (List Nat×List Nat)),jX calls aL r (i+1) e1 h1=some (e',h',tr1)->uG (calls i) aL i o e h f e1 h1->tr=(lD f,(mn f).map (·.1))::tr1->
    ∃(E:Nat->gy)(Hp:Nat->bl)(ef:Nat->Bx),E 0=e/\Hp 0=h/\E (o::r).length=e'/\Hp (o::r).length=h'/\
     ∀(k:Nat)(o':km),(o::r)[k]?=some o'->uG (calls (i+k)) aL (i+k) o' (E k) (Hp k) (ef k) (E (k+1)) (Hp (k+1))/\tr[k]?=some (lD (ef k),(mn (ef k)).map (·.1)):=by
   intro f e1 h1 tr1 hrun hs htr;obtain⟨E,Hp,ef,a1,a2,a3,a4,a5⟩:=ih (i+1) e1 h1 e' h' tr1 hrun;refine⟨fun k=>match k with|0=>e|k+1=>E k,fun k=>match k with|0=>h|k+1=>Hp k,fun k=>match k with|0=>f|k+1=>ef k,rfl,rfl,a3,a4,fun k o' hk=>?_⟩;subst htr;cases k with
   |zero=>
    obtain rfl:o=o':=by simpa using hk
    refine⟨?_,by simp⟩;simp only[cN,a1,a2];exact hs
   |succ k=>have:=a5 k o' (by simpa using hk);rw[show i+1+k=i+(k+1)by omega]at this;exact⟨this.1,by simpa using this.2⟩
  split at hh
  .rename_i hw;split at hh
   .rename_i v u ap n hev;split at hh
    .rename_i hn;split at hh
     .rename_i e1 h1 tr1 hrun;obtain⟨rfl,rfl,rfl⟩:e1=e'/\h1=h'/\_=tr:=by simpa using hh
      exact fin (some (v,u,ap,n)) _ _ tr1 hrun ⟨hw,hev,hn,rfl,rfl⟩ rfl
     .simp at hh
    .simp at hh
   .simp at hh
  .rename_i hw;split at hh
   .rename_i e1 h1 tr1 hrun;obtain⟨rfl,rfl,rfl⟩:e1=e'/\h1=h'/\_=tr:=by simpa using hh
    exact fin none _ _ tr1 hrun ⟨hw,rfl,rfl⟩ rfl
   .simp at hh
  .simp at hh
section
variable(dst:Nat->Option Nat)(ef:Nat->Bx)(D:Nat->Bool)(e0:Nat->Option TV)(h0:Nat->Option Ob)
def kI:Nat->Nat->Option TV
 |0,t=>e0 t
 |k+1,t=>if D k=true/\dst k=some t then A4 (ef k)else kI k t
def gx:Nat->Nat->Option Ob
 |0,i=>h0 i
 |k+1,i=>if D k=true then(match bM (mn (ef k)) i with|some o=>o|none=>gx k i)else gx k i
end
def pT(ef:Nat->Bx)(k id:Nat):Prop:=id∈(mn (ef k)).map (·.1)
theorem oV{α:Type}{u:List (Nat×α)}{id:Nat}(h:id∉u.map (·.1)):bM u id=none:=by
 induction u with
 |nil=>rfl
 |cons p r ih=>
  obtain⟨i,x⟩:=p;simp only[aq,aD,not_or]at h;have:(i==id)=false:=by simpa using fun e:i=id=>h.1 e.symm
  simp[bM,this,ih h.2]
theorem F0{α:Type}{u:List (Nat×α)}{id:Nat}(h:id∈u.map (·.1)):∃x,bM u id=some x:=by
 induction u with
 |nil=>simp at h
 |cons p r ih=>
  obtain⟨i,x⟩:=p;by_cases e:i=id
  .exact ⟨x,by simp[bM,e]⟩
  .have e':(i==id)=false:=by simpa using e
   simp only[aq,aD]at h;rcases h with h|h
   .exact absurd h.symm e
   .simpa [bM,e']using ih h
section
variable{dst:Nat->Option Nat}{ef:Nat->Bx}{D D':Nat->Bool}{E:Nat->gy}{Hp:Nat->bl}
theorem wM{n i t:Nat}(hstep:∀k,k<n->∀t,bM (E (k+1)) t=if dst k=some t then A4 (ef k)else bM (E k) t)(hi:i<=n)
  (h1:∀k,k<i->dst k=some t->D k=true) (h2:∀k,i<=k->k<n->dst k=some t->D k=false):kI dst ef D (bM (E 0)) n t=bM (E i) t:=by
 have a:∀k,k<=i->kI dst ef D (bM (E 0)) k t=bM (E k) t:=by
  intro k;induction k with
  |zero=>intro _;rfl
  |succ k ih=>
   intro hk;rw[kI,hstep k (by omega)];by_cases hd:dst k=some t
   .rw [if_pos ⟨h1 k (by omega) hd,hd⟩,if_pos hd]
   .rw [if_neg (fun h=>hd h.2),if_neg hd,ih (by omega)]
 have b:∀d,i+d<=n->kI dst ef D (bM (E 0)) (i+d) t=bM (E i) t:=by intro d;induction d with|zero=>intro _;exact a i (ak _)|succ d ih=>intro hd;rw[<-cg,kI,if_neg,ih (by omega)];rintro⟨hD,hdst⟩;rw[h2 (i+d) (by omega) (by omega) hdst]at hD;simp at hD
 have:=b (n-i) (by omega);rwa[gz hi]at this
theorem tG{n i id:Nat}(hstep:∀k,k<n->∀id,au (Hp (k+1)) id=match bM (mn (ef k)) id with|some o=>o|none=>au (Hp k) id)(hi:i<=n)
  (h1:∀k,k<i->pT ef k id->D k=true) (h2:∀k,i<=k->k<n->pT ef k id->D k=false):gx ef D (au (Hp 0)) n id=au (Hp i) id:=by
 have a:∀k,k<=i->gx ef D (au (Hp 0)) k id=au (Hp k) id:=by
  intro k;induction k with
  |zero=>intro _;rfl
  |succ k ih=>
   intro hk;rw[gx,hstep k (by omega),ih (by omega)];by_cases ht:pT ef k id
   .rw [if_pos (h1 k (by omega) ht)]
   .rw [oV ht];simp
 have b:∀d,i+d<=n->gx ef D (au (Hp 0)) (i+d) id=au (Hp i) id:=by
  intro d;induction d with
  |zero=>intro _;exact a i (ak _)
  |succ d ih=>
   intro hd;rw[<-cg,gx,ih (by omega)];by_cases ht:pT ef (i+d) id
   .rw [if_neg (by simp[h2 (i+d) (by omega) (by omega) ht])]
   .rw [oV ht];simp
 have:=b (n-i) (by omega);rwa[gz hi]at this
theorem Gc{e0:Nat->Option TV}{n i t:Nat}(hi:i<n)(hD:∀k,k≠i->D' k=D k)(hDi:D' i=true)(hDi0:D i=false)
  (h:dst i=some t->∀k,i<k->k<n->D k=true->dst k≠some t):
  kI dst ef D' e0 n t=if dst i=some t then A4 (ef i)else kI dst ef D e0 n t:=by
 have a:∀k,k<=i->kI dst ef D' e0 k t=kI dst ef D e0 k t:=by intro k;induction k with|zero=>intro _;rfl|succ k ih=>intro hk;rw[kI,kI,hD k (by omega),ih (by omega)]
 have b:∀d,i+1+d<=n->kI dst ef D' e0 (i+1+d) t=if dst i=some t then A4 (ef i)else kI dst ef D e0 (i+1+d) t:=by
  intro d;induction d with
  |zero=>intro _;show kI dst ef D' e0 (i+1) t=if dst i=some t then A4 (ef i)else kI dst ef D e0 (i+1) t;rw[kI,kI,hDi,hDi0,a i (ak _)];simp
  |succ d ih=>
   intro hd;rw[<-cg,kI,kI,hD (i+1+d) (by omega),ih (by omega)];by_cases hc:D (i+1+d)=true/\dst (i+1+d)=some t
   .rw [if_pos hc,if_pos hc,if_neg];intro hdi;exact h hdi (i+1+d) (by omega) (by omega) hc.1 hc.2
   .rw [if_neg hc,if_neg hc]
 have:=b (n-(i+1)) (by omega);rwa[gz (by omega)]at this
theorem Dz{h0:Nat->Option Ob}{n i id:Nat}(hi:i<n)(hD:∀k,k≠i->D' k=D k)(hDi:D' i=true)(hDi0:D i=false)
  (h:pT ef i id->∀k,i<k->k<n->D k=true->¬pT ef k id):
  gx ef D' h0 n id=match bM (mn (ef i)) id with|some o=>o|none=>gx ef D h0 n id:=by
 have a:∀k,k<=i->gx ef D' h0 k id=gx ef D h0 k id:=by intro k;induction k with|zero=>intro _;rfl|succ k ih=>intro hk;rw[gx,gx,hD k (by omega),ih (by omega)]
 have b:∀d,i+1+d<=n->gx ef D' h0 (i+1+d) id=match bM (mn (ef i)) id with|some o=>o|none=>gx ef D h0 (i+1+d) id:=by
  intro d;induction d with
  |zero=>
   intro _;show gx ef D' h0 (i+1) id=match bM (mn (ef i)) id with|some o=>o|none=>gx ef D h0 (i+1) id
   rw[gx,gx,hDi,hDi0,a i (ak _)];simp
  |succ d ih=>
   intro hd;rw[<-cg,gx,gx,hD (i+1+d) (by omega),ih (by omega)];by_cases ht:pT ef i id
   .by_cases hc:D (i+1+d)=true
    .rw [oV (h ht (i+1+d) (by omega) (by omega) hc)];simp
    .rw [if_neg hc,if_neg hc]
   .rw [oV ht]
 have:=b (n-(i+1)) (by omega);rwa[gz (by omega)]at this
end
section
variable{P:Program}{S K:Nat->Prop}{w0 w:World}{Kn:Nat->Prop}{φ:Nat->eG}{gv:List Value}{nt:Nat}{a:Act}{call:Call}{calls:Nat->Call}{dQ:xe}{s s':St}
 {ops:Array Oper} {l:List km} {m:List Nat} {aL:Nat} {E:Nat->gy} {Hp:Nat->bl} {ef:Nat->Bx}
def mM(l:List km)(k:Nat):Option Nat:=(l[k]?).bind (·.dst)
def Jn(calls:Nat->Call)(l:List km)(aL:Nat)(E:Nat->gy)(Hp:Nat->bl)(ef:Nat->Bx)(i j:Nat):Prop:=∃c v u id n,l[i]?=some c/\ef i=some (v,u,[id],n)/\bN (calls i) c.k (c.args.map (g_ (E i))) (mn (ef j)++Hp i) (aL+fS*i)=some (v,u,[id],n)
structure zH(P:Program)(dQ:xe)(nt:Nat)(calls:Nat->Call)(ops:Array Oper)(l:List km)(m:List Nat)(aL:Nat)(E:Nat->gy)(Hp:Nat->bl)(ef:Nat->Bx):Prop where
 len:l.length=ops.size
 NS:∀(k:Nat)(o:Oper),ops[k]?=some o->l[k]?=some (eB P dQ nt ops o)
 ll:∀(k:Nat)(c:km),l[k]?=some c->uG (calls k) aL k c (E k) (Hp k) (ef k) (E (k+1)) (Hp (k+1))
 MV:∀(k:Nat)(o:Oper),ops[k]?=some o->(∀j,dw m j k=true->∃e∈o.after,Region.binds .any e=true/\(e.on=j\/dw m j e.on=true))/\∀e∈o.after,Region.binds .any e=true->e.on<k
 Nm:∀(i j:Nat)(a b:km),l[i]?=some a->l[j]?=some b->i<j->dw m i j=true\/tW a b=false
 Nq:∀(i j:Nat),i<j->j<ops.size->dw m i j=true\/((∀id,pT ef i id->id∉lD (ef j)/\¬pT ef j id)/\((∀id,pT ef j id->id∉lD (ef i))\/Jn calls l aL E Hp ef i j))
theorem uG.cG{i:Nat}{o:km}{e e':gy}{h h':bl}{f:Bx}(hs:uG call aL i o e h f e' h')(t:Nat):bM e' t=if o.dst=some t then A4 f else bM e t:=by cases f with|none=>obtain⟨_,rfl,_⟩:=hs;rw[tK];rfl|some p=>obtain⟨v,u,r,n⟩:=p;obtain⟨_,_,_,rfl,_⟩:=hs;rw[iH];rfl
theorem uG.heap{i:Nat}{o:km}{e e':gy}{h h':bl}{f:Bx}(hs:uG call aL i o e h f e' h')(id:Nat):au h' id=match bM (mn f) id with|some o=>o|none=>au h id:=by cases f with|none=>obtain⟨_,_,rfl⟩:=hs;rfl|some p=>obtain⟨v,u,r,n⟩:=p;obtain⟨_,_,_,_,rfl⟩:=hs;rw[eI];rfl
theorem HD{e':gy}{h':bl}{e:gy}{h:bl}{tr:List (List Nat×List Nat)}(hl:l=ops.toList.map (eB P dQ nt ops))(hord:sX m ops.toList 0=true)(hsch:sJ m l 0=true)
  (hev:jX calls aL l 0 e h=some (e',h',tr)) (hdyn:vy tr (oA m l 0)=true) (hsmall:l.length<=1000):
  ∃E Hp ef,zH P dQ nt calls ops l m aL E Hp ef/\E 0=e/\Hp 0=h/\E ops.size=e'/\Hp ops.size=h':=by
 obtain⟨E,Hp,ef,h1,h2,h3,h4,h5⟩:=zg l 0 e h e' h' tr hev;have hlen:l.length=ops.size:=by rw[hl];simp
 refine⟨E,Hp,ef,⟨hlen,?_,?_,?_,?_,?_⟩,h1,h2,hlen▸h3,hlen▸h4⟩
 .intro k o hk;rw[hl,aB,aU,hk];rfl
 .intro k c hk;have:=(h5 k c hk).1;rwa[bD]at this
 .intro k o hk;have:=At hord k o (by rw[aU];exact hk);rwa[bD]at this
 .intro i j a b ha hb hij;have:=z8 hsch i j a b ha hb hij;rwa[bD,bD]at this
 .intro i j hij hj;have hi':i<l.length:=by omega
  have hj':j<l.length:=by omega
  obtain⟨a,ha⟩:∃a,l[i]?=some a:=⟨_,ai hi'⟩
  obtain⟨b,hb⟩:∃b,l[j]?=some b:=⟨_,ai hj'⟩
  have sa:=h5 i a ha;have sb:=h5 j b hb;have noU:∀(k:Nat)(c:km),uG (calls (0+k)) aL (0+k) c (E k) (Hp k) (ef k) (E (k+1)) (Hp (k+1))->uk c.k<=1->∀id,¬pT ef k id:=by intro k c hs hc id ht;unfold pT at ht;generalize hf:ef k=f at hs ht;cases f with|none=>simp[mn]at ht|some p=>obtain⟨v,u,r,n⟩:=p;obtain⟨_,hev1,_⟩:=hs;rw[show mn (some (v,u,r,n))=u from rfl,FD hc hev1]at ht;simp at ht
  have noR:∀(k:Nat)(c:km),uG (calls (0+k)) aL (0+k) c (E k) (Hp k) (ef k) (E (k+1)) (Hp (k+1))->uk c.k=0->∀id,id∉lD (ef k):=by intro k c hs hc id ht;generalize hf:ef k=f at hs ht;cases f with|none=>simp[lD]at ht|some p=>obtain⟨v,u,r,n⟩:=p;obtain⟨_,hev1,_⟩:=hs;rw[show lD (some (v,u,r,n))=r from rfl,FC hc hev1]at ht;simp at ht
  rcases zf (m:=m) (i:=0) i j a b ha hb hij with h|h|h|h|h
  .rw [bD,bD]at h;exact .inl h
  .exact .inr ⟨fun id ht=>absurd ht (noU i a sa.1 (by omega) id),.inl fun id _=>noR i a sa.1 h id⟩
  .exact .inr ⟨fun id _=>⟨noR j b sb.1 h id,noU j b sb.1 (by omega) id⟩,.inl fun id ht=>absurd ht (noU j b sb.1 (by omega) id)⟩
  .by_cases ea:uk a.k<=1
   .by_cases eb:uk b.k<=1
    .exact .inr ⟨fun id ht=>absurd ht (noU i a sa.1 ea id),.inl fun id ht=>absurd ht (noU j b sb.1 eb id)⟩
    .have:uk a.k=0:=by omega
     exact .inr ⟨fun id ht=>absurd ht (noU i a sa.1 (by omega) id),.inl fun id _=>noR i a sa.1 this id⟩
   .have:uk b.k=0:=by omega
    exact .inr ⟨fun id _=>⟨noR j b sb.1 this id,noU j b sb.1 (by omega) id⟩,.inl fun id ht=>absurd ht (noU j b sb.1 (by omega) id)⟩
  .rw [bD,bD]at h
   have hapart:jc (lD (ef i),(mn (ef i)).map (·.1)) (lD (ef j),(mn (ef j)).map (·.1))=true->
     (∀id,pT ef i id->id∉lD (ef j)/\¬pT ef j id)/\((∀id,pT ef j id->id∉lD (ef i))\/Jn calls l aL E Hp ef i j):=by
    intro this;simp only[jc,ae,aQ,Bool.not_eq_true',List.contains_eq_mem,decide_eq_false_iff_not]at this;exact⟨fun id ht=>⟨(this.1 id ht).1,(this.1 id ht).2⟩,.inl fun id ht=>this.2 id ht⟩
   have hd:=aQ.1 hdyn _ h;by_cases hso:uP a.k b.k=true
   .rw [if_pos hso]at hd;simp only at hd;rw[if_pos (by omega),show 1000+j-1000=j by omega]at hd;simp only[zY,sa.2,sb.2,cV]at hd;rcases hd with hd|hd
    .exact .inr (hapart hd)
    .right;split at hd
     .rename_i id hab;obtain⟨hR,hU⟩:=ad hab;refine⟨fun id ht=>by unfold pT at ht;rw[hU]at ht;simp at ht,?_⟩;by_cases htj:pT ef j id
      .right
       -- nobody between lays that object anew
       have hsame:∀k,i<=k->k<=j->au (Hp k) id=au (Hp i) id:=by
        intro k hk;induction k with
        |zero=>intro _;rw[show i=0 by omega]
        |succ k ih=>
         intro hkj;by_cases e:i=k+1
         .rw [e]
         .have hik:i<=k:=by omega
          rw[<-ih hik (by omega)];obtain⟨c,hc⟩:∃c,l[k]?=some c:=⟨_,ai (by omega)⟩
          have sk:=h5 k c hc;rw[sk.1.heap id]
          have hn:id∉(mn (ef k)).map (·.1):=by
           by_cases e2:k=i
           .subst e2;rw[hU];simp
           .have hm:(lD (ef k),(mn (ef k)).map (·.1))∈(tr.take j).drop (i+1):=by refine aT (i:=k-(i+1)) ?_;rw[List.getElem?_drop,show i+1+(k-(i+1))=k by omega,List.getElem?_take,if_pos (by omega)];exact sk.2
            have:=aQ.1 hd _ hm;simpa using this
          rw[oV hn]
       have sai:=sa.1;have sbj:=sb.1;generalize hfi:ef i=fi at sai hR hU;generalize hfj:ef j=fj at sbj;cases fi with
       |none=>simp[lD]at hR
       |some p=>obtain⟨v,u,ap,n⟩:=p;obtain rfl:ap=[id]:=hR;cases fj with|none=>unfold pT at htj;rw[hfj]at htj;simp[mn]at htj|some q=>obtain⟨v2,u2,ids2,n2⟩:=q;unfold pT at htj;rw[hfj]at htj;obtain⟨_,hev1,_⟩:=sai;obtain⟨_,hev2,_⟩:=sbj;rw[bD]at hev1 hev2;exact⟨a,v,u,id,n,ha,hfi,by rw[hfj];exact CN hso hev1 hev2 (hsame j (by omega) (ak _)) htj⟩
      .left;intro id2 ht2;rw[hR];simp only[am];rintro rfl;exact htj ht2
     .simp at hd
   .rw [if_neg hso]at hd;simp only at hd;rw[if_neg (by omega)]at hd;simp only[sa.2,sb.2]at hd;exact .inr (hapart hd)
def uh(ops:Array Oper)(D:Nat->Bool):Prop:=∀(k:Nat)(o:Oper),ops[k]?=some o->D k=true->∀e∈o.after,Region.binds .any e=true->D e.on=true
theorem zH.Gs(hp:zH P dQ nt calls ops l m aL E Hp ef){D:Nat->Bool}(hc:uh ops D){i:Nat}:∀(N j:Nat),j<N->j<ops.size->D j=true->dw m i j=true->D i=true:=by
 intro N;induction N with
 |zero=>intro j hj;omega
 |succ N ih=>
  intro j hj hjn hD hb;have ho:ops[j]?=some ops[j]:=iP hjn;obtain⟨h1,h2⟩:=hp.MV j _ ho;obtain⟨e,he,hbd,h⟩:=h1 i hb;have hDe:=hc j _ ho hD e he hbd;rcases h with h|h
  .rw [<-h];exact hDe
  .have:=h2 e he hbd;exact ih e.on (by omega) (by omega) hDe h
theorem zH.LC(hp:zH P dQ nt calls ops l m aL E Hp ef){D:Nat->Bool}(hc:uh ops D){i j:Nat}{o:Oper}(hi:ops[i]?=some o)(hall:∀e∈o.after,Region.binds .any e=true->D e.on=true)
  (hb:dw m j i=true):D j=true:=by
 obtain⟨h1,h2⟩:=hp.MV i _ hi;obtain⟨e,he,hbd,h⟩:=h1 j hb;have hDe:=hall e he hbd;rcases h with h|h
 .rw [<-h];exact hDe
 .have:=h2 e he hbd;have hlt:i<ops.size:=(aP.1 hi).1;exact hp.Gs hc (e.on+1) e.on (by omega) (by omega) hDe h
theorem Cg{d:Option Nat}{l:List Nat}{t:Nat}(hd:d=some t)(h:t∈l):Dy d l=true:=by subst hd;simpa[Dy]using h
theorem zH.MP(hp:zH P dQ nt calls ops l m aL E Hp ef){D:Nat->Bool}(hc:uh ops D){i:Nat}{o:Oper}{c:km}(hi:ops[i]?=some o)(hci:l[i]?=some c)(hD:D i=false)
  (hall:∀e∈o.after,Region.binds .any e=true->D e.on=true):
  (∀t∈AH c,kI (mM l) ef D (bM (E 0)) ops.size t=bM (E i) t)/\(∃G,(∀id∈lD (ef i),gx ef D (au (Hp 0)) ops.size id=au G id)/\∀v u ap n,ef i=some (v,u,ap,n)->bN (calls i) c.k (c.args.map (g_ (E i))) G (aL+fS*i)=some (v,u,ap,n))/\
  (∀t,c.dst=some t->∀k,i<k->k<ops.size->D k=true->mM l k≠some t)/\(∀id,pT ef i id->∀k,i<k->k<ops.size->D k=true->¬pT ef k id):=by
 have hlt:i<ops.size:=(aP.1 hi).1;have get:∀k,k<ops.size->∃b,l[k]?=some b:=fun k hk=>⟨_,ai (by rw[hp.len];exact hk)⟩;have lat:∀k,i<k->k<ops.size->dw m i k=true->D k=false:=by intro k _ hk hb;cases hDk:D k with|false=>rfl|true=>rw[hp.Gs hc (k+1) k (by omega) hk hDk hb]at hD;simp at hD
 refine⟨fun t ht=>?_,?_,fun t ht k hik hk hDk hdk=>?_,fun id ht k hik hk hDk htk=>?_⟩
 .refine wM (fun k hk t=>?_) (Nat.le_of_lt hlt) (fun k hk hd=>?_) (fun k hik hk hd=>?_)
  .obtain ⟨b,hb⟩:=get k hk;have:=(hp.ll k b hb).cG t;rw[this];simp[mM,hb]
  .obtain ⟨b,hb⟩:=get k (by omega);have hbd:b.dst=some t:=by simpa[mM,hb]using hd
   rcases hp.Nm k i b c hb hci hk with h|h
   .exact hp.LC hc hi hall h
   .simp [tW,Cg hbd ht]at h
  .rcases fE i k with h1|h1
   .obtain ⟨b,hb⟩:=get k (by omega);have hbd:b.dst=some t:=by simpa[mM,hb]using hd
    rcases hp.Nm i k c b hci hb h1 with h|h
    .exact lat k h1 hk h
    .simp [tW,Cg hbd ht]at h
   .obtain rfl:k=i:=by omega
    exact hD
 .have hev:∀v u ap n,ef i=some (v,u,ap,n)->bN (calls i) c.k (c.args.map (g_ (E i))) (Hp i) (aL+fS*i)=some (v,u,ap,n):=by intro v u ap n hf;have hs:=hp.ll i c hci;rw[hf]at hs;exact hs.2.1
  by_cases hsoft:∃k,i<k/\k<ops.size/\D k=true/\∃id∈lD (ef i),pT ef k id
  .--the last of those that came ahead
   obtain⟨k,⟨hik,hk,hDk,id0,hid0,ht0⟩,hmax⟩:∃k,(i<k/\k<ops.size/\D k=true/\∃id∈lD (ef i),pT ef k id)/\∀k',k<k'->¬(i<k'/\k'<ops.size/\D k'=true/\∃id∈lD (ef i),pT ef k' id):=by
    have:∀(N:Nat)(k:Nat),ops.size-k<=N->(i<k/\k<ops.size/\D k=true/\∃id∈lD (ef i),pT ef k id)->
      ∃k,(i<k/\k<ops.size/\D k=true/\∃id∈lD (ef i),pT ef k id)/\∀k',k<k'->¬(i<k'/\k'<ops.size/\D k'=true/\∃id∈lD (ef i),pT ef k' id):=by
     intro N;induction N with
     |zero=>intro k h1 h2;omega
     |succ N ihN=>
      intro k h1 h2;by_cases hm:∃k',k<k'/\(i<k'/\k'<ops.size/\D k'=true/\∃id∈lD (ef i),pT ef k' id)
      .obtain ⟨k',h3,h4⟩:=hm;exact ihN k' (by omega) h4
      .exact ⟨k,h2,fun k' h3 h4=>hm ⟨k',h3,h4⟩⟩
    obtain⟨k,h⟩:=hsoft;exact this _ k (ak _) h
   rcases hp.Nq i k hik hk with h|⟨_,h|h⟩
   .rw [lat k hik hk h]at hDk;simp at hDk
   .exact absurd hid0 (h id0 ht0)
   .obtain ⟨c',v,u,id,n,hc',hf,hev'⟩:=h;obtain rfl:c=c':=aa (hci.symm.trans hc');have hR:lD (ef i)=[id]:=by rw[hf];rfl
    refine⟨mn (ef k)++Hp i,fun id' hid'=>?_,fun v' u' ids' n' hf'=>?_⟩
    .obtain rfl:id'=id:=by rw[hR]at hid';simpa using hid'
     obtain rfl:id0=id':=by rw[hR]at hid0;simpa using hid0
     obtain⟨x,hx⟩:=F0 ht0
     have hlast:∀n',k<n'->n'<=ops.size->gx ef D (au (Hp 0)) n' id0=x:=by
      intro n' hkn;induction n' with
      |zero=>omega
      |succ n' ihn=>
       intro hn';simp only[gx];by_cases e:n'=k
       .subst e;rw[hx];simp[hDk]
       .have hno:¬(D n'=true/\pT ef n' id0):=fun hh=>hmax n' (by omega) ⟨by omega,by omega,hh.1,id0,hid',hh.2⟩;have:=ihn (by omega) (by omega);cases hDn:D n' with|false=>simpa[hDn]using this|true=>have hnt:¬pT ef n' id0:=fun h=>hno ⟨hDn,h⟩;rw[oV hnt];simpa[hDn]using this
     rw[hlast ops.size hk (ak _),eI];simp only[a_,hx]
    .rw [hf]at hf';obtain⟨rfl,rfl,rfl,rfl⟩:v=v'/\u=u'/\[id]=ids'/\n=n':=by simpa using hf'
     exact hev'
  .refine ⟨Hp i,fun id hid=>?_,hev⟩;refine tG (fun k hk id=>?_) (Nat.le_of_lt hlt) (fun k hk hd=>?_) (fun k hik hk hd=>?_)
   .obtain ⟨b,hb⟩:=get k hk;exact(hp.ll k b hb).heap id
   .rcases hp.Nq k i hk hlt with h|h
    .exact hp.LC hc hi hall h
    .exact absurd hid (h.1 id hd).1
   .rcases fE i k with h1|h1
    .cases hDk:D k with|false=>rfl|true=>exact absurd ⟨k,h1,hk,hDk,id,hid,hd⟩ hsoft
    .obtain rfl:k=i:=by omega
     exact hD
 .obtain ⟨b,hb⟩:=get k hk;have hbd:b.dst=some t:=by simpa[mM,hb]using hdk
  rcases hp.Nm i k c b hci hb hik with h|h
  .rw [lat k hik hk h]at hDk;simp at hDk
  .simp [tW,ht,hbd,Dy]at h
 .rcases hp.Nq i k hik hk with h|h
  .rw [lat k hik hk h]at hDk;simp at hDk
  .exact absurd htk (h.1 id ht).2
def DU(D:Nat->Bool):Nat->Nat
 |0=>0
 |k+1=>DU D k+if D k=true then 0 else 1
theorem Iy{D D':Nat->Bool}{i:Nat}(hD:∀k,k≠i->D' k=D k)(h1:D' i=true)(h0:D i=false):∀n,i<n->DU D' n+1=DU D n:=by
 have a:∀k,k<=i->DU D' k=DU D k:=by intro k;induction k with|zero=>intro _;rfl|succ k ih=>intro hk;simp only[DU];rw[ih (by omega),hD k (by omega)]
 intro n;induction n with
 |zero=>intro h;omega
 |succ n ih=>
  intro h;simp only[DU];by_cases e:i=n
  .subst e;rw[a i (ak _),h1,h0];simp
  .have:=ih (by omega);rw[hD n (fun h=>e h.symm)];omega
theorem Gr{D:Nat->Bool}:∀{n:Nat},DU D n=0->∀k,k<n->D k=true:=by
 intro n;induction n with
 |zero=>intro _ k hk;omega
 |succ n ih=>
  intro h k hk;simp only[DU]at h;by_cases e:k=n
  .subst e;by_cases hd:D k=true
   .exact hd
   .simp [hd]at h
  .exact ih (by omega) k (by omega)
theorem Ix(n:Nat):DU (fun _=>false) n=n:=by induction n with|zero=>rfl|succ n ih=>simp[DU,ih]
theorem xq{e e':gy}{g:Option (Nat×Bool)}(h:∀t∈(match g with|some (t,_)=>[t]|none=>([]:List Nat)),bM e' t=bM e t):gZ e' g=gZ e g:=by cases g with|none=>rfl|some p=>obtain⟨t,b⟩:=p;simp only[gZ,h t (by simp)]
theorem C6{e e':gy}:∀{args:List Operand},(∀t∈args.filterMap Nv,bM e' t=bM e t)->args.map (g_ e')=args.map (g_ e):=by intro args h;refine List.map_congr_left fun x hx=>?_;cases x with|tmp t=>exact h t (List.mem_filterMap.2 ⟨.tmp t,hx,rfl⟩)|_=>rfl
theorem Gf(hok:∀i,j4 P (calls i))(hnt:nt<1000000000){Q:Exit->Act->World->Prop}(hp:zH P dQ nt calls ops l m aL E Hp ef){S0:Nat->Prop}{ws:World}{gh:List C}
  (hQ:∀S' Kn' φ' a' w',eM S0 ws S' w'->Bv S' K w0 Kn' φ' gv nt ⟨E ops.size,Hp ops.size,aL+fS*l.length,gh⟩ a' w'->Q .normal a' w'):
  ∀(fuel:Nat)(listed:Array Bool)(S:Nat->Prop)(Kn:Nat->Prop)(φ:Nat->eG)(a:Act)(w:World)(ec:gy)(hc:bl),
  listed.size=ops.size->DU (fun k=>listed.getD k false) ops.size<=fuel->uh ops (fun k=>listed.getD k false)->
  (∀t,bM ec t=kI (mM l) ef (fun k=>listed.getD k false) (bM (E 0)) ops.size t)->(∀id,au hc id=gx ef (fun k=>listed.getD k false) (au (Hp 0)) ops.size id)->
  Inv S K w0 Kn φ (au hc) w->gy.ok S w Kn φ ec a.tmps->a.tmps.size=nt->a.defers=[]->
  (∀j,Kn j->j<aL\/∃i,i<ops.size/\listed.getD i false=true/\aL+fS*i<=j/\j<aL+fS*(i+1))->
  (∀(i:Nat)(c:C)(v:Value),gh[i]?=some c->gv[i]?=some v->RG S w Kn φ c v)->eM S0 ws S w->wpAny P .any ops Q fuel listed a w:=by
 intro fuel;induction fuel with
 |zero=>
  intro listed S Kn φ a w ec hc hsz hcnt hcl henv hheap hI hE hts hdf hKn hgh hstp;have hall:=Gr (Nat.le_zero.1 hcnt);refine⟨?_,?_⟩
  .rw [List.eq_nil_iff_forall_not_mem];intro i hi;obtain⟨h0,o,ho,_⟩:=mem_ready.1 hi;have hlt:i<ops.size:=(aP.1 ho).1;have h2:=hall i hlt;have hlt2:i<listed.size:=by omega
   simp[gX,hlt2]at h0 h2;rw[h0]at h2;simp at h2
  .refine hQ S Kn φ a w hstp ⟨?_,?_,hts,hdf,?_,hgh⟩
   .have:au hc=au (Hp ops.size):=by funext id;rw[hheap];refine tG (fun k hk id=>?_) (ak _) (fun k hk _=>hall k hk) (fun k h1 h2 _=>by omega);exact(hp.ll k _ (ai (by rw[hp.len];exact hk))).heap id
    rw[<-this];exact hI
   .intro t x hx;refine hE t x ?_;rw[henv,<-hx];refine wM (fun k hk t=>?_) (ak _) (fun k hk _=>hall k hk) (fun k h1 h2 _=>by omega);have hb:l[k]?=some _:=ai (by rw[hp.len];exact hk);have:=(hp.ll k _ hb).cG t;rw[this];simp only[mM,hb,af]
   .intro j hj hk;have hj':aL+fS*l.length<=j:=hj;rw[hp.len]at hj';rcases hKn j hk with h|⟨i,hi,_,h1,h2⟩
    .omega
    .have:fS*(i+1)<=fS*ops.size:=iS _ (by omega);omega
 |succ fuel ih=>
  intro listed S Kn φ a w ec hc hsz hcnt hcl henv hheap hI hE hts hdf hKn hgh hstp
  have fin:(∀k,k<ops.size->listed.getD k false=true)->Q .normal a w:=by
   intro hall;refine hQ S Kn φ a w hstp ⟨?_,?_,hts,hdf,?_,hgh⟩
   .have:au hc=au (Hp ops.size):=by funext id;rw[hheap];refine tG (fun k hk id=>?_) (ak _) (fun k hk _=>hall k hk) (fun k h1 h2 _=>by omega);exact(hp.ll k _ (ai (by rw[hp.len];exact hk))).heap id
    rw[<-this];exact hI
   .intro t x hx;refine hE t x ?_;rw[henv,<-hx];refine wM (fun k hk t=>?_) (ak _) (fun k hk _=>hall k hk) (fun k h1 h2 _=>by omega);have hb:l[k]?=some _:=ai (by rw[hp.len];exact hk);have:=(hp.ll k _ hb).cG t;rw[this];simp only[mM,hb,af]
   .intro j hj hk;have hj':aL+fS*l.length<=j:=hj;rw[hp.len]at hj';rcases hKn j hk with h|⟨i,hi,_,h1,h2⟩
    .omega
    .have:fS*(i+1)<=fS*ops.size:=iS _ (by omega);omega
  refine⟨fun hnil=>fin ?_,fun i hi=>?_⟩
  .--nothing is ready:all is done
   intro k;induction k using Nat.strongRecOn with
   |_ k ihk=>
    intro hk;cases hd:listed.getD k false with
    |true=>rfl
    |false=>
     exfalso;have ho:ops[k]?=some ops[k]:=iP hk
     have:k∈Region.ready .any ops listed:=by
      rw[mem_ready];refine⟨?_,_,ho,fun e he hbk=>?_⟩
      .have hlt2:k<listed.size:=by omega
       simp[gX,hlt2]at hd|-;exact hd
      .have:=(hp.MV k _ ho).2 e he hbk;exact ihk e.on this (by omega)
     rw[hnil]at this;simp at this
  .obtain ⟨h0,o,ho,hall⟩:=mem_ready.1 hi;have hlt:i<ops.size:=(aP.1 ho).1;have hlt2:i<listed.size:=by omega
   have hD:listed.getD i false=false:=by simp[gX,hlt2]at h0|-;exact h0
   have hci:=hp.NS i o ho;have hstep:=hp.ll i _ hci;obtain⟨s1,s2,s3,s4⟩:=hp.MP (D:=fun k=>listed.getD k false) hcl ho hci hD hall;have hD':∀k,k≠i->(listed.setIfInBounds i true).getD k false=listed.getD k false:=fun k hk=>getD_set_ne false (fun e=>hk e.symm);have hDi:(listed.setIfInBounds i true).getD i false=true:=by simp[hlt2]
   have hcnt':DU (fun k=>(listed.setIfInBounds i true).getD k false) ops.size<=fuel:=by have:=Iy (D:=fun k=>listed.getD k false) (D':=fun k=>(listed.setIfInBounds i true).getD k false) hD' hDi hD ops.size hlt;omega
   have hcl':uh ops (fun k=>(listed.setIfInBounds i true).getD k false):=by
    intro k o' ho' hk e he hb;by_cases e1:k=i
    .subst e1;obtain rfl:o=o':=by have:=ho.symm.trans ho';exact aa this
     exact getD_set_true (hall e he hb)
    .have hk':listed.getD k false=true:=by rw[<-hD' k e1];exact hk
     exact getD_set_true (hcl k o' ho' hk' e he hb)
   have hdstD:mM l i=o.dst:=by simp[mM,hci,eB]
   have henv':∀t,kI (mM l) ef (fun k=>(listed.setIfInBounds i true).getD k false) (bM (E 0)) ops.size t=if o.dst=some t then A4 (ef i)else bM ec t:=by intro t;rw[Gc (D:=fun k=>listed.getD k false) hlt hD' hDi hD (fun hd=>s3 t (by rw[hdstD]at hd;exact hd)),hdstD,henv t]
   have hheap':∀id,gx ef (fun k=>(listed.setIfInBounds i true).getD k false) (au (Hp 0)) ops.size id=match bM (mn (ef i)) id with|some o=>o|none=>au hc id:=by
    intro id;rw[Dz (D:=fun k=>listed.getD k false) hlt hD' hDi hD (fun ht=>s4 id ht),hheap id]
    all_goals(cases bM (mn (ef i)) id<;>rfl)
   have hwe:gZ ec (eB P dQ nt ops o).guard=gZ (E i) (eB P dQ nt ops o).guard:=by refine xq fun t ht=>?_;rw[henv t];exact s1 t (aA _ ht)
   have hae:(eB P dQ nt ops o).args.map (g_ ec)=(eB P dQ nt ops o).args.map (g_ (E i)):=by refine C6 fun t ht=>?_;rw[henv t];exact s1 t (aC _ ht)
   simp only[wpOp,ho];generalize hfe:ef i=f at hstep henv' hheap' s2;cases f with
   |none=>
    obtain⟨hw,_,_⟩:=hstep;rw[<-hwe]at hw;have hwant:=lO hE (by rw[hts];exact hnt) hw;rw[if_neg (by simp[hwant])];refine ih _ S Kn φ _ w (drop ec o.dst) hc (by simp[hsz]) hcnt' hcl' ?_ ?_ hI (gy.Cl hE) (by rw[p9];exact hts) (by rw[m9];exact hdf) ?_ hgh hstp
    .intro t;rw[henv' t,tK];rfl
    .intro id;rw[hheap' id];rfl
    .intro j hj;rcases hKn j hj with h|⟨k,hk,h1,h2⟩
     .exact .inl h
     .exact .inr ⟨k,hk,getD_set_true h1,h2⟩
   |some p=>
    obtain⟨v,u,ap,n⟩:=p;obtain⟨hw,hev,hn,_,_⟩:=hstep;rw[<-hwe]at hw;obtain⟨G,g1,g2⟩:=s2;have hev3:=g2 v u ap n rfl;rw[<-hae]at hev3;have hev2:=DJ (H':=hc) hev3 (fun id hid=>by rw[hheap id];exact g1 id hid);have hwant:=lO hE (by rw[hts];exact hnt) hw;rw[if_pos hwant];left
    have hdst:∀x,o.dst=some x->x<a.tmps.size:=by
     intro x hx;rw[hts];rcases fE x nt with h1|h1
     .exact h1
     .exfalso;have:(eB P dQ nt ops o).k=.dM:=by simp only[eB,hx];rw[if_neg (by simp;omega)]
      rw[this,dF]at hev2;simp at hev2
    have hk:rA P dQ o.op=((eB P dQ nt ops o).k,(eB P dQ nt ops o).args):=by
     have:(eB P dQ nt ops o).k=(rA P dQ o.op).1:=by simp only[eB];rw[if_pos];cases hd:o.dst with|none=>rfl|some d=>have:=hdst d hd;rw[hts]at this;simpa using this
     rw[this];rfl
    have hfr:∀j,aL+fS*i<=j->j<n->¬Kn j:=by
     intro j h1 h2 hk;rcases hKn j hk with h|⟨k,hkn,h3,h4,h5⟩
     .omega
     .have hne:k≠i:=by rintro rfl;rw[h3]at hD;simp at hD
      rcases fE k i with h6|h6
      .have:fS*(k+1)<=fS*i:=iS _ (by omega);omega
      .have:fS*(i+1)<=fS*k:=iS _ (by omega);omega
    have hgo:=yj (hok i) hk hI hE hfr hev2;refine hgo _ _ fun val w' hDn=>?_;obtain⟨hle,S',φ',h1,h2,h3,h4⟩:=hDn;refine ih _ S' (kF Kn (aL+fS*i) n) φ' _ w' (put ec o.dst v) (u++hc) (by simp[hsz]) hcnt' hcl' ?_ ?_ ?_ (gy.ET hE h1 h2 hdst h3) (by rw[p9];exact hts) (by rw[m9];exact hdf) ?_ ?_ (hstp.trans h1)
    .intro t;rw[henv' t,iH];rfl
    .intro id;rw[hheap' id,eI];rfl
    .rw [eI];exact h4
    .intro j hj;rcases hj with hj|hj
     .rcases hKn j hj with h|⟨k,hk,h1,h2⟩
      .exact .inl h
      .exact .inr ⟨k,hk,getD_set_true h1,h2⟩
     .exact .inr ⟨i,hlt,hDi,hj.1,by omega⟩
    .intro i c v hc hv;exact(hgh i c v hc hv).mono h1 h2
theorem zh(hok:∀i,j4 P (calls i))(hnt:nt<1000000000){Q:Exit->Act->World->Prop}{e':gy}{h':bl}{tr:List (List Nat×List Nat)}(hl:l=ops.toList.map (eB P dQ nt ops))
  (hord:sX m ops.toList 0=true) (hsch:sJ m l 0=true) (hev:jX calls s.next l 0 s.cG s.heap=some (e',h',tr)) (hdyn:vy tr (oA m l 0)=true) (hsmall:l.length<=1000)
  (hR:Bv S K w0 Kn φ gv nt s a w)
  (hQ:∀S' Kn' φ' a' w',eM S w S' w'->Bv S' K w0 Kn' φ' gv nt ⟨e',h',s.next+fS*l.length,s.gh⟩ a' w'->Q .normal a' w'):
  wpAny P .any ops Q ops.size (Array.replicate ops.size false) a {w with drawn:=w.drawn+1}:=by
 obtain⟨E,Hp,ef,hp,h1,h2,h3,h4⟩:=HD hl hord hsch hev hdyn hsmall;have hd:∀k,(Array.replicate ops.size false).getD k false=false:=by intro k;simp only[bm,Array.getElem?_replicate];split<;>rfl
 have dm:eM S w S {w with drawn:=w.drawn+1}:=eM.pf S w _;refine Gf (gv:=gv) (K:=K) (w0:=w0) hok hnt hp (S0:=S) (ws:=w) (gh:=s.gh) ?_ ops.size _ S Kn φ a _ s.cG s.heap (by simp) ?_ ?_ ?_ ?_ (hR.inv.pf _ (Nat.le_succ _)) ?_ hR.size hR.defers ?_ ?_ dm
 .rw [h3,h4];exact hQ
 .simp only[hd,Ix];exact ak _
 .intro k o _ hk;simp only[hd]at hk;simp at hk
 .intro t;simp only[hd];rw[h1];have:∀k,kI (mM l) ef (fun _=>false) (bM s.cG) k t=bM s.cG t:=by intro k;induction k with|zero=>rfl|succ k ih=>simp[kI,ih]
  exact(this _).symm
 .intro id;simp only[hd];rw[h2];have:∀k,gx ef (fun _=>false) (au s.heap) k id=au s.heap id:=by intro k;induction k with|zero=>rfl|succ k ih=>simp[gx,ih]
  exact(this _).symm
 .intro t x hx;exact(hR.cG t x hx).mono dm (Ren.refl _ _)
 .intro j hj;rcases fE j s.next with h|h
  .exact .inl h
  .exact absurd hj (hR.eJ j h)
 .intro i c v hc hv;exact(hR.gh i c v hc hv).mono dm (Ren.refl _ _)
end
def lJ(P:Program)(dQ:xe)(nt:Nat):Code->CC
 |.skip=>.skip
 |.region _ ops draw=>if draw then q_ ops.toList (ops.toList.map (eB P dQ nt ops)) []else .region (ops.toList.map (eB P dQ nt ops)) []
 |.seq a b=>.seq (lJ P dQ nt a) (lJ P dQ nt b)
 |.cond c a b=>.cond c (lJ P dQ nt a) (lJ P dQ nt b)
 |.block id a=>.block id (lJ P dQ nt a)
 |.loop a=>.loop [] (lJ P dQ nt a)
 |.scope a=>lJ P dQ nt a
 |.label _=>.skip
 |.exit id=>.exit id
 |.ret=>.ret
 |_=>.dM
def JS:nL->Exit
 |.normal=>.normal
 |.exit id=>.exit id
 |.ret=>.ret
def Sub(s s1:St):Prop:=∀(S K:Nat->Prop)(w0:World)(Kn:Nat->Prop)(φ:Nat->eG)(gv:List Value)(nt:Nat)(a:Act)(w:World),
 Bv S K w0 Kn φ gv nt s a w->∃S' Kn' φ',eM S w S' w/\Bv S' K w0 Kn' φ' gv nt s1 a w
theorem Sub.refl(s:St):Sub s s:=fun S _ _ Kn φ _ _ _ w h=>⟨S,Kn,φ,eM.refl S w,h⟩
theorem Sub.trans{s s1 s2:St}(a:Sub s s1)(b:Sub s1 s2):Sub s s2:=fun S K w0 Kn φ gv nt ac w h=>
 let⟨S1,Kn1,φ1,h1,h2⟩:=a S K w0 Kn φ gv nt ac w h;let⟨S2,Kn2,φ2,h3,h4⟩:=b S1 K w0 Kn1 φ1 gv nt ac w h2
 ⟨S2,Kn2,φ2,h1.trans h3,h4⟩
def wk(Q:St->Prop)(s:St):Prop:=∃s1,Sub s s1/\Q s1
theorem wk.of{Q:St->Prop}{s:St}(h:Q s):wk Q s:=⟨s,Sub.refl s,h⟩
def WO(P:Program):List km->St->(St->Prop)->Prop
 |[],s,Q=>wk Q s
 |o::r,s,Q=>∃s1,Sub s s1/\
  ((gZ s1.cG o.guard=some true/\∃call v u ap n,j4 P call/\bN call o.k (o.args.map (g_ s1.cG)) s1.heap s1.next=some (v,u,ap,n)/\WO P r ⟨put s1.cG o.dst v,u++s1.heap,n,s1.gh⟩ Q)\/
   (gZ s1.cG o.guard=some false/\WO P r ⟨drop s1.cG o.dst,s1.heap,s1.next,s1.gh⟩ Q))
def pp(R:St->Prop)(Q:nL->St->Prop):nL->St->Prop
 |.normal,s=>R s
 |.exit id,s=>Q (.exit id) s
 |.ret,s=>Q .ret s
def qt(id:Nat)(Q:nL->St->Prop):nL->St->Prop
 |.exit id',s=>if id'=id then Q .normal s else Q (.exit id') s
 |.normal,s=>Q .normal s
 |.ret,s=>Q .ret s
def W(P:Program):CC->St->(nL->St->Prop)->Prop
 |.skip,s,Q=>wk (Q .normal) s
 |.region ops _,s,Q=>WO P ops s fun s'=>wk (Q .normal) s'
 |.drawn ops dyn _,s,Q=>∃s1,Sub s s1/\∃calls e h tr,(∀i,j4 P (calls i))/\jX calls s1.next ops 0 s1.cG s1.heap=some (e,h,tr)/\vy tr dyn=true/\
   wk (Q .normal) ⟨e,h,s1.next+fS*ops.length,s1.gh⟩
 |.seq a b,s,Q=>W P a s (pp (fun s'=>W P b s' Q) Q)
 |.cond c a b,s0,Q=>∃s,Sub s0 s/\∃t,g_ s.cG c=some (.c (.d (.lit (.bool t))))/\(t=true->W P a s Q)/\(t=false->W P b s Q)
 |.block id a,s,Q=>W P a s (qt id Q)
 |.loop _ a,s,Q=>∃(I:Nat->St->Prop)(n:Nat),wk (I n) s/\∀n s,I n s->W P a s (pp (fun s'=>∃m,m<n/\wk (I m) s') Q)
 |.exit id,s,Q=>wk (Q (.exit id)) s
 |.ret,s,Q=>wk (Q .ret) s
 |.dM,_,_=>False
section
variable{P:Program}{S K:Nat->Prop}{w0 w:World}{Kn:Nat->Prop}{φ:Nat->eG}{gv:List Value}{nt:Nat}{a:Act}{dQ:xe}{s s':St}
theorem Eg{all:Array Oper}{R:Exit->Act->World->Prop}(hnt:nt<1000000000){Q:St->Prop}:∀(l:List Nat)(os:List Oper)(s:St)(S:Nat->Prop)(Kn:Nat->Prop)(φ:Nat->eG)(a:Act)(w:World),
  (∀(i j:Nat),l[i]?=some j->all[j]?=os[i]?)->l.length=os.length->WO P (os.map (eB P dQ nt all)) s Q->Bv S K w0 Kn φ gv nt s a w->
  (∀S' Kn' φ' s' a' w',Q s'->eM S w S' w'->Bv S' K w0 Kn' φ' gv nt s' a' w'->R .normal a' w')->wpOps P all R l a w:=by
 intro l;induction l with
 |nil=>intro os s S Kn φ a w _ hl h hR hQ;obtain rfl:os=[]:=bc.1 hl.symm;obtain⟨s1,h1,h2⟩:=h;obtain⟨S1,Kn1,φ1,h3,h4⟩:=h1 S K w0 Kn φ gv nt a w hR;exact hQ S1 Kn1 φ1 s1 a w h2 h3 h4
 |cons i l ih=>
  intro os s S Kn φ a w hi hl h hR hQ;cases os with
  |nil=>simp at hl
  |cons o os=>
   have ho:all[i]?=some o:=by simpa using hi 0 i rfl
   simp only[aq,WO]at h;obtain⟨s1,hsub,h⟩:=h;obtain⟨S1,Kn1,φ1,hs1,hR1⟩:=hsub S K w0 Kn φ gv nt a w hR;simp only[wpOps,ho];rcases h with⟨hw,call,v,u,ap,n,hok,hev,h⟩|⟨hw,h⟩
   .have hwant:=lO hR1.cG (by rw[hR1.size];exact hnt) hw;rw[if_pos hwant];left
    have hdst:∀x,o.dst=some x->x<a.tmps.size:=by
     intro x hx;rw[hR1.size];rcases fE x nt with h1|h1
     .exact h1
     .exfalso;have:(eB P dQ nt all o).k=.dM:=by simp only[eB,hx];rw[if_neg (by simp;omega)]
      rw[this,dF]at hev;simp at hev
    have hk:rA P dQ o.op=((eB P dQ nt all o).k,(eB P dQ nt all o).args):=by
     have:(eB P dQ nt all o).k=(rA P dQ o.op).1:=by simp only[eB];rw[if_pos];cases hd:o.dst with|none=>rfl|some d=>have:=hdst d hd;rw[hR1.size]at this;simpa using this
     rw[this];rfl
    have hgo:=yj hok hk hR1.inv hR1.cG (fun j hj _=>hR1.eJ j hj) hev;refine hgo _ _ fun val w' hD=>?_;obtain⟨hle,S',φ',h1,h2,h3,h4⟩:=hD;refine ih os _ S' (kF Kn1 s1.next n) φ' _ w' (fun i' j hj=>hi (i'+1) j (by simpa using hj)) (by simpa using hl) h ⟨?_,?_,?_,?_,?_,?_⟩ fun S2 Kn2 φ2 s2 a2 w2 h0 h5 h6=>hQ S2 Kn2 φ2 s2 a2 w2 h0 ((hs1.trans h1).trans h5) h6
    .simp only[eI];exact h4
    .exact gy.ET hR1.cG h1 h2 hdst h3
    .rw [p9];exact hR1.size
    .rw [m9];exact hR1.defers
    .intro j hj hk;simp only at hj;rcases hk with hk|hk
     .exact hR1.eJ j (by omega) hk
     .omega
    .intro i c v hc hv;exact(hR1.gh i c v hc hv).mono h1 h2
   .have hwant:=lO hR1.cG (by rw[hR1.size];exact hnt) hw;rw[if_neg (by simp[hwant])];refine ih os _ S1 Kn1 φ1 _ w (fun i' j hj=>hi (i'+1) j (by simpa using hj)) (by simpa using hl) h ⟨hR1.inv,?_,?_,?_,hR1.eJ,hR1.gh⟩ fun S2 Kn2 φ2 s2 a2 w2 h0 h5 h6=>hQ S2 Kn2 φ2 s2 a2 w2 h0 (hs1.trans h5) h6
    .exact gy.Cl hR1.cG
    .rw [p9];exact hR1.size
    .rw [m9];exact hR1.defers
theorem vQ{c:Code}{Q:Exit->Act->World->Prop}(J:Nat->Act->World->Prop)(n:Nat)(h₀:J n a w)
  (round:∀n a w,J n a w->c.wp P (Exit.then (fun a w=>∃m,m<n/\J m a w) Q) a w):(Code.loop c).wp P Q a w:=by
 intro b k cs
 have key:∀n a w,J n a w->∃e a' w',Q e a' w'/\Arrives P (lone (b.at a (.code c::.inLoop c::k)) cs w) b k cs e a' w':=by
  intro n;induction n using Nat.strongRecOn with
  |_ n ih=>intro a w hJ;obtain⟨e,a₁,w₁,hq,harr⟩:=round n a w hJ b (.inLoop c::k) cs;cases e with|normal=>obtain⟨m,hlt,hq⟩:=hq;obtain⟨e₂,a₂,w₂,hq₂,harr₂⟩:=ih m hlt a₁ w₁ hq;exact⟨e₂,a₂,w₂,hq₂,.of_steps (Steps.trans harr (.one step_inLoop)) harr₂⟩|exit id=>exact⟨_,a₁,w₁,hq,.pass (x:=.inLoop c) rfl (fun _ _=>.inl (by simp)) harr⟩|goto l=>exact⟨_,a₁,w₁,hq,.pass (x:=.inLoop c) rfl (fun _ _=>.inl (by simp)) harr⟩|ret=>exact⟨_,a₁,w₁,hq,.pass (x:=.inLoop c) rfl (fun _ _=>.inl (by simp)) harr⟩|panic ch=>exact⟨_,a₁,w₁,hq,.pass (x:=.inLoop c) rfl (fun _ _=>.inl (by simp)) harr⟩|outgrown=>exact⟨_,a₁,w₁,hq,.pass (x:=.inLoop c) rfl (fun _ _=>.inl (by simp)) harr⟩
 obtain⟨e,a',w',hq,harr⟩:=key n a w h₀;exact⟨e,a',w',hq,.of_steps (.one step_loop) harr⟩
def rR(S K:Nat->Prop)(w0 w:World)(gv:List Value)(nt:Nat)(Q:nL->St->Prop)(e:Exit)(a':Act)(w':World):Prop:=∃o s',Q o s'/\e=JS o/\∃S' Kn' φ',eM S w S' w'/\Bv S' K w0 Kn' φ' gv nt s' a' w'
theorem rR.trans{S':Nat->Prop}{w':World}(h:eM S w S' w'){Q:nL->St->Prop}{e:Exit}{a':Act}{w'':World}(hp:rR S' K w0 w' gv nt Q e a' w''):rR S K w0 w gv nt Q e a' w'':=by obtain⟨o,s',h0,h1,S'',Kn',φ',h2,h3⟩:=hp;exact⟨o,s',h0,h1,S'',Kn',φ',h.trans h2,h3⟩
theorem rR.u5{Q:nL->St->Prop}{o:nL}{a':Act}{w':World}{S' Kn':Nat->Prop}{φ':Nat->eG}(h:wk (Q o) s')(hs:eM S w S' w')(hR:Bv S' K w0 Kn' φ' gv nt s' a' w'):rR S K w0 w gv nt Q (JS o) a' w':=by obtain⟨s1,h1,h2⟩:=h;obtain⟨S1,Kn1,φ1,h3,h4⟩:=h1 S' K w0 Kn' φ' gv nt a' w' hR;exact⟨o,s1,h2,rfl,S1,Kn1,φ1,hs.trans h3,h4⟩
theorem Bb(hnt:nt<1000000000)(hm:P.follows .mixedOrders=true):∀(code:Code)(s:St)(Q:nL->St->Prop)(S:Nat->Prop)(Kn:Nat->Prop)(φ:Nat->eG)(a:Act)(w:World),
  W P (lJ P dQ nt code) s Q->Bv S K w0 Kn φ gv nt s a w->code.wp P (rR S K w0 w gv nt Q) a w:=by
 intro code;induction code with
 |skip=>intro s Q S Kn φ a w h hR;exact wp_skip (rR.u5 h (eM.refl _ _) hR)
 |region id ops draw=>
  intro s Q S Kn φ a w h hR;simp only[lJ]at h;cases draw with
  |false=>
   simp only[aM,if_false,W]at h;refine wp_region ?_;refine Eg (gv:=gv) (K:=K) (w0:=w0) hnt (List.range ops.size) ops.toList s S Kn φ a w ?_ (by simp) h hR fun S' Kn' φ' s' a' w' h0 h1 h2=>rR.u5 (o:=.normal) h0 h1 h2;intro i j hj;obtain⟨hlt,rfl⟩:i<ops.size/\i=j:=by have:=ah.1 hj;obtain⟨h1,h2⟩:=this;simp at h1 h2;exact⟨h1,h2⟩
   simp
  |true=>
   simp only[if_true]at h;unfold q_ at h;simp only at h;split at h
   .rename_i hc;simp only[ae]at hc;simp only[W]at h;obtain⟨s1,hsub,calls,e1,h1,tr,hok,hev,hdyn,hq⟩:=h;obtain⟨S1,Kn1,φ1,hs1,hR1⟩:=hsub S K w0 Kn φ gv nt a w hR;refine wp_region_any hm ?_;exact zh hok hnt rfl hc.1.1 hc.1.2 hev hdyn (by simpa using hc.2) hR1 fun S' Kn' φ' a' w' h1 h2=>rR.u5 (o:=.normal) hq (hs1.trans h1) h2
   .simp [W]at h
 |seq x y ihx ihy=>intro s Q S Kn φ a w h hR;simp only[lJ,W]at h;refine wp_seq ?_;refine wp_mono (ihx s _ S Kn φ a w h hR) fun e a' w' hp=>?_;obtain⟨o,s',h0,rfl,S',Kn',φ',h1,h2⟩:=hp;cases o with|normal=>exact wp_mono (ihy s' Q S' Kn' φ' a' w' h0 h2) fun e a'' w'' hp=>hp.trans h1|exit id=>exact⟨.exit id,s',h0,rfl,S',Kn',φ',h1,h2⟩|ret=>exact⟨.ret,s',h0,rfl,S',Kn',φ',h1,h2⟩
 |cond c x y ihx ihy=>intro s Q S Kn φ a w h hR;simp only[lJ,W]at h;obtain⟨s1,hsub,t,ht,h1,h2⟩:=h;obtain⟨S1,Kn1,φ1,hs1,hR1⟩:=hsub S K w0 Kn φ gv nt a w hR;have hv:=(oQ hR1.inv.wD hR1.cG ht).lit.1;refine wp_cond hv ?_;cases t with|true=>exact wp_mono (ihx s1 Q S1 Kn1 φ1 a w (h1 rfl) hR1) fun _ _ _ hp=>hp.trans hs1|false=>exact wp_mono (ihy s1 Q S1 Kn1 φ1 a w (h2 rfl) hR1) fun _ _ _ hp=>hp.trans hs1
 |block id x ih=>
  intro s Q S Kn φ a w h hR;simp only[lJ,W]at h;refine wp_block ?_;refine wp_mono (ih s _ S Kn φ a w h hR) fun e a' w' hp=>?_;obtain⟨o,s',h0,rfl,hp⟩:=hp;cases o with
  |normal=>exact⟨.normal,s',h0,rfl,hp⟩
  |ret=>exact⟨.ret,s',h0,rfl,hp⟩
  |exit id'=>
   simp only[JS,Exit.inBlock];simp only[qt]at h0;by_cases hid:id'=id
   .rw [if_pos hid]at h0|-;exact⟨.normal,s',h0,rfl,hp⟩
   .rw [if_neg hid]at h0|-;exact⟨.exit id',s',h0,rfl,hp⟩
 |loop x ih=>intro s Q S Kn φ a w h hR;simp only[lJ,W]at h;obtain⟨I,n,⟨s0,hsub,hI⟩,hstep⟩:=h;obtain⟨S0,Kn0,φ0,hs0,hR0⟩:=hsub S K w0 Kn φ gv nt a w hR;refine vQ (J:=fun n a' w'=>∃s1 S1 Kn1 φ1,eM S w S1 w'/\Bv S1 K w0 Kn1 φ1 gv nt s1 a' w'/\I n s1) n ⟨s0,S0,Kn0,φ0,hs0,hR0,hI⟩ fun n a1 w1 hJ=>?_;obtain⟨s1,S1,Kn1,φ1,h1,h2,h3⟩:=hJ;refine wp_mono (ih s1 _ S1 Kn1 φ1 a1 w1 (hstep n s1 h3) h2) fun e a' w' hp=>?_;obtain⟨o,s2,h0,rfl,S2,Kn2,φ2,h4,h5⟩:=hp;cases o with|normal=>obtain⟨m,hm,s3,h6,h7⟩:=h0;obtain⟨S3,Kn3,φ3,h8,h9⟩:=h6 S2 K w0 Kn2 φ2 gv nt a' w' h5;exact⟨m,hm,s3,S3,Kn3,φ3,(h1.trans h4).trans h8,h9,h7⟩|exit id=>exact⟨.exit id,s2,h0,rfl,S2,Kn2,φ2,h1.trans h4,h5⟩|ret=>exact⟨.ret,s2,h0,rfl,S2,Kn2,φ2,h1.trans h4,h5⟩
 |exit id=>intro s Q S Kn φ a w h hR;exact wp_exit (rR.u5 (o:=.exit id) h (eM.refl _ _) hR)
 |ret=>intro s Q S Kn φ a w h hR;exact wp_ret (rR.u5 (o:=.ret) h (eM.refl _ _) hR)
 |scope x ih=>intro s Q S Kn φ a w h hR;refine wp_scope_straight (wp_mono (ih s Q S Kn φ a w h hR) fun e a' w' hp=>?_);obtain⟨o,s',h0,rfl,h1⟩:=hp;cases o<;>exact⟨_,s',h0,rfl,h1⟩
 |label l=>intro s Q S Kn φ a w h hR;exact wp_label (rR.u5 (o:=.normal) h (eM.refl _ _) hR)
 |_=>intro s Q S Kn φ a w h hR;simp[lJ,W]at h
end
def Hk(P:Program):ResultVar->Option RV
 |.tmp t=>some (.tmp t)
 |.cell a t=>match dY P t,dN P t with|some g,some n=>some (.cell a g n)|_,_=>none
def uU(P:Program):List ResultVar->Option (List RV)
 |[]=>some []
 |r::rs=>match Hk P r,uU P rs with|some x,some xs=>some (x::xs)|_,_=>none
def tX(P:Program)(dQ:xe)(f np:Nat):Option Fn:=
 match P.funcs[f]?with
 |none=>none
 |some g=>
  match g.body with
  |none=>none
  |some code=>
   if(g.name== "runtime.NumGoroutine")=false/\np<=g.ntmps/\g.ntmps<1000000000 then
    match uU P g.results.toList with|some gO=>some ⟨np,g.ntmps,gO,lJ P dQ g.ntmps code⟩|none=>none
   else none
section
variable{P:Program}{S K:Nat->Prop}{w0 w:World}{gv:List Value}{nt:Nat}{a:Act}{call:Call}{dQ:xe}{s s':St}
theorem zd:∀(as:List A){Kn:Nat->Prop}{φ:Nat->eG}{hf:Nat->Option Ob}(vs:List Value)(fp:List Nat)(i n:Nat),Inv S K w0 Kn φ hf w->(∀j,n<=j->¬Kn j)->Ec S w as vs fp->fp.Nodup->
  (∀b∈fp,¬S b/\¬K b)->pj w φ hf fp->
  ∃φ',nz S K w0 w Kn φ hf fp n (enter as i n).2.2.1 (enter as i n).2.1 φ'/\
   (∀t x,bM (enter as i n).1 t=some x->i<=t/\∃v,vs[t-i]?=some v/\dO S w (kF Kn n (enter as i n).2.2.1) φ' x v)/\
   (∀(k:Nat)(c:C)(v:Value),(enter as i n).2.2.2[k]?=some c->(jA as vs)[k]?=some v->RC S w (kF Kn n (enter as i n).2.2.1) φ' c v)/\
   (enter as i n).2.2.2.length=(jA as vs).length/\as.length=vs.length:=by
 intro as;induction as with
 |nil=>intro Kn φ hf vs fp i n hI hfr h hn hSK ha;cases vs with|cons v vs=>exact h.elim|nil=>obtain rfl:fp=[]:=h;exact⟨φ,nz.nil hI _ _,fun t x hx=>by simp[enter,bM]at hx,fun k c v hk=>by simp[enter]at hk,rfl,rfl⟩
 |cons x as ih=>
  intro Kn φ hf vs fp i n hI hfr h hn hSK ha;cases vs with
  |nil=>exact h.elim
  |cons v vs=>
   obtain⟨f1,f2,rfl,h1,h2⟩:=h;have next:∀{e:gy}{i':Nat}{t:Nat}{x:TV}{φ':Nat->eG}{Kn':Nat->Prop},i+1<=t/\(∃v,vs[t-(i+1)]?=some v/\dO S w Kn' φ' x v)->i<=t/\∃v',(v::vs)[t-i]?=some v'/\dO S w Kn' φ' x v':=by intro e i' t x φ' Kn' ⟨q1,v',q2,q3⟩;refine⟨by omega,v',?_,q3⟩;rw[show t-i=(t-(i+1))+1 by omega];simpa using q2
   cases x with
   |d y=>
    obtain⟨h1,rfl⟩:=h1;obtain⟨φ',q1,q2,q3,q4,q5⟩:=ih (Kn:=Kn) (φ:=φ) (hf:=hf) vs f2 (i+1) n hI hfr h2 (by simpa using hn) (by simpa using hSK) (by simpa using ha);refine⟨φ',q1,fun t x hx=>?_,q3,q4,by simp[q5]⟩;simp only[enter,bM]at hx;by_cases e:i=t
    .subst e;simp at hx;subst hx;exact⟨ak _,v,by simp,.c (.d h1)⟩
    .have e':(i==t)=false:=by simpa using e
     rw[e',cond_false]at hx;exact next (e:=[]) (i':=0) (q2 t x hx)
   |agg xs=>
    obtain⟨aH,rfl,hlen,h1,rfl⟩:=h1;obtain⟨φ',q1,q2,q3,q4,q5⟩:=ih (Kn:=Kn) (φ:=φ) (hf:=hf) vs f2 (i+1) n hI hfr h2 (by simpa using hn) (by simpa using hSK) (by simpa using ha);refine⟨φ',q1,fun t x hx=>?_,q3,q4,by simp[q5]⟩;simp only[enter,bM]at hx;by_cases e:i=t
    .subst e;simp at hx;subst hx;refine⟨ak _,_,by simp;rfl,.agg (by simpa using hlen) fun j x hj=>?_⟩;rw[aB]at hj;obtain⟨d,hd,rfl⟩:=aG.1 hj;exact .d (h1 j d hd)
    .have e':(i==t)=false:=by simpa using e
     rw[e',cond_false]at hx;exact next (e:=[]) (i':=0) (q2 t x hx)
   |mt t0=>
    rw[cA]at hn;obtain⟨hn1,hn2,hn3⟩:=hn;simp only[aj]at hSK;obtain⟨φ1,hL1,hr1⟩:=qw t0 n v f1 hI (fun j hj _=>hfr j hj) h1 hn1 (fun b hb=>hSK b (.inl hb)) (fun j o hj hown x hx hm=>ha j o hj hown x hx (by simp[hm]))
    obtain⟨φ2,hL2,q2,q3,q4,q5⟩:=ih (Kn:=kF Kn n (gY n t0).2.2) (φ:=φ1) (hf:=a_ (gY n t0).2.1 hf) vs f2 (i+1) (gY n t0).2.2 hL1.inv (fun j hj hk=>by
     rcases hk with hk|hk
     .have:=hL1.le;exact hfr j (by omega) hk
     .omega) h2 hn2 (fun b hb=>hSK b (.inr hb)) (hL1.IJ hI (fun j o hj hown x hx hm=>ha j o hj hown x hx (by simp[hm])) fun x hx hx2=>hn3 x hx x hx2 rfl)
    have hcomp:=hL1.lJ hL2;have hcm:a_ ((enter as (i+1) (gY n t0).2.2).2.1++(gY n t0).2.1) hf=a_ ((gY n t0).2.1++(enter as (i+1) (gY n t0).2.2).2.1) hf:=jw fun p hp q hq e=>by have h1:=hL2.eJ p hp;have h2:=hL1.eJ q hq;omega
    have hsub:∀j,kF (kF Kn n (gY n t0).2.2) (gY n t0).2.2 (enter as (i+1) (gY n t0).2.2).2.2.1 j->kF Kn n (enter as (i+1) (gY n t0).2.2).2.2.1 j:=fun j=>(ng hL1.le hL2.le j).1;refine⟨φ2,?_,fun t x hx=>?_,fun k c v' hk hv=>?_,by simp[enter,jA,q4],by simp[q5]⟩
    .simp only[enter];have hsw:∀{p:Nat×Option Ob}{a b:dD},p∈a++b->p∈b++a:=fun hp=>aj.2 (aj.1 hp).symm;exact⟨hcomp.le,hcomp.nZ,hcm▸hcomp.inv,fun p hp=>hcomp.eJ p (hsw hp),fun p hp x hx=>hcomp.bU p (hsw hp) x (hcm.symm▸hx)⟩
    .simp only[enter,bM]at hx|-;by_cases e:i=t
     .subst e;simp at hx;subst hx;exact⟨ak _,v,by simp,.c ((hr1.mono (eM.refl _ _) hL2.nZ).kn hsub)⟩
     .have e':(i==t)=false:=by simpa using e
      rw[e',cond_false]at hx;obtain⟨p1,v',p2,p3⟩:=q2 t x hx;exact next (e:=[]) (i':=0) ⟨p1,v',p2,p3.mono (eM.refl _ _) ⟨hsub,fun _ _=>rfl⟩⟩
    .simp only[enter]at hk|-;simp only[jA]at hv;cases k with
     |zero=>
      obtain rfl:(gY n t0).1=c:=by simpa using hk
      obtain rfl:v=v':=by simpa using hv
      exact(hr1.mono (eM.refl _ _) hL2.nZ).kn hsub
     |succ k=>exact(q3 k c v' (by simpa using hk) (by simpa using hv)).kn hsub
theorem yd{Kn:Nat->Prop}{φ:Nat->eG}{H:bl}(hI:Inv S K w0 Kn φ (au H) w){v:TV}{r:R}{bf:List Nat}{x:Value}(h:nC H v=some (r,bf))(hv:dO S w Kn φ v x):
  RR S w r x (bf.flatMap (fc w φ (au H)))/\∀i∈bf,∃o,au H i=some o/\bP o=true:=by
 cases hv with
 |c hv=>
  simp only[nC]at h;split at h
  .rename_i t ap rd hp;obtain⟨rfl,rfl⟩:R.c t=r/\ap=bf:=by simpa using h
   exact(nc hI 300).1 _ _ _ _ _ hp hv
  .simp at h
 |@agg cs aH hlen hv=>
  simp only[nC]at h;split at h
  .rename_i ts ap rd hp;obtain⟨rfl,rfl⟩:R.agg ts=r/\ap=bf:=by simpa using h
   obtain⟨h1,⟨fps,h2,h3,h4⟩,h5⟩:=(nc hI 300).2 _ _ _ _ hp (fun i=>aH.getD i undef) hv;exact⟨⟨aH,fps,rfl,h1.trans hlen,h2,h3,h4⟩,h5⟩
  .simp at h
 |eU hlen hv=>simp[nC]at h
theorem wg{Kn:Nat->Prop}{φ:Nat->eG}{H:bl}(hI:Inv S K w0 Kn φ (au H) w):∀(tvs:List TV)(vs:List Value)(rs:List R)(bf:List Nat),pK H tvs=some (rs,bf)->tvs.length=vs.length->
  (∀(i:Nat)(t:TV)(v:Value),tvs[i]?=some t->vs[i]?=some v->dO S w Kn φ t v)->xh S w rs vs (bf.flatMap (fc w φ (au H)))/\∀i∈bf,∃o,au H i=some o/\bP o=true:=by
 intro tvs;induction tvs with
 |nil=>
  intro vs rs bf h hl hr;obtain⟨rfl,rfl⟩:[]=rs/\[]=bf:=by simpa[pK]using h
  obtain rfl:vs=[]:=bc.1 hl.symm;exact⟨rfl,fun i hi=>by simp at hi⟩
 |cons t tvs ih=>
  intro vs rs bf h hl hr;cases vs with
  |nil=>simp at hl
  |cons v vs=>
   simp only[pK]at h;split at h
   .rename_i r o1 rs1 o2 hp hps;obtain⟨rfl,rfl⟩:r::rs1=rs/\o1++o2=bf:=by simpa using h
    obtain⟨a1,a2⟩:=yd hI hp (hr 0 t v rfl rfl);obtain⟨b1,b2⟩:=ih vs rs1 o2 hps (by simpa using hl) (fun i t v hi hv=>hr (i+1) t v (by simpa using hi) (by simpa using hv));refine⟨⟨_,_,by simp,a1,b1⟩,fun i hi=>?_⟩;rcases aj.1 hi with hi|hi
    .exact a2 i hi
    .exact b2 i hi
   .simp at h
inductive qs(h:bl):List C->List T->List Nat->Prop
 |nil:qs h [] [] []
 |cons {c:C} {cs:List C} {t:T} {ts:List T} {a i b:List Nat} (h1:cR h 300 c=some (t,a,i)) (h2:qs h cs ts b):qs h (c::cs) (t::ts) (a++b)
 |qV {c:C} {cs:List C} {ts:List T} {b:List Nat} (h2:qs h cs ts b):qs h (c::cs) (.qV::ts) b
theorem ye{Kn:Nat->Prop}{φ:Nat->eG}{H:bl}(hI:Inv S K w0 Kn φ (au H) w){cs:List C}{ts:List T}{bf:List Nat}(h:qs H cs ts bf):∀(vs:List Value),cs.length=vs.length->
  (∀(i:Nat)(c:C)(v:Value),cs[i]?=some c->vs[i]?=some v->RG S w Kn φ c v)->GR S w ts vs (bf.flatMap (fc w φ (au H)))/\∀i∈bf,∃o,au H i=some o/\bP o=true:=by
 induction h with
 |nil=>intro vs hl hr;obtain rfl:vs=[]:=bc.1 hl.symm;exact⟨rfl,fun i hi=>by simp at hi⟩
 |@cons c cs t ts a rd b hp _ ih=>
  intro vs hl hr;cases vs with
  |nil=>simp at hl
  |cons v vs=>
   have hrc:RC S w Kn φ c v:=(hr 0 c v rfl rfl).resolve_left fun e=>by subst e;simp[nD,cR]at hp
   obtain⟨a1,a2⟩:=(nc hI 300).1 _ _ _ _ _ hp hrc;obtain⟨b1,b2⟩:=ih vs (by simpa using hl) (fun i t v hi hv=>hr (i+1) t v (by simpa using hi) (by simpa using hv));refine⟨⟨_,_,by simp,.inr a1,b1⟩,fun i hi=>?_⟩;rcases aj.1 hi with hi|hi
   .exact a2 i hi
   .exact b2 i hi
 |@qV c cs ts b _ ih=>intro vs hl hr;cases vs with|nil=>simp at hl|cons v vs=>obtain⟨b1,b2⟩:=ih vs (by simpa using hl) (fun i t v hi hv=>hr (i+1) t v (by simpa using hi) (by simpa using hv));exact⟨⟨[],_,rfl,.inl ⟨rfl,rfl⟩,b1⟩,b2⟩
def rg(gO:List RV)(s:St)(rs:List R)(outs:List T):Prop:=∃vs a b,cT (gO.map (rn s))=some vs/\pK s.heap vs=some (rs,a)/\qs s.heap s.gh outs b/\(a++b).Nodup
def m7(tmps:Array Value):ResultVar->Sem Value
 |.tmp t=>pure (tmps.getD t undef)
 |.cell a t=>do loadVar t (<-asAddr (tmps.getD a undef))
theorem yG{t:TypeId}{pv val:Value}(h:(Instr.loadAt t pv).run P w=.ok val w):(do loadVar t (<-asAddr pv):Sem Value).run P w=.ok val w:=by
 cases pv with
 |pointer x=>cases x with|some a=>simpa[Instr.loadAt,Instr.sureAddr,asAddr]using h|none=>simp[Instr.loadAt,Instr.sureAddr]at h
 |_=>simp[Instr.loadAt,Instr.sureAddr]at h
theorem v_{Kn:Nat->Prop}{φ:Nat->eG}(hI:Inv S K w0 Kn φ (au s.heap) w)(hE:gy.ok S w Kn φ s.cG a.tmps){r:ResultVar}{x:RV}{v:TV}(hr:Hk P r=some x)(h:rn s x=some v):
  ∃val,(m7 a.tmps r).run P w=.ok val w/\dO S w Kn φ v val:=by
 cases r with
 |tmp t=>
  obtain rfl:RV.tmp t=x:=by simpa[Hk]using hr
  exact⟨_,by simp[m7],hE t v h⟩
 |cell t ty=>
  simp only[Hk]at hr;split at hr
  .rename_i g n hg hn;obtain rfl:=aa hr;simp only[rn]at h;split at h
   .rename_i p hp;split at h
    .rename_i v' ap hl;obtain rfl:=aa h;cases hE t _ hp with|c hc=>obtain⟨val,h1,h2⟩:=sN hg hn hI hc hl;exact⟨val,yG h1,h2⟩
    .simp at h
   .simp at h
  .simp at hr
theorem uq{Kn:Nat->Prop}{φ:Nat->eG}(hI:Inv S K w0 Kn φ (au s.heap) w)(hE:gy.ok S w Kn φ s.cG a.tmps):∀(rs:List ResultVar)(xs:List RV)(tvs:List TV),uU P rs=some xs->cT (xs.map (rn s))=some tvs->
  ∃vs,(rs.mapM (m7 a.tmps)).run P w=.ok vs w/\tvs.length=vs.length/\∀(i:Nat)(t:TV)(v:Value),tvs[i]?=some t->vs[i]?=some v->dO S w Kn φ t v:=by
 intro rs;induction rs with
 |nil=>
  intro xs tvs h1 h2;obtain rfl:[]=xs:=by simpa[uU]using h1
  obtain rfl:[]=tvs:=by simpa[cT]using h2
  exact⟨[],by simp,rfl,fun i t v hi=>by simp at hi⟩
 |cons r rs ih=>
  intro xs tvs h1 h2;simp only[uU]at h1;split at h1
  .rename_i x xs1 hx hxs;obtain rfl:=aa h1;simp only[aq]at h2;cases hv:rn s x with
   |none=>rw[hv]at h2;simp[cT]at h2
   |some v=>
    rw[hv]at h2;simp only[cT]at h2;split at h2
    .rename_i tvs1 htv;obtain rfl:=aa h2;obtain⟨val,q1,q2⟩:=v_ hI hE hx hv;obtain⟨vs,q3,q4,q5⟩:=ih xs1 tvs1 hxs htv;refine⟨val::vs,by simp[List.mapM_cons,q1,q3],by simp[q4],fun i t v' hi hv'=>?_⟩;cases i with
     |zero=>
      obtain rfl:v=t:=by simpa using hi
      obtain rfl:val=v':=by simpa using hv'
      exact q2
     |succ i=>exact q5 i t v' (by simpa using hi) (by simpa using hv')
    .simp at h2
  .simp at h1
theorem xM{g:Func}{tmps:Array Value}{vs:List Value}(h:(g.results.toList.mapM (m7 tmps)).run P w=.ok vs w):(results g tmps).run P w=.ok (pI vs) w:=by
 have e:results g tmps=(do let vs<-g.results.mapM (m7 tmps);pure (if h:vs.size=1 then vs[0]else .tuple vs)):=rfl;have e2:g.results.mapM (m7 tmps)=(do let vs<-g.results.toList.mapM (m7 tmps);pure vs.toArray):=by rw[Array.mapM_eq_mapM_toList,bind_pure_comp]
 rw[e,e2];simp only[Sem.run_bind,h,Result.andThen_ok,Sem.run_pure]
 match vs with|[]=>rfl|[v]=>rfl|v::v'::r=>simp[pI]
def JJ(sz:Nat):Option (List (List D))->D
 |none=>.lit (.slice none 0 0)
 |some rows=>.sl sz rows
def rI:T->D
 |.d x=>x
 |.sl sz rows=>.sl sz rows
 |.ui sz rows=>.sl 1 (rows.map fun r=>[JJ sz r])
 |_=>.lit .nilFunc
def rx:T->Bool
 |.pt _|.mp _ _ _ _=>false
 |_=>true
def AA:R->Bool
 |.c t=>rx t
 |.agg ts=>ts.all rx
theorem RT.vi{S S':Nat->Prop}{w:World}{t:T}{v:Value}{fp:List Nat}(hm:rx t=true)(h:RT S w t v fp)(hS:∀b,S b->S' b)(hb:∀b∈fp,S' b):RD S' w (rI t) v:=by
 have dm:eM S w S' w:=⟨hS,fun _ _=>rfl⟩
 cases h with
 |d h=>exact h.mono dm
 |@sl sz rows b off len cap aH hsz ho hlen hcap hext hr=>
  subst hlen;refine .sl (fun i j=>aH.getD (off+i*sz+j) undef) (hb b (by simp)) hsz hcap hr.1 (fun i r hi j x hj=>?_) (fun i r hi j x hj=>?_)
  .obtain ⟨v,h1,h2⟩:=hr.2 i r hi j x hj;simp only at h1;rw[ho.cell,h1,bm,h1];rfl
  .obtain ⟨v,h1,h2⟩:=hr.2 i r hi j x hj;simp only at h1;rw[bm,h1];exact h2.mono dm
 |@ui sz rows b off cap aH fps hsz ho hcap hext hfl h=>
  have key:=RD.uS (S:=S') (w:=w) (sz:=1) (rows:=rows.map fun r=>[JJ sz r]) (b:=b) (off:=off) (len:=rows.length) (cap:=cap) (hb b (by simp)) Nat.one_pos (by simp) hcap ⟨fun i r hi=>?_,fun i r hi j x hj=>?_⟩
  .exact key
  .rw [aB]at hi;obtain⟨r',_,rfl⟩:=aG.1 hi;rfl
  .rw [aB]at hi;obtain⟨r',hr',rfl⟩:=aG.1 hi;have hl:=(ah.1 hr').1;cases j with
   |succ j=>simp at hj
   |zero=>
    obtain rfl:JJ sz r'=x:=by simpa using hj
    obtain⟨v,h1,h2⟩:=h i r' fps[i] hr' (ai (by omega));refine⟨v,by rw[Nat.mul_one,cN];exact(ho.cell _).trans h1,?_⟩;cases r' with|none=>obtain⟨rfl,_⟩:=h2;exact .lit rfl|some rows'=>obtain⟨b',q1,q2⟩:=h2;exact q2.rd dm (hb b' (av _ (cY.2 ⟨fps[i],List.getElem_mem _,by rw[q1];simp⟩)))
 |pt=>cases hm
 |mp=>cases hm
def DA:R->R
 |.c t=>.c (.d (rI t))
 |.agg ts=>.agg (ts.map fun t=>.d (rI t))
def nE:List Bool->List R->List R
 |b::bs,r::rs=>(if(b&&AA r)=true then DA r else r)::nE bs rs
 |_,rs=>rs
theorem RR.th{S S':Nat->Prop}{w:World}(hS:∀b,S b->S' b){r:R}{v:Value}{fp:List Nat}(h:RR S w r v fp):RR S' w r v fp:=by
 have dm:eM S w S' w:=⟨hS,fun _ _=>rfl⟩
 cases r with|c t=>exact RT.mono dm h fun _ _=>rfl|agg ts=>obtain⟨aH,fps,h1,h2,h3,h4,h5⟩:=h;exact⟨aH,fps,h1,h2,h3,h4,fun i t f hi hf=>(h5 i t f hi hf).mono dm fun _ _=>rfl⟩
theorem RR.vi{S S':Nat->Prop}{w:World}{r:R}{v:Value}{fp:List Nat}(h:RR S w r v fp)(hS:∀b,S b->S' b)(hm:AA r=true)(hb:∀b∈fp,S' b):RR S' w (DA r) v []:=by
 cases r with
 |c t=>exact .d (RT.vi hm h hS hb)
 |agg ts=>
  obtain⟨aH,fps,h1,h2,h3,h4,h5⟩:=h;refine⟨aH,ts.map fun _=>[],h1,by simp[h2],by simp,?_,fun i t f hi hf=>?_⟩
  .clear h5 h3 h2;induction ts with|nil=>rfl|cons t ts ih=>simp
  .simp only[aB,aG]at hi hf;obtain⟨t0,ht0,rfl⟩:=hi;obtain⟨_,_,rfl⟩:=hf;have hl:=(ah.1 ht0).1;have hf:fps[i]?=some _:=ai (by omega);refine .d (RT.vi (aQ.1 hm _ (aT ht0)) (h5 i t0 _ ht0 hf) hS fun b hbm=>hb b ?_);rw[<-h4];exact cY.2 ⟨_,aT hf,hbm⟩
theorem xh.th{S S':Nat->Prop}{w:World}(hS:∀b,S b->S' b):∀{rs:List R}{vs:List Value}{fp:List Nat},xh S w rs vs fp->xh S' w rs vs fp:=by
 intro rs;induction rs with
 |nil=>intro vs fp h;cases vs<;>exact h
 |cons r rs ih=>intro vs fp h;cases vs with|nil=>exact h|cons v vs=>obtain⟨f1,f2,h1,h2,h3⟩:=h;exact⟨f1,f2,h1,h2.th hS,ih h3⟩
theorem xh.vi{S:Nat->Prop}{w:World}:∀(m:List Bool)(rs:List R)(vs:List Value)(fp:List Nat),xh S w rs vs fp->fp.Nodup->
  ∃fpK,fpK.Sublist fp/\∀S':Nat->Prop,(∀b,S b->S' b)->(∀b∈fp,b∉fpK->S' b)->xh S' w (nE m rs) vs fpK:=by
 intro m;induction m with
 |nil=>intro rs vs fp h hn;exact⟨fp,br _,fun S' hS _=>by cases rs<;>exact h.th hS⟩
 |cons b m ih=>
  intro rs vs fp h hn;cases rs with
  |nil=>exact⟨fp,br _,fun S' hS _=>h.th hS⟩
  |cons r rs=>
   cases vs with
   |nil=>exact h.elim
   |cons v vs=>
    obtain⟨f1,f2,rfl,h2,h3⟩:=h;obtain⟨n1,n2,n3⟩:=cA.1 hn;obtain⟨fpK,hsub,hk⟩:=ih rs vs f2 h3 n2;cases hbo:(b&&AA r)with
    |true=>simp only[nE,hbo,if_true];refine⟨fpK,hsub.trans (List.sublist_append_right _ _),fun S' hS hb=>⟨[],fpK,rfl,h2.vi hS (Bool.and_eq_true_iff.1 hbo).2 fun b hbm=>hb b (aC _ hbm) fun hb2=>n3 b hbm b (hsub.subset hb2) rfl,hk S' hS fun b hbm hb2=>hb b (aA _ hbm) hb2⟩⟩
    |false=>
     simp only[nE,hbo,aM,if_false];refine⟨f1++fpK,bT.append (br _) hsub,fun S' hS hb=>⟨f1,fpK,rfl,h2.th hS,hk S' hS fun b hbm hb2=>hb b (aA _ hbm) fun hb3=>?_⟩⟩;rcases aj.1 hb3 with h|h
     .exact n3 b h b hbm rfl
     .exact hb2 h
theorem xh.lt{S:Nat->Prop}{w:World}:∀{rs:List R}{vs:List Value}{fp:List Nat},xh S w rs vs fp->∀b∈fp,b<w.heap.size:=by
 intro rs;induction rs with
 |nil=>intro vs fp h b hb;cases vs with|nil=>have h':fp=[]:=h;subst h';simp at hb|cons _ _=>exact h.elim
 |cons r rs ih=>
  intro vs fp h b hb;cases vs with
  |nil=>exact h.elim
  |cons v vs=>
   obtain⟨f1,f2,rfl,h2,h3⟩:=h;rcases aj.1 hb with hb|hb
   .cases r with|c t=>exact RT.lt h2 b hb|agg ts=>obtain⟨aH,fps,_,q2,q3,rfl,q5⟩:=h2;obtain⟨fp,hfp,hbf⟩:=cY.1 hb;obtain⟨i,hi,rfl⟩:=List.getElem_of_mem hfp;exact(q5 i _ _ (ai (by omega:i<ts.length)) (ai hi)).lt b hbf
   .exact ih h3 b hb
theorem GR.th{S S':Nat->Prop}{w:World}(hS:∀b,S b->S' b):∀{ts:List T}{vs:List Value}{fp:List Nat},GR S w ts vs fp->GR S' w ts vs fp:=by
 intro ts;induction ts with
 |nil=>intro vs fp h;cases vs<;>exact h
 |cons r rs ih=>intro vs fp h;cases vs with|nil=>exact h|cons v vs=>obtain⟨f1,f2,h1,h2,h3⟩:=h;exact⟨f1,f2,h1,h2.imp id fun h2=>RT.mono ⟨hS,fun _ _=>rfl⟩ h2 fun _ _=>rfl,ih h3⟩
theorem Left.vi{S:Nat->Prop}{w w':World}{fp:List Nat}{rs:List R}{outs:List T}{lent:List Value}{v:Value}(m:List Bool)(h:Left S w fp rs outs lent v w'):Left S w fp (nE m rs) outs lent v w':=by
 obtain⟨S',gO,fp1,fp2,h1,h2,h3,h4,h5,h6,h7,h8,h9⟩:=h;obtain⟨n1,n2,n3⟩:=cA.1 h7;obtain⟨fpK,hsub,hk⟩:=xh.vi m rs gO fp1 h5 n1
 refine⟨fun b=>S' b\/(b∈fp1/\b∉fpK),gO,fpK,fp2,h1,⟨fun b hb=>.inl (h2.sub b hb),h2.same⟩,fun b hb=>?_,fun b hb=>?_,hk _ (fun b hb=>.inl hb) (fun b hb hb2=>.inr ⟨hb,hb2⟩),
  GR.th (fun b hb=>.inl hb) h6,?_,fun b hb=>?_,h9⟩
 .rcases hb with hb|hb
  .exact h3 b hb
  .exact .inr (h8 b (aC _ hb.1)).2
 .rcases hb with hb|hb
  .exact h4 b hb
  .exact xh.lt h5 b hb.1
 .exact (bT.append hsub (br fp2)).nodup h7
 .rcases aj.1 hb with hb|hb
  .exact ⟨fun h=>h.elim (h8 b (aC _ (hsub.subset hb))).1 fun h=>h.2 hb,(h8 b (aC _ (hsub.subset hb))).2⟩
  .exact ⟨fun h=>h.elim (h8 b (aA _ hb)).1 fun h=>n3 b h.1 b hb rfl,(h8 b (aA _ hb)).2⟩
def GT(gO:List RV)(m:List Bool)(len:Nat)(rs:List R)(outs:List T):nL->St->Prop
 |.exit _,_=>False
 |.normal,s=>wk (fun s=>s.gh.length=len/\∃rs0,rg gO s rs0 outs/\nE m rs0=rs) s
 |.ret,s=>wk (fun s=>s.gh.length=len/\∃rs0,rg gO s rs0 outs/\nE m rs0=rs) s
def lc(as:List A):St:=⟨(enter as 0 0).1,(enter as 0 0).2.1,(enter as 0 0).2.2.1,(enter as 0 0).2.2.2⟩
def NT(P:Program)(F:Fn)(m:List Bool)(as:List A)(rs:List R)(outs:List T):Prop:=as.length=F.np/\W P F.body (lc as) (GT F.gO m (lc as).gh.length rs outs)
def NU(s:St)(Q:St->Prop):Prop:=∀(S K:Nat->Prop)(w0:World)(Kn:Nat->Prop)(φ:Nat->eG)(gv:List Value)(nt:Nat)(a:Act)(w:World),Bv S K w0 Kn φ gv nt s a w->∃s1,Q s1/\Bv S K w0 Kn φ gv nt s1 a w
theorem F1(hm:P.follows .mixedOrders=true){f np:Nat}{F:Fn}(hF:tX P dQ f np=some F){as:List A}{rs:List R}{outs:List T}
  {m:List Bool} (h:as.length=F.np/\NU (lc as) fun s=>W P F.body s (GT F.gO m (lc as).gh.length rs outs)):rh P f as rs outs:=by
 unfold tX at hF;split at hF
 .simp at hF
 rename_i g hg;split at hF
 .simp at hF
 rename_i code hb;split at hF
 case isFalse=>simp at hF
 rename_i hc;obtain⟨hname,hnp,hnt⟩:=hc;split at hF
 case h_2=>simp at hF
 rename_i gO hrv;obtain rfl:=aa hF;obtain⟨hlen,h⟩:=h;simp only at hlen h;intro S w vs fp hlt hargs hnd hfp hglob;left;refine⟨f,vs.toArray,?_,?_⟩
 .simp [callFunc,run_program,hg,hb];intro e;rw[e]at hname;simp at hname
 refine calls_of_wp hg hb ?_;have hI0:Inv S (fun b=>b<w.heap.size/\b∉fp/\¬S b) w (fun _=>False) (fun _=>default) (au []) w:=by refine⟨hlt,fun b hb h=>h.2.2 hb,⟨fun b hb=>hb.1,fun _ _=>rfl,ak _,fun _ _=>rfl,fun b aH ho=>⟨aH,ho,rfl⟩,Io.refl _⟩,fun id o ho=>by simp[au,bM]at ho,fun i j a b ha=>by simp[au,bM]at ha,hglob,fun i sz sl k x hi=>by simp[au,bM]at hi⟩
 obtain⟨φ,hL,q1,q2,q3,q4⟩:=zd as (S:=S) (K:=fun b=>b<w.heap.size/\b∉fp/\¬S b) (w0:=w) (w:=w) (Kn:=fun _=>False) (φ:=fun _=>default) (hf:=au []) vs fp 0 0 hI0 (fun _ _ h=>h) hargs hnd
  (fun b hb=>⟨hfp b hb,fun h=>h.2.1 hb⟩) (fun j o ho=>by simp[au,bM]at ho)
 unfold lc at h;generalize hen:enter as 0 0=en at h hL q1 q2 q3;obtain⟨e,hp,n,lent⟩:=en;simp only at h hL q1 q2 q3
 have hRel:Bv S (fun b=>b<w.heap.size/\b∉fp/\¬S b) w (kF (fun _=>False) 0 n) φ (jA as vs) g.ntmps ⟨e,hp,n,lent⟩
   {tmps:=vs.toArray++Array.replicate (g.ntmps-vs.toArray.size) undef,defers:=[]} w:=by
  refine⟨?_,fun t x hx=>?_,?_,rfl,fun j hj hk=>?_,fun i c v h1 h2=>.inr (q2 i c v h1 h2)⟩
  .have:au hp=a_ hp (au []):=by rw[<-eI,List.append_nil]
   rw[this];exact hL.inv
  .obtain ⟨_,v,hv,hr⟩:=q1 t x hx;have hv':vs[t]?=some v:=by simpa using hv
   have:(vs.toArray++Array.replicate (g.ntmps-vs.toArray.size) undef).getD t undef=v:=by have ht:t<vs.length:=(ah.1 hv').1;rw[bm,Array.getElem?_append_left (by simpa using ht)];simp[hv']
   simp only[this];exact hr
  .simp;omega
  .rcases hk with hk|hk
   .exact hk
   .have:n<=j:=hj;omega
 obtain⟨s1,h,hRel⟩:=h _ _ _ _ _ _ _ _ _ hRel;refine wp_mono (Bb hnt hm code s1 _ S _ φ _ w h hRel) fun ex a' w' hp=>?_;obtain⟨o,s',hl,rfl,S',Kn',φ',hs,hR⟩:=hp
 have main:∀(s':St)(rs:List R)(S' Kn':Nat->Prop)(φ':Nat->eG),eM S w S' w'->Bv S' (fun b=>b<w.heap.size/\b∉fp/\¬S b) w Kn' φ' (jA as vs) g.ntmps s' a' w'->s'.gh.length=lent.length->rg gO s' rs outs->
   a'.defers=[]/\∃v,(results g a'.tmps).run P w'=.ok v w'/\∃v',Ending.returned v=Ending.returned v'/\Left S w fp rs outs (jA as vs) v' w':=by
  intro s' rs S' Kn' φ' hs hR hgl hlv;obtain⟨tvs,oa,ob,htv,hpr,hpc,hnod⟩:=hlv;obtain⟨rv,p1,p2,p3⟩:=uq hR.inv hR.cG _ _ _ hrv htv;obtain⟨r1,r2⟩:=wg hR.inv tvs rv rs oa hpr p2 p3;obtain⟨t1,t2⟩:=ye hR.inv hpc (jA as vs) (hgl.trans q3) hR.gh
  have hown:∀i∈oa++ob,∃o,au s'.heap i=some o/\bP o=true:=by
   intro i hi;rcases aj.1 hi with hi|hi
   .exact r2 i hi
   .exact t2 i hi
  have hfrm:=hR.inv.j8;refine⟨hR.defers,_,xM p1,_,rfl,S',rv,_,_,rfl,hs,fun b hb=>?_,hR.inv.pU,r1,t1,?_,?_,?_⟩
  .by_cases h1:b<w.heap.size
   .by_cases h2:b∈fp
    .exact .inr (.inl h2)
    .by_cases h3:S b
     .exact .inl h3
     .exact absurd ⟨h1,h2,h3⟩ (hR.inv.sk b hb)
   .exact .inr (.inr (by omega))
  .rw [<-iU];exact vK hR.inv hnod hown
  .rw [<-iU];intro b hb;obtain⟨i,hi,hb⟩:=List.mem_flatMap.1 hb;obtain⟨oi,hoi,hoo⟩:=hown i hi;obtain⟨k1,k2,k3⟩:=kE hR.inv hoi hoo hb;refine⟨k1,?_⟩;by_cases h1:b<w.heap.size
   .by_cases h2:b∈fp
    .exact .inl h2
    .by_cases h3:S b
     .exact absurd (hs.sub _ h3) k1
     .exact absurd ⟨h1,h2,h3⟩ k2
   .exact .inr (by omega)
  .refine ⟨fun b hb=>hb.1,fun b hb=>?_,hfrm.grow,hfrm.vi,hfrm.bf,hfrm.io⟩;by_cases h3:S b
   .exact hs.same b h3
   .exact hfrm.jT b ⟨hb.1,hb.2,h3⟩
 have fin:wk (fun s=>s.gh.length=lent.length/\∃rs0,rg gO s rs0 outs/\nE m rs0=rs) s'->
   a'.defers=[]/\∃v,(results g a'.tmps).run P w'=.ok v w'/\∃v',Ending.returned v=Ending.returned v'/\Left S w fp rs outs (jA as vs) v' w':=by
  rintro⟨s1,hsub,hgl,rs0,hlv,rfl⟩;obtain⟨S1,Kn1,φ1,hs1,hR1⟩:=hsub S' _ w Kn' φ' _ _ a' w' hR;obtain⟨q1,v,q2,v',q3,q4⟩:=main s1 rs0 S1 Kn1 φ1 (hs.trans hs1) hR1 hgl hlv;exact⟨q1,v,q2,v',q3,q4.vi m⟩
 cases o with|exit id=>exact hl.elim|normal=>exact fin hl|ret=>exact fin hl
theorem Ik(hm:P.follows .mixedOrders=true){f np:Nat}{F:Fn}(hF:tX P dQ f np=some F){as:List A}{rs:List R}{outs:List T}
  {m:List Bool} (h:NT P F m as rs outs):rh P f as rs outs:=
 F1 hm hF ⟨h.1,fun _ _ _ _ _ _ _ _ _ hR=>⟨_,h.2,hR⟩⟩
end
section
variable{P:Program}{s s':St}{e:gy}{h:bl}{n:Nat}{gh:List C}
theorem Sub.heap{h':bl}{n':Nat}(hh:∀id,au h' id=au h id\/au h' id=none)(hn:n<=n'):Sub ⟨e,h,n,gh⟩ ⟨e,h',n',gh⟩:=by intro S K w0 Kn φ gv nt a w hR;exact⟨S,Kn,φ,eM.refl S w,hR.inv.i_ fun id o ho=>(hh id).elim (fun q=>q▸ho) fun q=>by rw[q]at ho;simp at ho,hR.cG,hR.size,hR.defers,fun j hj=>hR.eJ j (Nat.le_trans hn hj),hR.gh⟩
theorem zU{id id2 sz sz2 dv:Nat}{slots:List iq}{rows:List (List D)}(ho:au h id=some (.nst sz slots))(hs:slots[dv]?=some (.out id2 rows.length))(h2:au h id2=some (.aH sz2 rows)):
  Sub ⟨e,h,n,gh⟩ ⟨e,(id,some (.nst sz (slots.set dv (.bf rows))))::(id2,none)::h,n,gh⟩:=by
 intro S K w0 Kn φ gv nt a w hR;have e1:au ((id,some (.nst sz (slots.set dv (.bf rows))))::(id2,none)::h)=a_ [(id,some (.nst sz (slots.set dv (.bf rows)))),(id2,none)] (au h):=eI [(id,some (.nst sz (slots.set dv (.bf rows)))),(id2,none)] h;exact⟨S,Kn,φ,eM.refl S w,e1▸hR.inv.GN ho hs h2,hR.cG,hR.size,hR.defers,hR.eJ,hR.gh⟩
theorem Hf{t id sz szo off len:Nat}{rows rows':List (List D)}(ht:bM e t=some (.c (.dq sz id off len)))(ho:au h id=some (.aH szo rows))(hr:(rows.drop off).take len=rows')(hle:off+len<=rows.length):
  Sub ⟨e,h,n,gh⟩ ⟨(t,.c (.dq sz n 0 len))::e,(id,none)::(n,some (.aH sz rows'))::h,n+1,gh⟩:=by
 intro S K w0 Kn φ gv nt a w hR;have hn:¬Kn n:=hR.eJ n (ak _);have hI:=hR.inv;obtain⟨hk0,h0⟩:=hI.fC _ _ ho;have hne:id≠n:=fun e=>hn (e▸hk0);have hv:=hR.cG t _ ht;generalize hval:a.tmps.getD t undef=val at hv;cases hv with
 |c hv=>
 have hkill:Inv S K w0 Kn φ (a_ [(id,none)] (au h)) w:=hI.i_ fun i o ho=>by
  rw[bB]at ho;split at ho
  .simp at ho
  .exact ho
 have hfree:∀i o,a_ [(id,none)] (au h) i=some o->bP o=true->(φ id).bU∉fc w φ (a_ [(id,none)] (au h)) i:=by
  intro i o hi hown hm;have hi':=hi;rw[bB]at hi';split at hi'
  .simp at hi'
  .rename_i hne2;rw[eC rfl (hi.trans hi'.symm)]at hm;exact kj hI hi' ho hown rfl (fun e=>hne2 e.symm) hm (ik id)
 generalize hphi:φ id=l at*;cases h0 with
 |@aH _ _ aH hsz0 hl hS hK hown hext hfit hrr hvis=>
 obtain⟨cap,addr,rfl,hszl,hk,hcap,haddr,hextc,hcl⟩:=hv.gQ;rw[hphi]at haddr hextc hszl hcl;obtain rfl:sz=szo:=by rw[<-hl,hszl]
 rw[hl]at haddr hextc;subst hr;have hlen:((rows.drop off).take len).length=len:=by simp;omega
 have hcm:len*sz<=cap*sz:=Nat.mul_le_mul_right _ hcap;have hR2:bS S w sz (fun i=>aH[i]?) addr ((rows.drop off).take len):=hrr.rE off len fun h=>haddr (by omega)
 have hname:=hkill.name hn ⟨l.bU,addr,sz,l.ext,cap⟩ (.aH sz ((rows.drop off).take len)) (fun _ j b hj hb hm=>hfree j b hj hb hm)
  (.aH hsz0 rfl hS hK hown hext (by rw[hlen];simp only;omega) hR2 (by rw[hlen];exact hcap))
 have hren:Ren Kn φ (fun j=>Kn j\/j=n) (ext φ n ⟨l.bU,addr,sz,l.ext,cap⟩):=fW _ hn;refine⟨S,fun j=>Kn j\/j=n,ext φ n ⟨l.bU,addr,sz,l.ext,cap⟩,eM.refl S w,⟨?_,?_,hR.size,hR.defers,?_,?_⟩⟩
 .have:au ((id,none)::(n,some (.aH sz ((rows.drop off).take len)))::h)=a_ [(n,some (.aH sz ((rows.drop off).take len)))] (a_ [(id,none)] (au h)):=by have e1:au ((id,none)::(n,some (Ob.aH sz ((rows.drop off).take len)))::h)=a_ ([(id,none)]++[(n,some (.aH sz ((rows.drop off).take len)))]) (au h):=eI [(id,none),(n,some (.aH sz ((rows.drop off).take len)))] h;rw[e1,<-cK];exact jw (u:=[(id,none)]) fun p hp q hq=>by obtain rfl:=am.1 hp;obtain rfl:=am.1 hq;exact hne
  rw[this];exact hname
 .intro t' x hx;simp only[bM]at hx;by_cases et:t=t'
  .subst et;simp at hx;subst hx;rw[hval];have e:ext φ n ⟨l.bU,addr,sz,l.ext,cap⟩ n=⟨l.bU,addr,sz,l.ext,cap⟩:=by simp[ext]
   have:=RC.dq (S:=S) (w:=w) (Kn:=fun j=>Kn j\/j=n) (φ:=ext φ n ⟨l.bU,addr,sz,l.ext,cap⟩) (id:=n) (off:=0) (len:=len) (cap:=cap) (addr:=addr)
    (.inr rfl) hcap (by rw[e];simp) (by rw[e];exact hextc) (by rw[e];simp)
   rw[e]at this;rw[hphi];exact .c this
  .have e':(t==t')=false:=by simpa using et
   rw[e',cond_false]at hx;exact(hR.cG t' x hx).mono (eM.refl _ _) hren
 .intro j hj hk;simp only at hj;rcases hk with hk|hk
  .exact hR.eJ j (by simp only;omega) hk
  .omega
 .intro i c v hc hv;exact(hR.gh i c v hc hv).mono (eM.refl _ _) hren
theorem wk.sub{Q:St->Prop}(hs:Sub s s')(h:wk Q s'):wk Q s:=let⟨s1,h1,h2⟩:=h;⟨s1,hs.trans h1,h2⟩
theorem wk.mono{Q Q':St->Prop}(h:wk Q s)(hq:∀s,Q s->Q' s):wk Q' s:=let⟨s1,h1,h2⟩:=h;⟨s1,h1,hq _ h2⟩
theorem WO.mono{Q Q':St->Prop}(hq:∀s,Q s->Q' s):∀{ops:List km}{s:St},WO P ops s Q->WO P ops s Q':=by
 intro ops;induction ops with
 |nil=>intro s h;exact wk.mono h hq
 |cons o r ih=>
  intro s h;obtain⟨s1,h1,h⟩:=h;refine⟨s1,h1,?_⟩;rcases h with⟨hw,call,v,u,ap,n,hok,hev,h⟩|⟨hw,h⟩
  .exact .inl ⟨hw,call,v,u,ap,n,hok,hev,ih h⟩
  .exact .inr ⟨hw,ih h⟩
theorem WO.sub{Q:St->Prop}{ops:List km}(hs:Sub s s')(h:WO P ops s' Q):WO P ops s Q:=by cases ops with|nil=>exact wk.sub hs h|cons o r=>obtain⟨s1,h1,h⟩:=h;exact⟨s1,hs.trans h1,h⟩
theorem pp.mono{R R':St->Prop}{Q Q':nL->St->Prop}(hr:∀s,R s->R' s)(hq:∀o s,Q o s->Q' o s):∀o s,pp R Q o s->pp R' Q' o s:=by intro o s h;cases o with|normal=>exact hr _ h|exit id=>exact hq _ _ h|ret=>exact hq _ _ h
theorem qt.mono{id:Nat}{Q Q':nL->St->Prop}(hq:∀o s,Q o s->Q' o s):∀o s,qt id Q o s->qt id Q' o s:=by
 intro o s h;cases o with
 |normal=>exact hq _ _ h
 |ret=>exact hq _ _ h
 |exit id'=>
  simp only[qt]at h|-;split at h
  .rw [if_pos (by assumption)];exact hq _ _ h
  .rw [if_neg (by assumption)];exact hq _ _ h
theorem W.mono:∀{c:CC}{s:St}{Q Q':nL->St->Prop},(∀o s,Q o s->Q' o s)->W P c s Q->W P c s Q':=by intro c;induction c with|seq a b iha ihb=>intro s Q Q' hq h;exact iha (pp.mono (fun s h=>ihb hq h) hq) h|cond c a b iha ihb=>intro s Q Q' hq h;obtain⟨s1,h0,t,h1,h2,h3⟩:=h;exact⟨s1,h0,t,h1,fun ht=>iha hq (h2 ht),fun ht=>ihb hq (h3 ht)⟩|block id a ih=>intro s Q Q' hq h;exact ih (qt.mono hq) h|loop jT a ih=>intro s Q Q' hq h;obtain⟨I,n,h1,h2⟩:=h;exact⟨I,n,h1,fun n s hi=>ih (pp.mono (fun s h=>h) hq) (h2 n s hi)⟩|skip=>intro s Q Q' hq h;exact wk.mono h fun s h=>hq _ _ h|exit id=>intro s Q Q' hq h;exact wk.mono h fun s h=>hq _ _ h|ret=>intro s Q Q' hq h;exact wk.mono h fun s h=>hq _ _ h|region ops jT=>intro s Q Q' hq h;exact WO.mono (fun s h=>h.mono fun s h=>hq _ _ h) h|drawn ops dyn jT=>intro s Q Q' hq h;obtain⟨s1,h0,calls,e,hh,tr,h1,h2,h3,h4⟩:=h;exact⟨s1,h0,calls,e,hh,tr,h1,h2,h3,h4.mono fun s h=>hq _ _ h⟩|dM=>intro s Q Q' hq h;exact h
theorem W.sub:∀{c:CC}{s s':St}{Q:nL->St->Prop},Sub s s'->W P c s' Q->W P c s Q:=by intro c;induction c with|seq a b iha ihb=>intro s s' Q hs h;exact iha hs h|cond c a b iha ihb=>intro s s' Q hs h;obtain⟨s1,h0,h1⟩:=h;exact⟨s1,hs.trans h0,h1⟩|block id a ih=>intro s s' Q hs h;exact ih hs h|loop jT a ih=>intro s s' Q hs h;obtain⟨I,n,h1,h2⟩:=h;exact⟨I,n,wk.sub hs h1,h2⟩|skip=>intro s s' Q hs h;exact wk.sub hs h|exit id=>intro s s' Q hs h;exact wk.sub hs h|ret=>intro s s' Q hs h;exact wk.sub hs h|region ops jT=>intro s s' Q hs h;exact WO.sub hs h|drawn ops dyn jT=>intro s s' Q hs h;obtain⟨s1,h0,h1⟩:=h;exact⟨s1,hs.trans h0,h1⟩|dM=>intro s s' Q hs h;exact h
section
variable{Q:nL->St->Prop}
theorem IZ{a b:CC}(h:W P a s (pp (fun s'=>W P b s' Q) Q)):W P (.seq a b) s Q:=h
theorem G4{id:Nat}{a:CC}(h:W P a s (qt id Q)):W P (.block id a) s Q:=h
theorem Jt{c:Operand}{a b:CC}{t:Bool}(hc:g_ s.cG c=some (.c (.d (.lit (.bool t)))))(h1:t=true->W P a s Q)(h2:t=false->W P b s Q):W P (.cond c a b) s Q:=⟨s,Sub.refl s,t,hc,h1,h2⟩
theorem Eh{ops:List km}{jT:List Nat}(h:WO P ops s fun s'=>wk (Q .normal) s'):W P (.region ops jT) s Q:=h
end
def ia{α β:Type}(f:α->Option (α⊕β)):Nat->α->Option β
 |0,_=>none
 |n+1,a=>match f a with|some (.inl a')=>ia f n a'|some (.inr b)=>some b|none=>none
theorem N4{α β:Type}{f:α->Option (α⊕β)}:∀{n m:Nat}{a:α}{b:β},n<=m->ia f n a=some b->ia f m a=some b:=by
 intro n;induction n with
 |zero=>intro m a b _ h;simp[ia]at h
 |succ n ih=>
  intro m a b hm h;cases m with
  |zero=>omega
  |succ m=>
   simp only[ia]at h|-;split at h
   .exact ih (by omega) h
   .exact h
   .simp at h
open Classical in
def dP{α β:Type}(f:α->Option (α⊕β))(a:α):Option β:=if h:∃n b,ia f n a=some b then some (fP (dA h))else none
theorem kZ{α β:Type}{f:α->Option (α⊕β)}{a:α}{b:β}:dP f a=some b<->∃n,ia f n a=some b:=by
 constructor
 .intro h;unfold dP at h;split at h
  .rename_i hx;refine⟨fP hx,?_⟩;rw[dA (dA hx)];exact h
  .simp at h
 .rintro ⟨n,hn⟩;have hx:∃n b,ia f n a=some b:=⟨n,b,hn⟩
  unfold dP;rw[dif_pos hx];have h2:=dA (dA hx);have h3:=N4 (Nat.le_max_left n (fP hx)) hn;have h4:=N4 (Nat.le_max_right n (fP hx)) h2;rw[h3]at h4;rw[<-h4]
theorem yE{α β:Type}(f:α->Option (α⊕β))(a:α):dP f a=match f a with
  |some (.inl a')=>dP f a'
  |some (.inr b)=>some b
  |none=>none:=by
 apply Option.ext;intro b;rw[kZ];constructor
 .rintro ⟨n,hn⟩;cases n with
  |zero=>simp[ia]at hn
  |succ n=>
   simp only[ia]at hn;split at hn
   .exact kZ.2 ⟨n,hn⟩
   .exact hn
   .simp at hn
 .intro h;split at h
  .rename_i a' ha;obtain⟨n,hn⟩:=kZ.1 h;exact⟨n+1,by simp only[ia,ha];exact hn⟩
  .rename_i b' ha;exact⟨1,by simp only[ia,ha];exact h⟩
  .simp at h
theorem gf{α β:Type}{f:α->Option (α⊕β)}{a a':α}(h:f a=some (.inl a')):dP f a=dP f a':=by rw[yE,h]
theorem eF{α β:Type}{f:α->Option (α⊕β)}{a:α}{b:β}(h:f a=some (.inr b)):dP f a=some b:=by rw[yE,h]
def mj:Ev.Call:=fun _ _=>none
theorem mA:j4 P mj:=fun _ _ _ _ h=>by simp[mj]at h
section
variable{Q:St->Prop}{r:List km}{d:Nat}{k:K}{args:List Operand}{v:TV}{u:dD}{ap:List Nat}{m g:Nat}{b c:Bool}
def F3:Option TV->Option (FuncId×List C)
 |some (.c (.d (.fn f caps)))=>some (f,caps.map C.d)
 |some (.c (.kR f caps))=>some (f,caps)
 |_=>none
def callee(h:bl)(gJ:List Bool):List (Option TV)->Option (FuncId×List A)
 |f::vs=>
  match F3 f,cT vs with
  |some (f,caps),some vs=>match eA h (vs++caps.map TV.c) gJ with|some (as,_,_)=>some (f,as)|none=>none
  |_,_=>none
 |[]=>none
def pL(h:bl)(nxt:Nat)(ro:Bool)(ap:List Nat)(lent:List (C×List Nat×List Nat)):Option (List R×List T)->Bu
 |none=>none
 |some (rs,outs)=>
  if ro then
   if rs.all qO/\outs.all Ap then
    match cQ nxt lent outs with|none=>none|some (bu,m)=>some (nY (eW m rs).1,(eW m rs).2.1++bu,ap++lent.flatMap (·.2.2),(eW m rs).2.2)
   else none
  else
   match cq h ap ap with
   |none=>none
   |some fu=>match cQ nxt lent outs with|none=>none|some (bu,m)=>some (nY (eW m rs).1,(eW m rs).2.1++bu++fu,ap++lent.flatMap (·.2.2),(eW m rs).2.2)
theorem vq(call:Ev.Call)(ro:Bool)(gJ:List Bool)(fv:Option TV)(vs:List (Option TV))(h:bl)(nxt:Nat):
  pN call ro gJ fv vs h nxt=match F3 fv,cT vs with
   |some (f,caps),some vs=>match eA h (vs++caps.map TV.c) gJ with|none=>none|some (as,ap,lent)=>if de h lent/\(lent.flatMap (fun(p:C×List Nat×List Nat)=>p.2.1)).Nodup/\(lent.flatMap (fun(p:C×List Nat×List Nat)=>p.2.1)).all (fun i=>!ap.contains i)then pL h nxt ro ap lent (call f as)else none
   |_,_=>none:=by
 have e1:∀(o:Option (List R×List T))(ap:List Nat)(lent:List (C×List Nat×List Nat)),(match o with
    |none=>none
    |some (rs,outs)=>
     if ro then
      if rs.all qO/\outs.all Ap then
       match cQ nxt lent outs with
       |none=>none
       |some (bu,m)=>
        let(vs,u,k):=eW m rs
        some (nY vs,u++bu,ap++lent.flatMap (fun(p:C×List Nat×List Nat)=>p.2.2),k)
      else none
     else
      match cq h ap ap with
      |none=>none
      |some fu=>
       match cQ nxt lent outs with
       |none=>none
       |some (bu,m)=>
        let(vs,u,k):=eW m rs
        some (nY vs,u++bu++fu,ap++lent.flatMap (fun(p:C×List Nat×List Nat)=>p.2.2),k))=pL h nxt ro ap lent o:=by
  intro o ap lent;cases o with|none=>rfl|some p=>rfl
 have e2:(match fv with|some (.c (.d (.fn f caps)))=>some (f,caps.map C.d)|some (.c (.kR f caps))=>some (f,caps)|_=>none)=F3 fv:=rfl
 show(match(match fv with|some (.c (.d (.fn f caps)))=>some (f,caps.map C.d)|some (.c (.kR f caps))=>some (f,caps)|_=>none),cT vs with
   |some (f,caps),some vs=>
    match eA h (vs++caps.map TV.c) gJ with
    |none=>none
    |some (as,ap,lent)=>
     if de h lent/\(lent.flatMap (fun(p:C×List Nat×List Nat)=>p.2.1)).Nodup/\(lent.flatMap (fun(p:C×List Nat×List Nat)=>p.2.1)).all (fun i=>!ap.contains i)then
      (match call f as with
    |none=>none
    |some (rs,outs)=>
     if ro then
      if rs.all qO/\outs.all Ap then
       match cQ nxt lent outs with
       |none=>none
       |some (bu,m)=>
        let(vs,u,k):=eW m rs
        some (nY vs,u++bu,ap++lent.flatMap (fun(p:C×List Nat×List Nat)=>p.2.2),k)
      else none
     else
      match cq h ap ap with
      |none=>none
      |some fu=>
       match cQ nxt lent outs with
       |none=>none
       |some (bu,m)=>
        let(vs,u,k):=eW m rs
        some (nY vs,u++bu++fu,ap++lent.flatMap (fun(p:C×List Nat×List Nat)=>p.2.2),k))else none
   |_,_=>none)=_
 simp only[e1,e2]
open Classical in
def only(f:FuncId)(as:List A)(rs:List R)(outs:List T):Ev.Call:=fun f' as'=>if f'=f/\as'=as then some (rs,outs)else none
theorem BX{f:FuncId}{as:List A}{rs:List R}{outs:List T}(hg:rh P f as rs outs):j4 P (only f as rs outs):=by
 intro f' as' rs' outs' h;unfold only at h;split at h
 .rename_i he;obtain⟨rfl,rfl⟩:=he;obtain⟨rfl,rfl⟩:=ad (aa h);exact hg
 .simp at h
theorem vI{f:FuncId}{as:List A}{rs:List R}{outs:List T}{ro:Bool}{gJ:List Bool}{vs:List (Option TV)}{x:TV×dD×List Nat×Nat}
  (h2:callee h gJ vs=some (f,as)) (h1:bN (fun _ _=>some (rs,outs)) (.call ro gJ) vs h n=some x):bN (only f as rs outs) (.call ro gJ) vs h n=some x:=by
 cases vs with
 |nil=>simp[callee]at h2
 |cons fv vs=>
  simp only[callee]at h2;simp only[bN,vq]at h1|-;split at h2
  .rename_i f' caps vs' hf hvs;simp only[hf,hvs]at h1|-;split at h2
   .rename_i as' ap lent hargs;obtain⟨rfl,rfl⟩:=ad (aa h2);rw[hargs]at h1|-;simp only[only,and_self,if_true]at h1|-;exact h1
   .simp at h2
  .simp at h2
theorem Cq{fv:Option TV}{ovs:List (Option TV)}{vs:List TV}{f:FuncId}{caps:List C}{as:List A}{ap:List Nat}{lent:List (C×List Nat×List Nat)}{ro:Bool}{gJ:List Bool}{rs:List R}{outs:List T}{x:TV×dD×List Nat×Nat}
  (hf:F3 fv=some (f,caps)) (hv:cT ovs=some vs) (ha:eA h (vs++caps.map TV.c) gJ=some (as,ap,lent)) (hw:de h lent=true)
  (hn:decide ((lent.flatMap (fun(p:C×List Nat×List Nat)=>p.2.1)).Nodup/\(lent.flatMap (fun(p:C×List Nat×List Nat)=>p.2.1)).all (fun i=>!ap.contains i)=true)=true)
  (hl:pL h n ro ap lent (some (rs,outs))=some x):
  callee h gJ (fv::ovs)=some (f,as)/\bN (fun _ _=>some (rs,outs)) (.call ro gJ) (fv::ovs) h n=some x:=by
 have hn':=of_decide_eq_true hn;constructor
 .simp only[callee,hf,hv,ha]
 .simp only[bN,vq,hf,hv,ha];rw[if_pos ⟨hw,hn'⟩];exact hl
theorem M9{ap:List Nat}{lent:List (C×List Nat×List Nat)}{rs:List R}{outs:List T}{fu bu:dD}{m:Nat}(hz:cq h ap ap=some fu)(hb:cQ n lent outs=some (bu,m)):
  pL h n false ap lent (some (rs,outs))=some (nY (eW m rs).1,(eW m rs).2.1++bu++fu,ap++lent.flatMap (·.2.2),(eW m rs).2.2):=by
 simp only[pL,hz,hb,aM,if_false]
theorem Ib{ap:List Nat}{lent:List (C×List Nat×List Nat)}{rs:List R}{outs:List T}{bu:dD}{m:Nat}(h1:rs.all qO=true)(h2:outs.all Ap=true)(hb:cQ n lent outs=some (bu,m)):
  pL h n true ap lent (some (rs,outs))=some (nY (eW m rs).1,(eW m rs).2.1++bu,ap++lent.flatMap (·.2.2),(eW m rs).2.2):=by
 simp only[pL,h1,h2,hb,and_self,if_true]
theorem IG{sz id len k:Nat}{rows:List (List D)}{rd:List Nat}{r:List (C×List Nat×List Nat)}{ts:List T}{w:dD}(hl:rows.length=len)(hr:cQ n r ts=some (w,k)):
  cQ n ((.dq sz id 0 len,[id],rd)::r) (.sl sz rows::ts)=some ((id,some (.aH sz rows))::w,k):=by
 simp only[cQ,hl,hr,and_self,if_true]
theorem IF{id k:Nat}{bf rd:List Nat}{r:List (C×List Nat×List Nat)}{ts' ts:List T}{w:dD}(hc:bf.contains id=true)(hr:cQ (fy n ts').2.2 r ts=some (w,k)):
  cQ n ((.op id 0,bf,rd)::r) (.pt ts'::ts)=some ((id,some (.box (fy n ts').1))::(fy n ts').2.1++bf.map (fun i=>(i,none))++w,k):=by
 simp only[cQ,hr,hc,if_true]
theorem D2{c:C}{bf rd:List Nat}{k:Nat}{r:List (C×List Nat×List Nat)}{ts:List T}{w:dD}(hr:cQ n r ts=some (w,k)):cQ n ((c,bf,rd)::r) (.qV::ts)=some (bf.map (fun i=>(i,none))++w,k):=by simp[cQ,hr]
theorem Nj{c:C}{vs:List TV}{ms:List Bool}{as:List A}{ap i:List Nat}{lent:List (C×List Nat×List Nat)}{x:D}(hv:cW h 300 c=some (x,i))(hm:ms.headD false=false)(hr:eA h vs ms.tail=some (as,ap,lent)):
  eA h (.c c::vs) ms=some (.d x::as,i++ap,lent):=by simp only[eA,hr,hm,hv,aM,if_false]
theorem KF{cs:List C}{vs:List TV}{ms:List Bool}{as:List A}{ap i:List Nat}{lent:List (C×List Nat×List Nat)}{xs:List D}(hv:cH h cs=some (xs,i))(hm:ms.headD false=false)(hr:eA h vs ms.tail=some (as,ap,lent)):
  eA h (.agg cs::vs) ms=some (.agg xs::as,i++ap,lent):=by simp only[eA,hr,hm,hv,aM,if_false]
theorem L0{c:C}{vs:List TV}{ms:List Bool}{as:List A}{ap bf rd:List Nat}{lent:List (C×List Nat×List Nat)}{t:T}(hv:cR h 300 c=some (t,bf,rd))(hm:ms.headD false=true)(hr:eA h vs ms.tail=some (as,ap,lent)):
  eA h (.c c::vs) ms=some (.mt t::as,ap,(c,bf,rd)::lent):=by simp only[eA,hr,hm,hv,if_true]
end
abbrev Tr:=List (List Nat×List Nat)
abbrev Lq:=gy×bl×Tr
def GM(e:gy)(d:Option Nat)(h:bl)(tr:Tr)(top:Nat)(r:Bu):Option Lq:=match r with|some (v,u,ap,m)=>if m<=top then some (put e d v,u++h,tr++[(ap,u.map (·.1))])else none|none=>none
def xF(call:Ev.Call)(aL i:Nat)(o:km)(s:Lq):Option Lq:=match gZ s.1 o.guard with|some true=>GM s.1 o.dst s.2.1 s.2.2 (aL+fS*(i+1)) (bN call o.k (o.args.map (g_ s.1)) s.2.1 (aL+fS*i))|some false=>some (drop s.1 o.dst,s.2.1,s.2.2++[([],[])])|none=>none
def wJ(calls:Nat->Ev.Call)(aL:Nat):List km->Nat->Lq->Option Lq
 |[],_,s=>some s
 |o::r,i,s=>(xF (calls i) aL i o s).bind (wJ calls aL r (i+1))
theorem Iq{calls:Nat->Ev.Call}{aL:Nat}:∀(l:List km)(i:Nat)(e:gy)(h:bl)(tr:Tr)(e':gy)(h':bl)(tr':Tr),wJ calls aL l i (e,h,tr)=some (e',h',tr')->
  ∃t,jX calls aL l i e h=some (e',h',t)/\tr'=tr++t:=by
 intro l;induction l with
 |nil=>
  intro i e h tr e' h' tr' hh;obtain⟨rfl,rfl,rfl⟩:e=e'/\h=h'/\tr=tr':=by simpa[wJ]using hh
  exact⟨[],rfl,by simp⟩
 |cons o r ih=>
  intro i e h tr e' h' tr' hh;unfold wJ xF at hh;unfold jX;cases hw:gZ e o.guard with
  |none=>simp[hw]at hh
  |some b=>
   cases b with
   |false=>simp only[hw,af]at hh;obtain⟨t,h1,h2⟩:=ih _ _ _ _ _ _ _ hh;exact⟨([],[])::t,by simp[h1],by simp[h2]⟩
   |true=>
    simp only[hw]at hh;cases hv:bN (calls i) o.k (o.args.map (g_ e)) h (aL+fS*i)with
    |none=>simp[hv,GM]at hh
    |some p=>
     obtain⟨v,u,ap,m⟩:=p;simp only[hv,GM]at hh;by_cases hm:m<=aL+fS*(i+1)
     .rw [if_pos hm,af]at hh;obtain⟨t,h1,h2⟩:=ih _ _ _ _ _ _ _ hh;exact⟨(ap,u.map (·.1))::t,by simp[hm,h1],by simp[h2]⟩
     .rw [if_neg hm]at hh;simp at hh
theorem A2{calls calls':Nat->Ev.Call}{aL:Nat}:∀(l:List km)(i:Nat)(s:Lq),(∀j,i<=j->calls j=calls' j)->wJ calls aL l i s=wJ calls' aL l i s:=by intro l;induction l with|nil=>intro i s _;rfl|cons o r ih=>intro i s hc;simp only[wJ,hc i (ak _)];congr 1;funext s';exact ih (i+1) s' fun j hj=>hc j (by omega)
def WD(P:Program)(aL:Nat)(ops:List km)(i:Nat)(e:gy)(h:bl)(tr:Tr)(Q:gy->bl->Tr->Prop):Prop:=∃calls,(∀j,j4 P (calls j))/\∃e' h' tr',wJ calls aL ops i (e,h,tr)=some (e',h',tr')/\Q e' h' tr'
theorem G3{Q:nL->St->Prop}{ops:List km}{dyn:List (Nat×Nat)}{jT:List Nat}
  (hw:WD P n ops 0 e h [] fun e' h' tr=>vy tr dyn=true/\wk (Q .normal) ⟨e',h',n+fS*ops.length,gh⟩):W P (.drawn ops dyn jT) ⟨e,h,n,gh⟩ Q:=by
 obtain⟨calls,hok,e',h',tr',h1,hd,hq⟩:=hw;obtain⟨t,h4,ht⟩:=Iq _ _ _ _ _ _ _ _ h1;obtain rfl:tr'=t:=by simpa using ht
 exact⟨_,Sub.refl _,calls,e',h',_,hok,h4,hd,hq⟩
section
variable{aL i:Nat}{ops r:List km}{tr:Tr}{Q:gy->bl->Tr->Prop}{d:Nat}{k:K}{args:List Operand}{v:TV}{u:dD}{ap:List Nat}{m g:Nat}{b c:Bool}
theorem L8(hq:Q e h tr):WD P aL [] i e h tr Q:=⟨fun _=>mj,fun _=>mA,e,h,tr,rfl,hq⟩
theorem Gg{call:Ev.Call}{o:km}{e1:gy}{h1:bl}{tr1:Tr}(hok:j4 P call)(hs:xF call aL i o (e,h,tr)=some (e1,h1,tr1))(hq:WD P aL r (i+1) e1 h1 tr1 Q):WD P aL (o::r) i e h tr Q:=by
 obtain⟨calls,hc,e',h',tr',h2,h3⟩:=hq;refine⟨fun j=>if j=i then call else calls j,fun j=>?_,e',h',tr',?_,h3⟩
 .show j4 P (if j=i then call else calls j);split
  .exact hok
  .exact hc j
 .simp only[wJ,if_true,hs,af];rw[A2 (calls':=calls) r (i+1) _ fun j hj=>if_neg (by omega)];exact h2
theorem K9{e:gy}{dd:Option Nat}{top:Nat}(hm:m<=top):GM e dd h tr top (some (v,u,ap,m))=some (put e dd v,u++h,tr++[(ap,u.map (·.1))]):=by simp only[GM];rw[if_pos hm]
theorem Hr:aL+fS*i<=aL+fS*(i+1):=by simp only[fS];omega
end
inductive Fg:bl->bl->Prop
 |nil:Fg [] []
 |cons {p:Nat×Option Ob} {a b:bl} (h:Fg a b):Fg (p::a) (p::b)
 |skip {i:Nat} {a b:bl} (h:Fg a b):Fg a ((i,none)::b)
end
end Go.Ev
