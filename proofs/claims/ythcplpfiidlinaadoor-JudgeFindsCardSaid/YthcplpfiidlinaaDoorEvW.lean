/- A region in any order, against the text's order. Conditions: operations whose names meet are ordered by the text; operations whose objects meet are ordered by the text, or the check at the run says that they do not meet. -/
import Derived.Test.YthcplpfiidlinaaDoorEvR
import Derived.Orders
import Derived.Scope
open Array renaming getD->jM,getD_eq_getD_getElem?->bw,getElem?_eq_getElem->gR,getElem?_eq_some_iff->bi,getElem?_toList->a_
open Bool renaming and_eq_true->ai,false_eq_true->aT,or_eq_true->cM
open Classical renaming choose->gm,choose_spec->di
open List renaming Sublist->c8,all_eq_true->bd,flatMap_append->lV,getD_eq_getElem?_getD->cI,getElem?_eq_getElem->aw,getElem?_eq_some_iff->ak,getElem?_map->aH,length_cons->db,length_eq_zero_iff->bc,map_cons->aD,mem_append->ap,mem_append_left->aE,mem_append_right->aG,mem_cons->aN,mem_cons_of_mem->aC,mem_cons_self->cq,mem_flatten->dO,mem_of_getElem?->aX,mem_singleton->ao,nodup_append->bZ
open List.Sublist renaming refl->bM
open Nat renaming add_assoc->cP,add_sub_cancel'->jU,add_zero->dT,le_refl->au,lt_or_ge->fo,mul_le_mul_left->lU,zero_add->bL
open Option renaming bind_some->af,map_eq_some_iff->aF
open Option.some renaming inj->aa,injEq->bn
open Prod.mk renaming inj->ad,injEq->dg
noncomputable section
namespace Go.Ev
def zW:Ev.K->Nat
 |.mv|.pick|.build _ _|.nilCheck|.Ax _|.uU _|.qY _ _|.zx _ _|.un _|.vJ _|.th|.I8 _|.fieldAddr _ _|.field _ _ _
 |.indexAddr _ _|.pI|.index _ _ _|.extract _|.len _|.uP _|.gx=>0
 |.load _ _|.lookup _ _ _ _ _|.slice _ _ _ _=>1
 |_=>2
theorem LJ{call:Call}{k:Ev.K}{vs:List (Option TV)}{H:bF}{nxt n:Nat}{v:TV}{u:fF}{aA:List Nat}(hk:zW k<=1)(h:cQ call k vs H nxt=some (v,u,aA,n)):u=[]:=by
 cases k<;>first
  |(simp[zW]at hk;done)
  |(unfold cQ at h
    repeat' split at h
    all_goals first
     |(simp at h;done)
     |(simp only[bn,dg]at h;exact h.2.1.symm)
     |(simp_all;done))
theorem LI{call:Call}{k:Ev.K}{vs:List (Option TV)}{H:bF}{nxt n:Nat}{v:TV}{u:fF}{aA:List Nat}(hk:zW k=0)(h:cQ call k vs H nxt=some (v,u,aA,n)):aA=[]:=by
 cases k<;>first
  |(simp[zW]at hk;done)
  |(unfold cQ at h
    repeat' split at h
    all_goals first
     |(simp at h;done)
     |(simp only[bn,dg]at h;exact h.2.2.1.symm)
     |(simp_all;done))
def pM(acc:List Nat):List Edge->Nat
 |[]=>0
 |e::r=>if Region.binds .any e then(pM acc r)|||2^e.on|||acc.getD e.on 0 else pM acc r
def M_:List Oper->List Nat->List Nat
 |[],acc=>acc
 |o::r,acc=>M_ r (acc++[pM acc o.after.toList])
def yM(m:List Nat):List Oper->Nat->Bool
 |[],_=>true
 |o::r,i=>m.getD i 0==pM m o.after.toList&&o.after.toList.all (fun e=>!(Region.binds .any e)||decide (e.on<i))&&yM m r (i+1)
def ff(m:List Nat)(i j:Nat):Bool:=(m.getD j 0).testBit i
def U_:Operand->Option Nat
 |.tmp t=>some t
 |_=>none
def F6(o:ol):List Nat:=o.args.filterMap U_++(match o.guard with|some (t,_)=>[t]|none=>[])
def Jk(d:Option Nat)(l:List Nat):Bool:=match d with|some d=>l.contains d|none=>false
def zD(a b:ol):Bool:=Jk a.dst (F6 b)||Jk b.dst (F6 a)||Jk a.dst b.dst.toList
def vd(m:List Nat)(i:Nat)(a:ol):List ol->Nat->Bool
 |[],_=>true
 |b::r,j=>(ff m i j||!zD a b)&&vd m i a r (j+1)
def yq(m:List Nat):List ol->Nat->Bool
 |[],_=>true
 |a::r,i=>vd m i a r (i+1)&&yq m r (i+1)
def Fv:Value->Value->Bool
 |.int k a,.int k' b=>decide (k=k')&&decide (a=b)
 |.bool a,.bool b=>decide (a=b)
 |.string a,.string b=>decide (a.toList=b.toList)
 |.float k a,.float k' b=>decide (k=k')&&decide (a=b)
 |.slice none 0 0,.slice none 0 0|.pointer none,.pointer none|.map none,.map none|.nilFunc,.nilFunc|.nilIface,.nilIface=>true
 |_,_=>false
def AO:List Value->List Value->Bool
 |[],[]=>true
 |x::xs,y::ys=>Fv x y&&AO xs ys
 |_,_=>false
def AK:Ev.K->Ev.K->Bool
 |.lookup ka ks va z false,.mapEntry ka' ks' va' z'=>decide (ka=ka')&&decide (ks=ks')&&decide (va=va')&&AO z z'
 |_,_=>false
def wL(m:List Nat)(i:Nat)(a:ol):List ol->Nat->List (Nat×Nat)
 |[],_=>[]
 |b::r,j=>if ff m i j||zW b.k==0||zW b.k+zW a.k<=2 then wL m i a r (j+1)else(i,if AK a.k b.k then 1000+j else j)::wL m i a r (j+1)
def tg(m:List Nat):List ol->Nat->List (Nat×Nat)
 |[],_=>[]
 |a::r,i=>(if zW a.k==0 then[]else wL m i a r (i+1))++tg m r (i+1)
def wO(ops:List Oper)(cops:List ol)(nc:List Nat):CC:=
 let m:=M_ ops []
 if yM m ops 0&&yq m cops 0&&decide (cops.length<=1000)then .drawn cops (tg m cops 0) nc else .gx
theorem Au{acc:List Nat}{j:Nat}:∀{es:List Edge},(pM acc es).testBit j=true->∃e∈es,Region.binds .any e=true/\(e.on=j\/(acc.getD e.on 0).testBit j=true):=by
 intro es;induction es with
 |nil=>intro h;simp[pM]at h
 |cons e r ih=>
  intro h;simp only[pM]at h;split at h
  .rename_i hb;simp only[Nat.testBit_or,cM,Nat.testBit_two_pow,decide_eq_true_eq]at h;rcases h with(h|h)|h
   .obtain ⟨e',he,h'⟩:=ih h;exact⟨e',aC _ he,h'⟩
   .exact ⟨e,cq,hb,.inl h⟩
   .exact ⟨e,cq,hb,.inr h⟩
  .obtain ⟨e',he,h'⟩:=ih h;exact⟨e',aC _ he,h'⟩
theorem FS{m:List Nat}:∀{l:List Oper}{i:Nat},yM m l i=true->∀(k:Nat)(o:Oper),l[k]?=some o->
  (∀j,ff m j (i+k)=true->∃e∈o.after,Region.binds .any e=true/\(e.on=j\/ff m j e.on=true))/\∀e∈o.after,Region.binds .any e=true->e.on<i+k:=by
 intro l;induction l with
 |nil=>intro i _ k o hk;simp at hk
 |cons o0 r ih=>
  intro i h k o hk;simp only[yM,ai]at h;obtain⟨⟨h1,h2⟩,h3⟩:=h;cases k with
  |zero=>
   obtain rfl:o0=o:=by simpa using hk
   refine⟨fun j hj=>?_,fun e he hb=>?_⟩
   .unfold ff at hj;rw[dT,(by simpa using h1:m.getD i 0=_)]at hj;obtain⟨e,he,h'⟩:=Au hj;exact⟨e,by simpa using he,h'⟩
   .have:=bd.1 h2 e (by simpa using he);simpa[hb]using this
  |succ k=>have:=ih h3 k o (by simpa using hk);rw[show i+1+k=i+(k+1)by omega]at this;exact this
theorem Aa{m:List Nat}{i:Nat}{a:ol}:∀{l:List ol}{j:Nat},vd m i a l j=true->∀(k:Nat)(b:ol),l[k]?=some b->ff m i (j+k)=true\/zD a b=false:=by
 intro l;induction l with
 |nil=>intro j _ k b hk;simp at hk
 |cons b0 r ih=>
  intro j h k b hk;simp only[vd,ai]at h;cases k with
  |zero=>
   obtain rfl:b0=b:=by simpa using hk
   simpa using h.1
  |succ k=>have:=ih h.2 k b (by simpa using hk);rwa[show j+1+k=j+(k+1)by omega]at this
theorem Fu{m:List Nat}:∀{l:List ol}{i:Nat},yq m l i=true->∀(k k':Nat)(a b:ol),l[k]?=some a->l[k']?=some b->k<k'->ff m (i+k) (i+k')=true\/zD a b=false:=by
 intro l;induction l with
 |nil=>intro i _ k k' a b hk;simp at hk
 |cons a0 r ih=>
  intro i h k k' a b hk hk' hlt;simp only[yq,ai]at h;cases k' with
  |zero=>omega
  |succ k'=>
   cases k with
   |zero=>
    obtain rfl:a0=a:=by simpa using hk
    have:=Aa h.1 k' b (by simpa using hk');rwa[show i+1+k'=i+(k'+1)by omega]at this
   |succ k=>have:=ih h.2 k k' a b (by simpa using hk) (by simpa using hk') (by omega);rwa[show i+1+k=i+(k+1)by omega,show i+1+k'=i+(k'+1)by omega]at this
theorem Es{m:List Nat}{i:Nat}{a:ol}:∀{l:List ol}{j:Nat},∀(k:Nat)(b:ol),l[k]?=some b->ff m i (j+k)=true\/zW b.k=0\/zW b.k+zW a.k<=2\/(i,if AK a.k b.k then 1000+(j+k)else j+k)∈wL m i a l j:=by
 intro l;induction l with
 |nil=>intro j k b hk;simp at hk
 |cons b0 r ih=>
  intro j k b hk;cases k with
  |zero=>
   obtain rfl:b0=b:=by simpa using hk
   simp only[wL];split
   .rename_i h;simp only[cM,beq_iff_eq,decide_eq_true_eq]at h;rcases h with(h|h)|h
    .exact .inl h
    .exact .inr (.inl h)
    .exact .inr (.inr (.inl h))
   .exact .inr (.inr (.inr (cq ..)))
  |succ k=>
   have:=ih (j:=j+1) k b (by simpa using hk);rw[show j+1+k=j+(k+1)by omega]at this;rcases this with h|h|h|h
   .exact .inl h
   .exact .inr (.inl h)
   .exact .inr (.inr (.inl h))
   .refine .inr (.inr (.inr ?_));simp only[wL];split
    .exact h
    .exact aC _ h
theorem Et{m:List Nat}:∀{l:List ol}{i:Nat},∀(k k':Nat)(a b:ol),l[k]?=some a->l[k']?=some b->k<k'->
  ff m (i+k) (i+k')=true\/zW a.k=0\/zW b.k=0\/zW b.k+zW a.k<=2\/(i+k,if AK a.k b.k then 1000+(i+k')else i+k')∈tg m l i:=by
 intro l;induction l with
 |nil=>intro i k k' a b hk;simp at hk
 |cons a0 r ih=>
  intro i k k' a b hk hk' hlt;cases k' with
  |zero=>omega
  |succ k'=>
   cases k with
   |zero=>
    obtain rfl:a0=a:=by simpa using hk
    have:=Es (m:=m) (i:=i) (a:=a0) (j:=i+1) k' b (by simpa using hk');rw[show i+1+k'=i+(k'+1)by omega]at this;rcases this with h|h|h|h
    .exact .inl h
    .exact .inr (.inr (.inl h))
    .exact .inr (.inr (.inr (.inl h)))
    .by_cases e:zW a0.k=0
     .exact .inr (.inl e)
     .refine .inr (.inr (.inr (.inr ?_)));simp only[tg,beq_iff_eq,e,if_false];exact aE _ h
   |succ k=>
    have:=ih (i:=i+1) k k' a b (by simpa using hk) (by simpa using hk') (by omega);rw[show i+1+k=i+(k+1)by omega,show i+1+k'=i+(k'+1)by omega]at this;rcases this with h|h|h|h|h
    .exact .inl h
    .exact .inr (.inl h)
    .exact .inr (.inr (.inl h))
    .exact .inr (.inr (.inr (.inl h)))
    .exact .inr (.inr (.inr (.inr (by simp only[tg];exact aG _ h))))
theorem Ix{a b:Value}(h:Fv a b=true):a=b:=by
 unfold Fv at h;split at h<;>first|rfl|(simp at h;done)|skip
 .obtain ⟨rfl,rfl⟩:_/\_:=by simpa using h
  rfl
 .obtain rfl:_=_:=by simpa using h
  rfl
 .rename_i x y;have:x.toList=y.toList:=by simpa using h
  rw[ByteArray.toList_eq,ByteArray.toList_eq]at this;obtain⟨⟨x⟩⟩:=x;obtain⟨⟨y⟩⟩:=y;have e:x=y:=by simpa using this
  rw[e]
 .obtain ⟨rfl,rfl⟩:_/\_:=by simpa using h
  rfl
theorem KF:∀{a b:List Value},AO a b=true->a=b:=by
 intro a;induction a with
 |nil=>intro b h;cases b<;>simp_all[AO]
 |cons x a ih=>intro b h;cases b with|nil=>simp[AO]at h|cons y b=>simp only[AO,ai]at h;rw[Ix h.1,ih h.2]
theorem LK:∀{ks:List Kd}{a b:List Value},zX ks a=true->zX ks b=true->∃r,gJ ks a b=some r:=by
 intro ks;induction ks with
 |nil=>intro a b h1 h2;cases a<;>cases b<;>simp_all[zX,gJ]
 |cons k ks ih=>
  intro a b h1 h2;cases a with
  |nil=>simp[zX]at h1
  |cons x a=>
   cases b with
   |nil=>simp[zX]at h2
   |cons y b=>
    simp only[zX,ai]at h1 h2;obtain⟨r,hr⟩:=ih h1.2 h2.2;have hk:∃q,E3 k x y=some q:=by have ha:=h1.1;have hb:=h2.1;cases k<;>cases x<;>cases y<;>simp_all[LL,E3]
    obtain⟨q,hq⟩:=hk;exact⟨q&&r,by simp[gJ,hq,hr]⟩
theorem Js{ks:List Kd}{key:List Value}{e:tE}:∀{es:List tE}{i:Nat},
  nh ks key (es++[e]) i=(match nh ks key es i with|some (some j)=>some (some j)|some none=>(match gJ ks key e.1 with|some true=>some (some (i+es.length))|some false=>some none|none=>none)|none=>none):=by
 intro es;induction es with
 |nil=>intro i;simp only[List.nil_append,nh,List.length_nil,dT];cases gJ ks key e.1 with|none=>rfl|some b=>cases b<;>rfl
 |cons x es ih=>
  intro i;simp only[List.cons_append,nh];cases gJ ks key x.1 with
  |none=>rfl
  |some b=>cases b with|true=>rfl|false=>simp only[ih,db];rw[show i+1+es.length=i+(es.length+1)by omega]
theorem Mq{ks:List Kd}{key:List Value}:∀{es:List tE}{i j:Nat},nh ks key es i=some (some j)->j<i+es.length:=by
 intro es;induction es with
 |nil=>intro i j h;simp[nh]at h
 |cons x es ih=>
  intro i j h;simp only[nh]at h;split at h
  .obtain rfl:i=j:=by simpa using h
   simp
  .have:=ih h;simp only[db];omega
  .simp at h
theorem D8{ka:Bool}{ks:List Kd}{k:TV}{key:List Value}(h:o7 ka ks k=some key):zX ks key=true:=by
 cases k with
 |agg cs=>
  simp only[o7]at h;split at h
  .exact (vB h).2
  .simp at h
 |c x=>
  simp only[o7]at h;split at h
  .exact (vB h).2
  .simp at h
 |iT xs=>simp[o7]at h
theorem Ir{call1 call2:Call}{k1 k2:Ev.K}{vs1 vs2:List (Option TV)}{H H':bF}{nx1 nx2 n n2 id:Nat}{v v2:TV}{u u2:fF}{ids2:List Nat}(hk:AK k1 k2=true)
  (h1:cQ call1 k1 vs1 H nx1=some (v,u,[id],n)) (h2:cQ call2 k2 vs2 H' nx2=some (v2,u2,ids2,n2)) (hs:aB H' id=aB H id) (ht:id∈u2.map (·.1)):
  cQ call1 k1 vs1 (u2++H) nx1=some (v,u,[id],n):=by
 unfold AK at hk;split at hk
 .rename_i ka ks va z ka' ks' va' z';simp only[ai,decide_eq_true_eq]at hk;obtain⟨⟨⟨rfl,rfl⟩,rfl⟩,hz⟩:=hk;obtain rfl:=KF hz
  match vs1,vs2,h1,h2 with
  |[some (.c m1),some kt1],[some (.c m2),some kt2],h1,h2=>
   change (match iC ka ks va z false m1 kt1 H with|some (v,aA)=>some (v,([]:fF),aA,nx1)|none=>none)=_ at h1;change (match nn ka ks va z m2 kt2 H' with|some (v,u,aA)=>some (v,u,aA,nx2)|none=>none)=_ at h2;show(match iC ka ks va z false m1 kt1 (u2++H)with|some (v,aA)=>some (v,([]:fF),aA,nx1)|none=>none)=_
   have key:iC ka ks va z false m1 kt1 H=some (v,[id])->iC ka ks va z false m1 kt1 (u2++H)=some (v,[id]):=by
    clear h1;intro h1;split at h2
    .rename_i v3 u3 ids3 h3;obtain⟨_,rfl,_,_⟩:v3=v2/\u3=u2/\ids3=ids2/\nx2=n2:=by simpa using h2
     unfold nn at h3;split at h3
     .rename_i id2 key2 hkey2;have hok2:=D8 hkey2;split at h3
      .rename_i ka2 va2 es ft hob;split at h3
       .rename_i hkv;obtain⟨rfl,rfl⟩:=hkv
        -- what is laid anew
        have hu:∃es' clock',u3=[(id2,some (.map ka2 va2 es' clock'))]/\(es'=es\/es'=es++[(key2,cF z,ft)]):=by
         split at h3
         .split at h3
          .obtain ⟨_,rfl,_⟩:=(by simpa using h3:_/\_/\_)
           exact⟨_,_,rfl,.inl rfl⟩
          .simp at h3
         .split at h3
          .obtain ⟨_,rfl,_⟩:=(by simpa using h3:_/\_/\_)
           exact⟨_,_,rfl,.inr rfl⟩
          .simp at h3
         .simp at h3
        obtain⟨es',clock',rfl,hes⟩:=hu;obtain rfl:id=id2:=by simpa using ht
        have hl2:aB ([(id,some (Ob.map ka2 va2 es' clock'))]++H) id=some (.map ka2 va2 es' clock'):=by rw[gK,bT,if_pos rfl]
        rw[hs]at hob;unfold iC at h1|-;split at h1
        .split at h1
         .simp at h1
         .simp at h1
        .rename_i id1 key1 hkey1;have hok1:=D8 hkey1
         have hid:id1=id:=by
          repeat' split at h1
          all_goals first
           |(simp at h1;done)
           |(obtain⟨_,h4⟩:=ad (aa h1);simpa using h4)
         subst hid;simp only[hob,hl2,and_self,if_true]at h1|-;rcases hes with rfl|rfl
         .exact h1
         .rw [Js];split at h1
          .rename_i j hf;have hlt:=Mq hf;rw[bL]at hlt;simp only[hf];have e1:(es++[(key2,cF z,ft)]).getD j default=es.getD j default:=by simp only[cI];rw[List.getElem?_append_left hlt]
           rw[e1];exact h1
          .rename_i hf;simp only[hf];obtain⟨r,hr⟩:=LK hok1 hok2;simp only[hr];cases r with
           |false=>exact h1
           |true=>
            have e1:(es++[(key2,cF z,ft)]).getD (0+es.length) default=(key2,cF z,ft):=by simp[cI]
            simp only[e1];exact h1
          .simp at h1
        .simp at h1
       .simp at h3
      .simp at h3
     .simp at h3
    .simp at h2
   split at h1
   .rename_i v1 ids1 hl;obtain⟨rfl,rfl,rfl,rfl⟩:v1=v/\[]=u/\ids1=[id]/\nx1=n:=by simpa using h1
    rw[key hl]
   .simp at h1
 .simp at hk
abbrev G3:=Option (TV×fF×List Nat×Nat)
def GA:G3->Option TV
 |some (v,_)=>some v
 |none=>some (.iT [])
def qC:G3->fF
 |some (_,u,_)=>u
 |none=>[]
def pL:G3->List Nat
 |some (_,_,r,_)=>r
 |none=>[]
def AA(call:Call)(aR i:Nat)(o:ol)(e:jP)(h:bF)(f:G3)(e':jP)(h':bF):Prop:=match f with|some (v,u,aA,n)=>kz e o.guard=some true/\cQ call o.k (o.args.map (kU e)) h (aR+iW*i)=some (v,u,aA,n)/\n<=aR+iW*(i+1)/\e'=put e o.dst v/\h'=u++h|none=>kz e o.guard=some false/\e'=drop e o.dst/\h'=h
theorem Eu{calls:Nat->Call}{aR:Nat}:∀(l:List ol)(i:Nat)(e:jP)(h:bF)(e':jP)(h':bF)(tr:List (List Nat×List Nat)),nr calls aR l i e h=some (e',h',tr)->
  ∃(E:Nat->jP)(Hp:Nat->bF)(ef:Nat->G3),E 0=e/\Hp 0=h/\E l.length=e'/\Hp l.length=h'/\
   ∀(k:Nat)(o:ol),l[k]?=some o->AA (calls (i+k)) aR (i+k) o (E k) (Hp k) (ef k) (E (k+1)) (Hp (k+1))/\tr[k]?=some (pL (ef k),(qC (ef k)).map (·.1)):=by
 intro l;induction l with
 |nil=>
  intro i e h e' h' tr hh;obtain⟨rfl,rfl,rfl⟩:e=e'/\h=h'/\[]=tr:=by simpa[nr]using hh
  exact⟨fun _=>e,fun _=>h,fun _=>none,rfl,rfl,rfl,rfl,fun k o hk=>by simp at hk⟩
 |cons o r ih=>
  intro i e h e' h' tr hh;simp only[nr]at hh
  have fin:∀(f:G3)(e1:jP)(h1:bF)(tr1:List (List Nat×List Nat)),nr calls aR r (i+1) e1 h1=some (e',h',tr1)->AA (calls i) aR i o e h f e1 h1->tr=(pL f,(qC f).map (·.1))::tr1->
    ∃(E:Nat->jP)(Hp:Nat->bF)(ef:Nat->G3),E 0=e/\Hp 0=h/\E (o::r).length=e'/\Hp (o::r).length=h'/\
     ∀(k:Nat)(o':ol),(o::r)[k]?=some o'->AA (calls (i+k)) aR (i+k) o' (E k) (Hp k) (ef k) (E (k+1)) (Hp (k+1))/\tr[k]?=some (pL (ef k),(qC (ef k)).map (·.1)):=by
   intro f e1 h1 tr1 hrun hs htr;obtain⟨E,Hp,ef,a1,a2,a3,a4,a5⟩:=ih (i+1) e1 h1 e' h' tr1 hrun;refine⟨fun k=>match k with|0=>e|k+1=>E k,fun k=>match k with|0=>h|k+1=>Hp k,fun k=>match k with|0=>f|k+1=>ef k,rfl,rfl,a3,a4,fun k o' hk=>?_⟩;subst htr;cases k with
   |zero=>
    obtain rfl:o=o':=by simpa using hk
    refine⟨?_,by simp⟩;simp only[dT,a1,a2];exact hs
   |succ k=>have:=a5 k o' (by simpa using hk);rw[show i+1+k=i+(k+1)by omega]at this;exact⟨this.1,by simpa using this.2⟩
  split at hh
  .rename_i hw;split at hh
   .rename_i v u aA n hev;split at hh
    .rename_i hn;split at hh
     .rename_i e1 h1 tr1 hrun;obtain⟨rfl,rfl,rfl⟩:e1=e'/\h1=h'/\_=tr:=by simpa using hh
      exact fin (some (v,u,aA,n)) _ _ tr1 hrun ⟨hw,hev,hn,rfl,rfl⟩ rfl
     .simp at hh
    .simp at hh
   .simp at hh
  .rename_i hw;split at hh
   .rename_i e1 h1 tr1 hrun;obtain⟨rfl,rfl,rfl⟩:e1=e'/\h1=h'/\_=tr:=by simpa using hh
    exact fin none _ _ tr1 hrun ⟨hw,rfl,rfl⟩ rfl
   .simp at hh
  .simp at hh
section
variable(dst:Nat->Option Nat)(ef:Nat->G3)(D:Nat->Bool)(e0:Nat->Option TV)(h0:Nat->Option Ob)
def oT:Nat->Nat->Option TV
 |0,t=>e0 t
 |k+1,t=>if D k=true/\dst k=some t then GA (ef k)else oT k t
def jO:Nat->Nat->Option Ob
 |0,i=>h0 i
 |k+1,i=>if D k=true then(match cA (qC (ef k)) i with|some o=>o|none=>jO k i)else jO k i
end
def u5(ef:Nat->G3)(k id:Nat):Prop:=id∈(qC (ef k)).map (·.1)
theorem tX{α:Type}{u:List (Nat×α)}{id:Nat}(h:id∉u.map (·.1)):cA u id=none:=by
 induction u with
 |nil=>rfl
 |cons p r ih=>
  obtain⟨i,x⟩:=p;simp only[aD,aN,not_or]at h;have:(i==id)=false:=by simpa using fun e:i=id=>h.1 e.symm
  simp[cA,this,ih h.2]
theorem Mf{α:Type}{u:List (Nat×α)}{id:Nat}(h:id∈u.map (·.1)):∃x,cA u id=some x:=by
 induction u with
 |nil=>simp at h
 |cons p r ih=>
  obtain⟨i,x⟩:=p;by_cases e:i=id
  .exact ⟨x,by simp[cA,e]⟩
  .have e':(i==id)=false:=by simpa using e
   simp only[aD,aN]at h;rcases h with h|h
   .exact absurd h.symm e
   .simpa [cA,e']using ih h
section
variable{dst:Nat->Option Nat}{ef:Nat->G3}{D D':Nat->Bool}{E:Nat->jP}{Hp:Nat->bF}
theorem Cl{n i t:Nat}(hstep:∀k,k<n->∀t,cA (E (k+1)) t=if dst k=some t then GA (ef k)else cA (E k) t)(hi:i<=n)
  (h1:∀k,k<i->dst k=some t->D k=true) (h2:∀k,i<=k->k<n->dst k=some t->D k=false):oT dst ef D (cA (E 0)) n t=cA (E i) t:=by
 have a:∀k,k<=i->oT dst ef D (cA (E 0)) k t=cA (E k) t:=by
  intro k;induction k with
  |zero=>intro _;rfl
  |succ k ih=>
   intro hk;rw[oT,hstep k (by omega)];by_cases hd:dst k=some t
   .rw [if_pos ⟨h1 k (by omega) hd,hd⟩,if_pos hd]
   .rw [if_neg (fun h=>hd h.2),if_neg hd,ih (by omega)]
 have b:∀d,i+d<=n->oT dst ef D (cA (E 0)) (i+d) t=cA (E i) t:=by intro d;induction d with|zero=>intro _;exact a i (au _)|succ d ih=>intro hd;rw[<-cP,oT,if_neg,ih (by omega)];rintro⟨hD,hdst⟩;rw[h2 (i+d) (by omega) (by omega) hdst]at hD;simp at hD
 have:=b (n-i) (by omega);rwa[jU hi]at this
theorem zh{n i id:Nat}(hstep:∀k,k<n->∀id,aB (Hp (k+1)) id=match cA (qC (ef k)) id with|some o=>o|none=>aB (Hp k) id)(hi:i<=n)
  (h1:∀k,k<i->u5 ef k id->D k=true) (h2:∀k,i<=k->k<n->u5 ef k id->D k=false):jO ef D (aB (Hp 0)) n id=aB (Hp i) id:=by
 have a:∀k,k<=i->jO ef D (aB (Hp 0)) k id=aB (Hp k) id:=by
  intro k;induction k with
  |zero=>intro _;rfl
  |succ k ih=>
   intro hk;rw[jO,hstep k (by omega),ih (by omega)];by_cases ht:u5 ef k id
   .rw [if_pos (h1 k (by omega) ht)]
   .rw [tX ht];simp
 have b:∀d,i+d<=n->jO ef D (aB (Hp 0)) (i+d) id=aB (Hp i) id:=by
  intro d;induction d with
  |zero=>intro _;exact a i (au _)
  |succ d ih=>
   intro hd;rw[<-cP,jO,ih (by omega)];by_cases ht:u5 ef (i+d) id
   .rw [if_neg (by simp[h2 (i+d) (by omega) (by omega) ht])]
   .rw [tX ht];simp
 have:=b (n-i) (by omega);rwa[jU hi]at this
theorem Mv{e0:Nat->Option TV}{n i t:Nat}(hi:i<n)(hD:∀k,k≠i->D' k=D k)(hDi:D' i=true)(hDi0:D i=false)
  (h:dst i=some t->∀k,i<k->k<n->D k=true->dst k≠some t):
  oT dst ef D' e0 n t=if dst i=some t then GA (ef i)else oT dst ef D e0 n t:=by
 have a:∀k,k<=i->oT dst ef D' e0 k t=oT dst ef D e0 k t:=by intro k;induction k with|zero=>intro _;rfl|succ k ih=>intro hk;rw[oT,oT,hD k (by omega),ih (by omega)]
 have b:∀d,i+1+d<=n->oT dst ef D' e0 (i+1+d) t=if dst i=some t then GA (ef i)else oT dst ef D e0 (i+1+d) t:=by
  intro d;induction d with
  |zero=>intro _;show oT dst ef D' e0 (i+1) t=if dst i=some t then GA (ef i)else oT dst ef D e0 (i+1) t;rw[oT,oT,hDi,hDi0,a i (au _)];simp
  |succ d ih=>
   intro hd;rw[<-cP,oT,oT,hD (i+1+d) (by omega),ih (by omega)];by_cases hc:D (i+1+d)=true/\dst (i+1+d)=some t
   .rw [if_pos hc,if_pos hc,if_neg];intro hdi;exact h hdi (i+1+d) (by omega) (by omega) hc.1 hc.2
   .rw [if_neg hc,if_neg hc]
 have:=b (n-(i+1)) (by omega);rwa[jU (by omega)]at this
theorem Jm{h0:Nat->Option Ob}{n i id:Nat}(hi:i<n)(hD:∀k,k≠i->D' k=D k)(hDi:D' i=true)(hDi0:D i=false)
  (h:u5 ef i id->∀k,i<k->k<n->D k=true->¬u5 ef k id):
  jO ef D' h0 n id=match cA (qC (ef i)) id with|some o=>o|none=>jO ef D h0 n id:=by
 have a:∀k,k<=i->jO ef D' h0 k id=jO ef D h0 k id:=by intro k;induction k with|zero=>intro _;rfl|succ k ih=>intro hk;rw[jO,jO,hD k (by omega),ih (by omega)]
 have b:∀d,i+1+d<=n->jO ef D' h0 (i+1+d) id=match cA (qC (ef i)) id with|some o=>o|none=>jO ef D h0 (i+1+d) id:=by
  intro d;induction d with
  |zero=>
   intro _;show jO ef D' h0 (i+1) id=match cA (qC (ef i)) id with|some o=>o|none=>jO ef D h0 (i+1) id
   rw[jO,jO,hDi,hDi0,a i (au _)];simp
  |succ d ih=>
   intro hd;rw[<-cP,jO,jO,hD (i+1+d) (by omega),ih (by omega)];by_cases ht:u5 ef i id
   .by_cases hc:D (i+1+d)=true
    .rw [tX (h ht (i+1+d) (by omega) (by omega) hc)];simp
    .rw [if_neg hc,if_neg hc]
   .rw [tX ht]
 have:=b (n-(i+1)) (by omega);rwa[jU (by omega)]at this
end
section
variable{P:Program}{S K:Nat->Prop}{w0 w:World}{Kn:Nat->Prop}{φ:Nat->gO}{gv:List Value}{nt:Nat}{a:Act}{call:Call}{calls:Nat->Call}{df:AB}{s s':St}
 {ops:Array Oper} {l:List ol} {m:List Nat} {aR:Nat} {E:Nat->jP} {Hp:Nat->bF} {ef:Nat->G3}
def rb(l:List ol)(k:Nat):Option Nat:=(l[k]?).bind (·.dst)
def PO(calls:Nat->Call)(l:List ol)(aR:Nat)(E:Nat->jP)(Hp:Nat->bF)(ef:Nat->G3)(i j:Nat):Prop:=∃c v u id n,l[i]?=some c/\ef i=some (v,u,[id],n)/\cQ (calls i) c.k (c.args.map (kU (E i))) (qC (ef j)++Hp i) (aR+iW*i)=some (v,u,[id],n)
structure EW(P:Program)(df:AB)(nt:Nat)(calls:Nat->Call)(ops:Array Oper)(l:List ol)(m:List Nat)(aR:Nat)(E:Nat->jP)(Hp:Nat->bF)(ef:Nat->G3):Prop where
 len:l.length=ops.size
 Vv:∀(k:Nat)(o:Oper),ops[k]?=some o->l[k]?=some (gE P df nt ops o)
 kM:∀(k:Nat)(c:ol),l[k]?=some c->AA (calls k) aR k c (E k) (Hp k) (ef k) (E (k+1)) (Hp (k+1))
 Uc:∀(k:Nat)(o:Oper),ops[k]?=some o->(∀j,ff m j k=true->∃e∈o.after,Region.binds .any e=true/\(e.on=j\/ff m j e.on=true))/\∀e∈o.after,Region.binds .any e=true->e.on<k
 UY:∀(i j:Nat)(a b:ol),l[i]?=some a->l[j]?=some b->i<j->ff m i j=true\/zD a b=false
 U3:∀(i j:Nat),i<j->j<ops.size->ff m i j=true\/((∀id,u5 ef i id->id∉pL (ef j)/\¬u5 ef j id)/\((∀id,u5 ef j id->id∉pL (ef i))\/PO calls l aR E Hp ef i j))
theorem AA.dH{i:Nat}{o:ol}{e e':jP}{h h':bF}{f:G3}(hs:AA call aR i o e h f e' h')(t:Nat):cA e' t=if o.dst=some t then GA f else cA e t:=by cases f with|none=>obtain⟨_,rfl,_⟩:=hs;rw[zo];rfl|some p=>obtain⟨v,u,r,n⟩:=p;obtain⟨_,_,_,rfl,_⟩:=hs;rw[lH];rfl
theorem AA.heap{i:Nat}{o:ol}{e e':jP}{h h':bF}{f:G3}(hs:AA call aR i o e h f e' h')(id:Nat):aB h' id=match cA (qC f) id with|some o=>o|none=>aB h id:=by cases f with|none=>obtain⟨_,_,rfl⟩:=hs;rfl|some p=>obtain⟨v,u,r,n⟩:=p;obtain⟨_,_,_,_,rfl⟩:=hs;rw[gK];rfl
theorem N7{e':jP}{h':bF}{e:jP}{h:bF}{tr:List (List Nat×List Nat)}(hl:l=ops.toList.map (gE P df nt ops))(hord:yM m ops.toList 0=true)(hsch:yq m l 0=true)
  (hev:nr calls aR l 0 e h=some (e',h',tr)) (hdyn:Bo tr (tg m l 0)=true) (hsmall:l.length<=1000):
  ∃E Hp ef,EW P df nt calls ops l m aR E Hp ef/\E 0=e/\Hp 0=h/\E ops.size=e'/\Hp ops.size=h':=by
 obtain⟨E,Hp,ef,h1,h2,h3,h4,h5⟩:=Eu l 0 e h e' h' tr hev;have hlen:l.length=ops.size:=by rw[hl];simp
 refine⟨E,Hp,ef,⟨hlen,?_,?_,?_,?_,?_⟩,h1,h2,hlen▸h3,hlen▸h4⟩
 .intro k o hk;rw[hl,aH,a_,hk];rfl
 .intro k c hk;have:=(h5 k c hk).1;rwa[bL]at this
 .intro k o hk;have:=FS hord k o (by rw[a_];exact hk);rwa[bL]at this
 .intro i j a b ha hb hij;have:=Fu hsch i j a b ha hb hij;rwa[bL,bL]at this
 .intro i j hij hj;have hi':i<l.length:=by omega
  have hj':j<l.length:=by omega
  obtain⟨a,ha⟩:∃a,l[i]?=some a:=⟨_,aw hi'⟩
  obtain⟨b,hb⟩:∃b,l[j]?=some b:=⟨_,aw hj'⟩
  have sa:=h5 i a ha;have sb:=h5 j b hb;have noU:∀(k:Nat)(c:ol),AA (calls (0+k)) aR (0+k) c (E k) (Hp k) (ef k) (E (k+1)) (Hp (k+1))->zW c.k<=1->∀id,¬u5 ef k id:=by intro k c hs hc id ht;unfold u5 at ht;generalize hf:ef k=f at hs ht;cases f with|none=>simp[qC]at ht|some p=>obtain⟨v,u,r,n⟩:=p;obtain⟨_,hev1,_⟩:=hs;rw[show qC (some (v,u,r,n))=u from rfl,LJ hc hev1]at ht;simp at ht
  have noR:∀(k:Nat)(c:ol),AA (calls (0+k)) aR (0+k) c (E k) (Hp k) (ef k) (E (k+1)) (Hp (k+1))->zW c.k=0->∀id,id∉pL (ef k):=by intro k c hs hc id ht;generalize hf:ef k=f at hs ht;cases f with|none=>simp[pL]at ht|some p=>obtain⟨v,u,r,n⟩:=p;obtain⟨_,hev1,_⟩:=hs;rw[show pL (some (v,u,r,n))=r from rfl,LI hc hev1]at ht;simp at ht
  rcases Et (m:=m) (i:=0) i j a b ha hb hij with h|h|h|h|h
  .rw [bL,bL]at h;exact .inl h
  .exact .inr ⟨fun id ht=>absurd ht (noU i a sa.1 (by omega) id),.inl fun id _=>noR i a sa.1 h id⟩
  .exact .inr ⟨fun id _=>⟨noR j b sb.1 h id,noU j b sb.1 (by omega) id⟩,.inl fun id ht=>absurd ht (noU j b sb.1 (by omega) id)⟩
  .by_cases ea:zW a.k<=1
   .by_cases eb:zW b.k<=1
    .exact .inr ⟨fun id ht=>absurd ht (noU i a sa.1 ea id),.inl fun id ht=>absurd ht (noU j b sb.1 eb id)⟩
    .have:zW a.k=0:=by omega
     exact .inr ⟨fun id ht=>absurd ht (noU i a sa.1 (by omega) id),.inl fun id _=>noR i a sa.1 this id⟩
   .have:zW b.k=0:=by omega
    exact .inr ⟨fun id _=>⟨noR j b sb.1 this id,noU j b sb.1 (by omega) id⟩,.inl fun id ht=>absurd ht (noU j b sb.1 (by omega) id)⟩
  .rw [bL,bL]at h
   have hapart:mj (pL (ef i),(qC (ef i)).map (·.1)) (pL (ef j),(qC (ef j)).map (·.1))=true->
     (∀id,u5 ef i id->id∉pL (ef j)/\¬u5 ef j id)/\((∀id,u5 ef j id->id∉pL (ef i))\/PO calls l aR E Hp ef i j):=by
    intro this;simp only[mj,ai,bd,Bool.not_eq_true',List.contains_eq_mem,decide_eq_false_iff_not]at this;exact⟨fun id ht=>⟨(this.1 id ht).1,(this.1 id ht).2⟩,.inl fun id ht=>this.2 id ht⟩
   have hd:=bd.1 hdyn _ h;by_cases hso:AK a.k b.k=true
   .rw [if_pos hso]at hd;simp only at hd;rw[if_pos (by omega),show 1000+j-1000=j by omega]at hd;simp only[Fo,sa.2,sb.2,cM]at hd;rcases hd with hd|hd
    .exact .inr (hapart hd)
    .right;split at hd
     .rename_i id hab;obtain⟨hR,hU⟩:=ad hab;refine⟨fun id ht=>by unfold u5 at ht;rw[hU]at ht;simp at ht,?_⟩;by_cases htj:u5 ef j id
      .right
       -- nobody between lays that object anew
       have hsame:∀k,i<=k->k<=j->aB (Hp k) id=aB (Hp i) id:=by
        intro k hk;induction k with
        |zero=>intro _;rw[show i=0 by omega]
        |succ k ih=>
         intro hkj;by_cases e:i=k+1
         .rw [e]
         .have hik:i<=k:=by omega
          rw[<-ih hik (by omega)];obtain⟨c,hc⟩:∃c,l[k]?=some c:=⟨_,aw (by omega)⟩
          have sk:=h5 k c hc;rw[sk.1.heap id]
          have hn:id∉(qC (ef k)).map (·.1):=by
           by_cases e2:k=i
           .subst e2;rw[hU];simp
           .have hm:(pL (ef k),(qC (ef k)).map (·.1))∈(tr.take j).drop (i+1):=by refine aX (i:=k-(i+1)) ?_;rw[List.getElem?_drop,show i+1+(k-(i+1))=k by omega,List.getElem?_take,if_pos (by omega)];exact sk.2
            have:=bd.1 hd _ hm;simpa using this
          rw[tX hn]
       have sai:=sa.1;have sbj:=sb.1;generalize hfi:ef i=fi at sai hR hU;generalize hfj:ef j=fj at sbj;cases fi with
       |none=>simp[pL]at hR
       |some p=>obtain⟨v,u,aA,n⟩:=p;obtain rfl:aA=[id]:=hR;cases fj with|none=>unfold u5 at htj;rw[hfj]at htj;simp[qC]at htj|some q=>obtain⟨v2,u2,ids2,n2⟩:=q;unfold u5 at htj;rw[hfj]at htj;obtain⟨_,hev1,_⟩:=sai;obtain⟨_,hev2,_⟩:=sbj;rw[bL]at hev1 hev2;exact⟨a,v,u,id,n,ha,hfi,by rw[hfj];exact Ir hso hev1 hev2 (hsame j (by omega) (au _)) htj⟩
      .left;intro id2 ht2;rw[hR];simp only[ao];rintro rfl;exact htj ht2
     .simp at hd
   .rw [if_neg hso]at hd;simp only at hd;rw[if_neg (by omega)]at hd;simp only[sa.2,sb.2]at hd;exact .inr (hapart hd)
def zT(ops:Array Oper)(D:Nat->Bool):Prop:=∀(k:Nat)(o:Oper),ops[k]?=some o->D k=true->∀e∈o.after,Region.binds .any e=true->D e.on=true
theorem EW.MU(hp:EW P df nt calls ops l m aR E Hp ef){D:Nat->Bool}(hc:zT ops D){i:Nat}:∀(N j:Nat),j<N->j<ops.size->D j=true->ff m i j=true->D i=true:=by
 intro N;induction N with
 |zero=>intro j hj;omega
 |succ N ih=>
  intro j hj hjn hD hb;have ho:ops[j]?=some ops[j]:=gR hjn;obtain⟨h1,h2⟩:=hp.Uc j _ ho;obtain⟨e,he,hbd,h⟩:=h1 i hb;have hDe:=hc j _ ho hD e he hbd;rcases h with h|h
  .rw [<-h];exact hDe
  .have:=h2 e he hbd;exact ih e.on (by omega) (by omega) hDe h
theorem EW.Sa(hp:EW P df nt calls ops l m aR E Hp ef){D:Nat->Bool}(hc:zT ops D){i j:Nat}{o:Oper}(hi:ops[i]?=some o)(hall:∀e∈o.after,Region.binds .any e=true->D e.on=true)
  (hb:ff m j i=true):D j=true:=by
 obtain⟨h1,h2⟩:=hp.Uc i _ hi;obtain⟨e,he,hbd,h⟩:=h1 j hb;have hDe:=hall e he hbd;rcases h with h|h
 .rw [<-h];exact hDe
 .have:=h2 e he hbd;have hlt:i<ops.size:=(bi.1 hi).1;exact hp.MU hc (e.on+1) e.on (by omega) (by omega) hDe h
theorem HG{d:Option Nat}{l:List Nat}{t:Nat}(hd:d=some t)(h:t∈l):Jk d l=true:=by subst hd;simpa[Jk]using h
theorem EW.T8(hp:EW P df nt calls ops l m aR E Hp ef){D:Nat->Bool}(hc:zT ops D){i:Nat}{o:Oper}{c:ol}(hi:ops[i]?=some o)(hci:l[i]?=some c)(hD:D i=false)
  (hall:∀e∈o.after,Region.binds .any e=true->D e.on=true):
  (∀t∈F6 c,oT (rb l) ef D (cA (E 0)) ops.size t=cA (E i) t)/\(∃G,(∀id∈pL (ef i),jO ef D (aB (Hp 0)) ops.size id=aB G id)/\∀v u aA n,ef i=some (v,u,aA,n)->cQ (calls i) c.k (c.args.map (kU (E i))) G (aR+iW*i)=some (v,u,aA,n))/\
  (∀t,c.dst=some t->∀k,i<k->k<ops.size->D k=true->rb l k≠some t)/\(∀id,u5 ef i id->∀k,i<k->k<ops.size->D k=true->¬u5 ef k id):=by
 have hlt:i<ops.size:=(bi.1 hi).1;have get:∀k,k<ops.size->∃b,l[k]?=some b:=fun k hk=>⟨_,aw (by rw[hp.len];exact hk)⟩;have lat:∀k,i<k->k<ops.size->ff m i k=true->D k=false:=by intro k _ hk hb;cases hDk:D k with|false=>rfl|true=>rw[hp.MU hc (k+1) k (by omega) hk hDk hb]at hD;simp at hD
 refine⟨fun t ht=>?_,?_,fun t ht k hik hk hDk hdk=>?_,fun id ht k hik hk hDk htk=>?_⟩
 .refine Cl (fun k hk t=>?_) (Nat.le_of_lt hlt) (fun k hk hd=>?_) (fun k hik hk hd=>?_)
  .obtain ⟨b,hb⟩:=get k hk;have:=(hp.kM k b hb).dH t;rw[this];simp[rb,hb]
  .obtain ⟨b,hb⟩:=get k (by omega);have hbd:b.dst=some t:=by simpa[rb,hb]using hd
   rcases hp.UY k i b c hb hci hk with h|h
   .exact hp.Sa hc hi hall h
   .simp [zD,HG hbd ht]at h
  .rcases fo i k with h1|h1
   .obtain ⟨b,hb⟩:=get k (by omega);have hbd:b.dst=some t:=by simpa[rb,hb]using hd
    rcases hp.UY i k c b hci hb h1 with h|h
    .exact lat k h1 hk h
    .simp [zD,HG hbd ht]at h
   .obtain rfl:k=i:=by omega
    exact hD
 .have hev:∀v u aA n,ef i=some (v,u,aA,n)->cQ (calls i) c.k (c.args.map (kU (E i))) (Hp i) (aR+iW*i)=some (v,u,aA,n):=by intro v u aA n hf;have hs:=hp.kM i c hci;rw[hf]at hs;exact hs.2.1
  by_cases hsoft:∃k,i<k/\k<ops.size/\D k=true/\∃id∈pL (ef i),u5 ef k id
  .--the Vt of those that came ahead
   obtain⟨k,⟨hik,hk,hDk,id0,hid0,ht0⟩,hmax⟩:∃k,(i<k/\k<ops.size/\D k=true/\∃id∈pL (ef i),u5 ef k id)/\∀k',k<k'->¬(i<k'/\k'<ops.size/\D k'=true/\∃id∈pL (ef i),u5 ef k' id):=by
    have:∀(N:Nat)(k:Nat),ops.size-k<=N->(i<k/\k<ops.size/\D k=true/\∃id∈pL (ef i),u5 ef k id)->
      ∃k,(i<k/\k<ops.size/\D k=true/\∃id∈pL (ef i),u5 ef k id)/\∀k',k<k'->¬(i<k'/\k'<ops.size/\D k'=true/\∃id∈pL (ef i),u5 ef k' id):=by
     intro N;induction N with
     |zero=>intro k h1 h2;omega
     |succ N ihN=>
      intro k h1 h2;by_cases hm:∃k',k<k'/\(i<k'/\k'<ops.size/\D k'=true/\∃id∈pL (ef i),u5 ef k' id)
      .obtain ⟨k',h3,h4⟩:=hm;exact ihN k' (by omega) h4
      .exact ⟨k,h2,fun k' h3 h4=>hm ⟨k',h3,h4⟩⟩
    obtain⟨k,h⟩:=hsoft;exact this _ k (au _) h
   rcases hp.U3 i k hik hk with h|⟨_,h|h⟩
   .rw [lat k hik hk h]at hDk;simp at hDk
   .exact absurd hid0 (h id0 ht0)
   .obtain ⟨c',v,u,id,n,hc',hf,hev'⟩:=h;obtain rfl:c=c':=aa (hci.symm.trans hc');have hR:pL (ef i)=[id]:=by rw[hf];rfl
    refine⟨qC (ef k)++Hp i,fun id' hid'=>?_,fun v' u' ids' n' hf'=>?_⟩
    .obtain rfl:id'=id:=by rw[hR]at hid';simpa using hid'
     obtain rfl:id0=id':=by rw[hR]at hid0;simpa using hid0
     obtain⟨x,hx⟩:=Mf ht0
     have hlast:∀n',k<n'->n'<=ops.size->jO ef D (aB (Hp 0)) n' id0=x:=by
      intro n' hkn;induction n' with
      |zero=>omega
      |succ n' ihn=>
       intro hn';simp only[jO];by_cases e:n'=k
       .subst e;rw[hx];simp[hDk]
       .have hno:¬(D n'=true/\u5 ef n' id0):=fun hh=>hmax n' (by omega) ⟨by omega,by omega,hh.1,id0,hid',hh.2⟩;have:=ihn (by omega) (by omega);cases hDn:D n' with|false=>simpa[hDn]using this|true=>have hnt:¬u5 ef n' id0:=fun h=>hno ⟨hDn,h⟩;rw[tX hnt];simpa[hDn]using this
     rw[hlast ops.size hk (au _),gK];simp only[bm,hx]
    .rw [hf]at hf';obtain⟨rfl,rfl,rfl,rfl⟩:v=v'/\u=u'/\[id]=ids'/\n=n':=by simpa using hf'
     exact hev'
  .refine ⟨Hp i,fun id hid=>?_,hev⟩;refine zh (fun k hk id=>?_) (Nat.le_of_lt hlt) (fun k hk hd=>?_) (fun k hik hk hd=>?_)
   .obtain ⟨b,hb⟩:=get k hk;exact(hp.kM k b hb).heap id
   .rcases hp.U3 k i hk hlt with h|h
    .exact hp.Sa hc hi hall h
    .exact absurd hid (h.1 id hd).1
   .rcases fo i k with h1|h1
    .cases hDk:D k with|false=>rfl|true=>exact absurd ⟨k,h1,hk,hDk,id,hid,hd⟩ hsoft
    .obtain rfl:k=i:=by omega
     exact hD
 .obtain ⟨b,hb⟩:=get k hk;have hbd:b.dst=some t:=by simpa[rb,hb]using hdk
  rcases hp.UY i k c b hci hb hik with h|h
  .rw [lat k hik hk h]at hDk;simp at hDk
  .simp [zD,ht,hbd,Jk]at h
 .rcases hp.U3 i k hik hk with h|h
  .rw [lat k hik hk h]at hDk;simp at hDk
  .exact absurd htk (h.1 id ht).2
def JN(D:Nat->Bool):Nat->Nat
 |0=>0
 |k+1=>JN D k+if D k=true then 0 else 1
theorem OV{D D':Nat->Bool}{i:Nat}(hD:∀k,k≠i->D' k=D k)(h1:D' i=true)(h0:D i=false):∀n,i<n->JN D' n+1=JN D n:=by
 have a:∀k,k<=i->JN D' k=JN D k:=by intro k;induction k with|zero=>intro _;rfl|succ k ih=>intro hk;simp only[JN];rw[ih (by omega),hD k (by omega)]
 intro n;induction n with
 |zero=>intro h;omega
 |succ n ih=>
  intro h;simp only[JN];by_cases e:i=n
  .subst e;rw[a i (au _),h1,h0];simp
  .have:=ih (by omega);rw[hD n (fun h=>e h.symm)];omega
theorem MT{D:Nat->Bool}:∀{n:Nat},JN D n=0->∀k,k<n->D k=true:=by
 intro n;induction n with
 |zero=>intro _ k hk;omega
 |succ n ih=>
  intro h k hk;simp only[JN]at h;by_cases e:k=n
  .subst e;by_cases hd:D k=true
   .exact hd
   .simp [hd]at h
  .exact ih (by omega) k (by omega)
theorem OU(n:Nat):JN (fun _=>false) n=n:=by induction n with|zero=>rfl|succ n ih=>simp[JN,ih]
theorem CQ{e e':jP}{g:Option (Nat×Bool)}(h:∀t∈(match g with|some (t,_)=>[t]|none=>([]:List Nat)),cA e' t=cA e t):kz e' g=kz e g:=by cases g with|none=>rfl|some p=>obtain⟨t,b⟩:=p;simp only[kz,h t (by simp)]
theorem IR{e e':jP}:∀{args:List Operand},(∀t∈args.filterMap U_,cA e' t=cA e t)->args.map (kU e')=args.map (kU e):=by intro args h;refine List.map_congr_left fun x hx=>?_;cases x with|tmp t=>exact h t (List.mem_filterMap.2 ⟨.tmp t,hx,rfl⟩)|_=>rfl
theorem MC(hok:∀i,ny P (calls i))(hnt:nt<1000000000){Q:Exit->Act->World->Prop}(hp:EW P df nt calls ops l m aR E Hp ef){S0:Nat->Prop}{ws:World}{gh:List C}
  (hQ:∀S' Kn' φ' a' w',hC S0 ws S' w'->G0 S' K w0 Kn' φ' gv nt ⟨E ops.size,Hp ops.size,aR+iW*l.length,gh⟩ a' w'->Q .normal a' w'):
  ∀(fuel:Nat)(listed:Array Bool)(S:Nat->Prop)(Kn:Nat->Prop)(φ:Nat->gO)(a:Act)(w:World)(ec:jP)(hc:bF),
  listed.size=ops.size->JN (fun k=>listed.getD k false) ops.size<=fuel->zT ops (fun k=>listed.getD k false)->
  (∀t,cA ec t=oT (rb l) ef (fun k=>listed.getD k false) (cA (E 0)) ops.size t)->(∀id,aB hc id=jO ef (fun k=>listed.getD k false) (aB (Hp 0)) ops.size id)->
  Inv S K w0 Kn φ (aB hc) w->jP.ok S w Kn φ ec a.tmps->a.tmps.size=nt->a.defers=[]->
  (∀j,Kn j->j<aR\/∃i,i<ops.size/\listed.getD i false=true/\aR+iW*i<=j/\j<aR+iW*(i+1))->
  (∀(i:Nat)(c:C)(v:Value),gh[i]?=some c->gv[i]?=some v->RG S w Kn φ c v)->hC S0 ws S w->wpAny P .any ops Q fuel listed a w:=by
 intro fuel;induction fuel with
 |zero=>
  intro listed S Kn φ a w ec hc hsz hcnt hcl henv hheap hI hE hts hdf hKn hgh hstp;have hall:=MT (Nat.le_zero.1 hcnt);refine⟨?_,?_⟩
  .rw [List.eq_nil_iff_forall_not_mem];intro i hi;obtain⟨h0,o,ho,_⟩:=mem_ready.1 hi;have hlt:i<ops.size:=(bi.1 ho).1;have h2:=hall i hlt;have hlt2:i<listed.size:=by omega
   simp[jM,hlt2]at h0 h2;rw[h0]at h2;simp at h2
  .refine hQ S Kn φ a w hstp ⟨?_,?_,hts,hdf,?_,hgh⟩
   .have:aB hc=aB (Hp ops.size):=by funext id;rw[hheap];refine zh (fun k hk id=>?_) (au _) (fun k hk _=>hall k hk) (fun k h1 h2 _=>by omega);exact(hp.kM k _ (aw (by rw[hp.len];exact hk))).heap id
    rw[<-this];exact hI
   .intro t x hx;refine hE t x ?_;rw[henv,<-hx];refine Cl (fun k hk t=>?_) (au _) (fun k hk _=>hall k hk) (fun k h1 h2 _=>by omega);have hb:l[k]?=some _:=aw (by rw[hp.len];exact hk);have:=(hp.kM k _ hb).dH t;rw[this];simp only[rb,hb,af]
   .intro j hj hk;have hj':aR+iW*l.length<=j:=hj;rw[hp.len]at hj';rcases hKn j hk with h|⟨i,hi,_,h1,h2⟩
    .omega
    .have:iW*(i+1)<=iW*ops.size:=lU _ (by omega);omega
 |succ fuel ih=>
  intro listed S Kn φ a w ec hc hsz hcnt hcl henv hheap hI hE hts hdf hKn hgh hstp
  have fin:(∀k,k<ops.size->listed.getD k false=true)->Q .normal a w:=by
   intro hall;refine hQ S Kn φ a w hstp ⟨?_,?_,hts,hdf,?_,hgh⟩
   .have:aB hc=aB (Hp ops.size):=by funext id;rw[hheap];refine zh (fun k hk id=>?_) (au _) (fun k hk _=>hall k hk) (fun k h1 h2 _=>by omega);exact(hp.kM k _ (aw (by rw[hp.len];exact hk))).heap id
    rw[<-this];exact hI
   .intro t x hx;refine hE t x ?_;rw[henv,<-hx];refine Cl (fun k hk t=>?_) (au _) (fun k hk _=>hall k hk) (fun k h1 h2 _=>by omega);have hb:l[k]?=some _:=aw (by rw[hp.len];exact hk);have:=(hp.kM k _ hb).dH t;rw[this];simp only[rb,hb,af]
   .intro j hj hk;have hj':aR+iW*l.length<=j:=hj;rw[hp.len]at hj';rcases hKn j hk with h|⟨i,hi,_,h1,h2⟩
    .omega
    .have:iW*(i+1)<=iW*ops.size:=lU _ (by omega);omega
  refine⟨fun hnil=>fin ?_,fun i hi=>?_⟩
  .--nothing is ready:all is done
   intro k;induction k using Nat.strongRecOn with
   |_ k ihk=>
    intro hk;cases hd:listed.getD k false with
    |true=>rfl
    |false=>
     exfalso;have ho:ops[k]?=some ops[k]:=gR hk
     have:k∈Region.ready .any ops listed:=by
      rw[mem_ready];refine⟨?_,_,ho,fun e he hbk=>?_⟩
      .have hlt2:k<listed.size:=by omega
       simp[jM,hlt2]at hd|-;exact hd
      .have:=(hp.Uc k _ ho).2 e he hbk;exact ihk e.on this (by omega)
     rw[hnil]at this;simp at this
  .obtain ⟨h0,o,ho,hall⟩:=mem_ready.1 hi;have hlt:i<ops.size:=(bi.1 ho).1;have hlt2:i<listed.size:=by omega
   have hD:listed.getD i false=false:=by simp[jM,hlt2]at h0|-;exact h0
   have hci:=hp.Vv i o ho;have hstep:=hp.kM i _ hci;obtain⟨s1,s2,s3,s4⟩:=hp.T8 (D:=fun k=>listed.getD k false) hcl ho hci hD hall;have hD':∀k,k≠i->(listed.setIfInBounds i true).getD k false=listed.getD k false:=fun k hk=>getD_set_ne false (fun e=>hk e.symm);have hDi:(listed.setIfInBounds i true).getD i false=true:=by simp[hlt2]
   have hcnt':JN (fun k=>(listed.setIfInBounds i true).getD k false) ops.size<=fuel:=by have:=OV (D:=fun k=>listed.getD k false) (D':=fun k=>(listed.setIfInBounds i true).getD k false) hD' hDi hD ops.size hlt;omega
   have hcl':zT ops (fun k=>(listed.setIfInBounds i true).getD k false):=by
    intro k o' ho' hk e he hb;by_cases e1:k=i
    .subst e1;obtain rfl:o=o':=by have:=ho.symm.trans ho';exact aa this
     exact getD_set_true (hall e he hb)
    .have hk':listed.getD k false=true:=by rw[<-hD' k e1];exact hk
     exact getD_set_true (hcl k o' ho' hk' e he hb)
   have hdstD:rb l i=o.dst:=by simp[rb,hci,gE]
   have henv':∀t,oT (rb l) ef (fun k=>(listed.setIfInBounds i true).getD k false) (cA (E 0)) ops.size t=if o.dst=some t then GA (ef i)else cA ec t:=by intro t;rw[Mv (D:=fun k=>listed.getD k false) hlt hD' hDi hD (fun hd=>s3 t (by rw[hdstD]at hd;exact hd)),hdstD,henv t]
   have hheap':∀id,jO ef (fun k=>(listed.setIfInBounds i true).getD k false) (aB (Hp 0)) ops.size id=match cA (qC (ef i)) id with|some o=>o|none=>aB hc id:=by
    intro id;rw[Jm (D:=fun k=>listed.getD k false) hlt hD' hDi hD (fun ht=>s4 id ht),hheap id]
    all_goals(cases cA (qC (ef i)) id<;>rfl)
   have hwe:kz ec (gE P df nt ops o).guard=kz (E i) (gE P df nt ops o).guard:=by refine CQ fun t ht=>?_;rw[henv t];exact s1 t (aG _ ht)
   have hae:(gE P df nt ops o).args.map (kU ec)=(gE P df nt ops o).args.map (kU (E i)):=by refine IR fun t ht=>?_;rw[henv t];exact s1 t (aE _ ht)
   simp only[wpOp,ho];generalize hfe:ef i=f at hstep henv' hheap' s2;cases f with
   |none=>
    obtain⟨hw,_,_⟩:=hstep;rw[<-hwe]at hw;have hwant:=p_ hE (by rw[hts];exact hnt) hw;rw[if_neg (by simp[hwant])];refine ih _ S Kn φ _ w (drop ec o.dst) hc (by simp[hsz]) hcnt' hcl' ?_ ?_ hI (jP.HQ hE) (by rw[vg];exact hts) (by rw[rB];exact hdf) ?_ hgh hstp
    .intro t;rw[henv' t,zo];rfl
    .intro id;rw[hheap' id];rfl
    .intro j hj;rcases hKn j hj with h|⟨k,hk,h1,h2⟩
     .exact .inl h
     .exact .inr ⟨k,hk,getD_set_true h1,h2⟩
   |some p=>
    obtain⟨v,u,aA,n⟩:=p;obtain⟨hw,hev,hn,_,_⟩:=hstep;rw[<-hwe]at hw;obtain⟨G,g1,g2⟩:=s2;have hev3:=g2 v u aA n rfl;rw[<-hae]at hev3;have hev2:=JA (H':=hc) hev3 (fun id hid=>by rw[hheap id];exact g1 id hid);have hwant:=p_ hE (by rw[hts];exact hnt) hw;rw[if_pos hwant];left
    have hdst:∀x,o.dst=some x->x<a.tmps.size:=by
     intro x hx;rw[hts];rcases fo x nt with h1|h1
     .exact h1
     .exfalso;have:(gE P df nt ops o).k=.gx:=by simp only[gE,hx];rw[if_neg (by simp;omega)]
      rw[this,fT]at hev2;simp at hev2
    have hk:xo P df o.op=((gE P df nt ops o).k,(gE P df nt ops o).args):=by
     have:(gE P df nt ops o).k=(xo P df o.op).1:=by simp only[gE];rw[if_pos];cases hd:o.dst with|none=>rfl|some d=>have:=hdst d hd;rw[hts]at this;simpa using this
     rw[this];rfl
    have hfr:∀j,aR+iW*i<=j->j<n->¬Kn j:=by
     intro j h1 h2 hk;rcases hKn j hk with h|⟨k,hkn,h3,h4,h5⟩
     .omega
     .have hne:k≠i:=by rintro rfl;rw[h3]at hD;simp at hD
      rcases fo k i with h6|h6
      .have:iW*(k+1)<=iW*i:=lU _ (by omega);omega
      .have:iW*(i+1)<=iW*k:=lU _ (by omega);omega
    have hgo:=DC (hok i) hk hI hE hfr hev2;refine hgo _ _ fun val w' hDn=>?_;obtain⟨hle,S',φ',h1,h2,h3,h4⟩:=hDn;refine ih _ S' (pn Kn (aR+iW*i) n) φ' _ w' (put ec o.dst v) (u++hc) (by simp[hsz]) hcnt' hcl' ?_ ?_ ?_ (jP.KM hE h1 h2 hdst h3) (by rw[vg];exact hts) (by rw[rB];exact hdf) ?_ ?_ (hstp.trans h1)
    .intro t;rw[henv' t,lH];rfl
    .intro id;rw[hheap' id,gK];rfl
    .rw [gK];exact h4
    .intro j hj;rcases hj with hj|hj
     .rcases hKn j hj with h|⟨k,hk,h1,h2⟩
      .exact .inl h
      .exact .inr ⟨k,hk,getD_set_true h1,h2⟩
     .exact .inr ⟨i,hlt,hDi,hj.1,by omega⟩
    .intro i c v hc hv;exact(hgh i c v hc hv).mono h1 h2
theorem Ew(hok:∀i,ny P (calls i))(hnt:nt<1000000000){Q:Exit->Act->World->Prop}{e':jP}{h':bF}{tr:List (List Nat×List Nat)}(hl:l=ops.toList.map (gE P df nt ops))
  (hord:yM m ops.toList 0=true) (hsch:yq m l 0=true) (hev:nr calls s.next l 0 s.dH s.heap=some (e',h',tr)) (hdyn:Bo tr (tg m l 0)=true) (hsmall:l.length<=1000)
  (hR:G0 S K w0 Kn φ gv nt s a w)
  (hQ:∀S' Kn' φ' a' w',hC S w S' w'->G0 S' K w0 Kn' φ' gv nt ⟨e',h',s.next+iW*l.length,s.gh⟩ a' w'->Q .normal a' w'):
  wpAny P .any ops Q ops.size (Array.replicate ops.size false) a {w with drawn:=w.drawn+1}:=by
 obtain⟨E,Hp,ef,hp,h1,h2,h3,h4⟩:=N7 hl hord hsch hev hdyn hsmall;have hd:∀k,(Array.replicate ops.size false).getD k false=false:=by intro k;simp only[bw,Array.getElem?_replicate];split<;>rfl
 have eQ:hC S w S {w with drawn:=w.drawn+1}:=hC.xD S w _;refine MC (gv:=gv) (K:=K) (w0:=w0) hok hnt hp (S0:=S) (ws:=w) (gh:=s.gh) ?_ ops.size _ S Kn φ a _ s.dH s.heap (by simp) ?_ ?_ ?_ ?_ (hR.inv.xD _ (Nat.le_succ _)) ?_ hR.size hR.defers ?_ ?_ eQ
 .rw [h3,h4];exact hQ
 .simp only[hd,OU];exact au _
 .intro k o _ hk;simp only[hd]at hk;simp at hk
 .intro t;simp only[hd];rw[h1];have:∀k,oT (rb l) ef (fun _=>false) (cA s.dH) k t=cA s.dH t:=by intro k;induction k with|zero=>rfl|succ k ih=>simp[oT,ih]
  exact(this _).symm
 .intro id;simp only[hd];rw[h2];have:∀k,jO ef (fun _=>false) (aB s.heap) k id=aB s.heap id:=by intro k;induction k with|zero=>rfl|succ k ih=>simp[jO,ih]
  exact(this _).symm
 .intro t x hx;exact(hR.dH t x hx).mono eQ (Ren.refl _ _)
 .intro j hj;rcases fo j s.next with h|h
  .exact .inl h
  .exact absurd hj (hR.gM j h)
 .intro i c v hc hv;exact(hR.gh i c v hc hv).mono eQ (Ren.refl _ _)
end
def pY(P:Program)(df:AB)(nt:Nat):Code->CC
 |.skip=>.skip
 |.region _ ops draw=>if draw then wO ops.toList (ops.toList.map (gE P df nt ops)) []else .region (ops.toList.map (gE P df nt ops)) []
 |.seq a b=>.seq (pY P df nt a) (pY P df nt b)
 |.cond c a b=>.cond c (pY P df nt a) (pY P df nt b)
 |.block id a=>.block id (pY P df nt a)
 |.loop a=>.loop [] (pY P df nt a)
 |.scope a=>pY P df nt a
 |.label _=>.skip
 |.exit id=>.exit id
 |.ret=>.ret
 |_=>.gx
def Qk:sn->Exit
 |.normal=>.normal
 |.exit id=>.exit id
 |.ret=>.ret
def Sub(s s1:St):Prop:=∀(S K:Nat->Prop)(w0:World)(Kn:Nat->Prop)(φ:Nat->gO)(gv:List Value)(nt:Nat)(a:Act)(w:World),
 G0 S K w0 Kn φ gv nt s a w->∃S' Kn' φ',hC S w S' w/\G0 S' K w0 Kn' φ' gv nt s1 a w
theorem Sub.refl(s:St):Sub s s:=fun S _ _ Kn φ _ _ _ w h=>⟨S,Kn,φ,hC.refl S w,h⟩
theorem Sub.trans{s s1 s2:St}(a:Sub s s1)(b:Sub s1 s2):Sub s s2:=fun S K w0 Kn φ gv nt ac w h=>
 let⟨S1,Kn1,φ1,h1,h2⟩:=a S K w0 Kn φ gv nt ac w h;let⟨S2,Kn2,φ2,h3,h4⟩:=b S1 K w0 Kn1 φ1 gv nt ac w h2
 ⟨S2,Kn2,φ2,h1.trans h3,h4⟩
def wk(Q:St->Prop)(s:St):Prop:=∃s1,Sub s s1/\Q s1
theorem wk.of{Q:St->Prop}{s:St}(h:Q s):wk Q s:=⟨s,Sub.refl s,h⟩
def WO(P:Program):List ol->St->(St->Prop)->Prop
 |[],s,Q=>wk Q s
 |o::r,s,Q=>∃s1,Sub s s1/\
  ((kz s1.dH o.guard=some true/\∃call v u aA n,ny P call/\cQ call o.k (o.args.map (kU s1.dH)) s1.heap s1.next=some (v,u,aA,n)/\WO P r ⟨put s1.dH o.dst v,u++s1.heap,n,s1.gh⟩ Q)\/
   (kz s1.dH o.guard=some false/\WO P r ⟨drop s1.dH o.dst,s1.heap,s1.next,s1.gh⟩ Q))
def uw(R:St->Prop)(Q:sn->St->Prop):sn->St->Prop
 |.normal,s=>R s
 |.exit id,s=>Q (.exit id) s
 |.ret,s=>Q .ret s
def vS(id:Nat)(Q:sn->St->Prop):sn->St->Prop
 |.exit id',s=>if id'=id then Q .normal s else Q (.exit id') s
 |.normal,s=>Q .normal s
 |.ret,s=>Q .ret s
def W(P:Program):CC->St->(sn->St->Prop)->Prop
 |.skip,s,Q=>wk (Q .normal) s
 |.region ops _,s,Q=>WO P ops s fun s'=>wk (Q .normal) s'
 |.drawn ops dyn _,s,Q=>∃s1,Sub s s1/\∃calls e h tr,(∀i,ny P (calls i))/\nr calls s1.next ops 0 s1.dH s1.heap=some (e,h,tr)/\Bo tr dyn=true/\
   wk (Q .normal) ⟨e,h,s1.next+iW*ops.length,s1.gh⟩
 |.seq a b,s,Q=>W P a s (uw (fun s'=>W P b s' Q) Q)
 |.cond c a b,s0,Q=>∃s,Sub s0 s/\∃t,kU s.dH c=some (.c (.d (.lit (.bool t))))/\(t=true->W P a s Q)/\(t=false->W P b s Q)
 |.block id a,s,Q=>W P a s (vS id Q)
 |.loop _ a,s,Q=>∃(I:Nat->St->Prop)(n:Nat),wk (I n) s/\∀n s,I n s->W P a s (uw (fun s'=>∃m,m<n/\wk (I m) s') Q)
 |.exit id,s,Q=>wk (Q (.exit id)) s
 |.ret,s,Q=>wk (Q .ret) s
 |.gx,_,_=>False
section
variable{P:Program}{S K:Nat->Prop}{w0 w:World}{Kn:Nat->Prop}{φ:Nat->gO}{gv:List Value}{nt:Nat}{a:Act}{df:AB}{s s':St}
theorem Kf{all:Array Oper}{R:Exit->Act->World->Prop}(hnt:nt<1000000000){Q:St->Prop}:∀(l:List Nat)(os:List Oper)(s:St)(S:Nat->Prop)(Kn:Nat->Prop)(φ:Nat->gO)(a:Act)(w:World),
  (∀(i j:Nat),l[i]?=some j->all[j]?=os[i]?)->l.length=os.length->WO P (os.map (gE P df nt all)) s Q->G0 S K w0 Kn φ gv nt s a w->
  (∀S' Kn' φ' s' a' w',Q s'->hC S w S' w'->G0 S' K w0 Kn' φ' gv nt s' a' w'->R .normal a' w')->wpOps P all R l a w:=by
 intro l;induction l with
 |nil=>intro os s S Kn φ a w _ hl h hR hQ;obtain rfl:os=[]:=bc.1 hl.symm;obtain⟨s1,h1,h2⟩:=h;obtain⟨S1,Kn1,φ1,h3,h4⟩:=h1 S K w0 Kn φ gv nt a w hR;exact hQ S1 Kn1 φ1 s1 a w h2 h3 h4
 |cons i l ih=>
  intro os s S Kn φ a w hi hl h hR hQ;cases os with
  |nil=>simp at hl
  |cons o os=>
   have ho:all[i]?=some o:=by simpa using hi 0 i rfl
   simp only[aD,WO]at h;obtain⟨s1,hsub,h⟩:=h;obtain⟨S1,Kn1,φ1,hs1,hR1⟩:=hsub S K w0 Kn φ gv nt a w hR;simp only[wpOps,ho];rcases h with⟨hw,call,v,u,aA,n,hok,hev,h⟩|⟨hw,h⟩
   .have hwant:=p_ hR1.dH (by rw[hR1.size];exact hnt) hw;rw[if_pos hwant];left
    have hdst:∀x,o.dst=some x->x<a.tmps.size:=by
     intro x hx;rw[hR1.size];rcases fo x nt with h1|h1
     .exact h1
     .exfalso;have:(gE P df nt all o).k=.gx:=by simp only[gE,hx];rw[if_neg (by simp;omega)]
      rw[this,fT]at hev;simp at hev
    have hk:xo P df o.op=((gE P df nt all o).k,(gE P df nt all o).args):=by
     have:(gE P df nt all o).k=(xo P df o.op).1:=by simp only[gE];rw[if_pos];cases hd:o.dst with|none=>rfl|some d=>have:=hdst d hd;rw[hR1.size]at this;simpa using this
     rw[this];rfl
    have hgo:=DC hok hk hR1.inv hR1.dH (fun j hj _=>hR1.gM j hj) hev;refine hgo _ _ fun val w' hD=>?_;obtain⟨hle,S',φ',h1,h2,h3,h4⟩:=hD;refine ih os _ S' (pn Kn1 s1.next n) φ' _ w' (fun i' j hj=>hi (i'+1) j (by simpa using hj)) (by simpa using hl) h ⟨?_,?_,?_,?_,?_,?_⟩ fun S2 Kn2 φ2 s2 a2 w2 h0 h5 h6=>hQ S2 Kn2 φ2 s2 a2 w2 h0 ((hs1.trans h1).trans h5) h6
    .simp only[gK];exact h4
    .exact jP.KM hR1.dH h1 h2 hdst h3
    .rw [vg];exact hR1.size
    .rw [rB];exact hR1.defers
    .intro j hj hk;simp only at hj;rcases hk with hk|hk
     .exact hR1.gM j (by omega) hk
     .omega
    .intro i c v hc hv;exact(hR1.gh i c v hc hv).mono h1 h2
   .have hwant:=p_ hR1.dH (by rw[hR1.size];exact hnt) hw;rw[if_neg (by simp[hwant])];refine ih os _ S1 Kn1 φ1 _ w (fun i' j hj=>hi (i'+1) j (by simpa using hj)) (by simpa using hl) h ⟨hR1.inv,?_,?_,?_,hR1.gM,hR1.gh⟩ fun S2 Kn2 φ2 s2 a2 w2 h0 h5 h6=>hQ S2 Kn2 φ2 s2 a2 w2 h0 (hs1.trans h5) h6
    .exact jP.HQ hR1.dH
    .rw [vg];exact hR1.size
    .rw [rB];exact hR1.defers
theorem BH{c:Code}{Q:Exit->Act->World->Prop}(J:Nat->Act->World->Prop)(n:Nat)(h₀:J n a w)
  (l_:∀n a w,J n a w->c.wp P (Exit.then (fun a w=>∃m,m<n/\J m a w) Q) a w):(Code.loop c).wp P Q a w:=by
 intro b k cs
 have key:∀n a w,J n a w->∃e a' w',Q e a' w'/\Arrives P (lone (b.at a (.code c::.inLoop c::k)) cs w) b k cs e a' w':=by
  intro n;induction n using Nat.strongRecOn with
  |_ n ih=>intro a w hJ;obtain⟨e,a₁,w₁,hq,harr⟩:=l_ n a w hJ b (.inLoop c::k) cs;cases e with|normal=>obtain⟨m,hlt,hq⟩:=hq;obtain⟨e₂,a₂,w₂,hq₂,harr₂⟩:=ih m hlt a₁ w₁ hq;exact⟨e₂,a₂,w₂,hq₂,.of_steps (Steps.trans harr (.one step_inLoop)) harr₂⟩|exit id=>exact⟨_,a₁,w₁,hq,.pass (x:=.inLoop c) rfl (fun _ _=>.inl (by simp)) harr⟩|goto l=>exact⟨_,a₁,w₁,hq,.pass (x:=.inLoop c) rfl (fun _ _=>.inl (by simp)) harr⟩|ret=>exact⟨_,a₁,w₁,hq,.pass (x:=.inLoop c) rfl (fun _ _=>.inl (by simp)) harr⟩|panic ch=>exact⟨_,a₁,w₁,hq,.pass (x:=.inLoop c) rfl (fun _ _=>.inl (by simp)) harr⟩|outgrown=>exact⟨_,a₁,w₁,hq,.pass (x:=.inLoop c) rfl (fun _ _=>.inl (by simp)) harr⟩
 obtain⟨e,a',w',hq,harr⟩:=key n a w h₀;exact⟨e,a',w',hq,.of_steps (.one step_loop) harr⟩
def xI(S K:Nat->Prop)(w0 w:World)(gv:List Value)(nt:Nat)(Q:sn->St->Prop)(e:Exit)(a':Act)(w':World):Prop:=∃o s',Q o s'/\e=Qk o/\∃S' Kn' φ',hC S w S' w'/\G0 S' K w0 Kn' φ' gv nt s' a' w'
theorem xI.trans{S':Nat->Prop}{w':World}(h:hC S w S' w'){Q:sn->St->Prop}{e:Exit}{a':Act}{w'':World}(hp:xI S' K w0 w' gv nt Q e a' w''):xI S K w0 w gv nt Q e a' w'':=by obtain⟨o,s',h0,h1,S'',Kn',φ',h2,h3⟩:=hp;exact⟨o,s',h0,h1,S'',Kn',φ',h.trans h2,h3⟩
theorem xI.AZ{Q:sn->St->Prop}{o:sn}{a':Act}{w':World}{S' Kn':Nat->Prop}{φ':Nat->gO}(h:wk (Q o) s')(hs:hC S w S' w')(hR:G0 S' K w0 Kn' φ' gv nt s' a' w'):xI S K w0 w gv nt Q (Qk o) a' w':=by obtain⟨s1,h1,h2⟩:=h;obtain⟨S1,Kn1,φ1,h3,h4⟩:=h1 S' K w0 Kn' φ' gv nt a' w' hR;exact⟨o,s1,h2,rfl,S1,Kn1,φ1,hs.trans h3,h4⟩
theorem GJ(hnt:nt<1000000000)(hm:P.follows .mixedOrders=true):∀(code:Code)(s:St)(Q:sn->St->Prop)(S:Nat->Prop)(Kn:Nat->Prop)(φ:Nat->gO)(a:Act)(w:World),
  W P (pY P df nt code) s Q->G0 S K w0 Kn φ gv nt s a w->code.wp P (xI S K w0 w gv nt Q) a w:=by
 intro code;induction code with
 |skip=>intro s Q S Kn φ a w h hR;exact wp_skip (xI.AZ h (hC.refl _ _) hR)
 |region id ops draw=>
  intro s Q S Kn φ a w h hR;simp only[pY]at h;cases draw with
  |false=>
   simp only[aT,if_false,W]at h;refine wp_region ?_;refine Kf (gv:=gv) (K:=K) (w0:=w0) hnt (List.range ops.size) ops.toList s S Kn φ a w ?_ (by simp) h hR fun S' Kn' φ' s' a' w' h0 h1 h2=>xI.AZ (o:=.normal) h0 h1 h2;intro i j hj;obtain⟨hlt,rfl⟩:i<ops.size/\i=j:=by have:=ak.1 hj;obtain⟨h1,h2⟩:=this;simp at h1 h2;exact⟨h1,h2⟩
   simp
  |true=>
   simp only[if_true]at h;unfold wO at h;simp only at h;split at h
   .rename_i hc;simp only[ai]at hc;simp only[W]at h;obtain⟨s1,hsub,calls,e1,h1,tr,hok,hev,hdyn,hq⟩:=h;obtain⟨S1,Kn1,φ1,hs1,hR1⟩:=hsub S K w0 Kn φ gv nt a w hR;refine wp_region_any hm ?_;exact Ew hok hnt rfl hc.1.1 hc.1.2 hev hdyn (by simpa using hc.2) hR1 fun S' Kn' φ' a' w' h1 h2=>xI.AZ (o:=.normal) hq (hs1.trans h1) h2
   .simp [W]at h
 |seq x y ihx ihy=>intro s Q S Kn φ a w h hR;simp only[pY,W]at h;refine wp_seq ?_;refine wp_mono (ihx s _ S Kn φ a w h hR) fun e a' w' hp=>?_;obtain⟨o,s',h0,rfl,S',Kn',φ',h1,h2⟩:=hp;cases o with|normal=>exact wp_mono (ihy s' Q S' Kn' φ' a' w' h0 h2) fun e a'' w'' hp=>hp.trans h1|exit id=>exact⟨.exit id,s',h0,rfl,S',Kn',φ',h1,h2⟩|ret=>exact⟨.ret,s',h0,rfl,S',Kn',φ',h1,h2⟩
 |cond c x y ihx ihy=>intro s Q S Kn φ a w h hR;simp only[pY,W]at h;obtain⟨s1,hsub,t,ht,h1,h2⟩:=h;obtain⟨S1,Kn1,φ1,hs1,hR1⟩:=hsub S K w0 Kn φ gv nt a w hR;have hv:=(tQ hR1.inv.Ce hR1.dH ht).lit.1;refine wp_cond hv ?_;cases t with|true=>exact wp_mono (ihx s1 Q S1 Kn1 φ1 a w (h1 rfl) hR1) fun _ _ _ hp=>hp.trans hs1|false=>exact wp_mono (ihy s1 Q S1 Kn1 φ1 a w (h2 rfl) hR1) fun _ _ _ hp=>hp.trans hs1
 |block id x ih=>
  intro s Q S Kn φ a w h hR;simp only[pY,W]at h;refine wp_block ?_;refine wp_mono (ih s _ S Kn φ a w h hR) fun e a' w' hp=>?_;obtain⟨o,s',h0,rfl,hp⟩:=hp;cases o with
  |normal=>exact⟨.normal,s',h0,rfl,hp⟩
  |ret=>exact⟨.ret,s',h0,rfl,hp⟩
  |exit id'=>
   simp only[Qk,Exit.inBlock];simp only[vS]at h0;by_cases hid:id'=id
   .rw [if_pos hid]at h0|-;exact⟨.normal,s',h0,rfl,hp⟩
   .rw [if_neg hid]at h0|-;exact⟨.exit id',s',h0,rfl,hp⟩
 |loop x ih=>intro s Q S Kn φ a w h hR;simp only[pY,W]at h;obtain⟨I,n,⟨s0,hsub,hI⟩,hstep⟩:=h;obtain⟨S0,Kn0,φ0,hs0,hR0⟩:=hsub S K w0 Kn φ gv nt a w hR;refine BH (J:=fun n a' w'=>∃s1 S1 Kn1 φ1,hC S w S1 w'/\G0 S1 K w0 Kn1 φ1 gv nt s1 a' w'/\I n s1) n ⟨s0,S0,Kn0,φ0,hs0,hR0,hI⟩ fun n a1 w1 hJ=>?_;obtain⟨s1,S1,Kn1,φ1,h1,h2,h3⟩:=hJ;refine wp_mono (ih s1 _ S1 Kn1 φ1 a1 w1 (hstep n s1 h3) h2) fun e a' w' hp=>?_;obtain⟨o,s2,h0,rfl,S2,Kn2,φ2,h4,h5⟩:=hp;cases o with|normal=>obtain⟨m,hm,s3,h6,h7⟩:=h0;obtain⟨S3,Kn3,φ3,h8,h9⟩:=h6 S2 K w0 Kn2 φ2 gv nt a' w' h5;exact⟨m,hm,s3,S3,Kn3,φ3,(h1.trans h4).trans h8,h9,h7⟩|exit id=>exact⟨.exit id,s2,h0,rfl,S2,Kn2,φ2,h1.trans h4,h5⟩|ret=>exact⟨.ret,s2,h0,rfl,S2,Kn2,φ2,h1.trans h4,h5⟩
 |exit id=>intro s Q S Kn φ a w h hR;exact wp_exit (xI.AZ (o:=.exit id) h (hC.refl _ _) hR)
 |ret=>intro s Q S Kn φ a w h hR;exact wp_ret (xI.AZ (o:=.ret) h (hC.refl _ _) hR)
 |scope x ih=>intro s Q S Kn φ a w h hR;refine wp_scope_straight (wp_mono (ih s Q S Kn φ a w h hR) fun e a' w' hp=>?_);obtain⟨o,s',h0,rfl,h1⟩:=hp;cases o<;>exact⟨_,s',h0,rfl,h1⟩
 |label l=>intro s Q S Kn φ a w h hR;exact wp_label (xI.AZ (o:=.normal) h (hC.refl _ _) hR)
 |_=>intro s Q S Kn φ a w h hR;simp[pY,W]at h
end
def NS(P:Program):ResultVar->Option RV
 |.tmp t=>some (.tmp t)
 |.cell a t=>match fW P t,fQ P t with|some g,some n=>some (.cell a g n)|_,_=>none
def AQ(P:Program):List ResultVar->Option (List RV)
 |[]=>some []
 |r::rs=>match NS P r,AQ P rs with|some x,some xs=>some (x::xs)|_,_=>none
def zE(P:Program)(df:AB)(f np:Nat):Option Fn:=
 match P.funcs[f]?with
 |none=>none
 |some g=>
  match g.body with
  |none=>none
  |some code=>
   if(g.name== "runtime.NumGoroutine")=false/\np<=g.ntmps/\g.ntmps<1000000000 then
    match AQ P g.results.toList with|some kN=>some ⟨np,g.ntmps,kN,pY P df g.ntmps code⟩|none=>none
   else none
section
variable{P:Program}{S K:Nat->Prop}{w0 w:World}{gv:List Value}{nt:Nat}{a:Act}{call:Call}{df:AB}{s s':St}
theorem Eo:∀(as:List A){Kn:Nat->Prop}{φ:Nat->gO}{hf:Nat->Option Ob}(vs:List Value)(fp:List Nat)(i n:Nat),Inv S K w0 Kn φ hf w->(∀j,n<=j->¬Kn j)->Nt S w as vs fp->fp.Nodup->
  (∀b∈fp,¬S b/\¬K b)->ja w φ hf fp->
  ∃φ',rW S K w0 w Kn φ hf fp n (enter as i n).2.2.1 (enter as i n).2.1 φ'/\
   (∀t x,cA (enter as i n).1 t=some x->i<=t/\∃v,vs[t-i]?=some v/\gr S w (pn Kn n (enter as i n).2.2.1) φ' x v)/\
   (∀(k:Nat)(c:C)(v:Value),(enter as i n).2.2.2[k]?=some c->(oC as vs)[k]?=some v->RC S w (pn Kn n (enter as i n).2.2.1) φ' c v)/\
   (enter as i n).2.2.2.length=(oC as vs).length/\as.length=vs.length:=by
 intro as;induction as with
 |nil=>intro Kn φ hf vs fp i n hI hfr h hn hSK ha;cases vs with|cons v vs=>exact h.elim|nil=>obtain rfl:fp=[]:=h;exact⟨φ,rW.nil hI _ _,fun t x hx=>by simp[enter,cA]at hx,fun k c v hk=>by simp[enter]at hk,rfl,rfl⟩
 |cons x as ih=>
  intro Kn φ hf vs fp i n hI hfr h hn hSK ha;cases vs with
  |nil=>exact h.elim
  |cons v vs=>
   obtain⟨f1,f2,rfl,h1,h2⟩:=h;have next:∀{e:jP}{i':Nat}{t:Nat}{x:TV}{φ':Nat->gO}{Kn':Nat->Prop},i+1<=t/\(∃v,vs[t-(i+1)]?=some v/\gr S w Kn' φ' x v)->i<=t/\∃v',(v::vs)[t-i]?=some v'/\gr S w Kn' φ' x v':=by intro e i' t x φ' Kn' ⟨q1,v',q2,q3⟩;refine⟨by omega,v',?_,q3⟩;rw[show t-i=(t-(i+1))+1 by omega];simpa using q2
   cases x with
   |d y=>
    obtain⟨h1,rfl⟩:=h1;obtain⟨φ',q1,q2,q3,q4,q5⟩:=ih (Kn:=Kn) (φ:=φ) (hf:=hf) vs f2 (i+1) n hI hfr h2 (by simpa using hn) (by simpa using hSK) (by simpa using ha);refine⟨φ',q1,fun t x hx=>?_,q3,q4,by simp[q5]⟩;simp only[enter,cA]at hx;by_cases e:i=t
    .subst e;simp at hx;subst hx;exact⟨au _,v,by simp,.c (.d h1)⟩
    .have e':(i==t)=false:=by simpa using e
     rw[e',cond_false]at hx;exact next (e:=[]) (i':=0) (q2 t x hx)
   |agg xs=>
    obtain⟨aM,rfl,hlen,h1,rfl⟩:=h1;obtain⟨φ',q1,q2,q3,q4,q5⟩:=ih (Kn:=Kn) (φ:=φ) (hf:=hf) vs f2 (i+1) n hI hfr h2 (by simpa using hn) (by simpa using hSK) (by simpa using ha);refine⟨φ',q1,fun t x hx=>?_,q3,q4,by simp[q5]⟩;simp only[enter,cA]at hx;by_cases e:i=t
    .subst e;simp at hx;subst hx;refine⟨au _,_,by simp;rfl,.agg (by simpa using hlen) fun j x hj=>?_⟩;rw[aH]at hj;obtain⟨d,hd,rfl⟩:=aF.1 hj;exact .d (h1 j d hd)
    .have e':(i==t)=false:=by simpa using e
     rw[e',cond_false]at hx;exact next (e:=[]) (i':=0) (q2 t x hx)
   |mt t0=>
    rw[bZ]at hn;obtain⟨hn1,hn2,hn3⟩:=hn;simp only[ap]at hSK;obtain⟨φ1,hL1,hr1⟩:=vW t0 n v f1 hI (fun j hj _=>hfr j hj) h1 hn1 (fun b hb=>hSK b (.inl hb)) (fun j o hj hown x hx hm=>ha j o hj hown x hx (by simp[hm]))
    obtain⟨φ2,hL2,q2,q3,q4,q5⟩:=ih (Kn:=pn Kn n (k9 n t0).2.2) (φ:=φ1) (hf:=bm (k9 n t0).2.1 hf) vs f2 (i+1) (k9 n t0).2.2 hL1.inv (fun j hj hk=>by
     rcases hk with hk|hk
     .have:=hL1.le;exact hfr j (by omega) hk
     .omega) h2 hn2 (fun b hb=>hSK b (.inr hb)) (hL1.O4 hI (fun j o hj hown x hx hm=>ha j o hj hown x hx (by simp[hm])) fun x hx hx2=>hn3 x hx x hx2 rfl)
    have hcomp:=hL1.pY hL2;have hcm:bm ((enter as (i+1) (k9 n t0).2.2).2.1++(k9 n t0).2.1) hf=bm ((k9 n t0).2.1++(enter as (i+1) (k9 n t0).2.2).2.1) hf:=mJ fun p hp q hq e=>by have h1:=hL2.gM p hp;have h2:=hL1.gM q hq;omega
    have hsub:∀j,pn (pn Kn n (k9 n t0).2.2) (k9 n t0).2.2 (enter as (i+1) (k9 n t0).2.2).2.2.1 j->pn Kn n (enter as (i+1) (k9 n t0).2.2).2.2.1 j:=fun j=>(rF hL1.le hL2.le j).1;refine⟨φ2,?_,fun t x hx=>?_,fun k c v' hk hv=>?_,by simp[enter,oC,q4],by simp[q5]⟩
    .simp only[enter];have hsw:∀{p:Nat×Option Ob}{a b:fF},p∈a++b->p∈b++a:=fun hp=>ap.2 (ap.1 hp).symm;exact⟨hcomp.le,hcomp.sB,hcm▸hcomp.inv,fun p hp=>hcomp.gM p (hsw hp),fun p hp x hx=>hcomp.bY p (hsw hp) x (hcm.symm▸hx)⟩
    .simp only[enter,cA]at hx|-;by_cases e:i=t
     .subst e;simp at hx;subst hx;exact⟨au _,v,by simp,.c ((hr1.mono (hC.refl _ _) hL2.sB).kn hsub)⟩
     .have e':(i==t)=false:=by simpa using e
      rw[e',cond_false]at hx;obtain⟨p1,v',p2,p3⟩:=q2 t x hx;exact next (e:=[]) (i':=0) ⟨p1,v',p2,p3.mono (hC.refl _ _) ⟨hsub,fun _ _=>rfl⟩⟩
    .simp only[enter]at hk|-;simp only[oC]at hv;cases k with
     |zero=>
      obtain rfl:(k9 n t0).1=c:=by simpa using hk
      obtain rfl:v=v':=by simpa using hv
      exact(hr1.mono (hC.refl _ _) hL2.sB).kn hsub
     |succ k=>exact(q3 k c v' (by simpa using hk) (by simpa using hv)).kn hsub
theorem Dv{Kn:Nat->Prop}{φ:Nat->gO}{H:bF}(hI:Inv S K w0 Kn φ (aB H) w){v:TV}{r:R}{bv:List Nat}{x:Value}(h:r_ H v=some (r,bv))(hv:gr S w Kn φ v x):
  RR S w r x (bv.flatMap (iw w φ (aB H)))/\∀i∈bv,∃o,aB H i=some o/\cX o=true:=by
 cases hv with
 |c hv=>
  simp only[r_]at h;split at h
  .rename_i t aA rd hp;obtain⟨rfl,rfl⟩:R.c t=r/\aA=bv:=by simpa using h
   exact(rD hI 300).1 _ _ _ _ _ hp hv
  .simp at h
 |@agg cs aM hlen hv=>
  simp only[r_]at h;split at h
  .rename_i ts aA rd hp;obtain⟨rfl,rfl⟩:R.agg ts=r/\aA=bv:=by simpa using h
   obtain⟨h1,⟨fps,h2,h3,h4⟩,h5⟩:=(rD hI 300).2 _ _ _ _ hp (fun i=>aM.getD i undef) hv;exact⟨⟨aM,fps,rfl,h1.trans hlen,h2,h3,h4⟩,h5⟩
  .simp at h
 |iT hlen hv=>simp[r_]at h
theorem B0{Kn:Nat->Prop}{φ:Nat->gO}{H:bF}(hI:Inv S K w0 Kn φ (aB H) w):∀(tvs:List TV)(vs:List Value)(rs:List R)(bv:List Nat),uN H tvs=some (rs,bv)->tvs.length=vs.length->
  (∀(i:Nat)(t:TV)(v:Value),tvs[i]?=some t->vs[i]?=some v->gr S w Kn φ t v)->EV S w rs vs (bv.flatMap (iw w φ (aB H)))/\∀i∈bv,∃o,aB H i=some o/\cX o=true:=by
 intro tvs;induction tvs with
 |nil=>
  intro vs rs bv h hl hr;obtain⟨rfl,rfl⟩:[]=rs/\[]=bv:=by simpa[uN]using h
  obtain rfl:vs=[]:=bc.1 hl.symm;exact⟨rfl,fun i hi=>by simp at hi⟩
 |cons t tvs ih=>
  intro vs rs bv h hl hr;cases vs with
  |nil=>simp at hl
  |cons v vs=>
   simp only[uN]at h;split at h
   .rename_i r o1 rs1 o2 hp hps;obtain⟨rfl,rfl⟩:r::rs1=rs/\o1++o2=bv:=by simpa using h
    obtain⟨a1,a2⟩:=Dv hI hp (hr 0 t v rfl rfl);obtain⟨b1,b2⟩:=ih vs rs1 o2 hps (by simpa using hl) (fun i t v hi hv=>hr (i+1) t v (by simpa using hi) (by simpa using hv));refine⟨⟨_,_,by simp,a1,b1⟩,fun i hi=>?_⟩;rcases ap.1 hi with hi|hi
    .exact a2 i hi
    .exact b2 i hi
   .simp at h
inductive vR(h:bF):List C->List T->List Nat->Prop
 |nil:vR h [] [] []
 |cons {c:C} {cs:List C} {t:T} {ts:List T} {a i b:List Nat} (h1:eP h 300 c=some (t,a,i)) (h2:vR h cs ts b):vR h (c::cs) (t::ts) (a++b)
 |uS {c:C} {cs:List C} {ts:List T} {b:List Nat} (h2:vR h cs ts b):vR h (c::cs) (.uS::ts) b
theorem Dw{Kn:Nat->Prop}{φ:Nat->gO}{H:bF}(hI:Inv S K w0 Kn φ (aB H) w){cs:List C}{ts:List T}{bv:List Nat}(h:vR H cs ts bv):∀(vs:List Value),cs.length=vs.length->
  (∀(i:Nat)(c:C)(v:Value),cs[i]?=some c->vs[i]?=some v->RG S w Kn φ c v)->PP S w ts vs (bv.flatMap (iw w φ (aB H)))/\∀i∈bv,∃o,aB H i=some o/\cX o=true:=by
 induction h with
 |nil=>intro vs hl hr;obtain rfl:vs=[]:=bc.1 hl.symm;exact⟨rfl,fun i hi=>by simp at hi⟩
 |@cons c cs t ts a rd b hp _ ih=>
  intro vs hl hr;cases vs with
  |nil=>simp at hl
  |cons v vs=>
   have hrc:RC S w Kn φ c v:=(hr 0 c v rfl rfl).resolve_left fun e=>by subst e;simp[sf,eP]at hp
   obtain⟨a1,a2⟩:=(rD hI 300).1 _ _ _ _ _ hp hrc;obtain⟨b1,b2⟩:=ih vs (by simpa using hl) (fun i t v hi hv=>hr (i+1) t v (by simpa using hi) (by simpa using hv));refine⟨⟨_,_,by simp,.inr a1,b1⟩,fun i hi=>?_⟩;rcases ap.1 hi with hi|hi
   .exact a2 i hi
   .exact b2 i hi
 |@uS c cs ts b _ ih=>intro vs hl hr;cases vs with|nil=>simp at hl|cons v vs=>obtain⟨b1,b2⟩:=ih vs (by simpa using hl) (fun i t v hi hv=>hr (i+1) t v (by simpa using hi) (by simpa using hv));exact⟨⟨[],_,rfl,.inl ⟨rfl,rfl⟩,b1⟩,b2⟩
def wY(kN:List RV)(s:St)(rs:List R)(outs:List T):Prop:=∃vs a b,eM (kN.map (xd s))=some vs/\uN s.heap vs=some (rs,a)/\vR s.heap s.gh outs b/\(a++b).Nodup
def rA(tmps:Array Value):ResultVar->Sem Value
 |.tmp t=>pure (tmps.getD t undef)
 |.cell a t=>do loadVar t (<-asAddr (tmps.getD a undef))
theorem DZ{t:TypeId}{pv val:Value}(h:(Instr.loadAt t pv).run P w=.ok val w):(do loadVar t (<-asAddr pv):Sem Value).run P w=.ok val w:=by
 cases pv with
 |pointer x=>cases x with|some a=>simpa[Instr.loadAt,Instr.sureAddr,asAddr]using h|none=>simp[Instr.loadAt,Instr.sureAddr]at h
 |_=>simp[Instr.loadAt,Instr.sureAddr]at h
theorem BW{Kn:Nat->Prop}{φ:Nat->gO}(hI:Inv S K w0 Kn φ (aB s.heap) w)(hE:jP.ok S w Kn φ s.dH a.tmps){r:ResultVar}{x:RV}{v:TV}(hr:NS P r=some x)(h:xd s x=some v):
  ∃val,(rA a.tmps r).run P w=.ok val w/\gr S w Kn φ v val:=by
 cases r with
 |tmp t=>
  obtain rfl:RV.tmp t=x:=by simpa[NS]using hr
  exact⟨_,by simp[rA],hE t v h⟩
 |cell t ty=>
  simp only[NS]at hr;split at hr
  .rename_i g n hg hn;obtain rfl:=aa hr;simp only[xd]at h;split at h
   .rename_i p hp;split at h
    .rename_i v' aA hl;obtain rfl:=aa h;cases hE t _ hp with|c hc=>obtain⟨val,h1,h2⟩:=yy hg hn hI hc hl;exact⟨val,DZ h1,h2⟩
    .simp at h
   .simp at h
  .simp at hr
theorem Af{Kn:Nat->Prop}{φ:Nat->gO}(hI:Inv S K w0 Kn φ (aB s.heap) w)(hE:jP.ok S w Kn φ s.dH a.tmps):∀(rs:List ResultVar)(xs:List RV)(tvs:List TV),AQ P rs=some xs->eM (xs.map (xd s))=some tvs->
  ∃vs,(rs.mapM (rA a.tmps)).run P w=.ok vs w/\tvs.length=vs.length/\∀(i:Nat)(t:TV)(v:Value),tvs[i]?=some t->vs[i]?=some v->gr S w Kn φ t v:=by
 intro rs;induction rs with
 |nil=>
  intro xs tvs h1 h2;obtain rfl:[]=xs:=by simpa[AQ]using h1
  obtain rfl:[]=tvs:=by simpa[eM]using h2
  exact⟨[],by simp,rfl,fun i t v hi=>by simp at hi⟩
 |cons r rs ih=>
  intro xs tvs h1 h2;simp only[AQ]at h1;split at h1
  .rename_i x xs1 hx hxs;obtain rfl:=aa h1;simp only[aD]at h2;cases hv:xd s x with
   |none=>rw[hv]at h2;simp[eM]at h2
   |some v=>
    rw[hv]at h2;simp only[eM]at h2;split at h2
    .rename_i tvs1 htv;obtain rfl:=aa h2;obtain⟨val,q1,q2⟩:=BW hI hE hx hv;obtain⟨vs,q3,q4,q5⟩:=ih xs1 tvs1 hxs htv;refine⟨val::vs,by simp[List.mapM_cons,q1,q3],by simp[q4],fun i t v' hi hv'=>?_⟩;cases i with
     |zero=>
      obtain rfl:v=t:=by simpa using hi
      obtain rfl:val=v':=by simpa using hv'
      exact q2
     |succ i=>exact q5 i t v' (by simpa using hi) (by simpa using hv')
    .simp at h2
  .simp at h1
theorem Dc{g:Func}{tmps:Array Value}{vs:List Value}(h:(g.results.toList.mapM (rA tmps)).run P w=.ok vs w):(results g tmps).run P w=.ok (yB vs) w:=by
 have e:results g tmps=(do let vs<-g.results.mapM (rA tmps);pure (if h:vs.size=1 then vs[0]else .tuple vs)):=rfl;have e2:g.results.mapM (rA tmps)=(do let vs<-g.results.toList.mapM (rA tmps);pure vs.toArray):=by rw[Array.mapM_eq_mapM_toList,bind_pure_comp]
 rw[e,e2];simp only[Sem.run_bind,h,Result.andThen_ok,Sem.run_pure]
 match vs with|[]=>rfl|[v]=>rfl|v::v'::r=>simp[yB]
def Qd(sz:Nat):Option (List (List D))->D
 |none=>.lit (.slice none 0 0)
 |some aq=>.sl sz aq
mutual
def sv:T->D
 |.d x=>x
 |.uS=>.lit .nilFunc
 |.sl sz aq=>.sl sz aq
 |.zU sz aq=>.sl 1 (aq.map fun r=>[Qd sz r])
 |.pt ts=>.pt (OD ts)
def OD:List T->List D
 |[]=>[]
 |t::ts=>sv t::OD ts
end
theorem Mc:∀ts:List T,OD ts=ts.map sv:=by intro ts;induction ts with|nil=>rfl|cons t ts ih=>simp[OD,ih]
theorem RT.Bc{S S':Nat->Prop}{w:World}{t:T}{v:Value}{fp:List Nat}(h:RT S w t v fp)(hS:∀b,S b->S' b)(hb:∀b∈fp,S' b):RD S' w (sv t) v:=by
 have eQ:hC S w S' w:=⟨hS,fun _ _=>rfl⟩
 induction h with
 |d h=>exact h.mono eQ
 |@sl sz aq b off len cap aM hsz ho hlen hcap hext hr=>
  subst hlen;refine .sl (fun i j=>aM.getD (off+i*sz+j) undef) (hb b (by simp)) hsz hcap hr.1 (fun i r hi j x hj=>?_) (fun i r hi j x hj=>?_)
  .obtain ⟨v,h1,h2⟩:=hr.2 i r hi j x hj;simp only at h1;rw[ho.cell,h1,bw,h1];rfl
  .obtain ⟨v,h1,h2⟩:=hr.2 i r hi j x hj;simp only at h1;rw[bw,h1];exact h2.mono eQ
 |@zU sz aq b off cap aM fps hsz ho hcap hext hfl h=>
  have key:=RD.AN (S:=S') (w:=w) (sz:=1) (aq:=aq.map fun r=>[Qd sz r]) (b:=b) (off:=off) (len:=aq.length) (cap:=cap) (hb b (by simp)) Nat.one_pos (by simp) hcap ⟨fun i r hi=>?_,fun i r hi j x hj=>?_⟩
  .exact key
  .rw [aH]at hi;obtain⟨r',_,rfl⟩:=aF.1 hi;rfl
  .rw [aH]at hi;obtain⟨r',hr',rfl⟩:=aF.1 hi;have hl:=(ak.1 hr').1;cases j with
   |succ j=>simp at hj
   |zero=>
    obtain rfl:Qd sz r'=x:=by simpa using hj
    obtain⟨v,h1,h2⟩:=h i r' fps[i] hr' (aw (by omega));refine⟨v,by rw[Nat.mul_one,dT];exact(ho.cell _).trans h1,?_⟩;cases r' with|none=>obtain⟨rfl,_⟩:=h2;exact .lit rfl|some rows'=>obtain⟨b',q1,q2⟩:=h2;exact q2.rd eQ (hb b' (aC _ (dO.2 ⟨fps[i],List.getElem_mem _,by rw[q1];simp⟩)))
 |@pt ts b aM fps ho hlen hfl h ih=>
  simp only[sv,Mc];have hlt:∀(j:Nat)(x:D),(ts.map sv)[j]?=some x->∃t f,ts[j]?=some t/\fps[j]?=some f/\x=sv t:=by intro j x hj;rw[aH]at hj;obtain⟨t,ht,rfl⟩:=aF.1 hj;have hl:=(ak.1 ht).1;exact⟨t,_,ht,aw (by omega),rfl⟩
  have key:=RD.pt (S:=S') (w:=w) (cells:=ts.map sv) (b:=b) (off:=0) (fun j=>aM.getD j undef) (hb b (by simp)) (fun j x hj=>?_) (fun j x hj=>?_)
  .exact key
  .obtain ⟨t,f,h1,h2,rfl⟩:=hlt j x hj;have hl:=(ak.1 h1).1;rw[bL,ho.cell,bw,gR (by omega)];rfl
  .obtain ⟨t,f,h1,h2,rfl⟩:=hlt j x hj;exact ih j t f h1 h2 fun b hbm=>hb b (aC _ (dO.2 ⟨f,aX h2,hbm⟩))
def Jn:R->R
 |.c t=>.c (.d (sv t))
 |.agg ts=>.agg (ts.map fun t=>.d (sv t))
def up:List Bool->List R->List R
 |b::bs,r::rs=>(if b then Jn r else r)::up bs rs
 |_,rs=>rs
theorem RR.yT{S S':Nat->Prop}{w:World}(hS:∀b,S b->S' b){r:R}{v:Value}{fp:List Nat}(h:RR S w r v fp):RR S' w r v fp:=by
 have eQ:hC S w S' w:=⟨hS,fun _ _=>rfl⟩
 cases r with|c t=>exact RT.mono eQ h fun _ _=>rfl|agg ts=>obtain⟨aM,fps,h1,h2,h3,h4,h5⟩:=h;exact⟨aM,fps,h1,h2,h3,h4,fun i t f hi hf=>(h5 i t f hi hf).mono eQ fun _ _=>rfl⟩
theorem RR.Bc{S S':Nat->Prop}{w:World}(hS:∀b,S b->S' b){r:R}{v:Value}{fp:List Nat}(h:RR S w r v fp)(hb:∀b∈fp,S' b):RR S' w (Jn r) v []:=by
 cases r with
 |c t=>exact .d (RT.Bc h hS hb)
 |agg ts=>
  obtain⟨aM,fps,h1,h2,h3,h4,h5⟩:=h;refine⟨aM,ts.map fun _=>[],h1,by simp[h2],by simp,?_,fun i t f hi hf=>?_⟩
  .clear h5 h3 h2;induction ts with|nil=>rfl|cons t ts ih=>simp
  .simp only[aH,aF]at hi hf;obtain⟨t0,ht0,rfl⟩:=hi;obtain⟨_,_,rfl⟩:=hf;have hl:=(ak.1 ht0).1;have hf:fps[i]?=some _:=aw (by omega);refine .d ((h5 i t0 _ ht0 hf).Bc hS fun b hbm=>hb b ?_);rw[<-h4];exact dO.2 ⟨_,aX hf,hbm⟩
theorem EV.yT{S S':Nat->Prop}{w:World}(hS:∀b,S b->S' b):∀{rs:List R}{vs:List Value}{fp:List Nat},EV S w rs vs fp->EV S' w rs vs fp:=by
 intro rs;induction rs with
 |nil=>intro vs fp h;cases vs<;>exact h
 |cons r rs ih=>intro vs fp h;cases vs with|nil=>exact h|cons v vs=>obtain⟨f1,f2,h1,h2,h3⟩:=h;exact⟨f1,f2,h1,h2.yT hS,ih h3⟩
theorem EV.Bc{S:Nat->Prop}{w:World}:∀(m:List Bool)(rs:List R)(vs:List Value)(fp:List Nat),EV S w rs vs fp->fp.Nodup->
  ∃fpK,fpK.Sublist fp/\∀S':Nat->Prop,(∀b,S b->S' b)->(∀b∈fp,b∉fpK->S' b)->EV S' w (up m rs) vs fpK:=by
 intro m;induction m with
 |nil=>intro rs vs fp h hn;exact⟨fp,bM _,fun S' hS _=>by cases rs<;>exact h.yT hS⟩
 |cons b m ih=>
  intro rs vs fp h hn;cases rs with
  |nil=>exact⟨fp,bM _,fun S' hS _=>h.yT hS⟩
  |cons r rs=>
   cases vs with
   |nil=>exact h.elim
   |cons v vs=>
    obtain⟨f1,f2,rfl,h2,h3⟩:=h;obtain⟨n1,n2,n3⟩:=bZ.1 hn;obtain⟨fpK,hsub,hk⟩:=ih rs vs f2 h3 n2;cases b with
    |true=>refine⟨fpK,hsub.trans (List.sublist_append_right _ _),fun S' hS hb=>⟨[],fpK,rfl,h2.Bc hS fun b hbm=>hb b (aE _ hbm) fun hb2=>n3 b hbm b (hsub.subset hb2) rfl,hk S' hS fun b hbm hb2=>hb b (aG _ hbm) hb2⟩⟩
    |false=>
     refine⟨f1++fpK,c8.append (bM _) hsub,fun S' hS hb=>⟨f1,fpK,rfl,h2.yT hS,hk S' hS fun b hbm hb2=>hb b (aG _ hbm) fun hb3=>?_⟩⟩;rcases ap.1 hb3 with h|h
     .exact n3 b h b hbm rfl
     .exact hb2 h
theorem EV.lt{S:Nat->Prop}{w:World}:∀{rs:List R}{vs:List Value}{fp:List Nat},EV S w rs vs fp->∀b∈fp,b<w.heap.size:=by
 intro rs;induction rs with
 |nil=>intro vs fp h b hb;cases vs with|nil=>have h':fp=[]:=h;subst h';simp at hb|cons _ _=>exact h.elim
 |cons r rs ih=>
  intro vs fp h b hb;cases vs with
  |nil=>exact h.elim
  |cons v vs=>
   obtain⟨f1,f2,rfl,h2,h3⟩:=h;rcases ap.1 hb with hb|hb
   .cases r with|c t=>exact RT.lt h2 b hb|agg ts=>obtain⟨aM,fps,_,q2,q3,rfl,q5⟩:=h2;obtain⟨fp,hfp,hbf⟩:=dO.1 hb;obtain⟨i,hi,rfl⟩:=List.getElem_of_mem hfp;exact(q5 i _ _ (aw (by omega:i<ts.length)) (aw hi)).lt b hbf
   .exact ih h3 b hb
theorem PP.yT{S S':Nat->Prop}{w:World}(hS:∀b,S b->S' b):∀{ts:List T}{vs:List Value}{fp:List Nat},PP S w ts vs fp->PP S' w ts vs fp:=by
 intro ts;induction ts with
 |nil=>intro vs fp h;cases vs<;>exact h
 |cons r rs ih=>intro vs fp h;cases vs with|nil=>exact h|cons v vs=>obtain⟨f1,f2,h1,h2,h3⟩:=h;exact⟨f1,f2,h1,h2.imp id fun h2=>RT.mono ⟨hS,fun _ _=>rfl⟩ h2 fun _ _=>rfl,ih h3⟩
theorem Left.Bc{S:Nat->Prop}{w w':World}{fp:List Nat}{rs:List R}{outs:List T}{lent:List Value}{v:Value}(m:List Bool)(h:Left S w fp rs outs lent v w'):Left S w fp (up m rs) outs lent v w':=by
 obtain⟨S',kN,fp1,fp2,h1,h2,h3,h4,h5,h6,h7,h8,h9⟩:=h;obtain⟨n1,n2,n3⟩:=bZ.1 h7;obtain⟨fpK,hsub,hk⟩:=EV.Bc m rs kN fp1 h5 n1
 refine⟨fun b=>S' b\/(b∈fp1/\b∉fpK),kN,fpK,fp2,h1,⟨fun b hb=>.inl (h2.sub b hb),h2.eC⟩,fun b hb=>?_,fun b hb=>?_,hk _ (fun b hb=>.inl hb) (fun b hb hb2=>.inr ⟨hb,hb2⟩),
  PP.yT (fun b hb=>.inl hb) h6,?_,fun b hb=>?_,h9⟩
 .rcases hb with hb|hb
  .exact h3 b hb
  .exact .inr (h8 b (aE _ hb.1)).2
 .rcases hb with hb|hb
  .exact h4 b hb
  .exact EV.lt h5 b hb.1
 .exact (c8.append hsub (bM fp2)).nodup h7
 .rcases ap.1 hb with hb|hb
  .exact ⟨fun h=>h.elim (h8 b (aE _ (hsub.subset hb))).1 fun h=>h.2 hb,(h8 b (aE _ (hsub.subset hb))).2⟩
  .exact ⟨fun h=>h.elim (h8 b (aG _ hb)).1 fun h=>n3 b h.1 b hb rfl,(h8 b (aG _ hb)).2⟩
def Ni(kN:List RV)(m:List Bool)(len:Nat)(rs:List R)(outs:List T):sn->St->Prop
 |.exit _,_=>False
 |.normal,s=>wk (fun s=>s.gh.length=len/\∃rs0,wY kN s rs0 outs/\up m rs0=rs) s
 |.ret,s=>wk (fun s=>s.gh.length=len/\∃rs0,wY kN s rs0 outs/\up m rs0=rs) s
def pj(as:List A):St:=⟨(enter as 0 0).1,(enter as 0 0).2.1,(enter as 0 0).2.2.1,(enter as 0 0).2.2.2⟩
def Vw(P:Program)(F:Fn)(m:List Bool)(as:List A)(rs:List R)(outs:List T):Prop:=as.length=F.np/\W P F.body (pj as) (Ni F.kN m (pj as).gh.length rs outs)
def Vx(s:St)(Q:St->Prop):Prop:=∀(S K:Nat->Prop)(w0:World)(Kn:Nat->Prop)(φ:Nat->gO)(gv:List Value)(nt:Nat)(a:Act)(w:World),G0 S K w0 Kn φ gv nt s a w->∃s1,Q s1/\G0 S K w0 Kn φ gv nt s1 a w
theorem Mg(hm:P.follows .mixedOrders=true){f np:Nat}{F:Fn}(hF:zE P df f np=some F){as:List A}{rs:List R}{outs:List T}
  {m:List Bool} (h:as.length=F.np/\Vx (pj as) fun s=>W P F.body s (Ni F.kN m (pj as).gh.length rs outs)):sy P f as rs outs:=by
 unfold zE at hF;split at hF
 .simp at hF
 rename_i g hg;split at hF
 .simp at hF
 rename_i code hb;split at hF
 case isFalse=>simp at hF
 rename_i hc;obtain⟨hname,hnp,hnt⟩:=hc;split at hF
 case h_2=>simp at hF
 rename_i kN hrv;obtain rfl:=aa hF;obtain⟨hlen,h⟩:=h;simp only at hlen h;intro S w vs fp hlt hargs hnd hfp hglob;left;refine⟨f,vs.toArray,?_,?_⟩
 .simp [callFunc,run_program,hg,hb];intro e;rw[e]at hname;simp at hname
 refine calls_of_wp hg hb ?_;have hI0:Inv S (fun b=>b<w.heap.size/\b∉fp/\¬S b) w (fun _=>False) (fun _=>default) (aB []) w:=by refine⟨hlt,fun b hb h=>h.2.2 hb,⟨fun b hb=>hb.1,fun _ _=>rfl,au _,fun _ _=>rfl,fun b aM ho=>⟨aM,ho,rfl⟩,Io.refl _⟩,fun id o ho=>by simp[aB,cA]at ho,fun i j a b ha=>by simp[aB,cA]at ha,hglob,fun i sz sl k x hi=>by simp[aB,cA]at hi⟩
 obtain⟨φ,hL,q1,q2,q3,q4⟩:=Eo as (S:=S) (K:=fun b=>b<w.heap.size/\b∉fp/\¬S b) (w0:=w) (w:=w) (Kn:=fun _=>False) (φ:=fun _=>default) (hf:=aB []) vs fp 0 0 hI0 (fun _ _ h=>h) hargs hnd
  (fun b hb=>⟨hfp b hb,fun h=>h.2.1 hb⟩) (fun j o ho=>by simp[aB,cA]at ho)
 unfold pj at h;generalize hen:enter as 0 0=en at h hL q1 q2 q3;obtain⟨e,hp,n,lent⟩:=en;simp only at h hL q1 q2 q3
 have hRel:G0 S (fun b=>b<w.heap.size/\b∉fp/\¬S b) w (pn (fun _=>False) 0 n) φ (oC as vs) g.ntmps ⟨e,hp,n,lent⟩
   {tmps:=vs.toArray++Array.replicate (g.ntmps-vs.toArray.size) undef,defers:=[]} w:=by
  refine⟨?_,fun t x hx=>?_,?_,rfl,fun j hj hk=>?_,fun i c v h1 h2=>.inr (q2 i c v h1 h2)⟩
  .have:aB hp=bm hp (aB []):=by rw[<-gK,List.append_nil]
   rw[this];exact hL.inv
  .obtain ⟨_,v,hv,hr⟩:=q1 t x hx;have hv':vs[t]?=some v:=by simpa using hv
   have:(vs.toArray++Array.replicate (g.ntmps-vs.toArray.size) undef).getD t undef=v:=by have ht:t<vs.length:=(ak.1 hv').1;rw[bw,Array.getElem?_append_left (by simpa using ht)];simp[hv']
   simp only[this];exact hr
  .simp;omega
  .rcases hk with hk|hk
   .exact hk
   .have:n<=j:=hj;omega
 obtain⟨s1,h,hRel⟩:=h _ _ _ _ _ _ _ _ _ hRel;refine wp_mono (GJ hnt hm code s1 _ S _ φ _ w h hRel) fun ex a' w' hp=>?_;obtain⟨o,s',hl,rfl,S',Kn',φ',hs,hR⟩:=hp
 have main:∀(s':St)(rs:List R)(S' Kn':Nat->Prop)(φ':Nat->gO),hC S w S' w'->G0 S' (fun b=>b<w.heap.size/\b∉fp/\¬S b) w Kn' φ' (oC as vs) g.ntmps s' a' w'->s'.gh.length=lent.length->wY kN s' rs outs->
   a'.defers=[]/\∃v,(results g a'.tmps).run P w'=.ok v w'/\∃v',Ending.returned v=Ending.returned v'/\Left S w fp rs outs (oC as vs) v' w':=by
  intro s' rs S' Kn' φ' hs hR hgl hlv;obtain⟨tvs,oa,ob,htv,hpr,hpc,hnod⟩:=hlv;obtain⟨rv,p1,p2,p3⟩:=Af hR.inv hR.dH _ _ _ hrv htv;obtain⟨r1,r2⟩:=B0 hR.inv tvs rv rs oa hpr p2 p3;obtain⟨t1,t2⟩:=Dw hR.inv hpc (oC as vs) (hgl.trans q3) hR.gh
  have hown:∀i∈oa++ob,∃o,aB s'.heap i=some o/\cX o=true:=by
   intro i hi;rcases ap.1 hi with hi|hi
   .exact r2 i hi
   .exact t2 i hi
  have hfrm:=hR.inv.nB;refine⟨hR.defers,_,Dc p1,_,rfl,S',rv,_,_,rfl,hs,fun b hb=>?_,hR.inv.u6,r1,t1,?_,?_,?_⟩
  .by_cases h1:b<w.heap.size
   .by_cases h2:b∈fp
    .exact .inr (.inl h2)
    .by_cases h3:S b
     .exact .inl h3
     .exact absurd ⟨h1,h2,h3⟩ (hR.inv.sk b hb)
   .exact .inr (.inr (by omega))
  .rw [<-lV];exact BA hR.inv hnod hown
  .rw [<-lV];intro b hb;obtain⟨i,hi,hb⟩:=List.mem_flatMap.1 hb;obtain⟨oi,hoi,hoo⟩:=hown i hi;obtain⟨k1,k2,k3⟩:=oJ hR.inv hoi hoo hb;refine⟨k1,?_⟩;by_cases h1:b<w.heap.size
   .by_cases h2:b∈fp
    .exact .inl h2
    .by_cases h3:S b
     .exact absurd (hs.sub _ h3) k1
     .exact absurd ⟨h1,h2,h3⟩ k2
   .exact .inr (by omega)
  .refine ⟨fun b hb=>hb.1,fun b hb=>?_,hfrm.grow,hfrm.Bc,hfrm.bv,hfrm.io⟩;by_cases h3:S b
   .exact hs.eC b h3
   .exact hfrm.nc b ⟨hb.1,hb.2,h3⟩
 have fin:wk (fun s=>s.gh.length=lent.length/\∃rs0,wY kN s rs0 outs/\up m rs0=rs) s'->
   a'.defers=[]/\∃v,(results g a'.tmps).run P w'=.ok v w'/\∃v',Ending.returned v=Ending.returned v'/\Left S w fp rs outs (oC as vs) v' w':=by
  rintro⟨s1,hsub,hgl,rs0,hlv,rfl⟩;obtain⟨S1,Kn1,φ1,hs1,hR1⟩:=hsub S' _ w Kn' φ' _ _ a' w' hR;obtain⟨q1,v,q2,v',q3,q4⟩:=main s1 rs0 S1 Kn1 φ1 (hs.trans hs1) hR1 hgl hlv;exact⟨q1,v,q2,v',q3,q4.Bc m⟩
 cases o with|exit id=>exact hl.elim|normal=>exact fin hl|ret=>exact fin hl
theorem OF(hm:P.follows .mixedOrders=true){f np:Nat}{F:Fn}(hF:zE P df f np=some F){as:List A}{rs:List R}{outs:List T}
  {m:List Bool} (h:Vw P F m as rs outs):sy P f as rs outs:=
 Mg hm hF ⟨h.1,fun _ _ _ _ _ _ _ _ _ hR=>⟨_,h.2,hR⟩⟩
end
section
variable{P:Program}{s s':St}{e:jP}{h:bF}{n:Nat}{gh:List C}
theorem Sub.heap{h':bF}{n':Nat}(hh:∀id,aB h' id=aB h id\/aB h' id=none)(hn:n<=n'):Sub ⟨e,h,n,gh⟩ ⟨e,h',n',gh⟩:=by intro S K w0 Kn φ gv nt a w hR;exact⟨S,Kn,φ,hC.refl S w,hR.inv.md fun id o ho=>(hh id).elim (fun q=>q▸ho) fun q=>by rw[q]at ho;simp at ho,hR.dH,hR.size,hR.defers,fun j hj=>hR.gM j (Nat.le_trans hn hj),hR.gh⟩
theorem Fe{id id2 sz sz2 dl:Nat}{slots:List k8}{aq:List (List D)}(ho:aB h id=some (.nst sz slots))(hs:slots[dl]?=some (.eg id2 aq.length))(h2:aB h id2=some (.aM sz2 aq)):
  Sub ⟨e,h,n,gh⟩ ⟨e,(id,some (.nst sz (slots.set dl (.bv aq))))::(id2,none)::h,n,gh⟩:=by
 intro S K w0 Kn φ gv nt a w hR;have e1:aB ((id,some (.nst sz (slots.set dl (.bv aq))))::(id2,none)::h)=bm [(id,some (.nst sz (slots.set dl (.bv aq)))),(id2,none)] (aB h):=gK [(id,some (.nst sz (slots.set dl (.bv aq)))),(id2,none)] h;exact⟨S,Kn,φ,hC.refl S w,e1▸hR.inv.Nb ho hs h2,hR.dH,hR.size,hR.defers,hR.gM,hR.gh⟩
theorem NL{t id sz szo off len:Nat}{aq rows':List (List D)}(ht:cA e t=some (.c (.fy sz id off len)))(ho:aB h id=some (.aM szo aq))(hr:(aq.drop off).take len=rows')(hle:off+len<=aq.length):
  Sub ⟨e,h,n,gh⟩ ⟨(t,.c (.fy sz n 0 len))::e,(id,none)::(n,some (.aM sz rows'))::h,n+1,gh⟩:=by
 intro S K w0 Kn φ gv nt a w hR;have hn:¬Kn n:=hR.gM n (au _);have hI:=hR.inv;obtain⟨hk0,h0⟩:=hI.iR _ _ ho;have hne:id≠n:=fun e=>hn (e▸hk0);have hv:=hR.dH t _ ht;generalize hval:a.tmps.getD t undef=val at hv;cases hv with
 |c hv=>
 have hkill:Inv S K w0 Kn φ (bm [(id,none)] (aB h)) w:=hI.md fun i o ho=>by
  rw[bT]at ho;split at ho
  .simp at ho
  .exact ho
 have hfree:∀i o,bm [(id,none)] (aB h) i=some o->cX o=true->(φ id).bY∉iw w φ (bm [(id,none)] (aB h)) i:=by
  intro i o hi hown hm;have hi':=hi;rw[bT]at hi';split at hi'
  .simp at hi'
  .rename_i hne2;rw[gF rfl (hi.trans hi'.symm)]at hm;exact od hI hi' ho hown rfl (fun e=>hne2 e.symm) hm (kW id)
 generalize hphi:φ id=l at*;cases h0 with
 |@aM _ _ aM hsz0 hl hS hK hown hext hfit hrr hvis=>
 obtain⟨cap,addr,rfl,hszl,hk,hcap,haddr,hextc,hcl⟩:=hv.ko;rw[hphi]at haddr hextc hszl hcl;obtain rfl:sz=szo:=by rw[<-hl,hszl]
 rw[hl]at haddr hextc;subst hr;have hlen:((aq.drop off).take len).length=len:=by simp;omega
 have hcm:len*sz<=cap*sz:=Nat.mul_le_mul_right _ hcap;have hR2:cW S w sz (fun i=>aM[i]?) addr ((aq.drop off).take len):=hrr.xx off len fun h=>haddr (by omega)
 have hname:=hkill.name hn ⟨l.bY,addr,sz,l.ext,cap⟩ (.aM sz ((aq.drop off).take len)) (fun _ j b hj hb hm=>hfree j b hj hb hm)
  (.aM hsz0 rfl hS hK hown hext (by rw[hlen];simp only;omega) hR2 (by rw[hlen];exact hcap))
 have hren:Ren Kn φ (fun j=>Kn j\/j=n) (ext φ n ⟨l.bY,addr,sz,l.ext,cap⟩):=jQ _ hn;refine⟨S,fun j=>Kn j\/j=n,ext φ n ⟨l.bY,addr,sz,l.ext,cap⟩,hC.refl S w,⟨?_,?_,hR.size,hR.defers,?_,?_⟩⟩
 .have:aB ((id,none)::(n,some (.aM sz ((aq.drop off).take len)))::h)=bm [(n,some (.aM sz ((aq.drop off).take len)))] (bm [(id,none)] (aB h)):=by have e1:aB ((id,none)::(n,some (Ob.aM sz ((aq.drop off).take len)))::h)=bm ([(id,none)]++[(n,some (.aM sz ((aq.drop off).take len)))]) (aB h):=gK [(id,none),(n,some (.aM sz ((aq.drop off).take len)))] h;rw[e1,<-eD];exact mJ (u:=[(id,none)]) fun p hp q hq=>by obtain rfl:=ao.1 hp;obtain rfl:=ao.1 hq;exact hne
  rw[this];exact hname
 .intro t' x hx;simp only[cA]at hx;by_cases et:t=t'
  .subst et;simp at hx;subst hx;rw[hval];have e:ext φ n ⟨l.bY,addr,sz,l.ext,cap⟩ n=⟨l.bY,addr,sz,l.ext,cap⟩:=by simp[ext]
   have:=RC.fy (S:=S) (w:=w) (Kn:=fun j=>Kn j\/j=n) (φ:=ext φ n ⟨l.bY,addr,sz,l.ext,cap⟩) (id:=n) (off:=0) (len:=len) (cap:=cap) (addr:=addr)
    (.inr rfl) hcap (by rw[e];simp) (by rw[e];exact hextc) (by rw[e];simp)
   rw[e]at this;rw[hphi];exact .c this
  .have e':(t==t')=false:=by simpa using et
   rw[e',cond_false]at hx;exact(hR.dH t' x hx).mono (hC.refl _ _) hren
 .intro j hj hk;simp only at hj;rcases hk with hk|hk
  .exact hR.gM j (by simp only;omega) hk
  .omega
 .intro i c v hc hv;exact(hR.gh i c v hc hv).mono (hC.refl _ _) hren
theorem wk.sub{Q:St->Prop}(hs:Sub s s')(h:wk Q s'):wk Q s:=let⟨s1,h1,h2⟩:=h;⟨s1,hs.trans h1,h2⟩
theorem wk.mono{Q Q':St->Prop}(h:wk Q s)(hq:∀s,Q s->Q' s):wk Q' s:=let⟨s1,h1,h2⟩:=h;⟨s1,h1,hq _ h2⟩
theorem WO.mono{Q Q':St->Prop}(hq:∀s,Q s->Q' s):∀{ops:List ol}{s:St},WO P ops s Q->WO P ops s Q':=by
 intro ops;induction ops with
 |nil=>intro s h;exact wk.mono h hq
 |cons o r ih=>
  intro s h;obtain⟨s1,h1,h⟩:=h;refine⟨s1,h1,?_⟩;rcases h with⟨hw,call,v,u,aA,n,hok,hev,h⟩|⟨hw,h⟩
  .exact .inl ⟨hw,call,v,u,aA,n,hok,hev,ih h⟩
  .exact .inr ⟨hw,ih h⟩
theorem WO.sub{Q:St->Prop}{ops:List ol}(hs:Sub s s')(h:WO P ops s' Q):WO P ops s Q:=by cases ops with|nil=>exact wk.sub hs h|cons o r=>obtain⟨s1,h1,h⟩:=h;exact⟨s1,hs.trans h1,h⟩
theorem uw.mono{R R':St->Prop}{Q Q':sn->St->Prop}(hr:∀s,R s->R' s)(hq:∀o s,Q o s->Q' o s):∀o s,uw R Q o s->uw R' Q' o s:=by intro o s h;cases o with|normal=>exact hr _ h|exit id=>exact hq _ _ h|ret=>exact hq _ _ h
theorem vS.mono{id:Nat}{Q Q':sn->St->Prop}(hq:∀o s,Q o s->Q' o s):∀o s,vS id Q o s->vS id Q' o s:=by
 intro o s h;cases o with
 |normal=>exact hq _ _ h
 |ret=>exact hq _ _ h
 |exit id'=>
  simp only[vS]at h|-;split at h
  .rw [if_pos (by assumption)];exact hq _ _ h
  .rw [if_neg (by assumption)];exact hq _ _ h
theorem W.mono:∀{c:CC}{s:St}{Q Q':sn->St->Prop},(∀o s,Q o s->Q' o s)->W P c s Q->W P c s Q':=by intro c;induction c with|seq a b iha ihb=>intro s Q Q' hq h;exact iha (uw.mono (fun s h=>ihb hq h) hq) h|cond c a b iha ihb=>intro s Q Q' hq h;obtain⟨s1,h0,t,h1,h2,h3⟩:=h;exact⟨s1,h0,t,h1,fun ht=>iha hq (h2 ht),fun ht=>ihb hq (h3 ht)⟩|block id a ih=>intro s Q Q' hq h;exact ih (vS.mono hq) h|loop nc a ih=>intro s Q Q' hq h;obtain⟨I,n,h1,h2⟩:=h;exact⟨I,n,h1,fun n s hi=>ih (uw.mono (fun s h=>h) hq) (h2 n s hi)⟩|skip=>intro s Q Q' hq h;exact wk.mono h fun s h=>hq _ _ h|exit id=>intro s Q Q' hq h;exact wk.mono h fun s h=>hq _ _ h|ret=>intro s Q Q' hq h;exact wk.mono h fun s h=>hq _ _ h|region ops nc=>intro s Q Q' hq h;exact WO.mono (fun s h=>h.mono fun s h=>hq _ _ h) h|drawn ops dyn nc=>intro s Q Q' hq h;obtain⟨s1,h0,calls,e,hh,tr,h1,h2,h3,h4⟩:=h;exact⟨s1,h0,calls,e,hh,tr,h1,h2,h3,h4.mono fun s h=>hq _ _ h⟩|gx=>intro s Q Q' hq h;exact h
theorem W.sub:∀{c:CC}{s s':St}{Q:sn->St->Prop},Sub s s'->W P c s' Q->W P c s Q:=by intro c;induction c with|seq a b iha ihb=>intro s s' Q hs h;exact iha hs h|cond c a b iha ihb=>intro s s' Q hs h;obtain⟨s1,h0,h1⟩:=h;exact⟨s1,hs.trans h0,h1⟩|block id a ih=>intro s s' Q hs h;exact ih hs h|loop nc a ih=>intro s s' Q hs h;obtain⟨I,n,h1,h2⟩:=h;exact⟨I,n,wk.sub hs h1,h2⟩|skip=>intro s s' Q hs h;exact wk.sub hs h|exit id=>intro s s' Q hs h;exact wk.sub hs h|ret=>intro s s' Q hs h;exact wk.sub hs h|region ops nc=>intro s s' Q hs h;exact WO.sub hs h|drawn ops dyn nc=>intro s s' Q hs h;obtain⟨s1,h0,h1⟩:=h;exact⟨s1,hs.trans h0,h1⟩|gx=>intro s s' Q hs h;exact h
section
variable{Q:sn->St->Prop}
theorem Pn{a b:CC}(h:W P a s (uw (fun s'=>W P b s' Q) Q)):W P (.seq a b) s Q:=h
theorem Nz{id:Nat}{a:CC}(h:W P a s (vS id Q)):W P (.block id a) s Q:=h
theorem PZ{c:Operand}{a b:CC}{t:Bool}(hc:kU s.dH c=some (.c (.d (.lit (.bool t)))))(h1:t=true->W P a s Q)(h2:t=false->W P b s Q):W P (.cond c a b) s Q:=⟨s,Sub.refl s,t,hc,h1,h2⟩
theorem Kh{ops:List ol}{nc:List Nat}(h:WO P ops s fun s'=>wk (Q .normal) s'):W P (.region ops nc) s Q:=h
end
def jl{α β:Type}(f:α->Option (α⊕β)):Nat->α->Option β
 |0,_=>none
 |n+1,a=>match f a with|some (.inl a')=>jl f n a'|some (.inr b)=>some b|none=>none
theorem xa{α β:Type}{f:α->Option (α⊕β)}:∀{n m:Nat}{a:α}{b:β},n<=m->jl f n a=some b->jl f m a=some b:=by
 intro n;induction n with
 |zero=>intro m a b _ h;simp[jl]at h
 |succ n ih=>
  intro m a b hm h;cases m with
  |zero=>omega
  |succ m=>
   simp only[jl]at h|-;split at h
   .exact ih (by omega) h
   .exact h
   .simp at h
open Classical in
def bE{α β:Type}(f:α->Option (α⊕β))(a:α):Option β:=if h:∃n b,jl f n a=some b then some (gm (di h))else none
theorem pf{α β:Type}{f:α->Option (α⊕β)}{a:α}{b:β}:bE f a=some b<->∃n,jl f n a=some b:=by
 constructor
 .intro h;unfold bE at h;split at h
  .rename_i hx;refine⟨gm hx,?_⟩;rw[di (di hx)];exact h
  .simp at h
 .rintro ⟨n,hn⟩;have hx:∃n b,jl f n a=some b:=⟨n,b,hn⟩
  unfold bE;rw[dif_pos hx];have h2:=di (di hx);have h3:=xa (Nat.le_max_left n (gm hx)) hn;have h4:=xa (Nat.le_max_right n (gm hx)) h2;rw[h3]at h4;rw[<-h4]
theorem DX{α β:Type}(f:α->Option (α⊕β))(a:α):bE f a=match f a with
  |some (.inl a')=>bE f a'
  |some (.inr b)=>some b
  |none=>none:=by
 apply Option.ext;intro b;rw[pf];constructor
 .rintro ⟨n,hn⟩;cases n with
  |zero=>simp[jl]at hn
  |succ n=>
   simp only[jl]at hn;split at hn
   .exact pf.2 ⟨n,hn⟩
   .exact hn
   .simp at hn
 .intro h;split at h
  .rename_i a' ha;obtain⟨n,hn⟩:=pf.1 h;exact⟨n+1,by simp only[jl,ha];exact hn⟩
  .rename_i b' ha;exact⟨1,by simp only[jl,ha];exact h⟩
  .simp at h
theorem dm{α β:Type}{f:α->Option (α⊕β)}{a a':α}(h:f a=some (.inl a')):bE f a=bE f a':=by rw[DX,h]
theorem cB{α β:Type}{f:α->Option (α⊕β)}{a:α}{b:β}(h:f a=some (.inr b)):bE f a=some b:=by rw[DX,h]
def qt:Ev.Call:=fun _ _=>none
theorem qP:ny P qt:=fun _ _ _ _ h=>by simp[qt]at h
section
variable{Q:St->Prop}{r:List ol}{d:Nat}{k:K}{args:List Operand}{v:TV}{u:fF}{aA:List Nat}{m g:Nat}{b c:Bool}
def Mh:Option TV->Option (FuncId×List C)
 |some (.c (.d (.fn f caps)))=>some (f,caps.map C.d)
 |some (.c (.o5 f caps))=>some (f,caps)
 |_=>none
def callee(h:bF)(kh:List Bool):List (Option TV)->Option (FuncId×List A)
 |f::vs=>
  match Mh f,eM vs with
  |some (f,caps),some vs=>match gD h (vs++caps.map TV.c) kh with|some (as,_,_)=>some (f,as)|none=>none
  |_,_=>none
 |[]=>none
def uQ(h:bF)(nxt:Nat)(ro:Bool)(aA:List Nat)(lent:List (C×List Nat×List Nat)):Option (List R×List T)->GZ
 |none=>none
 |some (rs,outs)=>
  if ro then
   if rs.all y8/\lent.isEmpty/\outs.isEmpty then
    some (ud (ir nxt rs).1,(ir nxt rs).2.1,aA,(ir nxt rs).2.2)
   else none
  else
   match eh h aA aA with
   |none=>none
   |some fu=>match fc nxt lent outs with|none=>none|some (bu,m)=>some (ud (ir m rs).1,(ir m rs).2.1++bu++fu,aA++lent.flatMap (·.2.2),(ir m rs).2.2)
theorem Bj(call:Ev.Call)(ro:Bool)(kh:List Bool)(fv:Option TV)(vs:List (Option TV))(h:bF)(nxt:Nat):
  uT call ro kh fv vs h nxt=match Mh fv,eM vs with
   |some (f,caps),some vs=>match gD h (vs++caps.map TV.c) kh with|none=>none|some (as,aA,lent)=>if eS h lent/\(lent.flatMap (fun(p:C×List Nat×List Nat)=>p.2.1)).Nodup/\(lent.flatMap (fun(p:C×List Nat×List Nat)=>p.2.1)).all (fun i=>!aA.contains i)then uQ h nxt ro aA lent (call f as)else none
   |_,_=>none:=by
 have e1:∀(o:Option (List R×List T))(aA:List Nat)(lent:List (C×List Nat×List Nat)),(match o with
    |none=>none
    |some (rs,outs)=>
     if ro then
      if rs.all y8/\lent.isEmpty/\outs.isEmpty then
       let(vs,u,m):=ir nxt rs
       some (ud vs,u,aA,m)
      else none
     else
      match eh h aA aA with
      |none=>none
      |some fu=>
       match fc nxt lent outs with
       |none=>none
       |some (bu,m)=>
        let(vs,u,k):=ir m rs
        some (ud vs,u++bu++fu,aA++lent.flatMap (fun(p:C×List Nat×List Nat)=>p.2.2),k))=uQ h nxt ro aA lent o:=by
  intro o aA lent;cases o with|none=>rfl|some p=>rfl
 have e2:(match fv with|some (.c (.d (.fn f caps)))=>some (f,caps.map C.d)|some (.c (.o5 f caps))=>some (f,caps)|_=>none)=Mh fv:=rfl
 show(match(match fv with|some (.c (.d (.fn f caps)))=>some (f,caps.map C.d)|some (.c (.o5 f caps))=>some (f,caps)|_=>none),eM vs with
   |some (f,caps),some vs=>
    match gD h (vs++caps.map TV.c) kh with
    |none=>none
    |some (as,aA,lent)=>
     if eS h lent/\(lent.flatMap (fun(p:C×List Nat×List Nat)=>p.2.1)).Nodup/\(lent.flatMap (fun(p:C×List Nat×List Nat)=>p.2.1)).all (fun i=>!aA.contains i)then
      (match call f as with
    |none=>none
    |some (rs,outs)=>
     if ro then
      if rs.all y8/\lent.isEmpty/\outs.isEmpty then
       let(vs,u,m):=ir nxt rs
       some (ud vs,u,aA,m)
      else none
     else
      match eh h aA aA with
      |none=>none
      |some fu=>
       match fc nxt lent outs with
       |none=>none
       |some (bu,m)=>
        let(vs,u,k):=ir m rs
        some (ud vs,u++bu++fu,aA++lent.flatMap (fun(p:C×List Nat×List Nat)=>p.2.2),k))else none
   |_,_=>none)=_
 simp only[e1,e2]
open Classical in
def only(f:FuncId)(as:List A)(rs:List R)(outs:List T):Ev.Call:=fun f' as'=>if f'=f/\as'=as then some (rs,outs)else none
theorem Ho{f:FuncId}{as:List A}{rs:List R}{outs:List T}(hg:sy P f as rs outs):ny P (only f as rs outs):=by
 intro f' as' rs' outs' h;unfold only at h;split at h
 .rename_i he;obtain⟨rfl,rfl⟩:=he;obtain⟨rfl,rfl⟩:=ad (aa h);exact hg
 .simp at h
theorem By{f:FuncId}{as:List A}{rs:List R}{outs:List T}{ro:Bool}{kh:List Bool}{vs:List (Option TV)}{x:TV×fF×List Nat×Nat}
  (h2:callee h kh vs=some (f,as)) (h1:cQ (fun _ _=>some (rs,outs)) (.call ro kh) vs h n=some x):cQ (only f as rs outs) (.call ro kh) vs h n=some x:=by
 cases vs with
 |nil=>simp[callee]at h2
 |cons fv vs=>
  simp only[callee]at h2;simp only[cQ,Bj]at h1|-;split at h2
  .rename_i f' caps vs' hf hvs;simp only[hf,hvs]at h1|-;split at h2
   .rename_i as' aA lent hargs;obtain⟨rfl,rfl⟩:=ad (aa h2);rw[hargs]at h1|-;simp only[only,and_self,if_true]at h1|-;exact h1
   .simp at h2
  .simp at h2
theorem HY{fv:Option TV}{ovs:List (Option TV)}{vs:List TV}{f:FuncId}{caps:List C}{as:List A}{aA:List Nat}{lent:List (C×List Nat×List Nat)}{ro:Bool}{kh:List Bool}{rs:List R}{outs:List T}{x:TV×fF×List Nat×Nat}
  (hf:Mh fv=some (f,caps)) (hv:eM ovs=some vs) (ha:gD h (vs++caps.map TV.c) kh=some (as,aA,lent)) (hw:eS h lent=true)
  (hn:decide ((lent.flatMap (fun(p:C×List Nat×List Nat)=>p.2.1)).Nodup/\(lent.flatMap (fun(p:C×List Nat×List Nat)=>p.2.1)).all (fun i=>!aA.contains i)=true)=true)
  (hl:uQ h n ro aA lent (some (rs,outs))=some x):
  callee h kh (fv::ovs)=some (f,as)/\cQ (fun _ _=>some (rs,outs)) (.call ro kh) (fv::ovs) h n=some x:=by
 have hn':=of_decide_eq_true hn;constructor
 .simp only[callee,hf,hv,ha]
 .simp only[cQ,Bj,hf,hv,ha];rw[if_pos ⟨hw,hn'⟩];exact hl
theorem UR{aA:List Nat}{lent:List (C×List Nat×List Nat)}{rs:List R}{outs:List T}{fu bu:fF}{m:Nat}(hz:eh h aA aA=some fu)(hb:fc n lent outs=some (bu,m)):
  uQ h n false aA lent (some (rs,outs))=some (ud (ir m rs).1,(ir m rs).2.1++bu++fu,aA++lent.flatMap (·.2.2),(ir m rs).2.2):=by
 simp only[uQ,hz,hb,aT,if_false]
theorem O1{sz id len k:Nat}{aq:List (List D)}{rd:List Nat}{r:List (C×List Nat×List Nat)}{ts:List T}{w:fF}(hl:aq.length=len)(hr:fc n r ts=some (w,k)):
  fc n ((.fy sz id 0 len,[id],rd)::r) (.sl sz aq::ts)=some ((id,some (.aM sz aq))::w,k):=by
 simp only[fc,hl,hr,and_self,if_true]
theorem O0{id k:Nat}{bv rd:List Nat}{r:List (C×List Nat×List Nat)}{ts' ts:List T}{w:fF}(hc:bv.contains id=true)(hr:fc (iF n ts').2.2 r ts=some (w,k)):
  fc n ((.op id 0,bv,rd)::r) (.pt ts'::ts)=some ((id,some (.box (iF n ts').1))::(iF n ts').2.1++bv.map (fun i=>(i,none))++w,k):=by
 simp only[fc,hr,hc,if_true]
theorem J1{c:C}{bv rd:List Nat}{k:Nat}{r:List (C×List Nat×List Nat)}{ts:List T}{w:fF}(hr:fc n r ts=some (w,k)):fc n ((c,bv,rd)::r) (.uS::ts)=some (bv.map (fun i=>(i,none))++w,k):=by simp[fc,hr]
theorem UW{c:C}{vs:List TV}{ms:List Bool}{as:List A}{aA i:List Nat}{lent:List (C×List Nat×List Nat)}{x:D}(hv:ed h 300 c=some (x,i))(hm:ms.headD false=false)(hr:gD h vs ms.tail=some (as,aA,lent)):
  gD h (.c c::vs) ms=some (.d x::as,i++aA,lent):=by simp only[gD,hr,hm,hv,aT,if_false]
theorem Q1{cs:List C}{vs:List TV}{ms:List Bool}{as:List A}{aA i:List Nat}{lent:List (C×List Nat×List Nat)}{xs:List D}(hv:dW h cs=some (xs,i))(hm:ms.headD false=false)(hr:gD h vs ms.tail=some (as,aA,lent)):
  gD h (.agg cs::vs) ms=some (.agg xs::as,i++aA,lent):=by simp only[gD,hr,hm,hv,aT,if_false]
theorem SH{c:C}{vs:List TV}{ms:List Bool}{as:List A}{aA bv rd:List Nat}{lent:List (C×List Nat×List Nat)}{t:T}(hv:eP h 300 c=some (t,bv,rd))(hm:ms.headD false=true)(hr:gD h vs ms.tail=some (as,aA,lent)):
  gD h (.c c::vs) ms=some (.mt t::as,aA,(c,bv,rd)::lent):=by simp only[gD,hr,hm,hv,if_true]
end
abbrev Tr:=List (List Nat×List Nat)
abbrev RX:=jP×bF×Tr
def Na(e:jP)(d:Option Nat)(h:bF)(tr:Tr)(top:Nat)(r:GZ):Option RX:=match r with|some (v,u,aA,m)=>if m<=top then some (put e d v,u++h,tr++[(aA,u.map (·.1))])else none|none=>none
def C5(call:Ev.Call)(aR i:Nat)(o:ol)(s:RX):Option RX:=match kz s.1 o.guard with|some true=>Na s.1 o.dst s.2.1 s.2.2 (aR+iW*(i+1)) (cQ call o.k (o.args.map (kU s.1)) s.2.1 (aR+iW*i))|some false=>some (drop s.1 o.dst,s.2.1,s.2.2++[([],[])])|none=>none
def Cj(calls:Nat->Ev.Call)(aR:Nat):List ol->Nat->RX->Option RX
 |[],_,s=>some s
 |o::r,i,s=>(C5 (calls i) aR i o s).bind (Cj calls aR r (i+1))
theorem OL{calls:Nat->Ev.Call}{aR:Nat}:∀(l:List ol)(i:Nat)(e:jP)(h:bF)(tr:Tr)(e':jP)(h':bF)(tr':Tr),Cj calls aR l i (e,h,tr)=some (e',h',tr')->
  ∃t,nr calls aR l i e h=some (e',h',t)/\tr'=tr++t:=by
 intro l;induction l with
 |nil=>
  intro i e h tr e' h' tr' hh;obtain⟨rfl,rfl,rfl⟩:e=e'/\h=h'/\tr=tr':=by simpa[Cj]using hh
  exact⟨[],rfl,by simp⟩
 |cons o r ih=>
  intro i e h tr e' h' tr' hh;unfold Cj C5 at hh;unfold nr;cases hw:kz e o.guard with
  |none=>simp[hw]at hh
  |some b=>
   cases b with
   |false=>simp only[hw,af]at hh;obtain⟨t,h1,h2⟩:=ih _ _ _ _ _ _ _ hh;exact⟨([],[])::t,by simp[h1],by simp[h2]⟩
   |true=>
    simp only[hw]at hh;cases hv:cQ (calls i) o.k (o.args.map (kU e)) h (aR+iW*i)with
    |none=>simp[hv,Na]at hh
    |some p=>
     obtain⟨v,u,aA,m⟩:=p;simp only[hv,Na]at hh;by_cases hm:m<=aR+iW*(i+1)
     .rw [if_pos hm,af]at hh;obtain⟨t,h1,h2⟩:=ih _ _ _ _ _ _ _ hh;exact⟨(aA,u.map (·.1))::t,by simp[hm,h1],by simp[h2]⟩
     .rw [if_neg hm]at hh;simp at hh
theorem Gy{calls calls':Nat->Ev.Call}{aR:Nat}:∀(l:List ol)(i:Nat)(s:RX),(∀j,i<=j->calls j=calls' j)->Cj calls aR l i s=Cj calls' aR l i s:=by intro l;induction l with|nil=>intro i s _;rfl|cons o r ih=>intro i s hc;simp only[Cj,hc i (au _)];congr 1;funext s';exact ih (i+1) s' fun j hj=>hc j (by omega)
def WD(P:Program)(aR:Nat)(ops:List ol)(i:Nat)(e:jP)(h:bF)(tr:Tr)(Q:jP->bF->Tr->Prop):Prop:=∃calls,(∀j,ny P (calls j))/\∃e' h' tr',Cj calls aR ops i (e,h,tr)=some (e',h',tr')/\Q e' h' tr'
theorem Ny{Q:sn->St->Prop}{ops:List ol}{dyn:List (Nat×Nat)}{nc:List Nat}
  (hw:WD P n ops 0 e h [] fun e' h' tr=>Bo tr dyn=true/\wk (Q .normal) ⟨e',h',n+iW*ops.length,gh⟩):W P (.drawn ops dyn nc) ⟨e,h,n,gh⟩ Q:=by
 obtain⟨calls,hok,e',h',tr',h1,hd,hq⟩:=hw;obtain⟨t,h4,ht⟩:=OL _ _ _ _ _ _ _ _ h1;obtain rfl:tr'=t:=by simpa using ht
 exact⟨_,Sub.refl _,calls,e',h',_,hok,h4,hd,hq⟩
section
variable{aR i:Nat}{ops r:List ol}{tr:Tr}{Q:jP->bF->Tr->Prop}{d:Nat}{k:K}{args:List Operand}{v:TV}{u:fF}{aA:List Nat}{m g:Nat}{b c:Bool}
theorem SO(hq:Q e h tr):WD P aR [] i e h tr Q:=⟨fun _=>qt,fun _=>qP,e,h,tr,rfl,hq⟩
theorem ME{call:Ev.Call}{o:ol}{e1:jP}{h1:bF}{tr1:Tr}(hok:ny P call)(hs:C5 call aR i o (e,h,tr)=some (e1,h1,tr1))(hq:WD P aR r (i+1) e1 h1 tr1 Q):WD P aR (o::r) i e h tr Q:=by
 obtain⟨calls,hc,e',h',tr',h2,h3⟩:=hq;refine⟨fun j=>if j=i then call else calls j,fun j=>?_,e',h',tr',?_,h3⟩
 .show ny P (if j=i then call else calls j);split
  .exact hok
  .exact hc j
 .simp only[Cj,if_true,hs,af];rw[Gy (calls':=calls) r (i+1) _ fun j hj=>if_neg (by omega)];exact h2
theorem Rv{e:jP}{dd:Option Nat}{top:Nat}(hm:m<=top):Na e dd h tr top (some (v,u,aA,m))=some (put e dd v,u++h,tr++[(aA,u.map (·.1))]):=by simp only[Na];rw[if_pos hm]
theorem NZ:aR+iW*i<=aR+iW*(i+1):=by simp only[iW];omega
end
section
variable{R:St->Prop}{Q:sn->St->Prop}{id id':Nat}
end
inductive Fg:bF->bF->Prop
 |nil:Fg [] []
 |cons {p:Nat×Option Ob} {a b:bF} (h:Fg a b):Fg (p::a) (p::b)
 |skip {i:Nat} {a b:bF} (h:Fg a b):Fg a ((i,none)::b)
end
end Go.Ev
