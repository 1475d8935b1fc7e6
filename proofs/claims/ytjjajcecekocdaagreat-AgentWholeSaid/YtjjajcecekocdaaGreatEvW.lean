/- A region in any order, against the text's order. Conditions: operations whose names meet are ordered by the text; operations whose objects meet are ordered by the text, or the check at the run says that they do not meet. -/
import Derived.Test.YtjjajcecekocdaaGreatEvR
import Derived.Orders
import Derived.Scope
open Array renaming getD->kU,getD_eq_getD_getElem?->bN,getElem?_eq_getElem->mm,getElem?_eq_some_iff->bk,getElem?_toList->bc
open Bool renaming and_eq_true->ak,false_eq_true->aH,or_eq_true->gu
open Classical renaming choose->jp,choose_spec->fC
open List renaming all_eq_true->a_,flatMap_append->mw,getD_eq_getElem?_getD->fQ,getElem?_eq_getElem->aC,getElem?_eq_some_iff->ap,getElem?_map->aQ,length_cons->c_,length_eq_zero_iff->bA,map_cons->aq,mem_append->ao,mem_append_left->aI,mem_append_right->aG,mem_cons->aN,mem_cons_of_mem->aF,mem_cons_self->dL,mem_flatten->eP,mem_of_getElem?->bp,nodup_append->cD
open List.Sublist renaming refl->bY
open Nat renaming add_assoc->dz,add_sub_cancel'->kj,add_zero->eL,le_refl->am,lt_or_ge->jQ,mul_le_mul_left->mq,zero_add->bG
open Option renaming bind_some->ah,map_eq_some_iff->aP
open Option.some renaming inj->aa,injEq->bM
open Prod.mk renaming inj->af,injEq->cF
noncomputable section
namespace Go.Ev
def Ak:Ev.K->Nat
 |.mv|.pick|.build _ _|.nilCheck|.th _|.vz _|.rS _ _|.zJ _ _|.un _|.wl _|.EL _|.t8|.Jb _|.fieldAddr _ _|.field _ _ _
 |.indexAddr _ _|.p9|.index _ _ _|.extract _|.len _|.sC _|.gk=>0
 |.load _ _|.lookup _ _ _ _ _|.slice _ _ _ _=>1
 |_=>2
set_option maxHeartbeats 2000000 in
theorem LJ{call:Call}{k:Ev.K}{vs:List (Option TV)}{H:bC}{nxt n:Nat}{v:TV}{u:eS}{az:List Nat}(hk:Ak k<=1)(h:cC call k vs H nxt=some (v,u,az,n)):u=[]:=by
 cases k<;>first
  |(simp[Ak]at hk;done)
  |(unfold cC at h
    repeat' split at h
    all_goals first
     |(simp at h;done)
     |(simp only[bM,cF]at h;exact h.2.1.symm)
     |(simp_all;done))
set_option maxHeartbeats 2000000 in
theorem LI{call:Call}{k:Ev.K}{vs:List (Option TV)}{H:bC}{nxt n:Nat}{v:TV}{u:eS}{az:List Nat}(hk:Ak k=0)(h:cC call k vs H nxt=some (v,u,az,n)):az=[]:=by
 cases k<;>first
  |(simp[Ak]at hk;done)
  |(unfold cC at h
    repeat' split at h
    all_goals first
     |(simp at h;done)
     |(simp only[bM,cF]at h;exact h.2.2.1.symm)
     |(simp_all;done))
def qd(acc:List Nat):List Edge->Nat
 |[]=>0
 |e::r=>if Region.binds .any e then(qd acc r)|||2^e.on|||acc.getD e.on 0 else qd acc r
def Nh:List Oper->List Nat->List Nat
 |[],acc=>acc
 |o::r,acc=>Nh r (acc++[qd acc o.after.toList])
def zk(m:List Nat):List Oper->Nat->Bool
 |[],_=>true
 |o::r,i=>m.getD i 0==qd m o.after.toList&&o.after.toList.all (fun e=>!(Region.binds .any e)||decide (e.on<i))&&zk m r (i+1)
def e9(m:List Nat)(i j:Nat):Bool:=(m.getD j 0).testBit i
def Za:Operand->Option Nat
 |.tmp t=>some t
 |_=>none
def Gd(o:mO):List Nat:=o.args.filterMap Za++(match o.guard with|some (t,_)=>[t]|none=>[])
def Gm(d:Option Nat)(l:List Nat):Bool:=match d with|some d=>l.contains d|none=>false
def zR(a b:mO):Bool:=Gm a.dst (Gd b)||Gm b.dst (Gd a)||Gm a.dst b.dst.toList
def vO(m:List Nat)(i:Nat)(a:mO):List mO->Nat->Bool
 |[],_=>true
 |b::r,j=>(e9 m i j||!zR a b)&&vO m i a r (j+1)
def yR(m:List Nat):List mO->Nat->Bool
 |[],_=>true
 |a::r,i=>vO m i a r (i+1)&&yR m r (i+1)
def FF:Value->Value->Bool
 |.int k a,.int k' b=>decide (k=k')&&decide (a=b)
 |.bool a,.bool b=>decide (a=b)
 |.string a,.string b=>decide (a.toList=b.toList)
 |.float k a,.float k' b=>decide (k=k')&&decide (a=b)
 |.slice none 0 0,.slice none 0 0|.pointer none,.pointer none|.map none,.map none|.nilFunc,.nilFunc|.nilIface,.nilIface=>true
 |_,_=>false
def AX:List Value->List Value->Bool
 |[],[]=>true
 |x::xs,y::ys=>FF x y&&AX xs ys
 |_,_=>false
def AT:Ev.K->Ev.K->Bool
 |.lookup ka ks va z false,.mapEntry ka' ks' va' z'=>decide (ka=ka')&&decide (ks=ks')&&decide (va=va')&&AX z z'
 |_,_=>false
def xg(m:List Nat)(i:Nat)(a:mO):List mO->Nat->List (Nat×Nat)
 |[],_=>[]
 |b::r,j=>if e9 m i j||Ak b.k==0||Ak b.k+Ak a.k<=2 then xg m i a r (j+1)else(i,if AT a.k b.k then 1000+j else j)::xg m i a r (j+1)
def t7(m:List Nat):List mO->Nat->List (Nat×Nat)
 |[],_=>[]
 |a::r,i=>(if Ak a.k==0 then[]else xg m i a r (i+1))++t7 m r (i+1)
def xl(ops:List Oper)(cops:List mO)(mV:List Nat):CC:=
 let m:=Nh ops []
 if zk m ops 0&&yR m cops 0&&decide (cops.length<=1000)then .drawn cops (t7 m cops 0) mV else .gk
theorem AF{acc:List Nat}{j:Nat}:∀{es:List Edge},(qd acc es).testBit j=true->∃e∈es,Region.binds .any e=true/\(e.on=j\/(acc.getD e.on 0).testBit j=true):=by
 intro es;induction es with
 |nil=>intro h;simp[qd]at h
 |cons e r ih=>
  intro h;simp only[qd]at h;split at h
  .rename_i hb;simp only[Nat.testBit_or,gu,Nat.testBit_two_pow,decide_eq_true_eq]at h;rcases h with(h|h)|h
   .obtain ⟨e',he,h'⟩:=ih h;exact⟨e',aF _ he,h'⟩
   .exact ⟨e,dL,hb,.inl h⟩
   .exact ⟨e,dL,hb,.inr h⟩
  .obtain ⟨e',he,h'⟩:=ih h;exact⟨e',aF _ he,h'⟩
theorem FZ{m:List Nat}:∀{l:List Oper}{i:Nat},zk m l i=true->∀(k:Nat)(o:Oper),l[k]?=some o->
  (∀j,e9 m j (i+k)=true->∃e∈o.after,Region.binds .any e=true/\(e.on=j\/e9 m j e.on=true))/\∀e∈o.after,Region.binds .any e=true->e.on<i+k:=by
 intro l;induction l with
 |nil=>intro i _ k o hk;simp at hk
 |cons o0 r ih=>
  intro i h k o hk;simp only[zk,ak]at h;obtain⟨⟨h1,h2⟩,h3⟩:=h;cases k with
  |zero=>
   obtain rfl:o0=o:=by simpa using hk
   refine⟨fun j hj=>?_,fun e he hb=>?_⟩
   .unfold e9 at hj;rw[eL,(by simpa using h1:m.getD i 0=_)]at hj;obtain⟨e,he,h'⟩:=AF hj;exact⟨e,by simpa using he,h'⟩
   .have:=a_.1 h2 e (by simpa using he);simpa[hb]using this
  |succ k=>have:=ih h3 k o (by simpa using hk);rw[show i+1+k=i+(k+1)by omega]at this;exact this
theorem Aq{m:List Nat}{i:Nat}{a:mO}:∀{l:List mO}{j:Nat},vO m i a l j=true->∀(k:Nat)(b:mO),l[k]?=some b->e9 m i (j+k)=true\/zR a b=false:=by
 intro l;induction l with
 |nil=>intro j _ k b hk;simp at hk
 |cons b0 r ih=>
  intro j h k b hk;simp only[vO,ak]at h;cases k with
  |zero=>
   obtain rfl:b0=b:=by simpa using hk
   simpa using h.1
  |succ k=>have:=ih h.2 k b (by simpa using hk);rwa[show j+1+k=j+(k+1)by omega]at this
theorem FE{m:List Nat}:∀{l:List mO}{i:Nat},yR m l i=true->∀(k k':Nat)(a b:mO),l[k]?=some a->l[k']?=some b->k<k'->e9 m (i+k) (i+k')=true\/zR a b=false:=by
 intro l;induction l with
 |nil=>intro i _ k k' a b hk;simp at hk
 |cons a0 r ih=>
  intro i h k k' a b hk hk' hlt;simp only[yR,ak]at h;cases k' with
  |zero=>omega
  |succ k'=>
   cases k with
   |zero=>
    obtain rfl:a0=a:=by simpa using hk
    have:=Aq h.1 k' b (by simpa using hk');rwa[show i+1+k'=i+(k'+1)by omega]at this
   |succ k=>have:=ih h.2 k k' a b (by simpa using hk) (by simpa using hk') (by omega);rwa[show i+1+k=i+(k+1)by omega,show i+1+k'=i+(k'+1)by omega]at this
theorem ED{m:List Nat}{i:Nat}{a:mO}:∀{l:List mO}{j:Nat},∀(k:Nat)(b:mO),l[k]?=some b->e9 m i (j+k)=true\/Ak b.k=0\/Ak b.k+Ak a.k<=2\/(i,if AT a.k b.k then 1000+(j+k)else j+k)∈xg m i a l j:=by
 intro l;induction l with
 |nil=>intro j k b hk;simp at hk
 |cons b0 r ih=>
  intro j k b hk;cases k with
  |zero=>
   obtain rfl:b0=b:=by simpa using hk
   simp only[xg];split
   .rename_i h;simp only[gu,beq_iff_eq,decide_eq_true_eq]at h;rcases h with(h|h)|h
    .exact .inl h
    .exact .inr (.inl h)
    .exact .inr (.inr (.inl h))
   .exact .inr (.inr (.inr (dL ..)))
  |succ k=>
   have:=ih (j:=j+1) k b (by simpa using hk);rw[show j+1+k=j+(k+1)by omega]at this;rcases this with h|h|h|h
   .exact .inl h
   .exact .inr (.inl h)
   .exact .inr (.inr (.inl h))
   .refine .inr (.inr (.inr ?_));simp only[xg];split
    .exact h
    .exact aF _ h
theorem EE{m:List Nat}:∀{l:List mO}{i:Nat},∀(k k':Nat)(a b:mO),l[k]?=some a->l[k']?=some b->k<k'->
  e9 m (i+k) (i+k')=true\/Ak a.k=0\/Ak b.k=0\/Ak b.k+Ak a.k<=2\/(i+k,if AT a.k b.k then 1000+(i+k')else i+k')∈t7 m l i:=by
 intro l;induction l with
 |nil=>intro i k k' a b hk;simp at hk
 |cons a0 r ih=>
  intro i k k' a b hk hk' hlt;cases k' with
  |zero=>omega
  |succ k'=>
   cases k with
   |zero=>
    obtain rfl:a0=a:=by simpa using hk
    have:=ED (m:=m) (i:=i) (a:=a0) (j:=i+1) k' b (by simpa using hk');rw[show i+1+k'=i+(k'+1)by omega]at this;rcases this with h|h|h|h
    .exact .inl h
    .exact .inr (.inr (.inl h))
    .exact .inr (.inr (.inr (.inl h)))
    .by_cases e:Ak a0.k=0
     .exact .inr (.inl e)
     .refine .inr (.inr (.inr (.inr ?_)));simp only[t7,beq_iff_eq,e,if_false];exact aI _ h
   |succ k=>
    have:=ih (i:=i+1) k k' a b (by simpa using hk) (by simpa using hk') (by omega);rw[show i+1+k=i+(k+1)by omega,show i+1+k'=i+(k'+1)by omega]at this;rcases this with h|h|h|h|h
    .exact .inl h
    .exact .inr (.inl h)
    .exact .inr (.inr (.inl h))
    .exact .inr (.inr (.inr (.inl h)))
    .exact .inr (.inr (.inr (.inr (by simp only[t7];exact aG _ h))))
theorem IB{a b:Value}(h:FF a b=true):a=b:=by
 unfold FF at h;split at h<;>first|rfl|(simp at h;done)|skip
 .obtain ⟨rfl,rfl⟩:_/\_:=by simpa using h
  rfl
 .obtain rfl:_=_:=by simpa using h
  rfl
 .rename_i x y;have:x.toList=y.toList:=by simpa using h
  rw[ByteArray.toList_eq,ByteArray.toList_eq]at this;obtain⟨⟨x⟩⟩:=x;obtain⟨⟨y⟩⟩:=y;have e:x=y:=by simpa using this
  rw[e]
 .obtain ⟨rfl,rfl⟩:_/\_:=by simpa using h
  rfl
theorem KJ:∀{a b:List Value},AX a b=true->a=b:=by
 intro a;induction a with
 |nil=>intro b h;cases b<;>simp_all[AX]
 |cons x a ih=>intro b h;cases b with|nil=>simp[AX]at h|cons y b=>simp only[AX,ak]at h;rw[IB h.1,ih h.2]
theorem LK:∀{ks:List Kd}{a b:List Value},yn ks a=true->yn ks b=true->∃r,gB ks a b=some r:=by
 intro ks;induction ks with
 |nil=>intro a b h1 h2;cases a<;>cases b<;>simp_all[yn,gB]
 |cons k ks ih=>
  intro a b h1 h2;cases a with
  |nil=>simp[yn]at h1
  |cons x a=>
   cases b with
   |nil=>simp[yn]at h2
   |cons y b=>
    simp only[yn,ak]at h1 h2;obtain⟨r,hr⟩:=ih h1.2 h2.2;have hk:∃q,C3 k x y=some q:=by have ha:=h1.1;have hb:=h2.1;cases k<;>cases x<;>cases y<;>simp_all[Jj,C3]
    obtain⟨q,hq⟩:=hk;exact⟨q&&r,by simp[gB,hq,hr]⟩
theorem Js{ks:List Kd}{key:List Value}{e:rY}:∀{es:List rY}{i:Nat},
  mF ks key (es++[e]) i=(match mF ks key es i with|some (some j)=>some (some j)|some none=>(match gB ks key e.1 with|some true=>some (some (i+es.length))|some false=>some none|none=>none)|none=>none):=by
 intro es;induction es with
 |nil=>intro i;simp only[List.nil_append,mF,List.length_nil,eL];cases gB ks key e.1 with|none=>rfl|some b=>cases b<;>rfl
 |cons x es ih=>
  intro i;simp only[List.cons_append,mF];cases gB ks key x.1 with
  |none=>rfl
  |some b=>cases b with|true=>rfl|false=>simp only[ih,c_];rw[show i+1+es.length=i+(es.length+1)by omega]
theorem Mm{ks:List Kd}{key:List Value}:∀{es:List rY}{i j:Nat},mF ks key es i=some (some j)->j<i+es.length:=by
 intro es;induction es with
 |nil=>intro i j h;simp[mF]at h
 |cons x es ih=>
  intro i j h;simp only[mF]at h;split at h
  .obtain rfl:i=j:=by simpa using h
   simp
  .have:=ih h;simp only[c_];omega
  .simp at h
theorem Ea{ka:Bool}{ks:List Kd}{k:TV}{key:List Value}(h:nh ka ks k=some key):yn ks key=true:=by
 cases k with
 |agg cs=>
  simp only[nh]at h;split at h
  .exact (rL h).2
  .simp at h
 |c x=>
  simp only[nh]at h;split at h
  .exact (rL h).2
  .simp at h
 |ia xs=>simp[nh]at h
theorem Iu{call1 call2:Call}{k1 k2:Ev.K}{vs1 vs2:List (Option TV)}{H H':bC}{nx1 nx2 n n2 id:Nat}{v v2:TV}{u u2:eS}{ids2:List Nat}(hk:AT k1 k2=true)
  (h1:cC call1 k1 vs1 H nx1=some (v,u,[id],n)) (h2:cC call2 k2 vs2 H' nx2=some (v2,u2,ids2,n2)) (hs:aw H' id=aw H id) (ht:id∈u2.map (·.1)):
  cC call1 k1 vs1 (u2++H) nx1=some (v,u,[id],n):=by
 unfold AT at hk;split at hk
 .rename_i ka ks va z ka' ks' va' z';simp only[ak,decide_eq_true_eq]at hk;obtain⟨⟨⟨rfl,rfl⟩,rfl⟩,hz⟩:=hk;obtain rfl:=KJ hz
  match vs1,vs2,h1,h2 with
  |[some (.c m1),some kt1],[some (.c m2),some kt2],h1,h2=>
   change (match iQ ka ks va z false m1 kt1 H with|some (v,az)=>some (v,([]:eS),az,nx1)|none=>none)=_ at h1;change (match nN ka ks va z m2 kt2 H' with|some (v,u,az)=>some (v,u,az,nx2)|none=>none)=_ at h2;show(match iQ ka ks va z false m1 kt1 (u2++H)with|some (v,az)=>some (v,([]:eS),az,nx1)|none=>none)=_
   have key:iQ ka ks va z false m1 kt1 H=some (v,[id])->iQ ka ks va z false m1 kt1 (u2++H)=some (v,[id]):=by
    clear h1;intro h1;split at h2
    .rename_i v3 u3 ids3 h3;obtain⟨_,rfl,_,_⟩:v3=v2/\u3=u2/\ids3=ids2/\nx2=n2:=by simpa using h2
     unfold nN at h3;split at h3
     .rename_i id2 key2 hkey2;have hok2:=Ea hkey2;split at h3
      .rename_i ka2 va2 es bP hob;split at h3
       .rename_i hkv;obtain⟨rfl,rfl⟩:=hkv
        -- what is laid anew
        have hu:∃es' clock',u3=[(id2,some (.map ka2 va2 es' clock'))]/\(es'=es\/es'=es++[(key2,dn z,bP)]):=by
         split at h3
         .split at h3
          .obtain ⟨_,rfl,_⟩:=(by simpa using h3:_/\_/\_)
           exact⟨_,_,rfl,.inl rfl⟩
          .simp at h3
         .split at h3
          .obtain ⟨_,rfl,_⟩:=(by simpa using h3:_/\_/\_)
           exact⟨_,_,rfl,.inr rfl⟩
          .simp at h3
         .simp at h3
        obtain⟨es',clock',rfl,hes⟩:=hu;obtain rfl:id=id2:=by simpa using ht
        have hl2:aw ([(id,some (Ob.map ka2 va2 es' clock'))]++H) id=some (.map ka2 va2 es' clock'):=by rw[gb,cg,if_pos rfl]
        rw[hs]at hob;unfold iQ at h1|-;split at h1
        .split at h1
         .simp at h1
         .simp at h1
        .rename_i id1 key1 hkey1;have hok1:=Ea hkey1
         have hid:id1=id:=by
          repeat' split at h1
          all_goals first
           |(simp at h1;done)
           |(obtain⟨_,h4⟩:=af (aa h1);simpa using h4)
         subst hid;simp only[hob,hl2,and_self,if_true]at h1|-;rcases hes with rfl|rfl
         .exact h1
         .rw [Js];split at h1
          .rename_i j hf;have hlt:=Mm hf;rw[bG]at hlt;simp only[hf];have e1:(es++[(key2,dn z,bP)]).getD j default=es.getD j default:=by simp only[fQ];rw[List.getElem?_append_left hlt]
           rw[e1];exact h1
          .rename_i hf;simp only[hf];obtain⟨r,hr⟩:=LK hok1 hok2;simp only[hr];cases r with
           |false=>exact h1
           |true=>
            have e1:(es++[(key2,dn z,bP)]).getD (0+es.length) default=(key2,dn z,bP):=by simp[fQ]
            simp only[e1];exact h1
          .simp at h1
        .simp at h1
       .simp at h3
      .simp at h3
     .simp at h3
    .simp at h2
   split at h1
   .rename_i v1 ids1 hl;obtain⟨rfl,rfl,rfl,rfl⟩:v1=v/\[]=u/\ids1=[id]/\nx1=n:=by simpa using h1
    rw[key hl]
   .simp at h1
 .simp at hk
abbrev G0:=Option (TV×eS×List Nat×Nat)
def Gv:G0->Option TV
 |some (v,_)=>some v
 |none=>some (.ia [])
def rl:G0->eS
 |some (_,u,_)=>u
 |none=>[]
def qc:G0->List Nat
 |some (_,_,r,_)=>r
 |none=>[]
def AL(call:Call)(aJ i:Nat)(o:mO)(e:iL)(h:bC)(f:G0)(e':iL)(h':bC):Prop:=match f with|some (v,u,az,n)=>j8 e o.guard=some true/\cC call o.k (o.args.map (ke e)) h (aJ+aD*i)=some (v,u,az,n)/\n<=aJ+aD*(i+1)/\e'=put e o.dst v/\h'=u++h|none=>j8 e o.guard=some false/\e'=drop e o.dst/\h'=h
theorem EI{calls:Nat->Call}{aJ:Nat}:∀(l:List mO)(i:Nat)(e:iL)(h:bC)(e':iL)(h':bC)(tr:List (List Nat×List Nat)),jH calls aJ l i e h=some (e',h',tr)->
  ∃(E:Nat->iL)(Hp:Nat->bC)(ef:Nat->G0),E 0=e/\Hp 0=h/\E l.length=e'/\Hp l.length=h'/\
   ∀(k:Nat)(o:mO),l[k]?=some o->AL (calls (i+k)) aJ (i+k) o (E k) (Hp k) (ef k) (E (k+1)) (Hp (k+1))/\tr[k]?=some (qc (ef k),(rl (ef k)).map (·.1)):=by
 intro l;induction l with
 |nil=>
  intro i e h e' h' tr hh;obtain⟨rfl,rfl,rfl⟩:e=e'/\h=h'/\[]=tr:=by simpa[jH]using hh
  exact⟨fun _=>e,fun _=>h,fun _=>none,rfl,rfl,rfl,rfl,fun k o hk=>by simp at hk⟩
 |cons o r ih=>
  intro i e h e' h' tr hh;simp only[jH]at hh
  have fin:∀(f:G0)(e1:iL)(h1:bC)(tr1:List (List Nat×List Nat)),jH calls aJ r (i+1) e1 h1=some (e',h',tr1)->AL (calls i) aJ i o e h f e1 h1->tr=(qc f,(rl f).map (·.1))::tr1->
    ∃(E:Nat->iL)(Hp:Nat->bC)(ef:Nat->G0),E 0=e/\Hp 0=h/\E (o::r).length=e'/\Hp (o::r).length=h'/\
     ∀(k:Nat)(o':mO),(o::r)[k]?=some o'->AL (calls (i+k)) aJ (i+k) o' (E k) (Hp k) (ef k) (E (k+1)) (Hp (k+1))/\tr[k]?=some (qc (ef k),(rl (ef k)).map (·.1)):=by
   intro f e1 h1 tr1 hrun hs htr;obtain⟨E,Hp,ef,a1,a2,a3,a4,a5⟩:=ih (i+1) e1 h1 e' h' tr1 hrun;refine⟨fun k=>match k with|0=>e|k+1=>E k,fun k=>match k with|0=>h|k+1=>Hp k,fun k=>match k with|0=>f|k+1=>ef k,rfl,rfl,a3,a4,fun k o' hk=>?_⟩;subst htr;cases k with
   |zero=>
    obtain rfl:o=o':=by simpa using hk
    refine⟨?_,by simp⟩;simp only[eL,a1,a2];exact hs
   |succ k=>have:=a5 k o' (by simpa using hk);rw[show i+1+k=i+(k+1)by omega]at this;exact⟨this.1,by simpa using this.2⟩
  split at hh
  .rename_i hw;split at hh
   .rename_i v u az n hev;split at hh
    .rename_i hn;split at hh
     .rename_i e1 h1 tr1 hrun;obtain⟨rfl,rfl,rfl⟩:e1=e'/\h1=h'/\_=tr:=by simpa using hh
      exact fin (some (v,u,az,n)) _ _ tr1 hrun ⟨hw,hev,hn,rfl,rfl⟩ rfl
     .simp at hh
    .simp at hh
   .simp at hh
  .rename_i hw;split at hh
   .rename_i e1 h1 tr1 hrun;obtain⟨rfl,rfl,rfl⟩:e1=e'/\h1=h'/\_=tr:=by simpa using hh
    exact fin none _ _ tr1 hrun ⟨hw,rfl,rfl⟩ rfl
   .simp at hh
  .simp at hh
section
variable(dst:Nat->Option Nat)(ef:Nat->G0)(D:Nat->Bool)(e0:Nat->Option TV)(h0:Nat->Option Ob)
def o8:Nat->Nat->Option TV
 |0,t=>e0 t
 |k+1,t=>if D k=true/\dst k=some t then Gv (ef k)else o8 k t
def j9:Nat->Nat->Option Ob
 |0,i=>h0 i
 |k+1,i=>if D k=true then(match cm (rl (ef k)) i with|some o=>o|none=>j9 k i)else j9 k i
end
def vI(ef:Nat->G0)(k id:Nat):Prop:=id∈(rl (ef k)).map (·.1)
theorem uE{α:Type}{u:List (Nat×α)}{id:Nat}(h:id∉u.map (·.1)):cm u id=none:=by
 induction u with
 |nil=>rfl
 |cons p r ih=>
  obtain⟨i,x⟩:=p;simp only[aq,aN,not_or]at h;have:(i==id)=false:=by simpa using fun e:i=id=>h.1 e.symm
  simp[cm,this,ih h.2]
theorem Mg{α:Type}{u:List (Nat×α)}{id:Nat}(h:id∈u.map (·.1)):∃x,cm u id=some x:=by
 induction u with
 |nil=>simp at h
 |cons p r ih=>
  obtain⟨i,x⟩:=p;by_cases e:i=id
  .exact ⟨x,by simp[cm,e]⟩
  .have e':(i==id)=false:=by simpa using e
   simp only[aq,aN]at h;rcases h with h|h
   .exact absurd h.symm e
   .simpa [cm,e']using ih h
section
variable{dst:Nat->Option Nat}{ef:Nat->G0}{D D':Nat->Bool}{E:Nat->iL}{Hp:Nat->bC}
theorem Cs{n i t:Nat}(hstep:∀k,k<n->∀t,cm (E (k+1)) t=if dst k=some t then Gv (ef k)else cm (E k) t)(hi:i<=n)
  (h1:∀k,k<i->dst k=some t->D k=true) (h2:∀k,i<=k->k<n->dst k=some t->D k=false):o8 dst ef D (cm (E 0)) n t=cm (E i) t:=by
 have a:∀k,k<=i->o8 dst ef D (cm (E 0)) k t=cm (E k) t:=by
  intro k;induction k with
  |zero=>intro _;rfl
  |succ k ih=>
   intro hk;rw[o8,hstep k (by omega)];by_cases hd:dst k=some t
   .rw [if_pos ⟨h1 k (by omega) hd,hd⟩,if_pos hd]
   .rw [if_neg (fun h=>hd h.2),if_neg hd,ih (by omega)]
 have b:∀d,i+d<=n->o8 dst ef D (cm (E 0)) (i+d) t=cm (E i) t:=by intro d;induction d with|zero=>intro _;exact a i (am _)|succ d ih=>intro hd;rw[<-dz,o8,if_neg,ih (by omega)];rintro⟨hD,hdst⟩;rw[h2 (i+d) (by omega) (by omega) hdst]at hD;simp at hD
 have:=b (n-i) (by omega);rwa[kj hi]at this
theorem zF{n i id:Nat}(hstep:∀k,k<n->∀id,aw (Hp (k+1)) id=match cm (rl (ef k)) id with|some o=>o|none=>aw (Hp k) id)(hi:i<=n)
  (h1:∀k,k<i->vI ef k id->D k=true) (h2:∀k,i<=k->k<n->vI ef k id->D k=false):j9 ef D (aw (Hp 0)) n id=aw (Hp i) id:=by
 have a:∀k,k<=i->j9 ef D (aw (Hp 0)) k id=aw (Hp k) id:=by
  intro k;induction k with
  |zero=>intro _;rfl
  |succ k ih=>
   intro hk;rw[j9,hstep k (by omega),ih (by omega)];by_cases ht:vI ef k id
   .rw [if_pos (h1 k (by omega) ht)]
   .rw [uE ht];simp
 have b:∀d,i+d<=n->j9 ef D (aw (Hp 0)) (i+d) id=aw (Hp i) id:=by
  intro d;induction d with
  |zero=>intro _;exact a i (am _)
  |succ d ih=>
   intro hd;rw[<-dz,j9,ih (by omega)];by_cases ht:vI ef (i+d) id
   .rw [if_neg (by simp[h2 (i+d) (by omega) (by omega) ht])]
   .rw [uE ht];simp
 have:=b (n-i) (by omega);rwa[kj hi]at this
theorem Mr{e0:Nat->Option TV}{n i t:Nat}(hi:i<n)(hD:∀k,k≠i->D' k=D k)(hDi:D' i=true)(hDi0:D i=false)
  (h:dst i=some t->∀k,i<k->k<n->D k=true->dst k≠some t):
  o8 dst ef D' e0 n t=if dst i=some t then Gv (ef i)else o8 dst ef D e0 n t:=by
 have a:∀k,k<=i->o8 dst ef D' e0 k t=o8 dst ef D e0 k t:=by intro k;induction k with|zero=>intro _;rfl|succ k ih=>intro hk;rw[o8,o8,hD k (by omega),ih (by omega)]
 have b:∀d,i+1+d<=n->o8 dst ef D' e0 (i+1+d) t=if dst i=some t then Gv (ef i)else o8 dst ef D e0 (i+1+d) t:=by
  intro d;induction d with
  |zero=>intro _;show o8 dst ef D' e0 (i+1) t=if dst i=some t then Gv (ef i)else o8 dst ef D e0 (i+1) t;rw[o8,o8,hDi,hDi0,a i (am _)];simp
  |succ d ih=>
   intro hd;rw[<-dz,o8,o8,hD (i+1+d) (by omega),ih (by omega)];by_cases hc:D (i+1+d)=true/\dst (i+1+d)=some t
   .rw [if_pos hc,if_pos hc,if_neg];intro hdi;exact h hdi (i+1+d) (by omega) (by omega) hc.1 hc.2
   .rw [if_neg hc,if_neg hc]
 have:=b (n-(i+1)) (by omega);rwa[kj (by omega)]at this
theorem Jo{h0:Nat->Option Ob}{n i id:Nat}(hi:i<n)(hD:∀k,k≠i->D' k=D k)(hDi:D' i=true)(hDi0:D i=false)
  (h:vI ef i id->∀k,i<k->k<n->D k=true->¬vI ef k id):
  j9 ef D' h0 n id=match cm (rl (ef i)) id with|some o=>o|none=>j9 ef D h0 n id:=by
 have a:∀k,k<=i->j9 ef D' h0 k id=j9 ef D h0 k id:=by intro k;induction k with|zero=>intro _;rfl|succ k ih=>intro hk;rw[j9,j9,hD k (by omega),ih (by omega)]
 have b:∀d,i+1+d<=n->j9 ef D' h0 (i+1+d) id=match cm (rl (ef i)) id with|some o=>o|none=>j9 ef D h0 (i+1+d) id:=by
  intro d;induction d with
  |zero=>
   intro _;show j9 ef D' h0 (i+1) id=match cm (rl (ef i)) id with|some o=>o|none=>j9 ef D h0 (i+1) id
   rw[j9,j9,hDi,hDi0,a i (am _)];simp
  |succ d ih=>
   intro hd;rw[<-dz,j9,j9,hD (i+1+d) (by omega),ih (by omega)];by_cases ht:vI ef i id
   .by_cases hc:D (i+1+d)=true
    .rw [uE (h ht (i+1+d) (by omega) (by omega) hc)];simp
    .rw [if_neg hc,if_neg hc]
   .rw [uE ht]
 have:=b (n-(i+1)) (by omega);rwa[kj (by omega)]at this
end
section
variable{P:Program}{S K:Nat->Prop}{w0 w:World}{Kn:Nat->Prop}{φ:Nat->gV}{gv:List Value}{nt:Nat}{a:Act}{call:Call}{calls:Nat->Call}{bz:ww}{s s':St}
 {ops:Array Oper} {l:List mO} {m:List Nat} {aJ:Nat} {E:Nat->iL} {Hp:Nat->bC} {ef:Nat->G0}
def rU(l:List mO)(k:Nat):Option Nat:=(l[k]?).bind (·.dst)
def QG(calls:Nat->Call)(l:List mO)(aJ:Nat)(E:Nat->iL)(Hp:Nat->bC)(ef:Nat->G0)(i j:Nat):Prop:=∃c v u id n,l[i]?=some c/\ef i=some (v,u,[id],n)/\cC (calls i) c.k (c.args.map (ke (E i))) (rl (ef j)++Hp i) (aJ+aD*i)=some (v,u,[id],n)
structure E9(P:Program)(bz:ww)(nt:Nat)(calls:Nat->Call)(ops:Array Oper)(l:List mO)(m:List Nat)(aJ:Nat)(E:Nat->iL)(Hp:Nat->bC)(ef:Nat->G0):Prop where
 len:l.length=ops.size
 ZE:∀(k:Nat)(o:Oper),ops[k]?=some o->l[k]?=some (gK P bz nt ops o)
 pN:∀(k:Nat)(c:mO),l[k]?=some c->AL (calls k) aJ k c (E k) (Hp k) (ef k) (E (k+1)) (Hp (k+1))
 XF:∀(k:Nat)(o:Oper),ops[k]?=some o->(∀j,e9 m j k=true->∃e∈o.after,Region.binds .any e=true/\(e.on=j\/e9 m j e.on=true))/\∀e∈o.after,Region.binds .any e=true->e.on<k
 YS:∀(i j:Nat)(a b:mO),l[i]?=some a->l[j]?=some b->i<j->e9 m i j=true\/zR a b=false
 YW:∀(i j:Nat),i<j->j<ops.size->e9 m i j=true\/((∀id,vI ef i id->id∉qc (ef j)/\¬vI ef j id)/\((∀id,vI ef j id->id∉qc (ef i))\/QG calls l aJ E Hp ef i j))
theorem AL.dE{i:Nat}{o:mO}{e e':iL}{h h':bC}{f:G0}(hs:AL call aJ i o e h f e' h')(t:Nat):cm e' t=if o.dst=some t then Gv f else cm e t:=by cases f with|none=>obtain⟨_,rfl,_⟩:=hs;rw[zH];rfl|some p=>obtain⟨v,u,r,n⟩:=p;obtain⟨_,_,_,rfl,_⟩:=hs;rw[lX];rfl
theorem AL.heap{i:Nat}{o:mO}{e e':iL}{h h':bC}{f:G0}(hs:AL call aJ i o e h f e' h')(id:Nat):aw h' id=match cm (rl f) id with|some o=>o|none=>aw h id:=by cases f with|none=>obtain⟨_,_,rfl⟩:=hs;rfl|some p=>obtain⟨v,u,r,n⟩:=p;obtain⟨_,_,_,_,rfl⟩:=hs;rw[gb];rfl
theorem On{e':iL}{h':bC}{e:iL}{h:bC}{tr:List (List Nat×List Nat)}(hl:l=ops.toList.map (gK P bz nt ops))(hord:zk m ops.toList 0=true)(hsch:yR m l 0=true)
  (hev:jH calls aJ l 0 e h=some (e',h',tr)) (hdyn:zM tr (t7 m l 0)=true) (hsmall:l.length<=1000):
  ∃E Hp ef,E9 P bz nt calls ops l m aJ E Hp ef/\E 0=e/\Hp 0=h/\E ops.size=e'/\Hp ops.size=h':=by
 obtain⟨E,Hp,ef,h1,h2,h3,h4,h5⟩:=EI l 0 e h e' h' tr hev;have hlen:l.length=ops.size:=by rw[hl];simp
 refine⟨E,Hp,ef,⟨hlen,?_,?_,?_,?_,?_⟩,h1,h2,hlen▸h3,hlen▸h4⟩
 .intro k o hk;rw[hl,aQ,bc,hk];rfl
 .intro k c hk;have:=(h5 k c hk).1;rwa[bG]at this
 .intro k o hk;have:=FZ hord k o (by rw[bc];exact hk);rwa[bG]at this
 .intro i j a b ha hb hij;have:=FE hsch i j a b ha hb hij;rwa[bG,bG]at this
 .intro i j hij hj;have hi':i<l.length:=by omega
  have hj':j<l.length:=by omega
  obtain⟨a,ha⟩:∃a,l[i]?=some a:=⟨_,aC hi'⟩
  obtain⟨b,hb⟩:∃b,l[j]?=some b:=⟨_,aC hj'⟩
  have sa:=h5 i a ha;have sb:=h5 j b hb;have noU:∀(k:Nat)(c:mO),AL (calls (0+k)) aJ (0+k) c (E k) (Hp k) (ef k) (E (k+1)) (Hp (k+1))->Ak c.k<=1->∀id,¬vI ef k id:=by intro k c hs hc id ht;unfold vI at ht;generalize hf:ef k=f at hs ht;cases f with|none=>simp[rl]at ht|some p=>obtain⟨v,u,r,n⟩:=p;obtain⟨_,hev1,_⟩:=hs;rw[show rl (some (v,u,r,n))=u from rfl,LJ hc hev1]at ht;simp at ht
  have noR:∀(k:Nat)(c:mO),AL (calls (0+k)) aJ (0+k) c (E k) (Hp k) (ef k) (E (k+1)) (Hp (k+1))->Ak c.k=0->∀id,id∉qc (ef k):=by intro k c hs hc id ht;generalize hf:ef k=f at hs ht;cases f with|none=>simp[qc]at ht|some p=>obtain⟨v,u,r,n⟩:=p;obtain⟨_,hev1,_⟩:=hs;rw[show qc (some (v,u,r,n))=r from rfl,LI hc hev1]at ht;simp at ht
  rcases EE (m:=m) (i:=0) i j a b ha hb hij with h|h|h|h|h
  .rw [bG,bG]at h;exact .inl h
  .exact .inr ⟨fun id ht=>absurd ht (noU i a sa.1 (by omega) id),.inl fun id _=>noR i a sa.1 h id⟩
  .exact .inr ⟨fun id _=>⟨noR j b sb.1 h id,noU j b sb.1 (by omega) id⟩,.inl fun id ht=>absurd ht (noU j b sb.1 (by omega) id)⟩
  .by_cases ea:Ak a.k<=1
   .by_cases eb:Ak b.k<=1
    .exact .inr ⟨fun id ht=>absurd ht (noU i a sa.1 ea id),.inl fun id ht=>absurd ht (noU j b sb.1 eb id)⟩
    .have:Ak a.k=0:=by omega
     exact .inr ⟨fun id ht=>absurd ht (noU i a sa.1 (by omega) id),.inl fun id _=>noR i a sa.1 this id⟩
   .have:Ak b.k=0:=by omega
    exact .inr ⟨fun id _=>⟨noR j b sb.1 this id,noU j b sb.1 (by omega) id⟩,.inl fun id ht=>absurd ht (noU j b sb.1 (by omega) id)⟩
  .rw [bG,bG]at h
   have hapart:mH (qc (ef i),(rl (ef i)).map (·.1)) (qc (ef j),(rl (ef j)).map (·.1))=true->
     (∀id,vI ef i id->id∉qc (ef j)/\¬vI ef j id)/\((∀id,vI ef j id->id∉qc (ef i))\/QG calls l aJ E Hp ef i j):=by
    intro this;simp only[mH,ak,a_,Bool.not_eq_true',List.contains_eq_mem,decide_eq_false_iff_not]at this;exact⟨fun id ht=>⟨(this.1 id ht).1,(this.1 id ht).2⟩,.inl fun id ht=>this.2 id ht⟩
   have hd:=a_.1 hdyn _ h;by_cases hso:AT a.k b.k=true
   .rw [if_pos hso]at hd;simp only at hd;rw[if_pos (by omega),show 1000+j-1000=j by omega]at hd;simp only[FA,sa.2,sb.2,gu]at hd;rcases hd with hd|hd
    .exact .inr (hapart hd)
    .right;split at hd
     .rename_i id hab;obtain⟨hR,hU⟩:=af hab;refine⟨fun id ht=>by unfold vI at ht;rw[hU]at ht;simp at ht,?_⟩;by_cases htj:vI ef j id
      .right
       -- nobody between lays that object anew
       have hsame:∀k,i<=k->k<=j->aw (Hp k) id=aw (Hp i) id:=by
        intro k hk;induction k with
        |zero=>intro _;rw[show i=0 by omega]
        |succ k ih=>
         intro hkj;by_cases e:i=k+1
         .rw [e]
         .have hik:i<=k:=by omega
          rw[<-ih hik (by omega)];obtain⟨c,hc⟩:∃c,l[k]?=some c:=⟨_,aC (by omega)⟩
          have sk:=h5 k c hc;rw[sk.1.heap id]
          have hn:id∉(rl (ef k)).map (·.1):=by
           by_cases e2:k=i
           .subst e2;rw[hU];simp
           .have hm:(qc (ef k),(rl (ef k)).map (·.1))∈(tr.take j).drop (i+1):=by refine bp (i:=k-(i+1)) ?_;rw[List.getElem?_drop,show i+1+(k-(i+1))=k by omega,List.getElem?_take,if_pos (by omega)];exact sk.2
            have:=a_.1 hd _ hm;simpa using this
          rw[uE hn]
       have sai:=sa.1;have sbj:=sb.1;generalize hfi:ef i=fi at sai hR hU;generalize hfj:ef j=fj at sbj;cases fi with
       |none=>simp[qc]at hR
       |some p=>obtain⟨v,u,az,n⟩:=p;obtain rfl:az=[id]:=hR;cases fj with|none=>unfold vI at htj;rw[hfj]at htj;simp[rl]at htj|some q=>obtain⟨v2,u2,ids2,n2⟩:=q;unfold vI at htj;rw[hfj]at htj;obtain⟨_,hev1,_⟩:=sai;obtain⟨_,hev2,_⟩:=sbj;rw[bG]at hev1 hev2;exact⟨a,v,u,id,n,ha,hfi,by rw[hfj];exact Iu hso hev1 hev2 (hsame j (by omega) (am _)) htj⟩
      .left;intro id2 ht2;rw[hR];simp only[List.mem_singleton];rintro rfl;exact htj ht2
     .simp at hd
   .rw [if_neg hso]at hd;simp only at hd;rw[if_neg (by omega)]at hd;simp only[sa.2,sb.2]at hd;exact .inr (hapart hd)
def Ah(ops:Array Oper)(D:Nat->Bool):Prop:=∀(k:Nat)(o:Oper),ops[k]?=some o->D k=true->∀e∈o.after,Region.binds .any e=true->D e.on=true
theorem E9.MP(hp:E9 P bz nt calls ops l m aJ E Hp ef){D:Nat->Bool}(hc:Ah ops D){i:Nat}:∀(N j:Nat),j<N->j<ops.size->D j=true->e9 m i j=true->D i=true:=by
 intro N;induction N with
 |zero=>intro j hj;omega
 |succ N ih=>
  intro j hj hjn hD hb;have ho:ops[j]?=some ops[j]:=mm hjn;obtain⟨h1,h2⟩:=hp.XF j _ ho;obtain⟨e,he,hbd,h⟩:=h1 i hb;have hDe:=hc j _ ho hD e he hbd;rcases h with h|h
  .rw [<-h];exact hDe
  .have:=h2 e he hbd;exact ih e.on (by omega) (by omega) hDe h
theorem E9.Uk(hp:E9 P bz nt calls ops l m aJ E Hp ef){D:Nat->Bool}(hc:Ah ops D){i j:Nat}{o:Oper}(hi:ops[i]?=some o)(hall:∀e∈o.after,Region.binds .any e=true->D e.on=true)
  (hb:e9 m j i=true):D j=true:=by
 obtain⟨h1,h2⟩:=hp.XF i _ hi;obtain⟨e,he,hbd,h⟩:=h1 j hb;have hDe:=hall e he hbd;rcases h with h|h
 .rw [<-h];exact hDe
 .have:=h2 e he hbd;have hlt:i<ops.size:=(bk.1 hi).1;exact hp.MP hc (e.on+1) e.on (by omega) (by omega) hDe h
theorem HS{d:Option Nat}{l:List Nat}{t:Nat}(hd:d=some t)(h:t∈l):Gm d l=true:=by subst hd;simpa[Gm]using h
theorem E9.XA(hp:E9 P bz nt calls ops l m aJ E Hp ef){D:Nat->Bool}(hc:Ah ops D){i:Nat}{o:Oper}{c:mO}(hi:ops[i]?=some o)(hci:l[i]?=some c)(hD:D i=false)
  (hall:∀e∈o.after,Region.binds .any e=true->D e.on=true):
  (∀t∈Gd c,o8 (rU l) ef D (cm (E 0)) ops.size t=cm (E i) t)/\(∃G,(∀id∈qc (ef i),j9 ef D (aw (Hp 0)) ops.size id=aw G id)/\∀v u az n,ef i=some (v,u,az,n)->cC (calls i) c.k (c.args.map (ke (E i))) G (aJ+aD*i)=some (v,u,az,n))/\
  (∀t,c.dst=some t->∀k,i<k->k<ops.size->D k=true->rU l k≠some t)/\(∀id,vI ef i id->∀k,i<k->k<ops.size->D k=true->¬vI ef k id):=by
 have hlt:i<ops.size:=(bk.1 hi).1;have get:∀k,k<ops.size->∃b,l[k]?=some b:=fun k hk=>⟨_,aC (by rw[hp.len];exact hk)⟩;have lat:∀k,i<k->k<ops.size->e9 m i k=true->D k=false:=by intro k _ hk hb;cases hDk:D k with|false=>rfl|true=>rw[hp.MP hc (k+1) k (by omega) hk hDk hb]at hD;simp at hD
 refine⟨fun t ht=>?_,?_,fun t ht k hik hk hDk hdk=>?_,fun id ht k hik hk hDk htk=>?_⟩
 .refine Cs (fun k hk t=>?_) (Nat.le_of_lt hlt) (fun k hk hd=>?_) (fun k hik hk hd=>?_)
  .obtain ⟨b,hb⟩:=get k hk;have:=(hp.pN k b hb).dE t;rw[this];simp[rU,hb]
  .obtain ⟨b,hb⟩:=get k (by omega);have hbd:b.dst=some t:=by simpa[rU,hb]using hd
   rcases hp.YS k i b c hb hci hk with h|h
   .exact hp.Uk hc hi hall h
   .simp [zR,HS hbd ht]at h
  .rcases jQ i k with h1|h1
   .obtain ⟨b,hb⟩:=get k (by omega);have hbd:b.dst=some t:=by simpa[rU,hb]using hd
    rcases hp.YS i k c b hci hb h1 with h|h
    .exact lat k h1 hk h
    .simp [zR,HS hbd ht]at h
   .obtain rfl:k=i:=by omega
    exact hD
 .have hev:∀v u az n,ef i=some (v,u,az,n)->cC (calls i) c.k (c.args.map (ke (E i))) (Hp i) (aJ+aD*i)=some (v,u,az,n):=by intro v u az n hf;have hs:=hp.pN i c hci;rw[hf]at hs;exact hs.2.1
  by_cases hsoft:∃k,i<k/\k<ops.size/\D k=true/\∃id∈qc (ef i),vI ef k id
  .--the RM of those that came ahead
   obtain⟨k,⟨hik,hk,hDk,id0,hid0,ht0⟩,hmax⟩:∃k,(i<k/\k<ops.size/\D k=true/\∃id∈qc (ef i),vI ef k id)/\∀k',k<k'->¬(i<k'/\k'<ops.size/\D k'=true/\∃id∈qc (ef i),vI ef k' id):=by
    have:∀(N:Nat)(k:Nat),ops.size-k<=N->(i<k/\k<ops.size/\D k=true/\∃id∈qc (ef i),vI ef k id)->
      ∃k,(i<k/\k<ops.size/\D k=true/\∃id∈qc (ef i),vI ef k id)/\∀k',k<k'->¬(i<k'/\k'<ops.size/\D k'=true/\∃id∈qc (ef i),vI ef k' id):=by
     intro N;induction N with
     |zero=>intro k h1 h2;omega
     |succ N ihN=>
      intro k h1 h2;by_cases hm:∃k',k<k'/\(i<k'/\k'<ops.size/\D k'=true/\∃id∈qc (ef i),vI ef k' id)
      .obtain ⟨k',h3,h4⟩:=hm;exact ihN k' (by omega) h4
      .exact ⟨k,h2,fun k' h3 h4=>hm ⟨k',h3,h4⟩⟩
    obtain⟨k,h⟩:=hsoft;exact this _ k (am _) h
   rcases hp.YW i k hik hk with h|⟨_,h|h⟩
   .rw [lat k hik hk h]at hDk;simp at hDk
   .exact absurd hid0 (h id0 ht0)
   .obtain ⟨c',v,u,id,n,hc',hf,hev'⟩:=h;obtain rfl:c=c':=aa (hci.symm.trans hc');have hR:qc (ef i)=[id]:=by rw[hf];rfl
    refine⟨rl (ef k)++Hp i,fun id' hid'=>?_,fun v' u' ids' n' hf'=>?_⟩
    .obtain rfl:id'=id:=by rw[hR]at hid';simpa using hid'
     obtain rfl:id0=id':=by rw[hR]at hid0;simpa using hid0
     obtain⟨x,hx⟩:=Mg ht0
     have hlast:∀n',k<n'->n'<=ops.size->j9 ef D (aw (Hp 0)) n' id0=x:=by
      intro n' hkn;induction n' with
      |zero=>omega
      |succ n' ihn=>
       intro hn';simp only[j9];by_cases e:n'=k
       .subst e;rw[hx];simp[hDk]
       .have hno:¬(D n'=true/\vI ef n' id0):=fun hh=>hmax n' (by omega) ⟨by omega,by omega,hh.1,id0,hid',hh.2⟩;have:=ihn (by omega) (by omega);cases hDn:D n' with|false=>simpa[hDn]using this|true=>have hnt:¬vI ef n' id0:=fun h=>hno ⟨hDn,h⟩;rw[uE hnt];simpa[hDn]using this
     rw[hlast ops.size hk (am _),gb];simp only[bq,hx]
    .rw [hf]at hf';obtain⟨rfl,rfl,rfl,rfl⟩:v=v'/\u=u'/\[id]=ids'/\n=n':=by simpa using hf'
     exact hev'
  .refine ⟨Hp i,fun id hid=>?_,hev⟩;refine zF (fun k hk id=>?_) (Nat.le_of_lt hlt) (fun k hk hd=>?_) (fun k hik hk hd=>?_)
   .obtain ⟨b,hb⟩:=get k hk;exact(hp.pN k b hb).heap id
   .rcases hp.YW k i hk hlt with h|h
    .exact hp.Uk hc hi hall h
    .exact absurd hid (h.1 id hd).1
   .rcases jQ i k with h1|h1
    .cases hDk:D k with|false=>rfl|true=>exact absurd ⟨k,h1,hk,hDk,id,hid,hd⟩ hsoft
    .obtain rfl:k=i:=by omega
     exact hD
 .obtain ⟨b,hb⟩:=get k hk;have hbd:b.dst=some t:=by simpa[rU,hb]using hdk
  rcases hp.YS i k c b hci hb hik with h|h
  .rw [lat k hik hk h]at hDk;simp at hDk
  .simp [zR,ht,hbd,Gm]at h
 .rcases hp.YW i k hik hk with h|h
  .rw [lat k hik hk h]at hDk;simp at hDk
  .exact absurd htk (h.1 id ht).2
def JT(D:Nat->Bool):Nat->Nat
 |0=>0
 |k+1=>JT D k+if D k=true then 0 else 1
theorem Pz{D D':Nat->Bool}{i:Nat}(hD:∀k,k≠i->D' k=D k)(h1:D' i=true)(h0:D i=false):∀n,i<n->JT D' n+1=JT D n:=by
 have a:∀k,k<=i->JT D' k=JT D k:=by intro k;induction k with|zero=>intro _;rfl|succ k ih=>intro hk;simp only[JT];rw[ih (by omega),hD k (by omega)]
 intro n;induction n with
 |zero=>intro h;omega
 |succ n ih=>
  intro h;simp only[JT];by_cases e:i=n
  .subst e;rw[a i (am _),h1,h0];simp
  .have:=ih (by omega);rw[hD n (fun h=>e h.symm)];omega
theorem MO{D:Nat->Bool}:∀{n:Nat},JT D n=0->∀k,k<n->D k=true:=by
 intro n;induction n with
 |zero=>intro _ k hk;omega
 |succ n ih=>
  intro h k hk;simp only[JT]at h;by_cases e:k=n
  .subst e;by_cases hd:D k=true
   .exact hd
   .simp [hd]at h
  .exact ih (by omega) k (by omega)
theorem Py(n:Nat):JT (fun _=>false) n=n:=by induction n with|zero=>rfl|succ n ih=>simp[JT,ih]
theorem C5{e e':iL}{g:Option (Nat×Bool)}(h:∀t∈(match g with|some (t,_)=>[t]|none=>([]:List Nat)),cm e' t=cm e t):j8 e' g=j8 e g:=by cases g with|none=>rfl|some p=>obtain⟨t,b⟩:=p;simp only[j8,h t (by simp)]
theorem IR{e e':iL}:∀{args:List Operand},(∀t∈args.filterMap Za,cm e' t=cm e t)->args.map (ke e')=args.map (ke e):=by intro args h;refine List.map_congr_left fun x hx=>?_;cases x with|tmp t=>exact h t (List.mem_filterMap.2 ⟨.tmp t,hx,rfl⟩)|_=>rfl
theorem MA(mo:∀i,kE P (calls i))(hnt:nt<1000000000){Q:Exit->Act->World->Prop}(hp:E9 P bz nt calls ops l m aJ E Hp ef){S0:Nat->Prop}{ws:World}{gh:List C}
  (hQ:∀S' Kn' φ' a' w',gZ S0 ws S' w'->GX S' K w0 Kn' φ' gv nt ⟨E ops.size,Hp ops.size,aJ+aD*l.length,gh⟩ a' w'->Q .normal a' w'):
  ∀(fuel:Nat)(listed:Array Bool)(S:Nat->Prop)(Kn:Nat->Prop)(φ:Nat->gV)(a:Act)(w:World)(ec:iL)(hc:bC),
  listed.size=ops.size->JT (fun k=>listed.getD k false) ops.size<=fuel->Ah ops (fun k=>listed.getD k false)->
  (∀t,cm ec t=o8 (rU l) ef (fun k=>listed.getD k false) (cm (E 0)) ops.size t)->(∀id,aw hc id=j9 ef (fun k=>listed.getD k false) (aw (Hp 0)) ops.size id)->
  Inv S K w0 Kn φ (aw hc) w->iL.ok S w Kn φ ec a.tmps->a.tmps.size=nt->a.defers=[]->
  (∀j,Kn j->j<aJ\/∃i,i<ops.size/\listed.getD i false=true/\aJ+aD*i<=j/\j<aJ+aD*(i+1))->
  (∀(i:Nat)(c:C)(v:Value),gh[i]?=some c->gv[i]?=some v->RG S w Kn φ c v)->gZ S0 ws S w->wpAny P .any ops Q fuel listed a w:=by
 intro fuel;induction fuel with
 |zero=>
  intro listed S Kn φ a w ec hc hsz hcnt hcl henv hheap hI hE hts hdf hKn hgh hstp;have hall:=MO (Nat.le_zero.1 hcnt);refine⟨?_,?_⟩
  .rw [List.eq_nil_iff_forall_not_mem];intro i hi;obtain⟨h0,o,ho,_⟩:=mem_ready.1 hi;have hlt:i<ops.size:=(bk.1 ho).1;have h2:=hall i hlt;have hlt2:i<listed.size:=by omega
   simp[kU,hlt2]at h0 h2;rw[h0]at h2;simp at h2
  .refine hQ S Kn φ a w hstp ⟨?_,?_,hts,hdf,?_,hgh⟩
   .have:aw hc=aw (Hp ops.size):=by funext id;rw[hheap];refine zF (fun k hk id=>?_) (am _) (fun k hk _=>hall k hk) (fun k h1 h2 _=>by omega);exact(hp.pN k _ (aC (by rw[hp.len];exact hk))).heap id
    rw[<-this];exact hI
   .intro t x hx;refine hE t x ?_;rw[henv,<-hx];refine Cs (fun k hk t=>?_) (am _) (fun k hk _=>hall k hk) (fun k h1 h2 _=>by omega);have hb:l[k]?=some _:=aC (by rw[hp.len];exact hk);have:=(hp.pN k _ hb).dE t;rw[this];simp only[rU,hb,ah]
   .intro j hj hk;have hj':aJ+aD*l.length<=j:=hj;rw[hp.len]at hj';rcases hKn j hk with h|⟨i,hi,_,h1,h2⟩
    .omega
    .have:aD*(i+1)<=aD*ops.size:=mq _ (by omega);omega
 |succ fuel ih=>
  intro listed S Kn φ a w ec hc hsz hcnt hcl henv hheap hI hE hts hdf hKn hgh hstp
  have fin:(∀k,k<ops.size->listed.getD k false=true)->Q .normal a w:=by
   intro hall;refine hQ S Kn φ a w hstp ⟨?_,?_,hts,hdf,?_,hgh⟩
   .have:aw hc=aw (Hp ops.size):=by funext id;rw[hheap];refine zF (fun k hk id=>?_) (am _) (fun k hk _=>hall k hk) (fun k h1 h2 _=>by omega);exact(hp.pN k _ (aC (by rw[hp.len];exact hk))).heap id
    rw[<-this];exact hI
   .intro t x hx;refine hE t x ?_;rw[henv,<-hx];refine Cs (fun k hk t=>?_) (am _) (fun k hk _=>hall k hk) (fun k h1 h2 _=>by omega);have hb:l[k]?=some _:=aC (by rw[hp.len];exact hk);have:=(hp.pN k _ hb).dE t;rw[this];simp only[rU,hb,ah]
   .intro j hj hk;have hj':aJ+aD*l.length<=j:=hj;rw[hp.len]at hj';rcases hKn j hk with h|⟨i,hi,_,h1,h2⟩
    .omega
    .have:aD*(i+1)<=aD*ops.size:=mq _ (by omega);omega
  refine⟨fun hnil=>fin ?_,fun i hi=>?_⟩
  .--nothing is ready:all is done
   intro k;induction k using Nat.strongRecOn with
   |_ k ihk=>
    intro hk;cases hd:listed.getD k false with
    |true=>rfl
    |false=>
     exfalso;have ho:ops[k]?=some ops[k]:=mm hk
     have:k∈Region.ready .any ops listed:=by
      rw[mem_ready];refine⟨?_,_,ho,fun e he hbk=>?_⟩
      .have hlt2:k<listed.size:=by omega
       simp[kU,hlt2]at hd|-;exact hd
      .have:=(hp.XF k _ ho).2 e he hbk;exact ihk e.on this (by omega)
     rw[hnil]at this;simp at this
  .obtain ⟨h0,o,ho,hall⟩:=mem_ready.1 hi;have hlt:i<ops.size:=(bk.1 ho).1;have hlt2:i<listed.size:=by omega
   have hD:listed.getD i false=false:=by simp[kU,hlt2]at h0|-;exact h0
   have hci:=hp.ZE i o ho;have hstep:=hp.pN i _ hci;obtain⟨s1,s2,s3,s4⟩:=hp.XA (D:=fun k=>listed.getD k false) hcl ho hci hD hall;have hD':∀k,k≠i->(listed.setIfInBounds i true).getD k false=listed.getD k false:=fun k hk=>getD_set_ne false (fun e=>hk e.symm);have hDi:(listed.setIfInBounds i true).getD i false=true:=by simp[hlt2]
   have hcnt':JT (fun k=>(listed.setIfInBounds i true).getD k false) ops.size<=fuel:=by have:=Pz (D:=fun k=>listed.getD k false) (D':=fun k=>(listed.setIfInBounds i true).getD k false) hD' hDi hD ops.size hlt;omega
   have hcl':Ah ops (fun k=>(listed.setIfInBounds i true).getD k false):=by
    intro k o' ho' hk e he hb;by_cases e1:k=i
    .subst e1;obtain rfl:o=o':=by have:=ho.symm.trans ho';exact aa this
     exact getD_set_true (hall e he hb)
    .have hk':listed.getD k false=true:=by rw[<-hD' k e1];exact hk
     exact getD_set_true (hcl k o' ho' hk' e he hb)
   have hdstD:rU l i=o.dst:=by simp[rU,hci,gK]
   have henv':∀t,o8 (rU l) ef (fun k=>(listed.setIfInBounds i true).getD k false) (cm (E 0)) ops.size t=if o.dst=some t then Gv (ef i)else cm ec t:=by intro t;rw[Mr (D:=fun k=>listed.getD k false) hlt hD' hDi hD (fun hd=>s3 t (by rw[hdstD]at hd;exact hd)),hdstD,henv t]
   have hheap':∀id,j9 ef (fun k=>(listed.setIfInBounds i true).getD k false) (aw (Hp 0)) ops.size id=match cm (rl (ef i)) id with|some o=>o|none=>aw hc id:=by
    intro id;rw[Jo (D:=fun k=>listed.getD k false) hlt hD' hDi hD (fun ht=>s4 id ht),hheap id]
    all_goals(cases cm (rl (ef i)) id<;>rfl)
   have hwe:j8 ec (gK P bz nt ops o).guard=j8 (E i) (gK P bz nt ops o).guard:=by refine C5 fun t ht=>?_;rw[henv t];exact s1 t (aG _ ht)
   have hae:(gK P bz nt ops o).args.map (ke ec)=(gK P bz nt ops o).args.map (ke (E i)):=by refine IR fun t ht=>?_;rw[henv t];exact s1 t (aI _ ht)
   simp only[wpOp,ho];generalize hfe:ef i=f at hstep henv' hheap' s2;cases f with
   |none=>
    obtain⟨hw,_,_⟩:=hstep;rw[<-hwe]at hw;have hwant:=qp hE (by rw[hts];exact hnt) hw;rw[if_neg (by simp[hwant])];refine ih _ S Kn φ _ w (drop ec o.dst) hc (by simp[hsz]) hcnt' hcl' ?_ ?_ hI (iL.yu hE) (by rw[vT];exact hts) (by rw[sy];exact hdf) ?_ hgh hstp
    .intro t;rw[henv' t,zH];rfl
    .intro id;rw[hheap' id];rfl
    .intro j hj;rcases hKn j hj with h|⟨k,hk,h1,h2⟩
     .exact .inl h
     .exact .inr ⟨k,hk,getD_set_true h1,h2⟩
   |some p=>
    obtain⟨v,u,az,n⟩:=p;obtain⟨hw,hev,hn,_,_⟩:=hstep;rw[<-hwe]at hw;obtain⟨G,g1,g2⟩:=s2;have hev3:=g2 v u az n rfl;rw[<-hae]at hev3;have hev2:=JB (H':=hc) hev3 (fun id hid=>by rw[hheap id];exact g1 id hid);have hwant:=qp hE (by rw[hts];exact hnt) hw;rw[if_pos hwant];left
    have hdst:∀x,o.dst=some x->x<a.tmps.size:=by
     intro x hx;rw[hts];rcases jQ x nt with h1|h1
     .exact h1
     .exfalso;have:(gK P bz nt ops o).k=.gk:=by simp only[gK,hx];rw[if_neg (by simp;omega)]
      rw[this,fH]at hev2;simp at hev2
    have hk:xL P bz o.op=((gK P bz nt ops o).k,(gK P bz nt ops o).args):=by
     have:(gK P bz nt ops o).k=(xL P bz o.op).1:=by simp only[gK];rw[if_pos];cases hd:o.dst with|none=>rfl|some d=>have:=hdst d hd;rw[hts]at this;simpa using this
     rw[this];rfl
    have hfr:∀j,aJ+aD*i<=j->j<n->¬Kn j:=by
     intro j h1 h2 hk;rcases hKn j hk with h|⟨k,hkn,h3,h4,h5⟩
     .omega
     .have hne:k≠i:=by rintro rfl;rw[h3]at hD;simp at hD
      rcases jQ k i with h6|h6
      .have:aD*(k+1)<=aD*i:=mq _ (by omega);omega
      .have:aD*(i+1)<=aD*k:=mq _ (by omega);omega
    have hgo:=DN (mo i) hk hI hE hfr hev2;refine hgo _ _ fun val w' hDn=>?_;obtain⟨hle,S',φ',h1,h2,h3,h4⟩:=hDn;refine ih _ S' (o4 Kn (aJ+aD*i) n) φ' _ w' (put ec o.dst v) (u++hc) (by simp[hsz]) hcnt' hcl' ?_ ?_ ?_ (iL.KU hE h1 h2 hdst h3) (by rw[vT];exact hts) (by rw[sy];exact hdf) ?_ ?_ (hstp.trans h1)
    .intro t;rw[henv' t,lX];rfl
    .intro id;rw[hheap' id,gb];rfl
    .rw [gb];exact h4
    .intro j hj;rcases hj with hj|hj
     .rcases hKn j hj with h|⟨k,hk,h1,h2⟩
      .exact .inl h
      .exact .inr ⟨k,hk,getD_set_true h1,h2⟩
     .exact .inr ⟨i,hlt,hDi,hj.1,by omega⟩
    .intro i c v hc hv;exact(hgh i c v hc hv).mono h1 h2
theorem EJ(mo:∀i,kE P (calls i))(hnt:nt<1000000000){Q:Exit->Act->World->Prop}{e':iL}{h':bC}{tr:List (List Nat×List Nat)}(hl:l=ops.toList.map (gK P bz nt ops))
  (hord:zk m ops.toList 0=true) (hsch:yR m l 0=true) (hev:jH calls s.next l 0 s.dE s.heap=some (e',h',tr)) (hdyn:zM tr (t7 m l 0)=true) (hsmall:l.length<=1000)
  (hR:GX S K w0 Kn φ gv nt s a w)
  (hQ:∀S' Kn' φ' a' w',gZ S w S' w'->GX S' K w0 Kn' φ' gv nt ⟨e',h',s.next+aD*l.length,s.gh⟩ a' w'->Q .normal a' w'):
  wpAny P .any ops Q ops.size (Array.replicate ops.size false) a {w with drawn:=w.drawn+1}:=by
 obtain⟨E,Hp,ef,hp,h1,h2,h3,h4⟩:=On hl hord hsch hev hdyn hsmall;have hd:∀k,(Array.replicate ops.size false).getD k false=false:=by intro k;simp only[bN,Array.getElem?_replicate];split<;>rfl
 have eU:gZ S w S {w with drawn:=w.drawn+1}:=gZ.uQ S w _;refine MA (gv:=gv) (K:=K) (w0:=w0) mo hnt hp (S0:=S) (ws:=w) (gh:=s.gh) ?_ ops.size _ S Kn φ a _ s.dE s.heap (by simp) ?_ ?_ ?_ ?_ (hR.inv.uQ _ (Nat.le_succ _)) ?_ hR.size hR.defers ?_ ?_ eU
 .rw [h3,h4];exact hQ
 .simp only[hd,Py];exact am _
 .intro k o _ hk;simp only[hd]at hk;simp at hk
 .intro t;simp only[hd];rw[h1];have:∀k,o8 (rU l) ef (fun _=>false) (cm s.dE) k t=cm s.dE t:=by intro k;induction k with|zero=>rfl|succ k ih=>simp[o8,ih]
  exact(this _).symm
 .intro id;simp only[hd];rw[h2];have:∀k,j9 ef (fun _=>false) (aw s.heap) k id=aw s.heap id:=by intro k;induction k with|zero=>rfl|succ k ih=>simp[j9,ih]
  exact(this _).symm
 .intro t x hx;exact(hR.dE t x hx).mono eU (Ren.refl _ _)
 .intro j hj;rcases jQ j s.next with h|h
  .exact .inl h
  .exact absurd hj (hR.gx j h)
 .intro i c v hc hv;exact(hR.gh i c v hc hv).mono eU (Ren.refl _ _)
end
def qk(P:Program)(bz:ww)(nt:Nat):Code->CC
 |.skip=>.skip
 |.region _ ops draw=>if draw then xl ops.toList (ops.toList.map (gK P bz nt ops)) []else .region (ops.toList.map (gK P bz nt ops)) []
 |.seq a b=>.seq (qk P bz nt a) (qk P bz nt b)
 |.cond c a b=>.cond c (qk P bz nt a) (qk P bz nt b)
 |.block id a=>.block id (qk P bz nt a)
 |.loop a=>.loop [] (qk P bz nt a)
 |.scope a=>qk P bz nt a
 |.label _=>.skip
 |.exit id=>.exit id
 |.ret=>.ret
 |_=>.gk
def Q_:qX->Exit
 |.normal=>.normal
 |.exit id=>.exit id
 |.ret=>.ret
def Sub(s s1:St):Prop:=∀(S K:Nat->Prop)(w0:World)(Kn:Nat->Prop)(φ:Nat->gV)(gv:List Value)(nt:Nat)(a:Act)(w:World),
 GX S K w0 Kn φ gv nt s a w->∃S' Kn' φ',gZ S w S' w/\GX S' K w0 Kn' φ' gv nt s1 a w
theorem Sub.refl(s:St):Sub s s:=fun S _ _ Kn φ _ _ _ w h=>⟨S,Kn,φ,gZ.refl S w,h⟩
theorem Sub.trans{s s1 s2:St}(a:Sub s s1)(b:Sub s1 s2):Sub s s2:=fun S K w0 Kn φ gv nt ac w h=>
 let⟨S1,Kn1,φ1,h1,h2⟩:=a S K w0 Kn φ gv nt ac w h;let⟨S2,Kn2,φ2,h3,h4⟩:=b S1 K w0 Kn1 φ1 gv nt ac w h2
 ⟨S2,Kn2,φ2,h1.trans h3,h4⟩
def wk(Q:St->Prop)(s:St):Prop:=∃s1,Sub s s1/\Q s1
theorem wk.of{Q:St->Prop}{s:St}(h:Q s):wk Q s:=⟨s,Sub.refl s,h⟩
def WO(P:Program):List mO->St->(St->Prop)->Prop
 |[],s,Q=>wk Q s
 |o::r,s,Q=>∃s1,Sub s s1/\
  ((j8 s1.dE o.guard=some true/\∃call v u az n,kE P call/\cC call o.k (o.args.map (ke s1.dE)) s1.heap s1.next=some (v,u,az,n)/\WO P r ⟨put s1.dE o.dst v,u++s1.heap,n,s1.gh⟩ Q)\/
   (j8 s1.dE o.guard=some false/\WO P r ⟨drop s1.dE o.dst,s1.heap,s1.next,s1.gh⟩ Q))
def u7(R:St->Prop)(Q:qX->St->Prop):qX->St->Prop
 |.normal,s=>R s
 |.exit id,s=>Q (.exit id) s
 |.ret,s=>Q .ret s
def wx(id:Nat)(Q:qX->St->Prop):qX->St->Prop
 |.exit id',s=>if id'=id then Q .normal s else Q (.exit id') s
 |.normal,s=>Q .normal s
 |.ret,s=>Q .ret s
def W(P:Program):CC->St->(qX->St->Prop)->Prop
 |.skip,s,Q=>wk (Q .normal) s
 |.region ops _,s,Q=>WO P ops s fun s'=>wk (Q .normal) s'
 |.drawn ops dyn _,s,Q=>∃s1,Sub s s1/\∃calls e h tr,(∀i,kE P (calls i))/\jH calls s1.next ops 0 s1.dE s1.heap=some (e,h,tr)/\zM tr dyn=true/\
   wk (Q .normal) ⟨e,h,s1.next+aD*ops.length,s1.gh⟩
 |.seq a b,s,Q=>W P a s (u7 (fun s'=>W P b s' Q) Q)
 |.cond c a b,s0,Q=>∃s,Sub s0 s/\∃t,ke s.dE c=some (.c (.d (.lit (.bool t))))/\(t=true->W P a s Q)/\(t=false->W P b s Q)
 |.block id a,s,Q=>W P a s (wx id Q)
 |.loop _ a,s,Q=>∃(I:Nat->St->Prop)(n:Nat),wk (I n) s/\∀n s,I n s->W P a s (u7 (fun s'=>∃m,m<n/\wk (I m) s') Q)
 |.exit id,s,Q=>wk (Q (.exit id)) s
 |.ret,s,Q=>wk (Q .ret) s
 |.gk,_,_=>False
section
variable{P:Program}{S K:Nat->Prop}{w0 w:World}{Kn:Nat->Prop}{φ:Nat->gV}{gv:List Value}{nt:Nat}{a:Act}{bz:ww}{s s':St}
theorem Kk{all:Array Oper}{R:Exit->Act->World->Prop}(hnt:nt<1000000000){Q:St->Prop}:∀(l:List Nat)(os:List Oper)(s:St)(S:Nat->Prop)(Kn:Nat->Prop)(φ:Nat->gV)(a:Act)(w:World),
  (∀(i j:Nat),l[i]?=some j->all[j]?=os[i]?)->l.length=os.length->WO P (os.map (gK P bz nt all)) s Q->GX S K w0 Kn φ gv nt s a w->
  (∀S' Kn' φ' s' a' w',Q s'->gZ S w S' w'->GX S' K w0 Kn' φ' gv nt s' a' w'->R .normal a' w')->wpOps P all R l a w:=by
 intro l;induction l with
 |nil=>intro os s S Kn φ a w _ hl h hR hQ;obtain rfl:os=[]:=bA.1 hl.symm;obtain⟨s1,h1,h2⟩:=h;obtain⟨S1,Kn1,φ1,h3,h4⟩:=h1 S K w0 Kn φ gv nt a w hR;exact hQ S1 Kn1 φ1 s1 a w h2 h3 h4
 |cons i l ih=>
  intro os s S Kn φ a w hi hl h hR hQ;cases os with
  |nil=>simp at hl
  |cons o os=>
   have ho:all[i]?=some o:=by simpa using hi 0 i rfl
   simp only[aq,WO]at h;obtain⟨s1,hsub,h⟩:=h;obtain⟨S1,Kn1,φ1,hs1,hR1⟩:=hsub S K w0 Kn φ gv nt a w hR;simp only[wpOps,ho];rcases h with⟨hw,call,v,u,az,n,mo,hev,h⟩|⟨hw,h⟩
   .have hwant:=qp hR1.dE (by rw[hR1.size];exact hnt) hw;rw[if_pos hwant];left
    have hdst:∀x,o.dst=some x->x<a.tmps.size:=by
     intro x hx;rw[hR1.size];rcases jQ x nt with h1|h1
     .exact h1
     .exfalso;have:(gK P bz nt all o).k=.gk:=by simp only[gK,hx];rw[if_neg (by simp;omega)]
      rw[this,fH]at hev;simp at hev
    have hk:xL P bz o.op=((gK P bz nt all o).k,(gK P bz nt all o).args):=by
     have:(gK P bz nt all o).k=(xL P bz o.op).1:=by simp only[gK];rw[if_pos];cases hd:o.dst with|none=>rfl|some d=>have:=hdst d hd;rw[hR1.size]at this;simpa using this
     rw[this];rfl
    have hgo:=DN mo hk hR1.inv hR1.dE (fun j hj _=>hR1.gx j hj) hev;refine hgo _ _ fun val w' hD=>?_;obtain⟨hle,S',φ',h1,h2,h3,h4⟩:=hD;refine ih os _ S' (o4 Kn1 s1.next n) φ' _ w' (fun i' j hj=>hi (i'+1) j (by simpa using hj)) (by simpa using hl) h ⟨?_,?_,?_,?_,?_,?_⟩ fun S2 Kn2 φ2 s2 a2 w2 h0 h5 h6=>hQ S2 Kn2 φ2 s2 a2 w2 h0 ((hs1.trans h1).trans h5) h6
    .simp only[gb];exact h4
    .exact iL.KU hR1.dE h1 h2 hdst h3
    .rw [vT];exact hR1.size
    .rw [sy];exact hR1.defers
    .intro j hj hk;simp only at hj;rcases hk with hk|hk
     .exact hR1.gx j (by omega) hk
     .omega
    .intro i c v hc hv;exact(hR1.gh i c v hc hv).mono h1 h2
   .have hwant:=qp hR1.dE (by rw[hR1.size];exact hnt) hw;rw[if_neg (by simp[hwant])];refine ih os _ S1 Kn1 φ1 _ w (fun i' j hj=>hi (i'+1) j (by simpa using hj)) (by simpa using hl) h ⟨hR1.inv,?_,?_,?_,hR1.gx,hR1.gh⟩ fun S2 Kn2 φ2 s2 a2 w2 h0 h5 h6=>hQ S2 Kn2 φ2 s2 a2 w2 h0 (hs1.trans h5) h6
    .exact iL.yu hR1.dE
    .rw [vT];exact hR1.size
    .rw [sy];exact hR1.defers
theorem BG{c:Code}{Q:Exit->Act->World->Prop}(J:Nat->Act->World->Prop)(n:Nat)(h₀:J n a w)
  (round:∀n a w,J n a w->c.wp P (Exit.then (fun a w=>∃m,m<n/\J m a w) Q) a w):(Code.loop c).wp P Q a w:=by
 intro b k cs
 have key:∀n a w,J n a w->∃e a' w',Q e a' w'/\Arrives P (lone (b.at a (.code c::.inLoop c::k)) cs w) b k cs e a' w':=by
  intro n;induction n using Nat.strongRecOn with
  |_ n ih=>intro a w hJ;obtain⟨e,a₁,w₁,hq,harr⟩:=round n a w hJ b (.inLoop c::k) cs;cases e with|normal=>obtain⟨m,hlt,hq⟩:=hq;obtain⟨e₂,a₂,w₂,hq₂,harr₂⟩:=ih m hlt a₁ w₁ hq;exact⟨e₂,a₂,w₂,hq₂,.of_steps (Steps.trans harr (.one step_inLoop)) harr₂⟩|exit id=>exact⟨_,a₁,w₁,hq,.pass (x:=.inLoop c) rfl (fun _ _=>.inl (by simp)) harr⟩|goto l=>exact⟨_,a₁,w₁,hq,.pass (x:=.inLoop c) rfl (fun _ _=>.inl (by simp)) harr⟩|ret=>exact⟨_,a₁,w₁,hq,.pass (x:=.inLoop c) rfl (fun _ _=>.inl (by simp)) harr⟩|panic ch=>exact⟨_,a₁,w₁,hq,.pass (x:=.inLoop c) rfl (fun _ _=>.inl (by simp)) harr⟩|outgrown=>exact⟨_,a₁,w₁,hq,.pass (x:=.inLoop c) rfl (fun _ _=>.inl (by simp)) harr⟩
 obtain⟨e,a',w',hq,harr⟩:=key n a w h₀;exact⟨e,a',w',hq,.of_steps (.one step_loop) harr⟩
def ye(S K:Nat->Prop)(w0 w:World)(gv:List Value)(nt:Nat)(Q:qX->St->Prop)(e:Exit)(a':Act)(w':World):Prop:=∃o s',Q o s'/\e=Q_ o/\∃S' Kn' φ',gZ S w S' w'/\GX S' K w0 Kn' φ' gv nt s' a' w'
theorem ye.trans{S':Nat->Prop}{w':World}(h:gZ S w S' w'){Q:qX->St->Prop}{e:Exit}{a':Act}{w'':World}(hp:ye S' K w0 w' gv nt Q e a' w''):ye S K w0 w gv nt Q e a' w'':=by obtain⟨o,s',h0,h1,S'',Kn',φ',h2,h3⟩:=hp;exact⟨o,s',h0,h1,S'',Kn',φ',h.trans h2,h3⟩
theorem ye.A5{Q:qX->St->Prop}{o:qX}{a':Act}{w':World}{S' Kn':Nat->Prop}{φ':Nat->gV}(h:wk (Q o) s')(hs:gZ S w S' w')(hR:GX S' K w0 Kn' φ' gv nt s' a' w'):ye S K w0 w gv nt Q (Q_ o) a' w':=by obtain⟨s1,h1,h2⟩:=h;obtain⟨S1,Kn1,φ1,h3,h4⟩:=h1 S' K w0 Kn' φ' gv nt a' w' hR;exact⟨o,s1,h2,rfl,S1,Kn1,φ1,hs.trans h3,h4⟩
theorem GD(hnt:nt<1000000000)(hm:P.follows .mixedOrders=true):∀(code:Code)(s:St)(Q:qX->St->Prop)(S:Nat->Prop)(Kn:Nat->Prop)(φ:Nat->gV)(a:Act)(w:World),
  W P (qk P bz nt code) s Q->GX S K w0 Kn φ gv nt s a w->code.wp P (ye S K w0 w gv nt Q) a w:=by
 intro code;induction code with
 |skip=>intro s Q S Kn φ a w h hR;exact wp_skip (ye.A5 h (gZ.refl _ _) hR)
 |region id ops draw=>
  intro s Q S Kn φ a w h hR;simp only[qk]at h;cases draw with
  |false=>
   simp only[aH,if_false,W]at h;refine wp_region ?_;refine Kk (gv:=gv) (K:=K) (w0:=w0) hnt (List.range ops.size) ops.toList s S Kn φ a w ?_ (by simp) h hR fun S' Kn' φ' s' a' w' h0 h1 h2=>ye.A5 (o:=.normal) h0 h1 h2;intro i j hj;obtain⟨hlt,rfl⟩:i<ops.size/\i=j:=by have:=ap.1 hj;obtain⟨h1,h2⟩:=this;simp at h1 h2;exact⟨h1,h2⟩
   simp
  |true=>
   simp only[if_true]at h;unfold xl at h;simp only at h;split at h
   .rename_i hc;simp only[ak]at hc;simp only[W]at h;obtain⟨s1,hsub,calls,e1,h1,tr,mo,hev,hdyn,hq⟩:=h;obtain⟨S1,Kn1,φ1,hs1,hR1⟩:=hsub S K w0 Kn φ gv nt a w hR;refine wp_region_any hm ?_;exact EJ mo hnt rfl hc.1.1 hc.1.2 hev hdyn (by simpa using hc.2) hR1 fun S' Kn' φ' a' w' h1 h2=>ye.A5 (o:=.normal) hq (hs1.trans h1) h2
   .simp [W]at h
 |seq x y ihx ihy=>intro s Q S Kn φ a w h hR;simp only[qk,W]at h;refine wp_seq ?_;refine wp_mono (ihx s _ S Kn φ a w h hR) fun e a' w' hp=>?_;obtain⟨o,s',h0,rfl,S',Kn',φ',h1,h2⟩:=hp;cases o with|normal=>exact wp_mono (ihy s' Q S' Kn' φ' a' w' h0 h2) fun e a'' w'' hp=>hp.trans h1|exit id=>exact⟨.exit id,s',h0,rfl,S',Kn',φ',h1,h2⟩|ret=>exact⟨.ret,s',h0,rfl,S',Kn',φ',h1,h2⟩
 |cond c x y ihx ihy=>intro s Q S Kn φ a w h hR;simp only[qk,W]at h;obtain⟨s1,hsub,t,ht,h1,h2⟩:=h;obtain⟨S1,Kn1,φ1,hs1,hR1⟩:=hsub S K w0 Kn φ gv nt a w hR;have hv:=(uy hR1.inv.Cj hR1.dE ht).lit.1;refine wp_cond hv ?_;cases t with|true=>exact wp_mono (ihx s1 Q S1 Kn1 φ1 a w (h1 rfl) hR1) fun _ _ _ hp=>hp.trans hs1|false=>exact wp_mono (ihy s1 Q S1 Kn1 φ1 a w (h2 rfl) hR1) fun _ _ _ hp=>hp.trans hs1
 |block id x ih=>
  intro s Q S Kn φ a w h hR;simp only[qk,W]at h;refine wp_block ?_;refine wp_mono (ih s _ S Kn φ a w h hR) fun e a' w' hp=>?_;obtain⟨o,s',h0,rfl,hp⟩:=hp;cases o with
  |normal=>exact⟨.normal,s',h0,rfl,hp⟩
  |ret=>exact⟨.ret,s',h0,rfl,hp⟩
  |exit id'=>
   simp only[Q_,Exit.inBlock];simp only[wx]at h0;by_cases hid:id'=id
   .rw [if_pos hid]at h0|-;exact⟨.normal,s',h0,rfl,hp⟩
   .rw [if_neg hid]at h0|-;exact⟨.exit id',s',h0,rfl,hp⟩
 |loop x ih=>intro s Q S Kn φ a w h hR;simp only[qk,W]at h;obtain⟨I,n,⟨s0,hsub,hI⟩,hstep⟩:=h;obtain⟨S0,Kn0,φ0,hs0,hR0⟩:=hsub S K w0 Kn φ gv nt a w hR;refine BG (J:=fun n a' w'=>∃s1 S1 Kn1 φ1,gZ S w S1 w'/\GX S1 K w0 Kn1 φ1 gv nt s1 a' w'/\I n s1) n ⟨s0,S0,Kn0,φ0,hs0,hR0,hI⟩ fun n a1 w1 hJ=>?_;obtain⟨s1,S1,Kn1,φ1,h1,h2,h3⟩:=hJ;refine wp_mono (ih s1 _ S1 Kn1 φ1 a1 w1 (hstep n s1 h3) h2) fun e a' w' hp=>?_;obtain⟨o,s2,h0,rfl,S2,Kn2,φ2,h4,h5⟩:=hp;cases o with|normal=>obtain⟨m,hm,s3,h6,h7⟩:=h0;obtain⟨S3,Kn3,φ3,h8,h9⟩:=h6 S2 K w0 Kn2 φ2 gv nt a' w' h5;exact⟨m,hm,s3,S3,Kn3,φ3,(h1.trans h4).trans h8,h9,h7⟩|exit id=>exact⟨.exit id,s2,h0,rfl,S2,Kn2,φ2,h1.trans h4,h5⟩|ret=>exact⟨.ret,s2,h0,rfl,S2,Kn2,φ2,h1.trans h4,h5⟩
 |exit id=>intro s Q S Kn φ a w h hR;exact wp_exit (ye.A5 (o:=.exit id) h (gZ.refl _ _) hR)
 |ret=>intro s Q S Kn φ a w h hR;exact wp_ret (ye.A5 (o:=.ret) h (gZ.refl _ _) hR)
 |scope x ih=>intro s Q S Kn φ a w h hR;refine wp_scope_straight (wp_mono (ih s Q S Kn φ a w h hR) fun e a' w' hp=>?_);obtain⟨o,s',h0,rfl,h1⟩:=hp;cases o<;>exact⟨_,s',h0,rfl,h1⟩
 |label l=>intro s Q S Kn φ a w h hR;exact wp_label (ye.A5 (o:=.normal) h (gZ.refl _ _) hR)
 |_=>intro s Q S Kn φ a w h hR;simp[qk,W]at h
end
def N2(P:Program):ResultVar->Option RV
 |.tmp t=>some (.tmp t)
 |.cell a t=>match ge P t,fS P t with|some g,some n=>some (.cell a g n)|_,_=>none
def AY(P:Program):List ResultVar->Option (List RV)
 |[]=>some []
 |r::rs=>match N2 P r,AY P rs with|some x,some xs=>some (x::xs)|_,_=>none
def o_(P:Program)(bz:ww)(f np:Nat):Option Fn:=
 match P.funcs[f]?with
 |none=>none
 |some g=>
  match g.body with
  |none=>none
  |some code=>
   if(g.name== "runtime.NumGoroutine")=false/\np<=g.ntmps/\g.ntmps<1000000000 then
    match AY P g.results.toList with|some kW=>some ⟨np,g.ntmps,kW,qk P bz g.ntmps code⟩|none=>none
   else none
section
variable{P:Program}{S K:Nat->Prop}{w0 w:World}{gv:List Value}{nt:Nat}{a:Act}{call:Call}{bz:ww}{s s':St}
theorem EC:∀(as:List A){Kn:Nat->Prop}{φ:Nat->gV}{hf:Nat->Option Ob}(vs:List Value)(fp:List Nat)(i n:Nat),Inv S K w0 Kn φ hf w->(∀j,n<=j->¬Kn j)->Ny S w as vs fp->fp.Nodup->
  (∀b∈fp,¬S b/\¬K b)->uV w φ hf fp->
  ∃φ',sS S K w0 w Kn φ hf fp n (enter as i n).2.2.1 (enter as i n).2.1 φ'/\
   (∀t x,cm (enter as i n).1 t=some x->i<=t/\∃v,vs[t-i]?=some v/\fX S w (o4 Kn n (enter as i n).2.2.1) φ' x v)/\
   (∀(k:Nat)(c:C)(v:Value),(enter as i n).2.2.2[k]?=some c->(nH as vs)[k]?=some v->RC S w (o4 Kn n (enter as i n).2.2.1) φ' c v)/\
   (enter as i n).2.2.2.length=(nH as vs).length/\as.length=vs.length:=by
 intro as;induction as with
 |nil=>intro Kn φ hf vs fp i n hI hfr h hn hSK ha;cases vs with|cons v vs=>exact h.elim|nil=>exact⟨φ,sS.nil hI _ _,fun t x hx=>by simp[enter,cm]at hx,fun k c v hk=>by simp[enter]at hk,rfl,rfl⟩
 |cons x as ih=>
  intro Kn φ hf vs fp i n hI hfr h hn hSK ha;cases vs with
  |nil=>exact h.elim
  |cons v vs=>
   obtain⟨f1,f2,rfl,h1,h2⟩:=h;have next:∀{e:iL}{i':Nat}{t:Nat}{x:TV}{φ':Nat->gV}{Kn':Nat->Prop},i+1<=t/\(∃v,vs[t-(i+1)]?=some v/\fX S w Kn' φ' x v)->i<=t/\∃v',(v::vs)[t-i]?=some v'/\fX S w Kn' φ' x v':=by intro e i' t x φ' Kn' ⟨q1,v',q2,q3⟩;refine⟨by omega,v',?_,q3⟩;rw[show t-i=(t-(i+1))+1 by omega];simpa using q2
   cases x with
   |d y=>
    obtain⟨h1,rfl⟩:=h1;obtain⟨φ',q1,q2,q3,q4,q5⟩:=ih (Kn:=Kn) (φ:=φ) (hf:=hf) vs f2 (i+1) n hI hfr h2 (by simpa using hn) (by simpa using hSK) (by simpa using ha);refine⟨φ',q1,fun t x hx=>?_,q3,q4,by simp[q5]⟩;simp only[enter,cm]at hx;by_cases e:i=t
    .subst e;simp at hx;subst hx;exact⟨am _,v,by simp,.c (.d h1)⟩
    .have e':(i==t)=false:=by simpa using e
     rw[e',cond_false]at hx;exact next (e:=[]) (i':=0) (q2 t x hx)
   |agg xs=>
    obtain⟨aK,rfl,hlen,h1,rfl⟩:=h1;obtain⟨φ',q1,q2,q3,q4,q5⟩:=ih (Kn:=Kn) (φ:=φ) (hf:=hf) vs f2 (i+1) n hI hfr h2 (by simpa using hn) (by simpa using hSK) (by simpa using ha);refine⟨φ',q1,fun t x hx=>?_,q3,q4,by simp[q5]⟩;simp only[enter,cm]at hx;by_cases e:i=t
    .subst e;simp at hx;subst hx;refine⟨am _,_,by simp;rfl,.agg (by simpa using hlen) fun j x hj=>?_⟩;rw[aQ]at hj;obtain⟨d,hd,rfl⟩:=aP.1 hj;exact .d (h1 j d hd)
    .have e':(i==t)=false:=by simpa using e
     rw[e',cond_false]at hx;exact next (e:=[]) (i':=0) (q2 t x hx)
   |mt t0=>
    rw[cD]at hn;obtain⟨hn1,hn2,hn3⟩:=hn;simp only[ao]at hSK;obtain⟨φ1,hL1,hr1⟩:=wD t0 n v f1 hI (fun j hj _=>hfr j hj) h1 hn1 (fun b hb=>hSK b (.inl hb)) (fun j o hj hown x hx hm=>ha j o hj hown x hx (by simp[hm]))
    obtain⟨φ2,hL2,q2,q3,q4,q5⟩:=ih (φ:=φ1) vs f2 (i+1) (kV n t0).2.2 hL1.inv (fun j hj hk=>by
     rcases hk with hk|hk
     .have:=hL1.le;exact hfr j (by omega) hk
     .omega) h2 hn2 (fun b hb=>hSK b (.inr hb)) (hL1.PS hI (fun j o hj hown x hx hm=>ha j o hj hown x hx (by simp[hm])) fun x hx hx2=>hn3 x hx x hx2 rfl)
    have hcomp:=hL1.qk hL2;have hcm:bq _ hf=bq _ hf:=m7 fun p hp q hq e=>by have h1:=hL2.gx p hp;have h2:=hL1.gx q hq;omega
    have hsub:∀j,o4 (o4 Kn n (kV n t0).2.2) (kV n t0).2.2 (enter as (i+1) (kV n t0).2.2).2.2.1 j->o4 Kn n (enter as (i+1) (kV n t0).2.2).2.2.1 j:=fun j=>(sF hL1.le hL2.le j).1;refine⟨φ2,?_,fun t x hx=>?_,fun k c v' hk hv=>?_,by simp[enter,nH,q4],by simp[q5]⟩
    .have hsw:∀{p:Nat×Option Ob}{a b:eS},p∈a++b->p∈b++a:=fun hp=>ao.2 (ao.1 hp).symm;exact⟨hcomp.le,hcomp.tN,hcm▸hcomp.inv,fun p hp=>hcomp.gx p (hsw hp),fun p hp x hx=>hcomp.dj p (hsw hp) x (hcm.symm▸hx)⟩
    .simp only[enter,cm]at hx|-;by_cases e:i=t
     .subst e;simp at hx;subst hx;exact⟨am _,v,by simp,.c ((hr1.mono (gZ.refl _ _) hL2.tN).kn hsub)⟩
     .have e':(i==t)=false:=by simpa using e
      rw[e',cond_false]at hx;obtain⟨p1,v',p2,p3⟩:=q2 t x hx;exact next (e:=[]) (i':=0) ⟨p1,v',p2,p3.mono (gZ.refl _ _) ⟨hsub,fun _ _=>rfl⟩⟩
    .simp only[enter]at hk|-;simp only[nH]at hv;cases k with
     |zero=>
      obtain rfl:(kV n t0).1=c:=by simpa using hk
      obtain rfl:v=v':=by simpa using hv
      exact(hr1.mono (gZ.refl _ _) hL2.tN).kn hsub
     |succ k=>exact(q3 k c v' (by simpa using hk) (by simpa using hv)).kn hsub
theorem DH{Kn:Nat->Prop}{φ:Nat->gV}{H:bC}(hI:Inv S K w0 Kn φ (aw H) w){v:TV}{r:R}{bD:List Nat}{x:Value}(h:qH H v=some (r,bD))(hv:fX S w Kn φ v x):
  RR S w r x (bD.flatMap (iw w φ (aw H)))/\∀i∈bD,∃o,aw H i=some o/\cW o=true:=by
 cases hv with
 |c hv=>
  simp[qH]at h;split at h
  .rename_i t az rd hp;obtain⟨rfl,rfl⟩:R.c t=r/\az=bD:=by simpa using h
   exact(sB hI 300).1 _ _ _ _ _ hp hv
  .simp at h
 |@agg cs aK hlen hv=>
  simp[qH]at h;split at h
  .rename_i ts az rd hp;obtain⟨rfl,rfl⟩:R.agg ts=r/\az=bD:=by simpa using h
   obtain⟨h1,⟨fps,h2,h3,h4⟩,h5⟩:=(sB hI 300).2 _ _ _ _ hp _ hv;exact⟨⟨aK,fps,rfl,h1.trans hlen,h2,h3,h4⟩,h5⟩
  .simp at h
 |ia hlen hv=>simp[qH]at h
theorem B0{Kn:Nat->Prop}{φ:Nat->gV}{H:bC}(hI:Inv S K w0 Kn φ (aw H) w):∀(tvs:List TV)(vs:List Value)(rs:List R)(bD:List Nat),ri H tvs=some (rs,bD)->tvs.length=vs.length->
  (∀(i:Nat)(t:TV)(v:Value),tvs[i]?=some t->vs[i]?=some v->fX S w Kn φ t v)->E8 S w rs vs (bD.flatMap (iw w φ (aw H)))/\∀i∈bD,∃o,aw H i=some o/\cW o=true:=by
 intro tvs;induction tvs with
 |nil=>
  intro vs rs bD h hl hr;obtain⟨rfl,rfl⟩:[]=rs/\[]=bD:=by simpa[ri]using h
  obtain rfl:vs=[]:=bA.1 hl.symm;exact⟨rfl,fun i hi=>by simp at hi⟩
 |cons t tvs ih=>
  intro vs rs bD h hl hr;cases vs with
  |nil=>simp at hl
  |cons v vs=>
   simp[ri]at h;split at h
   .rename_i r o1 rs1 o2 hp hps;obtain⟨rfl,rfl⟩:r::rs1=rs/\o1++o2=bD:=by simpa using h
    obtain⟨a1,a2⟩:=DH hI hp (hr 0 t v rfl rfl);obtain⟨b1,b2⟩:=ih vs rs1 o2 hps (by simpa using hl) (fun i t v hi hv=>hr (i+1) t v (by simpa using hi) (by simpa using hv));refine⟨⟨_,_,by simp,a1,b1⟩,fun i hi=>?_⟩
    grind
   .simp at h
inductive uh(h:bC):List C->List T->List Nat->Prop
 |nil:uh h [] [] []
 |cons {c:C} {cs:List C} {t:T} {ts:List T} {a i b:List Nat} (h1:dU h 300 c=some (t,a,i)) (h2:uh h cs ts b):uh h (c::cs) (t::ts) (a++b)
 |eH {c:C} {cs:List C} {ts:List T} {b:List Nat} (h2:uh h cs ts b):uh h (c::cs) (.eH::ts) b
theorem uh.of{h:bC}:∀{cs:List C}{ts:List T}{b:List Nat},zg h cs=some (ts,b)->uh h cs ts b:=by
 intro cs;induction cs with
 |nil=>intro ts b hp;obtain⟨rfl,rfl⟩:[]=ts/\[]=b:=by simpa[zg]using hp
       exact .nil
 |cons c cs ih=>
  intro ts b hp;simp[zg]at hp;split at hp
  .rename_i t o1 rd ts1 o2 h1 h2;obtain⟨rfl,rfl⟩:t::ts1=ts/\o1++o2=b:=by simpa using hp
   exact .cons h1 (ih h2)
  .simp at hp
theorem DI{Kn:Nat->Prop}{φ:Nat->gV}{H:bC}(hI:Inv S K w0 Kn φ (aw H) w){cs:List C}{ts:List T}{bD:List Nat}(h:uh H cs ts bD):∀(vs:List Value),cs.length=vs.length->
  (∀(i:Nat)(c:C)(v:Value),cs[i]?=some c->vs[i]?=some v->RG S w Kn φ c v)->No S w ts vs (bD.flatMap (iw w φ (aw H)))/\∀i∈bD,∃o,aw H i=some o/\cW o=true:=by
 induction h with
 |nil=>intro vs hl hr;obtain rfl:vs=[]:=bA.1 hl.symm;exact⟨rfl,fun i hi=>by simp at hi⟩
 |@cons c cs t ts a rd b hp _ ih=>
  intro vs hl hr;cases vs with
  |nil=>simp at hl
  |cons v vs=>
   have hrc:=(hr 0 c v rfl rfl).resolve_left fun e=>by subst e;simp[sU,dU]at hp
   obtain⟨a1,a2⟩:=(sB hI 300).1 _ _ _ _ _ hp hrc;obtain⟨b1,b2⟩:=ih vs (by simpa using hl) (fun i t v hi hv=>hr (i+1) t v (by simpa using hi) (by simpa using hv));refine⟨⟨_,_,by simp,.inr a1,b1⟩,fun i hi=>?_⟩
   grind
 |@eH c cs ts b _ ih=>intro vs hl hr;cases vs with|nil=>simp at hl|cons v vs=>obtain⟨b1,b2⟩:=ih vs (by simpa using hl) (fun i t v hi hv=>hr (i+1) t v (by simpa using hi) (by simpa using hv));exact⟨⟨[],_,rfl,.inl ⟨rfl,rfl⟩,b1⟩,b2⟩
def rt(kW:List RV)(s:St)(rs:List R)(outs:List T):Prop:=∃vs a b,dY (kW.map (tM s))=some vs/\ri s.heap vs=some (rs,a)/\uh s.heap s.gh outs b/\(a++b).Nodup
theorem rt.of{kW:List RV}{s:St}{rs:List R}{outs:List T}(h:LG kW s=some (rs,outs)):rt kW s rs outs:=by
 unfold LG at h;split at h
 .simp at h
 rename_i tvs htv;split at h
 case h_2=>simp at h
 rename_i rs1 oa ts1 ob hpr hpc;split at h
 case isFalse=>simp at h
 rename_i hnod;obtain⟨rfl,rfl⟩:rs1=rs/\ts1=outs:=by simpa using h
 exact⟨tvs,oa,ob,htv,hpr,.of hpc,hnod⟩
def ZO(tmps:Array Value):ResultVar->Sem Value
 |.tmp t=>pure (tmps.getD t undef)
 |.cell a t=>do loadVar t (<-asAddr (tmps.getD a undef))
theorem D5{t:TypeId}{pv val:Value}(h:(Instr.loadAt t pv).run P w=.ok val w):(do loadVar t (<-asAddr pv):Sem Value).run P w=.ok val w:=by
 cases pv with
 |pointer x=>cases x with|some a=>simpa|none=>simp[Instr.loadAt,Instr.sureAddr]at h
 |_=>simp[Instr.loadAt,Instr.sureAddr]at h
theorem BT{Kn:Nat->Prop}{φ:Nat->gV}(hI:Inv S K w0 Kn φ (aw s.heap) w)(hE:iL.ok S w Kn φ s.dE a.tmps){r:ResultVar}{x:RV}{v:TV}(hr:N2 P r=some x)(h:tM s x=some v):
  ∃val,(ZO a.tmps r).run P w=.ok val w/\fX S w Kn φ v val:=by
 cases r with
 |tmp t=>
  obtain rfl:RV.tmp t=x:=by simpa[N2]using hr
  exact⟨_,by simp[ZO],hE t v h⟩
 |cell t ty=>
  simp[N2]at hr;split at hr
  .rename_i g n hg hn;obtain rfl:=aa hr;simp[tM]at h;split at h
   .rename_i p hp;split at h
    .rename_i v' az hl;obtain rfl:=aa h;cases hE t _ hp with|c hc=>obtain⟨val,h1,h2⟩:=yV hg hn hI hc hl;exact⟨val,D5 h1,h2⟩
    .simp at h
   .simp at h
  .simp at hr
theorem At{Kn:Nat->Prop}{φ:Nat->gV}(hI:Inv S K w0 Kn φ (aw s.heap) w)(hE:iL.ok S w Kn φ s.dE a.tmps):∀(rs:List ResultVar)(xs:List RV)(tvs:List TV),AY P rs=some xs->dY (xs.map (tM s))=some tvs->
  ∃vs,(rs.mapM (ZO a.tmps)).run P w=.ok vs w/\tvs.length=vs.length/\∀(i:Nat)(t:TV)(v:Value),tvs[i]?=some t->vs[i]?=some v->fX S w Kn φ t v:=by
 intro rs;induction rs with
 |nil=>
  intro xs tvs h1 h2;obtain rfl:[]=xs:=by simpa[AY]using h1
  obtain rfl:[]=tvs:=by simpa[dY]using h2
  simp_all
 |cons r rs ih=>
  intro xs tvs h1 h2;simp[AY]at h1;split at h1
  .rename_i x xs1 hx hxs;obtain rfl:=aa h1;simp at h2;cases hv:tM s x with
   |none=>rw[hv]at h2;simp[dY]at h2
   |some v=>
    rw[hv]at h2;simp[dY]at h2;split at h2
    .rename_i tvs1 htv;obtain rfl:=aa h2;obtain⟨val,q1,q2⟩:=BT hI hE hx hv;obtain⟨vs,q3,q4,q5⟩:=ih xs1 tvs1 hxs htv;refine⟨val::vs,by simp[q1,q3],by simp[q4],fun i t v' hi hv'=>?_⟩
     grind
    .simp at h2
  .simp at h1
theorem Do{g:Func}{tmps:Array Value}{vs:List Value}(h:(g.results.toList.mapM (ZO tmps)).run P w=.ok vs w):(results g tmps).run P w=.ok (yZ vs) w:=by
 have e:results g tmps=(do let vs<-g.results.mapM (ZO tmps);pure _):=rfl;have e2:g.results.mapM (ZO tmps)=(do let vs<-g.results.toList.mapM (ZO tmps);pure vs.toArray):=by rw[Array.mapM_eq_mapM_toList,bind_pure_comp]
 rw[e,e2];simp[h]
 match vs with|[]=>rfl|[v]=>rfl|v::v'::r=>simp[yZ]
def Q4(sz:Nat):Option (List (List D))->D
 |none=>.lit (.slice none 0 0)
 |some rows=>.sl sz rows
def xU:T->D
 |.d x=>x
 |.sl sz rows=>.sl sz rows
 |.Ai sz rows=>.sl 1 (rows.map fun r=>[Q4 sz r])
 |_=>.lit .nilFunc
def xH:T->Bool
 |.pt _|.mp _ _ _ _=>false
 |_=>true
def F7:R->Bool
 |.c t=>xH t
 |.agg ts=>ts.all xH
theorem RT.Ba{S S':Nat->Prop}{w:World}{t:T}{v:Value}{fp:List Nat}(hm:xH t=true)(h:RT S w t v fp)(hS:∀b,S b->S' b)(hb:∀b∈fp,S' b):RD S' w (xU t) v:=by
 have eU:gZ S w S' w:=⟨hS,fun _ _=>rfl⟩
 cases h with
 |d h=>exact h.mono eU
 |@sl sz rows b off len cap aK hsz ho hlen hcap hext hr=>
  subst hlen;refine .sl (fun i j=>aK.getD (off+i*sz+j) undef) (hb b (by simp)) hsz hcap hr.1 (fun i r hi j x hj=>?_) (fun i r hi j x hj=>?_)
  .obtain ⟨v,h1,h2⟩:=hr.2 i r hi j x hj;simp only at h1;rw[ho.cell,h1,bN,h1];rfl
  .obtain ⟨v,h1,h2⟩:=hr.2 i r hi j x hj;simp only at h1;rw[bN,h1];exact h2.mono eU
 |@Ai sz rows b off cap aK fps hsz ho hcap hext hfl h=>
  have key:=RD.AW (S:=S') (w:=w) (sz:=1) (rows:=rows.map fun r=>[Q4 sz r]) (b:=b) (off:=off) (cap:=cap) (hb b (by simp)) Nat.one_pos (by simp) hcap ⟨fun i r hi=>?_,fun i r hi j x hj=>?_⟩
  .exact key
  .grind
  .rw [aQ]at hi;obtain⟨r',hr',rfl⟩:=aP.1 hi;have hl:=(ap.1 hr').1;cases j with
   |succ j=>simp at hj
   |zero=>
    obtain rfl:Q4 sz r'=x:=by simpa using hj
    obtain⟨v,h1,h2⟩:=h i r' fps[i] hr' (aC (by omega));refine⟨v,by rw[Nat.mul_one];exact(ho.cell _).trans h1,?_⟩;cases r' with|none=>obtain⟨rfl,_⟩:=h2;exact .lit rfl|some rows'=>obtain⟨b',q1,q2⟩:=h2;exact q2.rd eU (hb b' (aF _ (eP.2 ⟨fps[i],List.getElem_mem _,by rw[q1];simp⟩)))
 |pt=>cases hm
 |mp=>cases hm
def Jq:R->R
 |.c t=>.c (.d (xU t))
 |.agg ts=>.agg (ts.map fun t=>.d (xU t))
def qO:List Bool->List R->List R
 |b::bs,r::rs=>(if(b&&F7 r)=true then Jq r else r)::qO bs rs
 |_,rs=>rs
theorem RR.zr{S S':Nat->Prop}{w:World}(hS:∀b,S b->S' b){r:R}{v:Value}{fp:List Nat}(h:RR S w r v fp):RR S' w r v fp:=by
 have eU:gZ S w S' w:=⟨hS,fun _ _=>rfl⟩
 cases r with|c t=>exact RT.mono eU h fun _ _=>rfl|agg ts=>obtain⟨aK,fps,h1,h2,h3,h4,h5⟩:=h;exact⟨aK,fps,h1,h2,h3,h4,fun i t f hi hf=>(h5 i t f hi hf).mono eU fun _ _=>rfl⟩
theorem RR.Ba{S S':Nat->Prop}{w:World}{r:R}{v:Value}{fp:List Nat}(h:RR S w r v fp)(hS:∀b,S b->S' b)(hm:F7 r=true)(hb:∀b∈fp,S' b):RR S' w (Jq r) v []:=by
 cases r with
 |c t=>exact .d (RT.Ba hm h hS hb)
 |agg ts=>
  obtain⟨aK,fps,h1,h2,h3,h4,h5⟩:=h;refine⟨aK,ts.map fun _=>[],h1,by simp[h2],by simp,?_,fun i t f hi hf=>?_⟩
  .simp_all
  .simp at hi hf;obtain⟨t0,ht0,rfl⟩:=hi;obtain⟨_,_,rfl⟩:=hf;have hl:=(ap.1 ht0).1;have hf:fps[i]?=some _:=aC (by omega);refine .d (RT.Ba (a_.1 hm _ (bp ht0)) (h5 i t0 _ ht0 hf) hS fun b hbm=>hb b ?_)
   grind [eP,bp]
theorem E8.zr{S S':Nat->Prop}{w:World}(hS:∀b,S b->S' b):∀{rs:List R}{vs:List Value}{fp:List Nat},E8 S w rs vs fp->E8 S' w rs vs fp:=by
 intro rs;induction rs with
 |nil=>intro vs fp h;cases vs<;>exact h
 |cons r rs ih=>intro vs fp h;cases vs with|nil=>exact h|cons v vs=>obtain⟨f1,f2,h1,h2,h3⟩:=h;exact⟨f1,f2,h1,h2.zr hS,ih h3⟩
theorem E8.Ba{S:Nat->Prop}{w:World}:∀(m:List Bool)(rs:List R)(vs:List Value)(fp:List Nat),E8 S w rs vs fp->fp.Nodup->
  ∃fpK,fpK.Sublist fp/\∀S':Nat->Prop,(∀b,S b->S' b)->(∀b∈fp,b∉fpK->S' b)->E8 S' w (qO m rs) vs fpK:=by
 intro m;induction m with
 |nil=>intro rs vs fp h hn;exact⟨fp,bY _,fun S' hS _=>by cases rs<;>exact h.zr hS⟩
 |cons b m ih=>
  intro rs vs fp h hn;cases rs with
  |nil=>exact⟨fp,bY _,fun S' hS _=>h.zr hS⟩
  |cons r rs=>
   cases vs with
   |nil=>exact h.elim
   |cons v vs=>
    obtain⟨f1,f2,rfl,h2,h3⟩:=h;obtain⟨n1,n2,n3⟩:=cD.1 hn;obtain⟨fpK,hsub,hk⟩:=ih rs vs f2 h3 n2;cases hbo:(b&&F7 r)with
    |true=>simp only[qO,hbo];refine⟨fpK,hsub.trans (List.sublist_append_right _ _),fun S' hS hb=>⟨[],fpK,rfl,h2.Ba hS (Bool.and_eq_true_iff.1 hbo).2 fun b hbm=>hb b (aI _ hbm) fun hb2=>n3 b hbm b (hsub.subset hb2) rfl,hk S' hS fun b hbm hb2=>hb b (aG _ hbm) hb2⟩⟩
    |false=>
     simp only[qO,hbo];refine⟨f1++fpK,List.Sublist.append (bY _) hsub,fun S' hS hb=>⟨f1,fpK,rfl,h2.zr hS,hk S' hS fun b hbm hb2=>hb b (aG _ hbm) fun hb3=>?_⟩⟩
     grind
theorem E8.lt{S:Nat->Prop}{w:World}:∀{rs:List R}{vs:List Value}{fp:List Nat},E8 S w rs vs fp->∀b∈fp,b<w.heap.size:=by
 intro rs;induction rs with
 |nil=>intro vs fp h b hb;cases vs with|nil=>have h':=h;subst h';simp at hb|cons _ _=>exact h.elim
 |cons r rs ih=>
  intro vs fp h b hb;cases vs with
  |nil=>exact h.elim
  |cons v vs=>
   obtain⟨f1,f2,rfl,h2,h3⟩:=h;rcases ao.1 hb with hb|hb
   .cases r with|c t=>exact RT.lt h2 b hb|agg ts=>obtain⟨aK,fps,_,q2,q3,rfl,q5⟩:=h2;obtain⟨fp,hfp,hbf⟩:=eP.1 hb;obtain⟨i,hi,rfl⟩:=List.getElem_of_mem hfp;exact(q5 i _ _ (aC (by omega:i<ts.length)) (aC hi)).lt b hbf
   .exact ih h3 b hb
theorem No.zr{S S':Nat->Prop}{w:World}(hS:∀b,S b->S' b):∀{ts:List T}{vs:List Value}{fp:List Nat},No S w ts vs fp->No S' w ts vs fp:=by
 intro ts;induction ts with
 |nil=>intro vs fp h;cases vs<;>exact h
 |cons r rs ih=>intro vs fp h;cases vs with|nil=>exact h|cons v vs=>obtain⟨f1,f2,h1,h2,h3⟩:=h;exact⟨f1,f2,h1,h2.imp id fun h2=>RT.mono ⟨hS,fun _ _=>rfl⟩ h2 fun _ _=>rfl,ih h3⟩
theorem Left.Ba{S:Nat->Prop}{w w':World}{fp:List Nat}{rs:List R}{outs:List T}{lent:List Value}{v:Value}(m:List Bool)(h:Left S w fp rs outs lent v w'):Left S w fp (qO m rs) outs lent v w':=by
 obtain⟨S',kW,fp1,fp2,h1,h2,h3,h4,h5,h6,h7,h8,h9⟩:=h;obtain⟨n1,n2,n3⟩:=cD.1 h7;obtain⟨fpK,hsub,hk⟩:=E8.Ba m rs kW fp1 h5 n1
 refine⟨fun b=>S' b\/(b∈fp1/\b∉fpK),kW,fpK,fp2,h1,⟨fun b hb=>.inl (h2.sub b hb),h2.ez⟩,fun b hb=>?_,fun b hb=>?_,hk _ (fun b hb=>.inl hb) (fun b hb hb2=>.inr ⟨hb,hb2⟩),
  No.zr (fun b hb=>.inl hb) h6,?_,fun b hb=>?_,h9⟩
 .grind
 .grind [E8.lt]
 .grind
 grind
def rq(kW:List RV)(m:List Bool)(len:Nat)(rs:List R)(outs:List T):qX->St->Prop
 |.exit _,_=>False
 |.normal,s=>wk (fun s=>s.gh.length=len/\∃rs0,rt kW s rs0 outs/\qO m rs0=rs) s
 |.ret,s=>wk (fun s=>s.gh.length=len/\∃rs0,rt kW s rs0 outs/\qO m rs0=rs) s
def nP(as:List A):St:=⟨(enter as 0 0).1,(enter as 0 0).2.1,(enter as 0 0).2.2.1,(enter as 0 0).2.2.2⟩
def ZF(P:Program)(F:Fn)(m:List Bool)(as:List A)(rs:List R)(outs:List T):Prop:=as.length=F.np/\W P F.body (nP as) (rq F.kW m (nP as).gh.length rs outs)
def Zp(s:St)(Q:St->Prop):Prop:=∀(S K:Nat->Prop)(w0:World)(Kn:Nat->Prop)(φ:Nat->gV)(gv:List Value)(nt:Nat)(a:Act)(w:World),GX S K w0 Kn φ gv nt s a w->∃s1,Q s1/\GX S K w0 Kn φ gv nt s1 a w
theorem Eo(hm:P.follows .mixedOrders=true){f np:Nat}{F:Fn}(hF:o_ P bz f np=some F){as:List A}{rs:List R}{outs:List T}
  {m:List Bool} (h:as.length=F.np/\Zp (nP as) fun s=>W P F.body s (rq F.kW m (nP as).gh.length rs outs)):yf P f as rs outs:=by
 unfold o_ at hF;split at hF
 .simp at hF
 rename_i g hg;split at hF
 .simp at hF
 rename_i code hb;split at hF
 case isFalse=>simp at hF
 rename_i hc;obtain⟨hname,hnp,hnt⟩:=hc;split at hF
 case h_2=>simp at hF
 rename_i kW hrv;obtain rfl:=aa hF;obtain⟨hlen,h⟩:=h;simp only at hlen h;intro S w vs fp hlt hargs hnd hfp hglob;left;refine⟨f,vs.toArray,?_,?_⟩
 .simp_all [callFunc,run_program]
 refine calls_of_wp hg hb ?_;have hI0:Inv S (fun b=>b<w.heap.size/\b∉fp/\¬S b) w (fun _=>False) (fun _=>default) (aw []) w:=by refine⟨hlt,fun b hb h=>h.2.2 hb,⟨fun b hb=>hb.1,fun _ _=>rfl,am _,fun _ _=>rfl,fun b aK ho=>⟨aK,ho,rfl⟩,Io.refl _⟩,fun id o ho=>by simp[aw,cm]at ho,fun i j a b ha=>by simp[aw,cm]at ha,hglob,fun i sz sl k x hi=>by simp[aw,cm]at hi⟩
 obtain⟨φ,hL,q1,q2,q3,q4⟩:=EC as (S:=S) (w0:=w) (w:=w) (Kn:=fun _=>False) (φ:=fun _=>default) (hf:=aw []) vs fp 0 0 hI0 (fun _ _ h=>h) hargs hnd
  (fun b hb=>⟨hfp b hb,fun h=>h.2.1 hb⟩) (fun j o ho=>by simp[aw,cm]at ho)
 unfold nP at h;generalize hen:enter as 0 0=en at h hL q1 q2 q3;obtain⟨e,hp,n,lent⟩:=en;simp only at h hL q1 q2 q3
 have hRel:GX S (fun b=>b<w.heap.size/\b∉fp/\¬S b) w (o4 (fun _=>False) 0 n) φ (nH as vs) g.ntmps ⟨e,hp,n,lent⟩
   {tmps:=vs.toArray++Array.replicate (g.ntmps-vs.toArray.size) undef,defers:=[]} w:=by
  refine⟨?_,fun t x hx=>?_,?_,rfl,fun j hj hk=>?_,fun i c v h1 h2=>.inr (q2 i c v h1 h2)⟩
  .have:aw hp=bq hp (aw []):=by rw[<-gb,List.append_nil]
   rw[this];exact hL.inv
  .obtain ⟨_,v,hv,hr⟩:=q1 t x hx;have hv':vs[t]?=some v:=by simpa using hv
   have:(vs.toArray++Array.replicate (g.ntmps-vs.toArray.size) undef).getD t undef=v:=by have ht:t<vs.length:=(ap.1 hv').1;simp_all[bN,Array.getElem?_append_left]
   simp only[this];exact hr
  .simp;omega
  .rcases hk with hk|hk
   .exact hk
   .have:n<=j:=hj;omega
 obtain⟨s1,h,hRel⟩:=h _ _ _ _ _ _ _ _ _ hRel;refine wp_mono (GD hnt hm code s1 _ S _ φ _ w h hRel) fun ex a' w' hp=>?_;obtain⟨o,s',hl,rfl,S',Kn',φ',hs,hR⟩:=hp
 have main:∀(s':St)(rs:List R)(S' Kn':Nat->Prop)(φ':Nat->gV),gZ S w S' w'->GX S' (fun b=>b<w.heap.size/\b∉fp/\¬S b) w Kn' φ' (nH as vs) g.ntmps s' a' w'->s'.gh.length=lent.length->rt kW s' rs outs->
   a'.defers=[]/\∃v,(results g a'.tmps).run P w'=.ok v w'/\∃v',Ending.returned v=Ending.returned v'/\Left S w fp rs outs (nH as vs) v' w':=by
  intro s' rs S' Kn' φ' hs hR hgl hlv;obtain⟨tvs,oa,ob,htv,hpr,hpc,hnod⟩:=hlv;obtain⟨rv,p1,p2,p3⟩:=At hR.inv hR.dE _ _ _ hrv htv;obtain⟨r1,r2⟩:=B0 hR.inv tvs rv rs oa hpr p2 p3;obtain⟨t1,t2⟩:=DI hR.inv hpc (nH as vs) (hgl.trans q3) hR.gh
  have hown:∀i∈oa++ob,∃o,aw s'.heap i=some o/\cW o=true:=by
   grind
  have hfrm:=hR.inv.od;refine⟨hR.defers,_,Do p1,_,rfl,S',rv,_,_,rfl,hs,fun b hb=>?_,hR.inv.vJ,r1,t1,?_,?_,?_⟩
  .by_cases h1:b<w.heap.size
   .by_cases h2:b∈fp
    .exact .inr (.inl h2)
    .by_cases h3:S b
     .exact .inl h3
     .exact absurd ⟨h1,h2,h3⟩ (hR.inv.sk b hb)
   .exact .inr (.inr (by omega))
  .rw [<-mw];exact BB hR.inv hnod hown
  .rw [<-mw];intro b hb;obtain⟨i,hi,hb⟩:=List.mem_flatMap.1 hb;obtain⟨oi,hoi,hoo⟩:=hown i hi;obtain⟨k1,k2,k3⟩:=oZ hR.inv hoi hoo hb;refine⟨k1,?_⟩;by_cases h1:b<w.heap.size
   .by_cases h2:b∈fp
    .exact .inl h2
    .by_cases h3:S b
     .exact absurd (hs.sub _ h3) k1
     .exact absurd ⟨h1,h2,h3⟩ k2
   .exact .inr (by omega)
  .refine ⟨fun b hb=>hb.1,fun b hb=>?_,hfrm.tf,hfrm.Ba,hfrm.bD,hfrm.io⟩;by_cases h3:S b
   .exact hs.ez b h3
   .exact hfrm.mV b ⟨hb.1,hb.2,h3⟩
 have fin:wk (fun s=>s.gh.length=lent.length/\∃rs0,rt kW s rs0 outs/\qO m rs0=rs) s'->
   a'.defers=[]/\∃v,(results g a'.tmps).run P w'=.ok v w'/\∃v',Ending.returned v=Ending.returned v'/\Left S w fp rs outs (nH as vs) v' w':=by
  rintro⟨s1,hsub,hgl,rs0,hlv,rfl⟩;obtain⟨S1,Kn1,φ1,hs1,hR1⟩:=hsub S' _ w Kn' φ' _ _ a' w' hR;obtain⟨q1,v,q2,v',q3,q4⟩:=main s1 rs0 S1 Kn1 φ1 (hs.trans hs1) hR1 hgl hlv;exact⟨q1,v,q2,v',q3,q4.Ba m⟩
 cases o with|exit id=>exact hl.elim|normal=>exact fin hl|ret=>exact fin hl
theorem wh(hm:P.follows .mixedOrders=true){f np:Nat}{F:Fn}(hF:o_ P bz f np=some F){as:List A}{rs:List R}{outs:List T}
  {m:List Bool} (h:ZF P F m as rs outs):yf P f as rs outs:=
 Eo hm hF ⟨h.1,fun _ _ _ _ _ _ _ _ _ hR=>⟨_,h.2,hR⟩⟩
end
section
variable{P:Program}{s s':St}{e:iL}{h:bC}{n:Nat}{gh:List C}
theorem Sub.heap{h':bC}{n':Nat}(hh:∀id,aw h' id=aw h id\/aw h' id=none)(hn:n<=n'):Sub ⟨e,h,n,gh⟩ ⟨e,h',n',gh⟩:=by intro S K w0 Kn φ gv nt a w hR;exact⟨S,Kn,φ,gZ.refl S w,hR.inv.mD fun id o ho=>(hh id).elim (fun q=>q▸ho) fun q=>by rw[q]at ho;simp at ho,hR.dE,hR.size,hR.defers,fun j hj=>hR.gx j (Nat.le_trans hn hj),hR.gh⟩
theorem Fx{id id2 sz sz2 fy:Nat}{slots:List ly}{rows:List (List D)}(ho:aw h id=some (.nst sz slots))(hs:slots[fy]?=some (.oA id2 rows.length))(h2:aw h id2=some (.aK sz2 rows)):
  Sub ⟨e,h,n,gh⟩ ⟨e,(id,some (.nst sz (slots.set fy (.bD rows))))::(id2,none)::h,n,gh⟩:=by
 intro S K w0 Kn φ gv nt a w hR;have e1:=gb [(id,some (.nst sz (slots.set fy (.bD rows)))),(id2,none)] h;exact⟨S,Kn,φ,gZ.refl S w,e1▸hR.inv.Nk ho hs h2,hR.dE,hR.size,hR.defers,hR.gx,hR.gh⟩
theorem NS{t id sz szo off len:Nat}{rows rows':List (List D)}(ht:cm e t=some (.c (.cE sz id off len)))(ho:aw h id=some (.aK szo rows))(hr:(rows.drop off).take len=rows')(hle:off+len<=rows.length):
  Sub ⟨e,h,n,gh⟩ ⟨(t,.c (.cE sz n 0 len))::e,(id,none)::(n,some (.aK sz rows'))::h,n+1,gh⟩:=by
 intro S K w0 Kn φ gv nt a w hR;have hn:¬Kn n:=hR.gx n (am _);have hI:=hR.inv;obtain⟨hk0,h0⟩:=hI.iM _ _ ho;have hne:id≠n:=fun e=>hn (e▸hk0);have hv:=hR.dE t _ ht;generalize hval:a.tmps.getD t undef=val at hv;cases hv with
 |c hv=>
 have hkill:Inv S K w0 Kn φ (bq [(id,none)] (aw h)) w:=hI.mD fun i o ho=>by
  rw[cg]at ho;split at ho
  .simp at ho
  .exact ho
 have hfree:∀i o,bq [(id,none)] (aw h) i=some o->cW o=true->(φ id).dj∉iw w φ (bq [(id,none)] (aw h)) i:=by
  intro i o hi hown hm;have hi':=hi;rw[cg]at hi';split at hi'
  .simp at hi'
  .rename_i hne2;rw[gN rfl (hi.trans hi'.symm)]at hm;exact oF hI hi' ho hown rfl (fun e=>hne2 e.symm) hm (lp id)
 generalize hphi:φ id=l at*;cases h0 with
 |@aK _ _ aK hsz0 hl hS hK hown hext hfit hrr hvis=>
 obtain⟨cap,addr,rfl,hszl,hk,hcap,haddr,hextc,hcl⟩:=hv.j_;rw[hphi]at haddr hextc hszl hcl;obtain rfl:sz=szo:=by rw[<-hl,hszl]
 rw[hl]at haddr hextc;subst hr;have hlen:((rows.drop off).take len).length=len:=by simp;omega
 have hcm:len*sz<=cap*sz:=Nat.mul_le_mul_right _ hcap;have hR2:=hrr.xR off len fun h=>haddr (by omega)
 have hname:=hkill.name hn ⟨l.dj,addr,sz,l.ext,cap⟩ _ (fun _ j b hj hb hm=>hfree j b hj hb hm)
  (.aK hsz0 rfl hS hK hown hext (by rw[hlen];simp only;omega) hR2 (by rw[hlen];exact hcap))
 have hren:Ren Kn φ _ (ext φ n ⟨l.dj,addr,sz,l.ext,cap⟩):=jw _ hn;refine⟨S,fun j=>Kn j\/j=n,ext φ n ⟨l.dj,addr,sz,l.ext,cap⟩,gZ.refl S w,⟨?_,?_,hR.size,hR.defers,?_,?_⟩⟩
 .have:aw ((id,none)::(n,some (.aK sz ((rows.drop off).take len)))::h)=bq [(n,some (.aK sz ((rows.drop off).take len)))] (bq [(id,none)] (aw h)):=by have e1:aw ((id,none)::(n,some _)::h)=bq _ (aw h):=gb [(id,none),(n,some (.aK sz ((rows.drop off).take len)))] h;rw[e1,<-ei];exact m7 (u:=[(id,none)]) fun p hp q hq=>by simp_all
  rw[this];exact hname
 .intro t' x hx;simp only[cm]at hx;by_cases et:t=t'
  .subst et;simp at hx;subst hx;rw[hval];have e:ext φ n ⟨l.dj,addr,sz,l.ext,cap⟩ n=⟨l.dj,addr,sz,l.ext,cap⟩:=by simp[ext]
   have:=RC.cE (S:=S) (w:=w) (Kn:=fun j=>Kn j\/j=n) (φ:=ext φ n _) (id:=n) (off:=0) (len:=len) (cap:=cap) (addr:=addr)
    (.inr rfl) hcap (by rw[e];simp) (by rw[e];exact hextc) (by rw[e];simp)
   rw[e]at this;rw[hphi];exact .c this
  .have e':(t==t')=false:=by simpa using et
   rw[e',cond_false]at hx;exact(hR.dE t' x hx).mono (gZ.refl _ _) hren
 .intro j hj hk;simp only at hj;rcases hk with hk|hk
  .exact hR.gx j (by simp only;omega) hk
  .omega
 .intro i c v hc hv;exact(hR.gh i c v hc hv).mono (gZ.refl _ _) hren
theorem wk.sub{Q:St->Prop}(hs:Sub s s')(h:wk Q s'):wk Q s:=let⟨s1,h1,h2⟩:=h;⟨s1,hs.trans h1,h2⟩
theorem wk.mono{Q Q':St->Prop}(h:wk Q s)(hq:∀s,Q s->Q' s):wk Q' s:=let⟨s1,h1,h2⟩:=h;⟨s1,h1,hq _ h2⟩
theorem WO.mono{Q Q':St->Prop}(hq:∀s,Q s->Q' s):∀{ops:List mO}{s:St},WO P ops s Q->WO P ops s Q':=by
 intro ops;induction ops with
 |nil=>intro s h;exact wk.mono h hq
 |cons o r ih=>
  intro s h;obtain⟨s1,h1,h⟩:=h;refine⟨s1,h1,?_⟩
  grind
theorem WO.sub{Q:St->Prop}{ops:List mO}(hs:Sub s s')(h:WO P ops s' Q):WO P ops s Q:=by cases ops with|nil=>exact wk.sub hs h|cons o r=>obtain⟨s1,h1,h⟩:=h;exact⟨s1,hs.trans h1,h⟩
theorem u7.mono{R R':St->Prop}{Q Q':qX->St->Prop}(hr:∀s,R s->R' s)(hq:∀o s,Q o s->Q' o s):∀o s,u7 R Q o s->u7 R' Q' o s:=by intro o s h;cases o with|normal=>exact hr _ h|exit id=>exact hq _ _ h|ret=>exact hq _ _ h
theorem wx.mono{id:Nat}{Q Q':qX->St->Prop}(hq:∀o s,Q o s->Q' o s):∀o s,wx id Q o s->wx id Q' o s:=by
 intro o s h;cases o with
 |normal=>exact hq _ _ h
 |ret=>exact hq _ _ h
 |exit id'=>
  simp[wx]at h|-
  grind
theorem W.mono:∀{c:CC}{s:St}{Q Q':qX->St->Prop},(∀o s,Q o s->Q' o s)->W P c s Q->W P c s Q':=by intro c;induction c with|seq a b iha ihb=>intro s Q Q' hq h;exact iha (u7.mono (fun s h=>ihb hq h) hq) h|cond c a b iha ihb=>intro s Q Q' hq h;obtain⟨s1,h0,t,h1,h2,h3⟩:=h;exact⟨s1,h0,t,h1,fun ht=>iha hq (h2 ht),fun ht=>ihb hq (h3 ht)⟩|block id a ih=>intro s Q Q' hq h;exact ih (wx.mono hq) h|loop mV a ih=>intro s Q Q' hq h;obtain⟨I,n,h1,h2⟩:=h;exact⟨I,n,h1,fun n s hi=>ih (u7.mono (fun s h=>h) hq) (h2 n s hi)⟩|skip=>intro s Q Q' hq h;exact wk.mono h fun s h=>hq _ _ h|exit id=>intro s Q Q' hq h;exact wk.mono h fun s h=>hq _ _ h|ret=>intro s Q Q' hq h;exact wk.mono h fun s h=>hq _ _ h|region ops mV=>intro s Q Q' hq h;exact WO.mono (fun s h=>h.mono fun s h=>hq _ _ h) h|drawn ops dyn mV=>intro s Q Q' hq h;obtain⟨s1,h0,calls,e,hh,tr,h1,h2,h3,h4⟩:=h;exact⟨s1,h0,calls,e,hh,tr,h1,h2,h3,h4.mono fun s h=>hq _ _ h⟩|gk=>intro s Q Q' hq h;exact h
theorem W.sub:∀{c:CC}{s s':St}{Q:qX->St->Prop},Sub s s'->W P c s' Q->W P c s Q:=by intro c;induction c with|seq a b iha ihb=>intro s s' Q hs h;exact iha hs h|cond c a b iha ihb=>intro s s' Q hs h;obtain⟨s1,h0,h1⟩:=h;exact⟨s1,hs.trans h0,h1⟩|block id a ih=>intro s s' Q hs h;exact ih hs h|loop mV a ih=>intro s s' Q hs h;obtain⟨I,n,h1,h2⟩:=h;exact⟨I,n,wk.sub hs h1,h2⟩|skip=>intro s s' Q hs h;exact wk.sub hs h|exit id=>intro s s' Q hs h;exact wk.sub hs h|ret=>intro s s' Q hs h;exact wk.sub hs h|region ops mV=>intro s s' Q hs h;exact WO.sub hs h|drawn ops dyn mV=>intro s s' Q hs h;obtain⟨s1,h0,h1⟩:=h;exact⟨s1,hs.trans h0,h1⟩|gk=>intro s s' Q hs h;exact h
section
variable{Q:qX->St->Prop}
theorem wA(h:Q .normal s):W P .skip s Q:=wk.of h
theorem AM(h:Q .ret s):W P .ret s Q:=wk.of h
theorem fE{a b:CC}(h:W P a s (u7 (fun s'=>W P b s' Q) Q)):W P (.seq a b) s Q:=h
theorem NE{id:Nat}{a:CC}(h:W P a s (wx id Q)):W P (.block id a) s Q:=h
theorem yz{c:Operand}{a b:CC}{t:Bool}(hc:ke s.dE c=some (.c (.d (.lit (.bool t)))))(h1:t=true->W P a s Q)(h2:t=false->W P b s Q):W P (.cond c a b) s Q:=⟨s,Sub.refl s,t,hc,h1,h2⟩
theorem Fk{c:Operand}{a b:CC}{t:Bool}(hc:ke s.dE c=some (.c (.d (.lit (.bool t)))))(ht:t=true)(h1:W P a s Q):W P (.cond c a b) s Q:=yz hc (fun _=>h1) fun h=>by rw[ht]at h;cases h
theorem yg{c:Operand}{a b:CC}{t:Bool}(hc:ke s.dE c=some (.c (.d (.lit (.bool t)))))(ht:t=false)(h1:W P b s Q):W P (.cond c a b) s Q:=yz hc (fun h=>by rw[ht]at h;cases h) fun _=>h1
theorem Kl{ops:List mO}{mV:List Nat}(h:WO P ops s fun s'=>wk (Q .normal) s'):W P (.region ops mV) s Q:=h
end
def jW{α β:Type}(f:α->Option (α⊕β)):Nat->α->Option β
 |0,_=>none
 |n+1,a=>match f a with|some (.inl a')=>jW f n a'|some (.inr b)=>some b|none=>none
theorem xA{α β:Type}{f:α->Option (α⊕β)}:∀{n m:Nat}{a:α}{b:β},n<=m->jW f n a=some b->jW f m a=some b:=by
 intro n;induction n with
 |zero=>intro m a b _ h;simp[jW]at h
 |succ n ih=>intro m a b hm h;cases m with|zero=>omega|succ m=>grind [jW]
open Classical in
def bw{α β:Type}(f:α->Option (α⊕β))(a:α):Option β:=if h:∃n b,jW f n a=some b then some (jp (fC h))else none
theorem lW{α β:Type}{f:α->Option (α⊕β)}{a:α}{b:β}:bw f a=some b<->∃n,jW f n a=some b:=by
 constructor
 .intro h;unfold bw at h;split at h
  .grind
  .simp at h
 .rintro ⟨n,hn⟩;have hx:∃n b,jW f n a=some b:=⟨n,b,hn⟩
  unfold bw;rw[dif_pos hx];have h2:=fC (fC hx);have h3:=xA (Nat.le_max_left n (jp hx)) hn;have h4:=xA (Nat.le_max_right n _) h2;rw[h3]at h4;rw[<-h4]
theorem zu{α β:Type}(f:α->Option (α⊕β))(a:α):bw f a=match f a with
  |some (.inl a')=>bw f a'
  |some (.inr b)=>some b
  |none=>none:=by
 apply Option.ext;intro b;rw[lW];constructor
 .rintro ⟨n,hn⟩;cases n with|zero=>simp[jW]at hn|succ n=>grind [jW,lW]
 .intro h;split at h
  .rename_i a' ha;obtain⟨n,hn⟩:=lW.1 h;exact⟨n+1,by simp[jW,ha];exact hn⟩
  .rename_i b' ha;exact⟨1,by simp only[jW,ha];exact h⟩
  .simp at h
theorem oC{α β:Type}{f:α->Option (α⊕β)}{a a':α}(h:f a=some (.inl a')):bw f a=bw f a':=by rw[zu,h]
theorem ku{α β:Type}{f:α->Option (α⊕β)}{a:α}{b:β}(h:f a=some (.inr b)):bw f a=some b:=by rw[zu,h]
def dF:Ev.Call:=fun _ _=>none
theorem lV:kE P dF:=fun _ _ _ _ h=>by simp[dF]at h
section
variable{Q:St->Prop}{r:List mO}{d:Nat}{k:K}{args:List Operand}{v:TV}{u:eS}{az:List Nat}{m g:Nat}{b c:Bool}
def Mh:Option TV->Option (FuncId×List C)
 |some (.c (.d (.fn f caps)))=>some (f,caps.map C.d)
 |some (.c (.pp f caps))=>some (f,caps)
 |_=>none
def callee(h:bC)(kG:List Bool):List (Option TV)->Option (FuncId×List A)
 |f::vs=>
  match Mh f,dY vs with
  |some (f,caps),some vs=>match gJ h (vs++caps.map TV.c) kG with|some (as,_,_)=>some (f,as)|none=>none
  |_,_=>none
 |[]=>none
def vu(h:bC)(nxt:Nat)(ro:Bool)(az:List Nat)(lent:List (C×List Nat×List Nat)):Option (List R×List T)->GW
 |none=>none
 |some (rs,outs)=>
  if ro then
   if rs.all wZ/\outs.all FV then
    match eF nxt lent outs with|none=>none|some (bu,m)=>some (tL (il m rs).1,(il m rs).2.1++bu,az++lent.flatMap (·.2.2),(il m rs).2.2)
   else none
  else
   match dJ h az az with
   |none=>none
   |some fu=>match eF nxt lent outs with|none=>none|some (bu,m)=>some (tL (il m rs).1,(il m rs).2.1++bu++fu,az++lent.flatMap (·.2.2),(il m rs).2.2)
theorem Bi(call:Ev.Call)(ro:Bool)(kG:List Bool)(fv:Option TV)(vs:List (Option TV))(h:bC)(nxt:Nat):
  vy call ro kG fv vs h nxt=match Mh fv,dY vs with
   |some (f,caps),some vs=>match gJ h (vs++caps.map TV.c) kG with|none=>none|some (as,az,lent)=>if eY h lent/\(lent.flatMap (fun(p:C×List Nat×List Nat)=>p.2.1)).Nodup/\(lent.flatMap (fun(p:C×List Nat×List Nat)=>p.2.1)).all (fun i=>!az.contains i)then vu h nxt ro az lent (call f as)else none
   |_,_=>none:=by
 have e1:∀(o:Option _)(az:List Nat)(lent:List _),(match o with
    |none=>none
    |some (rs,outs)=>
     if ro then
      if rs.all wZ/\outs.all FV then
       match eF nxt lent outs with
       |none=>none
       |some (bu,m)=>
        let(vs,u,k):=il m rs
        some (tL vs,u++bu,az++lent.flatMap (fun(p:C×List Nat×List Nat)=>p.2.2),k)
      else none
     else
      match dJ h az az with
      |none=>none
      |some fu=>
       match eF nxt lent outs with
       |none=>none
       |some (bu,m)=>
        let(vs,u,k):=il m rs
        some (tL vs,u++bu++fu,az++lent.flatMap (fun(p:C×List Nat×List Nat)=>p.2.2),k))=vu h nxt ro az lent o:=by
  intro o az lent;cases o with|none=>rfl|some p=>rfl
 have e2:(match fv with|some (.c (.d (.fn f caps)))=>some (f,caps.map C.d)|some (.c (.pp f caps))=>some (f,caps)|_=>none)=Mh fv:=rfl
 show(match(match fv with|some (.c (.d (.fn f caps)))=>some (f,caps.map C.d)|some (.c (.pp f caps))=>some (f,caps)|_=>none),dY vs with
   |some (f,caps),some vs=>
    match gJ h _ kG with
    |none=>none
    |some (as,az,lent)=>
     if eY h lent/\(lent.flatMap _).Nodup/\(lent.flatMap _).all _ then
      (match call f as with
    |none=>none
    |some (rs,outs)=>
     if ro then
      if rs.all wZ/\outs.all FV then
       match eF nxt lent outs with
       |none=>none
       |some (bu,m)=>
        let(vs,u,k):=il m rs
        some (tL vs,u++bu,az++lent.flatMap (fun(p:C×List Nat×List Nat)=>p.2.2),k)
      else none
     else
      match dJ h az az with
      |none=>none
      |some fu=>
       match eF nxt lent outs with
       |none=>none
       |some (bu,m)=>
        let(vs,u,k):=il m rs
        some (tL vs,u++bu++fu,az++lent.flatMap _,k))else none
   |_,_=>none)=_
 simp only[e1,e2]
open Classical in
def only(f:FuncId)(as:List A)(rs:List R)(outs:List T):Ev.Call:=fun f' as'=>if f'=f/\as'=as then some (rs,outs)else none
theorem Hx{f:FuncId}{as:List A}{rs:List R}{outs:List T}(hg:yf P f as rs outs):kE P (only f as rs outs):=by intro f' as' rs' outs' h;unfold only at h;simp_all
theorem By{f:FuncId}{as:List A}{rs:List R}{outs:List T}{ro:Bool}{kG:List Bool}{vs:List (Option TV)}{x:TV×eS×List Nat×Nat}
  (h2:callee h kG vs=some (f,as)) (h1:cC (fun _ _=>some (rs,outs)) (.call ro kG) vs h n=some x):cC (only f as rs outs) (.call ro kG) vs h n=some x:=by
 cases vs with
 |nil=>simp[callee]at h2
 |cons fv vs=>
  simp[callee]at h2;simp[cC,Bi]at h1|-;split at h2
  .rename_i f' caps vs' hf hvs;simp[hf,hvs]at h1|-;split at h2
   .rename_i as' az lent hargs;obtain⟨rfl,rfl⟩:=af (aa h2);rw[hargs]at h1|-;simp only[only]at h1|-;exact h1
   .simp at h2
  .simp at h2
theorem H7{fv:Option TV}{ovs:List (Option TV)}{vs:List TV}{f:FuncId}{caps:List C}{as:List A}{az:List Nat}{lent:List (C×List Nat×List Nat)}{ro:Bool}{kG:List Bool}{rs:List R}{outs:List T}{x:TV×eS×List Nat×Nat}
  (hf:Mh fv=some (f,caps)) (hv:dY ovs=some vs) (ha:gJ h (vs++caps.map TV.c) kG=some (as,az,lent)) (hw:eY h lent=true)
  (hn:decide ((lent.flatMap (fun(p:C×List Nat×List Nat)=>p.2.1)).Nodup/\(lent.flatMap (fun(p:C×List Nat×List Nat)=>p.2.1)).all (fun i=>!az.contains i)=true)=true)
  (hl:vu h n ro az lent (some (rs,outs))=some x):
  callee h kG (fv::ovs)=some (f,as)/\cC (fun _ _=>some (rs,outs)) (.call ro kG) (fv::ovs) h n=some x:=by
 have hn':=of_decide_eq_true hn;constructor
 .simp [callee,hf,hv,ha]
 .simp only[cC,Bi,hf,hv,ha];rw[if_pos ⟨hw,hn'⟩];exact hl
theorem YB{az:List Nat}{lent:List (C×List Nat×List Nat)}{rs:List R}{outs:List T}{fu bu:eS}{m:Nat}(hz:dJ h az az=some fu)(hb:eF n lent outs=some (bu,m)):
  vu h n false az lent (some (rs,outs))=some (tL (il m rs).1,(il m rs).2.1++bu++fu,az++lent.flatMap (·.2.2),(il m rs).2.2):=by
 simp[vu,hz,hb,aH,if_false]
theorem OQ{az:List Nat}{lent:List (C×List Nat×List Nat)}{rs:List R}{outs:List T}{bu:eS}{m:Nat}(h1:rs.all wZ=true)(h2:outs.all FV=true)(hb:eF n lent outs=some (bu,m)):
  vu h n true az lent (some (rs,outs))=some (tL (il m rs).1,(il m rs).2.1++bu,az++lent.flatMap (·.2.2),(il m rs).2.2):=by
 simp[vu,h1,h2,hb,and_self,if_true]
theorem PR{sz id len k:Nat}{rows:List (List D)}{rd:List Nat}{r:List (C×List Nat×List Nat)}{ts:List T}{w:eS}(hl:rows.length=len)(hr:eF n r ts=some (w,k)):
  eF n ((.cE sz id 0 len,[id],rd)::r) (.sl sz rows::ts)=some ((id,some (.aK sz rows))::w,k):=by
 simp[eF,hl,hr,and_self,if_true]
theorem PQ{id k:Nat}{bD rd:List Nat}{r:List (C×List Nat×List Nat)}{ts' ts:List T}{w:eS}(hc:bD.contains id=true)(hr:eF (ja n ts').2.2 r ts=some (w,k)):
  eF n ((.op id 0,bD,rd)::r) (.pt ts'::ts)=some ((id,some (.box (ja n ts').1))::(ja n ts').2.1++bD.map (fun i=>(i,none))++w,k):=by
 simp only[eF,hr,hc,if_true]
theorem J6{c:C}{bD rd:List Nat}{k:Nat}{r:List (C×List Nat×List Nat)}{ts:List T}{w:eS}(hr:eF n r ts=some (w,k)):eF n ((c,bD,rd)::r) (.eH::ts)=some (bD.map (fun i=>(i,none))++w,k):=by simp[eF,hr]
theorem YN{c:C}{vs:List TV}{ms:List Bool}{as:List A}{az i:List Nat}{lent:List (C×List Nat×List Nat)}{x:D}(hv:eM h 300 c=some (x,i))(hm:ms.headD false=false)(hr:gJ h vs ms.tail=some (as,az,lent)):
  gJ h (.c c::vs) ms=some (.d x::as,i++az,lent):=by simp_all[gJ]
theorem So{cs:List C}{vs:List TV}{ms:List Bool}{as:List A}{az i:List Nat}{lent:List (C×List Nat×List Nat)}{xs:List D}(hv:dZ h cs=some (xs,i))(hm:ms.headD false=false)(hr:gJ h vs ms.tail=some (as,az,lent)):
  gJ h (.agg cs::vs) ms=some (.agg xs::as,i++az,lent):=by simp_all[gJ]
theorem VC{c:C}{vs:List TV}{ms:List Bool}{as:List A}{az bD rd:List Nat}{lent:List (C×List Nat×List Nat)}{t:T}(hv:dU h 300 c=some (t,bD,rd))(hm:ms.headD false=true)(hr:gJ h vs ms.tail=some (as,az,lent)):
  gJ h (.c c::vs) ms=some (.mt t::as,az,(c,bD,rd)::lent):=by simp only[gJ,hr,hm,hv,if_true]
end
abbrev Tr:=List (List Nat×List Nat)
abbrev Tj:=iL×bC×Tr
def Ni(e:iL)(d:Option Nat)(h:bC)(tr:Tr)(top:Nat)(r:GW):Option Tj:=match r with|some (v,u,az,m)=>if m<=top then some (put e d v,u++h,tr++[(az,u.map (·.1))])else none|none=>none
def De(call:Ev.Call)(aJ i:Nat)(o:mO)(s:Tj):Option Tj:=match j8 s.1 o.guard with|some true=>Ni s.1 o.dst s.2.1 s.2.2 (aJ+aD*(i+1)) (cC call o.k (o.args.map (ke s.1)) s.2.1 (aJ+aD*i))|some false=>some (drop s.1 o.dst,s.2.1,s.2.2++[([],[])])|none=>none
def Cp(calls:Nat->Ev.Call)(aJ:Nat):List mO->Nat->Tj->Option Tj
 |[],_,s=>some s
 |o::r,i,s=>(De (calls i) aJ i o s).bind (Cp calls aJ r (i+1))
theorem Pd{calls:Nat->Ev.Call}{aJ:Nat}:∀(l:List mO)(i:Nat)(e:iL)(h:bC)(tr:Tr)(e':iL)(h':bC)(tr':Tr),Cp calls aJ l i (e,h,tr)=some (e',h',tr')->
  ∃t,jH calls aJ l i e h=some (e',h',t)/\tr'=tr++t:=by
 intro l;induction l with
 |nil=>
  intro i e h tr e' h' tr' hh;obtain⟨rfl,rfl,rfl⟩:e=e'/\h=h'/\tr=tr':=by simpa[Cp]using hh
  exact⟨[],rfl,by simp⟩
 |cons o r ih=>
  intro i e h tr e' h' tr' hh;unfold Cp De at hh;unfold jH;cases hw:j8 e o.guard with
  |none=>simp[hw]at hh
  |some b=>
   cases b with
   |false=>grind
   |true=>
    simp[hw]at hh;cases hv:cC _ o.k _ h _ with
    |none=>simp[hv,Ni]at hh
    |some p=>
     simp[hv,Ni]at hh
     grind
theorem Gt{calls calls':Nat->Ev.Call}{aJ:Nat}:∀(l:List mO)(i:Nat)(s:Tj),(∀j,i<=j->calls j=calls' j)->Cp calls aJ l i s=Cp calls' aJ l i s:=by
 intro l;induction l with
 |nil=>intro i s _;rfl
 |cons o r ih=>
  intro i s hc;simp[Cp,hc i (am _)];congr 1
  grind
def WD(P:Program)(aJ:Nat)(ops:List mO)(i:Nat)(e:iL)(h:bC)(tr:Tr)(Q:iL->bC->Tr->Prop):Prop:=∃calls,(∀j,kE P (calls j))/\∃e' h' tr',Cp calls aJ ops i (e,h,tr)=some (e',h',tr')/\Q e' h' tr'
theorem ND{Q:qX->St->Prop}{ops:List mO}{dyn:List (Nat×Nat)}{mV:List Nat}
  (hw:WD P n ops 0 e h [] fun e' h' tr=>zM tr dyn=true/\wk (Q .normal) ⟨e',h',n+aD*ops.length,gh⟩):W P (.drawn ops dyn mV) ⟨e,h,n,gh⟩ Q:=by
 obtain⟨calls,mo,e',h',tr',h1,hd,hq⟩:=hw;obtain⟨t,h4,ht⟩:=Pd _ _ _ _ _ _ _ _ h1;obtain rfl:tr'=t:=by simpa using ht
 exact⟨_,Sub.refl _,calls,e',h',_,mo,h4,hd,hq⟩
section
variable{aJ i:Nat}{ops r:List mO}{tr:Tr}{Q:iL->bC->Tr->Prop}{d:Nat}{k:K}{args:List Operand}{v:TV}{u:eS}{az:List Nat}{m g:Nat}{b c:Bool}
theorem VN(hq:Q e h tr):WD P aJ [] i e h tr Q:=⟨fun _=>dF,fun _=>lV,e,h,tr,rfl,hq⟩
theorem MD{call:Ev.Call}{o:mO}{e1:iL}{h1:bC}{tr1:Tr}(mo:kE P call)(hs:De call aJ i o (e,h,tr)=some (e1,h1,tr1))(hq:WD P aJ r (i+1) e1 h1 tr1 Q):WD P aJ (o::r) i e h tr Q:=by
 obtain⟨calls,hc,e',h',tr',h2,h3⟩:=hq;refine⟨fun j=>if j=i then call else calls j,fun j=>?_,e',h',tr',?_,h3⟩
 .grind
 .simp [Cp,hs];rw[Gt r _ _ fun j hj=>if_neg (by omega)];exact h2
theorem S4{e:iL}{dd:Option Nat}{top:Nat}(hm:m<=top):Ni e dd h tr top (some (v,u,az,m))=some (put e dd v,u++h,tr++[(az,u.map (·.1))]):=by simp only[Ni];rw[if_pos hm]
theorem N8:aJ+aD*i<=aJ+aD*(i+1):=by simp[aD];omega
end
inductive Fg:bC->bC->Prop
 |nil:Fg [] []
 |cons {p:Nat×Option Ob} {a b:bC} (h:Fg a b):Fg (p::a) (p::b)
 |skip {i:Nat} {a b:bC} (h:Fg a b):Fg a ((i,none)::b)
end
end Go.Ev
