/- A region in any order, against the text's order. Conditions: operations whose names meet are ordered by the text; operations whose objects meet are ordered by the text, or the check at the run says that they do not meet. -/
import Derived.Test.YtpnnnoagjcpmhaaDoorEvR
import Derived.Orders
import Derived.Scope
open Array renaming getD->iB,getD_eq_getD_getElem?->bp,getElem?_eq_getElem->fM,getElem?_eq_some_iff->be,getElem?_toList->aY
open Bool renaming and_eq_true->af,false_eq_true->aN,or_eq_true->bY
open Classical renaming choose->fo,choose_spec->cQ
open List renaming Sublist->cT,all_eq_true->aV,flatMap_append->gB,getD_eq_getElem?_getD->ck,getElem?_eq_getElem->au,getElem?_eq_some_iff->ai,getElem?_map->aD,length_cons->cF,length_eq_zero_iff->bd,map_cons->aq,mem_append->ak,mem_append_left->aE,mem_append_right->aC,mem_cons->aF,mem_cons_of_mem->aA,mem_cons_self->cE,mem_flatten->df,mem_of_getElem?->aQ,mem_singleton->am,nodup_append->bR
open List.Sublist renaming refl->bS
open Nat renaming add_assoc->ct,add_sub_cancel'->iF,add_zero->cu,le_refl->ao,lt_or_ge->dC,mul_le_mul_left->ko,zero_add->bG
open Option renaming bind_some->ae,map_eq_some_iff->aB
open Option.some renaming inj->aa,injEq->bl
open Prod.mk renaming inj->ad,injEq->cO
noncomputable section
namespace Go.Ev
def xG:Ev.K->Nat
 |.mv|.pick|.build _ _|.nilCheck|.xn _|.sy _|.po _ _|.w6 _ _|.un _|.tw _|.Cg _|.qO|.GD _|.fieldAddr _ _|.field _ _ _
 |.indexAddr _ _|.nJ|.index _ _ _|.extract _|.len _|.pW _|.fr=>0
 |.load _ _|.lookup _ _ _ _ _|.slice _ _ _ _=>1
 |_=>2
set_option maxHeartbeats 2000000 in
theorem Ja{call:Call}{k:Ev.K}{vs:List (Option TV)}{H:bz}{nxt n:Nat}{v:TV}{u:eG}{aw:List Nat}(hk:xG k<=1)(h:cm call k vs H nxt=some (v,u,aw,n)):u=[]:=by
 cases k<;>first
  |(simp[xG]at hk;done)
  |(unfold cm at h
    repeat' split at h
    all_goals first
     |(simp at h;done)
     |(simp only[bl,cO]at h;exact h.2.1.symm)
     |(simp_all;done))
set_option maxHeartbeats 2000000 in
theorem I_{call:Call}{k:Ev.K}{vs:List (Option TV)}{H:bz}{nxt n:Nat}{v:TV}{u:eG}{aw:List Nat}(hk:xG k=0)(h:cm call k vs H nxt=some (v,u,aw,n)):aw=[]:=by
 cases k<;>first
  |(simp[xG]at hk;done)
  |(unfold cm at h
    repeat' split at h
    all_goals first
     |(simp at h;done)
     |(simp only[bl,cO]at h;exact h.2.2.1.symm)
     |(simp_all;done))
def nP(acc:List Nat):List Edge->Nat
 |[]=>0
 |e::r=>if Region.binds .any e then(nP acc r)|||2^e.on|||acc.getD e.on 0 else nP acc r
def KA:List Oper->List Nat->List Nat
 |[],acc=>acc
 |o::r,acc=>KA r (acc++[nP acc o.after.toList])
def wx(m:List Nat):List Oper->Nat->Bool
 |[],_=>true
 |o::r,i=>m.getD i 0==nP m o.after.toList&&o.after.toList.all (fun e=>!(Region.binds .any e)||decide (e.on<i))&&wx m r (i+1)
def eB(m:List Nat)(i j:Nat):Bool:=(m.getD j 0).testBit i
def RZ:Operand->Option Nat
 |.tmp t=>some t
 |_=>none
def DJ(o:mj):List Nat:=o.args.filterMap RZ++(match o.guard with|some (t,_)=>[t]|none=>[])
def GN(d:Option Nat)(l:List Nat):Bool:=match d with|some d=>l.contains d|none=>false
def xd(a b:mj):Bool:=GN a.dst (DJ b)||GN b.dst (DJ a)||GN a.dst b.dst.toList
def sJ(m:List Nat)(i:Nat)(a:mj):List mj->Nat->Bool
 |[],_=>true
 |b::r,j=>(eB m i j||!xd a b)&&sJ m i a r (j+1)
def v6(m:List Nat):List mj->Nat->Bool
 |[],_=>true
 |a::r,i=>sJ m i a r (i+1)&&v6 m r (i+1)
def C_:Value->Value->Bool
 |.int k a,.int k' b=>decide (k=k')&&decide (a=b)
 |.bool a,.bool b=>decide (a=b)
 |.string a,.string b=>decide (a.toList=b.toList)
 |.float k a,.float k' b=>decide (k=k')&&decide (a=b)
 |.slice none 0 0,.slice none 0 0|.pointer none,.pointer none|.map none,.map none|.nilFunc,.nilFunc|.nilIface,.nilIface=>true
 |_,_=>false
def yn:List Value->List Value->Bool
 |[],[]=>true
 |x::xs,y::ys=>C_ x y&&yn xs ys
 |_,_=>false
def yi:Ev.K->Ev.K->Bool
 |.lookup ka ks va z false,.mapEntry ka' ks' va' z'=>decide (ka=ka')&&decide (ks=ks')&&decide (va=va')&&yn z z'
 |_,_=>false
def uq(m:List Nat)(i:Nat)(a:mj):List mj->Nat->List (Nat×Nat)
 |[],_=>[]
 |b::r,j=>if eB m i j||xG b.k==0||xG b.k+xG a.k<=2 then uq m i a r (j+1)else(i,if yi a.k b.k then 1000+j else j)::uq m i a r (j+1)
def qN(m:List Nat):List mj->Nat->List (Nat×Nat)
 |[],_=>[]
 |a::r,i=>(if xG a.k==0 then[]else uq m i a r (i+1))++qN m r (i+1)
def uv(ops:List Oper)(cops:List mj)(lr:List Nat):CC:=
 let m:=KA ops []
 if wx m ops 0&&v6 m cops 0&&decide (cops.length<=1000)then .drawn cops (qN m cops 0) lr else .fr
theorem x7{acc:List Nat}{j:Nat}:∀{es:List Edge},(nP acc es).testBit j=true->∃e∈es,Region.binds .any e=true/\(e.on=j\/(acc.getD e.on 0).testBit j=true):=by
 intro es;induction es with
 |nil=>intro h;simp[nP]at h
 |cons e r ih=>
  intro h;simp only[nP]at h;split at h
  .rename_i hb;simp only[Nat.testBit_or,bY,Nat.testBit_two_pow,decide_eq_true_eq]at h;rcases h with(h|h)|h
   .obtain ⟨e',he,h'⟩:=ih h;exact⟨e',aA _ he,h'⟩
   .exact ⟨e,cE,hb,.inl h⟩
   .exact ⟨e,cE,hb,.inr h⟩
  .obtain ⟨e',he,h'⟩:=ih h;exact⟨e',aA _ he,h'⟩
theorem Dw{m:List Nat}:∀{l:List Oper}{i:Nat},wx m l i=true->∀(k:Nat)(o:Oper),l[k]?=some o->
  (∀j,eB m j (i+k)=true->∃e∈o.after,Region.binds .any e=true/\(e.on=j\/eB m j e.on=true))/\∀e∈o.after,Region.binds .any e=true->e.on<i+k:=by
 intro l;induction l with
 |nil=>intro i _ k o hk;simp at hk
 |cons o0 r ih=>
  intro i h k o hk;simp only[wx,af]at h;obtain⟨⟨h1,h2⟩,h3⟩:=h;cases k with
  |zero=>
   obtain rfl:o0=o:=by simpa using hk
   refine⟨fun j hj=>?_,fun e he hb=>?_⟩
   .unfold eB at hj;rw[cu,(by simpa using h1:m.getD i 0=_)]at hj;obtain⟨e,he,h'⟩:=x7 hj;exact⟨e,by simpa using he,h'⟩
   .have:=aV.1 h2 e (by simpa using he);simpa[hb]using this
  |succ k=>have:=ih h3 k o (by simpa using hk);rw[show i+1+k=i+(k+1)by omega]at this;exact this
theorem xL{m:List Nat}{i:Nat}{a:mj}:∀{l:List mj}{j:Nat},sJ m i a l j=true->∀(k:Nat)(b:mj),l[k]?=some b->eB m i (j+k)=true\/xd a b=false:=by
 intro l;induction l with
 |nil=>intro j _ k b hk;simp at hk
 |cons b0 r ih=>
  intro j h k b hk;simp only[sJ,af]at h;cases k with
  |zero=>
   obtain rfl:b0=b:=by simpa using hk
   simpa using h.1
  |succ k=>have:=ih h.2 k b (by simpa using hk);rwa[show j+1+k=j+(k+1)by omega]at this
theorem C9{m:List Nat}:∀{l:List mj}{i:Nat},v6 m l i=true->∀(k k':Nat)(a b:mj),l[k]?=some a->l[k']?=some b->k<k'->eB m (i+k) (i+k')=true\/xd a b=false:=by
 intro l;induction l with
 |nil=>intro i _ k k' a b hk;simp at hk
 |cons a0 r ih=>
  intro i h k k' a b hk hk' hlt;simp only[v6,af]at h;cases k' with
  |zero=>omega
  |succ k'=>
   cases k with
   |zero=>
    obtain rfl:a0=a:=by simpa using hk
    have:=xL h.1 k' b (by simpa using hk');rwa[show i+1+k'=i+(k'+1)by omega]at this
   |succ k=>have:=ih h.2 k k' a b (by simpa using hk) (by simpa using hk') (by omega);rwa[show i+1+k=i+(k+1)by omega,show i+1+k'=i+(k'+1)by omega]at this
theorem B9{m:List Nat}{i:Nat}{a:mj}:∀{l:List mj}{j:Nat},∀(k:Nat)(b:mj),l[k]?=some b->eB m i (j+k)=true\/xG b.k=0\/xG b.k+xG a.k<=2\/(i,if yi a.k b.k then 1000+(j+k)else j+k)∈uq m i a l j:=by
 intro l;induction l with
 |nil=>intro j k b hk;simp at hk
 |cons b0 r ih=>
  intro j k b hk;cases k with
  |zero=>
   obtain rfl:b0=b:=by simpa using hk
   simp only[uq];split
   .rename_i h;simp only[bY,beq_iff_eq,decide_eq_true_eq]at h;rcases h with(h|h)|h
    .exact .inl h
    .exact .inr (.inl h)
    .exact .inr (.inr (.inl h))
   .exact .inr (.inr (.inr (cE ..)))
  |succ k=>
   have:=ih (j:=j+1) k b (by simpa using hk);rw[show j+1+k=j+(k+1)by omega]at this;rcases this with h|h|h|h
   .exact .inl h
   .exact .inr (.inl h)
   .exact .inr (.inr (.inl h))
   .refine .inr (.inr (.inr ?_));simp only[uq];split
    .exact h
    .exact aA _ h
theorem B_{m:List Nat}:∀{l:List mj}{i:Nat},∀(k k':Nat)(a b:mj),l[k]?=some a->l[k']?=some b->k<k'->
  eB m (i+k) (i+k')=true\/xG a.k=0\/xG b.k=0\/xG b.k+xG a.k<=2\/(i+k,if yi a.k b.k then 1000+(i+k')else i+k')∈qN m l i:=by
 intro l;induction l with
 |nil=>intro i k k' a b hk;simp at hk
 |cons a0 r ih=>
  intro i k k' a b hk hk' hlt;cases k' with
  |zero=>omega
  |succ k'=>
   cases k with
   |zero=>
    obtain rfl:a0=a:=by simpa using hk
    have:=B9 (m:=m) (i:=i) (a:=a0) (j:=i+1) k' b (by simpa using hk');rw[show i+1+k'=i+(k'+1)by omega]at this;rcases this with h|h|h|h
    .exact .inl h
    .exact .inr (.inr (.inl h))
    .exact .inr (.inr (.inr (.inl h)))
    .by_cases e:xG a0.k=0
     .exact .inr (.inl e)
     .refine .inr (.inr (.inr (.inr ?_)));simp only[qN,beq_iff_eq,e,if_false];exact aE _ h
   |succ k=>
    have:=ih (i:=i+1) k k' a b (by simpa using hk) (by simpa using hk') (by omega);rw[show i+1+k=i+(k+1)by omega,show i+1+k'=i+(k'+1)by omega]at this;rcases this with h|h|h|h|h
    .exact .inl h
    .exact .inr (.inl h)
    .exact .inr (.inr (.inl h))
    .exact .inr (.inr (.inr (.inl h)))
    .exact .inr (.inr (.inr (.inr (by simp only[qN];exact aC _ h))))
theorem F0{a b:Value}(h:C_ a b=true):a=b:=by
 unfold C_ at h;split at h<;>first|rfl|(simp at h;done)|skip
 .obtain ⟨rfl,rfl⟩:_/\_:=by simpa using h
  rfl
 .obtain rfl:_=_:=by simpa using h
  rfl
 .rename_i x y;have:x.toList=y.toList:=by simpa using h
  rw[ByteArray.toList_eq,ByteArray.toList_eq]at this;obtain⟨⟨x⟩⟩:=x;obtain⟨⟨y⟩⟩:=y;have e:x=y:=by simpa using this
  rw[e]
 .obtain ⟨rfl,rfl⟩:_/\_:=by simpa using h
  rfl
theorem H9:∀{a b:List Value},yn a b=true->a=b:=by
 intro a;induction a with
 |nil=>intro b h;cases b<;>simp_all[yn]
 |cons x a ih=>intro b h;cases b with|nil=>simp[yn]at h|cons y b=>simp only[yn,af]at h;rw[F0 h.1,ih h.2]
theorem Jb:∀{ks:List Kd}{a b:List Value},vw ks a=true->vw ks b=true->∃r,ft ks a b=some r:=by
 intro ks;induction ks with
 |nil=>intro a b h1 h2;cases a<;>cases b<;>simp_all[vw,ft]
 |cons k ks ih=>
  intro a b h1 h2;cases a with
  |nil=>simp[vw]at h1
  |cons x a=>
   cases b with
   |nil=>simp[vw]at h2
   |cons y b=>
    simp only[vw,af]at h1 h2;obtain⟨r,hr⟩:=ih h1.2 h2.2;have hk:∃q,AC k x y=some q:=by have ha:=h1.1;have hb:=h2.1;cases k<;>cases x<;>cases y<;>simp_all[GI,AC]
    obtain⟨q,hq⟩:=hk;exact⟨q&&r,by simp[ft,hq,hr]⟩
theorem GS{ks:List Kd}{key:List Value}{e:qT}:∀{es:List qT}{i:Nat},
  lw ks key (es++[e]) i=(match lw ks key es i with|some (some j)=>some (some j)|some none=>(match ft ks key e.1 with|some true=>some (some (i+es.length))|some false=>some none|none=>none)|none=>none):=by
 intro es;induction es with
 |nil=>intro i;simp only[List.nil_append,lw,List.length_nil,cu];cases ft ks key e.1 with|none=>rfl|some b=>cases b<;>rfl
 |cons x es ih=>
  intro i;simp only[List.cons_append,lw];cases ft ks key x.1 with
  |none=>rfl
  |some b=>cases b with|true=>rfl|false=>simp only[ih,cF];rw[show i+1+es.length=i+(es.length+1)by omega]
theorem JM{ks:List Kd}{key:List Value}:∀{es:List qT}{i j:Nat},lw ks key es i=some (some j)->j<i+es.length:=by
 intro es;induction es with
 |nil=>intro i j h;simp[lw]at h
 |cons x es ih=>
  intro i j h;simp only[lw]at h;split at h
  .obtain rfl:i=j:=by simpa using h
   simp
  .have:=ih h;simp only[cF];omega
  .simp at h
theorem BO{ka:Bool}{ks:List Kd}{k:TV}{key:List Value}(h:mR ka ks k=some key):vw ks key=true:=by
 cases k with
 |agg cs=>
  simp only[mR]at h;split at h
  .exact (pg h).2
  .simp at h
 |c x=>
  simp only[mR]at h;split at h
  .exact (pg h).2
  .simp at h
 |gR xs=>simp[mR]at h
theorem FV{call1 call2:Call}{k1 k2:Ev.K}{vs1 vs2:List (Option TV)}{H H':bz}{nx1 nx2 n n2 id:Nat}{v v2:TV}{u u2:eG}{ids2:List Nat}(hk:yi k1 k2=true)
  (h1:cm call1 k1 vs1 H nx1=some (v,u,[id],n)) (h2:cm call2 k2 vs2 H' nx2=some (v2,u2,ids2,n2)) (hs:av H' id=av H id) (ht:id∈u2.map (·.1)):
  cm call1 k1 vs1 (u2++H) nx1=some (v,u,[id],n):=by
 unfold yi at hk;split at hk
 .rename_i ka ks va z ka' ks' va' z';simp only[af,decide_eq_true_eq]at hk;obtain⟨⟨⟨rfl,rfl⟩,rfl⟩,hz⟩:=hk;obtain rfl:=H9 hz
  match vs1,vs2,h1,h2 with
  |[some (.c m1),some kt1],[some (.c m2),some kt2],h1,h2=>
   change (match gx ka ks va z false m1 kt1 H with|some (v,aw)=>some (v,([]:eG),aw,nx1)|none=>none)=_ at h1;change (match lA ka ks va z m2 kt2 H' with|some (v,u,aw)=>some (v,u,aw,nx2)|none=>none)=_ at h2;show(match gx ka ks va z false m1 kt1 (u2++H)with|some (v,aw)=>some (v,([]:eG),aw,nx1)|none=>none)=_
   have key:gx ka ks va z false m1 kt1 H=some (v,[id])->gx ka ks va z false m1 kt1 (u2++H)=some (v,[id]):=by
    clear h1;intro h1;split at h2
    .rename_i v3 u3 ids3 h3;obtain⟨_,rfl,_,_⟩:v3=v2/\u3=u2/\ids3=ids2/\nx2=n2:=by simpa using h2
     unfold lA at h3;split at h3
     .rename_i id2 key2 hkey2;have hok2:=BO hkey2;split at h3
      .rename_i ka2 va2 es eH hob;split at h3
       .rename_i hkv;obtain⟨rfl,rfl⟩:=hkv
        -- what is laid anew
        have hu:∃es' clock',u3=[(id2,some (.map ka2 va2 es' clock'))]/\(es'=es\/es'=es++[(key2,ce z,eH)]):=by
         split at h3
         .split at h3
          .obtain ⟨_,rfl,_⟩:=(by simpa using h3:_/\_/\_)
           exact⟨_,_,rfl,.inl rfl⟩
          .simp at h3
         .split at h3
          .obtain ⟨_,rfl,_⟩:=(by simpa using h3:_/\_/\_)
           exact⟨_,_,rfl,.inr rfl⟩
          .simp at h3
         .simp at h3
        obtain⟨es',clock',rfl,hes⟩:=hu;obtain rfl:id=id2:=by simpa using ht
        have hl2:av ([(id,some (Ob.map ka2 va2 es' clock'))]++H) id=some (.map ka2 va2 es' clock'):=by rw[fF,bC,if_pos rfl]
        rw[hs]at hob;unfold gx at h1|-;split at h1
        .split at h1
         .simp at h1
         .simp at h1
        .rename_i id1 key1 hkey1;have hok1:=BO hkey1
         have hid:id1=id:=by
          repeat' split at h1
          all_goals first
           |(simp at h1;done)
           |(obtain⟨_,h4⟩:=ad (aa h1);simpa using h4)
         subst hid;simp only[hob,hl2,and_self,if_true]at h1|-;rcases hes with rfl|rfl
         .exact h1
         .rw [GS];split at h1
          .rename_i j hf;have hlt:=JM hf;rw[bG]at hlt;simp only[hf];have e1:(es++[(key2,ce z,eH)]).getD j default=es.getD j default:=by simp only[ck];rw[List.getElem?_append_left hlt]
           rw[e1];exact h1
          .rename_i hf;simp only[hf];obtain⟨r,hr⟩:=Jb hok1 hok2;simp only[hr];cases r with
           |false=>exact h1
           |true=>
            have e1:(es++[(key2,ce z,eH)]).getD (0+es.length) default=(key2,ce z,eH):=by simp[ck]
            simp only[e1];exact h1
          .simp at h1
        .simp at h1
       .simp at h3
      .simp at h3
     .simp at h3
    .simp at h2
   split at h1
   .rename_i v1 ids1 hl;obtain⟨rfl,rfl,rfl,rfl⟩:v1=v/\[]=u/\ids1=[id]/\nx1=n:=by simpa using h1
    rw[key hl]
   .simp at h1
 .simp at hk
abbrev Ez:=Option (TV×eG×List Nat×Nat)
def D4:Ez->Option TV
 |some (v,_)=>some v
 |none=>some (.gR [])
def oR:Ez->eG
 |some (_,u,_)=>u
 |none=>[]
def nO:Ez->List Nat
 |some (_,_,r,_)=>r
 |none=>[]
def yb(call:Call)(aL i:Nat)(o:mj)(e:iE)(h:bz)(f:Ez)(e':iE)(h':bz):Prop:=match f with|some (v,u,aw,n)=>ja e o.guard=some true/\cm call o.k (o.args.map (jq e)) h (aL+gO*i)=some (v,u,aw,n)/\n<=aL+gO*(i+1)/\e'=put e o.dst v/\h'=u++h|none=>ja e o.guard=some false/\e'=drop e o.dst/\h'=h
theorem Ca{calls:Nat->Call}{aL:Nat}:∀(l:List mj)(i:Nat)(e:iE)(h:bz)(e':iE)(h':bz)(tr:List (List Nat×List Nat)),lC calls aL l i e h=some (e',h',tr)->
  ∃(E:Nat->iE)(Hp:Nat->bz)(ef:Nat->Ez),E 0=e/\Hp 0=h/\E l.length=e'/\Hp l.length=h'/\
   ∀(k:Nat)(o:mj),l[k]?=some o->yb (calls (i+k)) aL (i+k) o (E k) (Hp k) (ef k) (E (k+1)) (Hp (k+1))/\tr[k]?=some (nO (ef k),(oR (ef k)).map (·.1)):=by
 intro l;induction l with
 |nil=>
  intro i e h e' h' tr hh;obtain⟨rfl,rfl,rfl⟩:e=e'/\h=h'/\[]=tr:=by simpa[lC]using hh
  exact⟨fun _=>e,fun _=>h,fun _=>none,rfl,rfl,rfl,rfl,fun k o hk=>by simp at hk⟩
 |cons o r ih=>
  intro i e h e' h' tr hh;simp only[lC]at hh
  have fin:∀(f:Ez)(e1:iE)(h1:bz)(tr1:List (List Nat×List Nat)),lC calls aL r (i+1) e1 h1=some (e',h',tr1)->yb (calls i) aL i o e h f e1 h1->tr=(nO f,(oR f).map (·.1))::tr1->
    ∃(E:Nat->iE)(Hp:Nat->bz)(ef:Nat->Ez),E 0=e/\Hp 0=h/\E (o::r).length=e'/\Hp (o::r).length=h'/\
     ∀(k:Nat)(o':mj),(o::r)[k]?=some o'->yb (calls (i+k)) aL (i+k) o' (E k) (Hp k) (ef k) (E (k+1)) (Hp (k+1))/\tr[k]?=some (nO (ef k),(oR (ef k)).map (·.1)):=by
   intro f e1 h1 tr1 hrun hs htr;obtain⟨E,Hp,ef,a1,a2,a3,a4,a5⟩:=ih (i+1) e1 h1 e' h' tr1 hrun;refine⟨fun k=>match k with|0=>e|k+1=>E k,fun k=>match k with|0=>h|k+1=>Hp k,fun k=>match k with|0=>f|k+1=>ef k,rfl,rfl,a3,a4,fun k o' hk=>?_⟩;subst htr;cases k with
   |zero=>
    obtain rfl:o=o':=by simpa using hk
    refine⟨?_,by simp⟩;simp only[cu,a1,a2];exact hs
   |succ k=>have:=a5 k o' (by simpa using hk);rw[show i+1+k=i+(k+1)by omega]at this;exact⟨this.1,by simpa using this.2⟩
  split at hh
  .rename_i hw;split at hh
   .rename_i v u aw n hev;split at hh
    .rename_i hn;split at hh
     .rename_i e1 h1 tr1 hrun;obtain⟨rfl,rfl,rfl⟩:e1=e'/\h1=h'/\_=tr:=by simpa using hh
      exact fin (some (v,u,aw,n)) _ _ tr1 hrun ⟨hw,hev,hn,rfl,rfl⟩ rfl
     .simp at hh
    .simp at hh
   .simp at hh
  .rename_i hw;split at hh
   .rename_i e1 h1 tr1 hrun;obtain⟨rfl,rfl,rfl⟩:e1=e'/\h1=h'/\_=tr:=by simpa using hh
    exact fin none _ _ tr1 hrun ⟨hw,rfl,rfl⟩ rfl
   .simp at hh
  .simp at hh
section
variable(dst:Nat->Option Nat)(ef:Nat->Ez)(D:Nat->Bool)(e0:Nat->Option TV)(h0:Nat->Option Ob)
def mK:Nat->Nat->Option TV
 |0,t=>e0 t
 |k+1,t=>if D k=true/\dst k=some t then D4 (ef k)else mK k t
def iC:Nat->Nat->Option Ob
 |0,i=>h0 i
 |k+1,i=>if D k=true then(match bX (oR (ef k)) i with|some o=>o|none=>iC k i)else iC k i
end
def sF(ef:Nat->Ez)(k id:Nat):Prop:=id∈(oR (ef k)).map (·.1)
theorem rk{α:Type}{u:List (Nat×α)}{id:Nat}(h:id∉u.map (·.1)):bX u id=none:=by
 induction u with
 |nil=>rfl
 |cons p r ih=>
  obtain⟨i,x⟩:=p;simp only[aq,aF,not_or]at h;have:(i==id)=false:=by simpa using fun e:i=id=>h.1 e.symm
  simp[bX,this,ih h.2]
theorem JF{α:Type}{u:List (Nat×α)}{id:Nat}(h:id∈u.map (·.1)):∃x,bX u id=some x:=by
 induction u with
 |nil=>simp at h
 |cons p r ih=>
  obtain⟨i,x⟩:=p;by_cases e:i=id
  .exact ⟨x,by simp[bX,e]⟩
  .have e':(i==id)=false:=by simpa using e
   simp only[aq,aF]at h;rcases h with h|h
   .exact absurd h.symm e
   .simpa [bX,e']using ih h
section
variable{dst:Nat->Option Nat}{ef:Nat->Ez}{D D':Nat->Bool}{E:Nat->iE}{Hp:Nat->bz}
theorem Ac{n i t:Nat}(hstep:∀k,k<n->∀t,bX (E (k+1)) t=if dst k=some t then D4 (ef k)else bX (E k) t)(hi:i<=n)
  (h1:∀k,k<i->dst k=some t->D k=true) (h2:∀k,i<=k->k<n->dst k=some t->D k=false):mK dst ef D (bX (E 0)) n t=bX (E i) t:=by
 have a:∀k,k<=i->mK dst ef D (bX (E 0)) k t=bX (E k) t:=by
  intro k;induction k with
  |zero=>intro _;rfl
  |succ k ih=>
   intro hk;rw[mK,hstep k (by omega)];by_cases hd:dst k=some t
   .rw [if_pos ⟨h1 k (by omega) hd,hd⟩,if_pos hd]
   .rw [if_neg (fun h=>hd h.2),if_neg hd,ih (by omega)]
 have b:∀d,i+d<=n->mK dst ef D (bX (E 0)) (i+d) t=bX (E i) t:=by intro d;induction d with|zero=>intro _;exact a i (ao _)|succ d ih=>intro hd;rw[<-ct,mK,if_neg,ih (by omega)];rintro⟨hD,hdst⟩;rw[h2 (i+d) (by omega) (by omega) hdst]at hD;simp at hD
 have:=b (n-i) (by omega);rwa[iF hi]at this
theorem wR{n i id:Nat}(hstep:∀k,k<n->∀id,av (Hp (k+1)) id=match bX (oR (ef k)) id with|some o=>o|none=>av (Hp k) id)(hi:i<=n)
  (h1:∀k,k<i->sF ef k id->D k=true) (h2:∀k,i<=k->k<n->sF ef k id->D k=false):iC ef D (av (Hp 0)) n id=av (Hp i) id:=by
 have a:∀k,k<=i->iC ef D (av (Hp 0)) k id=av (Hp k) id:=by
  intro k;induction k with
  |zero=>intro _;rfl
  |succ k ih=>
   intro hk;rw[iC,hstep k (by omega),ih (by omega)];by_cases ht:sF ef k id
   .rw [if_pos (h1 k (by omega) ht)]
   .rw [rk ht];simp
 have b:∀d,i+d<=n->iC ef D (av (Hp 0)) (i+d) id=av (Hp i) id:=by
  intro d;induction d with
  |zero=>intro _;exact a i (ao _)
  |succ d ih=>
   intro hd;rw[<-ct,iC,ih (by omega)];by_cases ht:sF ef (i+d) id
   .rw [if_neg (by simp[h2 (i+d) (by omega) (by omega) ht])]
   .rw [rk ht];simp
 have:=b (n-i) (by omega);rwa[iF hi]at this
theorem JS{e0:Nat->Option TV}{n i t:Nat}(hi:i<n)(hD:∀k,k≠i->D' k=D k)(hDi:D' i=true)(hDi0:D i=false)
  (h:dst i=some t->∀k,i<k->k<n->D k=true->dst k≠some t):
  mK dst ef D' e0 n t=if dst i=some t then D4 (ef i)else mK dst ef D e0 n t:=by
 have a:∀k,k<=i->mK dst ef D' e0 k t=mK dst ef D e0 k t:=by intro k;induction k with|zero=>intro _;rfl|succ k ih=>intro hk;rw[mK,mK,hD k (by omega),ih (by omega)]
 have b:∀d,i+1+d<=n->mK dst ef D' e0 (i+1+d) t=if dst i=some t then D4 (ef i)else mK dst ef D e0 (i+1+d) t:=by
  intro d;induction d with
  |zero=>intro _;show mK dst ef D' e0 (i+1) t=if dst i=some t then D4 (ef i)else mK dst ef D e0 (i+1) t;rw[mK,mK,hDi,hDi0,a i (ao _)];simp
  |succ d ih=>
   intro hd;rw[<-ct,mK,mK,hD (i+1+d) (by omega),ih (by omega)];by_cases hc:D (i+1+d)=true/\dst (i+1+d)=some t
   .rw [if_pos hc,if_pos hc,if_neg];intro hdi;exact h hdi (i+1+d) (by omega) (by omega) hc.1 hc.2
   .rw [if_neg hc,if_neg hc]
 have:=b (n-(i+1)) (by omega);rwa[iF (by omega)]at this
theorem GP{h0:Nat->Option Ob}{n i id:Nat}(hi:i<n)(hD:∀k,k≠i->D' k=D k)(hDi:D' i=true)(hDi0:D i=false)
  (h:sF ef i id->∀k,i<k->k<n->D k=true->¬sF ef k id):
  iC ef D' h0 n id=match bX (oR (ef i)) id with|some o=>o|none=>iC ef D h0 n id:=by
 have a:∀k,k<=i->iC ef D' h0 k id=iC ef D h0 k id:=by intro k;induction k with|zero=>intro _;rfl|succ k ih=>intro hk;rw[iC,iC,hD k (by omega),ih (by omega)]
 have b:∀d,i+1+d<=n->iC ef D' h0 (i+1+d) id=match bX (oR (ef i)) id with|some o=>o|none=>iC ef D h0 (i+1+d) id:=by
  intro d;induction d with
  |zero=>
   intro _;show iC ef D' h0 (i+1) id=match bX (oR (ef i)) id with|some o=>o|none=>iC ef D h0 (i+1) id
   rw[iC,iC,hDi,hDi0,a i (ao _)];simp
  |succ d ih=>
   intro hd;rw[<-ct,iC,iC,hD (i+1+d) (by omega),ih (by omega)];by_cases ht:sF ef i id
   .by_cases hc:D (i+1+d)=true
    .rw [rk (h ht (i+1+d) (by omega) (by omega) hc)];simp
    .rw [if_neg hc,if_neg hc]
   .rw [rk ht]
 have:=b (n-(i+1)) (by omega);rwa[iF (by omega)]at this
end
section
variable{P:Program}{S K:Nat->Prop}{w0 w:World}{Kn:Nat->Prop}{φ:Nat->fE}{gv:List Value}{nt:Nat}{a:Act}{call:Call}{calls:Nat->Call}{da:uY}{s s':St}
 {ops:Array Oper} {l:List mj} {m:List Nat} {aL:Nat} {E:Nat->iE} {Hp:Nat->bz} {ef:Nat->Ez}
def pq(l:List mj)(k:Nat):Option Nat:=(l[k]?).bind (·.dst)
def Nb(calls:Nat->Call)(l:List mj)(aL:Nat)(E:Nat->iE)(Hp:Nat->bz)(ef:Nat->Ez)(i j:Nat):Prop:=∃c v u id n,l[i]?=some c/\ef i=some (v,u,[id],n)/\cm (calls i) c.k (c.args.map (jq (E i))) (oR (ef j)++Hp i) (aL+gO*i)=some (v,u,[id],n)
structure CD(P:Program)(da:uY)(nt:Nat)(calls:Nat->Call)(ops:Array Oper)(l:List mj)(m:List Nat)(aL:Nat)(E:Nat->iE)(Hp:Nat->bz)(ef:Nat->Ez):Prop where
 len:l.length=ops.size
 Sm:∀(k:Nat)(o:Oper),ops[k]?=some o->l[k]?=some (fz P da nt ops o)
 iD:∀(k:Nat)(c:mj),l[k]?=some c->yb (calls k) aL k c (E k) (Hp k) (ef k) (E (k+1)) (Hp (k+1))
 QY:∀(k:Nat)(o:Oper),ops[k]?=some o->(∀j,eB m j k=true->∃e∈o.after,Region.binds .any e=true/\(e.on=j\/eB m j e.on=true))/\∀e∈o.after,Region.binds .any e=true->e.on<k
 RJ:∀(i j:Nat)(a b:mj),l[i]?=some a->l[j]?=some b->i<j->eB m i j=true\/xd a b=false
 RP:∀(i j:Nat),i<j->j<ops.size->eB m i j=true\/((∀id,sF ef i id->id∉nO (ef j)/\¬sF ef j id)/\((∀id,sF ef j id->id∉nO (ef i))\/Nb calls l aL E Hp ef i j))
theorem yb.db{i:Nat}{o:mj}{e e':iE}{h h':bz}{f:Ez}(hs:yb call aL i o e h f e' h')(t:Nat):bX e' t=if o.dst=some t then D4 f else bX e t:=by cases f with|none=>obtain⟨_,rfl,_⟩:=hs;rw[wU];rfl|some p=>obtain⟨v,u,r,n⟩:=p;obtain⟨_,_,_,rfl,_⟩:=hs;rw[j6];rfl
theorem yb.heap{i:Nat}{o:mj}{e e':iE}{h h':bz}{f:Ez}(hs:yb call aL i o e h f e' h')(id:Nat):av h' id=match bX (oR f) id with|some o=>o|none=>av h id:=by cases f with|none=>obtain⟨_,_,rfl⟩:=hs;rfl|some p=>obtain⟨v,u,r,n⟩:=p;obtain⟨_,_,_,_,rfl⟩:=hs;rw[fF];rfl
theorem Lx{e':iE}{h':bz}{e:iE}{h:bz}{tr:List (List Nat×List Nat)}(hl:l=ops.toList.map (fz P da nt ops))(hord:wx m ops.toList 0=true)(hsch:v6 m l 0=true)
  (hev:lC calls aL l 0 e h=some (e',h',tr)) (hdyn:yU tr (qN m l 0)=true) (hsmall:l.length<=1000):
  ∃E Hp ef,CD P da nt calls ops l m aL E Hp ef/\E 0=e/\Hp 0=h/\E ops.size=e'/\Hp ops.size=h':=by
 obtain⟨E,Hp,ef,h1,h2,h3,h4,h5⟩:=Ca l 0 e h e' h' tr hev;have hlen:l.length=ops.size:=by rw[hl];simp
 refine⟨E,Hp,ef,⟨hlen,?_,?_,?_,?_,?_⟩,h1,h2,hlen▸h3,hlen▸h4⟩
 .intro k o hk;rw[hl,aD,aY,hk];rfl
 .intro k c hk;have:=(h5 k c hk).1;rwa[bG]at this
 .intro k o hk;have:=Dw hord k o (by rw[aY];exact hk);rwa[bG]at this
 .intro i j a b ha hb hij;have:=C9 hsch i j a b ha hb hij;rwa[bG,bG]at this
 .intro i j hij hj;have hi':i<l.length:=by omega
  have hj':j<l.length:=by omega
  obtain⟨a,ha⟩:∃a,l[i]?=some a:=⟨_,au hi'⟩
  obtain⟨b,hb⟩:∃b,l[j]?=some b:=⟨_,au hj'⟩
  have sa:=h5 i a ha;have sb:=h5 j b hb;have noU:∀(k:Nat)(c:mj),yb (calls (0+k)) aL (0+k) c (E k) (Hp k) (ef k) (E (k+1)) (Hp (k+1))->xG c.k<=1->∀id,¬sF ef k id:=by intro k c hs hc id ht;unfold sF at ht;generalize hf:ef k=f at hs ht;cases f with|none=>simp[oR]at ht|some p=>obtain⟨v,u,r,n⟩:=p;obtain⟨_,hev1,_⟩:=hs;rw[show oR (some (v,u,r,n))=u from rfl,Ja hc hev1]at ht;simp at ht
  have noR:∀(k:Nat)(c:mj),yb (calls (0+k)) aL (0+k) c (E k) (Hp k) (ef k) (E (k+1)) (Hp (k+1))->xG c.k=0->∀id,id∉nO (ef k):=by intro k c hs hc id ht;generalize hf:ef k=f at hs ht;cases f with|none=>simp[nO]at ht|some p=>obtain⟨v,u,r,n⟩:=p;obtain⟨_,hev1,_⟩:=hs;rw[show nO (some (v,u,r,n))=r from rfl,I_ hc hev1]at ht;simp at ht
  rcases B_ (m:=m) (i:=0) i j a b ha hb hij with h|h|h|h|h
  .rw [bG,bG]at h;exact .inl h
  .exact .inr ⟨fun id ht=>absurd ht (noU i a sa.1 (by omega) id),.inl fun id _=>noR i a sa.1 h id⟩
  .exact .inr ⟨fun id _=>⟨noR j b sb.1 h id,noU j b sb.1 (by omega) id⟩,.inl fun id ht=>absurd ht (noU j b sb.1 (by omega) id)⟩
  .by_cases ea:xG a.k<=1
   .by_cases eb:xG b.k<=1
    .exact .inr ⟨fun id ht=>absurd ht (noU i a sa.1 ea id),.inl fun id ht=>absurd ht (noU j b sb.1 eb id)⟩
    .have:xG a.k=0:=by omega
     exact .inr ⟨fun id ht=>absurd ht (noU i a sa.1 (by omega) id),.inl fun id _=>noR i a sa.1 this id⟩
   .have:xG b.k=0:=by omega
    exact .inr ⟨fun id _=>⟨noR j b sb.1 this id,noU j b sb.1 (by omega) id⟩,.inl fun id ht=>absurd ht (noU j b sb.1 (by omega) id)⟩
  .rw [bG,bG]at h
   have hapart:kC (nO (ef i),(oR (ef i)).map (·.1)) (nO (ef j),(oR (ef j)).map (·.1))=true->
     (∀id,sF ef i id->id∉nO (ef j)/\¬sF ef j id)/\((∀id,sF ef j id->id∉nO (ef i))\/Nb calls l aL E Hp ef i j):=by
    intro this;simp only[kC,af,aV,Bool.not_eq_true',List.contains_eq_mem,decide_eq_false_iff_not]at this;exact⟨fun id ht=>⟨(this.1 id ht).1,(this.1 id ht).2⟩,.inl fun id ht=>this.2 id ht⟩
   have hd:=aV.1 hdyn _ h;by_cases hso:yi a.k b.k=true
   .rw [if_pos hso]at hd;simp only at hd;rw[if_pos (by omega),show 1000+j-1000=j by omega]at hd;simp only[C4,sa.2,sb.2,bY]at hd;rcases hd with hd|hd
    .exact .inr (hapart hd)
    .right;split at hd
     .rename_i id hab;obtain⟨hR,hU⟩:=ad hab;refine⟨fun id ht=>by unfold sF at ht;rw[hU]at ht;simp at ht,?_⟩;by_cases htj:sF ef j id
      .right
       -- nobody between lays that object anew
       have hsame:∀k,i<=k->k<=j->av (Hp k) id=av (Hp i) id:=by
        intro k hk;induction k with
        |zero=>intro _;rw[show i=0 by omega]
        |succ k ih=>
         intro hkj;by_cases e:i=k+1
         .rw [e]
         .have hik:i<=k:=by omega
          rw[<-ih hik (by omega)];obtain⟨c,hc⟩:∃c,l[k]?=some c:=⟨_,au (by omega)⟩
          have sk:=h5 k c hc;rw[sk.1.heap id]
          have hn:id∉(oR (ef k)).map (·.1):=by
           by_cases e2:k=i
           .subst e2;rw[hU];simp
           .have hm:(nO (ef k),(oR (ef k)).map (·.1))∈(tr.take j).drop (i+1):=by refine aQ (i:=k-(i+1)) ?_;rw[List.getElem?_drop,show i+1+(k-(i+1))=k by omega,List.getElem?_take,if_pos (by omega)];exact sk.2
            have:=aV.1 hd _ hm;simpa using this
          rw[rk hn]
       have sai:=sa.1;have sbj:=sb.1;generalize hfi:ef i=fi at sai hR hU;generalize hfj:ef j=fj at sbj;cases fi with
       |none=>simp[nO]at hR
       |some p=>obtain⟨v,u,aw,n⟩:=p;obtain rfl:aw=[id]:=hR;cases fj with|none=>unfold sF at htj;rw[hfj]at htj;simp[oR]at htj|some q=>obtain⟨v2,u2,ids2,n2⟩:=q;unfold sF at htj;rw[hfj]at htj;obtain⟨_,hev1,_⟩:=sai;obtain⟨_,hev2,_⟩:=sbj;rw[bG]at hev1 hev2;exact⟨a,v,u,id,n,ha,hfi,by rw[hfj];exact FV hso hev1 hev2 (hsame j (by omega) (ao _)) htj⟩
      .left;intro id2 ht2;rw[hR];simp only[am];rintro rfl;exact htj ht2
     .simp at hd
   .rw [if_neg hso]at hd;simp only at hd;rw[if_neg (by omega)]at hd;simp only[sa.2,sb.2]at hd;exact .inr (hapart hd)
def xA(ops:Array Oper)(D:Nat->Bool):Prop:=∀(k:Nat)(o:Oper),ops[k]?=some o->D k=true->∀e∈o.after,Region.binds .any e=true->D e.on=true
theorem CD.Ke(hp:CD P da nt calls ops l m aL E Hp ef){D:Nat->Bool}(hc:xA ops D){i:Nat}:∀(N j:Nat),j<N->j<ops.size->D j=true->eB m i j=true->D i=true:=by
 intro N;induction N with
 |zero=>intro j hj;omega
 |succ N ih=>
  intro j hj hjn hD hb;have ho:ops[j]?=some ops[j]:=fM hjn;obtain⟨h1,h2⟩:=hp.QY j _ ho;obtain⟨e,he,hbd,h⟩:=h1 i hb;have hDe:=hc j _ ho hD e he hbd;rcases h with h|h
  .rw [<-h];exact hDe
  .have:=h2 e he hbd;exact ih e.on (by omega) (by omega) hDe h
theorem CD.Pt(hp:CD P da nt calls ops l m aL E Hp ef){D:Nat->Bool}(hc:xA ops D){i j:Nat}{o:Oper}(hi:ops[i]?=some o)(hall:∀e∈o.after,Region.binds .any e=true->D e.on=true)
  (hb:eB m j i=true):D j=true:=by
 obtain⟨h1,h2⟩:=hp.QY i _ hi;obtain⟨e,he,hbd,h⟩:=h1 j hb;have hDe:=hall e he hbd;rcases h with h|h
 .rw [<-h];exact hDe
 .have:=h2 e he hbd;have hlt:i<ops.size:=(be.1 hi).1;exact hp.Ke hc (e.on+1) e.on (by omega) (by omega) hDe h
theorem Fc{d:Option Nat}{l:List Nat}{t:Nat}(hd:d=some t)(h:t∈l):GN d l=true:=by subst hd;simpa[GN]using h
theorem CD.QT(hp:CD P da nt calls ops l m aL E Hp ef){D:Nat->Bool}(hc:xA ops D){i:Nat}{o:Oper}{c:mj}(hi:ops[i]?=some o)(hci:l[i]?=some c)(hD:D i=false)
  (hall:∀e∈o.after,Region.binds .any e=true->D e.on=true):
  (∀t∈DJ c,mK (pq l) ef D (bX (E 0)) ops.size t=bX (E i) t)/\(∃G,(∀id∈nO (ef i),iC ef D (av (Hp 0)) ops.size id=av G id)/\∀v u aw n,ef i=some (v,u,aw,n)->cm (calls i) c.k (c.args.map (jq (E i))) G (aL+gO*i)=some (v,u,aw,n))/\
  (∀t,c.dst=some t->∀k,i<k->k<ops.size->D k=true->pq l k≠some t)/\(∀id,sF ef i id->∀k,i<k->k<ops.size->D k=true->¬sF ef k id):=by
 have hlt:i<ops.size:=(be.1 hi).1;have get:∀k,k<ops.size->∃b,l[k]?=some b:=fun k hk=>⟨_,au (by rw[hp.len];exact hk)⟩;have lat:∀k,i<k->k<ops.size->eB m i k=true->D k=false:=by intro k _ hk hb;cases hDk:D k with|false=>rfl|true=>rw[hp.Ke hc (k+1) k (by omega) hk hDk hb]at hD;simp at hD
 refine⟨fun t ht=>?_,?_,fun t ht k hik hk hDk hdk=>?_,fun id ht k hik hk hDk htk=>?_⟩
 .refine Ac (fun k hk t=>?_) (Nat.le_of_lt hlt) (fun k hk hd=>?_) (fun k hik hk hd=>?_)
  .obtain ⟨b,hb⟩:=get k hk;have:=(hp.iD k b hb).db t;rw[this];simp[pq,hb]
  .obtain ⟨b,hb⟩:=get k (by omega);have hbd:b.dst=some t:=by simpa[pq,hb]using hd
   rcases hp.RJ k i b c hb hci hk with h|h
   .exact hp.Pt hc hi hall h
   .simp [xd,Fc hbd ht]at h
  .rcases dC i k with h1|h1
   .obtain ⟨b,hb⟩:=get k (by omega);have hbd:b.dst=some t:=by simpa[pq,hb]using hd
    rcases hp.RJ i k c b hci hb h1 with h|h
    .exact lat k h1 hk h
    .simp [xd,Fc hbd ht]at h
   .obtain rfl:k=i:=by omega
    exact hD
 .have hev:∀v u aw n,ef i=some (v,u,aw,n)->cm (calls i) c.k (c.args.map (jq (E i))) (Hp i) (aL+gO*i)=some (v,u,aw,n):=by intro v u aw n hf;have hs:=hp.iD i c hci;rw[hf]at hs;exact hs.2.1
  by_cases hsoft:∃k,i<k/\k<ops.size/\D k=true/\∃id∈nO (ef i),sF ef k id
  .--the Sj of those that came ahead
   obtain⟨k,⟨hik,hk,hDk,id0,hid0,ht0⟩,hmax⟩:∃k,(i<k/\k<ops.size/\D k=true/\∃id∈nO (ef i),sF ef k id)/\∀k',k<k'->¬(i<k'/\k'<ops.size/\D k'=true/\∃id∈nO (ef i),sF ef k' id):=by
    have:∀(N:Nat)(k:Nat),ops.size-k<=N->(i<k/\k<ops.size/\D k=true/\∃id∈nO (ef i),sF ef k id)->
      ∃k,(i<k/\k<ops.size/\D k=true/\∃id∈nO (ef i),sF ef k id)/\∀k',k<k'->¬(i<k'/\k'<ops.size/\D k'=true/\∃id∈nO (ef i),sF ef k' id):=by
     intro N;induction N with
     |zero=>intro k h1 h2;omega
     |succ N ihN=>
      intro k h1 h2;by_cases hm:∃k',k<k'/\(i<k'/\k'<ops.size/\D k'=true/\∃id∈nO (ef i),sF ef k' id)
      .obtain ⟨k',h3,h4⟩:=hm;exact ihN k' (by omega) h4
      .exact ⟨k,h2,fun k' h3 h4=>hm ⟨k',h3,h4⟩⟩
    obtain⟨k,h⟩:=hsoft;exact this _ k (ao _) h
   rcases hp.RP i k hik hk with h|⟨_,h|h⟩
   .rw [lat k hik hk h]at hDk;simp at hDk
   .exact absurd hid0 (h id0 ht0)
   .obtain ⟨c',v,u,id,n,hc',hf,hev'⟩:=h;obtain rfl:c=c':=aa (hci.symm.trans hc');have hR:nO (ef i)=[id]:=by rw[hf];rfl
    refine⟨oR (ef k)++Hp i,fun id' hid'=>?_,fun v' u' ids' n' hf'=>?_⟩
    .obtain rfl:id'=id:=by rw[hR]at hid';simpa using hid'
     obtain rfl:id0=id':=by rw[hR]at hid0;simpa using hid0
     obtain⟨x,hx⟩:=JF ht0
     have hlast:∀n',k<n'->n'<=ops.size->iC ef D (av (Hp 0)) n' id0=x:=by
      intro n' hkn;induction n' with
      |zero=>omega
      |succ n' ihn=>
       intro hn';simp only[iC];by_cases e:n'=k
       .subst e;rw[hx];simp[hDk]
       .have hno:¬(D n'=true/\sF ef n' id0):=fun hh=>hmax n' (by omega) ⟨by omega,by omega,hh.1,id0,hid',hh.2⟩;have:=ihn (by omega) (by omega);cases hDn:D n' with|false=>simpa[hDn]using this|true=>have hnt:¬sF ef n' id0:=fun h=>hno ⟨hDn,h⟩;rw[rk hnt];simpa[hDn]using this
     rw[hlast ops.size hk (ao _),fF];simp only[bg,hx]
    .rw [hf]at hf';obtain⟨rfl,rfl,rfl,rfl⟩:v=v'/\u=u'/\[id]=ids'/\n=n':=by simpa using hf'
     exact hev'
  .refine ⟨Hp i,fun id hid=>?_,hev⟩;refine wR (fun k hk id=>?_) (Nat.le_of_lt hlt) (fun k hk hd=>?_) (fun k hik hk hd=>?_)
   .obtain ⟨b,hb⟩:=get k hk;exact(hp.iD k b hb).heap id
   .rcases hp.RP k i hk hlt with h|h
    .exact hp.Pt hc hi hall h
    .exact absurd hid (h.1 id hd).1
   .rcases dC i k with h1|h1
    .cases hDk:D k with|false=>rfl|true=>exact absurd ⟨k,h1,hk,hDk,id,hid,hd⟩ hsoft
    .obtain rfl:k=i:=by omega
     exact hD
 .obtain ⟨b,hb⟩:=get k hk;have hbd:b.dst=some t:=by simpa[pq,hb]using hdk
  rcases hp.RJ i k c b hci hb hik with h|h
  .rw [lat k hik hk h]at hDk;simp at hDk
  .simp [xd,ht,hbd,GN]at h
 .rcases hp.RP i k hik hk with h|h
  .rw [lat k hik hk h]at hDk;simp at hDk
  .exact absurd htk (h.1 id ht).2
def Hd(D:Nat->Bool):Nat->Nat
 |0=>0
 |k+1=>Hd D k+if D k=true then 0 else 1
theorem Mn{D D':Nat->Bool}{i:Nat}(hD:∀k,k≠i->D' k=D k)(h1:D' i=true)(h0:D i=false):∀n,i<n->Hd D' n+1=Hd D n:=by
 have a:∀k,k<=i->Hd D' k=Hd D k:=by intro k;induction k with|zero=>intro _;rfl|succ k ih=>intro hk;simp only[Hd];rw[ih (by omega),hD k (by omega)]
 intro n;induction n with
 |zero=>intro h;omega
 |succ n ih=>
  intro h;simp only[Hd];by_cases e:i=n
  .subst e;rw[a i (ao _),h1,h0];simp
  .have:=ih (by omega);rw[hD n (fun h=>e h.symm)];omega
theorem Kc{D:Nat->Bool}:∀{n:Nat},Hd D n=0->∀k,k<n->D k=true:=by
 intro n;induction n with
 |zero=>intro _ k hk;omega
 |succ n ih=>
  intro h k hk;simp only[Hd]at h;by_cases e:k=n
  .subst e;by_cases hd:D k=true
   .exact hd
   .simp [hd]at h
  .exact ih (by omega) k (by omega)
theorem Mm(n:Nat):Hd (fun _=>false) n=n:=by induction n with|zero=>rfl|succ n ih=>simp[Hd,ih]
theorem AD{e e':iE}{g:Option (Nat×Bool)}(h:∀t∈(match g with|some (t,_)=>[t]|none=>([]:List Nat)),bX e' t=bX e t):ja e' g=ja e g:=by cases g with|none=>rfl|some p=>obtain⟨t,b⟩:=p;simp only[ja,h t (by simp)]
theorem Gh{e e':iE}:∀{args:List Operand},(∀t∈args.filterMap RZ,bX e' t=bX e t)->args.map (jq e')=args.map (jq e):=by intro args h;refine List.map_congr_left fun x hx=>?_;cases x with|tmp t=>exact h t (List.mem_filterMap.2 ⟨.tmp t,hx,rfl⟩)|_=>rfl
theorem JY(hok:∀i,lE P (calls i))(hnt:nt<1000000000){Q:Exit->Act->World->Prop}(hp:CD P da nt calls ops l m aL E Hp ef){S0:Nat->Prop}{ws:World}{gh:List C}
  (hQ:∀S' Kn' φ' a' w',fw S0 ws S' w'->Eu S' K w0 Kn' φ' gv nt ⟨E ops.size,Hp ops.size,aL+gO*l.length,gh⟩ a' w'->Q .normal a' w'):
  ∀(fuel:Nat)(listed:Array Bool)(S:Nat->Prop)(Kn:Nat->Prop)(φ:Nat->fE)(a:Act)(w:World)(ec:iE)(hc:bz),
  listed.size=ops.size->Hd (fun k=>listed.getD k false) ops.size<=fuel->xA ops (fun k=>listed.getD k false)->
  (∀t,bX ec t=mK (pq l) ef (fun k=>listed.getD k false) (bX (E 0)) ops.size t)->(∀id,av hc id=iC ef (fun k=>listed.getD k false) (av (Hp 0)) ops.size id)->
  Inv S K w0 Kn φ (av hc) w->iE.ok S w Kn φ ec a.tmps->a.tmps.size=nt->a.defers=[]->
  (∀j,Kn j->j<aL\/∃i,i<ops.size/\listed.getD i false=true/\aL+gO*i<=j/\j<aL+gO*(i+1))->
  (∀(i:Nat)(c:C)(v:Value),gh[i]?=some c->gv[i]?=some v->RG S w Kn φ c v)->fw S0 ws S w->wpAny P .any ops Q fuel listed a w:=by
 intro fuel;induction fuel with
 |zero=>
  intro listed S Kn φ a w ec hc hsz hcnt hcl henv hheap hI hE hts hdf hKn hgh hstp;have hall:=Kc (Nat.le_zero.1 hcnt);refine⟨?_,?_⟩
  .rw [List.eq_nil_iff_forall_not_mem];intro i hi;obtain⟨h0,o,ho,_⟩:=mem_ready.1 hi;have hlt:i<ops.size:=(be.1 ho).1;have h2:=hall i hlt;have hlt2:i<listed.size:=by omega
   simp[iB,hlt2]at h0 h2;rw[h0]at h2;simp at h2
  .refine hQ S Kn φ a w hstp ⟨?_,?_,hts,hdf,?_,hgh⟩
   .have:av hc=av (Hp ops.size):=by funext id;rw[hheap];refine wR (fun k hk id=>?_) (ao _) (fun k hk _=>hall k hk) (fun k h1 h2 _=>by omega);exact(hp.iD k _ (au (by rw[hp.len];exact hk))).heap id
    rw[<-this];exact hI
   .intro t x hx;refine hE t x ?_;rw[henv,<-hx];refine Ac (fun k hk t=>?_) (ao _) (fun k hk _=>hall k hk) (fun k h1 h2 _=>by omega);have hb:l[k]?=some _:=au (by rw[hp.len];exact hk);have:=(hp.iD k _ hb).db t;rw[this];simp only[pq,hb,ae]
   .intro j hj hk;have hj':aL+gO*l.length<=j:=hj;rw[hp.len]at hj';rcases hKn j hk with h|⟨i,hi,_,h1,h2⟩
    .omega
    .have:gO*(i+1)<=gO*ops.size:=ko _ (by omega);omega
 |succ fuel ih=>
  intro listed S Kn φ a w ec hc hsz hcnt hcl henv hheap hI hE hts hdf hKn hgh hstp
  have fin:(∀k,k<ops.size->listed.getD k false=true)->Q .normal a w:=by
   intro hall;refine hQ S Kn φ a w hstp ⟨?_,?_,hts,hdf,?_,hgh⟩
   .have:av hc=av (Hp ops.size):=by funext id;rw[hheap];refine wR (fun k hk id=>?_) (ao _) (fun k hk _=>hall k hk) (fun k h1 h2 _=>by omega);exact(hp.iD k _ (au (by rw[hp.len];exact hk))).heap id
    rw[<-this];exact hI
   .intro t x hx;refine hE t x ?_;rw[henv,<-hx];refine Ac (fun k hk t=>?_) (ao _) (fun k hk _=>hall k hk) (fun k h1 h2 _=>by omega);have hb:l[k]?=some _:=au (by rw[hp.len];exact hk);have:=(hp.iD k _ hb).db t;rw[this];simp only[pq,hb,ae]
   .intro j hj hk;have hj':aL+gO*l.length<=j:=hj;rw[hp.len]at hj';rcases hKn j hk with h|⟨i,hi,_,h1,h2⟩
    .omega
    .have:gO*(i+1)<=gO*ops.size:=ko _ (by omega);omega
  refine⟨fun hnil=>fin ?_,fun i hi=>?_⟩
  .--nothing is ready:all is done
   intro k;induction k using Nat.strongRecOn with
   |_ k ihk=>
    intro hk;cases hd:listed.getD k false with
    |true=>rfl
    |false=>
     exfalso;have ho:ops[k]?=some ops[k]:=fM hk
     have:k∈Region.ready .any ops listed:=by
      rw[mem_ready];refine⟨?_,_,ho,fun e he hbk=>?_⟩
      .have hlt2:k<listed.size:=by omega
       simp[iB,hlt2]at hd|-;exact hd
      .have:=(hp.QY k _ ho).2 e he hbk;exact ihk e.on this (by omega)
     rw[hnil]at this;simp at this
  .obtain ⟨h0,o,ho,hall⟩:=mem_ready.1 hi;have hlt:i<ops.size:=(be.1 ho).1;have hlt2:i<listed.size:=by omega
   have hD:listed.getD i false=false:=by simp[iB,hlt2]at h0|-;exact h0
   have hci:=hp.Sm i o ho;have hstep:=hp.iD i _ hci;obtain⟨s1,s2,s3,s4⟩:=hp.QT (D:=fun k=>listed.getD k false) hcl ho hci hD hall;have hD':∀k,k≠i->(listed.setIfInBounds i true).getD k false=listed.getD k false:=fun k hk=>getD_set_ne false (fun e=>hk e.symm);have hDi:(listed.setIfInBounds i true).getD i false=true:=by simp[hlt2]
   have hcnt':Hd (fun k=>(listed.setIfInBounds i true).getD k false) ops.size<=fuel:=by have:=Mn (D:=fun k=>listed.getD k false) (D':=fun k=>(listed.setIfInBounds i true).getD k false) hD' hDi hD ops.size hlt;omega
   have hcl':xA ops (fun k=>(listed.setIfInBounds i true).getD k false):=by
    intro k o' ho' hk e he hb;by_cases e1:k=i
    .subst e1;obtain rfl:o=o':=by have:=ho.symm.trans ho';exact aa this
     exact getD_set_true (hall e he hb)
    .have hk':listed.getD k false=true:=by rw[<-hD' k e1];exact hk
     exact getD_set_true (hcl k o' ho' hk' e he hb)
   have hdstD:pq l i=o.dst:=by simp[pq,hci,fz]
   have henv':∀t,mK (pq l) ef (fun k=>(listed.setIfInBounds i true).getD k false) (bX (E 0)) ops.size t=if o.dst=some t then D4 (ef i)else bX ec t:=by intro t;rw[JS (D:=fun k=>listed.getD k false) hlt hD' hDi hD (fun hd=>s3 t (by rw[hdstD]at hd;exact hd)),hdstD,henv t]
   have hheap':∀id,iC ef (fun k=>(listed.setIfInBounds i true).getD k false) (av (Hp 0)) ops.size id=match bX (oR (ef i)) id with|some o=>o|none=>av hc id:=by
    intro id;rw[GP (D:=fun k=>listed.getD k false) hlt hD' hDi hD (fun ht=>s4 id ht),hheap id]
    all_goals(cases bX (oR (ef i)) id<;>rfl)
   have hwe:ja ec (fz P da nt ops o).guard=ja (E i) (fz P da nt ops o).guard:=by refine AD fun t ht=>?_;rw[henv t];exact s1 t (aC _ ht)
   have hae:(fz P da nt ops o).args.map (jq ec)=(fz P da nt ops o).args.map (jq (E i)):=by refine Gh fun t ht=>?_;rw[henv t];exact s1 t (aE _ ht)
   simp only[wpOp,ho];generalize hfe:ef i=f at hstep henv' hheap' s2;cases f with
   |none=>
    obtain⟨hw,_,_⟩:=hstep;rw[<-hwe]at hw;have hwant:=n_ hE (by rw[hts];exact hnt) hw;rw[if_neg (by simp[hwant])];refine ih _ S Kn φ _ w (drop ec o.dst) hc (by simp[hsz]) hcnt' hcl' ?_ ?_ hI (iE.Fo hE) (by rw[sO];exact hts) (by rw[pT];exact hdf) ?_ hgh hstp
    .intro t;rw[henv' t,wU];rfl
    .intro id;rw[hheap' id];rfl
    .intro j hj;rcases hKn j hj with h|⟨k,hk,h1,h2⟩
     .exact .inl h
     .exact .inr ⟨k,hk,getD_set_true h1,h2⟩
   |some p=>
    obtain⟨v,u,aw,n⟩:=p;obtain⟨hw,hev,hn,_,_⟩:=hstep;rw[<-hwe]at hw;obtain⟨G,g1,g2⟩:=s2;have hev3:=g2 v u aw n rfl;rw[<-hae]at hev3;have hev2:=G0 (H':=hc) hev3 (fun id hid=>by rw[hheap id];exact g1 id hid);have hwant:=n_ hE (by rw[hts];exact hnt) hw;rw[if_pos hwant];left
    have hdst:∀x,o.dst=some x->x<a.tmps.size:=by
     intro x hx;rw[hts];rcases dC x nt with h1|h1
     .exact h1
     .exfalso;have:(fz P da nt ops o).k=.fr:=by simp only[fz,hx];rw[if_neg (by simp;omega)]
      rw[this,eS]at hev2;simp at hev2
    have hk:uW P da o.op=((fz P da nt ops o).k,(fz P da nt ops o).args):=by
     have:(fz P da nt ops o).k=(uW P da o.op).1:=by simp only[fz];rw[if_pos];cases hd:o.dst with|none=>rfl|some d=>have:=hdst d hd;rw[hts]at this;simpa using this
     rw[this];rfl
    have hfr:∀j,aL+gO*i<=j->j<n->¬Kn j:=by
     intro j h1 h2 hk;rcases hKn j hk with h|⟨k,hkn,h3,h4,h5⟩
     .omega
     .have hne:k≠i:=by rintro rfl;rw[h3]at hD;simp at hD
      rcases dC k i with h6|h6
      .have:gO*(k+1)<=gO*i:=ko _ (by omega);omega
      .have:gO*(i+1)<=gO*k:=ko _ (by omega);omega
    have hgo:=Bo (hok i) hk hI hE hfr hev2;refine hgo _ _ fun val w' hDn=>?_;obtain⟨hle,S',φ',h1,h2,h3,h4⟩:=hDn;refine ih _ S' (mE Kn (aL+gO*i) n) φ' _ w' (put ec o.dst v) (u++hc) (by simp[hsz]) hcnt' hcl' ?_ ?_ ?_ (iE.Ig hE h1 h2 hdst h3) (by rw[sO];exact hts) (by rw[pT];exact hdf) ?_ ?_ (hstp.trans h1)
    .intro t;rw[henv' t,j6];rfl
    .intro id;rw[hheap' id,fF];rfl
    .rw [fF];exact h4
    .intro j hj;rcases hj with hj|hj
     .rcases hKn j hj with h|⟨k,hk,h1,h2⟩
      .exact .inl h
      .exact .inr ⟨k,hk,getD_set_true h1,h2⟩
     .exact .inr ⟨i,hlt,hDi,hj.1,by omega⟩
    .intro i c v hc hv;exact(hgh i c v hc hv).mono h1 h2
theorem Cb(hok:∀i,lE P (calls i))(hnt:nt<1000000000){Q:Exit->Act->World->Prop}{e':iE}{h':bz}{tr:List (List Nat×List Nat)}(hl:l=ops.toList.map (fz P da nt ops))
  (hord:wx m ops.toList 0=true) (hsch:v6 m l 0=true) (hev:lC calls s.next l 0 s.db s.heap=some (e',h',tr)) (hdyn:yU tr (qN m l 0)=true) (hsmall:l.length<=1000)
  (hR:Eu S K w0 Kn φ gv nt s a w)
  (hQ:∀S' Kn' φ' a' w',fw S w S' w'->Eu S' K w0 Kn' φ' gv nt ⟨e',h',s.next+gO*l.length,s.gh⟩ a' w'->Q .normal a' w'):
  wpAny P .any ops Q ops.size (Array.replicate ops.size false) a {w with drawn:=w.drawn+1}:=by
 obtain⟨E,Hp,ef,hp,h1,h2,h3,h4⟩:=Lx hl hord hsch hev hdyn hsmall;have hd:∀k,(Array.replicate ops.size false).getD k false=false:=by intro k;simp only[bp,Array.getElem?_replicate];split<;>rfl
 have dA:fw S w S {w with drawn:=w.drawn+1}:=fw.pu S w _;refine JY (gv:=gv) (K:=K) (w0:=w0) hok hnt hp (S0:=S) (ws:=w) (gh:=s.gh) ?_ ops.size _ S Kn φ a _ s.db s.heap (by simp) ?_ ?_ ?_ ?_ (hR.inv.pu _ (Nat.le_succ _)) ?_ hR.size hR.defers ?_ ?_ dA
 .rw [h3,h4];exact hQ
 .simp only[hd,Mm];exact ao _
 .intro k o _ hk;simp only[hd]at hk;simp at hk
 .intro t;simp only[hd];rw[h1];have:∀k,mK (pq l) ef (fun _=>false) (bX s.db) k t=bX s.db t:=by intro k;induction k with|zero=>rfl|succ k ih=>simp[mK,ih]
  exact(this _).symm
 .intro id;simp only[hd];rw[h2];have:∀k,iC ef (fun _=>false) (av s.heap) k id=av s.heap id:=by intro k;induction k with|zero=>rfl|succ k ih=>simp[iC,ih]
  exact(this _).symm
 .intro t x hx;exact(hR.db t x hx).mono dA (Ren.refl _ _)
 .intro j hj;rcases dC j s.next with h|h
  .exact .inl h
  .exact absurd hj (hR.fG j h)
 .intro i c v hc hv;exact(hR.gh i c v hc hv).mono dA (Ren.refl _ _)
end
def nW(P:Program)(da:uY)(nt:Nat):Code->CC
 |.skip=>.skip
 |.region _ ops draw=>if draw then uv ops.toList (ops.toList.map (fz P da nt ops)) []else .region (ops.toList.map (fz P da nt ops)) []
 |.seq a b=>.seq (nW P da nt a) (nW P da nt b)
 |.cond c a b=>.cond c (nW P da nt a) (nW P da nt b)
 |.block id a=>.block id (nW P da nt a)
 |.loop a=>.loop [] (nW P da nt a)
 |.scope a=>nW P da nt a
 |.label _=>.skip
 |.exit id=>.exit id
 |.ret=>.ret
 |_=>.fr
def NI:qo->Exit
 |.normal=>.normal
 |.exit id=>.exit id
 |.ret=>.ret
def Sub(s s1:St):Prop:=∀(S K:Nat->Prop)(w0:World)(Kn:Nat->Prop)(φ:Nat->fE)(gv:List Value)(nt:Nat)(a:Act)(w:World),
 Eu S K w0 Kn φ gv nt s a w->∃S' Kn' φ',fw S w S' w/\Eu S' K w0 Kn' φ' gv nt s1 a w
theorem Sub.refl(s:St):Sub s s:=fun S _ _ Kn φ _ _ _ w h=>⟨S,Kn,φ,fw.refl S w,h⟩
theorem Sub.trans{s s1 s2:St}(a:Sub s s1)(b:Sub s1 s2):Sub s s2:=fun S K w0 Kn φ gv nt ac w h=>
 let⟨S1,Kn1,φ1,h1,h2⟩:=a S K w0 Kn φ gv nt ac w h;let⟨S2,Kn2,φ2,h3,h4⟩:=b S1 K w0 Kn1 φ1 gv nt ac w h2
 ⟨S2,Kn2,φ2,h1.trans h3,h4⟩
def wk(Q:St->Prop)(s:St):Prop:=∃s1,Sub s s1/\Q s1
theorem wk.of{Q:St->Prop}{s:St}(h:Q s):wk Q s:=⟨s,Sub.refl s,h⟩
def WO(P:Program):List mj->St->(St->Prop)->Prop
 |[],s,Q=>wk Q s
 |o::r,s,Q=>∃s1,Sub s s1/\
  ((ja s1.db o.guard=some true/\∃call v u aw n,lE P call/\cm call o.k (o.args.map (jq s1.db)) s1.heap s1.next=some (v,u,aw,n)/\WO P r ⟨put s1.db o.dst v,u++s1.heap,n,s1.gh⟩ Q)\/
   (ja s1.db o.guard=some false/\WO P r ⟨drop s1.db o.dst,s1.heap,s1.next,s1.gh⟩ Q))
def rT(R:St->Prop)(Q:qo->St->Prop):qo->St->Prop
 |.normal,s=>R s
 |.exit id,s=>Q (.exit id) s
 |.ret,s=>Q .ret s
def tJ(id:Nat)(Q:qo->St->Prop):qo->St->Prop
 |.exit id',s=>if id'=id then Q .normal s else Q (.exit id') s
 |.normal,s=>Q .normal s
 |.ret,s=>Q .ret s
def W(P:Program):CC->St->(qo->St->Prop)->Prop
 |.skip,s,Q=>wk (Q .normal) s
 |.region ops _,s,Q=>WO P ops s fun s'=>wk (Q .normal) s'
 |.drawn ops dyn _,s,Q=>∃s1,Sub s s1/\∃calls e h tr,(∀i,lE P (calls i))/\lC calls s1.next ops 0 s1.db s1.heap=some (e,h,tr)/\yU tr dyn=true/\
   wk (Q .normal) ⟨e,h,s1.next+gO*ops.length,s1.gh⟩
 |.seq a b,s,Q=>W P a s (rT (fun s'=>W P b s' Q) Q)
 |.cond c a b,s0,Q=>∃s,Sub s0 s/\∃t,jq s.db c=some (.c (.d (.lit (.bool t))))/\(t=true->W P a s Q)/\(t=false->W P b s Q)
 |.block id a,s,Q=>W P a s (tJ id Q)
 |.loop _ a,s,Q=>∃(I:Nat->St->Prop)(n:Nat),wk (I n) s/\∀n s,I n s->W P a s (rT (fun s'=>∃m,m<n/\wk (I m) s') Q)
 |.exit id,s,Q=>wk (Q (.exit id)) s
 |.ret,s,Q=>wk (Q .ret) s
 |.fr,_,_=>False
section
variable{P:Program}{S K:Nat->Prop}{w0 w:World}{Kn:Nat->Prop}{φ:Nat->fE}{gv:List Value}{nt:Nat}{a:Act}{da:uY}{s s':St}
theorem HE{all:Array Oper}{R:Exit->Act->World->Prop}(hnt:nt<1000000000){Q:St->Prop}:∀(l:List Nat)(os:List Oper)(s:St)(S:Nat->Prop)(Kn:Nat->Prop)(φ:Nat->fE)(a:Act)(w:World),
  (∀(i j:Nat),l[i]?=some j->all[j]?=os[i]?)->l.length=os.length->WO P (os.map (fz P da nt all)) s Q->Eu S K w0 Kn φ gv nt s a w->
  (∀S' Kn' φ' s' a' w',Q s'->fw S w S' w'->Eu S' K w0 Kn' φ' gv nt s' a' w'->R .normal a' w')->wpOps P all R l a w:=by
 intro l;induction l with
 |nil=>intro os s S Kn φ a w _ hl h hR hQ;obtain rfl:os=[]:=bd.1 hl.symm;obtain⟨s1,h1,h2⟩:=h;obtain⟨S1,Kn1,φ1,h3,h4⟩:=h1 S K w0 Kn φ gv nt a w hR;exact hQ S1 Kn1 φ1 s1 a w h2 h3 h4
 |cons i l ih=>
  intro os s S Kn φ a w hi hl h hR hQ;cases os with
  |nil=>simp at hl
  |cons o os=>
   have ho:all[i]?=some o:=by simpa using hi 0 i rfl
   simp only[aq,WO]at h;obtain⟨s1,hsub,h⟩:=h;obtain⟨S1,Kn1,φ1,hs1,hR1⟩:=hsub S K w0 Kn φ gv nt a w hR;simp only[wpOps,ho];rcases h with⟨hw,call,v,u,aw,n,hok,hev,h⟩|⟨hw,h⟩
   .have hwant:=n_ hR1.db (by rw[hR1.size];exact hnt) hw;rw[if_pos hwant];left
    have hdst:∀x,o.dst=some x->x<a.tmps.size:=by
     intro x hx;rw[hR1.size];rcases dC x nt with h1|h1
     .exact h1
     .exfalso;have:(fz P da nt all o).k=.fr:=by simp only[fz,hx];rw[if_neg (by simp;omega)]
      rw[this,eS]at hev;simp at hev
    have hk:uW P da o.op=((fz P da nt all o).k,(fz P da nt all o).args):=by
     have:(fz P da nt all o).k=(uW P da o.op).1:=by simp only[fz];rw[if_pos];cases hd:o.dst with|none=>rfl|some d=>have:=hdst d hd;rw[hR1.size]at this;simpa using this
     rw[this];rfl
    have hgo:=Bo hok hk hR1.inv hR1.db (fun j hj _=>hR1.fG j hj) hev;refine hgo _ _ fun val w' hD=>?_;obtain⟨hle,S',φ',h1,h2,h3,h4⟩:=hD;refine ih os _ S' (mE Kn1 s1.next n) φ' _ w' (fun i' j hj=>hi (i'+1) j (by simpa using hj)) (by simpa using hl) h ⟨?_,?_,?_,?_,?_,?_⟩ fun S2 Kn2 φ2 s2 a2 w2 h0 h5 h6=>hQ S2 Kn2 φ2 s2 a2 w2 h0 ((hs1.trans h1).trans h5) h6
    .simp only[fF];exact h4
    .exact iE.Ig hR1.db h1 h2 hdst h3
    .rw [sO];exact hR1.size
    .rw [pT];exact hR1.defers
    .intro j hj hk;simp only at hj;rcases hk with hk|hk
     .exact hR1.fG j (by omega) hk
     .omega
    .intro i c v hc hv;exact(hR1.gh i c v hc hv).mono h1 h2
   .have hwant:=n_ hR1.db (by rw[hR1.size];exact hnt) hw;rw[if_neg (by simp[hwant])];refine ih os _ S1 Kn1 φ1 _ w (fun i' j hj=>hi (i'+1) j (by simpa using hj)) (by simpa using hl) h ⟨hR1.inv,?_,?_,?_,hR1.fG,hR1.gh⟩ fun S2 Kn2 φ2 s2 a2 w2 h0 h5 h6=>hQ S2 Kn2 φ2 s2 a2 w2 h0 (hs1.trans h5) h6
    .exact iE.Fo hR1.db
    .rw [sO];exact hR1.size
    .rw [pT];exact hR1.defers
theorem zh{c:Code}{Q:Exit->Act->World->Prop}(J:Nat->Act->World->Prop)(n:Nat)(h₀:J n a w)
  (round:∀n a w,J n a w->c.wp P (Exit.then (fun a w=>∃m,m<n/\J m a w) Q) a w):(Code.loop c).wp P Q a w:=by
 intro b k cs
 have key:∀n a w,J n a w->∃e a' w',Q e a' w'/\Arrives P (lone (b.at a (.code c::.inLoop c::k)) cs w) b k cs e a' w':=by
  intro n;induction n using Nat.strongRecOn with
  |_ n ih=>intro a w hJ;obtain⟨e,a₁,w₁,hq,harr⟩:=round n a w hJ b (.inLoop c::k) cs;cases e with|normal=>obtain⟨m,hlt,hq⟩:=hq;obtain⟨e₂,a₂,w₂,hq₂,harr₂⟩:=ih m hlt a₁ w₁ hq;exact⟨e₂,a₂,w₂,hq₂,.of_steps (Steps.trans harr (.one step_inLoop)) harr₂⟩|exit id=>exact⟨_,a₁,w₁,hq,.pass (x:=.inLoop c) rfl (fun _ _=>.inl (by simp)) harr⟩|goto l=>exact⟨_,a₁,w₁,hq,.pass (x:=.inLoop c) rfl (fun _ _=>.inl (by simp)) harr⟩|ret=>exact⟨_,a₁,w₁,hq,.pass (x:=.inLoop c) rfl (fun _ _=>.inl (by simp)) harr⟩|panic ch=>exact⟨_,a₁,w₁,hq,.pass (x:=.inLoop c) rfl (fun _ _=>.inl (by simp)) harr⟩|outgrown=>exact⟨_,a₁,w₁,hq,.pass (x:=.inLoop c) rfl (fun _ _=>.inl (by simp)) harr⟩
 obtain⟨e,a',w',hq,harr⟩:=key n a w h₀;exact⟨e,a',w',hq,.of_steps (.one step_loop) harr⟩
def vn(S K:Nat->Prop)(w0 w:World)(gv:List Value)(nt:Nat)(Q:qo->St->Prop)(e:Exit)(a':Act)(w':World):Prop:=∃o s',Q o s'/\e=NI o/\∃S' Kn' φ',fw S w S' w'/\Eu S' K w0 Kn' φ' gv nt s' a' w'
theorem vn.trans{S':Nat->Prop}{w':World}(h:fw S w S' w'){Q:qo->St->Prop}{e:Exit}{a':Act}{w'':World}(hp:vn S' K w0 w' gv nt Q e a' w''):vn S K w0 w gv nt Q e a' w'':=by obtain⟨o,s',h0,h1,S'',Kn',φ',h2,h3⟩:=hp;exact⟨o,s',h0,h1,S'',Kn',φ',h.trans h2,h3⟩
theorem vn.yB{Q:qo->St->Prop}{o:qo}{a':Act}{w':World}{S' Kn':Nat->Prop}{φ':Nat->fE}(h:wk (Q o) s')(hs:fw S w S' w')(hR:Eu S' K w0 Kn' φ' gv nt s' a' w'):vn S K w0 w gv nt Q (NI o) a' w':=by obtain⟨s1,h1,h2⟩:=h;obtain⟨S1,Kn1,φ1,h3,h4⟩:=h1 S' K w0 Kn' φ' gv nt a' w' hR;exact⟨o,s1,h2,rfl,S1,Kn1,φ1,hs.trans h3,h4⟩
theorem Ea(hnt:nt<1000000000)(hm:P.follows .mixedOrders=true):∀(code:Code)(s:St)(Q:qo->St->Prop)(S:Nat->Prop)(Kn:Nat->Prop)(φ:Nat->fE)(a:Act)(w:World),
  W P (nW P da nt code) s Q->Eu S K w0 Kn φ gv nt s a w->code.wp P (vn S K w0 w gv nt Q) a w:=by
 intro code;induction code with
 |skip=>intro s Q S Kn φ a w h hR;exact wp_skip (vn.yB h (fw.refl _ _) hR)
 |region id ops draw=>
  intro s Q S Kn φ a w h hR;simp only[nW]at h;cases draw with
  |false=>
   simp only[aN,if_false,W]at h;refine wp_region ?_;refine HE (gv:=gv) (K:=K) (w0:=w0) hnt (List.range ops.size) ops.toList s S Kn φ a w ?_ (by simp) h hR fun S' Kn' φ' s' a' w' h0 h1 h2=>vn.yB (o:=.normal) h0 h1 h2;intro i j hj;obtain⟨hlt,rfl⟩:i<ops.size/\i=j:=by have:=ai.1 hj;obtain⟨h1,h2⟩:=this;simp at h1 h2;exact⟨h1,h2⟩
   simp
  |true=>
   simp only[if_true]at h;unfold uv at h;simp only at h;split at h
   .rename_i hc;simp only[af]at hc;simp only[W]at h;obtain⟨s1,hsub,calls,e1,h1,tr,hok,hev,hdyn,hq⟩:=h;obtain⟨S1,Kn1,φ1,hs1,hR1⟩:=hsub S K w0 Kn φ gv nt a w hR;refine wp_region_any hm ?_;exact Cb hok hnt rfl hc.1.1 hc.1.2 hev hdyn (by simpa using hc.2) hR1 fun S' Kn' φ' a' w' h1 h2=>vn.yB (o:=.normal) hq (hs1.trans h1) h2
   .simp [W]at h
 |seq x y ihx ihy=>intro s Q S Kn φ a w h hR;simp only[nW,W]at h;refine wp_seq ?_;refine wp_mono (ihx s _ S Kn φ a w h hR) fun e a' w' hp=>?_;obtain⟨o,s',h0,rfl,S',Kn',φ',h1,h2⟩:=hp;cases o with|normal=>exact wp_mono (ihy s' Q S' Kn' φ' a' w' h0 h2) fun e a'' w'' hp=>hp.trans h1|exit id=>exact⟨.exit id,s',h0,rfl,S',Kn',φ',h1,h2⟩|ret=>exact⟨.ret,s',h0,rfl,S',Kn',φ',h1,h2⟩
 |cond c x y ihx ihy=>intro s Q S Kn φ a w h hR;simp only[nW,W]at h;obtain⟨s1,hsub,t,ht,h1,h2⟩:=h;obtain⟨S1,Kn1,φ1,hs1,hR1⟩:=hsub S K w0 Kn φ gv nt a w hR;have hv:=(re hR1.inv.zY hR1.db ht).lit.1;refine wp_cond hv ?_;cases t with|true=>exact wp_mono (ihx s1 Q S1 Kn1 φ1 a w (h1 rfl) hR1) fun _ _ _ hp=>hp.trans hs1|false=>exact wp_mono (ihy s1 Q S1 Kn1 φ1 a w (h2 rfl) hR1) fun _ _ _ hp=>hp.trans hs1
 |block id x ih=>
  intro s Q S Kn φ a w h hR;simp only[nW,W]at h;refine wp_block ?_;refine wp_mono (ih s _ S Kn φ a w h hR) fun e a' w' hp=>?_;obtain⟨o,s',h0,rfl,hp⟩:=hp;cases o with
  |normal=>exact⟨.normal,s',h0,rfl,hp⟩
  |ret=>exact⟨.ret,s',h0,rfl,hp⟩
  |exit id'=>
   simp only[NI,Exit.inBlock];simp only[tJ]at h0;by_cases hid:id'=id
   .rw [if_pos hid]at h0|-;exact⟨.normal,s',h0,rfl,hp⟩
   .rw [if_neg hid]at h0|-;exact⟨.exit id',s',h0,rfl,hp⟩
 |loop x ih=>intro s Q S Kn φ a w h hR;simp only[nW,W]at h;obtain⟨I,n,⟨s0,hsub,hI⟩,hstep⟩:=h;obtain⟨S0,Kn0,φ0,hs0,hR0⟩:=hsub S K w0 Kn φ gv nt a w hR;refine zh (J:=fun n a' w'=>∃s1 S1 Kn1 φ1,fw S w S1 w'/\Eu S1 K w0 Kn1 φ1 gv nt s1 a' w'/\I n s1) n ⟨s0,S0,Kn0,φ0,hs0,hR0,hI⟩ fun n a1 w1 hJ=>?_;obtain⟨s1,S1,Kn1,φ1,h1,h2,h3⟩:=hJ;refine wp_mono (ih s1 _ S1 Kn1 φ1 a1 w1 (hstep n s1 h3) h2) fun e a' w' hp=>?_;obtain⟨o,s2,h0,rfl,S2,Kn2,φ2,h4,h5⟩:=hp;cases o with|normal=>obtain⟨m,hm,s3,h6,h7⟩:=h0;obtain⟨S3,Kn3,φ3,h8,h9⟩:=h6 S2 K w0 Kn2 φ2 gv nt a' w' h5;exact⟨m,hm,s3,S3,Kn3,φ3,(h1.trans h4).trans h8,h9,h7⟩|exit id=>exact⟨.exit id,s2,h0,rfl,S2,Kn2,φ2,h1.trans h4,h5⟩|ret=>exact⟨.ret,s2,h0,rfl,S2,Kn2,φ2,h1.trans h4,h5⟩
 |exit id=>intro s Q S Kn φ a w h hR;exact wp_exit (vn.yB (o:=.exit id) h (fw.refl _ _) hR)
 |ret=>intro s Q S Kn φ a w h hR;exact wp_ret (vn.yB (o:=.ret) h (fw.refl _ _) hR)
 |scope x ih=>intro s Q S Kn φ a w h hR;refine wp_scope_straight (wp_mono (ih s Q S Kn φ a w h hR) fun e a' w' hp=>?_);obtain⟨o,s',h0,rfl,h1⟩:=hp;cases o<;>exact⟨_,s',h0,rfl,h1⟩
 |label l=>intro s Q S Kn φ a w h hR;exact wp_label (vn.yB (o:=.normal) h (fw.refl _ _) hR)
 |_=>intro s Q S Kn φ a w h hR;simp[nW,W]at h
end
def Li(P:Program):ResultVar->Option RV
 |.tmp t=>some (.tmp t)
 |.cell a t=>match eY P t,ew P t with|some g,some n=>some (.cell a g n)|_,_=>none
def yo(P:Program):List ResultVar->Option (List RV)
 |[]=>some []
 |r::rs=>match Li P r,yo P rs with|some x,some xs=>some (x::xs)|_,_=>none
def xe(P:Program)(da:uY)(f np:Nat):Option Fn:=
 match P.funcs[f]?with
 |none=>none
 |some g=>
  match g.body with
  |none=>none
  |some code=>
   if(g.name== "runtime.NumGoroutine")=false/\np<=g.ntmps/\g.ntmps<1000000000 then
    match yo P g.results.toList with|some ji=>some ⟨np,g.ntmps,ji,nW P da g.ntmps code⟩|none=>none
   else none
section
variable{P:Program}{S K:Nat->Prop}{w0 w:World}{gv:List Value}{nt:Nat}{a:Act}{call:Call}{da:uY}{s s':St}
theorem B7:∀(as:List A){Kn:Nat->Prop}{φ:Nat->fE}{hf:Nat->Option Ob}(vs:List Value)(fp:List Nat)(i n:Nat),Inv S K w0 Kn φ hf w->(∀j,n<=j->¬Kn j)->KV S w as vs fp->fp.Nodup->
  (∀b∈fp,¬S b/\¬K b)->gq w φ hf fp->
  ∃φ',qd S K w0 w Kn φ hf fp n (enter as i n).2.2.1 (enter as i n).2.1 φ'/\
   (∀t x,bX (enter as i n).1 t=some x->i<=t/\∃v,vs[t-i]?=some v/\eU S w (mE Kn n (enter as i n).2.2.1) φ' x v)/\
   (∀(k:Nat)(c:C)(v:Value),(enter as i n).2.2.2[k]?=some c->(lp as vs)[k]?=some v->RC S w (mE Kn n (enter as i n).2.2.1) φ' c v)/\
   (enter as i n).2.2.2.length=(lp as vs).length/\as.length=vs.length:=by
 intro as;induction as with
 |nil=>intro Kn φ hf vs fp i n hI hfr h hn hSK ha;cases vs with|cons v vs=>exact h.elim|nil=>obtain rfl:fp=[]:=h;exact⟨φ,qd.nil hI _ _,fun t x hx=>by simp[enter,bX]at hx,fun k c v hk=>by simp[enter]at hk,rfl,rfl⟩
 |cons x as ih=>
  intro Kn φ hf vs fp i n hI hfr h hn hSK ha;cases vs with
  |nil=>exact h.elim
  |cons v vs=>
   obtain⟨f1,f2,rfl,h1,h2⟩:=h;have next:∀{e:iE}{i':Nat}{t:Nat}{x:TV}{φ':Nat->fE}{Kn':Nat->Prop},i+1<=t/\(∃v,vs[t-(i+1)]?=some v/\eU S w Kn' φ' x v)->i<=t/\∃v',(v::vs)[t-i]?=some v'/\eU S w Kn' φ' x v':=by intro e i' t x φ' Kn' ⟨q1,v',q2,q3⟩;refine⟨by omega,v',?_,q3⟩;rw[show t-i=(t-(i+1))+1 by omega];simpa using q2
   cases x with
   |d y=>
    obtain⟨h1,rfl⟩:=h1;obtain⟨φ',q1,q2,q3,q4,q5⟩:=ih (Kn:=Kn) (φ:=φ) (hf:=hf) vs f2 (i+1) n hI hfr h2 (by simpa using hn) (by simpa using hSK) (by simpa using ha);refine⟨φ',q1,fun t x hx=>?_,q3,q4,by simp[q5]⟩;simp only[enter,bX]at hx;by_cases e:i=t
    .subst e;simp at hx;subst hx;exact⟨ao _,v,by simp,.c (.d h1)⟩
    .have e':(i==t)=false:=by simpa using e
     rw[e',cond_false]at hx;exact next (e:=[]) (i':=0) (q2 t x hx)
   |agg xs=>
    obtain⟨aJ,rfl,hlen,h1,rfl⟩:=h1;obtain⟨φ',q1,q2,q3,q4,q5⟩:=ih (Kn:=Kn) (φ:=φ) (hf:=hf) vs f2 (i+1) n hI hfr h2 (by simpa using hn) (by simpa using hSK) (by simpa using ha);refine⟨φ',q1,fun t x hx=>?_,q3,q4,by simp[q5]⟩;simp only[enter,bX]at hx;by_cases e:i=t
    .subst e;simp at hx;subst hx;refine⟨ao _,_,by simp;rfl,.agg (by simpa using hlen) fun j x hj=>?_⟩;rw[aD]at hj;obtain⟨d,hd,rfl⟩:=aB.1 hj;exact .d (h1 j d hd)
    .have e':(i==t)=false:=by simpa using e
     rw[e',cond_false]at hx;exact next (e:=[]) (i':=0) (q2 t x hx)
   |mt t0=>
    rw[bR]at hn;obtain⟨hn1,hn2,hn3⟩:=hn;simp only[ak]at hSK;obtain⟨φ1,hL1,hr1⟩:=tO t0 n v f1 hI (fun j hj _=>hfr j hj) h1 hn1 (fun b hb=>hSK b (.inl hb)) (fun j o hj hown x hx hm=>ha j o hj hown x hx (by simp[hm]))
    obtain⟨φ2,hL2,q2,q3,q4,q5⟩:=ih (Kn:=mE Kn n (jA n t0).2.2) (φ:=φ1) (hf:=bg (jA n t0).2.1 hf) vs f2 (i+1) (jA n t0).2.2 hL1.inv (fun j hj hk=>by
     rcases hk with hk|hk
     .have:=hL1.le;exact hfr j (by omega) hk
     .omega) h2 hn2 (fun b hb=>hSK b (.inr hb)) (hL1.Mv hI (fun j o hj hown x hx hm=>ha j o hj hown x hx (by simp[hm])) fun x hx hx2=>hn3 x hx x hx2 rfl)
    have hcomp:=hL1.nW hL2;have hcm:bg ((enter as (i+1) (jA n t0).2.2).2.1++(jA n t0).2.1) hf=bg ((jA n t0).2.1++(enter as (i+1) (jA n t0).2.2).2.1) hf:=kQ fun p hp q hq e=>by have h1:=hL2.fG p hp;have h2:=hL1.fG q hq;omega
    have hsub:∀j,mE (mE Kn n (jA n t0).2.2) (jA n t0).2.2 (enter as (i+1) (jA n t0).2.2).2.2.1 j->mE Kn n (enter as (i+1) (jA n t0).2.2).2.2.1 j:=fun j=>(pY hL1.le hL2.le j).1;refine⟨φ2,?_,fun t x hx=>?_,fun k c v' hk hv=>?_,by simp[enter,lp,q4],by simp[q5]⟩
    .simp only[enter];have hsw:∀{p:Nat×Option Ob}{a b:eG},p∈a++b->p∈b++a:=fun hp=>ak.2 (ak.1 hp).symm;exact⟨hcomp.le,hcomp.qB,hcm▸hcomp.inv,fun p hp=>hcomp.fG p (hsw hp),fun p hp x hx=>hcomp.bA p (hsw hp) x (hcm.symm▸hx)⟩
    .simp only[enter,bX]at hx|-;by_cases e:i=t
     .subst e;simp at hx;subst hx;exact⟨ao _,v,by simp,.c ((hr1.mono (fw.refl _ _) hL2.qB).kn hsub)⟩
     .have e':(i==t)=false:=by simpa using e
      rw[e',cond_false]at hx;obtain⟨p1,v',p2,p3⟩:=q2 t x hx;exact next (e:=[]) (i':=0) ⟨p1,v',p2,p3.mono (fw.refl _ _) ⟨hsub,fun _ _=>rfl⟩⟩
    .simp only[enter]at hk|-;simp only[lp]at hv;cases k with
     |zero=>
      obtain rfl:(jA n t0).1=c:=by simpa using hk
      obtain rfl:v=v':=by simpa using hv
      exact(hr1.mono (fw.refl _ _) hL2.qB).kn hsub
     |succ k=>exact(q3 k c v' (by simpa using hk) (by simpa using hv)).kn hsub
theorem Bh{Kn:Nat->Prop}{φ:Nat->fE}{H:bz}(hI:Inv S K w0 Kn φ (av H) w){v:TV}{r:R}{bn:List Nat}{x:Value}(h:qg H v=some (r,bn))(hv:eU S w Kn φ v x):
  RR S w r x (bn.flatMap (fX w φ (av H)))/\∀i∈bn,∃o,av H i=some o/\cq o=true:=by
 cases hv with
 |c hv=>
  simp only[qg]at h;split at h
  .rename_i t aw rd hp;obtain⟨rfl,rfl⟩:R.c t=r/\aw=bn:=by simpa using h
   exact(pV hI 300).1 _ _ _ _ _ hp hv
  .simp at h
 |@agg cs aJ hlen hv=>
  simp only[qg]at h;split at h
  .rename_i ts aw rd hp;obtain⟨rfl,rfl⟩:R.agg ts=r/\aw=bn:=by simpa using h
   obtain⟨h1,⟨fps,h2,h3,h4⟩,h5⟩:=(pV hI 300).2 _ _ _ _ hp (fun i=>aJ.getD i undef) hv;exact⟨⟨aJ,fps,rfl,h1.trans hlen,h2,h3,h4⟩,h5⟩
  .simp at h
 |gR hlen hv=>simp[qg]at h
theorem zF{Kn:Nat->Prop}{φ:Nat->fE}{H:bz}(hI:Inv S K w0 Kn φ (av H) w):∀(tvs:List TV)(vs:List Value)(rs:List R)(bn:List Nat),ss H tvs=some (rs,bn)->tvs.length=vs.length->
  (∀(i:Nat)(t:TV)(v:Value),tvs[i]?=some t->vs[i]?=some v->eU S w Kn φ t v)->CB S w rs vs (bn.flatMap (fX w φ (av H)))/\∀i∈bn,∃o,av H i=some o/\cq o=true:=by
 intro tvs;induction tvs with
 |nil=>
  intro vs rs bn h hl hr;obtain⟨rfl,rfl⟩:[]=rs/\[]=bn:=by simpa[ss]using h
  obtain rfl:vs=[]:=bd.1 hl.symm;exact⟨rfl,fun i hi=>by simp at hi⟩
 |cons t tvs ih=>
  intro vs rs bn h hl hr;cases vs with
  |nil=>simp at hl
  |cons v vs=>
   simp only[ss]at h;split at h
   .rename_i r o1 rs1 o2 hp hps;obtain⟨rfl,rfl⟩:r::rs1=rs/\o1++o2=bn:=by simpa using h
    obtain⟨a1,a2⟩:=Bh hI hp (hr 0 t v rfl rfl);obtain⟨b1,b2⟩:=ih vs rs1 o2 hps (by simpa using hl) (fun i t v hi hv=>hr (i+1) t v (by simpa using hi) (by simpa using hv));refine⟨⟨_,_,by simp,a1,b1⟩,fun i hi=>?_⟩;rcases ak.1 hi with hi|hi
    .exact a2 i hi
    .exact b2 i hi
   .simp at h
inductive tH(h:bz):List C->List T->List Nat->Prop
 |nil:tH h [] [] []
 |cons {c:C} {cs:List C} {t:T} {ts:List T} {a i b:List Nat} (h1:dZ h 300 c=some (t,a,i)) (h2:tH h cs ts b):tH h (c::cs) (t::ts) (a++b)
 |rD {c:C} {cs:List C} {ts:List T} {b:List Nat} (h2:tH h cs ts b):tH h (c::cs) (.rD::ts) b
theorem Bi{Kn:Nat->Prop}{φ:Nat->fE}{H:bz}(hI:Inv S K w0 Kn φ (av H) w){cs:List C}{ts:List T}{bn:List Nat}(h:tH H cs ts bn):∀(vs:List Value),cs.length=vs.length->
  (∀(i:Nat)(c:C)(v:Value),cs[i]?=some c->vs[i]?=some v->RG S w Kn φ c v)->KJ S w ts vs (bn.flatMap (fX w φ (av H)))/\∀i∈bn,∃o,av H i=some o/\cq o=true:=by
 induction h with
 |nil=>intro vs hl hr;obtain rfl:vs=[]:=bd.1 hl.symm;exact⟨rfl,fun i hi=>by simp at hi⟩
 |@cons c cs t ts a rd b hp _ ih=>
  intro vs hl hr;cases vs with
  |nil=>simp at hl
  |cons v vs=>
   have hrc:RC S w Kn φ c v:=(hr 0 c v rfl rfl).resolve_left fun e=>by subst e;simp[qi,dZ]at hp
   obtain⟨a1,a2⟩:=(pV hI 300).1 _ _ _ _ _ hp hrc;obtain⟨b1,b2⟩:=ih vs (by simpa using hl) (fun i t v hi hv=>hr (i+1) t v (by simpa using hi) (by simpa using hv));refine⟨⟨_,_,by simp,.inr a1,b1⟩,fun i hi=>?_⟩;rcases ak.1 hi with hi|hi
   .exact a2 i hi
   .exact b2 i hi
 |@rD c cs ts b _ ih=>intro vs hl hr;cases vs with|nil=>simp at hl|cons v vs=>obtain⟨b1,b2⟩:=ih vs (by simpa using hl) (fun i t v hi hv=>hr (i+1) t v (by simpa using hi) (by simpa using hv));exact⟨⟨[],_,rfl,.inl ⟨rfl,rfl⟩,b1⟩,b2⟩
def uF(ji:List RV)(s:St)(rs:List R)(outs:List T):Prop:=∃vs a b,dX (ji.map (uO s))=some vs/\ss s.heap vs=some (rs,a)/\tH s.heap s.gh outs b/\(a++b).Nodup
def pP(tmps:Array Value):ResultVar->Sem Value
 |.tmp t=>pure (tmps.getD t undef)
 |.cell a t=>do loadVar t (<-asAddr (tmps.getD a undef))
theorem BH{t:TypeId}{pv val:Value}(h:(Instr.loadAt t pv).run P w=.ok val w):(do loadVar t (<-asAddr pv):Sem Value).run P w=.ok val w:=by
 cases pv with
 |pointer x=>cases x with|some a=>simpa[Instr.loadAt,Instr.sureAddr,asAddr]using h|none=>simp[Instr.loadAt,Instr.sureAddr]at h
 |_=>simp[Instr.loadAt,Instr.sureAddr]at h
theorem zA{Kn:Nat->Prop}{φ:Nat->fE}(hI:Inv S K w0 Kn φ (av s.heap) w)(hE:iE.ok S w Kn φ s.db a.tmps){r:ResultVar}{x:RV}{v:TV}(hr:Li P r=some x)(h:uO s x=some v):
  ∃val,(pP a.tmps r).run P w=.ok val w/\eU S w Kn φ v val:=by
 cases r with
 |tmp t=>
  obtain rfl:RV.tmp t=x:=by simpa[Li]using hr
  exact⟨_,by simp[pP],hE t v h⟩
 |cell t ty=>
  simp only[Li]at hr;split at hr
  .rename_i g n hg hn;obtain rfl:=aa hr;simp only[uO]at h;split at h
   .rename_i p hp;split at h
    .rename_i v' aw hl;obtain rfl:=aa h;cases hE t _ hp with|c hc=>obtain⟨val,h1,h2⟩:=wd hg hn hI hc hl;exact⟨val,BH h1,h2⟩
    .simp at h
   .simp at h
  .simp at hr
theorem xQ{Kn:Nat->Prop}{φ:Nat->fE}(hI:Inv S K w0 Kn φ (av s.heap) w)(hE:iE.ok S w Kn φ s.db a.tmps):∀(rs:List ResultVar)(xs:List RV)(tvs:List TV),yo P rs=some xs->dX (xs.map (uO s))=some tvs->
  ∃vs,(rs.mapM (pP a.tmps)).run P w=.ok vs w/\tvs.length=vs.length/\∀(i:Nat)(t:TV)(v:Value),tvs[i]?=some t->vs[i]?=some v->eU S w Kn φ t v:=by
 intro rs;induction rs with
 |nil=>
  intro xs tvs h1 h2;obtain rfl:[]=xs:=by simpa[yo]using h1
  obtain rfl:[]=tvs:=by simpa[dX]using h2
  exact⟨[],by simp,rfl,fun i t v hi=>by simp at hi⟩
 |cons r rs ih=>
  intro xs tvs h1 h2;simp only[yo]at h1;split at h1
  .rename_i x xs1 hx hxs;obtain rfl:=aa h1;simp only[aq]at h2;cases hv:uO s x with
   |none=>rw[hv]at h2;simp[dX]at h2
   |some v=>
    rw[hv]at h2;simp only[dX]at h2;split at h2
    .rename_i tvs1 htv;obtain rfl:=aa h2;obtain⟨val,q1,q2⟩:=zA hI hE hx hv;obtain⟨vs,q3,q4,q5⟩:=ih xs1 tvs1 hxs htv;refine⟨val::vs,by simp[List.mapM_cons,q1,q3],by simp[q4],fun i t v' hi hv'=>?_⟩;cases i with
     |zero=>
      obtain rfl:v=t:=by simpa using hi
      obtain rfl:val=v':=by simpa using hv'
      exact q2
     |succ i=>exact q5 i t v' (by simpa using hi) (by simpa using hv')
    .simp at h2
  .simp at h1
theorem A0{g:Func}{tmps:Array Value}{vs:List Value}(h:(g.results.toList.mapM (pP tmps)).run P w=.ok vs w):(results g tmps).run P w=.ok (wh vs) w:=by
 have e:results g tmps=(do let vs<-g.results.mapM (pP tmps);pure (if h:vs.size=1 then vs[0]else .tuple vs)):=rfl;have e2:g.results.mapM (pP tmps)=(do let vs<-g.results.toList.mapM (pP tmps);pure vs.toArray):=by rw[Array.mapM_eq_mapM_toList,bind_pure_comp]
 rw[e,e2];simp only[Sem.run_bind,h,Result.andThen_ok,Sem.run_pure]
 match vs with|[]=>rfl|[v]=>rfl|v::v'::r=>simp[wh]
def NC(sz:Nat):Option (List (List D))->D
 |none=>.lit (.slice none 0 0)
 |some aj=>.sl sz aj
mutual
def qn:T->D
 |.d x=>x
 |.rD=>.lit .nilFunc
 |.sl sz aj=>.sl sz aj
 |.xC sz aj=>.sl 1 (aj.map fun r=>[NC sz r])
 |.pt ts=>.pt (L5 ts)
def L5:List T->List D
 |[]=>[]
 |t::ts=>qn t::L5 ts
end
theorem JC:∀ts:List T,L5 ts=ts.map qn:=by intro ts;induction ts with|nil=>rfl|cons t ts ih=>simp[L5,ih]
theorem RT.yL{S S':Nat->Prop}{w:World}{t:T}{v:Value}{fp:List Nat}(h:RT S w t v fp)(hS:∀b,S b->S' b)(hb:∀b∈fp,S' b):RD S' w (qn t) v:=by
 have dA:fw S w S' w:=⟨hS,fun _ _=>rfl⟩
 induction h with
 |d h=>exact h.mono dA
 |@sl sz aj b off len cap aJ hsz ho hlen hcap hext hr=>
  subst hlen;refine .sl (fun i j=>aJ.getD (off+i*sz+j) undef) (hb b (by simp)) hsz hcap hr.1 (fun i r hi j x hj=>?_) (fun i r hi j x hj=>?_)
  .obtain ⟨v,h1,h2⟩:=hr.2 i r hi j x hj;simp only at h1;rw[ho.cell,h1,bp,h1];rfl
  .obtain ⟨v,h1,h2⟩:=hr.2 i r hi j x hj;simp only at h1;rw[bp,h1];exact h2.mono dA
 |@xC sz aj b off cap aJ fps hsz ho hcap hext hfl h=>
  have key:=RD.ym (S:=S') (w:=w) (sz:=1) (aj:=aj.map fun r=>[NC sz r]) (b:=b) (off:=off) (len:=aj.length) (cap:=cap) (hb b (by simp)) Nat.one_pos (by simp) hcap ⟨fun i r hi=>?_,fun i r hi j x hj=>?_⟩
  .exact key
  .rw [aD]at hi;obtain⟨r',_,rfl⟩:=aB.1 hi;rfl
  .rw [aD]at hi;obtain⟨r',hr',rfl⟩:=aB.1 hi;have hl:=(ai.1 hr').1;cases j with
   |succ j=>simp at hj
   |zero=>
    obtain rfl:NC sz r'=x:=by simpa using hj
    obtain⟨v,h1,h2⟩:=h i r' fps[i] hr' (au (by omega));refine⟨v,by rw[Nat.mul_one,cu];exact(ho.cell _).trans h1,?_⟩;cases r' with|none=>obtain⟨rfl,_⟩:=h2;exact .lit rfl|some rows'=>obtain⟨b',q1,q2⟩:=h2;exact q2.rd dA (hb b' (aA _ (df.2 ⟨fps[i],List.getElem_mem _,by rw[q1];simp⟩)))
 |@pt ts b aJ fps ho hlen hfl h ih=>
  simp only[qn,JC];have hlt:∀(j:Nat)(x:D),(ts.map qn)[j]?=some x->∃t f,ts[j]?=some t/\fps[j]?=some f/\x=qn t:=by intro j x hj;rw[aD]at hj;obtain⟨t,ht,rfl⟩:=aB.1 hj;have hl:=(ai.1 ht).1;exact⟨t,_,ht,au (by omega),rfl⟩
  have key:=RD.pt (S:=S') (w:=w) (cells:=ts.map qn) (b:=b) (off:=0) (fun j=>aJ.getD j undef) (hb b (by simp)) (fun j x hj=>?_) (fun j x hj=>?_)
  .exact key
  .obtain ⟨t,f,h1,h2,rfl⟩:=hlt j x hj;have hl:=(ai.1 h1).1;rw[bG,ho.cell,bp,fM (by omega)];rfl
  .obtain ⟨t,f,h1,h2,rfl⟩:=hlt j x hj;exact ih j t f h1 h2 fun b hbm=>hb b (aA _ (df.2 ⟨f,aQ h2,hbm⟩))
def GQ:R->R
 |.c t=>.c (.d (qn t))
 |.agg ts=>.agg (ts.map fun t=>.d (qn t))
def rN:List Bool->List R->List R
 |b::bs,r::rs=>(if b then GQ r else r)::rN bs rs
 |_,rs=>rs
theorem RR.wE{S S':Nat->Prop}{w:World}(hS:∀b,S b->S' b){r:R}{v:Value}{fp:List Nat}(h:RR S w r v fp):RR S' w r v fp:=by
 have dA:fw S w S' w:=⟨hS,fun _ _=>rfl⟩
 cases r with|c t=>exact RT.mono dA h fun _ _=>rfl|agg ts=>obtain⟨aJ,fps,h1,h2,h3,h4,h5⟩:=h;exact⟨aJ,fps,h1,h2,h3,h4,fun i t f hi hf=>(h5 i t f hi hf).mono dA fun _ _=>rfl⟩
theorem RR.yL{S S':Nat->Prop}{w:World}(hS:∀b,S b->S' b){r:R}{v:Value}{fp:List Nat}(h:RR S w r v fp)(hb:∀b∈fp,S' b):RR S' w (GQ r) v []:=by
 cases r with
 |c t=>exact .d (RT.yL h hS hb)
 |agg ts=>
  obtain⟨aJ,fps,h1,h2,h3,h4,h5⟩:=h;refine⟨aJ,ts.map fun _=>[],h1,by simp[h2],by simp,?_,fun i t f hi hf=>?_⟩
  .clear h5 h3 h2;induction ts with|nil=>rfl|cons t ts ih=>simp
  .simp only[aD,aB]at hi hf;obtain⟨t0,ht0,rfl⟩:=hi;obtain⟨_,_,rfl⟩:=hf;have hl:=(ai.1 ht0).1;have hf:fps[i]?=some _:=au (by omega);refine .d ((h5 i t0 _ ht0 hf).yL hS fun b hbm=>hb b ?_);rw[<-h4];exact df.2 ⟨_,aQ hf,hbm⟩
theorem CB.wE{S S':Nat->Prop}{w:World}(hS:∀b,S b->S' b):∀{rs:List R}{vs:List Value}{fp:List Nat},CB S w rs vs fp->CB S' w rs vs fp:=by
 intro rs;induction rs with
 |nil=>intro vs fp h;cases vs<;>exact h
 |cons r rs ih=>intro vs fp h;cases vs with|nil=>exact h|cons v vs=>obtain⟨f1,f2,h1,h2,h3⟩:=h;exact⟨f1,f2,h1,h2.wE hS,ih h3⟩
theorem CB.yL{S:Nat->Prop}{w:World}:∀(m:List Bool)(rs:List R)(vs:List Value)(fp:List Nat),CB S w rs vs fp->fp.Nodup->
  ∃fpK,fpK.Sublist fp/\∀S':Nat->Prop,(∀b,S b->S' b)->(∀b∈fp,b∉fpK->S' b)->CB S' w (rN m rs) vs fpK:=by
 intro m;induction m with
 |nil=>intro rs vs fp h hn;exact⟨fp,bS _,fun S' hS _=>by cases rs<;>exact h.wE hS⟩
 |cons b m ih=>
  intro rs vs fp h hn;cases rs with
  |nil=>exact⟨fp,bS _,fun S' hS _=>h.wE hS⟩
  |cons r rs=>
   cases vs with
   |nil=>exact h.elim
   |cons v vs=>
    obtain⟨f1,f2,rfl,h2,h3⟩:=h;obtain⟨n1,n2,n3⟩:=bR.1 hn;obtain⟨fpK,hsub,hk⟩:=ih rs vs f2 h3 n2;cases b with
    |true=>refine⟨fpK,hsub.trans (List.sublist_append_right _ _),fun S' hS hb=>⟨[],fpK,rfl,h2.yL hS fun b hbm=>hb b (aE _ hbm) fun hb2=>n3 b hbm b (hsub.subset hb2) rfl,hk S' hS fun b hbm hb2=>hb b (aC _ hbm) hb2⟩⟩
    |false=>
     refine⟨f1++fpK,cT.append (bS _) hsub,fun S' hS hb=>⟨f1,fpK,rfl,h2.wE hS,hk S' hS fun b hbm hb2=>hb b (aC _ hbm) fun hb3=>?_⟩⟩;rcases ak.1 hb3 with h|h
     .exact n3 b h b hbm rfl
     .exact hb2 h
theorem CB.lt{S:Nat->Prop}{w:World}:∀{rs:List R}{vs:List Value}{fp:List Nat},CB S w rs vs fp->∀b∈fp,b<w.heap.size:=by
 intro rs;induction rs with
 |nil=>intro vs fp h b hb;cases vs with|nil=>have h':fp=[]:=h;subst h';simp at hb|cons _ _=>exact h.elim
 |cons r rs ih=>
  intro vs fp h b hb;cases vs with
  |nil=>exact h.elim
  |cons v vs=>
   obtain⟨f1,f2,rfl,h2,h3⟩:=h;rcases ak.1 hb with hb|hb
   .cases r with|c t=>exact RT.lt h2 b hb|agg ts=>obtain⟨aJ,fps,_,q2,q3,rfl,q5⟩:=h2;obtain⟨fp,hfp,hbf⟩:=df.1 hb;obtain⟨i,hi,rfl⟩:=List.getElem_of_mem hfp;exact(q5 i _ _ (au (by omega:i<ts.length)) (au hi)).lt b hbf
   .exact ih h3 b hb
theorem KJ.wE{S S':Nat->Prop}{w:World}(hS:∀b,S b->S' b):∀{ts:List T}{vs:List Value}{fp:List Nat},KJ S w ts vs fp->KJ S' w ts vs fp:=by
 intro ts;induction ts with
 |nil=>intro vs fp h;cases vs<;>exact h
 |cons r rs ih=>intro vs fp h;cases vs with|nil=>exact h|cons v vs=>obtain⟨f1,f2,h1,h2,h3⟩:=h;exact⟨f1,f2,h1,h2.imp id fun h2=>RT.mono ⟨hS,fun _ _=>rfl⟩ h2 fun _ _=>rfl,ih h3⟩
theorem Left.yL{S:Nat->Prop}{w w':World}{fp:List Nat}{rs:List R}{outs:List T}{lent:List Value}{v:Value}(m:List Bool)(h:Left S w fp rs outs lent v w'):Left S w fp (rN m rs) outs lent v w':=by
 obtain⟨S',ji,fp1,fp2,h1,h2,h3,h4,h5,h6,h7,h8,h9⟩:=h;obtain⟨n1,n2,n3⟩:=bR.1 h7;obtain⟨fpK,hsub,hk⟩:=CB.yL m rs ji fp1 h5 n1
 refine⟨fun b=>S' b\/(b∈fp1/\b∉fpK),ji,fpK,fp2,h1,⟨fun b hb=>.inl (h2.sub b hb),h2.dw⟩,fun b hb=>?_,fun b hb=>?_,hk _ (fun b hb=>.inl hb) (fun b hb hb2=>.inr ⟨hb,hb2⟩),
  KJ.wE (fun b hb=>.inl hb) h6,?_,fun b hb=>?_,h9⟩
 .rcases hb with hb|hb
  .exact h3 b hb
  .exact .inr (h8 b (aE _ hb.1)).2
 .rcases hb with hb|hb
  .exact h4 b hb
  .exact CB.lt h5 b hb.1
 .exact (cT.append hsub (bS fp2)).nodup h7
 .rcases ak.1 hb with hb|hb
  .exact ⟨fun h=>h.elim (h8 b (aE _ (hsub.subset hb))).1 fun h=>h.2 hb,(h8 b (aE _ (hsub.subset hb))).2⟩
  .exact ⟨fun h=>h.elim (h8 b (aC _ hb)).1 fun h=>n3 b h.1 b hb rfl,(h8 b (aC _ hb)).2⟩
def KL(ji:List RV)(m:List Bool)(len:Nat)(rs:List R)(outs:List T):qo->St->Prop
 |.exit _,_=>False
 |.normal,s=>wk (fun s=>s.gh.length=len/\∃rs0,uF ji s rs0 outs/\rN m rs0=rs) s
 |.ret,s=>wk (fun s=>s.gh.length=len/\∃rs0,uF ji s rs0 outs/\rN m rs0=rs) s
def nf(as:List A):St:=⟨(enter as 0 0).1,(enter as 0 0).2.1,(enter as 0 0).2.2.1,(enter as 0 0).2.2.2⟩
def Sn(P:Program)(F:Fn)(m:List Bool)(as:List A)(rs:List R)(outs:List T):Prop:=as.length=F.np/\W P F.body (nf as) (KL F.ji m (nf as).gh.length rs outs)
def So(s:St)(Q:St->Prop):Prop:=∀(S K:Nat->Prop)(w0:World)(Kn:Nat->Prop)(φ:Nat->fE)(gv:List Value)(nt:Nat)(a:Act)(w:World),Eu S K w0 Kn φ gv nt s a w->∃s1,Q s1/\Eu S K w0 Kn φ gv nt s1 a w
theorem JG(hm:P.follows .mixedOrders=true){f np:Nat}{F:Fn}(hF:xe P da f np=some F){as:List A}{rs:List R}{outs:List T}
  {m:List Bool} (h:as.length=F.np/\So (nf as) fun s=>W P F.body s (KL F.ji m (nf as).gh.length rs outs)):qV P f as rs outs:=by
 unfold xe at hF;split at hF
 .simp at hF
 rename_i g hg;split at hF
 .simp at hF
 rename_i code hb;split at hF
 case isFalse=>simp at hF
 rename_i hc;obtain⟨hname,hnp,hnt⟩:=hc;split at hF
 case h_2=>simp at hF
 rename_i ji hrv;obtain rfl:=aa hF;obtain⟨hlen,h⟩:=h;simp only at hlen h;intro S w vs fp hlt hargs hnd hfp hglob;left;refine⟨f,vs.toArray,?_,?_⟩
 .simp [callFunc,run_program,hg,hb];intro e;rw[e]at hname;simp at hname
 refine calls_of_wp hg hb ?_;have hI0:Inv S (fun b=>b<w.heap.size/\b∉fp/\¬S b) w (fun _=>False) (fun _=>default) (av []) w:=by refine⟨hlt,fun b hb h=>h.2.2 hb,⟨fun b hb=>hb.1,fun _ _=>rfl,ao _,fun _ _=>rfl,fun b aJ ho=>⟨aJ,ho,rfl⟩,Io.refl _⟩,fun id o ho=>by simp[av,bX]at ho,fun i j a b ha=>by simp[av,bX]at ha,hglob,fun i sz sl k x hi=>by simp[av,bX]at hi⟩
 obtain⟨φ,hL,q1,q2,q3,q4⟩:=B7 as (S:=S) (K:=fun b=>b<w.heap.size/\b∉fp/\¬S b) (w0:=w) (w:=w) (Kn:=fun _=>False) (φ:=fun _=>default) (hf:=av []) vs fp 0 0 hI0 (fun _ _ h=>h) hargs hnd
  (fun b hb=>⟨hfp b hb,fun h=>h.2.1 hb⟩) (fun j o ho=>by simp[av,bX]at ho)
 unfold nf at h;generalize hen:enter as 0 0=en at h hL q1 q2 q3;obtain⟨e,hp,n,lent⟩:=en;simp only at h hL q1 q2 q3
 have hRel:Eu S (fun b=>b<w.heap.size/\b∉fp/\¬S b) w (mE (fun _=>False) 0 n) φ (lp as vs) g.ntmps ⟨e,hp,n,lent⟩
   {tmps:=vs.toArray++Array.replicate (g.ntmps-vs.toArray.size) undef,defers:=[]} w:=by
  refine⟨?_,fun t x hx=>?_,?_,rfl,fun j hj hk=>?_,fun i c v h1 h2=>.inr (q2 i c v h1 h2)⟩
  .have:av hp=bg hp (av []):=by rw[<-fF,List.append_nil]
   rw[this];exact hL.inv
  .obtain ⟨_,v,hv,hr⟩:=q1 t x hx;have hv':vs[t]?=some v:=by simpa using hv
   have:(vs.toArray++Array.replicate (g.ntmps-vs.toArray.size) undef).getD t undef=v:=by have ht:t<vs.length:=(ai.1 hv').1;rw[bp,Array.getElem?_append_left (by simpa using ht)];simp[hv']
   simp only[this];exact hr
  .simp;omega
  .rcases hk with hk|hk
   .exact hk
   .have:n<=j:=hj;omega
 obtain⟨s1,h,hRel⟩:=h _ _ _ _ _ _ _ _ _ hRel;refine wp_mono (Ea hnt hm code s1 _ S _ φ _ w h hRel) fun ex a' w' hp=>?_;obtain⟨o,s',hl,rfl,S',Kn',φ',hs,hR⟩:=hp
 have main:∀(s':St)(rs:List R)(S' Kn':Nat->Prop)(φ':Nat->fE),fw S w S' w'->Eu S' (fun b=>b<w.heap.size/\b∉fp/\¬S b) w Kn' φ' (lp as vs) g.ntmps s' a' w'->s'.gh.length=lent.length->uF ji s' rs outs->
   a'.defers=[]/\∃v,(results g a'.tmps).run P w'=.ok v w'/\∃v',Ending.returned v=Ending.returned v'/\Left S w fp rs outs (lp as vs) v' w':=by
  intro s' rs S' Kn' φ' hs hR hgl hlv;obtain⟨tvs,oa,ob,htv,hpr,hpc,hnod⟩:=hlv;obtain⟨rv,p1,p2,p3⟩:=xQ hR.inv hR.db _ _ _ hrv htv;obtain⟨r1,r2⟩:=zF hR.inv tvs rv rs oa hpr p2 p3;obtain⟨t1,t2⟩:=Bi hR.inv hpc (lp as vs) (hgl.trans q3) hR.gh
  have hown:∀i∈oa++ob,∃o,av s'.heap i=some o/\cq o=true:=by
   intro i hi;rcases ak.1 hi with hi|hi
   .exact r2 i hi
   .exact t2 i hi
  have hfrm:=hR.inv.lG;refine⟨hR.defers,_,A0 p1,_,rfl,S',rv,_,_,rfl,hs,fun b hb=>?_,hR.inv.qZ,r1,t1,?_,?_,?_⟩
  .by_cases h1:b<w.heap.size
   .by_cases h2:b∈fp
    .exact .inr (.inl h2)
    .by_cases h3:S b
     .exact .inl h3
     .exact absurd ⟨h1,h2,h3⟩ (hR.inv.sk b hb)
   .exact .inr (.inr (by omega))
  .rw [<-gB];exact za hR.inv hnod hown
  .rw [<-gB];intro b hb;obtain⟨i,hi,hb⟩:=List.mem_flatMap.1 hb;obtain⟨oi,hoi,hoo⟩:=hown i hi;obtain⟨k1,k2,k3⟩:=mD hR.inv hoi hoo hb;refine⟨k1,?_⟩;by_cases h1:b<w.heap.size
   .by_cases h2:b∈fp
    .exact .inl h2
    .by_cases h3:S b
     .exact absurd (hs.sub _ h3) k1
     .exact absurd ⟨h1,h2,h3⟩ k2
   .exact .inr (by omega)
  .refine ⟨fun b hb=>hb.1,fun b hb=>?_,hfrm.grow,hfrm.yL,hfrm.bn,hfrm.io⟩;by_cases h3:S b
   .exact hs.dw b h3
   .exact hfrm.lr b ⟨hb.1,hb.2,h3⟩
 have fin:wk (fun s=>s.gh.length=lent.length/\∃rs0,uF ji s rs0 outs/\rN m rs0=rs) s'->
   a'.defers=[]/\∃v,(results g a'.tmps).run P w'=.ok v w'/\∃v',Ending.returned v=Ending.returned v'/\Left S w fp rs outs (lp as vs) v' w':=by
  rintro⟨s1,hsub,hgl,rs0,hlv,rfl⟩;obtain⟨S1,Kn1,φ1,hs1,hR1⟩:=hsub S' _ w Kn' φ' _ _ a' w' hR;obtain⟨q1,v,q2,v',q3,q4⟩:=main s1 rs0 S1 Kn1 φ1 (hs.trans hs1) hR1 hgl hlv;exact⟨q1,v,q2,v',q3,q4.yL m⟩
 cases o with|exit id=>exact hl.elim|normal=>exact fin hl|ret=>exact fin hl
theorem L8(hm:P.follows .mixedOrders=true){f np:Nat}{F:Fn}(hF:xe P da f np=some F){as:List A}{rs:List R}{outs:List T}
  {m:List Bool} (h:Sn P F m as rs outs):qV P f as rs outs:=
 JG hm hF ⟨h.1,fun _ _ _ _ _ _ _ _ _ hR=>⟨_,h.2,hR⟩⟩
end
section
variable{P:Program}{s s':St}{e:iE}{h:bz}{n:Nat}{gh:List C}
theorem Sub.heap{h':bz}{n':Nat}(hh:∀id,av h' id=av h id\/av h' id=none)(hn:n<=n'):Sub ⟨e,h,n,gh⟩ ⟨e,h',n',gh⟩:=by intro S K w0 Kn φ gv nt a w hR;exact⟨S,Kn,φ,fw.refl S w,hR.inv.j5 fun id o ho=>(hh id).elim (fun q=>q▸ho) fun q=>by rw[q]at ho;simp at ho,hR.db,hR.size,hR.defers,fun j hj=>hR.fG j (Nat.le_trans hn hj),hR.gh⟩
theorem CU{id id2 sz sz2 cC:Nat}{slots:List jf}{aj:List (List D)}(ho:av h id=some (.nst sz slots))(hs:slots[cC]?=some (.jZ id2 aj.length))(h2:av h id2=some (.aJ sz2 aj)):
  Sub ⟨e,h,n,gh⟩ ⟨e,(id,some (.nst sz (slots.set cC (.bn aj))))::(id2,none)::h,n,gh⟩:=by
 intro S K w0 Kn φ gv nt a w hR;have e1:av ((id,some (.nst sz (slots.set cC (.bn aj))))::(id2,none)::h)=bg [(id,some (.nst sz (slots.set cC (.bn aj)))),(id2,none)] (av h):=fF [(id,some (.nst sz (slots.set cC (.bn aj)))),(id2,none)] h;exact⟨S,Kn,φ,fw.refl S w,e1▸hR.inv.KD ho hs h2,hR.db,hR.size,hR.defers,hR.fG,hR.gh⟩
theorem Lc{t id sz szo off len:Nat}{aj rows':List (List D)}(ht:bX e t=some (.c (.dz sz id off len)))(ho:av h id=some (.aJ szo aj))(hr:(aj.drop off).take len=rows')(hle:off+len<=aj.length):
  Sub ⟨e,h,n,gh⟩ ⟨(t,.c (.dz sz n 0 len))::e,(id,none)::(n,some (.aJ sz rows'))::h,n+1,gh⟩:=by
 intro S K w0 Kn φ gv nt a w hR;have hn:¬Kn n:=hR.fG n (ao _);have hI:=hR.inv;obtain⟨hk0,h0⟩:=hI.gg _ _ ho;have hne:id≠n:=fun e=>hn (e▸hk0);have hv:=hR.db t _ ht;generalize hval:a.tmps.getD t undef=val at hv;cases hv with
 |c hv=>
 have hkill:Inv S K w0 Kn φ (bg [(id,none)] (av h)) w:=hI.j5 fun i o ho=>by
  rw[bC]at ho;split at ho
  .simp at ho
  .exact ho
 have hfree:∀i o,bg [(id,none)] (av h) i=some o->cq o=true->(φ id).bA∉fX w φ (bg [(id,none)] (av h)) i:=by
  intro i o hi hown hm;have hi':=hi;rw[bC]at hi';split at hi'
  .simp at hi'
  .rename_i hne2;rw[ff rfl (hi.trans hi'.symm)]at hm;exact kN hI hi' ho hown rfl (fun e=>hne2 e.symm) hm (iZ id)
 generalize hphi:φ id=l at*;cases h0 with
 |@aJ _ _ aJ hsz0 hl hS hK hown hext hfit hrr hvis=>
 obtain⟨cap,addr,rfl,hszl,hk,hcap,haddr,hextc,hcl⟩:=hv.gE;rw[hphi]at haddr hextc hszl hcl;obtain rfl:sz=szo:=by rw[<-hl,hszl]
 rw[hl]at haddr hextc;subst hr;have hlen:((aj.drop off).take len).length=len:=by simp;omega
 have hcm:len*sz<=cap*sz:=Nat.mul_le_mul_right _ hcap;have hR2:cD S w sz (fun i=>aJ[i]?) addr ((aj.drop off).take len):=hrr.u6 off len fun h=>haddr (by omega)
 have hname:=hkill.name hn ⟨l.bA,addr,sz,l.ext,cap⟩ (.aJ sz ((aj.drop off).take len)) (fun _ j b hj hb hm=>hfree j b hj hb hm)
  (.aJ hsz0 rfl hS hK hown hext (by rw[hlen];simp only;omega) hR2 (by rw[hlen];exact hcap))
 have hren:Ren Kn φ (fun j=>Kn j\/j=n) (ext φ n ⟨l.bA,addr,sz,l.ext,cap⟩):=fW _ hn;refine⟨S,fun j=>Kn j\/j=n,ext φ n ⟨l.bA,addr,sz,l.ext,cap⟩,fw.refl S w,⟨?_,?_,hR.size,hR.defers,?_,?_⟩⟩
 .have:av ((id,none)::(n,some (.aJ sz ((aj.drop off).take len)))::h)=bg [(n,some (.aJ sz ((aj.drop off).take len)))] (bg [(id,none)] (av h)):=by have e1:av ((id,none)::(n,some (Ob.aJ sz ((aj.drop off).take len)))::h)=bg ([(id,none)]++[(n,some (.aJ sz ((aj.drop off).take len)))]) (av h):=fF [(id,none),(n,some (.aJ sz ((aj.drop off).take len)))] h;rw[e1,<-dO];exact kQ (u:=[(id,none)]) fun p hp q hq=>by obtain rfl:=am.1 hp;obtain rfl:=am.1 hq;exact hne
  rw[this];exact hname
 .intro t' x hx;simp only[bX]at hx;by_cases et:t=t'
  .subst et;simp at hx;subst hx;rw[hval];have e:ext φ n ⟨l.bA,addr,sz,l.ext,cap⟩ n=⟨l.bA,addr,sz,l.ext,cap⟩:=by simp[ext]
   have:=RC.dz (S:=S) (w:=w) (Kn:=fun j=>Kn j\/j=n) (φ:=ext φ n ⟨l.bA,addr,sz,l.ext,cap⟩) (id:=n) (off:=0) (len:=len) (cap:=cap) (addr:=addr)
    (.inr rfl) hcap (by rw[e];simp) (by rw[e];exact hextc) (by rw[e];simp)
   rw[e]at this;rw[hphi];exact .c this
  .have e':(t==t')=false:=by simpa using et
   rw[e',cond_false]at hx;exact(hR.db t' x hx).mono (fw.refl _ _) hren
 .intro j hj hk;simp only at hj;rcases hk with hk|hk
  .exact hR.fG j (by simp only;omega) hk
  .omega
 .intro i c v hc hv;exact(hR.gh i c v hc hv).mono (fw.refl _ _) hren
theorem wk.sub{Q:St->Prop}(hs:Sub s s')(h:wk Q s'):wk Q s:=let⟨s1,h1,h2⟩:=h;⟨s1,hs.trans h1,h2⟩
theorem wk.mono{Q Q':St->Prop}(h:wk Q s)(hq:∀s,Q s->Q' s):wk Q' s:=let⟨s1,h1,h2⟩:=h;⟨s1,h1,hq _ h2⟩
theorem WO.mono{Q Q':St->Prop}(hq:∀s,Q s->Q' s):∀{ops:List mj}{s:St},WO P ops s Q->WO P ops s Q':=by
 intro ops;induction ops with
 |nil=>intro s h;exact wk.mono h hq
 |cons o r ih=>
  intro s h;obtain⟨s1,h1,h⟩:=h;refine⟨s1,h1,?_⟩;rcases h with⟨hw,call,v,u,aw,n,hok,hev,h⟩|⟨hw,h⟩
  .exact .inl ⟨hw,call,v,u,aw,n,hok,hev,ih h⟩
  .exact .inr ⟨hw,ih h⟩
theorem WO.sub{Q:St->Prop}{ops:List mj}(hs:Sub s s')(h:WO P ops s' Q):WO P ops s Q:=by cases ops with|nil=>exact wk.sub hs h|cons o r=>obtain⟨s1,h1,h⟩:=h;exact⟨s1,hs.trans h1,h⟩
theorem rT.mono{R R':St->Prop}{Q Q':qo->St->Prop}(hr:∀s,R s->R' s)(hq:∀o s,Q o s->Q' o s):∀o s,rT R Q o s->rT R' Q' o s:=by intro o s h;cases o with|normal=>exact hr _ h|exit id=>exact hq _ _ h|ret=>exact hq _ _ h
theorem tJ.mono{id:Nat}{Q Q':qo->St->Prop}(hq:∀o s,Q o s->Q' o s):∀o s,tJ id Q o s->tJ id Q' o s:=by
 intro o s h;cases o with
 |normal=>exact hq _ _ h
 |ret=>exact hq _ _ h
 |exit id'=>
  simp only[tJ]at h|-;split at h
  .rw [if_pos (by assumption)];exact hq _ _ h
  .rw [if_neg (by assumption)];exact hq _ _ h
theorem W.mono:∀{c:CC}{s:St}{Q Q':qo->St->Prop},(∀o s,Q o s->Q' o s)->W P c s Q->W P c s Q':=by intro c;induction c with|seq a b iha ihb=>intro s Q Q' hq h;exact iha (rT.mono (fun s h=>ihb hq h) hq) h|cond c a b iha ihb=>intro s Q Q' hq h;obtain⟨s1,h0,t,h1,h2,h3⟩:=h;exact⟨s1,h0,t,h1,fun ht=>iha hq (h2 ht),fun ht=>ihb hq (h3 ht)⟩|block id a ih=>intro s Q Q' hq h;exact ih (tJ.mono hq) h|loop lr a ih=>intro s Q Q' hq h;obtain⟨I,n,h1,h2⟩:=h;exact⟨I,n,h1,fun n s hi=>ih (rT.mono (fun s h=>h) hq) (h2 n s hi)⟩|skip=>intro s Q Q' hq h;exact wk.mono h fun s h=>hq _ _ h|exit id=>intro s Q Q' hq h;exact wk.mono h fun s h=>hq _ _ h|ret=>intro s Q Q' hq h;exact wk.mono h fun s h=>hq _ _ h|region ops lr=>intro s Q Q' hq h;exact WO.mono (fun s h=>h.mono fun s h=>hq _ _ h) h|drawn ops dyn lr=>intro s Q Q' hq h;obtain⟨s1,h0,calls,e,hh,tr,h1,h2,h3,h4⟩:=h;exact⟨s1,h0,calls,e,hh,tr,h1,h2,h3,h4.mono fun s h=>hq _ _ h⟩|fr=>intro s Q Q' hq h;exact h
theorem W.sub:∀{c:CC}{s s':St}{Q:qo->St->Prop},Sub s s'->W P c s' Q->W P c s Q:=by intro c;induction c with|seq a b iha ihb=>intro s s' Q hs h;exact iha hs h|cond c a b iha ihb=>intro s s' Q hs h;obtain⟨s1,h0,h1⟩:=h;exact⟨s1,hs.trans h0,h1⟩|block id a ih=>intro s s' Q hs h;exact ih hs h|loop lr a ih=>intro s s' Q hs h;obtain⟨I,n,h1,h2⟩:=h;exact⟨I,n,wk.sub hs h1,h2⟩|skip=>intro s s' Q hs h;exact wk.sub hs h|exit id=>intro s s' Q hs h;exact wk.sub hs h|ret=>intro s s' Q hs h;exact wk.sub hs h|region ops lr=>intro s s' Q hs h;exact WO.sub hs h|drawn ops dyn lr=>intro s s' Q hs h;obtain⟨s1,h0,h1⟩:=h;exact⟨s1,hs.trans h0,h1⟩|fr=>intro s s' Q hs h;exact h
section
variable{Q:qo->St->Prop}
theorem ML{a b:CC}(h:W P a s (rT (fun s'=>W P b s' Q) Q)):W P (.seq a b) s Q:=h
theorem K1{id:Nat}{a:CC}(h:W P a s (tJ id Q)):W P (.block id a) s Q:=h
theorem Nm{c:Operand}{a b:CC}{t:Bool}(hc:jq s.db c=some (.c (.d (.lit (.bool t)))))(h1:t=true->W P a s Q)(h2:t=false->W P b s Q):W P (.cond c a b) s Q:=⟨s,Sub.refl s,t,hc,h1,h2⟩
theorem HG{ops:List mj}{lr:List Nat}(h:WO P ops s fun s'=>wk (Q .normal) s'):W P (.region ops lr) s Q:=h
end
def jo{α β:Type}(f:α->Option (α⊕β)):Nat->α->Option β
 |0,_=>none
 |n+1,a=>match f a with|some (.inl a')=>jo f n a'|some (.inr b)=>some b|none=>none
theorem uN{α β:Type}{f:α->Option (α⊕β)}:∀{n m:Nat}{a:α}{b:β},n<=m->jo f n a=some b->jo f m a=some b:=by
 intro n;induction n with
 |zero=>intro m a b _ h;simp[jo]at h
 |succ n ih=>
  intro m a b hm h;cases m with
  |zero=>omega
  |succ m=>
   simp only[jo]at h|-;split at h
   .exact ih (by omega) h
   .exact h
   .simp at h
open Classical in
def bL{α β:Type}(f:α->Option (α⊕β))(a:α):Option β:=if h:∃n b,jo f n a=some b then some (fo (cQ h))else none
theorem m6{α β:Type}{f:α->Option (α⊕β)}{a:α}{b:β}:bL f a=some b<->∃n,jo f n a=some b:=by
 constructor
 .intro h;unfold bL at h;split at h
  .rename_i hx;refine⟨fo hx,?_⟩;rw[cQ (cQ hx)];exact h
  .simp at h
 .rintro ⟨n,hn⟩;have hx:∃n b,jo f n a=some b:=⟨n,b,hn⟩
  unfold bL;rw[dif_pos hx];have h2:=cQ (cQ hx);have h3:=uN (Nat.le_max_left n (fo hx)) hn;have h4:=uN (Nat.le_max_right n (fo hx)) h2;rw[h3]at h4;rw[<-h4]
theorem BF{α β:Type}(f:α->Option (α⊕β))(a:α):bL f a=match f a with
  |some (.inl a')=>bL f a'
  |some (.inr b)=>some b
  |none=>none:=by
 apply Option.ext;intro b;rw[m6];constructor
 .rintro ⟨n,hn⟩;cases n with
  |zero=>simp[jo]at hn
  |succ n=>
   simp only[jo]at hn;split at hn
   .exact m6.2 ⟨n,hn⟩
   .exact hn
   .simp at hn
 .intro h;split at h
  .rename_i a' ha;obtain⟨n,hn⟩:=m6.1 h;exact⟨n+1,by simp only[jo,ha];exact hn⟩
  .rename_i b' ha;exact⟨1,by simp only[jo,ha];exact h⟩
  .simp at h
theorem dV{α β:Type}{f:α->Option (α⊕β)}{a a':α}(h:f a=some (.inl a')):bL f a=bL f a':=by rw[BF,h]
theorem cS{α β:Type}{f:α->Option (α⊕β)}{a:α}{b:β}(h:f a=some (.inr b)):bL f a=some b:=by rw[BF,h]
def oN:Ev.Call:=fun _ _=>none
theorem pd:lE P oN:=fun _ _ _ _ h=>by simp[oN]at h
section
variable{Q:St->Prop}{r:List mj}{d:Nat}{k:K}{args:List Operand}{v:TV}{u:eG}{aw:List Nat}{m g:Nat}{b c:Bool}
def JH:Option TV->Option (FuncId×List C)
 |some (.c (.d (.fn f caps)))=>some (f,caps.map C.d)
 |some (.c (.mP f caps))=>some (f,caps)
 |_=>none
def callee(h:bz)(iR:List Bool):List (Option TV)->Option (FuncId×List A)
 |f::vs=>
  match JH f,dX vs with
  |some (f,caps),some vs=>match fy h (vs++caps.map TV.c) iR with|some (as,_,_)=>some (f,as)|none=>none
  |_,_=>none
 |[]=>none
def sv(h:bz)(nxt:Nat)(ro:Bool)(aw:List Nat)(lent:List (C×List Nat×List Nat)):Option (List R×List T)->Ax
 |none=>none
 |some (rs,outs)=>
  if ro then
   if rs.all uh/\outs.all Dp then
    match dv nxt lent outs with|none=>none|some (bu,m)=>some (qA (fV m rs).1,(fV m rs).2.1++bu,aw++lent.flatMap (·.2.2),(fV m rs).2.2)
   else none
  else
   match de h aw aw with
   |none=>none
   |some fu=>match dv nxt lent outs with|none=>none|some (bu,m)=>some (qA (fV m rs).1,(fV m rs).2.1++bu++fu,aw++lent.flatMap (·.2.2),(fV m rs).2.2)
theorem yQ(call:Ev.Call)(ro:Bool)(iR:List Bool)(fv:Option TV)(vs:List (Option TV))(h:bz)(nxt:Nat):
  sx call ro iR fv vs h nxt=match JH fv,dX vs with
   |some (f,caps),some vs=>match fy h (vs++caps.map TV.c) iR with|none=>none|some (as,aw,lent)=>if dU h lent/\(lent.flatMap (fun(p:C×List Nat×List Nat)=>p.2.1)).Nodup/\(lent.flatMap (fun(p:C×List Nat×List Nat)=>p.2.1)).all (fun i=>!aw.contains i)then sv h nxt ro aw lent (call f as)else none
   |_,_=>none:=by
 have e1:∀(o:Option (List R×List T))(aw:List Nat)(lent:List (C×List Nat×List Nat)),(match o with
    |none=>none
    |some (rs,outs)=>
     if ro then
      if rs.all uh/\outs.all Dp then
       match dv nxt lent outs with
       |none=>none
       |some (bu,m)=>
        let(vs,u,k):=fV m rs
        some (qA vs,u++bu,aw++lent.flatMap (fun(p:C×List Nat×List Nat)=>p.2.2),k)
      else none
     else
      match de h aw aw with
      |none=>none
      |some fu=>
       match dv nxt lent outs with
       |none=>none
       |some (bu,m)=>
        let(vs,u,k):=fV m rs
        some (qA vs,u++bu++fu,aw++lent.flatMap (fun(p:C×List Nat×List Nat)=>p.2.2),k))=sv h nxt ro aw lent o:=by
  intro o aw lent;cases o with|none=>rfl|some p=>rfl
 have e2:(match fv with|some (.c (.d (.fn f caps)))=>some (f,caps.map C.d)|some (.c (.mP f caps))=>some (f,caps)|_=>none)=JH fv:=rfl
 show(match(match fv with|some (.c (.d (.fn f caps)))=>some (f,caps.map C.d)|some (.c (.mP f caps))=>some (f,caps)|_=>none),dX vs with
   |some (f,caps),some vs=>
    match fy h (vs++caps.map TV.c) iR with
    |none=>none
    |some (as,aw,lent)=>
     if dU h lent/\(lent.flatMap (fun(p:C×List Nat×List Nat)=>p.2.1)).Nodup/\(lent.flatMap (fun(p:C×List Nat×List Nat)=>p.2.1)).all (fun i=>!aw.contains i)then
      (match call f as with
    |none=>none
    |some (rs,outs)=>
     if ro then
      if rs.all uh/\outs.all Dp then
       match dv nxt lent outs with
       |none=>none
       |some (bu,m)=>
        let(vs,u,k):=fV m rs
        some (qA vs,u++bu,aw++lent.flatMap (fun(p:C×List Nat×List Nat)=>p.2.2),k)
      else none
     else
      match de h aw aw with
      |none=>none
      |some fu=>
       match dv nxt lent outs with
       |none=>none
       |some (bu,m)=>
        let(vs,u,k):=fV m rs
        some (qA vs,u++bu++fu,aw++lent.flatMap (fun(p:C×List Nat×List Nat)=>p.2.2),k))else none
   |_,_=>none)=_
 simp only[e1,e2]
open Classical in
def only(f:FuncId)(as:List A)(rs:List R)(outs:List T):Ev.Call:=fun f' as'=>if f'=f/\as'=as then some (rs,outs)else none
theorem EW{f:FuncId}{as:List A}{rs:List R}{outs:List T}(hg:qV P f as rs outs):lE P (only f as rs outs):=by
 intro f' as' rs' outs' h;unfold only at h;split at h
 .rename_i he;obtain⟨rfl,rfl⟩:=he;obtain⟨rfl,rfl⟩:=ad (aa h);exact hg
 .simp at h
theorem y9{f:FuncId}{as:List A}{rs:List R}{outs:List T}{ro:Bool}{iR:List Bool}{vs:List (Option TV)}{x:TV×eG×List Nat×Nat}
  (h2:callee h iR vs=some (f,as)) (h1:cm (fun _ _=>some (rs,outs)) (.call ro iR) vs h n=some x):cm (only f as rs outs) (.call ro iR) vs h n=some x:=by
 cases vs with
 |nil=>simp[callee]at h2
 |cons fv vs=>
  simp only[callee]at h2;simp only[cm,yQ]at h1|-;split at h2
  .rename_i f' caps vs' hf hvs;simp only[hf,hvs]at h1|-;split at h2
   .rename_i as' aw lent hargs;obtain⟨rfl,rfl⟩:=ad (aa h2);rw[hargs]at h1|-;simp only[only,and_self,if_true]at h1|-;exact h1
   .simp at h2
  .simp at h2
theorem Fv{fv:Option TV}{ovs:List (Option TV)}{vs:List TV}{f:FuncId}{caps:List C}{as:List A}{aw:List Nat}{lent:List (C×List Nat×List Nat)}{ro:Bool}{iR:List Bool}{rs:List R}{outs:List T}{x:TV×eG×List Nat×Nat}
  (hf:JH fv=some (f,caps)) (hv:dX ovs=some vs) (ha:fy h (vs++caps.map TV.c) iR=some (as,aw,lent)) (hw:dU h lent=true)
  (hn:decide ((lent.flatMap (fun(p:C×List Nat×List Nat)=>p.2.1)).Nodup/\(lent.flatMap (fun(p:C×List Nat×List Nat)=>p.2.1)).all (fun i=>!aw.contains i)=true)=true)
  (hl:sv h n ro aw lent (some (rs,outs))=some x):
  callee h iR (fv::ovs)=some (f,as)/\cm (fun _ _=>some (rs,outs)) (.call ro iR) (fv::ovs) h n=some x:=by
 have hn':=of_decide_eq_true hn;constructor
 .simp only[callee,hf,hv,ha]
 .simp only[cm,yQ,hf,hv,ha];rw[if_pos ⟨hw,hn'⟩];exact hl
theorem Rt{aw:List Nat}{lent:List (C×List Nat×List Nat)}{rs:List R}{outs:List T}{fu bu:eG}{m:Nat}(hz:de h aw aw=some fu)(hb:dv n lent outs=some (bu,m)):
  sv h n false aw lent (some (rs,outs))=some (qA (fV m rs).1,(fV m rs).2.1++bu++fu,aw++lent.flatMap (·.2.2),(fV m rs).2.2):=by
 simp only[sv,hz,hb,aN,if_false]
theorem LZ{aw:List Nat}{lent:List (C×List Nat×List Nat)}{rs:List R}{outs:List T}{bu:eG}{m:Nat}(h1:rs.all uh=true)(h2:outs.all Dp=true)(hb:dv n lent outs=some (bu,m)):
  sv h n true aw lent (some (rs,outs))=some (qA (fV m rs).1,(fV m rs).2.1++bu,aw++lent.flatMap (·.2.2),(fV m rs).2.2):=by
 simp only[sv,h1,h2,hb,and_self,if_true]
theorem Mt{sz id len k:Nat}{aj:List (List D)}{rd:List Nat}{r:List (C×List Nat×List Nat)}{ts:List T}{w:eG}(hl:aj.length=len)(hr:dv n r ts=some (w,k)):
  dv n ((.dz sz id 0 len,[id],rd)::r) (.sl sz aj::ts)=some ((id,some (.aJ sz aj))::w,k):=by
 simp only[dv,hl,hr,and_self,if_true]
theorem Ms{id k:Nat}{bn rd:List Nat}{r:List (C×List Nat×List Nat)}{ts' ts:List T}{w:eG}(hc:bn.contains id=true)(hr:dv (gC n ts').2.2 r ts=some (w,k)):
  dv n ((.op id 0,bn,rd)::r) (.pt ts'::ts)=some ((id,some (.box (gC n ts').1))::(gC n ts').2.1++bn.map (fun i=>(i,none))++w,k):=by
 simp only[dv,hr,hc,if_true]
theorem Hr{c:C}{bn rd:List Nat}{k:Nat}{r:List (C×List Nat×List Nat)}{ts:List T}{w:eG}(hr:dv n r ts=some (w,k)):dv n ((c,bn,rd)::r) (.rD::ts)=some (bn.map (fun i=>(i,none))++w,k):=by simp[dv,hr]
theorem RH{c:C}{vs:List TV}{ms:List Bool}{as:List A}{aw i:List Nat}{lent:List (C×List Nat×List Nat)}{x:D}(hv:dE h 300 c=some (x,i))(hm:ms.headD false=false)(hr:fy h vs ms.tail=some (as,aw,lent)):
  fy h (.c c::vs) ms=some (.d x::as,i++aw,lent):=by simp only[fy,hr,hm,hv,aN,if_false]
theorem Ox{cs:List C}{vs:List TV}{ms:List Bool}{as:List A}{aw i:List Nat}{lent:List (C×List Nat×List Nat)}{xs:List D}(hv:du h cs=some (xs,i))(hm:ms.headD false=false)(hr:fy h vs ms.tail=some (as,aw,lent)):
  fy h (.agg cs::vs) ms=some (.agg xs::as,i++aw,lent):=by simp only[fy,hr,hm,hv,aN,if_false]
theorem PR{c:C}{vs:List TV}{ms:List Bool}{as:List A}{aw bn rd:List Nat}{lent:List (C×List Nat×List Nat)}{t:T}(hv:dZ h 300 c=some (t,bn,rd))(hm:ms.headD false=true)(hr:fy h vs ms.tail=some (as,aw,lent)):
  fy h (.c c::vs) ms=some (.mt t::as,aw,(c,bn,rd)::lent):=by simp only[fy,hr,hm,hv,if_true]
end
abbrev Tr:=List (List Nat×List Nat)
abbrev Pd:=iE×bz×Tr
def KB(e:iE)(d:Option Nat)(h:bz)(tr:Tr)(top:Nat)(r:Ax):Option Pd:=match r with|some (v,u,aw,m)=>if m<=top then some (put e d v,u++h,tr++[(aw,u.map (·.1))])else none|none=>none
def AQ(call:Ev.Call)(aL i:Nat)(o:mj)(s:Pd):Option Pd:=match ja s.1 o.guard with|some true=>KB s.1 o.dst s.2.1 s.2.2 (aL+gO*(i+1)) (cm call o.k (o.args.map (jq s.1)) s.2.1 (aL+gO*i))|some false=>some (drop s.1 o.dst,s.2.1,s.2.2++[([],[])])|none=>none
def z_(calls:Nat->Ev.Call)(aL:Nat):List mj->Nat->Pd->Option Pd
 |[],_,s=>some s
 |o::r,i,s=>(AQ (calls i) aL i o s).bind (z_ calls aL r (i+1))
theorem Mc{calls:Nat->Ev.Call}{aL:Nat}:∀(l:List mj)(i:Nat)(e:iE)(h:bz)(tr:Tr)(e':iE)(h':bz)(tr':Tr),z_ calls aL l i (e,h,tr)=some (e',h',tr')->
  ∃t,lC calls aL l i e h=some (e',h',t)/\tr'=tr++t:=by
 intro l;induction l with
 |nil=>
  intro i e h tr e' h' tr' hh;obtain⟨rfl,rfl,rfl⟩:e=e'/\h=h'/\tr=tr':=by simpa[z_]using hh
  exact⟨[],rfl,by simp⟩
 |cons o r ih=>
  intro i e h tr e' h' tr' hh;unfold z_ AQ at hh;unfold lC;cases hw:ja e o.guard with
  |none=>simp[hw]at hh
  |some b=>
   cases b with
   |false=>simp only[hw,ae]at hh;obtain⟨t,h1,h2⟩:=ih _ _ _ _ _ _ _ hh;exact⟨([],[])::t,by simp[h1],by simp[h2]⟩
   |true=>
    simp only[hw]at hh;cases hv:cm (calls i) o.k (o.args.map (jq e)) h (aL+gO*i)with
    |none=>simp[hv,KB]at hh
    |some p=>
     obtain⟨v,u,aw,m⟩:=p;simp only[hv,KB]at hh;by_cases hm:m<=aL+gO*(i+1)
     .rw [if_pos hm,ae]at hh;obtain⟨t,h1,h2⟩:=ih _ _ _ _ _ _ _ hh;exact⟨(aw,u.map (·.1))::t,by simp[hm,h1],by simp[h2]⟩
     .rw [if_neg hm]at hh;simp at hh
theorem D1{calls calls':Nat->Ev.Call}{aL:Nat}:∀(l:List mj)(i:Nat)(s:Pd),(∀j,i<=j->calls j=calls' j)->z_ calls aL l i s=z_ calls' aL l i s:=by intro l;induction l with|nil=>intro i s _;rfl|cons o r ih=>intro i s hc;simp only[z_,hc i (ao _)];congr 1;funext s';exact ih (i+1) s' fun j hj=>hc j (by omega)
def WD(P:Program)(aL:Nat)(ops:List mj)(i:Nat)(e:iE)(h:bz)(tr:Tr)(Q:iE->bz->Tr->Prop):Prop:=∃calls,(∀j,lE P (calls j))/\∃e' h' tr',z_ calls aL ops i (e,h,tr)=some (e',h',tr')/\Q e' h' tr'
theorem KZ{Q:qo->St->Prop}{ops:List mj}{dyn:List (Nat×Nat)}{lr:List Nat}
  (hw:WD P n ops 0 e h [] fun e' h' tr=>yU tr dyn=true/\wk (Q .normal) ⟨e',h',n+gO*ops.length,gh⟩):W P (.drawn ops dyn lr) ⟨e,h,n,gh⟩ Q:=by
 obtain⟨calls,hok,e',h',tr',h1,hd,hq⟩:=hw;obtain⟨t,h4,ht⟩:=Mc _ _ _ _ _ _ _ _ h1;obtain rfl:tr'=t:=by simpa using ht
 exact⟨_,Sub.refl _,calls,e',h',_,hok,h4,hd,hq⟩
section
variable{aL i:Nat}{ops r:List mj}{tr:Tr}{Q:iE->bz->Tr->Prop}{d:Nat}{k:K}{args:List Operand}{v:TV}{u:eG}{aw:List Nat}{m g:Nat}{b c:Bool}
theorem PY(hq:Q e h tr):WD P aL [] i e h tr Q:=⟨fun _=>oN,fun _=>pd,e,h,tr,rfl,hq⟩
theorem J1{call:Ev.Call}{o:mj}{e1:iE}{h1:bz}{tr1:Tr}(hok:lE P call)(hs:AQ call aL i o (e,h,tr)=some (e1,h1,tr1))(hq:WD P aL r (i+1) e1 h1 tr1 Q):WD P aL (o::r) i e h tr Q:=by
 obtain⟨calls,hc,e',h',tr',h2,h3⟩:=hq;refine⟨fun j=>if j=i then call else calls j,fun j=>?_,e',h',tr',?_,h3⟩
 .show lE P (if j=i then call else calls j);split
  .exact hok
  .exact hc j
 .simp only[z_,if_true,hs,ae];rw[D1 (calls':=calls) r (i+1) _ fun j hj=>if_neg (by omega)];exact h2
theorem OX{e:iE}{dd:Option Nat}{top:Nat}(hm:m<=top):KB e dd h tr top (some (v,u,aw,m))=some (put e dd v,u++h,tr++[(aw,u.map (·.1))]):=by simp only[KB];rw[if_pos hm]
theorem Lp:aL+gO*i<=aL+gO*(i+1):=by simp only[gO];omega
end
inductive Fg:bz->bz->Prop
 |nil:Fg [] []
 |cons {p:Nat×Option Ob} {a b:bz} (h:Fg a b):Fg (p::a) (p::b)
 |skip {i:Nat} {a b:bz} (h:Fg a b):Fg a ((i,none)::b)
end
end Go.Ev
