/- A region in any order, against the text's order. Conditions: operations whose names meet are ordered by the text; operations whose objects meet are ordered by the text, or the check at the run says that they do not meet. -/
import Derived.Test.YtingpmogbibghaaEvR
import Derived.Orders
import Derived.Scope
open Array renaming getD->lw,getD_eq_getD_getElem?->br,getElem?_eq_getElem->jY,getElem?_eq_some_iff->bm,getElem?_toList->bf
open Bool renaming and_eq_true->ai,false_eq_true->aO,or_eq_true->dl
open Classical renaming choose->jx,choose_spec->fA
open List renaming Sublist->db,all_eq_true->aT,flatMap_append->ja,getD_eq_getElem?_getD->jL,getElem?_eq_getElem->aB,getElem?_eq_some_iff->ao,getElem?_map->aK,length_cons->cg,length_eq_zero_iff->aQ,map_cons->aD,mem_append->ap,mem_append_left->aA,mem_append_right->aC,mem_cons->aJ,mem_cons_of_mem->av,mem_cons_self->bh,mem_flatten->dO,mem_of_getElem?->aR,mem_singleton->aq,nodup_append->cC
open List.Sublist renaming refl->cf
open Nat renaming add_assoc->cX,add_sub_cancel'->kE,add_zero->cT,le_refl->am,lt_or_ge->fE,mul_le_mul_left->gT,zero_add->bJ
open Option renaming bind_some->ae,map_eq_some_iff->aG
open Option.some renaming inj->aa,injEq->ce
open Prod.mk renaming inj->af,injEq->dh
noncomputable section
namespace Go.Ev
def A3:Ev.K->Nat
 |.mv|.pick|.build _ _|.nilCheck|.AL _|.vH _|.ss _ _|.Ay _ _|.un _|.wN _|.FG _|.ul|.J1 _|.fieldAddr _ _|.field _ _ _
 |.indexAddr _ _|.qG|.index _ _ _|.extract _|.len _|.tg _|.gG=>0
 |.load _ _|.lookup _ _ _ _ _|.slice _ _ _ _=>1
 |_=>2
theorem Mr{call:Call}{k:Ev.K}{vs:List (Option TV)}{H:bD}{nxt n:Nat}{v:TV}{u:fN}{aw:List Nat}(hk:A3 k<=1)(h:cI call k vs H nxt=some (v,u,aw,n)):u=[]:=by
 cases k<;>first
  |(simp[A3]at hk;done)
  |(unfold cI at h
    repeat' split at h
    all_goals first
     |(simp at h;done)
     |(simp only[ce,dh]at h;exact h.2.1.symm)
     |(simp_all;done))
theorem Mq{call:Call}{k:Ev.K}{vs:List (Option TV)}{H:bD}{nxt n:Nat}{v:TV}{u:fN}{aw:List Nat}(hk:A3 k=0)(h:cI call k vs H nxt=some (v,u,aw,n)):aw=[]:=by
 cases k<;>first
  |(simp[A3]at hk;done)
  |(unfold cI at h
    repeat' split at h
    all_goals first
     |(simp at h;done)
     |(simp only[ce,dh]at h;exact h.2.2.1.symm)
     |(simp_all;done))
def qK(acc:List Nat):List Edge->Nat
 |[]=>0
 |e::r=>if Region.binds .any e then(qK acc r)|||2^e.on|||acc.getD e.on 0 else qK acc r
def Nz:List Oper->List Nat->List Nat
 |[],acc=>acc
 |o::r,acc=>Nz r (acc++[qK acc o.after.toList])
def zX(m:List Nat):List Oper->Nat->Bool
 |[],_=>true
 |o::r,i=>m.getD i 0==qK m o.after.toList&&o.after.toList.all (fun e=>!(Region.binds .any e)||decide (e.on<i))&&zX m r (i+1)
def fz(m:List Nat)(i j:Nat):Bool:=(m.getD j 0).testBit i
def VZ:Operand->Option Nat
 |.tmp t=>some t
 |_=>none
def G3(o:pk):List Nat:=o.args.filterMap VZ++(match o.guard with|some (t,_)=>[t]|none=>[])
def J7(d:Option Nat)(l:List Nat):Bool:=match d with|some d=>l.contains d|none=>false
def AD(a b:pk):Bool:=J7 a.dst (G3 b)||J7 b.dst (G3 a)||J7 a.dst b.dst.toList
def v8(m:List Nat)(i:Nat)(a:pk):List pk->Nat->Bool
 |[],_=>true
 |b::r,j=>(fz m i j||!AD a b)&&v8 m i a r (j+1)
def zF(m:List Nat):List pk->Nat->Bool
 |[],_=>true
 |a::r,i=>v8 m i a r (i+1)&&zF m r (i+1)
def Gn:Value->Value->Bool
 |.int k a,.int k' b=>decide (k=k')&&decide (a=b)
 |.bool a,.bool b=>decide (a=b)
 |.string a,.string b=>decide (a.toList=b.toList)
 |.float k a,.float k' b=>decide (k=k')&&decide (a=b)
 |.slice none 0 0,.slice none 0 0|.pointer none,.pointer none|.map none,.map none|.nilFunc,.nilFunc|.nilIface,.nilIface=>true
 |_,_=>false
def BH:List Value->List Value->Bool
 |[],[]=>true
 |x::xs,y::ys=>Gn x y&&BH xs ys
 |_,_=>false
def BB:Ev.K->Ev.K->Bool
 |.lookup ka ks va z false,.mapEntry ka' ks' va' z'=>decide (ka=ka')&&decide (ks=ks')&&decide (va=va')&&BH z z'
 |_,_=>false
def xR(m:List Nat)(i:Nat)(a:pk):List pk->Nat->List (Nat×Nat)
 |[],_=>[]
 |b::r,j=>if fz m i j||A3 b.k==0||A3 b.k+A3 a.k<=2 then xR m i a r (j+1)else(i,if BB a.k b.k then 1000+j else j)::xR m i a r (j+1)
def uk(m:List Nat):List pk->Nat->List (Nat×Nat)
 |[],_=>[]
 |a::r,i=>(if A3 a.k==0 then[]else xR m i a r (i+1))++uk m r (i+1)
def xT(ops:List Oper)(cops:List pk)(nz:List Nat):CC:=
 let m:=Nz ops []
 if zX m ops 0&&zF m cops 0&&decide (cops.length<=1000)then .drawn cops (uk m cops 0) nz else .gG
theorem Bq{acc:List Nat}{j:Nat}:∀{es:List Edge},(qK acc es).testBit j=true->∃e∈es,Region.binds .any e=true/\(e.on=j\/(acc.getD e.on 0).testBit j=true):=by
 intro es;induction es with
 |nil=>intro h;simp[qK]at h
 |cons e r ih=>
  intro h;simp only[qK]at h;split at h
  .rename_i hb;simp only[Nat.testBit_or,dl,Nat.testBit_two_pow,decide_eq_true_eq]at h;rcases h with(h|h)|h
   .obtain ⟨e',he,h'⟩:=ih h;exact⟨e',av _ he,h'⟩
   .exact ⟨e,bh,hb,.inl h⟩
   .exact ⟨e,bh,hb,.inr h⟩
  .obtain ⟨e',he,h'⟩:=ih h;exact⟨e',av _ he,h'⟩
theorem GQ{m:List Nat}:∀{l:List Oper}{i:Nat},zX m l i=true->∀(k:Nat)(o:Oper),l[k]?=some o->
  (∀j,fz m j (i+k)=true->∃e∈o.after,Region.binds .any e=true/\(e.on=j\/fz m j e.on=true))/\∀e∈o.after,Region.binds .any e=true->e.on<i+k:=by
 intro l;induction l with
 |nil=>intro i _ k o hk;simp at hk
 |cons o0 r ih=>
  intro i h k o hk;simp only[zX,ai]at h;obtain⟨⟨h1,h2⟩,h3⟩:=h;cases k with
  |zero=>
   obtain rfl:o0=o:=by simpa using hk
   refine⟨fun j hj=>?_,fun e he hb=>?_⟩
   .unfold fz at hj;rw[cT,(by simpa using h1:m.getD i 0=_)]at hj;obtain⟨e,he,h'⟩:=Bq hj;exact⟨e,by simpa using he,h'⟩
   .have:=aT.1 h2 e (by simpa using he);simpa[hb]using this
  |succ k=>have:=ih h3 k o (by simpa using hk);rw[show i+1+k=i+(k+1)by omega]at this;exact this
theorem Ba{m:List Nat}{i:Nat}{a:pk}:∀{l:List pk}{j:Nat},v8 m i a l j=true->∀(k:Nat)(b:pk),l[k]?=some b->fz m i (j+k)=true\/AD a b=false:=by
 intro l;induction l with
 |nil=>intro j _ k b hk;simp at hk
 |cons b0 r ih=>
  intro j h k b hk;simp only[v8,ai]at h;cases k with
  |zero=>
   obtain rfl:b0=b:=by simpa using hk
   simpa using h.1
  |succ k=>have:=ih h.2 k b (by simpa using hk);rwa[show j+1+k=j+(k+1)by omega]at this
theorem Gm{m:List Nat}:∀{l:List pk}{i:Nat},zF m l i=true->∀(k k':Nat)(a b:pk),l[k]?=some a->l[k']?=some b->k<k'->fz m (i+k) (i+k')=true\/AD a b=false:=by
 intro l;induction l with
 |nil=>intro i _ k k' a b hk;simp at hk
 |cons a0 r ih=>
  intro i h k k' a b hk hk' hlt;simp only[zF,ai]at h;cases k' with
  |zero=>omega
  |succ k'=>
   cases k with
   |zero=>
    obtain rfl:a0=a:=by simpa using hk
    have:=Ba h.1 k' b (by simpa using hk');rwa[show i+1+k'=i+(k'+1)by omega]at this
   |succ k=>have:=ih h.2 k k' a b (by simpa using hk) (by simpa using hk') (by omega);rwa[show i+1+k=i+(k+1)by omega,show i+1+k'=i+(k'+1)by omega]at this
theorem Fz{m:List Nat}{i:Nat}{a:pk}:∀{l:List pk}{j:Nat},∀(k:Nat)(b:pk),l[k]?=some b->fz m i (j+k)=true\/A3 b.k=0\/A3 b.k+A3 a.k<=2\/(i,if BB a.k b.k then 1000+(j+k)else j+k)∈xR m i a l j:=by
 intro l;induction l with
 |nil=>intro j k b hk;simp at hk
 |cons b0 r ih=>
  intro j k b hk;cases k with
  |zero=>
   obtain rfl:b0=b:=by simpa using hk
   simp only[xR];split
   .rename_i h;simp only[dl,beq_iff_eq,decide_eq_true_eq]at h;rcases h with(h|h)|h
    .exact .inl h
    .exact .inr (.inl h)
    .exact .inr (.inr (.inl h))
   .exact .inr (.inr (.inr (bh ..)))
  |succ k=>
   have:=ih (j:=j+1) k b (by simpa using hk);rw[show j+1+k=j+(k+1)by omega]at this;rcases this with h|h|h|h
   .exact .inl h
   .exact .inr (.inl h)
   .exact .inr (.inr (.inl h))
   .refine .inr (.inr (.inr ?_));simp only[xR];split
    .exact h
    .exact av _ h
theorem FA{m:List Nat}:∀{l:List pk}{i:Nat},∀(k k':Nat)(a b:pk),l[k]?=some a->l[k']?=some b->k<k'->
  fz m (i+k) (i+k')=true\/A3 a.k=0\/A3 b.k=0\/A3 b.k+A3 a.k<=2\/(i+k,if BB a.k b.k then 1000+(i+k')else i+k')∈uk m l i:=by
 intro l;induction l with
 |nil=>intro i k k' a b hk;simp at hk
 |cons a0 r ih=>
  intro i k k' a b hk hk' hlt;cases k' with
  |zero=>omega
  |succ k'=>
   cases k with
   |zero=>
    obtain rfl:a0=a:=by simpa using hk
    have:=Fz (m:=m) (i:=i) (a:=a0) (j:=i+1) k' b (by simpa using hk');rw[show i+1+k'=i+(k'+1)by omega]at this;rcases this with h|h|h|h
    .exact .inl h
    .exact .inr (.inr (.inl h))
    .exact .inr (.inr (.inr (.inl h)))
    .by_cases e:A3 a0.k=0
     .exact .inr (.inl e)
     .refine .inr (.inr (.inr (.inr ?_)));simp only[uk,beq_iff_eq,e,if_false];exact aA _ h
   |succ k=>
    have:=ih (i:=i+1) k k' a b (by simpa using hk) (by simpa using hk') (by omega);rw[show i+1+k=i+(k+1)by omega,show i+1+k'=i+(k'+1)by omega]at this;rcases this with h|h|h|h|h
    .exact .inl h
    .exact .inr (.inl h)
    .exact .inr (.inr (.inl h))
    .exact .inr (.inr (.inr (.inl h)))
    .exact .inr (.inr (.inr (.inr (by simp only[uk];exact aC _ h))))
theorem Jn{a b:Value}(h:Gn a b=true):a=b:=by
 unfold Gn at h;split at h<;>first|rfl|(simp at h;done)|skip
 .obtain ⟨rfl,rfl⟩:_/\_:=by simpa using h
  rfl
 .obtain rfl:_=_:=by simpa using h
  rfl
 .rename_i x y;have:x.toList=y.toList:=by simpa using h
  rw[ByteArray.toList_eq,ByteArray.toList_eq]at this;obtain⟨⟨x⟩⟩:=x;obtain⟨⟨y⟩⟩:=y;have e:x=y:=by simpa using this
  rw[e]
 .obtain ⟨rfl,rfl⟩:_/\_:=by simpa using h
  rfl
theorem Ll:∀{a b:List Value},BH a b=true->a=b:=by
 intro a;induction a with
 |nil=>intro b h;cases b<;>simp_all[BH]
 |cons x a ih=>intro b h;cases b with|nil=>simp[BH]at h|cons y b=>simp only[BH,ai]at h;rw[Jn h.1,ih h.2]
theorem Ms:∀{ks:List Kd}{a b:List Value},y6 ks a=true->y6 ks b=true->∃r,gH ks a b=some r:=by
 intro ks;induction ks with
 |nil=>intro a b h1 h2;cases a<;>cases b<;>simp_all[y6,gH]
 |cons k ks ih=>
  intro a b h1 h2;cases a with
  |nil=>simp[y6]at h1
  |cons x a=>
   cases b with
   |nil=>simp[y6]at h2
   |cons y b=>
    simp only[y6,ai]at h1 h2;obtain⟨r,hr⟩:=ih h1.2 h2.2;have hk:∃q,DI k x y=some q:=by have ha:=h1.1;have hb:=h2.1;cases k<;>cases x<;>cases y<;>simp_all[J4,DI]
    obtain⟨q,hq⟩:=hk;exact⟨q&&r,by simp[gH,hq,hr]⟩
theorem Kc{ks:List Kd}{key:List Value}{e:ur}:∀{es:List ur}{i:Nat},
  oq ks key (es++[e]) i=(match oq ks key es i with|some (some j)=>some (some j)|some none=>(match gH ks key e.1 with|some true=>some (some (i+es.length))|some false=>some none|none=>none)|none=>none):=by
 intro es;induction es with
 |nil=>intro i;simp only[List.nil_append,oq,List.length_nil,cT];cases gH ks key e.1 with|none=>rfl|some b=>cases b<;>rfl
 |cons x es ih=>
  intro i;simp only[List.cons_append,oq];cases gH ks key x.1 with
  |none=>rfl
  |some b=>cases b with|true=>rfl|false=>simp only[ih,cg];rw[show i+1+es.length=i+(es.length+1)by omega]
theorem MU{ks:List Kd}{key:List Value}:∀{es:List ur}{i j:Nat},oq ks key es i=some (some j)->j<i+es.length:=by
 intro es;induction es with
 |nil=>intro i j h;simp[oq]at h
 |cons x es ih=>
  intro i j h;simp only[oq]at h;split at h
  .obtain rfl:i=j:=by simpa using h
   simp
  .have:=ih h;simp only[cg];omega
  .simp at h
theorem Fd{ka:Bool}{ks:List Kd}{k:TV}{key:List Value}(h:pU ka ks k=some key):y6 ks key=true:=by
 cases k with
 |agg cs=>
  simp only[pU]at h;split at h
  .exact (sh h).2
  .simp at h
 |c x=>
  simp only[pU]at h;split at h
  .exact (sh h).2
  .simp at h
 |jA xs=>simp[pU]at h
theorem Jf{call1 call2:Call}{k1 k2:Ev.K}{vs1 vs2:List (Option TV)}{H H':bD}{nx1 nx2 n n2 id:Nat}{v v2:TV}{u u2:fN}{ids2:List Nat}(hk:BB k1 k2=true)
  (h1:cI call1 k1 vs1 H nx1=some (v,u,[id],n)) (h2:cI call2 k2 vs2 H' nx2=some (v2,u2,ids2,n2)) (hs:az H' id=az H id) (ht:id∈u2.map (·.1)):
  cI call1 k1 vs1 (u2++H) nx1=some (v,u,[id],n):=by
 unfold BB at hk;split at hk
 .rename_i ka ks va z ka' ks' va' z';simp only[ai,decide_eq_true_eq]at hk;obtain⟨⟨⟨rfl,rfl⟩,rfl⟩,hz⟩:=hk;obtain rfl:=Ll hz
  match vs1,vs2,h1,h2 with
  |[some (.c m1),some kt1],[some (.c m2),some kt2],h1,h2=>
   change (match iX ka ks va z false m1 kt1 H with|some (v,aw)=>some (v,([]:fN),aw,nx1)|none=>none)=_ at h1;change (match ow ka ks va z m2 kt2 H' with|some (v,u,aw)=>some (v,u,aw,nx2)|none=>none)=_ at h2;show(match iX ka ks va z false m1 kt1 (u2++H)with|some (v,aw)=>some (v,([]:fN),aw,nx1)|none=>none)=_
   have key:iX ka ks va z false m1 kt1 H=some (v,[id])->iX ka ks va z false m1 kt1 (u2++H)=some (v,[id]):=by
    clear h1;intro h1;split at h2
    .rename_i v3 u3 ids3 h3;obtain⟨_,rfl,_,_⟩:v3=v2/\u3=u2/\ids3=ids2/\nx2=n2:=by simpa using h2
     unfold ow at h3;split at h3
     .rename_i id2 key2 hkey2;have hok2:=Fd hkey2;split at h3
      .rename_i ka2 va2 es fH hob;split at h3
       .rename_i hkv;obtain⟨rfl,rfl⟩:=hkv
        -- what is laid anew
        have hu:∃es' clock',u3=[(id2,some (.map ka2 va2 es' clock'))]/\(es'=es\/es'=es++[(key2,dg z,fH)]):=by
         split at h3
         .split at h3
          .obtain ⟨_,rfl,_⟩:=(by simpa using h3:_/\_/\_)
           exact⟨_,_,rfl,.inl rfl⟩
          .simp at h3
         .split at h3
          .obtain ⟨_,rfl,_⟩:=(by simpa using h3:_/\_/\_)
           exact⟨_,_,rfl,.inr rfl⟩
          .simp at h3
         .simp at h3
        obtain⟨es',clock',rfl,hes⟩:=hu;obtain rfl:id=id2:=by simpa using ht
        have hl2:az ([(id,some (Ob.map ka2 va2 es' clock'))]++H) id=some (.map ka2 va2 es' clock'):=by rw[gU,bV,if_pos rfl]
        rw[hs]at hob;unfold iX at h1|-;split at h1
        .split at h1
         .simp at h1
         .simp at h1
        .rename_i id1 key1 hkey1;have hok1:=Fd hkey1
         have hid:id1=id:=by
          repeat' split at h1
          all_goals first
           |(simp at h1;done)
           |(obtain⟨_,h4⟩:=af (aa h1);simpa using h4)
         subst hid;simp only[hob,hl2,and_self,if_true]at h1|-;rcases hes with rfl|rfl
         .exact h1
         .rw [Kc];split at h1
          .rename_i j hf;have hlt:=MU hf;rw[bJ]at hlt;simp only[hf];have e1:(es++[(key2,dg z,fH)]).getD j default=es.getD j default:=by simp only[jL];rw[List.getElem?_append_left hlt]
           rw[e1];exact h1
          .rename_i hf;simp only[hf];obtain⟨r,hr⟩:=Ms hok1 hok2;simp only[hr];cases r with
           |false=>exact h1
           |true=>
            have e1:(es++[(key2,dg z,fH)]).getD (0+es.length) default=(key2,dg z,fH):=by simp[jL]
            simp only[e1];exact h1
          .simp at h1
        .simp at h1
       .simp at h3
      .simp at h3
     .simp at h3
    .simp at h2
   split at h1
   .rename_i v1 ids1 hl;obtain⟨rfl,rfl,rfl,rfl⟩:v1=v/\[]=u/\ids1=[id]/\nx1=n:=by simpa using h1
    rw[key hl]
   .simp at h1
 .simp at hk
abbrev HS:=Option (TV×fN×List Nat×Nat)
def Hq:HS->Option TV
 |some (v,_)=>some v
 |none=>some (.jA [])
def rP:HS->fN
 |some (_,u,_)=>u
 |none=>[]
def qJ:HS->List Nat
 |some (_,_,r,_)=>r
 |none=>[]
def Bv(call:Call)(aN i:Nat)(o:pk)(e:kA)(h:bD)(f:HS)(e':kA)(h':bD):Prop:=match f with|some (v,u,aw,n)=>lx e o.guard=some true/\cI call o.k (o.args.map (lN e)) h (aN+jE*i)=some (v,u,aw,n)/\n<=aN+jE*(i+1)/\e'=put e o.dst v/\h'=u++h|none=>lx e o.guard=some false/\e'=drop e o.dst/\h'=h
theorem FB{calls:Nat->Call}{aN:Nat}:∀(l:List pk)(i:Nat)(e:kA)(h:bD)(e':kA)(h':bD)(tr:List (List Nat×List Nat)),oA calls aN l i e h=some (e',h',tr)->
  ∃(E:Nat->kA)(Hp:Nat->bD)(ef:Nat->HS),E 0=e/\Hp 0=h/\E l.length=e'/\Hp l.length=h'/\
   ∀(k:Nat)(o:pk),l[k]?=some o->Bv (calls (i+k)) aN (i+k) o (E k) (Hp k) (ef k) (E (k+1)) (Hp (k+1))/\tr[k]?=some (qJ (ef k),(rP (ef k)).map (·.1)):=by
 intro l;induction l with
 |nil=>
  intro i e h e' h' tr hh;obtain⟨rfl,rfl,rfl⟩:e=e'/\h=h'/\[]=tr:=by simpa[oA]using hh
  exact⟨fun _=>e,fun _=>h,fun _=>none,rfl,rfl,rfl,rfl,fun k o hk=>by simp at hk⟩
 |cons o r ih=>
  intro i e h e' h' tr hh;simp only[oA]at hh
  have rO:∀(f:HS)(e1:kA)(h1:bD)(tr1:List (List Nat×List Nat)),oA calls aN r (i+1) e1 h1=some (e',h',tr1)->Bv (calls i) aN i o e h f e1 h1->tr=(qJ f,(rP f).map (·.1))::tr1->
    ∃(E:Nat->kA)(Hp:Nat->bD)(ef:Nat->HS),E 0=e/\Hp 0=h/\E (o::r).length=e'/\Hp (o::r).length=h'/\
     ∀(k:Nat)(o':pk),(o::r)[k]?=some o'->Bv (calls (i+k)) aN (i+k) o' (E k) (Hp k) (ef k) (E (k+1)) (Hp (k+1))/\tr[k]?=some (qJ (ef k),(rP (ef k)).map (·.1)):=by
   intro f e1 h1 tr1 hrun hs htr;obtain⟨E,Hp,ef,a1,a2,a3,a4,a5⟩:=ih (i+1) e1 h1 e' h' tr1 hrun;refine⟨fun k=>match k with|0=>e|k+1=>E k,fun k=>match k with|0=>h|k+1=>Hp k,fun k=>match k with|0=>f|k+1=>ef k,rfl,rfl,a3,a4,fun k o' hk=>?_⟩;subst htr;cases k with
   |zero=>
    obtain rfl:o=o':=by simpa using hk
    refine⟨?_,by simp⟩;simp only[cT,a1,a2];exact hs
   |succ k=>have:=a5 k o' (by simpa using hk);rw[show i+1+k=i+(k+1)by omega]at this;exact⟨this.1,by simpa using this.2⟩
  split at hh
  .rename_i hw;split at hh
   .rename_i v u aw n hev;split at hh
    .rename_i hn;split at hh
     .rename_i e1 h1 tr1 hrun;obtain⟨rfl,rfl,rfl⟩:e1=e'/\h1=h'/\_=tr:=by simpa using hh
      exact rO (some (v,u,aw,n)) _ _ tr1 hrun ⟨hw,hev,hn,rfl,rfl⟩ rfl
     .simp at hh
    .simp at hh
   .simp at hh
  .rename_i hw;split at hh
   .rename_i e1 h1 tr1 hrun;obtain⟨rfl,rfl,rfl⟩:e1=e'/\h1=h'/\_=tr:=by simpa using hh
    exact rO none _ _ tr1 hrun ⟨hw,rfl,rfl⟩ rfl
   .simp at hh
  .simp at hh
section
variable(dst:Nat->Option Nat)(ef:Nat->HS)(D:Nat->Bool)(e0:Nat->Option TV)(h0:Nat->Option Ob)
def pK:Nat->Nat->Option TV
 |0,t=>e0 t
 |k+1,t=>if D k=true/\dst k=some t then Hq (ef k)else pK k t
def ky:Nat->Nat->Option Ob
 |0,i=>h0 i
 |k+1,i=>if D k=true then(match cn (rP (ef k)) i with|some o=>o|none=>ky k i)else ky k i
end
def vO(ef:Nat->HS)(k id:Nat):Prop:=id∈(rP (ef k)).map (·.1)
theorem uI{α:Type}{u:List (Nat×α)}{id:Nat}(h:id∉u.map (·.1)):cn u id=none:=by
 induction u with
 |nil=>rfl
 |cons p r ih=>
  obtain⟨i,x⟩:=p;simp only[aD,aJ,not_or]at h;have:(i==id)=false:=by simpa using fun e:i=id=>h.1 e.symm
  simp[cn,this,ih h.2]
theorem MO{α:Type}{u:List (Nat×α)}{id:Nat}(h:id∈u.map (·.1)):∃x,cn u id=some x:=by
 induction u with
 |nil=>simp at h
 |cons p r ih=>
  obtain⟨i,x⟩:=p;by_cases e:i=id
  .exact ⟨x,by simp[cn,e]⟩
  .have e':(i==id)=false:=by simpa using e
   simp only[aD,aJ]at h;rcases h with h|h
   .exact absurd h.symm e
   .simpa [cn,e']using ih h
section
variable{dst:Nat->Option Nat}{ef:Nat->HS}{D D':Nat->Bool}{E:Nat->kA}{Hp:Nat->bD}
theorem Dj{n i t:Nat}(hstep:∀k,k<n->∀t,cn (E (k+1)) t=if dst k=some t then Hq (ef k)else cn (E k) t)(hi:i<=n)
  (h1:∀k,k<i->dst k=some t->D k=true) (h2:∀k,i<=k->k<n->dst k=some t->D k=false):pK dst ef D (cn (E 0)) n t=cn (E i) t:=by
 have a:∀k,k<=i->pK dst ef D (cn (E 0)) k t=cn (E k) t:=by
  intro k;induction k with
  |zero=>intro _;rfl
  |succ k ih=>
   intro hk;rw[pK,hstep k (by omega)];by_cases hd:dst k=some t
   .rw [if_pos ⟨h1 k (by omega) hd,hd⟩,if_pos hd]
   .rw [if_neg (fun h=>hd h.2),if_neg hd,ih (by omega)]
 have b:∀d,i+d<=n->pK dst ef D (cn (E 0)) (i+d) t=cn (E i) t:=by intro d;induction d with|zero=>intro _;exact a i (am _)|succ d ih=>intro hd;rw[<-cX,pK,if_neg,ih (by omega)];rintro⟨hD,hdst⟩;rw[h2 (i+d) (by omega) (by omega) hdst]at hD;simp at hD
 have:=b (n-i) (by omega);rwa[kE hi]at this
theorem Ah{n i id:Nat}(hstep:∀k,k<n->∀id,az (Hp (k+1)) id=match cn (rP (ef k)) id with|some o=>o|none=>az (Hp k) id)(hi:i<=n)
  (h1:∀k,k<i->vO ef k id->D k=true) (h2:∀k,i<=k->k<n->vO ef k id->D k=false):ky ef D (az (Hp 0)) n id=az (Hp i) id:=by
 have a:∀k,k<=i->ky ef D (az (Hp 0)) k id=az (Hp k) id:=by
  intro k;induction k with
  |zero=>intro _;rfl
  |succ k ih=>
   intro hk;rw[ky,hstep k (by omega),ih (by omega)];by_cases ht:vO ef k id
   .rw [if_pos (h1 k (by omega) ht)]
   .rw [uI ht];simp
 have b:∀d,i+d<=n->ky ef D (az (Hp 0)) (i+d) id=az (Hp i) id:=by
  intro d;induction d with
  |zero=>intro _;exact a i (am _)
  |succ d ih=>
   intro hd;rw[<-cX,ky,ih (by omega)];by_cases ht:vO ef (i+d) id
   .rw [if_neg (by simp[h2 (i+d) (by omega) (by omega) ht])]
   .rw [uI ht];simp
 have:=b (n-i) (by omega);rwa[kE hi]at this
theorem M3{e0:Nat->Option TV}{n i t:Nat}(hi:i<n)(hD:∀k,k≠i->D' k=D k)(hDi:D' i=true)(hDi0:D i=false)
  (h:dst i=some t->∀k,i<k->k<n->D k=true->dst k≠some t):
  pK dst ef D' e0 n t=if dst i=some t then Hq (ef i)else pK dst ef D e0 n t:=by
 have a:∀k,k<=i->pK dst ef D' e0 k t=pK dst ef D e0 k t:=by intro k;induction k with|zero=>intro _;rfl|succ k ih=>intro hk;rw[pK,pK,hD k (by omega),ih (by omega)]
 have b:∀d,i+1+d<=n->pK dst ef D' e0 (i+1+d) t=if dst i=some t then Hq (ef i)else pK dst ef D e0 (i+1+d) t:=by
  intro d;induction d with
  |zero=>intro _;show pK dst ef D' e0 (i+1) t=if dst i=some t then Hq (ef i)else pK dst ef D e0 (i+1) t;rw[pK,pK,hDi,hDi0,a i (am _)];simp
  |succ d ih=>
   intro hd;rw[<-cX,pK,pK,hD (i+1+d) (by omega),ih (by omega)];by_cases hc:D (i+1+d)=true/\dst (i+1+d)=some t
   .rw [if_pos hc,if_pos hc,if_neg];intro hdi;exact h hdi (i+1+d) (by omega) (by omega) hc.1 hc.2
   .rw [if_neg hc,if_neg hc]
 have:=b (n-(i+1)) (by omega);rwa[kE (by omega)]at this
theorem J9{h0:Nat->Option Ob}{n i id:Nat}(hi:i<n)(hD:∀k,k≠i->D' k=D k)(hDi:D' i=true)(hDi0:D i=false)
  (h:vO ef i id->∀k,i<k->k<n->D k=true->¬vO ef k id):
  ky ef D' h0 n id=match cn (rP (ef i)) id with|some o=>o|none=>ky ef D h0 n id:=by
 have a:∀k,k<=i->ky ef D' h0 k id=ky ef D h0 k id:=by intro k;induction k with|zero=>intro _;rfl|succ k ih=>intro hk;rw[ky,ky,hD k (by omega),ih (by omega)]
 have b:∀d,i+1+d<=n->ky ef D' h0 (i+1+d) id=match cn (rP (ef i)) id with|some o=>o|none=>ky ef D h0 (i+1+d) id:=by
  intro d;induction d with
  |zero=>
   intro _;show ky ef D' h0 (i+1) id=match cn (rP (ef i)) id with|some o=>o|none=>ky ef D h0 (i+1) id
   rw[ky,ky,hDi,hDi0,a i (am _)];simp
  |succ d ih=>
   intro hd;rw[<-cX,ky,ky,hD (i+1+d) (by omega),ih (by omega)];by_cases ht:vO ef i id
   .by_cases hc:D (i+1+d)=true
    .rw [uI (h ht (i+1+d) (by omega) (by omega) hc)];simp
    .rw [if_neg hc,if_neg hc]
   .rw [uI ht]
 have:=b (n-(i+1)) (by omega);rwa[kE (by omega)]at this
end
section
variable{P:Program}{S K:Nat->Prop}{w0 w:World}{Kn:Nat->Prop}{φ:Nat->gW}{gv:List Value}{nt:Nat}{a:Act}{call:Call}{calls:Nat->Call}{cE:Cq}{s s':St}
 {ops:Array Oper} {l:List pk} {m:List Nat} {aN:Nat} {E:Nat->kA} {Hp:Nat->bD} {ef:Nat->HS}
def sC(l:List pk)(k:Nat):Option Nat:=(l[k]?).bind (·.dst)
def Qe(calls:Nat->Call)(l:List pk)(aN:Nat)(E:Nat->kA)(Hp:Nat->bD)(ef:Nat->HS)(i j:Nat):Prop:=∃c v u id n,l[i]?=some c/\ef i=some (v,u,[id],n)/\cI (calls i) c.k (c.args.map (lN (E i))) (rP (ef j)++Hp i) (aN+jE*i)=some (v,u,[id],n)
structure FX(P:Program)(cE:Cq)(nt:Nat)(calls:Nat->Call)(ops:Array Oper)(l:List pk)(m:List Nat)(aN:Nat)(E:Nat->kA)(Hp:Nat->bD)(ef:Nat->HS):Prop where
 len:l.length=ops.size
 Wq:∀(k:Nat)(o:Oper),ops[k]?=some o->l[k]?=some (gL P cE nt ops o)
 nW:∀(k:Nat)(c:pk),l[k]?=some c->Bv (calls k) aN k c (E k) (Hp k) (ef k) (E (k+1)) (Hp (k+1))
 PT:∀(k:Nat)(o:Oper),ops[k]?=some o->(∀j,fz m j k=true->∃e∈o.after,Region.binds .any e=true/\(e.on=j\/fz m j e.on=true))/\∀e∈o.after,Region.binds .any e=true->e.on<k
 VL:∀(i j:Nat)(a b:pk),l[i]?=some a->l[j]?=some b->i<j->fz m i j=true\/AD a b=false
 VQ:∀(i j:Nat),i<j->j<ops.size->fz m i j=true\/((∀id,vO ef i id->id∉qJ (ef j)/\¬vO ef j id)/\((∀id,vO ef j id->id∉qJ (ef i))\/Qe calls l aN E Hp ef i j))
theorem Bv.dF{i:Nat}{o:pk}{e e':kA}{h h':bD}{f:HS}(hs:Bv call aN i o e h f e' h')(t:Nat):cn e' t=if o.dst=some t then Hq f else cn e t:=by cases f with|none=>obtain⟨_,rfl,_⟩:=hs;rw[Ak];rfl|some p=>obtain⟨v,u,r,n⟩:=p;obtain⟨_,_,_,rfl,_⟩:=hs;rw[mE];rfl
theorem Bv.heap{i:Nat}{o:pk}{e e':kA}{h h':bD}{f:HS}(hs:Bv call aN i o e h f e' h')(id:Nat):az h' id=match cn (rP f) id with|some o=>o|none=>az h id:=by cases f with|none=>obtain⟨_,_,rfl⟩:=hs;rfl|some p=>obtain⟨v,u,r,n⟩:=p;obtain⟨_,_,_,_,rfl⟩:=hs;rw[gU];rfl
theorem Oz{e':kA}{h':bD}{e:kA}{h:bD}{tr:List (List Nat×List Nat)}(hl:l=ops.toList.map (gL P cE nt ops))(hord:zX m ops.toList 0=true)(hsch:zF m l 0=true)
  (hev:oA calls aN l 0 e h=some (e',h',tr)) (hdyn:Cd tr (uk m l 0)=true) (hsmall:l.length<=1000):
  ∃E Hp ef,FX P cE nt calls ops l m aN E Hp ef/\E 0=e/\Hp 0=h/\E ops.size=e'/\Hp ops.size=h':=by
 obtain⟨E,Hp,ef,h1,h2,h3,h4,h5⟩:=FB l 0 e h e' h' tr hev;have hlen:l.length=ops.size:=by rw[hl];simp
 refine⟨E,Hp,ef,⟨hlen,?_,?_,?_,?_,?_⟩,h1,h2,hlen▸h3,hlen▸h4⟩
 .intro k o hk;rw[hl,aK,bf,hk];rfl
 .intro k c hk;have:=(h5 k c hk).1;rwa[bJ]at this
 .intro k o hk;have:=GQ hord k o (by rw[bf];exact hk);rwa[bJ]at this
 .intro i j a b ha hb hij;have:=Gm hsch i j a b ha hb hij;rwa[bJ,bJ]at this
 .intro i j hij hj;have hi':i<l.length:=by omega
  have hj':j<l.length:=by omega
  obtain⟨a,ha⟩:∃a,l[i]?=some a:=⟨_,aB hi'⟩
  obtain⟨b,hb⟩:∃b,l[j]?=some b:=⟨_,aB hj'⟩
  have sa:=h5 i a ha;have sb:=h5 j b hb;have noU:∀(k:Nat)(c:pk),Bv (calls (0+k)) aN (0+k) c (E k) (Hp k) (ef k) (E (k+1)) (Hp (k+1))->A3 c.k<=1->∀id,¬vO ef k id:=by intro k c hs hc id ht;unfold vO at ht;generalize hf:ef k=f at hs ht;cases f with|none=>simp[rP]at ht|some p=>obtain⟨v,u,r,n⟩:=p;obtain⟨_,hev1,_⟩:=hs;rw[show rP (some (v,u,r,n))=u from rfl,Mr hc hev1]at ht;simp at ht
  have noR:∀(k:Nat)(c:pk),Bv (calls (0+k)) aN (0+k) c (E k) (Hp k) (ef k) (E (k+1)) (Hp (k+1))->A3 c.k=0->∀id,id∉qJ (ef k):=by intro k c hs hc id ht;generalize hf:ef k=f at hs ht;cases f with|none=>simp[qJ]at ht|some p=>obtain⟨v,u,r,n⟩:=p;obtain⟨_,hev1,_⟩:=hs;rw[show qJ (some (v,u,r,n))=r from rfl,Mq hc hev1]at ht;simp at ht
  rcases FA (m:=m) (i:=0) i j a b ha hb hij with h|h|h|h|h
  .rw [bJ,bJ]at h;exact .inl h
  .exact .inr ⟨fun id ht=>absurd ht (noU i a sa.1 (by omega) id),.inl fun id _=>noR i a sa.1 h id⟩
  .exact .inr ⟨fun id _=>⟨noR j b sb.1 h id,noU j b sb.1 (by omega) id⟩,.inl fun id ht=>absurd ht (noU j b sb.1 (by omega) id)⟩
  .by_cases ea:A3 a.k<=1
   .by_cases eb:A3 b.k<=1
    .exact .inr ⟨fun id ht=>absurd ht (noU i a sa.1 ea id),.inl fun id ht=>absurd ht (noU j b sb.1 eb id)⟩
    .have:A3 a.k=0:=by omega
     exact .inr ⟨fun id ht=>absurd ht (noU i a sa.1 (by omega) id),.inl fun id _=>noR i a sa.1 this id⟩
   .have:A3 b.k=0:=by omega
    exact .inr ⟨fun id _=>⟨noR j b sb.1 this id,noU j b sb.1 (by omega) id⟩,.inl fun id ht=>absurd ht (noU j b sb.1 (by omega) id)⟩
  .rw [bJ,bJ]at h
   have hapart:nc (qJ (ef i),(rP (ef i)).map (·.1)) (qJ (ef j),(rP (ef j)).map (·.1))=true->
     (∀id,vO ef i id->id∉qJ (ef j)/\¬vO ef j id)/\((∀id,vO ef j id->id∉qJ (ef i))\/Qe calls l aN E Hp ef i j):=by
    intro this;simp only[nc,ai,aT,Bool.not_eq_true',List.contains_eq_mem,decide_eq_false_iff_not]at this;exact⟨fun id ht=>⟨(this.1 id ht).1,(this.1 id ht).2⟩,.inl fun id ht=>this.2 id ht⟩
   have hd:=aT.1 hdyn _ h;by_cases hso:BB a.k b.k=true
   .rw [if_pos hso]at hd;simp only at hd;rw[if_pos (by omega),show 1000+j-1000=j by omega]at hd;simp only[Gh,sa.2,sb.2,dl]at hd;rcases hd with hd|hd
    .exact .inr (hapart hd)
    .right;split at hd
     .rename_i id hab;obtain⟨hR,hU⟩:=af hab;refine⟨fun id ht=>by unfold vO at ht;rw[hU]at ht;simp at ht,?_⟩;by_cases htj:vO ef j id
      .right
       -- nobody between lays that object anew
       have hsame:∀k,i<=k->k<=j->az (Hp k) id=az (Hp i) id:=by
        intro k hk;induction k with
        |zero=>intro _;rw[show i=0 by omega]
        |succ k ih=>
         intro hkj;by_cases e:i=k+1
         .rw [e]
         .have hik:i<=k:=by omega
          rw[<-ih hik (by omega)];obtain⟨c,hc⟩:∃c,l[k]?=some c:=⟨_,aB (by omega)⟩
          have sk:=h5 k c hc;rw[sk.1.heap id]
          have hn:id∉(rP (ef k)).map (·.1):=by
           by_cases e2:k=i
           .subst e2;rw[hU];simp
           .have hm:(qJ (ef k),(rP (ef k)).map (·.1))∈(tr.take j).drop (i+1):=by refine aR (i:=k-(i+1)) ?_;rw[List.getElem?_drop,show i+1+(k-(i+1))=k by omega,List.getElem?_take,if_pos (by omega)];exact sk.2
            have:=aT.1 hd _ hm;simpa using this
          rw[uI hn]
       have sai:=sa.1;have sbj:=sb.1;generalize hfi:ef i=fi at sai hR hU;generalize hfj:ef j=fj at sbj;cases fi with
       |none=>simp[qJ]at hR
       |some p=>obtain⟨v,u,aw,n⟩:=p;obtain rfl:aw=[id]:=hR;cases fj with|none=>unfold vO at htj;rw[hfj]at htj;simp[rP]at htj|some q=>obtain⟨v2,u2,ids2,n2⟩:=q;unfold vO at htj;rw[hfj]at htj;obtain⟨_,hev1,_⟩:=sai;obtain⟨_,hev2,_⟩:=sbj;rw[bJ]at hev1 hev2;exact⟨a,v,u,id,n,ha,hfi,by rw[hfj];exact Jf hso hev1 hev2 (hsame j (by omega) (am _)) htj⟩
      .left;intro id2 ht2;rw[hR];simp only[aq];rintro rfl;exact htj ht2
     .simp at hd
   .rw [if_neg hso]at hd;simp only at hd;rw[if_neg (by omega)]at hd;simp only[sa.2,sb.2]at hd;exact .inr (hapart hd)
def AX(ops:Array Oper)(D:Nat->Bool):Prop:=∀(k:Nat)(o:Oper),ops[k]?=some o->D k=true->∀e∈o.after,Region.binds .any e=true->D e.on=true
theorem FX.vK(hp:FX P cE nt calls ops l m aN E Hp ef){D:Nat->Bool}(hc:AX ops D){i:Nat}:∀(N j:Nat),j<N->j<ops.size->D j=true->fz m i j=true->D i=true:=by
 intro N;induction N with
 |zero=>intro j hj;omega
 |succ N ih=>
  intro j hj hjn hD hb;have ho:ops[j]?=some ops[j]:=jY hjn;obtain⟨h1,h2⟩:=hp.PT j _ ho;obtain⟨e,he,hbd,h⟩:=h1 i hb;have hDe:=hc j _ ho hD e he hbd;rcases h with h|h
  .rw [<-h];exact hDe
  .have:=h2 e he hbd;exact ih e.on (by omega) (by omega) hDe h
theorem FX.Sw(hp:FX P cE nt calls ops l m aN E Hp ef){D:Nat->Bool}(hc:AX ops D){i j:Nat}{o:Oper}(hi:ops[i]?=some o)(hall:∀e∈o.after,Region.binds .any e=true->D e.on=true)
  (hb:fz m j i=true):D j=true:=by
 obtain⟨h1,h2⟩:=hp.PT i _ hi;obtain⟨e,he,hbd,h⟩:=h1 j hb;have hDe:=hall e he hbd;rcases h with h|h
 .rw [<-h];exact hDe
 .have:=h2 e he hbd;have hlt:i<ops.size:=(bm.1 hi).1;exact hp.vK hc (e.on+1) e.on (by omega) (by omega) hDe h
theorem IK{d:Option Nat}{l:List Nat}{t:Nat}(hd:d=some t)(h:t∈l):J7 d l=true:=by subst hd;simpa[J7]using h
theorem FX.Sr(hp:FX P cE nt calls ops l m aN E Hp ef){D:Nat->Bool}(hc:AX ops D){i:Nat}{o:Oper}{c:pk}(hi:ops[i]?=some o)(hci:l[i]?=some c)(hD:D i=false)
  (hall:∀e∈o.after,Region.binds .any e=true->D e.on=true):
  (∀t∈G3 c,pK (sC l) ef D (cn (E 0)) ops.size t=cn (E i) t)/\(∃G,(∀id∈qJ (ef i),ky ef D (az (Hp 0)) ops.size id=az G id)/\∀v u aw n,ef i=some (v,u,aw,n)->cI (calls i) c.k (c.args.map (lN (E i))) G (aN+jE*i)=some (v,u,aw,n))/\
  (∀t,c.dst=some t->∀k,i<k->k<ops.size->D k=true->sC l k≠some t)/\(∀id,vO ef i id->∀k,i<k->k<ops.size->D k=true->¬vO ef k id):=by
 have hlt:i<ops.size:=(bm.1 hi).1;have get:∀k,k<ops.size->∃b,l[k]?=some b:=fun k hk=>⟨_,aB (by rw[hp.len];exact hk)⟩;have lat:∀k,i<k->k<ops.size->fz m i k=true->D k=false:=by intro k _ hk hb;cases hDk:D k with|false=>rfl|true=>rw[hp.vK hc (k+1) k (by omega) hk hDk hb]at hD;simp at hD
 refine⟨fun t ht=>?_,?_,fun t ht k hik hk hDk hdk=>?_,fun id ht k hik hk hDk htk=>?_⟩
 .refine Dj (fun k hk t=>?_) (Nat.le_of_lt hlt) (fun k hk hd=>?_) (fun k hik hk hd=>?_)
  .obtain ⟨b,hb⟩:=get k hk;have:=(hp.nW k b hb).dF t;rw[this];simp[sC,hb]
  .obtain ⟨b,hb⟩:=get k (by omega);have hbd:b.dst=some t:=by simpa[sC,hb]using hd
   rcases hp.VL k i b c hb hci hk with h|h
   .exact hp.Sw hc hi hall h
   .simp [AD,IK hbd ht]at h
  .rcases fE i k with h1|h1
   .obtain ⟨b,hb⟩:=get k (by omega);have hbd:b.dst=some t:=by simpa[sC,hb]using hd
    rcases hp.VL i k c b hci hb h1 with h|h
    .exact lat k h1 hk h
    .simp [AD,IK hbd ht]at h
   .obtain rfl:k=i:=by omega
    exact hD
 .have hev:∀v u aw n,ef i=some (v,u,aw,n)->cI (calls i) c.k (c.args.map (lN (E i))) (Hp i) (aN+jE*i)=some (v,u,aw,n):=by intro v u aw n hf;have hs:=hp.nW i c hci;rw[hf]at hs;exact hs.2.1
  by_cases hsoft:∃k,i<k/\k<ops.size/\D k=true/\∃id∈qJ (ef i),vO ef k id
  .--the C5 of those that came ahead
   obtain⟨k,⟨hik,hk,hDk,id0,hid0,ht0⟩,hmax⟩:∃k,(i<k/\k<ops.size/\D k=true/\∃id∈qJ (ef i),vO ef k id)/\∀k',k<k'->¬(i<k'/\k'<ops.size/\D k'=true/\∃id∈qJ (ef i),vO ef k' id):=by
    have:∀(N:Nat)(k:Nat),ops.size-k<=N->(i<k/\k<ops.size/\D k=true/\∃id∈qJ (ef i),vO ef k id)->
      ∃k,(i<k/\k<ops.size/\D k=true/\∃id∈qJ (ef i),vO ef k id)/\∀k',k<k'->¬(i<k'/\k'<ops.size/\D k'=true/\∃id∈qJ (ef i),vO ef k' id):=by
     intro N;induction N with
     |zero=>intro k h1 h2;omega
     |succ N ihN=>
      intro k h1 h2;by_cases hm:∃k',k<k'/\(i<k'/\k'<ops.size/\D k'=true/\∃id∈qJ (ef i),vO ef k' id)
      .obtain ⟨k',h3,h4⟩:=hm;exact ihN k' (by omega) h4
      .exact ⟨k,h2,fun k' h3 h4=>hm ⟨k',h3,h4⟩⟩
    obtain⟨k,h⟩:=hsoft;exact this _ k (am _) h
   rcases hp.VQ i k hik hk with h|⟨_,h|h⟩
   .rw [lat k hik hk h]at hDk;simp at hDk
   .exact absurd hid0 (h id0 ht0)
   .obtain ⟨c',v,u,id,n,hc',hf,hev'⟩:=h;obtain rfl:c=c':=aa (hci.symm.trans hc');have hR:qJ (ef i)=[id]:=by rw[hf];rfl
    refine⟨rP (ef k)++Hp i,fun id' hid'=>?_,fun v' u' ids' n' hf'=>?_⟩
    .obtain rfl:id'=id:=by rw[hR]at hid';simpa using hid'
     obtain rfl:id0=id':=by rw[hR]at hid0;simpa using hid0
     obtain⟨x,hx⟩:=MO ht0
     have hlast:∀n',k<n'->n'<=ops.size->ky ef D (az (Hp 0)) n' id0=x:=by
      intro n' hkn;induction n' with
      |zero=>omega
      |succ n' ihn=>
       intro hn';simp only[ky];by_cases e:n'=k
       .subst e;rw[hx];simp[hDk]
       .have hno:¬(D n'=true/\vO ef n' id0):=fun hh=>hmax n' (by omega) ⟨by omega,by omega,hh.1,id0,hid',hh.2⟩;have:=ihn (by omega) (by omega);cases hDn:D n' with|false=>simpa[hDn]using this|true=>have hnt:¬vO ef n' id0:=fun h=>hno ⟨hDn,h⟩;rw[uI hnt];simpa[hDn]using this
     rw[hlast ops.size hk (am _),gU];simp only[bn,hx]
    .rw [hf]at hf';obtain⟨rfl,rfl,rfl,rfl⟩:v=v'/\u=u'/\[id]=ids'/\n=n':=by simpa using hf'
     exact hev'
  .refine ⟨Hp i,fun id hid=>?_,hev⟩;refine Ah (fun k hk id=>?_) (Nat.le_of_lt hlt) (fun k hk hd=>?_) (fun k hik hk hd=>?_)
   .obtain ⟨b,hb⟩:=get k hk;exact(hp.nW k b hb).heap id
   .rcases hp.VQ k i hk hlt with h|h
    .exact hp.Sw hc hi hall h
    .exact absurd hid (h.1 id hd).1
   .rcases fE i k with h1|h1
    .cases hDk:D k with|false=>rfl|true=>exact absurd ⟨k,h1,hk,hDk,id,hid,hd⟩ hsoft
    .obtain rfl:k=i:=by omega
     exact hD
 .obtain ⟨b,hb⟩:=get k hk;have hbd:b.dst=some t:=by simpa[sC,hb]using hdk
  rcases hp.VL i k c b hci hb hik with h|h
  .rw [lat k hik hk h]at hDk;simp at hDk
  .simp [AD,ht,hbd,J7]at h
 .rcases hp.VQ i k hik hk with h|h
  .rw [lat k hik hk h]at hDk;simp at hDk
  .exact absurd htk (h.1 id ht).2
def Ky(D:Nat->Bool):Nat->Nat
 |0=>0
 |k+1=>Ky D k+if D k=true then 0 else 1
theorem Pn{D D':Nat->Bool}{i:Nat}(hD:∀k,k≠i->D' k=D k)(h1:D' i=true)(h0:D i=false):∀n,i<n->Ky D' n+1=Ky D n:=by
 have a:∀k,k<=i->Ky D' k=Ky D k:=by intro k;induction k with|zero=>intro _;rfl|succ k ih=>intro hk;simp only[Ky];rw[ih (by omega),hD k (by omega)]
 intro n;induction n with
 |zero=>intro h;omega
 |succ n ih=>
  intro h;simp only[Ky];by_cases e:i=n
  .subst e;rw[a i (am _),h1,h0];simp
  .have:=ih (by omega);rw[hD n (fun h=>e h.symm)];omega
theorem Ng{D:Nat->Bool}:∀{n:Nat},Ky D n=0->∀k,k<n->D k=true:=by
 intro n;induction n with
 |zero=>intro _ k hk;omega
 |succ n ih=>
  intro h k hk;simp only[Ky]at h;by_cases e:k=n
  .subst e;by_cases hd:D k=true
   .exact hd
   .simp [hd]at h
  .exact ih (by omega) k (by omega)
theorem Pm(n:Nat):Ky (fun _=>false) n=n:=by induction n with|zero=>rfl|succ n ih=>simp[Ky,ih]
theorem DJ{e e':kA}{g:Option (Nat×Bool)}(h:∀t∈(match g with|some (t,_)=>[t]|none=>([]:List Nat)),cn e' t=cn e t):lx e' g=lx e g:=by cases g with|none=>rfl|some p=>obtain⟨t,b⟩:=p;simp only[lx,h t (by simp)]
theorem JG{e e':kA}:∀{args:List Operand},(∀t∈args.filterMap VZ,cn e' t=cn e t)->args.map (lN e')=args.map (lN e):=by intro args h;refine List.map_congr_left fun x hx=>?_;cases x with|tmp t=>exact h t (List.mem_filterMap.2 ⟨.tmp t,hx,rfl⟩)|_=>rfl
theorem M5(hok:∀i,oC P (calls i))(hnt:nt<1000000000){Q:Exit->Act->World->Prop}(hp:FX P cE nt calls ops l m aN E Hp ef){S0:Nat->Prop}{ws:World}{gh:List C}
  (hQ:∀S' Kn' φ' a' w',ia S0 ws S' w'->HP S' K w0 Kn' φ' gv nt ⟨E ops.size,Hp ops.size,aN+jE*l.length,gh⟩ a' w'->Q .normal a' w'):
  ∀(fuel:Nat)(listed:Array Bool)(S:Nat->Prop)(Kn:Nat->Prop)(φ:Nat->gW)(a:Act)(w:World)(ec:kA)(hc:bD),
  listed.size=ops.size->Ky (fun k=>listed.getD k false) ops.size<=fuel->AX ops (fun k=>listed.getD k false)->
  (∀t,cn ec t=pK (sC l) ef (fun k=>listed.getD k false) (cn (E 0)) ops.size t)->(∀id,az hc id=ky ef (fun k=>listed.getD k false) (az (Hp 0)) ops.size id)->
  Inv S K w0 Kn φ (az hc) w->kA.ok S w Kn φ ec a.tmps->a.tmps.size=nt->a.defers=[]->
  (∀j,Kn j->j<aN\/∃i,i<ops.size/\listed.getD i false=true/\aN+jE*i<=j/\j<aN+jE*(i+1))->
  (∀(i:Nat)(c:C)(v:Value),gh[i]?=some c->gv[i]?=some v->RG S w Kn φ c v)->ia S0 ws S w->wpAny P .any ops Q fuel listed a w:=by
 intro fuel;induction fuel with
 |zero=>
  intro listed S Kn φ a w ec hc hsz hcnt hcl henv hheap hI hE hts hdf hKn hgh hstp;have hall:=Ng (Nat.le_zero.1 hcnt);refine⟨?_,?_⟩
  .rw [List.eq_nil_iff_forall_not_mem];intro i hi;obtain⟨h0,o,ho,_⟩:=mem_ready.1 hi;have hlt:i<ops.size:=(bm.1 ho).1;have h2:=hall i hlt;have hlt2:i<listed.size:=by omega
   simp[lw,hlt2]at h0 h2;rw[h0]at h2;simp at h2
  .refine hQ S Kn φ a w hstp ⟨?_,?_,hts,hdf,?_,hgh⟩
   .have:az hc=az (Hp ops.size):=by funext id;rw[hheap];refine Ah (fun k hk id=>?_) (am _) (fun k hk _=>hall k hk) (fun k h1 h2 _=>by omega);exact(hp.nW k _ (aB (by rw[hp.len];exact hk))).heap id
    rw[<-this];exact hI
   .intro t x hx;refine hE t x ?_;rw[henv,<-hx];refine Dj (fun k hk t=>?_) (am _) (fun k hk _=>hall k hk) (fun k h1 h2 _=>by omega);have hb:l[k]?=some _:=aB (by rw[hp.len];exact hk);have:=(hp.nW k _ hb).dF t;rw[this];simp only[sC,hb,ae]
   .intro j hj hk;have hj':aN+jE*l.length<=j:=hj;rw[hp.len]at hj';rcases hKn j hk with h|⟨i,hi,_,h1,h2⟩
    .omega
    .have:jE*(i+1)<=jE*ops.size:=gT _ (by omega);omega
 |succ fuel ih=>
  intro listed S Kn φ a w ec hc hsz hcnt hcl henv hheap hI hE hts hdf hKn hgh hstp
  have rO:(∀k,k<ops.size->listed.getD k false=true)->Q .normal a w:=by
   intro hall;refine hQ S Kn φ a w hstp ⟨?_,?_,hts,hdf,?_,hgh⟩
   .have:az hc=az (Hp ops.size):=by funext id;rw[hheap];refine Ah (fun k hk id=>?_) (am _) (fun k hk _=>hall k hk) (fun k h1 h2 _=>by omega);exact(hp.nW k _ (aB (by rw[hp.len];exact hk))).heap id
    rw[<-this];exact hI
   .intro t x hx;refine hE t x ?_;rw[henv,<-hx];refine Dj (fun k hk t=>?_) (am _) (fun k hk _=>hall k hk) (fun k h1 h2 _=>by omega);have hb:l[k]?=some _:=aB (by rw[hp.len];exact hk);have:=(hp.nW k _ hb).dF t;rw[this];simp only[sC,hb,ae]
   .intro j hj hk;have hj':aN+jE*l.length<=j:=hj;rw[hp.len]at hj';rcases hKn j hk with h|⟨i,hi,_,h1,h2⟩
    .omega
    .have:jE*(i+1)<=jE*ops.size:=gT _ (by omega);omega
  refine⟨fun hnil=>rO ?_,fun i hi=>?_⟩
  .--nothing is ready:all is done
   intro k;induction k using Nat.strongRecOn with
   |_ k ihk=>
    intro hk;cases hd:listed.getD k false with
    |true=>rfl
    |false=>
     exfalso;have ho:ops[k]?=some ops[k]:=jY hk
     have:k∈Region.ready .any ops listed:=by
      rw[mem_ready];refine⟨?_,_,ho,fun e he hbk=>?_⟩
      .have hlt2:k<listed.size:=by omega
       simp[lw,hlt2]at hd|-;exact hd
      .have:=(hp.PT k _ ho).2 e he hbk;exact ihk e.on this (by omega)
     rw[hnil]at this;simp at this
  .obtain ⟨h0,o,ho,hall⟩:=mem_ready.1 hi;have hlt:i<ops.size:=(bm.1 ho).1;have hlt2:i<listed.size:=by omega
   have hD:listed.getD i false=false:=by simp[lw,hlt2]at h0|-;exact h0
   have hci:=hp.Wq i o ho;have hstep:=hp.nW i _ hci;obtain⟨s1,s2,s3,s4⟩:=hp.Sr (D:=fun k=>listed.getD k false) hcl ho hci hD hall;have hD':∀k,k≠i->(listed.setIfInBounds i true).getD k false=listed.getD k false:=fun k hk=>getD_set_ne false (fun e=>hk e.symm);have hDi:(listed.setIfInBounds i true).getD i false=true:=by simp[hlt2]
   have hcnt':Ky (fun k=>(listed.setIfInBounds i true).getD k false) ops.size<=fuel:=by have:=Pn (D:=fun k=>listed.getD k false) (D':=fun k=>(listed.setIfInBounds i true).getD k false) hD' hDi hD ops.size hlt;omega
   have hcl':AX ops (fun k=>(listed.setIfInBounds i true).getD k false):=by
    intro k o' ho' hk e he hb;by_cases e1:k=i
    .subst e1;obtain rfl:o=o':=by have:=ho.symm.trans ho';exact aa this
     exact getD_set_true (hall e he hb)
    .have hk':listed.getD k false=true:=by rw[<-hD' k e1];exact hk
     exact getD_set_true (hcl k o' ho' hk' e he hb)
   have hdstD:sC l i=o.dst:=by simp[sC,hci,gL]
   have henv':∀t,pK (sC l) ef (fun k=>(listed.setIfInBounds i true).getD k false) (cn (E 0)) ops.size t=if o.dst=some t then Hq (ef i)else cn ec t:=by intro t;rw[M3 (D:=fun k=>listed.getD k false) hlt hD' hDi hD (fun hd=>s3 t (by rw[hdstD]at hd;exact hd)),hdstD,henv t]
   have hheap':∀id,ky ef (fun k=>(listed.setIfInBounds i true).getD k false) (az (Hp 0)) ops.size id=match cn (rP (ef i)) id with|some o=>o|none=>az hc id:=by
    intro id;rw[J9 (D:=fun k=>listed.getD k false) hlt hD' hDi hD (fun ht=>s4 id ht),hheap id]
    all_goals(cases cn (rP (ef i)) id<;>rfl)
   have hwe:lx ec (gL P cE nt ops o).guard=lx (E i) (gL P cE nt ops o).guard:=by refine DJ fun t ht=>?_;rw[henv t];exact s1 t (aC _ ht)
   have hae:(gL P cE nt ops o).args.map (lN ec)=(gL P cE nt ops o).args.map (lN (E i)):=by refine JG fun t ht=>?_;rw[henv t];exact s1 t (aA _ ht)
   simp only[wpOp,ho];generalize hfe:ef i=f at hstep henv' hheap' s2;cases f with
   |none=>
    obtain⟨hw,_,_⟩:=hstep;rw[<-hwe]at hw;have hwant:=qW hE (by rw[hts];exact hnt) hw;rw[if_neg (by simp[hwant])];refine ih _ S Kn φ _ w (drop ec o.dst) hc (by simp[hsz]) hcnt' hcl' ?_ ?_ hI (kA.IV hE) (by rw[wg];exact hts) (by rw[sZ];exact hdf) ?_ hgh hstp
    .intro t;rw[henv' t,Ak];rfl
    .intro id;rw[hheap' id];rfl
    .intro j hj;rcases hKn j hj with h|⟨k,hk,h1,h2⟩
     .exact .inl h
     .exact .inr ⟨k,hk,getD_set_true h1,h2⟩
   |some p=>
    obtain⟨v,u,aw,n⟩:=p;obtain⟨hw,hev,hn,_,_⟩:=hstep;rw[<-hwe]at hw;obtain⟨G,g1,g2⟩:=s2;have hev3:=g2 v u aw n rfl;rw[<-hae]at hev3;have hev2:=Ko (H':=hc) hev3 (fun id hid=>by rw[hheap id];exact g1 id hid);have hwant:=qW hE (by rw[hts];exact hnt) hw;rw[if_pos hwant];left
    have hdst:∀x,o.dst=some x->x<a.tmps.size:=by
     intro x hx;rw[hts];rcases fE x nt with h1|h1
     .exact h1
     .exfalso;have:(gL P cE nt ops o).k=.gG:=by simp only[gL,hx];rw[if_neg (by simp;omega)]
      rw[this,fZ]at hev2;simp at hev2
    have hk:yq P cE o.op=((gL P cE nt ops o).k,(gL P cE nt ops o).args):=by
     have:(gL P cE nt ops o).k=(yq P cE o.op).1:=by simp only[gL];rw[if_pos];cases hd:o.dst with|none=>rfl|some d=>have:=hdst d hd;rw[hts]at this;simpa using this
     rw[this];rfl
    have hfr:∀j,aN+jE*i<=j->j<n->¬Kn j:=by
     intro j h1 h2 hk;rcases hKn j hk with h|⟨k,hkn,h3,h4,h5⟩
     .omega
     .have hne:k≠i:=by rintro rfl;rw[h3]at hD;simp at hD
      rcases fE k i with h6|h6
      .have:jE*(k+1)<=jE*i:=gT _ (by omega);omega
      .have:jE*(i+1)<=jE*k:=gT _ (by omega);omega
    have hgo:=EF (hok i) hk hI hE hfr hev2;refine hgo _ _ fun val w' hDn=>?_;obtain⟨hle,S',φ',h1,h2,h3,h4⟩:=hDn;refine ih _ S' (qi Kn (aN+jE*i) n) φ' _ w' (put ec o.dst v) (u++hc) (by simp[hsz]) hcnt' hcl' ?_ ?_ ?_ (kA.LA hE h1 h2 hdst h3) (by rw[wg];exact hts) (by rw[sZ];exact hdf) ?_ ?_ (hstp.trans h1)
    .intro t;rw[henv' t,mE];rfl
    .intro id;rw[hheap' id,gU];rfl
    .rw [gU];exact h4
    .intro j hj;rcases hj with hj|hj
     .rcases hKn j hj with h|⟨k,hk,h1,h2⟩
      .exact .inl h
      .exact .inr ⟨k,hk,getD_set_true h1,h2⟩
     .exact .inr ⟨i,hlt,hDi,hj.1,by omega⟩
    .intro i c v hc hv;exact(hgh i c v hc hv).mono h1 h2
theorem FC(hok:∀i,oC P (calls i))(hnt:nt<1000000000){Q:Exit->Act->World->Prop}{e':kA}{h':bD}{tr:List (List Nat×List Nat)}(hl:l=ops.toList.map (gL P cE nt ops))
  (hord:zX m ops.toList 0=true) (hsch:zF m l 0=true) (hev:oA calls s.next l 0 s.dF s.heap=some (e',h',tr)) (hdyn:Cd tr (uk m l 0)=true) (hsmall:l.length<=1000)
  (hR:HP S K w0 Kn φ gv nt s a w)
  (hQ:∀S' Kn' φ' a' w',ia S w S' w'->HP S' K w0 Kn' φ' gv nt ⟨e',h',s.next+jE*l.length,s.gh⟩ a' w'->Q .normal a' w'):
  wpAny P .any ops Q ops.size (Array.replicate ops.size false) a {w with drawn:=w.drawn+1}:=by
 obtain⟨E,Hp,ef,hp,h1,h2,h3,h4⟩:=Oz hl hord hsch hev hdyn hsmall;have hd:∀k,(Array.replicate ops.size false).getD k false=false:=by intro k;simp only[br,Array.getElem?_replicate];split<;>rfl
 have eE:ia S w S {w with drawn:=w.drawn+1}:=ia.drew S w _;refine M5 (gv:=gv) (K:=K) (w0:=w0) hok hnt hp (S0:=S) (ws:=w) (gh:=s.gh) ?_ ops.size _ S Kn φ a _ s.dF s.heap (by simp) ?_ ?_ ?_ ?_ (hR.inv.drew _ (Nat.le_succ _)) ?_ hR.size hR.defers ?_ ?_ eE
 .rw [h3,h4];exact hQ
 .simp only[hd,Pm];exact am _
 .intro k o _ hk;simp only[hd]at hk;simp at hk
 .intro t;simp only[hd];rw[h1];have:∀k,pK (sC l) ef (fun _=>false) (cn s.dF) k t=cn s.dF t:=by intro k;induction k with|zero=>rfl|succ k ih=>simp[pK,ih]
  exact(this _).symm
 .intro id;simp only[hd];rw[h2];have:∀k,ky ef (fun _=>false) (az s.heap) k id=az s.heap id:=by intro k;induction k with|zero=>rfl|succ k ih=>simp[ky,ih]
  exact(this _).symm
 .intro t x hx;exact(hR.dF t x hx).mono eE (uO.refl _ _)
 .intro j hj;rcases fE j s.next with h|h
  .exact .inl h
  .exact absurd hj (hR.gV j h)
 .intro i c v hc hv;exact(hR.gh i c v hc hv).mono eE (uO.refl _ _)
end
def qR(P:Program)(cE:Cq)(nt:Nat):Code->CC
 |.skip=>.skip
 |.region _ ops draw=>if draw then xT ops.toList (ops.toList.map (gL P cE nt ops)) []else .region (ops.toList.map (gL P cE nt ops)) []
 |.seq a b=>.seq (qR P cE nt a) (qR P cE nt b)
 |.cond c a b=>.cond c (qR P cE nt a) (qR P cE nt b)
 |.block id a=>.block id (qR P cE nt a)
 |.loop a=>.loop [] (qR P cE nt a)
 |.scope a=>qR P cE nt a
 |.label _=>.skip
 |.exit id=>.exit id
 |.ret=>.ret
 |_=>.gG
def QJ:tO->Exit
 |.normal=>.normal
 |.exit id=>.exit id
 |.ret=>.ret
def Sub(s s1:St):Prop:=∀(S K:Nat->Prop)(w0:World)(Kn:Nat->Prop)(φ:Nat->gW)(gv:List Value)(nt:Nat)(a:Act)(w:World),
 HP S K w0 Kn φ gv nt s a w->∃S' Kn' φ',ia S w S' w/\HP S' K w0 Kn' φ' gv nt s1 a w
theorem Sub.refl(s:St):Sub s s:=fun S _ _ Kn φ _ _ _ w h=>⟨S,Kn,φ,ia.refl S w,h⟩
theorem Sub.trans{s s1 s2:St}(a:Sub s s1)(b:Sub s1 s2):Sub s s2:=fun S K w0 Kn φ gv nt ac w h=>
 let⟨S1,Kn1,φ1,h1,h2⟩:=a S K w0 Kn φ gv nt ac w h;let⟨S2,Kn2,φ2,h3,h4⟩:=b S1 K w0 Kn1 φ1 gv nt ac w h2
 ⟨S2,Kn2,φ2,h1.trans h3,h4⟩
def wk(Q:St->Prop)(s:St):Prop:=∃s1,Sub s s1/\Q s1
theorem wk.of{Q:St->Prop}{s:St}(h:Q s):wk Q s:=⟨s,Sub.refl s,h⟩
def WO(P:Program):List pk->St->(St->Prop)->Prop
 |[],s,Q=>wk Q s
 |o::r,s,Q=>∃s1,Sub s s1/\
  ((lx s1.dF o.guard=some true/\∃call v u aw n,oC P call/\cI call o.k (o.args.map (lN s1.dF)) s1.heap s1.next=some (v,u,aw,n)/\WO P r ⟨put s1.dF o.dst v,u++s1.heap,n,s1.gh⟩ Q)\/
   (lx s1.dF o.guard=some false/\WO P r ⟨drop s1.dF o.dst,s1.heap,s1.next,s1.gh⟩ Q))
def vf(R:St->Prop)(Q:tO->St->Prop):tO->St->Prop
 |.normal,s=>R s
 |.exit id,s=>Q (.exit id) s
 |.ret,s=>Q .ret s
def wX(id:Nat)(Q:tO->St->Prop):tO->St->Prop
 |.exit id',s=>if id'=id then Q .normal s else Q (.exit id') s
 |.normal,s=>Q .normal s
 |.ret,s=>Q .ret s
def W(P:Program):CC->St->(tO->St->Prop)->Prop
 |.skip,s,Q=>wk (Q .normal) s
 |.region ops _,s,Q=>WO P ops s fun s'=>wk (Q .normal) s'
 |.drawn ops dyn _,s,Q=>∃s1,Sub s s1/\∃calls e h tr,(∀i,oC P (calls i))/\oA calls s1.next ops 0 s1.dF s1.heap=some (e,h,tr)/\Cd tr dyn=true/\
   wk (Q .normal) ⟨e,h,s1.next+jE*ops.length,s1.gh⟩
 |.seq a b,s,Q=>W P a s (vf (fun s'=>W P b s' Q) Q)
 |.cond c a b,s0,Q=>∃s,Sub s0 s/\∃t,lN s.dF c=some (.c (.d (.lit (.bool t))))/\(t=true->W P a s Q)/\(t=false->W P b s Q)
 |.block id a,s,Q=>W P a s (wX id Q)
 |.loop _ a,s,Q=>∃(I:Nat->St->Prop)(n:Nat),wk (I n) s/\∀n s,I n s->W P a s (vf (fun s'=>∃m,m<n/\wk (I m) s') Q)
 |.exit id,s,Q=>wk (Q (.exit id)) s
 |.ret,s,Q=>wk (Q .ret) s
 |.gG,_,_=>False
section
variable{P:Program}{S K:Nat->Prop}{w0 w:World}{Kn:Nat->Prop}{φ:Nat->gW}{gv:List Value}{nt:Nat}{a:Act}{cE:Cq}{s s':St}
theorem KV{all:Array Oper}{R:Exit->Act->World->Prop}(hnt:nt<1000000000){Q:St->Prop}:∀(l:List Nat)(os:List Oper)(s:St)(S:Nat->Prop)(Kn:Nat->Prop)(φ:Nat->gW)(a:Act)(w:World),
  (∀(i j:Nat),l[i]?=some j->all[j]?=os[i]?)->l.length=os.length->WO P (os.map (gL P cE nt all)) s Q->HP S K w0 Kn φ gv nt s a w->
  (∀S' Kn' φ' s' a' w',Q s'->ia S w S' w'->HP S' K w0 Kn' φ' gv nt s' a' w'->R .normal a' w')->wpOps P all R l a w:=by
 intro l;induction l with
 |nil=>intro os s S Kn φ a w _ hl h hR hQ;obtain rfl:os=[]:=aQ.1 hl.symm;obtain⟨s1,h1,h2⟩:=h;obtain⟨S1,Kn1,φ1,h3,h4⟩:=h1 S K w0 Kn φ gv nt a w hR;exact hQ S1 Kn1 φ1 s1 a w h2 h3 h4
 |cons i l ih=>
  intro os s S Kn φ a w hi hl h hR hQ;cases os with
  |nil=>simp at hl
  |cons o os=>
   have ho:all[i]?=some o:=by simpa using hi 0 i rfl
   simp only[aD,WO]at h;obtain⟨s1,hsub,h⟩:=h;obtain⟨S1,Kn1,φ1,hs1,hR1⟩:=hsub S K w0 Kn φ gv nt a w hR;simp only[wpOps,ho];rcases h with⟨hw,call,v,u,aw,n,hok,hev,h⟩|⟨hw,h⟩
   .have hwant:=qW hR1.dF (by rw[hR1.size];exact hnt) hw;rw[if_pos hwant];left
    have hdst:∀x,o.dst=some x->x<a.tmps.size:=by
     intro x hx;rw[hR1.size];rcases fE x nt with h1|h1
     .exact h1
     .exfalso;have:(gL P cE nt all o).k=.gG:=by simp only[gL,hx];rw[if_neg (by simp;omega)]
      rw[this,fZ]at hev;simp at hev
    have hk:yq P cE o.op=((gL P cE nt all o).k,(gL P cE nt all o).args):=by
     have:(gL P cE nt all o).k=(yq P cE o.op).1:=by simp only[gL];rw[if_pos];cases hd:o.dst with|none=>rfl|some d=>have:=hdst d hd;rw[hR1.size]at this;simpa using this
     rw[this];rfl
    have hgo:=EF hok hk hR1.inv hR1.dF (fun j hj _=>hR1.gV j hj) hev;refine hgo _ _ fun val w' hD=>?_;obtain⟨hle,S',φ',h1,h2,h3,h4⟩:=hD;refine ih os _ S' (qi Kn1 s1.next n) φ' _ w' (fun i' j hj=>hi (i'+1) j (by simpa using hj)) (by simpa using hl) h ⟨?_,?_,?_,?_,?_,?_⟩ fun S2 Kn2 φ2 s2 a2 w2 h0 h5 h6=>hQ S2 Kn2 φ2 s2 a2 w2 h0 ((hs1.trans h1).trans h5) h6
    .simp only[gU];exact h4
    .exact kA.LA hR1.dF h1 h2 hdst h3
    .rw [wg];exact hR1.size
    .rw [sZ];exact hR1.defers
    .intro j hj hk;simp only at hj;rcases hk with hk|hk
     .exact hR1.gV j (by omega) hk
     .omega
    .intro i c v hc hv;exact(hR1.gh i c v hc hv).mono h1 h2
   .have hwant:=qW hR1.dF (by rw[hR1.size];exact hnt) hw;rw[if_neg (by simp[hwant])];refine ih os _ S1 Kn1 φ1 _ w (fun i' j hj=>hi (i'+1) j (by simpa using hj)) (by simpa using hl) h ⟨hR1.inv,?_,?_,?_,hR1.gV,hR1.gh⟩ fun S2 Kn2 φ2 s2 a2 w2 h0 h5 h6=>hQ S2 Kn2 φ2 s2 a2 w2 h0 (hs1.trans h5) h6
    .exact kA.IV hR1.dF
    .rw [wg];exact hR1.size
    .rw [sZ];exact hR1.defers
theorem Ct{c:Code}{Q:Exit->Act->World->Prop}(J:Nat->Act->World->Prop)(n:Nat)(h₀:J n a w)
  (round:∀n a w,J n a w->c.wp P (Exit.then (fun a w=>∃m,m<n/\J m a w) Q) a w):(Code.loop c).wp P Q a w:=by
 intro b k cs
 have key:∀n a w,J n a w->∃e a' w',Q e a' w'/\Arrives P (lone (b.at a (.code c::.inLoop c::k)) cs w) b k cs e a' w':=by
  intro n;induction n using Nat.strongRecOn with
  |_ n ih=>intro a w hJ;obtain⟨e,a₁,w₁,hq,harr⟩:=round n a w hJ b (.inLoop c::k) cs;cases e with|normal=>obtain⟨m,hlt,hq⟩:=hq;obtain⟨e₂,a₂,w₂,hq₂,harr₂⟩:=ih m hlt a₁ w₁ hq;exact⟨e₂,a₂,w₂,hq₂,.of_steps (Steps.trans harr (.one step_inLoop)) harr₂⟩|exit id=>exact⟨_,a₁,w₁,hq,.pass (x:=.inLoop c) rfl (fun _ _=>.inl (by simp)) harr⟩|goto l=>exact⟨_,a₁,w₁,hq,.pass (x:=.inLoop c) rfl (fun _ _=>.inl (by simp)) harr⟩|ret=>exact⟨_,a₁,w₁,hq,.pass (x:=.inLoop c) rfl (fun _ _=>.inl (by simp)) harr⟩|panic ch=>exact⟨_,a₁,w₁,hq,.pass (x:=.inLoop c) rfl (fun _ _=>.inl (by simp)) harr⟩|outgrown=>exact⟨_,a₁,w₁,hq,.pass (x:=.inLoop c) rfl (fun _ _=>.inl (by simp)) harr⟩
 obtain⟨e,a',w',hq,harr⟩:=key n a w h₀;exact⟨e,a',w',hq,.of_steps (.one step_loop) harr⟩
def yM(S K:Nat->Prop)(w0 w:World)(gv:List Value)(nt:Nat)(Q:tO->St->Prop)(e:Exit)(a':Act)(w':World):Prop:=∃o s',Q o s'/\e=QJ o/\∃S' Kn' φ',ia S w S' w'/\HP S' K w0 Kn' φ' gv nt s' a' w'
theorem yM.trans{S':Nat->Prop}{w':World}(h:ia S w S' w'){Q:tO->St->Prop}{e:Exit}{a':Act}{w'':World}(hp:yM S' K w0 w' gv nt Q e a' w''):yM S K w0 w gv nt Q e a' w'':=by obtain⟨o,s',h0,h1,S'',Kn',φ',h2,h3⟩:=hp;exact⟨o,s',h0,h1,S'',Kn',φ',h.trans h2,h3⟩
theorem yM.BU{Q:tO->St->Prop}{o:tO}{a':Act}{w':World}{S' Kn':Nat->Prop}{φ':Nat->gW}(h:wk (Q o) s')(hs:ia S w S' w')(hR:HP S' K w0 Kn' φ' gv nt s' a' w'):yM S K w0 w gv nt Q (QJ o) a' w':=by obtain⟨s1,h1,h2⟩:=h;obtain⟨S1,Kn1,φ1,h3,h4⟩:=h1 S' K w0 Kn' φ' gv nt a' w' hR;exact⟨o,s1,h2,rfl,S1,Kn1,φ1,hs.trans h3,h4⟩
theorem Hy(hnt:nt<1000000000)(hm:P.follows .mixedOrders=true):∀(code:Code)(s:St)(Q:tO->St->Prop)(S:Nat->Prop)(Kn:Nat->Prop)(φ:Nat->gW)(a:Act)(w:World),
  W P (qR P cE nt code) s Q->HP S K w0 Kn φ gv nt s a w->code.wp P (yM S K w0 w gv nt Q) a w:=by
 intro code;induction code with
 |skip=>intro s Q S Kn φ a w h hR;exact wp_skip (yM.BU h (ia.refl _ _) hR)
 |region id ops draw=>
  intro s Q S Kn φ a w h hR;simp only[qR]at h;cases draw with
  |false=>
   simp only[aO,if_false,W]at h;refine wp_region ?_;refine KV (gv:=gv) (K:=K) (w0:=w0) hnt (List.range ops.size) ops.toList s S Kn φ a w ?_ (by simp) h hR fun S' Kn' φ' s' a' w' h0 h1 h2=>yM.BU (o:=.normal) h0 h1 h2;intro i j hj;obtain⟨hlt,rfl⟩:i<ops.size/\i=j:=by have:=ao.1 hj;obtain⟨h1,h2⟩:=this;simp at h1 h2;exact⟨h1,h2⟩
   simp
  |true=>
   simp only[if_true]at h;unfold xT at h;simp only at h;split at h
   .rename_i hc;simp only[ai]at hc;simp only[W]at h;obtain⟨s1,hsub,calls,e1,h1,tr,hok,hev,hdyn,hq⟩:=h;obtain⟨S1,Kn1,φ1,hs1,hR1⟩:=hsub S K w0 Kn φ gv nt a w hR;refine wp_region_any hm ?_;exact FC hok hnt rfl hc.1.1 hc.1.2 hev hdyn (by simpa using hc.2) hR1 fun S' Kn' φ' a' w' h1 h2=>yM.BU (o:=.normal) hq (hs1.trans h1) h2
   .simp [W]at h
 |seq x y ihx ihy=>intro s Q S Kn φ a w h hR;simp only[qR,W]at h;refine wp_seq ?_;refine wp_mono (ihx s _ S Kn φ a w h hR) fun e a' w' hp=>?_;obtain⟨o,s',h0,rfl,S',Kn',φ',h1,h2⟩:=hp;cases o with|normal=>exact wp_mono (ihy s' Q S' Kn' φ' a' w' h0 h2) fun e a'' w'' hp=>hp.trans h1|exit id=>exact⟨.exit id,s',h0,rfl,S',Kn',φ',h1,h2⟩|ret=>exact⟨.ret,s',h0,rfl,S',Kn',φ',h1,h2⟩
 |cond c x y ihx ihy=>intro s Q S Kn φ a w h hR;simp only[qR,W]at h;obtain⟨s1,hsub,t,ht,h1,h2⟩:=h;obtain⟨S1,Kn1,φ1,hs1,hR1⟩:=hsub S K w0 Kn φ gv nt a w hR;have hv:=(uF hR1.inv.C9 hR1.dF ht).lit.1;refine wp_cond hv ?_;cases t with|true=>exact wp_mono (ihx s1 Q S1 Kn1 φ1 a w (h1 rfl) hR1) fun _ _ _ hp=>hp.trans hs1|false=>exact wp_mono (ihy s1 Q S1 Kn1 φ1 a w (h2 rfl) hR1) fun _ _ _ hp=>hp.trans hs1
 |block id x ih=>
  intro s Q S Kn φ a w h hR;simp only[qR,W]at h;refine wp_block ?_;refine wp_mono (ih s _ S Kn φ a w h hR) fun e a' w' hp=>?_;obtain⟨o,s',h0,rfl,hp⟩:=hp;cases o with
  |normal=>exact⟨.normal,s',h0,rfl,hp⟩
  |ret=>exact⟨.ret,s',h0,rfl,hp⟩
  |exit id'=>
   simp only[QJ,Exit.inBlock];simp only[wX]at h0;by_cases hid:id'=id
   .rw [if_pos hid]at h0|-;exact⟨.normal,s',h0,rfl,hp⟩
   .rw [if_neg hid]at h0|-;exact⟨.exit id',s',h0,rfl,hp⟩
 |loop x ih=>intro s Q S Kn φ a w h hR;simp only[qR,W]at h;obtain⟨I,n,⟨s0,hsub,hI⟩,hstep⟩:=h;obtain⟨S0,Kn0,φ0,hs0,hR0⟩:=hsub S K w0 Kn φ gv nt a w hR;refine Ct (J:=fun n a' w'=>∃s1 S1 Kn1 φ1,ia S w S1 w'/\HP S1 K w0 Kn1 φ1 gv nt s1 a' w'/\I n s1) n ⟨s0,S0,Kn0,φ0,hs0,hR0,hI⟩ fun n a1 w1 hJ=>?_;obtain⟨s1,S1,Kn1,φ1,h1,h2,h3⟩:=hJ;refine wp_mono (ih s1 _ S1 Kn1 φ1 a1 w1 (hstep n s1 h3) h2) fun e a' w' hp=>?_;obtain⟨o,s2,h0,rfl,S2,Kn2,φ2,h4,h5⟩:=hp;cases o with|normal=>obtain⟨m,hm,s3,h6,h7⟩:=h0;obtain⟨S3,Kn3,φ3,h8,h9⟩:=h6 S2 K w0 Kn2 φ2 gv nt a' w' h5;exact⟨m,hm,s3,S3,Kn3,φ3,(h1.trans h4).trans h8,h9,h7⟩|exit id=>exact⟨.exit id,s2,h0,rfl,S2,Kn2,φ2,h1.trans h4,h5⟩|ret=>exact⟨.ret,s2,h0,rfl,S2,Kn2,φ2,h1.trans h4,h5⟩
 |exit id=>intro s Q S Kn φ a w h hR;exact wp_exit (yM.BU (o:=.exit id) h (ia.refl _ _) hR)
 |ret=>intro s Q S Kn φ a w h hR;exact wp_ret (yM.BU (o:=.ret) h (ia.refl _ _) hR)
 |scope x ih=>intro s Q S Kn φ a w h hR;refine wp_scope_straight (wp_mono (ih s Q S Kn φ a w h hR) fun e a' w' hp=>?_);obtain⟨o,s',h0,rfl,h1⟩:=hp;cases o<;>exact⟨_,s',h0,rfl,h1⟩
 |label l=>intro s Q S Kn φ a w h hR;exact wp_label (yM.BU (o:=.normal) h (ia.refl _ _) hR)
 |_=>intro s Q S Kn φ a w h hR;simp[qR,W]at h
end
def Oe(P:Program):ResultVar->Option RV
 |.tmp t=>some (.tmp t)
 |.cell a t=>match YW P t,fX P t with|some g,some n=>some (.cell a g n)|_,_=>none
def BI(P:Program):List ResultVar->Option (List RV)
 |[]=>some []
 |r::rs=>match Oe P r,BI P rs with|some x,some xs=>some (x::xs)|_,_=>none
def AE(P:Program)(cE:Cq)(f np:Nat):Option Fn:=
 match P.funcs[f]?with
 |none=>none
 |some g=>
  match g.body with
  |none=>none
  |some code=>
   if(g.name== "runtime.NumGoroutine")=false/\np<=g.ntmps/\g.ntmps<1000000000 then
    match BI P g.results.toList with|some lX=>some ⟨np,g.ntmps,lX,qR P cE g.ntmps code⟩|none=>none
   else none
section
variable{P:Program}{S K:Nat->Prop}{w0 w:World}{gv:List Value}{nt:Nat}{a:Act}{call:Call}{cE:Cq}{s s':St}
theorem Fy:∀(as:List A){Kn:Nat->Prop}{φ:Nat->gW}{hf:Nat->Option Ob}(vs:List Value)(fp:List Nat)(i n:Nat),Inv S K w0 Kn φ hf w->(∀j,n<=j->¬Kn j)->NP S w as vs fp->fp.Nodup->
  (∀b∈fp,¬S b/\¬K b)->uZ w φ hf fp->
  ∃φ',tD S K w0 w Kn φ hf fp n (enter as i n).2.2.1 (enter as i n).2.1 φ'/\
   (∀t x,cn (enter as i n).1 t=some x->i<=t/\∃v,vs[t-i]?=some v/\gw S w (qi Kn n (enter as i n).2.2.1) φ' x v)/\
   (∀(k:Nat)(c:C)(v:Value),(enter as i n).2.2.2[k]?=some c->(ol as vs)[k]?=some v->RC S w (qi Kn n (enter as i n).2.2.1) φ' c v)/\
   (enter as i n).2.2.2.length=(ol as vs).length/\as.length=vs.length:=by
 intro as;induction as with
 |nil=>intro Kn φ hf vs fp i n hI hfr h hn hSK ha;cases vs with|cons v vs=>exact h.elim|nil=>obtain rfl:fp=[]:=h;exact⟨φ,tD.nil hI _ _,fun t x hx=>by simp[enter,cn]at hx,fun k c v hk=>by simp[enter]at hk,rfl,rfl⟩
 |cons x as ih=>
  intro Kn φ hf vs fp i n hI hfr h hn hSK ha;cases vs with
  |nil=>exact h.elim
  |cons v vs=>
   obtain⟨f1,f2,rfl,h1,h2⟩:=h;have next:∀{e:kA}{i':Nat}{t:Nat}{x:TV}{φ':Nat->gW}{Kn':Nat->Prop},i+1<=t/\(∃v,vs[t-(i+1)]?=some v/\gw S w Kn' φ' x v)->i<=t/\∃v',(v::vs)[t-i]?=some v'/\gw S w Kn' φ' x v':=by intro e i' t x φ' Kn' ⟨q1,v',q2,q3⟩;refine⟨by omega,v',?_,q3⟩;rw[show t-i=(t-(i+1))+1 by omega];simpa using q2
   cases x with
   |d y=>
    obtain⟨h1,rfl⟩:=h1;obtain⟨φ',q1,q2,q3,q4,q5⟩:=ih (Kn:=Kn) (φ:=φ) (hf:=hf) vs f2 (i+1) n hI hfr h2 (by simpa using hn) (by simpa using hSK) (by simpa using ha);refine⟨φ',q1,fun t x hx=>?_,q3,q4,by simp[q5]⟩;simp only[enter,cn]at hx;by_cases e:i=t
    .subst e;simp at hx;subst hx;exact⟨am _,v,by simp,.c (.d h1)⟩
    .have e':(i==t)=false:=by simpa using e
     rw[e',cond_false]at hx;exact next (e:=[]) (i':=0) (q2 t x hx)
   |agg xs=>
    obtain⟨aL,rfl,hlen,h1,rfl⟩:=h1;obtain⟨φ',q1,q2,q3,q4,q5⟩:=ih (Kn:=Kn) (φ:=φ) (hf:=hf) vs f2 (i+1) n hI hfr h2 (by simpa using hn) (by simpa using hSK) (by simpa using ha);refine⟨φ',q1,fun t x hx=>?_,q3,q4,by simp[q5]⟩;simp only[enter,cn]at hx;by_cases e:i=t
    .subst e;simp at hx;subst hx;refine⟨am _,_,by simp;rfl,.agg (by simpa using hlen) fun j x hj=>?_⟩;rw[aK]at hj;obtain⟨d,hd,rfl⟩:=aG.1 hj;exact .d (h1 j d hd)
    .have e':(i==t)=false:=by simpa using e
     rw[e',cond_false]at hx;exact next (e:=[]) (i':=0) (q2 t x hx)
   |mt t0=>
    rw[cC]at hn;obtain⟨hn1,hn2,hn3⟩:=hn;simp only[ap]at hSK;obtain⟨φ1,hL1,hr1⟩:=w_ t0 n v f1 hI (fun j hj _=>hfr j hj) h1 hn1 (fun b hb=>hSK b (.inl hb)) (fun j o hj hown x hx hm=>ha j o hj hown x hx (by simp[hm]))
    obtain⟨φ2,hL2,q2,q3,q4,q5⟩:=ih (Kn:=qi Kn n (lW n t0).2.2) (φ:=φ1) (hf:=bn (lW n t0).2.1 hf) vs f2 (i+1) (lW n t0).2.2 hL1.inv (fun j hj hk=>by
     rcases hk with hk|hk
     .have:=hL1.le;exact hfr j (by omega) hk
     .omega) h2 hn2 (fun b hb=>hSK b (.inr hb)) (hL1.Py hI (fun j o hj hown x hx hm=>ha j o hj hown x hx (by simp[hm])) fun x hx hx2=>hn3 x hx x hx2 rfl)
    have hcomp:=hL1.qR hL2;have hcm:bn ((enter as (i+1) (lW n t0).2.2).2.1++(lW n t0).2.1) hf=bn ((lW n t0).2.1++(enter as (i+1) (lW n t0).2.2).2.1) hf:=nH fun p hp q hq e=>by have h1:=hL2.gV p hp;have h2:=hL1.gV q hq;omega
    have hsub:∀j,qi (qi Kn n (lW n t0).2.2) (lW n t0).2.2 (enter as (i+1) (lW n t0).2.2).2.2.1 j->qi Kn n (enter as (i+1) (lW n t0).2.2).2.2.1 j:=fun j=>(tj hL1.le hL2.le j).1;refine⟨φ2,?_,fun t x hx=>?_,fun k c v' hk hv=>?_,by simp[enter,ol,q4],by simp[q5]⟩
    .simp only[enter];have hsw:∀{p:Nat×Option Ob}{a b:fN},p∈a++b->p∈b++a:=fun hp=>ap.2 (ap.1 hp).symm;exact⟨hcomp.le,hcomp.t6,hcm▸hcomp.inv,fun p hp=>hcomp.gV p (hsw hp),fun p hp x hx=>hcomp.cQ p (hsw hp) x (hcm.symm▸hx)⟩
    .simp only[enter,cn]at hx|-;by_cases e:i=t
     .subst e;simp at hx;subst hx;exact⟨am _,v,by simp,.c ((hr1.mono (ia.refl _ _) hL2.t6).kn hsub)⟩
     .have e':(i==t)=false:=by simpa using e
      rw[e',cond_false]at hx;obtain⟨p1,v',p2,p3⟩:=q2 t x hx;exact next (e:=[]) (i':=0) ⟨p1,v',p2,p3.mono (ia.refl _ _) ⟨hsub,fun _ _=>rfl⟩⟩
    .simp only[enter]at hk|-;simp only[ol]at hv;cases k with
     |zero=>
      obtain rfl:(lW n t0).1=c:=by simpa using hk
      obtain rfl:v=v':=by simpa using hv
      exact(hr1.mono (ia.refl _ _) hL2.t6).kn hsub
     |succ k=>exact(q3 k c v' (by simpa using hk) (by simpa using hv)).kn hsub
theorem Ew{Kn:Nat->Prop}{φ:Nat->gW}{H:bD}(hI:Inv S K w0 Kn φ (az H) w){v:TV}{r:R}{bq:List Nat}{x:Value}(h:tF H v=some (r,bq))(hv:gw S w Kn φ v x):
  RR S w r x (bq.flatMap (iH w φ (az H)))/\∀i∈bq,∃o,az H i=some o/\cL o=true:=by
 cases hv with
 |c hv=>
  simp only[tF]at h;split at h
  .rename_i t aw rd hp;obtain⟨rfl,rfl⟩:R.c t=r/\aw=bq:=by simpa using h
   exact(te hI 300).1 _ _ _ _ _ hp hv
  .simp at h
 |@agg cs aL hlen hv=>
  simp only[tF]at h;split at h
  .rename_i ts aw rd hp;obtain⟨rfl,rfl⟩:R.agg ts=r/\aw=bq:=by simpa using h
   obtain⟨h1,⟨fps,h2,h3,h4⟩,h5⟩:=(te hI 300).2 _ _ _ _ hp (fun i=>aL.getD i undef) hv;exact⟨⟨aL,fps,rfl,h1.trans hlen,h2,h3,h4⟩,h5⟩
  .simp at h
 |jA hlen hv=>simp[tF]at h
theorem CQ{Kn:Nat->Prop}{φ:Nat->gW}{H:bD}(hI:Inv S K w0 Kn φ (az H) w):∀(tvs:List TV)(vs:List Value)(rs:List R)(bq:List Nat),vA H tvs=some (rs,bq)->tvs.length=vs.length->
  (∀(i:Nat)(t:TV)(v:Value),tvs[i]?=some t->vs[i]?=some v->gw S w Kn φ t v)->FW S w rs vs (bq.flatMap (iH w φ (az H)))/\∀i∈bq,∃o,az H i=some o/\cL o=true:=by
 intro tvs;induction tvs with
 |nil=>
  intro vs rs bq h hl hr;obtain⟨rfl,rfl⟩:[]=rs/\[]=bq:=by simpa[vA]using h
  obtain rfl:vs=[]:=aQ.1 hl.symm;exact⟨rfl,fun i hi=>by simp at hi⟩
 |cons t tvs ih=>
  intro vs rs bq h hl hr;cases vs with
  |nil=>simp at hl
  |cons v vs=>
   simp only[vA]at h;split at h
   .rename_i r o1 rs1 o2 hp hps;obtain⟨rfl,rfl⟩:r::rs1=rs/\o1++o2=bq:=by simpa using h
    obtain⟨a1,a2⟩:=Ew hI hp (hr 0 t v rfl rfl);obtain⟨b1,b2⟩:=ih vs rs1 o2 hps (by simpa using hl) (fun i t v hi hv=>hr (i+1) t v (by simpa using hi) (by simpa using hv));refine⟨⟨_,_,by simp,a1,b1⟩,fun i hi=>?_⟩;rcases ap.1 hi with hi|hi
    .exact a2 i hi
    .exact b2 i hi
   .simp at h
inductive wW(h:bD):List C->List T->List Nat->Prop
 |nil:wW h [] [] []
 |cons {c:C} {cs:List C} {t:T} {ts:List T} {a i b:List Nat} (h1:fc h 300 c=some (t,a,i)) (h2:wW h cs ts b):wW h (c::cs) (t::ts) (a++b)
 |wK {c:C} {cs:List C} {ts:List T} {b:List Nat} (h2:wW h cs ts b):wW h (c::cs) (.wK::ts) b
theorem Ey{Kn:Nat->Prop}{φ:Nat->gW}{H:bD}(hI:Inv S K w0 Kn φ (az H) w){cs:List C}{ts:List T}{bq:List Nat}(h:wW H cs ts bq):∀(vs:List Value),cs.length=vs.length->
  (∀(i:Nat)(c:C)(v:Value),cs[i]?=some c->vs[i]?=some v->RG S w Kn φ c v)->NH S w ts vs (bq.flatMap (iH w φ (az H)))/\∀i∈bq,∃o,az H i=some o/\cL o=true:=by
 induction h with
 |nil=>intro vs hl hr;obtain rfl:vs=[]:=aQ.1 hl.symm;exact⟨rfl,fun i hi=>by simp at hi⟩
 |@cons c cs t ts a rd b hp _ ih=>
  intro vs hl hr;cases vs with
  |nil=>simp at hl
  |cons v vs=>
   have hrc:RC S w Kn φ c v:=(hr 0 c v rfl rfl).resolve_left fun e=>by subst e;simp[tJ,fc]at hp
   obtain⟨a1,a2⟩:=(te hI 300).1 _ _ _ _ _ hp hrc;obtain⟨b1,b2⟩:=ih vs (by simpa using hl) (fun i t v hi hv=>hr (i+1) t v (by simpa using hi) (by simpa using hv));refine⟨⟨_,_,by simp,.inr a1,b1⟩,fun i hi=>?_⟩;rcases ap.1 hi with hi|hi
   .exact a2 i hi
   .exact b2 i hi
 |@wK c cs ts b _ ih=>intro vs hl hr;cases vs with|nil=>simp at hl|cons v vs=>obtain⟨b1,b2⟩:=ih vs (by simpa using hl) (fun i t v hi hv=>hr (i+1) t v (by simpa using hi) (by simpa using hv));exact⟨⟨[],_,rfl,.inl ⟨rfl,rfl⟩,b1⟩,b2⟩
def x5(lX:List RV)(s:St)(rs:List R)(outs:List T):Prop:=∃vs a b,eX (lX.map (yd s))=some vs/\vA s.heap vs=some (rs,a)/\wW s.heap s.gh outs b/\(a++b).Nodup
def sV(tmps:Array Value):ResultVar->Sem Value
 |.tmp t=>pure (tmps.getD t undef)
 |.cell a t=>do loadVar t (<-asAddr (tmps.getD a undef))
theorem E5{t:TypeId}{pv val:Value}(h:(Instr.loadAt t pv).run P w=.ok val w):(do loadVar t (<-asAddr pv):Sem Value).run P w=.ok val w:=by
 cases pv with
 |pointer x=>cases x with|some a=>simpa[Instr.loadAt,Instr.sureAddr,asAddr]using h|none=>simp[Instr.loadAt,Instr.sureAddr]at h
 |_=>simp[Instr.loadAt,Instr.sureAddr]at h
theorem CL{Kn:Nat->Prop}{φ:Nat->gW}(hI:Inv S K w0 Kn φ (az s.heap) w)(hE:kA.ok S w Kn φ s.dF a.tmps){r:ResultVar}{x:RV}{v:TV}(hr:Oe P r=some x)(h:yd s x=some v):
  ∃val,(sV a.tmps r).run P w=.ok val w/\gw S w Kn φ v val:=by
 cases r with
 |tmp t=>
  obtain rfl:RV.tmp t=x:=by simpa[Oe]using hr
  exact⟨_,by simp[sV],hE t v h⟩
 |cell t ty=>
  simp only[Oe]at hr;split at hr
  .rename_i g n hg hn;obtain rfl:=aa hr;simp only[yd]at h;split at h
   .rename_i p hp;split at h
    .rename_i v' aw hl;obtain rfl:=aa h;cases hE t _ hp with|c hc=>obtain⟨val,h1,h2⟩:=zK hg hn hI hc hl;exact⟨val,E5 h1,h2⟩
    .simp at h
   .simp at h
  .simp at hr
theorem Be{Kn:Nat->Prop}{φ:Nat->gW}(hI:Inv S K w0 Kn φ (az s.heap) w)(hE:kA.ok S w Kn φ s.dF a.tmps):∀(rs:List ResultVar)(xs:List RV)(tvs:List TV),BI P rs=some xs->eX (xs.map (yd s))=some tvs->
  ∃vs,(rs.mapM (sV a.tmps)).run P w=.ok vs w/\tvs.length=vs.length/\∀(i:Nat)(t:TV)(v:Value),tvs[i]?=some t->vs[i]?=some v->gw S w Kn φ t v:=by
 intro rs;induction rs with
 |nil=>
  intro xs tvs h1 h2;obtain rfl:[]=xs:=by simpa[BI]using h1
  obtain rfl:[]=tvs:=by simpa[eX]using h2
  exact⟨[],by simp,rfl,fun i t v hi=>by simp at hi⟩
 |cons r rs ih=>
  intro xs tvs h1 h2;simp only[BI]at h1;split at h1
  .rename_i x xs1 hx hxs;obtain rfl:=aa h1;simp only[aD]at h2;cases hv:yd s x with
   |none=>rw[hv]at h2;simp[eX]at h2
   |some v=>
    rw[hv]at h2;simp only[eX]at h2;split at h2
    .rename_i tvs1 htv;obtain rfl:=aa h2;obtain⟨val,q1,q2⟩:=CL hI hE hx hv;obtain⟨vs,q3,q4,q5⟩:=ih xs1 tvs1 hxs htv;refine⟨val::vs,by simp[List.mapM_cons,q1,q3],by simp[q4],fun i t v' hi hv'=>?_⟩;cases i with
     |zero=>
      obtain rfl:v=t:=by simpa using hi
      obtain rfl:val=v':=by simpa using hv'
      exact q2
     |succ i=>exact q5 i t v' (by simpa using hi) (by simpa using hv')
    .simp at h2
  .simp at h1
theorem D5{g:Func}{tmps:Array Value}{vs:List Value}(h:(g.results.toList.mapM (sV tmps)).run P w=.ok vs w):(results g tmps).run P w=.ok (zN vs) w:=by
 have e:results g tmps=(do let vs<-g.results.mapM (sV tmps);pure (if h:vs.size=1 then vs[0]else .tuple vs)):=rfl;have e2:g.results.mapM (sV tmps)=(do let vs<-g.results.toList.mapM (sV tmps);pure vs.toArray):=by rw[Array.mapM_eq_mapM_toList,bind_pure_comp]
 rw[e,e2];simp only[Sem.run_bind,h,Result.andThen_ok,Sem.run_pure]
 match vs with|[]=>rfl|[v]=>rfl|v::v'::r=>simp[zN]
def QE(sz:Nat):Option (List (List D))->D
 |none=>.lit (.slice none 0 0)
 |some rows=>.sl sz rows
mutual
def tN:T->D
 |.d x=>x
 |.wK=>.lit .nilFunc
 |.sl sz rows=>.sl sz rows
 |.AZ sz rows=>.sl 1 (rows.map fun r=>[QE sz r])
 |.pt ts=>.pt (O3 ts)
def O3:List T->List D
 |[]=>[]
 |t::ts=>tN t::O3 ts
end
theorem MN:∀ts:List T,O3 ts=ts.map tN:=by intro ts;induction ts with|nil=>rfl|cons t ts ih=>simp[O3,ih]
theorem RT.B5{S S':Nat->Prop}{w:World}{t:T}{v:Value}{fp:List Nat}(h:RT S w t v fp)(hS:∀b,S b->S' b)(hb:∀b∈fp,S' b):RD S' w (tN t) v:=by
 have eE:ia S w S' w:=⟨hS,fun _ _=>rfl⟩
 induction h with
 |d h=>exact h.mono eE
 |@sl sz rows b off len cap aL hsz ho hlen hcap hext hr=>
  subst hlen;refine .sl (fun i j=>aL.getD (off+i*sz+j) undef) (hb b (by simp)) hsz hcap hr.1 (fun i r hi j x hj=>?_) (fun i r hi j x hj=>?_)
  .obtain ⟨v,h1,h2⟩:=hr.2 i r hi j x hj;simp only at h1;rw[ho.cell,h1,br,h1];rfl
  .obtain ⟨v,h1,h2⟩:=hr.2 i r hi j x hj;simp only at h1;rw[br,h1];exact h2.mono eE
 |@AZ sz rows b off cap aL fps hsz ho hcap hext hfl h=>
  have key:=RD.BE (S:=S') (w:=w) (sz:=1) (rows:=rows.map fun r=>[QE sz r]) (b:=b) (off:=off) (len:=rows.length) (cap:=cap) (hb b (by simp)) Nat.one_pos (by simp) hcap ⟨fun i r hi=>?_,fun i r hi j x hj=>?_⟩
  .exact key
  .rw [aK]at hi;obtain⟨r',_,rfl⟩:=aG.1 hi;rfl
  .rw [aK]at hi;obtain⟨r',hr',rfl⟩:=aG.1 hi;have hl:=(ao.1 hr').1;cases j with
   |succ j=>simp at hj
   |zero=>
    obtain rfl:QE sz r'=x:=by simpa using hj
    obtain⟨v,h1,h2⟩:=h i r' fps[i] hr' (aB (by omega));refine⟨v,by rw[Nat.mul_one,cT];exact(ho.cell _).trans h1,?_⟩;cases r' with|none=>obtain⟨rfl,_⟩:=h2;exact .lit rfl|some rows'=>obtain⟨b',q1,q2⟩:=h2;exact q2.rd eE (hb b' (av _ (dO.2 ⟨fps[i],List.getElem_mem _,by rw[q1];simp⟩)))
 |@pt ts b aL fps ho hlen hfl h ih=>
  simp only[tN,MN];have hlt:∀(j:Nat)(x:D),(ts.map tN)[j]?=some x->∃t f,ts[j]?=some t/\fps[j]?=some f/\x=tN t:=by intro j x hj;rw[aK]at hj;obtain⟨t,ht,rfl⟩:=aG.1 hj;have hl:=(ao.1 ht).1;exact⟨t,_,ht,aB (by omega),rfl⟩
  have key:=RD.pt (S:=S') (w:=w) (cells:=ts.map tN) (b:=b) (off:=0) (fun j=>aL.getD j undef) (hb b (by simp)) (fun j x hj=>?_) (fun j x hj=>?_)
  .exact key
  .obtain ⟨t,f,h1,h2,rfl⟩:=hlt j x hj;have hl:=(ao.1 h1).1;rw[bJ,ho.cell,br,jY (by omega)];rfl
  .obtain ⟨t,f,h1,h2,rfl⟩:=hlt j x hj;exact ih j t f h1 h2 fun b hbm=>hb b (av _ (dO.2 ⟨f,aR h2,hbm⟩))
def Ka:R->R
 |.c t=>.c (.d (tN t))
 |.agg ts=>.agg (ts.map fun t=>.d (tN t))
def u_:List Bool->List R->List R
 |b::bs,r::rs=>(if b then Ka r else r)::u_ bs rs
 |_,rs=>rs
theorem RR.z8{S S':Nat->Prop}{w:World}(hS:∀b,S b->S' b){r:R}{v:Value}{fp:List Nat}(h:RR S w r v fp):RR S' w r v fp:=by
 have eE:ia S w S' w:=⟨hS,fun _ _=>rfl⟩
 cases r with|c t=>exact RT.mono eE h fun _ _=>rfl|agg ts=>obtain⟨aL,fps,h1,h2,h3,h4,h5⟩:=h;exact⟨aL,fps,h1,h2,h3,h4,fun i t f hi hf=>(h5 i t f hi hf).mono eE fun _ _=>rfl⟩
theorem RR.B5{S S':Nat->Prop}{w:World}(hS:∀b,S b->S' b){r:R}{v:Value}{fp:List Nat}(h:RR S w r v fp)(hb:∀b∈fp,S' b):RR S' w (Ka r) v []:=by
 cases r with
 |c t=>exact .d (RT.B5 h hS hb)
 |agg ts=>
  obtain⟨aL,fps,h1,h2,h3,h4,h5⟩:=h;refine⟨aL,ts.map fun _=>[],h1,by simp[h2],by simp,?_,fun i t f hi hf=>?_⟩
  .clear h5 h3 h2;induction ts with|nil=>rfl|cons t ts ih=>simp
  .simp only[aK,aG]at hi hf;obtain⟨t0,ht0,rfl⟩:=hi;obtain⟨_,_,rfl⟩:=hf;have hl:=(ao.1 ht0).1;have hf:fps[i]?=some _:=aB (by omega);refine .d ((h5 i t0 _ ht0 hf).B5 hS fun b hbm=>hb b ?_);rw[<-h4];exact dO.2 ⟨_,aR hf,hbm⟩
theorem FW.z8{S S':Nat->Prop}{w:World}(hS:∀b,S b->S' b):∀{rs:List R}{vs:List Value}{fp:List Nat},FW S w rs vs fp->FW S' w rs vs fp:=by
 intro rs;induction rs with
 |nil=>intro vs fp h;cases vs<;>exact h
 |cons r rs ih=>intro vs fp h;cases vs with|nil=>exact h|cons v vs=>obtain⟨f1,f2,h1,h2,h3⟩:=h;exact⟨f1,f2,h1,h2.z8 hS,ih h3⟩
theorem FW.B5{S:Nat->Prop}{w:World}:∀(m:List Bool)(rs:List R)(vs:List Value)(fp:List Nat),FW S w rs vs fp->fp.Nodup->
  ∃fpK,fpK.Sublist fp/\∀S':Nat->Prop,(∀b,S b->S' b)->(∀b∈fp,b∉fpK->S' b)->FW S' w (u_ m rs) vs fpK:=by
 intro m;induction m with
 |nil=>intro rs vs fp h hn;exact⟨fp,cf _,fun S' hS _=>by cases rs<;>exact h.z8 hS⟩
 |cons b m ih=>
  intro rs vs fp h hn;cases rs with
  |nil=>exact⟨fp,cf _,fun S' hS _=>h.z8 hS⟩
  |cons r rs=>
   cases vs with
   |nil=>exact h.elim
   |cons v vs=>
    obtain⟨f1,f2,rfl,h2,h3⟩:=h;obtain⟨n1,n2,n3⟩:=cC.1 hn;obtain⟨fpK,hsub,hk⟩:=ih rs vs f2 h3 n2;cases b with
    |true=>refine⟨fpK,hsub.trans (List.sublist_append_right _ _),fun S' hS hb=>⟨[],fpK,rfl,h2.B5 hS fun b hbm=>hb b (aA _ hbm) fun hb2=>n3 b hbm b (hsub.subset hb2) rfl,hk S' hS fun b hbm hb2=>hb b (aC _ hbm) hb2⟩⟩
    |false=>
     refine⟨f1++fpK,db.append (cf _) hsub,fun S' hS hb=>⟨f1,fpK,rfl,h2.z8 hS,hk S' hS fun b hbm hb2=>hb b (aC _ hbm) fun hb3=>?_⟩⟩;rcases ap.1 hb3 with h|h
     .exact n3 b h b hbm rfl
     .exact hb2 h
theorem FW.lt{S:Nat->Prop}{w:World}:∀{rs:List R}{vs:List Value}{fp:List Nat},FW S w rs vs fp->∀b∈fp,b<w.heap.size:=by
 intro rs;induction rs with
 |nil=>intro vs fp h b hb;cases vs with|nil=>have h':fp=[]:=h;subst h';simp at hb|cons _ _=>exact h.elim
 |cons r rs ih=>
  intro vs fp h b hb;cases vs with
  |nil=>exact h.elim
  |cons v vs=>
   obtain⟨f1,f2,rfl,h2,h3⟩:=h;rcases ap.1 hb with hb|hb
   .cases r with|c t=>exact RT.lt h2 b hb|agg ts=>obtain⟨aL,fps,_,q2,q3,rfl,q5⟩:=h2;obtain⟨fp,hfp,hbf⟩:=dO.1 hb;obtain⟨i,hi,rfl⟩:=List.getElem_of_mem hfp;exact(q5 i _ _ (aB (by omega:i<ts.length)) (aB hi)).lt b hbf
   .exact ih h3 b hb
theorem NH.z8{S S':Nat->Prop}{w:World}(hS:∀b,S b->S' b):∀{ts:List T}{vs:List Value}{fp:List Nat},NH S w ts vs fp->NH S' w ts vs fp:=by
 intro ts;induction ts with
 |nil=>intro vs fp h;cases vs<;>exact h
 |cons r rs ih=>intro vs fp h;cases vs with|nil=>exact h|cons v vs=>obtain⟨f1,f2,h1,h2,h3⟩:=h;exact⟨f1,f2,h1,h2.imp id fun h2=>RT.mono ⟨hS,fun _ _=>rfl⟩ h2 fun _ _=>rfl,ih h3⟩
theorem Left.B5{S:Nat->Prop}{w w':World}{fp:List Nat}{rs:List R}{outs:List T}{lent:List Value}{v:Value}(m:List Bool)(h:Left S w fp rs outs lent v w'):Left S w fp (u_ m rs) outs lent v w':=by
 obtain⟨S',lX,fp1,fp2,h1,h2,h3,h4,h5,h6,h7,h8,h9⟩:=h;obtain⟨n1,n2,n3⟩:=cC.1 h7;obtain⟨fpK,hsub,hk⟩:=FW.B5 m rs lX fp1 h5 n1
 refine⟨fun b=>S' b\/(b∈fp1/\b∉fpK),lX,fpK,fp2,h1,⟨fun b hb=>.inl (h2.sub b hb),h2.same⟩,fun b hb=>?_,fun b hb=>?_,hk _ (fun b hb=>.inl hb) (fun b hb hb2=>.inr ⟨hb,hb2⟩),
  NH.z8 (fun b hb=>.inl hb) h6,?_,fun b hb=>?_,h9⟩
 .rcases hb with hb|hb
  .exact h3 b hb
  .exact .inr (h8 b (aA _ hb.1)).2
 .rcases hb with hb|hb
  .exact h4 b hb
  .exact FW.lt h5 b hb.1
 .exact (db.append hsub (cf fp2)).nodup h7
 .rcases ap.1 hb with hb|hb
  .exact ⟨fun h=>h.elim (h8 b (aA _ (hsub.subset hb))).1 fun h=>h.2 hb,(h8 b (aA _ (hsub.subset hb))).2⟩
  .exact ⟨fun h=>h.elim (h8 b (aC _ hb)).1 fun h=>n3 b h.1 b hb rfl,(h8 b (aC _ hb)).2⟩
def NK(lX:List RV)(m:List Bool)(len:Nat)(rs:List R)(outs:List T):tO->St->Prop
 |.exit _,_=>False
 |.normal,s=>wk (fun s=>s.gh.length=len/\∃rs0,x5 lX s rs0 outs/\u_ m rs0=rs) s
 |.ret,s=>wk (fun s=>s.gh.length=len/\∃rs0,x5 lX s rs0 outs/\u_ m rs0=rs) s
def qe(as:List A):St:=⟨(enter as 0 0).1,(enter as 0 0).2.1,(enter as 0 0).2.2.1,(enter as 0 0).2.2.2⟩
def Wr(P:Program)(F:Fn)(m:List Bool)(as:List A)(rs:List R)(outs:List T):Prop:=as.length=F.np/\W P F.body (qe as) (NK F.lX m (qe as).gh.length rs outs)
def Ws(s:St)(Q:St->Prop):Prop:=∀(S K:Nat->Prop)(w0:World)(Kn:Nat->Prop)(φ:Nat->gW)(gv:List Value)(nt:Nat)(a:Act)(w:World),HP S K w0 Kn φ gv nt s a w->∃s1,Q s1/\HP S K w0 Kn φ gv nt s1 a w
theorem MP(hm:P.follows .mixedOrders=true){f np:Nat}{F:Fn}(hF:AE P cE f np=some F){as:List A}{rs:List R}{outs:List T}
  {m:List Bool} (h:as.length=F.np/\Ws (qe as) fun s=>W P F.body s (NK F.lX m (qe as).gh.length rs outs)):AW P f as rs outs:=by
 unfold AE at hF;split at hF
 .simp at hF
 rename_i g hg;split at hF
 .simp at hF
 rename_i code hb;split at hF
 case isFalse=>simp at hF
 rename_i hc;obtain⟨hname,hnp,hnt⟩:=hc;split at hF
 case h_2=>simp at hF
 rename_i lX hrv;obtain rfl:=aa hF;obtain⟨hlen,h⟩:=h;simp only at hlen h;intro S w vs fp hlt hargs hnd hfp hglob;left;refine⟨f,vs.toArray,?_,?_⟩
 .simp [callFunc,run_program,hg,hb];intro e;rw[e]at hname;simp at hname
 refine calls_of_wp hg hb ?_;have hI0:Inv S (fun b=>b<w.heap.size/\b∉fp/\¬S b) w (fun _=>False) (fun _=>default) (az []) w:=by refine⟨hlt,fun b hb h=>h.2.2 hb,⟨fun b hb=>hb.1,fun _ _=>rfl,am _,fun _ _=>rfl,fun b aL ho=>⟨aL,ho,rfl⟩,Io.refl _⟩,fun id o ho=>by simp[az,cn]at ho,fun i j a b ha=>by simp[az,cn]at ha,hglob,fun i sz sl k x hi=>by simp[az,cn]at hi⟩
 obtain⟨φ,hL,q1,q2,q3,q4⟩:=Fy as (S:=S) (K:=fun b=>b<w.heap.size/\b∉fp/\¬S b) (w0:=w) (w:=w) (Kn:=fun _=>False) (φ:=fun _=>default) (hf:=az []) vs fp 0 0 hI0 (fun _ _ h=>h) hargs hnd
  (fun b hb=>⟨hfp b hb,fun h=>h.2.1 hb⟩) (fun j o ho=>by simp[az,cn]at ho)
 unfold qe at h;generalize hen:enter as 0 0=en at h hL q1 q2 q3;obtain⟨e,hp,n,lent⟩:=en;simp only at h hL q1 q2 q3
 have hRel:HP S (fun b=>b<w.heap.size/\b∉fp/\¬S b) w (qi (fun _=>False) 0 n) φ (ol as vs) g.ntmps ⟨e,hp,n,lent⟩
   {tmps:=vs.toArray++Array.replicate (g.ntmps-vs.toArray.size) undef,defers:=[]} w:=by
  refine⟨?_,fun t x hx=>?_,?_,rfl,fun j hj hk=>?_,fun i c v h1 h2=>.inr (q2 i c v h1 h2)⟩
  .have:az hp=bn hp (az []):=by rw[<-gU,List.append_nil]
   rw[this];exact hL.inv
  .obtain ⟨_,v,hv,hr⟩:=q1 t x hx;have hv':vs[t]?=some v:=by simpa using hv
   have:(vs.toArray++Array.replicate (g.ntmps-vs.toArray.size) undef).getD t undef=v:=by have ht:t<vs.length:=(ao.1 hv').1;rw[br,Array.getElem?_append_left (by simpa using ht)];simp[hv']
   simp only[this];exact hr
  .simp;omega
  .rcases hk with hk|hk
   .exact hk
   .have:n<=j:=hj;omega
 obtain⟨s1,h,hRel⟩:=h _ _ _ _ _ _ _ _ _ hRel;refine wp_mono (Hy hnt hm code s1 _ S _ φ _ w h hRel) fun ex a' w' hp=>?_;obtain⟨o,s',hl,rfl,S',Kn',φ',hs,hR⟩:=hp
 have main:∀(s':St)(rs:List R)(S' Kn':Nat->Prop)(φ':Nat->gW),ia S w S' w'->HP S' (fun b=>b<w.heap.size/\b∉fp/\¬S b) w Kn' φ' (ol as vs) g.ntmps s' a' w'->s'.gh.length=lent.length->x5 lX s' rs outs->
   a'.defers=[]/\∃v,(results g a'.tmps).run P w'=.ok v w'/\∃v',Ending.returned v=Ending.returned v'/\Left S w fp rs outs (ol as vs) v' w':=by
  intro s' rs S' Kn' φ' hs hR hgl hlv;obtain⟨tvs,oa,ob,htv,hpr,hpc,hnod⟩:=hlv;obtain⟨rv,p1,p2,p3⟩:=Be hR.inv hR.dF _ _ _ hrv htv;obtain⟨r1,r2⟩:=CQ hR.inv tvs rv rs oa hpr p2 p3;obtain⟨t1,t2⟩:=Ey hR.inv hpc (ol as vs) (hgl.trans q3) hR.gh
  have hown:∀i∈oa++ob,∃o,az s'.heap i=some o/\cL o=true:=by
   intro i hi;rcases ap.1 hi with hi|hi
   .exact r2 i hi
   .exact t2 i hi
  have hfrm:=hR.inv.oJ;refine⟨hR.defers,_,D5 p1,_,rfl,S',rv,_,_,rfl,hs,fun b hb=>?_,hR.inv.vY,r1,t1,?_,?_,?_⟩
  .by_cases h1:b<w.heap.size
   .by_cases h2:b∈fp
    .exact .inr (.inl h2)
    .by_cases h3:S b
     .exact .inl h3
     .exact absurd ⟨h1,h2,h3⟩ (hR.inv.sk b hb)
   .exact .inr (.inr (by omega))
  .rw [<-ja];exact Co hR.inv hnod hown
  .rw [<-ja];intro b hb;obtain⟨i,hi,hb⟩:=List.mem_flatMap.1 hb;obtain⟨oi,hoi,hoo⟩:=hown i hi;obtain⟨k1,k2,k3⟩:=pF hR.inv hoi hoo hb;refine⟨k1,?_⟩;by_cases h1:b<w.heap.size
   .by_cases h2:b∈fp
    .exact .inl h2
    .by_cases h3:S b
     .exact absurd (hs.sub _ h3) k1
     .exact absurd ⟨h1,h2,h3⟩ k2
   .exact .inr (by omega)
  .refine ⟨fun b hb=>hb.1,fun b hb=>?_,hfrm.grow,hfrm.B5,hfrm.bq,hfrm.io⟩;by_cases h3:S b
   .exact hs.same b h3
   .exact hfrm.nz b ⟨hb.1,hb.2,h3⟩
 have rO:wk (fun s=>s.gh.length=lent.length/\∃rs0,x5 lX s rs0 outs/\u_ m rs0=rs) s'->
   a'.defers=[]/\∃v,(results g a'.tmps).run P w'=.ok v w'/\∃v',Ending.returned v=Ending.returned v'/\Left S w fp rs outs (ol as vs) v' w':=by
  rintro⟨s1,hsub,hgl,rs0,hlv,rfl⟩;obtain⟨S1,Kn1,φ1,hs1,hR1⟩:=hsub S' _ w Kn' φ' _ _ a' w' hR;obtain⟨q1,v,q2,v',q3,q4⟩:=main s1 rs0 S1 Kn1 φ1 (hs.trans hs1) hR1 hgl hlv;exact⟨q1,v,q2,v',q3,q4.B5 m⟩
 cases o with|exit id=>exact hl.elim|normal=>exact rO hl|ret=>exact rO hl
theorem O6(hm:P.follows .mixedOrders=true){f np:Nat}{F:Fn}(hF:AE P cE f np=some F){as:List A}{rs:List R}{outs:List T}
  {m:List Bool} (h:Wr P F m as rs outs):AW P f as rs outs:=
 MP hm hF ⟨h.1,fun _ _ _ _ _ _ _ _ _ hR=>⟨_,h.2,hR⟩⟩
end
section
variable{P:Program}{s s':St}{e:kA}{h:bD}{n:Nat}{gh:List C}
theorem Sub.heap{h':bD}{n':Nat}(hh:∀id,az h' id=az h id\/az h' id=none)(hn:n<=n'):Sub ⟨e,h,n,gh⟩ ⟨e,h',n',gh⟩:=by intro S K w0 Kn φ gv nt a w hR;exact⟨S,Kn,φ,ia.refl S w,hR.inv.m8 fun id o ho=>(hh id).elim (fun q=>q▸ho) fun q=>by rw[q]at ho;simp at ho,hR.dF,hR.size,hR.defers,fun j hj=>hR.gV j (Nat.le_trans hn hj),hR.gh⟩
theorem Zh{id id2 sz sz2 bw:Nat}{slots:List lU}{rows:List (List D)}(ho:az h id=some (.nst sz slots))(hs:slots[bw]?=some (.ez id2 rows.length))(h2:az h id2=some (.aL sz2 rows)):
  Sub ⟨e,h,n,gh⟩ ⟨e,(id,some (.nst sz (slots.set bw (.bq rows))))::(id2,none)::h,n,gh⟩:=by
 intro S K w0 Kn φ gv nt a w hR;have e1:az ((id,some (.nst sz (slots.set bw (.bq rows))))::(id2,none)::h)=bn [(id,some (.nst sz (slots.set bw (.bq rows)))),(id2,none)] (az h):=gU [(id,some (.nst sz (slots.set bw (.bq rows)))),(id2,none)] h;exact⟨S,Kn,φ,ia.refl S w,e1▸hR.inv.ND ho hs h2,hR.dF,hR.size,hR.defers,hR.gV,hR.gh⟩
theorem N6{t id sz szo off len:Nat}{rows rows':List (List D)}(ht:cn e t=some (.c (.fK sz id off len)))(ho:az h id=some (.aL szo rows))(hr:(rows.drop off).take len=rows')(hle:off+len<=rows.length):
  Sub ⟨e,h,n,gh⟩ ⟨(t,.c (.fK sz n 0 len))::e,(id,none)::(n,some (.aL sz rows'))::h,n+1,gh⟩:=by
 intro S K w0 Kn φ gv nt a w hR;have hn:¬Kn n:=hR.gV n (am _);have hI:=hR.inv;obtain⟨hk0,h0⟩:=hI.jy _ _ ho;have hne:id≠n:=fun e=>hn (e▸hk0);have hv:=hR.dF t _ ht;generalize hval:a.tmps.getD t undef=val at hv;cases hv with
 |c hv=>
 have hkill:Inv S K w0 Kn φ (bn [(id,none)] (az h)) w:=hI.m8 fun i o ho=>by
  rw[bV]at ho;split at ho
  .simp at ho
  .exact ho
 have hfree:∀i o,bn [(id,none)] (az h) i=some o->cL o=true->(φ id).cQ∉iH w φ (bn [(id,none)] (az h)) i:=by
  intro i o hi hown hm;have hi':=hi;rw[bV]at hi';split at hi'
  .simp at hi'
  .rename_i hne2;rw[gO rfl (hi.trans hi'.symm)]at hm;exact o6 hI hi' ho hown rfl (fun e=>hne2 e.symm) hm (lQ id)
 generalize hphi:φ id=l at*;cases h0 with
 |@aL _ _ aL hsz0 hl hS hK hown hext hfit hrr hvis=>
 obtain⟨cap,addr,rfl,hszl,hk,hcap,haddr,hextc,hcl⟩:=hv.ll;rw[hphi]at haddr hextc hszl hcl;obtain rfl:sz=szo:=by rw[<-hl,hszl]
 rw[hl]at haddr hextc;subst hr;have hlen:((rows.drop off).take len).length=len:=by simp;omega
 have hcm:len*sz<=cap*sz:=Nat.mul_le_mul_right _ hcap;have hR2:cO S w sz (fun i=>aL[i]?) addr ((rows.drop off).take len):=hrr.yy off len fun h=>haddr (by omega)
 have hname:=hkill.name hn ⟨l.cQ,addr,sz,l.ext,cap⟩ (.aL sz ((rows.drop off).take len)) (fun _ j b hj hb hm=>hfree j b hj hb hm)
  (.aL hsz0 rfl hS hK hown hext (by rw[hlen];simp only;omega) hR2 (by rw[hlen];exact hcap))
 have hren:uO Kn φ (fun j=>Kn j\/j=n) (ext φ n ⟨l.cQ,addr,sz,l.ext,cap⟩):=kC _ hn;refine⟨S,fun j=>Kn j\/j=n,ext φ n ⟨l.cQ,addr,sz,l.ext,cap⟩,ia.refl S w,⟨?_,?_,hR.size,hR.defers,?_,?_⟩⟩
 .have:az ((id,none)::(n,some (.aL sz ((rows.drop off).take len)))::h)=bn [(n,some (.aL sz ((rows.drop off).take len)))] (bn [(id,none)] (az h)):=by have e1:az ((id,none)::(n,some (Ob.aL sz ((rows.drop off).take len)))::h)=bn ([(id,none)]++[(n,some (.aL sz ((rows.drop off).take len)))]) (az h):=gU [(id,none),(n,some (.aL sz ((rows.drop off).take len)))] h;rw[e1,<-eP];exact nH (u:=[(id,none)]) fun p hp q hq=>by obtain rfl:=aq.1 hp;obtain rfl:=aq.1 hq;exact hne
  rw[this];exact hname
 .intro t' x hx;simp only[cn]at hx;by_cases et:t=t'
  .subst et;simp at hx;subst hx;rw[hval];have e:ext φ n ⟨l.cQ,addr,sz,l.ext,cap⟩ n=⟨l.cQ,addr,sz,l.ext,cap⟩:=by simp[ext]
   have:=RC.fK (S:=S) (w:=w) (Kn:=fun j=>Kn j\/j=n) (φ:=ext φ n ⟨l.cQ,addr,sz,l.ext,cap⟩) (id:=n) (off:=0) (len:=len) (cap:=cap) (addr:=addr)
    (.inr rfl) hcap (by rw[e];simp) (by rw[e];exact hextc) (by rw[e];simp)
   rw[e]at this;rw[hphi];exact .c this
  .have e':(t==t')=false:=by simpa using et
   rw[e',cond_false]at hx;exact(hR.dF t' x hx).mono (ia.refl _ _) hren
 .intro j hj hk;simp only at hj;rcases hk with hk|hk
  .exact hR.gV j (by simp only;omega) hk
  .omega
 .intro i c v hc hv;exact(hR.gh i c v hc hv).mono (ia.refl _ _) hren
theorem wk.sub{Q:St->Prop}(hs:Sub s s')(h:wk Q s'):wk Q s:=let⟨s1,h1,h2⟩:=h;⟨s1,hs.trans h1,h2⟩
theorem wk.mono{Q Q':St->Prop}(h:wk Q s)(hq:∀s,Q s->Q' s):wk Q' s:=let⟨s1,h1,h2⟩:=h;⟨s1,h1,hq _ h2⟩
theorem WO.mono{Q Q':St->Prop}(hq:∀s,Q s->Q' s):∀{ops:List pk}{s:St},WO P ops s Q->WO P ops s Q':=by
 intro ops;induction ops with
 |nil=>intro s h;exact wk.mono h hq
 |cons o r ih=>
  intro s h;obtain⟨s1,h1,h⟩:=h;refine⟨s1,h1,?_⟩;rcases h with⟨hw,call,v,u,aw,n,hok,hev,h⟩|⟨hw,h⟩
  .exact .inl ⟨hw,call,v,u,aw,n,hok,hev,ih h⟩
  .exact .inr ⟨hw,ih h⟩
theorem WO.sub{Q:St->Prop}{ops:List pk}(hs:Sub s s')(h:WO P ops s' Q):WO P ops s Q:=by cases ops with|nil=>exact wk.sub hs h|cons o r=>obtain⟨s1,h1,h⟩:=h;exact⟨s1,hs.trans h1,h⟩
theorem vf.mono{R R':St->Prop}{Q Q':tO->St->Prop}(hr:∀s,R s->R' s)(hq:∀o s,Q o s->Q' o s):∀o s,vf R Q o s->vf R' Q' o s:=by intro o s h;cases o with|normal=>exact hr _ h|exit id=>exact hq _ _ h|ret=>exact hq _ _ h
theorem wX.mono{id:Nat}{Q Q':tO->St->Prop}(hq:∀o s,Q o s->Q' o s):∀o s,wX id Q o s->wX id Q' o s:=by
 intro o s h;cases o with
 |normal=>exact hq _ _ h
 |ret=>exact hq _ _ h
 |exit id'=>
  simp only[wX]at h|-;split at h
  .rw [if_pos (by assumption)];exact hq _ _ h
  .rw [if_neg (by assumption)];exact hq _ _ h
theorem W.mono:∀{c:CC}{s:St}{Q Q':tO->St->Prop},(∀o s,Q o s->Q' o s)->W P c s Q->W P c s Q':=by intro c;induction c with|seq a b iha ihb=>intro s Q Q' hq h;exact iha (vf.mono (fun s h=>ihb hq h) hq) h|cond c a b iha ihb=>intro s Q Q' hq h;obtain⟨s1,h0,t,h1,h2,h3⟩:=h;exact⟨s1,h0,t,h1,fun ht=>iha hq (h2 ht),fun ht=>ihb hq (h3 ht)⟩|block id a ih=>intro s Q Q' hq h;exact ih (wX.mono hq) h|loop nz a ih=>intro s Q Q' hq h;obtain⟨I,n,h1,h2⟩:=h;exact⟨I,n,h1,fun n s hi=>ih (vf.mono (fun s h=>h) hq) (h2 n s hi)⟩|skip=>intro s Q Q' hq h;exact wk.mono h fun s h=>hq _ _ h|exit id=>intro s Q Q' hq h;exact wk.mono h fun s h=>hq _ _ h|ret=>intro s Q Q' hq h;exact wk.mono h fun s h=>hq _ _ h|region ops nz=>intro s Q Q' hq h;exact WO.mono (fun s h=>h.mono fun s h=>hq _ _ h) h|drawn ops dyn nz=>intro s Q Q' hq h;obtain⟨s1,h0,calls,e,hh,tr,h1,h2,h3,h4⟩:=h;exact⟨s1,h0,calls,e,hh,tr,h1,h2,h3,h4.mono fun s h=>hq _ _ h⟩|gG=>intro s Q Q' hq h;exact h
theorem W.sub:∀{c:CC}{s s':St}{Q:tO->St->Prop},Sub s s'->W P c s' Q->W P c s Q:=by intro c;induction c with|seq a b iha ihb=>intro s s' Q hs h;exact iha hs h|cond c a b iha ihb=>intro s s' Q hs h;obtain⟨s1,h0,h1⟩:=h;exact⟨s1,hs.trans h0,h1⟩|block id a ih=>intro s s' Q hs h;exact ih hs h|loop nz a ih=>intro s s' Q hs h;obtain⟨I,n,h1,h2⟩:=h;exact⟨I,n,wk.sub hs h1,h2⟩|skip=>intro s s' Q hs h;exact wk.sub hs h|exit id=>intro s s' Q hs h;exact wk.sub hs h|ret=>intro s s' Q hs h;exact wk.sub hs h|region ops nz=>intro s s' Q hs h;exact WO.sub hs h|drawn ops dyn nz=>intro s s' Q hs h;obtain⟨s1,h0,h1⟩:=h;exact⟨s1,hs.trans h0,h1⟩|gG=>intro s s' Q hs h;exact h
section
variable{Q:tO->St->Prop}
theorem PO{a b:CC}(h:W P a s (vf (fun s'=>W P b s' Q) Q)):W P (.seq a b) s Q:=h
theorem NV{id:Nat}{a:CC}(h:W P a s (wX id Q)):W P (.block id a) s Q:=h
theorem Qk{c:Operand}{a b:CC}{t:Bool}(hc:lN s.dF c=some (.c (.d (.lit (.bool t)))))(h1:t=true->W P a s Q)(h2:t=false->W P b s Q):W P (.cond c a b) s Q:=⟨s,Sub.refl s,t,hc,h1,h2⟩
theorem KW{ops:List pk}{nz:List Nat}(h:WO P ops s fun s'=>wk (Q .normal) s'):W P (.region ops nz) s Q:=h
end
def lL{α β:Type}(f:α->Option (α⊕β)):Nat->α->Option β
 |0,_=>none
 |n+1,a=>match f a with|some (.inl a')=>lL f n a'|some (.inr b)=>some b|none=>none
theorem yb{α β:Type}{f:α->Option (α⊕β)}:∀{n m:Nat}{a:α}{b:β},n<=m->lL f n a=some b->lL f m a=some b:=by
 intro n;induction n with
 |zero=>intro m a b _ h;simp[lL]at h
 |succ n ih=>
  intro m a b hm h;cases m with
  |zero=>omega
  |succ m=>
   simp only[lL]at h|-;split at h
   .exact ih (by omega) h
   .exact h
   .simp at h
open Classical in
def aY{α β:Type}(f:α->Option (α⊕β))(a:α):Option β:=if h:∃n b,lL f n a=some b then some (jx (fA h))else none
theorem p7{α β:Type}{f:α->Option (α⊕β)}{a:α}{b:β}:aY f a=some b<->∃n,lL f n a=some b:=by
 constructor
 .intro h;unfold aY at h;split at h
  .rename_i hx;refine⟨jx hx,?_⟩;rw[fA (fA hx)];exact h
  .simp at h
 .rintro ⟨n,hn⟩;have hx:∃n b,lL f n a=some b:=⟨n,b,hn⟩
  unfold aY;rw[dif_pos hx];have h2:=fA (fA hx);have h3:=yb (Nat.le_max_left n (jx hx)) hn;have h4:=yb (Nat.le_max_right n (jx hx)) h2;rw[h3]at h4;rw[<-h4]
theorem E3{α β:Type}(f:α->Option (α⊕β))(a:α):aY f a=match f a with
  |some (.inl a')=>aY f a'
  |some (.inr b)=>some b
  |none=>none:=by
 apply Option.ext;intro b;rw[p7];constructor
 .rintro ⟨n,hn⟩;cases n with
  |zero=>simp[lL]at hn
  |succ n=>
   simp only[lL]at hn;split at hn
   .exact p7.2 ⟨n,hn⟩
   .exact hn
   .simp at hn
 .intro h;split at h
  .rename_i a' ha;obtain⟨n,hn⟩:=p7.1 h;exact⟨n+1,by simp only[lL,ha];exact hn⟩
  .rename_i b' ha;exact⟨1,by simp only[lL,ha];exact h⟩
  .simp at h
theorem cz{α β:Type}{f:α->Option (α⊕β)}{a a':α}(h:f a=some (.inl a')):aY f a=aY f a':=by rw[E3,h]
theorem bH{α β:Type}{f:α->Option (α⊕β)}{a:α}{b:β}(h:f a=some (.inr b)):aY f a=some b:=by rw[E3,h]
def rJ:Ev.Call:=fun _ _=>none
theorem r_:oC P rJ:=fun _ _ _ _ h=>by simp[rJ]at h
section
variable{Q:St->Prop}{r:List pk}{d:Nat}{k:K}{args:List Operand}{v:TV}{u:fN}{aw:List Nat}{m g:Nat}{b c:Bool}
def MQ:Option TV->Option (FuncId×List C)
 |some (.c (.d (.fn f caps)))=>some (f,caps.map C.d)
 |some (.c (.pS f caps))=>some (f,caps)
 |_=>none
def callee(h:bD)(ld:List Bool):List (Option TV)->Option (FuncId×List A)
 |f::vs=>
  match MQ f,eX vs with
  |some (f,caps),some vs=>match gK h (vs++caps.map TV.c) ld with|some (as,_,_)=>some (f,as)|none=>none
  |_,_=>none
 |[]=>none
def vE(h:bD)(nxt:Nat)(ro:Bool)(aw:List Nat)(lent:List (C×List Nat×List Nat)):Option (List R×List T)->HO
 |none=>none
 |some (rs,outs)=>
  if ro then
   if rs.all xG/\outs.all GL then
    match dX nxt lent outs with|none=>none|some (bu,m)=>some (t5 (il m rs).1,(il m rs).2.1++bu,aw++lent.flatMap (·.2.2),(il m rs).2.2)
   else none
  else
   match dM h aw aw with
   |none=>none
   |some fu=>match dX nxt lent outs with|none=>none|some (bu,m)=>some (t5 (il m rs).1,(il m rs).2.1++bu++fu,aw++lent.flatMap (·.2.2),(il m rs).2.2)
theorem B_(call:Ev.Call)(ro:Bool)(ld:List Bool)(fv:Option TV)(vs:List (Option TV))(h:bD)(nxt:Nat):
  vG call ro ld fv vs h nxt=match MQ fv,eX vs with
   |some (f,caps),some vs=>match gK h (vs++caps.map TV.c) ld with|none=>none|some (as,aw,lent)=>if eT h lent/\(lent.flatMap (fun(p:C×List Nat×List Nat)=>p.2.1)).Nodup/\(lent.flatMap (fun(p:C×List Nat×List Nat)=>p.2.1)).all (fun i=>!aw.contains i)then vE h nxt ro aw lent (call f as)else none
   |_,_=>none:=by
 have e1:∀(o:Option (List R×List T))(aw:List Nat)(lent:List (C×List Nat×List Nat)),(match o with
    |none=>none
    |some (rs,outs)=>
     if ro then
      if rs.all xG/\outs.all GL then
       match dX nxt lent outs with
       |none=>none
       |some (bu,m)=>
        let(vs,u,k):=il m rs
        some (t5 vs,u++bu,aw++lent.flatMap (fun(p:C×List Nat×List Nat)=>p.2.2),k)
      else none
     else
      match dM h aw aw with
      |none=>none
      |some fu=>
       match dX nxt lent outs with
       |none=>none
       |some (bu,m)=>
        let(vs,u,k):=il m rs
        some (t5 vs,u++bu++fu,aw++lent.flatMap (fun(p:C×List Nat×List Nat)=>p.2.2),k))=vE h nxt ro aw lent o:=by
  intro o aw lent;cases o with|none=>rfl|some p=>rfl
 have e2:(match fv with|some (.c (.d (.fn f caps)))=>some (f,caps.map C.d)|some (.c (.pS f caps))=>some (f,caps)|_=>none)=MQ fv:=rfl
 show(match(match fv with|some (.c (.d (.fn f caps)))=>some (f,caps.map C.d)|some (.c (.pS f caps))=>some (f,caps)|_=>none),eX vs with
   |some (f,caps),some vs=>
    match gK h (vs++caps.map TV.c) ld with
    |none=>none
    |some (as,aw,lent)=>
     if eT h lent/\(lent.flatMap (fun(p:C×List Nat×List Nat)=>p.2.1)).Nodup/\(lent.flatMap (fun(p:C×List Nat×List Nat)=>p.2.1)).all (fun i=>!aw.contains i)then
      (match call f as with
    |none=>none
    |some (rs,outs)=>
     if ro then
      if rs.all xG/\outs.all GL then
       match dX nxt lent outs with
       |none=>none
       |some (bu,m)=>
        let(vs,u,k):=il m rs
        some (t5 vs,u++bu,aw++lent.flatMap (fun(p:C×List Nat×List Nat)=>p.2.2),k)
      else none
     else
      match dM h aw aw with
      |none=>none
      |some fu=>
       match dX nxt lent outs with
       |none=>none
       |some (bu,m)=>
        let(vs,u,k):=il m rs
        some (t5 vs,u++bu++fu,aw++lent.flatMap (fun(p:C×List Nat×List Nat)=>p.2.2),k))else none
   |_,_=>none)=_
 simp only[e1,e2]
open Classical in
def only(f:FuncId)(as:List A)(rs:List R)(outs:List T):Ev.Call:=fun f' as'=>if f'=f/\as'=as then some (rs,outs)else none
theorem In{f:FuncId}{as:List A}{rs:List R}{outs:List T}(hg:AW P f as rs outs):oC P (only f as rs outs):=by
 intro f' as' rs' outs' h;unfold only at h;split at h
 .rename_i he;obtain⟨rfl,rfl⟩:=he;obtain⟨rfl,rfl⟩:=af (aa h);exact hg
 .simp at h
theorem Cm{f:FuncId}{as:List A}{rs:List R}{outs:List T}{ro:Bool}{ld:List Bool}{vs:List (Option TV)}{x:TV×fN×List Nat×Nat}
  (h2:callee h ld vs=some (f,as)) (h1:cI (fun _ _=>some (rs,outs)) (.call ro ld) vs h n=some x):cI (only f as rs outs) (.call ro ld) vs h n=some x:=by
 cases vs with
 |nil=>simp[callee]at h2
 |cons fv vs=>
  simp only[callee]at h2;simp only[cI,B_]at h1|-;split at h2
  .rename_i f' caps vs' hf hvs;simp only[hf,hvs]at h1|-;split at h2
   .rename_i as' aw lent hargs;obtain⟨rfl,rfl⟩:=af (aa h2);rw[hargs]at h1|-;simp only[only,and_self,if_true]at h1|-;exact h1
   .simp at h2
  .simp at h2
theorem I1{fv:Option TV}{ovs:List (Option TV)}{vs:List TV}{f:FuncId}{caps:List C}{as:List A}{aw:List Nat}{lent:List (C×List Nat×List Nat)}{ro:Bool}{ld:List Bool}{rs:List R}{outs:List T}{x:TV×fN×List Nat×Nat}
  (hf:MQ fv=some (f,caps)) (hv:eX ovs=some vs) (ha:gK h (vs++caps.map TV.c) ld=some (as,aw,lent)) (hw:eT h lent=true)
  (hn:decide ((lent.flatMap (fun(p:C×List Nat×List Nat)=>p.2.1)).Nodup/\(lent.flatMap (fun(p:C×List Nat×List Nat)=>p.2.1)).all (fun i=>!aw.contains i)=true)=true)
  (hl:vE h n ro aw lent (some (rs,outs))=some x):
  callee h ld (fv::ovs)=some (f,as)/\cI (fun _ _=>some (rs,outs)) (.call ro ld) (fv::ovs) h n=some x:=by
 have hn':=of_decide_eq_true hn;constructor
 .simp only[callee,hf,hv,ha]
 .simp only[cI,B_,hf,hv,ha];rw[if_pos ⟨hw,hn'⟩];exact hl
theorem VA{aw:List Nat}{lent:List (C×List Nat×List Nat)}{rs:List R}{outs:List T}{fu bu:fN}{m:Nat}(hz:dM h aw aw=some fu)(hb:dX n lent outs=some (bu,m)):
  vE h n false aw lent (some (rs,outs))=some (t5 (il m rs).1,(il m rs).2.1++bu++fu,aw++lent.flatMap (·.2.2),(il m rs).2.2):=by
 simp only[vE,hz,hb,aO,if_false]
theorem OT{aw:List Nat}{lent:List (C×List Nat×List Nat)}{rs:List R}{outs:List T}{bu:fN}{m:Nat}(h1:rs.all xG=true)(h2:outs.all GL=true)(hb:dX n lent outs=some (bu,m)):
  vE h n true aw lent (some (rs,outs))=some (t5 (il m rs).1,(il m rs).2.1++bu,aw++lent.flatMap (·.2.2),(il m rs).2.2):=by
 simp only[vE,h1,h2,hb,and_self,if_true]
theorem Pw{sz id len k:Nat}{rows:List (List D)}{rd:List Nat}{r:List (C×List Nat×List Nat)}{ts:List T}{w:fN}(hl:rows.length=len)(hr:dX n r ts=some (w,k)):
  dX n ((.fK sz id 0 len,[id],rd)::r) (.sl sz rows::ts)=some ((id,some (.aL sz rows))::w,k):=by
 simp only[dX,hl,hr,and_self,if_true]
theorem Pv{id k:Nat}{bq rd:List Nat}{r:List (C×List Nat×List Nat)}{ts' ts:List T}{w:fN}(hc:bq.contains id=true)(hr:dX (jb n ts').2.2 r ts=some (w,k)):
  dX n ((.op id 0,bq,rd)::r) (.pt ts'::ts)=some ((id,some (.box (jb n ts').1))::(jb n ts').2.1++bq.map (fun i=>(i,none))++w,k):=by
 simp only[dX,hr,hc,if_true]
theorem KI{c:C}{bq rd:List Nat}{k:Nat}{r:List (C×List Nat×List Nat)}{ts:List T}{w:fN}(hr:dX n r ts=some (w,k)):dX n ((c,bq,rd)::r) (.wK::ts)=some (bq.map (fun i=>(i,none))++w,k):=by simp[dX,hr]
theorem VJ{c:C}{vs:List TV}{ms:List Bool}{as:List A}{aw i:List Nat}{lent:List (C×List Nat×List Nat)}{x:D}(hv:ei h 300 c=some (x,i))(hm:ms.headD false=false)(hr:gK h vs ms.tail=some (as,aw,lent)):
  gK h (.c c::vs) ms=some (.d x::as,i++aw,lent):=by simp only[gK,hr,hm,hv,aO,if_false]
theorem Rv{cs:List C}{vs:List TV}{ms:List Bool}{as:List A}{aw i:List Nat}{lent:List (C×List Nat×List Nat)}{xs:List D}(hv:dU h cs=some (xs,i))(hm:ms.headD false=false)(hr:gK h vs ms.tail=some (as,aw,lent)):
  gK h (.agg cs::vs) ms=some (.agg xs::as,i++aw,lent):=by simp only[gK,hr,hm,hv,aO,if_false]
theorem Tj{c:C}{vs:List TV}{ms:List Bool}{as:List A}{aw bq rd:List Nat}{lent:List (C×List Nat×List Nat)}{t:T}(hv:fc h 300 c=some (t,bq,rd))(hm:ms.headD false=true)(hr:gK h vs ms.tail=some (as,aw,lent)):
  gK h (.c c::vs) ms=some (.mt t::as,aw,(c,bq,rd)::lent):=by simp only[gK,hr,hm,hv,if_true]
end
abbrev Tr:=List (List Nat×List Nat)
abbrev Si:=kA×bD×Tr
def NA(e:kA)(d:Option Nat)(h:bD)(tr:Tr)(top:Nat)(r:HO):Option Si:=match r with|some (v,u,aw,m)=>if m<=top then some (put e d v,u++h,tr++[(aw,u.map (·.1))])else none|none=>none
def DY(call:Ev.Call)(aN i:Nat)(o:pk)(s:Si):Option Si:=match lx s.1 o.guard with|some true=>NA s.1 o.dst s.2.1 s.2.2 (aN+jE*(i+1)) (cI call o.k (o.args.map (lN s.1)) s.2.1 (aN+jE*i))|some false=>some (drop s.1 o.dst,s.2.1,s.2.2++[([],[])])|none=>none
def Dg(calls:Nat->Ev.Call)(aN:Nat):List pk->Nat->Si->Option Si
 |[],_,s=>some s
 |o::r,i,s=>(DY (calls i) aN i o s).bind (Dg calls aN r (i+1))
theorem Pb{calls:Nat->Ev.Call}{aN:Nat}:∀(l:List pk)(i:Nat)(e:kA)(h:bD)(tr:Tr)(e':kA)(h':bD)(tr':Tr),Dg calls aN l i (e,h,tr)=some (e',h',tr')->
  ∃t,oA calls aN l i e h=some (e',h',t)/\tr'=tr++t:=by
 intro l;induction l with
 |nil=>
  intro i e h tr e' h' tr' hh;obtain⟨rfl,rfl,rfl⟩:e=e'/\h=h'/\tr=tr':=by simpa[Dg]using hh
  exact⟨[],rfl,by simp⟩
 |cons o r ih=>
  intro i e h tr e' h' tr' hh;unfold Dg DY at hh;unfold oA;cases hw:lx e o.guard with
  |none=>simp[hw]at hh
  |some b=>
   cases b with
   |false=>simp only[hw,ae]at hh;obtain⟨t,h1,h2⟩:=ih _ _ _ _ _ _ _ hh;exact⟨([],[])::t,by simp[h1],by simp[h2]⟩
   |true=>
    simp only[hw]at hh;cases hv:cI (calls i) o.k (o.args.map (lN e)) h (aN+jE*i)with
    |none=>simp[hv,NA]at hh
    |some p=>
     obtain⟨v,u,aw,m⟩:=p;simp only[hv,NA]at hh;by_cases hm:m<=aN+jE*(i+1)
     .rw [if_pos hm,ae]at hh;obtain⟨t,h1,h2⟩:=ih _ _ _ _ _ _ _ hh;exact⟨(aw,u.map (·.1))::t,by simp[hm,h1],by simp[h2]⟩
     .rw [if_neg hm]at hh;simp at hh
theorem Hn{calls calls':Nat->Ev.Call}{aN:Nat}:∀(l:List pk)(i:Nat)(s:Si),(∀j,i<=j->calls j=calls' j)->Dg calls aN l i s=Dg calls' aN l i s:=by intro l;induction l with|nil=>intro i s _;rfl|cons o r ih=>intro i s hc;simp only[Dg,hc i (am _)];congr 1;funext s';exact ih (i+1) s' fun j hj=>hc j (by omega)
def WD(P:Program)(aN:Nat)(ops:List pk)(i:Nat)(e:kA)(h:bD)(tr:Tr)(Q:kA->bD->Tr->Prop):Prop:=∃calls,(∀j,oC P (calls j))/\∃e' h' tr',Dg calls aN ops i (e,h,tr)=some (e',h',tr')/\Q e' h' tr'
theorem NU{Q:tO->St->Prop}{ops:List pk}{dyn:List (Nat×Nat)}{nz:List Nat}
  (hw:WD P n ops 0 e h [] fun e' h' tr=>Cd tr dyn=true/\wk (Q .normal) ⟨e',h',n+jE*ops.length,gh⟩):W P (.drawn ops dyn nz) ⟨e,h,n,gh⟩ Q:=by
 obtain⟨calls,hok,e',h',tr',h1,hd,hq⟩:=hw;obtain⟨t,h4,ht⟩:=Pb _ _ _ _ _ _ _ _ h1;obtain rfl:tr'=t:=by simpa using ht
 exact⟨_,Sub.refl _,calls,e',h',_,hok,h4,hd,hq⟩
section
variable{aN i:Nat}{ops r:List pk}{tr:Tr}{Q:kA->bD->Tr->Prop}{d:Nat}{k:K}{args:List Operand}{v:TV}{u:fN}{aw:List Nat}{m g:Nat}{b c:Bool}
theorem Tt(hq:Q e h tr):WD P aN [] i e h tr Q:=⟨fun _=>rJ,fun _=>r_,e,h,tr,rfl,hq⟩
theorem M6{call:Ev.Call}{o:pk}{e1:kA}{h1:bD}{tr1:Tr}(hok:oC P call)(hs:DY call aN i o (e,h,tr)=some (e1,h1,tr1))(hq:WD P aN r (i+1) e1 h1 tr1 Q):WD P aN (o::r) i e h tr Q:=by
 obtain⟨calls,hc,e',h',tr',h2,h3⟩:=hq;refine⟨fun j=>if j=i then call else calls j,fun j=>?_,e',h',tr',?_,h3⟩
 .show oC P (if j=i then call else calls j);split
  .exact hok
  .exact hc j
 .simp only[Dg,if_true,hs,ae];rw[Hn (calls':=calls) r (i+1) _ fun j hj=>if_neg (by omega)];exact h2
theorem R3{e:kA}{dd:Option Nat}{top:Nat}(hm:m<=top):NA e dd h tr top (some (v,u,aw,m))=some (put e dd v,u++h,tr++[(aw,u.map (·.1))]):=by simp only[NA];rw[if_pos hm]
theorem Om:aN+jE*i<=aN+jE*(i+1):=by simp only[jE];omega
end
inductive Fg:bD->bD->Prop
 |nil:Fg [] []
 |cons {p:Nat×Option Ob} {a b:bD} (h:Fg a b):Fg (p::a) (p::b)
 |skip {i:Nat} {a b:bD} (h:Fg a b):Fg a ((i,none)::b)
end
end Go.Ev
