/- A region in any order, against the text's order. Conditions: operations whose names meet are ordered by the text; operations whose objects meet are ordered by the text, or the check at the run says that they do not meet. -/
import Derived.Test.YthcplpfiidlinaaDoorEvR
import Derived.Orders
import Derived.Scope
noncomputable section
open Array renaming getD->jW,getD_eq_getD_getElem?->bz,getElem?_eq_getElem->iQ,getElem?_eq_some_iff->bg,getElem?_toList->aZ
open Bool renaming and_eq_true->ai,false_eq_true->aR,or_eq_true->cu
open Classical renaming choose->fP,choose_spec->cS
open List renaming Sublist->c8,all_eq_true->bd,flatMap_append->ld,getD_eq_getElem?_getD->cJ,getElem?_eq_getElem->aD,getElem?_eq_some_iff->ak,getElem?_map->aI,length_cons->ce,length_eq_zero_iff->bk,map_cons->aA,mem_append->ao,mem_append_left->aC,mem_append_right->aG,mem_cons->aK,mem_cons_of_mem->aB,mem_cons_self->cV,mem_flatten->dq,mem_of_getElem?->aW,mem_singleton->aq,nodup_append->bZ
open List.Sublist renaming refl->bW
open Nat renaming add_assoc->cR,add_sub_cancel'->jt,add_zero->dw,le_refl->au,lt_or_ge->eV,mul_le_mul_left->k_,zero_add->bJ
open Option renaming bind_some->ae,map_eq_some_iff->aH
open Option.some renaming inj->aa,injEq->bq
open Prod.mk renaming inj->ad,injEq->cQ
namespace Go.Ev
def yA:Ev.K->Nat
 |.mv|.pick|.build _ _|.nilCheck|.yZ _|.tQ _|.qk _ _|.x9 _ _|.un _|.uF _|.rT|.GS _|.fieldAddr _ _|.field _ _ _
 |.indexAddr _ _|.oU|.index _ _ _|.extract _|.len _|.tL _|.fU=>0
 |.load _ _|.lookup _ _ _ _ _|.slice _ _ _ _=>1
 |_=>2
theorem Ji{call:Call}{k:Ev.K}{vs:List (Option TV)}{H:bE}{nxt n:Nat}{v:TV}{u:fm}{aw:List Nat}(hk:yA k<=1)(h:cA call k vs H nxt=some (v,u,aw,n)):u=[]:=by
 cases k<;>first
  |(simp[yA]at hk;done)
  |(unfold cA at h
    repeat' split at h
    all_goals first
     |(simp at h;done)
     |(simp only[bq,cQ]at h;exact h.2.1.symm)
     |(simp_all;done))
theorem Jh{call:Call}{k:Ev.K}{vs:List (Option TV)}{H:bE}{nxt n:Nat}{v:TV}{u:fm}{aw:List Nat}(hk:yA k=0)(h:cA call k vs H nxt=some (v,u,aw,n)):aw=[]:=by
 cases k<;>first
  |(simp[yA]at hk;done)
  |(unfold cA at h
    repeat' split at h
    all_goals first
     |(simp at h;done)
     |(simp only[bq,cQ]at h;exact h.2.2.1.symm)
     |(simp_all;done))
def oY(acc:List Nat):List Edge->Nat
 |[]=>0
 |e::r=>if Region.binds .any e then(oY acc r)|||2^e.on|||acc.getD e.on 0 else oY acc r
def Kt:List Oper->List Nat->List Nat
 |[],acc=>acc
 |o::r,acc=>Kt r (acc++[oY acc o.after.toList])
def xx(m:List Nat):List Oper->Nat->Bool
 |[],_=>true
 |o::r,i=>m.getD i 0==oY m o.after.toList&&o.after.toList.all (fun e=>!(Region.binds .any e)||decide (e.on<i))&&xx m r (i+1)
def eR(m:List Nat)(i j:Nat):Bool:=(m.getD j 0).testBit i
def Rw:Operand->Option Nat
 |.tmp t=>some t
 |_=>none
def Ec(o:m9):List Nat:=o.args.filterMap Rw++(match o.guard with|some (t,_)=>[t]|none=>[])
def G5(d:Option Nat)(l:List Nat):Bool:=match d with|some d=>l.contains d|none=>false
def yg(a b:m9):Bool:=G5 a.dst (Ec b)||G5 b.dst (Ec a)||G5 a.dst b.dst.toList
def ua(m:List Nat)(i:Nat)(a:m9):List m9->Nat->Bool
 |[],_=>true
 |b::r,j=>(eR m i j||!yg a b)&&ua m i a r (j+1)
def w9(m:List Nat):List m9->Nat->Bool
 |[],_=>true
 |a::r,i=>ua m i a r (i+1)&&w9 m r (i+1)
def DE:Value->Value->Bool
 |.int k a,.int k' b=>decide (k=k')&&decide (a=b)
 |.bool a,.bool b=>decide (a=b)
 |.string a,.string b=>decide (a.toList=b.toList)
 |.float k a,.float k' b=>decide (k=k')&&decide (a=b)
 |.slice none 0 0,.slice none 0 0|.pointer none,.pointer none|.map none,.map none|.nilFunc,.nilFunc|.nilIface,.nilIface=>true
 |_,_=>false
def zm:List Value->List Value->Bool
 |[],[]=>true
 |x::xs,y::ys=>DE x y&&zm xs ys
 |_,_=>false
def zh:Ev.K->Ev.K->Bool
 |.lookup ka ks va z false,.mapEntry ka' ks' va' z'=>decide (ka=ka')&&decide (ks=ks')&&decide (va=va')&&zm z z'
 |_,_=>false
def vD(m:List Nat)(i:Nat)(a:m9):List m9->Nat->List (Nat×Nat)
 |[],_=>[]
 |b::r,j=>if eR m i j||yA b.k==0||yA b.k+yA a.k<=2 then vD m i a r (j+1)else(i,if zh a.k b.k then 1000+j else j)::vD m i a r (j+1)
def rS(m:List Nat):List m9->Nat->List (Nat×Nat)
 |[],_=>[]
 |a::r,i=>(if yA a.k==0 then[]else vD m i a r (i+1))++rS m r (i+1)
def vF(ops:List Oper)(cops:List m9)(my:List Nat):CC:=
 let m:=Kt ops []
 if xx m ops 0&&w9 m cops 0&&decide (cops.length<=1000)then .drawn cops (rS m cops 0) my else .fU
theorem yW{acc:List Nat}{j:Nat}:∀{es:List Edge},(oY acc es).testBit j=true->∃e∈es,Region.binds .any e=true/\(e.on=j\/(acc.getD e.on 0).testBit j=true):=by
 intro es;induction es with
 |nil=>intro h;simp[oY]at h
 |cons e r ih=>
  intro h;simp only[oY]at h;split at h
  .rename_i hb;simp only[Nat.testBit_or,cu,Nat.testBit_two_pow,decide_eq_true_eq]at h;rcases h with(h|h)|h
   .obtain ⟨e',he,h'⟩:=ih h;exact⟨e',aB _ he,h'⟩
   .exact ⟨e,cV,hb,.inl h⟩
   .exact ⟨e,cV,hb,.inr h⟩
  .obtain ⟨e',he,h'⟩:=ih h;exact⟨e',aB _ he,h'⟩
theorem D1{m:List Nat}:∀{l:List Oper}{i:Nat},xx m l i=true->∀(k:Nat)(o:Oper),l[k]?=some o->
  (∀j,eR m j (i+k)=true->∃e∈o.after,Region.binds .any e=true/\(e.on=j\/eR m j e.on=true))/\∀e∈o.after,Region.binds .any e=true->e.on<i+k:=by
 intro l;induction l with
 |nil=>intro i _ k o hk;simp at hk
 |cons o0 r ih=>
  intro i h k o hk;simp only[xx,ai]at h;obtain⟨⟨h1,h2⟩,h3⟩:=h;cases k with
  |zero=>
   obtain rfl:o0=o:=by simpa using hk
   refine⟨fun j hj=>?_,fun e he hb=>?_⟩
   .unfold eR at hj;rw[dw,(by simpa using h1:m.getD i 0=_)]at hj;obtain⟨e,he,h'⟩:=yW hj;exact⟨e,by simpa using he,h'⟩
   .have:=bd.1 h2 e (by simpa using he);simpa[hb]using this
  |succ k=>have:=ih h3 k o (by simpa using hk);rw[show i+1+k=i+(k+1)by omega]at this;exact this
theorem yG{m:List Nat}{i:Nat}{a:m9}:∀{l:List m9}{j:Nat},ua m i a l j=true->∀(k:Nat)(b:m9),l[k]?=some b->eR m i (j+k)=true\/yg a b=false:=by
 intro l;induction l with
 |nil=>intro j _ k b hk;simp at hk
 |cons b0 r ih=>
  intro j h k b hk;simp only[ua,ai]at h;cases k with
  |zero=>
   obtain rfl:b0=b:=by simpa using hk
   simpa using h.1
  |succ k=>have:=ih h.2 k b (by simpa using hk);rwa[show j+1+k=j+(k+1)by omega]at this
theorem DD{m:List Nat}:∀{l:List m9}{i:Nat},w9 m l i=true->∀(k k':Nat)(a b:m9),l[k]?=some a->l[k']?=some b->k<k'->eR m (i+k) (i+k')=true\/yg a b=false:=by
 intro l;induction l with
 |nil=>intro i _ k k' a b hk;simp at hk
 |cons a0 r ih=>
  intro i h k k' a b hk hk' hlt;simp only[w9,ai]at h;cases k' with
  |zero=>omega
  |succ k'=>
   cases k with
   |zero=>
    obtain rfl:a0=a:=by simpa using hk
    have:=yG h.1 k' b (by simpa using hk');rwa[show i+1+k'=i+(k'+1)by omega]at this
   |succ k=>have:=ih h.2 k k' a b (by simpa using hk) (by simpa using hk') (by omega);rwa[show i+1+k=i+(k+1)by omega,show i+1+k'=i+(k'+1)by omega]at this
theorem CL{m:List Nat}{i:Nat}{a:m9}:∀{l:List m9}{j:Nat},∀(k:Nat)(b:m9),l[k]?=some b->eR m i (j+k)=true\/yA b.k=0\/yA b.k+yA a.k<=2\/(i,if zh a.k b.k then 1000+(j+k)else j+k)∈vD m i a l j:=by
 intro l;induction l with
 |nil=>intro j k b hk;simp at hk
 |cons b0 r ih=>
  intro j k b hk;cases k with
  |zero=>
   obtain rfl:b0=b:=by simpa using hk
   simp only[vD];split
   .rename_i h;simp only[cu,beq_iff_eq,decide_eq_true_eq]at h;rcases h with(h|h)|h
    .exact .inl h
    .exact .inr (.inl h)
    .exact .inr (.inr (.inl h))
   .exact .inr (.inr (.inr (cV ..)))
  |succ k=>
   have:=ih (j:=j+1) k b (by simpa using hk);rw[show j+1+k=j+(k+1)by omega]at this;rcases this with h|h|h|h
   .exact .inl h
   .exact .inr (.inl h)
   .exact .inr (.inr (.inl h))
   .refine .inr (.inr (.inr ?_));simp only[vD];split
    .exact h
    .exact aB _ h
theorem CM{m:List Nat}:∀{l:List m9}{i:Nat},∀(k k':Nat)(a b:m9),l[k]?=some a->l[k']?=some b->k<k'->
  eR m (i+k) (i+k')=true\/yA a.k=0\/yA b.k=0\/yA b.k+yA a.k<=2\/(i+k,if zh a.k b.k then 1000+(i+k')else i+k')∈rS m l i:=by
 intro l;induction l with
 |nil=>intro i k k' a b hk;simp at hk
 |cons a0 r ih=>
  intro i k k' a b hk hk' hlt;cases k' with
  |zero=>omega
  |succ k'=>
   cases k with
   |zero=>
    obtain rfl:a0=a:=by simpa using hk
    have:=CL (m:=m) (i:=i) (a:=a0) (j:=i+1) k' b (by simpa using hk');rw[show i+1+k'=i+(k'+1)by omega]at this;rcases this with h|h|h|h
    .exact .inl h
    .exact .inr (.inr (.inl h))
    .exact .inr (.inr (.inr (.inl h)))
    .by_cases e:yA a0.k=0
     .exact .inr (.inl e)
     .refine .inr (.inr (.inr (.inr ?_)));simp only[rS,beq_iff_eq,e,if_false];exact aC _ h
   |succ k=>
    have:=ih (i:=i+1) k k' a b (by simpa using hk) (by simpa using hk') (by omega);rw[show i+1+k=i+(k+1)by omega,show i+1+k'=i+(k'+1)by omega]at this;rcases this with h|h|h|h|h
    .exact .inl h
    .exact .inr (.inl h)
    .exact .inr (.inr (.inl h))
    .exact .inr (.inr (.inr (.inl h)))
    .exact .inr (.inr (.inr (.inr (by simp only[rS];exact aG _ h))))
theorem Gh{a b:Value}(h:DE a b=true):a=b:=by
 unfold DE at h;split at h<;>first|rfl|(simp at h;done)|skip
 .obtain ⟨rfl,rfl⟩:_/\_:=by simpa using h
  rfl
 .obtain rfl:_=_:=by simpa using h
  rfl
 .rename_i x y;have:x.toList=y.toList:=by simpa using h
  rw[ByteArray.toList_eq,ByteArray.toList_eq]at this;obtain⟨⟨x⟩⟩:=x;obtain⟨⟨y⟩⟩:=y;have e:x=y:=by simpa using this
  rw[e]
 .obtain ⟨rfl,rfl⟩:_/\_:=by simpa using h
  rfl
theorem Ik:∀{a b:List Value},zm a b=true->a=b:=by
 intro a;induction a with
 |nil=>intro b h;cases b<;>simp_all[zm]
 |cons x a ih=>intro b h;cases b with|nil=>simp[zm]at h|cons y b=>simp only[zm,ai]at h;rw[Gh h.1,ih h.2]
theorem Jj:∀{ks:List Kd}{a b:List Value},yB ks a=true->yB ks b=true->∃r,gk ks a b=some r:=by
 intro ks;induction ks with
 |nil=>intro a b h1 h2;cases a<;>cases b<;>simp_all[yB,gk]
 |cons k ks ih=>
  intro a b h1 h2;cases a with
  |nil=>simp[yB]at h1
  |cons x a=>
   cases b with
   |nil=>simp[yB]at h2
   |cons y b=>
    simp only[yB,ai]at h1 h2;obtain⟨r,hr⟩:=ih h1.2 h2.2;have hk:∃q,Dj k x y=some q:=by have ha:=h1.1;have hb:=h2.1;cases k<;>cases x<;>cases y<;>simp_all[Jk,Dj]
    obtain⟨q,hq⟩:=hk;exact⟨q&&r,by simp[gk,hq,hr]⟩
theorem Hb{ks:List Kd}{key:List Value}{e:sd}:∀{es:List sd}{i:Nat},
  md ks key (es++[e]) i=(match md ks key es i with|some (some j)=>some (some j)|some none=>(match gk ks key e.1 with|some true=>some (some (i+es.length))|some false=>some none|none=>none)|none=>none):=by
 intro es;induction es with
 |nil=>intro i;simp only[List.nil_append,md,List.length_nil,dw];cases gk ks key e.1 with|none=>rfl|some b=>cases b<;>rfl
 |cons x es ih=>
  intro i;simp only[List.cons_append,md];cases gk ks key x.1 with
  |none=>rfl
  |some b=>cases b with|true=>rfl|false=>simp only[ih,ce];rw[show i+1+es.length=i+(es.length+1)by omega]
theorem JW{ks:List Kd}{key:List Value}:∀{es:List sd}{i j:Nat},md ks key es i=some (some j)->j<i+es.length:=by
 intro es;induction es with
 |nil=>intro i j h;simp[md]at h
 |cons x es ih=>
  intro i j h;simp only[md]at h;split at h
  .obtain rfl:i=j:=by simpa using h
   simp
  .have:=ih h;simp only[ce];omega
  .simp at h
theorem Cs{ka:Bool}{ks:List Kd}{k:TV}{key:List Value}(h:nY ka ks k=some key):yB ks key=true:=by
 cases k with
 |agg cs=>
  simp only[nY]at h;split at h
  .exact (uy h).2
  .simp at h
 |c x=>
  simp only[nY]at h;split at h
  .exact (uy h).2
  .simp at h
 |iz xs=>simp[nY]at h
theorem Gb{call1 call2:Call}{k1 k2:Ev.K}{vs1 vs2:List (Option TV)}{H H':bE}{nx1 nx2 n n2 id:Nat}{v v2:TV}{u u2:fm}{ids2:List Nat}(hk:zh k1 k2=true)
  (h1:cA call1 k1 vs1 H nx1=some (v,u,[id],n)) (h2:cA call2 k2 vs2 H' nx2=some (v2,u2,ids2,n2)) (hs:az H' id=az H id) (ht:id∈u2.map (·.1)):
  cA call1 k1 vs1 (u2++H) nx1=some (v,u,[id],n):=by
 unfold zh at hk;split at hk
 .rename_i ka ks va z ka' ks' va' z';simp only[ai,decide_eq_true_eq]at hk;obtain⟨⟨⟨rfl,rfl⟩,rfl⟩,hz⟩:=hk;obtain rfl:=Ik hz
  match vs1,vs2,h1,h2 with
  |[some (.c m1),some kt1],[some (.c m2),some kt2],h1,h2=>
   change (match gY ka ks va z false m1 kt1 H with|some (v,aw)=>some (v,([]:fm),aw,nx1)|none=>none)=_ at h1;change (match mh ka ks va z m2 kt2 H' with|some (v,u,aw)=>some (v,u,aw,nx2)|none=>none)=_ at h2;show(match gY ka ks va z false m1 kt1 (u2++H)with|some (v,aw)=>some (v,([]:fm),aw,nx1)|none=>none)=_
   have key:gY ka ks va z false m1 kt1 H=some (v,[id])->gY ka ks va z false m1 kt1 (u2++H)=some (v,[id]):=by
    clear h1;intro h1;split at h2
    .rename_i v3 u3 ids3 h3;obtain⟨_,rfl,_,_⟩:v3=v2/\u3=u2/\ids3=ids2/\nx2=n2:=by simpa using h2
     unfold mh at h3;split at h3
     .rename_i id2 key2 hkey2;have hok2:=Cs hkey2;split at h3
      .rename_i ka2 va2 es eW hob;split at h3
       .rename_i hkv;obtain⟨rfl,rfl⟩:=hkv
        -- what is laid anew
        have hu:∃es' clock',u3=[(id2,some (.map ka2 va2 es' clock'))]/\(es'=es\/es'=es++[(key2,c9 z,eW)]):=by
         split at h3
         .split at h3
          .obtain ⟨_,rfl,_⟩:=(by simpa using h3:_/\_/\_)
           exact⟨_,_,rfl,.inl rfl⟩
          .simp at h3
         .split at h3
          .obtain ⟨_,rfl,_⟩:=(by simpa using h3:_/\_/\_)
           exact⟨_,_,rfl,.inr rfl⟩
          .simp at h3
         .simp at h3
        obtain⟨es',clock',rfl,hes⟩:=hu;obtain rfl:id=id2:=by simpa using ht
        have hl2:az ([(id,some (Ob.map ka2 va2 es' clock'))]++H) id=some (.map ka2 va2 es' clock'):=by rw[gm,bP,if_pos rfl]
        rw[hs]at hob;unfold gY at h1|-;split at h1
        .split at h1
         .simp at h1
         .simp at h1
        .rename_i id1 key1 hkey1;have hok1:=Cs hkey1
         have hid:id1=id:=by
          repeat' split at h1
          all_goals first
           |(simp at h1;done)
           |(obtain⟨_,h4⟩:=ad (aa h1);simpa using h4)
         subst hid;simp only[hob,hl2,and_self,if_true]at h1|-;rcases hes with rfl|rfl
         .exact h1
         .rw [Hb];split at h1
          .rename_i j hf;have hlt:=JW hf;rw[bJ]at hlt;simp only[hf];have e1:(es++[(key2,c9 z,eW)]).getD j default=es.getD j default:=by simp only[cJ];rw[List.getElem?_append_left hlt]
           rw[e1];exact h1
          .rename_i hf;simp only[hf];obtain⟨r,hr⟩:=Jj hok1 hok2;simp only[hr];cases r with
           |false=>exact h1
           |true=>
            have e1:(es++[(key2,c9 z,eW)]).getD (0+es.length) default=(key2,c9 z,eW):=by simp[cJ]
            simp only[e1];exact h1
          .simp at h1
        .simp at h1
       .simp at h3
      .simp at h3
     .simp at h3
    .simp at h2
   split at h1
   .rename_i v1 ids1 hl;obtain⟨rfl,rfl,rfl,rfl⟩:v1=v/\[]=u/\ids1=[id]/\nx1=n:=by simpa using h1
    rw[key hl]
   .simp at h1
 .simp at hk
abbrev E7:=Option (TV×fm×List Nat×Nat)
def EI:E7->Option TV
 |some (v,_)=>some v
 |none=>some (.iz [])
def pU:E7->fm
 |some (_,u,_)=>u
 |none=>[]
def oX:E7->List Nat
 |some (_,_,r,_)=>r
 |none=>[]
def y9(call:Call)(aP i:Nat)(o:m9)(e:jp)(h:bE)(f:E7)(e':jp)(h':bE):Prop:=match f with|some (v,u,aw,n)=>jX e o.guard=some true/\cA call o.k (o.args.map (km e)) h (aP+iD*i)=some (v,u,aw,n)/\n<=aP+iD*(i+1)/\e'=put e o.dst v/\h'=u++h|none=>jX e o.guard=some false/\e'=drop e o.dst/\h'=h
theorem CN{calls:Nat->Call}{aP:Nat}:∀(l:List m9)(i:Nat)(e:jp)(h:bE)(e':jp)(h':bE)(tr:List (List Nat×List Nat)),mj calls aP l i e h=some (e',h',tr)->
  ∃(E:Nat->jp)(Hp:Nat->bE)(ef:Nat->E7),E 0=e/\Hp 0=h/\E l.length=e'/\Hp l.length=h'/\
   ∀(k:Nat)(o:m9),l[k]?=some o->y9 (calls (i+k)) aP (i+k) o (E k) (Hp k) (ef k) (E (k+1)) (Hp (k+1))/\tr[k]?=some (oX (ef k),(pU (ef k)).map (·.1)):=by
 intro l;induction l with
 |nil=>
  intro i e h e' h' tr hh;obtain⟨rfl,rfl,rfl⟩:e=e'/\h=h'/\[]=tr:=by simpa[mj]using hh
  exact⟨fun _=>e,fun _=>h,fun _=>none,rfl,rfl,rfl,rfl,fun k o hk=>by simp at hk⟩
 |cons o r ih=>
  intro i e h e' h' tr hh;simp only[mj]at hh
  have fin:∀(f:E7)(e1:jp)(h1:bE)(tr1:List (List Nat×List Nat)),mj calls aP r (i+1) e1 h1=some (e',h',tr1)->y9 (calls i) aP i o e h f e1 h1->tr=(oX f,(pU f).map (·.1))::tr1->
    ∃(E:Nat->jp)(Hp:Nat->bE)(ef:Nat->E7),E 0=e/\Hp 0=h/\E (o::r).length=e'/\Hp (o::r).length=h'/\
     ∀(k:Nat)(o':m9),(o::r)[k]?=some o'->y9 (calls (i+k)) aP (i+k) o' (E k) (Hp k) (ef k) (E (k+1)) (Hp (k+1))/\tr[k]?=some (oX (ef k),(pU (ef k)).map (·.1)):=by
   intro f e1 h1 tr1 hrun hs htr;obtain⟨E,Hp,ef,a1,a2,a3,a4,a5⟩:=ih (i+1) e1 h1 e' h' tr1 hrun;refine⟨fun k=>match k with|0=>e|k+1=>E k,fun k=>match k with|0=>h|k+1=>Hp k,fun k=>match k with|0=>f|k+1=>ef k,rfl,rfl,a3,a4,fun k o' hk=>?_⟩;subst htr;cases k with
   |zero=>
    obtain rfl:o=o':=by simpa using hk
    refine⟨?_,by simp⟩;simp only[dw,a1,a2];exact hs
   |succ k=>have:=a5 k o' (by simpa using hk);rw[show i+1+k=i+(k+1)by omega]at this;exact⟨this.1,by simpa using this.2⟩
  split at hh
  .rename_i hw;split at hh
   .rename_i v u aw n hev;split at hh
    .rename_i hn;split at hh
     .rename_i e1 h1 tr1 hrun;obtain⟨rfl,rfl,rfl⟩:e1=e'/\h1=h'/\_=tr:=by simpa using hh
      exact fin (some (v,u,aw,n)) _ _ tr1 hrun ⟨hw,hev,hn,rfl,rfl⟩ rfl
     .simp at hh
    .simp at hh
   .simp at hh
  .rename_i hw;split at hh
   .rename_i e1 h1 tr1 hrun;obtain⟨rfl,rfl,rfl⟩:e1=e'/\h1=h'/\_=tr:=by simpa using hh
    exact fin none _ _ tr1 hrun ⟨hw,rfl,rfl⟩ rfl
   .simp at hh
  .simp at hh
section
variable(dst:Nat->Option Nat)(ef:Nat->E7)(D:Nat->Bool)(e0:Nat->Option TV)(h0:Nat->Option Ob)
def nM:Nat->Nat->Option TV
 |0,t=>e0 t
 |k+1,t=>if D k=true/\dst k=some t then EI (ef k)else nM k t
def jl:Nat->Nat->Option Ob
 |0,i=>h0 i
 |k+1,i=>if D k=true then(match cg (pU (ef k)) i with|some o=>o|none=>jl k i)else jl k i
end
def t5(ef:Nat->E7)(k id:Nat):Prop:=id∈(pU (ef k)).map (·.1)
theorem sB{α:Type}{u:List (Nat×α)}{id:Nat}(h:id∉u.map (·.1)):cg u id=none:=by
 induction u with
 |nil=>rfl
 |cons p r ih=>
  obtain⟨i,x⟩:=p;simp only[aA,aK,not_or]at h;have:(i==id)=false:=by simpa using fun e:i=id=>h.1 e.symm
  simp[cg,this,ih h.2]
theorem JP{α:Type}{u:List (Nat×α)}{id:Nat}(h:id∈u.map (·.1)):∃x,cg u id=some x:=by
 induction u with
 |nil=>simp at h
 |cons p r ih=>
  obtain⟨i,x⟩:=p;by_cases e:i=id
  .exact ⟨x,by simp[cg,e]⟩
  .have e':(i==id)=false:=by simpa using e
   simp only[aA,aK]at h;rcases h with h|h
   .exact absurd h.symm e
   .simpa [cg,e']using ih h
section
variable{dst:Nat->Option Nat}{ef:Nat->E7}{D D':Nat->Bool}{E:Nat->jp}{Hp:Nat->bE}
theorem AT{n i t:Nat}(hstep:∀k,k<n->∀t,cg (E (k+1)) t=if dst k=some t then EI (ef k)else cg (E k) t)(hi:i<=n)
  (h1:∀k,k<i->dst k=some t->D k=true) (h2:∀k,i<=k->k<n->dst k=some t->D k=false):nM dst ef D (cg (E 0)) n t=cg (E i) t:=by
 have a:∀k,k<=i->nM dst ef D (cg (E 0)) k t=cg (E k) t:=by
  intro k;induction k with
  |zero=>intro _;rfl
  |succ k ih=>
   intro hk;rw[nM,hstep k (by omega)];by_cases hd:dst k=some t
   .rw [if_pos ⟨h1 k (by omega) hd,hd⟩,if_pos hd]
   .rw [if_neg (fun h=>hd h.2),if_neg hd,ih (by omega)]
 have b:∀d,i+d<=n->nM dst ef D (cg (E 0)) (i+d) t=cg (E i) t:=by intro d;induction d with|zero=>intro _;exact a i (au _)|succ d ih=>intro hd;rw[<-cR,nM,if_neg,ih (by omega)];rintro⟨hD,hdst⟩;rw[h2 (i+d) (by omega) (by omega) hdst]at hD;simp at hD
 have:=b (n-i) (by omega);rwa[jt hi]at this
theorem xR{n i id:Nat}(hstep:∀k,k<n->∀id,az (Hp (k+1)) id=match cg (pU (ef k)) id with|some o=>o|none=>az (Hp k) id)(hi:i<=n)
  (h1:∀k,k<i->t5 ef k id->D k=true) (h2:∀k,i<=k->k<n->t5 ef k id->D k=false):jl ef D (az (Hp 0)) n id=az (Hp i) id:=by
 have a:∀k,k<=i->jl ef D (az (Hp 0)) k id=az (Hp k) id:=by
  intro k;induction k with
  |zero=>intro _;rfl
  |succ k ih=>
   intro hk;rw[jl,hstep k (by omega),ih (by omega)];by_cases ht:t5 ef k id
   .rw [if_pos (h1 k (by omega) ht)]
   .rw [sB ht];simp
 have b:∀d,i+d<=n->jl ef D (az (Hp 0)) (i+d) id=az (Hp i) id:=by
  intro d;induction d with
  |zero=>intro _;exact a i (au _)
  |succ d ih=>
   intro hd;rw[<-cR,jl,ih (by omega)];by_cases ht:t5 ef (i+d) id
   .rw [if_neg (by simp[h2 (i+d) (by omega) (by omega) ht])]
   .rw [sB ht];simp
 have:=b (n-i) (by omega);rwa[jt hi]at this
theorem J1{e0:Nat->Option TV}{n i t:Nat}(hi:i<n)(hD:∀k,k≠i->D' k=D k)(hDi:D' i=true)(hDi0:D i=false)
  (h:dst i=some t->∀k,i<k->k<n->D k=true->dst k≠some t):
  nM dst ef D' e0 n t=if dst i=some t then EI (ef i)else nM dst ef D e0 n t:=by
 have a:∀k,k<=i->nM dst ef D' e0 k t=nM dst ef D e0 k t:=by intro k;induction k with|zero=>intro _;rfl|succ k ih=>intro hk;rw[nM,nM,hD k (by omega),ih (by omega)]
 have b:∀d,i+1+d<=n->nM dst ef D' e0 (i+1+d) t=if dst i=some t then EI (ef i)else nM dst ef D e0 (i+1+d) t:=by
  intro d;induction d with
  |zero=>intro _;show nM dst ef D' e0 (i+1) t=if dst i=some t then EI (ef i)else nM dst ef D e0 (i+1) t;rw[nM,nM,hDi,hDi0,a i (au _)];simp
  |succ d ih=>
   intro hd;rw[<-cR,nM,nM,hD (i+1+d) (by omega),ih (by omega)];by_cases hc:D (i+1+d)=true/\dst (i+1+d)=some t
   .rw [if_pos hc,if_pos hc,if_neg];intro hdi;exact h hdi (i+1+d) (by omega) (by omega) hc.1 hc.2
   .rw [if_neg hc,if_neg hc]
 have:=b (n-(i+1)) (by omega);rwa[jt (by omega)]at this
theorem G7{h0:Nat->Option Ob}{n i id:Nat}(hi:i<n)(hD:∀k,k≠i->D' k=D k)(hDi:D' i=true)(hDi0:D i=false)
  (h:t5 ef i id->∀k,i<k->k<n->D k=true->¬t5 ef k id):
  jl ef D' h0 n id=match cg (pU (ef i)) id with|some o=>o|none=>jl ef D h0 n id:=by
 have a:∀k,k<=i->jl ef D' h0 k id=jl ef D h0 k id:=by intro k;induction k with|zero=>intro _;rfl|succ k ih=>intro hk;rw[jl,jl,hD k (by omega),ih (by omega)]
 have b:∀d,i+1+d<=n->jl ef D' h0 (i+1+d) id=match cg (pU (ef i)) id with|some o=>o|none=>jl ef D h0 (i+1+d) id:=by
  intro d;induction d with
  |zero=>
   intro _;show jl ef D' h0 (i+1) id=match cg (pU (ef i)) id with|some o=>o|none=>jl ef D h0 (i+1) id
   rw[jl,jl,hDi,hDi0,a i (au _)];simp
  |succ d ih=>
   intro hd;rw[<-cR,jl,jl,hD (i+1+d) (by omega),ih (by omega)];by_cases ht:t5 ef i id
   .by_cases hc:D (i+1+d)=true
    .rw [sB (h ht (i+1+d) (by omega) (by omega) hc)];simp
    .rw [if_neg hc,if_neg hc]
   .rw [sB ht]
 have:=b (n-(i+1)) (by omega);rwa[jt (by omega)]at this
end
section
variable{P:Program}{S K:Nat->Prop}{w0 w:World}{Kn:Nat->Prop}{φ:Nat->gr}{gv:List Value}{nt:Nat}{a:Act}{call:Call}{calls:Nat->Call}{db:Aa}{s s':St}
 {ops:Array Oper} {l:List m9} {m:List Nat} {aP:Nat} {E:Nat->jp} {Hp:Nat->bE} {ef:Nat->E7}
def qn(l:List m9)(k:Nat):Option Nat:=(l[k]?).bind (·.dst)
def MT(calls:Nat->Call)(l:List m9)(aP:Nat)(E:Nat->jp)(Hp:Nat->bE)(ef:Nat->E7)(i j:Nat):Prop:=∃c v u id n,l[i]?=some c/\ef i=some (v,u,[id],n)/\cA (calls i) c.k (c.args.map (km (E i))) (pU (ef j)++Hp i) (aP+iD*i)=some (v,u,[id],n)
structure Db(P:Program)(db:Aa)(nt:Nat)(calls:Nat->Call)(ops:Array Oper)(l:List m9)(m:List Nat)(aP:Nat)(E:Nat->jp)(Hp:Nat->bE)(ef:Nat->E7):Prop where
 len:l.length=ops.size
 R6:∀(k:Nat)(o:Oper),ops[k]?=some o->l[k]?=some (f_ P db nt ops o)
 jK:∀(k:Nat)(c:m9),l[k]?=some c->y9 (calls k) aP k c (E k) (Hp k) (ef k) (E (k+1)) (Hp (k+1))
 QD:∀(k:Nat)(o:Oper),ops[k]?=some o->(∀j,eR m j k=true->∃e∈o.after,Region.binds .any e=true/\(e.on=j\/eR m j e.on=true))/\∀e∈o.after,Region.binds .any e=true->e.on<k
 Rl:∀(i j:Nat)(a b:m9),l[i]?=some a->l[j]?=some b->i<j->eR m i j=true\/yg a b=false
 Rp:∀(i j:Nat),i<j->j<ops.size->eR m i j=true\/((∀id,t5 ef i id->id∉oX (ef j)/\¬t5 ef j id)/\((∀id,t5 ef j id->id∉oX (ef i))\/MT calls l aP E Hp ef i j))
theorem y9.dm{i:Nat}{o:m9}{e e':jp}{h h':bE}{f:E7}(hs:y9 call aP i o e h f e' h')(t:Nat):cg e' t=if o.dst=some t then EI f else cg e t:=by cases f with|none=>obtain⟨_,rfl,_⟩:=hs;rw[xX];rfl|some p=>obtain⟨v,u,r,n⟩:=p;obtain⟨_,_,_,rfl,_⟩:=hs;rw[kU];rfl
theorem y9.heap{i:Nat}{o:m9}{e e':jp}{h h':bE}{f:E7}(hs:y9 call aP i o e h f e' h')(id:Nat):az h' id=match cg (pU f) id with|some o=>o|none=>az h id:=by cases f with|none=>obtain⟨_,_,rfl⟩:=hs;rfl|some p=>obtain⟨v,u,r,n⟩:=p;obtain⟨_,_,_,_,rfl⟩:=hs;rw[gm];rfl
theorem Li{e':jp}{h':bE}{e:jp}{h:bE}{tr:List (List Nat×List Nat)}(hl:l=ops.toList.map (f_ P db nt ops))(hord:xx m ops.toList 0=true)(hsch:w9 m l 0=true)
  (hev:mj calls aP l 0 e h=some (e',h',tr)) (hdyn:zT tr (rS m l 0)=true) (hsmall:l.length<=1000):
  ∃E Hp ef,Db P db nt calls ops l m aP E Hp ef/\E 0=e/\Hp 0=h/\E ops.size=e'/\Hp ops.size=h':=by
 obtain⟨E,Hp,ef,h1,h2,h3,h4,h5⟩:=CN l 0 e h e' h' tr hev;have hlen:l.length=ops.size:=by rw[hl];simp
 refine⟨E,Hp,ef,⟨hlen,?_,?_,?_,?_,?_⟩,h1,h2,hlen▸h3,hlen▸h4⟩
 .intro k o hk;rw[hl,aI,aZ,hk];rfl
 .intro k c hk;have:=(h5 k c hk).1;rwa[bJ]at this
 .intro k o hk;have:=D1 hord k o (by rw[aZ];exact hk);rwa[bJ]at this
 .intro i j a b ha hb hij;have:=DD hsch i j a b ha hb hij;rwa[bJ,bJ]at this
 .intro i j hij hj;have hi':i<l.length:=by omega
  have hj':j<l.length:=by omega
  obtain⟨a,ha⟩:∃a,l[i]?=some a:=⟨_,aD hi'⟩
  obtain⟨b,hb⟩:∃b,l[j]?=some b:=⟨_,aD hj'⟩
  have sa:=h5 i a ha;have sb:=h5 j b hb;have noU:∀(k:Nat)(c:m9),y9 (calls (0+k)) aP (0+k) c (E k) (Hp k) (ef k) (E (k+1)) (Hp (k+1))->yA c.k<=1->∀id,¬t5 ef k id:=by intro k c hs hc id ht;unfold t5 at ht;generalize hf:ef k=f at hs ht;cases f with|none=>simp[pU]at ht|some p=>obtain⟨v,u,r,n⟩:=p;obtain⟨_,hev1,_⟩:=hs;rw[show pU (some (v,u,r,n))=u from rfl,Ji hc hev1]at ht;simp at ht
  have noR:∀(k:Nat)(c:m9),y9 (calls (0+k)) aP (0+k) c (E k) (Hp k) (ef k) (E (k+1)) (Hp (k+1))->yA c.k=0->∀id,id∉oX (ef k):=by intro k c hs hc id ht;generalize hf:ef k=f at hs ht;cases f with|none=>simp[oX]at ht|some p=>obtain⟨v,u,r,n⟩:=p;obtain⟨_,hev1,_⟩:=hs;rw[show oX (some (v,u,r,n))=r from rfl,Jh hc hev1]at ht;simp at ht
  rcases CM (m:=m) (i:=0) i j a b ha hb hij with h|h|h|h|h
  .rw [bJ,bJ]at h;exact .inl h
  .exact .inr ⟨fun id ht=>absurd ht (noU i a sa.1 (by omega) id),.inl fun id _=>noR i a sa.1 h id⟩
  .exact .inr ⟨fun id _=>⟨noR j b sb.1 h id,noU j b sb.1 (by omega) id⟩,.inl fun id ht=>absurd ht (noU j b sb.1 (by omega) id)⟩
  .by_cases ea:yA a.k<=1
   .by_cases eb:yA b.k<=1
    .exact .inr ⟨fun id ht=>absurd ht (noU i a sa.1 ea id),.inl fun id ht=>absurd ht (noU j b sb.1 eb id)⟩
    .have:yA a.k=0:=by omega
     exact .inr ⟨fun id ht=>absurd ht (noU i a sa.1 (by omega) id),.inl fun id _=>noR i a sa.1 this id⟩
   .have:yA b.k=0:=by omega
    exact .inr ⟨fun id _=>⟨noR j b sb.1 this id,noU j b sb.1 (by omega) id⟩,.inl fun id ht=>absurd ht (noU j b sb.1 (by omega) id)⟩
  .rw [bJ,bJ]at h
   have hapart:lr (oX (ef i),(pU (ef i)).map (·.1)) (oX (ef j),(pU (ef j)).map (·.1))=true->
     (∀id,t5 ef i id->id∉oX (ef j)/\¬t5 ef j id)/\((∀id,t5 ef j id->id∉oX (ef i))\/MT calls l aP E Hp ef i j):=by
    intro this;simp only[lr,ai,bd,Bool.not_eq_true',List.contains_eq_mem,decide_eq_false_iff_not]at this;exact⟨fun id ht=>⟨(this.1 id ht).1,(this.1 id ht).2⟩,.inl fun id ht=>this.2 id ht⟩
   have hd:=bd.1 hdyn _ h;by_cases hso:zh a.k b.k=true
   .rw [if_pos hso]at hd;simp only at hd;rw[if_pos (by omega),show 1000+j-1000=j by omega]at hd;simp only[Dy,sa.2,sb.2,cu]at hd;rcases hd with hd|hd
    .exact .inr (hapart hd)
    .right;split at hd
     .rename_i id hab;obtain⟨hR,hU⟩:=ad hab;refine⟨fun id ht=>by unfold t5 at ht;rw[hU]at ht;simp at ht,?_⟩;by_cases htj:t5 ef j id
      .right
       -- nobody between lays that object anew
       have hsame:∀k,i<=k->k<=j->az (Hp k) id=az (Hp i) id:=by
        intro k hk;induction k with
        |zero=>intro _;rw[show i=0 by omega]
        |succ k ih=>
         intro hkj;by_cases e:i=k+1
         .rw [e]
         .have hik:i<=k:=by omega
          rw[<-ih hik (by omega)];obtain⟨c,hc⟩:∃c,l[k]?=some c:=⟨_,aD (by omega)⟩
          have sk:=h5 k c hc;rw[sk.1.heap id]
          have hn:id∉(pU (ef k)).map (·.1):=by
           by_cases e2:k=i
           .subst e2;rw[hU];simp
           .have hm:(oX (ef k),(pU (ef k)).map (·.1))∈(tr.take j).drop (i+1):=by refine aW (i:=k-(i+1)) ?_;rw[List.getElem?_drop,show i+1+(k-(i+1))=k by omega,List.getElem?_take,if_pos (by omega)];exact sk.2
            have:=bd.1 hd _ hm;simpa using this
          rw[sB hn]
       have sai:=sa.1;have sbj:=sb.1;generalize hfi:ef i=fi at sai hR hU;generalize hfj:ef j=fj at sbj;cases fi with
       |none=>simp[oX]at hR
       |some p=>obtain⟨v,u,aw,n⟩:=p;obtain rfl:aw=[id]:=hR;cases fj with|none=>unfold t5 at htj;rw[hfj]at htj;simp[pU]at htj|some q=>obtain⟨v2,u2,ids2,n2⟩:=q;unfold t5 at htj;rw[hfj]at htj;obtain⟨_,hev1,_⟩:=sai;obtain⟨_,hev2,_⟩:=sbj;rw[bJ]at hev1 hev2;exact⟨a,v,u,id,n,ha,hfi,by rw[hfj];exact Gb hso hev1 hev2 (hsame j (by omega) (au _)) htj⟩
      .left;intro id2 ht2;rw[hR];simp only[aq];rintro rfl;exact htj ht2
     .simp at hd
   .rw [if_neg hso]at hd;simp only at hd;rw[if_neg (by omega)]at hd;simp only[sa.2,sb.2]at hd;exact .inr (hapart hd)
def yy(ops:Array Oper)(D:Nat->Bool):Prop:=∀(k:Nat)(o:Oper),ops[k]?=some o->D k=true->∀e∈o.after,Region.binds .any e=true->D e.on=true
theorem Db.Kc(hp:Db P db nt calls ops l m aP E Hp ef){D:Nat->Bool}(hc:yy ops D){i:Nat}:∀(N j:Nat),j<N->j<ops.size->D j=true->eR m i j=true->D i=true:=by
 intro N;induction N with
 |zero=>intro j hj;omega
 |succ N ih=>
  intro j hj hjn hD hb;have ho:ops[j]?=some ops[j]:=iQ hjn;obtain⟨h1,h2⟩:=hp.QD j _ ho;obtain⟨e,he,hbd,h⟩:=h1 i hb;have hDe:=hc j _ ho hD e he hbd;rcases h with h|h
  .rw [<-h];exact hDe
  .have:=h2 e he hbd;exact ih e.on (by omega) (by omega) hDe h
theorem Db.O1(hp:Db P db nt calls ops l m aP E Hp ef){D:Nat->Bool}(hc:yy ops D){i j:Nat}{o:Oper}(hi:ops[i]?=some o)(hall:∀e∈o.after,Region.binds .any e=true->D e.on=true)
  (hb:eR m j i=true):D j=true:=by
 obtain⟨h1,h2⟩:=hp.QD i _ hi;obtain⟨e,he,hbd,h⟩:=h1 j hb;have hDe:=hall e he hbd;rcases h with h|h
 .rw [<-h];exact hDe
 .have:=h2 e he hbd;have hlt:i<ops.size:=(bg.1 hi).1;exact hp.Kc hc (e.on+1) e.on (by omega) (by omega) hDe h
theorem FJ{d:Option Nat}{l:List Nat}{t:Nat}(hd:d=some t)(h:t∈l):G5 d l=true:=by subst hd;simpa[G5]using h
theorem Db.Qy(hp:Db P db nt calls ops l m aP E Hp ef){D:Nat->Bool}(hc:yy ops D){i:Nat}{o:Oper}{c:m9}(hi:ops[i]?=some o)(hci:l[i]?=some c)(hD:D i=false)
  (hall:∀e∈o.after,Region.binds .any e=true->D e.on=true):
  (∀t∈Ec c,nM (qn l) ef D (cg (E 0)) ops.size t=cg (E i) t)/\(∃G,(∀id∈oX (ef i),jl ef D (az (Hp 0)) ops.size id=az G id)/\∀v u aw n,ef i=some (v,u,aw,n)->cA (calls i) c.k (c.args.map (km (E i))) G (aP+iD*i)=some (v,u,aw,n))/\
  (∀t,c.dst=some t->∀k,i<k->k<ops.size->D k=true->qn l k≠some t)/\(∀id,t5 ef i id->∀k,i<k->k<ops.size->D k=true->¬t5 ef k id):=by
 have hlt:i<ops.size:=(bg.1 hi).1;have get:∀k,k<ops.size->∃b,l[k]?=some b:=fun k hk=>⟨_,aD (by rw[hp.len];exact hk)⟩;have lat:∀k,i<k->k<ops.size->eR m i k=true->D k=false:=by intro k _ hk hb;cases hDk:D k with|false=>rfl|true=>rw[hp.Kc hc (k+1) k (by omega) hk hDk hb]at hD;simp at hD
 refine⟨fun t ht=>?_,?_,fun t ht k hik hk hDk hdk=>?_,fun id ht k hik hk hDk htk=>?_⟩
 .refine AT (fun k hk t=>?_) (Nat.le_of_lt hlt) (fun k hk hd=>?_) (fun k hik hk hd=>?_)
  .obtain ⟨b,hb⟩:=get k hk;have:=(hp.jK k b hb).dm t;rw[this];simp[qn,hb]
  .obtain ⟨b,hb⟩:=get k (by omega);have hbd:b.dst=some t:=by simpa[qn,hb]using hd
   rcases hp.Rl k i b c hb hci hk with h|h
   .exact hp.O1 hc hi hall h
   .simp [yg,FJ hbd ht]at h
  .rcases eV i k with h1|h1
   .obtain ⟨b,hb⟩:=get k (by omega);have hbd:b.dst=some t:=by simpa[qn,hb]using hd
    rcases hp.Rl i k c b hci hb h1 with h|h
    .exact lat k h1 hk h
    .simp [yg,FJ hbd ht]at h
   .obtain rfl:k=i:=by omega
    exact hD
 .have hev:∀v u aw n,ef i=some (v,u,aw,n)->cA (calls i) c.k (c.args.map (km (E i))) (Hp i) (aP+iD*i)=some (v,u,aw,n):=by intro v u aw n hf;have hs:=hp.jK i c hci;rw[hf]at hs;exact hs.2.1
  by_cases hsoft:∃k,i<k/\k<ops.size/\D k=true/\∃id∈oX (ef i),t5 ef k id
  .--the R4 of those that came ahead
   obtain⟨k,⟨hik,hk,hDk,id0,hid0,ht0⟩,hmax⟩:∃k,(i<k/\k<ops.size/\D k=true/\∃id∈oX (ef i),t5 ef k id)/\∀k',k<k'->¬(i<k'/\k'<ops.size/\D k'=true/\∃id∈oX (ef i),t5 ef k' id):=by
    have:∀(N:Nat)(k:Nat),ops.size-k<=N->(i<k/\k<ops.size/\D k=true/\∃id∈oX (ef i),t5 ef k id)->
      ∃k,(i<k/\k<ops.size/\D k=true/\∃id∈oX (ef i),t5 ef k id)/\∀k',k<k'->¬(i<k'/\k'<ops.size/\D k'=true/\∃id∈oX (ef i),t5 ef k' id):=by
     intro N;induction N with
     |zero=>intro k h1 h2;omega
     |succ N ihN=>
      intro k h1 h2;by_cases hm:∃k',k<k'/\(i<k'/\k'<ops.size/\D k'=true/\∃id∈oX (ef i),t5 ef k' id)
      .obtain ⟨k',h3,h4⟩:=hm;exact ihN k' (by omega) h4
      .exact ⟨k,h2,fun k' h3 h4=>hm ⟨k',h3,h4⟩⟩
    obtain⟨k,h⟩:=hsoft;exact this _ k (au _) h
   rcases hp.Rp i k hik hk with h|⟨_,h|h⟩
   .rw [lat k hik hk h]at hDk;simp at hDk
   .exact absurd hid0 (h id0 ht0)
   .obtain ⟨c',v,u,id,n,hc',hf,hev'⟩:=h;obtain rfl:c=c':=aa (hci.symm.trans hc');have hR:oX (ef i)=[id]:=by rw[hf];rfl
    refine⟨pU (ef k)++Hp i,fun id' hid'=>?_,fun v' u' ids' n' hf'=>?_⟩
    .obtain rfl:id'=id:=by rw[hR]at hid';simpa using hid'
     obtain rfl:id0=id':=by rw[hR]at hid0;simpa using hid0
     obtain⟨x,hx⟩:=JP ht0
     have hlast:∀n',k<n'->n'<=ops.size->jl ef D (az (Hp 0)) n' id0=x:=by
      intro n' hkn;induction n' with
      |zero=>omega
      |succ n' ihn=>
       intro hn';simp only[jl];by_cases e:n'=k
       .subst e;rw[hx];simp[hDk]
       .have hno:¬(D n'=true/\t5 ef n' id0):=fun hh=>hmax n' (by omega) ⟨by omega,by omega,hh.1,id0,hid',hh.2⟩;have:=ihn (by omega) (by omega);cases hDn:D n' with|false=>simpa[hDn]using this|true=>have hnt:¬t5 ef n' id0:=fun h=>hno ⟨hDn,h⟩;rw[sB hnt];simpa[hDn]using this
     rw[hlast ops.size hk (au _),gm];simp only[bm,hx]
    .rw [hf]at hf';obtain⟨rfl,rfl,rfl,rfl⟩:v=v'/\u=u'/\[id]=ids'/\n=n':=by simpa using hf'
     exact hev'
  .refine ⟨Hp i,fun id hid=>?_,hev⟩;refine xR (fun k hk id=>?_) (Nat.le_of_lt hlt) (fun k hk hd=>?_) (fun k hik hk hd=>?_)
   .obtain ⟨b,hb⟩:=get k hk;exact(hp.jK k b hb).heap id
   .rcases hp.Rp k i hk hlt with h|h
    .exact hp.O1 hc hi hall h
    .exact absurd hid (h.1 id hd).1
   .rcases eV i k with h1|h1
    .cases hDk:D k with|false=>rfl|true=>exact absurd ⟨k,h1,hk,hDk,id,hid,hd⟩ hsoft
    .obtain rfl:k=i:=by omega
     exact hD
 .obtain ⟨b,hb⟩:=get k hk;have hbd:b.dst=some t:=by simpa[qn,hb]using hdk
  rcases hp.Rl i k c b hci hb hik with h|h
  .rw [lat k hik hk h]at hDk;simp at hDk
  .simp [yg,ht,hbd,G5]at h
 .rcases hp.Rp i k hik hk with h|h
  .rw [lat k hik hk h]at hDk;simp at hDk
  .exact absurd htk (h.1 id ht).2
def Hw(D:Nat->Bool):Nat->Nat
 |0=>0
 |k+1=>Hw D k+if D k=true then 0 else 1
theorem L4{D D':Nat->Bool}{i:Nat}(hD:∀k,k≠i->D' k=D k)(h1:D' i=true)(h0:D i=false):∀n,i<n->Hw D' n+1=Hw D n:=by
 have a:∀k,k<=i->Hw D' k=Hw D k:=by intro k;induction k with|zero=>intro _;rfl|succ k ih=>intro hk;simp only[Hw];rw[ih (by omega),hD k (by omega)]
 intro n;induction n with
 |zero=>intro h;omega
 |succ n ih=>
  intro h;simp only[Hw];by_cases e:i=n
  .subst e;rw[a i (au _),h1,h0];simp
  .have:=ih (by omega);rw[hD n (fun h=>e h.symm)];omega
theorem Kb{D:Nat->Bool}:∀{n:Nat},Hw D n=0->∀k,k<n->D k=true:=by
 intro n;induction n with
 |zero=>intro _ k hk;omega
 |succ n ih=>
  intro h k hk;simp only[Hw]at h;by_cases e:k=n
  .subst e;by_cases hd:D k=true
   .exact hd
   .simp [hd]at h
  .exact ih (by omega) k (by omega)
theorem L3(n:Nat):Hw (fun _=>false) n=n:=by induction n with|zero=>rfl|succ n ih=>simp[Hw,ih]
theorem Bi{e e':jp}{g:Option (Nat×Bool)}(h:∀t∈(match g with|some (t,_)=>[t]|none=>([]:List Nat)),cg e' t=cg e t):jX e' g=jX e g:=by cases g with|none=>rfl|some p=>obtain⟨t,b⟩:=p;simp only[jX,h t (by simp)]
theorem GE{e e':jp}:∀{args:List Operand},(∀t∈args.filterMap Rw,cg e' t=cg e t)->args.map (km e')=args.map (km e):=by intro args h;refine List.map_congr_left fun x hx=>?_;cases x with|tmp t=>exact h t (List.mem_filterMap.2 ⟨.tmp t,hx,rfl⟩)|_=>rfl
theorem J3(hok:∀i,mu P (calls i))(hnt:nt<1000000000){Q:Exit->Act->World->Prop}(hp:Db P db nt calls ops l m aP E Hp ef){S0:Nat->Prop}{ws:World}{gh:List C}
  (hQ:∀S' Kn' φ' a' w',gF S0 ws S' w'->E6 S' K w0 Kn' φ' gv nt ⟨E ops.size,Hp ops.size,aP+iD*l.length,gh⟩ a' w'->Q .normal a' w'):
  ∀(fuel:Nat)(listed:Array Bool)(S:Nat->Prop)(Kn:Nat->Prop)(φ:Nat->gr)(a:Act)(w:World)(ec:jp)(hc:bE),
  listed.size=ops.size->Hw (fun k=>listed.getD k false) ops.size<=fuel->yy ops (fun k=>listed.getD k false)->
  (∀t,cg ec t=nM (qn l) ef (fun k=>listed.getD k false) (cg (E 0)) ops.size t)->(∀id,az hc id=jl ef (fun k=>listed.getD k false) (az (Hp 0)) ops.size id)->
  Inv S K w0 Kn φ (az hc) w->jp.ok S w Kn φ ec a.tmps->a.tmps.size=nt->a.defers=[]->
  (∀j,Kn j->j<aP\/∃i,i<ops.size/\listed.getD i false=true/\aP+iD*i<=j/\j<aP+iD*(i+1))->
  (∀(i:Nat)(c:C)(v:Value),gh[i]?=some c->gv[i]?=some v->RG S w Kn φ c v)->gF S0 ws S w->wpAny P .any ops Q fuel listed a w:=by
 intro fuel;induction fuel with
 |zero=>
  intro listed S Kn φ a w ec hc hsz hcnt hcl henv hheap hI hE hts hdf hKn hgh hstp;have hall:=Kb (Nat.le_zero.1 hcnt);refine⟨?_,?_⟩
  .rw [List.eq_nil_iff_forall_not_mem];intro i hi;obtain⟨h0,o,ho,_⟩:=mem_ready.1 hi;have hlt:i<ops.size:=(bg.1 ho).1;have h2:=hall i hlt;have hlt2:i<listed.size:=by omega
   simp[jW,hlt2]at h0 h2;rw[h0]at h2;simp at h2
  .refine hQ S Kn φ a w hstp ⟨?_,?_,hts,hdf,?_,hgh⟩
   .have:az hc=az (Hp ops.size):=by funext id;rw[hheap];refine xR (fun k hk id=>?_) (au _) (fun k hk _=>hall k hk) (fun k h1 h2 _=>by omega);exact(hp.jK k _ (aD (by rw[hp.len];exact hk))).heap id
    rw[<-this];exact hI
   .intro t x hx;refine hE t x ?_;rw[henv,<-hx];refine AT (fun k hk t=>?_) (au _) (fun k hk _=>hall k hk) (fun k h1 h2 _=>by omega);have hb:l[k]?=some _:=aD (by rw[hp.len];exact hk);have:=(hp.jK k _ hb).dm t;rw[this];simp only[qn,hb,ae]
   .intro j hj hk;have hj':aP+iD*l.length<=j:=hj;rw[hp.len]at hj';rcases hKn j hk with h|⟨i,hi,_,h1,h2⟩
    .omega
    .have:iD*(i+1)<=iD*ops.size:=k_ _ (by omega);omega
 |succ fuel ih=>
  intro listed S Kn φ a w ec hc hsz hcnt hcl henv hheap hI hE hts hdf hKn hgh hstp
  have fin:(∀k,k<ops.size->listed.getD k false=true)->Q .normal a w:=by
   intro hall;refine hQ S Kn φ a w hstp ⟨?_,?_,hts,hdf,?_,hgh⟩
   .have:az hc=az (Hp ops.size):=by funext id;rw[hheap];refine xR (fun k hk id=>?_) (au _) (fun k hk _=>hall k hk) (fun k h1 h2 _=>by omega);exact(hp.jK k _ (aD (by rw[hp.len];exact hk))).heap id
    rw[<-this];exact hI
   .intro t x hx;refine hE t x ?_;rw[henv,<-hx];refine AT (fun k hk t=>?_) (au _) (fun k hk _=>hall k hk) (fun k h1 h2 _=>by omega);have hb:l[k]?=some _:=aD (by rw[hp.len];exact hk);have:=(hp.jK k _ hb).dm t;rw[this];simp only[qn,hb,ae]
   .intro j hj hk;have hj':aP+iD*l.length<=j:=hj;rw[hp.len]at hj';rcases hKn j hk with h|⟨i,hi,_,h1,h2⟩
    .omega
    .have:iD*(i+1)<=iD*ops.size:=k_ _ (by omega);omega
  refine⟨fun hnil=>fin ?_,fun i hi=>?_⟩
  .--nothing is ready:all is done
   intro k;induction k using Nat.strongRecOn with
   |_ k ihk=>
    intro hk;cases hd:listed.getD k false with
    |true=>rfl
    |false=>
     exfalso;have ho:ops[k]?=some ops[k]:=iQ hk
     have:k∈Region.ready .any ops listed:=by
      rw[mem_ready];refine⟨?_,_,ho,fun e he hbk=>?_⟩
      .have hlt2:k<listed.size:=by omega
       simp[jW,hlt2]at hd|-;exact hd
      .have:=(hp.QD k _ ho).2 e he hbk;exact ihk e.on this (by omega)
     rw[hnil]at this;simp at this
  .obtain ⟨h0,o,ho,hall⟩:=mem_ready.1 hi;have hlt:i<ops.size:=(bg.1 ho).1;have hlt2:i<listed.size:=by omega
   have hD:listed.getD i false=false:=by simp[jW,hlt2]at h0|-;exact h0
   have hci:=hp.R6 i o ho;have hstep:=hp.jK i _ hci;obtain⟨s1,s2,s3,s4⟩:=hp.Qy (D:=fun k=>listed.getD k false) hcl ho hci hD hall;have hD':∀k,k≠i->(listed.setIfInBounds i true).getD k false=listed.getD k false:=fun k hk=>getD_set_ne false (fun e=>hk e.symm);have hDi:(listed.setIfInBounds i true).getD i false=true:=by simp[hlt2]
   have hcnt':Hw (fun k=>(listed.setIfInBounds i true).getD k false) ops.size<=fuel:=by have:=L4 (D:=fun k=>listed.getD k false) (D':=fun k=>(listed.setIfInBounds i true).getD k false) hD' hDi hD ops.size hlt;omega
   have hcl':yy ops (fun k=>(listed.setIfInBounds i true).getD k false):=by
    intro k o' ho' hk e he hb;by_cases e1:k=i
    .subst e1;obtain rfl:o=o':=by have:=ho.symm.trans ho';exact aa this
     exact getD_set_true (hall e he hb)
    .have hk':listed.getD k false=true:=by rw[<-hD' k e1];exact hk
     exact getD_set_true (hcl k o' ho' hk' e he hb)
   have hdstD:qn l i=o.dst:=by simp[qn,hci,f_]
   have henv':∀t,nM (qn l) ef (fun k=>(listed.setIfInBounds i true).getD k false) (cg (E 0)) ops.size t=if o.dst=some t then EI (ef i)else cg ec t:=by intro t;rw[J1 (D:=fun k=>listed.getD k false) hlt hD' hDi hD (fun hd=>s3 t (by rw[hdstD]at hd;exact hd)),hdstD,henv t]
   have hheap':∀id,jl ef (fun k=>(listed.setIfInBounds i true).getD k false) (az (Hp 0)) ops.size id=match cg (pU (ef i)) id with|some o=>o|none=>az hc id:=by
    intro id;rw[G7 (D:=fun k=>listed.getD k false) hlt hD' hDi hD (fun ht=>s4 id ht),hheap id]
    all_goals(cases cg (pU (ef i)) id<;>rfl)
   have hwe:jX ec (f_ P db nt ops o).guard=jX (E i) (f_ P db nt ops o).guard:=by refine Bi fun t ht=>?_;rw[henv t];exact s1 t (aG _ ht)
   have hae:(f_ P db nt ops o).args.map (km ec)=(f_ P db nt ops o).args.map (km (E i)):=by refine GE fun t ht=>?_;rw[henv t];exact s1 t (aC _ ht)
   simp only[wpOp,ho];generalize hfe:ef i=f at hstep henv' hheap' s2;cases f with
   |none=>
    obtain⟨hw,_,_⟩:=hstep;rw[<-hwe]at hw;have hwant:=pm hE (by rw[hts];exact hnt) hw;rw[if_neg (by simp[hwant])];refine ih _ S Kn φ _ w (drop ec o.dst) hc (by simp[hsz]) hcnt' hcl' ?_ ?_ hI (jp.FO hE) (by rw[ud];exact hts) (by rw[qH];exact hdf) ?_ hgh hstp
    .intro t;rw[henv' t,xX];rfl
    .intro id;rw[hheap' id];rfl
    .intro j hj;rcases hKn j hj with h|⟨k,hk,h1,h2⟩
     .exact .inl h
     .exact .inr ⟨k,hk,getD_set_true h1,h2⟩
   |some p=>
    obtain⟨v,u,aw,n⟩:=p;obtain⟨hw,hev,hn,_,_⟩:=hstep;rw[<-hwe]at hw;obtain⟨G,g1,g2⟩:=s2;have hev3:=g2 v u aw n rfl;rw[<-hae]at hev3;have hev2:=Hj (H':=hc) hev3 (fun id hid=>by rw[hheap id];exact g1 id hid);have hwant:=pm hE (by rw[hts];exact hnt) hw;rw[if_pos hwant];left
    have hdst:∀x,o.dst=some x->x<a.tmps.size:=by
     intro x hx;rw[hts];rcases eV x nt with h1|h1
     .exact h1
     .exfalso;have:(f_ P db nt ops o).k=.fU:=by simp only[f_,hx];rw[if_neg (by simp;omega)]
      rw[this,fD]at hev2;simp at hev2
    have hk:v8 P db o.op=((f_ P db nt ops o).k,(f_ P db nt ops o).args):=by
     have:(f_ P db nt ops o).k=(v8 P db o.op).1:=by simp only[f_];rw[if_pos];cases hd:o.dst with|none=>rfl|some d=>have:=hdst d hd;rw[hts]at this;simpa using this
     rw[this];rfl
    have hfr:∀j,aP+iD*i<=j->j<n->¬Kn j:=by
     intro j h1 h2 hk;rcases hKn j hk with h|⟨k,hkn,h3,h4,h5⟩
     .omega
     .have hne:k≠i:=by rintro rfl;rw[h3]at hD;simp at hD
      rcases eV k i with h6|h6
      .have:iD*(k+1)<=iD*i:=k_ _ (by omega);omega
      .have:iD*(i+1)<=iD*k:=k_ _ (by omega);omega
    have hgo:=B4 (hok i) hk hI hE hfr hev2;refine hgo _ _ fun val w' hDn=>?_;obtain⟨hle,S',φ',h1,h2,h3,h4⟩:=hDn;refine ih _ S' (ow Kn (aP+iD*i) n) φ' _ w' (put ec o.dst v) (u++hc) (by simp[hsz]) hcnt' hcl' ?_ ?_ ?_ (jp.It hE h1 h2 hdst h3) (by rw[ud];exact hts) (by rw[qH];exact hdf) ?_ ?_ (hstp.trans h1)
    .intro t;rw[henv' t,kU];rfl
    .intro id;rw[hheap' id,gm];rfl
    .rw [gm];exact h4
    .intro j hj;rcases hj with hj|hj
     .rcases hKn j hj with h|⟨k,hk,h1,h2⟩
      .exact .inl h
      .exact .inr ⟨k,hk,getD_set_true h1,h2⟩
     .exact .inr ⟨i,hlt,hDi,hj.1,by omega⟩
    .intro i c v hc hv;exact(hgh i c v hc hv).mono h1 h2
theorem CO(hok:∀i,mu P (calls i))(hnt:nt<1000000000){Q:Exit->Act->World->Prop}{e':jp}{h':bE}{tr:List (List Nat×List Nat)}(hl:l=ops.toList.map (f_ P db nt ops))
  (hord:xx m ops.toList 0=true) (hsch:w9 m l 0=true) (hev:mj calls s.next l 0 s.dm s.heap=some (e',h',tr)) (hdyn:zT tr (rS m l 0)=true) (hsmall:l.length<=1000)
  (hR:E6 S K w0 Kn φ gv nt s a w)
  (hQ:∀S' Kn' φ' a' w',gF S w S' w'->E6 S' K w0 Kn' φ' gv nt ⟨e',h',s.next+iD*l.length,s.gh⟩ a' w'->Q .normal a' w'):
  wpAny P .any ops Q ops.size (Array.replicate ops.size false) a {w with drawn:=w.drawn+1}:=by
 obtain⟨E,Hp,ef,hp,h1,h2,h3,h4⟩:=Li hl hord hsch hev hdyn hsmall;have hd:∀k,(Array.replicate ops.size false).getD k false=false:=by intro k;simp only[bz,Array.getElem?_replicate];split<;>rfl
 have eC:gF S w S {w with drawn:=w.drawn+1}:=gF.wn S w _;refine J3 (gv:=gv) (K:=K) (w0:=w0) hok hnt hp (S0:=S) (ws:=w) (gh:=s.gh) ?_ ops.size _ S Kn φ a _ s.dm s.heap (by simp) ?_ ?_ ?_ ?_ (hR.inv.wn _ (Nat.le_succ _)) ?_ hR.size hR.defers ?_ ?_ eC
 .rw [h3,h4];exact hQ
 .simp only[hd,L3];exact au _
 .intro k o _ hk;simp only[hd]at hk;simp at hk
 .intro t;simp only[hd];rw[h1];have:∀k,nM (qn l) ef (fun _=>false) (cg s.dm) k t=cg s.dm t:=by intro k;induction k with|zero=>rfl|succ k ih=>simp[nM,ih]
  exact(this _).symm
 .intro id;simp only[hd];rw[h2];have:∀k,jl ef (fun _=>false) (az s.heap) k id=az s.heap id:=by intro k;induction k with|zero=>rfl|succ k ih=>simp[jl,ih]
  exact(this _).symm
 .intro t x hx;exact(hR.dm t x hx).mono eC (sH.refl _ _)
 .intro j hj;rcases eV j s.next with h|h
  .exact .inl h
  .exact absurd hj (hR.gp j h)
 .intro i c v hc hv;exact(hR.gh i c v hc hv).mono eC (sH.refl _ _)
end
def pg(P:Program)(db:Aa)(nt:Nat):Code->CC
 |.skip=>.skip
 |.region _ ops draw=>if draw then vF ops.toList (ops.toList.map (f_ P db nt ops)) []else .region (ops.toList.map (f_ P db nt ops)) []
 |.seq a b=>.seq (pg P db nt a) (pg P db nt b)
 |.cond c a b=>.cond c (pg P db nt a) (pg P db nt b)
 |.block id a=>.block id (pg P db nt a)
 |.loop a=>.loop [] (pg P db nt a)
 |.scope a=>pg P db nt a
 |.label _=>.skip
 |.exit id=>.exit id
 |.ret=>.ret
 |_=>.fU
def Nn:rj->Exit
 |.normal=>.normal
 |.exit id=>.exit id
 |.ret=>.ret
def Sub(s s1:St):Prop:=∀(S K:Nat->Prop)(w0:World)(Kn:Nat->Prop)(φ:Nat->gr)(gv:List Value)(nt:Nat)(a:Act)(w:World),
 E6 S K w0 Kn φ gv nt s a w->∃S' Kn' φ',gF S w S' w/\E6 S' K w0 Kn' φ' gv nt s1 a w
theorem Sub.refl(s:St):Sub s s:=fun S _ _ Kn φ _ _ _ w h=>⟨S,Kn,φ,gF.refl S w,h⟩
theorem Sub.trans{s s1 s2:St}(a:Sub s s1)(b:Sub s1 s2):Sub s s2:=fun S K w0 Kn φ gv nt ac w h=>
 let⟨S1,Kn1,φ1,h1,h2⟩:=a S K w0 Kn φ gv nt ac w h;let⟨S2,Kn2,φ2,h3,h4⟩:=b S1 K w0 Kn1 φ1 gv nt ac w h2
 ⟨S2,Kn2,φ2,h1.trans h3,h4⟩
def wk(Q:St->Prop)(s:St):Prop:=∃s1,Sub s s1/\Q s1
theorem wk.of{Q:St->Prop}{s:St}(h:Q s):wk Q s:=⟨s,Sub.refl s,h⟩
def WO(P:Program):List m9->St->(St->Prop)->Prop
 |[],s,Q=>wk Q s
 |o::r,s,Q=>∃s1,Sub s s1/\
  ((jX s1.dm o.guard=some true/\∃call v u aw n,mu P call/\cA call o.k (o.args.map (km s1.dm)) s1.heap s1.next=some (v,u,aw,n)/\WO P r ⟨put s1.dm o.dst v,u++s1.heap,n,s1.gh⟩ Q)\/
   (jX s1.dm o.guard=some false/\WO P r ⟨drop s1.dm o.dst,s1.heap,s1.next,s1.gh⟩ Q))
def s_(R:St->Prop)(Q:rj->St->Prop):rj->St->Prop
 |.normal,s=>R s
 |.exit id,s=>Q (.exit id) s
 |.ret,s=>Q .ret s
def uP(id:Nat)(Q:rj->St->Prop):rj->St->Prop
 |.exit id',s=>if id'=id then Q .normal s else Q (.exit id') s
 |.normal,s=>Q .normal s
 |.ret,s=>Q .ret s
def W(P:Program):CC->St->(rj->St->Prop)->Prop
 |.skip,s,Q=>wk (Q .normal) s
 |.region ops _,s,Q=>WO P ops s fun s'=>wk (Q .normal) s'
 |.drawn ops dyn _,s,Q=>∃s1,Sub s s1/\∃calls e h tr,(∀i,mu P (calls i))/\mj calls s1.next ops 0 s1.dm s1.heap=some (e,h,tr)/\zT tr dyn=true/\
   wk (Q .normal) ⟨e,h,s1.next+iD*ops.length,s1.gh⟩
 |.seq a b,s,Q=>W P a s (s_ (fun s'=>W P b s' Q) Q)
 |.cond c a b,s0,Q=>∃s,Sub s0 s/\∃t,km s.dm c=some (.c (.d (.lit (.bool t))))/\(t=true->W P a s Q)/\(t=false->W P b s Q)
 |.block id a,s,Q=>W P a s (uP id Q)
 |.loop _ a,s,Q=>∃(I:Nat->St->Prop)(n:Nat),wk (I n) s/\∀n s,I n s->W P a s (s_ (fun s'=>∃m,m<n/\wk (I m) s') Q)
 |.exit id,s,Q=>wk (Q (.exit id)) s
 |.ret,s,Q=>wk (Q .ret) s
 |.fU,_,_=>False
section
variable{P:Program}{S K:Nat->Prop}{w0 w:World}{Kn:Nat->Prop}{φ:Nat->gr}{gv:List Value}{nt:Nat}{a:Act}{db:Aa}{s s':St}
theorem HY{all:Array Oper}{R:Exit->Act->World->Prop}(hnt:nt<1000000000){Q:St->Prop}:∀(l:List Nat)(os:List Oper)(s:St)(S:Nat->Prop)(Kn:Nat->Prop)(φ:Nat->gr)(a:Act)(w:World),
  (∀(i j:Nat),l[i]?=some j->all[j]?=os[i]?)->l.length=os.length->WO P (os.map (f_ P db nt all)) s Q->E6 S K w0 Kn φ gv nt s a w->
  (∀S' Kn' φ' s' a' w',Q s'->gF S w S' w'->E6 S' K w0 Kn' φ' gv nt s' a' w'->R .normal a' w')->wpOps P all R l a w:=by
 intro l;induction l with
 |nil=>intro os s S Kn φ a w _ hl h hR hQ;obtain rfl:os=[]:=bk.1 hl.symm;obtain⟨s1,h1,h2⟩:=h;obtain⟨S1,Kn1,φ1,h3,h4⟩:=h1 S K w0 Kn φ gv nt a w hR;exact hQ S1 Kn1 φ1 s1 a w h2 h3 h4
 |cons i l ih=>
  intro os s S Kn φ a w hi hl h hR hQ;cases os with
  |nil=>simp at hl
  |cons o os=>
   have ho:all[i]?=some o:=by simpa using hi 0 i rfl
   simp only[aA,WO]at h;obtain⟨s1,hsub,h⟩:=h;obtain⟨S1,Kn1,φ1,hs1,hR1⟩:=hsub S K w0 Kn φ gv nt a w hR;simp only[wpOps,ho];rcases h with⟨hw,call,v,u,aw,n,hok,hev,h⟩|⟨hw,h⟩
   .have hwant:=pm hR1.dm (by rw[hR1.size];exact hnt) hw;rw[if_pos hwant];left
    have hdst:∀x,o.dst=some x->x<a.tmps.size:=by
     intro x hx;rw[hR1.size];rcases eV x nt with h1|h1
     .exact h1
     .exfalso;have:(f_ P db nt all o).k=.fU:=by simp only[f_,hx];rw[if_neg (by simp;omega)]
      rw[this,fD]at hev;simp at hev
    have hk:v8 P db o.op=((f_ P db nt all o).k,(f_ P db nt all o).args):=by
     have:(f_ P db nt all o).k=(v8 P db o.op).1:=by simp only[f_];rw[if_pos];cases hd:o.dst with|none=>rfl|some d=>have:=hdst d hd;rw[hR1.size]at this;simpa using this
     rw[this];rfl
    have hgo:=B4 hok hk hR1.inv hR1.dm (fun j hj _=>hR1.gp j hj) hev;refine hgo _ _ fun val w' hD=>?_;obtain⟨hle,S',φ',h1,h2,h3,h4⟩:=hD;refine ih os _ S' (ow Kn1 s1.next n) φ' _ w' (fun i' j hj=>hi (i'+1) j (by simpa using hj)) (by simpa using hl) h ⟨?_,?_,?_,?_,?_,?_⟩ fun S2 Kn2 φ2 s2 a2 w2 h0 h5 h6=>hQ S2 Kn2 φ2 s2 a2 w2 h0 ((hs1.trans h1).trans h5) h6
    .simp only[gm];exact h4
    .exact jp.It hR1.dm h1 h2 hdst h3
    .rw [ud];exact hR1.size
    .rw [qH];exact hR1.defers
    .intro j hj hk;simp only at hj;rcases hk with hk|hk
     .exact hR1.gp j (by omega) hk
     .omega
    .intro i c v hc hv;exact(hR1.gh i c v hc hv).mono h1 h2
   .have hwant:=pm hR1.dm (by rw[hR1.size];exact hnt) hw;rw[if_neg (by simp[hwant])];refine ih os _ S1 Kn1 φ1 _ w (fun i' j hj=>hi (i'+1) j (by simpa using hj)) (by simpa using hl) h ⟨hR1.inv,?_,?_,?_,hR1.gp,hR1.gh⟩ fun S2 Kn2 φ2 s2 a2 w2 h0 h5 h6=>hQ S2 Kn2 φ2 s2 a2 w2 h0 (hs1.trans h5) h6
    .exact jp.FO hR1.dm
    .rw [ud];exact hR1.size
    .rw [qH];exact hR1.defers
theorem Ad{c:Code}{Q:Exit->Act->World->Prop}(J:Nat->Act->World->Prop)(n:Nat)(h₀:J n a w)
  (round:∀n a w,J n a w->c.wp P (Exit.then (fun a w=>∃m,m<n/\J m a w) Q) a w):(Code.loop c).wp P Q a w:=by
 intro b k cs
 have key:∀n a w,J n a w->∃e a' w',Q e a' w'/\Arrives P (lone (b.at a (.code c::.inLoop c::k)) cs w) b k cs e a' w':=by
  intro n;induction n using Nat.strongRecOn with
  |_ n ih=>intro a w hJ;obtain⟨e,a₁,w₁,hq,harr⟩:=round n a w hJ b (.inLoop c::k) cs;cases e with|normal=>obtain⟨m,hlt,hq⟩:=hq;obtain⟨e₂,a₂,w₂,hq₂,harr₂⟩:=ih m hlt a₁ w₁ hq;exact⟨e₂,a₂,w₂,hq₂,.of_steps (Steps.trans harr (.one step_inLoop)) harr₂⟩|exit id=>exact⟨_,a₁,w₁,hq,.pass (x:=.inLoop c) rfl (fun _ _=>.inl (by simp)) harr⟩|goto l=>exact⟨_,a₁,w₁,hq,.pass (x:=.inLoop c) rfl (fun _ _=>.inl (by simp)) harr⟩|ret=>exact⟨_,a₁,w₁,hq,.pass (x:=.inLoop c) rfl (fun _ _=>.inl (by simp)) harr⟩|panic ch=>exact⟨_,a₁,w₁,hq,.pass (x:=.inLoop c) rfl (fun _ _=>.inl (by simp)) harr⟩|outgrown=>exact⟨_,a₁,w₁,hq,.pass (x:=.inLoop c) rfl (fun _ _=>.inl (by simp)) harr⟩
 obtain⟨e,a',w',hq,harr⟩:=key n a w h₀;exact⟨e,a',w',hq,.of_steps (.one step_loop) harr⟩
def ww(S K:Nat->Prop)(w0 w:World)(gv:List Value)(nt:Nat)(Q:rj->St->Prop)(e:Exit)(a':Act)(w':World):Prop:=∃o s',Q o s'/\e=Nn o/\∃S' Kn' φ',gF S w S' w'/\E6 S' K w0 Kn' φ' gv nt s' a' w'
theorem ww.trans{S':Nat->Prop}{w':World}(h:gF S w S' w'){Q:rj->St->Prop}{e:Exit}{a':Act}{w'':World}(hp:ww S' K w0 w' gv nt Q e a' w''):ww S K w0 w gv nt Q e a' w'':=by obtain⟨o,s',h0,h1,S'',Kn',φ',h2,h3⟩:=hp;exact⟨o,s',h0,h1,S'',Kn',φ',h.trans h2,h3⟩
theorem ww.zA{Q:rj->St->Prop}{o:rj}{a':Act}{w':World}{S' Kn':Nat->Prop}{φ':Nat->gr}(h:wk (Q o) s')(hs:gF S w S' w')(hR:E6 S' K w0 Kn' φ' gv nt s' a' w'):ww S K w0 w gv nt Q (Nn o) a' w':=by obtain⟨s1,h1,h2⟩:=h;obtain⟨S1,Kn1,φ1,h3,h4⟩:=h1 S' K w0 Kn' φ' gv nt a' w' hR;exact⟨o,s1,h2,rfl,S1,Kn1,φ1,hs.trans h3,h4⟩
theorem EQ(hnt:nt<1000000000)(hm:P.follows .mixedOrders=true):∀(code:Code)(s:St)(Q:rj->St->Prop)(S:Nat->Prop)(Kn:Nat->Prop)(φ:Nat->gr)(a:Act)(w:World),
  W P (pg P db nt code) s Q->E6 S K w0 Kn φ gv nt s a w->code.wp P (ww S K w0 w gv nt Q) a w:=by
 intro code;induction code with
 |skip=>intro s Q S Kn φ a w h hR;exact wp_skip (ww.zA h (gF.refl _ _) hR)
 |region id ops draw=>
  intro s Q S Kn φ a w h hR;simp only[pg]at h;cases draw with
  |false=>
   simp only[aR,if_false,W]at h;refine wp_region ?_;refine HY (gv:=gv) (K:=K) (w0:=w0) hnt (List.range ops.size) ops.toList s S Kn φ a w ?_ (by simp) h hR fun S' Kn' φ' s' a' w' h0 h1 h2=>ww.zA (o:=.normal) h0 h1 h2;intro i j hj;obtain⟨hlt,rfl⟩:i<ops.size/\i=j:=by have:=ak.1 hj;obtain⟨h1,h2⟩:=this;simp at h1 h2;exact⟨h1,h2⟩
   simp
  |true=>
   simp only[if_true]at h;unfold vF at h;simp only at h;split at h
   .rename_i hc;simp only[ai]at hc;simp only[W]at h;obtain⟨s1,hsub,calls,e1,h1,tr,hok,hev,hdyn,hq⟩:=h;obtain⟨S1,Kn1,φ1,hs1,hR1⟩:=hsub S K w0 Kn φ gv nt a w hR;refine wp_region_any hm ?_;exact CO hok hnt rfl hc.1.1 hc.1.2 hev hdyn (by simpa using hc.2) hR1 fun S' Kn' φ' a' w' h1 h2=>ww.zA (o:=.normal) hq (hs1.trans h1) h2
   .simp [W]at h
 |seq x y ihx ihy=>intro s Q S Kn φ a w h hR;simp only[pg,W]at h;refine wp_seq ?_;refine wp_mono (ihx s _ S Kn φ a w h hR) fun e a' w' hp=>?_;obtain⟨o,s',h0,rfl,S',Kn',φ',h1,h2⟩:=hp;cases o with|normal=>exact wp_mono (ihy s' Q S' Kn' φ' a' w' h0 h2) fun e a'' w'' hp=>hp.trans h1|exit id=>exact⟨.exit id,s',h0,rfl,S',Kn',φ',h1,h2⟩|ret=>exact⟨.ret,s',h0,rfl,S',Kn',φ',h1,h2⟩
 |cond c x y ihx ihy=>intro s Q S Kn φ a w h hR;simp only[pg,W]at h;obtain⟨s1,hsub,t,ht,h1,h2⟩:=h;obtain⟨S1,Kn1,φ1,hs1,hR1⟩:=hsub S K w0 Kn φ gv nt a w hR;have hv:=(sv hR1.inv.AJ hR1.dm ht).lit.1;refine wp_cond hv ?_;cases t with|true=>exact wp_mono (ihx s1 Q S1 Kn1 φ1 a w (h1 rfl) hR1) fun _ _ _ hp=>hp.trans hs1|false=>exact wp_mono (ihy s1 Q S1 Kn1 φ1 a w (h2 rfl) hR1) fun _ _ _ hp=>hp.trans hs1
 |block id x ih=>
  intro s Q S Kn φ a w h hR;simp only[pg,W]at h;refine wp_block ?_;refine wp_mono (ih s _ S Kn φ a w h hR) fun e a' w' hp=>?_;obtain⟨o,s',h0,rfl,hp⟩:=hp;cases o with
  |normal=>exact⟨.normal,s',h0,rfl,hp⟩
  |ret=>exact⟨.ret,s',h0,rfl,hp⟩
  |exit id'=>
   simp only[Nn,Exit.inBlock];simp only[uP]at h0;by_cases hid:id'=id
   .rw [if_pos hid]at h0|-;exact⟨.normal,s',h0,rfl,hp⟩
   .rw [if_neg hid]at h0|-;exact⟨.exit id',s',h0,rfl,hp⟩
 |loop x ih=>intro s Q S Kn φ a w h hR;simp only[pg,W]at h;obtain⟨I,n,⟨s0,hsub,hI⟩,hstep⟩:=h;obtain⟨S0,Kn0,φ0,hs0,hR0⟩:=hsub S K w0 Kn φ gv nt a w hR;refine Ad (J:=fun n a' w'=>∃s1 S1 Kn1 φ1,gF S w S1 w'/\E6 S1 K w0 Kn1 φ1 gv nt s1 a' w'/\I n s1) n ⟨s0,S0,Kn0,φ0,hs0,hR0,hI⟩ fun n a1 w1 hJ=>?_;obtain⟨s1,S1,Kn1,φ1,h1,h2,h3⟩:=hJ;refine wp_mono (ih s1 _ S1 Kn1 φ1 a1 w1 (hstep n s1 h3) h2) fun e a' w' hp=>?_;obtain⟨o,s2,h0,rfl,S2,Kn2,φ2,h4,h5⟩:=hp;cases o with|normal=>obtain⟨m,hm,s3,h6,h7⟩:=h0;obtain⟨S3,Kn3,φ3,h8,h9⟩:=h6 S2 K w0 Kn2 φ2 gv nt a' w' h5;exact⟨m,hm,s3,S3,Kn3,φ3,(h1.trans h4).trans h8,h9,h7⟩|exit id=>exact⟨.exit id,s2,h0,rfl,S2,Kn2,φ2,h1.trans h4,h5⟩|ret=>exact⟨.ret,s2,h0,rfl,S2,Kn2,φ2,h1.trans h4,h5⟩
 |exit id=>intro s Q S Kn φ a w h hR;exact wp_exit (ww.zA (o:=.exit id) h (gF.refl _ _) hR)
 |ret=>intro s Q S Kn φ a w h hR;exact wp_ret (ww.zA (o:=.ret) h (gF.refl _ _) hR)
 |scope x ih=>intro s Q S Kn φ a w h hR;refine wp_scope_straight (wp_mono (ih s Q S Kn φ a w h hR) fun e a' w' hp=>?_);obtain⟨o,s',h0,rfl,h1⟩:=hp;cases o<;>exact⟨_,s',h0,rfl,h1⟩
 |label l=>intro s Q S Kn φ a w h hR;exact wp_label (ww.zA (o:=.normal) h (gF.refl _ _) hR)
 |_=>intro s Q S Kn φ a w h hR;simp[pg,W]at h
end
def K4(P:Program):ResultVar->Option RV
 |.tmp t=>some (.tmp t)
 |.cell a t=>match fG P t,fA P t with|some g,some n=>some (.cell a g n)|_,_=>none
def zn(P:Program):List ResultVar->Option (List RV)
 |[]=>some []
 |r::rs=>match K4 P r,zn P rs with|some x,some xs=>some (x::xs)|_,_=>none
def yh(P:Program)(db:Aa)(f np:Nat):Option Fn:=
 match P.funcs[f]?with
 |none=>none
 |some g=>
  match g.body with
  |none=>none
  |some code=>
   if(g.name== "runtime.NumGoroutine")=false/\np<=g.ntmps/\g.ntmps<1000000000 then
    match zn P g.results.toList with|some kD=>some ⟨np,g.ntmps,kD,pg P db g.ntmps code⟩|none=>none
   else none
section
variable{P:Program}{S K:Nat->Prop}{w0 w:World}{gv:List Value}{nt:Nat}{a:Act}{call:Call}{db:Aa}{s s':St}
theorem CJ:∀(as:List A){Kn:Nat->Prop}{φ:Nat->gr}{hf:Nat->Option Ob}(vs:List Value)(fp:List Nat)(i n:Nat),Inv S K w0 Kn φ hf w->(∀j,n<=j->¬Kn j)->KI S w as vs fp->fp.Nodup->
  (∀b∈fp,¬S b/\¬K b)->ip w φ hf fp->
  ∃φ',q_ S K w0 w Kn φ hf fp n (enter as i n).2.2.1 (enter as i n).2.1 φ'/\
   (∀t x,cg (enter as i n).1 t=some x->i<=t/\∃v,vs[t-i]?=some v/\fR S w (ow Kn n (enter as i n).2.2.1) φ' x v)/\
   (∀(k:Nat)(c:C)(v:Value),(enter as i n).2.2.2[k]?=some c->(nq as vs)[k]?=some v->RC S w (ow Kn n (enter as i n).2.2.1) φ' c v)/\
   (enter as i n).2.2.2.length=(nq as vs).length/\as.length=vs.length:=by
 intro as;induction as with
 |nil=>intro Kn φ hf vs fp i n hI hfr h hn hSK ha;cases vs with|cons v vs=>exact h.elim|nil=>obtain rfl:fp=[]:=h;exact⟨φ,q_.nil hI _ _,fun t x hx=>by simp[enter,cg]at hx,fun k c v hk=>by simp[enter]at hk,rfl,rfl⟩
 |cons x as ih=>
  intro Kn φ hf vs fp i n hI hfr h hn hSK ha;cases vs with
  |nil=>exact h.elim
  |cons v vs=>
   obtain⟨f1,f2,rfl,h1,h2⟩:=h;have next:∀{e:jp}{i':Nat}{t:Nat}{x:TV}{φ':Nat->gr}{Kn':Nat->Prop},i+1<=t/\(∃v,vs[t-(i+1)]?=some v/\fR S w Kn' φ' x v)->i<=t/\∃v',(v::vs)[t-i]?=some v'/\fR S w Kn' φ' x v':=by intro e i' t x φ' Kn' ⟨q1,v',q2,q3⟩;refine⟨by omega,v',?_,q3⟩;rw[show t-i=(t-(i+1))+1 by omega];simpa using q2
   cases x with
   |d y=>
    obtain⟨h1,rfl⟩:=h1;obtain⟨φ',q1,q2,q3,q4,q5⟩:=ih (Kn:=Kn) (φ:=φ) (hf:=hf) vs f2 (i+1) n hI hfr h2 (by simpa using hn) (by simpa using hSK) (by simpa using ha);refine⟨φ',q1,fun t x hx=>?_,q3,q4,by simp[q5]⟩;simp only[enter,cg]at hx;by_cases e:i=t
    .subst e;simp at hx;subst hx;exact⟨au _,v,by simp,.c (.d h1)⟩
    .have e':(i==t)=false:=by simpa using e
     rw[e',cond_false]at hx;exact next (e:=[]) (i':=0) (q2 t x hx)
   |agg xs=>
    obtain⟨aM,rfl,hlen,h1,rfl⟩:=h1;obtain⟨φ',q1,q2,q3,q4,q5⟩:=ih (Kn:=Kn) (φ:=φ) (hf:=hf) vs f2 (i+1) n hI hfr h2 (by simpa using hn) (by simpa using hSK) (by simpa using ha);refine⟨φ',q1,fun t x hx=>?_,q3,q4,by simp[q5]⟩;simp only[enter,cg]at hx;by_cases e:i=t
    .subst e;simp at hx;subst hx;refine⟨au _,_,by simp;rfl,.agg (by simpa using hlen) fun j x hj=>?_⟩;rw[aI]at hj;obtain⟨d,hd,rfl⟩:=aH.1 hj;exact .d (h1 j d hd)
    .have e':(i==t)=false:=by simpa using e
     rw[e',cond_false]at hx;exact next (e:=[]) (i':=0) (q2 t x hx)
   |mt t0=>
    rw[bZ]at hn;obtain⟨hn1,hn2,hn3⟩:=hn;simp only[ao]at hSK;obtain⟨φ1,hL1,hr1⟩:=uU t0 n v f1 hI (fun j hj _=>hfr j hj) h1 hn1 (fun b hb=>hSK b (.inl hb)) (fun j o hj hown x hx hm=>ha j o hj hown x hx (by simp[hm]))
    obtain⟨φ2,hL2,q2,q3,q4,q5⟩:=ih (Kn:=ow Kn n (ky n t0).2.2) (φ:=φ1) (hf:=bm (ky n t0).2.1 hf) vs f2 (i+1) (ky n t0).2.2 hL1.inv (fun j hj hk=>by
     rcases hk with hk|hk
     .have:=hL1.le;exact hfr j (by omega) hk
     .omega) h2 hn2 (fun b hb=>hSK b (.inr hb)) (hL1.Mc hI (fun j o hj hown x hx hm=>ha j o hj hown x hx (by simp[hm])) fun x hx hx2=>hn3 x hx x hx2 rfl)
    have hcomp:=hL1.pg hL2;have hcm:bm ((enter as (i+1) (ky n t0).2.2).2.1++(ky n t0).2.1) hf=bm ((ky n t0).2.1++(enter as (i+1) (ky n t0).2.2).2.1) hf:=lJ fun p hp q hq e=>by have h1:=hL2.gp p hp;have h2:=hL1.gp q hq;omega
    have hsub:∀j,ow (ow Kn n (ky n t0).2.2) (ky n t0).2.2 (enter as (i+1) (ky n t0).2.2).2.2.1 j->ow Kn n (enter as (i+1) (ky n t0).2.2).2.2.1 j:=fun j=>(qN hL1.le hL2.le j).1;refine⟨φ2,?_,fun t x hx=>?_,fun k c v' hk hv=>?_,by simp[enter,nq,q4],by simp[q5]⟩
    .simp only[enter];have hsw:∀{p:Nat×Option Ob}{a b:fm},p∈a++b->p∈b++a:=fun hp=>ao.2 (ao.1 hp).symm;exact⟨hcomp.le,hcomp.rt,hcm▸hcomp.inv,fun p hp=>hcomp.gp p (hsw hp),fun p hp x hx=>hcomp.cK p (hsw hp) x (hcm.symm▸hx)⟩
    .simp only[enter,cg]at hx|-;by_cases e:i=t
     .subst e;simp at hx;subst hx;exact⟨au _,v,by simp,.c ((hr1.mono (gF.refl _ _) hL2.rt).kn hsub)⟩
     .have e':(i==t)=false:=by simpa using e
      rw[e',cond_false]at hx;obtain⟨p1,v',p2,p3⟩:=q2 t x hx;exact next (e:=[]) (i':=0) ⟨p1,v',p2,p3.mono (gF.refl _ _) ⟨hsub,fun _ _=>rfl⟩⟩
    .simp only[enter]at hk|-;simp only[nq]at hv;cases k with
     |zero=>
      obtain rfl:(ky n t0).1=c:=by simpa using hk
      obtain rfl:v=v':=by simpa using hv
      exact(hr1.mono (gF.refl _ _) hL2.rt).kn hsub
     |succ k=>exact(q3 k c v' (by simpa using hk) (by simpa using hv)).kn hsub
theorem BX{Kn:Nat->Prop}{φ:Nat->gr}{H:bE}(hI:Inv S K w0 Kn φ (az H) w){v:TV}{r:R}{bv:List Nat}{x:Value}(h:re H v=some (r,bv))(hv:fR S w Kn φ v x):
  RR S w r x (bv.flatMap (gV w φ (az H)))/\∀i∈bv,∃o,az H i=some o/\cD o=true:=by
 cases hv with
 |c hv=>
  simp only[re]at h;split at h
  .rename_i t aw rd hp;obtain⟨rfl,rfl⟩:R.c t=r/\aw=bv:=by simpa using h
   exact(qJ hI 300).1 _ _ _ _ _ hp hv
  .simp at h
 |@agg cs aM hlen hv=>
  simp only[re]at h;split at h
  .rename_i ts aw rd hp;obtain⟨rfl,rfl⟩:R.agg ts=r/\aw=bv:=by simpa using h
   obtain⟨h1,⟨fps,h2,h3,h4⟩,h5⟩:=(qJ hI 300).2 _ _ _ _ hp (fun i=>aM.getD i undef) hv;exact⟨⟨aM,fps,rfl,h1.trans hlen,h2,h3,h4⟩,h5⟩
  .simp at h
 |iz hlen hv=>simp[re]at h
theorem Ax{Kn:Nat->Prop}{φ:Nat->gr}{H:bE}(hI:Inv S K w0 Kn φ (az H) w):∀(tvs:List TV)(vs:List Value)(rs:List R)(bv:List Nat),tK H tvs=some (rs,bv)->tvs.length=vs.length->
  (∀(i:Nat)(t:TV)(v:Value),tvs[i]?=some t->vs[i]?=some v->fR S w Kn φ t v)->Da S w rs vs (bv.flatMap (gV w φ (az H)))/\∀i∈bv,∃o,az H i=some o/\cD o=true:=by
 intro tvs;induction tvs with
 |nil=>
  intro vs rs bv h hl hr;obtain⟨rfl,rfl⟩:[]=rs/\[]=bv:=by simpa[tK]using h
  obtain rfl:vs=[]:=bk.1 hl.symm;exact⟨rfl,fun i hi=>by simp at hi⟩
 |cons t tvs ih=>
  intro vs rs bv h hl hr;cases vs with
  |nil=>simp at hl
  |cons v vs=>
   simp only[tK]at h;split at h
   .rename_i r o1 rs1 o2 hp hps;obtain⟨rfl,rfl⟩:r::rs1=rs/\o1++o2=bv:=by simpa using h
    obtain⟨a1,a2⟩:=BX hI hp (hr 0 t v rfl rfl);obtain⟨b1,b2⟩:=ih vs rs1 o2 hps (by simpa using hl) (fun i t v hi hv=>hr (i+1) t v (by simpa using hi) (by simpa using hv));refine⟨⟨_,_,by simp,a1,b1⟩,fun i hi=>?_⟩;rcases ao.1 hi with hi|hi
    .exact a2 i hi
    .exact b2 i hi
   .simp at h
inductive uO(h:bE):List C->List T->List Nat->Prop
 |nil:uO h [] [] []
 |cons {c:C} {cs:List C} {t:T} {ts:List T} {a i b:List Nat} (h1:ez h 300 c=some (t,a,i)) (h2:uO h cs ts b):uO h (c::cs) (t::ts) (a++b)
 |vy {c:C} {cs:List C} {ts:List T} {b:List Nat} (h2:uO h cs ts b):uO h (c::cs) (.vy::ts) b
theorem BY{Kn:Nat->Prop}{φ:Nat->gr}{H:bE}(hI:Inv S K w0 Kn φ (az H) w){cs:List C}{ts:List T}{bv:List Nat}(h:uO H cs ts bv):∀(vs:List Value),cs.length=vs.length->
  (∀(i:Nat)(c:C)(v:Value),cs[i]?=some c->vs[i]?=some v->RG S w Kn φ c v)->MU S w ts vs (bv.flatMap (gV w φ (az H)))/\∀i∈bv,∃o,az H i=some o/\cD o=true:=by
 induction h with
 |nil=>intro vs hl hr;obtain rfl:vs=[]:=bk.1 hl.symm;exact⟨rfl,fun i hi=>by simp at hi⟩
 |@cons c cs t ts a rd b hp _ ih=>
  intro vs hl hr;cases vs with
  |nil=>simp at hl
  |cons v vs=>
   have hrc:RC S w Kn φ c v:=(hr 0 c v rfl rfl).resolve_left fun e=>by subst e;simp[rf,ez]at hp
   obtain⟨a1,a2⟩:=(qJ hI 300).1 _ _ _ _ _ hp hrc;obtain⟨b1,b2⟩:=ih vs (by simpa using hl) (fun i t v hi hv=>hr (i+1) t v (by simpa using hi) (by simpa using hv));refine⟨⟨_,_,by simp,.inr a1,b1⟩,fun i hi=>?_⟩;rcases ao.1 hi with hi|hi
   .exact a2 i hi
   .exact b2 i hi
 |@vy c cs ts b _ ih=>intro vs hl hr;cases vs with|nil=>simp at hl|cons v vs=>obtain⟨b1,b2⟩:=ih vs (by simpa using hl) (fun i t v hi hv=>hr (i+1) t v (by simpa using hi) (by simpa using hv));exact⟨⟨[],_,rfl,.inl ⟨rfl,rfl⟩,b1⟩,b2⟩
def vP(kD:List RV)(s:St)(rs:List R)(outs:List T):Prop:=∃vs a b,er (kD.map (vU s))=some vs/\tK s.heap vs=some (rs,a)/\uO s.heap s.gh outs b/\(a++b).Nodup
def qE(tmps:Array Value):ResultVar->Sem Value
 |.tmp t=>pure (tmps.getD t undef)
 |.cell a t=>do loadVar t (<-asAddr (tmps.getD a undef))
theorem Cm{t:TypeId}{pv val:Value}(h:(Instr.loadAt t pv).run P w=.ok val w):(do loadVar t (<-asAddr pv):Sem Value).run P w=.ok val w:=by
 cases pv with
 |pointer x=>cases x with|some a=>simpa[Instr.loadAt,Instr.sureAddr,asAddr]using h|none=>simp[Instr.loadAt,Instr.sureAddr]at h
 |_=>simp[Instr.loadAt,Instr.sureAddr]at h
theorem Ar{Kn:Nat->Prop}{φ:Nat->gr}(hI:Inv S K w0 Kn φ (az s.heap) w)(hE:jp.ok S w Kn φ s.dm a.tmps){r:ResultVar}{x:RV}{v:TV}(hr:K4 P r=some x)(h:vU s x=some v):
  ∃val,(qE a.tmps r).run P w=.ok val w/\fR S w Kn φ v val:=by
 cases r with
 |tmp t=>
  obtain rfl:RV.tmp t=x:=by simpa[K4]using hr
  exact⟨_,by simp[qE],hE t v h⟩
 |cell t ty=>
  simp only[K4]at hr;split at hr
  .rename_i g n hg hn;obtain rfl:=aa hr;simp only[vU]at h;split at h
   .rename_i p hp;split at h
    .rename_i v' aw hl;obtain rfl:=aa h;cases hE t _ hp with|c hc=>obtain⟨val,h1,h2⟩:=xg hg hn hI hc hl;exact⟨val,Cm h1,h2⟩
    .simp at h
   .simp at h
  .simp at hr
theorem yL{Kn:Nat->Prop}{φ:Nat->gr}(hI:Inv S K w0 Kn φ (az s.heap) w)(hE:jp.ok S w Kn φ s.dm a.tmps):∀(rs:List ResultVar)(xs:List RV)(tvs:List TV),zn P rs=some xs->er (xs.map (vU s))=some tvs->
  ∃vs,(rs.mapM (qE a.tmps)).run P w=.ok vs w/\tvs.length=vs.length/\∀(i:Nat)(t:TV)(v:Value),tvs[i]?=some t->vs[i]?=some v->fR S w Kn φ t v:=by
 intro rs;induction rs with
 |nil=>
  intro xs tvs h1 h2;obtain rfl:[]=xs:=by simpa[zn]using h1
  obtain rfl:[]=tvs:=by simpa[er]using h2
  exact⟨[],by simp,rfl,fun i t v hi=>by simp at hi⟩
 |cons r rs ih=>
  intro xs tvs h1 h2;simp only[zn]at h1;split at h1
  .rename_i x xs1 hx hxs;obtain rfl:=aa h1;simp only[aA]at h2;cases hv:vU s x with
   |none=>rw[hv]at h2;simp[er]at h2
   |some v=>
    rw[hv]at h2;simp only[er]at h2;split at h2
    .rename_i tvs1 htv;obtain rfl:=aa h2;obtain⟨val,q1,q2⟩:=Ar hI hE hx hv;obtain⟨vs,q3,q4,q5⟩:=ih xs1 tvs1 hxs htv;refine⟨val::vs,by simp[List.mapM_cons,q1,q3],by simp[q4],fun i t v' hi hv'=>?_⟩;cases i with
     |zero=>
      obtain rfl:v=t:=by simpa using hi
      obtain rfl:val=v':=by simpa using hv'
      exact q2
     |succ i=>exact q5 i t v' (by simpa using hi) (by simpa using hv')
    .simp at h2
  .simp at h1
theorem BD{g:Func}{tmps:Array Value}{vs:List Value}(h:(g.results.toList.mapM (qE tmps)).run P w=.ok vs w):(results g tmps).run P w=.ok (xk vs) w:=by
 have e:results g tmps=(do let vs<-g.results.mapM (qE tmps);pure (if h:vs.size=1 then vs[0]else .tuple vs)):=rfl;have e2:g.results.mapM (qE tmps)=(do let vs<-g.results.toList.mapM (qE tmps);pure vs.toArray):=by rw[Array.mapM_eq_mapM_toList,bind_pure_comp]
 rw[e,e2];simp only[Sem.run_bind,h,Result.andThen_ok,Sem.run_pure]
 match vs with|[]=>rfl|[v]=>rfl|v::v'::r=>simp[xk]
def Ni(sz:Nat):Option (List (List D))->D
 |none=>.lit (.slice none 0 0)
 |some am=>.sl sz am
mutual
def rn:T->D
 |.d x=>x
 |.vy=>.lit .nilFunc
 |.sl sz am=>.sl sz am
 |.yz sz am=>.sl 1 (am.map fun r=>[Ni sz r])
 |.pt ts=>.pt (LM ts)
def LM:List T->List D
 |[]=>[]
 |t::ts=>rn t::LM ts
end
theorem JL:∀ts:List T,LM ts=ts.map rn:=by intro ts;induction ts with|nil=>rfl|cons t ts ih=>simp[LM,ih]
theorem RT.zJ{S S':Nat->Prop}{w:World}{t:T}{v:Value}{fp:List Nat}(h:RT S w t v fp)(hS:∀b,S b->S' b)(hb:∀b∈fp,S' b):RD S' w (rn t) v:=by
 have eC:gF S w S' w:=⟨hS,fun _ _=>rfl⟩
 induction h with
 |d h=>exact h.mono eC
 |@sl sz am b off len cap aM hsz ho hlen hcap hext hr=>
  subst hlen;refine .sl (fun i j=>aM.getD (off+i*sz+j) undef) (hb b (by simp)) hsz hcap hr.1 (fun i r hi j x hj=>?_) (fun i r hi j x hj=>?_)
  .obtain ⟨v,h1,h2⟩:=hr.2 i r hi j x hj;simp only at h1;rw[ho.cell,h1,bz,h1];rfl
  .obtain ⟨v,h1,h2⟩:=hr.2 i r hi j x hj;simp only at h1;rw[bz,h1];exact h2.mono eC
 |@yz sz am b off cap aM fps hsz ho hcap hext hfl h=>
  have key:=RD.zk (S:=S') (w:=w) (sz:=1) (am:=am.map fun r=>[Ni sz r]) (b:=b) (off:=off) (len:=am.length) (cap:=cap) (hb b (by simp)) Nat.one_pos (by simp) hcap ⟨fun i r hi=>?_,fun i r hi j x hj=>?_⟩
  .exact key
  .rw [aI]at hi;obtain⟨r',_,rfl⟩:=aH.1 hi;rfl
  .rw [aI]at hi;obtain⟨r',hr',rfl⟩:=aH.1 hi;have hl:=(ak.1 hr').1;cases j with
   |succ j=>simp at hj
   |zero=>
    obtain rfl:Ni sz r'=x:=by simpa using hj
    obtain⟨v,h1,h2⟩:=h i r' fps[i] hr' (aD (by omega));refine⟨v,by rw[Nat.mul_one,dw];exact(ho.cell _).trans h1,?_⟩;cases r' with|none=>obtain⟨rfl,_⟩:=h2;exact .lit rfl|some rows'=>obtain⟨b',q1,q2⟩:=h2;exact q2.rd eC (hb b' (aB _ (dq.2 ⟨fps[i],List.getElem_mem _,by rw[q1];simp⟩)))
 |@pt ts b aM fps ho hlen hfl h ih=>
  simp only[rn,JL];have hlt:∀(j:Nat)(x:D),(ts.map rn)[j]?=some x->∃t f,ts[j]?=some t/\fps[j]?=some f/\x=rn t:=by intro j x hj;rw[aI]at hj;obtain⟨t,ht,rfl⟩:=aH.1 hj;have hl:=(ak.1 ht).1;exact⟨t,_,ht,aD (by omega),rfl⟩
  have key:=RD.pt (S:=S') (w:=w) (cells:=ts.map rn) (b:=b) (off:=0) (fun j=>aM.getD j undef) (hb b (by simp)) (fun j x hj=>?_) (fun j x hj=>?_)
  .exact key
  .obtain ⟨t,f,h1,h2,rfl⟩:=hlt j x hj;have hl:=(ak.1 h1).1;rw[bJ,ho.cell,bz,iQ (by omega)];rfl
  .obtain ⟨t,f,h1,h2,rfl⟩:=hlt j x hj;exact ih j t f h1 h2 fun b hbm=>hb b (aB _ (dq.2 ⟨f,aW h2,hbm⟩))
def G8:R->R
 |.c t=>.c (.d (rn t))
 |.agg ts=>.agg (ts.map fun t=>.d (rn t))
def sX:List Bool->List R->List R
 |b::bs,r::rs=>(if b then G8 r else r)::sX bs rs
 |_,rs=>rs
theorem RR.xD{S S':Nat->Prop}{w:World}(hS:∀b,S b->S' b){r:R}{v:Value}{fp:List Nat}(h:RR S w r v fp):RR S' w r v fp:=by
 have eC:gF S w S' w:=⟨hS,fun _ _=>rfl⟩
 cases r with|c t=>exact RT.mono eC h fun _ _=>rfl|agg ts=>obtain⟨aM,fps,h1,h2,h3,h4,h5⟩:=h;exact⟨aM,fps,h1,h2,h3,h4,fun i t f hi hf=>(h5 i t f hi hf).mono eC fun _ _=>rfl⟩
theorem RR.zJ{S S':Nat->Prop}{w:World}(hS:∀b,S b->S' b){r:R}{v:Value}{fp:List Nat}(h:RR S w r v fp)(hb:∀b∈fp,S' b):RR S' w (G8 r) v []:=by
 cases r with
 |c t=>exact .d (RT.zJ h hS hb)
 |agg ts=>
  obtain⟨aM,fps,h1,h2,h3,h4,h5⟩:=h;refine⟨aM,ts.map fun _=>[],h1,by simp[h2],by simp,?_,fun i t f hi hf=>?_⟩
  .clear h5 h3 h2;induction ts with|nil=>rfl|cons t ts ih=>simp
  .simp only[aI,aH]at hi hf;obtain⟨t0,ht0,rfl⟩:=hi;obtain⟨_,_,rfl⟩:=hf;have hl:=(ak.1 ht0).1;have hf:fps[i]?=some _:=aD (by omega);refine .d ((h5 i t0 _ ht0 hf).zJ hS fun b hbm=>hb b ?_);rw[<-h4];exact dq.2 ⟨_,aW hf,hbm⟩
theorem Da.xD{S S':Nat->Prop}{w:World}(hS:∀b,S b->S' b):∀{rs:List R}{vs:List Value}{fp:List Nat},Da S w rs vs fp->Da S' w rs vs fp:=by
 intro rs;induction rs with
 |nil=>intro vs fp h;cases vs<;>exact h
 |cons r rs ih=>intro vs fp h;cases vs with|nil=>exact h|cons v vs=>obtain⟨f1,f2,h1,h2,h3⟩:=h;exact⟨f1,f2,h1,h2.xD hS,ih h3⟩
theorem Da.zJ{S:Nat->Prop}{w:World}:∀(m:List Bool)(rs:List R)(vs:List Value)(fp:List Nat),Da S w rs vs fp->fp.Nodup->
  ∃fpK,fpK.Sublist fp/\∀S':Nat->Prop,(∀b,S b->S' b)->(∀b∈fp,b∉fpK->S' b)->Da S' w (sX m rs) vs fpK:=by
 intro m;induction m with
 |nil=>intro rs vs fp h hn;exact⟨fp,bW _,fun S' hS _=>by cases rs<;>exact h.xD hS⟩
 |cons b m ih=>
  intro rs vs fp h hn;cases rs with
  |nil=>exact⟨fp,bW _,fun S' hS _=>h.xD hS⟩
  |cons r rs=>
   cases vs with
   |nil=>exact h.elim
   |cons v vs=>
    obtain⟨f1,f2,rfl,h2,h3⟩:=h;obtain⟨n1,n2,n3⟩:=bZ.1 hn;obtain⟨fpK,hsub,hk⟩:=ih rs vs f2 h3 n2;cases b with
    |true=>refine⟨fpK,hsub.trans (List.sublist_append_right _ _),fun S' hS hb=>⟨[],fpK,rfl,h2.zJ hS fun b hbm=>hb b (aC _ hbm) fun hb2=>n3 b hbm b (hsub.subset hb2) rfl,hk S' hS fun b hbm hb2=>hb b (aG _ hbm) hb2⟩⟩
    |false=>
     refine⟨f1++fpK,c8.append (bW _) hsub,fun S' hS hb=>⟨f1,fpK,rfl,h2.xD hS,hk S' hS fun b hbm hb2=>hb b (aG _ hbm) fun hb3=>?_⟩⟩;rcases ao.1 hb3 with h|h
     .exact n3 b h b hbm rfl
     .exact hb2 h
theorem Da.lt{S:Nat->Prop}{w:World}:∀{rs:List R}{vs:List Value}{fp:List Nat},Da S w rs vs fp->∀b∈fp,b<w.heap.size:=by
 intro rs;induction rs with
 |nil=>intro vs fp h b hb;cases vs with|nil=>have h':fp=[]:=h;subst h';simp at hb|cons _ _=>exact h.elim
 |cons r rs ih=>
  intro vs fp h b hb;cases vs with
  |nil=>exact h.elim
  |cons v vs=>
   obtain⟨f1,f2,rfl,h2,h3⟩:=h;rcases ao.1 hb with hb|hb
   .cases r with|c t=>exact RT.lt h2 b hb|agg ts=>obtain⟨aM,fps,_,q2,q3,rfl,q5⟩:=h2;obtain⟨fp,hfp,hbf⟩:=dq.1 hb;obtain⟨i,hi,rfl⟩:=List.getElem_of_mem hfp;exact(q5 i _ _ (aD (by omega:i<ts.length)) (aD hi)).lt b hbf
   .exact ih h3 b hb
theorem MU.xD{S S':Nat->Prop}{w:World}(hS:∀b,S b->S' b):∀{ts:List T}{vs:List Value}{fp:List Nat},MU S w ts vs fp->MU S' w ts vs fp:=by
 intro ts;induction ts with
 |nil=>intro vs fp h;cases vs<;>exact h
 |cons r rs ih=>intro vs fp h;cases vs with|nil=>exact h|cons v vs=>obtain⟨f1,f2,h1,h2,h3⟩:=h;exact⟨f1,f2,h1,h2.imp id fun h2=>RT.mono ⟨hS,fun _ _=>rfl⟩ h2 fun _ _=>rfl,ih h3⟩
theorem Left.zJ{S:Nat->Prop}{w w':World}{fp:List Nat}{rs:List R}{outs:List T}{lent:List Value}{v:Value}(m:List Bool)(h:Left S w fp rs outs lent v w'):Left S w fp (sX m rs) outs lent v w':=by
 obtain⟨S',kD,fp1,fp2,h1,h2,h3,h4,h5,h6,h7,h8,h9⟩:=h;obtain⟨n1,n2,n3⟩:=bZ.1 h7;obtain⟨fpK,hsub,hk⟩:=Da.zJ m rs kD fp1 h5 n1
 refine⟨fun b=>S' b\/(b∈fp1/\b∉fpK),kD,fpK,fp2,h1,⟨fun b hb=>.inl (h2.sub b hb),h2.dU⟩,fun b hb=>?_,fun b hb=>?_,hk _ (fun b hb=>.inl hb) (fun b hb hb2=>.inr ⟨hb,hb2⟩),
  MU.xD (fun b hb=>.inl hb) h6,?_,fun b hb=>?_,h9⟩
 .rcases hb with hb|hb
  .exact h3 b hb
  .exact .inr (h8 b (aC _ hb.1)).2
 .rcases hb with hb|hb
  .exact h4 b hb
  .exact Da.lt h5 b hb.1
 .exact (c8.append hsub (bW fp2)).nodup h7
 .rcases ao.1 hb with hb|hb
  .exact ⟨fun h=>h.elim (h8 b (aC _ (hsub.subset hb))).1 fun h=>h.2 hb,(h8 b (aC _ (hsub.subset hb))).2⟩
  .exact ⟨fun h=>h.elim (h8 b (aG _ hb)).1 fun h=>n3 b h.1 b hb rfl,(h8 b (aG _ hb)).2⟩
def KC(kD:List RV)(m:List Bool)(len:Nat)(rs:List R)(outs:List T):rj->St->Prop
 |.exit _,_=>False
 |.normal,s=>wk (fun s=>s.gh.length=len/\∃rs0,vP kD s rs0 outs/\sX m rs0=rs) s
 |.ret,s=>wk (fun s=>s.gh.length=len/\∃rs0,vP kD s rs0 outs/\sX m rs0=rs) s
def ot(as:List A):St:=⟨(enter as 0 0).1,(enter as 0 0).2.1,(enter as 0 0).2.2.1,(enter as 0 0).2.2.2⟩
def R7(P:Program)(F:Fn)(m:List Bool)(as:List A)(rs:List R)(outs:List T):Prop:=as.length=F.np/\W P F.body (ot as) (KC F.kD m (ot as).gh.length rs outs)
def R8(s:St)(Q:St->Prop):Prop:=∀(S K:Nat->Prop)(w0:World)(Kn:Nat->Prop)(φ:Nat->gr)(gv:List Value)(nt:Nat)(a:Act)(w:World),E6 S K w0 Kn φ gv nt s a w->∃s1,Q s1/\E6 S K w0 Kn φ gv nt s1 a w
theorem JQ(hm:P.follows .mixedOrders=true){f np:Nat}{F:Fn}(hF:yh P db f np=some F){as:List A}{rs:List R}{outs:List T}
  {m:List Bool} (h:as.length=F.np/\R8 (ot as) fun s=>W P F.body s (KC F.kD m (ot as).gh.length rs outs)):Ba P f as rs outs:=by
 unfold yh at hF;split at hF
 .simp at hF
 rename_i g hg;split at hF
 .simp at hF
 rename_i code hb;split at hF
 case isFalse=>simp at hF
 rename_i hc;obtain⟨hname,hnp,hnt⟩:=hc;split at hF
 case h_2=>simp at hF
 rename_i kD hrv;obtain rfl:=aa hF;obtain⟨hlen,h⟩:=h;simp only at hlen h;intro S w vs fp hlt hargs hnd hfp hglob;left;refine⟨f,vs.toArray,?_,?_⟩
 .simp [callFunc,run_program,hg,hb];intro e;rw[e]at hname;simp at hname
 refine calls_of_wp hg hb ?_;have hI0:Inv S (fun b=>b<w.heap.size/\b∉fp/\¬S b) w (fun _=>False) (fun _=>default) (az []) w:=by refine⟨hlt,fun b hb h=>h.2.2 hb,⟨fun b hb=>hb.1,fun _ _=>rfl,au _,fun _ _=>rfl,fun b aM ho=>⟨aM,ho,rfl⟩,Io.refl _⟩,fun id o ho=>by simp[az,cg]at ho,fun i j a b ha=>by simp[az,cg]at ha,hglob,fun i sz sl k x hi=>by simp[az,cg]at hi⟩
 obtain⟨φ,hL,q1,q2,q3,q4⟩:=CJ as (S:=S) (K:=fun b=>b<w.heap.size/\b∉fp/\¬S b) (w0:=w) (w:=w) (Kn:=fun _=>False) (φ:=fun _=>default) (hf:=az []) vs fp 0 0 hI0 (fun _ _ h=>h) hargs hnd
  (fun b hb=>⟨hfp b hb,fun h=>h.2.1 hb⟩) (fun j o ho=>by simp[az,cg]at ho)
 unfold ot at h;generalize hen:enter as 0 0=en at h hL q1 q2 q3;obtain⟨e,hp,n,lent⟩:=en;simp only at h hL q1 q2 q3
 have hRel:E6 S (fun b=>b<w.heap.size/\b∉fp/\¬S b) w (ow (fun _=>False) 0 n) φ (nq as vs) g.ntmps ⟨e,hp,n,lent⟩
   {tmps:=vs.toArray++Array.replicate (g.ntmps-vs.toArray.size) undef,defers:=[]} w:=by
  refine⟨?_,fun t x hx=>?_,?_,rfl,fun j hj hk=>?_,fun i c v h1 h2=>.inr (q2 i c v h1 h2)⟩
  .have:az hp=bm hp (az []):=by rw[<-gm,List.append_nil]
   rw[this];exact hL.inv
  .obtain ⟨_,v,hv,hr⟩:=q1 t x hx;have hv':vs[t]?=some v:=by simpa using hv
   have:(vs.toArray++Array.replicate (g.ntmps-vs.toArray.size) undef).getD t undef=v:=by have ht:t<vs.length:=(ak.1 hv').1;rw[bz,Array.getElem?_append_left (by simpa using ht)];simp[hv']
   simp only[this];exact hr
  .simp;omega
  .rcases hk with hk|hk
   .exact hk
   .have:n<=j:=hj;omega
 obtain⟨s1,h,hRel⟩:=h _ _ _ _ _ _ _ _ _ hRel;refine wp_mono (EQ hnt hm code s1 _ S _ φ _ w h hRel) fun ex a' w' hp=>?_;obtain⟨o,s',hl,rfl,S',Kn',φ',hs,hR⟩:=hp
 have main:∀(s':St)(rs:List R)(S' Kn':Nat->Prop)(φ':Nat->gr),gF S w S' w'->E6 S' (fun b=>b<w.heap.size/\b∉fp/\¬S b) w Kn' φ' (nq as vs) g.ntmps s' a' w'->s'.gh.length=lent.length->vP kD s' rs outs->
   a'.defers=[]/\∃v,(results g a'.tmps).run P w'=.ok v w'/\∃v',Ending.returned v=Ending.returned v'/\Left S w fp rs outs (nq as vs) v' w':=by
  intro s' rs S' Kn' φ' hs hR hgl hlv;obtain⟨tvs,oa,ob,htv,hpr,hpc,hnod⟩:=hlv;obtain⟨rv,p1,p2,p3⟩:=yL hR.inv hR.dm _ _ _ hrv htv;obtain⟨r1,r2⟩:=Ax hR.inv tvs rv rs oa hpr p2 p3;obtain⟨t1,t2⟩:=BY hR.inv hpc (nq as vs) (hgl.trans q3) hR.gh
  have hown:∀i∈oa++ob,∃o,az s'.heap i=some o/\cD o=true:=by
   intro i hi;rcases ao.1 hi with hi|hi
   .exact r2 i hi
   .exact t2 i hi
  have hfrm:=hR.inv.mz;refine⟨hR.defers,_,BD p1,_,rfl,S',rv,_,_,rfl,hs,fun b hb=>?_,hR.inv.t6,r1,t1,?_,?_,?_⟩
  .by_cases h1:b<w.heap.size
   .by_cases h2:b∈fp
    .exact .inr (.inl h2)
    .by_cases h3:S b
     .exact .inl h3
     .exact absurd ⟨h1,h2,h3⟩ (hR.inv.sk b hb)
   .exact .inr (.inr (by omega))
  .rw [<-ld];exact z7 hR.inv hnod hown
  .rw [<-ld];intro b hb;obtain⟨i,hi,hb⟩:=List.mem_flatMap.1 hb;obtain⟨oi,hoi,hoo⟩:=hown i hi;obtain⟨k1,k2,k3⟩:=nC hR.inv hoi hoo hb;refine⟨k1,?_⟩;by_cases h1:b<w.heap.size
   .by_cases h2:b∈fp
    .exact .inl h2
    .by_cases h3:S b
     .exact absurd (hs.sub _ h3) k1
     .exact absurd ⟨h1,h2,h3⟩ k2
   .exact .inr (by omega)
  .refine ⟨fun b hb=>hb.1,fun b hb=>?_,hfrm.qQ,hfrm.zJ,hfrm.bv,hfrm.io⟩;by_cases h3:S b
   .exact hs.dU b h3
   .exact hfrm.my b ⟨hb.1,hb.2,h3⟩
 have fin:wk (fun s=>s.gh.length=lent.length/\∃rs0,vP kD s rs0 outs/\sX m rs0=rs) s'->
   a'.defers=[]/\∃v,(results g a'.tmps).run P w'=.ok v w'/\∃v',Ending.returned v=Ending.returned v'/\Left S w fp rs outs (nq as vs) v' w':=by
  rintro⟨s1,hsub,hgl,rs0,hlv,rfl⟩;obtain⟨S1,Kn1,φ1,hs1,hR1⟩:=hsub S' _ w Kn' φ' _ _ a' w' hR;obtain⟨q1,v,q2,v',q3,q4⟩:=main s1 rs0 S1 Kn1 φ1 (hs.trans hs1) hR1 hgl hlv;exact⟨q1,v,q2,v',q3,q4.zJ m⟩
 cases o with|exit id=>exact hl.elim|normal=>exact fin hl|ret=>exact fin hl
theorem LO(hm:P.follows .mixedOrders=true){f np:Nat}{F:Fn}(hF:yh P db f np=some F){as:List A}{rs:List R}{outs:List T}
  {m:List Bool} (h:R7 P F m as rs outs):Ba P f as rs outs:=
 JQ hm hF ⟨h.1,fun _ _ _ _ _ _ _ _ _ hR=>⟨_,h.2,hR⟩⟩
end
section
variable{P:Program}{s s':St}{e:jp}{h:bE}{n:Nat}{gh:List C}
theorem Sub.heap{h':bE}{n':Nat}(hh:∀id,az h' id=az h id\/az h' id=none)(hn:n<=n'):Sub ⟨e,h,n,gh⟩ ⟨e,h',n',gh⟩:=by intro S K w0 Kn φ gv nt a w hR;exact⟨S,Kn,φ,gF.refl S w,hR.inv.lm fun id o ho=>(hh id).elim (fun q=>q▸ho) fun q=>by rw[q]at ho;simp at ho,hR.dm,hR.size,hR.defers,fun j hj=>hR.gp j (Nat.le_trans hn hj),hR.gh⟩
theorem Du{id id2 sz sz2 cY:Nat}{slots:List kx}{am:List (List D)}(ho:az h id=some (.nst sz slots))(hs:slots[cY]?=some (.dO id2 am.length))(h2:az h id2=some (.aM sz2 am)):
  Sub ⟨e,h,n,gh⟩ ⟨e,(id,some (.nst sz (slots.set cY (.bv am))))::(id2,none)::h,n,gh⟩:=by
 intro S K w0 Kn φ gv nt a w hR;have e1:az ((id,some (.nst sz (slots.set cY (.bv am))))::(id2,none)::h)=bm [(id,some (.nst sz (slots.set cY (.bv am)))),(id2,none)] (az h):=gm [(id,some (.nst sz (slots.set cY (.bv am)))),(id2,none)] h;exact⟨S,Kn,φ,gF.refl S w,e1▸hR.inv.Kw ho hs h2,hR.dm,hR.size,hR.defers,hR.gp,hR.gh⟩
theorem KY{t id sz szo off len:Nat}{am rows':List (List D)}(ht:cg e t=some (.c (.eZ sz id off len)))(ho:az h id=some (.aM szo am))(hr:(am.drop off).take len=rows')(hle:off+len<=am.length):
  Sub ⟨e,h,n,gh⟩ ⟨(t,.c (.eZ sz n 0 len))::e,(id,none)::(n,some (.aM sz rows'))::h,n+1,gh⟩:=by
 intro S K w0 Kn φ gv nt a w hR;have hn:¬Kn n:=hR.gp n (au _);have hI:=hR.inv;obtain⟨hk0,h0⟩:=hI.iv _ _ ho;have hne:id≠n:=fun e=>hn (e▸hk0);have hv:=hR.dm t _ ht;generalize hval:a.tmps.getD t undef=val at hv;cases hv with
 |c hv=>
 have hkill:Inv S K w0 Kn φ (bm [(id,none)] (az h)) w:=hI.lm fun i o ho=>by
  rw[bP]at ho;split at ho
  .simp at ho
  .exact ho
 have hfree:∀i o,bm [(id,none)] (az h) i=some o->cD o=true->(φ id).cK∉gV w φ (bm [(id,none)] (az h)) i:=by
  intro i o hi hown hm;have hi':=hi;rw[bP]at hi';split at hi'
  .simp at hi'
  .rename_i hne2;rw[ga rfl (hi.trans hi'.symm)]at hm;exact mW hI hi' ho hown rfl (fun e=>hne2 e.symm) hm (kp id)
 generalize hphi:φ id=l at*;cases h0 with
 |@aM _ _ aM hsz0 hl hS hK hown hext hfit hrr hvis=>
 obtain⟨cap,addr,rfl,hszl,hk,hcap,haddr,hextc,hcl⟩:=hv.jP;rw[hphi]at haddr hextc hszl hcl;obtain rfl:sz=szo:=by rw[<-hl,hszl]
 rw[hl]at haddr hextc;subst hr;have hlen:((am.drop off).take len).length=len:=by simp;omega
 have hcm:len*sz<=cap*sz:=Nat.mul_le_mul_right _ hcap;have hR2:cE S w sz (fun i=>aM[i]?) addr ((am.drop off).take len):=hrr.wh off len fun h=>haddr (by omega)
 have hname:=hkill.name hn ⟨l.cK,addr,sz,l.ext,cap⟩ (.aM sz ((am.drop off).take len)) (fun _ j b hj hb hm=>hfree j b hj hb hm)
  (.aM hsz0 rfl hS hK hown hext (by rw[hlen];simp only;omega) hR2 (by rw[hlen];exact hcap))
 have hren:sH Kn φ (fun j=>Kn j\/j=n) (ext φ n ⟨l.cK,addr,sz,l.ext,cap⟩):=jq _ hn;refine⟨S,fun j=>Kn j\/j=n,ext φ n ⟨l.cK,addr,sz,l.ext,cap⟩,gF.refl S w,⟨?_,?_,hR.size,hR.defers,?_,?_⟩⟩
 .have:az ((id,none)::(n,some (.aM sz ((am.drop off).take len)))::h)=bm [(n,some (.aM sz ((am.drop off).take len)))] (bm [(id,none)] (az h)):=by have e1:az ((id,none)::(n,some (Ob.aM sz ((am.drop off).take len)))::h)=bm ([(id,none)]++[(n,some (.aM sz ((am.drop off).take len)))]) (az h):=gm [(id,none),(n,some (.aM sz ((am.drop off).take len)))] h;rw[e1,<-dV];exact lJ (u:=[(id,none)]) fun p hp q hq=>by obtain rfl:=aq.1 hp;obtain rfl:=aq.1 hq;exact hne
  rw[this];exact hname
 .intro t' x hx;simp only[cg]at hx;by_cases et:t=t'
  .subst et;simp at hx;subst hx;rw[hval];have e:ext φ n ⟨l.cK,addr,sz,l.ext,cap⟩ n=⟨l.cK,addr,sz,l.ext,cap⟩:=by simp[ext]
   have:=RC.eZ (S:=S) (w:=w) (Kn:=fun j=>Kn j\/j=n) (φ:=ext φ n ⟨l.cK,addr,sz,l.ext,cap⟩) (id:=n) (off:=0) (len:=len) (cap:=cap) (addr:=addr)
    (.inr rfl) hcap (by rw[e];simp) (by rw[e];exact hextc) (by rw[e];simp)
   rw[e]at this;rw[hphi];exact .c this
  .have e':(t==t')=false:=by simpa using et
   rw[e',cond_false]at hx;exact(hR.dm t' x hx).mono (gF.refl _ _) hren
 .intro j hj hk;simp only at hj;rcases hk with hk|hk
  .exact hR.gp j (by simp only;omega) hk
  .omega
 .intro i c v hc hv;exact(hR.gh i c v hc hv).mono (gF.refl _ _) hren
theorem wk.sub{Q:St->Prop}(hs:Sub s s')(h:wk Q s'):wk Q s:=let⟨s1,h1,h2⟩:=h;⟨s1,hs.trans h1,h2⟩
theorem wk.mono{Q Q':St->Prop}(h:wk Q s)(hq:∀s,Q s->Q' s):wk Q' s:=let⟨s1,h1,h2⟩:=h;⟨s1,h1,hq _ h2⟩
theorem WO.mono{Q Q':St->Prop}(hq:∀s,Q s->Q' s):∀{ops:List m9}{s:St},WO P ops s Q->WO P ops s Q':=by
 intro ops;induction ops with
 |nil=>intro s h;exact wk.mono h hq
 |cons o r ih=>
  intro s h;obtain⟨s1,h1,h⟩:=h;refine⟨s1,h1,?_⟩;rcases h with⟨hw,call,v,u,aw,n,hok,hev,h⟩|⟨hw,h⟩
  .exact .inl ⟨hw,call,v,u,aw,n,hok,hev,ih h⟩
  .exact .inr ⟨hw,ih h⟩
theorem WO.sub{Q:St->Prop}{ops:List m9}(hs:Sub s s')(h:WO P ops s' Q):WO P ops s Q:=by cases ops with|nil=>exact wk.sub hs h|cons o r=>obtain⟨s1,h1,h⟩:=h;exact⟨s1,hs.trans h1,h⟩
theorem s_.mono{R R':St->Prop}{Q Q':rj->St->Prop}(hr:∀s,R s->R' s)(hq:∀o s,Q o s->Q' o s):∀o s,s_ R Q o s->s_ R' Q' o s:=by intro o s h;cases o with|normal=>exact hr _ h|exit id=>exact hq _ _ h|ret=>exact hq _ _ h
theorem uP.mono{id:Nat}{Q Q':rj->St->Prop}(hq:∀o s,Q o s->Q' o s):∀o s,uP id Q o s->uP id Q' o s:=by
 intro o s h;cases o with
 |normal=>exact hq _ _ h
 |ret=>exact hq _ _ h
 |exit id'=>
  simp only[uP]at h|-;split at h
  .rw [if_pos (by assumption)];exact hq _ _ h
  .rw [if_neg (by assumption)];exact hq _ _ h
theorem W.mono:∀{c:CC}{s:St}{Q Q':rj->St->Prop},(∀o s,Q o s->Q' o s)->W P c s Q->W P c s Q':=by intro c;induction c with|seq a b iha ihb=>intro s Q Q' hq h;exact iha (s_.mono (fun s h=>ihb hq h) hq) h|cond c a b iha ihb=>intro s Q Q' hq h;obtain⟨s1,h0,t,h1,h2,h3⟩:=h;exact⟨s1,h0,t,h1,fun ht=>iha hq (h2 ht),fun ht=>ihb hq (h3 ht)⟩|block id a ih=>intro s Q Q' hq h;exact ih (uP.mono hq) h|loop my a ih=>intro s Q Q' hq h;obtain⟨I,n,h1,h2⟩:=h;exact⟨I,n,h1,fun n s hi=>ih (s_.mono (fun s h=>h) hq) (h2 n s hi)⟩|skip=>intro s Q Q' hq h;exact wk.mono h fun s h=>hq _ _ h|exit id=>intro s Q Q' hq h;exact wk.mono h fun s h=>hq _ _ h|ret=>intro s Q Q' hq h;exact wk.mono h fun s h=>hq _ _ h|region ops my=>intro s Q Q' hq h;exact WO.mono (fun s h=>h.mono fun s h=>hq _ _ h) h|drawn ops dyn my=>intro s Q Q' hq h;obtain⟨s1,h0,calls,e,hh,tr,h1,h2,h3,h4⟩:=h;exact⟨s1,h0,calls,e,hh,tr,h1,h2,h3,h4.mono fun s h=>hq _ _ h⟩|fU=>intro s Q Q' hq h;exact h
theorem W.sub:∀{c:CC}{s s':St}{Q:rj->St->Prop},Sub s s'->W P c s' Q->W P c s Q:=by intro c;induction c with|seq a b iha ihb=>intro s s' Q hs h;exact iha hs h|cond c a b iha ihb=>intro s s' Q hs h;obtain⟨s1,h0,h1⟩:=h;exact⟨s1,hs.trans h0,h1⟩|block id a ih=>intro s s' Q hs h;exact ih hs h|loop my a ih=>intro s s' Q hs h;obtain⟨I,n,h1,h2⟩:=h;exact⟨I,n,wk.sub hs h1,h2⟩|skip=>intro s s' Q hs h;exact wk.sub hs h|exit id=>intro s s' Q hs h;exact wk.sub hs h|ret=>intro s s' Q hs h;exact wk.sub hs h|region ops my=>intro s s' Q hs h;exact WO.sub hs h|drawn ops dyn my=>intro s s' Q hs h;obtain⟨s1,h0,h1⟩:=h;exact⟨s1,hs.trans h0,h1⟩|fU=>intro s s' Q hs h;exact h
section
variable{Q:rj->St->Prop}
theorem Mv{a b:CC}(h:W P a s (s_ (fun s'=>W P b s' Q) Q)):W P (.seq a b) s Q:=h
theorem KN{id:Nat}{a:CC}(h:W P a s (uP id Q)):W P (.block id a) s Q:=h
theorem M2{c:Operand}{a b:CC}{t:Bool}(hc:km s.dm c=some (.c (.d (.lit (.bool t)))))(h1:t=true->W P a s Q)(h2:t=false->W P b s Q):W P (.cond c a b) s Q:=⟨s,Sub.refl s,t,hc,h1,h2⟩
theorem H3{ops:List m9}{my:List Nat}(h:WO P ops s fun s'=>wk (Q .normal) s'):W P (.region ops my) s Q:=h
end
def je{α β:Type}(f:α->Option (α⊕β)):Nat->α->Option β
 |0,_=>none
 |n+1,a=>match f a with|some (.inl a')=>je f n a'|some (.inr b)=>some b|none=>none
theorem vT{α β:Type}{f:α->Option (α⊕β)}:∀{n m:Nat}{a:α}{b:β},n<=m->je f n a=some b->je f m a=some b:=by
 intro n;induction n with
 |zero=>intro m a b _ h;simp[je]at h
 |succ n ih=>
  intro m a b hm h;cases m with
  |zero=>omega
  |succ m=>
   simp only[je]at h|-;split at h
   .exact ih (by omega) h
   .exact h
   .simp at h
open Classical in
def br{α β:Type}(f:α->Option (α⊕β))(a:α):Option β:=if h:∃n b,je f n a=some b then some (fP (cS h))else none
theorem og{α β:Type}{f:α->Option (α⊕β)}{a:α}{b:β}:br f a=some b<->∃n,je f n a=some b:=by
 constructor
 .intro h;unfold br at h;split at h
  .rename_i hx;refine⟨fP hx,?_⟩;rw[cS (cS hx)];exact h
  .simp at h
 .rintro ⟨n,hn⟩;have hx:∃n b,je f n a=some b:=⟨n,b,hn⟩
  unfold br;rw[dif_pos hx];have h2:=cS (cS hx);have h3:=vT (Nat.le_max_left n (fP hx)) hn;have h4:=vT (Nat.le_max_right n (fP hx)) h2;rw[h3]at h4;rw[<-h4]
theorem Ck{α β:Type}(f:α->Option (α⊕β))(a:α):br f a=match f a with
  |some (.inl a')=>br f a'
  |some (.inr b)=>some b
  |none=>none:=by
 apply Option.ext;intro b;rw[og];constructor
 .rintro ⟨n,hn⟩;cases n with
  |zero=>simp[je]at hn
  |succ n=>
   simp only[je]at hn;split at hn
   .exact og.2 ⟨n,hn⟩
   .exact hn
   .simp at hn
 .intro h;split at h
  .rename_i a' ha;obtain⟨n,hn⟩:=og.1 h;exact⟨n+1,by simp only[je,ha];exact hn⟩
  .rename_i b' ha;exact⟨1,by simp only[je,ha];exact h⟩
  .simp at h
theorem cG{α β:Type}{f:α->Option (α⊕β)}{a a':α}(h:f a=some (.inl a')):br f a=br f a':=by rw[Ck,h]
theorem ci{α β:Type}{f:α->Option (α⊕β)}{a:α}{b:β}(h:f a=some (.inr b)):br f a=some b:=by rw[Ck,h]
def pL:Ev.Call:=fun _ _=>none
theorem p_:mu P pL:=fun _ _ _ _ h=>by simp[pL]at h
section
variable{Q:St->Prop}{r:List m9}{d:Nat}{k:K}{args:List Operand}{v:TV}{u:fm}{aw:List Nat}{m g:Nat}{b c:Bool}
def JR:Option TV->Option (FuncId×List C)
 |some (.c (.d (.fn f caps)))=>some (f,caps.map C.d)
 |some (.c (.nW f caps))=>some (f,caps)
 |_=>none
def callee(h:bE)(jL:List Bool):List (Option TV)->Option (FuncId×List A)
 |f::vs=>
  match JR f,er vs with
  |some (f,caps),some vs=>match fZ h (vs++caps.map TV.c) jL with|some (as,_,_)=>some (f,as)|none=>none
  |_,_=>none
 |[]=>none
def tM(h:bE)(nxt:Nat)(ro:Bool)(aw:List Nat)(lent:List (C×List Nat×List Nat)):Option (List R×List T)->E5
 |none=>none
 |some (rs,outs)=>
  if ro then
   if rs.all xM/\lent.isEmpty/\outs.isEmpty then
    some (sK (gT nxt rs).1,(gT nxt rs).2.1,aw,(gT nxt rs).2.2)
   else none
  else
   match dK h aw aw with
   |none=>none
   |some fu=>match eQ nxt lent outs with|none=>none|some (bu,m)=>some (sK (gT m rs).1,(gT m rs).2.1++bu++fu,aw++lent.flatMap (·.2.2),(gT m rs).2.2)
theorem zP(call:Ev.Call)(ro:Bool)(jL:List Bool)(fv:Option TV)(vs:List (Option TV))(h:bE)(nxt:Nat):
  tP call ro jL fv vs h nxt=match JR fv,er vs with
   |some (f,caps),some vs=>match fZ h (vs++caps.map TV.c) jL with|none=>none|some (as,aw,lent)=>if eF h lent/\(lent.flatMap (fun(p:C×List Nat×List Nat)=>p.2.1)).Nodup/\(lent.flatMap (fun(p:C×List Nat×List Nat)=>p.2.1)).all (fun i=>!aw.contains i)then tM h nxt ro aw lent (call f as)else none
   |_,_=>none:=by
 have e1:∀(o:Option (List R×List T))(aw:List Nat)(lent:List (C×List Nat×List Nat)),(match o with
    |none=>none
    |some (rs,outs)=>
     if ro then
      if rs.all xM/\lent.isEmpty/\outs.isEmpty then
       let(vs,u,m):=gT nxt rs
       some (sK vs,u,aw,m)
      else none
     else
      match dK h aw aw with
      |none=>none
      |some fu=>
       match eQ nxt lent outs with
       |none=>none
       |some (bu,m)=>
        let(vs,u,k):=gT m rs
        some (sK vs,u++bu++fu,aw++lent.flatMap (fun(p:C×List Nat×List Nat)=>p.2.2),k))=tM h nxt ro aw lent o:=by
  intro o aw lent;cases o with|none=>rfl|some p=>rfl
 have e2:(match fv with|some (.c (.d (.fn f caps)))=>some (f,caps.map C.d)|some (.c (.nW f caps))=>some (f,caps)|_=>none)=JR fv:=rfl
 show(match(match fv with|some (.c (.d (.fn f caps)))=>some (f,caps.map C.d)|some (.c (.nW f caps))=>some (f,caps)|_=>none),er vs with
   |some (f,caps),some vs=>
    match fZ h (vs++caps.map TV.c) jL with
    |none=>none
    |some (as,aw,lent)=>
     if eF h lent/\(lent.flatMap (fun(p:C×List Nat×List Nat)=>p.2.1)).Nodup/\(lent.flatMap (fun(p:C×List Nat×List Nat)=>p.2.1)).all (fun i=>!aw.contains i)then
      (match call f as with
    |none=>none
    |some (rs,outs)=>
     if ro then
      if rs.all xM/\lent.isEmpty/\outs.isEmpty then
       let(vs,u,m):=gT nxt rs
       some (sK vs,u,aw,m)
      else none
     else
      match dK h aw aw with
      |none=>none
      |some fu=>
       match eQ nxt lent outs with
       |none=>none
       |some (bu,m)=>
        let(vs,u,k):=gT m rs
        some (sK vs,u++bu++fu,aw++lent.flatMap (fun(p:C×List Nat×List Nat)=>p.2.2),k))else none
   |_,_=>none)=_
 simp only[e1,e2]
open Classical in
def only(f:FuncId)(as:List A)(rs:List R)(outs:List T):Ev.Call:=fun f' as'=>if f'=f/\as'=as then some (rs,outs)else none
theorem Fu{f:FuncId}{as:List A}{rs:List R}{outs:List T}(hg:Ba P f as rs outs):mu P (only f as rs outs):=by
 intro f' as' rs' outs' h;unfold only at h;split at h
 .rename_i he;obtain⟨rfl,rfl⟩:=he;obtain⟨rfl,rfl⟩:=ad (aa h);exact hg
 .simp at h
theorem z5{f:FuncId}{as:List A}{rs:List R}{outs:List T}{ro:Bool}{jL:List Bool}{vs:List (Option TV)}{x:TV×fm×List Nat×Nat}
  (h2:callee h jL vs=some (f,as)) (h1:cA (fun _ _=>some (rs,outs)) (.call ro jL) vs h n=some x):cA (only f as rs outs) (.call ro jL) vs h n=some x:=by
 cases vs with
 |nil=>simp[callee]at h2
 |cons fv vs=>
  simp only[callee]at h2;simp only[cA,zP]at h1|-;split at h2
  .rename_i f' caps vs' hf hvs;simp only[hf,hvs]at h1|-;split at h2
   .rename_i as' aw lent hargs;obtain⟨rfl,rfl⟩:=ad (aa h2);rw[hargs]at h1|-;simp only[only,and_self,if_true]at h1|-;exact h1
   .simp at h2
  .simp at h2
theorem FU{fv:Option TV}{ovs:List (Option TV)}{vs:List TV}{f:FuncId}{caps:List C}{as:List A}{aw:List Nat}{lent:List (C×List Nat×List Nat)}{ro:Bool}{jL:List Bool}{rs:List R}{outs:List T}{x:TV×fm×List Nat×Nat}
  (hf:JR fv=some (f,caps)) (hv:er ovs=some vs) (ha:fZ h (vs++caps.map TV.c) jL=some (as,aw,lent)) (hw:eF h lent=true)
  (hn:decide ((lent.flatMap (fun(p:C×List Nat×List Nat)=>p.2.1)).Nodup/\(lent.flatMap (fun(p:C×List Nat×List Nat)=>p.2.1)).all (fun i=>!aw.contains i)=true)=true)
  (hl:tM h n ro aw lent (some (rs,outs))=some x):
  callee h jL (fv::ovs)=some (f,as)/\cA (fun _ _=>some (rs,outs)) (.call ro jL) (fv::ovs) h n=some x:=by
 have hn':=of_decide_eq_true hn;constructor
 .simp only[callee,hf,hv,ha]
 .simp only[cA,zP,hf,hv,ha];rw[if_pos ⟨hw,hn'⟩];exact hl
theorem Rd{aw:List Nat}{lent:List (C×List Nat×List Nat)}{rs:List R}{outs:List T}{fu bu:fm}{m:Nat}(hz:dK h aw aw=some fu)(hb:eQ n lent outs=some (bu,m)):
  tM h n false aw lent (some (rs,outs))=some (sK (gT m rs).1,(gT m rs).2.1++bu++fu,aw++lent.flatMap (·.2.2),(gT m rs).2.2):=by
 simp only[tM,hz,hb,aR,if_false]
theorem L_{sz id len k:Nat}{am:List (List D)}{rd:List Nat}{r:List (C×List Nat×List Nat)}{ts:List T}{w:fm}(hl:am.length=len)(hr:eQ n r ts=some (w,k)):
  eQ n ((.eZ sz id 0 len,[id],rd)::r) (.sl sz am::ts)=some ((id,some (.aM sz am))::w,k):=by
 simp only[eQ,hl,hr,and_self,if_true]
theorem L9{id k:Nat}{bv rd:List Nat}{r:List (C×List Nat×List Nat)}{ts' ts:List T}{w:fm}(hc:bv.contains id=true)(hr:eQ (hO n ts').2.2 r ts=some (w,k)):
  eQ n ((.op id 0,bv,rd)::r) (.pt ts'::ts)=some ((id,some (.box (hO n ts').1))::(hO n ts').2.1++bv.map (fun i=>(i,none))++w,k):=by
 simp only[eQ,hr,hc,if_true]
theorem HI{c:C}{bv rd:List Nat}{k:Nat}{r:List (C×List Nat×List Nat)}{ts:List T}{w:fm}(hr:eQ n r ts=some (w,k)):eQ n ((c,bv,rd)::r) (.vy::ts)=some (bv.map (fun i=>(i,none))++w,k):=by simp[eQ,hr]
theorem Rj{c:C}{vs:List TV}{ms:List Bool}{as:List A}{aw i:List Nat}{lent:List (C×List Nat×List Nat)}{x:D}(hv:dH h 300 c=some (x,i))(hm:ms.headD false=false)(hr:fZ h vs ms.tail=some (as,aw,lent)):
  fZ h (.c c::vs) ms=some (.d x::as,i++aw,lent):=by simp only[fZ,hr,hm,hv,aR,if_false]
theorem N6{cs:List C}{vs:List TV}{ms:List Bool}{as:List A}{aw i:List Nat}{lent:List (C×List Nat×List Nat)}{xs:List D}(hv:dC h cs=some (xs,i))(hm:ms.headD false=false)(hr:fZ h vs ms.tail=some (as,aw,lent)):
  fZ h (.agg cs::vs) ms=some (.agg xs::as,i++aw,lent):=by simp only[fZ,hr,hm,hv,aR,if_false]
theorem Pr{c:C}{vs:List TV}{ms:List Bool}{as:List A}{aw bv rd:List Nat}{lent:List (C×List Nat×List Nat)}{t:T}(hv:ez h 300 c=some (t,bv,rd))(hm:ms.headD false=true)(hr:fZ h vs ms.tail=some (as,aw,lent)):
  fZ h (.c c::vs) ms=some (.mt t::as,aw,(c,bv,rd)::lent):=by simp only[fZ,hr,hm,hv,if_true]
end
abbrev Tr:=List (List Nat×List Nat)
abbrev OS:=jp×bE×Tr
def Kv(e:jp)(d:Option Nat)(h:bE)(tr:Tr)(top:Nat)(r:E5):Option OS:=match r with|some (v,u,aw,m)=>if m<=top then some (put e d v,u++h,tr++[(aw,u.map (·.1))])else none|none=>none
def Bv(call:Ev.Call)(aP i:Nat)(o:m9)(s:OS):Option OS:=match jX s.1 o.guard with|some true=>Kv s.1 o.dst s.2.1 s.2.2 (aP+iD*(i+1)) (cA call o.k (o.args.map (km s.1)) s.2.1 (aP+iD*i))|some false=>some (drop s.1 o.dst,s.2.1,s.2.2++[([],[])])|none=>none
def AR(calls:Nat->Ev.Call)(aP:Nat):List m9->Nat->OS->Option OS
 |[],_,s=>some s
 |o::r,i,s=>(Bv (calls i) aP i o s).bind (AR calls aP r (i+1))
theorem LW{calls:Nat->Ev.Call}{aP:Nat}:∀(l:List m9)(i:Nat)(e:jp)(h:bE)(tr:Tr)(e':jp)(h':bE)(tr':Tr),AR calls aP l i (e,h,tr)=some (e',h',tr')->
  ∃t,mj calls aP l i e h=some (e',h',t)/\tr'=tr++t:=by
 intro l;induction l with
 |nil=>
  intro i e h tr e' h' tr' hh;obtain⟨rfl,rfl,rfl⟩:e=e'/\h=h'/\tr=tr':=by simpa[AR]using hh
  exact⟨[],rfl,by simp⟩
 |cons o r ih=>
  intro i e h tr e' h' tr' hh;unfold AR Bv at hh;unfold mj;cases hw:jX e o.guard with
  |none=>simp[hw]at hh
  |some b=>
   cases b with
   |false=>simp only[hw,ae]at hh;obtain⟨t,h1,h2⟩:=ih _ _ _ _ _ _ _ hh;exact⟨([],[])::t,by simp[h1],by simp[h2]⟩
   |true=>
    simp only[hw]at hh;cases hv:cA (calls i) o.k (o.args.map (km e)) h (aP+iD*i)with
    |none=>simp[hv,Kv]at hh
    |some p=>
     obtain⟨v,u,aw,m⟩:=p;simp only[hv,Kv]at hh;by_cases hm:m<=aP+iD*(i+1)
     .rw [if_pos hm,ae]at hh;obtain⟨t,h1,h2⟩:=ih _ _ _ _ _ _ _ hh;exact⟨(aw,u.map (·.1))::t,by simp[hm,h1],by simp[h2]⟩
     .rw [if_neg hm]at hh;simp at hh
theorem EG{calls calls':Nat->Ev.Call}{aP:Nat}:∀(l:List m9)(i:Nat)(s:OS),(∀j,i<=j->calls j=calls' j)->AR calls aP l i s=AR calls' aP l i s:=by intro l;induction l with|nil=>intro i s _;rfl|cons o r ih=>intro i s hc;simp only[AR,hc i (au _)];congr 1;funext s';exact ih (i+1) s' fun j hj=>hc j (by omega)
def WD(P:Program)(aP:Nat)(ops:List m9)(i:Nat)(e:jp)(h:bE)(tr:Tr)(Q:jp->bE->Tr->Prop):Prop:=∃calls,(∀j,mu P (calls j))/\∃e' h' tr',AR calls aP ops i (e,h,tr)=some (e',h',tr')/\Q e' h' tr'
theorem KM{Q:rj->St->Prop}{ops:List m9}{dyn:List (Nat×Nat)}{my:List Nat}
  (hw:WD P n ops 0 e h [] fun e' h' tr=>zT tr dyn=true/\wk (Q .normal) ⟨e',h',n+iD*ops.length,gh⟩):W P (.drawn ops dyn my) ⟨e,h,n,gh⟩ Q:=by
 obtain⟨calls,hok,e',h',tr',h1,hd,hq⟩:=hw;obtain⟨t,h4,ht⟩:=LW _ _ _ _ _ _ _ _ h1;obtain rfl:tr'=t:=by simpa using ht
 exact⟨_,Sub.refl _,calls,e',h',_,hok,h4,hd,hq⟩
section
variable{aP i:Nat}{ops r:List m9}{tr:Tr}{Q:jp->bE->Tr->Prop}{d:Nat}{k:K}{args:List Operand}{v:TV}{u:fm}{aw:List Nat}{m g:Nat}{b c:Bool}
theorem Py(hq:Q e h tr):WD P aP [] i e h tr Q:=⟨fun _=>pL,fun _=>p_,e,h,tr,rfl,hq⟩
theorem J4{call:Ev.Call}{o:m9}{e1:jp}{h1:bE}{tr1:Tr}(hok:mu P call)(hs:Bv call aP i o (e,h,tr)=some (e1,h1,tr1))(hq:WD P aP r (i+1) e1 h1 tr1 Q):WD P aP (o::r) i e h tr Q:=by
 obtain⟨calls,hc,e',h',tr',h2,h3⟩:=hq;refine⟨fun j=>if j=i then call else calls j,fun j=>?_,e',h',tr',?_,h3⟩
 .show mu P (if j=i then call else calls j);split
  .exact hok
  .exact hc j
 .simp only[AR,if_true,hs,ae];rw[EG (calls':=calls) r (i+1) _ fun j hj=>if_neg (by omega)];exact h2
theorem Oz{e:jp}{dd:Option Nat}{top:Nat}(hm:m<=top):Kv e dd h tr top (some (v,u,aw,m))=some (put e dd v,u++h,tr++[(aw,u.map (·.1))]):=by simp only[Kv];rw[if_pos hm]
theorem La:aP+iD*i<=aP+iD*(i+1):=by simp only[iD];omega
end
section
variable{R:St->Prop}{Q:rj->St->Prop}{id id':Nat}
end
inductive Fg:bE->bE->Prop
 |nil:Fg [] []
 |cons {p:Nat×Option Ob} {a b:bE} (h:Fg a b):Fg (p::a) (p::b)
 |skip {i:Nat} {a b:bE} (h:Fg a b):Fg a ((i,none)::b)
end
end Go.Ev
