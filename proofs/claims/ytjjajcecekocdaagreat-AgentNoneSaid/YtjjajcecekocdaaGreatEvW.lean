/- A region in any order, against the text's order. Conditions: operations whose names meet are ordered by the text; operations whose objects meet are ordered by the text, or the check at the run says that they do not meet. -/
import Derived.Test.YtjjajcecekocdaaGreatEvR
import Derived.Orders
import Derived.Scope
open Array renaming getD->kg,getD_eq_getD_getElem?->bC,getElem?_eq_getElem->lE,getElem?_eq_some_iff->aY,getElem?_toList->aW
open Bool renaming and_eq_true->ah,false_eq_true->aE,or_eq_true->fM
open Classical renaming choose->iJ,choose_spec->eV
open List renaming Sublist->cL,all_eq_true->aV,getD_eq_getElem?_getD->iQ,getElem?_eq_getElem->az,getElem?_eq_some_iff->aj,getElem?_map->aL,length_cons->dJ,length_eq_zero_iff->be,map_cons->ap,mem_append->ak,mem_append_left->aG,mem_append_right->aD,mem_cons->aJ,mem_cons_of_mem->aC,mem_cons_self->dZ,mem_flatten->ez,mem_of_getElem?->bd,mem_singleton->aq,nodup_append->dj
open List.Sublist renaming refl->bI
open Nat renaming add_assoc->cS,add_sub_cancel'->jJ,add_zero->cY,le_refl->am,lt_or_ge->gQ,mul_le_mul_left->lO,zero_add->bk
open Option renaming bind_some->gK,map_eq_some_iff->aM
open Option.some renaming inj->aa,injEq->bS
open Prod.mk renaming inj->ad,injEq->c9
noncomputable section
namespace Go.Ev
def zk:Ev.K->Nat
 |.mv|.pick|.build _ _|.nilCheck|.sy _|.uN _|.rg _ _|.yH _ _|.un _|.vC _|.C3 _|.sY|.GA _|.fieldAddr _ _|.field _ _ _
 |.indexAddr _ _|.pC|.index _ _ _|.extract _|.len _|.rK _|.fG=>0
 |.load _ _|.lookup _ _ _ _ _|.slice _ _ _ _=>1
 |_=>2
set_option maxHeartbeats 2000000 in
theorem IK{call:Call}{k:Ev.K}{vs:List (Option TV)}{H:bh}{nxt n:Nat}{v:TV}{u:eg}{au:List Nat}(hk:zk k<=1)(h:bX call k vs H nxt=some (v,u,au,n)):u=[]:=by
 cases k<;>first
  |(simp[zk]at hk;done)
  |(unfold bX at h
    repeat' split at h
    all_goals first
     |(simp at h;done)
     |(simp only[bS,c9]at h;exact h.2.1.symm)
     |(simp_all;done))
set_option maxHeartbeats 2000000 in
theorem IJ{call:Call}{k:Ev.K}{vs:List (Option TV)}{H:bh}{nxt n:Nat}{v:TV}{u:eg}{au:List Nat}(hk:zk k=0)(h:bX call k vs H nxt=some (v,u,au,n)):au=[]:=by
 cases k<;>first
  |(simp[zk]at hk;done)
  |(unfold bX at h
    repeat' split at h
    all_goals first
     |(simp at h;done)
     |(simp only[bS,c9]at h;exact h.2.2.1.symm)
     |(simp_all;done))
def pH(acc:List Nat):List Edge->Nat
 |[]=>0
 |e::r=>if Region.binds .any e then(pH acc r)|||2^e.on|||acc.getD e.on 0 else pH acc r
def JR:List Oper->List Nat->List Nat
 |[],acc=>acc
 |o::r,acc=>JR r (acc++[pH acc o.after.toList])
def yj(m:List Nat):List Oper->Nat->Bool
 |[],_=>true
 |o::r,i=>m.getD i 0==pH m o.after.toList&&o.after.toList.all (fun e=>!(Region.binds .any e)||decide (e.on<i))&&yj m r (i+1)
def eI(m:List Nat)(i j:Nat):Bool:=(m.getD j 0).testBit i
def Tc:Operand->Option Nat
 |.tmp t=>some t
 |_=>none
def D_(o:l6):List Nat:=o.args.filterMap Tc++(match o.guard with|some (t,_)=>[t]|none=>[])
def GM(d:Option Nat)(l:List Nat):Bool:=match d with|some d=>l.contains d|none=>false
def yO(a b:l6):Bool:=GM a.dst (D_ b)||GM b.dst (D_ a)||GM a.dst b.dst.toList
def u7(m:List Nat)(i:Nat)(a:l6):List l6->Nat->Bool
 |[],_=>true
 |b::r,j=>(eI m i j||!yO a b)&&u7 m i a r (j+1)
def xV(m:List Nat):List l6->Nat->Bool
 |[],_=>true
 |a::r,i=>u7 m i a r (i+1)&&xV m r (i+1)
def DF:Value->Value->Bool
 |.int k a,.int k' b=>decide (k=k')&&decide (a=b)
 |.bool a,.bool b=>decide (a=b)
 |.string a,.string b=>decide (a.toList=b.toList)
 |.float k a,.float k' b=>decide (k=k')&&decide (a=b)
 |.slice none 0 0,.slice none 0 0|.pointer none,.pointer none|.map none,.map none|.nilFunc,.nilFunc|.nilIface,.nilIface=>true
 |_,_=>false
def zT:List Value->List Value->Bool
 |[],[]=>true
 |x::xs,y::ys=>DF x y&&zT xs ys
 |_,_=>false
def zP:Ev.K->Ev.K->Bool
 |.lookup ka ks va z false,.mapEntry ka' ks' va' z'=>decide (ka=ka')&&decide (ks=ks')&&decide (va=va')&&zT z z'
 |_,_=>false
def wu(m:List Nat)(i:Nat)(a:l6):List l6->Nat->List (Nat×Nat)
 |[],_=>[]
 |b::r,j=>if eI m i j||zk b.k==0||zk b.k+zk a.k<=2 then wu m i a r (j+1)else(i,if zP a.k b.k then 1000+j else j)::wu m i a r (j+1)
def sX(m:List Nat):List l6->Nat->List (Nat×Nat)
 |[],_=>[]
 |a::r,i=>(if zk a.k==0 then[]else wu m i a r (i+1))++sX m r (i+1)
def ww(ops:List Oper)(cops:List l6)(md:List Nat):CC:=
 let m:=JR ops []
 if yj m ops 0&&xV m cops 0&&decide (cops.length<=1000)then .drawn cops (sX m cops 0) md else .fG
theorem zC{acc:List Nat}{j:Nat}:∀{es:List Edge},(pH acc es).testBit j=true->∃e∈es,Region.binds .any e=true/\(e.on=j\/(acc.getD e.on 0).testBit j=true):=by
 intro es;induction es with
 |nil=>intro h;simp[pH]at h
 |cons e r ih=>
  intro h;simp only[pH]at h;split at h
  .rename_i hb;simp only[Nat.testBit_or,fM,Nat.testBit_two_pow,decide_eq_true_eq]at h;rcases h with(h|h)|h
   .obtain ⟨e',he,h'⟩:=ih h;exact⟨e',aC _ he,h'⟩
   .exact ⟨e,dZ,hb,.inl h⟩
   .exact ⟨e,dZ,hb,.inr h⟩
  .obtain ⟨e',he,h'⟩:=ih h;exact⟨e',aC _ he,h'⟩
theorem DY{m:List Nat}:∀{l:List Oper}{i:Nat},yj m l i=true->∀(k:Nat)(o:Oper),l[k]?=some o->
  (∀j,eI m j (i+k)=true->∃e∈o.after,Region.binds .any e=true/\(e.on=j\/eI m j e.on=true))/\∀e∈o.after,Region.binds .any e=true->e.on<i+k:=by
 intro l;induction l with
 |nil=>intro i _ k o hk;simp at hk
 |cons o0 r ih=>
  intro i h k o hk;simp only[yj,ah]at h;obtain⟨⟨h1,h2⟩,h3⟩:=h;cases k with
  |zero=>
   obtain rfl:o0=o:=by simpa using hk
   refine⟨fun j hj=>?_,fun e he hb=>?_⟩
   .unfold eI at hj;rw[cY,(by simpa using h1:m.getD i 0=_)]at hj;obtain⟨e,he,h'⟩:=zC hj;exact⟨e,by simpa using he,h'⟩
   .have:=aV.1 h2 e (by simpa using he);simpa[hb]using this
  |succ k=>have:=ih h3 k o (by simpa using hk);rw[show i+1+k=i+(k+1)by omega]at this;exact this
theorem zp{m:List Nat}{i:Nat}{a:l6}:∀{l:List l6}{j:Nat},u7 m i a l j=true->∀(k:Nat)(b:l6),l[k]?=some b->eI m i (j+k)=true\/yO a b=false:=by
 intro l;induction l with
 |nil=>intro j _ k b hk;simp at hk
 |cons b0 r ih=>
  intro j h k b hk;simp only[u7,ah]at h;cases k with
  |zero=>
   obtain rfl:b0=b:=by simpa using hk
   simpa using h.1
  |succ k=>have:=ih h.2 k b (by simpa using hk);rwa[show j+1+k=j+(k+1)by omega]at this
theorem DE{m:List Nat}:∀{l:List l6}{i:Nat},xV m l i=true->∀(k k':Nat)(a b:l6),l[k]?=some a->l[k']?=some b->k<k'->eI m (i+k) (i+k')=true\/yO a b=false:=by
 intro l;induction l with
 |nil=>intro i _ k k' a b hk;simp at hk
 |cons a0 r ih=>
  intro i h k k' a b hk hk' hlt;simp only[xV,ah]at h;cases k' with
  |zero=>omega
  |succ k'=>
   cases k with
   |zero=>
    obtain rfl:a0=a:=by simpa using hk
    have:=zp h.1 k' b (by simpa using hk');rwa[show i+1+k'=i+(k'+1)by omega]at this
   |succ k=>have:=ih h.2 k k' a b (by simpa using hk) (by simpa using hk') (by omega);rwa[show i+1+k=i+(k+1)by omega,show i+1+k'=i+(k'+1)by omega]at this
theorem CX{m:List Nat}{i:Nat}{a:l6}:∀{l:List l6}{j:Nat},∀(k:Nat)(b:l6),l[k]?=some b->eI m i (j+k)=true\/zk b.k=0\/zk b.k+zk a.k<=2\/(i,if zP a.k b.k then 1000+(j+k)else j+k)∈wu m i a l j:=by
 intro l;induction l with
 |nil=>intro j k b hk;simp at hk
 |cons b0 r ih=>
  intro j k b hk;cases k with
  |zero=>
   obtain rfl:b0=b:=by simpa using hk
   simp only[wu];split
   .rename_i h;simp only[fM,beq_iff_eq,decide_eq_true_eq]at h;rcases h with(h|h)|h
    .exact .inl h
    .exact .inr (.inl h)
    .exact .inr (.inr (.inl h))
   .exact .inr (.inr (.inr (dZ ..)))
  |succ k=>
   have:=ih (j:=j+1) k b (by simpa using hk);rw[show j+1+k=j+(k+1)by omega]at this;rcases this with h|h|h|h
   .exact .inl h
   .exact .inr (.inl h)
   .exact .inr (.inr (.inl h))
   .refine .inr (.inr (.inr ?_));simp only[wu];split
    .exact h
    .exact aC _ h
theorem CY{m:List Nat}:∀{l:List l6}{i:Nat},∀(k k':Nat)(a b:l6),l[k]?=some a->l[k']?=some b->k<k'->
  eI m (i+k) (i+k')=true\/zk a.k=0\/zk b.k=0\/zk b.k+zk a.k<=2\/(i+k,if zP a.k b.k then 1000+(i+k')else i+k')∈sX m l i:=by
 intro l;induction l with
 |nil=>intro i k k' a b hk;simp at hk
 |cons a0 r ih=>
  intro i k k' a b hk hk' hlt;cases k' with
  |zero=>omega
  |succ k'=>
   cases k with
   |zero=>
    obtain rfl:a0=a:=by simpa using hk
    have:=CX (m:=m) (i:=i) (a:=a0) (j:=i+1) k' b (by simpa using hk');rw[show i+1+k'=i+(k'+1)by omega]at this;rcases this with h|h|h|h
    .exact .inl h
    .exact .inr (.inr (.inl h))
    .exact .inr (.inr (.inr (.inl h)))
    .by_cases e:zk a0.k=0
     .exact .inr (.inl e)
     .refine .inr (.inr (.inr (.inr ?_)));simp only[sX,beq_iff_eq,e,if_false];exact aG _ h
   |succ k=>
    have:=ih (i:=i+1) k k' a b (by simpa using hk) (by simpa using hk') (by omega);rw[show i+1+k=i+(k+1)by omega,show i+1+k'=i+(k'+1)by omega]at this;rcases this with h|h|h|h|h
    .exact .inl h
    .exact .inr (.inl h)
    .exact .inr (.inr (.inl h))
    .exact .inr (.inr (.inr (.inl h)))
    .exact .inr (.inr (.inr (.inr (by simp only[sX];exact aD _ h))))
theorem F7{a b:Value}(h:DF a b=true):a=b:=by
 unfold DF at h;split at h<;>first|rfl|(simp at h;done)|skip
 .obtain ⟨rfl,rfl⟩:_/\_:=by simpa using h
  rfl
 .obtain rfl:_=_:=by simpa using h
  rfl
 .rename_i x y;have:x.toList=y.toList:=by simpa using h
  rw[ByteArray.toList_eq,ByteArray.toList_eq]at this;obtain⟨⟨x⟩⟩:=x;obtain⟨⟨y⟩⟩:=y;have e:x=y:=by simpa using this
  rw[e]
 .obtain ⟨rfl,rfl⟩:_/\_:=by simpa using h
  rfl
theorem HU:∀{a b:List Value},zT a b=true->a=b:=by
 intro a;induction a with
 |nil=>intro b h;cases b<;>simp_all[zT]
 |cons x a ih=>intro b h;cases b with|nil=>simp[zT]at h|cons y b=>simp only[zT,ah]at h;rw[F7 h.1,ih h.2]
theorem IL:∀{ks:List Kd}{a b:List Value},xw ks a=true->xw ks b=true->∃r,fU ks a b=some r:=by
 intro ks;induction ks with
 |nil=>intro a b h1 h2;cases a<;>cases b<;>simp_all[xw,fU]
 |cons k ks ih=>
  intro a b h1 h2;cases a with
  |nil=>simp[xw]at h1
  |cons x a=>
   cases b with
   |nil=>simp[xw]at h2
   |cons y b=>
    simp only[xw,ah]at h1 h2;obtain⟨r,hr⟩:=ih h1.2 h2.2;have hk:∃q,BB k x y=some q:=by have ha:=h1.1;have hb:=h2.1;cases k<;>cases x<;>cases y<;>simp_all[GI,BB]
    obtain⟨q,hq⟩:=hk;exact⟨q&&r,by simp[fU,hq,hr]⟩
theorem GR{ks:List Kd}{key:List Value}{e:rt}:∀{es:List rt}{i:Nat},
  lS ks key (es++[e]) i=(match lS ks key es i with|some (some j)=>some (some j)|some none=>(match fU ks key e.1 with|some true=>some (some (i+es.length))|some false=>some none|none=>none)|none=>none):=by
 intro es;induction es with
 |nil=>intro i;simp only[List.nil_append,lS,List.length_nil,cY];cases fU ks key e.1 with|none=>rfl|some b=>cases b<;>rfl
 |cons x es ih=>
  intro i;simp only[List.cons_append,lS];cases fU ks key x.1 with
  |none=>rfl
  |some b=>cases b with|true=>rfl|false=>simp only[ih,dJ];rw[show i+1+es.length=i+(es.length+1)by omega]
theorem Jc{ks:List Kd}{key:List Value}:∀{es:List rt}{i j:Nat},lS ks key es i=some (some j)->j<i+es.length:=by
 intro es;induction es with
 |nil=>intro i j h;simp[lS]at h
 |cons x es ih=>
  intro i j h;simp only[lS]at h;split at h
  .obtain rfl:i=j:=by simpa using h
   simp
  .have:=ih h;simp only[dJ];omega
  .simp at h
theorem Cv{ka:Bool}{ks:List Kd}{k:TV}{key:List Value}(h:mB ka ks k=some key):xw ks key=true:=by
 cases k with
 |agg cs=>
  simp only[mB]at h;split at h
  .exact (qZ h).2
  .simp at h
 |c x=>
  simp only[mB]at h;split at h
  .exact (qZ h).2
  .simp at h
 |gB xs=>simp[mB]at h
theorem F1{call1 call2:Call}{k1 k2:Ev.K}{vs1 vs2:List (Option TV)}{H H':bh}{nx1 nx2 n n2 id:Nat}{v v2:TV}{u u2:eg}{ids2:List Nat}(hk:zP k1 k2=true)
  (h1:bX call1 k1 vs1 H nx1=some (v,u,[id],n)) (h2:bX call2 k2 vs2 H' nx2=some (v2,u2,ids2,n2)) (hs:ao H' id=ao H id) (ht:id∈u2.map (·.1)):
  bX call1 k1 vs1 (u2++H) nx1=some (v,u,[id],n):=by
 unfold zP at hk;split at hk
 .rename_i ka ks va z ka' ks' va' z';simp only[ah,decide_eq_true_eq]at hk;obtain⟨⟨⟨rfl,rfl⟩,rfl⟩,hz⟩:=hk;obtain rfl:=HU hz
  match vs1,vs2,h1,h2 with
  |[some (.c m1),some kt1],[some (.c m2),some kt2],h1,h2=>
   change (match ia ka ks va z false m1 kt1 H with|some (v,au)=>some (v,([]:eg),au,nx1)|none=>none)=_ at h1;change (match mU ka ks va z m2 kt2 H' with|some (v,u,au)=>some (v,u,au,nx2)|none=>none)=_ at h2;show(match ia ka ks va z false m1 kt1 (u2++H)with|some (v,au)=>some (v,([]:eg),au,nx1)|none=>none)=_
   have key:ia ka ks va z false m1 kt1 H=some (v,[id])->ia ka ks va z false m1 kt1 (u2++H)=some (v,[id]):=by
    clear h1;intro h1;split at h2
    .rename_i v3 u3 ids3 h3;obtain⟨_,rfl,_,_⟩:v3=v2/\u3=u2/\ids3=ids2/\nx2=n2:=by simpa using h2
     unfold mU at h3;split at h3
     .rename_i id2 key2 hkey2;have hok2:=Cv hkey2;split at h3
      .rename_i ka2 va2 es bN hob;split at h3
       .rename_i hkv;obtain⟨rfl,rfl⟩:=hkv
        -- what is laid anew
        have hu:∃es' clock',u3=[(id2,some (.map ka2 va2 es' clock'))]/\(es'=es\/es'=es++[(key2,cO z,bN)]):=by
         split at h3
         .split at h3
          .obtain ⟨_,rfl,_⟩:=(by simpa using h3:_/\_/\_)
           exact⟨_,_,rfl,.inl rfl⟩
          .simp at h3
         .split at h3
          .obtain ⟨_,rfl,_⟩:=(by simpa using h3:_/\_/\_)
           exact⟨_,_,rfl,.inr rfl⟩
          .simp at h3
         .simp at h3
        obtain⟨es',clock',rfl,hes⟩:=hu;obtain rfl:id=id2:=by simpa using ht
        have hl2:ao ([(id,some (Ob.map ka2 va2 es' clock'))]++H) id=some (.map ka2 va2 es' clock'):=by rw[fz,bD,if_pos rfl]
        rw[hs]at hob;unfold ia at h1|-;split at h1
        .split at h1
         .simp at h1
         .simp at h1
        .rename_i id1 key1 hkey1;have hok1:=Cv hkey1
         have hid:id1=id:=by
          repeat' split at h1
          all_goals first
           |(simp at h1;done)
           |(obtain⟨_,h4⟩:=ad (aa h1);simpa using h4)
         subst hid;simp only[hob,hl2,and_self,if_true]at h1|-;rcases hes with rfl|rfl
         .exact h1
         .rw [GR];split at h1
          .rename_i j hf;have hlt:=Jc hf;rw[bk]at hlt;simp only[hf];have e1:(es++[(key2,cO z,bN)]).getD j default=es.getD j default:=by simp only[iQ];rw[List.getElem?_append_left hlt]
           rw[e1];exact h1
          .rename_i hf;simp only[hf];obtain⟨r,hr⟩:=IL hok1 hok2;simp only[hr];cases r with
           |false=>exact h1
           |true=>
            have e1:(es++[(key2,cO z,bN)]).getD (0+es.length) default=(key2,cO z,bN):=by simp[iQ]
            simp only[e1];exact h1
          .simp at h1
        .simp at h1
       .simp at h3
      .simp at h3
     .simp at h3
    .simp at h2
   split at h1
   .rename_i v1 ids1 hl;obtain⟨rfl,rfl,rfl,rfl⟩:v1=v/\[]=u/\ids1=[id]/\nx1=n:=by simpa using h1
    rw[key hl]
   .simp at h1
 .simp at hk
abbrev EW:=Option (TV×eg×List Nat×Nat)
def Eu:EW->Option TV
 |some (v,_)=>some v
 |none=>some (.gB [])
def qB:EW->eg
 |some (_,u,_)=>u
 |none=>[]
def pG:EW->List Nat
 |some (_,_,r,_)=>r
 |none=>[]
def zI(call:Call)(aK i:Nat)(o:l6)(e:hZ)(h:bh)(f:EW)(e':hZ)(h':bh):Prop:=match f with|some (v,u,au,n)=>jy e o.guard=some true/\bX call o.k (o.args.map (jB e)) h (aK+eL*i)=some (v,u,au,n)/\n<=aK+eL*(i+1)/\e'=put e o.dst v/\h'=u++h|none=>jy e o.guard=some false/\e'=drop e o.dst/\h'=h
theorem CZ{calls:Nat->Call}{aK:Nat}:∀(l:List l6)(i:Nat)(e:hZ)(h:bh)(e':hZ)(h':bh)(tr:List (List Nat×List Nat)),jj calls aK l i e h=some (e',h',tr)->
  ∃(E:Nat->hZ)(Hp:Nat->bh)(ef:Nat->EW),E 0=e/\Hp 0=h/\E l.length=e'/\Hp l.length=h'/\
   ∀(k:Nat)(o:l6),l[k]?=some o->zI (calls (i+k)) aK (i+k) o (E k) (Hp k) (ef k) (E (k+1)) (Hp (k+1))/\tr[k]?=some (pG (ef k),(qB (ef k)).map (·.1)):=by
 intro l;induction l with
 |nil=>
  intro i e h e' h' tr hh;obtain⟨rfl,rfl,rfl⟩:e=e'/\h=h'/\[]=tr:=by simpa[jj]using hh
  exact⟨fun _=>e,fun _=>h,fun _=>none,rfl,rfl,rfl,rfl,fun k o hk=>by simp at hk⟩
 |cons o r ih=>
  intro i e h e' h' tr hh;simp only[jj]at hh
  have fin:∀(f:EW)(e1:hZ)(h1:bh)(tr1:List (List Nat×List Nat)),jj calls aK r (i+1) e1 h1=some (e',h',tr1)->zI (calls i) aK i o e h f e1 h1->tr=(pG f,(qB f).map (·.1))::tr1->
    ∃(E:Nat->hZ)(Hp:Nat->bh)(ef:Nat->EW),E 0=e/\Hp 0=h/\E (o::r).length=e'/\Hp (o::r).length=h'/\
     ∀(k:Nat)(o':l6),(o::r)[k]?=some o'->zI (calls (i+k)) aK (i+k) o' (E k) (Hp k) (ef k) (E (k+1)) (Hp (k+1))/\tr[k]?=some (pG (ef k),(qB (ef k)).map (·.1)):=by
   intro f e1 h1 tr1 hrun hs htr;obtain⟨E,Hp,ef,a1,a2,a3,a4,a5⟩:=ih (i+1) e1 h1 e' h' tr1 hrun;refine⟨fun k=>match k with|0=>e|k+1=>E k,fun k=>match k with|0=>h|k+1=>Hp k,fun k=>match k with|0=>f|k+1=>ef k,rfl,rfl,a3,a4,fun k o' hk=>?_⟩;subst htr;cases k with
   |zero=>
    obtain rfl:o=o':=by simpa using hk
    refine⟨?_,by simp⟩;simp only[cY,a1,a2];exact hs
   |succ k=>have:=a5 k o' (by simpa using hk);rw[show i+1+k=i+(k+1)by omega]at this;exact⟨this.1,by simpa using this.2⟩
  split at hh
  .rename_i hw;split at hh
   .rename_i v u au n hev;split at hh
    .rename_i hn;split at hh
     .rename_i e1 h1 tr1 hrun;obtain⟨rfl,rfl,rfl⟩:e1=e'/\h1=h'/\_=tr:=by simpa using hh
      exact fin (some (v,u,au,n)) _ _ tr1 hrun ⟨hw,hev,hn,rfl,rfl⟩ rfl
     .simp at hh
    .simp at hh
   .simp at hh
  .rename_i hw;split at hh
   .rename_i e1 h1 tr1 hrun;obtain⟨rfl,rfl,rfl⟩:e1=e'/\h1=h'/\_=tr:=by simpa using hh
    exact fin none _ _ tr1 hrun ⟨hw,rfl,rfl⟩ rfl
   .simp at hh
  .simp at hh
section
variable(dst:Nat->Option Nat)(ef:Nat->EW)(D:Nat->Bool)(e0:Nat->Option TV)(h0:Nat->Option Ob)
def oF:Nat->Nat->Option TV
 |0,t=>e0 t
 |k+1,t=>if D k=true/\dst k=some t then Eu (ef k)else oF k t
def jA:Nat->Nat->Option Ob
 |0,i=>h0 i
 |k+1,i=>if D k=true then(match bQ (qB (ef k)) i with|some o=>o|none=>jA k i)else jA k i
end
def uY(ef:Nat->EW)(k id:Nat):Prop:=id∈(qB (ef k)).map (·.1)
theorem tW{α:Type}{u:List (Nat×α)}{id:Nat}(h:id∉u.map (·.1)):bQ u id=none:=by
 induction u with
 |nil=>rfl
 |cons p r ih=>
  obtain⟨i,x⟩:=p;simp only[ap,aJ,not_or]at h;have:(i==id)=false:=by simpa using fun e:i=id=>h.1 e.symm
  simp[bQ,this,ih h.2]
theorem I8{α:Type}{u:List (Nat×α)}{id:Nat}(h:id∈u.map (·.1)):∃x,bQ u id=some x:=by
 induction u with
 |nil=>simp at h
 |cons p r ih=>
  obtain⟨i,x⟩:=p;by_cases e:i=id
  .exact ⟨x,by simp[bQ,e]⟩
  .have e':(i==id)=false:=by simpa using e
   simp only[ap,aJ]at h;rcases h with h|h
   .exact absurd h.symm e
   .simpa [bQ,e']using ih h
section
variable{dst:Nat->Option Nat}{ef:Nat->EW}{D D':Nat->Bool}{E:Nat->hZ}{Hp:Nat->bh}
theorem Be{n i t:Nat}(hstep:∀k,k<n->∀t,bQ (E (k+1)) t=if dst k=some t then Eu (ef k)else bQ (E k) t)(hi:i<=n)
  (h1:∀k,k<i->dst k=some t->D k=true) (h2:∀k,i<=k->k<n->dst k=some t->D k=false):oF dst ef D (bQ (E 0)) n t=bQ (E i) t:=by
 have a:∀k,k<=i->oF dst ef D (bQ (E 0)) k t=bQ (E k) t:=by
  intro k;induction k with
  |zero=>intro _;rfl
  |succ k ih=>
   intro hk;rw[oF,hstep k (by omega)];by_cases hd:dst k=some t
   .rw [if_pos ⟨h1 k (by omega) hd,hd⟩,if_pos hd]
   .rw [if_neg (fun h=>hd h.2),if_neg hd,ih (by omega)]
 have b:∀d,i+d<=n->oF dst ef D (bQ (E 0)) (i+d) t=bQ (E i) t:=by intro d;induction d with|zero=>intro _;exact a i (am _)|succ d ih=>intro hd;rw[<-cS,oF,if_neg,ih (by omega)];rintro⟨hD,hdst⟩;rw[h2 (i+d) (by omega) (by omega) hdst]at hD;simp at hD
 have:=b (n-i) (by omega);rwa[jJ hi]at this
theorem yC{n i id:Nat}(hstep:∀k,k<n->∀id,ao (Hp (k+1)) id=match bQ (qB (ef k)) id with|some o=>o|none=>ao (Hp k) id)(hi:i<=n)
  (h1:∀k,k<i->uY ef k id->D k=true) (h2:∀k,i<=k->k<n->uY ef k id->D k=false):jA ef D (ao (Hp 0)) n id=ao (Hp i) id:=by
 have a:∀k,k<=i->jA ef D (ao (Hp 0)) k id=ao (Hp k) id:=by
  intro k;induction k with
  |zero=>intro _;rfl
  |succ k ih=>
   intro hk;rw[jA,hstep k (by omega),ih (by omega)];by_cases ht:uY ef k id
   .rw [if_pos (h1 k (by omega) ht)]
   .rw [tW ht];simp
 have b:∀d,i+d<=n->jA ef D (ao (Hp 0)) (i+d) id=ao (Hp i) id:=by
  intro d;induction d with
  |zero=>intro _;exact a i (am _)
  |succ d ih=>
   intro hd;rw[<-cS,jA,ih (by omega)];by_cases ht:uY ef (i+d) id
   .rw [if_neg (by simp[h2 (i+d) (by omega) (by omega) ht])]
   .rw [tW ht];simp
 have:=b (n-i) (by omega);rwa[jJ hi]at this
theorem Jg{e0:Nat->Option TV}{n i t:Nat}(hi:i<n)(hD:∀k,k≠i->D' k=D k)(hDi:D' i=true)(hDi0:D i=false)
  (h:dst i=some t->∀k,i<k->k<n->D k=true->dst k≠some t):
  oF dst ef D' e0 n t=if dst i=some t then Eu (ef i)else oF dst ef D e0 n t:=by
 have a:∀k,k<=i->oF dst ef D' e0 k t=oF dst ef D e0 k t:=by intro k;induction k with|zero=>intro _;rfl|succ k ih=>intro hk;rw[oF,oF,hD k (by omega),ih (by omega)]
 have b:∀d,i+1+d<=n->oF dst ef D' e0 (i+1+d) t=if dst i=some t then Eu (ef i)else oF dst ef D e0 (i+1+d) t:=by
  intro d;induction d with
  |zero=>intro _;show oF dst ef D' e0 (i+1) t=if dst i=some t then Eu (ef i)else oF dst ef D e0 (i+1) t;rw[oF,oF,hDi,hDi0,a i (am _)];simp
  |succ d ih=>
   intro hd;rw[<-cS,oF,oF,hD (i+1+d) (by omega),ih (by omega)];by_cases hc:D (i+1+d)=true/\dst (i+1+d)=some t
   .rw [if_pos hc,if_pos hc,if_neg];intro hdi;exact h hdi (i+1+d) (by omega) (by omega) hc.1 hc.2
   .rw [if_neg hc,if_neg hc]
 have:=b (n-(i+1)) (by omega);rwa[jJ (by omega)]at this
theorem GN{h0:Nat->Option Ob}{n i id:Nat}(hi:i<n)(hD:∀k,k≠i->D' k=D k)(hDi:D' i=true)(hDi0:D i=false)
  (h:uY ef i id->∀k,i<k->k<n->D k=true->¬uY ef k id):
  jA ef D' h0 n id=match bQ (qB (ef i)) id with|some o=>o|none=>jA ef D h0 n id:=by
 have a:∀k,k<=i->jA ef D' h0 k id=jA ef D h0 k id:=by intro k;induction k with|zero=>intro _;rfl|succ k ih=>intro hk;rw[jA,jA,hD k (by omega),ih (by omega)]
 have b:∀d,i+1+d<=n->jA ef D' h0 (i+1+d) id=match bQ (qB (ef i)) id with|some o=>o|none=>jA ef D h0 (i+1+d) id:=by
  intro d;induction d with
  |zero=>
   intro _;show jA ef D' h0 (i+1) id=match bQ (qB (ef i)) id with|some o=>o|none=>jA ef D h0 (i+1) id
   rw[jA,jA,hDi,hDi0,a i (am _)];simp
  |succ d ih=>
   intro hd;rw[<-cS,jA,jA,hD (i+1+d) (by omega),ih (by omega)];by_cases ht:uY ef i id
   .by_cases hc:D (i+1+d)=true
    .rw [tW (h ht (i+1+d) (by omega) (by omega) hc)];simp
    .rw [if_neg hc,if_neg hc]
   .rw [tW ht]
 have:=b (n-(i+1)) (by omega);rwa[jJ (by omega)]at this
end
section
variable{P:Program}{S K:Nat->Prop}{w0 w:World}{Kn:Nat->Prop}{φ:Nat->gi}{gv:List Value}{nt:Nat}{a:Act}{call:Call}{calls:Nat->Call}{bq:uX}{s s':St}
 {ops:Array Oper} {l:List l6} {m:List Nat} {aK:Nat} {E:Nat->hZ} {Hp:Nat->bh} {ef:Nat->EW}
def ri(l:List l6)(k:Nat):Option Nat:=(l[k]?).bind (·.dst)
def Ml(calls:Nat->Call)(l:List l6)(aK:Nat)(E:Nat->hZ)(Hp:Nat->bh)(ef:Nat->EW)(i j:Nat):Prop:=∃c v u id n,l[i]?=some c/\ef i=some (v,u,[id],n)/\bX (calls i) c.k (c.args.map (jB (E i))) (qB (ef j)++Hp i) (aK+eL*i)=some (v,u,[id],n)
structure Dm(P:Program)(bq:uX)(nt:Nat)(calls:Nat->Call)(ops:Array Oper)(l:List l6)(m:List Nat)(aK:Nat)(E:Nat->hZ)(Hp:Nat->bh)(ef:Nat->EW):Prop where
 len:l.length=ops.size
 TJ:∀(k:Nat)(o:Oper),ops[k]?=some o->l[k]?=some (gf P bq nt ops o)
 oV:∀(k:Nat)(c:l6),l[k]?=some c->zI (calls k) aK k c (E k) (Hp k) (ef k) (E (k+1)) (Hp (k+1))
 Rv:∀(k:Nat)(o:Oper),ops[k]?=some o->(∀j,eI m j k=true->∃e∈o.after,Region.binds .any e=true/\(e.on=j\/eI m j e.on=true))/\∀e∈o.after,Region.binds .any e=true->e.on<k
 SZ:∀(i j:Nat)(a b:l6),l[i]?=some a->l[j]?=some b->i<j->eI m i j=true\/yO a b=false
 S7:∀(i j:Nat),i<j->j<ops.size->eI m i j=true\/((∀id,uY ef i id->id∉pG (ef j)/\¬uY ef j id)/\((∀id,uY ef j id->id∉pG (ef i))\/Ml calls l aK E Hp ef i j))
theorem zI.cR{i:Nat}{o:l6}{e e':hZ}{h h':bh}{f:EW}(hs:zI call aK i o e h f e' h')(t:Nat):bQ e' t=if o.dst=some t then Eu f else bQ e t:=by cases f with|none=>obtain⟨_,rfl,_⟩:=hs;rw[yE];rfl|some p=>obtain⟨v,u,r,n⟩:=p;obtain⟨_,_,_,rfl,_⟩:=hs;rw[lm];rfl
theorem zI.heap{i:Nat}{o:l6}{e e':hZ}{h h':bh}{f:EW}(hs:zI call aK i o e h f e' h')(id:Nat):ao h' id=match bQ (qB f) id with|some o=>o|none=>ao h id:=by cases f with|none=>obtain⟨_,_,rfl⟩:=hs;rfl|some p=>obtain⟨v,u,r,n⟩:=p;obtain⟨_,_,_,_,rfl⟩:=hs;rw[fz];rfl
theorem KD{e':hZ}{h':bh}{e:hZ}{h:bh}{tr:List (List Nat×List Nat)}(hl:l=ops.toList.map (gf P bq nt ops))(hord:yj m ops.toList 0=true)(hsch:xV m l 0=true)
  (hev:jj calls aK l 0 e h=some (e',h',tr)) (hdyn:yK tr (sX m l 0)=true) (hsmall:l.length<=1000):
  ∃E Hp ef,Dm P bq nt calls ops l m aK E Hp ef/\E 0=e/\Hp 0=h/\E ops.size=e'/\Hp ops.size=h':=by
 obtain⟨E,Hp,ef,h1,h2,h3,h4,h5⟩:=CZ l 0 e h e' h' tr hev;have hlen:l.length=ops.size:=by rw[hl];simp
 refine⟨E,Hp,ef,⟨hlen,?_,?_,?_,?_,?_⟩,h1,h2,hlen▸h3,hlen▸h4⟩
 .intro k o hk;rw[hl,aL,aW,hk];rfl
 .intro k c hk;have:=(h5 k c hk).1;rwa[bk]at this
 .intro k o hk;have:=DY hord k o (by rw[aW];exact hk);rwa[bk]at this
 .intro i j a b ha hb hij;have:=DE hsch i j a b ha hb hij;rwa[bk,bk]at this
 .intro i j hij hj;have hi':i<l.length:=by omega
  have hj':j<l.length:=by omega
  obtain⟨a,ha⟩:∃a,l[i]?=some a:=⟨_,az hi'⟩
  obtain⟨b,hb⟩:∃b,l[j]?=some b:=⟨_,az hj'⟩
  have sa:=h5 i a ha;have sb:=h5 j b hb;have noU:∀(k:Nat)(c:l6),zI (calls (0+k)) aK (0+k) c (E k) (Hp k) (ef k) (E (k+1)) (Hp (k+1))->zk c.k<=1->∀id,¬uY ef k id:=by intro k c hs hc id ht;unfold uY at ht;generalize hf:ef k=f at hs ht;cases f with|none=>simp[qB]at ht|some p=>obtain⟨v,u,r,n⟩:=p;obtain⟨_,hev1,_⟩:=hs;rw[show qB (some (v,u,r,n))=u from rfl,IK hc hev1]at ht;simp at ht
  have noR:∀(k:Nat)(c:l6),zI (calls (0+k)) aK (0+k) c (E k) (Hp k) (ef k) (E (k+1)) (Hp (k+1))->zk c.k=0->∀id,id∉pG (ef k):=by intro k c hs hc id ht;generalize hf:ef k=f at hs ht;cases f with|none=>simp[pG]at ht|some p=>obtain⟨v,u,r,n⟩:=p;obtain⟨_,hev1,_⟩:=hs;rw[show pG (some (v,u,r,n))=r from rfl,IJ hc hev1]at ht;simp at ht
  rcases CY (m:=m) (i:=0) i j a b ha hb hij with h|h|h|h|h
  .rw [bk,bk]at h;exact .inl h
  .exact .inr ⟨fun id ht=>absurd ht (noU i a sa.1 (by omega) id),.inl fun id _=>noR i a sa.1 h id⟩
  .exact .inr ⟨fun id _=>⟨noR j b sb.1 h id,noU j b sb.1 (by omega) id⟩,.inl fun id ht=>absurd ht (noU j b sb.1 (by omega) id)⟩
  .by_cases ea:zk a.k<=1
   .by_cases eb:zk b.k<=1
    .exact .inr ⟨fun id ht=>absurd ht (noU i a sa.1 ea id),.inl fun id ht=>absurd ht (noU j b sb.1 eb id)⟩
    .have:zk a.k=0:=by omega
     exact .inr ⟨fun id ht=>absurd ht (noU i a sa.1 (by omega) id),.inl fun id _=>noR i a sa.1 this id⟩
   .have:zk b.k=0:=by omega
    exact .inr ⟨fun id _=>⟨noR j b sb.1 this id,noU j b sb.1 (by omega) id⟩,.inl fun id ht=>absurd ht (noU j b sb.1 (by omega) id)⟩
  .rw [bk,bk]at h
   have hapart:lT (pG (ef i),(qB (ef i)).map (·.1)) (pG (ef j),(qB (ef j)).map (·.1))=true->
     (∀id,uY ef i id->id∉pG (ef j)/\¬uY ef j id)/\((∀id,uY ef j id->id∉pG (ef i))\/Ml calls l aK E Hp ef i j):=by
    intro this;simp only[lT,ah,aV,Bool.not_eq_true',List.contains_eq_mem,decide_eq_false_iff_not]at this;exact⟨fun id ht=>⟨(this.1 id ht).1,(this.1 id ht).2⟩,.inl fun id ht=>this.2 id ht⟩
   have hd:=aV.1 hdyn _ h;by_cases hso:zP a.k b.k=true
   .rw [if_pos hso]at hd;simp only at hd;rw[if_pos (by omega),show 1000+j-1000=j by omega]at hd;simp only[DA,sa.2,sb.2,fM]at hd;rcases hd with hd|hd
    .exact .inr (hapart hd)
    .right;split at hd
     .rename_i id hab;obtain⟨hR,hU⟩:=ad hab;refine⟨fun id ht=>by unfold uY at ht;rw[hU]at ht;simp at ht,?_⟩;by_cases htj:uY ef j id
      .right
       -- nobody between lays that object anew
       have hsame:∀k,i<=k->k<=j->ao (Hp k) id=ao (Hp i) id:=by
        intro k hk;induction k with
        |zero=>intro _;rw[show i=0 by omega]
        |succ k ih=>
         intro hkj;by_cases e:i=k+1
         .rw [e]
         .have hik:i<=k:=by omega
          rw[<-ih hik (by omega)];obtain⟨c,hc⟩:∃c,l[k]?=some c:=⟨_,az (by omega)⟩
          have sk:=h5 k c hc;rw[sk.1.heap id]
          have hn:id∉(qB (ef k)).map (·.1):=by
           by_cases e2:k=i
           .subst e2;rw[hU];simp
           .have hm:(pG (ef k),(qB (ef k)).map (·.1))∈(tr.take j).drop (i+1):=by refine bd (i:=k-(i+1)) ?_;rw[List.getElem?_drop,show i+1+(k-(i+1))=k by omega,List.getElem?_take,if_pos (by omega)];exact sk.2
            have:=aV.1 hd _ hm;simpa using this
          rw[tW hn]
       have sai:=sa.1;have sbj:=sb.1;generalize hfi:ef i=fi at sai hR hU;generalize hfj:ef j=fj at sbj;cases fi with
       |none=>simp[pG]at hR
       |some p=>obtain⟨v,u,au,n⟩:=p;obtain rfl:au=[id]:=hR;cases fj with|none=>unfold uY at htj;rw[hfj]at htj;simp[qB]at htj|some q=>obtain⟨v2,u2,ids2,n2⟩:=q;unfold uY at htj;rw[hfj]at htj;obtain⟨_,hev1,_⟩:=sai;obtain⟨_,hev2,_⟩:=sbj;rw[bk]at hev1 hev2;exact⟨a,v,u,id,n,ha,hfi,by rw[hfj];exact F1 hso hev1 hev2 (hsame j (by omega) (am _)) htj⟩
      .left;intro id2 ht2;rw[hR];simp only[aq];rintro rfl;exact htj ht2
     .simp at hd
   .rw [if_neg hso]at hd;simp only at hd;rw[if_neg (by omega)]at hd;simp only[sa.2,sb.2]at hd;exact .inr (hapart hd)
def zf(ops:Array Oper)(D:Nat->Bool):Prop:=∀(k:Nat)(o:Oper),ops[k]?=some o->D k=true->∀e∈o.after,Region.binds .any e=true->D e.on=true
theorem Dm.Jv(hp:Dm P bq nt calls ops l m aK E Hp ef){D:Nat->Bool}(hc:zf ops D){i:Nat}:∀(N j:Nat),j<N->j<ops.size->D j=true->eI m i j=true->D i=true:=by
 intro N;induction N with
 |zero=>intro j hj;omega
 |succ N ih=>
  intro j hj hjn hD hb;have ho:ops[j]?=some ops[j]:=lE hjn;obtain⟨h1,h2⟩:=hp.Rv j _ ho;obtain⟨e,he,hbd,h⟩:=h1 i hb;have hDe:=hc j _ ho hD e he hbd;rcases h with h|h
  .rw [<-h];exact hDe
  .have:=h2 e he hbd;exact ih e.on (by omega) (by omega) hDe h
theorem Dm.OH(hp:Dm P bq nt calls ops l m aK E Hp ef){D:Nat->Bool}(hc:zf ops D){i j:Nat}{o:Oper}(hi:ops[i]?=some o)(hall:∀e∈o.after,Region.binds .any e=true->D e.on=true)
  (hb:eI m j i=true):D j=true:=by
 obtain⟨h1,h2⟩:=hp.Rv i _ hi;obtain⟨e,he,hbd,h⟩:=h1 j hb;have hDe:=hall e he hbd;rcases h with h|h
 .rw [<-h];exact hDe
 .have:=h2 e he hbd;have hlt:i<ops.size:=(aY.1 hi).1;exact hp.Jv hc (e.on+1) e.on (by omega) (by omega) hDe h
theorem FD{d:Option Nat}{l:List Nat}{t:Nat}(hd:d=some t)(h:t∈l):GM d l=true:=by subst hd;simpa[GM]using h
theorem Dm.Rq(hp:Dm P bq nt calls ops l m aK E Hp ef){D:Nat->Bool}(hc:zf ops D){i:Nat}{o:Oper}{c:l6}(hi:ops[i]?=some o)(hci:l[i]?=some c)(hD:D i=false)
  (hall:∀e∈o.after,Region.binds .any e=true->D e.on=true):
  (∀t∈D_ c,oF (ri l) ef D (bQ (E 0)) ops.size t=bQ (E i) t)/\(∃G,(∀id∈pG (ef i),jA ef D (ao (Hp 0)) ops.size id=ao G id)/\∀v u au n,ef i=some (v,u,au,n)->bX (calls i) c.k (c.args.map (jB (E i))) G (aK+eL*i)=some (v,u,au,n))/\
  (∀t,c.dst=some t->∀k,i<k->k<ops.size->D k=true->ri l k≠some t)/\(∀id,uY ef i id->∀k,i<k->k<ops.size->D k=true->¬uY ef k id):=by
 have hlt:i<ops.size:=(aY.1 hi).1;have get:∀k,k<ops.size->∃b,l[k]?=some b:=fun k hk=>⟨_,az (by rw[hp.len];exact hk)⟩;have lat:∀k,i<k->k<ops.size->eI m i k=true->D k=false:=by intro k _ hk hb;cases hDk:D k with|false=>rfl|true=>rw[hp.Jv hc (k+1) k (by omega) hk hDk hb]at hD;simp at hD
 refine⟨fun t ht=>?_,?_,fun t ht k hik hk hDk hdk=>?_,fun id ht k hik hk hDk htk=>?_⟩
 .refine Be (fun k hk t=>?_) (Nat.le_of_lt hlt) (fun k hk hd=>?_) (fun k hik hk hd=>?_)
  .obtain ⟨b,hb⟩:=get k hk;have:=(hp.oV k b hb).cR t;rw[this];simp[ri,hb]
  .obtain ⟨b,hb⟩:=get k (by omega);have hbd:b.dst=some t:=by simpa[ri,hb]using hd
   rcases hp.SZ k i b c hb hci hk with h|h
   .exact hp.OH hc hi hall h
   .simp [yO,FD hbd ht]at h
  .rcases gQ i k with h1|h1
   .obtain ⟨b,hb⟩:=get k (by omega);have hbd:b.dst=some t:=by simpa[ri,hb]using hd
    rcases hp.SZ i k c b hci hb h1 with h|h
    .exact lat k h1 hk h
    .simp [yO,FD hbd ht]at h
   .obtain rfl:k=i:=by omega
    exact hD
 .have hev:∀v u au n,ef i=some (v,u,au,n)->bX (calls i) c.k (c.args.map (jB (E i))) (Hp i) (aK+eL*i)=some (v,u,au,n):=by intro v u au n hf;have hs:=hp.oV i c hci;rw[hf]at hs;exact hs.2.1
  by_cases hsoft:∃k,i<k/\k<ops.size/\D k=true/\∃id∈pG (ef i),uY ef k id
  .--the last of those that came ahead
   obtain⟨k,⟨hik,hk,hDk,id0,hid0,ht0⟩,hmax⟩:∃k,(i<k/\k<ops.size/\D k=true/\∃id∈pG (ef i),uY ef k id)/\∀k',k<k'->¬(i<k'/\k'<ops.size/\D k'=true/\∃id∈pG (ef i),uY ef k' id):=by
    have:∀(N:Nat)(k:Nat),ops.size-k<=N->(i<k/\k<ops.size/\D k=true/\∃id∈pG (ef i),uY ef k id)->
      ∃k,(i<k/\k<ops.size/\D k=true/\∃id∈pG (ef i),uY ef k id)/\∀k',k<k'->¬(i<k'/\k'<ops.size/\D k'=true/\∃id∈pG (ef i),uY ef k' id):=by
     intro N;induction N with
     |zero=>intro k h1 h2;omega
     |succ N ihN=>
      intro k h1 h2;by_cases hm:∃k',k<k'/\(i<k'/\k'<ops.size/\D k'=true/\∃id∈pG (ef i),uY ef k' id)
      .obtain ⟨k',h3,h4⟩:=hm;exact ihN k' (by omega) h4
      .exact ⟨k,h2,fun k' h3 h4=>hm ⟨k',h3,h4⟩⟩
    obtain⟨k,h⟩:=hsoft;exact this _ k (am _) h
   rcases hp.S7 i k hik hk with h|⟨_,h|h⟩
   .rw [lat k hik hk h]at hDk;simp at hDk
   .exact absurd hid0 (h id0 ht0)
   .obtain ⟨c',v,u,id,n,hc',hf,hev'⟩:=h;obtain rfl:c=c':=aa (hci.symm.trans hc');have hR:pG (ef i)=[id]:=by rw[hf];rfl
    refine⟨qB (ef k)++Hp i,fun id' hid'=>?_,fun v' u' ids' n' hf'=>?_⟩
    .obtain rfl:id'=id:=by rw[hR]at hid';simpa using hid'
     obtain rfl:id0=id':=by rw[hR]at hid0;simpa using hid0
     obtain⟨x,hx⟩:=I8 ht0
     have hlast:∀n',k<n'->n'<=ops.size->jA ef D (ao (Hp 0)) n' id0=x:=by
      intro n' hkn;induction n' with
      |zero=>omega
      |succ n' ihn=>
       intro hn';simp only[jA];by_cases e:n'=k
       .subst e;rw[hx];simp[hDk]
       .have hno:¬(D n'=true/\uY ef n' id0):=fun hh=>hmax n' (by omega) ⟨by omega,by omega,hh.1,id0,hid',hh.2⟩;have:=ihn (by omega) (by omega);cases hDn:D n' with|false=>simpa[hDn]using this|true=>have hnt:¬uY ef n' id0:=fun h=>hno ⟨hDn,h⟩;rw[tW hnt];simpa[hDn]using this
     rw[hlast ops.size hk (am _),fz];simp only[aZ,hx]
    .rw [hf]at hf';obtain⟨rfl,rfl,rfl,rfl⟩:v=v'/\u=u'/\[id]=ids'/\n=n':=by simpa using hf'
     exact hev'
  .refine ⟨Hp i,fun id hid=>?_,hev⟩;refine yC (fun k hk id=>?_) (Nat.le_of_lt hlt) (fun k hk hd=>?_) (fun k hik hk hd=>?_)
   .obtain ⟨b,hb⟩:=get k hk;exact(hp.oV k b hb).heap id
   .rcases hp.S7 k i hk hlt with h|h
    .exact hp.OH hc hi hall h
    .exact absurd hid (h.1 id hd).1
   .rcases gQ i k with h1|h1
    .cases hDk:D k with|false=>rfl|true=>exact absurd ⟨k,h1,hk,hDk,id,hid,hd⟩ hsoft
    .obtain rfl:k=i:=by omega
     exact hD
 .obtain ⟨b,hb⟩:=get k hk;have hbd:b.dst=some t:=by simpa[ri,hb]using hdk
  rcases hp.SZ i k c b hci hb hik with h|h
  .rw [lat k hik hk h]at hDk;simp at hDk
  .simp [yO,ht,hbd,GM]at h
 .rcases hp.S7 i k hik hk with h|h
  .rw [lat k hik hk h]at hDk;simp at hDk
  .exact absurd htk (h.1 id ht).2
def Hb(D:Nat->Bool):Nat->Nat
 |0=>0
 |k+1=>Hb D k+if D k=true then 0 else 1
theorem Lv{D D':Nat->Bool}{i:Nat}(hD:∀k,k≠i->D' k=D k)(h1:D' i=true)(h0:D i=false):∀n,i<n->Hb D' n+1=Hb D n:=by
 have a:∀k,k<=i->Hb D' k=Hb D k:=by intro k;induction k with|zero=>intro _;rfl|succ k ih=>intro hk;simp only[Hb];rw[ih (by omega),hD k (by omega)]
 intro n;induction n with
 |zero=>intro h;omega
 |succ n ih=>
  intro h;simp only[Hb];by_cases e:i=n
  .subst e;rw[a i (am _),h1,h0];simp
  .have:=ih (by omega);rw[hD n (fun h=>e h.symm)];omega
theorem Ju{D:Nat->Bool}:∀{n:Nat},Hb D n=0->∀k,k<n->D k=true:=by
 intro n;induction n with
 |zero=>intro _ k hk;omega
 |succ n ih=>
  intro h k hk;simp only[Hb]at h;by_cases e:k=n
  .subst e;by_cases hd:D k=true
   .exact hd
   .simp [hd]at h
  .exact ih (by omega) k (by omega)
theorem Lu(n:Nat):Hb (fun _=>false) n=n:=by induction n with|zero=>rfl|succ n ih=>simp[Hb,ih]
theorem BC{e e':hZ}{g:Option (Nat×Bool)}(h:∀t∈(match g with|some (t,_)=>[t]|none=>([]:List Nat)),bQ e' t=bQ e t):jy e' g=jy e g:=by cases g with|none=>rfl|some p=>obtain⟨t,b⟩:=p;simp only[jy,h t (by simp)]
theorem Gg{e e':hZ}:∀{args:List Operand},(∀t∈args.filterMap Tc,bQ e' t=bQ e t)->args.map (jB e')=args.map (jB e):=by intro args h;refine List.map_congr_left fun x hx=>?_;cases x with|tmp t=>exact h t (List.mem_filterMap.2 ⟨.tmp t,hx,rfl⟩)|_=>rfl
theorem Jj(hok:∀i,kD P (calls i))(hnt:nt<1000000000){Q:Exit->Act->World->Prop}(hp:Dm P bq nt calls ops l m aK E Hp ef){S0:Nat->Prop}{ws:World}{gh:List C}
  (hQ:∀S' Kn' φ' a' w',fX S0 ws S' w'->EU S' K w0 Kn' φ' gv nt ⟨E ops.size,Hp ops.size,aK+eL*l.length,gh⟩ a' w'->Q .normal a' w'):
  ∀(fuel:Nat)(listed:Array Bool)(S:Nat->Prop)(Kn:Nat->Prop)(φ:Nat->gi)(a:Act)(w:World)(ec:hZ)(hc:bh),
  listed.size=ops.size->Hb (fun k=>listed.getD k false) ops.size<=fuel->zf ops (fun k=>listed.getD k false)->
  (∀t,bQ ec t=oF (ri l) ef (fun k=>listed.getD k false) (bQ (E 0)) ops.size t)->(∀id,ao hc id=jA ef (fun k=>listed.getD k false) (ao (Hp 0)) ops.size id)->
  Inv S K w0 Kn φ (ao hc) w->hZ.ok S w Kn φ ec a.tmps->a.tmps.size=nt->a.defers=[]->
  (∀j,Kn j->j<aK\/∃i,i<ops.size/\listed.getD i false=true/\aK+eL*i<=j/\j<aK+eL*(i+1))->
  (∀(i:Nat)(c:C)(v:Value),gh[i]?=some c->gv[i]?=some v->RG S w Kn φ c v)->fX S0 ws S w->wpAny P .any ops Q fuel listed a w:=by
 intro fuel;induction fuel with
 |zero=>
  intro listed S Kn φ a w ec hc hsz hcnt hcl henv hheap hI hE hts hdf hKn hgh hstp;have hall:=Ju (Nat.le_zero.1 hcnt);refine⟨?_,?_⟩
  .rw [List.eq_nil_iff_forall_not_mem];intro i hi;obtain⟨h0,o,ho,_⟩:=mem_ready.1 hi;have hlt:i<ops.size:=(aY.1 ho).1;have h2:=hall i hlt;have hlt2:i<listed.size:=by omega
   simp[kg,hlt2]at h0 h2;rw[h0]at h2;simp at h2
  .refine hQ S Kn φ a w hstp ⟨?_,?_,hts,hdf,?_,hgh⟩
   .have:ao hc=ao (Hp ops.size):=by funext id;rw[hheap];refine yC (fun k hk id=>?_) (am _) (fun k hk _=>hall k hk) (fun k h1 h2 _=>by omega);exact(hp.oV k _ (az (by rw[hp.len];exact hk))).heap id
    rw[<-this];exact hI
   .intro t x hx;refine hE t x ?_;rw[henv,<-hx];refine Be (fun k hk t=>?_) (am _) (fun k hk _=>hall k hk) (fun k h1 h2 _=>by omega);have hb:l[k]?=some _:=az (by rw[hp.len];exact hk);have:=(hp.oV k _ hb).cR t;rw[this];simp only[ri,hb,gK]
   .intro j hj hk;have hj':aK+eL*l.length<=j:=hj;rw[hp.len]at hj';rcases hKn j hk with h|⟨i,hi,_,h1,h2⟩
    .omega
    .have:eL*(i+1)<=eL*ops.size:=lO _ (by omega);omega
 |succ fuel ih=>
  intro listed S Kn φ a w ec hc hsz hcnt hcl henv hheap hI hE hts hdf hKn hgh hstp
  have fin:(∀k,k<ops.size->listed.getD k false=true)->Q .normal a w:=by
   intro hall;refine hQ S Kn φ a w hstp ⟨?_,?_,hts,hdf,?_,hgh⟩
   .have:ao hc=ao (Hp ops.size):=by funext id;rw[hheap];refine yC (fun k hk id=>?_) (am _) (fun k hk _=>hall k hk) (fun k h1 h2 _=>by omega);exact(hp.oV k _ (az (by rw[hp.len];exact hk))).heap id
    rw[<-this];exact hI
   .intro t x hx;refine hE t x ?_;rw[henv,<-hx];refine Be (fun k hk t=>?_) (am _) (fun k hk _=>hall k hk) (fun k h1 h2 _=>by omega);have hb:l[k]?=some _:=az (by rw[hp.len];exact hk);have:=(hp.oV k _ hb).cR t;rw[this];simp only[ri,hb,gK]
   .intro j hj hk;have hj':aK+eL*l.length<=j:=hj;rw[hp.len]at hj';rcases hKn j hk with h|⟨i,hi,_,h1,h2⟩
    .omega
    .have:eL*(i+1)<=eL*ops.size:=lO _ (by omega);omega
  refine⟨fun hnil=>fin ?_,fun i hi=>?_⟩
  .--nothing is ready:all is done
   intro k;induction k using Nat.strongRecOn with
   |_ k ihk=>
    intro hk;cases hd:listed.getD k false with
    |true=>rfl
    |false=>
     exfalso;have ho:ops[k]?=some ops[k]:=lE hk
     have:k∈Region.ready .any ops listed:=by
      rw[mem_ready];refine⟨?_,_,ho,fun e he hbk=>?_⟩
      .have hlt2:k<listed.size:=by omega
       simp[kg,hlt2]at hd|-;exact hd
      .have:=(hp.Rv k _ ho).2 e he hbk;exact ihk e.on this (by omega)
     rw[hnil]at this;simp at this
  .obtain ⟨h0,o,ho,hall⟩:=mem_ready.1 hi;have hlt:i<ops.size:=(aY.1 ho).1;have hlt2:i<listed.size:=by omega
   have hD:listed.getD i false=false:=by simp[kg,hlt2]at h0|-;exact h0
   have hci:=hp.TJ i o ho;have hstep:=hp.oV i _ hci;obtain⟨s1,s2,s3,s4⟩:=hp.Rq (D:=fun k=>listed.getD k false) hcl ho hci hD hall;have hD':∀k,k≠i->(listed.setIfInBounds i true).getD k false=listed.getD k false:=fun k hk=>getD_set_ne false (fun e=>hk e.symm);have hDi:(listed.setIfInBounds i true).getD i false=true:=by simp[hlt2]
   have hcnt':Hb (fun k=>(listed.setIfInBounds i true).getD k false) ops.size<=fuel:=by have:=Lv (D:=fun k=>listed.getD k false) (D':=fun k=>(listed.setIfInBounds i true).getD k false) hD' hDi hD ops.size hlt;omega
   have hcl':zf ops (fun k=>(listed.setIfInBounds i true).getD k false):=by
    intro k o' ho' hk e he hb;by_cases e1:k=i
    .subst e1;obtain rfl:o=o':=by have:=ho.symm.trans ho';exact aa this
     exact getD_set_true (hall e he hb)
    .have hk':listed.getD k false=true:=by rw[<-hD' k e1];exact hk
     exact getD_set_true (hcl k o' ho' hk' e he hb)
   have hdstD:ri l i=o.dst:=by simp[ri,hci,gf]
   have henv':∀t,oF (ri l) ef (fun k=>(listed.setIfInBounds i true).getD k false) (bQ (E 0)) ops.size t=if o.dst=some t then Eu (ef i)else bQ ec t:=by intro t;rw[Jg (D:=fun k=>listed.getD k false) hlt hD' hDi hD (fun hd=>s3 t (by rw[hdstD]at hd;exact hd)),hdstD,henv t]
   have hheap':∀id,jA ef (fun k=>(listed.setIfInBounds i true).getD k false) (ao (Hp 0)) ops.size id=match bQ (qB (ef i)) id with|some o=>o|none=>ao hc id:=by
    intro id;rw[GN (D:=fun k=>listed.getD k false) hlt hD' hDi hD (fun ht=>s4 id ht),hheap id]
    all_goals(cases bQ (qB (ef i)) id<;>rfl)
   have hwe:jy ec (gf P bq nt ops o).guard=jy (E i) (gf P bq nt ops o).guard:=by refine BC fun t ht=>?_;rw[henv t];exact s1 t (aD _ ht)
   have hae:(gf P bq nt ops o).args.map (jB ec)=(gf P bq nt ops o).args.map (jB (E i)):=by refine Gg fun t ht=>?_;rw[henv t];exact s1 t (aG _ ht)
   simp only[wpOp,ho];generalize hfe:ef i=f at hstep henv' hheap' s2;cases f with
   |none=>
    obtain⟨hw,_,_⟩:=hstep;rw[<-hwe]at hw;have hwant:=pT hE (by rw[hts];exact hnt) hw;rw[if_neg (by simp[hwant])];refine ih _ S Kn φ _ w (drop ec o.dst) hc (by simp[hsz]) hcnt' hcl' ?_ ?_ hI (hZ.FH hE) (by rw[vf];exact hts) (by rw[rH];exact hdf) ?_ hgh hstp
    .intro t;rw[henv' t,yE];rfl
    .intro id;rw[hheap' id];rfl
    .intro j hj;rcases hKn j hj with h|⟨k,hk,h1,h2⟩
     .exact .inl h
     .exact .inr ⟨k,hk,getD_set_true h1,h2⟩
   |some p=>
    obtain⟨v,u,au,n⟩:=p;obtain⟨hw,hev,hn,_,_⟩:=hstep;rw[<-hwe]at hw;obtain⟨G,g1,g2⟩:=s2;have hev3:=g2 v u au n rfl;rw[<-hae]at hev3;have hev2:=G0 (H':=hc) hev3 (fun id hid=>by rw[hheap id];exact g1 id hid);have hwant:=pT hE (by rw[hts];exact hnt) hw;rw[if_pos hwant];left
    have hdst:∀x,o.dst=some x->x<a.tmps.size:=by
     intro x hx;rw[hts];rcases gQ x nt with h1|h1
     .exact h1
     .exfalso;have:(gf P bq nt ops o).k=.fG:=by simp only[gf,hx];rw[if_neg (by simp;omega)]
      rw[this,eZ]at hev2;simp at hev2
    have hk:wU P bq o.op=((gf P bq nt ops o).k,(gf P bq nt ops o).args):=by
     have:(gf P bq nt ops o).k=(wU P bq o.op).1:=by simp only[gf];rw[if_pos];cases hd:o.dst with|none=>rfl|some d=>have:=hdst d hd;rw[hts]at this;simpa using this
     rw[this];rfl
    have hfr:∀j,aK+eL*i<=j->j<n->¬Kn j:=by
     intro j h1 h2 hk;rcases hKn j hk with h|⟨k,hkn,h3,h4,h5⟩
     .omega
     .have hne:k≠i:=by rintro rfl;rw[h3]at hD;simp at hD
      rcases gQ k i with h6|h6
      .have:eL*(k+1)<=eL*i:=lO _ (by omega);omega
      .have:eL*(i+1)<=eL*k:=lO _ (by omega);omega
    have hgo:=Ca (hok i) hk hI hE hfr hev2;refine hgo _ _ fun val w' hDn=>?_;obtain⟨hle,S',φ',h1,h2,h3,h4⟩:=hDn;refine ih _ S' (nz Kn (aK+eL*i) n) φ' _ w' (put ec o.dst v) (u++hc) (by simp[hsz]) hcnt' hcl' ?_ ?_ ?_ (hZ.H3 hE h1 h2 hdst h3) (by rw[vf];exact hts) (by rw[rH];exact hdf) ?_ ?_ (hstp.trans h1)
    .intro t;rw[henv' t,lm];rfl
    .intro id;rw[hheap' id,fz];rfl
    .rw [fz];exact h4
    .intro j hj;rcases hj with hj|hj
     .rcases hKn j hj with h|⟨k,hk,h1,h2⟩
      .exact .inl h
      .exact .inr ⟨k,hk,getD_set_true h1,h2⟩
     .exact .inr ⟨i,hlt,hDi,hj.1,by omega⟩
    .intro i c v hc hv;exact(hgh i c v hc hv).mono h1 h2
theorem C0(hok:∀i,kD P (calls i))(hnt:nt<1000000000){Q:Exit->Act->World->Prop}{e':hZ}{h':bh}{tr:List (List Nat×List Nat)}(hl:l=ops.toList.map (gf P bq nt ops))
  (hord:yj m ops.toList 0=true) (hsch:xV m l 0=true) (hev:jj calls s.next l 0 s.cR s.heap=some (e',h',tr)) (hdyn:yK tr (sX m l 0)=true) (hsmall:l.length<=1000)
  (hR:EU S K w0 Kn φ gv nt s a w)
  (hQ:∀S' Kn' φ' a' w',fX S w S' w'->EU S' K w0 Kn' φ' gv nt ⟨e',h',s.next+eL*l.length,s.gh⟩ a' w'->Q .normal a' w'):
  wpAny P .any ops Q ops.size (Array.replicate ops.size false) a {w with drawn:=w.drawn+1}:=by
 obtain⟨E,Hp,ef,hp,h1,h2,h3,h4⟩:=KD hl hord hsch hev hdyn hsmall;have hd:∀k,(Array.replicate ops.size false).getD k false=false:=by intro k;simp only[bC,Array.getElem?_replicate];split<;>rfl
 have eG:fX S w S {w with drawn:=w.drawn+1}:=fX.rj S w _;refine Jj (gv:=gv) (K:=K) (w0:=w0) hok hnt hp (S0:=S) (ws:=w) (gh:=s.gh) ?_ ops.size _ S Kn φ a _ s.cR s.heap (by simp) ?_ ?_ ?_ ?_ (hR.inv.rj _ (Nat.le_succ _)) ?_ hR.size hR.defers ?_ ?_ eG
 .rw [h3,h4];exact hQ
 .simp only[hd,Lu];exact am _
 .intro k o _ hk;simp only[hd]at hk;simp at hk
 .intro t;simp only[hd];rw[h1];have:∀k,oF (ri l) ef (fun _=>false) (bQ s.cR) k t=bQ s.cR t:=by intro k;induction k with|zero=>rfl|succ k ih=>simp[oF,ih]
  exact(this _).symm
 .intro id;simp only[hd];rw[h2];have:∀k,jA ef (fun _=>false) (ao s.heap) k id=ao s.heap id:=by intro k;induction k with|zero=>rfl|succ k ih=>simp[jA,ih]
  exact(this _).symm
 .intro t x hx;exact(hR.cR t x hx).mono eG (ry.refl _ _)
 .intro j hj;rcases gQ j s.next with h|h
  .exact .inl h
  .exact absurd hj (hR.fP j h)
 .intro i c v hc hv;exact(hR.gh i c v hc hv).mono eG (ry.refl _ _)
end
def pP(P:Program)(bq:uX)(nt:Nat):Code->CC
 |.skip=>.skip
 |.region _ ops draw=>if draw then ww ops.toList (ops.toList.map (gf P bq nt ops)) []else .region (ops.toList.map (gf P bq nt ops)) []
 |.seq a b=>.seq (pP P bq nt a) (pP P bq nt b)
 |.cond c a b=>.cond c (pP P bq nt a) (pP P bq nt b)
 |.block id a=>.block id (pP P bq nt a)
 |.loop a=>.loop [] (pP P bq nt a)
 |.scope a=>pP P bq nt a
 |.label _=>.skip
 |.exit id=>.exit id
 |.ret=>.ret
 |_=>.fG
def MI:ql->Exit
 |.normal=>.normal
 |.exit id=>.exit id
 |.ret=>.ret
def Sub(s s1:St):Prop:=∀(S K:Nat->Prop)(w0:World)(Kn:Nat->Prop)(φ:Nat->gi)(gv:List Value)(nt:Nat)(a:Act)(w:World),
 EU S K w0 Kn φ gv nt s a w->∃S' Kn' φ',fX S w S' w/\EU S' K w0 Kn' φ' gv nt s1 a w
theorem Sub.refl(s:St):Sub s s:=fun S _ _ Kn φ _ _ _ w h=>⟨S,Kn,φ,fX.refl S w,h⟩
theorem Sub.trans{s s1 s2:St}(a:Sub s s1)(b:Sub s1 s2):Sub s s2:=fun S K w0 Kn φ gv nt ac w h=>
 let⟨S1,Kn1,φ1,h1,h2⟩:=a S K w0 Kn φ gv nt ac w h;let⟨S2,Kn2,φ2,h3,h4⟩:=b S1 K w0 Kn1 φ1 gv nt ac w h2
 ⟨S2,Kn2,φ2,h1.trans h3,h4⟩
def wk(Q:St->Prop)(s:St):Prop:=∃s1,Sub s s1/\Q s1
theorem wk.of{Q:St->Prop}{s:St}(h:Q s):wk Q s:=⟨s,Sub.refl s,h⟩
def WO(P:Program):List l6->St->(St->Prop)->Prop
 |[],s,Q=>wk Q s
 |o::r,s,Q=>∃s1,Sub s s1/\
  ((jy s1.cR o.guard=some true/\∃call v u au n,kD P call/\bX call o.k (o.args.map (jB s1.cR)) s1.heap s1.next=some (v,u,au,n)/\WO P r ⟨put s1.cR o.dst v,u++s1.heap,n,s1.gh⟩ Q)\/
   (jy s1.cR o.guard=some false/\WO P r ⟨drop s1.cR o.dst,s1.heap,s1.next,s1.gh⟩ Q))
def ut(R:St->Prop)(Q:ql->St->Prop):ql->St->Prop
 |.normal,s=>R s
 |.exit id,s=>Q (.exit id) s
 |.ret,s=>Q .ret s
def vI(id:Nat)(Q:ql->St->Prop):ql->St->Prop
 |.exit id',s=>if id'=id then Q .normal s else Q (.exit id') s
 |.normal,s=>Q .normal s
 |.ret,s=>Q .ret s
def W(P:Program):CC->St->(ql->St->Prop)->Prop
 |.skip,s,Q=>wk (Q .normal) s
 |.region ops _,s,Q=>WO P ops s fun s'=>wk (Q .normal) s'
 |.drawn ops dyn _,s,Q=>∃s1,Sub s s1/\∃calls e h tr,(∀i,kD P (calls i))/\jj calls s1.next ops 0 s1.cR s1.heap=some (e,h,tr)/\yK tr dyn=true/\
   wk (Q .normal) ⟨e,h,s1.next+eL*ops.length,s1.gh⟩
 |.seq a b,s,Q=>W P a s (ut (fun s'=>W P b s' Q) Q)
 |.cond c a b,s0,Q=>∃s,Sub s0 s/\∃t,jB s.cR c=some (.c (.d (.lit (.bool t))))/\(t=true->W P a s Q)/\(t=false->W P b s Q)
 |.block id a,s,Q=>W P a s (vI id Q)
 |.loop _ a,s,Q=>∃(I:Nat->St->Prop)(n:Nat),wk (I n) s/\∀n s,I n s->W P a s (ut (fun s'=>∃m,m<n/\wk (I m) s') Q)
 |.exit id,s,Q=>wk (Q (.exit id)) s
 |.ret,s,Q=>wk (Q .ret) s
 |.fG,_,_=>False
section
variable{P:Program}{S K:Nat->Prop}{w0 w:World}{Kn:Nat->Prop}{φ:Nat->gi}{gv:List Value}{nt:Nat}{a:Act}{bq:uX}{s s':St}
theorem Hz{all:Array Oper}{R:Exit->Act->World->Prop}(hnt:nt<1000000000){Q:St->Prop}:∀(l:List Nat)(os:List Oper)(s:St)(S:Nat->Prop)(Kn:Nat->Prop)(φ:Nat->gi)(a:Act)(w:World),
  (∀(i j:Nat),l[i]?=some j->all[j]?=os[i]?)->l.length=os.length->WO P (os.map (gf P bq nt all)) s Q->EU S K w0 Kn φ gv nt s a w->
  (∀S' Kn' φ' s' a' w',Q s'->fX S w S' w'->EU S' K w0 Kn' φ' gv nt s' a' w'->R .normal a' w')->wpOps P all R l a w:=by
 intro l;induction l with
 |nil=>intro os s S Kn φ a w _ hl h hR hQ;obtain rfl:os=[]:=be.1 hl.symm;obtain⟨s1,h1,h2⟩:=h;obtain⟨S1,Kn1,φ1,h3,h4⟩:=h1 S K w0 Kn φ gv nt a w hR;exact hQ S1 Kn1 φ1 s1 a w h2 h3 h4
 |cons i l ih=>
  intro os s S Kn φ a w hi hl h hR hQ;cases os with
  |nil=>simp at hl
  |cons o os=>
   have ho:all[i]?=some o:=by simpa using hi 0 i rfl
   simp only[ap,WO]at h;obtain⟨s1,hsub,h⟩:=h;obtain⟨S1,Kn1,φ1,hs1,hR1⟩:=hsub S K w0 Kn φ gv nt a w hR;simp only[wpOps,ho];rcases h with⟨hw,call,v,u,au,n,hok,hev,h⟩|⟨hw,h⟩
   .have hwant:=pT hR1.cR (by rw[hR1.size];exact hnt) hw;rw[if_pos hwant];left
    have hdst:∀x,o.dst=some x->x<a.tmps.size:=by
     intro x hx;rw[hR1.size];rcases gQ x nt with h1|h1
     .exact h1
     .exfalso;have:(gf P bq nt all o).k=.fG:=by simp only[gf,hx];rw[if_neg (by simp;omega)]
      rw[this,eZ]at hev;simp at hev
    have hk:wU P bq o.op=((gf P bq nt all o).k,(gf P bq nt all o).args):=by
     have:(gf P bq nt all o).k=(wU P bq o.op).1:=by simp only[gf];rw[if_pos];cases hd:o.dst with|none=>rfl|some d=>have:=hdst d hd;rw[hR1.size]at this;simpa using this
     rw[this];rfl
    have hgo:=Ca hok hk hR1.inv hR1.cR (fun j hj _=>hR1.fP j hj) hev;refine hgo _ _ fun val w' hD=>?_;obtain⟨hle,S',φ',h1,h2,h3,h4⟩:=hD;refine ih os _ S' (nz Kn1 s1.next n) φ' _ w' (fun i' j hj=>hi (i'+1) j (by simpa using hj)) (by simpa using hl) h ⟨?_,?_,?_,?_,?_,?_⟩ fun S2 Kn2 φ2 s2 a2 w2 h0 h5 h6=>hQ S2 Kn2 φ2 s2 a2 w2 h0 ((hs1.trans h1).trans h5) h6
    .simp only[fz];exact h4
    .exact hZ.H3 hR1.cR h1 h2 hdst h3
    .rw [vf];exact hR1.size
    .rw [rH];exact hR1.defers
    .intro j hj hk;simp only at hj;rcases hk with hk|hk
     .exact hR1.fP j (by omega) hk
     .omega
    .intro i c v hc hv;exact(hR1.gh i c v hc hv).mono h1 h2
   .have hwant:=pT hR1.cR (by rw[hR1.size];exact hnt) hw;rw[if_neg (by simp[hwant])];refine ih os _ S1 Kn1 φ1 _ w (fun i' j hj=>hi (i'+1) j (by simpa using hj)) (by simpa using hl) h ⟨hR1.inv,?_,?_,?_,hR1.fP,hR1.gh⟩ fun S2 Kn2 φ2 s2 a2 w2 h0 h5 h6=>hQ S2 Kn2 φ2 s2 a2 w2 h0 (hs1.trans h5) h6
    .exact hZ.FH hR1.cR
    .rw [vf];exact hR1.size
    .rw [rH];exact hR1.defers
theorem AB{c:Code}{Q:Exit->Act->World->Prop}(J:Nat->Act->World->Prop)(n:Nat)(h₀:J n a w)
  (round:∀n a w,J n a w->c.wp P (Exit.then (fun a w=>∃m,m<n/\J m a w) Q) a w):(Code.loop c).wp P Q a w:=by
 intro b k cs
 have key:∀n a w,J n a w->∃e a' w',Q e a' w'/\Arrives P (lone (b.at a (.code c::.inLoop c::k)) cs w) b k cs e a' w':=by
  intro n;induction n using Nat.strongRecOn with
  |_ n ih=>intro a w hJ;obtain⟨e,a₁,w₁,hq,harr⟩:=round n a w hJ b (.inLoop c::k) cs;cases e with|normal=>obtain⟨m,hlt,hq⟩:=hq;obtain⟨e₂,a₂,w₂,hq₂,harr₂⟩:=ih m hlt a₁ w₁ hq;exact⟨e₂,a₂,w₂,hq₂,.of_steps (Steps.trans harr (.one step_inLoop)) harr₂⟩|exit id=>exact⟨_,a₁,w₁,hq,.pass (x:=.inLoop c) rfl (fun _ _=>.inl (by simp)) harr⟩|goto l=>exact⟨_,a₁,w₁,hq,.pass (x:=.inLoop c) rfl (fun _ _=>.inl (by simp)) harr⟩|ret=>exact⟨_,a₁,w₁,hq,.pass (x:=.inLoop c) rfl (fun _ _=>.inl (by simp)) harr⟩|panic ch=>exact⟨_,a₁,w₁,hq,.pass (x:=.inLoop c) rfl (fun _ _=>.inl (by simp)) harr⟩|outgrown=>exact⟨_,a₁,w₁,hq,.pass (x:=.inLoop c) rfl (fun _ _=>.inl (by simp)) harr⟩
 obtain⟨e,a',w',hq,harr⟩:=key n a w h₀;exact⟨e,a',w',hq,.of_steps (.one step_loop) harr⟩
def xl(S K:Nat->Prop)(w0 w:World)(gv:List Value)(nt:Nat)(Q:ql->St->Prop)(e:Exit)(a':Act)(w':World):Prop:=∃o s',Q o s'/\e=MI o/\∃S' Kn' φ',fX S w S' w'/\EU S' K w0 Kn' φ' gv nt s' a' w'
theorem xl.trans{S':Nat->Prop}{w':World}(h:fX S w S' w'){Q:ql->St->Prop}{e:Exit}{a':Act}{w'':World}(hp:xl S' K w0 w' gv nt Q e a' w''):xl S K w0 w gv nt Q e a' w'':=by obtain⟨o,s',h0,h1,S'',Kn',φ',h2,h3⟩:=hp;exact⟨o,s',h0,h1,S'',Kn',φ',h.trans h2,h3⟩
theorem xl.z5{Q:ql->St->Prop}{o:ql}{a':Act}{w':World}{S' Kn':Nat->Prop}{φ':Nat->gi}(h:wk (Q o) s')(hs:fX S w S' w')(hR:EU S' K w0 Kn' φ' gv nt s' a' w'):xl S K w0 w gv nt Q (MI o) a' w':=by obtain⟨s1,h1,h2⟩:=h;obtain⟨S1,Kn1,φ1,h3,h4⟩:=h1 S' K w0 Kn' φ' gv nt a' w' hR;exact⟨o,s1,h2,rfl,S1,Kn1,φ1,hs.trans h3,h4⟩
theorem EC(hnt:nt<1000000000)(hm:P.follows .mixedOrders=true):∀(code:Code)(s:St)(Q:ql->St->Prop)(S:Nat->Prop)(Kn:Nat->Prop)(φ:Nat->gi)(a:Act)(w:World),
  W P (pP P bq nt code) s Q->EU S K w0 Kn φ gv nt s a w->code.wp P (xl S K w0 w gv nt Q) a w:=by
 intro code;induction code with
 |skip=>intro s Q S Kn φ a w h hR;exact wp_skip (xl.z5 h (fX.refl _ _) hR)
 |region id ops draw=>
  intro s Q S Kn φ a w h hR;simp only[pP]at h;cases draw with
  |false=>
   simp only[aE,if_false,W]at h;refine wp_region ?_;refine Hz (gv:=gv) (K:=K) (w0:=w0) hnt (List.range ops.size) ops.toList s S Kn φ a w ?_ (by simp) h hR fun S' Kn' φ' s' a' w' h0 h1 h2=>xl.z5 (o:=.normal) h0 h1 h2;intro i j hj;obtain⟨hlt,rfl⟩:i<ops.size/\i=j:=by have:=aj.1 hj;obtain⟨h1,h2⟩:=this;simp at h1 h2;exact⟨h1,h2⟩
   simp
  |true=>
   simp only[if_true]at h;unfold ww at h;simp only at h;split at h
   .rename_i hc;simp only[ah]at hc;simp only[W]at h;obtain⟨s1,hsub,calls,e1,h1,tr,hok,hev,hdyn,hq⟩:=h;obtain⟨S1,Kn1,φ1,hs1,hR1⟩:=hsub S K w0 Kn φ gv nt a w hR;refine wp_region_any hm ?_;exact C0 hok hnt rfl hc.1.1 hc.1.2 hev hdyn (by simpa using hc.2) hR1 fun S' Kn' φ' a' w' h1 h2=>xl.z5 (o:=.normal) hq (hs1.trans h1) h2
   .simp [W]at h
 |seq x y ihx ihy=>intro s Q S Kn φ a w h hR;simp only[pP,W]at h;refine wp_seq ?_;refine wp_mono (ihx s _ S Kn φ a w h hR) fun e a' w' hp=>?_;obtain⟨o,s',h0,rfl,S',Kn',φ',h1,h2⟩:=hp;cases o with|normal=>exact wp_mono (ihy s' Q S' Kn' φ' a' w' h0 h2) fun e a'' w'' hp=>hp.trans h1|exit id=>exact⟨.exit id,s',h0,rfl,S',Kn',φ',h1,h2⟩|ret=>exact⟨.ret,s',h0,rfl,S',Kn',φ',h1,h2⟩
 |cond c x y ihx ihy=>intro s Q S Kn φ a w h hR;simp only[pP,W]at h;obtain⟨s1,hsub,t,ht,h1,h2⟩:=h;obtain⟨S1,Kn1,φ1,hs1,hR1⟩:=hsub S K w0 Kn φ gv nt a w hR;have hv:=(tO hR1.inv.A5 hR1.cR ht).lit.1;refine wp_cond hv ?_;cases t with|true=>exact wp_mono (ihx s1 Q S1 Kn1 φ1 a w (h1 rfl) hR1) fun _ _ _ hp=>hp.trans hs1|false=>exact wp_mono (ihy s1 Q S1 Kn1 φ1 a w (h2 rfl) hR1) fun _ _ _ hp=>hp.trans hs1
 |block id x ih=>
  intro s Q S Kn φ a w h hR;simp only[pP,W]at h;refine wp_block ?_;refine wp_mono (ih s _ S Kn φ a w h hR) fun e a' w' hp=>?_;obtain⟨o,s',h0,rfl,hp⟩:=hp;cases o with
  |normal=>exact⟨.normal,s',h0,rfl,hp⟩
  |ret=>exact⟨.ret,s',h0,rfl,hp⟩
  |exit id'=>
   simp only[MI,Exit.inBlock];simp only[vI]at h0;by_cases hid:id'=id
   .rw [if_pos hid]at h0|-;exact⟨.normal,s',h0,rfl,hp⟩
   .rw [if_neg hid]at h0|-;exact⟨.exit id',s',h0,rfl,hp⟩
 |loop x ih=>intro s Q S Kn φ a w h hR;simp only[pP,W]at h;obtain⟨I,n,⟨s0,hsub,hI⟩,hstep⟩:=h;obtain⟨S0,Kn0,φ0,hs0,hR0⟩:=hsub S K w0 Kn φ gv nt a w hR;refine AB (J:=fun n a' w'=>∃s1 S1 Kn1 φ1,fX S w S1 w'/\EU S1 K w0 Kn1 φ1 gv nt s1 a' w'/\I n s1) n ⟨s0,S0,Kn0,φ0,hs0,hR0,hI⟩ fun n a1 w1 hJ=>?_;obtain⟨s1,S1,Kn1,φ1,h1,h2,h3⟩:=hJ;refine wp_mono (ih s1 _ S1 Kn1 φ1 a1 w1 (hstep n s1 h3) h2) fun e a' w' hp=>?_;obtain⟨o,s2,h0,rfl,S2,Kn2,φ2,h4,h5⟩:=hp;cases o with|normal=>obtain⟨m,hm,s3,h6,h7⟩:=h0;obtain⟨S3,Kn3,φ3,h8,h9⟩:=h6 S2 K w0 Kn2 φ2 gv nt a' w' h5;exact⟨m,hm,s3,S3,Kn3,φ3,(h1.trans h4).trans h8,h9,h7⟩|exit id=>exact⟨.exit id,s2,h0,rfl,S2,Kn2,φ2,h1.trans h4,h5⟩|ret=>exact⟨.ret,s2,h0,rfl,S2,Kn2,φ2,h1.trans h4,h5⟩
 |exit id=>intro s Q S Kn φ a w h hR;exact wp_exit (xl.z5 (o:=.exit id) h (fX.refl _ _) hR)
 |ret=>intro s Q S Kn φ a w h hR;exact wp_ret (xl.z5 (o:=.ret) h (fX.refl _ _) hR)
 |scope x ih=>intro s Q S Kn φ a w h hR;refine wp_scope_straight (wp_mono (ih s Q S Kn φ a w h hR) fun e a' w' hp=>?_);obtain⟨o,s',h0,rfl,h1⟩:=hp;cases o<;>exact⟨_,s',h0,rfl,h1⟩
 |label l=>intro s Q S Kn φ a w h hR;exact wp_label (xl.z5 (o:=.normal) h (fX.refl _ _) hR)
 |_=>intro s Q S Kn φ a w h hR;simp[pP,W]at h
end
def Ko(P:Program):ResultVar->Option RV
 |.tmp t=>some (.tmp t)
 |.cell a t=>match fA P t,eM P t with|some g,some n=>some (.cell a g n)|_,_=>none
def zU(P:Program):List ResultVar->Option (List RV)
 |[]=>some []
 |r::rs=>match Ko P r,zU P rs with|some x,some xs=>some (x::xs)|_,_=>none
def oG(P:Program)(bq:uX)(f np:Nat):Option Fn:=
 match P.funcs[f]?with
 |none=>none
 |some g=>
  match g.body with
  |none=>none
  |some code=>
   if(g.name== "runtime.NumGoroutine")=false/\np<=g.ntmps/\g.ntmps<1000000000 then
    match zU P g.results.toList with|some ki=>some ⟨np,g.ntmps,ki,pP P bq g.ntmps code⟩|none=>none
   else none
section
variable{P:Program}{S K:Nat->Prop}{w0 w:World}{gv:List Value}{nt:Nat}{a:Act}{call:Call}{bq:uX}{s s':St}
theorem CW:∀(as:List A){Kn:Nat->Prop}{φ:Nat->gi}{hf:Nat->Option Ob}(vs:List Value)(fp:List Nat)(i n:Nat),Inv S K w0 Kn φ hf w->(∀j,n<=j->¬Kn j)->J5 S w as vs fp->fp.Nodup->
  (∀b∈fp,¬S b/\¬K b)->ug w φ hf fp->
  ∃φ',sg S K w0 w Kn φ hf fp n (enter as i n).2.2.1 (enter as i n).2.1 φ'/\
   (∀t x,bQ (enter as i n).1 t=some x->i<=t/\∃v,vs[t-i]?=some v/\e_ S w (nz Kn n (enter as i n).2.2.1) φ' x v)/\
   (∀(k:Nat)(c:C)(v:Value),(enter as i n).2.2.2[k]?=some c->(mR as vs)[k]?=some v->RC S w (nz Kn n (enter as i n).2.2.1) φ' c v)/\
   (enter as i n).2.2.2.length=(mR as vs).length/\as.length=vs.length:=by
 intro as;induction as with
 |nil=>intro Kn φ hf vs fp i n hI hfr h hn hSK ha;cases vs with|cons v vs=>exact h.elim|nil=>obtain rfl:fp=[]:=h;exact⟨φ,sg.nil hI _ _,fun t x hx=>by simp[enter,bQ]at hx,fun k c v hk=>by simp[enter]at hk,rfl,rfl⟩
 |cons x as ih=>
  intro Kn φ hf vs fp i n hI hfr h hn hSK ha;cases vs with
  |nil=>exact h.elim
  |cons v vs=>
   obtain⟨f1,f2,rfl,h1,h2⟩:=h;have next:∀{e:hZ}{i':Nat}{t:Nat}{x:TV}{φ':Nat->gi}{Kn':Nat->Prop},i+1<=t/\(∃v,vs[t-(i+1)]?=some v/\e_ S w Kn' φ' x v)->i<=t/\∃v',(v::vs)[t-i]?=some v'/\e_ S w Kn' φ' x v':=by intro e i' t x φ' Kn' ⟨q1,v',q2,q3⟩;refine⟨by omega,v',?_,q3⟩;rw[show t-i=(t-(i+1))+1 by omega];simpa using q2
   cases x with
   |d y=>
    obtain⟨h1,rfl⟩:=h1;obtain⟨φ',q1,q2,q3,q4,q5⟩:=ih (Kn:=Kn) (φ:=φ) (hf:=hf) vs f2 (i+1) n hI hfr h2 (by simpa using hn) (by simpa using hSK) (by simpa using ha);refine⟨φ',q1,fun t x hx=>?_,q3,q4,by simp[q5]⟩;simp only[enter,bQ]at hx;by_cases e:i=t
    .subst e;simp at hx;subst hx;exact⟨am _,v,by simp,.c (.d h1)⟩
    .have e':(i==t)=false:=by simpa using e
     rw[e',cond_false]at hx;exact next (e:=[]) (i':=0) (q2 t x hx)
   |agg xs=>
    obtain⟨aF,rfl,hlen,h1,rfl⟩:=h1;obtain⟨φ',q1,q2,q3,q4,q5⟩:=ih (Kn:=Kn) (φ:=φ) (hf:=hf) vs f2 (i+1) n hI hfr h2 (by simpa using hn) (by simpa using hSK) (by simpa using ha);refine⟨φ',q1,fun t x hx=>?_,q3,q4,by simp[q5]⟩;simp only[enter,bQ]at hx;by_cases e:i=t
    .subst e;simp at hx;subst hx;refine⟨am _,_,by simp;rfl,.agg (by simpa using hlen) fun j x hj=>?_⟩;rw[aL]at hj;obtain⟨d,hd,rfl⟩:=aM.1 hj;exact .d (h1 j d hd)
    .have e':(i==t)=false:=by simpa using e
     rw[e',cond_false]at hx;exact next (e:=[]) (i':=0) (q2 t x hx)
   |mt t0=>
    rw[dj]at hn;obtain⟨hn1,hn2,hn3⟩:=hn;simp only[ak]at hSK;obtain⟨φ1,hL1,hr1⟩:=vN t0 n v f1 hI (fun j hj _=>hfr j hj) h1 hn1 (fun b hb=>hSK b (.inl hb)) (fun j o hj hown x hx hm=>ha j o hj hown x hx (by simp[hm]))
    obtain⟨φ2,hL2,q2,q3,q4,q5⟩:=ih (Kn:=nz Kn n (kh n t0).2.2) (φ:=φ1) (hf:=aZ (kh n t0).2.1 hf) vs f2 (i+1) (kh n t0).2.2 hL1.inv (fun j hj hk=>by
     rcases hk with hk|hk
     .have:=hL1.le;exact hfr j (by omega) hk
     .omega) h2 hn2 (fun b hb=>hSK b (.inr hb)) (hL1.LN hI (fun j o hj hown x hx hm=>ha j o hj hown x hx (by simp[hm])) fun x hx hx2=>hn3 x hx x hx2 rfl)
    have hcomp:=hL1.pP hL2;have hcm:aZ ((enter as (i+1) (kh n t0).2.2).2.1++(kh n t0).2.1) hf=aZ ((kh n t0).2.1++(enter as (i+1) (kh n t0).2.2).2.1) hf:=mq fun p hp q hq e=>by have h1:=hL2.fP p hp;have h2:=hL1.fP q hq;omega
    have hsub:∀j,nz (nz Kn n (kh n t0).2.2) (kh n t0).2.2 (enter as (i+1) (kh n t0).2.2).2.2.1 j->nz Kn n (enter as (i+1) (kh n t0).2.2).2.2.1 j:=fun j=>(rL hL1.le hL2.le j).1;refine⟨φ2,?_,fun t x hx=>?_,fun k c v' hk hv=>?_,by simp[enter,mR,q4],by simp[q5]⟩
    .simp only[enter];have hsw:∀{p:Nat×Option Ob}{a b:eg},p∈a++b->p∈b++a:=fun hp=>ak.2 (ak.1 hp).symm;exact⟨hcomp.le,hcomp.sM,hcm▸hcomp.inv,fun p hp=>hcomp.fP p (hsw hp),fun p hp x hx=>hcomp.bT p (hsw hp) x (hcm.symm▸hx)⟩
    .simp only[enter,bQ]at hx|-;by_cases e:i=t
     .subst e;simp at hx;subst hx;exact⟨am _,v,by simp,.c ((hr1.mono (fX.refl _ _) hL2.sM).kn hsub)⟩
     .have e':(i==t)=false:=by simpa using e
      rw[e',cond_false]at hx;obtain⟨p1,v',p2,p3⟩:=q2 t x hx;exact next (e:=[]) (i':=0) ⟨p1,v',p2,p3.mono (fX.refl _ _) ⟨hsub,fun _ _=>rfl⟩⟩
    .simp only[enter]at hk|-;simp only[mR]at hv;cases k with
     |zero=>
      obtain rfl:(kh n t0).1=c:=by simpa using hk
      obtain rfl:v=v':=by simpa using hv
      exact(hr1.mono (fX.refl _ _) hL2.sM).kn hsub
     |succ k=>exact(q3 k c v' (by simpa using hk) (by simpa using hv)).kn hsub
theorem B5{Kn:Nat->Prop}{φ:Nat->gi}{H:bh}(hI:Inv S K w0 Kn φ (ao H) w){v:TV}{r:R}{bi:List Nat}{x:Value}(h:p_ H v=some (r,bi))(hv:e_ S w Kn φ v x):
  RR S w r x (bi.flatMap (gJ w φ (ao H)))/\∀i∈bi,∃o,ao H i=some o/\cn o=true:=by
 cases hv with
 |c hv=>
  simp only[p_]at h;split at h
  .rename_i t au rd hp;obtain⟨rfl,rfl⟩:R.c t=r/\au=bi:=by simpa using h
   exact(rJ hI 300).1 _ _ _ _ _ hp hv
  .simp at h
 |@agg cs aF hlen hv=>
  simp only[p_]at h;split at h
  .rename_i ts au rd hp;obtain⟨rfl,rfl⟩:R.agg ts=r/\au=bi:=by simpa using h
   obtain⟨h1,⟨fps,h2,h3,h4⟩,h5⟩:=(rJ hI 300).2 _ _ _ _ hp (fun i=>aF.getD i undef) hv;exact⟨⟨aF,fps,rfl,h1.trans hlen,h2,h3,h4⟩,h5⟩
  .simp at h
 |gB hlen hv=>simp[p_]at h
theorem AO{Kn:Nat->Prop}{φ:Nat->gi}{H:bh}(hI:Inv S K w0 Kn φ (ao H) w):∀(tvs:List TV)(vs:List Value)(rs:List R)(bi:List Nat),qw H tvs=some (rs,bi)->tvs.length=vs.length->
  (∀(i:Nat)(t:TV)(v:Value),tvs[i]?=some t->vs[i]?=some v->e_ S w Kn φ t v)->Dl S w rs vs (bi.flatMap (gJ w φ (ao H)))/\∀i∈bi,∃o,ao H i=some o/\cn o=true:=by
 intro tvs;induction tvs with
 |nil=>
  intro vs rs bi h hl hr;obtain⟨rfl,rfl⟩:[]=rs/\[]=bi:=by simpa[qw]using h
  obtain rfl:vs=[]:=be.1 hl.symm;exact⟨rfl,fun i hi=>by simp at hi⟩
 |cons t tvs ih=>
  intro vs rs bi h hl hr;cases vs with
  |nil=>simp at hl
  |cons v vs=>
   simp only[qw]at h;split at h
   .rename_i r o1 rs1 o2 hp hps;obtain⟨rfl,rfl⟩:r::rs1=rs/\o1++o2=bi:=by simpa using h
    obtain⟨a1,a2⟩:=B5 hI hp (hr 0 t v rfl rfl);obtain⟨b1,b2⟩:=ih vs rs1 o2 hps (by simpa using hl) (fun i t v hi hv=>hr (i+1) t v (by simpa using hi) (by simpa using hv));refine⟨⟨_,_,by simp,a1,b1⟩,fun i hi=>?_⟩;rcases ak.1 hi with hi|hi
    .exact a2 i hi
    .exact b2 i hi
   .simp at h
inductive tD(h:bh):List C->List T->List Nat->Prop
 |nil:tD h [] [] []
 |cons {c:C} {cs:List C} {t:T} {ts:List T} {a i b:List Nat} (h1:dn h 300 c=some (t,a,i)) (h2:tD h cs ts b):tD h (c::cs) (t::ts) (a++b)
 |j6 {c:C} {cs:List C} {ts:List T} {b:List Nat} (h2:tD h cs ts b):tD h (c::cs) (.j6::ts) b
theorem tD.of{h:bh}:∀{cs:List C}{ts:List T}{b:List Nat},yg h cs=some (ts,b)->tD h cs ts b:=by
 intro cs;induction cs with
 |nil=>intro ts b hp;obtain⟨rfl,rfl⟩:[]=ts/\[]=b:=by simpa[yg]using hp
       exact .nil
 |cons c cs ih=>
  intro ts b hp;simp only[yg]at hp;split at hp
  .rename_i t o1 rd ts1 o2 h1 h2;obtain⟨rfl,rfl⟩:t::ts1=ts/\o1++o2=b:=by simpa using hp
   exact .cons h1 (ih h2)
  .simp at hp
theorem B6{Kn:Nat->Prop}{φ:Nat->gi}{H:bh}(hI:Inv S K w0 Kn φ (ao H) w){cs:List C}{ts:List T}{bi:List Nat}(h:tD H cs ts bi):∀(vs:List Value),cs.length=vs.length->
  (∀(i:Nat)(c:C)(v:Value),cs[i]?=some c->vs[i]?=some v->RG S w Kn φ c v)->JY S w ts vs (bi.flatMap (gJ w φ (ao H)))/\∀i∈bi,∃o,ao H i=some o/\cn o=true:=by
 induction h with
 |nil=>intro vs hl hr;obtain rfl:vs=[]:=be.1 hl.symm;exact⟨rfl,fun i hi=>by simp at hi⟩
 |@cons c cs t ts a rd b hp _ ih=>
  intro vs hl hr;cases vs with
  |nil=>simp at hl
  |cons v vs=>
   have hrc:RC S w Kn φ c v:=(hr 0 c v rfl rfl).resolve_left fun e=>by subst e;simp[sn,dn]at hp
   obtain⟨a1,a2⟩:=(rJ hI 300).1 _ _ _ _ _ hp hrc;obtain⟨b1,b2⟩:=ih vs (by simpa using hl) (fun i t v hi hv=>hr (i+1) t v (by simpa using hi) (by simpa using hv));refine⟨⟨_,_,by simp,.inr a1,b1⟩,fun i hi=>?_⟩;rcases ak.1 hi with hi|hi
   .exact a2 i hi
   .exact b2 i hi
 |@j6 c cs ts b _ ih=>intro vs hl hr;cases vs with|nil=>simp at hl|cons v vs=>obtain⟨b1,b2⟩:=ih vs (by simpa using hl) (fun i t v hi hv=>hr (i+1) t v (by simpa using hi) (by simpa using hv));exact⟨⟨[],_,rfl,.inl ⟨rfl,rfl⟩,b1⟩,b2⟩
def qJ(ki:List RV)(s:St)(rs:List R)(outs:List T):Prop:=∃vs a b,dz (ki.map (sL s))=some vs/\qw s.heap vs=some (rs,a)/\tD s.heap s.gh outs b/\(a++b).Nodup
theorem qJ.of{ki:List RV}{s:St}{rs:List R}{outs:List T}(h:II ki s=some (rs,outs)):qJ ki s rs outs:=by
 unfold II at h;split at h
 .simp at h
 rename_i tvs htv;split at h
 case h_2=>simp at h
 rename_i rs1 oa ts1 ob hpr hpc;split at h
 case isFalse=>simp at h
 rename_i hnod;obtain⟨rfl,rfl⟩:rs1=rs/\ts1=outs:=by simpa using h
 exact⟨tvs,oa,ob,htv,hpr,.of hpc,hnod⟩
def rG(tmps:Array Value):ResultVar->Sem Value
 |.tmp t=>pure (tmps.getD t undef)
 |.cell a t=>do loadVar t (<-asAddr (tmps.getD a undef))
theorem Cr{t:TypeId}{pv val:Value}(h:(Instr.loadAt t pv).run P w=.ok val w):(do loadVar t (<-asAddr pv):Sem Value).run P w=.ok val w:=by
 cases pv with
 |pointer x=>cases x with|some a=>simpa[Instr.loadAt,Instr.sureAddr,asAddr]using h|none=>simp[Instr.loadAt,Instr.sureAddr]at h
 |_=>simp[Instr.loadAt,Instr.sureAddr]at h
theorem AL{Kn:Nat->Prop}{φ:Nat->gi}(hI:Inv S K w0 Kn φ (ao s.heap) w)(hE:hZ.ok S w Kn φ s.cR a.tmps){r:ResultVar}{x:RV}{v:TV}(hr:Ko P r=some x)(h:sL s x=some v):
  ∃val,(rG a.tmps r).run P w=.ok val w/\e_ S w Kn φ v val:=by
 cases r with
 |tmp t=>
  obtain rfl:RV.tmp t=x:=by simpa[Ko]using hr
  exact⟨_,by simp[rG],hE t v h⟩
 |cell t ty=>
  simp only[Ko]at hr;split at hr
  .rename_i g n hg hn;obtain rfl:=aa hr;simp only[sL]at h;split at h
   .rename_i p hp;split at h
    .rename_i v' au hl;obtain rfl:=aa h;cases hE t _ hp with|c hc=>obtain⟨val,h1,h2⟩:=xZ hg hn hI hc hl;exact⟨val,Cr h1,h2⟩
    .simp at h
   .simp at h
  .simp at hr
theorem zr{Kn:Nat->Prop}{φ:Nat->gi}(hI:Inv S K w0 Kn φ (ao s.heap) w)(hE:hZ.ok S w Kn φ s.cR a.tmps):∀(rs:List ResultVar)(xs:List RV)(tvs:List TV),zU P rs=some xs->dz (xs.map (sL s))=some tvs->
  ∃vs,(rs.mapM (rG a.tmps)).run P w=.ok vs w/\tvs.length=vs.length/\∀(i:Nat)(t:TV)(v:Value),tvs[i]?=some t->vs[i]?=some v->e_ S w Kn φ t v:=by
 intro rs;induction rs with
 |nil=>
  intro xs tvs h1 h2;obtain rfl:[]=xs:=by simpa[zU]using h1
  obtain rfl:[]=tvs:=by simpa[dz]using h2
  exact⟨[],by simp,rfl,fun i t v hi=>by simp at hi⟩
 |cons r rs ih=>
  intro xs tvs h1 h2;simp only[zU]at h1;split at h1
  .rename_i x xs1 hx hxs;obtain rfl:=aa h1;simp only[ap]at h2;cases hv:sL s x with
   |none=>rw[hv]at h2;simp[dz]at h2
   |some v=>
    rw[hv]at h2;simp only[dz]at h2;split at h2
    .rename_i tvs1 htv;obtain rfl:=aa h2;obtain⟨val,q1,q2⟩:=AL hI hE hx hv;obtain⟨vs,q3,q4,q5⟩:=ih xs1 tvs1 hxs htv;refine⟨val::vs,by simp[List.mapM_cons,q1,q3],by simp[q4],fun i t v' hi hv'=>?_⟩;cases i with
     |zero=>
      obtain rfl:v=t:=by simpa using hi
      obtain rfl:val=v':=by simpa using hv'
      exact q2
     |succ i=>exact q5 i t v' (by simpa using hi) (by simpa using hv')
    .simp at h2
  .simp at h1
theorem BS{g:Func}{tmps:Array Value}{vs:List Value}(h:(g.results.toList.mapM (rG tmps)).run P w=.ok vs w):(results g tmps).run P w=.ok (x9 vs) w:=by
 have e:results g tmps=(do let vs<-g.results.mapM (rG tmps);pure (if h:vs.size=1 then vs[0]else .tuple vs)):=rfl;have e2:g.results.mapM (rG tmps)=(do let vs<-g.results.toList.mapM (rG tmps);pure vs.toArray):=by rw[Array.mapM_eq_mapM_toList,bind_pure_comp]
 rw[e,e2];simp only[Sem.run_bind,h,Result.andThen_ok,Sem.run_pure]
 match vs with|[]=>rfl|[v]=>rfl|v::v'::r=>simp[x9]
def MC(sz:Nat):Option (List (List D))->D
 |none=>.lit (.slice none 0 0)
 |some rows=>.sl sz rows
def xd:T->D
 |.d x=>x
 |.sl sz rows=>.sl sz rows
 |.zh sz rows=>.sl 1 (rows.map fun r=>[MC sz r])
 |_=>.lit .nilFunc
def wQ:T->Bool
 |.pt _|.mp _ _ _ _=>false
 |_=>true
def D5:R->Bool
 |.c t=>wQ t
 |.agg ts=>ts.all wQ
theorem RT.Ad{S S':Nat->Prop}{w:World}{t:T}{v:Value}{fp:List Nat}(hm:wQ t=true)(h:RT S w t v fp)(hS:∀b,S b->S' b)(hb:∀b∈fp,S' b):RD S' w (xd t) v:=by
 have eG:fX S w S' w:=⟨hS,fun _ _=>rfl⟩
 cases h with
 |d h=>exact h.mono eG
 |@sl sz rows b off len cap aF hsz ho hlen hcap hext hr=>
  subst hlen;refine .sl (fun i j=>aF.getD (off+i*sz+j) undef) (hb b (by simp)) hsz hcap hr.1 (fun i r hi j x hj=>?_) (fun i r hi j x hj=>?_)
  .obtain ⟨v,h1,h2⟩:=hr.2 i r hi j x hj;simp only at h1;rw[ho.cell,h1,bC,h1];rfl
  .obtain ⟨v,h1,h2⟩:=hr.2 i r hi j x hj;simp only at h1;rw[bC,h1];exact h2.mono eG
 |@zh sz rows b off cap aF fps hsz ho hcap hext hfl h=>
  have key:=RD.zS (S:=S') (w:=w) (sz:=1) (rows:=rows.map fun r=>[MC sz r]) (b:=b) (off:=off) (len:=rows.length) (cap:=cap) (hb b (by simp)) Nat.one_pos (by simp) hcap ⟨fun i r hi=>?_,fun i r hi j x hj=>?_⟩
  .exact key
  .rw [aL]at hi;obtain⟨r',_,rfl⟩:=aM.1 hi;rfl
  .rw [aL]at hi;obtain⟨r',hr',rfl⟩:=aM.1 hi;have hl:=(aj.1 hr').1;cases j with
   |succ j=>simp at hj
   |zero=>
    obtain rfl:MC sz r'=x:=by simpa using hj
    obtain⟨v,h1,h2⟩:=h i r' fps[i] hr' (az (by omega));refine⟨v,by rw[Nat.mul_one,cY];exact(ho.cell _).trans h1,?_⟩;cases r' with|none=>obtain⟨rfl,_⟩:=h2;exact .lit rfl|some rows'=>obtain⟨b',q1,q2⟩:=h2;exact q2.rd eG (hb b' (aC _ (ez.2 ⟨fps[i],List.getElem_mem _,by rw[q1];simp⟩)))
 |pt=>cases hm
 |mp=>cases hm
def GP:R->R
 |.c t=>.c (.d (xd t))
 |.agg ts=>.agg (ts.map fun t=>.d (xd t))
def qe:List Bool->List R->List R
 |b::bs,r::rs=>(if(b&&D5 r)=true then GP r else r)::qe bs rs
 |_,rs=>rs
theorem RR.yq{S S':Nat->Prop}{w:World}(hS:∀b,S b->S' b){r:R}{v:Value}{fp:List Nat}(h:RR S w r v fp):RR S' w r v fp:=by
 have eG:fX S w S' w:=⟨hS,fun _ _=>rfl⟩
 cases r with|c t=>exact RT.mono eG h fun _ _=>rfl|agg ts=>obtain⟨aF,fps,h1,h2,h3,h4,h5⟩:=h;exact⟨aF,fps,h1,h2,h3,h4,fun i t f hi hf=>(h5 i t f hi hf).mono eG fun _ _=>rfl⟩
theorem RR.Ad{S S':Nat->Prop}{w:World}{r:R}{v:Value}{fp:List Nat}(h:RR S w r v fp)(hS:∀b,S b->S' b)(hm:D5 r=true)(hb:∀b∈fp,S' b):RR S' w (GP r) v []:=by
 cases r with
 |c t=>exact .d (RT.Ad hm h hS hb)
 |agg ts=>
  obtain⟨aF,fps,h1,h2,h3,h4,h5⟩:=h;refine⟨aF,ts.map fun _=>[],h1,by simp[h2],by simp,?_,fun i t f hi hf=>?_⟩
  .clear h5 h3 h2;induction ts with|nil=>rfl|cons t ts ih=>simp
  .simp only[aL,aM]at hi hf;obtain⟨t0,ht0,rfl⟩:=hi;obtain⟨_,_,rfl⟩:=hf;have hl:=(aj.1 ht0).1;have hf:fps[i]?=some _:=az (by omega);refine .d (RT.Ad (aV.1 hm _ (bd ht0)) (h5 i t0 _ ht0 hf) hS fun b hbm=>hb b ?_);rw[<-h4];exact ez.2 ⟨_,bd hf,hbm⟩
theorem Dl.yq{S S':Nat->Prop}{w:World}(hS:∀b,S b->S' b):∀{rs:List R}{vs:List Value}{fp:List Nat},Dl S w rs vs fp->Dl S' w rs vs fp:=by
 intro rs;induction rs with
 |nil=>intro vs fp h;cases vs<;>exact h
 |cons r rs ih=>intro vs fp h;cases vs with|nil=>exact h|cons v vs=>obtain⟨f1,f2,h1,h2,h3⟩:=h;exact⟨f1,f2,h1,h2.yq hS,ih h3⟩
theorem Dl.Ad{S:Nat->Prop}{w:World}:∀(m:List Bool)(rs:List R)(vs:List Value)(fp:List Nat),Dl S w rs vs fp->fp.Nodup->
  ∃fpK,fpK.Sublist fp/\∀S':Nat->Prop,(∀b,S b->S' b)->(∀b∈fp,b∉fpK->S' b)->Dl S' w (qe m rs) vs fpK:=by
 intro m;induction m with
 |nil=>intro rs vs fp h hn;exact⟨fp,bI _,fun S' hS _=>by cases rs<;>exact h.yq hS⟩
 |cons b m ih=>
  intro rs vs fp h hn;cases rs with
  |nil=>exact⟨fp,bI _,fun S' hS _=>h.yq hS⟩
  |cons r rs=>
   cases vs with
   |nil=>exact h.elim
   |cons v vs=>
    obtain⟨f1,f2,rfl,h2,h3⟩:=h;obtain⟨n1,n2,n3⟩:=dj.1 hn;obtain⟨fpK,hsub,hk⟩:=ih rs vs f2 h3 n2;cases hbo:(b&&D5 r)with
    |true=>simp only[qe,hbo,if_true];refine⟨fpK,hsub.trans (List.sublist_append_right _ _),fun S' hS hb=>⟨[],fpK,rfl,h2.Ad hS (Bool.and_eq_true_iff.1 hbo).2 fun b hbm=>hb b (aG _ hbm) fun hb2=>n3 b hbm b (hsub.subset hb2) rfl,hk S' hS fun b hbm hb2=>hb b (aD _ hbm) hb2⟩⟩
    |false=>
     simp only[qe,hbo,aE,if_false];refine⟨f1++fpK,cL.append (bI _) hsub,fun S' hS hb=>⟨f1,fpK,rfl,h2.yq hS,hk S' hS fun b hbm hb2=>hb b (aD _ hbm) fun hb3=>?_⟩⟩;rcases ak.1 hb3 with h|h
     .exact n3 b h b hbm rfl
     .exact hb2 h
theorem Dl.lt{S:Nat->Prop}{w:World}:∀{rs:List R}{vs:List Value}{fp:List Nat},Dl S w rs vs fp->∀b∈fp,b<w.heap.size:=by
 intro rs;induction rs with
 |nil=>intro vs fp h b hb;cases vs with|nil=>have h':fp=[]:=h;subst h';simp at hb|cons _ _=>exact h.elim
 |cons r rs ih=>
  intro vs fp h b hb;cases vs with
  |nil=>exact h.elim
  |cons v vs=>
   obtain⟨f1,f2,rfl,h2,h3⟩:=h;rcases ak.1 hb with hb|hb
   .cases r with|c t=>exact RT.lt h2 b hb|agg ts=>obtain⟨aF,fps,_,q2,q3,rfl,q5⟩:=h2;obtain⟨fp,hfp,hbf⟩:=ez.1 hb;obtain⟨i,hi,rfl⟩:=List.getElem_of_mem hfp;exact(q5 i _ _ (az (by omega:i<ts.length)) (az hi)).lt b hbf
   .exact ih h3 b hb
theorem JY.yq{S S':Nat->Prop}{w:World}(hS:∀b,S b->S' b):∀{ts:List T}{vs:List Value}{fp:List Nat},JY S w ts vs fp->JY S' w ts vs fp:=by
 intro ts;induction ts with
 |nil=>intro vs fp h;cases vs<;>exact h
 |cons r rs ih=>intro vs fp h;cases vs with|nil=>exact h|cons v vs=>obtain⟨f1,f2,h1,h2,h3⟩:=h;exact⟨f1,f2,h1,h2.imp id fun h2=>RT.mono ⟨hS,fun _ _=>rfl⟩ h2 fun _ _=>rfl,ih h3⟩
theorem Left.Ad{S:Nat->Prop}{w w':World}{fp:List Nat}{rs:List R}{outs:List T}{lent:List Value}{v:Value}(m:List Bool)(h:Left S w fp rs outs lent v w'):Left S w fp (qe m rs) outs lent v w':=by
 obtain⟨S',ki,fp1,fp2,h1,h2,h3,h4,h5,h6,h7,h8,h9⟩:=h;obtain⟨n1,n2,n3⟩:=dj.1 h7;obtain⟨fpK,hsub,hk⟩:=Dl.Ad m rs ki fp1 h5 n1
 refine⟨fun b=>S' b\/(b∈fp1/\b∉fpK),ki,fpK,fp2,h1,⟨fun b hb=>.inl (h2.sub b hb),h2.dW⟩,fun b hb=>?_,fun b hb=>?_,hk _ (fun b hb=>.inl hb) (fun b hb hb2=>.inr ⟨hb,hb2⟩),
  JY.yq (fun b hb=>.inl hb) h6,?_,fun b hb=>?_,h9⟩
 .rcases hb with hb|hb
  .exact h3 b hb
  .exact .inr (h8 b (aG _ hb.1)).2
 .rcases hb with hb|hb
  .exact h4 b hb
  .exact Dl.lt h5 b hb.1
 .exact (cL.append hsub (bI fp2)).nodup h7
 .rcases ak.1 hb with hb|hb
  .exact ⟨fun h=>h.elim (h8 b (aG _ (hsub.subset hb))).1 fun h=>h.2 hb,(h8 b (aG _ (hsub.subset hb))).2⟩
  .exact ⟨fun h=>h.elim (h8 b (aD _ hb)).1 fun h=>n3 b h.1 b hb rfl,(h8 b (aD _ hb)).2⟩
def qI(ki:List RV)(m:List Bool)(len:Nat)(rs:List R)(outs:List T):ql->St->Prop
 |.exit _,_=>False
 |.normal,s=>wk (fun s=>s.gh.length=len/\∃rs0,qJ ki s rs0 outs/\qe m rs0=rs) s
 |.ret,s=>wk (fun s=>s.gh.length=len/\∃rs0,qJ ki s rs0 outs/\qe m rs0=rs) s
def mW(as:List A):St:=⟨(enter as 0 0).1,(enter as 0 0).2.1,(enter as 0 0).2.2.1,(enter as 0 0).2.2.2⟩
def TK(P:Program)(F:Fn)(m:List Bool)(as:List A)(rs:List R)(outs:List T):Prop:=as.length=F.np/\W P F.body (mW as) (qI F.ki m (mW as).gh.length rs outs)
def Tq(s:St)(Q:St->Prop):Prop:=∀(S K:Nat->Prop)(w0:World)(Kn:Nat->Prop)(φ:Nat->gi)(gv:List Value)(nt:Nat)(a:Act)(w:World),EU S K w0 Kn φ gv nt s a w->∃s1,Q s1/\EU S K w0 Kn φ gv nt s1 a w
theorem CL(hm:P.follows .mixedOrders=true){f np:Nat}{F:Fn}(hF:oG P bq f np=some F){as:List A}{rs:List R}{outs:List T}
  {m:List Bool} (h:as.length=F.np/\Tq (mW as) fun s=>W P F.body s (qI F.ki m (mW as).gh.length rs outs)):xm P f as rs outs:=by
 unfold oG at hF;split at hF
 .simp at hF
 rename_i g hg;split at hF
 .simp at hF
 rename_i code hb;split at hF
 case isFalse=>simp at hF
 rename_i hc;obtain⟨hname,hnp,hnt⟩:=hc;split at hF
 case h_2=>simp at hF
 rename_i ki hrv;obtain rfl:=aa hF;obtain⟨hlen,h⟩:=h;simp only at hlen h;intro S w vs fp hlt hargs hnd hfp hglob;left;refine⟨f,vs.toArray,?_,?_⟩
 .simp [callFunc,run_program,hg,hb];intro e;rw[e]at hname;simp at hname
 refine calls_of_wp hg hb ?_;have hI0:Inv S (fun b=>b<w.heap.size/\b∉fp/\¬S b) w (fun _=>False) (fun _=>default) (ao []) w:=by refine⟨hlt,fun b hb h=>h.2.2 hb,⟨fun b hb=>hb.1,fun _ _=>rfl,am _,fun _ _=>rfl,fun b aF ho=>⟨aF,ho,rfl⟩,Io.refl _⟩,fun id o ho=>by simp[ao,bQ]at ho,fun i j a b ha=>by simp[ao,bQ]at ha,hglob,fun i sz sl k x hi=>by simp[ao,bQ]at hi⟩
 obtain⟨φ,hL,q1,q2,q3,q4⟩:=CW as (S:=S) (K:=fun b=>b<w.heap.size/\b∉fp/\¬S b) (w0:=w) (w:=w) (Kn:=fun _=>False) (φ:=fun _=>default) (hf:=ao []) vs fp 0 0 hI0 (fun _ _ h=>h) hargs hnd
  (fun b hb=>⟨hfp b hb,fun h=>h.2.1 hb⟩) (fun j o ho=>by simp[ao,bQ]at ho)
 unfold mW at h;generalize hen:enter as 0 0=en at h hL q1 q2 q3;obtain⟨e,hp,n,lent⟩:=en;simp only at h hL q1 q2 q3
 have hRel:EU S (fun b=>b<w.heap.size/\b∉fp/\¬S b) w (nz (fun _=>False) 0 n) φ (mR as vs) g.ntmps ⟨e,hp,n,lent⟩
   {tmps:=vs.toArray++Array.replicate (g.ntmps-vs.toArray.size) undef,defers:=[]} w:=by
  refine⟨?_,fun t x hx=>?_,?_,rfl,fun j hj hk=>?_,fun i c v h1 h2=>.inr (q2 i c v h1 h2)⟩
  .have:ao hp=aZ hp (ao []):=by rw[<-fz,List.append_nil]
   rw[this];exact hL.inv
  .obtain ⟨_,v,hv,hr⟩:=q1 t x hx;have hv':vs[t]?=some v:=by simpa using hv
   have:(vs.toArray++Array.replicate (g.ntmps-vs.toArray.size) undef).getD t undef=v:=by have ht:t<vs.length:=(aj.1 hv').1;rw[bC,Array.getElem?_append_left (by simpa using ht)];simp[hv']
   simp only[this];exact hr
  .simp;omega
  .rcases hk with hk|hk
   .exact hk
   .have:n<=j:=hj;omega
 obtain⟨s1,h,hRel⟩:=h _ _ _ _ _ _ _ _ _ hRel;refine wp_mono (EC hnt hm code s1 _ S _ φ _ w h hRel) fun ex a' w' hp=>?_;obtain⟨o,s',hl,rfl,S',Kn',φ',hs,hR⟩:=hp
 have main:∀(s':St)(rs:List R)(S' Kn':Nat->Prop)(φ':Nat->gi),fX S w S' w'->EU S' (fun b=>b<w.heap.size/\b∉fp/\¬S b) w Kn' φ' (mR as vs) g.ntmps s' a' w'->s'.gh.length=lent.length->qJ ki s' rs outs->
   a'.defers=[]/\∃v,(results g a'.tmps).run P w'=.ok v w'/\∃v',Ending.returned v=Ending.returned v'/\Left S w fp rs outs (mR as vs) v' w':=by
  intro s' rs S' Kn' φ' hs hR hgl hlv;obtain⟨tvs,oa,ob,htv,hpr,hpc,hnod⟩:=hlv;obtain⟨rv,p1,p2,p3⟩:=zr hR.inv hR.cR _ _ _ hrv htv;obtain⟨r1,r2⟩:=AO hR.inv tvs rv rs oa hpr p2 p3;obtain⟨t1,t2⟩:=B6 hR.inv hpc (mR as vs) (hgl.trans q3) hR.gh
  have hown:∀i∈oa++ob,∃o,ao s'.heap i=some o/\cn o=true:=by
   intro i hi;rcases ak.1 hi with hi|hi
   .exact r2 i hi
   .exact t2 i hi
  have hfrm:=hR.inv.nh;refine⟨hR.defers,_,BS p1,_,rfl,S',rv,_,_,rfl,hs,fun b hb=>?_,hR.inv.sJ,r1,t1,?_,?_,?_⟩
  .by_cases h1:b<w.heap.size
   .by_cases h2:b∈fp
    .exact .inr (.inl h2)
    .by_cases h3:S b
     .exact .inl h3
     .exact absurd ⟨h1,h2,h3⟩ (hR.inv.sk b hb)
   .exact .inr (.inr (by omega))
  .rw [<-List.flatMap_append];exact Aw hR.inv hnod hown
  .rw [<-List.flatMap_append];intro b hb;obtain⟨i,hi,hb⟩:=List.mem_flatMap.1 hb;obtain⟨oi,hoi,hoo⟩:=hown i hi;obtain⟨k1,k2,k3⟩:=og hR.inv hoi hoo hb;refine⟨k1,?_⟩;by_cases h1:b<w.heap.size
   .by_cases h2:b∈fp
    .exact .inl h2
    .by_cases h3:S b
     .exact absurd (hs.sub _ h3) k1
     .exact absurd ⟨h1,h2,h3⟩ k2
   .exact .inr (by omega)
  .refine ⟨fun b hb=>hb.1,fun b hb=>?_,hfrm.sx,hfrm.Ad,hfrm.bi,hfrm.io⟩;by_cases h3:S b
   .exact hs.dW b h3
   .exact hfrm.md b ⟨hb.1,hb.2,h3⟩
 have fin:wk (fun s=>s.gh.length=lent.length/\∃rs0,qJ ki s rs0 outs/\qe m rs0=rs) s'->
   a'.defers=[]/\∃v,(results g a'.tmps).run P w'=.ok v w'/\∃v',Ending.returned v=Ending.returned v'/\Left S w fp rs outs (mR as vs) v' w':=by
  rintro⟨s1,hsub,hgl,rs0,hlv,rfl⟩;obtain⟨S1,Kn1,φ1,hs1,hR1⟩:=hsub S' _ w Kn' φ' _ _ a' w' hR;obtain⟨q1,v,q2,v',q3,q4⟩:=main s1 rs0 S1 Kn1 φ1 (hs.trans hs1) hR1 hgl hlv;exact⟨q1,v,q2,v',q3,q4.Ad m⟩
 cases o with|exit id=>exact hl.elim|normal=>exact fin hl|ret=>exact fin hl
theorem vA(hm:P.follows .mixedOrders=true){f np:Nat}{F:Fn}(hF:oG P bq f np=some F){as:List A}{rs:List R}{outs:List T}
  {m:List Bool} (h:TK P F m as rs outs):xm P f as rs outs:=
 CL hm hF ⟨h.1,fun _ _ _ _ _ _ _ _ _ hR=>⟨_,h.2,hR⟩⟩
end
section
variable{P:Program}{s s':St}{e:hZ}{h:bh}{n:Nat}{gh:List C}
theorem Sub.heap{h':bh}{n':Nat}(hh:∀id,ao h' id=ao h id\/ao h' id=none)(hn:n<=n'):Sub ⟨e,h,n,gh⟩ ⟨e,h',n',gh⟩:=by intro S K w0 Kn φ gv nt a w hR;exact⟨S,Kn,φ,fX.refl S w,hR.inv.ll fun id o ho=>(hh id).elim (fun q=>q▸ho) fun q=>by rw[q]at ho;simp at ho,hR.cR,hR.size,hR.defers,fun j hj=>hR.fP j (Nat.le_trans hn hj),hR.gh⟩
theorem Dx{id id2 sz sz2 eU:Nat}{slots:List ko}{rows:List (List D)}(ho:ao h id=some (.nst sz slots))(hs:slots[eU]?=some (.kU id2 rows.length))(h2:ao h id2=some (.aF sz2 rows)):
  Sub ⟨e,h,n,gh⟩ ⟨e,(id,some (.nst sz (slots.set eU (.bi rows))))::(id2,none)::h,n,gh⟩:=by
 intro S K w0 Kn φ gv nt a w hR;have e1:ao ((id,some (.nst sz (slots.set eU (.bi rows))))::(id2,none)::h)=aZ [(id,some (.nst sz (slots.set eU (.bi rows)))),(id2,none)] (ao h):=fz [(id,some (.nst sz (slots.set eU (.bi rows)))),(id2,none)] h;exact⟨S,Kn,φ,fX.refl S w,e1▸hR.inv.JT ho hs h2,hR.cR,hR.size,hR.defers,hR.fP,hR.gh⟩
theorem Kj{t id sz szo off len:Nat}{rows rows':List (List D)}(ht:bQ e t=some (.c (.bP sz id off len)))(ho:ao h id=some (.aF szo rows))(hr:(rows.drop off).take len=rows')(hle:off+len<=rows.length):
  Sub ⟨e,h,n,gh⟩ ⟨(t,.c (.bP sz n 0 len))::e,(id,none)::(n,some (.aF sz rows'))::h,n+1,gh⟩:=by
 intro S K w0 Kn φ gv nt a w hR;have hn:¬Kn n:=hR.fP n (am _);have hI:=hR.inv;obtain⟨hk0,h0⟩:=hI.gF _ _ ho;have hne:id≠n:=fun e=>hn (e▸hk0);have hv:=hR.cR t _ ht;generalize hval:a.tmps.getD t undef=val at hv;cases hv with
 |c hv=>
 have hkill:Inv S K w0 Kn φ (aZ [(id,none)] (ao h)) w:=hI.ll fun i o ho=>by
  rw[bD]at ho;split at ho
  .simp at ho
  .exact ho
 have hfree:∀i o,aZ [(id,none)] (ao h) i=some o->cn o=true->(φ id).bT∉gJ w φ (aZ [(id,none)] (ao h)) i:=by
  intro i o hi hown hm;have hi':=hi;rw[bD]at hi';split at hi'
  .simp at hi'
  .rename_i hne2;rw[fR rfl (hi.trans hi'.symm)]at hm;exact mj hI hi' ho hown rfl (fun e=>hne2 e.symm) hm (j9 id)
 generalize hphi:φ id=l at*;cases h0 with
 |@aF _ _ aF hsz0 hl hS hK hown hext hfit hrr hvis=>
 obtain⟨cap,addr,rfl,hszl,hk,hcap,haddr,hextc,hcl⟩:=hv.gW;rw[hphi]at haddr hextc hszl hcl;obtain rfl:sz=szo:=by rw[<-hl,hszl]
 rw[hl]at haddr hextc;subst hr;have hlen:((rows.drop off).take len).length=len:=by simp;omega
 have hcm:len*sz<=cap*sz:=Nat.mul_le_mul_right _ hcap;have hR2:cK S w sz (fun i=>aF[i]?) addr ((rows.drop off).take len):=hrr.w8 off len fun h=>haddr (by omega)
 have hname:=hkill.name hn ⟨l.bT,addr,sz,l.ext,cap⟩ (.aF sz ((rows.drop off).take len)) (fun _ j b hj hb hm=>hfree j b hj hb hm)
  (.aF hsz0 rfl hS hK hown hext (by rw[hlen];simp only;omega) hR2 (by rw[hlen];exact hcap))
 have hren:ry Kn φ (fun j=>Kn j\/j=n) (ext φ n ⟨l.bT,addr,sz,l.ext,cap⟩):=ga _ hn;refine⟨S,fun j=>Kn j\/j=n,ext φ n ⟨l.bT,addr,sz,l.ext,cap⟩,fX.refl S w,⟨?_,?_,hR.size,hR.defers,?_,?_⟩⟩
 .have:ao ((id,none)::(n,some (.aF sz ((rows.drop off).take len)))::h)=aZ [(n,some (.aF sz ((rows.drop off).take len)))] (aZ [(id,none)] (ao h)):=by have e1:ao ((id,none)::(n,some (Ob.aF sz ((rows.drop off).take len)))::h)=aZ ([(id,none)]++[(n,some (.aF sz ((rows.drop off).take len)))]) (ao h):=fz [(id,none),(n,some (.aF sz ((rows.drop off).take len)))] h;rw[e1,<-dL];exact mq (u:=[(id,none)]) fun p hp q hq=>by obtain rfl:=aq.1 hp;obtain rfl:=aq.1 hq;exact hne
  rw[this];exact hname
 .intro t' x hx;simp only[bQ]at hx;by_cases et:t=t'
  .subst et;simp at hx;subst hx;rw[hval];have e:ext φ n ⟨l.bT,addr,sz,l.ext,cap⟩ n=⟨l.bT,addr,sz,l.ext,cap⟩:=by simp[ext]
   have:=RC.bP (S:=S) (w:=w) (Kn:=fun j=>Kn j\/j=n) (φ:=ext φ n ⟨l.bT,addr,sz,l.ext,cap⟩) (id:=n) (off:=0) (len:=len) (cap:=cap) (addr:=addr)
    (.inr rfl) hcap (by rw[e];simp) (by rw[e];exact hextc) (by rw[e];simp)
   rw[e]at this;rw[hphi];exact .c this
  .have e':(t==t')=false:=by simpa using et
   rw[e',cond_false]at hx;exact(hR.cR t' x hx).mono (fX.refl _ _) hren
 .intro j hj hk;simp only at hj;rcases hk with hk|hk
  .exact hR.fP j (by simp only;omega) hk
  .omega
 .intro i c v hc hv;exact(hR.gh i c v hc hv).mono (fX.refl _ _) hren
theorem wk.sub{Q:St->Prop}(hs:Sub s s')(h:wk Q s'):wk Q s:=let⟨s1,h1,h2⟩:=h;⟨s1,hs.trans h1,h2⟩
theorem wk.mono{Q Q':St->Prop}(h:wk Q s)(hq:∀s,Q s->Q' s):wk Q' s:=let⟨s1,h1,h2⟩:=h;⟨s1,h1,hq _ h2⟩
theorem WO.mono{Q Q':St->Prop}(hq:∀s,Q s->Q' s):∀{ops:List l6}{s:St},WO P ops s Q->WO P ops s Q':=by
 intro ops;induction ops with
 |nil=>intro s h;exact wk.mono h hq
 |cons o r ih=>
  intro s h;obtain⟨s1,h1,h⟩:=h;refine⟨s1,h1,?_⟩;rcases h with⟨hw,call,v,u,au,n,hok,hev,h⟩|⟨hw,h⟩
  .exact .inl ⟨hw,call,v,u,au,n,hok,hev,ih h⟩
  .exact .inr ⟨hw,ih h⟩
theorem WO.sub{Q:St->Prop}{ops:List l6}(hs:Sub s s')(h:WO P ops s' Q):WO P ops s Q:=by cases ops with|nil=>exact wk.sub hs h|cons o r=>obtain⟨s1,h1,h⟩:=h;exact⟨s1,hs.trans h1,h⟩
theorem ut.mono{R R':St->Prop}{Q Q':ql->St->Prop}(hr:∀s,R s->R' s)(hq:∀o s,Q o s->Q' o s):∀o s,ut R Q o s->ut R' Q' o s:=by intro o s h;cases o with|normal=>exact hr _ h|exit id=>exact hq _ _ h|ret=>exact hq _ _ h
theorem vI.mono{id:Nat}{Q Q':ql->St->Prop}(hq:∀o s,Q o s->Q' o s):∀o s,vI id Q o s->vI id Q' o s:=by
 intro o s h;cases o with
 |normal=>exact hq _ _ h
 |ret=>exact hq _ _ h
 |exit id'=>
  simp only[vI]at h|-;split at h
  .rw [if_pos (by assumption)];exact hq _ _ h
  .rw [if_neg (by assumption)];exact hq _ _ h
theorem W.mono:∀{c:CC}{s:St}{Q Q':ql->St->Prop},(∀o s,Q o s->Q' o s)->W P c s Q->W P c s Q':=by intro c;induction c with|seq a b iha ihb=>intro s Q Q' hq h;exact iha (ut.mono (fun s h=>ihb hq h) hq) h|cond c a b iha ihb=>intro s Q Q' hq h;obtain⟨s1,h0,t,h1,h2,h3⟩:=h;exact⟨s1,h0,t,h1,fun ht=>iha hq (h2 ht),fun ht=>ihb hq (h3 ht)⟩|block id a ih=>intro s Q Q' hq h;exact ih (vI.mono hq) h|loop md a ih=>intro s Q Q' hq h;obtain⟨I,n,h1,h2⟩:=h;exact⟨I,n,h1,fun n s hi=>ih (ut.mono (fun s h=>h) hq) (h2 n s hi)⟩|skip=>intro s Q Q' hq h;exact wk.mono h fun s h=>hq _ _ h|exit id=>intro s Q Q' hq h;exact wk.mono h fun s h=>hq _ _ h|ret=>intro s Q Q' hq h;exact wk.mono h fun s h=>hq _ _ h|region ops md=>intro s Q Q' hq h;exact WO.mono (fun s h=>h.mono fun s h=>hq _ _ h) h|drawn ops dyn md=>intro s Q Q' hq h;obtain⟨s1,h0,calls,e,hh,tr,h1,h2,h3,h4⟩:=h;exact⟨s1,h0,calls,e,hh,tr,h1,h2,h3,h4.mono fun s h=>hq _ _ h⟩|fG=>intro s Q Q' hq h;exact h
theorem W.sub:∀{c:CC}{s s':St}{Q:ql->St->Prop},Sub s s'->W P c s' Q->W P c s Q:=by intro c;induction c with|seq a b iha ihb=>intro s s' Q hs h;exact iha hs h|cond c a b iha ihb=>intro s s' Q hs h;obtain⟨s1,h0,h1⟩:=h;exact⟨s1,hs.trans h0,h1⟩|block id a ih=>intro s s' Q hs h;exact ih hs h|loop md a ih=>intro s s' Q hs h;obtain⟨I,n,h1,h2⟩:=h;exact⟨I,n,wk.sub hs h1,h2⟩|skip=>intro s s' Q hs h;exact wk.sub hs h|exit id=>intro s s' Q hs h;exact wk.sub hs h|ret=>intro s s' Q hs h;exact wk.sub hs h|region ops md=>intro s s' Q hs h;exact WO.sub hs h|drawn ops dyn md=>intro s s' Q hs h;obtain⟨s1,h0,h1⟩:=h;exact⟨s1,hs.trans h0,h1⟩|fG=>intro s s' Q hs h;exact h
section
variable{Q:ql->St->Prop}
theorem vK(h:Q .normal s):W P .skip s Q:=wk.of h
theorem zJ(h:Q .ret s):W P .ret s Q:=wk.of h
theorem eX{a b:CC}(h:W P a s (ut (fun s'=>W P b s' Q) Q)):W P (.seq a b) s Q:=h
theorem J_{id:Nat}{a:CC}(h:W P a s (vI id Q)):W P (.block id a) s Q:=h
theorem xC{c:Operand}{a b:CC}{t:Bool}(hc:jB s.cR c=some (.c (.d (.lit (.bool t)))))(h1:t=true->W P a s Q)(h2:t=false->W P b s Q):W P (.cond c a b) s Q:=⟨s,Sub.refl s,t,hc,h1,h2⟩
theorem Dq{c:Operand}{a b:CC}{t:Bool}(hc:jB s.cR c=some (.c (.d (.lit (.bool t)))))(ht:t=true)(h1:W P a s Q):W P (.cond c a b) s Q:=xC hc (fun _=>h1) fun h=>by rw[ht]at h;cases h
theorem xn{c:Operand}{a b:CC}{t:Bool}(hc:jB s.cR c=some (.c (.d (.lit (.bool t)))))(ht:t=false)(h1:W P b s Q):W P (.cond c a b) s Q:=xC hc (fun h=>by rw[ht]at h;cases h) fun _=>h1
theorem HA{ops:List l6}{md:List Nat}(h:WO P ops s fun s'=>wk (Q .normal) s'):W P (.region ops md) s Q:=h
end
def ku{α β:Type}(f:α->Option (α⊕β)):Nat->α->Option β
 |0,_=>none
 |n+1,a=>match f a with|some (.inl a')=>ku f n a'|some (.inr b)=>some b|none=>none
theorem wL{α β:Type}{f:α->Option (α⊕β)}:∀{n m:Nat}{a:α}{b:β},n<=m->ku f n a=some b->ku f m a=some b:=by
 intro n;induction n with
 |zero=>intro m a b _ h;simp[ku]at h
 |succ n ih=>
  intro m a b hm h;cases m with
  |zero=>omega
  |succ m=>
   simp only[ku]at h|-;split at h
   .exact ih (by omega) h
   .exact h
   .simp at h
open Classical in
def gz{α β:Type}(f:α->Option (α⊕β))(a:α):Option β:=if h:∃n b,ku f n a=some b then some (iJ (eV h))else none
theorem o5{α β:Type}{f:α->Option (α⊕β)}{a:α}{b:β}:gz f a=some b<->∃n,ku f n a=some b:=by
 constructor
 .intro h;unfold gz at h;split at h
  .rename_i hx;refine⟨iJ hx,?_⟩;rw[eV (eV hx)];exact h
  .simp at h
 .rintro ⟨n,hn⟩;have hx:∃n b,ku f n a=some b:=⟨n,b,hn⟩
  unfold gz;rw[dif_pos hx];have h2:=eV (eV hx);have h3:=wL (Nat.le_max_left n (iJ hx)) hn;have h4:=wL (Nat.le_max_right n (iJ hx)) h2;rw[h3]at h4;rw[<-h4]
theorem Cp{α β:Type}(f:α->Option (α⊕β))(a:α):gz f a=match f a with
  |some (.inl a')=>gz f a'
  |some (.inr b)=>some b
  |none=>none:=by
 apply Option.ext;intro b;rw[o5];constructor
 .rintro ⟨n,hn⟩;cases n with
  |zero=>simp[ku]at hn
  |succ n=>
   simp only[ku]at hn;split at hn
   .exact o5.2 ⟨n,hn⟩
   .exact hn
   .simp at hn
 .intro h;split at h
  .rename_i a' ha;obtain⟨n,hn⟩:=o5.1 h;exact⟨n+1,by simp only[ku,ha];exact hn⟩
  .rename_i b' ha;exact⟨1,by simp only[ku,ha];exact h⟩
  .simp at h
theorem GF{α β:Type}{f:α->Option (α⊕β)}{a a':α}(h:f a=some (.inl a')):gz f a=gz f a':=by rw[Cp,h]
theorem GE{α β:Type}{f:α->Option (α⊕β)}{a:α}{b:β}(h:f a=some (.inr b)):gz f a=some b:=by rw[Cp,h]
def cX:Ev.Call:=fun _ _=>none
theorem mz:kD P cX:=fun _ _ _ _ h=>by simp[cX]at h
section
variable{Q:St->Prop}{r:List l6}{d:Nat}{k:K}{args:List Operand}{v:TV}{u:eg}{au:List Nat}{m g:Nat}{b c:Bool}
def I9:Option TV->Option (FuncId×List C)
 |some (.c (.d (.fn f caps)))=>some (f,caps.map C.d)
 |some (.c (.oL f caps))=>some (f,caps)
 |_=>none
def callee(h:bh)(jT:List Bool):List (Option TV)->Option (FuncId×List A)
 |f::vs=>
  match I9 f,dz vs with
  |some (f,caps),some vs=>match ge h (vs++caps.map TV.c) jT with|some (as,_,_)=>some (f,as)|none=>none
  |_,_=>none
 |[]=>none
def uK(h:bh)(nxt:Nat)(ro:Bool)(au:List Nat)(lent:List (C×List Nat×List Nat)):Option (List R×List T)->Bv
 |none=>none
 |some (rs,outs)=>
  if ro then
   if rs.all wg/\outs.all DT then
    match dX nxt lent outs with|none=>none|some (bu,m)=>some (sK (gN m rs).1,(gN m rs).2.1++bu,au++lent.flatMap (·.2.2),(gN m rs).2.2)
   else none
  else
   match dh h au au with
   |none=>none
   |some fu=>match dX nxt lent outs with|none=>none|some (bu,m)=>some (sK (gN m rs).1,(gN m rs).2.1++bu++fu,au++lent.flatMap (·.2.2),(gN m rs).2.2)
theorem Ai(call:Ev.Call)(ro:Bool)(jT:List Bool)(fv:Option TV)(vs:List (Option TV))(h:bh)(nxt:Nat):
  uM call ro jT fv vs h nxt=match I9 fv,dz vs with
   |some (f,caps),some vs=>match ge h (vs++caps.map TV.c) jT with|none=>none|some (as,au,lent)=>if eF h lent/\(lent.flatMap (fun(p:C×List Nat×List Nat)=>p.2.1)).Nodup/\(lent.flatMap (fun(p:C×List Nat×List Nat)=>p.2.1)).all (fun i=>!au.contains i)then uK h nxt ro au lent (call f as)else none
   |_,_=>none:=by
 have e1:∀(o:Option (List R×List T))(au:List Nat)(lent:List (C×List Nat×List Nat)),(match o with
    |none=>none
    |some (rs,outs)=>
     if ro then
      if rs.all wg/\outs.all DT then
       match dX nxt lent outs with
       |none=>none
       |some (bu,m)=>
        let(vs,u,k):=gN m rs
        some (sK vs,u++bu,au++lent.flatMap (fun(p:C×List Nat×List Nat)=>p.2.2),k)
      else none
     else
      match dh h au au with
      |none=>none
      |some fu=>
       match dX nxt lent outs with
       |none=>none
       |some (bu,m)=>
        let(vs,u,k):=gN m rs
        some (sK vs,u++bu++fu,au++lent.flatMap (fun(p:C×List Nat×List Nat)=>p.2.2),k))=uK h nxt ro au lent o:=by
  intro o au lent;cases o with|none=>rfl|some p=>rfl
 have e2:(match fv with|some (.c (.d (.fn f caps)))=>some (f,caps.map C.d)|some (.c (.oL f caps))=>some (f,caps)|_=>none)=I9 fv:=rfl
 show(match(match fv with|some (.c (.d (.fn f caps)))=>some (f,caps.map C.d)|some (.c (.oL f caps))=>some (f,caps)|_=>none),dz vs with
   |some (f,caps),some vs=>
    match ge h (vs++caps.map TV.c) jT with
    |none=>none
    |some (as,au,lent)=>
     if eF h lent/\(lent.flatMap (fun(p:C×List Nat×List Nat)=>p.2.1)).Nodup/\(lent.flatMap (fun(p:C×List Nat×List Nat)=>p.2.1)).all (fun i=>!au.contains i)then
      (match call f as with
    |none=>none
    |some (rs,outs)=>
     if ro then
      if rs.all wg/\outs.all DT then
       match dX nxt lent outs with
       |none=>none
       |some (bu,m)=>
        let(vs,u,k):=gN m rs
        some (sK vs,u++bu,au++lent.flatMap (fun(p:C×List Nat×List Nat)=>p.2.2),k)
      else none
     else
      match dh h au au with
      |none=>none
      |some fu=>
       match dX nxt lent outs with
       |none=>none
       |some (bu,m)=>
        let(vs,u,k):=gN m rs
        some (sK vs,u++bu++fu,au++lent.flatMap (fun(p:C×List Nat×List Nat)=>p.2.2),k))else none
   |_,_=>none)=_
 simp only[e1,e2]
open Classical in
def only(f:FuncId)(as:List A)(rs:List R)(outs:List T):Ev.Call:=fun f' as'=>if f'=f/\as'=as then some (rs,outs)else none
theorem Fj{f:FuncId}{as:List A}{rs:List R}{outs:List T}(hg:xm P f as rs outs):kD P (only f as rs outs):=by
 intro f' as' rs' outs' h;unfold only at h;split at h
 .rename_i he;obtain⟨rfl,rfl⟩:=he;obtain⟨rfl,rfl⟩:=ad (aa h);exact hg
 .simp at h
theorem Au{f:FuncId}{as:List A}{rs:List R}{outs:List T}{ro:Bool}{jT:List Bool}{vs:List (Option TV)}{x:TV×eg×List Nat×Nat}
  (h2:callee h jT vs=some (f,as)) (h1:bX (fun _ _=>some (rs,outs)) (.call ro jT) vs h n=some x):bX (only f as rs outs) (.call ro jT) vs h n=some x:=by
 cases vs with
 |nil=>simp[callee]at h2
 |cons fv vs=>
  simp only[callee]at h2;simp only[bX,Ai]at h1|-;split at h2
  .rename_i f' caps vs' hf hvs;simp only[hf,hvs]at h1|-;split at h2
   .rename_i as' au lent hargs;obtain⟨rfl,rfl⟩:=ad (aa h2);rw[hargs]at h1|-;simp only[only,and_self,if_true]at h1|-;exact h1
   .simp at h2
  .simp at h2
theorem FL{fv:Option TV}{ovs:List (Option TV)}{vs:List TV}{f:FuncId}{caps:List C}{as:List A}{au:List Nat}{lent:List (C×List Nat×List Nat)}{ro:Bool}{jT:List Bool}{rs:List R}{outs:List T}{x:TV×eg×List Nat×Nat}
  (hf:I9 fv=some (f,caps)) (hv:dz ovs=some vs) (ha:ge h (vs++caps.map TV.c) jT=some (as,au,lent)) (hw:eF h lent=true)
  (hn:decide ((lent.flatMap (fun(p:C×List Nat×List Nat)=>p.2.1)).Nodup/\(lent.flatMap (fun(p:C×List Nat×List Nat)=>p.2.1)).all (fun i=>!au.contains i)=true)=true)
  (hl:uK h n ro au lent (some (rs,outs))=some x):
  callee h jT (fv::ovs)=some (f,as)/\bX (fun _ _=>some (rs,outs)) (.call ro jT) (fv::ovs) h n=some x:=by
 have hn':=of_decide_eq_true hn;constructor
 .simp only[callee,hf,hv,ha]
 .simp only[bX,Ai,hf,hv,ha];rw[if_pos ⟨hw,hn'⟩];exact hl
theorem SJ{au:List Nat}{lent:List (C×List Nat×List Nat)}{rs:List R}{outs:List T}{fu bu:eg}{m:Nat}(hz:dh h au au=some fu)(hb:dX n lent outs=some (bu,m)):
  uK h n false au lent (some (rs,outs))=some (sK (gN m rs).1,(gN m rs).2.1++bu++fu,au++lent.flatMap (·.2.2),(gN m rs).2.2):=by
 simp only[uK,hz,hb,aE,if_false]
theorem K2{au:List Nat}{lent:List (C×List Nat×List Nat)}{rs:List R}{outs:List T}{bu:eg}{m:Nat}(h1:rs.all wg=true)(h2:outs.all DT=true)(hb:dX n lent outs=some (bu,m)):
  uK h n true au lent (some (rs,outs))=some (sK (gN m rs).1,(gN m rs).2.1++bu,au++lent.flatMap (·.2.2),(gN m rs).2.2):=by
 simp only[uK,h1,h2,hb,and_self,if_true]
theorem LK{sz id len k:Nat}{rows:List (List D)}{rd:List Nat}{r:List (C×List Nat×List Nat)}{ts:List T}{w:eg}(hl:rows.length=len)(hr:dX n r ts=some (w,k)):
  dX n ((.bP sz id 0 len,[id],rd)::r) (.sl sz rows::ts)=some ((id,some (.aF sz rows))::w,k):=by
 simp only[dX,hl,hr,and_self,if_true]
theorem LJ{id k:Nat}{bi rd:List Nat}{r:List (C×List Nat×List Nat)}{ts' ts:List T}{w:eg}(hc:bi.contains id=true)(hr:dX (il n ts').2.2 r ts=some (w,k)):
  dX n ((.op id 0,bi,rd)::r) (.pt ts'::ts)=some ((id,some (.box (il n ts').1))::(il n ts').2.1++bi.map (fun i=>(i,none))++w,k):=by
 simp only[dX,hr,hc,if_true]
theorem Hm{c:C}{bi rd:List Nat}{k:Nat}{r:List (C×List Nat×List Nat)}{ts:List T}{w:eg}(hr:dX n r ts=some (w,k)):dX n ((c,bi,rd)::r) (.j6::ts)=some (bi.map (fun i=>(i,none))++w,k):=by simp[dX,hr]
theorem SU{c:C}{vs:List TV}{ms:List Bool}{as:List A}{au i:List Nat}{lent:List (C×List Nat×List Nat)}{x:D}(hv:eu h 300 c=some (x,i))(hm:ms.headD false=false)(hr:ge h vs ms.tail=some (as,au,lent)):
  ge h (.c c::vs) ms=some (.d x::as,i++au,lent):=by simp only[ge,hr,hm,hv,aE,if_false]
theorem Nx{cs:List C}{vs:List TV}{ms:List Bool}{as:List A}{au i:List Nat}{lent:List (C×List Nat×List Nat)}{xs:List D}(hv:dC h cs=some (xs,i))(hm:ms.headD false=false)(hr:ge h vs ms.tail=some (as,au,lent)):
  ge h (.agg cs::vs) ms=some (.agg xs::as,i++au,lent):=by simp only[ge,hr,hm,hv,aE,if_false]
theorem Pz{c:C}{vs:List TV}{ms:List Bool}{as:List A}{au bi rd:List Nat}{lent:List (C×List Nat×List Nat)}{t:T}(hv:dn h 300 c=some (t,bi,rd))(hm:ms.headD false=true)(hr:ge h vs ms.tail=some (as,au,lent)):
  ge h (.c c::vs) ms=some (.mt t::as,au,(c,bi,rd)::lent):=by simp only[ge,hr,hm,hv,if_true]
end
abbrev Tr:=List (List Nat×List Nat)
abbrev Oe:=hZ×bh×Tr
def JS(e:hZ)(d:Option Nat)(h:bh)(tr:Tr)(top:Nat)(r:Bv):Option Oe:=match r with|some (v,u,au,m)=>if m<=top then some (put e d v,u++h,tr++[(au,u.map (·.1))])else none|none=>none
def BM(call:Ev.Call)(aK i:Nat)(o:l6)(s:Oe):Option Oe:=match jy s.1 o.guard with|some true=>JS s.1 o.dst s.2.1 s.2.2 (aK+eL*(i+1)) (bX call o.k (o.args.map (jB s.1)) s.2.1 (aK+eL*i))|some false=>some (drop s.1 o.dst,s.2.1,s.2.2++[([],[])])|none=>none
def Ba(calls:Nat->Ev.Call)(aK:Nat):List l6->Nat->Oe->Option Oe
 |[],_,s=>some s
 |o::r,i,s=>(BM (calls i) aK i o s).bind (Ba calls aK r (i+1))
theorem Lj{calls:Nat->Ev.Call}{aK:Nat}:∀(l:List l6)(i:Nat)(e:hZ)(h:bh)(tr:Tr)(e':hZ)(h':bh)(tr':Tr),Ba calls aK l i (e,h,tr)=some (e',h',tr')->
  ∃t,jj calls aK l i e h=some (e',h',t)/\tr'=tr++t:=by
 intro l;induction l with
 |nil=>
  intro i e h tr e' h' tr' hh;obtain⟨rfl,rfl,rfl⟩:e=e'/\h=h'/\tr=tr':=by simpa[Ba]using hh
  exact⟨[],rfl,by simp⟩
 |cons o r ih=>
  intro i e h tr e' h' tr' hh;unfold Ba BM at hh;unfold jj;cases hw:jy e o.guard with
  |none=>simp[hw]at hh
  |some b=>
   cases b with
   |false=>simp only[hw,gK]at hh;obtain⟨t,h1,h2⟩:=ih _ _ _ _ _ _ _ hh;exact⟨([],[])::t,by simp[h1],by simp[h2]⟩
   |true=>
    simp only[hw]at hh;cases hv:bX (calls i) o.k (o.args.map (jB e)) h (aK+eL*i)with
    |none=>simp[hv,JS]at hh
    |some p=>
     obtain⟨v,u,au,m⟩:=p;simp only[hv,JS]at hh;by_cases hm:m<=aK+eL*(i+1)
     .rw [if_pos hm,gK]at hh;obtain⟨t,h1,h2⟩:=ih _ _ _ _ _ _ _ hh;exact⟨(au,u.map (·.1))::t,by simp[hm,h1],by simp[h2]⟩
     .rw [if_neg hm]at hh;simp at hh
theorem Er{calls calls':Nat->Ev.Call}{aK:Nat}:∀(l:List l6)(i:Nat)(s:Oe),(∀j,i<=j->calls j=calls' j)->Ba calls aK l i s=Ba calls' aK l i s:=by intro l;induction l with|nil=>intro i s _;rfl|cons o r ih=>intro i s hc;simp only[Ba,hc i (am _)];congr 1;funext s';exact ih (i+1) s' fun j hj=>hc j (by omega)
def WD(P:Program)(aK:Nat)(ops:List l6)(i:Nat)(e:hZ)(h:bh)(tr:Tr)(Q:hZ->bh->Tr->Prop):Prop:=∃calls,(∀j,kD P (calls j))/\∃e' h' tr',Ba calls aK ops i (e,h,tr)=some (e',h',tr')/\Q e' h' tr'
theorem J9{Q:ql->St->Prop}{ops:List l6}{dyn:List (Nat×Nat)}{md:List Nat}
  (hw:WD P n ops 0 e h [] fun e' h' tr=>yK tr dyn=true/\wk (Q .normal) ⟨e',h',n+eL*ops.length,gh⟩):W P (.drawn ops dyn md) ⟨e,h,n,gh⟩ Q:=by
 obtain⟨calls,hok,e',h',tr',h1,hd,hq⟩:=hw;obtain⟨t,h4,ht⟩:=Lj _ _ _ _ _ _ _ _ h1;obtain rfl:tr'=t:=by simpa using ht
 exact⟨_,Sub.refl _,calls,e',h',_,hok,h4,hd,hq⟩
section
variable{aK i:Nat}{ops r:List l6}{tr:Tr}{Q:hZ->bh->Tr->Prop}{d:Nat}{k:K}{args:List Operand}{v:TV}{u:eg}{au:List Nat}{m g:Nat}{b c:Bool}
theorem PH(hq:Q e h tr):WD P aK [] i e h tr Q:=⟨fun _=>cX,fun _=>mz,e,h,tr,rfl,hq⟩
theorem Jm{call:Ev.Call}{o:l6}{e1:hZ}{h1:bh}{tr1:Tr}(hok:kD P call)(hs:BM call aK i o (e,h,tr)=some (e1,h1,tr1))(hq:WD P aK r (i+1) e1 h1 tr1 Q):WD P aK (o::r) i e h tr Q:=by
 obtain⟨calls,hc,e',h',tr',h2,h3⟩:=hq;refine⟨fun j=>if j=i then call else calls j,fun j=>?_,e',h',tr',?_,h3⟩
 .show kD P (if j=i then call else calls j);split
  .exact hok
  .exact hc j
 .simp only[Ba,if_true,hs,gK];rw[Er (calls':=calls) r (i+1) _ fun j hj=>if_neg (by omega)];exact h2
theorem NZ{e:hZ}{dd:Option Nat}{top:Nat}(hm:m<=top):JS e dd h tr top (some (v,u,au,m))=some (put e dd v,u++h,tr++[(au,u.map (·.1))]):=by simp only[JS];rw[if_pos hm]
theorem Kv:aK+eL*i<=aK+eL*(i+1):=by simp only[eL];omega
end
inductive Fg:bh->bh->Prop
 |nil:Fg [] []
 |cons {p:Nat×Option Ob} {a b:bh} (h:Fg a b):Fg (p::a) (p::b)
 |skip {i:Nat} {a b:bh} (h:Fg a b):Fg a ((i,none)::b)
end
end Go.Ev
