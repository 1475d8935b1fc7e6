/- A region in any order, against the text's order. Conditions: operations whose names meet are ordered by the text; operations whose objects meet are ordered by the text, or the check at the run says that they do not meet. -/
import Derived.Test.YtingpmogbibghaaEvR
import Derived.Orders
import Derived.Scope
open Array renaming getD->gr,getD_eq_getD_getElem?->aX,getElem?_eq_getElem->fC,getElem?_eq_some_iff->aT,getElem?_toList->aQ
open Bool renaming and_eq_true->ae,false_eq_true->aG,or_eq_true->dE
open Classical renaming choose->fg,choose_spec->cW
open List renaming Sublist->bM,all_eq_true->aL,getD_eq_getElem?_getD->fr,getElem?_eq_getElem->ap,getElem?_eq_some_iff->af,getElem?_map->aC,length_cons->dk,length_eq_zero_iff->aV,map_cons->am,mem_append->ah,mem_append_left->az,mem_append_right->av,mem_cons->aE,mem_cons_of_mem->aq,mem_cons_self->cM,mem_flatten->ce,mem_of_getElem?->aS,mem_singleton->ao,nodup_append->bR
open List.Sublist renaming refl->bq
open Nat renaming add_assoc->bK,add_sub_cancel'->fQ,add_zero->ci,le_of_lt->Kj,le_refl->ai,lt_or_ge->LN,mul_le_mul_left->dY,zero_add->bl
open Option renaming bind_some->aR,map_eq_some_iff->aA
open Option.some renaming inj->aa,injEq->bp
open Prod.mk renaming inj->ad,injEq->bP
noncomputable section
namespace Go.Ev
def rL:Ev.K->Nat
 |.mv|.pick|.build _ _|.nilCheck|.rB _|.nA _|.lc _ _|.rh _ _|.un _|.oe _|.wn _|.mn|.AG _|.fieldAddr _ _|.field _ _ _
 |.indexAddr _ _|.jZ|.index _ _ _|.extract _|.len _|.lE _|.dL=>0
 |.load _ _|.lookup _ _ _ _ _|.slice _ _ _ _=>1
 |_=>2
theorem CJ{call:Call}{k:Ev.K}{vs:List (Option TV)}{H:aY}{nxt n:Nat}{v:TV}{u:de}{aj:List Nat}(hk:rL k<=1)(h:bD call k vs H nxt=some (v,u,aj,n)):u=[]:=by
 cases k<;>first
  |(simp[rL]at hk;done)
  |(unfold bD at h
    repeat' split at h
    all_goals first
     |(simp at h;done)
     |(simp only[bp,bP]at h;exact h.2.1.symm)
     |(simp_all;done))
theorem CI{call:Call}{k:Ev.K}{vs:List (Option TV)}{H:aY}{nxt n:Nat}{v:TV}{u:de}{aj:List Nat}(hk:rL k=0)(h:bD call k vs H nxt=some (v,u,aj,n)):aj=[]:=by
 cases k<;>first
  |(simp[rL]at hk;done)
  |(unfold bD at h
    repeat' split at h
    all_goals first
     |(simp at h;done)
     |(simp only[bp,bP]at h;exact h.2.2.1.symm)
     |(simp_all;done))
def j6(acc:List Nat):List Edge->Nat
 |[]=>0
 |e::r=>if Region.binds .any e then(j6 acc r)|||2^e.on|||acc.getD e.on 0 else j6 acc r
def DN:List Oper->List Nat->List Nat
 |[],acc=>acc
 |o::r,acc=>DN r (acc++[j6 acc o.after.toList])
def qH(m:List Nat):List Oper->Nat->Bool
 |[],_=>true
 |o::r,i=>m.getD i 0==j6 m o.after.toList&&o.after.toList.all (fun e=>!(Region.binds .any e)||decide (e.on<i))&&qH m r (i+1)
def cV(m:List Nat)(i j:Nat):Bool:=(m.getD j 0).testBit i
def JH:Operand->Option Nat
 |.tmp t=>some t
 |_=>none
def xT(o:iX):List Nat:=o.args.filterMap JH++(match o.guard with|some (t,_)=>[t]|none=>[])
def AQ(d:Option Nat)(l:List Nat):Bool:=match d with|some d=>l.contains d|none=>false
def rn(a b:iX):Bool:=AQ a.dst (xT b)||AQ b.dst (xT a)||AQ a.dst b.dst.toList
def nN(m:List Nat)(i:Nat)(a:iX):List iX->Nat->Bool
 |[],_=>true
 |b::r,j=>(cV m i j||!rn a b)&&nN m i a r (j+1)
def qp(m:List Nat):List iX->Nat->Bool
 |[],_=>true
 |a::r,i=>nN m i a r (i+1)&&qp m r (i+1)
def xm:Value->Value->Bool
 |.int k a,.int k' b=>decide (k=k')&&decide (a=b)
 |.bool a,.bool b=>decide (a=b)
 |.string a,.string b=>decide (a.toList=b.toList)
 |.float k a,.float k' b=>decide (k=k')&&decide (a=b)
 |.slice none 0 0,.slice none 0 0|.pointer none,.pointer none|.map none,.map none|.nilFunc,.nilFunc|.nilIface,.nilIface=>true
 |_,_=>false
def Tb:List Value->List Value->Bool
 |[],[]=>true
 |x::xs,y::ys=>xm x y&&Tb xs ys
 |_,_=>false
def sn:Ev.K->Ev.K->Bool
 |.lookup ka ks va z false,.mapEntry ka' ks' va' z'=>decide (ka=ka')&&decide (ks=ks')&&decide (va=va')&&Tb z z'
 |_,_=>false
def o9(m:List Nat)(i:Nat)(a:iX):List iX->Nat->List (Nat×Nat)
 |[],_=>[]
 |b::r,j=>if cV m i j||rL b.k==0||rL b.k+rL a.k<=2 then o9 m i a r (j+1)else(i,if sn a.k b.k then 1000+j else j)::o9 m i a r (j+1)
def mm(m:List Nat):List iX->Nat->List (Nat×Nat)
 |[],_=>[]
 |a::r,i=>(if rL a.k==0 then[]else o9 m i a r (i+1))++mm m r (i+1)
def pf(ops:List Oper)(cops:List iX)(ik:List Nat):CC:=
 let m:=DN ops []
 if qH m ops 0&&qp m cops 0&&decide (cops.length<=1000)then .drawn cops (mm m cops 0) ik else .dL
theorem rZ{acc:List Nat}{j:Nat}:∀{es:List Edge},(j6 acc es).testBit j=true->∃e∈es,Region.binds .any e=true/\(e.on=j\/(acc.getD e.on 0).testBit j=true):=by
 intro es;induction es with
 |nil=>intro h;simp[j6]at h
 |cons e r ih=>
  intro h;simp only[j6]at h;split at h
  .rename_i hb;simp only[Nat.testBit_or,dE,Nat.testBit_two_pow,decide_eq_true_eq]at h;rcases h with(h|h)|h
   .obtain ⟨e',he,h'⟩:=ih h;exact⟨e',aq _ he,h'⟩
   .exact ⟨e,cM,hb,.inl h⟩
   .exact ⟨e,cM,hb,.inr h⟩
  .obtain ⟨e',he,h'⟩:=ih h;exact⟨e',aq _ he,h'⟩
theorem xI{m:List Nat}:∀{l:List Oper}{i:Nat},qH m l i=true->∀(k:Nat)(o:Oper),l[k]?=some o->
  (∀j,cV m j (i+k)=true->∃e∈o.after,Region.binds .any e=true/\(e.on=j\/cV m j e.on=true))/\∀e∈o.after,Region.binds .any e=true->e.on<i+k:=by
 intro l;induction l with
 |nil=>intro i _ k o hk;simp at hk
 |cons o0 r ih=>
  intro i h k o hk;simp only[qH,ae]at h;obtain⟨⟨h1,h2⟩,h3⟩:=h;cases k with
  |zero=>
   obtain rfl:o0=o:=by simpa using hk
   refine⟨fun j hj=>?_,fun e he hb=>?_⟩
   .unfold cV at hj;rw[ci,(by simpa using h1:m.getD i 0=_)]at hj;obtain⟨e,he,h'⟩:=rZ hj;exact⟨e,by simpa using he,h'⟩
   .have:=aL.1 h2 e (by simpa using he);simpa[hb]using this
  |succ k=>have:=ih h3 k o (by simpa using hk);rw[show i+1+k=i+(k+1)by omega]at this;exact this
theorem rQ{m:List Nat}{i:Nat}{a:iX}:∀{l:List iX}{j:Nat},nN m i a l j=true->∀(k:Nat)(b:iX),l[k]?=some b->cV m i (j+k)=true\/rn a b=false:=by
 intro l;induction l with
 |nil=>intro j _ k b hk;simp at hk
 |cons b0 r ih=>
  intro j h k b hk;simp only[nN,ae]at h;cases k with
  |zero=>
   obtain rfl:b0=b:=by simpa using hk
   simpa using h.1
  |succ k=>have:=ih h.2 k b (by simpa using hk);rwa[show j+1+k=j+(k+1)by omega]at this
theorem xl{m:List Nat}:∀{l:List iX}{i:Nat},qp m l i=true->∀(k k':Nat)(a b:iX),l[k]?=some a->l[k']?=some b->k<k'->cV m (i+k) (i+k')=true\/rn a b=false:=by
 intro l;induction l with
 |nil=>intro i _ k k' a b hk;simp at hk
 |cons a0 r ih=>
  intro i h k k' a b hk hk' hlt;simp only[qp,ae]at h;cases k' with
  |zero=>omega
  |succ k'=>
   cases k with
   |zero=>
    obtain rfl:a0=a:=by simpa using hk
    have:=rQ h.1 k' b (by simpa using hk');rwa[show i+1+k'=i+(k'+1)by omega]at this
   |succ k=>have:=ih h.2 k k' a b (by simpa using hk) (by simpa using hk') (by omega);rwa[show i+1+k=i+(k+1)by omega,show i+1+k'=i+(k'+1)by omega]at this
theorem wh{m:List Nat}{i:Nat}{a:iX}:∀{l:List iX}{j:Nat},∀(k:Nat)(b:iX),l[k]?=some b->cV m i (j+k)=true\/rL b.k=0\/rL b.k+rL a.k<=2\/(i,if sn a.k b.k then 1000+(j+k)else j+k)∈o9 m i a l j:=by
 intro l;induction l with
 |nil=>intro j k b hk;simp at hk
 |cons b0 r ih=>
  intro j k b hk;cases k with
  |zero=>
   obtain rfl:b0=b:=by simpa using hk
   simp only[o9];split
   .rename_i h;simp only[dE,beq_iff_eq,decide_eq_true_eq]at h;rcases h with(h|h)|h
    .exact .inl h
    .exact .inr (.inl h)
    .exact .inr (.inr (.inl h))
   .exact .inr (.inr (.inr (cM ..)))
  |succ k=>
   have:=ih (j:=j+1) k b (by simpa using hk);rw[show j+1+k=j+(k+1)by omega]at this;rcases this with h|h|h|h
   .exact .inl h
   .exact .inr (.inl h)
   .exact .inr (.inr (.inl h))
   .refine .inr (.inr (.inr ?_));simp only[o9];split
    .exact h
    .exact aq _ h
theorem N_{m:List Nat}:∀{l:List iX}{i:Nat},∀(k k':Nat)(a b:iX),l[k]?=some a->l[k']?=some b->k<k'->
  cV m (i+k) (i+k')=true\/rL a.k=0\/rL b.k=0\/rL b.k+rL a.k<=2\/(i+k,if sn a.k b.k then 1000+(i+k')else i+k')∈mm m l i:=by
 intro l;induction l with
 |nil=>intro i k k' a b hk;simp at hk
 |cons a0 r ih=>
  intro i k k' a b hk hk' hlt;cases k' with
  |zero=>omega
  |succ k'=>
   cases k with
   |zero=>
    obtain rfl:a0=a:=by simpa using hk
    have:=wh (m:=m) (i:=i) (a:=a0) (j:=i+1) k' b (by simpa using hk');rw[show i+1+k'=i+(k'+1)by omega]at this;rcases this with h|h|h|h
    .exact .inl h
    .exact .inr (.inr (.inl h))
    .exact .inr (.inr (.inr (.inl h)))
    .by_cases e:rL a0.k=0
     .exact .inr (.inl e)
     .refine .inr (.inr (.inr (.inr ?_)));simp only[mm,beq_iff_eq,e,if_false];exact az _ h
   |succ k=>
    have:=ih (i:=i+1) k k' a b (by simpa using hk) (by simpa using hk') (by omega);rw[show i+1+k=i+(k+1)by omega,show i+1+k'=i+(k'+1)by omega]at this;rcases this with h|h|h|h|h
    .exact .inl h
    .exact .inr (.inl h)
    .exact .inr (.inr (.inl h))
    .exact .inr (.inr (.inr (.inl h)))
    .exact .inr (.inr (.inr (.inr (by simp only[mm];exact av _ h))))
theorem z9{a b:Value}(h:xm a b=true):a=b:=by
 unfold xm at h;split at h<;>first|rfl|(simp at h;done)|skip
 .obtain ⟨rfl,rfl⟩:_/\_:=by simpa using h
  rfl
 .obtain rfl:_=_:=by simpa using h
  rfl
 .rename_i x y;have:x.toList=y.toList:=by simpa using h
  rw[ByteArray.toList_eq,ByteArray.toList_eq]at this;obtain⟨⟨x⟩⟩:=x;obtain⟨⟨y⟩⟩:=y;have e:x=y:=by simpa using this
  rw[e]
 .obtain ⟨rfl,rfl⟩:_/\_:=by simpa using h
  rfl
theorem BS:∀{a b:List Value},Tb a b=true->a=b:=by
 intro a;induction a with
 |nil=>intro b h;cases b<;>simp_all[Tb]
 |cons x a ih=>intro b h;cases b with|nil=>simp[Tb]at h|cons y b=>simp only[Tb,ae]at h;rw[z9 h.1,ih h.2]
theorem CK:∀{ks:List Kd}{a b:List Value},pZ ks a=true->pZ ks b=true->∃r,QK ks a b=some r:=by
 intro ks;induction ks with
 |nil=>intro a b h1 h2;cases a<;>cases b<;>simp_all[pZ,QK]
 |cons k ks ih=>
  intro a b h1 h2;cases a with
  |nil=>simp[pZ]at h1
  |cons x a=>
   cases b with
   |nil=>simp[pZ]at h2
   |cons y b=>
    simp only[pZ,ae]at h1 h2;obtain⟨r,hr⟩:=ih h1.2 h2.2;have hk:∃q,uF k x y=some q:=by have ha:=h1.1;have hb:=h2.1;cases k<;>cases x<;>cases y<;>simp_all[AM,uF]
    obtain⟨q,hq⟩:=hk;exact⟨q&&r,by simp[QK,hq,hr]⟩
theorem AV{ks:List Kd}{key:List Value}{e:mx}:∀{es:List mx}{i:Nat},
  iK ks key (es++[e]) i=(match iK ks key es i with|some (some j)=>some (some j)|some none=>(match QK ks key e.1 with|some true=>some (some (i+es.length))|some false=>some none|none=>none)|none=>none):=by
 intro es;induction es with
 |nil=>intro i;simp only[List.nil_append,iK,List.length_nil,ci];cases QK ks key e.1 with|none=>rfl|some b=>cases b<;>rfl
 |cons x es ih=>
  intro i;simp only[List.cons_append,iK];cases QK ks key x.1 with
  |none=>rfl
  |some b=>cases b with|true=>rfl|false=>simp only[ih,dk];rw[show i+1+es.length=i+(es.length+1)by omega]
theorem Db{ks:List Kd}{key:List Value}:∀{es:List mx}{i j:Nat},iK ks key es i=some (some j)->j<i+es.length:=by
 intro es;induction es with
 |nil=>intro i j h;simp[iK]at h
 |cons x es ih=>
  intro i j h;simp only[iK]at h;split at h
  .obtain rfl:i=j:=by simpa using h
   simp
  .have:=ih h;simp only[dk];omega
  .simp at h
theorem vS{ka:Bool}{ks:List Kd}{k:TV}{key:List Value}(h:jz ka ks k=some key):pZ ks key=true:=by
 cases k with
 |agg cs=>
  simp only[jz]at h;split at h
  .exact (kZ h).2
  .simp at h
 |c x=>
  simp only[jz]at h;split at h
  .exact (kZ h).2
  .simp at h
 |fm xs=>simp[jz]at h
theorem z4{call1 call2:Call}{k1 k2:Ev.K}{vs1 vs2:List (Option TV)}{H H':aY}{nx1 nx2 n n2 id:Nat}{v v2:TV}{u u2:de}{ids2:List Nat}(hk:sn k1 k2=true)
  (h1:bD call1 k1 vs1 H nx1=some (v,u,[id],n)) (h2:bD call2 k2 vs2 H' nx2=some (v2,u2,ids2,n2)) (hs:ak H' id=ak H id) (ht:id∈u2.map (·.1)):
  bD call1 k1 vs1 (u2++H) nx1=some (v,u,[id],n):=by
 unfold sn at hk;split at hk
 .rename_i ka ks va z ka' ks' va' z';simp only[ae,decide_eq_true_eq]at hk;obtain⟨⟨⟨rfl,rfl⟩,rfl⟩,hz⟩:=hk;obtain rfl:=BS hz
  match vs1,vs2,h1,h2 with
  |[some (.c m1),some kt1],[some (.c m2),some kt2],h1,h2=>
   change (match LR ka ks va z false m1 kt1 H with|some (v,aj)=>some (v,([]:de),aj,nx1)|none=>none)=_ at h1;change (match iN ka ks va z m2 kt2 H' with|some (v,u,aj)=>some (v,u,aj,nx2)|none=>none)=_ at h2;show(match LR ka ks va z false m1 kt1 (u2++H)with|some (v,aj)=>some (v,([]:de),aj,nx1)|none=>none)=_
   have key:LR ka ks va z false m1 kt1 H=some (v,[id])->LR ka ks va z false m1 kt1 (u2++H)=some (v,[id]):=by
    clear h1;intro h1;split at h2
    .rename_i v3 u3 ids3 h3;obtain⟨_,rfl,_,_⟩:v3=v2/\u3=u2/\ids3=ids2/\nx2=n2:=by simpa using h2
     unfold iN at h3;split at h3
     .rename_i id2 key2 hkey2;have hok2:=vS hkey2;split at h3
      .rename_i ka2 va2 es dg hob;split at h3
       .rename_i hkv;obtain⟨rfl,rfl⟩:=hkv
        -- what is laid anew
        have hu:∃es' clock',u3=[(id2,some (.map ka2 va2 es' clock'))]/\(es'=es\/es'=es++[(key2,bO z,dg)]):=by
         split at h3
         .split at h3
          .obtain ⟨_,rfl,_⟩:=(by simpa using h3:_/\_/\_)
           exact⟨_,_,rfl,.inl rfl⟩
          .simp at h3
         .split at h3
          .obtain ⟨_,rfl,_⟩:=(by simpa using h3:_/\_/\_)
           exact⟨_,_,rfl,.inr rfl⟩
          .simp at h3
         .simp at h3
        obtain⟨es',clock',rfl,hes⟩:=hu;obtain rfl:id=id2:=by simpa using ht
        have hl2:ak ([(id,some (Ob.map ka2 va2 es' clock'))]++H) id=some (.map ka2 va2 es' clock'):=by rw[dZ,bk,if_pos rfl]
        rw[hs]at hob;unfold LR at h1|-;split at h1
        .split at h1
         .simp at h1
         .simp at h1
        .rename_i id1 key1 hkey1;have hok1:=vS hkey1
         have hid:id1=id:=by
          repeat' split at h1
          all_goals first
           |(simp at h1;done)
           |(obtain⟨_,h4⟩:=ad (aa h1);simpa using h4)
         subst hid;simp only[hob,hl2,and_self,if_true]at h1|-;rcases hes with rfl|rfl
         .exact h1
         .rw [AV];split at h1
          .rename_i j hf;have hlt:=Db hf;rw[bl]at hlt;simp only[hf];have e1:(es++[(key2,bO z,dg)]).getD j default=es.getD j default:=by simp only[fr];rw[List.getElem?_append_left hlt]
           rw[e1];exact h1
          .rename_i hf;simp only[hf];obtain⟨r,hr⟩:=CK hok1 hok2;simp only[hr];cases r with
           |false=>exact h1
           |true=>
            have e1:(es++[(key2,bO z,dg)]).getD (0+es.length) default=(key2,bO z,dg):=by simp[fr]
            simp only[e1];exact h1
          .simp at h1
        .simp at h1
       .simp at h3
      .simp at h3
     .simp at h3
    .simp at h2
   split at h1
   .rename_i v1 ids1 hl;obtain⟨rfl,rfl,rfl,rfl⟩:v1=v/\[]=u/\ids1=[id]/\nx1=n:=by simpa using h1
    rw[key hl]
   .simp at h1
 .simp at hk
abbrev yR:=Option (TV×de×List Nat×Nat)
def yn:yR->Option TV
 |some (v,_)=>some v
 |none=>some (.fm [])
def kM:yR->de
 |some (_,u,_)=>u
 |none=>[]
def Vs:yR->List Nat
 |some (_,_,r,_)=>r
 |none=>[]
def sf(call:Call)(aF i:Nat)(o:iX)(e:fN)(h:aY)(f:yR)(e':fN)(h':aY):Prop:=match f with|some (v,u,aj,n)=>gb e o.guard=some true/\bD call o.k (o.args.map (L9 e)) h (aF+e9*i)=some (v,u,aj,n)/\n<=aF+e9*(i+1)/\e'=put e o.dst v/\h'=u++h|none=>gb e o.guard=some false/\e'=drop e o.dst/\h'=h
theorem wj{calls:Nat->Call}{aF:Nat}:∀(l:List iX)(i:Nat)(e:fN)(h:aY)(e':fN)(h':aY)(tr:List (List Nat×List Nat)),ic calls aF l i e h=some (e',h',tr)->
  ∃(E:Nat->fN)(Hp:Nat->aY)(ef:Nat->yR),E 0=e/\Hp 0=h/\E l.length=e'/\Hp l.length=h'/\
   ∀(k:Nat)(o:iX),l[k]?=some o->sf (calls (i+k)) aF (i+k) o (E k) (Hp k) (ef k) (E (k+1)) (Hp (k+1))/\tr[k]?=some (Vs (ef k),(kM (ef k)).map (·.1)):=by
 intro l;induction l with
 |nil=>
  intro i e h e' h' tr hh;obtain⟨rfl,rfl,rfl⟩:e=e'/\h=h'/\[]=tr:=by simpa[ic]using hh
  exact⟨fun _=>e,fun _=>h,fun _=>none,rfl,rfl,rfl,rfl,fun k o hk=>by simp at hk⟩
 |cons o r ih=>
  intro i e h e' h' tr hh;simp only[ic]at hh
  have fin:∀(f:yR)(e1:fN)(h1:aY)(tr1:List (List Nat×List Nat)),ic calls aF r (i+1) e1 h1=some (e',h',tr1)->sf (calls i) aF i o e h f e1 h1->tr=(Vs f,(kM f).map (·.1))::tr1->
    ∃(E:Nat->fN)(Hp:Nat->aY)(ef:Nat->yR),E 0=e/\Hp 0=h/\E (o::r).length=e'/\Hp (o::r).length=h'/\
     ∀(k:Nat)(o':iX),(o::r)[k]?=some o'->sf (calls (i+k)) aF (i+k) o' (E k) (Hp k) (ef k) (E (k+1)) (Hp (k+1))/\tr[k]?=some (Vs (ef k),(kM (ef k)).map (·.1)):=by
   intro f e1 h1 tr1 hrun hs htr;obtain⟨E,Hp,ef,a1,a2,a3,a4,a5⟩:=ih (i+1) e1 h1 e' h' tr1 hrun;refine⟨fun k=>match k with|0=>e|k+1=>E k,fun k=>match k with|0=>h|k+1=>Hp k,fun k=>match k with|0=>f|k+1=>ef k,rfl,rfl,a3,a4,fun k o' hk=>?_⟩;subst htr;cases k with
   |zero=>
    obtain rfl:o=o':=by simpa using hk
    refine⟨?_,by simp⟩;simp only[ci,a1,a2];exact hs
   |succ k=>have:=a5 k o' (by simpa using hk);rw[show i+1+k=i+(k+1)by omega]at this;exact⟨this.1,by simpa using this.2⟩
  split at hh
  .rename_i hw;split at hh
   .rename_i v u aj n hev;split at hh
    .rename_i hn;split at hh
     .rename_i e1 h1 tr1 hrun;obtain⟨rfl,rfl,rfl⟩:e1=e'/\h1=h'/\_=tr:=by simpa using hh
      exact fin (some (v,u,aj,n)) _ _ tr1 hrun ⟨hw,hev,hn,rfl,rfl⟩ rfl
     .simp at hh
    .simp at hh
   .simp at hh
  .rename_i hw;split at hh
   .rename_i e1 h1 tr1 hrun;obtain⟨rfl,rfl,rfl⟩:e1=e'/\h1=h'/\_=tr:=by simpa using hh
    exact fin none _ _ tr1 hrun ⟨hw,rfl,rfl⟩ rfl
   .simp at hh
  .simp at hh
section
variable(dst:Nat->Option Nat)(ef:Nat->yR)(D:Nat->Bool)(e0:Nat->Option TV)(h0:Nat->Option Ob)
def jp:Nat->Nat->Option TV
 |0,t=>e0 t
 |k+1,t=>if D k=true/\dst k=some t then yn (ef k)else jp k t
def fL:Nat->Nat->Option Ob
 |0,i=>h0 i
 |k+1,i=>if D k=true then(match bv (kM (ef k)) i with|some o=>o|none=>fL k i)else fL k i
end
def nG(ef:Nat->yR)(k id:Nat):Prop:=id∈(kM (ef k)).map (·.1)
theorem mL{α:Type}{u:List (Nat×α)}{id:Nat}(h:id∉u.map (·.1)):bv u id=none:=by
 induction u with
 |nil=>rfl
 |cons p r ih=>
  obtain⟨i,x⟩:=p;simp only[am,aE,not_or]at h;have:(i==id)=false:=by simpa using fun e:i=id=>h.1 e.symm
  simp[bv,this,ih h.2]
theorem C6{α:Type}{u:List (Nat×α)}{id:Nat}(h:id∈u.map (·.1)):∃x,bv u id=some x:=by
 induction u with
 |nil=>simp at h
 |cons p r ih=>
  obtain⟨i,x⟩:=p;by_cases e:i=id
  .exact ⟨x,by simp[bv,e]⟩
  .have e':(i==id)=false:=by simpa using e
   simp only[am,aE]at h;rcases h with h|h
   .exact absurd h.symm e
   .simpa [bv,e']using ih h
section
variable{dst:Nat->Option Nat}{ef:Nat->yR}{D D':Nat->Bool}{E:Nat->fN}{Hp:Nat->aY}
theorem ug{n i t:Nat}(hstep:∀k,k<n->∀t,bv (E (k+1)) t=if dst k=some t then yn (ef k)else bv (E k) t)(hi:i<=n)
  (h1:∀k,k<i->dst k=some t->D k=true) (h2:∀k,i<=k->k<n->dst k=some t->D k=false):jp dst ef D (bv (E 0)) n t=bv (E i) t:=by
 have a:∀k,k<=i->jp dst ef D (bv (E 0)) k t=bv (E k) t:=by
  intro k;induction k with
  |zero=>intro _;rfl
  |succ k ih=>
   intro hk;rw[jp,hstep k (by omega)];by_cases hd:dst k=some t
   .rw [if_pos ⟨h1 k (by omega) hd,hd⟩,if_pos hd]
   .rw [if_neg (fun h=>hd h.2),if_neg hd,ih (by omega)]
 have b:∀d,i+d<=n->jp dst ef D (bv (E 0)) (i+d) t=bv (E i) t:=by intro d;induction d with|zero=>intro _;exact a i (ai _)|succ d ih=>intro hd;rw[<-bK,jp,if_neg,ih (by omega)];rintro⟨hD,hdst⟩;rw[h2 (i+d) (by omega) (by omega) hdst]at hD;simp at hD
 have:=b (n-i) (by omega);rwa[fQ hi]at this
theorem qX{n i id:Nat}(hstep:∀k,k<n->∀id,ak (Hp (k+1)) id=match bv (kM (ef k)) id with|some o=>o|none=>ak (Hp k) id)(hi:i<=n)
  (h1:∀k,k<i->nG ef k id->D k=true) (h2:∀k,i<=k->k<n->nG ef k id->D k=false):fL ef D (ak (Hp 0)) n id=ak (Hp i) id:=by
 have a:∀k,k<=i->fL ef D (ak (Hp 0)) k id=ak (Hp k) id:=by
  intro k;induction k with
  |zero=>intro _;rfl
  |succ k ih=>
   intro hk;rw[fL,hstep k (by omega),ih (by omega)];by_cases ht:nG ef k id
   .rw [if_pos (h1 k (by omega) ht)]
   .rw [mL ht];simp
 have b:∀d,i+d<=n->fL ef D (ak (Hp 0)) (i+d) id=ak (Hp i) id:=by
  intro d;induction d with
  |zero=>intro _;exact a i (ai _)
  |succ d ih=>
   intro hd;rw[<-bK,fL,ih (by omega)];by_cases ht:nG ef (i+d) id
   .rw [if_neg (by simp[h2 (i+d) (by omega) (by omega) ht])]
   .rw [mL ht];simp
 have:=b (n-i) (by omega);rwa[fQ hi]at this
theorem Di{e0:Nat->Option TV}{n i t:Nat}(hi:i<n)(hD:∀k,k≠i->D' k=D k)(hDi:D' i=true)(hDi0:D i=false)
  (h:dst i=some t->∀k,i<k->k<n->D k=true->dst k≠some t):
  jp dst ef D' e0 n t=if dst i=some t then yn (ef i)else jp dst ef D e0 n t:=by
 have a:∀k,k<=i->jp dst ef D' e0 k t=jp dst ef D e0 k t:=by intro k;induction k with|zero=>intro _;rfl|succ k ih=>intro hk;rw[jp,jp,hD k (by omega),ih (by omega)]
 have b:∀d,i+1+d<=n->jp dst ef D' e0 (i+1+d) t=if dst i=some t then yn (ef i)else jp dst ef D e0 (i+1+d) t:=by
  intro d;induction d with
  |zero=>intro _;show jp dst ef D' e0 (i+1) t=if dst i=some t then yn (ef i)else jp dst ef D e0 (i+1) t;rw[jp,jp,hDi,hDi0,a i (ai _)];simp
  |succ d ih=>
   intro hd;rw[<-bK,jp,jp,hD (i+1+d) (by omega),ih (by omega)];by_cases hc:D (i+1+d)=true/\dst (i+1+d)=some t
   .rw [if_pos hc,if_pos hc,if_neg];intro hdi;exact h hdi (i+1+d) (by omega) (by omega) hc.1 hc.2
   .rw [if_neg hc,if_neg hc]
 have:=b (n-(i+1)) (by omega);rwa[fQ (by omega)]at this
theorem AR{h0:Nat->Option Ob}{n i id:Nat}(hi:i<n)(hD:∀k,k≠i->D' k=D k)(hDi:D' i=true)(hDi0:D i=false)
  (h:nG ef i id->∀k,i<k->k<n->D k=true->¬nG ef k id):
  fL ef D' h0 n id=match bv (kM (ef i)) id with|some o=>o|none=>fL ef D h0 n id:=by
 have a:∀k,k<=i->fL ef D' h0 k id=fL ef D h0 k id:=by intro k;induction k with|zero=>intro _;rfl|succ k ih=>intro hk;rw[fL,fL,hD k (by omega),ih (by omega)]
 have b:∀d,i+1+d<=n->fL ef D' h0 (i+1+d) id=match bv (kM (ef i)) id with|some o=>o|none=>fL ef D h0 (i+1+d) id:=by
  intro d;induction d with
  |zero=>
   intro _;show fL ef D' h0 (i+1) id=match bv (kM (ef i)) id with|some o=>o|none=>fL ef D h0 (i+1) id
   rw[fL,fL,hDi,hDi0,a i (ai _)];simp
  |succ d ih=>
   intro hd;rw[<-bK,fL,fL,hD (i+1+d) (by omega),ih (by omega)];by_cases ht:nG ef i id
   .by_cases hc:D (i+1+d)=true
    .rw [mL (h ht (i+1+d) (by omega) (by omega) hc)];simp
    .rw [if_neg hc,if_neg hc]
   .rw [mL ht]
 have:=b (n-(i+1)) (by omega);rwa[fQ (by omega)]at this
end
section
variable{P:Program}{S K:Nat->Prop}{w0 w:World}{Kn:Nat->Prop}{φ:Nat->d_}{gv:List Value}{nt:Nat}{a:Act}{call:Call}{calls:Nat->Call}{QC:pT}{s s':St}
 {ops:Array Oper} {l:List iX} {m:List Nat} {aF:Nat} {E:Nat->fN} {Hp:Nat->aY} {ef:Nat->yR}
def lf(l:List iX)(k:Nat):Option Nat:=(l[k]?).bind (·.dst)
def F9(calls:Nat->Call)(l:List iX)(aF:Nat)(E:Nat->fN)(Hp:Nat->aY)(ef:Nat->yR)(i j:Nat):Prop:=∃c v u id n,l[i]?=some c/\ef i=some (v,u,[id],n)/\bD (calls i) c.k (c.args.map (L9 (E i))) (kM (ef j)++Hp i) (aF+e9*i)=some (v,u,[id],n)
structure wN(P:Program)(QC:pT)(nt:Nat)(calls:Nat->Call)(ops:Array Oper)(l:List iX)(m:List Nat)(aF:Nat)(E:Nat->fN)(Hp:Nat->aY)(ef:Nat->yR):Prop where
 len:l.length=ops.size
 J4:∀(k:Nat)(o:Oper),ops[k]?=some o->l[k]?=some (QL P QC nt ops o)
 jQ:∀(k:Nat)(c:iX),l[k]?=some c->sf (calls k) aF k c (E k) (Hp k) (ef k) (E (k+1)) (Hp (k+1))
 Je:∀(k:Nat)(o:Oper),ops[k]?=some o->(∀j,cV m j k=true->∃e∈o.after,Region.binds .any e=true/\(e.on=j\/cV m j e.on=true))/\∀e∈o.after,Region.binds .any e=true->e.on<k
 con:∀(i j:Nat)(a b:iX),l[i]?=some a->l[j]?=some b->i<j->cV m i j=true\/rn a b=false
 JC:∀(i j:Nat),i<j->j<ops.size->cV m i j=true\/((∀id,nG ef i id->id∉Vs (ef j)/\¬nG ef j id)/\((∀id,nG ef j id->id∉Vs (ef i))\/F9 calls l aF E Hp ef i j))
theorem sf.bS{i:Nat}{o:iX}{e e':fN}{h h':aY}{f:yR}(hs:sf call aF i o e h f e' h')(t:Nat):bv e' t=if o.dst=some t then yn f else bv e t:=by cases f with|none=>obtain⟨_,rfl,_⟩:=hs;rw[qZ];rfl|some p=>obtain⟨v,u,r,n⟩:=p;obtain⟨_,_,_,rfl,_⟩:=hs;rw[gT];rfl
theorem sf.heap{i:Nat}{o:iX}{e e':fN}{h h':aY}{f:yR}(hs:sf call aF i o e h f e' h')(id:Nat):ak h' id=match bv (kM f) id with|some o=>o|none=>ak h id:=by cases f with|none=>obtain⟨_,_,rfl⟩:=hs;rfl|some p=>obtain⟨v,u,r,n⟩:=p;obtain⟨_,_,_,_,rfl⟩:=hs;rw[dZ];rfl
theorem EB{e':fN}{h':aY}{e:fN}{h:aY}{tr:List (List Nat×List Nat)}(hl:l=ops.toList.map (QL P QC nt ops))(hord:qH m ops.toList 0=true)(hsch:qp m l 0=true)
  (hev:ic calls aF l 0 e h=some (e',h',tr)) (hdyn:rk tr (mm m l 0)=true) (hsmall:l.length<=1000):
  ∃E Hp ef,wN P QC nt calls ops l m aF E Hp ef/\E 0=e/\Hp 0=h/\E ops.size=e'/\Hp ops.size=h':=by
 obtain⟨E,Hp,ef,h1,h2,h3,h4,h5⟩:=wj l 0 e h e' h' tr hev;have hlen:l.length=ops.size:=by rw[hl];simp
 refine⟨E,Hp,ef,⟨hlen,?_,?_,?_,?_,?_⟩,h1,h2,hlen▸h3,hlen▸h4⟩
 .intro k o hk;rw[hl,aC,aQ,hk];rfl
 .intro k c hk;have:=(h5 k c hk).1;rwa[bl]at this
 .intro k o hk;have:=xI hord k o (by rw[aQ];exact hk);rwa[bl]at this
 .intro i j a b ha hb hij;have:=xl hsch i j a b ha hb hij;rwa[bl,bl]at this
 .intro i j hij hj;have hi':i<l.length:=by omega
  have hj':j<l.length:=by omega
  obtain⟨a,ha⟩:∃a,l[i]?=some a:=⟨_,ap hi'⟩
  obtain⟨b,hb⟩:∃b,l[j]?=some b:=⟨_,ap hj'⟩
  have sa:=h5 i a ha;have sb:=h5 j b hb;have noU:∀(k:Nat)(c:iX),sf (calls (0+k)) aF (0+k) c (E k) (Hp k) (ef k) (E (k+1)) (Hp (k+1))->rL c.k<=1->∀id,¬nG ef k id:=by intro k c hs hc id ht;unfold nG at ht;generalize hf:ef k=f at hs ht;cases f with|none=>simp[kM]at ht|some p=>obtain⟨v,u,r,n⟩:=p;obtain⟨_,hev1,_⟩:=hs;rw[show kM (some (v,u,r,n))=u from rfl,CJ hc hev1]at ht;simp at ht
  have noR:∀(k:Nat)(c:iX),sf (calls (0+k)) aF (0+k) c (E k) (Hp k) (ef k) (E (k+1)) (Hp (k+1))->rL c.k=0->∀id,id∉Vs (ef k):=by intro k c hs hc id ht;generalize hf:ef k=f at hs ht;cases f with|none=>simp[Vs]at ht|some p=>obtain⟨v,u,r,n⟩:=p;obtain⟨_,hev1,_⟩:=hs;rw[show Vs (some (v,u,r,n))=r from rfl,CI hc hev1]at ht;simp at ht
  rcases N_ (m:=m) (i:=0) i j a b ha hb hij with h|h|h|h|h
  .rw [bl,bl]at h;exact .inl h
  .exact .inr ⟨fun id ht=>absurd ht (noU i a sa.1 (by omega) id),.inl fun id _=>noR i a sa.1 h id⟩
  .exact .inr ⟨fun id _=>⟨noR j b sb.1 h id,noU j b sb.1 (by omega) id⟩,.inl fun id ht=>absurd ht (noU j b sb.1 (by omega) id)⟩
  .by_cases ea:rL a.k<=1
   .by_cases eb:rL b.k<=1
    .exact .inr ⟨fun id ht=>absurd ht (noU i a sa.1 ea id),.inl fun id ht=>absurd ht (noU j b sb.1 eb id)⟩
    .have:rL a.k=0:=by omega
     exact .inr ⟨fun id ht=>absurd ht (noU i a sa.1 (by omega) id),.inl fun id _=>noR i a sa.1 this id⟩
   .have:rL b.k=0:=by omega
    exact .inr ⟨fun id _=>⟨noR j b sb.1 this id,noU j b sb.1 (by omega) id⟩,.inl fun id ht=>absurd ht (noU j b sb.1 (by omega) id)⟩
  .rw [bl,bl]at h
   have hapart:Mh (Vs (ef i),(kM (ef i)).map (·.1)) (Vs (ef j),(kM (ef j)).map (·.1))=true->
     (∀id,nG ef i id->id∉Vs (ef j)/\¬nG ef j id)/\((∀id,nG ef j id->id∉Vs (ef i))\/F9 calls l aF E Hp ef i j):=by
    intro this;simp only[Mh,ae,aL,Bool.not_eq_true',List.contains_eq_mem,decide_eq_false_iff_not]at this;exact⟨fun id ht=>⟨(this.1 id ht).1,(this.1 id ht).2⟩,.inl fun id ht=>this.2 id ht⟩
   have hd:=aL.1 hdyn _ h;by_cases hso:sn a.k b.k=true
   .rw [if_pos hso]at hd;simp only at hd;rw[if_pos (by omega),show 1000+j-1000=j by omega]at hd;simp only[xe,sa.2,sb.2,dE]at hd;rcases hd with hd|hd
    .exact .inr (hapart hd)
    .right;split at hd
     .rename_i id hab;obtain⟨hR,hU⟩:=ad hab;refine⟨fun id ht=>by unfold nG at ht;rw[hU]at ht;simp at ht,?_⟩;by_cases htj:nG ef j id
      .right
       -- nobody between lays that object anew
       have hsame:∀k,i<=k->k<=j->ak (Hp k) id=ak (Hp i) id:=by
        intro k hk;induction k with
        |zero=>intro _;rw[show i=0 by omega]
        |succ k ih=>
         intro hkj;by_cases e:i=k+1
         .rw [e]
         .have hik:i<=k:=by omega
          rw[<-ih hik (by omega)];obtain⟨c,hc⟩:∃c,l[k]?=some c:=⟨_,ap (by omega)⟩
          have sk:=h5 k c hc;rw[sk.1.heap id]
          have hn:id∉(kM (ef k)).map (·.1):=by
           by_cases e2:k=i
           .subst e2;rw[hU];simp
           .have hm:(Vs (ef k),(kM (ef k)).map (·.1))∈(tr.take j).drop (i+1):=by refine aS (i:=k-(i+1)) ?_;rw[List.getElem?_drop,show i+1+(k-(i+1))=k by omega,List.getElem?_take,if_pos (by omega)];exact sk.2
            have:=aL.1 hd _ hm;simpa using this
          rw[mL hn]
       have sai:=sa.1;have sbj:=sb.1;generalize hfi:ef i=fi at sai hR hU;generalize hfj:ef j=fj at sbj;cases fi with
       |none=>simp[Vs]at hR
       |some p=>obtain⟨v,u,aj,n⟩:=p;obtain rfl:aj=[id]:=hR;cases fj with|none=>unfold nG at htj;rw[hfj]at htj;simp[kM]at htj|some q=>obtain⟨v2,u2,ids2,n2⟩:=q;unfold nG at htj;rw[hfj]at htj;obtain⟨_,hev1,_⟩:=sai;obtain⟨_,hev2,_⟩:=sbj;rw[bl]at hev1 hev2;exact⟨a,v,u,id,n,ha,hfi,by rw[hfj];exact z4 hso hev1 hev2 (hsame j (by omega) (ai _)) htj⟩
      .left;intro id2 ht2;rw[hR];simp only[ao];rintro rfl;exact htj ht2
     .simp at hd
   .rw [if_neg hso]at hd;simp only at hd;rw[if_neg (by omega)]at hd;simp only[sa.2,sb.2]at hd;exact .inr (hapart hd)
def rJ(ops:Array Oper)(D:Nat->Bool):Prop:=∀(k:Nat)(o:Oper),ops[k]?=some o->D k=true->∀e∈o.after,Region.binds .any e=true->D e.on=true
theorem wN.Dw(hp:wN P QC nt calls ops l m aF E Hp ef){D:Nat->Bool}(hc:rJ ops D){i:Nat}:∀(N j:Nat),j<N->j<ops.size->D j=true->cV m i j=true->D i=true:=by
 intro N;induction N with
 |zero=>intro j hj;omega
 |succ N ih=>
  intro j hj hjn hD hb;have ho:ops[j]?=some ops[j]:=fC hjn;obtain⟨h1,h2⟩:=hp.Je j _ ho;obtain⟨e,he,hbd,h⟩:=h1 i hb;have hDe:=hc j _ ho hD e he hbd;rcases h with h|h
  .rw [<-h];exact hDe
  .have:=h2 e he hbd;exact ih e.on (by omega) (by omega) hDe h
theorem wN.Ih(hp:wN P QC nt calls ops l m aF E Hp ef){D:Nat->Bool}(hc:rJ ops D){i j:Nat}{o:Oper}(hi:ops[i]?=some o)(hall:∀e∈o.after,Region.binds .any e=true->D e.on=true)
  (hb:cV m j i=true):D j=true:=by
 obtain⟨h1,h2⟩:=hp.Je i _ hi;obtain⟨e,he,hbd,h⟩:=h1 j hb;have hDe:=hall e he hbd;rcases h with h|h
 .rw [<-h];exact hDe
 .have:=h2 e he hbd;have hlt:i<ops.size:=(aT.1 hi).1;exact hp.Dw hc (e.on+1) e.on (by omega) (by omega) hDe h
theorem zE{d:Option Nat}{l:List Nat}{t:Nat}(hd:d=some t)(h:t∈l):AQ d l=true:=by subst hd;simpa[AQ]using h
theorem wN.Ic(hp:wN P QC nt calls ops l m aF E Hp ef){D:Nat->Bool}(hc:rJ ops D){i:Nat}{o:Oper}{c:iX}(hi:ops[i]?=some o)(hci:l[i]?=some c)(hD:D i=false)
  (hall:∀e∈o.after,Region.binds .any e=true->D e.on=true):
  (∀t∈xT c,jp (lf l) ef D (bv (E 0)) ops.size t=bv (E i) t)/\(∃G,(∀id∈Vs (ef i),fL ef D (ak (Hp 0)) ops.size id=ak G id)/\∀v u aj n,ef i=some (v,u,aj,n)->bD (calls i) c.k (c.args.map (L9 (E i))) G (aF+e9*i)=some (v,u,aj,n))/\
  (∀t,c.dst=some t->∀k,i<k->k<ops.size->D k=true->lf l k≠some t)/\(∀id,nG ef i id->∀k,i<k->k<ops.size->D k=true->¬nG ef k id):=by
 have hlt:i<ops.size:=(aT.1 hi).1;have get:∀k,k<ops.size->∃b,l[k]?=some b:=fun k hk=>⟨_,ap (by rw[hp.len];exact hk)⟩;have lat:∀k,i<k->k<ops.size->cV m i k=true->D k=false:=by intro k _ hk hb;cases hDk:D k with|false=>rfl|true=>rw[hp.Dw hc (k+1) k (by omega) hk hDk hb]at hD;simp at hD
 refine⟨fun t ht=>?_,?_,fun t ht k hik hk hDk hdk=>?_,fun id ht k hik hk hDk htk=>?_⟩
 .refine ug (fun k hk t=>?_) (Kj hlt) (fun k hk hd=>?_) (fun k hik hk hd=>?_)
  .obtain ⟨b,hb⟩:=get k hk;have:=(hp.jQ k b hb).bS t;rw[this];simp[lf,hb]
  .obtain ⟨b,hb⟩:=get k (by omega);have hbd:b.dst=some t:=by simpa[lf,hb]using hd
   rcases hp.con k i b c hb hci hk with h|h
   .exact hp.Ih hc hi hall h
   .simp [rn,zE hbd ht]at h
  .rcases LN i k with h1|h1
   .obtain ⟨b,hb⟩:=get k (by omega);have hbd:b.dst=some t:=by simpa[lf,hb]using hd
    rcases hp.con i k c b hci hb h1 with h|h
    .exact lat k h1 hk h
    .simp [rn,zE hbd ht]at h
   .obtain rfl:k=i:=by omega
    exact hD
 .have hev:∀v u aj n,ef i=some (v,u,aj,n)->bD (calls i) c.k (c.args.map (L9 (E i))) (Hp i) (aF+e9*i)=some (v,u,aj,n):=by intro v u aj n hf;have hs:=hp.jQ i c hci;rw[hf]at hs;exact hs.2.1
  by_cases hsoft:∃k,i<k/\k<ops.size/\D k=true/\∃id∈Vs (ef i),nG ef k id
  .--the N1 of those that came ahead
   obtain⟨k,⟨hik,hk,hDk,id0,hid0,ht0⟩,hmax⟩:∃k,(i<k/\k<ops.size/\D k=true/\∃id∈Vs (ef i),nG ef k id)/\∀k',k<k'->¬(i<k'/\k'<ops.size/\D k'=true/\∃id∈Vs (ef i),nG ef k' id):=by
    have:∀(N:Nat)(k:Nat),ops.size-k<=N->(i<k/\k<ops.size/\D k=true/\∃id∈Vs (ef i),nG ef k id)->
      ∃k,(i<k/\k<ops.size/\D k=true/\∃id∈Vs (ef i),nG ef k id)/\∀k',k<k'->¬(i<k'/\k'<ops.size/\D k'=true/\∃id∈Vs (ef i),nG ef k' id):=by
     intro N;induction N with
     |zero=>intro k h1 h2;omega
     |succ N ihN=>
      intro k h1 h2;by_cases hm:∃k',k<k'/\(i<k'/\k'<ops.size/\D k'=true/\∃id∈Vs (ef i),nG ef k' id)
      .obtain ⟨k',h3,h4⟩:=hm;exact ihN k' (by omega) h4
      .exact ⟨k,h2,fun k' h3 h4=>hm ⟨k',h3,h4⟩⟩
    obtain⟨k,h⟩:=hsoft;exact this _ k (ai _) h
   rcases hp.JC i k hik hk with h|⟨_,h|h⟩
   .rw [lat k hik hk h]at hDk;simp at hDk
   .exact absurd hid0 (h id0 ht0)
   .obtain ⟨c',v,u,id,n,hc',hf,hev'⟩:=h;obtain rfl:c=c':=aa (hci.symm.trans hc');have hR:Vs (ef i)=[id]:=by rw[hf];rfl
    refine⟨kM (ef k)++Hp i,fun id' hid'=>?_,fun v' u' ids' n' hf'=>?_⟩
    .obtain rfl:id'=id:=by rw[hR]at hid';simpa using hid'
     obtain rfl:id0=id':=by rw[hR]at hid0;simpa using hid0
     obtain⟨x,hx⟩:=C6 ht0
     have hlast:∀n',k<n'->n'<=ops.size->fL ef D (ak (Hp 0)) n' id0=x:=by
      intro n' hkn;induction n' with
      |zero=>omega
      |succ n' ihn=>
       intro hn';simp only[fL];by_cases e:n'=k
       .subst e;rw[hx];simp[hDk]
       .have hno:¬(D n'=true/\nG ef n' id0):=fun hh=>hmax n' (by omega) ⟨by omega,by omega,hh.1,id0,hid',hh.2⟩;have:=ihn (by omega) (by omega);cases hDn:D n' with|false=>simpa[hDn]using this|true=>have hnt:¬nG ef n' id0:=fun h=>hno ⟨hDn,h⟩;rw[mL hnt];simpa[hDn]using this
     rw[hlast ops.size hk (ai _),dZ];simp only[aU,hx]
    .rw [hf]at hf';obtain⟨rfl,rfl,rfl,rfl⟩:v=v'/\u=u'/\[id]=ids'/\n=n':=by simpa using hf'
     exact hev'
  .refine ⟨Hp i,fun id hid=>?_,hev⟩;refine qX (fun k hk id=>?_) (Kj hlt) (fun k hk hd=>?_) (fun k hik hk hd=>?_)
   .obtain ⟨b,hb⟩:=get k hk;exact(hp.jQ k b hb).heap id
   .rcases hp.JC k i hk hlt with h|h
    .exact hp.Ih hc hi hall h
    .exact absurd hid (h.1 id hd).1
   .rcases LN i k with h1|h1
    .cases hDk:D k with|false=>rfl|true=>exact absurd ⟨k,h1,hk,hDk,id,hid,hd⟩ hsoft
    .obtain rfl:k=i:=by omega
     exact hD
 .obtain ⟨b,hb⟩:=get k hk;have hbd:b.dst=some t:=by simpa[lf,hb]using hdk
  rcases hp.con i k c b hci hb hik with h|h
  .rw [lat k hik hk h]at hDk;simp at hDk
  .simp [rn,ht,hbd,AQ]at h
 .rcases hp.JC i k hik hk with h|h
  .rw [lat k hik hk h]at hDk;simp at hDk
  .exact absurd htk (h.1 id ht).2
def Be(D:Nat->Bool):Nat->Nat
 |0=>0
 |k+1=>Be D k+if D k=true then 0 else 1
theorem Fe{D D':Nat->Bool}{i:Nat}(hD:∀k,k≠i->D' k=D k)(h1:D' i=true)(h0:D i=false):∀n,i<n->Be D' n+1=Be D n:=by
 have a:∀k,k<=i->Be D' k=Be D k:=by intro k;induction k with|zero=>intro _;rfl|succ k ih=>intro hk;simp only[Be];rw[ih (by omega),hD k (by omega)]
 intro n;induction n with
 |zero=>intro h;omega
 |succ n ih=>
  intro h;simp only[Be];by_cases e:i=n
  .subst e;rw[a i (ai _),h1,h0];simp
  .have:=ih (by omega);rw[hD n (fun h=>e h.symm)];omega
theorem Dt{D:Nat->Bool}:∀{n:Nat},Be D n=0->∀k,k<n->D k=true:=by
 intro n;induction n with
 |zero=>intro _ k hk;omega
 |succ n ih=>
  intro h k hk;simp only[Be]at h;by_cases e:k=n
  .subst e;by_cases hd:D k=true
   .exact hd
   .simp [hd]at h
  .exact ih (by omega) k (by omega)
theorem Fd(n:Nat):Be (fun _=>false) n=n:=by induction n with|zero=>rfl|succ n ih=>simp[Be,ih]
theorem uG{e e':fN}{g:Option (Nat×Bool)}(h:∀t∈(match g with|some (t,_)=>[t]|none=>([]:List Nat)),bv e' t=bv e t):gb e' g=gb e g:=by cases g with|none=>rfl|some p=>obtain⟨t,b⟩:=p;simp only[gb,h t (by simp)]
theorem Ao{e e':fN}:∀{args:List Operand},(∀t∈args.filterMap JH,bv e' t=bv e t)->args.map (L9 e')=args.map (L9 e):=by intro args h;refine List.map_congr_left fun x hx=>?_;cases x with|tmp t=>exact h t (List.mem_filterMap.2 ⟨.tmp t,hx,rfl⟩)|_=>rfl
theorem Dk(hok:∀i,fB P (calls i))(hnt:nt<1000000000){Q:Exit->Act->World->Prop}(hp:wN P QC nt calls ops l m aF E Hp ef){S0:Nat->Prop}{ws:World}{gh:List C}
  (hQ:∀S' Kn' φ' a' w',WJ S0 ws S' w'->yP S' K w0 Kn' φ' gv nt ⟨E ops.size,Hp ops.size,aF+e9*l.length,gh⟩ a' w'->Q .normal a' w'):
  ∀(fuel:Nat)(listed:Array Bool)(S:Nat->Prop)(Kn:Nat->Prop)(φ:Nat->d_)(a:Act)(w:World)(ec:fN)(hc:aY),
  listed.size=ops.size->Be (fun k=>listed.getD k false) ops.size<=fuel->rJ ops (fun k=>listed.getD k false)->
  (∀t,bv ec t=jp (lf l) ef (fun k=>listed.getD k false) (bv (E 0)) ops.size t)->(∀id,ak hc id=fL ef (fun k=>listed.getD k false) (ak (Hp 0)) ops.size id)->
  Inv S K w0 Kn φ (ak hc) w->fN.ok S w Kn φ ec a.tmps->a.tmps.size=nt->a.defers=[]->
  (∀j,Kn j->j<aF\/∃i,i<ops.size/\listed.getD i false=true/\aF+e9*i<=j/\j<aF+e9*(i+1))->
  (∀(i:Nat)(c:C)(v:Value),gh[i]?=some c->gv[i]?=some v->RG S w Kn φ c v)->WJ S0 ws S w->wpAny P .any ops Q fuel listed a w:=by
 intro fuel;induction fuel with
 |zero=>
  intro listed S Kn φ a w ec hc hsz hcnt hcl henv hheap hI hE hts hdf hKn hgh hstp;have hall:=Dt (Nat.le_zero.1 hcnt);refine⟨?_,?_⟩
  .rw [List.eq_nil_iff_forall_not_mem];intro i hi;obtain⟨h0,o,ho,_⟩:=mem_ready.1 hi;have hlt:i<ops.size:=(aT.1 ho).1;have h2:=hall i hlt;have hlt2:i<listed.size:=by omega
   simp[gr,hlt2]at h0 h2;rw[h0]at h2;simp at h2
  .refine hQ S Kn φ a w hstp ⟨?_,?_,hts,hdf,?_,hgh⟩
   .have:ak hc=ak (Hp ops.size):=by funext id;rw[hheap];refine qX (fun k hk id=>?_) (ai _) (fun k hk _=>hall k hk) (fun k h1 h2 _=>by omega);exact(hp.jQ k _ (ap (by rw[hp.len];exact hk))).heap id
    rw[<-this];exact hI
   .intro t x hx;refine hE t x ?_;rw[henv,<-hx];refine ug (fun k hk t=>?_) (ai _) (fun k hk _=>hall k hk) (fun k h1 h2 _=>by omega);have hb:l[k]?=some _:=ap (by rw[hp.len];exact hk);have:=(hp.jQ k _ hb).bS t;rw[this];simp only[lf,hb,aR]
   .intro j hj hk;have hj':aF+e9*l.length<=j:=hj;rw[hp.len]at hj';rcases hKn j hk with h|⟨i,hi,_,h1,h2⟩
    .omega
    .have:e9*(i+1)<=e9*ops.size:=dY _ (by omega);omega
 |succ fuel ih=>
  intro listed S Kn φ a w ec hc hsz hcnt hcl henv hheap hI hE hts hdf hKn hgh hstp
  have fin:(∀k,k<ops.size->listed.getD k false=true)->Q .normal a w:=by
   intro hall;refine hQ S Kn φ a w hstp ⟨?_,?_,hts,hdf,?_,hgh⟩
   .have:ak hc=ak (Hp ops.size):=by funext id;rw[hheap];refine qX (fun k hk id=>?_) (ai _) (fun k hk _=>hall k hk) (fun k h1 h2 _=>by omega);exact(hp.jQ k _ (ap (by rw[hp.len];exact hk))).heap id
    rw[<-this];exact hI
   .intro t x hx;refine hE t x ?_;rw[henv,<-hx];refine ug (fun k hk t=>?_) (ai _) (fun k hk _=>hall k hk) (fun k h1 h2 _=>by omega);have hb:l[k]?=some _:=ap (by rw[hp.len];exact hk);have:=(hp.jQ k _ hb).bS t;rw[this];simp only[lf,hb,aR]
   .intro j hj hk;have hj':aF+e9*l.length<=j:=hj;rw[hp.len]at hj';rcases hKn j hk with h|⟨i,hi,_,h1,h2⟩
    .omega
    .have:e9*(i+1)<=e9*ops.size:=dY _ (by omega);omega
  refine⟨fun hnil=>fin ?_,fun i hi=>?_⟩
  .--nothing is ready:all is done
   intro k;induction k using Nat.strongRecOn with
   |_ k ihk=>
    intro hk;cases hd:listed.getD k false with
    |true=>rfl
    |false=>
     exfalso;have ho:ops[k]?=some ops[k]:=fC hk
     have:k∈Region.ready .any ops listed:=by
      rw[mem_ready];refine⟨?_,_,ho,fun e he hbk=>?_⟩
      .have hlt2:k<listed.size:=by omega
       simp[gr,hlt2]at hd|-;exact hd
      .have:=(hp.Je k _ ho).2 e he hbk;exact ihk e.on this (by omega)
     rw[hnil]at this;simp at this
  .obtain ⟨h0,o,ho,hall⟩:=mem_ready.1 hi;have hlt:i<ops.size:=(aT.1 ho).1;have hlt2:i<listed.size:=by omega
   have hD:listed.getD i false=false:=by simp[gr,hlt2]at h0|-;exact h0
   have hci:=hp.J4 i o ho;have hstep:=hp.jQ i _ hci;obtain⟨s1,s2,s3,s4⟩:=hp.Ic (D:=fun k=>listed.getD k false) hcl ho hci hD hall;have hD':∀k,k≠i->(listed.setIfInBounds i true).getD k false=listed.getD k false:=fun k hk=>getD_set_ne false (fun e=>hk e.symm);have hDi:(listed.setIfInBounds i true).getD i false=true:=by simp[hlt2]
   have hcnt':Be (fun k=>(listed.setIfInBounds i true).getD k false) ops.size<=fuel:=by have:=Fe (D:=fun k=>listed.getD k false) (D':=fun k=>(listed.setIfInBounds i true).getD k false) hD' hDi hD ops.size hlt;omega
   have hcl':rJ ops (fun k=>(listed.setIfInBounds i true).getD k false):=by
    intro k o' ho' hk e he hb;by_cases e1:k=i
    .subst e1;obtain rfl:o=o':=by have:=ho.symm.trans ho';exact aa this
     exact getD_set_true (hall e he hb)
    .have hk':listed.getD k false=true:=by rw[<-hD' k e1];exact hk
     exact getD_set_true (hcl k o' ho' hk' e he hb)
   have hdstD:lf l i=o.dst:=by simp[lf,hci,QL]
   have henv':∀t,jp (lf l) ef (fun k=>(listed.setIfInBounds i true).getD k false) (bv (E 0)) ops.size t=if o.dst=some t then yn (ef i)else bv ec t:=by intro t;rw[Di (D:=fun k=>listed.getD k false) hlt hD' hDi hD (fun hd=>s3 t (by rw[hdstD]at hd;exact hd)),hdstD,henv t]
   have hheap':∀id,fL ef (fun k=>(listed.setIfInBounds i true).getD k false) (ak (Hp 0)) ops.size id=match bv (kM (ef i)) id with|some o=>o|none=>ak hc id:=by
    intro id;rw[AR (D:=fun k=>listed.getD k false) hlt hD' hDi hD (fun ht=>s4 id ht),hheap id]
    all_goals(cases bv (kM (ef i)) id<;>rfl)
   have hwe:gb ec (QL P QC nt ops o).guard=gb (E i) (QL P QC nt ops o).guard:=by refine uG fun t ht=>?_;rw[henv t];exact s1 t (av _ ht)
   have hae:(QL P QC nt ops o).args.map (L9 ec)=(QL P QC nt ops o).args.map (L9 (E i)):=by refine Ao fun t ht=>?_;rw[henv t];exact s1 t (az _ ht)
   simp only[wpOp,ho];generalize hfe:ef i=f at hstep henv' hheap' s2;cases f with
   |none=>
    obtain⟨hw,_,_⟩:=hstep;rw[<-hwe]at hw;have hwant:=kj hE (by rw[hts];exact hnt) hw;rw[if_neg (by simp[hwant])];refine ih _ S Kn φ _ w (drop ec o.dst) hc (by simp[hsz]) hcnt' hcl' ?_ ?_ hI (fN.zJ hE) (by rw[nR];exact hts) (by rw[MT];exact hdf) ?_ hgh hstp
    .intro t;rw[henv' t,qZ];rfl
    .intro id;rw[hheap' id];rfl
    .intro j hj;rcases hKn j hj with h|⟨k,hk,h1,h2⟩
     .exact .inl h
     .exact .inr ⟨k,hk,getD_set_true h1,h2⟩
   |some p=>
    obtain⟨v,u,aj,n⟩:=p;obtain⟨hw,hev,hn,_,_⟩:=hstep;rw[<-hwe]at hw;obtain⟨G,g1,g2⟩:=s2;have hev3:=g2 v u aj n rfl;rw[<-hae]at hev3;have hev2:=A3 (H':=hc) hev3 (fun id hid=>by rw[hheap id];exact g1 id hid);have hwant:=kj hE (by rw[hts];exact hnt) hw;rw[if_pos hwant];left
    have hdst:∀x,o.dst=some x->x<a.tmps.size:=by
     intro x hx;rw[hts];rcases LN x nt with h1|h1
     .exact h1
     .exfalso;have:(QL P QC nt ops o).k=.dL:=by simp only[QL,hx];rw[if_neg (by simp;omega)]
      rw[this,WA]at hev2;simp at hev2
    have hk:Ns P QC o.op=((QL P QC nt ops o).k,(QL P QC nt ops o).args):=by
     have:(QL P QC nt ops o).k=(Ns P QC o.op).1:=by simp only[QL];rw[if_pos];cases hd:o.dst with|none=>rfl|some d=>have:=hdst d hd;rw[hts]at this;simpa using this
     rw[this];rfl
    have hfr:∀j,aF+e9*i<=j->j<n->¬Kn j:=by
     intro j h1 h2 hk;rcases hKn j hk with h|⟨k,hkn,h3,h4,h5⟩
     .omega
     .have hne:k≠i:=by rintro rfl;rw[h3]at hD;simp at hD
      rcases LN k i with h6|h6
      .have:e9*(k+1)<=e9*i:=dY _ (by omega);omega
      .have:e9*(i+1)<=e9*k:=dY _ (by omega);omega
    have hgo:=vr (hok i) hk hI hE hfr hev2;refine hgo _ _ fun val w' hDn=>?_;obtain⟨hle,S',φ',h1,h2,h3,h4⟩:=hDn;refine ih _ S' (jI Kn (aF+e9*i) n) φ' _ w' (put ec o.dst v) (u++hc) (by simp[hsz]) hcnt' hcl' ?_ ?_ ?_ (fN.OT hE h1 h2 hdst h3) (by rw[nR];exact hts) (by rw[MT];exact hdf) ?_ ?_ (hstp.trans h1)
    .intro t;rw[henv' t,gT];rfl
    .intro id;rw[hheap' id,dZ];rfl
    .rw [dZ];exact h4
    .intro j hj;rcases hj with hj|hj
     .rcases hKn j hj with h|⟨k,hk,h1,h2⟩
      .exact .inl h
      .exact .inr ⟨k,hk,getD_set_true h1,h2⟩
     .exact .inr ⟨i,hlt,hDi,hj.1,by omega⟩
    .intro i c v hc hv;exact(hgh i c v hc hv).mono h1 h2
theorem wl(hok:∀i,fB P (calls i))(hnt:nt<1000000000){Q:Exit->Act->World->Prop}{e':fN}{h':aY}{tr:List (List Nat×List Nat)}(hl:l=ops.toList.map (QL P QC nt ops))
  (hord:qH m ops.toList 0=true) (hsch:qp m l 0=true) (hev:ic calls s.next l 0 s.bS s.heap=some (e',h',tr)) (hdyn:rk tr (mm m l 0)=true) (hsmall:l.length<=1000)
  (hR:yP S K w0 Kn φ gv nt s a w)
  (hQ:∀S' Kn' φ' a' w',WJ S w S' w'->yP S' K w0 Kn' φ' gv nt ⟨e',h',s.next+e9*l.length,s.gh⟩ a' w'->Q .normal a' w'):
  wpAny P .any ops Q ops.size (Array.replicate ops.size false) a {w with drawn:=w.drawn+1}:=by
 obtain⟨E,Hp,ef,hp,h1,h2,h3,h4⟩:=EB hl hord hsch hev hdyn hsmall;have hd:∀k,(Array.replicate ops.size false).getD k false=false:=by intro k;simp only[aX,Array.getElem?_replicate];split<;>rfl
 have c9:WJ S w S {w with drawn:=w.drawn+1}:=WJ.mX S w _;refine Dk (gv:=gv) (K:=K) (w0:=w0) hok hnt hp (S0:=S) (ws:=w) (gh:=s.gh) ?_ ops.size _ S Kn φ a _ s.bS s.heap (by simp) ?_ ?_ ?_ ?_ (hR.inv.mX _ (Nat.le_succ _)) ?_ hR.size hR.defers ?_ ?_ c9
 .rw [h3,h4];exact hQ
 .simp only[hd,Fd];exact ai _
 .intro k o _ hk;simp only[hd]at hk;simp at hk
 .intro t;simp only[hd];rw[h1];have:∀k,jp (lf l) ef (fun _=>false) (bv s.bS) k t=bv s.bS t:=by intro k;induction k with|zero=>rfl|succ k ih=>simp[jp,ih]
  exact(this _).symm
 .intro id;simp only[hd];rw[h2];have:∀k,fL ef (fun _=>false) (ak s.heap) k id=ak s.heap id:=by intro k;induction k with|zero=>rfl|succ k ih=>simp[fL,ih]
  exact(this _).symm
 .intro t x hx;exact(hR.bS t x hx).mono c9 (mS.refl _ _)
 .intro j hj;rcases LN j s.next with h|h
  .exact .inl h
  .exact absurd hj (hR.dP j h)
 .intro i c v hc hv;exact(hR.gh i c v hc hv).mono c9 (mS.refl _ _)
end
def kf(P:Program)(QC:pT)(nt:Nat):Code->CC
 |.skip=>.skip
 |.region _ ops draw=>if draw then pf ops.toList (ops.toList.map (QL P QC nt ops)) []else .region (ops.toList.map (QL P QC nt ops)) []
 |.seq a b=>.seq (kf P QC nt a) (kf P QC nt b)
 |.cond c a b=>.cond c (kf P QC nt a) (kf P QC nt b)
 |.block id a=>.block id (kf P QC nt a)
 |.loop a=>.loop [] (kf P QC nt a)
 |.scope a=>kf P QC nt a
 |.label _=>.skip
 |.exit id=>.exit id
 |.ret=>.ret
 |_=>.dL
def Gz:kP->Exit
 |.normal=>.normal
 |.exit id=>.exit id
 |.ret=>.ret
def Sub(s s1:St):Prop:=∀(S K:Nat->Prop)(w0:World)(Kn:Nat->Prop)(φ:Nat->d_)(gv:List Value)(nt:Nat)(a:Act)(w:World),
 yP S K w0 Kn φ gv nt s a w->∃S' Kn' φ',WJ S w S' w/\yP S' K w0 Kn' φ' gv nt s1 a w
theorem Sub.refl(s:St):Sub s s:=fun S _ _ Kn φ _ _ _ w h=>⟨S,Kn,φ,WJ.refl S w,h⟩
theorem Sub.trans{s s1 s2:St}(a:Sub s s1)(b:Sub s1 s2):Sub s s2:=fun S K w0 Kn φ gv nt ac w h=>
 let⟨S1,Kn1,φ1,h1,h2⟩:=a S K w0 Kn φ gv nt ac w h;let⟨S2,Kn2,φ2,h3,h4⟩:=b S1 K w0 Kn1 φ1 gv nt ac w h2
 ⟨S2,Kn2,φ2,h1.trans h3,h4⟩
def wk(Q:St->Prop)(s:St):Prop:=∃s1,Sub s s1/\Q s1
theorem wk.of{Q:St->Prop}{s:St}(h:Q s):wk Q s:=⟨s,Sub.refl s,h⟩
def WO(P:Program):List iX->St->(St->Prop)->Prop
 |[],s,Q=>wk Q s
 |o::r,s,Q=>∃s1,Sub s s1/\
  ((gb s1.bS o.guard=some true/\∃call v u aj n,fB P call/\bD call o.k (o.args.map (L9 s1.bS)) s1.heap s1.next=some (v,u,aj,n)/\WO P r ⟨put s1.bS o.dst v,u++s1.heap,n,s1.gh⟩ Q)\/
   (gb s1.bS o.guard=some false/\WO P r ⟨drop s1.bS o.dst,s1.heap,s1.next,s1.gh⟩ Q))
def nd(R:St->Prop)(Q:kP->St->Prop):kP->St->Prop
 |.normal,s=>R s
 |.exit id,s=>Q (.exit id) s
 |.ret,s=>Q .ret s
def ov(id:Nat)(Q:kP->St->Prop):kP->St->Prop
 |.exit id',s=>if id'=id then Q .normal s else Q (.exit id') s
 |.normal,s=>Q .normal s
 |.ret,s=>Q .ret s
def W(P:Program):CC->St->(kP->St->Prop)->Prop
 |.skip,s,Q=>wk (Q .normal) s
 |.region ops _,s,Q=>WO P ops s fun s'=>wk (Q .normal) s'
 |.drawn ops dyn _,s,Q=>∃s1,Sub s s1/\∃calls e h tr,(∀i,fB P (calls i))/\ic calls s1.next ops 0 s1.bS s1.heap=some (e,h,tr)/\rk tr dyn=true/\
   wk (Q .normal) ⟨e,h,s1.next+e9*ops.length,s1.gh⟩
 |.seq a b,s,Q=>W P a s (nd (fun s'=>W P b s' Q) Q)
 |.cond c a b,s0,Q=>∃s,Sub s0 s/\∃t,L9 s.bS c=some (.c (.d (.lit (.bool t))))/\(t=true->W P a s Q)/\(t=false->W P b s Q)
 |.block id a,s,Q=>W P a s (ov id Q)
 |.loop _ a,s,Q=>∃(I:Nat->St->Prop)(n:Nat),wk (I n) s/\∀n s,I n s->W P a s (nd (fun s'=>∃m,m<n/\wk (I m) s') Q)
 |.exit id,s,Q=>wk (Q (.exit id)) s
 |.ret,s,Q=>wk (Q .ret) s
 |.dL,_,_=>False
section
variable{P:Program}{S K:Nat->Prop}{w0 w:World}{Kn:Nat->Prop}{φ:Nat->d_}{gv:List Value}{nt:Nat}{a:Act}{QC:pT}{s s':St}
theorem By{all:Array Oper}{R:Exit->Act->World->Prop}(hnt:nt<1000000000){Q:St->Prop}:∀(l:List Nat)(os:List Oper)(s:St)(S:Nat->Prop)(Kn:Nat->Prop)(φ:Nat->d_)(a:Act)(w:World),
  (∀(i j:Nat),l[i]?=some j->all[j]?=os[i]?)->l.length=os.length->WO P (os.map (QL P QC nt all)) s Q->yP S K w0 Kn φ gv nt s a w->
  (∀S' Kn' φ' s' a' w',Q s'->WJ S w S' w'->yP S' K w0 Kn' φ' gv nt s' a' w'->R .normal a' w')->wpOps P all R l a w:=by
 intro l;induction l with
 |nil=>intro os s S Kn φ a w _ hl h hR hQ;obtain rfl:os=[]:=aV.1 hl.symm;obtain⟨s1,h1,h2⟩:=h;obtain⟨S1,Kn1,φ1,h3,h4⟩:=h1 S K w0 Kn φ gv nt a w hR;exact hQ S1 Kn1 φ1 s1 a w h2 h3 h4
 |cons i l ih=>
  intro os s S Kn φ a w hi hl h hR hQ;cases os with
  |nil=>simp at hl
  |cons o os=>
   have ho:all[i]?=some o:=by simpa using hi 0 i rfl
   simp only[am,WO]at h;obtain⟨s1,hsub,h⟩:=h;obtain⟨S1,Kn1,φ1,hs1,hR1⟩:=hsub S K w0 Kn φ gv nt a w hR;simp only[wpOps,ho];rcases h with⟨hw,call,v,u,aj,n,hok,hev,h⟩|⟨hw,h⟩
   .have hwant:=kj hR1.bS (by rw[hR1.size];exact hnt) hw;rw[if_pos hwant];left
    have hdst:∀x,o.dst=some x->x<a.tmps.size:=by
     intro x hx;rw[hR1.size];rcases LN x nt with h1|h1
     .exact h1
     .exfalso;have:(QL P QC nt all o).k=.dL:=by simp only[QL,hx];rw[if_neg (by simp;omega)]
      rw[this,WA]at hev;simp at hev
    have hk:Ns P QC o.op=((QL P QC nt all o).k,(QL P QC nt all o).args):=by
     have:(QL P QC nt all o).k=(Ns P QC o.op).1:=by simp only[QL];rw[if_pos];cases hd:o.dst with|none=>rfl|some d=>have:=hdst d hd;rw[hR1.size]at this;simpa using this
     rw[this];rfl
    have hgo:=vr hok hk hR1.inv hR1.bS (fun j hj _=>hR1.dP j hj) hev;refine hgo _ _ fun val w' hD=>?_;obtain⟨hle,S',φ',h1,h2,h3,h4⟩:=hD;refine ih os _ S' (jI Kn1 s1.next n) φ' _ w' (fun i' j hj=>hi (i'+1) j (by simpa using hj)) (by simpa using hl) h ⟨?_,?_,?_,?_,?_,?_⟩ fun S2 Kn2 φ2 s2 a2 w2 h0 h5 h6=>hQ S2 Kn2 φ2 s2 a2 w2 h0 ((hs1.trans h1).trans h5) h6
    .simp only[dZ];exact h4
    .exact fN.OT hR1.bS h1 h2 hdst h3
    .rw [nR];exact hR1.size
    .rw [MT];exact hR1.defers
    .intro j hj hk;simp only at hj;rcases hk with hk|hk
     .exact hR1.dP j (by omega) hk
     .omega
    .intro i c v hc hv;exact(hR1.gh i c v hc hv).mono h1 h2
   .have hwant:=kj hR1.bS (by rw[hR1.size];exact hnt) hw;rw[if_neg (by simp[hwant])];refine ih os _ S1 Kn1 φ1 _ w (fun i' j hj=>hi (i'+1) j (by simpa using hj)) (by simpa using hl) h ⟨hR1.inv,?_,?_,?_,hR1.dP,hR1.gh⟩ fun S2 Kn2 φ2 s2 a2 w2 h0 h5 h6=>hQ S2 Kn2 φ2 s2 a2 w2 h0 (hs1.trans h5) h6
    .exact fN.zJ hR1.bS
    .rw [nR];exact hR1.size
    .rw [MT];exact hR1.defers
theorem tn{c:Code}{Q:Exit->Act->World->Prop}(J:Nat->Act->World->Prop)(n:Nat)(h₀:J n a w)
  (round:∀n a w,J n a w->c.wp P (Exit.then (fun a w=>∃m,m<n/\J m a w) Q) a w):(Code.loop c).wp P Q a w:=by
 intro b k cs
 have key:∀n a w,J n a w->∃e a' w',Q e a' w'/\Arrives P (lone (b.at a (.code c::.inLoop c::k)) cs w) b k cs e a' w':=by
  intro n;induction n using Nat.strongRecOn with
  |_ n ih=>intro a w hJ;obtain⟨e,a₁,w₁,hq,harr⟩:=round n a w hJ b (.inLoop c::k) cs;cases e with|normal=>obtain⟨m,hlt,hq⟩:=hq;obtain⟨e₂,a₂,w₂,hq₂,harr₂⟩:=ih m hlt a₁ w₁ hq;exact⟨e₂,a₂,w₂,hq₂,.of_steps (Steps.trans harr (.one step_inLoop)) harr₂⟩|exit id=>exact⟨_,a₁,w₁,hq,.pass (x:=.inLoop c) rfl (fun _ _=>.inl (by simp)) harr⟩|goto l=>exact⟨_,a₁,w₁,hq,.pass (x:=.inLoop c) rfl (fun _ _=>.inl (by simp)) harr⟩|ret=>exact⟨_,a₁,w₁,hq,.pass (x:=.inLoop c) rfl (fun _ _=>.inl (by simp)) harr⟩|panic ch=>exact⟨_,a₁,w₁,hq,.pass (x:=.inLoop c) rfl (fun _ _=>.inl (by simp)) harr⟩|outgrown=>exact⟨_,a₁,w₁,hq,.pass (x:=.inLoop c) rfl (fun _ _=>.inl (by simp)) harr⟩
 obtain⟨e,a',w',hq,harr⟩:=key n a w h₀;exact⟨e,a',w',hq,.of_steps (.one step_loop) harr⟩
def pU(S K:Nat->Prop)(w0 w:World)(gv:List Value)(nt:Nat)(Q:kP->St->Prop)(e:Exit)(a':Act)(w':World):Prop:=∃o s',Q o s'/\e=Gz o/\∃S' Kn' φ',WJ S w S' w'/\yP S' K w0 Kn' φ' gv nt s' a' w'
theorem pU.trans{S':Nat->Prop}{w':World}(h:WJ S w S' w'){Q:kP->St->Prop}{e:Exit}{a':Act}{w'':World}(hp:pU S' K w0 w' gv nt Q e a' w''):pU S K w0 w gv nt Q e a' w'':=by obtain⟨o,s',h0,h1,S'',Kn',φ',h2,h3⟩:=hp;exact⟨o,s',h0,h1,S'',Kn',φ',h.trans h2,h3⟩
theorem pU.sI{Q:kP->St->Prop}{o:kP}{a':Act}{w':World}{S' Kn':Nat->Prop}{φ':Nat->d_}(h:wk (Q o) s')(hs:WJ S w S' w')(hR:yP S' K w0 Kn' φ' gv nt s' a' w'):pU S K w0 w gv nt Q (Gz o) a' w':=by obtain⟨s1,h1,h2⟩:=h;obtain⟨S1,Kn1,φ1,h3,h4⟩:=h1 S' K w0 Kn' φ' gv nt a' w' hR;exact⟨o,s1,h2,rfl,S1,Kn1,φ1,hs.trans h3,h4⟩
theorem yu(hnt:nt<1000000000)(hm:P.follows .mixedOrders=true):∀(code:Code)(s:St)(Q:kP->St->Prop)(S:Nat->Prop)(Kn:Nat->Prop)(φ:Nat->d_)(a:Act)(w:World),
  W P (kf P QC nt code) s Q->yP S K w0 Kn φ gv nt s a w->code.wp P (pU S K w0 w gv nt Q) a w:=by
 intro code;induction code with
 |skip=>intro s Q S Kn φ a w h hR;exact wp_skip (pU.sI h (WJ.refl _ _) hR)
 |region id ops draw=>
  intro s Q S Kn φ a w h hR;simp only[kf]at h;cases draw with
  |false=>
   simp only[aG,if_false,W]at h;refine wp_region ?_;refine By (gv:=gv) (K:=K) (w0:=w0) hnt (List.range ops.size) ops.toList s S Kn φ a w ?_ (by simp) h hR fun S' Kn' φ' s' a' w' h0 h1 h2=>pU.sI (o:=.normal) h0 h1 h2;intro i j hj;obtain⟨hlt,rfl⟩:i<ops.size/\i=j:=by have:=af.1 hj;obtain⟨h1,h2⟩:=this;simp at h1 h2;exact⟨h1,h2⟩
   simp
  |true=>
   simp only[if_true]at h;unfold pf at h;simp only at h;split at h
   .rename_i hc;simp only[ae]at hc;simp only[W]at h;obtain⟨s1,hsub,calls,e1,h1,tr,hok,hev,hdyn,hq⟩:=h;obtain⟨S1,Kn1,φ1,hs1,hR1⟩:=hsub S K w0 Kn φ gv nt a w hR;refine wp_region_any hm ?_;exact wl hok hnt rfl hc.1.1 hc.1.2 hev hdyn (by simpa using hc.2) hR1 fun S' Kn' φ' a' w' h1 h2=>pU.sI (o:=.normal) hq (hs1.trans h1) h2
   .simp [W]at h
 |seq x y ihx ihy=>intro s Q S Kn φ a w h hR;simp only[kf,W]at h;refine wp_seq ?_;refine wp_mono (ihx s _ S Kn φ a w h hR) fun e a' w' hp=>?_;obtain⟨o,s',h0,rfl,S',Kn',φ',h1,h2⟩:=hp;cases o with|normal=>exact wp_mono (ihy s' Q S' Kn' φ' a' w' h0 h2) fun e a'' w'' hp=>hp.trans h1|exit id=>exact⟨.exit id,s',h0,rfl,S',Kn',φ',h1,h2⟩|ret=>exact⟨.ret,s',h0,rfl,S',Kn',φ',h1,h2⟩
 |cond c x y ihx ihy=>intro s Q S Kn φ a w h hR;simp only[kf,W]at h;obtain⟨s1,hsub,t,ht,h1,h2⟩:=h;obtain⟨S1,Kn1,φ1,hs1,hR1⟩:=hsub S K w0 Kn φ gv nt a w hR;have hv:=(mH hR1.inv.t7 hR1.bS ht).lit.1;refine wp_cond hv ?_;cases t with|true=>exact wp_mono (ihx s1 Q S1 Kn1 φ1 a w (h1 rfl) hR1) fun _ _ _ hp=>hp.trans hs1|false=>exact wp_mono (ihy s1 Q S1 Kn1 φ1 a w (h2 rfl) hR1) fun _ _ _ hp=>hp.trans hs1
 |block id x ih=>
  intro s Q S Kn φ a w h hR;simp only[kf,W]at h;refine wp_block ?_;refine wp_mono (ih s _ S Kn φ a w h hR) fun e a' w' hp=>?_;obtain⟨o,s',h0,rfl,hp⟩:=hp;cases o with
  |normal=>exact⟨.normal,s',h0,rfl,hp⟩
  |ret=>exact⟨.ret,s',h0,rfl,hp⟩
  |exit id'=>
   simp only[Gz,Exit.inBlock];simp only[ov]at h0;by_cases hid:id'=id
   .rw [if_pos hid]at h0|-;exact⟨.normal,s',h0,rfl,hp⟩
   .rw [if_neg hid]at h0|-;exact⟨.exit id',s',h0,rfl,hp⟩
 |loop x ih=>intro s Q S Kn φ a w h hR;simp only[kf,W]at h;obtain⟨I,n,⟨s0,hsub,hI⟩,hstep⟩:=h;obtain⟨S0,Kn0,φ0,hs0,hR0⟩:=hsub S K w0 Kn φ gv nt a w hR;refine tn (J:=fun n a' w'=>∃s1 S1 Kn1 φ1,WJ S w S1 w'/\yP S1 K w0 Kn1 φ1 gv nt s1 a' w'/\I n s1) n ⟨s0,S0,Kn0,φ0,hs0,hR0,hI⟩ fun n a1 w1 hJ=>?_;obtain⟨s1,S1,Kn1,φ1,h1,h2,h3⟩:=hJ;refine wp_mono (ih s1 _ S1 Kn1 φ1 a1 w1 (hstep n s1 h3) h2) fun e a' w' hp=>?_;obtain⟨o,s2,h0,rfl,S2,Kn2,φ2,h4,h5⟩:=hp;cases o with|normal=>obtain⟨m,hm,s3,h6,h7⟩:=h0;obtain⟨S3,Kn3,φ3,h8,h9⟩:=h6 S2 K w0 Kn2 φ2 gv nt a' w' h5;exact⟨m,hm,s3,S3,Kn3,φ3,(h1.trans h4).trans h8,h9,h7⟩|exit id=>exact⟨.exit id,s2,h0,rfl,S2,Kn2,φ2,h1.trans h4,h5⟩|ret=>exact⟨.ret,s2,h0,rfl,S2,Kn2,φ2,h1.trans h4,h5⟩
 |exit id=>intro s Q S Kn φ a w h hR;exact wp_exit (pU.sI (o:=.exit id) h (WJ.refl _ _) hR)
 |ret=>intro s Q S Kn φ a w h hR;exact wp_ret (pU.sI (o:=.ret) h (WJ.refl _ _) hR)
 |scope x ih=>intro s Q S Kn φ a w h hR;refine wp_scope_straight (wp_mono (ih s Q S Kn φ a w h hR) fun e a' w' hp=>?_);obtain⟨o,s',h0,rfl,h1⟩:=hp;cases o<;>exact⟨_,s',h0,rfl,h1⟩
 |label l=>intro s Q S Kn φ a w h hR;exact wp_label (pU.sI (o:=.normal) h (WJ.refl _ _) hR)
 |_=>intro s Q S Kn φ a w h hR;simp[kf,W]at h
end
def Eh(P:Program):ResultVar->Option RV
 |.tmp t=>some (.tmp t)
 |.cell a t=>match du P t,dm P t with|some g,some n=>some (.cell a g n)|_,_=>none
def NR(P:Program):List ResultVar->Option (List RV)
 |[]=>some []
 |r::rs=>match Eh P r,NR P rs with|some x,some xs=>some (x::xs)|_,_=>none
def nD(P:Program)(QC:pT)(f np:Nat):Option Fn:=
 match P.funcs[f]?with
 |none=>none
 |some g=>
  match g.body with
  |none=>none
  |some code=>
   if(g.name== "runtime.NumGoroutine")=false/\np<=g.ntmps/\g.ntmps<1000000000 then
    match NR P g.results.toList with|some gu=>some ⟨np,g.ntmps,gu,kf P QC g.ntmps code⟩|none=>none
   else none
section
variable{P:Program}{S K:Nat->Prop}{w0 w:World}{gv:List Value}{nt:Nat}{a:Act}{call:Call}{QC:pT}{s s':St}
theorem wg:∀(as:List A){Kn:Nat->Prop}{φ:Nat->d_}{hf:Nat->Option Ob}(vs:List Value)(fp:List Nat)(i n:Nat),Inv S K w0 Kn φ hf w->(∀j,n<=j->¬Kn j)->D0 S w as vs fp->fp.Nodup->
  (∀b∈fp,¬S b/\¬K b)->m6 w φ hf fp->
  ∃φ',lM S K w0 w Kn φ hf fp n (enter as i n).2.2.1 (enter as i n).2.1 φ'/\
   (∀t x,bv (enter as i n).1 t=some x->i<=t/\∃v,vs[t-i]?=some v/\dH S w (jI Kn n (enter as i n).2.2.1) φ' x v)/\
   (∀(k:Nat)(c:C)(v:Value),(enter as i n).2.2.2[k]?=some c->(iJ as vs)[k]?=some v->RC S w (jI Kn n (enter as i n).2.2.1) φ' c v)/\
   (enter as i n).2.2.2.length=(iJ as vs).length/\as.length=vs.length:=by
 intro as;induction as with
 |nil=>intro Kn φ hf vs fp i n hI hfr h hn hSK ha;cases vs with|cons v vs=>exact h.elim|nil=>obtain rfl:fp=[]:=h;exact⟨φ,lM.nil hI _ _,fun t x hx=>by simp[enter,bv]at hx,fun k c v hk=>by simp[enter]at hk,rfl,rfl⟩
 |cons x as ih=>
  intro Kn φ hf vs fp i n hI hfr h hn hSK ha;cases vs with
  |nil=>exact h.elim
  |cons v vs=>
   obtain⟨f1,f2,rfl,h1,h2⟩:=h;have next:∀{e:fN}{i':Nat}{t:Nat}{x:TV}{φ':Nat->d_}{Kn':Nat->Prop},i+1<=t/\(∃v,vs[t-(i+1)]?=some v/\dH S w Kn' φ' x v)->i<=t/\∃v',(v::vs)[t-i]?=some v'/\dH S w Kn' φ' x v':=by intro e i' t x φ' Kn' ⟨q1,v',q2,q3⟩;refine⟨by omega,v',?_,q3⟩;rw[show t-i=(t-(i+1))+1 by omega];simpa using q2
   cases x with
   |d y=>
    obtain⟨h1,rfl⟩:=h1;obtain⟨φ',q1,q2,q3,q4,q5⟩:=ih (Kn:=Kn) (φ:=φ) (hf:=hf) vs f2 (i+1) n hI hfr h2 (by simpa using hn) (by simpa using hSK) (by simpa using ha);refine⟨φ',q1,fun t x hx=>?_,q3,q4,by simp[q5]⟩;simp only[enter,bv]at hx;by_cases e:i=t
    .subst e;simp at hx;subst hx;exact⟨ai _,v,by simp,.c (.d h1)⟩
    .have e':(i==t)=false:=by simpa using e
     rw[e',cond_false]at hx;exact next (e:=[]) (i':=0) (q2 t x hx)
   |agg xs=>
    obtain⟨aB,rfl,hlen,h1,rfl⟩:=h1;obtain⟨φ',q1,q2,q3,q4,q5⟩:=ih (Kn:=Kn) (φ:=φ) (hf:=hf) vs f2 (i+1) n hI hfr h2 (by simpa using hn) (by simpa using hSK) (by simpa using ha);refine⟨φ',q1,fun t x hx=>?_,q3,q4,by simp[q5]⟩;simp only[enter,bv]at hx;by_cases e:i=t
    .subst e;simp at hx;subst hx;refine⟨ai _,_,by simp;rfl,.agg (by simpa using hlen) fun j x hj=>?_⟩;rw[aC]at hj;obtain⟨d,hd,rfl⟩:=aA.1 hj;exact .d (h1 j d hd)
    .have e':(i==t)=false:=by simpa using e
     rw[e',cond_false]at hx;exact next (e:=[]) (i':=0) (q2 t x hx)
   |mt t0=>
    rw[bR]at hn;obtain⟨hn1,hn2,hn3⟩:=hn;simp only[ah]at hSK;obtain⟨φ1,hL1,hr1⟩:=oD t0 n v f1 hI (fun j hj _=>hfr j hj) h1 hn1 (fun b hb=>hSK b (.inl hb)) (fun j o hj hown x hx hm=>ha j o hj hown x hx (by simp[hm]))
    obtain⟨φ2,hL2,q2,q3,q4,q5⟩:=ih (Kn:=jI Kn n (gJ n t0).2.2) (φ:=φ1) (hf:=aU (gJ n t0).2.1 hf) vs f2 (i+1) (gJ n t0).2.2 hL1.inv (fun j hj hk=>by
     rcases hk with hk|hk
     .have:=hL1.le;exact hfr j (by omega) hk
     .omega) h2 hn2 (fun b hb=>hSK b (.inr hb)) (hL1.Ft hI (fun j o hj hown x hx hm=>ha j o hj hown x hx (by simp[hm])) fun x hx hx2=>hn3 x hx x hx2 rfl)
    have hcomp:=hL1.kf hL2;have hcm:aU ((enter as (i+1) (gJ n t0).2.2).2.1++(gJ n t0).2.1) hf=aU ((gJ n t0).2.1++(enter as (i+1) (gJ n t0).2.2).2.1) hf:=iu fun p hp q hq e=>by have h1:=hL2.dP p hp;have h2:=hL1.dP q hq;omega
    have hsub:∀j,jI (jI Kn n (gJ n t0).2.2) (gJ n t0).2.2 (enter as (i+1) (gJ n t0).2.2).2.2.1 j->jI Kn n (enter as (i+1) (gJ n t0).2.2).2.2.1 j:=fun j=>(lG hL1.le hL2.le j).1;refine⟨φ2,?_,fun t x hx=>?_,fun k c v' hk hv=>?_,by simp[enter,iJ,q4],by simp[q5]⟩
    .simp only[enter];have hsw:∀{p:Nat×Option Ob}{a b:de},p∈a++b->p∈b++a:=fun hp=>ah.2 (ah.1 hp).symm;exact⟨hcomp.le,hcomp.MW,hcm▸hcomp.inv,fun p hp=>hcomp.dP p (hsw hp),fun p hp x hx=>hcomp.bH p (hsw hp) x (hcm.symm▸hx)⟩
    .simp only[enter,bv]at hx|-;by_cases e:i=t
     .subst e;simp at hx;subst hx;exact⟨ai _,v,by simp,.c ((hr1.mono (WJ.refl _ _) hL2.MW).kn hsub)⟩
     .have e':(i==t)=false:=by simpa using e
      rw[e',cond_false]at hx;obtain⟨p1,v',p2,p3⟩:=q2 t x hx;exact next (e:=[]) (i':=0) ⟨p1,v',p2,p3.mono (WJ.refl _ _) ⟨hsub,fun _ _=>rfl⟩⟩
    .simp only[enter]at hk|-;simp only[iJ]at hv;cases k with
     |zero=>
      obtain rfl:(gJ n t0).1=c:=by simpa using hk
      obtain rfl:v=v':=by simpa using hv
      exact(hr1.mono (WJ.refl _ _) hL2.MW).kn hsub
     |succ k=>exact(q3 k c v' (by simpa using hk) (by simpa using hv)).kn hsub
theorem vi{Kn:Nat->Prop}{φ:Nat->d_}{H:aY}(hI:Inv S K w0 Kn φ (ak H) w){v:TV}{r:R}{aW:List Nat}{x:Value}(h:lO H v=some (r,aW))(hv:dH S w Kn φ v x):
  RR S w r x (aW.flatMap (adh w φ (ak H)))/\∀i∈aW,∃o,ak H i=some o/\bF o=true:=by
 cases hv with
 |c hv=>
  simp only[lO]at h;split at h
  .rename_i t aj rd hp;obtain⟨rfl,rfl⟩:R.c t=r/\aj=aW:=by simpa using h
   exact(MU hI 300).1 _ _ _ _ _ hp hv
  .simp at h
 |@agg cs aB hlen hv=>
  simp only[lO]at h;split at h
  .rename_i ts aj rd hp;obtain⟨rfl,rfl⟩:R.agg ts=r/\aj=aW:=by simpa using h
   obtain⟨h1,⟨fps,h2,h3,h4⟩,h5⟩:=(MU hI 300).2 _ _ _ _ hp (fun i=>aB.getD i undef) hv;exact⟨⟨aB,fps,rfl,h1.trans hlen,h2,h3,h4⟩,h5⟩
  .simp at h
 |fm hlen hv=>simp[lO]at h
theorem tN{Kn:Nat->Prop}{φ:Nat->d_}{H:aY}(hI:Inv S K w0 Kn φ (ak H) w):∀(tvs:List TV)(vs:List Value)(rs:List R)(aW:List Nat),ma H tvs=some (rs,aW)->tvs.length=vs.length->
  (∀(i:Nat)(t:TV)(v:Value),tvs[i]?=some t->vs[i]?=some v->dH S w Kn φ t v)->wM S w rs vs (aW.flatMap (adh w φ (ak H)))/\∀i∈aW,∃o,ak H i=some o/\bF o=true:=by
 intro tvs;induction tvs with
 |nil=>
  intro vs rs aW h hl hr;obtain⟨rfl,rfl⟩:[]=rs/\[]=aW:=by simpa[ma]using h
  obtain rfl:vs=[]:=aV.1 hl.symm;exact⟨rfl,fun i hi=>by simp at hi⟩
 |cons t tvs ih=>
  intro vs rs aW h hl hr;cases vs with
  |nil=>simp at hl
  |cons v vs=>
   simp only[ma]at h;split at h
   .rename_i r o1 rs1 o2 hp hps;obtain⟨rfl,rfl⟩:r::rs1=rs/\o1++o2=aW:=by simpa using h
    obtain⟨a1,a2⟩:=vi hI hp (hr 0 t v rfl rfl);obtain⟨b1,b2⟩:=ih vs rs1 o2 hps (by simpa using hl) (fun i t v hi hv=>hr (i+1) t v (by simpa using hi) (by simpa using hv));refine⟨⟨_,_,by simp,a1,b1⟩,fun i hi=>?_⟩;rcases ah.1 hi with hi|hi
    .exact a2 i hi
    .exact b2 i hi
   .simp at h
inductive mw(h:aY):List C->List T->List Nat->Prop
 |nil:mw h [] [] []
 |cons {c:C} {cs:List C} {t:T} {ts:List T} {a i b:List Nat} (h1:cG h 300 c=some (t,a,i)) (h2:mw h cs ts b):mw h (c::cs) (t::ts) (a++b)
 |Nl {c:C} {cs:List C} {ts:List T} {b:List Nat} (h2:mw h cs ts b):mw h (c::cs) (.Nl::ts) b
theorem mw.of{h:aY}:∀{cs:List C}{ts:List T}{b:List Nat},qD h cs=some (ts,b)->mw h cs ts b:=by
 intro cs;induction cs with
 |nil=>intro ts b hp;obtain⟨rfl,rfl⟩:[]=ts/\[]=b:=by simpa[qD]using hp
       exact .nil
 |cons c cs ih=>
  intro ts b hp;simp only[qD]at hp;split at hp
  .rename_i t o1 rd ts1 o2 h1 h2;obtain⟨rfl,rfl⟩:t::ts1=ts/\o1++o2=b:=by simpa using hp
   exact .cons h1 (ih h2)
  .simp at hp
theorem vj{Kn:Nat->Prop}{φ:Nat->d_}{H:aY}(hI:Inv S K w0 Kn φ (ak H) w){cs:List C}{ts:List T}{aW:List Nat}(h:mw H cs ts aW):∀(vs:List Value),cs.length=vs.length->
  (∀(i:Nat)(c:C)(v:Value),cs[i]?=some c->vs[i]?=some v->RG S w Kn φ c v)->DT S w ts vs (aW.flatMap (adh w φ (ak H)))/\∀i∈aW,∃o,ak H i=some o/\bF o=true:=by
 induction h with
 |nil=>intro vs hl hr;obtain rfl:vs=[]:=aV.1 hl.symm;exact⟨rfl,fun i hi=>by simp at hi⟩
 |@cons c cs t ts a rd b hp _ ih=>
  intro vs hl hr;cases vs with
  |nil=>simp at hl
  |cons v vs=>
   have hrc:RC S w Kn φ c v:=(hr 0 c v rfl rfl).resolve_left fun e=>by subst e;simp[lP,cG]at hp
   obtain⟨a1,a2⟩:=(MU hI 300).1 _ _ _ _ _ hp hrc;obtain⟨b1,b2⟩:=ih vs (by simpa using hl) (fun i t v hi hv=>hr (i+1) t v (by simpa using hi) (by simpa using hv));refine⟨⟨_,_,by simp,.inr a1,b1⟩,fun i hi=>?_⟩;rcases ah.1 hi with hi|hi
   .exact a2 i hi
   .exact b2 i hi
 |@Nl c cs ts b _ ih=>intro vs hl hr;cases vs with|nil=>simp at hl|cons v vs=>obtain⟨b1,b2⟩:=ih vs (by simpa using hl) (fun i t v hi hv=>hr (i+1) t v (by simpa using hi) (by simpa using hv));exact⟨⟨[],_,rfl,.inl ⟨rfl,rfl⟩,b1⟩,b2⟩
def my(gu:List RV)(s:St)(rs:List R)(outs:List T):Prop:=∃vs a b,cD (gu.map (nQ s))=some vs/\ma s.heap vs=some (rs,a)/\mw s.heap s.gh outs b/\(a++b).Nodup
theorem my.of{gu:List RV}{s:St}{rs:List R}{outs:List T}(h:CG gu s=some (rs,outs)):my gu s rs outs:=by
 unfold CG at h;split at h
 .simp at h
 rename_i tvs htv;split at h
 case h_2=>simp at h
 rename_i rs1 oa ts1 ob hpr hpc;split at h
 case isFalse=>simp at h
 rename_i hnod;obtain⟨rfl,rfl⟩:rs1=rs/\ts1=outs:=by simpa using h
 exact⟨tvs,oa,ob,htv,hpr,.of hpc,hnod⟩
def ly(tmps:Array Value):ResultVar->Sem Value
 |.tmp t=>pure (tmps.getD t undef)
 |.cell a t=>do loadVar t (<-asAddr (tmps.getD a undef))
theorem vM{t:TypeId}{pv val:Value}(h:(Instr.loadAt t pv).run P w=.ok val w):(do loadVar t (<-asAddr pv):Sem Value).run P w=.ok val w:=by
 cases pv with
 |pointer x=>cases x with|some a=>simpa[Instr.loadAt,Instr.sureAddr,asAddr]using h|none=>simp[Instr.loadAt,Instr.sureAddr]at h
 |_=>simp[Instr.loadAt,Instr.sureAddr]at h
theorem tJ{Kn:Nat->Prop}{φ:Nat->d_}(hI:Inv S K w0 Kn φ (ak s.heap) w)(hE:fN.ok S w Kn φ s.bS a.tmps){r:ResultVar}{x:RV}{v:TV}(hr:Eh P r=some x)(h:nQ s x=some v):
  ∃val,(ly a.tmps r).run P w=.ok val w/\dH S w Kn φ v val:=by
 cases r with
 |tmp t=>
  obtain rfl:RV.tmp t=x:=by simpa[Eh]using hr
  exact⟨_,by simp[ly],hE t v h⟩
 |cell t ty=>
  simp only[Eh]at hr;split at hr
  .rename_i g n hg hn;obtain rfl:=aa hr;simp only[nQ]at h;split at h
   .rename_i p hp;split at h
    .rename_i v' aj hl;obtain rfl:=aa h;cases hE t _ hp with|c hc=>obtain⟨val,h1,h2⟩:=qu hg hn hI hc hl;exact⟨val,vM h1,h2⟩
    .simp at h
   .simp at h
  .simp at hr
theorem rS{Kn:Nat->Prop}{φ:Nat->d_}(hI:Inv S K w0 Kn φ (ak s.heap) w)(hE:fN.ok S w Kn φ s.bS a.tmps):∀(rs:List ResultVar)(xs:List RV)(tvs:List TV),NR P rs=some xs->cD (xs.map (nQ s))=some tvs->
  ∃vs,(rs.mapM (ly a.tmps)).run P w=.ok vs w/\tvs.length=vs.length/\∀(i:Nat)(t:TV)(v:Value),tvs[i]?=some t->vs[i]?=some v->dH S w Kn φ t v:=by
 intro rs;induction rs with
 |nil=>
  intro xs tvs h1 h2;obtain rfl:[]=xs:=by simpa[NR]using h1
  obtain rfl:[]=tvs:=by simpa[cD]using h2
  exact⟨[],by simp,rfl,fun i t v hi=>by simp at hi⟩
 |cons r rs ih=>
  intro xs tvs h1 h2;simp only[NR]at h1;split at h1
  .rename_i x xs1 hx hxs;obtain rfl:=aa h1;simp only[am]at h2;cases hv:nQ s x with
   |none=>rw[hv]at h2;simp[cD]at h2
   |some v=>
    rw[hv]at h2;simp only[cD]at h2;split at h2
    .rename_i tvs1 htv;obtain rfl:=aa h2;obtain⟨val,q1,q2⟩:=tJ hI hE hx hv;obtain⟨vs,q3,q4,q5⟩:=ih xs1 tvs1 hxs htv;refine⟨val::vs,by simp[List.mapM_cons,q1,q3],by simp[q4],fun i t v' hi hv'=>?_⟩;cases i with
     |zero=>
      obtain rfl:v=t:=by simpa using hi
      obtain rfl:val=v':=by simpa using hv'
      exact q2
     |succ i=>exact q5 i t v' (by simpa using hi) (by simpa using hv')
    .simp at h2
  .simp at h1
theorem uY{g:Func}{tmps:Array Value}{vs:List Value}(h:(g.results.toList.mapM (ly tmps)).run P w=.ok vs w):(results g tmps).run P w=.ok (qx vs) w:=by
 have e:results g tmps=(do let vs<-g.results.mapM (ly tmps);pure (if h:vs.size=1 then vs[0]else .tuple vs)):=rfl;have e2:g.results.mapM (ly tmps)=(do let vs<-g.results.toList.mapM (ly tmps);pure vs.toArray):=by rw[Array.mapM_eq_mapM_toList,bind_pure_comp]
 rw[e,e2];simp only[Sem.run_bind,h,Result.andThen_ok,Sem.run_pure]
 match vs with|[]=>rfl|[v]=>rfl|v::v'::r=>simp[qx]
def Gv(sz:Nat):Option (List (List D))->D
 |none=>.lit (.slice none 0 0)
 |some rows=>.sl sz rows
mutual
def lT:T->D
 |.d x=>x
 |.Nl=>.lit .nilFunc
 |.sl sz rows=>.sl sz rows
 |.rK sz rows=>.sl 1 (rows.map fun r=>[Gv sz r])
 |.pt ts=>.pt (EY ts)
def EY:List T->List D
 |[]=>[]
 |t::ts=>lT t::EY ts
end
theorem C4:∀ts:List T,EY ts=ts.map lT:=by intro ts;induction ts with|nil=>rfl|cons t ts ih=>simp[EY,ih]
theorem RT.sO{S S':Nat->Prop}{w:World}{t:T}{v:Value}{fp:List Nat}(h:RT S w t v fp)(hS:∀b,S b->S' b)(hb:∀b∈fp,S' b):RD S' w (lT t) v:=by
 have c9:WJ S w S' w:=⟨hS,fun _ _=>rfl⟩
 induction h with
 |d h=>exact h.mono c9
 |@sl sz rows b off len cap aB hsz ho hlen hcap hext hr=>
  subst hlen;refine .sl (fun i j=>aB.getD (off+i*sz+j) undef) (hb b (by simp)) hsz hcap hr.1 (fun i r hi j x hj=>?_) (fun i r hi j x hj=>?_)
  .obtain ⟨v,h1,h2⟩:=hr.2 i r hi j x hj;simp only at h1;rw[ho.cell,h1,aX,h1];rfl
  .obtain ⟨v,h1,h2⟩:=hr.2 i r hi j x hj;simp only at h1;rw[aX,h1];exact h2.mono c9
 |@rK sz rows b off cap aB fps hsz ho hcap hext hfl h=>
  have key:=RD.Zl (S:=S') (w:=w) (sz:=1) (rows:=rows.map fun r=>[Gv sz r]) (b:=b) (off:=off) (len:=rows.length) (cap:=cap) (hb b (by simp)) Nat.one_pos (by simp) hcap ⟨fun i r hi=>?_,fun i r hi j x hj=>?_⟩
  .exact key
  .rw [aC]at hi;obtain⟨r',_,rfl⟩:=aA.1 hi;rfl
  .rw [aC]at hi;obtain⟨r',hr',rfl⟩:=aA.1 hi;have hl:=(af.1 hr').1;cases j with
   |succ j=>simp at hj
   |zero=>
    obtain rfl:Gv sz r'=x:=by simpa using hj
    obtain⟨v,h1,h2⟩:=h i r' fps[i] hr' (ap (by omega));refine⟨v,by rw[Nat.mul_one,ci];exact(ho.cell _).trans h1,?_⟩;cases r' with|none=>obtain⟨rfl,_⟩:=h2;exact .lit rfl|some rows'=>obtain⟨b',q1,q2⟩:=h2;exact q2.rd c9 (hb b' (aq _ (ce.2 ⟨fps[i],List.getElem_mem _,by rw[q1];simp⟩)))
 |@pt ts b aB fps ho hlen hfl h ih=>
  simp only[lT,C4];have hlt:∀(j:Nat)(x:D),(ts.map lT)[j]?=some x->∃t f,ts[j]?=some t/\fps[j]?=some f/\x=lT t:=by intro j x hj;rw[aC]at hj;obtain⟨t,ht,rfl⟩:=aA.1 hj;have hl:=(af.1 ht).1;exact⟨t,_,ht,ap (by omega),rfl⟩
  have key:=RD.pt (S:=S') (w:=w) (cells:=ts.map lT) (b:=b) (off:=0) (fun j=>aB.getD j undef) (hb b (by simp)) (fun j x hj=>?_) (fun j x hj=>?_)
  .exact key
  .obtain ⟨t,f,h1,h2,rfl⟩:=hlt j x hj;have hl:=(af.1 h1).1;rw[bl,ho.cell,aX,fC (by omega)];rfl
  .obtain ⟨t,f,h1,h2,rfl⟩:=hlt j x hj;exact ih j t f h1 h2 fun b hbm=>hb b (aq _ (ce.2 ⟨f,aS h2,hbm⟩))
def AT:R->R
 |.c t=>.c (.d (lT t))
 |.agg ts=>.agg (ts.map fun t=>.d (lT t))
def m9:List Bool->List R->List R
 |b::bs,r::rs=>(if b then AT r else r)::m9 bs rs
 |_,rs=>rs
theorem RR.qO{S S':Nat->Prop}{w:World}(hS:∀b,S b->S' b){r:R}{v:Value}{fp:List Nat}(h:RR S w r v fp):RR S' w r v fp:=by
 have c9:WJ S w S' w:=⟨hS,fun _ _=>rfl⟩
 cases r with|c t=>exact RT.mono c9 h fun _ _=>rfl|agg ts=>obtain⟨aB,fps,h1,h2,h3,h4,h5⟩:=h;exact⟨aB,fps,h1,h2,h3,h4,fun i t f hi hf=>(h5 i t f hi hf).mono c9 fun _ _=>rfl⟩
theorem RR.sO{S S':Nat->Prop}{w:World}(hS:∀b,S b->S' b){r:R}{v:Value}{fp:List Nat}(h:RR S w r v fp)(hb:∀b∈fp,S' b):RR S' w (AT r) v []:=by
 cases r with
 |c t=>exact .d (RT.sO h hS hb)
 |agg ts=>
  obtain⟨aB,fps,h1,h2,h3,h4,h5⟩:=h;refine⟨aB,ts.map fun _=>[],h1,by simp[h2],by simp,?_,fun i t f hi hf=>?_⟩
  .clear h5 h3 h2;induction ts with|nil=>rfl|cons t ts ih=>simp
  .simp only[aC,aA]at hi hf;obtain⟨t0,ht0,rfl⟩:=hi;obtain⟨_,_,rfl⟩:=hf;have hl:=(af.1 ht0).1;have hf:fps[i]?=some _:=ap (by omega);refine .d ((h5 i t0 _ ht0 hf).sO hS fun b hbm=>hb b ?_);rw[<-h4];exact ce.2 ⟨_,aS hf,hbm⟩
theorem wM.qO{S S':Nat->Prop}{w:World}(hS:∀b,S b->S' b):∀{rs:List R}{vs:List Value}{fp:List Nat},wM S w rs vs fp->wM S' w rs vs fp:=by
 intro rs;induction rs with
 |nil=>intro vs fp h;cases vs<;>exact h
 |cons r rs ih=>intro vs fp h;cases vs with|nil=>exact h|cons v vs=>obtain⟨f1,f2,h1,h2,h3⟩:=h;exact⟨f1,f2,h1,h2.qO hS,ih h3⟩
theorem wM.sO{S:Nat->Prop}{w:World}:∀(m:List Bool)(rs:List R)(vs:List Value)(fp:List Nat),wM S w rs vs fp->fp.Nodup->
  ∃fpK,fpK.Sublist fp/\∀S':Nat->Prop,(∀b,S b->S' b)->(∀b∈fp,b∉fpK->S' b)->wM S' w (m9 m rs) vs fpK:=by
 intro m;induction m with
 |nil=>intro rs vs fp h hn;exact⟨fp,bq _,fun S' hS _=>by cases rs<;>exact h.qO hS⟩
 |cons b m ih=>
  intro rs vs fp h hn;cases rs with
  |nil=>exact⟨fp,bq _,fun S' hS _=>h.qO hS⟩
  |cons r rs=>
   cases vs with
   |nil=>exact h.elim
   |cons v vs=>
    obtain⟨f1,f2,rfl,h2,h3⟩:=h;obtain⟨n1,n2,n3⟩:=bR.1 hn;obtain⟨fpK,hsub,hk⟩:=ih rs vs f2 h3 n2;cases b with
    |true=>refine⟨fpK,hsub.trans (List.sublist_append_right _ _),fun S' hS hb=>⟨[],fpK,rfl,h2.sO hS fun b hbm=>hb b (az _ hbm) fun hb2=>n3 b hbm b (hsub.subset hb2) rfl,hk S' hS fun b hbm hb2=>hb b (av _ hbm) hb2⟩⟩
    |false=>
     refine⟨f1++fpK,bM.append (bq _) hsub,fun S' hS hb=>⟨f1,fpK,rfl,h2.qO hS,hk S' hS fun b hbm hb2=>hb b (av _ hbm) fun hb3=>?_⟩⟩;rcases ah.1 hb3 with h|h
     .exact n3 b h b hbm rfl
     .exact hb2 h
theorem wM.lt{S:Nat->Prop}{w:World}:∀{rs:List R}{vs:List Value}{fp:List Nat},wM S w rs vs fp->∀b∈fp,b<w.heap.size:=by
 intro rs;induction rs with
 |nil=>intro vs fp h b hb;cases vs with|nil=>have h':fp=[]:=h;subst h';simp at hb|cons _ _=>exact h.elim
 |cons r rs ih=>
  intro vs fp h b hb;cases vs with
  |nil=>exact h.elim
  |cons v vs=>
   obtain⟨f1,f2,rfl,h2,h3⟩:=h;rcases ah.1 hb with hb|hb
   .cases r with|c t=>exact RT.lt h2 b hb|agg ts=>obtain⟨aB,fps,_,q2,q3,rfl,q5⟩:=h2;obtain⟨fp,hfp,hbf⟩:=ce.1 hb;obtain⟨i,hi,rfl⟩:=List.getElem_of_mem hfp;exact(q5 i _ _ (ap (by omega:i<ts.length)) (ap hi)).lt b hbf
   .exact ih h3 b hb
theorem DT.qO{S S':Nat->Prop}{w:World}(hS:∀b,S b->S' b):∀{ts:List T}{vs:List Value}{fp:List Nat},DT S w ts vs fp->DT S' w ts vs fp:=by
 intro ts;induction ts with
 |nil=>intro vs fp h;cases vs<;>exact h
 |cons r rs ih=>intro vs fp h;cases vs with|nil=>exact h|cons v vs=>obtain⟨f1,f2,h1,h2,h3⟩:=h;exact⟨f1,f2,h1,h2.imp id fun h2=>RT.mono ⟨hS,fun _ _=>rfl⟩ h2 fun _ _=>rfl,ih h3⟩
theorem Left.sO{S:Nat->Prop}{w w':World}{fp:List Nat}{rs:List R}{outs:List T}{lent:List Value}{v:Value}(m:List Bool)(h:Left S w fp rs outs lent v w'):Left S w fp (m9 m rs) outs lent v w':=by
 obtain⟨S',gu,fp1,fp2,h1,h2,h3,h4,h5,h6,h7,h8,h9⟩:=h;obtain⟨n1,n2,n3⟩:=bR.1 h7;obtain⟨fpK,hsub,hk⟩:=wM.sO m rs gu fp1 h5 n1
 refine⟨fun b=>S' b\/(b∈fp1/\b∉fpK),gu,fpK,fp2,h1,⟨fun b hb=>.inl (h2.sub b hb),h2.cK⟩,fun b hb=>?_,fun b hb=>?_,hk _ (fun b hb=>.inl hb) (fun b hb hb2=>.inr ⟨hb,hb2⟩),
  DT.qO (fun b hb=>.inl hb) h6,?_,fun b hb=>?_,h9⟩
 .rcases hb with hb|hb
  .exact h3 b hb
  .exact .inr (h8 b (az _ hb.1)).2
 .rcases hb with hb|hb
  .exact h4 b hb
  .exact wM.lt h5 b hb.1
 .exact (bM.append hsub (bq fp2)).nodup h7
 .rcases ah.1 hb with hb|hb
  .exact ⟨fun h=>h.elim (h8 b (az _ (hsub.subset hb))).1 fun h=>h.2 hb,(h8 b (az _ (hsub.subset hb))).2⟩
  .exact ⟨fun h=>h.elim (h8 b (av _ hb)).1 fun h=>n3 b h.1 b hb rfl,(h8 b (av _ hb)).2⟩
def DV(gu:List RV)(m:List Bool)(len:Nat)(rs:List R)(outs:List T):kP->St->Prop
 |.exit _,_=>False
 |.normal,s=>wk (fun s=>s.gh.length=len/\∃rs0,my gu s rs0 outs/\m9 m rs0=rs) s
 |.ret,s=>wk (fun s=>s.gh.length=len/\∃rs0,my gu s rs0 outs/\m9 m rs0=rs) s
def iP(as:List A):St:=⟨(enter as 0 0).1,(enter as 0 0).2.1,(enter as 0 0).2.2.1,(enter as 0 0).2.2.2⟩
def J5(P:Program)(F:Fn)(m:List Bool)(as:List A)(rs:List R)(outs:List T):Prop:=as.length=F.np/\W P F.body (iP as) (DV F.gu m (iP as).gh.length rs outs)
def J6(s:St)(Q:St->Prop):Prop:=∀(S K:Nat->Prop)(w0:World)(Kn:Nat->Prop)(φ:Nat->d_)(gv:List Value)(nt:Nat)(a:Act)(w:World),yP S K w0 Kn φ gv nt s a w->∃s1,Q s1/\yP S K w0 Kn φ gv nt s1 a w
theorem C7(hm:P.follows .mixedOrders=true){f np:Nat}{F:Fn}(hF:nD P QC f np=some F){as:List A}{rs:List R}{outs:List T}
  {m:List Bool} (h:as.length=F.np/\J6 (iP as) fun s=>W P F.body s (DV F.gu m (iP as).gh.length rs outs)):ow P f as rs outs:=by
 unfold nD at hF;split at hF
 .simp at hF
 rename_i g hg;split at hF
 .simp at hF
 rename_i code hb;split at hF
 case isFalse=>simp at hF
 rename_i hc;obtain⟨hname,hnp,hnt⟩:=hc;split at hF
 case h_2=>simp at hF
 rename_i gu hrv;obtain rfl:=aa hF;obtain⟨hlen,h⟩:=h;simp only at hlen h;intro S w vs fp hlt hargs hnd hfp hglob;left;refine⟨f,vs.toArray,?_,?_⟩
 .simp [callFunc,run_program,hg,hb];intro e;rw[e]at hname;simp at hname
 refine calls_of_wp hg hb ?_;have hI0:Inv S (fun b=>b<w.heap.size/\b∉fp/\¬S b) w (fun _=>False) (fun _=>default) (ak []) w:=by refine⟨hlt,fun b hb h=>h.2.2 hb,⟨fun b hb=>hb.1,fun _ _=>rfl,ai _,fun _ _=>rfl,fun b aB ho=>⟨aB,ho,rfl⟩,Io.refl _⟩,fun id o ho=>by simp[ak,bv]at ho,fun i j a b ha=>by simp[ak,bv]at ha,hglob,fun i sz sl k x hi=>by simp[ak,bv]at hi⟩
 obtain⟨φ,hL,q1,q2,q3,q4⟩:=wg as (S:=S) (K:=fun b=>b<w.heap.size/\b∉fp/\¬S b) (w0:=w) (w:=w) (Kn:=fun _=>False) (φ:=fun _=>default) (hf:=ak []) vs fp 0 0 hI0 (fun _ _ h=>h) hargs hnd
  (fun b hb=>⟨hfp b hb,fun h=>h.2.1 hb⟩) (fun j o ho=>by simp[ak,bv]at ho)
 unfold iP at h;generalize hen:enter as 0 0=en at h hL q1 q2 q3;obtain⟨e,hp,n,lent⟩:=en;simp only at h hL q1 q2 q3
 have hRel:yP S (fun b=>b<w.heap.size/\b∉fp/\¬S b) w (jI (fun _=>False) 0 n) φ (iJ as vs) g.ntmps ⟨e,hp,n,lent⟩
   {tmps:=vs.toArray++Array.replicate (g.ntmps-vs.toArray.size) undef,defers:=[]} w:=by
  refine⟨?_,fun t x hx=>?_,?_,rfl,fun j hj hk=>?_,fun i c v h1 h2=>.inr (q2 i c v h1 h2)⟩
  .have:ak hp=aU hp (ak []):=by rw[<-dZ,List.append_nil]
   rw[this];exact hL.inv
  .obtain ⟨_,v,hv,hr⟩:=q1 t x hx;have hv':vs[t]?=some v:=by simpa using hv
   have:(vs.toArray++Array.replicate (g.ntmps-vs.toArray.size) undef).getD t undef=v:=by have ht:t<vs.length:=(af.1 hv').1;rw[aX,Array.getElem?_append_left (by simpa using ht)];simp[hv']
   simp only[this];exact hr
  .simp;omega
  .rcases hk with hk|hk
   .exact hk
   .have:n<=j:=hj;omega
 obtain⟨s1,h,hRel⟩:=h _ _ _ _ _ _ _ _ _ hRel;refine wp_mono (yu hnt hm code s1 _ S _ φ _ w h hRel) fun ex a' w' hp=>?_;obtain⟨o,s',hl,rfl,S',Kn',φ',hs,hR⟩:=hp
 have main:∀(s':St)(rs:List R)(S' Kn':Nat->Prop)(φ':Nat->d_),WJ S w S' w'->yP S' (fun b=>b<w.heap.size/\b∉fp/\¬S b) w Kn' φ' (iJ as vs) g.ntmps s' a' w'->s'.gh.length=lent.length->my gu s' rs outs->
   a'.defers=[]/\∃v,(results g a'.tmps).run P w'=.ok v w'/\∃v',Ending.returned v=Ending.returned v'/\Left S w fp rs outs (iJ as vs) v' w':=by
  intro s' rs S' Kn' φ' hs hR hgl hlv;obtain⟨tvs,oa,ob,htv,hpr,hpc,hnod⟩:=hlv;obtain⟨rv,p1,p2,p3⟩:=rS hR.inv hR.bS _ _ _ hrv htv;obtain⟨r1,r2⟩:=tN hR.inv tvs rv rs oa hpr p2 p3;obtain⟨t1,t2⟩:=vj hR.inv hpc (iJ as vs) (hgl.trans q3) hR.gh
  have hown:∀i∈oa++ob,∃o,ak s'.heap i=some o/\bF o=true:=by
   intro i hi;rcases ah.1 hi with hi|hi
   .exact r2 i hi
   .exact t2 i hi
  have hfrm:=hR.inv.iT;refine⟨hR.defers,_,uY p1,_,rfl,S',rv,_,_,rfl,hs,fun b hb=>?_,hR.inv.nM,r1,t1,?_,?_,?_⟩
  .by_cases h1:b<w.heap.size
   .by_cases h2:b∈fp
    .exact .inr (.inl h2)
    .by_cases h3:S b
     .exact .inl h3
     .exact absurd ⟨h1,h2,h3⟩ (hR.inv.sk b hb)
   .exact .inr (.inr (by omega))
  .rw [<-List.flatMap_append];exact te hR.inv hnod hown
  .rw [<-List.flatMap_append];intro b hb;obtain⟨i,hi,hb⟩:=List.mem_flatMap.1 hb;obtain⟨oi,hoi,hoo⟩:=hown i hi;obtain⟨k1,k2,k3⟩:=jl hR.inv hoi hoo hb;refine⟨k1,?_⟩;by_cases h1:b<w.heap.size
   .by_cases h2:b∈fp
    .exact .inl h2
    .by_cases h3:S b
     .exact absurd (hs.sub _ h3) k1
     .exact absurd ⟨h1,h2,h3⟩ k2
   .exact .inr (by omega)
  .refine ⟨fun b hb=>hb.1,fun b hb=>?_,hfrm.grow,hfrm.sO,hfrm.aW,hfrm.io⟩;by_cases h3:S b
   .exact hs.cK b h3
   .exact hfrm.ik b ⟨hb.1,hb.2,h3⟩
 have fin:wk (fun s=>s.gh.length=lent.length/\∃rs0,my gu s rs0 outs/\m9 m rs0=rs) s'->
   a'.defers=[]/\∃v,(results g a'.tmps).run P w'=.ok v w'/\∃v',Ending.returned v=Ending.returned v'/\Left S w fp rs outs (iJ as vs) v' w':=by
  rintro⟨s1,hsub,hgl,rs0,hlv,rfl⟩;obtain⟨S1,Kn1,φ1,hs1,hR1⟩:=hsub S' _ w Kn' φ' _ _ a' w' hR;obtain⟨q1,v,q2,v',q3,q4⟩:=main s1 rs0 S1 Kn1 φ1 (hs.trans hs1) hR1 hgl hlv;exact⟨q1,v,q2,v',q3,q4.sO m⟩
 cases o with|exit id=>exact hl.elim|normal=>exact fin hl|ret=>exact fin hl
theorem zG(hm:P.follows .mixedOrders=true){f np:Nat}{F:Fn}(hF:nD P QC f np=some F){as:List A}{rs:List R}{outs:List T}
  {m:List Bool} (h:J5 P F m as rs outs):ow P f as rs outs:=
 C7 hm hF ⟨h.1,fun _ _ _ _ _ _ _ _ _ hR=>⟨_,h.2,hR⟩⟩
end
section
variable{P:Program}{s s':St}{e:fN}{h:aY}{n:Nat}{gh:List C}
theorem Sub.heap{h':aY}{n':Nat}(hh:∀id,ak h' id=ak h id\/ak h' id=none)(hn:n<=n'):Sub ⟨e,h,n,gh⟩ ⟨e,h',n',gh⟩:=by intro S K w0 Kn φ gv nt a w hR;exact⟨S,Kn,φ,WJ.refl S w,hR.inv.Mg fun id o ho=>(hh id).elim (fun q=>q▸ho) fun q=>by rw[q]at ho;simp at ho,hR.bS,hR.size,hR.defers,fun j hj=>hR.dP j (Nat.le_trans hn hj),hR.gh⟩
theorem w_{id id2 sz sz2 cU:Nat}{slots:List gH}{rows:List (List D)}(ho:ak h id=some (.nst sz slots))(hs:slots[cU]?=some (.ku id2 rows.length))(h2:ak h id2=some (.aB sz2 rows)):
  Sub ⟨e,h,n,gh⟩ ⟨e,(id,some (.nst sz (slots.set cU (.aW rows))))::(id2,none)::h,n,gh⟩:=by
 intro S K w0 Kn φ gv nt a w hR;have e1:ak ((id,some (.nst sz (slots.set cU (.aW rows))))::(id2,none)::h)=aU [(id,some (.nst sz (slots.set cU (.aW rows)))),(id2,none)] (ak h):=dZ [(id,some (.nst sz (slots.set cU (.aW rows)))),(id2,none)] h;exact⟨S,Kn,φ,WJ.refl S w,e1▸hR.inv.DP ho hs h2,hR.bS,hR.size,hR.defers,hR.dP,hR.gh⟩
theorem Ed{t id sz szo off len:Nat}{rows rows':List (List D)}(ht:bv e t=some (.c (.da sz id off len)))(ho:ak h id=some (.aB szo rows))(hr:(rows.drop off).take len=rows')(hle:off+len<=rows.length):
  Sub ⟨e,h,n,gh⟩ ⟨(t,.c (.da sz n 0 len))::e,(id,none)::(n,some (.aB sz rows'))::h,n+1,gh⟩:=by
 intro S K w0 Kn φ gv nt a w hR;have hn:¬Kn n:=hR.dP n (ai _);have hI:=hR.inv;obtain⟨hk0,h0⟩:=hI.fh _ _ ho;have hne:id≠n:=fun e=>hn (e▸hk0);have hv:=hR.bS t _ ht;generalize hval:a.tmps.getD t undef=val at hv;cases hv with
 |c hv=>
 have hkill:Inv S K w0 Kn φ (aU [(id,none)] (ak h)) w:=hI.Mg fun i o ho=>by
  rw[bk]at ho;split at ho
  .simp at ho
  .exact ho
 have hfree:∀i o,aU [(id,none)] (ak h) i=some o->bF o=true->(φ id).bH∉adh w φ (aU [(id,none)] (ak h)) i:=by
  intro i o hi hown hm;have hi':=hi;rw[bk]at hi';split at hi'
  .simp at hi'
  .rename_i hne2;rw[dU rfl (hi.trans hi'.symm)]at hm;exact MA hI hi' ho hown rfl (fun e=>hne2 e.symm) hm (gE id)
 generalize hphi:φ id=l at*;cases h0 with
 |@aB _ _ aB hsz0 hl hS hK hown hext hfit hrr hvis=>
 obtain⟨cap,addr,rfl,hszl,hk,hcap,haddr,hextc,hcl⟩:=hv.gk;rw[hphi]at haddr hextc hszl hcl;obtain rfl:sz=szo:=by rw[<-hl,hszl]
 rw[hl]at haddr hextc;subst hr;have hlen:((rows.drop off).take len).length=len:=by simp;omega
 have hcm:len*sz<=cap*sz:=Nat.mul_le_mul_right _ hcap;have hR2:bG S w sz (fun i=>aB[i]?) addr ((rows.drop off).take len):=hrr.pH off len fun h=>haddr (by omega)
 have hname:=hkill.name hn ⟨l.bH,addr,sz,l.ext,cap⟩ (.aB sz ((rows.drop off).take len)) (fun _ j b hj hb hm=>hfree j b hj hb hm)
  (.aB hsz0 rfl hS hK hown hext (by rw[hlen];simp only;omega) hR2 (by rw[hlen];exact hcap))
 have hren:mS Kn φ (fun j=>Kn j\/j=n) (ext φ n ⟨l.bH,addr,sz,l.ext,cap⟩):=fP _ hn;refine⟨S,fun j=>Kn j\/j=n,ext φ n ⟨l.bH,addr,sz,l.ext,cap⟩,WJ.refl S w,⟨?_,?_,hR.size,hR.defers,?_,?_⟩⟩
 .have:ak ((id,none)::(n,some (.aB sz ((rows.drop off).take len)))::h)=aU [(n,some (.aB sz ((rows.drop off).take len)))] (aU [(id,none)] (ak h)):=by have e1:ak ((id,none)::(n,some (Ob.aB sz ((rows.drop off).take len)))::h)=aU ([(id,none)]++[(n,some (.aB sz ((rows.drop off).take len)))]) (ak h):=dZ [(id,none),(n,some (.aB sz ((rows.drop off).take len)))] h;rw[e1,<-cF];exact iu (u:=[(id,none)]) fun p hp q hq=>by obtain rfl:=ao.1 hp;obtain rfl:=ao.1 hq;exact hne
  rw[this];exact hname
 .intro t' x hx;simp only[bv]at hx;by_cases et:t=t'
  .subst et;simp at hx;subst hx;rw[hval];have e:ext φ n ⟨l.bH,addr,sz,l.ext,cap⟩ n=⟨l.bH,addr,sz,l.ext,cap⟩:=by simp[ext]
   have:=RC.da (S:=S) (w:=w) (Kn:=fun j=>Kn j\/j=n) (φ:=ext φ n ⟨l.bH,addr,sz,l.ext,cap⟩) (id:=n) (off:=0) (len:=len) (cap:=cap) (addr:=addr)
    (.inr rfl) hcap (by rw[e];simp) (by rw[e];exact hextc) (by rw[e];simp)
   rw[e]at this;rw[hphi];exact .c this
  .have e':(t==t')=false:=by simpa using et
   rw[e',cond_false]at hx;exact(hR.bS t' x hx).mono (WJ.refl _ _) hren
 .intro j hj hk;simp only at hj;rcases hk with hk|hk
  .exact hR.dP j (by simp only;omega) hk
  .omega
 .intro i c v hc hv;exact(hR.gh i c v hc hv).mono (WJ.refl _ _) hren
theorem wk.sub{Q:St->Prop}(hs:Sub s s')(h:wk Q s'):wk Q s:=let⟨s1,h1,h2⟩:=h;⟨s1,hs.trans h1,h2⟩
theorem wk.mono{Q Q':St->Prop}(h:wk Q s)(hq:∀s,Q s->Q' s):wk Q' s:=let⟨s1,h1,h2⟩:=h;⟨s1,h1,hq _ h2⟩
theorem WO.mono{Q Q':St->Prop}(hq:∀s,Q s->Q' s):∀{ops:List iX}{s:St},WO P ops s Q->WO P ops s Q':=by
 intro ops;induction ops with
 |nil=>intro s h;exact wk.mono h hq
 |cons o r ih=>
  intro s h;obtain⟨s1,h1,h⟩:=h;refine⟨s1,h1,?_⟩;rcases h with⟨hw,call,v,u,aj,n,hok,hev,h⟩|⟨hw,h⟩
  .exact .inl ⟨hw,call,v,u,aj,n,hok,hev,ih h⟩
  .exact .inr ⟨hw,ih h⟩
theorem WO.sub{Q:St->Prop}{ops:List iX}(hs:Sub s s')(h:WO P ops s' Q):WO P ops s Q:=by cases ops with|nil=>exact wk.sub hs h|cons o r=>obtain⟨s1,h1,h⟩:=h;exact⟨s1,hs.trans h1,h⟩
theorem nd.mono{R R':St->Prop}{Q Q':kP->St->Prop}(hr:∀s,R s->R' s)(hq:∀o s,Q o s->Q' o s):∀o s,nd R Q o s->nd R' Q' o s:=by intro o s h;cases o with|normal=>exact hr _ h|exit id=>exact hq _ _ h|ret=>exact hq _ _ h
theorem ov.mono{id:Nat}{Q Q':kP->St->Prop}(hq:∀o s,Q o s->Q' o s):∀o s,ov id Q o s->ov id Q' o s:=by
 intro o s h;cases o with
 |normal=>exact hq _ _ h
 |ret=>exact hq _ _ h
 |exit id'=>
  simp only[ov]at h|-;split at h
  .rw [if_pos (by assumption)];exact hq _ _ h
  .rw [if_neg (by assumption)];exact hq _ _ h
theorem W.mono:∀{c:CC}{s:St}{Q Q':kP->St->Prop},(∀o s,Q o s->Q' o s)->W P c s Q->W P c s Q':=by intro c;induction c with|seq a b iha ihb=>intro s Q Q' hq h;exact iha (nd.mono (fun s h=>ihb hq h) hq) h|cond c a b iha ihb=>intro s Q Q' hq h;obtain⟨s1,h0,t,h1,h2,h3⟩:=h;exact⟨s1,h0,t,h1,fun ht=>iha hq (h2 ht),fun ht=>ihb hq (h3 ht)⟩|block id a ih=>intro s Q Q' hq h;exact ih (ov.mono hq) h|loop ik a ih=>intro s Q Q' hq h;obtain⟨I,n,h1,h2⟩:=h;exact⟨I,n,h1,fun n s hi=>ih (nd.mono (fun s h=>h) hq) (h2 n s hi)⟩|skip=>intro s Q Q' hq h;exact wk.mono h fun s h=>hq _ _ h|exit id=>intro s Q Q' hq h;exact wk.mono h fun s h=>hq _ _ h|ret=>intro s Q Q' hq h;exact wk.mono h fun s h=>hq _ _ h|region ops ik=>intro s Q Q' hq h;exact WO.mono (fun s h=>h.mono fun s h=>hq _ _ h) h|drawn ops dyn ik=>intro s Q Q' hq h;obtain⟨s1,h0,calls,e,hh,tr,h1,h2,h3,h4⟩:=h;exact⟨s1,h0,calls,e,hh,tr,h1,h2,h3,h4.mono fun s h=>hq _ _ h⟩|dL=>intro s Q Q' hq h;exact h
theorem W.sub:∀{c:CC}{s s':St}{Q:kP->St->Prop},Sub s s'->W P c s' Q->W P c s Q:=by intro c;induction c with|seq a b iha ihb=>intro s s' Q hs h;exact iha hs h|cond c a b iha ihb=>intro s s' Q hs h;obtain⟨s1,h0,h1⟩:=h;exact⟨s1,hs.trans h0,h1⟩|block id a ih=>intro s s' Q hs h;exact ih hs h|loop ik a ih=>intro s s' Q hs h;obtain⟨I,n,h1,h2⟩:=h;exact⟨I,n,wk.sub hs h1,h2⟩|skip=>intro s s' Q hs h;exact wk.sub hs h|exit id=>intro s s' Q hs h;exact wk.sub hs h|ret=>intro s s' Q hs h;exact wk.sub hs h|region ops ik=>intro s s' Q hs h;exact WO.sub hs h|drawn ops dyn ik=>intro s s' Q hs h;obtain⟨s1,h0,h1⟩:=h;exact⟨s1,hs.trans h0,h1⟩|dL=>intro s s' Q hs h;exact h
section
variable{Q:kP->St->Prop}
theorem FH{a b:CC}(h:W P a s (nd (fun s'=>W P b s' Q) Q)):W P (.seq a b) s Q:=h
theorem D5{id:Nat}{a:CC}(h:W P a s (ov id Q)):W P (.block id a) s Q:=h
theorem Gf{c:Operand}{a b:CC}{t:Bool}(hc:L9 s.bS c=some (.c (.d (.lit (.bool t)))))(h1:t=true->W P a s Q)(h2:t=false->W P b s Q):W P (.cond c a b) s Q:=⟨s,Sub.refl s,t,hc,h1,h2⟩
theorem Bz{ops:List iX}{ik:List Nat}(h:WO P ops s fun s'=>wk (Q .normal) s'):W P (.region ops ik) s Q:=h
end
def iH{α β:Type}(f:α->Option (α⊕β)):Nat->α->Option β
 |0,_=>none
 |n+1,a=>match f a with|some (.inl a')=>iH f n a'|some (.inr b)=>some b|none=>none
theorem pu{α β:Type}{f:α->Option (α⊕β)}:∀{n m:Nat}{a:α}{b:β},n<=m->iH f n a=some b->iH f m a=some b:=by
 intro n;induction n with
 |zero=>intro m a b _ h;simp[iH]at h
 |succ n ih=>
  intro m a b hm h;cases m with
  |zero=>omega
  |succ m=>
   simp only[iH]at h|-;split at h
   .exact ih (by omega) h
   .exact h
   .simp at h
open Classical in
def zu{α β:Type}(f:α->Option (α⊕β))(a:α):Option β:=if h:∃n b,iH f n a=some b then some (fg (cW h))else none
theorem tU{α β:Type}{f:α->Option (α⊕β)}{a:α}{b:β}:zu f a=some b<->∃n,iH f n a=some b:=by
 constructor
 .intro h;unfold zu at h;split at h
  .rename_i hx;refine⟨fg hx,?_⟩;rw[cW (cW hx)];exact h
  .simp at h
 .rintro ⟨n,hn⟩;have hx:∃n b,iH f n a=some b:=⟨n,b,hn⟩
  unfold zu;rw[dif_pos hx];have h2:=cW (cW hx);have h3:=pu (Nat.le_max_left n (fg hx)) hn;have h4:=pu (Nat.le_max_right n (fg hx)) h2;rw[h3]at h4;rw[<-h4]
theorem N7{α β:Type}(f:α->Option (α⊕β))(a:α):zu f a=match f a with
  |some (.inl a')=>zu f a'
  |some (.inr b)=>some b
  |none=>none:=by
 apply Option.ext;intro b;rw[tU];constructor
 .rintro ⟨n,hn⟩;cases n with
  |zero=>simp[iH]at hn
  |succ n=>
   simp only[iH]at hn;split at hn
   .exact tU.2 ⟨n,hn⟩
   .exact hn
   .simp at hn
 .intro h;split at h
  .rename_i a' ha;obtain⟨n,hn⟩:=tU.1 h;exact⟨n+1,by simp only[iH,ha];exact hn⟩
  .rename_i b' ha;exact⟨1,by simp only[iH,ha];exact h⟩
  .simp at h
theorem LK{α β:Type}{f:α->Option (α⊕β)}{a a':α}(h:f a=some (.inl a')):zu f a=zu f a':=by rw[N7,h]
theorem LJ{α β:Type}{f:α->Option (α⊕β)}{a:α}{b:β}(h:f a=some (.inr b)):zu f a=some b:=by rw[N7,h]
def kJ:Ev.Call:=fun _ _=>none
theorem kW:fB P kJ:=fun _ _ _ _ h=>by simp[kJ]at h
section
variable{Q:St->Prop}{r:List iX}{d:Nat}{k:K}{args:List Operand}{v:TV}{u:de}{aj:List Nat}{m g:Nat}{b c:Bool}
def C8:Option TV->Option (FuncId×List C)
 |some (.c (.d (.fn f caps)))=>some (f,caps.map C.d)
 |some (.c (.jy f caps))=>some (f,caps)
 |_=>none
def callee(h:aY)(ga:List Bool):List (Option TV)->Option (FuncId×List A)
 |f::vs=>
  match C8 f,cD vs with
  |some (f,caps),some vs=>match dQ h (vs++caps.map TV.c) ga with|some (as,_,_)=>some (f,as)|none=>none
  |_,_=>none
 |[]=>none
def ny(h:aY)(nxt:Nat)(ro:Bool)(aj:List Nat)(lent:List (C×List Nat×List Nat)):Option (List R×List T)->yO
 |none=>none
 |some (rs,outs)=>
  if ro then
   if rs.all oX/\outs.all xE then
    match cq nxt lent outs with|none=>none|some (bu,m)=>some (Sq (J9 m rs).1,(J9 m rs).2.1++bu,aj++lent.flatMap (·.2.2),(J9 m rs).2.2)
   else none
  else
   match b_ h aj aj with
   |none=>none
   |some fu=>match cq nxt lent outs with|none=>none|some (bu,m)=>some (Sq (J9 m rs).1,(J9 m rs).2.1++bu++fu,aj++lent.flatMap (·.2.2),(J9 m rs).2.2)
theorem sS(call:Ev.Call)(ro:Bool)(ga:List Bool)(fv:Option TV)(vs:List (Option TV))(h:aY)(nxt:Nat):
  nz call ro ga fv vs h nxt=match C8 fv,cD vs with
   |some (f,caps),some vs=>match dQ h (vs++caps.map TV.c) ga with|none=>none|some (as,aj,lent)=>if cI h lent/\(lent.flatMap (fun(p:C×List Nat×List Nat)=>p.2.1)).Nodup/\(lent.flatMap (fun(p:C×List Nat×List Nat)=>p.2.1)).all (fun i=>!aj.contains i)then ny h nxt ro aj lent (call f as)else none
   |_,_=>none:=by
 have e1:∀(o:Option (List R×List T))(aj:List Nat)(lent:List (C×List Nat×List Nat)),(match o with
    |none=>none
    |some (rs,outs)=>
     if ro then
      if rs.all oX/\outs.all xE then
       match cq nxt lent outs with
       |none=>none
       |some (bu,m)=>
        let(vs,u,k):=J9 m rs
        some (Sq vs,u++bu,aj++lent.flatMap (fun(p:C×List Nat×List Nat)=>p.2.2),k)
      else none
     else
      match b_ h aj aj with
      |none=>none
      |some fu=>
       match cq nxt lent outs with
       |none=>none
       |some (bu,m)=>
        let(vs,u,k):=J9 m rs
        some (Sq vs,u++bu++fu,aj++lent.flatMap (fun(p:C×List Nat×List Nat)=>p.2.2),k))=ny h nxt ro aj lent o:=by
  intro o aj lent;cases o with|none=>rfl|some p=>rfl
 have e2:(match fv with|some (.c (.d (.fn f caps)))=>some (f,caps.map C.d)|some (.c (.jy f caps))=>some (f,caps)|_=>none)=C8 fv:=rfl
 show(match(match fv with|some (.c (.d (.fn f caps)))=>some (f,caps.map C.d)|some (.c (.jy f caps))=>some (f,caps)|_=>none),cD vs with
   |some (f,caps),some vs=>
    match dQ h (vs++caps.map TV.c) ga with
    |none=>none
    |some (as,aj,lent)=>
     if cI h lent/\(lent.flatMap (fun(p:C×List Nat×List Nat)=>p.2.1)).Nodup/\(lent.flatMap (fun(p:C×List Nat×List Nat)=>p.2.1)).all (fun i=>!aj.contains i)then
      (match call f as with
    |none=>none
    |some (rs,outs)=>
     if ro then
      if rs.all oX/\outs.all xE then
       match cq nxt lent outs with
       |none=>none
       |some (bu,m)=>
        let(vs,u,k):=J9 m rs
        some (Sq vs,u++bu,aj++lent.flatMap (fun(p:C×List Nat×List Nat)=>p.2.2),k)
      else none
     else
      match b_ h aj aj with
      |none=>none
      |some fu=>
       match cq nxt lent outs with
       |none=>none
       |some (bu,m)=>
        let(vs,u,k):=J9 m rs
        some (Sq vs,u++bu++fu,aj++lent.flatMap (fun(p:C×List Nat×List Nat)=>p.2.2),k))else none
   |_,_=>none)=_
 simp only[e1,e2]
open Classical in
def only(f:FuncId)(as:List A)(rs:List R)(outs:List T):Ev.Call:=fun f' as'=>if f'=f/\as'=as then some (rs,outs)else none
theorem zi{f:FuncId}{as:List A}{rs:List R}{outs:List T}(hg:ow P f as rs outs):fB P (only f as rs outs):=by
 intro f' as' rs' outs' h;unfold only at h;split at h
 .rename_i he;obtain⟨rfl,rfl⟩:=he;obtain⟨rfl,rfl⟩:=ad (aa h);exact hg
 .simp at h
theorem NX{f:FuncId}{as:List A}{rs:List R}{outs:List T}{ro:Bool}{ga:List Bool}{vs:List (Option TV)}{x:TV×de×List Nat×Nat}
  (h2:callee h ga vs=some (f,as)) (h1:bD (fun _ _=>some (rs,outs)) (.call ro ga) vs h n=some x):bD (only f as rs outs) (.call ro ga) vs h n=some x:=by
 cases vs with
 |nil=>simp[callee]at h2
 |cons fv vs=>
  simp only[callee]at h2;simp only[bD,sS]at h1|-;split at h2
  .rename_i f' caps vs' hf hvs;simp only[hf,hvs]at h1|-;split at h2
   .rename_i as' aj lent hargs;obtain⟨rfl,rfl⟩:=ad (aa h2);rw[hargs]at h1|-;simp only[only,and_self,if_true]at h1|-;exact h1
   .simp at h2
  .simp at h2
theorem zN{fv:Option TV}{ovs:List (Option TV)}{vs:List TV}{f:FuncId}{caps:List C}{as:List A}{aj:List Nat}{lent:List (C×List Nat×List Nat)}{ro:Bool}{ga:List Bool}{rs:List R}{outs:List T}{x:TV×de×List Nat×Nat}
  (hf:C8 fv=some (f,caps)) (hv:cD ovs=some vs) (ha:dQ h (vs++caps.map TV.c) ga=some (as,aj,lent)) (hw:cI h lent=true)
  (hn:decide ((lent.flatMap (fun(p:C×List Nat×List Nat)=>p.2.1)).Nodup/\(lent.flatMap (fun(p:C×List Nat×List Nat)=>p.2.1)).all (fun i=>!aj.contains i)=true)=true)
  (hl:ny h n ro aj lent (some (rs,outs))=some x):
  callee h ga (fv::ovs)=some (f,as)/\bD (fun _ _=>some (rs,outs)) (.call ro ga) (fv::ovs) h n=some x:=by
 have hn':=of_decide_eq_true hn;constructor
 .simp only[callee,hf,hv,ha]
 .simp only[bD,sS,hf,hv,ha];rw[if_pos ⟨hw,hn'⟩];exact hl
theorem Jp{aj:List Nat}{lent:List (C×List Nat×List Nat)}{rs:List R}{outs:List T}{fu bu:de}{m:Nat}(hz:b_ h aj aj=some fu)(hb:cq n lent outs=some (bu,m)):
  ny h n false aj lent (some (rs,outs))=some (Sq (J9 m rs).1,(J9 m rs).2.1++bu++fu,aj++lent.flatMap (·.2.2),(J9 m rs).2.2):=by
 simp only[ny,hz,hb,aG,if_false]
theorem ET{aj:List Nat}{lent:List (C×List Nat×List Nat)}{rs:List R}{outs:List T}{bu:de}{m:Nat}(h1:rs.all oX=true)(h2:outs.all xE=true)(hb:cq n lent outs=some (bu,m)):
  ny h n true aj lent (some (rs,outs))=some (Sq (J9 m rs).1,(J9 m rs).2.1++bu,aj++lent.flatMap (·.2.2),(J9 m rs).2.2):=by
 simp only[ny,h1,h2,hb,and_self,if_true]
theorem Fp{sz id len k:Nat}{rows:List (List D)}{rd:List Nat}{r:List (C×List Nat×List Nat)}{ts:List T}{w:de}(hl:rows.length=len)(hr:cq n r ts=some (w,k)):
  cq n ((.da sz id 0 len,[id],rd)::r) (.sl sz rows::ts)=some ((id,some (.aB sz rows))::w,k):=by
 simp only[cq,hl,hr,and_self,if_true]
theorem Fo{id k:Nat}{aW rd:List Nat}{r:List (C×List Nat×List Nat)}{ts' ts:List T}{w:de}(hc:aW.contains id=true)(hr:cq (eW n ts').2.2 r ts=some (w,k)):
  cq n ((.op id 0,aW,rd)::r) (.pt ts'::ts)=some ((id,some (.box (eW n ts').1))::(eW n ts').2.1++aW.map (fun i=>(i,none))++w,k):=by
 simp only[cq,hr,hc,if_true]
theorem Bo{c:C}{aW rd:List Nat}{k:Nat}{r:List (C×List Nat×List Nat)}{ts:List T}{w:de}(hr:cq n r ts=some (w,k)):cq n ((c,aW,rd)::r) (.Nl::ts)=some (aW.map (fun i=>(i,none))++w,k):=by simp[cq,hr]
theorem Jv{c:C}{vs:List TV}{ms:List Bool}{as:List A}{aj i:List Nat}{lent:List (C×List Nat×List Nat)}{x:D}(hv:cz h 300 c=some (x,i))(hm:ms.headD false=false)(hr:dQ h vs ms.tail=some (as,aj,lent)):
  dQ h (.c c::vs) ms=some (.d x::as,i++aj,lent):=by simp only[dQ,hr,hm,hv,aG,if_false]
theorem Hl{cs:List C}{vs:List TV}{ms:List Bool}{as:List A}{aj i:List Nat}{lent:List (C×List Nat×List Nat)}{xs:List D}(hv:cm h cs=some (xs,i))(hm:ms.headD false=false)(hr:dQ h vs ms.tail=some (as,aj,lent)):
  dQ h (.agg cs::vs) ms=some (.agg xs::as,i++aj,lent):=by simp only[dQ,hr,hm,hv,aG,if_false]
theorem IA{c:C}{vs:List TV}{ms:List Bool}{as:List A}{aj aW rd:List Nat}{lent:List (C×List Nat×List Nat)}{t:T}(hv:cG h 300 c=some (t,aW,rd))(hm:ms.headD false=true)(hr:dQ h vs ms.tail=some (as,aj,lent)):
  dQ h (.c c::vs) ms=some (.mt t::as,aj,(c,aW,rd)::lent):=by simp only[dQ,hr,hm,hv,if_true]
end
abbrev Tr:=List (List Nat×List Nat)
abbrev H7:=fN×aY×Tr
def DO(e:fN)(d:Option Nat)(h:aY)(tr:Tr)(top:Nat)(r:yO):Option H7:=match r with|some (v,u,aj,m)=>if m<=top then some (put e d v,u++h,tr++[(aj,u.map (·.1))])else none|none=>none
def uS(call:Ev.Call)(aF i:Nat)(o:iX)(s:H7):Option H7:=match gb s.1 o.guard with|some true=>DO s.1 o.dst s.2.1 s.2.2 (aF+e9*(i+1)) (bD call o.k (o.args.map (L9 s.1)) s.2.1 (aF+e9*i))|some false=>some (drop s.1 o.dst,s.2.1,s.2.2++[([],[])])|none=>none
def ud(calls:Nat->Ev.Call)(aF:Nat):List iX->Nat->H7->Option H7
 |[],_,s=>some s
 |o::r,i,s=>(uS (calls i) aF i o s).bind (ud calls aF r (i+1))
theorem E6{calls:Nat->Ev.Call}{aF:Nat}:∀(l:List iX)(i:Nat)(e:fN)(h:aY)(tr:Tr)(e':fN)(h':aY)(tr':Tr),ud calls aF l i (e,h,tr)=some (e',h',tr')->
  ∃t,ic calls aF l i e h=some (e',h',t)/\tr'=tr++t:=by
 intro l;induction l with
 |nil=>
  intro i e h tr e' h' tr' hh;obtain⟨rfl,rfl,rfl⟩:e=e'/\h=h'/\tr=tr':=by simpa[ud]using hh
  exact⟨[],rfl,by simp⟩
 |cons o r ih=>
  intro i e h tr e' h' tr' hh;unfold ud uS at hh;unfold ic;cases hw:gb e o.guard with
  |none=>simp[hw]at hh
  |some b=>
   cases b with
   |false=>simp only[hw,aR]at hh;obtain⟨t,h1,h2⟩:=ih _ _ _ _ _ _ _ hh;exact⟨([],[])::t,by simp[h1],by simp[h2]⟩
   |true=>
    simp only[hw]at hh;cases hv:bD (calls i) o.k (o.args.map (L9 e)) h (aF+e9*i)with
    |none=>simp[hv,DO]at hh
    |some p=>
     obtain⟨v,u,aj,m⟩:=p;simp only[hv,DO]at hh;by_cases hm:m<=aF+e9*(i+1)
     .rw [if_pos hm,aR]at hh;obtain⟨t,h1,h2⟩:=ih _ _ _ _ _ _ _ hh;exact⟨(aj,u.map (·.1))::t,by simp[hm,h1],by simp[h2]⟩
     .rw [if_neg hm]at hh;simp at hh
theorem yl{calls calls':Nat->Ev.Call}{aF:Nat}:∀(l:List iX)(i:Nat)(s:H7),(∀j,i<=j->calls j=calls' j)->ud calls aF l i s=ud calls' aF l i s:=by intro l;induction l with|nil=>intro i s _;rfl|cons o r ih=>intro i s hc;simp only[ud,hc i (ai _)];congr 1;funext s';exact ih (i+1) s' fun j hj=>hc j (by omega)
def WD(P:Program)(aF:Nat)(ops:List iX)(i:Nat)(e:fN)(h:aY)(tr:Tr)(Q:fN->aY->Tr->Prop):Prop:=∃calls,(∀j,fB P (calls j))/\∃e' h' tr',ud calls aF ops i (e,h,tr)=some (e',h',tr')/\Q e' h' tr'
theorem D4{Q:kP->St->Prop}{ops:List iX}{dyn:List (Nat×Nat)}{ik:List Nat}
  (hw:WD P n ops 0 e h [] fun e' h' tr=>rk tr dyn=true/\wk (Q .normal) ⟨e',h',n+e9*ops.length,gh⟩):W P (.drawn ops dyn ik) ⟨e,h,n,gh⟩ Q:=by
 obtain⟨calls,hok,e',h',tr',h1,hd,hq⟩:=hw;obtain⟨t,h4,ht⟩:=E6 _ _ _ _ _ _ _ _ h1;obtain rfl:tr'=t:=by simpa using ht
 exact⟨_,Sub.refl _,calls,e',h',_,hok,h4,hd,hq⟩
section
variable{aF i:Nat}{ops r:List iX}{tr:Tr}{Q:fN->aY->Tr->Prop}{d:Nat}{k:K}{args:List Operand}{v:TV}{u:de}{aj:List Nat}{m g:Nat}{b c:Bool}
theorem IH(hq:Q e h tr):WD P aF [] i e h tr Q:=⟨fun _=>kJ,fun _=>kW,e,h,tr,rfl,hq⟩
theorem Dl{call:Ev.Call}{o:iX}{e1:fN}{h1:aY}{tr1:Tr}(hok:fB P call)(hs:uS call aF i o (e,h,tr)=some (e1,h1,tr1))(hq:WD P aF r (i+1) e1 h1 tr1 Q):WD P aF (o::r) i e h tr Q:=by
 obtain⟨calls,hc,e',h',tr',h2,h3⟩:=hq;refine⟨fun j=>if j=i then call else calls j,fun j=>?_,e',h',tr',?_,h3⟩
 .show fB P (if j=i then call else calls j);split
  .exact hok
  .exact hc j
 .simp only[ud,if_true,hs,aR];rw[yl (calls':=calls) r (i+1) _ fun j hj=>if_neg (by omega)];exact h2
theorem HM{e:fN}{dd:Option Nat}{top:Nat}(hm:m<=top):DO e dd h tr top (some (v,u,aj,m))=some (put e dd v,u++h,tr++[(aj,u.map (·.1))]):=by simp only[DO];rw[if_pos hm]
theorem Eo:aF+e9*i<=aF+e9*(i+1):=by simp only[e9];omega
end
inductive Fg:aY->aY->Prop
 |nil:Fg [] []
 |cons {p:Nat×Option Ob} {a b:aY} (h:Fg a b):Fg (p::a) (p::b)
 |skip {i:Nat} {a b:aY} (h:Fg a b):Fg a ((i,none)::b)
end
end Go.Ev
