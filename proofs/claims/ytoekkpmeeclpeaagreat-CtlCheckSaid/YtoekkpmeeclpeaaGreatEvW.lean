/- A region in any order, against the text's order. Conditions: operations whose names meet are ordered by the text; operations whose objects meet are ordered by the text, or the check at the run says that they do not meet. -/
import Derived.Test.YtoekkpmeeclpeaaGreatEvR
import Derived.Orders
import Derived.Scope
open Array renaming getD_eq_getD_getElem?->cV,getElem?_eq_getElem->mj,getElem?_eq_some_iff->bq,replicate->kJ
open Bool renaming and_eq_true->ak,false_eq_true->bD
open Classical renaming choose->mg,choose_spec->gK
open List renaming all_eq_true->bg,flatMap_append->fF,getD_eq_getElem?_getD->iX,getElem?_eq_getElem->ao,getElem?_eq_some_iff->aB,getElem?_map->aN,length_eq_zero_iff->aO,mem_append->aC,mem_append_left->aU,mem_append_right->aX,mem_cons_of_mem->aI,mem_flatten->dP,mem_of_getElem?->aF,nodup_append->da
open List.Sublist renaming refl->bT
open Nat renaming add_assoc->di,add_sub_cancel'->jK,le_refl->am,lt_or_ge->eZ,mul_le_mul_left->gz,zero_add->bS
open Option renaming bind_some->ae,map_eq_some_iff->aH
open Option.some renaming inj->aa,injEq->eY
open Prod.mk renaming inj->af,injEq->iL
noncomputable section
namespace Go.Ev
def D3:Ev.K->Nat
 |.mv|.pick|.build _ _|.nilCheck|.A6 _|.vX _|.rT _ _|.AO _ _|.un _|.xg _|.Ga _|.ur|.KQ _|.fieldAddr _ _|.field _ _ _
 |.indexAddr _ _|.ql|.index _ _ _|.extract _|.len _|.sO _|.fL=>0
 |.load _ _|.lookup _ _ _ _ _|.slice _ _ _ _=>1
 |_=>2
set_option maxHeartbeats 2000000 in
theorem Nz{call:Call}{k:Ev.K}{vs:List (Option TV)}{H:bp}{nxt n:Nat}{v:TV}{u:eW}{av:List Nat}(hk:D3 k<=1)(h:ci call k vs H nxt=some (v,u,av,n)):u=[]:=by
 cases k<;>first
  |(simp[D3]at hk;done)
  |(unfold ci at h
    repeat' split at h
    all_goals first
     |(simp at h;done)
     |(simp only[eY,iL]at h;exact h.2.1.symm)
     |(simp_all;done))
set_option maxHeartbeats 2000000 in
theorem Ny{call:Call}{k:Ev.K}{vs:List (Option TV)}{H:bp}{nxt n:Nat}{v:TV}{u:eW}{av:List Nat}(hk:D3 k=0)(h:ci call k vs H nxt=some (v,u,av,n)):av=[]:=by
 cases k<;>first
  |(simp[D3]at hk;done)
  |(unfold ci at h
    repeat' split at h
    all_goals first
     |(simp at h;done)
     |(simp only[eY,iL]at h;exact h.2.2.1.symm)
     |(simp_all;done))
def qo(acc:List Nat):List Edge->Nat
 |[]=>0
 |e::r=>if Region.binds .any e then(qo acc r)|||2^e.on|||acc.getD e.on 0 else qo acc r
def OO:List Oper->List Nat->List Nat
 |[],acc=>acc
 |o::r,acc=>OO r (acc++[qo acc o.after.toList])
def Aj(m:List Nat):List Oper->Nat->Bool
 |[],_=>true
 |o::r,i=>m.getD i 0==qo m o.after.toList&&o.after.toList.all (fun e=>!(Region.binds .any e)||decide (e.on<i))&&Aj m r (i+1)
def eU(m:List Nat)(i j:Nat):Bool:=(m.getD j 0).testBit i
def Y1:Operand->Option Nat
 |.tmp t=>some t
 |_=>none
def HF(o:ol):List Nat:=o.args.filterMap Y1++(match o.guard with|some (t,_)=>[t]|none=>[])
def K2(d:Option Nat)(l:List Nat):Bool:=match d with|some d=>l.contains d|none=>false
def AW(a b:ol):Bool:=K2 a.dst (HF b)||K2 b.dst (HF a)||K2 a.dst b.dst.toList
def wv(m:List Nat)(i:Nat)(a:ol):List ol->Nat->Bool
 |[],_=>true
 |b::r,j=>(eU m i j||!AW a b)&&wv m i a r (j+1)
def zU(m:List Nat):List ol->Nat->Bool
 |[],_=>true
 |a::r,i=>wv m i a r (i+1)&&zU m r (i+1)
def GX:Value->Value->Bool
 |.int k a,.int k' b=>decide (k=k')&&decide (a=b)
 |.bool a,.bool b=>decide (a=b)
 |.string a,.string b=>decide (a.toList=b.toList)
 |.float k a,.float k' b=>decide (k=k')&&decide (a=b)
 |.slice none 0 0,.slice none 0 0|.pointer none,.pointer none|.map none,.map none|.nilFunc,.nilFunc|.nilIface,.nilIface=>true
 |_,_=>false
def BX:List Value->List Value->Bool
 |[],[]=>true
 |x::xs,y::ys=>GX x y&&BX xs ys
 |_,_=>false
def BT:Ev.K->Ev.K->Bool
 |.lookup ka ks va z false,.mapEntry ka' ks' va' z'=>decide (ka=ka')&&decide (ks=ks')&&decide (va=va')&&BX z z'
 |_,_=>false
def yh(m:List Nat)(i:Nat)(a:ol):List ol->Nat->List (Nat×Nat)
 |[],_=>[]
 |b::r,j=>if eU m i j||D3 b.k==0||D3 b.k+D3 a.k<=2 then yh m i a r (j+1)else(i,if BT a.k b.k then 1000+j else j)::yh m i a r (j+1)
def up(m:List Nat):List ol->Nat->List (Nat×Nat)
 |[],_=>[]
 |a::r,i=>(if D3 a.k==0 then[]else yh m i a r (i+1))++up m r (i+1)
def yj(ops:List Oper)(cops:List ol)(lK:List Nat):CC:=
 let m:=OO ops []
 if Aj m ops 0&&zU m cops 0&&decide (cops.length<=1000)then .drawn cops (up m cops 0) lK else .fL
theorem BC{acc:List Nat}{j:Nat}:∀{es:List Edge},(qo acc es).testBit j=true->∃e∈es,Region.binds .any e=true/\(e.on=j\/(acc.getD e.on 0).testBit j=true):=by
 intro es;induction es with
 |nil=>intro h;simp[qo]at h
 |cons e r ih=>
  intro h;simp[qo]at h
  grind
theorem Hn{m:List Nat}:∀{l:List Oper}{i:Nat},Aj m l i=true->∀(k:Nat)(o:Oper),l[k]?=some o->
  (∀j,eU m j (i+k)=true->∃e∈o.after,Region.binds .any e=true/\(e.on=j\/eU m j e.on=true))/\∀e∈o.after,Region.binds .any e=true->e.on<i+k:=by
 intro l;induction l with
 |nil=>intro i _ k o hk;simp at hk
 |cons o0 r ih=>
  intro i h k o hk;simp only[Aj,ak]at h;obtain⟨⟨h1,h2⟩,h3⟩:=h;cases k with
  |zero=>
   obtain rfl:o0=o:=by simpa using hk
   refine⟨fun j hj=>?_,fun e he hb=>?_⟩
   .unfold eU at hj;rw[Nat.add_zero,(by simpa using h1:m.getD i 0=_)]at hj;obtain⟨e,he,h'⟩:=BC hj;exact⟨e,by simpa using he,h'⟩
   grind
  |succ k=>
   have:=ih h3 k o (by simpa using hk)
   grind
theorem Bq{m:List Nat}{i:Nat}{a:ol}:∀{l:List ol}{j:Nat},wv m i a l j=true->∀(k:Nat)(b:ol),l[k]?=some b->eU m i (j+k)=true\/AW a b=false:=by
 intro l;induction l with
 |nil=>intro j _ k b hk;simp at hk
 |cons b0 r ih=>intro j h k b hk;simp[wv]at h;cases k with|zero=>simp_all|succ k=>have:=ih h.2 k b (by simpa using hk);rwa[show j+1+k=j+(k+1)by omega]at this
theorem GW{m:List Nat}:∀{l:List ol}{i:Nat},zU m l i=true->∀(k k':Nat)(a b:ol),l[k]?=some a->l[k']?=some b->k<k'->eU m (i+k) (i+k')=true\/AW a b=false:=by
 intro l;induction l with
 |nil=>intro i _ k k' a b hk;simp at hk
 |cons a0 r ih=>
  intro i h k k' a b hk hk' hlt;simp[zU]at h;cases k' with
  |zero=>omega
  |succ k'=>
   cases k with
   |zero=>
    obtain rfl:a0=a:=by simpa using hk
    have:=Bq h.1 k' b (by simpa using hk');rwa[show i+1+k'=i+(k'+1)by omega]at this
   |succ k=>have:=ih h.2 k k' a b (by simpa using hk) (by simpa using hk') (by omega);rwa[show i+1+k=i+(k+1)by omega,show i+1+k'=i+(k'+1)by omega]at this
theorem F4{m:List Nat}{i:Nat}{a:ol}:∀{l:List ol}{j:Nat},∀(k:Nat)(b:ol),l[k]?=some b->eU m i (j+k)=true\/D3 b.k=0\/D3 b.k+D3 a.k<=2\/(i,if BT a.k b.k then 1000+(j+k)else j+k)∈yh m i a l j:=by
 intro l;induction l with
 |nil=>intro j k b hk;simp at hk
 |cons b0 r ih=>
  intro j k b hk;cases k with
  |zero=>
   simp[yh]
   grind
  |succ k=>
   have:=ih (j:=j+1) k b (by simpa using hk)
   grind [yh,aI]
theorem F5{m:List Nat}:∀{l:List ol}{i:Nat},∀(k k':Nat)(a b:ol),l[k]?=some a->l[k']?=some b->k<k'->
  eU m (i+k) (i+k')=true\/D3 a.k=0\/D3 b.k=0\/D3 b.k+D3 a.k<=2\/(i+k,if BT a.k b.k then 1000+(i+k')else i+k')∈up m l i:=by
 intro l;induction l with
 |nil=>intro i k k' a b hk;simp at hk
 |cons a0 r ih=>
  intro i k k' a b hk hk' hlt;cases k' with
  |zero=>omega
  |succ k'=>
   cases k with
   |zero=>
    obtain rfl:a0=a:=by simpa using hk
    have:=F4 (m:=m) (i:=i) (a:=a0) (j:=i+1) k' b (by simpa using hk');rw[show i+1+k'=i+(k'+1)by omega]at this;rcases this with h|h|h|h
    .exact .inl h
    .exact .inr (.inr (.inl h))
    .exact .inr (.inr (.inr (.inl h)))
    .by_cases e:D3 a0.k=0
     .exact .inr (.inl e)
     simp_all[up]
   |succ k=>
    have:=ih (i:=i+1) k k' a b (by simpa using hk) (by simpa using hk') (by omega)
    grind [up,aX]
theorem Ka{a b:Value}(h:GX a b=true):a=b:=by
 unfold GX at h;split at h<;>first|rfl|(simp at h)|skip
 .simp_all
 .simp_all
 .rename_i x y;have:=by simpa using h
  obtain⟨⟨x⟩⟩:=x;obtain⟨⟨y⟩⟩:=y;have e:=by simpa using this
  rw[e]
 simp_all
theorem Mn:∀{a b:List Value},BX a b=true->a=b:=by
 intro a;induction a with
 |nil=>intro b h;cases b<;>simp_all[BX]
 |cons x a ih=>intro b h;cases b with|nil=>simp[BX]at h|cons y b=>simp[BX]at h;rw[Ka h.1,ih h.2]
theorem NA:∀{ks:List Kd}{a b:List Value},zt ks a=true->zt ks b=true->∃r,ge ks a b=some r:=by
 intro ks;induction ks with
 |nil=>intro a b h1 h2;cases a<;>cases b<;>simp_all[zt,ge]
 |cons k ks ih=>
  intro a b h1 h2;cases a with
  |nil=>simp[zt]at h1
  |cons x a=>
   cases b with
   |nil=>simp[zt]at h2
   |cons y b=>
    simp only[zt,ak]at h1 h2;obtain⟨r,hr⟩:=ih h1.2 h2.2;have hk:∃q,D6 k x y=some q:=by have ha:=h1.1;have hb:=h2.1;cases k<;>cases x<;>cases y<;>simp_all[KW,D6]
    grind [ge]
theorem K8{ks:List Kd}{key:List Value}{e:r_}:∀{es:List r_}{i:Nat},
  mE ks key (es++[e]) i=(match mE ks key es i with|some (some j)=>some (some j)|some none=>(match ge ks key e.1 with|some true=>some (some (i+es.length))|some false=>some none|none=>none)|none=>none):=by
 intro es;induction es with
 |nil=>
  simp[mE]
  grind
 |cons x es ih=>grind [mE,ge,List.length_cons]
theorem N2{ks:List Kd}{key:List Value}:∀{es:List r_}{i j:Nat},mE ks key es i=some (some j)->j<i+es.length:=by
 intro es;induction es with
 |nil=>intro i j h;simp[mE]at h
 |cons x es ih=>
  intro i j h;simp[mE]at h
  grind
theorem FE{ka:Bool}{ks:List Kd}{k:TV}{key:List Value}(h:ng ka ks k=some key):zt ks key=true:=by cases k with|agg cs=>grind [ng,rO]|c x=>grind [ng,rO]|gX xs=>simp[ng]at h
theorem J1{call1 call2:Call}{k1 k2:Ev.K}{vs1 vs2:List (Option TV)}{H H':bp}{nx1 nx2 n n2 id:Nat}{v v2:TV}{u u2:eW}{ids2:List Nat}(hk:BT k1 k2=true)
  (h1:ci call1 k1 vs1 H nx1=some (v,u,[id],n)) (h2:ci call2 k2 vs2 H' nx2=some (v2,u2,ids2,n2)) (hs:au H' id=au H id) (ht:id∈u2.map (·.1)):
  ci call1 k1 vs1 (u2++H) nx1=some (v,u,[id],n):=by
 unfold BT at hk;split at hk
 .rename_i ka ks va z ka' ks' va' z';simp only[ak,decide_eq_true_eq]at hk;obtain⟨⟨⟨rfl,rfl⟩,rfl⟩,hz⟩:=hk;obtain rfl:=Mn hz
  match vs1,vs2,h1,h2 with
  |[some (.c m1),some kt1],[some (.c m2),some kt2],h1,h2=>
   change (match ir ka ks va z false m1 kt1 H with|some (v,av)=>some (v,([]:eW),av,nx1)|none=>none)=_ at h1;change (match nP ka ks va z m2 kt2 H' with|some (v,u,av)=>some (v,u,av,nx2)|none=>none)=_ at h2;show(match ir ka ks va z false m1 kt1 (u2++H)with|some (v,av)=>some (v,([]:eW),av,nx1)|none=>none)=_
   have key:ir ka ks va z false m1 kt1 H=some (v,[id])->ir ka ks va z false m1 kt1 (u2++H)=some (v,[id]):=by
    clear h1;intro h1;split at h2
    .rename_i v3 u3 ids3 h3;obtain⟨_,rfl,_,_⟩:v3=v2/\u3=u2/\ids3=ids2/\nx2=n2:=by simpa using h2
     unfold nP at h3;split at h3
     .rename_i id2 key2 hkey2;have hok2:=FE hkey2;split at h3
      .rename_i ka2 va2 es bE hob;split at h3
       .rename_i hkv;obtain⟨rfl,rfl⟩:=hkv
        -- what is laid anew
        have hu:∃es' clock',u3=[(id2,some (.map ka2 va2 es' clock'))]/\(es'=es\/es'=es++[(key2,dj z,bE)]):=by
         grind
        obtain⟨es',clock',rfl,hes⟩:=hu;obtain rfl:id=id2:=by simpa using ht
        have hl2:au ([(id,some (Ob.map ka2 va2 es' clock'))]++H) id=some (.map ka2 va2 es' clock'):=by rw[fH,bO,if_pos rfl]
        rw[hs]at hob;unfold ir at h1|-;split at h1
        .omega
        .rename_i id1 key1 hkey1;have hok1:=FE hkey1
         have hid:id1=id:=by
          repeat' split at h1
          all_goals first
           |(simp at h1;done)
           |(obtain⟨_,h4⟩:=af (aa h1);simpa using h4)
         subst hid;simp only[hob,hl2,and_self,if_true]at h1|-;rcases hes with rfl|rfl
         .exact h1
         .rw [K8];split at h1
          .rename_i j hf;have hlt:=N2 hf;simp_all[bS,dj,default,iX,List.getElem?_append_left]
          .rename_i hf;simp only[hf];obtain⟨r,hr⟩:=NA hok1 hok2;simp only[hr];cases r with
           |false=>exact h1
           |true=>
            have e1:(es++[(key2,dj z,bE)]).getD (0+es.length) default=(key2,dj z,bE):=by simp[iX]
            simp only[e1];exact h1
          .simp at h1
        .simp at h1
       .simp at h3
      .simp at h3
     .simp at h3
    .simp at h2
   grind
 .simp at hk
abbrev Ix:=Option (TV×eW×List Nat×Nat)
def Lj:Ix->Option TV
 |some (v,_)=>some v
 |none=>some (.gX [])
def rV:Ix->eW
 |some (_,u,_)=>u
 |none=>[]
def qn:Ix->List Nat
 |some (_,_,r,_)=>r
 |none=>[]
def BJ(call:Call)(aL i:Nat)(o:ol)(e:jk)(h:bp)(f:Ix)(e':jk)(h':bp):Prop:=match f with|some (v,u,av,n)=>ke e o.guard=some true/\ci call o.k (o.args.map (kz e)) h (aL+ig*i)=some (v,u,av,n)/\n<=aL+ig*(i+1)/\e'=put e o.dst v/\h'=u++h|none=>ke e o.guard=some false/\e'=drop e o.dst/\h'=h
theorem F6{calls:Nat->Call}{aL:Nat}:∀(l:List ol)(i:Nat)(e:jk)(h:bp)(e':jk)(h':bp)(tr:List (List Nat×List Nat)),mO calls aL l i e h=some (e',h',tr)->
  ∃(E:Nat->jk)(Hp:Nat->bp)(ef:Nat->Ix),E 0=e/\Hp 0=h/\E l.length=e'/\Hp l.length=h'/\
   ∀(k:Nat)(o:ol),l[k]?=some o->BJ (calls (i+k)) aL (i+k) o (E k) (Hp k) (ef k) (E (k+1)) (Hp (k+1))/\tr[k]?=some (qn (ef k),(rV (ef k)).map (·.1)):=by
 intro l;induction l with
 |nil=>
  intro i e h e' h' tr hh;obtain⟨rfl,rfl,rfl⟩:e=e'/\h=h'/\[]=tr:=by simpa[mO]using hh
  exact⟨fun _=>e,fun _=>h,fun _=>none,rfl,rfl,rfl,rfl,fun k o hk=>by simp at hk⟩
 |cons o r ih=>
  intro i e h e' h' tr hh;simp only[mO]at hh
  have qU:∀(f:Ix)(e1:jk)(h1:bp)(tr1:List _),mO calls aL r (i+1) e1 h1=some (e',h',tr1)->BJ (calls i) aL i o e h f e1 h1->tr=(qn f,(rV f).map (·.1))::tr1->
    ∃(E:Nat->jk)(Hp:Nat->bp)(ef:Nat->Ix),E 0=e/\Hp 0=h/\E (o::r).length=e'/\Hp (o::r).length=h'/\
     ∀(k:Nat)(o':ol),(o::r)[k]?=some o'->BJ (calls (i+k)) aL (i+k) o' (E k) (Hp k) (ef k) (E (k+1)) (Hp (k+1))/\tr[k]?=some (qn (ef k),(rV (ef k)).map (·.1)):=by
   intro f e1 h1 tr1 hrun hs htr;obtain⟨E,Hp,ef,a1,a2,a3,a4,a5⟩:=ih _ e1 h1 e' h' tr1 hrun;refine⟨fun k=>match k with|0=>e|k+1=>E k,fun k=>match k with|0=>h|k+1=>Hp k,fun k=>match k with|0=>f|k+1=>ef k,rfl,rfl,a3,a4,fun k o' hk=>?_⟩;subst htr;cases k with|zero=>simp_all|succ k=>have:=a5 k o' (by simpa using hk);rw[show i+1+k=i+(k+1)by omega]at this;exact⟨this.1,by simpa using this.2⟩
  split at hh
  .rename_i hw;split at hh
   .rename_i v u av n hev;split at hh
    .rename_i hn;split at hh
     .rename_i e1 h1 tr1 hrun;obtain⟨rfl,rfl,rfl⟩:e1=e'/\h1=h'/\_=tr:=by simpa using hh
      exact qU (some (v,u,av,n)) _ _ tr1 hrun ⟨hw,hev,hn,rfl,rfl⟩ rfl
     .simp at hh
    .simp at hh
   .simp at hh
  .rename_i hw;split at hh
   .rename_i e1 h1 tr1 hrun;obtain⟨rfl,rfl,rfl⟩:e1=e'/\h1=h'/\_=tr:=by simpa using hh
    exact qU none _ _ tr1 hrun ⟨hw,rfl,rfl⟩ rfl
   .simp at hh
  .simp at hh
section
variable(dst:Nat->Option Nat)(ef:Nat->Ix)(D:Nat->Bool)(e0:Nat->Option TV)(h0:Nat->Option Ob)
def qy:Nat->Nat->Option TV
 |0,t=>e0 t
 |k+1,t=>if D k=true/\dst k=some t then Lj (ef k)else qy k t
def kF:Nat->Nat->Option Ob
 |0,i=>h0 i
 |k+1,i=>if D k=true then(match bV (rV (ef k)) i with|some o=>o|none=>kF k i)else kF k i
end
def we(ef:Nat->Ix)(k id:Nat):Prop:=id∈(rV (ef k)).map (·.1)
theorem uS{α:Type}{u:List (Nat×α)}{id:Nat}(h:id∉u.map (·.1)):bV u id=none:=by induction u with|nil=>rfl|cons p r ih=>grind [bV]
theorem NV{α:Type}{u:List (Nat×α)}{id:Nat}(h:id∈u.map (·.1)):∃x,bV u id=some x:=by
 induction u with
 |nil=>simp at h
 |cons p r ih=>
  obtain⟨i,x⟩:=p;by_cases e:i=id
  .exact ⟨x,by simp[bV,e]⟩
  grind [absurd,bV]
section
variable{dst:Nat->Option Nat}{ef:Nat->Ix}{D D':Nat->Bool}{E:Nat->jk}{Hp:Nat->bp}
theorem DH{n i t:Nat}(hstep:∀k,k<n->∀t,bV (E (k+1)) t=if dst k=some t then Lj (ef k)else bV (E k) t)(hi:i<=n)
  (h1:∀k,k<i->dst k=some t->D k=true) (h2:∀k,i<=k->k<n->dst k=some t->D k=false):qy dst ef D (bV (E 0)) n t=bV (E i) t:=by
 have a:∀k,k<=i->qy dst ef D (bV (E 0)) k t=bV (E k) t:=by
  intro k;induction k with
  |zero=>intro _;rfl
  |succ k ih=>
   rw[qy]
   grind
 have b:∀d,i+d<=n->qy dst ef D (bV (E 0)) (i+d) t=bV (E i) t:=by
  intro d;induction d with
  |zero=>intro _;exact a i (am _)
  |succ d ih=>
   intro hd;rw[<-di,qy]
   grind
 have:=b (n-i) (by omega);rwa[jK hi]at this
theorem AC{n i id:Nat}(hstep:∀k,k<n->∀id,au (Hp (k+1)) id=match bV (rV (ef k)) id with|some o=>o|none=>au (Hp k) id)(hi:i<=n)
  (h1:∀k,k<i->we ef k id->D k=true) (h2:∀k,i<=k->k<n->we ef k id->D k=false):kF ef D (au (Hp 0)) n id=au (Hp i) id:=by
 have a:∀k,k<=i->kF ef D (au (Hp 0)) k id=au (Hp k) id:=by
  intro k;induction k with
  |zero=>intro _;rfl
  |succ k ih=>
   intro hk;rw[kF,hstep k (by omega),ih (by omega)];by_cases ht:we ef k id
   .rw [if_pos (h1 k (by omega) ht)]
   .rw [uS ht];simp
 have b:∀d,i+d<=n->kF ef D (au (Hp 0)) (i+d) id=au (Hp i) id:=by
  intro d;induction d with
  |zero=>intro _;exact a i (am _)
  |succ d ih=>
   intro hd;rw[<-di,kF,ih (by omega)];by_cases ht:we ef (i+d) id
   .rw [if_neg (by grind)]
   .rw [uS ht];simp
 have:=b (n-i) (by omega);rwa[jK hi]at this
theorem Oc{e0:Nat->Option TV}{n i t:Nat}(hi:i<n)(hD:∀k,k≠i->D' k=D k)(hDi:D' i=true)(hDi0:D i=false)
  (h:dst i=some t->∀k,i<k->k<n->D k=true->dst k≠some t):
  qy dst ef D' e0 n t=if dst i=some t then Lj (ef i)else qy dst ef D e0 n t:=by
 have a:∀k,k<=i->qy dst ef D' e0 k t=qy dst ef D e0 k t:=by intro k;induction k with|zero=>intro _;rfl|succ k ih=>intro hk;rw[qy,qy,hD k (by omega),ih (by omega)]
 have b:∀d,i+1+d<=n->qy dst ef D' e0 (i+1+d) t=if dst i=some t then Lj (ef i)else qy dst ef D e0 (i+1+d) t:=by
  intro d;induction d with
  |zero=>simp_all[qy]
  |succ d ih=>
   rw[<-di,qy,qy]
   grind
 have:=b (n-(i+1)) (by omega);rwa[jK (by omega)]at this
theorem K4{h0:Nat->Option Ob}{n i id:Nat}(hi:i<n)(hD:∀k,k≠i->D' k=D k)(hDi:D' i=true)(hDi0:D i=false)
  (h:we ef i id->∀k,i<k->k<n->D k=true->¬we ef k id):
  kF ef D' h0 n id=match bV (rV (ef i)) id with|some o=>o|none=>kF ef D h0 n id:=by
 have a:∀k,k<=i->kF ef D' h0 k id=kF ef D h0 k id:=by intro k;induction k with|zero=>intro _;rfl|succ k ih=>intro hk;rw[kF,kF,hD k (by omega),ih (by omega)]
 have b:∀d,i+1+d<=n->kF ef D' h0 (i+1+d) id=match bV (rV (ef i)) id with|some o=>o|none=>kF ef D h0 (i+1+d) id:=by
  intro d;induction d with
  |zero=>simp_all[kF]
  |succ d ih=>
   intro hd;rw[<-di,kF,kF,hD _ (by omega),ih (by omega)];by_cases ht:we ef i id
   .by_cases hc:D (i+1+d)=true
    .rw [uS (h ht _ (by omega) (by omega) hc)];simp
    .rw [if_neg hc,if_neg hc]
   .rw [uS ht]
 have:=b (n-(i+1)) (by omega);rwa[jK (by omega)]at this
end
section
variable{P:Program}{S K:Nat->Prop}{w0 w:World}{Kn:Nat->Prop}{φ:Nat->gj}{gv:List Value}{nt:Nat}{a:Act}{call:Call}{calls:Nat->Call}{bM:xp}{s s':St}
 {ops:Array Oper} {l:List ol} {m:List Nat} {aL:Nat} {E:Nat->jk} {Hp:Nat->bp} {ef:Nat->Ix}
def rW(l:List ol)(k:Nat):Option Nat:=(l[k]?).bind (·.dst)
def RH(calls:Nat->Call)(l:List ol)(aL:Nat)(E:Nat->jk)(Hp:Nat->bp)(ef:Nat->Ix)(i j:Nat):Prop:=∃c v u id n,l[i]?=some c/\ef i=some (v,u,[id],n)/\ci (calls i) c.k (c.args.map (kz (E i))) (rV (ef j)++Hp i) (aL+ig*i)=some (v,u,[id],n)
structure Gy(P:Program)(bM:xp)(nt:Nat)(calls:Nat->Call)(ops:Array Oper)(l:List ol)(m:List Nat)(aL:Nat)(E:Nat->jk)(Hp:Nat->bp)(ef:Nat->Ix):Prop where
 len:l.length=ops.size
 ZQ:∀(k:Nat)(o:Oper),ops[k]?=some o->l[k]?=some (eE P bM nt ops o)
 ld:∀(k:Nat)(c:ol),l[k]?=some c->BJ (calls k) aL k c (E k) (Hp k) (ef k) (E (k+1)) (Hp (k+1))
 Rd:∀(k:Nat)(o:Oper),ops[k]?=some o->(∀j,eU m j k=true->∃e∈o.after,Region.binds .any e=true/\(e.on=j\/eU m j e.on=true))/\∀e∈o.after,Region.binds .any e=true->e.on<k
 YJ:∀(i j:Nat)(a b:ol),l[i]?=some a->l[j]?=some b->i<j->eU m i j=true\/AW a b=false
 YO:∀(i j:Nat),i<j->j<ops.size->eU m i j=true\/((∀id,we ef i id->id∉qn (ef j)/\¬we ef j id)/\((∀id,we ef j id->id∉qn (ef i))\/RH calls l aL E Hp ef i j))
theorem BJ.cW{i:Nat}{o:ol}{e e':jk}{h h':bp}{f:Ix}(hs:BJ call aL i o e h f e' h')(t:Nat):bV e' t=if o.dst=some t then Lj f else bV e t:=by cases f with|none=>obtain⟨_,rfl,_⟩:=hs;rw[AF];rfl|some p=>obtain⟨_,_,_,rfl,_⟩:=hs;rw[lV];rfl
theorem BJ.heap{i:Nat}{o:ol}{e e':jk}{h h':bp}{f:Ix}(hs:BJ call aL i o e h f e' h')(id:Nat):au h' id=match bV (rV f) id with|some o=>o|none=>au h id:=by cases f with|none=>obtain⟨_,_,rfl⟩:=hs;rfl|some p=>obtain⟨_,_,_,_,rfl⟩:=hs;rw[fH];rfl
theorem PP{e':jk}{h':bp}{e:jk}{h:bp}{tr:List (List Nat×List Nat)}(hl:l=ops.toList.map (eE P bM nt ops))(hord:Aj m ops.toList 0=true)(hsch:zU m l 0=true)
  (hev:mO calls aL l 0 e h=some (e',h',tr)) (hdyn:AR tr (up m l 0)=true) (hsmall:l.length<=1000):
  ∃E Hp ef,Gy P bM nt calls ops l m aL E Hp ef/\E 0=e/\Hp 0=h/\E ops.size=e'/\Hp ops.size=h':=by
 obtain⟨E,Hp,ef,h1,h2,h3,h4,h5⟩:=F6 l 0 e h e' h' tr hev;have hlen:l.length=ops.size:=by rw[hl];simp
 refine⟨E,Hp,ef,⟨hlen,?_,?_,?_,?_,?_⟩,h1,h2,hlen▸h3,hlen▸h4⟩
 .simp_all
 .intro k c hk;have:=(h5 k c hk).1;rwa[bS]at this
 .intro k o hk;have:=Hn hord k o (by rw[Array.getElem?_toList];exact hk);rwa[bS]at this
 .intro i j a b ha hb hij;have:=GW hsch i j a b ha hb hij;rwa[bS,bS]at this
 .intro i j hij hj;have hi':i<l.length:=by omega
  have hj':j<l.length:=by omega
  obtain⟨a,ha⟩:∃a,l[i]?=some a:=⟨_,ao hi'⟩
  obtain⟨b,hb⟩:∃b,l[j]?=some b:=⟨_,ao hj'⟩
  have sa:=h5 i a ha;have sb:=h5 j b hb;have noU:∀(k:Nat)(c:ol),BJ (calls (0+k)) aL (0+k) c (E k) (Hp k) (ef k) (E (k+1)) (Hp (k+1))->D3 c.k<=1->∀id,¬we ef k id:=by intro k c hs hc id ht;unfold we at ht;generalize hf:ef k=f at hs ht;cases f with|none=>simp[rV]at ht|some p=>obtain⟨v,u,r,n⟩:=p;obtain⟨_,hev1,_⟩:=hs;rw[show rV (some (v,u,r,n))=u from rfl,Nz hc hev1]at ht;simp at ht
  have noR:∀(k:Nat)(c:ol),BJ (calls (0+k)) aL (0+k) c (E k) (Hp k) (ef k) (E (k+1)) (Hp (k+1))->D3 c.k=0->∀id,id∉qn (ef k):=by intro k c hs hc id ht;generalize hf:ef k=f at hs ht;cases f with|none=>simp[qn]at ht|some p=>obtain⟨v,u,r,n⟩:=p;obtain⟨_,hev1,_⟩:=hs;rw[show qn (some (v,u,r,n))=r from rfl,Ny hc hev1]at ht;simp at ht
  rcases F5 (m:=m) (i:=0) i j a b ha hb hij with h|h|h|h|h
  .simp_all
  .grind
  .grind
  .grind
  .rw [bS,bS]at h
   have hapart:mh (qn (ef i),(rV (ef i)).map (·.1)) (qn (ef j),(rV (ef j)).map (·.1))=true->
     (∀id,we ef i id->id∉qn (ef j)/\¬we ef j id)/\((∀id,we ef j id->id∉qn (ef i))\/RH calls l aL E Hp ef i j):=by
    intro this;simp only[mh,ak,bg,Bool.not_eq_true',List.contains_eq_mem,decide_eq_false_iff_not]at this;exact⟨fun id ht=>⟨(this.1 id ht).1,(this.1 id ht).2⟩,.inl fun id ht=>this.2 id ht⟩
   have hd:=bg.1 hdyn _ h;by_cases hso:BT a.k b.k=true
   .rw [if_pos hso]at hd;simp only at hd;rw[if_pos (by omega),show 1000+j-1000=j by omega]at hd;simp only[GR,sa.2,sb.2,Bool.or_eq_true]at hd;rcases hd with hd|hd
    .exact .inr (hapart hd)
    .right;split at hd
     .rename_i id hab;obtain⟨hR,hU⟩:=af hab;refine⟨fun id ht=>by unfold we at ht;rw[hU]at ht;simp at ht,?_⟩;by_cases htj:we ef j id
      .right
       -- nobody between lays that object anew
       have hsame:∀k,i<=k->k<=j->au (Hp k) id=au (Hp i) id:=by
        intro k hk;induction k with
        |zero=>intro _;rw[show i=0 by omega]
        |succ k ih=>
         intro hkj;by_cases e:i=k+1
         .rw [e]
         .have hik:i<=k:=by omega
          rw[<-ih hik (by omega)];obtain⟨c,hc⟩:∃c,l[k]?=some c:=⟨_,ao (by omega)⟩
          have sk:=h5 k c hc;rw[sk.1.heap id]
          have hn:id∉(rV (ef k)).map (·.1):=by
           by_cases e2:k=i
           .subst e2;rw[hU];simp
           .have hm:(qn (ef k),(rV (ef k)).map (·.1))∈(tr.take j).drop (i+1):=by refine aF (i:=k-(i+1)) ?_;rw[List.getElem?_drop,show i+1+(k-(i+1))=k by omega,List.getElem?_take,if_pos (by omega)];exact sk.2
            have:=bg.1 hd _ hm;simpa using this
          rw[uS hn]
       have sai:=sa.1;have sbj:=sb.1;generalize hfi:ef i=fi at sai hR hU;generalize hfj:ef j=fj at sbj;cases fi with
       |none=>simp[qn]at hR
       |some p=>obtain⟨v,u,av,n⟩:=p;obtain rfl:av=[id]:=hR;cases fj with|none=>unfold we at htj;rw[hfj]at htj;simp[rV]at htj|some q=>obtain⟨v2,u2,ids2,n2⟩:=q;unfold we at htj;rw[hfj]at htj;obtain⟨_,hev1,_⟩:=sai;obtain⟨_,hev2,_⟩:=sbj;rw[bS]at hev1 hev2;exact⟨a,v,u,id,n,ha,hfi,by rw[hfj];exact J1 hso hev1 hev2 (hsame j (by omega) (am _)) htj⟩
      grind
     .simp at hd
   grind
def Be(ops:Array Oper)(D:Nat->Bool):Prop:=∀(k:Nat)(o:Oper),ops[k]?=some o->D k=true->∀e∈o.after,Region.binds .any e=true->D e.on=true
theorem Gy.v8(hp:Gy P bM nt calls ops l m aL E Hp ef){D:Nat->Bool}(hc:Be ops D){i:Nat}:∀(N j:Nat),j<N->j<ops.size->D j=true->eU m i j=true->D i=true:=by
 intro N;induction N with
 |zero=>omega
 |succ N ih=>
  intro j hj hjn hD hb;have ho:=mj hjn;obtain⟨h1,h2⟩:=hp.Rd j _ ho;obtain⟨e,he,hbd,h⟩:=h1 i hb;have hDe:=hc j _ ho hD e he hbd
  grind
theorem Gy.Up(hp:Gy P bM nt calls ops l m aL E Hp ef){D:Nat->Bool}(hc:Be ops D){i j:Nat}{o:Oper}(hi:ops[i]?=some o)(hall:∀e∈o.after,Region.binds .any e=true->D e.on=true)
  (hb:eU m j i=true):D j=true:=by
 obtain⟨h1,h2⟩:=hp.Rd i _ hi;obtain⟨e,he,hbd,h⟩:=h1 j hb;have hDe:=hall e he hbd;rcases h with h|h
 .rw [<-h];exact hDe
 .have:=h2 e he hbd;have hlt:=(bq.1 hi).1;exact hp.v8 hc _ e.on (by omega) (by omega) hDe h
theorem Jr{d:Option Nat}{l:List Nat}{t:Nat}(hd:d=some t)(h:t∈l):K2 d l=true:=by subst hd;simpa[K2]using h
theorem Gy.Ul(hp:Gy P bM nt calls ops l m aL E Hp ef){D:Nat->Bool}(hc:Be ops D){i:Nat}{o:Oper}{c:ol}(hi:ops[i]?=some o)(hci:l[i]?=some c)(hD:D i=false)
  (hall:∀e∈o.after,Region.binds .any e=true->D e.on=true):
  (∀t∈HF c,qy (rW l) ef D (bV (E 0)) ops.size t=bV (E i) t)/\(∃G,(∀id∈qn (ef i),kF ef D (au (Hp 0)) ops.size id=au G id)/\∀v u av n,ef i=some (v,u,av,n)->ci (calls i) c.k (c.args.map (kz (E i))) G (aL+ig*i)=some (v,u,av,n))/\
  (∀t,c.dst=some t->∀k,i<k->k<ops.size->D k=true->rW l k≠some t)/\(∀id,we ef i id->∀k,i<k->k<ops.size->D k=true->¬we ef k id):=by
 have hlt:i<ops.size:=(bq.1 hi).1;have get:∀k,k<ops.size->∃b,l[k]?=some b:=fun k hk=>⟨_,ao (by rw[hp.len];exact hk)⟩;have lat:∀k,i<k->k<ops.size->eU m i k=true->D k=false:=by intro k _ hk hb;cases hDk:D k with|false=>rfl|true=>rw[hp.v8 hc (k+1) k (by omega) hk hDk hb]at hD;simp at hD
 refine⟨fun t ht=>?_,?_,fun t ht k hik hk hDk hdk=>?_,fun id ht k hik hk hDk htk=>?_⟩
 .refine DH (fun k hk t=>?_) (Nat.le_of_lt hlt) (fun k hk hd=>?_) (fun k hik hk hd=>?_)
  .obtain ⟨b,hb⟩:=get k hk;have:=(hp.ld k b hb).cW t;rw[this];simp[rW,hb]
  .obtain ⟨b,hb⟩:=get k (by omega);have hbd:b.dst=some t:=by simpa[rW,hb]using hd
   rcases hp.YJ k i b c hb hci hk with h|h
   .exact hp.Up hc hi hall h
   .simp [AW,Jr hbd ht]at h
  .rcases eZ i k with h1|h1
   .obtain ⟨b,hb⟩:=get k (by omega);have hbd:b.dst=some t:=by simpa[rW,hb]using hd
    rcases hp.YJ i k c b hci hb h1 with h|h
    .exact lat k h1 hk h
    .simp [AW,Jr hbd ht]at h
   grind
 .have hev:∀v u av n,ef i=some (v,u,av,n)->ci (calls i) c.k (c.args.map (kz (E i))) (Hp i) (aL+ig*i)=some (v,u,av,n):=by intro v u av n hf;have hs:=hp.ld i c hci;rw[hf]at hs;exact hs.2.1
  by_cases hsoft:∃k,i<k/\k<ops.size/\D k=true/\∃id∈qn (ef i),we ef k id
  .--the Dq of those that came ahead
   obtain⟨k,⟨hik,hk,hDk,id0,hid0,ht0⟩,hmax⟩:∃k,(i<k/\k<ops.size/\D k=true/\∃id∈qn (ef i),we ef k id)/\∀k',k<k'->¬(i<k'/\k'<ops.size/\D k'=true/\∃id∈qn (ef i),we ef k' id):=by
    have:∀(N:Nat)(k:Nat),ops.size-k<=N->(i<k/\k<ops.size/\D k=true/\∃id∈qn (ef i),we ef k id)->
      ∃k,(i<k/\k<ops.size/\D k=true/\∃id∈qn (ef i),we ef k id)/\∀k',k<k'->¬(i<k'/\k'<ops.size/\D k'=true/\∃id∈qn (ef i),we ef k' id):=by
     intro N;induction N with
     |zero=>intro k h1 h2;omega
     |succ N ihN=>
      intro k h1 h2;by_cases hm:∃k',k<k'/\(i<k'/\k'<ops.size/\D k'=true/\∃id∈qn (ef i),we ef k' id)
      .obtain ⟨k',h3,h4⟩:=hm;exact ihN k' (by omega) h4
      grind
    obtain⟨k,h⟩:=hsoft;exact this _ k (am _) h
   rcases hp.YO i k hik hk with h|⟨_,h|h⟩
   .rw [lat k hik hk h]at hDk;simp at hDk
   .exact absurd hid0 (h id0 ht0)
   .obtain ⟨c',v,u,id,n,hc',hf,hev'⟩:=h;have hR:qn (ef i)=[id]:=by rw[hf];rfl
    refine⟨rV (ef k)++Hp i,fun id' hid'=>?_,fun v' u' ids' n' hf'=>?_⟩
    .obtain rfl:id'=id:=by rw[hR]at hid';simpa using hid'
     obtain rfl:id0=id':=by rw[hR]at hid0;simpa using hid0
     obtain⟨x,hx⟩:=NV ht0
     have hlast:∀n',k<n'->n'<=ops.size->kF ef D (au (Hp 0)) n' id0=x:=by
      intro n' hkn;induction n' with
      |zero=>omega
      |succ n' ihn=>
       intro hn';simp only[kF];by_cases e:n'=k
       .simp_all
       .have hno:¬(D n'=true/\we ef n' id0):=fun hh=>hmax n' (by omega) ⟨by omega,by omega,hh.1,id0,hid',hh.2⟩;have:=ihn (by omega) (by omega);cases hDn:D n' with|false=>simpa[hDn]using this|true=>have hnt:¬we ef n' id0:=fun h=>hno ⟨hDn,h⟩;rw[uS hnt];simpa[hDn]using this
     simp_all[am,fH,bf]
    simp_all
  .refine ⟨Hp i,fun id hid=>?_,hev⟩;refine AC (fun k hk id=>?_) (Nat.le_of_lt hlt) (fun k hk hd=>?_) (fun k hik hk hd=>?_)
   .obtain ⟨b,hb⟩:=get k hk;exact(hp.ld k b hb).heap id
   .rcases hp.YO k i hk hlt with h|h
    .exact hp.Up hc hi hall h
    .exact absurd hid (h.1 id hd).1
   grind
 .obtain ⟨b,hb⟩:=get k hk;have hbd:b.dst=some t:=by simpa[rW,hb]using hdk
  rcases hp.YJ i k c b hci hb hik with h|h
  .rw [lat k hik hk h]at hDk;simp at hDk
  .simp [AW,ht,hbd,K2]at h
 .rcases hp.YO i k hik hk with h|h
  .rw [lat k hik hk h]at hDk;simp at hDk
  .exact absurd htk (h.1 id ht).2
def Ls(D:Nat->Bool):Nat->Nat
 |0=>0
 |k+1=>Ls D k+if D k=true then 0 else 1
theorem QH{D D':Nat->Bool}{i:Nat}(hD:∀k,k≠i->D' k=D k)(h1:D' i=true)(h0:D i=false):∀n,i<n->Ls D' n+1=Ls D n:=by
 have a:∀k,k<=i->Ls D' k=Ls D k:=by intro k;induction k with|zero=>intro _;rfl|succ k ih=>intro hk;simp[Ls];rw[ih (by omega),hD k (by omega)]
 intro n;induction n with
 |zero=>omega
 |succ n ih=>
  simp[Ls]
  grind
theorem Ow{D:Nat->Bool}:∀{n:Nat},Ls D n=0->∀k,k<n->D k=true:=by intro n;induction n with|zero=>omega|succ n ih=>grind [Ls]
theorem QG(n:Nat):Ls (fun _=>false) n=n:=by induction n with|zero=>rfl|succ n ih=>simp[Ls,ih]
theorem D9{e e':jk}{g:Option (Nat×Bool)}(h:∀t∈(match g with|some (t,_)=>[t]|none=>([]:List Nat)),bV e' t=bV e t):ke e' g=ke e g:=by
 grind [ke]
theorem Ku{e e':jk}:∀{args:List Operand},(∀t∈args.filterMap Y1,bV e' t=bV e t)->args.map (kz e')=args.map (kz e):=by intro args h;refine List.map_congr_left fun x hx=>?_;cases x with|tmp t=>exact h t (List.mem_filterMap.2 ⟨.tmp t,hx,rfl⟩)|_=>rfl
theorem Of(hok:∀i,fg P (calls i))(hnt:nt<1000000000){Q:Exit->Act->World->Prop}(hp:Gy P bM nt calls ops l m aL E Hp ef){S0:Nat->Prop}{ws:World}{gh:List C}
  (hQ:∀S' Kn' φ' a' w',gy S0 ws S' w'->Bl S' K w0 Kn' φ' gv nt ⟨E ops.size,Hp ops.size,aL+ig*l.length,gh⟩ a' w'->Q .normal a' w'):
  ∀(fuel:Nat)(listed:Array Bool)(S:Nat->Prop)(Kn:Nat->Prop)(φ:Nat->gj)(a:Act)(w:World)(ec:jk)(hc:bp),
  listed.size=ops.size->Ls (fun k=>listed.getD k false) ops.size<=fuel->Be ops (fun k=>listed.getD k false)->
  (∀t,bV ec t=qy (rW l) ef (fun k=>listed.getD k false) (bV (E 0)) ops.size t)->(∀id,au hc id=kF ef (fun k=>listed.getD k false) (au (Hp 0)) ops.size id)->
  Inv S K w0 Kn φ (au hc) w->jk.ok S w Kn φ ec a.tmps->a.tmps.size=nt->a.defers=[]->
  (∀j,Kn j->j<aL\/∃i,i<ops.size/\listed.getD i false=true/\aL+ig*i<=j/\j<aL+ig*(i+1))->
  (∀(i:Nat)(c:C)(v:Value),gh[i]?=some c->gv[i]?=some v->RG S w Kn φ c v)->gy S0 ws S w->wpAny P .any ops Q fuel listed a w:=by
 intro fuel;induction fuel with
 |zero=>
  intro listed S Kn φ a w ec hc hsz hcnt hcl henv hheap hI hE hts hdf hKn hgh hstp;have hall:=Ow (Nat.le_zero.1 hcnt);refine⟨?_,?_⟩
  .simp_all [List.eq_nil_iff_forall_not_mem,mem_ready,bq,Array.getD]
  .refine hQ S Kn φ a w hstp ⟨?_,?_,hts,hdf,?_,hgh⟩
   .have:au hc=au (Hp ops.size):=by funext id;rw[hheap];refine AC (fun k hk id=>?_) (am _) (fun k hk _=>hall k hk) (fun k h1 h2 _=>by omega);exact(hp.ld k _ (ao (by rw[hp.len];exact hk))).heap id
    rw[<-this];exact hI
   .intro t x hx;refine hE t x ?_;rw[henv,<-hx];refine DH (fun k hk t=>?_) (am _) (fun k hk _=>hall k hk) (fun k h1 h2 _=>by omega);have hb:l[k]?=some _:=ao (by rw[hp.len];exact hk);have:=(hp.ld k _ hb).cW t;rw[this];simp only[rW,hb,ae]
   .intro j hj hk;have hj':aL+ig*l.length<=j:=hj;rw[hp.len]at hj'
    grind [ig,gz]
 |succ fuel ih=>
  intro listed S Kn φ a w ec hc hsz hcnt hcl henv hheap hI hE hts hdf hKn hgh hstp
  have qU:(∀k,k<ops.size->listed.getD k false=true)->Q .normal a w:=by
   intro hall;refine hQ S Kn φ a w hstp ⟨?_,?_,hts,hdf,?_,hgh⟩
   .have:au hc=au (Hp ops.size):=by funext id;rw[hheap];refine AC (fun k hk id=>?_) (am _) (fun k hk _=>hall k hk) (fun k h1 h2 _=>by omega);exact(hp.ld k _ (ao (by rw[hp.len];exact hk))).heap id
    rw[<-this];exact hI
   .intro t x hx;refine hE t x ?_;rw[henv,<-hx];refine DH (fun k hk t=>?_) (am _) (fun k hk _=>hall k hk) (fun k h1 h2 _=>by omega);have hb:l[k]?=some _:=ao (by rw[hp.len];exact hk);have:=(hp.ld k _ hb).cW t;rw[this];simp only[rW,hb,ae]
   .intro j hj hk;have hj':aL+ig*l.length<=j:=hj;rw[hp.len]at hj'
    grind [ig,gz]
  refine⟨fun hnil=>qU ?_,fun i hi=>?_⟩
  .--nothing is ready:all is done
   intro k;induction k using Nat.strongRecOn with
   |_ k ihk=>
    intro hk;cases hd:listed.getD k false with
    |true=>rfl
    |false=>
     exfalso;have ho:ops[k]?=some ops[k]:=mj hk
     have:k∈Region.ready .any ops listed:=by
      rw[mem_ready];refine⟨?_,_,ho,fun e he hbk=>?_⟩
      .grind
      .have:=(hp.Rd k _ ho).2 e he hbk;exact ihk e.on this (by omega)
     grind
  .obtain ⟨h0,o,ho,hall⟩:=mem_ready.1 hi;have hlt:i<ops.size:=(bq.1 ho).1;have hlt2:i<listed.size:=by omega
   have hD:listed.getD i false=false:=by
    grind
   have hci:=hp.ZQ i o ho;have hstep:=hp.ld i _ hci;obtain⟨s1,s2,s3,s4⟩:=hp.Ul (D:=fun k=>listed.getD k false) hcl ho hci hD hall;have hD':∀k,k≠i->(listed.setIfInBounds i true).getD k false=listed.getD k false:=fun k hk=>getD_set_ne false (fun e=>hk e.symm);have hDi:(listed.setIfInBounds i true).getD i false=true:=by simp[hlt2]
   have hcnt':Ls (fun k=>(listed.setIfInBounds i true).getD k false) ops.size<=fuel:=by have:=QH (D:=fun k=>listed.getD k false) (D':=fun k=>(listed.setIfInBounds i true).getD k false) hD' hDi hD ops.size hlt;omega
   have hcl':Be ops (fun k=>(listed.setIfInBounds i true).getD k false):=by
    intro k o' ho' hk e he hb;by_cases e1:k=i
    .grind
    .have hk':listed.getD k false=true:=by rw[<-hD' k e1];exact hk
     exact getD_set_true (hcl k o' ho' hk' e he hb)
   have hdstD:rW l i=o.dst:=by simp[rW,hci,eE]
   have henv':∀t,qy (rW l) ef (fun k=>(listed.setIfInBounds i true).getD k false) (bV (E 0)) ops.size t=if o.dst=some t then Lj (ef i)else bV ec t:=by intro t;rw[Oc (D:=fun k=>listed.getD k false) hlt hD' hDi hD (fun hd=>s3 t (by rw[hdstD]at hd;exact hd)),hdstD,henv t]
   have hheap':∀id,kF ef (fun k=>(listed.setIfInBounds i true).getD k false) (au (Hp 0)) ops.size id=match bV (rV (ef i)) id with|some o=>o|none=>au hc id:=by
    intro id;rw[K4 (D:=fun k=>listed.getD k false) hlt hD' hDi hD (fun ht=>s4 id ht),hheap id]
    all_goals(cases bV (rV (ef i)) id<;>rfl)
   have hwe:ke ec (eE P bM nt ops o).guard=ke (E i) (eE P bM nt ops o).guard:=by refine D9 fun t ht=>?_;rw[henv t];exact s1 t (aX _ ht)
   have hae:(eE P bM nt ops o).args.map (kz ec)=(eE P bM nt ops o).args.map (kz (E i)):=by refine Ku fun t ht=>?_;rw[henv t];exact s1 t (aU _ ht)
   simp only[wpOp,ho];generalize hfe:ef i=f at hstep henv' hheap' s2;cases f with
   |none=>
    obtain⟨hw,_,_⟩:=hstep;rw[<-hwe]at hw;have hwant:=m8 hE (by rw[hts];exact hnt) hw;rw[if_neg (by simp[hwant])];refine ih _ S Kn φ _ w (drop ec o.dst) hc (by simp[hsz]) hcnt' hcl' ?_ ?_ hI (jk.DJ hE) (by rw[nJ];exact hts) (by rw[lH];exact hdf) ?_ hgh hstp
    .intro t;rw[henv' t,AF];rfl
    .intro id;rw[hheap' id];rfl
    .intro j hj;rcases hKn j hj with h|⟨k,hk,h1,h2⟩
     .exact .inl h
     .exact .inr ⟨k,hk,getD_set_true h1,h2⟩
   |some p=>
    obtain⟨v,u,av,n⟩:=p;obtain⟨hw,hev,hn,_,_⟩:=hstep;rw[<-hwe]at hw;obtain⟨G,g1,g2⟩:=s2;have hev3:=g2 v u av n rfl;rw[<-hae]at hev3;have hev2:=Lf (H':=hc) hev3 (fun id hid=>by rw[hheap id];exact g1 id hid);have hwant:=m8 hE (by rw[hts];exact hnt) hw;rw[if_pos hwant];left
    have hdst:∀x,o.dst=some x->x<a.tmps.size:=by
     intro x hx;rw[hts];rcases eZ x nt with h1|h1
     .exact h1
     .exfalso;have:(eE P bM nt ops o).k=.fL:=by simp only[eE,hx];rw[if_neg (by simp;omega)]
      rw[this,eF]at hev2;simp at hev2
    have hk:vv P bM o.op=((eE P bM nt ops o).k,(eE P bM nt ops o).args):=by
     have:(eE P bM nt ops o).k=(vv P bM o.op).1:=by simp only[eE];rw[if_pos];cases hd:o.dst with|none=>rfl|some d=>have:=hdst d hd;rw[hts]at this;simpa using this
     rw[this];rfl
    have hfr:∀j,aL+ig*i<=j->j<n->¬Kn j:=by
     intro j h1 h2 hk;rcases hKn j hk with h|⟨k,hkn,h3,h4,h5⟩
     .omega
     .have hne:k≠i:=by rintro rfl;rw[h3]at hD;simp at hD
      rcases eZ k i with h6|h6
      .have:ig*(k+1)<=ig*i:=gz _ (by omega);omega
      .have:ig*(i+1)<=ig*k:=gz _ (by omega);omega
    have hgo:=Ak (hok i) hk hI hE hfr hev2;refine hgo _ _ fun val w' hDn=>?_;obtain⟨hle,S',φ',h1,h2,h3,h4⟩:=hDn;refine ih _ S' (po Kn (aL+ig*i) n) φ' _ w' (put ec o.dst v) (u++hc) (by simp[hsz]) hcnt' hcl' ?_ ?_ ?_ (jk.C8 hE h1 h2 hdst h3) (by rw[nJ];exact hts) (by rw[lH];exact hdf) ?_ ?_ (hstp.trans h1)
    .intro t;rw[henv' t,lV];rfl
    .intro id;rw[hheap' id,fH];rfl
    .rw [fH];exact h4
    .intro j hj;rcases hj with hj|hj
     .rcases hKn j hj with h|⟨k,hk,h1,h2⟩
      .exact .inl h
      .exact .inr ⟨k,hk,getD_set_true h1,h2⟩
     .exact .inr ⟨i,hlt,hDi,hj.1,by omega⟩
    .intro i c v hc hv;exact(hgh i c v hc hv).mono h1 h2
theorem F7(hok:∀i,fg P (calls i))(hnt:nt<1000000000){Q:Exit->Act->World->Prop}{e':jk}{h':bp}{tr:List (List Nat×List Nat)}(hl:l=ops.toList.map (eE P bM nt ops))
  (hord:Aj m ops.toList 0=true) (hsch:zU m l 0=true) (hev:mO calls s.next l 0 s.cW s.heap=some (e',h',tr)) (hdyn:AR tr (up m l 0)=true) (hsmall:l.length<=1000)
  (hR:Bl S K w0 Kn φ gv nt s a w)
  (hQ:∀S' Kn' φ' a' w',gy S w S' w'->Bl S' K w0 Kn' φ' gv nt ⟨e',h',s.next+ig*l.length,s.gh⟩ a' w'->Q .normal a' w'):
  wpAny P .any ops Q ops.size (kJ ops.size false) a {w with drawn:=w.drawn+1}:=by
 obtain⟨E,Hp,ef,hp,h1,h2,h3,h4⟩:=PP hl hord hsch hev hdyn hsmall;have hd:∀k,(kJ ops.size false).getD k false=false:=by intro k;simp[Array.getElem?_replicate];split<;>rfl
 have dR:gy S w S {w with drawn:=w.drawn+1}:=gy.vh S w _;refine Of (gv:=gv) hok hnt hp (gh:=s.gh) ?_ ops.size _ S Kn φ a _ s.cW s.heap (by simp) ?_ ?_ ?_ ?_ (hR.inv.vh _ (Nat.le_succ _)) ?_ hR.size hR.defers ?_ ?_ dR
 .rw [h3,h4];exact hQ
 .simp only[hd,QG];exact am _
 .intro k o _ hk;simp only[hd]at hk;simp at hk
 .intro t;simp[hd];rw[h1];have:∀k,qy (rW l) ef (fun _=>false) (bV s.cW) k t=bV s.cW t:=by intro k;induction k with|zero=>rfl|succ k ih=>simp[qy,ih]
  exact(this _).symm
 .intro id;simp[hd];rw[h2];have:∀k,kF ef (fun _=>false) (au s.heap) k id=au s.heap id:=by intro k;induction k with|zero=>rfl|succ k ih=>simp[kF,ih]
  exact(this _).symm
 .intro t x hx;exact(hR.cW t x hx).mono dR (Ren.refl _ _)
 .intro j hj;rcases eZ j s.next with h|h
  .exact .inl h
  .exact absurd hj (hR.fP j h)
 .intro i c v hc hv;exact(hR.gh i c v hc hv).mono dR (Ren.refl _ _)
end
def pR(P:Program)(bM:xp)(nt:Nat):Code->CC
 |.skip=>.skip
 |.region _ ops draw=>if draw then yj ops.toList (ops.toList.map (eE P bM nt ops)) []else .region (ops.toList.map (eE P bM nt ops)) []
 |.seq a b=>.seq (pR P bM nt a) (pR P bM nt b)
 |.cond c a b=>.cond c (pR P bM nt a) (pR P bM nt b)
 |.block id a=>.block id (pR P bM nt a)
 |.loop a=>.loop [] (pR P bM nt a)
 |.scope a=>pR P bM nt a
 |.label _=>.skip
 |.exit id=>.exit id
 |.ret=>.ret
 |_=>.fL
def Sq:rD->Exit
 |.normal=>.normal
 |.exit id=>.exit id
 |.ret=>.ret
def Sub(s s1:St):Prop:=∀(S K:Nat->Prop)(w0:World)(Kn:Nat->Prop)(φ:Nat->gj)(gv:List Value)(nt:Nat)(a:Act)(w:World),
 Bl S K w0 Kn φ gv nt s a w->∃S' Kn' φ',gy S w S' w/\Bl S' K w0 Kn' φ' gv nt s1 a w
theorem Sub.refl(s:St):Sub s s:=fun S _ _ Kn φ _ _ _ w h=>⟨S,Kn,φ,gy.refl S w,h⟩
theorem Sub.trans{s s1 s2:St}(a:Sub s s1)(b:Sub s1 s2):Sub s s2:=fun S K w0 Kn φ gv nt ac w h=>
 let⟨S1,Kn1,φ1,h1,h2⟩:=a S K w0 Kn φ gv nt ac w h;let⟨S2,Kn2,φ2,h3,h4⟩:=b S1 K w0 Kn1 φ1 gv nt ac w h2
 ⟨S2,Kn2,φ2,h1.trans h3,h4⟩
def wk(Q:St->Prop)(s:St):Prop:=∃s1,Sub s s1/\Q s1
theorem wk.of{Q:St->Prop}{s:St}(h:Q s):wk Q s:=⟨s,Sub.refl s,h⟩
def WO(P:Program):List ol->St->(St->Prop)->Prop
 |[],s,Q=>wk Q s
 |o::r,s,Q=>∃s1,Sub s s1/\
  ((ke s1.cW o.guard=some true/\∃call v u av n,fg P call/\ci call o.k (o.args.map (kz s1.cW)) s1.heap s1.next=some (v,u,av,n)/\WO P r ⟨put s1.cW o.dst v,u++s1.heap,n,s1.gh⟩ Q)\/
   (ke s1.cW o.guard=some false/\WO P r ⟨drop s1.cW o.dst,s1.heap,s1.next,s1.gh⟩ Q))
def vz(R:St->Prop)(Q:rD->St->Prop):rD->St->Prop
 |.normal,s=>R s
 |.exit id,s=>Q (.exit id) s
 |.ret,s=>Q .ret s
def xr(id:Nat)(Q:rD->St->Prop):rD->St->Prop
 |.exit id',s=>if id'=id then Q .normal s else Q (.exit id') s
 |.normal,s=>Q .normal s
 |.ret,s=>Q .ret s
def W(P:Program):CC->St->(rD->St->Prop)->Prop
 |.skip,s,Q=>wk (Q .normal) s
 |.region ops _,s,Q=>WO P ops s fun s'=>wk (Q .normal) s'
 |.drawn ops dyn _,s,Q=>∃s1,Sub s s1/\∃calls e h tr,(∀i,fg P (calls i))/\mO calls s1.next ops 0 s1.cW s1.heap=some (e,h,tr)/\AR tr dyn=true/\
   wk (Q .normal) ⟨e,h,s1.next+ig*ops.length,s1.gh⟩
 |.seq a b,s,Q=>W P a s (vz (fun s'=>W P b s' Q) Q)
 |.cond c a b,s0,Q=>∃s,Sub s0 s/\∃t,kz s.cW c=some (.c (.d (.lit (.bool t))))/\(t=true->W P a s Q)/\(t=false->W P b s Q)
 |.block id a,s,Q=>W P a s (xr id Q)
 |.loop _ a,s,Q=>∃(I:Nat->St->Prop)(n:Nat),wk (I n) s/\∀n s,I n s->W P a s (vz (fun s'=>∃m,m<n/\wk (I m) s') Q)
 |.exit id,s,Q=>wk (Q (.exit id)) s
 |.ret,s,Q=>wk (Q .ret) s
 |.fL,_,_=>False
section
variable{P:Program}{S K:Nat->Prop}{w0 w:World}{Kn:Nat->Prop}{φ:Nat->gj}{gv:List Value}{nt:Nat}{a:Act}{bM:xp}{s s':St}
theorem LU{all:Array Oper}{R:Exit->Act->World->Prop}(hnt:nt<1000000000){Q:St->Prop}:∀(l:List Nat)(os:List Oper)(s:St)(S:Nat->Prop)(Kn:Nat->Prop)(φ:Nat->gj)(a:Act)(w:World),
  (∀(i j:Nat),l[i]?=some j->all[j]?=os[i]?)->l.length=os.length->WO P (os.map (eE P bM nt all)) s Q->Bl S K w0 Kn φ gv nt s a w->
  (∀S' Kn' φ' s' a' w',Q s'->gy S w S' w'->Bl S' K w0 Kn' φ' gv nt s' a' w'->R .normal a' w')->wpOps P all R l a w:=by
 intro l;induction l with
 |nil=>intro os s S Kn φ a w _ hl h hR hQ;obtain rfl:os=[]:=aO.1 hl.symm;obtain⟨s1,h1,h2⟩:=h;obtain⟨S1,Kn1,φ1,h3,h4⟩:=h1 S K w0 Kn φ gv nt a w hR;exact hQ S1 Kn1 φ1 s1 a w h2 h3 h4
 |cons i l ih=>
  intro os s S Kn φ a w hi hl h hR hQ;cases os with
  |nil=>simp at hl
  |cons o os=>
   have ho:all[i]?=some o:=by simpa using hi 0 i rfl
   simp only[List.map_cons,WO]at h;obtain⟨s1,hsub,h⟩:=h;obtain⟨S1,Kn1,φ1,hs1,hR1⟩:=hsub S K w0 Kn φ gv nt a w hR;simp only[wpOps,ho];rcases h with⟨hw,call,v,u,av,n,hok,hev,h⟩|⟨hw,h⟩
   .have hwant:=m8 hR1.cW (by rw[hR1.size];exact hnt) hw;rw[if_pos hwant];left
    have hdst:∀x,o.dst=some x->x<a.tmps.size:=by
     intro x hx;rw[hR1.size];rcases eZ x nt with h1|h1
     .exact h1
     .exfalso;have:(eE P bM nt all o).k=.fL:=by simp only[eE,hx];rw[if_neg (by simp;omega)]
      rw[this,eF]at hev;simp at hev
    have hk:vv P bM o.op=((eE P bM nt all o).k,(eE P bM nt all o).args):=by
     have:(eE P bM nt all o).k=(vv P bM o.op).1:=by simp only[eE];rw[if_pos];cases hd:o.dst with|none=>rfl|some d=>have:=hdst d hd;rw[hR1.size]at this;simpa using this
     rw[this];rfl
    have hgo:=Ak hok hk hR1.inv hR1.cW (fun j hj _=>hR1.fP j hj) hev;refine hgo _ _ fun val w' hD=>?_;obtain⟨hle,S',φ',h1,h2,h3,h4⟩:=hD;refine ih os _ S' (po Kn1 s1.next n) φ' _ w' (fun i' j hj=>hi (i'+1) j (by simpa using hj)) (by simpa using hl) h ⟨?_,?_,?_,?_,?_,?_⟩ fun S2 Kn2 φ2 s2 a2 w2 h0 h5 h6=>hQ S2 Kn2 φ2 s2 a2 w2 h0 ((hs1.trans h1).trans h5) h6
    .simp only[fH];exact h4
    .exact jk.C8 hR1.cW h1 h2 hdst h3
    .rw [nJ];exact hR1.size
    .rw [lH];exact hR1.defers
    .intro j hj hk;simp only at hj;rcases hk with hk|hk
     .exact hR1.fP j (by omega) hk
     .omega
    .intro i c v hc hv;exact(hR1.gh i c v hc hv).mono h1 h2
   .have hwant:=m8 hR1.cW (by rw[hR1.size];exact hnt) hw;rw[if_neg (by simp[hwant])];refine ih os _ S1 Kn1 φ1 _ w (fun i' j hj=>hi (i'+1) j (by simpa using hj)) (by simpa using hl) h ⟨hR1.inv,?_,?_,?_,hR1.fP,hR1.gh⟩ fun S2 Kn2 φ2 s2 a2 w2 h0 h5 h6=>hQ S2 Kn2 φ2 s2 a2 w2 h0 (hs1.trans h5) h6
    .exact jk.DJ hR1.cW
    .rw [nJ];exact hR1.size
    .rw [lH];exact hR1.defers
theorem CL{c:Code}{Q:Exit->Act->World->Prop}(J:Nat->Act->World->Prop)(n:Nat)(h₀:J n a w)
  (round:∀n a w,J n a w->c.wp P (Exit.then (fun a w=>∃m,m<n/\J m a w) Q) a w):(Code.loop c).wp P Q a w:=by
 intro b k cs
 have key:∀n a w,J n a w->∃e a' w',Q e a' w'/\Arrives P (lone (b.at a (.code c::.inLoop c::k)) cs w) b k cs e a' w':=by
  intro n;induction n using Nat.strongRecOn with
  |_ n ih=>intro a w hJ;obtain⟨e,a₁,w₁,hq,harr⟩:=round n a w hJ b (.inLoop c::k) cs;cases e with|normal=>obtain⟨m,hlt,hq⟩:=hq;obtain⟨e₂,a₂,w₂,hq₂,harr₂⟩:=ih m hlt a₁ w₁ hq;exact⟨e₂,a₂,w₂,hq₂,.of_steps (Steps.trans harr (.one step_inLoop)) harr₂⟩|exit id=>exact⟨_,a₁,w₁,hq,.pass (x:=.inLoop c) rfl (fun _ _=>.inl (by simp)) harr⟩|goto l=>exact⟨_,a₁,w₁,hq,.pass (x:=.inLoop c) rfl (fun _ _=>.inl (by simp)) harr⟩|ret=>exact⟨_,a₁,w₁,hq,.pass (x:=.inLoop c) rfl (fun _ _=>.inl (by simp)) harr⟩|panic ch=>exact⟨_,a₁,w₁,hq,.pass (x:=.inLoop c) rfl (fun _ _=>.inl (by simp)) harr⟩|outgrown=>exact⟨_,a₁,w₁,hq,.pass (x:=.inLoop c) rfl (fun _ _=>.inl (by simp)) harr⟩
 obtain⟨e,a',w',hq,harr⟩:=key n a w h₀;exact⟨e,a',w',hq,.of_steps (.one step_loop) harr⟩
def xq(S K:Nat->Prop)(w0 w:World)(gv:List Value)(nt:Nat)(Q:rD->St->Prop)(e:Exit)(a':Act)(w':World):Prop:=∃o s',Q o s'/\e=Sq o/\∃S' Kn' φ',gy S w S' w'/\Bl S' K w0 Kn' φ' gv nt s' a' w'
theorem xq.trans{S':Nat->Prop}{w':World}(h:gy S w S' w'){Q:rD->St->Prop}{e:Exit}{a':Act}{w'':World}(hp:xq S' K w0 w' gv nt Q e a' w''):xq S K w0 w gv nt Q e a' w'':=by obtain⟨o,s',h0,h1,S'',Kn',φ',h2,h3⟩:=hp;exact⟨o,s',h0,h1,S'',Kn',φ',h.trans h2,h3⟩
theorem xq.Cb{Q:rD->St->Prop}{o:rD}{a':Act}{w':World}{S' Kn':Nat->Prop}{φ':Nat->gj}(h:wk (Q o) s')(hs:gy S w S' w')(hR:Bl S' K w0 Kn' φ' gv nt s' a' w'):xq S K w0 w gv nt Q (Sq o) a' w':=by obtain⟨s1,h1,h2⟩:=h;obtain⟨S1,Kn1,φ1,h3,h4⟩:=h1 S' K w0 Kn' φ' gv nt a' w' hR;exact⟨o,s1,h2,rfl,S1,Kn1,φ1,hs.trans h3,h4⟩
theorem v7(hnt:nt<1000000000)(hm:P.follows .mixedOrders=true):∀(code:Code)(s:St)(Q:rD->St->Prop)(S:Nat->Prop)(Kn:Nat->Prop)(φ:Nat->gj)(a:Act)(w:World),
  W P (pR P bM nt code) s Q->Bl S K w0 Kn φ gv nt s a w->code.wp P (xq S K w0 w gv nt Q) a w:=by
 intro code;induction code with
 |skip=>intro s Q S Kn φ a w h hR;exact wp_skip (xq.Cb h (gy.refl _ _) hR)
 |region id ops draw=>
  intro s Q S Kn φ a w h hR;simp only[pR]at h;cases draw with
  |false=>
   simp only[bD,if_false,W]at h;refine wp_region ?_;refine LU (gv:=gv) (K:=K) (w0:=w0) hnt (List.range ops.size) ops.toList s S Kn φ a w ?_ (by simp) h hR fun S' Kn' φ' s' a' w' h0 h1 h2=>xq.Cb (o:=.normal) h0 h1 h2;intro i j hj;obtain⟨hlt,rfl⟩:i<ops.size/\i=j:=by have:=aB.1 hj;obtain⟨h1,h2⟩:=this;simp at h1 h2;exact⟨h1,h2⟩
   simp
  |true=>
   simp only[if_true]at h;unfold yj at h;simp only at h;split at h
   .rename_i hc;simp only[ak]at hc;simp only[W]at h;obtain⟨s1,hsub,calls,e1,h1,tr,hok,hev,hdyn,hq⟩:=h;obtain⟨S1,Kn1,φ1,hs1,hR1⟩:=hsub S K w0 Kn φ gv nt a w hR;refine wp_region_any hm ?_;exact F7 hok hnt rfl hc.1.1 hc.1.2 hev hdyn (by simpa using hc.2) hR1 fun S' Kn' φ' a' w' h1 h2=>xq.Cb (o:=.normal) hq (hs1.trans h1) h2
   .simp [W]at h
 |seq x y ihx ihy=>intro s Q S Kn φ a w h hR;simp only[pR,W]at h;refine wp_seq ?_;refine wp_mono (ihx s _ S Kn φ a w h hR) fun e a' w' hp=>?_;obtain⟨o,s',h0,rfl,S',Kn',φ',h1,h2⟩:=hp;cases o with|normal=>exact wp_mono (ihy s' Q S' Kn' φ' a' w' h0 h2) fun e a'' w'' hp=>hp.trans h1|exit id=>exact⟨.exit id,s',h0,rfl,S',Kn',φ',h1,h2⟩|ret=>exact⟨.ret,s',h0,rfl,S',Kn',φ',h1,h2⟩
 |cond c x y ihx ihy=>intro s Q S Kn φ a w h hR;simp only[pR,W]at h;obtain⟨s1,hsub,t,ht,h1,h2⟩:=h;obtain⟨S1,Kn1,φ1,hs1,hR1⟩:=hsub S K w0 Kn φ gv nt a w hR;have hv:=(rK hR1.inv.Bz hR1.cW ht).lit.1;refine wp_cond hv ?_;cases t with|true=>exact wp_mono (ihx s1 Q S1 Kn1 φ1 a w (h1 rfl) hR1) fun _ _ _ hp=>hp.trans hs1|false=>exact wp_mono (ihy s1 Q S1 Kn1 φ1 a w (h2 rfl) hR1) fun _ _ _ hp=>hp.trans hs1
 |block id x ih=>
  intro s Q S Kn φ a w h hR;simp only[pR,W]at h;refine wp_block ?_;refine wp_mono (ih s _ S Kn φ a w h hR) fun e a' w' hp=>?_;obtain⟨o,s',h0,rfl,hp⟩:=hp;cases o with
  |normal=>exact⟨.normal,s',h0,rfl,hp⟩
  |ret=>exact⟨.ret,s',h0,rfl,hp⟩
  |exit id'=>
   simp only[Sq,Exit.inBlock];simp only[xr]at h0;by_cases hid:id'=id
   .rw [if_pos hid]at h0|-;exact⟨.normal,s',h0,rfl,hp⟩
   .rw [if_neg hid]at h0|-;exact⟨.exit id',s',h0,rfl,hp⟩
 |loop x ih=>intro s Q S Kn φ a w h hR;simp only[pR,W]at h;obtain⟨I,n,⟨s0,hsub,hI⟩,hstep⟩:=h;obtain⟨S0,Kn0,φ0,hs0,hR0⟩:=hsub S K w0 Kn φ gv nt a w hR;refine CL (J:=fun n a' w'=>∃s1 S1 Kn1 φ1,gy S w S1 w'/\Bl S1 K w0 Kn1 φ1 gv nt s1 a' w'/\I n s1) n ⟨s0,S0,Kn0,φ0,hs0,hR0,hI⟩ fun n a1 w1 hJ=>?_;obtain⟨s1,S1,Kn1,φ1,h1,h2,h3⟩:=hJ;refine wp_mono (ih s1 _ S1 Kn1 φ1 a1 w1 (hstep n s1 h3) h2) fun e a' w' hp=>?_;obtain⟨o,s2,h0,rfl,S2,Kn2,φ2,h4,h5⟩:=hp;cases o with|normal=>obtain⟨m,hm,s3,h6,h7⟩:=h0;obtain⟨S3,Kn3,φ3,h8,h9⟩:=h6 S2 K w0 Kn2 φ2 gv nt a' w' h5;exact⟨m,hm,s3,S3,Kn3,φ3,(h1.trans h4).trans h8,h9,h7⟩|exit id=>exact⟨.exit id,s2,h0,rfl,S2,Kn2,φ2,h1.trans h4,h5⟩|ret=>exact⟨.ret,s2,h0,rfl,S2,Kn2,φ2,h1.trans h4,h5⟩
 |exit id=>intro s Q S Kn φ a w h hR;exact wp_exit (xq.Cb (o:=.exit id) h (gy.refl _ _) hR)
 |ret=>intro s Q S Kn φ a w h hR;exact wp_ret (xq.Cb (o:=.ret) h (gy.refl _ _) hR)
 |scope x ih=>intro s Q S Kn φ a w h hR;refine wp_scope_straight (wp_mono (ih s Q S Kn φ a w h hR) fun e a' w' hp=>?_);obtain⟨o,s',h0,rfl,h1⟩:=hp;cases o<;>exact⟨_,s',h0,rfl,h1⟩
 |label l=>intro s Q S Kn φ a w h hR;exact wp_label (xq.Cb (o:=.normal) h (gy.refl _ _) hR)
 |_=>intro s Q S Kn φ a w h hR;simp[pR,W]at h
end
def Pz(P:Program):ResultVar->Option RV
 |.tmp t=>some (.tmp t)
 |.cell a t=>match fJ P t,fw P t with|some g,some n=>some (.cell a g n)|_,_=>none
def zW(P:Program):List ResultVar->Option (List RV)
 |[]=>some []
 |r::rs=>match Pz P r,zW P rs with|some x,some xs=>some (x::xs)|_,_=>none
def v6(P:Program)(bM:xp)(f np:Nat):Option Fn:=
 match P.funcs[f]?with
 |none=>none
 |some g=>
  match g.body with
  |none=>none
  |some code=>
   if(g.name== "runtime.NumGoroutine")=false/\np<=g.ntmps/\g.ntmps<1000000000 then
    match zW P g.results.toList with|some jJ=>some ⟨np,g.ntmps,jJ,pR P bM g.ntmps code⟩|none=>none
   else none
section
variable{P:Program}{S K:Nat->Prop}{w0 w:World}{gv:List Value}{nt:Nat}{a:Act}{call:Call}{bM:xp}{s s':St}
theorem yN:∀(as:List A){Kn:Nat->Prop}{φ:Nat->gj}{hf:Nat->Option Ob}(vs:List Value)(fp:List Nat)(i n:Nat),Inv S K w0 Kn φ hf w->(∀j,n<=j->¬Kn j)->O7 S w as vs fp->fp.Nodup->
  (∀b∈fp,¬S b/\¬K b)->vk w φ hf fp->
  ∃φ',tg S K w0 w Kn φ hf fp n (enter as i n).2.2.1 (enter as i n).2.1 φ'/\
   (∀t x,bV (enter as i n).1 t=some x->i<=t/\∃v,vs[t-i]?=some v/\fz S w (po Kn n (enter as i n).2.2.1) φ' x v)/\
   (∀(k:Nat)(c:C)(v:Value),(enter as i n).2.2.2[k]?=some c->(kT as vs)[k]?=some v->RC S w (po Kn n (enter as i n).2.2.1) φ' c v)/\
   (enter as i n).2.2.2.length=(kT as vs).length/\as.length=vs.length:=by
 intro as;induction as with
 |nil=>intro Kn φ hf vs fp i n hI hfr h hn hSK ha;cases vs with|cons v vs=>exact h.elim|nil=>exact⟨φ,tg.nil hI _ _,fun t x hx=>by simp[enter,bV]at hx,fun k c v hk=>by simp[enter]at hk,rfl,rfl⟩
 |cons x as ih=>
  intro Kn φ hf vs fp i n hI hfr h hn hSK ha;cases vs with
  |nil=>exact h.elim
  |cons v vs=>
   obtain⟨f1,f2,rfl,h1,h2⟩:=h;have next:∀{e:jk}{i':Nat}{t:Nat}{x:TV}{φ':Nat->gj}{Kn':Nat->Prop},i+1<=t/\(∃v,vs[t-(i+1)]?=some v/\fz S w Kn' φ' x v)->i<=t/\∃v',(v::vs)[t-i]?=some v'/\fz S w Kn' φ' x v':=by intro e i' t x φ' Kn' ⟨q1,v',q2,q3⟩;refine⟨by omega,v',?_,q3⟩;rw[show t-i=(t-(i+1))+1 by omega];simpa using q2
   cases x with
   |d y=>
    obtain⟨h1,rfl⟩:=h1;obtain⟨φ',q1,q2,q3,q4,q5⟩:=ih (Kn:=Kn) (φ:=φ) (hf:=hf) vs f2 (i+1) n hI hfr h2 (by simpa using hn) (by simpa using hSK) (by simpa using ha);refine⟨φ',q1,fun t x hx=>?_,q3,q4,by simp[q5]⟩;simp only[enter,bV]at hx;by_cases e:i=t
    .subst e;simp at hx;subst hx;exact⟨am _,v,by simp,.c (.d h1)⟩
    .have e':(i==t)=false:=by simpa using e
     rw[e',cond_false]at hx;exact next (e:=[]) (i':=0) (q2 t x hx)
   |agg xs=>
    obtain⟨aG,rfl,hlen,h1,rfl⟩:=h1;obtain⟨φ',q1,q2,q3,q4,q5⟩:=ih (Kn:=Kn) (φ:=φ) (hf:=hf) vs f2 (i+1) n hI hfr h2 (by simpa using hn) (by simpa using hSK) (by simpa using ha);refine⟨φ',q1,fun t x hx=>?_,q3,q4,by simp[q5]⟩;simp only[enter,bV]at hx;by_cases e:i=t
    .subst e;simp at hx;subst hx;refine⟨am _,_,by simp;rfl,.agg (by simpa using hlen) fun j x hj=>?_⟩;rw[aN]at hj;obtain⟨d,hd,rfl⟩:=aH.1 hj;exact .d (h1 j d hd)
    .have e':(i==t)=false:=by simpa using e
     rw[e',cond_false]at hx;exact next (e:=[]) (i':=0) (q2 t x hx)
   |mt t0=>
    rw[da]at hn;obtain⟨hn1,hn2,hn3⟩:=hn;simp only[aC]at hSK;obtain⟨φ1,hL1,hr1⟩:=xB t0 n v f1 hI (fun j hj _=>hfr j hj) h1 hn1 (fun b hb=>hSK b (.inl hb)) (fun j o hj hown x hx hm=>ha j o hj hown x hx (by simp[hm]))
    obtain⟨φ2,hL2,q2,q3,q4,q5⟩:=ih (φ:=φ1) vs f2 (i+1) (k9 n t0).2.2 hL1.inv (fun j hj hk=>by
     rcases hk with hk|hk
     .have:=hL1.le;exact hfr j (by omega) hk
     .omega) h2 hn2 (fun b hb=>hSK b (.inr hb)) (hL1.QS hI (fun j o hj hown x hx hm=>ha j o hj hown x hx (by simp[hm])) fun x hx hx2=>hn3 x hx x hx2 rfl)
    have hcomp:=hL1.pR hL2;have hcm:bf _ hf=bf _ hf:=m9 fun p hp q hq e=>by have h1:=hL2.fP p hp;have h2:=hL1.fP q hq;omega
    have hsub:∀j,po (po Kn n (k9 n t0).2.2) (k9 n t0).2.2 (enter as (i+1) (k9 n t0).2.2).2.2.1 j->po Kn n (enter as (i+1) (k9 n t0).2.2).2.2.1 j:=fun j=>(sR hL1.le hL2.le j).1;refine⟨φ2,?_,fun t x hx=>?_,fun k c v' hk hv=>?_,by simp[enter,kT,q4],by simp[q5]⟩
    .have hsw:∀{p:Nat×Option Ob}{a b:eW},p∈a++b->p∈b++a:=fun hp=>aC.2 (aC.1 hp).symm;exact⟨hcomp.le,hcomp.uN,hcm▸hcomp.inv,fun p hp=>hcomp.fP p (hsw hp),fun p hp x hx=>hcomp.cQ p (hsw hp) x (hcm.symm▸hx)⟩
    .simp only[enter,bV]at hx|-;by_cases e:i=t
     .subst e;simp at hx;subst hx;exact⟨am _,v,by simp,.c ((hr1.mono (gy.refl _ _) hL2.uN).kn hsub)⟩
     .have e':(i==t)=false:=by simpa using e
      rw[e',cond_false]at hx;obtain⟨p1,v',p2,p3⟩:=q2 t x hx;exact next (e:=[]) (i':=0) ⟨p1,v',p2,p3.mono (gy.refl _ _) ⟨hsub,fun _ _=>rfl⟩⟩
    .simp only[enter]at hk|-;simp only[kT]at hv;cases k with
     |zero=>
      obtain rfl:(k9 n t0).1=c:=by simpa using hk
      obtain rfl:v=v':=by simpa using hv
      exact(hr1.mono (gy.refl _ _) hL2.uN).kn hsub
     |succ k=>exact(q3 k c v' (by simpa using hk) (by simpa using hv)).kn hsub
theorem EY{Kn:Nat->Prop}{φ:Nat->gj}{H:bp}(hI:Inv S K w0 Kn φ (au H) w){v:TV}{r:R}{bk:List Nat}{x:Value}(h:tj H v=some (r,bk))(hv:fz S w Kn φ v x):
  RR S w r x (bk.flatMap (ij w φ (au H)))/\∀i∈bk,∃o,au H i=some o/\cA o=true:=by
 cases hv with
 |c hv=>
  simp[tj]at h;split at h
  .rename_i t av rd hp;obtain⟨rfl,rfl⟩:R.c t=r/\av=bk:=by simpa using h
   exact(sL hI 300).1 _ _ _ _ _ hp hv
  .simp at h
 |@agg cs aG hlen hv=>
  simp[tj]at h;split at h
  .rename_i ts av rd hp;obtain⟨rfl,rfl⟩:R.agg ts=r/\av=bk:=by simpa using h
   obtain⟨h1,⟨fps,h2,h3,h4⟩,h5⟩:=(sL hI 300).2 _ _ _ _ hp _ hv;exact⟨⟨aG,fps,rfl,h1.trans hlen,h2,h3,h4⟩,h5⟩
  .simp at h
 |gX hlen hv=>simp[tj]at h
theorem wF{Kn:Nat->Prop}{φ:Nat->gj}{H:bp}(hI:Inv S K w0 Kn φ (au H) w):∀(tvs:List TV)(vs:List Value)(rs:List R)(bk:List Nat),t7 H tvs=some (rs,bk)->tvs.length=vs.length->
  (∀(i:Nat)(t:TV)(v:Value),tvs[i]?=some t->vs[i]?=some v->fz S w Kn φ t v)->Gx S w rs vs (bk.flatMap (ij w φ (au H)))/\∀i∈bk,∃o,au H i=some o/\cA o=true:=by
 intro tvs;induction tvs with
 |nil=>
  intro vs rs bk h hl hr;obtain⟨rfl,rfl⟩:[]=rs/\[]=bk:=by simpa[t7]using h
  obtain rfl:vs=[]:=aO.1 hl.symm;exact⟨rfl,fun i hi=>by simp at hi⟩
 |cons t tvs ih=>
  intro vs rs bk h hl hr;cases vs with
  |nil=>simp at hl
  |cons v vs=>
   simp[t7]at h;split at h
   .rename_i r o1 rs1 o2 hp hps;obtain⟨rfl,rfl⟩:r::rs1=rs/\o1++o2=bk:=by simpa using h
    obtain⟨a1,a2⟩:=EY hI hp (hr 0 t v rfl rfl);obtain⟨b1,b2⟩:=ih vs rs1 o2 hps (by simpa using hl) (fun i t v hi hv=>hr (i+1) t v (by simpa using hi) (by simpa using hv));refine⟨⟨_,_,by simp,a1,b1⟩,fun i hi=>?_⟩
    grind
   .simp at h
inductive vy(h:bp):List C->List T->List Nat->Prop
 |nil:vy h [] [] []
 |cons {c:C} {cs:List C} {t:T} {ts:List T} {a i b:List Nat} (h1:dE h 300 c=some (t,a,i)) (h2:vy h cs ts b):vy h (c::cs) (t::ts) (a++b)
 |tF {c:C} {cs:List C} {ts:List T} {b:List Nat} (h2:vy h cs ts b):vy h (c::cs) (.tF::ts) b
theorem yC{Kn:Nat->Prop}{φ:Nat->gj}{H:bp}(hI:Inv S K w0 Kn φ (au H) w){cs:List C}{ts:List T}{bk:List Nat}(h:vy H cs ts bk):∀(vs:List Value),cs.length=vs.length->
  (∀(i:Nat)(c:C)(v:Value),cs[i]?=some c->vs[i]?=some v->RG S w Kn φ c v)->OY S w ts vs (bk.flatMap (ij w φ (au H)))/\∀i∈bk,∃o,au H i=some o/\cA o=true:=by
 induction h with
 |nil=>intro vs hl hr;obtain rfl:vs=[]:=aO.1 hl.symm;exact⟨rfl,fun i hi=>by simp at hi⟩
 |@cons c cs t ts a rd b hp _ ih=>
  intro vs hl hr;cases vs with
  |nil=>simp at hl
  |cons v vs=>
   have hrc:=(hr 0 c v rfl rfl).resolve_left fun e=>by subst e;simp[ui,dE]at hp
   obtain⟨a1,a2⟩:=(sL hI 300).1 _ _ _ _ _ hp hrc;obtain⟨b1,b2⟩:=ih vs (by simpa using hl) (fun i t v hi hv=>hr (i+1) t v (by simpa using hi) (by simpa using hv));refine⟨⟨_,_,by simp,.inr a1,b1⟩,fun i hi=>?_⟩
   grind
 |@tF c cs ts b _ ih=>intro vs hl hr;cases vs with|nil=>simp at hl|cons v vs=>obtain⟨b1,b2⟩:=ih vs (by simpa using hl) (fun i t v hi hv=>hr (i+1) t v (by simpa using hi) (by simpa using hv));exact⟨⟨[],_,rfl,.inl ⟨rfl,rfl⟩,b1⟩,b2⟩
def tf(jJ:List RV)(s:St)(rs:List R)(outs:List T):Prop:=∃vs a b,dD (jJ.map (wA s))=some vs/\t7 s.heap vs=some (rs,a)/\vy s.heap s.gh outs b/\(a++b).Nodup
def sF(tmps:Array Value):ResultVar->Sem Value
 |.tmp t=>pure (tmps.getD t undef)
 |.cell a t=>do loadVar t (<-asAddr (tmps.getD a undef))
theorem Fx{t:TypeId}{pv val:Value}(h:(Instr.loadAt t pv).run P w=.ok val w):(do loadVar t (<-asAddr pv):Sem Value).run P w=.ok val w:=by
 cases pv with
 |pointer x=>cases x with|some a=>simpa|none=>simp[Instr.loadAt,Instr.sureAddr]at h
 |_=>simp[Instr.loadAt,Instr.sureAddr]at h
theorem C4{Kn:Nat->Prop}{φ:Nat->gj}(hI:Inv S K w0 Kn φ (au s.heap) w)(hE:jk.ok S w Kn φ s.cW a.tmps){r:ResultVar}{x:RV}{v:TV}(hr:Pz P r=some x)(h:wA s x=some v):
  ∃val,(sF a.tmps r).run P w=.ok val w/\fz S w Kn φ v val:=by
 cases r with
 |tmp t=>
  obtain rfl:RV.tmp t=x:=by simpa[Pz]using hr
  exact⟨_,by simp[sF],hE t v h⟩
 |cell t ty=>
  simp[Pz]at hr;split at hr
  .rename_i g n hg hn;obtain rfl:=aa hr;simp[wA]at h;split at h
   .rename_i p hp;split at h
    .rename_i v' av hl;obtain rfl:=aa h;cases hE t _ hp with|c hc=>obtain⟨val,h1,h2⟩:=zZ hg hn hI hc hl;exact⟨val,Fx h1,h2⟩
    .simp at h
   .simp at h
  .simp at hr
theorem vp{Kn:Nat->Prop}{φ:Nat->gj}(hI:Inv S K w0 Kn φ (au s.heap) w)(hE:jk.ok S w Kn φ s.cW a.tmps):∀(rs:List ResultVar)(xs:List RV)(tvs:List TV),zW P rs=some xs->dD (xs.map (wA s))=some tvs->
  ∃vs,(rs.mapM (sF a.tmps)).run P w=.ok vs w/\tvs.length=vs.length/\∀(i:Nat)(t:TV)(v:Value),tvs[i]?=some t->vs[i]?=some v->fz S w Kn φ t v:=by
 intro rs;induction rs with
 |nil=>
  intro xs tvs h1 h2;obtain rfl:[]=xs:=by simpa[zW]using h1
  obtain rfl:[]=tvs:=by simpa[dD]using h2
  simp_all
 |cons r rs ih=>
  intro xs tvs h1 h2;simp[zW]at h1;split at h1
  .rename_i x xs1 hx hxs;obtain rfl:=aa h1;simp at h2;cases hv:wA s x with
   |none=>rw[hv]at h2;simp[dD]at h2
   |some v=>
    rw[hv]at h2;simp[dD]at h2;split at h2
    .rename_i tvs1 htv;obtain rfl:=aa h2;obtain⟨val,q1,q2⟩:=C4 hI hE hx hv;obtain⟨vs,q3,q4,q5⟩:=ih xs1 tvs1 hxs htv;refine⟨val::vs,by simp[q1,q3],by simp[q4],fun i t v' hi hv'=>?_⟩
     grind
    .simp at h2
  .simp at h1
theorem yz{g:Func}{tmps:Array Value}{vs:List Value}(h:(g.results.toList.mapM (sF tmps)).run P w=.ok vs w):(results g tmps).run P w=.ok (z7 vs) w:=by
 have e:results g tmps=(do let vs<-g.results.mapM (sF tmps);pure _):=rfl;have e2:g.results.mapM (sF tmps)=(do let vs<-g.results.toList.mapM (sF tmps);pure vs.toArray):=by rw[Array.mapM_eq_mapM_toList,bind_pure_comp]
 rw[e,e2];simp[h]
 match vs with|[]=>rfl|[v]=>rfl|v::v'::r=>simp[z7]
def Sk(sz:Nat):Option (List (List D))->D
 |none=>.lit (.slice none 0 0)
 |some rows=>.sl sz rows
def yT:T->D
 |.d x=>x
 |.sl sz rows=>.sl sz rows
 |.Bh sz rows=>.sl 1 (rows.map fun r=>[Sk sz r])
 |_=>.lit .nilFunc
def yL:T->Bool
 |.pt _|.mp _ _ _ _=>false
 |_=>true
def Hx:R->Bool
 |.c t=>yL t
 |.agg ts=>ts.all yL
theorem RT.Bj{S S':Nat->Prop}{w:World}{t:T}{v:Value}{fp:List Nat}(hm:yL t=true)(h:RT S w t v fp)(hS:∀b,S b->S' b)(hb:∀b∈fp,S' b):RD S' w (yT t) v:=by
 have dR:gy S w S' w:=⟨hS,fun _ _=>rfl⟩
 cases h with
 |d h=>exact h.mono dR
 |@sl sz rows b off len cap aG hsz ho hlen hcap hext hr=>
  subst hlen;refine .sl (fun i j=>aG.getD (off+i*sz+j) undef) (hb b (by simp)) hsz hcap hr.1 (fun i r hi j x hj=>?_) (fun i r hi j x hj=>?_)
  .obtain ⟨v,h1,h2⟩:=hr.2 i r hi j x hj;simp only at h1;rw[ho.cell,h1,cV,h1];rfl
  .obtain ⟨v,h1,h2⟩:=hr.2 i r hi j x hj;simp only at h1;rw[cV,h1];exact h2.mono dR
 |@Bh sz rows b off cap aG fps hsz ho hcap hext hfl h=>
  have key:=RD.BW (S:=S') (w:=w) (sz:=1) (rows:=rows.map fun r=>[Sk sz r]) (b:=b) (off:=off) (cap:=cap) (hb b (by simp)) Nat.one_pos (by simp) hcap ⟨fun i r hi=>?_,fun i r hi j x hj=>?_⟩
  .exact key
  .grind
  .rw [aN]at hi;obtain⟨r',hr',rfl⟩:=aH.1 hi;have hl:=(aB.1 hr').1;cases j with
   |succ j=>simp at hj
   |zero=>
    obtain rfl:Sk sz r'=x:=by simpa using hj
    obtain⟨v,h1,h2⟩:=h i r' fps[i] hr' (ao (by omega));refine⟨v,by rw[Nat.mul_one];exact(ho.cell _).trans h1,?_⟩;cases r' with|none=>obtain⟨rfl,_⟩:=h2;exact .lit rfl|some rows'=>obtain⟨b',q1,q2⟩:=h2;exact q2.rd dR (hb b' (aI _ (dP.2 ⟨fps[i],List.getElem_mem _,by rw[q1];simp⟩)))
 |pt=>cases hm
 |mp=>cases hm
def K6:R->R
 |.c t=>.c (.d (yT t))
 |.agg ts=>.agg (ts.map fun t=>.d (yT t))
def rR:List Bool->List R->List R
 |b::bs,r::rs=>(if(b&&Hx r)=true then K6 r else r)::rR bs rs
 |_,rs=>rs
theorem RR.As{S S':Nat->Prop}{w:World}(hS:∀b,S b->S' b){r:R}{v:Value}{fp:List Nat}(h:RR S w r v fp):RR S' w r v fp:=by
 have dR:gy S w S' w:=⟨hS,fun _ _=>rfl⟩
 cases r with|c t=>exact RT.mono dR h fun _ _=>rfl|agg ts=>obtain⟨aG,fps,h1,h2,h3,h4,h5⟩:=h;exact⟨aG,fps,h1,h2,h3,h4,fun i t f hi hf=>(h5 i t f hi hf).mono dR fun _ _=>rfl⟩
theorem RR.Bj{S S':Nat->Prop}{w:World}{r:R}{v:Value}{fp:List Nat}(h:RR S w r v fp)(hS:∀b,S b->S' b)(hm:Hx r=true)(hb:∀b∈fp,S' b):RR S' w (K6 r) v []:=by
 cases r with
 |c t=>exact .d (RT.Bj hm h hS hb)
 |agg ts=>
  obtain⟨aG,fps,h1,h2,h3,h4,h5⟩:=h;refine⟨aG,ts.map fun _=>[],h1,by simp[h2],by simp,?_,fun i t f hi hf=>?_⟩
  .simp_all
  .simp at hi hf;obtain⟨t0,ht0,rfl⟩:=hi;obtain⟨_,_,rfl⟩:=hf;have hl:=(aB.1 ht0).1;have hf:fps[i]?=some _:=ao (by omega);refine .d (RT.Bj (bg.1 hm _ (aF ht0)) (h5 i t0 _ ht0 hf) hS fun b hbm=>hb b ?_)
   grind [dP,aF]
theorem Gx.As{S S':Nat->Prop}{w:World}(hS:∀b,S b->S' b):∀{rs:List R}{vs:List Value}{fp:List Nat},Gx S w rs vs fp->Gx S' w rs vs fp:=by
 intro rs;induction rs with
 |nil=>intro vs fp h;cases vs<;>exact h
 |cons r rs ih=>intro vs fp h;cases vs with|nil=>exact h|cons v vs=>obtain⟨f1,f2,h1,h2,h3⟩:=h;exact⟨f1,f2,h1,h2.As hS,ih h3⟩
theorem Gx.Bj{S:Nat->Prop}{w:World}:∀(m:List Bool)(rs:List R)(vs:List Value)(fp:List Nat),Gx S w rs vs fp->fp.Nodup->
  ∃fpK,fpK.Sublist fp/\∀S':Nat->Prop,(∀b,S b->S' b)->(∀b∈fp,b∉fpK->S' b)->Gx S' w (rR m rs) vs fpK:=by
 intro m;induction m with
 |nil=>intro rs vs fp h hn;exact⟨fp,bT _,fun S' hS _=>by cases rs<;>exact h.As hS⟩
 |cons b m ih=>
  intro rs vs fp h hn;cases rs with
  |nil=>exact⟨fp,bT _,fun S' hS _=>h.As hS⟩
  |cons r rs=>
   cases vs with
   |nil=>exact h.elim
   |cons v vs=>
    obtain⟨f1,f2,rfl,h2,h3⟩:=h;obtain⟨n1,n2,n3⟩:=da.1 hn;obtain⟨fpK,hsub,hk⟩:=ih rs vs f2 h3 n2;cases hbo:(b&&Hx r)with
    |true=>simp only[rR,hbo];refine⟨fpK,hsub.trans (List.sublist_append_right _ _),fun S' hS hb=>⟨[],fpK,rfl,h2.Bj hS (Bool.and_eq_true_iff.1 hbo).2 fun b hbm=>hb b (aU _ hbm) fun hb2=>n3 b hbm b (hsub.subset hb2) rfl,hk S' hS fun b hbm hb2=>hb b (aX _ hbm) hb2⟩⟩
    |false=>
     simp only[rR,hbo];refine⟨f1++fpK,List.Sublist.append (bT _) hsub,fun S' hS hb=>⟨f1,fpK,rfl,h2.As hS,hk S' hS fun b hbm hb2=>hb b (aX _ hbm) fun hb3=>?_⟩⟩
     grind
theorem Gx.lt{S:Nat->Prop}{w:World}:∀{rs:List R}{vs:List Value}{fp:List Nat},Gx S w rs vs fp->∀b∈fp,b<w.heap.size:=by
 intro rs;induction rs with
 |nil=>intro vs fp h b hb;cases vs with|nil=>have h':=h;subst h';simp at hb|cons _ _=>exact h.elim
 |cons r rs ih=>
  intro vs fp h b hb;cases vs with
  |nil=>exact h.elim
  |cons v vs=>
   obtain⟨f1,f2,rfl,h2,h3⟩:=h;rcases aC.1 hb with hb|hb
   .cases r with|c t=>exact RT.lt h2 b hb|agg ts=>obtain⟨aG,fps,_,q2,q3,rfl,q5⟩:=h2;obtain⟨fp,hfp,hbf⟩:=dP.1 hb;obtain⟨i,hi,rfl⟩:=List.getElem_of_mem hfp;exact(q5 i _ _ (ao (by omega:i<ts.length)) (ao hi)).lt b hbf
   .exact ih h3 b hb
theorem OY.As{S S':Nat->Prop}{w:World}(hS:∀b,S b->S' b):∀{ts:List T}{vs:List Value}{fp:List Nat},OY S w ts vs fp->OY S' w ts vs fp:=by
 intro ts;induction ts with
 |nil=>intro vs fp h;cases vs<;>exact h
 |cons r rs ih=>intro vs fp h;cases vs with|nil=>exact h|cons v vs=>obtain⟨f1,f2,h1,h2,h3⟩:=h;exact⟨f1,f2,h1,h2.imp id fun h2=>RT.mono ⟨hS,fun _ _=>rfl⟩ h2 fun _ _=>rfl,ih h3⟩
theorem Left.Bj{S:Nat->Prop}{w w':World}{fp:List Nat}{rs:List R}{outs:List T}{lent:List Value}{v:Value}(m:List Bool)(h:Left S w fp rs outs lent v w'):Left S w fp (rR m rs) outs lent v w':=by
 obtain⟨S',jJ,fp1,fp2,h1,h2,h3,h4,h5,h6,h7,h8,h9⟩:=h;obtain⟨n1,n2,n3⟩:=da.1 h7;obtain⟨fpK,hsub,hk⟩:=Gx.Bj m rs jJ fp1 h5 n1
 refine⟨fun b=>S' b\/(b∈fp1/\b∉fpK),jJ,fpK,fp2,h1,⟨fun b hb=>.inl (h2.sub b hb),h2.dH⟩,fun b hb=>?_,fun b hb=>?_,hk _ (fun b hb=>.inl hb) (fun b hb hb2=>.inr ⟨hb,hb2⟩),
  OY.As (fun b hb=>.inl hb) h6,?_,fun b hb=>?_,h9⟩
 .grind
 .grind [Gx.lt]
 .grind
 grind
def DX(jJ:List RV)(m:List Bool)(len:Nat)(rs:List R)(outs:List T):rD->St->Prop
 |.exit _,_=>False
 |.normal,s=>wk (fun s=>s.gh.length=len/\∃rs0,tf jJ s rs0 outs/\rR m rs0=rs) s
 |.ret,s=>wk (fun s=>s.gh.length=len/\∃rs0,tf jJ s rs0 outs/\rR m rs0=rs) s
def jw(as:List A):St:=⟨(enter as 0 0).1,(enter as 0 0).2.1,(enter as 0 0).2.2.1,(enter as 0 0).2.2.2⟩
def ZR(P:Program)(F:Fn)(m:List Bool)(as:List A)(rs:List R)(outs:List T):Prop:=as.length=F.np/\W P F.body (jw as) (DX F.jJ m (jw as).gh.length rs outs)
def ZS(s:St)(Q:St->Prop):Prop:=∀(S K:Nat->Prop)(w0:World)(Kn:Nat->Prop)(φ:Nat->gj)(gv:List Value)(nt:Nat)(a:Act)(w:World),Bl S K w0 Kn φ gv nt s a w->∃s1,Q s1/\Bl S K w0 Kn φ gv nt s1 a w
theorem NX(hm:P.follows .mixedOrders=true){f np:Nat}{F:Fn}(hF:v6 P bM f np=some F){as:List A}{rs:List R}{outs:List T}
  {m:List Bool} (h:as.length=F.np/\ZS (jw as) fun s=>W P F.body s (DX F.jJ m (jw as).gh.length rs outs)):xw P f as rs outs:=by
 unfold v6 at hF;split at hF
 .simp at hF
 rename_i g hg;split at hF
 .simp at hF
 rename_i code hb;split at hF
 case isFalse=>simp at hF
 rename_i hc;obtain⟨hname,hnp,hnt⟩:=hc;split at hF
 case h_2=>simp at hF
 rename_i jJ hrv;obtain rfl:=aa hF;obtain⟨hlen,h⟩:=h;simp only at hlen h;intro S w vs fp hlt hargs hnd hfp hglob;left;refine⟨f,vs.toArray,?_,?_⟩
 .simp_all [callFunc,run_program]
 refine calls_of_wp hg hb ?_;have hI0:Inv S (fun b=>b<w.heap.size/\b∉fp/\¬S b) w (fun _=>False) (fun _=>default) (au []) w:=by refine⟨hlt,fun b hb h=>h.2.2 hb,⟨fun b hb=>hb.1,fun _ _=>rfl,am _,fun _ _=>rfl,fun b aG ho=>⟨aG,ho,rfl⟩,Io.refl _⟩,fun id o ho=>by simp[au,bV]at ho,fun i j a b ha=>by simp[au,bV]at ha,hglob,fun i sz sl k x hi=>by simp[au,bV]at hi⟩
 obtain⟨φ,hL,q1,q2,q3,q4⟩:=yN as (S:=S) (w0:=w) (w:=w) (Kn:=fun _=>False) (φ:=fun _=>default) (hf:=au []) vs fp 0 0 hI0 (fun _ _ h=>h) hargs hnd
  (fun b hb=>⟨hfp b hb,fun h=>h.2.1 hb⟩) (fun j o ho=>by simp[au,bV]at ho)
 unfold jw at h;generalize hen:enter as 0 0=en at h hL q1 q2 q3;obtain⟨e,hp,n,lent⟩:=en;simp only at h hL q1 q2 q3
 have hRel:Bl S (fun b=>b<w.heap.size/\b∉fp/\¬S b) w (po (fun _=>False) 0 n) φ (kT as vs) g.ntmps ⟨e,hp,n,lent⟩
   {tmps:=vs.toArray++kJ (g.ntmps-vs.toArray.size) undef,defers:=[]} w:=by
  refine⟨?_,fun t x hx=>?_,?_,rfl,fun j hj hk=>?_,fun i c v h1 h2=>.inr (q2 i c v h1 h2)⟩
  .have:au hp=bf hp (au []):=by rw[<-fH,List.append_nil]
   rw[this];exact hL.inv
  .obtain ⟨_,v,hv,hr⟩:=q1 t x hx;have hv':vs[t]?=some v:=by simpa using hv
   have:(vs.toArray++kJ (g.ntmps-vs.toArray.size) undef).getD t undef=v:=by have ht:t<vs.length:=(aB.1 hv').1;simp_all[cV,Array.getElem?_append_left]
   simp only[this];exact hr
  .simp;omega
  .rcases hk with hk|hk
   .exact hk
   .have:n<=j:=hj;omega
 obtain⟨s1,h,hRel⟩:=h _ _ _ _ _ _ _ _ _ hRel;refine wp_mono (v7 hnt hm code s1 _ S _ φ _ w h hRel) fun ex a' w' hp=>?_;obtain⟨o,s',hl,rfl,S',Kn',φ',hs,hR⟩:=hp
 have main:∀(s':St)(rs:List R)(S' Kn':Nat->Prop)(φ':Nat->gj),gy S w S' w'->Bl S' (fun b=>b<w.heap.size/\b∉fp/\¬S b) w Kn' φ' (kT as vs) g.ntmps s' a' w'->s'.gh.length=lent.length->tf jJ s' rs outs->
   a'.defers=[]/\∃v,(results g a'.tmps).run P w'=.ok v w'/\∃v',Ending.returned v=Ending.returned v'/\Left S w fp rs outs (kT as vs) v' w':=by
  intro s' rs S' Kn' φ' hs hR hgl hlv;obtain⟨tvs,oa,ob,htv,hpr,hpc,hnod⟩:=hlv;obtain⟨rv,p1,p2,p3⟩:=vp hR.inv hR.cW _ _ _ hrv htv;obtain⟨r1,r2⟩:=wF hR.inv tvs rv rs oa hpr p2 p3;obtain⟨t1,t2⟩:=yC hR.inv hpc (kT as vs) (hgl.trans q3) hR.gh
  have hown:∀i∈oa++ob,∃o,au s'.heap i=some o/\cA o=true:=by
   grind
  have hfrm:=hR.inv.oe;refine⟨hR.defers,_,yz p1,_,rfl,S',rv,_,_,rfl,hs,fun b hb=>?_,hR.inv.uH,r1,t1,?_,?_,?_⟩
  .by_cases h1:b<w.heap.size
   .by_cases h2:b∈fp
    .exact .inr (.inl h2)
    .by_cases h3:S b
     .exact .inl h3
     .exact absurd ⟨h1,h2,h3⟩ (hR.inv.sk b hb)
   .exact .inr (.inr (by omega))
  .rw [<-fF];exact yp hR.inv hnod hown
  .rw [<-fF];intro b hb;obtain⟨i,hi,hb⟩:=List.mem_flatMap.1 hb;obtain⟨oi,hoi,hoo⟩:=hown i hi;obtain⟨k1,k2,k3⟩:=nU hR.inv hoi hoo hb;refine⟨k1,?_⟩;by_cases h1:b<w.heap.size
   .by_cases h2:b∈fp
    .exact .inl h2
    .by_cases h3:S b
     .exact absurd (hs.sub _ h3) k1
     .exact absurd ⟨h1,h2,h3⟩ k2
   .exact .inr (by omega)
  .refine ⟨fun b hb=>hb.1,fun b hb=>?_,hfrm.sT,hfrm.Bj,hfrm.bk,hfrm.io⟩;by_cases h3:S b
   .exact hs.dH b h3
   .exact hfrm.lK b ⟨hb.1,hb.2,h3⟩
 have qU:wk (fun s=>s.gh.length=lent.length/\∃rs0,tf jJ s rs0 outs/\rR m rs0=rs) s'->
   a'.defers=[]/\∃v,(results g a'.tmps).run P w'=.ok v w'/\∃v',Ending.returned v=Ending.returned v'/\Left S w fp rs outs (kT as vs) v' w':=by
  rintro⟨s1,hsub,hgl,rs0,hlv,rfl⟩;obtain⟨S1,Kn1,φ1,hs1,hR1⟩:=hsub S' _ w Kn' φ' _ _ a' w' hR;obtain⟨q1,v,q2,v',q3,q4⟩:=main s1 rs0 S1 Kn1 φ1 (hs.trans hs1) hR1 hgl hlv;exact⟨q1,v,q2,v',q3,q4.Bj m⟩
 cases o with|exit id=>exact hl.elim|normal=>exact qU hl|ret=>exact qU hl
theorem Jw(hm:P.follows .mixedOrders=true){f np:Nat}{F:Fn}(hF:v6 P bM f np=some F){as:List A}{rs:List R}{outs:List T}
  {m:List Bool} (h:ZR P F m as rs outs):xw P f as rs outs:=
 NX hm hF ⟨h.1,fun _ _ _ _ _ _ _ _ _ hR=>⟨_,h.2,hR⟩⟩
end
section
variable{P:Program}{s s':St}{e:jk}{h:bp}{n:Nat}{gh:List C}
theorem Sub.heap{h':bp}{n':Nat}(hh:∀id,au h' id=au h id\/au h' id=none)(hn:n<=n'):Sub ⟨e,h,n,gh⟩ ⟨e,h',n',gh⟩:=by intro S K w0 Kn φ gv nt a w hR;exact⟨S,Kn,φ,gy.refl S w,hR.inv.mC fun id o ho=>(hh id).elim (fun q=>q▸ho) fun q=>by rw[q]at ho;simp at ho,hR.cW,hR.size,hR.defers,fun j hj=>hR.fP j (Nat.le_trans hn hj),hR.gh⟩
theorem GJ{id id2 sz sz2 bv:Nat}{slots:List k8}{rows:List (List D)}(ho:au h id=some (.nst sz slots))(hs:slots[bv]?=some (.dQ id2 rows.length))(h2:au h id2=some (.aG sz2 rows)):
  Sub ⟨e,h,n,gh⟩ ⟨e,(id,some (.nst sz (slots.set bv (.bk rows))))::(id2,none)::h,n,gh⟩:=by
 intro S K w0 Kn φ gv nt a w hR;have e1:=fH [(id,some (.nst sz (slots.set bv (.bk rows)))),(id2,none)] h;exact⟨S,Kn,φ,gy.refl S w,e1▸hR.inv.OU ho hs h2,hR.cW,hR.size,hR.defers,hR.fP,hR.gh⟩
theorem IF{t id sz szo off len:Nat}{rows rows':List (List D)}(ht:bV e t=some (.c (.fx sz id off len)))(ho:au h id=some (.aG szo rows))(hr:(rows.drop off).take len=rows')(hle:off+len<=rows.length):
  Sub ⟨e,h,n,gh⟩ ⟨(t,.c (.fx sz n 0 len))::e,(id,none)::(n,some (.aG sz rows'))::h,n+1,gh⟩:=by
 intro S K w0 Kn φ gv nt a w hR;have hn:¬Kn n:=hR.fP n (am _);have hI:=hR.inv;obtain⟨hk0,h0⟩:=hI.iI _ _ ho;have hne:id≠n:=fun e=>hn (e▸hk0);have hv:=hR.cW t _ ht;generalize hval:a.tmps.getD t undef=val at hv;cases hv with
 |c hv=>
 have hkill:Inv S K w0 Kn φ (bf [(id,none)] (au h)) w:=hI.mC fun i o ho=>by
  rw[bO]at ho;split at ho
  .simp at ho
  .exact ho
 have hfree:∀i o,bf [(id,none)] (au h) i=some o->cA o=true->(φ id).cQ∉ij w φ (bf [(id,none)] (au h)) i:=by
  intro i o hi hown hm;have hi':=hi;rw[bO]at hi';split at hi'
  .simp at hi'
  .rename_i hne2;rw[gp rfl (hi.trans hi'.symm)]at hm;exact oH hI hi' ho hown rfl (fun e=>hne2 e.symm) hm (kW id)
 generalize hphi:φ id=l at*;cases h0 with
 |@aG _ _ aG hsz0 hl hS hK hown hext hfit hrr hvis=>
 obtain⟨cap,addr,rfl,hszl,hk,hcap,haddr,hextc,hcl⟩:=hv.kp;rw[hphi]at haddr hextc hszl hcl;obtain rfl:sz=szo:=by rw[<-hl,hszl]
 rw[hl]at haddr hextc;subst hr;have hlen:((rows.drop off).take len).length=len:=by simp;omega
 have hcm:len*sz<=cap*sz:=Nat.mul_le_mul_right _ hcap;have hR2:=hrr.yR off len fun h=>haddr (by omega)
 have hname:=hkill.name hn ⟨l.cQ,addr,sz,l.ext,cap⟩ _ (fun _ j b hj hb hm=>hfree j b hj hb hm)
  (.aG hsz0 rfl hS hK hown hext (by rw[hlen];simp only;omega) hR2 (by rw[hlen];exact hcap))
 have hren:Ren Kn φ _ (ext φ n ⟨l.cQ,addr,sz,l.ext,cap⟩):=iZ _ hn;refine⟨S,fun j=>Kn j\/j=n,ext φ n ⟨l.cQ,addr,sz,l.ext,cap⟩,gy.refl S w,⟨?_,?_,hR.size,hR.defers,?_,?_⟩⟩
 .have:au ((id,none)::(n,some (.aG sz ((rows.drop off).take len)))::h)=bf [(n,some (.aG sz ((rows.drop off).take len)))] (bf [(id,none)] (au h)):=by have e1:au ((id,none)::(n,some _)::h)=bf _ (au h):=fH [(id,none),(n,some (.aG sz ((rows.drop off).take len)))] h;rw[e1,<-dp];exact m9 (u:=[(id,none)]) fun p hp q hq=>by simp_all
  rw[this];exact hname
 .intro t' x hx;simp only[bV]at hx;by_cases et:t=t'
  .subst et;simp at hx;subst hx;rw[hval];have e:ext φ n ⟨l.cQ,addr,sz,l.ext,cap⟩ n=⟨l.cQ,addr,sz,l.ext,cap⟩:=by simp[ext]
   have:=RC.fx (S:=S) (w:=w) (Kn:=fun j=>Kn j\/j=n) (φ:=ext φ n _) (id:=n) (off:=0) (len:=len) (cap:=cap) (addr:=addr)
    (.inr rfl) hcap (by rw[e];simp) (by rw[e];exact hextc) (by rw[e];simp)
   rw[e]at this;rw[hphi];exact .c this
  .have e':(t==t')=false:=by simpa using et
   rw[e',cond_false]at hx;exact(hR.cW t' x hx).mono (gy.refl _ _) hren
 .intro j hj hk;simp only at hj;rcases hk with hk|hk
  .exact hR.fP j (by simp only;omega) hk
  .omega
 .intro i c v hc hv;exact(hR.gh i c v hc hv).mono (gy.refl _ _) hren
theorem wk.sub{Q:St->Prop}(hs:Sub s s')(h:wk Q s'):wk Q s:=let⟨s1,h1,h2⟩:=h;⟨s1,hs.trans h1,h2⟩
theorem wk.mono{Q Q':St->Prop}(h:wk Q s)(hq:∀s,Q s->Q' s):wk Q' s:=let⟨s1,h1,h2⟩:=h;⟨s1,h1,hq _ h2⟩
theorem WO.mono{Q Q':St->Prop}(hq:∀s,Q s->Q' s):∀{ops:List ol}{s:St},WO P ops s Q->WO P ops s Q':=by
 intro ops;induction ops with
 |nil=>intro s h;exact wk.mono h hq
 |cons o r ih=>
  intro s h;obtain⟨s1,h1,h⟩:=h;refine⟨s1,h1,?_⟩
  grind
theorem WO.sub{Q:St->Prop}{ops:List ol}(hs:Sub s s')(h:WO P ops s' Q):WO P ops s Q:=by cases ops with|nil=>exact wk.sub hs h|cons o r=>obtain⟨s1,h1,h⟩:=h;exact⟨s1,hs.trans h1,h⟩
theorem vz.mono{R R':St->Prop}{Q Q':rD->St->Prop}(hr:∀s,R s->R' s)(hq:∀o s,Q o s->Q' o s):∀o s,vz R Q o s->vz R' Q' o s:=by intro o s h;cases o with|normal=>exact hr _ h|exit id=>exact hq _ _ h|ret=>exact hq _ _ h
theorem xr.mono{id:Nat}{Q Q':rD->St->Prop}(hq:∀o s,Q o s->Q' o s):∀o s,xr id Q o s->xr id Q' o s:=by
 intro o s h;cases o with
 |normal=>exact hq _ _ h
 |ret=>exact hq _ _ h
 |exit id'=>
  simp[xr]at h|-
  grind
theorem W.mono:∀{c:CC}{s:St}{Q Q':rD->St->Prop},(∀o s,Q o s->Q' o s)->W P c s Q->W P c s Q':=by intro c;induction c with|seq a b iha ihb=>intro s Q Q' hq h;exact iha (vz.mono (fun s h=>ihb hq h) hq) h|cond c a b iha ihb=>intro s Q Q' hq h;obtain⟨s1,h0,t,h1,h2,h3⟩:=h;exact⟨s1,h0,t,h1,fun ht=>iha hq (h2 ht),fun ht=>ihb hq (h3 ht)⟩|block id a ih=>intro s Q Q' hq h;exact ih (xr.mono hq) h|loop lK a ih=>intro s Q Q' hq h;obtain⟨I,n,h1,h2⟩:=h;exact⟨I,n,h1,fun n s hi=>ih (vz.mono (fun s h=>h) hq) (h2 n s hi)⟩|skip=>intro s Q Q' hq h;exact wk.mono h fun s h=>hq _ _ h|exit id=>intro s Q Q' hq h;exact wk.mono h fun s h=>hq _ _ h|ret=>intro s Q Q' hq h;exact wk.mono h fun s h=>hq _ _ h|region ops lK=>intro s Q Q' hq h;exact WO.mono (fun s h=>h.mono fun s h=>hq _ _ h) h|drawn ops dyn lK=>intro s Q Q' hq h;obtain⟨s1,h0,calls,e,hh,tr,h1,h2,h3,h4⟩:=h;exact⟨s1,h0,calls,e,hh,tr,h1,h2,h3,h4.mono fun s h=>hq _ _ h⟩|fL=>intro s Q Q' hq h;exact h
theorem W.sub:∀{c:CC}{s s':St}{Q:rD->St->Prop},Sub s s'->W P c s' Q->W P c s Q:=by intro c;induction c with|seq a b iha ihb=>intro s s' Q hs h;exact iha hs h|cond c a b iha ihb=>intro s s' Q hs h;obtain⟨s1,h0,h1⟩:=h;exact⟨s1,hs.trans h0,h1⟩|block id a ih=>intro s s' Q hs h;exact ih hs h|loop lK a ih=>intro s s' Q hs h;obtain⟨I,n,h1,h2⟩:=h;exact⟨I,n,wk.sub hs h1,h2⟩|skip=>intro s s' Q hs h;exact wk.sub hs h|exit id=>intro s s' Q hs h;exact wk.sub hs h|ret=>intro s s' Q hs h;exact wk.sub hs h|region ops lK=>intro s s' Q hs h;exact WO.sub hs h|drawn ops dyn lK=>intro s s' Q hs h;obtain⟨s1,h0,h1⟩:=h;exact⟨s1,hs.trans h0,h1⟩|fL=>intro s s' Q hs h;exact h
section
variable{Q:rD->St->Prop}
theorem Q8{a b:CC}(h:W P a s (vz (fun s'=>W P b s' Q) Q)):W P (.seq a b) s Q:=h
theorem Pc{id:Nat}{a:CC}(h:W P a s (xr id Q)):W P (.block id a) s Q:=h
theorem RU{c:Operand}{a b:CC}{t:Bool}(hc:kz s.cW c=some (.c (.d (.lit (.bool t)))))(h1:t=true->W P a s Q)(h2:t=false->W P b s Q):W P (.cond c a b) s Q:=⟨s,Sub.refl s,t,hc,h1,h2⟩
theorem LV{ops:List ol}{lK:List Nat}(h:WO P ops s fun s'=>wk (Q .normal) s'):W P (.region ops lK) s Q:=h
end
def kO{α β:Type}(f:α->Option (α⊕β)):Nat->α->Option β
 |0,_=>none
 |n+1,a=>match f a with|some (.inl a')=>kO f n a'|some (.inr b)=>some b|none=>none
theorem yA{α β:Type}{f:α->Option (α⊕β)}:∀{n m:Nat}{a:α}{b:β},n<=m->kO f n a=some b->kO f m a=some b:=by
 intro n;induction n with
 |zero=>intro m a b _ h;simp[kO]at h
 |succ n ih=>intro m a b hm h;cases m with|zero=>omega|succ m=>grind [kO]
open Classical in
def aP{α β:Type}(f:α->Option (α⊕β))(a:α):Option β:=if h:∃n b,kO f n a=some b then some (mg (gK h))else none
theorem pK{α β:Type}{f:α->Option (α⊕β)}{a:α}{b:β}:aP f a=some b<->∃n,kO f n a=some b:=by
 constructor
 .intro h;unfold aP at h;split at h
  .grind
  .simp at h
 .rintro ⟨n,hn⟩;have hx:∃n b,kO f n a=some b:=⟨n,b,hn⟩
  unfold aP;rw[dif_pos hx];have h2:=gK (gK hx);have h3:=yA (Nat.le_max_left n (mg hx)) hn;have h4:=yA (Nat.le_max_right n _) h2;rw[h3]at h4;rw[<-h4]
theorem Fv{α β:Type}(f:α->Option (α⊕β))(a:α):aP f a=match f a with
  |some (.inl a')=>aP f a'
  |some (.inr b)=>some b
  |none=>none:=by
 apply Option.ext;intro b;rw[pK];constructor
 .rintro ⟨n,hn⟩;cases n with|zero=>simp[kO]at hn|succ n=>grind [kO,pK]
 .intro h;split at h
  .rename_i a' ha;obtain⟨n,hn⟩:=pK.1 h;exact⟨n+1,by simp[kO,ha];exact hn⟩
  .rename_i b' ha;exact⟨1,by simp only[kO,ha];exact h⟩
  .simp at h
theorem bX{α β:Type}{f:α->Option (α⊕β)}{a a':α}(h:f a=some (.inl a')):aP f a=aP f a':=by rw[Fv,h]
theorem bt{α β:Type}{f:α->Option (α⊕β)}{a:α}{b:β}(h:f a=some (.inr b)):aP f a=some b:=by rw[Fv,h]
def nM:Ev.Call:=fun _ _=>none
theorem lT:fg P nM:=fun _ _ _ _ h=>by simp[nM]at h
section
variable{Q:St->Prop}{r:List ol}{d:Nat}{k:K}{args:List Operand}{v:TV}{u:eW}{av:List Nat}{m g:Nat}{b c:Bool}
def NY:Option TV->Option (FuncId×List C)
 |some (.c (.d (.fn f caps)))=>some (f,caps.map C.d)
 |some (.c (.pJ f caps))=>some (f,caps)
 |_=>none
def callee(h:bp)(kq:List Bool):List (Option TV)->Option (FuncId×List A)
 |f::vs=>
  match NY f,dD vs with
  |some (f,caps),some vs=>match gm h (vs++caps.map TV.c) kq with|some (as,_,_)=>some (f,as)|none=>none
  |_,_=>none
 |[]=>none
def vT(h:bp)(nxt:Nat)(ro:Bool)(av:List Nat)(lent:List (C×List Nat×List Nat)):Option (List R×List T)->Iv
 |none=>none
 |some (rs,outs)=>
  if ro then
   if rs.all x5/\outs.all IX then
    match dC nxt lent outs with|none=>none|some (bu,m)=>some (ve (iC m rs).1,(iC m rs).2.1++bu,av++lent.flatMap (·.2.2),(iC m rs).2.2)
   else none
  else
   match c8 h av av with
   |none=>none
   |some fu=>match dC nxt lent outs with|none=>none|some (bu,m)=>some (ve (iC m rs).1,(iC m rs).2.1++bu++fu,av++lent.flatMap (·.2.2),(iC m rs).2.2)
theorem Cr(call:Ev.Call)(ro:Bool)(kq:List Bool)(fv:Option TV)(vs:List (Option TV))(h:bp)(nxt:Nat):
  vW call ro kq fv vs h nxt=match NY fv,dD vs with
   |some (f,caps),some vs=>match gm h (vs++caps.map TV.c) kq with|none=>none|some (as,av,lent)=>if dY h lent/\(lent.flatMap (fun(p:C×List Nat×List Nat)=>p.2.1)).Nodup/\(lent.flatMap (fun(p:C×List Nat×List Nat)=>p.2.1)).all (fun i=>!av.contains i)then vT h nxt ro av lent (call f as)else none
   |_,_=>none:=by
 have e1:∀(o:Option _)(av:List Nat)(lent:List _),(match o with
    |none=>none
    |some (rs,outs)=>
     if ro then
      if rs.all x5/\outs.all IX then
       match dC nxt lent outs with
       |none=>none
       |some (bu,m)=>
        let(vs,u,k):=iC m rs
        some (ve vs,u++bu,av++lent.flatMap (fun(p:C×List Nat×List Nat)=>p.2.2),k)
      else none
     else
      match c8 h av av with
      |none=>none
      |some fu=>
       match dC nxt lent outs with
       |none=>none
       |some (bu,m)=>
        let(vs,u,k):=iC m rs
        some (ve vs,u++bu++fu,av++lent.flatMap (fun(p:C×List Nat×List Nat)=>p.2.2),k))=vT h nxt ro av lent o:=by
  intro o av lent;cases o with|none=>rfl|some p=>rfl
 have e2:(match fv with|some (.c (.d (.fn f caps)))=>some (f,caps.map C.d)|some (.c (.pJ f caps))=>some (f,caps)|_=>none)=NY fv:=rfl
 show(match(match fv with|some (.c (.d (.fn f caps)))=>some (f,caps.map C.d)|some (.c (.pJ f caps))=>some (f,caps)|_=>none),dD vs with
   |some (f,caps),some vs=>
    match gm h _ kq with
    |none=>none
    |some (as,av,lent)=>
     if dY h lent/\(lent.flatMap _).Nodup/\(lent.flatMap _).all _ then
      (match call f as with
    |none=>none
    |some (rs,outs)=>
     if ro then
      if rs.all x5/\outs.all IX then
       match dC nxt lent outs with
       |none=>none
       |some (bu,m)=>
        let(vs,u,k):=iC m rs
        some (ve vs,u++bu,av++lent.flatMap (fun(p:C×List Nat×List Nat)=>p.2.2),k)
      else none
     else
      match c8 h av av with
      |none=>none
      |some fu=>
       match dC nxt lent outs with
       |none=>none
       |some (bu,m)=>
        let(vs,u,k):=iC m rs
        some (ve vs,u++bu++fu,av++lent.flatMap _,k))else none
   |_,_=>none)=_
 simp only[e1,e2]
open Classical in
def only(f:FuncId)(as:List A)(rs:List R)(outs:List T):Ev.Call:=fun f' as'=>if f'=f/\as'=as then some (rs,outs)else none
theorem I3{f:FuncId}{as:List A}{rs:List R}{outs:List T}(hg:xw P f as rs outs):fg P (only f as rs outs):=by intro f' as' rs' outs' h;unfold only at h;simp_all
theorem CF{f:FuncId}{as:List A}{rs:List R}{outs:List T}{ro:Bool}{kq:List Bool}{vs:List (Option TV)}{x:TV×eW×List Nat×Nat}
  (h2:callee h kq vs=some (f,as)) (h1:ci (fun _ _=>some (rs,outs)) (.call ro kq) vs h n=some x):ci (only f as rs outs) (.call ro kq) vs h n=some x:=by
 cases vs with
 |nil=>simp[callee]at h2
 |cons fv vs=>
  simp[callee]at h2;simp[ci,Cr]at h1|-;split at h2
  .rename_i f' caps vs' hf hvs;simp[hf,hvs]at h1|-;split at h2
   .rename_i as' av lent hargs;obtain⟨rfl,rfl⟩:=af (aa h2);rw[hargs]at h1|-;simp only[only]at h1|-;exact h1
   .simp at h2
  .simp at h2
theorem JF{fv:Option TV}{ovs:List (Option TV)}{vs:List TV}{f:FuncId}{caps:List C}{as:List A}{av:List Nat}{lent:List (C×List Nat×List Nat)}{ro:Bool}{kq:List Bool}{rs:List R}{outs:List T}{x:TV×eW×List Nat×Nat}
  (hf:NY fv=some (f,caps)) (hv:dD ovs=some vs) (ha:gm h (vs++caps.map TV.c) kq=some (as,av,lent)) (hw:dY h lent=true)
  (hn:decide ((lent.flatMap (fun(p:C×List Nat×List Nat)=>p.2.1)).Nodup/\(lent.flatMap (fun(p:C×List Nat×List Nat)=>p.2.1)).all (fun i=>!av.contains i)=true)=true)
  (hl:vT h n ro av lent (some (rs,outs))=some x):
  callee h kq (fv::ovs)=some (f,as)/\ci (fun _ _=>some (rs,outs)) (.call ro kq) (fv::ovs) h n=some x:=by
 have hn':=of_decide_eq_true hn;constructor
 .simp [callee,hf,hv,ha]
 .simp only[ci,Cr,hf,hv,ha];rw[if_pos ⟨hw,hn'⟩];exact hl
theorem Yv{av:List Nat}{lent:List (C×List Nat×List Nat)}{rs:List R}{outs:List T}{fu bu:eW}{m:Nat}(hz:c8 h av av=some fu)(hb:dC n lent outs=some (bu,m)):
  vT h n false av lent (some (rs,outs))=some (ve (iC m rs).1,(iC m rs).2.1++bu++fu,av++lent.flatMap (·.2.2),(iC m rs).2.2):=by
 simp[vT,hz,hb,bD,if_false]
theorem Qa{av:List Nat}{lent:List (C×List Nat×List Nat)}{rs:List R}{outs:List T}{bu:eW}{m:Nat}(h1:rs.all x5=true)(h2:outs.all IX=true)(hb:dC n lent outs=some (bu,m)):
  vT h n true av lent (some (rs,outs))=some (ve (iC m rs).1,(iC m rs).2.1++bu,av++lent.flatMap (·.2.2),(iC m rs).2.2):=by
 simp[vT,h1,h2,hb,and_self,if_true]
theorem QQ{sz id len k:Nat}{rows:List (List D)}{rd:List Nat}{r:List (C×List Nat×List Nat)}{ts:List T}{w:eW}(hl:rows.length=len)(hr:dC n r ts=some (w,k)):
  dC n ((.fx sz id 0 len,[id],rd)::r) (.sl sz rows::ts)=some ((id,some (.aG sz rows))::w,k):=by
 simp[dC,hl,hr,and_self,if_true]
theorem QP{id k:Nat}{bk rd:List Nat}{r:List (C×List Nat×List Nat)}{ts' ts:List T}{w:eW}(hc:bk.contains id=true)(hr:dC (iH n ts').2.2 r ts=some (w,k)):
  dC n ((.op id 0,bk,rd)::r) (.pt ts'::ts)=some ((id,some (.box (iH n ts').1))::(iH n ts').2.1++bk.map (fun i=>(i,none))++w,k):=by
 simp only[dC,hr,hc,if_true]
theorem LD{c:C}{bk rd:List Nat}{k:Nat}{r:List (C×List Nat×List Nat)}{ts:List T}{w:eW}(hr:dC n r ts=some (w,k)):dC n ((c,bk,rd)::r) (.tF::ts)=some (bk.map (fun i=>(i,none))++w,k):=by simp[dC,hr]
theorem YH{c:C}{vs:List TV}{ms:List Bool}{as:List A}{av i:List Nat}{lent:List (C×List Nat×List Nat)}{x:D}(hv:dW h 300 c=some (x,i))(hm:ms.headD false=false)(hr:gm h vs ms.tail=some (as,av,lent)):
  gm h (.c c::vs) ms=some (.d x::as,i++av,lent):=by simp_all[gm]
theorem Tq{cs:List C}{vs:List TV}{ms:List Bool}{as:List A}{av i:List Nat}{lent:List (C×List Nat×List Nat)}{xs:List D}(hv:dn h cs=some (xs,i))(hm:ms.headD false=false)(hr:gm h vs ms.tail=some (as,av,lent)):
  gm h (.agg cs::vs) ms=some (.agg xs::as,i++av,lent):=by simp_all[gm]
theorem Vb{c:C}{vs:List TV}{ms:List Bool}{as:List A}{av bk rd:List Nat}{lent:List (C×List Nat×List Nat)}{t:T}(hv:dE h 300 c=some (t,bk,rd))(hm:ms.headD false=true)(hr:gm h vs ms.tail=some (as,av,lent)):
  gm h (.c c::vs) ms=some (.mt t::as,av,(c,bk,rd)::lent):=by simp only[gm,hr,hm,hv,if_true]
end
abbrev Tr:=List (List Nat×List Nat)
abbrev Ub:=jk×bp×Tr
def OQ(e:jk)(d:Option Nat)(h:bp)(tr:Tr)(top:Nat)(r:Iv):Option Ub:=match r with|some (v,u,av,m)=>if m<=top then some (put e d v,u++h,tr++[(av,u.map (·.1))])else none|none=>none
def En(call:Ev.Call)(aL i:Nat)(o:ol)(s:Ub):Option Ub:=match ke s.1 o.guard with|some true=>OQ s.1 o.dst s.2.1 s.2.2 (aL+ig*(i+1)) (ci call o.k (o.args.map (kz s.1)) s.2.1 (aL+ig*i))|some false=>some (drop s.1 o.dst,s.2.1,s.2.2++[([],[])])|none=>none
def DE(calls:Nat->Ev.Call)(aL:Nat):List ol->Nat->Ub->Option Ub
 |[],_,s=>some s
 |o::r,i,s=>(En (calls i) aL i o s).bind (DE calls aL r (i+1))
theorem Qw{calls:Nat->Ev.Call}{aL:Nat}:∀(l:List ol)(i:Nat)(e:jk)(h:bp)(tr:Tr)(e':jk)(h':bp)(tr':Tr),DE calls aL l i (e,h,tr)=some (e',h',tr')->
  ∃t,mO calls aL l i e h=some (e',h',t)/\tr'=tr++t:=by
 intro l;induction l with
 |nil=>
  intro i e h tr e' h' tr' hh;obtain⟨rfl,rfl,rfl⟩:e=e'/\h=h'/\tr=tr':=by simpa[DE]using hh
  exact⟨[],rfl,by simp⟩
 |cons o r ih=>
  intro i e h tr e' h' tr' hh;unfold DE En at hh;unfold mO;cases hw:ke e o.guard with
  |none=>simp[hw]at hh
  |some b=>
   cases b with
   |false=>grind
   |true=>
    simp[hw]at hh;cases hv:ci _ o.k _ h _ with
    |none=>simp[hv,OQ]at hh
    |some p=>
     simp[hv,OQ]at hh
     grind
theorem HZ{calls calls':Nat->Ev.Call}{aL:Nat}:∀(l:List ol)(i:Nat)(s:Ub),(∀j,i<=j->calls j=calls' j)->DE calls aL l i s=DE calls' aL l i s:=by
 intro l;induction l with
 |nil=>intro i s _;rfl
 |cons o r ih=>
  intro i s hc;simp[DE,hc i (am _)];congr 1
  grind
def WD(P:Program)(aL:Nat)(ops:List ol)(i:Nat)(e:jk)(h:bp)(tr:Tr)(Q:jk->bp->Tr->Prop):Prop:=∃calls,(∀j,fg P (calls j))/\∃e' h' tr',DE calls aL ops i (e,h,tr)=some (e',h',tr')/\Q e' h' tr'
theorem Pb{Q:rD->St->Prop}{ops:List ol}{dyn:List (Nat×Nat)}{lK:List Nat}
  (hw:WD P n ops 0 e h [] fun e' h' tr=>AR tr dyn=true/\wk (Q .normal) ⟨e',h',n+ig*ops.length,gh⟩):W P (.drawn ops dyn lK) ⟨e,h,n,gh⟩ Q:=by
 obtain⟨calls,hok,e',h',tr',h1,hd,hq⟩:=hw;obtain⟨t,h4,ht⟩:=Qw _ _ _ _ _ _ _ _ h1;obtain rfl:tr'=t:=by simpa using ht
 exact⟨_,Sub.refl _,calls,e',h',_,hok,h4,hd,hq⟩
section
variable{aL i:Nat}{ops r:List ol}{tr:Tr}{Q:jk->bp->Tr->Prop}{d:Nat}{k:K}{args:List Operand}{v:TV}{u:eW}{av:List Nat}{m g:Nat}{b c:Bool}
theorem Vj(hq:Q e h tr):WD P aL [] i e h tr Q:=⟨fun _=>nM,fun _=>lT,e,h,tr,rfl,hq⟩
theorem Og{call:Ev.Call}{o:ol}{e1:jk}{h1:bp}{tr1:Tr}(hok:fg P call)(hs:En call aL i o (e,h,tr)=some (e1,h1,tr1))(hq:WD P aL r (i+1) e1 h1 tr1 Q):WD P aL (o::r) i e h tr Q:=by
 obtain⟨calls,hc,e',h',tr',h2,h3⟩:=hq;refine⟨fun j=>if j=i then call else calls j,fun j=>?_,e',h',tr',?_,h3⟩
 .grind
 .simp [DE,hs];rw[HZ r _ _ fun j hj=>if_neg (by omega)];exact h2
theorem TT{e:jk}{dd:Option Nat}{top:Nat}(hm:m<=top):OQ e dd h tr top (some (v,u,av,m))=some (put e dd v,u++h,tr++[(av,u.map (·.1))]):=by simp only[OQ];rw[if_pos hm]
theorem PG:aL+ig*i<=aL+ig*(i+1):=by simp[ig];omega
end
inductive Fg:bp->bp->Prop
 |nil:Fg [] []
 |cons {p:Nat×Option Ob} {a b:bp} (h:Fg a b):Fg (p::a) (p::b)
 |skip {i:Nat} {a b:bp} (h:Fg a b):Fg a ((i,none)::b)
end
end Go.Ev
