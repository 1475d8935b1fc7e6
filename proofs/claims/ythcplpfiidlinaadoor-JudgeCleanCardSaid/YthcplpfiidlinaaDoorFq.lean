/- Operations that do not fail, against the abstract machine's, second part. Conditions: as stated. -/
import Derived.Test.YthcplpfiidlinaaDoorFh
open Bool renaming and_eq_true->ai,and_eq_true_iff->dl,eq_iff_iff->dp
open Int renaming toNat_natCast->fP
open List renaming append_assoc->aJ,cons_append->aT,drop_drop->dO,flatMap_cons->bi,flatten_cons->ed,getElem?_eq_getElem->av,length->mC,length_append->az,length_cons->c9,length_eq_zero_iff->a_,length_map->aN,map->l5,map_append->gG,map_cons->aD,map_drop->gm,map_map->lF,map_nil->aV,map_take->gX,mem_append->ap,mem_append_left->aE,mem_append_right->aH,mem_cons->aM,mem_cons_of_mem->aC,mem_cons_self->cC,mem_singleton->am,nil_append->br,not_mem_nil->fZ,replicate->aw,replicate_succ->iz,singleton_append->aY
open List.cons renaming injEq->dJ
open Nat renaming add_assoc->cM,add_mul->bN,le_of_ble_eq_true->iX,le_refl->au,le_succ->bH,lt_succ_self->aX
open Option.some renaming inj->aa,injEq->bl
open Prod.mk renaming inj->ad
open Sigma.mk renaming inj->js
namespace Go.Ev
section
variable{h:H2}{n:Nat}{h1:bF}
theorem PG{a b:Value}(he:SL a b=true):a=b:=by unfold SL at he;split at he<;>simp_all
theorem qW:∀{a b:List Value},tQ a b=true->a=b:=by
 intro a;induction a with
 |nil=>intro b he;cases b<;>first|rfl|(simp[tQ]at he)
 |cons x a ih=>intro b he;cases b with|nil=>simp[tQ]at he|cons y b=>simp only[tQ,ai]at he;rw[PG he.1,ih he.2]
theorem sG(a b:List Value):fk (a++b)=fk a++fk b:=by simp[fk]
theorem qV:∀(t:Ty),kD t=true->aR t (sd t)=cB (nk t):=by
 intro t;induction t with
 |pr a c iha ihc=>intro hd;simp only[kD,ai]at hd;simp[aR,sd,nk,cB,iha hd.1,ihc hd.2]
 |st t ih=>intro hd;exact ih hd
 |ar m t ih=>intro hd;have e:=ih hd;simp only[aR,sd,nk];clear hd ih;induction m with|zero=>rfl|succ m ihm=>simp only[iz,bi,ed,e,cB,gG]at ihm|-;rw[ihm]
 |o k=>intro hd;simp[kD]at hd
 |mp k v=>intro hd;simp[kD]at hd
 |_=>intro _;rfl
theorem xJ:∀(t:Ty),(eE (Bl t).1 false t=true->eZ h (Bl t).1 (fk (nk t))/\eX n h (Bl t).1)/\(eE (Bl t).2 true t=true->eZ h (Bl t).2 (fk (nk t))/\eX n h (Bl t).2):=by
 have one:∀(t:Ty)(v:V),(eZ h v (fk (nk t))/\eX n h v)->(eZ h (.co v .ni) (fk (nk t))/\eX n h (.co v .ni)):=fun t v hv=>⟨⟨_,[],by simp,hv.1,rfl⟩,hv.2,trivial⟩;have dt:∀(t:Ty),kD t=true->eZ h (.x t (sd t)) (fk (nk t)):=fun t hd=>⟨hd,by rw[qV t hd];simp[fk,cB]⟩;intro t;induction t with
 |pr a c iha ihc=>refine⟨fun hf=>by simp[Bl,eE]at hf,fun hf=>?_⟩;simp only[Bl,eE,ai]at hf;obtain⟨q1,q3⟩:=iha.1 hf.1;obtain⟨q4,q5⟩:=ihc.2 hf.2;exact⟨⟨_,_,sG _ _,q1,q4⟩,q3,q5⟩
 |st t ih=>cases hd:kD t with|true=>have:=dt (.st t) hd;simp only[Bl,hd,cond_true];exact⟨fun _=>⟨this,trivial⟩,fun _=>one (.st t) _ ⟨this,trivial⟩⟩|false=>simp only[Bl,hd,cond_false];exact⟨fun hf=>ih.2 hf,fun hf=>one (.st t) _ (ih.2 hf)⟩
 |sl t ih=>cases hd:kD t with|true=>have:=dt (.sl t) hd;simp only[Bl,hd,cond_true];exact⟨fun _=>⟨this,trivial⟩,fun _=>one (.sl t) _ ⟨this,trivial⟩⟩|false=>simp only[Bl,hd,cond_false];exact⟨fun _=>⟨rfl,trivial⟩,fun _=>one (.sl t) _ ⟨rfl,trivial⟩⟩
 |ar m t ih=>cases hd:kD t with|true=>have:=dt (.ar m t) hd;simp only[Bl,hd,cond_true];exact⟨fun _=>⟨this,trivial⟩,fun _=>one (.ar m t) _ ⟨this,trivial⟩⟩|false=>simp only[Bl,hd,cond_false];exact⟨fun hf=>by simp[eE]at hf,fun hf=>by simp[eE]at hf⟩
 |o k=>
  have:eZ h (.nl k) (fk (nk (.o k))):=by
   show fk (nk (.o k))=[Dt k]
   rcases k with _|_|_|_|k<;>rfl
  exact⟨fun _=>⟨this,trivial⟩,fun _=>one (.o k) _ ⟨this,trivial⟩⟩
 |mp k v=>exact⟨fun _=>⟨rfl,trivial⟩,fun _=>one (.mp k v) _ ⟨rfl,trivial⟩⟩
 |un=>exact⟨fun _=>⟨dt .un rfl,trivial⟩,fun _=>one .un _ ⟨dt .un rfl,trivial⟩⟩
 |i k=>exact⟨fun _=>⟨dt (.i k) rfl,trivial⟩,fun _=>one (.i k) _ ⟨dt (.i k) rfl,trivial⟩⟩
 |b=>exact⟨fun _=>⟨dt .b rfl,trivial⟩,fun _=>one .b _ ⟨dt .b rfl,trivial⟩⟩
 |s=>exact⟨fun _=>⟨dt .s rfl,trivial⟩,fun _=>one .s _ ⟨dt .s rfl,trivial⟩⟩
 |f k=>exact⟨fun _=>⟨dt (.f k) rfl,trivial⟩,fun _=>one (.f k) _ ⟨dt (.f k) rfl,trivial⟩⟩
theorem yA{t:Ty}{v w:V}{cs:List C}(hw:MZ t v=some w)(hv:eZ h v cs)(hk:eX n h v):eZ h w cs/\eE w false t=true/\eX n h w/\sW w=sW v:=by
 unfold MZ at hw;split at hw
 .rename_i y hy;obtain rfl:=aa hw;cases hd:kD t with|false=>rw[hd]at hy;simp at hy|true=>rw[hd,cond_true]at hy;exact⟨⟨hd,pD hy hv⟩,by simp[eE],trivial,(Eg hy).symm⟩
 .cases hf:eE v false t with|false=>rw[hf]at hw;simp at hw|true=>rw[hf,cond_true]at hw;obtain rfl:=aa hw;exact⟨hv,hf,hk,rfl⟩
theorem My{t:Ty}{v:V}{y:El t}(hy:ic t v=some y):NJ v:=by cases v<;>first|trivial|(simp[ic]at hy)
theorem Oh{t:Ty}{v:V}(hf:eE v false t=true):NJ v:=by cases v<;>first|trivial|(cases t<;>simp[eE]at hf)
theorem FC{t:Ty}{v w:V}(hw:MZ t v=some w):NJ v:=by
 unfold MZ at hw;split at hw
 .rename_i y hy;cases hd:kD t with|false=>rw[hd]at hy;simp at hy|true=>rw[hd,cond_true]at hy;exact My hy
 .cases hf:eE v false t with|false=>rw[hf]at hw;simp at hw|true=>exact Oh hf
theorem Qx{t:Ty}{v:V}(hf:eE v false t=true)(ha:nc t=true):sW v=true:=by
 cases t<;>simp[nc]at ha
 all_goals(cases v<;>first|rfl|(simp[eE]at hf;done)|skip)
 .simp only[eE,decide_eq_true_eq]at hf;subst hf;rfl
 .simp only[eE,decide_eq_true_eq]at hf;subst hf;rfl
theorem MC{t:Ty}:∀(is:List Nat)(ps:List (Nat×Nat))(ws:List V)(c c':V)(cs:List C)(xs:List TV),xo t is ps ws c=some c'->eE c false t=true->eZ h c cs->eX n h c->mE h ws xs->(∀w∈ws,eX n h w)->
  ∃cs',mU cs (ps.zip xs)=some cs'/\eZ h c' cs'/\eX n h c'/\eE c' false t=true:=by
 intro is;induction is with
 |nil=>
  intro ps ws c c' cs xs hb hf hc hk hx hw;cases ps with
  |cons p ps=>simp[xo]at hb
  |nil=>cases ws with|cons w ws=>simp[xo]at hb|nil=>obtain rfl:=aa hb;exact⟨cs,by simp[mU],hc,hk,hf⟩
 |cons i is ih=>
  intro ps ws c c' cs xs hb hf hc hk hx hw;cases ps with
  |nil=>simp[xo]at hb
  |cons p ps=>
   obtain⟨off,m⟩:=p;cases ws with
   |nil=>simp[xo]at hb
   |cons w ws=>
    obtain⟨x,ys,rfl,hx1,hx2⟩:=gL hx;have hw1:=hw w (by simp)
    have kE:∀(pe:Pe)(a:Ty),qT t [pe]=some a->Iw t [pe]->mI t [pe]=off->bz a=m->(match MZ a w with|some w=>(match ou c [pe] w with|some c=>bif eE c false t then xo t is ps ws c else none|none=>none)|none=>none)=some c'->
      ∃cs',mU cs (((off,m),x)::ps.zip ys)=some cs'/\eZ h c' cs'/\eX n h c'/\eE c' false t=true:=by
     intro pe a h1 h2 h3 h4 hb;split at hb
     .rename_i w1 hw1';obtain⟨cw,q1,q2⟩:=qx (oK (FC hw1') hx1);split at hb
      .rename_i c1 hc1;cases hfc:eE c1 false t with|false=>rw[hfc]at hb;simp at hb|true=>rw[hfc,cond_true]at hb;obtain⟨k1,k2,k3,_⟩:=yA hw1' q1 hw1;have hl:=iw k1;rw[gN _ _ _ k2,h4]at hl;have hsp:=vR [pe] c t w1 c1 cs cw a hf hc h2 hc1 h1 k1 (by rw[hl,h4]);rw[h3]at hsp;have hle:=v6 [pe] t a h1 h2;have hcl:=iw hc;rw[gN _ _ _ hf]at hcl;obtain⟨cs',e1,e2,e3,e4⟩:=ih ps ws c1 c' _ ys hb hfc hsp (GO _ _ _ _ hk k3 hc1) hx2 fun w hw'=>hw w (by simp[hw']);refine⟨cs',?_,e2,e3,e4⟩;simp only[mU,q2];rw[if_pos ⟨hl,by omega⟩,e1]
      .simp at hb
     .simp at hb
    cases t with
    |st u=>
     simp only[xo]at hb;split at hb
     .rename_i a ha;cases hq:(oR u i==off)&&(bz a==m)with|false=>rw[hq]at hb;simp at hb|true=>rw[hq,cond_true]at hb;simp only[ai,beq_iff_eq]at hq;exact kE (.fd i) a (by simp[qT,ha]) ⟨a,ha,by cases a<;>trivial⟩ (by simp only[mI,ha];rw[hq.1];cases a<;>rfl) hq.2 hb
     .simp at hb
    |ar k u=>simp only[xo]at hb;cases hq:(i*bz u==off)&&(bz u==m)&&decide (i<k)with|false=>rw[hq]at hb;simp at hb|true=>rw[hq,cond_true]at hb;simp only[ai,beq_iff_eq,decide_eq_true_eq]at hq;exact kE (.ix i) u (by simp[qT]) ⟨hq.2,by cases u<;>trivial⟩ (by simp only[mI];rw[hq.1.1];cases u<;>rfl) hq.1.2 hb
    |_=>simp[xo]at hb
end
theorem Q0(a b:ByteArray):(a==b)=decide (a=b):=by obtain⟨x⟩:=a;obtain⟨y⟩:=b;show ByteArray.beq ⟨x⟩ ⟨y⟩=_;unfold ByteArray.beq;rw[dp];simp[ByteArray.ext_iff]
def vG(t:Ty)(x:El t):List Value:=(aR t x).map fun|.lit y=>y|_=>.nilFunc
theorem wZ{k1 k2:List Kd}{a1 a2 b1 b2:List Value}{p q:Bool}(h1:gB k1 a1 b1=some p)(h2:gB k2 a2 b2=some q):gB (k1++k2) (a1++a2) (b1++b2)=some (p&&q):=by
 induction k1 generalizing a1 b1 p with
 |nil=>cases a1<;>cases b1<;>simp[gB]at h1;subst h1;simpa using h2
 |cons k k1 ih=>
  cases a1<;>cases b1<;>simp only[gB]at h1<;>first|cases h1;done|skip
  split at h1
  .rename_i c d hc hd;obtain rfl:=aa h1;simp only[aT,gB,hc,ih hd,Bool.and_assoc]
  .simp at h1
theorem yQ{k1 k2:List Kd}{a1 a2:List Value}(h1:zG k1 a1=true)(h2:zG k2 a2=true):zG (k1++k2) (a1++a2)=true:=by
 induction k1 generalizing a1 with
 |nil=>cases a1<;>simp[zG]at h1;simpa using h2
 |cons k k1 ih=>
  cases a1<;>simp only[zG]at h1<;>first|cases h1;done|skip
  simp only[ai]at h1;simp[zG,h1.1,ih h1.2]
theorem xC:∀(t:Ty)(ks:List Kd),DO t=some ks->(∀x,aR t x=(vG t x).map .lit)/\(∀x,zG ks (vG t x)=true)/\(∀a b:El t,gB ks (vG t a) (vG t b)=some (decide (a=b)))/\ks.length=bz t:=by
 intro t;induction t with
 |pr a c iha ihc=>
  intro ks hk;simp only[DO]at hk;split at hk
  .rename_i x y hx hy;obtain rfl:=aa hk;obtain⟨a1,a2,a3,a4⟩:=iha x hx;obtain⟨c1,c2,c3,c4⟩:=ihc y hy;have e:∀v:El (.pr a c),vG (.pr a c) v=vG a v.1++vG c v.2:=fun v=>by simp[vG,aR]
   refine⟨fun v=>by rw[e,gG,<-a1,<-c1];rfl,fun v=>by rw[e];exact yQ (a2 _) (c2 _),fun u v=>?_,by simp[bz,a4,c4]⟩;rw[e,e,wZ (a3 _ _) (c3 _ _)];congr 1;rw[dp];simp[Prod.ext_iff]
  .simp at hk
 |st t ih=>intro ks hk;exact ih ks hk
 |ar m t ih=>
  intro ks hk;simp only[DO]at hk;split at hk
  .rename_i x hx;obtain rfl:=aa hk;obtain⟨a1,a2,a3,a4⟩:=ih x hx;have e:∀v:El (.ar m t),vG (.ar m t) v=v.1.flatMap (vG t):=fun v=>by simp only[vG,aR,List.map_flatMap];rfl
   refine⟨fun v=>?_,fun v=>?_,fun u v=>?_,?_⟩
   .rw [e];simp only[aR,List.map_flatMap];congr 1;funext y;exact a1 y
   .rw [e];obtain⟨l,hl⟩:=v;clear e hk ih;simp only;induction l generalizing m with|nil=>subst hl;rfl|cons y l ihl=>subst hl;simp only[c9,iz,ed,bi];exact yQ (a2 y) (ihl _ rfl)
   .rw [e,e];obtain⟨l,hl⟩:=u;obtain⟨r,hr⟩:=v
    have key:∀(m:Nat)(l r:List (El t)),l.length=m->r.length=m->gB (aw m x).flatten (l.flatMap (vG t)) (r.flatMap (vG t))=some (decide (l=r)):=by
     intro m;induction m with
     |zero=>intro l r h1 h2;obtain rfl:=a_.1 h1;obtain rfl:=a_.1 h2;rfl
     |succ m ihm=>
      intro l r h1 h2;cases l with
      |nil=>simp at h1
      |cons y l=>cases r with|nil=>simp at h2|cons z r=>simp only[iz,ed,bi];rw[wZ (a3 y z) (ihm l r (by simpa using h1) (by simpa using h2))];congr 1;rw[dp];simp
    rw[key m l r hl hr];congr 1;rw[dp];simp only[decide_eq_true_eq];exact⟨fun h=>Subtype.ext h,fun h=>congrArg Subtype.val h⟩
   .simp [bz,a4]
  .simp at hk
 |i k=>intro ks hk;obtain rfl:=aa hk;refine⟨fun _=>rfl,fun x=>by simp[vG,aR,zG,Lk],fun a b=>?_,rfl⟩;simp only[vG,aR,aD,aV,gB,EG,and_self,if_true,Bool.and_true];congr 1
 |b=>intro ks hk;obtain rfl:=aa hk;refine⟨fun _=>rfl,fun x=>by simp[vG,aR,zG,Lk],fun a b=>?_,rfl⟩;simp only[vG,aR,aD,aV,gB,EG,Bool.and_true];congr 1
 |s=>intro ks hk;obtain rfl:=aa hk;refine⟨fun _=>rfl,fun x=>by simp[vG,aR,zG,Lk],fun a b=>?_,rfl⟩;simp only[vG,aR,aD,aV,gB,EG,Bool.and_true];rw[Q0]
 |_=>intro ks hk;simp[DO]at hk
section
variable{h:H2}{n:Nat}{h1:bF}
theorem Jx{z:Bool}{op:BinOp}{k k':IntKind}{a b:Int}{v:V}(hb:QZ z op k k' a b=some v)(hz:z=true->0<b):∃y,rZ op (.int k a) (.int k' b)=some y/\fV h v (lv y)/\eX n h v:=by
 have one:∀(q:IntKind)(c:Int),fV h (.x (.i q) c) (lv (.int q c)):=fun q c=>ci (dR rfl ⟨rfl,rfl⟩);have onb:∀(c:Bool),fV h (.x .b c) (lv (.bool c)):=fun c=>ci (dR rfl ⟨rfl,rfl⟩);cases op<;>simp only[QZ]at hb
 all_goals first
  |(cases z<;>simp only[cond_true,cond_false]at hb<;>first|(cases hb;done)|skip
    have:=hz rfl;obtain rfl:=aa hb;refine⟨_,by simp only[rZ];rw[if_neg (by omega)];rfl,one _ _,trivial⟩)
  |skip
 all_goals
  by_cases hk:k=k'
  .subst hk;simp only[decide_true,cond_true]at hb
   first
    |(cases hb;done)
    |(obtain rfl:=aa hb
      refine⟨_,by simp only[rZ,if_true];rfl,?_,trivial⟩
      first|exact one _ _|exact onb _)
    |(obtain rfl:=aa hb
      first
       |exact⟨.int k (JA k a b),by simp only[rZ,if_true,xI];rfl,one _ _,trivial⟩
       |exact⟨.int k (Rq k a b),by simp only[rZ,if_true,Cb];rfl,one _ _,trivial⟩
       |exact⟨.int k (Q1 k a b),by simp only[rZ,if_true,OF];rfl,one _ _,trivial⟩
       |exact⟨.int k (rG k a b),by simp only[rZ,if_true,uK];rfl,one _ _,trivial⟩)
    |(cases z<;>simp only[cond_true,cond_false]at hb<;>first|(cases hb;done)|skip
      have:=hz rfl;obtain rfl:=aa hb;refine⟨_,by simp only[rZ,if_true];rw[if_neg (by omega)],one _ _,trivial⟩)
  .simp [hk]at hb
theorem Jw{op:BinOp}{a b:ByteArray}{v:V}(hb:QY op a b=some v):∃y,rZ op (.string a) (.string b)=some y/\fV h v (lv y)/\eX n h v:=by
 have onb:∀(c:Bool),fV h (.x .b c) (lv (.bool c)):=fun c=>ci (dR rfl ⟨rfl,rfl⟩);cases op<;>simp only[QY]at hb<;>first|(cases hb;done)|skip
 all_goals(obtain rfl:=aa hb;exact⟨_,rfl,onb _,trivial⟩)
theorem KX{m:Bool}{k:IntKind}:∀{r:List V}{x y:Int}{xs:List TV},Ro m k x r=some y->mE h r xs->O9 m (.int k x) (xs.map some)=some (.int k y):=by
 intro r;induction r with
 |nil=>intro x y xs hm hx;obtain rfl:=lO hx;obtain rfl:=aa hm;rfl
 |cons v r ih=>
  intro x y xs hm hx;obtain⟨x1,ys,rfl,h1,h2⟩:=gL hx;cases v with
  |x t c=>
   cases t with
   |i k'=>
    simp only[Ro]at hm;by_cases hk:k'=k
    .subst hk;simp only[decide_true,cond_true]at hm;obtain rfl:=kq h1;have:=ih hm h2;cases m<;>simpa[O9,SE]using this
    .simp [hk]at hm
   |_=>simp[Ro]at hm
  |_=>simp[Ro]at hm
theorem m6{α:Type}:∀(l:List α),eF (l.map some)=some l:=by intro l;induction l with|nil=>rfl|cons a l ih=>simp[eF,ih]
theorem KM{kind:Nat}{v w:V}{x:TV}{neg:Bool}{c:Call}{nx:Nat}(hx:fV h v x)(ha:iq h v=true)(hn:yD h kind v=some w):
  ∃y,cN c (.qL kind neg) [some x] h1 nx=some (y,[],[],nx)/\fV h (bif neg then KO w else w) y/\eX n h (bif neg then KO w else w):=by
 have kb:∀b,fV h (.kb b) (tB b):=fun b=>ci (dR rfl rfl);have xb:∀b,fV h (.x .b b) (tB b):=fun b=>ci (dR rfl ⟨rfl,rfl⟩)
 have sl:∀q,tT h v=some q->(bif kind==0 then(match tT h v with|some ⟨_,s,_⟩=>some (.x .b s.fI)|none=>none)else none)=some w->
   ∃y,cN c (.qL kind neg) [some x] h1 nx=some (y,[],[],nx)/\fV h (bif neg then KO w else w) y/\eX n h (bif neg then KO w else w):=by
  intro q hq hw;cases hkk:kind==0 with
  |false=>rw[hkk]at hw;simp at hw
  |true=>
   obtain rfl:kind=0:=by simpa using hkk
   rw[hq]at hw;simp only[hkk,cond_true]at hw;obtain rfl:=aa hw;refine⟨_,Qe hx ha hq,?_⟩;cases neg
   .exact ⟨xb _,trivial⟩
   .exact ⟨xb _,trivial⟩
 cases v with
 |nl k=>
  simp only[yD]at hn;cases hkk:(k==kind)&&Nat.blt k 3 with
  |false=>rw[hkk]at hn;simp at hn
  |true=>
   rw[hkk,cond_true]at hn;obtain rfl:=aa hn;simp only[ai,beq_iff_eq]at hkk;obtain⟨rfl,hlt⟩:=hkk;have hlt:k<3:=iX hlt;rw[vM hx]
   match k,hlt with|0,_=>cases neg<;>exact⟨_,rfl,kb _,trivial⟩|1,_=>cases neg<;>exact⟨_,rfl,kb _,trivial⟩|2,_=>cases neg<;>exact⟨_,rfl,kb _,trivial⟩
 |pt t v=>
  simp only[yD]at hn;cases hkk:kind==1 with
  |false=>rw[hkk]at hn;simp at hn
  |true=>
   rw[hkk,cond_true]at hn;obtain rfl:=aa hn;obtain rfl:kind=1:=by simpa using hkk
   rw[(xQ hx).2];cases neg<;>exact⟨_,rfl,kb _,trivial⟩
 |op id t p=>
  simp only[yD]at hn;cases hkk:kind==1 with
  |false=>rw[hkk]at hn;simp at hn
  |true=>
   rw[hkk,cond_true]at hn;obtain rfl:=aa hn;obtain rfl:kind=1:=by simpa using hkk
   rw[vL hx];cases neg<;>exact⟨_,rfl,kb _,trivial⟩
 |ep id m t p=>
  simp only[yD]at hn;cases hkk:kind==1 with
  |false=>rw[hkk]at hn;simp at hn
  |true=>
   rw[hkk,cond_true]at hn;obtain rfl:=aa hn;obtain rfl:kind=1:=by simpa using hkk
   rw[sn hx];cases neg<;>exact⟨_,rfl,kb _,trivial⟩
 |fn z f l=>
  simp only[yD]at hn;cases hkk:kind==2 with
  |false=>rw[hkk]at hn;simp at hn
  |true=>
   rw[hkk,cond_true]at hn;obtain rfl:=aa hn;obtain rfl:kind=2:=by simpa using hkk
   rcases EM hx with⟨_,ds,_,rfl⟩|⟨_,cs,_,rfl⟩<;>(cases neg<;>exact⟨_,rfl,kb _,trivial⟩)
 |x t v=>cases hq:tT h (.x t v)with|none=>simp[yD,hq]at hn|some q=>exact sl q hq hn
 |so id=>cases hq:tT h (.so id)with|none=>simp[yD,hq]at hn|some q=>exact sl q hq hn
 |sb id ver lo t r=>cases hq:tT h (.sb id ver lo t r)with|none=>simp[yD,hq]at hn|some q=>exact sl q hq hn
 |_=>simp[yD,tT]at hn
theorem LV{off m i:Nat}{v w:V}{x:TV}{c:Call}{nx:Nat}(hx:fV h v x)(hk:eX n h v)(hw:F6 off m i v=some w):
  ∃y,cN c (.fieldAddr off m) [some x] h1 nx=some (y,[],[],nx)/\fV h w y/\eX n h w:=by
 have NK:∀(t u a:Ty)(p:pO),qT t p=some (.st u)->Cq u i=some a->Iw t p->Iw t (p++[.fd i])/\mI t (p++[.fd i])=mI t p+oR u i:=by
  intro t u a p;induction p generalizing t with
  |nil=>
   intro h1 h2 _;have e:qT t []=some t:=by cases t<;>rfl
   obtain rfl:t=.st u:=by rw[e]at h1;exact aa h1
   refine⟨⟨a,h2,by cases a<;>trivial⟩,?_⟩;simp only[br,mI,h2];cases a<;>simp[mI]
  |cons q p ih=>
   intro h1 h2 h3;cases q with
   |fd j=>cases t with|st t=>obtain⟨b2,hb,h3⟩:=h3;simp only[qT,hb]at h1;obtain⟨q1,q2⟩:=ih b2 h1 h2 h3;refine⟨⟨b2,hb,q1⟩,?_⟩;simp only[aT,mI,hb,q2];exact(cM _ _ _).symm|_=>exact h3.elim
   |ix k=>cases t with|ar l t=>obtain⟨hk,h3⟩:=h3;obtain⟨q1,q2⟩:=ih t h1 h2 h3;refine⟨⟨hk,q1⟩,?_⟩;simp only[aT,mI,q2];exact(cM _ _ _).symm|_=>exact h3.elim
 cases v with
 |op id t p=>
  simp only[F6]at hw;split at hw
  .rename_i u hu;split at hw
   .rename_i a hf;cases hq:(oR u i==off)&&(bz a==m)with
    |false=>rw[hq]at hw;simp at hw
    |true=>
     rw[hq,cond_true]at hw;obtain rfl:=aa hw;simp only[ai,beq_iff_eq]at hq;obtain⟨q1,q2⟩:=NK t u a p hu hf hk.2;rw[vL hx];refine⟨_,rfl,ci (dR rfl ?_),hk.1,q1⟩;show[_]=[_]
     rw[q2,hq.1]
   .simp at hw
  .simp at hw
 |ep id k t p=>
  simp only[F6]at hw;split at hw
  .rename_i u hu;split at hw
   .rename_i a hf;cases hq:(oR u i==off)&&(bz a==m)with
    |false=>rw[hq]at hw;simp at hw
    |true=>
     rw[hq,cond_true]at hw;obtain rfl:=aa hw;simp only[ai,beq_iff_eq]at hq;obtain⟨q1,q2⟩:=NK t u a p hu hf hk.2.1;rw[sn hx];refine⟨_,rfl,ci (dR rfl ?_),hk.1,q1,hk.2.2⟩;show[_]=[_]
     rw[q2,hq.1]
   .simp at hw
  .simp at hw
 |pt t v=>
  cases t with
  |st u=>
   simp only[F6]at hw;split at hw
   .rename_i a y hy;cases hq:(oR u i==off)&&(bz a==m)with
    |false=>rw[hq]at hw;simp at hw
    |true=>
     rw[hq,cond_true]at hw;obtain rfl:=aa hw;simp only[ai,beq_iff_eq]at hq;obtain⟨a',y',e,f1,f2,f3⟩:=qI _ _ _ _ hy;cases e;obtain⟨hd,rfl⟩:=xQ hx;refine⟨_,?_,ci (dR (c:=.d (.pt (aR a y))) rfl ⟨zj u _ _ hd f1,rfl⟩),trivial⟩;have hle:off+m<=(aR (.st u) v).length:=by rw[bJ];show _<=bz u;omega
     have e2:((aR (.st u) v).drop off).take m=aR a y:=by rw[<-hq.1,<-hq.2];exact f3
     simp only[cN,j_];rw[if_pos hle,e2]
   .simp at hw
  |_=>simp[F6]at hw
 |_=>simp[F6]at hw
theorem Iy:∀(l:V)(i:Nat)(w:V)(cs:List C),eZ h l cs->rV l i=some w->∃cw,eZ h w cw/\Oe l i+xV w<=cs.length/\(cs.drop (Oe l i)).take (xV w)=cw:=by
 intro l;induction l with
 |co a r iha ihr=>intro i w cs hv hw;obtain⟨x,y,rfl,k1,k2⟩:=hv;have hl:=iw k1;cases i with|zero=>obtain rfl:=aa hw;refine⟨x,k1,by simp[Oe];omega,?_⟩;simp only[Oe,List.drop_zero];rw[<-hl,List.take_left]|succ i=>obtain⟨cw,q1,q2,q3⟩:=ihr i w y k2 hw;refine⟨cw,q1,by simp only[Oe,az];omega,?_⟩;simp only[Oe];rw[<-dO,<-hl,List.drop_left,q3]
 |_=>intro i w cs hv hw;simp[rV]at hw
theorem NT:∀(l:V)(i:Nat)(w:V)(xs:List TV),Bo h l xs->rV l i=some w->∃x,xs[i]?=some x/\sq h w x:=by
 intro l;induction l with
 |co a r iha ihr=>intro i w xs hv hw;obtain⟨x,ys,rfl,k1,k2⟩:=hv;cases i with|zero=>obtain rfl:=aa hw;exact⟨x,rfl,k1⟩|succ i=>exact ihr i w ys k2 hw
 |_=>intro i w xs hv hw;simp[rV]at hw
end
section
variable{h:H2}{n:Nat}{h1:bF}
def Rc(h:H2)(n:Nat)(h1:bF)(k:K)(xs:List TV)(v:V)(l:List Nat):Prop:=∀(c:Call)(nx:Nat),∃x aA,cN c k (xs.map some) h1 nx=some (x,[],aA,nx)/\fV h v x/\eX n h v/\∀i∈aA,i∈l
theorem Rc.of{k:K}{xs:List TV}{v:V}{x:TV}(he:∀(c:Call)(nx:Nat),cN c k (xs.map some) h1 nx=some (x,[],[],nx))(hx:fV h v x)(hk:eX n h v):Rc h n h1 k xs v []:=fun c nx=>⟨x,[],he c nx,hx,hk,fun i hi=>by simp at hi⟩
theorem xb(b:Bool):fV h (.x .b b) (tB b):=ci (dR rfl ⟨rfl,rfl⟩)
theorem xi(k:IntKind)(a:Int):fV h (.x (.i k) a) (tI k a):=ci (dR rfl ⟨rfl,rfl⟩)
theorem Rk(a:ByteArray):fV h (.x .s a) (.c (.d (dS a))):=ci (dR rfl ⟨rfl,rfl⟩)
def Rl(t:Ty)(y:El t):TV:=if nc t=true then .agg ((aR t y).map .d)else match aR t y with|d::_=>.c (.d d)|[]=>.iN []
theorem GJ{t:Ty}(y:El t){va:Bool}(hv:nc t=va)(h1:(va||bz t==1)=true):pf va (aR t y)=some (Rl t y):=by
 subst hv;unfold pf Rl;cases ha:nc t with
 |true=>rfl
 |false=>
  rw[ha]at h1;have:=bJ t y;rw[show bz t=1 by simpa using h1]at this;cases he:aR t y with
  |nil=>rw[he]at this;simp at this
  |cons d r=>
   rw[he]at this;have:r=[]:=by simpa using this
   subst this;rfl
theorem JS{t:Ty}{y:El t}(hd:kD t=true)(h1:(nc t||bz t==1)=true):sq h (.x t y) (Rl t y):=by
 unfold Rl;cases ha:nc t with
 |true=>exact xR ha ⟨hd,rfl⟩
 |false=>
  rw[ha]at h1;have:=bJ t y;rw[show bz t=1 by simpa using h1]at this;cases he:aR t y with
  |nil=>rw[he]at this;simp at this
  |cons d r=>
   rw[he]at this;have:r=[]:=by simpa using this
   subst this;exact dR ha ⟨hd,by rw[he];rfl⟩
theorem JD(f:TV->Option C)(hf:∀c,f (.c c)=some c):∀(cs:List C),eF ((cs.map TV.c).map f)=some cs:=by intro cs;induction cs with|nil=>rfl|cons c cs ih=>simp only[aD,hf,eF,ih]
theorem yL:∀(l:List Value),lJ (l.map fun v=>C.d (.lit v))=some l:=by intro l;induction l with|nil=>rfl|cons v l ih=>simp[lJ,ih]
theorem DL{kt:Ty}{ks:List Kd}{v:V}{x:TV}{y:El kt}{ka:Bool}(hx:fV h v x)(hc:tM kt v=some y)(hk:DO kt=some ks)(ha:nc kt=ka):oQ ka ks x=some (vG kt y):=by
 obtain⟨h1,h2,_,h4⟩:=xC kt ks hk;obtain⟨g1,g2⟩:=vv hx hc;cases ka with
 |true=>
  rw[g1 ha];have e:(aR kt y).map C.d=(vG kt y).map fun v=>C.d (.lit v):=by rw[h1 y,lF];rfl
  simp only[oQ];rw[if_pos ⟨trivial,by rw[aN,bJ,h4]⟩,e,yL];simp only[h2 y,if_true]
 |false=>
  obtain⟨d,hd,rfl⟩:=g2 ha;have hl:=bJ kt y;rw[hd]at hl;have h5:=h1 y;rw[hd]at h5;cases hv:vG kt y with
  |nil=>rw[hv]at h5;simp at h5
  |cons q r=>
   rw[hv]at h5;simp only[aD,dJ]at h5;obtain⟨rfl,h6⟩:=h5;have:r=[]:=by simpa using h6.symm
   subst this;simp only[oQ];rw[if_pos ⟨trivial,by rw[h4,<-hl];rfl⟩];have h7:=h2 y;rw[hv]at h7;simp only[lJ,h7,if_true]
theorem K5{v:V}{q:(k:Ty)×(v:Ty)×Mp (El k) (El v)×List Nat}{x:TV}(hr:HR n h1 h)(hm:N1 h v=some q)(hx:fV h v x):
  ∃id,v=.om id/\x=.c (.om id)/\q.2.2.2=[id]/\fO h id=some (.mp q.1 q.2.1 q.2.2.1)/\aB h1 id=EE (nc q.1) (nc q.2.1) (vG q.1) (aR q.2.1) q.2.2.1:=by
 cases v with
 |om id=>
  simp only[N1]at hm;split at hm
  .rename_i k v m ho;obtain rfl:=aa hm;exact⟨id,rfl,EL hx,rfl,ho,(hr.ob id _ ho).2.1.2.2⟩
  .simp at hm
 |_=>simp[N1]at hm
theorem K8{c:Call}{x y:TV}{H:bF}{l:List Nat}{nx:Nat}(h:cN c (.load false 1) [some x] H nx=some (y,[],l,nx)):cN c .t7 [some x] H nx=some (y,[],l,nx):=by
 cases x with
 |c p=>
  have h:(match h_ false 1 p H with|some (v,aA)=>some (v,([]:fx),aA,nx)|none=>none)=some (y,[],l,nx):=h;show(match h_ false 1 p H with|some (v,aA)=>some (v,([]:fx),aA,nx)|none=>lA false 1 p H nx)=some (y,[],l,nx);split at h
  .exact h
  .cases h
 |_=>cases h
theorem HJ{o:OP}{vs:List V}{v:V}{l:List Nat}{xs:List TV}(hr:HR n h1 h)(ht:PM o vs h=some (v,l))(hx:mE h vs xs)(hk:∀w∈vs,eX n h w)(ha:∀w∈vs,iq h w=true)
  (hp:NH o.o.args=true->∀a k b,vs=[a,.x (.i k) b]->0<b):Rc h n h1 o.o.k xs v l:=by
 obtain⟨⟨d,k,args,g⟩,t,fi⟩:=o;simp only at hp|-;unfold PM at ht;simp only at ht;split at ht
 .--mv
  obtain⟨rfl,rfl⟩:=ad (aa ht);obtain⟨x,rfl,h2⟩:=iM hx;exact .of (fun _ _=>rfl) h2 (hk _ (by simp))
 .--nilCheck
  obtain⟨x,rfl,h2⟩:=iM hx;have hk1:=hk _ (am.2 rfl);split at ht
  .obtain ⟨rfl,rfl⟩:=ad (aa ht);exact .of (fun _ _=>by rw[(xQ h2).2];rfl) h2 hk1
  .obtain ⟨rfl,rfl⟩:=ad (aa ht);refine .of (fun _ _=>?_) h2 hk1;rcases EM h2 with⟨_,ds,_,rfl⟩|⟨_,cs,_,rfl⟩<;>rfl
  .obtain ⟨rfl,rfl⟩:=ad (aa ht);exact .of (fun _ _=>by rw[sn h2];rfl) h2 hk1
  .obtain ⟨rfl,rfl⟩:=ad (aa ht);exact .of (fun _ _=>by rw[vL h2];rfl) h2 hk1
  .simp at ht
 .--Ad int
  rename_i op q a q' b;obtain⟨x,y,rfl,h2,h3⟩:=ja hx;obtain rfl:=kq h2;obtain rfl:=kq h3;split at ht
  .rename_i w hw;obtain⟨rfl,rfl⟩:=ad (aa ht);obtain⟨y,h4,h5,h6⟩:=Jx (h:=h) (n:=n) hw fun hz=>hp hz _ _ _ rfl;exact .of (fun _ _=>by simp only[l5,cN,h4]) h5 h6
  .simp at ht
 .--Ad string
  obtain⟨x,y,rfl,h2,h3⟩:=ja hx;obtain rfl:=wO h2;obtain rfl:=wO h3;split at ht
  .rename_i w hw;obtain⟨rfl,rfl⟩:=ad (aa ht);obtain⟨y,h4,h5,h6⟩:=Jw (h:=h) (n:=n) hw;exact .of (fun _ _=>by simp only[l5,cN,h4]) h5 h6
  .simp at ht
 .--uG
  rename_i neg v1 v2;obtain⟨x,y,rfl,h2,h3⟩:=ja hx;split at ht
  .rename_i a b ha' hb';obtain⟨rfl,rfl⟩:=ad (aa ht);rw[Pm h2 ha',Pm h3 hb'];refine .of (x:=tB (bif neg then !(a==b)else a==b)) (fun _ _=>?_) (xb _) trivial;cases neg<;>rfl
  .simp at ht
 .--qL
  obtain⟨x,rfl,h2⟩:=iM hx;split at ht
  .rename_i w hw;obtain⟨rfl,rfl⟩:=ad (aa ht);intro c nx;obtain⟨y,h4,h5,h6⟩:=KM (n:=n) (h1:=h1) (c:=c) (nx:=nx) h2 (ha _ (by simp)) hw;exact⟨y,[],h4,h5,h6,fun i hi=>by simp at hi⟩
  .simp at ht
 .--zf
  rename_i neg ks t1 a w;obtain⟨x,y,rfl,h2,h3⟩:=ja hx;split at ht
  .rename_i b hb;cases hq:nc t1&&decide (DO t1=some ks)with
   |false=>rw[hq]at ht;simp at ht
   |true=>
    rw[hq,cond_true]at ht;obtain⟨rfl,rfl⟩:=ad (aa ht);simp only[ai,decide_eq_true_eq]at hq;obtain⟨k1,k2,k3,k4⟩:=xC t1 ks hq.2;have e1:=(vv (v:=.x t1 a) (u:=t1) (y:=a) h2 (by simp[tM,kN,ic,gE])).1 hq.1;have e2:=(vv h3 hb).1 hq.1;have el:∀z:El t1,lJ ((aR t1 z).map C.d)=some (vG t1 z):=fun z=>by rw[show(aR t1 z).map C.d=(vG t1 z).map fun v=>C.d (.lit v)by rw[k1 z,lF];rfl,yL]
    rw[e1,e2];refine .of (x:=tB (bif neg then !(decide (a=b))else decide (a=b))) (fun _ _=>?_) (xb _) trivial;simp only[l5,cN,el,k3];cases neg<;>rfl
  .simp at ht
 .obtain ⟨rfl,rfl⟩:=ad (aa ht);obtain⟨x,rfl,h2⟩:=iM hx;rw[vN h2];exact .of (fun _ _=>rfl) (ci (dR rfl rfl)) trivial
 .obtain ⟨rfl,rfl⟩:=ad (aa ht);obtain⟨x,rfl,h2⟩:=iM hx;rw[GL h2];exact .of (fun _ _=>rfl) (xb _) trivial
 .obtain ⟨rfl,rfl⟩:=ad (aa ht);obtain⟨x,rfl,h2⟩:=iM hx;rw[kq h2];exact .of (fun _ _=>rfl) (xi _ _) trivial
 .obtain ⟨rfl,rfl⟩:=ad (aa ht);obtain⟨x,rfl,h2⟩:=iM hx;rw[kq h2];exact .of (fun _ _=>rfl) (xi _ _) trivial
 .obtain ⟨rfl,rfl⟩:=ad (aa ht);obtain⟨x,rfl,h2⟩:=iM hx;rw[kq h2];exact .of (fun _ _=>rfl) (xi _ _) trivial
 .obtain ⟨rfl,rfl⟩:=ad (aa ht);obtain⟨x,rfl,h2⟩:=iM hx;rw[wO h2];exact .of (fun _ _=>rfl) (Rk _) trivial
 .--IF
  rename_i f;cases hc:vs.all OC with
  |false=>rw[hc]at ht;simp at ht
  |true=>
   rw[hc,cond_true]at ht;obtain⟨rfl,rfl⟩:=ad (aa ht);obtain⟨cs,h2,rfl⟩:=JT hx fun w hw=>by have:=List.all_eq_true.1 hc w hw;cases w<;>first|exact⟨trivial,by simp[OC]at this;exact this⟩|simp[OC]at this
   refine .of (x:=.c (.oN f cs)) (fun _ _=>?_) (ci (dR rfl ⟨cs,h2,rfl⟩)) ?_
   .simp only[cN,m6];rw[JD _ fun _=>rfl]
   .clear ht h2 hp ha hc hx;induction vs with|nil=>trivial|cons w vs ih=>exact⟨hk w (by simp),ih fun u hu=>hk u (by simp[hu])⟩
 .--load
  rename_i g m p;obtain⟨x,rfl,h2⟩:=iM hx;split at ht
  .rename_i w l' hl;cases hc:Gp h g m w with|false=>rw[hc]at ht;simp at ht|true=>rw[hc,cond_true]at ht;obtain⟨rfl,rfl⟩:=ad (aa ht);intro c nx;obtain⟨y,h3,h4,h5⟩:=wa (c:=c) (nx:=nx) hr hl hc h2 (hk _ (by simp));exact⟨y,_,h3,h4,h5,fun i hi=>hi⟩
  .simp at ht
 .--load of a slice
  obtain⟨x,rfl,h2⟩:=iM hx;split at ht
  .rename_i w l' hl;cases hc:Gp h false 1 w with|false=>rw[hc]at ht;simp at ht|true=>rw[hc,cond_true]at ht;obtain⟨rfl,rfl⟩:=ad (aa ht);intro c nx;obtain⟨y,h3,h4,h5⟩:=wa (c:=c) (nx:=nx) hr hl hc h2 (hk _ (by simp));exact⟨y,_,K8 h3,h4,h5,fun i hi=>hi⟩
  .simp at ht
 .--fieldAddr
  obtain⟨x,rfl,h2⟩:=iM hx;split at ht
  .split at ht
   .rename_i w hw;obtain⟨rfl,rfl⟩:=ad (aa ht);intro c nx;obtain⟨y,h3,h4,h5⟩:=LV (h1:=h1) (c:=c) (nx:=nx) h2 (hk _ (by simp)) hw;exact⟨y,[],h3,h4,h5,fun i hi=>by simp at hi⟩
   .simp at ht
  .simp at ht
 .--field of data
  rename_i g off m u y;obtain⟨x,rfl,h2⟩:=iM hx;split at ht
  .split at ht
   .rename_i i _ w hw;cases hc:(oR u i==off)&&Gp h g m w with
    |false=>rw[hc]at ht;simp at ht
    |true=>
     rw[hc,cond_true]at ht;obtain⟨rfl,rfl⟩:=ad (aa ht);simp only[ai,beq_iff_eq]at hc;obtain⟨a,z,rfl,f1,f2,f3⟩:=qI _ _ _ _ hw;obtain⟨cs,⟨hd,rfl⟩,g1,_⟩:=oK (v:=.x (.st u) y) trivial h2;have hd':kD u=true:=hd;obtain⟨_,hs,_,_⟩:=ol hc.2;have hs:bz a=m:=hs
     obtain⟨q,h3,h4⟩:=pu (cs:=(aR u y).map C.d) (off:=off) hc.2 (show eZ h (.x a z) ((aR a z).map .d)from⟨zj u _ _ hd' f1,rfl⟩) (by simp[bJ];omega)
      (by rw[<-hc.1,<-hs,<-f3,gX,gm])
     rw[g1 rfl];exact .of (x:=q) (fun _ _=>by show(match DJ g m (((aR u y).map C.d).drop off)with|some v=>some (v,([]:fx),([]:List Nat),_)|none=>none)=_;rw[h3]) h4 trivial
   .simp at ht
  .simp at ht
 .--field of a di
  rename_i g off m u;obtain⟨x,rfl,h2⟩:=iM hx;split at ht
  .split at ht
   .rename_i i _ w hw;cases hc:(Oe u i==off)&&Gp h g m w with|false=>rw[hc]at ht;simp at ht|true=>rw[hc,cond_true]at ht;obtain⟨rfl,rfl⟩:=ad (aa ht);simp only[ai,beq_iff_eq]at hc;obtain⟨cs,hcs,g1,_⟩:=oK (v:=.rc u) trivial h2;obtain⟨cw,q1,q2,q3⟩:=Iy u i w cs hcs hw;obtain⟨_,hs,_,_⟩:=ol hc.2;obtain⟨q,h3,h4⟩:=pu (off:=off) hc.2 q1 (by rw[<-hc.1,<-hs];exact q2) (by rw[<-hc.1,<-hs];exact q3);rw[g1 rfl];exact .of (x:=q) (fun _ _=>by show(match DJ g m (cs.drop off)with|some v=>some (v,([]:fx),([]:List Nat),_)|none=>none)=_;rw[h3]) h4 (xA u i w (hk (.rc u) (am.2 rfl)) hw)
   .simp at ht
  .simp at ht
 .--extract
  rename_i i u;obtain⟨x,rfl,h2⟩:=iM hx;split at ht
  .rename_i w hw;obtain⟨rfl,rfl⟩:=ad (aa ht);obtain⟨ys,rfl,h3⟩:=PL h2;obtain⟨y,h4,h5⟩:=NT u i w ys h3 hw;exact .of (x:=y) (fun _ _=>by simp only[l5,cN,h4]) (ci h5) (xA u i w (hk (.tp u) (am.2 rfl)) hw)
  .simp at ht
 .obtain ⟨rfl,rfl⟩:=ad (aa ht);obtain⟨x,rfl,h2⟩:=iM hx;rw[wO h2];exact .of (fun _ _=>rfl) (xi _ _) trivial
 .obtain ⟨rfl,rfl⟩:=ad (aa ht);obtain⟨x,rfl,h2⟩:=iM hx;rw[vM h2];exact .of (fun _ _=>rfl) (xi _ _) trivial
 .--len of a di of ao
  obtain⟨x,rfl,h2⟩:=iM hx;split at ht
  .rename_i t' s' ln hq;obtain⟨rfl,rfl⟩:=ad (aa ht);exact .of (fun _ _=>by rw[JU h2 (su hq)];exact O_) (xi _ _) trivial
  .simp at ht
 .--len
  obtain⟨x,rfl,h2⟩:=iM hx;split at ht
  .rename_i q t' s' l' hq;obtain⟨rfl,rfl⟩:=ad (aa ht);exact .of (fun _ _=>Qn h2 (ha _ (by simp)) hq) (xi _ _) trivial
  .simp at ht
 .--uB
  rename_i m k' x r;obtain⟨x1,ys,rfl,h2,h3⟩:=gL hx;split at ht
  .rename_i y hy;obtain⟨rfl,rfl⟩:=ad (aa ht);obtain rfl:=kq h2;exact .of (x:=lv (.int k' y)) (fun _ _=>by simp only[l5,cN,KX hy h3]) (xi _ _) trivial
  .simp at ht
 .--build
  rename_i z ps;cases hc:tQ (nk t) z&&nc t&&eE (O0 t) false t with
  |false=>rw[hc]at ht;simp at ht
  |true=>
   rw[hc,cond_true]at ht;simp only[ai]at hc;split at ht
   .rename_i w hw;obtain⟨rfl,rfl⟩:=ad (aa ht);obtain⟨z1,z2⟩:=(xJ (h:=h) (n:=n) t).1 hc.2;obtain⟨cs,b1,b2,b3,b4⟩:=MC fi ps vs (O0 t) w _ xs hw hc.2 z1 z2 hx hk;rw[qW hc.1.1]at b1;exact .of (x:=.agg cs) (fun _ _=>by simp only[cN,m6,b1]) (ci (xR (Qx b4 hc.1.2) b2)) b3
   .simp at ht
 .--lookup
  rename_i ka ks va z ok m kv;obtain⟨x,y,rfl,h2,h3⟩:=ja hx;split at ht
  .rename_i kt vt mp l' hq;split at ht
   .rename_i key hkey;cases hc:(nc kt==ka)&&(nc vt==va)&&decide (DO kt=some ks)&&tQ (nk vt) z&&kD vt&&(va||bz vt==1)with
    |false=>rw[hc]at ht;simp at ht
    |true=>
     rw[hc,cond_true]at ht;simp only[ai,beq_iff_eq,decide_eq_true_eq]at hc;obtain⟨⟨⟨⟨⟨c1,c2⟩,c3⟩,c4⟩,c5⟩,c6⟩:=hc;obtain⟨id,rfl,rfl,e1,e2,e3⟩:=K5 hr hq h2;have e1:l'=[id]:=e1;subst e1;obtain⟨_,_,k3,_⟩:=xC kt ks c3;have hz:cB z=aR vt (sd vt):=by rw[qV vt c5,qW c4]
     have hv:∀y,pf va (aR vt y)=some (Rl vt y):=fun y=>GJ y c2 c6;have hkt:=DL h3 hkey c3 c1;rw[c1,c2]at e3;rw[<-c2]at c6;cases ok with|false=>simp only[cond_false]at ht;obtain⟨rfl,rfl⟩:=ad (aa ht);exact fun c nx=>⟨_,[id],Qi (z:=sd vt) e3 hkt k3 hz hv,ci (JS c5 c6),trivial,fun i hi=>hi⟩|true=>simp only[cond_true]at ht;obtain⟨rfl,rfl⟩:=ad (aa ht);exact fun c nx=>⟨_,[id],N5 (z:=sd vt) e3 hkt k3 hz hv,⟨_,rfl,_,_,rfl,JS c5 c6,_,_,rfl,dR rfl ⟨rfl,rfl⟩,rfl⟩,⟨trivial,trivial,trivial⟩,fun i hi=>hi⟩
   .simp at ht
  .simp at ht
 .simp at ht
end
section
variable{h:H2}{n:Nat}{h1:bF}
theorem c8(id:Nat)(o:Option O)(h:H2)(i:Nat):fO ((id,o)::h) i=if id=i then o else fO h i:=by
 simp only[fO,cq];by_cases e:id=i
 .subst e;simp
 .have e':(id==i)=false:=by simpa using e
  simp[e,e']
theorem dA(id:Nat)(o:Option Ob)(h:bF)(i:Nat):aB ((id,o)::h) i=if id=i then o else aB h i:=by
 simp only[aB,cq];by_cases e:id=i
 .subst e;simp
 .have e':(id==i)=false:=by simpa using e
  simp[e,e']
theorem jr.new(o:Option O):jr n h ((n,o)::h):=⟨fun id o' hi ho=>by rw[c8,if_neg (by omega)]at ho;exact .inl ⟨o',ho,sh.refl _⟩⟩
theorem jr.Cy{id:Nat}{o o':O}(ho:fO h id=some o)(hs:sh o o'):jr n h ((id,some o')::h):=
 ⟨fun i o2 hi h2=>by
  rw[c8]at h2;split at h2
  .rename_i e;subst e;obtain rfl:=aa h2;exact .inl ⟨o,ho,hs⟩
  .exact .inl ⟨o2,h2,sh.refl _⟩⟩
theorem jr.lV(id:Nat):jr n h ((id,none)::h):=
 ⟨fun i o2 hi h2=>by
  rw[c8]at h2;split at h2
  .simp at h2
  .exact .inl ⟨o2,h2,sh.refl _⟩⟩
theorem HR.Cy{n' id:Nat}{o:Option O}{u:fx}(hr:HR n h1 h)(hn:n<=n')(hi:id<n')(hs:jr n h ((id,o)::h))(hu:∀i,i≠id->aB (u++h1) i=aB h1 i)
  (ho:∀o',o=some o'->vc ((id,o)::h) o' (aB (u++h1) id)/\Cp n' ((id,o)::h) o'):HR n' (u++h1) ((id,o)::h):=by
 refine⟨fun i o' h2=>?_⟩;rw[c8]at h2;split at h2
 .rename_i e;subst e;exact⟨hi,ho o' h2⟩
 .rename_i e;obtain⟨q1,q2,q3⟩:=hr.ob i o' h2;refine⟨by omega,?_,nX hn hs q3⟩;rw[hu i fun e'=>e e'.symm];exact pp hs q3 q2
theorem HR.mono{n':Nat}(hr:HR n h1 h)(hn:n<=n'):HR n' h1 h:=⟨fun i o ho=>let⟨a,b,c⟩:=hr.ob i o ho;⟨by omega,b,nX hn (jr.refl n h) c⟩⟩
theorem HR.ext{h1':bF}(hr:HR n h1 h)(he:∀i,aB h1' i=aB h1 i):HR n h1' h:=⟨fun i o ho=>by rw[he];exact hr.ob i o ho⟩
structure qS(s s':S2)(h1:bF)(x:TV)(u:fx)(aA:List Nat)(m:Nat)(v:V)(l:List Nat):Prop where
 val:fV s'.heap v x
 UP:eX s'.next s'.heap v
 hr:HR s'.next (u++h1) s'.heap
 eI:jr s.next s.heap s'.heap
 dD:s'.dD=s.dD
 gh:s'.gh=s.gh
 m:m<=s'.next
 le:s.next<=s'.next
 aA:∀i∈aA,i∈l
 nb:∀i,i<s.next->fO s.heap i=none->fO s'.heap i=none
 wo:∃w,s'.wo=w++s.wo/\(∀p∈u,p.1∈w)/\∀id,id∉w->fO s'.heap id=fO s.heap id
theorem qS.pure{s:S2}{x:TV}{v:V}{aA l:List Nat}(hr:HR s.next h1 s.heap)(hx:fV s.heap v x)(hk:eX s.next s.heap v)(hl:∀i∈aA,i∈l):qS s s h1 x [] aA s.next v l:=⟨hx,hk,hr,jr.refl _ _,rfl,rfl,au _,au _,hl,fun _ _ h=>h,[],rfl,fun p hp=>by simp at hp,fun _ _=>rfl⟩
theorem qS.new{s:S2}{o:O}{b:Option Ob}{u:fx}{x:TV}{v:V}{aA l:List Nat}{m:Nat}(hr:HR s.next h1 s.heap)(hu:u=[(s.next,b)]\/(u=[]/\∀b',vc ((s.next,some o)::s.heap) o b'))(hb:u=[(s.next,b)]->vc ((s.next,some o)::s.heap) o b)
  (hko:Cp (s.next+1) ((s.next,some o)::s.heap) o) (hx:fV ((s.next,some o)::s.heap) v x) (hk:eX (s.next+1) ((s.next,some o)::s.heap) v) (hl:∀i∈aA,i∈l) (hm:m<=s.next+1):qS s (jz s o) h1 x u aA m v l:=by
 refine⟨hx,hk,?_,jr.new _,rfl,rfl,hm,bH _,hl,fun i hi h=>(by rw[show(jz s o).heap=(s.next,some o)::s.heap from rfl,c8,if_neg (by omega)];exact h),[s.next],rfl,?_,fun id hid=>?_⟩
 .refine HR.Cy (n':=s.next+1) hr (bH _) (aX _) (jr.new _) (fun i hi=>?_) fun o' ho'=>?_
  .rcases hu with rfl|⟨rfl,_⟩
   .rw [aY,dA,if_neg fun e=>hi e.symm]
   .rfl
  .obtain rfl:=aa ho';refine⟨?_,hko⟩;rcases hu with rfl|⟨rfl,hu⟩
   .rw [aY,dA,if_pos rfl];exact hb rfl
   .exact hu _
 .intro p hp;rcases hu with rfl|⟨rfl,_⟩
  .obtain rfl:=am.1 hp;simp
  .simp at hp
 .simp only[jz];rw[c8,if_neg fun e=>hid (by simp[e])]
theorem qS.Cy{s:S2}{id:Nat}{o o':O}{b:Option Ob}{x:TV}{v:V}{aA l:List Nat}(hr:HR s.next h1 s.heap)(ho:fO s.heap id=some o)(hs:sh o o')(hb:vc ((id,some o')::s.heap) o' b)(hko:Cp s.next ((id,some o')::s.heap) o')
  (hx:fV ((id,some o')::s.heap) v x) (hk:eX s.next ((id,some o')::s.heap) v) (hl:∀i∈aA,i∈l):qS s (ez s id (some o')) h1 x [(id,b)] aA s.next v l:=by
 refine⟨hx,hk,?_,jr.Cy ho hs,rfl,rfl,au _,au _,hl,fun i _ h=>(by rw[show(ez s id (some o')).heap=(id,some o')::s.heap from rfl,c8,if_neg (fun e=>by rw[e,h]at ho;cases ho)];exact h),[id],rfl,fun p hp=>?_,fun i hi=>?_⟩
 .refine HR.Cy hr (au _) (hr.ob id o ho).1 (jr.Cy ho hs) (fun i hi=>?_) fun o2 ho2=>?_
  .rw [aY,dA,if_neg fun e=>hi e.symm]
  .obtain rfl:=aa ho2;rw[aY,dA,if_pos rfl];exact⟨hb,hko⟩
 .obtain rfl:=am.1 hp;simp
 .simp only[ez];rw[c8,if_neg fun e=>hi (by simp[e])]
def mF(h:H2)(id:Nat):Prop:=(∃t v,fO h id=some (.ar t .nil v)\/fO h id=some (.im t .nil v))\/∃t ln,fO h id=some (.rw t .nil ln)
theorem yC{id ver:Nat}{t:Ty}{l:List (El t)}(ho:fO h id=some (.ar t (.mk l) ver)\/fO h id=some (.im t (.mk l) ver)):¬mF h id:=by
 rintro(⟨u,v',e⟩|⟨u,ln,e⟩)
 .rcases ho with ho|ho<;>rcases e with e|e<;>rw[ho]at e<;>simp at e
  all_goals
   obtain⟨rfl,e,_⟩:=e;cases eq_of_heq e
 .rcases ho with ho|ho<;>rw[ho]at e<;>cases e
theorem NW{id:Nat}{t:Ty}{l:List (Sl (El t))}{ln:Option (Nat×Nat)}(ho:fO h id=some (.rw t (.mk l) ln)):¬mF h id:=by
 rintro(⟨u,v',e⟩|⟨u,ln',e⟩)
 .rcases e with e|e<;>rw[ho]at e<;>cases e
 .rw [ho]at e;cases e
theorem pR(k:Nat)(x:D):dV h1 k (.d x)=some (x,[]):=by cases k<;>rfl
theorem xL:∀(ds:List D),dP h1 (ds.map .d)=some (ds,[]):=by intro ds;induction ds with|nil=>rfl|cons d ds ih=>simp[dP,pR,ih]
theorem p9{a b:List C}{x y:List D}{i j:List Nat}(ha:dP h1 a=some (x,i))(hb:dP h1 b=some (y,j)):dP h1 (a++b)=some (x++y,i++j):=by
 induction a generalizing x i with
 |nil=>obtain⟨rfl,rfl⟩:[]=x/\[]=i:=by simpa[dP]using ha
       simpa using hb
 |cons c a ih=>
  simp only[dP]at ha;split at ha
  .rename_i p q r s hp hq;obtain⟨rfl,rfl⟩:=ad (aa ha);simp only[aT,dP,hp,ih hq,aJ]
  .simp at ha
theorem Cv{id sz lo len:Nat}{ao:List (List D)}(k:Nat)(ho:aB h1 id=some (.aL sz ao)\/aB h1 id=some (.py sz ao))(hl:lo+len<=ao.length)(szo:Nat):
  dV h1 k (.fh szo id lo len)=some (.sl szo ((ao.drop lo).take len),[id]):=by
 rcases ho with ho|ho<;>(cases k<;>simp only[dV,ho,if_pos hl])
theorem M_{id ver:Nat}{t:Ty}{s:Sl (El t)}(k:Nat)(hr:HR n h1 h)(ho:fO h id=some (.ar t s ver)\/fO h id=some (.im t s ver)):
  ∃aA,dV h1 k (mj (bz t) (aR t) id s)=some (vQ (bz t) (aR t) s,aA)/\(∀i∈aA,i=id/\¬mF h i)/\(id∈aA\/mF h id):=by
 cases s with
 |nil=>exact⟨[],pR k _,fun i hi=>by simp at hi,.inr (.inl ⟨t,ver,ho⟩)⟩
 |mk l=>
  have hb:aB h1 id=some (.aL (bz t) (l.map (aR t)))\/aB h1 id=some (.py (bz t) (l.map (aR t))):=by
   rcases ho with ho|ho
   .exact .inl ((hr.ob id _ ho).2.1.2.2 l rfl)
   .exact .inr ((hr.ob id _ ho).2.1.2.2 l rfl)
  refine⟨[id],?_,fun i hi=>by obtain rfl:=am.1 hi;exact⟨rfl,yC ho⟩,.inl (by simp)⟩;have:=Cv (lo:=0) (len:=(l.map (aR t)).length) k hb (by omega) (bz t);rw[tL]at this;exact this
theorem Na{id ver lo:Nat}{t:Ty}{r:Sl (El t)}(k:Nat)(hr:HR n h1 h)(hk:eX n h (.sb id ver lo t r))(ha:Ci h id ver=true):
  ∃aA,dV h1 k (yb id lo t r)=some (vQ (bz t) (aR t) r,aA)/\(∀i∈aA,i=id/\¬mF h i)/\(id∈aA\/mF h id):=by
 obtain⟨u,s,ho⟩:=lC ha;obtain⟨_,hc⟩:=hk.2 u s ver ho;obtain⟨hz,hc⟩:=hc rfl;cases r with
 |nil=>cases s with|nil=>exact⟨[],pR k _,fun i hi=>by simp at hi,.inr (.inl ⟨u,ver,ho⟩)⟩|mk l=>exact hc.elim
 |mk m=>
  cases s with
  |nil=>exact hc.elim
  |mk l=>
   obtain⟨hl,he⟩:=hc
   have hb:aB h1 id=some (.aL (bz u) (l.map (aR u)))\/aB h1 id=some (.py (bz u) (l.map (aR u))):=by
    rcases ho with ho|ho
    .exact .inl ((hr.ob id _ ho).2.1.2.2 l rfl)
    .exact .inr ((hr.ob id _ ho).2.1.2.2 l rfl)
   refine⟨[id],?_,fun i hi=>by obtain rfl:=am.1 hi;exact⟨rfl,yC ho⟩,.inl (by simp)⟩;have:=Cv (lo:=lo) (len:=(m.map (aR t)).length) k hb (by simpa using hl) (bz t);rw[show(m.map (aR t)).length=m.length by simp,he]at this;simpa[yb,vQ]using this
theorem Ar{t:Ty}:∀(l:List (Sl (El t))),qd (bz t) (l.map (oL t))=some (l.map (aR (.sl t))):=by intro l;induction l with|nil=>rfl|cons s l ih=>simp only[aD,qd,ih];cases s<;>rfl
theorem M9{id:Nat}{t:Ty}{s:Sl (Sl (El t))}(k:Nat)(hr:HR n h1 h)(ho:fO h id=some (.rw t s none)):
  ∃aA,dV h1 k (mj 1 (aR (.sl t)) id s)=some (vQ 1 (aR (.sl t)) s,aA)/\(∀i∈aA,i=id/\¬mF h i)/\(id∈aA\/mF h id):=by
 cases s with
 |nil=>exact⟨[],pR k _,fun i hi=>by simp at hi,.inr (.inr ⟨t,none,ho⟩)⟩
 |mk l=>
  have hb:=(hr.ob id _ ho).2.1.2.2 l rfl;refine⟨[id],?_,fun i hi=>by obtain rfl:=am.1 hi;exact⟨rfl,NW ho⟩,.inl (by simp)⟩;have e:((l.map (aR (.sl t))).length)=(eQ t l none).length:=by simp[eQ]
  have hs:qd (bz t) (eQ t l none)=some (l.map (aR (.sl t))):=Ar l;cases k<;>simp only[mj,vQ,dV,hb,hs,e,and_self,if_true]
theorem sL(hr:HR n h1 h):∀(v w:V)(l:List Nat)(cs:List C),je h v=some (w,l)->eZ h v cs->eX n h v->iq h v=true->
  ∃ds aA,dP h1 cs=some (ds,aA)/\eZ h w (ds.map .d)/\(∀i∈aA,i∈l/\¬mF h i)/\(∀i∈l,i∈aA\/mF h i)/\(∀i∈l,i<n/\((∃t s v,fO h i=some (.ar t s v)\/fO h i=some (.im t s v))\/∃t s,fO h i=some (.rw t s none))):=by
 have done:∀(v:V)(ds:List D),eZ h v (ds.map .d)->∃ds' aA,dP h1 (ds.map .d)=some (ds',aA)/\eZ h v (ds'.map .d)/\(∀i∈aA,i∈([]:List Nat)/\¬mF h i)/\(∀i∈([]:List Nat),i∈aA\/mF h i)/\(∀i∈([]:List Nat),i<n/\((∃t s v,fO h i=some (.ar t s v)\/fO h i=some (.im t s v))\/∃t s,fO h i=some (.rw t s none))):=fun v ds hv=>⟨ds,[],xL ds,hv,fun i hi=>by simp at hi,fun i hi=>by simp at hi,fun i hi=>by simp at hi⟩;intro v;induction v with
 |so id=>
  intro w l cs hf hv hk ha;simp only[je]at hf;split at hf
  .rename_i t s l' hs;obtain⟨rfl,rfl⟩:=ad (aa hf);obtain⟨ver,ho,e⟩:=ur hs;have e:l'=[id]:=e;subst e;obtain⟨c,rfl,hc,_⟩:=hv;rw[hc _ (mi ho)];obtain⟨aA,q1,q2,q3⟩:=M_ 300 hr ho;have hd:kD t=true:=by rcases ho with ho|ho<;>exact(hr.ob id _ ho).2.1.1
   refine⟨[vQ (bz t) (aR t) s],aA,by simp[dP,q1],⟨hd,rfl⟩,fun i hi=>⟨by simpa using(q2 i hi).1,(q2 i hi).1▸(q2 i hi).2⟩,fun i hi=>?_,fun i hi=>?_⟩
   .obtain rfl:=am.1 hi;exact q3
   .obtain rfl:=am.1 hi;exact⟨hk,.inl ⟨t,s,ver,ho⟩⟩
  .simp at hf
 |sr id=>
  intro w l cs hf hv hk ha;simp only[je]at hf;split at hf
  .rename_i t s ho;obtain⟨rfl,rfl⟩:=ad (aa hf);obtain⟨c,rfl,hc,_⟩:=hv;rw[hc _ (by rw[ho];rfl:EC id (fO h id)=some (mj 1 (aR (.sl t)) id s))];obtain⟨aA,q1,q2,q3⟩:=M9 300 hr ho;have hd:kD t=true:=(hr.ob id _ ho).2.1.1;refine⟨[vQ 1 (aR (.sl t)) s],aA,by simp[dP,q1],⟨hd,rfl⟩,fun i hi=>⟨by simpa using(q2 i hi).1,(q2 i hi).1▸(q2 i hi).2⟩,fun i hi=>?_,fun i hi=>?_⟩
   .obtain rfl:=am.1 hi;exact q3
   .obtain rfl:=am.1 hi;exact⟨hk,.inr ⟨t,s,ho⟩⟩
  .simp at hf
 |sb id ver lo t r=>
  intro w l cs hf hv hk ha;simp only[je,tT]at hf;obtain⟨rfl,rfl⟩:=ad (aa hf);obtain⟨hd,ha⟩:=dl.1 ha;have ha:Ci h id ver=true:=ha;obtain⟨c,rfl,hc,_⟩:=hv;rw[hc ha];obtain⟨aA,q1,q2,q3⟩:=Na 300 hr hk ha;obtain⟨u,s,ho⟩:=lC ha;refine⟨[vQ (bz t) (aR t) r],aA,by simp[dP,q1],⟨?_,rfl⟩,fun i hi=>⟨by simpa using(q2 i hi).1,(q2 i hi).1▸(q2 i hi).2⟩,fun i hi=>?_,fun i hi=>?_⟩
  .exact hd
  .obtain rfl:=am.1 hi;exact q3
  .obtain rfl:=am.1 hi;exact⟨hk.1,.inl ⟨u,s,ver,ho⟩⟩
 |rc r ih=>
  intro w l cs hf hv hk ha;simp only[je]at hf;split at hf
  .rename_i w' l' hw;obtain⟨rfl,rfl⟩:=ad (aa hf);exact ih w' l' cs hw hv hk ha
  .simp at hf
 |co a r iha ihr=>
  intro w l cs hf hv hk ha;simp only[je]at hf;split at hf
  .rename_i x l1 y l2 hx hy;obtain⟨rfl,rfl⟩:=ad (aa hf);obtain⟨ca,cr,rfl,h2,h3⟩:=hv;simp only[iq,ai]at ha;obtain⟨ds,aA,a1,a2,a3,a4,a5⟩:=iha x l1 ca hx h2 hk.1 ha.1;obtain⟨es,jds,b1,b2,b3,b4,b5⟩:=ihr y l2 cr hy h3 hk.2 ha.2;refine⟨ds++es,aA++jds,p9 a1 b1,⟨_,_,by simp,a2,b2⟩,fun i hi=>?_,fun i hi=>?_,fun i hi=>?_⟩
   .rcases ap.1 hi with hi|hi
    .exact ⟨aE _ (a3 i hi).1,(a3 i hi).2⟩
    .exact ⟨aH _ (b3 i hi).1,(b3 i hi).2⟩
   .rcases ap.1 hi with hi|hi
    .exact (a4 i hi).imp (aE _) id
    .exact (b4 i hi).imp (aH _) id
   .rcases ap.1 hi with hi|hi
    .exact a5 i hi
    .exact b5 i hi
  .simp at hf
 |x t v=>intro w l cs hf hv hk ha;obtain⟨rfl,rfl⟩:=ad (aa hf);obtain⟨hd,rfl⟩:=hv;exact done _ _ ⟨hd,rfl⟩
 |kb c=>intro w l cs hf hv hk ha;obtain⟨rfl,rfl⟩:=ad (aa hf);obtain rfl:=hv;exact done (.kb c) [_] rfl
 |nl k=>intro w l cs hf hv hk ha;obtain⟨rfl,rfl⟩:=ad (aa hf);obtain rfl:=hv;exact done (.nl k) [_] rfl
 |fl q=>
  intro w l cs hf hv hk ha;obtain⟨rfl,rfl⟩:=ad (aa hf);obtain⟨hp,rfl⟩:=hv;have e:fk q=(q.map D.lit).map C.d:=by simp[fk]
  rw[e];exact done (.fl q) (q.map D.lit) ⟨hp,e.symm⟩
 |ni=>intro w l cs hf hv hk ha;obtain⟨rfl,rfl⟩:=ad (aa hf);obtain rfl:=hv;exact done .ni [] rfl
 |pt t v=>intro w l cs hf hv hk ha;obtain⟨rfl,rfl⟩:=ad (aa hf);obtain⟨hd,rfl⟩:=hv;exact done (.pt t v) [_] ⟨hd,rfl⟩
 |fn z f q ih=>intro w l cs hf hv hk ha;cases z with|true=>obtain⟨rfl,rfl⟩:=ad (aa hf);obtain⟨ds,hd,rfl⟩:=hv;exact done (.fn true f q) [_] ⟨ds,hd,rfl⟩|false=>simp[je]at hf
 |_=>intro w l cs hf hv hk ha;simp[je]at hf
theorem xw:∀(ds:List D)(k:Nat),ds.length<k->fS h1 k (ds.map .d)=some (ds,[]):=by
 intro ds;induction ds with
 |nil=>intro k hk;cases k<;>rfl
 |cons d ds ih=>intro k hk;cases k with|zero=>simp at hk|succ k=>simp only[aD,fS,pR];rw[ih k (by simpa using hk)];rfl
theorem wn{H:bF}{h0:H2}{k:Nat}(hr:HR k H h0)(all:List Nat){id:Nat}{o':O}(hf:BX h0 id=some o'):
  ∃o,fO h0 id=some o/\sh o o'/\(∀m g,Cp m g o')/\((mF h0 id/\∀g b,vc g o' b)\/(¬mF h0 id/\∃b,j5 H all id=some b/\∀g,vc g o' (some b))):=by
 unfold BX at hf;split at hf
 .rename_i t s v ho;obtain rfl:=aa hf;refine⟨_,ho,⟨au _,rfl,rfl,rfl,fun _=>rfl⟩,fun _ _=>trivial,?_⟩;obtain⟨h1,h2,h3⟩:=(hr.ob id _ ho).2.1;cases s with|nil=>exact .inl ⟨.inl ⟨t,v,.inl ho⟩,fun g b=>⟨h1,h2,fun l e=>by cases e⟩⟩|mk l=>refine .inr ⟨yC (.inl ho),.py (bz t) (l.map (aR t)),?_,fun g=>⟨h1,h2,fun l' e=>by cases e;rfl⟩⟩;simp only[j5,h3 l rfl]
 .rename_i t s v ho;obtain rfl:=aa hf;refine⟨_,ho,⟨rfl,rfl⟩,fun _ _=>trivial,?_⟩;obtain⟨h1,h2,h3⟩:=(hr.ob id _ ho).2.1;cases s with|nil=>exact .inl ⟨.inl ⟨t,v,.inr ho⟩,fun g b=>⟨h1,h2,fun l e=>by cases e⟩⟩|mk l=>refine .inr ⟨yC (.inr ho),.py (bz t) (l.map (aR t)),?_,fun g=>⟨h1,h2,fun l' e=>by cases e;rfl⟩⟩;simp only[j5,h3 l rfl]
 .rename_i t v ho;obtain rfl:=aa hf;obtain⟨h1,h2⟩:=(hr.ob id _ ho).2.1;refine⟨_,ho,rfl,fun _ _=>trivial,.inr ⟨?_,.oe (aR t v),?_,fun g=>⟨h1,rfl⟩⟩⟩
  .rintro (⟨u,v',e|e⟩|⟨u,v',e⟩)<;>rw[ho]at e<;>simp at e
  .simp only[j5,h2]
 .rename_i t c ho;cases hd:(kD t&&Nat.blt (bz t) 300)with
  |false=>rw[hd]at hf;simp at hf
  |true=>
   rw[hd,cond_true]at hf;simp only[ai]at hd;split at hf
   .rename_i w hw;split at hf
    .rename_i y hy;obtain rfl:=aa hf;obtain⟨cs,h1,h2,h3⟩:=(hr.ob id _ ho).2.1;have e:=iS c false t y cs hy h2;subst e;refine⟨_,ho,trivial,fun _ _=>trivial,.inr ⟨?_,.oe (aR t y),?_,fun g=>⟨hd.1,rfl⟩⟩⟩
     .rintro (⟨u,v',e|e⟩|⟨u,v',e⟩)<;>rw[ho]at e<;>simp at e
     .have hl:(aR t y).length<300:=by rw[bJ];simpa using hd.2
      simp only[j5,h1,xw _ _ hl];rfl
    .simp at hf
   .simp at hf
 .simp at hf
def F1(h:H2)(id:Nat):Option O:=match fO h id with|some (.rw _ _ none)=>none|_=>BX h id
theorem wX{h0:H2}{s0:S2}(hs0:s0.heap=h0):∀(aA:List Nat)(s':S2),qn h0 aA s0=some s'->
  s'.dD=s0.dD/\s'.gh=s0.gh/\s'.next=s0.next/\s'.wo=aA++s0.wo/\(∀i∈aA,(∃o,BX h0 i=some o)\/∃t s,fO h0 i=some (.rw t s none))/\∀i,fO s'.heap i=if i∈aA then F1 h0 i else fO h0 i:=by
 intro aA;induction aA with
 |nil=>intro s' hf;obtain rfl:=aa hf;exact⟨rfl,rfl,rfl,rfl,fun i hi=>by simp at hi,fun i=>by simp[hs0]⟩
 |cons id r ih=>
  intro s' hf;simp only[qn]at hf
  have fin:∀(oo:Option O)(s1:S2),qn h0 r s0=some s1->s'=ez s1 id oo->((∃o,BX h0 id=some o)\/∃t s,fO h0 id=some (.rw t s none))->F1 h0 id=oo->s'.dD=s0.dD/\s'.gh=s0.gh/\s'.next=s0.next/\s'.wo=(id::r)++s0.wo/\(∀i∈id::r,(∃o,BX h0 i=some o)\/∃t s,fO h0 i=some (.rw t s none))/\∀i,fO s'.heap i=if i∈id::r then F1 h0 i else fO h0 i:=by
   intro oo s1 h1 e hex hoo;subst e;obtain⟨a1,a2,a3,a4,a5,a6⟩:=ih s1 h1;refine⟨a1,a2,a3,by simp[ez,a4],fun i hi=>?_,fun i=>?_⟩
   .rcases aM.1 hi with rfl|hi
    .exact hex
    .exact a5 i hi
   .simp only[ez,c8,a6];by_cases e:id=i
    .subst e;simp[hoo]
    .simp [e,Ne.symm e]
  split at hf
  .rename_i t s ho;split at hf
   .rename_i s1 h1;exact fin none s1 h1 (aa hf).symm (.inr ⟨t,s,ho⟩) (by simp only[F1,ho])
   .cases hf
  .rename_i hno;split at hf
   .rename_i o s1 ho h1;refine fin (some o) s1 h1 (aa hf).symm (.inl ⟨o,ho⟩) ?_;unfold F1;split
    .rename_i t s e;exact absurd e (hno t s)
    .exact ho
   .cases hf
theorem IY{H:bF}{all:List Nat}:∀(l:List Nat),(∀i∈l,∃b,j5 H all i=some b)->∃u,dW H all l=some u/\∀p∈u,p.1∈l:=by
 intro l;induction l with
 |nil=>intro _;exact⟨[],rfl,fun p hp=>by simp at hp⟩
 |cons a l ih=>
  intro h;obtain⟨b,hb⟩:=h a (by simp);obtain⟨u,hu,hp⟩:=ih fun i hi=>h i (by simp[hi]);refine⟨(a,some b)::u,by simp only[dW,hb,hu],fun p hp'=>?_⟩;rcases aM.1 hp' with rfl|hp'
  .simp
  .exact aC _ (hp p hp')
theorem BW{h0:H2}{s0:S2}(hs0:s0.heap=h0){H:bF}(hr:HR s0.next H h0)(aA:List Nat)(s':S2)(ids1 all:List Nat)(hf:qn h0 aA s0=some s')(hi1:∀i∈ids1,i∈aA/\¬mF h0 i)(hi2:∀i∈aA,i∈ids1\/mF h0 i):
  ∃fu,dW H all ids1=some fu/\HR s0.next (fu++H) s'.heap/\jr s0.next h0 s'.heap/\s'.dD=s0.dD/\s'.gh=s0.gh/\s'.next=s0.next/\
   s'.wo=aA++s0.wo/\(∀p∈fu,p.1∈aA)/\∀id,id∉aA->fO s'.heap id=fO s0.heap id:=by
 obtain⟨a1,a2,a3,a4,a5,a6⟩:=wX hs0 aA s' hf
 have hF:∀i o',F1 h0 i=some o'->BX h0 i=some o':=fun i o' h=>by
  unfold F1 at h;split at h
  .cases h
  .exact h
 obtain⟨fu,hfu,hp⟩:=IY (H:=H) (all:=all) ids1 fun i hi=>by
  rcases a5 i (hi1 i hi).1 with⟨o,ho⟩|⟨t,s,ho⟩
  .obtain ⟨_,_,_,_,h⟩:=wn hr all ho;rcases h with h|⟨_,b,hb,_⟩
   .exact absurd h.1 (hi1 i hi).2
   .exact ⟨b,hb⟩
  .cases s with|nil=>exact absurd (.inr ⟨t,none,ho⟩) (hi1 i hi).2|mk l=>have hb:=(hr.ob i _ ho).2.1.2.2 l rfl;have hs:qd (bz t) (eQ t l none)=some (l.map (aR (.sl t))):=Ar l;exact⟨.py 1 (l.map (aR (.sl t))),by simp only[j5,hb,hs]⟩
 have eI:jr s0.next h0 s'.heap:=⟨fun i o' hi ho=>by
  rw[a6]at ho;split at ho
  .obtain ⟨o,h1,h2,_⟩:=wn hr all (hF i o' ho);exact .inl ⟨o,h1,h2⟩
  .exact .inl ⟨o',ho,sh.refl _⟩⟩
 refine⟨fu,hfu,⟨fun i o' ho=>?_⟩,eI,a1,a2,a3,a4,fun p hp'=>(hi1 _ (hp p hp')).1,fun i hi=>by rw[a6,if_neg hi,hs0]⟩;rw[a6]at ho;split at ho
 .rename_i hi;obtain⟨o,h1,_,h3,h4⟩:=wn hr all (hF i o' ho);refine⟨(hr.ob i o h1).1,?_,h3 _ _⟩;rcases h4 with h4|⟨h5,b,hb,hR⟩
  .exact h4.2 _ _
  .have hm:i∈ids1:=(hi2 i hi).resolve_right h5;obtain⟨b',hb',hl⟩:=(lc ids1 fu hfu i).1 hm;rw[hb]at hb';obtain rfl:=aa hb';rw[show aB (fu++H) i=some b by simp only[aB,gM,hl];rfl];exact hR _
 .rename_i hi;obtain⟨h1,h2,h3⟩:=hr.ob i o' ho;have hn:i∉ids1:=fun hm=>hi (hi1 i hm).1;refine⟨h1,?_,nX (au _) eI h3⟩;rw[show aB (fu++H) i=aB H i by simp only[aB,gM,(lc ids1 fu hfu i).2 hn]];exact pp eI h3 h2
theorem F0{h0:H2}{s0:S2}{aA:List Nat}{s':S2}(hs0:s0.heap=h0)(hf:qn h0 aA s0=some s'):∀i∈aA,fO h0 i≠none:=by
 intro i hi e;obtain⟨_,_,_,_,a5,_⟩:=wX hs0 aA s' hf;rcases a5 i hi with⟨o,ho⟩|⟨t,s,ho⟩
 .simp [BX,e]at ho
 .rw [e]at ho;cases ho
end
section
variable{h:H2}{n:Nat}{h1:bF}{β:Type}
theorem aO{α:Type}{c:Bool}{a:Option α}{r:α}(h:(bif c then a else none)=some r):c=true/\a=some r:=by cases c with|true=>exact⟨rfl,h⟩|false=>simp at h
theorem v_{u:fx}{i:Nat}(hu:∀p∈u,p.1≠i):aB (u++h1) i=aB h1 i:=by induction u with|nil=>rfl|cons p u ih=>obtain⟨a,b⟩:=p;rw[aT,dA,if_neg (hu _ (cC ..)),ih fun p hp=>hu p (aC _ hp)]
theorem qS.EF{s s':S2}{x:TV}{u:fx}{aA l:List Nat}{m:Nat}{v:V}(W:List Nat)(hr:HR s.next h1 s.heap)(eI:jr s.next s.heap s'.heap)(he:s'.dD=s.dD)(hg:s'.gh=s.gh)(hm:m<=s'.next)(hle:s.next<=s'.next)(hl:∀i∈aA,i∈l)
  (hwo:s'.wo=W++s.wo) (hu:∀p∈u,p.1∈W) (hW:∀id,id∉W->fO s'.heap id=fO s.heap id) (hob:∀i∈W,∀o,fO s'.heap i=some o->i<s'.next/\vc s'.heap o (aB (u++h1) i)/\Cp s'.next s'.heap o)
  (hx:fV s'.heap v x) (hk:eX s'.next s'.heap v) (hnb:∀i,i<s.next->fO s.heap i=none->fO s'.heap i=none):qS s s' h1 x u aA m v l:=by
 refine⟨hx,hk,⟨fun i o ho=>?_⟩,eI,he,hg,hm,hle,hl,hnb,W,hwo,hu,hW⟩;by_cases hi:i∈W
 .exact hob i hi o ho
 .rw [hW i hi]at ho;obtain⟨a,b,c⟩:=hr.ob i o ho;refine⟨by omega,?_,nX hle eI c⟩;rw[v_ (u:=u) (i:=i) fun p hp e=>hi (e▸hu p hp)];exact pp eI c b
def zA(h1:bF)(kk:K)(xs:List TV)(s:S2)(k:V->S2->List Nat->Option β)(z:β):Prop:=∃v s' l,k v s' l=some z/\∀c:Call,∃x u aA m,cN c kk (xs.map some) h1 s.next=some (x,u,aA,m)/\qS s s' h1 x u aA m v l
variable{s:S2}{k:V->S2->List Nat->Option β}{z:β}
theorem zA.pure{kk:K}{xs:List TV}{v:V}{x:TV}(hr:HR s.next h1 s.heap)(hz:k v s []=some z)(he:∀c:Call,cN c kk (xs.map some) h1 s.next=some (x,[],[],s.next))(hx:fV s.heap v x)(hk:eX s.next s.heap v):zA h1 kk xs s k z:=⟨v,s,[],hz,fun c=>⟨x,[],[],s.next,he c,qS.pure hr hx hk fun i hi=>by simp at hi⟩⟩
theorem p7{t:Ty}(h:Co t=true):kD t=true/\0<bz t:=by simpa[Co]using h
theorem zA.new{kk:K}{xs:List TV}{v:V}{x:TV}{o:O}{b:Option Ob}{l aA:List Nat}(hr:HR s.next h1 s.heap)(hz:k v (jz s o) l=some z)(he:∀c:Call,cN c kk (xs.map some) h1 s.next=some (x,[(s.next,b)],aA,s.next+1))
  (hb:vc ((s.next,some o)::s.heap) o b) (hko:Cp (s.next+1) ((s.next,some o)::s.heap) o) (hx:fV ((s.next,some o)::s.heap) v x) (hk:eX (s.next+1) ((s.next,some o)::s.heap) v) (hl:∀i∈aA,i∈l):zA h1 kk xs s k z:=
 ⟨v,_,l,hz,fun c=>⟨x,_,aA,_,he c,qS.new hr (.inl rfl) (fun _=>hb) hko hx hk hl (au _)⟩⟩
theorem zA.Cy{kk:K}{xs:List TV}{v:V}{x:TV}{id:Nat}{o o':O}{b:Option Ob}{l aA:List Nat}(hr:HR s.next h1 s.heap)(ho:fO s.heap id=some o)(hs:sh o o')(hz:k v (ez s id (some o')) l=some z)(he:∀c:Call,cN c kk (xs.map some) h1 s.next=some (x,[(id,b)],aA,s.next))
  (hb:vc ((id,some o')::s.heap) o' b) (hko:Cp s.next ((id,some o')::s.heap) o') (hx:fV ((id,some o')::s.heap) v x) (hk:eX s.next ((id,some o')::s.heap) v) (hl:∀i∈aA,i∈l):zA h1 kk xs s k z:=
 ⟨v,_,l,hz,fun c=>⟨x,_,aA,_,he c,qS.Cy hr ho hs hb hko hx hk hl⟩⟩
theorem tJ(id:Nat)(o:Option O)(h:H2):fO ((id,o)::h) id=o:=by rw[c8,if_pos rfl]
theorem v7{t:Ty}{s:Sl (El t)}{v nx:Nat}:fV ((nx,some (.ar t s v))::h) (.so nx) (.c (mj (bz t) (aR t) nx s)):=ci (dR rfl ⟨_,rfl,fun c' hc'=>by rw[tJ]at hc';exact aa hc',Bw⟩)
theorem B4{x:V}{y:TV}{sz:Nat}{lo hi:Option Int}{m:Int}{q:V->Option β}(hr:HR n h1 h)(hx:fV h x y)(hk:eX n h x)(ha:iq h x=true)(hm:FL h x=some m)(hz:tX sz h x (lo.getD 0) (hi.getD m) q=some z):
  ∃v c c',y=.c c/\q v=some z/\fL false sz c lo hi=some c'/\fV h v (.c c')/\eX n h v:=by
 have iL:∀(id:Nat)(t:Ty)(w:Sl (El t))(ver:Nat),x=.so id->(fO h id=some (.ar t w ver)\/fO h id=some (.im t w ver))->(bif bz t==sz then(tY w.l (lo.getD 0) (hi.getD m)).bind fun y=>q (.sb id ver (lo.getD 0).toNat t (w.to y))else none)=some z->
   ∃v c c',y=.c c/\q v=some z/\fL false sz c lo hi=some c'/\fV h v (.c c')/\eX n h v:=by
  rintro id t w ver rfl ho hz;obtain⟨h2,hz2⟩:=aO hz;obtain rfl:bz t=sz:=by simpa using h2
  obtain⟨r,hr',hz3⟩:=rF hz2;have e:=sj hx (mi ho);have hm':m=w.l.length:=by simp only[FL,tT]at hm;rcases ho with ho|ho<;>(rw[ho]at hm;exact(aa hm).symm)
  subst hm';refine⟨_,_,yb id (lo.getD 0).toNat t (w.to r),e,hz3,?_,?_,hk,?_⟩
  .cases w with|nil=>exact Mf hr'|mk l=>exact Sn (enc:=aR t) hr'
  .exact ci (dR rfl ⟨_,rfl,fun _=>rfl,Kc⟩)
  .intro u s' v' ho'
   have e2:M2 u s'=M2 t w/\v'=ver:=by
    rcases ho with ho|ho<;>rcases ho' with ho'|ho'<;>(rw[ho]at ho';simp at ho')
    all_goals
     obtain⟨rfl,e,rfl⟩:=ho';cases eq_of_heq e;exact⟨rfl,rfl⟩
   obtain⟨e2,rfl⟩:=e2;obtain⟨rfl,e2⟩:=js e2;cases e2;refine⟨au _,fun _=>⟨rfl,?_⟩⟩;cases s' with|nil=>trivial|mk l=>obtain⟨h3,h4⟩:=QO (enc:=aR u) hr';simp only[aN]at h3;refine⟨h3,?_⟩;simpa using h4
 cases x with
 |x t v=>
  cases t with
  |sl t=>
   simp only[tX]at hz;obtain⟨h2,hz2⟩:=aO hz;obtain rfl:bz t=sz:=by simpa using h2
   obtain⟨r,hr',hz3⟩:=rF hz2;have hm':m=v.l.length:=by simpa[FL,tT]using hm.symm
   subst hm';refine⟨_,_,_,xP hx,hz3,QM hr',ci (dR rfl ⟨?_,rfl⟩),trivial⟩;obtain⟨_,⟨hd,_⟩,_⟩:=oK (v:=.x (.sl t) v) trivial hx;exact hd
  |_=>simp[tX]at hz
 |so id=>
  simp only[tX]at hz;split at hz
  .rename_i ho;exact iL id _ _ _ rfl (.inl ho) hz
  .rename_i ho;exact iL id _ _ _ rfl (.inr ho) hz
  .simp at hz
 |sb id ver off t v=>
  simp only[tX]at hz;obtain⟨h2,hz2⟩:=aO hz;obtain rfl:bz t=sz:=by simpa using h2
  obtain⟨r,hr',hz3⟩:=rF hz2;have hm':m=v.l.length:=by simpa[FL,tT]using hm.symm
  subst hm';refine⟨_,_,yb id (off+(lo.getD 0).toNat) t (v.to r),qa hx ha,hz3,?_,ci (dR rfl ⟨_,rfl,fun _=>rfl,Kc⟩),hk.1,?_⟩
  .cases v with|nil=>exact Mf hr'|mk l=>obtain⟨h3,rfl⟩:=o_.1 hr';simp only[Sl.l]at h3;simp only[yb,fL,Bool.false_eq_true,if_false,Sl.to,Sl.l,aN];rw[if_pos ⟨trivial,h3⟩];simp;omega
  .intro u s' v' ho;obtain⟨h3,h4⟩:=hk.2 u s' v' ho;refine⟨h3,fun e=>?_⟩;obtain⟨h5,h6⟩:=h4 e;refine⟨h5,?_⟩;cases s' with
   |nil=>cases v<;>first|trivial|exact h6.elim
   |mk l=>
    cases v with
    |nil=>exact h6.elim
    |mk w=>
     obtain⟨h7,h8⟩:=h6;obtain⟨h9,rfl⟩:=o_.1 hr';simp only[Sl.l]at h9;show off+(lo.getD 0).toNat+((w.drop (lo.getD 0).toNat).take _).length<=l.length/\((l.map (aR u)).drop (off+(lo.getD 0).toNat)).take ((w.drop (lo.getD 0).toNat).take _).length=((w.drop (lo.getD 0).toNat).take _).map (aR t);generalize hA:(lo.getD 0).toNat=A;generalize hB:((hi.getD (Sl.l (Sl.mk w)).length).toNat-A)=B;have hle:A+B<=w.length:=by subst hA hB;simp only[Sl.l];omega
     have hlen:((w.drop A).take B).length=B:=by simp;omega
     refine⟨by omega,?_⟩;rw[hlen,gX,gm,<-h8,List.drop_take,dO,List.take_take];congr 1;omega
 |nl k=>
  cases k with
  |zero=>
   simp only[tX]at hz;obtain⟨r,hr',hz3⟩:=rF hz;have hm':m=0:=by simpa[FL]using hm.symm
   subst hm';exact⟨_,_,_,vM hx,hz3,Mf (α:=Unit) (by simpa[Sl.l]using hr'),ci (dR rfl rfl),trivial⟩
  |succ k=>simp[tX]at hz
 |_=>simp[tX]at hz
theorem Hd:∀(p:pO)(t a:Ty)(l m:Nat),qT t p=some (.ar l a)->m<l->Iw t p->Iw t (p++[.ix m])/\mI t (p++[.ix m])=mI t p+m*bz a:=by
 intro p;induction p with
 |nil=>
  intro t a l m h1 hm _;have e:qT t []=some t:=by cases t<;>rfl
  obtain rfl:t=.ar l a:=by rw[e]at h1;exact aa h1
  refine⟨⟨hm,by cases a<;>trivial⟩,?_⟩;simp only[br,mI];cases a<;>simp[mI]
 |cons q p ih=>
  intro t a l m h1 hm h3;cases q with
  |fd j=>cases t with|st t=>obtain⟨b2,hb,h3⟩:=h3;simp only[qT,hb]at h1;obtain⟨q1,q2⟩:=ih b2 a l m h1 hm h3;refine⟨⟨b2,hb,q1⟩,?_⟩;simp only[aT,mI,hb,q2];exact(cM _ _ _).symm|_=>exact h3.elim
  |ix k=>cases t with|ar l' t=>obtain⟨hk,h3⟩:=h3;obtain⟨q1,q2⟩:=ih t a l m h1 hm h3;refine⟨⟨hk,q1⟩,?_⟩;simp only[aT,mI,q2];exact(cM _ _ _).symm|_=>exact h3.elim
theorem Qc{id:Nat}{t u:Ty}{w:Sl (El t)}{w':Sl (El u)}{v v':Nat}(ho:fO h id=some (.ar t w v)\/fO h id=some (.im t w v))(ho':fO h id=some (.ar u w' v')\/fO h id=some (.im u w' v')):M2 u w'=M2 t w/\v'=v:=by
 rcases ho with ho|ho<;>rcases ho' with ho'|ho'<;>(rw[ho]at ho';simp at ho')
 all_goals
  obtain⟨rfl,e,rfl⟩:=ho';cases eq_of_heq e;exact⟨rfl,rfl⟩
theorem KI{id:Nat}{t u:Ty}{w:Sl (El t)}{w':Sl (El u)}{v v':Nat}(ho:fO h id=some (.ar t w v)\/fO h id=some (.im t w v))(ho':fO h id=some (.ar u w' v')\/fO h id=some (.im u w' v')):w'.l.length=w.l.length:=by obtain⟨e,_⟩:=Qc ho ho';obtain⟨rfl,e⟩:=js e;cases e;rfl
theorem Pd{c:C}{t:Ty}{id m sz:Nat}{w:Sl (El t)}{i:Int}{kd:IntKind}{cl:Call}{nx:Nat}(hc:c=mj (bz t) (aR t) id w)(hsz:bz t=sz)(hi:fw i w.l.length=some m):
  cN cl (.indexAddr none sz) [some (.c c),some (tI kd i)] h1 nx=some (.c (.ep id m 0),[],[],nx):=by
 subst hc hsz;cases w with|nil=>exact Ll hi|mk l=>exact Uw hi
theorem Sk{t:Ty}{v:El t}{x:TV}(hx:fV h (.x t v) x):kD t=true:=by obtain⟨_,⟨hd,_⟩,_⟩:=oK (v:=.x t v) trivial hx;exact hd
theorem UH{n':Nat}{t:Ty}{v:El (.ar n' t)}{x:TV}(hx:fV h (.x (.ar n' t) v) x):x=.agg ((aR (.ar n' t) v).map .d):=by obtain⟨cs,⟨_,rfl⟩,h2,_⟩:=oK (v:=.x (.ar n' t) v) trivial hx;exact h2 rfl
theorem En{n' m:Nat}{t:Ty}(v:El (.ar n' t))(hm:m<n'):m*bz t+bz t<=(aR (.ar n' t) v).length/\((aR (.ar n' t) v).drop (m*bz t)).take (bz t)=aR t (gt v.1 m):=by have hl:v.1.length=n':=v.2;refine⟨?_,y_ (bJ t) v.1 m (by omega)⟩;rw[bJ];show _<=n'*bz t;have:(m+1)*bz t<=n'*bz t:=Nat.mul_le_mul_right _ hm;rw[bN,Nat.one_mul]at this;exact this
theorem Ln{x:V}{y:TV}{sz:Nat}{i:Int}{kd:IntKind}
  (hz:(match x with
  |.x (.sl t) v=>bif bz t==sz then(fw i v.l.length).bind fun m=>k (.pt t (gt v.l m)) s []else none
  |.so id=>(match tT s.heap (.so id)with|some ⟨t,v,_⟩=>bif bz t==sz then(fw i v.l.length).bind fun m=>k (.ep id m t []) s []else none|none=>none)
  |.sb id _ lo t v=>bif bz t==sz then(fw i v.l.length).bind fun m=>k (.ep id (lo+m) t []) s []else none
  |.sr id=>(match fO s.heap id with|some (.rw t v _)=>bif 1==sz then(fw i v.l.length).bind fun m=>k (.ep id m (.sl t) []) s []else none|_=>none)
  |_=>none)=some z)
  (hr:HR s.next h1 s.heap) (hx:fV s.heap x y) (hk:eX s.next s.heap x) (ha:iq s.heap x=true):zA h1 (.indexAddr none sz) [y,tI kd i] s k z:=by
 cases x with
 |x t v=>
  cases t with
  |sl t=>
   simp only at hz;obtain⟨h2,hz2⟩:=aO hz;obtain⟨m,hm,hz3⟩:=rF hz2;obtain rfl:bz t=sz:=by simpa using h2
   rw[xP hx];exact .pure hr hz3 (x:=.c (.d (.pt (aR t (gt (Sl.l v) m))))) (fun _=>R4 hm) (ci (dR rfl ⟨Sk (t:=.sl t) hx,rfl⟩)) trivial
  |_=>simp at hz
 |so id=>
  simp only at hz;split at hz
  .rename_i t v l hs;obtain⟨h2,hz2⟩:=aO hz;obtain⟨m,hm,hz3⟩:=rF hz2;obtain⟨ver,ho,_⟩:=ur hs;simp only at ho;rw[sj hx (mi ho)];refine .pure hr hz3 (x:=.c (.ep id m 0)) (fun _=>Pd rfl (by simpa using h2) hm) (ci (dR rfl (by cases t<;>rfl))) ⟨hk,by cases t<;>trivial,fun u w' v' ho'=>?_,fun u w' v' ho'=>?_⟩
   .have:=(gq.1 hm).2;rw[KI ho ho'];exact this
   .rcases ho with ho|ho<;>rw[ho]at ho'<;>cases ho'
  .simp at hz
 |sr id=>
  simp only at hz;split at hz
  .rename_i t v ln ho;obtain⟨h2,hz2⟩:=aO hz;obtain⟨m,hm,hz3⟩:=rF hz2;rw[JU hx (su ho)];refine .pure hr hz3 (x:=.c (.ep id m 0)) (fun _=>Pd (t:=.sl t) rfl (Eq.trans (rfl:bz (.sl t)=1) (beq_iff_eq.1 h2)) hm) (ci (dR rfl rfl)) ⟨hk,trivial,fun u w' v' ho'=>?_,fun u w' v' ho'=>?_⟩
   .rw [ho]at ho';rcases ho' with ho'|ho'<;>cases ho'
   .rw [ho]at ho';cases ho';exact(gq.1 hm).2
  .simp at hz
 |sb id ver lo t v=>
  simp only at hz;obtain⟨h2,hz2⟩:=aO hz;obtain⟨m,hm,hz3⟩:=rF hz2;obtain rfl:bz t=sz:=by simpa using h2
  rw[qa hx ha];have hm2:=(gq.1 hm).2;cases v with
  |nil=>exact Ll hm
  |mk w=>refine .pure hr hz3 (x:=.c (.ep id (lo+m) 0)) (fun _=>R5 (l:=w) hm) (ci (dR rfl (by cases t<;>rfl))) ⟨hk.1,by cases t<;>trivial,fun u w' v' ho'=>?_,fun u w' v' ho'=>by obtain⟨u0,s0,ho⟩:=lC (h:=s.heap) (id:=id) (ver:=ver) (dl.1 ha).2;rcases ho with ho|ho<;>rw[ho]at ho'<;>cases ho'⟩;obtain⟨u0,s0,ho⟩:=lC (h:=s.heap) (id:=id) (ver:=ver) (dl.1 ha).2;obtain⟨_,h4⟩:=hk.2 u0 s0 ver ho;obtain⟨_,h6⟩:=h4 rfl;rw[KI ho ho'];cases s0 with|nil=>exact h6.elim|mk l=>have:=h6.1;simp only[Sl.l]at hm2|-;omega
 |_=>simp at hz
theorem Lm{x:V}{y:TV}{n0 sz:Nat}{i:Int}{kd:IntKind}
  (hz:(match x with
  |.op id t p=>(match qT t p with|some (.ar n' u)=>bif(n'==n0)&&(bz u==sz)then(fw i n0).bind fun m=>k (.op id t (p++[.ix m])) s []else none|_=>none)
  |.ep id q t p=>(match qT t p with|some (.ar n' u)=>bif(n'==n0)&&(bz u==sz)then(fw i n0).bind fun m=>k (.ep id q t (p++[.ix m])) s []else none|_=>none)
  |.pt (.ar n' u) v=>bif(n'==n0)&&(bz u==sz)then(fw i n0).bind fun m=>k (.pt u (gt v.1 m)) s []else none
  |_=>none)=some z)
  (hr:HR s.next h1 s.heap) (hx:fV s.heap x y) (hk:eX s.next s.heap x):zA h1 (.indexAddr (some n0) sz) [y,tI kd i] s k z:=by
 cases x with
 |op id t p=>
  simp only at hz;split at hz
  .rename_i n' u hu;obtain⟨h2,hz2⟩:=aO hz;obtain⟨m,hm,hz3⟩:=rF hz2;simp only[ai,beq_iff_eq]at h2;obtain⟨rfl,rfl⟩:=h2;obtain⟨rfl,hm2⟩:=gq.1 hm;obtain⟨q1,q2⟩:=Hd p t u n' m hu hm2 hk.2;rw[vL hx];refine .pure hr hz3 (x:=.c (.op id (mI t p+m*bz u))) (fun _=>?_) (ci (dR rfl ?_)) ⟨hk.1,q1⟩
   .simp only[l5,cN,cA,iH];rw[if_pos ⟨by omega,by omega⟩];simp
   .show [_]=[_];rw[q2]
  .simp at hz
 |ep id q t p=>
  simp only at hz;split at hz
  .rename_i n' u hu;obtain⟨h2,hz2⟩:=aO hz;obtain⟨m,hm,hz3⟩:=rF hz2;simp only[ai,beq_iff_eq]at h2;obtain⟨rfl,rfl⟩:=h2;obtain⟨rfl,hm2⟩:=gq.1 hm;obtain⟨q1,q2⟩:=Hd p t u n' m hu hm2 hk.2.1;rw[sn hx];refine .pure hr hz3 (x:=.c (.ep id q (mI t p+m*bz u))) (fun _=>?_) (ci (dR rfl ?_)) ⟨hk.1,q1,hk.2.2⟩
   .simp only[l5,cN,cA,iH];rw[if_pos ⟨by omega,by omega⟩];simp
   .show [_]=[_];rw[q2]
  .simp at hz
 |pt t v=>cases t with|ar n' u=>simp only at hz;obtain⟨h2,hz2⟩:=aO hz;obtain⟨m,hm,hz3⟩:=rF hz2;simp only[ai,beq_iff_eq]at h2;obtain⟨rfl,rfl⟩:=h2;obtain⟨rfl,hm2⟩:=gq.1 hm;obtain⟨hd,rfl⟩:=xQ hx;obtain⟨a1,a2⟩:=En v hm2;refine .pure hr hz3 (x:=.c (.d (.pt (aR u (gt v.1 m))))) (fun _=>?_) (ci (dR rfl ⟨hd,rfl⟩)) trivial;simp only[l5,cN,cA,iH];rw[if_pos ⟨by omega,by omega⟩];simp only[fP];rw[if_pos a1,a2]|_=>simp at hz
 |_=>simp at hz
end
section
variable{h:H2}{n:Nat}{h1:bF}{β:Type}{s:S2}{k:V->S2->List Nat->Option β}{z:β}
theorem B9{t u:Ty}{m:Sl (El t)}{m':Sl (El u)}(hc:gE (.sl t) (.sl u) m=some m'):t=u/\m'.l.map (aR u)=m.l.map (aR t):=by obtain⟨e,rfl⟩:=du hc;cases e;exact⟨rfl,rfl⟩
theorem PU{c:C}{t:Ty}{id sz:Nat}{w:Sl (El t)}{ver:Nat}(hr:HR n h1 h)(hc:c=mj (bz t) (aR t) id w)(hsz:bz t=sz)(ho:fO h id=some (.ar t w ver)\/fO h id=some (.im t w ver)):
  ∃aA,jb sz h1 c=some (w.l.map (aR t),aA)/\∀i∈aA,i=id:=by
 subst hc hsz;cases w with
 |nil=>exact⟨[],rfl,fun i hi=>by simp at hi⟩
 |mk l=>
  refine⟨[id],?_,fun i hi=>by simpa using hi⟩;rcases ho with ho|ho
  .have hb:=(hr.ob id _ ho).2.1.2.2 l rfl;simp only[mj,jb,hb];rw[if_pos ⟨trivial,by simp⟩,tL];rfl
  .have hb:=(hr.ob id _ ho).2.1.2.2 l rfl;simp only[mj,jb,hb];rw[if_pos ⟨trivial,by simp⟩,tL];rfl
theorem Nz{id lo ver sz:Nat}{t:Ty}{r:Sl (El t)}(hr:HR n h1 h)(hk:eX n h (.sb id ver lo t r))(ha:iq h (.sb id ver lo t r)=true)(hsz:bz t=sz):
  ∃aA,jb sz h1 (yb id lo t r)=some (r.l.map (aR t),aA)/\∀i∈aA,i=id:=by
 subst hsz;obtain⟨u,s0,ho⟩:=lC (h:=h) (id:=id) (ver:=ver) (dl.1 ha).2;obtain⟨_,h4⟩:=hk.2 u s0 ver ho;obtain⟨h5,h6⟩:=h4 rfl;cases r with
 |nil=>exact⟨[],rfl,fun i hi=>by simp at hi⟩
 |mk w=>
  cases s0 with
  |nil=>exact h6.elim
  |mk l=>
   refine⟨[id],?_,fun i hi=>by simpa using hi⟩
   have hb:aB h1 id=some (.aL (bz u) (l.map (aR u)))\/aB h1 id=some (.py (bz u) (l.map (aR u))):=by
    rcases ho with ho|ho
    .exact .inl ((hr.ob id _ ho).2.1.2.2 l rfl)
    .exact .inr ((hr.ob id _ ho).2.1.2.2 l rfl)
   rcases hb with hb|hb
   .simp only[yb,jb,hb];rw[if_pos ⟨trivial,by simpa using h6.1⟩];rw[aN,h6.2];rfl
   .simp only[yb,jb,hb];rw[if_pos ⟨trivial,by simpa using h6.1⟩];rw[aN,h6.2];rfl
theorem GS{x:V}{y:TV}{t0 t:Ty}{m:Sl (El t)}{l:List Nat}{sz:Nat}(hr:HR n h1 h)(hx:fV h x y)(hk:eX n h x)(ha:iq h x=true)(hs:J_ t0 h x=some ⟨t,m,l⟩)(hsz:bz t=sz):
  ∃c aA,y=.c c/\jb sz h1 c=some (m.l.map (aR t),aA)/\∀i∈aA,i∈l:=by
 cases x with
 |nl j=>cases j with|zero=>simp only[J_]at hs;obtain⟨rfl,e⟩:=js (aa hs);obtain⟨rfl,rfl⟩:=ad (eq_of_heq e);exact⟨_,[],vM hx,rfl,fun i hi=>by simp at hi⟩|succ j=>simp[J_,tT]at hs
 |x u v=>cases u with|sl u=>simp only[J_,tT]at hs;obtain⟨rfl,e⟩:=js (aa hs);obtain⟨rfl,rfl⟩:=ad (eq_of_heq e);subst hsz;exact⟨_,[],xP hx,Ny,fun i hi=>by simp at hi⟩|_=>simp[J_,tT]at hs
 |so id=>obtain⟨ver,ho,e⟩:=ur (h:=h) (id:=id) hs;obtain rfl:l=[id]:=e;obtain⟨aA,q1,q2⟩:=PU hr rfl hsz ho;exact⟨_,aA,sj hx (mi ho),q1,fun i hi=>by simpa using q2 i hi⟩
 |sb id ver lo u r=>simp only[J_,tT]at hs;obtain⟨rfl,e⟩:=js (aa hs);obtain⟨rfl,rfl⟩:=ad (eq_of_heq e);obtain⟨aA,q1,q2⟩:=Nz hr hk ha hsz;exact⟨_,aA,qa hx ha,q1,fun i hi=>by simpa using q2 i hi⟩
 |_=>simp[J_,tT]at hs
def t_(s:S2):Option Nat->S2
 |none=>s
 |some id=>ez s id none
theorem Cf{lV:Option Nat}{t:Ty}{w:Sl (El t)}{u:fx}{aA l:List Nat}{m:Nat}(hr:HR s.next h1 s.heap)(hkl:∀id,lV=some id->id<s.next)(hd:Co t=true)(hu:∀p∈u,p.1=s.next\/lV=some p.1)(hl:∀i∈aA,i∈l)(hm:m<=s.next+1)
  (hb:∀l,w=.mk l->aB (u++h1) s.next=some (.aL (bz t) (l.map (aR t)))) {x:TV} (hx:x=.c (mj (bz t) (aR t) s.next w)):qS s (jz (t_ s lV) (.ar t w 0)) h1 x u aA m (.so s.next) l:=by
 have hnx:(t_ s lV).next=s.next:=by cases lV<;>rfl
 have hh:(jz (t_ s lV) (.ar t w 0)).heap=(s.next,some (.ar t w 0))::(t_ s lV).heap:=by simp only[jz,hnx]
 have hfo:∀i,fO (jz (t_ s lV) (.ar t w 0)).heap i=if s.next=i then some (.ar t w 0)else if lV=some i then none else fO s.heap i:=by intro i;rw[hh,c8];cases lV with|none=>simp[t_]|some id=>simp only[t_,ez,c8,bl]
 have hnn:(jz (t_ s lV) (.ar t w 0)).next=s.next+1:=by simp only[jz,hnx]
 refine qS.EF (s.next::lV.toList) hr ⟨fun i o' hi ho=>?_⟩ ?_ ?_ ?_ ?_ hl ?_ ?_ ?_ ?_ ?_ ?_ (fun i hi h=>by rw[hfo,if_neg (by omega)];split<;>first|rfl|exact h)
 .rw [hfo,if_neg (by omega)]at ho;split at ho
  .simp at ho
  .exact .inl ⟨o',ho,sh.refl _⟩
 .cases lV<;>rfl
 .cases lV<;>rfl
 .rw [hnn];exact hm
 .rw [hnn];omega
 .cases lV<;>simp[jz,t_,ez]
 .intro p hp;rcases hu p hp with e|e
  .simp [e]
  .simp [e]
 .intro i hi;rw[hfo,if_neg (fun e=>hi (by simp[e])),if_neg (fun e=>hi (by simp[e]))]
 .intro i hi o ho;rw[hfo]at ho;split at ho
  .rename_i e;subst e;obtain rfl:=aa ho;obtain⟨h3,h4⟩:=p7 hd;exact⟨by rw[hnn];omega,⟨h3,h4,hb⟩,trivial⟩
  .rename_i e;split at ho
   .simp at ho
   .rename_i e2;rcases aM.1 hi with hi|hi
    .exact absurd hi.symm e
    .exact absurd (by simpa using hi) e2
 .rw [hx,hh,show s.next=s.next from rfl];exact v7
 .rw [hnn];exact aX _
theorem I7{sz:Nat}{c:C}{new:List (List D)}{aA:List Nat}(hx:jb sz h1 c=some (new,aA))(hl:new.length<=2147483648){nx:Nat}{cl:Call}:
  cN cl (.append sz) [some (.c (.d (.lit (.slice none 0 0)))),some (.c c)] h1 nx=if new=[]then some (.c (.d (.lit (.slice none 0 0))),[],aA,nx)else some (.c (.fh sz nx 0 new.length),[(nx,some (.aL sz new))],aA,nx+1):=by
 simp only[cN,oh,hx];rw[if_pos (by simpa[DG]using hl)];cases new<;>simp
theorem vA{lV:Option Nat}{t:Ty}{xs r:List (El t)}{sz:Nat}{c:C}{aA l:List Nat}(hr:HR s.next h1 s.heap)(hkl:∀id,lV=some id->id<s.next)(hd:Co t=true)(hsz:bz t=sz)(hx:jb sz h1 c=some (xs.map (aR t),aA))(hc:jF ([]++xs)=some r)
  (hl:∀i∈aA,i∈l) (hz:k (.so s.next) (jz (t_ s lV) (.ar t (wI Sl.nil xs r) 0)) l=some z):zA h1 (.append sz) [.c (.d (.lit (.slice none 0 0))),.c c] s k z:=by
 subst hsz;obtain⟨rfl,hlen⟩:=wD.1 hc;refine⟨_,_,_,hz,fun cl=>?_⟩;simp only[aD,aV];rw[I7 hx (by simpa using hlen)];cases xs with|nil=>exact⟨_,_,_,_,rfl,Cf hr hkl hd (fun p hp=>by simp at hp) hl (bH _) (fun l e=>by cases e) rfl⟩|cons y ys=>refine⟨_,_,_,_,if_neg (by simp),Cf hr hkl hd (fun p hp=>by simp at hp;simp[hp]) hl (au _) (fun l e=>?_) rfl⟩;simp only[wI,br]at e;cases e;rw[aY,dA,if_pos rfl]
theorem Hy{t:Ty}{w xs r:List (El t)}{sz id off:Nat}{ao:List (List D)}{c:C}{aA l:List Nat}(hr:HR s.next h1 s.heap)(hid:id<s.next)(hd:Co t=true)(hsz:bz t=sz)(hl1:aB h1 id=some (.aL sz ao))(hle:off+w.length<=ao.length)(hro:ao.length<=off+(w.length+xs.length))(he:(ao.drop off).take w.length=w.map (aR t))
  (hx:jb sz h1 c=some (xs.map (aR t),aA)) (hc:jF (w++xs)=some r) (hl:∀i∈id::aA,i∈l) (hz:k (.so s.next) (jz (ez s id none) (.ar t (wI (.mk w) xs r) 0)) l=some z):
  zA h1 (.append sz) [.c (.fh sz id off (w.map (aR t)).length),.c c] s k z:=by
 subst hsz;obtain⟨rfl,hlen⟩:=wD.1 hc;have ea:wI (.mk w) xs (w++xs)=.mk (w++xs):=by cases xs<;>rfl
 rw[ea]at hz;refine⟨_,_,_,hz,fun cl=>⟨.c (.fh (bz t) s.next 0 ((w++xs).map (aR t)).length),[(id,none),(s.next,some (.aL (bz t) ((w++xs).map (aR t))))],id::aA,s.next+1,?_,?_⟩⟩
 .simp only[aD,aV,cN,oh,hx,hl1];simp only[aN,az]at hlen|-;rw[if_pos ⟨trivial,by omega,by simpa[DG]using hlen⟩,he,<-gG,List.drop_eq_nil_of_le (by omega),List.append_nil]
 .refine Cf (lV:=some id) hr (fun i e=>by cases e;exact hid) hd (fun p hp=>?_) hl (au _) (fun l e=>?_) rfl
  .simp only[aM,fZ,or_false]at hp;rcases hp with rfl|rfl<;>simp
  .cases e;rw[aT,dA,if_neg (by omega),aY,dA,if_pos rfl]
theorem Ep{a x:V}{ya yx:TV}{t0:Ty}{sz:Nat}
  (hz:(match J_ t0 s.heap x with
  |some ⟨t,m,aA⟩=>bif(bz t==sz)&&Co t then(match a with
   |.nl 0=>(jF ([]++m.l)).bind fun r=>k (.so s.next) (jz s (.ar t (wI Sl.nil m.l r) 0)) aA
   |.x (.sl _) v=>bif Sl.fI v then((jF ([]++m.l)).bind fun r=>k (.so s.next) (jz s (.ar t (wI Sl.nil m.l r) 0)) aA)else none
   |.so id=>(match fO s.heap id with
    |some (.ar u v _)=>(match gE (.sl t) (.sl u) m with
     |some m=>(jF (v.l++m.l)).bind fun r=>k (.so s.next) (jz (ez s id none) (.ar u (wI v m.l r) 0)) (id::aA)
     |none=>none)
    |_=>none)
   |.sb id _ lo u v=>(match fO s.heap id,gE (.sl t) (.sl u) m with
    |some (.ar _ s0 _),some m=>bif Nat.ble s0.l.length (lo+(v.l.length+m.l.length))then((jF (v.l++m.l)).bind fun r=>k (.so s.next) (jz (ez s id none) (.ar u (wI v m.l r) 0)) (id::aA))else none
    |_,_=>none)
   |_=>none)else none
  |none=>none)=some z)
  (hr:HR s.next h1 s.heap) (ha1:fV s.heap a ya) (ha2:eX s.next s.heap a) (ha3:iq s.heap a=true) (hx:fV s.heap x yx) (hk:eX s.next s.heap x) (ha:iq s.heap x=true):zA h1 (.append sz) [ya,yx] s k z:=by
 split at hz
 .rename_i t m l hs;obtain⟨h2,hz2⟩:=aO hz;simp only[ai,beq_iff_eq]at h2;obtain⟨hsz,hd⟩:=h2;obtain⟨c,aA,rfl,q1,q2⟩:=GS hr hx hk ha hs hsz;clear hz;cases a with
  |nl j=>cases j with|zero=>obtain⟨r,hc,hz3⟩:=rF hz2;rw[vM ha1];exact vA (lV:=none) hr (fun _ e=>by cases e) hd hsz q1 hc q2 hz3|succ j=>simp at hz2
  |x u v=>
   cases u with
   |sl u=>obtain⟨hnil,hz3⟩:=aO hz2;obtain⟨r,hc,hz4⟩:=rF hz3;cases v with|mk=>cases hnil|nil=>obtain⟨cc,rfl,hcc⟩:=jk (v:=.x (.sl u) Sl.nil) ha1 rfl;obtain rfl:cc=Dt 0:=(List.cons.inj hcc.2).1;exact vA (lV:=none) hr (fun _ e=>by cases e) hd hsz q1 hc q2 hz4
   |_=>simp at hz2
  |so id=>
   simp only at hz2;split at hz2
   .rename_i u v ver ho;split at hz2
    .rename_i m' hm;obtain⟨rfl,e⟩:=B9 hm;obtain⟨r,hc,hz3⟩:=rF hz2;rw[sj ha1 (mi (.inl ho))];rw[<-e]at q1;cases v with
     |nil=>exact vA (lV:=some id) hr (fun _ e=>by cases e;exact ha2) hd hsz q1 hc (fun i hi=>aC _ (q2 i hi)) hz3
     |mk w=>
      have hb:=(hr.ob id _ ho).2.1.2.2 w rfl;subst hsz;refine Hy (w:=w) hr ha2 hd rfl hb (by simp) (by simp only[aN];omega) (by rw[<-aN (f:=aR t)];exact tL) q1 hc (fun i hi=>?_) hz3;rcases aM.1 hi with rfl|hi
      .exact cC ..
      .exact aC _ (q2 i hi)
    .simp at hz2
   .simp at hz2
  |sb id ver lo u v=>
   simp only at hz2;split at hz2
   .rename_i u0 s0 v0 m' ho hm;obtain⟨rfl,e⟩:=B9 hm;obtain⟨hgd,hz2b⟩:=aO hz2;obtain⟨r,hc,hz3⟩:=rF hz2b;rw[qa ha1 ha3];rw[<-e]at q1;cases v with
    |nil=>exact vA (lV:=some id) hr (fun _ e=>by cases e;exact ha2.1) hd hsz q1 hc (fun i hi=>aC _ (q2 i hi)) hz3
    |mk w=>
     obtain⟨u1,s1,ho1⟩:=lC (h:=s.heap) (id:=id) (ver:=ver) (dl.1 ha3).2;obtain⟨_,h4⟩:=ha2.2 u1 s1 ver ho1;obtain⟨h5,h6⟩:=h4 rfl
     have ho2:fO s.heap id=some (.ar u1 s1 ver):=by
      rcases ho1 with ho1|ho1
      .exact ho1
      .rw [ho]at ho1;simp at ho1
     cases s1 with
     |nil=>exact h6.elim
     |mk l1=>
      have hb:=(hr.ob id _ ho2).2.1.2.2 l1 rfl;subst hsz;rw[h5]at hb
      refine Hy (w:=w) hr ha2.1 hd rfl hb (by simpa using h6.1) (by
       rw[ho2]at ho;obtain⟨rfl,e2,_⟩:u1=u0/\_:=by simpa using ho
       cases eq_of_heq e2;have:=iX hgd;simpa[Sl.l]using this) h6.2 q1 hc (fun i hi=>?_) hz3
      rcases aM.1 hi with rfl|hi
      .exact cC ..
      .exact aC _ (q2 i hi)
   .simp at hz2
  |_=>simp at hz2
 .simp at hz
end
section
variable{h:H2}{n:Nat}{h1:bF}{β:Type}{s:S2}{k:V->S2->List Nat->Option β}{z:β}
theorem GH{id:Nat}{o o':O}{u:fx}{x:TV}{v:V}{aA l:List Nat}(hr:HR s.next h1 s.heap)(ho:fO s.heap id=some o)(hs:sh o o')(hu:∀p∈u,p.1=id)(hb:vc ((id,some o')::s.heap) o' (aB (u++h1) id))(hko:Cp s.next ((id,some o')::s.heap) o')
  (hx:fV ((id,some o')::s.heap) v x) (hk:eX s.next ((id,some o')::s.heap) v) (hl:∀i∈aA,i∈l):qS s (ez s id (some o')) h1 x u aA s.next v l:=by
 refine qS.EF [id] hr (jr.Cy ho hs) rfl rfl (au _) (au _) hl rfl (fun p hp=>by simp[hu p hp]) (fun i hi=>?_) (fun i hi o2 ho2=>?_) hx hk (fun i _ h=>by simp only[ez];rw[c8,if_neg (fun e=>by rw[e,h]at ho;cases ho)];exact h)
 .simp only[ez];rw[c8,if_neg fun e=>hi (by simp[e])]
 .obtain rfl:=am.1 hi;simp only[ez,tJ]at ho2;obtain rfl:=aa ho2;exact⟨(hr.ob _ _ ho).1,hb,hko⟩
theorem rH{id ver:Nat}{t:Ty}{w w':Sl (El t)}{u:fx}{x:TV}{v:V}{aA l:List Nat}(hr:HR s.next h1 s.heap)(ho:fO s.heap id=some (.ar t w ver))(hn:w.fI=w'.fI)(hlen:w.l.length=w'.l.length)(hu:∀p∈u,p.1=id)
  (hb:∀l,w'=.mk l->aB (u++h1) id=some (.aL (bz t) (l.map (aR t)))) (hx:∀g,fV g v x) (hk:∀n g,eX n g v) (hl:∀i∈aA,i∈l):qS s (ez s id (some (.ar t w' (ver+1)))) h1 x u aA s.next v l:=by
 obtain⟨h2,h3,_⟩:=(hr.ob id _ ho).2.1;exact GH hr ho ⟨bH _,rfl,hn,hlen,fun e=>by omega⟩ hu ⟨h2,h3,hb⟩ trivial (hx _) (hk _ _) hl
theorem Ji{a x:V}{ya yx:TV}{t0:Ty}{sz:Nat}
  (hz:(match J_ t0 s.heap x with
  |some ⟨t,m,aA⟩=>bif bz t==sz then(match a with
   |.nl 0=>k (.x (.i .i64) (0:Int)) s aA
   |.so id=>(match fO s.heap id with
    |some (.ar u v ver)=>(match gE (.sl t) (.sl u) m with
     |some m=>k (.x (.i .i64) ((min m.l.length v.l.length:Nat):Int)) (ez s id (some (.ar u (v.to (Mn v.l 0 v.l.length m.l)) (ver+1)))) (id::aA)
     |none=>none)
    |_=>none)
   |.sb id ver lo _ v=>(match fO s.heap id with
    |some (.ar u w ver')=>(match gE (.sl t) (.sl u) m with
     |some m=>bif ver'==ver then k (.x (.i .i64) ((min m.l.length v.l.length:Nat):Int)) (ez s id (some (.ar u (w.to (Mn w.l lo v.l.length m.l)) (ver+1)))) (id::aA)else none
     |none=>none)
    |_=>none)
   |_=>none)else none
  |none=>none)=some z)
  (hr:HR s.next h1 s.heap) (ha1:fV s.heap a ya) (ha2:eX s.next s.heap a) (ha3:iq s.heap a=true) (hx:fV s.heap x yx) (hk:eX s.next s.heap x) (ha:iq s.heap x=true):zA h1 (.copy sz) [ya,yx] s k z:=by
 have hmem:∀{id:Nat}{aA l:List Nat},(∀i∈aA,i∈l)->∀i∈id::aA,i∈id::l:=fun q i hi=>by
  rcases aM.1 hi with rfl|hi
  .exact cC ..
  .exact aC _ (q i hi)
 split at hz
 .rename_i t m l hs;obtain⟨h2,hz2⟩:=aO hz;obtain rfl:bz t=sz:=by simpa using h2
  obtain⟨c,aA,rfl,q1,q2⟩:=GS hr hx hk ha hs rfl;clear hz;cases a with
  |nl j=>cases j with|zero=>rw[vM ha1];exact⟨_,_,_,hz2,fun cl=>⟨tI .i64 0,[],aA,s.next,by simp only[aD,aV,cN,mn,Dt,q1];rfl,qS.pure hr (xi _ _) trivial q2⟩⟩|succ j=>simp at hz2
  |so id=>
   simp only at hz2;split at hz2
   .rename_i u v ver ho;split at hz2
    .rename_i m' hm;obtain⟨rfl,e⟩:=B9 hm;rw[sj ha1 (mi (.inl ho))];rw[<-e]at q1;cases v with
     |nil=>refine⟨_,_,_,hz2,fun cl=>⟨tI .i64 0,[],aA,s.next,by simp only[aD,aV,cN,mn,mj,q1];rfl,?_⟩⟩;exact rH hr ho rfl rfl (fun p hp=>by simp at hp) (fun l e=>by cases e) (fun g=>by simpa[Sl.l]using xi .i64 0) (fun _ _=>trivial) fun i hi=>aC _ (q2 i hi)
     |mk w=>
      have hb:=(hr.ob id _ ho).2.1.2.2 w rfl;refine⟨_,_,_,hz2,fun cl=>⟨_,_,_,_,QP hb q1,?_⟩⟩;refine rH hr ho rfl ?_ (fun p hp=>by simp at hp;simp[hp]) (fun l e=>?_) (fun g=>xi _ _) (fun _ _=>trivial) (hmem q2)
      .simp only[Sl.to,Sl.l];rw[uI (by omega)]
      .simp only[Sl.to,Sl.l]at e;cases e;rw[aY,dA,if_pos rfl];rfl
    .simp at hz2
   .simp at hz2
  |sb id ver lo u0 v=>
   simp only at hz2;split at hz2
   .rename_i u w ver' ho;split at hz2
    .rename_i m' hm;obtain⟨rfl,e⟩:=B9 hm;obtain⟨h3,hz3⟩:=aO hz2;obtain rfl:ver'=ver:=by simpa using h3
     rw[qa ha1 ha3];rw[<-e]at q1;obtain⟨_,h4⟩:=ha2.2 t w ver' (.inl ho);obtain⟨h5,h6⟩:=h4 rfl;cases v with
     |nil=>cases w with|mk w=>exact h6.elim|nil=>refine⟨_,_,_,hz3,fun cl=>⟨tI .i64 0,[],aA,s.next,by simp only[aD,aV,cN,mn,yb,q1];rfl,?_⟩⟩;exact rH hr ho rfl rfl (fun p hp=>by simp at hp) (fun l e=>by cases e) (fun g=>by simpa[Sl.l]using xi .i64 0) (fun _ _=>trivial) fun i hi=>aC _ (q2 i hi)
     |mk v=>
      cases w with
      |nil=>exact h6.elim
      |mk w=>
       have hb:=(hr.ob id _ ho).2.1.2.2 w rfl;refine⟨_,_,_,hz3,fun cl=>⟨tI .i64 (min m'.l.length v.length:Nat),[(id,some (.aL (bz t) ((Mn w lo v.length m'.l).map (aR t))))],id::aA,s.next,?_,?_⟩⟩
       .simp only[aD,aV,cN,mn,yb,q1,hb,<-h5];rw[if_pos ⟨trivial,by simpa using h6.1⟩];simp only[Gf,aN];rfl
       .refine rH hr ho rfl ?_ (fun p hp=>by simp at hp;simp[hp]) (fun l e=>?_) (fun g=>xi _ _) (fun _ _=>trivial) (hmem q2)
        .simp only[Sl.to,Sl.l];rw[uI h6.1]
        .simp only[Sl.to,Sl.l]at e;cases e;rw[aY,dA,if_pos rfl];rfl
    .simp at hz2
   .simp at hz2
  |_=>simp at hz2
 .simp at hz
theorem CB{g:H2}:fV g (.tp .ni) (.iN []):=⟨[],rfl,rfl⟩
theorem Gm{a:V}{ya:TV}{zz:List Value}
  (hz:(match a with
  |.sb id ver lo _ v=>(match fO s.heap id with
   |some (.ar u w ver')=>bif(ver'==ver)&&tQ (nk u) zz&&Co u then(Oz w lo v.l.length (sd u)).bind fun w=>k (.tp .ni) (ez s id (some (.ar u w (ver+1)))) [id]else none
   |_=>none)
  |_=>none)=some z)
  (hr:HR s.next h1 s.heap) (ha1:fV s.heap a ya) (ha2:eX s.next s.heap a) (ha3:iq s.heap a=true):zA h1 (.clear zz) [ya] s k z:=by
 cases a with
 |sb id ver lo u0 v=>
  simp only at hz;split at hz
  .rename_i u w ver' ho;obtain⟨h3,hz2⟩:=aO hz;simp only[ai,beq_iff_eq]at h3;obtain⟨⟨rfl,q1⟩,q2⟩:=h3;have q1:=qW q1;subst q1;obtain⟨hd,_⟩:=p7 q2;obtain⟨w',hw,hz3⟩:=rF hz2;rw[qa ha1 ha3];obtain⟨_,h4⟩:=ha2.2 u w ver' (.inl ho);obtain⟨h5,h6⟩:=h4 rfl;have hzl:cB (nk u)=aR u (sd u):=(qV u hd).symm;have hlen:bz u=(nk u).length:=by have:=congrArg mC hzl;rw[bJ,cB,aN]at this;exact this.symm
   cases w with
   |nil=>simp[Oz]at hw
   |mk w=>
    cases v with
    |nil=>exact h6.elim
    |mk v=>
     simp only[Oz,bl]at hw;subst hw;have hb:=(hr.ob id _ ho).2.1.2.2 w rfl;refine⟨_,_,_,hz3,fun cl=>⟨.iN [],[(id,some (.aL (bz u) ((Mn w lo v.length (aw v.length (sd u))).map (aR u))))],[id],s.next,?_,?_⟩⟩
     .simp only[aD,aV,cN,oY,yb,hb,<-h5];rw[if_pos ⟨hlen,by simpa using h6.1⟩,hzl,<-Gf];simp[aN,List.map_replicate,List.take_of_length_le]
     .refine rH hr ho rfl ?_ (fun p hp=>by simp at hp;simp[hp]) (fun l e=>?_) (fun g=>CB) (fun _ _=>trivial) (fun i hi=>hi)
      .simp only[Sl.l];rw[uI (by simpa using h6.1)]
      .cases e;rw[aY,dA,if_pos rfl];rfl
  .simp at hz
 |_=>simp at hz
theorem CF{id m:Nat}{t:Ty}{p:pO}{w:V}{ya yw:TV}(hr:HR s.next h1 s.heap)(ha1:fV s.heap (.op id t p) ya)(ha2:eX s.next s.heap (.op id t p))(hx:fV s.heap w yw)(hk:eX s.next s.heap w)
  (hz:(bif(xV w==m)then(match fO s.heap id with
  |some (.bx u c)=>bif decide (u=t)then(match qT t p with
   |some a=>(match MZ a w with
    |some w=>(match ou c p w with|some c=>bif eE c false t then k (.tp .ni) (ez s id (some (.bx t c))) [id]else none|none=>none)
    |none=>none)
   |none=>none)else none
  |_=>none)else none)=some z):zA h1 (.store m) [ya,yw] s k z:=by
 obtain⟨h2,hz2⟩:=aO hz;simp only[beq_iff_eq]at h2;clear hz;split at hz2
 .rename_i u c ho;obtain⟨h3,hz3⟩:=aO hz2;simp only[decide_eq_true_eq]at h3;subst h3;clear hz2;split at hz3
  .rename_i a ha;split at hz3
   .rename_i w' hw;split at hz3
    .rename_i c' hc;obtain⟨h4,hz4⟩:=aO hz3;obtain⟨cw,e1,e2⟩:=qx (oK (FC hw) hx);obtain⟨q1,q2,q3,q4⟩:=yA hw e1 hk;obtain⟨_,⟨cs,e3,e4,e5⟩,e6⟩:=hr.ob id _ ho;have l1:cw.length=xV w:=iw e1;have l2:cw.length=bz a:=by rw[iw q1,gN _ _ _ q2]
     have l3:cs.length=bz u:=by rw[iw e4,gN _ _ _ e5]
     have l4:=v6 p u a ha ha2.2;have q5:=vR p c u w' c' cs cw a e5 e4 ha2.2 hc ha q1 l2;have q6:=GO p c w' c' e6 q3 hc;rw[vL ha1];have hos:sh (.bx u c) (.bx u c'):=rfl;refine .Cy hr ho hos hz4 (fun cl=>?_) (b:=some (.box (aU cs (mI u p) cw))) ?_ ?_ CB trivial (aA:=[id]) fun i hi=>hi
     .simp only[aD,aV,cN,mb,e2];rw[if_pos (l1.trans h2)];simp only[e3];rw[if_pos (by omega)]
     .exact ⟨_,rfl,lB (jr.Cy ho hos) q6 q5,h4⟩
     .exact gJ (au _) (jr.Cy ho hos) q6
    .simp at hz3
   .simp at hz3
  .simp at hz3
 .simp at hz2
theorem qS.seq{s1 s':S2}{fu u:fx}{x:TV}{aA a l:List Nat}{m:Nat}{v:V}(eI:jr s.next s.heap s1.heap)(he:s1.dD=s.dD)(hg:s1.gh=s.gh)(hn:s1.next=s.next)(hwo:s1.wo=a++s.wo)(hu:∀p∈fu,p.1∈a)(hf:∀id,id∉a->fO s1.heap id=fO s.heap id)
  (hna:∀i∈a,fO s.heap i≠none) (hd:qS s1 s' (fu++h1) x u aA m v l):qS s s' h1 x (u++fu) aA m v l:=by
 obtain⟨d1,d2,d3,d4,d5,d6,d7,d8,d9,d10,W,w1,w2,w3⟩:=hd;refine⟨d1,d2,by rw[aJ];exact d3,jr.trans (Nat.le_of_eq hn.symm) eI d4,d5.trans he,d6.trans hg,d7,by omega,d9,fun i hi h=>d10 i (by omega) ((hf i fun q=>hna i q h).trans h),W++a,by rw[w1,hwo,aJ],fun p hp=>?_,fun i hi=>?_⟩
 .rcases ap.1 hp with hp|hp
  .exact aE _ (w2 p hp)
  .exact aH _ (hu p hp)
 .rw [w3 i fun q=>hi (aE _ q),hf i fun q=>hi (aH _ q)]
theorem LL{v w:V}{l:List Nat}(hf:je h v=some (w,l)):NJ v:=by cases v<;>first|trivial|(simp[je]at hf)
theorem pq{a b:List D}(e:a.map C.d=b.map C.d):a=b:=by
 induction a generalizing b with
 |nil=>cases b with|nil=>rfl|cons y b=>simp at e
 |cons x a ih=>cases b with|nil=>simp at e|cons y b=>simp only[aD,dJ,C.d.injEq]at e;rw[e.1,ih e.2]
theorem QL:∀(p:pO)(t u:Ty),kD t=true->qT t p=some u->kD u=true:=by
 intro p;induction p with
 |nil=>
  intro t u hd h;have e:qT t []=some t:=by cases t<;>rfl
  rw[e]at h;exact aa h▸hd
 |cons q p ih=>
  intro t u hd h;cases q with
  |fd i=>
   cases t with
   |st t=>
    simp only[qT]at h;split at h
    .rename_i w hw;exact ih w u (zj t i w hd hw) h
    .simp at h
   |_=>simp[qT]at h
  |ix i=>cases t with|ar l t=>exact ih t u hd h|_=>simp[qT]at h
theorem G4(t:Ty):mI t []=0:=by cases t<;>rfl
theorem E0{t:Ty}{l:List (Sl (El t))}{ln:Option (Nat×Nat)}{m:Nat}{r:Sl (El t)}(h:GN ln m=true):(eQ t l ln).set m (oL t r)=eQ t (l.set m r) none:=by cases ln with|none=>simp only[eQ,List.map_set]|some q=>obtain⟨m',i⟩:=q;obtain rfl:m'=m:=Nat.eq_of_beq_eq_true h;simp only[eQ,List.map_set,List.set_set]
theorem E1{t:Ty}{l:List (Sl (El t))}{ln:Option (Nat×Nat)}:(eQ t l ln).length=l.length:=by cases ln with|none=>simp[eQ]|some q=>obtain⟨m',i⟩:=q;simp[eQ]
theorem yo{id id2 m:Nat}{t:Ty}{l:List (Sl (El t))}{ln:Option (Nat×Nat)}{o2:O}{r:Sl (El t)}{u:fx}{aA:List Nat}(hr:HR s.next h1 s.heap)(ho:fO s.heap id=some (.rw t (.mk l) ln))(ho2:fO s.heap id2=some o2)(hne:id2≠id)(hlnm:GN ln m=true)
  (hu:∀p∈u,p.1=id\/p.1=id2) (hb:aB (u++h1) id=some (.nst (bz t) ((eQ t l ln).set m (oL t r)))) (hids:∀i∈aA,i∈[id,id2]):
  qS s (ez (ez s id2 none) id (some (.rw t (.mk (l.set m r)) none))) h1 (.iN []) u aA s.next (.tp .ni) [id,id2]:=by
 have eI:jr s.next s.heap ((id,some (.rw t (.mk (l.set m r)) none))::(id2,none)::s.heap):=by refine jr.trans (au _) (jr.lV id2) (jr.Cy (o:=.rw t (.mk l) ln) ?_ ⟨rfl,rfl,by simp[Sl.l]⟩);rw[c8,if_neg hne];exact ho
 refine qS.EF [id,id2] hr eI rfl rfl (au _) (au _) hids rfl (fun p hp=>?_) (fun i hi=>?_) (fun i hi o ho'=>?_) CB trivial (fun i _ h=>?_)
 .rcases hu p hp with e|e<;>simp[e]
 .simp only[aM,fZ,or_false,not_or]at hi;simp only[ez];rw[c8,if_neg (fun e=>hi.1 e.symm),c8,if_neg (fun e=>hi.2 e.symm)]
 .simp only[ez]at ho';by_cases hi1:id=i
  .subst hi1;rw[c8,if_pos rfl]at ho';obtain rfl:=aa ho';obtain⟨a,⟨d1,d2,_⟩,_⟩:=hr.ob _ _ ho;exact⟨a,⟨d1,d2,fun l' e=>by cases e;rw[hb,E0 hlnm]⟩,trivial⟩
  .rw [c8,if_neg hi1]at ho';simp only[aM,fZ,or_false]at hi;rcases hi with rfl|rfl
   .exact absurd rfl hi1
   .rw [c8,if_pos rfl]at ho';cases ho'
 .simp only[ez];rw[c8,if_neg (fun e=>by subst e;rw[ho]at h;cases h),c8,if_neg (fun e=>by subst e;rw[ho2]at h;cases h)];exact h
theorem qS.nx{s s':S2}{x:TV}{u:fx}{aA l:List Nat}{m q:Nat}{v:V}(d:qS s s' h1 x u aA m v l)(hq:q<=s'.next):qS s s' h1 x u aA q v l:=⟨d.val,d.UP,d.hr,d.eI,d.dD,d.gh,hq,d.le,d.aA,d.nb,d.wo⟩
theorem CG{id m q:Nat}{t:Ty}{p:pO}{w:V}{ya yw:TV}(hr:HR s.next h1 s.heap)(ha1:fV s.heap (.ep id m t p) ya)(ha2:eX s.next s.heap (.ep id m t p))(hx:fV s.heap w yw)(hk:eX s.next s.heap w)(ha:iq s.heap w=true)
  (hz:(bif(xV w==q)then EU id m t p w s (fun s l=>k (.tp .ni) s l)else none)=some z):zA h1 (.store q) [ya,yw] s k z:=by
 obtain⟨h2,hz2⟩:=aO hz;simp only[beq_iff_eq]at h2;clear hz;unfold EU at hz2;split at hz2
 .rename_i u v ln ho;split at hz2
  .rename_i id2;split at hz2
   .rename_i u2 r ver ho2;split at hz2
    .rename_i r' hr';obtain⟨h3,hz3⟩:=aO hz2;simp only[ai,decide_eq_true_eq,Bool.not_eq_true',beq_eq_false_iff_ne]at h3;obtain⟨⟨rfl,hne⟩,hln⟩:=h3;obtain⟨e,e2⟩:=du hr';cases e;obtain rfl:r'=r:=e2;have hlen:=ha2.2.2.2 _ _ _ ho;obtain⟨_,⟨d1,d2,d3⟩,_⟩:=hr.ob id _ ho;obtain⟨_,⟨_,_,c3⟩,_⟩:=hr.ob id2 _ ho2;cases v with
     |nil=>simp[Sl.l]at hlen
     |mk l=>
      have d3:=d3 l rfl;have h2':q=1:=h2.symm;subst h2';rw[sn ha1,sj hx (mi (.inl ho2)),G4];have hl2:m<(eQ u l ln).length:=by rw[E1];exact hlen
      cases r' with
      |nil=>
       refine⟨_,_,_,hz3,fun cl=>⟨.iN [],[(id,some (.nst (bz u) ((eQ u l ln).set m .nil)))],[id],s.next,?_,?_⟩⟩
       .simp only[aD,aV,cN,mb,mj,cellsOf,d3];rw[if_pos (show([_]:List C).length=1 from rfl)];rw[if_pos ⟨trivial,trivial,hl2⟩];simp only[rB]
       .exact yo hr ho ho2 hne hln (fun p hp=>by simp at hp;simp[hp]) (by rw[aY,dA,if_pos rfl];rfl) (fun i hi=>by simp at hi;simp[hi])
      |mk rr=>
       have c3:=c3 rr rfl;refine⟨_,_,_,hz3,fun cl=>⟨.iN [],[(id,some (.nst (bz u) ((eQ u l ln).set m (.bq (rr.map (aR u)))))),(id2,none)],[id,id2],s.next,?_,?_⟩⟩
       .simp only[aD,aV,cN,mb,mj,cellsOf,d3];rw[if_pos (show([_]:List C).length=1 from rfl)];rw[if_pos ⟨trivial,trivial,hl2⟩];simp only[rB,c3];rw[if_pos ⟨trivial,by simp,hne⟩]
       .exact yo hr ho ho2 hne hln (fun p hp=>by simp at hp;rcases hp with rfl|rfl<;>simp) (by rw[aT,dA,if_pos rfl];rfl) (fun i hi=>hi)
    .simp at hz2
   .simp at hz2
  .simp at hz2
 .rename_i u l ver ho;split at hz2
  .rename_i w' a hw;obtain⟨h3,hz3⟩:=aO hz2;simp only[decide_eq_true_eq]at h3;subst h3;clear hz2;split at hz3
   .rename_i b2 hb;split at hz3
    .rename_i y hy;split at hz3
     .rename_i c hc;split at hz3
      .rename_i y2 hy2;split at hz3
       .rename_i s1 hs1;obtain⟨h4,hz4⟩:=aO hz3;obtain⟨cw,e1,e2⟩:=qx (oK (LL hw) hx);obtain⟨ds,aA,f1,f2,f3,f4,f5⟩:=sL hr w w' a cw hw e1 hk ha;have e3:=pq (iS w' false b2 y _ hy f2);have hlen:=ha2.2.2.1 u l ver (.inl ho)
        have hnm:∀(ds:List D)(cs:List C)(aA:List Nat),dP h1 cs=some (ds,aA)->ds.length=cs.length:=by
         intro ds cs;induction cs generalizing ds with
         |nil=>intro aA h;obtain⟨rfl,_⟩:[]=ds/\[]=aA:=by simpa[dP]using h
               rfl
         |cons c cs ih=>
          intro aA h;simp only[dP]at h;split at h
          .rename_i p1 p2 p3 p4 hp hq;obtain⟨rfl,rfl⟩:=ad (aa h);simp[ih _ _ hq]
          .simp at h
        have l1:cw.length=xV w:=iw e1;have l2:ds.length=bz b2:=by rw[e3,bJ]
        have l3:=hnm _ _ _ f1;have l4:=v6 p u b2 hb ha2.2.1;cases l with
        |nil=>simp[Sl.l]at hlen
        |mk l=>
         obtain⟨_,⟨d1,d2,d3⟩,_⟩:=hr.ob id _ ho;have d3:=d3 l rfl;have q5:=vR (h:=s.heap) p (.x u (gt l m)) u (.x b2 y) c ((aR u (gt l m)).map .d) ((aR b2 y).map .d) b2 (by simp[eE]) ⟨d1,rfl⟩ ha2.2.1 hc hb ⟨QL p u b2 d1 hb,rfl⟩ (by simp[bJ]);have q6:=pD hy2 q5;rw[<-uo]at q6;have q7:=pq q6;obtain⟨fu,g1,g2,g3,g4,g5,g6,g7,g8,g9⟩:=BW (s0:=s) rfl hr a s1 aA aA hs1 f3 f4;have hid:id∉a:=by simpa using h4
         have hid2:aA.contains id=false:=by cases hq:aA.contains id with|false=>rfl|true=>exact absurd ((f3 id (by simpa using hq)).1) hid
         rw[sn ha1];refine⟨_,_,_,hz4,fun cl=>⟨.iN [],(id,some (.aL (bz u) ((l.set m y2).map (aR u))))::fu,id::aA,s.next,?_,?_⟩⟩
         .simp only[aD,aV];exact Nl d3 hlen e2 (l1.trans h2) f1 g1 hid2 (by rw[bJ];omega) (by rw[e3];exact q7)
         .have ho1:fO s1.heap id=some (.ar u (.mk l) ver):=by rw[g9 id hid];exact ho
          rw[<-g6]at g2
          have:=rH (v:=.tp .ni) (x:=.iN []) (aA:=id::aA) (l:=id::a) (u:=[(id,some (.aL (bz u) ((l.set m y2).map (aR u))))]) g2 ho1 (w':=.mk (l.set m y2)) rfl (by simp[Sl.l]) (fun p hp=>by simp at hp;simp[hp]) (fun l' e=>by cases e;rw[aY,dA,if_pos rfl]) (fun _=>CB) (fun _ _=>trivial) (fun i hi=>by
           rcases aM.1 hi with rfl|hi
           .exact cC ..
           .exact aC _ (f3 i hi).1)
          rw[g6]at this;exact qS.seq g3 g4 g5 g6 g7 g8 g9 (F0 rfl hs1) this
       .simp at hz3
      .simp at hz3
     .simp at hz3
    .simp at hz3
   .simp at hz3
  .simp at hz2
 .simp at hz2
end
section
variable{h:H2}{n:Nat}{h1:bF}{β:Type}{s:S2}{k:V->S2->List Nat->Option β}{z:β}
theorem uk:∀{cs:List C}{ds:List D}{aA:List Nat},dP h1 cs=some (ds,aA)->ds.length=cs.length:=by
 intro cs;induction cs with
 |nil=>intro ds aA h;obtain⟨rfl,_⟩:[]=ds/\[]=aA:=by simpa[dP]using h
       rfl
 |cons c cs ih=>
  intro ds aA h;simp only[dP]at h;split at h
  .rename_i p1 p2 p3 p4 hp hq;obtain⟨rfl,rfl⟩:=ad (aa h);simp[ih hq]
  .simp at h
theorem Px{t:Ty}(hd:kD t=true)(m:Nat):(aw m (sd t)).flatMap (aR t)=cB ((aw m (nk t)).flatten):=by induction m with|zero=>rfl|succ m ih=>simp only[iz,bi,ed,ih,qV t hd,cB,gG]
theorem BN(l:List Value):fk l=(cB l).map .d:=by simp[fk,cB]
theorem JL{t:Ty}(hd:kD t=true)(m:Nat):((aw m (nk t)).flatten).length=m*bz t:=by have:=congrArg mC (Px hd m);rw[gK (bJ t),List.length_replicate,cB,aN]at this;exact this.symm
theorem Ee{α:Type}{f:α->List D}{q:Nat}(hf:∀a,(f a).length=q):∀(l:List α),mo q l.length (l.flatMap f)=l.map f:=by intro l;induction l with|nil=>rfl|cons a l ih=>simp only[c9,mo,bi,aD];rw[List.take_left' (hf a),List.drop_left' (hf a),ih]
theorem Fc{t:Ty}{len:Nat}(hr:HR n h1 h)(hd:kD t=true):∀(is:List Nat)(vs:List V)(m:Nat)(l:List (El t))(a:List Nat)(ED:List C)(xs:List TV),yi h t len m is vs=some (l,a)->m<=len->ED.length=m*bz t->
  mE h vs xs->(∀w∈vs,eX n h w)->(∀w∈vs,iq h w=true)->
  ∃cs aA,mU (ED++fk ((aw (len-m) (nk t)).flatten)) ((is.map fun i=>(i*bz t,bz t)).zip xs)=some (ED++cs)/\dP h1 cs=some (l.flatMap (aR t),aA)/\(∀i∈aA,i∈a/\¬mF h i)/\(∀i∈a,i∈aA\/mF h i)/\l.length=len-m:=by
 intro is;induction is with
 |nil=>intro vs m l a ED xs hf hm hpre hx hk ha;cases vs with|cons v vs=>simp[yi]at hf|nil=>simp only[yi,bl,Prod.mk.injEq]at hf;obtain⟨rfl,rfl⟩:=hf;obtain rfl:=lO hx;refine⟨_,[],rfl,?_,fun i hi=>by simp at hi,fun i hi=>by simp at hi,by simp⟩;rw[BN,Px hd];exact xL _
 |cons i is ih=>
  intro vs m l a ED xs hf hm hpre hx hk ha;cases vs with
  |nil=>simp[yi]at hf
  |cons v vs=>
   simp only[yi]at hf;split at hf
   .rename_i w a1 hw;split at hf
    .rename_i y hy;obtain⟨hc,hf⟩:=aO hf;simp only[ai,Nat.ble_eq,Nat.blt_eq]at hc;obtain⟨hmi,hil⟩:=hc;split at hf
     .rename_i l1 b hl1;obtain⟨rfl,rfl⟩:=ad (aa hf);obtain⟨x,ys,rfl,hx1,hx2⟩:=gL hx;obtain⟨cw,e1,e2⟩:=qx (oK (LL hw) hx1);obtain⟨ds,aA,f1,f2,f3,f4,_⟩:=sL hr v w a1 cw hw e1 (hk _ (by simp)) (ha _ (by simp));have e3:=pq (iS w false t y _ hy f2);subst e3;have l1':cw.length=bz t:=by rw[<-uk f1,bJ]
      have lz:(fk ((aw (i-m) (nk t)).flatten)).length=(i-m)*bz t:=by simp only[fk,aN];exact JL hd _
      have lz1:(fk (nk t)).length=bz t:=by rw[BN,<-qV t hd,aN,bJ]
      have hpl:(ED++fk ((aw (i-m) (nk t)).flatten)).length=i*bz t:=by rw[az,hpre,lz,<-bN,Nat.add_sub_cancel' hmi]
      obtain⟨cs,jds,g1,g2,g3,g4,g5⟩:=ih vs (i+1) l1 b (ED++fk ((aw (i-m) (nk t)).flatten)++cw) ys hl1 hil (by rw[az,hpl,l1',bN,Nat.one_mul]) hx2 (fun w hw=>hk w (by simp[hw])) (fun w hw=>ha w (by simp[hw]));have hsplit:aw (len-m) (nk t)=aw (i-m) (nk t)++(nk t::aw (len-(i+1)) (nk t)):=by rw[<-iz,List.replicate_append_replicate];congr 1;omega
      have hcells:ED++fk ((aw (len-m) (nk t)).flatten)=(ED++fk ((aw (i-m) (nk t)).flatten))++(fk (nk t)++fk ((aw (len-(i+1)) (nk t)).flatten)):=by rw[hsplit,List.flatten_append,ed,sG,sG,aJ]
      refine⟨fk ((aw (i-m) (nk t)).flatten)++(cw++cs),aA++jds,?_,?_,fun j hj=>?_,fun j hj=>?_,by simp[g5];omega⟩
      .simp only[aD,List.zip_cons_cons,mU,e2];rw[if_pos ⟨l1',by rw[hcells,az,hpl,az,lz1];omega⟩,hcells];have:aU ((ED++fk ((aw (i-m) (nk t)).flatten))++(fk (nk t)++fk ((aw (len-(i+1)) (nk t)).flatten))) (i*bz t) cw=(ED++fk ((aw (i-m) (nk t)).flatten)++cw)++fk ((aw (len-(i+1)) (nk t)).flatten):=by have:=te (a:=ED++fk ((aw (i-m) (nk t)).flatten)) (b:=fk (nk t)++fk ((aw (len-(i+1)) (nk t)).flatten)) (p:=cw) (off:=0);rw[hpl]at this;refine Eq.trans this ?_;rw[s_ (by omega),mx (by omega)];simp only[aJ]
       rw[this,g1];simp only[aJ]
      .rw [List.flatMap_append,bi,Px hd];have hz:dP h1 (fk ((aw (i-m) (nk t)).flatten))=some (cB ((aw (i-m) (nk t)).flatten),[]):=by rw[BN];exact xL _
       exact(p9 hz (p9 f1 g2):dP h1 _=some (_,[]++(aA++jds)))
      .rcases ap.1 hj with hj|hj
       .exact ⟨aE _ (f3 j hj).1,(f3 j hj).2⟩
       .exact ⟨aH _ (g3 j hj).1,(g3 j hj).2⟩
      .rcases ap.1 hj with hj|hj
       .exact (f4 j hj).imp (aE _) id
       .exact (g4 j hj).imp (aH _) id
     .simp at hf
    .simp at hf
   .simp at hf
theorem Eh{t:Ty}{len sz:Nat}{zl:List Value}{pl:List Nat}{vs:List V}{xs:List TV}
  (hz:QX t sz len zl pl vs s k=some z)
  (hr:HR s.next h1 s.heap) (hx:mE s.heap vs xs) (hk:∀w∈vs,eX s.next s.heap w) (ha:∀w∈vs,iq s.heap w=true):zA h1 (.buildSlice sz len zl pl) xs s k z:=by
 unfold QX at hz;obtain⟨h2,hz2⟩:=aO hz;simp only[ai,beq_iff_eq]at h2;obtain⟨⟨rfl,h3⟩,h4⟩:=h2;have h3:=qW h3;subst h3;obtain⟨hd,hs0⟩:=p7 h4;clear hz;split at hz2
 .rename_i l a hl;split at hz2
  .rename_i s1 hs1;obtain⟨cs,aA,g1,g2,g3,g4,g5⟩:=Fc hr hd pl vs 0 l a [] xs hl (Nat.zero_le _) (by simp) hx hk ha;obtain⟨fu,f1,f2,f3,f4,f5,f6,f7,f8,f9⟩:=BW (s0:=s) rfl hr a s1 aA aA hs1 g3 g4;refine⟨_,_,_,hz2,fun cl=>⟨.c (.fh (bz t) s.next 0 len),(s.next,some (.aL (bz t) (l.map (aR t))))::fu,aA,s.next+1,?_,?_⟩⟩
   .have hc:mo (bz t) len (l.flatMap (aR t))=l.map (aR t):=by have:=Ee (bJ t) l;rwa[show l.length=len by simpa using g5]at this
    simp only[cN,m6];have g1:mU (fk ((aw len (nk t)).flatten)) ((pl.map fun i=>(i*bz t,bz t)).zip xs)=some cs:=by simpa using g1
    rw[g1];simp only[g2,f1,hc]
   .have hr1:HR s1.next (fu++h1) s1.heap:=by rw[f6];exact f2
    have hd1:qS s1 (jz s1 (.ar t (.mk l) 0)) (fu++h1) (.c (.fh (bz t) s.next 0 len)) [(s1.next,some (.aL (bz t) (l.map (aR t))))] aA (s.next+1) (.so s1.next) a:=by refine qS.new hr1 (.inl rfl) (fun _=>⟨hd,hs0,fun l' e=>by cases e;rfl⟩) trivial ?_ (aX _) (fun i hi=>(g3 i hi).1) (by rw[f6];exact au _);have:=v7 (h:=s1.heap) (t:=t) (s:=.mk l) (v:=0) (nx:=s1.next);rw[f6]at this|-;simpa[mj,show l.length=len by simpa using g5]using this
    rw[f6]at hd1;exact qS.seq f3 f4 f5 f6 f7 f8 f9 (F0 rfl hs1) hd1
  .simp at hz2
 .simp at hz2
theorem Ga{ka va:Bool}{ks:List Kd}{zl:List Value}{id:Nat}{kv:V}{ya yk:TV}(hr:HR s.next h1 s.heap)(ha1:fV s.heap (.om id) ya)(hx:fV s.heap kv yk)
  (hz:(match fO s.heap id with
  |some (.mp kt vt m)=>(match tM kt kv with
   |some q=>bif(nc kt==ka)&&(nc vt==va)&&decide (DO kt=some ks)&&tQ (nk vt) zl&&kD vt&&(va||bz vt==1)then
     k (.tp (.co (.x vt (lU m (sd vt) q).2.1) (.co (.x (.i .i64) (lU m (sd vt) q).2.2) .ni))) (ez s id (some (.mp kt vt (lU m (sd vt) q).1))) [id]else none
   |none=>none)
  |_=>none)=some z):zA h1 (.mapEntry ka ks va zl) [ya,yk] s k z:=by
 split at hz
 .rename_i kt vt m ho;split at hz
  .rename_i q hq;obtain⟨hc,hz2⟩:=aO hz;simp only[ai,beq_iff_eq,decide_eq_true_eq]at hc;obtain⟨⟨⟨⟨⟨c1,c2⟩,c3⟩,c4⟩,c5⟩,c6⟩:=hc;rw[EL ha1];obtain⟨_,_,k3,_⟩:=xC kt ks c3;have hzz:cB zl=aR vt (sd vt):=by rw[qV vt c5,qW c4]
   have hv:∀y,pf va (aR vt y)=some (Rl vt y):=fun y=>GJ y c2 c6;have hkt:=DL hx hq c3 c1;have e3:=(hr.ob id _ ho).2.1.2.2;rw[<-c2]at c6;have e4:aB h1 id=EE ka va (vG kt) (aR vt) m:=by rw[<-c1,<-c2];exact e3
   have hos:sh (.mp kt vt m) (.mp kt vt (lU m (sd vt) q).1):=trivial;refine .Cy hr ho hos hz2 (fun cl=>Sc (z:=sd vt) e4 hkt k3 hzz hv) ⟨c5,⟨ks,c3⟩,by rw[c1,c2];rfl⟩ trivial ?_ ⟨trivial,trivial,trivial⟩ fun i hi=>hi;exact⟨_,rfl,_,_,rfl,JS c5 c6,_,_,rfl,dR rfl ⟨rfl,rfl⟩,rfl⟩
  .simp at hz
 .simp at hz
theorem Ma:∀(l:List D),zi (l.map .d)=some l:=by intro l;induction l with|nil=>rfl|cons d l ih=>simp[zi,ih]
theorem DX{va:Bool}{m0 id:Nat}{kd:IntKind}{st:Int}{w:V}{ya yw:TV}(hr:HR s.next h1 s.heap)(ha1:fV s.heap (.om id) ya)(hx:fV s.heap w yw)
  (hz:(match fO s.heap id with
  |some (.mp kt vt m)=>(match tM vt w with
   |some y=>bif(nc vt==va)&&(bz vt==m0)&&kD vt then(vd m st y).bind fun m=>k (.tp .ni) (ez s id (some (.mp kt vt m))) [id]else none
   |none=>none)
  |_=>none)=some z):zA h1 (.entryStore va m0) [ya,tI kd st,yw] s k z:=by
 split at hz
 .rename_i kt vt m ho;split at hz
  .rename_i y hy;obtain⟨hc,hz2⟩:=aO hz;simp only[ai,beq_iff_eq]at hc;obtain⟨⟨rfl,rfl⟩,c3⟩:=hc;obtain⟨m',hm,hz3⟩:=rF hz2;rw[EL ha1];obtain⟨_,hks,e3⟩:=(hr.ob id _ ho).2.1;obtain⟨g1,g2⟩:=vv hx hy;have hos:sh (.mp kt vt m) (.mp kt vt m'):=trivial;have hcs:(cellsOf yw).bind zi=some (aR vt y)/\xD yw=nc vt:=by cases hag:nc vt with|true=>rw[g1 hag];exact⟨by simp[cellsOf,Ma],rfl⟩|false=>obtain⟨d,e,rfl⟩:=g2 hag;exact⟨by simp[cellsOf,zi,e],rfl⟩
   refine .Cy hr ho hos hz3 (fun cl=>Sb (va:=nc vt) (ek:=vG kt) (ka:=nc kt) hm e3 hcs.1 (bJ vt y) hcs.2) ⟨c3,hks,rfl⟩ trivial CB trivial fun i hi=>hi
  .simp at hz
 .simp at hz
end
section
variable{h:H2}{n:Nat}{h1:bF}{β:Type}{s:S2}{k:V->S2->List Nat->Option β}{z:β}
theorem wg:∀{r:List V}{l:List Int}{xs:List TV},jE r=some l->mE h r xs->∃ks:List IntKind,ks.length=l.length/\xs=(ks.zip l).map fun p=>tI p.1 p.2:=by
 intro r;induction r with
 |nil=>
  intro l xs hl hx;obtain rfl:[]=l:=by simpa[jE]using hl
  exact⟨[],rfl,lO hx⟩
 |cons v r ih=>
  intro l xs hl hx;cases v with
  |x t v=>
   cases t with
   |i q=>
    simp only[jE]at hl;split at hl
    .rename_i l' hl';obtain rfl:=aa hl;obtain⟨x,ys,rfl,h1,h2⟩:=gL hx;obtain⟨ks,h3,rfl⟩:=ih hl' h2;exact⟨q::ks,by simp[h3],by rw[kq h1];rfl⟩
    .simp at hl
   |_=>simp[jE]at hl
  |_=>simp[jE]at hl
theorem Lt{r:List V}{xs:List TV}(hl:jE r=some [])(hx:mE h r xs):xs=[]:=by obtain⟨ks,h1,rfl⟩:=wg hl hx;cases ks<;>simp_all
theorem BQ{r:List V}{a:Int}{xs:List TV}(hl:jE r=some [a])(hx:mE h r xs):∃q,xs=[tI q a]:=by obtain⟨ks,h1,rfl⟩:=wg hl hx;cases ks with|nil=>simp at h1|cons q ks=>exact⟨q,by cases ks<;>simp_all⟩
theorem Ls{r:List V}{a b:Int}{xs:List TV}(hl:jE r=some [a,b])(hx:mE h r xs):∃q q',xs=[tI q a,tI q' b]:=by
 obtain⟨ks,h1,rfl⟩:=wg hl hx;cases ks with
 |nil=>simp at h1
 |cons q ks=>cases ks with|nil=>simp at h1|cons q' ks=>exact⟨q,q',by cases ks<;>simp_all⟩
theorem Bt{x y:ByteArray}{lo hi:Option Int}(hs:zK x (lo.getD 0) (hi.getD x.size)=some y)(sz:Nat):fL true sz (.d (dS x)) lo hi=some (.d (dS y)):=by
 unfold zK at hs;split at hs
 .rename_i hb;obtain rfl:=aa hs;simp only[fL,if_true];rw[if_pos hb]
 .simp at hs
theorem CK{x:ByteArray}{r:List V}{lo hi:Bool}{sz:Nat}{y:TV}{ys:List TV}(hr:HR s.next h1 s.heap)(hy:fV s.heap (.x .s x) y)(hys:mE s.heap r ys)
  (hz:(match lo,hi,jE r with
  |false,false,some []=>(zK x 0 x.size).bind fun y=>k (.x .s y) s []
  |true,false,some [l]=>(zK x l x.size).bind fun y=>k (.x .s y) s []
  |false,true,some [u]=>(zK x 0 u).bind fun y=>k (.x .s y) s []
  |true,true,some [l,u]=>(zK x l u).bind fun y=>k (.x .s y) s []
  |_,_,_=>none)=some z):zA h1 (.slice true sz lo hi) (y::ys) s k z:=by
 rw[wO hy];split at hz
 .rename_i hi;obtain rfl:=Lt hi hys;obtain⟨w,hw,hz2⟩:=rF hz;exact .pure hr hz2 (fun _=>by simp only[aD,aV,cN];rw[Bt (lo:=none) (hi:=none) hw]) (Rk w) trivial
 .rename_i l hi;obtain⟨q,rfl⟩:=BQ hi hys;obtain⟨w,hw,hz2⟩:=rF hz;exact .pure hr hz2 (fun _=>by simp only[aD,aV,cN,cA];rw[Bt (lo:=some l) (hi:=none) hw]) (Rk w) trivial
 .rename_i l hi;obtain⟨q,rfl⟩:=BQ hi hys;obtain⟨w,hw,hz2⟩:=rF hz;exact .pure hr hz2 (fun _=>by simp only[aD,aV,cN,cA];rw[Bt (lo:=none) (hi:=some l) hw]) (Rk w) trivial
 .rename_i l u hi;obtain⟨q,q',rfl⟩:=Ls hi hys;obtain⟨w,hw,hz2⟩:=rF hz;exact .pure hr hz2 (fun _=>by simp only[aD,aV,cN,cA];rw[Bt (lo:=some l) (hi:=some u) hw]) (Rk w) trivial
 .simp at hz
theorem CL{x:V}{r:List V}{lo hi:Bool}{sz:Nat}{y:TV}{ys:List TV}(hr:HR s.next h1 s.heap)(hy:fV s.heap x y)(hk:eX s.next s.heap x)(ha:iq s.heap x=true)(hys:mE s.heap r ys)
  (hz:(match lo,hi,jE r,FL s.heap x with
  |false,false,some [],some n=>tX sz s.heap x 0 n fun v=>k v s []
  |true,false,some [l],some n=>tX sz s.heap x l n fun v=>k v s []
  |false,true,some [u],some _=>tX sz s.heap x 0 u fun v=>k v s []
  |true,true,some [l,u],some _=>tX sz s.heap x l u fun v=>k v s []
  |_,_,_,_=>none)=some z):zA h1 (.slice false sz lo hi) (y::ys) s k z:=by
 split at hz
 .rename_i m hi hm;obtain rfl:=Lt hi hys;obtain⟨v,c,c',rfl,h3,h4,h5,h6⟩:=B4 (lo:=none) (hi:=none) hr hy hk ha hm hz;exact .pure hr h3 (fun _=>by simp only[aD,aV,cN];rw[h4]) h5 h6
 .rename_i l m hi hm;obtain⟨q,rfl⟩:=BQ hi hys;obtain⟨v,c,c',rfl,h3,h4,h5,h6⟩:=B4 (lo:=some l) (hi:=none) hr hy hk ha hm hz;exact .pure hr h3 (fun _=>by simp only[aD,aV,cN,cA];rw[h4]) h5 h6
 .rename_i u m hi hm;obtain⟨q,rfl⟩:=BQ hi hys;obtain⟨v,c,c',rfl,h3,h4,h5,h6⟩:=B4 (lo:=none) (hi:=some u) hr hy hk ha hm hz;exact .pure hr h3 (fun _=>by simp only[aD,aV,cN,cA];rw[h4]) h5 h6
 .rename_i l u m hi hm;obtain⟨q,q',rfl⟩:=Ls hi hys;obtain⟨v,c,c',rfl,h3,h4,h5,h6⟩:=B4 (lo:=some l) (hi:=some u) hr hy hk ha hm hz;exact .pure hr h3 (fun _=>by simp only[aD,aV,cN,cA];rw[h4]) h5 h6
 .simp at hz
theorem Nq{t:Ty}{l:List (Sl (El t))}{m:Nat}(hm:m<l.length):(l.map (oL t))[m]?=some (oL t (gt l m)):=by rw[List.getElem?_map,av hm];simp[gt,List.getD,av hm]
theorem Ka{α:Type}{l:List α}{m:Nat}{x:α}(h:l[m]?=some x):l.set m x=l:=by obtain⟨hm,rfl⟩:=List.getElem?_eq_some_iff.1 h;exact List.set_getElem_self hm
theorem FJ{id m:Nat}{u:Ty}{y:TV}(hr:HR s.next h1 s.heap)(hx:fV s.heap (.ep id m u []) y)(hk:eX s.next s.heap (.ep id m u []))
  (hz:(match fO s.heap id with
  |some (.rw t v none)=>bif decide (u=.sl t)then k (.so s.next) (jz (ez s id (some (.rw t v (some (m,s.next))))) (.ar t (gt v.l m) 0)) [id]else none
  |_=>none)=some z):zA h1 .t7 [y] s k z:=by
 split at hz
 .rename_i t v ho;obtain⟨h2,hz2⟩:=aO hz;simp only[decide_eq_true_eq]at h2;subst h2;rw[sn hx,G4];have hlen:=hk.2.2.2 _ _ _ ho;obtain⟨hid,⟨d1,d2,d3⟩,_⟩:=hr.ob id _ ho;cases v with
  |nil=>simp[Sl.l]at hlen
  |mk l=>
   have d3:=d3 l rfl;have hlen:m<l.length:=hlen;have eI:jr s.next s.heap ((s.next,some (.ar t (gt l m) 0))::(id,some (.rw t (.mk l) (some (m,s.next))))::s.heap):=jr.trans (au _) (jr.Cy (o':=.rw t (.mk l) (some (m,s.next))) ho ⟨rfl,rfl,rfl⟩) (jr.new _)
   have key:∀{x:TV}{u:fx},fV ((s.next,some (.ar t (gt l m) 0))::(id,some (.rw t (.mk l) (some (m,s.next))))::s.heap) (.so s.next) x->(∀p∈u,p.1=s.next\/p.1=id)->
     aB (u++h1) id=some (.nst (bz t) (eQ t l (some (m,s.next))))->(∀rr,gt l m=.mk rr->aB (u++h1) s.next=some (.aL (bz t) (rr.map (aR t))))->∀{q:Nat},q<=s.next+1->
     qS s (jz (ez s id (some (.rw t (.mk l) (some (m,s.next))))) (.ar t (gt l m) 0)) h1 x u [id] q (.so s.next) [id]:=by
    intro x u hx2 hu hb hb2 q hq;refine qS.EF [s.next,id] hr eI rfl rfl hq (bH _) (fun i hi=>hi) rfl (fun p hp=>?_) (fun i hi=>?_) (fun i hi o ho'=>?_) hx2 (aX _) (fun i hi h=>?_)
    .rcases hu p hp with e|e<;>simp[e]
    .simp only[aM,fZ,or_false,not_or]at hi;simp only[jz,ez];rw[c8,if_neg (fun e=>hi.1 e.symm),c8,if_neg (fun e=>hi.2 e.symm)]
    .simp only[jz,ez]at ho'|-;by_cases hi1:s.next=i
     .subst hi1;rw[c8,if_pos rfl]at ho';obtain rfl:=aa ho';exact⟨aX _,⟨d1,d2,fun rr e=>hb2 rr e⟩,trivial⟩
     .rw [c8,if_neg hi1]at ho';simp only[aM,fZ,or_false]at hi;rcases hi with rfl|rfl
      .exact absurd rfl hi1
      .rw [c8,if_pos rfl]at ho';obtain rfl:=aa ho';refine⟨by omega,⟨d1,d2,fun l' e=>by cases e;exact hb⟩,hlen,aX _,fun u' r' v' hf=>?_⟩;simp only[tJ]at hf;rcases hf with hf|hf<;>cases hf;exact⟨rfl,rfl⟩
    .simp only[jz,ez];rw[c8,if_neg (by omega),c8,if_neg (fun e=>by subst e;rw[ho]at h;cases h)];exact h
   have hs:=Nq (t:=t) hlen;refine⟨_,_,_,hz2,fun cl=>?_⟩;cases hg:gt l m with
   |nil=>
    refine⟨_,[],[id],s.next,?_,key (x:=.c (.d (.lit (.slice none 0 0)))) ?_ (fun p hp=>by simp at hp) ?_ (fun rr e=>by rw[hg]at e;cases e) (bH _)⟩
    .simp only[aD,aV,cN,h_,d3];rw[hg]at hs;simp only[lA,d3,eQ,hs,oL];rfl
    .rw [hg];exact v7
    .rw [br,d3];simp only[eQ,hg,Ik];rw[Ka (by rw[hs,hg];rfl)]
   |mk rr=>
    refine⟨_,[(s.next,some (.aL (bz t) (rr.map (aR t)))),(id,some (.nst (bz t) ((l.map (oL t)).set m (.dX s.next (rr.map (aR t)).length))))],[id],s.next+1,?_,key (x:=.c (.fh (bz t) s.next 0 (rr.map (aR t)).length)) ?_ (fun p hp=>by simp at hp;rcases hp with rfl|rfl<;>simp) ?_ (fun r2 e=>?_) (au _)⟩
    .simp only[aD,aV,cN,h_,d3];rw[hg]at hs;simp only[lA,d3,eQ,hs,oL];rfl
    .rw [hg];exact v7
    .rw [aT,dA,if_neg (by omega),aT,dA,if_pos rfl];simp only[eQ,hg,Ik,aN]
    .rw [hg]at e;cases e;rw[aT,dA,if_pos rfl]
 .simp at hz
theorem KY{szi:Nat}{t:Ty}{q q':IntKind}{a b:Int}(hr:HR s.next h1 s.heap)
  (hz:(bif(bz t==szi)&&Co t then(zE (Sl.nil:Sl (El t)) a b).bind fun r=>k (.sr s.next) (jz s (.rw t (.mk r) none)) []else none)=some z):zA h1 (.AI szi) [tI q a,tI q' b] s k z:=by
 obtain⟨hq,hp2⟩:=aO hz;simp only[ai,beq_iff_eq]at hq;obtain⟨rfl,q2⟩:=hq;obtain⟨hd,hs0⟩:=p7 q2;obtain⟨r,hr2,hz3⟩:=rF hp2;unfold zE at hr2;split at hr2
 .rename_i hb;obtain rfl:=aa hr2;refine .new (aA:=[]) hr hz3 (b:=some (.nst (bz t) (aw a.toNat .nil))) (x:=.c (.fh 1 s.next 0 a.toNat)) (fun _=>?_) ⟨hd,hs0,fun l' e=>by cases e;simp[eQ,oL]⟩ trivial ?_ (aX _) fun i hi=>by simp at hi
  .simp only[aD,aV,cN,cA];rw[if_pos (by simpa[DG]using hb)]
  .refine ci (dR rfl ⟨_,rfl,fun c' hc'=>?_,?_⟩)
   .rw [tJ]at hc';obtain rfl:=aa hc';simp[mj]
   .have:=Bw (sz:=1) (id:=s.next) (e:=aR (.sl t)) (s:=.mk (aw a.toNat (Sl.nil:Sl (El t))));simpa[mj]using this
 .simp at hr2
theorem Fq{o:OP}{vs:List V}{xs:List TV}(hp:part o vs s k=some z)(hr:HR s.next h1 s.heap)(hx:mE s.heap vs xs)(hk:∀w∈vs,eX s.next s.heap w)(ha:∀w∈vs,iq s.heap w=true):zA h1 o.o.k xs s k z:=by
 obtain⟨⟨d,kk,args,g⟩,t,fi⟩:=o;simp only;unfold part at hp;simp only at hp;split at hp
 .--quo
  obtain⟨x,y,rfl,h2,h3⟩:=ja hx;rw[kq h2,kq h3];obtain⟨hq,hp2⟩:=aO hp;simp only[decide_eq_true_eq]at hq;subst hq;obtain⟨r,hr2,hz⟩:=rF hp2;exact .pure hr hz (fun _=>QB hr2) (xi _ _) trivial
 .obtain ⟨x,y,rfl,h2,h3⟩:=ja hx;rw[kq h2,kq h3];obtain⟨hq,hp2⟩:=aO hp;simp only[decide_eq_true_eq]at hq;subst hq;obtain⟨r,hr2,hz⟩:=rF hp2;exact .pure hr hz (fun _=>QA hr2) (xi _ _) trivial
 .obtain ⟨x,y,rfl,h2,h3⟩:=ja hx;rw[kq h2,kq h3];obtain⟨r,hr2,hz⟩:=rF hp;exact .pure hr hz (fun _=>Qz hr2) (xi _ _) trivial
 .obtain ⟨x,y,rfl,h2,h3⟩:=ja hx;rw[kq h2,kq h3];obtain⟨r,hr2,hz⟩:=rF hp;exact .pure hr hz (fun _=>Qy hr2) (xi _ _) trivial
 .obtain ⟨x,y,rfl,h2,h3⟩:=ja hx;rw[wO h2,wO h3];obtain⟨r,hr2,hz⟩:=rF hp;exact .pure hr hz (fun _=>QC hr2) (Rk _) trivial
 .--alloc
  rename_i zl;obtain rfl:=lO hx;obtain⟨hq,hp2⟩:=aO hp;simp only[ai]at hq;obtain⟨q1,q2⟩:=hq;have q1:=qW q1;subst q1;refine .new (aA:=[]) hr hp2 (x:=.c (.op s.next 0)) (fun _=>rfl) ⟨_,rfl,?_,q2⟩ ?_ (ci (dR rfl (by cases t<;>rfl))) ⟨aX _,by cases t<;>trivial⟩ fun i hi=>by simp at hi
  .exact ((xJ (h:=(s.next,some (.bx t (O0 t)))::s.heap) (n:=s.next+1) t).1 q2).1
  .exact ((xJ (h:=(s.next,some (.bx t (O0 t)))::s.heap) (n:=s.next+1) t).1 q2).2
 .--box
  obtain⟨x,rfl,h2⟩:=iM hx;split at hp
  .rename_i w hw;obtain⟨cw,e1,e2⟩:=qx (oK (FC hw) h2);obtain⟨q1,q2,q3,_⟩:=yA hw e1 (hk _ (by simp));refine .new (aA:=[]) hr hp (x:=.c (.op s.next 0)) (fun _=>by simp only[aD,aV,cN,e2]) ⟨_,rfl,lB (jr.new _) q3 q1,q2⟩ (gJ (bH _) (jr.new _) q3) (ci (dR rfl (by cases t<;>rfl))) ⟨aX _,by cases t<;>trivial⟩ fun i hi=>by simp at hi
  .simp at hp
 .exact Eh hp hr hx hk ha
 .--store
  obtain⟨x,y,rfl,h2,h3⟩:=ja hx;exact CF hr h2 (hk _ (by simp)) h3 (hk _ (by simp)) hp
 .--t7
  obtain⟨x,rfl,h2⟩:=iM hx;exact FJ hr h2 (hk _ (by simp)) hp
 .--AI
  obtain⟨x,y,rfl,h2,h3⟩:=ja hx;rw[kq h2,kq h3];split at hp
  .exact KY hr hp
  .simp at hp
 .obtain ⟨x,y,rfl,h2,h3⟩:=ja hx;exact CG hr h2 (hk _ (by simp)) h3 (hk _ (by simp)) (ha _ (by simp)) hp
 .--makeSlice
  rename_i zl _ l _ c;obtain⟨x,y,rfl,h2,h3⟩:=ja hx;rw[kq h2,kq h3];obtain⟨hq,hp2⟩:=aO hp;simp only[ai]at hq;obtain⟨q1,q2⟩:=hq;have q1:=qW q1;subst q1;obtain⟨hd,hs0⟩:=p7 q2;obtain⟨r,hr2,hz⟩:=rF hp2;have hzl:cB (nk t)=aR t (sd t):=(qV t hd).symm;have hlen:(nk t).length=bz t:=by have:=congrArg mC hzl;rwa[bJ,cB,aN]at this
  refine .new hr hz (fun _=>Ol hzl hr2) ⟨hd,hs0,fun l' e=>by cases e;rw[hlen]⟩ trivial ?_ (aX _) fun i hi=>by simp at hi
  rw[hlen];exact v7 (s:=.mk r)
 .--slice of a string
  obtain⟨y,ys,rfl,h2,h3⟩:=gL hx;exact CK hr h2 h3 hp
 .obtain ⟨y,ys,rfl,h2,h3⟩:=gL hx;exact CL hr h2 (hk _ (by simp)) (ha _ (by simp)) h3 hp
 .obtain ⟨x,y,rfl,h2,h3⟩:=ja hx;rw[kq h3];exact Ln hp hr h2 (hk _ (by simp)) (ha _ (by simp))
 .obtain ⟨x,y,rfl,h2,h3⟩:=ja hx;rw[kq h3];exact Lm hp hr h2 (hk _ (by simp))
 .--px
  obtain⟨x,y,rfl,h2,h3⟩:=ja hx;rw[wO h2,kq h3];obtain⟨r,hr2,hz⟩:=rF hp;exact .pure hr hz (fun _=>R_ hr2) (xi _ _) trivial
 .--index
  rename_i ag n0 sz0 n' u v _ i;obtain⟨x,y,rfl,h2,h3⟩:=ja hx;rw[kq h3];obtain⟨hq,hp2⟩:=aO hp;simp only[ai,beq_iff_eq]at hq;obtain⟨⟨⟨⟨rfl,rfl⟩,q3⟩,q4⟩,q5⟩:=hq;obtain⟨m,hm,hz⟩:=rF hp2;obtain⟨rfl,hm2⟩:=gq.1 hm;rw[UH h2];obtain⟨a1,a2⟩:=En v hm2;have hc:Gp s.heap ag (bz u) (.x u (gt v.1 m))=true:=by simp[Gp,sW,xV,iq,q3,q4,q5]
  obtain⟨x,e1,e2⟩:=pu (cs:=(aR (.ar n' u) v).map .d) (off:=m*bz u) (cw:=(aR u (gt v.1 m)).map .d) hc ⟨q4,rfl⟩ (by simpa using a1) (by rw[<-gm,<-gX,a2]);refine .pure hr hz (x:=x) (fun _=>?_) e2 trivial;simp only[aD,aV,cN,cA];rw[if_pos ⟨by omega,by omega⟩];simp only[fP,e1]
 .--append
  obtain⟨x,y,rfl,h2,h3⟩:=ja hx;exact Ep (t0:=t) hp hr h2 (hk _ (by simp)) (ha _ (by simp)) h3 (hk _ (by simp)) (ha _ (by simp))
 .obtain ⟨x,y,rfl,h2,h3⟩:=ja hx;exact Ji (t0:=t) hp hr h2 (hk _ (by simp)) (ha _ (by simp)) h3 (hk _ (by simp)) (ha _ (by simp))
 .--clear
  obtain⟨y,rfl,h2⟩:=iM hx;exact Gm hp hr h2 (hk _ (by simp)) (ha _ (by simp))
 .--makeMap
  obtain rfl:=lO hx;split at hp
  .rename_i kt vt;obtain⟨hq,hp2⟩:=aO hp;simp only[ai,beq_iff_eq]at hq;obtain⟨⟨⟨rfl,rfl⟩,q3⟩,q4⟩:=hq;obtain⟨ks,hks⟩:=Option.isSome_iff_exists.1 q4;exact .new hr hp2 (x:=.c (.om s.next)) (fun _=>rfl) ⟨q3,⟨ks,hks⟩,rfl⟩ trivial (ci (dR rfl rfl)) (aX _) fun i hi=>by simp at hi
  .simp at hp
 .obtain ⟨x,y,rfl,h2,h3⟩:=ja hx;exact Ga hr h2 h3 hp
 .obtain ⟨x,y,w,rfl,h2,h3,h4⟩:=PK hx;rw[kq h3];exact DX hr h2 h4 hp
 .simp at hp
end
end Go.Ev
