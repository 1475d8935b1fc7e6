/- Operations that do not fail, against the abstract machine's, second part. Conditions: as stated. -/
import Derived.Test.YthcplpfiidlinaaDoorFh
open Bool renaming and_eq_true->ai,and_eq_true_iff->dn,eq_iff_iff->du
open Int renaming toNat_natCast->eu
open List renaming append_assoc->aJ,cons_append->aU,drop_drop->dz,flatMap_cons->bi,flatten_cons->er,getElem?_eq_getElem->aw,length->mM,length_append->av,length_cons->da,length_eq_zero_iff->bc,length_map->aO,map->mh,map_append->gO,map_cons->aD,map_drop->gz,map_map->lK,map_nil->aW,map_take->hZ,mem_append->ap,mem_append_left->aE,mem_append_right->aG,mem_cons->aN,mem_cons_of_mem->aC,mem_cons_self->cn,mem_singleton->am,nil_append->bk,not_mem_nil->gj,replicate->az,replicate_succ->iC,singleton_append->aZ
open List.cons renaming injEq->dN
open Nat renaming add_assoc->cO,add_mul->bO,le_of_ble_eq_true->jc,le_refl->au,le_succ->bH,lt_succ_self->aY
open Option.some renaming inj->aa,injEq->bm
open Prod.mk renaming inj->ad
open Sigma.mk renaming inj->jz
namespace Go.Ev
section
variable{h:H2}{n:Nat}{h1:bF}
theorem PY{a b:Value}(he:S9 a b=true):a=b:=by unfold S9 at he;split at he<;>simp_all
theorem rh:∀{a b:List Value},t6 a b=true->a=b:=by
 intro a;induction a with
 |nil=>intro b he;cases b<;>first|rfl|(simp[t6]at he)
 |cons x a ih=>intro b he;cases b with|nil=>simp[t6]at he|cons y b=>simp only[t6,ai]at he;rw[PY he.1,ih he.2]
theorem sP(a b:List Value):fx (a++b)=fx a++fx b:=by simp[fx]
theorem rg:∀(t:Ty),kI t=true->aS t (ss t)=cE (ny t):=by
 intro t;induction t with
 |pr a c iha ihc=>intro hd;simp only[kI,ai]at hd;simp[aS,ss,ny,cE,iha hd.1,ihc hd.2]
 |st t ih=>intro hd;exact ih hd
 |ar m t ih=>intro hd;have e:=ih hd;simp only[aS,ss,ny];clear hd ih;induction m with|zero=>rfl|succ m ihm=>simp only[iC,bi,er,e,cE,gO]at ihm|-;rw[ihm]
 |o k=>intro hd;simp[kI]at hd
 |mp k v=>intro hd;simp[kI]at hd
 |_=>intro _;rfl
theorem xS:∀(t:Ty),(eI (Bx t).1 false t=true->fg h (Bx t).1 (fx (ny t))/\e_ n h (Bx t).1)/\(eI (Bx t).2 true t=true->fg h (Bx t).2 (fx (ny t))/\e_ n h (Bx t).2):=by
 have one:∀(t:Ty)(v:V),(fg h v (fx (ny t))/\e_ n h v)->(fg h (.co v .ni) (fx (ny t))/\e_ n h (.co v .ni)):=fun t v hv=>⟨⟨_,[],by simp,hv.1,rfl⟩,hv.2,trivial⟩;have dt:∀(t:Ty),kI t=true->fg h (.x t (ss t)) (fx (ny t)):=fun t hd=>⟨hd,by rw[rg t hd];simp[fx,cE]⟩;intro t;induction t with
 |pr a c iha ihc=>refine⟨fun hf=>by simp[Bx,eI]at hf,fun hf=>?_⟩;simp only[Bx,eI,ai]at hf;obtain⟨q1,q3⟩:=iha.1 hf.1;obtain⟨q4,q5⟩:=ihc.2 hf.2;exact⟨⟨_,_,sP _ _,q1,q4⟩,q3,q5⟩
 |st t ih=>cases hd:kI t with|true=>have:=dt (.st t) hd;simp only[Bx,hd,cond_true];exact⟨fun _=>⟨this,trivial⟩,fun _=>one (.st t) _ ⟨this,trivial⟩⟩|false=>simp only[Bx,hd,cond_false];exact⟨fun hf=>ih.2 hf,fun hf=>one (.st t) _ (ih.2 hf)⟩
 |sl t ih=>cases hd:kI t with|true=>have:=dt (.sl t) hd;simp only[Bx,hd,cond_true];exact⟨fun _=>⟨this,trivial⟩,fun _=>one (.sl t) _ ⟨this,trivial⟩⟩|false=>simp only[Bx,hd,cond_false];exact⟨fun _=>⟨rfl,trivial⟩,fun _=>one (.sl t) _ ⟨rfl,trivial⟩⟩
 |ar m t ih=>cases hd:kI t with|true=>have:=dt (.ar m t) hd;simp only[Bx,hd,cond_true];exact⟨fun _=>⟨this,trivial⟩,fun _=>one (.ar m t) _ ⟨this,trivial⟩⟩|false=>simp only[Bx,hd,cond_false];exact⟨fun hf=>by simp[eI]at hf,fun hf=>by simp[eI]at hf⟩
 |o k=>
  have:fg h (.nl k) (fx (ny (.o k))):=by
   show fx (ny (.o k))=[DG k]
   rcases k with _|_|_|_|k<;>rfl
  exact⟨fun _=>⟨this,trivial⟩,fun _=>one (.o k) _ ⟨this,trivial⟩⟩
 |mp k v=>exact⟨fun _=>⟨rfl,trivial⟩,fun _=>one (.mp k v) _ ⟨rfl,trivial⟩⟩
 |un=>exact⟨fun _=>⟨dt .un rfl,trivial⟩,fun _=>one .un _ ⟨dt .un rfl,trivial⟩⟩
 |i k=>exact⟨fun _=>⟨dt (.i k) rfl,trivial⟩,fun _=>one (.i k) _ ⟨dt (.i k) rfl,trivial⟩⟩
 |b=>exact⟨fun _=>⟨dt .b rfl,trivial⟩,fun _=>one .b _ ⟨dt .b rfl,trivial⟩⟩
 |s=>exact⟨fun _=>⟨dt .s rfl,trivial⟩,fun _=>one .s _ ⟨dt .s rfl,trivial⟩⟩
 |f k=>exact⟨fun _=>⟨dt (.f k) rfl,trivial⟩,fun _=>one (.f k) _ ⟨dt (.f k) rfl,trivial⟩⟩
theorem yJ{t:Ty}{v w:V}{cs:List C}(hw:Nh t v=some w)(hv:fg h v cs)(hk:e_ n h v):fg h w cs/\eI w false t=true/\e_ n h w/\tj w=tj v:=by
 unfold Nh at hw;split at hw
 .rename_i y hy;obtain rfl:=aa hw;cases hd:kI t with|false=>rw[hd]at hy;simp at hy|true=>rw[hd,cond_true]at hy;exact⟨⟨hd,pM hy hv⟩,by simp[eI],trivial,(EB hy).symm⟩
 .cases hf:eI v false t with|false=>rw[hf]at hw;simp at hw|true=>rw[hf,cond_true]at hw;obtain rfl:=aa hw;exact⟨hv,hf,hk,rfl⟩
theorem MR{t:Ty}{v:V}{y:El t}(hy:ij t v=some y):N3 v:=by cases v<;>first|trivial|(simp[ij]at hy)
theorem OE{t:Ty}{v:V}(hf:eI v false t=true):N3 v:=by cases v<;>first|trivial|(cases t<;>simp[eI]at hf)
theorem FS{t:Ty}{v w:V}(hw:Nh t v=some w):N3 v:=by
 unfold Nh at hw;split at hw
 .rename_i y hy;cases hd:kI t with|false=>rw[hd]at hy;simp at hy|true=>rw[hd,cond_true]at hy;exact MR hy
 .cases hf:eI v false t with|false=>rw[hf]at hw;simp at hw|true=>exact OE hf
theorem QP{t:Ty}{v:V}(hf:eI v false t=true)(ha:nv t=true):tj v=true:=by
 cases t<;>simp[nv]at ha
 all_goals(cases v<;>first|rfl|(simp[eI]at hf;done)|skip)
 .simp only[eI,decide_eq_true_eq]at hf;subst hf;rfl
 .simp only[eI,decide_eq_true_eq]at hf;subst hf;rfl
theorem MV{t:Ty}:∀(is:List Nat)(ps:List (Nat×Nat))(ws:List V)(c c':V)(cs:List C)(xs:List TV),xA t is ps ws c=some c'->eI c false t=true->fg h c cs->e_ n h c->mO h ws xs->(∀w∈ws,e_ n h w)->
  ∃cs',nc cs (ps.zip xs)=some cs'/\fg h c' cs'/\e_ n h c'/\eI c' false t=true:=by
 intro is;induction is with
 |nil=>
  intro ps ws c c' cs xs hb hf hc hk hx hw;cases ps with
  |cons p ps=>simp[xA]at hb
  |nil=>cases ws with|cons w ws=>simp[xA]at hb|nil=>obtain rfl:=aa hb;exact⟨cs,by simp[nc],hc,hk,hf⟩
 |cons i is ih=>
  intro ps ws c c' cs xs hb hf hc hk hx hw;cases ps with
  |nil=>simp[xA]at hb
  |cons p ps=>
   obtain⟨off,m⟩:=p;cases ws with
   |nil=>simp[xA]at hb
   |cons w ws=>
    obtain⟨x,ys,rfl,hx1,hx2⟩:=gT hx;have hw1:=hw w (by simp)
    have kJ:∀(pe:Pe)(a:Ty),re t [pe]=some a->IR t [pe]->mT t [pe]=off->bA a=m->(match Nh a w with|some w=>(match oG c [pe] w with|some c=>bif eI c false t then xA t is ps ws c else none|none=>none)|none=>none)=some c'->
      ∃cs',nc cs (((off,m),x)::ps.zip ys)=some cs'/\fg h c' cs'/\e_ n h c'/\eI c' false t=true:=by
     intro pe a h1 h2 h3 h4 hb;split at hb
     .rename_i w1 hw1';obtain⟨cw,q1,q2⟩:=qH (oU (FS hw1') hx1);split at hb
      .rename_i c1 hc1;cases hfc:eI c1 false t with|false=>rw[hfc]at hb;simp at hb|true=>rw[hfc,cond_true]at hb;obtain⟨k1,k2,k3,_⟩:=yJ hw1' q1 hw1;have hl:=iB k1;rw[gV _ _ _ k2,h4]at hl;have hsp:=vZ [pe] c t w1 c1 cs cw a hf hc h2 hc1 h1 k1 (by rw[hl,h4]);rw[h3]at hsp;have hle:=wi [pe] t a h1 h2;have hcl:=iB hc;rw[gV _ _ _ hf]at hcl;obtain⟨cs',e1,e2,e3,e4⟩:=ih ps ws c1 c' _ ys hb hfc hsp (G6 _ _ _ _ hk k3 hc1) hx2 fun w hw'=>hw w (by simp[hw']);refine⟨cs',?_,e2,e3,e4⟩;simp only[nc,q2];rw[if_pos ⟨hl,by omega⟩,e1]
      .simp at hb
     .simp at hb
    cases t with
    |st u=>
     simp only[xA]at hb;split at hb
     .rename_i a ha;cases hq:(o5 u i==off)&&(bA a==m)with|false=>rw[hq]at hb;simp at hb|true=>rw[hq,cond_true]at hb;simp only[ai,beq_iff_eq]at hq;exact kJ (.fd i) a (by simp[re,ha]) ⟨a,ha,by cases a<;>trivial⟩ (by simp only[mT,ha];rw[hq.1];cases a<;>rfl) hq.2 hb
     .simp at hb
    |ar k u=>simp only[xA]at hb;cases hq:(i*bA u==off)&&(bA u==m)&&decide (i<k)with|false=>rw[hq]at hb;simp at hb|true=>rw[hq,cond_true]at hb;simp only[ai,beq_iff_eq,decide_eq_true_eq]at hq;exact kJ (.ix i) u (by simp[re]) ⟨hq.2,by cases u<;>trivial⟩ (by simp only[mT];rw[hq.1.1];cases u<;>rfl) hq.1.2 hb
    |_=>simp[xA]at hb
end
theorem Rj(a b:ByteArray):(a==b)=decide (a=b):=by obtain⟨x⟩:=a;obtain⟨y⟩:=b;show ByteArray.beq ⟨x⟩ ⟨y⟩=_;unfold ByteArray.beq;rw[du];simp[ByteArray.ext_iff]
def vO(t:Ty)(x:El t):List Value:=(aS t x).map fun|.lit y=>y|_=>.nilFunc
theorem xg{k1 k2:List Kd}{a1 a2 b1 b2:List Value}{p q:Bool}(h1:gJ k1 a1 b1=some p)(h2:gJ k2 a2 b2=some q):gJ (k1++k2) (a1++a2) (b1++b2)=some (p&&q):=by
 induction k1 generalizing a1 b1 p with
 |nil=>cases a1<;>cases b1<;>simp[gJ]at h1;subst h1;simpa using h2
 |cons k k1 ih=>
  cases a1<;>cases b1<;>simp only[gJ]at h1<;>first|cases h1;done|skip
  split at h1
  .rename_i c d hc hd;obtain rfl:=aa h1;simp only[aU,gJ,hc,ih hd,Bool.and_assoc]
  .simp at h1
theorem yZ{k1 k2:List Kd}{a1 a2:List Value}(h1:zQ k1 a1=true)(h2:zQ k2 a2=true):zQ (k1++k2) (a1++a2)=true:=by
 induction k1 generalizing a1 with
 |nil=>cases a1<;>simp[zQ]at h1;simpa using h2
 |cons k k1 ih=>
  cases a1<;>simp only[zQ]at h1<;>first|cases h1;done|skip
  simp only[ai]at h1;simp[zQ,h1.1,ih h1.2]
theorem xL:∀(t:Ty)(ks:List Kd),D3 t=some ks->(∀x,aS t x=(vO t x).map .lit)/\(∀x,zQ ks (vO t x)=true)/\(∀a b:El t,gJ ks (vO t a) (vO t b)=some (decide (a=b)))/\ks.length=bA t:=by
 intro t;induction t with
 |pr a c iha ihc=>
  intro ks hk;simp only[D3]at hk;split at hk
  .rename_i x y hx hy;obtain rfl:=aa hk;obtain⟨a1,a2,a3,a4⟩:=iha x hx;obtain⟨c1,c2,c3,c4⟩:=ihc y hy;have e:∀v:El (.pr a c),vO (.pr a c) v=vO a v.1++vO c v.2:=fun v=>by simp[vO,aS]
   refine⟨fun v=>by rw[e,gO,<-a1,<-c1];rfl,fun v=>by rw[e];exact yZ (a2 _) (c2 _),fun u v=>?_,by simp[bA,a4,c4]⟩;rw[e,e,xg (a3 _ _) (c3 _ _)];congr 1;rw[du];simp[Prod.ext_iff]
  .simp at hk
 |st t ih=>intro ks hk;exact ih ks hk
 |ar m t ih=>
  intro ks hk;simp only[D3]at hk;split at hk
  .rename_i x hx;obtain rfl:=aa hk;obtain⟨a1,a2,a3,a4⟩:=ih x hx;have e:∀v:El (.ar m t),vO (.ar m t) v=v.1.flatMap (vO t):=fun v=>by simp only[vO,aS,List.map_flatMap];rfl
   refine⟨fun v=>?_,fun v=>?_,fun u v=>?_,?_⟩
   .rw [e];simp only[aS,List.map_flatMap];congr 1;funext y;exact a1 y
   .rw [e];obtain⟨l,hl⟩:=v;clear e hk ih;simp only;induction l generalizing m with|nil=>subst hl;rfl|cons y l ihl=>subst hl;simp only[da,iC,er,bi];exact yZ (a2 y) (ihl _ rfl)
   .rw [e,e];obtain⟨l,hl⟩:=u;obtain⟨r,hr⟩:=v
    have key:∀(m:Nat)(l r:List (El t)),l.length=m->r.length=m->gJ (az m x).flatten (l.flatMap (vO t)) (r.flatMap (vO t))=some (decide (l=r)):=by
     intro m;induction m with
     |zero=>intro l r h1 h2;obtain rfl:=bc.1 h1;obtain rfl:=bc.1 h2;rfl
     |succ m ihm=>
      intro l r h1 h2;cases l with
      |nil=>simp at h1
      |cons y l=>cases r with|nil=>simp at h2|cons z r=>simp only[iC,er,bi];rw[xg (a3 y z) (ihm l r (by simpa using h1) (by simpa using h2))];congr 1;rw[du];simp
    rw[key m l r hl hr];congr 1;rw[du];simp only[decide_eq_true_eq];exact⟨fun h=>Subtype.ext h,fun h=>congrArg Subtype.val h⟩
   .simp [bA,a4]
  .simp at hk
 |i k=>intro ks hk;obtain rfl:=aa hk;refine⟨fun _=>rfl,fun x=>by simp[vO,aS,zQ,LG],fun a b=>?_,rfl⟩;simp only[vO,aS,aD,aW,gJ,EX,and_self,if_true,Bool.and_true];congr 1
 |b=>intro ks hk;obtain rfl:=aa hk;refine⟨fun _=>rfl,fun x=>by simp[vO,aS,zQ,LG],fun a b=>?_,rfl⟩;simp only[vO,aS,aD,aW,gJ,EX,Bool.and_true];congr 1
 |s=>intro ks hk;obtain rfl:=aa hk;refine⟨fun _=>rfl,fun x=>by simp[vO,aS,zQ,LG],fun a b=>?_,rfl⟩;simp only[vO,aS,aD,aW,gJ,EX,Bool.and_true];rw[Rj]
 |_=>intro ks hk;simp[D3]at hk
section
variable{h:H2}{n:Nat}{h1:bF}
theorem JS{z:Bool}{op:BinOp}{k k':IntKind}{a b:Int}{v:V}(hb:Ri z op k k' a b=some v)(hz:z=true->0<b):∃y,sn op (.int k a) (.int k' b)=some y/\gb h v (lv y)/\e_ n h v:=by
 have one:∀(q:IntKind)(c:Int),gb h (.x (.i q) c) (lv (.int q c)):=fun q c=>cq (dV rfl ⟨rfl,rfl⟩);have onb:∀(c:Bool),gb h (.x .b c) (lv (.bool c)):=fun c=>cq (dV rfl ⟨rfl,rfl⟩);cases op<;>simp only[Ri]at hb
 all_goals first
  |(cases z<;>simp only[cond_true,cond_false]at hb<;>first|(cases hb;done)|skip
    have:=hz rfl;obtain rfl:=aa hb;refine⟨_,by simp only[sn];rw[if_neg (by omega)];rfl,one _ _,trivial⟩)
  |skip
 all_goals
  by_cases hk:k=k'
  .subst hk;simp only[decide_true,cond_true]at hb
   first
    |(cases hb;done)
    |(obtain rfl:=aa hb
      refine⟨_,by simp only[sn,if_true];rfl,?_,trivial⟩
      first|exact one _ _|exact onb _)
    |(obtain rfl:=aa hb
      first
       |exact⟨.int k (JW k a b),by simp only[sn,if_true,xR];rfl,one _ _,trivial⟩
       |exact⟨.int k (RM k a b),by simp only[sn,if_true,Cn];rfl,one _ _,trivial⟩
       |exact⟨.int k (Rk k a b),by simp only[sn,if_true,OZ];rfl,one _ _,trivial⟩
       |exact⟨.int k (rP k a b),by simp only[sn,if_true,uT];rfl,one _ _,trivial⟩)
    |(cases z<;>simp only[cond_true,cond_false]at hb<;>first|(cases hb;done)|skip
      have:=hz rfl;obtain rfl:=aa hb;refine⟨_,by simp only[sn,if_true];rw[if_neg (by omega)],one _ _,trivial⟩)
  .simp [hk]at hb
theorem JR{op:BinOp}{a b:ByteArray}{v:V}(hb:Rh op a b=some v):∃y,sn op (.string a) (.string b)=some y/\gb h v (lv y)/\e_ n h v:=by
 have onb:∀(c:Bool),gb h (.x .b c) (lv (.bool c)):=fun c=>cq (dV rfl ⟨rfl,rfl⟩);cases op<;>simp only[Rh]at hb<;>first|(cases hb;done)|skip
 all_goals(obtain rfl:=aa hb;exact⟨_,rfl,onb _,trivial⟩)
theorem Li{m:Bool}{k:IntKind}:∀{r:List V}{x y:Int}{xs:List TV},RK m k x r=some y->mO h r xs->Pt m (.int k x) (xs.map some)=some (.int k y):=by
 intro r;induction r with
 |nil=>intro x y xs hm hx;obtain rfl:=lU hx;obtain rfl:=aa hm;rfl
 |cons v r ih=>
  intro x y xs hm hx;obtain⟨x1,ys,rfl,h1,h2⟩:=gT hx;cases v with
  |x t c=>
   cases t with
   |i k'=>
    simp only[RK]at hm;by_cases hk:k'=k
    .subst hk;simp only[decide_true,cond_true]at hm;obtain rfl:=ky h1;have:=ih hm h2;cases m<;>simpa[Pt,SY]using this
    .simp [hk]at hm
   |_=>simp[RK]at hm
  |_=>simp[RK]at hm
theorem nn{α:Type}:∀(l:List α),eJ (l.map some)=some l:=by intro l;induction l with|nil=>rfl|cons a l ih=>simp[eJ,ih]
theorem K9{kind:Nat}{v w:V}{x:TV}{neg:Bool}{c:Call}{nx:Nat}(hx:gb h v x)(ha:iw h v=true)(hn:yM h kind v=some w):
  ∃y,cP c (.qV kind neg) [some x] h1 nx=some (y,[],[],nx)/\gb h (bif neg then La w else w) y/\e_ n h (bif neg then La w else w):=by
 have kb:∀b,gb h (.kb b) (tB b):=fun b=>cq (dV rfl rfl);have xb:∀b,gb h (.x .b b) (tB b):=fun b=>cq (dV rfl ⟨rfl,rfl⟩)
 have sl:∀q,t8 h v=some q->(bif kind==0 then(match t8 h v with|some ⟨_,s,_⟩=>some (.x .b s.fP)|none=>none)else none)=some w->
   ∃y,cP c (.qV kind neg) [some x] h1 nx=some (y,[],[],nx)/\gb h (bif neg then La w else w) y/\e_ n h (bif neg then La w else w):=by
  intro q hq hw;cases hkk:kind==0 with
  |false=>rw[hkk]at hw;simp at hw
  |true=>
   obtain rfl:kind=0:=by simpa using hkk
   rw[hq]at hw;simp only[hkk,cond_true]at hw;obtain rfl:=aa hw;refine⟨_,Qw hx ha hq,?_⟩;cases neg
   .exact ⟨xb _,trivial⟩
   .exact ⟨xb _,trivial⟩
 cases v with
 |nl k=>
  simp only[yM]at hn;cases hkk:(k==kind)&&Nat.blt k 3 with
  |false=>rw[hkk]at hn;simp at hn
  |true=>
   rw[hkk,cond_true]at hn;obtain rfl:=aa hn;simp only[ai,beq_iff_eq]at hkk;obtain⟨rfl,hlt⟩:=hkk;have hlt:k<3:=jc hlt;rw[vU hx]
   match k,hlt with|0,_=>cases neg<;>exact⟨_,rfl,kb _,trivial⟩|1,_=>cases neg<;>exact⟨_,rfl,kb _,trivial⟩|2,_=>cases neg<;>exact⟨_,rfl,kb _,trivial⟩
 |pt t v=>
  simp only[yM]at hn;cases hkk:kind==1 with
  |false=>rw[hkk]at hn;simp at hn
  |true=>
   rw[hkk,cond_true]at hn;obtain rfl:=aa hn;obtain rfl:kind=1:=by simpa using hkk
   rw[(xZ hx).2];cases neg<;>exact⟨_,rfl,kb _,trivial⟩
 |op id t p=>
  simp only[yM]at hn;cases hkk:kind==1 with
  |false=>rw[hkk]at hn;simp at hn
  |true=>
   rw[hkk,cond_true]at hn;obtain rfl:=aa hn;obtain rfl:kind=1:=by simpa using hkk
   rw[vT hx];cases neg<;>exact⟨_,rfl,kb _,trivial⟩
 |ep id m t p=>
  simp only[yM]at hn;cases hkk:kind==1 with
  |false=>rw[hkk]at hn;simp at hn
  |true=>
   rw[hkk,cond_true]at hn;obtain rfl:=aa hn;obtain rfl:kind=1:=by simpa using hkk
   rw[sC hx];cases neg<;>exact⟨_,rfl,kb _,trivial⟩
 |fn z f l=>
  simp only[yM]at hn;cases hkk:kind==2 with
  |false=>rw[hkk]at hn;simp at hn
  |true=>
   rw[hkk,cond_true]at hn;obtain rfl:=aa hn;obtain rfl:kind=2:=by simpa using hkk
   rcases E3 hx with⟨_,ds,_,rfl⟩|⟨_,cs,_,rfl⟩<;>(cases neg<;>exact⟨_,rfl,kb _,trivial⟩)
 |x t v=>cases hq:t8 h (.x t v)with|none=>simp[yM,hq]at hn|some q=>exact sl q hq hn
 |so id=>cases hq:t8 h (.so id)with|none=>simp[yM,hq]at hn|some q=>exact sl q hq hn
 |sb id ver lo t r=>cases hq:t8 h (.sb id ver lo t r)with|none=>simp[yM,hq]at hn|some q=>exact sl q hq hn
 |_=>simp[yM,t8]at hn
theorem Md{off m i:Nat}{v w:V}{x:TV}{c:Call}{nx:Nat}(hx:gb h v x)(hk:e_ n h v)(hw:Gp off m i v=some w):
  ∃y,cP c (.fieldAddr off m) [some x] h1 nx=some (y,[],[],nx)/\gb h w y/\e_ n h w:=by
 have N4:∀(t u a:Ty)(p:pX),re t p=some (.st u)->CG u i=some a->IR t p->IR t (p++[.fd i])/\mT t (p++[.fd i])=mT t p+o5 u i:=by
  intro t u a p;induction p generalizing t with
  |nil=>
   intro h1 h2 _;have e:re t []=some t:=by cases t<;>rfl
   obtain rfl:t=.st u:=by rw[e]at h1;exact aa h1
   refine⟨⟨a,h2,by cases a<;>trivial⟩,?_⟩;simp only[bk,mT,h2];cases a<;>simp[mT]
  |cons q p ih=>
   intro h1 h2 h3;cases q with
   |fd j=>cases t with|st t=>obtain⟨b2,hb,h3⟩:=h3;simp only[re,hb]at h1;obtain⟨q1,q2⟩:=ih b2 h1 h2 h3;refine⟨⟨b2,hb,q1⟩,?_⟩;simp only[aU,mT,hb,q2];exact(cO _ _ _).symm|_=>exact h3.elim
   |ix k=>cases t with|ar l t=>obtain⟨hk,h3⟩:=h3;obtain⟨q1,q2⟩:=ih t h1 h2 h3;refine⟨⟨hk,q1⟩,?_⟩;simp only[aU,mT,q2];exact(cO _ _ _).symm|_=>exact h3.elim
 cases v with
 |op id t p=>
  simp only[Gp]at hw;split at hw
  .rename_i u hu;split at hw
   .rename_i a hf;cases hq:(o5 u i==off)&&(bA a==m)with
    |false=>rw[hq]at hw;simp at hw
    |true=>
     rw[hq,cond_true]at hw;obtain rfl:=aa hw;simp only[ai,beq_iff_eq]at hq;obtain⟨q1,q2⟩:=N4 t u a p hu hf hk.2;rw[vT hx];refine⟨_,rfl,cq (dV rfl ?_),hk.1,q1⟩;show[_]=[_]
     rw[q2,hq.1]
   .simp at hw
  .simp at hw
 |ep id k t p=>
  simp only[Gp]at hw;split at hw
  .rename_i u hu;split at hw
   .rename_i a hf;cases hq:(o5 u i==off)&&(bA a==m)with
    |false=>rw[hq]at hw;simp at hw
    |true=>
     rw[hq,cond_true]at hw;obtain rfl:=aa hw;simp only[ai,beq_iff_eq]at hq;obtain⟨q1,q2⟩:=N4 t u a p hu hf hk.2.1;rw[sC hx];refine⟨_,rfl,cq (dV rfl ?_),hk.1,q1,hk.2.2⟩;show[_]=[_]
     rw[q2,hq.1]
   .simp at hw
  .simp at hw
 |pt t v=>
  cases t with
  |st u=>
   simp only[Gp]at hw;split at hw
   .rename_i a y hy;cases hq:(o5 u i==off)&&(bA a==m)with
    |false=>rw[hq]at hw;simp at hw
    |true=>
     rw[hq,cond_true]at hw;obtain rfl:=aa hw;simp only[ai,beq_iff_eq]at hq;obtain⟨a',y',e,f1,f2,f3⟩:=qS _ _ _ _ hy;cases e;obtain⟨hd,rfl⟩:=xZ hx;refine⟨_,?_,cq (dV (c:=.d (.pt (aS a y))) rfl ⟨zu u _ _ hd f1,rfl⟩),trivial⟩;have hle:off+m<=(aS (.st u) v).length:=by rw[bJ];show _<=bA u;omega
     have e2:((aS (.st u) v).drop off).take m=aS a y:=by rw[<-hq.1,<-hq.2];exact f3
     simp only[cP,kh];rw[if_pos hle,e2]
   .simp at hw
  |_=>simp[Gp]at hw
 |_=>simp[Gp]at hw
theorem IT:∀(l:V)(i:Nat)(w:V)(cs:List C),fg h l cs->sg l i=some w->∃cw,fg h w cw/\OB l i+x_ w<=cs.length/\(cs.drop (OB l i)).take (x_ w)=cw:=by
 intro l;induction l with
 |co a r iha ihr=>intro i w cs hv hw;obtain⟨x,y,rfl,k1,k2⟩:=hv;have hl:=iB k1;cases i with|zero=>obtain rfl:=aa hw;refine⟨x,k1,by simp[OB];omega,?_⟩;simp only[OB,List.drop_zero];rw[<-hl,List.take_left]|succ i=>obtain⟨cw,q1,q2,q3⟩:=ihr i w y k2 hw;refine⟨cw,q1,by simp only[OB,av];omega,?_⟩;simp only[OB];rw[<-dz,<-hl,List.drop_left,q3]
 |_=>intro i w cs hv hw;simp[sg]at hw
theorem Od:∀(l:V)(i:Nat)(w:V)(xs:List TV),BA h l xs->sg l i=some w->∃x,xs[i]?=some x/\sD h w x:=by
 intro l;induction l with
 |co a r iha ihr=>intro i w xs hv hw;obtain⟨x,ys,rfl,k1,k2⟩:=hv;cases i with|zero=>obtain rfl:=aa hw;exact⟨x,rfl,k1⟩|succ i=>exact ihr i w ys k2 hw
 |_=>intro i w xs hv hw;simp[sg]at hw
end
section
variable{h:H2}{n:Nat}{h1:bF}
def Rw(h:H2)(n:Nat)(h1:bF)(k:K)(xs:List TV)(v:V)(l:List Nat):Prop:=∀(c:Call)(nx:Nat),∃x aA,cP c k (xs.map some) h1 nx=some (x,[],aA,nx)/\gb h v x/\e_ n h v/\∀i∈aA,i∈l
theorem Rw.of{k:K}{xs:List TV}{v:V}{x:TV}(he:∀(c:Call)(nx:Nat),cP c k (xs.map some) h1 nx=some (x,[],[],nx))(hx:gb h v x)(hk:e_ n h v):Rw h n h1 k xs v []:=fun c nx=>⟨x,[],he c nx,hx,hk,fun i hi=>by simp at hi⟩
theorem xb(b:Bool):gb h (.x .b b) (tB b):=cq (dV rfl ⟨rfl,rfl⟩)
theorem xi(k:IntKind)(a:Int):gb h (.x (.i k) a) (tI k a):=cq (dV rfl ⟨rfl,rfl⟩)
theorem RE(a:ByteArray):gb h (.x .s a) (.c (.d (dS a))):=cq (dV rfl ⟨rfl,rfl⟩)
def RF(t:Ty)(y:El t):TV:=if nv t=true then .agg ((aS t y).map .d)else match aS t y with|d::_=>.c (.d d)|[]=>.iR []
theorem G1{t:Ty}(y:El t){va:Bool}(hv:nv t=va)(h1:(va||bA t==1)=true):po va (aS t y)=some (RF t y):=by
 subst hv;unfold po RF;cases ha:nv t with
 |true=>rfl
 |false=>
  rw[ha]at h1;have:=bJ t y;rw[show bA t=1 by simpa using h1]at this;cases he:aS t y with
  |nil=>rw[he]at this;simp at this
  |cons d r=>
   rw[he]at this;have:r=[]:=by simpa using this
   subst this;rfl
theorem Ke{t:Ty}{y:El t}(hd:kI t=true)(h1:(nv t||bA t==1)=true):sD h (.x t y) (RF t y):=by
 unfold RF;cases ha:nv t with
 |true=>exact x5 ha ⟨hd,rfl⟩
 |false=>
  rw[ha]at h1;have:=bJ t y;rw[show bA t=1 by simpa using h1]at this;cases he:aS t y with
  |nil=>rw[he]at this;simp at this
  |cons d r=>
   rw[he]at this;have:r=[]:=by simpa using this
   subst this;exact dV ha ⟨hd,by rw[he];rfl⟩
theorem JZ(f:TV->Option C)(hf:∀c,f (.c c)=some c):∀(cs:List C),eJ ((cs.map TV.c).map f)=some cs:=by intro cs;induction cs with|nil=>rfl|cons c cs ih=>simp only[aD,hf,eJ,ih]
theorem yU:∀(l:List Value),lP (l.map fun v=>C.d (.lit v))=some l:=by intro l;induction l with|nil=>rfl|cons v l ih=>simp[lP,ih]
theorem D0{kt:Ty}{ks:List Kd}{v:V}{x:TV}{y:El kt}{ka:Bool}(hx:gb h v x)(hc:tW kt v=some y)(hk:D3 kt=some ks)(ha:nv kt=ka):oZ ka ks x=some (vO kt y):=by
 obtain⟨h1,h2,_,h4⟩:=xL kt ks hk;obtain⟨g1,g2⟩:=vD hx hc;cases ka with
 |true=>
  rw[g1 ha];have e:(aS kt y).map C.d=(vO kt y).map fun v=>C.d (.lit v):=by rw[h1 y,lK];rfl
  simp only[oZ];rw[if_pos ⟨trivial,by rw[aO,bJ,h4]⟩,e,yU];simp only[h2 y,if_true]
 |false=>
  obtain⟨d,hd,rfl⟩:=g2 ha;have hl:=bJ kt y;rw[hd]at hl;have h5:=h1 y;rw[hd]at h5;cases hv:vO kt y with
  |nil=>rw[hv]at h5;simp at h5
  |cons q r=>
   rw[hv]at h5;simp only[aD,dN]at h5;obtain⟨rfl,h6⟩:=h5;have:r=[]:=by simpa using h6.symm
   subst this;simp only[oZ];rw[if_pos ⟨trivial,by rw[h4,<-hl];rfl⟩];have h7:=h2 y;rw[hv]at h7;simp only[lP,h7,if_true]
theorem Ln{v:V}{q:(k:Ty)×(v:Ty)×Mp (El k) (El v)×List Nat}{x:TV}(hr:HR n h1 h)(hm:Ol h v=some q)(hx:gb h v x):
  ∃id,v=.om id/\x=.c (.om id)/\q.2.2.2=[id]/\fO h id=some (.mp q.1 q.2.1 q.2.2.1)/\aB h1 id=EV (nv q.1) (nv q.2.1) (vO q.1) (aS q.2.1) q.2.2.1:=by
 cases v with
 |om id=>
  simp only[Ol]at hm;split at hm
  .rename_i k v m ho;obtain rfl:=aa hm;exact⟨id,rfl,E2 hx,rfl,ho,(hr.ob id _ ho).2.1.2.2⟩
  .simp at hm
 |_=>simp[Ol]at hm
theorem Lq{c:Call}{x y:TV}{H:bF}{l:List Nat}{nx:Nat}(h:cP c (.load false 1) [some x] H nx=some (y,[],l,nx)):cP c .uf [some x] H nx=some (y,[],l,nx):=by
 cases x with
 |c p=>
  have h:(match ie false 1 p H with|some (v,aA)=>some (v,([]:fC),aA,nx)|none=>none)=some (y,[],l,nx):=h;show(match ie false 1 p H with|some (v,aA)=>some (v,([]:fC),aA,nx)|none=>lE false 1 p H nx)=some (y,[],l,nx);split at h
  .exact h
  .cases h
 |_=>cases h
theorem H7{o:OP}{vs:List V}{v:V}{l:List Nat}{xs:List TV}(hr:HR n h1 h)(ht:P4 o vs h=some (v,l))(hx:mO h vs xs)(hk:∀w∈vs,e_ n h w)(ha:∀w∈vs,iw h w=true)
  (hp:N1 o.o.args=true->∀a k b,vs=[a,.x (.i k) b]->0<b):Rw h n h1 o.o.k xs v l:=by
 obtain⟨⟨d,k,args,g⟩,t,fi⟩:=o;simp only at hp|-;unfold P4 at ht;simp only at ht;split at ht
 .--mv
  obtain⟨rfl,rfl⟩:=ad (aa ht);obtain⟨x,rfl,h2⟩:=iQ hx;exact .of (fun _ _=>rfl) h2 (hk _ (by simp))
 .--nilCheck
  obtain⟨x,rfl,h2⟩:=iQ hx;have hk1:=hk _ (am.2 rfl);split at ht
  .obtain ⟨rfl,rfl⟩:=ad (aa ht);exact .of (fun _ _=>by rw[(xZ h2).2];rfl) h2 hk1
  .obtain ⟨rfl,rfl⟩:=ad (aa ht);refine .of (fun _ _=>?_) h2 hk1;rcases E3 h2 with⟨_,ds,_,rfl⟩|⟨_,cs,_,rfl⟩<;>rfl
  .obtain ⟨rfl,rfl⟩:=ad (aa ht);exact .of (fun _ _=>by rw[sC h2];rfl) h2 hk1
  .obtain ⟨rfl,rfl⟩:=ad (aa ht);exact .of (fun _ _=>by rw[vT h2];rfl) h2 hk1
  .simp at ht
 .--Ap int
  rename_i op q a q' b;obtain⟨x,y,rfl,h2,h3⟩:=jh hx;obtain rfl:=ky h2;obtain rfl:=ky h3;split at ht
  .rename_i w hw;obtain⟨rfl,rfl⟩:=ad (aa ht);obtain⟨y,h4,h5,h6⟩:=JS (h:=h) (n:=n) hw fun hz=>hp hz _ _ _ rfl;exact .of (fun _ _=>by simp only[mh,cP,h4]) h5 h6
  .simp at ht
 .--Ap string
  obtain⟨x,y,rfl,h2,h3⟩:=jh hx;obtain rfl:=wW h2;obtain rfl:=wW h3;split at ht
  .rename_i w hw;obtain⟨rfl,rfl⟩:=ad (aa ht);obtain⟨y,h4,h5,h6⟩:=JR (h:=h) (n:=n) hw;exact .of (fun _ _=>by simp only[mh,cP,h4]) h5 h6
  .simp at ht
 .--uP
  rename_i neg v1 v2;obtain⟨x,y,rfl,h2,h3⟩:=jh hx;split at ht
  .rename_i a b ha' hb';obtain⟨rfl,rfl⟩:=ad (aa ht);rw[PD h2 ha',PD h3 hb'];refine .of (x:=tB (bif neg then !(a==b)else a==b)) (fun _ _=>?_) (xb _) trivial;cases neg<;>rfl
  .simp at ht
 .--qV
  obtain⟨x,rfl,h2⟩:=iQ hx;split at ht
  .rename_i w hw;obtain⟨rfl,rfl⟩:=ad (aa ht);intro c nx;obtain⟨y,h4,h5,h6⟩:=K9 (n:=n) (h1:=h1) (c:=c) (nx:=nx) h2 (ha _ (by simp)) hw;exact⟨y,[],h4,h5,h6,fun i hi=>by simp at hi⟩
  .simp at ht
 .--zp
  rename_i neg ks t1 a w;obtain⟨x,y,rfl,h2,h3⟩:=jh hx;split at ht
  .rename_i b hb;cases hq:nv t1&&decide (D3 t1=some ks)with
   |false=>rw[hq]at ht;simp at ht
   |true=>
    rw[hq,cond_true]at ht;obtain⟨rfl,rfl⟩:=ad (aa ht);simp only[ai,decide_eq_true_eq]at hq;obtain⟨k1,k2,k3,k4⟩:=xL t1 ks hq.2;have e1:=(vD (v:=.x t1 a) (u:=t1) (y:=a) h2 (by simp[tW,kS,ij,gM])).1 hq.1;have e2:=(vD h3 hb).1 hq.1;have el:∀z:El t1,lP ((aS t1 z).map C.d)=some (vO t1 z):=fun z=>by rw[show(aS t1 z).map C.d=(vO t1 z).map fun v=>C.d (.lit v)by rw[k1 z,lK];rfl,yU]
    rw[e1,e2];refine .of (x:=tB (bif neg then !(decide (a=b))else decide (a=b))) (fun _ _=>?_) (xb _) trivial;simp only[mh,cP,el,k3];cases neg<;>rfl
  .simp at ht
 .obtain ⟨rfl,rfl⟩:=ad (aa ht);obtain⟨x,rfl,h2⟩:=iQ hx;rw[vV h2];exact .of (fun _ _=>rfl) (cq (dV rfl rfl)) trivial
 .obtain ⟨rfl,rfl⟩:=ad (aa ht);obtain⟨x,rfl,h2⟩:=iQ hx;rw[G3 h2];exact .of (fun _ _=>rfl) (xb _) trivial
 .obtain ⟨rfl,rfl⟩:=ad (aa ht);obtain⟨x,rfl,h2⟩:=iQ hx;rw[ky h2];exact .of (fun _ _=>rfl) (xi _ _) trivial
 .obtain ⟨rfl,rfl⟩:=ad (aa ht);obtain⟨x,rfl,h2⟩:=iQ hx;rw[ky h2];exact .of (fun _ _=>rfl) (xi _ _) trivial
 .obtain ⟨rfl,rfl⟩:=ad (aa ht);obtain⟨x,rfl,h2⟩:=iQ hx;rw[ky h2];exact .of (fun _ _=>rfl) (xi _ _) trivial
 .obtain ⟨rfl,rfl⟩:=ad (aa ht);obtain⟨x,rfl,h2⟩:=iQ hx;rw[wW h2];exact .of (fun _ _=>rfl) (RE _) trivial
 .--I0
  rename_i f;cases hc:vs.all OW with
  |false=>rw[hc]at ht;simp at ht
  |true=>
   rw[hc,cond_true]at ht;obtain⟨rfl,rfl⟩:=ad (aa ht);obtain⟨cs,h2,rfl⟩:=Kf hx fun w hw=>by have:=List.all_eq_true.1 hc w hw;cases w<;>first|exact⟨trivial,by simp[OW]at this;exact this⟩|simp[OW]at this
   refine .of (x:=.c (.oX f cs)) (fun _ _=>?_) (cq (dV rfl ⟨cs,h2,rfl⟩)) ?_
   .simp only[cP,nn];rw[JZ _ fun _=>rfl]
   .clear ht h2 hp ha hc hx;induction vs with|nil=>trivial|cons w vs ih=>exact⟨hk w (by simp),ih fun u hu=>hk u (by simp[hu])⟩
 .--load
  rename_i g m p;obtain⟨x,rfl,h2⟩:=iQ hx;split at ht
  .rename_i w l' hl;cases hc:GI h g m w with|false=>rw[hc]at ht;simp at ht|true=>rw[hc,cond_true]at ht;obtain⟨rfl,rfl⟩:=ad (aa ht);intro c nx;obtain⟨y,h3,h4,h5⟩:=wn (c:=c) (nx:=nx) hr hl hc h2 (hk _ (by simp));exact⟨y,_,h3,h4,h5,fun i hi=>hi⟩
  .simp at ht
 .--load of a slice
  obtain⟨x,rfl,h2⟩:=iQ hx;split at ht
  .rename_i w l' hl;cases hc:GI h false 1 w with|false=>rw[hc]at ht;simp at ht|true=>rw[hc,cond_true]at ht;obtain⟨rfl,rfl⟩:=ad (aa ht);intro c nx;obtain⟨y,h3,h4,h5⟩:=wn (c:=c) (nx:=nx) hr hl hc h2 (hk _ (by simp));exact⟨y,_,Lq h3,h4,h5,fun i hi=>hi⟩
  .simp at ht
 .--fieldAddr
  obtain⟨x,rfl,h2⟩:=iQ hx;split at ht
  .split at ht
   .rename_i w hw;obtain⟨rfl,rfl⟩:=ad (aa ht);intro c nx;obtain⟨y,h3,h4,h5⟩:=Md (h1:=h1) (c:=c) (nx:=nx) h2 (hk _ (by simp)) hw;exact⟨y,[],h3,h4,h5,fun i hi=>by simp at hi⟩
   .simp at ht
  .simp at ht
 .--field of data
  rename_i g off m u y;obtain⟨x,rfl,h2⟩:=iQ hx;split at ht
  .split at ht
   .rename_i i _ w hw;cases hc:(o5 u i==off)&&GI h g m w with
    |false=>rw[hc]at ht;simp at ht
    |true=>
     rw[hc,cond_true]at ht;obtain⟨rfl,rfl⟩:=ad (aa ht);simp only[ai,beq_iff_eq]at hc;obtain⟨a,z,rfl,f1,f2,f3⟩:=qS _ _ _ _ hw;obtain⟨cs,⟨hd,rfl⟩,g1,_⟩:=oU (v:=.x (.st u) y) trivial h2;have hd':kI u=true:=hd;obtain⟨_,hs,_,_⟩:=oC hc.2;have hs:bA a=m:=hs
     obtain⟨q,h3,h4⟩:=pD (cs:=(aS u y).map C.d) (off:=off) hc.2 (show fg h (.x a z) ((aS a z).map .d)from⟨zu u _ _ hd' f1,rfl⟩) (by simp[bJ];omega)
      (by rw[<-hc.1,<-hs,<-f3,hZ,gz])
     rw[g1 rfl];exact .of (x:=q) (fun _ _=>by show(match DY g m (((aS u y).map C.d).drop off)with|some v=>some (v,([]:fC),([]:List Nat),_)|none=>none)=_;rw[h3]) h4 trivial
   .simp at ht
  .simp at ht
 .--field of a dj
  rename_i g off m u;obtain⟨x,rfl,h2⟩:=iQ hx;split at ht
  .split at ht
   .rename_i i _ w hw;cases hc:(OB u i==off)&&GI h g m w with|false=>rw[hc]at ht;simp at ht|true=>rw[hc,cond_true]at ht;obtain⟨rfl,rfl⟩:=ad (aa ht);simp only[ai,beq_iff_eq]at hc;obtain⟨cs,hcs,g1,_⟩:=oU (v:=.rc u) trivial h2;obtain⟨cw,q1,q2,q3⟩:=IT u i w cs hcs hw;obtain⟨_,hs,_,_⟩:=oC hc.2;obtain⟨q,h3,h4⟩:=pD (off:=off) hc.2 q1 (by rw[<-hc.1,<-hs];exact q2) (by rw[<-hc.1,<-hs];exact q3);rw[g1 rfl];exact .of (x:=q) (fun _ _=>by show(match DY g m (cs.drop off)with|some v=>some (v,([]:fC),([]:List Nat),_)|none=>none)=_;rw[h3]) h4 (xJ u i w (hk (.rc u) (am.2 rfl)) hw)
   .simp at ht
  .simp at ht
 .--extract
  rename_i i u;obtain⟨x,rfl,h2⟩:=iQ hx;split at ht
  .rename_i w hw;obtain⟨rfl,rfl⟩:=ad (aa ht);obtain⟨ys,rfl,h3⟩:=P3 h2;obtain⟨y,h4,h5⟩:=Od u i w ys h3 hw;exact .of (x:=y) (fun _ _=>by simp only[mh,cP,h4]) (cq h5) (xJ u i w (hk (.tp u) (am.2 rfl)) hw)
  .simp at ht
 .obtain ⟨rfl,rfl⟩:=ad (aa ht);obtain⟨x,rfl,h2⟩:=iQ hx;rw[wW h2];exact .of (fun _ _=>rfl) (xi _ _) trivial
 .obtain ⟨rfl,rfl⟩:=ad (aa ht);obtain⟨x,rfl,h2⟩:=iQ hx;rw[vU h2];exact .of (fun _ _=>rfl) (xi _ _) trivial
 .--len of a dj of aq
  obtain⟨x,rfl,h2⟩:=iQ hx;split at ht
  .rename_i t' s' ln hq;obtain⟨rfl,rfl⟩:=ad (aa ht);exact .of (fun _ _=>by rw[Kg h2 (sF hq)];exact Pu) (xi _ _) trivial
  .simp at ht
 .--len
  obtain⟨x,rfl,h2⟩:=iQ hx;split at ht
  .rename_i q t' s' l' hq;obtain⟨rfl,rfl⟩:=ad (aa ht);exact .of (fun _ _=>QF h2 (ha _ (by simp)) hq) (xi _ _) trivial
  .simp at ht
 .--uK
  rename_i m k' x r;obtain⟨x1,ys,rfl,h2,h3⟩:=gT hx;split at ht
  .rename_i y hy;obtain⟨rfl,rfl⟩:=ad (aa ht);obtain rfl:=ky h2;exact .of (x:=lv (.int k' y)) (fun _ _=>by simp only[mh,cP,Li hy h3]) (xi _ _) trivial
  .simp at ht
 .--build
  rename_i z ps;cases hc:t6 (ny t) z&&nv t&&eI (Ph t) false t with
  |false=>rw[hc]at ht;simp at ht
  |true=>
   rw[hc,cond_true]at ht;simp only[ai]at hc;split at ht
   .rename_i w hw;obtain⟨rfl,rfl⟩:=ad (aa ht);obtain⟨z1,z2⟩:=(xS (h:=h) (n:=n) t).1 hc.2;obtain⟨cs,b1,b2,b3,b4⟩:=MV fi ps vs (Ph t) w _ xs hw hc.2 z1 z2 hx hk;rw[rh hc.1.1]at b1;exact .of (x:=.agg cs) (fun _ _=>by simp only[cP,nn,b1]) (cq (x5 (QP b4 hc.1.2) b2)) b3
   .simp at ht
 .--lookup
  rename_i ka ks va z ok m kv;obtain⟨x,y,rfl,h2,h3⟩:=jh hx;split at ht
  .rename_i kt vt mp l' hq;split at ht
   .rename_i key hkey;cases hc:(nv kt==ka)&&(nv vt==va)&&decide (D3 kt=some ks)&&t6 (ny vt) z&&kI vt&&(va||bA vt==1)with
    |false=>rw[hc]at ht;simp at ht
    |true=>
     rw[hc,cond_true]at ht;simp only[ai,beq_iff_eq,decide_eq_true_eq]at hc;obtain⟨⟨⟨⟨⟨c1,c2⟩,c3⟩,c4⟩,c5⟩,c6⟩:=hc;obtain⟨id,rfl,rfl,e1,e2,e3⟩:=Ln hr hq h2;have e1:l'=[id]:=e1;subst e1;obtain⟨_,_,k3,_⟩:=xL kt ks c3;have hz:cE z=aS vt (ss vt):=by rw[rg vt c5,rh c4]
     have hv:∀y,po va (aS vt y)=some (RF vt y):=fun y=>G1 y c2 c6;have hkt:=D0 h3 hkey c3 c1;rw[c1,c2]at e3;rw[<-c2]at c6;cases ok with|false=>simp only[cond_false]at ht;obtain⟨rfl,rfl⟩:=ad (aa ht);exact fun c nx=>⟨_,[id],QA (z:=ss vt) e3 hkt k3 hz hv,cq (Ke c5 c6),trivial,fun i hi=>hi⟩|true=>simp only[cond_true]at ht;obtain⟨rfl,rfl⟩:=ad (aa ht);exact fun c nx=>⟨_,[id],Oq (z:=ss vt) e3 hkt k3 hz hv,⟨_,rfl,_,_,rfl,Ke c5 c6,_,_,rfl,dV rfl ⟨rfl,rfl⟩,rfl⟩,⟨trivial,trivial,trivial⟩,fun i hi=>hi⟩
   .simp at ht
  .simp at ht
 .simp at ht
end
section
variable{h:H2}{n:Nat}{h1:bF}
theorem c_(id:Nat)(o:Option O)(h:H2)(i:Nat):fO ((id,o)::h) i=if id=i then o else fO h i:=by
 simp only[fO,cz];by_cases e:id=i
 .subst e;simp
 .have e':(id==i)=false:=by simpa using e
  simp[e,e']
theorem dE(id:Nat)(o:Option Ob)(h:bF)(i:Nat):aB ((id,o)::h) i=if id=i then o else aB h i:=by
 simp only[aB,cz];by_cases e:id=i
 .subst e;simp
 .have e':(id==i)=false:=by simpa using e
  simp[e,e']
theorem jy.new(o:Option O):jy n h ((n,o)::h):=⟨fun id o' hi ho=>by rw[c_,if_neg (by omega)]at ho;exact .inl ⟨o',ho,sy.refl _⟩⟩
theorem jy.CM{id:Nat}{o o':O}(ho:fO h id=some o)(hs:sy o o'):jy n h ((id,some o')::h):=
 ⟨fun i o2 hi h2=>by
  rw[c_]at h2;split at h2
  .rename_i e;subst e;obtain rfl:=aa h2;exact .inl ⟨o,ho,hs⟩
  .exact .inl ⟨o2,h2,sy.refl _⟩⟩
theorem jy.l_(id:Nat):jy n h ((id,none)::h):=
 ⟨fun i o2 hi h2=>by
  rw[c_]at h2;split at h2
  .simp at h2
  .exact .inl ⟨o2,h2,sy.refl _⟩⟩
theorem HR.CM{n' id:Nat}{o:Option O}{u:fC}(hr:HR n h1 h)(hn:n<=n')(hi:id<n')(hs:jy n h ((id,o)::h))(hu:∀i,i≠id->aB (u++h1) i=aB h1 i)
  (ho:∀o',o=some o'->vn ((id,o)::h) o' (aB (u++h1) id)/\CF n' ((id,o)::h) o'):HR n' (u++h1) ((id,o)::h):=by
 refine⟨fun i o' h2=>?_⟩;rw[c_]at h2;split at h2
 .rename_i e;subst e;exact⟨hi,ho o' h2⟩
 .rename_i e;obtain⟨q1,q2,q3⟩:=hr.ob i o' h2;refine⟨by omega,?_,oh hn hs q3⟩;rw[hu i fun e'=>e e'.symm];exact pB hs q3 q2
theorem HR.mono{n':Nat}(hr:HR n h1 h)(hn:n<=n'):HR n' h1 h:=⟨fun i o ho=>let⟨a,b,c⟩:=hr.ob i o ho;⟨by omega,b,oh hn (jy.refl n h) c⟩⟩
theorem HR.ext{h1':bF}(hr:HR n h1 h)(he:∀i,aB h1' i=aB h1 i):HR n h1' h:=⟨fun i o ho=>by rw[he];exact hr.ob i o ho⟩
structure rb(s s':S2)(h1:bF)(x:TV)(u:fC)(aA:List Nat)(m:Nat)(v:V)(l:List Nat):Prop where
 val:gb s'.heap v x
 U8:e_ s'.next s'.heap v
 hr:HR s'.next (u++h1) s'.heap
 eM:jy s.next s.heap s'.heap
 dG:s'.dG=s.dG
 gh:s'.gh=s.gh
 m:m<=s'.next
 le:s.next<=s'.next
 aA:∀i∈aA,i∈l
 nb:∀i,i<s.next->fO s.heap i=none->fO s'.heap i=none
 wo:∃w,s'.wo=w++s.wo/\(∀p∈u,p.1∈w)/\∀id,id∉w->fO s'.heap id=fO s.heap id
theorem rb.pure{s:S2}{x:TV}{v:V}{aA l:List Nat}(hr:HR s.next h1 s.heap)(hx:gb s.heap v x)(hk:e_ s.next s.heap v)(hl:∀i∈aA,i∈l):rb s s h1 x [] aA s.next v l:=⟨hx,hk,hr,jy.refl _ _,rfl,rfl,au _,au _,hl,fun _ _ h=>h,[],rfl,fun p hp=>by simp at hp,fun _ _=>rfl⟩
theorem rb.new{s:S2}{o:O}{b:Option Ob}{u:fC}{x:TV}{v:V}{aA l:List Nat}{m:Nat}(hr:HR s.next h1 s.heap)(hu:u=[(s.next,b)]\/(u=[]/\∀b',vn ((s.next,some o)::s.heap) o b'))(hb:u=[(s.next,b)]->vn ((s.next,some o)::s.heap) o b)
  (hko:CF (s.next+1) ((s.next,some o)::s.heap) o) (hx:gb ((s.next,some o)::s.heap) v x) (hk:e_ (s.next+1) ((s.next,some o)::s.heap) v) (hl:∀i∈aA,i∈l) (hm:m<=s.next+1):rb s (jF s o) h1 x u aA m v l:=by
 refine⟨hx,hk,?_,jy.new _,rfl,rfl,hm,bH _,hl,fun i hi h=>(by rw[show(jF s o).heap=(s.next,some o)::s.heap from rfl,c_,if_neg (by omega)];exact h),[s.next],rfl,?_,fun id hid=>?_⟩
 .refine HR.CM (n':=s.next+1) hr (bH _) (aY _) (jy.new _) (fun i hi=>?_) fun o' ho'=>?_
  .rcases hu with rfl|⟨rfl,_⟩
   .rw [aZ,dE,if_neg fun e=>hi e.symm]
   .rfl
  .obtain rfl:=aa ho';refine⟨?_,hko⟩;rcases hu with rfl|⟨rfl,hu⟩
   .rw [aZ,dE,if_pos rfl];exact hb rfl
   .exact hu _
 .intro p hp;rcases hu with rfl|⟨rfl,_⟩
  .obtain rfl:=am.1 hp;simp
  .simp at hp
 .simp only[jF];rw[c_,if_neg fun e=>hid (by simp[e])]
theorem rb.CM{s:S2}{id:Nat}{o o':O}{b:Option Ob}{x:TV}{v:V}{aA l:List Nat}(hr:HR s.next h1 s.heap)(ho:fO s.heap id=some o)(hs:sy o o')(hb:vn ((id,some o')::s.heap) o' b)(hko:CF s.next ((id,some o')::s.heap) o')
  (hx:gb ((id,some o')::s.heap) v x) (hk:e_ s.next ((id,some o')::s.heap) v) (hl:∀i∈aA,i∈l):rb s (eD s id (some o')) h1 x [(id,b)] aA s.next v l:=by
 refine⟨hx,hk,?_,jy.CM ho hs,rfl,rfl,au _,au _,hl,fun i _ h=>(by rw[show(eD s id (some o')).heap=(id,some o')::s.heap from rfl,c_,if_neg (fun e=>by rw[e,h]at ho;cases ho)];exact h),[id],rfl,fun p hp=>?_,fun i hi=>?_⟩
 .refine HR.CM hr (au _) (hr.ob id o ho).1 (jy.CM ho hs) (fun i hi=>?_) fun o2 ho2=>?_
  .rw [aZ,dE,if_neg fun e=>hi e.symm]
  .obtain rfl:=aa ho2;rw[aZ,dE,if_pos rfl];exact⟨hb,hko⟩
 .obtain rfl:=am.1 hp;simp
 .simp only[eD];rw[c_,if_neg fun e=>hi (by simp[e])]
def mP(h:H2)(id:Nat):Prop:=(∃t v,fO h id=some (.ar t .nil v)\/fO h id=some (.im t .nil v))\/∃t ln,fO h id=some (.rw t .nil ln)
theorem yL{id ver:Nat}{t:Ty}{l:List (El t)}(ho:fO h id=some (.ar t (.mk l) ver)\/fO h id=some (.im t (.mk l) ver)):¬mP h id:=by
 rintro(⟨u,v',e⟩|⟨u,ln,e⟩)
 .rcases ho with ho|ho<;>rcases e with e|e<;>rw[ho]at e<;>simp at e
  all_goals
   obtain⟨rfl,e,_⟩:=e;cases eq_of_heq e
 .rcases ho with ho|ho<;>rw[ho]at e<;>cases e
theorem Og{id:Nat}{t:Ty}{l:List (Sl (El t))}{ln:Option (Nat×Nat)}(ho:fO h id=some (.rw t (.mk l) ln)):¬mP h id:=by
 rintro(⟨u,v',e⟩|⟨u,ln',e⟩)
 .rcases e with e|e<;>rw[ho]at e<;>cases e
 .rw [ho]at e;cases e
theorem p8(k:Nat)(x:D):dY h1 k (.d x)=some (x,[]):=by cases k<;>rfl
theorem xU:∀(ds:List D),dT h1 (ds.map .d)=some (ds,[]):=by intro ds;induction ds with|nil=>rfl|cons d ds ih=>simp[dT,p8,ih]
theorem qj{a b:List C}{x y:List D}{i j:List Nat}(ha:dT h1 a=some (x,i))(hb:dT h1 b=some (y,j)):dT h1 (a++b)=some (x++y,i++j):=by
 induction a generalizing x i with
 |nil=>obtain⟨rfl,rfl⟩:[]=x/\[]=i:=by simpa[dT]using ha
       simpa using hb
 |cons c a ih=>
  simp only[dT]at ha;split at ha
  .rename_i p q r s hp hq;obtain⟨rfl,rfl⟩:=ad (aa ha);simp only[aU,dT,hp,ih hq,aJ]
  .simp at ha
theorem CK{id sz lo len:Nat}{aq:List (List D)}(k:Nat)(ho:aB h1 id=some (.aM sz aq)\/aB h1 id=some (.pG sz aq))(hl:lo+len<=aq.length)(szo:Nat):
  dY h1 k (.fw szo id lo len)=some (.sl szo ((aq.drop lo).take len),[id]):=by
 rcases ho with ho|ho<;>(cases k<;>simp only[dY,ho,if_pos hl])
theorem Nv{id ver:Nat}{t:Ty}{s:Sl (El t)}(k:Nat)(hr:HR n h1 h)(ho:fO h id=some (.ar t s ver)\/fO h id=some (.im t s ver)):
  ∃aA,dY h1 k (mx (bA t) (aS t) id s)=some (vY (bA t) (aS t) s,aA)/\(∀i∈aA,i=id/\¬mP h i)/\(id∈aA\/mP h id):=by
 cases s with
 |nil=>exact⟨[],p8 k _,fun i hi=>by simp at hi,.inr (.inl ⟨t,ver,ho⟩)⟩
 |mk l=>
  have hb:aB h1 id=some (.aM (bA t) (l.map (aS t)))\/aB h1 id=some (.pG (bA t) (l.map (aS t))):=by
   rcases ho with ho|ho
   .exact .inl ((hr.ob id _ ho).2.1.2.2 l rfl)
   .exact .inr ((hr.ob id _ ho).2.1.2.2 l rfl)
  refine⟨[id],?_,fun i hi=>by obtain rfl:=am.1 hi;exact⟨rfl,yL ho⟩,.inl (by simp)⟩;have:=CK (lo:=0) (len:=(l.map (aS t)).length) k hb (by omega) (bA t);rw[tV]at this;exact this
theorem Nw{id ver lo:Nat}{t:Ty}{r:Sl (El t)}(k:Nat)(hr:HR n h1 h)(hk:e_ n h (.sb id ver lo t r))(ha:Cv h id ver=true):
  ∃aA,dY h1 k (ym id lo t r)=some (vY (bA t) (aS t) r,aA)/\(∀i∈aA,i=id/\¬mP h i)/\(id∈aA\/mP h id):=by
 obtain⟨u,s,ho⟩:=lG ha;obtain⟨_,hc⟩:=hk.2 u s ver ho;obtain⟨hz,hc⟩:=hc rfl;cases r with
 |nil=>cases s with|nil=>exact⟨[],p8 k _,fun i hi=>by simp at hi,.inr (.inl ⟨u,ver,ho⟩)⟩|mk l=>exact hc.elim
 |mk m=>
  cases s with
  |nil=>exact hc.elim
  |mk l=>
   obtain⟨hl,he⟩:=hc
   have hb:aB h1 id=some (.aM (bA u) (l.map (aS u)))\/aB h1 id=some (.pG (bA u) (l.map (aS u))):=by
    rcases ho with ho|ho
    .exact .inl ((hr.ob id _ ho).2.1.2.2 l rfl)
    .exact .inr ((hr.ob id _ ho).2.1.2.2 l rfl)
   refine⟨[id],?_,fun i hi=>by obtain rfl:=am.1 hi;exact⟨rfl,yL ho⟩,.inl (by simp)⟩;have:=CK (lo:=lo) (len:=(m.map (aS t)).length) k hb (by simpa using hl) (bA t);rw[show(m.map (aS t)).length=m.length by simp,he]at this;simpa[ym,vY]using this
theorem AE{t:Ty}:∀(l:List (Sl (El t))),qo (bA t) (l.map (oV t))=some (l.map (aS (.sl t))):=by intro l;induction l with|nil=>rfl|cons s l ih=>simp only[aD,qo,ih];cases s<;>rfl
theorem Nu{id:Nat}{t:Ty}{s:Sl (Sl (El t))}(k:Nat)(hr:HR n h1 h)(ho:fO h id=some (.rw t s none)):
  ∃aA,dY h1 k (mx 1 (aS (.sl t)) id s)=some (vY 1 (aS (.sl t)) s,aA)/\(∀i∈aA,i=id/\¬mP h i)/\(id∈aA\/mP h id):=by
 cases s with
 |nil=>exact⟨[],p8 k _,fun i hi=>by simp at hi,.inr (.inr ⟨t,none,ho⟩)⟩
 |mk l=>
  have hb:=(hr.ob id _ ho).2.1.2.2 l rfl;refine⟨[id],?_,fun i hi=>by obtain rfl:=am.1 hi;exact⟨rfl,Og ho⟩,.inl (by simp)⟩;have e:((l.map (aS (.sl t))).length)=(eU t l none).length:=by simp[eU]
  have hs:qo (bA t) (eU t l none)=some (l.map (aS (.sl t))):=AE l;cases k<;>simp only[mx,vY,dY,hb,hs,e,and_self,if_true]
theorem sU(hr:HR n h1 h):∀(v w:V)(l:List Nat)(cs:List C),jk h v=some (w,l)->fg h v cs->e_ n h v->iw h v=true->
  ∃ds aA,dT h1 cs=some (ds,aA)/\fg h w (ds.map .d)/\(∀i∈aA,i∈l/\¬mP h i)/\(∀i∈l,i∈aA\/mP h i)/\(∀i∈l,i<n/\((∃t s v,fO h i=some (.ar t s v)\/fO h i=some (.im t s v))\/∃t s,fO h i=some (.rw t s none))):=by
 have done:∀(v:V)(ds:List D),fg h v (ds.map .d)->∃ds' aA,dT h1 (ds.map .d)=some (ds',aA)/\fg h v (ds'.map .d)/\(∀i∈aA,i∈([]:List Nat)/\¬mP h i)/\(∀i∈([]:List Nat),i∈aA\/mP h i)/\(∀i∈([]:List Nat),i<n/\((∃t s v,fO h i=some (.ar t s v)\/fO h i=some (.im t s v))\/∃t s,fO h i=some (.rw t s none))):=fun v ds hv=>⟨ds,[],xU ds,hv,fun i hi=>by simp at hi,fun i hi=>by simp at hi,fun i hi=>by simp at hi⟩;intro v;induction v with
 |so id=>
  intro w l cs hf hv hk ha;simp only[jk]at hf;split at hf
  .rename_i t s l' hs;obtain⟨rfl,rfl⟩:=ad (aa hf);obtain⟨ver,ho,e⟩:=uB hs;have e:l'=[id]:=e;subst e;obtain⟨c,rfl,hc,_⟩:=hv;rw[hc _ (mw ho)];obtain⟨aA,q1,q2,q3⟩:=Nv 300 hr ho;have hd:kI t=true:=by rcases ho with ho|ho<;>exact(hr.ob id _ ho).2.1.1
   refine⟨[vY (bA t) (aS t) s],aA,by simp[dT,q1],⟨hd,rfl⟩,fun i hi=>⟨by simpa using(q2 i hi).1,(q2 i hi).1▸(q2 i hi).2⟩,fun i hi=>?_,fun i hi=>?_⟩
   .obtain rfl:=am.1 hi;exact q3
   .obtain rfl:=am.1 hi;exact⟨hk,.inl ⟨t,s,ver,ho⟩⟩
  .simp at hf
 |sr id=>
  intro w l cs hf hv hk ha;simp only[jk]at hf;split at hf
  .rename_i t s ho;obtain⟨rfl,rfl⟩:=ad (aa hf);obtain⟨c,rfl,hc,_⟩:=hv;rw[hc _ (by rw[ho];rfl:ET id (fO h id)=some (mx 1 (aS (.sl t)) id s))];obtain⟨aA,q1,q2,q3⟩:=Nu 300 hr ho;have hd:kI t=true:=(hr.ob id _ ho).2.1.1;refine⟨[vY 1 (aS (.sl t)) s],aA,by simp[dT,q1],⟨hd,rfl⟩,fun i hi=>⟨by simpa using(q2 i hi).1,(q2 i hi).1▸(q2 i hi).2⟩,fun i hi=>?_,fun i hi=>?_⟩
   .obtain rfl:=am.1 hi;exact q3
   .obtain rfl:=am.1 hi;exact⟨hk,.inr ⟨t,s,ho⟩⟩
  .simp at hf
 |sb id ver lo t r=>
  intro w l cs hf hv hk ha;simp only[jk,t8]at hf;obtain⟨rfl,rfl⟩:=ad (aa hf);obtain⟨hd,ha⟩:=dn.1 ha;have ha:Cv h id ver=true:=ha;obtain⟨c,rfl,hc,_⟩:=hv;rw[hc ha];obtain⟨aA,q1,q2,q3⟩:=Nw 300 hr hk ha;obtain⟨u,s,ho⟩:=lG ha;refine⟨[vY (bA t) (aS t) r],aA,by simp[dT,q1],⟨?_,rfl⟩,fun i hi=>⟨by simpa using(q2 i hi).1,(q2 i hi).1▸(q2 i hi).2⟩,fun i hi=>?_,fun i hi=>?_⟩
  .exact hd
  .obtain rfl:=am.1 hi;exact q3
  .obtain rfl:=am.1 hi;exact⟨hk.1,.inl ⟨u,s,ver,ho⟩⟩
 |rc r ih=>
  intro w l cs hf hv hk ha;simp only[jk]at hf;split at hf
  .rename_i w' l' hw;obtain⟨rfl,rfl⟩:=ad (aa hf);exact ih w' l' cs hw hv hk ha
  .simp at hf
 |co a r iha ihr=>
  intro w l cs hf hv hk ha;simp only[jk]at hf;split at hf
  .rename_i x l1 y l2 hx hy;obtain⟨rfl,rfl⟩:=ad (aa hf);obtain⟨ca,cr,rfl,h2,h3⟩:=hv;simp only[iw,ai]at ha;obtain⟨ds,aA,a1,a2,a3,a4,a5⟩:=iha x l1 ca hx h2 hk.1 ha.1;obtain⟨es,jds,b1,b2,b3,b4,b5⟩:=ihr y l2 cr hy h3 hk.2 ha.2;refine⟨ds++es,aA++jds,qj a1 b1,⟨_,_,by simp,a2,b2⟩,fun i hi=>?_,fun i hi=>?_,fun i hi=>?_⟩
   .rcases ap.1 hi with hi|hi
    .exact ⟨aE _ (a3 i hi).1,(a3 i hi).2⟩
    .exact ⟨aG _ (b3 i hi).1,(b3 i hi).2⟩
   .rcases ap.1 hi with hi|hi
    .exact (a4 i hi).imp (aE _) id
    .exact (b4 i hi).imp (aG _) id
   .rcases ap.1 hi with hi|hi
    .exact a5 i hi
    .exact b5 i hi
  .simp at hf
 |x t v=>intro w l cs hf hv hk ha;obtain⟨rfl,rfl⟩:=ad (aa hf);obtain⟨hd,rfl⟩:=hv;exact done _ _ ⟨hd,rfl⟩
 |kb c=>intro w l cs hf hv hk ha;obtain⟨rfl,rfl⟩:=ad (aa hf);obtain rfl:=hv;exact done (.kb c) [_] rfl
 |nl k=>intro w l cs hf hv hk ha;obtain⟨rfl,rfl⟩:=ad (aa hf);obtain rfl:=hv;exact done (.nl k) [_] rfl
 |fl q=>
  intro w l cs hf hv hk ha;obtain⟨rfl,rfl⟩:=ad (aa hf);obtain⟨hp,rfl⟩:=hv;have e:fx q=(q.map D.lit).map C.d:=by simp[fx]
  rw[e];exact done (.fl q) (q.map D.lit) ⟨hp,e.symm⟩
 |ni=>intro w l cs hf hv hk ha;obtain⟨rfl,rfl⟩:=ad (aa hf);obtain rfl:=hv;exact done .ni [] rfl
 |pt t v=>intro w l cs hf hv hk ha;obtain⟨rfl,rfl⟩:=ad (aa hf);obtain⟨hd,rfl⟩:=hv;exact done (.pt t v) [_] ⟨hd,rfl⟩
 |fn z f q ih=>intro w l cs hf hv hk ha;cases z with|true=>obtain⟨rfl,rfl⟩:=ad (aa hf);obtain⟨ds,hd,rfl⟩:=hv;exact done (.fn true f q) [_] ⟨ds,hd,rfl⟩|false=>simp[jk]at hf
 |_=>intro w l cs hf hv hk ha;simp[jk]at hf
theorem xF:∀(ds:List D)(k:Nat),ds.length<k->fZ h1 k (ds.map .d)=some (ds,[]):=by
 intro ds;induction ds with
 |nil=>intro k hk;cases k<;>rfl
 |cons d ds ih=>intro k hk;cases k with|zero=>simp at hk|succ k=>simp only[aD,fZ,p8];rw[ih k (by simpa using hk)];rfl
theorem wB{H:bF}{h0:H2}{k:Nat}(hr:HR k H h0)(all:List Nat){id:Nat}{o':O}(hf:B8 h0 id=some o'):
  ∃o,fO h0 id=some o/\sy o o'/\(∀m g,CF m g o')/\((mP h0 id/\∀g b,vn g o' b)\/(¬mP h0 id/\∃b,kc H all id=some b/\∀g,vn g o' (some b))):=by
 unfold B8 at hf;split at hf
 .rename_i t s v ho;obtain rfl:=aa hf;refine⟨_,ho,⟨au _,rfl,rfl,rfl,fun _=>rfl⟩,fun _ _=>trivial,?_⟩;obtain⟨h1,h2,h3⟩:=(hr.ob id _ ho).2.1;cases s with|nil=>exact .inl ⟨.inl ⟨t,v,.inl ho⟩,fun g b=>⟨h1,h2,fun l e=>by cases e⟩⟩|mk l=>refine .inr ⟨yL (.inl ho),.pG (bA t) (l.map (aS t)),?_,fun g=>⟨h1,h2,fun l' e=>by cases e;rfl⟩⟩;simp only[kc,h3 l rfl]
 .rename_i t s v ho;obtain rfl:=aa hf;refine⟨_,ho,⟨rfl,rfl⟩,fun _ _=>trivial,?_⟩;obtain⟨h1,h2,h3⟩:=(hr.ob id _ ho).2.1;cases s with|nil=>exact .inl ⟨.inl ⟨t,v,.inr ho⟩,fun g b=>⟨h1,h2,fun l e=>by cases e⟩⟩|mk l=>refine .inr ⟨yL (.inr ho),.pG (bA t) (l.map (aS t)),?_,fun g=>⟨h1,h2,fun l' e=>by cases e;rfl⟩⟩;simp only[kc,h3 l rfl]
 .rename_i t v ho;obtain rfl:=aa hf;obtain⟨h1,h2⟩:=(hr.ob id _ ho).2.1;refine⟨_,ho,rfl,fun _ _=>trivial,.inr ⟨?_,.oz (aS t v),?_,fun g=>⟨h1,rfl⟩⟩⟩
  .rintro (⟨u,v',e|e⟩|⟨u,v',e⟩)<;>rw[ho]at e<;>simp at e
  .simp only[kc,h2]
 .rename_i t c ho;cases hd:(kI t&&Nat.blt (bA t) 300)with
  |false=>rw[hd]at hf;simp at hf
  |true=>
   rw[hd,cond_true]at hf;simp only[ai]at hd;split at hf
   .rename_i w hw;split at hf
    .rename_i y hy;obtain rfl:=aa hf;obtain⟨cs,h1,h2,h3⟩:=(hr.ob id _ ho).2.1;have e:=iY c false t y cs hy h2;subst e;refine⟨_,ho,trivial,fun _ _=>trivial,.inr ⟨?_,.oz (aS t y),?_,fun g=>⟨hd.1,rfl⟩⟩⟩
     .rintro (⟨u,v',e|e⟩|⟨u,v',e⟩)<;>rw[ho]at e<;>simp at e
     .have hl:(aS t y).length<300:=by rw[bJ];simpa using hd.2
      simp only[kc,h1,xF _ _ hl];rfl
    .simp at hf
   .simp at hf
 .simp at hf
def Gk(h:H2)(id:Nat):Option O:=match fO h id with|some (.rw _ _ none)=>none|_=>B8 h id
theorem xd{h0:H2}{s0:S2}(hs0:s0.heap=h0):∀(aA:List Nat)(s':S2),qy h0 aA s0=some s'->
  s'.dG=s0.dG/\s'.gh=s0.gh/\s'.next=s0.next/\s'.wo=aA++s0.wo/\(∀i∈aA,(∃o,B8 h0 i=some o)\/∃t s,fO h0 i=some (.rw t s none))/\∀i,fO s'.heap i=if i∈aA then Gk h0 i else fO h0 i:=by
 intro aA;induction aA with
 |nil=>intro s' hf;obtain rfl:=aa hf;exact⟨rfl,rfl,rfl,rfl,fun i hi=>by simp at hi,fun i=>by simp[hs0]⟩
 |cons id r ih=>
  intro s' hf;simp only[qy]at hf
  have fin:∀(oo:Option O)(s1:S2),qy h0 r s0=some s1->s'=eD s1 id oo->((∃o,B8 h0 id=some o)\/∃t s,fO h0 id=some (.rw t s none))->Gk h0 id=oo->s'.dG=s0.dG/\s'.gh=s0.gh/\s'.next=s0.next/\s'.wo=(id::r)++s0.wo/\(∀i∈id::r,(∃o,B8 h0 i=some o)\/∃t s,fO h0 i=some (.rw t s none))/\∀i,fO s'.heap i=if i∈id::r then Gk h0 i else fO h0 i:=by
   intro oo s1 h1 e hex hoo;subst e;obtain⟨a1,a2,a3,a4,a5,a6⟩:=ih s1 h1;refine⟨a1,a2,a3,by simp[eD,a4],fun i hi=>?_,fun i=>?_⟩
   .rcases aN.1 hi with rfl|hi
    .exact hex
    .exact a5 i hi
   .simp only[eD,c_,a6];by_cases e:id=i
    .subst e;simp[hoo]
    .simp [e,Ne.symm e]
  split at hf
  .rename_i t s ho;split at hf
   .rename_i s1 h1;exact fin none s1 h1 (aa hf).symm (.inr ⟨t,s,ho⟩) (by simp only[Gk,ho])
   .cases hf
  .rename_i hno;split at hf
   .rename_i o s1 ho h1;refine fin (some o) s1 h1 (aa hf).symm (.inl ⟨o,ho⟩) ?_;unfold Gk;split
    .rename_i t s e;exact absurd e (hno t s)
    .exact ho
   .cases hf
theorem Jh{H:bF}{all:List Nat}:∀(l:List Nat),(∀i∈l,∃b,kc H all i=some b)->∃u,dZ H all l=some u/\∀p∈u,p.1∈l:=by
 intro l;induction l with
 |nil=>intro _;exact⟨[],rfl,fun p hp=>by simp at hp⟩
 |cons a l ih=>
  intro h;obtain⟨b,hb⟩:=h a (by simp);obtain⟨u,hu,hp⟩:=ih fun i hi=>h i (by simp[hi]);refine⟨(a,some b)::u,by simp only[dZ,hb,hu],fun p hp'=>?_⟩;rcases aN.1 hp' with rfl|hp'
  .simp
  .exact aC _ (hp p hp')
theorem B7{h0:H2}{s0:S2}(hs0:s0.heap=h0){H:bF}(hr:HR s0.next H h0)(aA:List Nat)(s':S2)(ids1 all:List Nat)(hf:qy h0 aA s0=some s')(hi1:∀i∈ids1,i∈aA/\¬mP h0 i)(hi2:∀i∈aA,i∈ids1\/mP h0 i):
  ∃fu,dZ H all ids1=some fu/\HR s0.next (fu++H) s'.heap/\jy s0.next h0 s'.heap/\s'.dG=s0.dG/\s'.gh=s0.gh/\s'.next=s0.next/\
   s'.wo=aA++s0.wo/\(∀p∈fu,p.1∈aA)/\∀id,id∉aA->fO s'.heap id=fO s0.heap id:=by
 obtain⟨a1,a2,a3,a4,a5,a6⟩:=xd hs0 aA s' hf
 have hF:∀i o',Gk h0 i=some o'->B8 h0 i=some o':=fun i o' h=>by
  unfold Gk at h;split at h
  .cases h
  .exact h
 obtain⟨fu,hfu,hp⟩:=Jh (H:=H) (all:=all) ids1 fun i hi=>by
  rcases a5 i (hi1 i hi).1 with⟨o,ho⟩|⟨t,s,ho⟩
  .obtain ⟨_,_,_,_,h⟩:=wB hr all ho;rcases h with h|⟨_,b,hb,_⟩
   .exact absurd h.1 (hi1 i hi).2
   .exact ⟨b,hb⟩
  .cases s with|nil=>exact absurd (.inr ⟨t,none,ho⟩) (hi1 i hi).2|mk l=>have hb:=(hr.ob i _ ho).2.1.2.2 l rfl;have hs:qo (bA t) (eU t l none)=some (l.map (aS (.sl t))):=AE l;exact⟨.pG 1 (l.map (aS (.sl t))),by simp only[kc,hb,hs]⟩
 have eM:jy s0.next h0 s'.heap:=⟨fun i o' hi ho=>by
  rw[a6]at ho;split at ho
  .obtain ⟨o,h1,h2,_⟩:=wB hr all (hF i o' ho);exact .inl ⟨o,h1,h2⟩
  .exact .inl ⟨o',ho,sy.refl _⟩⟩
 refine⟨fu,hfu,⟨fun i o' ho=>?_⟩,eM,a1,a2,a3,a4,fun p hp'=>(hi1 _ (hp p hp')).1,fun i hi=>by rw[a6,if_neg hi,hs0]⟩;rw[a6]at ho;split at ho
 .rename_i hi;obtain⟨o,h1,_,h3,h4⟩:=wB hr all (hF i o' ho);refine⟨(hr.ob i o h1).1,?_,h3 _ _⟩;rcases h4 with h4|⟨h5,b,hb,hR⟩
  .exact h4.2 _ _
  .have hm:i∈ids1:=(hi2 i hi).resolve_right h5;obtain⟨b',hb',hl⟩:=(lj ids1 fu hfu i).1 hm;rw[hb]at hb';obtain rfl:=aa hb';rw[show aB (fu++H) i=some b by simp only[aB,gU,hl];rfl];exact hR _
 .rename_i hi;obtain⟨h1,h2,h3⟩:=hr.ob i o' ho;have hn:i∉ids1:=fun hm=>hi (hi1 i hm).1;refine⟨h1,?_,oh (au _) eM h3⟩;rw[show aB (fu++H) i=aB H i by simp only[aB,gU,(lj ids1 fu hfu i).2 hn]];exact pB eM h3 h2
theorem Gj{h0:H2}{s0:S2}{aA:List Nat}{s':S2}(hs0:s0.heap=h0)(hf:qy h0 aA s0=some s'):∀i∈aA,fO h0 i≠none:=by
 intro i hi e;obtain⟨_,_,_,_,a5,_⟩:=xd hs0 aA s' hf;rcases a5 i hi with⟨o,ho⟩|⟨t,s,ho⟩
 .simp [B8,e]at ho
 .rw [e]at ho;cases ho
end
section
variable{h:H2}{n:Nat}{h1:bF}{β:Type}
theorem aP{α:Type}{c:Bool}{a:Option α}{r:α}(h:(bif c then a else none)=some r):c=true/\a=some r:=by cases c with|true=>exact⟨rfl,h⟩|false=>simp at h
theorem wm{u:fC}{i:Nat}(hu:∀p∈u,p.1≠i):aB (u++h1) i=aB h1 i:=by induction u with|nil=>rfl|cons p u ih=>obtain⟨a,b⟩:=p;rw[aU,dE,if_neg (hu _ (cn ..)),ih fun p hp=>hu p (aC _ hp)]
theorem rb.EW{s s':S2}{x:TV}{u:fC}{aA l:List Nat}{m:Nat}{v:V}(W:List Nat)(hr:HR s.next h1 s.heap)(eM:jy s.next s.heap s'.heap)(he:s'.dG=s.dG)(hg:s'.gh=s.gh)(hm:m<=s'.next)(hle:s.next<=s'.next)(hl:∀i∈aA,i∈l)
  (hwo:s'.wo=W++s.wo) (hu:∀p∈u,p.1∈W) (hW:∀id,id∉W->fO s'.heap id=fO s.heap id) (hob:∀i∈W,∀o,fO s'.heap i=some o->i<s'.next/\vn s'.heap o (aB (u++h1) i)/\CF s'.next s'.heap o)
  (hx:gb s'.heap v x) (hk:e_ s'.next s'.heap v) (hnb:∀i,i<s.next->fO s.heap i=none->fO s'.heap i=none):rb s s' h1 x u aA m v l:=by
 refine⟨hx,hk,⟨fun i o ho=>?_⟩,eM,he,hg,hm,hle,hl,hnb,W,hwo,hu,hW⟩;by_cases hi:i∈W
 .exact hob i hi o ho
 .rw [hW i hi]at ho;obtain⟨a,b,c⟩:=hr.ob i o ho;refine⟨by omega,?_,oh hle eM c⟩;rw[wm (u:=u) (i:=i) fun p hp e=>hi (e▸hu p hp)];exact pB eM c b
def zK(h1:bF)(kk:K)(xs:List TV)(s:S2)(k:V->S2->List Nat->Option β)(z:β):Prop:=∃v s' l,k v s' l=some z/\∀c:Call,∃x u aA m,cP c kk (xs.map some) h1 s.next=some (x,u,aA,m)/\rb s s' h1 x u aA m v l
variable{s:S2}{k:V->S2->List Nat->Option β}{z:β}
theorem zK.pure{kk:K}{xs:List TV}{v:V}{x:TV}(hr:HR s.next h1 s.heap)(hz:k v s []=some z)(he:∀c:Call,cP c kk (xs.map some) h1 s.next=some (x,[],[],s.next))(hx:gb s.heap v x)(hk:e_ s.next s.heap v):zK h1 kk xs s k z:=⟨v,s,[],hz,fun c=>⟨x,[],[],s.next,he c,rb.pure hr hx hk fun i hi=>by simp at hi⟩⟩
theorem qh{t:Ty}(h:CE t=true):kI t=true/\0<bA t:=by simpa[CE]using h
theorem zK.new{kk:K}{xs:List TV}{v:V}{x:TV}{o:O}{b:Option Ob}{l aA:List Nat}(hr:HR s.next h1 s.heap)(hz:k v (jF s o) l=some z)(he:∀c:Call,cP c kk (xs.map some) h1 s.next=some (x,[(s.next,b)],aA,s.next+1))
  (hb:vn ((s.next,some o)::s.heap) o b) (hko:CF (s.next+1) ((s.next,some o)::s.heap) o) (hx:gb ((s.next,some o)::s.heap) v x) (hk:e_ (s.next+1) ((s.next,some o)::s.heap) v) (hl:∀i∈aA,i∈l):zK h1 kk xs s k z:=
 ⟨v,_,l,hz,fun c=>⟨x,_,aA,_,he c,rb.new hr (.inl rfl) (fun _=>hb) hko hx hk hl (au _)⟩⟩
theorem zK.CM{kk:K}{xs:List TV}{v:V}{x:TV}{id:Nat}{o o':O}{b:Option Ob}{l aA:List Nat}(hr:HR s.next h1 s.heap)(ho:fO s.heap id=some o)(hs:sy o o')(hz:k v (eD s id (some o')) l=some z)(he:∀c:Call,cP c kk (xs.map some) h1 s.next=some (x,[(id,b)],aA,s.next))
  (hb:vn ((id,some o')::s.heap) o' b) (hko:CF s.next ((id,some o')::s.heap) o') (hx:gb ((id,some o')::s.heap) v x) (hk:e_ s.next ((id,some o')::s.heap) v) (hl:∀i∈aA,i∈l):zK h1 kk xs s k z:=
 ⟨v,_,l,hz,fun c=>⟨x,_,aA,_,he c,rb.CM hr ho hs hb hko hx hk hl⟩⟩
theorem tT(id:Nat)(o:Option O)(h:H2):fO ((id,o)::h) id=o:=by rw[c_,if_pos rfl]
theorem wj{t:Ty}{s:Sl (El t)}{v nx:Nat}:gb ((nx,some (.ar t s v))::h) (.so nx) (.c (mx (bA t) (aS t) nx s)):=cq (dV rfl ⟨_,rfl,fun c' hc'=>by rw[tT]at hc';exact aa hc',BI⟩)
theorem Ce{x:V}{y:TV}{sz:Nat}{lo hi:Option Int}{m:Int}{q:V->Option β}(hr:HR n h1 h)(hx:gb h x y)(hk:e_ n h x)(ha:iw h x=true)(hm:F3 h x=some m)(hz:uc sz h x (lo.getD 0) (hi.getD m) q=some z):
  ∃v c c',y=.c c/\q v=some z/\fU false sz c lo hi=some c'/\gb h v (.c c')/\e_ n h v:=by
 have iP:∀(id:Nat)(t:Ty)(w:Sl (El t))(ver:Nat),x=.so id->(fO h id=some (.ar t w ver)\/fO h id=some (.im t w ver))->(bif bA t==sz then(qB w.l (lo.getD 0) (hi.getD m)).bind fun y=>q (.sb id ver (lo.getD 0).toNat t (w.to y))else none)=some z->
   ∃v c c',y=.c c/\q v=some z/\fU false sz c lo hi=some c'/\gb h v (.c c')/\e_ n h v:=by
  rintro id t w ver rfl ho hz;obtain⟨h2,hz2⟩:=aP hz;obtain rfl:bA t=sz:=by simpa using h2
  obtain⟨r,hr',hz3⟩:=rO hz2;have e:=sB hx (mw ho);have hm':m=w.l.length:=by simp only[F3,t8]at hm;rcases ho with ho|ho<;>(rw[ho]at hm;exact(aa hm).symm)
  subst hm';refine⟨_,_,ym id (lo.getD 0).toNat t (w.to r),e,hz3,?_,?_,hk,?_⟩
  .cases w with|nil=>exact MB hr'|mk l=>exact SJ (enc:=aS t) hr'
  .exact cq (dV rfl ⟨_,rfl,fun _=>rfl,Kz⟩)
  .intro u s' v' ho'
   have e2:Nl u s'=Nl t w/\v'=ver:=by
    rcases ho with ho|ho<;>rcases ho' with ho'|ho'<;>(rw[ho]at ho';simp at ho')
    all_goals
     obtain⟨rfl,e,rfl⟩:=ho';cases eq_of_heq e;exact⟨rfl,rfl⟩
   obtain⟨e2,rfl⟩:=e2;obtain⟨rfl,e2⟩:=jz e2;cases e2;refine⟨au _,fun _=>⟨rfl,?_⟩⟩;cases s' with|nil=>trivial|mk l=>obtain⟨h3,h4⟩:=Q6 (enc:=aS u) hr';simp only[aO]at h3;refine⟨h3,?_⟩;simpa using h4
 cases x with
 |x t v=>
  cases t with
  |sl t=>
   simp only[uc]at hz;obtain⟨h2,hz2⟩:=aP hz;obtain rfl:bA t=sz:=by simpa using h2
   obtain⟨r,hr',hz3⟩:=rO hz2;have hm':m=v.l.length:=by simpa[F3,t8]using hm.symm
   subst hm';refine⟨_,_,_,xY hx,hz3,Q4 hr',cq (dV rfl ⟨?_,rfl⟩),trivial⟩;obtain⟨_,⟨hd,_⟩,_⟩:=oU (v:=.x (.sl t) v) trivial hx;exact hd
  |_=>simp[uc]at hz
 |so id=>
  simp only[uc]at hz;split at hz
  .rename_i ho;exact iP id _ _ _ rfl (.inl ho) hz
  .rename_i ho;exact iP id _ _ _ rfl (.inr ho) hz
  .simp at hz
 |sb id ver off t v=>
  simp only[uc]at hz;obtain⟨h2,hz2⟩:=aP hz;obtain rfl:bA t=sz:=by simpa using h2
  obtain⟨r,hr',hz3⟩:=rO hz2;have hm':m=v.l.length:=by simpa[F3,t8]using hm.symm
  subst hm';refine⟨_,_,ym id (off+(lo.getD 0).toNat) t (v.to r),ql hx ha,hz3,?_,cq (dV rfl ⟨_,rfl,fun _=>rfl,Kz⟩),hk.1,?_⟩
  .cases v with|nil=>exact MB hr'|mk l=>obtain⟨h3,rfl⟩:=nV.1 hr';simp only[Sl.l]at h3;simp only[ym,fU,Bool.false_eq_true,if_false,Sl.to,Sl.l,aO];rw[if_pos ⟨trivial,h3⟩];simp;omega
  .intro u s' v' ho;obtain⟨h3,h4⟩:=hk.2 u s' v' ho;refine⟨h3,fun e=>?_⟩;obtain⟨h5,h6⟩:=h4 e;refine⟨h5,?_⟩;cases s' with
   |nil=>cases v<;>first|trivial|exact h6.elim
   |mk l=>
    cases v with
    |nil=>exact h6.elim
    |mk w=>
     obtain⟨h7,h8⟩:=h6;obtain⟨h9,rfl⟩:=nV.1 hr';simp only[Sl.l]at h9;show off+(lo.getD 0).toNat+((w.drop (lo.getD 0).toNat).take _).length<=l.length/\((l.map (aS u)).drop (off+(lo.getD 0).toNat)).take ((w.drop (lo.getD 0).toNat).take _).length=((w.drop (lo.getD 0).toNat).take _).map (aS t);generalize hA:(lo.getD 0).toNat=A;generalize hB:((hi.getD (Sl.l (Sl.mk w)).length).toNat-A)=B;have hle:A+B<=w.length:=by subst hA hB;simp only[Sl.l];omega
     have hlen:((w.drop A).take B).length=B:=by simp;omega
     refine⟨by omega,?_⟩;rw[hlen,hZ,gz,<-h8,List.drop_take,dz,List.take_take];congr 1;omega
 |nl k=>
  cases k with
  |zero=>
   simp only[uc]at hz;obtain⟨r,hr',hz3⟩:=rO hz;have hm':m=0:=by simpa[F3]using hm.symm
   subst hm';exact⟨_,_,_,vU hx,hz3,MB (α:=Unit) (by simpa[Sl.l]using hr'),cq (dV rfl rfl),trivial⟩
  |succ k=>simp[uc]at hz
 |_=>simp[uc]at hz
theorem Hw:∀(p:pX)(t a:Ty)(l m:Nat),re t p=some (.ar l a)->m<l->IR t p->IR t (p++[.ix m])/\mT t (p++[.ix m])=mT t p+m*bA a:=by
 intro p;induction p with
 |nil=>
  intro t a l m h1 hm _;have e:re t []=some t:=by cases t<;>rfl
  obtain rfl:t=.ar l a:=by rw[e]at h1;exact aa h1
  refine⟨⟨hm,by cases a<;>trivial⟩,?_⟩;simp only[bk,mT];cases a<;>simp[mT]
 |cons q p ih=>
  intro t a l m h1 hm h3;cases q with
  |fd j=>cases t with|st t=>obtain⟨b2,hb,h3⟩:=h3;simp only[re,hb]at h1;obtain⟨q1,q2⟩:=ih b2 a l m h1 hm h3;refine⟨⟨b2,hb,q1⟩,?_⟩;simp only[aU,mT,hb,q2];exact(cO _ _ _).symm|_=>exact h3.elim
  |ix k=>cases t with|ar l' t=>obtain⟨hk,h3⟩:=h3;obtain⟨q1,q2⟩:=ih t a l m h1 hm h3;refine⟨⟨hk,q1⟩,?_⟩;simp only[aU,mT,q2];exact(cO _ _ _).symm|_=>exact h3.elim
theorem Qu{id:Nat}{t u:Ty}{w:Sl (El t)}{w':Sl (El u)}{v v':Nat}(ho:fO h id=some (.ar t w v)\/fO h id=some (.im t w v))(ho':fO h id=some (.ar u w' v')\/fO h id=some (.im u w' v')):Nl u w'=Nl t w/\v'=v:=by
 rcases ho with ho|ho<;>rcases ho' with ho'|ho'<;>(rw[ho]at ho';simp at ho')
 all_goals
  obtain⟨rfl,e,rfl⟩:=ho';cases eq_of_heq e;exact⟨rfl,rfl⟩
theorem K5{id:Nat}{t u:Ty}{w:Sl (El t)}{w':Sl (El u)}{v v':Nat}(ho:fO h id=some (.ar t w v)\/fO h id=some (.im t w v))(ho':fO h id=some (.ar u w' v')\/fO h id=some (.im u w' v')):w'.l.length=w.l.length:=by obtain⟨e,_⟩:=Qu ho ho';obtain⟨rfl,e⟩:=jz e;cases e;rfl
theorem Px{c:C}{t:Ty}{id m sz:Nat}{w:Sl (El t)}{i:Int}{kd:IntKind}{cl:Call}{nx:Nat}(hc:c=mx (bA t) (aS t) id w)(hsz:bA t=sz)(hi:ff i w.l.length=some m):
  cP cl (.indexAddr none sz) [some (.c c),some (tI kd i)] h1 nx=some (.c (.ep id m 0),[],[],nx):=by
 subst hc hsz;cases w with|nil=>exact LH hi|mk l=>exact UP hi
theorem SH{t:Ty}{v:El t}{x:TV}(hx:gb h (.x t v) x):kI t=true:=by obtain⟨_,⟨hd,_⟩,_⟩:=oU (v:=.x t v) trivial hx;exact hd
theorem U0{n':Nat}{t:Ty}{v:El (.ar n' t)}{x:TV}(hx:gb h (.x (.ar n' t) v) x):x=.agg ((aS (.ar n' t) v).map .d):=by obtain⟨cs,⟨_,rfl⟩,h2,_⟩:=oU (v:=.x (.ar n' t) v) trivial hx;exact h2 rfl
theorem EH{n' m:Nat}{t:Ty}(v:El (.ar n' t))(hm:m<n'):m*bA t+bA t<=(aS (.ar n' t) v).length/\((aS (.ar n' t) v).drop (m*bA t)).take (bA t)=aS t (gt v.1 m):=by have hl:v.1.length=n':=v.2;refine⟨?_,zj (bJ t) v.1 m (by omega)⟩;rw[bJ];show _<=n'*bA t;have:(m+1)*bA t<=n'*bA t:=Nat.mul_le_mul_right _ hm;rw[bO,Nat.one_mul]at this;exact this
theorem LJ{x:V}{y:TV}{sz:Nat}{i:Int}{kd:IntKind}
  (hz:(match x with
  |.x (.sl t) v=>bif bA t==sz then(ff i v.l.length).bind fun m=>k (.pt t (gt v.l m)) s []else none
  |.so id=>(match t8 s.heap (.so id)with|some ⟨t,v,_⟩=>bif bA t==sz then(ff i v.l.length).bind fun m=>k (.ep id m t []) s []else none|none=>none)
  |.sb id _ lo t v=>bif bA t==sz then(ff i v.l.length).bind fun m=>k (.ep id (lo+m) t []) s []else none
  |.sr id=>(match fO s.heap id with|some (.rw t v _)=>bif 1==sz then(ff i v.l.length).bind fun m=>k (.ep id m (.sl t) []) s []else none|_=>none)
  |_=>none)=some z)
  (hr:HR s.next h1 s.heap) (hx:gb s.heap x y) (hk:e_ s.next s.heap x) (ha:iw s.heap x=true):zK h1 (.indexAddr none sz) [y,tI kd i] s k z:=by
 cases x with
 |x t v=>
  cases t with
  |sl t=>
   simp only at hz;obtain⟨h2,hz2⟩:=aP hz;obtain⟨m,hm,hz3⟩:=rO hz2;obtain rfl:bA t=sz:=by simpa using h2
   rw[xY hx];exact .pure hr hz3 (x:=.c (.d (.pt (aS t (gt (Sl.l v) m))))) (fun _=>So hm) (cq (dV rfl ⟨SH (t:=.sl t) hx,rfl⟩)) trivial
  |_=>simp at hz
 |so id=>
  simp only at hz;split at hz
  .rename_i t v l hs;obtain⟨h2,hz2⟩:=aP hz;obtain⟨m,hm,hz3⟩:=rO hz2;obtain⟨ver,ho,_⟩:=uB hs;simp only at ho;rw[sB hx (mw ho)];refine .pure hr hz3 (x:=.c (.ep id m 0)) (fun _=>Px rfl (by simpa using h2) hm) (cq (dV rfl (by cases t<;>rfl))) ⟨hk,by cases t<;>trivial,fun u w' v' ho'=>?_,fun u w' v' ho'=>?_⟩
   .have:=(gB.1 hm).2;rw[K5 ho ho'];exact this
   .rcases ho with ho|ho<;>rw[ho]at ho'<;>cases ho'
  .simp at hz
 |sr id=>
  simp only at hz;split at hz
  .rename_i t v ln ho;obtain⟨h2,hz2⟩:=aP hz;obtain⟨m,hm,hz3⟩:=rO hz2;rw[Kg hx (sF ho)];refine .pure hr hz3 (x:=.c (.ep id m 0)) (fun _=>Px (t:=.sl t) rfl (Eq.trans (rfl:bA (.sl t)=1) (beq_iff_eq.1 h2)) hm) (cq (dV rfl rfl)) ⟨hk,trivial,fun u w' v' ho'=>?_,fun u w' v' ho'=>?_⟩
   .rw [ho]at ho';rcases ho' with ho'|ho'<;>cases ho'
   .rw [ho]at ho';cases ho';exact(gB.1 hm).2
  .simp at hz
 |sb id ver lo t v=>
  simp only at hz;obtain⟨h2,hz2⟩:=aP hz;obtain⟨m,hm,hz3⟩:=rO hz2;obtain rfl:bA t=sz:=by simpa using h2
  rw[ql hx ha];have hm2:=(gB.1 hm).2;cases v with
  |nil=>exact LH hm
  |mk w=>refine .pure hr hz3 (x:=.c (.ep id (lo+m) 0)) (fun _=>Sp (l:=w) hm) (cq (dV rfl (by cases t<;>rfl))) ⟨hk.1,by cases t<;>trivial,fun u w' v' ho'=>?_,fun u w' v' ho'=>by obtain⟨u0,s0,ho⟩:=lG (h:=s.heap) (id:=id) (ver:=ver) (dn.1 ha).2;rcases ho with ho|ho<;>rw[ho]at ho'<;>cases ho'⟩;obtain⟨u0,s0,ho⟩:=lG (h:=s.heap) (id:=id) (ver:=ver) (dn.1 ha).2;obtain⟨_,h4⟩:=hk.2 u0 s0 ver ho;obtain⟨_,h6⟩:=h4 rfl;rw[K5 ho ho'];cases s0 with|nil=>exact h6.elim|mk l=>have:=h6.1;simp only[Sl.l]at hm2|-;omega
 |_=>simp at hz
theorem LI{x:V}{y:TV}{n0 sz:Nat}{i:Int}{kd:IntKind}
  (hz:(match x with
  |.op id t p=>(match re t p with|some (.ar n' u)=>bif(n'==n0)&&(bA u==sz)then(ff i n0).bind fun m=>k (.op id t (p++[.ix m])) s []else none|_=>none)
  |.ep id q t p=>(match re t p with|some (.ar n' u)=>bif(n'==n0)&&(bA u==sz)then(ff i n0).bind fun m=>k (.ep id q t (p++[.ix m])) s []else none|_=>none)
  |.pt (.ar n' u) v=>bif(n'==n0)&&(bA u==sz)then(ff i n0).bind fun m=>k (.pt u (gt v.1 m)) s []else none
  |_=>none)=some z)
  (hr:HR s.next h1 s.heap) (hx:gb s.heap x y) (hk:e_ s.next s.heap x):zK h1 (.indexAddr (some n0) sz) [y,tI kd i] s k z:=by
 cases x with
 |op id t p=>
  simp only at hz;split at hz
  .rename_i n' u hu;obtain⟨h2,hz2⟩:=aP hz;obtain⟨m,hm,hz3⟩:=rO hz2;simp only[ai,beq_iff_eq]at h2;obtain⟨rfl,rfl⟩:=h2;obtain⟨rfl,hm2⟩:=gB.1 hm;obtain⟨q1,q2⟩:=Hw p t u n' m hu hm2 hk.2;rw[vT hx];refine .pure hr hz3 (x:=.c (.op id (mT t p+m*bA u))) (fun _=>?_) (cq (dV rfl ?_)) ⟨hk.1,q1⟩
   .simp only[mh,cP,cD,iK];rw[if_pos ⟨by omega,by omega⟩];simp
   .show [_]=[_];rw[q2]
  .simp at hz
 |ep id q t p=>
  simp only at hz;split at hz
  .rename_i n' u hu;obtain⟨h2,hz2⟩:=aP hz;obtain⟨m,hm,hz3⟩:=rO hz2;simp only[ai,beq_iff_eq]at h2;obtain⟨rfl,rfl⟩:=h2;obtain⟨rfl,hm2⟩:=gB.1 hm;obtain⟨q1,q2⟩:=Hw p t u n' m hu hm2 hk.2.1;rw[sC hx];refine .pure hr hz3 (x:=.c (.ep id q (mT t p+m*bA u))) (fun _=>?_) (cq (dV rfl ?_)) ⟨hk.1,q1,hk.2.2⟩
   .simp only[mh,cP,cD,iK];rw[if_pos ⟨by omega,by omega⟩];simp
   .show [_]=[_];rw[q2]
  .simp at hz
 |pt t v=>cases t with|ar n' u=>simp only at hz;obtain⟨h2,hz2⟩:=aP hz;obtain⟨m,hm,hz3⟩:=rO hz2;simp only[ai,beq_iff_eq]at h2;obtain⟨rfl,rfl⟩:=h2;obtain⟨rfl,hm2⟩:=gB.1 hm;obtain⟨hd,rfl⟩:=xZ hx;obtain⟨a1,a2⟩:=EH v hm2;refine .pure hr hz3 (x:=.c (.d (.pt (aS u (gt v.1 m))))) (fun _=>?_) (cq (dV rfl ⟨hd,rfl⟩)) trivial;simp only[mh,cP,cD,iK];rw[if_pos ⟨by omega,by omega⟩];simp only[eu];rw[if_pos a1,a2]|_=>simp at hz
 |_=>simp at hz
end
section
variable{h:H2}{n:Nat}{h1:bF}{β:Type}{s:S2}{k:V->S2->List Nat->Option β}{z:β}
theorem Ck{t u:Ty}{m:Sl (El t)}{m':Sl (El u)}(hc:gM (.sl t) (.sl u) m=some m'):t=u/\m'.l.map (aS u)=m.l.map (aS t):=by obtain⟨e,rfl⟩:=dw hc;cases e;exact⟨rfl,rfl⟩
theorem Qa{c:C}{t:Ty}{id sz:Nat}{w:Sl (El t)}{ver:Nat}(hr:HR n h1 h)(hc:c=mx (bA t) (aS t) id w)(hsz:bA t=sz)(ho:fO h id=some (.ar t w ver)\/fO h id=some (.im t w ver)):
  ∃aA,ji sz h1 c=some (w.l.map (aS t),aA)/\∀i∈aA,i=id:=by
 subst hc hsz;cases w with
 |nil=>exact⟨[],rfl,fun i hi=>by simp at hi⟩
 |mk l=>
  refine⟨[id],?_,fun i hi=>by simpa using hi⟩;rcases ho with ho|ho
  .have hb:=(hr.ob id _ ho).2.1.2.2 l rfl;simp only[mx,ji,hb];rw[if_pos ⟨trivial,by simp⟩,tV];rfl
  .have hb:=(hr.ob id _ ho).2.1.2.2 l rfl;simp only[mx,ji,hb];rw[if_pos ⟨trivial,by simp⟩,tV];rfl
theorem NT{id lo ver sz:Nat}{t:Ty}{r:Sl (El t)}(hr:HR n h1 h)(hk:e_ n h (.sb id ver lo t r))(ha:iw h (.sb id ver lo t r)=true)(hsz:bA t=sz):
  ∃aA,ji sz h1 (ym id lo t r)=some (r.l.map (aS t),aA)/\∀i∈aA,i=id:=by
 subst hsz;obtain⟨u,s0,ho⟩:=lG (h:=h) (id:=id) (ver:=ver) (dn.1 ha).2;obtain⟨_,h4⟩:=hk.2 u s0 ver ho;obtain⟨h5,h6⟩:=h4 rfl;cases r with
 |nil=>exact⟨[],rfl,fun i hi=>by simp at hi⟩
 |mk w=>
  cases s0 with
  |nil=>exact h6.elim
  |mk l=>
   refine⟨[id],?_,fun i hi=>by simpa using hi⟩
   have hb:aB h1 id=some (.aM (bA u) (l.map (aS u)))\/aB h1 id=some (.pG (bA u) (l.map (aS u))):=by
    rcases ho with ho|ho
    .exact .inl ((hr.ob id _ ho).2.1.2.2 l rfl)
    .exact .inr ((hr.ob id _ ho).2.1.2.2 l rfl)
   rcases hb with hb|hb
   .simp only[ym,ji,hb];rw[if_pos ⟨trivial,by simpa using h6.1⟩];rw[aO,h6.2];rfl
   .simp only[ym,ji,hb];rw[if_pos ⟨trivial,by simpa using h6.1⟩];rw[aO,h6.2];rfl
theorem G_{x:V}{y:TV}{t0 t:Ty}{m:Sl (El t)}{l:List Nat}{sz:Nat}(hr:HR n h1 h)(hx:gb h x y)(hk:e_ n h x)(ha:iw h x=true)(hs:Kw t0 h x=some ⟨t,m,l⟩)(hsz:bA t=sz):
  ∃c aA,y=.c c/\ji sz h1 c=some (m.l.map (aS t),aA)/\∀i∈aA,i∈l:=by
 cases x with
 |nl j=>cases j with|zero=>simp only[Kw]at hs;obtain⟨rfl,e⟩:=jz (aa hs);obtain⟨rfl,rfl⟩:=ad (eq_of_heq e);exact⟨_,[],vU hx,rfl,fun i hi=>by simp at hi⟩|succ j=>simp[Kw,t8]at hs
 |x u v=>cases u with|sl u=>simp only[Kw,t8]at hs;obtain⟨rfl,e⟩:=jz (aa hs);obtain⟨rfl,rfl⟩:=ad (eq_of_heq e);subst hsz;exact⟨_,[],xY hx,NS,fun i hi=>by simp at hi⟩|_=>simp[Kw,t8]at hs
 |so id=>obtain⟨ver,ho,e⟩:=uB (h:=h) (id:=id) hs;obtain rfl:l=[id]:=e;obtain⟨aA,q1,q2⟩:=Qa hr rfl hsz ho;exact⟨_,aA,sB hx (mw ho),q1,fun i hi=>by simpa using q2 i hi⟩
 |sb id ver lo u r=>simp only[Kw,t8]at hs;obtain⟨rfl,e⟩:=jz (aa hs);obtain⟨rfl,rfl⟩:=ad (eq_of_heq e);obtain⟨aA,q1,q2⟩:=NT hr hk ha hsz;exact⟨_,aA,ql hx ha,q1,fun i hi=>by simpa using q2 i hi⟩
 |_=>simp[Kw,t8]at hs
def uh(s:S2):Option Nat->S2
 |none=>s
 |some id=>eD s id none
theorem Cs{l_:Option Nat}{t:Ty}{w:Sl (El t)}{u:fC}{aA l:List Nat}{m:Nat}(hr:HR s.next h1 s.heap)(hkl:∀id,l_=some id->id<s.next)(hd:CE t=true)(hu:∀p∈u,p.1=s.next\/l_=some p.1)(hl:∀i∈aA,i∈l)(hm:m<=s.next+1)
  (hb:∀l,w=.mk l->aB (u++h1) s.next=some (.aM (bA t) (l.map (aS t)))) {x:TV} (hx:x=.c (mx (bA t) (aS t) s.next w)):rb s (jF (uh s l_) (.ar t w 0)) h1 x u aA m (.so s.next) l:=by
 have hnx:(uh s l_).next=s.next:=by cases l_<;>rfl
 have hh:(jF (uh s l_) (.ar t w 0)).heap=(s.next,some (.ar t w 0))::(uh s l_).heap:=by simp only[jF,hnx]
 have hfo:∀i,fO (jF (uh s l_) (.ar t w 0)).heap i=if s.next=i then some (.ar t w 0)else if l_=some i then none else fO s.heap i:=by intro i;rw[hh,c_];cases l_ with|none=>simp[uh]|some id=>simp only[uh,eD,c_,bm]
 have hnn:(jF (uh s l_) (.ar t w 0)).next=s.next+1:=by simp only[jF,hnx]
 refine rb.EW (s.next::l_.toList) hr ⟨fun i o' hi ho=>?_⟩ ?_ ?_ ?_ ?_ hl ?_ ?_ ?_ ?_ ?_ ?_ (fun i hi h=>by rw[hfo,if_neg (by omega)];split<;>first|rfl|exact h)
 .rw [hfo,if_neg (by omega)]at ho;split at ho
  .simp at ho
  .exact .inl ⟨o',ho,sy.refl _⟩
 .cases l_<;>rfl
 .cases l_<;>rfl
 .rw [hnn];exact hm
 .rw [hnn];omega
 .cases l_<;>simp[jF,uh,eD]
 .intro p hp;rcases hu p hp with e|e
  .simp [e]
  .simp [e]
 .intro i hi;rw[hfo,if_neg (fun e=>hi (by simp[e])),if_neg (fun e=>hi (by simp[e]))]
 .intro i hi o ho;rw[hfo]at ho;split at ho
  .rename_i e;subst e;obtain rfl:=aa ho;obtain⟨h3,h4⟩:=qh hd;exact⟨by rw[hnn];omega,⟨h3,h4,hb⟩,trivial⟩
  .rename_i e;split at ho
   .simp at ho
   .rename_i e2;rcases aN.1 hi with hi|hi
    .exact absurd hi.symm e
    .exact absurd (by simpa using hi) e2
 .rw [hx,hh,show s.next=s.next from rfl];exact wj
 .rw [hnn];exact aY _
theorem Jr{sz:Nat}{c:C}{new:List (List D)}{aA:List Nat}(hx:ji sz h1 c=some (new,aA))(hl:new.length<=2147483648){nx:Nat}{cl:Call}:
  cP cl (.append sz) [some (.c (.d (.lit (.slice none 0 0)))),some (.c c)] h1 nx=if new=[]then some (.c (.d (.lit (.slice none 0 0))),[],aA,nx)else some (.c (.fw sz nx 0 new.length),[(nx,some (.aM sz new))],aA,nx+1):=by
 simp only[cP,oB,hx];rw[if_pos (by simpa[DU]using hl)];cases new<;>simp
theorem vI{l_:Option Nat}{t:Ty}{xs r:List (El t)}{sz:Nat}{c:C}{aA l:List Nat}(hr:HR s.next h1 s.heap)(hkl:∀id,l_=some id->id<s.next)(hd:CE t=true)(hsz:bA t=sz)(hx:ji sz h1 c=some (xs.map (aS t),aA))(hc:iG ([]++xs)=some r)
  (hl:∀i∈aA,i∈l) (hz:k (.so s.next) (jF (uh s l_) (.ar t (kO Sl.nil xs r) 0)) l=some z):zK h1 (.append sz) [.c (.d (.lit (.slice none 0 0))),.c c] s k z:=by
 subst hsz;obtain⟨rfl,hlen⟩:=wM.1 hc;refine⟨_,_,_,hz,fun cl=>?_⟩;simp only[aD,aW];rw[Jr hx (by simpa using hlen)];cases xs with|nil=>exact⟨_,_,_,_,rfl,Cs hr hkl hd (fun p hp=>by simp at hp) hl (bH _) (fun l e=>by cases e) rfl⟩|cons y ys=>refine⟨_,_,_,_,if_neg (by simp),Cs hr hkl hd (fun p hp=>by simp at hp;simp[hp]) hl (au _) (fun l e=>?_) rfl⟩;simp only[kO,bk]at e;cases e;rw[aZ,dE,if_pos rfl]
theorem HT{t:Ty}{w xs r:List (El t)}{sz id off:Nat}{aq:List (List D)}{c:C}{aA l:List Nat}(hr:HR s.next h1 s.heap)(hid:id<s.next)(hd:CE t=true)(hsz:bA t=sz)(hl1:aB h1 id=some (.aM sz aq))(hle:off+w.length<=aq.length)(hro:aq.length<=off+(w.length+xs.length))(he:(aq.drop off).take w.length=w.map (aS t))
  (hx:ji sz h1 c=some (xs.map (aS t),aA)) (hc:iG (w++xs)=some r) (hl:∀i∈id::aA,i∈l) (hz:k (.so s.next) (jF (eD s id none) (.ar t (kO (.mk w) xs r) 0)) l=some z):
  zK h1 (.append sz) [.c (.fw sz id off (w.map (aS t)).length),.c c] s k z:=by
 subst hsz;obtain⟨rfl,hlen⟩:=wM.1 hc;have ea:kO (.mk w) xs (w++xs)=.mk (w++xs):=by cases xs<;>rfl
 rw[ea]at hz;refine⟨_,_,_,hz,fun cl=>⟨.c (.fw (bA t) s.next 0 ((w++xs).map (aS t)).length),[(id,none),(s.next,some (.aM (bA t) ((w++xs).map (aS t))))],id::aA,s.next+1,?_,?_⟩⟩
 .simp only[aD,aW,cP,oB,hx,hl1];simp only[aO,av]at hlen|-;rw[if_pos ⟨trivial,by omega,by simpa[DU]using hlen⟩,he,<-gO,List.drop_eq_nil_of_le (by omega),List.append_nil]
 .refine Cs (l_:=some id) hr (fun i e=>by cases e;exact hid) hd (fun p hp=>?_) hl (au _) (fun l e=>?_) rfl
  .simp only[aN,gj,or_false]at hp;rcases hp with rfl|rfl<;>simp
  .cases e;rw[aU,dE,if_neg (by omega),aZ,dE,if_pos rfl]
theorem EJ{a x:V}{ya yx:TV}{t0:Ty}{sz:Nat}
  (hz:(match Kw t0 s.heap x with
  |some ⟨t,m,aA⟩=>bif(bA t==sz)&&CE t then(match a with
   |.nl 0=>(iG ([]++m.l)).bind fun r=>k (.so s.next) (jF s (.ar t (kO Sl.nil m.l r) 0)) aA
   |.x (.sl _) v=>bif Sl.fP v then((iG ([]++m.l)).bind fun r=>k (.so s.next) (jF s (.ar t (kO Sl.nil m.l r) 0)) aA)else none
   |.so id=>(match fO s.heap id with
    |some (.ar u v _)=>(match gM (.sl t) (.sl u) m with
     |some m=>(iG (v.l++m.l)).bind fun r=>k (.so s.next) (jF (eD s id none) (.ar u (kO v m.l r) 0)) (id::aA)
     |none=>none)
    |_=>none)
   |.sb id _ lo u v=>(match fO s.heap id,gM (.sl t) (.sl u) m with
    |some (.ar _ s0 _),some m=>bif Nat.ble s0.l.length (lo+(v.l.length+m.l.length))then((iG (v.l++m.l)).bind fun r=>k (.so s.next) (jF (eD s id none) (.ar u (kO v m.l r) 0)) (id::aA))else none
    |_,_=>none)
   |_=>none)else none
  |none=>none)=some z)
  (hr:HR s.next h1 s.heap) (ha1:gb s.heap a ya) (ha2:e_ s.next s.heap a) (ha3:iw s.heap a=true) (hx:gb s.heap x yx) (hk:e_ s.next s.heap x) (ha:iw s.heap x=true):zK h1 (.append sz) [ya,yx] s k z:=by
 split at hz
 .rename_i t m l hs;obtain⟨h2,hz2⟩:=aP hz;simp only[ai,beq_iff_eq]at h2;obtain⟨hsz,hd⟩:=h2;obtain⟨c,aA,rfl,q1,q2⟩:=G_ hr hx hk ha hs hsz;clear hz;cases a with
  |nl j=>cases j with|zero=>obtain⟨r,hc,hz3⟩:=rO hz2;rw[vU ha1];exact vI (l_:=none) hr (fun _ e=>by cases e) hd hsz q1 hc q2 hz3|succ j=>simp at hz2
  |x u v=>
   cases u with
   |sl u=>obtain⟨hnil,hz3⟩:=aP hz2;obtain⟨r,hc,hz4⟩:=rO hz3;cases v with|mk=>cases hnil|nil=>obtain⟨cc,rfl,hcc⟩:=jq (v:=.x (.sl u) Sl.nil) ha1 rfl;obtain rfl:cc=DG 0:=(List.cons.inj hcc.2).1;exact vI (l_:=none) hr (fun _ e=>by cases e) hd hsz q1 hc q2 hz4
   |_=>simp at hz2
  |so id=>
   simp only at hz2;split at hz2
   .rename_i u v ver ho;split at hz2
    .rename_i m' hm;obtain⟨rfl,e⟩:=Ck hm;obtain⟨r,hc,hz3⟩:=rO hz2;rw[sB ha1 (mw (.inl ho))];rw[<-e]at q1;cases v with
     |nil=>exact vI (l_:=some id) hr (fun _ e=>by cases e;exact ha2) hd hsz q1 hc (fun i hi=>aC _ (q2 i hi)) hz3
     |mk w=>
      have hb:=(hr.ob id _ ho).2.1.2.2 w rfl;subst hsz;refine HT (w:=w) hr ha2 hd rfl hb (by simp) (by simp only[aO];omega) (by rw[<-aO (f:=aS t)];exact tV) q1 hc (fun i hi=>?_) hz3;rcases aN.1 hi with rfl|hi
      .exact cn ..
      .exact aC _ (q2 i hi)
    .simp at hz2
   .simp at hz2
  |sb id ver lo u v=>
   simp only at hz2;split at hz2
   .rename_i u0 s0 v0 m' ho hm;obtain⟨rfl,e⟩:=Ck hm;obtain⟨hgd,hz2b⟩:=aP hz2;obtain⟨r,hc,hz3⟩:=rO hz2b;rw[ql ha1 ha3];rw[<-e]at q1;cases v with
    |nil=>exact vI (l_:=some id) hr (fun _ e=>by cases e;exact ha2.1) hd hsz q1 hc (fun i hi=>aC _ (q2 i hi)) hz3
    |mk w=>
     obtain⟨u1,s1,ho1⟩:=lG (h:=s.heap) (id:=id) (ver:=ver) (dn.1 ha3).2;obtain⟨_,h4⟩:=ha2.2 u1 s1 ver ho1;obtain⟨h5,h6⟩:=h4 rfl
     have ho2:fO s.heap id=some (.ar u1 s1 ver):=by
      rcases ho1 with ho1|ho1
      .exact ho1
      .rw [ho]at ho1;simp at ho1
     cases s1 with
     |nil=>exact h6.elim
     |mk l1=>
      have hb:=(hr.ob id _ ho2).2.1.2.2 l1 rfl;subst hsz;rw[h5]at hb
      refine HT (w:=w) hr ha2.1 hd rfl hb (by simpa using h6.1) (by
       rw[ho2]at ho;obtain⟨rfl,e2,_⟩:u1=u0/\_:=by simpa using ho
       cases eq_of_heq e2;have:=jc hgd;simpa[Sl.l]using this) h6.2 q1 hc (fun i hi=>?_) hz3
      rcases aN.1 hi with rfl|hi
      .exact cn ..
      .exact aC _ (q2 i hi)
   .simp at hz2
  |_=>simp at hz2
 .simp at hz
end
section
variable{h:H2}{n:Nat}{h1:bF}{β:Type}{s:S2}{k:V->S2->List Nat->Option β}{z:β}
theorem GZ{id:Nat}{o o':O}{u:fC}{x:TV}{v:V}{aA l:List Nat}(hr:HR s.next h1 s.heap)(ho:fO s.heap id=some o)(hs:sy o o')(hu:∀p∈u,p.1=id)(hb:vn ((id,some o')::s.heap) o' (aB (u++h1) id))(hko:CF s.next ((id,some o')::s.heap) o')
  (hx:gb ((id,some o')::s.heap) v x) (hk:e_ s.next ((id,some o')::s.heap) v) (hl:∀i∈aA,i∈l):rb s (eD s id (some o')) h1 x u aA s.next v l:=by
 refine rb.EW [id] hr (jy.CM ho hs) rfl rfl (au _) (au _) hl rfl (fun p hp=>by simp[hu p hp]) (fun i hi=>?_) (fun i hi o2 ho2=>?_) hx hk (fun i _ h=>by simp only[eD];rw[c_,if_neg (fun e=>by rw[e,h]at ho;cases ho)];exact h)
 .simp only[eD];rw[c_,if_neg fun e=>hi (by simp[e])]
 .obtain rfl:=am.1 hi;simp only[eD,tT]at ho2;obtain rfl:=aa ho2;exact⟨(hr.ob _ _ ho).1,hb,hko⟩
theorem rQ{id ver:Nat}{t:Ty}{w w':Sl (El t)}{u:fC}{x:TV}{v:V}{aA l:List Nat}(hr:HR s.next h1 s.heap)(ho:fO s.heap id=some (.ar t w ver))(hn:w.fP=w'.fP)(hlen:w.l.length=w'.l.length)(hu:∀p∈u,p.1=id)
  (hb:∀l,w'=.mk l->aB (u++h1) id=some (.aM (bA t) (l.map (aS t)))) (hx:∀g,gb g v x) (hk:∀n g,e_ n g v) (hl:∀i∈aA,i∈l):rb s (eD s id (some (.ar t w' (ver+1)))) h1 x u aA s.next v l:=by
 obtain⟨h2,h3,_⟩:=(hr.ob id _ ho).2.1;exact GZ hr ho ⟨bH _,rfl,hn,hlen,fun e=>by omega⟩ hu ⟨h2,h3,hb⟩ trivial (hx _) (hk _ _) hl
theorem JD{a x:V}{ya yx:TV}{t0:Ty}{sz:Nat}
  (hz:(match Kw t0 s.heap x with
  |some ⟨t,m,aA⟩=>bif bA t==sz then(match a with
   |.nl 0=>k (.x (.i .i64) (0:Int)) s aA
   |.so id=>(match fO s.heap id with
    |some (.ar u v ver)=>(match gM (.sl t) (.sl u) m with
     |some m=>k (.x (.i .i64) ((min m.l.length v.l.length:Nat):Int)) (eD s id (some (.ar u (v.to (MI v.l 0 v.l.length m.l)) (ver+1)))) (id::aA)
     |none=>none)
    |_=>none)
   |.sb id ver lo _ v=>(match fO s.heap id with
    |some (.ar u w ver')=>(match gM (.sl t) (.sl u) m with
     |some m=>bif ver'==ver then k (.x (.i .i64) ((min m.l.length v.l.length:Nat):Int)) (eD s id (some (.ar u (w.to (MI w.l lo v.l.length m.l)) (ver+1)))) (id::aA)else none
     |none=>none)
    |_=>none)
   |_=>none)else none
  |none=>none)=some z)
  (hr:HR s.next h1 s.heap) (ha1:gb s.heap a ya) (ha2:e_ s.next s.heap a) (ha3:iw s.heap a=true) (hx:gb s.heap x yx) (hk:e_ s.next s.heap x) (ha:iw s.heap x=true):zK h1 (.copy sz) [ya,yx] s k z:=by
 have hmem:∀{id:Nat}{aA l:List Nat},(∀i∈aA,i∈l)->∀i∈id::aA,i∈id::l:=fun q i hi=>by
  rcases aN.1 hi with rfl|hi
  .exact cn ..
  .exact aC _ (q i hi)
 split at hz
 .rename_i t m l hs;obtain⟨h2,hz2⟩:=aP hz;obtain rfl:bA t=sz:=by simpa using h2
  obtain⟨c,aA,rfl,q1,q2⟩:=G_ hr hx hk ha hs rfl;clear hz;cases a with
  |nl j=>cases j with|zero=>rw[vU ha1];exact⟨_,_,_,hz2,fun cl=>⟨tI .i64 0,[],aA,s.next,by simp only[aD,aW,cP,mA,DG,q1];rfl,rb.pure hr (xi _ _) trivial q2⟩⟩|succ j=>simp at hz2
  |so id=>
   simp only at hz2;split at hz2
   .rename_i u v ver ho;split at hz2
    .rename_i m' hm;obtain⟨rfl,e⟩:=Ck hm;rw[sB ha1 (mw (.inl ho))];rw[<-e]at q1;cases v with
     |nil=>refine⟨_,_,_,hz2,fun cl=>⟨tI .i64 0,[],aA,s.next,by simp only[aD,aW,cP,mA,mx,q1];rfl,?_⟩⟩;exact rQ hr ho rfl rfl (fun p hp=>by simp at hp) (fun l e=>by cases e) (fun g=>by simpa[Sl.l]using xi .i64 0) (fun _ _=>trivial) fun i hi=>aC _ (q2 i hi)
     |mk w=>
      have hb:=(hr.ob id _ ho).2.1.2.2 w rfl;refine⟨_,_,_,hz2,fun cl=>⟨_,_,_,_,Q7 hb q1,?_⟩⟩;refine rQ hr ho rfl ?_ (fun p hp=>by simp at hp;simp[hp]) (fun l e=>?_) (fun g=>xi _ _) (fun _ _=>trivial) (hmem q2)
      .simp only[Sl.to,Sl.l];rw[uR (by omega)]
      .simp only[Sl.to,Sl.l]at e;cases e;rw[aZ,dE,if_pos rfl];rfl
    .simp at hz2
   .simp at hz2
  |sb id ver lo u0 v=>
   simp only at hz2;split at hz2
   .rename_i u w ver' ho;split at hz2
    .rename_i m' hm;obtain⟨rfl,e⟩:=Ck hm;obtain⟨h3,hz3⟩:=aP hz2;obtain rfl:ver'=ver:=by simpa using h3
     rw[ql ha1 ha3];rw[<-e]at q1;obtain⟨_,h4⟩:=ha2.2 t w ver' (.inl ho);obtain⟨h5,h6⟩:=h4 rfl;cases v with
     |nil=>cases w with|mk w=>exact h6.elim|nil=>refine⟨_,_,_,hz3,fun cl=>⟨tI .i64 0,[],aA,s.next,by simp only[aD,aW,cP,mA,ym,q1];rfl,?_⟩⟩;exact rQ hr ho rfl rfl (fun p hp=>by simp at hp) (fun l e=>by cases e) (fun g=>by simpa[Sl.l]using xi .i64 0) (fun _ _=>trivial) fun i hi=>aC _ (q2 i hi)
     |mk v=>
      cases w with
      |nil=>exact h6.elim
      |mk w=>
       have hb:=(hr.ob id _ ho).2.1.2.2 w rfl;refine⟨_,_,_,hz3,fun cl=>⟨tI .i64 (min m'.l.length v.length:Nat),[(id,some (.aM (bA t) ((MI w lo v.length m'.l).map (aS t))))],id::aA,s.next,?_,?_⟩⟩
       .simp only[aD,aW,cP,mA,ym,q1,hb,<-h5];rw[if_pos ⟨trivial,by simpa using h6.1⟩];simp only[Gz,aO];rfl
       .refine rQ hr ho rfl ?_ (fun p hp=>by simp at hp;simp[hp]) (fun l e=>?_) (fun g=>xi _ _) (fun _ _=>trivial) (hmem q2)
        .simp only[Sl.to,Sl.l];rw[uR h6.1]
        .simp only[Sl.to,Sl.l]at e;cases e;rw[aZ,dE,if_pos rfl];rfl
    .simp at hz2
   .simp at hz2
  |_=>simp at hz2
 .simp at hz
theorem CP{g:H2}:gb g (.tp .ni) (.iR []):=⟨[],rfl,rfl⟩
theorem GG{a:V}{ya:TV}{zz:List Value}
  (hz:(match a with
  |.sb id ver lo _ v=>(match fO s.heap id with
   |some (.ar u w ver')=>bif(ver'==ver)&&t6 (ny u) zz&&CE u then(OT w lo v.l.length (ss u)).bind fun w=>k (.tp .ni) (eD s id (some (.ar u w (ver+1)))) [id]else none
   |_=>none)
  |_=>none)=some z)
  (hr:HR s.next h1 s.heap) (ha1:gb s.heap a ya) (ha2:e_ s.next s.heap a) (ha3:iw s.heap a=true):zK h1 (.clear zz) [ya] s k z:=by
 cases a with
 |sb id ver lo u0 v=>
  simp only at hz;split at hz
  .rename_i u w ver' ho;obtain⟨h3,hz2⟩:=aP hz;simp only[ai,beq_iff_eq]at h3;obtain⟨⟨rfl,q1⟩,q2⟩:=h3;have q1:=rh q1;subst q1;obtain⟨hd,_⟩:=qh q2;obtain⟨w',hw,hz3⟩:=rO hz2;rw[ql ha1 ha3];obtain⟨_,h4⟩:=ha2.2 u w ver' (.inl ho);obtain⟨h5,h6⟩:=h4 rfl;have hzl:cE (ny u)=aS u (ss u):=(rg u hd).symm;have hlen:bA u=(ny u).length:=by have:=congrArg mM hzl;rw[bJ,cE,aO]at this;exact this.symm
   cases w with
   |nil=>simp[OT]at hw
   |mk w=>
    cases v with
    |nil=>exact h6.elim
    |mk v=>
     simp only[OT,bm]at hw;subst hw;have hb:=(hr.ob id _ ho).2.1.2.2 w rfl;refine⟨_,_,_,hz3,fun cl=>⟨.iR [],[(id,some (.aM (bA u) ((MI w lo v.length (az v.length (ss u))).map (aS u))))],[id],s.next,?_,?_⟩⟩
     .simp only[aD,aW,cP,pf,ym,hb,<-h5];rw[if_pos ⟨hlen,by simpa using h6.1⟩,hzl,<-Gz];simp[aO,List.map_replicate,List.take_of_length_le]
     .refine rQ hr ho rfl ?_ (fun p hp=>by simp at hp;simp[hp]) (fun l e=>?_) (fun g=>CP) (fun _ _=>trivial) (fun i hi=>hi)
      .simp only[Sl.l];rw[uR (by simpa using h6.1)]
      .cases e;rw[aZ,dE,if_pos rfl];rfl
  .simp at hz
 |_=>simp at hz
theorem CU{id m:Nat}{t:Ty}{p:pX}{w:V}{ya yw:TV}(hr:HR s.next h1 s.heap)(ha1:gb s.heap (.op id t p) ya)(ha2:e_ s.next s.heap (.op id t p))(hx:gb s.heap w yw)(hk:e_ s.next s.heap w)
  (hz:(bif(x_ w==m)then(match fO s.heap id with
  |some (.bx u c)=>bif decide (u=t)then(match re t p with
   |some a=>(match Nh a w with
    |some w=>(match oG c p w with|some c=>bif eI c false t then k (.tp .ni) (eD s id (some (.bx t c))) [id]else none|none=>none)
    |none=>none)
   |none=>none)else none
  |_=>none)else none)=some z):zK h1 (.store m) [ya,yw] s k z:=by
 obtain⟨h2,hz2⟩:=aP hz;simp only[beq_iff_eq]at h2;clear hz;split at hz2
 .rename_i u c ho;obtain⟨h3,hz3⟩:=aP hz2;simp only[decide_eq_true_eq]at h3;subst h3;clear hz2;split at hz3
  .rename_i a ha;split at hz3
   .rename_i w' hw;split at hz3
    .rename_i c' hc;obtain⟨h4,hz4⟩:=aP hz3;obtain⟨cw,e1,e2⟩:=qH (oU (FS hw) hx);obtain⟨q1,q2,q3,q4⟩:=yJ hw e1 hk;obtain⟨_,⟨cs,e3,e4,e5⟩,e6⟩:=hr.ob id _ ho;have l1:cw.length=x_ w:=iB e1;have l2:cw.length=bA a:=by rw[iB q1,gV _ _ _ q2]
     have l3:cs.length=bA u:=by rw[iB e4,gV _ _ _ e5]
     have l4:=wi p u a ha ha2.2;have q5:=vZ p c u w' c' cs cw a e5 e4 ha2.2 hc ha q1 l2;have q6:=G6 p c w' c' e6 q3 hc;rw[vT ha1];have hos:sy (.bx u c) (.bx u c'):=rfl;refine .CM hr ho hos hz4 (fun cl=>?_) (b:=some (.box (aV cs (mT u p) cw))) ?_ ?_ CP trivial (aA:=[id]) fun i hi=>hi
     .simp only[aD,aW,cP,mn,e2];rw[if_pos (l1.trans h2)];simp only[e3];rw[if_pos (by omega)]
     .exact ⟨_,rfl,lF (jy.CM ho hos) q6 q5,h4⟩
     .exact gR (au _) (jy.CM ho hos) q6
    .simp at hz3
   .simp at hz3
  .simp at hz3
 .simp at hz2
theorem rb.seq{s1 s':S2}{fu u:fC}{x:TV}{aA a l:List Nat}{m:Nat}{v:V}(eM:jy s.next s.heap s1.heap)(he:s1.dG=s.dG)(hg:s1.gh=s.gh)(hn:s1.next=s.next)(hwo:s1.wo=a++s.wo)(hu:∀p∈fu,p.1∈a)(hf:∀id,id∉a->fO s1.heap id=fO s.heap id)
  (hna:∀i∈a,fO s.heap i≠none) (hd:rb s1 s' (fu++h1) x u aA m v l):rb s s' h1 x (u++fu) aA m v l:=by
 obtain⟨d1,d2,d3,d4,d5,d6,d7,d8,d9,d10,W,w1,w2,w3⟩:=hd;refine⟨d1,d2,by rw[aJ];exact d3,jy.trans (Nat.le_of_eq hn.symm) eM d4,d5.trans he,d6.trans hg,d7,by omega,d9,fun i hi h=>d10 i (by omega) ((hf i fun q=>hna i q h).trans h),W++a,by rw[w1,hwo,aJ],fun p hp=>?_,fun i hi=>?_⟩
 .rcases ap.1 hp with hp|hp
  .exact aE _ (w2 p hp)
  .exact aG _ (hu p hp)
 .rw [w3 i fun q=>hi (aE _ q),hf i fun q=>hi (aG _ q)]
theorem L5{v w:V}{l:List Nat}(hf:jk h v=some (w,l)):N3 v:=by cases v<;>first|trivial|(simp[jk]at hf)
theorem pC{a b:List D}(e:a.map C.d=b.map C.d):a=b:=by
 induction a generalizing b with
 |nil=>cases b with|nil=>rfl|cons y b=>simp at e
 |cons x a ih=>cases b with|nil=>simp at e|cons y b=>simp only[aD,dN,C.d.injEq]at e;rw[e.1,ih e.2]
theorem Q3:∀(p:pX)(t u:Ty),kI t=true->re t p=some u->kI u=true:=by
 intro p;induction p with
 |nil=>
  intro t u hd h;have e:re t []=some t:=by cases t<;>rfl
  rw[e]at h;exact aa h▸hd
 |cons q p ih=>
  intro t u hd h;cases q with
  |fd i=>
   cases t with
   |st t=>
    simp only[re]at h;split at h
    .rename_i w hw;exact ih w u (zu t i w hd hw) h
    .simp at h
   |_=>simp[re]at h
  |ix i=>cases t with|ar l t=>exact ih t u hd h|_=>simp[re]at h
theorem Hk(t:Ty):mT t []=0:=by cases t<;>rfl
theorem Fh{t:Ty}{l:List (Sl (El t))}{ln:Option (Nat×Nat)}{m:Nat}{r:Sl (El t)}(h:G5 ln m=true):(eU t l ln).set m (oV t r)=eU t (l.set m r) none:=by cases ln with|none=>simp only[eU,List.map_set]|some q=>obtain⟨m',i⟩:=q;obtain rfl:m'=m:=Nat.eq_of_beq_eq_true h;simp only[eU,List.map_set,List.set_set]
theorem Fi{t:Ty}{l:List (Sl (El t))}{ln:Option (Nat×Nat)}:(eU t l ln).length=l.length:=by cases ln with|none=>simp[eU]|some q=>obtain⟨m',i⟩:=q;simp[eU]
theorem yA{id id2 m:Nat}{t:Ty}{l:List (Sl (El t))}{ln:Option (Nat×Nat)}{o2:O}{r:Sl (El t)}{u:fC}{aA:List Nat}(hr:HR s.next h1 s.heap)(ho:fO s.heap id=some (.rw t (.mk l) ln))(ho2:fO s.heap id2=some o2)(hne:id2≠id)(hlnm:G5 ln m=true)
  (hu:∀p∈u,p.1=id\/p.1=id2) (hb:aB (u++h1) id=some (.nst (bA t) ((eU t l ln).set m (oV t r)))) (hids:∀i∈aA,i∈[id,id2]):
  rb s (eD (eD s id2 none) id (some (.rw t (.mk (l.set m r)) none))) h1 (.iR []) u aA s.next (.tp .ni) [id,id2]:=by
 have eM:jy s.next s.heap ((id,some (.rw t (.mk (l.set m r)) none))::(id2,none)::s.heap):=by refine jy.trans (au _) (jy.l_ id2) (jy.CM (o:=.rw t (.mk l) ln) ?_ ⟨rfl,rfl,by simp[Sl.l]⟩);rw[c_,if_neg hne];exact ho
 refine rb.EW [id,id2] hr eM rfl rfl (au _) (au _) hids rfl (fun p hp=>?_) (fun i hi=>?_) (fun i hi o ho'=>?_) CP trivial (fun i _ h=>?_)
 .rcases hu p hp with e|e<;>simp[e]
 .simp only[aN,gj,or_false,not_or]at hi;simp only[eD];rw[c_,if_neg (fun e=>hi.1 e.symm),c_,if_neg (fun e=>hi.2 e.symm)]
 .simp only[eD]at ho';by_cases hi1:id=i
  .subst hi1;rw[c_,if_pos rfl]at ho';obtain rfl:=aa ho';obtain⟨a,⟨d1,d2,_⟩,_⟩:=hr.ob _ _ ho;exact⟨a,⟨d1,d2,fun l' e=>by cases e;rw[hb,Fh hlnm]⟩,trivial⟩
  .rw [c_,if_neg hi1]at ho';simp only[aN,gj,or_false]at hi;rcases hi with rfl|rfl
   .exact absurd rfl hi1
   .rw [c_,if_pos rfl]at ho';cases ho'
 .simp only[eD];rw[c_,if_neg (fun e=>by subst e;rw[ho]at h;cases h),c_,if_neg (fun e=>by subst e;rw[ho2]at h;cases h)];exact h
theorem rb.nx{s s':S2}{x:TV}{u:fC}{aA l:List Nat}{m q:Nat}{v:V}(d:rb s s' h1 x u aA m v l)(hq:q<=s'.next):rb s s' h1 x u aA q v l:=⟨d.val,d.U8,d.hr,d.eM,d.dG,d.gh,hq,d.le,d.aA,d.nb,d.wo⟩
theorem CV{id m q:Nat}{t:Ty}{p:pX}{w:V}{ya yw:TV}(hr:HR s.next h1 s.heap)(ha1:gb s.heap (.ep id m t p) ya)(ha2:e_ s.next s.heap (.ep id m t p))(hx:gb s.heap w yw)(hk:e_ s.next s.heap w)(ha:iw s.heap w=true)
  (hz:(bif(x_ w==q)then Fa id m t p w s (fun s l=>k (.tp .ni) s l)else none)=some z):zK h1 (.store q) [ya,yw] s k z:=by
 obtain⟨h2,hz2⟩:=aP hz;simp only[beq_iff_eq]at h2;clear hz;unfold Fa at hz2;split at hz2
 .rename_i u v ln ho;split at hz2
  .rename_i id2;split at hz2
   .rename_i u2 r ver ho2;split at hz2
    .rename_i r' hr';obtain⟨h3,hz3⟩:=aP hz2;simp only[ai,decide_eq_true_eq,Bool.not_eq_true',beq_eq_false_iff_ne]at h3;obtain⟨⟨rfl,hne⟩,hln⟩:=h3;obtain⟨e,e2⟩:=dw hr';cases e;obtain rfl:r'=r:=e2;have hlen:=ha2.2.2.2 _ _ _ ho;obtain⟨_,⟨d1,d2,d3⟩,_⟩:=hr.ob id _ ho;obtain⟨_,⟨_,_,c3⟩,_⟩:=hr.ob id2 _ ho2;cases v with
     |nil=>simp[Sl.l]at hlen
     |mk l=>
      have d3:=d3 l rfl;have h2':q=1:=h2.symm;subst h2';rw[sC ha1,sB hx (mw (.inl ho2)),Hk];have hl2:m<(eU u l ln).length:=by rw[Fi];exact hlen
      cases r' with
      |nil=>
       refine⟨_,_,_,hz3,fun cl=>⟨.iR [],[(id,some (.nst (bA u) ((eU u l ln).set m .nil)))],[id],s.next,?_,?_⟩⟩
       .simp only[aD,aW,cP,mn,mx,cellsOf,d3];rw[if_pos (show([_]:List C).length=1 from rfl)];rw[if_pos ⟨trivial,trivial,hl2⟩];simp only[rK]
       .exact yA hr ho ho2 hne hln (fun p hp=>by simp at hp;simp[hp]) (by rw[aZ,dE,if_pos rfl];rfl) (fun i hi=>by simp at hi;simp[hi])
      |mk rr=>
       have c3:=c3 rr rfl;refine⟨_,_,_,hz3,fun cl=>⟨.iR [],[(id,some (.nst (bA u) ((eU u l ln).set m (.bt (rr.map (aS u)))))),(id2,none)],[id,id2],s.next,?_,?_⟩⟩
       .simp only[aD,aW,cP,mn,mx,cellsOf,d3];rw[if_pos (show([_]:List C).length=1 from rfl)];rw[if_pos ⟨trivial,trivial,hl2⟩];simp only[rK,c3];rw[if_pos ⟨trivial,by simp,hne⟩]
       .exact yA hr ho ho2 hne hln (fun p hp=>by simp at hp;rcases hp with rfl|rfl<;>simp) (by rw[aU,dE,if_pos rfl];rfl) (fun i hi=>hi)
    .simp at hz2
   .simp at hz2
  .simp at hz2
 .rename_i u l ver ho;split at hz2
  .rename_i w' a hw;obtain⟨h3,hz3⟩:=aP hz2;simp only[decide_eq_true_eq]at h3;subst h3;clear hz2;split at hz3
   .rename_i b2 hb;split at hz3
    .rename_i y hy;split at hz3
     .rename_i c hc;split at hz3
      .rename_i y2 hy2;split at hz3
       .rename_i s1 hs1;obtain⟨h4,hz4⟩:=aP hz3;obtain⟨cw,e1,e2⟩:=qH (oU (L5 hw) hx);obtain⟨ds,aA,f1,f2,f3,f4,f5⟩:=sU hr w w' a cw hw e1 hk ha;have e3:=pC (iY w' false b2 y _ hy f2);have hlen:=ha2.2.2.1 u l ver (.inl ho)
        have hnm:∀(ds:List D)(cs:List C)(aA:List Nat),dT h1 cs=some (ds,aA)->ds.length=cs.length:=by
         intro ds cs;induction cs generalizing ds with
         |nil=>intro aA h;obtain⟨rfl,_⟩:[]=ds/\[]=aA:=by simpa[dT]using h
               rfl
         |cons c cs ih=>
          intro aA h;simp only[dT]at h;split at h
          .rename_i p1 p2 p3 p4 hp hq;obtain⟨rfl,rfl⟩:=ad (aa h);simp[ih _ _ hq]
          .simp at h
        have l1:cw.length=x_ w:=iB e1;have l2:ds.length=bA b2:=by rw[e3,bJ]
        have l3:=hnm _ _ _ f1;have l4:=wi p u b2 hb ha2.2.1;cases l with
        |nil=>simp[Sl.l]at hlen
        |mk l=>
         obtain⟨_,⟨d1,d2,d3⟩,_⟩:=hr.ob id _ ho;have d3:=d3 l rfl;have q5:=vZ (h:=s.heap) p (.x u (gt l m)) u (.x b2 y) c ((aS u (gt l m)).map .d) ((aS b2 y).map .d) b2 (by simp[eI]) ⟨d1,rfl⟩ ha2.2.1 hc hb ⟨Q3 p u b2 d1 hb,rfl⟩ (by simp[bJ]);have q6:=pM hy2 q5;rw[<-uy]at q6;have q7:=pC q6;obtain⟨fu,g1,g2,g3,g4,g5,g6,g7,g8,g9⟩:=B7 (s0:=s) rfl hr a s1 aA aA hs1 f3 f4;have hid:id∉a:=by simpa using h4
         have hid2:aA.contains id=false:=by cases hq:aA.contains id with|false=>rfl|true=>exact absurd ((f3 id (by simpa using hq)).1) hid
         rw[sC ha1];refine⟨_,_,_,hz4,fun cl=>⟨.iR [],(id,some (.aM (bA u) ((l.set m y2).map (aS u))))::fu,id::aA,s.next,?_,?_⟩⟩
         .simp only[aD,aW];exact NH d3 hlen e2 (l1.trans h2) f1 g1 hid2 (by rw[bJ];omega) (by rw[e3];exact q7)
         .have ho1:fO s1.heap id=some (.ar u (.mk l) ver):=by rw[g9 id hid];exact ho
          rw[<-g6]at g2
          have:=rQ (v:=.tp .ni) (x:=.iR []) (aA:=id::aA) (l:=id::a) (u:=[(id,some (.aM (bA u) ((l.set m y2).map (aS u))))]) g2 ho1 (w':=.mk (l.set m y2)) rfl (by simp[Sl.l]) (fun p hp=>by simp at hp;simp[hp]) (fun l' e=>by cases e;rw[aZ,dE,if_pos rfl]) (fun _=>CP) (fun _ _=>trivial) (fun i hi=>by
           rcases aN.1 hi with rfl|hi
           .exact cn ..
           .exact aC _ (f3 i hi).1)
          rw[g6]at this;exact rb.seq g3 g4 g5 g6 g7 g8 g9 (Gj rfl hs1) this
       .simp at hz3
      .simp at hz3
     .simp at hz3
    .simp at hz3
   .simp at hz3
  .simp at hz2
 .simp at hz2
end
section
variable{h:H2}{n:Nat}{h1:bF}{β:Type}{s:S2}{k:V->S2->List Nat->Option β}{z:β}
theorem uv:∀{cs:List C}{ds:List D}{aA:List Nat},dT h1 cs=some (ds,aA)->ds.length=cs.length:=by
 intro cs;induction cs with
 |nil=>intro ds aA h;obtain⟨rfl,_⟩:[]=ds/\[]=aA:=by simpa[dT]using h
       rfl
 |cons c cs ih=>
  intro ds aA h;simp only[dT]at h;split at h
  .rename_i p1 p2 p3 p4 hp hq;obtain⟨rfl,rfl⟩:=ad (aa h);simp[ih hq]
  .simp at h
theorem PP{t:Ty}(hd:kI t=true)(m:Nat):(az m (ss t)).flatMap (aS t)=cE ((az m (ny t)).flatten):=by induction m with|zero=>rfl|succ m ih=>simp only[iC,bi,er,ih,rg t hd,cE,gO]
theorem BY(l:List Value):fx l=(cE l).map .d:=by simp[fx,cE]
theorem J8{t:Ty}(hd:kI t=true)(m:Nat):((az m (ny t)).flatten).length=m*bA t:=by have:=congrArg mM (PP hd m);rw[gS (bJ t),List.length_replicate,cE,aO]at this;exact this.symm
theorem Ey{α:Type}{f:α->List D}{q:Nat}(hf:∀a,(f a).length=q):∀(l:List α),mB q l.length (l.flatMap f)=l.map f:=by intro l;induction l with|nil=>rfl|cons a l ih=>simp only[da,mB,bi,aD];rw[List.take_left' (hf a),List.drop_left' (hf a),ih]
theorem Fw{t:Ty}{len:Nat}(hr:HR n h1 h)(hd:kI t=true):∀(is:List Nat)(vs:List V)(m:Nat)(l:List (El t))(a:List Nat)(EU:List C)(xs:List TV),yt h t len m is vs=some (l,a)->m<=len->EU.length=m*bA t->
  mO h vs xs->(∀w∈vs,e_ n h w)->(∀w∈vs,iw h w=true)->
  ∃cs aA,nc (EU++fx ((az (len-m) (ny t)).flatten)) ((is.map fun i=>(i*bA t,bA t)).zip xs)=some (EU++cs)/\dT h1 cs=some (l.flatMap (aS t),aA)/\(∀i∈aA,i∈a/\¬mP h i)/\(∀i∈a,i∈aA\/mP h i)/\l.length=len-m:=by
 intro is;induction is with
 |nil=>intro vs m l a EU xs hf hm hpre hx hk ha;cases vs with|cons v vs=>simp[yt]at hf|nil=>simp only[yt,bm,Prod.mk.injEq]at hf;obtain⟨rfl,rfl⟩:=hf;obtain rfl:=lU hx;refine⟨_,[],rfl,?_,fun i hi=>by simp at hi,fun i hi=>by simp at hi,by simp⟩;rw[BY,PP hd];exact xU _
 |cons i is ih=>
  intro vs m l a EU xs hf hm hpre hx hk ha;cases vs with
  |nil=>simp[yt]at hf
  |cons v vs=>
   simp only[yt]at hf;split at hf
   .rename_i w a1 hw;split at hf
    .rename_i y hy;obtain⟨hc,hf⟩:=aP hf;simp only[ai,Nat.ble_eq,Nat.blt_eq]at hc;obtain⟨hmi,hil⟩:=hc;split at hf
     .rename_i l1 b hl1;obtain⟨rfl,rfl⟩:=ad (aa hf);obtain⟨x,ys,rfl,hx1,hx2⟩:=gT hx;obtain⟨cw,e1,e2⟩:=qH (oU (L5 hw) hx1);obtain⟨ds,aA,f1,f2,f3,f4,_⟩:=sU hr v w a1 cw hw e1 (hk _ (by simp)) (ha _ (by simp));have e3:=pC (iY w false t y _ hy f2);subst e3;have l1':cw.length=bA t:=by rw[<-uv f1,bJ]
      have lz:(fx ((az (i-m) (ny t)).flatten)).length=(i-m)*bA t:=by simp only[fx,aO];exact J8 hd _
      have lz1:(fx (ny t)).length=bA t:=by rw[BY,<-rg t hd,aO,bJ]
      have hpl:(EU++fx ((az (i-m) (ny t)).flatten)).length=i*bA t:=by rw[av,hpre,lz,<-bO,Nat.add_sub_cancel' hmi]
      obtain⟨cs,jds,g1,g2,g3,g4,g5⟩:=ih vs (i+1) l1 b (EU++fx ((az (i-m) (ny t)).flatten)++cw) ys hl1 hil (by rw[av,hpl,l1',bO,Nat.one_mul]) hx2 (fun w hw=>hk w (by simp[hw])) (fun w hw=>ha w (by simp[hw]));have hsplit:az (len-m) (ny t)=az (i-m) (ny t)++(ny t::az (len-(i+1)) (ny t)):=by rw[<-iC,List.replicate_append_replicate];congr 1;omega
      have hcells:EU++fx ((az (len-m) (ny t)).flatten)=(EU++fx ((az (i-m) (ny t)).flatten))++(fx (ny t)++fx ((az (len-(i+1)) (ny t)).flatten)):=by rw[hsplit,List.flatten_append,er,sP,sP,aJ]
      refine⟨fx ((az (i-m) (ny t)).flatten)++(cw++cs),aA++jds,?_,?_,fun j hj=>?_,fun j hj=>?_,by simp[g5];omega⟩
      .simp only[aD,List.zip_cons_cons,nc,e2];rw[if_pos ⟨l1',by rw[hcells,av,hpl,av,lz1];omega⟩,hcells];have:aV ((EU++fx ((az (i-m) (ny t)).flatten))++(fx (ny t)++fx ((az (len-(i+1)) (ny t)).flatten))) (i*bA t) cw=(EU++fx ((az (i-m) (ny t)).flatten)++cw)++fx ((az (len-(i+1)) (ny t)).flatten):=by have:=tC (a:=EU++fx ((az (i-m) (ny t)).flatten)) (b:=fx (ny t)++fx ((az (len-(i+1)) (ny t)).flatten)) (p:=cw) (off:=0);rw[hpl]at this;refine Eq.trans this ?_;rw[tw (by omega),mG (by omega)];simp only[aJ]
       rw[this,g1];simp only[aJ]
      .rw [List.flatMap_append,bi,PP hd];have hz:dT h1 (fx ((az (i-m) (ny t)).flatten))=some (cE ((az (i-m) (ny t)).flatten),[]):=by rw[BY];exact xU _
       exact(qj hz (qj f1 g2):dT h1 _=some (_,[]++(aA++jds)))
      .rcases ap.1 hj with hj|hj
       .exact ⟨aE _ (f3 j hj).1,(f3 j hj).2⟩
       .exact ⟨aG _ (g3 j hj).1,(g3 j hj).2⟩
      .rcases ap.1 hj with hj|hj
       .exact (f4 j hj).imp (aE _) id
       .exact (g4 j hj).imp (aG _) id
     .simp at hf
    .simp at hf
   .simp at hf
theorem EC{t:Ty}{len sz:Nat}{zl:List Value}{pl:List Nat}{vs:List V}{xs:List TV}
  (hz:Rf t sz len zl pl vs s k=some z)
  (hr:HR s.next h1 s.heap) (hx:mO s.heap vs xs) (hk:∀w∈vs,e_ s.next s.heap w) (ha:∀w∈vs,iw s.heap w=true):zK h1 (.buildSlice sz len zl pl) xs s k z:=by
 unfold Rf at hz;obtain⟨h2,hz2⟩:=aP hz;simp only[ai,beq_iff_eq]at h2;obtain⟨⟨rfl,h3⟩,h4⟩:=h2;have h3:=rh h3;subst h3;obtain⟨hd,hs0⟩:=qh h4;clear hz;split at hz2
 .rename_i l a hl;split at hz2
  .rename_i s1 hs1;obtain⟨cs,aA,g1,g2,g3,g4,g5⟩:=Fw hr hd pl vs 0 l a [] xs hl (Nat.zero_le _) (by simp) hx hk ha;obtain⟨fu,f1,f2,f3,f4,f5,f6,f7,f8,f9⟩:=B7 (s0:=s) rfl hr a s1 aA aA hs1 g3 g4;refine⟨_,_,_,hz2,fun cl=>⟨.c (.fw (bA t) s.next 0 len),(s.next,some (.aM (bA t) (l.map (aS t))))::fu,aA,s.next+1,?_,?_⟩⟩
   .have hc:mB (bA t) len (l.flatMap (aS t))=l.map (aS t):=by have:=Ey (bJ t) l;rwa[show l.length=len by simpa using g5]at this
    simp only[cP,nn];have g1:nc (fx ((az len (ny t)).flatten)) ((pl.map fun i=>(i*bA t,bA t)).zip xs)=some cs:=by simpa using g1
    rw[g1];simp only[g2,f1,hc]
   .have hr1:HR s1.next (fu++h1) s1.heap:=by rw[f6];exact f2
    have hd1:rb s1 (jF s1 (.ar t (.mk l) 0)) (fu++h1) (.c (.fw (bA t) s.next 0 len)) [(s1.next,some (.aM (bA t) (l.map (aS t))))] aA (s.next+1) (.so s1.next) a:=by refine rb.new hr1 (.inl rfl) (fun _=>⟨hd,hs0,fun l' e=>by cases e;rfl⟩) trivial ?_ (aY _) (fun i hi=>(g3 i hi).1) (by rw[f6];exact au _);have:=wj (h:=s1.heap) (t:=t) (s:=.mk l) (v:=0) (nx:=s1.next);rw[f6]at this|-;simpa[mx,show l.length=len by simpa using g5]using this
    rw[f6]at hd1;exact rb.seq f3 f4 f5 f6 f7 f8 f9 (Gj rfl hs1) hd1
  .simp at hz2
 .simp at hz2
theorem Gu{ka va:Bool}{ks:List Kd}{zl:List Value}{id:Nat}{kv:V}{ya yk:TV}(hr:HR s.next h1 s.heap)(ha1:gb s.heap (.om id) ya)(hx:gb s.heap kv yk)
  (hz:(match fO s.heap id with
  |some (.mp kt vt m)=>(match tW kt kv with
   |some q=>bif(nv kt==ka)&&(nv vt==va)&&decide (D3 kt=some ks)&&t6 (ny vt) zl&&kI vt&&(va||bA vt==1)then
     k (.tp (.co (.x vt (l5 m (ss vt) q).2.1) (.co (.x (.i .i64) (l5 m (ss vt) q).2.2) .ni))) (eD s id (some (.mp kt vt (l5 m (ss vt) q).1))) [id]else none
   |none=>none)
  |_=>none)=some z):zK h1 (.mapEntry ka ks va zl) [ya,yk] s k z:=by
 split at hz
 .rename_i kt vt m ho;split at hz
  .rename_i q hq;obtain⟨hc,hz2⟩:=aP hz;simp only[ai,beq_iff_eq,decide_eq_true_eq]at hc;obtain⟨⟨⟨⟨⟨c1,c2⟩,c3⟩,c4⟩,c5⟩,c6⟩:=hc;rw[E2 ha1];obtain⟨_,_,k3,_⟩:=xL kt ks c3;have hzz:cE zl=aS vt (ss vt):=by rw[rg vt c5,rh c4]
   have hv:∀y,po va (aS vt y)=some (RF vt y):=fun y=>G1 y c2 c6;have hkt:=D0 hx hq c3 c1;have e3:=(hr.ob id _ ho).2.1.2.2;rw[<-c2]at c6;have e4:aB h1 id=EV ka va (vO kt) (aS vt) m:=by rw[<-c1,<-c2];exact e3
   have hos:sy (.mp kt vt m) (.mp kt vt (l5 m (ss vt) q).1):=trivial;refine .CM hr ho hos hz2 (fun cl=>Sz (z:=ss vt) e4 hkt k3 hzz hv) ⟨c5,⟨ks,c3⟩,by rw[c1,c2];rfl⟩ trivial ?_ ⟨trivial,trivial,trivial⟩ fun i hi=>hi;exact⟨_,rfl,_,_,rfl,Ke c5 c6,_,_,rfl,dV rfl ⟨rfl,rfl⟩,rfl⟩
  .simp at hz
 .simp at hz
theorem Mw:∀(l:List D),zt (l.map .d)=some l:=by intro l;induction l with|nil=>rfl|cons d l ih=>simp[zt,ih]
theorem Ec{va:Bool}{m0 id:Nat}{kd:IntKind}{st:Int}{w:V}{ya yw:TV}(hr:HR s.next h1 s.heap)(ha1:gb s.heap (.om id) ya)(hx:gb s.heap w yw)
  (hz:(match fO s.heap id with
  |some (.mp kt vt m)=>(match tW vt w with
   |some y=>bif(nv vt==va)&&(bA vt==m0)&&kI vt then(vo m st y).bind fun m=>k (.tp .ni) (eD s id (some (.mp kt vt m))) [id]else none
   |none=>none)
  |_=>none)=some z):zK h1 (.entryStore va m0) [ya,tI kd st,yw] s k z:=by
 split at hz
 .rename_i kt vt m ho;split at hz
  .rename_i y hy;obtain⟨hc,hz2⟩:=aP hz;simp only[ai,beq_iff_eq]at hc;obtain⟨⟨rfl,rfl⟩,c3⟩:=hc;obtain⟨m',hm,hz3⟩:=rO hz2;rw[E2 ha1];obtain⟨_,hks,e3⟩:=(hr.ob id _ ho).2.1;obtain⟨g1,g2⟩:=vD hx hy;have hos:sy (.mp kt vt m) (.mp kt vt m'):=trivial;have hcs:(cellsOf yw).bind zt=some (aS vt y)/\xM yw=nv vt:=by cases hag:nv vt with|true=>rw[g1 hag];exact⟨by simp[cellsOf,Mw],rfl⟩|false=>obtain⟨d,e,rfl⟩:=g2 hag;exact⟨by simp[cellsOf,zt,e],rfl⟩
   refine .CM hr ho hos hz3 (fun cl=>Sy (va:=nv vt) (ek:=vO kt) (ka:=nv kt) hm e3 hcs.1 (bJ vt y) hcs.2) ⟨c3,hks,rfl⟩ trivial CP trivial fun i hi=>hi
  .simp at hz
 .simp at hz
end
section
variable{h:H2}{n:Nat}{h1:bF}{β:Type}{s:S2}{k:V->S2->List Nat->Option β}{z:β}
theorem wu:∀{r:List V}{l:List Int}{xs:List TV},jK r=some l->mO h r xs->∃ks:List IntKind,ks.length=l.length/\xs=(ks.zip l).map fun p=>tI p.1 p.2:=by
 intro r;induction r with
 |nil=>
  intro l xs hl hx;obtain rfl:[]=l:=by simpa[jK]using hl
  exact⟨[],rfl,lU hx⟩
 |cons v r ih=>
  intro l xs hl hx;cases v with
  |x t v=>
   cases t with
   |i q=>
    simp only[jK]at hl;split at hl
    .rename_i l' hl';obtain rfl:=aa hl;obtain⟨x,ys,rfl,h1,h2⟩:=gT hx;obtain⟨ks,h3,rfl⟩:=ih hl' h2;exact⟨q::ks,by simp[h3],by rw[ky h1];rfl⟩
    .simp at hl
   |_=>simp[jK]at hl
  |_=>simp[jK]at hl
theorem LP{r:List V}{xs:List TV}(hl:jK r=some [])(hx:mO h r xs):xs=[]:=by obtain⟨ks,h1,rfl⟩:=wu hl hx;cases ks<;>simp_all
theorem B1{r:List V}{a:Int}{xs:List TV}(hl:jK r=some [a])(hx:mO h r xs):∃q,xs=[tI q a]:=by obtain⟨ks,h1,rfl⟩:=wu hl hx;cases ks with|nil=>simp at h1|cons q ks=>exact⟨q,by cases ks<;>simp_all⟩
theorem LO{r:List V}{a b:Int}{xs:List TV}(hl:jK r=some [a,b])(hx:mO h r xs):∃q q',xs=[tI q a,tI q' b]:=by
 obtain⟨ks,h1,rfl⟩:=wu hl hx;cases ks with
 |nil=>simp at h1
 |cons q ks=>cases ks with|nil=>simp at h1|cons q' ks=>exact⟨q,q',by cases ks<;>simp_all⟩
theorem BF{x y:ByteArray}{lo hi:Option Int}(hs:zV x (lo.getD 0) (hi.getD x.size)=some y)(sz:Nat):fU true sz (.d (dS x)) lo hi=some (.d (dS y)):=by
 unfold zV at hs;split at hs
 .rename_i hb;obtain rfl:=aa hs;simp only[fU,if_true];rw[if_pos hb]
 .simp at hs
theorem CZ{x:ByteArray}{r:List V}{lo hi:Bool}{sz:Nat}{y:TV}{ys:List TV}(hr:HR s.next h1 s.heap)(hy:gb s.heap (.x .s x) y)(hys:mO s.heap r ys)
  (hz:(match lo,hi,jK r with
  |false,false,some []=>(zV x 0 x.size).bind fun y=>k (.x .s y) s []
  |true,false,some [l]=>(zV x l x.size).bind fun y=>k (.x .s y) s []
  |false,true,some [u]=>(zV x 0 u).bind fun y=>k (.x .s y) s []
  |true,true,some [l,u]=>(zV x l u).bind fun y=>k (.x .s y) s []
  |_,_,_=>none)=some z):zK h1 (.slice true sz lo hi) (y::ys) s k z:=by
 rw[wW hy];split at hz
 .rename_i hi;obtain rfl:=LP hi hys;obtain⟨w,hw,hz2⟩:=rO hz;exact .pure hr hz2 (fun _=>by simp only[aD,aW,cP];rw[BF (lo:=none) (hi:=none) hw]) (RE w) trivial
 .rename_i l hi;obtain⟨q,rfl⟩:=B1 hi hys;obtain⟨w,hw,hz2⟩:=rO hz;exact .pure hr hz2 (fun _=>by simp only[aD,aW,cP,cD];rw[BF (lo:=some l) (hi:=none) hw]) (RE w) trivial
 .rename_i l hi;obtain⟨q,rfl⟩:=B1 hi hys;obtain⟨w,hw,hz2⟩:=rO hz;exact .pure hr hz2 (fun _=>by simp only[aD,aW,cP,cD];rw[BF (lo:=none) (hi:=some l) hw]) (RE w) trivial
 .rename_i l u hi;obtain⟨q,q',rfl⟩:=LO hi hys;obtain⟨w,hw,hz2⟩:=rO hz;exact .pure hr hz2 (fun _=>by simp only[aD,aW,cP,cD];rw[BF (lo:=some l) (hi:=some u) hw]) (RE w) trivial
 .simp at hz
theorem C0{x:V}{r:List V}{lo hi:Bool}{sz:Nat}{y:TV}{ys:List TV}(hr:HR s.next h1 s.heap)(hy:gb s.heap x y)(hk:e_ s.next s.heap x)(ha:iw s.heap x=true)(hys:mO s.heap r ys)
  (hz:(match lo,hi,jK r,F3 s.heap x with
  |false,false,some [],some n=>uc sz s.heap x 0 n fun v=>k v s []
  |true,false,some [l],some n=>uc sz s.heap x l n fun v=>k v s []
  |false,true,some [u],some _=>uc sz s.heap x 0 u fun v=>k v s []
  |true,true,some [l,u],some _=>uc sz s.heap x l u fun v=>k v s []
  |_,_,_,_=>none)=some z):zK h1 (.slice false sz lo hi) (y::ys) s k z:=by
 split at hz
 .rename_i m hi hm;obtain rfl:=LP hi hys;obtain⟨v,c,c',rfl,h3,h4,h5,h6⟩:=Ce (lo:=none) (hi:=none) hr hy hk ha hm hz;exact .pure hr h3 (fun _=>by simp only[aD,aW,cP];rw[h4]) h5 h6
 .rename_i l m hi hm;obtain⟨q,rfl⟩:=B1 hi hys;obtain⟨v,c,c',rfl,h3,h4,h5,h6⟩:=Ce (lo:=some l) (hi:=none) hr hy hk ha hm hz;exact .pure hr h3 (fun _=>by simp only[aD,aW,cP,cD];rw[h4]) h5 h6
 .rename_i u m hi hm;obtain⟨q,rfl⟩:=B1 hi hys;obtain⟨v,c,c',rfl,h3,h4,h5,h6⟩:=Ce (lo:=none) (hi:=some u) hr hy hk ha hm hz;exact .pure hr h3 (fun _=>by simp only[aD,aW,cP,cD];rw[h4]) h5 h6
 .rename_i l u m hi hm;obtain⟨q,q',rfl⟩:=LO hi hys;obtain⟨v,c,c',rfl,h3,h4,h5,h6⟩:=Ce (lo:=some l) (hi:=some u) hr hy hk ha hm hz;exact .pure hr h3 (fun _=>by simp only[aD,aW,cP,cD];rw[h4]) h5 h6
 .simp at hz
theorem NL{t:Ty}{l:List (Sl (El t))}{m:Nat}(hm:m<l.length):(l.map (oV t))[m]?=some (oV t (gt l m)):=by rw[List.getElem?_map,aw hm];simp[gt,List.getD,aw hm]
theorem Kx{α:Type}{l:List α}{m:Nat}{x:α}(h:l[m]?=some x):l.set m x=l:=by obtain⟨hm,rfl⟩:=List.getElem?_eq_some_iff.1 h;exact List.set_getElem_self hm
theorem F0{id m:Nat}{u:Ty}{y:TV}(hr:HR s.next h1 s.heap)(hx:gb s.heap (.ep id m u []) y)(hk:e_ s.next s.heap (.ep id m u []))
  (hz:(match fO s.heap id with
  |some (.rw t v none)=>bif decide (u=.sl t)then k (.so s.next) (jF (eD s id (some (.rw t v (some (m,s.next))))) (.ar t (gt v.l m) 0)) [id]else none
  |_=>none)=some z):zK h1 .uf [y] s k z:=by
 split at hz
 .rename_i t v ho;obtain⟨h2,hz2⟩:=aP hz;simp only[decide_eq_true_eq]at h2;subst h2;rw[sC hx,Hk];have hlen:=hk.2.2.2 _ _ _ ho;obtain⟨hid,⟨d1,d2,d3⟩,_⟩:=hr.ob id _ ho;cases v with
  |nil=>simp[Sl.l]at hlen
  |mk l=>
   have d3:=d3 l rfl;have hlen:m<l.length:=hlen;have eM:jy s.next s.heap ((s.next,some (.ar t (gt l m) 0))::(id,some (.rw t (.mk l) (some (m,s.next))))::s.heap):=jy.trans (au _) (jy.CM (o':=.rw t (.mk l) (some (m,s.next))) ho ⟨rfl,rfl,rfl⟩) (jy.new _)
   have key:∀{x:TV}{u:fC},gb ((s.next,some (.ar t (gt l m) 0))::(id,some (.rw t (.mk l) (some (m,s.next))))::s.heap) (.so s.next) x->(∀p∈u,p.1=s.next\/p.1=id)->
     aB (u++h1) id=some (.nst (bA t) (eU t l (some (m,s.next))))->(∀rr,gt l m=.mk rr->aB (u++h1) s.next=some (.aM (bA t) (rr.map (aS t))))->∀{q:Nat},q<=s.next+1->
     rb s (jF (eD s id (some (.rw t (.mk l) (some (m,s.next))))) (.ar t (gt l m) 0)) h1 x u [id] q (.so s.next) [id]:=by
    intro x u hx2 hu hb hb2 q hq;refine rb.EW [s.next,id] hr eM rfl rfl hq (bH _) (fun i hi=>hi) rfl (fun p hp=>?_) (fun i hi=>?_) (fun i hi o ho'=>?_) hx2 (aY _) (fun i hi h=>?_)
    .rcases hu p hp with e|e<;>simp[e]
    .simp only[aN,gj,or_false,not_or]at hi;simp only[jF,eD];rw[c_,if_neg (fun e=>hi.1 e.symm),c_,if_neg (fun e=>hi.2 e.symm)]
    .simp only[jF,eD]at ho'|-;by_cases hi1:s.next=i
     .subst hi1;rw[c_,if_pos rfl]at ho';obtain rfl:=aa ho';exact⟨aY _,⟨d1,d2,fun rr e=>hb2 rr e⟩,trivial⟩
     .rw [c_,if_neg hi1]at ho';simp only[aN,gj,or_false]at hi;rcases hi with rfl|rfl
      .exact absurd rfl hi1
      .rw [c_,if_pos rfl]at ho';obtain rfl:=aa ho';refine⟨by omega,⟨d1,d2,fun l' e=>by cases e;exact hb⟩,hlen,aY _,fun u' r' v' hf=>?_⟩;simp only[tT]at hf;rcases hf with hf|hf<;>cases hf;exact⟨rfl,rfl⟩
    .simp only[jF,eD];rw[c_,if_neg (by omega),c_,if_neg (fun e=>by subst e;rw[ho]at h;cases h)];exact h
   have hs:=NL (t:=t) hlen;refine⟨_,_,_,hz2,fun cl=>?_⟩;cases hg:gt l m with
   |nil=>
    refine⟨_,[],[id],s.next,?_,key (x:=.c (.d (.lit (.slice none 0 0)))) ?_ (fun p hp=>by simp at hp) ?_ (fun rr e=>by rw[hg]at e;cases e) (bH _)⟩
    .simp only[aD,aW,cP,ie,d3];rw[hg]at hs;simp only[lE,d3,eU,hs,oV];rfl
    .rw [hg];exact wj
    .rw [bk,d3];simp only[eU,hg,IG];rw[Kx (by rw[hs,hg];rfl)]
   |mk rr=>
    refine⟨_,[(s.next,some (.aM (bA t) (rr.map (aS t)))),(id,some (.nst (bA t) ((l.map (oV t)).set m (.ed s.next (rr.map (aS t)).length))))],[id],s.next+1,?_,key (x:=.c (.fw (bA t) s.next 0 (rr.map (aS t)).length)) ?_ (fun p hp=>by simp at hp;rcases hp with rfl|rfl<;>simp) ?_ (fun r2 e=>?_) (au _)⟩
    .simp only[aD,aW,cP,ie,d3];rw[hg]at hs;simp only[lE,d3,eU,hs,oV];rfl
    .rw [hg];exact wj
    .rw [aU,dE,if_neg (by omega),aU,dE,if_pos rfl];simp only[eU,hg,IG,aO]
    .rw [hg]at e;cases e;rw[aU,dE,if_pos rfl]
 .simp at hz
theorem Lj{szi:Nat}{t:Ty}{q q':IntKind}{a b:Int}(hr:HR s.next h1 s.heap)
  (hz:(bif(bA t==szi)&&CE t then(zO (Sl.nil:Sl (El t)) a b).bind fun r=>k (.sr s.next) (jF s (.rw t (.mk r) none)) []else none)=some z):zK h1 (.AV szi) [tI q a,tI q' b] s k z:=by
 obtain⟨hq,hp2⟩:=aP hz;simp only[ai,beq_iff_eq]at hq;obtain⟨rfl,q2⟩:=hq;obtain⟨hd,hs0⟩:=qh q2;obtain⟨r,hr2,hz3⟩:=rO hp2;unfold zO at hr2;split at hr2
 .rename_i hb;obtain rfl:=aa hr2;refine .new (aA:=[]) hr hz3 (b:=some (.nst (bA t) (az a.toNat .nil))) (x:=.c (.fw 1 s.next 0 a.toNat)) (fun _=>?_) ⟨hd,hs0,fun l' e=>by cases e;simp[eU,oV]⟩ trivial ?_ (aY _) fun i hi=>by simp at hi
  .simp only[aD,aW,cP,cD];rw[if_pos (by simpa[DU]using hb)]
  .refine cq (dV rfl ⟨_,rfl,fun c' hc'=>?_,?_⟩)
   .rw [tT]at hc';obtain rfl:=aa hc';simp[mx]
   .have:=BI (sz:=1) (id:=s.next) (e:=aS (.sl t)) (s:=.mk (az a.toNat (Sl.nil:Sl (El t))));simpa[mx]using this
 .simp at hr2
theorem FH{o:OP}{vs:List V}{xs:List TV}(hp:part o vs s k=some z)(hr:HR s.next h1 s.heap)(hx:mO s.heap vs xs)(hk:∀w∈vs,e_ s.next s.heap w)(ha:∀w∈vs,iw s.heap w=true):zK h1 o.o.k xs s k z:=by
 obtain⟨⟨d,kk,args,g⟩,t,fi⟩:=o;simp only;unfold part at hp;simp only at hp;split at hp
 .--quo
  obtain⟨x,y,rfl,h2,h3⟩:=jh hx;rw[ky h2,ky h3];obtain⟨hq,hp2⟩:=aP hp;simp only[decide_eq_true_eq]at hq;subst hq;obtain⟨r,hr2,hz⟩:=rO hp2;exact .pure hr hz (fun _=>QT hr2) (xi _ _) trivial
 .obtain ⟨x,y,rfl,h2,h3⟩:=jh hx;rw[ky h2,ky h3];obtain⟨hq,hp2⟩:=aP hp;simp only[decide_eq_true_eq]at hq;subst hq;obtain⟨r,hr2,hz⟩:=rO hp2;exact .pure hr hz (fun _=>QS hr2) (xi _ _) trivial
 .obtain ⟨x,y,rfl,h2,h3⟩:=jh hx;rw[ky h2,ky h3];obtain⟨r,hr2,hz⟩:=rO hp;exact .pure hr hz (fun _=>QR hr2) (xi _ _) trivial
 .obtain ⟨x,y,rfl,h2,h3⟩:=jh hx;rw[ky h2,ky h3];obtain⟨r,hr2,hz⟩:=rO hp;exact .pure hr hz (fun _=>QQ hr2) (xi _ _) trivial
 .obtain ⟨x,y,rfl,h2,h3⟩:=jh hx;rw[wW h2,wW h3];obtain⟨r,hr2,hz⟩:=rO hp;exact .pure hr hz (fun _=>QU hr2) (RE _) trivial
 .--alloc
  rename_i zl;obtain rfl:=lU hx;obtain⟨hq,hp2⟩:=aP hp;simp only[ai]at hq;obtain⟨q1,q2⟩:=hq;have q1:=rh q1;subst q1;refine .new (aA:=[]) hr hp2 (x:=.c (.op s.next 0)) (fun _=>rfl) ⟨_,rfl,?_,q2⟩ ?_ (cq (dV rfl (by cases t<;>rfl))) ⟨aY _,by cases t<;>trivial⟩ fun i hi=>by simp at hi
  .exact ((xS (h:=(s.next,some (.bx t (Ph t)))::s.heap) (n:=s.next+1) t).1 q2).1
  .exact ((xS (h:=(s.next,some (.bx t (Ph t)))::s.heap) (n:=s.next+1) t).1 q2).2
 .--box
  obtain⟨x,rfl,h2⟩:=iQ hx;split at hp
  .rename_i w hw;obtain⟨cw,e1,e2⟩:=qH (oU (FS hw) h2);obtain⟨q1,q2,q3,_⟩:=yJ hw e1 (hk _ (by simp));refine .new (aA:=[]) hr hp (x:=.c (.op s.next 0)) (fun _=>by simp only[aD,aW,cP,e2]) ⟨_,rfl,lF (jy.new _) q3 q1,q2⟩ (gR (bH _) (jy.new _) q3) (cq (dV rfl (by cases t<;>rfl))) ⟨aY _,by cases t<;>trivial⟩ fun i hi=>by simp at hi
  .simp at hp
 .exact EC hp hr hx hk ha
 .--store
  obtain⟨x,y,rfl,h2,h3⟩:=jh hx;exact CU hr h2 (hk _ (by simp)) h3 (hk _ (by simp)) hp
 .--uf
  obtain⟨x,rfl,h2⟩:=iQ hx;exact F0 hr h2 (hk _ (by simp)) hp
 .--AV
  obtain⟨x,y,rfl,h2,h3⟩:=jh hx;rw[ky h2,ky h3];split at hp
  .exact Lj hr hp
  .simp at hp
 .obtain ⟨x,y,rfl,h2,h3⟩:=jh hx;exact CV hr h2 (hk _ (by simp)) h3 (hk _ (by simp)) (ha _ (by simp)) hp
 .--makeSlice
  rename_i zl _ l _ c;obtain⟨x,y,rfl,h2,h3⟩:=jh hx;rw[ky h2,ky h3];obtain⟨hq,hp2⟩:=aP hp;simp only[ai]at hq;obtain⟨q1,q2⟩:=hq;have q1:=rh q1;subst q1;obtain⟨hd,hs0⟩:=qh q2;obtain⟨r,hr2,hz⟩:=rO hp2;have hzl:cE (ny t)=aS t (ss t):=(rg t hd).symm;have hlen:(ny t).length=bA t:=by have:=congrArg mM hzl;rwa[bJ,cE,aO]at this
  refine .new hr hz (fun _=>OH hzl hr2) ⟨hd,hs0,fun l' e=>by cases e;rw[hlen]⟩ trivial ?_ (aY _) fun i hi=>by simp at hi
  rw[hlen];exact wj (s:=.mk r)
 .--slice of a string
  obtain⟨y,ys,rfl,h2,h3⟩:=gT hx;exact CZ hr h2 h3 hp
 .obtain ⟨y,ys,rfl,h2,h3⟩:=gT hx;exact C0 hr h2 (hk _ (by simp)) (ha _ (by simp)) h3 hp
 .obtain ⟨x,y,rfl,h2,h3⟩:=jh hx;rw[ky h3];exact LJ hp hr h2 (hk _ (by simp)) (ha _ (by simp))
 .obtain ⟨x,y,rfl,h2,h3⟩:=jh hx;rw[ky h3];exact LI hp hr h2 (hk _ (by simp))
 .--pF
  obtain⟨x,y,rfl,h2,h3⟩:=jh hx;rw[wW h2,ky h3];obtain⟨r,hr2,hz⟩:=rO hp;exact .pure hr hz (fun _=>Sv hr2) (xi _ _) trivial
 .--index
  rename_i ag n0 sz0 n' u v _ i;obtain⟨x,y,rfl,h2,h3⟩:=jh hx;rw[ky h3];obtain⟨hq,hp2⟩:=aP hp;simp only[ai,beq_iff_eq]at hq;obtain⟨⟨⟨⟨rfl,rfl⟩,q3⟩,q4⟩,q5⟩:=hq;obtain⟨m,hm,hz⟩:=rO hp2;obtain⟨rfl,hm2⟩:=gB.1 hm;rw[U0 h2];obtain⟨a1,a2⟩:=EH v hm2;have hc:GI s.heap ag (bA u) (.x u (gt v.1 m))=true:=by simp[GI,tj,x_,iw,q3,q4,q5]
  obtain⟨x,e1,e2⟩:=pD (cs:=(aS (.ar n' u) v).map .d) (off:=m*bA u) (cw:=(aS u (gt v.1 m)).map .d) hc ⟨q4,rfl⟩ (by simpa using a1) (by rw[<-gz,<-hZ,a2]);refine .pure hr hz (x:=x) (fun _=>?_) e2 trivial;simp only[aD,aW,cP,cD];rw[if_pos ⟨by omega,by omega⟩];simp only[eu,e1]
 .--append
  obtain⟨x,y,rfl,h2,h3⟩:=jh hx;exact EJ (t0:=t) hp hr h2 (hk _ (by simp)) (ha _ (by simp)) h3 (hk _ (by simp)) (ha _ (by simp))
 .obtain ⟨x,y,rfl,h2,h3⟩:=jh hx;exact JD (t0:=t) hp hr h2 (hk _ (by simp)) (ha _ (by simp)) h3 (hk _ (by simp)) (ha _ (by simp))
 .--clear
  obtain⟨y,rfl,h2⟩:=iQ hx;exact GG hp hr h2 (hk _ (by simp)) (ha _ (by simp))
 .--makeMap
  obtain rfl:=lU hx;split at hp
  .rename_i kt vt;obtain⟨hq,hp2⟩:=aP hp;simp only[ai,beq_iff_eq]at hq;obtain⟨⟨⟨rfl,rfl⟩,q3⟩,q4⟩:=hq;obtain⟨ks,hks⟩:=Option.isSome_iff_exists.1 q4;exact .new hr hp2 (x:=.c (.om s.next)) (fun _=>rfl) ⟨q3,⟨ks,hks⟩,rfl⟩ trivial (cq (dV rfl rfl)) (aY _) fun i hi=>by simp at hi
  .simp at hp
 .obtain ⟨x,y,rfl,h2,h3⟩:=jh hx;exact Gu hr h2 h3 hp
 .obtain ⟨x,y,w,rfl,h2,h3,h4⟩:=P2 hx;rw[ky h3];exact Ec hr h2 h4 hp
 .simp at hp
end
end Go.Ev
