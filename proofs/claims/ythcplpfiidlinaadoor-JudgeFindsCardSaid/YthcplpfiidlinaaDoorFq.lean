/- Operations that do not fail, against the abstract machine's, second part. Conditions: as stated. -/
import Derived.Test.YthcplpfiidlinaaDoorFh
open Bool renaming and_eq_true->ai,and_eq_true_iff->dp,eq_iff_iff->dv
open Int renaming toNat_natCast->eA
open List renaming append_assoc->aJ,cons_append->aU,drop_drop->dz,flatMap_cons->bk,flatten_cons->ez,getElem?_eq_getElem->aw,length->mR,length_append->av,length_cons->db,length_eq_zero_iff->bc,length_map->aO,map->mm,map_append->gP,map_cons->aD,map_drop->gz,map_map->lN,map_nil->aW,map_take->h_,mem_append->ap,mem_append_left->aE,mem_append_right->aG,mem_cons->aN,mem_cons_of_mem->aC,mem_cons_self->cq,mem_singleton->ao,nil_append->bl,not_mem_nil->gj,replicate->az,replicate_succ->iE,singleton_append->aZ
open List.cons renaming injEq->dQ
open Nat renaming add_assoc->cP,add_mul->bP,le_of_ble_eq_true->jf,le_refl->au,le_succ->bH,lt_succ_self->aY
open Option.some renaming inj->aa,injEq->bn
open Prod.mk renaming inj->ad
open Sigma.mk renaming inj->jz
namespace Go.Ev
section
variable{h:H2}{n:Nat}{h1:bF}
theorem P0{a b:Value}(he:Te a b=true):a=b:=by unfold Te at he;split at he<;>simp_all
theorem rk:∀{a b:List Value},ub a b=true->a=b:=by
 intro a;induction a with
 |nil=>intro b he;cases b<;>first|rfl|(simp[ub]at he)
 |cons x a ih=>intro b he;cases b with|nil=>simp[ub]at he|cons y b=>simp only[ub,ai]at he;rw[P0 he.1,ih he.2]
theorem sV(a b:List Value):fz (a++b)=fz a++fz b:=by simp[fz]
theorem rj:∀(t:Ty),kL t=true->aS t (sA t)=cF (nC t):=by
 intro t;induction t with
 |pr a c iha ihc=>intro hd;simp only[kL,ai]at hd;simp[aS,sA,nC,cF,iha hd.1,ihc hd.2]
 |st t ih=>intro hd;exact ih hd
 |ar m t ih=>intro hd;have e:=ih hd;simp only[aS,sA,nC];clear hd ih;induction m with|zero=>rfl|succ m ihm=>simp only[iE,bk,ez,e,cF,gP]at ihm|-;rw[ihm]
 |o k=>intro hd;simp[kL]at hd
 |mp k v=>intro hd;simp[kL]at hd
 |_=>intro _;rfl
theorem xY:∀(t:Ty),(eL (BG t).1 false t=true->fm h (BG t).1 (fz (nC t))/\fg n h (BG t).1)/\(eL (BG t).2 true t=true->fm h (BG t).2 (fz (nC t))/\fg n h (BG t).2):=by
 have one:∀(t:Ty)(v:V),(fm h v (fz (nC t))/\fg n h v)->(fm h (.co v .ni) (fz (nC t))/\fg n h (.co v .ni)):=fun t v hv=>⟨⟨_,[],by simp,hv.1,rfl⟩,hv.2,trivial⟩;have dt:∀(t:Ty),kL t=true->fm h (.x t (sA t)) (fz (nC t)):=fun t hd=>⟨hd,by rw[rj t hd];simp[fz,cF]⟩;intro t;induction t with
 |pr a c iha ihc=>refine⟨fun hf=>by simp[BG,eL]at hf,fun hf=>?_⟩;simp only[BG,eL,ai]at hf;obtain⟨q1,q3⟩:=iha.1 hf.1;obtain⟨q4,q5⟩:=ihc.2 hf.2;exact⟨⟨_,_,sV _ _,q1,q4⟩,q3,q5⟩
 |st t ih=>cases hd:kL t with|true=>have:=dt (.st t) hd;simp only[BG,hd,cond_true];exact⟨fun _=>⟨this,trivial⟩,fun _=>one (.st t) _ ⟨this,trivial⟩⟩|false=>simp only[BG,hd,cond_false];exact⟨fun hf=>ih.2 hf,fun hf=>one (.st t) _ (ih.2 hf)⟩
 |sl t ih=>cases hd:kL t with|true=>have:=dt (.sl t) hd;simp only[BG,hd,cond_true];exact⟨fun _=>⟨this,trivial⟩,fun _=>one (.sl t) _ ⟨this,trivial⟩⟩|false=>simp only[BG,hd,cond_false];exact⟨fun _=>⟨rfl,trivial⟩,fun _=>one (.sl t) _ ⟨rfl,trivial⟩⟩
 |ar m t ih=>cases hd:kL t with|true=>have:=dt (.ar m t) hd;simp only[BG,hd,cond_true];exact⟨fun _=>⟨this,trivial⟩,fun _=>one (.ar m t) _ ⟨this,trivial⟩⟩|false=>simp only[BG,hd,cond_false];exact⟨fun hf=>by simp[eL]at hf,fun hf=>by simp[eL]at hf⟩
 |o k=>
  have:fm h (.nl k) (fz (nC (.o k))):=by
   show fz (nC (.o k))=[DN k]
   rcases k with _|_|_|_|k<;>rfl
  exact⟨fun _=>⟨this,trivial⟩,fun _=>one (.o k) _ ⟨this,trivial⟩⟩
 |mp k v=>exact⟨fun _=>⟨rfl,trivial⟩,fun _=>one (.mp k v) _ ⟨rfl,trivial⟩⟩
 |un=>exact⟨fun _=>⟨dt .un rfl,trivial⟩,fun _=>one .un _ ⟨dt .un rfl,trivial⟩⟩
 |i k=>exact⟨fun _=>⟨dt (.i k) rfl,trivial⟩,fun _=>one (.i k) _ ⟨dt (.i k) rfl,trivial⟩⟩
 |b=>exact⟨fun _=>⟨dt .b rfl,trivial⟩,fun _=>one .b _ ⟨dt .b rfl,trivial⟩⟩
 |s=>exact⟨fun _=>⟨dt .s rfl,trivial⟩,fun _=>one .s _ ⟨dt .s rfl,trivial⟩⟩
 |f k=>exact⟨fun _=>⟨dt (.f k) rfl,trivial⟩,fun _=>one (.f k) _ ⟨dt (.f k) rfl,trivial⟩⟩
theorem yO{t:Ty}{v w:V}{cs:List C}(hw:Nm t v=some w)(hv:fm h v cs)(hk:fg n h v):fm h w cs/\eL w false t=true/\fg n h w/\tC w=tC v:=by
 unfold Nm at hw;split at hw
 .rename_i y hy;obtain rfl:=aa hw;cases hd:kL t with|false=>rw[hd]at hy;simp at hy|true=>rw[hd,cond_true]at hy;exact⟨⟨hd,pP hy hv⟩,by simp[eL],trivial,(EH hy).symm⟩
 .cases hf:eL v false t with|false=>rw[hf]at hw;simp at hw|true=>rw[hf,cond_true]at hw;obtain rfl:=aa hw;exact⟨hv,hf,hk,rfl⟩
theorem MW{t:Ty}{v:V}{y:El t}(hy:ik t v=some y):N8 v:=by cases v<;>first|trivial|(simp[ik]at hy)
theorem OH{t:Ty}{v:V}(hf:eL v false t=true):N8 v:=by cases v<;>first|trivial|(cases t<;>simp[eL]at hf)
theorem FZ{t:Ty}{v w:V}(hw:Nm t v=some w):N8 v:=by
 unfold Nm at hw;split at hw
 .rename_i y hy;cases hd:kL t with|false=>rw[hd]at hy;simp at hy|true=>rw[hd,cond_true]at hy;exact MW hy
 .cases hf:eL v false t with|false=>rw[hf]at hw;simp at hw|true=>exact OH hf
theorem QR{t:Ty}{v:V}(hf:eL v false t=true)(ha:nA t=true):tC v=true:=by
 cases t<;>simp[nA]at ha
 all_goals(cases v<;>first|rfl|(simp[eL]at hf;done)|skip)
 .simp only[eL,decide_eq_true_eq]at hf;subst hf;rfl
 .simp only[eL,decide_eq_true_eq]at hf;subst hf;rfl
theorem M0{t:Ty}:∀(is:List Nat)(ps:List (Nat×Nat))(ws:List V)(c c':V)(cs:List C)(xs:List TV),xG t is ps ws c=some c'->eL c false t=true->fm h c cs->fg n h c->mT h ws xs->(∀w∈ws,fg n h w)->
  ∃cs',nk cs (ps.zip xs)=some cs'/\fm h c' cs'/\fg n h c'/\eL c' false t=true:=by
 intro is;induction is with
 |nil=>
  intro ps ws c c' cs xs hb hf hc hk hx hw;cases ps with
  |cons p ps=>simp[xG]at hb
  |nil=>cases ws with|cons w ws=>simp[xG]at hb|nil=>obtain rfl:=aa hb;exact⟨cs,by simp[nk],hc,hk,hf⟩
 |cons i is ih=>
  intro ps ws c c' cs xs hb hf hc hk hx hw;cases ps with
  |nil=>simp[xG]at hb
  |cons p ps=>
   obtain⟨off,m⟩:=p;cases ws with
   |nil=>simp[xG]at hb
   |cons w ws=>
    obtain⟨x,ys,rfl,hx1,hx2⟩:=gU hx;have hw1:=hw w (by simp)
    have kM:∀(pe:Pe)(a:Ty),rh t [pe]=some a->IZ t [pe]->mX t [pe]=off->bA a=m->(match Nm a w with|some w=>(match oK c [pe] w with|some c=>bif eL c false t then xG t is ps ws c else none|none=>none)|none=>none)=some c'->
      ∃cs',nk cs (((off,m),x)::ps.zip ys)=some cs'/\fm h c' cs'/\fg n h c'/\eL c' false t=true:=by
     intro pe a h1 h2 h3 h4 hb;split at hb
     .rename_i w1 hw1';obtain⟨cw,q1,q2⟩:=qK (oX (FZ hw1') hx1);split at hb
      .rename_i c1 hc1;cases hfc:eL c1 false t with|false=>rw[hfc]at hb;simp at hb|true=>rw[hfc,cond_true]at hb;obtain⟨k1,k2,k3,_⟩:=yO hw1' q1 hw1;have hl:=iD k1;rw[gW _ _ _ k2,h4]at hl;have hsp:=wd [pe] c t w1 c1 cs cw a hf hc h2 hc1 h1 k1 (by rw[hl,h4]);rw[h3]at hsp;have hle:=wq [pe] t a h1 h2;have hcl:=iD hc;rw[gW _ _ _ hf]at hcl;obtain⟨cs',e1,e2,e3,e4⟩:=ih ps ws c1 c' _ ys hb hfc hsp (Hb _ _ _ _ hk k3 hc1) hx2 fun w hw'=>hw w (by simp[hw']);refine⟨cs',?_,e2,e3,e4⟩;simp only[nk,q2];rw[if_pos ⟨hl,by omega⟩,e1]
      .simp at hb
     .simp at hb
    cases t with
    |st u=>
     simp only[xG]at hb;split at hb
     .rename_i a ha;cases hq:(o8 u i==off)&&(bA a==m)with|false=>rw[hq]at hb;simp at hb|true=>rw[hq,cond_true]at hb;simp only[ai,beq_iff_eq]at hq;exact kM (.fd i) a (by simp[rh,ha]) ⟨a,ha,by cases a<;>trivial⟩ (by simp only[mX,ha];rw[hq.1];cases a<;>rfl) hq.2 hb
     .simp at hb
    |ar k u=>simp only[xG]at hb;cases hq:(i*bA u==off)&&(bA u==m)&&decide (i<k)with|false=>rw[hq]at hb;simp at hb|true=>rw[hq,cond_true]at hb;simp only[ai,beq_iff_eq,decide_eq_true_eq]at hq;exact kM (.ix i) u (by simp[rh]) ⟨hq.2,by cases u<;>trivial⟩ (by simp only[mX];rw[hq.1.1];cases u<;>rfl) hq.1.2 hb
    |_=>simp[xG]at hb
end
theorem Rl(a b:ByteArray):(a==b)=decide (a=b):=by obtain⟨x⟩:=a;obtain⟨y⟩:=b;show ByteArray.beq ⟨x⟩ ⟨y⟩=_;unfold ByteArray.beq;rw[dv];simp[ByteArray.ext_iff]
def vT(t:Ty)(x:El t):List Value:=(aS t x).map fun|.lit y=>y|_=>.nilFunc
theorem xn{k1 k2:List Kd}{a1 a2 b1 b2:List Value}{p q:Bool}(h1:gJ k1 a1 b1=some p)(h2:gJ k2 a2 b2=some q):gJ (k1++k2) (a1++a2) (b1++b2)=some (p&&q):=by
 induction k1 generalizing a1 b1 p with
 |nil=>cases a1<;>cases b1<;>simp[gJ]at h1;subst h1;simpa using h2
 |cons k k1 ih=>
  cases a1<;>cases b1<;>simp only[gJ]at h1<;>first|cases h1;done|skip
  split at h1
  .rename_i c d hc hd;obtain rfl:=aa h1;simp only[aU,gJ,hc,ih hd,Bool.and_assoc]
  .simp at h1
theorem zb{k1 k2:List Kd}{a1 a2:List Value}(h1:zX k1 a1=true)(h2:zX k2 a2=true):zX (k1++k2) (a1++a2)=true:=by
 induction k1 generalizing a1 with
 |nil=>cases a1<;>simp[zX]at h1;simpa using h2
 |cons k k1 ih=>
  cases a1<;>simp only[zX]at h1<;>first|cases h1;done|skip
  simp only[ai]at h1;simp[zX,h1.1,ih h1.2]
theorem xR:∀(t:Ty)(ks:List Kd),D_ t=some ks->(∀x,aS t x=(vT t x).map .lit)/\(∀x,zX ks (vT t x)=true)/\(∀a b:El t,gJ ks (vT t a) (vT t b)=some (decide (a=b)))/\ks.length=bA t:=by
 intro t;induction t with
 |pr a c iha ihc=>
  intro ks hk;simp only[D_]at hk;split at hk
  .rename_i x y hx hy;obtain rfl:=aa hk;obtain⟨a1,a2,a3,a4⟩:=iha x hx;obtain⟨c1,c2,c3,c4⟩:=ihc y hy;have e:∀v:El (.pr a c),vT (.pr a c) v=vT a v.1++vT c v.2:=fun v=>by simp[vT,aS]
   refine⟨fun v=>by rw[e,gP,<-a1,<-c1];rfl,fun v=>by rw[e];exact zb (a2 _) (c2 _),fun u v=>?_,by simp[bA,a4,c4]⟩;rw[e,e,xn (a3 _ _) (c3 _ _)];congr 1;rw[dv];simp[Prod.ext_iff]
  .simp at hk
 |st t ih=>intro ks hk;exact ih ks hk
 |ar m t ih=>
  intro ks hk;simp only[D_]at hk;split at hk
  .rename_i x hx;obtain rfl:=aa hk;obtain⟨a1,a2,a3,a4⟩:=ih x hx;have e:∀v:El (.ar m t),vT (.ar m t) v=v.1.flatMap (vT t):=fun v=>by simp only[vT,aS,List.map_flatMap];rfl
   refine⟨fun v=>?_,fun v=>?_,fun u v=>?_,?_⟩
   .rw [e];simp only[aS,List.map_flatMap];congr 1;funext y;exact a1 y
   .rw [e];obtain⟨l,hl⟩:=v;clear e hk ih;simp only;induction l generalizing m with|nil=>subst hl;rfl|cons y l ihl=>subst hl;simp only[db,iE,ez,bk];exact zb (a2 y) (ihl _ rfl)
   .rw [e,e];obtain⟨l,hl⟩:=u;obtain⟨r,hr⟩:=v
    have key:∀(m:Nat)(l r:List (El t)),l.length=m->r.length=m->gJ (az m x).flatten (l.flatMap (vT t)) (r.flatMap (vT t))=some (decide (l=r)):=by
     intro m;induction m with
     |zero=>intro l r h1 h2;obtain rfl:=bc.1 h1;obtain rfl:=bc.1 h2;rfl
     |succ m ihm=>
      intro l r h1 h2;cases l with
      |nil=>simp at h1
      |cons y l=>cases r with|nil=>simp at h2|cons z r=>simp only[iE,ez,bk];rw[xn (a3 y z) (ihm l r (by simpa using h1) (by simpa using h2))];congr 1;rw[dv];simp
    rw[key m l r hl hr];congr 1;rw[dv];simp only[decide_eq_true_eq];exact⟨fun h=>Subtype.ext h,fun h=>congrArg Subtype.val h⟩
   .simp [bA,a4]
  .simp at hk
 |i k=>intro ks hk;obtain rfl:=aa hk;refine⟨fun _=>rfl,fun x=>by simp[vT,aS,zX,LL],fun a b=>?_,rfl⟩;simp only[vT,aS,aD,aW,gJ,E3,and_self,if_true,Bool.and_true];congr 1
 |b=>intro ks hk;obtain rfl:=aa hk;refine⟨fun _=>rfl,fun x=>by simp[vT,aS,zX,LL],fun a b=>?_,rfl⟩;simp only[vT,aS,aD,aW,gJ,E3,Bool.and_true];congr 1
 |s=>intro ks hk;obtain rfl:=aa hk;refine⟨fun _=>rfl,fun x=>by simp[vT,aS,zX,LL],fun a b=>?_,rfl⟩;simp only[vT,aS,aD,aW,gJ,E3,Bool.and_true];rw[Rl]
 |_=>intro ks hk;simp[D_]at hk
section
variable{h:H2}{n:Nat}{h1:bF}
theorem J0{z:Bool}{op:BinOp}{k k':IntKind}{a b:Int}{v:V}(hb:Rk z op k k' a b=some v)(hz:z=true->0<b):∃y,sx op (.int k a) (.int k' b)=some y/\ge h v (lv y)/\fg n h v:=by
 have one:∀(q:IntKind)(c:Int),ge h (.x (.i q) c) (lv (.int q c)):=fun q c=>ct (dY rfl ⟨rfl,rfl⟩);have onb:∀(c:Bool),ge h (.x .b c) (lv (.bool c)):=fun c=>ct (dY rfl ⟨rfl,rfl⟩);cases op<;>simp only[Rk]at hb
 all_goals first
  |(cases z<;>simp only[cond_true,cond_false]at hb<;>first|(cases hb;done)|skip
    have:=hz rfl;obtain rfl:=aa hb;refine⟨_,by simp only[sx];rw[if_neg (by omega)];rfl,one _ _,trivial⟩)
  |skip
 all_goals
  by_cases hk:k=k'
  .subst hk;simp only[decide_true,cond_true]at hb
   first
    |(cases hb;done)
    |(obtain rfl:=aa hb
      refine⟨_,by simp only[sx,if_true];rfl,?_,trivial⟩
      first|exact one _ _|exact onb _)
    |(obtain rfl:=aa hb
      first
       |exact⟨.int k (J3 k a b),by simp only[sx,if_true,xX];rfl,one _ _,trivial⟩
       |exact⟨.int k (RS k a b),by simp only[sx,if_true,Cw];rfl,one _ _,trivial⟩
       |exact⟨.int k (Rm k a b),by simp only[sx,if_true,O2];rfl,one _ _,trivial⟩
       |exact⟨.int k (rU k a b),by simp only[sx,if_true,uY];rfl,one _ _,trivial⟩)
    |(cases z<;>simp only[cond_true,cond_false]at hb<;>first|(cases hb;done)|skip
      have:=hz rfl;obtain rfl:=aa hb;refine⟨_,by simp only[sx,if_true];rw[if_neg (by omega)],one _ _,trivial⟩)
  .simp [hk]at hb
theorem JZ{op:BinOp}{a b:ByteArray}{v:V}(hb:Rj op a b=some v):∃y,sx op (.string a) (.string b)=some y/\ge h v (lv y)/\fg n h v:=by
 have onb:∀(c:Bool),ge h (.x .b c) (lv (.bool c)):=fun c=>ct (dY rfl ⟨rfl,rfl⟩);cases op<;>simp only[Rj]at hb<;>first|(cases hb;done)|skip
 all_goals(obtain rfl:=aa hb;exact⟨_,rfl,onb _,trivial⟩)
theorem Ln{m:Bool}{k:IntKind}:∀{r:List V}{x y:Int}{xs:List TV},RN m k x r=some y->mT h r xs->Pv m (.int k x) (xs.map some)=some (.int k y):=by
 intro r;induction r with
 |nil=>intro x y xs hm hx;obtain rfl:=lX hx;obtain rfl:=aa hm;rfl
 |cons v r ih=>
  intro x y xs hm hx;obtain⟨x1,ys,rfl,h1,h2⟩:=gU hx;cases v with
  |x t c=>
   cases t with
   |i k'=>
    simp only[RN]at hm;by_cases hk:k'=k
    .subst hk;simp only[decide_true,cond_true]at hm;obtain rfl:=kA h1;have:=ih hm h2;cases m<;>simpa[Pv,S8]using this
    .simp [hk]at hm
   |_=>simp[RN]at hm
  |_=>simp[RN]at hm
theorem nv{α:Type}:∀(l:List α),eM (l.map some)=some l:=by intro l;induction l with|nil=>rfl|cons a l ih=>simp[eM,ih]
theorem Ld{kind:Nat}{v w:V}{x:TV}{neg:Bool}{c:Call}{nx:Nat}(hx:ge h v x)(ha:iz h v=true)(hn:yR h kind v=some w):
  ∃y,cQ c (.qY kind neg) [some x] h1 nx=some (y,[],[],nx)/\ge h (bif neg then Lf w else w) y/\fg n h (bif neg then Lf w else w):=by
 have kb:∀b,ge h (.kb b) (tB b):=fun b=>ct (dY rfl rfl);have xb:∀b,ge h (.x .b b) (tB b):=fun b=>ct (dY rfl ⟨rfl,rfl⟩)
 have sl:∀q,uc h v=some q->(bif kind==0 then(match uc h v with|some ⟨_,s,_⟩=>some (.x .b s.fS)|none=>none)else none)=some w->
   ∃y,cQ c (.qY kind neg) [some x] h1 nx=some (y,[],[],nx)/\ge h (bif neg then Lf w else w) y/\fg n h (bif neg then Lf w else w):=by
  intro q hq hw;cases hkk:kind==0 with
  |false=>rw[hkk]at hw;simp at hw
  |true=>
   obtain rfl:kind=0:=by simpa using hkk
   rw[hq]at hw;simp only[hkk,cond_true]at hw;obtain rfl:=aa hw;refine⟨_,Qy hx ha hq,?_⟩;cases neg
   .exact ⟨xb _,trivial⟩
   .exact ⟨xb _,trivial⟩
 cases v with
 |nl k=>
  simp only[yR]at hn;cases hkk:(k==kind)&&Nat.blt k 3 with
  |false=>rw[hkk]at hn;simp at hn
  |true=>
   rw[hkk,cond_true]at hn;obtain rfl:=aa hn;simp only[ai,beq_iff_eq]at hkk;obtain⟨rfl,hlt⟩:=hkk;have hlt:k<3:=jf hlt;rw[vZ hx]
   match k,hlt with|0,_=>cases neg<;>exact⟨_,rfl,kb _,trivial⟩|1,_=>cases neg<;>exact⟨_,rfl,kb _,trivial⟩|2,_=>cases neg<;>exact⟨_,rfl,kb _,trivial⟩
 |pt t v=>
  simp only[yR]at hn;cases hkk:kind==1 with
  |false=>rw[hkk]at hn;simp at hn
  |true=>
   rw[hkk,cond_true]at hn;obtain rfl:=aa hn;obtain rfl:kind=1:=by simpa using hkk
   rw[(yb hx).2];cases neg<;>exact⟨_,rfl,kb _,trivial⟩
 |op id t p=>
  simp only[yR]at hn;cases hkk:kind==1 with
  |false=>rw[hkk]at hn;simp at hn
  |true=>
   rw[hkk,cond_true]at hn;obtain rfl:=aa hn;obtain rfl:kind=1:=by simpa using hkk
   rw[vY hx];cases neg<;>exact⟨_,rfl,kb _,trivial⟩
 |ep id m t p=>
  simp only[yR]at hn;cases hkk:kind==1 with
  |false=>rw[hkk]at hn;simp at hn
  |true=>
   rw[hkk,cond_true]at hn;obtain rfl:=aa hn;obtain rfl:kind=1:=by simpa using hkk
   rw[sH hx];cases neg<;>exact⟨_,rfl,kb _,trivial⟩
 |fn z f l=>
  simp only[yR]at hn;cases hkk:kind==2 with
  |false=>rw[hkk]at hn;simp at hn
  |true=>
   rw[hkk,cond_true]at hn;obtain rfl:=aa hn;obtain rfl:kind=2:=by simpa using hkk
   rcases E9 hx with⟨_,ds,_,rfl⟩|⟨_,cs,_,rfl⟩<;>(cases neg<;>exact⟨_,rfl,kb _,trivial⟩)
 |x t v=>cases hq:uc h (.x t v)with|none=>simp[yR,hq]at hn|some q=>exact sl q hq hn
 |so id=>cases hq:uc h (.so id)with|none=>simp[yR,hq]at hn|some q=>exact sl q hq hn
 |sb id ver lo t r=>cases hq:uc h (.sb id ver lo t r)with|none=>simp[yR,hq]at hn|some q=>exact sl q hq hn
 |_=>simp[yR,uc]at hn
theorem Mi{off m i:Nat}{v w:V}{x:TV}{c:Call}{nx:Nat}(hx:ge h v x)(hk:fg n h v)(hw:Gv off m i v=some w):
  ∃y,cQ c (.fieldAddr off m) [some x] h1 nx=some (y,[],[],nx)/\ge h w y/\fg n h w:=by
 have N9:∀(t u a:Ty)(p:p8),rh t p=some (.st u)->CO u i=some a->IZ t p->IZ t (p++[.fd i])/\mX t (p++[.fd i])=mX t p+o8 u i:=by
  intro t u a p;induction p generalizing t with
  |nil=>
   intro h1 h2 _;have e:rh t []=some t:=by cases t<;>rfl
   obtain rfl:t=.st u:=by rw[e]at h1;exact aa h1
   refine⟨⟨a,h2,by cases a<;>trivial⟩,?_⟩;simp only[bl,mX,h2];cases a<;>simp[mX]
  |cons q p ih=>
   intro h1 h2 h3;cases q with
   |fd j=>cases t with|st t=>obtain⟨b2,hb,h3⟩:=h3;simp only[rh,hb]at h1;obtain⟨q1,q2⟩:=ih b2 h1 h2 h3;refine⟨⟨b2,hb,q1⟩,?_⟩;simp only[aU,mX,hb,q2];exact(cP _ _ _).symm|_=>exact h3.elim
   |ix k=>cases t with|ar l t=>obtain⟨hk,h3⟩:=h3;obtain⟨q1,q2⟩:=ih t h1 h2 h3;refine⟨⟨hk,q1⟩,?_⟩;simp only[aU,mX,q2];exact(cP _ _ _).symm|_=>exact h3.elim
 cases v with
 |op id t p=>
  simp only[Gv]at hw;split at hw
  .rename_i u hu;split at hw
   .rename_i a hf;cases hq:(o8 u i==off)&&(bA a==m)with
    |false=>rw[hq]at hw;simp at hw
    |true=>
     rw[hq,cond_true]at hw;obtain rfl:=aa hw;simp only[ai,beq_iff_eq]at hq;obtain⟨q1,q2⟩:=N9 t u a p hu hf hk.2;rw[vY hx];refine⟨_,rfl,ct (dY rfl ?_),hk.1,q1⟩;show[_]=[_]
     rw[q2,hq.1]
   .simp at hw
  .simp at hw
 |ep id k t p=>
  simp only[Gv]at hw;split at hw
  .rename_i u hu;split at hw
   .rename_i a hf;cases hq:(o8 u i==off)&&(bA a==m)with
    |false=>rw[hq]at hw;simp at hw
    |true=>
     rw[hq,cond_true]at hw;obtain rfl:=aa hw;simp only[ai,beq_iff_eq]at hq;obtain⟨q1,q2⟩:=N9 t u a p hu hf hk.2.1;rw[sH hx];refine⟨_,rfl,ct (dY rfl ?_),hk.1,q1,hk.2.2⟩;show[_]=[_]
     rw[q2,hq.1]
   .simp at hw
  .simp at hw
 |pt t v=>
  cases t with
  |st u=>
   simp only[Gv]at hw;split at hw
   .rename_i a y hy;cases hq:(o8 u i==off)&&(bA a==m)with
    |false=>rw[hq]at hw;simp at hw
    |true=>
     rw[hq,cond_true]at hw;obtain rfl:=aa hw;simp only[ai,beq_iff_eq]at hq;obtain⟨a',y',e,f1,f2,f3⟩:=qV _ _ _ _ hy;cases e;obtain⟨hd,rfl⟩:=yb hx;refine⟨_,?_,ct (dY (c:=.d (.pt (aS a y))) rfl ⟨zC u _ _ hd f1,rfl⟩),trivial⟩;have hle:off+m<=(aS (.st u) v).length:=by rw[bJ];show _<=bA u;omega
     have e2:((aS (.st u) v).drop off).take m=aS a y:=by rw[<-hq.1,<-hq.2];exact f3
     simp only[cQ,kj];rw[if_pos hle,e2]
   .simp at hw
  |_=>simp[Gv]at hw
 |_=>simp[Gv]at hw
theorem I1:∀(l:V)(i:Nat)(w:V)(cs:List C),fm h l cs->sq l i=some w->∃cw,fm h w cw/\OE l i+yh w<=cs.length/\(cs.drop (OE l i)).take (yh w)=cw:=by
 intro l;induction l with
 |co a r iha ihr=>intro i w cs hv hw;obtain⟨x,y,rfl,k1,k2⟩:=hv;have hl:=iD k1;cases i with|zero=>obtain rfl:=aa hw;refine⟨x,k1,by simp[OE];omega,?_⟩;simp only[OE,List.drop_zero];rw[<-hl,List.take_left]|succ i=>obtain⟨cw,q1,q2,q3⟩:=ihr i w y k2 hw;refine⟨cw,q1,by simp only[OE,av];omega,?_⟩;simp only[OE];rw[<-dz,<-hl,List.drop_left,q3]
 |_=>intro i w cs hv hw;simp[sq]at hw
theorem Oi:∀(l:V)(i:Nat)(w:V)(xs:List TV),BJ h l xs->sq l i=some w->∃x,xs[i]?=some x/\sI h w x:=by
 intro l;induction l with
 |co a r iha ihr=>intro i w xs hv hw;obtain⟨x,ys,rfl,k1,k2⟩:=hv;cases i with|zero=>obtain rfl:=aa hw;exact⟨x,rfl,k1⟩|succ i=>exact ihr i w ys k2 hw
 |_=>intro i w xs hv hw;simp[sq]at hw
end
section
variable{h:H2}{n:Nat}{h1:bF}
def Ry(h:H2)(n:Nat)(h1:bF)(k:K)(xs:List TV)(v:V)(l:List Nat):Prop:=∀(c:Call)(nx:Nat),∃x aA,cQ c k (xs.map some) h1 nx=some (x,[],aA,nx)/\ge h v x/\fg n h v/\∀i∈aA,i∈l
theorem Ry.of{k:K}{xs:List TV}{v:V}{x:TV}(he:∀(c:Call)(nx:Nat),cQ c k (xs.map some) h1 nx=some (x,[],[],nx))(hx:ge h v x)(hk:fg n h v):Ry h n h1 k xs v []:=fun c nx=>⟨x,[],he c nx,hx,hk,fun i hi=>by simp at hi⟩
theorem xb(b:Bool):ge h (.x .b b) (tB b):=ct (dY rfl ⟨rfl,rfl⟩)
theorem xi(k:IntKind)(a:Int):ge h (.x (.i k) a) (tI k a):=ct (dY rfl ⟨rfl,rfl⟩)
theorem RI(a:ByteArray):ge h (.x .s a) (.c (.d (dS a))):=ct (dY rfl ⟨rfl,rfl⟩)
def RJ(t:Ty)(y:El t):TV:=if nA t=true then .agg ((aS t y).map .d)else match aS t y with|d::_=>.c (.d d)|[]=>.iT []
theorem G7{t:Ty}(y:El t){va:Bool}(hv:nA t=va)(h1:(va||bA t==1)=true):pu va (aS t y)=some (RJ t y):=by
 subst hv;unfold pu RJ;cases ha:nA t with
 |true=>rfl
 |false=>
  rw[ha]at h1;have:=bJ t y;rw[show bA t=1 by simpa using h1]at this;cases he:aS t y with
  |nil=>rw[he]at this;simp at this
  |cons d r=>
   rw[he]at this;have:r=[]:=by simpa using this
   subst this;rfl
theorem Kk{t:Ty}{y:El t}(hd:kL t=true)(h1:(nA t||bA t==1)=true):sI h (.x t y) (RJ t y):=by
 unfold RJ;cases ha:nA t with
 |true=>exact yd ha ⟨hd,rfl⟩
 |false=>
  rw[ha]at h1;have:=bJ t y;rw[show bA t=1 by simpa using h1]at this;cases he:aS t y with
  |nil=>rw[he]at this;simp at this
  |cons d r=>
   rw[he]at this;have:r=[]:=by simpa using this
   subst this;exact dY ha ⟨hd,by rw[he];rfl⟩
theorem J6(f:TV->Option C)(hf:∀c,f (.c c)=some c):∀(cs:List C),eM ((cs.map TV.c).map f)=some cs:=by intro cs;induction cs with|nil=>rfl|cons c cs ih=>simp only[aD,hf,eM,ih]
theorem yZ:∀(l:List Value),lS (l.map fun v=>C.d (.lit v))=some l:=by intro l;induction l with|nil=>rfl|cons v l ih=>simp[lS,ih]
theorem D7{kt:Ty}{ks:List Kd}{v:V}{x:TV}{y:El kt}{ka:Bool}(hx:ge h v x)(hc:t7 kt v=some y)(hk:D_ kt=some ks)(ha:nA kt=ka):o7 ka ks x=some (vT kt y):=by
 obtain⟨h1,h2,_,h4⟩:=xR kt ks hk;obtain⟨g1,g2⟩:=vI hx hc;cases ka with
 |true=>
  rw[g1 ha];have e:(aS kt y).map C.d=(vT kt y).map fun v=>C.d (.lit v):=by rw[h1 y,lN];rfl
  simp only[o7];rw[if_pos ⟨trivial,by rw[aO,bJ,h4]⟩,e,yZ];simp only[h2 y,if_true]
 |false=>
  obtain⟨d,hd,rfl⟩:=g2 ha;have hl:=bJ kt y;rw[hd]at hl;have h5:=h1 y;rw[hd]at h5;cases hv:vT kt y with
  |nil=>rw[hv]at h5;simp at h5
  |cons q r=>
   rw[hv]at h5;simp only[aD,dQ]at h5;obtain⟨rfl,h6⟩:=h5;have:r=[]:=by simpa using h6.symm
   subst this;simp only[o7];rw[if_pos ⟨trivial,by rw[h4,<-hl];rfl⟩];have h7:=h2 y;rw[hv]at h7;simp only[lS,h7,if_true]
theorem Ls{v:V}{q:(k:Ty)×(v:Ty)×Mp (El k) (El v)×List Nat}{x:TV}(hr:HR n h1 h)(hm:Oq h v=some q)(hx:ge h v x):
  ∃id,v=.om id/\x=.c (.om id)/\q.2.2.2=[id]/\fO h id=some (.mp q.1 q.2.1 q.2.2.1)/\aB h1 id=E1 (nA q.1) (nA q.2.1) (vT q.1) (aS q.2.1) q.2.2.1:=by
 cases v with
 |om id=>
  simp only[Oq]at hm;split at hm
  .rename_i k v m ho;obtain rfl:=aa hm;exact⟨id,rfl,E8 hx,rfl,ho,(hr.ob id _ ho).2.1.2.2⟩
  .simp at hm
 |_=>simp[Oq]at hm
theorem Lv{c:Call}{x y:TV}{H:bF}{l:List Nat}{nx:Nat}(h:cQ c (.load false 1) [some x] H nx=some (y,[],l,nx)):cQ c .uj [some x] H nx=some (y,[],l,nx):=by
 cases x with
 |c p=>
  have h:(match ig false 1 p H with|some (v,aA)=>some (v,([]:fF),aA,nx)|none=>none)=some (y,[],l,nx):=h;show(match ig false 1 p H with|some (v,aA)=>some (v,([]:fF),aA,nx)|none=>lI false 1 p H nx)=some (y,[],l,nx);split at h
  .exact h
  .cases h
 |_=>cases h
theorem If{o:OP}{vs:List V}{v:V}{l:List Nat}{xs:List TV}(hr:HR n h1 h)(ht:P6 o vs h=some (v,l))(hx:mT h vs xs)(hk:∀w∈vs,fg n h w)(ha:∀w∈vs,iz h w=true)
  (hp:N6 o.o.args=true->∀a k b,vs=[a,.x (.i k) b]->0<b):Ry h n h1 o.o.k xs v l:=by
 obtain⟨⟨d,k,args,g⟩,t,fi⟩:=o;simp only at hp|-;unfold P6 at ht;simp only at ht;split at ht
 .--mv
  obtain⟨rfl,rfl⟩:=ad (aa ht);obtain⟨x,rfl,h2⟩:=iS hx;exact .of (fun _ _=>rfl) h2 (hk _ (by simp))
 .--nilCheck
  obtain⟨x,rfl,h2⟩:=iS hx;have hk1:=hk _ (ao.2 rfl);split at ht
  .obtain ⟨rfl,rfl⟩:=ad (aa ht);exact .of (fun _ _=>by rw[(yb h2).2];rfl) h2 hk1
  .obtain ⟨rfl,rfl⟩:=ad (aa ht);refine .of (fun _ _=>?_) h2 hk1;rcases E9 h2 with⟨_,ds,_,rfl⟩|⟨_,cs,_,rfl⟩<;>rfl
  .obtain ⟨rfl,rfl⟩:=ad (aa ht);exact .of (fun _ _=>by rw[sH h2];rfl) h2 hk1
  .obtain ⟨rfl,rfl⟩:=ad (aa ht);exact .of (fun _ _=>by rw[vY h2];rfl) h2 hk1
  .simp at ht
 .--Ax int
  rename_i op q a q' b;obtain⟨x,y,rfl,h2,h3⟩:=jj hx;obtain rfl:=kA h2;obtain rfl:=kA h3;split at ht
  .rename_i w hw;obtain⟨rfl,rfl⟩:=ad (aa ht);obtain⟨y,h4,h5,h6⟩:=J0 (h:=h) (n:=n) hw fun hz=>hp hz _ _ _ rfl;exact .of (fun _ _=>by simp only[mm,cQ,h4]) h5 h6
  .simp at ht
 .--Ax string
  obtain⟨x,y,rfl,h2,h3⟩:=jj hx;obtain rfl:=w7 h2;obtain rfl:=w7 h3;split at ht
  .rename_i w hw;obtain⟨rfl,rfl⟩:=ad (aa ht);obtain⟨y,h4,h5,h6⟩:=JZ (h:=h) (n:=n) hw;exact .of (fun _ _=>by simp only[mm,cQ,h4]) h5 h6
  .simp at ht
 .--uU
  rename_i neg v1 v2;obtain⟨x,y,rfl,h2,h3⟩:=jj hx;split at ht
  .rename_i a b ha' hb';obtain⟨rfl,rfl⟩:=ad (aa ht);rw[PF h2 ha',PF h3 hb'];refine .of (x:=tB (bif neg then !(a==b)else a==b)) (fun _ _=>?_) (xb _) trivial;cases neg<;>rfl
  .simp at ht
 .--qY
  obtain⟨x,rfl,h2⟩:=iS hx;split at ht
  .rename_i w hw;obtain⟨rfl,rfl⟩:=ad (aa ht);intro c nx;obtain⟨y,h4,h5,h6⟩:=Ld (n:=n) (h1:=h1) (c:=c) (nx:=nx) h2 (ha _ (by simp)) hw;exact⟨y,[],h4,h5,h6,fun i hi=>by simp at hi⟩
  .simp at ht
 .--zx
  rename_i neg ks t1 a w;obtain⟨x,y,rfl,h2,h3⟩:=jj hx;split at ht
  .rename_i b hb;cases hq:nA t1&&decide (D_ t1=some ks)with
   |false=>rw[hq]at ht;simp at ht
   |true=>
    rw[hq,cond_true]at ht;obtain⟨rfl,rfl⟩:=ad (aa ht);simp only[ai,decide_eq_true_eq]at hq;obtain⟨k1,k2,k3,k4⟩:=xR t1 ks hq.2;have e1:=(vI (v:=.x t1 a) (u:=t1) (y:=a) h2 (by simp[t7,kV,ik,gN])).1 hq.1;have e2:=(vI h3 hb).1 hq.1;have el:∀z:El t1,lS ((aS t1 z).map C.d)=some (vT t1 z):=fun z=>by rw[show(aS t1 z).map C.d=(vT t1 z).map fun v=>C.d (.lit v)by rw[k1 z,lN];rfl,yZ]
    rw[e1,e2];refine .of (x:=tB (bif neg then !(decide (a=b))else decide (a=b))) (fun _ _=>?_) (xb _) trivial;simp only[mm,cQ,el,k3];cases neg<;>rfl
  .simp at ht
 .obtain ⟨rfl,rfl⟩:=ad (aa ht);obtain⟨x,rfl,h2⟩:=iS hx;rw[v7 h2];exact .of (fun _ _=>rfl) (ct (dY rfl rfl)) trivial
 .obtain ⟨rfl,rfl⟩:=ad (aa ht);obtain⟨x,rfl,h2⟩:=iS hx;rw[G9 h2];exact .of (fun _ _=>rfl) (xb _) trivial
 .obtain ⟨rfl,rfl⟩:=ad (aa ht);obtain⟨x,rfl,h2⟩:=iS hx;rw[kA h2];exact .of (fun _ _=>rfl) (xi _ _) trivial
 .obtain ⟨rfl,rfl⟩:=ad (aa ht);obtain⟨x,rfl,h2⟩:=iS hx;rw[kA h2];exact .of (fun _ _=>rfl) (xi _ _) trivial
 .obtain ⟨rfl,rfl⟩:=ad (aa ht);obtain⟨x,rfl,h2⟩:=iS hx;rw[kA h2];exact .of (fun _ _=>rfl) (xi _ _) trivial
 .obtain ⟨rfl,rfl⟩:=ad (aa ht);obtain⟨x,rfl,h2⟩:=iS hx;rw[w7 h2];exact .of (fun _ _=>rfl) (RI _) trivial
 .--I8
  rename_i f;cases hc:vs.all OZ with
  |false=>rw[hc]at ht;simp at ht
  |true=>
   rw[hc,cond_true]at ht;obtain⟨rfl,rfl⟩:=ad (aa ht);obtain⟨cs,h2,rfl⟩:=Kl hx fun w hw=>by have:=List.all_eq_true.1 hc w hw;cases w<;>first|exact⟨trivial,by simp[OZ]at this;exact this⟩|simp[OZ]at this
   refine .of (x:=.c (.o5 f cs)) (fun _ _=>?_) (ct (dY rfl ⟨cs,h2,rfl⟩)) ?_
   .simp only[cQ,nv];rw[J6 _ fun _=>rfl]
   .clear ht h2 hp ha hc hx;induction vs with|nil=>trivial|cons w vs ih=>exact⟨hk w (by simp),ih fun u hu=>hk u (by simp[hu])⟩
 .--load
  rename_i g m p;obtain⟨x,rfl,h2⟩:=iS hx;split at ht
  .rename_i w l' hl;cases hc:GN h g m w with|false=>rw[hc]at ht;simp at ht|true=>rw[hc,cond_true]at ht;obtain⟨rfl,rfl⟩:=ad (aa ht);intro c nx;obtain⟨y,h3,h4,h5⟩:=ww (c:=c) (nx:=nx) hr hl hc h2 (hk _ (by simp));exact⟨y,_,h3,h4,h5,fun i hi=>hi⟩
  .simp at ht
 .--load of a slice
  obtain⟨x,rfl,h2⟩:=iS hx;split at ht
  .rename_i w l' hl;cases hc:GN h false 1 w with|false=>rw[hc]at ht;simp at ht|true=>rw[hc,cond_true]at ht;obtain⟨rfl,rfl⟩:=ad (aa ht);intro c nx;obtain⟨y,h3,h4,h5⟩:=ww (c:=c) (nx:=nx) hr hl hc h2 (hk _ (by simp));exact⟨y,_,Lv h3,h4,h5,fun i hi=>hi⟩
  .simp at ht
 .--fieldAddr
  obtain⟨x,rfl,h2⟩:=iS hx;split at ht
  .split at ht
   .rename_i w hw;obtain⟨rfl,rfl⟩:=ad (aa ht);intro c nx;obtain⟨y,h3,h4,h5⟩:=Mi (h1:=h1) (c:=c) (nx:=nx) h2 (hk _ (by simp)) hw;exact⟨y,[],h3,h4,h5,fun i hi=>by simp at hi⟩
   .simp at ht
  .simp at ht
 .--field of data
  rename_i g off m u y;obtain⟨x,rfl,h2⟩:=iS hx;split at ht
  .split at ht
   .rename_i i _ w hw;cases hc:(o8 u i==off)&&GN h g m w with
    |false=>rw[hc]at ht;simp at ht
    |true=>
     rw[hc,cond_true]at ht;obtain⟨rfl,rfl⟩:=ad (aa ht);simp only[ai,beq_iff_eq]at hc;obtain⟨a,z,rfl,f1,f2,f3⟩:=qV _ _ _ _ hw;obtain⟨cs,⟨hd,rfl⟩,g1,_⟩:=oX (v:=.x (.st u) y) trivial h2;have hd':kL u=true:=hd;obtain⟨_,hs,_,_⟩:=oI hc.2;have hs:bA a=m:=hs
     obtain⟨q,h3,h4⟩:=pG (cs:=(aS u y).map C.d) (off:=off) hc.2 (show fm h (.x a z) ((aS a z).map .d)from⟨zC u _ _ hd' f1,rfl⟩) (by simp[bJ];omega)
      (by rw[<-hc.1,<-hs,<-f3,h_,gz])
     rw[g1 rfl];exact .of (x:=q) (fun _ _=>by show(match D5 g m (((aS u y).map C.d).drop off)with|some v=>some (v,([]:fF),([]:List Nat),_)|none=>none)=_;rw[h3]) h4 trivial
   .simp at ht
  .simp at ht
 .--field of a dl
  rename_i g off m u;obtain⟨x,rfl,h2⟩:=iS hx;split at ht
  .split at ht
   .rename_i i _ w hw;cases hc:(OE u i==off)&&GN h g m w with|false=>rw[hc]at ht;simp at ht|true=>rw[hc,cond_true]at ht;obtain⟨rfl,rfl⟩:=ad (aa ht);simp only[ai,beq_iff_eq]at hc;obtain⟨cs,hcs,g1,_⟩:=oX (v:=.rc u) trivial h2;obtain⟨cw,q1,q2,q3⟩:=I1 u i w cs hcs hw;obtain⟨_,hs,_,_⟩:=oI hc.2;obtain⟨q,h3,h4⟩:=pG (off:=off) hc.2 q1 (by rw[<-hc.1,<-hs];exact q2) (by rw[<-hc.1,<-hs];exact q3);rw[g1 rfl];exact .of (x:=q) (fun _ _=>by show(match D5 g m (cs.drop off)with|some v=>some (v,([]:fF),([]:List Nat),_)|none=>none)=_;rw[h3]) h4 (xP u i w (hk (.rc u) (ao.2 rfl)) hw)
   .simp at ht
  .simp at ht
 .--extract
  rename_i i u;obtain⟨x,rfl,h2⟩:=iS hx;split at ht
  .rename_i w hw;obtain⟨rfl,rfl⟩:=ad (aa ht);obtain⟨ys,rfl,h3⟩:=P5 h2;obtain⟨y,h4,h5⟩:=Oi u i w ys h3 hw;exact .of (x:=y) (fun _ _=>by simp only[mm,cQ,h4]) (ct h5) (xP u i w (hk (.tp u) (ao.2 rfl)) hw)
  .simp at ht
 .obtain ⟨rfl,rfl⟩:=ad (aa ht);obtain⟨x,rfl,h2⟩:=iS hx;rw[w7 h2];exact .of (fun _ _=>rfl) (xi _ _) trivial
 .obtain ⟨rfl,rfl⟩:=ad (aa ht);obtain⟨x,rfl,h2⟩:=iS hx;rw[vZ h2];exact .of (fun _ _=>rfl) (xi _ _) trivial
 .--len of a dl of aq
  obtain⟨x,rfl,h2⟩:=iS hx;split at ht
  .rename_i t' s' ln hq;obtain⟨rfl,rfl⟩:=ad (aa ht);exact .of (fun _ _=>by rw[Km h2 (sL hq)];exact Pw) (xi _ _) trivial
  .simp at ht
 .--len
  obtain⟨x,rfl,h2⟩:=iS hx;split at ht
  .rename_i q t' s' l' hq;obtain⟨rfl,rfl⟩:=ad (aa ht);exact .of (fun _ _=>QH h2 (ha _ (by simp)) hq) (xi _ _) trivial
  .simp at ht
 .--uP
  rename_i m k' x r;obtain⟨x1,ys,rfl,h2,h3⟩:=gU hx;split at ht
  .rename_i y hy;obtain⟨rfl,rfl⟩:=ad (aa ht);obtain rfl:=kA h2;exact .of (x:=lv (.int k' y)) (fun _ _=>by simp only[mm,cQ,Ln hy h3]) (xi _ _) trivial
  .simp at ht
 .--build
  rename_i z ps;cases hc:ub (nC t) z&&nA t&&eL (Pm t) false t with
  |false=>rw[hc]at ht;simp at ht
  |true=>
   rw[hc,cond_true]at ht;simp only[ai]at hc;split at ht
   .rename_i w hw;obtain⟨rfl,rfl⟩:=ad (aa ht);obtain⟨z1,z2⟩:=(xY (h:=h) (n:=n) t).1 hc.2;obtain⟨cs,b1,b2,b3,b4⟩:=M0 fi ps vs (Pm t) w _ xs hw hc.2 z1 z2 hx hk;rw[rk hc.1.1]at b1;exact .of (x:=.agg cs) (fun _ _=>by simp only[cQ,nv,b1]) (ct (yd (QR b4 hc.1.2) b2)) b3
   .simp at ht
 .--lookup
  rename_i ka ks va z ok m kv;obtain⟨x,y,rfl,h2,h3⟩:=jj hx;split at ht
  .rename_i kt vt mp l' hq;split at ht
   .rename_i key hkey;cases hc:(nA kt==ka)&&(nA vt==va)&&decide (D_ kt=some ks)&&ub (nC vt) z&&kL vt&&(va||bA vt==1)with
    |false=>rw[hc]at ht;simp at ht
    |true=>
     rw[hc,cond_true]at ht;simp only[ai,beq_iff_eq,decide_eq_true_eq]at hc;obtain⟨⟨⟨⟨⟨c1,c2⟩,c3⟩,c4⟩,c5⟩,c6⟩:=hc;obtain⟨id,rfl,rfl,e1,e2,e3⟩:=Ls hr hq h2;have e1:l'=[id]:=e1;subst e1;obtain⟨_,_,k3,_⟩:=xR kt ks c3;have hz:cF z=aS vt (sA vt):=by rw[rj vt c5,rk c4]
     have hv:∀y,pu va (aS vt y)=some (RJ vt y):=fun y=>G7 y c2 c6;have hkt:=D7 h3 hkey c3 c1;rw[c1,c2]at e3;rw[<-c2]at c6;cases ok with|false=>simp only[cond_false]at ht;obtain⟨rfl,rfl⟩:=ad (aa ht);exact fun c nx=>⟨_,[id],QC (z:=sA vt) e3 hkt k3 hz hv,ct (Kk c5 c6),trivial,fun i hi=>hi⟩|true=>simp only[cond_true]at ht;obtain⟨rfl,rfl⟩:=ad (aa ht);exact fun c nx=>⟨_,[id],Ov (z:=sA vt) e3 hkt k3 hz hv,⟨_,rfl,_,_,rfl,Kk c5 c6,_,_,rfl,dY rfl ⟨rfl,rfl⟩,rfl⟩,⟨trivial,trivial,trivial⟩,fun i hi=>hi⟩
   .simp at ht
  .simp at ht
 .simp at ht
end
section
variable{h:H2}{n:Nat}{h1:bF}
theorem da(id:Nat)(o:Option O)(h:H2)(i:Nat):fO ((id,o)::h) i=if id=i then o else fO h i:=by
 simp only[fO,cA];by_cases e:id=i
 .subst e;simp
 .have e':(id==i)=false:=by simpa using e
  simp[e,e']
theorem dE(id:Nat)(o:Option Ob)(h:bF)(i:Nat):aB ((id,o)::h) i=if id=i then o else aB h i:=by
 simp only[aB,cA];by_cases e:id=i
 .subst e;simp
 .have e':(id==i)=false:=by simpa using e
  simp[e,e']
theorem jy.new(o:Option O):jy n h ((n,o)::h):=⟨fun id o' hi ho=>by rw[da,if_neg (by omega)]at ho;exact .inl ⟨o',ho,sE.refl _⟩⟩
theorem jy.CV{id:Nat}{o o':O}(ho:fO h id=some o)(hs:sE o o'):jy n h ((id,some o')::h):=
 ⟨fun i o2 hi h2=>by
  rw[da]at h2;split at h2
  .rename_i e;subst e;obtain rfl:=aa h2;exact .inl ⟨o,ho,hs⟩
  .exact .inl ⟨o2,h2,sE.refl _⟩⟩
theorem jy.md(id:Nat):jy n h ((id,none)::h):=
 ⟨fun i o2 hi h2=>by
  rw[da]at h2;split at h2
  .simp at h2
  .exact .inl ⟨o2,h2,sE.refl _⟩⟩
theorem HR.CV{n' id:Nat}{o:Option O}{u:fF}(hr:HR n h1 h)(hn:n<=n')(hi:id<n')(hs:jy n h ((id,o)::h))(hu:∀i,i≠id->aB (u++h1) i=aB h1 i)
  (ho:∀o',o=some o'->vu ((id,o)::h) o' (aB (u++h1) id)/\CN n' ((id,o)::h) o'):HR n' (u++h1) ((id,o)::h):=by
 refine⟨fun i o' h2=>?_⟩;rw[da]at h2;split at h2
 .rename_i e;subst e;exact⟨hi,ho o' h2⟩
 .rename_i e;obtain⟨q1,q2,q3⟩:=hr.ob i o' h2;refine⟨by omega,?_,oA hn hs q3⟩;rw[hu i fun e'=>e e'.symm];exact pE hs q3 q2
theorem HR.mono{n':Nat}(hr:HR n h1 h)(hn:n<=n'):HR n' h1 h:=⟨fun i o ho=>let⟨a,b,c⟩:=hr.ob i o ho;⟨by omega,b,oA hn (jy.refl n h) c⟩⟩
theorem HR.ext{h1':bF}(hr:HR n h1 h)(he:∀i,aB h1' i=aB h1 i):HR n h1' h:=⟨fun i o ho=>by rw[he];exact hr.ob i o ho⟩
structure rg(s s':S2)(h1:bF)(x:TV)(u:fF)(aA:List Nat)(m:Nat)(v:V)(l:List Nat):Prop where
 val:ge s'.heap v x
 Va:fg s'.next s'.heap v
 hr:HR s'.next (u++h1) s'.heap
 eQ:jy s.next s.heap s'.heap
 dH:s'.dH=s.dH
 gh:s'.gh=s.gh
 m:m<=s'.next
 le:s.next<=s'.next
 aA:∀i∈aA,i∈l
 nb:∀i,i<s.next->fO s.heap i=none->fO s'.heap i=none
 wo:∃w,s'.wo=w++s.wo/\(∀p∈u,p.1∈w)/\∀id,id∉w->fO s'.heap id=fO s.heap id
theorem rg.pure{s:S2}{x:TV}{v:V}{aA l:List Nat}(hr:HR s.next h1 s.heap)(hx:ge s.heap v x)(hk:fg s.next s.heap v)(hl:∀i∈aA,i∈l):rg s s h1 x [] aA s.next v l:=⟨hx,hk,hr,jy.refl _ _,rfl,rfl,au _,au _,hl,fun _ _ h=>h,[],rfl,fun p hp=>by simp at hp,fun _ _=>rfl⟩
theorem rg.new{s:S2}{o:O}{b:Option Ob}{u:fF}{x:TV}{v:V}{aA l:List Nat}{m:Nat}(hr:HR s.next h1 s.heap)(hu:u=[(s.next,b)]\/(u=[]/\∀b',vu ((s.next,some o)::s.heap) o b'))(hb:u=[(s.next,b)]->vu ((s.next,some o)::s.heap) o b)
  (hko:CN (s.next+1) ((s.next,some o)::s.heap) o) (hx:ge ((s.next,some o)::s.heap) v x) (hk:fg (s.next+1) ((s.next,some o)::s.heap) v) (hl:∀i∈aA,i∈l) (hm:m<=s.next+1):rg s (jG s o) h1 x u aA m v l:=by
 refine⟨hx,hk,?_,jy.new _,rfl,rfl,hm,bH _,hl,fun i hi h=>(by rw[show(jG s o).heap=(s.next,some o)::s.heap from rfl,da,if_neg (by omega)];exact h),[s.next],rfl,?_,fun id hid=>?_⟩
 .refine HR.CV (n':=s.next+1) hr (bH _) (aY _) (jy.new _) (fun i hi=>?_) fun o' ho'=>?_
  .rcases hu with rfl|⟨rfl,_⟩
   .rw [aZ,dE,if_neg fun e=>hi e.symm]
   .rfl
  .obtain rfl:=aa ho';refine⟨?_,hko⟩;rcases hu with rfl|⟨rfl,hu⟩
   .rw [aZ,dE,if_pos rfl];exact hb rfl
   .exact hu _
 .intro p hp;rcases hu with rfl|⟨rfl,_⟩
  .obtain rfl:=ao.1 hp;simp
  .simp at hp
 .simp only[jG];rw[da,if_neg fun e=>hid (by simp[e])]
theorem rg.CV{s:S2}{id:Nat}{o o':O}{b:Option Ob}{x:TV}{v:V}{aA l:List Nat}(hr:HR s.next h1 s.heap)(ho:fO s.heap id=some o)(hs:sE o o')(hb:vu ((id,some o')::s.heap) o' b)(hko:CN s.next ((id,some o')::s.heap) o')
  (hx:ge ((id,some o')::s.heap) v x) (hk:fg s.next ((id,some o')::s.heap) v) (hl:∀i∈aA,i∈l):rg s (eG s id (some o')) h1 x [(id,b)] aA s.next v l:=by
 refine⟨hx,hk,?_,jy.CV ho hs,rfl,rfl,au _,au _,hl,fun i _ h=>(by rw[show(eG s id (some o')).heap=(id,some o')::s.heap from rfl,da,if_neg (fun e=>by rw[e,h]at ho;cases ho)];exact h),[id],rfl,fun p hp=>?_,fun i hi=>?_⟩
 .refine HR.CV hr (au _) (hr.ob id o ho).1 (jy.CV ho hs) (fun i hi=>?_) fun o2 ho2=>?_
  .rw [aZ,dE,if_neg fun e=>hi e.symm]
  .obtain rfl:=aa ho2;rw[aZ,dE,if_pos rfl];exact⟨hb,hko⟩
 .obtain rfl:=ao.1 hp;simp
 .simp only[eG];rw[da,if_neg fun e=>hi (by simp[e])]
def mU(h:H2)(id:Nat):Prop:=(∃t v,fO h id=some (.ar t .nil v)\/fO h id=some (.im t .nil v))\/∃t ln,fO h id=some (.rw t .nil ln)
theorem yQ{id ver:Nat}{t:Ty}{l:List (El t)}(ho:fO h id=some (.ar t (.mk l) ver)\/fO h id=some (.im t (.mk l) ver)):¬mU h id:=by
 rintro(⟨u,v',e⟩|⟨u,ln,e⟩)
 .rcases ho with ho|ho<;>rcases e with e|e<;>rw[ho]at e<;>simp at e
  all_goals
   obtain⟨rfl,e,_⟩:=e;cases eq_of_heq e
 .rcases ho with ho|ho<;>rw[ho]at e<;>cases e
theorem Om{id:Nat}{t:Ty}{l:List (Sl (El t))}{ln:Option (Nat×Nat)}(ho:fO h id=some (.rw t (.mk l) ln)):¬mU h id:=by
 rintro(⟨u,v',e⟩|⟨u,ln',e⟩)
 .rcases e with e|e<;>rw[ho]at e<;>cases e
 .rw [ho]at e;cases e
theorem qa(k:Nat)(x:D):ed h1 k (.d x)=some (x,[]):=by cases k<;>rfl
theorem x5:∀(ds:List D),dW h1 (ds.map .d)=some (ds,[]):=by intro ds;induction ds with|nil=>rfl|cons d ds ih=>simp[dW,qa,ih]
theorem qm{a b:List C}{x y:List D}{i j:List Nat}(ha:dW h1 a=some (x,i))(hb:dW h1 b=some (y,j)):dW h1 (a++b)=some (x++y,i++j):=by
 induction a generalizing x i with
 |nil=>obtain⟨rfl,rfl⟩:[]=x/\[]=i:=by simpa[dW]using ha
       simpa using hb
 |cons c a ih=>
  simp only[dW]at ha;split at ha
  .rename_i p q r s hp hq;obtain⟨rfl,rfl⟩:=ad (aa ha);simp only[aU,dW,hp,ih hq,aJ]
  .simp at ha
theorem CT{id sz lo len:Nat}{aq:List (List D)}(k:Nat)(ho:aB h1 id=some (.aM sz aq)\/aB h1 id=some (.pJ sz aq))(hl:lo+len<=aq.length)(szo:Nat):
  ed h1 k (.fy szo id lo len)=some (.sl szo ((aq.drop lo).take len),[id]):=by
 rcases ho with ho|ho<;>(cases k<;>simp only[ed,ho,if_pos hl])
theorem NB{id ver:Nat}{t:Ty}{s:Sl (El t)}(k:Nat)(hr:HR n h1 h)(ho:fO h id=some (.ar t s ver)\/fO h id=some (.im t s ver)):
  ∃aA,ed h1 k (mB (bA t) (aS t) id s)=some (wa (bA t) (aS t) s,aA)/\(∀i∈aA,i=id/\¬mU h i)/\(id∈aA\/mU h id):=by
 cases s with
 |nil=>exact⟨[],qa k _,fun i hi=>by simp at hi,.inr (.inl ⟨t,ver,ho⟩)⟩
 |mk l=>
  have hb:aB h1 id=some (.aM (bA t) (l.map (aS t)))\/aB h1 id=some (.pJ (bA t) (l.map (aS t))):=by
   rcases ho with ho|ho
   .exact .inl ((hr.ob id _ ho).2.1.2.2 l rfl)
   .exact .inr ((hr.ob id _ ho).2.1.2.2 l rfl)
  refine⟨[id],?_,fun i hi=>by obtain rfl:=ao.1 hi;exact⟨rfl,yQ ho⟩,.inl (by simp)⟩;have:=CT (lo:=0) (len:=(l.map (aS t)).length) k hb (by omega) (bA t);rw[t6]at this;exact this
theorem NC{id ver lo:Nat}{t:Ty}{r:Sl (El t)}(k:Nat)(hr:HR n h1 h)(hk:fg n h (.sb id ver lo t r))(ha:CG h id ver=true):
  ∃aA,ed h1 k (yr id lo t r)=some (wa (bA t) (aS t) r,aA)/\(∀i∈aA,i=id/\¬mU h i)/\(id∈aA\/mU h id):=by
 obtain⟨u,s,ho⟩:=lK ha;obtain⟨_,hc⟩:=hk.2 u s ver ho;obtain⟨hz,hc⟩:=hc rfl;cases r with
 |nil=>cases s with|nil=>exact⟨[],qa k _,fun i hi=>by simp at hi,.inr (.inl ⟨u,ver,ho⟩)⟩|mk l=>exact hc.elim
 |mk m=>
  cases s with
  |nil=>exact hc.elim
  |mk l=>
   obtain⟨hl,he⟩:=hc
   have hb:aB h1 id=some (.aM (bA u) (l.map (aS u)))\/aB h1 id=some (.pJ (bA u) (l.map (aS u))):=by
    rcases ho with ho|ho
    .exact .inl ((hr.ob id _ ho).2.1.2.2 l rfl)
    .exact .inr ((hr.ob id _ ho).2.1.2.2 l rfl)
   refine⟨[id],?_,fun i hi=>by obtain rfl:=ao.1 hi;exact⟨rfl,yQ ho⟩,.inl (by simp)⟩;have:=CT (lo:=lo) (len:=(m.map (aS t)).length) k hb (by simpa using hl) (bA t);rw[show(m.map (aS t)).length=m.length by simp,he]at this;simpa[yr,wa]using this
theorem AM{t:Ty}:∀(l:List (Sl (El t))),qr (bA t) (l.map (oY t))=some (l.map (aS (.sl t))):=by intro l;induction l with|nil=>rfl|cons s l ih=>simp only[aD,qr,ih];cases s<;>rfl
theorem NA{id:Nat}{t:Ty}{s:Sl (Sl (El t))}(k:Nat)(hr:HR n h1 h)(ho:fO h id=some (.rw t s none)):
  ∃aA,ed h1 k (mB 1 (aS (.sl t)) id s)=some (wa 1 (aS (.sl t)) s,aA)/\(∀i∈aA,i=id/\¬mU h i)/\(id∈aA\/mU h id):=by
 cases s with
 |nil=>exact⟨[],qa k _,fun i hi=>by simp at hi,.inr (.inr ⟨t,none,ho⟩)⟩
 |mk l=>
  have hb:=(hr.ob id _ ho).2.1.2.2 l rfl;refine⟨[id],?_,fun i hi=>by obtain rfl:=ao.1 hi;exact⟨rfl,Om ho⟩,.inl (by simp)⟩;have e:((l.map (aS (.sl t))).length)=(eX t l none).length:=by simp[eX]
  have hs:qr (bA t) (eX t l none)=some (l.map (aS (.sl t))):=AM l;cases k<;>simp only[mB,wa,ed,hb,hs,e,and_self,if_true]
theorem s_(hr:HR n h1 h):∀(v w:V)(l:List Nat)(cs:List C),jm h v=some (w,l)->fm h v cs->fg n h v->iz h v=true->
  ∃ds aA,dW h1 cs=some (ds,aA)/\fm h w (ds.map .d)/\(∀i∈aA,i∈l/\¬mU h i)/\(∀i∈l,i∈aA\/mU h i)/\(∀i∈l,i<n/\((∃t s v,fO h i=some (.ar t s v)\/fO h i=some (.im t s v))\/∃t s,fO h i=some (.rw t s none))):=by
 have done:∀(v:V)(ds:List D),fm h v (ds.map .d)->∃ds' aA,dW h1 (ds.map .d)=some (ds',aA)/\fm h v (ds'.map .d)/\(∀i∈aA,i∈([]:List Nat)/\¬mU h i)/\(∀i∈([]:List Nat),i∈aA\/mU h i)/\(∀i∈([]:List Nat),i<n/\((∃t s v,fO h i=some (.ar t s v)\/fO h i=some (.im t s v))\/∃t s,fO h i=some (.rw t s none))):=fun v ds hv=>⟨ds,[],x5 ds,hv,fun i hi=>by simp at hi,fun i hi=>by simp at hi,fun i hi=>by simp at hi⟩;intro v;induction v with
 |so id=>
  intro w l cs hf hv hk ha;simp only[jm]at hf;split at hf
  .rename_i t s l' hs;obtain⟨rfl,rfl⟩:=ad (aa hf);obtain⟨ver,ho,e⟩:=uG hs;have e:l'=[id]:=e;subst e;obtain⟨c,rfl,hc,_⟩:=hv;rw[hc _ (mA ho)];obtain⟨aA,q1,q2,q3⟩:=NB 300 hr ho;have hd:kL t=true:=by rcases ho with ho|ho<;>exact(hr.ob id _ ho).2.1.1
   refine⟨[wa (bA t) (aS t) s],aA,by simp[dW,q1],⟨hd,rfl⟩,fun i hi=>⟨by simpa using(q2 i hi).1,(q2 i hi).1▸(q2 i hi).2⟩,fun i hi=>?_,fun i hi=>?_⟩
   .obtain rfl:=ao.1 hi;exact q3
   .obtain rfl:=ao.1 hi;exact⟨hk,.inl ⟨t,s,ver,ho⟩⟩
  .simp at hf
 |sr id=>
  intro w l cs hf hv hk ha;simp only[jm]at hf;split at hf
  .rename_i t s ho;obtain⟨rfl,rfl⟩:=ad (aa hf);obtain⟨c,rfl,hc,_⟩:=hv;rw[hc _ (by rw[ho];rfl:EZ id (fO h id)=some (mB 1 (aS (.sl t)) id s))];obtain⟨aA,q1,q2,q3⟩:=NA 300 hr ho;have hd:kL t=true:=(hr.ob id _ ho).2.1.1;refine⟨[wa 1 (aS (.sl t)) s],aA,by simp[dW,q1],⟨hd,rfl⟩,fun i hi=>⟨by simpa using(q2 i hi).1,(q2 i hi).1▸(q2 i hi).2⟩,fun i hi=>?_,fun i hi=>?_⟩
   .obtain rfl:=ao.1 hi;exact q3
   .obtain rfl:=ao.1 hi;exact⟨hk,.inr ⟨t,s,ho⟩⟩
  .simp at hf
 |sb id ver lo t r=>
  intro w l cs hf hv hk ha;simp only[jm,uc]at hf;obtain⟨rfl,rfl⟩:=ad (aa hf);obtain⟨hd,ha⟩:=dp.1 ha;have ha:CG h id ver=true:=ha;obtain⟨c,rfl,hc,_⟩:=hv;rw[hc ha];obtain⟨aA,q1,q2,q3⟩:=NC 300 hr hk ha;obtain⟨u,s,ho⟩:=lK ha;refine⟨[wa (bA t) (aS t) r],aA,by simp[dW,q1],⟨?_,rfl⟩,fun i hi=>⟨by simpa using(q2 i hi).1,(q2 i hi).1▸(q2 i hi).2⟩,fun i hi=>?_,fun i hi=>?_⟩
  .exact hd
  .obtain rfl:=ao.1 hi;exact q3
  .obtain rfl:=ao.1 hi;exact⟨hk.1,.inl ⟨u,s,ver,ho⟩⟩
 |rc r ih=>
  intro w l cs hf hv hk ha;simp only[jm]at hf;split at hf
  .rename_i w' l' hw;obtain⟨rfl,rfl⟩:=ad (aa hf);exact ih w' l' cs hw hv hk ha
  .simp at hf
 |co a r iha ihr=>
  intro w l cs hf hv hk ha;simp only[jm]at hf;split at hf
  .rename_i x l1 y l2 hx hy;obtain⟨rfl,rfl⟩:=ad (aa hf);obtain⟨ca,cr,rfl,h2,h3⟩:=hv;simp only[iz,ai]at ha;obtain⟨ds,aA,a1,a2,a3,a4,a5⟩:=iha x l1 ca hx h2 hk.1 ha.1;obtain⟨es,jds,b1,b2,b3,b4,b5⟩:=ihr y l2 cr hy h3 hk.2 ha.2;refine⟨ds++es,aA++jds,qm a1 b1,⟨_,_,by simp,a2,b2⟩,fun i hi=>?_,fun i hi=>?_,fun i hi=>?_⟩
   .rcases ap.1 hi with hi|hi
    .exact ⟨aE _ (a3 i hi).1,(a3 i hi).2⟩
    .exact ⟨aG _ (b3 i hi).1,(b3 i hi).2⟩
   .rcases ap.1 hi with hi|hi
    .exact (a4 i hi).imp (aE _) id
    .exact (b4 i hi).imp (aG _) id
   .rcases ap.1 hi with hi|hi
    .exact a5 i hi
    .exact b5 i hi
  .simp at hf
 |x t v=>intro w l cs hf hv hk ha;obtain⟨rfl,rfl⟩:=ad (aa hf);obtain⟨hd,rfl⟩:=hv;exact done _ _ ⟨hd,rfl⟩
 |kb c=>intro w l cs hf hv hk ha;obtain⟨rfl,rfl⟩:=ad (aa hf);obtain rfl:=hv;exact done (.kb c) [_] rfl
 |nl k=>intro w l cs hf hv hk ha;obtain⟨rfl,rfl⟩:=ad (aa hf);obtain rfl:=hv;exact done (.nl k) [_] rfl
 |fl q=>
  intro w l cs hf hv hk ha;obtain⟨rfl,rfl⟩:=ad (aa hf);obtain⟨hp,rfl⟩:=hv;have e:fz q=(q.map D.lit).map C.d:=by simp[fz]
  rw[e];exact done (.fl q) (q.map D.lit) ⟨hp,e.symm⟩
 |ni=>intro w l cs hf hv hk ha;obtain⟨rfl,rfl⟩:=ad (aa hf);obtain rfl:=hv;exact done .ni [] rfl
 |pt t v=>intro w l cs hf hv hk ha;obtain⟨rfl,rfl⟩:=ad (aa hf);obtain⟨hd,rfl⟩:=hv;exact done (.pt t v) [_] ⟨hd,rfl⟩
 |fn z f q ih=>intro w l cs hf hv hk ha;cases z with|true=>obtain⟨rfl,rfl⟩:=ad (aa hf);obtain⟨ds,hd,rfl⟩:=hv;exact done (.fn true f q) [_] ⟨ds,hd,rfl⟩|false=>simp[jm]at hf
 |_=>intro w l cs hf hv hk ha;simp[jm]at hf
theorem xL:∀(ds:List D)(k:Nat),ds.length<k->f_ h1 k (ds.map .d)=some (ds,[]):=by
 intro ds;induction ds with
 |nil=>intro k hk;cases k<;>rfl
 |cons d ds ih=>intro k hk;cases k with|zero=>simp at hk|succ k=>simp only[aD,f_,qa];rw[ih k (by simpa using hk)];rfl
theorem wG{H:bF}{h0:H2}{k:Nat}(hr:HR k H h0)(all:List Nat){id:Nat}{o':O}(hf:Ch h0 id=some o'):
  ∃o,fO h0 id=some o/\sE o o'/\(∀m g,CN m g o')/\((mU h0 id/\∀g b,vu g o' b)\/(¬mU h0 id/\∃b,ke H all id=some b/\∀g,vu g o' (some b))):=by
 unfold Ch at hf;split at hf
 .rename_i t s v ho;obtain rfl:=aa hf;refine⟨_,ho,⟨au _,rfl,rfl,rfl,fun _=>rfl⟩,fun _ _=>trivial,?_⟩;obtain⟨h1,h2,h3⟩:=(hr.ob id _ ho).2.1;cases s with|nil=>exact .inl ⟨.inl ⟨t,v,.inl ho⟩,fun g b=>⟨h1,h2,fun l e=>by cases e⟩⟩|mk l=>refine .inr ⟨yQ (.inl ho),.pJ (bA t) (l.map (aS t)),?_,fun g=>⟨h1,h2,fun l' e=>by cases e;rfl⟩⟩;simp only[ke,h3 l rfl]
 .rename_i t s v ho;obtain rfl:=aa hf;refine⟨_,ho,⟨rfl,rfl⟩,fun _ _=>trivial,?_⟩;obtain⟨h1,h2,h3⟩:=(hr.ob id _ ho).2.1;cases s with|nil=>exact .inl ⟨.inl ⟨t,v,.inr ho⟩,fun g b=>⟨h1,h2,fun l e=>by cases e⟩⟩|mk l=>refine .inr ⟨yQ (.inr ho),.pJ (bA t) (l.map (aS t)),?_,fun g=>⟨h1,h2,fun l' e=>by cases e;rfl⟩⟩;simp only[ke,h3 l rfl]
 .rename_i t v ho;obtain rfl:=aa hf;obtain⟨h1,h2⟩:=(hr.ob id _ ho).2.1;refine⟨_,ho,rfl,fun _ _=>trivial,.inr ⟨?_,.oF (aS t v),?_,fun g=>⟨h1,rfl⟩⟩⟩
  .rintro (⟨u,v',e|e⟩|⟨u,v',e⟩)<;>rw[ho]at e<;>simp at e
  .simp only[ke,h2]
 .rename_i t c ho;cases hd:(kL t&&Nat.blt (bA t) 300)with
  |false=>rw[hd]at hf;simp at hf
  |true=>
   rw[hd,cond_true]at hf;simp only[ai]at hd;split at hf
   .rename_i w hw;split at hf
    .rename_i y hy;obtain rfl:=aa hf;obtain⟨cs,h1,h2,h3⟩:=(hr.ob id _ ho).2.1;have e:=iZ c false t y cs hy h2;subst e;refine⟨_,ho,trivial,fun _ _=>trivial,.inr ⟨?_,.oF (aS t y),?_,fun g=>⟨hd.1,rfl⟩⟩⟩
     .rintro (⟨u,v',e|e⟩|⟨u,v',e⟩)<;>rw[ho]at e<;>simp at e
     .have hl:(aS t y).length<300:=by rw[bJ];simpa using hd.2
      simp only[ke,h1,xL _ _ hl];rfl
    .simp at hf
   .simp at hf
 .simp at hf
def Gr(h:H2)(id:Nat):Option O:=match fO h id with|some (.rw _ _ none)=>none|_=>Ch h id
theorem xl{h0:H2}{s0:S2}(hs0:s0.heap=h0):∀(aA:List Nat)(s':S2),qB h0 aA s0=some s'->
  s'.dH=s0.dH/\s'.gh=s0.gh/\s'.next=s0.next/\s'.wo=aA++s0.wo/\(∀i∈aA,(∃o,Ch h0 i=some o)\/∃t s,fO h0 i=some (.rw t s none))/\∀i,fO s'.heap i=if i∈aA then Gr h0 i else fO h0 i:=by
 intro aA;induction aA with
 |nil=>intro s' hf;obtain rfl:=aa hf;exact⟨rfl,rfl,rfl,rfl,fun i hi=>by simp at hi,fun i=>by simp[hs0]⟩
 |cons id r ih=>
  intro s' hf;simp only[qB]at hf
  have fin:∀(oo:Option O)(s1:S2),qB h0 r s0=some s1->s'=eG s1 id oo->((∃o,Ch h0 id=some o)\/∃t s,fO h0 id=some (.rw t s none))->Gr h0 id=oo->s'.dH=s0.dH/\s'.gh=s0.gh/\s'.next=s0.next/\s'.wo=(id::r)++s0.wo/\(∀i∈id::r,(∃o,Ch h0 i=some o)\/∃t s,fO h0 i=some (.rw t s none))/\∀i,fO s'.heap i=if i∈id::r then Gr h0 i else fO h0 i:=by
   intro oo s1 h1 e hex hoo;subst e;obtain⟨a1,a2,a3,a4,a5,a6⟩:=ih s1 h1;refine⟨a1,a2,a3,by simp[eG,a4],fun i hi=>?_,fun i=>?_⟩
   .rcases aN.1 hi with rfl|hi
    .exact hex
    .exact a5 i hi
   .simp only[eG,da,a6];by_cases e:id=i
    .subst e;simp[hoo]
    .simp [e,Ne.symm e]
  split at hf
  .rename_i t s ho;split at hf
   .rename_i s1 h1;exact fin none s1 h1 (aa hf).symm (.inr ⟨t,s,ho⟩) (by simp only[Gr,ho])
   .cases hf
  .rename_i hno;split at hf
   .rename_i o s1 ho h1;refine fin (some o) s1 h1 (aa hf).symm (.inl ⟨o,ho⟩) ?_;unfold Gr;split
    .rename_i t s e;exact absurd e (hno t s)
    .exact ho
   .cases hf
theorem Jo{H:bF}{all:List Nat}:∀(l:List Nat),(∀i∈l,∃b,ke H all i=some b)->∃u,eh H all l=some u/\∀p∈u,p.1∈l:=by
 intro l;induction l with
 |nil=>intro _;exact⟨[],rfl,fun p hp=>by simp at hp⟩
 |cons a l ih=>
  intro h;obtain⟨b,hb⟩:=h a (by simp);obtain⟨u,hu,hp⟩:=ih fun i hi=>h i (by simp[hi]);refine⟨(a,some b)::u,by simp only[eh,hb,hu],fun p hp'=>?_⟩;rcases aN.1 hp' with rfl|hp'
  .simp
  .exact aC _ (hp p hp')
theorem Cg{h0:H2}{s0:S2}(hs0:s0.heap=h0){H:bF}(hr:HR s0.next H h0)(aA:List Nat)(s':S2)(ids1 all:List Nat)(hf:qB h0 aA s0=some s')(hi1:∀i∈ids1,i∈aA/\¬mU h0 i)(hi2:∀i∈aA,i∈ids1\/mU h0 i):
  ∃fu,eh H all ids1=some fu/\HR s0.next (fu++H) s'.heap/\jy s0.next h0 s'.heap/\s'.dH=s0.dH/\s'.gh=s0.gh/\s'.next=s0.next/\
   s'.wo=aA++s0.wo/\(∀p∈fu,p.1∈aA)/\∀id,id∉aA->fO s'.heap id=fO s0.heap id:=by
 obtain⟨a1,a2,a3,a4,a5,a6⟩:=xl hs0 aA s' hf
 have hF:∀i o',Gr h0 i=some o'->Ch h0 i=some o':=fun i o' h=>by
  unfold Gr at h;split at h
  .cases h
  .exact h
 obtain⟨fu,hfu,hp⟩:=Jo (H:=H) (all:=all) ids1 fun i hi=>by
  rcases a5 i (hi1 i hi).1 with⟨o,ho⟩|⟨t,s,ho⟩
  .obtain ⟨_,_,_,_,h⟩:=wG hr all ho;rcases h with h|⟨_,b,hb,_⟩
   .exact absurd h.1 (hi1 i hi).2
   .exact ⟨b,hb⟩
  .cases s with|nil=>exact absurd (.inr ⟨t,none,ho⟩) (hi1 i hi).2|mk l=>have hb:=(hr.ob i _ ho).2.1.2.2 l rfl;have hs:qr (bA t) (eX t l none)=some (l.map (aS (.sl t))):=AM l;exact⟨.pJ 1 (l.map (aS (.sl t))),by simp only[ke,hb,hs]⟩
 have eQ:jy s0.next h0 s'.heap:=⟨fun i o' hi ho=>by
  rw[a6]at ho;split at ho
  .obtain ⟨o,h1,h2,_⟩:=wG hr all (hF i o' ho);exact .inl ⟨o,h1,h2⟩
  .exact .inl ⟨o',ho,sE.refl _⟩⟩
 refine⟨fu,hfu,⟨fun i o' ho=>?_⟩,eQ,a1,a2,a3,a4,fun p hp'=>(hi1 _ (hp p hp')).1,fun i hi=>by rw[a6,if_neg hi,hs0]⟩;rw[a6]at ho;split at ho
 .rename_i hi;obtain⟨o,h1,_,h3,h4⟩:=wG hr all (hF i o' ho);refine⟨(hr.ob i o h1).1,?_,h3 _ _⟩;rcases h4 with h4|⟨h5,b,hb,hR⟩
  .exact h4.2 _ _
  .have hm:i∈ids1:=(hi2 i hi).resolve_right h5;obtain⟨b',hb',hl⟩:=(lp ids1 fu hfu i).1 hm;rw[hb]at hb';obtain rfl:=aa hb';rw[show aB (fu++H) i=some b by simp only[aB,gV,hl];rfl];exact hR _
 .rename_i hi;obtain⟨h1,h2,h3⟩:=hr.ob i o' ho;have hn:i∉ids1:=fun hm=>hi (hi1 i hm).1;refine⟨h1,?_,oA (au _) eQ h3⟩;rw[show aB (fu++H) i=aB H i by simp only[aB,gV,(lp ids1 fu hfu i).2 hn]];exact pE eQ h3 h2
theorem Gq{h0:H2}{s0:S2}{aA:List Nat}{s':S2}(hs0:s0.heap=h0)(hf:qB h0 aA s0=some s'):∀i∈aA,fO h0 i≠none:=by
 intro i hi e;obtain⟨_,_,_,_,a5,_⟩:=xl hs0 aA s' hf;rcases a5 i hi with⟨o,ho⟩|⟨t,s,ho⟩
 .simp [Ch,e]at ho
 .rw [e]at ho;cases ho
end
section
variable{h:H2}{n:Nat}{h1:bF}{β:Type}
theorem aP{α:Type}{c:Bool}{a:Option α}{r:α}(h:(bif c then a else none)=some r):c=true/\a=some r:=by cases c with|true=>exact⟨rfl,h⟩|false=>simp at h
theorem wv{u:fF}{i:Nat}(hu:∀p∈u,p.1≠i):aB (u++h1) i=aB h1 i:=by induction u with|nil=>rfl|cons p u ih=>obtain⟨a,b⟩:=p;rw[aU,dE,if_neg (hu _ (cq ..)),ih fun p hp=>hu p (aC _ hp)]
theorem rg.E2{s s':S2}{x:TV}{u:fF}{aA l:List Nat}{m:Nat}{v:V}(W:List Nat)(hr:HR s.next h1 s.heap)(eQ:jy s.next s.heap s'.heap)(he:s'.dH=s.dH)(hg:s'.gh=s.gh)(hm:m<=s'.next)(hle:s.next<=s'.next)(hl:∀i∈aA,i∈l)
  (hwo:s'.wo=W++s.wo) (hu:∀p∈u,p.1∈W) (hW:∀id,id∉W->fO s'.heap id=fO s.heap id) (hob:∀i∈W,∀o,fO s'.heap i=some o->i<s'.next/\vu s'.heap o (aB (u++h1) i)/\CN s'.next s'.heap o)
  (hx:ge s'.heap v x) (hk:fg s'.next s'.heap v) (hnb:∀i,i<s.next->fO s.heap i=none->fO s'.heap i=none):rg s s' h1 x u aA m v l:=by
 refine⟨hx,hk,⟨fun i o ho=>?_⟩,eQ,he,hg,hm,hle,hl,hnb,W,hwo,hu,hW⟩;by_cases hi:i∈W
 .exact hob i hi o ho
 .rw [hW i hi]at ho;obtain⟨a,b,c⟩:=hr.ob i o ho;refine⟨by omega,?_,oA hle eQ c⟩;rw[wv (u:=u) (i:=i) fun p hp e=>hi (e▸hu p hp)];exact pE eQ c b
def zR(h1:bF)(kk:K)(xs:List TV)(s:S2)(k:V->S2->List Nat->Option β)(z:β):Prop:=∃v s' l,k v s' l=some z/\∀c:Call,∃x u aA m,cQ c kk (xs.map some) h1 s.next=some (x,u,aA,m)/\rg s s' h1 x u aA m v l
variable{s:S2}{k:V->S2->List Nat->Option β}{z:β}
theorem zR.pure{kk:K}{xs:List TV}{v:V}{x:TV}(hr:HR s.next h1 s.heap)(hz:k v s []=some z)(he:∀c:Call,cQ c kk (xs.map some) h1 s.next=some (x,[],[],s.next))(hx:ge s.heap v x)(hk:fg s.next s.heap v):zR h1 kk xs s k z:=⟨v,s,[],hz,fun c=>⟨x,[],[],s.next,he c,rg.pure hr hx hk fun i hi=>by simp at hi⟩⟩
theorem qk{t:Ty}(h:CM t=true):kL t=true/\0<bA t:=by simpa[CM]using h
theorem zR.new{kk:K}{xs:List TV}{v:V}{x:TV}{o:O}{b:Option Ob}{l aA:List Nat}(hr:HR s.next h1 s.heap)(hz:k v (jG s o) l=some z)(he:∀c:Call,cQ c kk (xs.map some) h1 s.next=some (x,[(s.next,b)],aA,s.next+1))
  (hb:vu ((s.next,some o)::s.heap) o b) (hko:CN (s.next+1) ((s.next,some o)::s.heap) o) (hx:ge ((s.next,some o)::s.heap) v x) (hk:fg (s.next+1) ((s.next,some o)::s.heap) v) (hl:∀i∈aA,i∈l):zR h1 kk xs s k z:=
 ⟨v,_,l,hz,fun c=>⟨x,_,aA,_,he c,rg.new hr (.inl rfl) (fun _=>hb) hko hx hk hl (au _)⟩⟩
theorem zR.CV{kk:K}{xs:List TV}{v:V}{x:TV}{id:Nat}{o o':O}{b:Option Ob}{l aA:List Nat}(hr:HR s.next h1 s.heap)(ho:fO s.heap id=some o)(hs:sE o o')(hz:k v (eG s id (some o')) l=some z)(he:∀c:Call,cQ c kk (xs.map some) h1 s.next=some (x,[(id,b)],aA,s.next))
  (hb:vu ((id,some o')::s.heap) o' b) (hko:CN s.next ((id,some o')::s.heap) o') (hx:ge ((id,some o')::s.heap) v x) (hk:fg s.next ((id,some o')::s.heap) v) (hl:∀i∈aA,i∈l):zR h1 kk xs s k z:=
 ⟨v,_,l,hz,fun c=>⟨x,_,aA,_,he c,rg.CV hr ho hs hb hko hx hk hl⟩⟩
theorem tY(id:Nat)(o:Option O)(h:H2):fO ((id,o)::h) id=o:=by rw[da,if_pos rfl]
theorem wt{t:Ty}{s:Sl (El t)}{v nx:Nat}:ge ((nx,some (.ar t s v))::h) (.so nx) (.c (mB (bA t) (aS t) nx s)):=ct (dY rfl ⟨_,rfl,fun c' hc'=>by rw[tY]at hc';exact aa hc',BR⟩)
theorem Co{x:V}{y:TV}{sz:Nat}{lo hi:Option Int}{m:Int}{q:V->Option β}(hr:HR n h1 h)(hx:ge h x y)(hk:fg n h x)(ha:iz h x=true)(hm:F9 h x=some m)(hz:ug sz h x (lo.getD 0) (hi.getD m) q=some z):
  ∃v c c',y=.c c/\q v=some z/\fV false sz c lo hi=some c'/\ge h v (.c c')/\fg n h v:=by
 have iR:∀(id:Nat)(t:Ty)(w:Sl (El t))(ver:Nat),x=.so id->(fO h id=some (.ar t w ver)\/fO h id=some (.im t w ver))->(bif bA t==sz then(qE w.l (lo.getD 0) (hi.getD m)).bind fun y=>q (.sb id ver (lo.getD 0).toNat t (w.to y))else none)=some z->
   ∃v c c',y=.c c/\q v=some z/\fV false sz c lo hi=some c'/\ge h v (.c c')/\fg n h v:=by
  rintro id t w ver rfl ho hz;obtain⟨h2,hz2⟩:=aP hz;obtain rfl:bA t=sz:=by simpa using h2
  obtain⟨r,hr',hz3⟩:=rT hz2;have e:=sG hx (mA ho);have hm':m=w.l.length:=by simp only[F9,uc]at hm;rcases ho with ho|ho<;>(rw[ho]at hm;exact(aa hm).symm)
  subst hm';refine⟨_,_,yr id (lo.getD 0).toNat t (w.to r),e,hz3,?_,?_,hk,?_⟩
  .cases w with|nil=>exact MG hr'|mk l=>exact SP (enc:=aS t) hr'
  .exact ct (dY rfl ⟨_,rfl,fun _=>rfl,KE⟩)
  .intro u s' v' ho'
   have e2:Nr u s'=Nr t w/\v'=ver:=by
    rcases ho with ho|ho<;>rcases ho' with ho'|ho'<;>(rw[ho]at ho';simp at ho')
    all_goals
     obtain⟨rfl,e,rfl⟩:=ho';cases eq_of_heq e;exact⟨rfl,rfl⟩
   obtain⟨e2,rfl⟩:=e2;obtain⟨rfl,e2⟩:=jz e2;cases e2;refine⟨au _,fun _=>⟨rfl,?_⟩⟩;cases s' with|nil=>trivial|mk l=>obtain⟨h3,h4⟩:=Q8 (enc:=aS u) hr';simp only[aO]at h3;refine⟨h3,?_⟩;simpa using h4
 cases x with
 |x t v=>
  cases t with
  |sl t=>
   simp only[ug]at hz;obtain⟨h2,hz2⟩:=aP hz;obtain rfl:bA t=sz:=by simpa using h2
   obtain⟨r,hr',hz3⟩:=rT hz2;have hm':m=v.l.length:=by simpa[F9,uc]using hm.symm
   subst hm';refine⟨_,_,_,x_ hx,hz3,Q6 hr',ct (dY rfl ⟨?_,rfl⟩),trivial⟩;obtain⟨_,⟨hd,_⟩,_⟩:=oX (v:=.x (.sl t) v) trivial hx;exact hd
  |_=>simp[ug]at hz
 |so id=>
  simp only[ug]at hz;split at hz
  .rename_i ho;exact iR id _ _ _ rfl (.inl ho) hz
  .rename_i ho;exact iR id _ _ _ rfl (.inr ho) hz
  .simp at hz
 |sb id ver off t v=>
  simp only[ug]at hz;obtain⟨h2,hz2⟩:=aP hz;obtain rfl:bA t=sz:=by simpa using h2
  obtain⟨r,hr',hz3⟩:=rT hz2;have hm':m=v.l.length:=by simpa[F9,uc]using hm.symm
  subst hm';refine⟨_,_,yr id (off+(lo.getD 0).toNat) t (v.to r),qo hx ha,hz3,?_,ct (dY rfl ⟨_,rfl,fun _=>rfl,KE⟩),hk.1,?_⟩
  .cases v with|nil=>exact MG hr'|mk l=>obtain⟨h3,rfl⟩:=n_.1 hr';simp only[Sl.l]at h3;simp only[yr,fV,Bool.false_eq_true,if_false,Sl.to,Sl.l,aO];rw[if_pos ⟨trivial,h3⟩];simp;omega
  .intro u s' v' ho;obtain⟨h3,h4⟩:=hk.2 u s' v' ho;refine⟨h3,fun e=>?_⟩;obtain⟨h5,h6⟩:=h4 e;refine⟨h5,?_⟩;cases s' with
   |nil=>cases v<;>first|trivial|exact h6.elim
   |mk l=>
    cases v with
    |nil=>exact h6.elim
    |mk w=>
     obtain⟨h7,h8⟩:=h6;obtain⟨h9,rfl⟩:=n_.1 hr';simp only[Sl.l]at h9;show off+(lo.getD 0).toNat+((w.drop (lo.getD 0).toNat).take _).length<=l.length/\((l.map (aS u)).drop (off+(lo.getD 0).toNat)).take ((w.drop (lo.getD 0).toNat).take _).length=((w.drop (lo.getD 0).toNat).take _).map (aS t);generalize hA:(lo.getD 0).toNat=A;generalize hB:((hi.getD (Sl.l (Sl.mk w)).length).toNat-A)=B;have hle:A+B<=w.length:=by subst hA hB;simp only[Sl.l];omega
     have hlen:((w.drop A).take B).length=B:=by simp;omega
     refine⟨by omega,?_⟩;rw[hlen,h_,gz,<-h8,List.drop_take,dz,List.take_take];congr 1;omega
 |nl k=>
  cases k with
  |zero=>
   simp only[ug]at hz;obtain⟨r,hr',hz3⟩:=rT hz;have hm':m=0:=by simpa[F9]using hm.symm
   subst hm';exact⟨_,_,_,vZ hx,hz3,MG (α:=Unit) (by simpa[Sl.l]using hr'),ct (dY rfl rfl),trivial⟩
  |succ k=>simp[ug]at hz
 |_=>simp[ug]at hz
theorem HE:∀(p:p8)(t a:Ty)(l m:Nat),rh t p=some (.ar l a)->m<l->IZ t p->IZ t (p++[.ix m])/\mX t (p++[.ix m])=mX t p+m*bA a:=by
 intro p;induction p with
 |nil=>
  intro t a l m h1 hm _;have e:rh t []=some t:=by cases t<;>rfl
  obtain rfl:t=.ar l a:=by rw[e]at h1;exact aa h1
  refine⟨⟨hm,by cases a<;>trivial⟩,?_⟩;simp only[bl,mX];cases a<;>simp[mX]
 |cons q p ih=>
  intro t a l m h1 hm h3;cases q with
  |fd j=>cases t with|st t=>obtain⟨b2,hb,h3⟩:=h3;simp only[rh,hb]at h1;obtain⟨q1,q2⟩:=ih b2 a l m h1 hm h3;refine⟨⟨b2,hb,q1⟩,?_⟩;simp only[aU,mX,hb,q2];exact(cP _ _ _).symm|_=>exact h3.elim
  |ix k=>cases t with|ar l' t=>obtain⟨hk,h3⟩:=h3;obtain⟨q1,q2⟩:=ih t a l m h1 hm h3;refine⟨⟨hk,q1⟩,?_⟩;simp only[aU,mX,q2];exact(cP _ _ _).symm|_=>exact h3.elim
theorem Qw{id:Nat}{t u:Ty}{w:Sl (El t)}{w':Sl (El u)}{v v':Nat}(ho:fO h id=some (.ar t w v)\/fO h id=some (.im t w v))(ho':fO h id=some (.ar u w' v')\/fO h id=some (.im u w' v')):Nr u w'=Nr t w/\v'=v:=by
 rcases ho with ho|ho<;>rcases ho' with ho'|ho'<;>(rw[ho]at ho';simp at ho')
 all_goals
  obtain⟨rfl,e,rfl⟩:=ho';cases eq_of_heq e;exact⟨rfl,rfl⟩
theorem K_{id:Nat}{t u:Ty}{w:Sl (El t)}{w':Sl (El u)}{v v':Nat}(ho:fO h id=some (.ar t w v)\/fO h id=some (.im t w v))(ho':fO h id=some (.ar u w' v')\/fO h id=some (.im u w' v')):w'.l.length=w.l.length:=by obtain⟨e,_⟩:=Qw ho ho';obtain⟨rfl,e⟩:=jz e;cases e;rfl
theorem Pz{c:C}{t:Ty}{id m sz:Nat}{w:Sl (El t)}{i:Int}{kd:IntKind}{cl:Call}{nx:Nat}(hc:c=mB (bA t) (aS t) id w)(hsz:bA t=sz)(hi:fk i w.l.length=some m):
  cQ cl (.indexAddr none sz) [some (.c c),some (tI kd i)] h1 nx=some (.c (.ep id m 0),[],[],nx):=by
 subst hc hsz;cases w with|nil=>exact LM hi|mk l=>exact UT hi
theorem SN{t:Ty}{v:El t}{x:TV}(hx:ge h (.x t v) x):kL t=true:=by obtain⟨_,⟨hd,_⟩,_⟩:=oX (v:=.x t v) trivial hx;exact hd
theorem U4{n':Nat}{t:Ty}{v:El (.ar n' t)}{x:TV}(hx:ge h (.x (.ar n' t) v) x):x=.agg ((aS (.ar n' t) v).map .d):=by obtain⟨cs,⟨_,rfl⟩,h2,_⟩:=oX (v:=.x (.ar n' t) v) trivial hx;exact h2 rfl
theorem EN{n' m:Nat}{t:Ty}(v:El (.ar n' t))(hm:m<n'):m*bA t+bA t<=(aS (.ar n' t) v).length/\((aS (.ar n' t) v).drop (m*bA t)).take (bA t)=aS t (gt v.1 m):=by have hl:v.1.length=n':=v.2;refine⟨?_,zp (bJ t) v.1 m (by omega)⟩;rw[bJ];show _<=n'*bA t;have:(m+1)*bA t<=n'*bA t:=Nat.mul_le_mul_right _ hm;rw[bP,Nat.one_mul]at this;exact this
theorem LO{x:V}{y:TV}{sz:Nat}{i:Int}{kd:IntKind}
  (hz:(match x with
  |.x (.sl t) v=>bif bA t==sz then(fk i v.l.length).bind fun m=>k (.pt t (gt v.l m)) s []else none
  |.so id=>(match uc s.heap (.so id)with|some ⟨t,v,_⟩=>bif bA t==sz then(fk i v.l.length).bind fun m=>k (.ep id m t []) s []else none|none=>none)
  |.sb id _ lo t v=>bif bA t==sz then(fk i v.l.length).bind fun m=>k (.ep id (lo+m) t []) s []else none
  |.sr id=>(match fO s.heap id with|some (.rw t v _)=>bif 1==sz then(fk i v.l.length).bind fun m=>k (.ep id m (.sl t) []) s []else none|_=>none)
  |_=>none)=some z)
  (hr:HR s.next h1 s.heap) (hx:ge s.heap x y) (hk:fg s.next s.heap x) (ha:iz s.heap x=true):zR h1 (.indexAddr none sz) [y,tI kd i] s k z:=by
 cases x with
 |x t v=>
  cases t with
  |sl t=>
   simp only at hz;obtain⟨h2,hz2⟩:=aP hz;obtain⟨m,hm,hz3⟩:=rT hz2;obtain rfl:bA t=sz:=by simpa using h2
   rw[x_ hx];exact .pure hr hz3 (x:=.c (.d (.pt (aS t (gt (Sl.l v) m))))) (fun _=>Sv hm) (ct (dY rfl ⟨SN (t:=.sl t) hx,rfl⟩)) trivial
  |_=>simp at hz
 |so id=>
  simp only at hz;split at hz
  .rename_i t v l hs;obtain⟨h2,hz2⟩:=aP hz;obtain⟨m,hm,hz3⟩:=rT hz2;obtain⟨ver,ho,_⟩:=uG hs;simp only at ho;rw[sG hx (mA ho)];refine .pure hr hz3 (x:=.c (.ep id m 0)) (fun _=>Pz rfl (by simpa using h2) hm) (ct (dY rfl (by cases t<;>rfl))) ⟨hk,by cases t<;>trivial,fun u w' v' ho'=>?_,fun u w' v' ho'=>?_⟩
   .have:=(gB.1 hm).2;rw[K_ ho ho'];exact this
   .rcases ho with ho|ho<;>rw[ho]at ho'<;>cases ho'
  .simp at hz
 |sr id=>
  simp only at hz;split at hz
  .rename_i t v ln ho;obtain⟨h2,hz2⟩:=aP hz;obtain⟨m,hm,hz3⟩:=rT hz2;rw[Km hx (sL ho)];refine .pure hr hz3 (x:=.c (.ep id m 0)) (fun _=>Pz (t:=.sl t) rfl (Eq.trans (rfl:bA (.sl t)=1) (beq_iff_eq.1 h2)) hm) (ct (dY rfl rfl)) ⟨hk,trivial,fun u w' v' ho'=>?_,fun u w' v' ho'=>?_⟩
   .rw [ho]at ho';rcases ho' with ho'|ho'<;>cases ho'
   .rw [ho]at ho';cases ho';exact(gB.1 hm).2
  .simp at hz
 |sb id ver lo t v=>
  simp only at hz;obtain⟨h2,hz2⟩:=aP hz;obtain⟨m,hm,hz3⟩:=rT hz2;obtain rfl:bA t=sz:=by simpa using h2
  rw[qo hx ha];have hm2:=(gB.1 hm).2;cases v with
  |nil=>exact LM hm
  |mk w=>refine .pure hr hz3 (x:=.c (.ep id (lo+m) 0)) (fun _=>Sx (l:=w) hm) (ct (dY rfl (by cases t<;>rfl))) ⟨hk.1,by cases t<;>trivial,fun u w' v' ho'=>?_,fun u w' v' ho'=>by obtain⟨u0,s0,ho⟩:=lK (h:=s.heap) (id:=id) (ver:=ver) (dp.1 ha).2;rcases ho with ho|ho<;>rw[ho]at ho'<;>cases ho'⟩;obtain⟨u0,s0,ho⟩:=lK (h:=s.heap) (id:=id) (ver:=ver) (dp.1 ha).2;obtain⟨_,h4⟩:=hk.2 u0 s0 ver ho;obtain⟨_,h6⟩:=h4 rfl;rw[K_ ho ho'];cases s0 with|nil=>exact h6.elim|mk l=>have:=h6.1;simp only[Sl.l]at hm2|-;omega
 |_=>simp at hz
theorem LN{x:V}{y:TV}{n0 sz:Nat}{i:Int}{kd:IntKind}
  (hz:(match x with
  |.op id t p=>(match rh t p with|some (.ar n' u)=>bif(n'==n0)&&(bA u==sz)then(fk i n0).bind fun m=>k (.op id t (p++[.ix m])) s []else none|_=>none)
  |.ep id q t p=>(match rh t p with|some (.ar n' u)=>bif(n'==n0)&&(bA u==sz)then(fk i n0).bind fun m=>k (.ep id q t (p++[.ix m])) s []else none|_=>none)
  |.pt (.ar n' u) v=>bif(n'==n0)&&(bA u==sz)then(fk i n0).bind fun m=>k (.pt u (gt v.1 m)) s []else none
  |_=>none)=some z)
  (hr:HR s.next h1 s.heap) (hx:ge s.heap x y) (hk:fg s.next s.heap x):zR h1 (.indexAddr (some n0) sz) [y,tI kd i] s k z:=by
 cases x with
 |op id t p=>
  simp only at hz;split at hz
  .rename_i n' u hu;obtain⟨h2,hz2⟩:=aP hz;obtain⟨m,hm,hz3⟩:=rT hz2;simp only[ai,beq_iff_eq]at h2;obtain⟨rfl,rfl⟩:=h2;obtain⟨rfl,hm2⟩:=gB.1 hm;obtain⟨q1,q2⟩:=HE p t u n' m hu hm2 hk.2;rw[vY hx];refine .pure hr hz3 (x:=.c (.op id (mX t p+m*bA u))) (fun _=>?_) (ct (dY rfl ?_)) ⟨hk.1,q1⟩
   .simp only[mm,cQ,cE,iM];rw[if_pos ⟨by omega,by omega⟩];simp
   .show [_]=[_];rw[q2]
  .simp at hz
 |ep id q t p=>
  simp only at hz;split at hz
  .rename_i n' u hu;obtain⟨h2,hz2⟩:=aP hz;obtain⟨m,hm,hz3⟩:=rT hz2;simp only[ai,beq_iff_eq]at h2;obtain⟨rfl,rfl⟩:=h2;obtain⟨rfl,hm2⟩:=gB.1 hm;obtain⟨q1,q2⟩:=HE p t u n' m hu hm2 hk.2.1;rw[sH hx];refine .pure hr hz3 (x:=.c (.ep id q (mX t p+m*bA u))) (fun _=>?_) (ct (dY rfl ?_)) ⟨hk.1,q1,hk.2.2⟩
   .simp only[mm,cQ,cE,iM];rw[if_pos ⟨by omega,by omega⟩];simp
   .show [_]=[_];rw[q2]
  .simp at hz
 |pt t v=>cases t with|ar n' u=>simp only at hz;obtain⟨h2,hz2⟩:=aP hz;obtain⟨m,hm,hz3⟩:=rT hz2;simp only[ai,beq_iff_eq]at h2;obtain⟨rfl,rfl⟩:=h2;obtain⟨rfl,hm2⟩:=gB.1 hm;obtain⟨hd,rfl⟩:=yb hx;obtain⟨a1,a2⟩:=EN v hm2;refine .pure hr hz3 (x:=.c (.d (.pt (aS u (gt v.1 m))))) (fun _=>?_) (ct (dY rfl ⟨hd,rfl⟩)) trivial;simp only[mm,cQ,cE,iM];rw[if_pos ⟨by omega,by omega⟩];simp only[eA];rw[if_pos a1,a2]|_=>simp at hz
 |_=>simp at hz
end
section
variable{h:H2}{n:Nat}{h1:bF}{β:Type}{s:S2}{k:V->S2->List Nat->Option β}{z:β}
theorem Ct{t u:Ty}{m:Sl (El t)}{m':Sl (El u)}(hc:gN (.sl t) (.sl u) m=some m'):t=u/\m'.l.map (aS u)=m.l.map (aS t):=by obtain⟨e,rfl⟩:=dw hc;cases e;exact⟨rfl,rfl⟩
theorem Qc{c:C}{t:Ty}{id sz:Nat}{w:Sl (El t)}{ver:Nat}(hr:HR n h1 h)(hc:c=mB (bA t) (aS t) id w)(hsz:bA t=sz)(ho:fO h id=some (.ar t w ver)\/fO h id=some (.im t w ver)):
  ∃aA,jk sz h1 c=some (w.l.map (aS t),aA)/\∀i∈aA,i=id:=by
 subst hc hsz;cases w with
 |nil=>exact⟨[],rfl,fun i hi=>by simp at hi⟩
 |mk l=>
  refine⟨[id],?_,fun i hi=>by simpa using hi⟩;rcases ho with ho|ho
  .have hb:=(hr.ob id _ ho).2.1.2.2 l rfl;simp only[mB,jk,hb];rw[if_pos ⟨trivial,by simp⟩,t6];rfl
  .have hb:=(hr.ob id _ ho).2.1.2.2 l rfl;simp only[mB,jk,hb];rw[if_pos ⟨trivial,by simp⟩,t6];rfl
theorem NY{id lo ver sz:Nat}{t:Ty}{r:Sl (El t)}(hr:HR n h1 h)(hk:fg n h (.sb id ver lo t r))(ha:iz h (.sb id ver lo t r)=true)(hsz:bA t=sz):
  ∃aA,jk sz h1 (yr id lo t r)=some (r.l.map (aS t),aA)/\∀i∈aA,i=id:=by
 subst hsz;obtain⟨u,s0,ho⟩:=lK (h:=h) (id:=id) (ver:=ver) (dp.1 ha).2;obtain⟨_,h4⟩:=hk.2 u s0 ver ho;obtain⟨h5,h6⟩:=h4 rfl;cases r with
 |nil=>exact⟨[],rfl,fun i hi=>by simp at hi⟩
 |mk w=>
  cases s0 with
  |nil=>exact h6.elim
  |mk l=>
   refine⟨[id],?_,fun i hi=>by simpa using hi⟩
   have hb:aB h1 id=some (.aM (bA u) (l.map (aS u)))\/aB h1 id=some (.pJ (bA u) (l.map (aS u))):=by
    rcases ho with ho|ho
    .exact .inl ((hr.ob id _ ho).2.1.2.2 l rfl)
    .exact .inr ((hr.ob id _ ho).2.1.2.2 l rfl)
   rcases hb with hb|hb
   .simp only[yr,jk,hb];rw[if_pos ⟨trivial,by simpa using h6.1⟩];rw[aO,h6.2];rfl
   .simp only[yr,jk,hb];rw[if_pos ⟨trivial,by simpa using h6.1⟩];rw[aO,h6.2];rfl
theorem Hf{x:V}{y:TV}{t0 t:Ty}{m:Sl (El t)}{l:List Nat}{sz:Nat}(hr:HR n h1 h)(hx:ge h x y)(hk:fg n h x)(ha:iz h x=true)(hs:KB t0 h x=some ⟨t,m,l⟩)(hsz:bA t=sz):
  ∃c aA,y=.c c/\jk sz h1 c=some (m.l.map (aS t),aA)/\∀i∈aA,i∈l:=by
 cases x with
 |nl j=>cases j with|zero=>simp only[KB]at hs;obtain⟨rfl,e⟩:=jz (aa hs);obtain⟨rfl,rfl⟩:=ad (eq_of_heq e);exact⟨_,[],vZ hx,rfl,fun i hi=>by simp at hi⟩|succ j=>simp[KB,uc]at hs
 |x u v=>cases u with|sl u=>simp only[KB,uc]at hs;obtain⟨rfl,e⟩:=jz (aa hs);obtain⟨rfl,rfl⟩:=ad (eq_of_heq e);subst hsz;exact⟨_,[],x_ hx,NX,fun i hi=>by simp at hi⟩|_=>simp[KB,uc]at hs
 |so id=>obtain⟨ver,ho,e⟩:=uG (h:=h) (id:=id) hs;obtain rfl:l=[id]:=e;obtain⟨aA,q1,q2⟩:=Qc hr rfl hsz ho;exact⟨_,aA,sG hx (mA ho),q1,fun i hi=>by simpa using q2 i hi⟩
 |sb id ver lo u r=>simp only[KB,uc]at hs;obtain⟨rfl,e⟩:=jz (aa hs);obtain⟨rfl,rfl⟩:=ad (eq_of_heq e);obtain⟨aA,q1,q2⟩:=NY hr hk ha hsz;exact⟨_,aA,qo hx ha,q1,fun i hi=>by simpa using q2 i hi⟩
 |_=>simp[KB,uc]at hs
def ul(s:S2):Option Nat->S2
 |none=>s
 |some id=>eG s id none
theorem CD{md:Option Nat}{t:Ty}{w:Sl (El t)}{u:fF}{aA l:List Nat}{m:Nat}(hr:HR s.next h1 s.heap)(hkl:∀id,md=some id->id<s.next)(hd:CM t=true)(hu:∀p∈u,p.1=s.next\/md=some p.1)(hl:∀i∈aA,i∈l)(hm:m<=s.next+1)
  (hb:∀l,w=.mk l->aB (u++h1) s.next=some (.aM (bA t) (l.map (aS t)))) {x:TV} (hx:x=.c (mB (bA t) (aS t) s.next w)):rg s (jG (ul s md) (.ar t w 0)) h1 x u aA m (.so s.next) l:=by
 have hnx:(ul s md).next=s.next:=by cases md<;>rfl
 have hh:(jG (ul s md) (.ar t w 0)).heap=(s.next,some (.ar t w 0))::(ul s md).heap:=by simp only[jG,hnx]
 have hfo:∀i,fO (jG (ul s md) (.ar t w 0)).heap i=if s.next=i then some (.ar t w 0)else if md=some i then none else fO s.heap i:=by intro i;rw[hh,da];cases md with|none=>simp[ul]|some id=>simp only[ul,eG,da,bn]
 have hnn:(jG (ul s md) (.ar t w 0)).next=s.next+1:=by simp only[jG,hnx]
 refine rg.E2 (s.next::md.toList) hr ⟨fun i o' hi ho=>?_⟩ ?_ ?_ ?_ ?_ hl ?_ ?_ ?_ ?_ ?_ ?_ (fun i hi h=>by rw[hfo,if_neg (by omega)];split<;>first|rfl|exact h)
 .rw [hfo,if_neg (by omega)]at ho;split at ho
  .simp at ho
  .exact .inl ⟨o',ho,sE.refl _⟩
 .cases md<;>rfl
 .cases md<;>rfl
 .rw [hnn];exact hm
 .rw [hnn];omega
 .cases md<;>simp[jG,ul,eG]
 .intro p hp;rcases hu p hp with e|e
  .simp [e]
  .simp [e]
 .intro i hi;rw[hfo,if_neg (fun e=>hi (by simp[e])),if_neg (fun e=>hi (by simp[e]))]
 .intro i hi o ho;rw[hfo]at ho;split at ho
  .rename_i e;subst e;obtain rfl:=aa ho;obtain⟨h3,h4⟩:=qk hd;exact⟨by rw[hnn];omega,⟨h3,h4,hb⟩,trivial⟩
  .rename_i e;split at ho
   .simp at ho
   .rename_i e2;rcases aN.1 hi with hi|hi
    .exact absurd hi.symm e
    .exact absurd (by simpa using hi) e2
 .rw [hx,hh,show s.next=s.next from rfl];exact wt
 .rw [hnn];exact aY _
theorem Jy{sz:Nat}{c:C}{new:List (List D)}{aA:List Nat}(hx:jk sz h1 c=some (new,aA))(hl:new.length<=2147483648){nx:Nat}{cl:Call}:
  cQ cl (.append sz) [some (.c (.d (.lit (.slice none 0 0)))),some (.c c)] h1 nx=if new=[]then some (.c (.d (.lit (.slice none 0 0))),[],aA,nx)else some (.c (.fy sz nx 0 new.length),[(nx,some (.aM sz new))],aA,nx+1):=by
 simp only[cQ,oH,hx];rw[if_pos (by simpa[D1]using hl)];cases new<;>simp
theorem vO{md:Option Nat}{t:Ty}{xs r:List (El t)}{sz:Nat}{c:C}{aA l:List Nat}(hr:HR s.next h1 s.heap)(hkl:∀id,md=some id->id<s.next)(hd:CM t=true)(hsz:bA t=sz)(hx:jk sz h1 c=some (xs.map (aS t),aA))(hc:iI ([]++xs)=some r)
  (hl:∀i∈aA,i∈l) (hz:k (.so s.next) (jG (ul s md) (.ar t (kR Sl.nil xs r) 0)) l=some z):zR h1 (.append sz) [.c (.d (.lit (.slice none 0 0))),.c c] s k z:=by
 subst hsz;obtain⟨rfl,hlen⟩:=wR.1 hc;refine⟨_,_,_,hz,fun cl=>?_⟩;simp only[aD,aW];rw[Jy hx (by simpa using hlen)];cases xs with|nil=>exact⟨_,_,_,_,rfl,CD hr hkl hd (fun p hp=>by simp at hp) hl (bH _) (fun l e=>by cases e) rfl⟩|cons y ys=>refine⟨_,_,_,_,if_neg (by simp),CD hr hkl hd (fun p hp=>by simp at hp;simp[hp]) hl (au _) (fun l e=>?_) rfl⟩;simp only[kR,bl]at e;cases e;rw[aZ,dE,if_pos rfl]
theorem H4{t:Ty}{w xs r:List (El t)}{sz id off:Nat}{aq:List (List D)}{c:C}{aA l:List Nat}(hr:HR s.next h1 s.heap)(hid:id<s.next)(hd:CM t=true)(hsz:bA t=sz)(hl1:aB h1 id=some (.aM sz aq))(hle:off+w.length<=aq.length)(hro:aq.length<=off+(w.length+xs.length))(he:(aq.drop off).take w.length=w.map (aS t))
  (hx:jk sz h1 c=some (xs.map (aS t),aA)) (hc:iI (w++xs)=some r) (hl:∀i∈id::aA,i∈l) (hz:k (.so s.next) (jG (eG s id none) (.ar t (kR (.mk w) xs r) 0)) l=some z):
  zR h1 (.append sz) [.c (.fy sz id off (w.map (aS t)).length),.c c] s k z:=by
 subst hsz;obtain⟨rfl,hlen⟩:=wR.1 hc;have ea:kR (.mk w) xs (w++xs)=.mk (w++xs):=by cases xs<;>rfl
 rw[ea]at hz;refine⟨_,_,_,hz,fun cl=>⟨.c (.fy (bA t) s.next 0 ((w++xs).map (aS t)).length),[(id,none),(s.next,some (.aM (bA t) ((w++xs).map (aS t))))],id::aA,s.next+1,?_,?_⟩⟩
 .simp only[aD,aW,cQ,oH,hx,hl1];simp only[aO,av]at hlen|-;rw[if_pos ⟨trivial,by omega,by simpa[D1]using hlen⟩,he,<-gP,List.drop_eq_nil_of_le (by omega),List.append_nil]
 .refine CD (md:=some id) hr (fun i e=>by cases e;exact hid) hd (fun p hp=>?_) hl (au _) (fun l e=>?_) rfl
  .simp only[aN,gj,or_false]at hp;rcases hp with rfl|rfl<;>simp
  .cases e;rw[aU,dE,if_neg (by omega),aZ,dE,if_pos rfl]
theorem EP{a x:V}{ya yx:TV}{t0:Ty}{sz:Nat}
  (hz:(match KB t0 s.heap x with
  |some ⟨t,m,aA⟩=>bif(bA t==sz)&&CM t then(match a with
   |.nl 0=>(iI ([]++m.l)).bind fun r=>k (.so s.next) (jG s (.ar t (kR Sl.nil m.l r) 0)) aA
   |.x (.sl _) v=>bif Sl.fS v then((iI ([]++m.l)).bind fun r=>k (.so s.next) (jG s (.ar t (kR Sl.nil m.l r) 0)) aA)else none
   |.so id=>(match fO s.heap id with
    |some (.ar u v _)=>(match gN (.sl t) (.sl u) m with
     |some m=>(iI (v.l++m.l)).bind fun r=>k (.so s.next) (jG (eG s id none) (.ar u (kR v m.l r) 0)) (id::aA)
     |none=>none)
    |_=>none)
   |.sb id _ lo u v=>(match fO s.heap id,gN (.sl t) (.sl u) m with
    |some (.ar _ s0 _),some m=>bif Nat.ble s0.l.length (lo+(v.l.length+m.l.length))then((iI (v.l++m.l)).bind fun r=>k (.so s.next) (jG (eG s id none) (.ar u (kR v m.l r) 0)) (id::aA))else none
    |_,_=>none)
   |_=>none)else none
  |none=>none)=some z)
  (hr:HR s.next h1 s.heap) (ha1:ge s.heap a ya) (ha2:fg s.next s.heap a) (ha3:iz s.heap a=true) (hx:ge s.heap x yx) (hk:fg s.next s.heap x) (ha:iz s.heap x=true):zR h1 (.append sz) [ya,yx] s k z:=by
 split at hz
 .rename_i t m l hs;obtain⟨h2,hz2⟩:=aP hz;simp only[ai,beq_iff_eq]at h2;obtain⟨hsz,hd⟩:=h2;obtain⟨c,aA,rfl,q1,q2⟩:=Hf hr hx hk ha hs hsz;clear hz;cases a with
  |nl j=>cases j with|zero=>obtain⟨r,hc,hz3⟩:=rT hz2;rw[vZ ha1];exact vO (md:=none) hr (fun _ e=>by cases e) hd hsz q1 hc q2 hz3|succ j=>simp at hz2
  |x u v=>
   cases u with
   |sl u=>obtain⟨hnil,hz3⟩:=aP hz2;obtain⟨r,hc,hz4⟩:=rT hz3;cases v with|mk=>cases hnil|nil=>obtain⟨cc,rfl,hcc⟩:=js (v:=.x (.sl u) Sl.nil) ha1 rfl;obtain rfl:cc=DN 0:=(List.cons.inj hcc.2).1;exact vO (md:=none) hr (fun _ e=>by cases e) hd hsz q1 hc q2 hz4
   |_=>simp at hz2
  |so id=>
   simp only at hz2;split at hz2
   .rename_i u v ver ho;split at hz2
    .rename_i m' hm;obtain⟨rfl,e⟩:=Ct hm;obtain⟨r,hc,hz3⟩:=rT hz2;rw[sG ha1 (mA (.inl ho))];rw[<-e]at q1;cases v with
     |nil=>exact vO (md:=some id) hr (fun _ e=>by cases e;exact ha2) hd hsz q1 hc (fun i hi=>aC _ (q2 i hi)) hz3
     |mk w=>
      have hb:=(hr.ob id _ ho).2.1.2.2 w rfl;subst hsz;refine H4 (w:=w) hr ha2 hd rfl hb (by simp) (by simp only[aO];omega) (by rw[<-aO (f:=aS t)];exact t6) q1 hc (fun i hi=>?_) hz3;rcases aN.1 hi with rfl|hi
      .exact cq ..
      .exact aC _ (q2 i hi)
    .simp at hz2
   .simp at hz2
  |sb id ver lo u v=>
   simp only at hz2;split at hz2
   .rename_i u0 s0 v0 m' ho hm;obtain⟨rfl,e⟩:=Ct hm;obtain⟨hgd,hz2b⟩:=aP hz2;obtain⟨r,hc,hz3⟩:=rT hz2b;rw[qo ha1 ha3];rw[<-e]at q1;cases v with
    |nil=>exact vO (md:=some id) hr (fun _ e=>by cases e;exact ha2.1) hd hsz q1 hc (fun i hi=>aC _ (q2 i hi)) hz3
    |mk w=>
     obtain⟨u1,s1,ho1⟩:=lK (h:=s.heap) (id:=id) (ver:=ver) (dp.1 ha3).2;obtain⟨_,h4⟩:=ha2.2 u1 s1 ver ho1;obtain⟨h5,h6⟩:=h4 rfl
     have ho2:fO s.heap id=some (.ar u1 s1 ver):=by
      rcases ho1 with ho1|ho1
      .exact ho1
      .rw [ho]at ho1;simp at ho1
     cases s1 with
     |nil=>exact h6.elim
     |mk l1=>
      have hb:=(hr.ob id _ ho2).2.1.2.2 l1 rfl;subst hsz;rw[h5]at hb
      refine H4 (w:=w) hr ha2.1 hd rfl hb (by simpa using h6.1) (by
       rw[ho2]at ho;obtain⟨rfl,e2,_⟩:u1=u0/\_:=by simpa using ho
       cases eq_of_heq e2;have:=jf hgd;simpa[Sl.l]using this) h6.2 q1 hc (fun i hi=>?_) hz3
      rcases aN.1 hi with rfl|hi
      .exact cq ..
      .exact aC _ (q2 i hi)
   .simp at hz2
  |_=>simp at hz2
 .simp at hz
end
section
variable{h:H2}{n:Nat}{h1:bF}{β:Type}{s:S2}{k:V->S2->List Nat->Option β}{z:β}
theorem G5{id:Nat}{o o':O}{u:fF}{x:TV}{v:V}{aA l:List Nat}(hr:HR s.next h1 s.heap)(ho:fO s.heap id=some o)(hs:sE o o')(hu:∀p∈u,p.1=id)(hb:vu ((id,some o')::s.heap) o' (aB (u++h1) id))(hko:CN s.next ((id,some o')::s.heap) o')
  (hx:ge ((id,some o')::s.heap) v x) (hk:fg s.next ((id,some o')::s.heap) v) (hl:∀i∈aA,i∈l):rg s (eG s id (some o')) h1 x u aA s.next v l:=by
 refine rg.E2 [id] hr (jy.CV ho hs) rfl rfl (au _) (au _) hl rfl (fun p hp=>by simp[hu p hp]) (fun i hi=>?_) (fun i hi o2 ho2=>?_) hx hk (fun i _ h=>by simp only[eG];rw[da,if_neg (fun e=>by rw[e,h]at ho;cases ho)];exact h)
 .simp only[eG];rw[da,if_neg fun e=>hi (by simp[e])]
 .obtain rfl:=ao.1 hi;simp only[eG,tY]at ho2;obtain rfl:=aa ho2;exact⟨(hr.ob _ _ ho).1,hb,hko⟩
theorem rV{id ver:Nat}{t:Ty}{w w':Sl (El t)}{u:fF}{x:TV}{v:V}{aA l:List Nat}(hr:HR s.next h1 s.heap)(ho:fO s.heap id=some (.ar t w ver))(hn:w.fS=w'.fS)(hlen:w.l.length=w'.l.length)(hu:∀p∈u,p.1=id)
  (hb:∀l,w'=.mk l->aB (u++h1) id=some (.aM (bA t) (l.map (aS t)))) (hx:∀g,ge g v x) (hk:∀n g,fg n g v) (hl:∀i∈aA,i∈l):rg s (eG s id (some (.ar t w' (ver+1)))) h1 x u aA s.next v l:=by
 obtain⟨h2,h3,_⟩:=(hr.ob id _ ho).2.1;exact G5 hr ho ⟨bH _,rfl,hn,hlen,fun e=>by omega⟩ hu ⟨h2,h3,hb⟩ trivial (hx _) (hk _ _) hl
theorem JK{a x:V}{ya yx:TV}{t0:Ty}{sz:Nat}
  (hz:(match KB t0 s.heap x with
  |some ⟨t,m,aA⟩=>bif bA t==sz then(match a with
   |.nl 0=>k (.x (.i .i64) (0:Int)) s aA
   |.so id=>(match fO s.heap id with
    |some (.ar u v ver)=>(match gN (.sl t) (.sl u) m with
     |some m=>k (.x (.i .i64) ((min m.l.length v.l.length:Nat):Int)) (eG s id (some (.ar u (v.to (MN v.l 0 v.l.length m.l)) (ver+1)))) (id::aA)
     |none=>none)
    |_=>none)
   |.sb id ver lo _ v=>(match fO s.heap id with
    |some (.ar u w ver')=>(match gN (.sl t) (.sl u) m with
     |some m=>bif ver'==ver then k (.x (.i .i64) ((min m.l.length v.l.length:Nat):Int)) (eG s id (some (.ar u (w.to (MN w.l lo v.l.length m.l)) (ver+1)))) (id::aA)else none
     |none=>none)
    |_=>none)
   |_=>none)else none
  |none=>none)=some z)
  (hr:HR s.next h1 s.heap) (ha1:ge s.heap a ya) (ha2:fg s.next s.heap a) (ha3:iz s.heap a=true) (hx:ge s.heap x yx) (hk:fg s.next s.heap x) (ha:iz s.heap x=true):zR h1 (.copy sz) [ya,yx] s k z:=by
 have hmem:∀{id:Nat}{aA l:List Nat},(∀i∈aA,i∈l)->∀i∈id::aA,i∈id::l:=fun q i hi=>by
  rcases aN.1 hi with rfl|hi
  .exact cq ..
  .exact aC _ (q i hi)
 split at hz
 .rename_i t m l hs;obtain⟨h2,hz2⟩:=aP hz;obtain rfl:bA t=sz:=by simpa using h2
  obtain⟨c,aA,rfl,q1,q2⟩:=Hf hr hx hk ha hs rfl;clear hz;cases a with
  |nl j=>cases j with|zero=>rw[vZ ha1];exact⟨_,_,_,hz2,fun cl=>⟨tI .i64 0,[],aA,s.next,by simp only[aD,aW,cQ,mE,DN,q1];rfl,rg.pure hr (xi _ _) trivial q2⟩⟩|succ j=>simp at hz2
  |so id=>
   simp only at hz2;split at hz2
   .rename_i u v ver ho;split at hz2
    .rename_i m' hm;obtain⟨rfl,e⟩:=Ct hm;rw[sG ha1 (mA (.inl ho))];rw[<-e]at q1;cases v with
     |nil=>refine⟨_,_,_,hz2,fun cl=>⟨tI .i64 0,[],aA,s.next,by simp only[aD,aW,cQ,mE,mB,q1];rfl,?_⟩⟩;exact rV hr ho rfl rfl (fun p hp=>by simp at hp) (fun l e=>by cases e) (fun g=>by simpa[Sl.l]using xi .i64 0) (fun _ _=>trivial) fun i hi=>aC _ (q2 i hi)
     |mk w=>
      have hb:=(hr.ob id _ ho).2.1.2.2 w rfl;refine⟨_,_,_,hz2,fun cl=>⟨_,_,_,_,Q9 hb q1,?_⟩⟩;refine rV hr ho rfl ?_ (fun p hp=>by simp at hp;simp[hp]) (fun l e=>?_) (fun g=>xi _ _) (fun _ _=>trivial) (hmem q2)
      .simp only[Sl.to,Sl.l];rw[uW (by omega)]
      .simp only[Sl.to,Sl.l]at e;cases e;rw[aZ,dE,if_pos rfl];rfl
    .simp at hz2
   .simp at hz2
  |sb id ver lo u0 v=>
   simp only at hz2;split at hz2
   .rename_i u w ver' ho;split at hz2
    .rename_i m' hm;obtain⟨rfl,e⟩:=Ct hm;obtain⟨h3,hz3⟩:=aP hz2;obtain rfl:ver'=ver:=by simpa using h3
     rw[qo ha1 ha3];rw[<-e]at q1;obtain⟨_,h4⟩:=ha2.2 t w ver' (.inl ho);obtain⟨h5,h6⟩:=h4 rfl;cases v with
     |nil=>cases w with|mk w=>exact h6.elim|nil=>refine⟨_,_,_,hz3,fun cl=>⟨tI .i64 0,[],aA,s.next,by simp only[aD,aW,cQ,mE,yr,q1];rfl,?_⟩⟩;exact rV hr ho rfl rfl (fun p hp=>by simp at hp) (fun l e=>by cases e) (fun g=>by simpa[Sl.l]using xi .i64 0) (fun _ _=>trivial) fun i hi=>aC _ (q2 i hi)
     |mk v=>
      cases w with
      |nil=>exact h6.elim
      |mk w=>
       have hb:=(hr.ob id _ ho).2.1.2.2 w rfl;refine⟨_,_,_,hz3,fun cl=>⟨tI .i64 (min m'.l.length v.length:Nat),[(id,some (.aM (bA t) ((MN w lo v.length m'.l).map (aS t))))],id::aA,s.next,?_,?_⟩⟩
       .simp only[aD,aW,cQ,mE,yr,q1,hb,<-h5];rw[if_pos ⟨trivial,by simpa using h6.1⟩];simp only[GE,aO];rfl
       .refine rV hr ho rfl ?_ (fun p hp=>by simp at hp;simp[hp]) (fun l e=>?_) (fun g=>xi _ _) (fun _ _=>trivial) (hmem q2)
        .simp only[Sl.to,Sl.l];rw[uW h6.1]
        .simp only[Sl.to,Sl.l]at e;cases e;rw[aZ,dE,if_pos rfl];rfl
    .simp at hz2
   .simp at hz2
  |_=>simp at hz2
 .simp at hz
theorem CY{g:H2}:ge g (.tp .ni) (.iT []):=⟨[],rfl,rfl⟩
theorem GL{a:V}{ya:TV}{zz:List Value}
  (hz:(match a with
  |.sb id ver lo _ v=>(match fO s.heap id with
   |some (.ar u w ver')=>bif(ver'==ver)&&ub (nC u) zz&&CM u then(OW w lo v.l.length (sA u)).bind fun w=>k (.tp .ni) (eG s id (some (.ar u w (ver+1)))) [id]else none
   |_=>none)
  |_=>none)=some z)
  (hr:HR s.next h1 s.heap) (ha1:ge s.heap a ya) (ha2:fg s.next s.heap a) (ha3:iz s.heap a=true):zR h1 (.clear zz) [ya] s k z:=by
 cases a with
 |sb id ver lo u0 v=>
  simp only at hz;split at hz
  .rename_i u w ver' ho;obtain⟨h3,hz2⟩:=aP hz;simp only[ai,beq_iff_eq]at h3;obtain⟨⟨rfl,q1⟩,q2⟩:=h3;have q1:=rk q1;subst q1;obtain⟨hd,_⟩:=qk q2;obtain⟨w',hw,hz3⟩:=rT hz2;rw[qo ha1 ha3];obtain⟨_,h4⟩:=ha2.2 u w ver' (.inl ho);obtain⟨h5,h6⟩:=h4 rfl;have hzl:cF (nC u)=aS u (sA u):=(rj u hd).symm;have hlen:bA u=(nC u).length:=by have:=congrArg mR hzl;rw[bJ,cF,aO]at this;exact this.symm
   cases w with
   |nil=>simp[OW]at hw
   |mk w=>
    cases v with
    |nil=>exact h6.elim
    |mk v=>
     simp only[OW,bn]at hw;subst hw;have hb:=(hr.ob id _ ho).2.1.2.2 w rfl;refine⟨_,_,_,hz3,fun cl=>⟨.iT [],[(id,some (.aM (bA u) ((MN w lo v.length (az v.length (sA u))).map (aS u))))],[id],s.next,?_,?_⟩⟩
     .simp only[aD,aW,cQ,pi,yr,hb,<-h5];rw[if_pos ⟨hlen,by simpa using h6.1⟩,hzl,<-GE];simp[aO,List.map_replicate,List.take_of_length_le]
     .refine rV hr ho rfl ?_ (fun p hp=>by simp at hp;simp[hp]) (fun l e=>?_) (fun g=>CY) (fun _ _=>trivial) (fun i hi=>hi)
      .simp only[Sl.l];rw[uW (by simpa using h6.1)]
      .cases e;rw[aZ,dE,if_pos rfl];rfl
  .simp at hz
 |_=>simp at hz
theorem C3{id m:Nat}{t:Ty}{p:p8}{w:V}{ya yw:TV}(hr:HR s.next h1 s.heap)(ha1:ge s.heap (.op id t p) ya)(ha2:fg s.next s.heap (.op id t p))(hx:ge s.heap w yw)(hk:fg s.next s.heap w)
  (hz:(bif(yh w==m)then(match fO s.heap id with
  |some (.bx u c)=>bif decide (u=t)then(match rh t p with
   |some a=>(match Nm a w with
    |some w=>(match oK c p w with|some c=>bif eL c false t then k (.tp .ni) (eG s id (some (.bx t c))) [id]else none|none=>none)
    |none=>none)
   |none=>none)else none
  |_=>none)else none)=some z):zR h1 (.store m) [ya,yw] s k z:=by
 obtain⟨h2,hz2⟩:=aP hz;simp only[beq_iff_eq]at h2;clear hz;split at hz2
 .rename_i u c ho;obtain⟨h3,hz3⟩:=aP hz2;simp only[decide_eq_true_eq]at h3;subst h3;clear hz2;split at hz3
  .rename_i a ha;split at hz3
   .rename_i w' hw;split at hz3
    .rename_i c' hc;obtain⟨h4,hz4⟩:=aP hz3;obtain⟨cw,e1,e2⟩:=qK (oX (FZ hw) hx);obtain⟨q1,q2,q3,q4⟩:=yO hw e1 hk;obtain⟨_,⟨cs,e3,e4,e5⟩,e6⟩:=hr.ob id _ ho;have l1:cw.length=yh w:=iD e1;have l2:cw.length=bA a:=by rw[iD q1,gW _ _ _ q2]
     have l3:cs.length=bA u:=by rw[iD e4,gW _ _ _ e5]
     have l4:=wq p u a ha ha2.2;have q5:=wd p c u w' c' cs cw a e5 e4 ha2.2 hc ha q1 l2;have q6:=Hb p c w' c' e6 q3 hc;rw[vY ha1];have hos:sE (.bx u c) (.bx u c'):=rfl;refine .CV hr ho hos hz4 (fun cl=>?_) (b:=some (.box (aV cs (mX u p) cw))) ?_ ?_ CY trivial (aA:=[id]) fun i hi=>hi
     .simp only[aD,aW,cQ,mu,e2];rw[if_pos (l1.trans h2)];simp only[e3];rw[if_pos (by omega)]
     .exact ⟨_,rfl,lJ (jy.CV ho hos) q6 q5,h4⟩
     .exact gS (au _) (jy.CV ho hos) q6
    .simp at hz3
   .simp at hz3
  .simp at hz3
 .simp at hz2
theorem rg.seq{s1 s':S2}{fu u:fF}{x:TV}{aA a l:List Nat}{m:Nat}{v:V}(eQ:jy s.next s.heap s1.heap)(he:s1.dH=s.dH)(hg:s1.gh=s.gh)(hn:s1.next=s.next)(hwo:s1.wo=a++s.wo)(hu:∀p∈fu,p.1∈a)(hf:∀id,id∉a->fO s1.heap id=fO s.heap id)
  (hna:∀i∈a,fO s.heap i≠none) (hd:rg s1 s' (fu++h1) x u aA m v l):rg s s' h1 x (u++fu) aA m v l:=by
 obtain⟨d1,d2,d3,d4,d5,d6,d7,d8,d9,d10,W,w1,w2,w3⟩:=hd;refine⟨d1,d2,by rw[aJ];exact d3,jy.trans (Nat.le_of_eq hn.symm) eQ d4,d5.trans he,d6.trans hg,d7,by omega,d9,fun i hi h=>d10 i (by omega) ((hf i fun q=>hna i q h).trans h),W++a,by rw[w1,hwo,aJ],fun p hp=>?_,fun i hi=>?_⟩
 .rcases ap.1 hp with hp|hp
  .exact aE _ (w2 p hp)
  .exact aG _ (hu p hp)
 .rw [w3 i fun q=>hi (aE _ q),hf i fun q=>hi (aG _ q)]
theorem L_{v w:V}{l:List Nat}(hf:jm h v=some (w,l)):N8 v:=by cases v<;>first|trivial|(simp[jm]at hf)
theorem pF{a b:List D}(e:a.map C.d=b.map C.d):a=b:=by
 induction a generalizing b with
 |nil=>cases b with|nil=>rfl|cons y b=>simp at e
 |cons x a ih=>cases b with|nil=>simp at e|cons y b=>simp only[aD,dQ,C.d.injEq]at e;rw[e.1,ih e.2]
theorem Q5:∀(p:p8)(t u:Ty),kL t=true->rh t p=some u->kL u=true:=by
 intro p;induction p with
 |nil=>
  intro t u hd h;have e:rh t []=some t:=by cases t<;>rfl
  rw[e]at h;exact aa h▸hd
 |cons q p ih=>
  intro t u hd h;cases q with
  |fd i=>
   cases t with
   |st t=>
    simp only[rh]at h;split at h
    .rename_i w hw;exact ih w u (zC t i w hd hw) h
    .simp at h
   |_=>simp[rh]at h
  |ix i=>cases t with|ar l t=>exact ih t u hd h|_=>simp[rh]at h
theorem Hr(t:Ty):mX t []=0:=by cases t<;>rfl
theorem Fp{t:Ty}{l:List (Sl (El t))}{ln:Option (Nat×Nat)}{m:Nat}{r:Sl (El t)}(h:Ha ln m=true):(eX t l ln).set m (oY t r)=eX t (l.set m r) none:=by cases ln with|none=>simp only[eX,List.map_set]|some q=>obtain⟨m',i⟩:=q;obtain rfl:m'=m:=Nat.eq_of_beq_eq_true h;simp only[eX,List.map_set,List.set_set]
theorem Fq{t:Ty}{l:List (Sl (El t))}{ln:Option (Nat×Nat)}:(eX t l ln).length=l.length:=by cases ln with|none=>simp[eX]|some q=>obtain⟨m',i⟩:=q;simp[eX]
theorem yF{id id2 m:Nat}{t:Ty}{l:List (Sl (El t))}{ln:Option (Nat×Nat)}{o2:O}{r:Sl (El t)}{u:fF}{aA:List Nat}(hr:HR s.next h1 s.heap)(ho:fO s.heap id=some (.rw t (.mk l) ln))(ho2:fO s.heap id2=some o2)(hne:id2≠id)(hlnm:Ha ln m=true)
  (hu:∀p∈u,p.1=id\/p.1=id2) (hb:aB (u++h1) id=some (.nst (bA t) ((eX t l ln).set m (oY t r)))) (hids:∀i∈aA,i∈[id,id2]):
  rg s (eG (eG s id2 none) id (some (.rw t (.mk (l.set m r)) none))) h1 (.iT []) u aA s.next (.tp .ni) [id,id2]:=by
 have eQ:jy s.next s.heap ((id,some (.rw t (.mk (l.set m r)) none))::(id2,none)::s.heap):=by refine jy.trans (au _) (jy.md id2) (jy.CV (o:=.rw t (.mk l) ln) ?_ ⟨rfl,rfl,by simp[Sl.l]⟩);rw[da,if_neg hne];exact ho
 refine rg.E2 [id,id2] hr eQ rfl rfl (au _) (au _) hids rfl (fun p hp=>?_) (fun i hi=>?_) (fun i hi o ho'=>?_) CY trivial (fun i _ h=>?_)
 .rcases hu p hp with e|e<;>simp[e]
 .simp only[aN,gj,or_false,not_or]at hi;simp only[eG];rw[da,if_neg (fun e=>hi.1 e.symm),da,if_neg (fun e=>hi.2 e.symm)]
 .simp only[eG]at ho';by_cases hi1:id=i
  .subst hi1;rw[da,if_pos rfl]at ho';obtain rfl:=aa ho';obtain⟨a,⟨d1,d2,_⟩,_⟩:=hr.ob _ _ ho;exact⟨a,⟨d1,d2,fun l' e=>by cases e;rw[hb,Fp hlnm]⟩,trivial⟩
  .rw [da,if_neg hi1]at ho';simp only[aN,gj,or_false]at hi;rcases hi with rfl|rfl
   .exact absurd rfl hi1
   .rw [da,if_pos rfl]at ho';cases ho'
 .simp only[eG];rw[da,if_neg (fun e=>by subst e;rw[ho]at h;cases h),da,if_neg (fun e=>by subst e;rw[ho2]at h;cases h)];exact h
theorem rg.nx{s s':S2}{x:TV}{u:fF}{aA l:List Nat}{m q:Nat}{v:V}(d:rg s s' h1 x u aA m v l)(hq:q<=s'.next):rg s s' h1 x u aA q v l:=⟨d.val,d.Va,d.hr,d.eQ,d.dH,d.gh,hq,d.le,d.aA,d.nb,d.wo⟩
theorem C4{id m q:Nat}{t:Ty}{p:p8}{w:V}{ya yw:TV}(hr:HR s.next h1 s.heap)(ha1:ge s.heap (.ep id m t p) ya)(ha2:fg s.next s.heap (.ep id m t p))(hx:ge s.heap w yw)(hk:fg s.next s.heap w)(ha:iz s.heap w=true)
  (hz:(bif(yh w==q)then Fi id m t p w s (fun s l=>k (.tp .ni) s l)else none)=some z):zR h1 (.store q) [ya,yw] s k z:=by
 obtain⟨h2,hz2⟩:=aP hz;simp only[beq_iff_eq]at h2;clear hz;unfold Fi at hz2;split at hz2
 .rename_i u v ln ho;split at hz2
  .rename_i id2;split at hz2
   .rename_i u2 r ver ho2;split at hz2
    .rename_i r' hr';obtain⟨h3,hz3⟩:=aP hz2;simp only[ai,decide_eq_true_eq,Bool.not_eq_true',beq_eq_false_iff_ne]at h3;obtain⟨⟨rfl,hne⟩,hln⟩:=h3;obtain⟨e,e2⟩:=dw hr';cases e;obtain rfl:r'=r:=e2;have hlen:=ha2.2.2.2 _ _ _ ho;obtain⟨_,⟨d1,d2,d3⟩,_⟩:=hr.ob id _ ho;obtain⟨_,⟨_,_,c3⟩,_⟩:=hr.ob id2 _ ho2;cases v with
     |nil=>simp[Sl.l]at hlen
     |mk l=>
      have d3:=d3 l rfl;have h2':q=1:=h2.symm;subst h2';rw[sH ha1,sG hx (mA (.inl ho2)),Hr];have hl2:m<(eX u l ln).length:=by rw[Fq];exact hlen
      cases r' with
      |nil=>
       refine⟨_,_,_,hz3,fun cl=>⟨.iT [],[(id,some (.nst (bA u) ((eX u l ln).set m .nil)))],[id],s.next,?_,?_⟩⟩
       .simp only[aD,aW,cQ,mu,mB,cellsOf,d3];rw[if_pos (show([_]:List C).length=1 from rfl)];rw[if_pos ⟨trivial,trivial,hl2⟩];simp only[rO]
       .exact yF hr ho ho2 hne hln (fun p hp=>by simp at hp;simp[hp]) (by rw[aZ,dE,if_pos rfl];rfl) (fun i hi=>by simp at hi;simp[hi])
      |mk rr=>
       have c3:=c3 rr rfl;refine⟨_,_,_,hz3,fun cl=>⟨.iT [],[(id,some (.nst (bA u) ((eX u l ln).set m (.bv (rr.map (aS u)))))),(id2,none)],[id,id2],s.next,?_,?_⟩⟩
       .simp only[aD,aW,cQ,mu,mB,cellsOf,d3];rw[if_pos (show([_]:List C).length=1 from rfl)];rw[if_pos ⟨trivial,trivial,hl2⟩];simp only[rO,c3];rw[if_pos ⟨trivial,by simp,hne⟩]
       .exact yF hr ho ho2 hne hln (fun p hp=>by simp at hp;rcases hp with rfl|rfl<;>simp) (by rw[aU,dE,if_pos rfl];rfl) (fun i hi=>hi)
    .simp at hz2
   .simp at hz2
  .simp at hz2
 .rename_i u l ver ho;split at hz2
  .rename_i w' a hw;obtain⟨h3,hz3⟩:=aP hz2;simp only[decide_eq_true_eq]at h3;subst h3;clear hz2;split at hz3
   .rename_i b2 hb;split at hz3
    .rename_i y hy;split at hz3
     .rename_i c hc;split at hz3
      .rename_i y2 hy2;split at hz3
       .rename_i s1 hs1;obtain⟨h4,hz4⟩:=aP hz3;obtain⟨cw,e1,e2⟩:=qK (oX (L_ hw) hx);obtain⟨ds,aA,f1,f2,f3,f4,f5⟩:=s_ hr w w' a cw hw e1 hk ha;have e3:=pF (iZ w' false b2 y _ hy f2);have hlen:=ha2.2.2.1 u l ver (.inl ho)
        have hnm:∀(ds:List D)(cs:List C)(aA:List Nat),dW h1 cs=some (ds,aA)->ds.length=cs.length:=by
         intro ds cs;induction cs generalizing ds with
         |nil=>intro aA h;obtain⟨rfl,_⟩:[]=ds/\[]=aA:=by simpa[dW]using h
               rfl
         |cons c cs ih=>
          intro aA h;simp only[dW]at h;split at h
          .rename_i p1 p2 p3 p4 hp hq;obtain⟨rfl,rfl⟩:=ad (aa h);simp[ih _ _ hq]
          .simp at h
        have l1:cw.length=yh w:=iD e1;have l2:ds.length=bA b2:=by rw[e3,bJ]
        have l3:=hnm _ _ _ f1;have l4:=wq p u b2 hb ha2.2.1;cases l with
        |nil=>simp[Sl.l]at hlen
        |mk l=>
         obtain⟨_,⟨d1,d2,d3⟩,_⟩:=hr.ob id _ ho;have d3:=d3 l rfl;have q5:=wd (h:=s.heap) p (.x u (gt l m)) u (.x b2 y) c ((aS u (gt l m)).map .d) ((aS b2 y).map .d) b2 (by simp[eL]) ⟨d1,rfl⟩ ha2.2.1 hc hb ⟨Q5 p u b2 d1 hb,rfl⟩ (by simp[bJ]);have q6:=pP hy2 q5;rw[<-uD]at q6;have q7:=pF q6;obtain⟨fu,g1,g2,g3,g4,g5,g6,g7,g8,g9⟩:=Cg (s0:=s) rfl hr a s1 aA aA hs1 f3 f4;have hid:id∉a:=by simpa using h4
         have hid2:aA.contains id=false:=by cases hq:aA.contains id with|false=>rfl|true=>exact absurd ((f3 id (by simpa using hq)).1) hid
         rw[sH ha1];refine⟨_,_,_,hz4,fun cl=>⟨.iT [],(id,some (.aM (bA u) ((l.set m y2).map (aS u))))::fu,id::aA,s.next,?_,?_⟩⟩
         .simp only[aD,aW];exact NM d3 hlen e2 (l1.trans h2) f1 g1 hid2 (by rw[bJ];omega) (by rw[e3];exact q7)
         .have ho1:fO s1.heap id=some (.ar u (.mk l) ver):=by rw[g9 id hid];exact ho
          rw[<-g6]at g2
          have:=rV (v:=.tp .ni) (x:=.iT []) (aA:=id::aA) (l:=id::a) (u:=[(id,some (.aM (bA u) ((l.set m y2).map (aS u))))]) g2 ho1 (w':=.mk (l.set m y2)) rfl (by simp[Sl.l]) (fun p hp=>by simp at hp;simp[hp]) (fun l' e=>by cases e;rw[aZ,dE,if_pos rfl]) (fun _=>CY) (fun _ _=>trivial) (fun i hi=>by
           rcases aN.1 hi with rfl|hi
           .exact cq ..
           .exact aC _ (f3 i hi).1)
          rw[g6]at this;exact rg.seq g3 g4 g5 g6 g7 g8 g9 (Gq rfl hs1) this
       .simp at hz3
      .simp at hz3
     .simp at hz3
    .simp at hz3
   .simp at hz3
  .simp at hz2
 .simp at hz2
end
section
variable{h:H2}{n:Nat}{h1:bF}{β:Type}{s:S2}{k:V->S2->List Nat->Option β}{z:β}
theorem uA:∀{cs:List C}{ds:List D}{aA:List Nat},dW h1 cs=some (ds,aA)->ds.length=cs.length:=by
 intro cs;induction cs with
 |nil=>intro ds aA h;obtain⟨rfl,_⟩:[]=ds/\[]=aA:=by simpa[dW]using h
       rfl
 |cons c cs ih=>
  intro ds aA h;simp only[dW]at h;split at h
  .rename_i p1 p2 p3 p4 hp hq;obtain⟨rfl,rfl⟩:=ad (aa h);simp[ih hq]
  .simp at h
theorem PR{t:Ty}(hd:kL t=true)(m:Nat):(az m (sA t)).flatMap (aS t)=cF ((az m (nC t)).flatten):=by induction m with|zero=>rfl|succ m ih=>simp only[iE,bk,ez,ih,rj t hd,cF,gP]
theorem B8(l:List Value):fz l=(cF l).map .d:=by simp[fz,cF]
theorem Ke{t:Ty}(hd:kL t=true)(m:Nat):((az m (nC t)).flatten).length=m*bA t:=by have:=congrArg mR (PR hd m);rw[gT (bJ t),List.length_replicate,cF,aO]at this;exact this.symm
theorem EF{α:Type}{f:α->List D}{q:Nat}(hf:∀a,(f a).length=q):∀(l:List α),mF q l.length (l.flatMap f)=l.map f:=by intro l;induction l with|nil=>rfl|cons a l ih=>simp only[db,mF,bk,aD];rw[List.take_left' (hf a),List.drop_left' (hf a),ih]
theorem FD{t:Ty}{len:Nat}(hr:HR n h1 h)(hd:kL t=true):∀(is:List Nat)(vs:List V)(m:Nat)(l:List (El t))(a:List Nat)(E0:List C)(xs:List TV),yA h t len m is vs=some (l,a)->m<=len->E0.length=m*bA t->
  mT h vs xs->(∀w∈vs,fg n h w)->(∀w∈vs,iz h w=true)->
  ∃cs aA,nk (E0++fz ((az (len-m) (nC t)).flatten)) ((is.map fun i=>(i*bA t,bA t)).zip xs)=some (E0++cs)/\dW h1 cs=some (l.flatMap (aS t),aA)/\(∀i∈aA,i∈a/\¬mU h i)/\(∀i∈a,i∈aA\/mU h i)/\l.length=len-m:=by
 intro is;induction is with
 |nil=>intro vs m l a E0 xs hf hm hpre hx hk ha;cases vs with|cons v vs=>simp[yA]at hf|nil=>simp only[yA,bn,Prod.mk.injEq]at hf;obtain⟨rfl,rfl⟩:=hf;obtain rfl:=lX hx;refine⟨_,[],rfl,?_,fun i hi=>by simp at hi,fun i hi=>by simp at hi,by simp⟩;rw[B8,PR hd];exact x5 _
 |cons i is ih=>
  intro vs m l a E0 xs hf hm hpre hx hk ha;cases vs with
  |nil=>simp[yA]at hf
  |cons v vs=>
   simp only[yA]at hf;split at hf
   .rename_i w a1 hw;split at hf
    .rename_i y hy;obtain⟨hc,hf⟩:=aP hf;simp only[ai,Nat.ble_eq,Nat.blt_eq]at hc;obtain⟨hmi,hil⟩:=hc;split at hf
     .rename_i l1 b hl1;obtain⟨rfl,rfl⟩:=ad (aa hf);obtain⟨x,ys,rfl,hx1,hx2⟩:=gU hx;obtain⟨cw,e1,e2⟩:=qK (oX (L_ hw) hx1);obtain⟨ds,aA,f1,f2,f3,f4,_⟩:=s_ hr v w a1 cw hw e1 (hk _ (by simp)) (ha _ (by simp));have e3:=pF (iZ w false t y _ hy f2);subst e3;have l1':cw.length=bA t:=by rw[<-uA f1,bJ]
      have lz:(fz ((az (i-m) (nC t)).flatten)).length=(i-m)*bA t:=by simp only[fz,aO];exact Ke hd _
      have lz1:(fz (nC t)).length=bA t:=by rw[B8,<-rj t hd,aO,bJ]
      have hpl:(E0++fz ((az (i-m) (nC t)).flatten)).length=i*bA t:=by rw[av,hpre,lz,<-bP,Nat.add_sub_cancel' hmi]
      obtain⟨cs,jds,g1,g2,g3,g4,g5⟩:=ih vs (i+1) l1 b (E0++fz ((az (i-m) (nC t)).flatten)++cw) ys hl1 hil (by rw[av,hpl,l1',bP,Nat.one_mul]) hx2 (fun w hw=>hk w (by simp[hw])) (fun w hw=>ha w (by simp[hw]));have hsplit:az (len-m) (nC t)=az (i-m) (nC t)++(nC t::az (len-(i+1)) (nC t)):=by rw[<-iE,List.replicate_append_replicate];congr 1;omega
      have hcells:E0++fz ((az (len-m) (nC t)).flatten)=(E0++fz ((az (i-m) (nC t)).flatten))++(fz (nC t)++fz ((az (len-(i+1)) (nC t)).flatten)):=by rw[hsplit,List.flatten_append,ez,sV,sV,aJ]
      refine⟨fz ((az (i-m) (nC t)).flatten)++(cw++cs),aA++jds,?_,?_,fun j hj=>?_,fun j hj=>?_,by simp[g5];omega⟩
      .simp only[aD,List.zip_cons_cons,nk,e2];rw[if_pos ⟨l1',by rw[hcells,av,hpl,av,lz1];omega⟩,hcells];have:aV ((E0++fz ((az (i-m) (nC t)).flatten))++(fz (nC t)++fz ((az (len-(i+1)) (nC t)).flatten))) (i*bA t) cw=(E0++fz ((az (i-m) (nC t)).flatten)++cw)++fz ((az (len-(i+1)) (nC t)).flatten):=by have:=tH (a:=E0++fz ((az (i-m) (nC t)).flatten)) (b:=fz (nC t)++fz ((az (len-(i+1)) (nC t)).flatten)) (p:=cw) (off:=0);rw[hpl]at this;refine Eq.trans this ?_;rw[tG (by omega),mL (by omega)];simp only[aJ]
       rw[this,g1];simp only[aJ]
      .rw [List.flatMap_append,bk,PR hd];have hz:dW h1 (fz ((az (i-m) (nC t)).flatten))=some (cF ((az (i-m) (nC t)).flatten),[]):=by rw[B8];exact x5 _
       exact(qm hz (qm f1 g2):dW h1 _=some (_,[]++(aA++jds)))
      .rcases ap.1 hj with hj|hj
       .exact ⟨aE _ (f3 j hj).1,(f3 j hj).2⟩
       .exact ⟨aG _ (g3 j hj).1,(g3 j hj).2⟩
      .rcases ap.1 hj with hj|hj
       .exact (f4 j hj).imp (aE _) id
       .exact (g4 j hj).imp (aG _) id
     .simp at hf
    .simp at hf
   .simp at hf
theorem EI{t:Ty}{len sz:Nat}{zl:List Value}{pl:List Nat}{vs:List V}{xs:List TV}
  (hz:Ri t sz len zl pl vs s k=some z)
  (hr:HR s.next h1 s.heap) (hx:mT s.heap vs xs) (hk:∀w∈vs,fg s.next s.heap w) (ha:∀w∈vs,iz s.heap w=true):zR h1 (.buildSlice sz len zl pl) xs s k z:=by
 unfold Ri at hz;obtain⟨h2,hz2⟩:=aP hz;simp only[ai,beq_iff_eq]at h2;obtain⟨⟨rfl,h3⟩,h4⟩:=h2;have h3:=rk h3;subst h3;obtain⟨hd,hs0⟩:=qk h4;clear hz;split at hz2
 .rename_i l a hl;split at hz2
  .rename_i s1 hs1;obtain⟨cs,aA,g1,g2,g3,g4,g5⟩:=FD hr hd pl vs 0 l a [] xs hl (Nat.zero_le _) (by simp) hx hk ha;obtain⟨fu,f1,f2,f3,f4,f5,f6,f7,f8,f9⟩:=Cg (s0:=s) rfl hr a s1 aA aA hs1 g3 g4;refine⟨_,_,_,hz2,fun cl=>⟨.c (.fy (bA t) s.next 0 len),(s.next,some (.aM (bA t) (l.map (aS t))))::fu,aA,s.next+1,?_,?_⟩⟩
   .have hc:mF (bA t) len (l.flatMap (aS t))=l.map (aS t):=by have:=EF (bJ t) l;rwa[show l.length=len by simpa using g5]at this
    simp only[cQ,nv];have g1:nk (fz ((az len (nC t)).flatten)) ((pl.map fun i=>(i*bA t,bA t)).zip xs)=some cs:=by simpa using g1
    rw[g1];simp only[g2,f1,hc]
   .have hr1:HR s1.next (fu++h1) s1.heap:=by rw[f6];exact f2
    have hd1:rg s1 (jG s1 (.ar t (.mk l) 0)) (fu++h1) (.c (.fy (bA t) s.next 0 len)) [(s1.next,some (.aM (bA t) (l.map (aS t))))] aA (s.next+1) (.so s1.next) a:=by refine rg.new hr1 (.inl rfl) (fun _=>⟨hd,hs0,fun l' e=>by cases e;rfl⟩) trivial ?_ (aY _) (fun i hi=>(g3 i hi).1) (by rw[f6];exact au _);have:=wt (h:=s1.heap) (t:=t) (s:=.mk l) (v:=0) (nx:=s1.next);rw[f6]at this|-;simpa[mB,show l.length=len by simpa using g5]using this
    rw[f6]at hd1;exact rg.seq f3 f4 f5 f6 f7 f8 f9 (Gq rfl hs1) hd1
  .simp at hz2
 .simp at hz2
theorem Gz{ka va:Bool}{ks:List Kd}{zl:List Value}{id:Nat}{kv:V}{ya yk:TV}(hr:HR s.next h1 s.heap)(ha1:ge s.heap (.om id) ya)(hx:ge s.heap kv yk)
  (hz:(match fO s.heap id with
  |some (.mp kt vt m)=>(match t7 kt kv with
   |some q=>bif(nA kt==ka)&&(nA vt==va)&&decide (D_ kt=some ks)&&ub (nC vt) zl&&kL vt&&(va||bA vt==1)then
     k (.tp (.co (.x vt (mb m (sA vt) q).2.1) (.co (.x (.i .i64) (mb m (sA vt) q).2.2) .ni))) (eG s id (some (.mp kt vt (mb m (sA vt) q).1))) [id]else none
   |none=>none)
  |_=>none)=some z):zR h1 (.mapEntry ka ks va zl) [ya,yk] s k z:=by
 split at hz
 .rename_i kt vt m ho;split at hz
  .rename_i q hq;obtain⟨hc,hz2⟩:=aP hz;simp only[ai,beq_iff_eq,decide_eq_true_eq]at hc;obtain⟨⟨⟨⟨⟨c1,c2⟩,c3⟩,c4⟩,c5⟩,c6⟩:=hc;rw[E8 ha1];obtain⟨_,_,k3,_⟩:=xR kt ks c3;have hzz:cF zl=aS vt (sA vt):=by rw[rj vt c5,rk c4]
   have hv:∀y,pu va (aS vt y)=some (RJ vt y):=fun y=>G7 y c2 c6;have hkt:=D7 hx hq c3 c1;have e3:=(hr.ob id _ ho).2.1.2.2;rw[<-c2]at c6;have e4:aB h1 id=E1 ka va (vT kt) (aS vt) m:=by rw[<-c1,<-c2];exact e3
   have hos:sE (.mp kt vt m) (.mp kt vt (mb m (sA vt) q).1):=trivial;refine .CV hr ho hos hz2 (fun cl=>SG (z:=sA vt) e4 hkt k3 hzz hv) ⟨c5,⟨ks,c3⟩,by rw[c1,c2];rfl⟩ trivial ?_ ⟨trivial,trivial,trivial⟩ fun i hi=>hi;exact⟨_,rfl,_,_,rfl,Kk c5 c6,_,_,rfl,dY rfl ⟨rfl,rfl⟩,rfl⟩
  .simp at hz
 .simp at hz
theorem MB:∀(l:List D),zB (l.map .d)=some l:=by intro l;induction l with|nil=>rfl|cons d l ih=>simp[zB,ih]
theorem Ek{va:Bool}{m0 id:Nat}{kd:IntKind}{st:Int}{w:V}{ya yw:TV}(hr:HR s.next h1 s.heap)(ha1:ge s.heap (.om id) ya)(hx:ge s.heap w yw)
  (hz:(match fO s.heap id with
  |some (.mp kt vt m)=>(match t7 vt w with
   |some y=>bif(nA vt==va)&&(bA vt==m0)&&kL vt then(vv m st y).bind fun m=>k (.tp .ni) (eG s id (some (.mp kt vt m))) [id]else none
   |none=>none)
  |_=>none)=some z):zR h1 (.entryStore va m0) [ya,tI kd st,yw] s k z:=by
 split at hz
 .rename_i kt vt m ho;split at hz
  .rename_i y hy;obtain⟨hc,hz2⟩:=aP hz;simp only[ai,beq_iff_eq]at hc;obtain⟨⟨rfl,rfl⟩,c3⟩:=hc;obtain⟨m',hm,hz3⟩:=rT hz2;rw[E8 ha1];obtain⟨_,hks,e3⟩:=(hr.ob id _ ho).2.1;obtain⟨g1,g2⟩:=vI hx hy;have hos:sE (.mp kt vt m) (.mp kt vt m'):=trivial;have hcs:(cellsOf yw).bind zB=some (aS vt y)/\xS yw=nA vt:=by cases hag:nA vt with|true=>rw[g1 hag];exact⟨by simp[cellsOf,MB],rfl⟩|false=>obtain⟨d,e,rfl⟩:=g2 hag;exact⟨by simp[cellsOf,zB,e],rfl⟩
   refine .CV hr ho hos hz3 (fun cl=>SF (va:=nA vt) (ek:=vT kt) (ka:=nA kt) hm e3 hcs.1 (bJ vt y) hcs.2) ⟨c3,hks,rfl⟩ trivial CY trivial fun i hi=>hi
  .simp at hz
 .simp at hz
end
section
variable{h:H2}{n:Nat}{h1:bF}{β:Type}{s:S2}{k:V->S2->List Nat->Option β}{z:β}
theorem wA:∀{r:List V}{l:List Int}{xs:List TV},jL r=some l->mT h r xs->∃ks:List IntKind,ks.length=l.length/\xs=(ks.zip l).map fun p=>tI p.1 p.2:=by
 intro r;induction r with
 |nil=>
  intro l xs hl hx;obtain rfl:[]=l:=by simpa[jL]using hl
  exact⟨[],rfl,lX hx⟩
 |cons v r ih=>
  intro l xs hl hx;cases v with
  |x t v=>
   cases t with
   |i q=>
    simp only[jL]at hl;split at hl
    .rename_i l' hl';obtain rfl:=aa hl;obtain⟨x,ys,rfl,h1,h2⟩:=gU hx;obtain⟨ks,h3,rfl⟩:=ih hl' h2;exact⟨q::ks,by simp[h3],by rw[kA h1];rfl⟩
    .simp at hl
   |_=>simp[jL]at hl
  |_=>simp[jL]at hl
theorem LV{r:List V}{xs:List TV}(hl:jL r=some [])(hx:mT h r xs):xs=[]:=by obtain⟨ks,h1,rfl⟩:=wA hl hx;cases ks<;>simp_all
theorem Ca{r:List V}{a:Int}{xs:List TV}(hl:jL r=some [a])(hx:mT h r xs):∃q,xs=[tI q a]:=by obtain⟨ks,h1,rfl⟩:=wA hl hx;cases ks with|nil=>simp at h1|cons q ks=>exact⟨q,by cases ks<;>simp_all⟩
theorem LU{r:List V}{a b:Int}{xs:List TV}(hl:jL r=some [a,b])(hx:mT h r xs):∃q q',xs=[tI q a,tI q' b]:=by
 obtain⟨ks,h1,rfl⟩:=wA hl hx;cases ks with
 |nil=>simp at h1
 |cons q ks=>cases ks with|nil=>simp at h1|cons q' ks=>exact⟨q,q',by cases ks<;>simp_all⟩
theorem BO{x y:ByteArray}{lo hi:Option Int}(hs:z8 x (lo.getD 0) (hi.getD x.size)=some y)(sz:Nat):fV true sz (.d (dS x)) lo hi=some (.d (dS y)):=by
 unfold z8 at hs;split at hs
 .rename_i hb;obtain rfl:=aa hs;simp only[fV,if_true];rw[if_pos hb]
 .simp at hs
theorem C8{x:ByteArray}{r:List V}{lo hi:Bool}{sz:Nat}{y:TV}{ys:List TV}(hr:HR s.next h1 s.heap)(hy:ge s.heap (.x .s x) y)(hys:mT s.heap r ys)
  (hz:(match lo,hi,jL r with
  |false,false,some []=>(z8 x 0 x.size).bind fun y=>k (.x .s y) s []
  |true,false,some [l]=>(z8 x l x.size).bind fun y=>k (.x .s y) s []
  |false,true,some [u]=>(z8 x 0 u).bind fun y=>k (.x .s y) s []
  |true,true,some [l,u]=>(z8 x l u).bind fun y=>k (.x .s y) s []
  |_,_,_=>none)=some z):zR h1 (.slice true sz lo hi) (y::ys) s k z:=by
 rw[w7 hy];split at hz
 .rename_i hi;obtain rfl:=LV hi hys;obtain⟨w,hw,hz2⟩:=rT hz;exact .pure hr hz2 (fun _=>by simp only[aD,aW,cQ];rw[BO (lo:=none) (hi:=none) hw]) (RI w) trivial
 .rename_i l hi;obtain⟨q,rfl⟩:=Ca hi hys;obtain⟨w,hw,hz2⟩:=rT hz;exact .pure hr hz2 (fun _=>by simp only[aD,aW,cQ,cE];rw[BO (lo:=some l) (hi:=none) hw]) (RI w) trivial
 .rename_i l hi;obtain⟨q,rfl⟩:=Ca hi hys;obtain⟨w,hw,hz2⟩:=rT hz;exact .pure hr hz2 (fun _=>by simp only[aD,aW,cQ,cE];rw[BO (lo:=none) (hi:=some l) hw]) (RI w) trivial
 .rename_i l u hi;obtain⟨q,q',rfl⟩:=LU hi hys;obtain⟨w,hw,hz2⟩:=rT hz;exact .pure hr hz2 (fun _=>by simp only[aD,aW,cQ,cE];rw[BO (lo:=some l) (hi:=some u) hw]) (RI w) trivial
 .simp at hz
theorem C9{x:V}{r:List V}{lo hi:Bool}{sz:Nat}{y:TV}{ys:List TV}(hr:HR s.next h1 s.heap)(hy:ge s.heap x y)(hk:fg s.next s.heap x)(ha:iz s.heap x=true)(hys:mT s.heap r ys)
  (hz:(match lo,hi,jL r,F9 s.heap x with
  |false,false,some [],some n=>ug sz s.heap x 0 n fun v=>k v s []
  |true,false,some [l],some n=>ug sz s.heap x l n fun v=>k v s []
  |false,true,some [u],some _=>ug sz s.heap x 0 u fun v=>k v s []
  |true,true,some [l,u],some _=>ug sz s.heap x l u fun v=>k v s []
  |_,_,_,_=>none)=some z):zR h1 (.slice false sz lo hi) (y::ys) s k z:=by
 split at hz
 .rename_i m hi hm;obtain rfl:=LV hi hys;obtain⟨v,c,c',rfl,h3,h4,h5,h6⟩:=Co (lo:=none) (hi:=none) hr hy hk ha hm hz;exact .pure hr h3 (fun _=>by simp only[aD,aW,cQ];rw[h4]) h5 h6
 .rename_i l m hi hm;obtain⟨q,rfl⟩:=Ca hi hys;obtain⟨v,c,c',rfl,h3,h4,h5,h6⟩:=Co (lo:=some l) (hi:=none) hr hy hk ha hm hz;exact .pure hr h3 (fun _=>by simp only[aD,aW,cQ,cE];rw[h4]) h5 h6
 .rename_i u m hi hm;obtain⟨q,rfl⟩:=Ca hi hys;obtain⟨v,c,c',rfl,h3,h4,h5,h6⟩:=Co (lo:=none) (hi:=some u) hr hy hk ha hm hz;exact .pure hr h3 (fun _=>by simp only[aD,aW,cQ,cE];rw[h4]) h5 h6
 .rename_i l u m hi hm;obtain⟨q,q',rfl⟩:=LU hi hys;obtain⟨v,c,c',rfl,h3,h4,h5,h6⟩:=Co (lo:=some l) (hi:=some u) hr hy hk ha hm hz;exact .pure hr h3 (fun _=>by simp only[aD,aW,cQ,cE];rw[h4]) h5 h6
 .simp at hz
theorem NQ{t:Ty}{l:List (Sl (El t))}{m:Nat}(hm:m<l.length):(l.map (oY t))[m]?=some (oY t (gt l m)):=by rw[List.getElem?_map,aw hm];simp[gt,List.getD,aw hm]
theorem KC{α:Type}{l:List α}{m:Nat}{x:α}(h:l[m]?=some x):l.set m x=l:=by obtain⟨hm,rfl⟩:=List.getElem?_eq_some_iff.1 h;exact List.set_getElem_self hm
theorem F7{id m:Nat}{u:Ty}{y:TV}(hr:HR s.next h1 s.heap)(hx:ge s.heap (.ep id m u []) y)(hk:fg s.next s.heap (.ep id m u []))
  (hz:(match fO s.heap id with
  |some (.rw t v none)=>bif decide (u=.sl t)then k (.so s.next) (jG (eG s id (some (.rw t v (some (m,s.next))))) (.ar t (gt v.l m) 0)) [id]else none
  |_=>none)=some z):zR h1 .uj [y] s k z:=by
 split at hz
 .rename_i t v ho;obtain⟨h2,hz2⟩:=aP hz;simp only[decide_eq_true_eq]at h2;subst h2;rw[sH hx,Hr];have hlen:=hk.2.2.2 _ _ _ ho;obtain⟨hid,⟨d1,d2,d3⟩,_⟩:=hr.ob id _ ho;cases v with
  |nil=>simp[Sl.l]at hlen
  |mk l=>
   have d3:=d3 l rfl;have hlen:m<l.length:=hlen;have eQ:jy s.next s.heap ((s.next,some (.ar t (gt l m) 0))::(id,some (.rw t (.mk l) (some (m,s.next))))::s.heap):=jy.trans (au _) (jy.CV (o':=.rw t (.mk l) (some (m,s.next))) ho ⟨rfl,rfl,rfl⟩) (jy.new _)
   have key:∀{x:TV}{u:fF},ge ((s.next,some (.ar t (gt l m) 0))::(id,some (.rw t (.mk l) (some (m,s.next))))::s.heap) (.so s.next) x->(∀p∈u,p.1=s.next\/p.1=id)->
     aB (u++h1) id=some (.nst (bA t) (eX t l (some (m,s.next))))->(∀rr,gt l m=.mk rr->aB (u++h1) s.next=some (.aM (bA t) (rr.map (aS t))))->∀{q:Nat},q<=s.next+1->
     rg s (jG (eG s id (some (.rw t (.mk l) (some (m,s.next))))) (.ar t (gt l m) 0)) h1 x u [id] q (.so s.next) [id]:=by
    intro x u hx2 hu hb hb2 q hq;refine rg.E2 [s.next,id] hr eQ rfl rfl hq (bH _) (fun i hi=>hi) rfl (fun p hp=>?_) (fun i hi=>?_) (fun i hi o ho'=>?_) hx2 (aY _) (fun i hi h=>?_)
    .rcases hu p hp with e|e<;>simp[e]
    .simp only[aN,gj,or_false,not_or]at hi;simp only[jG,eG];rw[da,if_neg (fun e=>hi.1 e.symm),da,if_neg (fun e=>hi.2 e.symm)]
    .simp only[jG,eG]at ho'|-;by_cases hi1:s.next=i
     .subst hi1;rw[da,if_pos rfl]at ho';obtain rfl:=aa ho';exact⟨aY _,⟨d1,d2,fun rr e=>hb2 rr e⟩,trivial⟩
     .rw [da,if_neg hi1]at ho';simp only[aN,gj,or_false]at hi;rcases hi with rfl|rfl
      .exact absurd rfl hi1
      .rw [da,if_pos rfl]at ho';obtain rfl:=aa ho';refine⟨by omega,⟨d1,d2,fun l' e=>by cases e;exact hb⟩,hlen,aY _,fun u' r' v' hf=>?_⟩;simp only[tY]at hf;rcases hf with hf|hf<;>cases hf;exact⟨rfl,rfl⟩
    .simp only[jG,eG];rw[da,if_neg (by omega),da,if_neg (fun e=>by subst e;rw[ho]at h;cases h)];exact h
   have hs:=NQ (t:=t) hlen;refine⟨_,_,_,hz2,fun cl=>?_⟩;cases hg:gt l m with
   |nil=>
    refine⟨_,[],[id],s.next,?_,key (x:=.c (.d (.lit (.slice none 0 0)))) ?_ (fun p hp=>by simp at hp) ?_ (fun rr e=>by rw[hg]at e;cases e) (bH _)⟩
    .simp only[aD,aW,cQ,ig,d3];rw[hg]at hs;simp only[lI,d3,eX,hs,oY];rfl
    .rw [hg];exact wt
    .rw [bl,d3];simp only[eX,hg,IP];rw[KC (by rw[hs,hg];rfl)]
   |mk rr=>
    refine⟨_,[(s.next,some (.aM (bA t) (rr.map (aS t)))),(id,some (.nst (bA t) ((l.map (oY t)).set m (.eg s.next (rr.map (aS t)).length))))],[id],s.next+1,?_,key (x:=.c (.fy (bA t) s.next 0 (rr.map (aS t)).length)) ?_ (fun p hp=>by simp at hp;rcases hp with rfl|rfl<;>simp) ?_ (fun r2 e=>?_) (au _)⟩
    .simp only[aD,aW,cQ,ig,d3];rw[hg]at hs;simp only[lI,d3,eX,hs,oY];rfl
    .rw [hg];exact wt
    .rw [aU,dE,if_neg (by omega),aU,dE,if_pos rfl];simp only[eX,hg,IP,aO]
    .rw [hg]at e;cases e;rw[aU,dE,if_pos rfl]
 .simp at hz
theorem Lo{szi:Nat}{t:Ty}{q q':IntKind}{a b:Int}(hr:HR s.next h1 s.heap)
  (hz:(bif(bA t==szi)&&CM t then(zV (Sl.nil:Sl (El t)) a b).bind fun r=>k (.sr s.next) (jG s (.rw t (.mk r) none)) []else none)=some z):zR h1 (.A3 szi) [tI q a,tI q' b] s k z:=by
 obtain⟨hq,hp2⟩:=aP hz;simp only[ai,beq_iff_eq]at hq;obtain⟨rfl,q2⟩:=hq;obtain⟨hd,hs0⟩:=qk q2;obtain⟨r,hr2,hz3⟩:=rT hp2;unfold zV at hr2;split at hr2
 .rename_i hb;obtain rfl:=aa hr2;refine .new (aA:=[]) hr hz3 (b:=some (.nst (bA t) (az a.toNat .nil))) (x:=.c (.fy 1 s.next 0 a.toNat)) (fun _=>?_) ⟨hd,hs0,fun l' e=>by cases e;simp[eX,oY]⟩ trivial ?_ (aY _) fun i hi=>by simp at hi
  .simp only[aD,aW,cQ,cE];rw[if_pos (by simpa[D1]using hb)]
  .refine ct (dY rfl ⟨_,rfl,fun c' hc'=>?_,?_⟩)
   .rw [tY]at hc';obtain rfl:=aa hc';simp[mB]
   .have:=BR (sz:=1) (id:=s.next) (e:=aS (.sl t)) (s:=.mk (az a.toNat (Sl.nil:Sl (El t))));simpa[mB]using this
 .simp at hr2
theorem FO{o:OP}{vs:List V}{xs:List TV}(hp:part o vs s k=some z)(hr:HR s.next h1 s.heap)(hx:mT s.heap vs xs)(hk:∀w∈vs,fg s.next s.heap w)(ha:∀w∈vs,iz s.heap w=true):zR h1 o.o.k xs s k z:=by
 obtain⟨⟨d,kk,args,g⟩,t,fi⟩:=o;simp only;unfold part at hp;simp only at hp;split at hp
 .--quo
  obtain⟨x,y,rfl,h2,h3⟩:=jj hx;rw[kA h2,kA h3];obtain⟨hq,hp2⟩:=aP hp;simp only[decide_eq_true_eq]at hq;subst hq;obtain⟨r,hr2,hz⟩:=rT hp2;exact .pure hr hz (fun _=>QV hr2) (xi _ _) trivial
 .obtain ⟨x,y,rfl,h2,h3⟩:=jj hx;rw[kA h2,kA h3];obtain⟨hq,hp2⟩:=aP hp;simp only[decide_eq_true_eq]at hq;subst hq;obtain⟨r,hr2,hz⟩:=rT hp2;exact .pure hr hz (fun _=>QU hr2) (xi _ _) trivial
 .obtain ⟨x,y,rfl,h2,h3⟩:=jj hx;rw[kA h2,kA h3];obtain⟨r,hr2,hz⟩:=rT hp;exact .pure hr hz (fun _=>QT hr2) (xi _ _) trivial
 .obtain ⟨x,y,rfl,h2,h3⟩:=jj hx;rw[kA h2,kA h3];obtain⟨r,hr2,hz⟩:=rT hp;exact .pure hr hz (fun _=>QS hr2) (xi _ _) trivial
 .obtain ⟨x,y,rfl,h2,h3⟩:=jj hx;rw[w7 h2,w7 h3];obtain⟨r,hr2,hz⟩:=rT hp;exact .pure hr hz (fun _=>QW hr2) (RI _) trivial
 .--alloc
  rename_i zl;obtain rfl:=lX hx;obtain⟨hq,hp2⟩:=aP hp;simp only[ai]at hq;obtain⟨q1,q2⟩:=hq;have q1:=rk q1;subst q1;refine .new (aA:=[]) hr hp2 (x:=.c (.op s.next 0)) (fun _=>rfl) ⟨_,rfl,?_,q2⟩ ?_ (ct (dY rfl (by cases t<;>rfl))) ⟨aY _,by cases t<;>trivial⟩ fun i hi=>by simp at hi
  .exact ((xY (h:=(s.next,some (.bx t (Pm t)))::s.heap) (n:=s.next+1) t).1 q2).1
  .exact ((xY (h:=(s.next,some (.bx t (Pm t)))::s.heap) (n:=s.next+1) t).1 q2).2
 .--box
  obtain⟨x,rfl,h2⟩:=iS hx;split at hp
  .rename_i w hw;obtain⟨cw,e1,e2⟩:=qK (oX (FZ hw) h2);obtain⟨q1,q2,q3,_⟩:=yO hw e1 (hk _ (by simp));refine .new (aA:=[]) hr hp (x:=.c (.op s.next 0)) (fun _=>by simp only[aD,aW,cQ,e2]) ⟨_,rfl,lJ (jy.new _) q3 q1,q2⟩ (gS (bH _) (jy.new _) q3) (ct (dY rfl (by cases t<;>rfl))) ⟨aY _,by cases t<;>trivial⟩ fun i hi=>by simp at hi
  .simp at hp
 .exact EI hp hr hx hk ha
 .--store
  obtain⟨x,y,rfl,h2,h3⟩:=jj hx;exact C3 hr h2 (hk _ (by simp)) h3 (hk _ (by simp)) hp
 .--uj
  obtain⟨x,rfl,h2⟩:=iS hx;exact F7 hr h2 (hk _ (by simp)) hp
 .--A3
  obtain⟨x,y,rfl,h2,h3⟩:=jj hx;rw[kA h2,kA h3];split at hp
  .exact Lo hr hp
  .simp at hp
 .obtain ⟨x,y,rfl,h2,h3⟩:=jj hx;exact C4 hr h2 (hk _ (by simp)) h3 (hk _ (by simp)) (ha _ (by simp)) hp
 .--makeSlice
  rename_i zl _ l _ c;obtain⟨x,y,rfl,h2,h3⟩:=jj hx;rw[kA h2,kA h3];obtain⟨hq,hp2⟩:=aP hp;simp only[ai]at hq;obtain⟨q1,q2⟩:=hq;have q1:=rk q1;subst q1;obtain⟨hd,hs0⟩:=qk q2;obtain⟨r,hr2,hz⟩:=rT hp2;have hzl:cF (nC t)=aS t (sA t):=(rj t hd).symm;have hlen:(nC t).length=bA t:=by have:=congrArg mR hzl;rwa[bJ,cF,aO]at this
  refine .new hr hz (fun _=>OK hzl hr2) ⟨hd,hs0,fun l' e=>by cases e;rw[hlen]⟩ trivial ?_ (aY _) fun i hi=>by simp at hi
  rw[hlen];exact wt (s:=.mk r)
 .--slice of a string
  obtain⟨y,ys,rfl,h2,h3⟩:=gU hx;exact C8 hr h2 h3 hp
 .obtain ⟨y,ys,rfl,h2,h3⟩:=gU hx;exact C9 hr h2 (hk _ (by simp)) (ha _ (by simp)) h3 hp
 .obtain ⟨x,y,rfl,h2,h3⟩:=jj hx;rw[kA h3];exact LO hp hr h2 (hk _ (by simp)) (ha _ (by simp))
 .obtain ⟨x,y,rfl,h2,h3⟩:=jj hx;rw[kA h3];exact LN hp hr h2 (hk _ (by simp))
 .--pI
  obtain⟨x,y,rfl,h2,h3⟩:=jj hx;rw[w7 h2,kA h3];obtain⟨r,hr2,hz⟩:=rT hp;exact .pure hr hz (fun _=>SD hr2) (xi _ _) trivial
 .--index
  rename_i ag n0 sz0 n' u v _ i;obtain⟨x,y,rfl,h2,h3⟩:=jj hx;rw[kA h3];obtain⟨hq,hp2⟩:=aP hp;simp only[ai,beq_iff_eq]at hq;obtain⟨⟨⟨⟨rfl,rfl⟩,q3⟩,q4⟩,q5⟩:=hq;obtain⟨m,hm,hz⟩:=rT hp2;obtain⟨rfl,hm2⟩:=gB.1 hm;rw[U4 h2];obtain⟨a1,a2⟩:=EN v hm2;have hc:GN s.heap ag (bA u) (.x u (gt v.1 m))=true:=by simp[GN,tC,yh,iz,q3,q4,q5]
  obtain⟨x,e1,e2⟩:=pG (cs:=(aS (.ar n' u) v).map .d) (off:=m*bA u) (cw:=(aS u (gt v.1 m)).map .d) hc ⟨q4,rfl⟩ (by simpa using a1) (by rw[<-gz,<-h_,a2]);refine .pure hr hz (x:=x) (fun _=>?_) e2 trivial;simp only[aD,aW,cQ,cE];rw[if_pos ⟨by omega,by omega⟩];simp only[eA,e1]
 .--append
  obtain⟨x,y,rfl,h2,h3⟩:=jj hx;exact EP (t0:=t) hp hr h2 (hk _ (by simp)) (ha _ (by simp)) h3 (hk _ (by simp)) (ha _ (by simp))
 .obtain ⟨x,y,rfl,h2,h3⟩:=jj hx;exact JK (t0:=t) hp hr h2 (hk _ (by simp)) (ha _ (by simp)) h3 (hk _ (by simp)) (ha _ (by simp))
 .--clear
  obtain⟨y,rfl,h2⟩:=iS hx;exact GL hp hr h2 (hk _ (by simp)) (ha _ (by simp))
 .--makeMap
  obtain rfl:=lX hx;split at hp
  .rename_i kt vt;obtain⟨hq,hp2⟩:=aP hp;simp only[ai,beq_iff_eq]at hq;obtain⟨⟨⟨rfl,rfl⟩,q3⟩,q4⟩:=hq;obtain⟨ks,hks⟩:=Option.isSome_iff_exists.1 q4;exact .new hr hp2 (x:=.c (.om s.next)) (fun _=>rfl) ⟨q3,⟨ks,hks⟩,rfl⟩ trivial (ct (dY rfl rfl)) (aY _) fun i hi=>by simp at hi
  .simp at hp
 .obtain ⟨x,y,rfl,h2,h3⟩:=jj hx;exact Gz hr h2 h3 hp
 .obtain ⟨x,y,w,rfl,h2,h3,h4⟩:=P4 hx;rw[kA h3];exact Ek hr h2 h4 hp
 .simp at hp
end
end Go.Ev
