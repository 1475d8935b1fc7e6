/- Operations that do not fail, against the abstract machine's, second part. Conditions: as stated. -/
import Derived.Test.YthcplpfiidlinaaDoorFh
open Bool renaming and_eq_true->ai,and_eq_true_iff->c_,eq_iff_iff->cW
open Int renaming toNat_natCast->mw
open List renaming append_assoc->aJ,cons_append->aT,drop_drop->dz,flatMap_cons->bl,flatten_cons->dR,getElem?_eq_getElem->aD,length_append->aF,length_cons->ce,length_eq_zero_iff->bk,length_map->aQ,map->lw,map_append->gu,map_cons->aA,map_drop->fV,map_map->kZ,map_nil->aV,map_take->gH,mem_append->ao,mem_append_left->aC,mem_append_right->aG,mem_cons->aK,mem_cons_of_mem->aB,mem_cons_self->cV,mem_singleton->aq,nil_append->bp,not_mem_nil->iu,replicate->av,replicate_succ->g_,singleton_append->aY
open List.cons renaming injEq->du
open Nat renaming add_assoc->cR,add_mul->bQ,le_of_ble_eq_true->iK,le_refl->au,le_succ->bH,lt_succ_self->aX
open Option.some renaming inj->aa,injEq->bq
open Prod.mk renaming inj->ad
open Sigma.mk renaming inj->iY
namespace Go.Ev
section
variable{h:H2}{n:Nat}{h1:bE}
theorem M3{a b:Value}(he:PP a b=true):a=b:=by unfold PP at he;split at he<;>simp_all
theorem qu:∀{a b:List Value},sI a b=true->a=b:=by
 intro a;induction a with
 |nil=>intro b he;cases b<;>first|rfl|(simp[sI]at he)
 |cons x a ih=>intro b he;cases b with|nil=>simp[sI]at he|cons y b=>simp only[sI,ai]at he;rw[M3 he.1,ih he.2]
theorem rJ(a b:List Value):e9 (a++b)=e9 a++e9 b:=by simp[e9]
theorem qt:∀(t:Ty),kf t=true->aS t (rq t)=c9 (mA t):=by
 intro t;induction t with
 |pr a c iha ihc=>intro hd;simp only[kf,ai]at hd;simp[aS,rq,mA,c9,iha hd.1,ihc hd.2]
 |st t ih=>intro hd;exact ih hd
 |ar m t ih=>intro hd;have e:=ih hd;simp only[aS,rq,mA];clear hd ih;induction m with|zero=>rfl|succ m ihm=>simp only[g_,bl,dR,e,c9,gu]at ihm|-;rw[ihm]
 |o k=>intro hd;simp[kf]at hd
 |mp k v=>intro hd;simp[kf]at hd
 |_=>intro _;rfl
theorem wK:∀(t:Ty),(ei (Ac t).1 false t=true->eU h (Ac t).1 (e9 (mA t))/\eS n h (Ac t).1)/\(ei (Ac t).2 true t=true->eU h (Ac t).2 (e9 (mA t))/\eS n h (Ac t).2):=by
 have one:∀(t:Ty)(v:V),(eU h v (e9 (mA t))/\eS n h v)->(eU h (.co v .ni) (e9 (mA t))/\eS n h (.co v .ni)):=fun t v hv=>⟨⟨_,[],by simp,hv.1,rfl⟩,hv.2,trivial⟩;have dt:∀(t:Ty),kf t=true->eU h (.x t (rq t)) (e9 (mA t)):=fun t hd=>⟨hd,by rw[qt t hd];simp[e9,c9]⟩;intro t;induction t with
 |pr a c iha ihc=>refine⟨fun hf=>by simp[Ac,ei]at hf,fun hf=>?_⟩;simp only[Ac,ei,ai]at hf;obtain⟨q1,q3⟩:=iha.1 hf.1;obtain⟨q4,q5⟩:=ihc.2 hf.2;exact⟨⟨_,_,rJ _ _,q1,q4⟩,q3,q5⟩
 |st t ih=>cases hd:kf t with|true=>have:=dt (.st t) hd;simp only[Ac,hd,cond_true];exact⟨fun _=>⟨this,trivial⟩,fun _=>one (.st t) _ ⟨this,trivial⟩⟩|false=>simp only[Ac,hd,cond_false];exact⟨fun hf=>ih.2 hf,fun hf=>one (.st t) _ (ih.2 hf)⟩
 |sl t ih=>cases hd:kf t with|true=>have:=dt (.sl t) hd;simp only[Ac,hd,cond_true];exact⟨fun _=>⟨this,trivial⟩,fun _=>one (.sl t) _ ⟨this,trivial⟩⟩|false=>simp only[Ac,hd,cond_false];exact⟨fun _=>⟨rfl,trivial⟩,fun _=>one (.sl t) _ ⟨rfl,trivial⟩⟩
 |ar m t ih=>cases hd:kf t with|true=>have:=dt (.ar m t) hd;simp only[Ac,hd,cond_true];exact⟨fun _=>⟨this,trivial⟩,fun _=>one (.ar m t) _ ⟨this,trivial⟩⟩|false=>simp only[Ac,hd,cond_false];exact⟨fun hf=>by simp[ei]at hf,fun hf=>by simp[ei]at hf⟩
 |o k=>
  have:eU h (.nl k) (e9 (mA (.o k))):=by
   show e9 (mA (.o k))=[Ce k]
   rcases k with _|_|_|_|k<;>rfl
  exact⟨fun _=>⟨this,trivial⟩,fun _=>one (.o k) _ ⟨this,trivial⟩⟩
 |mp k v=>exact⟨fun _=>⟨rfl,trivial⟩,fun _=>one (.mp k v) _ ⟨rfl,trivial⟩⟩
 |un=>exact⟨fun _=>⟨dt .un rfl,trivial⟩,fun _=>one .un _ ⟨dt .un rfl,trivial⟩⟩
 |i k=>exact⟨fun _=>⟨dt (.i k) rfl,trivial⟩,fun _=>one (.i k) _ ⟨dt (.i k) rfl,trivial⟩⟩
 |b=>exact⟨fun _=>⟨dt .b rfl,trivial⟩,fun _=>one .b _ ⟨dt .b rfl,trivial⟩⟩
 |s=>exact⟨fun _=>⟨dt .s rfl,trivial⟩,fun _=>one .s _ ⟨dt .s rfl,trivial⟩⟩
 |f k=>exact⟨fun _=>⟨dt (.f k) rfl,trivial⟩,fun _=>one (.f k) _ ⟨dt (.f k) rfl,trivial⟩⟩
theorem xz{t:Ty}{v w:V}{cs:List C}(hw:KF t v=some w)(hv:eU h v cs)(hk:eS n h v):eU h w cs/\ei w false t=true/\eS n h w/\rZ w=rZ v:=by
 unfold KF at hw;split at hw
 .rename_i y hy;obtain rfl:=aa hw;cases hd:kf t with|false=>rw[hd]at hy;simp at hy|true=>rw[hd,cond_true]at hy;exact⟨⟨hd,o5 hy hv⟩,by simp[ei],trivial,(CY hy).symm⟩
 .cases hf:ei v false t with|false=>rw[hf]at hw;simp at hw|true=>rw[hf,cond_true]at hw;obtain rfl:=aa hw;exact⟨hv,hf,hk,rfl⟩
theorem Kf{t:Ty}{v:V}{y:El t}(hy:gO t v=some y):Lj v:=by cases v<;>first|trivial|(simp[gO]at hy)
theorem LQ{t:Ty}{v:V}(hf:ei v false t=true):Lj v:=by cases v<;>first|trivial|(cases t<;>simp[ei]at hf)
theorem D8{t:Ty}{v w:V}(hw:KF t v=some w):Lj v:=by
 unfold KF at hw;split at hw
 .rename_i y hy;cases hd:kf t with|false=>rw[hd]at hy;simp at hy|true=>rw[hd,cond_true]at hy;exact Kf hy
 .cases hf:ei v false t with|false=>rw[hf]at hw;simp at hw|true=>exact LQ hf
theorem NW{t:Ty}{v:V}(hf:ei v false t=true)(ha:mx t=true):rZ v=true:=by
 cases t<;>simp[mx]at ha
 all_goals(cases v<;>first|rfl|(simp[ei]at hf;done)|skip)
 .simp only[ei,decide_eq_true_eq]at hf;subst hf;rfl
 .simp only[ei,decide_eq_true_eq]at hf;subst hf;rfl
theorem Kj{t:Ty}:∀(is:List Nat)(ps:List (Nat×Nat))(ws:List V)(c c':V)(cs:List C)(xs:List TV),wu t is ps ws c=some c'->ei c false t=true->eU h c cs->eS n h c->lT h ws xs->(∀w∈ws,eS n h w)->
  ∃cs',me cs (ps.zip xs)=some cs'/\eU h c' cs'/\eS n h c'/\ei c' false t=true:=by
 intro is;induction is with
 |nil=>
  intro ps ws c c' cs xs hb hf hc hk hx hw;cases ps with
  |cons p ps=>simp[wu]at hb
  |nil=>cases ws with|cons w ws=>simp[wu]at hb|nil=>obtain rfl:=aa hb;exact⟨cs,by simp[me],hc,hk,hf⟩
 |cons i is ih=>
  intro ps ws c c' cs xs hb hf hc hk hx hw;cases ps with
  |nil=>simp[wu]at hb
  |cons p ps=>
   obtain⟨off,m⟩:=p;cases ws with
   |nil=>simp[wu]at hb
   |cons w ws=>
    obtain⟨x,ys,rfl,hx1,hx2⟩:=gx hx;have hw1:=hw w (by simp)
    have jK:∀(pe:Pe)(a:Ty),qr t [pe]=some a->GM t [pe]->lX t [pe]=off->bR a=m->(match KF a w with|some w=>(match nD c [pe] w with|some c=>bif ei c false t then wu t is ps ws c else none|none=>none)|none=>none)=some c'->
      ∃cs',me cs (((off,m),x)::ps.zip ys)=some cs'/\eU h c' cs'/\eS n h c'/\ei c' false t=true:=by
     intro pe a h1 h2 h3 h4 hb;split at hb
     .rename_i w1 hw1';obtain⟨cw,q1,q2⟩:=pZ (nU (D8 hw1') hx1);split at hb
      .rename_i c1 hc1;cases hfc:ei c1 false t with|false=>rw[hfc]at hb;simp at hb|true=>rw[hfc,cond_true]at hb;obtain⟨k1,k2,k3,_⟩:=xz hw1' q1 hw1;have hl:=gZ k1;rw[gz _ _ _ k2,h4]at hl;have hsp:=u6 [pe] c t w1 c1 cs cw a hf hc h2 hc1 h1 k1 (by rw[hl,h4]);rw[h3]at hsp;have hle:=vh [pe] t a h1 h2;have hcl:=gZ hc;rw[gz _ _ _ hf]at hcl;obtain⟨cs',e1,e2,e3,e4⟩:=ih ps ws c1 c' _ ys hb hfc hsp (Fe _ _ _ _ hk k3 hc1) hx2 fun w hw'=>hw w (by simp[hw']);refine⟨cs',?_,e2,e3,e4⟩;simp only[me,q2];rw[if_pos ⟨hl,by omega⟩,e1]
      .simp at hb
     .simp at hb
    cases t with
    |st u=>
     simp only[wu]at hb;split at hb
     .rename_i a ha;cases hq:(nZ u i==off)&&(bR a==m)with|false=>rw[hq]at hb;simp at hb|true=>rw[hq,cond_true]at hb;simp only[ai,beq_iff_eq]at hq;exact jK (.fd i) a (by simp[qr,ha]) ⟨a,ha,by cases a<;>trivial⟩ (by simp only[lX,ha];rw[hq.1];cases a<;>rfl) hq.2 hb
     .simp at hb
    |ar k u=>simp only[wu]at hb;cases hq:(i*bR u==off)&&(bR u==m)&&decide (i<k)with|false=>rw[hq]at hb;simp at hb|true=>rw[hq,cond_true]at hb;simp only[ai,beq_iff_eq,decide_eq_true_eq]at hq;exact jK (.ix i) u (by simp[qr]) ⟨hq.2,by cases u<;>trivial⟩ (by simp only[lX];rw[hq.1.1];cases u<;>rfl) hq.1.2 hb
    |_=>simp[wu]at hb
end
theorem Oo(a b:ByteArray):(a==b)=decide (a=b):=by obtain⟨x⟩:=a;obtain⟨y⟩:=b;show ByteArray.beq ⟨x⟩ ⟨y⟩=_;unfold ByteArray.beq;rw[cW];simp[ByteArray.ext_iff]
def uR(t:Ty)(x:El t):List Value:=(aS t x).map fun|.lit y=>y|_=>.nilFunc
theorem v7{k1 k2:List Kd}{a1 a2 b1 b2:List Value}{p q:Bool}(h1:gk k1 a1 b1=some p)(h2:gk k2 a2 b2=some q):gk (k1++k2) (a1++a2) (b1++b2)=some (p&&q):=by
 induction k1 generalizing a1 b1 p with
 |nil=>cases a1<;>cases b1<;>simp[gk]at h1;subst h1;simpa using h2
 |cons k k1 ih=>
  cases a1<;>cases b1<;>simp only[gk]at h1<;>first|cases h1;done|skip
  split at h1
  .rename_i c d hc hd;obtain rfl:=aa h1;simp only[aT,gk,hc,ih hd,Bool.and_assoc]
  .simp at h1
theorem xP{k1 k2:List Kd}{a1 a2:List Value}(h1:yB k1 a1=true)(h2:yB k2 a2=true):yB (k1++k2) (a1++a2)=true:=by
 induction k1 generalizing a1 with
 |nil=>cases a1<;>simp[yB]at h1;simpa using h2
 |cons k k1 ih=>
  cases a1<;>simp only[yB]at h1<;>first|cases h1;done|skip
  simp only[ai]at h1;simp[yB,h1.1,ih h1.2]
theorem wE:∀(t:Ty)(ks:List Kd),Cu t=some ks->(∀x,aS t x=(uR t x).map .lit)/\(∀x,yB ks (uR t x)=true)/\(∀a b:El t,gk ks (uR t a) (uR t b)=some (decide (a=b)))/\ks.length=bR t:=by
 intro t;induction t with
 |pr a c iha ihc=>
  intro ks hk;simp only[Cu]at hk;split at hk
  .rename_i x y hx hy;obtain rfl:=aa hk;obtain⟨a1,a2,a3,a4⟩:=iha x hx;obtain⟨c1,c2,c3,c4⟩:=ihc y hy;have e:∀v:El (.pr a c),uR (.pr a c) v=uR a v.1++uR c v.2:=fun v=>by simp[uR,aS]
   refine⟨fun v=>by rw[e,gu,<-a1,<-c1];rfl,fun v=>by rw[e];exact xP (a2 _) (c2 _),fun u v=>?_,by simp[bR,a4,c4]⟩;rw[e,e,v7 (a3 _ _) (c3 _ _)];congr 1;rw[cW];simp[Prod.ext_iff]
  .simp at hk
 |st t ih=>intro ks hk;exact ih ks hk
 |ar m t ih=>
  intro ks hk;simp only[Cu]at hk;split at hk
  .rename_i x hx;obtain rfl:=aa hk;obtain⟨a1,a2,a3,a4⟩:=ih x hx;have e:∀v:El (.ar m t),uR (.ar m t) v=v.1.flatMap (uR t):=fun v=>by simp only[uR,aS,List.map_flatMap];rfl
   refine⟨fun v=>?_,fun v=>?_,fun u v=>?_,?_⟩
   .rw [e];simp only[aS,List.map_flatMap];congr 1;funext y;exact a1 y
   .rw [e];obtain⟨l,hl⟩:=v;clear e hk ih;simp only;induction l generalizing m with|nil=>subst hl;rfl|cons y l ihl=>subst hl;simp only[ce,g_,dR,bl];exact xP (a2 y) (ihl _ rfl)
   .rw [e,e];obtain⟨l,hl⟩:=u;obtain⟨r,hr⟩:=v
    have key:∀(m:Nat)(l r:List (El t)),l.length=m->r.length=m->gk (av m x).flatten (l.flatMap (uR t)) (r.flatMap (uR t))=some (decide (l=r)):=by
     intro m;induction m with
     |zero=>intro l r h1 h2;obtain rfl:=bk.1 h1;obtain rfl:=bk.1 h2;rfl
     |succ m ihm=>
      intro l r h1 h2;cases l with
      |nil=>simp at h1
      |cons y l=>cases r with|nil=>simp at h2|cons z r=>simp only[g_,dR,bl];rw[v7 (a3 y z) (ihm l r (by simpa using h1) (by simpa using h2))];congr 1;rw[cW];simp
    rw[key m l r hl hr];congr 1;rw[cW];simp only[decide_eq_true_eq];exact⟨fun h=>Subtype.ext h,fun h=>congrArg Subtype.val h⟩
   .simp [bR,a4]
  .simp at hk
 |i k=>intro ks hk;obtain rfl:=aa hk;refine⟨fun _=>rfl,fun x=>by simp[uR,aS,yB,Jk],fun a b=>?_,rfl⟩;simp only[uR,aS,aA,aV,gk,Dj,and_self,if_true,Bool.and_true];congr 1
 |b=>intro ks hk;obtain rfl:=aa hk;refine⟨fun _=>rfl,fun x=>by simp[uR,aS,yB,Jk],fun a b=>?_,rfl⟩;simp only[uR,aS,aA,aV,gk,Dj,Bool.and_true];congr 1
 |s=>intro ks hk;obtain rfl:=aa hk;refine⟨fun _=>rfl,fun x=>by simp[uR,aS,yB,Jk],fun a b=>?_,rfl⟩;simp only[uR,aS,aA,aV,gk,Dj,Bool.and_true];rw[Oo]
 |_=>intro ks hk;simp[Cu]at hk
section
variable{h:H2}{n:Nat}{h1:bE}
theorem HH{z:Bool}{op:BinOp}{k k':IntKind}{a b:Int}{v:V}(hb:On z op k k' a b=some v)(hz:z=true->0<b):∃y,rp op (.int k a) (.int k' b)=some y/\fL h v (lv y)/\eS n h v:=by
 have one:∀(q:IntKind)(c:Int),fL h (.x (.i q) c) (lv (.int q c)):=fun q c=>cf (dJ rfl ⟨rfl,rfl⟩);have onb:∀(c:Bool),fL h (.x .b c) (lv (.bool c)):=fun c=>cf (dJ rfl ⟨rfl,rfl⟩);cases op<;>simp only[On]at hb
 all_goals first
  |(cases z<;>simp only[cond_true,cond_false]at hb<;>first|(cases hb;done)|skip
    have:=hz rfl;obtain rfl:=aa hb;refine⟨_,by simp only[rp];rw[if_neg (by omega)];rfl,one _ _,trivial⟩)
  |skip
 all_goals
  by_cases hk:k=k'
  .subst hk;simp only[decide_true,cond_true]at hb
   first
    |(cases hb;done)
    |(obtain rfl:=aa hb
      refine⟨_,by simp only[rp,if_true];rfl,?_,trivial⟩
      first|exact one _ _|exact onb _)
    |(obtain rfl:=aa hb
      first
       |exact⟨.int k (HK k a b),by simp only[rp,if_true,wJ];rfl,one _ _,trivial⟩
       |exact⟨.int k (OQ k a b),by simp only[rp,if_true,A2];rfl,one _ _,trivial⟩
       |exact⟨.int k (Oq k a b),by simp only[rp,if_true,Ma];rfl,one _ _,trivial⟩
       |exact⟨.int k (qY k a b),by simp only[rp,if_true,tX];rfl,one _ _,trivial⟩)
    |(cases z<;>simp only[cond_true,cond_false]at hb<;>first|(cases hb;done)|skip
      have:=hz rfl;obtain rfl:=aa hb;refine⟨_,by simp only[rp,if_true];rw[if_neg (by omega)],one _ _,trivial⟩)
  .simp [hk]at hb
theorem HG{op:BinOp}{a b:ByteArray}{v:V}(hb:Om op a b=some v):∃y,rp op (.string a) (.string b)=some y/\fL h v (lv y)/\eS n h v:=by
 have onb:∀(c:Bool),fL h (.x .b c) (lv (.bool c)):=fun c=>cf (dJ rfl ⟨rfl,rfl⟩);cases op<;>simp only[Om]at hb<;>first|(cases hb;done)|skip
 all_goals(obtain rfl:=aa hb;exact⟨_,rfl,onb _,trivial⟩)
theorem IX{m:Bool}{k:IntKind}:∀{r:List V}{x y:Int}{xs:List TV},OM m k x r=some y->lT h r xs->MD m (.int k x) (xs.map some)=some (.int k y):=by
 intro r;induction r with
 |nil=>intro x y xs hm hx;obtain rfl:=lf hx;obtain rfl:=aa hm;rfl
 |cons v r ih=>
  intro x y xs hm hx;obtain⟨x1,ys,rfl,h1,h2⟩:=gx hx;cases v with
  |x t c=>
   cases t with
   |i k'=>
    simp only[OM]at hm;by_cases hk:k'=k
    .subst hk;simp only[decide_true,cond_true]at hm;obtain rfl:=jY h1;have:=ih hm h2;cases m<;>simpa[MD,PL]using this
    .simp [hk]at hm
   |_=>simp[OM]at hm
  |_=>simp[OM]at hm
theorem mm{α:Type}:∀(l:List α),er (l.map some)=some l:=by intro l;induction l with|nil=>rfl|cons a l ih=>simp[er,ih]
theorem IP{kind:Nat}{v w:V}{x:TV}{neg:Bool}{c:Call}{nx:Nat}(hx:fL h v x)(ha:gW h v=true)(hn:xC h kind v=some w):
  ∃y,cA c (.qk kind neg) [some x] h1 nx=some (y,[],[],nx)/\fL h (bif neg then IR w else w) y/\eS n h (bif neg then IR w else w):=by
 have kb:∀b,fL h (.kb b) (tB b):=fun b=>cf (dJ rfl rfl);have xb:∀b,fL h (.x .b b) (tB b):=fun b=>cf (dJ rfl ⟨rfl,rfl⟩)
 have sl:∀q,sJ h v=some q->(bif kind==0 then(match sJ h v with|some ⟨_,s,_⟩=>some (.x .b s.fC)|none=>none)else none)=some w->
   ∃y,cA c (.qk kind neg) [some x] h1 nx=some (y,[],[],nx)/\fL h (bif neg then IR w else w) y/\eS n h (bif neg then IR w else w):=by
  intro q hq hw;cases hkk:kind==0 with
  |false=>rw[hkk]at hw;simp at hw
  |true=>
   obtain rfl:kind=0:=by simpa using hkk
   rw[hq]at hw;simp only[hkk,cond_true]at hw;obtain rfl:=aa hw;refine⟨_,ND hx ha hq,?_⟩;cases neg
   .exact ⟨xb _,trivial⟩
   .exact ⟨xb _,trivial⟩
 cases v with
 |nl k=>
  simp only[xC]at hn;cases hkk:(k==kind)&&Nat.blt k 3 with
  |false=>rw[hkk]at hn;simp at hn
  |true=>
   rw[hkk,cond_true]at hn;obtain rfl:=aa hn;simp only[ai,beq_iff_eq]at hkk;obtain⟨rfl,hlt⟩:=hkk;have hlt:k<3:=iK hlt;rw[uX hx]
   match k,hlt with|0,_=>cases neg<;>exact⟨_,rfl,kb _,trivial⟩|1,_=>cases neg<;>exact⟨_,rfl,kb _,trivial⟩|2,_=>cases neg<;>exact⟨_,rfl,kb _,trivial⟩
 |pt t v=>
  simp only[xC]at hn;cases hkk:kind==1 with
  |false=>rw[hkk]at hn;simp at hn
  |true=>
   rw[hkk,cond_true]at hn;obtain rfl:=aa hn;obtain rfl:kind=1:=by simpa using hkk
   rw[(wQ hx).2];cases neg<;>exact⟨_,rfl,kb _,trivial⟩
 |op id t p=>
  simp only[xC]at hn;cases hkk:kind==1 with
  |false=>rw[hkk]at hn;simp at hn
  |true=>
   rw[hkk,cond_true]at hn;obtain rfl:=aa hn;obtain rfl:kind=1:=by simpa using hkk
   rw[uW hx];cases neg<;>exact⟨_,rfl,kb _,trivial⟩
 |ep id m t p=>
  simp only[xC]at hn;cases hkk:kind==1 with
  |false=>rw[hkk]at hn;simp at hn
  |true=>
   rw[hkk,cond_true]at hn;obtain rfl:=aa hn;obtain rfl:kind=1:=by simpa using hkk
   rw[rA hx];cases neg<;>exact⟨_,rfl,kb _,trivial⟩
 |fn z f l=>
  simp only[xC]at hn;cases hkk:kind==2 with
  |false=>rw[hkk]at hn;simp at hn
  |true=>
   rw[hkk,cond_true]at hn;obtain rfl:=aa hn;obtain rfl:kind=2:=by simpa using hkk
   rcases Dp hx with⟨_,ds,_,rfl⟩|⟨_,cs,_,rfl⟩<;>(cases neg<;>exact⟨_,rfl,kb _,trivial⟩)
 |x t v=>cases hq:sJ h (.x t v)with|none=>simp[xC,hq]at hn|some q=>exact sl q hq hn
 |so id=>cases hq:sJ h (.so id)with|none=>simp[xC,hq]at hn|some q=>exact sl q hq hn
 |sb id ver lo t r=>cases hq:sJ h (.sb id ver lo t r)with|none=>simp[xC,hq]at hn|some q=>exact sl q hq hn
 |_=>simp[xC,sJ]at hn
theorem JS{off m i:Nat}{v w:V}{x:TV}{c:Call}{nx:Nat}(hx:fL h v x)(hk:eS n h v)(hw:ED off m i v=some w):
  ∃y,cA c (.fieldAddr off m) [some x] h1 nx=some (y,[],[],nx)/\fL h w y/\eS n h w:=by
 have Lk:∀(t u a:Ty)(p:pj),qr t p=some (.st u)->Bg u i=some a->GM t p->GM t (p++[.fd i])/\lX t (p++[.fd i])=lX t p+nZ u i:=by
  intro t u a p;induction p generalizing t with
  |nil=>
   intro h1 h2 _;have e:qr t []=some t:=by cases t<;>rfl
   obtain rfl:t=.st u:=by rw[e]at h1;exact aa h1
   refine⟨⟨a,h2,by cases a<;>trivial⟩,?_⟩;simp only[bp,lX,h2];cases a<;>simp[lX]
  |cons q p ih=>
   intro h1 h2 h3;cases q with
   |fd j=>cases t with|st t=>obtain⟨b2,hb,h3⟩:=h3;simp only[qr,hb]at h1;obtain⟨q1,q2⟩:=ih b2 h1 h2 h3;refine⟨⟨b2,hb,q1⟩,?_⟩;simp only[aT,lX,hb,q2];exact(cR _ _ _).symm|_=>exact h3.elim
   |ix k=>cases t with|ar l t=>obtain⟨hk,h3⟩:=h3;obtain⟨q1,q2⟩:=ih t h1 h2 h3;refine⟨⟨hk,q1⟩,?_⟩;simp only[aT,lX,q2];exact(cR _ _ _).symm|_=>exact h3.elim
 cases v with
 |op id t p=>
  simp only[ED]at hw;split at hw
  .rename_i u hu;split at hw
   .rename_i a hf;cases hq:(nZ u i==off)&&(bR a==m)with
    |false=>rw[hq]at hw;simp at hw
    |true=>
     rw[hq,cond_true]at hw;obtain rfl:=aa hw;simp only[ai,beq_iff_eq]at hq;obtain⟨q1,q2⟩:=Lk t u a p hu hf hk.2;rw[uW hx];refine⟨_,rfl,cf (dJ rfl ?_),hk.1,q1⟩;show[_]=[_]
     rw[q2,hq.1]
   .simp at hw
  .simp at hw
 |ep id k t p=>
  simp only[ED]at hw;split at hw
  .rename_i u hu;split at hw
   .rename_i a hf;cases hq:(nZ u i==off)&&(bR a==m)with
    |false=>rw[hq]at hw;simp at hw
    |true=>
     rw[hq,cond_true]at hw;obtain rfl:=aa hw;simp only[ai,beq_iff_eq]at hq;obtain⟨q1,q2⟩:=Lk t u a p hu hf hk.2.1;rw[rA hx];refine⟨_,rfl,cf (dJ rfl ?_),hk.1,q1,hk.2.2⟩;show[_]=[_]
     rw[q2,hq.1]
   .simp at hw
  .simp at hw
 |pt t v=>
  cases t with
  |st u=>
   simp only[ED]at hw;split at hw
   .rename_i a y hy;cases hq:(nZ u i==off)&&(bR a==m)with
    |false=>rw[hq]at hw;simp at hw
    |true=>
     rw[hq,cond_true]at hw;obtain rfl:=aa hw;simp only[ai,beq_iff_eq]at hq;obtain⟨a',y',e,f1,f2,f3⟩:=qh _ _ _ _ hy;cases e;obtain⟨hd,rfl⟩:=wQ hx;refine⟨_,?_,cf (dJ (c:=.d (.pt (aS a y))) rfl ⟨yf u _ _ hd f1,rfl⟩),trivial⟩;have hle:off+m<=(aS (.st u) v).length:=by rw[bK];show _<=bR u;omega
     have e2:((aS (.st u) v).drop off).take m=aS a y:=by rw[<-hq.1,<-hq.2];exact f3
     simp only[cA,jM];rw[if_pos hle,e2]
   .simp at hw
  |_=>simp[ED]at hw
 |_=>simp[ED]at hw
theorem GO:∀(l:V)(i:Nat)(w:V)(cs:List C),eU h l cs->rk l i=some w->∃cw,eU h w cw/\LN l i+wU w<=cs.length/\(cs.drop (LN l i)).take (wU w)=cw:=by
 intro l;induction l with
 |co a r iha ihr=>intro i w cs hv hw;obtain⟨x,y,rfl,k1,k2⟩:=hv;have hl:=gZ k1;cases i with|zero=>obtain rfl:=aa hw;refine⟨x,k1,by simp[LN];omega,?_⟩;simp only[LN,List.drop_zero];rw[<-hl,List.take_left]|succ i=>obtain⟨cw,q1,q2,q3⟩:=ihr i w y k2 hw;refine⟨cw,q1,by simp only[LN,aF];omega,?_⟩;simp only[LN];rw[<-dz,<-hl,List.drop_left,q3]
 |_=>intro i w cs hv hw;simp[rk]at hw
theorem Lt:∀(l:V)(i:Nat)(w:V)(xs:List TV),Af h l xs->rk l i=some w->∃x,xs[i]?=some x/\rB h w x:=by
 intro l;induction l with
 |co a r iha ihr=>intro i w xs hv hw;obtain⟨x,ys,rfl,k1,k2⟩:=hv;cases i with|zero=>obtain rfl:=aa hw;exact⟨x,rfl,k1⟩|succ i=>exact ihr i w ys k2 hw
 |_=>intro i w xs hv hw;simp[rk]at hw
end
section
variable{h:H2}{n:Nat}{h1:bE}
def OC(h:H2)(n:Nat)(h1:bE)(k:K)(xs:List TV)(v:V)(l:List Nat):Prop:=∀(c:Call)(nx:Nat),∃x aw,cA c k (xs.map some) h1 nx=some (x,[],aw,nx)/\fL h v x/\eS n h v/\∀i∈aw,i∈l
theorem OC.of{k:K}{xs:List TV}{v:V}{x:TV}(he:∀(c:Call)(nx:Nat),cA c k (xs.map some) h1 nx=some (x,[],[],nx))(hx:fL h v x)(hk:eS n h v):OC h n h1 k xs v []:=fun c nx=>⟨x,[],he c nx,hx,hk,fun i hi=>by simp at hi⟩
theorem xb(b:Bool):fL h (.x .b b) (tB b):=cf (dJ rfl ⟨rfl,rfl⟩)
theorem xi(k:IntKind)(a:Int):fL h (.x (.i k) a) (tI k a):=cf (dJ rfl ⟨rfl,rfl⟩)
theorem OH(a:ByteArray):fL h (.x .s a) (.c (.d (dS a))):=cf (dJ rfl ⟨rfl,rfl⟩)
def OI(t:Ty)(y:El t):TV:=if mx t=true then .agg ((aS t y).map .d)else match aS t y with|d::_=>.c (.d d)|[]=>.iz []
theorem Fa{t:Ty}(y:El t){va:Bool}(hv:mx t=va)(h1:(va||bR t==1)=true):oF va (aS t y)=some (OI t y):=by
 subst hv;unfold oF OI;cases ha:mx t with
 |true=>rfl
 |false=>
  rw[ha]at h1;have:=bK t y;rw[show bR t=1 by simpa using h1]at this;cases he:aS t y with
  |nil=>rw[he]at this;simp at this
  |cons d r=>
   rw[he]at this;have:r=[]:=by simpa using this
   subst this;rfl
theorem H6{t:Ty}{y:El t}(hd:kf t=true)(h1:(mx t||bR t==1)=true):rB h (.x t y) (OI t y):=by
 unfold OI;cases ha:mx t with
 |true=>exact wR ha ⟨hd,rfl⟩
 |false=>
  rw[ha]at h1;have:=bK t y;rw[show bR t=1 by simpa using h1]at this;cases he:aS t y with
  |nil=>rw[he]at this;simp at this
  |cons d r=>
   rw[he]at this;have:r=[]:=by simpa using this
   subst this;exact dJ ha ⟨hd,by rw[he];rfl⟩
theorem HO(f:TV->Option C)(hf:∀c,f (.c c)=some c):∀(cs:List C),er ((cs.map TV.c).map f)=some cs:=by intro cs;induction cs with|nil=>rfl|cons c cs ih=>simp only[aA,hf,er,ih]
theorem xL:∀(l:List Value),k8 (l.map fun v=>C.d (.lit v))=some l:=by intro l;induction l with|nil=>rfl|cons v l ih=>simp[k8,ih]
theorem Cr{kt:Ty}{ks:List Kd}{v:V}{x:TV}{y:El kt}{ka:Bool}(hx:fL h v x)(hc:sE kt v=some y)(hk:Cu kt=some ks)(ha:mx kt=ka):nY ka ks x=some (uR kt y):=by
 obtain⟨h1,h2,_,h4⟩:=wE kt ks hk;obtain⟨g1,g2⟩:=uE hx hc;cases ka with
 |true=>
  rw[g1 ha];have e:(aS kt y).map C.d=(uR kt y).map fun v=>C.d (.lit v):=by rw[h1 y,kZ];rfl
  simp only[nY];rw[if_pos ⟨trivial,by rw[aQ,bK,h4]⟩,e,xL];simp only[h2 y,if_true]
 |false=>
  obtain⟨d,hd,rfl⟩:=g2 ha;have hl:=bK kt y;rw[hd]at hl;have h5:=h1 y;rw[hd]at h5;cases hv:uR kt y with
  |nil=>rw[hv]at h5;simp at h5
  |cons q r=>
   rw[hv]at h5;simp only[aA,du]at h5;obtain⟨rfl,h6⟩:=h5;have:r=[]:=by simpa using h6.symm
   subst this;simp only[nY];rw[if_pos ⟨trivial,by rw[h4,<-hl];rfl⟩];have h7:=h2 y;rw[hv]at h7;simp only[k8,h7,if_true]
theorem I3{v:V}{q:(k:Ty)×(v:Ty)×Mp (El k) (El v)×List Nat}{x:TV}(hr:HR n h1 h)(hm:Lz h v=some q)(hx:fL h v x):
  ∃id,v=.om id/\x=.c (.om id)/\q.2.2.2=[id]/\fO h id=some (.mp q.1 q.2.1 q.2.2.1)/\az h1 id=Dh (mx q.1) (mx q.2.1) (uR q.1) (aS q.2.1) q.2.2.1:=by
 cases v with
 |om id=>
  simp only[Lz]at hm;split at hm
  .rename_i k v m ho;obtain rfl:=aa hm;exact⟨id,rfl,Do hx,rfl,ho,(hr.ob id _ ho).2.1.2.2⟩
  .simp at hm
 |_=>simp[Lz]at hm
theorem I5{c:Call}{x y:TV}{H:bE}{l:List Nat}{nx:Nat}(h:cA c (.load false 1) [some x] H nx=some (y,[],l,nx)):cA c .sS [some x] H nx=some (y,[],l,nx):=by
 cases x with
 |c p=>
  have h:(match gL false 1 p H with|some (v,aw)=>some (v,([]:fm),aw,nx)|none=>none)=some (y,[],l,nx):=h;show(match gL false 1 p H with|some (v,aw)=>some (v,([]:fm),aw,nx)|none=>kV false 1 p H nx)=some (y,[],l,nx);split at h
  .exact h
  .cases h
 |_=>cases h
theorem F8{o:OP}{vs:List V}{v:V}{l:List Nat}{xs:List TV}(hr:HR n h1 h)(ht:M9 o vs h=some (v,l))(hx:lT h vs xs)(hk:∀w∈vs,eS n h w)(ha:∀w∈vs,gW h w=true)
  (hp:Lh o.o.args=true->∀a k b,vs=[a,.x (.i k) b]->0<b):OC h n h1 o.o.k xs v l:=by
 obtain⟨⟨d,k,args,g⟩,t,fi⟩:=o;simp only at hp|-;unfold M9 at ht;simp only at ht;split at ht
 .--mv
  obtain⟨rfl,rfl⟩:=ad (aa ht);obtain⟨x,rfl,h2⟩:=iw hx;exact .of (fun _ _=>rfl) h2 (hk _ (by simp))
 .--nilCheck
  obtain⟨x,rfl,h2⟩:=iw hx;have hk1:=hk _ (aq.2 rfl);split at ht
  .obtain ⟨rfl,rfl⟩:=ad (aa ht);exact .of (fun _ _=>by rw[(wQ h2).2];rfl) h2 hk1
  .obtain ⟨rfl,rfl⟩:=ad (aa ht);refine .of (fun _ _=>?_) h2 hk1;rcases Dp h2 with⟨_,ds,_,rfl⟩|⟨_,cs,_,rfl⟩<;>rfl
  .obtain ⟨rfl,rfl⟩:=ad (aa ht);exact .of (fun _ _=>by rw[rA h2];rfl) h2 hk1
  .obtain ⟨rfl,rfl⟩:=ad (aa ht);exact .of (fun _ _=>by rw[uW h2];rfl) h2 hk1
  .simp at ht
 .--yZ int
  rename_i op q a q' b;obtain⟨x,y,rfl,h2,h3⟩:=iN hx;obtain rfl:=jY h2;obtain rfl:=jY h3;split at ht
  .rename_i w hw;obtain⟨rfl,rfl⟩:=ad (aa ht);obtain⟨y,h4,h5,h6⟩:=HH (h:=h) (n:=n) hw fun hz=>hp hz _ _ _ rfl;exact .of (fun _ _=>by simp only[lw,cA,h4]) h5 h6
  .simp at ht
 .--yZ string
  obtain⟨x,y,rfl,h2,h3⟩:=iN hx;obtain rfl:=vR h2;obtain rfl:=vR h3;split at ht
  .rename_i w hw;obtain⟨rfl,rfl⟩:=ad (aa ht);obtain⟨y,h4,h5,h6⟩:=HG (h:=h) (n:=n) hw;exact .of (fun _ _=>by simp only[lw,cA,h4]) h5 h6
  .simp at ht
 .--tQ
  rename_i neg v1 v2;obtain⟨x,y,rfl,h2,h3⟩:=iN hx;split at ht
  .rename_i a b ha' hb';obtain⟨rfl,rfl⟩:=ad (aa ht);rw[MK h2 ha',MK h3 hb'];refine .of (x:=tB (bif neg then !(a==b)else a==b)) (fun _ _=>?_) (xb _) trivial;cases neg<;>rfl
  .simp at ht
 .--qk
  obtain⟨x,rfl,h2⟩:=iw hx;split at ht
  .rename_i w hw;obtain⟨rfl,rfl⟩:=ad (aa ht);intro c nx;obtain⟨y,h4,h5,h6⟩:=IP (n:=n) (h1:=h1) (c:=c) (nx:=nx) h2 (ha _ (by simp)) hw;exact⟨y,[],h4,h5,h6,fun i hi=>by simp at hi⟩
  .simp at ht
 .--x9
  rename_i neg ks t1 a w;obtain⟨x,y,rfl,h2,h3⟩:=iN hx;split at ht
  .rename_i b hb;cases hq:mx t1&&decide (Cu t1=some ks)with
   |false=>rw[hq]at ht;simp at ht
   |true=>
    rw[hq,cond_true]at ht;obtain⟨rfl,rfl⟩:=ad (aa ht);simp only[ai,decide_eq_true_eq]at hq;obtain⟨k1,k2,k3,k4⟩:=wE t1 ks hq.2;have e1:=(uE (v:=.x t1 a) (u:=t1) (y:=a) h2 (by simp[sE,ko,gO,gq])).1 hq.1;have e2:=(uE h3 hb).1 hq.1;have el:∀z:El t1,k8 ((aS t1 z).map C.d)=some (uR t1 z):=fun z=>by rw[show(aS t1 z).map C.d=(uR t1 z).map fun v=>C.d (.lit v)by rw[k1 z,kZ];rfl,xL]
    rw[e1,e2];refine .of (x:=tB (bif neg then !(decide (a=b))else decide (a=b))) (fun _ _=>?_) (xb _) trivial;simp only[lw,cA,el,k3];cases neg<;>rfl
  .simp at ht
 .obtain ⟨rfl,rfl⟩:=ad (aa ht);obtain⟨x,rfl,h2⟩:=iw hx;rw[uY h2];exact .of (fun _ _=>rfl) (cf (dJ rfl rfl)) trivial
 .obtain ⟨rfl,rfl⟩:=ad (aa ht);obtain⟨x,rfl,h2⟩:=iw hx;rw[Fc h2];exact .of (fun _ _=>rfl) (xb _) trivial
 .obtain ⟨rfl,rfl⟩:=ad (aa ht);obtain⟨x,rfl,h2⟩:=iw hx;rw[jY h2];exact .of (fun _ _=>rfl) (xi _ _) trivial
 .obtain ⟨rfl,rfl⟩:=ad (aa ht);obtain⟨x,rfl,h2⟩:=iw hx;rw[jY h2];exact .of (fun _ _=>rfl) (xi _ _) trivial
 .obtain ⟨rfl,rfl⟩:=ad (aa ht);obtain⟨x,rfl,h2⟩:=iw hx;rw[jY h2];exact .of (fun _ _=>rfl) (xi _ _) trivial
 .obtain ⟨rfl,rfl⟩:=ad (aa ht);obtain⟨x,rfl,h2⟩:=iw hx;rw[vR h2];exact .of (fun _ _=>rfl) (OH _) trivial
 .--GS
  rename_i f;cases hc:vs.all L8 with
  |false=>rw[hc]at ht;simp at ht
  |true=>
   rw[hc,cond_true]at ht;obtain⟨rfl,rfl⟩:=ad (aa ht);obtain⟨cs,h2,rfl⟩:=H7 hx fun w hw=>by have:=List.all_eq_true.1 hc w hw;cases w<;>first|exact⟨trivial,by simp[L8]at this;exact this⟩|simp[L8]at this
   refine .of (x:=.c (.nW f cs)) (fun _ _=>?_) (cf (dJ rfl ⟨cs,h2,rfl⟩)) ?_
   .simp only[cA,mm];rw[HO _ fun _=>rfl]
   .clear ht h2 hp ha hc hx;induction vs with|nil=>trivial|cons w vs ih=>exact⟨hk w (by simp),ih fun u hu=>hk u (by simp[hu])⟩
 .--load
  rename_i g m p;obtain⟨x,rfl,h2⟩:=iw hx;split at ht
  .rename_i w l' hl;cases hc:EU h g m w with|false=>rw[hc]at ht;simp at ht|true=>rw[hc,cond_true]at ht;obtain⟨rfl,rfl⟩:=ad (aa ht);intro c nx;obtain⟨y,h3,h4,h5⟩:=vo (c:=c) (nx:=nx) hr hl hc h2 (hk _ (by simp));exact⟨y,_,h3,h4,h5,fun i hi=>hi⟩
  .simp at ht
 .--load of a slice
  obtain⟨x,rfl,h2⟩:=iw hx;split at ht
  .rename_i w l' hl;cases hc:EU h false 1 w with|false=>rw[hc]at ht;simp at ht|true=>rw[hc,cond_true]at ht;obtain⟨rfl,rfl⟩:=ad (aa ht);intro c nx;obtain⟨y,h3,h4,h5⟩:=vo (c:=c) (nx:=nx) hr hl hc h2 (hk _ (by simp));exact⟨y,_,I5 h3,h4,h5,fun i hi=>hi⟩
  .simp at ht
 .--fieldAddr
  obtain⟨x,rfl,h2⟩:=iw hx;split at ht
  .split at ht
   .rename_i w hw;obtain⟨rfl,rfl⟩:=ad (aa ht);intro c nx;obtain⟨y,h3,h4,h5⟩:=JS (h1:=h1) (c:=c) (nx:=nx) h2 (hk _ (by simp)) hw;exact⟨y,[],h3,h4,h5,fun i hi=>by simp at hi⟩
   .simp at ht
  .simp at ht
 .--field of data
  rename_i g off m u y;obtain⟨x,rfl,h2⟩:=iw hx;split at ht
  .split at ht
   .rename_i i _ w hw;cases hc:(nZ u i==off)&&EU h g m w with
    |false=>rw[hc]at ht;simp at ht
    |true=>
     rw[hc,cond_true]at ht;obtain⟨rfl,rfl⟩:=ad (aa ht);simp only[ai,beq_iff_eq]at hc;obtain⟨a,z,rfl,f1,f2,f3⟩:=qh _ _ _ _ hw;obtain⟨cs,⟨hd,rfl⟩,g1,_⟩:=nU (v:=.x (.st u) y) trivial h2;have hd':kf u=true:=hd;obtain⟨_,hs,_,_⟩:=nB hc.2;have hs:bR a=m:=hs
     obtain⟨q,h3,h4⟩:=oR (cs:=(aS u y).map C.d) (off:=off) hc.2 (show eU h (.x a z) ((aS a z).map .d)from⟨yf u _ _ hd' f1,rfl⟩) (by simp[bK];omega)
      (by rw[<-hc.1,<-hs,<-f3,gH,fV])
     rw[g1 rfl];exact .of (x:=q) (fun _ _=>by show(match Cq g m (((aS u y).map C.d).drop off)with|some v=>some (v,([]:fm),([]:List Nat),_)|none=>none)=_;rw[h3]) h4 trivial
   .simp at ht
  .simp at ht
 .--field of a cY
  rename_i g off m u;obtain⟨x,rfl,h2⟩:=iw hx;split at ht
  .split at ht
   .rename_i i _ w hw;cases hc:(LN u i==off)&&EU h g m w with|false=>rw[hc]at ht;simp at ht|true=>rw[hc,cond_true]at ht;obtain⟨rfl,rfl⟩:=ad (aa ht);simp only[ai,beq_iff_eq]at hc;obtain⟨cs,hcs,g1,_⟩:=nU (v:=.rc u) trivial h2;obtain⟨cw,q1,q2,q3⟩:=GO u i w cs hcs hw;obtain⟨_,hs,_,_⟩:=nB hc.2;obtain⟨q,h3,h4⟩:=oR (off:=off) hc.2 q1 (by rw[<-hc.1,<-hs];exact q2) (by rw[<-hc.1,<-hs];exact q3);rw[g1 rfl];exact .of (x:=q) (fun _ _=>by show(match Cq g m (cs.drop off)with|some v=>some (v,([]:fm),([]:List Nat),_)|none=>none)=_;rw[h3]) h4 (wD u i w (hk (.rc u) (aq.2 rfl)) hw)
   .simp at ht
  .simp at ht
 .--extract
  rename_i i u;obtain⟨x,rfl,h2⟩:=iw hx;split at ht
  .rename_i w hw;obtain⟨rfl,rfl⟩:=ad (aa ht);obtain⟨ys,rfl,h3⟩:=M8 h2;obtain⟨y,h4,h5⟩:=Lt u i w ys h3 hw;exact .of (x:=y) (fun _ _=>by simp only[lw,cA,h4]) (cf h5) (wD u i w (hk (.tp u) (aq.2 rfl)) hw)
  .simp at ht
 .obtain ⟨rfl,rfl⟩:=ad (aa ht);obtain⟨x,rfl,h2⟩:=iw hx;rw[vR h2];exact .of (fun _ _=>rfl) (xi _ _) trivial
 .obtain ⟨rfl,rfl⟩:=ad (aa ht);obtain⟨x,rfl,h2⟩:=iw hx;rw[uX h2];exact .of (fun _ _=>rfl) (xi _ _) trivial
 .--len of a cY of am
  obtain⟨x,rfl,h2⟩:=iw hx;split at ht
  .rename_i t' s' ln hq;obtain⟨rfl,rfl⟩:=ad (aa ht);exact .of (fun _ _=>by rw[H8 h2 (rC hq)];exact ME) (xi _ _) trivial
  .simp at ht
 .--len
  obtain⟨x,rfl,h2⟩:=iw hx;split at ht
  .rename_i q t' s' l' hq;obtain⟨rfl,rfl⟩:=ad (aa ht);exact .of (fun _ _=>NL h2 (ha _ (by simp)) hq) (xi _ _) trivial
  .simp at ht
 .--tL
  rename_i m k' x r;obtain⟨x1,ys,rfl,h2,h3⟩:=gx hx;split at ht
  .rename_i y hy;obtain⟨rfl,rfl⟩:=ad (aa ht);obtain rfl:=jY h2;exact .of (x:=lv (.int k' y)) (fun _ _=>by simp only[lw,cA,IX hy h3]) (xi _ _) trivial
  .simp at ht
 .--build
  rename_i z ps;cases hc:sI (mA t) z&&mx t&&ei (Mu t) false t with
  |false=>rw[hc]at ht;simp at ht
  |true=>
   rw[hc,cond_true]at ht;simp only[ai]at hc;split at ht
   .rename_i w hw;obtain⟨rfl,rfl⟩:=ad (aa ht);obtain⟨z1,z2⟩:=(wK (h:=h) (n:=n) t).1 hc.2;obtain⟨cs,b1,b2,b3,b4⟩:=Kj fi ps vs (Mu t) w _ xs hw hc.2 z1 z2 hx hk;rw[qu hc.1.1]at b1;exact .of (x:=.agg cs) (fun _ _=>by simp only[cA,mm,b1]) (cf (wR (NW b4 hc.1.2) b2)) b3
   .simp at ht
 .--lookup
  rename_i ka ks va z ok m kv;obtain⟨x,y,rfl,h2,h3⟩:=iN hx;split at ht
  .rename_i kt vt mp l' hq;split at ht
   .rename_i key hkey;cases hc:(mx kt==ka)&&(mx vt==va)&&decide (Cu kt=some ks)&&sI (mA vt) z&&kf vt&&(va||bR vt==1)with
    |false=>rw[hc]at ht;simp at ht
    |true=>
     rw[hc,cond_true]at ht;simp only[ai,beq_iff_eq,decide_eq_true_eq]at hc;obtain⟨⟨⟨⟨⟨c1,c2⟩,c3⟩,c4⟩,c5⟩,c6⟩:=hc;obtain⟨id,rfl,rfl,e1,e2,e3⟩:=I3 hr hq h2;have e1:l'=[id]:=e1;subst e1;obtain⟨_,_,k3,_⟩:=wE kt ks c3;have hz:c9 z=aS vt (rq vt):=by rw[qt vt c5,qu c4]
     have hv:∀y,oF va (aS vt y)=some (OI vt y):=fun y=>Fa y c2 c6;have hkt:=Cr h3 hkey c3 c1;rw[c1,c2]at e3;rw[<-c2]at c6;cases ok with|false=>simp only[cond_false]at ht;obtain⟨rfl,rfl⟩:=ad (aa ht);exact fun c nx=>⟨_,[id],NG (z:=rq vt) e3 hkt k3 hz hv,cf (H6 c5 c6),trivial,fun i hi=>hi⟩|true=>simp only[cond_true]at ht;obtain⟨rfl,rfl⟩:=ad (aa ht);exact fun c nx=>⟨_,[id],LC (z:=rq vt) e3 hkt k3 hz hv,⟨_,rfl,_,_,rfl,H6 c5 c6,_,_,rfl,dJ rfl ⟨rfl,rfl⟩,rfl⟩,⟨trivial,trivial,trivial⟩,fun i hi=>hi⟩
   .simp at ht
  .simp at ht
 .simp at ht
end
section
variable{h:H2}{n:Nat}{h1:bE}
theorem cM(id:Nat)(o:Option O)(h:H2)(i:Nat):fO ((id,o)::h) i=if id=i then o else fO h i:=by
 simp only[fO,cg];by_cases e:id=i
 .subst e;simp
 .have e':(id==i)=false:=by simpa using e
  simp[e,e']
theorem dk(id:Nat)(o:Option Ob)(h:bE)(i:Nat):az ((id,o)::h) i=if id=i then o else az h i:=by
 simp only[az,cg];by_cases e:id=i
 .subst e;simp
 .have e':(id==i)=false:=by simpa using e
  simp[e,e']
theorem iX.new(o:Option O):iX n h ((n,o)::h):=⟨fun id o' hi ho=>by rw[cM,if_neg (by omega)]at ho;exact .inl ⟨o',ho,ry.refl _⟩⟩
theorem iX.Bn{id:Nat}{o o':O}(ho:fO h id=some o)(hs:ry o o'):iX n h ((id,some o')::h):=
 ⟨fun i o2 hi h2=>by
  rw[cM]at h2;split at h2
  .rename_i e;subst e;obtain rfl:=aa h2;exact .inl ⟨o,ho,hs⟩
  .exact .inl ⟨o2,h2,ry.refl _⟩⟩
theorem iX.lm(id:Nat):iX n h ((id,none)::h):=
 ⟨fun i o2 hi h2=>by
  rw[cM]at h2;split at h2
  .simp at h2
  .exact .inl ⟨o2,h2,ry.refl _⟩⟩
theorem HR.Bn{n' id:Nat}{o:Option O}{u:fm}(hr:HR n h1 h)(hn:n<=n')(hi:id<n')(hs:iX n h ((id,o)::h))(hu:∀i,i≠id->az (u++h1) i=az h1 i)
  (ho:∀o',o=some o'->um ((id,o)::h) o' (az (u++h1) id)/\Be n' ((id,o)::h) o'):HR n' (u++h1) ((id,o)::h):=by
 refine⟨fun i o' h2=>?_⟩;rw[cM]at h2;split at h2
 .rename_i e;subst e;exact⟨hi,ho o' h2⟩
 .rename_i e;obtain⟨q1,q2,q3⟩:=hr.ob i o' h2;refine⟨by omega,?_,nm hn hs q3⟩;rw[hu i fun e'=>e e'.symm];exact oP hs q3 q2
theorem HR.mono{n':Nat}(hr:HR n h1 h)(hn:n<=n'):HR n' h1 h:=⟨fun i o ho=>let⟨a,b,c⟩:=hr.ob i o ho;⟨by omega,b,nm hn (iX.refl n h) c⟩⟩
theorem HR.ext{h1':bE}(hr:HR n h1 h)(he:∀i,az h1' i=az h1 i):HR n h1' h:=⟨fun i o ho=>by rw[he];exact hr.ob i o ho⟩
structure qq(s s':S2)(h1:bE)(x:TV)(u:fm)(aw:List Nat)(m:Nat)(v:V)(l:List Nat):Prop where
 val:fL s'.heap v x
 Rx:eS s'.next s'.heap v
 hr:HR s'.next (u++h1) s'.heap
 eC:iX s.next s.heap s'.heap
 dm:s'.dm=s.dm
 gh:s'.gh=s.gh
 m:m<=s'.next
 le:s.next<=s'.next
 aw:∀i∈aw,i∈l
 nb:∀i,i<s.next->fO s.heap i=none->fO s'.heap i=none
 wo:∃w,s'.wo=w++s.wo/\(∀p∈u,p.1∈w)/\∀id,id∉w->fO s'.heap id=fO s.heap id
theorem qq.pure{s:S2}{x:TV}{v:V}{aw l:List Nat}(hr:HR s.next h1 s.heap)(hx:fL s.heap v x)(hk:eS s.next s.heap v)(hl:∀i∈aw,i∈l):qq s s h1 x [] aw s.next v l:=⟨hx,hk,hr,iX.refl _ _,rfl,rfl,au _,au _,hl,fun _ _ h=>h,[],rfl,fun p hp=>by simp at hp,fun _ _=>rfl⟩
theorem qq.new{s:S2}{o:O}{b:Option Ob}{u:fm}{x:TV}{v:V}{aw l:List Nat}{m:Nat}(hr:HR s.next h1 s.heap)(hu:u=[(s.next,b)]\/(u=[]/\∀b',um ((s.next,some o)::s.heap) o b'))(hb:u=[(s.next,b)]->um ((s.next,some o)::s.heap) o b)
  (hko:Be (s.next+1) ((s.next,some o)::s.heap) o) (hx:fL ((s.next,some o)::s.heap) v x) (hk:eS (s.next+1) ((s.next,some o)::s.heap) v) (hl:∀i∈aw,i∈l) (hm:m<=s.next+1):qq s (jf s o) h1 x u aw m v l:=by
 refine⟨hx,hk,?_,iX.new _,rfl,rfl,hm,bH _,hl,fun i hi h=>(by rw[show(jf s o).heap=(s.next,some o)::s.heap from rfl,cM,if_neg (by omega)];exact h),[s.next],rfl,?_,fun id hid=>?_⟩
 .refine HR.Bn (n':=s.next+1) hr (bH _) (aX _) (iX.new _) (fun i hi=>?_) fun o' ho'=>?_
  .rcases hu with rfl|⟨rfl,_⟩
   .rw [aY,dk,if_neg fun e=>hi e.symm]
   .rfl
  .obtain rfl:=aa ho';refine⟨?_,hko⟩;rcases hu with rfl|⟨rfl,hu⟩
   .rw [aY,dk,if_pos rfl];exact hb rfl
   .exact hu _
 .intro p hp;rcases hu with rfl|⟨rfl,_⟩
  .obtain rfl:=aq.1 hp;simp
  .simp at hp
 .simp only[jf];rw[cM,if_neg fun e=>hid (by simp[e])]
theorem qq.Bn{s:S2}{id:Nat}{o o':O}{b:Option Ob}{x:TV}{v:V}{aw l:List Nat}(hr:HR s.next h1 s.heap)(ho:fO s.heap id=some o)(hs:ry o o')(hb:um ((id,some o')::s.heap) o' b)(hko:Be s.next ((id,some o')::s.heap) o')
  (hx:fL ((id,some o')::s.heap) v x) (hk:eS s.next ((id,some o')::s.heap) v) (hl:∀i∈aw,i∈l):qq s (dZ s id (some o')) h1 x [(id,b)] aw s.next v l:=by
 refine⟨hx,hk,?_,iX.Bn ho hs,rfl,rfl,au _,au _,hl,fun i _ h=>(by rw[show(dZ s id (some o')).heap=(id,some o')::s.heap from rfl,cM,if_neg (fun e=>by rw[e,h]at ho;cases ho)];exact h),[id],rfl,fun p hp=>?_,fun i hi=>?_⟩
 .refine HR.Bn hr (au _) (hr.ob id o ho).1 (iX.Bn ho hs) (fun i hi=>?_) fun o2 ho2=>?_
  .rw [aY,dk,if_neg fun e=>hi e.symm]
  .obtain rfl:=aa ho2;rw[aY,dk,if_pos rfl];exact⟨hb,hko⟩
 .obtain rfl:=aq.1 hp;simp
 .simp only[dZ];rw[cM,if_neg fun e=>hi (by simp[e])]
def lU(h:H2)(id:Nat):Prop:=(∃t v,fO h id=some (.ar t .nil v)\/fO h id=some (.im t .nil v))\/∃t ln,fO h id=some (.rw t .nil ln)
theorem xB{id ver:Nat}{t:Ty}{l:List (El t)}(ho:fO h id=some (.ar t (.mk l) ver)\/fO h id=some (.im t (.mk l) ver)):¬lU h id:=by
 rintro(⟨u,v',e⟩|⟨u,ln,e⟩)
 .rcases ho with ho|ho<;>rcases e with e|e<;>rw[ho]at e<;>simp at e
  all_goals
   obtain⟨rfl,e,_⟩:=e;cases eq_of_heq e
 .rcases ho with ho|ho<;>rw[ho]at e<;>cases e
theorem Lv{id:Nat}{t:Ty}{l:List (Sl (El t))}{ln:Option (Nat×Nat)}(ho:fO h id=some (.rw t (.mk l) ln)):¬lU h id:=by
 rintro(⟨u,v',e⟩|⟨u,ln',e⟩)
 .rcases e with e|e<;>rw[ho]at e<;>cases e
 .rw [ho]at e;cases e
theorem pn(k:Nat)(x:D):dH h1 k (.d x)=some (x,[]):=by cases k<;>rfl
theorem wM:∀(ds:List D),dC h1 (ds.map .d)=some (ds,[]):=by intro ds;induction ds with|nil=>rfl|cons d ds ih=>simp[dC,pn,ih]
theorem pE{a b:List C}{x y:List D}{i j:List Nat}(ha:dC h1 a=some (x,i))(hb:dC h1 b=some (y,j)):dC h1 (a++b)=some (x++y,i++j):=by
 induction a generalizing x i with
 |nil=>obtain⟨rfl,rfl⟩:[]=x/\[]=i:=by simpa[dC]using ha
       simpa using hb
 |cons c a ih=>
  simp only[dC]at ha;split at ha
  .rename_i p q r s hp hq;obtain⟨rfl,rfl⟩:=ad (aa ha);simp only[aT,dC,hp,ih hq,aJ]
  .simp at ha
theorem Bl{id sz lo len:Nat}{am:List (List D)}(k:Nat)(ho:az h1 id=some (.aM sz am)\/az h1 id=some (.oV sz am))(hl:lo+len<=am.length)(szo:Nat):
  dH h1 k (.eZ szo id lo len)=some (.sl szo ((am.drop lo).take len),[id]):=by
 rcases ho with ho|ho<;>(cases k<;>simp only[dH,ho,if_pos hl])
theorem KP{id ver:Nat}{t:Ty}{s:Sl (El t)}(k:Nat)(hr:HR n h1 h)(ho:fO h id=some (.ar t s ver)\/fO h id=some (.im t s ver)):
  ∃aw,dH h1 k (lC (bR t) (aS t) id s)=some (u5 (bR t) (aS t) s,aw)/\(∀i∈aw,i=id/\¬lU h i)/\(id∈aw\/lU h id):=by
 cases s with
 |nil=>exact⟨[],pn k _,fun i hi=>by simp at hi,.inr (.inl ⟨t,ver,ho⟩)⟩
 |mk l=>
  have hb:az h1 id=some (.aM (bR t) (l.map (aS t)))\/az h1 id=some (.oV (bR t) (l.map (aS t))):=by
   rcases ho with ho|ho
   .exact .inl ((hr.ob id _ ho).2.1.2.2 l rfl)
   .exact .inr ((hr.ob id _ ho).2.1.2.2 l rfl)
  refine⟨[id],?_,fun i hi=>by obtain rfl:=aq.1 hi;exact⟨rfl,xB ho⟩,.inl (by simp)⟩;have:=Bl (lo:=0) (len:=(l.map (aS t)).length) k hb (by omega) (bR t);rw[sD]at this;exact this
theorem KQ{id ver lo:Nat}{t:Ty}{r:Sl (El t)}(k:Nat)(hr:HR n h1 h)(hk:eS n h (.sb id ver lo t r))(ha:A7 h id ver=true):
  ∃aw,dH h1 k (w_ id lo t r)=some (u5 (bR t) (aS t) r,aw)/\(∀i∈aw,i=id/\¬lU h i)/\(id∈aw\/lU h id):=by
 obtain⟨u,s,ho⟩:=kX ha;obtain⟨_,hc⟩:=hk.2 u s ver ho;obtain⟨hz,hc⟩:=hc rfl;cases r with
 |nil=>cases s with|nil=>exact⟨[],pn k _,fun i hi=>by simp at hi,.inr (.inl ⟨u,ver,ho⟩)⟩|mk l=>exact hc.elim
 |mk m=>
  cases s with
  |nil=>exact hc.elim
  |mk l=>
   obtain⟨hl,he⟩:=hc
   have hb:az h1 id=some (.aM (bR u) (l.map (aS u)))\/az h1 id=some (.oV (bR u) (l.map (aS u))):=by
    rcases ho with ho|ho
    .exact .inl ((hr.ob id _ ho).2.1.2.2 l rfl)
    .exact .inr ((hr.ob id _ ho).2.1.2.2 l rfl)
   refine⟨[id],?_,fun i hi=>by obtain rfl:=aq.1 hi;exact⟨rfl,xB ho⟩,.inl (by simp)⟩;have:=Bl (lo:=lo) (len:=(m.map (aS t)).length) k hb (by simpa using hl) (bR t);rw[show(m.map (aS t)).length=m.length by simp,he]at this;simpa[w_,u5]using this
theorem zj{t:Ty}:∀(l:List (Sl (El t))),pJ (bR t) (l.map (nV t))=some (l.map (aS (.sl t))):=by intro l;induction l with|nil=>rfl|cons s l ih=>simp only[aA,pJ,ih];cases s<;>rfl
theorem KO{id:Nat}{t:Ty}{s:Sl (Sl (El t))}(k:Nat)(hr:HR n h1 h)(ho:fO h id=some (.rw t s none)):
  ∃aw,dH h1 k (lC 1 (aS (.sl t)) id s)=some (u5 1 (aS (.sl t)) s,aw)/\(∀i∈aw,i=id/\¬lU h i)/\(id∈aw\/lU h id):=by
 cases s with
 |nil=>exact⟨[],pn k _,fun i hi=>by simp at hi,.inr (.inr ⟨t,none,ho⟩)⟩
 |mk l=>
  have hb:=(hr.ob id _ ho).2.1.2.2 l rfl;refine⟨[id],?_,fun i hi=>by obtain rfl:=aq.1 hi;exact⟨rfl,Lv ho⟩,.inl (by simp)⟩;have e:((l.map (aS (.sl t))).length)=(eL t l none).length:=by simp[eL]
  have hs:pJ (bR t) (eL t l none)=some (l.map (aS (.sl t))):=zj l;cases k<;>simp only[lC,u5,dH,hb,hs,e,and_self,if_true]
theorem rO(hr:HR n h1 h):∀(v w:V)(l:List Nat)(cs:List C),iP h v=some (w,l)->eU h v cs->eS n h v->gW h v=true->
  ∃ds aw,dC h1 cs=some (ds,aw)/\eU h w (ds.map .d)/\(∀i∈aw,i∈l/\¬lU h i)/\(∀i∈l,i∈aw\/lU h i)/\(∀i∈l,i<n/\((∃t s v,fO h i=some (.ar t s v)\/fO h i=some (.im t s v))\/∃t s,fO h i=some (.rw t s none))):=by
 have done:∀(v:V)(ds:List D),eU h v (ds.map .d)->∃ds' aw,dC h1 (ds.map .d)=some (ds',aw)/\eU h v (ds'.map .d)/\(∀i∈aw,i∈([]:List Nat)/\¬lU h i)/\(∀i∈([]:List Nat),i∈aw\/lU h i)/\(∀i∈([]:List Nat),i<n/\((∃t s v,fO h i=some (.ar t s v)\/fO h i=some (.im t s v))\/∃t s,fO h i=some (.rw t s none))):=fun v ds hv=>⟨ds,[],wM ds,hv,fun i hi=>by simp at hi,fun i hi=>by simp at hi,fun i hi=>by simp at hi⟩;intro v;induction v with
 |so id=>
  intro w l cs hf hv hk ha;simp only[iP]at hf;split at hf
  .rename_i t s l' hs;obtain⟨rfl,rfl⟩:=ad (aa hf);obtain⟨ver,ho,e⟩:=tC hs;have e:l'=[id]:=e;subst e;obtain⟨c,rfl,hc,_⟩:=hv;rw[hc _ (lB ho)];obtain⟨aw,q1,q2,q3⟩:=KP 300 hr ho;have hd:kf t=true:=by rcases ho with ho|ho<;>exact(hr.ob id _ ho).2.1.1
   refine⟨[u5 (bR t) (aS t) s],aw,by simp[dC,q1],⟨hd,rfl⟩,fun i hi=>⟨by simpa using(q2 i hi).1,(q2 i hi).1▸(q2 i hi).2⟩,fun i hi=>?_,fun i hi=>?_⟩
   .obtain rfl:=aq.1 hi;exact q3
   .obtain rfl:=aq.1 hi;exact⟨hk,.inl ⟨t,s,ver,ho⟩⟩
  .simp at hf
 |sr id=>
  intro w l cs hf hv hk ha;simp only[iP]at hf;split at hf
  .rename_i t s ho;obtain⟨rfl,rfl⟩:=ad (aa hf);obtain⟨c,rfl,hc,_⟩:=hv;rw[hc _ (by rw[ho];rfl:Df id (fO h id)=some (lC 1 (aS (.sl t)) id s))];obtain⟨aw,q1,q2,q3⟩:=KO 300 hr ho;have hd:kf t=true:=(hr.ob id _ ho).2.1.1;refine⟨[u5 1 (aS (.sl t)) s],aw,by simp[dC,q1],⟨hd,rfl⟩,fun i hi=>⟨by simpa using(q2 i hi).1,(q2 i hi).1▸(q2 i hi).2⟩,fun i hi=>?_,fun i hi=>?_⟩
   .obtain rfl:=aq.1 hi;exact q3
   .obtain rfl:=aq.1 hi;exact⟨hk,.inr ⟨t,s,ho⟩⟩
  .simp at hf
 |sb id ver lo t r=>
  intro w l cs hf hv hk ha;simp only[iP,sJ]at hf;obtain⟨rfl,rfl⟩:=ad (aa hf);obtain⟨hd,ha⟩:=c_.1 ha;have ha:A7 h id ver=true:=ha;obtain⟨c,rfl,hc,_⟩:=hv;rw[hc ha];obtain⟨aw,q1,q2,q3⟩:=KQ 300 hr hk ha;obtain⟨u,s,ho⟩:=kX ha;refine⟨[u5 (bR t) (aS t) r],aw,by simp[dC,q1],⟨?_,rfl⟩,fun i hi=>⟨by simpa using(q2 i hi).1,(q2 i hi).1▸(q2 i hi).2⟩,fun i hi=>?_,fun i hi=>?_⟩
  .exact hd
  .obtain rfl:=aq.1 hi;exact q3
  .obtain rfl:=aq.1 hi;exact⟨hk.1,.inl ⟨u,s,ver,ho⟩⟩
 |rc r ih=>
  intro w l cs hf hv hk ha;simp only[iP]at hf;split at hf
  .rename_i w' l' hw;obtain⟨rfl,rfl⟩:=ad (aa hf);exact ih w' l' cs hw hv hk ha
  .simp at hf
 |co a r iha ihr=>
  intro w l cs hf hv hk ha;simp only[iP]at hf;split at hf
  .rename_i x l1 y l2 hx hy;obtain⟨rfl,rfl⟩:=ad (aa hf);obtain⟨ca,cr,rfl,h2,h3⟩:=hv;simp only[gW,ai]at ha;obtain⟨ds,aw,a1,a2,a3,a4,a5⟩:=iha x l1 ca hx h2 hk.1 ha.1;obtain⟨es,jds,b1,b2,b3,b4,b5⟩:=ihr y l2 cr hy h3 hk.2 ha.2;refine⟨ds++es,aw++jds,pE a1 b1,⟨_,_,by simp,a2,b2⟩,fun i hi=>?_,fun i hi=>?_,fun i hi=>?_⟩
   .rcases ao.1 hi with hi|hi
    .exact ⟨aC _ (a3 i hi).1,(a3 i hi).2⟩
    .exact ⟨aG _ (b3 i hi).1,(b3 i hi).2⟩
   .rcases ao.1 hi with hi|hi
    .exact (a4 i hi).imp (aC _) id
    .exact (b4 i hi).imp (aG _) id
   .rcases ao.1 hi with hi|hi
    .exact a5 i hi
    .exact b5 i hi
  .simp at hf
 |x t v=>intro w l cs hf hv hk ha;obtain⟨rfl,rfl⟩:=ad (aa hf);obtain⟨hd,rfl⟩:=hv;exact done _ _ ⟨hd,rfl⟩
 |kb c=>intro w l cs hf hv hk ha;obtain⟨rfl,rfl⟩:=ad (aa hf);obtain rfl:=hv;exact done (.kb c) [_] rfl
 |nl k=>intro w l cs hf hv hk ha;obtain⟨rfl,rfl⟩:=ad (aa hf);obtain rfl:=hv;exact done (.nl k) [_] rfl
 |fl q=>
  intro w l cs hf hv hk ha;obtain⟨rfl,rfl⟩:=ad (aa hf);obtain⟨hp,rfl⟩:=hv;have e:e9 q=(q.map D.lit).map C.d:=by simp[e9]
  rw[e];exact done (.fl q) (q.map D.lit) ⟨hp,e.symm⟩
 |ni=>intro w l cs hf hv hk ha;obtain⟨rfl,rfl⟩:=ad (aa hf);obtain rfl:=hv;exact done .ni [] rfl
 |pt t v=>intro w l cs hf hv hk ha;obtain⟨rfl,rfl⟩:=ad (aa hf);obtain⟨hd,rfl⟩:=hv;exact done (.pt t v) [_] ⟨hd,rfl⟩
 |fn z f q ih=>intro w l cs hf hv hk ha;cases z with|true=>obtain⟨rfl,rfl⟩:=ad (aa hf);obtain⟨ds,hd,rfl⟩:=hv;exact done (.fn true f q) [_] ⟨ds,hd,rfl⟩|false=>simp[iP]at hf
 |_=>intro w l cs hf hv hk ha;simp[iP]at hf
theorem wA:∀(ds:List D)(k:Nat),ds.length<k->fI h1 k (ds.map .d)=some (ds,[]):=by
 intro ds;induction ds with
 |nil=>intro k hk;cases k<;>rfl
 |cons d ds ih=>intro k hk;cases k with|zero=>simp at hk|succ k=>simp only[aA,fI,pn];rw[ih k (by simpa using hk)];rfl
theorem vB{H:bE}{h0:H2}{k:Nat}(hr:HR k H h0)(all:List Nat){id:Nat}{o':O}(hf:AM h0 id=some o'):
  ∃o,fO h0 id=some o/\ry o o'/\(∀m g,Be m g o')/\((lU h0 id/\∀g b,um g o' b)\/(¬lU h0 id/\∃b,jH H all id=some b/\∀g,um g o' (some b))):=by
 unfold AM at hf;split at hf
 .rename_i t s v ho;obtain rfl:=aa hf;refine⟨_,ho,⟨au _,rfl,rfl,rfl,fun _=>rfl⟩,fun _ _=>trivial,?_⟩;obtain⟨h1,h2,h3⟩:=(hr.ob id _ ho).2.1;cases s with|nil=>exact .inl ⟨.inl ⟨t,v,.inl ho⟩,fun g b=>⟨h1,h2,fun l e=>by cases e⟩⟩|mk l=>refine .inr ⟨xB (.inl ho),.oV (bR t) (l.map (aS t)),?_,fun g=>⟨h1,h2,fun l' e=>by cases e;rfl⟩⟩;simp only[jH,h3 l rfl]
 .rename_i t s v ho;obtain rfl:=aa hf;refine⟨_,ho,⟨rfl,rfl⟩,fun _ _=>trivial,?_⟩;obtain⟨h1,h2,h3⟩:=(hr.ob id _ ho).2.1;cases s with|nil=>exact .inl ⟨.inl ⟨t,v,.inr ho⟩,fun g b=>⟨h1,h2,fun l e=>by cases e⟩⟩|mk l=>refine .inr ⟨xB (.inr ho),.oV (bR t) (l.map (aS t)),?_,fun g=>⟨h1,h2,fun l' e=>by cases e;rfl⟩⟩;simp only[jH,h3 l rfl]
 .rename_i t v ho;obtain rfl:=aa hf;obtain⟨h1,h2⟩:=(hr.ob id _ ho).2.1;refine⟨_,ho,rfl,fun _ _=>trivial,.inr ⟨?_,.ny (aS t v),?_,fun g=>⟨h1,rfl⟩⟩⟩
  .rintro (⟨u,v',e|e⟩|⟨u,v',e⟩)<;>rw[ho]at e<;>simp at e
  .simp only[jH,h2]
 .rename_i t c ho;cases hd:(kf t&&Nat.blt (bR t) 300)with
  |false=>rw[hd]at hf;simp at hf
  |true=>
   rw[hd,cond_true]at hf;simp only[ai]at hd;split at hf
   .rename_i w hw;split at hf
    .rename_i y hy;obtain rfl:=aa hf;obtain⟨cs,h1,h2,h3⟩:=(hr.ob id _ ho).2.1;have e:=iG c false t y cs hy h2;subst e;refine⟨_,ho,trivial,fun _ _=>trivial,.inr ⟨?_,.ny (aS t y),?_,fun g=>⟨hd.1,rfl⟩⟩⟩
     .rintro (⟨u,v',e|e⟩|⟨u,v',e⟩)<;>rw[ho]at e<;>simp at e
     .have hl:(aS t y).length<300:=by rw[bK];simpa using hd.2
      simp only[jH,h1,wA _ _ hl];rfl
    .simp at hf
   .simp at hf
 .simp at hf
def EA(h:H2)(id:Nat):Option O:=match fO h id with|some (.rw _ _ none)=>none|_=>AM h id
theorem vZ{h0:H2}{s0:S2}(hs0:s0.heap=h0):∀(aw:List Nat)(s':S2),pT h0 aw s0=some s'->
  s'.dm=s0.dm/\s'.gh=s0.gh/\s'.next=s0.next/\s'.wo=aw++s0.wo/\(∀i∈aw,(∃o,AM h0 i=some o)\/∃t s,fO h0 i=some (.rw t s none))/\∀i,fO s'.heap i=if i∈aw then EA h0 i else fO h0 i:=by
 intro aw;induction aw with
 |nil=>intro s' hf;obtain rfl:=aa hf;exact⟨rfl,rfl,rfl,rfl,fun i hi=>by simp at hi,fun i=>by simp[hs0]⟩
 |cons id r ih=>
  intro s' hf;simp only[pT]at hf
  have fin:∀(oo:Option O)(s1:S2),pT h0 r s0=some s1->s'=dZ s1 id oo->((∃o,AM h0 id=some o)\/∃t s,fO h0 id=some (.rw t s none))->EA h0 id=oo->s'.dm=s0.dm/\s'.gh=s0.gh/\s'.next=s0.next/\s'.wo=(id::r)++s0.wo/\(∀i∈id::r,(∃o,AM h0 i=some o)\/∃t s,fO h0 i=some (.rw t s none))/\∀i,fO s'.heap i=if i∈id::r then EA h0 i else fO h0 i:=by
   intro oo s1 h1 e hex hoo;subst e;obtain⟨a1,a2,a3,a4,a5,a6⟩:=ih s1 h1;refine⟨a1,a2,a3,by simp[dZ,a4],fun i hi=>?_,fun i=>?_⟩
   .rcases aK.1 hi with rfl|hi
    .exact hex
    .exact a5 i hi
   .simp only[dZ,cM,a6];by_cases e:id=i
    .subst e;simp[hoo]
    .simp [e,Ne.symm e]
  split at hf
  .rename_i t s ho;split at hf
   .rename_i s1 h1;exact fin none s1 h1 (aa hf).symm (.inr ⟨t,s,ho⟩) (by simp only[EA,ho])
   .cases hf
  .rename_i hno;split at hf
   .rename_i o s1 ho h1;refine fin (some o) s1 h1 (aa hf).symm (.inl ⟨o,ho⟩) ?_;unfold EA;split
    .rename_i t s e;exact absurd e (hno t s)
    .exact ho
   .cases hf
theorem G9{H:bE}{all:List Nat}:∀(l:List Nat),(∀i∈l,∃b,jH H all i=some b)->∃u,dK H all l=some u/\∀p∈u,p.1∈l:=by
 intro l;induction l with
 |nil=>intro _;exact⟨[],rfl,fun p hp=>by simp at hp⟩
 |cons a l ih=>
  intro h;obtain⟨b,hb⟩:=h a (by simp);obtain⟨u,hu,hp⟩:=ih fun i hi=>h i (by simp[hi]);refine⟨(a,some b)::u,by simp only[dK,hb,hu],fun p hp'=>?_⟩;rcases aK.1 hp' with rfl|hp'
  .simp
  .exact aB _ (hp p hp')
theorem AL{h0:H2}{s0:S2}(hs0:s0.heap=h0){H:bE}(hr:HR s0.next H h0)(aw:List Nat)(s':S2)(ids1 all:List Nat)(hf:pT h0 aw s0=some s')(hi1:∀i∈ids1,i∈aw/\¬lU h0 i)(hi2:∀i∈aw,i∈ids1\/lU h0 i):
  ∃fu,dK H all ids1=some fu/\HR s0.next (fu++H) s'.heap/\iX s0.next h0 s'.heap/\s'.dm=s0.dm/\s'.gh=s0.gh/\s'.next=s0.next/\
   s'.wo=aw++s0.wo/\(∀p∈fu,p.1∈aw)/\∀id,id∉aw->fO s'.heap id=fO s0.heap id:=by
 obtain⟨a1,a2,a3,a4,a5,a6⟩:=vZ hs0 aw s' hf
 have hF:∀i o',EA h0 i=some o'->AM h0 i=some o':=fun i o' h=>by
  unfold EA at h;split at h
  .cases h
  .exact h
 obtain⟨fu,hfu,hp⟩:=G9 (H:=H) (all:=all) ids1 fun i hi=>by
  rcases a5 i (hi1 i hi).1 with⟨o,ho⟩|⟨t,s,ho⟩
  .obtain ⟨_,_,_,_,h⟩:=vB hr all ho;rcases h with h|⟨_,b,hb,_⟩
   .exact absurd h.1 (hi1 i hi).2
   .exact ⟨b,hb⟩
  .cases s with|nil=>exact absurd (.inr ⟨t,none,ho⟩) (hi1 i hi).2|mk l=>have hb:=(hr.ob i _ ho).2.1.2.2 l rfl;have hs:pJ (bR t) (eL t l none)=some (l.map (aS (.sl t))):=zj l;exact⟨.oV 1 (l.map (aS (.sl t))),by simp only[jH,hb,hs]⟩
 have eC:iX s0.next h0 s'.heap:=⟨fun i o' hi ho=>by
  rw[a6]at ho;split at ho
  .obtain ⟨o,h1,h2,_⟩:=vB hr all (hF i o' ho);exact .inl ⟨o,h1,h2⟩
  .exact .inl ⟨o',ho,ry.refl _⟩⟩
 refine⟨fu,hfu,⟨fun i o' ho=>?_⟩,eC,a1,a2,a3,a4,fun p hp'=>(hi1 _ (hp p hp')).1,fun i hi=>by rw[a6,if_neg hi,hs0]⟩;rw[a6]at ho;split at ho
 .rename_i hi;obtain⟨o,h1,_,h3,h4⟩:=vB hr all (hF i o' ho);refine⟨(hr.ob i o h1).1,?_,h3 _ _⟩;rcases h4 with h4|⟨h5,b,hb,hR⟩
  .exact h4.2 _ _
  .have hm:i∈ids1:=(hi2 i hi).resolve_right h5;obtain⟨b',hb',hl⟩:=(kL ids1 fu hfu i).1 hm;rw[hb]at hb';obtain rfl:=aa hb';rw[show az (fu++H) i=some b by simp only[az,gy,hl];rfl];exact hR _
 .rename_i hi;obtain⟨h1,h2,h3⟩:=hr.ob i o' ho;have hn:i∉ids1:=fun hm=>hi (hi1 i hm).1;refine⟨h1,?_,nm (au _) eC h3⟩;rw[show az (fu++H) i=az H i by simp only[az,gy,(kL ids1 fu hfu i).2 hn]];exact oP eC h3 h2
theorem Ez{h0:H2}{s0:S2}{aw:List Nat}{s':S2}(hs0:s0.heap=h0)(hf:pT h0 aw s0=some s'):∀i∈aw,fO h0 i≠none:=by
 intro i hi e;obtain⟨_,_,_,_,a5,_⟩:=vZ hs0 aw s' hf;rcases a5 i hi with⟨o,ho⟩|⟨t,s,ho⟩
 .simp [AM,e]at ho
 .rw [e]at ho;cases ho
end
section
variable{h:H2}{n:Nat}{h1:bE}{β:Type}
theorem aN{α:Type}{c:Bool}{a:Option α}{r:α}(h:(bif c then a else none)=some r):c=true/\a=some r:=by cases c with|true=>exact⟨rfl,h⟩|false=>simp at h
theorem vn{u:fm}{i:Nat}(hu:∀p∈u,p.1≠i):az (u++h1) i=az h1 i:=by induction u with|nil=>rfl|cons p u ih=>obtain⟨a,b⟩:=p;rw[aT,dk,if_neg (hu _ (cV ..)),ih fun p hp=>hu p (aB _ hp)]
theorem qq.Di{s s':S2}{x:TV}{u:fm}{aw l:List Nat}{m:Nat}{v:V}(W:List Nat)(hr:HR s.next h1 s.heap)(eC:iX s.next s.heap s'.heap)(he:s'.dm=s.dm)(hg:s'.gh=s.gh)(hm:m<=s'.next)(hle:s.next<=s'.next)(hl:∀i∈aw,i∈l)
  (hwo:s'.wo=W++s.wo) (hu:∀p∈u,p.1∈W) (hW:∀id,id∉W->fO s'.heap id=fO s.heap id) (hob:∀i∈W,∀o,fO s'.heap i=some o->i<s'.next/\um s'.heap o (az (u++h1) i)/\Be s'.next s'.heap o)
  (hx:fL s'.heap v x) (hk:eS s'.next s'.heap v) (hnb:∀i,i<s.next->fO s.heap i=none->fO s'.heap i=none):qq s s' h1 x u aw m v l:=by
 refine⟨hx,hk,⟨fun i o ho=>?_⟩,eC,he,hg,hm,hle,hl,hnb,W,hwo,hu,hW⟩;by_cases hi:i∈W
 .exact hob i hi o ho
 .rw [hW i hi]at ho;obtain⟨a,b,c⟩:=hr.ob i o ho;refine⟨by omega,?_,nm hle eC c⟩;rw[vn (u:=u) (i:=i) fun p hp e=>hi (e▸hu p hp)];exact oP eC c b
def yv(h1:bE)(kk:K)(xs:List TV)(s:S2)(k:V->S2->List Nat->Option β)(z:β):Prop:=∃v s' l,k v s' l=some z/\∀c:Call,∃x u aw m,cA c kk (xs.map some) h1 s.next=some (x,u,aw,m)/\qq s s' h1 x u aw m v l
variable{s:S2}{k:V->S2->List Nat->Option β}{z:β}
theorem yv.pure{kk:K}{xs:List TV}{v:V}{x:TV}(hr:HR s.next h1 s.heap)(hz:k v s []=some z)(he:∀c:Call,cA c kk (xs.map some) h1 s.next=some (x,[],[],s.next))(hx:fL s.heap v x)(hk:eS s.next s.heap v):yv h1 kk xs s k z:=⟨v,s,[],hz,fun c=>⟨x,[],[],s.next,he c,qq.pure hr hx hk fun i hi=>by simp at hi⟩⟩
theorem pC{t:Ty}(h:Bc t=true):kf t=true/\0<bR t:=by simpa[Bc]using h
theorem yv.new{kk:K}{xs:List TV}{v:V}{x:TV}{o:O}{b:Option Ob}{l aw:List Nat}(hr:HR s.next h1 s.heap)(hz:k v (jf s o) l=some z)(he:∀c:Call,cA c kk (xs.map some) h1 s.next=some (x,[(s.next,b)],aw,s.next+1))
  (hb:um ((s.next,some o)::s.heap) o b) (hko:Be (s.next+1) ((s.next,some o)::s.heap) o) (hx:fL ((s.next,some o)::s.heap) v x) (hk:eS (s.next+1) ((s.next,some o)::s.heap) v) (hl:∀i∈aw,i∈l):yv h1 kk xs s k z:=
 ⟨v,_,l,hz,fun c=>⟨x,_,aw,_,he c,qq.new hr (.inl rfl) (fun _=>hb) hko hx hk hl (au _)⟩⟩
theorem yv.Bn{kk:K}{xs:List TV}{v:V}{x:TV}{id:Nat}{o o':O}{b:Option Ob}{l aw:List Nat}(hr:HR s.next h1 s.heap)(ho:fO s.heap id=some o)(hs:ry o o')(hz:k v (dZ s id (some o')) l=some z)(he:∀c:Call,cA c kk (xs.map some) h1 s.next=some (x,[(id,b)],aw,s.next))
  (hb:um ((id,some o')::s.heap) o' b) (hko:Be s.next ((id,some o')::s.heap) o') (hx:fL ((id,some o')::s.heap) v x) (hk:eS s.next ((id,some o')::s.heap) v) (hl:∀i∈aw,i∈l):yv h1 kk xs s k z:=
 ⟨v,_,l,hz,fun c=>⟨x,_,aw,_,he c,qq.Bn hr ho hs hb hko hx hk hl⟩⟩
theorem sC(id:Nat)(o:Option O)(h:H2):fO ((id,o)::h) id=o:=by rw[cM,if_pos rfl]
theorem vj{t:Ty}{s:Sl (El t)}{v nx:Nat}:fL ((nx,some (.ar t s v))::h) (.so nx) (.c (lC (bR t) (aS t) nx s)):=cf (dJ rfl ⟨_,rfl,fun c' hc'=>by rw[sC]at hc';exact aa hc',Al⟩)
theorem AV{x:V}{y:TV}{sz:Nat}{lo hi:Option Int}{m:Int}{q:V->Option β}(hr:HR n h1 h)(hx:fL h x y)(hk:eS n h x)(ha:gW h x=true)(hm:Eg h x=some m)(hz:sN sz h x (lo.getD 0) (hi.getD m) q=some z):
  ∃v c c',y=.c c/\q v=some z/\fF false sz c lo hi=some c'/\fL h v (.c c')/\eS n h v:=by
 have iv:∀(id:Nat)(t:Ty)(w:Sl (El t))(ver:Nat),x=.so id->(fO h id=some (.ar t w ver)\/fO h id=some (.im t w ver))->(bif bR t==sz then(sO w.l (lo.getD 0) (hi.getD m)).bind fun y=>q (.sb id ver (lo.getD 0).toNat t (w.to y))else none)=some z->
   ∃v c c',y=.c c/\q v=some z/\fF false sz c lo hi=some c'/\fL h v (.c c')/\eS n h v:=by
  rintro id t w ver rfl ho hz;obtain⟨h2,hz2⟩:=aN hz;obtain rfl:bR t=sz:=by simpa using h2
  obtain⟨r,hr',hz3⟩:=qX hz2;have e:=rz hx (lB ho);have hm':m=w.l.length:=by simp only[Eg,sJ]at hm;rcases ho with ho|ho<;>(rw[ho]at hm;exact(aa hm).symm)
  subst hm';refine⟨_,_,w_ id (lo.getD 0).toNat t (w.to r),e,hz3,?_,?_,hk,?_⟩
  .cases w with|nil=>exact J6 hr'|mk l=>exact Pz (enc:=aS t) hr'
  .exact cf (dJ rfl ⟨_,rfl,fun _=>rfl,Ij⟩)
  .intro u s' v' ho'
   have e2:KH u s'=KH t w/\v'=ver:=by
    rcases ho with ho|ho<;>rcases ho' with ho'|ho'<;>(rw[ho]at ho';simp at ho')
    all_goals
     obtain⟨rfl,e,rfl⟩:=ho';cases eq_of_heq e;exact⟨rfl,rfl⟩
   obtain⟨e2,rfl⟩:=e2;obtain⟨rfl,e2⟩:=iY e2;cases e2;refine⟨au _,fun _=>⟨rfl,?_⟩⟩;cases s' with|nil=>trivial|mk l=>obtain⟨h3,h4⟩:=Oc (enc:=aS u) hr';simp only[aQ]at h3;refine⟨h3,?_⟩;simpa using h4
 cases x with
 |x t v=>
  cases t with
  |sl t=>
   simp only[sN]at hz;obtain⟨h2,hz2⟩:=aN hz;obtain rfl:bR t=sz:=by simpa using h2
   obtain⟨r,hr',hz3⟩:=qX hz2;have hm':m=v.l.length:=by simpa[Eg,sJ]using hm.symm
   subst hm';refine⟨_,_,_,wP hx,hz3,Oa hr',cf (dJ rfl ⟨?_,rfl⟩),trivial⟩;obtain⟨_,⟨hd,_⟩,_⟩:=nU (v:=.x (.sl t) v) trivial hx;exact hd
  |_=>simp[sN]at hz
 |so id=>
  simp only[sN]at hz;split at hz
  .rename_i ho;exact iv id _ _ _ rfl (.inl ho) hz
  .rename_i ho;exact iv id _ _ _ rfl (.inr ho) hz
  .simp at hz
 |sb id ver off t v=>
  simp only[sN]at hz;obtain⟨h2,hz2⟩:=aN hz;obtain rfl:bR t=sz:=by simpa using h2
  obtain⟨r,hr',hz3⟩:=qX hz2;have hm':m=v.l.length:=by simpa[Eg,sJ]using hm.symm
  subst hm';refine⟨_,_,w_ id (off+(lo.getD 0).toNat) t (v.to r),pG hx ha,hz3,?_,cf (dJ rfl ⟨_,rfl,fun _=>rfl,Ij⟩),hk.1,?_⟩
  .cases v with|nil=>exact J6 hr'|mk l=>obtain⟨h3,rfl⟩:=oD.1 hr';simp only[Sl.l]at h3;simp only[w_,fF,Bool.false_eq_true,if_false,Sl.to,Sl.l,aQ];rw[if_pos ⟨trivial,h3⟩];simp;omega
  .intro u s' v' ho;obtain⟨h3,h4⟩:=hk.2 u s' v' ho;refine⟨h3,fun e=>?_⟩;obtain⟨h5,h6⟩:=h4 e;refine⟨h5,?_⟩;cases s' with
   |nil=>cases v<;>first|trivial|exact h6.elim
   |mk l=>
    cases v with
    |nil=>exact h6.elim
    |mk w=>
     obtain⟨h7,h8⟩:=h6;obtain⟨h9,rfl⟩:=oD.1 hr';simp only[Sl.l]at h9;show off+(lo.getD 0).toNat+((w.drop (lo.getD 0).toNat).take _).length<=l.length/\((l.map (aS u)).drop (off+(lo.getD 0).toNat)).take ((w.drop (lo.getD 0).toNat).take _).length=((w.drop (lo.getD 0).toNat).take _).map (aS t);generalize hA:(lo.getD 0).toNat=A;generalize hB:((hi.getD (Sl.l (Sl.mk w)).length).toNat-A)=B;have hle:A+B<=w.length:=by subst hA hB;simp only[Sl.l];omega
     have hlen:((w.drop A).take B).length=B:=by simp;omega
     refine⟨by omega,?_⟩;rw[hlen,gH,fV,<-h8,List.drop_take,dz,List.take_take];congr 1;omega
 |nl k=>
  cases k with
  |zero=>
   simp only[sN]at hz;obtain⟨r,hr',hz3⟩:=qX hz;have hm':m=0:=by simpa[Eg]using hm.symm
   subst hm';exact⟨_,_,_,uX hx,hz3,J6 (α:=Unit) (by simpa[Sl.l]using hr'),cf (dJ rfl rfl),trivial⟩
  |succ k=>simp[sN]at hz
 |_=>simp[sN]at hz
theorem FG:∀(p:pj)(t a:Ty)(l m:Nat),qr t p=some (.ar l a)->m<l->GM t p->GM t (p++[.ix m])/\lX t (p++[.ix m])=lX t p+m*bR a:=by
 intro p;induction p with
 |nil=>
  intro t a l m h1 hm _;have e:qr t []=some t:=by cases t<;>rfl
  obtain rfl:t=.ar l a:=by rw[e]at h1;exact aa h1
  refine⟨⟨hm,by cases a<;>trivial⟩,?_⟩;simp only[bp,lX];cases a<;>simp[lX]
 |cons q p ih=>
  intro t a l m h1 hm h3;cases q with
  |fd j=>cases t with|st t=>obtain⟨b2,hb,h3⟩:=h3;simp only[qr,hb]at h1;obtain⟨q1,q2⟩:=ih b2 a l m h1 hm h3;refine⟨⟨b2,hb,q1⟩,?_⟩;simp only[aT,lX,hb,q2];exact(cR _ _ _).symm|_=>exact h3.elim
  |ix k=>cases t with|ar l' t=>obtain⟨hk,h3⟩:=h3;obtain⟨q1,q2⟩:=ih t a l m h1 hm h3;refine⟨⟨hk,q1⟩,?_⟩;simp only[aT,lX,q2];exact(cR _ _ _).symm|_=>exact h3.elim
theorem NB{id:Nat}{t u:Ty}{w:Sl (El t)}{w':Sl (El u)}{v v':Nat}(ho:fO h id=some (.ar t w v)\/fO h id=some (.im t w v))(ho':fO h id=some (.ar u w' v')\/fO h id=some (.im u w' v')):KH u w'=KH t w/\v'=v:=by
 rcases ho with ho|ho<;>rcases ho' with ho'|ho'<;>(rw[ho]at ho';simp at ho')
 all_goals
  obtain⟨rfl,e,rfl⟩:=ho';cases eq_of_heq e;exact⟨rfl,rfl⟩
theorem IL{id:Nat}{t u:Ty}{w:Sl (El t)}{w':Sl (El u)}{v v':Nat}(ho:fO h id=some (.ar t w v)\/fO h id=some (.im t w v))(ho':fO h id=some (.ar u w' v')\/fO h id=some (.im u w' v')):w'.l.length=w.l.length:=by obtain⟨e,_⟩:=NB ho ho';obtain⟨rfl,e⟩:=iY e;cases e;rfl
theorem MG{c:C}{t:Ty}{id m sz:Nat}{w:Sl (El t)}{i:Int}{kd:IntKind}{cl:Call}{nx:Nat}(hc:c=lC (bR t) (aS t) id w)(hsz:bR t=sz)(hi:e_ i w.l.length=some m):
  cA cl (.indexAddr none sz) [some (.c c),some (tI kd i)] h1 nx=some (.c (.ep id m 0),[],[],nx):=by
 subst hc hsz;cases w with|nil=>exact Jl hi|mk l=>exact Rf hi
theorem Px{t:Ty}{v:El t}{x:TV}(hx:fL h (.x t v) x):kf t=true:=by obtain⟨_,⟨hd,_⟩,_⟩:=nU (v:=.x t v) trivial hx;exact hd
theorem Rr{n':Nat}{t:Ty}{v:El (.ar n' t)}{x:TV}(hx:fL h (.x (.ar n' t) v) x):x=.agg ((aS (.ar n' t) v).map .d):=by obtain⟨cs,⟨_,rfl⟩,h2,_⟩:=nU (v:=.x (.ar n' t) v) trivial hx;exact h2 rfl
theorem C4{n' m:Nat}{t:Ty}(v:El (.ar n' t))(hm:m<n'):m*bR t+bR t<=(aS (.ar n' t) v).length/\((aS (.ar n' t) v).drop (m*bR t)).take (bR t)=aS t (gt v.1 m):=by have hl:v.1.length=n':=v.2;refine⟨?_,xY (bK t) v.1 m (by omega)⟩;rw[bK];show _<=n'*bR t;have:(m+1)*bR t<=n'*bR t:=Nat.mul_le_mul_right _ hm;rw[bQ,Nat.one_mul]at this;exact this
theorem Jn{x:V}{y:TV}{sz:Nat}{i:Int}{kd:IntKind}
  (hz:(match x with
  |.x (.sl t) v=>bif bR t==sz then(e_ i v.l.length).bind fun m=>k (.pt t (gt v.l m)) s []else none
  |.so id=>(match sJ s.heap (.so id)with|some ⟨t,v,_⟩=>bif bR t==sz then(e_ i v.l.length).bind fun m=>k (.ep id m t []) s []else none|none=>none)
  |.sb id _ lo t v=>bif bR t==sz then(e_ i v.l.length).bind fun m=>k (.ep id (lo+m) t []) s []else none
  |.sr id=>(match fO s.heap id with|some (.rw t v _)=>bif 1==sz then(e_ i v.l.length).bind fun m=>k (.ep id m (.sl t) []) s []else none|_=>none)
  |_=>none)=some z)
  (hr:HR s.next h1 s.heap) (hx:fL s.heap x y) (hk:eS s.next s.heap x) (ha:gW s.heap x=true):yv h1 (.indexAddr none sz) [y,tI kd i] s k z:=by
 cases x with
 |x t v=>
  cases t with
  |sl t=>
   simp only at hz;obtain⟨h2,hz2⟩:=aN hz;obtain⟨m,hm,hz3⟩:=qX hz2;obtain rfl:bR t=sz:=by simpa using h2
   rw[wP hx];exact .pure hr hz3 (x:=.c (.d (.pt (aS t (gt (Sl.l v) m))))) (fun _=>Pc hm) (cf (dJ rfl ⟨Px (t:=.sl t) hx,rfl⟩)) trivial
  |_=>simp at hz
 |so id=>
  simp only at hz;split at hz
  .rename_i t v l hs;obtain⟨h2,hz2⟩:=aN hz;obtain⟨m,hm,hz3⟩:=qX hz2;obtain⟨ver,ho,_⟩:=tC hs;simp only at ho;rw[rz hx (lB ho)];refine .pure hr hz3 (x:=.c (.ep id m 0)) (fun _=>MG rfl (by simpa using h2) hm) (cf (dJ rfl (by cases t<;>rfl))) ⟨hk,by cases t<;>trivial,fun u w' v' ho'=>?_,fun u w' v' ho'=>?_⟩
   .have:=(fX.1 hm).2;rw[IL ho ho'];exact this
   .rcases ho with ho|ho<;>rw[ho]at ho'<;>cases ho'
  .simp at hz
 |sr id=>
  simp only at hz;split at hz
  .rename_i t v ln ho;obtain⟨h2,hz2⟩:=aN hz;obtain⟨m,hm,hz3⟩:=qX hz2;rw[H8 hx (rC ho)];refine .pure hr hz3 (x:=.c (.ep id m 0)) (fun _=>MG (t:=.sl t) rfl (Eq.trans (rfl:bR (.sl t)=1) (beq_iff_eq.1 h2)) hm) (cf (dJ rfl rfl)) ⟨hk,trivial,fun u w' v' ho'=>?_,fun u w' v' ho'=>?_⟩
   .rw [ho]at ho';rcases ho' with ho'|ho'<;>cases ho'
   .rw [ho]at ho';cases ho';exact(fX.1 hm).2
  .simp at hz
 |sb id ver lo t v=>
  simp only at hz;obtain⟨h2,hz2⟩:=aN hz;obtain⟨m,hm,hz3⟩:=qX hz2;obtain rfl:bR t=sz:=by simpa using h2
  rw[pG hx ha];have hm2:=(fX.1 hm).2;cases v with
  |nil=>exact Jl hm
  |mk w=>refine .pure hr hz3 (x:=.c (.ep id (lo+m) 0)) (fun _=>Pd (l:=w) hm) (cf (dJ rfl (by cases t<;>rfl))) ⟨hk.1,by cases t<;>trivial,fun u w' v' ho'=>?_,fun u w' v' ho'=>by obtain⟨u0,s0,ho⟩:=kX (h:=s.heap) (id:=id) (ver:=ver) (c_.1 ha).2;rcases ho with ho|ho<;>rw[ho]at ho'<;>cases ho'⟩;obtain⟨u0,s0,ho⟩:=kX (h:=s.heap) (id:=id) (ver:=ver) (c_.1 ha).2;obtain⟨_,h4⟩:=hk.2 u0 s0 ver ho;obtain⟨_,h6⟩:=h4 rfl;rw[IL ho ho'];cases s0 with|nil=>exact h6.elim|mk l=>have:=h6.1;simp only[Sl.l]at hm2|-;omega
 |_=>simp at hz
theorem Jm{x:V}{y:TV}{n0 sz:Nat}{i:Int}{kd:IntKind}
  (hz:(match x with
  |.op id t p=>(match qr t p with|some (.ar n' u)=>bif(n'==n0)&&(bR u==sz)then(e_ i n0).bind fun m=>k (.op id t (p++[.ix m])) s []else none|_=>none)
  |.ep id q t p=>(match qr t p with|some (.ar n' u)=>bif(n'==n0)&&(bR u==sz)then(e_ i n0).bind fun m=>k (.ep id q t (p++[.ix m])) s []else none|_=>none)
  |.pt (.ar n' u) v=>bif(n'==n0)&&(bR u==sz)then(e_ i n0).bind fun m=>k (.pt u (gt v.1 m)) s []else none
  |_=>none)=some z)
  (hr:HR s.next h1 s.heap) (hx:fL s.heap x y) (hk:eS s.next s.heap x):yv h1 (.indexAddr (some n0) sz) [y,tI kd i] s k z:=by
 cases x with
 |op id t p=>
  simp only at hz;split at hz
  .rename_i n' u hu;obtain⟨h2,hz2⟩:=aN hz;obtain⟨m,hm,hz3⟩:=qX hz2;simp only[ai,beq_iff_eq]at h2;obtain⟨rfl,rfl⟩:=h2;obtain⟨rfl,hm2⟩:=fX.1 hm;obtain⟨q1,q2⟩:=FG p t u n' m hu hm2 hk.2;rw[uW hx];refine .pure hr hz3 (x:=.c (.op id (lX t p+m*bR u))) (fun _=>?_) (cf (dJ rfl ?_)) ⟨hk.1,q1⟩
   .simp only[lw,cA,cm,ii];rw[if_pos ⟨by omega,by omega⟩];simp
   .show [_]=[_];rw[q2]
  .simp at hz
 |ep id q t p=>
  simp only at hz;split at hz
  .rename_i n' u hu;obtain⟨h2,hz2⟩:=aN hz;obtain⟨m,hm,hz3⟩:=qX hz2;simp only[ai,beq_iff_eq]at h2;obtain⟨rfl,rfl⟩:=h2;obtain⟨rfl,hm2⟩:=fX.1 hm;obtain⟨q1,q2⟩:=FG p t u n' m hu hm2 hk.2.1;rw[rA hx];refine .pure hr hz3 (x:=.c (.ep id q (lX t p+m*bR u))) (fun _=>?_) (cf (dJ rfl ?_)) ⟨hk.1,q1,hk.2.2⟩
   .simp only[lw,cA,cm,ii];rw[if_pos ⟨by omega,by omega⟩];simp
   .show [_]=[_];rw[q2]
  .simp at hz
 |pt t v=>cases t with|ar n' u=>simp only at hz;obtain⟨h2,hz2⟩:=aN hz;obtain⟨m,hm,hz3⟩:=qX hz2;simp only[ai,beq_iff_eq]at h2;obtain⟨rfl,rfl⟩:=h2;obtain⟨rfl,hm2⟩:=fX.1 hm;obtain⟨hd,rfl⟩:=wQ hx;obtain⟨a1,a2⟩:=C4 v hm2;refine .pure hr hz3 (x:=.c (.d (.pt (aS u (gt v.1 m))))) (fun _=>?_) (cf (dJ rfl ⟨hd,rfl⟩)) trivial;simp only[lw,cA,cm,ii];rw[if_pos ⟨by omega,by omega⟩];simp only[mw];rw[if_pos a1,a2]|_=>simp at hz
 |_=>simp at hz
end
section
variable{h:H2}{n:Nat}{h1:bE}{β:Type}{s:S2}{k:V->S2->List Nat->Option β}{z:β}
theorem AZ{t u:Ty}{m:Sl (El t)}{m':Sl (El u)}(hc:gq (.sl t) (.sl u) m=some m'):t=u/\m'.l.map (aS u)=m.l.map (aS t):=by obtain⟨e,rfl⟩:=de hc;cases e;exact⟨rfl,rfl⟩
theorem Nh{c:C}{t:Ty}{id sz:Nat}{w:Sl (El t)}{ver:Nat}(hr:HR n h1 h)(hc:c=lC (bR t) (aS t) id w)(hsz:bR t=sz)(ho:fO h id=some (.ar t w ver)\/fO h id=some (.im t w ver)):
  ∃aw,iO sz h1 c=some (w.l.map (aS t),aw)/\∀i∈aw,i=id:=by
 subst hc hsz;cases w with
 |nil=>exact⟨[],rfl,fun i hi=>by simp at hi⟩
 |mk l=>
  refine⟨[id],?_,fun i hi=>by simpa using hi⟩;rcases ho with ho|ho
  .have hb:=(hr.ob id _ ho).2.1.2.2 l rfl;simp only[lC,iO,hb];rw[if_pos ⟨trivial,by simp⟩,sD];rfl
  .have hb:=(hr.ob id _ ho).2.1.2.2 l rfl;simp only[lC,iO,hb];rw[if_pos ⟨trivial,by simp⟩,sD];rfl
theorem K_{id lo ver sz:Nat}{t:Ty}{r:Sl (El t)}(hr:HR n h1 h)(hk:eS n h (.sb id ver lo t r))(ha:gW h (.sb id ver lo t r)=true)(hsz:bR t=sz):
  ∃aw,iO sz h1 (w_ id lo t r)=some (r.l.map (aS t),aw)/\∀i∈aw,i=id:=by
 subst hsz;obtain⟨u,s0,ho⟩:=kX (h:=h) (id:=id) (ver:=ver) (c_.1 ha).2;obtain⟨_,h4⟩:=hk.2 u s0 ver ho;obtain⟨h5,h6⟩:=h4 rfl;cases r with
 |nil=>exact⟨[],rfl,fun i hi=>by simp at hi⟩
 |mk w=>
  cases s0 with
  |nil=>exact h6.elim
  |mk l=>
   refine⟨[id],?_,fun i hi=>by simpa using hi⟩
   have hb:az h1 id=some (.aM (bR u) (l.map (aS u)))\/az h1 id=some (.oV (bR u) (l.map (aS u))):=by
    rcases ho with ho|ho
    .exact .inl ((hr.ob id _ ho).2.1.2.2 l rfl)
    .exact .inr ((hr.ob id _ ho).2.1.2.2 l rfl)
   rcases hb with hb|hb
   .simp only[w_,iO,hb];rw[if_pos ⟨trivial,by simpa using h6.1⟩];rw[aQ,h6.2];rfl
   .simp only[w_,iO,hb];rw[if_pos ⟨trivial,by simpa using h6.1⟩];rw[aQ,h6.2];rfl
theorem Fj{x:V}{y:TV}{t0 t:Ty}{m:Sl (El t)}{l:List Nat}{sz:Nat}(hr:HR n h1 h)(hx:fL h x y)(hk:eS n h x)(ha:gW h x=true)(hs:Ig t0 h x=some ⟨t,m,l⟩)(hsz:bR t=sz):
  ∃c aw,y=.c c/\iO sz h1 c=some (m.l.map (aS t),aw)/\∀i∈aw,i∈l:=by
 cases x with
 |nl j=>cases j with|zero=>simp only[Ig]at hs;obtain⟨rfl,e⟩:=iY (aa hs);obtain⟨rfl,rfl⟩:=ad (eq_of_heq e);exact⟨_,[],uX hx,rfl,fun i hi=>by simp at hi⟩|succ j=>simp[Ig,sJ]at hs
 |x u v=>cases u with|sl u=>simp only[Ig,sJ]at hs;obtain⟨rfl,e⟩:=iY (aa hs);obtain⟨rfl,rfl⟩:=ad (eq_of_heq e);subst hsz;exact⟨_,[],wP hx,K9,fun i hi=>by simp at hi⟩|_=>simp[Ig,sJ]at hs
 |so id=>obtain⟨ver,ho,e⟩:=tC (h:=h) (id:=id) hs;obtain rfl:l=[id]:=e;obtain⟨aw,q1,q2⟩:=Nh hr rfl hsz ho;exact⟨_,aw,rz hx (lB ho),q1,fun i hi=>by simpa using q2 i hi⟩
 |sb id ver lo u r=>simp only[Ig,sJ]at hs;obtain⟨rfl,e⟩:=iY (aa hs);obtain⟨rfl,rfl⟩:=ad (eq_of_heq e);obtain⟨aw,q1,q2⟩:=K_ hr hk ha hsz;exact⟨_,aw,pG hx ha,q1,fun i hi=>by simpa using q2 i hi⟩
 |_=>simp[Ig,sJ]at hs
def sU(s:S2):Option Nat->S2
 |none=>s
 |some id=>dZ s id none
theorem A4{lm:Option Nat}{t:Ty}{w:Sl (El t)}{u:fm}{aw l:List Nat}{m:Nat}(hr:HR s.next h1 s.heap)(hkl:∀id,lm=some id->id<s.next)(hd:Bc t=true)(hu:∀p∈u,p.1=s.next\/lm=some p.1)(hl:∀i∈aw,i∈l)(hm:m<=s.next+1)
  (hb:∀l,w=.mk l->az (u++h1) s.next=some (.aM (bR t) (l.map (aS t)))) {x:TV} (hx:x=.c (lC (bR t) (aS t) s.next w)):qq s (jf (sU s lm) (.ar t w 0)) h1 x u aw m (.so s.next) l:=by
 have hnx:(sU s lm).next=s.next:=by cases lm<;>rfl
 have hh:(jf (sU s lm) (.ar t w 0)).heap=(s.next,some (.ar t w 0))::(sU s lm).heap:=by simp only[jf,hnx]
 have hfo:∀i,fO (jf (sU s lm) (.ar t w 0)).heap i=if s.next=i then some (.ar t w 0)else if lm=some i then none else fO s.heap i:=by intro i;rw[hh,cM];cases lm with|none=>simp[sU]|some id=>simp only[sU,dZ,cM,bq]
 have hnn:(jf (sU s lm) (.ar t w 0)).next=s.next+1:=by simp only[jf,hnx]
 refine qq.Di (s.next::lm.toList) hr ⟨fun i o' hi ho=>?_⟩ ?_ ?_ ?_ ?_ hl ?_ ?_ ?_ ?_ ?_ ?_ (fun i hi h=>by rw[hfo,if_neg (by omega)];split<;>first|rfl|exact h)
 .rw [hfo,if_neg (by omega)]at ho;split at ho
  .simp at ho
  .exact .inl ⟨o',ho,ry.refl _⟩
 .cases lm<;>rfl
 .cases lm<;>rfl
 .rw [hnn];exact hm
 .rw [hnn];omega
 .cases lm<;>simp[jf,sU,dZ]
 .intro p hp;rcases hu p hp with e|e
  .simp [e]
  .simp [e]
 .intro i hi;rw[hfo,if_neg (fun e=>hi (by simp[e])),if_neg (fun e=>hi (by simp[e]))]
 .intro i hi o ho;rw[hfo]at ho;split at ho
  .rename_i e;subst e;obtain rfl:=aa ho;obtain⟨h3,h4⟩:=pC hd;exact⟨by rw[hnn];omega,⟨h3,h4,hb⟩,trivial⟩
  .rename_i e;split at ho
   .simp at ho
   .rename_i e2;rcases aK.1 hi with hi|hi
    .exact absurd hi.symm e
    .exact absurd (by simpa using hi) e2
 .rw [hx,hh,show s.next=s.next from rfl];exact vj
 .rw [hnn];exact aX _
theorem Hh{sz:Nat}{c:C}{new:List (List D)}{aw:List Nat}(hx:iO sz h1 c=some (new,aw))(hl:new.length<=2147483648){nx:Nat}{cl:Call}:
  cA cl (.append sz) [some (.c (.d (.lit (.slice none 0 0)))),some (.c c)] h1 nx=if new=[]then some (.c (.d (.lit (.slice none 0 0))),[],aw,nx)else some (.c (.eZ sz nx 0 new.length),[(nx,some (.aM sz new))],aw,nx+1):=by
 simp only[cA,nA,hx];rw[if_pos (by simpa[Co]using hl)];cases new<;>simp
theorem uL{lm:Option Nat}{t:Ty}{xs r:List (El t)}{sz:Nat}{c:C}{aw l:List Nat}(hr:HR s.next h1 s.heap)(hkl:∀id,lm=some id->id<s.next)(hd:Bc t=true)(hsz:bR t=sz)(hx:iO sz h1 c=some (xs.map (aS t),aw))(hc:h_ ([]++xs)=some r)
  (hl:∀i∈aw,i∈l) (hz:k (.so s.next) (jf (sU s lm) (.ar t (vM Sl.nil xs r) 0)) l=some z):yv h1 (.append sz) [.c (.d (.lit (.slice none 0 0))),.c c] s k z:=by
 subst hsz;obtain⟨rfl,hlen⟩:=vH.1 hc;refine⟨_,_,_,hz,fun cl=>?_⟩;simp only[aA,aV];rw[Hh hx (by simpa using hlen)];cases xs with|nil=>exact⟨_,_,_,_,rfl,A4 hr hkl hd (fun p hp=>by simp at hp) hl (bH _) (fun l e=>by cases e) rfl⟩|cons y ys=>refine⟨_,_,_,_,if_neg (by simp),A4 hr hkl hd (fun p hp=>by simp at hp;simp[hp]) hl (au _) (fun l e=>?_) rfl⟩;simp only[vM,bp]at e;cases e;rw[aY,dk,if_pos rfl]
theorem FW{t:Ty}{w xs r:List (El t)}{sz id off:Nat}{am:List (List D)}{c:C}{aw l:List Nat}(hr:HR s.next h1 s.heap)(hid:id<s.next)(hd:Bc t=true)(hsz:bR t=sz)(hl1:az h1 id=some (.aM sz am))(hle:off+w.length<=am.length)(hro:am.length<=off+(w.length+xs.length))(he:(am.drop off).take w.length=w.map (aS t))
  (hx:iO sz h1 c=some (xs.map (aS t),aw)) (hc:h_ (w++xs)=some r) (hl:∀i∈id::aw,i∈l) (hz:k (.so s.next) (jf (dZ s id none) (.ar t (vM (.mk w) xs r) 0)) l=some z):
  yv h1 (.append sz) [.c (.eZ sz id off (w.map (aS t)).length),.c c] s k z:=by
 subst hsz;obtain⟨rfl,hlen⟩:=vH.1 hc;have ea:vM (.mk w) xs (w++xs)=.mk (w++xs):=by cases xs<;>rfl
 rw[ea]at hz;refine⟨_,_,_,hz,fun cl=>⟨.c (.eZ (bR t) s.next 0 ((w++xs).map (aS t)).length),[(id,none),(s.next,some (.aM (bR t) ((w++xs).map (aS t))))],id::aw,s.next+1,?_,?_⟩⟩
 .simp only[aA,aV,cA,nA,hx,hl1];simp only[aQ,aF]at hlen|-;rw[if_pos ⟨trivial,by omega,by simpa[Co]using hlen⟩,he,<-gu,List.drop_eq_nil_of_le (by omega),List.append_nil]
 .refine A4 (lm:=some id) hr (fun i e=>by cases e;exact hid) hd (fun p hp=>?_) hl (au _) (fun l e=>?_) rfl
  .simp only[aK,iu,or_false]at hp;rcases hp with rfl|rfl<;>simp
  .cases e;rw[aT,dk,if_neg (by omega),aY,dk,if_pos rfl]
theorem C6{a x:V}{ya yx:TV}{t0:Ty}{sz:Nat}
  (hz:(match Ig t0 s.heap x with
  |some ⟨t,m,aw⟩=>bif(bR t==sz)&&Bc t then(match a with
   |.nl 0=>(h_ ([]++m.l)).bind fun r=>k (.so s.next) (jf s (.ar t (vM Sl.nil m.l r) 0)) aw
   |.x (.sl _) v=>bif Sl.fC v then((h_ ([]++m.l)).bind fun r=>k (.so s.next) (jf s (.ar t (vM Sl.nil m.l r) 0)) aw)else none
   |.so id=>(match fO s.heap id with
    |some (.ar u v _)=>(match gq (.sl t) (.sl u) m with
     |some m=>(h_ (v.l++m.l)).bind fun r=>k (.so s.next) (jf (dZ s id none) (.ar u (vM v m.l r) 0)) (id::aw)
     |none=>none)
    |_=>none)
   |.sb id _ lo u v=>(match fO s.heap id,gq (.sl t) (.sl u) m with
    |some (.ar _ s0 _),some m=>bif Nat.ble s0.l.length (lo+(v.l.length+m.l.length))then((h_ (v.l++m.l)).bind fun r=>k (.so s.next) (jf (dZ s id none) (.ar u (vM v m.l r) 0)) (id::aw))else none
    |_,_=>none)
   |_=>none)else none
  |none=>none)=some z)
  (hr:HR s.next h1 s.heap) (ha1:fL s.heap a ya) (ha2:eS s.next s.heap a) (ha3:gW s.heap a=true) (hx:fL s.heap x yx) (hk:eS s.next s.heap x) (ha:gW s.heap x=true):yv h1 (.append sz) [ya,yx] s k z:=by
 split at hz
 .rename_i t m l hs;obtain⟨h2,hz2⟩:=aN hz;simp only[ai,beq_iff_eq]at h2;obtain⟨hsz,hd⟩:=h2;obtain⟨c,aw,rfl,q1,q2⟩:=Fj hr hx hk ha hs hsz;clear hz;cases a with
  |nl j=>cases j with|zero=>obtain⟨r,hc,hz3⟩:=qX hz2;rw[uX ha1];exact uL (lm:=none) hr (fun _ e=>by cases e) hd hsz q1 hc q2 hz3|succ j=>simp at hz2
  |x u v=>
   cases u with
   |sl u=>obtain⟨hnil,hz3⟩:=aN hz2;obtain⟨r,hc,hz4⟩:=qX hz3;cases v with|mk=>cases hnil|nil=>obtain⟨cc,rfl,hcc⟩:=iT (v:=.x (.sl u) Sl.nil) ha1 rfl;obtain rfl:cc=Ce 0:=(List.cons.inj hcc.2).1;exact uL (lm:=none) hr (fun _ e=>by cases e) hd hsz q1 hc q2 hz4
   |_=>simp at hz2
  |so id=>
   simp only at hz2;split at hz2
   .rename_i u v ver ho;split at hz2
    .rename_i m' hm;obtain⟨rfl,e⟩:=AZ hm;obtain⟨r,hc,hz3⟩:=qX hz2;rw[rz ha1 (lB (.inl ho))];rw[<-e]at q1;cases v with
     |nil=>exact uL (lm:=some id) hr (fun _ e=>by cases e;exact ha2) hd hsz q1 hc (fun i hi=>aB _ (q2 i hi)) hz3
     |mk w=>
      have hb:=(hr.ob id _ ho).2.1.2.2 w rfl;subst hsz;refine FW (w:=w) hr ha2 hd rfl hb (by simp) (by simp only[aQ];omega) (by rw[<-aQ (f:=aS t)];exact sD) q1 hc (fun i hi=>?_) hz3;rcases aK.1 hi with rfl|hi
      .exact cV ..
      .exact aB _ (q2 i hi)
    .simp at hz2
   .simp at hz2
  |sb id ver lo u v=>
   simp only at hz2;split at hz2
   .rename_i u0 s0 v0 m' ho hm;obtain⟨rfl,e⟩:=AZ hm;obtain⟨hgd,hz2b⟩:=aN hz2;obtain⟨r,hc,hz3⟩:=qX hz2b;rw[pG ha1 ha3];rw[<-e]at q1;cases v with
    |nil=>exact uL (lm:=some id) hr (fun _ e=>by cases e;exact ha2.1) hd hsz q1 hc (fun i hi=>aB _ (q2 i hi)) hz3
    |mk w=>
     obtain⟨u1,s1,ho1⟩:=kX (h:=s.heap) (id:=id) (ver:=ver) (c_.1 ha3).2;obtain⟨_,h4⟩:=ha2.2 u1 s1 ver ho1;obtain⟨h5,h6⟩:=h4 rfl
     have ho2:fO s.heap id=some (.ar u1 s1 ver):=by
      rcases ho1 with ho1|ho1
      .exact ho1
      .rw [ho]at ho1;simp at ho1
     cases s1 with
     |nil=>exact h6.elim
     |mk l1=>
      have hb:=(hr.ob id _ ho2).2.1.2.2 l1 rfl;subst hsz;rw[h5]at hb
      refine FW (w:=w) hr ha2.1 hd rfl hb (by simpa using h6.1) (by
       rw[ho2]at ho;obtain⟨rfl,e2,_⟩:u1=u0/\_:=by simpa using ho
       cases eq_of_heq e2;have:=iK hgd;simpa[Sl.l]using this) h6.2 q1 hc (fun i hi=>?_) hz3
      rcases aK.1 hi with rfl|hi
      .exact cV ..
      .exact aB _ (q2 i hi)
   .simp at hz2
  |_=>simp at hz2
 .simp at hz
end
section
variable{h:H2}{n:Nat}{h1:bE}{β:Type}{s:S2}{k:V->S2->List Nat->Option β}{z:β}
theorem E9{id:Nat}{o o':O}{u:fm}{x:TV}{v:V}{aw l:List Nat}(hr:HR s.next h1 s.heap)(ho:fO s.heap id=some o)(hs:ry o o')(hu:∀p∈u,p.1=id)(hb:um ((id,some o')::s.heap) o' (az (u++h1) id))(hko:Be s.next ((id,some o')::s.heap) o')
  (hx:fL ((id,some o')::s.heap) v x) (hk:eS s.next ((id,some o')::s.heap) v) (hl:∀i∈aw,i∈l):qq s (dZ s id (some o')) h1 x u aw s.next v l:=by
 refine qq.Di [id] hr (iX.Bn ho hs) rfl rfl (au _) (au _) hl rfl (fun p hp=>by simp[hu p hp]) (fun i hi=>?_) (fun i hi o2 ho2=>?_) hx hk (fun i _ h=>by simp only[dZ];rw[cM,if_neg (fun e=>by rw[e,h]at ho;cases ho)];exact h)
 .simp only[dZ];rw[cM,if_neg fun e=>hi (by simp[e])]
 .obtain rfl:=aq.1 hi;simp only[dZ,sC]at ho2;obtain rfl:=aa ho2;exact⟨(hr.ob _ _ ho).1,hb,hko⟩
theorem qZ{id ver:Nat}{t:Ty}{w w':Sl (El t)}{u:fm}{x:TV}{v:V}{aw l:List Nat}(hr:HR s.next h1 s.heap)(ho:fO s.heap id=some (.ar t w ver))(hn:w.fC=w'.fC)(hlen:w.l.length=w'.l.length)(hu:∀p∈u,p.1=id)
  (hb:∀l,w'=.mk l->az (u++h1) id=some (.aM (bR t) (l.map (aS t)))) (hx:∀g,fL g v x) (hk:∀n g,eS n g v) (hl:∀i∈aw,i∈l):qq s (dZ s id (some (.ar t w' (ver+1)))) h1 x u aw s.next v l:=by
 obtain⟨h2,h3,_⟩:=(hr.ob id _ ho).2.1;exact E9 hr ho ⟨bH _,rfl,hn,hlen,fun e=>by omega⟩ hu ⟨h2,h3,hb⟩ trivial (hx _) (hk _ _) hl
theorem Ht{a x:V}{ya yx:TV}{t0:Ty}{sz:Nat}
  (hz:(match Ig t0 s.heap x with
  |some ⟨t,m,aw⟩=>bif bR t==sz then(match a with
   |.nl 0=>k (.x (.i .i64) (0:Int)) s aw
   |.so id=>(match fO s.heap id with
    |some (.ar u v ver)=>(match gq (.sl t) (.sl u) m with
     |some m=>k (.x (.i .i64) ((min m.l.length v.l.length:Nat):Int)) (dZ s id (some (.ar u (v.to (J9 v.l 0 v.l.length m.l)) (ver+1)))) (id::aw)
     |none=>none)
    |_=>none)
   |.sb id ver lo _ v=>(match fO s.heap id with
    |some (.ar u w ver')=>(match gq (.sl t) (.sl u) m with
     |some m=>bif ver'==ver then k (.x (.i .i64) ((min m.l.length v.l.length:Nat):Int)) (dZ s id (some (.ar u (w.to (J9 w.l lo v.l.length m.l)) (ver+1)))) (id::aw)else none
     |none=>none)
    |_=>none)
   |_=>none)else none
  |none=>none)=some z)
  (hr:HR s.next h1 s.heap) (ha1:fL s.heap a ya) (ha2:eS s.next s.heap a) (ha3:gW s.heap a=true) (hx:fL s.heap x yx) (hk:eS s.next s.heap x) (ha:gW s.heap x=true):yv h1 (.copy sz) [ya,yx] s k z:=by
 have hmem:∀{id:Nat}{aw l:List Nat},(∀i∈aw,i∈l)->∀i∈id::aw,i∈id::l:=fun q i hi=>by
  rcases aK.1 hi with rfl|hi
  .exact cV ..
  .exact aB _ (q i hi)
 split at hz
 .rename_i t m l hs;obtain⟨h2,hz2⟩:=aN hz;obtain rfl:bR t=sz:=by simpa using h2
  obtain⟨c,aw,rfl,q1,q2⟩:=Fj hr hx hk ha hs rfl;clear hz;cases a with
  |nl j=>cases j with|zero=>rw[uX ha1];exact⟨_,_,_,hz2,fun cl=>⟨tI .i64 0,[],aw,s.next,by simp only[aA,aV,cA,lF,Ce,q1];rfl,qq.pure hr (xi _ _) trivial q2⟩⟩|succ j=>simp at hz2
  |so id=>
   simp only at hz2;split at hz2
   .rename_i u v ver ho;split at hz2
    .rename_i m' hm;obtain⟨rfl,e⟩:=AZ hm;rw[rz ha1 (lB (.inl ho))];rw[<-e]at q1;cases v with
     |nil=>refine⟨_,_,_,hz2,fun cl=>⟨tI .i64 0,[],aw,s.next,by simp only[aA,aV,cA,lF,lC,q1];rfl,?_⟩⟩;exact qZ hr ho rfl rfl (fun p hp=>by simp at hp) (fun l e=>by cases e) (fun g=>by simpa[Sl.l]using xi .i64 0) (fun _ _=>trivial) fun i hi=>aB _ (q2 i hi)
     |mk w=>
      have hb:=(hr.ob id _ ho).2.1.2.2 w rfl;refine⟨_,_,_,hz2,fun cl=>⟨_,_,_,_,Od hb q1,?_⟩⟩;refine qZ hr ho rfl ?_ (fun p hp=>by simp at hp;simp[hp]) (fun l e=>?_) (fun g=>xi _ _) (fun _ _=>trivial) (hmem q2)
      .simp only[Sl.to,Sl.l];rw[tT (by omega)]
      .simp only[Sl.to,Sl.l]at e;cases e;rw[aY,dk,if_pos rfl];rfl
    .simp at hz2
   .simp at hz2
  |sb id ver lo u0 v=>
   simp only at hz2;split at hz2
   .rename_i u w ver' ho;split at hz2
    .rename_i m' hm;obtain⟨rfl,e⟩:=AZ hm;obtain⟨h3,hz3⟩:=aN hz2;obtain rfl:ver'=ver:=by simpa using h3
     rw[pG ha1 ha3];rw[<-e]at q1;obtain⟨_,h4⟩:=ha2.2 t w ver' (.inl ho);obtain⟨h5,h6⟩:=h4 rfl;cases v with
     |nil=>cases w with|mk w=>exact h6.elim|nil=>refine⟨_,_,_,hz3,fun cl=>⟨tI .i64 0,[],aw,s.next,by simp only[aA,aV,cA,lF,w_,q1];rfl,?_⟩⟩;exact qZ hr ho rfl rfl (fun p hp=>by simp at hp) (fun l e=>by cases e) (fun g=>by simpa[Sl.l]using xi .i64 0) (fun _ _=>trivial) fun i hi=>aB _ (q2 i hi)
     |mk v=>
      cases w with
      |nil=>exact h6.elim
      |mk w=>
       have hb:=(hr.ob id _ ho).2.1.2.2 w rfl;refine⟨_,_,_,hz3,fun cl=>⟨tI .i64 (min m'.l.length v.length:Nat),[(id,some (.aM (bR t) ((J9 w lo v.length m'.l).map (aS t))))],id::aw,s.next,?_,?_⟩⟩
       .simp only[aA,aV,cA,lF,w_,q1,hb,<-h5];rw[if_pos ⟨trivial,by simpa using h6.1⟩];simp only[EL,aQ];rfl
       .refine qZ hr ho rfl ?_ (fun p hp=>by simp at hp;simp[hp]) (fun l e=>?_) (fun g=>xi _ _) (fun _ _=>trivial) (hmem q2)
        .simp only[Sl.to,Sl.l];rw[tT h6.1]
        .simp only[Sl.to,Sl.l]at e;cases e;rw[aY,dk,if_pos rfl];rfl
    .simp at hz2
   .simp at hz2
  |_=>simp at hz2
 .simp at hz
theorem Bq{g:H2}:fL g (.tp .ni) (.iz []):=⟨[],rfl,rfl⟩
theorem ES{a:V}{ya:TV}{zz:List Value}
  (hz:(match a with
  |.sb id ver lo _ v=>(match fO s.heap id with
   |some (.ar u w ver')=>bif(ver'==ver)&&sI (mA u) zz&&Bc u then(L5 w lo v.l.length (rq u)).bind fun w=>k (.tp .ni) (dZ s id (some (.ar u w (ver+1)))) [id]else none
   |_=>none)
  |_=>none)=some z)
  (hr:HR s.next h1 s.heap) (ha1:fL s.heap a ya) (ha2:eS s.next s.heap a) (ha3:gW s.heap a=true):yv h1 (.clear zz) [ya] s k z:=by
 cases a with
 |sb id ver lo u0 v=>
  simp only at hz;split at hz
  .rename_i u w ver' ho;obtain⟨h3,hz2⟩:=aN hz;simp only[ai,beq_iff_eq]at h3;obtain⟨⟨rfl,q1⟩,q2⟩:=h3;have q1:=qu q1;subst q1;obtain⟨hd,_⟩:=pC q2;obtain⟨w',hw,hz3⟩:=qX hz2;rw[pG ha1 ha3];obtain⟨_,h4⟩:=ha2.2 u w ver' (.inl ho);obtain⟨h5,h6⟩:=h4 rfl;have hzl:c9 (mA u)=aS u (rq u):=(qt u hd).symm;have hlen:bR u=(mA u).length:=by have:=congrArg List.length hzl;rw[bK,c9,aQ]at this;exact this.symm
   cases w with
   |nil=>simp[L5]at hw
   |mk w=>
    cases v with
    |nil=>exact h6.elim
    |mk v=>
     simp only[L5,bq]at hw;subst hw;have hb:=(hr.ob id _ ho).2.1.2.2 w rfl;refine⟨_,_,_,hz3,fun cl=>⟨.iz [],[(id,some (.aM (bR u) ((J9 w lo v.length (av v.length (rq u))).map (aS u))))],[id],s.next,?_,?_⟩⟩
     .simp only[aA,aV,cA,oq,w_,hb,<-h5];rw[if_pos ⟨hlen,by simpa using h6.1⟩,hzl,<-EL];simp[aQ,List.map_replicate,List.take_of_length_le]
     .refine qZ hr ho rfl ?_ (fun p hp=>by simp at hp;simp[hp]) (fun l e=>?_) (fun g=>Bq) (fun _ _=>trivial) (fun i hi=>hi)
      .simp only[Sl.l];rw[tT (by simpa using h6.1)]
      .cases e;rw[aY,dk,if_pos rfl];rfl
  .simp at hz
 |_=>simp at hz
theorem Bt{id m:Nat}{t:Ty}{p:pj}{w:V}{ya yw:TV}(hr:HR s.next h1 s.heap)(ha1:fL s.heap (.op id t p) ya)(ha2:eS s.next s.heap (.op id t p))(hx:fL s.heap w yw)(hk:eS s.next s.heap w)
  (hz:(bif(wU w==m)then(match fO s.heap id with
  |some (.bx u c)=>bif decide (u=t)then(match qr t p with
   |some a=>(match KF a w with
    |some w=>(match nD c p w with|some c=>bif ei c false t then k (.tp .ni) (dZ s id (some (.bx t c))) [id]else none|none=>none)
    |none=>none)
   |none=>none)else none
  |_=>none)else none)=some z):yv h1 (.store m) [ya,yw] s k z:=by
 obtain⟨h2,hz2⟩:=aN hz;simp only[beq_iff_eq]at h2;clear hz;split at hz2
 .rename_i u c ho;obtain⟨h3,hz3⟩:=aN hz2;simp only[decide_eq_true_eq]at h3;subst h3;clear hz2;split at hz3
  .rename_i a ha;split at hz3
   .rename_i w' hw;split at hz3
    .rename_i c' hc;obtain⟨h4,hz4⟩:=aN hz3;obtain⟨cw,e1,e2⟩:=pZ (nU (D8 hw) hx);obtain⟨q1,q2,q3,q4⟩:=xz hw e1 hk;obtain⟨_,⟨cs,e3,e4,e5⟩,e6⟩:=hr.ob id _ ho;have l1:cw.length=wU w:=gZ e1;have l2:cw.length=bR a:=by rw[gZ q1,gz _ _ _ q2]
     have l3:cs.length=bR u:=by rw[gZ e4,gz _ _ _ e5]
     have l4:=vh p u a ha ha2.2;have q5:=u6 p c u w' c' cs cw a e5 e4 ha2.2 hc ha q1 l2;have q6:=Fe p c w' c' e6 q3 hc;rw[uW ha1];have hos:ry (.bx u c) (.bx u c'):=rfl;refine .Bn hr ho hos hz4 (fun cl=>?_) (b:=some (.box (aU cs (lX u p) cw))) ?_ ?_ Bq trivial (aw:=[id]) fun i hi=>hi
     .simp only[aA,aV,cA,ly,e2];rw[if_pos (l1.trans h2)];simp only[e3];rw[if_pos (by omega)]
     .exact ⟨_,rfl,kW (iX.Bn ho hos) q6 q5,h4⟩
     .exact gw (au _) (iX.Bn ho hos) q6
    .simp at hz3
   .simp at hz3
  .simp at hz3
 .simp at hz2
theorem qq.seq{s1 s':S2}{fu u:fm}{x:TV}{aw a l:List Nat}{m:Nat}{v:V}(eC:iX s.next s.heap s1.heap)(he:s1.dm=s.dm)(hg:s1.gh=s.gh)(hn:s1.next=s.next)(hwo:s1.wo=a++s.wo)(hu:∀p∈fu,p.1∈a)(hf:∀id,id∉a->fO s1.heap id=fO s.heap id)
  (hna:∀i∈a,fO s.heap i≠none) (hd:qq s1 s' (fu++h1) x u aw m v l):qq s s' h1 x (u++fu) aw m v l:=by
 obtain⟨d1,d2,d3,d4,d5,d6,d7,d8,d9,d10,W,w1,w2,w3⟩:=hd;refine⟨d1,d2,by rw[aJ];exact d3,iX.trans (Nat.le_of_eq hn.symm) eC d4,d5.trans he,d6.trans hg,d7,by omega,d9,fun i hi h=>d10 i (by omega) ((hf i fun q=>hna i q h).trans h),W++a,by rw[w1,hwo,aJ],fun p hp=>?_,fun i hi=>?_⟩
 .rcases ao.1 hp with hp|hp
  .exact aC _ (w2 p hp)
  .exact aG _ (hu p hp)
 .rw [w3 i fun q=>hi (aC _ q),hf i fun q=>hi (aG _ q)]
theorem JI{v w:V}{l:List Nat}(hf:iP h v=some (w,l)):Lj v:=by cases v<;>first|trivial|(simp[iP]at hf)
theorem oQ{a b:List D}(e:a.map C.d=b.map C.d):a=b:=by
 induction a generalizing b with
 |nil=>cases b with|nil=>rfl|cons y b=>simp at e
 |cons x a ih=>cases b with|nil=>simp at e|cons y b=>simp only[aA,du,C.d.injEq]at e;rw[e.1,ih e.2]
theorem N_:∀(p:pj)(t u:Ty),kf t=true->qr t p=some u->kf u=true:=by
 intro p;induction p with
 |nil=>
  intro t u hd h;have e:qr t []=some t:=by cases t<;>rfl
  rw[e]at h;exact aa h▸hd
 |cons q p ih=>
  intro t u hd h;cases q with
  |fd i=>
   cases t with
   |st t=>
    simp only[qr]at h;split at h
    .rename_i w hw;exact ih w u (yf t i w hd hw) h
    .simp at h
   |_=>simp[qr]at h
  |ix i=>cases t with|ar l t=>exact ih t u hd h|_=>simp[qr]at h
theorem Fw(t:Ty):lX t []=0:=by cases t<;>rfl
theorem Dz{t:Ty}{l:List (Sl (El t))}{ln:Option (Nat×Nat)}{m:Nat}{r:Sl (El t)}(h:Fd ln m=true):(eL t l ln).set m (nV t r)=eL t (l.set m r) none:=by cases ln with|none=>simp only[eL,List.map_set]|some q=>obtain⟨m',i⟩:=q;obtain rfl:m'=m:=Nat.eq_of_beq_eq_true h;simp only[eL,List.map_set,List.set_set]
theorem DA{t:Ty}{l:List (Sl (El t))}{ln:Option (Nat×Nat)}:(eL t l ln).length=l.length:=by cases ln with|none=>simp[eL]|some q=>obtain⟨m',i⟩:=q;simp[eL]
theorem xn{id id2 m:Nat}{t:Ty}{l:List (Sl (El t))}{ln:Option (Nat×Nat)}{o2:O}{r:Sl (El t)}{u:fm}{aw:List Nat}(hr:HR s.next h1 s.heap)(ho:fO s.heap id=some (.rw t (.mk l) ln))(ho2:fO s.heap id2=some o2)(hne:id2≠id)(hlnm:Fd ln m=true)
  (hu:∀p∈u,p.1=id\/p.1=id2) (hb:az (u++h1) id=some (.nst (bR t) ((eL t l ln).set m (nV t r)))) (hids:∀i∈aw,i∈[id,id2]):
  qq s (dZ (dZ s id2 none) id (some (.rw t (.mk (l.set m r)) none))) h1 (.iz []) u aw s.next (.tp .ni) [id,id2]:=by
 have eC:iX s.next s.heap ((id,some (.rw t (.mk (l.set m r)) none))::(id2,none)::s.heap):=by refine iX.trans (au _) (iX.lm id2) (iX.Bn (o:=.rw t (.mk l) ln) ?_ ⟨rfl,rfl,by simp[Sl.l]⟩);rw[cM,if_neg hne];exact ho
 refine qq.Di [id,id2] hr eC rfl rfl (au _) (au _) hids rfl (fun p hp=>?_) (fun i hi=>?_) (fun i hi o ho'=>?_) Bq trivial (fun i _ h=>?_)
 .rcases hu p hp with e|e<;>simp[e]
 .simp only[aK,iu,or_false,not_or]at hi;simp only[dZ];rw[cM,if_neg (fun e=>hi.1 e.symm),cM,if_neg (fun e=>hi.2 e.symm)]
 .simp only[dZ]at ho';by_cases hi1:id=i
  .subst hi1;rw[cM,if_pos rfl]at ho';obtain rfl:=aa ho';obtain⟨a,⟨d1,d2,_⟩,_⟩:=hr.ob _ _ ho;exact⟨a,⟨d1,d2,fun l' e=>by cases e;rw[hb,Dz hlnm]⟩,trivial⟩
  .rw [cM,if_neg hi1]at ho';simp only[aK,iu,or_false]at hi;rcases hi with rfl|rfl
   .exact absurd rfl hi1
   .rw [cM,if_pos rfl]at ho';cases ho'
 .simp only[dZ];rw[cM,if_neg (fun e=>by subst e;rw[ho]at h;cases h),cM,if_neg (fun e=>by subst e;rw[ho2]at h;cases h)];exact h
theorem qq.nx{s s':S2}{x:TV}{u:fm}{aw l:List Nat}{m q:Nat}{v:V}(d:qq s s' h1 x u aw m v l)(hq:q<=s'.next):qq s s' h1 x u aw q v l:=⟨d.val,d.Rx,d.hr,d.eC,d.dm,d.gh,hq,d.le,d.aw,d.nb,d.wo⟩
theorem Bu{id m q:Nat}{t:Ty}{p:pj}{w:V}{ya yw:TV}(hr:HR s.next h1 s.heap)(ha1:fL s.heap (.ep id m t p) ya)(ha2:eS s.next s.heap (.ep id m t p))(hx:fL s.heap w yw)(hk:eS s.next s.heap w)(ha:gW s.heap w=true)
  (hz:(bif(wU w==q)then Dx id m t p w s (fun s l=>k (.tp .ni) s l)else none)=some z):yv h1 (.store q) [ya,yw] s k z:=by
 obtain⟨h2,hz2⟩:=aN hz;simp only[beq_iff_eq]at h2;clear hz;unfold Dx at hz2;split at hz2
 .rename_i u v ln ho;split at hz2
  .rename_i id2;split at hz2
   .rename_i u2 r ver ho2;split at hz2
    .rename_i r' hr';obtain⟨h3,hz3⟩:=aN hz2;simp only[ai,decide_eq_true_eq,Bool.not_eq_true',beq_eq_false_iff_ne]at h3;obtain⟨⟨rfl,hne⟩,hln⟩:=h3;obtain⟨e,e2⟩:=de hr';cases e;obtain rfl:r'=r:=e2;have hlen:=ha2.2.2.2 _ _ _ ho;obtain⟨_,⟨d1,d2,d3⟩,_⟩:=hr.ob id _ ho;obtain⟨_,⟨_,_,c3⟩,_⟩:=hr.ob id2 _ ho2;cases v with
     |nil=>simp[Sl.l]at hlen
     |mk l=>
      have d3:=d3 l rfl;have h2':q=1:=h2.symm;subst h2';rw[rA ha1,rz hx (lB (.inl ho2)),Fw];have hl2:m<(eL u l ln).length:=by rw[DA];exact hlen
      cases r' with
      |nil=>
       refine⟨_,_,_,hz3,fun cl=>⟨.iz [],[(id,some (.nst (bR u) ((eL u l ln).set m .nil)))],[id],s.next,?_,?_⟩⟩
       .simp only[aA,aV,cA,ly,lC,cellsOf,d3];rw[if_pos (show([_]:List C).length=1 from rfl)];rw[if_pos ⟨trivial,trivial,hl2⟩];simp only[qW]
       .exact xn hr ho ho2 hne hln (fun p hp=>by simp at hp;simp[hp]) (by rw[aY,dk,if_pos rfl];rfl) (fun i hi=>by simp at hi;simp[hi])
      |mk rr=>
       have c3:=c3 rr rfl;refine⟨_,_,_,hz3,fun cl=>⟨.iz [],[(id,some (.nst (bR u) ((eL u l ln).set m (.bv (rr.map (aS u)))))),(id2,none)],[id,id2],s.next,?_,?_⟩⟩
       .simp only[aA,aV,cA,ly,lC,cellsOf,d3];rw[if_pos (show([_]:List C).length=1 from rfl)];rw[if_pos ⟨trivial,trivial,hl2⟩];simp only[qW,c3];rw[if_pos ⟨trivial,by simp,hne⟩]
       .exact xn hr ho ho2 hne hln (fun p hp=>by simp at hp;rcases hp with rfl|rfl<;>simp) (by rw[aT,dk,if_pos rfl];rfl) (fun i hi=>hi)
    .simp at hz2
   .simp at hz2
  .simp at hz2
 .rename_i u l ver ho;split at hz2
  .rename_i w' a hw;obtain⟨h3,hz3⟩:=aN hz2;simp only[decide_eq_true_eq]at h3;subst h3;clear hz2;split at hz3
   .rename_i b2 hb;split at hz3
    .rename_i y hy;split at hz3
     .rename_i c hc;split at hz3
      .rename_i y2 hy2;split at hz3
       .rename_i s1 hs1;obtain⟨h4,hz4⟩:=aN hz3;obtain⟨cw,e1,e2⟩:=pZ (nU (JI hw) hx);obtain⟨ds,aw,f1,f2,f3,f4,f5⟩:=rO hr w w' a cw hw e1 hk ha;have e3:=oQ (iG w' false b2 y _ hy f2);have hlen:=ha2.2.2.1 u l ver (.inl ho)
        have hnm:∀(ds:List D)(cs:List C)(aw:List Nat),dC h1 cs=some (ds,aw)->ds.length=cs.length:=by
         intro ds cs;induction cs generalizing ds with
         |nil=>intro aw h;obtain⟨rfl,_⟩:[]=ds/\[]=aw:=by simpa[dC]using h
               rfl
         |cons c cs ih=>
          intro aw h;simp only[dC]at h;split at h
          .rename_i p1 p2 p3 p4 hp hq;obtain⟨rfl,rfl⟩:=ad (aa h);simp[ih _ _ hq]
          .simp at h
        have l1:cw.length=wU w:=gZ e1;have l2:ds.length=bR b2:=by rw[e3,bK]
        have l3:=hnm _ _ _ f1;have l4:=vh p u b2 hb ha2.2.1;cases l with
        |nil=>simp[Sl.l]at hlen
        |mk l=>
         obtain⟨_,⟨d1,d2,d3⟩,_⟩:=hr.ob id _ ho;have d3:=d3 l rfl;have q5:=u6 (h:=s.heap) p (.x u (gt l m)) u (.x b2 y) c ((aS u (gt l m)).map .d) ((aS b2 y).map .d) b2 (by simp[ei]) ⟨d1,rfl⟩ ha2.2.1 hc hb ⟨N_ p u b2 d1 hb,rfl⟩ (by simp[bK]);have q6:=o5 hy2 q5;rw[<-tq]at q6;have q7:=oQ q6;obtain⟨fu,g1,g2,g3,g4,g5,g6,g7,g8,g9⟩:=AL (s0:=s) rfl hr a s1 aw aw hs1 f3 f4;have hid:id∉a:=by simpa using h4
         have hid2:aw.contains id=false:=by cases hq:aw.contains id with|false=>rfl|true=>exact absurd ((f3 id (by simpa using hq)).1) hid
         rw[rA ha1];refine⟨_,_,_,hz4,fun cl=>⟨.iz [],(id,some (.aM (bR u) ((l.set m y2).map (aS u))))::fu,id::aw,s.next,?_,?_⟩⟩
         .simp only[aA,aV];exact KZ d3 hlen e2 (l1.trans h2) f1 g1 hid2 (by rw[bK];omega) (by rw[e3];exact q7)
         .have ho1:fO s1.heap id=some (.ar u (.mk l) ver):=by rw[g9 id hid];exact ho
          rw[<-g6]at g2
          have:=qZ (v:=.tp .ni) (x:=.iz []) (aw:=id::aw) (l:=id::a) (u:=[(id,some (.aM (bR u) ((l.set m y2).map (aS u))))]) g2 ho1 (w':=.mk (l.set m y2)) rfl (by simp[Sl.l]) (fun p hp=>by simp at hp;simp[hp]) (fun l' e=>by cases e;rw[aY,dk,if_pos rfl]) (fun _=>Bq) (fun _ _=>trivial) (fun i hi=>by
           rcases aK.1 hi with rfl|hi
           .exact cV ..
           .exact aB _ (f3 i hi).1)
          rw[g6]at this;exact qq.seq g3 g4 g5 g6 g7 g8 g9 (Ez rfl hs1) this
       .simp at hz3
      .simp at hz3
     .simp at hz3
    .simp at hz3
   .simp at hz3
  .simp at hz2
 .simp at hz2
end
section
variable{h:H2}{n:Nat}{h1:bE}{β:Type}{s:S2}{k:V->S2->List Nat->Option β}{z:β}
theorem th:∀{cs:List C}{ds:List D}{aw:List Nat},dC h1 cs=some (ds,aw)->ds.length=cs.length:=by
 intro cs;induction cs with
 |nil=>intro ds aw h;obtain⟨rfl,_⟩:[]=ds/\[]=aw:=by simpa[dC]using h
       rfl
 |cons c cs ih=>
  intro ds aw h;simp only[dC]at h;split at h
  .rename_i p1 p2 p3 p4 hp hq;obtain⟨rfl,rfl⟩:=ad (aa h);simp[ih hq]
  .simp at h
theorem MW{t:Ty}(hd:kf t=true)(m:Nat):(av m (rq t)).flatMap (aS t)=c9 ((av m (mA t)).flatten):=by induction m with|zero=>rfl|succ m ih=>simp only[g_,bl,dR,ih,qt t hd,c9,gu]
theorem AC(l:List Value):e9 l=(c9 l).map .d:=by simp[e9,c9]
theorem HX{t:Ty}(hd:kf t=true)(m:Nat):((av m (mA t)).flatten).length=m*bR t:=by have:=congrArg List.length (MW hd m);rw[j5 (bK t),List.length_replicate,c9,aQ]at this;exact this.symm
theorem CW{α:Type}{f:α->List D}{q:Nat}(hf:∀a,(f a).length=q):∀(l:List α),lG q l.length (l.flatMap f)=l.map f:=by intro l;induction l with|nil=>rfl|cons a l ih=>simp only[ce,lG,bl,aA];rw[List.take_left' (hf a),List.drop_left' (hf a),ih]
theorem DM{t:Ty}{len:Nat}(hr:HR n h1 h)(hd:kf t=true):∀(is:List Nat)(vs:List V)(m:Nat)(l:List (El t))(a:List Nat)(Dg:List C)(xs:List TV),xj h t len m is vs=some (l,a)->m<=len->Dg.length=m*bR t->
  lT h vs xs->(∀w∈vs,eS n h w)->(∀w∈vs,gW h w=true)->
  ∃cs aw,me (Dg++e9 ((av (len-m) (mA t)).flatten)) ((is.map fun i=>(i*bR t,bR t)).zip xs)=some (Dg++cs)/\dC h1 cs=some (l.flatMap (aS t),aw)/\(∀i∈aw,i∈a/\¬lU h i)/\(∀i∈a,i∈aw\/lU h i)/\l.length=len-m:=by
 intro is;induction is with
 |nil=>intro vs m l a Dg xs hf hm hpre hx hk ha;cases vs with|cons v vs=>simp[xj]at hf|nil=>simp only[xj,bq,Prod.mk.injEq]at hf;obtain⟨rfl,rfl⟩:=hf;obtain rfl:=lf hx;refine⟨_,[],rfl,?_,fun i hi=>by simp at hi,fun i hi=>by simp at hi,by simp⟩;rw[AC,MW hd];exact wM _
 |cons i is ih=>
  intro vs m l a Dg xs hf hm hpre hx hk ha;cases vs with
  |nil=>simp[xj]at hf
  |cons v vs=>
   simp only[xj]at hf;split at hf
   .rename_i w a1 hw;split at hf
    .rename_i y hy;obtain⟨hc,hf⟩:=aN hf;simp only[ai,Nat.ble_eq,Nat.blt_eq]at hc;obtain⟨hmi,hil⟩:=hc;split at hf
     .rename_i l1 b hl1;obtain⟨rfl,rfl⟩:=ad (aa hf);obtain⟨x,ys,rfl,hx1,hx2⟩:=gx hx;obtain⟨cw,e1,e2⟩:=pZ (nU (JI hw) hx1);obtain⟨ds,aw,f1,f2,f3,f4,_⟩:=rO hr v w a1 cw hw e1 (hk _ (by simp)) (ha _ (by simp));have e3:=oQ (iG w false t y _ hy f2);subst e3;have l1':cw.length=bR t:=by rw[<-th f1,bK]
      have lz:(e9 ((av (i-m) (mA t)).flatten)).length=(i-m)*bR t:=by simp only[e9,aQ];exact HX hd _
      have lz1:(e9 (mA t)).length=bR t:=by rw[AC,<-qt t hd,aQ,bK]
      have hpl:(Dg++e9 ((av (i-m) (mA t)).flatten)).length=i*bR t:=by rw[aF,hpre,lz,<-bQ,Nat.add_sub_cancel' hmi]
      obtain⟨cs,jds,g1,g2,g3,g4,g5⟩:=ih vs (i+1) l1 b (Dg++e9 ((av (i-m) (mA t)).flatten)++cw) ys hl1 hil (by rw[aF,hpl,l1',bQ,Nat.one_mul]) hx2 (fun w hw=>hk w (by simp[hw])) (fun w hw=>ha w (by simp[hw]));have hsplit:av (len-m) (mA t)=av (i-m) (mA t)++(mA t::av (len-(i+1)) (mA t)):=by rw[<-g_,List.replicate_append_replicate];congr 1;omega
      have hcells:Dg++e9 ((av (len-m) (mA t)).flatten)=(Dg++e9 ((av (i-m) (mA t)).flatten))++(e9 (mA t)++e9 ((av (len-(i+1)) (mA t)).flatten)):=by rw[hsplit,List.flatten_append,dR,rJ,rJ,aJ]
      refine⟨e9 ((av (i-m) (mA t)).flatten)++(cw++cs),aw++jds,?_,?_,fun j hj=>?_,fun j hj=>?_,by simp[g5];omega⟩
      .simp only[aA,List.zip_cons_cons,me,e2];rw[if_pos ⟨l1',by rw[hcells,aF,hpl,aF,lz1];omega⟩,hcells];have:aU ((Dg++e9 ((av (i-m) (mA t)).flatten))++(e9 (mA t)++e9 ((av (len-(i+1)) (mA t)).flatten))) (i*bR t) cw=(Dg++e9 ((av (i-m) (mA t)).flatten)++cw)++e9 ((av (len-(i+1)) (mA t)).flatten):=by have:=sg (a:=Dg++e9 ((av (i-m) (mA t)).flatten)) (b:=e9 (mA t)++e9 ((av (len-(i+1)) (mA t)).flatten)) (p:=cw) (off:=0);rw[hpl]at this;refine Eq.trans this ?_;rw[sf (by omega),lL (by omega)];simp only[aJ]
       rw[this,g1];simp only[aJ]
      .rw [List.flatMap_append,bl,MW hd];have hz:dC h1 (e9 ((av (i-m) (mA t)).flatten))=some (c9 ((av (i-m) (mA t)).flatten),[]):=by rw[AC];exact wM _
       exact(pE hz (pE f1 g2):dC h1 _=some (_,[]++(aw++jds)))
      .rcases ao.1 hj with hj|hj
       .exact ⟨aC _ (f3 j hj).1,(f3 j hj).2⟩
       .exact ⟨aG _ (g3 j hj).1,(g3 j hj).2⟩
      .rcases ao.1 hj with hj|hj
       .exact (f4 j hj).imp (aC _) id
       .exact (g4 j hj).imp (aG _) id
     .simp at hf
    .simp at hf
   .simp at hf
theorem CZ{t:Ty}{len sz:Nat}{zl:List Value}{pl:List Nat}{vs:List V}{xs:List TV}
  (hz:Ol t sz len zl pl vs s k=some z)
  (hr:HR s.next h1 s.heap) (hx:lT s.heap vs xs) (hk:∀w∈vs,eS s.next s.heap w) (ha:∀w∈vs,gW s.heap w=true):yv h1 (.buildSlice sz len zl pl) xs s k z:=by
 unfold Ol at hz;obtain⟨h2,hz2⟩:=aN hz;simp only[ai,beq_iff_eq]at h2;obtain⟨⟨rfl,h3⟩,h4⟩:=h2;have h3:=qu h3;subst h3;obtain⟨hd,hs0⟩:=pC h4;clear hz;split at hz2
 .rename_i l a hl;split at hz2
  .rename_i s1 hs1;obtain⟨cs,aw,g1,g2,g3,g4,g5⟩:=DM hr hd pl vs 0 l a [] xs hl (Nat.zero_le _) (by simp) hx hk ha;obtain⟨fu,f1,f2,f3,f4,f5,f6,f7,f8,f9⟩:=AL (s0:=s) rfl hr a s1 aw aw hs1 g3 g4;refine⟨_,_,_,hz2,fun cl=>⟨.c (.eZ (bR t) s.next 0 len),(s.next,some (.aM (bR t) (l.map (aS t))))::fu,aw,s.next+1,?_,?_⟩⟩
   .have hc:lG (bR t) len (l.flatMap (aS t))=l.map (aS t):=by have:=CW (bK t) l;rwa[show l.length=len by simpa using g5]at this
    simp only[cA,mm];have g1:me (e9 ((av len (mA t)).flatten)) ((pl.map fun i=>(i*bR t,bR t)).zip xs)=some cs:=by simpa using g1
    rw[g1];simp only[g2,f1,hc]
   .have hr1:HR s1.next (fu++h1) s1.heap:=by rw[f6];exact f2
    have hd1:qq s1 (jf s1 (.ar t (.mk l) 0)) (fu++h1) (.c (.eZ (bR t) s.next 0 len)) [(s1.next,some (.aM (bR t) (l.map (aS t))))] aw (s.next+1) (.so s1.next) a:=by refine qq.new hr1 (.inl rfl) (fun _=>⟨hd,hs0,fun l' e=>by cases e;rfl⟩) trivial ?_ (aX _) (fun i hi=>(g3 i hi).1) (by rw[f6];exact au _);have:=vj (h:=s1.heap) (t:=t) (s:=.mk l) (v:=0) (nx:=s1.next);rw[f6]at this|-;simpa[lC,show l.length=len by simpa using g5]using this
    rw[f6]at hd1;exact qq.seq f3 f4 f5 f6 f7 f8 f9 (Ez rfl hs1) hd1
  .simp at hz2
 .simp at hz2
theorem EH{ka va:Bool}{ks:List Kd}{zl:List Value}{id:Nat}{kv:V}{ya yk:TV}(hr:HR s.next h1 s.heap)(ha1:fL s.heap (.om id) ya)(hx:fL s.heap kv yk)
  (hz:(match fO s.heap id with
  |some (.mp kt vt m)=>(match sE kt kv with
   |some q=>bif(mx kt==ka)&&(mx vt==va)&&decide (Cu kt=some ks)&&sI (mA vt) zl&&kf vt&&(va||bR vt==1)then
     k (.tp (.co (.x vt (li m (rq vt) q).2.1) (.co (.x (.i .i64) (li m (rq vt) q).2.2) .ni))) (dZ s id (some (.mp kt vt (li m (rq vt) q).1))) [id]else none
   |none=>none)
  |_=>none)=some z):yv h1 (.mapEntry ka ks va zl) [ya,yk] s k z:=by
 split at hz
 .rename_i kt vt m ho;split at hz
  .rename_i q hq;obtain⟨hc,hz2⟩:=aN hz;simp only[ai,beq_iff_eq,decide_eq_true_eq]at hc;obtain⟨⟨⟨⟨⟨c1,c2⟩,c3⟩,c4⟩,c5⟩,c6⟩:=hc;rw[Do ha1];obtain⟨_,_,k3,_⟩:=wE kt ks c3;have hzz:c9 zl=aS vt (rq vt):=by rw[qt vt c5,qu c4]
   have hv:∀y,oF va (aS vt y)=some (OI vt y):=fun y=>Fa y c2 c6;have hkt:=Cr hx hq c3 c1;have e3:=(hr.ob id _ ho).2.1.2.2;rw[<-c2]at c6;have e4:az h1 id=Dh ka va (uR kt) (aS vt) m:=by rw[<-c1,<-c2];exact e3
   have hos:ry (.mp kt vt m) (.mp kt vt (li m (rq vt) q).1):=trivial;refine .Bn hr ho hos hz2 (fun cl=>Pp (z:=rq vt) e4 hkt k3 hzz hv) ⟨c5,⟨ks,c3⟩,by rw[c1,c2];rfl⟩ trivial ?_ ⟨trivial,trivial,trivial⟩ fun i hi=>hi;exact⟨_,rfl,_,_,rfl,H6 c5 c6,_,_,rfl,dJ rfl ⟨rfl,rfl⟩,rfl⟩
  .simp at hz
 .simp at hz
theorem J2:∀(l:List D),ye (l.map .d)=some l:=by intro l;induction l with|nil=>rfl|cons d l ih=>simp[ye,ih]
theorem CG{va:Bool}{m0 id:Nat}{kd:IntKind}{st:Int}{w:V}{ya yw:TV}(hr:HR s.next h1 s.heap)(ha1:fL s.heap (.om id) ya)(hx:fL s.heap w yw)
  (hz:(match fO s.heap id with
  |some (.mp kt vt m)=>(match sE vt w with
   |some y=>bif(mx vt==va)&&(bR vt==m0)&&kf vt then(uo m st y).bind fun m=>k (.tp .ni) (dZ s id (some (.mp kt vt m))) [id]else none
   |none=>none)
  |_=>none)=some z):yv h1 (.entryStore va m0) [ya,tI kd st,yw] s k z:=by
 split at hz
 .rename_i kt vt m ho;split at hz
  .rename_i y hy;obtain⟨hc,hz2⟩:=aN hz;simp only[ai,beq_iff_eq]at hc;obtain⟨⟨rfl,rfl⟩,c3⟩:=hc;obtain⟨m',hm,hz3⟩:=qX hz2;rw[Do ha1];obtain⟨_,hks,e3⟩:=(hr.ob id _ ho).2.1;obtain⟨g1,g2⟩:=uE hx hy;have hos:ry (.mp kt vt m) (.mp kt vt m'):=trivial;have hcs:(cellsOf yw).bind ye=some (aS vt y)/\wF yw=mx vt:=by cases hag:mx vt with|true=>rw[g1 hag];exact⟨by simp[cellsOf,J2],rfl⟩|false=>obtain⟨d,e,rfl⟩:=g2 hag;exact⟨by simp[cellsOf,ye,e],rfl⟩
   refine .Bn hr ho hos hz3 (fun cl=>Po (va:=mx vt) (ek:=uR kt) (ka:=mx kt) hm e3 hcs.1 (bK vt y) hcs.2) ⟨c3,hks,rfl⟩ trivial Bq trivial fun i hi=>hi
  .simp at hz
 .simp at hz
end
section
variable{h:H2}{n:Nat}{h1:bE}{β:Type}{s:S2}{k:V->S2->List Nat->Option β}{z:β}
theorem vu:∀{r:List V}{l:List Int}{xs:List TV},jk r=some l->lT h r xs->∃ks:List IntKind,ks.length=l.length/\xs=(ks.zip l).map fun p=>tI p.1 p.2:=by
 intro r;induction r with
 |nil=>
  intro l xs hl hx;obtain rfl:[]=l:=by simpa[jk]using hl
  exact⟨[],rfl,lf hx⟩
 |cons v r ih=>
  intro l xs hl hx;cases v with
  |x t v=>
   cases t with
   |i q=>
    simp only[jk]at hl;split at hl
    .rename_i l' hl';obtain rfl:=aa hl;obtain⟨x,ys,rfl,h1,h2⟩:=gx hx;obtain⟨ks,h3,rfl⟩:=ih hl' h2;exact⟨q::ks,by simp[h3],by rw[jY h1];rfl⟩
    .simp at hl
   |_=>simp[jk]at hl
  |_=>simp[jk]at hl
theorem Jt{r:List V}{xs:List TV}(hl:jk r=some [])(hx:lT h r xs):xs=[]:=by obtain⟨ks,h1,rfl⟩:=vu hl hx;cases ks<;>simp_all
theorem AF{r:List V}{a:Int}{xs:List TV}(hl:jk r=some [a])(hx:lT h r xs):∃q,xs=[tI q a]:=by obtain⟨ks,h1,rfl⟩:=vu hl hx;cases ks with|nil=>simp at h1|cons q ks=>exact⟨q,by cases ks<;>simp_all⟩
theorem Js{r:List V}{a b:Int}{xs:List TV}(hl:jk r=some [a,b])(hx:lT h r xs):∃q q',xs=[tI q a,tI q' b]:=by
 obtain⟨ks,h1,rfl⟩:=vu hl hx;cases ks with
 |nil=>simp at h1
 |cons q ks=>cases ks with|nil=>simp at h1|cons q' ks=>exact⟨q,q',by cases ks<;>simp_all⟩
theorem Aj{x y:ByteArray}{lo hi:Option Int}(hs:yF x (lo.getD 0) (hi.getD x.size)=some y)(sz:Nat):fF true sz (.d (dS x)) lo hi=some (.d (dS y)):=by
 unfold yF at hs;split at hs
 .rename_i hb;obtain rfl:=aa hs;simp only[fF,if_true];rw[if_pos hb]
 .simp at hs
theorem By{x:ByteArray}{r:List V}{lo hi:Bool}{sz:Nat}{y:TV}{ys:List TV}(hr:HR s.next h1 s.heap)(hy:fL s.heap (.x .s x) y)(hys:lT s.heap r ys)
  (hz:(match lo,hi,jk r with
  |false,false,some []=>(yF x 0 x.size).bind fun y=>k (.x .s y) s []
  |true,false,some [l]=>(yF x l x.size).bind fun y=>k (.x .s y) s []
  |false,true,some [u]=>(yF x 0 u).bind fun y=>k (.x .s y) s []
  |true,true,some [l,u]=>(yF x l u).bind fun y=>k (.x .s y) s []
  |_,_,_=>none)=some z):yv h1 (.slice true sz lo hi) (y::ys) s k z:=by
 rw[vR hy];split at hz
 .rename_i hi;obtain rfl:=Jt hi hys;obtain⟨w,hw,hz2⟩:=qX hz;exact .pure hr hz2 (fun _=>by simp only[aA,aV,cA];rw[Aj (lo:=none) (hi:=none) hw]) (OH w) trivial
 .rename_i l hi;obtain⟨q,rfl⟩:=AF hi hys;obtain⟨w,hw,hz2⟩:=qX hz;exact .pure hr hz2 (fun _=>by simp only[aA,aV,cA,cm];rw[Aj (lo:=some l) (hi:=none) hw]) (OH w) trivial
 .rename_i l hi;obtain⟨q,rfl⟩:=AF hi hys;obtain⟨w,hw,hz2⟩:=qX hz;exact .pure hr hz2 (fun _=>by simp only[aA,aV,cA,cm];rw[Aj (lo:=none) (hi:=some l) hw]) (OH w) trivial
 .rename_i l u hi;obtain⟨q,q',rfl⟩:=Js hi hys;obtain⟨w,hw,hz2⟩:=qX hz;exact .pure hr hz2 (fun _=>by simp only[aA,aV,cA,cm];rw[Aj (lo:=some l) (hi:=some u) hw]) (OH w) trivial
 .simp at hz
theorem Bz{x:V}{r:List V}{lo hi:Bool}{sz:Nat}{y:TV}{ys:List TV}(hr:HR s.next h1 s.heap)(hy:fL s.heap x y)(hk:eS s.next s.heap x)(ha:gW s.heap x=true)(hys:lT s.heap r ys)
  (hz:(match lo,hi,jk r,Eg s.heap x with
  |false,false,some [],some n=>sN sz s.heap x 0 n fun v=>k v s []
  |true,false,some [l],some n=>sN sz s.heap x l n fun v=>k v s []
  |false,true,some [u],some _=>sN sz s.heap x 0 u fun v=>k v s []
  |true,true,some [l,u],some _=>sN sz s.heap x l u fun v=>k v s []
  |_,_,_,_=>none)=some z):yv h1 (.slice false sz lo hi) (y::ys) s k z:=by
 split at hz
 .rename_i m hi hm;obtain rfl:=Jt hi hys;obtain⟨v,c,c',rfl,h3,h4,h5,h6⟩:=AV (lo:=none) (hi:=none) hr hy hk ha hm hz;exact .pure hr h3 (fun _=>by simp only[aA,aV,cA];rw[h4]) h5 h6
 .rename_i l m hi hm;obtain⟨q,rfl⟩:=AF hi hys;obtain⟨v,c,c',rfl,h3,h4,h5,h6⟩:=AV (lo:=some l) (hi:=none) hr hy hk ha hm hz;exact .pure hr h3 (fun _=>by simp only[aA,aV,cA,cm];rw[h4]) h5 h6
 .rename_i u m hi hm;obtain⟨q,rfl⟩:=AF hi hys;obtain⟨v,c,c',rfl,h3,h4,h5,h6⟩:=AV (lo:=none) (hi:=some u) hr hy hk ha hm hz;exact .pure hr h3 (fun _=>by simp only[aA,aV,cA,cm];rw[h4]) h5 h6
 .rename_i l u m hi hm;obtain⟨q,q',rfl⟩:=Js hi hys;obtain⟨v,c,c',rfl,h3,h4,h5,h6⟩:=AV (lo:=some l) (hi:=some u) hr hy hk ha hm hz;exact .pure hr h3 (fun _=>by simp only[aA,aV,cA,cm];rw[h4]) h5 h6
 .simp at hz
theorem K3{t:Ty}{l:List (Sl (El t))}{m:Nat}(hm:m<l.length):(l.map (nV t))[m]?=some (nV t (gt l m)):=by rw[List.getElem?_map,aD hm];simp[gt,List.getD,aD hm]
theorem Ih{α:Type}{l:List α}{m:Nat}{x:α}(h:l[m]?=some x):l.set m x=l:=by obtain⟨hm,rfl⟩:=List.getElem?_eq_some_iff.1 h;exact List.set_getElem_self hm
theorem Ee{id m:Nat}{u:Ty}{y:TV}(hr:HR s.next h1 s.heap)(hx:fL s.heap (.ep id m u []) y)(hk:eS s.next s.heap (.ep id m u []))
  (hz:(match fO s.heap id with
  |some (.rw t v none)=>bif decide (u=.sl t)then k (.so s.next) (jf (dZ s id (some (.rw t v (some (m,s.next))))) (.ar t (gt v.l m) 0)) [id]else none
  |_=>none)=some z):yv h1 .sS [y] s k z:=by
 split at hz
 .rename_i t v ho;obtain⟨h2,hz2⟩:=aN hz;simp only[decide_eq_true_eq]at h2;subst h2;rw[rA hx,Fw];have hlen:=hk.2.2.2 _ _ _ ho;obtain⟨hid,⟨d1,d2,d3⟩,_⟩:=hr.ob id _ ho;cases v with
  |nil=>simp[Sl.l]at hlen
  |mk l=>
   have d3:=d3 l rfl;have hlen:m<l.length:=hlen;have eC:iX s.next s.heap ((s.next,some (.ar t (gt l m) 0))::(id,some (.rw t (.mk l) (some (m,s.next))))::s.heap):=iX.trans (au _) (iX.Bn (o':=.rw t (.mk l) (some (m,s.next))) ho ⟨rfl,rfl,rfl⟩) (iX.new _)
   have key:∀{x:TV}{u:fm},fL ((s.next,some (.ar t (gt l m) 0))::(id,some (.rw t (.mk l) (some (m,s.next))))::s.heap) (.so s.next) x->(∀p∈u,p.1=s.next\/p.1=id)->
     az (u++h1) id=some (.nst (bR t) (eL t l (some (m,s.next))))->(∀rr,gt l m=.mk rr->az (u++h1) s.next=some (.aM (bR t) (rr.map (aS t))))->∀{q:Nat},q<=s.next+1->
     qq s (jf (dZ s id (some (.rw t (.mk l) (some (m,s.next))))) (.ar t (gt l m) 0)) h1 x u [id] q (.so s.next) [id]:=by
    intro x u hx2 hu hb hb2 q hq;refine qq.Di [s.next,id] hr eC rfl rfl hq (bH _) (fun i hi=>hi) rfl (fun p hp=>?_) (fun i hi=>?_) (fun i hi o ho'=>?_) hx2 (aX _) (fun i hi h=>?_)
    .rcases hu p hp with e|e<;>simp[e]
    .simp only[aK,iu,or_false,not_or]at hi;simp only[jf,dZ];rw[cM,if_neg (fun e=>hi.1 e.symm),cM,if_neg (fun e=>hi.2 e.symm)]
    .simp only[jf,dZ]at ho'|-;by_cases hi1:s.next=i
     .subst hi1;rw[cM,if_pos rfl]at ho';obtain rfl:=aa ho';exact⟨aX _,⟨d1,d2,fun rr e=>hb2 rr e⟩,trivial⟩
     .rw [cM,if_neg hi1]at ho';simp only[aK,iu,or_false]at hi;rcases hi with rfl|rfl
      .exact absurd rfl hi1
      .rw [cM,if_pos rfl]at ho';obtain rfl:=aa ho';refine⟨by omega,⟨d1,d2,fun l' e=>by cases e;exact hb⟩,hlen,aX _,fun u' r' v' hf=>?_⟩;simp only[sC]at hf;rcases hf with hf|hf<;>cases hf;exact⟨rfl,rfl⟩
    .simp only[jf,dZ];rw[cM,if_neg (by omega),cM,if_neg (fun e=>by subst e;rw[ho]at h;cases h)];exact h
   have hs:=K3 (t:=t) hlen;refine⟨_,_,_,hz2,fun cl=>?_⟩;cases hg:gt l m with
   |nil=>
    refine⟨_,[],[id],s.next,?_,key (x:=.c (.d (.lit (.slice none 0 0)))) ?_ (fun p hp=>by simp at hp) ?_ (fun rr e=>by rw[hg]at e;cases e) (bH _)⟩
    .simp only[aA,aV,cA,gL,d3];rw[hg]at hs;simp only[kV,d3,eL,hs,nV];rfl
    .rw [hg];exact vj
    .rw [bp,d3];simp only[eL,hg,GC];rw[Ih (by rw[hs,hg];rfl)]
   |mk rr=>
    refine⟨_,[(s.next,some (.aM (bR t) (rr.map (aS t)))),(id,some (.nst (bR t) ((l.map (nV t)).set m (.dO s.next (rr.map (aS t)).length))))],[id],s.next+1,?_,key (x:=.c (.eZ (bR t) s.next 0 (rr.map (aS t)).length)) ?_ (fun p hp=>by simp at hp;rcases hp with rfl|rfl<;>simp) ?_ (fun r2 e=>?_) (au _)⟩
    .simp only[aA,aV,cA,gL,d3];rw[hg]at hs;simp only[kV,d3,eL,hs,nV];rfl
    .rw [hg];exact vj
    .rw [aT,dk,if_neg (by omega),aT,dk,if_pos rfl];simp only[eL,hg,GC,aQ]
    .rw [hg]at e;cases e;rw[aT,dk,if_pos rfl]
 .simp at hz
theorem IY{szi:Nat}{t:Ty}{q q':IntKind}{a b:Int}(hr:HR s.next h1 s.heap)
  (hz:(bif(bR t==szi)&&Bc t then(Bf (Sl.nil:Sl (El t)) a b).bind fun r=>k (.sr s.next) (jf s (.rw t (.mk r) none)) []else none)=some z):yv h1 (.zD szi) [tI q a,tI q' b] s k z:=by
 obtain⟨hq,hp2⟩:=aN hz;simp only[ai,beq_iff_eq]at hq;obtain⟨rfl,q2⟩:=hq;obtain⟨hd,hs0⟩:=pC q2;obtain⟨r,hr2,hz3⟩:=qX hp2;unfold Bf at hr2;split at hr2
 .rename_i hb;obtain rfl:=aa hr2;refine .new (aw:=[]) hr hz3 (b:=some (.nst (bR t) (av a.toNat .nil))) (x:=.c (.eZ 1 s.next 0 a.toNat)) (fun _=>?_) ⟨hd,hs0,fun l' e=>by cases e;simp[eL,nV]⟩ trivial ?_ (aX _) fun i hi=>by simp at hi
  .simp only[aA,aV,cA,cm];rw[if_pos (by simpa[Co]using hb)]
  .refine cf (dJ rfl ⟨_,rfl,fun c' hc'=>?_,?_⟩)
   .rw [sC]at hc';obtain rfl:=aa hc';simp[lC]
   .have:=Al (sz:=1) (id:=s.next) (e:=aS (.sl t)) (s:=.mk (av a.toNat (Sl.nil:Sl (El t))));simpa[lC]using this
 .simp at hr2
theorem DY{o:OP}{vs:List V}{xs:List TV}(hp:part o vs s k=some z)(hr:HR s.next h1 s.heap)(hx:lT s.heap vs xs)(hk:∀w∈vs,eS s.next s.heap w)(ha:∀w∈vs,gW s.heap w=true):yv h1 o.o.k xs s k z:=by
 obtain⟨⟨d,kk,args,g⟩,t,fi⟩:=o;simp only;unfold part at hp;simp only at hp;split at hp
 .--quo
  obtain⟨x,y,rfl,h2,h3⟩:=iN hx;rw[jY h2,jY h3];obtain⟨hq,hp2⟩:=aN hp;simp only[decide_eq_true_eq]at hq;subst hq;obtain⟨r,hr2,hz⟩:=qX hp2;exact .pure hr hz (fun _=>N0 hr2) (xi _ _) trivial
 .obtain ⟨x,y,rfl,h2,h3⟩:=iN hx;rw[jY h2,jY h3];obtain⟨hq,hp2⟩:=aN hp;simp only[decide_eq_true_eq]at hq;subst hq;obtain⟨r,hr2,hz⟩:=qX hp2;exact .pure hr hz (fun _=>NZ hr2) (xi _ _) trivial
 .obtain ⟨x,y,rfl,h2,h3⟩:=iN hx;rw[jY h2,jY h3];obtain⟨r,hr2,hz⟩:=qX hp;exact .pure hr hz (fun _=>NY hr2) (xi _ _) trivial
 .obtain ⟨x,y,rfl,h2,h3⟩:=iN hx;rw[jY h2,jY h3];obtain⟨r,hr2,hz⟩:=qX hp;exact .pure hr hz (fun _=>NX hr2) (xi _ _) trivial
 .obtain ⟨x,y,rfl,h2,h3⟩:=iN hx;rw[vR h2,vR h3];obtain⟨r,hr2,hz⟩:=qX hp;exact .pure hr hz (fun _=>N1 hr2) (OH _) trivial
 .--alloc
  rename_i zl;obtain rfl:=lf hx;obtain⟨hq,hp2⟩:=aN hp;simp only[ai]at hq;obtain⟨q1,q2⟩:=hq;have q1:=qu q1;subst q1;refine .new (aw:=[]) hr hp2 (x:=.c (.op s.next 0)) (fun _=>rfl) ⟨_,rfl,?_,q2⟩ ?_ (cf (dJ rfl (by cases t<;>rfl))) ⟨aX _,by cases t<;>trivial⟩ fun i hi=>by simp at hi
  .exact ((wK (h:=(s.next,some (.bx t (Mu t)))::s.heap) (n:=s.next+1) t).1 q2).1
  .exact ((wK (h:=(s.next,some (.bx t (Mu t)))::s.heap) (n:=s.next+1) t).1 q2).2
 .--box
  obtain⟨x,rfl,h2⟩:=iw hx;split at hp
  .rename_i w hw;obtain⟨cw,e1,e2⟩:=pZ (nU (D8 hw) h2);obtain⟨q1,q2,q3,_⟩:=xz hw e1 (hk _ (by simp));refine .new (aw:=[]) hr hp (x:=.c (.op s.next 0)) (fun _=>by simp only[aA,aV,cA,e2]) ⟨_,rfl,kW (iX.new _) q3 q1,q2⟩ (gw (bH _) (iX.new _) q3) (cf (dJ rfl (by cases t<;>rfl))) ⟨aX _,by cases t<;>trivial⟩ fun i hi=>by simp at hi
  .simp at hp
 .exact CZ hp hr hx hk ha
 .--store
  obtain⟨x,y,rfl,h2,h3⟩:=iN hx;exact Bt hr h2 (hk _ (by simp)) h3 (hk _ (by simp)) hp
 .--sS
  obtain⟨x,rfl,h2⟩:=iw hx;exact Ee hr h2 (hk _ (by simp)) hp
 .--zD
  obtain⟨x,y,rfl,h2,h3⟩:=iN hx;rw[jY h2,jY h3];split at hp
  .exact IY hr hp
  .simp at hp
 .obtain ⟨x,y,rfl,h2,h3⟩:=iN hx;exact Bu hr h2 (hk _ (by simp)) h3 (hk _ (by simp)) (ha _ (by simp)) hp
 .--makeSlice
  rename_i zl _ l _ c;obtain⟨x,y,rfl,h2,h3⟩:=iN hx;rw[jY h2,jY h3];obtain⟨hq,hp2⟩:=aN hp;simp only[ai]at hq;obtain⟨q1,q2⟩:=hq;have q1:=qu q1;subst q1;obtain⟨hd,hs0⟩:=pC q2;obtain⟨r,hr2,hz⟩:=qX hp2;have hzl:c9 (mA t)=aS t (rq t):=(qt t hd).symm;have hlen:(mA t).length=bR t:=by have:=congrArg List.length hzl;rwa[bK,c9,aQ]at this
  refine .new hr hz (fun _=>LV hzl hr2) ⟨hd,hs0,fun l' e=>by cases e;rw[hlen]⟩ trivial ?_ (aX _) fun i hi=>by simp at hi
  rw[hlen];exact vj (s:=.mk r)
 .--slice of a string
  obtain⟨y,ys,rfl,h2,h3⟩:=gx hx;exact By hr h2 h3 hp
 .obtain ⟨y,ys,rfl,h2,h3⟩:=gx hx;exact Bz hr h2 (hk _ (by simp)) (ha _ (by simp)) h3 hp
 .obtain ⟨x,y,rfl,h2,h3⟩:=iN hx;rw[jY h3];exact Jn hp hr h2 (hk _ (by simp)) (ha _ (by simp))
 .obtain ⟨x,y,rfl,h2,h3⟩:=iN hx;rw[jY h3];exact Jm hp hr h2 (hk _ (by simp))
 .--oU
  obtain⟨x,y,rfl,h2,h3⟩:=iN hx;rw[vR h2,jY h3];obtain⟨r,hr2,hz⟩:=qX hp;exact .pure hr hz (fun _=>Pm hr2) (xi _ _) trivial
 .--index
  rename_i ag n0 sz0 n' u v _ i;obtain⟨x,y,rfl,h2,h3⟩:=iN hx;rw[jY h3];obtain⟨hq,hp2⟩:=aN hp;simp only[ai,beq_iff_eq]at hq;obtain⟨⟨⟨⟨rfl,rfl⟩,q3⟩,q4⟩,q5⟩:=hq;obtain⟨m,hm,hz⟩:=qX hp2;obtain⟨rfl,hm2⟩:=fX.1 hm;rw[Rr h2];obtain⟨a1,a2⟩:=C4 v hm2;have hc:EU s.heap ag (bR u) (.x u (gt v.1 m))=true:=by simp[EU,rZ,wU,gW,q3,q4,q5]
  obtain⟨x,e1,e2⟩:=oR (cs:=(aS (.ar n' u) v).map .d) (off:=m*bR u) (cw:=(aS u (gt v.1 m)).map .d) hc ⟨q4,rfl⟩ (by simpa using a1) (by rw[<-fV,<-gH,a2]);refine .pure hr hz (x:=x) (fun _=>?_) e2 trivial;simp only[aA,aV,cA,cm];rw[if_pos ⟨by omega,by omega⟩];simp only[mw,e1]
 .--append
  obtain⟨x,y,rfl,h2,h3⟩:=iN hx;exact C6 (t0:=t) hp hr h2 (hk _ (by simp)) (ha _ (by simp)) h3 (hk _ (by simp)) (ha _ (by simp))
 .obtain ⟨x,y,rfl,h2,h3⟩:=iN hx;exact Ht (t0:=t) hp hr h2 (hk _ (by simp)) (ha _ (by simp)) h3 (hk _ (by simp)) (ha _ (by simp))
 .--clear
  obtain⟨y,rfl,h2⟩:=iw hx;exact ES hp hr h2 (hk _ (by simp)) (ha _ (by simp))
 .--makeMap
  obtain rfl:=lf hx;split at hp
  .rename_i kt vt;obtain⟨hq,hp2⟩:=aN hp;simp only[ai,beq_iff_eq]at hq;obtain⟨⟨⟨rfl,rfl⟩,q3⟩,q4⟩:=hq;obtain⟨ks,hks⟩:=Option.isSome_iff_exists.1 q4;exact .new hr hp2 (x:=.c (.om s.next)) (fun _=>rfl) ⟨q3,⟨ks,hks⟩,rfl⟩ trivial (cf (dJ rfl rfl)) (aX _) fun i hi=>by simp at hi
  .simp at hp
 .obtain ⟨x,y,rfl,h2,h3⟩:=iN hx;exact EH hr h2 h3 hp
 .obtain ⟨x,y,w,rfl,h2,h3,h4⟩:=M7 hx;rw[jY h3];exact CG hr h2 h4 hp
 .simp at hp
end
end Go.Ev
