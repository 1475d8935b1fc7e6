/- Operations that do not fail, against the abstract machine's, second part. Conditions: as stated. -/
import Derived.Test.YthcplpfiidlinaaDoorFh
import Ieee.Arith
open Bool renaming and_eq_true->ai,and_eq_true_iff->dR,eq_iff_iff->dq
open Int renaming toNat_natCast->ei
open List renaming append_assoc->aL,cons_append->aU,drop_drop->dv,flatMap_cons->bi,flatten_cons->eh,getElem?_eq_getElem->aw,length->mL,length_append->av,length_cons->da,length_eq_zero_iff->a_,length_map->aN,map->mh,map_append->gP,map_cons->aB,map_drop->gz,map_map->lK,map_nil->aW,map_take->hZ,mem_append->ap,mem_append_left->aF,mem_append_right->aH,mem_cons->aP,mem_cons_of_mem->aA,mem_cons_self->cq,mem_singleton->aq,nil_append->bk,not_mem_nil->gf,replicate->az,replicate_succ->iC,singleton_append->bo
open List.cons renaming injEq->dM
open Nat renaming add_assoc->cP,add_mul->bP,le_of_ble_eq_true->je,le_refl->au,le_succ->bO,lt_succ_self->aZ
open Option.some renaming inj->aa,injEq->bm
open Prod.mk renaming inj->ad
open Sigma.mk renaming inj->jw
namespace Go.Ev
section
variable{h:H2}{n:Nat}{h1:bH}
theorem PO{a b:Value}(he:SZ a b=true):a=b:=by unfold SZ at he;split at he<;>simp_all
theorem qZ:∀{a b:List Value},tW a b=true->a=b:=by
 intro a;induction a with
 |nil=>intro b he;cases b<;>first|rfl|(simp[tW]at he)
 |cons x a ih=>intro b he;cases b with|nil=>simp[tW]at he|cons y b=>simp only[tW,ai]at he;rw[PO he.1,ih he.2]
theorem sN(a b:List Value):fB (a++b)=fB a++fB b:=by simp[fB]
theorem qY:∀(t:Ty),kY t=true->aT t (si t)=cF (ny t):=by
 intro t;induction t with
 |pr a c iha ihc=>intro hd;simp only[kY,ai]at hd;simp[aT,si,ny,cF,iha hd.1,ihc hd.2]
 |st t ih=>intro hd;exact ih hd
 |ar m t ih=>intro hd;have e:=ih hd;simp only[aT,si,ny];clear hd ih;induction m with|zero=>rfl|succ m ihm=>simp only[iC,bi,eh,e,cF,gP]at ihm|-;rw[ihm]
 |o k=>intro hd;simp[kY]at hd
 |mp k v=>intro hd;simp[kY]at hd
 |_=>intro _;rfl
theorem xP:∀(t:Ty),(eF (Bx t).1 false t=true->fC h (Bx t).1 (fB (ny t))/\ft n h (Bx t).1)/\(eF (Bx t).2 true t=true->fC h (Bx t).2 (fB (ny t))/\ft n h (Bx t).2):=by
 have one:∀(t:Ty)(v:V),(fC h v (fB (ny t))/\ft n h v)->(fC h (.co v .ni) (fB (ny t))/\ft n h (.co v .ni)):=fun t v hv=>⟨⟨_,[],by simp,hv.1,rfl⟩,hv.2,trivial⟩;have dt:∀(t:Ty),kY t=true->fC h (.x t (si t)) (fB (ny t)):=fun t hd=>⟨hd,by rw[qY t hd];simp[fB,cF]⟩;intro t;induction t with
 |pr a c iha ihc=>refine⟨fun hf=>by simp[Bx,eF]at hf,fun hf=>?_⟩;simp only[Bx,eF,ai]at hf;obtain⟨q1,q3⟩:=iha.1 hf.1;obtain⟨q4,q5⟩:=ihc.2 hf.2;exact⟨⟨_,_,sN _ _,q1,q4⟩,q3,q5⟩
 |st t ih=>cases hd:kY t with|true=>have:=dt (.st t) hd;simp only[Bx,hd,cond_true];exact⟨fun _=>⟨this,trivial⟩,fun _=>one (.st t) _ ⟨this,trivial⟩⟩|false=>simp only[Bx,hd,cond_false];exact⟨fun hf=>ih.2 hf,fun hf=>one (.st t) _ (ih.2 hf)⟩
 |sl t ih=>cases hd:kY t with|true=>have:=dt (.sl t) hd;simp only[Bx,hd,cond_true];exact⟨fun _=>⟨this,trivial⟩,fun _=>one (.sl t) _ ⟨this,trivial⟩⟩|false=>simp only[Bx,hd,cond_false];exact⟨fun _=>⟨rfl,trivial⟩,fun _=>one (.sl t) _ ⟨rfl,trivial⟩⟩
 |ar m t ih=>cases hd:kY t with|true=>have:=dt (.ar m t) hd;simp only[Bx,hd,cond_true];exact⟨fun _=>⟨this,trivial⟩,fun _=>one (.ar m t) _ ⟨this,trivial⟩⟩|false=>simp only[Bx,hd,cond_false];exact⟨fun hf=>by simp[eF]at hf,fun hf=>by simp[eF]at hf⟩
 |o k=>
  have:fC h (.nl k) (fB (ny (.o k))):=by
   show fB (ny (.o k))=[Dz k]
   rcases k with _|_|_|_|k<;>rfl
  exact⟨fun _=>⟨this,trivial⟩,fun _=>one (.o k) _ ⟨this,trivial⟩⟩
 |mp k v=>exact⟨fun _=>⟨rfl,trivial⟩,fun _=>one (.mp k v) _ ⟨rfl,trivial⟩⟩
 |un=>exact⟨fun _=>⟨dt .un rfl,trivial⟩,fun _=>one .un _ ⟨dt .un rfl,trivial⟩⟩
 |i k=>exact⟨fun _=>⟨dt (.i k) rfl,trivial⟩,fun _=>one (.i k) _ ⟨dt (.i k) rfl,trivial⟩⟩
 |b=>exact⟨fun _=>⟨dt .b rfl,trivial⟩,fun _=>one .b _ ⟨dt .b rfl,trivial⟩⟩
 |s=>exact⟨fun _=>⟨dt .s rfl,trivial⟩,fun _=>one .s _ ⟨dt .s rfl,trivial⟩⟩
 |f k=>exact⟨fun _=>⟨dt (.f k) rfl,trivial⟩,fun _=>one (.f k) _ ⟨dt (.f k) rfl,trivial⟩⟩
theorem yE{t:Ty}{v w:V}{cs:List C}(hw:Nd t v=some w)(hv:fC h v cs)(hk:ft n h v):fC h w cs/\eF w false t=true/\ft n h w/\te w=te v:=by
 unfold Nd at hw;split at hw
 .rename_i y hy;obtain rfl:=aa hw;cases hd:kY t with|false=>rw[hd]at hy;simp at hy|true=>rw[hd,cond_true]at hy;exact⟨⟨hd,pJ hy hv⟩,by simp[eF],trivial,(Er hy).symm⟩
 .cases hf:eF v false t with|false=>rw[hf]at hw;simp at hw|true=>rw[hf,cond_true]at hw;obtain rfl:=aa hw;exact⟨hv,hf,hk,rfl⟩
theorem MN{t:Ty}{v:V}{y:El t}(hy:ij t v=some y):NX v:=by cases v<;>first|trivial|(simp[ij]at hy)
theorem Ov{t:Ty}{v:V}(hf:eF v false t=true):NX v:=by cases v<;>first|trivial|(cases t<;>simp[eF]at hf)
theorem FM{t:Ty}{v w:V}(hw:Nd t v=some w):NX v:=by
 unfold Nd at hw;split at hw
 .rename_i y hy;cases hd:kY t with|false=>rw[hd]at hy;simp at hy|true=>rw[hd,cond_true]at hy;exact MN hy
 .cases hf:eF v false t with|false=>rw[hf]at hw;simp at hw|true=>exact Ov hf
theorem QF{t:Ty}{v:V}(hf:eF v false t=true)(ha:nv t=true):te v=true:=by
 cases t<;>simp[nv]at ha
 all_goals(cases v<;>first|rfl|(simp[eF]at hf;done)|skip)
 .simp only[eF,decide_eq_true_eq]at hf;subst hf;rfl
 .simp only[eF,decide_eq_true_eq]at hf;subst hf;rfl
theorem MR{t:Ty}:∀(is:List Nat)(ps:List (Nat×Nat))(ws:List V)(c c':V)(cs:List C)(xs:List TV),xy t is ps ws c=some c'->eF c false t=true->fC h c cs->ft n h c->mN h ws xs->(∀w∈ws,ft n h w)->
  ∃cs',m_ cs (ps.zip xs)=some cs'/\fC h c' cs'/\ft n h c'/\eF c' false t=true:=by
 intro is;induction is with
 |nil=>
  intro ps ws c c' cs xs hb hf hc hk hx hw;cases ps with
  |cons p ps=>simp[xy]at hb
  |nil=>cases ws with|cons w ws=>simp[xy]at hb|nil=>obtain rfl:=aa hb;exact⟨cs,by simp[m_],hc,hk,hf⟩
 |cons i is ih=>
  intro ps ws c c' cs xs hb hf hc hk hx hw;cases ps with
  |nil=>simp[xy]at hb
  |cons p ps=>
   obtain⟨off,m⟩:=p;cases ws with
   |nil=>simp[xy]at hb
   |cons w ws=>
    obtain⟨x,ys,rfl,hx1,hx2⟩:=gU hx;have hw1:=hw w (by simp)
    have kI:∀(pe:Pe)(a:Ty),qW t [pe]=some a->IP t [pe]->mQ t [pe]=off->bE a=m->(match Nd a w with|some w=>(match oF c [pe] w with|some c=>bif eF c false t then xy t is ps ws c else none|none=>none)|none=>none)=some c'->
      ∃cs',m_ cs (((off,m),x)::ps.zip ys)=some cs'/\fC h c' cs'/\ft n h c'/\eF c' false t=true:=by
     intro pe a h1 h2 h3 h4 hb;split at hb
     .rename_i w1 hw1';obtain⟨cw,q1,q2⟩:=qA (oS (FM hw1') hx1);split at hb
      .rename_i c1 hc1;cases hfc:eF c1 false t with|false=>rw[hfc]at hb;simp at hb|true=>rw[hfc,cond_true]at hb;obtain⟨k1,k2,k3,_⟩:=yE hw1' q1 hw1;have hl:=iB k1;rw[gV _ _ _ k2,h4]at hl;have hsp:=vX [pe] c t w1 c1 cs cw a hf hc h2 hc1 h1 k1 (by rw[hl,h4]);rw[h3]at hsp;have hle:=wg [pe] t a h1 h2;have hcl:=iB hc;rw[gV _ _ _ hf]at hcl;obtain⟨cs',e1,e2,e3,e4⟩:=ih ps ws c1 c' _ ys hb hfc hsp (G0 _ _ _ _ hk k3 hc1) hx2 fun w hw'=>hw w (by simp[hw']);refine⟨cs',?_,e2,e3,e4⟩;simp only[m_,q2];rw[if_pos ⟨hl,by omega⟩,e1]
      .simp at hb
     .simp at hb
    cases t with
    |st u=>
     simp only[xy]at hb;split at hb
     .rename_i a ha;cases hq:(oX u i==off)&&(bE a==m)with|false=>rw[hq]at hb;simp at hb|true=>rw[hq,cond_true]at hb;simp only[ai,beq_iff_eq]at hq;exact kI (.fd i) a (by simp[qW,ha]) ⟨a,ha,by cases a<;>trivial⟩ (by simp only[mQ,ha];rw[hq.1];cases a<;>rfl) hq.2 hb
     .simp at hb
    |ar k u=>simp only[xy]at hb;cases hq:(i*bE u==off)&&(bE u==m)&&decide (i<k)with|false=>rw[hq]at hb;simp at hb|true=>rw[hq,cond_true]at hb;simp only[ai,beq_iff_eq,decide_eq_true_eq]at hq;exact kI (.ix i) u (by simp[qW]) ⟨hq.2,by cases u<;>trivial⟩ (by simp only[mQ];rw[hq.1.1];cases u<;>rfl) hq.1.2 hb
    |_=>simp[xy]at hb
end
theorem Q8(a b:ByteArray):(a==b)=decide (a=b):=by obtain⟨x⟩:=a;obtain⟨y⟩:=b;show ByteArray.beq ⟨x⟩ ⟨y⟩=_;unfold ByteArray.beq;rw[dq];simp[ByteArray.ext_iff]
def vL(t:Ty)(x:El t):List Value:=(aT t x).map fun|.lit y=>y|_=>.nilFunc
theorem xd{k1 k2:List Kd}{a1 a2 b1 b2:List Value}{p q:Bool}(h1:gJ k1 a1 b1=some p)(h2:gJ k2 a2 b2=some q):gJ (k1++k2) (a1++a2) (b1++b2)=some (p&&q):=by
 induction k1 generalizing a1 b1 p with
 |nil=>cases a1<;>cases b1<;>simp[gJ]at h1;subst h1;simpa using h2
 |cons k k1 ih=>
  cases a1<;>cases b1<;>simp only[gJ]at h1<;>first|cases h1;done|skip
  split at h1
  .rename_i c d hc hd;obtain rfl:=aa h1;simp only[aU,gJ,hc,ih hd,Bool.and_assoc]
  .simp at h1
theorem yT{k1 k2:List Kd}{a1 a2:List Value}(h1:zN k1 a1=true)(h2:zN k2 a2=true):zN (k1++k2) (a1++a2)=true:=by
 induction k1 generalizing a1 with
 |nil=>cases a1<;>simp[zN]at h1;simpa using h2
 |cons k k1 ih=>
  cases a1<;>simp only[zN]at h1<;>first|cases h1;done|skip
  simp only[ai]at h1;simp[zN,h1.1,ih h1.2]
theorem xI:∀(t:Ty)(ks:List Kd),DW t=some ks->(∀x,aT t x=(vL t x).map .lit)/\(∀x,zN ks (vL t x)=true)/\(∀a b:El t,gJ ks (vL t a) (vL t b)=some (decide (a=b)))/\ks.length=bE t:=by
 intro t;induction t with
 |pr a c iha ihc=>
  intro ks hk;simp only[DW]at hk;split at hk
  .rename_i x y hx hy;obtain rfl:=aa hk;obtain⟨a1,a2,a3,a4⟩:=iha x hx;obtain⟨c1,c2,c3,c4⟩:=ihc y hy;have e:∀v:El (.pr a c),vL (.pr a c) v=vL a v.1++vL c v.2:=fun v=>by simp[vL,aT]
   refine⟨fun v=>by rw[e,gP,<-a1,<-c1];rfl,fun v=>by rw[e];exact yT (a2 _) (c2 _),fun u v=>?_,by simp[bE,a4,c4]⟩;rw[e,e,xd (a3 _ _) (c3 _ _)];congr 1;rw[dq];simp[Prod.ext_iff]
  .simp at hk
 |st t ih=>intro ks hk;exact ih ks hk
 |ar m t ih=>
  intro ks hk;simp only[DW]at hk;split at hk
  .rename_i x hx;obtain rfl:=aa hk;obtain⟨a1,a2,a3,a4⟩:=ih x hx;have e:∀v:El (.ar m t),vL (.ar m t) v=v.1.flatMap (vL t):=fun v=>by simp only[vL,aT,List.map_flatMap];rfl
   refine⟨fun v=>?_,fun v=>?_,fun u v=>?_,?_⟩
   .rw [e];simp only[aT,List.map_flatMap];congr 1;funext y;exact a1 y
   .rw [e];obtain⟨l,hl⟩:=v;clear e hk ih;simp only;induction l generalizing m with|nil=>subst hl;rfl|cons y l ihl=>subst hl;simp only[da,iC,eh,bi];exact yT (a2 y) (ihl _ rfl)
   .rw [e,e];obtain⟨l,hl⟩:=u;obtain⟨r,hr⟩:=v
    have key:∀(m:Nat)(l r:List (El t)),l.length=m->r.length=m->gJ (az m x).flatten (l.flatMap (vL t)) (r.flatMap (vL t))=some (decide (l=r)):=by
     intro m;induction m with
     |zero=>intro l r h1 h2;obtain rfl:=a_.1 h1;obtain rfl:=a_.1 h2;rfl
     |succ m ihm=>
      intro l r h1 h2;cases l with
      |nil=>simp at h1
      |cons y l=>cases r with|nil=>simp at h2|cons z r=>simp only[iC,eh,bi];rw[xd (a3 y z) (ihm l r (by simpa using h1) (by simpa using h2))];congr 1;rw[dq];simp
    rw[key m l r hl hr];congr 1;rw[dq];simp only[decide_eq_true_eq];exact⟨fun h=>Subtype.ext h,fun h=>congrArg Subtype.val h⟩
   .simp [bE,a4]
  .simp at hk
 |i k=>intro ks hk;obtain rfl:=aa hk;refine⟨fun _=>rfl,fun x=>by simp[vL,aT,zN,LA],fun a b=>?_,rfl⟩;simp only[vL,aT,aB,aW,gJ,EO,and_self,if_true,Bool.and_true];congr 1
 |b=>intro ks hk;obtain rfl:=aa hk;refine⟨fun _=>rfl,fun x=>by simp[vL,aT,zN,LA],fun a b=>?_,rfl⟩;simp only[vL,aT,aB,aW,gJ,EO,Bool.and_true];congr 1
 |s=>intro ks hk;obtain rfl:=aa hk;refine⟨fun _=>rfl,fun x=>by simp[vL,aT,zN,LA],fun a b=>?_,rfl⟩;simp only[vL,aT,aB,aW,gJ,EO,Bool.and_true];rw[Q8]
 |_=>intro ks hk;simp[DW]at hk
section
variable{h:H2}{n:Nat}{h1:bH}
theorem JN{z:Bool}{op:BinOp}{k k':IntKind}{a b:Int}{v:V}(hb:Q7 z op k k' a b=some v)(hz:z=true->0<b):∃y,sg op (.int k a) (.int k' b)=some y/\gy h v (lv y)/\ft n h v:=by
 have one:∀(q:IntKind)(c:Int),gy h (.x (.i q) c) (lv (.int q c)):=fun q c=>ct (dV rfl ⟨rfl,rfl⟩);have onb:∀(c:Bool),gy h (.x .b c) (lv (.bool c)):=fun c=>ct (dV rfl ⟨rfl,rfl⟩);cases op<;>simp only[Q7]at hb
 all_goals first
  |(cases z<;>simp only[cond_true,cond_false]at hb<;>first|(cases hb;done)|skip
    have:=hz rfl;obtain rfl:=aa hb;refine⟨_,by simp only[sg];rw[if_neg (by omega)];rfl,one _ _,trivial⟩)
  |skip
 all_goals
  by_cases hk:k=k'
  .subst hk;simp only[decide_true,cond_true]at hb
   first
    |(cases hb;done)
    |(obtain rfl:=aa hb
      refine⟨_,by simp only[sg,if_true];rfl,?_,trivial⟩
      first|exact one _ _|exact onb _)
    |(obtain rfl:=aa hb
      first
       |exact⟨.int k (JR k a b),by simp only[sg,if_true,xO];rfl,one _ _,trivial⟩
       |exact⟨.int k (RB k a b),by simp only[sg,if_true,Cm];rfl,one _ _,trivial⟩
       |exact⟨.int k (Q9 k a b),by simp only[sg,if_true,OQ];rfl,one _ _,trivial⟩
       |exact⟨.int k (rL k a b),by simp only[sg,if_true,uO];rfl,one _ _,trivial⟩)
    |(cases z<;>simp only[cond_true,cond_false]at hb<;>first|(cases hb;done)|skip
      have:=hz rfl;obtain rfl:=aa hb;refine⟨_,by simp only[sg,if_true];rw[if_neg (by omega)],one _ _,trivial⟩)
  .simp [hk]at hb
theorem JM{op:BinOp}{a b:ByteArray}{v:V}(hb:Q6 op a b=some v):∃y,sg op (.string a) (.string b)=some y/\gy h v (lv y)/\ft n h v:=by
 have onb:∀(c:Bool),gy h (.x .b c) (lv (.bool c)):=fun c=>ct (dV rfl ⟨rfl,rfl⟩);cases op<;>simp only[Q6]at hb<;>first|(cases hb;done)|skip
 all_goals(obtain rfl:=aa hb;exact⟨_,rfl,onb _,trivial⟩)
theorem Ld{m:Bool}{k:IntKind}:∀{r:List V}{x y:Int}{xs:List TV},Rx m k x r=some y->mN h r xs->Ph m (.int k x) (xs.map some)=some (.int k y):=by
 intro r;induction r with
 |nil=>intro x y xs hm hx;obtain rfl:=lU hx;obtain rfl:=aa hm;rfl
 |cons v r ih=>
  intro x y xs hm hx;obtain⟨x1,ys,rfl,h1,h2⟩:=gU hx;cases v with
  |x t c=>
   cases t with
   |i k'=>
    simp only[Rx]at hm;by_cases hk:k'=k
    .subst hk;simp only[decide_true,cond_true]at hm;obtain rfl:=kx h1;have:=ih hm h2;cases m<;>simpa[Ph,SR]using this
    .simp [hk]at hm
   |_=>simp[Rx]at hm
  |_=>simp[Rx]at hm
theorem nm{α:Type}:∀(l:List α),eH (l.map some)=some l:=by intro l;induction l with|nil=>rfl|cons a l ih=>simp[eH,ih]
theorem K4{kind:Nat}{v w:V}{x:TV}{neg:Bool}{c:Call}{nx:Nat}(hx:gy h v x)(ha:iD h v=true)(hn:yG h kind v=some w):
  ∃y,cQ c (.qQ kind neg) [some x] h1 nx=some (y,[],[],nx)/\gy h (bif neg then K6 w else w) y/\ft n h (bif neg then K6 w else w):=by
 have kb:∀b,gy h (.kb b) (tB b):=fun b=>ct (dV rfl rfl);have xb:∀b,gy h (.x .b b) (tB b):=fun b=>ct (dV rfl ⟨rfl,rfl⟩)
 have sl:∀q,t_ h v=some q->(bif kind==0 then(match t_ h v with|some ⟨_,s,_⟩=>some (.x .b s.fQ)|none=>none)else none)=some w->
   ∃y,cQ c (.qQ kind neg) [some x] h1 nx=some (y,[],[],nx)/\gy h (bif neg then K6 w else w) y/\ft n h (bif neg then K6 w else w):=by
  intro q hq hw;cases hkk:kind==0 with
  |false=>rw[hkk]at hw;simp at hw
  |true=>
   obtain rfl:kind=0:=by simpa using hkk
   rw[hq]at hw;simp only[hkk,cond_true]at hw;obtain rfl:=aa hw;refine⟨_,Qm hx ha hq,?_⟩;cases neg
   .exact ⟨xb _,trivial⟩
   .exact ⟨xb _,trivial⟩
 cases v with
 |nl k=>
  simp only[yG]at hn;cases hkk:(k==kind)&&Nat.blt k 3 with
  |false=>rw[hkk]at hn;simp at hn
  |true=>
   rw[hkk,cond_true]at hn;obtain rfl:=aa hn;simp only[ai,beq_iff_eq]at hkk;obtain⟨rfl,hlt⟩:=hkk;have hlt:k<3:=je hlt;rw[vR hx]
   match k,hlt with|0,_=>cases neg<;>exact⟨_,rfl,kb _,trivial⟩|1,_=>cases neg<;>exact⟨_,rfl,kb _,trivial⟩|2,_=>cases neg<;>exact⟨_,rfl,kb _,trivial⟩
 |pt t v=>
  simp only[yG]at hn;cases hkk:kind==1 with
  |false=>rw[hkk]at hn;simp at hn
  |true=>
   rw[hkk,cond_true]at hn;obtain rfl:=aa hn;obtain rfl:kind=1:=by simpa using hkk
   rw[(xV hx).2];cases neg<;>exact⟨_,rfl,kb _,trivial⟩
 |op id t p=>
  simp only[yG]at hn;cases hkk:kind==1 with
  |false=>rw[hkk]at hn;simp at hn
  |true=>
   rw[hkk,cond_true]at hn;obtain rfl:=aa hn;obtain rfl:kind=1:=by simpa using hkk
   rw[vQ hx];cases neg<;>exact⟨_,rfl,kb _,trivial⟩
 |ep id m t p=>
  simp only[yG]at hn;cases hkk:kind==1 with
  |false=>rw[hkk]at hn;simp at hn
  |true=>
   rw[hkk,cond_true]at hn;obtain rfl:=aa hn;obtain rfl:kind=1:=by simpa using hkk
   rw[sv hx];cases neg<;>exact⟨_,rfl,kb _,trivial⟩
 |fn z f l=>
  simp only[yG]at hn;cases hkk:kind==2 with
  |false=>rw[hkk]at hn;simp at hn
  |true=>
   rw[hkk,cond_true]at hn;obtain rfl:=aa hn;obtain rfl:kind=2:=by simpa using hkk
   rcases EU hx with⟨_,ds,_,rfl⟩|⟨_,cs,_,rfl⟩<;>(cases neg<;>exact⟨_,rfl,kb _,trivial⟩)
 |x t v=>cases hq:t_ h (.x t v)with|none=>simp[yG,hq]at hn|some q=>exact sl q hq hn
 |so id=>cases hq:t_ h (.so id)with|none=>simp[yG,hq]at hn|some q=>exact sl q hq hn
 |sb id ver lo t r=>cases hq:t_ h (.sb id ver lo t r)with|none=>simp[yG,hq]at hn|some q=>exact sl q hq hn
 |_=>simp[yG,t_]at hn
theorem L_{off m i:Nat}{v w:V}{x:TV}{c:Call}{nx:Nat}(hx:gy h v x)(hk:ft n h v)(hw:Gf off m i v=some w):
  ∃y,cQ c (.fieldAddr off m) [some x] h1 nx=some (y,[],[],nx)/\gy h w y/\ft n h w:=by
 have NY:∀(t u a:Ty)(p:pV),qW t p=some (.st u)->CB u i=some a->IP t p->IP t (p++[.fd i])/\mQ t (p++[.fd i])=mQ t p+oX u i:=by
  intro t u a p;induction p generalizing t with
  |nil=>
   intro h1 h2 _;have e:qW t []=some t:=by cases t<;>rfl
   obtain rfl:t=.st u:=by rw[e]at h1;exact aa h1
   refine⟨⟨a,h2,by cases a<;>trivial⟩,?_⟩;simp only[bk,mQ,h2];cases a<;>simp[mQ]
  |cons q p ih=>
   intro h1 h2 h3;cases q with
   |fd j=>cases t with|st t=>obtain⟨b2,hb,h3⟩:=h3;simp only[qW,hb]at h1;obtain⟨q1,q2⟩:=ih b2 h1 h2 h3;refine⟨⟨b2,hb,q1⟩,?_⟩;simp only[aU,mQ,hb,q2];exact(cP _ _ _).symm|_=>exact h3.elim
   |ix k=>cases t with|ar l t=>obtain⟨hk,h3⟩:=h3;obtain⟨q1,q2⟩:=ih t h1 h2 h3;refine⟨⟨hk,q1⟩,?_⟩;simp only[aU,mQ,q2];exact(cP _ _ _).symm|_=>exact h3.elim
 cases v with
 |op id t p=>
  simp only[Gf]at hw;split at hw
  .rename_i u hu;split at hw
   .rename_i a hf;cases hq:(oX u i==off)&&(bE a==m)with
    |false=>rw[hq]at hw;simp at hw
    |true=>
     rw[hq,cond_true]at hw;obtain rfl:=aa hw;simp only[ai,beq_iff_eq]at hq;obtain⟨q1,q2⟩:=NY t u a p hu hf hk.2;rw[vQ hx];refine⟨_,rfl,ct (dV rfl ?_),hk.1,q1⟩;show[_]=[_]
     rw[q2,hq.1]
   .simp at hw
  .simp at hw
 |ep id k t p=>
  simp only[Gf]at hw;split at hw
  .rename_i u hu;split at hw
   .rename_i a hf;cases hq:(oX u i==off)&&(bE a==m)with
    |false=>rw[hq]at hw;simp at hw
    |true=>
     rw[hq,cond_true]at hw;obtain rfl:=aa hw;simp only[ai,beq_iff_eq]at hq;obtain⟨q1,q2⟩:=NY t u a p hu hf hk.2.1;rw[sv hx];refine⟨_,rfl,ct (dV rfl ?_),hk.1,q1,hk.2.2⟩;show[_]=[_]
     rw[q2,hq.1]
   .simp at hw
  .simp at hw
 |pt t v=>
  cases t with
  |st u=>
   simp only[Gf]at hw;split at hw
   .rename_i a y hy;cases hq:(oX u i==off)&&(bE a==m)with
    |false=>rw[hq]at hw;simp at hw
    |true=>
     rw[hq,cond_true]at hw;obtain rfl:=aa hw;simp only[ai,beq_iff_eq]at hq;obtain⟨a',y',e,f1,f2,f3⟩:=qM _ _ _ _ hy;cases e;obtain⟨hd,rfl⟩:=xV hx;refine⟨_,?_,ct (dV (c:=.d (.pt (aT a y))) rfl ⟨zp u _ _ hd f1,rfl⟩),trivial⟩;have hle:off+m<=(aT (.st u) v).length:=by rw[bJ];show _<=bE u;omega
     have e2:((aT (.st u) v).drop off).take m=aT a y:=by rw[<-hq.1,<-hq.2];exact f3
     simp only[cQ,kg];rw[if_pos hle,e2]
   .simp at hw
  |_=>simp[Gf]at hw
 |_=>simp[Gf]at hw
theorem IR:∀(l:V)(i:Nat)(w:V)(cs:List C),fC h l cs->r_ l i=some w->∃cw,fC h w cw/\Oq l i+x5 w<=cs.length/\(cs.drop (Oq l i)).take (x5 w)=cw:=by
 intro l;induction l with
 |co a r iha ihr=>intro i w cs hv hw;obtain⟨x,y,rfl,k1,k2⟩:=hv;have hl:=iB k1;cases i with|zero=>obtain rfl:=aa hw;refine⟨x,k1,by simp[Oq];omega,?_⟩;simp only[Oq,List.drop_zero];rw[<-hl,List.take_left]|succ i=>obtain⟨cw,q1,q2,q3⟩:=ihr i w y k2 hw;refine⟨cw,q1,by simp only[Oq,av];omega,?_⟩;simp only[Oq];rw[<-dv,<-hl,List.drop_left,q3]
 |_=>intro i w cs hv hw;simp[r_]at hw
theorem N7:∀(l:V)(i:Nat)(w:V)(xs:List TV),BA h l xs->r_ l i=some w->∃x,xs[i]?=some x/\sx h w x:=by
 intro l;induction l with
 |co a r iha ihr=>intro i w xs hv hw;obtain⟨x,ys,rfl,k1,k2⟩:=hv;cases i with|zero=>obtain rfl:=aa hw;exact⟨x,rfl,k1⟩|succ i=>exact ihr i w ys k2 hw
 |_=>intro i w xs hv hw;simp[r_]at hw
end
section
variable{h:H2}{n:Nat}{h1:bH}
def Rm(h:H2)(n:Nat)(h1:bH)(k:K)(xs:List TV)(v:V)(l:List Nat):Prop:=∀(c:Call)(nx:Nat),∃x aD,cQ c k (xs.map some) h1 nx=some (x,[],aD,nx)/\gy h v x/\ft n h v/\∀i∈aD,i∈l
theorem Rs(a:ByteArray):gy h (.x .s a) (.c (.d (dS a))):=ct (dV rfl ⟨rfl,rfl⟩)
def Rt(t:Ty)(y:El t):TV:=if nv t=true then .agg ((aT t y).map .d)else match aT t y with|d::_=>.c (.d d)|[]=>.iS []
theorem GU{t:Ty}(y:El t){va:Bool}(hv:nv t=va)(h1:(va||bE t==1)=true):pm va (aT t y)=some (Rt t y):=by
 subst hv;unfold pm Rt;cases ha:nv t with
 |true=>rfl
 |false=>
  rw[ha]at h1;have:=bJ t y;rw[show bE t=1 by simpa using h1]at this;cases he:aT t y with
  |nil=>rw[he]at this;simp at this
  |cons d r=>
   rw[he]at this;have:r=[]:=by simpa using this
   subst this;rfl
theorem J_{t:Ty}{y:El t}(hd:kY t=true)(h1:(nv t||bE t==1)=true):sx h (.x t y) (Rt t y):=by
 unfold Rt;cases ha:nv t with
 |true=>exact xW ha ⟨hd,rfl⟩
 |false=>
  rw[ha]at h1;have:=bJ t y;rw[show bE t=1 by simpa using h1]at this;cases he:aT t y with
  |nil=>rw[he]at this;simp at this
  |cons d r=>
   rw[he]at this;have:r=[]:=by simpa using this
   subst this;exact dV ha ⟨hd,by rw[he];rfl⟩
theorem JU(f:TV->Option C)(hf:∀c,f (.c c)=some c):∀(cs:List C),eH ((cs.map TV.c).map f)=some cs:=by intro cs;induction cs with|nil=>rfl|cons c cs ih=>simp only[aB,hf,eH,ih]
theorem yO:∀(l:List Value),lP (l.map fun v=>C.d (.lit v))=some l:=by intro l;induction l with|nil=>rfl|cons v l ih=>simp[lP,ih]
theorem DT{kt:Ty}{ks:List Kd}{v:V}{x:TV}{y:El kt}{ka:Bool}(hx:gy h v x)(hc:tQ kt v=some y)(hk:DW kt=some ks)(ha:nv kt=ka):oW ka ks x=some (vL kt y):=by
 obtain⟨h1,h2,_,h4⟩:=xI kt ks hk;obtain⟨g1,g2⟩:=vz hx hc;cases ka with
 |true=>
  rw[g1 ha];have e:(aT kt y).map C.d=(vL kt y).map fun v=>C.d (.lit v):=by rw[h1 y,lK];rfl
  simp only[oW];rw[if_pos ⟨trivial,by rw[aN,bJ,h4]⟩,e,yO];simp only[h2 y,if_true]
 |false=>
  obtain⟨d,hd,rfl⟩:=g2 ha;have hl:=bJ kt y;rw[hd]at hl;have h5:=h1 y;rw[hd]at h5;cases hv:vL kt y with
  |nil=>rw[hv]at h5;simp at h5
  |cons q r=>
   rw[hv]at h5;simp only[aB,dM]at h5;obtain⟨rfl,h6⟩:=h5;have:r=[]:=by simpa using h6.symm
   subst this;simp only[oW];rw[if_pos ⟨trivial,by rw[h4,<-hl];rfl⟩];have h7:=h2 y;rw[hv]at h7;simp only[lP,h7,if_true]
theorem Li{v:V}{q:(k:Ty)×(v:Ty)×Mp (El k) (El v)×List Nat}{x:TV}(hr:HR n h1 h)(hm:Oc h v=some q)(hx:gy h v x):
  ∃id,v=.om id/\x=.c (.om id)/\q.2.2.2=[id]/\fO h id=some (.mp q.1 q.2.1 q.2.2.1)/\aC h1 id=EM (nv q.1) (nv q.2.1) (vL q.1) (aT q.2.1) q.2.2.1:=by
 cases v with
 |om id=>
  simp only[Oc]at hm;split at hm
  .rename_i k v m ho;obtain rfl:=aa hm;exact⟨id,rfl,ET hx,rfl,ho,(hr.ob id _ ho).2.1.2.2⟩
  .simp at hm
 |_=>simp[Oc]at hm
theorem Ll{c:Call}{x y:TV}{H:bH}{l:List Nat}{nx:Nat}(h:cQ c (.load false 1) [some x] H nx=some (y,[],l,nx)):cQ c .ua [some x] H nx=some (y,[],l,nx):=by
 cases x with
 |c p=>
  have h:(match ie false 1 p H with|some (v,aD)=>some (v,([]:fL),aD,nx)|none=>none)=some (y,[],l,nx):=h;show(match ie false 1 p H with|some (v,aD)=>some (v,([]:fL),aD,nx)|none=>lG false 1 p H nx)=some (y,[],l,nx);split at h
  .exact h
  .cases h
 |_=>cases h
theorem H5{o:OP}{vs:List V}{v:V}{l:List Nat}{xs:List TV}(hr:HR n h1 h)(ht:PU o vs h=some (v,l))(hx:mN h vs xs)(hk:∀w∈vs,ft n h w)(ha:∀w∈vs,iD h w=true)
  (hp:NV o.o.args=true->∀a k b,vs=[a,.x (.i k) b]->0<b):Rm h n h1 o.o.k xs v l:=by
 obtain⟨⟨d,k,args,g⟩,t,fi⟩:=o;simp only at hp|-;unfold PU at ht;simp only at ht;split at ht
 .--mv
  obtain⟨rfl,rfl⟩:=ad (aa ht);obtain⟨x,rfl,h2⟩:=iR hx;exact .of (fun _ _=>rfl) h2 (hk _ (by simp))
 .--nilCheck
  obtain⟨x,rfl,h2⟩:=iR hx;have hk1:=hk _ (aq.2 rfl);split at ht
  .obtain ⟨rfl,rfl⟩:=ad (aa ht);exact .of (fun _ _=>by rw[(xV h2).2];rfl) h2 hk1
  .obtain ⟨rfl,rfl⟩:=ad (aa ht);refine .of (fun _ _=>?_) h2 hk1;rcases EU h2 with⟨_,ds,_,rfl⟩|⟨_,cs,_,rfl⟩<;>rfl
  .obtain ⟨rfl,rfl⟩:=ad (aa ht);exact .of (fun _ _=>by rw[sv h2];rfl) h2 hk1
  .obtain ⟨rfl,rfl⟩:=ad (aa ht);exact .of (fun _ _=>by rw[vQ h2];rfl) h2 hk1
  .simp at ht
 .--Ao int
  rename_i op q a q' b;obtain⟨x,y,rfl,h2,h3⟩:=ji hx;obtain rfl:=kx h2;obtain rfl:=kx h3;split at ht
  .rename_i w hw;obtain⟨rfl,rfl⟩:=ad (aa ht);obtain⟨y,h4,h5,h6⟩:=JN (h:=h) (n:=n) hw fun hz=>hp hz _ _ _ rfl;exact .of (fun _ _=>by simp only[mh,cQ,h4]) h5 h6
  .simp at ht
 .--Ao string
  obtain⟨x,y,rfl,h2,h3⟩:=ji hx;obtain rfl:=wU h2;obtain rfl:=wU h3;split at ht
  .rename_i w hw;obtain⟨rfl,rfl⟩:=ad (aa ht);obtain⟨y,h4,h5,h6⟩:=JM (h:=h) (n:=n) hw;exact .of (fun _ _=>by simp only[mh,cQ,h4]) h5 h6
  .simp at ht
 .--uK
  rename_i neg v1 v2;obtain⟨x,y,rfl,h2,h3⟩:=ji hx;split at ht
  .rename_i a b ha' hb';obtain⟨rfl,rfl⟩:=ad (aa ht);rw[Pt h2 ha',Pt h3 hb'];refine .of (x:=tB (bif neg then !(a==b)else a==b)) (fun _ _=>?_) (xb _) trivial;cases neg<;>rfl
  .simp at ht
 .--qQ
  obtain⟨x,rfl,h2⟩:=iR hx;split at ht
  .rename_i w hw;obtain⟨rfl,rfl⟩:=ad (aa ht);intro c nx;obtain⟨y,h4,h5,h6⟩:=K4 (n:=n) (h1:=h1) (c:=c) (nx:=nx) h2 (ha _ (by simp)) hw;exact⟨y,[],h4,h5,h6,fun i hi=>by simp at hi⟩
  .simp at ht
 .--zk
  rename_i neg ks t1 a w;obtain⟨x,y,rfl,h2,h3⟩:=ji hx;split at ht
  .rename_i b hb;cases hq:nv t1&&decide (DW t1=some ks)with
   |false=>rw[hq]at ht;simp at ht
   |true=>
    rw[hq,cond_true]at ht;obtain⟨rfl,rfl⟩:=ad (aa ht);simp only[ai,decide_eq_true_eq]at hq;obtain⟨k1,k2,k3,k4⟩:=xI t1 ks hq.2;have e1:=(vz (v:=.x t1 a) (u:=t1) (y:=a) h2 (by simp[tQ,kS,ij,gN])).1 hq.1;have e2:=(vz h3 hb).1 hq.1;have el:∀z:El t1,lP ((aT t1 z).map C.d)=some (vL t1 z):=fun z=>by rw[show(aT t1 z).map C.d=(vL t1 z).map fun v=>C.d (.lit v)by rw[k1 z,lK];rfl,yO]
    rw[e1,e2];refine .of (x:=tB (bif neg then !(decide (a=b))else decide (a=b))) (fun _ _=>?_) (xb _) trivial;simp only[mh,cQ,el,k3];cases neg<;>rfl
  .simp at ht
 .obtain ⟨rfl,rfl⟩:=ad (aa ht);obtain⟨x,rfl,h2⟩:=iR hx;rw[vS h2];exact .of (fun _ _=>rfl) (ct (dV rfl rfl)) trivial
 .obtain ⟨rfl,rfl⟩:=ad (aa ht);obtain⟨x,rfl,h2⟩:=iR hx;rw[GX h2];exact .of (fun _ _=>rfl) (xb _) trivial
 .obtain ⟨rfl,rfl⟩:=ad (aa ht);obtain⟨x,rfl,h2⟩:=iR hx;rw[kx h2];exact .of (fun _ _=>rfl) (xi _ _) trivial
 .obtain ⟨rfl,rfl⟩:=ad (aa ht);obtain⟨x,rfl,h2⟩:=iR hx;rw[kx h2];exact .of (fun _ _=>rfl) (xi _ _) trivial
 .obtain ⟨rfl,rfl⟩:=ad (aa ht);obtain⟨x,rfl,h2⟩:=iR hx;rw[kx h2];exact .of (fun _ _=>rfl) (xi _ _) trivial
 .obtain ⟨rfl,rfl⟩:=ad (aa ht);obtain⟨x,rfl,h2⟩:=iR hx;rw[wU h2];exact .of (fun _ _=>rfl) (Rs _) trivial
 .--IY
  rename_i f;cases hc:vs.all OM with
  |false=>rw[hc]at ht;simp at ht
  |true=>
   rw[hc,cond_true]at ht;obtain⟨rfl,rfl⟩:=ad (aa ht);obtain⟨cs,h2,rfl⟩:=Ka hx fun w hw=>by have:=List.all_eq_true.1 hc w hw;cases w<;>first|exact⟨trivial,by simp[OM]at this;exact this⟩|simp[OM]at this
   refine .of (x:=.c (.oU f cs)) (fun _ _=>?_) (ct (dV rfl ⟨cs,h2,rfl⟩)) ?_
   .simp only[cQ,nm];rw[JU _ fun _=>rfl]
   .clear ht h2 hp ha hc hx;induction vs with|nil=>trivial|cons w vs ih=>exact⟨hk w (by simp),ih fun u hu=>hk u (by simp[hu])⟩
 .--load
  rename_i g m p;obtain⟨x,rfl,h2⟩:=iR hx;split at ht
  .rename_i w l' hl;cases hc:Gy h g m w with|false=>rw[hc]at ht;simp at ht|true=>rw[hc,cond_true]at ht;obtain⟨rfl,rfl⟩:=ad (aa ht);intro c nx;obtain⟨y,h3,h4,h5⟩:=wm (c:=c) (nx:=nx) hr hl hc h2 (hk _ (by simp));exact⟨y,_,h3,h4,h5,fun i hi=>hi⟩
  .simp at ht
 .--load of a slice
  obtain⟨x,rfl,h2⟩:=iR hx;split at ht
  .rename_i w l' hl;cases hc:Gy h false 1 w with|false=>rw[hc]at ht;simp at ht|true=>rw[hc,cond_true]at ht;obtain⟨rfl,rfl⟩:=ad (aa ht);intro c nx;obtain⟨y,h3,h4,h5⟩:=wm (c:=c) (nx:=nx) hr hl hc h2 (hk _ (by simp));exact⟨y,_,Ll h3,h4,h5,fun i hi=>hi⟩
  .simp at ht
 .--fieldAddr
  obtain⟨x,rfl,h2⟩:=iR hx;split at ht
  .split at ht
   .rename_i w hw;obtain⟨rfl,rfl⟩:=ad (aa ht);intro c nx;obtain⟨y,h3,h4,h5⟩:=L_ (h1:=h1) (c:=c) (nx:=nx) h2 (hk _ (by simp)) hw;exact⟨y,[],h3,h4,h5,fun i hi=>by simp at hi⟩
   .simp at ht
  .simp at ht
 .--field of data
  rename_i g off m u y;obtain⟨x,rfl,h2⟩:=iR hx;split at ht
  .split at ht
   .rename_i i _ w hw;cases hc:(oX u i==off)&&Gy h g m w with
    |false=>rw[hc]at ht;simp at ht
    |true=>
     rw[hc,cond_true]at ht;obtain⟨rfl,rfl⟩:=ad (aa ht);simp only[ai,beq_iff_eq]at hc;obtain⟨a,z,rfl,f1,f2,f3⟩:=qM _ _ _ _ hw;obtain⟨cs,⟨hd,rfl⟩,g1,_⟩:=oS (v:=.x (.st u) y) trivial h2;have hd':kY u=true:=hd;obtain⟨_,hs,_,_⟩:=oD hc.2;have hs:bE a=m:=hs
     obtain⟨q,h3,h4⟩:=pB (cs:=(aT u y).map C.d) (off:=off) hc.2 (show fC h (.x a z) ((aT a z).map .d)from⟨zp u _ _ hd' f1,rfl⟩) (by simp[bJ];omega)
      (by rw[<-hc.1,<-hs,<-f3,hZ,gz])
     rw[g1 rfl];exact .of (x:=q) (fun _ _=>by show(match DR g m (((aT u y).map C.d).drop off)with|some v=>some (v,([]:fL),([]:List Nat),_)|none=>none)=_;rw[h3]) h4 trivial
   .simp at ht
  .simp at ht
 .--field of a dj
  rename_i g off m u;obtain⟨x,rfl,h2⟩:=iR hx;split at ht
  .split at ht
   .rename_i i _ w hw;cases hc:(Oq u i==off)&&Gy h g m w with|false=>rw[hc]at ht;simp at ht|true=>rw[hc,cond_true]at ht;obtain⟨rfl,rfl⟩:=ad (aa ht);simp only[ai,beq_iff_eq]at hc;obtain⟨cs,hcs,g1,_⟩:=oS (v:=.rc u) trivial h2;obtain⟨cw,q1,q2,q3⟩:=IR u i w cs hcs hw;obtain⟨_,hs,_,_⟩:=oD hc.2;obtain⟨q,h3,h4⟩:=pB (off:=off) hc.2 q1 (by rw[<-hc.1,<-hs];exact q2) (by rw[<-hc.1,<-hs];exact q3);rw[g1 rfl];exact .of (x:=q) (fun _ _=>by show(match DR g m (cs.drop off)with|some v=>some (v,([]:fL),([]:List Nat),_)|none=>none)=_;rw[h3]) h4 (xG u i w (hk (.rc u) (aq.2 rfl)) hw)
   .simp at ht
  .simp at ht
 .--extract
  rename_i i u;obtain⟨x,rfl,h2⟩:=iR hx;split at ht
  .rename_i w hw;obtain⟨rfl,rfl⟩:=ad (aa ht);obtain⟨ys,rfl,h3⟩:=PT h2;obtain⟨y,h4,h5⟩:=N7 u i w ys h3 hw;exact .of (x:=y) (fun _ _=>by simp only[mh,cQ,h4]) (ct h5) (xG u i w (hk (.tp u) (aq.2 rfl)) hw)
  .simp at ht
 .obtain ⟨rfl,rfl⟩:=ad (aa ht);obtain⟨x,rfl,h2⟩:=iR hx;rw[wU h2];exact .of (fun _ _=>rfl) (xi _ _) trivial
 .obtain ⟨rfl,rfl⟩:=ad (aa ht);obtain⟨x,rfl,h2⟩:=iR hx;rw[vR h2];exact .of (fun _ _=>rfl) (xi _ _) trivial
 .--len of a dj of ao
  obtain⟨x,rfl,h2⟩:=iR hx;split at ht
  .rename_i t' s' ln hq;obtain⟨rfl,rfl⟩:=ad (aa ht);exact .of (fun _ _=>by rw[Kb h2 (sB hq)];exact Pj) (xi _ _) trivial
  .simp at ht
 .--len
  obtain⟨x,rfl,h2⟩:=iR hx;split at ht
  .rename_i q t' s' l' hq;obtain⟨rfl,rfl⟩:=ad (aa ht);exact .of (fun _ _=>Qv h2 (ha _ (by simp)) hq) (xi _ _) trivial
  .simp at ht
 .--uF
  rename_i m k' x r;obtain⟨x1,ys,rfl,h2,h3⟩:=gU hx;split at ht
  .rename_i y hy;obtain⟨rfl,rfl⟩:=ad (aa ht);obtain rfl:=kx h2;exact .of (x:=lv (.int k' y)) (fun _ _=>by simp only[mh,cQ,Ld hy h3]) (xi _ _) trivial
  .simp at ht
 .--build
  rename_i z ps;cases hc:tW (ny t) z&&nv t&&eF (O8 t) false t with
  |false=>rw[hc]at ht;simp at ht
  |true=>
   rw[hc,cond_true]at ht;simp only[ai]at hc;split at ht
   .rename_i w hw;obtain⟨rfl,rfl⟩:=ad (aa ht);obtain⟨z1,z2⟩:=(xP (h:=h) (n:=n) t).1 hc.2;obtain⟨cs,b1,b2,b3,b4⟩:=MR fi ps vs (O8 t) w _ xs hw hc.2 z1 z2 hx hk;rw[qZ hc.1.1]at b1;exact .of (x:=.agg cs) (fun _ _=>by simp only[cQ,nm,b1]) (ct (xW (QF b4 hc.1.2) b2)) b3
   .simp at ht
 .--lookup
  rename_i ka ks va z ok m kv;obtain⟨x,y,rfl,h2,h3⟩:=ji hx;split at ht
  .rename_i kt vt mp l' hq;split at ht
   .rename_i key hkey;cases hc:(nv kt==ka)&&(nv vt==va)&&decide (DW kt=some ks)&&tW (ny vt) z&&kY vt&&(va||bE vt==1)with
    |false=>rw[hc]at ht;simp at ht
    |true=>
     rw[hc,cond_true]at ht;simp only[ai,beq_iff_eq,decide_eq_true_eq]at hc;obtain⟨⟨⟨⟨⟨c1,c2⟩,c3⟩,c4⟩,c5⟩,c6⟩:=hc;obtain⟨id,rfl,rfl,e1,e2,e3⟩:=Li hr hq h2;have e1:l'=[id]:=e1;subst e1;obtain⟨_,_,k3,_⟩:=xI kt ks c3;have hz:cF z=aT vt (si vt):=by rw[qY vt c5,qZ c4]
     have hv:∀y,pm va (aT vt y)=some (Rt vt y):=fun y=>GU y c2 c6;have hkt:=DT h3 hkey c3 c1;rw[c1,c2]at e3;rw[<-c2]at c6;cases ok with|false=>simp only[cond_false]at ht;obtain⟨rfl,rfl⟩:=ad (aa ht);exact fun c nx=>⟨_,[id],Qq (z:=si vt) e3 hkt k3 hz hv,ct (J_ c5 c6),trivial,fun i hi=>hi⟩|true=>simp only[cond_true]at ht;obtain⟨rfl,rfl⟩:=ad (aa ht);exact fun c nx=>⟨_,[id],Of (z:=si vt) e3 hkt k3 hz hv,⟨_,rfl,_,_,rfl,J_ c5 c6,_,_,rfl,dV rfl ⟨rfl,rfl⟩,rfl⟩,⟨trivial,trivial,trivial⟩,fun i hi=>hi⟩
   .simp at ht
  .simp at ht
 .simp at ht
end
end Go.Ev
namespace Go.Fl
open Ieee
section
variable(f:Format)
end
section
variable{f:Format}
end
end Go.Fl
namespace Go.Ev
section
variable{h:H2}{n:Nat}{h1:bH}{β:Type}
theorem aO{α:Type}{c:Bool}{a:Option α}{r:α}(h:(bif c then a else none)=some r):c=true/\a=some r:=by cases c with|true=>exact⟨rfl,h⟩|false=>simp at h
theorem wl{u:fL}{i:Nat}(hu:∀p∈u,p.1≠i):aC (u++h1) i=aC h1 i:=by induction u with|nil=>rfl|cons p u ih=>obtain⟨a,b⟩:=p;rw[aU,eP,if_neg (hu _ (cq ..)),ih fun p hp=>hu p (aA _ hp)]
theorem tV.EN{s s':S2}{x:TV}{u:fL}{aD l:List Nat}{m:Nat}{v:V}(W:List Nat)(hr:HR s.next h1 s.heap)(eY:k7 s.next s.heap s'.heap)(he:s'.dT=s.dT)(hg:s'.gh=s.gh)(hm:m<=s'.next)(hle:s.next<=s'.next)(hl:∀i∈aD,i∈l)
  (hwo:s'.wo=W++s.wo) (hu:∀p∈u,p.1∈W) (hW:∀id,id∉W->fO s'.heap id=fO s.heap id) (hob:∀i∈W,∀o,fO s'.heap i=some o->i<s'.next/\yD s'.heap o (aC (u++h1) i)/\He s'.next s'.heap o)
  (hx:gy s'.heap v x) (hk:ft s'.next s'.heap v) (hnb:∀i,i<s.next->fO s.heap i=none->fO s'.heap i=none):tV s s' h1 x u aD m v l:=by
 refine⟨hx,hk,⟨fun i o ho=>?_⟩,eY,he,hg,hm,hle,hl,hnb,W,hwo,hu,hW⟩;by_cases hi:i∈W
 .exact hob i hi o ho
 .rw [hW i hi]at ho;obtain⟨a,b,c⟩:=hr.ob i o ho;refine⟨by omega,?_,sH hle eY c⟩;rw[wl (u:=u) (i:=i) fun p hp e=>hi (e▸hu p hp)];exact sI eY c b
def zH(h1:bH)(kk:K)(xs:List TV)(s:S2)(k:V->S2->List Nat->Option β)(z:β):Prop:=∃v s' l,k v s' l=some z/\∀c:Call,∃x u aD m,cQ c kk (xs.map some) h1 s.next=some (x,u,aD,m)/\tV s s' h1 x u aD m v l
variable{s:S2}{k:V->S2->List Nat->Option β}{z:β}
theorem zH.pure{kk:K}{xs:List TV}{v:V}{x:TV}(hr:HR s.next h1 s.heap)(hz:k v s []=some z)(he:∀c:Call,cQ c kk (xs.map some) h1 s.next=some (x,[],[],s.next))(hx:gy s.heap v x)(hk:ft s.next s.heap v):zH h1 kk xs s k z:=⟨v,s,[],hz,fun c=>⟨x,[],[],s.next,he c,tV.pure hr hx hk fun i hi=>by simp at hi⟩⟩
theorem qd{t:Ty}(h:CA t=true):kY t=true/\0<bE t:=by simpa[CA]using h
theorem zH.new{kk:K}{xs:List TV}{v:V}{x:TV}{o:O}{b:Option Ob}{l aD:List Nat}(hr:HR s.next h1 s.heap)(hz:k v (kc s o) l=some z)(he:∀c:Call,cQ c kk (xs.map some) h1 s.next=some (x,[(s.next,b)],aD,s.next+1))
  (hb:yD ((s.next,some o)::s.heap) o b) (hko:He (s.next+1) ((s.next,some o)::s.heap) o) (hx:gy ((s.next,some o)::s.heap) v x) (hk:ft (s.next+1) ((s.next,some o)::s.heap) v) (hl:∀i∈aD,i∈l):zH h1 kk xs s k z:=
 ⟨v,_,l,hz,fun c=>⟨x,_,aD,_,he c,tV.new hr (.inl rfl) (fun _=>hb) hko hx hk hl (au _)⟩⟩
theorem zH.Nc{kk:K}{xs:List TV}{v:V}{x:TV}{id:Nat}{o o':O}{b:Option Ob}{l aD:List Nat}(hr:HR s.next h1 s.heap)(ho:fO s.heap id=some o)(hs:vK o o')(hz:k v (ff s id (some o')) l=some z)(he:∀c:Call,cQ c kk (xs.map some) h1 s.next=some (x,[(id,b)],aD,s.next))
  (hb:yD ((id,some o')::s.heap) o' b) (hko:He s.next ((id,some o')::s.heap) o') (hx:gy ((id,some o')::s.heap) v x) (hk:ft s.next ((id,some o')::s.heap) v) (hl:∀i∈aD,i∈l):zH h1 kk xs s k z:=
 ⟨v,_,l,hz,fun c=>⟨x,_,aD,_,he c,tV.Nc hr ho hs hb hko hx hk hl⟩⟩
theorem tO(id:Nat)(o:Option O)(h:H2):fO ((id,o)::h) id=o:=by rw[eG,if_pos rfl]
theorem wi{t:Ty}{s:Sl (El t)}{v nx:Nat}:gy ((nx,some (.ar t s v))::h) (.so nx) (.c (mU (bE t) (aT t) nx s)):=ct (dV rfl ⟨_,rfl,fun c' hc'=>by rw[tO]at hc';exact aa hc',BJ⟩)
theorem Ce{x:V}{y:TV}{sz:Nat}{lo hi:Option Int}{m:Int}{q:V->Option β}(hr:HR n h1 h)(hx:gy h x y)(hk:ft n h x)(ha:iD h x=true)(hm:FV h x=some m)(hz:t6 sz h x (lo.getD 0) (hi.getD m) q=some z):
  ∃v c c',y=.c c/\q v=some z/\fU false sz c lo hi=some c'/\gy h v (.c c')/\ft n h v:=by
 have iQ:∀(id:Nat)(t:Ty)(w:Sl (El t))(ver:Nat),x=.so id->(fO h id=some (.ar t w ver)\/fO h id=some (.im t w ver))->(bif bE t==sz then(qu w.l (lo.getD 0) (hi.getD m)).bind fun y=>q (.sb id ver (lo.getD 0).toNat t (w.to y))else none)=some z->
   ∃v c c',y=.c c/\q v=some z/\fU false sz c lo hi=some c'/\gy h v (.c c')/\ft n h v:=by
  rintro id t w ver rfl ho hz;obtain⟨h2,hz2⟩:=aO hz;obtain rfl:bE t=sz:=by simpa using h2
  obtain⟨r,hr',hz3⟩:=rK hz2;have e:=su hx (mS ho);have hm':m=w.l.length:=by simp only[FV,t_]at hm;rcases ho with ho|ho<;>(rw[ho]at hm;exact(aa hm).symm)
  subst hm';refine⟨_,_,zW id (lo.getD 0).toNat t (w.to r),e,hz3,?_,?_,hk,?_⟩
  .cases w with|nil=>exact Mx hr'|mk l=>exact SD (enc:=aT t) hr'
  .exact ct (dV rfl ⟨_,rfl,fun _=>rfl,Ku⟩)
  .intro u s' v' ho'
   have e2:Ni u s'=Ni t w/\v'=ver:=by
    rcases ho with ho|ho<;>rcases ho' with ho'|ho'<;>(rw[ho]at ho';simp at ho')
    all_goals
     obtain⟨rfl,e,rfl⟩:=ho';cases eq_of_heq e;exact⟨rfl,rfl⟩
   obtain⟨e2,rfl⟩:=e2;obtain⟨rfl,e2⟩:=jw e2;cases e2;refine⟨au _,fun _=>⟨rfl,?_⟩⟩;cases s' with|nil=>trivial|mk l=>obtain⟨h3,h4⟩:=QW (enc:=aT u) hr';simp only[aN]at h3;refine⟨h3,?_⟩;simpa using h4
 cases x with
 |x t v=>
  cases t with
  |sl t=>
   simp only[t6]at hz;obtain⟨h2,hz2⟩:=aO hz;obtain rfl:bE t=sz:=by simpa using h2
   obtain⟨r,hr',hz3⟩:=rK hz2;have hm':m=v.l.length:=by simpa[FV,t_]using hm.symm
   subst hm';refine⟨_,_,_,xU hx,hz3,QU hr',ct (dV rfl ⟨?_,rfl⟩),trivial⟩;obtain⟨_,⟨hd,_⟩,_⟩:=oS (v:=.x (.sl t) v) trivial hx;exact hd
  |_=>simp[t6]at hz
 |so id=>
  simp only[t6]at hz;split at hz
  .rename_i ho;exact iQ id _ _ _ rfl (.inl ho) hz
  .rename_i ho;exact iQ id _ _ _ rfl (.inr ho) hz
  .simp at hz
 |sb id ver off t v=>
  simp only[t6]at hz;obtain⟨h2,hz2⟩:=aO hz;obtain rfl:bE t=sz:=by simpa using h2
  obtain⟨r,hr',hz3⟩:=rK hz2;have hm':m=v.l.length:=by simpa[FV,t_]using hm.symm
  subst hm';refine⟨_,_,zW id (off+(lo.getD 0).toNat) t (v.to r),qg hx ha,hz3,?_,ct (dV rfl ⟨_,rfl,fun _=>rfl,Ku⟩),hk.1,?_⟩
  .cases v with|nil=>exact Mx hr'|mk l=>obtain⟨h3,rfl⟩:=nX.1 hr';simp only[Sl.l]at h3;simp only[zW,fU,Bool.false_eq_true,if_false,Sl.to,Sl.l,aN];rw[if_pos ⟨trivial,h3⟩];simp;omega
  .intro u s' v' ho;obtain⟨h3,h4⟩:=hk.2 u s' v' ho;refine⟨h3,fun e=>?_⟩;obtain⟨h5,h6⟩:=h4 e;refine⟨h5,?_⟩;cases s' with
   |nil=>cases v<;>first|trivial|exact h6.elim
   |mk l=>
    cases v with
    |nil=>exact h6.elim
    |mk w=>
     obtain⟨h7,h8⟩:=h6;obtain⟨h9,rfl⟩:=nX.1 hr';simp only[Sl.l]at h9;show off+(lo.getD 0).toNat+((w.drop (lo.getD 0).toNat).take _).length<=l.length/\((l.map (aT u)).drop (off+(lo.getD 0).toNat)).take ((w.drop (lo.getD 0).toNat).take _).length=((w.drop (lo.getD 0).toNat).take _).map (aT t);generalize hA:(lo.getD 0).toNat=A;generalize hB:((hi.getD (Sl.l (Sl.mk w)).length).toNat-A)=B;have hle:A+B<=w.length:=by subst hA hB;simp only[Sl.l];omega
     have hlen:((w.drop A).take B).length=B:=by simp;omega
     refine⟨by omega,?_⟩;rw[hlen,hZ,gz,<-h8,List.drop_take,dv,List.take_take];congr 1;omega
 |nl k=>
  cases k with
  |zero=>
   simp only[t6]at hz;obtain⟨r,hr',hz3⟩:=rK hz;have hm':m=0:=by simpa[FV]using hm.symm
   subst hm';exact⟨_,_,_,vR hx,hz3,Mx (α:=Unit) (by simpa[Sl.l]using hr'),ct (dV rfl rfl),trivial⟩
  |succ k=>simp[t6]at hz
 |_=>simp[t6]at hz
theorem Ht:∀(p:pV)(t a:Ty)(l m:Nat),qW t p=some (.ar l a)->m<l->IP t p->IP t (p++[.ix m])/\mQ t (p++[.ix m])=mQ t p+m*bE a:=by
 intro p;induction p with
 |nil=>
  intro t a l m h1 hm _;have e:qW t []=some t:=by cases t<;>rfl
  obtain rfl:t=.ar l a:=by rw[e]at h1;exact aa h1
  refine⟨⟨hm,by cases a<;>trivial⟩,?_⟩;simp only[bk,mQ];cases a<;>simp[mQ]
 |cons q p ih=>
  intro t a l m h1 hm h3;cases q with
  |fd j=>cases t with|st t=>obtain⟨b2,hb,h3⟩:=h3;simp only[qW,hb]at h1;obtain⟨q1,q2⟩:=ih b2 a l m h1 hm h3;refine⟨⟨b2,hb,q1⟩,?_⟩;simp only[aU,mQ,hb,q2];exact(cP _ _ _).symm|_=>exact h3.elim
  |ix k=>cases t with|ar l' t=>obtain⟨hk,h3⟩:=h3;obtain⟨q1,q2⟩:=ih t a l m h1 hm h3;refine⟨⟨hk,q1⟩,?_⟩;simp only[aU,mQ,q2];exact(cP _ _ _).symm|_=>exact h3.elim
theorem Qk{id:Nat}{t u:Ty}{w:Sl (El t)}{w':Sl (El u)}{v v':Nat}(ho:fO h id=some (.ar t w v)\/fO h id=some (.im t w v))(ho':fO h id=some (.ar u w' v')\/fO h id=some (.im u w' v')):Ni u w'=Ni t w/\v'=v:=by
 rcases ho with ho|ho<;>rcases ho' with ho'|ho'<;>(rw[ho]at ho';simp at ho')
 all_goals
  obtain⟨rfl,e,rfl⟩:=ho';cases eq_of_heq e;exact⟨rfl,rfl⟩
theorem KZ{id:Nat}{t u:Ty}{w:Sl (El t)}{w':Sl (El u)}{v v':Nat}(ho:fO h id=some (.ar t w v)\/fO h id=some (.im t w v))(ho':fO h id=some (.ar u w' v')\/fO h id=some (.im u w' v')):w'.l.length=w.l.length:=by obtain⟨e,_⟩:=Qk ho ho';obtain⟨rfl,e⟩:=jw e;cases e;rfl
theorem Pn{c:C}{t:Ty}{id m sz:Nat}{w:Sl (El t)}{i:Int}{kd:IntKind}{cl:Call}{nx:Nat}(hc:c=mU (bE t) (aT t) id w)(hsz:bE t=sz)(hi:e9 i w.l.length=some m):
  cQ cl (.indexAddr none sz) [some (.c c),some (tI kd i)] h1 nx=some (.c (.ep id m 0),[],[],nx):=by
 subst hc hsz;cases w with|nil=>exact LB hi|mk l=>exact UI hi
theorem SA{t:Ty}{v:El t}{x:TV}(hx:gy h (.x t v) x):kY t=true:=by obtain⟨_,⟨hd,_⟩,_⟩:=oS (v:=.x t v) trivial hx;exact hd
theorem UU{n':Nat}{t:Ty}{v:El (.ar n' t)}{x:TV}(hx:gy h (.x (.ar n' t) v) x):x=.agg ((aT (.ar n' t) v).map .d):=by obtain⟨cs,⟨_,rfl⟩,h2,_⟩:=oS (v:=.x (.ar n' t) v) trivial hx;exact h2 rfl
theorem Ez{n' m:Nat}{t:Ty}(v:El (.ar n' t))(hm:m<n'):m*bE t+bE t<=(aT (.ar n' t) v).length/\((aT (.ar n' t) v).drop (m*bE t)).take (bE t)=aT t (gt v.1 m):=by have hl:v.1.length=n':=v.2;refine⟨?_,ze (bJ t) v.1 m (by omega)⟩;rw[bJ];show _<=n'*bE t;have:(m+1)*bE t<=n'*bE t:=Nat.mul_le_mul_right _ hm;rw[bP,Nat.one_mul]at this;exact this
theorem LD{x:V}{y:TV}{sz:Nat}{i:Int}{kd:IntKind}
  (hz:(match x with
  |.x (.sl t) v=>bif bE t==sz then(e9 i v.l.length).bind fun m=>k (.pt t (gt v.l m)) s []else none
  |.so id=>(match t_ s.heap (.so id)with|some ⟨t,v,_⟩=>bif bE t==sz then(e9 i v.l.length).bind fun m=>k (.ep id m t []) s []else none|none=>none)
  |.sb id _ lo t v=>bif bE t==sz then(e9 i v.l.length).bind fun m=>k (.ep id (lo+m) t []) s []else none
  |.sr id=>(match fO s.heap id with|some (.rw t v _)=>bif 1==sz then(e9 i v.l.length).bind fun m=>k (.ep id m (.sl t) []) s []else none|_=>none)
  |_=>none)=some z)
  (hr:HR s.next h1 s.heap) (hx:gy s.heap x y) (hk:ft s.next s.heap x) (ha:iD s.heap x=true):zH h1 (.indexAddr none sz) [y,tI kd i] s k z:=by
 cases x with
 |x t v=>
  cases t with
  |sl t=>
   simp only at hz;obtain⟨h2,hz2⟩:=aO hz;obtain⟨m,hm,hz3⟩:=rK hz2;obtain rfl:bE t=sz:=by simpa using h2
   rw[xU hx];exact .pure hr hz3 (x:=.c (.d (.pt (aT t (gt (Sl.l v) m))))) (fun _=>Sg hm) (ct (dV rfl ⟨SA (t:=.sl t) hx,rfl⟩)) trivial
  |_=>simp at hz
 |so id=>
  simp only at hz;split at hz
  .rename_i t v l hs;obtain⟨h2,hz2⟩:=aO hz;obtain⟨m,hm,hz3⟩:=rK hz2;obtain⟨ver,ho,_⟩:=vW hs;simp only at ho;rw[su hx (mS ho)];refine .pure hr hz3 (x:=.c (.ep id m 0)) (fun _=>Pn rfl (by simpa using h2) hm) (ct (dV rfl (by cases t<;>rfl))) ⟨hk,by cases t<;>trivial,fun u w' v' ho'=>?_,fun u w' v' ho'=>?_⟩
   .have:=(gB.1 hm).2;rw[KZ ho ho'];exact this
   .rcases ho with ho|ho<;>rw[ho]at ho'<;>cases ho'
  .simp at hz
 |sr id=>
  simp only at hz;split at hz
  .rename_i t v ln ho;obtain⟨h2,hz2⟩:=aO hz;obtain⟨m,hm,hz3⟩:=rK hz2;rw[Kb hx (sB ho)];refine .pure hr hz3 (x:=.c (.ep id m 0)) (fun _=>Pn (t:=.sl t) rfl (Eq.trans (rfl:bE (.sl t)=1) (beq_iff_eq.1 h2)) hm) (ct (dV rfl rfl)) ⟨hk,trivial,fun u w' v' ho'=>?_,fun u w' v' ho'=>?_⟩
   .rw [ho]at ho';rcases ho' with ho'|ho'<;>cases ho'
   .rw [ho]at ho';cases ho';exact(gB.1 hm).2
  .simp at hz
 |sb id ver lo t v=>
  simp only at hz;obtain⟨h2,hz2⟩:=aO hz;obtain⟨m,hm,hz3⟩:=rK hz2;obtain rfl:bE t=sz:=by simpa using h2
  rw[qg hx ha];have hm2:=(gB.1 hm).2;cases v with
  |nil=>exact LB hm
  |mk w=>refine .pure hr hz3 (x:=.c (.ep id (lo+m) 0)) (fun _=>Si (l:=w) hm) (ct (dV rfl (by cases t<;>rfl))) ⟨hk.1,by cases t<;>trivial,fun u w' v' ho'=>?_,fun u w' v' ho'=>by obtain⟨u0,s0,ho⟩:=n_ (h:=s.heap) (id:=id) (ver:=ver) (dR.1 ha).2;rcases ho with ho|ho<;>rw[ho]at ho'<;>cases ho'⟩;obtain⟨u0,s0,ho⟩:=n_ (h:=s.heap) (id:=id) (ver:=ver) (dR.1 ha).2;obtain⟨_,h4⟩:=hk.2 u0 s0 ver ho;obtain⟨_,h6⟩:=h4 rfl;rw[KZ ho ho'];cases s0 with|nil=>exact h6.elim|mk l=>have:=h6.1;simp only[Sl.l]at hm2|-;omega
 |_=>simp at hz
theorem LC{x:V}{y:TV}{n0 sz:Nat}{i:Int}{kd:IntKind}
  (hz:(match x with
  |.op id t p=>(match qW t p with|some (.ar n' u)=>bif(n'==n0)&&(bE u==sz)then(e9 i n0).bind fun m=>k (.op id t (p++[.ix m])) s []else none|_=>none)
  |.ep id q t p=>(match qW t p with|some (.ar n' u)=>bif(n'==n0)&&(bE u==sz)then(e9 i n0).bind fun m=>k (.ep id q t (p++[.ix m])) s []else none|_=>none)
  |.pt (.ar n' u) v=>bif(n'==n0)&&(bE u==sz)then(e9 i n0).bind fun m=>k (.pt u (gt v.1 m)) s []else none
  |_=>none)=some z)
  (hr:HR s.next h1 s.heap) (hx:gy s.heap x y) (hk:ft s.next s.heap x):zH h1 (.indexAddr (some n0) sz) [y,tI kd i] s k z:=by
 cases x with
 |op id t p=>
  simp only at hz;split at hz
  .rename_i n' u hu;obtain⟨h2,hz2⟩:=aO hz;obtain⟨m,hm,hz3⟩:=rK hz2;simp only[ai,beq_iff_eq]at h2;obtain⟨rfl,rfl⟩:=h2;obtain⟨rfl,hm2⟩:=gB.1 hm;obtain⟨q1,q2⟩:=Ht p t u n' m hu hm2 hk.2;rw[vQ hx];refine .pure hr hz3 (x:=.c (.op id (mQ t p+m*bE u))) (fun _=>?_) (ct (dV rfl ?_)) ⟨hk.1,q1⟩
   .simp only[mh,cQ,cE,iL];rw[if_pos ⟨by omega,by omega⟩];simp
   .show [_]=[_];rw[q2]
  .simp at hz
 |ep id q t p=>
  simp only at hz;split at hz
  .rename_i n' u hu;obtain⟨h2,hz2⟩:=aO hz;obtain⟨m,hm,hz3⟩:=rK hz2;simp only[ai,beq_iff_eq]at h2;obtain⟨rfl,rfl⟩:=h2;obtain⟨rfl,hm2⟩:=gB.1 hm;obtain⟨q1,q2⟩:=Ht p t u n' m hu hm2 hk.2.1;rw[sv hx];refine .pure hr hz3 (x:=.c (.ep id q (mQ t p+m*bE u))) (fun _=>?_) (ct (dV rfl ?_)) ⟨hk.1,q1,hk.2.2⟩
   .simp only[mh,cQ,cE,iL];rw[if_pos ⟨by omega,by omega⟩];simp
   .show [_]=[_];rw[q2]
  .simp at hz
 |pt t v=>cases t with|ar n' u=>simp only at hz;obtain⟨h2,hz2⟩:=aO hz;obtain⟨m,hm,hz3⟩:=rK hz2;simp only[ai,beq_iff_eq]at h2;obtain⟨rfl,rfl⟩:=h2;obtain⟨rfl,hm2⟩:=gB.1 hm;obtain⟨hd,rfl⟩:=xV hx;obtain⟨a1,a2⟩:=Ez v hm2;refine .pure hr hz3 (x:=.c (.d (.pt (aT u (gt v.1 m))))) (fun _=>?_) (ct (dV rfl ⟨hd,rfl⟩)) trivial;simp only[mh,cQ,cE,iL];rw[if_pos ⟨by omega,by omega⟩];simp only[ei];rw[if_pos a1,a2]|_=>simp at hz
 |_=>simp at hz
end
section
variable{h:H2}{n:Nat}{h1:bH}{β:Type}{s:S2}{k:V->S2->List Nat->Option β}{z:β}
theorem Cj{t u:Ty}{m:Sl (El t)}{m':Sl (El u)}(hc:gN (.sl t) (.sl u) m=some m'):t=u/\m'.l.map (aT u)=m.l.map (aT t):=by obtain⟨e,rfl⟩:=du hc;cases e;exact⟨rfl,rfl⟩
theorem P1{c:C}{t:Ty}{id sz:Nat}{w:Sl (El t)}{ver:Nat}(hr:HR n h1 h)(hc:c=mU (bE t) (aT t) id w)(hsz:bE t=sz)(ho:fO h id=some (.ar t w ver)\/fO h id=some (.im t w ver)):
  ∃aD,jj sz h1 c=some (w.l.map (aT t),aD)/\∀i∈aD,i=id:=by
 subst hc hsz;cases w with
 |nil=>exact⟨[],rfl,fun i hi=>by simp at hi⟩
 |mk l=>
  refine⟨[id],?_,fun i hi=>by simpa using hi⟩;rcases ho with ho|ho
  .have hb:=(hr.ob id _ ho).2.1.2.2 l rfl;simp only[mU,jj,hb];rw[if_pos ⟨trivial,by simp⟩,vy];rfl
  .have hb:=(hr.ob id _ ho).2.1.2.2 l rfl;simp only[mU,jj,hb];rw[if_pos ⟨trivial,by simp⟩,vy];rfl
theorem NN{id lo ver sz:Nat}{t:Ty}{r:Sl (El t)}(hr:HR n h1 h)(hk:ft n h (.sb id ver lo t r))(ha:iD h (.sb id ver lo t r)=true)(hsz:bE t=sz):
  ∃aD,jj sz h1 (zW id lo t r)=some (r.l.map (aT t),aD)/\∀i∈aD,i=id:=by
 subst hsz;obtain⟨u,s0,ho⟩:=n_ (h:=h) (id:=id) (ver:=ver) (dR.1 ha).2;obtain⟨_,h4⟩:=hk.2 u s0 ver ho;obtain⟨h5,h6⟩:=h4 rfl;cases r with
 |nil=>exact⟨[],rfl,fun i hi=>by simp at hi⟩
 |mk w=>
  cases s0 with
  |nil=>exact h6.elim
  |mk l=>
   refine⟨[id],?_,fun i hi=>by simpa using hi⟩
   have hb:aC h1 id=some (.aM (bE u) (l.map (aT u)))\/aC h1 id=some (.qK (bE u) (l.map (aT u))):=by
    rcases ho with ho|ho
    .exact .inl ((hr.ob id _ ho).2.1.2.2 l rfl)
    .exact .inr ((hr.ob id _ ho).2.1.2.2 l rfl)
   rcases hb with hb|hb
   .simp only[zW,jj,hb];rw[if_pos ⟨trivial,by simpa using h6.1⟩];rw[aN,h6.2];rfl
   .simp only[zW,jj,hb];rw[if_pos ⟨trivial,by simpa using h6.1⟩];rw[aN,h6.2];rfl
theorem G4{x:V}{y:TV}{t0 t:Ty}{m:Sl (El t)}{l:List Nat}{sz:Nat}(hr:HR n h1 h)(hx:gy h x y)(hk:ft n h x)(ha:iD h x=true)(hs:Kr t0 h x=some ⟨t,m,l⟩)(hsz:bE t=sz):
  ∃c aD,y=.c c/\jj sz h1 c=some (m.l.map (aT t),aD)/\∀i∈aD,i∈l:=by
 cases x with
 |nl j=>cases j with|zero=>simp only[Kr]at hs;obtain⟨rfl,e⟩:=jw (aa hs);obtain⟨rfl,rfl⟩:=ad (eq_of_heq e);exact⟨_,[],vR hx,rfl,fun i hi=>by simp at hi⟩|succ j=>simp[Kr,t_]at hs
 |x u v=>cases u with|sl u=>simp only[Kr,t_]at hs;obtain⟨rfl,e⟩:=jw (aa hs);obtain⟨rfl,rfl⟩:=ad (eq_of_heq e);subst hsz;exact⟨_,[],xU hx,NM,fun i hi=>by simp at hi⟩|_=>simp[Kr,t_]at hs
 |so id=>obtain⟨ver,ho,e⟩:=vW (h:=h) (id:=id) hs;obtain rfl:l=[id]:=e;obtain⟨aD,q1,q2⟩:=P1 hr rfl hsz ho;exact⟨_,aD,su hx (mS ho),q1,fun i hi=>by simpa using q2 i hi⟩
 |sb id ver lo u r=>simp only[Kr,t_]at hs;obtain⟨rfl,e⟩:=jw (aa hs);obtain⟨rfl,rfl⟩:=ad (eq_of_heq e);obtain⟨aD,q1,q2⟩:=NN hr hk ha hsz;exact⟨_,aD,qg hx ha,q1,fun i hi=>by simpa using q2 i hi⟩
 |_=>simp[Kr,t_]at hs
def uc(s:S2):Option Nat->S2
 |none=>s
 |some id=>ff s id none
theorem Cr{mx:Option Nat}{t:Ty}{w:Sl (El t)}{u:fL}{aD l:List Nat}{m:Nat}(hr:HR s.next h1 s.heap)(hkl:∀id,mx=some id->id<s.next)(hd:CA t=true)(hu:∀p∈u,p.1=s.next\/mx=some p.1)(hl:∀i∈aD,i∈l)(hm:m<=s.next+1)
  (hb:∀l,w=.mk l->aC (u++h1) s.next=some (.aM (bE t) (l.map (aT t)))) {x:TV} (hx:x=.c (mU (bE t) (aT t) s.next w)):tV s (kc (uc s mx) (.ar t w 0)) h1 x u aD m (.so s.next) l:=by
 have hnx:(uc s mx).next=s.next:=by cases mx<;>rfl
 have hh:(kc (uc s mx) (.ar t w 0)).heap=(s.next,some (.ar t w 0))::(uc s mx).heap:=by simp only[kc,hnx]
 have hfo:∀i,fO (kc (uc s mx) (.ar t w 0)).heap i=if s.next=i then some (.ar t w 0)else if mx=some i then none else fO s.heap i:=by intro i;rw[hh,eG];cases mx with|none=>simp[uc]|some id=>simp only[uc,ff,eG,bm]
 have hnn:(kc (uc s mx) (.ar t w 0)).next=s.next+1:=by simp only[kc,hnx]
 refine tV.EN (s.next::mx.toList) hr ⟨fun i o' hi ho=>?_⟩ ?_ ?_ ?_ ?_ hl ?_ ?_ ?_ ?_ ?_ ?_ (fun i hi h=>by rw[hfo,if_neg (by omega)];split<;>first|rfl|exact h)
 .rw [hfo,if_neg (by omega)]at ho;split at ho
  .simp at ho
  .exact .inl ⟨o',ho,vK.refl _⟩
 .cases mx<;>rfl
 .cases mx<;>rfl
 .rw [hnn];exact hm
 .rw [hnn];omega
 .cases mx<;>simp[kc,uc,ff]
 .intro p hp;rcases hu p hp with e|e
  .simp [e]
  .simp [e]
 .intro i hi;rw[hfo,if_neg (fun e=>hi (by simp[e])),if_neg (fun e=>hi (by simp[e]))]
 .intro i hi o ho;rw[hfo]at ho;split at ho
  .rename_i e;subst e;obtain rfl:=aa ho;obtain⟨h3,h4⟩:=qd hd;exact⟨by rw[hnn];omega,⟨h3,h4,hb⟩,trivial⟩
  .rename_i e;split at ho
   .simp at ho
   .rename_i e2;rcases aP.1 hi with hi|hi
    .exact absurd hi.symm e
    .exact absurd (by simpa using hi) e2
 .rw [hx,hh,show s.next=s.next from rfl];exact wi
 .rw [hnn];exact aZ _
theorem Jn{sz:Nat}{c:C}{new:List (List D)}{aD:List Nat}(hx:jj sz h1 c=some (new,aD))(hl:new.length<=2147483648){nx:Nat}{cl:Call}:
  cQ cl (.append sz) [some (.c (.d (.lit (.slice none 0 0)))),some (.c c)] h1 nx=if new=[]then some (.c (.d (.lit (.slice none 0 0))),[],aD,nx)else some (.c (.fq sz nx 0 new.length),[(nx,some (.aM sz new))],aD,nx+1):=by
 simp only[cQ,oC,hx];rw[if_pos (by simpa[DN]using hl)];cases new<;>simp
theorem vF{mx:Option Nat}{t:Ty}{xs r:List (El t)}{sz:Nat}{c:C}{aD l:List Nat}(hr:HR s.next h1 s.heap)(hkl:∀id,mx=some id->id<s.next)(hd:CA t=true)(hsz:bE t=sz)(hx:jj sz h1 c=some (xs.map (aT t),aD))(hc:iH ([]++xs)=some r)
  (hl:∀i∈aD,i∈l) (hz:k (.so s.next) (kc (uc s mx) (.ar t (kO Sl.nil xs r) 0)) l=some z):zH h1 (.append sz) [.c (.d (.lit (.slice none 0 0))),.c c] s k z:=by
 subst hsz;obtain⟨rfl,hlen⟩:=wK.1 hc;refine⟨_,_,_,hz,fun cl=>?_⟩;simp only[aB,aW];rw[Jn hx (by simpa using hlen)];cases xs with|nil=>exact⟨_,_,_,_,rfl,Cr hr hkl hd (fun p hp=>by simp at hp) hl (bO _) (fun l e=>by cases e) rfl⟩|cons y ys=>refine⟨_,_,_,_,if_neg (by simp),Cr hr hkl hd (fun p hp=>by simp at hp;simp[hp]) hl (au _) (fun l e=>?_) rfl⟩;simp only[kO,bk]at e;cases e;rw[bo,eP,if_pos rfl]
theorem HQ{t:Ty}{w xs r:List (El t)}{sz id off:Nat}{ao:List (List D)}{c:C}{aD l:List Nat}(hr:HR s.next h1 s.heap)(hid:id<s.next)(hd:CA t=true)(hsz:bE t=sz)(hl1:aC h1 id=some (.aM sz ao))(hle:off+w.length<=ao.length)(hro:ao.length<=off+(w.length+xs.length))(he:(ao.drop off).take w.length=w.map (aT t))
  (hx:jj sz h1 c=some (xs.map (aT t),aD)) (hc:iH (w++xs)=some r) (hl:∀i∈id::aD,i∈l) (hz:k (.so s.next) (kc (ff s id none) (.ar t (kO (.mk w) xs r) 0)) l=some z):
  zH h1 (.append sz) [.c (.fq sz id off (w.map (aT t)).length),.c c] s k z:=by
 subst hsz;obtain⟨rfl,hlen⟩:=wK.1 hc;have ea:kO (.mk w) xs (w++xs)=.mk (w++xs):=by cases xs<;>rfl
 rw[ea]at hz;refine⟨_,_,_,hz,fun cl=>⟨.c (.fq (bE t) s.next 0 ((w++xs).map (aT t)).length),[(id,none),(s.next,some (.aM (bE t) ((w++xs).map (aT t))))],id::aD,s.next+1,?_,?_⟩⟩
 .simp only[aB,aW,cQ,oC,hx,hl1];simp only[aN,av]at hlen|-;rw[if_pos ⟨trivial,by omega,by simpa[DN]using hlen⟩,he,<-gP,List.drop_eq_nil_of_le (by omega),List.append_nil]
 .refine Cr (mx:=some id) hr (fun i e=>by cases e;exact hid) hd (fun p hp=>?_) hl (au _) (fun l e=>?_) rfl
  .simp only[aP,gf,or_false]at hp;rcases hp with rfl|rfl<;>simp
  .cases e;rw[aU,eP,if_neg (by omega),bo,eP,if_pos rfl]
theorem EB{a x:V}{ya yx:TV}{t0:Ty}{sz:Nat}
  (hz:(match Kr t0 s.heap x with
  |some ⟨t,m,aD⟩=>bif(bE t==sz)&&CA t then(match a with
   |.nl 0=>(iH ([]++m.l)).bind fun r=>k (.so s.next) (kc s (.ar t (kO Sl.nil m.l r) 0)) aD
   |.x (.sl _) v=>bif Sl.fQ v then((iH ([]++m.l)).bind fun r=>k (.so s.next) (kc s (.ar t (kO Sl.nil m.l r) 0)) aD)else none
   |.so id=>(match fO s.heap id with
    |some (.ar u v _)=>(match gN (.sl t) (.sl u) m with
     |some m=>(iH (v.l++m.l)).bind fun r=>k (.so s.next) (kc (ff s id none) (.ar u (kO v m.l r) 0)) (id::aD)
     |none=>none)
    |_=>none)
   |.sb id _ lo u v=>(match fO s.heap id,gN (.sl t) (.sl u) m with
    |some (.ar _ s0 _),some m=>bif Nat.ble s0.l.length (lo+(v.l.length+m.l.length))then((iH (v.l++m.l)).bind fun r=>k (.so s.next) (kc (ff s id none) (.ar u (kO v m.l r) 0)) (id::aD))else none
    |_,_=>none)
   |_=>none)else none
  |none=>none)=some z)
  (hr:HR s.next h1 s.heap) (ha1:gy s.heap a ya) (ha2:ft s.next s.heap a) (ha3:iD s.heap a=true) (hx:gy s.heap x yx) (hk:ft s.next s.heap x) (ha:iD s.heap x=true):zH h1 (.append sz) [ya,yx] s k z:=by
 split at hz
 .rename_i t m l hs;obtain⟨h2,hz2⟩:=aO hz;simp only[ai,beq_iff_eq]at h2;obtain⟨hsz,hd⟩:=h2;obtain⟨c,aD,rfl,q1,q2⟩:=G4 hr hx hk ha hs hsz;clear hz;cases a with
  |nl j=>cases j with|zero=>obtain⟨r,hc,hz3⟩:=rK hz2;rw[vR ha1];exact vF (mx:=none) hr (fun _ e=>by cases e) hd hsz q1 hc q2 hz3|succ j=>simp at hz2
  |x u v=>
   cases u with
   |sl u=>obtain⟨hnil,hz3⟩:=aO hz2;obtain⟨r,hc,hz4⟩:=rK hz3;cases v with|mk=>cases hnil|nil=>obtain⟨cc,rfl,hcc⟩:=jq (v:=.x (.sl u) Sl.nil) ha1 rfl;obtain rfl:cc=Dz 0:=(List.cons.inj hcc.2).1;exact vF (mx:=none) hr (fun _ e=>by cases e) hd hsz q1 hc q2 hz4
   |_=>simp at hz2
  |so id=>
   simp only at hz2;split at hz2
   .rename_i u v ver ho;split at hz2
    .rename_i m' hm;obtain⟨rfl,e⟩:=Cj hm;obtain⟨r,hc,hz3⟩:=rK hz2;rw[su ha1 (mS (.inl ho))];rw[<-e]at q1;cases v with
     |nil=>exact vF (mx:=some id) hr (fun _ e=>by cases e;exact ha2) hd hsz q1 hc (fun i hi=>aA _ (q2 i hi)) hz3
     |mk w=>
      have hb:=(hr.ob id _ ho).2.1.2.2 w rfl;subst hsz;refine HQ (w:=w) hr ha2 hd rfl hb (by simp) (by simp only[aN];omega) (by rw[<-aN (f:=aT t)];exact vy) q1 hc (fun i hi=>?_) hz3;rcases aP.1 hi with rfl|hi
      .exact cq ..
      .exact aA _ (q2 i hi)
    .simp at hz2
   .simp at hz2
  |sb id ver lo u v=>
   simp only at hz2;split at hz2
   .rename_i u0 s0 v0 m' ho hm;obtain⟨rfl,e⟩:=Cj hm;obtain⟨hgd,hz2b⟩:=aO hz2;obtain⟨r,hc,hz3⟩:=rK hz2b;rw[qg ha1 ha3];rw[<-e]at q1;cases v with
    |nil=>exact vF (mx:=some id) hr (fun _ e=>by cases e;exact ha2.1) hd hsz q1 hc (fun i hi=>aA _ (q2 i hi)) hz3
    |mk w=>
     obtain⟨u1,s1,ho1⟩:=n_ (h:=s.heap) (id:=id) (ver:=ver) (dR.1 ha3).2;obtain⟨_,h4⟩:=ha2.2 u1 s1 ver ho1;obtain⟨h5,h6⟩:=h4 rfl
     have ho2:fO s.heap id=some (.ar u1 s1 ver):=by
      rcases ho1 with ho1|ho1
      .exact ho1
      .rw [ho]at ho1;simp at ho1
     cases s1 with
     |nil=>exact h6.elim
     |mk l1=>
      have hb:=(hr.ob id _ ho2).2.1.2.2 l1 rfl;subst hsz;rw[h5]at hb
      refine HQ (w:=w) hr ha2.1 hd rfl hb (by simpa using h6.1) (by
       rw[ho2]at ho;obtain⟨rfl,e2,_⟩:u1=u0/\_:=by simpa using ho
       cases eq_of_heq e2;have:=je hgd;simpa[Sl.l]using this) h6.2 q1 hc (fun i hi=>?_) hz3
      rcases aP.1 hi with rfl|hi
      .exact cq ..
      .exact aA _ (q2 i hi)
   .simp at hz2
  |_=>simp at hz2
 .simp at hz
end
section
variable{h:H2}{n:Nat}{h1:bH}{β:Type}{s:S2}{k:V->S2->List Nat->Option β}{z:β}
theorem GS{id:Nat}{o o':O}{u:fL}{x:TV}{v:V}{aD l:List Nat}(hr:HR s.next h1 s.heap)(ho:fO s.heap id=some o)(hs:vK o o')(hu:∀p∈u,p.1=id)(hb:yD ((id,some o')::s.heap) o' (aC (u++h1) id))(hko:He s.next ((id,some o')::s.heap) o')
  (hx:gy ((id,some o')::s.heap) v x) (hk:ft s.next ((id,some o')::s.heap) v) (hl:∀i∈aD,i∈l):tV s (ff s id (some o')) h1 x u aD s.next v l:=by
 refine tV.EN [id] hr (k7.Nc ho hs) rfl rfl (au _) (au _) hl rfl (fun p hp=>by simp[hu p hp]) (fun i hi=>?_) (fun i hi o2 ho2=>?_) hx hk (fun i _ h=>by simp only[ff];rw[eG,if_neg (fun e=>by rw[e,h]at ho;cases ho)];exact h)
 .simp only[ff];rw[eG,if_neg fun e=>hi (by simp[e])]
 .obtain rfl:=aq.1 hi;simp only[ff,tO]at ho2;obtain rfl:=aa ho2;exact⟨(hr.ob _ _ ho).1,hb,hko⟩
theorem rM{id ver:Nat}{t:Ty}{w w':Sl (El t)}{u:fL}{x:TV}{v:V}{aD l:List Nat}(hr:HR s.next h1 s.heap)(ho:fO s.heap id=some (.ar t w ver))(hn:w.fQ=w'.fQ)(hlen:w.l.length=w'.l.length)(hu:∀p∈u,p.1=id)
  (hb:∀l,w'=.mk l->aC (u++h1) id=some (.aM (bE t) (l.map (aT t)))) (hx:∀g,gy g v x) (hk:∀n g,ft n g v) (hl:∀i∈aD,i∈l):tV s (ff s id (some (.ar t w' (ver+1)))) h1 x u aD s.next v l:=by
 obtain⟨h2,h3,_⟩:=(hr.ob id _ ho).2.1;exact GS hr ho ⟨bO _,rfl,hn,hlen,fun e=>by omega⟩ hu ⟨h2,h3,hb⟩ trivial (hx _) (hk _ _) hl
theorem Jz{a x:V}{ya yx:TV}{t0:Ty}{sz:Nat}
  (hz:(match Kr t0 s.heap x with
  |some ⟨t,m,aD⟩=>bif bE t==sz then(match a with
   |.nl 0=>k (.x (.i .i64) (0:Int)) s aD
   |.so id=>(match fO s.heap id with
    |some (.ar u v ver)=>(match gN (.sl t) (.sl u) m with
     |some m=>k (.x (.i .i64) ((min m.l.length v.l.length:Nat):Int)) (ff s id (some (.ar u (v.to (ME v.l 0 v.l.length m.l)) (ver+1)))) (id::aD)
     |none=>none)
    |_=>none)
   |.sb id ver lo _ v=>(match fO s.heap id with
    |some (.ar u w ver')=>(match gN (.sl t) (.sl u) m with
     |some m=>bif ver'==ver then k (.x (.i .i64) ((min m.l.length v.l.length:Nat):Int)) (ff s id (some (.ar u (w.to (ME w.l lo v.l.length m.l)) (ver+1)))) (id::aD)else none
     |none=>none)
    |_=>none)
   |_=>none)else none
  |none=>none)=some z)
  (hr:HR s.next h1 s.heap) (ha1:gy s.heap a ya) (ha2:ft s.next s.heap a) (ha3:iD s.heap a=true) (hx:gy s.heap x yx) (hk:ft s.next s.heap x) (ha:iD s.heap x=true):zH h1 (.copy sz) [ya,yx] s k z:=by
 have hmem:∀{id:Nat}{aD l:List Nat},(∀i∈aD,i∈l)->∀i∈id::aD,i∈id::l:=fun q i hi=>by
  rcases aP.1 hi with rfl|hi
  .exact cq ..
  .exact aA _ (q i hi)
 split at hz
 .rename_i t m l hs;obtain⟨h2,hz2⟩:=aO hz;obtain rfl:bE t=sz:=by simpa using h2
  obtain⟨c,aD,rfl,q1,q2⟩:=G4 hr hx hk ha hs rfl;clear hz;cases a with
  |nl j=>cases j with|zero=>rw[vR ha1];exact⟨_,_,_,hz2,fun cl=>⟨tI .i64 0,[],aD,s.next,by simp only[aB,aW,cQ,my,Dz,q1];rfl,tV.pure hr (xi _ _) trivial q2⟩⟩|succ j=>simp at hz2
  |so id=>
   simp only at hz2;split at hz2
   .rename_i u v ver ho;split at hz2
    .rename_i m' hm;obtain⟨rfl,e⟩:=Cj hm;rw[su ha1 (mS (.inl ho))];rw[<-e]at q1;cases v with
     |nil=>refine⟨_,_,_,hz2,fun cl=>⟨tI .i64 0,[],aD,s.next,by simp only[aB,aW,cQ,my,mU,q1];rfl,?_⟩⟩;exact rM hr ho rfl rfl (fun p hp=>by simp at hp) (fun l e=>by cases e) (fun g=>by simpa[Sl.l]using xi .i64 0) (fun _ _=>trivial) fun i hi=>aA _ (q2 i hi)
     |mk w=>
      have hb:=(hr.ob id _ ho).2.1.2.2 w rfl;refine⟨_,_,_,hz2,fun cl=>⟨_,_,_,_,QX hb q1,?_⟩⟩;refine rM hr ho rfl ?_ (fun p hp=>by simp at hp;simp[hp]) (fun l e=>?_) (fun g=>xi _ _) (fun _ _=>trivial) (hmem q2)
      .simp only[Sl.to,Sl.l];rw[uM (by omega)]
      .simp only[Sl.to,Sl.l]at e;cases e;rw[bo,eP,if_pos rfl];rfl
    .simp at hz2
   .simp at hz2
  |sb id ver lo u0 v=>
   simp only at hz2;split at hz2
   .rename_i u w ver' ho;split at hz2
    .rename_i m' hm;obtain⟨rfl,e⟩:=Cj hm;obtain⟨h3,hz3⟩:=aO hz2;obtain rfl:ver'=ver:=by simpa using h3
     rw[qg ha1 ha3];rw[<-e]at q1;obtain⟨_,h4⟩:=ha2.2 t w ver' (.inl ho);obtain⟨h5,h6⟩:=h4 rfl;cases v with
     |nil=>cases w with|mk w=>exact h6.elim|nil=>refine⟨_,_,_,hz3,fun cl=>⟨tI .i64 0,[],aD,s.next,by simp only[aB,aW,cQ,my,zW,q1];rfl,?_⟩⟩;exact rM hr ho rfl rfl (fun p hp=>by simp at hp) (fun l e=>by cases e) (fun g=>by simpa[Sl.l]using xi .i64 0) (fun _ _=>trivial) fun i hi=>aA _ (q2 i hi)
     |mk v=>
      cases w with
      |nil=>exact h6.elim
      |mk w=>
       have hb:=(hr.ob id _ ho).2.1.2.2 w rfl;refine⟨_,_,_,hz3,fun cl=>⟨tI .i64 (min m'.l.length v.length:Nat),[(id,some (.aM (bE t) ((ME w lo v.length m'.l).map (aT t))))],id::aD,s.next,?_,?_⟩⟩
       .simp only[aB,aW,cQ,my,zW,q1,hb,<-h5];rw[if_pos ⟨trivial,by simpa using h6.1⟩];simp only[Gp,aN];rfl
       .refine rM hr ho rfl ?_ (fun p hp=>by simp at hp;simp[hp]) (fun l e=>?_) (fun g=>xi _ _) (fun _ _=>trivial) (hmem q2)
        .simp only[Sl.to,Sl.l];rw[uM h6.1]
        .simp only[Sl.to,Sl.l]at e;cases e;rw[bo,eP,if_pos rfl];rfl
    .simp at hz2
   .simp at hz2
  |_=>simp at hz2
 .simp at hz
theorem CJ{g:H2}:gy g (.tp .ni) (.iS []):=⟨[],rfl,rfl⟩
theorem Gw{a:V}{ya:TV}{zz:List Value}
  (hz:(match a with
  |.sb id ver lo _ v=>(match fO s.heap id with
   |some (.ar u w ver')=>bif(ver'==ver)&&tW (ny u) zz&&CA u then(OJ w lo v.l.length (si u)).bind fun w=>k (.tp .ni) (ff s id (some (.ar u w (ver+1)))) [id]else none
   |_=>none)
  |_=>none)=some z)
  (hr:HR s.next h1 s.heap) (ha1:gy s.heap a ya) (ha2:ft s.next s.heap a) (ha3:iD s.heap a=true):zH h1 (.clear zz) [ya] s k z:=by
 cases a with
 |sb id ver lo u0 v=>
  simp only at hz;split at hz
  .rename_i u w ver' ho;obtain⟨h3,hz2⟩:=aO hz;simp only[ai,beq_iff_eq]at h3;obtain⟨⟨rfl,q1⟩,q2⟩:=h3;have q1:=qZ q1;subst q1;obtain⟨hd,_⟩:=qd q2;obtain⟨w',hw,hz3⟩:=rK hz2;rw[qg ha1 ha3];obtain⟨_,h4⟩:=ha2.2 u w ver' (.inl ho);obtain⟨h5,h6⟩:=h4 rfl;have hzl:cF (ny u)=aT u (si u):=(qY u hd).symm;have hlen:bE u=(ny u).length:=by have:=congrArg mL hzl;rw[bJ,cF,aN]at this;exact this.symm
   cases w with
   |nil=>simp[OJ]at hw
   |mk w=>
    cases v with
    |nil=>exact h6.elim
    |mk v=>
     simp only[OJ,bm]at hw;subst hw;have hb:=(hr.ob id _ ho).2.1.2.2 w rfl;refine⟨_,_,_,hz3,fun cl=>⟨.iS [],[(id,some (.aM (bE u) ((ME w lo v.length (az v.length (si u))).map (aT u))))],[id],s.next,?_,?_⟩⟩
     .simp only[aB,aW,cQ,o_,zW,hb,<-h5];rw[if_pos ⟨hlen,by simpa using h6.1⟩,hzl,<-Gp];simp[aN,List.map_replicate,List.take_of_length_le]
     .refine rM hr ho rfl ?_ (fun p hp=>by simp at hp;simp[hp]) (fun l e=>?_) (fun g=>CJ) (fun _ _=>trivial) (fun i hi=>hi)
      .simp only[Sl.l];rw[uM (by simpa using h6.1)]
      .cases e;rw[bo,eP,if_pos rfl];rfl
  .simp at hz
 |_=>simp at hz
theorem CN{id m:Nat}{t:Ty}{p:pV}{w:V}{ya yw:TV}(hr:HR s.next h1 s.heap)(ha1:gy s.heap (.op id t p) ya)(ha2:ft s.next s.heap (.op id t p))(hx:gy s.heap w yw)(hk:ft s.next s.heap w)
  (hz:(bif(x5 w==m)then(match fO s.heap id with
  |some (.bx u c)=>bif decide (u=t)then(match qW t p with
   |some a=>(match Nd a w with
    |some w=>(match oF c p w with|some c=>bif eF c false t then k (.tp .ni) (ff s id (some (.bx t c))) [id]else none|none=>none)
    |none=>none)
   |none=>none)else none
  |_=>none)else none)=some z):zH h1 (.store m) [ya,yw] s k z:=by
 obtain⟨h2,hz2⟩:=aO hz;simp only[beq_iff_eq]at h2;clear hz;split at hz2
 .rename_i u c ho;obtain⟨h3,hz3⟩:=aO hz2;simp only[decide_eq_true_eq]at h3;subst h3;clear hz2;split at hz3
  .rename_i a ha;split at hz3
   .rename_i w' hw;split at hz3
    .rename_i c' hc;obtain⟨h4,hz4⟩:=aO hz3;obtain⟨cw,e1,e2⟩:=qA (oS (FM hw) hx);obtain⟨q1,q2,q3,q4⟩:=yE hw e1 hk;obtain⟨_,⟨cs,e3,e4,e5⟩,e6⟩:=hr.ob id _ ho;have l1:cw.length=x5 w:=iB e1;have l2:cw.length=bE a:=by rw[iB q1,gV _ _ _ q2]
     have l3:cs.length=bE u:=by rw[iB e4,gV _ _ _ e5]
     have l4:=wg p u a ha ha2.2;have q5:=vX p c u w' c' cs cw a e5 e4 ha2.2 hc ha q1 l2;have q6:=G0 p c w' c' e6 q3 hc;rw[vQ ha1];have hos:vK (.bx u c) (.bx u c'):=rfl;refine .Nc hr ho hos hz4 (fun cl=>?_) (b:=some (.box (aV cs (mQ u p) cw))) ?_ ?_ CJ trivial (aD:=[id]) fun i hi=>hi
     .simp only[aB,aW,cQ,mn,e2];rw[if_pos (l1.trans h2)];simp only[e3];rw[if_pos (by omega)]
     .exact ⟨_,rfl,lH (k7.Nc ho hos) q6 q5,h4⟩
     .exact gS (au _) (k7.Nc ho hos) q6
    .simp at hz3
   .simp at hz3
  .simp at hz3
 .simp at hz2
theorem tV.seq{s1 s':S2}{fu u:fL}{x:TV}{aD a l:List Nat}{m:Nat}{v:V}(eY:k7 s.next s.heap s1.heap)(he:s1.dT=s.dT)(hg:s1.gh=s.gh)(hn:s1.next=s.next)(hwo:s1.wo=a++s.wo)(hu:∀p∈fu,p.1∈a)(hf:∀id,id∉a->fO s1.heap id=fO s.heap id)
  (hna:∀i∈a,fO s.heap i≠none) (hd:tV s1 s' (fu++h1) x u aD m v l):tV s s' h1 x (u++fu) aD m v l:=by
 obtain⟨d1,d2,d3,d4,d5,d6,d7,d8,d9,d10,W,w1,w2,w3⟩:=hd;refine⟨d1,d2,by rw[aL];exact d3,k7.trans (Nat.le_of_eq hn.symm) eY d4,d5.trans he,d6.trans hg,d7,by omega,d9,fun i hi h=>d10 i (by omega) ((hf i fun q=>hna i q h).trans h),W++a,by rw[w1,hwo,aL],fun p hp=>?_,fun i hi=>?_⟩
 .rcases ap.1 hp with hp|hp
  .exact aF _ (w2 p hp)
  .exact aH _ (hu p hp)
 .rw [w3 i fun q=>hi (aF _ q),hf i fun q=>hi (aH _ q)]
theorem L0{v w:V}{l:List Nat}(hf:kN h v=some (w,l)):NX v:=by cases v<;>first|trivial|(simp[kN]at hf)
theorem pA{a b:List D}(e:a.map C.d=b.map C.d):a=b:=by
 induction a generalizing b with
 |nil=>cases b with|nil=>rfl|cons y b=>simp at e
 |cons x a ih=>cases b with|nil=>simp at e|cons y b=>simp only[aB,dM,C.d.injEq]at e;rw[e.1,ih e.2]
theorem QT:∀(p:pV)(t u:Ty),kY t=true->qW t p=some u->kY u=true:=by
 intro p;induction p with
 |nil=>
  intro t u hd h;have e:qW t []=some t:=by cases t<;>rfl
  rw[e]at h;exact aa h▸hd
 |cons q p ih=>
  intro t u hd h;cases q with
  |fd i=>
   cases t with
   |st t=>
    simp only[qW]at h;split at h
    .rename_i w hw;exact ih w u (zp t i w hd hw) h
    .simp at h
   |_=>simp[qW]at h
  |ix i=>cases t with|ar l t=>exact ih t u hd h|_=>simp[qW]at h
theorem Hf(t:Ty):mQ t []=0:=by cases t<;>rfl
theorem E_{t:Ty}{l:List (Sl (El t))}{ln:Option (Nat×Nat)}{m:Nat}{r:Sl (El t)}(h:GZ ln m=true):(fT t l ln).set m (pp t r)=fT t (l.set m r) none:=by cases ln with|none=>simp only[fT,List.map_set]|some q=>obtain⟨m',i⟩:=q;obtain rfl:m'=m:=Nat.eq_of_beq_eq_true h;simp only[fT,List.map_set,List.set_set]
theorem Fa{t:Ty}{l:List (Sl (El t))}{ln:Option (Nat×Nat)}:(fT t l ln).length=l.length:=by cases ln with|none=>simp[fT]|some q=>obtain⟨m',i⟩:=q;simp[fT]
theorem yr{id id2 m:Nat}{t:Ty}{l:List (Sl (El t))}{ln:Option (Nat×Nat)}{o2:O}{r:Sl (El t)}{u:fL}{aD:List Nat}(hr:HR s.next h1 s.heap)(ho:fO s.heap id=some (.rw t (.mk l) ln))(ho2:fO s.heap id2=some o2)(hne:id2≠id)(hlnm:GZ ln m=true)
  (hu:∀p∈u,p.1=id\/p.1=id2) (hb:aC (u++h1) id=some (.nst (bE t) ((fT t l ln).set m (pp t r)))) (hids:∀i∈aD,i∈[id,id2]):
  tV s (ff (ff s id2 none) id (some (.rw t (.mk (l.set m r)) none))) h1 (.iS []) u aD s.next (.tp .ni) [id,id2]:=by
 have eY:k7 s.next s.heap ((id,some (.rw t (.mk (l.set m r)) none))::(id2,none)::s.heap):=by refine k7.trans (au _) (k7.mx id2) (k7.Nc (o:=.rw t (.mk l) ln) ?_ ⟨rfl,rfl,by simp[Sl.l]⟩);rw[eG,if_neg hne];exact ho
 refine tV.EN [id,id2] hr eY rfl rfl (au _) (au _) hids rfl (fun p hp=>?_) (fun i hi=>?_) (fun i hi o ho'=>?_) CJ trivial (fun i _ h=>?_)
 .rcases hu p hp with e|e<;>simp[e]
 .simp only[aP,gf,or_false,not_or]at hi;simp only[ff];rw[eG,if_neg (fun e=>hi.1 e.symm),eG,if_neg (fun e=>hi.2 e.symm)]
 .simp only[ff]at ho';by_cases hi1:id=i
  .subst hi1;rw[eG,if_pos rfl]at ho';obtain rfl:=aa ho';obtain⟨a,⟨d1,d2,_⟩,_⟩:=hr.ob _ _ ho;exact⟨a,⟨d1,d2,fun l' e=>by cases e;rw[hb,E_ hlnm]⟩,trivial⟩
  .rw [eG,if_neg hi1]at ho';simp only[aP,gf,or_false]at hi;rcases hi with rfl|rfl
   .exact absurd rfl hi1
   .rw [eG,if_pos rfl]at ho';cases ho'
 .simp only[ff];rw[eG,if_neg (fun e=>by subst e;rw[ho]at h;cases h),eG,if_neg (fun e=>by subst e;rw[ho2]at h;cases h)];exact h
theorem tV.nx{s s':S2}{x:TV}{u:fL}{aD l:List Nat}{m q:Nat}{v:V}(d:tV s s' h1 x u aD m v l)(hq:q<=s'.next):tV s s' h1 x u aD q v l:=⟨d.val,d.Vc,d.hr,d.eY,d.dT,d.gh,hq,d.le,d.aD,d.nb,d.wo⟩
theorem CO{id m q:Nat}{t:Ty}{p:pV}{w:V}{ya yw:TV}(hr:HR s.next h1 s.heap)(ha1:gy s.heap (.ep id m t p) ya)(ha2:ft s.next s.heap (.ep id m t p))(hx:gy s.heap w yw)(hk:ft s.next s.heap w)(ha:iD s.heap w=true)
  (hz:(bif(x5 w==q)then E3 id m t p w s (fun s l=>k (.tp .ni) s l)else none)=some z):zH h1 (.store q) [ya,yw] s k z:=by
 obtain⟨h2,hz2⟩:=aO hz;simp only[beq_iff_eq]at h2;clear hz;unfold E3 at hz2;split at hz2
 .rename_i u v ln ho;split at hz2
  .rename_i id2;split at hz2
   .rename_i u2 r ver ho2;split at hz2
    .rename_i r' hr';obtain⟨h3,hz3⟩:=aO hz2;simp only[ai,decide_eq_true_eq,Bool.not_eq_true',beq_eq_false_iff_ne]at h3;obtain⟨⟨rfl,hne⟩,hln⟩:=h3;obtain⟨e,e2⟩:=du hr';cases e;obtain rfl:r'=r:=e2;have hlen:=ha2.2.2.2 _ _ _ ho;obtain⟨_,⟨d1,d2,d3⟩,_⟩:=hr.ob id _ ho;obtain⟨_,⟨_,_,c3⟩,_⟩:=hr.ob id2 _ ho2;cases v with
     |nil=>simp[Sl.l]at hlen
     |mk l=>
      have d3:=d3 l rfl;have h2':q=1:=h2.symm;subst h2';rw[sv ha1,su hx (mS (.inl ho2)),Hf];have hl2:m<(fT u l ln).length:=by rw[Fa];exact hlen
      cases r' with
      |nil=>
       refine⟨_,_,_,hz3,fun cl=>⟨.iS [],[(id,some (.nst (bE u) ((fT u l ln).set m .nil)))],[id],s.next,?_,?_⟩⟩
       .simp only[aB,aW,cQ,mn,mU,cellsOf,d3];rw[if_pos (show([_]:List C).length=1 from rfl)];rw[if_pos ⟨trivial,trivial,hl2⟩];simp only[rF]
       .exact yr hr ho ho2 hne hln (fun p hp=>by simp at hp;simp[hp]) (by rw[bo,eP,if_pos rfl];rfl) (fun i hi=>by simp at hi;simp[hi])
      |mk rr=>
       have c3:=c3 rr rfl;refine⟨_,_,_,hz3,fun cl=>⟨.iS [],[(id,some (.nst (bE u) ((fT u l ln).set m (.bv (rr.map (aT u)))))),(id2,none)],[id,id2],s.next,?_,?_⟩⟩
       .simp only[aB,aW,cQ,mn,mU,cellsOf,d3];rw[if_pos (show([_]:List C).length=1 from rfl)];rw[if_pos ⟨trivial,trivial,hl2⟩];simp only[rF,c3];rw[if_pos ⟨trivial,by simp,hne⟩]
       .exact yr hr ho ho2 hne hln (fun p hp=>by simp at hp;rcases hp with rfl|rfl<;>simp) (by rw[aU,eP,if_pos rfl];rfl) (fun i hi=>hi)
    .simp at hz2
   .simp at hz2
  .simp at hz2
 .rename_i u l ver ho;split at hz2
  .rename_i w' a hw;obtain⟨h3,hz3⟩:=aO hz2;simp only[decide_eq_true_eq]at h3;subst h3;clear hz2;split at hz3
   .rename_i b2 hb;split at hz3
    .rename_i y hy;split at hz3
     .rename_i c hc;split at hz3
      .rename_i y2 hy2;split at hz3
       .rename_i s1 hs1;obtain⟨h4,hz4⟩:=aO hz3;obtain⟨cw,e1,e2⟩:=qA (oS (L0 hw) hx);obtain⟨ds,aD,f1,f2,f3,f4,f5⟩:=vx hr w w' a cw hw e1 hk ha;have e3:=pA (jI w' false b2 y _ hy f2);have hlen:=ha2.2.2.1 u l ver (.inl ho)
        have hnm:∀(ds:List D)(cs:List C)(aD:List Nat),gp h1 cs=some (ds,aD)->ds.length=cs.length:=by
         intro ds cs;induction cs generalizing ds with
         |nil=>intro aD h;obtain⟨rfl,_⟩:[]=ds/\[]=aD:=by simpa[gp]using h
               rfl
         |cons c cs ih=>
          intro aD h;simp only[gp]at h;split at h
          .rename_i p1 p2 p3 p4 hp hq;obtain⟨rfl,rfl⟩:=ad (aa h);simp[ih _ _ hq]
          .simp at h
        have l1:cw.length=x5 w:=iB e1;have l2:ds.length=bE b2:=by rw[e3,bJ]
        have l3:=hnm _ _ _ f1;have l4:=wg p u b2 hb ha2.2.1;cases l with
        |nil=>simp[Sl.l]at hlen
        |mk l=>
         obtain⟨_,⟨d1,d2,d3⟩,_⟩:=hr.ob id _ ho;have d3:=d3 l rfl;have q5:=vX (h:=s.heap) p (.x u (gt l m)) u (.x b2 y) c ((aT u (gt l m)).map .d) ((aT b2 y).map .d) b2 (by simp[eF]) ⟨d1,rfl⟩ ha2.2.1 hc hb ⟨QT p u b2 d1 hb,rfl⟩ (by simp[bJ]);have q6:=pJ hy2 q5;rw[<-ut]at q6;have q7:=pA q6;obtain⟨fu,g1,g2,g3,g4,g5,g6,g7,g8,g9⟩:=Hz (s0:=s) rfl hr a s1 aD aD hs1 f3 f4;have hid:id∉a:=by simpa using h4
         have hid2:aD.contains id=false:=by cases hq:aD.contains id with|false=>rfl|true=>exact absurd ((f3 id (by simpa using hq)).1) hid
         rw[sv ha1];refine⟨_,_,_,hz4,fun cl=>⟨.iS [],(id,some (.aM (bE u) ((l.set m y2).map (aT u))))::fu,id::aD,s.next,?_,?_⟩⟩
         .simp only[aB,aW];exact NB d3 hlen e2 (l1.trans h2) f1 g1 hid2 (by rw[bJ];omega) (by rw[e3];exact q7)
         .have ho1:fO s1.heap id=some (.ar u (.mk l) ver):=by rw[g9 id hid];exact ho
          rw[<-g6]at g2
          have:=rM (v:=.tp .ni) (x:=.iS []) (aD:=id::aD) (l:=id::a) (u:=[(id,some (.aM (bE u) ((l.set m y2).map (aT u))))]) g2 ho1 (w':=.mk (l.set m y2)) rfl (by simp[Sl.l]) (fun p hp=>by simp at hp;simp[hp]) (fun l' e=>by cases e;rw[bo,eP,if_pos rfl]) (fun _=>CJ) (fun _ _=>trivial) (fun i hi=>by
           rcases aP.1 hi with rfl|hi
           .exact cq ..
           .exact aA _ (f3 i hi).1)
          rw[g6]at this;exact tV.seq g3 g4 g5 g6 g7 g8 g9 (L2 rfl hs1) this
       .simp at hz3
      .simp at hz3
     .simp at hz3
    .simp at hz3
   .simp at hz3
  .simp at hz2
 .simp at hz2
end
section
variable{h:H2}{n:Nat}{h1:bH}{β:Type}{s:S2}{k:V->S2->List Nat->Option β}{z:β}
theorem up:∀{cs:List C}{ds:List D}{aD:List Nat},gp h1 cs=some (ds,aD)->ds.length=cs.length:=by
 intro cs;induction cs with
 |nil=>intro ds aD h;obtain⟨rfl,_⟩:[]=ds/\[]=aD:=by simpa[gp]using h
       rfl
 |cons c cs ih=>
  intro ds aD h;simp only[gp]at h;split at h
  .rename_i p1 p2 p3 p4 hp hq;obtain⟨rfl,rfl⟩:=ad (aa h);simp[ih hq]
  .simp at h
theorem PF{t:Ty}(hd:kY t=true)(m:Nat):(az m (si t)).flatMap (aT t)=cF ((az m (ny t)).flatten):=by induction m with|zero=>rfl|succ m ih=>simp only[iC,bi,eh,ih,qY t hd,cF,gP]
theorem B0(l:List Value):fB l=(cF l).map .d:=by simp[fB,cF]
theorem J3{t:Ty}(hd:kY t=true)(m:Nat):((az m (ny t)).flatten).length=m*bE t:=by have:=congrArg mL (PF hd m);rw[gT (bJ t),List.length_replicate,cF,aN]at this;exact this.symm
theorem Eo{α:Type}{f:α->List D}{q:Nat}(hf:∀a,(f a).length=q):∀(l:List α),mz q l.length (l.flatMap f)=l.map f:=by intro l;induction l with|nil=>rfl|cons a l ih=>simp only[da,mz,bi,aB];rw[List.take_left' (hf a),List.drop_left' (hf a),ih]
theorem Fp{t:Ty}{len:Nat}(hr:HR n h1 h)(hd:kY t=true):∀(is:List Nat)(vs:List V)(m:Nat)(l:List (El t))(a:List Nat)(EL:List C)(xs:List TV),ym h t len m is vs=some (l,a)->m<=len->EL.length=m*bE t->
  mN h vs xs->(∀w∈vs,ft n h w)->(∀w∈vs,iD h w=true)->
  ∃cs aD,m_ (EL++fB ((az (len-m) (ny t)).flatten)) ((is.map fun i=>(i*bE t,bE t)).zip xs)=some (EL++cs)/\gp h1 cs=some (l.flatMap (aT t),aD)/\(∀i∈aD,i∈a/\¬wh h i)/\(∀i∈a,i∈aD\/wh h i)/\l.length=len-m:=by
 intro is;induction is with
 |nil=>intro vs m l a EL xs hf hm hpre hx hk ha;cases vs with|cons v vs=>simp[ym]at hf|nil=>simp only[ym,bm,Prod.mk.injEq]at hf;obtain⟨rfl,rfl⟩:=hf;obtain rfl:=lU hx;refine⟨_,[],rfl,?_,fun i hi=>by simp at hi,fun i hi=>by simp at hi,by simp⟩;rw[B0,PF hd];exact J7 _
 |cons i is ih=>
  intro vs m l a EL xs hf hm hpre hx hk ha;cases vs with
  |nil=>simp[ym]at hf
  |cons v vs=>
   simp only[ym]at hf;split at hf
   .rename_i w a1 hw;split at hf
    .rename_i y hy;obtain⟨hc,hf⟩:=aO hf;simp only[ai,Nat.ble_eq,Nat.blt_eq]at hc;obtain⟨hmi,hil⟩:=hc;split at hf
     .rename_i l1 b hl1;obtain⟨rfl,rfl⟩:=ad (aa hf);obtain⟨x,ys,rfl,hx1,hx2⟩:=gU hx;obtain⟨cw,e1,e2⟩:=qA (oS (L0 hw) hx1);obtain⟨ds,aD,f1,f2,f3,f4,_⟩:=vx hr v w a1 cw hw e1 (hk _ (by simp)) (ha _ (by simp));have e3:=pA (jI w false t y _ hy f2);subst e3;have l1':cw.length=bE t:=by rw[<-up f1,bJ]
      have lz:(fB ((az (i-m) (ny t)).flatten)).length=(i-m)*bE t:=by simp only[fB,aN];exact J3 hd _
      have lz1:(fB (ny t)).length=bE t:=by rw[B0,<-qY t hd,aN,bJ]
      have hpl:(EL++fB ((az (i-m) (ny t)).flatten)).length=i*bE t:=by rw[av,hpre,lz,<-bP,Nat.add_sub_cancel' hmi]
      obtain⟨cs,jds,g1,g2,g3,g4,g5⟩:=ih vs (i+1) l1 b (EL++fB ((az (i-m) (ny t)).flatten)++cw) ys hl1 hil (by rw[av,hpl,l1',bP,Nat.one_mul]) hx2 (fun w hw=>hk w (by simp[hw])) (fun w hw=>ha w (by simp[hw]));have hsplit:az (len-m) (ny t)=az (i-m) (ny t)++(ny t::az (len-(i+1)) (ny t)):=by rw[<-iC,List.replicate_append_replicate];congr 1;omega
      have hcells:EL++fB ((az (len-m) (ny t)).flatten)=(EL++fB ((az (i-m) (ny t)).flatten))++(fB (ny t)++fB ((az (len-(i+1)) (ny t)).flatten)):=by rw[hsplit,List.flatten_append,eh,sN,sN,aL]
      refine⟨fB ((az (i-m) (ny t)).flatten)++(cw++cs),aD++jds,?_,?_,fun j hj=>?_,fun j hj=>?_,by simp[g5];omega⟩
      .simp only[aB,List.zip_cons_cons,m_,e2];rw[if_pos ⟨l1',by rw[hcells,av,hpl,av,lz1];omega⟩,hcells];have:aV ((EL++fB ((az (i-m) (ny t)).flatten))++(fB (ny t)++fB ((az (len-(i+1)) (ny t)).flatten))) (i*bE t) cw=(EL++fB ((az (i-m) (ny t)).flatten)++cw)++fB ((az (len-(i+1)) (ny t)).flatten):=by have:=tn (a:=EL++fB ((az (i-m) (ny t)).flatten)) (b:=fB (ny t)++fB ((az (len-(i+1)) (ny t)).flatten)) (p:=cw) (off:=0);rw[hpl]at this;refine Eq.trans this ?_;rw[tj (by omega),mF (by omega)];simp only[aL]
       rw[this,g1];simp only[aL]
      .rw [List.flatMap_append,bi,PF hd];have hz:gp h1 (fB ((az (i-m) (ny t)).flatten))=some (cF ((az (i-m) (ny t)).flatten),[]):=by rw[B0];exact J7 _
       exact(zO hz (zO f1 g2):gp h1 _=some (_,[]++(aD++jds)))
      .rcases ap.1 hj with hj|hj
       .exact ⟨aF _ (f3 j hj).1,(f3 j hj).2⟩
       .exact ⟨aH _ (g3 j hj).1,(g3 j hj).2⟩
      .rcases ap.1 hj with hj|hj
       .exact (f4 j hj).imp (aF _) id
       .exact (g4 j hj).imp (aH _) id
     .simp at hf
    .simp at hf
   .simp at hf
theorem Es{t:Ty}{len sz:Nat}{zl:List Value}{pl:List Nat}{vs:List V}{xs:List TV}
  (hz:Q5 t sz len zl pl vs s k=some z)
  (hr:HR s.next h1 s.heap) (hx:mN s.heap vs xs) (hk:∀w∈vs,ft s.next s.heap w) (ha:∀w∈vs,iD s.heap w=true):zH h1 (.buildSlice sz len zl pl) xs s k z:=by
 unfold Q5 at hz;obtain⟨h2,hz2⟩:=aO hz;simp only[ai,beq_iff_eq]at h2;obtain⟨⟨rfl,h3⟩,h4⟩:=h2;have h3:=qZ h3;subst h3;obtain⟨hd,hs0⟩:=qd h4;clear hz;split at hz2
 .rename_i l a hl;split at hz2
  .rename_i s1 hs1;obtain⟨cs,aD,g1,g2,g3,g4,g5⟩:=Fp hr hd pl vs 0 l a [] xs hl (Nat.zero_le _) (by simp) hx hk ha;obtain⟨fu,f1,f2,f3,f4,f5,f6,f7,f8,f9⟩:=Hz (s0:=s) rfl hr a s1 aD aD hs1 g3 g4;refine⟨_,_,_,hz2,fun cl=>⟨.c (.fq (bE t) s.next 0 len),(s.next,some (.aM (bE t) (l.map (aT t))))::fu,aD,s.next+1,?_,?_⟩⟩
   .have hc:mz (bE t) len (l.flatMap (aT t))=l.map (aT t):=by have:=Eo (bJ t) l;rwa[show l.length=len by simpa using g5]at this
    simp only[cQ,nm];have g1:m_ (fB ((az len (ny t)).flatten)) ((pl.map fun i=>(i*bE t,bE t)).zip xs)=some cs:=by simpa using g1
    rw[g1];simp only[g2,f1,hc]
   .have hr1:HR s1.next (fu++h1) s1.heap:=by rw[f6];exact f2
    have hd1:tV s1 (kc s1 (.ar t (.mk l) 0)) (fu++h1) (.c (.fq (bE t) s.next 0 len)) [(s1.next,some (.aM (bE t) (l.map (aT t))))] aD (s.next+1) (.so s1.next) a:=by refine tV.new hr1 (.inl rfl) (fun _=>⟨hd,hs0,fun l' e=>by cases e;rfl⟩) trivial ?_ (aZ _) (fun i hi=>(g3 i hi).1) (by rw[f6];exact au _);have:=wi (h:=s1.heap) (t:=t) (s:=.mk l) (v:=0) (nx:=s1.next);rw[f6]at this|-;simpa[mU,show l.length=len by simpa using g5]using this
    rw[f6]at hd1;exact tV.seq f3 f4 f5 f6 f7 f8 f9 (L2 rfl hs1) hd1
  .simp at hz2
 .simp at hz2
theorem Gj{ka va:Bool}{ks:List Kd}{zl:List Value}{id:Nat}{kv:V}{ya yk:TV}(hr:HR s.next h1 s.heap)(ha1:gy s.heap (.om id) ya)(hx:gy s.heap kv yk)
  (hz:(match fO s.heap id with
  |some (.mp kt vt m)=>(match tQ kt kv with
   |some q=>bif(nv kt==ka)&&(nv vt==va)&&decide (DW kt=some ks)&&tW (ny vt) zl&&kY vt&&(va||bE vt==1)then
     k (.tp (.co (.x vt (l5 m (si vt) q).2.1) (.co (.x (.i .i64) (l5 m (si vt) q).2.2) .ni))) (ff s id (some (.mp kt vt (l5 m (si vt) q).1))) [id]else none
   |none=>none)
  |_=>none)=some z):zH h1 (.mapEntry ka ks va zl) [ya,yk] s k z:=by
 split at hz
 .rename_i kt vt m ho;split at hz
  .rename_i q hq;obtain⟨hc,hz2⟩:=aO hz;simp only[ai,beq_iff_eq,decide_eq_true_eq]at hc;obtain⟨⟨⟨⟨⟨c1,c2⟩,c3⟩,c4⟩,c5⟩,c6⟩:=hc;rw[ET ha1];obtain⟨_,_,k3,_⟩:=xI kt ks c3;have hzz:cF zl=aT vt (si vt):=by rw[qY vt c5,qZ c4]
   have hv:∀y,pm va (aT vt y)=some (Rt vt y):=fun y=>GU y c2 c6;have hkt:=DT hx hq c3 c1;have e3:=(hr.ob id _ ho).2.1.2.2;rw[<-c2]at c6;have e4:aC h1 id=EM ka va (vL kt) (aT vt) m:=by rw[<-c1,<-c2];exact e3
   have hos:vK (.mp kt vt m) (.mp kt vt (l5 m (si vt) q).1):=trivial;refine .Nc hr ho hos hz2 (fun cl=>Sr (z:=si vt) e4 hkt k3 hzz hv) ⟨c5,⟨ks,c3⟩,by rw[c1,c2];rfl⟩ trivial ?_ ⟨trivial,trivial,trivial⟩ fun i hi=>hi;exact⟨_,rfl,_,_,rfl,J_ c5 c6,_,_,rfl,dV rfl ⟨rfl,rfl⟩,rfl⟩
  .simp at hz
 .simp at hz
theorem Ms:∀(l:List D),zo (l.map .d)=some l:=by intro l;induction l with|nil=>rfl|cons d l ih=>simp[zo,ih]
theorem D6{va:Bool}{m0 id:Nat}{kd:IntKind}{st:Int}{w:V}{ya yw:TV}(hr:HR s.next h1 s.heap)(ha1:gy s.heap (.om id) ya)(hx:gy s.heap w yw)
  (hz:(match fO s.heap id with
  |some (.mp kt vt m)=>(match tQ vt w with
   |some y=>bif(nv vt==va)&&(bE vt==m0)&&kY vt then(vg m st y).bind fun m=>k (.tp .ni) (ff s id (some (.mp kt vt m))) [id]else none
   |none=>none)
  |_=>none)=some z):zH h1 (.entryStore va m0) [ya,tI kd st,yw] s k z:=by
 split at hz
 .rename_i kt vt m ho;split at hz
  .rename_i y hy;obtain⟨hc,hz2⟩:=aO hz;simp only[ai,beq_iff_eq]at hc;obtain⟨⟨rfl,rfl⟩,c3⟩:=hc;obtain⟨m',hm,hz3⟩:=rK hz2;rw[ET ha1];obtain⟨_,hks,e3⟩:=(hr.ob id _ ho).2.1;obtain⟨g1,g2⟩:=vz hx hy;have hos:vK (.mp kt vt m) (.mp kt vt m'):=trivial;have hcs:(cellsOf yw).bind zo=some (aT vt y)/\xJ yw=nv vt:=by cases hag:nv vt with|true=>rw[g1 hag];exact⟨by simp[cellsOf,Ms],rfl⟩|false=>obtain⟨d,e,rfl⟩:=g2 hag;exact⟨by simp[cellsOf,zo,e],rfl⟩
   refine .Nc hr ho hos hz3 (fun cl=>Sq (va:=nv vt) (ek:=vL kt) (ka:=nv kt) hm e3 hcs.1 (bJ vt y) hcs.2) ⟨c3,hks,rfl⟩ trivial CJ trivial fun i hi=>hi
  .simp at hz
 .simp at hz
end
section
variable{h:H2}{n:Nat}{h1:bH}{β:Type}{s:S2}{k:V->S2->List Nat->Option β}{z:β}
theorem wt:∀{r:List V}{l:List Int}{xs:List TV},jH r=some l->mN h r xs->∃ks:List IntKind,ks.length=l.length/\xs=(ks.zip l).map fun p=>tI p.1 p.2:=by
 intro r;induction r with
 |nil=>
  intro l xs hl hx;obtain rfl:[]=l:=by simpa[jH]using hl
  exact⟨[],rfl,lU hx⟩
 |cons v r ih=>
  intro l xs hl hx;cases v with
  |x t v=>
   cases t with
   |i q=>
    simp only[jH]at hl;split at hl
    .rename_i l' hl';obtain rfl:=aa hl;obtain⟨x,ys,rfl,h1,h2⟩:=gU hx;obtain⟨ks,h3,rfl⟩:=ih hl' h2;exact⟨q::ks,by simp[h3],by rw[kx h1];rfl⟩
    .simp at hl
   |_=>simp[jH]at hl
  |_=>simp[jH]at hl
theorem LK{r:List V}{xs:List TV}(hl:jH r=some [])(hx:mN h r xs):xs=[]:=by obtain⟨ks,h1,rfl⟩:=wt hl hx;cases ks<;>simp_all
theorem B3{r:List V}{a:Int}{xs:List TV}(hl:jH r=some [a])(hx:mN h r xs):∃q,xs=[tI q a]:=by obtain⟨ks,h1,rfl⟩:=wt hl hx;cases ks with|nil=>simp at h1|cons q ks=>exact⟨q,by cases ks<;>simp_all⟩
theorem LJ{r:List V}{a b:Int}{xs:List TV}(hl:jH r=some [a,b])(hx:mN h r xs):∃q q',xs=[tI q a,tI q' b]:=by
 obtain⟨ks,h1,rfl⟩:=wt hl hx;cases ks with
 |nil=>simp at h1
 |cons q ks=>cases ks with|nil=>simp at h1|cons q' ks=>exact⟨q,q',by cases ks<;>simp_all⟩
theorem BF{x y:ByteArray}{lo hi:Option Int}(hs:zT x (lo.getD 0) (hi.getD x.size)=some y)(sz:Nat):fU true sz (.d (dS x)) lo hi=some (.d (dS y)):=by
 unfold zT at hs;split at hs
 .rename_i hb;obtain rfl:=aa hs;simp only[fU,if_true];rw[if_pos hb]
 .simp at hs
theorem CT{x:ByteArray}{r:List V}{lo hi:Bool}{sz:Nat}{y:TV}{ys:List TV}(hr:HR s.next h1 s.heap)(hy:gy s.heap (.x .s x) y)(hys:mN s.heap r ys)
  (hz:(match lo,hi,jH r with
  |false,false,some []=>(zT x 0 x.size).bind fun y=>k (.x .s y) s []
  |true,false,some [l]=>(zT x l x.size).bind fun y=>k (.x .s y) s []
  |false,true,some [u]=>(zT x 0 u).bind fun y=>k (.x .s y) s []
  |true,true,some [l,u]=>(zT x l u).bind fun y=>k (.x .s y) s []
  |_,_,_=>none)=some z):zH h1 (.slice true sz lo hi) (y::ys) s k z:=by
 rw[wU hy];split at hz
 .rename_i hi;obtain rfl:=LK hi hys;obtain⟨w,hw,hz2⟩:=rK hz;exact .pure hr hz2 (fun _=>by simp only[aB,aW,cQ];rw[BF (lo:=none) (hi:=none) hw]) (Rs w) trivial
 .rename_i l hi;obtain⟨q,rfl⟩:=B3 hi hys;obtain⟨w,hw,hz2⟩:=rK hz;exact .pure hr hz2 (fun _=>by simp only[aB,aW,cQ,cE];rw[BF (lo:=some l) (hi:=none) hw]) (Rs w) trivial
 .rename_i l hi;obtain⟨q,rfl⟩:=B3 hi hys;obtain⟨w,hw,hz2⟩:=rK hz;exact .pure hr hz2 (fun _=>by simp only[aB,aW,cQ,cE];rw[BF (lo:=none) (hi:=some l) hw]) (Rs w) trivial
 .rename_i l u hi;obtain⟨q,q',rfl⟩:=LJ hi hys;obtain⟨w,hw,hz2⟩:=rK hz;exact .pure hr hz2 (fun _=>by simp only[aB,aW,cQ,cE];rw[BF (lo:=some l) (hi:=some u) hw]) (Rs w) trivial
 .simp at hz
theorem CU{x:V}{r:List V}{lo hi:Bool}{sz:Nat}{y:TV}{ys:List TV}(hr:HR s.next h1 s.heap)(hy:gy s.heap x y)(hk:ft s.next s.heap x)(ha:iD s.heap x=true)(hys:mN s.heap r ys)
  (hz:(match lo,hi,jH r,FV s.heap x with
  |false,false,some [],some n=>t6 sz s.heap x 0 n fun v=>k v s []
  |true,false,some [l],some n=>t6 sz s.heap x l n fun v=>k v s []
  |false,true,some [u],some _=>t6 sz s.heap x 0 u fun v=>k v s []
  |true,true,some [l,u],some _=>t6 sz s.heap x l u fun v=>k v s []
  |_,_,_,_=>none)=some z):zH h1 (.slice false sz lo hi) (y::ys) s k z:=by
 split at hz
 .rename_i m hi hm;obtain rfl:=LK hi hys;obtain⟨v,c,c',rfl,h3,h4,h5,h6⟩:=Ce (lo:=none) (hi:=none) hr hy hk ha hm hz;exact .pure hr h3 (fun _=>by simp only[aB,aW,cQ];rw[h4]) h5 h6
 .rename_i l m hi hm;obtain⟨q,rfl⟩:=B3 hi hys;obtain⟨v,c,c',rfl,h3,h4,h5,h6⟩:=Ce (lo:=some l) (hi:=none) hr hy hk ha hm hz;exact .pure hr h3 (fun _=>by simp only[aB,aW,cQ,cE];rw[h4]) h5 h6
 .rename_i u m hi hm;obtain⟨q,rfl⟩:=B3 hi hys;obtain⟨v,c,c',rfl,h3,h4,h5,h6⟩:=Ce (lo:=none) (hi:=some u) hr hy hk ha hm hz;exact .pure hr h3 (fun _=>by simp only[aB,aW,cQ,cE];rw[h4]) h5 h6
 .rename_i l u m hi hm;obtain⟨q,q',rfl⟩:=LJ hi hys;obtain⟨v,c,c',rfl,h3,h4,h5,h6⟩:=Ce (lo:=some l) (hi:=some u) hr hy hk ha hm hz;exact .pure hr h3 (fun _=>by simp only[aB,aW,cQ,cE];rw[h4]) h5 h6
 .simp at hz
theorem NF{t:Ty}{l:List (Sl (El t))}{m:Nat}(hm:m<l.length):(l.map (pp t))[m]?=some (pp t (gt l m)):=by rw[List.getElem?_map,aw hm];simp[gt,List.getD,aw hm]
theorem Ks{α:Type}{l:List α}{m:Nat}{x:α}(h:l[m]?=some x):l.set m x=l:=by obtain⟨hm,rfl⟩:=List.getElem?_eq_some_iff.1 h;exact List.set_getElem_self hm
theorem FT{id m:Nat}{u:Ty}{y:TV}(hr:HR s.next h1 s.heap)(hx:gy s.heap (.ep id m u []) y)(hk:ft s.next s.heap (.ep id m u []))
  (hz:(match fO s.heap id with
  |some (.rw t v none)=>bif decide (u=.sl t)then k (.so s.next) (kc (ff s id (some (.rw t v (some (m,s.next))))) (.ar t (gt v.l m) 0)) [id]else none
  |_=>none)=some z):zH h1 .ua [y] s k z:=by
 split at hz
 .rename_i t v ho;obtain⟨h2,hz2⟩:=aO hz;simp only[decide_eq_true_eq]at h2;subst h2;rw[sv hx,Hf];have hlen:=hk.2.2.2 _ _ _ ho;obtain⟨hid,⟨d1,d2,d3⟩,_⟩:=hr.ob id _ ho;cases v with
  |nil=>simp[Sl.l]at hlen
  |mk l=>
   have d3:=d3 l rfl;have hlen:m<l.length:=hlen;have eY:k7 s.next s.heap ((s.next,some (.ar t (gt l m) 0))::(id,some (.rw t (.mk l) (some (m,s.next))))::s.heap):=k7.trans (au _) (k7.Nc (o':=.rw t (.mk l) (some (m,s.next))) ho ⟨rfl,rfl,rfl⟩) (k7.new _)
   have key:∀{x:TV}{u:fL},gy ((s.next,some (.ar t (gt l m) 0))::(id,some (.rw t (.mk l) (some (m,s.next))))::s.heap) (.so s.next) x->(∀p∈u,p.1=s.next\/p.1=id)->
     aC (u++h1) id=some (.nst (bE t) (fT t l (some (m,s.next))))->(∀rr,gt l m=.mk rr->aC (u++h1) s.next=some (.aM (bE t) (rr.map (aT t))))->∀{q:Nat},q<=s.next+1->
     tV s (kc (ff s id (some (.rw t (.mk l) (some (m,s.next))))) (.ar t (gt l m) 0)) h1 x u [id] q (.so s.next) [id]:=by
    intro x u hx2 hu hb hb2 q hq;refine tV.EN [s.next,id] hr eY rfl rfl hq (bO _) (fun i hi=>hi) rfl (fun p hp=>?_) (fun i hi=>?_) (fun i hi o ho'=>?_) hx2 (aZ _) (fun i hi h=>?_)
    .rcases hu p hp with e|e<;>simp[e]
    .simp only[aP,gf,or_false,not_or]at hi;simp only[kc,ff];rw[eG,if_neg (fun e=>hi.1 e.symm),eG,if_neg (fun e=>hi.2 e.symm)]
    .simp only[kc,ff]at ho'|-;by_cases hi1:s.next=i
     .subst hi1;rw[eG,if_pos rfl]at ho';obtain rfl:=aa ho';exact⟨aZ _,⟨d1,d2,fun rr e=>hb2 rr e⟩,trivial⟩
     .rw [eG,if_neg hi1]at ho';simp only[aP,gf,or_false]at hi;rcases hi with rfl|rfl
      .exact absurd rfl hi1
      .rw [eG,if_pos rfl]at ho';obtain rfl:=aa ho';refine⟨by omega,⟨d1,d2,fun l' e=>by cases e;exact hb⟩,hlen,aZ _,fun u' r' v' hf=>?_⟩;simp only[tO]at hf;rcases hf with hf|hf<;>cases hf;exact⟨rfl,rfl⟩
    .simp only[kc,ff];rw[eG,if_neg (by omega),eG,if_neg (fun e=>by subst e;rw[ho]at h;cases h)];exact h
   have hs:=NF (t:=t) hlen;refine⟨_,_,_,hz2,fun cl=>?_⟩;cases hg:gt l m with
   |nil=>
    refine⟨_,[],[id],s.next,?_,key (x:=.c (.d (.lit (.slice none 0 0)))) ?_ (fun p hp=>by simp at hp) ?_ (fun rr e=>by rw[hg]at e;cases e) (bO _)⟩
    .simp only[aB,aW,cQ,ie,d3];rw[hg]at hs;simp only[lG,d3,fT,hs,pp];rfl
    .rw [hg];exact wi
    .rw [bk,d3];simp only[fT,hg,IE];rw[Ks (by rw[hs,hg];rfl)]
   |mk rr=>
    refine⟨_,[(s.next,some (.aM (bE t) (rr.map (aT t)))),(id,some (.nst (bE t) ((l.map (pp t)).set m (.dY s.next (rr.map (aT t)).length))))],[id],s.next+1,?_,key (x:=.c (.fq (bE t) s.next 0 (rr.map (aT t)).length)) ?_ (fun p hp=>by simp at hp;rcases hp with rfl|rfl<;>simp) ?_ (fun r2 e=>?_) (au _)⟩
    .simp only[aB,aW,cQ,ie,d3];rw[hg]at hs;simp only[lG,d3,fT,hs,pp];rfl
    .rw [hg];exact wi
    .rw [aU,eP,if_neg (by omega),aU,eP,if_pos rfl];simp only[fT,hg,IE,aN]
    .rw [hg]at e;cases e;rw[aU,eP,if_pos rfl]
 .simp at hz
theorem Le{szi:Nat}{t:Ty}{q q':IntKind}{a b:Int}(hr:HR s.next h1 s.heap)
  (hz:(bif(bE t==szi)&&CA t then(zL (Sl.nil:Sl (El t)) a b).bind fun r=>k (.sr s.next) (kc s (.rw t (.mk r) none)) []else none)=some z):zH h1 (.AU szi) [tI q a,tI q' b] s k z:=by
 obtain⟨hq,hp2⟩:=aO hz;simp only[ai,beq_iff_eq]at hq;obtain⟨rfl,q2⟩:=hq;obtain⟨hd,hs0⟩:=qd q2;obtain⟨r,hr2,hz3⟩:=rK hp2;unfold zL at hr2;split at hr2
 .rename_i hb;obtain rfl:=aa hr2;refine .new (aD:=[]) hr hz3 (b:=some (.nst (bE t) (az a.toNat .nil))) (x:=.c (.fq 1 s.next 0 a.toNat)) (fun _=>?_) ⟨hd,hs0,fun l' e=>by cases e;simp[fT,pp]⟩ trivial ?_ (aZ _) fun i hi=>by simp at hi
  .simp only[aB,aW,cQ,cE];rw[if_pos (by simpa[DN]using hb)]
  .refine ct (dV rfl ⟨_,rfl,fun c' hc'=>?_,?_⟩)
   .rw [tO]at hc';obtain rfl:=aa hc';simp[mU]
   .have:=BJ (sz:=1) (id:=s.next) (e:=aT (.sl t)) (s:=.mk (az a.toNat (Sl.nil:Sl (El t))));simpa[mU]using this
 .simp at hr2
theorem FB{o:OP}{vs:List V}{xs:List TV}(hp:part o vs s k=some z)(hr:HR s.next h1 s.heap)(hx:mN s.heap vs xs)(hk:∀w∈vs,ft s.next s.heap w)(ha:∀w∈vs,iD s.heap w=true):zH h1 o.o.k xs s k z:=by
 obtain⟨⟨d,kk,args,g⟩,t,fi⟩:=o;simp only;unfold part at hp;simp only at hp;split at hp
 .--quo
  obtain⟨x,y,rfl,h2,h3⟩:=ji hx;rw[kx h2,kx h3];obtain⟨hq,hp2⟩:=aO hp;simp only[decide_eq_true_eq]at hq;subst hq;obtain⟨r,hr2,hz⟩:=rK hp2;exact .pure hr hz (fun _=>QJ hr2) (xi _ _) trivial
 .obtain ⟨x,y,rfl,h2,h3⟩:=ji hx;rw[kx h2,kx h3];obtain⟨hq,hp2⟩:=aO hp;simp only[decide_eq_true_eq]at hq;subst hq;obtain⟨r,hr2,hz⟩:=rK hp2;exact .pure hr hz (fun _=>QI hr2) (xi _ _) trivial
 .obtain ⟨x,y,rfl,h2,h3⟩:=ji hx;rw[kx h2,kx h3];obtain⟨r,hr2,hz⟩:=rK hp;exact .pure hr hz (fun _=>QH hr2) (xi _ _) trivial
 .obtain ⟨x,y,rfl,h2,h3⟩:=ji hx;rw[kx h2,kx h3];obtain⟨r,hr2,hz⟩:=rK hp;exact .pure hr hz (fun _=>QG hr2) (xi _ _) trivial
 .obtain ⟨x,y,rfl,h2,h3⟩:=ji hx;rw[wU h2,wU h3];obtain⟨r,hr2,hz⟩:=rK hp;exact .pure hr hz (fun _=>QK hr2) (Rs _) trivial
 .--alloc
  rename_i zl;obtain rfl:=lU hx;obtain⟨hq,hp2⟩:=aO hp;simp only[ai]at hq;obtain⟨q1,q2⟩:=hq;have q1:=qZ q1;subst q1;refine .new (aD:=[]) hr hp2 (x:=.c (.op s.next 0)) (fun _=>rfl) ⟨_,rfl,?_,q2⟩ ?_ (ct (dV rfl (by cases t<;>rfl))) ⟨aZ _,by cases t<;>trivial⟩ fun i hi=>by simp at hi
  .exact ((xP (h:=(s.next,some (.bx t (O8 t)))::s.heap) (n:=s.next+1) t).1 q2).1
  .exact ((xP (h:=(s.next,some (.bx t (O8 t)))::s.heap) (n:=s.next+1) t).1 q2).2
 .--box
  obtain⟨x,rfl,h2⟩:=iR hx;split at hp
  .rename_i w hw;obtain⟨cw,e1,e2⟩:=qA (oS (FM hw) h2);obtain⟨q1,q2,q3,_⟩:=yE hw e1 (hk _ (by simp));refine .new (aD:=[]) hr hp (x:=.c (.op s.next 0)) (fun _=>by simp only[aB,aW,cQ,e2]) ⟨_,rfl,lH (k7.new _) q3 q1,q2⟩ (gS (bO _) (k7.new _) q3) (ct (dV rfl (by cases t<;>rfl))) ⟨aZ _,by cases t<;>trivial⟩ fun i hi=>by simp at hi
  .simp at hp
 .exact Es hp hr hx hk ha
 .--store
  obtain⟨x,y,rfl,h2,h3⟩:=ji hx;exact CN hr h2 (hk _ (by simp)) h3 (hk _ (by simp)) hp
 .--ua
  obtain⟨x,rfl,h2⟩:=iR hx;exact FT hr h2 (hk _ (by simp)) hp
 .--AU
  obtain⟨x,y,rfl,h2,h3⟩:=ji hx;rw[kx h2,kx h3];split at hp
  .exact Le hr hp
  .simp at hp
 .obtain ⟨x,y,rfl,h2,h3⟩:=ji hx;exact CO hr h2 (hk _ (by simp)) h3 (hk _ (by simp)) (ha _ (by simp)) hp
 .--makeSlice
  rename_i zl _ l _ c;obtain⟨x,y,rfl,h2,h3⟩:=ji hx;rw[kx h2,kx h3];obtain⟨hq,hp2⟩:=aO hp;simp only[ai]at hq;obtain⟨q1,q2⟩:=hq;have q1:=qZ q1;subst q1;obtain⟨hd,hs0⟩:=qd q2;obtain⟨r,hr2,hz⟩:=rK hp2;have hzl:cF (ny t)=aT t (si t):=(qY t hd).symm;have hlen:(ny t).length=bE t:=by have:=congrArg mL hzl;rwa[bJ,cF,aN]at this
  refine .new hr hz (fun _=>Oy hzl hr2) ⟨hd,hs0,fun l' e=>by cases e;rw[hlen]⟩ trivial ?_ (aZ _) fun i hi=>by simp at hi
  rw[hlen];exact wi (s:=.mk r)
 .--slice of a string
  obtain⟨y,ys,rfl,h2,h3⟩:=gU hx;exact CT hr h2 h3 hp
 .obtain ⟨y,ys,rfl,h2,h3⟩:=gU hx;exact CU hr h2 (hk _ (by simp)) (ha _ (by simp)) h3 hp
 .obtain ⟨x,y,rfl,h2,h3⟩:=ji hx;rw[kx h3];exact LD hp hr h2 (hk _ (by simp)) (ha _ (by simp))
 .obtain ⟨x,y,rfl,h2,h3⟩:=ji hx;rw[kx h3];exact LC hp hr h2 (hk _ (by simp))
 .--pD
  obtain⟨x,y,rfl,h2,h3⟩:=ji hx;rw[wU h2,kx h3];obtain⟨r,hr2,hz⟩:=rK hp;exact .pure hr hz (fun _=>So hr2) (xi _ _) trivial
 .--index
  rename_i ag n0 sz0 n' u v _ i;obtain⟨x,y,rfl,h2,h3⟩:=ji hx;rw[kx h3];obtain⟨hq,hp2⟩:=aO hp;simp only[ai,beq_iff_eq]at hq;obtain⟨⟨⟨⟨rfl,rfl⟩,q3⟩,q4⟩,q5⟩:=hq;obtain⟨m,hm,hz⟩:=rK hp2;obtain⟨rfl,hm2⟩:=gB.1 hm;rw[UU h2];obtain⟨a1,a2⟩:=Ez v hm2;have hc:Gy s.heap ag (bE u) (.x u (gt v.1 m))=true:=by simp[Gy,te,x5,iD,q3,q4,q5]
  obtain⟨x,e1,e2⟩:=pB (cs:=(aT (.ar n' u) v).map .d) (off:=m*bE u) (cw:=(aT u (gt v.1 m)).map .d) hc ⟨q4,rfl⟩ (by simpa using a1) (by rw[<-gz,<-hZ,a2]);refine .pure hr hz (x:=x) (fun _=>?_) e2 trivial;simp only[aB,aW,cQ,cE];rw[if_pos ⟨by omega,by omega⟩];simp only[ei,e1]
 .--append
  obtain⟨x,y,rfl,h2,h3⟩:=ji hx;exact EB (t0:=t) hp hr h2 (hk _ (by simp)) (ha _ (by simp)) h3 (hk _ (by simp)) (ha _ (by simp))
 .obtain ⟨x,y,rfl,h2,h3⟩:=ji hx;exact Jz (t0:=t) hp hr h2 (hk _ (by simp)) (ha _ (by simp)) h3 (hk _ (by simp)) (ha _ (by simp))
 .--clear
  obtain⟨y,rfl,h2⟩:=iR hx;exact Gw hp hr h2 (hk _ (by simp)) (ha _ (by simp))
 .--makeMap
  obtain rfl:=lU hx;split at hp
  .rename_i kt vt;obtain⟨hq,hp2⟩:=aO hp;simp only[ai,beq_iff_eq]at hq;obtain⟨⟨⟨rfl,rfl⟩,q3⟩,q4⟩:=hq;obtain⟨ks,hks⟩:=Option.isSome_iff_exists.1 q4;exact .new hr hp2 (x:=.c (.om s.next)) (fun _=>rfl) ⟨q3,⟨ks,hks⟩,rfl⟩ trivial (ct (dV rfl rfl)) (aZ _) fun i hi=>by simp at hi
  .simp at hp
 .obtain ⟨x,y,rfl,h2,h3⟩:=ji hx;exact Gj hr h2 h3 hp
 .obtain ⟨x,y,w,rfl,h2,h3,h4⟩:=PS hx;rw[kx h3];exact D6 hr h2 h4 hp
 .simp at hp
end
end Go.Ev
