/- Operations that do not fail, against the abstract machine's, second part. Conditions: as stated. -/
import Derived.Test.YthcplpfiidlinaaDoorFh
import Ieee.Arith
open Bool renaming and_eq_true->ai,and_eq_true_iff->dN,eq_iff_iff->dq
open Int renaming toNat_natCast->d_
open List renaming append_assoc->aL,cons_append->aU,drop_drop->dv,flatMap_cons->bi,flatten_cons->dZ,getElem?_eq_getElem->aw,length->mG,length_append->av,length_cons->c_,length_eq_zero_iff->a_,length_map->aN,map->mb,map_append->gO,map_cons->aB,map_drop->gy,map_map->lG,map_nil->aW,map_take->g_,mem_append->ap,mem_append_left->aF,mem_append_right->aH,mem_cons->aP,mem_cons_of_mem->aA,mem_cons_self->cn,mem_singleton->aq,nil_append->bh,not_mem_nil->gf,replicate->az,replicate_succ->iA,singleton_append->bn
open List.cons renaming injEq->dH
open Nat renaming add_assoc->cO,add_mul->bO,le_of_ble_eq_true->jb,le_refl->au,le_succ->bN,lt_succ_self->aZ
open Option.some renaming inj->aa,injEq->bl
open Prod.mk renaming inj->ad
open Sigma.mk renaming inj->kj
namespace Go.Ev
section
variable{h:H2}{n:Nat}{h1:bH}
theorem PM{a b:Value}(he:SQ a b=true):a=b:=by unfold SQ at he;split at he<;>simp_all
theorem qW:∀{a b:List Value},tQ a b=true->a=b:=by
 intro a;induction a with
 |nil=>intro b he;cases b<;>first|rfl|(simp[tQ]at he)
 |cons x a ih=>intro b he;cases b with|nil=>simp[tQ]at he|cons y b=>simp only[tQ,ai]at he;rw[PM he.1,ih he.2]
theorem sH(a b:List Value):fy (a++b)=fy a++fy b:=by simp[fy]
theorem qV:∀(t:Ty),kV t=true->aT t (sd t)=cE (nu t):=by
 intro t;induction t with
 |pr a c iha ihc=>intro hd;simp only[kV,ai]at hd;simp[aT,sd,nu,cE,iha hd.1,ihc hd.2]
 |st t ih=>intro hd;exact ih hd
 |ar m t ih=>intro hd;have e:=ih hd;simp only[aT,sd,nu];clear hd ih;induction m with|zero=>rfl|succ m ihm=>simp only[iA,bi,dZ,e,cE,gO]at ihm|-;rw[ihm]
 |o k=>intro hd;simp[kV]at hd
 |mp k v=>intro hd;simp[kV]at hd
 |_=>intro _;rfl
theorem xI:∀(t:Ty),(eC (Bn t).1 false t=true->fz h (Bn t).1 (fy (nu t))/\fw n h (Bn t).1)/\(eC (Bn t).2 true t=true->fz h (Bn t).2 (fy (nu t))/\fw n h (Bn t).2):=by
 have one:∀(t:Ty)(v:V),(fz h v (fy (nu t))/\fw n h v)->(fz h (.co v .ni) (fy (nu t))/\fw n h (.co v .ni)):=fun t v hv=>⟨⟨_,[],by simp,hv.1,rfl⟩,hv.2,trivial⟩;have dt:∀(t:Ty),kV t=true->fz h (.x t (sd t)) (fy (nu t)):=fun t hd=>⟨hd,by rw[qV t hd];simp[fy,cE]⟩;intro t;induction t with
 |pr a c iha ihc=>refine⟨fun hf=>by simp[Bn,eC]at hf,fun hf=>?_⟩;simp only[Bn,eC,ai]at hf;obtain⟨q1,q3⟩:=iha.1 hf.1;obtain⟨q4,q5⟩:=ihc.2 hf.2;exact⟨⟨_,_,sH _ _,q1,q4⟩,q3,q5⟩
 |st t ih=>cases hd:kV t with|true=>have:=dt (.st t) hd;simp only[Bn,hd,cond_true];exact⟨fun _=>⟨this,trivial⟩,fun _=>one (.st t) _ ⟨this,trivial⟩⟩|false=>simp only[Bn,hd,cond_false];exact⟨fun hf=>ih.2 hf,fun hf=>one (.st t) _ (ih.2 hf)⟩
 |sl t ih=>cases hd:kV t with|true=>have:=dt (.sl t) hd;simp only[Bn,hd,cond_true];exact⟨fun _=>⟨this,trivial⟩,fun _=>one (.sl t) _ ⟨this,trivial⟩⟩|false=>simp only[Bn,hd,cond_false];exact⟨fun _=>⟨rfl,trivial⟩,fun _=>one (.sl t) _ ⟨rfl,trivial⟩⟩
 |ar m t ih=>cases hd:kV t with|true=>have:=dt (.ar m t) hd;simp only[Bn,hd,cond_true];exact⟨fun _=>⟨this,trivial⟩,fun _=>one (.ar m t) _ ⟨this,trivial⟩⟩|false=>simp only[Bn,hd,cond_false];exact⟨fun hf=>by simp[eC]at hf,fun hf=>by simp[eC]at hf⟩
 |o k=>
  have:fz h (.nl k) (fy (nu (.o k))):=by
   show fy (nu (.o k))=[Dt k]
   rcases k with _|_|_|_|k<;>rfl
  exact⟨fun _=>⟨this,trivial⟩,fun _=>one (.o k) _ ⟨this,trivial⟩⟩
 |mp k v=>exact⟨fun _=>⟨rfl,trivial⟩,fun _=>one (.mp k v) _ ⟨rfl,trivial⟩⟩
 |un=>exact⟨fun _=>⟨dt .un rfl,trivial⟩,fun _=>one .un _ ⟨dt .un rfl,trivial⟩⟩
 |i k=>exact⟨fun _=>⟨dt (.i k) rfl,trivial⟩,fun _=>one (.i k) _ ⟨dt (.i k) rfl,trivial⟩⟩
 |b=>exact⟨fun _=>⟨dt .b rfl,trivial⟩,fun _=>one .b _ ⟨dt .b rfl,trivial⟩⟩
 |s=>exact⟨fun _=>⟨dt .s rfl,trivial⟩,fun _=>one .s _ ⟨dt .s rfl,trivial⟩⟩
 |f k=>exact⟨fun _=>⟨dt (.f k) rfl,trivial⟩,fun _=>one (.f k) _ ⟨dt (.f k) rfl,trivial⟩⟩
theorem yy{t:Ty}{v w:V}{cs:List C}(hw:Na t v=some w)(hv:fz h v cs)(hk:fw n h v):fz h w cs/\eC w false t=true/\fw n h w/\sW w=sW v:=by
 unfold Na at hw;split at hw
 .rename_i y hy;obtain rfl:=aa hw;cases hd:kV t with|false=>rw[hd]at hy;simp at hy|true=>rw[hd,cond_true]at hy;exact⟨⟨hd,pG hy hv⟩,by simp[eC],trivial,(Ek hy).symm⟩
 .cases hf:eC v false t with|false=>rw[hf]at hw;simp at hw|true=>rw[hf,cond_true]at hw;obtain rfl:=aa hw;exact⟨hv,hf,hk,rfl⟩
theorem MK{t:Ty}{v:V}{y:El t}(hy:ii t v=some y):NT v:=by cases v<;>first|trivial|(simp[ii]at hy)
theorem Ot{t:Ty}{v:V}(hf:eC v false t=true):NT v:=by cases v<;>first|trivial|(cases t<;>simp[eC]at hf)
theorem FH{t:Ty}{v w:V}(hw:Na t v=some w):NT v:=by
 unfold Na at hw;split at hw
 .rename_i y hy;cases hd:kV t with|false=>rw[hd]at hy;simp at hy|true=>rw[hd,cond_true]at hy;exact MK hy
 .cases hf:eC v false t with|false=>rw[hf]at hw;simp at hw|true=>exact Ot hf
theorem QC{t:Ty}{v:V}(hf:eC v false t=true)(ha:nq t=true):sW v=true:=by
 cases t<;>simp[nq]at ha
 all_goals(cases v<;>first|rfl|(simp[eC]at hf;done)|skip)
 .simp only[eC,decide_eq_true_eq]at hf;subst hf;rfl
 .simp only[eC,decide_eq_true_eq]at hf;subst hf;rfl
theorem MO{t:Ty}:∀(is:List Nat)(ps:List (Nat×Nat))(ws:List V)(c c':V)(cs:List C)(xs:List TV),xo t is ps ws c=some c'->eC c false t=true->fz h c cs->fw n h c->mI h ws xs->(∀w∈ws,fw n h w)->
  ∃cs',m6 cs (ps.zip xs)=some cs'/\fz h c' cs'/\fw n h c'/\eC c' false t=true:=by
 intro is;induction is with
 |nil=>
  intro ps ws c c' cs xs hb hf hc hk hx hw;cases ps with
  |cons p ps=>simp[xo]at hb
  |nil=>cases ws with|cons w ws=>simp[xo]at hb|nil=>obtain rfl:=aa hb;exact⟨cs,by simp[m6],hc,hk,hf⟩
 |cons i is ih=>
  intro ps ws c c' cs xs hb hf hc hk hx hw;cases ps with
  |nil=>simp[xo]at hb
  |cons p ps=>
   obtain⟨off,m⟩:=p;cases ws with
   |nil=>simp[xo]at hb
   |cons w ws=>
    obtain⟨x,ys,rfl,hx1,hx2⟩:=gS hx;have hw1:=hw w (by simp)
    have kF:∀(pe:Pe)(a:Ty),qT t [pe]=some a->II t [pe]->mM t [pe]=off->bE a=m->(match Na a w with|some w=>(match oB c [pe] w with|some c=>bif eC c false t then xo t is ps ws c else none|none=>none)|none=>none)=some c'->
      ∃cs',m6 cs (((off,m),x)::ps.zip ys)=some cs'/\fz h c' cs'/\fw n h c'/\eC c' false t=true:=by
     intro pe a h1 h2 h3 h4 hb;split at hb
     .rename_i w1 hw1';obtain⟨cw,q1,q2⟩:=qx (oP (FH hw1') hx1);split at hb
      .rename_i c1 hc1;cases hfc:eC c1 false t with|false=>rw[hfc]at hb;simp at hb|true=>rw[hfc,cond_true]at hb;obtain⟨k1,k2,k3,_⟩:=yy hw1' q1 hw1;have hl:=iz k1;rw[gT _ _ _ k2,h4]at hl;have hsp:=vR [pe] c t w1 c1 cs cw a hf hc h2 hc1 h1 k1 (by rw[hl,h4]);rw[h3]at hsp;have hle:=v7 [pe] t a h1 h2;have hcl:=iz hc;rw[gT _ _ _ hf]at hcl;obtain⟨cs',e1,e2,e3,e4⟩:=ih ps ws c1 c' _ ys hb hfc hsp (GW _ _ _ _ hk k3 hc1) hx2 fun w hw'=>hw w (by simp[hw']);refine⟨cs',?_,e2,e3,e4⟩;simp only[m6,q2];rw[if_pos ⟨hl,by omega⟩,e1]
      .simp at hb
     .simp at hb
    cases t with
    |st u=>
     simp only[xo]at hb;split at hb
     .rename_i a ha;cases hq:(oU u i==off)&&(bE a==m)with|false=>rw[hq]at hb;simp at hb|true=>rw[hq,cond_true]at hb;simp only[ai,beq_iff_eq]at hq;exact kF (.fd i) a (by simp[qT,ha]) ⟨a,ha,by cases a<;>trivial⟩ (by simp only[mM,ha];rw[hq.1];cases a<;>rfl) hq.2 hb
     .simp at hb
    |ar k u=>simp only[xo]at hb;cases hq:(i*bE u==off)&&(bE u==m)&&decide (i<k)with|false=>rw[hq]at hb;simp at hb|true=>rw[hq,cond_true]at hb;simp only[ai,beq_iff_eq,decide_eq_true_eq]at hq;exact kF (.ix i) u (by simp[qT]) ⟨hq.2,by cases u<;>trivial⟩ (by simp only[mM];rw[hq.1.1];cases u<;>rfl) hq.1.2 hb
    |_=>simp[xo]at hb
end
theorem Q5(a b:ByteArray):(a==b)=decide (a=b):=by obtain⟨x⟩:=a;obtain⟨y⟩:=b;show ByteArray.beq ⟨x⟩ ⟨y⟩=_;unfold ByteArray.beq;rw[dq];simp[ByteArray.ext_iff]
def vF(t:Ty)(x:El t):List Value:=(aT t x).map fun|.lit y=>y|_=>.nilFunc
theorem wZ{k1 k2:List Kd}{a1 a2 b1 b2:List Value}{p q:Bool}(h1:gJ k1 a1 b1=some p)(h2:gJ k2 a2 b2=some q):gJ (k1++k2) (a1++a2) (b1++b2)=some (p&&q):=by
 induction k1 generalizing a1 b1 p with
 |nil=>cases a1<;>cases b1<;>simp[gJ]at h1;subst h1;simpa using h2
 |cons k k1 ih=>
  cases a1<;>cases b1<;>simp only[gJ]at h1<;>first|cases h1;done|skip
  split at h1
  .rename_i c d hc hd;obtain rfl:=aa h1;simp only[aU,gJ,hc,ih hd,Bool.and_assoc]
  .simp at h1
theorem yN{k1 k2:List Kd}{a1 a2:List Value}(h1:zF k1 a1=true)(h2:zF k2 a2=true):zF (k1++k2) (a1++a2)=true:=by
 induction k1 generalizing a1 with
 |nil=>cases a1<;>simp[zF]at h1;simpa using h2
 |cons k k1 ih=>
  cases a1<;>simp only[zF]at h1<;>first|cases h1;done|skip
  simp only[ai]at h1;simp[zF,h1.1,ih h1.2]
theorem xB:∀(t:Ty)(ks:List Kd),DQ t=some ks->(∀x,aT t x=(vF t x).map .lit)/\(∀x,zF ks (vF t x)=true)/\(∀a b:El t,gJ ks (vF t a) (vF t b)=some (decide (a=b)))/\ks.length=bE t:=by
 intro t;induction t with
 |pr a c iha ihc=>
  intro ks hk;simp only[DQ]at hk;split at hk
  .rename_i x y hx hy;obtain rfl:=aa hk;obtain⟨a1,a2,a3,a4⟩:=iha x hx;obtain⟨c1,c2,c3,c4⟩:=ihc y hy;have e:∀v:El (.pr a c),vF (.pr a c) v=vF a v.1++vF c v.2:=fun v=>by simp[vF,aT]
   refine⟨fun v=>by rw[e,gO,<-a1,<-c1];rfl,fun v=>by rw[e];exact yN (a2 _) (c2 _),fun u v=>?_,by simp[bE,a4,c4]⟩;rw[e,e,wZ (a3 _ _) (c3 _ _)];congr 1;rw[dq];simp[Prod.ext_iff]
  .simp at hk
 |st t ih=>intro ks hk;exact ih ks hk
 |ar m t ih=>
  intro ks hk;simp only[DQ]at hk;split at hk
  .rename_i x hx;obtain rfl:=aa hk;obtain⟨a1,a2,a3,a4⟩:=ih x hx;have e:∀v:El (.ar m t),vF (.ar m t) v=v.1.flatMap (vF t):=fun v=>by simp only[vF,aT,List.map_flatMap];rfl
   refine⟨fun v=>?_,fun v=>?_,fun u v=>?_,?_⟩
   .rw [e];simp only[aT,List.map_flatMap];congr 1;funext y;exact a1 y
   .rw [e];obtain⟨l,hl⟩:=v;clear e hk ih;simp only;induction l generalizing m with|nil=>subst hl;rfl|cons y l ihl=>subst hl;simp only[c_,iA,dZ,bi];exact yN (a2 y) (ihl _ rfl)
   .rw [e,e];obtain⟨l,hl⟩:=u;obtain⟨r,hr⟩:=v
    have key:∀(m:Nat)(l r:List (El t)),l.length=m->r.length=m->gJ (az m x).flatten (l.flatMap (vF t)) (r.flatMap (vF t))=some (decide (l=r)):=by
     intro m;induction m with
     |zero=>intro l r h1 h2;obtain rfl:=a_.1 h1;obtain rfl:=a_.1 h2;rfl
     |succ m ihm=>
      intro l r h1 h2;cases l with
      |nil=>simp at h1
      |cons y l=>cases r with|nil=>simp at h2|cons z r=>simp only[iA,dZ,bi];rw[wZ (a3 y z) (ihm l r (by simpa using h1) (by simpa using h2))];congr 1;rw[dq];simp
    rw[key m l r hl hr];congr 1;rw[dq];simp only[decide_eq_true_eq];exact⟨fun h=>Subtype.ext h,fun h=>congrArg Subtype.val h⟩
   .simp [bE,a4]
  .simp at hk
 |i k=>intro ks hk;obtain rfl:=aa hk;refine⟨fun _=>rfl,fun x=>by simp[vF,aT,zF,Lx],fun a b=>?_,rfl⟩;simp only[vF,aT,aB,aW,gJ,EJ,and_self,if_true,Bool.and_true];congr 1
 |b=>intro ks hk;obtain rfl:=aa hk;refine⟨fun _=>rfl,fun x=>by simp[vF,aT,zF,Lx],fun a b=>?_,rfl⟩;simp only[vF,aT,aB,aW,gJ,EJ,Bool.and_true];congr 1
 |s=>intro ks hk;obtain rfl:=aa hk;refine⟨fun _=>rfl,fun x=>by simp[vF,aT,zF,Lx],fun a b=>?_,rfl⟩;simp only[vF,aT,aB,aW,gJ,EJ,Bool.and_true];rw[Q5]
 |_=>intro ks hk;simp[DQ]at hk
section
variable{h:H2}{n:Nat}{h1:bH}
theorem JI{z:Bool}{op:BinOp}{k k':IntKind}{a b:Int}{v:V}(hb:Q4 z op k k' a b=some v)(hz:z=true->0<b):∃y,rY op (.int k a) (.int k' b)=some y/\gG h v (lv y)/\fw n h v:=by
 have one:∀(q:IntKind)(c:Int),gG h (.x (.i q) c) (lv (.int q c)):=fun q c=>cz (ed rfl ⟨rfl,rfl⟩);have onb:∀(c:Bool),gG h (.x .b c) (lv (.bool c)):=fun c=>cz (ed rfl ⟨rfl,rfl⟩);cases op<;>simp only[Q4]at hb
 all_goals first
  |(cases z<;>simp only[cond_true,cond_false]at hb<;>first|(cases hb;done)|skip
    have:=hz rfl;obtain rfl:=aa hb;refine⟨_,by simp only[rY];rw[if_neg (by omega)];rfl,one _ _,trivial⟩)
  |skip
 all_goals
  by_cases hk:k=k'
  .subst hk;simp only[decide_true,cond_true]at hb
   first
    |(cases hb;done)
    |(obtain rfl:=aa hb
      refine⟨_,by simp only[rY,if_true];rfl,?_,trivial⟩
      first|exact one _ _|exact onb _)
    |(obtain rfl:=aa hb
      first
       |exact⟨.int k (JL k a b),by simp only[rY,if_true,xH];rfl,one _ _,trivial⟩
       |exact⟨.int k (Rv k a b),by simp only[rY,if_true,Cc];rfl,one _ _,trivial⟩
       |exact⟨.int k (Q6 k a b),by simp only[rY,if_true,ON];rfl,one _ _,trivial⟩
       |exact⟨.int k (rG k a b),by simp only[rY,if_true,uI];rfl,one _ _,trivial⟩)
    |(cases z<;>simp only[cond_true,cond_false]at hb<;>first|(cases hb;done)|skip
      have:=hz rfl;obtain rfl:=aa hb;refine⟨_,by simp only[rY,if_true];rw[if_neg (by omega)],one _ _,trivial⟩)
  .simp [hk]at hb
theorem JH{op:BinOp}{a b:ByteArray}{v:V}(hb:Q3 op a b=some v):∃y,rY op (.string a) (.string b)=some y/\gG h v (lv y)/\fw n h v:=by
 have onb:∀(c:Bool),gG h (.x .b c) (lv (.bool c)):=fun c=>cz (ed rfl ⟨rfl,rfl⟩);cases op<;>simp only[Q3]at hb<;>first|(cases hb;done)|skip
 all_goals(obtain rfl:=aa hb;exact⟨_,rfl,onb _,trivial⟩)
theorem La{m:Bool}{k:IntKind}:∀{r:List V}{x y:Int}{xs:List TV},Rt m k x r=some y->mI h r xs->Pd m (.int k x) (xs.map some)=some (.int k y):=by
 intro r;induction r with
 |nil=>intro x y xs hm hx;obtain rfl:=lR hx;obtain rfl:=aa hm;rfl
 |cons v r ih=>
  intro x y xs hm hx;obtain⟨x1,ys,rfl,h1,h2⟩:=gS hx;cases v with
  |x t c=>
   cases t with
   |i k'=>
    simp only[Rt]at hm;by_cases hk:k'=k
    .subst hk;simp only[decide_true,cond_true]at hm;obtain rfl:=ku h1;have:=ih hm h2;cases m<;>simpa[Pd,SJ]using this
    .simp [hk]at hm
   |_=>simp[Rt]at hm
  |_=>simp[Rt]at hm
theorem nf{α:Type}:∀(l:List α),eE (l.map some)=some l:=by intro l;induction l with|nil=>rfl|cons a l ih=>simp[eE,ih]
theorem K1{kind:Nat}{v w:V}{x:TV}{neg:Bool}{c:Call}{nx:Nat}(hx:gG h v x)(ha:iB h v=true)(hn:yA h kind v=some w):
  ∃y,cQ c (.qN kind neg) [some x] h1 nx=some (y,[],[],nx)/\gG h (bif neg then K3 w else w) y/\fw n h (bif neg then K3 w else w):=by
 have kb:∀b,gG h (.kb b) (tB b):=fun b=>cz (ed rfl rfl);have xb:∀b,gG h (.x .b b) (tB b):=fun b=>cz (ed rfl ⟨rfl,rfl⟩)
 have sl:∀q,tZ h v=some q->(bif kind==0 then(match tZ h v with|some ⟨_,s,_⟩=>some (.x .b s.fN)|none=>none)else none)=some w->
   ∃y,cQ c (.qN kind neg) [some x] h1 nx=some (y,[],[],nx)/\gG h (bif neg then K3 w else w) y/\fw n h (bif neg then K3 w else w):=by
  intro q hq hw;cases hkk:kind==0 with
  |false=>rw[hkk]at hw;simp at hw
  |true=>
   obtain rfl:kind=0:=by simpa using hkk
   rw[hq]at hw;simp only[hkk,cond_true]at hw;obtain rfl:=aa hw;refine⟨_,Qj hx ha hq,?_⟩;cases neg
   .exact ⟨xb _,trivial⟩
   .exact ⟨xb _,trivial⟩
 cases v with
 |nl k=>
  simp only[yA]at hn;cases hkk:(k==kind)&&Nat.blt k 3 with
  |false=>rw[hkk]at hn;simp at hn
  |true=>
   rw[hkk,cond_true]at hn;obtain rfl:=aa hn;simp only[ai,beq_iff_eq]at hkk;obtain⟨rfl,hlt⟩:=hkk;have hlt:k<3:=jb hlt;rw[vL hx]
   match k,hlt with|0,_=>cases neg<;>exact⟨_,rfl,kb _,trivial⟩|1,_=>cases neg<;>exact⟨_,rfl,kb _,trivial⟩|2,_=>cases neg<;>exact⟨_,rfl,kb _,trivial⟩
 |pt t v=>
  simp only[yA]at hn;cases hkk:kind==1 with
  |false=>rw[hkk]at hn;simp at hn
  |true=>
   rw[hkk,cond_true]at hn;obtain rfl:=aa hn;obtain rfl:kind=1:=by simpa using hkk
   rw[(xO hx).2];cases neg<;>exact⟨_,rfl,kb _,trivial⟩
 |op id t p=>
  simp only[yA]at hn;cases hkk:kind==1 with
  |false=>rw[hkk]at hn;simp at hn
  |true=>
   rw[hkk,cond_true]at hn;obtain rfl:=aa hn;obtain rfl:kind=1:=by simpa using hkk
   rw[vK hx];cases neg<;>exact⟨_,rfl,kb _,trivial⟩
 |ep id m t p=>
  simp only[yA]at hn;cases hkk:kind==1 with
  |false=>rw[hkk]at hn;simp at hn
  |true=>
   rw[hkk,cond_true]at hn;obtain rfl:=aa hn;obtain rfl:kind=1:=by simpa using hkk
   rw[sj hx];cases neg<;>exact⟨_,rfl,kb _,trivial⟩
 |fn z f l=>
  simp only[yA]at hn;cases hkk:kind==2 with
  |false=>rw[hkk]at hn;simp at hn
  |true=>
   rw[hkk,cond_true]at hn;obtain rfl:=aa hn;obtain rfl:kind=2:=by simpa using hkk
   rcases EP hx with⟨_,ds,_,rfl⟩|⟨_,cs,_,rfl⟩<;>(cases neg<;>exact⟨_,rfl,kb _,trivial⟩)
 |x t v=>cases hq:tZ h (.x t v)with|none=>simp[yA,hq]at hn|some q=>exact sl q hq hn
 |so id=>cases hq:tZ h (.so id)with|none=>simp[yA,hq]at hn|some q=>exact sl q hq hn
 |sb id ver lo t r=>cases hq:tZ h (.sb id ver lo t r)with|none=>simp[yA,hq]at hn|some q=>exact sl q hq hn
 |_=>simp[yA,tZ]at hn
theorem L7{off m i:Nat}{v w:V}{x:TV}{c:Call}{nx:Nat}(hx:gG h v x)(hk:fw n h v)(hw:Gb off m i v=some w):
  ∃y,cQ c (.fieldAddr off m) [some x] h1 nx=some (y,[],[],nx)/\gG h w y/\fw n h w:=by
 have NU:∀(t u a:Ty)(p:pR),qT t p=some (.st u)->Cr u i=some a->II t p->II t (p++[.fd i])/\mM t (p++[.fd i])=mM t p+oU u i:=by
  intro t u a p;induction p generalizing t with
  |nil=>
   intro h1 h2 _;have e:qT t []=some t:=by cases t<;>rfl
   obtain rfl:t=.st u:=by rw[e]at h1;exact aa h1
   refine⟨⟨a,h2,by cases a<;>trivial⟩,?_⟩;simp only[bh,mM,h2];cases a<;>simp[mM]
  |cons q p ih=>
   intro h1 h2 h3;cases q with
   |fd j=>cases t with|st t=>obtain⟨b2,hb,h3⟩:=h3;simp only[qT,hb]at h1;obtain⟨q1,q2⟩:=ih b2 h1 h2 h3;refine⟨⟨b2,hb,q1⟩,?_⟩;simp only[aU,mM,hb,q2];exact(cO _ _ _).symm|_=>exact h3.elim
   |ix k=>cases t with|ar l t=>obtain⟨hk,h3⟩:=h3;obtain⟨q1,q2⟩:=ih t h1 h2 h3;refine⟨⟨hk,q1⟩,?_⟩;simp only[aU,mM,q2];exact(cO _ _ _).symm|_=>exact h3.elim
 cases v with
 |op id t p=>
  simp only[Gb]at hw;split at hw
  .rename_i u hu;split at hw
   .rename_i a hf;cases hq:(oU u i==off)&&(bE a==m)with
    |false=>rw[hq]at hw;simp at hw
    |true=>
     rw[hq,cond_true]at hw;obtain rfl:=aa hw;simp only[ai,beq_iff_eq]at hq;obtain⟨q1,q2⟩:=NU t u a p hu hf hk.2;rw[vK hx];refine⟨_,rfl,cz (ed rfl ?_),hk.1,q1⟩;show[_]=[_]
     rw[q2,hq.1]
   .simp at hw
  .simp at hw
 |ep id k t p=>
  simp only[Gb]at hw;split at hw
  .rename_i u hu;split at hw
   .rename_i a hf;cases hq:(oU u i==off)&&(bE a==m)with
    |false=>rw[hq]at hw;simp at hw
    |true=>
     rw[hq,cond_true]at hw;obtain rfl:=aa hw;simp only[ai,beq_iff_eq]at hq;obtain⟨q1,q2⟩:=NU t u a p hu hf hk.2.1;rw[sj hx];refine⟨_,rfl,cz (ed rfl ?_),hk.1,q1,hk.2.2⟩;show[_]=[_]
     rw[q2,hq.1]
   .simp at hw
  .simp at hw
 |pt t v=>
  cases t with
  |st u=>
   simp only[Gb]at hw;split at hw
   .rename_i a y hy;cases hq:(oU u i==off)&&(bE a==m)with
    |false=>rw[hq]at hw;simp at hw
    |true=>
     rw[hq,cond_true]at hw;obtain rfl:=aa hw;simp only[ai,beq_iff_eq]at hq;obtain⟨a',y',e,f1,f2,f3⟩:=qJ _ _ _ _ hy;cases e;obtain⟨hd,rfl⟩:=xO hx;refine⟨_,?_,cz (ed (c:=.d (.pt (aT a y))) rfl ⟨zh u _ _ hd f1,rfl⟩),trivial⟩;have hle:off+m<=(aT (.st u) v).length:=by rw[bI];show _<=bE u;omega
     have e2:((aT (.st u) v).drop off).take m=aT a y:=by rw[<-hq.1,<-hq.2];exact f3
     simp only[cQ,kc];rw[if_pos hle,e2]
   .simp at hw
  |_=>simp[Gb]at hw
 |_=>simp[Gb]at hw
theorem IK:∀(l:V)(i:Nat)(w:V)(cs:List C),fz h l cs->rU l i=some w->∃cw,fz h w cw/\On l i+xT w<=cs.length/\(cs.drop (On l i)).take (xT w)=cw:=by
 intro l;induction l with
 |co a r iha ihr=>intro i w cs hv hw;obtain⟨x,y,rfl,k1,k2⟩:=hv;have hl:=iz k1;cases i with|zero=>obtain rfl:=aa hw;refine⟨x,k1,by simp[On];omega,?_⟩;simp only[On,List.drop_zero];rw[<-hl,List.take_left]|succ i=>obtain⟨cw,q1,q2,q3⟩:=ihr i w y k2 hw;refine⟨cw,q1,by simp only[On,av];omega,?_⟩;simp only[On];rw[<-dv,<-hl,List.drop_left,q3]
 |_=>intro i w cs hv hw;simp[rU]at hw
theorem N3:∀(l:V)(i:Nat)(w:V)(xs:List TV),Bq h l xs->rU l i=some w->∃x,xs[i]?=some x/\sn h w x:=by
 intro l;induction l with
 |co a r iha ihr=>intro i w xs hv hw;obtain⟨x,ys,rfl,k1,k2⟩:=hv;cases i with|zero=>obtain rfl:=aa hw;exact⟨x,rfl,k1⟩|succ i=>exact ihr i w ys k2 hw
 |_=>intro i w xs hv hw;simp[rU]at hw
end
section
variable{h:H2}{n:Nat}{h1:bH}
def UP(h:H2)(n:Nat)(h1:bH)(k:K)(xs:List TV)(v:V)(l:List Nat):Prop:=∀(c:Call)(nx:Nat),∃x aD,cQ c k (xs.map some) h1 nx=some (x,[],aD,nx)/\gG h v x/\fw n h v/\∀i∈aD,i∈l
theorem Ro(a:ByteArray):gG h (.x .s a) (.c (.d (dS a))):=cz (ed rfl ⟨rfl,rfl⟩)
def Rp(t:Ty)(y:El t):TV:=if nq t=true then .agg ((aT t y).map .d)else match aT t y with|d::_=>.c (.d d)|[]=>.iQ []
theorem GQ{t:Ty}(y:El t){va:Bool}(hv:nq t=va)(h1:(va||bE t==1)=true):pi va (aT t y)=some (Rp t y):=by
 subst hv;unfold pi Rp;cases ha:nq t with
 |true=>rfl
 |false=>
  rw[ha]at h1;have:=bI t y;rw[show bE t=1 by simpa using h1]at this;cases he:aT t y with
  |nil=>rw[he]at this;simp at this
  |cons d r=>
   rw[he]at this;have:r=[]:=by simpa using this
   subst this;rfl
theorem J6{t:Ty}{y:El t}(hd:kV t=true)(h1:(nq t||bE t==1)=true):sn h (.x t y) (Rp t y):=by
 unfold Rp;cases ha:nq t with
 |true=>exact xP ha ⟨hd,rfl⟩
 |false=>
  rw[ha]at h1;have:=bI t y;rw[show bE t=1 by simpa using h1]at this;cases he:aT t y with
  |nil=>rw[he]at this;simp at this
  |cons d r=>
   rw[he]at this;have:r=[]:=by simpa using this
   subst this;exact ed ha ⟨hd,by rw[he];rfl⟩
theorem JP(f:TV->Option C)(hf:∀c,f (.c c)=some c):∀(cs:List C),eE ((cs.map TV.c).map f)=some cs:=by intro cs;induction cs with|nil=>rfl|cons c cs ih=>simp only[aB,hf,eE,ih]
theorem yI:∀(l:List Value),lL (l.map fun v=>C.d (.lit v))=some l:=by intro l;induction l with|nil=>rfl|cons v l ih=>simp[lL,ih]
theorem DN{kt:Ty}{ks:List Kd}{v:V}{x:TV}{y:El kt}{ka:Bool}(hx:gG h v x)(hc:tL kt v=some y)(hk:DQ kt=some ks)(ha:nq kt=ka):oT ka ks x=some (vF kt y):=by
 obtain⟨h1,h2,_,h4⟩:=xB kt ks hk;obtain⟨g1,g2⟩:=vu hx hc;cases ka with
 |true=>
  rw[g1 ha];have e:(aT kt y).map C.d=(vF kt y).map fun v=>C.d (.lit v):=by rw[h1 y,lG];rfl
  simp only[oT];rw[if_pos ⟨trivial,by rw[aN,bI,h4]⟩,e,yI];simp only[h2 y,if_true]
 |false=>
  obtain⟨d,hd,rfl⟩:=g2 ha;have hl:=bI kt y;rw[hd]at hl;have h5:=h1 y;rw[hd]at h5;cases hv:vF kt y with
  |nil=>rw[hv]at h5;simp at h5
  |cons q r=>
   rw[hv]at h5;simp only[aB,dH]at h5;obtain⟨rfl,h6⟩:=h5;have:r=[]:=by simpa using h6.symm
   subst this;simp only[oT];rw[if_pos ⟨trivial,by rw[h4,<-hl];rfl⟩];have h7:=h2 y;rw[hv]at h7;simp only[lL,h7,if_true]
theorem Lf{v:V}{q:(k:Ty)×(v:Ty)×Mp (El k) (El v)×List Nat}{x:TV}(hr:HR n h1 h)(hm:N9 h v=some q)(hx:gG h v x):
  ∃id,v=.om id/\x=.c (.om id)/\q.2.2.2=[id]/\fO h id=some (.mp q.1 q.2.1 q.2.2.1)/\aC h1 id=EH (nq q.1) (nq q.2.1) (vF q.1) (aT q.2.1) q.2.2.1:=by
 cases v with
 |om id=>
  simp only[N9]at hm;split at hm
  .rename_i k v m ho;obtain rfl:=aa hm;exact⟨id,rfl,EO hx,rfl,ho,(hr.ob id _ ho).2.1.2.2⟩
  .simp at hm
 |_=>simp[N9]at hm
theorem Li{c:Call}{x y:TV}{H:bH}{l:List Nat}{nx:Nat}(h:cQ c (.load false 1) [some x] H nx=some (y,[],l,nx)):cQ c .t6 [some x] H nx=some (y,[],l,nx):=by
 cases x with
 |c p=>
  have h:(match ic false 1 p H with|some (v,aD)=>some (v,([]:fJ),aD,nx)|none=>none)=some (y,[],l,nx):=h;show(match ic false 1 p H with|some (v,aD)=>some (v,([]:fJ),aD,nx)|none=>lB false 1 p H nx)=some (y,[],l,nx);split at h
  .exact h
  .cases h
 |_=>cases h
theorem HW{o:OP}{vs:List V}{v:V}{l:List Nat}{xs:List TV}(hr:HR n h1 h)(ht:PS o vs h=some (v,l))(hx:mI h vs xs)(hk:∀w∈vs,fw n h w)(ha:∀w∈vs,iB h w=true)
  (hp:NR o.o.args=true->∀a k b,vs=[a,.x (.i k) b]->0<b):UP h n h1 o.o.k xs v l:=by
 obtain⟨⟨d,k,args,g⟩,t,fi⟩:=o;simp only at hp|-;unfold PS at ht;simp only at ht;split at ht
 .--mv
  obtain⟨rfl,rfl⟩:=ad (aa ht);obtain⟨x,rfl,h2⟩:=iP hx;exact .of (fun _ _=>rfl) h2 (hk _ (by simp))
 .--nilCheck
  obtain⟨x,rfl,h2⟩:=iP hx;have hk1:=hk _ (aq.2 rfl);split at ht
  .obtain ⟨rfl,rfl⟩:=ad (aa ht);exact .of (fun _ _=>by rw[(xO h2).2];rfl) h2 hk1
  .obtain ⟨rfl,rfl⟩:=ad (aa ht);refine .of (fun _ _=>?_) h2 hk1;rcases EP h2 with⟨_,ds,_,rfl⟩|⟨_,cs,_,rfl⟩<;>rfl
  .obtain ⟨rfl,rfl⟩:=ad (aa ht);exact .of (fun _ _=>by rw[sj h2];rfl) h2 hk1
  .obtain ⟨rfl,rfl⟩:=ad (aa ht);exact .of (fun _ _=>by rw[vK h2];rfl) h2 hk1
  .simp at ht
 .--Af int
  rename_i op q a q' b;obtain⟨x,y,rfl,h2,h3⟩:=jh hx;obtain rfl:=ku h2;obtain rfl:=ku h3;split at ht
  .rename_i w hw;obtain⟨rfl,rfl⟩:=ad (aa ht);obtain⟨y,h4,h5,h6⟩:=JI (h:=h) (n:=n) hw fun hz=>hp hz _ _ _ rfl;exact .of (fun _ _=>by simp only[mb,cQ,h4]) h5 h6
  .simp at ht
 .--Af string
  obtain⟨x,y,rfl,h2,h3⟩:=jh hx;obtain rfl:=wO h2;obtain rfl:=wO h3;split at ht
  .rename_i w hw;obtain⟨rfl,rfl⟩:=ad (aa ht);obtain⟨y,h4,h5,h6⟩:=JH (h:=h) (n:=n) hw;exact .of (fun _ _=>by simp only[mb,cQ,h4]) h5 h6
  .simp at ht
 .--uE
  rename_i neg v1 v2;obtain⟨x,y,rfl,h2,h3⟩:=jh hx;split at ht
  .rename_i a b ha' hb';obtain⟨rfl,rfl⟩:=ad (aa ht);rw[Pq h2 ha',Pq h3 hb'];refine .of (x:=tB (bif neg then !(a==b)else a==b)) (fun _ _=>?_) (xb _) trivial;cases neg<;>rfl
  .simp at ht
 .--qN
  obtain⟨x,rfl,h2⟩:=iP hx;split at ht
  .rename_i w hw;obtain⟨rfl,rfl⟩:=ad (aa ht);intro c nx;obtain⟨y,h4,h5,h6⟩:=K1 (n:=n) (h1:=h1) (c:=c) (nx:=nx) h2 (ha _ (by simp)) hw;exact⟨y,[],h4,h5,h6,fun i hi=>by simp at hi⟩
  .simp at ht
 .--zd
  rename_i neg ks t1 a w;obtain⟨x,y,rfl,h2,h3⟩:=jh hx;split at ht
  .rename_i b hb;cases hq:nq t1&&decide (DQ t1=some ks)with
   |false=>rw[hq]at ht;simp at ht
   |true=>
    rw[hq,cond_true]at ht;obtain⟨rfl,rfl⟩:=ad (aa ht);simp only[ai,decide_eq_true_eq]at hq;obtain⟨k1,k2,k3,k4⟩:=xB t1 ks hq.2;have e1:=(vu (v:=.x t1 a) (u:=t1) (y:=a) h2 (by simp[tL,kP,ii,gM])).1 hq.1;have e2:=(vu h3 hb).1 hq.1;have el:∀z:El t1,lL ((aT t1 z).map C.d)=some (vF t1 z):=fun z=>by rw[show(aT t1 z).map C.d=(vF t1 z).map fun v=>C.d (.lit v)by rw[k1 z,lG];rfl,yI]
    rw[e1,e2];refine .of (x:=tB (bif neg then !(decide (a=b))else decide (a=b))) (fun _ _=>?_) (xb _) trivial;simp only[mb,cQ,el,k3];cases neg<;>rfl
  .simp at ht
 .obtain ⟨rfl,rfl⟩:=ad (aa ht);obtain⟨x,rfl,h2⟩:=iP hx;rw[vM h2];exact .of (fun _ _=>rfl) (cz (ed rfl rfl)) trivial
 .obtain ⟨rfl,rfl⟩:=ad (aa ht);obtain⟨x,rfl,h2⟩:=iP hx;rw[GS h2];exact .of (fun _ _=>rfl) (xb _) trivial
 .obtain ⟨rfl,rfl⟩:=ad (aa ht);obtain⟨x,rfl,h2⟩:=iP hx;rw[ku h2];exact .of (fun _ _=>rfl) (xi _ _) trivial
 .obtain ⟨rfl,rfl⟩:=ad (aa ht);obtain⟨x,rfl,h2⟩:=iP hx;rw[ku h2];exact .of (fun _ _=>rfl) (xi _ _) trivial
 .obtain ⟨rfl,rfl⟩:=ad (aa ht);obtain⟨x,rfl,h2⟩:=iP hx;rw[ku h2];exact .of (fun _ _=>rfl) (xi _ _) trivial
 .obtain ⟨rfl,rfl⟩:=ad (aa ht);obtain⟨x,rfl,h2⟩:=iP hx;rw[wO h2];exact .of (fun _ _=>rfl) (Ro _) trivial
 .--IS
  rename_i f;cases hc:vs.all OK with
  |false=>rw[hc]at ht;simp at ht
  |true=>
   rw[hc,cond_true]at ht;obtain⟨rfl,rfl⟩:=ad (aa ht);obtain⟨cs,h2,rfl⟩:=J7 hx fun w hw=>by have:=List.all_eq_true.1 hc w hw;cases w<;>first|exact⟨trivial,by simp[OK]at this;exact this⟩|simp[OK]at this
   refine .of (x:=.c (.oR f cs)) (fun _ _=>?_) (cz (ed rfl ⟨cs,h2,rfl⟩)) ?_
   .simp only[cQ,nf];rw[JP _ fun _=>rfl]
   .clear ht h2 hp ha hc hx;induction vs with|nil=>trivial|cons w vs ih=>exact⟨hk w (by simp),ih fun u hu=>hk u (by simp[hu])⟩
 .--load
  rename_i g m p;obtain⟨x,rfl,h2⟩:=iP hx;split at ht
  .rename_i w l' hl;cases hc:Gv h g m w with|false=>rw[hc]at ht;simp at ht|true=>rw[hc,cond_true]at ht;obtain⟨rfl,rfl⟩:=ad (aa ht);intro c nx;obtain⟨y,h3,h4,h5⟩:=we (c:=c) (nx:=nx) hr hl hc h2 (hk _ (by simp));exact⟨y,_,h3,h4,h5,fun i hi=>hi⟩
  .simp at ht
 .--load of a slice
  obtain⟨x,rfl,h2⟩:=iP hx;split at ht
  .rename_i w l' hl;cases hc:Gv h false 1 w with|false=>rw[hc]at ht;simp at ht|true=>rw[hc,cond_true]at ht;obtain⟨rfl,rfl⟩:=ad (aa ht);intro c nx;obtain⟨y,h3,h4,h5⟩:=we (c:=c) (nx:=nx) hr hl hc h2 (hk _ (by simp));exact⟨y,_,Li h3,h4,h5,fun i hi=>hi⟩
  .simp at ht
 .--fieldAddr
  obtain⟨x,rfl,h2⟩:=iP hx;split at ht
  .split at ht
   .rename_i w hw;obtain⟨rfl,rfl⟩:=ad (aa ht);intro c nx;obtain⟨y,h3,h4,h5⟩:=L7 (h1:=h1) (c:=c) (nx:=nx) h2 (hk _ (by simp)) hw;exact⟨y,[],h3,h4,h5,fun i hi=>by simp at hi⟩
   .simp at ht
  .simp at ht
 .--field of data
  rename_i g off m u y;obtain⟨x,rfl,h2⟩:=iP hx;split at ht
  .split at ht
   .rename_i i _ w hw;cases hc:(oU u i==off)&&Gv h g m w with
    |false=>rw[hc]at ht;simp at ht
    |true=>
     rw[hc,cond_true]at ht;obtain⟨rfl,rfl⟩:=ad (aa ht);simp only[ai,beq_iff_eq]at hc;obtain⟨a,z,rfl,f1,f2,f3⟩:=qJ _ _ _ _ hw;obtain⟨cs,⟨hd,rfl⟩,g1,_⟩:=oP (v:=.x (.st u) y) trivial h2;have hd':kV u=true:=hd;obtain⟨_,hs,_,_⟩:=ow hc.2;have hs:bE a=m:=hs
     obtain⟨q,h3,h4⟩:=py (cs:=(aT u y).map C.d) (off:=off) hc.2 (show fz h (.x a z) ((aT a z).map .d)from⟨zh u _ _ hd' f1,rfl⟩) (by simp[bI];omega)
      (by rw[<-hc.1,<-hs,<-f3,g_,gy])
     rw[g1 rfl];exact .of (x:=q) (fun _ _=>by show(match DL g m (((aT u y).map C.d).drop off)with|some v=>some (v,([]:fJ),([]:List Nat),_)|none=>none)=_;rw[h3]) h4 trivial
   .simp at ht
  .simp at ht
 .--field of a dj
  rename_i g off m u;obtain⟨x,rfl,h2⟩:=iP hx;split at ht
  .split at ht
   .rename_i i _ w hw;cases hc:(On u i==off)&&Gv h g m w with|false=>rw[hc]at ht;simp at ht|true=>rw[hc,cond_true]at ht;obtain⟨rfl,rfl⟩:=ad (aa ht);simp only[ai,beq_iff_eq]at hc;obtain⟨cs,hcs,g1,_⟩:=oP (v:=.rc u) trivial h2;obtain⟨cw,q1,q2,q3⟩:=IK u i w cs hcs hw;obtain⟨_,hs,_,_⟩:=ow hc.2;obtain⟨q,h3,h4⟩:=py (off:=off) hc.2 q1 (by rw[<-hc.1,<-hs];exact q2) (by rw[<-hc.1,<-hs];exact q3);rw[g1 rfl];exact .of (x:=q) (fun _ _=>by show(match DL g m (cs.drop off)with|some v=>some (v,([]:fJ),([]:List Nat),_)|none=>none)=_;rw[h3]) h4 (xz u i w (hk (.rc u) (aq.2 rfl)) hw)
   .simp at ht
  .simp at ht
 .--extract
  rename_i i u;obtain⟨x,rfl,h2⟩:=iP hx;split at ht
  .rename_i w hw;obtain⟨rfl,rfl⟩:=ad (aa ht);obtain⟨ys,rfl,h3⟩:=PR h2;obtain⟨y,h4,h5⟩:=N3 u i w ys h3 hw;exact .of (x:=y) (fun _ _=>by simp only[mb,cQ,h4]) (cz h5) (xz u i w (hk (.tp u) (aq.2 rfl)) hw)
  .simp at ht
 .obtain ⟨rfl,rfl⟩:=ad (aa ht);obtain⟨x,rfl,h2⟩:=iP hx;rw[wO h2];exact .of (fun _ _=>rfl) (xi _ _) trivial
 .obtain ⟨rfl,rfl⟩:=ad (aa ht);obtain⟨x,rfl,h2⟩:=iP hx;rw[vL h2];exact .of (fun _ _=>rfl) (xi _ _) trivial
 .--len of a dj of ao
  obtain⟨x,rfl,h2⟩:=iP hx;split at ht
  .rename_i t' s' ln hq;obtain⟨rfl,rfl⟩:=ad (aa ht);exact .of (fun _ _=>by rw[J8 h2 (ss hq)];exact Pf) (xi _ _) trivial
  .simp at ht
 .--len
  obtain⟨x,rfl,h2⟩:=iP hx;split at ht
  .rename_i q t' s' l' hq;obtain⟨rfl,rfl⟩:=ad (aa ht);exact .of (fun _ _=>Qs h2 (ha _ (by simp)) hq) (xi _ _) trivial
  .simp at ht
 .--uz
  rename_i m k' x r;obtain⟨x1,ys,rfl,h2,h3⟩:=gS hx;split at ht
  .rename_i y hy;obtain⟨rfl,rfl⟩:=ad (aa ht);obtain rfl:=ku h2;exact .of (x:=lv (.int k' y)) (fun _ _=>by simp only[mb,cQ,La hy h3]) (xi _ _) trivial
  .simp at ht
 .--build
  rename_i z ps;cases hc:tQ (nu t) z&&nq t&&eC (O5 t) false t with
  |false=>rw[hc]at ht;simp at ht
  |true=>
   rw[hc,cond_true]at ht;simp only[ai]at hc;split at ht
   .rename_i w hw;obtain⟨rfl,rfl⟩:=ad (aa ht);obtain⟨z1,z2⟩:=(xI (h:=h) (n:=n) t).1 hc.2;obtain⟨cs,b1,b2,b3,b4⟩:=MO fi ps vs (O5 t) w _ xs hw hc.2 z1 z2 hx hk;rw[qW hc.1.1]at b1;exact .of (x:=.agg cs) (fun _ _=>by simp only[cQ,nf,b1]) (cz (xP (QC b4 hc.1.2) b2)) b3
   .simp at ht
 .--lookup
  rename_i ka ks va z ok m kv;obtain⟨x,y,rfl,h2,h3⟩:=jh hx;split at ht
  .rename_i kt vt mp l' hq;split at ht
   .rename_i key hkey;cases hc:(nq kt==ka)&&(nq vt==va)&&decide (DQ kt=some ks)&&tQ (nu vt) z&&kV vt&&(va||bE vt==1)with
    |false=>rw[hc]at ht;simp at ht
    |true=>
     rw[hc,cond_true]at ht;simp only[ai,beq_iff_eq,decide_eq_true_eq]at hc;obtain⟨⟨⟨⟨⟨c1,c2⟩,c3⟩,c4⟩,c5⟩,c6⟩:=hc;obtain⟨id,rfl,rfl,e1,e2,e3⟩:=Lf hr hq h2;have e1:l'=[id]:=e1;subst e1;obtain⟨_,_,k3,_⟩:=xB kt ks c3;have hz:cE z=aT vt (sd vt):=by rw[qV vt c5,qW c4]
     have hv:∀y,pi va (aT vt y)=some (Rp vt y):=fun y=>GQ y c2 c6;have hkt:=DN h3 hkey c3 c1;rw[c1,c2]at e3;rw[<-c2]at c6;cases ok with|false=>simp only[cond_false]at ht;obtain⟨rfl,rfl⟩:=ad (aa ht);exact fun c nx=>⟨_,[id],Qn (z:=sd vt) e3 hkt k3 hz hv,cz (J6 c5 c6),trivial,fun i hi=>hi⟩|true=>simp only[cond_true]at ht;obtain⟨rfl,rfl⟩:=ad (aa ht);exact fun c nx=>⟨_,[id],Od (z:=sd vt) e3 hkt k3 hz hv,⟨_,rfl,_,_,rfl,J6 c5 c6,_,_,rfl,ed rfl ⟨rfl,rfl⟩,rfl⟩,⟨trivial,trivial,trivial⟩,fun i hi=>hi⟩
   .simp at ht
  .simp at ht
 .simp at ht
end
end Go.Ev
namespace Go.Fl
open Ieee
section
variable(f:Format)
end
section
variable{f:Format}
end
end Go.Fl
namespace Go.Ev
section
variable{h:H2}{n:Nat}{h1:bH}{β:Type}
theorem aO{α:Type}{c:Bool}{a:Option α}{r:α}(h:(bif c then a else none)=some r):c=true/\a=some r:=by cases c with|true=>exact⟨rfl,h⟩|false=>simp at h
theorem wd{u:fJ}{i:Nat}(hu:∀p∈u,p.1≠i):aC (u++h1) i=aC h1 i:=by induction u with|nil=>rfl|cons p u ih=>obtain⟨a,b⟩:=p;rw[aU,eM,if_neg (hu _ (cn ..)),ih fun p hp=>hu p (aA _ hp)]
theorem tP.EI{s s':S2}{x:TV}{u:fJ}{aD l:List Nat}{m:Nat}{v:V}(W:List Nat)(hr:HR s.next h1 s.heap)(eV:lN s.next s.heap s'.heap)(he:s'.dO=s.dO)(hg:s'.gh=s.gh)(hm:m<=s'.next)(hle:s.next<=s'.next)(hl:∀i∈aD,i∈l)
  (hwo:s'.wo=W++s.wo) (hu:∀p∈u,p.1∈W) (hW:∀id,id∉W->fO s'.heap id=fO s.heap id) (hob:∀i∈W,∀o,fO s'.heap i=some o->i<s'.next/\yv s'.heap o (aC (u++h1) i)/\Ha s'.next s'.heap o)
  (hx:gG s'.heap v x) (hk:fw s'.next s'.heap v) (hnb:∀i,i<s.next->fO s.heap i=none->fO s'.heap i=none):tP s s' h1 x u aD m v l:=by
 refine⟨hx,hk,⟨fun i o ho=>?_⟩,eV,he,hg,hm,hle,hl,hnb,W,hwo,hu,hW⟩;by_cases hi:i∈W
 .exact hob i hi o ho
 .rw [hW i hi]at ho;obtain⟨a,b,c⟩:=hr.ob i o ho;refine⟨by omega,?_,sB hle eV c⟩;rw[wd (u:=u) (i:=i) fun p hp e=>hi (e▸hu p hp)];exact sC eV c b
def zy(h1:bH)(kk:K)(xs:List TV)(s:S2)(k:V->S2->List Nat->Option β)(z:β):Prop:=∃v s' l,k v s' l=some z/\∀c:Call,∃x u aD m,cQ c kk (xs.map some) h1 s.next=some (x,u,aD,m)/\tP s s' h1 x u aD m v l
variable{s:S2}{k:V->S2->List Nat->Option β}{z:β}
theorem zy.pure{kk:K}{xs:List TV}{v:V}{x:TV}(hr:HR s.next h1 s.heap)(hz:k v s []=some z)(he:∀c:Call,cQ c kk (xs.map some) h1 s.next=some (x,[],[],s.next))(hx:gG s.heap v x)(hk:fw s.next s.heap v):zy h1 kk xs s k z:=⟨v,s,[],hz,fun c=>⟨x,[],[],s.next,he c,tP.pure hr hx hk fun i hi=>by simp at hi⟩⟩
theorem qa{t:Ty}(h:Cq t=true):kV t=true/\0<bE t:=by simpa[Cq]using h
theorem zy.new{kk:K}{xs:List TV}{v:V}{x:TV}{o:O}{b:Option Ob}{l aD:List Nat}(hr:HR s.next h1 s.heap)(hz:k v (j9 s o) l=some z)(he:∀c:Call,cQ c kk (xs.map some) h1 s.next=some (x,[(s.next,b)],aD,s.next+1))
  (hb:yv ((s.next,some o)::s.heap) o b) (hko:Ha (s.next+1) ((s.next,some o)::s.heap) o) (hx:gG ((s.next,some o)::s.heap) v x) (hk:fw (s.next+1) ((s.next,some o)::s.heap) v) (hl:∀i∈aD,i∈l):zy h1 kk xs s k z:=
 ⟨v,_,l,hz,fun c=>⟨x,_,aD,_,he c,tP.new hr (.inl rfl) (fun _=>hb) hko hx hk hl (au _)⟩⟩
theorem zy.M_{kk:K}{xs:List TV}{v:V}{x:TV}{id:Nat}{o o':O}{b:Option Ob}{l aD:List Nat}(hr:HR s.next h1 s.heap)(ho:fO s.heap id=some o)(hs:Cs o o')(hz:k v (e9 s id (some o')) l=some z)(he:∀c:Call,cQ c kk (xs.map some) h1 s.next=some (x,[(id,b)],aD,s.next))
  (hb:yv ((id,some o')::s.heap) o' b) (hko:Ha s.next ((id,some o')::s.heap) o') (hx:gG ((id,some o')::s.heap) v x) (hk:fw s.next ((id,some o')::s.heap) v) (hl:∀i∈aD,i∈l):zy h1 kk xs s k z:=
 ⟨v,_,l,hz,fun c=>⟨x,_,aD,_,he c,tP.M_ hr ho hs hb hko hx hk hl⟩⟩
theorem tJ(id:Nat)(o:Option O)(h:H2):fO ((id,o)::h) id=o:=by rw[eD,if_pos rfl]
theorem v_{t:Ty}{s:Sl (El t)}{v nx:Nat}:gG ((nx,some (.ar t s v))::h) (.so nx) (.c (mQ (bE t) (aT t) nx s)):=cz (ed rfl ⟨_,rfl,fun c' hc'=>by rw[tJ]at hc';exact aa hc',Bz⟩)
theorem B4{x:V}{y:TV}{sz:Nat}{lo hi:Option Int}{m:Int}{q:V->Option β}(hr:HR n h1 h)(hx:gG h x y)(hk:fw n h x)(ha:iB h x=true)(hm:FR h x=some m)(hz:tW sz h x (lo.getD 0) (hi.getD m) q=some z):
  ∃v c c',y=.c c/\q v=some z/\fT false sz c lo hi=some c'/\gG h v (.c c')/\fw n h v:=by
 have iO:∀(id:Nat)(t:Ty)(w:Sl (El t))(ver:Nat),x=.so id->(fO h id=some (.ar t w ver)\/fO h id=some (.im t w ver))->(bif bE t==sz then(qr w.l (lo.getD 0) (hi.getD m)).bind fun y=>q (.sb id ver (lo.getD 0).toNat t (w.to y))else none)=some z->
   ∃v c c',y=.c c/\q v=some z/\fT false sz c lo hi=some c'/\gG h v (.c c')/\fw n h v:=by
  rintro id t w ver rfl ho hz;obtain⟨h2,hz2⟩:=aO hz;obtain rfl:bE t=sz:=by simpa using h2
  obtain⟨r,hr',hz3⟩:=rF hz2;have e:=si hx (mO ho);have hm':m=w.l.length:=by simp only[FR,tZ]at hm;rcases ho with ho|ho<;>(rw[ho]at hm;exact(aa hm).symm)
  subst hm';refine⟨_,_,zO id (lo.getD 0).toNat t (w.to r),e,hz3,?_,?_,hk,?_⟩
  .cases w with|nil=>exact Mu hr'|mk l=>exact Ss (enc:=aT t) hr'
  .exact cz (ed rfl ⟨_,rfl,fun _=>rfl,Kr⟩)
  .intro u s' v' ho'
   have e2:PA u s'=PA t w/\v'=ver:=by
    rcases ho with ho|ho<;>rcases ho' with ho'|ho'<;>(rw[ho]at ho';simp at ho')
    all_goals
     obtain⟨rfl,e,rfl⟩:=ho';cases eq_of_heq e;exact⟨rfl,rfl⟩
   obtain⟨e2,rfl⟩:=e2;obtain⟨rfl,e2⟩:=kj e2;cases e2;refine⟨au _,fun _=>⟨rfl,?_⟩⟩;cases s' with|nil=>trivial|mk l=>obtain⟨h3,h4⟩:=QT (enc:=aT u) hr';simp only[aN]at h3;refine⟨h3,?_⟩;simpa using h4
 cases x with
 |x t v=>
  cases t with
  |sl t=>
   simp only[tW]at hz;obtain⟨h2,hz2⟩:=aO hz;obtain rfl:bE t=sz:=by simpa using h2
   obtain⟨r,hr',hz3⟩:=rF hz2;have hm':m=v.l.length:=by simpa[FR,tZ]using hm.symm
   subst hm';refine⟨_,_,_,xN hx,hz3,QR hr',cz (ed rfl ⟨?_,rfl⟩),trivial⟩;obtain⟨_,⟨hd,_⟩,_⟩:=oP (v:=.x (.sl t) v) trivial hx;exact hd
  |_=>simp[tW]at hz
 |so id=>
  simp only[tW]at hz;split at hz
  .rename_i ho;exact iO id _ _ _ rfl (.inl ho) hz
  .rename_i ho;exact iO id _ _ _ rfl (.inr ho) hz
  .simp at hz
 |sb id ver off t v=>
  simp only[tW]at hz;obtain⟨h2,hz2⟩:=aO hz;obtain rfl:bE t=sz:=by simpa using h2
  obtain⟨r,hr',hz3⟩:=rF hz2;have hm':m=v.l.length:=by simpa[FR,tZ]using hm.symm
  subst hm';refine⟨_,_,zO id (off+(lo.getD 0).toNat) t (v.to r),qd hx ha,hz3,?_,cz (ed rfl ⟨_,rfl,fun _=>rfl,Kr⟩),hk.1,?_⟩
  .cases v with|nil=>exact Mu hr'|mk l=>obtain⟨h3,rfl⟩:=nT.1 hr';simp only[Sl.l]at h3;simp only[zO,fT,Bool.false_eq_true,if_false,Sl.to,Sl.l,aN];rw[if_pos ⟨trivial,h3⟩];simp;omega
  .intro u s' v' ho;obtain⟨h3,h4⟩:=hk.2 u s' v' ho;refine⟨h3,fun e=>?_⟩;obtain⟨h5,h6⟩:=h4 e;refine⟨h5,?_⟩;cases s' with
   |nil=>cases v<;>first|trivial|exact h6.elim
   |mk l=>
    cases v with
    |nil=>exact h6.elim
    |mk w=>
     obtain⟨h7,h8⟩:=h6;obtain⟨h9,rfl⟩:=nT.1 hr';simp only[Sl.l]at h9;show off+(lo.getD 0).toNat+((w.drop (lo.getD 0).toNat).take _).length<=l.length/\((l.map (aT u)).drop (off+(lo.getD 0).toNat)).take ((w.drop (lo.getD 0).toNat).take _).length=((w.drop (lo.getD 0).toNat).take _).map (aT t);generalize hA:(lo.getD 0).toNat=A;generalize hB:((hi.getD (Sl.l (Sl.mk w)).length).toNat-A)=B;have hle:A+B<=w.length:=by subst hA hB;simp only[Sl.l];omega
     have hlen:((w.drop A).take B).length=B:=by simp;omega
     refine⟨by omega,?_⟩;rw[hlen,g_,gy,<-h8,List.drop_take,dv,List.take_take];congr 1;omega
 |nl k=>
  cases k with
  |zero=>
   simp only[tW]at hz;obtain⟨r,hr',hz3⟩:=rF hz;have hm':m=0:=by simpa[FR]using hm.symm
   subst hm';exact⟨_,_,_,vL hx,hz3,Mu (α:=Unit) (by simpa[Sl.l]using hr'),cz (ed rfl rfl),trivial⟩
  |succ k=>simp[tW]at hz
 |_=>simp[tW]at hz
theorem Hm:∀(p:pR)(t a:Ty)(l m:Nat),qT t p=some (.ar l a)->m<l->II t p->II t (p++[.ix m])/\mM t (p++[.ix m])=mM t p+m*bE a:=by
 intro p;induction p with
 |nil=>
  intro t a l m h1 hm _;have e:qT t []=some t:=by cases t<;>rfl
  obtain rfl:t=.ar l a:=by rw[e]at h1;exact aa h1
  refine⟨⟨hm,by cases a<;>trivial⟩,?_⟩;simp only[bh,mM];cases a<;>simp[mM]
 |cons q p ih=>
  intro t a l m h1 hm h3;cases q with
  |fd j=>cases t with|st t=>obtain⟨b2,hb,h3⟩:=h3;simp only[qT,hb]at h1;obtain⟨q1,q2⟩:=ih b2 a l m h1 hm h3;refine⟨⟨b2,hb,q1⟩,?_⟩;simp only[aU,mM,hb,q2];exact(cO _ _ _).symm|_=>exact h3.elim
  |ix k=>cases t with|ar l' t=>obtain⟨hk,h3⟩:=h3;obtain⟨q1,q2⟩:=ih t a l m h1 hm h3;refine⟨⟨hk,q1⟩,?_⟩;simp only[aU,mM,q2];exact(cO _ _ _).symm|_=>exact h3.elim
theorem Qh{id:Nat}{t u:Ty}{w:Sl (El t)}{w':Sl (El u)}{v v':Nat}(ho:fO h id=some (.ar t w v)\/fO h id=some (.im t w v))(ho':fO h id=some (.ar u w' v')\/fO h id=some (.im u w' v')):PA u w'=PA t w/\v'=v:=by
 rcases ho with ho|ho<;>rcases ho' with ho'|ho'<;>(rw[ho]at ho';simp at ho')
 all_goals
  obtain⟨rfl,e,rfl⟩:=ho';cases eq_of_heq e;exact⟨rfl,rfl⟩
theorem KW{id:Nat}{t u:Ty}{w:Sl (El t)}{w':Sl (El u)}{v v':Nat}(ho:fO h id=some (.ar t w v)\/fO h id=some (.im t w v))(ho':fO h id=some (.ar u w' v')\/fO h id=some (.im u w' v')):w'.l.length=w.l.length:=by obtain⟨e,_⟩:=Qh ho ho';obtain⟨rfl,e⟩:=kj e;cases e;rfl
theorem Pj{c:C}{t:Ty}{id m sz:Nat}{w:Sl (El t)}{i:Int}{kd:IntKind}{cl:Call}{nx:Nat}(hc:c=mQ (bE t) (aT t) id w)(hsz:bE t=sz)(hi:eX i w.l.length=some m):
  cQ cl (.indexAddr none sz) [some (.c c),some (tI kd i)] h1 nx=some (.c (.ep id m 0),[],[],nx):=by
 subst hc hsz;cases w with|nil=>exact Ly hi|mk l=>exact UC hi
theorem Sq{t:Ty}{v:El t}{x:TV}(hx:gG h (.x t v) x):kV t=true:=by obtain⟨_,⟨hd,_⟩,_⟩:=oP (v:=.x t v) trivial hx;exact hd
theorem UO{n':Nat}{t:Ty}{v:El (.ar n' t)}{x:TV}(hx:gG h (.x (.ar n' t) v) x):x=.agg ((aT (.ar n' t) v).map .d):=by obtain⟨cs,⟨_,rfl⟩,h2,_⟩:=oP (v:=.x (.ar n' t) v) trivial hx;exact h2 rfl
theorem Es{n' m:Nat}{t:Ty}(v:El (.ar n' t))(hm:m<n'):m*bE t+bE t<=(aT (.ar n' t) v).length/\((aT (.ar n' t) v).drop (m*bE t)).take (bE t)=aT t (gt v.1 m):=by have hl:v.1.length=n':=v.2;refine⟨?_,y8 (bI t) v.1 m (by omega)⟩;rw[bI];show _<=n'*bE t;have:(m+1)*bE t<=n'*bE t:=Nat.mul_le_mul_right _ hm;rw[bO,Nat.one_mul]at this;exact this
theorem LA{x:V}{y:TV}{sz:Nat}{i:Int}{kd:IntKind}
  (hz:(match x with
  |.x (.sl t) v=>bif bE t==sz then(eX i v.l.length).bind fun m=>k (.pt t (gt v.l m)) s []else none
  |.so id=>(match tZ s.heap (.so id)with|some ⟨t,v,_⟩=>bif bE t==sz then(eX i v.l.length).bind fun m=>k (.ep id m t []) s []else none|none=>none)
  |.sb id _ lo t v=>bif bE t==sz then(eX i v.l.length).bind fun m=>k (.ep id (lo+m) t []) s []else none
  |.sr id=>(match fO s.heap id with|some (.rw t v _)=>bif 1==sz then(eX i v.l.length).bind fun m=>k (.ep id m (.sl t) []) s []else none|_=>none)
  |_=>none)=some z)
  (hr:HR s.next h1 s.heap) (hx:gG s.heap x y) (hk:fw s.next s.heap x) (ha:iB s.heap x=true):zy h1 (.indexAddr none sz) [y,tI kd i] s k z:=by
 cases x with
 |x t v=>
  cases t with
  |sl t=>
   simp only at hz;obtain⟨h2,hz2⟩:=aO hz;obtain⟨m,hm,hz3⟩:=rF hz2;obtain rfl:bE t=sz:=by simpa using h2
   rw[xN hx];exact .pure hr hz3 (x:=.c (.d (.pt (aT t (gt (Sl.l v) m))))) (fun _=>R9 hm) (cz (ed rfl ⟨Sq (t:=.sl t) hx,rfl⟩)) trivial
  |_=>simp at hz
 |so id=>
  simp only at hz;split at hz
  .rename_i t v l hs;obtain⟨h2,hz2⟩:=aO hz;obtain⟨m,hm,hz3⟩:=rF hz2;obtain⟨ver,ho,_⟩:=vQ hs;simp only at ho;rw[si hx (mO ho)];refine .pure hr hz3 (x:=.c (.ep id m 0)) (fun _=>Pj rfl (by simpa using h2) hm) (cz (ed rfl (by cases t<;>rfl))) ⟨hk,by cases t<;>trivial,fun u w' v' ho'=>?_,fun u w' v' ho'=>?_⟩
   .have:=(gA.1 hm).2;rw[KW ho ho'];exact this
   .rcases ho with ho|ho<;>rw[ho]at ho'<;>cases ho'
  .simp at hz
 |sr id=>
  simp only at hz;split at hz
  .rename_i t v ln ho;obtain⟨h2,hz2⟩:=aO hz;obtain⟨m,hm,hz3⟩:=rF hz2;rw[J8 hx (ss ho)];refine .pure hr hz3 (x:=.c (.ep id m 0)) (fun _=>Pj (t:=.sl t) rfl (Eq.trans (rfl:bE (.sl t)=1) (beq_iff_eq.1 h2)) hm) (cz (ed rfl rfl)) ⟨hk,trivial,fun u w' v' ho'=>?_,fun u w' v' ho'=>?_⟩
   .rw [ho]at ho';rcases ho' with ho'|ho'<;>cases ho'
   .rw [ho]at ho';cases ho';exact(gA.1 hm).2
  .simp at hz
 |sb id ver lo t v=>
  simp only at hz;obtain⟨h2,hz2⟩:=aO hz;obtain⟨m,hm,hz3⟩:=rF hz2;obtain rfl:bE t=sz:=by simpa using h2
  rw[qd hx ha];have hm2:=(gA.1 hm).2;cases v with
  |nil=>exact Ly hm
  |mk w=>refine .pure hr hz3 (x:=.c (.ep id (lo+m) 0)) (fun _=>R_ (l:=w) hm) (cz (ed rfl (by cases t<;>rfl))) ⟨hk.1,by cases t<;>trivial,fun u w' v' ho'=>?_,fun u w' v' ho'=>by obtain⟨u0,s0,ho⟩:=nV (h:=s.heap) (id:=id) (ver:=ver) (dN.1 ha).2;rcases ho with ho|ho<;>rw[ho]at ho'<;>cases ho'⟩;obtain⟨u0,s0,ho⟩:=nV (h:=s.heap) (id:=id) (ver:=ver) (dN.1 ha).2;obtain⟨_,h4⟩:=hk.2 u0 s0 ver ho;obtain⟨_,h6⟩:=h4 rfl;rw[KW ho ho'];cases s0 with|nil=>exact h6.elim|mk l=>have:=h6.1;simp only[Sl.l]at hm2|-;omega
 |_=>simp at hz
theorem Lz{x:V}{y:TV}{n0 sz:Nat}{i:Int}{kd:IntKind}
  (hz:(match x with
  |.op id t p=>(match qT t p with|some (.ar n' u)=>bif(n'==n0)&&(bE u==sz)then(eX i n0).bind fun m=>k (.op id t (p++[.ix m])) s []else none|_=>none)
  |.ep id q t p=>(match qT t p with|some (.ar n' u)=>bif(n'==n0)&&(bE u==sz)then(eX i n0).bind fun m=>k (.ep id q t (p++[.ix m])) s []else none|_=>none)
  |.pt (.ar n' u) v=>bif(n'==n0)&&(bE u==sz)then(eX i n0).bind fun m=>k (.pt u (gt v.1 m)) s []else none
  |_=>none)=some z)
  (hr:HR s.next h1 s.heap) (hx:gG s.heap x y) (hk:fw s.next s.heap x):zy h1 (.indexAddr (some n0) sz) [y,tI kd i] s k z:=by
 cases x with
 |op id t p=>
  simp only at hz;split at hz
  .rename_i n' u hu;obtain⟨h2,hz2⟩:=aO hz;obtain⟨m,hm,hz3⟩:=rF hz2;simp only[ai,beq_iff_eq]at h2;obtain⟨rfl,rfl⟩:=h2;obtain⟨rfl,hm2⟩:=gA.1 hm;obtain⟨q1,q2⟩:=Hm p t u n' m hu hm2 hk.2;rw[vK hx];refine .pure hr hz3 (x:=.c (.op id (mM t p+m*bE u))) (fun _=>?_) (cz (ed rfl ?_)) ⟨hk.1,q1⟩
   .simp only[mb,cQ,cD,iJ];rw[if_pos ⟨by omega,by omega⟩];simp
   .show [_]=[_];rw[q2]
  .simp at hz
 |ep id q t p=>
  simp only at hz;split at hz
  .rename_i n' u hu;obtain⟨h2,hz2⟩:=aO hz;obtain⟨m,hm,hz3⟩:=rF hz2;simp only[ai,beq_iff_eq]at h2;obtain⟨rfl,rfl⟩:=h2;obtain⟨rfl,hm2⟩:=gA.1 hm;obtain⟨q1,q2⟩:=Hm p t u n' m hu hm2 hk.2.1;rw[sj hx];refine .pure hr hz3 (x:=.c (.ep id q (mM t p+m*bE u))) (fun _=>?_) (cz (ed rfl ?_)) ⟨hk.1,q1,hk.2.2⟩
   .simp only[mb,cQ,cD,iJ];rw[if_pos ⟨by omega,by omega⟩];simp
   .show [_]=[_];rw[q2]
  .simp at hz
 |pt t v=>cases t with|ar n' u=>simp only at hz;obtain⟨h2,hz2⟩:=aO hz;obtain⟨m,hm,hz3⟩:=rF hz2;simp only[ai,beq_iff_eq]at h2;obtain⟨rfl,rfl⟩:=h2;obtain⟨rfl,hm2⟩:=gA.1 hm;obtain⟨hd,rfl⟩:=xO hx;obtain⟨a1,a2⟩:=Es v hm2;refine .pure hr hz3 (x:=.c (.d (.pt (aT u (gt v.1 m))))) (fun _=>?_) (cz (ed rfl ⟨hd,rfl⟩)) trivial;simp only[mb,cQ,cD,iJ];rw[if_pos ⟨by omega,by omega⟩];simp only[d_];rw[if_pos a1,a2]|_=>simp at hz
 |_=>simp at hz
end
section
variable{h:H2}{n:Nat}{h1:bH}{β:Type}{s:S2}{k:V->S2->List Nat->Option β}{z:β}
theorem B_{t u:Ty}{m:Sl (El t)}{m':Sl (El u)}(hc:gM (.sl t) (.sl u) m=some m'):t=u/\m'.l.map (aT u)=m.l.map (aT t):=by obtain⟨e,rfl⟩:=du hc;cases e;exact⟨rfl,rfl⟩
theorem PZ{c:C}{t:Ty}{id sz:Nat}{w:Sl (El t)}{ver:Nat}(hr:HR n h1 h)(hc:c=mQ (bE t) (aT t) id w)(hsz:bE t=sz)(ho:fO h id=some (.ar t w ver)\/fO h id=some (.im t w ver)):
  ∃aD,ji sz h1 c=some (w.l.map (aT t),aD)/\∀i∈aD,i=id:=by
 subst hc hsz;cases w with
 |nil=>exact⟨[],rfl,fun i hi=>by simp at hi⟩
 |mk l=>
  refine⟨[id],?_,fun i hi=>by simpa using hi⟩;rcases ho with ho|ho
  .have hb:=(hr.ob id _ ho).2.1.2.2 l rfl;simp only[mQ,ji,hb];rw[if_pos ⟨trivial,by simp⟩,vr];rfl
  .have hb:=(hr.ob id _ ho).2.1.2.2 l rfl;simp only[mQ,ji,hb];rw[if_pos ⟨trivial,by simp⟩,vr];rfl
theorem NJ{id lo ver sz:Nat}{t:Ty}{r:Sl (El t)}(hr:HR n h1 h)(hk:fw n h (.sb id ver lo t r))(ha:iB h (.sb id ver lo t r)=true)(hsz:bE t=sz):
  ∃aD,ji sz h1 (zO id lo t r)=some (r.l.map (aT t),aD)/\∀i∈aD,i=id:=by
 subst hsz;obtain⟨u,s0,ho⟩:=nV (h:=h) (id:=id) (ver:=ver) (dN.1 ha).2;obtain⟨_,h4⟩:=hk.2 u s0 ver ho;obtain⟨h5,h6⟩:=h4 rfl;cases r with
 |nil=>exact⟨[],rfl,fun i hi=>by simp at hi⟩
 |mk w=>
  cases s0 with
  |nil=>exact h6.elim
  |mk l=>
   refine⟨[id],?_,fun i hi=>by simpa using hi⟩
   have hb:aC h1 id=some (.aM (bE u) (l.map (aT u)))\/aC h1 id=some (.qH (bE u) (l.map (aT u))):=by
    rcases ho with ho|ho
    .exact .inl ((hr.ob id _ ho).2.1.2.2 l rfl)
    .exact .inr ((hr.ob id _ ho).2.1.2.2 l rfl)
   rcases hb with hb|hb
   .simp only[zO,ji,hb];rw[if_pos ⟨trivial,by simpa using h6.1⟩];rw[aN,h6.2];rfl
   .simp only[zO,ji,hb];rw[if_pos ⟨trivial,by simpa using h6.1⟩];rw[aN,h6.2];rfl
theorem G0{x:V}{y:TV}{t0 t:Ty}{m:Sl (El t)}{l:List Nat}{sz:Nat}(hr:HR n h1 h)(hx:gG h x y)(hk:fw n h x)(ha:iB h x=true)(hs:Ko t0 h x=some ⟨t,m,l⟩)(hsz:bE t=sz):
  ∃c aD,y=.c c/\ji sz h1 c=some (m.l.map (aT t),aD)/\∀i∈aD,i∈l:=by
 cases x with
 |nl j=>cases j with|zero=>simp only[Ko]at hs;obtain⟨rfl,e⟩:=kj (aa hs);obtain⟨rfl,rfl⟩:=ad (eq_of_heq e);exact⟨_,[],vL hx,rfl,fun i hi=>by simp at hi⟩|succ j=>simp[Ko,tZ]at hs
 |x u v=>cases u with|sl u=>simp only[Ko,tZ]at hs;obtain⟨rfl,e⟩:=kj (aa hs);obtain⟨rfl,rfl⟩:=ad (eq_of_heq e);subst hsz;exact⟨_,[],xN hx,NI,fun i hi=>by simp at hi⟩|_=>simp[Ko,tZ]at hs
 |so id=>obtain⟨ver,ho,e⟩:=vQ (h:=h) (id:=id) hs;obtain rfl:l=[id]:=e;obtain⟨aD,q1,q2⟩:=PZ hr rfl hsz ho;exact⟨_,aD,si hx (mO ho),q1,fun i hi=>by simpa using q2 i hi⟩
 |sb id ver lo u r=>simp only[Ko,tZ]at hs;obtain⟨rfl,e⟩:=kj (aa hs);obtain⟨rfl,rfl⟩:=ad (eq_of_heq e);obtain⟨aD,q1,q2⟩:=NJ hr hk ha hsz;exact⟨_,aD,qd hx ha,q1,fun i hi=>by simpa using q2 i hi⟩
 |_=>simp[Ko,tZ]at hs
def t8(s:S2):Option Nat->S2
 |none=>s
 |some id=>e9 s id none
theorem Ch{mq:Option Nat}{t:Ty}{w:Sl (El t)}{u:fJ}{aD l:List Nat}{m:Nat}(hr:HR s.next h1 s.heap)(hkl:∀id,mq=some id->id<s.next)(hd:Cq t=true)(hu:∀p∈u,p.1=s.next\/mq=some p.1)(hl:∀i∈aD,i∈l)(hm:m<=s.next+1)
  (hb:∀l,w=.mk l->aC (u++h1) s.next=some (.aM (bE t) (l.map (aT t)))) {x:TV} (hx:x=.c (mQ (bE t) (aT t) s.next w)):tP s (j9 (t8 s mq) (.ar t w 0)) h1 x u aD m (.so s.next) l:=by
 have hnx:(t8 s mq).next=s.next:=by cases mq<;>rfl
 have hh:(j9 (t8 s mq) (.ar t w 0)).heap=(s.next,some (.ar t w 0))::(t8 s mq).heap:=by simp only[j9,hnx]
 have hfo:∀i,fO (j9 (t8 s mq) (.ar t w 0)).heap i=if s.next=i then some (.ar t w 0)else if mq=some i then none else fO s.heap i:=by intro i;rw[hh,eD];cases mq with|none=>simp[t8]|some id=>simp only[t8,e9,eD,bl]
 have hnn:(j9 (t8 s mq) (.ar t w 0)).next=s.next+1:=by simp only[j9,hnx]
 refine tP.EI (s.next::mq.toList) hr ⟨fun i o' hi ho=>?_⟩ ?_ ?_ ?_ ?_ hl ?_ ?_ ?_ ?_ ?_ ?_ (fun i hi h=>by rw[hfo,if_neg (by omega)];split<;>first|rfl|exact h)
 .rw [hfo,if_neg (by omega)]at ho;split at ho
  .simp at ho
  .exact .inl ⟨o',ho,Cs.refl _⟩
 .cases mq<;>rfl
 .cases mq<;>rfl
 .rw [hnn];exact hm
 .rw [hnn];omega
 .cases mq<;>simp[j9,t8,e9]
 .intro p hp;rcases hu p hp with e|e
  .simp [e]
  .simp [e]
 .intro i hi;rw[hfo,if_neg (fun e=>hi (by simp[e])),if_neg (fun e=>hi (by simp[e]))]
 .intro i hi o ho;rw[hfo]at ho;split at ho
  .rename_i e;subst e;obtain rfl:=aa ho;obtain⟨h3,h4⟩:=qa hd;exact⟨by rw[hnn];omega,⟨h3,h4,hb⟩,trivial⟩
  .rename_i e;split at ho
   .simp at ho
   .rename_i e2;rcases aP.1 hi with hi|hi
    .exact absurd hi.symm e
    .exact absurd (by simpa using hi) e2
 .rw [hx,hh,show s.next=s.next from rfl];exact v_
 .rw [hnn];exact aZ _
theorem Ji{sz:Nat}{c:C}{new:List (List D)}{aD:List Nat}(hx:ji sz h1 c=some (new,aD))(hl:new.length<=2147483648){nx:Nat}{cl:Call}:
  cQ cl (.append sz) [some (.c (.d (.lit (.slice none 0 0)))),some (.c c)] h1 nx=if new=[]then some (.c (.d (.lit (.slice none 0 0))),[],aD,nx)else some (.c (.fk sz nx 0 new.length),[(nx,some (.aM sz new))],aD,nx+1):=by
 simp only[cQ,ou,hx];rw[if_pos (by simpa[DH]using hl)];cases new<;>simp
theorem vz{mq:Option Nat}{t:Ty}{xs r:List (El t)}{sz:Nat}{c:C}{aD l:List Nat}(hr:HR s.next h1 s.heap)(hkl:∀id,mq=some id->id<s.next)(hd:Cq t=true)(hsz:bE t=sz)(hx:ji sz h1 c=some (xs.map (aT t),aD))(hc:iF ([]++xs)=some r)
  (hl:∀i∈aD,i∈l) (hz:k (.so s.next) (j9 (t8 s mq) (.ar t (kL Sl.nil xs r) 0)) l=some z):zy h1 (.append sz) [.c (.d (.lit (.slice none 0 0))),.c c] s k z:=by
 subst hsz;obtain⟨rfl,hlen⟩:=wE.1 hc;refine⟨_,_,_,hz,fun cl=>?_⟩;simp only[aB,aW];rw[Ji hx (by simpa using hlen)];cases xs with|nil=>exact⟨_,_,_,_,rfl,Ch hr hkl hd (fun p hp=>by simp at hp) hl (bN _) (fun l e=>by cases e) rfl⟩|cons y ys=>refine⟨_,_,_,_,if_neg (by simp),Ch hr hkl hd (fun p hp=>by simp at hp;simp[hp]) hl (au _) (fun l e=>?_) rfl⟩;simp only[kL,bh]at e;cases e;rw[bn,eM,if_pos rfl]
theorem HK{t:Ty}{w xs r:List (El t)}{sz id off:Nat}{ao:List (List D)}{c:C}{aD l:List Nat}(hr:HR s.next h1 s.heap)(hid:id<s.next)(hd:Cq t=true)(hsz:bE t=sz)(hl1:aC h1 id=some (.aM sz ao))(hle:off+w.length<=ao.length)(hro:ao.length<=off+(w.length+xs.length))(he:(ao.drop off).take w.length=w.map (aT t))
  (hx:ji sz h1 c=some (xs.map (aT t),aD)) (hc:iF (w++xs)=some r) (hl:∀i∈id::aD,i∈l) (hz:k (.so s.next) (j9 (e9 s id none) (.ar t (kL (.mk w) xs r) 0)) l=some z):
  zy h1 (.append sz) [.c (.fk sz id off (w.map (aT t)).length),.c c] s k z:=by
 subst hsz;obtain⟨rfl,hlen⟩:=wE.1 hc;have ea:kL (.mk w) xs (w++xs)=.mk (w++xs):=by cases xs<;>rfl
 rw[ea]at hz;refine⟨_,_,_,hz,fun cl=>⟨.c (.fk (bE t) s.next 0 ((w++xs).map (aT t)).length),[(id,none),(s.next,some (.aM (bE t) ((w++xs).map (aT t))))],id::aD,s.next+1,?_,?_⟩⟩
 .simp only[aB,aW,cQ,ou,hx,hl1];simp only[aN,av]at hlen|-;rw[if_pos ⟨trivial,by omega,by simpa[DH]using hlen⟩,he,<-gO,List.drop_eq_nil_of_le (by omega),List.append_nil]
 .refine Ch (mq:=some id) hr (fun i e=>by cases e;exact hid) hd (fun p hp=>?_) hl (au _) (fun l e=>?_) rfl
  .simp only[aP,gf,or_false]at hp;rcases hp with rfl|rfl<;>simp
  .cases e;rw[aU,eM,if_neg (by omega),bn,eM,if_pos rfl]
theorem Eu{a x:V}{ya yx:TV}{t0:Ty}{sz:Nat}
  (hz:(match Ko t0 s.heap x with
  |some ⟨t,m,aD⟩=>bif(bE t==sz)&&Cq t then(match a with
   |.nl 0=>(iF ([]++m.l)).bind fun r=>k (.so s.next) (j9 s (.ar t (kL Sl.nil m.l r) 0)) aD
   |.x (.sl _) v=>bif Sl.fN v then((iF ([]++m.l)).bind fun r=>k (.so s.next) (j9 s (.ar t (kL Sl.nil m.l r) 0)) aD)else none
   |.so id=>(match fO s.heap id with
    |some (.ar u v _)=>(match gM (.sl t) (.sl u) m with
     |some m=>(iF (v.l++m.l)).bind fun r=>k (.so s.next) (j9 (e9 s id none) (.ar u (kL v m.l r) 0)) (id::aD)
     |none=>none)
    |_=>none)
   |.sb id _ lo u v=>(match fO s.heap id,gM (.sl t) (.sl u) m with
    |some (.ar _ s0 _),some m=>bif Nat.ble s0.l.length (lo+(v.l.length+m.l.length))then((iF (v.l++m.l)).bind fun r=>k (.so s.next) (j9 (e9 s id none) (.ar u (kL v m.l r) 0)) (id::aD))else none
    |_,_=>none)
   |_=>none)else none
  |none=>none)=some z)
  (hr:HR s.next h1 s.heap) (ha1:gG s.heap a ya) (ha2:fw s.next s.heap a) (ha3:iB s.heap a=true) (hx:gG s.heap x yx) (hk:fw s.next s.heap x) (ha:iB s.heap x=true):zy h1 (.append sz) [ya,yx] s k z:=by
 split at hz
 .rename_i t m l hs;obtain⟨h2,hz2⟩:=aO hz;simp only[ai,beq_iff_eq]at h2;obtain⟨hsz,hd⟩:=h2;obtain⟨c,aD,rfl,q1,q2⟩:=G0 hr hx hk ha hs hsz;clear hz;cases a with
  |nl j=>cases j with|zero=>obtain⟨r,hc,hz3⟩:=rF hz2;rw[vL ha1];exact vz (mq:=none) hr (fun _ e=>by cases e) hd hsz q1 hc q2 hz3|succ j=>simp at hz2
  |x u v=>
   cases u with
   |sl u=>obtain⟨hnil,hz3⟩:=aO hz2;obtain⟨r,hc,hz4⟩:=rF hz3;cases v with|mk=>cases hnil|nil=>obtain⟨cc,rfl,hcc⟩:=jp (v:=.x (.sl u) Sl.nil) ha1 rfl;obtain rfl:cc=Dt 0:=(List.cons.inj hcc.2).1;exact vz (mq:=none) hr (fun _ e=>by cases e) hd hsz q1 hc q2 hz4
   |_=>simp at hz2
  |so id=>
   simp only at hz2;split at hz2
   .rename_i u v ver ho;split at hz2
    .rename_i m' hm;obtain⟨rfl,e⟩:=B_ hm;obtain⟨r,hc,hz3⟩:=rF hz2;rw[si ha1 (mO (.inl ho))];rw[<-e]at q1;cases v with
     |nil=>exact vz (mq:=some id) hr (fun _ e=>by cases e;exact ha2) hd hsz q1 hc (fun i hi=>aA _ (q2 i hi)) hz3
     |mk w=>
      have hb:=(hr.ob id _ ho).2.1.2.2 w rfl;subst hsz;refine HK (w:=w) hr ha2 hd rfl hb (by simp) (by simp only[aN];omega) (by rw[<-aN (f:=aT t)];exact vr) q1 hc (fun i hi=>?_) hz3;rcases aP.1 hi with rfl|hi
      .exact cn ..
      .exact aA _ (q2 i hi)
    .simp at hz2
   .simp at hz2
  |sb id ver lo u v=>
   simp only at hz2;split at hz2
   .rename_i u0 s0 v0 m' ho hm;obtain⟨rfl,e⟩:=B_ hm;obtain⟨hgd,hz2b⟩:=aO hz2;obtain⟨r,hc,hz3⟩:=rF hz2b;rw[qd ha1 ha3];rw[<-e]at q1;cases v with
    |nil=>exact vz (mq:=some id) hr (fun _ e=>by cases e;exact ha2.1) hd hsz q1 hc (fun i hi=>aA _ (q2 i hi)) hz3
    |mk w=>
     obtain⟨u1,s1,ho1⟩:=nV (h:=s.heap) (id:=id) (ver:=ver) (dN.1 ha3).2;obtain⟨_,h4⟩:=ha2.2 u1 s1 ver ho1;obtain⟨h5,h6⟩:=h4 rfl
     have ho2:fO s.heap id=some (.ar u1 s1 ver):=by
      rcases ho1 with ho1|ho1
      .exact ho1
      .rw [ho]at ho1;simp at ho1
     cases s1 with
     |nil=>exact h6.elim
     |mk l1=>
      have hb:=(hr.ob id _ ho2).2.1.2.2 l1 rfl;subst hsz;rw[h5]at hb
      refine HK (w:=w) hr ha2.1 hd rfl hb (by simpa using h6.1) (by
       rw[ho2]at ho;obtain⟨rfl,e2,_⟩:u1=u0/\_:=by simpa using ho
       cases eq_of_heq e2;have:=jb hgd;simpa[Sl.l]using this) h6.2 q1 hc (fun i hi=>?_) hz3
      rcases aP.1 hi with rfl|hi
      .exact cn ..
      .exact aA _ (q2 i hi)
   .simp at hz2
  |_=>simp at hz2
 .simp at hz
end
section
variable{h:H2}{n:Nat}{h1:bH}{β:Type}{s:S2}{k:V->S2->List Nat->Option β}{z:β}
theorem GO{id:Nat}{o o':O}{u:fJ}{x:TV}{v:V}{aD l:List Nat}(hr:HR s.next h1 s.heap)(ho:fO s.heap id=some o)(hs:Cs o o')(hu:∀p∈u,p.1=id)(hb:yv ((id,some o')::s.heap) o' (aC (u++h1) id))(hko:Ha s.next ((id,some o')::s.heap) o')
  (hx:gG ((id,some o')::s.heap) v x) (hk:fw s.next ((id,some o')::s.heap) v) (hl:∀i∈aD,i∈l):tP s (e9 s id (some o')) h1 x u aD s.next v l:=by
 refine tP.EI [id] hr (lN.M_ ho hs) rfl rfl (au _) (au _) hl rfl (fun p hp=>by simp[hu p hp]) (fun i hi=>?_) (fun i hi o2 ho2=>?_) hx hk (fun i _ h=>by simp only[e9];rw[eD,if_neg (fun e=>by rw[e,h]at ho;cases ho)];exact h)
 .simp only[e9];rw[eD,if_neg fun e=>hi (by simp[e])]
 .obtain rfl:=aq.1 hi;simp only[e9,tJ]at ho2;obtain rfl:=aa ho2;exact⟨(hr.ob _ _ ho).1,hb,hko⟩
theorem rH{id ver:Nat}{t:Ty}{w w':Sl (El t)}{u:fJ}{x:TV}{v:V}{aD l:List Nat}(hr:HR s.next h1 s.heap)(ho:fO s.heap id=some (.ar t w ver))(hn:w.fN=w'.fN)(hlen:w.l.length=w'.l.length)(hu:∀p∈u,p.1=id)
  (hb:∀l,w'=.mk l->aC (u++h1) id=some (.aM (bE t) (l.map (aT t)))) (hx:∀g,gG g v x) (hk:∀n g,fw n g v) (hl:∀i∈aD,i∈l):tP s (e9 s id (some (.ar t w' (ver+1)))) h1 x u aD s.next v l:=by
 obtain⟨h2,h3,_⟩:=(hr.ob id _ ho).2.1;exact GO hr ho ⟨bN _,rfl,hn,hlen,fun e=>by omega⟩ hu ⟨h2,h3,hb⟩ trivial (hx _) (hk _ _) hl
theorem Ju{a x:V}{ya yx:TV}{t0:Ty}{sz:Nat}
  (hz:(match Ko t0 s.heap x with
  |some ⟨t,m,aD⟩=>bif bE t==sz then(match a with
   |.nl 0=>k (.x (.i .i64) (0:Int)) s aD
   |.so id=>(match fO s.heap id with
    |some (.ar u v ver)=>(match gM (.sl t) (.sl u) m with
     |some m=>k (.x (.i .i64) ((min m.l.length v.l.length:Nat):Int)) (e9 s id (some (.ar u (v.to (MB v.l 0 v.l.length m.l)) (ver+1)))) (id::aD)
     |none=>none)
    |_=>none)
   |.sb id ver lo _ v=>(match fO s.heap id with
    |some (.ar u w ver')=>(match gM (.sl t) (.sl u) m with
     |some m=>bif ver'==ver then k (.x (.i .i64) ((min m.l.length v.l.length:Nat):Int)) (e9 s id (some (.ar u (w.to (MB w.l lo v.l.length m.l)) (ver+1)))) (id::aD)else none
     |none=>none)
    |_=>none)
   |_=>none)else none
  |none=>none)=some z)
  (hr:HR s.next h1 s.heap) (ha1:gG s.heap a ya) (ha2:fw s.next s.heap a) (ha3:iB s.heap a=true) (hx:gG s.heap x yx) (hk:fw s.next s.heap x) (ha:iB s.heap x=true):zy h1 (.copy sz) [ya,yx] s k z:=by
 have hmem:∀{id:Nat}{aD l:List Nat},(∀i∈aD,i∈l)->∀i∈id::aD,i∈id::l:=fun q i hi=>by
  rcases aP.1 hi with rfl|hi
  .exact cn ..
  .exact aA _ (q i hi)
 split at hz
 .rename_i t m l hs;obtain⟨h2,hz2⟩:=aO hz;obtain rfl:bE t=sz:=by simpa using h2
  obtain⟨c,aD,rfl,q1,q2⟩:=G0 hr hx hk ha hs rfl;clear hz;cases a with
  |nl j=>cases j with|zero=>rw[vL ha1];exact⟨_,_,_,hz2,fun cl=>⟨tI .i64 0,[],aD,s.next,by simp only[aB,aW,cQ,mr,Dt,q1];rfl,tP.pure hr (xi _ _) trivial q2⟩⟩|succ j=>simp at hz2
  |so id=>
   simp only at hz2;split at hz2
   .rename_i u v ver ho;split at hz2
    .rename_i m' hm;obtain⟨rfl,e⟩:=B_ hm;rw[si ha1 (mO (.inl ho))];rw[<-e]at q1;cases v with
     |nil=>refine⟨_,_,_,hz2,fun cl=>⟨tI .i64 0,[],aD,s.next,by simp only[aB,aW,cQ,mr,mQ,q1];rfl,?_⟩⟩;exact rH hr ho rfl rfl (fun p hp=>by simp at hp) (fun l e=>by cases e) (fun g=>by simpa[Sl.l]using xi .i64 0) (fun _ _=>trivial) fun i hi=>aA _ (q2 i hi)
     |mk w=>
      have hb:=(hr.ob id _ ho).2.1.2.2 w rfl;refine⟨_,_,_,hz2,fun cl=>⟨_,_,_,_,QU hb q1,?_⟩⟩;refine rH hr ho rfl ?_ (fun p hp=>by simp at hp;simp[hp]) (fun l e=>?_) (fun g=>xi _ _) (fun _ _=>trivial) (hmem q2)
      .simp only[Sl.to,Sl.l];rw[uG (by omega)]
      .simp only[Sl.to,Sl.l]at e;cases e;rw[bn,eM,if_pos rfl];rfl
    .simp at hz2
   .simp at hz2
  |sb id ver lo u0 v=>
   simp only at hz2;split at hz2
   .rename_i u w ver' ho;split at hz2
    .rename_i m' hm;obtain⟨rfl,e⟩:=B_ hm;obtain⟨h3,hz3⟩:=aO hz2;obtain rfl:ver'=ver:=by simpa using h3
     rw[qd ha1 ha3];rw[<-e]at q1;obtain⟨_,h4⟩:=ha2.2 t w ver' (.inl ho);obtain⟨h5,h6⟩:=h4 rfl;cases v with
     |nil=>cases w with|mk w=>exact h6.elim|nil=>refine⟨_,_,_,hz3,fun cl=>⟨tI .i64 0,[],aD,s.next,by simp only[aB,aW,cQ,mr,zO,q1];rfl,?_⟩⟩;exact rH hr ho rfl rfl (fun p hp=>by simp at hp) (fun l e=>by cases e) (fun g=>by simpa[Sl.l]using xi .i64 0) (fun _ _=>trivial) fun i hi=>aA _ (q2 i hi)
     |mk v=>
      cases w with
      |nil=>exact h6.elim
      |mk w=>
       have hb:=(hr.ob id _ ho).2.1.2.2 w rfl;refine⟨_,_,_,hz3,fun cl=>⟨tI .i64 (min m'.l.length v.length:Nat),[(id,some (.aM (bE t) ((MB w lo v.length m'.l).map (aT t))))],id::aD,s.next,?_,?_⟩⟩
       .simp only[aB,aW,cQ,mr,zO,q1,hb,<-h5];rw[if_pos ⟨trivial,by simpa using h6.1⟩];simp only[Gl,aN];rfl
       .refine rH hr ho rfl ?_ (fun p hp=>by simp at hp;simp[hp]) (fun l e=>?_) (fun g=>xi _ _) (fun _ _=>trivial) (hmem q2)
        .simp only[Sl.to,Sl.l];rw[uG h6.1]
        .simp only[Sl.to,Sl.l]at e;cases e;rw[bn,eM,if_pos rfl];rfl
    .simp at hz2
   .simp at hz2
  |_=>simp at hz2
 .simp at hz
theorem CA{g:H2}:gG g (.tp .ni) (.iQ []):=⟨[],rfl,rfl⟩
theorem Gt{a:V}{ya:TV}{zz:List Value}
  (hz:(match a with
  |.sb id ver lo _ v=>(match fO s.heap id with
   |some (.ar u w ver')=>bif(ver'==ver)&&tQ (nu u) zz&&Cq u then(OH w lo v.l.length (sd u)).bind fun w=>k (.tp .ni) (e9 s id (some (.ar u w (ver+1)))) [id]else none
   |_=>none)
  |_=>none)=some z)
  (hr:HR s.next h1 s.heap) (ha1:gG s.heap a ya) (ha2:fw s.next s.heap a) (ha3:iB s.heap a=true):zy h1 (.clear zz) [ya] s k z:=by
 cases a with
 |sb id ver lo u0 v=>
  simp only at hz;split at hz
  .rename_i u w ver' ho;obtain⟨h3,hz2⟩:=aO hz;simp only[ai,beq_iff_eq]at h3;obtain⟨⟨rfl,q1⟩,q2⟩:=h3;have q1:=qW q1;subst q1;obtain⟨hd,_⟩:=qa q2;obtain⟨w',hw,hz3⟩:=rF hz2;rw[qd ha1 ha3];obtain⟨_,h4⟩:=ha2.2 u w ver' (.inl ho);obtain⟨h5,h6⟩:=h4 rfl;have hzl:cE (nu u)=aT u (sd u):=(qV u hd).symm;have hlen:bE u=(nu u).length:=by have:=congrArg mG hzl;rw[bI,cE,aN]at this;exact this.symm
   cases w with
   |nil=>simp[OH]at hw
   |mk w=>
    cases v with
    |nil=>exact h6.elim
    |mk v=>
     simp only[OH,bl]at hw;subst hw;have hb:=(hr.ob id _ ho).2.1.2.2 w rfl;refine⟨_,_,_,hz3,fun cl=>⟨.iQ [],[(id,some (.aM (bE u) ((MB w lo v.length (az v.length (sd u))).map (aT u))))],[id],s.next,?_,?_⟩⟩
     .simp only[aB,aW,cQ,o7,zO,hb,<-h5];rw[if_pos ⟨hlen,by simpa using h6.1⟩,hzl,<-Gl];simp[aN,List.map_replicate,List.take_of_length_le]
     .refine rH hr ho rfl ?_ (fun p hp=>by simp at hp;simp[hp]) (fun l e=>?_) (fun g=>CA) (fun _ _=>trivial) (fun i hi=>hi)
      .simp only[Sl.l];rw[uG (by simpa using h6.1)]
      .cases e;rw[bn,eM,if_pos rfl];rfl
  .simp at hz
 |_=>simp at hz
theorem CF{id m:Nat}{t:Ty}{p:pR}{w:V}{ya yw:TV}(hr:HR s.next h1 s.heap)(ha1:gG s.heap (.op id t p) ya)(ha2:fw s.next s.heap (.op id t p))(hx:gG s.heap w yw)(hk:fw s.next s.heap w)
  (hz:(bif(xT w==m)then(match fO s.heap id with
  |some (.bx u c)=>bif decide (u=t)then(match qT t p with
   |some a=>(match Na a w with
    |some w=>(match oB c p w with|some c=>bif eC c false t then k (.tp .ni) (e9 s id (some (.bx t c))) [id]else none|none=>none)
    |none=>none)
   |none=>none)else none
  |_=>none)else none)=some z):zy h1 (.store m) [ya,yw] s k z:=by
 obtain⟨h2,hz2⟩:=aO hz;simp only[beq_iff_eq]at h2;clear hz;split at hz2
 .rename_i u c ho;obtain⟨h3,hz3⟩:=aO hz2;simp only[decide_eq_true_eq]at h3;subst h3;clear hz2;split at hz3
  .rename_i a ha;split at hz3
   .rename_i w' hw;split at hz3
    .rename_i c' hc;obtain⟨h4,hz4⟩:=aO hz3;obtain⟨cw,e1,e2⟩:=qx (oP (FH hw) hx);obtain⟨q1,q2,q3,q4⟩:=yy hw e1 hk;obtain⟨_,⟨cs,e3,e4,e5⟩,e6⟩:=hr.ob id _ ho;have l1:cw.length=xT w:=iz e1;have l2:cw.length=bE a:=by rw[iz q1,gT _ _ _ q2]
     have l3:cs.length=bE u:=by rw[iz e4,gT _ _ _ e5]
     have l4:=v7 p u a ha ha2.2;have q5:=vR p c u w' c' cs cw a e5 e4 ha2.2 hc ha q1 l2;have q6:=GW p c w' c' e6 q3 hc;rw[vK ha1];have hos:Cs (.bx u c) (.bx u c'):=rfl;refine .M_ hr ho hos hz4 (fun cl=>?_) (b:=some (.box (aV cs (mM u p) cw))) ?_ ?_ CA trivial (aD:=[id]) fun i hi=>hi
     .simp only[aB,aW,cQ,mi,e2];rw[if_pos (l1.trans h2)];simp only[e3];rw[if_pos (by omega)]
     .exact ⟨_,rfl,lC (lN.M_ ho hos) q6 q5,h4⟩
     .exact gR (au _) (lN.M_ ho hos) q6
    .simp at hz3
   .simp at hz3
  .simp at hz3
 .simp at hz2
theorem tP.seq{s1 s':S2}{fu u:fJ}{x:TV}{aD a l:List Nat}{m:Nat}{v:V}(eV:lN s.next s.heap s1.heap)(he:s1.dO=s.dO)(hg:s1.gh=s.gh)(hn:s1.next=s.next)(hwo:s1.wo=a++s.wo)(hu:∀p∈fu,p.1∈a)(hf:∀id,id∉a->fO s1.heap id=fO s.heap id)
  (hna:∀i∈a,fO s.heap i≠none) (hd:tP s1 s' (fu++h1) x u aD m v l):tP s s' h1 x (u++fu) aD m v l:=by
 obtain⟨d1,d2,d3,d4,d5,d6,d7,d8,d9,d10,W,w1,w2,w3⟩:=hd;refine⟨d1,d2,by rw[aL];exact d3,lN.trans (Nat.le_of_eq hn.symm) eV d4,d5.trans he,d6.trans hg,d7,by omega,d9,fun i hi h=>d10 i (by omega) ((hf i fun q=>hna i q h).trans h),W++a,by rw[w1,hwo,aL],fun p hp=>?_,fun i hi=>?_⟩
 .rcases ap.1 hp with hp|hp
  .exact aF _ (w2 p hp)
  .exact aH _ (hu p hp)
 .rw [w3 i fun q=>hi (aF _ q),hf i fun q=>hi (aH _ q)]
theorem LX{v w:V}{l:List Nat}(hf:kK h v=some (w,l)):NT v:=by cases v<;>first|trivial|(simp[kK]at hf)
theorem px{a b:List D}(e:a.map C.d=b.map C.d):a=b:=by
 induction a generalizing b with
 |nil=>cases b with|nil=>rfl|cons y b=>simp at e
 |cons x a ih=>cases b with|nil=>simp at e|cons y b=>simp only[aB,dH,C.d.injEq]at e;rw[e.1,ih e.2]
theorem QQ:∀(p:pR)(t u:Ty),kV t=true->qT t p=some u->kV u=true:=by
 intro p;induction p with
 |nil=>
  intro t u hd h;have e:qT t []=some t:=by cases t<;>rfl
  rw[e]at h;exact aa h▸hd
 |cons q p ih=>
  intro t u hd h;cases q with
  |fd i=>
   cases t with
   |st t=>
    simp only[qT]at h;split at h
    .rename_i w hw;exact ih w u (zh t i w hd hw) h
    .simp at h
   |_=>simp[qT]at h
  |ix i=>cases t with|ar l t=>exact ih t u hd h|_=>simp[qT]at h
theorem Hb(t:Ty):mM t []=0:=by cases t<;>rfl
theorem E4{t:Ty}{l:List (Sl (El t))}{ln:Option (Nat×Nat)}{m:Nat}{r:Sl (El t)}(h:GU ln m=true):(fR t l ln).set m (pm t r)=fR t (l.set m r) none:=by cases ln with|none=>simp only[fR,List.map_set]|some q=>obtain⟨m',i⟩:=q;obtain rfl:m'=m:=Nat.eq_of_beq_eq_true h;simp only[fR,List.map_set,List.set_set]
theorem E5{t:Ty}{l:List (Sl (El t))}{ln:Option (Nat×Nat)}:(fR t l ln).length=l.length:=by cases ln with|none=>simp[fR]|some q=>obtain⟨m',i⟩:=q;simp[fR]
theorem yl{id id2 m:Nat}{t:Ty}{l:List (Sl (El t))}{ln:Option (Nat×Nat)}{o2:O}{r:Sl (El t)}{u:fJ}{aD:List Nat}(hr:HR s.next h1 s.heap)(ho:fO s.heap id=some (.rw t (.mk l) ln))(ho2:fO s.heap id2=some o2)(hne:id2≠id)(hlnm:GU ln m=true)
  (hu:∀p∈u,p.1=id\/p.1=id2) (hb:aC (u++h1) id=some (.nst (bE t) ((fR t l ln).set m (pm t r)))) (hids:∀i∈aD,i∈[id,id2]):
  tP s (e9 (e9 s id2 none) id (some (.rw t (.mk (l.set m r)) none))) h1 (.iQ []) u aD s.next (.tp .ni) [id,id2]:=by
 have eV:lN s.next s.heap ((id,some (.rw t (.mk (l.set m r)) none))::(id2,none)::s.heap):=by refine lN.trans (au _) (lN.mq id2) (lN.M_ (o:=.rw t (.mk l) ln) ?_ ⟨rfl,rfl,by simp[Sl.l]⟩);rw[eD,if_neg hne];exact ho
 refine tP.EI [id,id2] hr eV rfl rfl (au _) (au _) hids rfl (fun p hp=>?_) (fun i hi=>?_) (fun i hi o ho'=>?_) CA trivial (fun i _ h=>?_)
 .rcases hu p hp with e|e<;>simp[e]
 .simp only[aP,gf,or_false,not_or]at hi;simp only[e9];rw[eD,if_neg (fun e=>hi.1 e.symm),eD,if_neg (fun e=>hi.2 e.symm)]
 .simp only[e9]at ho';by_cases hi1:id=i
  .subst hi1;rw[eD,if_pos rfl]at ho';obtain rfl:=aa ho';obtain⟨a,⟨d1,d2,_⟩,_⟩:=hr.ob _ _ ho;exact⟨a,⟨d1,d2,fun l' e=>by cases e;rw[hb,E4 hlnm]⟩,trivial⟩
  .rw [eD,if_neg hi1]at ho';simp only[aP,gf,or_false]at hi;rcases hi with rfl|rfl
   .exact absurd rfl hi1
   .rw [eD,if_pos rfl]at ho';cases ho'
 .simp only[e9];rw[eD,if_neg (fun e=>by subst e;rw[ho]at h;cases h),eD,if_neg (fun e=>by subst e;rw[ho2]at h;cases h)];exact h
theorem tP.nx{s s':S2}{x:TV}{u:fJ}{aD l:List Nat}{m q:Nat}{v:V}(d:tP s s' h1 x u aD m v l)(hq:q<=s'.next):tP s s' h1 x u aD q v l:=⟨d.val,d.U8,d.hr,d.eV,d.dO,d.gh,hq,d.le,d.aD,d.nb,d.wo⟩
theorem CG{id m q:Nat}{t:Ty}{p:pR}{w:V}{ya yw:TV}(hr:HR s.next h1 s.heap)(ha1:gG s.heap (.ep id m t p) ya)(ha2:fw s.next s.heap (.ep id m t p))(hx:gG s.heap w yw)(hk:fw s.next s.heap w)(ha:iB s.heap w=true)
  (hz:(bif(xT w==q)then EX id m t p w s (fun s l=>k (.tp .ni) s l)else none)=some z):zy h1 (.store q) [ya,yw] s k z:=by
 obtain⟨h2,hz2⟩:=aO hz;simp only[beq_iff_eq]at h2;clear hz;unfold EX at hz2;split at hz2
 .rename_i u v ln ho;split at hz2
  .rename_i id2;split at hz2
   .rename_i u2 r ver ho2;split at hz2
    .rename_i r' hr';obtain⟨h3,hz3⟩:=aO hz2;simp only[ai,decide_eq_true_eq,Bool.not_eq_true',beq_eq_false_iff_ne]at h3;obtain⟨⟨rfl,hne⟩,hln⟩:=h3;obtain⟨e,e2⟩:=du hr';cases e;obtain rfl:r'=r:=e2;have hlen:=ha2.2.2.2 _ _ _ ho;obtain⟨_,⟨d1,d2,d3⟩,_⟩:=hr.ob id _ ho;obtain⟨_,⟨_,_,c3⟩,_⟩:=hr.ob id2 _ ho2;cases v with
     |nil=>simp[Sl.l]at hlen
     |mk l=>
      have d3:=d3 l rfl;have h2':q=1:=h2.symm;subst h2';rw[sj ha1,si hx (mO (.inl ho2)),Hb];have hl2:m<(fR u l ln).length:=by rw[E5];exact hlen
      cases r' with
      |nil=>
       refine⟨_,_,_,hz3,fun cl=>⟨.iQ [],[(id,some (.nst (bE u) ((fR u l ln).set m .nil)))],[id],s.next,?_,?_⟩⟩
       .simp only[aB,aW,cQ,mi,mQ,cellsOf,d3];rw[if_pos (show([_]:List C).length=1 from rfl)];rw[if_pos ⟨trivial,trivial,hl2⟩];simp only[rB]
       .exact yl hr ho ho2 hne hln (fun p hp=>by simp at hp;simp[hp]) (by rw[bn,eM,if_pos rfl];rfl) (fun i hi=>by simp at hi;simp[hi])
      |mk rr=>
       have c3:=c3 rr rfl;refine⟨_,_,_,hz3,fun cl=>⟨.iQ [],[(id,some (.nst (bE u) ((fR u l ln).set m (.bt (rr.map (aT u)))))),(id2,none)],[id,id2],s.next,?_,?_⟩⟩
       .simp only[aB,aW,cQ,mi,mQ,cellsOf,d3];rw[if_pos (show([_]:List C).length=1 from rfl)];rw[if_pos ⟨trivial,trivial,hl2⟩];simp only[rB,c3];rw[if_pos ⟨trivial,by simp,hne⟩]
       .exact yl hr ho ho2 hne hln (fun p hp=>by simp at hp;rcases hp with rfl|rfl<;>simp) (by rw[aU,eM,if_pos rfl];rfl) (fun i hi=>hi)
    .simp at hz2
   .simp at hz2
  .simp at hz2
 .rename_i u l ver ho;split at hz2
  .rename_i w' a hw;obtain⟨h3,hz3⟩:=aO hz2;simp only[decide_eq_true_eq]at h3;subst h3;clear hz2;split at hz3
   .rename_i b2 hb;split at hz3
    .rename_i y hy;split at hz3
     .rename_i c hc;split at hz3
      .rename_i y2 hy2;split at hz3
       .rename_i s1 hs1;obtain⟨h4,hz4⟩:=aO hz3;obtain⟨cw,e1,e2⟩:=qx (oP (LX hw) hx);obtain⟨ds,aD,f1,f2,f3,f4,f5⟩:=vq hr w w' a cw hw e1 hk ha;have e3:=px (jF w' false b2 y _ hy f2);have hlen:=ha2.2.2.1 u l ver (.inl ho)
        have hnm:∀(ds:List D)(cs:List C)(aD:List Nat),gp h1 cs=some (ds,aD)->ds.length=cs.length:=by
         intro ds cs;induction cs generalizing ds with
         |nil=>intro aD h;obtain⟨rfl,_⟩:[]=ds/\[]=aD:=by simpa[gp]using h
               rfl
         |cons c cs ih=>
          intro aD h;simp only[gp]at h;split at h
          .rename_i p1 p2 p3 p4 hp hq;obtain⟨rfl,rfl⟩:=ad (aa h);simp[ih _ _ hq]
          .simp at h
        have l1:cw.length=xT w:=iz e1;have l2:ds.length=bE b2:=by rw[e3,bI]
        have l3:=hnm _ _ _ f1;have l4:=v7 p u b2 hb ha2.2.1;cases l with
        |nil=>simp[Sl.l]at hlen
        |mk l=>
         obtain⟨_,⟨d1,d2,d3⟩,_⟩:=hr.ob id _ ho;have d3:=d3 l rfl;have q5:=vR (h:=s.heap) p (.x u (gt l m)) u (.x b2 y) c ((aT u (gt l m)).map .d) ((aT b2 y).map .d) b2 (by simp[eC]) ⟨d1,rfl⟩ ha2.2.1 hc hb ⟨QQ p u b2 d1 hb,rfl⟩ (by simp[bI]);have q6:=pG hy2 q5;rw[<-ul]at q6;have q7:=px q6;obtain⟨fu,g1,g2,g3,g4,g5,g6,g7,g8,g9⟩:=Ht (s0:=s) rfl hr a s1 aD aD hs1 f3 f4;have hid:id∉a:=by simpa using h4
         have hid2:aD.contains id=false:=by cases hq:aD.contains id with|false=>rfl|true=>exact absurd ((f3 id (by simpa using hq)).1) hid
         rw[sj ha1];refine⟨_,_,_,hz4,fun cl=>⟨.iQ [],(id,some (.aM (bE u) ((l.set m y2).map (aT u))))::fu,id::aD,s.next,?_,?_⟩⟩
         .simp only[aB,aW];exact Nw d3 hlen e2 (l1.trans h2) f1 g1 hid2 (by rw[bI];omega) (by rw[e3];exact q7)
         .have ho1:fO s1.heap id=some (.ar u (.mk l) ver):=by rw[g9 id hid];exact ho
          rw[<-g6]at g2
          have:=rH (v:=.tp .ni) (x:=.iQ []) (aD:=id::aD) (l:=id::a) (u:=[(id,some (.aM (bE u) ((l.set m y2).map (aT u))))]) g2 ho1 (w':=.mk (l.set m y2)) rfl (by simp[Sl.l]) (fun p hp=>by simp at hp;simp[hp]) (fun l' e=>by cases e;rw[bn,eM,if_pos rfl]) (fun _=>CA) (fun _ _=>trivial) (fun i hi=>by
           rcases aP.1 hi with rfl|hi
           .exact cn ..
           .exact aA _ (f3 i hi).1)
          rw[g6]at this;exact tP.seq g3 g4 g5 g6 g7 g8 g9 (LZ rfl hs1) this
       .simp at hz3
      .simp at hz3
     .simp at hz3
    .simp at hz3
   .simp at hz3
  .simp at hz2
 .simp at hz2
end
section
variable{h:H2}{n:Nat}{h1:bH}{β:Type}{s:S2}{k:V->S2->List Nat->Option β}{z:β}
theorem ui:∀{cs:List C}{ds:List D}{aD:List Nat},gp h1 cs=some (ds,aD)->ds.length=cs.length:=by
 intro cs;induction cs with
 |nil=>intro ds aD h;obtain⟨rfl,_⟩:[]=ds/\[]=aD:=by simpa[gp]using h
       rfl
 |cons c cs ih=>
  intro ds aD h;simp only[gp]at h;split at h
  .rename_i p1 p2 p3 p4 hp hq;obtain⟨rfl,rfl⟩:=ad (aa h);simp[ih hq]
  .simp at h
theorem PD{t:Ty}(hd:kV t=true)(m:Nat):(az m (sd t)).flatMap (aT t)=cE ((az m (nu t)).flatten):=by induction m with|zero=>rfl|succ m ih=>simp only[iA,bi,dZ,ih,qV t hd,cE,gO]
theorem BP(l:List Value):fy l=(cE l).map .d:=by simp[fy,cE]
theorem JZ{t:Ty}(hd:kV t=true)(m:Nat):((az m (nu t)).flatten).length=m*bE t:=by have:=congrArg mG (PD hd m);rw[ia (bI t),List.length_replicate,cE,aN]at this;exact this.symm
theorem Eh{α:Type}{f:α->List D}{q:Nat}(hf:∀a,(f a).length=q):∀(l:List α),mu q l.length (l.flatMap f)=l.map f:=by intro l;induction l with|nil=>rfl|cons a l ih=>simp only[c_,mu,bi,aB];rw[List.take_left' (hf a),List.drop_left' (hf a),ih]
theorem Fh{t:Ty}{len:Nat}(hr:HR n h1 h)(hd:kV t=true):∀(is:List Nat)(vs:List V)(m:Nat)(l:List (El t))(a:List Nat)(EG:List C)(xs:List TV),yf h t len m is vs=some (l,a)->m<=len->EG.length=m*bE t->
  mI h vs xs->(∀w∈vs,fw n h w)->(∀w∈vs,iB h w=true)->
  ∃cs aD,m6 (EG++fy ((az (len-m) (nu t)).flatten)) ((is.map fun i=>(i*bE t,bE t)).zip xs)=some (EG++cs)/\gp h1 cs=some (l.flatMap (aT t),aD)/\(∀i∈aD,i∈a/\¬v8 h i)/\(∀i∈a,i∈aD\/v8 h i)/\l.length=len-m:=by
 intro is;induction is with
 |nil=>intro vs m l a EG xs hf hm hpre hx hk ha;cases vs with|cons v vs=>simp[yf]at hf|nil=>simp only[yf,bl,Prod.mk.injEq]at hf;obtain⟨rfl,rfl⟩:=hf;obtain rfl:=lR hx;refine⟨_,[],rfl,?_,fun i hi=>by simp at hi,fun i hi=>by simp at hi,by simp⟩;rw[BP,PD hd];exact J3 _
 |cons i is ih=>
  intro vs m l a EG xs hf hm hpre hx hk ha;cases vs with
  |nil=>simp[yf]at hf
  |cons v vs=>
   simp only[yf]at hf;split at hf
   .rename_i w a1 hw;split at hf
    .rename_i y hy;obtain⟨hc,hf⟩:=aO hf;simp only[ai,Nat.ble_eq,Nat.blt_eq]at hc;obtain⟨hmi,hil⟩:=hc;split at hf
     .rename_i l1 b hl1;obtain⟨rfl,rfl⟩:=ad (aa hf);obtain⟨x,ys,rfl,hx1,hx2⟩:=gS hx;obtain⟨cw,e1,e2⟩:=qx (oP (LX hw) hx1);obtain⟨ds,aD,f1,f2,f3,f4,_⟩:=vq hr v w a1 cw hw e1 (hk _ (by simp)) (ha _ (by simp));have e3:=px (jF w false t y _ hy f2);subst e3;have l1':cw.length=bE t:=by rw[<-ui f1,bI]
      have lz:(fy ((az (i-m) (nu t)).flatten)).length=(i-m)*bE t:=by simp only[fy,aN];exact JZ hd _
      have lz1:(fy (nu t)).length=bE t:=by rw[BP,<-qV t hd,aN,bI]
      have hpl:(EG++fy ((az (i-m) (nu t)).flatten)).length=i*bE t:=by rw[av,hpre,lz,<-bO,Nat.add_sub_cancel' hmi]
      obtain⟨cs,jds,g1,g2,g3,g4,g5⟩:=ih vs (i+1) l1 b (EG++fy ((az (i-m) (nu t)).flatten)++cw) ys hl1 hil (by rw[av,hpl,l1',bO,Nat.one_mul]) hx2 (fun w hw=>hk w (by simp[hw])) (fun w hw=>ha w (by simp[hw]));have hsplit:az (len-m) (nu t)=az (i-m) (nu t)++(nu t::az (len-(i+1)) (nu t)):=by rw[<-iA,List.replicate_append_replicate];congr 1;omega
      have hcells:EG++fy ((az (len-m) (nu t)).flatten)=(EG++fy ((az (i-m) (nu t)).flatten))++(fy (nu t)++fy ((az (len-(i+1)) (nu t)).flatten)):=by rw[hsplit,List.flatten_append,dZ,sH,sH,aL]
      refine⟨fy ((az (i-m) (nu t)).flatten)++(cw++cs),aD++jds,?_,?_,fun j hj=>?_,fun j hj=>?_,by simp[g5];omega⟩
      .simp only[aB,List.zip_cons_cons,m6,e2];rw[if_pos ⟨l1',by rw[hcells,av,hpl,av,lz1];omega⟩,hcells];have:aV ((EG++fy ((az (i-m) (nu t)).flatten))++(fy (nu t)++fy ((az (len-(i+1)) (nu t)).flatten))) (i*bE t) cw=(EG++fy ((az (i-m) (nu t)).flatten)++cw)++fy ((az (len-(i+1)) (nu t)).flatten):=by have:=te (a:=EG++fy ((az (i-m) (nu t)).flatten)) (b:=fy (nu t)++fy ((az (len-(i+1)) (nu t)).flatten)) (p:=cw) (off:=0);rw[hpl]at this;refine Eq.trans this ?_;rw[s_ (by omega),mA (by omega)];simp only[aL]
       rw[this,g1];simp only[aL]
      .rw [List.flatMap_append,bi,PD hd];have hz:gp h1 (fy ((az (i-m) (nu t)).flatten))=some (cE ((az (i-m) (nu t)).flatten),[]):=by rw[BP];exact J3 _
       exact(zG hz (zG f1 g2):gp h1 _=some (_,[]++(aD++jds)))
      .rcases ap.1 hj with hj|hj
       .exact ⟨aF _ (f3 j hj).1,(f3 j hj).2⟩
       .exact ⟨aH _ (g3 j hj).1,(g3 j hj).2⟩
      .rcases ap.1 hj with hj|hj
       .exact (f4 j hj).imp (aF _) id
       .exact (g4 j hj).imp (aH _) id
     .simp at hf
    .simp at hf
   .simp at hf
theorem Em{t:Ty}{len sz:Nat}{zl:List Value}{pl:List Nat}{vs:List V}{xs:List TV}
  (hz:Q2 t sz len zl pl vs s k=some z)
  (hr:HR s.next h1 s.heap) (hx:mI s.heap vs xs) (hk:∀w∈vs,fw s.next s.heap w) (ha:∀w∈vs,iB s.heap w=true):zy h1 (.buildSlice sz len zl pl) xs s k z:=by
 unfold Q2 at hz;obtain⟨h2,hz2⟩:=aO hz;simp only[ai,beq_iff_eq]at h2;obtain⟨⟨rfl,h3⟩,h4⟩:=h2;have h3:=qW h3;subst h3;obtain⟨hd,hs0⟩:=qa h4;clear hz;split at hz2
 .rename_i l a hl;split at hz2
  .rename_i s1 hs1;obtain⟨cs,aD,g1,g2,g3,g4,g5⟩:=Fh hr hd pl vs 0 l a [] xs hl (Nat.zero_le _) (by simp) hx hk ha;obtain⟨fu,f1,f2,f3,f4,f5,f6,f7,f8,f9⟩:=Ht (s0:=s) rfl hr a s1 aD aD hs1 g3 g4;refine⟨_,_,_,hz2,fun cl=>⟨.c (.fk (bE t) s.next 0 len),(s.next,some (.aM (bE t) (l.map (aT t))))::fu,aD,s.next+1,?_,?_⟩⟩
   .have hc:mu (bE t) len (l.flatMap (aT t))=l.map (aT t):=by have:=Eh (bI t) l;rwa[show l.length=len by simpa using g5]at this
    simp only[cQ,nf];have g1:m6 (fy ((az len (nu t)).flatten)) ((pl.map fun i=>(i*bE t,bE t)).zip xs)=some cs:=by simpa using g1
    rw[g1];simp only[g2,f1,hc]
   .have hr1:HR s1.next (fu++h1) s1.heap:=by rw[f6];exact f2
    have hd1:tP s1 (j9 s1 (.ar t (.mk l) 0)) (fu++h1) (.c (.fk (bE t) s.next 0 len)) [(s1.next,some (.aM (bE t) (l.map (aT t))))] aD (s.next+1) (.so s1.next) a:=by refine tP.new hr1 (.inl rfl) (fun _=>⟨hd,hs0,fun l' e=>by cases e;rfl⟩) trivial ?_ (aZ _) (fun i hi=>(g3 i hi).1) (by rw[f6];exact au _);have:=v_ (h:=s1.heap) (t:=t) (s:=.mk l) (v:=0) (nx:=s1.next);rw[f6]at this|-;simpa[mQ,show l.length=len by simpa using g5]using this
    rw[f6]at hd1;exact tP.seq f3 f4 f5 f6 f7 f8 f9 (LZ rfl hs1) hd1
  .simp at hz2
 .simp at hz2
theorem Gg{ka va:Bool}{ks:List Kd}{zl:List Value}{id:Nat}{kv:V}{ya yk:TV}(hr:HR s.next h1 s.heap)(ha1:gG s.heap (.om id) ya)(hx:gG s.heap kv yk)
  (hz:(match fO s.heap id with
  |some (.mp kt vt m)=>(match tL kt kv with
   |some q=>bif(nq kt==ka)&&(nq vt==va)&&decide (DQ kt=some ks)&&tQ (nu vt) zl&&kV vt&&(va||bE vt==1)then
     k (.tp (.co (.x vt (lX m (sd vt) q).2.1) (.co (.x (.i .i64) (lX m (sd vt) q).2.2) .ni))) (e9 s id (some (.mp kt vt (lX m (sd vt) q).1))) [id]else none
   |none=>none)
  |_=>none)=some z):zy h1 (.mapEntry ka ks va zl) [ya,yk] s k z:=by
 split at hz
 .rename_i kt vt m ho;split at hz
  .rename_i q hq;obtain⟨hc,hz2⟩:=aO hz;simp only[ai,beq_iff_eq,decide_eq_true_eq]at hc;obtain⟨⟨⟨⟨⟨c1,c2⟩,c3⟩,c4⟩,c5⟩,c6⟩:=hc;rw[EO ha1];obtain⟨_,_,k3,_⟩:=xB kt ks c3;have hzz:cE zl=aT vt (sd vt):=by rw[qV vt c5,qW c4]
   have hv:∀y,pi va (aT vt y)=some (Rp vt y):=fun y=>GQ y c2 c6;have hkt:=DN hx hq c3 c1;have e3:=(hr.ob id _ ho).2.1.2.2;rw[<-c2]at c6;have e4:aC h1 id=EH ka va (vF kt) (aT vt) m:=by rw[<-c1,<-c2];exact e3
   have hos:Cs (.mp kt vt m) (.mp kt vt (lX m (sd vt) q).1):=trivial;refine .M_ hr ho hos hz2 (fun cl=>Si (z:=sd vt) e4 hkt k3 hzz hv) ⟨c5,⟨ks,c3⟩,by rw[c1,c2];rfl⟩ trivial ?_ ⟨trivial,trivial,trivial⟩ fun i hi=>hi;exact⟨_,rfl,_,_,rfl,J6 c5 c6,_,_,rfl,ed rfl ⟨rfl,rfl⟩,rfl⟩
  .simp at hz
 .simp at hz
theorem Mo:∀(l:List D),zg (l.map .d)=some l:=by intro l;induction l with|nil=>rfl|cons d l ih=>simp[zg,ih]
theorem D0{va:Bool}{m0 id:Nat}{kd:IntKind}{st:Int}{w:V}{ya yw:TV}(hr:HR s.next h1 s.heap)(ha1:gG s.heap (.om id) ya)(hx:gG s.heap w yw)
  (hz:(match fO s.heap id with
  |some (.mp kt vt m)=>(match tL vt w with
   |some y=>bif(nq vt==va)&&(bE vt==m0)&&kV vt then(vb m st y).bind fun m=>k (.tp .ni) (e9 s id (some (.mp kt vt m))) [id]else none
   |none=>none)
  |_=>none)=some z):zy h1 (.entryStore va m0) [ya,tI kd st,yw] s k z:=by
 split at hz
 .rename_i kt vt m ho;split at hz
  .rename_i y hy;obtain⟨hc,hz2⟩:=aO hz;simp only[ai,beq_iff_eq]at hc;obtain⟨⟨rfl,rfl⟩,c3⟩:=hc;obtain⟨m',hm,hz3⟩:=rF hz2;rw[EO ha1];obtain⟨_,hks,e3⟩:=(hr.ob id _ ho).2.1;obtain⟨g1,g2⟩:=vu hx hy;have hos:Cs (.mp kt vt m) (.mp kt vt m'):=trivial;have hcs:(cellsOf yw).bind zg=some (aT vt y)/\xC yw=nq vt:=by cases hag:nq vt with|true=>rw[g1 hag];exact⟨by simp[cellsOf,Mo],rfl⟩|false=>obtain⟨d,e,rfl⟩:=g2 hag;exact⟨by simp[cellsOf,zg,e],rfl⟩
   refine .M_ hr ho hos hz3 (fun cl=>Sg (va:=nq vt) (ek:=vF kt) (ka:=nq kt) hm e3 hcs.1 (bI vt y) hcs.2) ⟨c3,hks,rfl⟩ trivial CA trivial fun i hi=>hi
  .simp at hz
 .simp at hz
end
section
variable{h:H2}{n:Nat}{h1:bH}{β:Type}{s:S2}{k:V->S2->List Nat->Option β}{z:β}
theorem wi:∀{r:List V}{l:List Int}{xs:List TV},j5 r=some l->mI h r xs->∃ks:List IntKind,ks.length=l.length/\xs=(ks.zip l).map fun p=>tI p.1 p.2:=by
 intro r;induction r with
 |nil=>
  intro l xs hl hx;obtain rfl:[]=l:=by simpa[j5]using hl
  exact⟨[],rfl,lR hx⟩
 |cons v r ih=>
  intro l xs hl hx;cases v with
  |x t v=>
   cases t with
   |i q=>
    simp only[j5]at hl;split at hl
    .rename_i l' hl';obtain rfl:=aa hl;obtain⟨x,ys,rfl,h1,h2⟩:=gS hx;obtain⟨ks,h3,rfl⟩:=ih hl' h2;exact⟨q::ks,by simp[h3],by rw[ku h1];rfl⟩
    .simp at hl
   |_=>simp[j5]at hl
  |_=>simp[j5]at hl
theorem LH{r:List V}{xs:List TV}(hl:j5 r=some [])(hx:mI h r xs):xs=[]:=by obtain⟨ks,h1,rfl⟩:=wi hl hx;cases ks<;>simp_all
theorem BS{r:List V}{a:Int}{xs:List TV}(hl:j5 r=some [a])(hx:mI h r xs):∃q,xs=[tI q a]:=by obtain⟨ks,h1,rfl⟩:=wi hl hx;cases ks with|nil=>simp at h1|cons q ks=>exact⟨q,by cases ks<;>simp_all⟩
theorem LG{r:List V}{a b:Int}{xs:List TV}(hl:j5 r=some [a,b])(hx:mI h r xs):∃q q',xs=[tI q a,tI q' b]:=by
 obtain⟨ks,h1,rfl⟩:=wi hl hx;cases ks with
 |nil=>simp at h1
 |cons q ks=>cases ks with|nil=>simp at h1|cons q' ks=>exact⟨q,q',by cases ks<;>simp_all⟩
theorem Bv{x y:ByteArray}{lo hi:Option Int}(hs:zL x (lo.getD 0) (hi.getD x.size)=some y)(sz:Nat):fT true sz (.d (dS x)) lo hi=some (.d (dS y)):=by
 unfold zL at hs;split at hs
 .rename_i hb;obtain rfl:=aa hs;simp only[fT,if_true];rw[if_pos hb]
 .simp at hs
theorem CK{x:ByteArray}{r:List V}{lo hi:Bool}{sz:Nat}{y:TV}{ys:List TV}(hr:HR s.next h1 s.heap)(hy:gG s.heap (.x .s x) y)(hys:mI s.heap r ys)
  (hz:(match lo,hi,j5 r with
  |false,false,some []=>(zL x 0 x.size).bind fun y=>k (.x .s y) s []
  |true,false,some [l]=>(zL x l x.size).bind fun y=>k (.x .s y) s []
  |false,true,some [u]=>(zL x 0 u).bind fun y=>k (.x .s y) s []
  |true,true,some [l,u]=>(zL x l u).bind fun y=>k (.x .s y) s []
  |_,_,_=>none)=some z):zy h1 (.slice true sz lo hi) (y::ys) s k z:=by
 rw[wO hy];split at hz
 .rename_i hi;obtain rfl:=LH hi hys;obtain⟨w,hw,hz2⟩:=rF hz;exact .pure hr hz2 (fun _=>by simp only[aB,aW,cQ];rw[Bv (lo:=none) (hi:=none) hw]) (Ro w) trivial
 .rename_i l hi;obtain⟨q,rfl⟩:=BS hi hys;obtain⟨w,hw,hz2⟩:=rF hz;exact .pure hr hz2 (fun _=>by simp only[aB,aW,cQ,cD];rw[Bv (lo:=some l) (hi:=none) hw]) (Ro w) trivial
 .rename_i l hi;obtain⟨q,rfl⟩:=BS hi hys;obtain⟨w,hw,hz2⟩:=rF hz;exact .pure hr hz2 (fun _=>by simp only[aB,aW,cQ,cD];rw[Bv (lo:=none) (hi:=some l) hw]) (Ro w) trivial
 .rename_i l u hi;obtain⟨q,q',rfl⟩:=LG hi hys;obtain⟨w,hw,hz2⟩:=rF hz;exact .pure hr hz2 (fun _=>by simp only[aB,aW,cQ,cD];rw[Bv (lo:=some l) (hi:=some u) hw]) (Ro w) trivial
 .simp at hz
theorem CL{x:V}{r:List V}{lo hi:Bool}{sz:Nat}{y:TV}{ys:List TV}(hr:HR s.next h1 s.heap)(hy:gG s.heap x y)(hk:fw s.next s.heap x)(ha:iB s.heap x=true)(hys:mI s.heap r ys)
  (hz:(match lo,hi,j5 r,FR s.heap x with
  |false,false,some [],some n=>tW sz s.heap x 0 n fun v=>k v s []
  |true,false,some [l],some n=>tW sz s.heap x l n fun v=>k v s []
  |false,true,some [u],some _=>tW sz s.heap x 0 u fun v=>k v s []
  |true,true,some [l,u],some _=>tW sz s.heap x l u fun v=>k v s []
  |_,_,_,_=>none)=some z):zy h1 (.slice false sz lo hi) (y::ys) s k z:=by
 split at hz
 .rename_i m hi hm;obtain rfl:=LH hi hys;obtain⟨v,c,c',rfl,h3,h4,h5,h6⟩:=B4 (lo:=none) (hi:=none) hr hy hk ha hm hz;exact .pure hr h3 (fun _=>by simp only[aB,aW,cQ];rw[h4]) h5 h6
 .rename_i l m hi hm;obtain⟨q,rfl⟩:=BS hi hys;obtain⟨v,c,c',rfl,h3,h4,h5,h6⟩:=B4 (lo:=some l) (hi:=none) hr hy hk ha hm hz;exact .pure hr h3 (fun _=>by simp only[aB,aW,cQ,cD];rw[h4]) h5 h6
 .rename_i u m hi hm;obtain⟨q,rfl⟩:=BS hi hys;obtain⟨v,c,c',rfl,h3,h4,h5,h6⟩:=B4 (lo:=none) (hi:=some u) hr hy hk ha hm hz;exact .pure hr h3 (fun _=>by simp only[aB,aW,cQ,cD];rw[h4]) h5 h6
 .rename_i l u m hi hm;obtain⟨q,q',rfl⟩:=LG hi hys;obtain⟨v,c,c',rfl,h3,h4,h5,h6⟩:=B4 (lo:=some l) (hi:=some u) hr hy hk ha hm hz;exact .pure hr h3 (fun _=>by simp only[aB,aW,cQ,cD];rw[h4]) h5 h6
 .simp at hz
theorem NB{t:Ty}{l:List (Sl (El t))}{m:Nat}(hm:m<l.length):(l.map (pm t))[m]?=some (pm t (gt l m)):=by rw[List.getElem?_map,aw hm];simp[gt,List.getD,aw hm]
theorem Kp{α:Type}{l:List α}{m:Nat}{x:α}(h:l[m]?=some x):l.set m x=l:=by obtain⟨hm,rfl⟩:=List.getElem?_eq_some_iff.1 h;exact List.set_getElem_self hm
theorem FP{id m:Nat}{u:Ty}{y:TV}(hr:HR s.next h1 s.heap)(hx:gG s.heap (.ep id m u []) y)(hk:fw s.next s.heap (.ep id m u []))
  (hz:(match fO s.heap id with
  |some (.rw t v none)=>bif decide (u=.sl t)then k (.so s.next) (j9 (e9 s id (some (.rw t v (some (m,s.next))))) (.ar t (gt v.l m) 0)) [id]else none
  |_=>none)=some z):zy h1 .t6 [y] s k z:=by
 split at hz
 .rename_i t v ho;obtain⟨h2,hz2⟩:=aO hz;simp only[decide_eq_true_eq]at h2;subst h2;rw[sj hx,Hb];have hlen:=hk.2.2.2 _ _ _ ho;obtain⟨hid,⟨d1,d2,d3⟩,_⟩:=hr.ob id _ ho;cases v with
  |nil=>simp[Sl.l]at hlen
  |mk l=>
   have d3:=d3 l rfl;have hlen:m<l.length:=hlen;have eV:lN s.next s.heap ((s.next,some (.ar t (gt l m) 0))::(id,some (.rw t (.mk l) (some (m,s.next))))::s.heap):=lN.trans (au _) (lN.M_ (o':=.rw t (.mk l) (some (m,s.next))) ho ⟨rfl,rfl,rfl⟩) (lN.new _)
   have key:∀{x:TV}{u:fJ},gG ((s.next,some (.ar t (gt l m) 0))::(id,some (.rw t (.mk l) (some (m,s.next))))::s.heap) (.so s.next) x->(∀p∈u,p.1=s.next\/p.1=id)->
     aC (u++h1) id=some (.nst (bE t) (fR t l (some (m,s.next))))->(∀rr,gt l m=.mk rr->aC (u++h1) s.next=some (.aM (bE t) (rr.map (aT t))))->∀{q:Nat},q<=s.next+1->
     tP s (j9 (e9 s id (some (.rw t (.mk l) (some (m,s.next))))) (.ar t (gt l m) 0)) h1 x u [id] q (.so s.next) [id]:=by
    intro x u hx2 hu hb hb2 q hq;refine tP.EI [s.next,id] hr eV rfl rfl hq (bN _) (fun i hi=>hi) rfl (fun p hp=>?_) (fun i hi=>?_) (fun i hi o ho'=>?_) hx2 (aZ _) (fun i hi h=>?_)
    .rcases hu p hp with e|e<;>simp[e]
    .simp only[aP,gf,or_false,not_or]at hi;simp only[j9,e9];rw[eD,if_neg (fun e=>hi.1 e.symm),eD,if_neg (fun e=>hi.2 e.symm)]
    .simp only[j9,e9]at ho'|-;by_cases hi1:s.next=i
     .subst hi1;rw[eD,if_pos rfl]at ho';obtain rfl:=aa ho';exact⟨aZ _,⟨d1,d2,fun rr e=>hb2 rr e⟩,trivial⟩
     .rw [eD,if_neg hi1]at ho';simp only[aP,gf,or_false]at hi;rcases hi with rfl|rfl
      .exact absurd rfl hi1
      .rw [eD,if_pos rfl]at ho';obtain rfl:=aa ho';refine⟨by omega,⟨d1,d2,fun l' e=>by cases e;exact hb⟩,hlen,aZ _,fun u' r' v' hf=>?_⟩;simp only[tJ]at hf;rcases hf with hf|hf<;>cases hf;exact⟨rfl,rfl⟩
    .simp only[j9,e9];rw[eD,if_neg (by omega),eD,if_neg (fun e=>by subst e;rw[ho]at h;cases h)];exact h
   have hs:=NB (t:=t) hlen;refine⟨_,_,_,hz2,fun cl=>?_⟩;cases hg:gt l m with
   |nil=>
    refine⟨_,[],[id],s.next,?_,key (x:=.c (.d (.lit (.slice none 0 0)))) ?_ (fun p hp=>by simp at hp) ?_ (fun rr e=>by rw[hg]at e;cases e) (bN _)⟩
    .simp only[aB,aW,cQ,ic,d3];rw[hg]at hs;simp only[lB,d3,fR,hs,pm];rfl
    .rw [hg];exact v_
    .rw [bh,d3];simp only[fR,hg,Iy];rw[Kp (by rw[hs,hg];rfl)]
   |mk rr=>
    refine⟨_,[(s.next,some (.aM (bE t) (rr.map (aT t)))),(id,some (.nst (bE t) ((l.map (pm t)).set m (.dV s.next (rr.map (aT t)).length))))],[id],s.next+1,?_,key (x:=.c (.fk (bE t) s.next 0 (rr.map (aT t)).length)) ?_ (fun p hp=>by simp at hp;rcases hp with rfl|rfl<;>simp) ?_ (fun r2 e=>?_) (au _)⟩
    .simp only[aB,aW,cQ,ic,d3];rw[hg]at hs;simp only[lB,d3,fR,hs,pm];rfl
    .rw [hg];exact v_
    .rw [aU,eM,if_neg (by omega),aU,eM,if_pos rfl];simp only[fR,hg,Iy,aN]
    .rw [hg]at e;cases e;rw[aU,eM,if_pos rfl]
 .simp at hz
theorem Lb{szi:Nat}{t:Ty}{q q':IntKind}{a b:Int}(hr:HR s.next h1 s.heap)
  (hz:(bif(bE t==szi)&&Cq t then(zD (Sl.nil:Sl (El t)) a b).bind fun r=>k (.sr s.next) (j9 s (.rw t (.mk r) none)) []else none)=some z):zy h1 (.AK szi) [tI q a,tI q' b] s k z:=by
 obtain⟨hq,hp2⟩:=aO hz;simp only[ai,beq_iff_eq]at hq;obtain⟨rfl,q2⟩:=hq;obtain⟨hd,hs0⟩:=qa q2;obtain⟨r,hr2,hz3⟩:=rF hp2;unfold zD at hr2;split at hr2
 .rename_i hb;obtain rfl:=aa hr2;refine .new (aD:=[]) hr hz3 (b:=some (.nst (bE t) (az a.toNat .nil))) (x:=.c (.fk 1 s.next 0 a.toNat)) (fun _=>?_) ⟨hd,hs0,fun l' e=>by cases e;simp[fR,pm]⟩ trivial ?_ (aZ _) fun i hi=>by simp at hi
  .simp only[aB,aW,cQ,cD];rw[if_pos (by simpa[DH]using hb)]
  .refine cz (ed rfl ⟨_,rfl,fun c' hc'=>?_,?_⟩)
   .rw [tJ]at hc';obtain rfl:=aa hc';simp[mQ]
   .have:=Bz (sz:=1) (id:=s.next) (e:=aT (.sl t)) (s:=.mk (az a.toNat (Sl.nil:Sl (El t))));simpa[mQ]using this
 .simp at hr2
theorem Fw{o:OP}{vs:List V}{xs:List TV}(hp:part o vs s k=some z)(hr:HR s.next h1 s.heap)(hx:mI s.heap vs xs)(hk:∀w∈vs,fw s.next s.heap w)(ha:∀w∈vs,iB s.heap w=true):zy h1 o.o.k xs s k z:=by
 obtain⟨⟨d,kk,args,g⟩,t,fi⟩:=o;simp only;unfold part at hp;simp only at hp;split at hp
 .--quo
  obtain⟨x,y,rfl,h2,h3⟩:=jh hx;rw[ku h2,ku h3];obtain⟨hq,hp2⟩:=aO hp;simp only[decide_eq_true_eq]at hq;subst hq;obtain⟨r,hr2,hz⟩:=rF hp2;exact .pure hr hz (fun _=>QG hr2) (xi _ _) trivial
 .obtain ⟨x,y,rfl,h2,h3⟩:=jh hx;rw[ku h2,ku h3];obtain⟨hq,hp2⟩:=aO hp;simp only[decide_eq_true_eq]at hq;subst hq;obtain⟨r,hr2,hz⟩:=rF hp2;exact .pure hr hz (fun _=>QF hr2) (xi _ _) trivial
 .obtain ⟨x,y,rfl,h2,h3⟩:=jh hx;rw[ku h2,ku h3];obtain⟨r,hr2,hz⟩:=rF hp;exact .pure hr hz (fun _=>QE hr2) (xi _ _) trivial
 .obtain ⟨x,y,rfl,h2,h3⟩:=jh hx;rw[ku h2,ku h3];obtain⟨r,hr2,hz⟩:=rF hp;exact .pure hr hz (fun _=>QD hr2) (xi _ _) trivial
 .obtain ⟨x,y,rfl,h2,h3⟩:=jh hx;rw[wO h2,wO h3];obtain⟨r,hr2,hz⟩:=rF hp;exact .pure hr hz (fun _=>QH hr2) (Ro _) trivial
 .--alloc
  rename_i zl;obtain rfl:=lR hx;obtain⟨hq,hp2⟩:=aO hp;simp only[ai]at hq;obtain⟨q1,q2⟩:=hq;have q1:=qW q1;subst q1;refine .new (aD:=[]) hr hp2 (x:=.c (.op s.next 0)) (fun _=>rfl) ⟨_,rfl,?_,q2⟩ ?_ (cz (ed rfl (by cases t<;>rfl))) ⟨aZ _,by cases t<;>trivial⟩ fun i hi=>by simp at hi
  .exact ((xI (h:=(s.next,some (.bx t (O5 t)))::s.heap) (n:=s.next+1) t).1 q2).1
  .exact ((xI (h:=(s.next,some (.bx t (O5 t)))::s.heap) (n:=s.next+1) t).1 q2).2
 .--box
  obtain⟨x,rfl,h2⟩:=iP hx;split at hp
  .rename_i w hw;obtain⟨cw,e1,e2⟩:=qx (oP (FH hw) h2);obtain⟨q1,q2,q3,_⟩:=yy hw e1 (hk _ (by simp));refine .new (aD:=[]) hr hp (x:=.c (.op s.next 0)) (fun _=>by simp only[aB,aW,cQ,e2]) ⟨_,rfl,lC (lN.new _) q3 q1,q2⟩ (gR (bN _) (lN.new _) q3) (cz (ed rfl (by cases t<;>rfl))) ⟨aZ _,by cases t<;>trivial⟩ fun i hi=>by simp at hi
  .simp at hp
 .exact Em hp hr hx hk ha
 .--store
  obtain⟨x,y,rfl,h2,h3⟩:=jh hx;exact CF hr h2 (hk _ (by simp)) h3 (hk _ (by simp)) hp
 .--t6
  obtain⟨x,rfl,h2⟩:=iP hx;exact FP hr h2 (hk _ (by simp)) hp
 .--AK
  obtain⟨x,y,rfl,h2,h3⟩:=jh hx;rw[ku h2,ku h3];split at hp
  .exact Lb hr hp
  .simp at hp
 .obtain ⟨x,y,rfl,h2,h3⟩:=jh hx;exact CG hr h2 (hk _ (by simp)) h3 (hk _ (by simp)) (ha _ (by simp)) hp
 .--makeSlice
  rename_i zl _ l _ c;obtain⟨x,y,rfl,h2,h3⟩:=jh hx;rw[ku h2,ku h3];obtain⟨hq,hp2⟩:=aO hp;simp only[ai]at hq;obtain⟨q1,q2⟩:=hq;have q1:=qW q1;subst q1;obtain⟨hd,hs0⟩:=qa q2;obtain⟨r,hr2,hz⟩:=rF hp2;have hzl:cE (nu t)=aT t (sd t):=(qV t hd).symm;have hlen:(nu t).length=bE t:=by have:=congrArg mG hzl;rwa[bI,cE,aN]at this
  refine .new hr hz (fun _=>Ow hzl hr2) ⟨hd,hs0,fun l' e=>by cases e;rw[hlen]⟩ trivial ?_ (aZ _) fun i hi=>by simp at hi
  rw[hlen];exact v_ (s:=.mk r)
 .--slice of a string
  obtain⟨y,ys,rfl,h2,h3⟩:=gS hx;exact CK hr h2 h3 hp
 .obtain ⟨y,ys,rfl,h2,h3⟩:=gS hx;exact CL hr h2 (hk _ (by simp)) (ha _ (by simp)) h3 hp
 .obtain ⟨x,y,rfl,h2,h3⟩:=jh hx;rw[ku h3];exact LA hp hr h2 (hk _ (by simp)) (ha _ (by simp))
 .obtain ⟨x,y,rfl,h2,h3⟩:=jh hx;rw[ku h3];exact Lz hp hr h2 (hk _ (by simp))
 .--pA
  obtain⟨x,y,rfl,h2,h3⟩:=jh hx;rw[wO h2,ku h3];obtain⟨r,hr2,hz⟩:=rF hp;exact .pure hr hz (fun _=>Se hr2) (xi _ _) trivial
 .--index
  rename_i ag n0 sz0 n' u v _ i;obtain⟨x,y,rfl,h2,h3⟩:=jh hx;rw[ku h3];obtain⟨hq,hp2⟩:=aO hp;simp only[ai,beq_iff_eq]at hq;obtain⟨⟨⟨⟨rfl,rfl⟩,q3⟩,q4⟩,q5⟩:=hq;obtain⟨m,hm,hz⟩:=rF hp2;obtain⟨rfl,hm2⟩:=gA.1 hm;rw[UO h2];obtain⟨a1,a2⟩:=Es v hm2;have hc:Gv s.heap ag (bE u) (.x u (gt v.1 m))=true:=by simp[Gv,sW,xT,iB,q3,q4,q5]
  obtain⟨x,e1,e2⟩:=py (cs:=(aT (.ar n' u) v).map .d) (off:=m*bE u) (cw:=(aT u (gt v.1 m)).map .d) hc ⟨q4,rfl⟩ (by simpa using a1) (by rw[<-gy,<-g_,a2]);refine .pure hr hz (x:=x) (fun _=>?_) e2 trivial;simp only[aB,aW,cQ,cD];rw[if_pos ⟨by omega,by omega⟩];simp only[d_,e1]
 .--append
  obtain⟨x,y,rfl,h2,h3⟩:=jh hx;exact Eu (t0:=t) hp hr h2 (hk _ (by simp)) (ha _ (by simp)) h3 (hk _ (by simp)) (ha _ (by simp))
 .obtain ⟨x,y,rfl,h2,h3⟩:=jh hx;exact Ju (t0:=t) hp hr h2 (hk _ (by simp)) (ha _ (by simp)) h3 (hk _ (by simp)) (ha _ (by simp))
 .--clear
  obtain⟨y,rfl,h2⟩:=iP hx;exact Gt hp hr h2 (hk _ (by simp)) (ha _ (by simp))
 .--makeMap
  obtain rfl:=lR hx;split at hp
  .rename_i kt vt;obtain⟨hq,hp2⟩:=aO hp;simp only[ai,beq_iff_eq]at hq;obtain⟨⟨⟨rfl,rfl⟩,q3⟩,q4⟩:=hq;obtain⟨ks,hks⟩:=Option.isSome_iff_exists.1 q4;exact .new hr hp2 (x:=.c (.om s.next)) (fun _=>rfl) ⟨q3,⟨ks,hks⟩,rfl⟩ trivial (cz (ed rfl rfl)) (aZ _) fun i hi=>by simp at hi
  .simp at hp
 .obtain ⟨x,y,rfl,h2,h3⟩:=jh hx;exact Gg hr h2 h3 hp
 .obtain ⟨x,y,w,rfl,h2,h3,h4⟩:=PQ hx;rw[ku h3];exact D0 hr h2 h4 hp
 .simp at hp
end
end Go.Ev
