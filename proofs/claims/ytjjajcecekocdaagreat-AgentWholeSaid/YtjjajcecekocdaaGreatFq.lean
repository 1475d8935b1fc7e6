/- Operations that do not fail, against the abstract machine's, second part. Conditions: as stated. -/
import Derived.Test.YtjjajcecekocdaaGreatFh
open Bool renaming and_eq_true->ak,and_eq_true_iff->dm,and_true->j7
open Int renaming toNat_natCast->eC
open List renaming append_assoc->aR,cons_append->aU,drop_drop->dM,flatMap_cons->bg,flatten_cons->eW,getElem?_eq_getElem->aC,length->nq,length_append->bi,length_cons->c_,length_eq_zero_iff->bA,length_map->aM,map->mK,map_append->ed,map_cons->aq,map_drop->gm,map_map->mh,map_nil->aW,map_take->gH,mem_append->ao,mem_append_left->aI,mem_append_right->aG,mem_cons->aN,mem_cons_of_mem->aF,mem_cons_self->dL,mem_singleton->au,nil_append->bE,not_mem_nil->jj,replicate->aA,replicate_succ->iZ,singleton_append->bd
open List.cons renaming inj->cu,injEq->eh
open Nat renaming add_assoc->dz,add_mul->b_,le_of_ble_eq_true->gj,le_refl->am,le_succ->bI,lt_succ_self->aY
open Option.some renaming inj->aa,injEq->bM
open Prod.mk renaming inj->af
open Sigma.mk renaming inj->jP
namespace Go.Ev
section
variable{h:H2}{n:Nat}{h1:bC}
theorem QO{a b:Value}(he:V7 a b=true):a=b:=by unfold V7 at he;split at he<;>simp_all
theorem sg:∀{a b:List Value},uM a b=true->a=b:=by
 intro a;induction a with
 |nil=>intro b he;cases b<;>first|rfl|(simp[uM]at he)
 |cons x a ih=>intro b he;cases b with|nil=>simp[uM]at he|cons y b=>simp only[uM,ak]at he;rw[QO he.1,ih he.2]
theorem tW(a b:List Value):fm (a++b)=fm a++fm b:=by simp[fm]
theorem sf:∀(t:Ty),kQ t=true->aS t (mx t)=dn (oc t):=by
 intro t;induction t with
 |pr a c iha ihc=>intro hd;simp only[kQ,ak]at hd;simp[aS,mx,oc,dn,iha hd.1,ihc hd.2]
 |st t ih=>intro hd;exact ih hd
 |ar m t ih=>intro hd;have e:=ih hd;simp only[aS,mx,oc];clear hd ih;induction m with|zero=>rfl|succ m ihm=>simp only[iZ,bg,eW,e,dn,ed]at ihm|-;rw[ihm]
 |o k=>intro hd;simp[kQ]at hd
 |mp k v=>intro hd;simp[kQ]at hd
 |_=>intro _;rfl
theorem yy:∀(t:Ty),(eZ (BF t).1 false t=true->fG h (BF t).1 (fm (oc t))/\fD n h (BF t).1)/\(eZ (BF t).2 true t=true->fG h (BF t).2 (fm (oc t))/\fD n h (BF t).2):=by
 have one:∀(t:Ty)(v:V),(fG h v (fm (oc t))/\fD n h v)->(fG h (.co v .ni) (fm (oc t))/\fD n h (.co v .ni)):=fun t v hv=>⟨⟨_,[],by simp,hv.1,rfl⟩,hv.2,trivial⟩;have dt:∀(t:Ty),kQ t=true->fG h (.x t (mx t)) (fm (oc t)):=fun t hd=>⟨hd,by rw[sf t hd];simp[fm,dn]⟩;intro t;induction t with
 |pr a c iha ihc=>refine⟨fun hf=>by simp[BF,eZ]at hf,fun hf=>?_⟩;simp only[BF,eZ,ak]at hf;obtain⟨q1,q3⟩:=iha.1 hf.1;obtain⟨q4,q5⟩:=ihc.2 hf.2;exact⟨⟨_,_,tW _ _,q1,q4⟩,q3,q5⟩
 |st t ih=>cases hd:kQ t with|true=>have:=dt (.st t) hd;simp only[BF,hd,cond_true];exact⟨fun _=>⟨this,trivial⟩,fun _=>one (.st t) _ ⟨this,trivial⟩⟩|false=>simp only[BF,hd,cond_false];exact⟨fun hf=>ih.2 hf,fun hf=>one (.st t) _ (ih.2 hf)⟩
 |sl t ih=>cases hd:kQ t with|true=>have:=dt (.sl t) hd;simp only[BF,hd,cond_true];exact⟨fun _=>⟨this,trivial⟩,fun _=>one (.sl t) _ ⟨this,trivial⟩⟩|false=>simp only[BF,hd,cond_false];exact⟨fun _=>⟨rfl,trivial⟩,fun _=>one (.sl t) _ ⟨rfl,trivial⟩⟩
 |ar m t ih=>cases hd:kQ t with|true=>have:=dt (.ar m t) hd;simp only[BF,hd,cond_true];exact⟨fun _=>⟨this,trivial⟩,fun _=>one (.ar m t) _ ⟨this,trivial⟩⟩|false=>simp only[BF,hd,cond_false];exact⟨fun hf=>by simp[eZ]at hf,fun hf=>by simp[eZ]at hf⟩
 |o k=>
  have:fG h (.nl k) (fm (oc (.o k))):=by
   show fm (oc (.o k))=[DZ k]
   rcases k with _|_|_|_|k<;>rfl
  exact⟨fun _=>⟨this,trivial⟩,fun _=>one (.o k) _ ⟨this,trivial⟩⟩
 |mp k v=>exact⟨fun _=>⟨rfl,trivial⟩,fun _=>one (.mp k v) _ ⟨rfl,trivial⟩⟩
 |un=>exact⟨fun _=>⟨dt .un rfl,trivial⟩,fun _=>one .un _ ⟨dt .un rfl,trivial⟩⟩
 |i k=>exact⟨fun _=>⟨dt (.i k) rfl,trivial⟩,fun _=>one (.i k) _ ⟨dt (.i k) rfl,trivial⟩⟩
 |b=>exact⟨fun _=>⟨dt .b rfl,trivial⟩,fun _=>one .b _ ⟨dt .b rfl,trivial⟩⟩
 |s=>exact⟨fun _=>⟨dt .s rfl,trivial⟩,fun _=>one .s _ ⟨dt .s rfl,trivial⟩⟩
 |f k=>exact⟨fun _=>⟨dt (.f k) rfl,trivial⟩,fun _=>one (.f k) _ ⟨dt (.f k) rfl,trivial⟩⟩
theorem zn{t:Ty}{v w:V}{cs:List C}(hw:Nu t v=some w)(hv:fG h v cs)(hk:fD n h v):fG h w cs/\eZ w false t=true/\fD n h w/\uf w=uf v:=by
 unfold Nu at hw;split at hw
 .rename_i y hy;obtain rfl:=aa hw;cases hd:kQ t with|false=>rw[hd]at hy;simp at hy|true=>rw[hd,cond_true]at hy;exact⟨⟨hd,qg hy hv⟩,by simp[eZ],trivial,(ET hy).symm⟩
 .cases hf:eZ v false t with|false=>rw[hf]at hw;simp at hw|true=>rw[hf,cond_true]at hw;obtain rfl:=aa hw;exact⟨hv,hf,hk,rfl⟩
theorem MX{t:Ty}{v:V}{y:El t}(hy:iE t v=some y):Oo v:=by cases v<;>first|trivial|(simp[iE]at hy)
theorem O7{t:Ty}{v:V}(hf:eZ v false t=true):Oo v:=by cases v<;>first|trivial|(cases t<;>simp[eZ]at hf)
theorem F9{t:Ty}{v w:V}(hw:Nu t v=some w):Oo v:=by
 unfold Nu at hw;split at hw
 .rename_i y hy;cases hd:kQ t with|false=>rw[hd]at hy;simp at hy|true=>rw[hd,cond_true]at hy;exact MX hy
 .cases hf:eZ v false t with|false=>rw[hf]at hw;simp at hw|true=>exact O7 hf
theorem R_{t:Ty}{v:V}(hf:eZ v false t=true)(ha:lQ t=true):uf v=true:=by
 cases t<;>simp[lQ]at ha
 all_goals(cases v<;>first|rfl|(simp[eZ]at hf;done)|skip)
 .simp only[eZ,decide_eq_true_eq]at hf;subst hf;rfl
 .simp only[eZ,decide_eq_true_eq]at hf;subst hf;rfl
theorem M1{t:Ty}:∀(is:List Nat)(ps:List (Nat×Nat))(ws:List V)(c c':V)(cs:List C)(xs:List TV),xZ t is ps ws c=some c'->eZ c false t=true->fG h c cs->fD n h c->mR h ws xs->(∀w∈ws,fD n h w)->
  ∃cs',li cs (ps.zip xs)=some cs'/\fG h c' cs'/\fD n h c'/\eZ c' false t=true:=by
 intro is;induction is with
 |nil=>
  intro ps ws c c' cs xs hb hf hc hk hx hw;cases ps with
  |cons p ps=>simp[xZ]at hb
  |nil=>cases ws with|cons w ws=>simp[xZ]at hb|nil=>obtain rfl:=aa hb;exact⟨cs,by simp[li],hc,hk,hf⟩
 |cons i is ih=>
  intro ps ws c c' cs xs hb hf hc hk hx hw;cases ps with
  |nil=>simp[xZ]at hb
  |cons p ps=>
   obtain⟨off,m⟩:=p;cases ws with
   |nil=>simp[xZ]at hb
   |cons w ws=>
    obtain⟨x,ys,rfl,hx1,hx2⟩:=gA hx;have hw1:=hw w (by simp)
    have pN:∀(pe:Pe)(a:Ty),r_ t [pe]=some a->I1 t [pe]->nw t [pe]=off->ce a=m->(match Nu a w with|some w=>(match o5 c [pe] w with|some c=>bif eZ c false t then xZ t is ps ws c else none|none=>none)|none=>none)=some c'->
      ∃cs',li cs (((off,m),x)::ps.zip ys)=some cs'/\fG h c' cs'/\fD n h c'/\eZ c' false t=true:=by
     intro pe a h1 h2 h3 h4 hb;split at hb
     .rename_i w1 hw1';obtain⟨cw,q1,q2⟩:=ry (pn (F9 hw1') hx1);split at hb
      .rename_i c1 hc1;cases hfc:eZ c1 false t with|false=>rw[hfc]at hb;simp at hb|true=>rw[hfc,cond_true]at hb;obtain⟨k1,k2,k3,_⟩:=zn hw1' q1 hw1;have hl:=iS k1;rw[ie _ _ _ k2,h4]at hl;have hsp:=wM [pe] c t w1 c1 cs cw a hf hc h2 hc1 h1 k1 (by rw[hl,h4]);rw[h3]at hsp;have hle:=wU [pe] t a h1 h2;have hcl:=iS hc;rw[ie _ _ _ hf]at hcl;obtain⟨cs',e1,e2,e3,e4⟩:=ih ps ws c1 c' _ ys hb hfc hsp (He _ _ _ _ hk k3 hc1) hx2 fun w hw'=>hw w (by simp[hw']);refine⟨cs',?_,e2,e3,e4⟩;simp only[li,q2];rw[if_pos ⟨hl,by omega⟩,e1]
      .simp at hb
     .simp at hb
    cases t with
    |st u=>
     simp only[xZ]at hb;split at hb
     .rename_i a ha;cases hq:(pq u i==off)&&(ce a==m)with|false=>rw[hq]at hb;simp at hb|true=>rw[hq,cond_true]at hb;simp only[ak,beq_iff_eq]at hq;exact pN (.fd i) a (by simp[r_,ha]) ⟨a,ha,by cases a<;>trivial⟩ (by simp only[nw,ha];rw[hq.1];cases a<;>rfl) hq.2 hb
     .simp at hb
    |ar k u=>simp only[xZ]at hb;cases hq:(i*ce u==off)&&(ce u==m)&&decide (i<k)with|false=>rw[hq]at hb;simp at hb|true=>rw[hq,cond_true]at hb;simp only[ak,beq_iff_eq,decide_eq_true_eq]at hq;exact pN (.ix i) u (by simp[r_]) ⟨hq.2,by cases u<;>trivial⟩ (by simp only[nw];rw[hq.1.1];cases u<;>rfl) hq.1.2 hb
    |_=>simp[xZ]at hb
end
theorem SP(a b:ByteArray):(a==b)=decide (a=b):=by obtain⟨x⟩:=a;obtain⟨y⟩:=b;show ByteArray.beq ⟨x⟩ ⟨y⟩=_;unfold ByteArray.beq;rw[Bool.eq_iff_iff];simp[ByteArray.ext_iff]
def u_(t:Ty)(x:El t):List Value:=(aS t x).map fun|.lit y=>y|_=>.nilFunc
theorem xK{k1 k2:List Kd}{a1 a2 b1 b2:List Value}{p q:Bool}(h1:gB k1 a1 b1=some p)(h2:gB k2 a2 b2=some q):gB (k1++k2) (a1++a2) (b1++b2)=some (p&&q):=by
 induction k1 generalizing a1 b1 p with
 |nil=>cases a1<;>cases b1<;>simp[gB]at h1;subst h1;simpa using h2
 |cons k k1 ih=>
  cases a1<;>cases b1<;>simp only[gB]at h1<;>first|cases h1;done|skip
  split at h1
  .rename_i c d hc hd;obtain rfl:=aa h1;simp only[aU,gB,hc,ih hd,Bool.and_assoc]
  .simp at h1
theorem zE{k1 k2:List Kd}{a1 a2:List Value}(h1:yn k1 a1=true)(h2:yn k2 a2=true):yn (k1++k2) (a1++a2)=true:=by
 induction k1 generalizing a1 with
 |nil=>cases a1<;>simp[yn]at h1;simpa using h2
 |cons k k1 ih=>
  cases a1<;>simp only[yn]at h1<;>first|cases h1;done|skip
  simp only[ak]at h1;simp[yn,h1.1,ih h1.2]
theorem uB:∀(t:Ty)(ks:List Kd),Aj t=some ks->(∀x,aS t x=(u_ t x).map .lit)/\(∀x,yn ks (u_ t x)=true)/\(∀a b:El t,gB ks (u_ t a) (u_ t b)=some (decide (a=b)))/\ks.length=ce t:=by
 intro t;induction t with
 |pr a c iha ihc=>
  intro ks hk;simp only[Aj]at hk;split at hk
  .rename_i x y hx hy;obtain rfl:=aa hk;obtain⟨a1,a2,a3,a4⟩:=iha x hx;obtain⟨c1,c2,c3,c4⟩:=ihc y hy;have e:∀v:El (.pr a c),u_ (.pr a c) v=u_ a v.1++u_ c v.2:=fun v=>by simp[u_,aS]
   refine⟨fun v=>by rw[e,ed,<-a1,<-c1];rfl,fun v=>by rw[e];exact zE (a2 _) (c2 _),fun u v=>?_,by simp[ce,a4,c4]⟩;rw[e,e,xK (a3 _ _) (c3 _ _)];congr 1;rw[Bool.eq_iff_iff];simp[Prod.ext_iff]
  .simp at hk
 |st t ih=>intro ks hk;exact ih ks hk
 |ar m t ih=>
  intro ks hk;simp only[Aj]at hk;split at hk
  .rename_i x hx;obtain rfl:=aa hk;obtain⟨a1,a2,a3,a4⟩:=ih x hx;have e:∀v:El (.ar m t),u_ (.ar m t) v=v.1.flatMap (u_ t):=fun v=>by simp only[u_,aS,List.map_flatMap];rfl
   refine⟨fun v=>?_,fun v=>?_,fun u v=>?_,?_⟩
   .rw [e];simp only[aS,List.map_flatMap];congr 1;funext y;exact a1 y
   .rw [e];obtain⟨l,hl⟩:=v;clear e hk ih;simp only;induction l generalizing m with|nil=>subst hl;rfl|cons y l ihl=>subst hl;simp only[c_,iZ,eW,bg];exact zE (a2 y) (ihl _ rfl)
   .rw [e,e];obtain⟨l,hl⟩:=u;obtain⟨r,hr⟩:=v
    have key:∀(m:Nat)(l r:List (El t)),l.length=m->r.length=m->gB (aA m x).flatten (l.flatMap (u_ t)) (r.flatMap (u_ t))=some (decide (l=r)):=by
     intro m;induction m with
     |zero=>intro l r h1 h2;obtain rfl:=bA.1 h1;obtain rfl:=bA.1 h2;rfl
     |succ m ihm=>
      intro l r h1 h2;cases l with
      |nil=>simp at h1
      |cons y l=>cases r with|nil=>simp at h2|cons z r=>simp only[iZ,eW,bg];rw[xK (a3 y z) (ihm l r (by simpa using h1) (by simpa using h2))];congr 1;rw[Bool.eq_iff_iff];simp
    rw[key m l r hl hr];congr 1;rw[Bool.eq_iff_iff];simp only[decide_eq_true_eq];exact⟨fun h=>Subtype.ext h,fun h=>congrArg Subtype.val h⟩
   .simp [ce,a4]
  .simp at hk
 |i k=>intro ks hk;obtain rfl:=aa hk;refine⟨fun _=>rfl,fun x=>by simp[u_,aS,yn,Jj],fun a b=>?_,rfl⟩;simp only[u_,aS,aq,aW,gB,C3,and_self,if_true,j7];congr 1
 |b=>intro ks hk;obtain rfl:=aa hk;refine⟨fun _=>rfl,fun x=>by simp[u_,aS,yn,Jj],fun a b=>?_,rfl⟩;simp only[u_,aS,aq,aW,gB,C3,j7];congr 1
 |s=>intro ks hk;obtain rfl:=aa hk;refine⟨fun _=>rfl,fun x=>by simp[u_,aS,yn,Jj],fun a b=>?_,rfl⟩;simp only[u_,aS,aq,aW,gB,C3,j7];rw[SP]
 |_=>intro ks hk;simp[Aj]at hk
section
variable{h:H2}{n:Nat}{h1:bC}
theorem J4{z:Bool}{op:BinOp}{k k':IntKind}{a b:Int}{v:V}(hb:SN z op k k' a b=some v)(hz:z=true->0<b):∃y,pf op (.int k a) (.int k' b)=some y/\fZ h v (lv y)/\fD n h v:=by
 have one:∀(q:IntKind)(c:Int),fZ h (.x (.i q) c) (lv (.int q c)):=fun q c=>cA (eD rfl ⟨rfl,rfl⟩);have onb:∀(c:Bool),fZ h (.x .b c) (lv (.bool c)):=fun c=>cA (eD rfl ⟨rfl,rfl⟩);cases op<;>simp only[SN]at hb
 all_goals first
  |(cases z<;>simp only[cond_true,cond_false]at hb<;>first|(cases hb;done)|skip
    have:=hz rfl;obtain rfl:=aa hb;refine⟨_,by simp only[pf];rw[if_neg (by omega)];rfl,one _ _,trivial⟩)
  |skip
 all_goals
  by_cases hk:k=k'
  .subst hk;simp only[decide_true,cond_true]at hb
   first
    |(cases hb;done)
    |(obtain rfl:=aa hb
      refine⟨_,by simp only[pf,if_true];rfl,?_,trivial⟩
      first|exact one _ _|exact onb _)
    |(obtain rfl:=aa hb
      first
       |exact⟨.int k (oe k a b),by simp only[pf,if_true,fU];rfl,one _ _,trivial⟩
       |exact⟨.int k (H_ k a b),by simp only[pf,if_true,M_];rfl,one _ _,trivial⟩
       |exact⟨.int k (CI k a b),by simp only[pf,if_true,H9];rfl,one _ _,trivial⟩
       |exact⟨.int k (qT k a b),by simp only[pf,if_true,z7];rfl,one _ _,trivial⟩)
    |(cases z<;>simp only[cond_true,cond_false]at hb<;>first|(cases hb;done)|skip
      have:=hz rfl;obtain rfl:=aa hb;refine⟨_,by simp only[pf,if_true];rw[if_neg (by omega)],one _ _,trivial⟩)
  .simp [hk]at hb
theorem Da{h:H2}{k:FloatKind}{a:Nat}{x:TV}(hx:fZ h (.x (.f k) a) x):x=lv (.float k a):=by obtain⟨c,rfl,_,hc⟩:=ju (v:=.x (.f k) a) hx rfl;obtain rfl:=(cu hc).1;rfl
theorem GP{op:BinOp}{k k':FloatKind}{a b:Nat}{v:V}(hb:M3 op k k' a b=some v):∃y,oG op (.float k a) (.float k' b)=some y/\fZ h v (lv y)/\fD n h v:=by
 have one:∀(q:FloatKind)(c:Nat),fZ h (.x (.f q) c) (lv (.float q c)):=fun q c=>cA (eD rfl ⟨rfl,rfl⟩);have onb:∀(c:Bool),fZ h (.x .b c) (lv (.bool c)):=fun c=>cA (eD rfl ⟨rfl,rfl⟩);unfold M3 at hb;by_cases hk:k=k'
 .subst hk;simp only[decide_true,cond_true]at hb;have ar:∀(f:Option Nat),∃y,(match f.map (Value.float k)with|some v=>some v|none=>if f=none then some (Value.float k (uO k))else none)=some y/\fZ h (.x (.f k) (f.getD (uO k))) (lv y)/\fD n h (.x (.f k) (f.getD (uO k))):=by intro f;cases f with|none=>exact⟨_,rfl,one _ _,trivial⟩|some c=>exact⟨_,rfl,one _ _,trivial⟩
  cases op<;>first
   |(cases hb;done)
   |(obtain rfl:=aa hb
     first
      |exact⟨_,by simp only[oG,pf,if_true];rfl,onb _,trivial⟩
      |(simp only[oG,pf,B5,if_true]
        first|exact ar (k.format.add a b)|exact ar (k.format.sub a b)|exact ar (k.format.mul a b)|exact ar (k.format.div a b)))
 .simp [hk]at hb
theorem I8{m:Bool}{k:FloatKind}:∀{r:List V}{x y:Nat}{xs:List TV},I9 m k x r=some y->mR h r xs->Lr m (.float k x) (xs.map some)=some (.float k y):=by
 intro r;induction r with
 |nil=>intro x y xs hm hx;obtain rfl:=lB hx;obtain rfl:=aa hm;rfl
 |cons v r ih=>
  intro x y xs hm hx;obtain⟨x1,ys,rfl,h1,h2⟩:=gA hx;cases v with
  |x t c=>
   cases t with
   |f k'=>
    simp only[I9]at hm;by_cases hk:k'=k
    .subst hk;simp only[decide_true,cond_true]at hm;obtain rfl:=Da h1;have:=ih hm h2;have e:C0 m (.float k' x) (.float k' c)=some (.float k' (bif m then Sb k' x c else Sa k' x c)):=by cases m<;>simp only[C0,Sb,Sa,cond_true,cond_false,if_true]<;>(cases k'.format.order x c with|none=>rfl|some o=>cases o<;>rfl)
     simp only[aq,lv,Lr,e];exact this
    .simp [hk]at hm
   |_=>simp[I9]at hm
  |_=>simp[I9]at hm
theorem J3{op:BinOp}{a b:ByteArray}{v:V}(hb:SM op a b=some v):∃y,pf op (.string a) (.string b)=some y/\fZ h v (lv y)/\fD n h v:=by
 have onb:∀(c:Bool),fZ h (.x .b c) (lv (.bool c)):=fun c=>cA (eD rfl ⟨rfl,rfl⟩);cases op<;>simp only[SM]at hb<;>first|(cases hb;done)|skip
 all_goals(obtain rfl:=aa hb;exact⟨_,rfl,onb _,trivial⟩)
theorem Ls{m:Bool}{k:IntKind}:∀{r:List V}{x y:Int}{xs:List TV},Th m k x r=some y->mR h r xs->Lr m (.int k x) (xs.map some)=some (.int k y):=by
 intro r;induction r with
 |nil=>intro x y xs hm hx;obtain rfl:=lB hx;obtain rfl:=aa hm;rfl
 |cons v r ih=>
  intro x y xs hm hx;obtain⟨x1,ys,rfl,h1,h2⟩:=gA hx;cases v with
  |x t c=>
   cases t with
   |i k'=>
    simp only[Th]at hm;by_cases hk:k'=k
    .subst hk;simp only[decide_true,cond_true]at hm;obtain rfl:=kI h1;have:=ih hm h2;cases m<;>simpa[Lr,C0]using this
    .simp [hk]at hm
   |_=>simp[Th]at hm
  |_=>simp[Th]at hm
theorem nR{α:Type}:∀(l:List α),dY (l.map some)=some l:=by intro l;induction l with|nil=>rfl|cons a l ih=>simp[dY,ih]
theorem Ll{kind:Nat}{v w:V}{x:TV}{neg:Bool}{c:Call}{nx:Nat}(hx:fZ h v x)(ha:iU h v=true)(hn:zq h kind v=some w):
  ∃y,cC c (.rS kind neg) [some x] h1 nx=some (y,[],[],nx)/\fZ h (bif neg then Ln w else w) y/\fD n h (bif neg then Ln w else w):=by
 have kb:∀b,fZ h (.kb b) (tB b):=fun b=>cA (eD rfl rfl);have xb:∀b,fZ h (.x .b b) (tB b):=fun b=>cA (eD rfl ⟨rfl,rfl⟩)
 have sl:∀q,uN h v=some q->(bif kind==0 then(match uN h v with|some ⟨_,s,_⟩=>some (.x .b s.fF)|none=>none)else none)=some w->
   ∃y,cC c (.rS kind neg) [some x] h1 nx=some (y,[],[],nx)/\fZ h (bif neg then Ln w else w) y/\fD n h (bif neg then Ln w else w):=by
  intro q hq hw;cases hkk:kind==0 with
  |false=>rw[hkk]at hw;simp at hw
  |true=>
   obtain rfl:kind=0:=by simpa using hkk
   rw[hq]at hw;simp only[hkk,cond_true]at hw;obtain rfl:=aa hw;refine⟨_,Rw hx ha hq,?_⟩;cases neg
   .exact ⟨xb _,trivial⟩
   .exact ⟨xb _,trivial⟩
 cases v with
 |nl k=>
  simp only[zq]at hn;cases hkk:(k==kind)&&Nat.blt k 3 with
  |false=>rw[hkk]at hn;simp at hn
  |true=>
   rw[hkk,cond_true]at hn;obtain rfl:=aa hn;simp only[ak,beq_iff_eq]at hkk;obtain⟨rfl,hlt⟩:=hkk;have hlt:k<3:=gj hlt;rw[wF hx]
   match k,hlt with|0,_=>cases neg<;>exact⟨_,rfl,kb _,trivial⟩|1,_=>cases neg<;>exact⟨_,rfl,kb _,trivial⟩|2,_=>cases neg<;>exact⟨_,rfl,kb _,trivial⟩
 |pt t v=>
  simp only[zq]at hn;cases hkk:kind==1 with
  |false=>rw[hkk]at hn;simp at hn
  |true=>
   rw[hkk,cond_true]at hn;obtain rfl:=aa hn;obtain rfl:kind=1:=by simpa using hkk
   rw[(yD hx).2];cases neg<;>exact⟨_,rfl,kb _,trivial⟩
 |op id t p=>
  simp only[zq]at hn;cases hkk:kind==1 with
  |false=>rw[hkk]at hn;simp at hn
  |true=>
   rw[hkk,cond_true]at hn;obtain rfl:=aa hn;obtain rfl:kind=1:=by simpa using hkk
   rw[wE hx];cases neg<;>exact⟨_,rfl,kb _,trivial⟩
 |ep id m t p=>
  simp only[zq]at hn;cases hkk:kind==1 with
  |false=>rw[hkk]at hn;simp at hn
  |true=>
   rw[hkk,cond_true]at hn;obtain rfl:=aa hn;obtain rfl:kind=1:=by simpa using hkk
   rw[tC hx];cases neg<;>exact⟨_,rfl,kb _,trivial⟩
 |fn z f l=>
  simp only[zq]at hn;cases hkk:kind==2 with
  |false=>rw[hkk]at hn;simp at hn
  |true=>
   rw[hkk,cond_true]at hn;obtain rfl:=aa hn;obtain rfl:kind=2:=by simpa using hkk
   rcases Z3 hx with⟨_,ds,_,rfl⟩|⟨_,cs,_,rfl⟩<;>(cases neg<;>exact⟨_,rfl,kb _,trivial⟩)
 |x t v=>cases hq:uN h (.x t v)with|none=>simp[zq,hq]at hn|some q=>exact sl q hq hn
 |so id=>cases hq:uN h (.so id)with|none=>simp[zq,hq]at hn|some q=>exact sl q hq hn
 |sb id ver lo t r=>cases hq:uN h (.sb id ver lo t r)with|none=>simp[zq,hq]at hn|some q=>exact sl q hq hn
 |_=>simp[zq,uN]at hn
theorem Mi{off m i:Nat}{v w:V}{x:TV}{c:Call}{nx:Nat}(hx:fZ h v x)(hk:fD n h v)(hw:Gr off m i v=some w):
  ∃y,cC c (.fieldAddr off m) [some x] h1 nx=some (y,[],[],nx)/\fZ h w y/\fD n h w:=by
 have path:∀(t u a:Ty)(p:qo),r_ t p=some (.st u)->C1 u i=some a->I1 t p->I1 t (p++[.fd i])/\nw t (p++[.fd i])=nw t p+pq u i:=by
  intro t u a p;induction p generalizing t with
  |nil=>
   intro h1 h2 _;have e:r_ t []=some t:=by cases t<;>rfl
   obtain rfl:t=.st u:=by rw[e]at h1;exact aa h1
   refine⟨⟨a,h2,by cases a<;>trivial⟩,?_⟩;simp only[bE,nw,h2];cases a<;>simp[nw]
  |cons q p ih=>
   intro h1 h2 h3;cases q with
   |fd j=>cases t with|st t=>obtain⟨b2,hb,h3⟩:=h3;simp only[r_,hb]at h1;obtain⟨q1,q2⟩:=ih b2 h1 h2 h3;refine⟨⟨b2,hb,q1⟩,?_⟩;simp only[aU,nw,hb,q2];exact(dz _ _ _).symm|_=>exact h3.elim
   |ix k=>cases t with|ar l t=>obtain⟨hk,h3⟩:=h3;obtain⟨q1,q2⟩:=ih t h1 h2 h3;refine⟨⟨hk,q1⟩,?_⟩;simp only[aU,nw,q2];exact(dz _ _ _).symm|_=>exact h3.elim
 cases v with
 |op id t p=>
  simp only[Gr]at hw;split at hw
  .rename_i u hu;split at hw
   .rename_i a hf;cases hq:(pq u i==off)&&(ce a==m)with
    |false=>rw[hq]at hw;simp at hw
    |true=>
     rw[hq,cond_true]at hw;obtain rfl:=aa hw;simp only[ak,beq_iff_eq]at hq;obtain⟨q1,q2⟩:=path t u a p hu hf hk.2;rw[wE hx];refine⟨_,rfl,cA (eD rfl ?_),hk.1,q1⟩;show[_]=[_]
     rw[q2,hq.1]
   .simp at hw
  .simp at hw
 |ep id k t p=>
  simp only[Gr]at hw;split at hw
  .rename_i u hu;split at hw
   .rename_i a hf;cases hq:(pq u i==off)&&(ce a==m)with
    |false=>rw[hq]at hw;simp at hw
    |true=>
     rw[hq,cond_true]at hw;obtain rfl:=aa hw;simp only[ak,beq_iff_eq]at hq;obtain⟨q1,q2⟩:=path t u a p hu hf hk.2.1;rw[tC hx];refine⟨_,rfl,cA (eD rfl ?_),hk.1,q1,hk.2.2⟩;show[_]=[_]
     rw[q2,hq.1]
   .simp at hw
  .simp at hw
 |pt t v=>
  cases t with
  |st u=>
   simp only[Gr]at hw;split at hw
   .rename_i a y hy;cases hq:(pq u i==off)&&(ce a==m)with
    |false=>rw[hq]at hw;simp at hw
    |true=>
     rw[hq,cond_true]at hw;obtain rfl:=aa hw;simp only[ak,beq_iff_eq]at hq;obtain⟨a',y',e,f1,f2,f3⟩:=rN _ _ _ _ hy;cases e;obtain⟨hd,rfl⟩:=yD hx;refine⟨_,?_,cA (eD (c:=.d (.pt (aS a y))) rfl ⟨zP u _ _ hd f1,rfl⟩),trivial⟩;have hle:off+m<=(aS (.st u) v).length:=by rw[bW];show _<=ce u;omega
     have e2:((aS (.st u) v).drop off).take m=aS a y:=by rw[<-hq.1,<-hq.2];exact f3
     simp only[cC,kJ];rw[if_pos hle,e2]
   .simp at hw
  |_=>simp[Gr]at hw
 |_=>simp[Gr]at hw
theorem I3:∀(l:V)(i:Nat)(w:V)(cs:List C),fG h l cs->sZ l i=some w->∃cw,fG h w cw/\O4 l i+yL w<=cs.length/\(cs.drop (O4 l i)).take (yL w)=cw:=by
 intro l;induction l with
 |co a r iha ihr=>intro i w cs hv hw;obtain⟨x,y,rfl,k1,k2⟩:=hv;have hl:=iS k1;cases i with|zero=>obtain rfl:=aa hw;refine⟨x,k1,by simp[O4];omega,?_⟩;simp only[O4,List.drop_zero];rw[<-hl,List.take_left]|succ i=>obtain⟨cw,q1,q2,q3⟩:=ihr i w y k2 hw;refine⟨cw,q1,by simp only[O4,bi];omega,?_⟩;simp only[O4];rw[<-dM,<-hl,List.drop_left,q3]
 |_=>intro i w cs hv hw;simp[sZ]at hw
theorem OF:∀(l:V)(i:Nat)(w:V)(xs:List TV),BJ h l xs->sZ l i=some w->∃x,xs[i]?=some x/\tD h w x:=by
 intro l;induction l with
 |co a r iha ihr=>intro i w xs hv hw;obtain⟨x,ys,rfl,k1,k2⟩:=hv;cases i with|zero=>obtain rfl:=aa hw;exact⟨x,rfl,k1⟩|succ i=>exact ihr i w ys k2 hw
 |_=>intro i w xs hv hw;simp[sZ]at hw
end
section
variable{h:H2}{n:Nat}{h1:bC}
def S8(h:H2)(n:Nat)(h1:bC)(k:K)(xs:List TV)(v:V)(l:List Nat):Prop:=∀(c:Call)(nx:Nat),∃x az,cC c k (xs.map some) h1 nx=some (x,[],az,nx)/\fZ h v x/\fD n h v/\∀i∈az,i∈l
theorem S8.of{k:K}{xs:List TV}{v:V}{x:TV}(he:∀(c:Call)(nx:Nat),cC c k (xs.map some) h1 nx=some (x,[],[],nx))(hx:fZ h v x)(hk:fD n h v):S8 h n h1 k xs v []:=fun c nx=>⟨x,[],he c nx,hx,hk,fun i hi=>by simp at hi⟩
theorem xb(b:Bool):fZ h (.x .b b) (tB b):=cA (eD rfl ⟨rfl,rfl⟩)
theorem xf(k:FloatKind)(a:Nat):fZ h (.x (.f k) a) (lv (.float k a)):=cA (eD rfl ⟨rfl,rfl⟩)
theorem xi(k:IntKind)(a:Int):fZ h (.x (.i k) a) (tI k a):=cA (eD rfl ⟨rfl,rfl⟩)
theorem Td(a:ByteArray):fZ h (.x .s a) (.c (.d (dS a))):=cA (eD rfl ⟨rfl,rfl⟩)
def Te(t:Ty)(y:El t):TV:=if lQ t=true then .agg ((aS t y).map .d)else match aS t y with|d::_=>.c (.d d)|[]=>.ia []
theorem G5{t:Ty}(y:El t){va:Bool}(hv:lQ t=va)(h1:(va||ce t==1)=true):pM va (aS t y)=some (Te t y):=by
 subst hv;unfold pM Te;cases ha:lQ t with
 |true=>rfl
 |false=>
  rw[ha]at h1;have:=bW t y;rw[show ce t=1 by simpa using h1]at this;cases he:aS t y with
  |nil=>rw[he]at this;simp at this
  |cons d r=>
   rw[he]at this;have:r=[]:=by simpa using this
   subst this;rfl
theorem Kq{t:Ty}{y:El t}(hd:kQ t=true)(h1:(lQ t||ce t==1)=true):tD h (.x t y) (Te t y):=by
 unfold Te;cases ha:lQ t with
 |true=>exact yF ha ⟨hd,rfl⟩
 |false=>
  rw[ha]at h1;have:=bW t y;rw[show ce t=1 by simpa using h1]at this;cases he:aS t y with
  |nil=>rw[he]at this;simp at this
  |cons d r=>
   rw[he]at this;have:r=[]:=by simpa using this
   subst this;exact eD ha ⟨hd,by rw[he];rfl⟩
theorem J_(f:TV->Option C)(hf:∀c,f (.c c)=some c):∀(cs:List C),dY ((cs.map TV.c).map f)=some cs:=by intro cs;induction cs with|nil=>rfl|cons c cs ih=>simp only[aq,hf,dY,ih]
theorem zB:∀(l:List Value),mn (l.map fun v=>C.d (.lit v))=some l:=by intro l;induction l with|nil=>rfl|cons v l ih=>simp[mn,ih]
theorem wg{kt:Ty}{ks:List Kd}{v:V}{x:TV}{y:El kt}{ka:Bool}(hx:fZ h v x)(hc:sd kt v=some y)(hk:Aj kt=some ks)(ha:lQ kt=ka):nh ka ks x=some (u_ kt y):=by
 obtain⟨h1,h2,_,h4⟩:=uB kt ks hk;obtain⟨g1,g2⟩:=uH hx hc;cases ka with
 |true=>
  rw[g1 ha];have e:(aS kt y).map C.d=(u_ kt y).map fun v=>C.d (.lit v):=by rw[h1 y,mh];rfl
  simp only[nh];rw[if_pos ⟨trivial,by rw[aM,bW,h4]⟩,e,zB];simp only[h2 y,if_true]
 |false=>
  obtain⟨d,hd,rfl⟩:=g2 ha;have hl:=bW kt y;rw[hd]at hl;have h5:=h1 y;rw[hd]at h5;cases hv:u_ kt y with
  |nil=>rw[hv]at h5;simp at h5
  |cons q r=>
   rw[hv]at h5;simp only[aq,eh]at h5;obtain⟨rfl,h6⟩:=h5;have:r=[]:=by simpa using h6.symm
   subst this;simp only[nh];rw[if_pos ⟨trivial,by rw[h4,<-hl];rfl⟩];have h7:=h2 y;rw[hv]at h7;simp only[mn,h7,if_true]
theorem Lv{v:V}{q:(k:Ty)×(v:Ty)×Mp (El k) (El v)×List Nat}{x:TV}(hr:HR n h1 h)(hm:OM h v=some q)(hx:fZ h v x):
  ∃id,v=.om id/\x=.c (.om id)/\q.2.2.2=[id]/\fO h id=some (.mp q.1 q.2.1 q.2.2.1)/\aw h1 id=ym (lQ q.1) (lQ q.2.1) (u_ q.1) (aS q.2.1) q.2.2.1:=by
 cases v with
 |om id=>
  simp only[OM]at hm;split at hm
  .rename_i k v m ho;obtain rfl:=aa hm;exact⟨id,rfl,yE hx,rfl,ho,(hr.ob id _ ho).2.1.2.2⟩
  .simp at hm
 |_=>simp[OM]at hm
theorem Lx{c:Call}{x y:TV}{H:bC}{l:List Nat}{nx:Nat}(h:cC c (.load false 1) [some x] H nx=some (y,[],l,nx)):cC c .uY [some x] H nx=some (y,[],l,nx):=by
 cases x with
 |c p=>
  have h:(match iv false 1 p H with|some (v,az)=>some (v,([]:eS),az,nx)|none=>none)=some (y,[],l,nx):=h;show(match iv false 1 p H with|some (v,az)=>some (v,([]:eS),az,nx)|none=>lY false 1 p H nx)=some (y,[],l,nx);split at h
  .exact h
  .cases h
 |_=>cases h
theorem In{o:OP}{vs:List V}{v:V}{l:List Nat}{xs:List TV}(hr:HR n h1 h)(ht:P_ o vs h=some (v,l))(hx:mR h vs xs)(hk:∀w∈vs,fD n h w)(ha:∀w∈vs,iU h w=true)
  (hp:Oj o.o.args=true->∀a k b,vs=[a,.x (.i k) b]->0<b):S8 h n h1 o.o.k xs v l:=by
 obtain⟨⟨d,k,args,g⟩,t,fi⟩:=o;simp only at hp|-;unfold P_ at ht;simp only at ht;split at ht
 .--mv
  obtain⟨rfl,rfl⟩:=af (aa ht);obtain⟨x,rfl,h2⟩:=iJ hx;exact .of (fun _ _=>rfl) h2 (hk _ (by simp))
 .--nilCheck
  obtain⟨x,rfl,h2⟩:=iJ hx;have hk1:=hk _ (au.2 rfl);split at ht
  .obtain ⟨rfl,rfl⟩:=af (aa ht);exact .of (fun _ _=>by rw[(yD h2).2];rfl) h2 hk1
  .obtain ⟨rfl,rfl⟩:=af (aa ht);refine .of (fun _ _=>?_) h2 hk1;rcases Z3 h2 with⟨_,ds,_,rfl⟩|⟨_,cs,_,rfl⟩<;>rfl
  .obtain ⟨rfl,rfl⟩:=af (aa ht);exact .of (fun _ _=>by rw[tC h2];rfl) h2 hk1
  .obtain ⟨rfl,rfl⟩:=af (aa ht);exact .of (fun _ _=>by rw[wE h2];rfl) h2 hk1
  .simp at ht
 .--th int
  rename_i op q a q' b;obtain⟨x,y,rfl,h2,h3⟩:=jb hx;obtain rfl:=kI h2;obtain rfl:=kI h3;split at ht
  .rename_i w hw;obtain⟨rfl,rfl⟩:=af (aa ht);obtain⟨y,h4,h5,h6⟩:=J4 (h:=h) (n:=n) hw fun hz=>hp hz _ _ _ rfl;exact .of (fun _ _=>by simp only[mK,cC,oG,h4]) h5 h6
  .simp at ht
 .--th float
  rename_i op q a q' b;obtain⟨x,y,rfl,h2,h3⟩:=jb hx;obtain rfl:=Da h2;obtain rfl:=Da h3;split at ht
  .rename_i w hw;obtain⟨rfl,rfl⟩:=af (aa ht);obtain⟨y,h4,h5,h6⟩:=GP (h:=h) (n:=n) hw;exact .of (fun _ _=>by show(match oG op (.float q a) (.float q' b)with|some v=>some (lv v,([]:eS),([]:List Nat),_)|none=>none)=_;rw[h4]) h5 h6
  .simp at ht
 .--th string
  obtain⟨x,y,rfl,h2,h3⟩:=jb hx;obtain rfl:=xy h2;obtain rfl:=xy h3;split at ht
  .rename_i w hw;obtain⟨rfl,rfl⟩:=af (aa ht);obtain⟨y,h4,h5,h6⟩:=J3 (h:=h) (n:=n) hw;exact .of (fun _ _=>by simp only[mK,cC,oG,h4]) h5 h6
  .simp at ht
 .--vz
  rename_i neg v1 v2;obtain⟨x,y,rfl,h2,h3⟩:=jb hx;split at ht
  .rename_i a b ha' hb';obtain⟨rfl,rfl⟩:=af (aa ht);rw[Qw h2 ha',Qw h3 hb'];refine .of (x:=tB (bif neg then !(a==b)else a==b)) (fun _ _=>?_) (xb _) trivial;cases neg<;>rfl
  .simp at ht
 .--rS
  obtain⟨x,rfl,h2⟩:=iJ hx;split at ht
  .rename_i w hw;obtain⟨rfl,rfl⟩:=af (aa ht);intro c nx;obtain⟨y,h4,h5,h6⟩:=Ll (n:=n) (h1:=h1) (c:=c) (nx:=nx) h2 (ha _ (by simp)) hw;exact⟨y,[],h4,h5,h6,fun i hi=>by simp at hi⟩
  .simp at ht
 .--zJ
  rename_i neg ks t1 a w;obtain⟨x,y,rfl,h2,h3⟩:=jb hx;split at ht
  .rename_i b hb;cases hq:lQ t1&&decide (Aj t1=some ks)with
   |false=>rw[hq]at ht;simp at ht
   |true=>
    rw[hq,cond_true]at ht;obtain⟨rfl,rfl⟩:=af (aa ht);simp only[ak,decide_eq_true_eq]at hq;obtain⟨k1,k2,k3,k4⟩:=uB t1 ks hq.2;have e1:=(uH (v:=.x t1 a) (u:=t1) (y:=a) h2 (by simp[sd,ll,iE,gC])).1 hq.1;have e2:=(uH h3 hb).1 hq.1;have el:∀z:El t1,mn ((aS t1 z).map C.d)=some (u_ t1 z):=fun z=>by rw[show(aS t1 z).map C.d=(u_ t1 z).map fun v=>C.d (.lit v)by rw[k1 z,mh];rfl,zB]
    rw[e1,e2];refine .of (x:=tB (bif neg then !(decide (a=b))else decide (a=b))) (fun _ _=>?_) (xb _) trivial;simp only[mK,cC,el,k3];cases neg<;>rfl
  .simp at ht
 .obtain ⟨rfl,rfl⟩:=af (aa ht);obtain⟨x,rfl,h2⟩:=iJ hx;rw[wG h2];exact .of (fun _ _=>rfl) (cA (eD rfl rfl)) trivial
 .obtain ⟨rfl,rfl⟩:=af (aa ht);obtain⟨x,rfl,h2⟩:=iJ hx;rw[G7 h2];exact .of (fun _ _=>rfl) (xb _) trivial
 .obtain ⟨rfl,rfl⟩:=af (aa ht);obtain⟨x,rfl,h2⟩:=iJ hx;rw[kI h2];exact .of (fun _ _=>rfl) (xi _ _) trivial
 .obtain ⟨rfl,rfl⟩:=af (aa ht);obtain⟨x,rfl,h2⟩:=iJ hx;rw[Da h2];exact .of (fun _ _=>rfl) (xf _ _) trivial
 .obtain ⟨rfl,rfl⟩:=af (aa ht);obtain⟨x,rfl,h2⟩:=iJ hx;rw[kI h2];exact .of (fun _ _=>rfl) (xi _ _) trivial
 .obtain ⟨rfl,rfl⟩:=af (aa ht);obtain⟨x,rfl,h2⟩:=iJ hx;rw[kI h2];exact .of (fun _ _=>rfl) (xi _ _) trivial
 .obtain ⟨rfl,rfl⟩:=af (aa ht);obtain⟨x,rfl,h2⟩:=iJ hx;rw[kI h2];exact .of (fun _ _=>rfl) (xf _ _) trivial
 .obtain ⟨rfl,rfl⟩:=af (aa ht);obtain⟨x,rfl,h2⟩:=iJ hx;rw[xy h2];exact .of (fun _ _=>rfl) (Td _) trivial
 .--Jb
  rename_i f;cases hc:vs.all PM with
  |false=>rw[hc]at ht;simp at ht
  |true=>
   rw[hc,cond_true]at ht;obtain⟨rfl,rfl⟩:=af (aa ht);obtain⟨cs,h2,rfl⟩:=Kr hx fun w hw=>by have:=List.all_eq_true.1 hc w hw;cases w<;>first|exact⟨trivial,by simp[PM]at this;exact this⟩|simp[PM]at this
   refine .of (x:=.c (.pp f cs)) (fun _ _=>?_) (cA (eD rfl ⟨cs,h2,rfl⟩)) ?_
   .simp only[cC,nR];rw[J_ _ fun _=>rfl]
   .clear ht h2 hp ha hc hx;induction vs with|nil=>trivial|cons w vs ih=>exact⟨hk w (by simp),ih fun u hu=>hk u (by simp[hu])⟩
 .--load
  rename_i g m p;obtain⟨x,rfl,h2⟩:=iJ hx;split at ht
  .rename_i w l' hl;cases hc:GG h g m w with|false=>rw[hc]at ht;simp at ht|true=>rw[hc,cond_true]at ht;obtain⟨rfl,rfl⟩:=af (aa ht);intro c nx;obtain⟨y,h3,h4,h5⟩:=wY (c:=c) (nx:=nx) hr hl hc h2 (hk _ (by simp));exact⟨y,_,h3,h4,h5,fun i hi=>hi⟩
  .simp at ht
 .--load of a slice
  obtain⟨x,rfl,h2⟩:=iJ hx;split at ht
  .rename_i w l' hl;cases hc:GG h false 1 w with|false=>rw[hc]at ht;simp at ht|true=>rw[hc,cond_true]at ht;obtain⟨rfl,rfl⟩:=af (aa ht);intro c nx;obtain⟨y,h3,h4,h5⟩:=wY (c:=c) (nx:=nx) hr hl hc h2 (hk _ (by simp));exact⟨y,_,Lx h3,h4,h5,fun i hi=>hi⟩
  .simp at ht
 .--fieldAddr
  obtain⟨x,rfl,h2⟩:=iJ hx;split at ht
  .split at ht
   .rename_i w hw;obtain⟨rfl,rfl⟩:=af (aa ht);intro c nx;obtain⟨y,h3,h4,h5⟩:=Mi (h1:=h1) (c:=c) (nx:=nx) h2 (hk _ (by simp)) hw;exact⟨y,[],h3,h4,h5,fun i hi=>by simp at hi⟩
   .simp at ht
  .simp at ht
 .--field of data
  rename_i g off m u y;obtain⟨x,rfl,h2⟩:=iJ hx;split at ht
  .split at ht
   .rename_i i _ w hw;cases hc:(pq u i==off)&&GG h g m w with
    |false=>rw[hc]at ht;simp at ht
    |true=>
     rw[hc,cond_true]at ht;obtain⟨rfl,rfl⟩:=af (aa ht);simp only[ak,beq_iff_eq]at hc;obtain⟨a,z,rfl,f1,f2,f3⟩:=rN _ _ _ _ hw;obtain⟨cs,⟨hd,rfl⟩,g1,_⟩:=pn (v:=.x (.st u) y) trivial h2;have hd':kQ u=true:=hd;obtain⟨_,hs,_,_⟩:=oY hc.2;have hs:ce a=m:=hs
     obtain⟨q,h3,h4⟩:=p8 (cs:=(aS u y).map C.d) (off:=off) hc.2 (show fG h (.x a z) ((aS a z).map .d)from⟨zP u _ _ hd' f1,rfl⟩) (by simp[bW];omega)
      (by rw[<-hc.1,<-hs,<-f3,gH,gm])
     rw[g1 rfl];exact .of (x:=q) (fun _ _=>by show(match D8 g m (((aS u y).map C.d).drop off)with|some v=>some (v,([]:eS),([]:List Nat),_)|none=>none)=_;rw[h3]) h4 trivial
   .simp at ht
  .simp at ht
 .--field of a fy
  rename_i g off m u;obtain⟨x,rfl,h2⟩:=iJ hx;split at ht
  .split at ht
   .rename_i i _ w hw;cases hc:(O4 u i==off)&&GG h g m w with|false=>rw[hc]at ht;simp at ht|true=>rw[hc,cond_true]at ht;obtain⟨rfl,rfl⟩:=af (aa ht);simp only[ak,beq_iff_eq]at hc;obtain⟨cs,hcs,g1,_⟩:=pn (v:=.rc u) trivial h2;obtain⟨cw,q1,q2,q3⟩:=I3 u i w cs hcs hw;obtain⟨_,hs,_,_⟩:=oY hc.2;obtain⟨q,h3,h4⟩:=p8 (off:=off) hc.2 q1 (by rw[<-hc.1,<-hs];exact q2) (by rw[<-hc.1,<-hs];exact q3);rw[g1 rfl];exact .of (x:=q) (fun _ _=>by show(match D8 g m (cs.drop off)with|some v=>some (v,([]:eS),([]:List Nat),_)|none=>none)=_;rw[h3]) h4 (yl u i w (hk (.rc u) (au.2 rfl)) hw)
   .simp at ht
  .simp at ht
 .--extract
  rename_i i u;obtain⟨x,rfl,h2⟩:=iJ hx;split at ht
  .rename_i w hw;obtain⟨rfl,rfl⟩:=af (aa ht);obtain⟨ys,rfl,h3⟩:=QV h2;obtain⟨y,h4,h5⟩:=OF u i w ys h3 hw;exact .of (x:=y) (fun _ _=>by simp only[mK,cC,h4]) (cA h5) (yl u i w (hk (.tp u) (au.2 rfl)) hw)
  .simp at ht
 .obtain ⟨rfl,rfl⟩:=af (aa ht);obtain⟨x,rfl,h2⟩:=iJ hx;rw[xy h2];exact .of (fun _ _=>rfl) (xi _ _) trivial
 .obtain ⟨rfl,rfl⟩:=af (aa ht);obtain⟨x,rfl,h2⟩:=iJ hx;rw[wF h2];exact .of (fun _ _=>rfl) (xi _ _) trivial
 .--len of a fy of rows
  obtain⟨x,rfl,h2⟩:=iJ hx;split at ht
  .rename_i t' s' ln hq;obtain⟨rfl,rfl⟩:=af (aa ht);exact .of (fun _ _=>by rw[Kt h2 (tH hq)];exact Qn) (xi _ _) trivial
  .simp at ht
 .--len
  obtain⟨x,rfl,h2⟩:=iJ hx;split at ht
  .rename_i q t' s' l' hq;obtain⟨rfl,rfl⟩:=af (aa ht);exact .of (fun _ _=>RI h2 (ha _ (by simp)) hq) (xi _ _) trivial
  .simp at ht
 .--sC
  rename_i m k' x r;obtain⟨x1,ys,rfl,h2,h3⟩:=gA hx;split at ht
  .rename_i y hy;obtain⟨rfl,rfl⟩:=af (aa ht);obtain rfl:=kI h2;exact .of (x:=lv (.int k' y)) (fun _ _=>by simp only[mK,cC,Ls hy h3]) (xi _ _) trivial
  .simp at ht
 .--sC of floats
  rename_i m k' x r;obtain⟨x1,ys,rfl,h2,h3⟩:=gA hx;split at ht
  .rename_i y hy;obtain⟨rfl,rfl⟩:=af (aa ht);obtain rfl:=Da h2;refine .of (x:=lv (.float k' y)) (fun _ _=>?_) (xf _ _) trivial;show(match Lr m (.float k' x) (ys.map some)with|some v=>some (lv v,([]:eS),([]:List Nat),_)|none=>none)=_;rw[I8 hy h3]
  .simp at ht
 .--build
  rename_i z ps;cases hc:uM (oc t) z&&lQ t&&eZ (P7 t) false t with
  |false=>rw[hc]at ht;simp at ht
  |true=>
   rw[hc,cond_true]at ht;simp only[ak]at hc;split at ht
   .rename_i w hw;obtain⟨rfl,rfl⟩:=af (aa ht);obtain⟨z1,z2⟩:=(yy (h:=h) (n:=n) t).1 hc.2;obtain⟨cs,b1,b2,b3,b4⟩:=M1 fi ps vs (P7 t) w _ xs hw hc.2 z1 z2 hx hk;rw[sg hc.1.1]at b1;exact .of (x:=.agg cs) (fun _ _=>by simp only[cC,nR,b1]) (cA (yF (R_ b4 hc.1.2) b2)) b3
   .simp at ht
 .--lookup
  rename_i ka ks va z ok m kv;obtain⟨x,y,rfl,h2,h3⟩:=jb hx;split at ht
  .rename_i kt vt mp l' hq;split at ht
   .rename_i key hkey;cases hc:(lQ kt==ka)&&(lQ vt==va)&&decide (Aj kt=some ks)&&uM (oc vt) z&&kQ vt&&(va||ce vt==1)with
    |false=>rw[hc]at ht;simp at ht
    |true=>
     rw[hc,cond_true]at ht;simp only[ak,beq_iff_eq,decide_eq_true_eq]at hc;obtain⟨⟨⟨⟨⟨c1,c2⟩,c3⟩,c4⟩,c5⟩,c6⟩:=hc;obtain⟨id,rfl,rfl,e1,e2,e3⟩:=Lv hr hq h2;have e1:l'=[id]:=e1;subst e1;obtain⟨_,_,k3,_⟩:=uB kt ks c3;have hz:dn z=aS vt (mx vt):=by rw[sf vt c5,sg c4]
     have hv:∀y,pM va (aS vt y)=some (Te vt y):=fun y=>G5 y c2 c6;have hkt:=wg h3 hkey c3 c1;rw[c1,c2]at e3;rw[<-c2]at c6;cases ok with|false=>simp only[cond_false]at ht;obtain⟨rfl,rfl⟩:=af (aa ht);exact fun c nx=>⟨_,[id],RB (z:=mx vt) e3 hkt k3 hz hv,cA (Kq c5 c6),trivial,fun i hi=>hi⟩|true=>simp only[cond_true]at ht;obtain⟨rfl,rfl⟩:=af (aa ht);exact fun c nx=>⟨_,[id],OO (z:=mx vt) e3 hkt k3 hz hv,⟨_,rfl,_,_,rfl,Kq c5 c6,_,_,rfl,eD rfl ⟨rfl,rfl⟩,rfl⟩,⟨trivial,trivial,trivial⟩,fun i hi=>hi⟩
   .simp at ht
  .simp at ht
 .simp at ht
end
section
variable{h:H2}{n:Nat}{h1:bC}
theorem du(id:Nat)(o:Option O)(h:H2)(i:Nat):fO ((id,o)::h) i=if id=i then o else fO h i:=by
 simp only[fO,cm];by_cases e:id=i
 .subst e;simp
 .have e':(id==i)=false:=by simpa using e
  simp[e,e']
theorem dV(id:Nat)(o:Option Ob)(h:bC)(i:Nat):aw ((id,o)::h) i=if id=i then o else aw h i:=by
 simp only[aw,cm];by_cases e:id=i
 .subst e;simp
 .have e':(id==i)=false:=by simpa using e
  simp[e,e']
theorem jO.new(o:Option O):jO n h ((n,o)::h):=⟨fun id o' hi ho=>by rw[du,if_neg (by omega)]at ho;exact .inl ⟨o',ho,sX.refl _⟩⟩
theorem jO.lh{id:Nat}{o o':O}(ho:fO h id=some o)(hs:sX o o'):jO n h ((id,some o')::h):=
 ⟨fun i o2 hi h2=>by
  rw[du]at h2;split at h2
  .rename_i e;subst e;obtain rfl:=aa h2;exact .inl ⟨o,ho,hs⟩
  .exact .inl ⟨o2,h2,sX.refl _⟩⟩
theorem jO.mD(id:Nat):jO n h ((id,none)::h):=
 ⟨fun i o2 hi h2=>by
  rw[du]at h2;split at h2
  .simp at h2
  .exact .inl ⟨o2,h2,sX.refl _⟩⟩
theorem HR.lh{n' id:Nat}{o:Option O}{u:eS}(hr:HR n h1 h)(hn:n<=n')(hi:id<n')(hs:jO n h ((id,o)::h))(hu:∀i,i≠id->aw (u++h1) i=aw h1 i)
  (ho:∀o',o=some o'->v7 ((id,o)::h) o' (aw (u++h1) id)/\CZ n' ((id,o)::h) o'):HR n' (u++h1) ((id,o)::h):=by
 refine⟨fun i o' h2=>?_⟩;rw[du]at h2;split at h2
 .rename_i e;subst e;exact⟨hi,ho o' h2⟩
 .rename_i e;obtain⟨q1,q2,q3⟩:=hr.ob i o' h2;refine⟨by omega,?_,oR hn hs q3⟩;rw[hu i fun e'=>e e'.symm];exact pW hs q3 q2
theorem HR.mono{n':Nat}(hr:HR n h1 h)(hn:n<=n'):HR n' h1 h:=⟨fun i o ho=>let⟨a,b,c⟩:=hr.ob i o ho;⟨by omega,b,oR hn (jO.refl n h) c⟩⟩
theorem HR.ext{h1':bC}(hr:HR n h1 h)(he:∀i,aw h1' i=aw h1 i):HR n h1' h:=⟨fun i o ho=>by rw[he];exact hr.ob i o ho⟩
structure rZ(s s':S2)(h1:bC)(x:TV)(u:eS)(az:List Nat)(m:Nat)(v:V)(l:List Nat):Prop where
 val:fZ s'.heap v x
 Zb:fD s'.next s'.heap v
 hr:HR s'.next (u++h1) s'.heap
 eU:jO s.next s.heap s'.heap
 dE:s'.dE=s.dE
 gh:s'.gh=s.gh
 m:m<=s'.next
 le:s.next<=s'.next
 az:∀i∈az,i∈l
 nb:∀i,i<s.next->fO s.heap i=none->fO s'.heap i=none
 wo:∃w,s'.wo=w++s.wo/\(∀p∈u,p.1∈w)/\∀id,id∉w->fO s'.heap id=fO s.heap id
theorem rZ.pure{s:S2}{x:TV}{v:V}{az l:List Nat}(hr:HR s.next h1 s.heap)(hx:fZ s.heap v x)(hk:fD s.next s.heap v)(hl:∀i∈az,i∈l):rZ s s h1 x [] az s.next v l:=⟨hx,hk,hr,jO.refl _ _,rfl,rfl,am _,am _,hl,fun _ _ h=>h,[],rfl,fun p hp=>by simp at hp,fun _ _=>rfl⟩
theorem rZ.new{s:S2}{o:O}{b:Option Ob}{u:eS}{x:TV}{v:V}{az l:List Nat}{m:Nat}(hr:HR s.next h1 s.heap)(hu:u=[(s.next,b)]\/(u=[]/\∀b',v7 ((s.next,some o)::s.heap) o b'))(hb:u=[(s.next,b)]->v7 ((s.next,some o)::s.heap) o b)
  (hko:CZ (s.next+1) ((s.next,some o)::s.heap) o) (hx:fZ ((s.next,some o)::s.heap) v x) (hk:fD (s.next+1) ((s.next,some o)::s.heap) v) (hl:∀i∈az,i∈l) (hm:m<=s.next+1):rZ s (jE s o) h1 x u az m v l:=by
 refine⟨hx,hk,?_,jO.new _,rfl,rfl,hm,bI _,hl,fun i hi h=>(by rw[show(jE s o).heap=(s.next,some o)::s.heap from rfl,du,if_neg (by omega)];exact h),[s.next],rfl,?_,fun id hid=>?_⟩
 .refine HR.lh (n':=s.next+1) hr (bI _) (aY _) (jO.new _) (fun i hi=>?_) fun o' ho'=>?_
  .rcases hu with rfl|⟨rfl,_⟩
   .rw [bd,dV,if_neg fun e=>hi e.symm]
   .rfl
  .obtain rfl:=aa ho';refine⟨?_,hko⟩;rcases hu with rfl|⟨rfl,hu⟩
   .rw [bd,dV,if_pos rfl];exact hb rfl
   .exact hu _
 .intro p hp;rcases hu with rfl|⟨rfl,_⟩
  .obtain rfl:=au.1 hp;simp
  .simp at hp
 .simp only[jE];rw[du,if_neg fun e=>hid (by simp[e])]
theorem rZ.lh{s:S2}{id:Nat}{o o':O}{b:Option Ob}{x:TV}{v:V}{az l:List Nat}(hr:HR s.next h1 s.heap)(ho:fO s.heap id=some o)(hs:sX o o')(hb:v7 ((id,some o')::s.heap) o' b)(hko:CZ s.next ((id,some o')::s.heap) o')
  (hx:fZ ((id,some o')::s.heap) v x) (hk:fD s.next ((id,some o')::s.heap) v) (hl:∀i∈az,i∈l):rZ s (eN s id (some o')) h1 x [(id,b)] az s.next v l:=by
 refine⟨hx,hk,?_,jO.lh ho hs,rfl,rfl,am _,am _,hl,fun i _ h=>(by rw[show(eN s id (some o')).heap=(id,some o')::s.heap from rfl,du,if_neg (fun e=>by rw[e,h]at ho;cases ho)];exact h),[id],rfl,fun p hp=>?_,fun i hi=>?_⟩
 .refine HR.lh hr (am _) (hr.ob id o ho).1 (jO.lh ho hs) (fun i hi=>?_) fun o2 ho2=>?_
  .rw [bd,dV,if_neg fun e=>hi e.symm]
  .obtain rfl:=aa ho2;rw[bd,dV,if_pos rfl];exact⟨hb,hko⟩
 .obtain rfl:=au.1 hp;simp
 .simp only[eN];rw[du,if_neg fun e=>hi (by simp[e])]
def nr(h:H2)(id:Nat):Prop:=(∃t v,fO h id=some (.ar t .nil v)\/fO h id=some (.im t .nil v))\/∃t ln,fO h id=some (.rw t .nil ln)
theorem zp{id ver:Nat}{t:Ty}{l:List (El t)}(ho:fO h id=some (.ar t (.mk l) ver)\/fO h id=some (.im t (.mk l) ver)):¬nr h id:=by
 rintro(⟨u,v',e⟩|⟨u,ln,e⟩)
 .rcases ho with ho|ho<;>rcases e with e|e<;>rw[ho]at e<;>simp at e
  all_goals
   obtain⟨rfl,e,_⟩:=e;cases eq_of_heq e
 .rcases ho with ho|ho<;>rw[ho]at e<;>cases e
theorem OG{id:Nat}{t:Ty}{l:List (Sl (El t))}{ln:Option (Nat×Nat)}(ho:fO h id=some (.rw t (.mk l) ln)):¬nr h id:=by
 rintro(⟨u,v',e⟩|⟨u,ln',e⟩)
 .rcases e with e|e<;>rw[ho]at e<;>cases e
 .rw [ho]at e;cases e
theorem qq(k:Nat)(x:D):eM h1 k (.d x)=some (x,[]):=by cases k<;>rfl
theorem vL:∀(ds:List D),dZ h1 (ds.map .d)=some (ds,[]):=by intro ds;induction ds with|nil=>rfl|cons d ds ih=>simp[dZ,qq,ih]
theorem qY{a b:List C}{x y:List D}{i j:List Nat}(ha:dZ h1 a=some (x,i))(hb:dZ h1 b=some (y,j)):dZ h1 (a++b)=some (x++y,i++j):=by
 induction a generalizing x i with
 |nil=>obtain⟨rfl,rfl⟩:[]=x/\[]=i:=by simpa[dZ]using ha
       simpa using hb
 |cons c a ih=>
  simp only[dZ]at ha;split at ha
  .rename_i p q r s hp hq;obtain⟨rfl,rfl⟩:=af (aa ha);simp only[aU,dZ,hp,ih hq,aR]
  .simp at ha
theorem C7{id sz lo len:Nat}{rows:List (List D)}(k:Nat)(ho:aw h1 id=some (.aK sz rows)\/aw h1 id=some (.p_ sz rows))(hl:lo+len<=rows.length)(szo:Nat):
  eM h1 k (.cE szo id lo len)=some (.sl szo ((rows.drop lo).take len),[id]):=by
 rcases ho with ho|ho<;>(cases k<;>simp only[eM,ho,if_pos hl])
theorem NG{id ver:Nat}{t:Ty}{s:Sl (El t)}(k:Nat)(hr:HR n h1 h)(ho:fO h id=some (.ar t s ver)\/fO h id=some (.im t s ver)):
  ∃az,eM h1 k (mT (ce t) (aS t) id s)=some (wL (ce t) (aS t) s,az)/\(∀i∈az,i=id/\¬nr h i)/\(id∈az\/nr h id):=by
 cases s with
 |nil=>exact⟨[],qq k _,fun i hi=>by simp at hi,.inr (.inl ⟨t,ver,ho⟩)⟩
 |mk l=>
  have hb:aw h1 id=some (.aK (ce t) (l.map (aS t)))\/aw h1 id=some (.p_ (ce t) (l.map (aS t))):=by
   rcases ho with ho|ho
   .exact .inl ((hr.ob id _ ho).2.1.2.2 l rfl)
   .exact .inr ((hr.ob id _ ho).2.1.2.2 l rfl)
  refine⟨[id],?_,fun i hi=>by obtain rfl:=au.1 hi;exact⟨rfl,zp ho⟩,.inl (by simp)⟩;have:=C7 (lo:=0) (len:=(l.map (aS t)).length) k hb (by omega) (ce t);rw[uG]at this;exact this
theorem NH{id ver lo:Nat}{t:Ty}{r:Sl (El t)}(k:Nat)(hr:HR n h1 h)(hk:fD n h (.sb id ver lo t r))(ha:Aa h id ver=true):
  ∃az,eM h1 k (yi id lo t r)=some (wL (ce t) (aS t) r,az)/\(∀i∈az,i=id/\¬nr h i)/\(id∈az\/nr h id):=by
 obtain⟨u,s,ho⟩:=l9 ha;obtain⟨_,hc⟩:=hk.2 u s ver ho;obtain⟨hz,hc⟩:=hc rfl;cases r with
 |nil=>cases s with|nil=>exact⟨[],qq k _,fun i hi=>by simp at hi,.inr (.inl ⟨u,ver,ho⟩)⟩|mk l=>exact hc.elim
 |mk m=>
  cases s with
  |nil=>exact hc.elim
  |mk l=>
   obtain⟨hl,he⟩:=hc
   have hb:aw h1 id=some (.aK (ce u) (l.map (aS u)))\/aw h1 id=some (.p_ (ce u) (l.map (aS u))):=by
    rcases ho with ho|ho
    .exact .inl ((hr.ob id _ ho).2.1.2.2 l rfl)
    .exact .inr ((hr.ob id _ ho).2.1.2.2 l rfl)
   refine⟨[id],?_,fun i hi=>by obtain rfl:=au.1 hi;exact⟨rfl,zp ho⟩,.inl (by simp)⟩;have:=C7 (lo:=lo) (len:=(m.map (aS t)).length) k hb (by simpa using hl) (ce t);rw[show(m.map (aS t)).length=m.length by simp,he]at this;simpa[yi,wL]using this
theorem AV{t:Ty}:∀(l:List (Sl (El t))),rb (ce t) (l.map (po t))=some (l.map (aS (.sl t))):=by intro l;induction l with|nil=>rfl|cons s l ih=>simp only[aq,rb,ih];cases s<;>rfl
theorem NF{id:Nat}{t:Ty}{s:Sl (Sl (El t))}(k:Nat)(hr:HR n h1 h)(ho:fO h id=some (.rw t s none)):
  ∃az,eM h1 k (mT 1 (aS (.sl t)) id s)=some (wL 1 (aS (.sl t)) s,az)/\(∀i∈az,i=id/\¬nr h i)/\(id∈az\/nr h id):=by
 cases s with
 |nil=>exact⟨[],qq k _,fun i hi=>by simp at hi,.inr (.inr ⟨t,none,ho⟩)⟩
 |mk l=>
  have hb:=(hr.ob id _ ho).2.1.2.2 l rfl;refine⟨[id],?_,fun i hi=>by obtain rfl:=au.1 hi;exact⟨rfl,OG ho⟩,.inl (by simp)⟩;have e:((l.map (aS (.sl t))).length)=(fx t l none).length:=by simp[fx]
  have hs:rb (ce t) (fx t l none)=some (l.map (aS (.sl t))):=AV l;cases k<;>simp only[mT,wL,eM,hb,hs,e,and_self,if_true]
theorem tX(hr:HR n h1 h):∀(v w:V)(l:List Nat)(cs:List C),jA h v=some (w,l)->fG h v cs->fD n h v->iU h v=true->
  ∃ds az,dZ h1 cs=some (ds,az)/\fG h w (ds.map .d)/\(∀i∈az,i∈l/\¬nr h i)/\(∀i∈l,i∈az\/nr h i)/\(∀i∈l,i<n/\((∃t s v,fO h i=some (.ar t s v)\/fO h i=some (.im t s v))\/∃t s,fO h i=some (.rw t s none))):=by
 have done:∀(v:V)(ds:List D),fG h v (ds.map .d)->∃ds' az,dZ h1 (ds.map .d)=some (ds',az)/\fG h v (ds'.map .d)/\(∀i∈az,i∈([]:List Nat)/\¬nr h i)/\(∀i∈([]:List Nat),i∈az\/nr h i)/\(∀i∈([]:List Nat),i<n/\((∃t s v,fO h i=some (.ar t s v)\/fO h i=some (.im t s v))\/∃t s,fO h i=some (.rw t s none))):=fun v ds hv=>⟨ds,[],vL ds,hv,fun i hi=>by simp at hi,fun i hi=>by simp at hi,fun i hi=>by simp at hi⟩;intro v;induction v with
 |so id=>
  intro w l cs hf hv hk ha;simp only[jA]at hf;split at hf
  .rename_i t s l' hs;obtain⟨rfl,rfl⟩:=af (aa hf);obtain⟨ver,ho,e⟩:=vk hs;have e:l'=[id]:=e;subst e;obtain⟨c,rfl,hc,_⟩:=hv;rw[hc _ (mS ho)];obtain⟨az,q1,q2,q3⟩:=NG 300 hr ho;have hd:kQ t=true:=by rcases ho with ho|ho<;>exact(hr.ob id _ ho).2.1.1
   refine⟨[wL (ce t) (aS t) s],az,by simp[dZ,q1],⟨hd,rfl⟩,fun i hi=>⟨by simpa using(q2 i hi).1,(q2 i hi).1▸(q2 i hi).2⟩,fun i hi=>?_,fun i hi=>?_⟩
   .obtain rfl:=au.1 hi;exact q3
   .obtain rfl:=au.1 hi;exact⟨hk,.inl ⟨t,s,ver,ho⟩⟩
  .simp at hf
 |sr id=>
  intro w l cs hf hv hk ha;simp only[jA]at hf;split at hf
  .rename_i t s ho;obtain⟨rfl,rfl⟩:=af (aa hf);obtain⟨c,rfl,hc,_⟩:=hv;rw[hc _ (by rw[ho];rfl:Fb id (fO h id)=some (mT 1 (aS (.sl t)) id s))];obtain⟨az,q1,q2,q3⟩:=NF 300 hr ho;have hd:kQ t=true:=(hr.ob id _ ho).2.1.1;refine⟨[wL 1 (aS (.sl t)) s],az,by simp[dZ,q1],⟨hd,rfl⟩,fun i hi=>⟨by simpa using(q2 i hi).1,(q2 i hi).1▸(q2 i hi).2⟩,fun i hi=>?_,fun i hi=>?_⟩
   .obtain rfl:=au.1 hi;exact q3
   .obtain rfl:=au.1 hi;exact⟨hk,.inr ⟨t,s,ho⟩⟩
  .simp at hf
 |sb id ver lo t r=>
  intro w l cs hf hv hk ha;simp only[jA,uN]at hf;obtain⟨rfl,rfl⟩:=af (aa hf);obtain⟨hd,ha⟩:=dm.1 ha;have ha:Aa h id ver=true:=ha;obtain⟨c,rfl,hc,_⟩:=hv;rw[hc ha];obtain⟨az,q1,q2,q3⟩:=NH 300 hr hk ha;obtain⟨u,s,ho⟩:=l9 ha;refine⟨[wL (ce t) (aS t) r],az,by simp[dZ,q1],⟨?_,rfl⟩,fun i hi=>⟨by simpa using(q2 i hi).1,(q2 i hi).1▸(q2 i hi).2⟩,fun i hi=>?_,fun i hi=>?_⟩
  .exact hd
  .obtain rfl:=au.1 hi;exact q3
  .obtain rfl:=au.1 hi;exact⟨hk.1,.inl ⟨u,s,ver,ho⟩⟩
 |rc r ih=>
  intro w l cs hf hv hk ha;simp only[jA]at hf;split at hf
  .rename_i w' l' hw;obtain⟨rfl,rfl⟩:=af (aa hf);exact ih w' l' cs hw hv hk ha
  .simp at hf
 |co a r iha ihr=>
  intro w l cs hf hv hk ha;simp only[jA]at hf;split at hf
  .rename_i x l1 y l2 hx hy;obtain⟨rfl,rfl⟩:=af (aa hf);obtain⟨ca,cr,rfl,h2,h3⟩:=hv;simp only[iU,ak]at ha;obtain⟨ds,az,a1,a2,a3,a4,a5⟩:=iha x l1 ca hx h2 hk.1 ha.1;obtain⟨es,jds,b1,b2,b3,b4,b5⟩:=ihr y l2 cr hy h3 hk.2 ha.2;refine⟨ds++es,az++jds,qY a1 b1,⟨_,_,by simp,a2,b2⟩,fun i hi=>?_,fun i hi=>?_,fun i hi=>?_⟩
   .rcases ao.1 hi with hi|hi
    .exact ⟨aI _ (a3 i hi).1,(a3 i hi).2⟩
    .exact ⟨aG _ (b3 i hi).1,(b3 i hi).2⟩
   .rcases ao.1 hi with hi|hi
    .exact (a4 i hi).imp (aI _) id
    .exact (b4 i hi).imp (aG _) id
   .rcases ao.1 hi with hi|hi
    .exact a5 i hi
    .exact b5 i hi
  .simp at hf
 |x t v=>intro w l cs hf hv hk ha;obtain⟨rfl,rfl⟩:=af (aa hf);obtain⟨hd,rfl⟩:=hv;exact done _ _ ⟨hd,rfl⟩
 |kb c=>intro w l cs hf hv hk ha;obtain⟨rfl,rfl⟩:=af (aa hf);obtain rfl:=hv;exact done (.kb c) [_] rfl
 |nl k=>intro w l cs hf hv hk ha;obtain⟨rfl,rfl⟩:=af (aa hf);obtain rfl:=hv;exact done (.nl k) [_] rfl
 |fl q=>
  intro w l cs hf hv hk ha;obtain⟨rfl,rfl⟩:=af (aa hf);obtain⟨hp,rfl⟩:=hv;have e:fm q=(q.map D.lit).map C.d:=by simp[fm]
  rw[e];exact done (.fl q) (q.map D.lit) ⟨hp,e.symm⟩
 |ni=>intro w l cs hf hv hk ha;obtain⟨rfl,rfl⟩:=af (aa hf);obtain rfl:=hv;exact done .ni [] rfl
 |pt t v=>intro w l cs hf hv hk ha;obtain⟨rfl,rfl⟩:=af (aa hf);obtain⟨hd,rfl⟩:=hv;exact done (.pt t v) [_] ⟨hd,rfl⟩
 |fn z f q ih=>intro w l cs hf hv hk ha;cases z with|true=>obtain⟨rfl,rfl⟩:=af (aa hf);obtain⟨ds,hd,rfl⟩:=hv;exact done (.fn true f q) [_] ⟨ds,hd,rfl⟩|false=>simp[jA]at hf
 |_=>intro w l cs hf hv hk ha;simp[jA]at hf
theorem yh:∀(ds:List D)(k:Nat),ds.length<k->gw h1 k (ds.map .d)=some (ds,[]):=by
 intro ds;induction ds with
 |nil=>intro k hk;cases k<;>rfl
 |cons d ds ih=>intro k hk;cases k with|zero=>simp at hk|succ k=>simp only[aq,gw,qq];rw[ih k (by simpa using hk)];rfl
theorem xd{H:bC}{h0:H2}{k:Nat}(hr:HR k H h0)(all:List Nat){id:Nat}{o':O}(hf:Cm h0 id=some o'):
  ∃o,fO h0 id=some o/\sX o o'/\(∀m g,CZ m g o')/\((nr h0 id/\∀g b,v7 g o' b)\/(¬nr h0 id/\∃b,kw H all id=some b/\∀g,v7 g o' (some b))):=by
 unfold Cm at hf;split at hf
 .rename_i t s v ho;obtain rfl:=aa hf;refine⟨_,ho,⟨am _,rfl,rfl,rfl,fun _=>rfl⟩,fun _ _=>trivial,?_⟩;obtain⟨h1,h2,h3⟩:=(hr.ob id _ ho).2.1;cases s with|nil=>exact .inl ⟨.inl ⟨t,v,.inl ho⟩,fun g b=>⟨h1,h2,fun l e=>by cases e⟩⟩|mk l=>refine .inr ⟨zp (.inl ho),.p_ (ce t) (l.map (aS t)),?_,fun g=>⟨h1,h2,fun l' e=>by cases e;rfl⟩⟩;simp only[kw,h3 l rfl]
 .rename_i t s v ho;obtain rfl:=aa hf;refine⟨_,ho,⟨rfl,rfl⟩,fun _ _=>trivial,?_⟩;obtain⟨h1,h2,h3⟩:=(hr.ob id _ ho).2.1;cases s with|nil=>exact .inl ⟨.inl ⟨t,v,.inr ho⟩,fun g b=>⟨h1,h2,fun l e=>by cases e⟩⟩|mk l=>refine .inr ⟨zp (.inr ho),.p_ (ce t) (l.map (aS t)),?_,fun g=>⟨h1,h2,fun l' e=>by cases e;rfl⟩⟩;simp only[kw,h3 l rfl]
 .rename_i t v ho;obtain rfl:=aa hf;obtain⟨h1,h2⟩:=(hr.ob id _ ho).2.1;refine⟨_,ho,rfl,fun _ _=>trivial,.inr ⟨?_,.oW (aS t v),?_,fun g=>⟨h1,rfl⟩⟩⟩
  .rintro (⟨u,v',e|e⟩|⟨u,v',e⟩)<;>rw[ho]at e<;>simp at e
  .simp only[kw,h2]
 .rename_i t c ho;cases hd:(kQ t&&Nat.blt (ce t) 300)with
  |false=>rw[hd]at hf;simp at hf
  |true=>
   rw[hd,cond_true]at hf;simp only[ak]at hd;split at hf
   .rename_i w hw;split at hf
    .rename_i y hy;obtain rfl:=aa hf;obtain⟨cs,h1,h2,h3⟩:=(hr.ob id _ ho).2.1;have e:=js c false t y cs hy h2;subst e;refine⟨_,ho,trivial,fun _ _=>trivial,.inr ⟨?_,.oW (aS t y),?_,fun g=>⟨hd.1,rfl⟩⟩⟩
     .rintro (⟨u,v',e|e⟩|⟨u,v',e⟩)<;>rw[ho]at e<;>simp at e
     .have hl:(aS t y).length<300:=by rw[bW];simpa using hd.2
      simp only[kw,h1,yh _ _ hl];rfl
    .simp at hf
   .simp at hf
 .simp at hf
def Gp(h:H2)(id:Nat):Option O:=match fO h id with|some (.rw _ _ none)=>none|_=>Cm h id
theorem xF{h0:H2}{s0:S2}(hs0:s0.heap=h0):∀(az:List Nat)(s':S2),rk h0 az s0=some s'->
  s'.dE=s0.dE/\s'.gh=s0.gh/\s'.next=s0.next/\s'.wo=az++s0.wo/\(∀i∈az,(∃o,Cm h0 i=some o)\/∃t s,fO h0 i=some (.rw t s none))/\∀i,fO s'.heap i=if i∈az then Gp h0 i else fO h0 i:=by
 intro az;induction az with
 |nil=>intro s' hf;obtain rfl:=aa hf;exact⟨rfl,rfl,rfl,rfl,fun i hi=>by simp at hi,fun i=>by simp[hs0]⟩
 |cons id r ih=>
  intro s' hf;simp only[rk]at hf
  have fin:∀(oo:Option O)(s1:S2),rk h0 r s0=some s1->s'=eN s1 id oo->((∃o,Cm h0 id=some o)\/∃t s,fO h0 id=some (.rw t s none))->Gp h0 id=oo->s'.dE=s0.dE/\s'.gh=s0.gh/\s'.next=s0.next/\s'.wo=(id::r)++s0.wo/\(∀i∈id::r,(∃o,Cm h0 i=some o)\/∃t s,fO h0 i=some (.rw t s none))/\∀i,fO s'.heap i=if i∈id::r then Gp h0 i else fO h0 i:=by
   intro oo s1 h1 e hex hoo;subst e;obtain⟨a1,a2,a3,a4,a5,a6⟩:=ih s1 h1;refine⟨a1,a2,a3,by simp[eN,a4],fun i hi=>?_,fun i=>?_⟩
   .rcases aN.1 hi with rfl|hi
    .exact hex
    .exact a5 i hi
   .simp only[eN,du,a6];by_cases e:id=i
    .subst e;simp[hoo]
    .simp [e,Ne.symm e]
  split at hf
  .rename_i t s ho;split at hf
   .rename_i s1 h1;exact fin none s1 h1 (aa hf).symm (.inr ⟨t,s,ho⟩) (by simp only[Gp,ho])
   .cases hf
  .rename_i hno;split at hf
   .rename_i o s1 ho h1;refine fin (some o) s1 h1 (aa hf).symm (.inl ⟨o,ho⟩) ?_;unfold Gp;split
    .rename_i t s e;exact absurd e (hno t s)
    .exact ho
   .cases hf
theorem Jr{H:bC}{all:List Nat}:∀(l:List Nat),(∀i∈l,∃b,kw H all i=some b)->∃u,dJ H all l=some u/\∀p∈u,p.1∈l:=by
 intro l;induction l with
 |nil=>intro _;exact⟨[],rfl,fun p hp=>by simp at hp⟩
 |cons a l ih=>
  intro h;obtain⟨b,hb⟩:=h a (by simp);obtain⟨u,hu,hp⟩:=ih fun i hi=>h i (by simp[hi]);refine⟨(a,some b)::u,by simp only[dJ,hb,hu],fun p hp'=>?_⟩;rcases aN.1 hp' with rfl|hp'
  .simp
  .exact aF _ (hp p hp')
theorem Cl{h0:H2}{s0:S2}(hs0:s0.heap=h0){H:bC}(hr:HR s0.next H h0)(az:List Nat)(s':S2)(ids1 all:List Nat)(hf:rk h0 az s0=some s')(hi1:∀i∈ids1,i∈az/\¬nr h0 i)(hi2:∀i∈az,i∈ids1\/nr h0 i):
  ∃fu,dJ H all ids1=some fu/\HR s0.next (fu++H) s'.heap/\jO s0.next h0 s'.heap/\s'.dE=s0.dE/\s'.gh=s0.gh/\s'.next=s0.next/\
   s'.wo=az++s0.wo/\(∀p∈fu,p.1∈az)/\∀id,id∉az->fO s'.heap id=fO s0.heap id:=by
 obtain⟨a1,a2,a3,a4,a5,a6⟩:=xF hs0 az s' hf
 have hF:∀i o',Gp h0 i=some o'->Cm h0 i=some o':=fun i o' h=>by
  unfold Gp at h;split at h
  .cases h
  .exact h
 obtain⟨fu,hfu,hp⟩:=Jr (H:=H) (all:=all) ids1 fun i hi=>by
  rcases a5 i (hi1 i hi).1 with⟨o,ho⟩|⟨t,s,ho⟩
  .obtain ⟨_,_,_,_,h⟩:=xd hr all ho;rcases h with h|⟨_,b,hb,_⟩
   .exact absurd h.1 (hi1 i hi).2
   .exact ⟨b,hb⟩
  .cases s with|nil=>exact absurd (.inr ⟨t,none,ho⟩) (hi1 i hi).2|mk l=>have hb:=(hr.ob i _ ho).2.1.2.2 l rfl;have hs:rb (ce t) (fx t l none)=some (l.map (aS (.sl t))):=AV l;exact⟨.p_ 1 (l.map (aS (.sl t))),by simp only[kw,hb,hs]⟩
 have eU:jO s0.next h0 s'.heap:=⟨fun i o' hi ho=>by
  rw[a6]at ho;split at ho
  .obtain ⟨o,h1,h2,_⟩:=xd hr all (hF i o' ho);exact .inl ⟨o,h1,h2⟩
  .exact .inl ⟨o',ho,sX.refl _⟩⟩
 refine⟨fu,hfu,⟨fun i o' ho=>?_⟩,eU,a1,a2,a3,a4,fun p hp'=>(hi1 _ (hp p hp')).1,fun i hi=>by rw[a6,if_neg hi,hs0]⟩;rw[a6]at ho;split at ho
 .rename_i hi;obtain⟨o,h1,_,h3,h4⟩:=xd hr all (hF i o' ho);refine⟨(hr.ob i o h1).1,?_,h3 _ _⟩;rcases h4 with h4|⟨h5,b,hb,hR⟩
  .exact h4.2 _ _
  .have hm:i∈ids1:=(hi2 i hi).resolve_right h5;obtain⟨b',hb',hl⟩:=(kP ids1 fu hfu i).1 hm;rw[hb]at hb';obtain rfl:=aa hb';rw[show aw (fu++H) i=some b by simp only[aw,ic,hl];rfl];exact hR _
 .rename_i hi;obtain⟨h1,h2,h3⟩:=hr.ob i o' ho;have hn:i∉ids1:=fun hm=>hi (hi1 i hm).1;refine⟨h1,?_,oR (am _) eU h3⟩;rw[show aw (fu++H) i=aw H i by simp only[aw,ic,(kP ids1 fu hfu i).2 hn]];exact pW eU h3 h2
theorem Gn{h0:H2}{s0:S2}{az:List Nat}{s':S2}(hs0:s0.heap=h0)(hf:rk h0 az s0=some s'):∀i∈az,fO h0 i≠none:=by
 intro i hi e;obtain⟨_,_,_,_,a5,_⟩:=xF hs0 az s' hf;rcases a5 i hi with⟨o,ho⟩|⟨t,s,ho⟩
 .simp [Cm,e]at ho
 .rw [e]at ho;cases ho
end
section
variable{h:H2}{n:Nat}{h1:bC}{β:Type}
theorem aO{α:Type}{c:Bool}{a:Option α}{r:α}(h:(bif c then a else none)=some r):c=true/\a=some r:=by cases c with|true=>exact⟨rfl,h⟩|false=>simp at h
theorem wX{u:eS}{i:Nat}(hu:∀p∈u,p.1≠i):aw (u++h1) i=aw h1 i:=by induction u with|nil=>rfl|cons p u ih=>obtain⟨a,b⟩:=p;rw[aU,dV,if_neg (hu _ (dL ..)),ih fun p hp=>hu p (aF _ hp)]
theorem rZ.Fc{s s':S2}{x:TV}{u:eS}{az l:List Nat}{m:Nat}{v:V}(W:List Nat)(hr:HR s.next h1 s.heap)(eU:jO s.next s.heap s'.heap)(he:s'.dE=s.dE)(hg:s'.gh=s.gh)(hm:m<=s'.next)(hle:s.next<=s'.next)(hl:∀i∈az,i∈l)
  (hwo:s'.wo=W++s.wo) (hu:∀p∈u,p.1∈W) (hW:∀id,id∉W->fO s'.heap id=fO s.heap id) (hob:∀i∈W,∀o,fO s'.heap i=some o->i<s'.next/\v7 s'.heap o (aw (u++h1) i)/\CZ s'.next s'.heap o)
  (hx:fZ s'.heap v x) (hk:fD s'.next s'.heap v) (hnb:∀i,i<s.next->fO s.heap i=none->fO s'.heap i=none):rZ s s' h1 x u az m v l:=by
 refine⟨hx,hk,⟨fun i o ho=>?_⟩,eU,he,hg,hm,hle,hl,hnb,W,hwo,hu,hW⟩;by_cases hi:i∈W
 .exact hob i hi o ho
 .rw [hW i hi]at ho;obtain⟨a,b,c⟩:=hr.ob i o ho;refine⟨by omega,?_,oR hle eU c⟩;rw[wX (u:=u) (i:=i) fun p hp e=>hi (e▸hu p hp)];exact pW eU c b
def yd(h1:bC)(kk:K)(xs:List TV)(s:S2)(k:V->S2->List Nat->Option β)(z:β):Prop:=∃v s' l,k v s' l=some z/\∀c:Call,∃x u az m,cC c kk (xs.map some) h1 s.next=some (x,u,az,m)/\rZ s s' h1 x u az m v l
variable{s:S2}{k:V->S2->List Nat->Option β}{z:β}
theorem yd.pure{kk:K}{xs:List TV}{v:V}{x:TV}(hr:HR s.next h1 s.heap)(hz:k v s []=some z)(he:∀c:Call,cC c kk (xs.map some) h1 s.next=some (x,[],[],s.next))(hx:fZ s.heap v x)(hk:fD s.next s.heap v):yd h1 kk xs s k z:=⟨v,s,[],hz,fun c=>⟨x,[],[],s.next,he c,rZ.pure hr hx hk fun i hi=>by simp at hi⟩⟩
theorem qR{t:Ty}(h:CY t=true):kQ t=true/\0<ce t:=by simpa[CY]using h
theorem yd.new{kk:K}{xs:List TV}{v:V}{x:TV}{o:O}{b:Option Ob}{l az:List Nat}(hr:HR s.next h1 s.heap)(hz:k v (jE s o) l=some z)(he:∀c:Call,cC c kk (xs.map some) h1 s.next=some (x,[(s.next,b)],az,s.next+1))
  (hb:v7 ((s.next,some o)::s.heap) o b) (hko:CZ (s.next+1) ((s.next,some o)::s.heap) o) (hx:fZ ((s.next,some o)::s.heap) v x) (hk:fD (s.next+1) ((s.next,some o)::s.heap) v) (hl:∀i∈az,i∈l):yd h1 kk xs s k z:=
 ⟨v,_,l,hz,fun c=>⟨x,_,az,_,he c,rZ.new hr (.inl rfl) (fun _=>hb) hko hx hk hl (am _)⟩⟩
theorem yd.lh{kk:K}{xs:List TV}{v:V}{x:TV}{id:Nat}{o o':O}{b:Option Ob}{l az:List Nat}(hr:HR s.next h1 s.heap)(ho:fO s.heap id=some o)(hs:sX o o')(hz:k v (eN s id (some o')) l=some z)(he:∀c:Call,cC c kk (xs.map some) h1 s.next=some (x,[(id,b)],az,s.next))
  (hb:v7 ((id,some o')::s.heap) o' b) (hko:CZ s.next ((id,some o')::s.heap) o') (hx:fZ ((id,some o')::s.heap) v x) (hk:fD s.next ((id,some o')::s.heap) v) (hl:∀i∈az,i∈l):yd h1 kk xs s k z:=
 ⟨v,_,l,hz,fun c=>⟨x,_,az,_,he c,rZ.lh hr ho hs hb hko hx hk hl⟩⟩
theorem uF(id:Nat)(o:Option O)(h:H2):fO ((id,o)::h) id=o:=by rw[du,if_pos rfl]
theorem wV{t:Ty}{s:Sl (El t)}{v nx:Nat}:fZ ((nx,some (.ar t s v))::h) (.so nx) (.c (mT (ce t) (aS t) nx s)):=cA (eD rfl ⟨_,rfl,fun c' hc'=>by rw[uF]at hc';exact aa hc',BO⟩)
theorem Cz{x:V}{y:TV}{sz:Nat}{lo hi:Option Int}{m:Int}{q:V->Option β}(hr:HR n h1 h)(hx:fZ h x y)(hk:fD n h x)(ha:iU h x=true)(hm:Gg h x=some m)(hz:uR sz h x (lo.getD 0) (hi.getD m) q=some z):
  ∃v c c',y=.c c/\q v=some z/\cZ false sz c lo hi=some c'/\fZ h v (.c c')/\fD n h v:=by
 have iM:∀(id:Nat)(t:Ty)(w:Sl (El t))(ver:Nat),x=.so id->(fO h id=some (.ar t w ver)\/fO h id=some (.im t w ver))->(bif ce t==sz then(oX w.l (lo.getD 0) (hi.getD m)).bind fun y=>q (.sb id ver (lo.getD 0).toNat t (w.to y))else none)=some z->
   ∃v c c',y=.c c/\q v=some z/\cZ false sz c lo hi=some c'/\fZ h v (.c c')/\fD n h v:=by
  rintro id t w ver rfl ho hz;obtain⟨h2,hz2⟩:=aO hz;obtain rfl:ce t=sz:=by simpa using h2
  obtain⟨r,hr',hz3⟩:=qn hz2;have e:=tw hx (mS ho);have hm':m=w.l.length:=by simp only[Gg,uN]at hm;rcases ho with ho|ho<;>(rw[ho]at hm;exact(aa hm).symm)
  subst hm';refine⟨_,_,yi id (lo.getD 0).toNat t (w.to r),e,hz3,?_,?_,hk,?_⟩
  .cases w with|nil=>exact MF hr'|mk l=>exact VO (enc:=aS t) hr'
  .exact cA (eD rfl ⟨_,rfl,fun _=>rfl,KI⟩)
  .intro u s' v' ho'
   have e2:Nx u s'=Nx t w/\v'=ver:=by
    rcases ho with ho|ho<;>rcases ho' with ho'|ho'<;>(rw[ho]at ho';simp at ho')
    all_goals
     obtain⟨rfl,e,rfl⟩:=ho';cases eq_of_heq e;exact⟨rfl,rfl⟩
   obtain⟨e2,rfl⟩:=e2;obtain⟨rfl,e2⟩:=jP e2;cases e2;refine⟨am _,fun _=>⟨rfl,?_⟩⟩;cases s' with|nil=>trivial|mk l=>obtain⟨h3,h4⟩:=SE (enc:=aS u) hr';simp only[aM]at h3;refine⟨h3,?_⟩;simpa using h4
 cases x with
 |x t v=>
  cases t with
  |sl t=>
   simp only[uR]at hz;obtain⟨h2,hz2⟩:=aO hz;obtain rfl:ce t=sz:=by simpa using h2
   obtain⟨r,hr',hz3⟩:=qn hz2;have hm':m=v.l.length:=by simpa[Gg,uN]using hm.symm
   subst hm';refine⟨_,_,_,yC hx,hz3,SD hr',cA (eD rfl ⟨?_,rfl⟩),trivial⟩;obtain⟨_,⟨hd,_⟩,_⟩:=pn (v:=.x (.sl t) v) trivial hx;exact hd
  |_=>simp[uR]at hz
 |so id=>
  simp only[uR]at hz;split at hz
  .rename_i ho;exact iM id _ _ _ rfl (.inl ho) hz
  .rename_i ho;exact iM id _ _ _ rfl (.inr ho) hz
  .simp at hz
 |sb id ver off t v=>
  simp only[uR]at hz;obtain⟨h2,hz2⟩:=aO hz;obtain rfl:ce t=sz:=by simpa using h2
  obtain⟨r,hr',hz3⟩:=qn hz2;have hm':m=v.l.length:=by simpa[Gg,uN]using hm.symm
  subst hm';refine⟨_,_,yi id (off+(lo.getD 0).toNat) t (v.to r),q_ hx ha,hz3,?_,cA (eD rfl ⟨_,rfl,fun _=>rfl,KI⟩),hk.1,?_⟩
  .cases v with|nil=>exact MF hr'|mk l=>obtain⟨h3,rfl⟩:=pK.1 hr';simp only[Sl.l]at h3;simp only[yi,cZ,Bool.false_eq_true,if_false,Sl.to,Sl.l,aM];rw[if_pos ⟨trivial,h3⟩];simp;omega
  .intro u s' v' ho;obtain⟨h3,h4⟩:=hk.2 u s' v' ho;refine⟨h3,fun e=>?_⟩;obtain⟨h5,h6⟩:=h4 e;refine⟨h5,?_⟩;cases s' with
   |nil=>cases v<;>first|trivial|exact h6.elim
   |mk l=>
    cases v with
    |nil=>exact h6.elim
    |mk w=>
     obtain⟨h7,h8⟩:=h6;obtain⟨h9,rfl⟩:=pK.1 hr';simp only[Sl.l]at h9;show off+(lo.getD 0).toNat+((w.drop (lo.getD 0).toNat).take _).length<=l.length/\((l.map (aS u)).drop (off+(lo.getD 0).toNat)).take ((w.drop (lo.getD 0).toNat).take _).length=((w.drop (lo.getD 0).toNat).take _).map (aS t);generalize hA:(lo.getD 0).toNat=A;generalize hB:((hi.getD (Sl.l (Sl.mk w)).length).toNat-A)=B;have hle:A+B<=w.length:=by subst hA hB;simp only[Sl.l];omega
     have hlen:((w.drop A).take B).length=B:=by simp;omega
     refine⟨by omega,?_⟩;rw[hlen,gH,gm,<-h8,List.drop_take,dM,List.take_take];congr 1;omega
 |nl k=>
  cases k with
  |zero=>
   simp only[uR]at hz;obtain⟨r,hr',hz3⟩:=qn hz;have hm':m=0:=by simpa[Gg]using hm.symm
   subst hm';exact⟨_,_,_,wF hx,hz3,MF (α:=Unit) (by simpa[Sl.l]using hr'),cA (eD rfl rfl),trivial⟩
  |succ k=>simp[uR]at hz
 |_=>simp[uR]at hz
theorem HJ:∀(p:qo)(t a:Ty)(l m:Nat),r_ t p=some (.ar l a)->m<l->I1 t p->I1 t (p++[.ix m])/\nw t (p++[.ix m])=nw t p+m*ce a:=by
 intro p;induction p with
 |nil=>
  intro t a l m h1 hm _;have e:r_ t []=some t:=by cases t<;>rfl
  obtain rfl:t=.ar l a:=by rw[e]at h1;exact aa h1
  refine⟨⟨hm,by cases a<;>trivial⟩,?_⟩;simp only[bE,nw];cases a<;>simp[nw]
 |cons q p ih=>
  intro t a l m h1 hm h3;cases q with
  |fd j=>cases t with|st t=>obtain⟨b2,hb,h3⟩:=h3;simp only[r_,hb]at h1;obtain⟨q1,q2⟩:=ih b2 a l m h1 hm h3;refine⟨⟨b2,hb,q1⟩,?_⟩;simp only[aU,nw,hb,q2];exact(dz _ _ _).symm|_=>exact h3.elim
  |ix k=>cases t with|ar l' t=>obtain⟨hk,h3⟩:=h3;obtain⟨q1,q2⟩:=ih t a l m h1 hm h3;refine⟨⟨hk,q1⟩,?_⟩;simp only[aU,nw,q2];exact(dz _ _ _).symm|_=>exact h3.elim
theorem Rt{id:Nat}{t u:Ty}{w:Sl (El t)}{w':Sl (El u)}{v v':Nat}(ho:fO h id=some (.ar t w v)\/fO h id=some (.im t w v))(ho':fO h id=some (.ar u w' v')\/fO h id=some (.im u w' v')):Nx u w'=Nx t w/\v'=v:=by
 rcases ho with ho|ho<;>rcases ho' with ho'|ho'<;>(rw[ho]at ho';simp at ho')
 all_goals
  obtain⟨rfl,e,rfl⟩:=ho';cases eq_of_heq e;exact⟨rfl,rfl⟩
theorem Lj{id:Nat}{t u:Ty}{w:Sl (El t)}{w':Sl (El u)}{v v':Nat}(ho:fO h id=some (.ar t w v)\/fO h id=some (.im t w v))(ho':fO h id=some (.ar u w' v')\/fO h id=some (.im u w' v')):w'.l.length=w.l.length:=by obtain⟨e,_⟩:=Rt ho ho';obtain⟨rfl,e⟩:=jP e;cases e;rfl
theorem Qq{c:C}{t:Ty}{id m sz:Nat}{w:Sl (El t)}{i:Int}{kd:IntKind}{cl:Call}{nx:Nat}(hc:c=mT (ce t) (aS t) id w)(hsz:ce t=sz)(hi:eX i w.l.length=some m):
  cC cl (.indexAddr none sz) [some (.c c),some (tI kd i)] h1 nx=some (.c (.ep id m 0),[],[],nx):=by
 subst hc hsz;cases w with|nil=>exact LL hi|mk l=>exact YD hi
theorem VM{t:Ty}{v:El t}{x:TV}(hx:fZ h (.x t v) x):kQ t=true:=by obtain⟨_,⟨hd,_⟩,_⟩:=pn (v:=.x t v) trivial hx;exact hd
theorem YY{n':Nat}{t:Ty}{v:El (.ar n' t)}{x:TV}(hx:fZ h (.x (.ar n' t) v) x):x=.agg ((aS (.ar n' t) v).map .d):=by obtain⟨cs,⟨_,rfl⟩,h2,_⟩:=pn (v:=.x (.ar n' t) v) trivial hx;exact h2 rfl
theorem E0{n' m:Nat}{t:Ty}(v:El (.ar n' t))(hm:m<n'):m*ce t+ce t<=(aS (.ar n' t) v).length/\((aS (.ar n' t) v).drop (m*ce t)).take (ce t)=aS t (gt v.1 m):=by have hl:v.1.length=n':=v.2;refine⟨?_,zI (bW t) v.1 m (by omega)⟩;rw[bW];show _<=n'*ce t;have:(m+1)*ce t<=n'*ce t:=Nat.mul_le_mul_right _ hm;rw[b_,Nat.one_mul]at this;exact this
theorem LN{x:V}{y:TV}{sz:Nat}{i:Int}{kd:IntKind}
  (hz:(match x with
  |.x (.sl t) v=>bif ce t==sz then(eX i v.l.length).bind fun m=>k (.pt t (gt v.l m)) s []else none
  |.so id=>(match uN s.heap (.so id)with|some ⟨t,v,_⟩=>bif ce t==sz then(eX i v.l.length).bind fun m=>k (.ep id m t []) s []else none|none=>none)
  |.sb id _ lo t v=>bif ce t==sz then(eX i v.l.length).bind fun m=>k (.ep id (lo+m) t []) s []else none
  |.sr id=>(match fO s.heap id with|some (.rw t v _)=>bif 1==sz then(eX i v.l.length).bind fun m=>k (.ep id m (.sl t) []) s []else none|_=>none)
  |_=>none)=some z)
  (hr:HR s.next h1 s.heap) (hx:fZ s.heap x y) (hk:fD s.next s.heap x) (ha:iU s.heap x=true):yd h1 (.indexAddr none sz) [y,tI kd i] s k z:=by
 cases x with
 |x t v=>
  cases t with
  |sl t=>
   simp only at hz;obtain⟨h2,hz2⟩:=aO hz;obtain⟨m,hm,hz3⟩:=qn hz2;obtain rfl:ce t=sz:=by simpa using h2
   rw[yC hx];exact .pure hr hz3 (x:=.c (.d (.pt (aS t (gt (Sl.l v) m))))) (fun _=>Vr hm) (cA (eD rfl ⟨VM (t:=.sl t) hx,rfl⟩)) trivial
  |_=>simp at hz
 |so id=>
  simp only at hz;split at hz
  .rename_i t v l hs;obtain⟨h2,hz2⟩:=aO hz;obtain⟨m,hm,hz3⟩:=qn hz2;obtain⟨ver,ho,_⟩:=vk hs;simp only at ho;rw[tw hx (mS ho)];refine .pure hr hz3 (x:=.c (.ep id m 0)) (fun _=>Qq rfl (by simpa using h2) hm) (cA (eD rfl (by cases t<;>rfl))) ⟨hk,by cases t<;>trivial,fun u w' v' ho'=>?_,fun u w' v' ho'=>?_⟩
   .have:=(jr.1 hm).2;rw[Lj ho ho'];exact this
   .rcases ho with ho|ho<;>rw[ho]at ho'<;>cases ho'
  .simp at hz
 |sr id=>
  simp only at hz;split at hz
  .rename_i t v ln ho;obtain⟨h2,hz2⟩:=aO hz;obtain⟨m,hm,hz3⟩:=qn hz2;rw[Kt hx (tH ho)];refine .pure hr hz3 (x:=.c (.ep id m 0)) (fun _=>Qq (t:=.sl t) rfl (Eq.trans (rfl:ce (.sl t)=1) (beq_iff_eq.1 h2)) hm) (cA (eD rfl rfl)) ⟨hk,trivial,fun u w' v' ho'=>?_,fun u w' v' ho'=>?_⟩
   .rw [ho]at ho';rcases ho' with ho'|ho'<;>cases ho'
   .rw [ho]at ho';cases ho';exact(jr.1 hm).2
  .simp at hz
 |sb id ver lo t v=>
  simp only at hz;obtain⟨h2,hz2⟩:=aO hz;obtain⟨m,hm,hz3⟩:=qn hz2;obtain rfl:ce t=sz:=by simpa using h2
  rw[q_ hx ha];have hm2:=(jr.1 hm).2;cases v with
  |nil=>exact LL hm
  |mk w=>refine .pure hr hz3 (x:=.c (.ep id (lo+m) 0)) (fun _=>Vs (l:=w) hm) (cA (eD rfl (by cases t<;>rfl))) ⟨hk.1,by cases t<;>trivial,fun u w' v' ho'=>?_,fun u w' v' ho'=>by obtain⟨u0,s0,ho⟩:=l9 (h:=s.heap) (id:=id) (ver:=ver) (dm.1 ha).2;rcases ho with ho|ho<;>rw[ho]at ho'<;>cases ho'⟩;obtain⟨u0,s0,ho⟩:=l9 (h:=s.heap) (id:=id) (ver:=ver) (dm.1 ha).2;obtain⟨_,h4⟩:=hk.2 u0 s0 ver ho;obtain⟨_,h6⟩:=h4 rfl;rw[Lj ho ho'];cases s0 with|nil=>exact h6.elim|mk l=>have:=h6.1;simp only[Sl.l]at hm2|-;omega
 |_=>simp at hz
theorem LM{x:V}{y:TV}{n0 sz:Nat}{i:Int}{kd:IntKind}
  (hz:(match x with
  |.op id t p=>(match r_ t p with|some (.ar n' u)=>bif(n'==n0)&&(ce u==sz)then(eX i n0).bind fun m=>k (.op id t (p++[.ix m])) s []else none|_=>none)
  |.ep id q t p=>(match r_ t p with|some (.ar n' u)=>bif(n'==n0)&&(ce u==sz)then(eX i n0).bind fun m=>k (.ep id q t (p++[.ix m])) s []else none|_=>none)
  |.pt (.ar n' u) v=>bif(n'==n0)&&(ce u==sz)then(eX i n0).bind fun m=>k (.pt u (gt v.1 m)) s []else none
  |_=>none)=some z)
  (hr:HR s.next h1 s.heap) (hx:fZ s.heap x y) (hk:fD s.next s.heap x):yd h1 (.indexAddr (some n0) sz) [y,tI kd i] s k z:=by
 cases x with
 |op id t p=>
  simp only at hz;split at hz
  .rename_i n' u hu;obtain⟨h2,hz2⟩:=aO hz;obtain⟨m,hm,hz3⟩:=qn hz2;simp only[ak,beq_iff_eq]at h2;obtain⟨rfl,rfl⟩:=h2;obtain⟨rfl,hm2⟩:=jr.1 hm;obtain⟨q1,q2⟩:=HJ p t u n' m hu hm2 hk.2;rw[wE hx];refine .pure hr hz3 (x:=.c (.op id (nw t p+m*ce u))) (fun _=>?_) (cA (eD rfl ?_)) ⟨hk.1,q1⟩
   .simp only[mK,cC,cG,je];rw[if_pos ⟨by omega,by omega⟩];simp
   .show [_]=[_];rw[q2]
  .simp at hz
 |ep id q t p=>
  simp only at hz;split at hz
  .rename_i n' u hu;obtain⟨h2,hz2⟩:=aO hz;obtain⟨m,hm,hz3⟩:=qn hz2;simp only[ak,beq_iff_eq]at h2;obtain⟨rfl,rfl⟩:=h2;obtain⟨rfl,hm2⟩:=jr.1 hm;obtain⟨q1,q2⟩:=HJ p t u n' m hu hm2 hk.2.1;rw[tC hx];refine .pure hr hz3 (x:=.c (.ep id q (nw t p+m*ce u))) (fun _=>?_) (cA (eD rfl ?_)) ⟨hk.1,q1,hk.2.2⟩
   .simp only[mK,cC,cG,je];rw[if_pos ⟨by omega,by omega⟩];simp
   .show [_]=[_];rw[q2]
  .simp at hz
 |pt t v=>cases t with|ar n' u=>simp only at hz;obtain⟨h2,hz2⟩:=aO hz;obtain⟨m,hm,hz3⟩:=qn hz2;simp only[ak,beq_iff_eq]at h2;obtain⟨rfl,rfl⟩:=h2;obtain⟨rfl,hm2⟩:=jr.1 hm;obtain⟨hd,rfl⟩:=yD hx;obtain⟨a1,a2⟩:=E0 v hm2;refine .pure hr hz3 (x:=.c (.d (.pt (aS u (gt v.1 m))))) (fun _=>?_) (cA (eD rfl ⟨hd,rfl⟩)) trivial;simp only[mK,cC,cG,je];rw[if_pos ⟨by omega,by omega⟩];simp only[eC];rw[if_pos a1,a2]|_=>simp at hz
 |_=>simp at hz
end
section
variable{h:H2}{n:Nat}{h1:bC}{β:Type}{s:S2}{k:V->S2->List Nat->Option β}{z:β}
theorem CE{t u:Ty}{m:Sl (El t)}{m':Sl (El u)}(hc:gC (.sl t) (.sl u) m=some m'):t=u/\m'.l.map (aS u)=m.l.map (aS t):=by obtain⟨e,rfl⟩:=dl hc;cases e;exact⟨rfl,rfl⟩
theorem Q3{c:C}{t:Ty}{id sz:Nat}{w:Sl (El t)}{ver:Nat}(hr:HR n h1 h)(hc:c=mT (ce t) (aS t) id w)(hsz:ce t=sz)(ho:fO h id=some (.ar t w ver)\/fO h id=some (.im t w ver)):
  ∃az,gF sz h1 c=some (w.l.map (aS t),az)/\∀i∈az,i=id:=by
 subst hc hsz;cases w with
 |nil=>exact⟨[],rfl,fun i hi=>by simp at hi⟩
 |mk l=>
  refine⟨[id],?_,fun i hi=>by simpa using hi⟩;rcases ho with ho|ho
  .have hb:=(hr.ob id _ ho).2.1.2.2 l rfl;simp only[mT,gF,hb];rw[if_pos ⟨trivial,by simp⟩,uG];rfl
  .have hb:=(hr.ob id _ ho).2.1.2.2 l rfl;simp only[mT,gF,hb];rw[if_pos ⟨trivial,by simp⟩,uG];rfl
theorem N7{id lo ver sz:Nat}{t:Ty}{r:Sl (El t)}(hr:HR n h1 h)(hk:fD n h (.sb id ver lo t r))(ha:iU h (.sb id ver lo t r)=true)(hsz:ce t=sz):
  ∃az,gF sz h1 (yi id lo t r)=some (r.l.map (aS t),az)/\∀i∈az,i=id:=by
 subst hsz;obtain⟨u,s0,ho⟩:=l9 (h:=h) (id:=id) (ver:=ver) (dm.1 ha).2;obtain⟨_,h4⟩:=hk.2 u s0 ver ho;obtain⟨h5,h6⟩:=h4 rfl;cases r with
 |nil=>exact⟨[],rfl,fun i hi=>by simp at hi⟩
 |mk w=>
  cases s0 with
  |nil=>exact h6.elim
  |mk l=>
   refine⟨[id],?_,fun i hi=>by simpa using hi⟩
   have hb:aw h1 id=some (.aK (ce u) (l.map (aS u)))\/aw h1 id=some (.p_ (ce u) (l.map (aS u))):=by
    rcases ho with ho|ho
    .exact .inl ((hr.ob id _ ho).2.1.2.2 l rfl)
    .exact .inr ((hr.ob id _ ho).2.1.2.2 l rfl)
   rcases hb with hb|hb
   .simp only[yi,gF,hb];rw[if_pos ⟨trivial,by simpa using h6.1⟩];rw[aM,h6.2];rfl
   .simp only[yi,gF,hb];rw[if_pos ⟨trivial,by simpa using h6.1⟩];rw[aM,h6.2];rfl
theorem Hm{x:V}{y:TV}{t0 t:Ty}{m:Sl (El t)}{l:List Nat}{sz:Nat}(hr:HR n h1 h)(hx:fZ h x y)(hk:fD n h x)(ha:iU h x=true)(hs:KF t0 h x=some ⟨t,m,l⟩)(hsz:ce t=sz):
  ∃c az,y=.c c/\gF sz h1 c=some (m.l.map (aS t),az)/\∀i∈az,i∈l:=by
 cases x with
 |nl j=>cases j with|zero=>simp only[KF]at hs;obtain⟨rfl,e⟩:=jP (aa hs);obtain⟨rfl,rfl⟩:=af (eq_of_heq e);exact⟨_,[],wF hx,rfl,fun i hi=>by simp at hi⟩|succ j=>simp[KF,uN]at hs
 |x u v=>cases u with|sl u=>simp only[KF,uN]at hs;obtain⟨rfl,e⟩:=jP (aa hs);obtain⟨rfl,rfl⟩:=af (eq_of_heq e);subst hsz;exact⟨_,[],yC hx,N6,fun i hi=>by simp at hi⟩|_=>simp[KF,uN]at hs
 |so id=>obtain⟨ver,ho,e⟩:=vk (h:=h) (id:=id) hs;obtain rfl:l=[id]:=e;obtain⟨az,q1,q2⟩:=Q3 hr rfl hsz ho;exact⟨_,az,tw hx (mS ho),q1,fun i hi=>by simpa using q2 i hi⟩
 |sb id ver lo u r=>simp only[KF,uN]at hs;obtain⟨rfl,e⟩:=jP (aa hs);obtain⟨rfl,rfl⟩:=af (eq_of_heq e);obtain⟨az,q1,q2⟩:=N7 hr hk ha hsz;exact⟨_,az,q_ hx ha,q1,fun i hi=>by simpa using q2 i hi⟩
 |_=>simp[KF,uN]at hs
def uZ(s:S2):Option Nat->S2
 |none=>s
 |some id=>eN s id none
theorem CL{mD:Option Nat}{t:Ty}{w:Sl (El t)}{u:eS}{az l:List Nat}{m:Nat}(hr:HR s.next h1 s.heap)(hkl:∀id,mD=some id->id<s.next)(hd:CY t=true)(hu:∀p∈u,p.1=s.next\/mD=some p.1)(hl:∀i∈az,i∈l)(hm:m<=s.next+1)
  (hb:∀l,w=.mk l->aw (u++h1) s.next=some (.aK (ce t) (l.map (aS t)))) {x:TV} (hx:x=.c (mT (ce t) (aS t) s.next w)):rZ s (jE (uZ s mD) (.ar t w 0)) h1 x u az m (.so s.next) l:=by
 have hnx:(uZ s mD).next=s.next:=by cases mD<;>rfl
 have hh:(jE (uZ s mD) (.ar t w 0)).heap=(s.next,some (.ar t w 0))::(uZ s mD).heap:=by simp only[jE,hnx]
 have hfo:∀i,fO (jE (uZ s mD) (.ar t w 0)).heap i=if s.next=i then some (.ar t w 0)else if mD=some i then none else fO s.heap i:=by intro i;rw[hh,du];cases mD with|none=>simp[uZ]|some id=>simp only[uZ,eN,du,bM]
 have hnn:(jE (uZ s mD) (.ar t w 0)).next=s.next+1:=by simp only[jE,hnx]
 refine rZ.Fc (s.next::mD.toList) hr ⟨fun i o' hi ho=>?_⟩ ?_ ?_ ?_ ?_ hl ?_ ?_ ?_ ?_ ?_ ?_ (fun i hi h=>by rw[hfo,if_neg (by omega)];split<;>first|rfl|exact h)
 .rw [hfo,if_neg (by omega)]at ho;split at ho
  .simp at ho
  .exact .inl ⟨o',ho,sX.refl _⟩
 .cases mD<;>rfl
 .cases mD<;>rfl
 .rw [hnn];exact hm
 .rw [hnn];omega
 .cases mD<;>simp[jE,uZ,eN]
 .intro p hp;rcases hu p hp with e|e
  .simp [e]
  .simp [e]
 .intro i hi;rw[hfo,if_neg (fun e=>hi (by simp[e])),if_neg (fun e=>hi (by simp[e]))]
 .intro i hi o ho;rw[hfo]at ho;split at ho
  .rename_i e;subst e;obtain rfl:=aa ho;obtain⟨h3,h4⟩:=qR hd;exact⟨by rw[hnn];omega,⟨h3,h4,hb⟩,trivial⟩
  .rename_i e;split at ho
   .simp at ho
   .rename_i e2;rcases aN.1 hi with hi|hi
    .exact absurd hi.symm e
    .exact absurd (by simpa using hi) e2
 .rw [hx,hh,show s.next=s.next from rfl];exact wV
 .rw [hnn];exact aY _
theorem Jz{sz:Nat}{c:C}{new:List (List D)}{az:List Nat}(hx:gF sz h1 c=some (new,az))(hl:new.length<=2147483648){nx:Nat}{cl:Call}:
  cC cl (.append sz) [some (.c (.d (.lit (.slice none 0 0)))),some (.c c)] h1 nx=if new=[]then some (.c (.d (.lit (.slice none 0 0))),[],az,nx)else some (.c (.cE sz nx 0 new.length),[(nx,some (.aK sz new))],az,nx+1):=by
 simp only[cC,jI,hx];rw[if_pos (by simpa[te]using hl)];cases new<;>simp
theorem wn{mD:Option Nat}{t:Ty}{xs r:List (El t)}{sz:Nat}{c:C}{az l:List Nat}(hr:HR s.next h1 s.heap)(hkl:∀id,mD=some id->id<s.next)(hd:CY t=true)(hsz:ce t=sz)(hx:gF sz h1 c=some (xs.map (aS t),az))(hc:ld ([]++xs)=some r)
  (hl:∀i∈az,i∈l) (hz:k (.so s.next) (jE (uZ s mD) (.ar t (sP Sl.nil xs r) 0)) l=some z):yd h1 (.append sz) [.c (.d (.lit (.slice none 0 0))),.c c] s k z:=by
 subst hsz;obtain⟨rfl,hlen⟩:=xn.1 hc;refine⟨_,_,_,hz,fun cl=>?_⟩;simp only[aq,aW];rw[Jz hx (by simpa using hlen)];cases xs with|nil=>exact⟨_,_,_,_,rfl,CL hr hkl hd (fun p hp=>by simp at hp) hl (bI _) (fun l e=>by cases e) rfl⟩|cons y ys=>refine⟨_,_,_,_,if_neg (by simp),CL hr hkl hd (fun p hp=>by simp at hp;simp[hp]) hl (am _) (fun l e=>?_) rfl⟩;simp only[sP,bE]at e;cases e;rw[bd,dV,if_pos rfl]
theorem Ia{t:Ty}{w xs r:List (El t)}{sz id off:Nat}{rows:List (List D)}{c:C}{az l:List Nat}(hr:HR s.next h1 s.heap)(hid:id<s.next)(hd:CY t=true)(hsz:ce t=sz)(hl1:aw h1 id=some (.aK sz rows))(hle:off+w.length<=rows.length)(hro:rows.length<=off+(w.length+xs.length))(he:(rows.drop off).take w.length=w.map (aS t))
  (hx:gF sz h1 c=some (xs.map (aS t),az)) (hc:ld (w++xs)=some r) (hl:∀i∈id::az,i∈l) (hz:k (.so s.next) (jE (eN s id none) (.ar t (sP (.mk w) xs r) 0)) l=some z):
  yd h1 (.append sz) [.c (.cE sz id off (w.map (aS t)).length),.c c] s k z:=by
 subst hsz;obtain⟨rfl,hlen⟩:=xn.1 hc;have ea:sP (.mk w) xs (w++xs)=.mk (w++xs):=by cases xs<;>rfl
 rw[ea]at hz;refine⟨_,_,_,hz,fun cl=>⟨.c (.cE (ce t) s.next 0 ((w++xs).map (aS t)).length),[(id,none),(s.next,some (.aK (ce t) ((w++xs).map (aS t))))],id::az,s.next+1,?_,?_⟩⟩
 .simp only[aq,aW,cC,jI,hx,hl1];simp only[aM,bi]at hlen|-;rw[if_pos ⟨trivial,by omega,by simpa[te]using hlen⟩,he,<-ed,List.drop_eq_nil_of_le (by omega),List.append_nil]
 .refine CL (mD:=some id) hr (fun i e=>by cases e;exact hid) hd (fun p hp=>?_) hl (am _) (fun l e=>?_) rfl
  .simp only[aN,jj,or_false]at hp;rcases hp with rfl|rfl<;>simp
  .cases e;rw[aU,dV,if_neg (by omega),bd,dV,if_pos rfl]
theorem E2{a x:V}{ya yx:TV}{t0:Ty}{sz:Nat}
  (hz:(match KF t0 s.heap x with
  |some ⟨t,m,az⟩=>bif(ce t==sz)&&CY t then(match a with
   |.nl 0=>(ld ([]++m.l)).bind fun r=>k (.so s.next) (jE s (.ar t (sP Sl.nil m.l r) 0)) az
   |.x (.sl _) v=>bif Sl.fF v then((ld ([]++m.l)).bind fun r=>k (.so s.next) (jE s (.ar t (sP Sl.nil m.l r) 0)) az)else none
   |.so id=>(match fO s.heap id with
    |some (.ar u v _)=>(match gC (.sl t) (.sl u) m with
     |some m=>(ld (v.l++m.l)).bind fun r=>k (.so s.next) (jE (eN s id none) (.ar u (sP v m.l r) 0)) (id::az)
     |none=>none)
    |_=>none)
   |.sb id _ lo u v=>(match fO s.heap id,gC (.sl t) (.sl u) m with
    |some (.ar _ s0 _),some m=>bif Nat.ble s0.l.length (lo+(v.l.length+m.l.length))then((ld (v.l++m.l)).bind fun r=>k (.so s.next) (jE (eN s id none) (.ar u (sP v m.l r) 0)) (id::az))else none
    |_,_=>none)
   |_=>none)else none
  |none=>none)=some z)
  (hr:HR s.next h1 s.heap) (ha1:fZ s.heap a ya) (ha2:fD s.next s.heap a) (ha3:iU s.heap a=true) (hx:fZ s.heap x yx) (hk:fD s.next s.heap x) (ha:iU s.heap x=true):yd h1 (.append sz) [ya,yx] s k z:=by
 split at hz
 .rename_i t m l hs;obtain⟨h2,hz2⟩:=aO hz;simp only[ak,beq_iff_eq]at h2;obtain⟨hsz,hd⟩:=h2;obtain⟨c,az,rfl,q1,q2⟩:=Hm hr hx hk ha hs hsz;clear hz;cases a with
  |nl j=>cases j with|zero=>obtain⟨r,hc,hz3⟩:=qn hz2;rw[wF ha1];exact wn (mD:=none) hr (fun _ e=>by cases e) hd hsz q1 hc q2 hz3|succ j=>simp at hz2
  |x u v=>
   cases u with
   |sl u=>obtain⟨hnil,hz3⟩:=aO hz2;obtain⟨r,hc,hz4⟩:=qn hz3;cases v with|mk=>cases hnil|nil=>obtain⟨cc,rfl,hcc⟩:=ju (v:=.x (.sl u) Sl.nil) ha1 rfl;obtain rfl:cc=DZ 0:=(cu hcc.2).1;exact wn (mD:=none) hr (fun _ e=>by cases e) hd hsz q1 hc q2 hz4
   |_=>simp at hz2
  |so id=>
   simp only at hz2;split at hz2
   .rename_i u v ver ho;split at hz2
    .rename_i m' hm;obtain⟨rfl,e⟩:=CE hm;obtain⟨r,hc,hz3⟩:=qn hz2;rw[tw ha1 (mS (.inl ho))];rw[<-e]at q1;cases v with
     |nil=>exact wn (mD:=some id) hr (fun _ e=>by cases e;exact ha2) hd hsz q1 hc (fun i hi=>aF _ (q2 i hi)) hz3
     |mk w=>
      have hb:=(hr.ob id _ ho).2.1.2.2 w rfl;subst hsz;refine Ia (w:=w) hr ha2 hd rfl hb (by simp) (by simp only[aM];omega) (by rw[<-aM (f:=aS t)];exact uG) q1 hc (fun i hi=>?_) hz3;rcases aN.1 hi with rfl|hi
      .exact dL ..
      .exact aF _ (q2 i hi)
    .simp at hz2
   .simp at hz2
  |sb id ver lo u v=>
   simp only at hz2;split at hz2
   .rename_i u0 s0 v0 m' ho hm;obtain⟨rfl,e⟩:=CE hm;obtain⟨hgd,hz2b⟩:=aO hz2;obtain⟨r,hc,hz3⟩:=qn hz2b;rw[q_ ha1 ha3];rw[<-e]at q1;cases v with
    |nil=>exact wn (mD:=some id) hr (fun _ e=>by cases e;exact ha2.1) hd hsz q1 hc (fun i hi=>aF _ (q2 i hi)) hz3
    |mk w=>
     obtain⟨u1,s1,ho1⟩:=l9 (h:=s.heap) (id:=id) (ver:=ver) (dm.1 ha3).2;obtain⟨_,h4⟩:=ha2.2 u1 s1 ver ho1;obtain⟨h5,h6⟩:=h4 rfl
     have ho2:fO s.heap id=some (.ar u1 s1 ver):=by
      rcases ho1 with ho1|ho1
      .exact ho1
      .rw [ho]at ho1;simp at ho1
     cases s1 with
     |nil=>exact h6.elim
     |mk l1=>
      have hb:=(hr.ob id _ ho2).2.1.2.2 l1 rfl;subst hsz;rw[h5]at hb
      refine Ia (w:=w) hr ha2.1 hd rfl hb (by simpa using h6.1) (by
       rw[ho2]at ho;obtain⟨rfl,e2,_⟩:u1=u0/\_:=by simpa using ho
       cases eq_of_heq e2;have:=gj hgd;simpa[Sl.l]using this) h6.2 q1 hc (fun i hi=>?_) hz3
      rcases aN.1 hi with rfl|hi
      .exact dL ..
      .exact aF _ (q2 i hi)
   .simp at hz2
  |_=>simp at hz2
 .simp at hz
end
section
variable{h:H2}{n:Nat}{h1:bC}{β:Type}{s:S2}{k:V->S2->List Nat->Option β}{z:β}
theorem G2{id:Nat}{o o':O}{u:eS}{x:TV}{v:V}{az l:List Nat}(hr:HR s.next h1 s.heap)(ho:fO s.heap id=some o)(hs:sX o o')(hu:∀p∈u,p.1=id)(hb:v7 ((id,some o')::s.heap) o' (aw (u++h1) id))(hko:CZ s.next ((id,some o')::s.heap) o')
  (hx:fZ ((id,some o')::s.heap) v x) (hk:fD s.next ((id,some o')::s.heap) v) (hl:∀i∈az,i∈l):rZ s (eN s id (some o')) h1 x u az s.next v l:=by
 refine rZ.Fc [id] hr (jO.lh ho hs) rfl rfl (am _) (am _) hl rfl (fun p hp=>by simp[hu p hp]) (fun i hi=>?_) (fun i hi o2 ho2=>?_) hx hk (fun i _ h=>by simp only[eN];rw[du,if_neg (fun e=>by rw[e,h]at ho;cases ho)];exact h)
 .simp only[eN];rw[du,if_neg fun e=>hi (by simp[e])]
 .obtain rfl:=au.1 hi;simp only[eN,uF]at ho2;obtain rfl:=aa ho2;exact⟨(hr.ob _ _ ho).1,hb,hko⟩
theorem sO{id ver:Nat}{t:Ty}{w w':Sl (El t)}{u:eS}{x:TV}{v:V}{az l:List Nat}(hr:HR s.next h1 s.heap)(ho:fO s.heap id=some (.ar t w ver))(hn:w.fF=w'.fF)(hlen:w.l.length=w'.l.length)(hu:∀p∈u,p.1=id)
  (hb:∀l,w'=.mk l->aw (u++h1) id=some (.aK (ce t) (l.map (aS t)))) (hx:∀g,fZ g v x) (hk:∀n g,fD n g v) (hl:∀i∈az,i∈l):rZ s (eN s id (some (.ar t w' (ver+1)))) h1 x u az s.next v l:=by
 obtain⟨h2,h3,_⟩:=(hr.ob id _ ho).2.1;exact G2 hr ho ⟨bI _,rfl,hn,hlen,fun e=>by omega⟩ hu ⟨h2,h3,hb⟩ trivial (hx _) (hk _ _) hl
theorem JP{a x:V}{ya yx:TV}{t0:Ty}{sz:Nat}
  (hz:(match KF t0 s.heap x with
  |some ⟨t,m,az⟩=>bif ce t==sz then(match a with
   |.nl 0=>k (.x (.i .i64) (0:Int)) s az
   |.so id=>(match fO s.heap id with
    |some (.ar u v ver)=>(match gC (.sl t) (.sl u) m with
     |some m=>k (.x (.i .i64) ((min m.l.length v.l.length:Nat):Int)) (eN s id (some (.ar u (v.to (GA v.l 0 v.l.length m.l)) (ver+1)))) (id::az)
     |none=>none)
    |_=>none)
   |.sb id ver lo _ v=>(match fO s.heap id with
    |some (.ar u w ver')=>(match gC (.sl t) (.sl u) m with
     |some m=>bif ver'==ver then k (.x (.i .i64) ((min m.l.length v.l.length:Nat):Int)) (eN s id (some (.ar u (w.to (GA w.l lo v.l.length m.l)) (ver+1)))) (id::az)else none
     |none=>none)
    |_=>none)
   |_=>none)else none
  |none=>none)=some z)
  (hr:HR s.next h1 s.heap) (ha1:fZ s.heap a ya) (ha2:fD s.next s.heap a) (ha3:iU s.heap a=true) (hx:fZ s.heap x yx) (hk:fD s.next s.heap x) (ha:iU s.heap x=true):yd h1 (.copy sz) [ya,yx] s k z:=by
 have hmem:∀{id:Nat}{az l:List Nat},(∀i∈az,i∈l)->∀i∈id::az,i∈id::l:=fun q i hi=>by
  rcases aN.1 hi with rfl|hi
  .exact dL ..
  .exact aF _ (q i hi)
 split at hz
 .rename_i t m l hs;obtain⟨h2,hz2⟩:=aO hz;obtain rfl:ce t=sz:=by simpa using h2
  obtain⟨c,az,rfl,q1,q2⟩:=Hm hr hx hk ha hs rfl;clear hz;cases a with
  |nl j=>cases j with|zero=>rw[wF ha1];exact⟨_,_,_,hz2,fun cl=>⟨tI .i64 0,[],az,s.next,by simp only[aq,aW,cC,jY,DZ,q1];rfl,rZ.pure hr (xi _ _) trivial q2⟩⟩|succ j=>simp at hz2
  |so id=>
   simp only at hz2;split at hz2
   .rename_i u v ver ho;split at hz2
    .rename_i m' hm;obtain⟨rfl,e⟩:=CE hm;rw[tw ha1 (mS (.inl ho))];rw[<-e]at q1;cases v with
     |nil=>refine⟨_,_,_,hz2,fun cl=>⟨tI .i64 0,[],az,s.next,by simp only[aq,aW,cC,jY,mT,q1];rfl,?_⟩⟩;exact sO hr ho rfl rfl (fun p hp=>by simp at hp) (fun l e=>by cases e) (fun g=>by simpa[Sl.l]using xi .i64 0) (fun _ _=>trivial) fun i hi=>aF _ (q2 i hi)
     |mk w=>
      have hb:=(hr.ob id _ ho).2.1.2.2 w rfl;refine⟨_,_,_,hz2,fun cl=>⟨_,_,_,_,SF hb q1,?_⟩⟩;refine sO hr ho rfl ?_ (fun p hp=>by simp at hp;simp[hp]) (fun l e=>?_) (fun g=>xi _ _) (fun _ _=>trivial) (hmem q2)
      .simp only[Sl.to,Sl.l];rw[vC (by omega)]
      .simp only[Sl.to,Sl.l]at e;cases e;rw[bd,dV,if_pos rfl];rfl
    .simp at hz2
   .simp at hz2
  |sb id ver lo u0 v=>
   simp only at hz2;split at hz2
   .rename_i u w ver' ho;split at hz2
    .rename_i m' hm;obtain⟨rfl,e⟩:=CE hm;obtain⟨h3,hz3⟩:=aO hz2;obtain rfl:ver'=ver:=by simpa using h3
     rw[q_ ha1 ha3];rw[<-e]at q1;obtain⟨_,h4⟩:=ha2.2 t w ver' (.inl ho);obtain⟨h5,h6⟩:=h4 rfl;cases v with
     |nil=>cases w with|mk w=>exact h6.elim|nil=>refine⟨_,_,_,hz3,fun cl=>⟨tI .i64 0,[],az,s.next,by simp only[aq,aW,cC,jY,yi,q1];rfl,?_⟩⟩;exact sO hr ho rfl rfl (fun p hp=>by simp at hp) (fun l e=>by cases e) (fun g=>by simpa[Sl.l]using xi .i64 0) (fun _ _=>trivial) fun i hi=>aF _ (q2 i hi)
     |mk v=>
      cases w with
      |nil=>exact h6.elim
      |mk w=>
       have hb:=(hr.ob id _ ho).2.1.2.2 w rfl;refine⟨_,_,_,hz3,fun cl=>⟨tI .i64 (min m'.l.length v.length:Nat),[(id,some (.aK (ce t) ((GA w lo v.length m'.l).map (aS t))))],id::az,s.next,?_,?_⟩⟩
       .simp only[aq,aW,cC,jY,yi,q1,hb,<-h5];rw[if_pos ⟨trivial,by simpa using h6.1⟩];simp only[Gz,aM];rfl
       .refine sO hr ho rfl ?_ (fun p hp=>by simp at hp;simp[hp]) (fun l e=>?_) (fun g=>xi _ _) (fun _ _=>trivial) (hmem q2)
        .simp only[Sl.to,Sl.l];rw[vC h6.1]
        .simp only[Sl.to,Sl.l]at e;cases e;rw[bd,dV,if_pos rfl];rfl
    .simp at hz2
   .simp at hz2
  |_=>simp at hz2
 .simp at hz
theorem yH{g:H2}:fZ g (.tp .ni) (.ia []):=⟨[],rfl,rfl⟩
theorem GE{a:V}{ya:TV}{zz:List Value}
  (hz:(match a with
  |.sb id ver lo _ v=>(match fO s.heap id with
   |some (.ar u w ver')=>bif(ver'==ver)&&uM (oc u) zz&&CY u then(JU w lo v.l.length (mx u)).bind fun w=>k (.tp .ni) (eN s id (some (.ar u w (ver+1)))) [id]else none
   |_=>none)
  |_=>none)=some z)
  (hr:HR s.next h1 s.heap) (ha1:fZ s.heap a ya) (ha2:fD s.next s.heap a) (ha3:iU s.heap a=true):yd h1 (.clear zz) [ya] s k z:=by
 cases a with
 |sb id ver lo u0 v=>
  simp only at hz;split at hz
  .rename_i u w ver' ho;obtain⟨h3,hz2⟩:=aO hz;simp only[ak,beq_iff_eq]at h3;obtain⟨⟨rfl,q1⟩,q2⟩:=h3;have q1:=sg q1;subst q1;obtain⟨hd,_⟩:=qR q2;obtain⟨w',hw,hz3⟩:=qn hz2;rw[q_ ha1 ha3];obtain⟨_,h4⟩:=ha2.2 u w ver' (.inl ho);obtain⟨h5,h6⟩:=h4 rfl;have hzl:dn (oc u)=aS u (mx u):=(sf u hd).symm;have hlen:ce u=(oc u).length:=by have:=congrArg nq hzl;rw[bW,dn,aM]at this;exact this.symm
   cases w with
   |nil=>simp[JU]at hw
   |mk w=>
    cases v with
    |nil=>exact h6.elim
    |mk v=>
     simp only[JU,bM]at hw;subst hw;have hb:=(hr.ob id _ ho).2.1.2.2 w rfl;refine⟨_,_,_,hz3,fun cl=>⟨.ia [],[(id,some (.aK (ce u) ((GA w lo v.length (aA v.length (mx u))).map (aS u))))],[id],s.next,?_,?_⟩⟩
     .simp only[aq,aW,cC,mM,yi,hb,<-h5];rw[if_pos ⟨hlen,by simpa using h6.1⟩,hzl,<-Gz];simp[aM,List.map_replicate,List.take_of_length_le]
     .refine sO hr ho rfl ?_ (fun p hp=>by simp at hp;simp[hp]) (fun l e=>?_) (fun g=>yH) (fun _ _=>trivial) (fun i hi=>hi)
      .simp only[Sl.l];rw[vC (by simpa using h6.1)]
      .cases e;rw[bd,dV,if_pos rfl];rfl
  .simp at hz
 |_=>simp at hz
theorem Dc{id m:Nat}{t:Ty}{p:qo}{w:V}{ya yw:TV}(hr:HR s.next h1 s.heap)(ha1:fZ s.heap (.op id t p) ya)(ha2:fD s.next s.heap (.op id t p))(hx:fZ s.heap w yw)(hk:fD s.next s.heap w)
  (hz:(bif(yL w==m)then(match fO s.heap id with
  |some (.bx u c)=>bif decide (u=t)then(match r_ t p with
   |some a=>(match Nu a w with
    |some w=>(match o5 c p w with|some c=>bif eZ c false t then k (.tp .ni) (eN s id (some (.bx t c))) [id]else none|none=>none)
    |none=>none)
   |none=>none)else none
  |_=>none)else none)=some z):yd h1 (.store m) [ya,yw] s k z:=by
 obtain⟨h2,hz2⟩:=aO hz;simp only[beq_iff_eq]at h2;clear hz;split at hz2
 .rename_i u c ho;obtain⟨h3,hz3⟩:=aO hz2;simp only[decide_eq_true_eq]at h3;subst h3;clear hz2;split at hz3
  .rename_i a ha;split at hz3
   .rename_i w' hw;split at hz3
    .rename_i c' hc;obtain⟨h4,hz4⟩:=aO hz3;obtain⟨cw,e1,e2⟩:=ry (pn (F9 hw) hx);obtain⟨q1,q2,q3,q4⟩:=zn hw e1 hk;obtain⟨_,⟨cs,e3,e4,e5⟩,e6⟩:=hr.ob id _ ho;have l1:cw.length=yL w:=iS e1;have l2:cw.length=ce a:=by rw[iS q1,ie _ _ _ q2]
     have l3:cs.length=ce u:=by rw[iS e4,ie _ _ _ e5]
     have l4:=wU p u a ha ha2.2;have q5:=wM p c u w' c' cs cw a e5 e4 ha2.2 hc ha q1 l2;have q6:=He p c w' c' e6 q3 hc;rw[wE ha1];have hos:sX (.bx u c) (.bx u c'):=rfl;refine .lh hr ho hos hz4 (fun cl=>?_) (b:=some (.box (aX cs (nw u p) cw))) ?_ ?_ yH trivial (az:=[id]) fun i hi=>hi
     .simp only[aq,aW,cC,mL,e2];rw[if_pos (l1.trans h2)];simp only[e3];rw[if_pos (by omega)]
     .exact ⟨_,rfl,lZ (jO.lh ho hos) q6 q5,h4⟩
     .exact hO (am _) (jO.lh ho hos) q6
    .simp at hz3
   .simp at hz3
  .simp at hz3
 .simp at hz2
theorem rZ.seq{s1 s':S2}{fu u:eS}{x:TV}{az a l:List Nat}{m:Nat}{v:V}(eU:jO s.next s.heap s1.heap)(he:s1.dE=s.dE)(hg:s1.gh=s.gh)(hn:s1.next=s.next)(hwo:s1.wo=a++s.wo)(hu:∀p∈fu,p.1∈a)(hf:∀id,id∉a->fO s1.heap id=fO s.heap id)
  (hna:∀i∈a,fO s.heap i≠none) (hd:rZ s1 s' (fu++h1) x u az m v l):rZ s s' h1 x (u++fu) az m v l:=by
 obtain⟨d1,d2,d3,d4,d5,d6,d7,d8,d9,d10,W,w1,w2,w3⟩:=hd;refine⟨d1,d2,by rw[aR];exact d3,jO.trans (Nat.le_of_eq hn.symm) eU d4,d5.trans he,d6.trans hg,d7,by omega,d9,fun i hi h=>d10 i (by omega) ((hf i fun q=>hna i q h).trans h),W++a,by rw[w1,hwo,aR],fun p hp=>?_,fun i hi=>?_⟩
 .rcases ao.1 hp with hp|hp
  .exact aI _ (w2 p hp)
  .exact aG _ (hu p hp)
 .rw [w3 i fun q=>hi (aI _ q),hf i fun q=>hi (aG _ q)]
theorem Md{v w:V}{l:List Nat}(hf:jA h v=some (w,l)):Oo v:=by cases v<;>first|trivial|(simp[jA]at hf)
theorem p7{a b:List D}(e:a.map C.d=b.map C.d):a=b:=by
 induction a generalizing b with
 |nil=>cases b with|nil=>rfl|cons y b=>simp at e
 |cons x a ih=>cases b with|nil=>simp at e|cons y b=>simp only[aq,eh,C.d.injEq]at e;rw[e.1,ih e.2]
theorem SA:∀(p:qo)(t u:Ty),kQ t=true->r_ t p=some u->kQ u=true:=by
 intro p;induction p with
 |nil=>
  intro t u hd h;have e:r_ t []=some t:=by cases t<;>rfl
  rw[e]at h;exact aa h▸hd
 |cons q p ih=>
  intro t u hd h;cases q with
  |fd i=>
   cases t with
   |st t=>
    simp only[r_]at h;split at h
    .rename_i w hw;exact ih w u (zP t i w hd hw) h
    .simp at h
   |_=>simp[r_]at h
  |ix i=>cases t with|ar l t=>exact ih t u hd h|_=>simp[r_]at h
theorem Hz(t:Ty):nw t []=0:=by cases t<;>rfl
theorem FB{t:Ty}{l:List (Sl (El t))}{ln:Option (Nat×Nat)}{m:Nat}{r:Sl (El t)}(h:Hc ln m=true):(fx t l ln).set m (po t r)=fx t (l.set m r) none:=by cases ln with|none=>simp only[fx,List.map_set]|some q=>obtain⟨m',i⟩:=q;obtain rfl:m'=m:=Nat.eq_of_beq_eq_true h;simp only[fx,List.map_set,List.set_set]
theorem FC{t:Ty}{l:List (Sl (El t))}{ln:Option (Nat×Nat)}:(fx t l ln).length=l.length:=by cases ln with|none=>simp[fx]|some q=>obtain⟨m',i⟩:=q;simp[fx]
theorem zd{id id2 m:Nat}{t:Ty}{l:List (Sl (El t))}{ln:Option (Nat×Nat)}{o2:O}{r:Sl (El t)}{u:eS}{az:List Nat}(hr:HR s.next h1 s.heap)(ho:fO s.heap id=some (.rw t (.mk l) ln))(ho2:fO s.heap id2=some o2)(hne:id2≠id)(hlnm:Hc ln m=true)
  (hu:∀p∈u,p.1=id\/p.1=id2) (hb:aw (u++h1) id=some (.nst (ce t) ((fx t l ln).set m (po t r)))) (hids:∀i∈az,i∈[id,id2]):
  rZ s (eN (eN s id2 none) id (some (.rw t (.mk (l.set m r)) none))) h1 (.ia []) u az s.next (.tp .ni) [id,id2]:=by
 have eU:jO s.next s.heap ((id,some (.rw t (.mk (l.set m r)) none))::(id2,none)::s.heap):=by refine jO.trans (am _) (jO.mD id2) (jO.lh (o:=.rw t (.mk l) ln) ?_ ⟨rfl,rfl,by simp[Sl.l]⟩);rw[du,if_neg hne];exact ho
 refine rZ.Fc [id,id2] hr eU rfl rfl (am _) (am _) hids rfl (fun p hp=>?_) (fun i hi=>?_) (fun i hi o ho'=>?_) yH trivial (fun i _ h=>?_)
 .rcases hu p hp with e|e<;>simp[e]
 .simp only[aN,jj,or_false,not_or]at hi;simp only[eN];rw[du,if_neg (fun e=>hi.1 e.symm),du,if_neg (fun e=>hi.2 e.symm)]
 .simp only[eN]at ho';by_cases hi1:id=i
  .subst hi1;rw[du,if_pos rfl]at ho';obtain rfl:=aa ho';obtain⟨a,⟨d1,d2,_⟩,_⟩:=hr.ob _ _ ho;exact⟨a,⟨d1,d2,fun l' e=>by cases e;rw[hb,FB hlnm]⟩,trivial⟩
  .rw [du,if_neg hi1]at ho';simp only[aN,jj,or_false]at hi;rcases hi with rfl|rfl
   .exact absurd rfl hi1
   .rw [du,if_pos rfl]at ho';cases ho'
 .simp only[eN];rw[du,if_neg (fun e=>by subst e;rw[ho]at h;cases h),du,if_neg (fun e=>by subst e;rw[ho2]at h;cases h)];exact h
theorem rZ.nx{s s':S2}{x:TV}{u:eS}{az l:List Nat}{m q:Nat}{v:V}(d:rZ s s' h1 x u az m v l)(hq:q<=s'.next):rZ s s' h1 x u az q v l:=⟨d.val,d.Zb,d.hr,d.eU,d.dE,d.gh,hq,d.le,d.az,d.nb,d.wo⟩
theorem Dd{id m q:Nat}{t:Ty}{p:qo}{w:V}{ya yw:TV}(hr:HR s.next h1 s.heap)(ha1:fZ s.heap (.ep id m t p) ya)(ha2:fD s.next s.heap (.ep id m t p))(hx:fZ s.heap w yw)(hk:fD s.next s.heap w)(ha:iU s.heap w=true)
  (hz:(bif(yL w==q)then Fz id m t p w s (fun s l=>k (.tp .ni) s l)else none)=some z):yd h1 (.store q) [ya,yw] s k z:=by
 obtain⟨h2,hz2⟩:=aO hz;simp only[beq_iff_eq]at h2;clear hz;unfold Fz at hz2;split at hz2
 .rename_i u v ln ho;split at hz2
  .rename_i id2;split at hz2
   .rename_i u2 r ver ho2;split at hz2
    .rename_i r' hr';obtain⟨h3,hz3⟩:=aO hz2;simp only[ak,decide_eq_true_eq,Bool.not_eq_true',beq_eq_false_iff_ne]at h3;obtain⟨⟨rfl,hne⟩,hln⟩:=h3;obtain⟨e,e2⟩:=dl hr';cases e;obtain rfl:r'=r:=e2;have hlen:=ha2.2.2.2 _ _ _ ho;obtain⟨_,⟨d1,d2,d3⟩,_⟩:=hr.ob id _ ho;obtain⟨_,⟨_,_,c3⟩,_⟩:=hr.ob id2 _ ho2;cases v with
     |nil=>simp[Sl.l]at hlen
     |mk l=>
      have d3:=d3 l rfl;have h2':q=1:=h2.symm;subst h2';rw[tC ha1,tw hx (mS (.inl ho2)),Hz];have hl2:m<(fx u l ln).length:=by rw[FC];exact hlen
      cases r' with
      |nil=>
       refine⟨_,_,_,hz3,fun cl=>⟨.ia [],[(id,some (.nst (ce u) ((fx u l ln).set m .nil)))],[id],s.next,?_,?_⟩⟩
       .simp only[aq,aW,cC,mL,mT,cellsOf,d3];rw[if_pos (show([_]:List C).length=1 from rfl)];rw[if_pos ⟨trivial,trivial,hl2⟩];simp only[sI]
       .exact zd hr ho ho2 hne hln (fun p hp=>by simp at hp;simp[hp]) (by rw[bd,dV,if_pos rfl];rfl) (fun i hi=>by simp at hi;simp[hi])
      |mk rr=>
       have c3:=c3 rr rfl;refine⟨_,_,_,hz3,fun cl=>⟨.ia [],[(id,some (.nst (ce u) ((fx u l ln).set m (.bD (rr.map (aS u)))))),(id2,none)],[id,id2],s.next,?_,?_⟩⟩
       .simp only[aq,aW,cC,mL,mT,cellsOf,d3];rw[if_pos (show([_]:List C).length=1 from rfl)];rw[if_pos ⟨trivial,trivial,hl2⟩];simp only[sI,c3];rw[if_pos ⟨trivial,by simp,hne⟩]
       .exact zd hr ho ho2 hne hln (fun p hp=>by simp at hp;rcases hp with rfl|rfl<;>simp) (by rw[aU,dV,if_pos rfl];rfl) (fun i hi=>hi)
    .simp at hz2
   .simp at hz2
  .simp at hz2
 .rename_i u l ver ho;split at hz2
  .rename_i w' a hw;obtain⟨h3,hz3⟩:=aO hz2;simp only[decide_eq_true_eq]at h3;subst h3;clear hz2;split at hz3
   .rename_i b2 hb;split at hz3
    .rename_i y hy;split at hz3
     .rename_i c hc;split at hz3
      .rename_i y2 hy2;split at hz3
       .rename_i s1 hs1;obtain⟨h4,hz4⟩:=aO hz3;obtain⟨cw,e1,e2⟩:=ry (pn (Md hw) hx);obtain⟨ds,az,f1,f2,f3,f4,f5⟩:=tX hr w w' a cw hw e1 hk ha;have e3:=p7 (js w' false b2 y _ hy f2);have hlen:=ha2.2.2.1 u l ver (.inl ho)
        have hnm:∀(ds:List D)(cs:List C)(az:List Nat),dZ h1 cs=some (ds,az)->ds.length=cs.length:=by
         intro ds cs;induction cs generalizing ds with
         |nil=>intro az h;obtain⟨rfl,_⟩:[]=ds/\[]=az:=by simpa[dZ]using h
               rfl
         |cons c cs ih=>
          intro az h;simp only[dZ]at h;split at h
          .rename_i p1 p2 p3 p4 hp hq;obtain⟨rfl,rfl⟩:=af (aa h);simp[ih _ _ hq]
          .simp at h
        have l1:cw.length=yL w:=iS e1;have l2:ds.length=ce b2:=by rw[e3,bW]
        have l3:=hnm _ _ _ f1;have l4:=wU p u b2 hb ha2.2.1;cases l with
        |nil=>simp[Sl.l]at hlen
        |mk l=>
         obtain⟨_,⟨d1,d2,d3⟩,_⟩:=hr.ob id _ ho;have d3:=d3 l rfl;have q5:=wM (h:=s.heap) p (.x u (gt l m)) u (.x b2 y) c ((aS u (gt l m)).map .d) ((aS b2 y).map .d) b2 (by simp[eZ]) ⟨d1,rfl⟩ ha2.2.1 hc hb ⟨SA p u b2 d1 hb,rfl⟩ (by simp[bW]);have q6:=qg hy2 q5;rw[<-vh]at q6;have q7:=p7 q6;obtain⟨fu,g1,g2,g3,g4,g5,g6,g7,g8,g9⟩:=Cl (s0:=s) rfl hr a s1 az az hs1 f3 f4;have hid:id∉a:=by simpa using h4
         have hid2:az.contains id=false:=by cases hq:az.contains id with|false=>rfl|true=>exact absurd ((f3 id (by simpa using hq)).1) hid
         rw[tC ha1];refine⟨_,_,_,hz4,fun cl=>⟨.ia [],(id,some (.aK (ce u) ((l.set m y2).map (aS u))))::fu,id::az,s.next,?_,?_⟩⟩
         .simp only[aq,aW];exact NU d3 hlen e2 (l1.trans h2) f1 g1 hid2 (by rw[bW];omega) (by rw[e3];exact q7)
         .have ho1:fO s1.heap id=some (.ar u (.mk l) ver):=by rw[g9 id hid];exact ho
          rw[<-g6]at g2
          have:=sO (v:=.tp .ni) (x:=.ia []) (az:=id::az) (l:=id::a) (u:=[(id,some (.aK (ce u) ((l.set m y2).map (aS u))))]) g2 ho1 (w':=.mk (l.set m y2)) rfl (by simp[Sl.l]) (fun p hp=>by simp at hp;simp[hp]) (fun l' e=>by cases e;rw[bd,dV,if_pos rfl]) (fun _=>yH) (fun _ _=>trivial) (fun i hi=>by
           rcases aN.1 hi with rfl|hi
           .exact dL ..
           .exact aF _ (f3 i hi).1)
          rw[g6]at this;exact rZ.seq g3 g4 g5 g6 g7 g8 g9 (Gn rfl hs1) this
       .simp at hz3
      .simp at hz3
     .simp at hz3
    .simp at hz3
   .simp at hz3
  .simp at hz2
 .simp at hz2
end
section
variable{h:H2}{n:Nat}{h1:bC}{β:Type}{s:S2}{k:V->S2->List Nat->Option β}{z:β}
theorem ve:∀{cs:List C}{ds:List D}{az:List Nat},dZ h1 cs=some (ds,az)->ds.length=cs.length:=by
 intro cs;induction cs with
 |nil=>intro ds az h;obtain⟨rfl,_⟩:[]=ds/\[]=az:=by simpa[dZ]using h
       rfl
 |cons c cs ih=>
  intro ds az h;simp only[dZ]at h;split at h
  .rename_i p1 p2 p3 p4 hp hq;obtain⟨rfl,rfl⟩:=af (aa h);simp[ih hq]
  .simp at h
theorem QJ{t:Ty}(hd:kQ t=true)(m:Nat):(aA m (mx t)).flatMap (aS t)=dn ((aA m (oc t)).flatten):=by induction m with|zero=>rfl|succ m ih=>simp only[iZ,bg,eW,ih,sf t hd,dn,ed]
theorem B9(l:List Value):fm l=(dn l).map .d:=by simp[fm,dn]
theorem Kj{t:Ty}(hd:kQ t=true)(m:Nat):((aA m (oc t)).flatten).length=m*ce t:=by have:=congrArg nq (QJ hd m);rw[Er (bW t),List.length_replicate,dn,aM]at this;exact this.symm
theorem EP{α:Type}{f:α->List D}{q:Nat}(hf:∀a,(f a).length=q):∀(l:List α),mX q l.length (l.flatMap f)=l.map f:=by intro l;induction l with|nil=>rfl|cons a l ih=>simp only[c_,mX,bg,aq];rw[List.take_left' (hf a),List.drop_left' (hf a),ih]
theorem FN{t:Ty}{len:Nat}(hr:HR n h1 h)(hd:kQ t=true):∀(is:List Nat)(vs:List V)(m:Nat)(l:List (El t))(a:List Nat)(pre:List C)(xs:List TV),yY h t len m is vs=some (l,a)->m<=len->pre.length=m*ce t->
  mR h vs xs->(∀w∈vs,fD n h w)->(∀w∈vs,iU h w=true)->
  ∃cs az,li (pre++fm ((aA (len-m) (oc t)).flatten)) ((is.map fun i=>(i*ce t,ce t)).zip xs)=some (pre++cs)/\dZ h1 cs=some (l.flatMap (aS t),az)/\(∀i∈az,i∈a/\¬nr h i)/\(∀i∈a,i∈az\/nr h i)/\l.length=len-m:=by
 intro is;induction is with
 |nil=>intro vs m l a pre xs hf hm hpre hx hk ha;cases vs with|cons v vs=>simp[yY]at hf|nil=>simp only[yY,bM,Prod.mk.injEq]at hf;obtain⟨rfl,rfl⟩:=hf;obtain rfl:=lB hx;refine⟨_,[],rfl,?_,fun i hi=>by simp at hi,fun i hi=>by simp at hi,by simp⟩;rw[B9,QJ hd];exact vL _
 |cons i is ih=>
  intro vs m l a pre xs hf hm hpre hx hk ha;cases vs with
  |nil=>simp[yY]at hf
  |cons v vs=>
   simp only[yY]at hf;split at hf
   .rename_i w a1 hw;split at hf
    .rename_i y hy;obtain⟨hc,hf⟩:=aO hf;simp only[ak,Nat.ble_eq,Nat.blt_eq]at hc;obtain⟨hmi,hil⟩:=hc;split at hf
     .rename_i l1 b hl1;obtain⟨rfl,rfl⟩:=af (aa hf);obtain⟨x,ys,rfl,hx1,hx2⟩:=gA hx;obtain⟨cw,e1,e2⟩:=ry (pn (Md hw) hx1);obtain⟨ds,az,f1,f2,f3,f4,_⟩:=tX hr v w a1 cw hw e1 (hk _ (by simp)) (ha _ (by simp));have e3:=p7 (js w false t y _ hy f2);subst e3;have l1':cw.length=ce t:=by rw[<-ve f1,bW]
      have lz:(fm ((aA (i-m) (oc t)).flatten)).length=(i-m)*ce t:=by simp only[fm,aM];exact Kj hd _
      have lz1:(fm (oc t)).length=ce t:=by rw[B9,<-sf t hd,aM,bW]
      have hpl:(pre++fm ((aA (i-m) (oc t)).flatten)).length=i*ce t:=by rw[bi,hpre,lz,<-b_,Nat.add_sub_cancel' hmi]
      obtain⟨cs,jds,g1,g2,g3,g4,g5⟩:=ih vs (i+1) l1 b (pre++fm ((aA (i-m) (oc t)).flatten)++cw) ys hl1 hil (by rw[bi,hpl,l1',b_,Nat.one_mul]) hx2 (fun w hw=>hk w (by simp[hw])) (fun w hw=>ha w (by simp[hw]));have hsplit:aA (len-m) (oc t)=aA (i-m) (oc t)++(oc t::aA (len-(i+1)) (oc t)):=by rw[<-iZ,List.replicate_append_replicate];congr 1;omega
      have hcells:pre++fm ((aA (len-m) (oc t)).flatten)=(pre++fm ((aA (i-m) (oc t)).flatten))++(fm (oc t)++fm ((aA (len-(i+1)) (oc t)).flatten)):=by rw[hsplit,List.flatten_append,eW,tW,tW,aR]
      refine⟨fm ((aA (i-m) (oc t)).flatten)++(cw++cs),az++jds,?_,?_,fun j hj=>?_,fun j hj=>?_,by simp[g5];omega⟩
      .simp only[aq,List.zip_cons_cons,li,e2];rw[if_pos ⟨l1',by rw[hcells,bi,hpl,bi,lz1];omega⟩,hcells];have:aX ((pre++fm ((aA (i-m) (oc t)).flatten))++(fm (oc t)++fm ((aA (len-(i+1)) (oc t)).flatten))) (i*ce t) cw=(pre++fm ((aA (i-m) (oc t)).flatten)++cw)++fm ((aA (len-(i+1)) (oc t)).flatten):=by have:=um (a:=pre++fm ((aA (i-m) (oc t)).flatten)) (b:=fm (oc t)++fm ((aA (len-(i+1)) (oc t)).flatten)) (p:=cw) (off:=0);rw[hpl]at this;refine Eq.trans this ?_;rw[ul (by omega),m_ (by omega)];simp only[aR]
       rw[this,g1];simp only[aR]
      .rw [List.flatMap_append,bg,QJ hd];have hz:dZ h1 (fm ((aA (i-m) (oc t)).flatten))=some (dn ((aA (i-m) (oc t)).flatten),[]):=by rw[B9];exact vL _
       exact(qY hz (qY f1 g2):dZ h1 _=some (_,[]++(az++jds)))
      .rcases ao.1 hj with hj|hj
       .exact ⟨aI _ (f3 j hj).1,(f3 j hj).2⟩
       .exact ⟨aG _ (g3 j hj).1,(g3 j hj).2⟩
      .rcases ao.1 hj with hj|hj
       .exact (f4 j hj).imp (aI _) id
       .exact (g4 j hj).imp (aG _) id
     .simp at hf
    .simp at hf
   .simp at hf
theorem EU{t:Ty}{len sz:Nat}{zl:List Value}{pl:List Nat}{vs:List V}{xs:List TV}
  (hz:SK t sz len zl pl vs s k=some z)
  (hr:HR s.next h1 s.heap) (hx:mR s.heap vs xs) (hk:∀w∈vs,fD s.next s.heap w) (ha:∀w∈vs,iU s.heap w=true):yd h1 (.buildSlice sz len zl pl) xs s k z:=by
 unfold SK at hz;obtain⟨h2,hz2⟩:=aO hz;simp only[ak,beq_iff_eq]at h2;obtain⟨⟨rfl,h3⟩,h4⟩:=h2;have h3:=sg h3;subst h3;obtain⟨hd,hs0⟩:=qR h4;clear hz;split at hz2
 .rename_i l a hl;split at hz2
  .rename_i s1 hs1;obtain⟨cs,az,g1,g2,g3,g4,g5⟩:=FN hr hd pl vs 0 l a [] xs hl (Nat.zero_le _) (by simp) hx hk ha;obtain⟨fu,f1,f2,f3,f4,f5,f6,f7,f8,f9⟩:=Cl (s0:=s) rfl hr a s1 az az hs1 g3 g4;refine⟨_,_,_,hz2,fun cl=>⟨.c (.cE (ce t) s.next 0 len),(s.next,some (.aK (ce t) (l.map (aS t))))::fu,az,s.next+1,?_,?_⟩⟩
   .have hc:mX (ce t) len (l.flatMap (aS t))=l.map (aS t):=by have:=EP (bW t) l;rwa[show l.length=len by simpa using g5]at this
    simp only[cC,nR];have g1:li (fm ((aA len (oc t)).flatten)) ((pl.map fun i=>(i*ce t,ce t)).zip xs)=some cs:=by simpa using g1
    rw[g1];simp only[g2,f1,hc]
   .have hr1:HR s1.next (fu++h1) s1.heap:=by rw[f6];exact f2
    have hd1:rZ s1 (jE s1 (.ar t (.mk l) 0)) (fu++h1) (.c (.cE (ce t) s.next 0 len)) [(s1.next,some (.aK (ce t) (l.map (aS t))))] az (s.next+1) (.so s1.next) a:=by refine rZ.new hr1 (.inl rfl) (fun _=>⟨hd,hs0,fun l' e=>by cases e;rfl⟩) trivial ?_ (aY _) (fun i hi=>(g3 i hi).1) (by rw[f6];exact am _);have:=wV (h:=s1.heap) (t:=t) (s:=.mk l) (v:=0) (nx:=s1.next);rw[f6]at this|-;simpa[mT,show l.length=len by simpa using g5]using this
    rw[f6]at hd1;exact rZ.seq f3 f4 f5 f6 f7 f8 f9 (Gn rfl hs1) hd1
  .simp at hz2
 .simp at hz2
theorem Gu{ka va:Bool}{ks:List Kd}{zl:List Value}{id:Nat}{kv:V}{ya yk:TV}(hr:HR s.next h1 s.heap)(ha1:fZ s.heap (.om id) ya)(hx:fZ s.heap kv yk)
  (hz:(match fO s.heap id with
  |some (.mp kt vt m)=>(match sd kt kv with
   |some q=>bif(lQ kt==ka)&&(lQ vt==va)&&decide (Aj kt=some ks)&&uM (oc vt) zl&&kQ vt&&(va||ce vt==1)then
     k (.tp (.co (.x vt (tR m (mx vt) q).2.1) (.co (.x (.i .i64) (tR m (mx vt) q).2.2) .ni))) (eN s id (some (.mp kt vt (tR m (mx vt) q).1))) [id]else none
   |none=>none)
  |_=>none)=some z):yd h1 (.mapEntry ka ks va zl) [ya,yk] s k z:=by
 split at hz
 .rename_i kt vt m ho;split at hz
  .rename_i q hq;obtain⟨hc,hz2⟩:=aO hz;simp only[ak,beq_iff_eq,decide_eq_true_eq]at hc;obtain⟨⟨⟨⟨⟨c1,c2⟩,c3⟩,c4⟩,c5⟩,c6⟩:=hc;rw[yE ha1];obtain⟨_,_,k3,_⟩:=uB kt ks c3;have hzz:dn zl=aS vt (mx vt):=by rw[sf vt c5,sg c4]
   have hv:∀y,pM va (aS vt y)=some (Te vt y):=fun y=>G5 y c2 c6;have hkt:=wg hx hq c3 c1;have e3:=(hr.ob id _ ho).2.1.2.2;rw[<-c2]at c6;have e4:aw h1 id=ym ka va (u_ kt) (aS vt) m:=by rw[<-c1,<-c2];exact e3
   have hos:sX (.mp kt vt m) (.mp kt vt (tR m (mx vt) q).1):=trivial;refine .lh hr ho hos hz2 (fun cl=>VB (z:=mx vt) e4 hkt k3 hzz hv) ⟨c5,⟨ks,c3⟩,by rw[c1,c2];rfl⟩ trivial ?_ ⟨trivial,trivial,trivial⟩ fun i hi=>hi;exact⟨_,rfl,_,_,rfl,Kq c5 c6,_,_,rfl,eD rfl ⟨rfl,rfl⟩,rfl⟩
  .simp at hz
 .simp at hz
theorem Mz:∀(l:List D),zN (l.map .d)=some l:=by intro l;induction l with|nil=>rfl|cons d l ih=>simp[zN,ih]
theorem Ez{va:Bool}{m0 id:Nat}{kd:IntKind}{st:Int}{w:V}{ya yw:TV}(hr:HR s.next h1 s.heap)(ha1:fZ s.heap (.om id) ya)(hx:fZ s.heap w yw)
  (hz:(match fO s.heap id with
  |some (.mp kt vt m)=>(match sd vt w with
   |some y=>bif(lQ vt==va)&&(ce vt==m0)&&kQ vt then(HD m st y).bind fun m=>k (.tp .ni) (eN s id (some (.mp kt vt m))) [id]else none
   |none=>none)
  |_=>none)=some z):yd h1 (.entryStore va m0) [ya,tI kd st,yw] s k z:=by
 split at hz
 .rename_i kt vt m ho;split at hz
  .rename_i y hy;obtain⟨hc,hz2⟩:=aO hz;simp only[ak,beq_iff_eq]at hc;obtain⟨⟨rfl,rfl⟩,c3⟩:=hc;obtain⟨m',hm,hz3⟩:=qn hz2;rw[yE ha1];obtain⟨_,hks,e3⟩:=(hr.ob id _ ho).2.1;obtain⟨g1,g2⟩:=uH hx hy;have hos:sX (.mp kt vt m) (.mp kt vt m'):=trivial;have hcs:(cellsOf yw).bind zN=some (aS vt y)/\qN yw=lQ vt:=by cases hag:lQ vt with|true=>rw[g1 hag];exact⟨by simp[cellsOf,Mz],rfl⟩|false=>obtain⟨d,e,rfl⟩:=g2 hag;exact⟨by simp[cellsOf,zN,e],rfl⟩
   refine .lh hr ho hos hz3 (fun cl=>VA (va:=lQ vt) (ek:=u_ kt) (ka:=lQ kt) hm e3 hcs.1 (bW vt y) hcs.2) ⟨c3,hks,rfl⟩ trivial yH trivial fun i hi=>hi
  .simp at hz
 .simp at hz
theorem I5{ka va:Bool}{ks:List Kd}{m0 id:Nat}{kv w:V}{ya yk yw:TV}(hr:HR s.next h1 s.heap)(ha1:fZ s.heap (.om id) ya)(hx:fZ s.heap kv yk)(hw:fZ s.heap w yw)
  (hz:(match fO s.heap id with
  |some (.mp kt vt m)=>(match sd kt kv with
   |some q=>(match sd vt w with
    |some y=>bif(lQ kt==ka)&&(lQ vt==va)&&decide (Aj kt=some ks)&&(ce vt==m0)&&kQ vt then k (.tp .ni) (eN s id (some (.mp kt vt (gW m q y)))) [id]else none
    |none=>none)
   |none=>none)
  |_=>none)=some z):yd h1 (.tT ka ks va m0) [ya,yk,yw] s k z:=by
 split at hz
 .rename_i kt vt m ho;split at hz
  .rename_i q hq;split at hz
   .rename_i y hy;obtain⟨hc,hz2⟩:=aO hz;simp only[ak,beq_iff_eq,decide_eq_true_eq]at hc;obtain⟨⟨⟨⟨rfl,rfl⟩,c3⟩,rfl⟩,c5⟩:=hc;rw[yE ha1];obtain⟨_,_,k3,_⟩:=uB kt ks c3;have hkt:=wg hx hq c3 rfl;have e3:=(hr.ob id _ ho).2.1.2.2;obtain⟨g1,g2⟩:=uH hw hy;have hos:sX (.mp kt vt m) (.mp kt vt (gW m q y)):=trivial;have hcs:cellsOf yw=some ((aS vt y).map .d)/\qN yw=lQ vt:=by cases hag:lQ vt with|true=>rw[g1 hag];exact⟨rfl,rfl⟩|false=>obtain⟨d,e,rfl⟩:=g2 hag;exact⟨by rw[e];rfl,rfl⟩
    exact .lh hr ho hos hz2 (fun cl=>Uf (ek:=u_ kt) e3 hkt k3 hcs.1 (vL _) (bW vt y) hcs.2) ⟨c5,⟨ks,c3⟩,rfl⟩ trivial yH trivial fun i hi=>hi
   .simp at hz
  .simp at hz
 .simp at hz
theorem Jd{ka:Bool}{ks:List Kd}{id:Nat}{kv:V}{ya yk:TV}(hr:HR s.next h1 s.heap)(ha1:fZ s.heap (.om id) ya)(hx:fZ s.heap kv yk)
  (hz:(match fO s.heap id with
  |some (.mp kt vt m)=>(match sd kt kv with
   |some q=>bif(lQ kt==ka)&&decide (Aj kt=some ks)then k (.tp .ni) (eN s id (some (.mp kt vt (jF m q)))) [id]else none
   |none=>none)
  |_=>none)=some z):yd h1 (.tU ka ks) [ya,yk] s k z:=by
 split at hz
 .rename_i kt vt m ho;split at hz
  .rename_i q hq;obtain⟨hc,hz2⟩:=aO hz;simp only[ak,beq_iff_eq,decide_eq_true_eq]at hc;obtain⟨rfl,c3⟩:=hc;rw[yE ha1];obtain⟨_,_,k3,_⟩:=uB kt ks c3;have hkt:=wg hx hq c3 rfl;obtain⟨c5,_,e3⟩:=(hr.ob id _ ho).2.1;have hos:sX (.mp kt vt m) (.mp kt vt (jF m q)):=trivial;exact .lh hr ho hos hz2 (fun cl=>VH (ek:=u_ kt) e3 hkt k3) ⟨c5,⟨ks,c3⟩,rfl⟩ trivial yH trivial fun i hi=>hi
  .simp at hz
 .simp at hz
end
section
variable{h:H2}{n:Nat}{h1:bC}{β:Type}{s:S2}{k:V->S2->List Nat->Option β}{z:β}
theorem w7:∀{r:List V}{l:List Int}{xs:List TV},w8 r=some l->mR h r xs->∃ks:List IntKind,ks.length=l.length/\xs=(ks.zip l).map fun p=>tI p.1 p.2:=by
 intro r;induction r with
 |nil=>
  intro l xs hl hx;obtain rfl:[]=l:=by simpa[w8]using hl
  exact⟨[],rfl,lB hx⟩
 |cons v r ih=>
  intro l xs hl hx;cases v with
  |x t v=>
   cases t with
   |i q=>
    simp only[w8]at hl;split at hl
    .rename_i l' hl';obtain rfl:=aa hl;obtain⟨x,ys,rfl,h1,h2⟩:=gA hx;obtain⟨ks,h3,rfl⟩:=ih hl' h2;exact⟨q::ks,by simp[h3],by rw[kI h1];rfl⟩
    .simp at hl
   |_=>simp[w8]at hl
  |_=>simp[w8]at hl
theorem LV{r:List V}{xs:List TV}(hl:w8 r=some [])(hx:mR h r xs):xs=[]:=by obtain⟨ks,h1,rfl⟩:=w7 hl hx;cases ks<;>simp_all
theorem Ce{r:List V}{a:Int}{xs:List TV}(hl:w8 r=some [a])(hx:mR h r xs):∃q,xs=[tI q a]:=by obtain⟨ks,h1,rfl⟩:=w7 hl hx;cases ks with|nil=>simp at h1|cons q ks=>exact⟨q,by cases ks<;>simp_all⟩
theorem LU{r:List V}{a b:Int}{xs:List TV}(hl:w8 r=some [a,b])(hx:mR h r xs):∃q q',xs=[tI q a,tI q' b]:=by
 obtain⟨ks,h1,rfl⟩:=w7 hl hx;cases ks with
 |nil=>simp at h1
 |cons q ks=>cases ks with|nil=>simp at h1|cons q' ks=>exact⟨q,q',by cases ks<;>simp_all⟩
theorem BM{x y:ByteArray}{lo hi:Option Int}(hs:Ap x (lo.getD 0) (hi.getD x.size)=some y)(sz:Nat):cZ true sz (.d (dS x)) lo hi=some (.d (dS y)):=by
 unfold Ap at hs;split at hs
 .rename_i hb;obtain rfl:=aa hs;simp only[cZ,if_true];rw[if_pos hb]
 .simp at hs
theorem Di{x:ByteArray}{r:List V}{lo hi:Bool}{sz:Nat}{y:TV}{ys:List TV}(hr:HR s.next h1 s.heap)(hy:fZ s.heap (.x .s x) y)(hys:mR s.heap r ys)
  (hz:(match lo,hi,w8 r with
  |false,false,some []=>(Ap x 0 x.size).bind fun y=>k (.x .s y) s []
  |true,false,some [l]=>(Ap x l x.size).bind fun y=>k (.x .s y) s []
  |false,true,some [u]=>(Ap x 0 u).bind fun y=>k (.x .s y) s []
  |true,true,some [l,u]=>(Ap x l u).bind fun y=>k (.x .s y) s []
  |_,_,_=>none)=some z):yd h1 (.slice true sz lo hi) (y::ys) s k z:=by
 rw[xy hy];split at hz
 .rename_i hi;obtain rfl:=LV hi hys;obtain⟨w,hw,hz2⟩:=qn hz;exact .pure hr hz2 (fun _=>by simp only[aq,aW,cC];rw[BM (lo:=none) (hi:=none) hw]) (Td w) trivial
 .rename_i l hi;obtain⟨q,rfl⟩:=Ce hi hys;obtain⟨w,hw,hz2⟩:=qn hz;exact .pure hr hz2 (fun _=>by simp only[aq,aW,cC,cG];rw[BM (lo:=some l) (hi:=none) hw]) (Td w) trivial
 .rename_i l hi;obtain⟨q,rfl⟩:=Ce hi hys;obtain⟨w,hw,hz2⟩:=qn hz;exact .pure hr hz2 (fun _=>by simp only[aq,aW,cC,cG];rw[BM (lo:=none) (hi:=some l) hw]) (Td w) trivial
 .rename_i l u hi;obtain⟨q,q',rfl⟩:=LU hi hys;obtain⟨w,hw,hz2⟩:=qn hz;exact .pure hr hz2 (fun _=>by simp only[aq,aW,cC,cG];rw[BM (lo:=some l) (hi:=some u) hw]) (Td w) trivial
 .simp at hz
theorem Dj{x:V}{r:List V}{lo hi:Bool}{sz:Nat}{y:TV}{ys:List TV}(hr:HR s.next h1 s.heap)(hy:fZ s.heap x y)(hk:fD s.next s.heap x)(ha:iU s.heap x=true)(hys:mR s.heap r ys)
  (hz:(match lo,hi,w8 r,Gg s.heap x with
  |false,false,some [],some n=>uR sz s.heap x 0 n fun v=>k v s []
  |true,false,some [l],some n=>uR sz s.heap x l n fun v=>k v s []
  |false,true,some [u],some _=>uR sz s.heap x 0 u fun v=>k v s []
  |true,true,some [l,u],some _=>uR sz s.heap x l u fun v=>k v s []
  |_,_,_,_=>none)=some z):yd h1 (.slice false sz lo hi) (y::ys) s k z:=by
 split at hz
 .rename_i m hi hm;obtain rfl:=LV hi hys;obtain⟨v,c,c',rfl,h3,h4,h5,h6⟩:=Cz (lo:=none) (hi:=none) hr hy hk ha hm hz;exact .pure hr h3 (fun _=>by simp only[aq,aW,cC];rw[h4]) h5 h6
 .rename_i l m hi hm;obtain⟨q,rfl⟩:=Ce hi hys;obtain⟨v,c,c',rfl,h3,h4,h5,h6⟩:=Cz (lo:=some l) (hi:=none) hr hy hk ha hm hz;exact .pure hr h3 (fun _=>by simp only[aq,aW,cC,cG];rw[h4]) h5 h6
 .rename_i u m hi hm;obtain⟨q,rfl⟩:=Ce hi hys;obtain⟨v,c,c',rfl,h3,h4,h5,h6⟩:=Cz (lo:=none) (hi:=some u) hr hy hk ha hm hz;exact .pure hr h3 (fun _=>by simp only[aq,aW,cC,cG];rw[h4]) h5 h6
 .rename_i l u m hi hm;obtain⟨q,q',rfl⟩:=LU hi hys;obtain⟨v,c,c',rfl,h3,h4,h5,h6⟩:=Cz (lo:=some l) (hi:=some u) hr hy hk ha hm hz;exact .pure hr h3 (fun _=>by simp only[aq,aW,cC,cG];rw[h4]) h5 h6
 .simp at hz
theorem NY{t:Ty}{l:List (Sl (El t))}{m:Nat}(hm:m<l.length):(l.map (po t))[m]?=some (po t (gt l m)):=by rw[List.getElem?_map,aC hm];simp[gt,List.getD,aC hm]
theorem KH{α:Type}{l:List α}{m:Nat}{x:α}(h:l[m]?=some x):l.set m x=l:=by obtain⟨hm,rfl⟩:=List.getElem?_eq_some_iff.1 h;exact List.set_getElem_self hm
theorem Ge{id m:Nat}{u:Ty}{y:TV}(hr:HR s.next h1 s.heap)(hx:fZ s.heap (.ep id m u []) y)(hk:fD s.next s.heap (.ep id m u []))
  (hz:(match fO s.heap id with
  |some (.rw t v none)=>bif decide (u=.sl t)then k (.so s.next) (jE (eN s id (some (.rw t v (some (m,s.next))))) (.ar t (gt v.l m) 0)) [id]else none
  |_=>none)=some z):yd h1 .uY [y] s k z:=by
 split at hz
 .rename_i t v ho;obtain⟨h2,hz2⟩:=aO hz;simp only[decide_eq_true_eq]at h2;subst h2;rw[tC hx,Hz];have hlen:=hk.2.2.2 _ _ _ ho;obtain⟨hid,⟨d1,d2,d3⟩,_⟩:=hr.ob id _ ho;cases v with
  |nil=>simp[Sl.l]at hlen
  |mk l=>
   have d3:=d3 l rfl;have hlen:m<l.length:=hlen;have eU:jO s.next s.heap ((s.next,some (.ar t (gt l m) 0))::(id,some (.rw t (.mk l) (some (m,s.next))))::s.heap):=jO.trans (am _) (jO.lh (o':=.rw t (.mk l) (some (m,s.next))) ho ⟨rfl,rfl,rfl⟩) (jO.new _)
   have key:∀{x:TV}{u:eS},fZ ((s.next,some (.ar t (gt l m) 0))::(id,some (.rw t (.mk l) (some (m,s.next))))::s.heap) (.so s.next) x->(∀p∈u,p.1=s.next\/p.1=id)->
     aw (u++h1) id=some (.nst (ce t) (fx t l (some (m,s.next))))->(∀rr,gt l m=.mk rr->aw (u++h1) s.next=some (.aK (ce t) (rr.map (aS t))))->∀{q:Nat},q<=s.next+1->
     rZ s (jE (eN s id (some (.rw t (.mk l) (some (m,s.next))))) (.ar t (gt l m) 0)) h1 x u [id] q (.so s.next) [id]:=by
    intro x u hx2 hu hb hb2 q hq;refine rZ.Fc [s.next,id] hr eU rfl rfl hq (bI _) (fun i hi=>hi) rfl (fun p hp=>?_) (fun i hi=>?_) (fun i hi o ho'=>?_) hx2 (aY _) (fun i hi h=>?_)
    .rcases hu p hp with e|e<;>simp[e]
    .simp only[aN,jj,or_false,not_or]at hi;simp only[jE,eN];rw[du,if_neg (fun e=>hi.1 e.symm),du,if_neg (fun e=>hi.2 e.symm)]
    .simp only[jE,eN]at ho'|-;by_cases hi1:s.next=i
     .subst hi1;rw[du,if_pos rfl]at ho';obtain rfl:=aa ho';exact⟨aY _,⟨d1,d2,fun rr e=>hb2 rr e⟩,trivial⟩
     .rw [du,if_neg hi1]at ho';simp only[aN,jj,or_false]at hi;rcases hi with rfl|rfl
      .exact absurd rfl hi1
      .rw [du,if_pos rfl]at ho';obtain rfl:=aa ho';refine⟨by omega,⟨d1,d2,fun l' e=>by cases e;exact hb⟩,hlen,aY _,fun u' r' v' hf=>?_⟩;simp only[uF]at hf;rcases hf with hf|hf<;>cases hf;exact⟨rfl,rfl⟩
    .simp only[jE,eN];rw[du,if_neg (by omega),du,if_neg (fun e=>by subst e;rw[ho]at h;cases h)];exact h
   have hs:=NY (t:=t) hlen;refine⟨_,_,_,hz2,fun cl=>?_⟩;cases hg:gt l m with
   |nil=>
    refine⟨_,[],[id],s.next,?_,key (x:=.c (.d (.lit (.slice none 0 0)))) ?_ (fun p hp=>by simp at hp) ?_ (fun rr e=>by rw[hg]at e;cases e) (bI _)⟩
    .simp only[aq,aW,cC,iv,d3];rw[hg]at hs;simp only[lY,d3,fx,hs,po];rfl
    .rw [hg];exact wV
    .rw [bE,d3];simp only[fx,hg,IQ];rw[KH (by rw[hs,hg];rfl)]
   |mk rr=>
    refine⟨_,[(s.next,some (.aK (ce t) (rr.map (aS t)))),(id,some (.nst (ce t) ((l.map (po t)).set m (.oA s.next (rr.map (aS t)).length))))],[id],s.next+1,?_,key (x:=.c (.cE (ce t) s.next 0 (rr.map (aS t)).length)) ?_ (fun p hp=>by simp at hp;rcases hp with rfl|rfl<;>simp) ?_ (fun r2 e=>?_) (am _)⟩
    .simp only[aq,aW,cC,iv,d3];rw[hg]at hs;simp only[lY,d3,fx,hs,po];rfl
    .rw [hg];exact wV
    .rw [aU,dV,if_neg (by omega),aU,dV,if_pos rfl];simp only[fx,hg,IQ,aM]
    .rw [hg]at e;cases e;rw[aU,dV,if_pos rfl]
 .simp at hz
theorem Lt{szi:Nat}{t:Ty}{q q':IntKind}{a b:Int}(hr:HR s.next h1 s.heap)
  (hz:(bif(ce t==szi)&&CY t then(OL (Sl.nil:Sl (El t)) a b).bind fun r=>k (.sr s.next) (jE s (.rw t (.mk r) none)) []else none)=some z):yd h1 (.A9 szi) [tI q a,tI q' b] s k z:=by
 obtain⟨hq,hp2⟩:=aO hz;simp only[ak,beq_iff_eq]at hq;obtain⟨rfl,q2⟩:=hq;obtain⟨hd,hs0⟩:=qR q2;obtain⟨r,hr2,hz3⟩:=qn hp2;unfold OL at hr2;split at hr2
 .rename_i hb;obtain rfl:=aa hr2;refine .new (az:=[]) hr hz3 (b:=some (.nst (ce t) (aA a.toNat .nil))) (x:=.c (.cE 1 s.next 0 a.toNat)) (fun _=>?_) ⟨hd,hs0,fun l' e=>by cases e;simp[fx,po]⟩ trivial ?_ (aY _) fun i hi=>by simp at hi
  .simp only[aq,aW,cC,cG];rw[if_pos (by simpa[te]using hb)]
  .refine cA (eD rfl ⟨_,rfl,fun c' hc'=>?_,?_⟩)
   .rw [uF]at hc';obtain rfl:=aa hc';simp[mT]
   .have:=BO (sz:=1) (id:=s.next) (e:=aS (.sl t)) (s:=.mk (aA a.toNat (Sl.nil:Sl (El t))));simpa[mT]using this
 .simp at hr2
theorem FX{o:OP}{vs:List V}{xs:List TV}(hp:part o vs s k=some z)(hr:HR s.next h1 s.heap)(hx:mR s.heap vs xs)(hk:∀w∈vs,fD s.next s.heap w)(ha:∀w∈vs,iU s.heap w=true):yd h1 o.o.k xs s k z:=by
 obtain⟨⟨d,kk,args,g⟩,t,fi⟩:=o;simp only;unfold part at hp;simp only at hp;split at hp
 .--quo
  obtain⟨x,y,rfl,h2,h3⟩:=jb hx;rw[kI h2,kI h3];obtain⟨hq,hp2⟩:=aO hp;simp only[decide_eq_true_eq]at hq;subst hq;obtain⟨r,hr2,hz⟩:=qn hp2;exact .pure hr hz (fun _=>Si hr2) (xi _ _) trivial
 .obtain ⟨x,y,rfl,h2,h3⟩:=jb hx;rw[kI h2,kI h3];obtain⟨hq,hp2⟩:=aO hp;simp only[decide_eq_true_eq]at hq;subst hq;obtain⟨r,hr2,hz⟩:=qn hp2;exact .pure hr hz (fun _=>Sg hr2) (xi _ _) trivial
 .obtain ⟨x,y,rfl,h2,h3⟩:=jb hx;rw[kI h2,kI h3];obtain⟨r,hr2,hz⟩:=qn hp;exact .pure hr hz (fun _=>Sf hr2) (xi _ _) trivial
 .obtain ⟨x,y,rfl,h2,h3⟩:=jb hx;rw[kI h2,kI h3];obtain⟨r,hr2,hz⟩:=qn hp;exact .pure hr hz (fun _=>Se hr2) (xi _ _) trivial
 .obtain ⟨x,y,rfl,h2,h3⟩:=jb hx;rw[xy h2,xy h3];obtain⟨r,hr2,hz⟩:=qn hp;exact .pure hr hz (fun _=>Sj hr2) (Td _) trivial
 .--alloc
  rename_i zl;obtain rfl:=lB hx;obtain⟨hq,hp2⟩:=aO hp;simp only[ak]at hq;obtain⟨q1,q2⟩:=hq;have q1:=sg q1;subst q1;refine .new (az:=[]) hr hp2 (x:=.c (.op s.next 0)) (fun _=>rfl) ⟨_,rfl,?_,q2⟩ ?_ (cA (eD rfl (by cases t<;>rfl))) ⟨aY _,by cases t<;>trivial⟩ fun i hi=>by simp at hi
  .exact ((yy (h:=(s.next,some (.bx t (P7 t)))::s.heap) (n:=s.next+1) t).1 q2).1
  .exact ((yy (h:=(s.next,some (.bx t (P7 t)))::s.heap) (n:=s.next+1) t).1 q2).2
 .--box
  obtain⟨x,rfl,h2⟩:=iJ hx;split at hp
  .rename_i w hw;obtain⟨cw,e1,e2⟩:=ry (pn (F9 hw) h2);obtain⟨q1,q2,q3,_⟩:=zn hw e1 (hk _ (by simp));refine .new (az:=[]) hr hp (x:=.c (.op s.next 0)) (fun _=>by simp only[aq,aW,cC,e2]) ⟨_,rfl,lZ (jO.new _) q3 q1,q2⟩ (hO (bI _) (jO.new _) q3) (cA (eD rfl (by cases t<;>rfl))) ⟨aY _,by cases t<;>trivial⟩ fun i hi=>by simp at hi
  .simp at hp
 .exact EU hp hr hx hk ha
 .--store
  obtain⟨x,y,rfl,h2,h3⟩:=jb hx;exact Dc hr h2 (hk _ (by simp)) h3 (hk _ (by simp)) hp
 .--uY
  obtain⟨x,rfl,h2⟩:=iJ hx;exact Ge hr h2 (hk _ (by simp)) hp
 .--A9
  obtain⟨x,y,rfl,h2,h3⟩:=jb hx;rw[kI h2,kI h3];split at hp
  .exact Lt hr hp
  .simp at hp
 .obtain ⟨x,y,rfl,h2,h3⟩:=jb hx;exact Dd hr h2 (hk _ (by simp)) h3 (hk _ (by simp)) (ha _ (by simp)) hp
 .--makeSlice
  rename_i zl _ l _ c;obtain⟨x,y,rfl,h2,h3⟩:=jb hx;rw[kI h2,kI h3];obtain⟨hq,hp2⟩:=aO hp;simp only[ak]at hq;obtain⟨q1,q2⟩:=hq;have q1:=sg q1;subst q1;obtain⟨hd,hs0⟩:=qR q2;obtain⟨r,hr2,hz⟩:=qn hp2;have hzl:dn (oc t)=aS t (mx t):=(sf t hd).symm;have hlen:(oc t).length=ce t:=by have:=congrArg nq hzl;rwa[bW,dn,aM]at this
  refine .new hr hz (fun _=>Pa hzl hr2) ⟨hd,hs0,fun l' e=>by cases e;rw[hlen]⟩ trivial ?_ (aY _) fun i hi=>by simp at hi
  rw[hlen];exact wV (s:=.mk r)
 .--slice of a string
  obtain⟨y,ys,rfl,h2,h3⟩:=gA hx;exact Di hr h2 h3 hp
 .obtain ⟨y,ys,rfl,h2,h3⟩:=gA hx;exact Dj hr h2 (hk _ (by simp)) (ha _ (by simp)) h3 hp
 .obtain ⟨x,y,rfl,h2,h3⟩:=jb hx;rw[kI h3];exact LN hp hr h2 (hk _ (by simp)) (ha _ (by simp))
 .obtain ⟨x,y,rfl,h2,h3⟩:=jb hx;rw[kI h3];exact LM hp hr h2 (hk _ (by simp))
 .--p9
  obtain⟨x,y,rfl,h2,h3⟩:=jb hx;rw[xy h2,kI h3];obtain⟨r,hr2,hz⟩:=qn hp;exact .pure hr hz (fun _=>Vy hr2) (xi _ _) trivial
 .--index
  rename_i ag n0 sz0 n' u v _ i;obtain⟨x,y,rfl,h2,h3⟩:=jb hx;rw[kI h3];obtain⟨hq,hp2⟩:=aO hp;simp only[ak,beq_iff_eq]at hq;obtain⟨⟨⟨⟨rfl,rfl⟩,q3⟩,q4⟩,q5⟩:=hq;obtain⟨m,hm,hz⟩:=qn hp2;obtain⟨rfl,hm2⟩:=jr.1 hm;rw[YY h2];obtain⟨a1,a2⟩:=E0 v hm2;have hc:GG s.heap ag (ce u) (.x u (gt v.1 m))=true:=by simp[GG,uf,yL,iU,q3,q4,q5]
  obtain⟨x,e1,e2⟩:=p8 (cs:=(aS (.ar n' u) v).map .d) (off:=m*ce u) (cw:=(aS u (gt v.1 m)).map .d) hc ⟨q4,rfl⟩ (by simpa using a1) (by rw[<-gm,<-gH,a2]);refine .pure hr hz (x:=x) (fun _=>?_) e2 trivial;simp only[aq,aW,cC,cG];rw[if_pos ⟨by omega,by omega⟩];simp only[eC,e1]
 .--append
  obtain⟨x,y,rfl,h2,h3⟩:=jb hx;exact E2 (t0:=t) hp hr h2 (hk _ (by simp)) (ha _ (by simp)) h3 (hk _ (by simp)) (ha _ (by simp))
 .obtain ⟨x,y,rfl,h2,h3⟩:=jb hx;exact JP (t0:=t) hp hr h2 (hk _ (by simp)) (ha _ (by simp)) h3 (hk _ (by simp)) (ha _ (by simp))
 .--clear
  obtain⟨y,rfl,h2⟩:=iJ hx;exact GE hp hr h2 (hk _ (by simp)) (ha _ (by simp))
 .--makeMap
  obtain rfl:=lB hx;split at hp
  .rename_i kt vt;obtain⟨hq,hp2⟩:=aO hp;simp only[ak,beq_iff_eq]at hq;obtain⟨⟨⟨rfl,rfl⟩,q3⟩,q4⟩:=hq;obtain⟨ks,hks⟩:=Option.isSome_iff_exists.1 q4;exact .new hr hp2 (x:=.c (.om s.next)) (fun _=>rfl) ⟨q3,⟨ks,hks⟩,rfl⟩ trivial (cA (eD rfl rfl)) (aY _) fun i hi=>by simp at hi
  .simp at hp
 .obtain ⟨x,y,rfl,h2,h3⟩:=jb hx;exact Gu hr h2 h3 hp
 .obtain ⟨x,y,w,rfl,h2,h3,h4⟩:=Ks hx;rw[kI h3];exact Ez hr h2 h4 hp
 .obtain ⟨x,y,w,rfl,h2,h3,h4⟩:=Ks hx;exact I5 hr h2 h3 h4 hp
 .obtain ⟨x,y,rfl,h2,h3⟩:=jb hx;exact Jd hr h2 h3 hp
 .simp at hp
end
end Go.Ev
