/- Operations that do not fail, against the abstract machine's, second part. Conditions: as stated. -/
import Derived.Test.YtpnnnoagjcpmhaaDoorFh
open Bool renaming and_eq_true->af,and_eq_true_iff->cJ,eq_iff_iff->cH,not_eq_true'->eF
open Int renaming toNat_natCast->iv
open List renaming append_assoc->aP,cons_append->aO,drop_drop->dp,flatMap_cons->bf,flatten_cons->dK,getD->jl,getElem?_eq_getElem->au,length->kY,length_append->aG,length_cons->cF,length_eq_zero_iff->bd,length_map->aI,length_nil->fI,map->kD,map_append->fH,map_cons->aq,map_drop->fx,map_map->kc,map_nil->aS,map_take->fZ,mem_append->ak,mem_append_left->aE,mem_append_right->aC,mem_cons->aF,mem_cons_of_mem->aA,mem_cons_self->cE,mem_singleton->am,nil_append->bo,not_mem_nil->cV,replicate->az,replicate_succ->gz,singleton_append->aU
open List.cons renaming inj->bW,injEq->dg
open Nat renaming add_assoc->ct,add_mul->bI,le_of_ble_eq_true->g_,le_refl->ao,le_succ->bk,lt_succ_self->aT
open Option.some renaming inj->aa,injEq->bl
open Prod.mk renaming inj->ad
open Sigma.mk renaming inj->il
namespace Go.Ev
section
variable{h:H2}{n:Nat}{h1:bz}
theorem Nn{a b:Value}(he:Qi a b=true):a=b:=by unfold Qi at he;split at he<;>simp_all
theorem pD:∀{a b:List Value},rx a b=true->a=b:=by
 intro a;induction a with
 |nil=>intro b he;cases b<;>first|rfl|(simp[rx]at he)
 |cons x a ih=>intro b he;cases b with|nil=>simp[rx]at he|cons y b=>simp only[rx,af]at he;rw[Nn he.1,ih he.2]
theorem qG(a b:List Value):eJ (a++b)=eJ a++eJ b:=by simp[eJ]
theorem pC:∀(t:Ty),je t=true->aM t (qt t)=ce (lJ t):=by
 intro t;induction t with
 |pr a c iha ihc=>intro hd;simp only[je,af]at hd;simp[aM,qt,lJ,ce,iha hd.1,ihc hd.2]
 |st t ih=>intro hd;exact ih hd
 |ar m t ih=>intro hd;have e:=ih hd;simp only[aM,qt,lJ];clear hd ih;induction m with|zero=>rfl|succ m ihm=>simp only[gz,bf,dK,e,ce,fH]at ihm|-;rw[ihm]
 |o k=>intro hd;simp[je]at hd
 |mp k v=>intro hd;simp[je]at hd
 |_=>intro _;rfl
theorem vC:∀(t:Ty),(dW (zg t).1 false t=true->eD h (zg t).1 (eJ (lJ t))/\eA n h (zg t).1)/\(dW (zg t).2 true t=true->eD h (zg t).2 (eJ (lJ t))/\eA n h (zg t).2):=by
 have one:∀(t:Ty)(v:V),(eD h v (eJ (lJ t))/\eA n h v)->(eD h (.co v .ni) (eJ (lJ t))/\eA n h (.co v .ni)):=fun t v hv=>⟨⟨_,[],by simp,hv.1,rfl⟩,hv.2,trivial⟩;have dt:∀(t:Ty),je t=true->eD h (.x t (qt t)) (eJ (lJ t)):=fun t hd=>⟨hd,by rw[pC t hd];simp[eJ,ce]⟩;intro t;induction t with
 |pr a c iha ihc=>refine⟨fun hf=>by simp[zg,dW]at hf,fun hf=>?_⟩;simp only[zg,dW,af]at hf;obtain⟨q1,q3⟩:=iha.1 hf.1;obtain⟨q4,q5⟩:=ihc.2 hf.2;exact⟨⟨_,_,qG _ _,q1,q4⟩,q3,q5⟩
 |st t ih=>cases hd:je t with|true=>have:=dt (.st t) hd;simp only[zg,hd,cond_true];exact⟨fun _=>⟨this,trivial⟩,fun _=>one (.st t) _ ⟨this,trivial⟩⟩|false=>simp only[zg,hd,cond_false];exact⟨fun hf=>ih.2 hf,fun hf=>one (.st t) _ (ih.2 hf)⟩
 |sl t ih=>cases hd:je t with|true=>have:=dt (.sl t) hd;simp only[zg,hd,cond_true];exact⟨fun _=>⟨this,trivial⟩,fun _=>one (.sl t) _ ⟨this,trivial⟩⟩|false=>simp only[zg,hd,cond_false];exact⟨fun _=>⟨rfl,trivial⟩,fun _=>one (.sl t) _ ⟨rfl,trivial⟩⟩
 |ar m t ih=>cases hd:je t with|true=>have:=dt (.ar m t) hd;simp only[zg,hd,cond_true];exact⟨fun _=>⟨this,trivial⟩,fun _=>one (.ar m t) _ ⟨this,trivial⟩⟩|false=>simp only[zg,hd,cond_false];exact⟨fun hf=>by simp[dW]at hf,fun hf=>by simp[dW]at hf⟩
 |o k=>
  have:eD h (.nl k) (eJ (lJ (.o k))):=by
   show eJ (lJ (.o k))=[yD k]
   rcases k with _|_|_|_|k<;>rfl
  exact⟨fun _=>⟨this,trivial⟩,fun _=>one (.o k) _ ⟨this,trivial⟩⟩
 |mp k v=>exact⟨fun _=>⟨rfl,trivial⟩,fun _=>one (.mp k v) _ ⟨rfl,trivial⟩⟩
 |un=>exact⟨fun _=>⟨dt .un rfl,trivial⟩,fun _=>one .un _ ⟨dt .un rfl,trivial⟩⟩
 |i k=>exact⟨fun _=>⟨dt (.i k) rfl,trivial⟩,fun _=>one (.i k) _ ⟨dt (.i k) rfl,trivial⟩⟩
 |b=>exact⟨fun _=>⟨dt .b rfl,trivial⟩,fun _=>one .b _ ⟨dt .b rfl,trivial⟩⟩
 |s=>exact⟨fun _=>⟨dt .s rfl,trivial⟩,fun _=>one .s _ ⟨dt .s rfl,trivial⟩⟩
 |f k=>exact⟨fun _=>⟨dt (.f k) rfl,trivial⟩,fun _=>one (.f k) _ ⟨dt (.f k) rfl,trivial⟩⟩
theorem wA{t:Ty}{v w:V}{cs:List C}(hw:KO t v=some w)(hv:eD h v cs)(hk:eA n h v):eD h w cs/\dW w false t=true/\eA n h w/\qS w=qS v:=by
 unfold KO at hw;split at hw
 .rename_i y hy;obtain rfl:=aa hw;cases hd:je t with|false=>rw[hd]at hy;simp at hy|true=>rw[hd,cond_true]at hy;exact⟨⟨hd,nT hy hv⟩,by simp[dW],trivial,(Cm hy).symm⟩
 .cases hf:dW v false t with|false=>rw[hf]at hw;simp at hw|true=>rw[hf,cond_true]at hw;obtain rfl:=aa hw;exact⟨hv,hf,hk,rfl⟩
theorem Kg{t:Ty}{v:V}{y:El t}(hy:gi t v=some y):Ly v:=by cases v<;>first|trivial|(simp[gi]at hy)
theorem L_{t:Ty}{v:V}(hf:dW v false t=true):Ly v:=by cases v<;>first|trivial|(cases t<;>simp[dW]at hf)
theorem DE{t:Ty}{v w:V}(hw:KO t v=some w):Ly v:=by
 unfold KO at hw;split at hw
 .rename_i y hy;cases hd:je t with|false=>rw[hd]at hy;simp at hy|true=>rw[hd,cond_true]at hy;exact Kg hy
 .cases hf:dW v false t with|false=>rw[hf]at hw;simp at hw|true=>exact L_ hf
theorem Oh{t:Ty}{v:V}(hf:dW v false t=true)(ha:lH t=true):qS v=true:=by
 cases t<;>simp[lH]at ha
 all_goals(cases v<;>first|rfl|(simp[dW]at hf;done)|skip)
 .simp only[dW,decide_eq_true_eq]at hf;subst hf;rfl
 .simp only[dW,decide_eq_true_eq]at hf;subst hf;rfl
theorem Kk{t:Ty}:∀(is:List Nat)(ps:List (Nat×Nat))(ws:List V)(c c':V)(cs:List C)(xs:List TV),vi t is ps ws c=some c'->dW c false t=true->eD h c cs->eA n h c->kH h ws xs->(∀w∈ws,eA n h w)->
  ∃cs',lx cs (ps.zip xs)=some cs'/\eD h c' cs'/\eA n h c'/\dW c' false t=true:=by
 intro is;induction is with
 |nil=>
  intro ps ws c c' cs xs hb hf hc hk hx hw;cases ps with
  |cons p ps=>simp[vi]at hb
  |nil=>cases ws with|cons w ws=>simp[vi]at hb|nil=>obtain rfl:=aa hb;exact⟨cs,by simp[lx],hc,hk,hf⟩
 |cons i is ih=>
  intro ps ws c c' cs xs hb hf hc hk hx hw;cases ps with
  |nil=>simp[vi]at hb
  |cons p ps=>
   obtain⟨off,m⟩:=p;cases ws with
   |nil=>simp[vi]at hb
   |cons w ws=>
    obtain⟨x,ys,rfl,hx1,hx2⟩:=fg hx;have hw1:=hw w (by simp)
    have iD:∀(pe:Pe)(a:Ty),pA t [pe]=some a->Gq t [pe]->k_ t [pe]=off->bm a=m->(match KO a w with|some w=>(match mG c [pe] w with|some c=>bif dW c false t then vi t is ps ws c else none|none=>none)|none=>none)=some c'->
      ∃cs',lx cs (((off,m),x)::ps.zip ys)=some cs'/\eD h c' cs'/\eA n h c'/\dW c' false t=true:=by
     intro pe a h1 h2 h3 h4 hb;split at hb
     .rename_i w1 hw1';obtain⟨cw,q1,q2⟩:=o4 (mO (DE hw1') hx1);split at hb
      .rename_i c1 hc1;cases hfc:dW c1 false t with|false=>rw[hfc]at hb;simp at hb|true=>rw[hfc,cond_true]at hb;obtain⟨k1,k2,k3,_⟩:=wA hw1' q1 hw1;have hl:=gy k1;rw[fQ _ _ _ k2,h4]at hl;have hsp:=tW [pe] c t w1 c1 cs cw a hf hc h2 hc1 h1 k1 (by rw[hl,h4]);rw[h3]at hsp;have hle:=ub [pe] t a h1 h2;have hcl:=gy hc;rw[fQ _ _ _ hf]at hcl;obtain⟨cs',e1,e2,e3,e4⟩:=ih ps ws c1 c' _ ys hb hfc hsp (EJ _ _ _ _ hk k3 hc1) hx2 fun w hw'=>hw w (by simp[hw']);refine⟨cs',?_,e2,e3,e4⟩;simp only[lx,q2];rw[if_pos ⟨hl,by omega⟩,e1]
      .simp at hb
     .simp at hb
    cases t with
    |st u=>
     simp only[vi]at hb;split at hb
     .rename_i a ha;cases hq:(mS u i==off)&&(bm a==m)with|false=>rw[hq]at hb;simp at hb|true=>rw[hq,cond_true]at hb;simp only[af,beq_iff_eq]at hq;exact iD (.fd i) a (by simp[pA,ha]) ⟨a,ha,by cases a<;>trivial⟩ (by simp only[k_,ha];rw[hq.1];cases a<;>rfl) hq.2 hb
     .simp at hb
    |ar k u=>simp only[vi]at hb;cases hq:(i*bm u==off)&&(bm u==m)&&decide (i<k)with|false=>rw[hq]at hb;simp at hb|true=>rw[hq,cond_true]at hb;simp only[af,beq_iff_eq,decide_eq_true_eq]at hq;exact iD (.ix i) u (by simp[pA]) ⟨hq.2,by cases u<;>trivial⟩ (by simp only[k_];rw[hq.1.1];cases u<;>rfl) hq.1.2 hb
    |_=>simp[vi]at hb
end
theorem OR(a b:ByteArray):(a==b)=decide (a=b):=by obtain⟨x⟩:=a;obtain⟨y⟩:=b;show ByteArray.beq ⟨x⟩ ⟨y⟩=_;unfold ByteArray.beq;rw[cH];simp[ByteArray.ext_iff]
def tL(t:Ty)(x:El t):List Value:=(aM t x).map fun|.lit y=>y|_=>.nilFunc
theorem uV{k1 k2:List Kd}{a1 a2 b1 b2:List Value}{p q:Bool}(h1:ft k1 a1 b1=some p)(h2:ft k2 a2 b2=some q):ft (k1++k2) (a1++a2) (b1++b2)=some (p&&q):=by
 induction k1 generalizing a1 b1 p with
 |nil=>cases a1<;>cases b1<;>simp[ft]at h1;subst h1;simpa using h2
 |cons k k1 ih=>
  cases a1<;>cases b1<;>simp only[ft]at h1<;>first|cases h1;done|skip
  split at h1
  .rename_i c d hc hd;obtain rfl:=aa h1;simp only[aO,ft,hc,ih hd,Bool.and_assoc]
  .simp at h1
theorem wO{k1 k2:List Kd}{a1 a2:List Value}(h1:vw k1 a1=true)(h2:vw k2 a2=true):vw (k1++k2) (a1++a2)=true:=by
 induction k1 generalizing a1 with
 |nil=>cases a1<;>simp[vw]at h1;simpa using h2
 |cons k k1 ih=>
  cases a1<;>simp only[vw]at h1<;>first|cases h1;done|skip
  simp only[af]at h1;simp[vw,h1.1,ih h1.2]
theorem vv:∀(t:Ty)(ks:List Kd),BQ t=some ks->(∀x,aM t x=(tL t x).map .lit)/\(∀x,vw ks (tL t x)=true)/\(∀a b:El t,ft ks (tL t a) (tL t b)=some (decide (a=b)))/\ks.length=bm t:=by
 intro t;induction t with
 |pr a c iha ihc=>
  intro ks hk;simp only[BQ]at hk;split at hk
  .rename_i x y hx hy;obtain rfl:=aa hk;obtain⟨a1,a2,a3,a4⟩:=iha x hx;obtain⟨c1,c2,c3,c4⟩:=ihc y hy;have e:∀v:El (.pr a c),tL (.pr a c) v=tL a v.1++tL c v.2:=fun v=>by simp[tL,aM]
   refine⟨fun v=>by rw[e,fH,<-a1,<-c1];rfl,fun v=>by rw[e];exact wO (a2 _) (c2 _),fun u v=>?_,by simp[bm,a4,c4]⟩;rw[e,e,uV (a3 _ _) (c3 _ _)];congr 1;rw[cH];simp[Prod.ext_iff]
  .simp at hk
 |st t ih=>intro ks hk;exact ih ks hk
 |ar m t ih=>
  intro ks hk;simp only[BQ]at hk;split at hk
  .rename_i x hx;obtain rfl:=aa hk;obtain⟨a1,a2,a3,a4⟩:=ih x hx;have e:∀v:El (.ar m t),tL (.ar m t) v=v.1.flatMap (tL t):=fun v=>by simp only[tL,aM,List.map_flatMap];rfl
   refine⟨fun v=>?_,fun v=>?_,fun u v=>?_,?_⟩
   .rw [e];simp only[aM,List.map_flatMap];congr 1;funext y;exact a1 y
   .rw [e];obtain⟨l,hl⟩:=v;clear e hk ih;simp only;induction l generalizing m with|nil=>subst hl;rfl|cons y l ihl=>subst hl;simp only[cF,gz,dK,bf];exact wO (a2 y) (ihl _ rfl)
   .rw [e,e];obtain⟨l,hl⟩:=u;obtain⟨r,hr⟩:=v
    have key:∀(m:Nat)(l r:List (El t)),l.length=m->r.length=m->ft (az m x).flatten (l.flatMap (tL t)) (r.flatMap (tL t))=some (decide (l=r)):=by
     intro m;induction m with
     |zero=>intro l r h1 h2;obtain rfl:=bd.1 h1;obtain rfl:=bd.1 h2;rfl
     |succ m ihm=>
      intro l r h1 h2;cases l with
      |nil=>simp at h1
      |cons y l=>cases r with|nil=>simp at h2|cons z r=>simp only[gz,dK,bf];rw[uV (a3 y z) (ihm l r (by simpa using h1) (by simpa using h2))];congr 1;rw[cH];simp
    rw[key m l r hl hr];congr 1;rw[cH];simp only[decide_eq_true_eq];exact⟨fun h=>Subtype.ext h,fun h=>congrArg Subtype.val h⟩
   .simp [bm,a4]
  .simp at hk
 |i k=>intro ks hk;obtain rfl:=aa hk;refine⟨fun _=>rfl,fun x=>by simp[tL,aM,vw,GI],fun a b=>?_,rfl⟩;simp only[tL,aM,aq,aS,ft,AC,and_self,if_true,Bool.and_true];congr 1
 |b=>intro ks hk;obtain rfl:=aa hk;refine⟨fun _=>rfl,fun x=>by simp[tL,aM,vw,GI],fun a b=>?_,rfl⟩;simp only[tL,aM,aq,aS,ft,AC,Bool.and_true];congr 1
 |s=>intro ks hk;obtain rfl:=aa hk;refine⟨fun _=>rfl,fun x=>by simp[tL,aM,vw,GI],fun a b=>?_,rfl⟩;simp only[tL,aM,aq,aS,ft,AC,Bool.and_true];rw[OR]
 |_=>intro ks hk;simp[BQ]at hk
section
variable{h:H2}{n:Nat}{h1:bz}
theorem Hq{z:Bool}{op:BinOp}{k k':IntKind}{a b:Int}{v:V}(hb:OQ z op k k' a b=some v)(hz:z=true->0<b):∃y,mL op (.int k a) (.int k' b)=some y/\eW h v (lv y)/\eA n h v:=by
 have one:∀(q:IntKind)(c:Int),eW h (.x (.i q) c) (lv (.int q c)):=fun q c=>bM (c_ rfl ⟨rfl,rfl⟩);have onb:∀(c:Bool),eW h (.x .b c) (lv (.bool c)):=fun c=>bM (c_ rfl ⟨rfl,rfl⟩);cases op<;>simp only[OQ]at hb
 all_goals first
  |(cases z<;>simp only[cond_true,cond_false]at hb<;>first|(cases hb;done)|skip
    have:=hz rfl;obtain rfl:=aa hb;refine⟨_,by simp only[mL];rw[if_neg (by omega)];rfl,one _ _,trivial⟩)
  |skip
 all_goals
  by_cases hk:k=k'
  .subst hk;simp only[decide_true,cond_true]at hb
   first
    |(cases hb;done)
    |(obtain rfl:=aa hb
      refine⟨_,by simp only[mL,if_true];rfl,?_,trivial⟩
      first|exact one _ _|exact onb _)
    |(obtain rfl:=aa hb
      first
       |exact⟨.int k (Hs k a b),by simp only[mL,if_true,Fw];rfl,one _ _,trivial⟩
       |exact⟨.int k (Pb k a b),by simp only[mL,if_true,Kt];rfl,one _ _,trivial⟩
       |exact⟨.int k (OS k a b),by simp only[mL,if_true,Mu];rfl,one _ _,trivial⟩
       |exact⟨.int k (qb k a b),by simp only[mL,if_true,xq];rfl,one _ _,trivial⟩)
    |(cases z<;>simp only[cond_true,cond_false]at hb<;>first|(cases hb;done)|skip
      have:=hz rfl;obtain rfl:=aa hb;refine⟨_,by simp only[mL,if_true];rw[if_neg (by omega)],one _ _,trivial⟩)
  .simp [hk]at hb
theorem AK{h:H2}{k:FloatKind}{a:Nat}{x:TV}(hx:eW h (.x (.f k) a) x):x=lv (.float k a):=by obtain⟨c,rfl,_,hc⟩:=gY (v:=.x (.f k) a) hx rfl;obtain rfl:=(bW hc).1;rfl
theorem Em{op:BinOp}{k k':FloatKind}{a b:Nat}{v:V}(hb:Kl op k k' a b=some v):∃y,l6 op (.float k a) (.float k' b)=some y/\eW h v (lv y)/\eA n h v:=by
 have one:∀(q:FloatKind)(c:Nat),eW h (.x (.f q) c) (lv (.float q c)):=fun q c=>bM (c_ rfl ⟨rfl,rfl⟩);have onb:∀(c:Bool),eW h (.x .b c) (lv (.bool c)):=fun c=>bM (c_ rfl ⟨rfl,rfl⟩);unfold Kl at hb;by_cases hk:k=k'
 .subst hk;simp only[decide_true,cond_true]at hb;have ar:∀(f:Option Nat),∃y,(match f.map (Value.float k)with|some v=>some v|none=>if f=none then some (Value.float k (rz k))else none)=some y/\eW h (.x (.f k) (f.getD (rz k))) (lv y)/\eA n h (.x (.f k) (f.getD (rz k))):=by intro f;cases f with|none=>exact⟨_,rfl,one _ _,trivial⟩|some c=>exact⟨_,rfl,one _ _,trivial⟩
  cases op<;>first
   |(cases hb;done)
   |(obtain rfl:=aa hb
     first
      |exact⟨_,by simp only[l6,mL,if_true];rfl,onb _,trivial⟩
      |(simp only[l6,mL,zK,if_true]
        first|exact ar (k.format.add a b)|exact ar (k.format.sub a b)|exact ar (k.format.mul a b)|exact ar (k.format.div a b)))
 .simp [hk]at hb
theorem Gz{m:Bool}{k:FloatKind}:∀{r:List V}{x y:Nat}{xs:List TV},GA m k x r=some y->kH h r xs->IS m (.float k x) (xs.map some)=some (.float k y):=by
 intro r;induction r with
 |nil=>intro x y xs hm hx;obtain rfl:=jB hx;obtain rfl:=aa hm;rfl
 |cons v r ih=>
  intro x y xs hm hx;obtain⟨x1,ys,rfl,h1,h2⟩:=fg hx;cases v with
  |x t c=>
   cases t with
   |f k'=>
    simp only[GA]at hm;by_cases hk:k'=k
    .subst hk;simp only[decide_true,cond_true]at hm;obtain rfl:=AK h1;have:=ih hm h2;have e:AA m (.float k' x) (.float k' c)=some (.float k' (bif m then Oj k' x c else Oi k' x c)):=by cases m<;>simp only[AA,Oj,Oi,cond_true,cond_false,if_true]<;>(cases k'.format.order x c with|none=>rfl|some o=>cases o<;>rfl)
     simp only[aq,lv,IS,e];exact this
    .simp [hk]at hm
   |_=>simp[GA]at hm
  |_=>simp[GA]at hm
theorem Ho{op:BinOp}{a b:ByteArray}{v:V}(hb:OO op a b=some v):∃y,mL op (.string a) (.string b)=some y/\eW h v (lv y)/\eA n h v:=by
 have onb:∀(c:Bool),eW h (.x .b c) (lv (.bool c)):=fun c=>bM (c_ rfl ⟨rfl,rfl⟩);cases op<;>simp only[OO]at hb<;>first|(cases hb;done)|skip
 all_goals(obtain rfl:=aa hb;exact⟨_,rfl,onb _,trivial⟩)
theorem IT{m:Bool}{k:IntKind}:∀{r:List V}{x y:Int}{xs:List TV},O9 m k x r=some y->kH h r xs->IS m (.int k x) (xs.map some)=some (.int k y):=by
 intro r;induction r with
 |nil=>intro x y xs hm hx;obtain rfl:=jB hx;obtain rfl:=aa hm;rfl
 |cons v r ih=>
  intro x y xs hm hx;obtain⟨x1,ys,rfl,h1,h2⟩:=fg hx;cases v with
  |x t c=>
   cases t with
   |i k'=>
    simp only[O9]at hm;by_cases hk:k'=k
    .subst hk;simp only[decide_true,cond_true]at hm;obtain rfl:=iS h1;have:=ih hm h2;cases m<;>simpa[IS,AA]using this
    .simp [hk]at hm
   |_=>simp[O9]at hm
  |_=>simp[O9]at hm
theorem lD{α:Type}:∀(l:List α),dX (l.map some)=some l:=by intro l;induction l with|nil=>rfl|cons a l ih=>simp[dX,ih]
theorem II{kind:Nat}{v w:V}{x:TV}{neg:Bool}{c:Call}{nx:Nat}(hx:eW h v x)(ha:gu h v=true)(hn:wD h kind v=some w):
  ∃y,cm c (.po kind neg) [some x] h1 nx=some (y,[],[],nx)/\eW h (bif neg then IK w else w) y/\eA n h (bif neg then IK w else w):=by
 have kb:∀b,eW h (.kb b) (tB b):=fun b=>bM (c_ rfl rfl);have xb:∀b,eW h (.x .b b) (tB b):=fun b=>bM (c_ rfl ⟨rfl,rfl⟩)
 have sl:∀q,ry h v=some q->(bif kind==0 then(match ry h v with|some ⟨_,s,_⟩=>some (.x .b s.eC)|none=>none)else none)=some w->
   ∃y,cm c (.po kind neg) [some x] h1 nx=some (y,[],[],nx)/\eW h (bif neg then IK w else w) y/\eA n h (bif neg then IK w else w):=by
  intro q hq hw;cases hkk:kind==0 with
  |false=>rw[hkk]at hw;simp at hw
  |true=>
   obtain rfl:kind=0:=by simpa using hkk
   rw[hq]at hw;simp only[hkk,cond_true]at hw;obtain rfl:=aa hw;refine⟨_,NV hx ha hq,?_⟩;cases neg
   .exact ⟨xb _,trivial⟩
   .exact ⟨xb _,trivial⟩
 cases v with
 |nl k=>
  simp only[wD]at hn;cases hkk:(k==kind)&&Nat.blt k 3 with
  |false=>rw[hkk]at hn;simp at hn
  |true=>
   rw[hkk,cond_true]at hn;obtain rfl:=aa hn;simp only[af,beq_iff_eq]at hkk;obtain⟨rfl,hlt⟩:=hkk;have hlt:k<3:=g_ hlt;rw[rY hx]
   match k,hlt with|0,_=>cases neg<;>exact⟨_,rfl,kb _,trivial⟩|1,_=>cases neg<;>exact⟨_,rfl,kb _,trivial⟩|2,_=>cases neg<;>exact⟨_,rfl,kb _,trivial⟩
 |pt t v=>
  simp only[wD]at hn;cases hkk:kind==1 with
  |false=>rw[hkk]at hn;simp at hn
  |true=>
   rw[hkk,cond_true]at hn;obtain rfl:=aa hn;obtain rfl:kind=1:=by simpa using hkk
   rw[(vJ hx).2];cases neg<;>exact⟨_,rfl,kb _,trivial⟩
 |op id t p=>
  simp only[wD]at hn;cases hkk:kind==1 with
  |false=>rw[hkk]at hn;simp at hn
  |true=>
   rw[hkk,cond_true]at hn;obtain rfl:=aa hn;obtain rfl:kind=1:=by simpa using hkk
   rw[tQ hx];cases neg<;>exact⟨_,rfl,kb _,trivial⟩
 |ep id m t p=>
  simp only[wD]at hn;cases hkk:kind==1 with
  |false=>rw[hkk]at hn;simp at hn
  |true=>
   rw[hkk,cond_true]at hn;obtain rfl:=aa hn;obtain rfl:kind=1:=by simpa using hkk
   rw[qu hx];cases neg<;>exact⟨_,rfl,kb _,trivial⟩
 |fn z f l=>
  simp only[wD]at hn;cases hkk:kind==2 with
  |false=>rw[hkk]at hn;simp at hn
  |true=>
   rw[hkk,cond_true]at hn;obtain rfl:=aa hn;obtain rfl:kind=2:=by simpa using hkk
   rcases CO hx with⟨_,ds,_,rfl⟩|⟨_,cs,_,rfl⟩<;>(cases neg<;>exact⟨_,rfl,kb _,trivial⟩)
 |x t v=>cases hq:ry h (.x t v)with|none=>simp[wD,hq]at hn|some q=>exact sl q hq hn
 |so id=>cases hq:ry h (.so id)with|none=>simp[wD,hq]at hn|some q=>exact sl q hq hn
 |sb id ver lo t r=>cases hq:ry h (.sb id ver lo t r)with|none=>simp[wD,hq]at hn|some q=>exact sl q hq hn
 |_=>simp[wD,ry]at hn
theorem JI{off m i:Nat}{v w:V}{x:TV}{c:Call}{nx:Nat}(hx:eW h v x)(hk:eA n h v)(hw:DZ off m i v=some w):
  ∃y,cm c (.fieldAddr off m) [some x] h1 nx=some (y,[],[],nx)/\eW h w y/\eA n h w:=by
 have LA:∀(t u a:Ty)(p:nZ),pA t p=some (.st u)->AB u i=some a->Gq t p->Gq t (p++[.fd i])/\k_ t (p++[.fd i])=k_ t p+mS u i:=by
  intro t u a p;induction p generalizing t with
  |nil=>
   intro h1 h2 _;have e:pA t []=some t:=by cases t<;>rfl
   obtain rfl:t=.st u:=by rw[e]at h1;exact aa h1
   refine⟨⟨a,h2,by cases a<;>trivial⟩,?_⟩;simp only[bo,k_,h2];cases a<;>simp[k_]
  |cons q p ih=>
   intro h1 h2 h3;cases q with
   |fd j=>cases t with|st t=>obtain⟨b2,hb,h3⟩:=h3;simp only[pA,hb]at h1;obtain⟨q1,q2⟩:=ih b2 h1 h2 h3;refine⟨⟨b2,hb,q1⟩,?_⟩;simp only[aO,k_,hb,q2];exact(ct _ _ _).symm|_=>exact h3.elim
   |ix k=>cases t with|ar l t=>obtain⟨hk,h3⟩:=h3;obtain⟨q1,q2⟩:=ih t h1 h2 h3;refine⟨⟨hk,q1⟩,?_⟩;simp only[aO,k_,q2];exact(ct _ _ _).symm|_=>exact h3.elim
 cases v with
 |op id t p=>
  simp only[DZ]at hw;split at hw
  .rename_i u hu;split at hw
   .rename_i a hf;cases hq:(mS u i==off)&&(bm a==m)with
    |false=>rw[hq]at hw;simp at hw
    |true=>
     rw[hq,cond_true]at hw;obtain rfl:=aa hw;simp only[af,beq_iff_eq]at hq;obtain⟨q1,q2⟩:=LA t u a p hu hf hk.2;rw[tQ hx];refine⟨_,rfl,bM (c_ rfl ?_),hk.1,q1⟩;show[_]=[_]
     rw[q2,hq.1]
   .simp at hw
  .simp at hw
 |ep id k t p=>
  simp only[DZ]at hw;split at hw
  .rename_i u hu;split at hw
   .rename_i a hf;cases hq:(mS u i==off)&&(bm a==m)with
    |false=>rw[hq]at hw;simp at hw
    |true=>
     rw[hq,cond_true]at hw;obtain rfl:=aa hw;simp only[af,beq_iff_eq]at hq;obtain⟨q1,q2⟩:=LA t u a p hu hf hk.2.1;rw[qu hx];refine⟨_,rfl,bM (c_ rfl ?_),hk.1,q1,hk.2.2⟩;show[_]=[_]
     rw[q2,hq.1]
   .simp at hw
  .simp at hw
 |pt t v=>
  cases t with
  |st u=>
   simp only[DZ]at hw;split at hw
   .rename_i a y hy;cases hq:(mS u i==off)&&(bm a==m)with
    |false=>rw[hq]at hw;simp at hw
    |true=>
     rw[hq,cond_true]at hw;obtain rfl:=aa hw;simp only[af,beq_iff_eq]at hq;obtain⟨a',y',e,f1,f2,f3⟩:=pk _ _ _ _ hy;cases e;obtain⟨hd,rfl⟩:=vJ hx;refine⟨_,?_,bM (c_ (c:=.d (.pt (aM a y))) rfl ⟨xa u _ _ hd f1,rfl⟩),trivial⟩;have hle:off+m<=(aM (.st u) v).length:=by rw[bD];show _<=bm u;omega
     have e2:((aM (.st u) v).drop off).take m=aM a y:=by rw[<-hq.1,<-hq.2];exact f3
     simp only[cm,iU];rw[if_pos hle,e2]
   .simp at hw
  |_=>simp[DZ]at hw
 |_=>simp[DZ]at hw
theorem Gs:∀(l:V)(i:Nat)(w:V)(cs:List C),eD h l cs->ql l i=some w->∃cw,eD h w cw/\L7 l i+vO w<=cs.length/\(cs.drop (L7 l i)).take (vO w)=cw:=by
 intro l;induction l with
 |co a r iha ihr=>intro i w cs hv hw;obtain⟨x,y,rfl,k1,k2⟩:=hv;have hl:=gy k1;cases i with|zero=>obtain rfl:=aa hw;refine⟨x,k1,by simp[L7];omega,?_⟩;simp only[L7,List.drop_zero];rw[<-hl,List.take_left]|succ i=>obtain⟨cw,q1,q2,q3⟩:=ihr i w y k2 hw;refine⟨cw,q1,by simp only[L7,aG];omega,?_⟩;simp only[L7];rw[<-dp,<-hl,List.drop_left,q3]
 |_=>intro i w cs hv hw;simp[ql]at hw
theorem LM:∀(l:V)(i:Nat)(w:V)(xs:List TV),zk h l xs->ql l i=some w->∃x,xs[i]?=some x/\qv h w x:=by
 intro l;induction l with
 |co a r iha ihr=>intro i w xs hv hw;obtain⟨x,ys,rfl,k1,k2⟩:=hv;cases i with|zero=>obtain rfl:=aa hw;exact⟨x,rfl,k1⟩|succ i=>exact ihr i w ys k2 hw
 |_=>intro i w xs hv hw;simp[ql]at hw
end
section
variable{h:H2}{n:Nat}{h1:bz}
def O0(h:H2)(n:Nat)(h1:bz)(k:K)(xs:List TV)(v:V)(l:List Nat):Prop:=∀(c:Call)(nx:Nat),∃x aw,cm c k (xs.map some) h1 nx=some (x,[],aw,nx)/\eW h v x/\eA n h v/\∀i∈aw,i∈l
theorem O0.of{k:K}{xs:List TV}{v:V}{x:TV}(he:∀(c:Call)(nx:Nat),cm c k (xs.map some) h1 nx=some (x,[],[],nx))(hx:eW h v x)(hk:eA n h v):O0 h n h1 k xs v []:=fun c nx=>⟨x,[],he c nx,hx,hk,fun i hi=>by simp at hi⟩
theorem xb(b:Bool):eW h (.x .b b) (tB b):=bM (c_ rfl ⟨rfl,rfl⟩)
theorem xf(k:FloatKind)(a:Nat):eW h (.x (.f k) a) (lv (.float k a)):=bM (c_ rfl ⟨rfl,rfl⟩)
theorem xi(k:IntKind)(a:Int):eW h (.x (.i k) a) (tI k a):=bM (c_ rfl ⟨rfl,rfl⟩)
theorem O5(a:ByteArray):eW h (.x .s a) (.c (.d (dS a))):=bM (c_ rfl ⟨rfl,rfl⟩)
def O6(t:Ty)(y:El t):TV:=if lH t=true then .agg ((aM t y).map .d)else match aM t y with|d::_=>.c (.d d)|[]=>.gR []
theorem ED{t:Ty}(y:El t){va:Bool}(hv:lH t=va)(h1:(va||bm t==1)=true):nw va (aM t y)=some (O6 t y):=by
 subst hv;unfold nw O6;cases ha:lH t with
 |true=>rfl
 |false=>
  rw[ha]at h1;have:=bD t y;rw[show bm t=1 by simpa using h1]at this;cases he:aM t y with
  |nil=>rw[he]at this;simp at this
  |cons d r=>
   rw[he]at this;have:r=[]:=by simpa using this
   subst this;rfl
theorem HJ{t:Ty}{y:El t}(hd:je t=true)(h1:(lH t||bm t==1)=true):qv h (.x t y) (O6 t y):=by
 unfold O6;cases ha:lH t with
 |true=>exact vK ha ⟨hd,rfl⟩
 |false=>
  rw[ha]at h1;have:=bD t y;rw[show bm t=1 by simpa using h1]at this;cases he:aM t y with
  |nil=>rw[he]at this;simp at this
  |cons d r=>
   rw[he]at this;have:r=[]:=by simpa using this
   subst this;exact c_ ha ⟨hd,by rw[he];rfl⟩
theorem Hw(f:TV->Option C)(hf:∀c,f (.c c)=some c):∀(cs:List C),dX ((cs.map TV.c).map f)=some cs:=by intro cs;induction cs with|nil=>rfl|cons c cs ih=>simp only[aq,hf,dX,ih]
theorem wJ:∀(l:List Value),km (l.map fun v=>C.d (.lit v))=some l:=by intro l;induction l with|nil=>rfl|cons v l ih=>simp[km,ih]
theorem BN{kt:Ty}{ks:List Kd}{v:V}{x:TV}{y:El kt}{ka:Bool}(hx:eW h v x)(hc:rn kt v=some y)(hk:BQ kt=some ks)(ha:lH kt=ka):mR ka ks x=some (tL kt y):=by
 obtain⟨h1,h2,_,h4⟩:=vv kt ks hk;obtain⟨g1,g2⟩:=tu hx hc;cases ka with
 |true=>
  rw[g1 ha];have e:(aM kt y).map C.d=(tL kt y).map fun v=>C.d (.lit v):=by rw[h1 y,kc];rfl
  simp only[mR];rw[if_pos ⟨trivial,by rw[aI,bD,h4]⟩,e,wJ];simp only[h2 y,if_true]
 |false=>
  obtain⟨d,hd,rfl⟩:=g2 ha;have hl:=bD kt y;rw[hd]at hl;have h5:=h1 y;rw[hd]at h5;cases hv:tL kt y with
  |nil=>rw[hv]at h5;simp at h5
  |cons q r=>
   rw[hv]at h5;simp only[aq,dg]at h5;obtain⟨rfl,h6⟩:=h5;have:r=[]:=by simpa using h6.symm
   subst this;simp only[mR];rw[if_pos ⟨trivial,by rw[h4,<-hl];rfl⟩];have h7:=h2 y;rw[hv]at h7;simp only[km,h7,if_true]
theorem IY{v:V}{q:(k:Ty)×(v:Ty)×Mp (El k) (El v)×List Nat}{x:TV}(hr:HR n h1 h)(hm:LR h v=some q)(hx:eW h v x):
  ∃id,v=.om id/\x=.c (.om id)/\q.2.2.2=[id]/\fO h id=some (.mp q.1 q.2.1 q.2.2.1)/\av h1 id=CH (lH q.1) (lH q.2.1) (tL q.1) (aM q.2.1) q.2.2.1:=by
 cases v with
 |om id=>
  simp only[LR]at hm;split at hm
  .rename_i k v m ho;obtain rfl:=aa hm;exact⟨id,rfl,CN hx,rfl,ho,(hr.ob id _ ho).2.1.2.2⟩
  .simp at hm
 |_=>simp[LR]at hm
theorem I0{c:Call}{x y:TV}{H:bz}{l:List Nat}{nx:Nat}(h:cm c (.load false 1) [some x] H nx=some (y,[],l,nx)):cm c .rJ [some x] H nx=some (y,[],l,nx):=by
 cases x with
 |c p=>
  have h:(match ge false 1 p H with|some (v,aw)=>some (v,([]:eG),aw,nx)|none=>none)=some (y,[],l,nx):=h;show(match ge false 1 p H with|some (v,aw)=>some (v,([]:eG),aw,nx)|none=>j7 false 1 p H nx)=some (y,[],l,nx);split at h
  .exact h
  .cases h
 |_=>cases h
theorem FN{o:OP}{vs:List V}{v:V}{l:List Nat}{xs:List TV}(hr:HR n h1 h)(ht:Nu o vs h=some (v,l))(hx:kH h vs xs)(hk:∀w∈vs,eA n h w)(ha:∀w∈vs,gu h w=true)
  (hp:Lw o.o.args=true->∀a k b,vs=[a,.x (.i k) b]->0<b):O0 h n h1 o.o.k xs v l:=by
 obtain⟨⟨d,k,args,g⟩,t,fi⟩:=o;simp only at hp|-;unfold Nu at ht;simp only at ht;split at ht
 .--mv
  obtain⟨rfl,rfl⟩:=ad (aa ht);obtain⟨x,rfl,h2⟩:=ga hx;exact .of (fun _ _=>rfl) h2 (hk _ (by simp))
 .--nilCheck
  obtain⟨x,rfl,h2⟩:=ga hx;have hk1:=hk _ (am.2 rfl);split at ht
  .obtain ⟨rfl,rfl⟩:=ad (aa ht);exact .of (fun _ _=>by rw[(vJ h2).2];rfl) h2 hk1
  .obtain ⟨rfl,rfl⟩:=ad (aa ht);refine .of (fun _ _=>?_) h2 hk1;rcases CO h2 with⟨_,ds,_,rfl⟩|⟨_,cs,_,rfl⟩<;>rfl
  .obtain ⟨rfl,rfl⟩:=ad (aa ht);exact .of (fun _ _=>by rw[qu h2];rfl) h2 hk1
  .obtain ⟨rfl,rfl⟩:=ad (aa ht);exact .of (fun _ _=>by rw[tQ h2];rfl) h2 hk1
  .simp at ht
 .--xn int
  rename_i op q a q' b;obtain⟨x,y,rfl,h2,h3⟩:=gD hx;obtain rfl:=iS h2;obtain rfl:=iS h3;split at ht
  .rename_i w hw;obtain⟨rfl,rfl⟩:=ad (aa ht);obtain⟨y,h4,h5,h6⟩:=Hq (h:=h) (n:=n) hw fun hz=>hp hz _ _ _ rfl;exact .of (fun _ _=>by simp only[kD,cm,l6,h4]) h5 h6
  .simp at ht
 .--xn float
  rename_i op q a q' b;obtain⟨x,y,rfl,h2,h3⟩:=gD hx;obtain rfl:=AK h2;obtain rfl:=AK h3;split at ht
  .rename_i w hw;obtain⟨rfl,rfl⟩:=ad (aa ht);obtain⟨y,h4,h5,h6⟩:=Em (h:=h) (n:=n) hw;exact .of (fun _ _=>by show(match l6 op (.float q a) (.float q' b)with|some v=>some (lv v,([]:eG),([]:List Nat),_)|none=>none)=_;rw[h4]) h5 h6
  .simp at ht
 .--xn string
  obtain⟨x,y,rfl,h2,h3⟩:=gD hx;obtain rfl:=uL h2;obtain rfl:=uL h3;split at ht
  .rename_i w hw;obtain⟨rfl,rfl⟩:=ad (aa ht);obtain⟨y,h4,h5,h6⟩:=Ho (h:=h) (n:=n) hw;exact .of (fun _ _=>by simp only[kD,cm,l6,h4]) h5 h6
  .simp at ht
 .--sy
  rename_i neg v1 v2;obtain⟨x,y,rfl,h2,h3⟩:=gD hx;split at ht
  .rename_i a b ha' hb';obtain⟨rfl,rfl⟩:=ad (aa ht);rw[M3 h2 ha',M3 h3 hb'];refine .of (x:=tB (bif neg then !(a==b)else a==b)) (fun _ _=>?_) (xb _) trivial;cases neg<;>rfl
  .simp at ht
 .--po
  obtain⟨x,rfl,h2⟩:=ga hx;split at ht
  .rename_i w hw;obtain⟨rfl,rfl⟩:=ad (aa ht);intro c nx;obtain⟨y,h4,h5,h6⟩:=II (n:=n) (h1:=h1) (c:=c) (nx:=nx) h2 (ha _ (by simp)) hw;exact⟨y,[],h4,h5,h6,fun i hi=>by simp at hi⟩
  .simp at ht
 .--w6
  rename_i neg ks t1 a w;obtain⟨x,y,rfl,h2,h3⟩:=gD hx;split at ht
  .rename_i b hb;cases hq:lH t1&&decide (BQ t1=some ks)with
   |false=>rw[hq]at ht;simp at ht
   |true=>
    rw[hq,cond_true]at ht;obtain⟨rfl,rfl⟩:=ad (aa ht);simp only[af,decide_eq_true_eq]at hq;obtain⟨k1,k2,k3,k4⟩:=vv t1 ks hq.2;have e1:=(tu (v:=.x t1 a) (u:=t1) (y:=a) h2 (by simp[rn,js,gi,fk])).1 hq.1;have e2:=(tu h3 hb).1 hq.1;have el:∀z:El t1,km ((aM t1 z).map C.d)=some (tL t1 z):=fun z=>by rw[show(aM t1 z).map C.d=(tL t1 z).map fun v=>C.d (.lit v)by rw[k1 z,kc];rfl,wJ]
    rw[e1,e2];refine .of (x:=tB (bif neg then !(decide (a=b))else decide (a=b))) (fun _ _=>?_) (xb _) trivial;simp only[kD,cm,el,k3];cases neg<;>rfl
  .simp at ht
 .obtain ⟨rfl,rfl⟩:=ad (aa ht);obtain⟨x,rfl,h2⟩:=ga hx;rw[tR h2];exact .of (fun _ _=>rfl) (bM (c_ rfl rfl)) trivial
 .obtain ⟨rfl,rfl⟩:=ad (aa ht);obtain⟨x,rfl,h2⟩:=ga hx;rw[EF h2];exact .of (fun _ _=>rfl) (xb _) trivial
 .obtain ⟨rfl,rfl⟩:=ad (aa ht);obtain⟨x,rfl,h2⟩:=ga hx;rw[iS h2];exact .of (fun _ _=>rfl) (xi _ _) trivial
 .obtain ⟨rfl,rfl⟩:=ad (aa ht);obtain⟨x,rfl,h2⟩:=ga hx;rw[AK h2];exact .of (fun _ _=>rfl) (xf _ _) trivial
 .obtain ⟨rfl,rfl⟩:=ad (aa ht);obtain⟨x,rfl,h2⟩:=ga hx;rw[iS h2];exact .of (fun _ _=>rfl) (xi _ _) trivial
 .obtain ⟨rfl,rfl⟩:=ad (aa ht);obtain⟨x,rfl,h2⟩:=ga hx;rw[iS h2];exact .of (fun _ _=>rfl) (xi _ _) trivial
 .obtain ⟨rfl,rfl⟩:=ad (aa ht);obtain⟨x,rfl,h2⟩:=ga hx;rw[iS h2];exact .of (fun _ _=>rfl) (xf _ _) trivial
 .obtain ⟨rfl,rfl⟩:=ad (aa ht);obtain⟨x,rfl,h2⟩:=ga hx;rw[uL h2];exact .of (fun _ _=>rfl) (O5 _) trivial
 .--GD
  rename_i f;cases hc:vs.all Cn with
  |false=>rw[hc]at ht;simp at ht
  |true=>
   rw[hc,cond_true]at ht;obtain⟨rfl,rfl⟩:=ad (aa ht);obtain⟨cs,h2,rfl⟩:=HK hx fun w hw=>by have:=List.all_eq_true.1 hc w hw;cases w<;>first|exact⟨trivial,by simp[Cn]at this;exact this⟩|simp[Cn]at this
   refine .of (x:=.c (.mP f cs)) (fun _ _=>?_) (bM (c_ rfl ⟨cs,h2,rfl⟩)) ?_
   .simp only[cm,lD];rw[Hw _ fun _=>rfl]
   .clear ht h2 hp ha hc hx;induction vs with|nil=>trivial|cons w vs ih=>exact⟨hk w (by simp),ih fun u hu=>hk u (by simp[hu])⟩
 .--load
  rename_i g m p;obtain⟨x,rfl,h2⟩:=ga hx;split at ht
  .rename_i w l' hl;cases hc:Ee h g m w with|false=>rw[hc]at ht;simp at ht|true=>rw[hc,cond_true]at ht;obtain⟨rfl,rfl⟩:=ad (aa ht);intro c nx;obtain⟨y,h3,h4,h5⟩:=ug (c:=c) (nx:=nx) hr hl hc h2 (hk _ (by simp));exact⟨y,_,h3,h4,h5,fun i hi=>hi⟩
  .simp at ht
 .--load of a slice
  obtain⟨x,rfl,h2⟩:=ga hx;split at ht
  .rename_i w l' hl;cases hc:Ee h false 1 w with|false=>rw[hc]at ht;simp at ht|true=>rw[hc,cond_true]at ht;obtain⟨rfl,rfl⟩:=ad (aa ht);intro c nx;obtain⟨y,h3,h4,h5⟩:=ug (c:=c) (nx:=nx) hr hl hc h2 (hk _ (by simp));exact⟨y,_,I0 h3,h4,h5,fun i hi=>hi⟩
  .simp at ht
 .--fieldAddr
  obtain⟨x,rfl,h2⟩:=ga hx;split at ht
  .split at ht
   .rename_i w hw;obtain⟨rfl,rfl⟩:=ad (aa ht);intro c nx;obtain⟨y,h3,h4,h5⟩:=JI (h1:=h1) (c:=c) (nx:=nx) h2 (hk _ (by simp)) hw;exact⟨y,[],h3,h4,h5,fun i hi=>by simp at hi⟩
   .simp at ht
  .simp at ht
 .--field of data
  rename_i g off m u y;obtain⟨x,rfl,h2⟩:=ga hx;split at ht
  .split at ht
   .rename_i i _ w hw;cases hc:(mS u i==off)&&Ee h g m w with
    |false=>rw[hc]at ht;simp at ht
    |true=>
     rw[hc,cond_true]at ht;obtain⟨rfl,rfl⟩:=ad (aa ht);simp only[af,beq_iff_eq]at hc;obtain⟨a,z,rfl,f1,f2,f3⟩:=pk _ _ _ _ hw;obtain⟨cs,⟨hd,rfl⟩,g1,_⟩:=mO (v:=.x (.st u) y) trivial h2;have hd':je u=true:=hd;obtain⟨_,hs,_,_⟩:=mB hc.2;have hs:bm a=m:=hs
     obtain⟨q,h3,h4⟩:=nI (cs:=(aM u y).map C.d) (off:=off) hc.2 (show eD h (.x a z) ((aM a z).map .d)from⟨xa u _ _ hd' f1,rfl⟩) (by simp[bD];omega)
      (by rw[<-hc.1,<-hs,<-f3,fZ,fx])
     rw[g1 rfl];exact .of (x:=q) (fun _ _=>by show(match BM g m (((aM u y).map C.d).drop off)with|some v=>some (v,([]:eG),([]:List Nat),_)|none=>none)=_;rw[h3]) h4 trivial
   .simp at ht
  .simp at ht
 .--field of a cC
  rename_i g off m u;obtain⟨x,rfl,h2⟩:=ga hx;split at ht
  .split at ht
   .rename_i i _ w hw;cases hc:(L7 u i==off)&&Ee h g m w with|false=>rw[hc]at ht;simp at ht|true=>rw[hc,cond_true]at ht;obtain⟨rfl,rfl⟩:=ad (aa ht);simp only[af,beq_iff_eq]at hc;obtain⟨cs,hcs,g1,_⟩:=mO (v:=.rc u) trivial h2;obtain⟨cw,q1,q2,q3⟩:=Gs u i w cs hcs hw;obtain⟨_,hs,_,_⟩:=mB hc.2;obtain⟨q,h3,h4⟩:=nI (off:=off) hc.2 q1 (by rw[<-hc.1,<-hs];exact q2) (by rw[<-hc.1,<-hs];exact q3);rw[g1 rfl];exact .of (x:=q) (fun _ _=>by show(match BM g m (cs.drop off)with|some v=>some (v,([]:eG),([]:List Nat),_)|none=>none)=_;rw[h3]) h4 (vu u i w (hk (.rc u) (am.2 rfl)) hw)
   .simp at ht
  .simp at ht
 .--extract
  rename_i i u;obtain⟨x,rfl,h2⟩:=ga hx;split at ht
  .rename_i w hw;obtain⟨rfl,rfl⟩:=ad (aa ht);obtain⟨ys,rfl,h3⟩:=Nt h2;obtain⟨y,h4,h5⟩:=LM u i w ys h3 hw;exact .of (x:=y) (fun _ _=>by simp only[kD,cm,h4]) (bM h5) (vu u i w (hk (.tp u) (am.2 rfl)) hw)
  .simp at ht
 .obtain ⟨rfl,rfl⟩:=ad (aa ht);obtain⟨x,rfl,h2⟩:=ga hx;rw[uL h2];exact .of (fun _ _=>rfl) (xi _ _) trivial
 .obtain ⟨rfl,rfl⟩:=ad (aa ht);obtain⟨x,rfl,h2⟩:=ga hx;rw[rY h2];exact .of (fun _ _=>rfl) (xi _ _) trivial
 .--len of a cC of aj
  obtain⟨x,rfl,h2⟩:=ga hx;split at ht
  .rename_i t' s' ln hq;obtain⟨rfl,rfl⟩:=ad (aa ht);exact .of (fun _ _=>by rw[zj h2 (qy hq)];exact MU) (xi _ _) trivial
  .simp at ht
 .--len
  obtain⟨x,rfl,h2⟩:=ga hx;split at ht
  .rename_i q t' s' l' hq;obtain⟨rfl,rfl⟩:=ad (aa ht);exact .of (fun _ _=>N5 h2 (ha _ (by simp)) hq) (xi _ _) trivial
  .simp at ht
 .--pW
  rename_i m k' x r;obtain⟨x1,ys,rfl,h2,h3⟩:=fg hx;split at ht
  .rename_i y hy;obtain⟨rfl,rfl⟩:=ad (aa ht);obtain rfl:=iS h2;exact .of (x:=lv (.int k' y)) (fun _ _=>by simp only[kD,cm,IT hy h3]) (xi _ _) trivial
  .simp at ht
 .--pW of floats
  rename_i m k' x r;obtain⟨x1,ys,rfl,h2,h3⟩:=fg hx;split at ht
  .rename_i y hy;obtain⟨rfl,rfl⟩:=ad (aa ht);obtain rfl:=AK h2;refine .of (x:=lv (.float k' y)) (fun _ _=>?_) (xf _ _) trivial;show(match IS m (.float k' x) (ys.map some)with|some v=>some (lv v,([]:eG),([]:List Nat),_)|none=>none)=_;rw[Gz hy h3]
  .simp at ht
 .--build
  rename_i z ps;cases hc:rx (lJ t) z&&lH t&&dW (MK t) false t with
  |false=>rw[hc]at ht;simp at ht
  |true=>
   rw[hc,cond_true]at ht;simp only[af]at hc;split at ht
   .rename_i w hw;obtain⟨rfl,rfl⟩:=ad (aa ht);obtain⟨z1,z2⟩:=(vC (h:=h) (n:=n) t).1 hc.2;obtain⟨cs,b1,b2,b3,b4⟩:=Kk fi ps vs (MK t) w _ xs hw hc.2 z1 z2 hx hk;rw[pD hc.1.1]at b1;exact .of (x:=.agg cs) (fun _ _=>by simp only[cm,lD,b1]) (bM (vK (Oh b4 hc.1.2) b2)) b3
   .simp at ht
 .--lookup
  rename_i ka ks va z ok m kv;obtain⟨x,y,rfl,h2,h3⟩:=gD hx;split at ht
  .rename_i kt vt mp l' hq;split at ht
   .rename_i key hkey;cases hc:(lH kt==ka)&&(lH vt==va)&&decide (BQ kt=some ks)&&rx (lJ vt) z&&je vt&&(va||bm vt==1)with
    |false=>rw[hc]at ht;simp at ht
    |true=>
     rw[hc,cond_true]at ht;simp only[af,beq_iff_eq,decide_eq_true_eq]at hc;obtain⟨⟨⟨⟨⟨c1,c2⟩,c3⟩,c4⟩,c5⟩,c6⟩:=hc;obtain⟨id,rfl,rfl,e1,e2,e3⟩:=IY hr hq h2;have e1:l'=[id]:=e1;subst e1;obtain⟨_,_,k3,_⟩:=vv kt ks c3;have hz:ce z=aM vt (qt vt):=by rw[pC vt c5,pD c4]
     have hv:∀y,nw va (aM vt y)=some (O6 vt y):=fun y=>ED y c2 c6;have hkt:=BN h3 hkey c3 c1;rw[c1,c2]at e3;rw[<-c2]at c6;cases ok with|false=>simp only[cond_false]at ht;obtain⟨rfl,rfl⟩:=ad (aa ht);exact fun c nx=>⟨_,[id],NZ (z:=qt vt) e3 hkt k3 hz hv,bM (HJ c5 c6),trivial,fun i hi=>hi⟩|true=>simp only[cond_true]at ht;obtain⟨rfl,rfl⟩:=ad (aa ht);exact fun c nx=>⟨_,[id],LV (z:=qt vt) e3 hkt k3 hz hv,⟨_,rfl,_,_,rfl,HJ c5 c6,_,_,rfl,c_ rfl ⟨rfl,rfl⟩,rfl⟩,⟨trivial,trivial,trivial⟩,fun i hi=>hi⟩
   .simp at ht
  .simp at ht
 .simp at ht
end
section
variable{h:H2}{n:Nat}{h1:bz}
theorem cB(id:Nat)(o:Option O)(h:H2)(i:Nat):fO ((id,o)::h) i=if id=i then o else fO h i:=by
 simp only[fO,bX];by_cases e:id=i
 .subst e;simp
 .have e':(id==i)=false:=by simpa using e
  simp[e,e']
theorem bZ(id:Nat)(o:Option Ob)(h:bz)(i:Nat):av ((id,o)::h) i=if id=i then o else av h i:=by
 simp only[av,bX];by_cases e:id=i
 .subst e;simp
 .have e':(id==i)=false:=by simpa using e
  simp[e,e']
theorem ik.new(o:Option O):ik n h ((n,o)::h):=⟨fun id o' hi ho=>by rw[cB,if_neg (by omega)]at ho;exact .inl ⟨o',ho,qp.refl _⟩⟩
theorem ik.AH{id:Nat}{o o':O}(ho:fO h id=some o)(hs:qp o o'):ik n h ((id,some o')::h):=
 ⟨fun i o2 hi h2=>by
  rw[cB]at h2;split at h2
  .rename_i e;subst e;obtain rfl:=aa h2;exact .inl ⟨o,ho,hs⟩
  .exact .inl ⟨o2,h2,qp.refl _⟩⟩
theorem ik.j5(id:Nat):ik n h ((id,none)::h):=
 ⟨fun i o2 hi h2=>by
  rw[cB]at h2;split at h2
  .simp at h2
  .exact .inl ⟨o2,h2,qp.refl _⟩⟩
theorem HR.AH{n' id:Nat}{o:Option O}{u:eG}(hr:HR n h1 h)(hn:n<=n')(hi:id<n')(hs:ik n h ((id,o)::h))(hu:∀i,i≠id->av (u++h1) i=av h1 i)
  (ho:∀o',o=some o'->sX ((id,o)::h) o' (av (u++h1) id)/\Az n' ((id,o)::h) o'):HR n' (u++h1) ((id,o)::h):=by
 refine⟨fun i o' h2=>?_⟩;rw[cB]at h2;split at h2
 .rename_i e;subst e;exact⟨hi,ho o' h2⟩
 .rename_i e;obtain⟨q1,q2,q3⟩:=hr.ob i o' h2;refine⟨by omega,?_,mr hn hs q3⟩;rw[hu i fun e'=>e e'.symm];exact nF hs q3 q2
theorem HR.mono{n':Nat}(hr:HR n h1 h)(hn:n<=n'):HR n' h1 h:=⟨fun i o ho=>let⟨a,b,c⟩:=hr.ob i o ho;⟨by omega,b,mr hn (ik.refl n h) c⟩⟩
theorem HR.ext{h1':bz}(hr:HR n h1 h)(he:∀i,av h1' i=av h1 i):HR n h1' h:=⟨fun i o ho=>by rw[he];exact hr.ob i o ho⟩
structure oX(s s':S2)(h1:bz)(x:TV)(u:eG)(aw:List Nat)(m:Nat)(v:V)(l:List Nat):Prop where
 val:eW s'.heap v x
 R0:eA s'.next s'.heap v
 hr:HR s'.next (u++h1) s'.heap
 dA:ik s.next s.heap s'.heap
 db:s'.db=s.db
 gh:s'.gh=s.gh
 m:m<=s'.next
 le:s.next<=s'.next
 aw:∀i∈aw,i∈l
 nb:∀i,i<s.next->fO s.heap i=none->fO s'.heap i=none
 wo:∃w,s'.wo=w++s.wo/\(∀p∈u,p.1∈w)/\∀id,id∉w->fO s'.heap id=fO s.heap id
theorem oX.pure{s:S2}{x:TV}{v:V}{aw l:List Nat}(hr:HR s.next h1 s.heap)(hx:eW s.heap v x)(hk:eA s.next s.heap v)(hl:∀i∈aw,i∈l):oX s s h1 x [] aw s.next v l:=⟨hx,hk,hr,ik.refl _ _,rfl,rfl,ao _,ao _,hl,fun _ _ h=>h,[],rfl,fun p hp=>by simp at hp,fun _ _=>rfl⟩
theorem oX.new{s:S2}{o:O}{b:Option Ob}{u:eG}{x:TV}{v:V}{aw l:List Nat}{m:Nat}(hr:HR s.next h1 s.heap)(hu:u=[(s.next,b)]\/(u=[]/\∀b',sX ((s.next,some o)::s.heap) o b'))(hb:u=[(s.next,b)]->sX ((s.next,some o)::s.heap) o b)
  (hko:Az (s.next+1) ((s.next,some o)::s.heap) o) (hx:eW ((s.next,some o)::s.heap) v x) (hk:eA (s.next+1) ((s.next,some o)::s.heap) v) (hl:∀i∈aw,i∈l) (hm:m<=s.next+1):oX s (fJ s o) h1 x u aw m v l:=by
 refine⟨hx,hk,?_,ik.new _,rfl,rfl,hm,bk _,hl,fun i hi h=>(by rw[show(fJ s o).heap=(s.next,some o)::s.heap from rfl,cB,if_neg (by omega)];exact h),[s.next],rfl,?_,fun id hid=>?_⟩
 .refine HR.AH (n':=s.next+1) hr (bk _) (aT _) (ik.new _) (fun i hi=>?_) fun o' ho'=>?_
  .rcases hu with rfl|⟨rfl,_⟩
   .rw [aU,bZ,if_neg fun e=>hi e.symm]
   .rfl
  .obtain rfl:=aa ho';refine⟨?_,hko⟩;rcases hu with rfl|⟨rfl,hu⟩
   .rw [aU,bZ,if_pos rfl];exact hb rfl
   .exact hu _
 .intro p hp;rcases hu with rfl|⟨rfl,_⟩
  .obtain rfl:=am.1 hp;simp
  .simp at hp
 .simp only[fJ];rw[cB,if_neg fun e=>hid (by simp[e])]
theorem oX.AH{s:S2}{id:Nat}{o o':O}{b:Option Ob}{x:TV}{v:V}{aw l:List Nat}(hr:HR s.next h1 s.heap)(ho:fO s.heap id=some o)(hs:qp o o')(hb:sX ((id,some o')::s.heap) o' b)(hko:Az s.next ((id,some o')::s.heap) o')
  (hx:eW ((id,some o')::s.heap) v x) (hk:eA s.next ((id,some o')::s.heap) v) (hl:∀i∈aw,i∈l):oX s (cX s id (some o')) h1 x [(id,b)] aw s.next v l:=by
 refine⟨hx,hk,?_,ik.AH ho hs,rfl,rfl,ao _,ao _,hl,fun i _ h=>(by rw[show(cX s id (some o')).heap=(id,some o')::s.heap from rfl,cB,if_neg (fun e=>by rw[e,h]at ho;cases ho)];exact h),[id],rfl,fun p hp=>?_,fun i hi=>?_⟩
 .refine HR.AH hr (ao _) (hr.ob id o ho).1 (ik.AH ho hs) (fun i hi=>?_) fun o2 ho2=>?_
  .rw [aU,bZ,if_neg fun e=>hi e.symm]
  .obtain rfl:=aa ho2;rw[aU,bZ,if_pos rfl];exact⟨hb,hko⟩
 .obtain rfl:=am.1 hp;simp
 .simp only[cX];rw[cB,if_neg fun e=>hi (by simp[e])]
def k7(h:H2)(id:Nat):Prop:=(∃t v,fO h id=some (.ar t .nil v)\/fO h id=some (.im t .nil v))\/∃t ln,fO h id=some (.rw t .nil ln)
theorem wC{id ver:Nat}{t:Ty}{l:List (El t)}(ho:fO h id=some (.ar t (.mk l) ver)\/fO h id=some (.im t (.mk l) ver)):¬k7 h id:=by
 rintro(⟨u,v',e⟩|⟨u,ln,e⟩)
 .rcases ho with ho|ho<;>rcases e with e|e<;>rw[ho]at e<;>simp at e
  all_goals
   obtain⟨rfl,e,_⟩:=e;cases eq_of_heq e
 .rcases ho with ho|ho<;>rw[ho]at e<;>cases e
theorem LO{id:Nat}{t:Ty}{l:List (Sl (El t))}{ln:Option (Nat×Nat)}(ho:fO h id=some (.rw t (.mk l) ln)):¬k7 h id:=by
 rintro(⟨u,v',e⟩|⟨u,ln',e⟩)
 .rcases e with e|e<;>rw[ho]at e<;>cases e
 .rw [ho]at e;cases e
theorem oc(k:Nat)(x:D):dE h1 k (.d x)=some (x,[]):=by cases k<;>rfl
theorem vE:∀(ds:List D),du h1 (ds.map .d)=some (ds,[]):=by intro ds;induction ds with|nil=>rfl|cons d ds ih=>simp[du,oc,ih]
theorem oF{a b:List C}{x y:List D}{i j:List Nat}(ha:du h1 a=some (x,i))(hb:du h1 b=some (y,j)):du h1 (a++b)=some (x++y,i++j):=by
 induction a generalizing x i with
 |nil=>obtain⟨rfl,rfl⟩:[]=x/\[]=i:=by simpa[du]using ha
       simpa using hb
 |cons c a ih=>
  simp only[du]at ha;split at ha
  .rename_i p q r s hp hq;obtain⟨rfl,rfl⟩:=ad (aa ha);simp only[aO,du,hp,ih hq,aP]
  .simp at ha
theorem AF{id sz lo len:Nat}{aj:List (List D)}(k:Nat)(ho:av h1 id=some (.aJ sz aj)\/av h1 id=some (.nL sz aj))(hl:lo+len<=aj.length)(szo:Nat):
  dE h1 k (.dz szo id lo len)=some (.sl szo ((aj.drop lo).take len),[id]):=by
 rcases ho with ho|ho<;>(cases k<;>simp only[dE,ho,if_pos hl])
theorem K3{id ver:Nat}{t:Ty}{s:Sl (El t)}(k:Nat)(hr:HR n h1 h)(ho:fO h id=some (.ar t s ver)\/fO h id=some (.im t s ver)):
  ∃aw,dE h1 k (jm (bm t) (aM t) id s)=some (tV (bm t) (aM t) s,aw)/\(∀i∈aw,i=id/\¬k7 h i)/\(id∈aw\/k7 h id):=by
 cases s with
 |nil=>exact⟨[],oc k _,fun i hi=>by simp at hi,.inr (.inl ⟨t,ver,ho⟩)⟩
 |mk l=>
  have hb:av h1 id=some (.aJ (bm t) (l.map (aM t)))\/av h1 id=some (.nL (bm t) (l.map (aM t))):=by
   rcases ho with ho|ho
   .exact .inl ((hr.ob id _ ho).2.1.2.2 l rfl)
   .exact .inr ((hr.ob id _ ho).2.1.2.2 l rfl)
  refine⟨[id],?_,fun i hi=>by obtain rfl:=am.1 hi;exact⟨rfl,wC ho⟩,.inl (by simp)⟩;have:=AF (lo:=0) (len:=(l.map (aM t)).length) k hb (by omega) (bm t);rw[rm]at this;exact this
theorem K4{id ver lo:Nat}{t:Ty}{r:Sl (El t)}(k:Nat)(hr:HR n h1 h)(hk:eA n h (.sb id ver lo t r))(ha:As h id ver=true):
  ∃aw,dE h1 k (v7 id lo t r)=some (tV (bm t) (aM t) r,aw)/\(∀i∈aw,i=id/\¬k7 h i)/\(id∈aw\/k7 h id):=by
 obtain⟨u,s,ho⟩:=j9 ha;obtain⟨_,hc⟩:=hk.2 u s ver ho;obtain⟨hz,hc⟩:=hc rfl;cases r with
 |nil=>cases s with|nil=>exact⟨[],oc k _,fun i hi=>by simp at hi,.inr (.inl ⟨u,ver,ho⟩)⟩|mk l=>exact hc.elim
 |mk m=>
  cases s with
  |nil=>exact hc.elim
  |mk l=>
   obtain⟨hl,he⟩:=hc
   have hb:av h1 id=some (.aJ (bm u) (l.map (aM u)))\/av h1 id=some (.nL (bm u) (l.map (aM u))):=by
    rcases ho with ho|ho
    .exact .inl ((hr.ob id _ ho).2.1.2.2 l rfl)
    .exact .inr ((hr.ob id _ ho).2.1.2.2 l rfl)
   refine⟨[id],?_,fun i hi=>by obtain rfl:=am.1 hi;exact⟨rfl,wC ho⟩,.inl (by simp)⟩;have:=AF (lo:=lo) (len:=(m.map (aM t)).length) k hb (by simpa using hl) (bm t);rw[show(m.map (aM t)).length=m.length by simp,he]at this;simpa[v7,tV]using this
theorem yl{t:Ty}:∀(l:List (Sl (El t))),oK (bm t) (l.map (lK t))=some (l.map (aM (.sl t))):=by intro l;induction l with|nil=>rfl|cons s l ih=>simp only[aq,oK,ih];cases s<;>rfl
theorem K2{id:Nat}{t:Ty}{s:Sl (Sl (El t))}(k:Nat)(hr:HR n h1 h)(ho:fO h id=some (.rw t s none)):
  ∃aw,dE h1 k (jm 1 (aM (.sl t)) id s)=some (tV 1 (aM (.sl t)) s,aw)/\(∀i∈aw,i=id/\¬k7 h i)/\(id∈aw\/k7 h id):=by
 cases s with
 |nil=>exact⟨[],oc k _,fun i hi=>by simp at hi,.inr (.inr ⟨t,none,ho⟩)⟩
 |mk l=>
  have hb:=(hr.ob id _ ho).2.1.2.2 l rfl;refine⟨[id],?_,fun i hi=>by obtain rfl:=am.1 hi;exact⟨rfl,LO ho⟩,.inl (by simp)⟩;have e:((l.map (aM (.sl t))).length)=(di t l none).length:=by simp[di]
  have hs:oK (bm t) (di t l none)=some (l.map (aM (.sl t))):=yl l;cases k<;>simp only[jm,tV,dE,hb,hs,e,and_self,if_true]
theorem qK(hr:HR n h1 h):∀(v w:V)(l:List Nat)(cs:List C),ie h v=some (w,l)->eD h v cs->eA n h v->gu h v=true->
  ∃ds aw,du h1 cs=some (ds,aw)/\eD h w (ds.map .d)/\(∀i∈aw,i∈l/\¬k7 h i)/\(∀i∈l,i∈aw\/k7 h i)/\(∀i∈l,i<n/\((∃t s v,fO h i=some (.ar t s v)\/fO h i=some (.im t s v))\/∃t s,fO h i=some (.rw t s none))):=by
 have done:∀(v:V)(ds:List D),eD h v (ds.map .d)->∃ds' aw,du h1 (ds.map .d)=some (ds',aw)/\eD h v (ds'.map .d)/\(∀i∈aw,i∈([]:List Nat)/\¬k7 h i)/\(∀i∈([]:List Nat),i∈aw\/k7 h i)/\(∀i∈([]:List Nat),i<n/\((∃t s v,fO h i=some (.ar t s v)\/fO h i=some (.im t s v))\/∃t s,fO h i=some (.rw t s none))):=fun v ds hv=>⟨ds,[],vE ds,hv,fun i hi=>by simp at hi,fun i hi=>by simp at hi,fun i hi=>by simp at hi⟩;intro v;induction v with
 |so id=>
  intro w l cs hf hv hk ha;simp only[ie]at hf;split at hf
  .rename_i t s l' hs;obtain⟨rfl,rfl⟩:=ad (aa hf);obtain⟨ver,ho,e⟩:=sg hs;have e:l'=[id]:=e;subst e;obtain⟨c,rfl,hc,_⟩:=hv;rw[hc _ (ki ho)];obtain⟨aw,q1,q2,q3⟩:=K3 300 hr ho;have hd:je t=true:=by rcases ho with ho|ho<;>exact(hr.ob id _ ho).2.1.1
   refine⟨[tV (bm t) (aM t) s],aw,by simp[du,q1],⟨hd,rfl⟩,fun i hi=>⟨by simpa using(q2 i hi).1,(q2 i hi).1▸(q2 i hi).2⟩,fun i hi=>?_,fun i hi=>?_⟩
   .obtain rfl:=am.1 hi;exact q3
   .obtain rfl:=am.1 hi;exact⟨hk,.inl ⟨t,s,ver,ho⟩⟩
  .simp at hf
 |sr id=>
  intro w l cs hf hv hk ha;simp only[ie]at hf;split at hf
  .rename_i t s ho;obtain⟨rfl,rfl⟩:=ad (aa hf);obtain⟨c,rfl,hc,_⟩:=hv;rw[hc _ (by rw[ho];rfl:xB id (fO h id)=some (jm 1 (aM (.sl t)) id s))];obtain⟨aw,q1,q2,q3⟩:=K2 300 hr ho;have hd:je t=true:=(hr.ob id _ ho).2.1.1;refine⟨[tV 1 (aM (.sl t)) s],aw,by simp[du,q1],⟨hd,rfl⟩,fun i hi=>⟨by simpa using(q2 i hi).1,(q2 i hi).1▸(q2 i hi).2⟩,fun i hi=>?_,fun i hi=>?_⟩
   .obtain rfl:=am.1 hi;exact q3
   .obtain rfl:=am.1 hi;exact⟨hk,.inr ⟨t,s,ho⟩⟩
  .simp at hf
 |sb id ver lo t r=>
  intro w l cs hf hv hk ha;simp only[ie,ry]at hf;obtain⟨rfl,rfl⟩:=ad (aa hf);obtain⟨hd,ha⟩:=cJ.1 ha;have ha:As h id ver=true:=ha;obtain⟨c,rfl,hc,_⟩:=hv;rw[hc ha];obtain⟨aw,q1,q2,q3⟩:=K4 300 hr hk ha;obtain⟨u,s,ho⟩:=j9 ha;refine⟨[tV (bm t) (aM t) r],aw,by simp[du,q1],⟨?_,rfl⟩,fun i hi=>⟨by simpa using(q2 i hi).1,(q2 i hi).1▸(q2 i hi).2⟩,fun i hi=>?_,fun i hi=>?_⟩
  .exact hd
  .obtain rfl:=am.1 hi;exact q3
  .obtain rfl:=am.1 hi;exact⟨hk.1,.inl ⟨u,s,ver,ho⟩⟩
 |rc r ih=>
  intro w l cs hf hv hk ha;simp only[ie]at hf;split at hf
  .rename_i w' l' hw;obtain⟨rfl,rfl⟩:=ad (aa hf);exact ih w' l' cs hw hv hk ha
  .simp at hf
 |co a r iha ihr=>
  intro w l cs hf hv hk ha;simp only[ie]at hf;split at hf
  .rename_i x l1 y l2 hx hy;obtain⟨rfl,rfl⟩:=ad (aa hf);obtain⟨ca,cr,rfl,h2,h3⟩:=hv;simp only[gu,af]at ha;obtain⟨ds,aw,a1,a2,a3,a4,a5⟩:=iha x l1 ca hx h2 hk.1 ha.1;obtain⟨es,jds,b1,b2,b3,b4,b5⟩:=ihr y l2 cr hy h3 hk.2 ha.2;refine⟨ds++es,aw++jds,oF a1 b1,⟨_,_,by simp,a2,b2⟩,fun i hi=>?_,fun i hi=>?_,fun i hi=>?_⟩
   .rcases ak.1 hi with hi|hi
    .exact ⟨aE _ (a3 i hi).1,(a3 i hi).2⟩
    .exact ⟨aC _ (b3 i hi).1,(b3 i hi).2⟩
   .rcases ak.1 hi with hi|hi
    .exact (a4 i hi).imp (aE _) id
    .exact (b4 i hi).imp (aC _) id
   .rcases ak.1 hi with hi|hi
    .exact a5 i hi
    .exact b5 i hi
  .simp at hf
 |x t v=>intro w l cs hf hv hk ha;obtain⟨rfl,rfl⟩:=ad (aa hf);obtain⟨hd,rfl⟩:=hv;exact done _ _ ⟨hd,rfl⟩
 |kb c=>intro w l cs hf hv hk ha;obtain⟨rfl,rfl⟩:=ad (aa hf);obtain rfl:=hv;exact done (.kb c) [_] rfl
 |nl k=>intro w l cs hf hv hk ha;obtain⟨rfl,rfl⟩:=ad (aa hf);obtain rfl:=hv;exact done (.nl k) [_] rfl
 |fl q=>
  intro w l cs hf hv hk ha;obtain⟨rfl,rfl⟩:=ad (aa hf);obtain⟨hp,rfl⟩:=hv;have e:eJ q=(q.map D.lit).map C.d:=by simp[eJ]
  rw[e];exact done (.fl q) (q.map D.lit) ⟨hp,e.symm⟩
 |ni=>intro w l cs hf hv hk ha;obtain⟨rfl,rfl⟩:=ad (aa hf);obtain rfl:=hv;exact done .ni [] rfl
 |pt t v=>intro w l cs hf hv hk ha;obtain⟨rfl,rfl⟩:=ad (aa hf);obtain⟨hd,rfl⟩:=hv;exact done (.pt t v) [_] ⟨hd,rfl⟩
 |fn z f q ih=>intro w l cs hf hv hk ha;cases z with|true=>obtain⟨rfl,rfl⟩:=ad (aa hf);obtain⟨ds,hd,rfl⟩:=hv;exact done (.fn true f q) [_] ⟨ds,hd,rfl⟩|false=>simp[ie]at hf
 |_=>intro w l cs hf hv hk ha;simp[ie]at hf
theorem vp:∀(ds:List D)(k:Nat),ds.length<k->fc h1 k (ds.map .d)=some (ds,[]):=by
 intro ds;induction ds with
 |nil=>intro k hk;cases k<;>rfl
 |cons d ds ih=>intro k hk;cases k with|zero=>simp at hk|succ k=>simp only[aq,fc,oc];rw[ih k (by simpa using hk)];rfl
theorem uo{H:bz}{h0:H2}{k:Nat}(hr:HR k H h0)(all:List Nat){id:Nat}{o':O}(hf:z7 h0 id=some o'):
  ∃o,fO h0 id=some o/\qp o o'/\(∀m g,Az m g o')/\((k7 h0 id/\∀g b,sX g o' b)\/(¬k7 h0 id/\∃b,iN H all id=some b/\∀g,sX g o' (some b))):=by
 unfold z7 at hf;split at hf
 .rename_i t s v ho;obtain rfl:=aa hf;refine⟨_,ho,⟨ao _,rfl,rfl,rfl,fun _=>rfl⟩,fun _ _=>trivial,?_⟩;obtain⟨h1,h2,h3⟩:=(hr.ob id _ ho).2.1;cases s with|nil=>exact .inl ⟨.inl ⟨t,v,.inl ho⟩,fun g b=>⟨h1,h2,fun l e=>by cases e⟩⟩|mk l=>refine .inr ⟨wC (.inl ho),.nL (bm t) (l.map (aM t)),?_,fun g=>⟨h1,h2,fun l' e=>by cases e;rfl⟩⟩;simp only[iN,h3 l rfl]
 .rename_i t s v ho;obtain rfl:=aa hf;refine⟨_,ho,⟨rfl,rfl⟩,fun _ _=>trivial,?_⟩;obtain⟨h1,h2,h3⟩:=(hr.ob id _ ho).2.1;cases s with|nil=>exact .inl ⟨.inl ⟨t,v,.inr ho⟩,fun g b=>⟨h1,h2,fun l e=>by cases e⟩⟩|mk l=>refine .inr ⟨wC (.inr ho),.nL (bm t) (l.map (aM t)),?_,fun g=>⟨h1,h2,fun l' e=>by cases e;rfl⟩⟩;simp only[iN,h3 l rfl]
 .rename_i t v ho;obtain rfl:=aa hf;obtain⟨h1,h2⟩:=(hr.ob id _ ho).2.1;refine⟨_,ho,rfl,fun _ _=>trivial,.inr ⟨?_,.my (aM t v),?_,fun g=>⟨h1,rfl⟩⟩⟩
  .rintro (⟨u,v',e|e⟩|⟨u,v',e⟩)<;>rw[ho]at e<;>simp at e
  .simp only[iN,h2]
 .rename_i t c ho;cases hd:(je t&&Nat.blt (bm t) 300)with
  |false=>rw[hd]at hf;simp at hf
  |true=>
   rw[hd,cond_true]at hf;simp only[af]at hd;split at hf
   .rename_i w hw;split at hf
    .rename_i y hy;obtain rfl:=aa hf;obtain⟨cs,h1,h2,h3⟩:=(hr.ob id _ ho).2.1;have e:=gW c false t y cs hy h2;subst e;refine⟨_,ho,trivial,fun _ _=>trivial,.inr ⟨?_,.my (aM t y),?_,fun g=>⟨hd.1,rfl⟩⟩⟩
     .rintro (⟨u,v',e|e⟩|⟨u,v',e⟩)<;>rw[ho]at e<;>simp at e
     .have hl:(aM t y).length<300:=by rw[bD];simpa using hd.2
      simp only[iN,h1,vp _ _ hl];rfl
    .simp at hf
   .simp at hf
 .simp at hf
def DV(h:H2)(id:Nat):Option O:=match fO h id with|some (.rw _ _ none)=>none|_=>z7 h id
theorem uT{h0:H2}{s0:S2}(hs0:s0.heap=h0):∀(aw:List Nat)(s':S2),oQ h0 aw s0=some s'->
  s'.db=s0.db/\s'.gh=s0.gh/\s'.next=s0.next/\s'.wo=aw++s0.wo/\(∀i∈aw,(∃o,z7 h0 i=some o)\/∃t s,fO h0 i=some (.rw t s none))/\∀i,fO s'.heap i=if i∈aw then DV h0 i else fO h0 i:=by
 intro aw;induction aw with
 |nil=>intro s' hf;obtain rfl:=aa hf;exact⟨rfl,rfl,rfl,rfl,fun i hi=>by simp at hi,fun i=>by simp[hs0]⟩
 |cons id r ih=>
  intro s' hf;simp only[oQ]at hf
  have fin:∀(oo:Option O)(s1:S2),oQ h0 r s0=some s1->s'=cX s1 id oo->((∃o,z7 h0 id=some o)\/∃t s,fO h0 id=some (.rw t s none))->DV h0 id=oo->s'.db=s0.db/\s'.gh=s0.gh/\s'.next=s0.next/\s'.wo=(id::r)++s0.wo/\(∀i∈id::r,(∃o,z7 h0 i=some o)\/∃t s,fO h0 i=some (.rw t s none))/\∀i,fO s'.heap i=if i∈id::r then DV h0 i else fO h0 i:=by
   intro oo s1 h1 e hex hoo;subst e;obtain⟨a1,a2,a3,a4,a5,a6⟩:=ih s1 h1;refine⟨a1,a2,a3,by simp[cX,a4],fun i hi=>?_,fun i=>?_⟩
   .rcases aF.1 hi with rfl|hi
    .exact hex
    .exact a5 i hi
   .simp only[cX,cB,a6];by_cases e:id=i
    .subst e;simp[hoo]
    .simp [e,Ne.symm e]
  split at hf
  .rename_i t s ho;split at hf
   .rename_i s1 h1;exact fin none s1 h1 (aa hf).symm (.inr ⟨t,s,ho⟩) (by simp only[DV,ho])
   .cases hf
  .rename_i hno;split at hf
   .rename_i o s1 ho h1;refine fin (some o) s1 h1 (aa hf).symm (.inl ⟨o,ho⟩) ?_;unfold DV;split
    .rename_i t s e;exact absurd e (hno t s)
    .exact ho
   .cases hf
theorem GR{H:bz}{all:List Nat}:∀(l:List Nat),(∀i∈l,∃b,iN H all i=some b)->∃u,de H all l=some u/\∀p∈u,p.1∈l:=by
 intro l;induction l with
 |nil=>intro _;exact⟨[],rfl,fun p hp=>by simp at hp⟩
 |cons a l ih=>
  intro h;obtain⟨b,hb⟩:=h a (by simp);obtain⟨u,hu,hp⟩:=ih fun i hi=>h i (by simp[hi]);refine⟨(a,some b)::u,by simp only[de,hb,hu],fun p hp'=>?_⟩;rcases aF.1 hp' with rfl|hp'
  .simp
  .exact aA _ (hp p hp')
theorem z6{h0:H2}{s0:S2}(hs0:s0.heap=h0){H:bz}(hr:HR s0.next H h0)(aw:List Nat)(s':S2)(ids1 all:List Nat)(hf:oQ h0 aw s0=some s')(hi1:∀i∈ids1,i∈aw/\¬k7 h0 i)(hi2:∀i∈aw,i∈ids1\/k7 h0 i):
  ∃fu,de H all ids1=some fu/\HR s0.next (fu++H) s'.heap/\ik s0.next h0 s'.heap/\s'.db=s0.db/\s'.gh=s0.gh/\s'.next=s0.next/\
   s'.wo=aw++s0.wo/\(∀p∈fu,p.1∈aw)/\∀id,id∉aw->fO s'.heap id=fO s0.heap id:=by
 obtain⟨a1,a2,a3,a4,a5,a6⟩:=uT hs0 aw s' hf
 have hF:∀i o',DV h0 i=some o'->z7 h0 i=some o':=fun i o' h=>by
  unfold DV at h;split at h
  .cases h
  .exact h
 obtain⟨fu,hfu,hp⟩:=GR (H:=H) (all:=all) ids1 fun i hi=>by
  rcases a5 i (hi1 i hi).1 with⟨o,ho⟩|⟨t,s,ho⟩
  .obtain ⟨_,_,_,_,h⟩:=uo hr all ho;rcases h with h|⟨_,b,hb,_⟩
   .exact absurd h.1 (hi1 i hi).2
   .exact ⟨b,hb⟩
  .cases s with|nil=>exact absurd (.inr ⟨t,none,ho⟩) (hi1 i hi).2|mk l=>have hb:=(hr.ob i _ ho).2.1.2.2 l rfl;have hs:oK (bm t) (di t l none)=some (l.map (aM (.sl t))):=yl l;exact⟨.nL 1 (l.map (aM (.sl t))),by simp only[iN,hb,hs]⟩
 have dA:ik s0.next h0 s'.heap:=⟨fun i o' hi ho=>by
  rw[a6]at ho;split at ho
  .obtain ⟨o,h1,h2,_⟩:=uo hr all (hF i o' ho);exact .inl ⟨o,h1,h2⟩
  .exact .inl ⟨o',ho,qp.refl _⟩⟩
 refine⟨fu,hfu,⟨fun i o' ho=>?_⟩,dA,a1,a2,a3,a4,fun p hp'=>(hi1 _ (hp p hp')).1,fun i hi=>by rw[a6,if_neg hi,hs0]⟩;rw[a6]at ho;split at ho
 .rename_i hi;obtain⟨o,h1,_,h3,h4⟩:=uo hr all (hF i o' ho);refine⟨(hr.ob i o h1).1,?_,h3 _ _⟩;rcases h4 with h4|⟨h5,b,hb,hR⟩
  .exact h4.2 _ _
  .have hm:i∈ids1:=(hi2 i hi).resolve_right h5;obtain⟨b',hb',hl⟩:=(jQ ids1 fu hfu i).1 hm;rw[hb]at hb';obtain rfl:=aa hb';rw[show av (fu++H) i=some b by simp only[av,fP,hl];rfl];exact hR _
 .rename_i hi;obtain⟨h1,h2,h3⟩:=hr.ob i o' ho;have hn:i∉ids1:=fun hm=>hi (hi1 i hm).1;refine⟨h1,?_,mr (ao _) dA h3⟩;rw[show av (fu++H) i=av H i by simp only[av,fP,(jQ ids1 fu hfu i).2 hn]];exact nF dA h3 h2
theorem DU{h0:H2}{s0:S2}{aw:List Nat}{s':S2}(hs0:s0.heap=h0)(hf:oQ h0 aw s0=some s'):∀i∈aw,fO h0 i≠none:=by
 intro i hi e;obtain⟨_,_,_,_,a5,_⟩:=uT hs0 aw s' hf;rcases a5 i hi with⟨o,ho⟩|⟨t,s,ho⟩
 .simp [z7,e]at ho
 .rw [e]at ho;cases ho
end
section
variable{h:H2}{n:Nat}{h1:bz}{β:Type}
theorem aK{α:Type}{c:Bool}{a:Option α}{r:α}(h:(bif c then a else none)=some r):c=true/\a=some r:=by cases c with|true=>exact⟨rfl,h⟩|false=>simp at h
theorem uf{u:eG}{i:Nat}(hu:∀p∈u,p.1≠i):av (u++h1) i=av h1 i:=by induction u with|nil=>rfl|cons p u ih=>obtain⟨a,b⟩:=p;rw[aO,bZ,if_neg (hu _ (cE ..)),ih fun p hp=>hu p (aA _ hp)]
theorem oX.BX{s s':S2}{x:TV}{u:eG}{aw l:List Nat}{m:Nat}{v:V}(W:List Nat)(hr:HR s.next h1 s.heap)(dA:ik s.next s.heap s'.heap)(he:s'.db=s.db)(hg:s'.gh=s.gh)(hm:m<=s'.next)(hle:s.next<=s'.next)(hl:∀i∈aw,i∈l)
  (hwo:s'.wo=W++s.wo) (hu:∀p∈u,p.1∈W) (hW:∀id,id∉W->fO s'.heap id=fO s.heap id) (hob:∀i∈W,∀o,fO s'.heap i=some o->i<s'.next/\sX s'.heap o (av (u++h1) i)/\Az s'.next s'.heap o)
  (hx:eW s'.heap v x) (hk:eA s'.next s'.heap v) (hnb:∀i,i<s.next->fO s.heap i=none->fO s'.heap i=none):oX s s' h1 x u aw m v l:=by
 refine⟨hx,hk,⟨fun i o ho=>?_⟩,dA,he,hg,hm,hle,hl,hnb,W,hwo,hu,hW⟩;by_cases hi:i∈W
 .exact hob i hi o ho
 .rw [hW i hi]at ho;obtain⟨a,b,c⟩:=hr.ob i o ho;refine⟨by omega,?_,mr hle dA c⟩;rw[uf (u:=u) (i:=i) fun p hp e=>hi (e▸hu p hp)];exact nF dA c b
def vk(h1:bz)(kk:K)(xs:List TV)(s:S2)(k:V->S2->List Nat->Option β)(z:β):Prop:=∃v s' l,k v s' l=some z/\∀c:Call,∃x u aw m,cm c kk (xs.map some) h1 s.next=some (x,u,aw,m)/\oX s s' h1 x u aw m v l
variable{s:S2}{k:V->S2->List Nat->Option β}{z:β}
theorem vk.pure{kk:K}{xs:List TV}{v:V}{x:TV}(hr:HR s.next h1 s.heap)(hz:k v s []=some z)(he:∀c:Call,cm c kk (xs.map some) h1 s.next=some (x,[],[],s.next))(hx:eW s.heap v x)(hk:eA s.next s.heap v):vk h1 kk xs s k z:=⟨v,s,[],hz,fun c=>⟨x,[],[],s.next,he c,oX.pure hr hx hk fun i hi=>by simp at hi⟩⟩
theorem mh{t:Ty}(h:xE t=true):je t=true/\0<bm t:=by simpa[xE]using h
theorem vk.new{kk:K}{xs:List TV}{v:V}{x:TV}{o:O}{b:Option Ob}{l aw:List Nat}(hr:HR s.next h1 s.heap)(hz:k v (fJ s o) l=some z)(he:∀c:Call,cm c kk (xs.map some) h1 s.next=some (x,[(s.next,b)],aw,s.next+1))
  (hb:sX ((s.next,some o)::s.heap) o b) (hko:Az (s.next+1) ((s.next,some o)::s.heap) o) (hx:eW ((s.next,some o)::s.heap) v x) (hk:eA (s.next+1) ((s.next,some o)::s.heap) v) (hl:∀i∈aw,i∈l):vk h1 kk xs s k z:=
 ⟨v,_,l,hz,fun c=>⟨x,_,aw,_,he c,oX.new hr (.inl rfl) (fun _=>hb) hko hx hk hl (ao _)⟩⟩
theorem vk.AH{kk:K}{xs:List TV}{v:V}{x:TV}{id:Nat}{o o':O}{b:Option Ob}{l aw:List Nat}(hr:HR s.next h1 s.heap)(ho:fO s.heap id=some o)(hs:qp o o')(hz:k v (cX s id (some o')) l=some z)(he:∀c:Call,cm c kk (xs.map some) h1 s.next=some (x,[(id,b)],aw,s.next))
  (hb:sX ((id,some o')::s.heap) o' b) (hko:Az s.next ((id,some o')::s.heap) o') (hx:eW ((id,some o')::s.heap) v x) (hk:eA s.next ((id,some o')::s.heap) v) (hl:∀i∈aw,i∈l):vk h1 kk xs s k z:=
 ⟨v,_,l,hz,fun c=>⟨x,_,aw,_,he c,oX.AH hr ho hs hb hko hx hk hl⟩⟩
theorem rl(id:Nat)(o:Option O)(h:H2):fO ((id,o)::h) id=o:=by rw[cB,if_pos rfl]
theorem uc{t:Ty}{s:Sl (El t)}{v nx:Nat}:eW ((nx,some (.ar t s v))::h) (.so nx) (.c (jm (bm t) (aM t) nx s)):=bM (c_ rfl ⟨_,rfl,fun c' hc'=>by rw[rl]at hc';exact aa hc',vX⟩)
theorem Ae{x:V}{y:TV}{sz:Nat}{lo hi:Option Int}{m:Int}{q:V->Option β}(hr:HR n h1 h)(hx:eW h x y)(hk:eA n h x)(ha:gu h x=true)(hm:DL h x=some m)(hz:rE sz h x (lo.getD 0) (hi.getD m) q=some z):
  ∃v c c',y=.c c/\q v=some z/\eX false sz c lo hi=some c'/\eW h v (.c c')/\eA n h v:=by
 have gg:∀(id:Nat)(t:Ty)(w:Sl (El t))(ver:Nat),x=.so id->(fO h id=some (.ar t w ver)\/fO h id=some (.im t w ver))->(bif bm t==sz then(rF w.l (lo.getD 0) (hi.getD m)).bind fun y=>q (.sb id ver (lo.getD 0).toNat t (w.to y))else none)=some z->
   ∃v c c',y=.c c/\q v=some z/\eX false sz c lo hi=some c'/\eW h v (.c c')/\eA n h v:=by
  rintro id t w ver rfl ho hz;obtain⟨h2,hz2⟩:=aK hz;obtain rfl:bm t=sz:=by simpa using h2
  obtain⟨r,hr',hz3⟩:=oZ hz2;have e:=pH hx (ki ho);have hm':m=w.l.length:=by simp only[DL,ry]at hm;rcases ho with ho|ho<;>(rw[ho]at hm;exact(aa hm).symm)
  subst hm';refine⟨_,_,v7 id (lo.getD 0).toNat t (w.to r),e,hz3,?_,?_,hk,?_⟩
  .cases w with|nil=>exact J3 hr'|mk l=>exact PZ (enc:=aM t) hr'
  .exact bM (c_ rfl ⟨_,rfl,fun _=>rfl,H8⟩)
  .intro u s' v' ho'
   have e2:KU u s'=KU t w/\v'=ver:=by
    rcases ho with ho|ho<;>rcases ho' with ho'|ho'<;>(rw[ho]at ho';simp at ho')
    all_goals
     obtain⟨rfl,e,rfl⟩:=ho';cases eq_of_heq e;exact⟨rfl,rfl⟩
   obtain⟨e2,rfl⟩:=e2;obtain⟨rfl,e2⟩:=il e2;cases e2;refine⟨ao _,fun _=>⟨rfl,?_⟩⟩;cases s' with|nil=>trivial|mk l=>obtain⟨h3,h4⟩:=OE (enc:=aM u) hr';simp only[aI]at h3;refine⟨h3,?_⟩;simpa using h4
 cases x with
 |x t v=>
  cases t with
  |sl t=>
   simp only[rE]at hz;obtain⟨h2,hz2⟩:=aK hz;obtain rfl:bm t=sz:=by simpa using h2
   obtain⟨r,hr',hz3⟩:=oZ hz2;have hm':m=v.l.length:=by simpa[DL,ry]using hm.symm
   subst hm';refine⟨_,_,_,vI hx,hz3,OC hr',bM (c_ rfl ⟨?_,rfl⟩),trivial⟩;obtain⟨_,⟨hd,_⟩,_⟩:=mO (v:=.x (.sl t) v) trivial hx;exact hd
  |_=>simp[rE]at hz
 |so id=>
  simp only[rE]at hz;split at hz
  .rename_i ho;exact gg id _ _ _ rfl (.inl ho) hz
  .rename_i ho;exact gg id _ _ _ rfl (.inr ho) hz
  .simp at hz
 |sb id ver off t v=>
  simp only[rE]at hz;obtain⟨h2,hz2⟩:=aK hz;obtain rfl:bm t=sz:=by simpa using h2
  obtain⟨r,hr',hz3⟩:=oZ hz2;have hm':m=v.l.length:=by simpa[DL,ry]using hm.symm
  subst hm';refine⟨_,_,v7 id (off+(lo.getD 0).toNat) t (v.to r),oH hx ha,hz3,?_,bM (c_ rfl ⟨_,rfl,fun _=>rfl,H8⟩),hk.1,?_⟩
  .cases v with|nil=>exact J3 hr'|mk l=>obtain⟨h3,rfl⟩:=nq.1 hr';simp only[Sl.l]at h3;simp only[v7,eX,Bool.false_eq_true,if_false,Sl.to,Sl.l,aI];rw[if_pos ⟨trivial,h3⟩];simp;omega
  .intro u s' v' ho;obtain⟨h3,h4⟩:=hk.2 u s' v' ho;refine⟨h3,fun e=>?_⟩;obtain⟨h5,h6⟩:=h4 e;refine⟨h5,?_⟩;cases s' with
   |nil=>cases v<;>first|trivial|exact h6.elim
   |mk l=>
    cases v with
    |nil=>exact h6.elim
    |mk w=>
     obtain⟨h7,h8⟩:=h6;obtain⟨h9,rfl⟩:=nq.1 hr';simp only[Sl.l]at h9;show off+(lo.getD 0).toNat+((w.drop (lo.getD 0).toNat).take _).length<=l.length/\((l.map (aM u)).drop (off+(lo.getD 0).toNat)).take ((w.drop (lo.getD 0).toNat).take _).length=((w.drop (lo.getD 0).toNat).take _).map (aM t);generalize hA:(lo.getD 0).toNat=A;generalize hB:((hi.getD (Sl.l (Sl.mk w)).length).toNat-A)=B;have hle:A+B<=w.length:=by subst hA hB;simp only[Sl.l];omega
     have hlen:((w.drop A).take B).length=B:=by simp;omega
     refine⟨by omega,?_⟩;rw[hlen,fZ,fx,<-h8,List.drop_take,dp,List.take_take];congr 1;omega
 |nl k=>
  cases k with
  |zero=>
   simp only[rE]at hz;obtain⟨r,hr',hz3⟩:=oZ hz;have hm':m=0:=by simpa[DL]using hm.symm
   subst hm';exact⟨_,_,_,rY hx,hz3,J3 (α:=Unit) (by simpa[Sl.l]using hr'),bM (c_ rfl rfl),trivial⟩
  |succ k=>simp[rE]at hz
 |_=>simp[rE]at hz
theorem E9:∀(p:nZ)(t a:Ty)(l m:Nat),pA t p=some (.ar l a)->m<l->Gq t p->Gq t (p++[.ix m])/\k_ t (p++[.ix m])=k_ t p+m*bm a:=by
 intro p;induction p with
 |nil=>
  intro t a l m h1 hm _;have e:pA t []=some t:=by cases t<;>rfl
  obtain rfl:t=.ar l a:=by rw[e]at h1;exact aa h1
  refine⟨⟨hm,by cases a<;>trivial⟩,?_⟩;simp only[bo,k_];cases a<;>simp[k_]
 |cons q p ih=>
  intro t a l m h1 hm h3;cases q with
  |fd j=>cases t with|st t=>obtain⟨b2,hb,h3⟩:=h3;simp only[pA,hb]at h1;obtain⟨q1,q2⟩:=ih b2 a l m h1 hm h3;refine⟨⟨b2,hb,q1⟩,?_⟩;simp only[aO,k_,hb,q2];exact(ct _ _ _).symm|_=>exact h3.elim
  |ix k=>cases t with|ar l' t=>obtain⟨hk,h3⟩:=h3;obtain⟨q1,q2⟩:=ih t a l m h1 hm h3;refine⟨⟨hk,q1⟩,?_⟩;simp only[aO,k_,q2];exact(ct _ _ _).symm|_=>exact h3.elim
theorem NT{id:Nat}{t u:Ty}{w:Sl (El t)}{w':Sl (El u)}{v v':Nat}(ho:fO h id=some (.ar t w v)\/fO h id=some (.im t w v))(ho':fO h id=some (.ar u w' v')\/fO h id=some (.im u w' v')):KU u w'=KU t w/\v'=v:=by
 rcases ho with ho|ho<;>rcases ho' with ho'|ho'<;>(rw[ho]at ho';simp at ho')
 all_goals
  obtain⟨rfl,e,rfl⟩:=ho';cases eq_of_heq e;exact⟨rfl,rfl⟩
theorem IH{id:Nat}{t u:Ty}{w:Sl (El t)}{w':Sl (El u)}{v v':Nat}(ho:fO h id=some (.ar t w v)\/fO h id=some (.im t w v))(ho':fO h id=some (.ar u w' v')\/fO h id=some (.im u w' v')):w'.l.length=w.l.length:=by obtain⟨e,_⟩:=NT ho ho';obtain⟨rfl,e⟩:=il e;cases e;rfl
theorem MX{c:C}{t:Ty}{id m sz:Nat}{w:Sl (El t)}{i:Int}{kd:IntKind}{cl:Call}{nx:Nat}(hc:c=jm (bm t) (aM t) id w)(hsz:bm t=sz)(hi:fD i w.l.length=some m):
  cm cl (.indexAddr none sz) [some (.c c),some (tI kd i)] h1 nx=some (.c (.ep id m 0),[],[],nx):=by
 subst hc hsz;cases w with|nil=>exact Jc hi|mk l=>exact Rv hi
theorem PX{t:Ty}{v:El t}{x:TV}(hx:eW h (.x t v) x):je t=true:=by obtain⟨_,⟨hd,_⟩,_⟩:=mO (v:=.x t v) trivial hx;exact hd
theorem RQ{n':Nat}{t:Ty}{v:El (.ar n' t)}{x:TV}(hx:eW h (.x (.ar n' t) v) x):x=.agg ((aM (.ar n' t) v).map .d):=by obtain⟨cs,⟨_,rfl⟩,h2,_⟩:=mO (v:=.x (.ar n' t) v) trivial hx;exact h2 rfl
theorem Ct{n' m:Nat}{t:Ty}(v:El (.ar n' t))(hm:m<n'):m*bm t+bm t<=(aM (.ar n' t) v).length/\((aM (.ar n' t) v).drop (m*bm t)).take (bm t)=aM t (gt v.1 m):=by have hl:v.1.length=n':=v.2;refine⟨?_,wV (bD t) v.1 m (by omega)⟩;rw[bD];show _<=n'*bm t;have:(m+1)*bm t<=n'*bm t:=Nat.mul_le_mul_right _ hm;rw[bI,Nat.one_mul]at this;exact this
theorem Je{x:V}{y:TV}{sz:Nat}{i:Int}{kd:IntKind}
  (hz:(match x with
  |.x (.sl t) v=>bif bm t==sz then(fD i v.l.length).bind fun m=>k (.pt t (gt v.l m)) s []else none
  |.so id=>(match ry s.heap (.so id)with|some ⟨t,v,_⟩=>bif bm t==sz then(fD i v.l.length).bind fun m=>k (.ep id m t []) s []else none|none=>none)
  |.sb id _ lo t v=>bif bm t==sz then(fD i v.l.length).bind fun m=>k (.ep id (lo+m) t []) s []else none
  |.sr id=>(match fO s.heap id with|some (.rw t v _)=>bif 1==sz then(fD i v.l.length).bind fun m=>k (.ep id m (.sl t) []) s []else none|_=>none)
  |_=>none)=some z)
  (hr:HR s.next h1 s.heap) (hx:eW s.heap x y) (hk:eA s.next s.heap x) (ha:gu s.heap x=true):vk h1 (.indexAddr none sz) [y,tI kd i] s k z:=by
 cases x with
 |x t v=>
  cases t with
  |sl t=>
   simp only at hz;obtain⟨h2,hz2⟩:=aK hz;obtain⟨m,hm,hz3⟩:=oZ hz2;obtain rfl:bm t=sz:=by simpa using h2
   rw[vI hx];exact .pure hr hz3 (x:=.c (.d (.pt (aM t (gt (Sl.l v) m))))) (fun _=>PI hm) (bM (c_ rfl ⟨PX (t:=.sl t) hx,rfl⟩)) trivial
  |_=>simp at hz
 |so id=>
  simp only at hz;split at hz
  .rename_i t v l hs;obtain⟨h2,hz2⟩:=aK hz;obtain⟨m,hm,hz3⟩:=oZ hz2;obtain⟨ver,ho,_⟩:=sg hs;simp only at ho;rw[pH hx (ki ho)];refine .pure hr hz3 (x:=.c (.ep id m 0)) (fun _=>MX rfl (by simpa using h2) hm) (bM (c_ rfl (by cases t<;>rfl))) ⟨hk,by cases t<;>trivial,fun u w' v' ho'=>?_,fun u w' v' ho'=>?_⟩
   .have:=(gV.1 hm).2;rw[IH ho ho'];exact this
   .rcases ho with ho|ho<;>rw[ho]at ho'<;>cases ho'
  .simp at hz
 |sr id=>
  simp only at hz;split at hz
  .rename_i t v ln ho;obtain⟨h2,hz2⟩:=aK hz;obtain⟨m,hm,hz3⟩:=oZ hz2;rw[zj hx (qy ho)];refine .pure hr hz3 (x:=.c (.ep id m 0)) (fun _=>MX (t:=.sl t) rfl (Eq.trans (rfl:bm (.sl t)=1) (beq_iff_eq.1 h2)) hm) (bM (c_ rfl rfl)) ⟨hk,trivial,fun u w' v' ho'=>?_,fun u w' v' ho'=>?_⟩
   .rw [ho]at ho';rcases ho' with ho'|ho'<;>cases ho'
   .rw [ho]at ho';cases ho';exact(gV.1 hm).2
  .simp at hz
 |sb id ver lo t v=>
  simp only at hz;obtain⟨h2,hz2⟩:=aK hz;obtain⟨m,hm,hz3⟩:=oZ hz2;obtain rfl:bm t=sz:=by simpa using h2
  rw[oH hx ha];have hm2:=(gV.1 hm).2;cases v with
  |nil=>exact Jc hm
  |mk w=>refine .pure hr hz3 (x:=.c (.ep id (lo+m) 0)) (fun _=>PJ (l:=w) hm) (bM (c_ rfl (by cases t<;>rfl))) ⟨hk.1,by cases t<;>trivial,fun u w' v' ho'=>?_,fun u w' v' ho'=>by obtain⟨u0,s0,ho⟩:=j9 (h:=s.heap) (id:=id) (ver:=ver) (cJ.1 ha).2;rcases ho with ho|ho<;>rw[ho]at ho'<;>cases ho'⟩;obtain⟨u0,s0,ho⟩:=j9 (h:=s.heap) (id:=id) (ver:=ver) (cJ.1 ha).2;obtain⟨_,h4⟩:=hk.2 u0 s0 ver ho;obtain⟨_,h6⟩:=h4 rfl;rw[IH ho ho'];cases s0 with|nil=>exact h6.elim|mk l=>have:=h6.1;simp only[Sl.l]at hm2|-;omega
 |_=>simp at hz
theorem Jd{x:V}{y:TV}{n0 sz:Nat}{i:Int}{kd:IntKind}
  (hz:(match x with
  |.op id t p=>(match pA t p with|some (.ar n' u)=>bif(n'==n0)&&(bm u==sz)then(fD i n0).bind fun m=>k (.op id t (p++[.ix m])) s []else none|_=>none)
  |.ep id q t p=>(match pA t p with|some (.ar n' u)=>bif(n'==n0)&&(bm u==sz)then(fD i n0).bind fun m=>k (.ep id q t (p++[.ix m])) s []else none|_=>none)
  |.pt (.ar n' u) v=>bif(n'==n0)&&(bm u==sz)then(fD i n0).bind fun m=>k (.pt u (gt v.1 m)) s []else none
  |_=>none)=some z)
  (hr:HR s.next h1 s.heap) (hx:eW s.heap x y) (hk:eA s.next s.heap x):vk h1 (.indexAddr (some n0) sz) [y,tI kd i] s k z:=by
 cases x with
 |op id t p=>
  simp only at hz;split at hz
  .rename_i n' u hu;obtain⟨h2,hz2⟩:=aK hz;obtain⟨m,hm,hz3⟩:=oZ hz2;simp only[af,beq_iff_eq]at h2;obtain⟨rfl,rfl⟩:=h2;obtain⟨rfl,hm2⟩:=gV.1 hm;obtain⟨q1,q2⟩:=E9 p t u n' m hu hm2 hk.2;rw[tQ hx];refine .pure hr hz3 (x:=.c (.op id (k_ t p+m*bm u))) (fun _=>?_) (bM (c_ rfl ?_)) ⟨hk.1,q1⟩
   .simp only[kD,cm,b_,gN];rw[if_pos ⟨by omega,by omega⟩];simp
   .show [_]=[_];rw[q2]
  .simp at hz
 |ep id q t p=>
  simp only at hz;split at hz
  .rename_i n' u hu;obtain⟨h2,hz2⟩:=aK hz;obtain⟨m,hm,hz3⟩:=oZ hz2;simp only[af,beq_iff_eq]at h2;obtain⟨rfl,rfl⟩:=h2;obtain⟨rfl,hm2⟩:=gV.1 hm;obtain⟨q1,q2⟩:=E9 p t u n' m hu hm2 hk.2.1;rw[qu hx];refine .pure hr hz3 (x:=.c (.ep id q (k_ t p+m*bm u))) (fun _=>?_) (bM (c_ rfl ?_)) ⟨hk.1,q1,hk.2.2⟩
   .simp only[kD,cm,b_,gN];rw[if_pos ⟨by omega,by omega⟩];simp
   .show [_]=[_];rw[q2]
  .simp at hz
 |pt t v=>cases t with|ar n' u=>simp only at hz;obtain⟨h2,hz2⟩:=aK hz;obtain⟨m,hm,hz3⟩:=oZ hz2;simp only[af,beq_iff_eq]at h2;obtain⟨rfl,rfl⟩:=h2;obtain⟨rfl,hm2⟩:=gV.1 hm;obtain⟨hd,rfl⟩:=vJ hx;obtain⟨a1,a2⟩:=Ct v hm2;refine .pure hr hz3 (x:=.c (.d (.pt (aM u (gt v.1 m))))) (fun _=>?_) (bM (c_ rfl ⟨hd,rfl⟩)) trivial;simp only[kD,cm,b_,gN];rw[if_pos ⟨by omega,by omega⟩];simp only[iv];rw[if_pos a1,a2]|_=>simp at hz
 |_=>simp at hz
end
section
variable{h:H2}{n:Nat}{h1:bz}{β:Type}{s:S2}{k:V->S2->List Nat->Option β}{z:β}
theorem Aj{t u:Ty}{m:Sl (El t)}{m':Sl (El u)}(hc:fk (.sl t) (.sl u) m=some m'):t=u/\m'.l.map (aM u)=m.l.map (aM t):=by obtain⟨e,rfl⟩:=cR hc;cases e;exact⟨rfl,rfl⟩
theorem NB{c:C}{t:Ty}{id sz:Nat}{w:Sl (El t)}{ver:Nat}(hr:HR n h1 h)(hc:c=jm (bm t) (aM t) id w)(hsz:bm t=sz)(ho:fO h id=some (.ar t w ver)\/fO h id=some (.im t w ver)):
  ∃aw,ic sz h1 c=some (w.l.map (aM t),aw)/\∀i∈aw,i=id:=by
 subst hc hsz;cases w with
 |nil=>exact⟨[],rfl,fun i hi=>by simp at hi⟩
 |mk l=>
  refine⟨[id],?_,fun i hi=>by simpa using hi⟩;rcases ho with ho|ho
  .have hb:=(hr.ob id _ ho).2.1.2.2 l rfl;simp only[jm,ic,hb];rw[if_pos ⟨trivial,by simp⟩,rm];rfl
  .have hb:=(hr.ob id _ ho).2.1.2.2 l rfl;simp only[jm,ic,hb];rw[if_pos ⟨trivial,by simp⟩,rm];rfl
theorem Ln{id lo ver sz:Nat}{t:Ty}{r:Sl (El t)}(hr:HR n h1 h)(hk:eA n h (.sb id ver lo t r))(ha:gu h (.sb id ver lo t r)=true)(hsz:bm t=sz):
  ∃aw,ic sz h1 (v7 id lo t r)=some (r.l.map (aM t),aw)/\∀i∈aw,i=id:=by
 subst hsz;obtain⟨u,s0,ho⟩:=j9 (h:=h) (id:=id) (ver:=ver) (cJ.1 ha).2;obtain⟨_,h4⟩:=hk.2 u s0 ver ho;obtain⟨h5,h6⟩:=h4 rfl;cases r with
 |nil=>exact⟨[],rfl,fun i hi=>by simp at hi⟩
 |mk w=>
  cases s0 with
  |nil=>exact h6.elim
  |mk l=>
   refine⟨[id],?_,fun i hi=>by simpa using hi⟩
   have hb:av h1 id=some (.aJ (bm u) (l.map (aM u)))\/av h1 id=some (.nL (bm u) (l.map (aM u))):=by
    rcases ho with ho|ho
    .exact .inl ((hr.ob id _ ho).2.1.2.2 l rfl)
    .exact .inr ((hr.ob id _ ho).2.1.2.2 l rfl)
   rcases hb with hb|hb
   .simp only[v7,ic,hb];rw[if_pos ⟨trivial,by simpa using h6.1⟩];rw[aI,h6.2];rfl
   .simp only[v7,ic,hb];rw[if_pos ⟨trivial,by simpa using h6.1⟩];rw[aI,h6.2];rfl
theorem EO{x:V}{y:TV}{t0 t:Ty}{m:Sl (El t)}{l:List Nat}{sz:Nat}(hr:HR n h1 h)(hx:eW h x y)(hk:eA n h x)(ha:gu h x=true)(hs:H4 t0 h x=some ⟨t,m,l⟩)(hsz:bm t=sz):
  ∃c aw,y=.c c/\ic sz h1 c=some (m.l.map (aM t),aw)/\∀i∈aw,i∈l:=by
 cases x with
 |nl j=>cases j with|zero=>simp only[H4]at hs;obtain⟨rfl,e⟩:=il (aa hs);obtain⟨rfl,rfl⟩:=ad (eq_of_heq e);exact⟨_,[],rY hx,rfl,fun i hi=>by simp at hi⟩|succ j=>simp[H4,ry]at hs
 |x u v=>cases u with|sl u=>simp only[H4,ry]at hs;obtain⟨rfl,e⟩:=il (aa hs);obtain⟨rfl,rfl⟩:=ad (eq_of_heq e);subst hsz;exact⟨_,[],vI hx,Lm,fun i hi=>by simp at hi⟩|_=>simp[H4,ry]at hs
 |so id=>obtain⟨ver,ho,e⟩:=sg (h:=h) (id:=id) hs;obtain rfl:l=[id]:=e;obtain⟨aw,q1,q2⟩:=NB hr rfl hsz ho;exact⟨_,aw,pH hx (ki ho),q1,fun i hi=>by simpa using q2 i hi⟩
 |sb id ver lo u r=>simp only[H4,ry]at hs;obtain⟨rfl,e⟩:=il (aa hs);obtain⟨rfl,rfl⟩:=ad (eq_of_heq e);obtain⟨aw,q1,q2⟩:=Ln hr hk ha hsz;exact⟨_,aw,oH hx ha,q1,fun i hi=>by simpa using q2 i hi⟩
 |_=>simp[H4,ry]at hs
def rL(s:S2):Option Nat->S2
 |none=>s
 |some id=>cX s id none
theorem Ap{j5:Option Nat}{t:Ty}{w:Sl (El t)}{u:eG}{aw l:List Nat}{m:Nat}(hr:HR s.next h1 s.heap)(hkl:∀id,j5=some id->id<s.next)(hd:xE t=true)(hu:∀p∈u,p.1=s.next\/j5=some p.1)(hl:∀i∈aw,i∈l)(hm:m<=s.next+1)
  (hb:∀l,w=.mk l->av (u++h1) s.next=some (.aJ (bm t) (l.map (aM t)))) {x:TV} (hx:x=.c (jm (bm t) (aM t) s.next w)):oX s (fJ (rL s j5) (.ar t w 0)) h1 x u aw m (.so s.next) l:=by
 have hnx:(rL s j5).next=s.next:=by cases j5<;>rfl
 have hh:(fJ (rL s j5) (.ar t w 0)).heap=(s.next,some (.ar t w 0))::(rL s j5).heap:=by simp only[fJ,hnx]
 have hfo:∀i,fO (fJ (rL s j5) (.ar t w 0)).heap i=if s.next=i then some (.ar t w 0)else if j5=some i then none else fO s.heap i:=by intro i;rw[hh,cB];cases j5 with|none=>simp[rL]|some id=>simp only[rL,cX,cB,bl]
 have hnn:(fJ (rL s j5) (.ar t w 0)).next=s.next+1:=by simp only[fJ,hnx]
 refine oX.BX (s.next::j5.toList) hr ⟨fun i o' hi ho=>?_⟩ ?_ ?_ ?_ ?_ hl ?_ ?_ ?_ ?_ ?_ ?_ (fun i hi h=>by rw[hfo,if_neg (by omega)];split<;>first|rfl|exact h)
 .rw [hfo,if_neg (by omega)]at ho;split at ho
  .simp at ho
  .exact .inl ⟨o',ho,qp.refl _⟩
 .cases j5<;>rfl
 .cases j5<;>rfl
 .rw [hnn];exact hm
 .rw [hnn];omega
 .cases j5<;>simp[fJ,rL,cX]
 .intro p hp;rcases hu p hp with e|e
  .simp [e]
  .simp [e]
 .intro i hi;rw[hfo,if_neg (fun e=>hi (by simp[e])),if_neg (fun e=>hi (by simp[e]))]
 .intro i hi o ho;rw[hfo]at ho;split at ho
  .rename_i e;subst e;obtain rfl:=aa ho;obtain⟨h3,h4⟩:=mh hd;exact⟨by rw[hnn];omega,⟨h3,h4,hb⟩,trivial⟩
  .rename_i e;split at ho
   .simp at ho
   .rename_i e2;rcases aF.1 hi with hi|hi
    .exact absurd hi.symm e
    .exact absurd (by simpa using hi) e2
 .rw [hx,hh,show s.next=s.next from rfl];exact uc
 .rw [hnn];exact aT _
theorem GY{sz:Nat}{c:C}{new:List (List D)}{aw:List Nat}(hx:ic sz h1 c=some (new,aw))(hl:new.length<=2147483648){nx:Nat}{cl:Call}:
  cm cl (.append sz) [some (.c (.d (.lit (.slice none 0 0)))),some (.c c)] h1 nx=if new=[]then some (.c (.d (.lit (.slice none 0 0))),[],aw,nx)else some (.c (.dz sz nx 0 new.length),[(nx,some (.aJ sz new))],aw,nx+1):=by
 simp only[cm,mA,hx];rw[if_pos (by simpa[xF]using hl)];cases new<;>simp
theorem tE{j5:Option Nat}{t:Ty}{xs r:List (El t)}{sz:Nat}{c:C}{aw l:List Nat}(hr:HR s.next h1 s.heap)(hkl:∀id,j5=some id->id<s.next)(hd:xE t=true)(hsz:bm t=sz)(hx:ic sz h1 c=some (xs.map (aM t),aw))(hc:jT ([]++xs)=some r)
  (hl:∀i∈aw,i∈l) (hz:k (.so s.next) (fJ (rL s j5) (.ar t (uC Sl.nil xs r) 0)) l=some z):vk h1 (.append sz) [.c (.d (.lit (.slice none 0 0))),.c c] s k z:=by
 subst hsz;obtain⟨rfl,hlen⟩:=ru.1 hc;refine⟨_,_,_,hz,fun cl=>?_⟩;simp only[aq,aS];rw[GY hx (by simpa using hlen)];cases xs with|nil=>exact⟨_,_,_,_,rfl,Ap hr hkl hd (fun p hp=>by simp at hp) hl (bk _) (fun l e=>by cases e) rfl⟩|cons y ys=>refine⟨_,_,_,_,if_neg (by simp),Ap hr hkl hd (fun p hp=>by simp at hp;simp[hp]) hl (ao _) (fun l e=>?_) rfl⟩;simp only[uC,bo]at e;cases e;rw[aU,bZ,if_pos rfl]
theorem Fx{t:Ty}{w xs r:List (El t)}{sz id off:Nat}{aj:List (List D)}{c:C}{aw l:List Nat}(hr:HR s.next h1 s.heap)(hid:id<s.next)(hd:xE t=true)(hsz:bm t=sz)(hl1:av h1 id=some (.aJ sz aj))(hle:off+w.length<=aj.length)(hro:aj.length<=off+(w.length+xs.length))(he:(aj.drop off).take w.length=w.map (aM t))
  (hx:ic sz h1 c=some (xs.map (aM t),aw)) (hc:jT (w++xs)=some r) (hl:∀i∈id::aw,i∈l) (hz:k (.so s.next) (fJ (cX s id none) (.ar t (uC (.mk w) xs r) 0)) l=some z):
  vk h1 (.append sz) [.c (.dz sz id off (w.map (aM t)).length),.c c] s k z:=by
 subst hsz;obtain⟨rfl,hlen⟩:=ru.1 hc;have ea:uC (.mk w) xs (w++xs)=.mk (w++xs):=by cases xs<;>rfl
 rw[ea]at hz;refine⟨_,_,_,hz,fun cl=>⟨.c (.dz (bm t) s.next 0 ((w++xs).map (aM t)).length),[(id,none),(s.next,some (.aJ (bm t) ((w++xs).map (aM t))))],id::aw,s.next+1,?_,?_⟩⟩
 .simp only[aq,aS,cm,mA,hx,hl1];simp only[aI,aG]at hlen|-;rw[if_pos ⟨trivial,by omega,by simpa[xF]using hlen⟩,he,<-fH,List.drop_eq_nil_of_le (by omega),List.append_nil]
 .refine Ap (j5:=some id) hr (fun i e=>by cases e;exact hid) hd (fun p hp=>?_) hl (ao _) (fun l e=>?_) rfl
  .simp only[aF,cV,or_false]at hp;rcases hp with rfl|rfl<;>simp
  .cases e;rw[aO,bZ,if_neg (by omega),aU,bZ,if_pos rfl]
theorem Cv{a x:V}{ya yx:TV}{t0:Ty}{sz:Nat}
  (hz:(match H4 t0 s.heap x with
  |some ⟨t,m,aw⟩=>bif(bm t==sz)&&xE t then(match a with
   |.nl 0=>(jT ([]++m.l)).bind fun r=>k (.so s.next) (fJ s (.ar t (uC Sl.nil m.l r) 0)) aw
   |.x (.sl _) v=>bif Sl.eC v then((jT ([]++m.l)).bind fun r=>k (.so s.next) (fJ s (.ar t (uC Sl.nil m.l r) 0)) aw)else none
   |.so id=>(match fO s.heap id with
    |some (.ar u v _)=>(match fk (.sl t) (.sl u) m with
     |some m=>(jT (v.l++m.l)).bind fun r=>k (.so s.next) (fJ (cX s id none) (.ar u (uC v m.l r) 0)) (id::aw)
     |none=>none)
    |_=>none)
   |.sb id _ lo u v=>(match fO s.heap id,fk (.sl t) (.sl u) m with
    |some (.ar _ s0 _),some m=>bif Nat.ble s0.l.length (lo+(v.l.length+m.l.length))then((jT (v.l++m.l)).bind fun r=>k (.so s.next) (fJ (cX s id none) (.ar u (uC v m.l r) 0)) (id::aw))else none
    |_,_=>none)
   |_=>none)else none
  |none=>none)=some z)
  (hr:HR s.next h1 s.heap) (ha1:eW s.heap a ya) (ha2:eA s.next s.heap a) (ha3:gu s.heap a=true) (hx:eW s.heap x yx) (hk:eA s.next s.heap x) (ha:gu s.heap x=true):vk h1 (.append sz) [ya,yx] s k z:=by
 split at hz
 .rename_i t m l hs;obtain⟨h2,hz2⟩:=aK hz;simp only[af,beq_iff_eq]at h2;obtain⟨hsz,hd⟩:=h2;obtain⟨c,aw,rfl,q1,q2⟩:=EO hr hx hk ha hs hsz;clear hz;cases a with
  |nl j=>cases j with|zero=>obtain⟨r,hc,hz3⟩:=oZ hz2;rw[rY ha1];exact tE (j5:=none) hr (fun _ e=>by cases e) hd hsz q1 hc q2 hz3|succ j=>simp at hz2
  |x u v=>
   cases u with
   |sl u=>obtain⟨hnil,hz3⟩:=aK hz2;obtain⟨r,hc,hz4⟩:=oZ hz3;cases v with|mk=>cases hnil|nil=>obtain⟨cc,rfl,hcc⟩:=gY (v:=.x (.sl u) Sl.nil) ha1 rfl;obtain rfl:cc=yD 0:=(bW hcc.2).1;exact tE (j5:=none) hr (fun _ e=>by cases e) hd hsz q1 hc q2 hz4
   |_=>simp at hz2
  |so id=>
   simp only at hz2;split at hz2
   .rename_i u v ver ho;split at hz2
    .rename_i m' hm;obtain⟨rfl,e⟩:=Aj hm;obtain⟨r,hc,hz3⟩:=oZ hz2;rw[pH ha1 (ki (.inl ho))];rw[<-e]at q1;cases v with
     |nil=>exact tE (j5:=some id) hr (fun _ e=>by cases e;exact ha2) hd hsz q1 hc (fun i hi=>aA _ (q2 i hi)) hz3
     |mk w=>
      have hb:=(hr.ob id _ ho).2.1.2.2 w rfl;subst hsz;refine Fx (w:=w) hr ha2 hd rfl hb (by simp) (by simp only[aI];omega) (by rw[<-aI (f:=aM t)];exact rm) q1 hc (fun i hi=>?_) hz3;rcases aF.1 hi with rfl|hi
      .exact cE ..
      .exact aA _ (q2 i hi)
    .simp at hz2
   .simp at hz2
  |sb id ver lo u v=>
   simp only at hz2;split at hz2
   .rename_i u0 s0 v0 m' ho hm;obtain⟨rfl,e⟩:=Aj hm;obtain⟨hgd,hz2b⟩:=aK hz2;obtain⟨r,hc,hz3⟩:=oZ hz2b;rw[oH ha1 ha3];rw[<-e]at q1;cases v with
    |nil=>exact tE (j5:=some id) hr (fun _ e=>by cases e;exact ha2.1) hd hsz q1 hc (fun i hi=>aA _ (q2 i hi)) hz3
    |mk w=>
     obtain⟨u1,s1,ho1⟩:=j9 (h:=s.heap) (id:=id) (ver:=ver) (cJ.1 ha3).2;obtain⟨_,h4⟩:=ha2.2 u1 s1 ver ho1;obtain⟨h5,h6⟩:=h4 rfl
     have ho2:fO s.heap id=some (.ar u1 s1 ver):=by
      rcases ho1 with ho1|ho1
      .exact ho1
      .rw [ho]at ho1;simp at ho1
     cases s1 with
     |nil=>exact h6.elim
     |mk l1=>
      have hb:=(hr.ob id _ ho2).2.1.2.2 l1 rfl;subst hsz;rw[h5]at hb
      refine Fx (w:=w) hr ha2.1 hd rfl hb (by simpa using h6.1) (by
       rw[ho2]at ho;obtain⟨rfl,e2,_⟩:u1=u0/\_:=by simpa using ho
       cases eq_of_heq e2;have:=g_ hgd;simpa[Sl.l]using this) h6.2 q1 hc (fun i hi=>?_) hz3
      rcases aF.1 hi with rfl|hi
      .exact cE ..
      .exact aA _ (q2 i hi)
   .simp at hz2
  |_=>simp at hz2
 .simp at hz
end
section
variable{h:H2}{n:Nat}{h1:bz}{β:Type}{s:S2}{k:V->S2->List Nat->Option β}{z:β}
theorem EB{id:Nat}{o o':O}{u:eG}{x:TV}{v:V}{aw l:List Nat}(hr:HR s.next h1 s.heap)(ho:fO s.heap id=some o)(hs:qp o o')(hu:∀p∈u,p.1=id)(hb:sX ((id,some o')::s.heap) o' (av (u++h1) id))(hko:Az s.next ((id,some o')::s.heap) o')
  (hx:eW ((id,some o')::s.heap) v x) (hk:eA s.next ((id,some o')::s.heap) v) (hl:∀i∈aw,i∈l):oX s (cX s id (some o')) h1 x u aw s.next v l:=by
 refine oX.BX [id] hr (ik.AH ho hs) rfl rfl (ao _) (ao _) hl rfl (fun p hp=>by simp[hu p hp]) (fun i hi=>?_) (fun i hi o2 ho2=>?_) hx hk (fun i _ h=>by simp only[cX];rw[cB,if_neg (fun e=>by rw[e,h]at ho;cases ho)];exact h)
 .simp only[cX];rw[cB,if_neg fun e=>hi (by simp[e])]
 .obtain rfl:=am.1 hi;simp only[cX,rl]at ho2;obtain rfl:=aa ho2;exact⟨(hr.ob _ _ ho).1,hb,hko⟩
theorem qc{id ver:Nat}{t:Ty}{w w':Sl (El t)}{u:eG}{x:TV}{v:V}{aw l:List Nat}(hr:HR s.next h1 s.heap)(ho:fO s.heap id=some (.ar t w ver))(hn:w.eC=w'.eC)(hlen:w.l.length=w'.l.length)(hu:∀p∈u,p.1=id)
  (hb:∀l,w'=.mk l->av (u++h1) id=some (.aJ (bm t) (l.map (aM t)))) (hx:∀g,eW g v x) (hk:∀n g,eA n g v) (hl:∀i∈aw,i∈l):oX s (cX s id (some (.ar t w' (ver+1)))) h1 x u aw s.next v l:=by
 obtain⟨h2,h3,_⟩:=(hr.ob id _ ho).2.1;exact EB hr ho ⟨bk _,rfl,hn,hlen,fun e=>by omega⟩ hu ⟨h2,h3,hb⟩ trivial (hx _) (hk _ _) hl
theorem Ha{a x:V}{ya yx:TV}{t0:Ty}{sz:Nat}
  (hz:(match H4 t0 s.heap x with
  |some ⟨t,m,aw⟩=>bif bm t==sz then(match a with
   |.nl 0=>k (.x (.i .i64) (0:Int)) s aw
   |.so id=>(match fO s.heap id with
    |some (.ar u v ver)=>(match fk (.sl t) (.sl u) m with
     |some m=>k (.x (.i .i64) ((min m.l.length v.l.length:Nat):Int)) (cX s id (some (.ar u (v.to (J9 v.l 0 v.l.length m.l)) (ver+1)))) (id::aw)
     |none=>none)
    |_=>none)
   |.sb id ver lo _ v=>(match fO s.heap id with
    |some (.ar u w ver')=>(match fk (.sl t) (.sl u) m with
     |some m=>bif ver'==ver then k (.x (.i .i64) ((min m.l.length v.l.length:Nat):Int)) (cX s id (some (.ar u (w.to (J9 w.l lo v.l.length m.l)) (ver+1)))) (id::aw)else none
     |none=>none)
    |_=>none)
   |_=>none)else none
  |none=>none)=some z)
  (hr:HR s.next h1 s.heap) (ha1:eW s.heap a ya) (ha2:eA s.next s.heap a) (ha3:gu s.heap a=true) (hx:eW s.heap x yx) (hk:eA s.next s.heap x) (ha:gu s.heap x=true):vk h1 (.copy sz) [ya,yx] s k z:=by
 have hmem:∀{id:Nat}{aw l:List Nat},(∀i∈aw,i∈l)->∀i∈id::aw,i∈id::l:=fun q i hi=>by
  rcases aF.1 hi with rfl|hi
  .exact cE ..
  .exact aA _ (q i hi)
 split at hz
 .rename_i t m l hs;obtain⟨h2,hz2⟩:=aK hz;obtain rfl:bm t=sz:=by simpa using h2
  obtain⟨c,aw,rfl,q1,q2⟩:=EO hr hx hk ha hs rfl;clear hz;cases a with
  |nl j=>cases j with|zero=>rw[rY ha1];exact⟨_,_,_,hz2,fun cl=>⟨tI .i64 0,[],aw,s.next,by simp only[aq,aS,cm,kK,yD,q1];rfl,oX.pure hr (xi _ _) trivial q2⟩⟩|succ j=>simp at hz2
  |so id=>
   simp only at hz2;split at hz2
   .rename_i u v ver ho;split at hz2
    .rename_i m' hm;obtain⟨rfl,e⟩:=Aj hm;rw[pH ha1 (ki (.inl ho))];rw[<-e]at q1;cases v with
     |nil=>refine⟨_,_,_,hz2,fun cl=>⟨tI .i64 0,[],aw,s.next,by simp only[aq,aS,cm,kK,jm,q1];rfl,?_⟩⟩;exact qc hr ho rfl rfl (fun p hp=>by simp at hp) (fun l e=>by cases e) (fun g=>by simpa[Sl.l]using xi .i64 0) (fun _ _=>trivial) fun i hi=>aA _ (q2 i hi)
     |mk w=>
      have hb:=(hr.ob id _ ho).2.1.2.2 w rfl;refine⟨_,_,_,hz2,fun cl=>⟨_,_,_,_,OF hb q1,?_⟩⟩;refine qc hr ho rfl ?_ (fun p hp=>by simp at hp;simp[hp]) (fun l e=>?_) (fun g=>xi _ _) (fun _ _=>trivial) (hmem q2)
      .simp only[Sl.to,Sl.l];rw[sB (by omega)]
      .simp only[Sl.to,Sl.l]at e;cases e;rw[aU,bZ,if_pos rfl];rfl
    .simp at hz2
   .simp at hz2
  |sb id ver lo u0 v=>
   simp only at hz2;split at hz2
   .rename_i u w ver' ho;split at hz2
    .rename_i m' hm;obtain⟨rfl,e⟩:=Aj hm;obtain⟨h3,hz3⟩:=aK hz2;obtain rfl:ver'=ver:=by simpa using h3
     rw[oH ha1 ha3];rw[<-e]at q1;obtain⟨_,h4⟩:=ha2.2 t w ver' (.inl ho);obtain⟨h5,h6⟩:=h4 rfl;cases v with
     |nil=>cases w with|mk w=>exact h6.elim|nil=>refine⟨_,_,_,hz3,fun cl=>⟨tI .i64 0,[],aw,s.next,by simp only[aq,aS,cm,kK,v7,q1];rfl,?_⟩⟩;exact qc hr ho rfl rfl (fun p hp=>by simp at hp) (fun l e=>by cases e) (fun g=>by simpa[Sl.l]using xi .i64 0) (fun _ _=>trivial) fun i hi=>aA _ (q2 i hi)
     |mk v=>
      cases w with
      |nil=>exact h6.elim
      |mk w=>
       have hb:=(hr.ob id _ ho).2.1.2.2 w rfl;refine⟨_,_,_,hz3,fun cl=>⟨tI .i64 (min m'.l.length v.length:Nat),[(id,some (.aJ (bm t) ((J9 w lo v.length m'.l).map (aM t))))],id::aw,s.next,?_,?_⟩⟩
       .simp only[aq,aS,cm,kK,v7,q1,hb,<-h5];rw[if_pos ⟨trivial,by simpa using h6.1⟩];simp only[D7,aI];rfl
       .refine qc hr ho rfl ?_ (fun p hp=>by simp at hp;simp[hp]) (fun l e=>?_) (fun g=>xi _ _) (fun _ _=>trivial) (hmem q2)
        .simp only[Sl.to,Sl.l];rw[sB h6.1]
        .simp only[Sl.to,Sl.l]at e;cases e;rw[aU,bZ,if_pos rfl];rfl
    .simp at hz2
   .simp at hz2
  |_=>simp at hz2
 .simp at hz
theorem AL{g:H2}:eW g (.tp .ni) (.gR []):=⟨[],rfl,rfl⟩
theorem Eb{a:V}{ya:TV}{zz:List Value}
  (hz:(match a with
  |.sb id ver lo _ v=>(match fO s.heap id with
   |some (.ar u w ver')=>bif(ver'==ver)&&rx (lJ u) zz&&xE u then(Mo w lo v.l.length (qt u)).bind fun w=>k (.tp .ni) (cX s id (some (.ar u w (ver+1)))) [id]else none
   |_=>none)
  |_=>none)=some z)
  (hr:HR s.next h1 s.heap) (ha1:eW s.heap a ya) (ha2:eA s.next s.heap a) (ha3:gu s.heap a=true):vk h1 (.clear zz) [ya] s k z:=by
 cases a with
 |sb id ver lo u0 v=>
  simp only at hz;split at hz
  .rename_i u w ver' ho;obtain⟨h3,hz2⟩:=aK hz;simp only[af,beq_iff_eq]at h3;obtain⟨⟨rfl,q1⟩,q2⟩:=h3;have q1:=pD q1;subst q1;obtain⟨hd,_⟩:=mh q2;obtain⟨w',hw,hz3⟩:=oZ hz2;rw[oH ha1 ha3];obtain⟨_,h4⟩:=ha2.2 u w ver' (.inl ho);obtain⟨h5,h6⟩:=h4 rfl;have hzl:ce (lJ u)=aM u (qt u):=(pC u hd).symm;have hlen:bm u=(lJ u).length:=by have:=congrArg kY hzl;rw[bD,ce,aI]at this;exact this.symm
   cases w with
   |nil=>simp[Mo]at hw
   |mk w=>
    cases v with
    |nil=>exact h6.elim
    |mk v=>
     simp only[Mo,bl]at hw;subst hw;have hb:=(hr.ob id _ ho).2.1.2.2 w rfl;refine⟨_,_,_,hz3,fun cl=>⟨.gR [],[(id,some (.aJ (bm u) ((J9 w lo v.length (az v.length (qt u))).map (aM u))))],[id],s.next,?_,?_⟩⟩
     .simp only[aq,aS,cm,nc,v7,hb,<-h5];rw[if_pos ⟨hlen,by simpa using h6.1⟩,hzl,<-D7];simp[aI,List.map_replicate,List.take_of_length_le]
     .refine qc hr ho rfl ?_ (fun p hp=>by simp at hp;simp[hp]) (fun l e=>?_) (fun g=>AL) (fun _ _=>trivial) (fun i hi=>hi)
      .simp only[Sl.l];rw[sB (by simpa using h6.1)]
      .cases e;rw[aU,bZ,if_pos rfl];rfl
  .simp at hz
 |_=>simp at hz
theorem AN{id m:Nat}{t:Ty}{p:nZ}{w:V}{ya yw:TV}(hr:HR s.next h1 s.heap)(ha1:eW s.heap (.op id t p) ya)(ha2:eA s.next s.heap (.op id t p))(hx:eW s.heap w yw)(hk:eA s.next s.heap w)
  (hz:(bif(vO w==m)then(match fO s.heap id with
  |some (.bx u c)=>bif decide (u=t)then(match pA t p with
   |some a=>(match KO a w with
    |some w=>(match mG c p w with|some c=>bif dW c false t then k (.tp .ni) (cX s id (some (.bx t c))) [id]else none|none=>none)
    |none=>none)
   |none=>none)else none
  |_=>none)else none)=some z):vk h1 (.store m) [ya,yw] s k z:=by
 obtain⟨h2,hz2⟩:=aK hz;simp only[beq_iff_eq]at h2;clear hz;split at hz2
 .rename_i u c ho;obtain⟨h3,hz3⟩:=aK hz2;simp only[decide_eq_true_eq]at h3;subst h3;clear hz2;split at hz3
  .rename_i a ha;split at hz3
   .rename_i w' hw;split at hz3
    .rename_i c' hc;obtain⟨h4,hz4⟩:=aK hz3;obtain⟨cw,e1,e2⟩:=o4 (mO (DE hw) hx);obtain⟨q1,q2,q3,q4⟩:=wA hw e1 hk;obtain⟨_,⟨cs,e3,e4,e5⟩,e6⟩:=hr.ob id _ ho;have l1:cw.length=vO w:=gy e1;have l2:cw.length=bm a:=by rw[gy q1,fQ _ _ _ q2]
     have l3:cs.length=bm u:=by rw[gy e4,fQ _ _ _ e5]
     have l4:=ub p u a ha ha2.2;have q5:=tW p c u w' c' cs cw a e5 e4 ha2.2 hc ha q1 l2;have q6:=EJ p c w' c' e6 q3 hc;rw[tQ ha1];have hos:qp (.bx u c) (.bx u c'):=rfl;refine .AH hr ho hos hz4 (fun cl=>?_) (b:=some (.box (aX cs (k_ u p) cw))) ?_ ?_ AL trivial (aw:=[id]) fun i hi=>hi
     .simp only[aq,aS,cm,kF,e2];rw[if_pos (l1.trans h2)];simp only[e3];rw[if_pos (by omega)]
     .exact ⟨_,rfl,j8 (ik.AH ho hos) q6 q5,h4⟩
     .exact fN (ao _) (ik.AH ho hos) q6
    .simp at hz3
   .simp at hz3
  .simp at hz3
 .simp at hz2
theorem oX.seq{s1 s':S2}{fu u:eG}{x:TV}{aw a l:List Nat}{m:Nat}{v:V}(dA:ik s.next s.heap s1.heap)(he:s1.db=s.db)(hg:s1.gh=s.gh)(hn:s1.next=s.next)(hwo:s1.wo=a++s.wo)(hu:∀p∈fu,p.1∈a)(hf:∀id,id∉a->fO s1.heap id=fO s.heap id)
  (hna:∀i∈a,fO s.heap i≠none) (hd:oX s1 s' (fu++h1) x u aw m v l):oX s s' h1 x (u++fu) aw m v l:=by
 obtain⟨d1,d2,d3,d4,d5,d6,d7,d8,d9,d10,W,w1,w2,w3⟩:=hd;refine⟨d1,d2,by rw[aP];exact d3,ik.trans (Nat.le_of_eq hn.symm) dA d4,d5.trans he,d6.trans hg,d7,by omega,d9,fun i hi h=>d10 i (by omega) ((hf i fun q=>hna i q h).trans h),W++a,by rw[w1,hwo,aP],fun p hp=>?_,fun i hi=>?_⟩
 .rcases ak.1 hp with hp|hp
  .exact aE _ (w2 p hp)
  .exact aC _ (hu p hp)
 .rw [w3 i fun q=>hi (aE _ q),hf i fun q=>hi (aC _ q)]
theorem Jz{v w:V}{l:List Nat}(hf:ie h v=some (w,l)):Ly v:=by cases v<;>first|trivial|(simp[ie]at hf)
theorem nG{a b:List D}(e:a.map C.d=b.map C.d):a=b:=by
 induction a generalizing b with
 |nil=>cases b with|nil=>rfl|cons y b=>simp at e
 |cons x a ih=>cases b with|nil=>simp at e|cons y b=>simp only[aq,dg,C.d.injEq]at e;rw[e.1,ih e.2]
theorem OB:∀(p:nZ)(t u:Ty),je t=true->pA t p=some u->je u=true:=by
 intro p;induction p with
 |nil=>
  intro t u hd h;have e:pA t []=some t:=by cases t<;>rfl
  rw[e]at h;exact aa h▸hd
 |cons q p ih=>
  intro t u hd h;cases q with
  |fd i=>
   cases t with
   |st t=>
    simp only[pA]at h;split at h
    .rename_i w hw;exact ih w u (xa t i w hd hw) h
    .simp at h
   |_=>simp[pA]at h
  |ix i=>cases t with|ar l t=>exact ih t u hd h|_=>simp[pA]at h
theorem EY(t:Ty):k_ t []=0:=by cases t<;>rfl
theorem C5{t:Ty}{l:List (Sl (El t))}{ln:Option (Nat×Nat)}{m:Nat}{r:Sl (El t)}(h:EI ln m=true):(di t l ln).set m (lK t r)=di t (l.set m r) none:=by cases ln with|none=>simp only[di,List.map_set]|some q=>obtain⟨m',i⟩:=q;obtain rfl:m'=m:=Nat.eq_of_beq_eq_true h;simp only[di,List.map_set,List.set_set]
theorem C6{t:Ty}{l:List (Sl (El t))}{ln:Option (Nat×Nat)}:(di t l ln).length=l.length:=by cases ln with|none=>simp[di]|some q=>obtain⟨m',i⟩:=q;simp[di]
theorem wl{id id2 m:Nat}{t:Ty}{l:List (Sl (El t))}{ln:Option (Nat×Nat)}{o2:O}{r:Sl (El t)}{u:eG}{aw:List Nat}(hr:HR s.next h1 s.heap)(ho:fO s.heap id=some (.rw t (.mk l) ln))(ho2:fO s.heap id2=some o2)(hne:id2≠id)(hlnm:EI ln m=true)
  (hu:∀p∈u,p.1=id\/p.1=id2) (hb:av (u++h1) id=some (.nst (bm t) ((di t l ln).set m (lK t r)))) (hids:∀i∈aw,i∈[id,id2]):
  oX s (cX (cX s id2 none) id (some (.rw t (.mk (l.set m r)) none))) h1 (.gR []) u aw s.next (.tp .ni) [id,id2]:=by
 have dA:ik s.next s.heap ((id,some (.rw t (.mk (l.set m r)) none))::(id2,none)::s.heap):=by refine ik.trans (ao _) (ik.j5 id2) (ik.AH (o:=.rw t (.mk l) ln) ?_ ⟨rfl,rfl,by simp[Sl.l]⟩);rw[cB,if_neg hne];exact ho
 refine oX.BX [id,id2] hr dA rfl rfl (ao _) (ao _) hids rfl (fun p hp=>?_) (fun i hi=>?_) (fun i hi o ho'=>?_) AL trivial (fun i _ h=>?_)
 .rcases hu p hp with e|e<;>simp[e]
 .simp only[aF,cV,or_false,not_or]at hi;simp only[cX];rw[cB,if_neg (fun e=>hi.1 e.symm),cB,if_neg (fun e=>hi.2 e.symm)]
 .simp only[cX]at ho';by_cases hi1:id=i
  .subst hi1;rw[cB,if_pos rfl]at ho';obtain rfl:=aa ho';obtain⟨a,⟨d1,d2,_⟩,_⟩:=hr.ob _ _ ho;exact⟨a,⟨d1,d2,fun l' e=>by cases e;rw[hb,C5 hlnm]⟩,trivial⟩
  .rw [cB,if_neg hi1]at ho';simp only[aF,cV,or_false]at hi;rcases hi with rfl|rfl
   .exact absurd rfl hi1
   .rw [cB,if_pos rfl]at ho';cases ho'
 .simp only[cX];rw[cB,if_neg (fun e=>by subst e;rw[ho]at h;cases h),cB,if_neg (fun e=>by subst e;rw[ho2]at h;cases h)];exact h
theorem oX.nx{s s':S2}{x:TV}{u:eG}{aw l:List Nat}{m q:Nat}{v:V}(d:oX s s' h1 x u aw m v l)(hq:q<=s'.next):oX s s' h1 x u aw q v l:=⟨d.val,d.R0,d.hr,d.dA,d.db,d.gh,hq,d.le,d.aw,d.nb,d.wo⟩
theorem AO{id m q:Nat}{t:Ty}{p:nZ}{w:V}{ya yw:TV}(hr:HR s.next h1 s.heap)(ha1:eW s.heap (.ep id m t p) ya)(ha2:eA s.next s.heap (.ep id m t p))(hx:eW s.heap w yw)(hk:eA s.next s.heap w)(ha:gu s.heap w=true)
  (hz:(bif(vO w==q)then CX id m t p w s (fun s l=>k (.tp .ni) s l)else none)=some z):vk h1 (.store q) [ya,yw] s k z:=by
 obtain⟨h2,hz2⟩:=aK hz;simp only[beq_iff_eq]at h2;clear hz;unfold CX at hz2;split at hz2
 .rename_i u v ln ho;split at hz2
  .rename_i id2;split at hz2
   .rename_i u2 r ver ho2;split at hz2
    .rename_i r' hr';obtain⟨h3,hz3⟩:=aK hz2;simp only[af,decide_eq_true_eq,eF,beq_eq_false_iff_ne]at h3;obtain⟨⟨rfl,hne⟩,hln⟩:=h3;obtain⟨e,e2⟩:=cR hr';cases e;obtain rfl:r'=r:=e2;have hlen:=ha2.2.2.2 _ _ _ ho;obtain⟨_,⟨d1,d2,d3⟩,_⟩:=hr.ob id _ ho;obtain⟨_,⟨_,_,c3⟩,_⟩:=hr.ob id2 _ ho2;cases v with
     |nil=>simp[Sl.l]at hlen
     |mk l=>
      have d3:=d3 l rfl;have h2':q=1:=h2.symm;subst h2';rw[qu ha1,pH hx (ki (.inl ho2)),EY];have hl2:m<(di u l ln).length:=by rw[C6];exact hlen
      cases r' with
      |nil=>
       refine⟨_,_,_,hz3,fun cl=>⟨.gR [],[(id,some (.nst (bm u) ((di u l ln).set m .nil)))],[id],s.next,?_,?_⟩⟩
       .simp only[aq,aS,cm,kF,jm,cellsOf,d3];rw[if_pos (show([_]:List C).length=1 from rfl)];rw[if_pos ⟨trivial,trivial,hl2⟩];simp only[p_]
       .exact wl hr ho ho2 hne hln (fun p hp=>by simp at hp;simp[hp]) (by rw[aU,bZ,if_pos rfl];rfl) (fun i hi=>by simp at hi;simp[hi])
      |mk rr=>
       have c3:=c3 rr rfl;refine⟨_,_,_,hz3,fun cl=>⟨.gR [],[(id,some (.nst (bm u) ((di u l ln).set m (.bn (rr.map (aM u)))))),(id2,none)],[id,id2],s.next,?_,?_⟩⟩
       .simp only[aq,aS,cm,kF,jm,cellsOf,d3];rw[if_pos (show([_]:List C).length=1 from rfl)];rw[if_pos ⟨trivial,trivial,hl2⟩];simp only[p_,c3];rw[if_pos ⟨trivial,by simp,hne⟩]
       .exact wl hr ho ho2 hne hln (fun p hp=>by simp at hp;rcases hp with rfl|rfl<;>simp) (by rw[aO,bZ,if_pos rfl];rfl) (fun i hi=>hi)
    .simp at hz2
   .simp at hz2
  .simp at hz2
 .rename_i u l ver ho;split at hz2
  .rename_i w' a hw;obtain⟨h3,hz3⟩:=aK hz2;simp only[decide_eq_true_eq]at h3;subst h3;clear hz2;split at hz3
   .rename_i b2 hb;split at hz3
    .rename_i y hy;split at hz3
     .rename_i c hc;split at hz3
      .rename_i y2 hy2;split at hz3
       .rename_i s1 hs1;obtain⟨h4,hz4⟩:=aK hz3;obtain⟨cw,e1,e2⟩:=o4 (mO (Jz hw) hx);obtain⟨ds,aw,f1,f2,f3,f4,f5⟩:=qK hr w w' a cw hw e1 hk ha;have e3:=nG (gW w' false b2 y _ hy f2);have hlen:=ha2.2.2.1 u l ver (.inl ho)
        have hnm:∀(ds:List D)(cs:List C)(aw:List Nat),du h1 cs=some (ds,aw)->ds.length=cs.length:=by
         intro ds cs;induction cs generalizing ds with
         |nil=>intro aw h;obtain⟨rfl,_⟩:[]=ds/\[]=aw:=by simpa[du]using h
               rfl
         |cons c cs ih=>
          intro aw h;simp only[du]at h;split at h
          .rename_i p1 p2 p3 p4 hp hq;obtain⟨rfl,rfl⟩:=ad (aa h);simp[ih _ _ hq]
          .simp at h
        have l1:cw.length=vO w:=gy e1;have l2:ds.length=bm b2:=by rw[e3,bD]
        have l3:=hnm _ _ _ f1;have l4:=ub p u b2 hb ha2.2.1;cases l with
        |nil=>simp[Sl.l]at hlen
        |mk l=>
         obtain⟨_,⟨d1,d2,d3⟩,_⟩:=hr.ob id _ ho;have d3:=d3 l rfl;have q5:=tW (h:=s.heap) p (.x u (gt l m)) u (.x b2 y) c ((aM u (gt l m)).map .d) ((aM b2 y).map .d) b2 (by simp[dW]) ⟨d1,rfl⟩ ha2.2.1 hc hb ⟨OB p u b2 d1 hb,rfl⟩ (by simp[bD]);have q6:=nT hy2 q5;rw[<-sd]at q6;have q7:=nG q6;obtain⟨fu,g1,g2,g3,g4,g5,g6,g7,g8,g9⟩:=z6 (s0:=s) rfl hr a s1 aw aw hs1 f3 f4;have hid:id∉a:=by simpa using h4
         have hid2:aw.contains id=false:=by cases hq:aw.contains id with|false=>rfl|true=>exact absurd ((f3 id (by simpa using hq)).1) hid
         rw[qu ha1];refine⟨_,_,_,hz4,fun cl=>⟨.gR [],(id,some (.aJ (bm u) ((l.set m y2).map (aM u))))::fu,id::aw,s.next,?_,?_⟩⟩
         .simp only[aq,aS];exact Ld d3 hlen e2 (l1.trans h2) f1 g1 hid2 (by rw[bD];omega) (by rw[e3];exact q7)
         .have ho1:fO s1.heap id=some (.ar u (.mk l) ver):=by rw[g9 id hid];exact ho
          rw[<-g6]at g2
          have:=qc (v:=.tp .ni) (x:=.gR []) (aw:=id::aw) (l:=id::a) (u:=[(id,some (.aJ (bm u) ((l.set m y2).map (aM u))))]) g2 ho1 (w':=.mk (l.set m y2)) rfl (by simp[Sl.l]) (fun p hp=>by simp at hp;simp[hp]) (fun l' e=>by cases e;rw[aU,bZ,if_pos rfl]) (fun _=>AL) (fun _ _=>trivial) (fun i hi=>by
           rcases aF.1 hi with rfl|hi
           .exact cE ..
           .exact aA _ (f3 i hi).1)
          rw[g6]at this;exact oX.seq g3 g4 g5 g6 g7 g8 g9 (DU rfl hs1) this
       .simp at hz3
      .simp at hz3
     .simp at hz3
    .simp at hz3
   .simp at hz3
  .simp at hz2
 .simp at hz2
end
section
variable{h:H2}{n:Nat}{h1:bz}{β:Type}{s:S2}{k:V->S2->List Nat->Option β}{z:β}
theorem rX:∀{cs:List C}{ds:List D}{aw:List Nat},du h1 cs=some (ds,aw)->ds.length=cs.length:=by
 intro cs;induction cs with
 |nil=>intro ds aw h;obtain⟨rfl,_⟩:[]=ds/\[]=aw:=by simpa[du]using h
       rfl
 |cons c cs ih=>
  intro ds aw h;simp only[du]at h;split at h
  .rename_i p1 p2 p3 p4 hp hq;obtain⟨rfl,rfl⟩:=ad (aa h);simp[ih hq]
  .simp at h
theorem Nd{t:Ty}(hd:je t=true)(m:Nat):(az m (qt t)).flatMap (aM t)=ce ((az m (lJ t)).flatten):=by induction m with|zero=>rfl|succ m ih=>simp only[gz,bf,dK,ih,pC t hd,ce,fH]
theorem zO(l:List Value):eJ l=(ce l).map .d:=by simp[eJ,ce]
theorem HD{t:Ty}(hd:je t=true)(m:Nat):((az m (lJ t)).flatten).length=m*bm t:=by have:=congrArg kY (Nd hd m);rw[jR (bD t),List.length_replicate,ce,aI]at this;exact this.symm
theorem Ck{α:Type}{f:α->List D}{q:Nat}(hf:∀a,(f a).length=q):∀(l:List α),kL q l.length (l.flatMap f)=l.map f:=by intro l;induction l with|nil=>rfl|cons a l ih=>simp only[cF,kL,bf,aq];rw[List.take_left' (hf a),List.drop_left' (hf a),ih]
theorem Dg{t:Ty}{len:Nat}(hr:HR n h1 h)(hd:je t=true):∀(is:List Nat)(vs:List V)(m:Nat)(l:List (El t))(a:List Nat)(CG:List C)(xs:List TV),wg h t len m is vs=some (l,a)->m<=len->CG.length=m*bm t->
  kH h vs xs->(∀w∈vs,eA n h w)->(∀w∈vs,gu h w=true)->
  ∃cs aw,lx (CG++eJ ((az (len-m) (lJ t)).flatten)) ((is.map fun i=>(i*bm t,bm t)).zip xs)=some (CG++cs)/\du h1 cs=some (l.flatMap (aM t),aw)/\(∀i∈aw,i∈a/\¬k7 h i)/\(∀i∈a,i∈aw\/k7 h i)/\l.length=len-m:=by
 intro is;induction is with
 |nil=>intro vs m l a CG xs hf hm hpre hx hk ha;cases vs with|cons v vs=>simp[wg]at hf|nil=>simp only[wg,bl,Prod.mk.injEq]at hf;obtain⟨rfl,rfl⟩:=hf;obtain rfl:=jB hx;refine⟨_,[],rfl,?_,fun i hi=>by simp at hi,fun i hi=>by simp at hi,by simp⟩;rw[zO,Nd hd];exact vE _
 |cons i is ih=>
  intro vs m l a CG xs hf hm hpre hx hk ha;cases vs with
  |nil=>simp[wg]at hf
  |cons v vs=>
   simp only[wg]at hf;split at hf
   .rename_i w a1 hw;split at hf
    .rename_i y hy;obtain⟨hc,hf⟩:=aK hf;simp only[af,Nat.ble_eq,Nat.blt_eq]at hc;obtain⟨hmi,hil⟩:=hc;split at hf
     .rename_i l1 b hl1;obtain⟨rfl,rfl⟩:=ad (aa hf);obtain⟨x,ys,rfl,hx1,hx2⟩:=fg hx;obtain⟨cw,e1,e2⟩:=o4 (mO (Jz hw) hx1);obtain⟨ds,aw,f1,f2,f3,f4,_⟩:=qK hr v w a1 cw hw e1 (hk _ (by simp)) (ha _ (by simp));have e3:=nG (gW w false t y _ hy f2);subst e3;have l1':cw.length=bm t:=by rw[<-rX f1,bD]
      have lz:(eJ ((az (i-m) (lJ t)).flatten)).length=(i-m)*bm t:=by simp only[eJ,aI];exact HD hd _
      have lz1:(eJ (lJ t)).length=bm t:=by rw[zO,<-pC t hd,aI,bD]
      have hpl:(CG++eJ ((az (i-m) (lJ t)).flatten)).length=i*bm t:=by rw[aG,hpre,lz,<-bI,Nat.add_sub_cancel' hmi]
      obtain⟨cs,jds,g1,g2,g3,g4,g5⟩:=ih vs (i+1) l1 b (CG++eJ ((az (i-m) (lJ t)).flatten)++cw) ys hl1 hil (by rw[aG,hpl,l1',bI,Nat.one_mul]) hx2 (fun w hw=>hk w (by simp[hw])) (fun w hw=>ha w (by simp[hw]));have hsplit:az (len-m) (lJ t)=az (i-m) (lJ t)++(lJ t::az (len-(i+1)) (lJ t)):=by rw[<-gz,List.replicate_append_replicate];congr 1;omega
      have hcells:CG++eJ ((az (len-m) (lJ t)).flatten)=(CG++eJ ((az (i-m) (lJ t)).flatten))++(eJ (lJ t)++eJ ((az (len-(i+1)) (lJ t)).flatten)):=by rw[hsplit,List.flatten_append,dK,qG,qG,aP]
      refine⟨eJ ((az (i-m) (lJ t)).flatten)++(cw++cs),aw++jds,?_,?_,fun j hj=>?_,fun j hj=>?_,by simp[g5];omega⟩
      .simp only[aq,List.zip_cons_cons,lx,e2];rw[if_pos ⟨l1',by rw[hcells,aG,hpl,aG,lz1];omega⟩,hcells];have:aX ((CG++eJ ((az (i-m) (lJ t)).flatten))++(eJ (lJ t)++eJ ((az (len-(i+1)) (lJ t)).flatten))) (i*bm t) cw=(CG++eJ ((az (i-m) (lJ t)).flatten)++cw)++eJ ((az (len-(i+1)) (lJ t)).flatten):=by have:=qY (a:=CG++eJ ((az (i-m) (lJ t)).flatten)) (b:=eJ (lJ t)++eJ ((az (len-(i+1)) (lJ t)).flatten)) (p:=cw) (off:=0);rw[hpl]at this;refine Eq.trans this ?_;rw[qX (by omega),kS (by omega)];simp only[aP]
       rw[this,g1];simp only[aP]
      .rw [List.flatMap_append,bf,Nd hd];have hz:du h1 (eJ ((az (i-m) (lJ t)).flatten))=some (ce ((az (i-m) (lJ t)).flatten),[]):=by rw[zO];exact vE _
       exact(oF hz (oF f1 g2):du h1 _=some (_,[]++(aw++jds)))
      .rcases ak.1 hj with hj|hj
       .exact ⟨aE _ (f3 j hj).1,(f3 j hj).2⟩
       .exact ⟨aC _ (g3 j hj).1,(g3 j hj).2⟩
      .rcases ak.1 hj with hj|hj
       .exact (f4 j hj).imp (aE _) id
       .exact (g4 j hj).imp (aC _) id
     .simp at hf
    .simp at hf
   .simp at hf
theorem Co{t:Ty}{len sz:Nat}{zl:List Value}{pl:List Nat}{vs:List V}{xs:List TV}
  (hz:ON t sz len zl pl vs s k=some z)
  (hr:HR s.next h1 s.heap) (hx:kH s.heap vs xs) (hk:∀w∈vs,eA s.next s.heap w) (ha:∀w∈vs,gu s.heap w=true):vk h1 (.buildSlice sz len zl pl) xs s k z:=by
 unfold ON at hz;obtain⟨h2,hz2⟩:=aK hz;simp only[af,beq_iff_eq]at h2;obtain⟨⟨rfl,h3⟩,h4⟩:=h2;have h3:=pD h3;subst h3;obtain⟨hd,hs0⟩:=mh h4;clear hz;split at hz2
 .rename_i l a hl;split at hz2
  .rename_i s1 hs1;obtain⟨cs,aw,g1,g2,g3,g4,g5⟩:=Dg hr hd pl vs 0 l a [] xs hl (Nat.zero_le _) (by simp) hx hk ha;obtain⟨fu,f1,f2,f3,f4,f5,f6,f7,f8,f9⟩:=z6 (s0:=s) rfl hr a s1 aw aw hs1 g3 g4;refine⟨_,_,_,hz2,fun cl=>⟨.c (.dz (bm t) s.next 0 len),(s.next,some (.aJ (bm t) (l.map (aM t))))::fu,aw,s.next+1,?_,?_⟩⟩
   .have hc:kL (bm t) len (l.flatMap (aM t))=l.map (aM t):=by have:=Ck (bD t) l;rwa[show l.length=len by simpa using g5]at this
    simp only[cm,lD];have g1:lx (eJ ((az len (lJ t)).flatten)) ((pl.map fun i=>(i*bm t,bm t)).zip xs)=some cs:=by simpa using g1
    rw[g1];simp only[g2,f1,hc]
   .have hr1:HR s1.next (fu++h1) s1.heap:=by rw[f6];exact f2
    have hd1:oX s1 (fJ s1 (.ar t (.mk l) 0)) (fu++h1) (.c (.dz (bm t) s.next 0 len)) [(s1.next,some (.aJ (bm t) (l.map (aM t))))] aw (s.next+1) (.so s1.next) a:=by refine oX.new hr1 (.inl rfl) (fun _=>⟨hd,hs0,fun l' e=>by cases e;rfl⟩) trivial ?_ (aT _) (fun i hi=>(g3 i hi).1) (by rw[f6];exact ao _);have:=uc (h:=s1.heap) (t:=t) (s:=.mk l) (v:=0) (nx:=s1.next);rw[f6]at this|-;simpa[jm,show l.length=len by simpa using g5]using this
    rw[f6]at hd1;exact oX.seq f3 f4 f5 f6 f7 f8 f9 (DU rfl hs1) hd1
  .simp at hz2
 .simp at hz2
theorem D3{ka va:Bool}{ks:List Kd}{zl:List Value}{id:Nat}{kv:V}{ya yk:TV}(hr:HR s.next h1 s.heap)(ha1:eW s.heap (.om id) ya)(hx:eW s.heap kv yk)
  (hz:(match fO s.heap id with
  |some (.mp kt vt m)=>(match rn kt kv with
   |some q=>bif(lH kt==ka)&&(lH vt==va)&&decide (BQ kt=some ks)&&rx (lJ vt) zl&&je vt&&(va||bm vt==1)then
     k (.tp (.co (.x vt (ky m (qt vt) q).2.1) (.co (.x (.i .i64) (ky m (qt vt) q).2.2) .ni))) (cX s id (some (.mp kt vt (ky m (qt vt) q).1))) [id]else none
   |none=>none)
  |_=>none)=some z):vk h1 (.mapEntry ka ks va zl) [ya,yk] s k z:=by
 split at hz
 .rename_i kt vt m ho;split at hz
  .rename_i q hq;obtain⟨hc,hz2⟩:=aK hz;simp only[af,beq_iff_eq,decide_eq_true_eq]at hc;obtain⟨⟨⟨⟨⟨c1,c2⟩,c3⟩,c4⟩,c5⟩,c6⟩:=hc;rw[CN ha1];obtain⟨_,_,k3,_⟩:=vv kt ks c3;have hzz:ce zl=aM vt (qt vt):=by rw[pC vt c5,pD c4]
   have hv:∀y,nw va (aM vt y)=some (O6 vt y):=fun y=>ED y c2 c6;have hkt:=BN hx hq c3 c1;have e3:=(hr.ob id _ ho).2.1.2.2;rw[<-c2]at c6;have e4:av h1 id=CH ka va (tL kt) (aM vt) m:=by rw[<-c1,<-c2];exact e3
   have hos:qp (.mp kt vt m) (.mp kt vt (ky m (qt vt) q).1):=trivial;refine .AH hr ho hos hz2 (fun cl=>PQ (z:=qt vt) e4 hkt k3 hzz hv) ⟨c5,⟨ks,c3⟩,by rw[c1,c2];rfl⟩ trivial ?_ ⟨trivial,trivial,trivial⟩ fun i hi=>hi;exact⟨_,rfl,_,_,rfl,HJ c5 c6,_,_,rfl,c_ rfl ⟨rfl,rfl⟩,rfl⟩
  .simp at hz
 .simp at hz
theorem JX:∀(l:List D),w9 (l.map .d)=some l:=by intro l;induction l with|nil=>rfl|cons d l ih=>simp[w9,ih]
theorem B4{va:Bool}{m0 id:Nat}{kd:IntKind}{st:Int}{w:V}{ya yw:TV}(hr:HR s.next h1 s.heap)(ha1:eW s.heap (.om id) ya)(hx:eW s.heap w yw)
  (hz:(match fO s.heap id with
  |some (.mp kt vt m)=>(match rn vt w with
   |some y=>bif(lH vt==va)&&(bm vt==m0)&&je vt then(s_ m st y).bind fun m=>k (.tp .ni) (cX s id (some (.mp kt vt m))) [id]else none
   |none=>none)
  |_=>none)=some z):vk h1 (.entryStore va m0) [ya,tI kd st,yw] s k z:=by
 split at hz
 .rename_i kt vt m ho;split at hz
  .rename_i y hy;obtain⟨hc,hz2⟩:=aK hz;simp only[af,beq_iff_eq]at hc;obtain⟨⟨rfl,rfl⟩,c3⟩:=hc;obtain⟨m',hm,hz3⟩:=oZ hz2;rw[CN ha1];obtain⟨_,hks,e3⟩:=(hr.ob id _ ho).2.1;obtain⟨g1,g2⟩:=tu hx hy;have hos:qp (.mp kt vt m) (.mp kt vt m'):=trivial;have hcs:(cellsOf yw).bind w9=some (aM vt y)/\vy yw=lH vt:=by cases hag:lH vt with|true=>rw[g1 hag];exact⟨by simp[cellsOf,JX],rfl⟩|false=>obtain⟨d,e,rfl⟩:=g2 hag;exact⟨by simp[cellsOf,w9,e],rfl⟩
   refine .AH hr ho hos hz3 (fun cl=>PP (va:=lH vt) (ek:=tL kt) (ka:=lH kt) hm e3 hcs.1 (bD vt y) hcs.2) ⟨c3,hks,rfl⟩ trivial AL trivial fun i hi=>hi
  .simp at hz
 .simp at hz
end
section
variable{h:H2}{n:Nat}{h1:bz}{β:Type}{s:S2}{k:V->S2->List Nat->Option β}{z:β}
theorem uk:∀{r:List V}{l:List Int}{xs:List TV},iA r=some l->kH h r xs->∃ks:List IntKind,ks.length=l.length/\xs=(ks.zip l).map fun p=>tI p.1 p.2:=by
 intro r;induction r with
 |nil=>
  intro l xs hl hx;obtain rfl:[]=l:=by simpa[iA]using hl
  exact⟨[],rfl,jB hx⟩
 |cons v r ih=>
  intro l xs hl hx;cases v with
  |x t v=>
   cases t with
   |i q=>
    simp only[iA]at hl;split at hl
    .rename_i l' hl';obtain rfl:=aa hl;obtain⟨x,ys,rfl,h1,h2⟩:=fg hx;obtain⟨ks,h3,rfl⟩:=ih hl' h2;exact⟨q::ks,by simp[h3],by rw[iS h1];rfl⟩
    .simp at hl
   |_=>simp[iA]at hl
  |_=>simp[iA]at hl
theorem Jl{r:List V}{xs:List TV}(hl:iA r=some [])(hx:kH h r xs):xs=[]:=by obtain⟨ks,h1,rfl⟩:=uk hl hx;cases ks<;>simp_all
theorem zU{r:List V}{a:Int}{xs:List TV}(hl:iA r=some [a])(hx:kH h r xs):∃q,xs=[tI q a]:=by obtain⟨ks,h1,rfl⟩:=uk hl hx;cases ks with|nil=>simp at h1|cons q ks=>exact⟨q,by cases ks<;>simp_all⟩
theorem Jk{r:List V}{a b:Int}{xs:List TV}(hl:iA r=some [a,b])(hx:kH h r xs):∃q q',xs=[tI q a,tI q' b]:=by
 obtain⟨ks,h1,rfl⟩:=uk hl hx;cases ks with
 |nil=>simp at h1
 |cons q ks=>cases ks with|nil=>simp at h1|cons q' ks=>exact⟨q,q',by cases ks<;>simp_all⟩
theorem zq{x y:ByteArray}{lo hi:Option Int}(hs:xK x (lo.getD 0) (hi.getD x.size)=some y)(sz:Nat):eX true sz (.d (dS x)) lo hi=some (.d (dS y)):=by
 unfold xK at hs;split at hs
 .rename_i hb;obtain rfl:=aa hs;simp only[eX,if_true];rw[if_pos hb]
 .simp at hs
theorem AT{x:ByteArray}{r:List V}{lo hi:Bool}{sz:Nat}{y:TV}{ys:List TV}(hr:HR s.next h1 s.heap)(hy:eW s.heap (.x .s x) y)(hys:kH s.heap r ys)
  (hz:(match lo,hi,iA r with
  |false,false,some []=>(xK x 0 x.size).bind fun y=>k (.x .s y) s []
  |true,false,some [l]=>(xK x l x.size).bind fun y=>k (.x .s y) s []
  |false,true,some [u]=>(xK x 0 u).bind fun y=>k (.x .s y) s []
  |true,true,some [l,u]=>(xK x l u).bind fun y=>k (.x .s y) s []
  |_,_,_=>none)=some z):vk h1 (.slice true sz lo hi) (y::ys) s k z:=by
 rw[uL hy];split at hz
 .rename_i hi;obtain rfl:=Jl hi hys;obtain⟨w,hw,hz2⟩:=oZ hz;exact .pure hr hz2 (fun _=>by simp only[aq,aS,cm];rw[zq (lo:=none) (hi:=none) hw]) (O5 w) trivial
 .rename_i l hi;obtain⟨q,rfl⟩:=zU hi hys;obtain⟨w,hw,hz2⟩:=oZ hz;exact .pure hr hz2 (fun _=>by simp only[aq,aS,cm,b_];rw[zq (lo:=some l) (hi:=none) hw]) (O5 w) trivial
 .rename_i l hi;obtain⟨q,rfl⟩:=zU hi hys;obtain⟨w,hw,hz2⟩:=oZ hz;exact .pure hr hz2 (fun _=>by simp only[aq,aS,cm,b_];rw[zq (lo:=none) (hi:=some l) hw]) (O5 w) trivial
 .rename_i l u hi;obtain⟨q,q',rfl⟩:=Jk hi hys;obtain⟨w,hw,hz2⟩:=oZ hz;exact .pure hr hz2 (fun _=>by simp only[aq,aS,cm,b_];rw[zq (lo:=some l) (hi:=some u) hw]) (O5 w) trivial
 .simp at hz
theorem AU{x:V}{r:List V}{lo hi:Bool}{sz:Nat}{y:TV}{ys:List TV}(hr:HR s.next h1 s.heap)(hy:eW s.heap x y)(hk:eA s.next s.heap x)(ha:gu s.heap x=true)(hys:kH s.heap r ys)
  (hz:(match lo,hi,iA r,DL s.heap x with
  |false,false,some [],some n=>rE sz s.heap x 0 n fun v=>k v s []
  |true,false,some [l],some n=>rE sz s.heap x l n fun v=>k v s []
  |false,true,some [u],some _=>rE sz s.heap x 0 u fun v=>k v s []
  |true,true,some [l,u],some _=>rE sz s.heap x l u fun v=>k v s []
  |_,_,_,_=>none)=some z):vk h1 (.slice false sz lo hi) (y::ys) s k z:=by
 split at hz
 .rename_i m hi hm;obtain rfl:=Jl hi hys;obtain⟨v,c,c',rfl,h3,h4,h5,h6⟩:=Ae (lo:=none) (hi:=none) hr hy hk ha hm hz;exact .pure hr h3 (fun _=>by simp only[aq,aS,cm];rw[h4]) h5 h6
 .rename_i l m hi hm;obtain⟨q,rfl⟩:=zU hi hys;obtain⟨v,c,c',rfl,h3,h4,h5,h6⟩:=Ae (lo:=some l) (hi:=none) hr hy hk ha hm hz;exact .pure hr h3 (fun _=>by simp only[aq,aS,cm,b_];rw[h4]) h5 h6
 .rename_i u m hi hm;obtain⟨q,rfl⟩:=zU hi hys;obtain⟨v,c,c',rfl,h3,h4,h5,h6⟩:=Ae (lo:=none) (hi:=some u) hr hy hk ha hm hz;exact .pure hr h3 (fun _=>by simp only[aq,aS,cm,b_];rw[h4]) h5 h6
 .rename_i l u m hi hm;obtain⟨q,q',rfl⟩:=Jk hi hys;obtain⟨v,c,c',rfl,h3,h4,h5,h6⟩:=Ae (lo:=some l) (hi:=some u) hr hy hk ha hm hz;exact .pure hr h3 (fun _=>by simp only[aq,aS,cm,b_];rw[h4]) h5 h6
 .simp at hz
theorem Lf{t:Ty}{l:List (Sl (El t))}{m:Nat}(hm:m<l.length):(l.map (lK t))[m]?=some (lK t (gt l m)):=by rw[List.getElem?_map,au hm];simp[gt,jl,au hm]
theorem H7{α:Type}{l:List α}{m:Nat}{x:α}(h:l[m]?=some x):l.set m x=l:=by obtain⟨hm,rfl⟩:=List.getElem?_eq_some_iff.1 h;exact List.set_getElem_self hm
theorem DK{id m:Nat}{u:Ty}{y:TV}(hr:HR s.next h1 s.heap)(hx:eW s.heap (.ep id m u []) y)(hk:eA s.next s.heap (.ep id m u []))
  (hz:(match fO s.heap id with
  |some (.rw t v none)=>bif decide (u=.sl t)then k (.so s.next) (fJ (cX s id (some (.rw t v (some (m,s.next))))) (.ar t (gt v.l m) 0)) [id]else none
  |_=>none)=some z):vk h1 .rJ [y] s k z:=by
 split at hz
 .rename_i t v ho;obtain⟨h2,hz2⟩:=aK hz;simp only[decide_eq_true_eq]at h2;subst h2;rw[qu hx,EY];have hlen:=hk.2.2.2 _ _ _ ho;obtain⟨hid,⟨d1,d2,d3⟩,_⟩:=hr.ob id _ ho;cases v with
  |nil=>simp[Sl.l]at hlen
  |mk l=>
   have d3:=d3 l rfl;have hlen:m<l.length:=hlen;have dA:ik s.next s.heap ((s.next,some (.ar t (gt l m) 0))::(id,some (.rw t (.mk l) (some (m,s.next))))::s.heap):=ik.trans (ao _) (ik.AH (o':=.rw t (.mk l) (some (m,s.next))) ho ⟨rfl,rfl,rfl⟩) (ik.new _)
   have key:∀{x:TV}{u:eG},eW ((s.next,some (.ar t (gt l m) 0))::(id,some (.rw t (.mk l) (some (m,s.next))))::s.heap) (.so s.next) x->(∀p∈u,p.1=s.next\/p.1=id)->
     av (u++h1) id=some (.nst (bm t) (di t l (some (m,s.next))))->(∀rr,gt l m=.mk rr->av (u++h1) s.next=some (.aJ (bm t) (rr.map (aM t))))->∀{q:Nat},q<=s.next+1->
     oX s (fJ (cX s id (some (.rw t (.mk l) (some (m,s.next))))) (.ar t (gt l m) 0)) h1 x u [id] q (.so s.next) [id]:=by
    intro x u hx2 hu hb hb2 q hq;refine oX.BX [s.next,id] hr dA rfl rfl hq (bk _) (fun i hi=>hi) rfl (fun p hp=>?_) (fun i hi=>?_) (fun i hi o ho'=>?_) hx2 (aT _) (fun i hi h=>?_)
    .rcases hu p hp with e|e<;>simp[e]
    .simp only[aF,cV,or_false,not_or]at hi;simp only[fJ,cX];rw[cB,if_neg (fun e=>hi.1 e.symm),cB,if_neg (fun e=>hi.2 e.symm)]
    .simp only[fJ,cX]at ho'|-;by_cases hi1:s.next=i
     .subst hi1;rw[cB,if_pos rfl]at ho';obtain rfl:=aa ho';exact⟨aT _,⟨d1,d2,fun rr e=>hb2 rr e⟩,trivial⟩
     .rw [cB,if_neg hi1]at ho';simp only[aF,cV,or_false]at hi;rcases hi with rfl|rfl
      .exact absurd rfl hi1
      .rw [cB,if_pos rfl]at ho';obtain rfl:=aa ho';refine⟨by omega,⟨d1,d2,fun l' e=>by cases e;exact hb⟩,hlen,aT _,fun u' r' v' hf=>?_⟩;simp only[rl]at hf;rcases hf with hf|hf<;>cases hf;exact⟨rfl,rfl⟩
    .simp only[fJ,cX];rw[cB,if_neg (by omega),cB,if_neg (fun e=>by subst e;rw[ho]at h;cases h)];exact h
   have hs:=Lf (t:=t) hlen;refine⟨_,_,_,hz2,fun cl=>?_⟩;cases hg:gt l m with
   |nil=>
    refine⟨_,[],[id],s.next,?_,key (x:=.c (.d (.lit (.slice none 0 0)))) ?_ (fun p hp=>by simp at hp) ?_ (fun rr e=>by rw[hg]at e;cases e) (bk _)⟩
    .simp only[aq,aS,cm,ge,d3];rw[hg]at hs;simp only[j7,d3,di,hs,lK];rfl
    .rw [hg];exact uc
    .rw [bo,d3];simp only[di,hg,xT];rw[H7 (by rw[hs,hg];rfl)]
   |mk rr=>
    refine⟨_,[(s.next,some (.aJ (bm t) (rr.map (aM t)))),(id,some (.nst (bm t) ((l.map (lK t)).set m (.jZ s.next (rr.map (aM t)).length))))],[id],s.next+1,?_,key (x:=.c (.dz (bm t) s.next 0 (rr.map (aM t)).length)) ?_ (fun p hp=>by simp at hp;rcases hp with rfl|rfl<;>simp) ?_ (fun r2 e=>?_) (ao _)⟩
    .simp only[aq,aS,cm,ge,d3];rw[hg]at hs;simp only[j7,d3,di,hs,lK];rfl
    .rw [hg];exact uc
    .rw [aO,bZ,if_neg (by omega),aO,bZ,if_pos rfl];simp only[di,hg,xT,aI]
    .rw [hg]at e;cases e;rw[aO,bZ,if_pos rfl]
 .simp at hz
theorem IU{szi:Nat}{t:Ty}{q q':IntKind}{a b:Int}(hr:HR s.next h1 s.heap)
  (hz:(bif(bm t==szi)&&xE t then(HA (Sl.nil:Sl (El t)) a b).bind fun r=>k (.sr s.next) (fJ s (.rw t (.mk r) none)) []else none)=some z):vk h1 (.yF szi) [tI q a,tI q' b] s k z:=by
 obtain⟨hq,hp2⟩:=aK hz;simp only[af,beq_iff_eq]at hq;obtain⟨rfl,q2⟩:=hq;obtain⟨hd,hs0⟩:=mh q2;obtain⟨r,hr2,hz3⟩:=oZ hp2;unfold HA at hr2;split at hr2
 .rename_i hb;obtain rfl:=aa hr2;refine .new (aw:=[]) hr hz3 (b:=some (.nst (bm t) (az a.toNat .nil))) (x:=.c (.dz 1 s.next 0 a.toNat)) (fun _=>?_) ⟨hd,hs0,fun l' e=>by cases e;simp[di,lK]⟩ trivial ?_ (aT _) fun i hi=>by simp at hi
  .simp only[aq,aS,cm,b_];rw[if_pos (by simpa[xF]using hb)]
  .refine bM (c_ rfl ⟨_,rfl,fun c' hc'=>?_,?_⟩)
   .rw [rl]at hc';obtain rfl:=aa hc';simp[jm]
   .have:=vX (sz:=1) (id:=s.next) (e:=aM (.sl t)) (s:=.mk (az a.toNat (Sl.nil:Sl (El t))));simpa[jm]using this
 .simp at hr2
theorem sZ{W:List Nat}{s2:S2}{t:Ty}{l':List (Sl (El t))}{m idR:Nat}(hr:HR s.next h1 s.heap)(e1:s2.db=s.db)(e2:s2.gh=s.gh)(e3:s2.next=s.next)(e4:s2.wo=W++s.wo)(e5:∀i,fO s2.heap i=if i∈W then none else fO s.heap i)
  (hd:je t=true) (hs0:0<bm t) (hm:m<l'.length) (hR:idR<s.next) (hq:∀u r v,(fO s.heap idR=some (.ar u r v)\/fO s.heap idR=some (.im u r v))->r.eC=(gt l' m).eC/\r.l.length=(gt l' m).l.length)
  {u:eG} {aw l:List Nat} (hu:∀p∈u,p.1=s.next\/p.1∈W) (hids:∀i∈aw,i∈l) (hb:av (u++h1) s.next=some (.nst (bm t) (di t l' (some (m,idR))))):
  oX s (fJ s2 (.rw t (.mk l') (some (m,idR)))) h1 (.c (.dz 1 s.next 0 l'.length)) u aw (s.next+1) (.sr s.next) l:=by
 have hfo:∀i,fO (fJ s2 (.rw t (.mk l') (some (m,idR)))).heap i=if s.next=i then some (.rw t (.mk l') (some (m,idR)))else if i∈W then none else fO s.heap i:=by intro i;simp only[fJ];rw[e3,cB,e5]
 have hnn:(fJ s2 (.rw t (.mk l') (some (m,idR)))).next=s.next+1:=by simp only[fJ,e3]
 refine oX.BX (s.next::W) hr ⟨fun i o' hi ho=>?_⟩ (by simp only[fJ,e1]) (by simp only[fJ,e2]) (by rw[hnn];exact ao _) (by rw[hnn];exact bk _) hids (by simp only[fJ,e3,e4,aO]) (fun p hp=>?_) (fun i hi=>?_) (fun i hi o ho=>?_) ?_ ?_ (fun i hi h=>?_)
 .rw [hfo,if_neg (by omega)]at ho;split at ho
  .cases ho
  .exact .inl ⟨o',ho,qp.refl _⟩
 .rcases hu p hp with h|h
  .rw [h];exact cE
  .exact aA _ h
 .simp only[aF,not_or]at hi;rw[hfo,if_neg (fun e=>hi.1 e.symm),if_neg hi.2]
 .rw [hfo]at ho;rw[hnn];split at ho
  .rename_i he;subst he;obtain rfl:=aa ho;refine⟨aT _,⟨hd,hs0,fun l2 e=>by cases e;exact hb⟩,hm,Nat.lt_succ_of_lt hR,fun u' r v hf=>?_⟩;rw[hfo,if_neg (by omega)]at hf;split at hf
   .rcases hf with h|h<;>cases h
   .exact hq u' r v hf
  .rename_i he
   have hi':i∈W:=by
    rcases aF.1 hi with h|h
    .exact absurd h.symm he
    .exact h
   rw[if_pos hi']at ho;cases ho
 .refine bM (c_ rfl ⟨_,rfl,fun c' hc'=>?_,?_⟩)
  .rw [hfo,if_pos rfl]at hc';obtain rfl:=aa hc';simp[jm]
  .have:=vX (sz:=1) (id:=s.next) (e:=aM (.sl t)) (s:=.mk l');simpa[jm]using this
 .show s.next<_;rw[hnn];exact aT _
 .rw [hfo,if_neg (by omega)];split
  .rfl
  .exact h
theorem Hk{id2 szi:Nat}{y:TV}(hr:HR s.next h1 s.heap)(hx:eW s.heap (.so id2) y)
  (hz:(match fO s.heap id2 with
  |some (.ar t (.mk l) _)=>bif(bm t==szi)&&xE t then k (.sr s.next) (fJ s (.rw t (.mk [.mk l]) (some (0,id2)))) []else none
  |_=>none)=some z):vk h1 (.Hl szi) [y] s k z:=by
 split at hz
 .rename_i t l ver ho;obtain⟨hq,hz2⟩:=aK hz;simp only[af,beq_iff_eq]at hq;obtain⟨rfl,q2⟩:=hq;obtain⟨hd,hs0⟩:=mh q2;obtain⟨hid,_,_⟩:=hr.ob id2 _ ho;rw[pH hx (ki (.inl ho))];refine⟨_,_,_,hz2,fun cl=>⟨.c (.dz 1 s.next 0 1),[(s.next,some (.nst (bm t) [.jZ id2 (l.map (aM t)).length]))],[],s.next+1,?_,sZ (s2:=s) (W:=[]) (l':=[.mk l]) hr rfl rfl rfl rfl (fun i=>by simp) hd hs0 (by simp) hid (fun u r v hf=>?_) (fun p hp=>by simp at hp;simp[hp]) (fun i hi=>by simp at hi) ?_⟩⟩
  .show (if bm t=bm t/\0<bm t then some (TV.c (.dz 1 s.next 0 1),[(s.next,some (Ob.nst (bm t) [.jZ id2 (l.map (aM t)).length]))],([]:List Nat),s.next+1)else none)=_;rw[if_pos ⟨rfl,hs0⟩]
  .rw [ho]at hf;rcases hf with h|h
   .cases h;exact⟨rfl,rfl⟩
   .cases h
  .rw [aU,bZ,if_pos rfl];simp[di,xT,gt]
 .simp at hz
theorem Hv{idB szi:Nat}{a:V}{ya y:TV}(hz:(match fO s.heap idB with
  |some (.rw t (.mk [.mk r]) (some (0,idR)))=>bif bm t==szi then(match a with
   |.nl 0=>k (.sr s.next) (fJ (cX s idB none) (.rw t (.mk [.mk r]) (some (0,idR)))) [idB]
   |.sr idA=>(match fO s.heap idA with
    |some (.rw u v none)=>(match fk (.sl t) (.sl u) (.mk r)with
     |some r=>bif !(idA==idB)then(jT (v.l++[r])).bind fun q=>k (.sr s.next) (fJ (cX (cX s idB none) idA none) (.rw u (.mk q) (some (v.l.length,idR)))) [idA,idB]else none
     |none=>none)
    |_=>none)
   |_=>none)else none
  |_=>none)=some z) (hr:HR s.next h1 s.heap) (ha1:eW s.heap a ya) (hx:eW s.heap (.sr idB) y):vk h1 (.Cw szi) [ya,y] s k z:=by
 split at hz
 .rename_i t r idR ho;obtain⟨hq,hz2⟩:=aK hz;clear hz;simp only[beq_iff_eq]at hq;subst hq;obtain⟨hid,⟨hd,hs0,hob⟩,_,hR,hrow⟩:=hr.ob idB _ ho;have hob:=hob _ rfl;have hgB:gt [Sl.mk r] 0=Sl.mk r:=rfl;simp only[di,hgB,xT]at hob;have hob:av h1 idB=some (.nst (bm t) [.jZ idR r.length]):=hob;have hR1:idR<s.next:=by omega
  rw[zj hx (show xB idB (fO s.heap idB)=some (jm 1 (aM (.sl t)) idB (.mk [.mk r]))by rw[ho];rfl)];cases a with
  |nl j=>
   cases j with
   |succ j=>simp at hz2
   |zero=>
    simp only at hz2;rw[rY ha1];refine⟨_,_,_,hz2,fun cl=>⟨.c (.dz 1 s.next 0 1),[(idB,none),(s.next,some (.nst (bm t) [.jZ idR r.length]))],[idB],s.next+1,?_,sZ (s2:=cX s idB none) (W:=[idB]) (l':=[.mk r]) hr rfl rfl rfl rfl (fun i=>?_) hd hs0 (by simp) hR1 hrow (fun p hp=>?_) (fun i hi=>hi) ?_⟩⟩
    .show mJ (bm t) (.d (.lit (.slice none 0 0))) (jm 1 (aM (.sl t)) idB (.mk [.mk r])) h1 s.next=_;simp only[jm,aq,aS,cF,fI,mJ,hob];rw[if_pos trivial]
    .simp only[cX,cB,am];by_cases e:idB=i
     .rw [if_pos e,if_pos e.symm]
     .rw [if_neg e,if_neg (fun h=>e h.symm)]
    .simp only[aF,cV,or_false]at hp;rcases hp with rfl|rfl<;>simp
    .rw [aO,bZ,if_neg (by omega),aU,bZ,if_pos rfl];simp[di,xT,gt]
  |sr idA=>
   simp only at hz2;split at hz2
   .rename_i u v hoA;split at hz2
    .rename_i r' hr';obtain⟨hne,hz3⟩:=aK hz2;simp only[eF,beq_eq_false_iff_ne]at hne;obtain⟨e,e2⟩:=cR hr';cases e;obtain rfl:r'=.mk r:=e2;obtain⟨q,hq,hz4⟩:=oZ hz3;obtain⟨rfl,hlim⟩:=ru.1 hq;obtain⟨hidA,⟨_,_,hobA⟩,_⟩:=hr.ob idA _ hoA;rw[zj ha1 (show xB idA (fO s.heap idA)=some (jm 1 (aM (.sl t)) idA v)by rw[hoA];rfl)];have hgl:gt (v.l++[Sl.mk r]) v.l.length=Sl.mk r:=by simp[gt,jl]
     have hfo:∀i,fO (cX (cX s idB none) idA none).heap i=if i∈[idA,idB]then none else fO s.heap i:=fun i=>by
      simp only[cX,cB,aF,cV,or_false];by_cases e:idA=i
      .rw [if_pos e,if_pos (.inl e.symm)]
      .rw [if_neg e];by_cases e2:idB=i
       .rw [if_pos e2,if_pos (.inr e2.symm)]
       .rw [if_neg e2,if_neg (fun h=>h.elim (fun h=>e h.symm) (fun h=>e2 h.symm))]
     have hsl:di t (v.l++[Sl.mk r]) (some (v.l.length,idR))=v.l.map (lK t)++[.jZ idR r.length]:=by simp only[di,hgl,xT,fH,aq,aS];rw[List.set_append_right _ _ (by simp)];simp
     have hrow':∀u r2 v2,(fO s.heap idR=some (.ar u r2 v2)\/fO s.heap idR=some (.im u r2 v2))->r2.eC=(gt (v.l++[Sl.mk r]) v.l.length).eC/\r2.l.length=(gt (v.l++[Sl.mk r]) v.l.length).l.length:=fun u r2 v2 hf=>by rw[hgl];exact hrow u r2 v2 hf
     cases v with
     |nil=>
      refine⟨_,_,_,hz4,fun cl=>⟨.c (.dz 1 s.next 0 1),[(idB,none),(s.next,some (.nst (bm t) [.jZ idR r.length]))],[idB],s.next+1,?_,sZ (s2:=cX (cX s idB none) idA none) (W:=[idA,idB]) hr rfl rfl rfl rfl hfo hd hs0 (by simp[Sl.l]) hR1 hrow' (fun p hp=>?_) (fun i hi=>by simp at hi;simp[hi]) ?_⟩⟩
      .show mJ (bm t) (jm 1 (aM (.sl t)) idA .nil) (jm 1 (aM (.sl t)) idB (.mk [.mk r])) h1 s.next=_;simp only[jm,aq,aS,cF,fI,mJ,hob];rw[if_pos trivial]
      .simp only[aF,cV,or_false]at hp;rcases hp with rfl|rfl<;>simp
      .rw [aO,bZ,if_neg (by omega),aU,bZ,if_pos rfl,hsl];rfl
     |mk l=>
      have hobA:=hobA l rfl;have hlim:l.length+1<=xF:=by simpa[Sl.l,xF]using hlim
      refine⟨_,_,_,hz4,fun cl=>⟨.c (.dz 1 s.next 0 (l++[Sl.mk r]).length),[(idA,none),(idB,none),(s.next,some (.nst (bm t) (l.map (lK t)++[.jZ idR r.length])))],[idA,idB],s.next+1,?_,sZ (s2:=cX (cX s idB none) idA none) (W:=[idA,idB]) hr rfl rfl rfl rfl hfo hd hs0 (by simp[Sl.l]) hR1 hrow' (fun p hp=>?_) (fun i hi=>hi) ?_⟩⟩
      .show mJ (bm t) (jm 1 (aM (.sl t)) idA (.mk l)) (jm 1 (aM (.sl t)) idB (.mk [.mk r])) h1 s.next=_;simp only[jm,aq,aS,cF,fI,mJ,hob,hobA,di];rw[if_pos trivial,if_pos ⟨trivial,by simp,hne,by simpa using hlim⟩];simp
      .simp only[aF,cV,or_false]at hp;rcases hp with rfl|rfl|rfl<;>simp
      .rw [aO,bZ,if_neg (by omega),aO,bZ,if_neg (by omega),aU,bZ,if_pos rfl,hsl];rfl
    .simp at hz2
   .simp at hz2
  |_=>simp at hz2
 .simp at hz
theorem Ds{o:OP}{vs:List V}{xs:List TV}(hp:part o vs s k=some z)(hr:HR s.next h1 s.heap)(hx:kH s.heap vs xs)(hk:∀w∈vs,eA s.next s.heap w)(ha:∀w∈vs,gu s.heap w=true):vk h1 o.o.k xs s k z:=by
 obtain⟨⟨d,kk,args,g⟩,t,fi⟩:=o;simp only;unfold part at hp;simp only at hp;split at hp
 .--quo
  obtain⟨x,y,rfl,h2,h3⟩:=gD hx;rw[iS h2,iS h3];obtain⟨hq,hp2⟩:=aK hp;simp only[decide_eq_true_eq]at hq;subst hq;obtain⟨r,hr2,hz⟩:=oZ hp2;exact .pure hr hz (fun _=>Oo hr2) (xi _ _) trivial
 .obtain ⟨x,y,rfl,h2,h3⟩:=gD hx;rw[iS h2,iS h3];obtain⟨hq,hp2⟩:=aK hp;simp only[decide_eq_true_eq]at hq;subst hq;obtain⟨r,hr2,hz⟩:=oZ hp2;exact .pure hr hz (fun _=>On hr2) (xi _ _) trivial
 .obtain ⟨x,y,rfl,h2,h3⟩:=gD hx;rw[iS h2,iS h3];obtain⟨r,hr2,hz⟩:=oZ hp;exact .pure hr hz (fun _=>Om hr2) (xi _ _) trivial
 .obtain ⟨x,y,rfl,h2,h3⟩:=gD hx;rw[iS h2,iS h3];obtain⟨r,hr2,hz⟩:=oZ hp;exact .pure hr hz (fun _=>Ol hr2) (xi _ _) trivial
 .obtain ⟨x,y,rfl,h2,h3⟩:=gD hx;rw[uL h2,uL h3];obtain⟨r,hr2,hz⟩:=oZ hp;exact .pure hr hz (fun _=>Oq hr2) (O5 _) trivial
 .--alloc
  rename_i zl;obtain rfl:=jB hx;obtain⟨hq,hp2⟩:=aK hp;simp only[af]at hq;obtain⟨q1,q2⟩:=hq;have q1:=pD q1;subst q1;refine .new (aw:=[]) hr hp2 (x:=.c (.op s.next 0)) (fun _=>rfl) ⟨_,rfl,?_,q2⟩ ?_ (bM (c_ rfl (by cases t<;>rfl))) ⟨aT _,by cases t<;>trivial⟩ fun i hi=>by simp at hi
  .exact ((vC (h:=(s.next,some (.bx t (MK t)))::s.heap) (n:=s.next+1) t).1 q2).1
  .exact ((vC (h:=(s.next,some (.bx t (MK t)))::s.heap) (n:=s.next+1) t).1 q2).2
 .--box
  obtain⟨x,rfl,h2⟩:=ga hx;split at hp
  .rename_i w hw;obtain⟨cw,e1,e2⟩:=o4 (mO (DE hw) h2);obtain⟨q1,q2,q3,_⟩:=wA hw e1 (hk _ (by simp));refine .new (aw:=[]) hr hp (x:=.c (.op s.next 0)) (fun _=>by simp only[aq,aS,cm,e2]) ⟨_,rfl,j8 (ik.new _) q3 q1,q2⟩ (fN (bk _) (ik.new _) q3) (bM (c_ rfl (by cases t<;>rfl))) ⟨aT _,by cases t<;>trivial⟩ fun i hi=>by simp at hi
  .simp at hp
 .exact Co hp hr hx hk ha
 .--store
  obtain⟨x,y,rfl,h2,h3⟩:=gD hx;exact AN hr h2 (hk _ (by simp)) h3 (hk _ (by simp)) hp
 .--rJ
  obtain⟨x,rfl,h2⟩:=ga hx;exact DK hr h2 (hk _ (by simp)) hp
 .--yF
  obtain⟨x,y,rfl,h2,h3⟩:=gD hx;rw[iS h2,iS h3];split at hp
  .exact IU hr hp
  .simp at hp
 .--Hl
  obtain⟨x,rfl,h2⟩:=ga hx;exact Hk hr h2 hp
 .--Cw
  obtain⟨x,y,rfl,h2,h3⟩:=gD hx;exact Hv hp hr h2 h3
 .obtain ⟨x,y,rfl,h2,h3⟩:=gD hx;exact AO hr h2 (hk _ (by simp)) h3 (hk _ (by simp)) (ha _ (by simp)) hp
 .--makeSlice
  rename_i zl _ l _ c;obtain⟨x,y,rfl,h2,h3⟩:=gD hx;rw[iS h2,iS h3];obtain⟨hq,hp2⟩:=aK hp;simp only[af]at hq;obtain⟨q1,q2⟩:=hq;have q1:=pD q1;subst q1;obtain⟨hd,hs0⟩:=mh q2;obtain⟨r,hr2,hz⟩:=oZ hp2;have hzl:ce (lJ t)=aM t (qt t):=(pC t hd).symm;have hlen:(lJ t).length=bm t:=by have:=congrArg kY hzl;rwa[bD,ce,aI]at this
  refine .new hr hz (fun _=>Mb hzl hr2) ⟨hd,hs0,fun l' e=>by cases e;rw[hlen]⟩ trivial ?_ (aT _) fun i hi=>by simp at hi
  rw[hlen];exact uc (s:=.mk r)
 .--slice of a string
  obtain⟨y,ys,rfl,h2,h3⟩:=fg hx;exact AT hr h2 h3 hp
 .obtain ⟨y,ys,rfl,h2,h3⟩:=fg hx;exact AU hr h2 (hk _ (by simp)) (ha _ (by simp)) h3 hp
 .obtain ⟨x,y,rfl,h2,h3⟩:=gD hx;rw[iS h3];exact Je hp hr h2 (hk _ (by simp)) (ha _ (by simp))
 .obtain ⟨x,y,rfl,h2,h3⟩:=gD hx;rw[iS h3];exact Jd hp hr h2 (hk _ (by simp))
 .--nJ
  obtain⟨x,y,rfl,h2,h3⟩:=gD hx;rw[uL h2,iS h3];obtain⟨r,hr2,hz⟩:=oZ hp;exact .pure hr hz (fun _=>PN hr2) (xi _ _) trivial
 .--index
  rename_i ag n0 sz0 n' u v _ i;obtain⟨x,y,rfl,h2,h3⟩:=gD hx;rw[iS h3];obtain⟨hq,hp2⟩:=aK hp;simp only[af,beq_iff_eq]at hq;obtain⟨⟨⟨⟨rfl,rfl⟩,q3⟩,q4⟩,q5⟩:=hq;obtain⟨m,hm,hz⟩:=oZ hp2;obtain⟨rfl,hm2⟩:=gV.1 hm;rw[RQ h2];obtain⟨a1,a2⟩:=Ct v hm2;have hc:Ee s.heap ag (bm u) (.x u (gt v.1 m))=true:=by simp[Ee,qS,vO,gu,q3,q4,q5]
  obtain⟨x,e1,e2⟩:=nI (cs:=(aM (.ar n' u) v).map .d) (off:=m*bm u) (cw:=(aM u (gt v.1 m)).map .d) hc ⟨q4,rfl⟩ (by simpa using a1) (by rw[<-fx,<-fZ,a2]);refine .pure hr hz (x:=x) (fun _=>?_) e2 trivial;simp only[aq,aS,cm,b_];rw[if_pos ⟨by omega,by omega⟩];simp only[iv,e1]
 .--append
  obtain⟨x,y,rfl,h2,h3⟩:=gD hx;exact Cv (t0:=t) hp hr h2 (hk _ (by simp)) (ha _ (by simp)) h3 (hk _ (by simp)) (ha _ (by simp))
 .obtain ⟨x,y,rfl,h2,h3⟩:=gD hx;exact Ha (t0:=t) hp hr h2 (hk _ (by simp)) (ha _ (by simp)) h3 (hk _ (by simp)) (ha _ (by simp))
 .--clear
  obtain⟨y,rfl,h2⟩:=ga hx;exact Eb hp hr h2 (hk _ (by simp)) (ha _ (by simp))
 .--makeMap
  obtain rfl:=jB hx;split at hp
  .rename_i kt vt;obtain⟨hq,hp2⟩:=aK hp;simp only[af,beq_iff_eq]at hq;obtain⟨⟨⟨rfl,rfl⟩,q3⟩,q4⟩:=hq;obtain⟨ks,hks⟩:=Option.isSome_iff_exists.1 q4;exact .new hr hp2 (x:=.c (.om s.next)) (fun _=>rfl) ⟨q3,⟨ks,hks⟩,rfl⟩ trivial (bM (c_ rfl rfl)) (aT _) fun i hi=>by simp at hi
  .simp at hp
 .obtain ⟨x,y,rfl,h2,h3⟩:=gD hx;exact D3 hr h2 h3 hp
 .obtain ⟨x,y,w,rfl,h2,h3,h4⟩:=Ns hx;rw[iS h3];exact B4 hr h2 h4 hp
 .simp at hp
end
end Go.Ev
