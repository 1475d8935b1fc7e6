/- Operations that do not fail, against the abstract machine's, second part. Conditions: as stated. -/
import Derived.Test.YtingpmogbibghaaFh
open Bool renaming and_eq_true->ai,and_eq_true_iff->cH,and_true->lK,eq_iff_iff->gY
open Int renaming toNat_natCast->Z0
open List renaming append_assoc->aI,cons_append->aU,drop_drop->dT,flatMap_cons->bo,flatten_cons->eL,getElem?_eq_getElem->aB,length->jp,length_append->au,length_cons->cg,length_eq_zero_iff->aQ,length_map->aF,map->nf,map_append->gr,map_cons->aD,map_drop->gJ,map_map->gR,map_nil->aZ,map_take->iq,mem_append->ap,mem_append_left->aA,mem_append_right->aC,mem_cons->aJ,mem_cons_of_mem->av,mem_cons_self->bh,mem_singleton->aq,nil_append->bi,not_mem_nil->ju,replicate->ak,replicate_succ->ga,singleton_append->bd
open List.cons renaming inj->bT,injEq->dP
open Nat renaming add_assoc->cX,add_mul->bB,le_of_ble_eq_true->jP,le_refl->am,le_succ->bE,lt_succ_self->bc
open Option.some renaming inj->aa,injEq->ce
open Prod.mk renaming inj->af
open Sigma.mk renaming inj->kf
namespace Go.Ev
section
variable{h:H2}{n:Nat}{h1:bD}
theorem Ql{a b:Value}(he:TK a b=true):a=b:=by unfold TK at he;split at he<;>simp_all
theorem sJ:∀{a b:List Value},uP a b=true->a=b:=by
 intro a;induction a with
 |nil=>intro b he;cases b<;>first|rfl|(simp[uP]at he)
 |cons x a ih=>intro b he;cases b with|nil=>simp[uP]at he|cons y b=>simp only[uP,ai]at he;rw[Ql he.1,ih he.2]
theorem ue(a b:List Value):fL (a++b)=fL a++fL b:=by simp[fL]
theorem sI:∀(t:Ty),lJ t=true->aS t (tT t)=dg (oL t):=by
 intro t;induction t with
 |pr a c iha ihc=>intro hd;simp only[lJ,ai]at hd;simp[aS,tT,oL,dg,iha hd.1,ihc hd.2]
 |st t ih=>intro hd;exact ih hd
 |ar m t ih=>intro hd;have e:=ih hd;simp only[aS,tT,oL];clear hd ih;induction m with|zero=>rfl|succ m ihm=>simp only[ga,bo,eL,e,dg,gr]at ihm|-;rw[ihm]
 |o k=>intro hd;simp[lJ]at hd
 |mp k v=>intro hd;simp[lJ]at hd
 |_=>intro _;rfl
theorem zd:∀(t:Ty),(eW (Cs t).1 false t=true->fD h (Cs t).1 (fL (oL t))/\fB n h (Cs t).1)/\(eW (Cs t).2 true t=true->fD h (Cs t).2 (fL (oL t))/\fB n h (Cs t).2):=by
 have one:∀(t:Ty)(v:V),(fD h v (fL (oL t))/\fB n h v)->(fD h (.co v .ni) (fL (oL t))/\fB n h (.co v .ni)):=fun t v hv=>⟨⟨_,[],by simp,hv.1,rfl⟩,hv.2,trivial⟩;have dt:∀(t:Ty),lJ t=true->fD h (.x t (tT t)) (fL (oL t)):=fun t hd=>⟨hd,by rw[sI t hd];simp[fL,dg]⟩;intro t;induction t with
 |pr a c iha ihc=>refine⟨fun hf=>by simp[Cs,eW]at hf,fun hf=>?_⟩;simp only[Cs,eW,ai]at hf;obtain⟨q1,q3⟩:=iha.1 hf.1;obtain⟨q4,q5⟩:=ihc.2 hf.2;exact⟨⟨_,_,ue _ _,q1,q4⟩,q3,q5⟩
 |st t ih=>cases hd:lJ t with|true=>have:=dt (.st t) hd;simp only[Cs,hd,cond_true];exact⟨fun _=>⟨this,trivial⟩,fun _=>one (.st t) _ ⟨this,trivial⟩⟩|false=>simp only[Cs,hd,cond_false];exact⟨fun hf=>ih.2 hf,fun hf=>one (.st t) _ (ih.2 hf)⟩
 |sl t ih=>cases hd:lJ t with|true=>have:=dt (.sl t) hd;simp only[Cs,hd,cond_true];exact⟨fun _=>⟨this,trivial⟩,fun _=>one (.sl t) _ ⟨this,trivial⟩⟩|false=>simp only[Cs,hd,cond_false];exact⟨fun _=>⟨rfl,trivial⟩,fun _=>one (.sl t) _ ⟨rfl,trivial⟩⟩
 |ar m t ih=>cases hd:lJ t with|true=>have:=dt (.ar m t) hd;simp only[Cs,hd,cond_true];exact⟨fun _=>⟨this,trivial⟩,fun _=>one (.ar m t) _ ⟨this,trivial⟩⟩|false=>simp only[Cs,hd,cond_false];exact⟨fun hf=>by simp[eW]at hf,fun hf=>by simp[eW]at hf⟩
 |o k=>
  have:fD h (.nl k) (fL (oL (.o k))):=by
   show fL (oL (.o k))=[ER k]
   rcases k with _|_|_|_|k<;>rfl
  exact⟨fun _=>⟨this,trivial⟩,fun _=>one (.o k) _ ⟨this,trivial⟩⟩
 |mp k v=>exact⟨fun _=>⟨rfl,trivial⟩,fun _=>one (.mp k v) _ ⟨rfl,trivial⟩⟩
 |un=>exact⟨fun _=>⟨dt .un rfl,trivial⟩,fun _=>one .un _ ⟨dt .un rfl,trivial⟩⟩
 |i k=>exact⟨fun _=>⟨dt (.i k) rfl,trivial⟩,fun _=>one (.i k) _ ⟨dt (.i k) rfl,trivial⟩⟩
 |b=>exact⟨fun _=>⟨dt .b rfl,trivial⟩,fun _=>one .b _ ⟨dt .b rfl,trivial⟩⟩
 |s=>exact⟨fun _=>⟨dt .s rfl,trivial⟩,fun _=>one .s _ ⟨dt .s rfl,trivial⟩⟩
 |f k=>exact⟨fun _=>⟨dt (.f k) rfl,trivial⟩,fun _=>one (.f k) _ ⟨dt (.f k) rfl,trivial⟩⟩
theorem z4{t:Ty}{v w:V}{cs:List C}(hw:NM t v=some w)(hv:fD h v cs)(hk:fB n h v):fD h w cs/\eW w false t=true/\fB n h w/\uq w=uq v:=by
 unfold NM at hw;split at hw
 .rename_i y hy;obtain rfl:=aa hw;cases hd:lJ t with|false=>rw[hd]at hy;simp at hy|true=>rw[hd,cond_true]at hy;exact⟨⟨hd,qM hy hv⟩,by simp[eW],trivial,(FM hy).symm⟩
 .cases hf:eW v false t with|false=>rw[hf]at hw;simp at hw|true=>rw[hf,cond_true]at hw;obtain rfl:=aa hw;exact⟨hv,hf,hk,rfl⟩
theorem Ni{t:Ty}{v:V}{y:El t}(hy:iL t v=some y):OA v:=by cases v<;>first|trivial|(simp[iL]at hy)
theorem O8{t:Ty}{v:V}(hf:eW v false t=true):OA v:=by cases v<;>first|trivial|(cases t<;>simp[eW]at hf)
theorem GZ{t:Ty}{v w:V}(hw:NM t v=some w):OA v:=by
 unfold NM at hw;split at hw
 .rename_i y hy;cases hd:lJ t with|false=>rw[hd]at hy;simp at hy|true=>rw[hd,cond_true]at hy;exact Ni hy
 .cases hf:eW v false t with|false=>rw[hf]at hw;simp at hw|true=>exact O8 hf
theorem Rk{t:Ty}{v:V}(hf:eW v false t=true)(ha:oI t=true):uq v=true:=by
 cases t<;>simp[oI]at ha
 all_goals(cases v<;>first|rfl|(simp[eW]at hf;done)|skip)
 .simp only[eW,decide_eq_true_eq]at hf;subst hf;rfl
 .simp only[eW,decide_eq_true_eq]at hf;subst hf;rfl
theorem Nm{t:Ty}:∀(is:List Nat)(ps:List (Nat×Nat))(ws:List V)(c c':V)(cs:List C)(xs:List TV),yH t is ps ws c=some c'->eW c false t=true->fD h c cs->fB n h c->nv h ws xs->(∀w∈ws,fB n h w)->
  ∃cs',ot cs (ps.zip xs)=some cs'/\fD h c' cs'/\fB n h c'/\eW c' false t=true:=by
 intro is;induction is with
 |nil=>
  intro ps ws c c' cs xs hb hf hc hk hx hw;cases ps with
  |cons p ps=>simp[yH]at hb
  |nil=>cases ws with|cons w ws=>simp[yH]at hb|nil=>obtain rfl:=aa hb;exact⟨cs,by simp[ot],hc,hk,hf⟩
 |cons i is ih=>
  intro ps ws c c' cs xs hb hf hc hk hx hw;cases ps with
  |nil=>simp[yH]at hb
  |cons p ps=>
   obtain⟨off,m⟩:=p;cases ws with
   |nil=>simp[yH]at hb
   |cons w ws=>
    obtain⟨x,ys,rfl,hx1,hx2⟩:=gz hx;have hw1:=hw w (by simp)
    have nW:∀(pe:Pe)(a:Ty),sG t [pe]=some a->JP t [pe]->nU t [pe]=off->bY a=m->(match NM a w with|some w=>(match pI c [pe] w with|some c=>bif eW c false t then yH t is ps ws c else none|none=>none)|none=>none)=some c'->
      ∃cs',ot cs (((off,m),x)::ps.zip ys)=some cs'/\fD h c' cs'/\fB n h c'/\eW c' false t=true:=by
     intro pe a h1 h2 h3 h4 hb;split at hb
     .rename_i w1 hw1';obtain⟨cw,q1,q2⟩:=rV (pQ (GZ hw1') hx1);split at hb
      .rename_i c1 hc1;cases hfc:eW c1 false t with|false=>rw[hfc]at hb;simp at hb|true=>rw[hfc,cond_true]at hb;obtain⟨k1,k2,k3,_⟩:=z4 hw1' q1 hw1;have hl:=iY k1;rw[ie _ _ _ k2,h4]at hl;have hsp:=xo [pe] c t w1 c1 cs cw a hf hc h2 hc1 h1 k1 (by rw[hl,h4]);rw[h3]at hsp;have hle:=xA [pe] t a h1 h2;have hcl:=iY hc;rw[ie _ _ _ hf]at hcl;obtain⟨cs',e1,e2,e3,e4⟩:=ih ps ws c1 c' _ ys hb hfc hsp (H7 _ _ _ _ hk k3 hc1) hx2 fun w hw'=>hw w (by simp[hw']);refine⟨cs',?_,e2,e3,e4⟩;simp only[ot,q2];rw[if_pos ⟨hl,by omega⟩,e1]
      .simp at hb
     .simp at hb
    cases t with
    |st u=>
     simp only[yH]at hb;split at hb
     .rename_i a ha;cases hq:(pV u i==off)&&(bY a==m)with|false=>rw[hq]at hb;simp at hb|true=>rw[hq,cond_true]at hb;simp only[ai,beq_iff_eq]at hq;exact nW (.fd i) a (by simp[sG,ha]) ⟨a,ha,by cases a<;>trivial⟩ (by simp only[nU,ha];rw[hq.1];cases a<;>rfl) hq.2 hb
     .simp at hb
    |ar k u=>simp only[yH]at hb;cases hq:(i*bY u==off)&&(bY u==m)&&decide (i<k)with|false=>rw[hq]at hb;simp at hb|true=>rw[hq,cond_true]at hb;simp only[ai,beq_iff_eq,decide_eq_true_eq]at hq;exact nW (.ix i) u (by simp[sG]) ⟨hq.2,by cases u<;>trivial⟩ (by simp only[nU];rw[hq.1.1];cases u<;>rfl) hq.1.2 hb
    |_=>simp[yH]at hb
end
theorem RS(a b:ByteArray):(a==b)=decide (a=b):=by obtain⟨x⟩:=a;obtain⟨y⟩:=b;show ByteArray.beq ⟨x⟩ ⟨y⟩=_;unfold ByteArray.beq;rw[gY];simp[ByteArray.ext_iff]
def wZ(t:Ty)(x:El t):List Value:=(aS t x).map fun|.lit y=>y|_=>.nilFunc
theorem yo{k1 k2:List Kd}{a1 a2 b1 b2:List Value}{p q:Bool}(h1:gH k1 a1 b1=some p)(h2:gH k2 a2 b2=some q):gH (k1++k2) (a1++a2) (b1++b2)=some (p&&q):=by
 induction k1 generalizing a1 b1 p with
 |nil=>cases a1<;>cases b1<;>simp[gH]at h1;subst h1;simpa using h2
 |cons k k1 ih=>
  cases a1<;>cases b1<;>simp only[gH]at h1<;>first|cases h1;done|skip
  split at h1
  .rename_i c d hc hd;obtain rfl:=aa h1;simp only[aU,gH,hc,ih hd,Bool.and_assoc]
  .simp at h1
theorem Ag{k1 k2:List Kd}{a1 a2:List Value}(h1:y6 k1 a1=true)(h2:y6 k2 a2=true):y6 (k1++k2) (a1++a2)=true:=by
 induction k1 generalizing a1 with
 |nil=>cases a1<;>simp[y6]at h1;simpa using h2
 |cons k k1 ih=>
  cases a1<;>simp only[y6]at h1<;>first|cases h1;done|skip
  simp only[ai]at h1;simp[y6,h1.1,ih h1.2]
theorem y5:∀(t:Ty)(ks:List Kd),Ff t=some ks->(∀x,aS t x=(wZ t x).map .lit)/\(∀x,y6 ks (wZ t x)=true)/\(∀a b:El t,gH ks (wZ t a) (wZ t b)=some (decide (a=b)))/\ks.length=bY t:=by
 intro t;induction t with
 |pr a c iha ihc=>
  intro ks hk;simp only[Ff]at hk;split at hk
  .rename_i x y hx hy;obtain rfl:=aa hk;obtain⟨a1,a2,a3,a4⟩:=iha x hx;obtain⟨c1,c2,c3,c4⟩:=ihc y hy;have e:∀v:El (.pr a c),wZ (.pr a c) v=wZ a v.1++wZ c v.2:=fun v=>by simp[wZ,aS]
   refine⟨fun v=>by rw[e,gr,<-a1,<-c1];rfl,fun v=>by rw[e];exact Ag (a2 _) (c2 _),fun u v=>?_,by simp[bY,a4,c4]⟩;rw[e,e,yo (a3 _ _) (c3 _ _)];congr 1;rw[gY];simp[Prod.ext_iff]
  .simp at hk
 |st t ih=>intro ks hk;exact ih ks hk
 |ar m t ih=>
  intro ks hk;simp only[Ff]at hk;split at hk
  .rename_i x hx;obtain rfl:=aa hk;obtain⟨a1,a2,a3,a4⟩:=ih x hx;have e:∀v:El (.ar m t),wZ (.ar m t) v=v.1.flatMap (wZ t):=fun v=>by simp only[wZ,aS,List.map_flatMap];rfl
   refine⟨fun v=>?_,fun v=>?_,fun u v=>?_,?_⟩
   .rw [e];simp only[aS,List.map_flatMap];congr 1;funext y;exact a1 y
   .rw [e];obtain⟨l,hl⟩:=v;clear e hk ih;simp only;induction l generalizing m with|nil=>subst hl;rfl|cons y l ihl=>subst hl;simp only[cg,ga,eL,bo];exact Ag (a2 y) (ihl _ rfl)
   .rw [e,e];obtain⟨l,hl⟩:=u;obtain⟨r,hr⟩:=v
    have key:∀(m:Nat)(l r:List (El t)),l.length=m->r.length=m->gH (ak m x).flatten (l.flatMap (wZ t)) (r.flatMap (wZ t))=some (decide (l=r)):=by
     intro m;induction m with
     |zero=>intro l r h1 h2;obtain rfl:=aQ.1 h1;obtain rfl:=aQ.1 h2;rfl
     |succ m ihm=>
      intro l r h1 h2;cases l with
      |nil=>simp at h1
      |cons y l=>cases r with|nil=>simp at h2|cons z r=>simp only[ga,eL,bo];rw[yo (a3 y z) (ihm l r (by simpa using h1) (by simpa using h2))];congr 1;rw[gY];simp
    rw[key m l r hl hr];congr 1;rw[gY];simp only[decide_eq_true_eq];exact⟨fun h=>Subtype.ext h,fun h=>congrArg Subtype.val h⟩
   .simp [bY,a4]
  .simp at hk
 |i k=>intro ks hk;obtain rfl:=aa hk;refine⟨fun _=>rfl,fun x=>by simp[wZ,aS,y6,J4],fun a b=>?_,rfl⟩;simp only[wZ,aS,aD,aZ,gH,DI,and_self,if_true,lK];congr 1
 |b=>intro ks hk;obtain rfl:=aa hk;refine⟨fun _=>rfl,fun x=>by simp[wZ,aS,y6,J4],fun a b=>?_,rfl⟩;simp only[wZ,aS,aD,aZ,gH,DI,lK];congr 1
 |s=>intro ks hk;obtain rfl:=aa hk;refine⟨fun _=>rfl,fun x=>by simp[wZ,aS,y6,J4],fun a b=>?_,rfl⟩;simp only[wZ,aS,aD,aZ,gH,DI,lK];rw[RS]
 |_=>intro ks hk;simp[Ff]at hk
section
variable{h:H2}{n:Nat}{h1:bD}
theorem KH{z:Bool}{op:BinOp}{k k':IntKind}{a b:Int}{v:V}(hb:RQ z op k k' a b=some v)(hz:z=true->0<b):∃y,pM op (.int k a) (.int k' b)=some y/\gm h v (lv y)/\fB n h v:=by
 have one:∀(q:IntKind)(c:Int),gm h (.x (.i q) c) (lv (.int q c)):=fun q c=>cj (dV rfl ⟨rfl,rfl⟩);have onb:∀(c:Bool),gm h (.x .b c) (lv (.bool c)):=fun c=>cj (dV rfl ⟨rfl,rfl⟩);cases op<;>simp only[RQ]at hb
 all_goals first
  |(cases z<;>simp only[cond_true,cond_false]at hb<;>first|(cases hb;done)|skip
    have:=hz rfl;obtain rfl:=aa hb;refine⟨_,by simp only[pM];rw[if_neg (by omega)];rfl,one _ _,trivial⟩)
  |skip
 all_goals
  by_cases hk:k=k'
  .subst hk;simp only[decide_true,cond_true]at hb
   first
    |(cases hb;done)
    |(obtain rfl:=aa hb
      refine⟨_,by simp only[pM,if_true];rfl,?_,trivial⟩
      first|exact one _ _|exact onb _)
    |(obtain rfl:=aa hb
      first
       |exact⟨.int k (AR k a b),by simp only[pM,if_true,Ds];rfl,one _ _,trivial⟩
       |exact⟨.int k (VO k a b),by simp only[pM,if_true,RX];rfl,one _ _,trivial⟩
       |exact⟨.int k (RU k a b),by simp only[pM,if_true,Px];rfl,one _ _,trivial⟩
       |exact⟨.int k (za k a b),by simp only[pM,if_true,AO];rfl,one _ _,trivial⟩)
    |(cases z<;>simp only[cond_true,cond_false]at hb<;>first|(cases hb;done)|skip
      have:=hz rfl;obtain rfl:=aa hb;refine⟨_,by simp only[pM,if_true];rw[if_neg (by omega)],one _ _,trivial⟩)
  .simp [hk]at hb
theorem DQ{h:H2}{k:FloatKind}{a:Nat}{x:TV}(hx:gm h (.x (.f k) a) x):x=lv (.float k a):=by obtain⟨c,rfl,_,hc⟩:=jM (v:=.x (.f k) a) hx rfl;obtain rfl:=(bT hc).1;rfl
theorem HJ{op:BinOp}{k k':FloatKind}{a b:Nat}{v:V}(hb:Nq op k k' a b=some v):∃y,o7 op (.float k a) (.float k' b)=some y/\gm h v (lv y)/\fB n h v:=by
 have one:∀(q:FloatKind)(c:Nat),gm h (.x (.f q) c) (lv (.float q c)):=fun q c=>cj (dV rfl ⟨rfl,rfl⟩);have onb:∀(c:Bool),gm h (.x .b c) (lv (.bool c)):=fun c=>cj (dV rfl ⟨rfl,rfl⟩);unfold Nq at hb;by_cases hk:k=k'
 .subst hk;simp only[decide_true,cond_true]at hb;have ar:∀(f:Option Nat),∃y,(match f.map (Value.float k)with|some v=>some v|none=>if f=none then some (Value.float k (uS k))else none)=some y/\gm h (.x (.f k) (f.getD (uS k))) (lv y)/\fB n h (.x (.f k) (f.getD (uS k))):=by intro f;cases f with|none=>exact⟨_,rfl,one _ _,trivial⟩|some c=>exact⟨_,rfl,one _ _,trivial⟩
  cases op<;>first
   |(cases hb;done)
   |(obtain rfl:=aa hb
     first
      |exact⟨_,by simp only[o7,pM,if_true];rfl,onb _,trivial⟩
      |(simp only[o7,pM,CW,if_true]
        first|exact ar (k.format.add a b)|exact ar (k.format.sub a b)|exact ar (k.format.mul a b)|exact ar (k.format.div a b)))
 .simp [hk]at hb
theorem JX{m:Bool}{k:FloatKind}:∀{r:List V}{x y:Nat}{xs:List TV},JY m k x r=some y->nv h r xs->L5 m (.float k x) (xs.map some)=some (.float k y):=by
 intro r;induction r with
 |nil=>intro x y xs hm hx;obtain rfl:=lY hx;obtain rfl:=aa hm;rfl
 |cons v r ih=>
  intro x y xs hm hx;obtain⟨x1,ys,rfl,h1,h2⟩:=gz hx;cases v with
  |x t c=>
   cases t with
   |f k'=>
    simp only[JY]at hm;by_cases hk:k'=k
    .subst hk;simp only[decide_true,cond_true]at hm;obtain rfl:=DQ h1;have:=ih hm h2;have e:DF m (.float k' x) (.float k' c)=some (.float k' (bif m then Rl k' x c else Kh k' x c)):=by cases m<;>simp only[DF,Rl,Kh,cond_true,cond_false,if_true]<;>(cases k'.format.order x c with|none=>rfl|some o=>cases o<;>rfl)
     simp only[aD,lv,L5,e];exact this
    .simp [hk]at hm
   |_=>simp[JY]at hm
  |_=>simp[JY]at hm
theorem KG{op:BinOp}{a b:ByteArray}{v:V}(hb:RP op a b=some v):∃y,pM op (.string a) (.string b)=some y/\gm h v (lv y)/\fB n h v:=by
 have onb:∀(c:Bool),gm h (.x .b c) (lv (.bool c)):=fun c=>cj (dV rfl ⟨rfl,rfl⟩);cases op<;>simp only[RP]at hb<;>first|(cases hb;done)|skip
 all_goals(obtain rfl:=aa hb;exact⟨_,rfl,onb _,trivial⟩)
theorem L6{m:Bool}{k:IntKind}:∀{r:List V}{x y:Int}{xs:List TV},Sf m k x r=some y->nv h r xs->L5 m (.int k x) (xs.map some)=some (.int k y):=by
 intro r;induction r with
 |nil=>intro x y xs hm hx;obtain rfl:=lY hx;obtain rfl:=aa hm;rfl
 |cons v r ih=>
  intro x y xs hm hx;obtain⟨x1,ys,rfl,h1,h2⟩:=gz hx;cases v with
  |x t c=>
   cases t with
   |i k'=>
    simp only[Sf]at hm;by_cases hk:k'=k
    .subst hk;simp only[decide_true,cond_true]at hm;obtain rfl:=lf h1;have:=ih hm h2;cases m<;>simpa[L5,DF]using this
    .simp [hk]at hm
   |_=>simp[Sf]at hm
  |_=>simp[Sf]at hm
theorem oB{α:Type}:∀(l:List α),eX (l.map some)=some l:=by intro l;induction l with|nil=>rfl|cons a l ih=>simp[eX,ih]
theorem LX{kind:Nat}{v w:V}{x:TV}{neg:Bool}{c:Call}{nx:Nat}(hx:gm h v x)(ha:iZ h v=true)(hn:z7 h kind v=some w):
  ∃y,cI c (.ss kind neg) [some x] h1 nx=some (y,[],[],nx)/\gm h (bif neg then LZ w else w) y/\fB n h (bif neg then LZ w else w):=by
 have kb:∀b,gm h (.kb b) (tB b):=fun b=>cj (dV rfl rfl);have xb:∀b,gm h (.x .b b) (tB b):=fun b=>cj (dV rfl ⟨rfl,rfl⟩)
 have sl:∀q,uQ h v=some q->(bif kind==0 then(match uQ h v with|some ⟨_,s,_⟩=>some (.x .b s.fT)|none=>none)else none)=some w->
   ∃y,cI c (.ss kind neg) [some x] h1 nx=some (y,[],[],nx)/\gm h (bif neg then LZ w else w) y/\fB n h (bif neg then LZ w else w):=by
  intro q hq hw;cases hkk:kind==0 with
  |false=>rw[hkk]at hw;simp at hw
  |true=>
   obtain rfl:kind=0:=by simpa using hkk
   rw[hq]at hw;simp only[hkk,cond_true]at hw;obtain rfl:=aa hw;refine⟨_,Q1 hx ha hq,?_⟩;cases neg
   .exact ⟨xb _,trivial⟩
   .exact ⟨xb _,trivial⟩
 cases v with
 |nl k=>
  simp only[z7]at hn;cases hkk:(k==kind)&&Nat.blt k 3 with
  |false=>rw[hkk]at hn;simp at hn
  |true=>
   rw[hkk,cond_true]at hn;obtain rfl:=aa hn;simp only[ai,beq_iff_eq]at hkk;obtain⟨rfl,hlt⟩:=hkk;have hlt:k<3:=jP hlt;rw[xe hx]
   match k,hlt with|0,_=>cases neg<;>exact⟨_,rfl,kb _,trivial⟩|1,_=>cases neg<;>exact⟨_,rfl,kb _,trivial⟩|2,_=>cases neg<;>exact⟨_,rfl,kb _,trivial⟩
 |pt t v=>
  simp only[z7]at hn;cases hkk:kind==1 with
  |false=>rw[hkk]at hn;simp at hn
  |true=>
   rw[hkk,cond_true]at hn;obtain rfl:=aa hn;obtain rfl:kind=1:=by simpa using hkk
   rw[(zk hx).2];cases neg<;>exact⟨_,rfl,kb _,trivial⟩
 |op id t p=>
  simp only[z7]at hn;cases hkk:kind==1 with
  |false=>rw[hkk]at hn;simp at hn
  |true=>
   rw[hkk,cond_true]at hn;obtain rfl:=aa hn;obtain rfl:kind=1:=by simpa using hkk
   rw[xd hx];cases neg<;>exact⟨_,rfl,kb _,trivial⟩
 |ep id m t p=>
  simp only[z7]at hn;cases hkk:kind==1 with
  |false=>rw[hkk]at hn;simp at hn
  |true=>
   rw[hkk,cond_true]at hn;obtain rfl:=aa hn;obtain rfl:kind=1:=by simpa using hkk
   rw[tW hx];cases neg<;>exact⟨_,rfl,kb _,trivial⟩
 |fn z f l=>
  simp only[z7]at hn;cases hkk:kind==2 with
  |false=>rw[hkk]at hn;simp at hn
  |true=>
   rw[hkk,cond_true]at hn;obtain rfl:=aa hn;obtain rfl:kind=2:=by simpa using hkk
   rcases F_ hx with⟨_,ds,_,rfl⟩|⟨_,cs,_,rfl⟩<;>(cases neg<;>exact⟨_,rfl,kb _,trivial⟩)
 |x t v=>cases hq:uQ h (.x t v)with|none=>simp[z7,hq]at hn|some q=>exact sl q hq hn
 |so id=>cases hq:uQ h (.so id)with|none=>simp[z7,hq]at hn|some q=>exact sl q hq hn
 |sb id ver lo t r=>cases hq:uQ h (.sb id ver lo t r)with|none=>simp[z7,hq]at hn|some q=>exact sl q hq hn
 |_=>simp[z7,uQ]at hn
theorem MR{off m i:Nat}{v w:V}{x:TV}{c:Call}{nx:Nat}(hx:gm h v x)(hk:fB n h v)(hw:Hi off m i v=some w):
  ∃y,cI c (.fieldAddr off m) [some x] h1 nx=some (y,[],[],nx)/\gm h w y/\fB n h w:=by
 have path:∀(t u a:Ty)(p:qU),sG t p=some (.st u)->DG u i=some a->JP t p->JP t (p++[.fd i])/\nU t (p++[.fd i])=nU t p+pV u i:=by
  intro t u a p;induction p generalizing t with
  |nil=>
   intro h1 h2 _;have e:sG t []=some t:=by cases t<;>rfl
   obtain rfl:t=.st u:=by rw[e]at h1;exact aa h1
   refine⟨⟨a,h2,by cases a<;>trivial⟩,?_⟩;simp only[bi,nU,h2];cases a<;>simp[nU]
  |cons q p ih=>
   intro h1 h2 h3;cases q with
   |fd j=>cases t with|st t=>obtain⟨b2,hb,h3⟩:=h3;simp only[sG,hb]at h1;obtain⟨q1,q2⟩:=ih b2 h1 h2 h3;refine⟨⟨b2,hb,q1⟩,?_⟩;simp only[aU,nU,hb,q2];exact(cX _ _ _).symm|_=>exact h3.elim
   |ix k=>cases t with|ar l t=>obtain⟨hk,h3⟩:=h3;obtain⟨q1,q2⟩:=ih t h1 h2 h3;refine⟨⟨hk,q1⟩,?_⟩;simp only[aU,nU,q2];exact(cX _ _ _).symm|_=>exact h3.elim
 cases v with
 |op id t p=>
  simp only[Hi]at hw;split at hw
  .rename_i u hu;split at hw
   .rename_i a hf;cases hq:(pV u i==off)&&(bY a==m)with
    |false=>rw[hq]at hw;simp at hw
    |true=>
     rw[hq,cond_true]at hw;obtain rfl:=aa hw;simp only[ai,beq_iff_eq]at hq;obtain⟨q1,q2⟩:=path t u a p hu hf hk.2;rw[xd hx];refine⟨_,rfl,cj (dV rfl ?_),hk.1,q1⟩;show[_]=[_]
     rw[q2,hq.1]
   .simp at hw
  .simp at hw
 |ep id k t p=>
  simp only[Hi]at hw;split at hw
  .rename_i u hu;split at hw
   .rename_i a hf;cases hq:(pV u i==off)&&(bY a==m)with
    |false=>rw[hq]at hw;simp at hw
    |true=>
     rw[hq,cond_true]at hw;obtain rfl:=aa hw;simp only[ai,beq_iff_eq]at hq;obtain⟨q1,q2⟩:=path t u a p hu hf hk.2.1;rw[tW hx];refine⟨_,rfl,cj (dV rfl ?_),hk.1,q1,hk.2.2⟩;show[_]=[_]
     rw[q2,hq.1]
   .simp at hw
  .simp at hw
 |pt t v=>
  cases t with
  |st u=>
   simp only[Hi]at hw;split at hw
   .rename_i a y hy;cases hq:(pV u i==off)&&(bY a==m)with
    |false=>rw[hq]at hw;simp at hw
    |true=>
     rw[hq,cond_true]at hw;obtain rfl:=aa hw;simp only[ai,beq_iff_eq]at hq;obtain⟨a',y',e,f1,f2,f3⟩:=sj _ _ _ _ hy;cases e;obtain⟨hd,rfl⟩:=zk hx;refine⟨_,?_,cj (dV (c:=.d (.pt (aS a y))) rfl ⟨AC u _ _ hd f1,rfl⟩),trivial⟩;have hle:off+m<=(aS (.st u) v).length:=by rw[bO];show _<=bY u;omega
     have e2:((aS (.st u) v).drop off).take m=aS a y:=by rw[<-hq.1,<-hq.2];exact f3
     simp only[cI,lg];rw[if_pos hle,e2]
   .simp at hw
  |_=>simp[Hi]at hw
 |_=>simp[Hi]at hw
theorem JR:∀(l:V)(i:Nat)(w:V)(cs:List C),fD h l cs->tM l i=some w->∃cw,fD h w cw/\O5 l i+zp w<=cs.length/\(cs.drop (O5 l i)).take (zp w)=cw:=by
 intro l;induction l with
 |co a r iha ihr=>intro i w cs hv hw;obtain⟨x,y,rfl,k1,k2⟩:=hv;have hl:=iY k1;cases i with|zero=>obtain rfl:=aa hw;refine⟨x,k1,by simp[O5];omega,?_⟩;simp only[O5,List.drop_zero];rw[<-hl,List.take_left]|succ i=>obtain⟨cw,q1,q2,q3⟩:=ihr i w y k2 hw;refine⟨cw,q1,by simp only[O5,au];omega,?_⟩;simp only[O5];rw[<-dT,<-hl,List.drop_left,q3]
 |_=>intro i w cs hv hw;simp[tM]at hw
theorem OK:∀(l:V)(i:Nat)(w:V)(xs:List TV),Cw h l xs->tM l i=some w->∃x,xs[i]?=some x/\tX h w x:=by
 intro l;induction l with
 |co a r iha ihr=>intro i w xs hv hw;obtain⟨x,ys,rfl,k1,k2⟩:=hv;cases i with|zero=>obtain rfl:=aa hw;exact⟨x,rfl,k1⟩|succ i=>exact ihr i w ys k2 hw
 |_=>intro i w xs hv hw;simp[tM]at hw
end
section
variable{h:H2}{n:Nat}{h1:bD}
def R6(h:H2)(n:Nat)(h1:bD)(k:K)(xs:List TV)(v:V)(l:List Nat):Prop:=∀(c:Call)(nx:Nat),∃x aw,cI c k (xs.map some) h1 nx=some (x,[],aw,nx)/\gm h v x/\fB n h v/\∀i∈aw,i∈l
theorem R6.of{k:K}{xs:List TV}{v:V}{x:TV}(he:∀(c:Call)(nx:Nat),cI c k (xs.map some) h1 nx=some (x,[],[],nx))(hx:gm h v x)(hk:fB n h v):R6 h n h1 k xs v []:=fun c nx=>⟨x,[],he c nx,hx,hk,fun i hi=>by simp at hi⟩
theorem xb(b:Bool):gm h (.x .b b) (tB b):=cj (dV rfl ⟨rfl,rfl⟩)
theorem xf(k:FloatKind)(a:Nat):gm h (.x (.f k) a) (lv (.float k a)):=cj (dV rfl ⟨rfl,rfl⟩)
theorem xi(k:IntKind)(a:Int):gm h (.x (.i k) a) (tI k a):=cj (dV rfl ⟨rfl,rfl⟩)
theorem Sc(a:ByteArray):gm h (.x .s a) (.c (.d (dS a))):=cj (dV rfl ⟨rfl,rfl⟩)
def Sd(t:Ty)(y:El t):TV:=if oI t=true then .agg ((aS t y).map .d)else match aS t y with|d::_=>.c (.d d)|[]=>.jA []
theorem HW{t:Ty}(y:El t){va:Bool}(hv:oI t=va)(h1:(va||bY t==1)=true):qn va (aS t y)=some (Sd t y):=by
 subst hv;unfold qn Sd;cases ha:oI t with
 |true=>rfl
 |false=>
  rw[ha]at h1;have:=bO t y;rw[show bY t=1 by simpa using h1]at this;cases he:aS t y with
  |nil=>rw[he]at this;simp at this
  |cons d r=>
   rw[he]at this;have:r=[]:=by simpa using this
   subst this;rfl
theorem KZ{t:Ty}{y:El t}(hd:lJ t=true)(h1:(oI t||bY t==1)=true):tX h (.x t y) (Sd t y):=by
 unfold Sd;cases ha:oI t with
 |true=>exact zm ha ⟨hd,rfl⟩
 |false=>
  rw[ha]at h1;have:=bO t y;rw[show bY t=1 by simpa using h1]at this;cases he:aS t y with
  |nil=>rw[he]at this;simp at this
  |cons d r=>
   rw[he]at this;have:r=[]:=by simpa using this
   subst this;exact dV ha ⟨hd,by rw[he];rfl⟩
theorem KL(f:TV->Option C)(hf:∀c,f (.c c)=some c):∀(cs:List C),eX ((cs.map TV.c).map f)=some cs:=by intro cs;induction cs with|nil=>rfl|cons c cs ih=>simp only[aD,hf,eX,ih]
theorem Ad:∀(l:List Value),mO (l.map fun v=>C.d (.lit v))=some l:=by intro l;induction l with|nil=>rfl|cons v l ih=>simp[mO,ih]
theorem Fc{kt:Ty}{ks:List Kd}{v:V}{x:TV}{y:El kt}{ka:Bool}(hx:gm h v x)(hc:uL kt v=some y)(hk:Ff kt=some ks)(ha:oI kt=ka):pU ka ks x=some (wZ kt y):=by
 obtain⟨h1,h2,_,h4⟩:=y5 kt ks hk;obtain⟨g1,g2⟩:=wM hx hc;cases ka with
 |true=>
  rw[g1 ha];have e:(aS kt y).map C.d=(wZ kt y).map fun v=>C.d (.lit v):=by rw[h1 y,gR];rfl
  simp only[pU];rw[if_pos ⟨trivial,by rw[aF,bO,h4]⟩,e,Ad];simp only[h2 y,if_true]
 |false=>
  obtain⟨d,hd,rfl⟩:=g2 ha;have hl:=bO kt y;rw[hd]at hl;have h5:=h1 y;rw[hd]at h5;cases hv:wZ kt y with
  |nil=>rw[hv]at h5;simp at h5
  |cons q r=>
   rw[hv]at h5;simp only[aD,dP]at h5;obtain⟨rfl,h6⟩:=h5;have:r=[]:=by simpa using h6.symm
   subst this;simp only[pU];rw[if_pos ⟨trivial,by rw[h4,<-hl];rfl⟩];have h7:=h2 y;rw[hv]at h7;simp only[mO,h7,if_true]
theorem L9{v:V}{q:(k:Ty)×(v:Ty)×Mp (El k) (El v)×List Nat}{x:TV}(hr:HR n h1 h)(hm:OQ h v=some q)(hx:gm h v x):
  ∃id,v=.om id/\x=.c (.om id)/\q.2.2.2=[id]/\fO h id=some (.mp q.1 q.2.1 q.2.2.1)/\az h1 id=F1 (oI q.1) (oI q.2.1) (wZ q.1) (aS q.2.1) q.2.2.1:=by
 cases v with
 |om id=>
  simp only[OQ]at hm;split at hm
  .rename_i k v m ho;obtain rfl:=aa hm;exact⟨id,rfl,F9 hx,rfl,ho,(hr.ob id _ ho).2.1.2.2⟩
  .simp at hm
 |_=>simp[OQ]at hm
theorem Mb{c:Call}{x y:TV}{H:bD}{l:List Nat}{nx:Nat}(h:cI c (.load false 1) [some x] H nx=some (y,[],l,nx)):cI c .u6 [some x] H nx=some (y,[],l,nx):=by
 cases x with
 |c p=>
  have h:(match iC false 1 p H with|some (v,aw)=>some (v,([]:fN),aw,nx)|none=>none)=some (y,[],l,nx):=h;show(match iC false 1 p H with|some (v,aw)=>some (v,([]:fN),aw,nx)|none=>mF false 1 p H nx)=some (y,[],l,nx);split at h
  .exact h
  .cases h
 |_=>cases h
theorem Jc{o:OP}{vs:List V}{v:V}{l:List Nat}{xs:List TV}(hr:HR n h1 h)(ht:Qs o vs h=some (v,l))(hx:nv h vs xs)(hk:∀w∈vs,fB n h w)(ha:∀w∈vs,iZ h w=true)
  (hp:Oy o.o.args=true->∀a k b,vs=[a,.x (.i k) b]->0<b):R6 h n h1 o.o.k xs v l:=by
 obtain⟨⟨d,k,args,g⟩,t,fi⟩:=o;simp only at hp|-;unfold Qs at ht;simp only at ht;split at ht
 .--mv
  obtain⟨rfl,rfl⟩:=af (aa ht);obtain⟨x,rfl,h2⟩:=iR hx;exact .of (fun _ _=>rfl) h2 (hk _ (by simp))
 .--nilCheck
  obtain⟨x,rfl,h2⟩:=iR hx;have hk1:=hk _ (aq.2 rfl);split at ht
  .obtain ⟨rfl,rfl⟩:=af (aa ht);exact .of (fun _ _=>by rw[(zk h2).2];rfl) h2 hk1
  .obtain ⟨rfl,rfl⟩:=af (aa ht);refine .of (fun _ _=>?_) h2 hk1;rcases F_ h2 with⟨_,ds,_,rfl⟩|⟨_,cs,_,rfl⟩<;>rfl
  .obtain ⟨rfl,rfl⟩:=af (aa ht);exact .of (fun _ _=>by rw[tW h2];rfl) h2 hk1
  .obtain ⟨rfl,rfl⟩:=af (aa ht);exact .of (fun _ _=>by rw[xd h2];rfl) h2 hk1
  .simp at ht
 .--AL int
  rename_i op q a q' b;obtain⟨x,y,rfl,h2,h3⟩:=jz hx;obtain rfl:=lf h2;obtain rfl:=lf h3;split at ht
  .rename_i w hw;obtain⟨rfl,rfl⟩:=af (aa ht);obtain⟨y,h4,h5,h6⟩:=KH (h:=h) (n:=n) hw fun hz=>hp hz _ _ _ rfl;exact .of (fun _ _=>by simp only[nf,cI,o7,h4]) h5 h6
  .simp at ht
 .--AL float
  rename_i op q a q' b;obtain⟨x,y,rfl,h2,h3⟩:=jz hx;obtain rfl:=DQ h2;obtain rfl:=DQ h3;split at ht
  .rename_i w hw;obtain⟨rfl,rfl⟩:=af (aa ht);obtain⟨y,h4,h5,h6⟩:=HJ (h:=h) (n:=n) hw;exact .of (fun _ _=>by show(match o7 op (.float q a) (.float q' b)with|some v=>some (lv v,([]:fN),([]:List Nat),_)|none=>none)=_;rw[h4]) h5 h6
  .simp at ht
 .--AL string
  obtain⟨x,y,rfl,h2,h3⟩:=jz hx;obtain rfl:=x9 h2;obtain rfl:=x9 h3;split at ht
  .rename_i w hw;obtain⟨rfl,rfl⟩:=af (aa ht);obtain⟨y,h4,h5,h6⟩:=KG (h:=h) (n:=n) hw;exact .of (fun _ _=>by simp only[nf,cI,o7,h4]) h5 h6
  .simp at ht
 .--vH
  rename_i neg v1 v2;obtain⟨x,y,rfl,h2,h3⟩:=jz hx;split at ht
  .rename_i a b ha' hb';obtain⟨rfl,rfl⟩:=af (aa ht);rw[P8 h2 ha',P8 h3 hb'];refine .of (x:=tB (bif neg then !(a==b)else a==b)) (fun _ _=>?_) (xb _) trivial;cases neg<;>rfl
  .simp at ht
 .--ss
  obtain⟨x,rfl,h2⟩:=iR hx;split at ht
  .rename_i w hw;obtain⟨rfl,rfl⟩:=af (aa ht);intro c nx;obtain⟨y,h4,h5,h6⟩:=LX (n:=n) (h1:=h1) (c:=c) (nx:=nx) h2 (ha _ (by simp)) hw;exact⟨y,[],h4,h5,h6,fun i hi=>by simp at hi⟩
  .simp at ht
 .--Ay
  rename_i neg ks t1 a w;obtain⟨x,y,rfl,h2,h3⟩:=jz hx;split at ht
  .rename_i b hb;cases hq:oI t1&&decide (Ff t1=some ks)with
   |false=>rw[hq]at ht;simp at ht
   |true=>
    rw[hq,cond_true]at ht;obtain⟨rfl,rfl⟩:=af (aa ht);simp only[ai,decide_eq_true_eq]at hq;obtain⟨k1,k2,k3,k4⟩:=y5 t1 ks hq.2;have e1:=(wM (v:=.x t1 a) (u:=t1) (y:=a) h2 (by simp[uL,lP,iL,gN])).1 hq.1;have e2:=(wM h3 hb).1 hq.1;have el:∀z:El t1,mO ((aS t1 z).map C.d)=some (wZ t1 z):=fun z=>by rw[show(aS t1 z).map C.d=(wZ t1 z).map fun v=>C.d (.lit v)by rw[k1 z,gR];rfl,Ad]
    rw[e1,e2];refine .of (x:=tB (bif neg then !(decide (a=b))else decide (a=b))) (fun _ _=>?_) (xb _) trivial;simp only[nf,cI,el,k3];cases neg<;>rfl
  .simp at ht
 .obtain ⟨rfl,rfl⟩:=af (aa ht);obtain⟨x,rfl,h2⟩:=iR hx;rw[xg h2];exact .of (fun _ _=>rfl) (cj (dV rfl rfl)) trivial
 .obtain ⟨rfl,rfl⟩:=af (aa ht);obtain⟨x,rfl,h2⟩:=iR hx;rw[HY h2];exact .of (fun _ _=>rfl) (xb _) trivial
 .obtain ⟨rfl,rfl⟩:=af (aa ht);obtain⟨x,rfl,h2⟩:=iR hx;rw[lf h2];exact .of (fun _ _=>rfl) (xi _ _) trivial
 .obtain ⟨rfl,rfl⟩:=af (aa ht);obtain⟨x,rfl,h2⟩:=iR hx;rw[DQ h2];exact .of (fun _ _=>rfl) (xf _ _) trivial
 .obtain ⟨rfl,rfl⟩:=af (aa ht);obtain⟨x,rfl,h2⟩:=iR hx;rw[lf h2];exact .of (fun _ _=>rfl) (xi _ _) trivial
 .obtain ⟨rfl,rfl⟩:=af (aa ht);obtain⟨x,rfl,h2⟩:=iR hx;rw[lf h2];exact .of (fun _ _=>rfl) (xi _ _) trivial
 .obtain ⟨rfl,rfl⟩:=af (aa ht);obtain⟨x,rfl,h2⟩:=iR hx;rw[lf h2];exact .of (fun _ _=>rfl) (xf _ _) trivial
 .obtain ⟨rfl,rfl⟩:=af (aa ht);obtain⟨x,rfl,h2⟩:=iR hx;rw[x9 h2];exact .of (fun _ _=>rfl) (Sc _) trivial
 .--J1
  rename_i f;cases hc:vs.all Pu with
  |false=>rw[hc]at ht;simp at ht
  |true=>
   rw[hc,cond_true]at ht;obtain⟨rfl,rfl⟩:=af (aa ht);obtain⟨cs,h2,rfl⟩:=K1 hx fun w hw=>by have:=List.all_eq_true.1 hc w hw;cases w<;>first|exact⟨trivial,by simp[Pu]at this;exact this⟩|simp[Pu]at this
   refine .of (x:=.c (.pS f cs)) (fun _ _=>?_) (cj (dV rfl ⟨cs,h2,rfl⟩)) ?_
   .simp only[cI,oB];rw[KL _ fun _=>rfl]
   .clear ht h2 hp ha hc hx;induction vs with|nil=>trivial|cons w vs ih=>exact⟨hk w (by simp),ih fun u hu=>hk u (by simp[hu])⟩
 .--load
  rename_i g m p;obtain⟨x,rfl,h2⟩:=iR hx;split at ht
  .rename_i w l' hl;cases hc:HC h g m w with|false=>rw[hc]at ht;simp at ht|true=>rw[hc,cond_true]at ht;obtain⟨rfl,rfl⟩:=af (aa ht);intro c nx;obtain⟨y,h3,h4,h5⟩:=xF (c:=c) (nx:=nx) hr hl hc h2 (hk _ (by simp));exact⟨y,_,h3,h4,h5,fun i hi=>hi⟩
  .simp at ht
 .--load of a slice
  obtain⟨x,rfl,h2⟩:=iR hx;split at ht
  .rename_i w l' hl;cases hc:HC h false 1 w with|false=>rw[hc]at ht;simp at ht|true=>rw[hc,cond_true]at ht;obtain⟨rfl,rfl⟩:=af (aa ht);intro c nx;obtain⟨y,h3,h4,h5⟩:=xF (c:=c) (nx:=nx) hr hl hc h2 (hk _ (by simp));exact⟨y,_,Mb h3,h4,h5,fun i hi=>hi⟩
  .simp at ht
 .--fieldAddr
  obtain⟨x,rfl,h2⟩:=iR hx;split at ht
  .split at ht
   .rename_i w hw;obtain⟨rfl,rfl⟩:=af (aa ht);intro c nx;obtain⟨y,h3,h4,h5⟩:=MR (h1:=h1) (c:=c) (nx:=nx) h2 (hk _ (by simp)) hw;exact⟨y,[],h3,h4,h5,fun i hi=>by simp at hi⟩
   .simp at ht
  .simp at ht
 .--field of data
  rename_i g off m u y;obtain⟨x,rfl,h2⟩:=iR hx;split at ht
  .split at ht
   .rename_i i _ w hw;cases hc:(pV u i==off)&&HC h g m w with
    |false=>rw[hc]at ht;simp at ht
    |true=>
     rw[hc,cond_true]at ht;obtain⟨rfl,rfl⟩:=af (aa ht);simp only[ai,beq_iff_eq]at hc;obtain⟨a,z,rfl,f1,f2,f3⟩:=sj _ _ _ _ hw;obtain⟨cs,⟨hd,rfl⟩,g1,_⟩:=pQ (v:=.x (.st u) y) trivial h2;have hd':lJ u=true:=hd;obtain⟨_,hs,_,_⟩:=pE hc.2;have hs:bY a=m:=hs
     obtain⟨q,h3,h4⟩:=qE (cs:=(aS u y).map C.d) (off:=off) hc.2 (show fD h (.x a z) ((aS a z).map .d)from⟨AC u _ _ hd' f1,rfl⟩) (by simp[bO];omega)
      (by rw[<-hc.1,<-hs,<-f3,iq,gJ])
     rw[g1 rfl];exact .of (x:=q) (fun _ _=>by show(match Fb g m (((aS u y).map C.d).drop off)with|some v=>some (v,([]:fN),([]:List Nat),_)|none=>none)=_;rw[h3]) h4 trivial
   .simp at ht
  .simp at ht
 .--field of a bw
  rename_i g off m u;obtain⟨x,rfl,h2⟩:=iR hx;split at ht
  .split at ht
   .rename_i i _ w hw;cases hc:(O5 u i==off)&&HC h g m w with|false=>rw[hc]at ht;simp at ht|true=>rw[hc,cond_true]at ht;obtain⟨rfl,rfl⟩:=af (aa ht);simp only[ai,beq_iff_eq]at hc;obtain⟨cs,hcs,g1,_⟩:=pQ (v:=.rc u) trivial h2;obtain⟨cw,q1,q2,q3⟩:=JR u i w cs hcs hw;obtain⟨_,hs,_,_⟩:=pE hc.2;obtain⟨q,h3,h4⟩:=qE (off:=off) hc.2 q1 (by rw[<-hc.1,<-hs];exact q2) (by rw[<-hc.1,<-hs];exact q3);rw[g1 rfl];exact .of (x:=q) (fun _ _=>by show(match Fb g m (cs.drop off)with|some v=>some (v,([]:fN),([]:List Nat),_)|none=>none)=_;rw[h3]) h4 (yZ u i w (hk (.rc u) (aq.2 rfl)) hw)
   .simp at ht
  .simp at ht
 .--extract
  rename_i i u;obtain⟨x,rfl,h2⟩:=iR hx;split at ht
  .rename_i w hw;obtain⟨rfl,rfl⟩:=af (aa ht);obtain⟨ys,rfl,h3⟩:=Qr h2;obtain⟨y,h4,h5⟩:=OK u i w ys h3 hw;exact .of (x:=y) (fun _ _=>by simp only[nf,cI,h4]) (cj h5) (yZ u i w (hk (.tp u) (aq.2 rfl)) hw)
  .simp at ht
 .obtain ⟨rfl,rfl⟩:=af (aa ht);obtain⟨x,rfl,h2⟩:=iR hx;rw[x9 h2];exact .of (fun _ _=>rfl) (xi _ _) trivial
 .obtain ⟨rfl,rfl⟩:=af (aa ht);obtain⟨x,rfl,h2⟩:=iR hx;rw[xe h2];exact .of (fun _ _=>rfl) (xi _ _) trivial
 .--len of a bw of rows
  obtain⟨x,rfl,h2⟩:=iR hx;split at ht
  .rename_i t' s' ln hq;obtain⟨rfl,rfl⟩:=af (aa ht);exact .of (fun _ _=>by rw[K2 h2 (tY hq)];exact P0) (xi _ _) trivial
  .simp at ht
 .--len
  obtain⟨x,rfl,h2⟩:=iR hx;split at ht
  .rename_i q t' s' l' hq;obtain⟨rfl,rfl⟩:=af (aa ht);exact .of (fun _ _=>Q8 h2 (ha _ (by simp)) hq) (xi _ _) trivial
  .simp at ht
 .--tg
  rename_i m k' x r;obtain⟨x1,ys,rfl,h2,h3⟩:=gz hx;split at ht
  .rename_i y hy;obtain⟨rfl,rfl⟩:=af (aa ht);obtain rfl:=lf h2;exact .of (x:=lv (.int k' y)) (fun _ _=>by simp only[nf,cI,L6 hy h3]) (xi _ _) trivial
  .simp at ht
 .--tg of floats
  rename_i m k' x r;obtain⟨x1,ys,rfl,h2,h3⟩:=gz hx;split at ht
  .rename_i y hy;obtain⟨rfl,rfl⟩:=af (aa ht);obtain rfl:=DQ h2;refine .of (x:=lv (.float k' y)) (fun _ _=>?_) (xf _ _) trivial;show(match L5 m (.float k' x) (ys.map some)with|some v=>some (lv v,([]:fN),([]:List Nat),_)|none=>none)=_;rw[JX hy h3]
  .simp at ht
 .--build
  rename_i z ps;cases hc:uP (oL t) z&&oI t&&eW (PN t) false t with
  |false=>rw[hc]at ht;simp at ht
  |true=>
   rw[hc,cond_true]at ht;simp only[ai]at hc;split at ht
   .rename_i w hw;obtain⟨rfl,rfl⟩:=af (aa ht);obtain⟨z1,z2⟩:=(zd (h:=h) (n:=n) t).1 hc.2;obtain⟨cs,b1,b2,b3,b4⟩:=Nm fi ps vs (PN t) w _ xs hw hc.2 z1 z2 hx hk;rw[sJ hc.1.1]at b1;exact .of (x:=.agg cs) (fun _ _=>by simp only[cI,oB,b1]) (cj (zm (Rk b4 hc.1.2) b2)) b3
   .simp at ht
 .--lookup
  rename_i ka ks va z ok m kv;obtain⟨x,y,rfl,h2,h3⟩:=jz hx;split at ht
  .rename_i kt vt mp l' hq;split at ht
   .rename_i key hkey;cases hc:(oI kt==ka)&&(oI vt==va)&&decide (Ff kt=some ks)&&uP (oL vt) z&&lJ vt&&(va||bY vt==1)with
    |false=>rw[hc]at ht;simp at ht
    |true=>
     rw[hc,cond_true]at ht;simp only[ai,beq_iff_eq,decide_eq_true_eq]at hc;obtain⟨⟨⟨⟨⟨c1,c2⟩,c3⟩,c4⟩,c5⟩,c6⟩:=hc;obtain⟨id,rfl,rfl,e1,e2,e3⟩:=L9 hr hq h2;have e1:l'=[id]:=e1;subst e1;obtain⟨_,_,k3,_⟩:=y5 kt ks c3;have hz:dg z=aS vt (tT vt):=by rw[sI vt c5,sJ c4]
     have hv:∀y,qn va (aS vt y)=some (Sd vt y):=fun y=>HW y c2 c6;have hkt:=Fc h3 hkey c3 c1;rw[c1,c2]at e3;rw[<-c2]at c6;cases ok with|false=>simp only[cond_false]at ht;obtain⟨rfl,rfl⟩:=af (aa ht);exact fun c nx=>⟨_,[id],Q4 (z:=tT vt) e3 hkt k3 hz hv,cj (KZ c5 c6),trivial,fun i hi=>hi⟩|true=>simp only[cond_true]at ht;obtain⟨rfl,rfl⟩:=af (aa ht);exact fun c nx=>⟨_,[id],OR (z:=tT vt) e3 hkt k3 hz hv,⟨_,rfl,_,_,rfl,KZ c5 c6,_,_,rfl,dV rfl ⟨rfl,rfl⟩,rfl⟩,⟨trivial,trivial,trivial⟩,fun i hi=>hi⟩
   .simp at ht
  .simp at ht
 .simp at ht
end
section
variable{h:H2}{n:Nat}{h1:bD}
theorem cS(id:Nat)(o:Option O)(h:H2)(i:Nat):fO ((id,o)::h) i=if id=i then o else fO h i:=by
 simp only[fO,cn];by_cases e:id=i
 .subst e;simp
 .have e':(id==i)=false:=by simpa using e
  simp[e,e']
theorem dA(id:Nat)(o:Option Ob)(h:bD)(i:Nat):az ((id,o)::h) i=if id=i then o else az h i:=by
 simp only[az,cn];by_cases e:id=i
 .subst e;simp
 .have e':(id==i)=false:=by simpa using e
  simp[e,e']
theorem ke.new(o:Option O):ke n h ((n,o)::h):=⟨fun id o' hi ho=>by rw[cS,if_neg (by omega)]at ho;exact .inl ⟨o',ho,tR.refl _⟩⟩
theorem ke.DN{id:Nat}{o o':O}(ho:fO h id=some o)(hs:tR o o'):ke n h ((id,some o')::h):=
 ⟨fun i o2 hi h2=>by
  rw[cS]at h2;split at h2
  .rename_i e;subst e;obtain rfl:=aa h2;exact .inl ⟨o,ho,hs⟩
  .exact .inl ⟨o2,h2,tR.refl _⟩⟩
theorem ke.m8(id:Nat):ke n h ((id,none)::h):=
 ⟨fun i o2 hi h2=>by
  rw[cS]at h2;split at h2
  .simp at h2
  .exact .inl ⟨o2,h2,tR.refl _⟩⟩
theorem HR.DN{n' id:Nat}{o:Option O}{u:fN}(hr:HR n h1 h)(hn:n<=n')(hi:id<n')(hs:ke n h ((id,o)::h))(hu:∀i,i≠id->az (u++h1) i=az h1 i)
  (ho:∀o',o=some o'->wx ((id,o)::h) o' (az (u++h1) id)/\DE n' ((id,o)::h) o'):HR n' (u++h1) ((id,o)::h):=by
 refine⟨fun i o' h2=>?_⟩;rw[cS]at h2;split at h2
 .rename_i e;subst e;exact⟨hi,ho o' h2⟩
 .rename_i e;obtain⟨q1,q2,q3⟩:=hr.ob i o' h2;refine⟨by omega,?_,pu hn hs q3⟩;rw[hu i fun e'=>e e'.symm];exact qB hs q3 q2
theorem HR.mono{n':Nat}(hr:HR n h1 h)(hn:n<=n'):HR n' h1 h:=⟨fun i o ho=>let⟨a,b,c⟩:=hr.ob i o ho;⟨by omega,b,pu hn (ke.refl n h) c⟩⟩
theorem HR.ext{h1':bD}(hr:HR n h1 h)(he:∀i,az h1' i=az h1 i):HR n h1' h:=⟨fun i o ho=>by rw[he];exact hr.ob i o ho⟩
structure sF(s s':S2)(h1:bD)(x:TV)(u:fN)(aw:List Nat)(m:Nat)(v:V)(l:List Nat):Prop where
 val:gm s'.heap v x
 V0:fB s'.next s'.heap v
 hr:HR s'.next (u++h1) s'.heap
 eE:ke s.next s.heap s'.heap
 dF:s'.dF=s.dF
 gh:s'.gh=s.gh
 m:m<=s'.next
 le:s.next<=s'.next
 aw:∀i∈aw,i∈l
 nb:∀i,i<s.next->fO s.heap i=none->fO s'.heap i=none
 wo:∃w,s'.wo=w++s.wo/\(∀p∈u,p.1∈w)/\∀id,id∉w->fO s'.heap id=fO s.heap id
theorem sF.pure{s:S2}{x:TV}{v:V}{aw l:List Nat}(hr:HR s.next h1 s.heap)(hx:gm s.heap v x)(hk:fB s.next s.heap v)(hl:∀i∈aw,i∈l):sF s s h1 x [] aw s.next v l:=⟨hx,hk,hr,ke.refl _ _,rfl,rfl,am _,am _,hl,fun _ _ h=>h,[],rfl,fun p hp=>by simp at hp,fun _ _=>rfl⟩
theorem sF.new{s:S2}{o:O}{b:Option Ob}{u:fN}{x:TV}{v:V}{aw l:List Nat}{m:Nat}(hr:HR s.next h1 s.heap)(hu:u=[(s.next,b)]\/(u=[]/\∀b',wx ((s.next,some o)::s.heap) o b'))(hb:u=[(s.next,b)]->wx ((s.next,some o)::s.heap) o b)
  (hko:DE (s.next+1) ((s.next,some o)::s.heap) o) (hx:gm ((s.next,some o)::s.heap) v x) (hk:fB (s.next+1) ((s.next,some o)::s.heap) v) (hl:∀i∈aw,i∈l) (hm:m<=s.next+1):sF s (kq s o) h1 x u aw m v l:=by
 refine⟨hx,hk,?_,ke.new _,rfl,rfl,hm,bE _,hl,fun i hi h=>(by rw[show(kq s o).heap=(s.next,some o)::s.heap from rfl,cS,if_neg (by omega)];exact h),[s.next],rfl,?_,fun id hid=>?_⟩
 .refine HR.DN (n':=s.next+1) hr (bE _) (bc _) (ke.new _) (fun i hi=>?_) fun o' ho'=>?_
  .rcases hu with rfl|⟨rfl,_⟩
   .rw [bd,dA,if_neg fun e=>hi e.symm]
   .rfl
  .obtain rfl:=aa ho';refine⟨?_,hko⟩;rcases hu with rfl|⟨rfl,hu⟩
   .rw [bd,dA,if_pos rfl];exact hb rfl
   .exact hu _
 .intro p hp;rcases hu with rfl|⟨rfl,_⟩
  .obtain rfl:=aq.1 hp;simp
  .simp at hp
 .simp only[kq];rw[cS,if_neg fun e=>hid (by simp[e])]
theorem sF.DN{s:S2}{id:Nat}{o o':O}{b:Option Ob}{x:TV}{v:V}{aw l:List Nat}(hr:HR s.next h1 s.heap)(ho:fO s.heap id=some o)(hs:tR o o')(hb:wx ((id,some o')::s.heap) o' b)(hko:DE s.next ((id,some o')::s.heap) o')
  (hx:gm ((id,some o')::s.heap) v x) (hk:fB s.next ((id,some o')::s.heap) v) (hl:∀i∈aw,i∈l):sF s (eU s id (some o')) h1 x [(id,b)] aw s.next v l:=by
 refine⟨hx,hk,?_,ke.DN ho hs,rfl,rfl,am _,am _,hl,fun i _ h=>(by rw[show(eU s id (some o')).heap=(id,some o')::s.heap from rfl,cS,if_neg (fun e=>by rw[e,h]at ho;cases ho)];exact h),[id],rfl,fun p hp=>?_,fun i hi=>?_⟩
 .refine HR.DN hr (am _) (hr.ob id o ho).1 (ke.DN ho hs) (fun i hi=>?_) fun o2 ho2=>?_
  .rw [bd,dA,if_neg fun e=>hi e.symm]
  .obtain rfl:=aa ho2;rw[bd,dA,if_pos rfl];exact⟨hb,hko⟩
 .obtain rfl:=aq.1 hp;simp
 .simp only[eU];rw[cS,if_neg fun e=>hi (by simp[e])]
def nQ(h:H2)(id:Nat):Prop:=(∃t v,fO h id=some (.ar t .nil v)\/fO h id=some (.im t .nil v))\/∃t ln,fO h id=some (.rw t .nil ln)
theorem z6{id ver:Nat}{t:Ty}{l:List (El t)}(ho:fO h id=some (.ar t (.mk l) ver)\/fO h id=some (.im t (.mk l) ver)):¬nQ h id:=by
 rintro(⟨u,v',e⟩|⟨u,ln,e⟩)
 .rcases ho with ho|ho<;>rcases e with e|e<;>rw[ho]at e<;>simp at e
  all_goals
   obtain⟨rfl,e,_⟩:=e;cases eq_of_heq e
 .rcases ho with ho|ho<;>rw[ho]at e<;>cases e
theorem OL{id:Nat}{t:Ty}{l:List (Sl (El t))}{ln:Option (Nat×Nat)}(ho:fO h id=some (.rw t (.mk l) ln)):¬nQ h id:=by
 rintro(⟨u,v',e⟩|⟨u,ln',e⟩)
 .rcases e with e|e<;>rw[ho]at e<;>cases e
 .rw [ho]at e;cases e
theorem qX(k:Nat)(x:D):ei h1 k (.d x)=some (x,[]):=by cases k<;>rfl
theorem zh:∀(ds:List D),dU h1 (ds.map .d)=some (ds,[]):=by intro ds;induction ds with|nil=>rfl|cons d ds ih=>simp[dU,qX,ih]
theorem ru{a b:List C}{x y:List D}{i j:List Nat}(ha:dU h1 a=some (x,i))(hb:dU h1 b=some (y,j)):dU h1 (a++b)=some (x++y,i++j):=by
 induction a generalizing x i with
 |nil=>obtain⟨rfl,rfl⟩:[]=x/\[]=i:=by simpa[dU]using ha
       simpa using hb
 |cons c a ih=>
  simp only[dU]at ha;split at ha
  .rename_i p q r s hp hq;obtain⟨rfl,rfl⟩:=af (aa ha);simp only[aU,dU,hp,ih hq,aI]
  .simp at ha
theorem DL{id sz lo len:Nat}{rows:List (List D)}(k:Nat)(ho:az h1 id=some (.aL sz rows)\/az h1 id=some (.qH sz rows))(hl:lo+len<=rows.length)(szo:Nat):
  ei h1 k (.fK szo id lo len)=some (.sl szo ((rows.drop lo).take len),[id]):=by
 rcases ho with ho|ho<;>(cases k<;>simp only[ei,ho,if_pos hl])
theorem NX{id ver:Nat}{t:Ty}{s:Sl (El t)}(k:Nat)(hr:HR n h1 h)(ho:fO h id=some (.ar t s ver)\/fO h id=some (.im t s ver)):
  ∃aw,ei h1 k (ny (bY t) (aS t) id s)=some (xl (bY t) (aS t) s,aw)/\(∀i∈aw,i=id/\¬nQ h i)/\(id∈aw\/nQ h id):=by
 cases s with
 |nil=>exact⟨[],qX k _,fun i hi=>by simp at hi,.inr (.inl ⟨t,ver,ho⟩)⟩
 |mk l=>
  have hb:az h1 id=some (.aL (bY t) (l.map (aS t)))\/az h1 id=some (.qH (bY t) (l.map (aS t))):=by
   rcases ho with ho|ho
   .exact .inl ((hr.ob id _ ho).2.1.2.2 l rfl)
   .exact .inr ((hr.ob id _ ho).2.1.2.2 l rfl)
  refine⟨[id],?_,fun i hi=>by obtain rfl:=aq.1 hi;exact⟨rfl,z6 ho⟩,.inl (by simp)⟩;have:=DL (lo:=0) (len:=(l.map (aS t)).length) k hb (by omega) (bY t);rw[uK]at this;exact this
theorem NY{id ver lo:Nat}{t:Ty}{r:Sl (El t)}(k:Nat)(hr:HR n h1 h)(hk:fB n h (.sb id ver lo t r))(ha:Dw h id ver=true):
  ∃aw,ei h1 k (zG id lo t r)=some (xl (bY t) (aS t) r,aw)/\(∀i∈aw,i=id/\¬nQ h i)/\(id∈aw\/nQ h id):=by
 obtain⟨u,s,ho⟩:=mH ha;obtain⟨_,hc⟩:=hk.2 u s ver ho;obtain⟨hz,hc⟩:=hc rfl;cases r with
 |nil=>cases s with|nil=>exact⟨[],qX k _,fun i hi=>by simp at hi,.inr (.inl ⟨u,ver,ho⟩)⟩|mk l=>exact hc.elim
 |mk m=>
  cases s with
  |nil=>exact hc.elim
  |mk l=>
   obtain⟨hl,he⟩:=hc
   have hb:az h1 id=some (.aL (bY u) (l.map (aS u)))\/az h1 id=some (.qH (bY u) (l.map (aS u))):=by
    rcases ho with ho|ho
    .exact .inl ((hr.ob id _ ho).2.1.2.2 l rfl)
    .exact .inr ((hr.ob id _ ho).2.1.2.2 l rfl)
   refine⟨[id],?_,fun i hi=>by obtain rfl:=aq.1 hi;exact⟨rfl,z6 ho⟩,.inl (by simp)⟩;have:=DL (lo:=lo) (len:=(m.map (aS t)).length) k hb (by simpa using hl) (bY t);rw[show(m.map (aS t)).length=m.length by simp,he]at this;simpa[zG,xl]using this
theorem BD{t:Ty}:∀(l:List (Sl (El t))),rD (bY t) (l.map (pR t))=some (l.map (aS (.sl t))):=by intro l;induction l with|nil=>rfl|cons s l ih=>simp only[aD,rD,ih];cases s<;>rfl
theorem NW{id:Nat}{t:Ty}{s:Sl (Sl (El t))}(k:Nat)(hr:HR n h1 h)(ho:fO h id=some (.rw t s none)):
  ∃aw,ei h1 k (ny 1 (aS (.sl t)) id s)=some (xl 1 (aS (.sl t)) s,aw)/\(∀i∈aw,i=id/\¬nQ h i)/\(id∈aw\/nQ h id):=by
 cases s with
 |nil=>exact⟨[],qX k _,fun i hi=>by simp at hi,.inr (.inr ⟨t,none,ho⟩)⟩
 |mk l=>
  have hb:=(hr.ob id _ ho).2.1.2.2 l rfl;refine⟨[id],?_,fun i hi=>by obtain rfl:=aq.1 hi;exact⟨rfl,OL ho⟩,.inl (by simp)⟩;have e:((l.map (aS (.sl t))).length)=(fw t l none).length:=by simp[fw]
  have hs:rD (bY t) (fw t l none)=some (l.map (aS (.sl t))):=BD l;cases k<;>simp only[ny,xl,ei,hb,hs,e,and_self,if_true]
theorem ug(hr:HR n h1 h):∀(v w:V)(l:List Nat)(cs:List C),jW h v=some (w,l)->fD h v cs->fB n h v->iZ h v=true->
  ∃ds aw,dU h1 cs=some (ds,aw)/\fD h w (ds.map .d)/\(∀i∈aw,i∈l/\¬nQ h i)/\(∀i∈l,i∈aw\/nQ h i)/\(∀i∈l,i<n/\((∃t s v,fO h i=some (.ar t s v)\/fO h i=some (.im t s v))\/∃t s,fO h i=some (.rw t s none))):=by
 have done:∀(v:V)(ds:List D),fD h v (ds.map .d)->∃ds' aw,dU h1 (ds.map .d)=some (ds',aw)/\fD h v (ds'.map .d)/\(∀i∈aw,i∈([]:List Nat)/\¬nQ h i)/\(∀i∈([]:List Nat),i∈aw\/nQ h i)/\(∀i∈([]:List Nat),i<n/\((∃t s v,fO h i=some (.ar t s v)\/fO h i=some (.im t s v))\/∃t s,fO h i=some (.rw t s none))):=fun v ds hv=>⟨ds,[],zh ds,hv,fun i hi=>by simp at hi,fun i hi=>by simp at hi,fun i hi=>by simp at hi⟩;intro v;induction v with
 |so id=>
  intro w l cs hf hv hk ha;simp only[jW]at hf;split at hf
  .rename_i t s l' hs;obtain⟨rfl,rfl⟩:=af (aa hf);obtain⟨ver,ho,e⟩:=vr hs;have e:l'=[id]:=e;subst e;obtain⟨c,rfl,hc,_⟩:=hv;rw[hc _ (nw ho)];obtain⟨aw,q1,q2,q3⟩:=NX 300 hr ho;have hd:lJ t=true:=by rcases ho with ho|ho<;>exact(hr.ob id _ ho).2.1.1
   refine⟨[xl (bY t) (aS t) s],aw,by simp[dU,q1],⟨hd,rfl⟩,fun i hi=>⟨by simpa using(q2 i hi).1,(q2 i hi).1▸(q2 i hi).2⟩,fun i hi=>?_,fun i hi=>?_⟩
   .obtain rfl:=aq.1 hi;exact q3
   .obtain rfl:=aq.1 hi;exact⟨hk,.inl ⟨t,s,ver,ho⟩⟩
  .simp at hf
 |sr id=>
  intro w l cs hf hv hk ha;simp only[jW]at hf;split at hf
  .rename_i t s ho;obtain⟨rfl,rfl⟩:=af (aa hf);obtain⟨c,rfl,hc,_⟩:=hv;rw[hc _ (by rw[ho];rfl:F0 id (fO h id)=some (ny 1 (aS (.sl t)) id s))];obtain⟨aw,q1,q2,q3⟩:=NW 300 hr ho;have hd:lJ t=true:=(hr.ob id _ ho).2.1.1;refine⟨[xl 1 (aS (.sl t)) s],aw,by simp[dU,q1],⟨hd,rfl⟩,fun i hi=>⟨by simpa using(q2 i hi).1,(q2 i hi).1▸(q2 i hi).2⟩,fun i hi=>?_,fun i hi=>?_⟩
   .obtain rfl:=aq.1 hi;exact q3
   .obtain rfl:=aq.1 hi;exact⟨hk,.inr ⟨t,s,ho⟩⟩
  .simp at hf
 |sb id ver lo t r=>
  intro w l cs hf hv hk ha;simp only[jW,uQ]at hf;obtain⟨rfl,rfl⟩:=af (aa hf);obtain⟨hd,ha⟩:=cH.1 ha;have ha:Dw h id ver=true:=ha;obtain⟨c,rfl,hc,_⟩:=hv;rw[hc ha];obtain⟨aw,q1,q2,q3⟩:=NY 300 hr hk ha;obtain⟨u,s,ho⟩:=mH ha;refine⟨[xl (bY t) (aS t) r],aw,by simp[dU,q1],⟨?_,rfl⟩,fun i hi=>⟨by simpa using(q2 i hi).1,(q2 i hi).1▸(q2 i hi).2⟩,fun i hi=>?_,fun i hi=>?_⟩
  .exact hd
  .obtain rfl:=aq.1 hi;exact q3
  .obtain rfl:=aq.1 hi;exact⟨hk.1,.inl ⟨u,s,ver,ho⟩⟩
 |rc r ih=>
  intro w l cs hf hv hk ha;simp only[jW]at hf;split at hf
  .rename_i w' l' hw;obtain⟨rfl,rfl⟩:=af (aa hf);exact ih w' l' cs hw hv hk ha
  .simp at hf
 |co a r iha ihr=>
  intro w l cs hf hv hk ha;simp only[jW]at hf;split at hf
  .rename_i x l1 y l2 hx hy;obtain⟨rfl,rfl⟩:=af (aa hf);obtain⟨ca,cr,rfl,h2,h3⟩:=hv;simp only[iZ,ai]at ha;obtain⟨ds,aw,a1,a2,a3,a4,a5⟩:=iha x l1 ca hx h2 hk.1 ha.1;obtain⟨es,jds,b1,b2,b3,b4,b5⟩:=ihr y l2 cr hy h3 hk.2 ha.2;refine⟨ds++es,aw++jds,ru a1 b1,⟨_,_,by simp,a2,b2⟩,fun i hi=>?_,fun i hi=>?_,fun i hi=>?_⟩
   .rcases ap.1 hi with hi|hi
    .exact ⟨aA _ (a3 i hi).1,(a3 i hi).2⟩
    .exact ⟨aC _ (b3 i hi).1,(b3 i hi).2⟩
   .rcases ap.1 hi with hi|hi
    .exact (a4 i hi).imp (aA _) id
    .exact (b4 i hi).imp (aC _) id
   .rcases ap.1 hi with hi|hi
    .exact a5 i hi
    .exact b5 i hi
  .simp at hf
 |x t v=>intro w l cs hf hv hk ha;obtain⟨rfl,rfl⟩:=af (aa hf);obtain⟨hd,rfl⟩:=hv;exact done _ _ ⟨hd,rfl⟩
 |kb c=>intro w l cs hf hv hk ha;obtain⟨rfl,rfl⟩:=af (aa hf);obtain rfl:=hv;exact done (.kb c) [_] rfl
 |nl k=>intro w l cs hf hv hk ha;obtain⟨rfl,rfl⟩:=af (aa hf);obtain rfl:=hv;exact done (.nl k) [_] rfl
 |fl q=>
  intro w l cs hf hv hk ha;obtain⟨rfl,rfl⟩:=af (aa hf);obtain⟨hp,rfl⟩:=hv;have e:fL q=(q.map D.lit).map C.d:=by simp[fL]
  rw[e];exact done (.fl q) (q.map D.lit) ⟨hp,e.symm⟩
 |ni=>intro w l cs hf hv hk ha;obtain⟨rfl,rfl⟩:=af (aa hf);obtain rfl:=hv;exact done .ni [] rfl
 |pt t v=>intro w l cs hf hv hk ha;obtain⟨rfl,rfl⟩:=af (aa hf);obtain⟨hd,rfl⟩:=hv;exact done (.pt t v) [_] ⟨hd,rfl⟩
 |fn z f q ih=>intro w l cs hf hv hk ha;cases z with|true=>obtain⟨rfl,rfl⟩:=af (aa hf);obtain⟨ds,hd,rfl⟩:=hv;exact done (.fn true f q) [_] ⟨ds,hd,rfl⟩|false=>simp[jW]at hf
 |_=>intro w l cs hf hv hk ha;simp[jW]at hf
theorem yO:∀(ds:List D)(k:Nat),ds.length<k->gu h1 k (ds.map .d)=some (ds,[]):=by
 intro ds;induction ds with
 |nil=>intro k hk;cases k<;>rfl
 |cons d ds ih=>intro k hk;cases k with|zero=>simp at hk|succ k=>simp only[aD,gu,qX];rw[ih k (by simpa using hk)];rfl
theorem xO{H:bD}{h0:H2}{k:Nat}(hr:HR k H h0)(all:List Nat){id:Nat}{o':O}(hf:Db h0 id=some o'):
  ∃o,fO h0 id=some o/\tR o o'/\(∀m g,DE m g o')/\((nQ h0 id/\∀g b,wx g o' b)\/(¬nQ h0 id/\∃b,kT H all id=some b/\∀g,wx g o' (some b))):=by
 unfold Db at hf;split at hf
 .rename_i t s v ho;obtain rfl:=aa hf;refine⟨_,ho,⟨am _,rfl,rfl,rfl,fun _=>rfl⟩,fun _ _=>trivial,?_⟩;obtain⟨h1,h2,h3⟩:=(hr.ob id _ ho).2.1;cases s with|nil=>exact .inl ⟨.inl ⟨t,v,.inl ho⟩,fun g b=>⟨h1,h2,fun l e=>by cases e⟩⟩|mk l=>refine .inr ⟨z6 (.inl ho),.qH (bY t) (l.map (aS t)),?_,fun g=>⟨h1,h2,fun l' e=>by cases e;rfl⟩⟩;simp only[kT,h3 l rfl]
 .rename_i t s v ho;obtain rfl:=aa hf;refine⟨_,ho,⟨rfl,rfl⟩,fun _ _=>trivial,?_⟩;obtain⟨h1,h2,h3⟩:=(hr.ob id _ ho).2.1;cases s with|nil=>exact .inl ⟨.inl ⟨t,v,.inr ho⟩,fun g b=>⟨h1,h2,fun l e=>by cases e⟩⟩|mk l=>refine .inr ⟨z6 (.inr ho),.qH (bY t) (l.map (aS t)),?_,fun g=>⟨h1,h2,fun l' e=>by cases e;rfl⟩⟩;simp only[kT,h3 l rfl]
 .rename_i t v ho;obtain rfl:=aa hf;obtain⟨h1,h2⟩:=(hr.ob id _ ho).2.1;refine⟨_,ho,rfl,fun _ _=>trivial,.inr ⟨?_,.py (aS t v),?_,fun g=>⟨h1,rfl⟩⟩⟩
  .rintro (⟨u,v',e|e⟩|⟨u,v',e⟩)<;>rw[ho]at e<;>simp at e
  .simp only[kT,h2]
 .rename_i t c ho;cases hd:(lJ t&&Nat.blt (bY t) 300)with
  |false=>rw[hd]at hf;simp at hf
  |true=>
   rw[hd,cond_true]at hf;simp only[ai]at hd;split at hf
   .rename_i w hw;split at hf
    .rename_i y hy;obtain rfl:=aa hf;obtain⟨cs,h1,h2,h3⟩:=(hr.ob id _ ho).2.1;have e:=jH c false t y cs hy h2;subst e;refine⟨_,ho,trivial,fun _ _=>trivial,.inr ⟨?_,.py (aS t y),?_,fun g=>⟨hd.1,rfl⟩⟩⟩
     .rintro (⟨u,v',e|e⟩|⟨u,v',e⟩)<;>rw[ho]at e<;>simp at e
     .have hl:(aS t y).length<300:=by rw[bO];simpa using hd.2
      simp only[kT,h1,yO _ _ hl];rfl
    .simp at hf
   .simp at hf
 .simp at hf
def Hf(h:H2)(id:Nat):Option O:=match fO h id with|some (.rw _ _ none)=>none|_=>Db h id
theorem ym{h0:H2}{s0:S2}(hs0:s0.heap=h0):∀(aw:List Nat)(s':S2),rM h0 aw s0=some s'->
  s'.dF=s0.dF/\s'.gh=s0.gh/\s'.next=s0.next/\s'.wo=aw++s0.wo/\(∀i∈aw,(∃o,Db h0 i=some o)\/∃t s,fO h0 i=some (.rw t s none))/\∀i,fO s'.heap i=if i∈aw then Hf h0 i else fO h0 i:=by
 intro aw;induction aw with
 |nil=>intro s' hf;obtain rfl:=aa hf;exact⟨rfl,rfl,rfl,rfl,fun i hi=>by simp at hi,fun i=>by simp[hs0]⟩
 |cons id r ih=>
  intro s' hf;simp only[rM]at hf
  have rO:∀(oo:Option O)(s1:S2),rM h0 r s0=some s1->s'=eU s1 id oo->((∃o,Db h0 id=some o)\/∃t s,fO h0 id=some (.rw t s none))->Hf h0 id=oo->s'.dF=s0.dF/\s'.gh=s0.gh/\s'.next=s0.next/\s'.wo=(id::r)++s0.wo/\(∀i∈id::r,(∃o,Db h0 i=some o)\/∃t s,fO h0 i=some (.rw t s none))/\∀i,fO s'.heap i=if i∈id::r then Hf h0 i else fO h0 i:=by
   intro oo s1 h1 e hex hoo;subst e;obtain⟨a1,a2,a3,a4,a5,a6⟩:=ih s1 h1;refine⟨a1,a2,a3,by simp[eU,a4],fun i hi=>?_,fun i=>?_⟩
   .rcases aJ.1 hi with rfl|hi
    .exact hex
    .exact a5 i hi
   .simp only[eU,cS,a6];by_cases e:id=i
    .subst e;simp[hoo]
    .simp [e,Ne.symm e]
  split at hf
  .rename_i t s ho;split at hf
   .rename_i s1 h1;exact rO none s1 h1 (aa hf).symm (.inr ⟨t,s,ho⟩) (by simp only[Hf,ho])
   .cases hf
  .rename_i hno;split at hf
   .rename_i o s1 ho h1;refine rO (some o) s1 h1 (aa hf).symm (.inl ⟨o,ho⟩) ?_;unfold Hf;split
    .rename_i t s e;exact absurd e (hno t s)
    .exact ho
   .cases hf
theorem Zn{H:bD}{all:List Nat}:∀(l:List Nat),(∀i∈l,∃b,kT H all i=some b)->∃u,dM H all l=some u/\∀p∈u,p.1∈l:=by
 intro l;induction l with
 |nil=>intro _;exact⟨[],rfl,fun p hp=>by simp at hp⟩
 |cons a l ih=>
  intro h;obtain⟨b,hb⟩:=h a (by simp);obtain⟨u,hu,hp⟩:=ih fun i hi=>h i (by simp[hi]);refine⟨(a,some b)::u,by simp only[dM,hb,hu],fun p hp'=>?_⟩;rcases aJ.1 hp' with rfl|hp'
  .simp
  .exact av _ (hp p hp')
theorem Da{h0:H2}{s0:S2}(hs0:s0.heap=h0){H:bD}(hr:HR s0.next H h0)(aw:List Nat)(s':S2)(ids1 all:List Nat)(hf:rM h0 aw s0=some s')(hi1:∀i∈ids1,i∈aw/\¬nQ h0 i)(hi2:∀i∈aw,i∈ids1\/nQ h0 i):
  ∃fu,dM H all ids1=some fu/\HR s0.next (fu++H) s'.heap/\ke s0.next h0 s'.heap/\s'.dF=s0.dF/\s'.gh=s0.gh/\s'.next=s0.next/\
   s'.wo=aw++s0.wo/\(∀p∈fu,p.1∈aw)/\∀id,id∉aw->fO s'.heap id=fO s0.heap id:=by
 obtain⟨a1,a2,a3,a4,a5,a6⟩:=ym hs0 aw s' hf
 have hF:∀i o',Hf h0 i=some o'->Db h0 i=some o':=fun i o' h=>by
  unfold Hf at h;split at h
  .cases h
  .exact h
 obtain⟨fu,hfu,hp⟩:=Zn (H:=H) (all:=all) ids1 fun i hi=>by
  rcases a5 i (hi1 i hi).1 with⟨o,ho⟩|⟨t,s,ho⟩
  .obtain ⟨_,_,_,_,h⟩:=xO hr all ho;rcases h with h|⟨_,b,hb,_⟩
   .exact absurd h.1 (hi1 i hi).2
   .exact ⟨b,hb⟩
  .cases s with|nil=>exact absurd (.inr ⟨t,none,ho⟩) (hi1 i hi).2|mk l=>have hb:=(hr.ob i _ ho).2.1.2.2 l rfl;have hs:rD (bY t) (fw t l none)=some (l.map (aS (.sl t))):=BD l;exact⟨.qH 1 (l.map (aS (.sl t))),by simp only[kT,hb,hs]⟩
 have eE:ke s0.next h0 s'.heap:=⟨fun i o' hi ho=>by
  rw[a6]at ho;split at ho
  .obtain ⟨o,h1,h2,_⟩:=xO hr all (hF i o' ho);exact .inl ⟨o,h1,h2⟩
  .exact .inl ⟨o',ho,tR.refl _⟩⟩
 refine⟨fu,hfu,⟨fun i o' ho=>?_⟩,eE,a1,a2,a3,a4,fun p hp'=>(hi1 _ (hp p hp')).1,fun i hi=>by rw[a6,if_neg hi,hs0]⟩;rw[a6]at ho;split at ho
 .rename_i hi;obtain⟨o,h1,_,h3,h4⟩:=xO hr all (hF i o' ho);refine⟨(hr.ob i o h1).1,?_,h3 _ _⟩;rcases h4 with h4|⟨h5,b,hb,hR⟩
  .exact h4.2 _ _
  .have hm:i∈ids1:=(hi2 i hi).resolve_right h5;obtain⟨b',hb',hl⟩:=(mw ids1 fu hfu i).1 hm;rw[hb]at hb';obtain rfl:=aa hb';rw[show az (fu++H) i=some b by simp only[az,ic,hl];rfl];exact hR _
 .rename_i hi;obtain⟨h1,h2,h3⟩:=hr.ob i o' ho;have hn:i∉ids1:=fun hm=>hi (hi1 i hm).1;refine⟨h1,?_,pu (am _) eE h3⟩;rw[show az (fu++H) i=az H i by simp only[az,ic,(mw ids1 fu hfu i).2 hn]];exact qB eE h3 h2
theorem He{h0:H2}{s0:S2}{aw:List Nat}{s':S2}(hs0:s0.heap=h0)(hf:rM h0 aw s0=some s'):∀i∈aw,fO h0 i≠none:=by
 intro i hi e;obtain⟨_,_,_,_,a5,_⟩:=ym hs0 aw s' hf;rcases a5 i hi with⟨o,ho⟩|⟨t,s,ho⟩
 .simp [Db,e]at ho
 .rw [e]at ho;cases ho
end
section
variable{h:H2}{n:Nat}{h1:bD}{β:Type}
theorem aM{α:Type}{c:Bool}{a:Option α}{r:α}(h:(bif c then a else none)=some r):c=true/\a=some r:=by cases c with|true=>exact⟨rfl,h⟩|false=>simp at h
theorem xE{u:fN}{i:Nat}(hu:∀p∈u,p.1≠i):az (u++h1) i=az h1 i:=by induction u with|nil=>rfl|cons p u ih=>obtain⟨a,b⟩:=p;rw[aU,dA,if_neg (hu _ (bh ..)),ih fun p hp=>hu p (av _ hp)]
theorem sF.F3{s s':S2}{x:TV}{u:fN}{aw l:List Nat}{m:Nat}{v:V}(W:List Nat)(hr:HR s.next h1 s.heap)(eE:ke s.next s.heap s'.heap)(he:s'.dF=s.dF)(hg:s'.gh=s.gh)(hm:m<=s'.next)(hle:s.next<=s'.next)(hl:∀i∈aw,i∈l)
  (hwo:s'.wo=W++s.wo) (hu:∀p∈u,p.1∈W) (hW:∀id,id∉W->fO s'.heap id=fO s.heap id) (hob:∀i∈W,∀o,fO s'.heap i=some o->i<s'.next/\wx s'.heap o (az (u++h1) i)/\DE s'.next s'.heap o)
  (hx:gm s'.heap v x) (hk:fB s'.next s'.heap v) (hnb:∀i,i<s.next->fO s.heap i=none->fO s'.heap i=none):sF s s' h1 x u aw m v l:=by
 refine⟨hx,hk,⟨fun i o ho=>?_⟩,eE,he,hg,hm,hle,hl,hnb,W,hwo,hu,hW⟩;by_cases hi:i∈W
 .exact hob i hi o ho
 .rw [hW i hi]at ho;obtain⟨a,b,c⟩:=hr.ob i o ho;refine⟨by omega,?_,pu hle eE c⟩;rw[xE (u:=u) (i:=i) fun p hp e=>hi (e▸hu p hp)];exact qB eE c b
def AV(h1:bD)(kk:K)(xs:List TV)(s:S2)(k:V->S2->List Nat->Option β)(z:β):Prop:=∃v s' l,k v s' l=some z/\∀c:Call,∃x u aw m,cI c kk (xs.map some) h1 s.next=some (x,u,aw,m)/\sF s s' h1 x u aw m v l
variable{s:S2}{k:V->S2->List Nat->Option β}{z:β}
theorem AV.pure{kk:K}{xs:List TV}{v:V}{x:TV}(hr:HR s.next h1 s.heap)(hz:k v s []=some z)(he:∀c:Call,cI c kk (xs.map some) h1 s.next=some (x,[],[],s.next))(hx:gm s.heap v x)(hk:fB s.next s.heap v):AV h1 kk xs s k z:=⟨v,s,[],hz,fun c=>⟨x,[],[],s.next,he c,sF.pure hr hx hk fun i hi=>by simp at hi⟩⟩
theorem rl{t:Ty}(h:DD t=true):lJ t=true/\0<bY t:=by simpa[DD]using h
theorem AV.new{kk:K}{xs:List TV}{v:V}{x:TV}{o:O}{b:Option Ob}{l aw:List Nat}(hr:HR s.next h1 s.heap)(hz:k v (kq s o) l=some z)(he:∀c:Call,cI c kk (xs.map some) h1 s.next=some (x,[(s.next,b)],aw,s.next+1))
  (hb:wx ((s.next,some o)::s.heap) o b) (hko:DE (s.next+1) ((s.next,some o)::s.heap) o) (hx:gm ((s.next,some o)::s.heap) v x) (hk:fB (s.next+1) ((s.next,some o)::s.heap) v) (hl:∀i∈aw,i∈l):AV h1 kk xs s k z:=
 ⟨v,_,l,hz,fun c=>⟨x,_,aw,_,he c,sF.new hr (.inl rfl) (fun _=>hb) hko hx hk hl (am _)⟩⟩
theorem AV.DN{kk:K}{xs:List TV}{v:V}{x:TV}{id:Nat}{o o':O}{b:Option Ob}{l aw:List Nat}(hr:HR s.next h1 s.heap)(ho:fO s.heap id=some o)(hs:tR o o')(hz:k v (eU s id (some o')) l=some z)(he:∀c:Call,cI c kk (xs.map some) h1 s.next=some (x,[(id,b)],aw,s.next))
  (hb:wx ((id,some o')::s.heap) o' b) (hko:DE s.next ((id,some o')::s.heap) o') (hx:gm ((id,some o')::s.heap) v x) (hk:fB s.next ((id,some o')::s.heap) v) (hl:∀i∈aw,i∈l):AV h1 kk xs s k z:=
 ⟨v,_,l,hz,fun c=>⟨x,_,aw,_,he c,sF.DN hr ho hs hb hko hx hk hl⟩⟩
theorem uJ(id:Nat)(o:Option O)(h:H2):fO ((id,o)::h) id=o:=by rw[cS,if_pos rfl]
theorem xB{t:Ty}{s:Sl (El t)}{v nx:Nat}:gm ((nx,some (.ar t s v))::h) (.so nx) (.c (ny (bY t) (aS t) nx s)):=cj (dV rfl ⟨_,rfl,fun c' hc'=>by rw[uJ]at hc';exact aa hc',CF⟩)
theorem Dl{x:V}{y:TV}{sz:Nat}{lo hi:Option Int}{m:Int}{q:V->Option β}(hr:HR n h1 h)(hx:gm h x y)(hk:fB n h x)(ha:iZ h x=true)(hm:G6 h x=some m)(hz:uW sz h x (lo.getD 0) (hi.getD m) q=some z):
  ∃v c c',y=.c c/\q v=some z/\ge false sz c lo hi=some c'/\gm h v (.c c')/\fB n h v:=by
 have jy:∀(id:Nat)(t:Ty)(w:Sl (El t))(ver:Nat),x=.so id->(fO h id=some (.ar t w ver)\/fO h id=some (.im t w ver))->(bif bY t==sz then(o5 w.l (lo.getD 0) (hi.getD m)).bind fun y=>q (.sb id ver (lo.getD 0).toNat t (w.to y))else none)=some z->
   ∃v c c',y=.c c/\q v=some z/\ge false sz c lo hi=some c'/\gm h v (.c c')/\fB n h v:=by
  rintro id t w ver rfl ho hz;obtain⟨h2,hz2⟩:=aM hz;obtain rfl:bY t=sz:=by simpa using h2
  obtain⟨r,hr',hz3⟩:=qh hz2;have e:=tV hx (nw ho);have hm':m=w.l.length:=by simp only[G6,uQ]at hm;rcases ho with ho|ho<;>(rw[ho]at hm;exact(aa hm).symm)
  subst hm';refine⟨_,_,zG id (lo.getD 0).toNat t (w.to r),e,hz3,?_,?_,hk,?_⟩
  .cases w with|nil=>exact M8 hr'|mk l=>exact Tu (enc:=aS t) hr'
  .exact cj (dV rfl ⟨_,rfl,fun _=>rfl,Lk⟩)
  .intro u s' v' ho'
   have e2:NO u s'=NO t w/\v'=ver:=by
    rcases ho with ho|ho<;>rcases ho' with ho'|ho'<;>(rw[ho]at ho';simp at ho')
    all_goals
     obtain⟨rfl,e,rfl⟩:=ho';cases eq_of_heq e;exact⟨rfl,rfl⟩
   obtain⟨e2,rfl⟩:=e2;obtain⟨rfl,e2⟩:=kf e2;cases e2;refine⟨am _,fun _=>⟨rfl,?_⟩⟩;cases s' with|nil=>trivial|mk l=>obtain⟨h3,h4⟩:=RF (enc:=aS u) hr';simp only[aF]at h3;refine⟨h3,?_⟩;simpa using h4
 cases x with
 |x t v=>
  cases t with
  |sl t=>
   simp only[uW]at hz;obtain⟨h2,hz2⟩:=aM hz;obtain rfl:bY t=sz:=by simpa using h2
   obtain⟨r,hr',hz3⟩:=qh hz2;have hm':m=v.l.length:=by simpa[G6,uQ]using hm.symm
   subst hm';refine⟨_,_,_,zj hx,hz3,RB hr',cj (dV rfl ⟨?_,rfl⟩),trivial⟩;obtain⟨_,⟨hd,_⟩,_⟩:=pQ (v:=.x (.sl t) v) trivial hx;exact hd
  |_=>simp[uW]at hz
 |so id=>
  simp only[uW]at hz;split at hz
  .rename_i ho;exact jy id _ _ _ rfl (.inl ho) hz
  .rename_i ho;exact jy id _ _ _ rfl (.inr ho) hz
  .simp at hz
 |sb id ver off t v=>
  simp only[uW]at hz;obtain⟨h2,hz2⟩:=aM hz;obtain rfl:bY t=sz:=by simpa using h2
  obtain⟨r,hr',hz3⟩:=qh hz2;have hm':m=v.l.length:=by simpa[G6,uQ]using hm.symm
  subst hm';refine⟨_,_,zG id (off+(lo.getD 0).toNat) t (v.to r),rA hx ha,hz3,?_,cj (dV rfl ⟨_,rfl,fun _=>rfl,Lk⟩),hk.1,?_⟩
  .cases v with|nil=>exact M8 hr'|mk l=>obtain⟨h3,rfl⟩:=sD.1 hr';simp only[Sl.l]at h3;simp only[zG,ge,Bool.false_eq_true,if_false,Sl.to,Sl.l,aF];rw[if_pos ⟨trivial,h3⟩];simp;omega
  .intro u s' v' ho;obtain⟨h3,h4⟩:=hk.2 u s' v' ho;refine⟨h3,fun e=>?_⟩;obtain⟨h5,h6⟩:=h4 e;refine⟨h5,?_⟩;cases s' with
   |nil=>cases v<;>first|trivial|exact h6.elim
   |mk l=>
    cases v with
    |nil=>exact h6.elim
    |mk w=>
     obtain⟨h7,h8⟩:=h6;obtain⟨h9,rfl⟩:=sD.1 hr';simp only[Sl.l]at h9;show off+(lo.getD 0).toNat+((w.drop (lo.getD 0).toNat).take _).length<=l.length/\((l.map (aS u)).drop (off+(lo.getD 0).toNat)).take ((w.drop (lo.getD 0).toNat).take _).length=((w.drop (lo.getD 0).toNat).take _).map (aS t);generalize hA:(lo.getD 0).toNat=A;generalize hB:((hi.getD (Sl.l (Sl.mk w)).length).toNat-A)=B;have hle:A+B<=w.length:=by subst hA hB;simp only[Sl.l];omega
     have hlen:((w.drop A).take B).length=B:=by simp;omega
     refine⟨by omega,?_⟩;rw[hlen,iq,gJ,<-h8,List.drop_take,dT,List.take_take];congr 1;omega
 |nl k=>
  cases k with
  |zero=>
   simp only[uW]at hz;obtain⟨r,hr',hz3⟩:=qh hz;have hm':m=0:=by simpa[G6]using hm.symm
   subst hm';exact⟨_,_,_,xe hx,hz3,M8 (α:=Unit) (by simpa[Sl.l]using hr'),cj (dV rfl rfl),trivial⟩
  |succ k=>simp[uW]at hz
 |_=>simp[uW]at hz
theorem ID:∀(p:qU)(t a:Ty)(l m:Nat),sG t p=some (.ar l a)->m<l->JP t p->JP t (p++[.ix m])/\nU t (p++[.ix m])=nU t p+m*bY a:=by
 intro p;induction p with
 |nil=>
  intro t a l m h1 hm _;have e:sG t []=some t:=by cases t<;>rfl
  obtain rfl:t=.ar l a:=by rw[e]at h1;exact aa h1
  refine⟨⟨hm,by cases a<;>trivial⟩,?_⟩;simp only[bi,nU];cases a<;>simp[nU]
 |cons q p ih=>
  intro t a l m h1 hm h3;cases q with
  |fd j=>cases t with|st t=>obtain⟨b2,hb,h3⟩:=h3;simp only[sG,hb]at h1;obtain⟨q1,q2⟩:=ih b2 a l m h1 hm h3;refine⟨⟨b2,hb,q1⟩,?_⟩;simp only[aU,nU,hb,q2];exact(cX _ _ _).symm|_=>exact h3.elim
  |ix k=>cases t with|ar l' t=>obtain⟨hk,h3⟩:=h3;obtain⟨q1,q2⟩:=ih t a l m h1 hm h3;refine⟨⟨hk,q1⟩,?_⟩;simp only[aU,nU,q2];exact(cX _ _ _).symm|_=>exact h3.elim
theorem QX{id:Nat}{t u:Ty}{w:Sl (El t)}{w':Sl (El u)}{v v':Nat}(ho:fO h id=some (.ar t w v)\/fO h id=some (.im t w v))(ho':fO h id=some (.ar u w' v')\/fO h id=some (.im u w' v')):NO u w'=NO t w/\v'=v:=by
 rcases ho with ho|ho<;>rcases ho' with ho'|ho'<;>(rw[ho]at ho';simp at ho')
 all_goals
  obtain⟨rfl,e,rfl⟩:=ho';cases eq_of_heq e;exact⟨rfl,rfl⟩
theorem LV{id:Nat}{t u:Ty}{w:Sl (El t)}{w':Sl (El u)}{v v':Nat}(ho:fO h id=some (.ar t w v)\/fO h id=some (.im t w v))(ho':fO h id=some (.ar u w' v')\/fO h id=some (.im u w' v')):w'.l.length=w.l.length:=by obtain⟨e,_⟩:=QX ho ho';obtain⟨rfl,e⟩:=kf e;cases e;rfl
theorem P3{c:C}{t:Ty}{id m sz:Nat}{w:Sl (El t)}{i:Int}{kd:IntKind}{cl:Call}{nx:Nat}(hc:c=ny (bY t) (aS t) id w)(hsz:bY t=sz)(hi:cZ i w.l.length=some m):
  cI cl (.indexAddr none sz) [some (.c c),some (tI kd i)] h1 nx=some (.c (.ep id m 0),[],[],nx):=by
 subst hc hsz;cases w with|nil=>exact Mt hi|mk l=>exact VC hi
theorem Ts{t:Ty}{v:El t}{x:TV}(hx:gm h (.x t v) x):lJ t=true:=by obtain⟨_,⟨hd,_⟩,_⟩:=pQ (v:=.x t v) trivial hx;exact hd
theorem VR{n':Nat}{t:Ty}{v:El (.ar n' t)}{x:TV}(hx:gm h (.x (.ar n' t) v) x):x=.agg ((aS (.ar n' t) v).map .d):=by obtain⟨cs,⟨_,rfl⟩,h2,_⟩:=pQ (v:=.x (.ar n' t) v) trivial hx;exact h2 rfl
theorem FQ{n' m:Nat}{t:Ty}(v:El (.ar n' t))(hm:m<n'):m*bY t+bY t<=(aS (.ar n' t) v).length/\((aS (.ar n' t) v).drop (m*bY t)).take (bY t)=aS t (gt v.1 m):=by have hl:v.1.length=n':=v.2;refine⟨?_,Ao (bO t) v.1 m (by omega)⟩;rw[bO];show _<=n'*bY t;have:(m+1)*bY t<=n'*bY t:=Nat.mul_le_mul_right _ hm;rw[bB,Nat.one_mul]at this;exact this
theorem Mv{x:V}{y:TV}{sz:Nat}{i:Int}{kd:IntKind}
  (hz:(match x with
  |.x (.sl t) v=>bif bY t==sz then(cZ i v.l.length).bind fun m=>k (.pt t (gt v.l m)) s []else none
  |.so id=>(match uQ s.heap (.so id)with|some ⟨t,v,_⟩=>bif bY t==sz then(cZ i v.l.length).bind fun m=>k (.ep id m t []) s []else none|none=>none)
  |.sb id _ lo t v=>bif bY t==sz then(cZ i v.l.length).bind fun m=>k (.ep id (lo+m) t []) s []else none
  |.sr id=>(match fO s.heap id with|some (.rw t v _)=>bif 1==sz then(cZ i v.l.length).bind fun m=>k (.ep id m (.sl t) []) s []else none|_=>none)
  |_=>none)=some z)
  (hr:HR s.next h1 s.heap) (hx:gm s.heap x y) (hk:fB s.next s.heap x) (ha:iZ s.heap x=true):AV h1 (.indexAddr none sz) [y,tI kd i] s k z:=by
 cases x with
 |x t v=>
  cases t with
  |sl t=>
   simp only at hz;obtain⟨h2,hz2⟩:=aM hz;obtain⟨m,hm,hz3⟩:=qh hz2;obtain rfl:bY t=sz:=by simpa using h2
   rw[zj hx];exact .pure hr hz3 (x:=.c (.d (.pt (aS t (gt (Sl.l v) m))))) (fun _=>S6 hm) (cj (dV rfl ⟨Ts (t:=.sl t) hx,rfl⟩)) trivial
  |_=>simp at hz
 |so id=>
  simp only at hz;split at hz
  .rename_i t v l hs;obtain⟨h2,hz2⟩:=aM hz;obtain⟨m,hm,hz3⟩:=qh hz2;obtain⟨ver,ho,_⟩:=vr hs;simp only at ho;rw[tV hx (nw ho)];refine .pure hr hz3 (x:=.c (.ep id m 0)) (fun _=>P3 rfl (by simpa using h2) hm) (cj (dV rfl (by cases t<;>rfl))) ⟨hk,by cases t<;>trivial,fun u w' v' ho'=>?_,fun u w' v' ho'=>?_⟩
   .have:=(eC.1 hm).2;rw[LV ho ho'];exact this
   .rcases ho with ho|ho<;>rw[ho]at ho'<;>cases ho'
  .simp at hz
 |sr id=>
  simp only at hz;split at hz
  .rename_i t v ln ho;obtain⟨h2,hz2⟩:=aM hz;obtain⟨m,hm,hz3⟩:=qh hz2;rw[K2 hx (tY ho)];refine .pure hr hz3 (x:=.c (.ep id m 0)) (fun _=>P3 (t:=.sl t) rfl (Eq.trans (rfl:bY (.sl t)=1) (beq_iff_eq.1 h2)) hm) (cj (dV rfl rfl)) ⟨hk,trivial,fun u w' v' ho'=>?_,fun u w' v' ho'=>?_⟩
   .rw [ho]at ho';rcases ho' with ho'|ho'<;>cases ho'
   .rw [ho]at ho';cases ho';exact(eC.1 hm).2
  .simp at hz
 |sb id ver lo t v=>
  simp only at hz;obtain⟨h2,hz2⟩:=aM hz;obtain⟨m,hm,hz3⟩:=qh hz2;obtain rfl:bY t=sz:=by simpa using h2
  rw[rA hx ha];have hm2:=(eC.1 hm).2;cases v with
  |nil=>exact Mt hm
  |mk w=>refine .pure hr hz3 (x:=.c (.ep id (lo+m) 0)) (fun _=>S7 (l:=w) hm) (cj (dV rfl (by cases t<;>rfl))) ⟨hk.1,by cases t<;>trivial,fun u w' v' ho'=>?_,fun u w' v' ho'=>by obtain⟨u0,s0,ho⟩:=mH (h:=s.heap) (id:=id) (ver:=ver) (cH.1 ha).2;rcases ho with ho|ho<;>rw[ho]at ho'<;>cases ho'⟩;obtain⟨u0,s0,ho⟩:=mH (h:=s.heap) (id:=id) (ver:=ver) (cH.1 ha).2;obtain⟨_,h4⟩:=hk.2 u0 s0 ver ho;obtain⟨_,h6⟩:=h4 rfl;rw[LV ho ho'];cases s0 with|nil=>exact h6.elim|mk l=>have:=h6.1;simp only[Sl.l]at hm2|-;omega
 |_=>simp at hz
theorem Mu{x:V}{y:TV}{n0 sz:Nat}{i:Int}{kd:IntKind}
  (hz:(match x with
  |.op id t p=>(match sG t p with|some (.ar n' u)=>bif(n'==n0)&&(bY u==sz)then(cZ i n0).bind fun m=>k (.op id t (p++[.ix m])) s []else none|_=>none)
  |.ep id q t p=>(match sG t p with|some (.ar n' u)=>bif(n'==n0)&&(bY u==sz)then(cZ i n0).bind fun m=>k (.ep id q t (p++[.ix m])) s []else none|_=>none)
  |.pt (.ar n' u) v=>bif(n'==n0)&&(bY u==sz)then(cZ i n0).bind fun m=>k (.pt u (gt v.1 m)) s []else none
  |_=>none)=some z)
  (hr:HR s.next h1 s.heap) (hx:gm s.heap x y) (hk:fB s.next s.heap x):AV h1 (.indexAddr (some n0) sz) [y,tI kd i] s k z:=by
 cases x with
 |op id t p=>
  simp only at hz;split at hz
  .rename_i n' u hu;obtain⟨h2,hz2⟩:=aM hz;obtain⟨m,hm,hz3⟩:=qh hz2;simp only[ai,beq_iff_eq]at h2;obtain⟨rfl,rfl⟩:=h2;obtain⟨rfl,hm2⟩:=eC.1 hm;obtain⟨q1,q2⟩:=ID p t u n' m hu hm2 hk.2;rw[xd hx];refine .pure hr hz3 (x:=.c (.op id (nU t p+m*bY u))) (fun _=>?_) (cj (dV rfl ?_)) ⟨hk.1,q1⟩
   .simp only[nf,cI,cA,jo];rw[if_pos ⟨by omega,by omega⟩];simp
   .show [_]=[_];rw[q2]
  .simp at hz
 |ep id q t p=>
  simp only at hz;split at hz
  .rename_i n' u hu;obtain⟨h2,hz2⟩:=aM hz;obtain⟨m,hm,hz3⟩:=qh hz2;simp only[ai,beq_iff_eq]at h2;obtain⟨rfl,rfl⟩:=h2;obtain⟨rfl,hm2⟩:=eC.1 hm;obtain⟨q1,q2⟩:=ID p t u n' m hu hm2 hk.2.1;rw[tW hx];refine .pure hr hz3 (x:=.c (.ep id q (nU t p+m*bY u))) (fun _=>?_) (cj (dV rfl ?_)) ⟨hk.1,q1,hk.2.2⟩
   .simp only[nf,cI,cA,jo];rw[if_pos ⟨by omega,by omega⟩];simp
   .show [_]=[_];rw[q2]
  .simp at hz
 |pt t v=>cases t with|ar n' u=>simp only at hz;obtain⟨h2,hz2⟩:=aM hz;obtain⟨m,hm,hz3⟩:=qh hz2;simp only[ai,beq_iff_eq]at h2;obtain⟨rfl,rfl⟩:=h2;obtain⟨rfl,hm2⟩:=eC.1 hm;obtain⟨hd,rfl⟩:=zk hx;obtain⟨a1,a2⟩:=FQ v hm2;refine .pure hr hz3 (x:=.c (.d (.pt (aS u (gt v.1 m))))) (fun _=>?_) (cj (dV rfl ⟨hd,rfl⟩)) trivial;simp only[nf,cI,cA,jo];rw[if_pos ⟨by omega,by omega⟩];simp only[Z0];rw[if_pos a1,a2]|_=>simp at hz
 |_=>simp at hz
end
section
variable{h:H2}{n:Nat}{h1:bD}{β:Type}{s:S2}{k:V->S2->List Nat->Option β}{z:β}
theorem Do{t u:Ty}{m:Sl (El t)}{m':Sl (El u)}(hc:gN (.sl t) (.sl u) m=some m'):t=u/\m'.l.map (aS u)=m.l.map (aS t):=by obtain⟨e,rfl⟩:=da hc;cases e;exact⟨rfl,rfl⟩
theorem QD{c:C}{t:Ty}{id sz:Nat}{w:Sl (El t)}{ver:Nat}(hr:HR n h1 h)(hc:c=ny (bY t) (aS t) id w)(hsz:bY t=sz)(ho:fO h id=some (.ar t w ver)\/fO h id=some (.im t w ver)):
  ∃aw,jV sz h1 c=some (w.l.map (aS t),aw)/\∀i∈aw,i=id:=by
 subst hc hsz;cases w with
 |nil=>exact⟨[],rfl,fun i hi=>by simp at hi⟩
 |mk l=>
  refine⟨[id],?_,fun i hi=>by simpa using hi⟩;rcases ho with ho|ho
  .have hb:=(hr.ob id _ ho).2.1.2.2 l rfl;simp only[ny,jV,hb];rw[if_pos ⟨trivial,by simp⟩,uK];rfl
  .have hb:=(hr.ob id _ ho).2.1.2.2 l rfl;simp only[ny,jV,hb];rw[if_pos ⟨trivial,by simp⟩,uK];rfl
theorem Oj{id lo ver sz:Nat}{t:Ty}{r:Sl (El t)}(hr:HR n h1 h)(hk:fB n h (.sb id ver lo t r))(ha:iZ h (.sb id ver lo t r)=true)(hsz:bY t=sz):
  ∃aw,jV sz h1 (zG id lo t r)=some (r.l.map (aS t),aw)/\∀i∈aw,i=id:=by
 subst hsz;obtain⟨u,s0,ho⟩:=mH (h:=h) (id:=id) (ver:=ver) (cH.1 ha).2;obtain⟨_,h4⟩:=hk.2 u s0 ver ho;obtain⟨h5,h6⟩:=h4 rfl;cases r with
 |nil=>exact⟨[],rfl,fun i hi=>by simp at hi⟩
 |mk w=>
  cases s0 with
  |nil=>exact h6.elim
  |mk l=>
   refine⟨[id],?_,fun i hi=>by simpa using hi⟩
   have hb:az h1 id=some (.aL (bY u) (l.map (aS u)))\/az h1 id=some (.qH (bY u) (l.map (aS u))):=by
    rcases ho with ho|ho
    .exact .inl ((hr.ob id _ ho).2.1.2.2 l rfl)
    .exact .inr ((hr.ob id _ ho).2.1.2.2 l rfl)
   rcases hb with hb|hb
   .simp only[zG,jV,hb];rw[if_pos ⟨trivial,by simpa using h6.1⟩];rw[aF,h6.2];rfl
   .simp only[zG,jV,hb];rw[if_pos ⟨trivial,by simpa using h6.1⟩];rw[aF,h6.2];rfl
theorem Ib{x:V}{y:TV}{t0 t:Ty}{m:Sl (El t)}{l:List Nat}{sz:Nat}(hr:HR n h1 h)(hx:gm h x y)(hk:fB n h x)(ha:iZ h x=true)(hs:Lh t0 h x=some ⟨t,m,l⟩)(hsz:bY t=sz):
  ∃c aw,y=.c c/\jV sz h1 c=some (m.l.map (aS t),aw)/\∀i∈aw,i∈l:=by
 cases x with
 |nl j=>cases j with|zero=>simp only[Lh]at hs;obtain⟨rfl,e⟩:=kf (aa hs);obtain⟨rfl,rfl⟩:=af (eq_of_heq e);exact⟨_,[],xe hx,rfl,fun i hi=>by simp at hi⟩|succ j=>simp[Lh,uQ]at hs
 |x u v=>cases u with|sl u=>simp only[Lh,uQ]at hs;obtain⟨rfl,e⟩:=kf (aa hs);obtain⟨rfl,rfl⟩:=af (eq_of_heq e);subst hsz;exact⟨_,[],zj hx,Oi,fun i hi=>by simp at hi⟩|_=>simp[Lh,uQ]at hs
 |so id=>obtain⟨ver,ho,e⟩:=vr (h:=h) (id:=id) hs;obtain rfl:l=[id]:=e;obtain⟨aw,q1,q2⟩:=QD hr rfl hsz ho;exact⟨_,aw,tV hx (nw ho),q1,fun i hi=>by simpa using q2 i hi⟩
 |sb id ver lo u r=>simp only[Lh,uQ]at hs;obtain⟨rfl,e⟩:=kf (aa hs);obtain⟨rfl,rfl⟩:=af (eq_of_heq e);obtain⟨aw,q1,q2⟩:=Oj hr hk ha hsz;exact⟨_,aw,rA hx ha,q1,fun i hi=>by simpa using q2 i hi⟩
 |_=>simp[Lh,uQ]at hs
def u9(s:S2):Option Nat->S2
 |none=>s
 |some id=>eU s id none
theorem Du{m8:Option Nat}{t:Ty}{w:Sl (El t)}{u:fN}{aw l:List Nat}{m:Nat}(hr:HR s.next h1 s.heap)(hkl:∀id,m8=some id->id<s.next)(hd:DD t=true)(hu:∀p∈u,p.1=s.next\/m8=some p.1)(hl:∀i∈aw,i∈l)(hm:m<=s.next+1)
  (hb:∀l,w=.mk l->az (u++h1) s.next=some (.aL (bY t) (l.map (aS t)))) {x:TV} (hx:x=.c (ny (bY t) (aS t) s.next w)):sF s (kq (u9 s m8) (.ar t w 0)) h1 x u aw m (.so s.next) l:=by
 have hnx:(u9 s m8).next=s.next:=by cases m8<;>rfl
 have hh:(kq (u9 s m8) (.ar t w 0)).heap=(s.next,some (.ar t w 0))::(u9 s m8).heap:=by simp only[kq,hnx]
 have hfo:∀i,fO (kq (u9 s m8) (.ar t w 0)).heap i=if s.next=i then some (.ar t w 0)else if m8=some i then none else fO s.heap i:=by intro i;rw[hh,cS];cases m8 with|none=>simp[u9]|some id=>simp only[u9,eU,cS,ce]
 have hnn:(kq (u9 s m8) (.ar t w 0)).next=s.next+1:=by simp only[kq,hnx]
 refine sF.F3 (s.next::m8.toList) hr ⟨fun i o' hi ho=>?_⟩ ?_ ?_ ?_ ?_ hl ?_ ?_ ?_ ?_ ?_ ?_ (fun i hi h=>by rw[hfo,if_neg (by omega)];split<;>first|rfl|exact h)
 .rw [hfo,if_neg (by omega)]at ho;split at ho
  .simp at ho
  .exact .inl ⟨o',ho,tR.refl _⟩
 .cases m8<;>rfl
 .cases m8<;>rfl
 .rw [hnn];exact hm
 .rw [hnn];omega
 .cases m8<;>simp[kq,u9,eU]
 .intro p hp;rcases hu p hp with e|e
  .simp [e]
  .simp [e]
 .intro i hi;rw[hfo,if_neg (fun e=>hi (by simp[e])),if_neg (fun e=>hi (by simp[e]))]
 .intro i hi o ho;rw[hfo]at ho;split at ho
  .rename_i e;subst e;obtain rfl:=aa ho;obtain⟨h3,h4⟩:=rl hd;exact⟨by rw[hnn];omega,⟨h3,h4,hb⟩,trivial⟩
  .rename_i e;split at ho
   .simp at ho
   .rename_i e2;rcases aJ.1 hi with hi|hi
    .exact absurd hi.symm e
    .exact absurd (by simpa using hi) e2
 .rw [hx,hh,show s.next=s.next from rfl];exact xB
 .rw [hnn];exact bc _
theorem Kl{sz:Nat}{c:C}{new:List (List D)}{aw:List Nat}(hx:jV sz h1 c=some (new,aw))(hl:new.length<=2147483648){nx:Nat}{cl:Call}:
  cI cl (.append sz) [some (.c (.d (.lit (.slice none 0 0)))),some (.c c)] h1 nx=if new=[]then some (.c (.d (.lit (.slice none 0 0))),[],aw,nx)else some (.c (.fK sz nx 0 new.length),[(nx,some (.aL sz new))],aw,nx+1):=by
 simp only[cI,pC,hx];rw[if_pos (by simpa[E7]using hl)];cases new<;>simp
theorem wT{m8:Option Nat}{t:Ty}{xs r:List (El t)}{sz:Nat}{c:C}{aw l:List Nat}(hr:HR s.next h1 s.heap)(hkl:∀id,m8=some id->id<s.next)(hd:DD t=true)(hsz:bY t=sz)(hx:jV sz h1 c=some (xs.map (aS t),aw))(hc:m_ ([]++xs)=some r)
  (hl:∀i∈aw,i∈l) (hz:k (.so s.next) (kq (u9 s m8) (.ar t (yI Sl.nil xs r) 0)) l=some z):AV h1 (.append sz) [.c (.d (.lit (.slice none 0 0))),.c c] s k z:=by
 subst hsz;obtain⟨rfl,hlen⟩:=iM.1 hc;refine⟨_,_,_,hz,fun cl=>?_⟩;simp only[aD,aZ];rw[Kl hx (by simpa using hlen)];cases xs with|nil=>exact⟨_,_,_,_,rfl,Du hr hkl hd (fun p hp=>by simp at hp) hl (bE _) (fun l e=>by cases e) rfl⟩|cons y ys=>refine⟨_,_,_,_,if_neg (by simp),Du hr hkl hd (fun p hp=>by simp at hp;simp[hp]) hl (am _) (fun l e=>?_) rfl⟩;simp only[yI,bi]at e;cases e;rw[bd,dA,if_pos rfl]
theorem I2{t:Ty}{w xs r:List (El t)}{sz id off:Nat}{rows:List (List D)}{c:C}{aw l:List Nat}(hr:HR s.next h1 s.heap)(hid:id<s.next)(hd:DD t=true)(hsz:bY t=sz)(hl1:az h1 id=some (.aL sz rows))(hle:off+w.length<=rows.length)(hro:rows.length<=off+(w.length+xs.length))(he:(rows.drop off).take w.length=w.map (aS t))
  (hx:jV sz h1 c=some (xs.map (aS t),aw)) (hc:m_ (w++xs)=some r) (hl:∀i∈id::aw,i∈l) (hz:k (.so s.next) (kq (eU s id none) (.ar t (yI (.mk w) xs r) 0)) l=some z):
  AV h1 (.append sz) [.c (.fK sz id off (w.map (aS t)).length),.c c] s k z:=by
 subst hsz;obtain⟨rfl,hlen⟩:=iM.1 hc;have ea:yI (.mk w) xs (w++xs)=.mk (w++xs):=by cases xs<;>rfl
 rw[ea]at hz;refine⟨_,_,_,hz,fun cl=>⟨.c (.fK (bY t) s.next 0 ((w++xs).map (aS t)).length),[(id,none),(s.next,some (.aL (bY t) ((w++xs).map (aS t))))],id::aw,s.next+1,?_,?_⟩⟩
 .simp only[aD,aZ,cI,pC,hx,hl1];simp only[aF,au]at hlen|-;rw[if_pos ⟨trivial,by omega,by simpa[E7]using hlen⟩,he,<-gr,List.drop_eq_nil_of_le (by omega),List.append_nil]
 .refine Du (m8:=some id) hr (fun i e=>by cases e;exact hid) hd (fun p hp=>?_) hl (am _) (fun l e=>?_) rfl
  .simp only[aJ,ju,or_false]at hp;rcases hp with rfl|rfl<;>simp
  .cases e;rw[aU,dA,if_neg (by omega),bd,dA,if_pos rfl]
theorem FS{a x:V}{ya yx:TV}{t0:Ty}{sz:Nat}
  (hz:(match Lh t0 s.heap x with
  |some ⟨t,m,aw⟩=>bif(bY t==sz)&&DD t then(match a with
   |.nl 0=>(m_ ([]++m.l)).bind fun r=>k (.so s.next) (kq s (.ar t (yI Sl.nil m.l r) 0)) aw
   |.x (.sl _) v=>bif Sl.fT v then((m_ ([]++m.l)).bind fun r=>k (.so s.next) (kq s (.ar t (yI Sl.nil m.l r) 0)) aw)else none
   |.so id=>(match fO s.heap id with
    |some (.ar u v _)=>(match gN (.sl t) (.sl u) m with
     |some m=>(m_ (v.l++m.l)).bind fun r=>k (.so s.next) (kq (eU s id none) (.ar u (yI v m.l r) 0)) (id::aw)
     |none=>none)
    |_=>none)
   |.sb id _ lo u v=>(match fO s.heap id,gN (.sl t) (.sl u) m with
    |some (.ar _ s0 _),some m=>bif Nat.ble s0.l.length (lo+(v.l.length+m.l.length))then((m_ (v.l++m.l)).bind fun r=>k (.so s.next) (kq (eU s id none) (.ar u (yI v m.l r) 0)) (id::aw))else none
    |_,_=>none)
   |_=>none)else none
  |none=>none)=some z)
  (hr:HR s.next h1 s.heap) (ha1:gm s.heap a ya) (ha2:fB s.next s.heap a) (ha3:iZ s.heap a=true) (hx:gm s.heap x yx) (hk:fB s.next s.heap x) (ha:iZ s.heap x=true):AV h1 (.append sz) [ya,yx] s k z:=by
 split at hz
 .rename_i t m l hs;obtain⟨h2,hz2⟩:=aM hz;simp only[ai,beq_iff_eq]at h2;obtain⟨hsz,hd⟩:=h2;obtain⟨c,aw,rfl,q1,q2⟩:=Ib hr hx hk ha hs hsz;clear hz;cases a with
  |nl j=>cases j with|zero=>obtain⟨r,hc,hz3⟩:=qh hz2;rw[xe ha1];exact wT (m8:=none) hr (fun _ e=>by cases e) hd hsz q1 hc q2 hz3|succ j=>simp at hz2
  |x u v=>
   cases u with
   |sl u=>obtain⟨hnil,hz3⟩:=aM hz2;obtain⟨r,hc,hz4⟩:=qh hz3;cases v with|mk=>cases hnil|nil=>obtain⟨cc,rfl,hcc⟩:=jM (v:=.x (.sl u) Sl.nil) ha1 rfl;obtain rfl:cc=ER 0:=(bT hcc.2).1;exact wT (m8:=none) hr (fun _ e=>by cases e) hd hsz q1 hc q2 hz4
   |_=>simp at hz2
  |so id=>
   simp only at hz2;split at hz2
   .rename_i u v ver ho;split at hz2
    .rename_i m' hm;obtain⟨rfl,e⟩:=Do hm;obtain⟨r,hc,hz3⟩:=qh hz2;rw[tV ha1 (nw (.inl ho))];rw[<-e]at q1;cases v with
     |nil=>exact wT (m8:=some id) hr (fun _ e=>by cases e;exact ha2) hd hsz q1 hc (fun i hi=>av _ (q2 i hi)) hz3
     |mk w=>
      have hb:=(hr.ob id _ ho).2.1.2.2 w rfl;subst hsz;refine I2 (w:=w) hr ha2 hd rfl hb (by simp) (by simp only[aF];omega) (by rw[<-aF (f:=aS t)];exact uK) q1 hc (fun i hi=>?_) hz3;rcases aJ.1 hi with rfl|hi
      .exact bh ..
      .exact av _ (q2 i hi)
    .simp at hz2
   .simp at hz2
  |sb id ver lo u v=>
   simp only at hz2;split at hz2
   .rename_i u0 s0 v0 m' ho hm;obtain⟨rfl,e⟩:=Do hm;obtain⟨hgd,hz2b⟩:=aM hz2;obtain⟨r,hc,hz3⟩:=qh hz2b;rw[rA ha1 ha3];rw[<-e]at q1;cases v with
    |nil=>exact wT (m8:=some id) hr (fun _ e=>by cases e;exact ha2.1) hd hsz q1 hc (fun i hi=>av _ (q2 i hi)) hz3
    |mk w=>
     obtain⟨u1,s1,ho1⟩:=mH (h:=s.heap) (id:=id) (ver:=ver) (cH.1 ha3).2;obtain⟨_,h4⟩:=ha2.2 u1 s1 ver ho1;obtain⟨h5,h6⟩:=h4 rfl
     have ho2:fO s.heap id=some (.ar u1 s1 ver):=by
      rcases ho1 with ho1|ho1
      .exact ho1
      .rw [ho]at ho1;simp at ho1
     cases s1 with
     |nil=>exact h6.elim
     |mk l1=>
      have hb:=(hr.ob id _ ho2).2.1.2.2 l1 rfl;subst hsz;rw[h5]at hb
      refine I2 (w:=w) hr ha2.1 hd rfl hb (by simpa using h6.1) (by
       rw[ho2]at ho;obtain⟨rfl,e2,_⟩:u1=u0/\_:=by simpa using ho
       cases eq_of_heq e2;have:=jP hgd;simpa[Sl.l]using this) h6.2 q1 hc (fun i hi=>?_) hz3
      rcases aJ.1 hi with rfl|hi
      .exact bh ..
      .exact av _ (q2 i hi)
   .simp at hz2
  |_=>simp at hz2
 .simp at hz
end
section
variable{h:H2}{n:Nat}{h1:bD}{β:Type}{s:S2}{k:V->S2->List Nat->Option β}{z:β}
theorem HU{id:Nat}{o o':O}{u:fN}{x:TV}{v:V}{aw l:List Nat}(hr:HR s.next h1 s.heap)(ho:fO s.heap id=some o)(hs:tR o o')(hu:∀p∈u,p.1=id)(hb:wx ((id,some o')::s.heap) o' (az (u++h1) id))(hko:DE s.next ((id,some o')::s.heap) o')
  (hx:gm ((id,some o')::s.heap) v x) (hk:fB s.next ((id,some o')::s.heap) v) (hl:∀i∈aw,i∈l):sF s (eU s id (some o')) h1 x u aw s.next v l:=by
 refine sF.F3 [id] hr (ke.DN ho hs) rfl rfl (am _) (am _) hl rfl (fun p hp=>by simp[hu p hp]) (fun i hi=>?_) (fun i hi o2 ho2=>?_) hx hk (fun i _ h=>by simp only[eU];rw[cS,if_neg (fun e=>by rw[e,h]at ho;cases ho)];exact h)
 .simp only[eU];rw[cS,if_neg fun e=>hi (by simp[e])]
 .obtain rfl:=aq.1 hi;simp only[eU,uJ]at ho2;obtain rfl:=aa ho2;exact⟨(hr.ob _ _ ho).1,hb,hko⟩
theorem tC{id ver:Nat}{t:Ty}{w w':Sl (El t)}{u:fN}{x:TV}{v:V}{aw l:List Nat}(hr:HR s.next h1 s.heap)(ho:fO s.heap id=some (.ar t w ver))(hn:w.fT=w'.fT)(hlen:w.l.length=w'.l.length)(hu:∀p∈u,p.1=id)
  (hb:∀l,w'=.mk l->az (u++h1) id=some (.aL (bY t) (l.map (aS t)))) (hx:∀g,gm g v x) (hk:∀n g,fB n g v) (hl:∀i∈aw,i∈l):sF s (eU s id (some (.ar t w' (ver+1)))) h1 x u aw s.next v l:=by
 obtain⟨h2,h3,_⟩:=(hr.ob id _ ho).2.1;exact HU hr ho ⟨bE _,rfl,hn,hlen,fun e=>by omega⟩ hu ⟨h2,h3,hb⟩ trivial (hx _) (hk _ _) hl
theorem Kv{a x:V}{ya yx:TV}{t0:Ty}{sz:Nat}
  (hz:(match Lh t0 s.heap x with
  |some ⟨t,m,aw⟩=>bif bY t==sz then(match a with
   |.nl 0=>k (.x (.i .i64) (0:Int)) s aw
   |.so id=>(match fO s.heap id with
    |some (.ar u v ver)=>(match gN (.sl t) (.sl u) m with
     |some m=>k (.x (.i .i64) ((min m.l.length v.l.length:Nat):Int)) (eU s id (some (.ar u (v.to (A4 v.l 0 v.l.length m.l)) (ver+1)))) (id::aw)
     |none=>none)
    |_=>none)
   |.sb id ver lo _ v=>(match fO s.heap id with
    |some (.ar u w ver')=>(match gN (.sl t) (.sl u) m with
     |some m=>bif ver'==ver then k (.x (.i .i64) ((min m.l.length v.l.length:Nat):Int)) (eU s id (some (.ar u (w.to (A4 w.l lo v.l.length m.l)) (ver+1)))) (id::aw)else none
     |none=>none)
    |_=>none)
   |_=>none)else none
  |none=>none)=some z)
  (hr:HR s.next h1 s.heap) (ha1:gm s.heap a ya) (ha2:fB s.next s.heap a) (ha3:iZ s.heap a=true) (hx:gm s.heap x yx) (hk:fB s.next s.heap x) (ha:iZ s.heap x=true):AV h1 (.copy sz) [ya,yx] s k z:=by
 have hmem:∀{id:Nat}{aw l:List Nat},(∀i∈aw,i∈l)->∀i∈id::aw,i∈id::l:=fun q i hi=>by
  rcases aJ.1 hi with rfl|hi
  .exact bh ..
  .exact av _ (q i hi)
 split at hz
 .rename_i t m l hs;obtain⟨h2,hz2⟩:=aM hz;obtain rfl:bY t=sz:=by simpa using h2
  obtain⟨c,aw,rfl,q1,q2⟩:=Ib hr hx hk ha hs rfl;clear hz;cases a with
  |nl j=>cases j with|zero=>rw[xe ha1];exact⟨_,_,_,hz2,fun cl=>⟨tI .i64 0,[],aw,s.next,by simp only[aD,aZ,cI,nB,ER,q1];rfl,sF.pure hr (xi _ _) trivial q2⟩⟩|succ j=>simp at hz2
  |so id=>
   simp only at hz2;split at hz2
   .rename_i u v ver ho;split at hz2
    .rename_i m' hm;obtain⟨rfl,e⟩:=Do hm;rw[tV ha1 (nw (.inl ho))];rw[<-e]at q1;cases v with
     |nil=>refine⟨_,_,_,hz2,fun cl=>⟨tI .i64 0,[],aw,s.next,by simp only[aD,aZ,cI,nB,ny,q1];rfl,?_⟩⟩;exact tC hr ho rfl rfl (fun p hp=>by simp at hp) (fun l e=>by cases e) (fun g=>by simpa[Sl.l]using xi .i64 0) (fun _ _=>trivial) fun i hi=>av _ (q2 i hi)
     |mk w=>
      have hb:=(hr.ob id _ ho).2.1.2.2 w rfl;refine⟨_,_,_,hz2,fun cl=>⟨_,_,_,_,RH hb q1,?_⟩⟩;refine tC hr ho rfl ?_ (fun p hp=>by simp at hp;simp[hp]) (fun l e=>?_) (fun g=>xi _ _) (fun _ _=>trivial) (hmem q2)
      .simp only[Sl.to,Sl.l];rw[vJ (by omega)]
      .simp only[Sl.to,Sl.l]at e;cases e;rw[bd,dA,if_pos rfl];rfl
    .simp at hz2
   .simp at hz2
  |sb id ver lo u0 v=>
   simp only at hz2;split at hz2
   .rename_i u w ver' ho;split at hz2
    .rename_i m' hm;obtain⟨rfl,e⟩:=Do hm;obtain⟨h3,hz3⟩:=aM hz2;obtain rfl:ver'=ver:=by simpa using h3
     rw[rA ha1 ha3];rw[<-e]at q1;obtain⟨_,h4⟩:=ha2.2 t w ver' (.inl ho);obtain⟨h5,h6⟩:=h4 rfl;cases v with
     |nil=>cases w with|mk w=>exact h6.elim|nil=>refine⟨_,_,_,hz3,fun cl=>⟨tI .i64 0,[],aw,s.next,by simp only[aD,aZ,cI,nB,zG,q1];rfl,?_⟩⟩;exact tC hr ho rfl rfl (fun p hp=>by simp at hp) (fun l e=>by cases e) (fun g=>by simpa[Sl.l]using xi .i64 0) (fun _ _=>trivial) fun i hi=>av _ (q2 i hi)
     |mk v=>
      cases w with
      |nil=>exact h6.elim
      |mk w=>
       have hb:=(hr.ob id _ ho).2.1.2.2 w rfl;refine⟨_,_,_,hz3,fun cl=>⟨tI .i64 (min m'.l.length v.length:Nat),[(id,some (.aL (bY t) ((A4 w lo v.length m'.l).map (aS t))))],id::aw,s.next,?_,?_⟩⟩
       .simp only[aD,aZ,cI,nB,zG,q1,hb,<-h5];rw[if_pos ⟨trivial,by simpa using h6.1⟩];simp only[Hs,aF];rfl
       .refine tC hr ho rfl ?_ (fun p hp=>by simp at hp;simp[hp]) (fun l e=>?_) (fun g=>xi _ _) (fun _ _=>trivial) (hmem q2)
        .simp only[Sl.to,Sl.l];rw[vJ h6.1]
        .simp only[Sl.to,Sl.l]at e;cases e;rw[bd,dA,if_pos rfl];rfl
    .simp at hz2
   .simp at hz2
  |_=>simp at hz2
 .simp at hz
theorem DR{g:H2}:gm g (.tp .ni) (.jA []):=⟨[],rfl,rfl⟩
theorem Hz{a:V}{ya:TV}{zz:List Value}
  (hz:(match a with
  |.sb id ver lo _ v=>(match fO s.heap id with
   |some (.ar u w ver')=>bif(ver'==ver)&&uP (oL u) zz&&DD u then(Pq w lo v.l.length (tT u)).bind fun w=>k (.tp .ni) (eU s id (some (.ar u w (ver+1)))) [id]else none
   |_=>none)
  |_=>none)=some z)
  (hr:HR s.next h1 s.heap) (ha1:gm s.heap a ya) (ha2:fB s.next s.heap a) (ha3:iZ s.heap a=true):AV h1 (.clear zz) [ya] s k z:=by
 cases a with
 |sb id ver lo u0 v=>
  simp only at hz;split at hz
  .rename_i u w ver' ho;obtain⟨h3,hz2⟩:=aM hz;simp only[ai,beq_iff_eq]at h3;obtain⟨⟨rfl,q1⟩,q2⟩:=h3;have q1:=sJ q1;subst q1;obtain⟨hd,_⟩:=rl q2;obtain⟨w',hw,hz3⟩:=qh hz2;rw[rA ha1 ha3];obtain⟨_,h4⟩:=ha2.2 u w ver' (.inl ho);obtain⟨h5,h6⟩:=h4 rfl;have hzl:dg (oL u)=aS u (tT u):=(sI u hd).symm;have hlen:bY u=(oL u).length:=by have:=congrArg jp hzl;rw[bO,dg,aF]at this;exact this.symm
   cases w with
   |nil=>simp[Pq]at hw
   |mk w=>
    cases v with
    |nil=>exact h6.elim
    |mk v=>
     simp only[Pq,ce]at hw;subst hw;have hb:=(hr.ob id _ ho).2.1.2.2 w rfl;refine⟨_,_,_,hz3,fun cl=>⟨.jA [],[(id,some (.aL (bY u) ((A4 w lo v.length (ak v.length (tT u))).map (aS u))))],[id],s.next,?_,?_⟩⟩
     .simp only[aD,aZ,cI,qd,zG,hb,<-h5];rw[if_pos ⟨hlen,by simpa using h6.1⟩,hzl,<-Hs];simp[aF,List.map_replicate,List.take_of_length_le]
     .refine tC hr ho rfl ?_ (fun p hp=>by simp at hp;simp[hp]) (fun l e=>?_) (fun g=>DR) (fun _ _=>trivial) (fun i hi=>hi)
      .simp only[Sl.l];rw[vJ (by simpa using h6.1)]
      .cases e;rw[bd,dA,if_pos rfl];rfl
  .simp at hz
 |_=>simp at hz
theorem DV{id m:Nat}{t:Ty}{p:qU}{w:V}{ya yw:TV}(hr:HR s.next h1 s.heap)(ha1:gm s.heap (.op id t p) ya)(ha2:fB s.next s.heap (.op id t p))(hx:gm s.heap w yw)(hk:fB s.next s.heap w)
  (hz:(bif(zp w==m)then(match fO s.heap id with
  |some (.bx u c)=>bif decide (u=t)then(match sG t p with
   |some a=>(match NM a w with
    |some w=>(match pI c p w with|some c=>bif eW c false t then k (.tp .ni) (eU s id (some (.bx t c))) [id]else none|none=>none)
    |none=>none)
   |none=>none)else none
  |_=>none)else none)=some z):AV h1 (.store m) [ya,yw] s k z:=by
 obtain⟨h2,hz2⟩:=aM hz;simp only[beq_iff_eq]at h2;clear hz;split at hz2
 .rename_i u c ho;obtain⟨h3,hz3⟩:=aM hz2;simp only[decide_eq_true_eq]at h3;subst h3;clear hz2;split at hz3
  .rename_i a ha;split at hz3
   .rename_i w' hw;split at hz3
    .rename_i c' hc;obtain⟨h4,hz4⟩:=aM hz3;obtain⟨cw,e1,e2⟩:=rV (pQ (GZ hw) hx);obtain⟨q1,q2,q3,q4⟩:=z4 hw e1 hk;obtain⟨_,⟨cs,e3,e4,e5⟩,e6⟩:=hr.ob id _ ho;have l1:cw.length=zp w:=iY e1;have l2:cw.length=bY a:=by rw[iY q1,ie _ _ _ q2]
     have l3:cs.length=bY u:=by rw[iY e4,ie _ _ _ e5]
     have l4:=xA p u a ha ha2.2;have q5:=xo p c u w' c' cs cw a e5 e4 ha2.2 hc ha q1 l2;have q6:=H7 p c w' c' e6 q3 hc;rw[xd ha1];have hos:tR (.bx u c) (.bx u c'):=rfl;refine .DN hr ho hos hz4 (fun cl=>?_) (b:=some (.box (aW cs (nU u p) cw))) ?_ ?_ DR trivial (aw:=[id]) fun i hi=>hi
     .simp only[aD,aZ,cI,nq,e2];rw[if_pos (l1.trans h2)];simp only[e3];rw[if_pos (by omega)]
     .exact ⟨_,rfl,mG (ke.DN ho hos) q6 q5,h4⟩
     .exact hZ (am _) (ke.DN ho hos) q6
    .simp at hz3
   .simp at hz3
  .simp at hz3
 .simp at hz2
theorem sF.seq{s1 s':S2}{fu u:fN}{x:TV}{aw a l:List Nat}{m:Nat}{v:V}(eE:ke s.next s.heap s1.heap)(he:s1.dF=s.dF)(hg:s1.gh=s.gh)(hn:s1.next=s.next)(hwo:s1.wo=a++s.wo)(hu:∀p∈fu,p.1∈a)(hf:∀id,id∉a->fO s1.heap id=fO s.heap id)
  (hna:∀i∈a,fO s.heap i≠none) (hd:sF s1 s' (fu++h1) x u aw m v l):sF s s' h1 x (u++fu) aw m v l:=by
 obtain⟨d1,d2,d3,d4,d5,d6,d7,d8,d9,d10,W,w1,w2,w3⟩:=hd;refine⟨d1,d2,by rw[aI];exact d3,ke.trans (Nat.le_of_eq hn.symm) eE d4,d5.trans he,d6.trans hg,d7,by omega,d9,fun i hi h=>d10 i (by omega) ((hf i fun q=>hna i q h).trans h),W++a,by rw[w1,hwo,aI],fun p hp=>?_,fun i hi=>?_⟩
 .rcases ap.1 hp with hp|hp
  .exact aA _ (w2 p hp)
  .exact aC _ (hu p hp)
 .rw [w3 i fun q=>hi (aA _ q),hf i fun q=>hi (aC _ q)]
theorem MK{v w:V}{l:List Nat}(hf:jW h v=some (w,l)):OA v:=by cases v<;>first|trivial|(simp[jW]at hf)
theorem qD{a b:List D}(e:a.map C.d=b.map C.d):a=b:=by
 induction a generalizing b with
 |nil=>cases b with|nil=>rfl|cons y b=>simp at e
 |cons x a ih=>cases b with|nil=>simp at e|cons y b=>simp only[aD,dP,C.d.injEq]at e;rw[e.1,ih e.2]
theorem Rz:∀(p:qU)(t u:Ty),lJ t=true->sG t p=some u->lJ u=true:=by
 intro p;induction p with
 |nil=>
  intro t u hd h;have e:sG t []=some t:=by cases t<;>rfl
  rw[e]at h;exact aa h▸hd
 |cons q p ih=>
  intro t u hd h;cases q with
  |fd i=>
   cases t with
   |st t=>
    simp only[sG]at h;split at h
    .rename_i w hw;exact ih w u (AC t i w hd hw) h
    .simp at h
   |_=>simp[sG]at h
  |ix i=>cases t with|ar l t=>exact ih t u hd h|_=>simp[sG]at h
theorem Iq(t:Ty):nU t []=0:=by cases t<;>rfl
theorem Gi{t:Ty}{l:List (Sl (El t))}{ln:Option (Nat×Nat)}{m:Nat}{r:Sl (El t)}(h:H4 ln m=true):(fw t l ln).set m (pR t r)=fw t (l.set m r) none:=by cases ln with|none=>simp only[fw,List.map_set]|some q=>obtain⟨m',i⟩:=q;obtain rfl:m'=m:=Nat.eq_of_beq_eq_true h;simp only[fw,List.map_set,List.set_set]
theorem Gj{t:Ty}{l:List (Sl (El t))}{ln:Option (Nat×Nat)}:(fw t l ln).length=l.length:=by cases ln with|none=>simp[fw]|some q=>obtain⟨m',i⟩:=q;simp[fw]
theorem zQ{id id2 m:Nat}{t:Ty}{l:List (Sl (El t))}{ln:Option (Nat×Nat)}{o2:O}{r:Sl (El t)}{u:fN}{aw:List Nat}(hr:HR s.next h1 s.heap)(ho:fO s.heap id=some (.rw t (.mk l) ln))(ho2:fO s.heap id2=some o2)(hne:id2≠id)(hlnm:H4 ln m=true)
  (hu:∀p∈u,p.1=id\/p.1=id2) (hb:az (u++h1) id=some (.nst (bY t) ((fw t l ln).set m (pR t r)))) (hids:∀i∈aw,i∈[id,id2]):
  sF s (eU (eU s id2 none) id (some (.rw t (.mk (l.set m r)) none))) h1 (.jA []) u aw s.next (.tp .ni) [id,id2]:=by
 have eE:ke s.next s.heap ((id,some (.rw t (.mk (l.set m r)) none))::(id2,none)::s.heap):=by refine ke.trans (am _) (ke.m8 id2) (ke.DN (o:=.rw t (.mk l) ln) ?_ ⟨rfl,rfl,by simp[Sl.l]⟩);rw[cS,if_neg hne];exact ho
 refine sF.F3 [id,id2] hr eE rfl rfl (am _) (am _) hids rfl (fun p hp=>?_) (fun i hi=>?_) (fun i hi o ho'=>?_) DR trivial (fun i _ h=>?_)
 .rcases hu p hp with e|e<;>simp[e]
 .simp only[aJ,ju,or_false,not_or]at hi;simp only[eU];rw[cS,if_neg (fun e=>hi.1 e.symm),cS,if_neg (fun e=>hi.2 e.symm)]
 .simp only[eU]at ho';by_cases hi1:id=i
  .subst hi1;rw[cS,if_pos rfl]at ho';obtain rfl:=aa ho';obtain⟨a,⟨d1,d2,_⟩,_⟩:=hr.ob _ _ ho;exact⟨a,⟨d1,d2,fun l' e=>by cases e;rw[hb,Gi hlnm]⟩,trivial⟩
  .rw [cS,if_neg hi1]at ho';simp only[aJ,ju,or_false]at hi;rcases hi with rfl|rfl
   .exact absurd rfl hi1
   .rw [cS,if_pos rfl]at ho';cases ho'
 .simp only[eU];rw[cS,if_neg (fun e=>by subst e;rw[ho]at h;cases h),cS,if_neg (fun e=>by subst e;rw[ho2]at h;cases h)];exact h
theorem sF.nx{s s':S2}{x:TV}{u:fN}{aw l:List Nat}{m q:Nat}{v:V}(d:sF s s' h1 x u aw m v l)(hq:q<=s'.next):sF s s' h1 x u aw q v l:=⟨d.val,d.V0,d.hr,d.eE,d.dF,d.gh,hq,d.le,d.aw,d.nb,d.wo⟩
theorem DW{id m q:Nat}{t:Ty}{p:qU}{w:V}{ya yw:TV}(hr:HR s.next h1 s.heap)(ha1:gm s.heap (.ep id m t p) ya)(ha2:fB s.next s.heap (.ep id m t p))(hx:gm s.heap w yw)(hk:fB s.next s.heap w)(ha:iZ s.heap w=true)
  (hz:(bif(zp w==q)then Gf id m t p w s (fun s l=>k (.tp .ni) s l)else none)=some z):AV h1 (.store q) [ya,yw] s k z:=by
 obtain⟨h2,hz2⟩:=aM hz;simp only[beq_iff_eq]at h2;clear hz;unfold Gf at hz2;split at hz2
 .rename_i u v ln ho;split at hz2
  .rename_i id2;split at hz2
   .rename_i u2 r ver ho2;split at hz2
    .rename_i r' hr';obtain⟨h3,hz3⟩:=aM hz2;simp only[ai,decide_eq_true_eq,Bool.not_eq_true',beq_eq_false_iff_ne]at h3;obtain⟨⟨rfl,hne⟩,hln⟩:=h3;obtain⟨e,e2⟩:=da hr';cases e;obtain rfl:r'=r:=e2;have hlen:=ha2.2.2.2 _ _ _ ho;obtain⟨_,⟨d1,d2,d3⟩,_⟩:=hr.ob id _ ho;obtain⟨_,⟨_,_,c3⟩,_⟩:=hr.ob id2 _ ho2;cases v with
     |nil=>simp[Sl.l]at hlen
     |mk l=>
      have d3:=d3 l rfl;have h2':q=1:=h2.symm;subst h2';rw[tW ha1,tV hx (nw (.inl ho2)),Iq];have hl2:m<(fw u l ln).length:=by rw[Gj];exact hlen
      cases r' with
      |nil=>
       refine⟨_,_,_,hz3,fun cl=>⟨.jA [],[(id,some (.nst (bY u) ((fw u l ln).set m .nil)))],[id],s.next,?_,?_⟩⟩
       .simp only[aD,aZ,cI,nq,ny,cellsOf,d3];rw[if_pos (show([_]:List C).length=1 from rfl)];rw[if_pos ⟨trivial,trivial,hl2⟩];simp only[tw]
       .exact zQ hr ho ho2 hne hln (fun p hp=>by simp at hp;simp[hp]) (by rw[bd,dA,if_pos rfl];rfl) (fun i hi=>by simp at hi;simp[hi])
      |mk rr=>
       have c3:=c3 rr rfl;refine⟨_,_,_,hz3,fun cl=>⟨.jA [],[(id,some (.nst (bY u) ((fw u l ln).set m (.bq (rr.map (aS u)))))),(id2,none)],[id,id2],s.next,?_,?_⟩⟩
       .simp only[aD,aZ,cI,nq,ny,cellsOf,d3];rw[if_pos (show([_]:List C).length=1 from rfl)];rw[if_pos ⟨trivial,trivial,hl2⟩];simp only[tw,c3];rw[if_pos ⟨trivial,by simp,hne⟩]
       .exact zQ hr ho ho2 hne hln (fun p hp=>by simp at hp;rcases hp with rfl|rfl<;>simp) (by rw[aU,dA,if_pos rfl];rfl) (fun i hi=>hi)
    .simp at hz2
   .simp at hz2
  .simp at hz2
 .rename_i u l ver ho;split at hz2
  .rename_i w' a hw;obtain⟨h3,hz3⟩:=aM hz2;simp only[decide_eq_true_eq]at h3;subst h3;clear hz2;split at hz3
   .rename_i b2 hb;split at hz3
    .rename_i y hy;split at hz3
     .rename_i c hc;split at hz3
      .rename_i y2 hy2;split at hz3
       .rename_i s1 hs1;obtain⟨h4,hz4⟩:=aM hz3;obtain⟨cw,e1,e2⟩:=rV (pQ (MK hw) hx);obtain⟨ds,aw,f1,f2,f3,f4,f5⟩:=ug hr w w' a cw hw e1 hk ha;have e3:=qD (jH w' false b2 y _ hy f2);have hlen:=ha2.2.2.1 u l ver (.inl ho)
        have hnm:∀(ds:List D)(cs:List C)(aw:List Nat),dU h1 cs=some (ds,aw)->ds.length=cs.length:=by
         intro ds cs;induction cs generalizing ds with
         |nil=>intro aw h;obtain⟨rfl,_⟩:[]=ds/\[]=aw:=by simpa[dU]using h
               rfl
         |cons c cs ih=>
          intro aw h;simp only[dU]at h;split at h
          .rename_i p1 p2 p3 p4 hp hq;obtain⟨rfl,rfl⟩:=af (aa h);simp[ih _ _ hq]
          .simp at h
        have l1:cw.length=zp w:=iY e1;have l2:ds.length=bY b2:=by rw[e3,bO]
        have l3:=hnm _ _ _ f1;have l4:=xA p u b2 hb ha2.2.1;cases l with
        |nil=>simp[Sl.l]at hlen
        |mk l=>
         obtain⟨_,⟨d1,d2,d3⟩,_⟩:=hr.ob id _ ho;have d3:=d3 l rfl;have q5:=xo (h:=s.heap) p (.x u (gt l m)) u (.x b2 y) c ((aS u (gt l m)).map .d) ((aS b2 y).map .d) b2 (by simp[eW]) ⟨d1,rfl⟩ ha2.2.1 hc hb ⟨Rz p u b2 d1 hb,rfl⟩ (by simp[bO]);have q6:=qM hy2 q5;rw[<-vo]at q6;have q7:=qD q6;obtain⟨fu,g1,g2,g3,g4,g5,g6,g7,g8,g9⟩:=Da (s0:=s) rfl hr a s1 aw aw hs1 f3 f4;have hid:id∉a:=by simpa using h4
         have hid2:aw.contains id=false:=by cases hq:aw.contains id with|false=>rfl|true=>exact absurd ((f3 id (by simpa using hq)).1) hid
         rw[tW ha1];refine⟨_,_,_,hz4,fun cl=>⟨.jA [],(id,some (.aL (bY u) ((l.set m y2).map (aS u))))::fu,id::aw,s.next,?_,?_⟩⟩
         .simp only[aD,aZ];exact N9 d3 hlen e2 (l1.trans h2) f1 g1 hid2 (by rw[bO];omega) (by rw[e3];exact q7)
         .have ho1:fO s1.heap id=some (.ar u (.mk l) ver):=by rw[g9 id hid];exact ho
          rw[<-g6]at g2
          have:=tC (v:=.tp .ni) (x:=.jA []) (aw:=id::aw) (l:=id::a) (u:=[(id,some (.aL (bY u) ((l.set m y2).map (aS u))))]) g2 ho1 (w':=.mk (l.set m y2)) rfl (by simp[Sl.l]) (fun p hp=>by simp at hp;simp[hp]) (fun l' e=>by cases e;rw[bd,dA,if_pos rfl]) (fun _=>DR) (fun _ _=>trivial) (fun i hi=>by
           rcases aJ.1 hi with rfl|hi
           .exact bh ..
           .exact av _ (f3 i hi).1)
          rw[g6]at this;exact sF.seq g3 g4 g5 g6 g7 g8 g9 (He rfl hs1) this
       .simp at hz3
      .simp at hz3
     .simp at hz3
    .simp at hz3
   .simp at hz3
  .simp at hz2
 .simp at hz2
end
section
variable{h:H2}{n:Nat}{h1:bD}{β:Type}{s:S2}{k:V->S2->List Nat->Option β}{z:β}
theorem vj:∀{cs:List C}{ds:List D}{aw:List Nat},dU h1 cs=some (ds,aw)->ds.length=cs.length:=by
 intro cs;induction cs with
 |nil=>intro ds aw h;obtain⟨rfl,_⟩:[]=ds/\[]=aw:=by simpa[dU]using h
       rfl
 |cons c cs ih=>
  intro ds aw h;simp only[dU]at h;split at h
  .rename_i p1 p2 p3 p4 hp hq;obtain⟨rfl,rfl⟩:=af (aa h);simp[ih hq]
  .simp at h
theorem Qh{t:Ty}(hd:lJ t=true)(m:Nat):(ak m (tT t)).flatMap (aS t)=dg ((ak m (oL t)).flatten):=by induction m with|zero=>rfl|succ m ih=>simp only[ga,bo,eL,ih,sI t hd,dg,gr]
theorem CZ(l:List Value):fL l=(dg l).map .d:=by simp[fL,dg]
theorem KU{t:Ty}(hd:lJ t=true)(m:Nat):((ak m (oL t)).flatten).length=m*bY t:=by have:=congrArg jp (Qh hd m);rw[uh (bO t),List.length_replicate,dg,aF]at this;exact this.symm
theorem FK{α:Type}{f:α->List D}{q:Nat}(hf:∀a,(f a).length=q):∀(l:List α),nC q l.length (l.flatMap f)=l.map f:=by intro l;induction l with|nil=>rfl|cons a l ih=>simp only[cg,nC,bo,aD];rw[List.take_left' (hf a),List.drop_left' (hf a),ih]
theorem Gx{t:Ty}{len:Nat}(hr:HR n h1 h)(hd:lJ t=true):∀(is:List Nat)(vs:List V)(m:Nat)(l:List (El t))(a:List Nat)(pre:List C)(xs:List TV),zM h t len m is vs=some (l,a)->m<=len->pre.length=m*bY t->
  nv h vs xs->(∀w∈vs,fB n h w)->(∀w∈vs,iZ h w=true)->
  ∃cs aw,ot (pre++fL ((ak (len-m) (oL t)).flatten)) ((is.map fun i=>(i*bY t,bY t)).zip xs)=some (pre++cs)/\dU h1 cs=some (l.flatMap (aS t),aw)/\(∀i∈aw,i∈a/\¬nQ h i)/\(∀i∈a,i∈aw\/nQ h i)/\l.length=len-m:=by
 intro is;induction is with
 |nil=>intro vs m l a pre xs hf hm hpre hx hk ha;cases vs with|cons v vs=>simp[zM]at hf|nil=>simp only[zM,ce,Prod.mk.injEq]at hf;obtain⟨rfl,rfl⟩:=hf;obtain rfl:=lY hx;refine⟨_,[],rfl,?_,fun i hi=>by simp at hi,fun i hi=>by simp at hi,by simp⟩;rw[CZ,Qh hd];exact zh _
 |cons i is ih=>
  intro vs m l a pre xs hf hm hpre hx hk ha;cases vs with
  |nil=>simp[zM]at hf
  |cons v vs=>
   simp only[zM]at hf;split at hf
   .rename_i w a1 hw;split at hf
    .rename_i y hy;obtain⟨hc,hf⟩:=aM hf;simp only[ai,Nat.ble_eq,Nat.blt_eq]at hc;obtain⟨hmi,hil⟩:=hc;split at hf
     .rename_i l1 b hl1;obtain⟨rfl,rfl⟩:=af (aa hf);obtain⟨x,ys,rfl,hx1,hx2⟩:=gz hx;obtain⟨cw,e1,e2⟩:=rV (pQ (MK hw) hx1);obtain⟨ds,aw,f1,f2,f3,f4,_⟩:=ug hr v w a1 cw hw e1 (hk _ (by simp)) (ha _ (by simp));have e3:=qD (jH w false t y _ hy f2);subst e3;have l1':cw.length=bY t:=by rw[<-vj f1,bO]
      have lz:(fL ((ak (i-m) (oL t)).flatten)).length=(i-m)*bY t:=by simp only[fL,aF];exact KU hd _
      have lz1:(fL (oL t)).length=bY t:=by rw[CZ,<-sI t hd,aF,bO]
      have hpl:(pre++fL ((ak (i-m) (oL t)).flatten)).length=i*bY t:=by rw[au,hpre,lz,<-bB,Nat.add_sub_cancel' hmi]
      obtain⟨cs,jds,g1,g2,g3,g4,g5⟩:=ih vs (i+1) l1 b (pre++fL ((ak (i-m) (oL t)).flatten)++cw) ys hl1 hil (by rw[au,hpl,l1',bB,Nat.one_mul]) hx2 (fun w hw=>hk w (by simp[hw])) (fun w hw=>ha w (by simp[hw]));have hsplit:ak (len-m) (oL t)=ak (i-m) (oL t)++(oL t::ak (len-(i+1)) (oL t)):=by rw[<-ga,List.replicate_append_replicate];congr 1;omega
      have hcells:pre++fL ((ak (len-m) (oL t)).flatten)=(pre++fL ((ak (i-m) (oL t)).flatten))++(fL (oL t)++fL ((ak (len-(i+1)) (oL t)).flatten)):=by rw[hsplit,List.flatten_append,eL,ue,ue,aI]
      refine⟨fL ((ak (i-m) (oL t)).flatten)++(cw++cs),aw++jds,?_,?_,fun j hj=>?_,fun j hj=>?_,by simp[g5];omega⟩
      .simp only[aD,List.zip_cons_cons,ot,e2];rw[if_pos ⟨l1',by rw[hcells,au,hpl,au,lz1];omega⟩,hcells];have:aW ((pre++fL ((ak (i-m) (oL t)).flatten))++(fL (oL t)++fL ((ak (len-(i+1)) (oL t)).flatten))) (i*bY t) cw=(pre++fL ((ak (i-m) (oL t)).flatten)++cw)++fL ((ak (len-(i+1)) (oL t)).flatten):=by have:=uz (a:=pre++fL ((ak (i-m) (oL t)).flatten)) (b:=fL (oL t)++fL ((ak (len-(i+1)) (oL t)).flatten)) (p:=cw) (off:=0);rw[hpl]at this;refine Eq.trans this ?_;rw[uy (by omega),nJ (by omega)];simp only[aI]
       rw[this,g1];simp only[aI]
      .rw [List.flatMap_append,bo,Qh hd];have hz:dU h1 (fL ((ak (i-m) (oL t)).flatten))=some (dg ((ak (i-m) (oL t)).flatten),[]):=by rw[CZ];exact zh _
       exact(ru hz (ru f1 g2):dU h1 _=some (_,[]++(aw++jds)))
      .rcases ap.1 hj with hj|hj
       .exact ⟨aA _ (f3 j hj).1,(f3 j hj).2⟩
       .exact ⟨aC _ (g3 j hj).1,(g3 j hj).2⟩
      .rcases ap.1 hj with hj|hj
       .exact (f4 j hj).imp (aA _) id
       .exact (g4 j hj).imp (aC _) id
     .simp at hf
    .simp at hf
   .simp at hf
theorem FN{t:Ty}{len sz:Nat}{zl:List Value}{pl:List Nat}{vs:List V}{xs:List TV}
  (hz:RN t sz len zl pl vs s k=some z)
  (hr:HR s.next h1 s.heap) (hx:nv s.heap vs xs) (hk:∀w∈vs,fB s.next s.heap w) (ha:∀w∈vs,iZ s.heap w=true):AV h1 (.buildSlice sz len zl pl) xs s k z:=by
 unfold RN at hz;obtain⟨h2,hz2⟩:=aM hz;simp only[ai,beq_iff_eq]at h2;obtain⟨⟨rfl,h3⟩,h4⟩:=h2;have h3:=sJ h3;subst h3;obtain⟨hd,hs0⟩:=rl h4;clear hz;split at hz2
 .rename_i l a hl;split at hz2
  .rename_i s1 hs1;obtain⟨cs,aw,g1,g2,g3,g4,g5⟩:=Gx hr hd pl vs 0 l a [] xs hl (Nat.zero_le _) (by simp) hx hk ha;obtain⟨fu,f1,f2,f3,f4,f5,f6,f7,f8,f9⟩:=Da (s0:=s) rfl hr a s1 aw aw hs1 g3 g4;refine⟨_,_,_,hz2,fun cl=>⟨.c (.fK (bY t) s.next 0 len),(s.next,some (.aL (bY t) (l.map (aS t))))::fu,aw,s.next+1,?_,?_⟩⟩
   .have hc:nC (bY t) len (l.flatMap (aS t))=l.map (aS t):=by have:=FK (bO t) l;rwa[show l.length=len by simpa using g5]at this
    simp only[cI,oB];have g1:ot (fL ((ak len (oL t)).flatten)) ((pl.map fun i=>(i*bY t,bY t)).zip xs)=some cs:=by simpa using g1
    rw[g1];simp only[g2,f1,hc]
   .have hr1:HR s1.next (fu++h1) s1.heap:=by rw[f6];exact f2
    have hd1:sF s1 (kq s1 (.ar t (.mk l) 0)) (fu++h1) (.c (.fK (bY t) s.next 0 len)) [(s1.next,some (.aL (bY t) (l.map (aS t))))] aw (s.next+1) (.so s1.next) a:=by refine sF.new hr1 (.inl rfl) (fun _=>⟨hd,hs0,fun l' e=>by cases e;rfl⟩) trivial ?_ (bc _) (fun i hi=>(g3 i hi).1) (by rw[f6];exact am _);have:=xB (h:=s1.heap) (t:=t) (s:=.mk l) (v:=0) (nx:=s1.next);rw[f6]at this|-;simpa[ny,show l.length=len by simpa using g5]using this
    rw[f6]at hd1;exact sF.seq f3 f4 f5 f6 f7 f8 f9 (He rfl hs1) hd1
  .simp at hz2
 .simp at hz2
theorem Ho{ka va:Bool}{ks:List Kd}{zl:List Value}{id:Nat}{kv:V}{ya yk:TV}(hr:HR s.next h1 s.heap)(ha1:gm s.heap (.om id) ya)(hx:gm s.heap kv yk)
  (hz:(match fO s.heap id with
  |some (.mp kt vt m)=>(match uL kt kv with
   |some q=>bif(oI kt==ka)&&(oI vt==va)&&decide (Ff kt=some ks)&&uP (oL vt) zl&&lJ vt&&(va||bY vt==1)then
     k (.tp (.co (.x vt (m6 m (tT vt) q).2.1) (.co (.x (.i .i64) (m6 m (tT vt) q).2.2) .ni))) (eU s id (some (.mp kt vt (m6 m (tT vt) q).1))) [id]else none
   |none=>none)
  |_=>none)=some z):AV h1 (.mapEntry ka ks va zl) [ya,yk] s k z:=by
 split at hz
 .rename_i kt vt m ho;split at hz
  .rename_i q hq;obtain⟨hc,hz2⟩:=aM hz;simp only[ai,beq_iff_eq,decide_eq_true_eq]at hc;obtain⟨⟨⟨⟨⟨c1,c2⟩,c3⟩,c4⟩,c5⟩,c6⟩:=hc;rw[F9 ha1];obtain⟨_,_,k3,_⟩:=y5 kt ks c3;have hzz:dg zl=aS vt (tT vt):=by rw[sI vt c5,sJ c4]
   have hv:∀y,qn va (aS vt y)=some (Sd vt y):=fun y=>HW y c2 c6;have hkt:=Fc hx hq c3 c1;have e3:=(hr.ob id _ ho).2.1.2.2;rw[<-c2]at c6;have e4:az h1 id=F1 ka va (wZ kt) (aS vt) m:=by rw[<-c1,<-c2];exact e3
   have hos:tR (.mp kt vt m) (.mp kt vt (m6 m (tT vt) q).1):=trivial;refine .DN hr ho hos hz2 (fun cl=>Ti (z:=tT vt) e4 hkt k3 hzz hv) ⟨c5,⟨ks,c3⟩,by rw[c1,c2];rfl⟩ trivial ?_ ⟨trivial,trivial,trivial⟩ fun i hi=>hi;exact⟨_,rfl,_,_,rfl,KZ c5 c6,_,_,rfl,dV rfl ⟨rfl,rfl⟩,rfl⟩
  .simp at hz
 .simp at hz
theorem M4:∀(l:List D),AB (l.map .d)=some l:=by intro l;induction l with|nil=>rfl|cons d l ih=>simp[AB,ih]
theorem Fv{va:Bool}{m0 id:Nat}{kd:IntKind}{st:Int}{w:V}{ya yw:TV}(hr:HR s.next h1 s.heap)(ha1:gm s.heap (.om id) ya)(hx:gm s.heap w yw)
  (hz:(match fO s.heap id with
  |some (.mp kt vt m)=>(match uL vt w with
   |some y=>bif(oI vt==va)&&(bY vt==m0)&&lJ vt then(wy m st y).bind fun m=>k (.tp .ni) (eU s id (some (.mp kt vt m))) [id]else none
   |none=>none)
  |_=>none)=some z):AV h1 (.entryStore va m0) [ya,tI kd st,yw] s k z:=by
 split at hz
 .rename_i kt vt m ho;split at hz
  .rename_i y hy;obtain⟨hc,hz2⟩:=aM hz;simp only[ai,beq_iff_eq]at hc;obtain⟨⟨rfl,rfl⟩,c3⟩:=hc;obtain⟨m',hm,hz3⟩:=qh hz2;rw[F9 ha1];obtain⟨_,hks,e3⟩:=(hr.ob id _ ho).2.1;obtain⟨g1,g2⟩:=wM hx hy;have hos:tR (.mp kt vt m) (.mp kt vt m'):=trivial;have hcs:(cellsOf yw).bind AB=some (aS vt y)/\y7 yw=oI vt:=by cases hag:oI vt with|true=>rw[g1 hag];exact⟨by simp[cellsOf,M4],rfl⟩|false=>obtain⟨d,e,rfl⟩:=g2 hag;exact⟨by simp[cellsOf,AB,e],rfl⟩
   refine .DN hr ho hos hz3 (fun cl=>Th (va:=oI vt) (ek:=wZ kt) (ka:=oI kt) hm e3 hcs.1 (bO vt y) hcs.2) ⟨c3,hks,rfl⟩ trivial DR trivial fun i hi=>hi
  .simp at hz
 .simp at hz
end
section
variable{h:H2}{n:Nat}{h1:bD}{β:Type}{s:S2}{k:V->S2->List Nat->Option β}{z:β}
theorem xK:∀{r:List V}{l:List Int}{xs:List TV},eh r=some l->nv h r xs->∃ks:List IntKind,ks.length=l.length/\xs=(ks.zip l).map fun p=>tI p.1 p.2:=by
 intro r;induction r with
 |nil=>
  intro l xs hl hx;obtain rfl:[]=l:=by simpa[eh]using hl
  exact⟨[],rfl,lY hx⟩
 |cons v r ih=>
  intro l xs hl hx;cases v with
  |x t v=>
   cases t with
   |i q=>
    simp only[eh]at hl;split at hl
    .rename_i l' hl';obtain rfl:=aa hl;obtain⟨x,ys,rfl,h1,h2⟩:=gz hx;obtain⟨ks,h3,rfl⟩:=ih hl' h2;exact⟨q::ks,by simp[h3],by rw[lf h1];rfl⟩
    .simp at hl
   |_=>simp[eh]at hl
  |_=>simp[eh]at hl
theorem MB{r:List V}{xs:List TV}(hl:eh r=some [])(hx:nv h r xs):xs=[]:=by obtain⟨ks,h1,rfl⟩:=xK hl hx;cases ks<;>simp_all
theorem C6{r:List V}{a:Int}{xs:List TV}(hl:eh r=some [a])(hx:nv h r xs):∃q,xs=[tI q a]:=by obtain⟨ks,h1,rfl⟩:=xK hl hx;cases ks with|nil=>simp at h1|cons q ks=>exact⟨q,by cases ks<;>simp_all⟩
theorem MA{r:List V}{a b:Int}{xs:List TV}(hl:eh r=some [a,b])(hx:nv h r xs):∃q q',xs=[tI q a,tI q' b]:=by
 obtain⟨ks,h1,rfl⟩:=xK hl hx;cases ks with
 |nil=>simp at h1
 |cons q ks=>cases ks with|nil=>simp at h1|cons q' ks=>exact⟨q,q',by cases ks<;>simp_all⟩
theorem CB{x y:ByteArray}{lo hi:Option Int}(hs:A8 x (lo.getD 0) (hi.getD x.size)=some y)(sz:Nat):ge true sz (.d (dS x)) lo hi=some (.d (dS y)):=by
 unfold A8 at hs;split at hs
 .rename_i hb;obtain rfl:=aa hs;simp only[ge,if_true];rw[if_pos hb]
 .simp at hs
theorem D0{x:ByteArray}{r:List V}{lo hi:Bool}{sz:Nat}{y:TV}{ys:List TV}(hr:HR s.next h1 s.heap)(hy:gm s.heap (.x .s x) y)(hys:nv s.heap r ys)
  (hz:(match lo,hi,eh r with
  |false,false,some []=>(A8 x 0 x.size).bind fun y=>k (.x .s y) s []
  |true,false,some [l]=>(A8 x l x.size).bind fun y=>k (.x .s y) s []
  |false,true,some [u]=>(A8 x 0 u).bind fun y=>k (.x .s y) s []
  |true,true,some [l,u]=>(A8 x l u).bind fun y=>k (.x .s y) s []
  |_,_,_=>none)=some z):AV h1 (.slice true sz lo hi) (y::ys) s k z:=by
 rw[x9 hy];split at hz
 .rename_i hi;obtain rfl:=MB hi hys;obtain⟨w,hw,hz2⟩:=qh hz;exact .pure hr hz2 (fun _=>by simp only[aD,aZ,cI];rw[CB (lo:=none) (hi:=none) hw]) (Sc w) trivial
 .rename_i l hi;obtain⟨q,rfl⟩:=C6 hi hys;obtain⟨w,hw,hz2⟩:=qh hz;exact .pure hr hz2 (fun _=>by simp only[aD,aZ,cI,cA];rw[CB (lo:=some l) (hi:=none) hw]) (Sc w) trivial
 .rename_i l hi;obtain⟨q,rfl⟩:=C6 hi hys;obtain⟨w,hw,hz2⟩:=qh hz;exact .pure hr hz2 (fun _=>by simp only[aD,aZ,cI,cA];rw[CB (lo:=none) (hi:=some l) hw]) (Sc w) trivial
 .rename_i l u hi;obtain⟨q,q',rfl⟩:=MA hi hys;obtain⟨w,hw,hz2⟩:=qh hz;exact .pure hr hz2 (fun _=>by simp only[aD,aZ,cI,cA];rw[CB (lo:=some l) (hi:=some u) hw]) (Sc w) trivial
 .simp at hz
theorem D1{x:V}{r:List V}{lo hi:Bool}{sz:Nat}{y:TV}{ys:List TV}(hr:HR s.next h1 s.heap)(hy:gm s.heap x y)(hk:fB s.next s.heap x)(ha:iZ s.heap x=true)(hys:nv s.heap r ys)
  (hz:(match lo,hi,eh r,G6 s.heap x with
  |false,false,some [],some n=>uW sz s.heap x 0 n fun v=>k v s []
  |true,false,some [l],some n=>uW sz s.heap x l n fun v=>k v s []
  |false,true,some [u],some _=>uW sz s.heap x 0 u fun v=>k v s []
  |true,true,some [l,u],some _=>uW sz s.heap x l u fun v=>k v s []
  |_,_,_,_=>none)=some z):AV h1 (.slice false sz lo hi) (y::ys) s k z:=by
 split at hz
 .rename_i m hi hm;obtain rfl:=MB hi hys;obtain⟨v,c,c',rfl,h3,h4,h5,h6⟩:=Dl (lo:=none) (hi:=none) hr hy hk ha hm hz;exact .pure hr h3 (fun _=>by simp only[aD,aZ,cI];rw[h4]) h5 h6
 .rename_i l m hi hm;obtain⟨q,rfl⟩:=C6 hi hys;obtain⟨v,c,c',rfl,h3,h4,h5,h6⟩:=Dl (lo:=some l) (hi:=none) hr hy hk ha hm hz;exact .pure hr h3 (fun _=>by simp only[aD,aZ,cI,cA];rw[h4]) h5 h6
 .rename_i u m hi hm;obtain⟨q,rfl⟩:=C6 hi hys;obtain⟨v,c,c',rfl,h3,h4,h5,h6⟩:=Dl (lo:=none) (hi:=some u) hr hy hk ha hm hz;exact .pure hr h3 (fun _=>by simp only[aD,aZ,cI,cA];rw[h4]) h5 h6
 .rename_i l u m hi hm;obtain⟨q,q',rfl⟩:=MA hi hys;obtain⟨v,c,c',rfl,h3,h4,h5,h6⟩:=Dl (lo:=some l) (hi:=some u) hr hy hk ha hm hz;exact .pure hr h3 (fun _=>by simp only[aD,aZ,cI,cA];rw[h4]) h5 h6
 .simp at hz
theorem Oa{t:Ty}{l:List (Sl (El t))}{m:Nat}(hm:m<l.length):(l.map (pR t))[m]?=some (pR t (gt l m)):=by rw[List.getElem?_map,aB hm];simp[gt,List.getD,aB hm]
theorem Li{α:Type}{l:List α}{m:Nat}{x:α}(h:l[m]?=some x):l.set m x=l:=by obtain⟨hm,rfl⟩:=List.getElem?_eq_some_iff.1 h;exact List.set_getElem_self hm
theorem G5{id m:Nat}{u:Ty}{y:TV}(hr:HR s.next h1 s.heap)(hx:gm s.heap (.ep id m u []) y)(hk:fB s.next s.heap (.ep id m u []))
  (hz:(match fO s.heap id with
  |some (.rw t v none)=>bif decide (u=.sl t)then k (.so s.next) (kq (eU s id (some (.rw t v (some (m,s.next))))) (.ar t (gt v.l m) 0)) [id]else none
  |_=>none)=some z):AV h1 .u6 [y] s k z:=by
 split at hz
 .rename_i t v ho;obtain⟨h2,hz2⟩:=aM hz;simp only[decide_eq_true_eq]at h2;subst h2;rw[tW hx,Iq];have hlen:=hk.2.2.2 _ _ _ ho;obtain⟨hid,⟨d1,d2,d3⟩,_⟩:=hr.ob id _ ho;cases v with
  |nil=>simp[Sl.l]at hlen
  |mk l=>
   have d3:=d3 l rfl;have hlen:m<l.length:=hlen;have eE:ke s.next s.heap ((s.next,some (.ar t (gt l m) 0))::(id,some (.rw t (.mk l) (some (m,s.next))))::s.heap):=ke.trans (am _) (ke.DN (o':=.rw t (.mk l) (some (m,s.next))) ho ⟨rfl,rfl,rfl⟩) (ke.new _)
   have key:∀{x:TV}{u:fN},gm ((s.next,some (.ar t (gt l m) 0))::(id,some (.rw t (.mk l) (some (m,s.next))))::s.heap) (.so s.next) x->(∀p∈u,p.1=s.next\/p.1=id)->
     az (u++h1) id=some (.nst (bY t) (fw t l (some (m,s.next))))->(∀rr,gt l m=.mk rr->az (u++h1) s.next=some (.aL (bY t) (rr.map (aS t))))->∀{q:Nat},q<=s.next+1->
     sF s (kq (eU s id (some (.rw t (.mk l) (some (m,s.next))))) (.ar t (gt l m) 0)) h1 x u [id] q (.so s.next) [id]:=by
    intro x u hx2 hu hb hb2 q hq;refine sF.F3 [s.next,id] hr eE rfl rfl hq (bE _) (fun i hi=>hi) rfl (fun p hp=>?_) (fun i hi=>?_) (fun i hi o ho'=>?_) hx2 (bc _) (fun i hi h=>?_)
    .rcases hu p hp with e|e<;>simp[e]
    .simp only[aJ,ju,or_false,not_or]at hi;simp only[kq,eU];rw[cS,if_neg (fun e=>hi.1 e.symm),cS,if_neg (fun e=>hi.2 e.symm)]
    .simp only[kq,eU]at ho'|-;by_cases hi1:s.next=i
     .subst hi1;rw[cS,if_pos rfl]at ho';obtain rfl:=aa ho';exact⟨bc _,⟨d1,d2,fun rr e=>hb2 rr e⟩,trivial⟩
     .rw [cS,if_neg hi1]at ho';simp only[aJ,ju,or_false]at hi;rcases hi with rfl|rfl
      .exact absurd rfl hi1
      .rw [cS,if_pos rfl]at ho';obtain rfl:=aa ho';refine⟨by omega,⟨d1,d2,fun l' e=>by cases e;exact hb⟩,hlen,bc _,fun u' r' v' hf=>?_⟩;simp only[uJ]at hf;rcases hf with hf|hf<;>cases hf;exact⟨rfl,rfl⟩
    .simp only[kq,eU];rw[cS,if_neg (by omega),cS,if_neg (fun e=>by subst e;rw[ho]at h;cases h)];exact h
   have hs:=Oa (t:=t) hlen;refine⟨_,_,_,hz2,fun cl=>?_⟩;cases hg:gt l m with
   |nil=>
    refine⟨_,[],[id],s.next,?_,key (x:=.c (.d (.lit (.slice none 0 0)))) ?_ (fun p hp=>by simp at hp) ?_ (fun rr e=>by rw[hg]at e;cases e) (bE _)⟩
    .simp only[aD,aZ,cI,iC,d3];rw[hg]at hs;simp only[mF,d3,fw,hs,pR];rfl
    .rw [hg];exact xB
    .rw [bi,d3];simp only[fw,hg,JD];rw[Li (by rw[hs,hg];rfl)]
   |mk rr=>
    refine⟨_,[(s.next,some (.aL (bY t) (rr.map (aS t)))),(id,some (.nst (bY t) ((l.map (pR t)).set m (.ez s.next (rr.map (aS t)).length))))],[id],s.next+1,?_,key (x:=.c (.fK (bY t) s.next 0 (rr.map (aS t)).length)) ?_ (fun p hp=>by simp at hp;rcases hp with rfl|rfl<;>simp) ?_ (fun r2 e=>?_) (am _)⟩
    .simp only[aD,aZ,cI,iC,d3];rw[hg]at hs;simp only[mF,d3,fw,hs,pR];rfl
    .rw [hg];exact xB
    .rw [aU,dA,if_neg (by omega),aU,dA,if_pos rfl];simp only[fw,hg,JD,aF]
    .rw [hg]at e;cases e;rw[aU,dA,if_pos rfl]
 .simp at hz
theorem L7{szi:Nat}{t:Ty}{q q':IntKind}{a b:Int}(hr:HR s.next h1 s.heap)
  (hz:(bif(bY t==szi)&&DD t then(A0 (Sl.nil:Sl (El t)) a b).bind fun r=>k (.sr s.next) (kq s (.rw t (.mk r) none)) []else none)=some z):AV h1 (.BX szi) [tI q a,tI q' b] s k z:=by
 obtain⟨hq,hp2⟩:=aM hz;simp only[ai,beq_iff_eq]at hq;obtain⟨rfl,q2⟩:=hq;obtain⟨hd,hs0⟩:=rl q2;obtain⟨r,hr2,hz3⟩:=qh hp2;unfold A0 at hr2;split at hr2
 .rename_i hb;obtain rfl:=aa hr2;refine .new (aw:=[]) hr hz3 (b:=some (.nst (bY t) (ak a.toNat .nil))) (x:=.c (.fK 1 s.next 0 a.toNat)) (fun _=>?_) ⟨hd,hs0,fun l' e=>by cases e;simp[fw,pR]⟩ trivial ?_ (bc _) fun i hi=>by simp at hi
  .simp only[aD,aZ,cI,cA];rw[if_pos (by simpa[E7]using hb)]
  .refine cj (dV rfl ⟨_,rfl,fun c' hc'=>?_,?_⟩)
   .rw [uJ]at hc';obtain rfl:=aa hc';simp[ny]
   .have:=CF (sz:=1) (id:=s.next) (e:=aS (.sl t)) (s:=.mk (ak a.toNat (Sl.nil:Sl (El t))));simpa[ny]using this
 .simp at hr2
theorem GO{o:OP}{vs:List V}{xs:List TV}(hp:part o vs s k=some z)(hr:HR s.next h1 s.heap)(hx:nv s.heap vs xs)(hk:∀w∈vs,fB s.next s.heap w)(ha:∀w∈vs,iZ s.heap w=true):AV h1 o.o.k xs s k z:=by
 obtain⟨⟨d,kk,args,g⟩,t,fi⟩:=o;simp only;unfold part at hp;simp only at hp;split at hp
 .--quo
  obtain⟨x,y,rfl,h2,h3⟩:=jz hx;rw[lf h2,lf h3];obtain⟨hq,hp2⟩:=aM hp;simp only[decide_eq_true_eq]at hq;subst hq;obtain⟨r,hr2,hz⟩:=qh hp2;exact .pure hr hz (fun _=>Rp hr2) (xi _ _) trivial
 .obtain ⟨x,y,rfl,h2,h3⟩:=jz hx;rw[lf h2,lf h3];obtain⟨hq,hp2⟩:=aM hp;simp only[decide_eq_true_eq]at hq;subst hq;obtain⟨r,hr2,hz⟩:=qh hp2;exact .pure hr hz (fun _=>Ro hr2) (xi _ _) trivial
 .obtain ⟨x,y,rfl,h2,h3⟩:=jz hx;rw[lf h2,lf h3];obtain⟨r,hr2,hz⟩:=qh hp;exact .pure hr hz (fun _=>Rn hr2) (xi _ _) trivial
 .obtain ⟨x,y,rfl,h2,h3⟩:=jz hx;rw[lf h2,lf h3];obtain⟨r,hr2,hz⟩:=qh hp;exact .pure hr hz (fun _=>Rm hr2) (xi _ _) trivial
 .obtain ⟨x,y,rfl,h2,h3⟩:=jz hx;rw[x9 h2,x9 h3];obtain⟨r,hr2,hz⟩:=qh hp;exact .pure hr hz (fun _=>Rq hr2) (Sc _) trivial
 .--alloc
  rename_i zl;obtain rfl:=lY hx;obtain⟨hq,hp2⟩:=aM hp;simp only[ai]at hq;obtain⟨q1,q2⟩:=hq;have q1:=sJ q1;subst q1;refine .new (aw:=[]) hr hp2 (x:=.c (.op s.next 0)) (fun _=>rfl) ⟨_,rfl,?_,q2⟩ ?_ (cj (dV rfl (by cases t<;>rfl))) ⟨bc _,by cases t<;>trivial⟩ fun i hi=>by simp at hi
  .exact ((zd (h:=(s.next,some (.bx t (PN t)))::s.heap) (n:=s.next+1) t).1 q2).1
  .exact ((zd (h:=(s.next,some (.bx t (PN t)))::s.heap) (n:=s.next+1) t).1 q2).2
 .--box
  obtain⟨x,rfl,h2⟩:=iR hx;split at hp
  .rename_i w hw;obtain⟨cw,e1,e2⟩:=rV (pQ (GZ hw) h2);obtain⟨q1,q2,q3,_⟩:=z4 hw e1 (hk _ (by simp));refine .new (aw:=[]) hr hp (x:=.c (.op s.next 0)) (fun _=>by simp only[aD,aZ,cI,e2]) ⟨_,rfl,mG (ke.new _) q3 q1,q2⟩ (hZ (bE _) (ke.new _) q3) (cj (dV rfl (by cases t<;>rfl))) ⟨bc _,by cases t<;>trivial⟩ fun i hi=>by simp at hi
  .simp at hp
 .exact FN hp hr hx hk ha
 .--store
  obtain⟨x,y,rfl,h2,h3⟩:=jz hx;exact DV hr h2 (hk _ (by simp)) h3 (hk _ (by simp)) hp
 .--u6
  obtain⟨x,rfl,h2⟩:=iR hx;exact G5 hr h2 (hk _ (by simp)) hp
 .--BX
  obtain⟨x,y,rfl,h2,h3⟩:=jz hx;rw[lf h2,lf h3];split at hp
  .exact L7 hr hp
  .simp at hp
 .obtain ⟨x,y,rfl,h2,h3⟩:=jz hx;exact DW hr h2 (hk _ (by simp)) h3 (hk _ (by simp)) (ha _ (by simp)) hp
 .--makeSlice
  rename_i zl _ l _ c;obtain⟨x,y,rfl,h2,h3⟩:=jz hx;rw[lf h2,lf h3];obtain⟨hq,hp2⟩:=aM hp;simp only[ai]at hq;obtain⟨q1,q2⟩:=hq;have q1:=sJ q1;subst q1;obtain⟨hd,hs0⟩:=rl q2;obtain⟨r,hr2,hz⟩:=qh hp2;have hzl:dg (oL t)=aS t (tT t):=(sI t hd).symm;have hlen:(oL t).length=bY t:=by have:=congrArg jp hzl;rwa[bO,dg,aF]at this
  refine .new hr hz (fun _=>Pa hzl hr2) ⟨hd,hs0,fun l' e=>by cases e;rw[hlen]⟩ trivial ?_ (bc _) fun i hi=>by simp at hi
  rw[hlen];exact xB (s:=.mk r)
 .--slice of a string
  obtain⟨y,ys,rfl,h2,h3⟩:=gz hx;exact D0 hr h2 h3 hp
 .obtain ⟨y,ys,rfl,h2,h3⟩:=gz hx;exact D1 hr h2 (hk _ (by simp)) (ha _ (by simp)) h3 hp
 .obtain ⟨x,y,rfl,h2,h3⟩:=jz hx;rw[lf h3];exact Mv hp hr h2 (hk _ (by simp)) (ha _ (by simp))
 .obtain ⟨x,y,rfl,h2,h3⟩:=jz hx;rw[lf h3];exact Mu hp hr h2 (hk _ (by simp))
 .--qG
  obtain⟨x,y,rfl,h2,h3⟩:=jz hx;rw[x9 h2,lf h3];obtain⟨r,hr2,hz⟩:=qh hp;exact .pure hr hz (fun _=>Tf hr2) (xi _ _) trivial
 .--index
  rename_i ag n0 sz0 n' u v _ i;obtain⟨x,y,rfl,h2,h3⟩:=jz hx;rw[lf h3];obtain⟨hq,hp2⟩:=aM hp;simp only[ai,beq_iff_eq]at hq;obtain⟨⟨⟨⟨rfl,rfl⟩,q3⟩,q4⟩,q5⟩:=hq;obtain⟨m,hm,hz⟩:=qh hp2;obtain⟨rfl,hm2⟩:=eC.1 hm;rw[VR h2];obtain⟨a1,a2⟩:=FQ v hm2;have hc:HC s.heap ag (bY u) (.x u (gt v.1 m))=true:=by simp[HC,uq,zp,iZ,q3,q4,q5]
  obtain⟨x,e1,e2⟩:=qE (cs:=(aS (.ar n' u) v).map .d) (off:=m*bY u) (cw:=(aS u (gt v.1 m)).map .d) hc ⟨q4,rfl⟩ (by simpa using a1) (by rw[<-gJ,<-iq,a2]);refine .pure hr hz (x:=x) (fun _=>?_) e2 trivial;simp only[aD,aZ,cI,cA];rw[if_pos ⟨by omega,by omega⟩];simp only[Z0,e1]
 .--append
  obtain⟨x,y,rfl,h2,h3⟩:=jz hx;exact FS (t0:=t) hp hr h2 (hk _ (by simp)) (ha _ (by simp)) h3 (hk _ (by simp)) (ha _ (by simp))
 .obtain ⟨x,y,rfl,h2,h3⟩:=jz hx;exact Kv (t0:=t) hp hr h2 (hk _ (by simp)) (ha _ (by simp)) h3 (hk _ (by simp)) (ha _ (by simp))
 .--clear
  obtain⟨y,rfl,h2⟩:=iR hx;exact Hz hp hr h2 (hk _ (by simp)) (ha _ (by simp))
 .--makeMap
  obtain rfl:=lY hx;split at hp
  .rename_i kt vt;obtain⟨hq,hp2⟩:=aM hp;simp only[ai,beq_iff_eq]at hq;obtain⟨⟨⟨rfl,rfl⟩,q3⟩,q4⟩:=hq;obtain⟨ks,hks⟩:=Option.isSome_iff_exists.1 q4;exact .new hr hp2 (x:=.c (.om s.next)) (fun _=>rfl) ⟨q3,⟨ks,hks⟩,rfl⟩ trivial (cj (dV rfl rfl)) (bc _) fun i hi=>by simp at hi
  .simp at hp
 .obtain ⟨x,y,rfl,h2,h3⟩:=jz hx;exact Ho hr h2 h3 hp
 .obtain ⟨x,y,w,rfl,h2,h3,h4⟩:=Qq hx;rw[lf h3];exact Fv hr h2 h4 hp
 .simp at hp
end
end Go.Ev
