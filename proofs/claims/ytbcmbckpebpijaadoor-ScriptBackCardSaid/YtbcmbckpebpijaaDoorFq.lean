/- Operations that do not fail, against the abstract machine's, second part. Conditions: as stated. -/
import Derived.Test.YtbcmbckpebpijaaDoorFh
open Bool renaming and_eq_true->ae,and_eq_true_iff->bX,eq_iff_iff->hZ
open List renaming append_assoc->aO,cons_append->aJ,drop_drop->cj,flatMap_cons->bd,flatten_cons->da,getElem?_eq_getElem->ai,length->iD,length_append->aZ,length_cons->cz,length_eq_zero_iff->bc,length_map->aK,map->jf,map_append->gg,map_cons->aq,map_drop->ez,map_map->iM,map_nil->aR,map_take->eX,mem_append->aj,mem_append_left->aC,mem_append_right->aA,mem_cons->aD,mem_cons_of_mem->av,mem_cons_self->bG,mem_singleton->am,nil_append->aY,not_mem_nil->fM,replicate->aw,replicate_succ->fw,singleton_append->aX
open List.cons renaming inj->bK,injEq->cJ
open Nat renaming add_assoc->cg,add_mul->bv,le_of_ble_eq_true->fY,le_refl->ak,le_succ->bg,lt_succ_self->aS
open Option.some renaming inj->aa,injEq->bH
open Prod.mk renaming inj->ad
open Sigma.mk renaming inj->gp
namespace Go.Ev
section
variable{h:H2}{n:Nat}{h1:bl}
theorem Ju{a b:Value}(he:Mt a b=true):a=b:=by unfold Mt at he;split at he<;>simp_all
theorem mX:∀{a b:List Value},o8 a b=true->a=b:=by
 intro a;induction a with
 |nil=>intro b he;cases b<;>first|rfl|(simp[o8]at he)
 |cons x a ih=>intro b he;cases b with|nil=>simp[o8]at he|cons y b=>simp only[o8,ae]at he;rw[Ju he.1,ih he.2]
theorem ol(a b:List Value):dk (a++b)=dk a++dk b:=by simp[dk]
theorem mW:∀(t:Ty),gT t=true->aN t (nO t)=cn (j_ t):=by
 intro t;induction t with
 |pr a c iha ihc=>intro hd;simp only[gT,ae]at hd;simp[aN,nO,j_,cn,iha hd.1,ihc hd.2]
 |st t ih=>intro hd;exact ih hd
 |ar m t ih=>intro hd;have e:=ih hd;simp only[aN,nO,j_];clear hd ih;induction m with|zero=>rfl|succ m ihm=>simp only[fw,bd,da,e,cn,gg]at ihm|-;rw[ihm]
 |o k=>intro hd;simp[gT]at hd
 |mp k v=>intro hd;simp[gT]at hd
 |_=>intro _;rfl
theorem sn:∀(t:Ty),(df (vO t).1 false t=true->dE h (vO t).1 (dk (j_ t))/\dC n h (vO t).1)/\(df (vO t).2 true t=true->dE h (vO t).2 (dk (j_ t))/\dC n h (vO t).2):=by
 have one:∀(t:Ty)(v:V),(dE h v (dk (j_ t))/\dC n h v)->(dE h (.co v .ni) (dk (j_ t))/\dC n h (.co v .ni)):=fun t v hv=>⟨⟨_,[],by simp,hv.1,rfl⟩,hv.2,trivial⟩;have dt:∀(t:Ty),gT t=true->dE h (.x t (nO t)) (dk (j_ t)):=fun t hd=>⟨hd,by rw[mW t hd];simp[dk,cn]⟩;intro t;induction t with
 |pr a c iha ihc=>refine⟨fun hf=>by simp[vO,df]at hf,fun hf=>?_⟩;simp only[vO,df,ae]at hf;obtain⟨q1,q3⟩:=iha.1 hf.1;obtain⟨q4,q5⟩:=ihc.2 hf.2;exact⟨⟨_,_,ol _ _,q1,q4⟩,q3,q5⟩
 |st t ih=>cases hd:gT t with|true=>have:=dt (.st t) hd;simp only[vO,hd,cond_true];exact⟨fun _=>⟨this,trivial⟩,fun _=>one (.st t) _ ⟨this,trivial⟩⟩|false=>simp only[vO,hd,cond_false];exact⟨fun hf=>ih.2 hf,fun hf=>one (.st t) _ (ih.2 hf)⟩
 |sl t ih=>cases hd:gT t with|true=>have:=dt (.sl t) hd;simp only[vO,hd,cond_true];exact⟨fun _=>⟨this,trivial⟩,fun _=>one (.sl t) _ ⟨this,trivial⟩⟩|false=>simp only[vO,hd,cond_false];exact⟨fun _=>⟨rfl,trivial⟩,fun _=>one (.sl t) _ ⟨rfl,trivial⟩⟩
 |ar m t ih=>cases hd:gT t with|true=>have:=dt (.ar m t) hd;simp only[vO,hd,cond_true];exact⟨fun _=>⟨this,trivial⟩,fun _=>one (.ar m t) _ ⟨this,trivial⟩⟩|false=>simp only[vO,hd,cond_false];exact⟨fun hf=>by simp[df]at hf,fun hf=>by simp[df]at hf⟩
 |o k=>
  have:dE h (.nl k) (dk (j_ (.o k))):=by
   show dk (j_ (.o k))=[yy k]
   rcases k with _|_|_|_|k<;>rfl
  exact⟨fun _=>⟨this,trivial⟩,fun _=>one (.o k) _ ⟨this,trivial⟩⟩
 |mp k v=>exact⟨fun _=>⟨rfl,trivial⟩,fun _=>one (.mp k v) _ ⟨rfl,trivial⟩⟩
 |un=>exact⟨fun _=>⟨dt .un rfl,trivial⟩,fun _=>one .un _ ⟨dt .un rfl,trivial⟩⟩
 |i k=>exact⟨fun _=>⟨dt (.i k) rfl,trivial⟩,fun _=>one (.i k) _ ⟨dt (.i k) rfl,trivial⟩⟩
 |b=>exact⟨fun _=>⟨dt .b rfl,trivial⟩,fun _=>one .b _ ⟨dt .b rfl,trivial⟩⟩
 |s=>exact⟨fun _=>⟨dt .s rfl,trivial⟩,fun _=>one .s _ ⟨dt .s rfl,trivial⟩⟩
 |f k=>exact⟨fun _=>⟨dt (.f k) rfl,trivial⟩,fun _=>one (.f k) _ ⟨dt (.f k) rfl,trivial⟩⟩
theorem sZ{t:Ty}{v w:V}{cs:List C}(hw:GX t v=some w)(hv:dE h v cs)(hk:dC n h v):dE h w cs/\df w false t=true/\dC n h w/\oH w=oH v:=by
 unfold GX at hw;split at hw
 .rename_i y hy;obtain rfl:=aa hw;cases hd:gT t with|false=>rw[hd]at hy;simp at hy|true=>rw[hd,cond_true]at hy;exact⟨⟨hd,lH hy hv⟩,by simp[df],trivial,(zr hy).symm⟩
 .cases hf:df v false t with|false=>rw[hf]at hw;simp at hw|true=>rw[hf,cond_true]at hw;obtain rfl:=aa hw;exact⟨hv,hf,hk,rfl⟩
theorem Gu{t:Ty}{v:V}{y:El t}(hy:ff t v=some y):HE v:=by cases v<;>first|trivial|(simp[ff]at hy)
theorem Im{t:Ty}{v:V}(hf:df v false t=true):HE v:=by cases v<;>first|trivial|(cases t<;>simp[df]at hf)
theorem AE{t:Ty}{v w:V}(hw:GX t v=some w):HE v:=by
 unfold GX at hw;split at hw
 .rename_i y hy;cases hd:gT t with|false=>rw[hd]at hy;simp at hy|true=>rw[hd,cond_true]at hy;exact Gu hy
 .cases hf:df v false t with|false=>rw[hf]at hw;simp at hw|true=>exact Im hf
theorem Ku{t:Ty}{v:V}(hf:df v false t=true)(ha:iF t=true):oH v=true:=by
 cases t<;>simp[iF]at ha
 all_goals(cases v<;>first|rfl|(simp[df]at hf;done)|skip)
 .simp only[df,decide_eq_true_eq]at hf;subst hf;rfl
 .simp only[df,decide_eq_true_eq]at hf;subst hf;rfl
theorem Gy{t:Ty}:∀(is:List Nat)(ps:List (Nat×Nat))(ws:List V)(c c':V)(cs:List C)(xs:List TV),rN t is ps ws c=some c'->df c false t=true->dE h c cs->dC n h c->jj h ws xs->(∀w∈ws,dC n h w)->
  ∃cs',ig cs (ps.zip xs)=some cs'/\dE h c' cs'/\dC n h c'/\df c' false t=true:=by
 intro is;induction is with
 |nil=>
  intro ps ws c c' cs xs hb hf hc hk hx hw;cases ps with
  |cons p ps=>simp[rN]at hb
  |nil=>cases ws with|cons w ws=>simp[rN]at hb|nil=>obtain rfl:=aa hb;exact⟨cs,by simp[ig],hc,hk,hf⟩
 |cons i is ih=>
  intro ps ws c c' cs xs hb hf hc hk hx hw;cases ps with
  |nil=>simp[rN]at hb
  |cons p ps=>
   obtain⟨off,m⟩:=p;cases ws with
   |nil=>simp[rN]at hb
   |cons w ws=>
    obtain⟨x,ys,rfl,hx1,hx2⟩:=ei hx;have hw1:=hw w (by simp)
    have ll:∀(pe:Pe)(a:Ty),mU t [pe]=some a->Df t [pe]->jM t [pe]=off->bC a=m->(match GX a w with|some w=>(match kG c [pe] w with|some c=>bif df c false t then rN t is ps ws c else none|none=>none)|none=>none)=some c'->
      ∃cs',ig cs (((off,m),x)::ps.zip ys)=some cs'/\dE h c' cs'/\dC n h c'/\df c' false t=true:=by
     intro pe a h1 h2 h3 h4 hb;split at hb
     .rename_i w1 hw1';obtain⟨cw,q1,q2⟩:=mw (kP (AE hw1') hx1);split at hb
      .rename_i c1 hc1;cases hfc:df c1 false t with|false=>rw[hfc]at hb;simp at hb|true=>rw[hfc,cond_true]at hb;obtain⟨k1,k2,k3,_⟩:=sZ hw1' q1 hw1;have hl:=fr k1;rw[eQ _ _ _ k2,h4]at hl;have hsp:=qC [pe] c t w1 c1 cs cw a hf hc h2 hc1 h1 k1 (by rw[hl,h4]);rw[h3]at hsp;have hle:=qI [pe] t a h1 h2;have hcl:=fr hc;rw[eQ _ _ _ hf]at hcl;obtain⟨cs',e1,e2,e3,e4⟩:=ih ps ws c1 c' _ ys hb hfc hsp (BI _ _ _ _ hk k3 hc1) hx2 fun w hw'=>hw w (by simp[hw']);refine⟨cs',?_,e2,e3,e4⟩;simp only[ig,q2];rw[if_pos ⟨hl,by omega⟩,e1]
      .simp at hb
     .simp at hb
    cases t with
    |st u=>
     simp only[rN]at hb;split at hb
     .rename_i a ha;cases hq:(kS u i==off)&&(bC a==m)with|false=>rw[hq]at hb;simp at hb|true=>rw[hq,cond_true]at hb;simp only[ae,beq_iff_eq]at hq;exact ll (.fd i) a (by simp[mU,ha]) ⟨a,ha,by cases a<;>trivial⟩ (by simp only[jM,ha];rw[hq.1];cases a<;>rfl) hq.2 hb
     .simp at hb
    |ar k u=>simp only[rN]at hb;cases hq:(i*bC u==off)&&(bC u==m)&&decide (i<k)with|false=>rw[hq]at hb;simp at hb|true=>rw[hq,cond_true]at hb;simp only[ae,beq_iff_eq,decide_eq_true_eq]at hq;exact ll (.ix i) u (by simp[mU]) ⟨hq.2,by cases u<;>trivial⟩ (by simp only[jM];rw[hq.1.1];cases u<;>rfl) hq.1.2 hb
    |_=>simp[rN]at hb
end
theorem KZ(a b:ByteArray):(a==b)=decide (a=b):=by obtain⟨x⟩:=a;obtain⟨y⟩:=b;show ByteArray.beq ⟨x⟩ ⟨y⟩=_;unfold ByteArray.beq;rw[hZ];simp[ByteArray.ext_iff]
def pw(t:Ty)(x:El t):List Value:=(aN t x).map fun|.lit y=>y|_=>.nilFunc
theorem ry{k1 k2:List Kd}{a1 a2 b1 b2:List Value}{p q:Bool}(h1:eu k1 a1 b1=some p)(h2:eu k2 a2 b2=some q):eu (k1++k2) (a1++a2) (b1++b2)=some (p&&q):=by
 induction k1 generalizing a1 b1 p with
 |nil=>cases a1<;>cases b1<;>simp[eu]at h1;subst h1;simpa using h2
 |cons k k1 ih=>
  cases a1<;>cases b1<;>simp only[eu]at h1<;>first|cases h1;done|skip
  split at h1
  .rename_i c d hc hd;obtain rfl:=aa h1;simp only[aJ,eu,hc,ih hd,Bool.and_assoc]
  .simp at h1
theorem tF{k1 k2:List Kd}{a1 a2:List Value}(h1:r_ k1 a1=true)(h2:r_ k2 a2=true):r_ (k1++k2) (a1++a2)=true:=by
 induction k1 generalizing a1 with
 |nil=>cases a1<;>simp[r_]at h1;simpa using h2
 |cons k k1 ih=>
  cases a1<;>simp only[r_]at h1<;>first|cases h1;done|skip
  simp only[ae]at h1;simp[r_,h1.1,ih h1.2]
theorem oU:∀(t:Ty)(ks:List Kd),uj t=some ks->(∀x,aN t x=(pw t x).map .lit)/\(∀x,r_ ks (pw t x)=true)/\(∀a b:El t,eu ks (pw t a) (pw t b)=some (decide (a=b)))/\ks.length=bC t:=by
 intro t;induction t with
 |pr a c iha ihc=>
  intro ks hk;simp only[uj]at hk;split at hk
  .rename_i x y hx hy;obtain rfl:=aa hk;obtain⟨a1,a2,a3,a4⟩:=iha x hx;obtain⟨c1,c2,c3,c4⟩:=ihc y hy;have e:∀v:El (.pr a c),pw (.pr a c) v=pw a v.1++pw c v.2:=fun v=>by simp[pw,aN]
   refine⟨fun v=>by rw[e,gg,<-a1,<-c1];rfl,fun v=>by rw[e];exact tF (a2 _) (c2 _),fun u v=>?_,by simp[bC,a4,c4]⟩;rw[e,e,ry (a3 _ _) (c3 _ _)];congr 1;rw[hZ];simp[Prod.ext_iff]
  .simp at hk
 |st t ih=>intro ks hk;exact ih ks hk
 |ar m t ih=>
  intro ks hk;simp only[uj]at hk;split at hk
  .rename_i x hx;obtain rfl:=aa hk;obtain⟨a1,a2,a3,a4⟩:=ih x hx;have e:∀v:El (.ar m t),pw (.ar m t) v=v.1.flatMap (pw t):=fun v=>by simp only[pw,aN,List.map_flatMap];rfl
   refine⟨fun v=>?_,fun v=>?_,fun u v=>?_,?_⟩
   .rw [e];simp only[aN,List.map_flatMap];congr 1;funext y;exact a1 y
   .rw [e];obtain⟨l,hl⟩:=v;clear e hk ih;simp only;induction l generalizing m with|nil=>subst hl;rfl|cons y l ihl=>subst hl;simp only[cz,fw,da,bd];exact tF (a2 y) (ihl _ rfl)
   .rw [e,e];obtain⟨l,hl⟩:=u;obtain⟨r,hr⟩:=v
    have key:∀(m:Nat)(l r:List (El t)),l.length=m->r.length=m->eu (aw m x).flatten (l.flatMap (pw t)) (r.flatMap (pw t))=some (decide (l=r)):=by
     intro m;induction m with
     |zero=>intro l r h1 h2;obtain rfl:=bc.1 h1;obtain rfl:=bc.1 h2;rfl
     |succ m ihm=>
      intro l r h1 h2;cases l with
      |nil=>simp at h1
      |cons y l=>cases r with|nil=>simp at h2|cons z r=>simp only[fw,da,bd];rw[ry (a3 y z) (ihm l r (by simpa using h1) (by simpa using h2))];congr 1;rw[hZ];simp
    rw[key m l r hl hr];congr 1;rw[hZ];simp only[decide_eq_true_eq];exact⟨fun h=>Subtype.ext h,fun h=>congrArg Subtype.val h⟩
   .simp [bC,a4]
  .simp at hk
 |i k=>intro ks hk;obtain rfl:=aa hk;refine⟨fun _=>rfl,fun x=>by simp[pw,aN,r_,Du],fun a b=>?_,rfl⟩;simp only[pw,aN,aq,aR,eu,xo,and_self,if_true,Bool.and_true];congr 1
 |b=>intro ks hk;obtain rfl:=aa hk;refine⟨fun _=>rfl,fun x=>by simp[pw,aN,r_,Du],fun a b=>?_,rfl⟩;simp only[pw,aN,aq,aR,eu,xo,Bool.and_true];congr 1
 |s=>intro ks hk;obtain rfl:=aa hk;refine⟨fun _=>rfl,fun x=>by simp[pw,aN,r_,Du],fun a b=>?_,rfl⟩;simp only[pw,aN,aq,aR,eu,xo,Bool.and_true];rw[KZ]
 |_=>intro ks hk;simp[uj]at hk
section
variable{h:H2}{n:Nat}{h1:bl}
theorem D1{z:Bool}{op:BinOp}{k k':IntKind}{a b:Int}{v:V}(hb:KY z op k k' a b=some v)(hz:z=true->0<b):∃y,j9 op (.int k a) (.int k' b)=some y/\dV h v (lv y)/\dC n h v:=by
 have one:∀(q:IntKind)(c:Int),dV h (.x (.i q) c) (lv (.int q c)):=fun q c=>bI (cP rfl ⟨rfl,rfl⟩);have onb:∀(c:Bool),dV h (.x .b c) (lv (.bool c)):=fun c=>bI (cP rfl ⟨rfl,rfl⟩);cases op<;>simp only[KY]at hb
 all_goals first
  |(cases z<;>simp only[cond_true,cond_false]at hb<;>first|(cases hb;done)|skip
    have:=hz rfl;obtain rfl:=aa hb;refine⟨_,by simp only[j9];rw[if_neg (by omega)];rfl,one _ _,trivial⟩)
  |skip
 all_goals
  by_cases hk:k=k'
  .subst hk;simp only[decide_true,cond_true]at hb
   first
    |(cases hb;done)
    |(obtain rfl:=aa hb
      refine⟨_,by simp only[j9,if_true];rfl,?_,trivial⟩
      first|exact one _ _|exact onb _)
    |(obtain rfl:=aa hb
      first
       |exact⟨.int k (K5 k a b),by simp only[j9,if_true,II];rfl,one _ _,trivial⟩
       |exact⟨.int k (No k a b),by simp only[j9,if_true,K4];rfl,one _ _,trivial⟩
       |exact⟨.int k (K1 k a b),by simp only[j9,if_true,IH];rfl,one _ _,trivial⟩
       |exact⟨.int k (w6 k a b),by simp only[j9,if_true,Bq];rfl,one _ _,trivial⟩)
    |(cases z<;>simp only[cond_true,cond_false]at hb<;>first|(cases hb;done)|skip
      have:=hz rfl;obtain rfl:=aa hb;refine⟨_,by simp only[j9,if_true];rw[if_neg (by omega)],one _ _,trivial⟩)
  .simp [hk]at hb
theorem xA{h:H2}{k:FloatKind}{a:Nat}{x:TV}(hx:dV h (.x (.f k) a) x):x=lv (.float k a):=by obtain⟨c,rfl,_,hc⟩:=fV (v:=.x (.f k) a) hx rfl;obtain rfl:=(bK hc).1;rfl
theorem Bn{op:BinOp}{k k':FloatKind}{a b:Nat}{v:V}(hb:Gz op k k' a b=some v):∃y,jK op (.float k a) (.float k' b)=some y/\dV h v (lv y)/\dC n h v:=by
 have one:∀(q:FloatKind)(c:Nat),dV h (.x (.f q) c) (lv (.float q c)):=fun q c=>bI (cP rfl ⟨rfl,rfl⟩);have onb:∀(c:Bool),dV h (.x .b c) (lv (.bool c)):=fun c=>bI (cP rfl ⟨rfl,rfl⟩);unfold Gz at hb;by_cases hk:k=k'
 .subst hk;simp only[decide_true,cond_true]at hb;have ar:∀(f:Option Nat),∃y,(match f.map (Value.float k)with|some v=>some v|none=>if f=none then some (Value.float k (o_ k))else none)=some y/\dV h (.x (.f k) (f.getD (o_ k))) (lv y)/\dC n h (.x (.f k) (f.getD (o_ k))):=by intro f;cases f with|none=>exact⟨_,rfl,one _ _,trivial⟩|some c=>exact⟨_,rfl,one _ _,trivial⟩
  cases op<;>first
   |(cases hb;done)
   |(obtain rfl:=aa hb
     first
      |exact⟨_,by simp only[jK,j9,if_true];rfl,onb _,trivial⟩
      |(simp only[jK,j9,rG,if_true]
        first|exact ar (k.format.add a b)|exact ar (k.format.sub a b)|exact ar (k.format.mul a b)|exact ar (k.format.div a b)))
 .simp [hk]at hb
theorem Dk{m:Bool}{k:FloatKind}:∀{r:List V}{x y:Nat}{xs:List TV},Dl m k x r=some y->jj h r xs->Fi m (.float k x) (xs.map some)=some (.float k y):=by
 intro r;induction r with
 |nil=>intro x y xs hm hx;obtain rfl:=ir hx;obtain rfl:=aa hm;rfl
 |cons v r ih=>
  intro x y xs hm hx;obtain⟨x1,ys,rfl,h1,h2⟩:=ei hx;cases v with
  |x t c=>
   cases t with
   |f k'=>
    simp only[Dl]at hm;by_cases hk:k'=k
    .subst hk;simp only[decide_true,cond_true]at hm;obtain rfl:=xA h1;have:=ih hm h2;have e:ux m (.float k' x) (.float k' c)=some (.float k' (bif m then Kw k' x c else Kv k' x c)):=by cases m<;>simp only[ux,Kw,Kv,cond_true,cond_false,if_true]<;>(cases k'.format.order x c with|none=>rfl|some o=>cases o<;>rfl)
     simp only[aq,lv,Fi,e];exact this
    .simp [hk]at hm
   |_=>simp[Dl]at hm
  |_=>simp[Dl]at hm
theorem D0{op:BinOp}{a b:ByteArray}{v:V}(hb:KX op a b=some v):∃y,j9 op (.string a) (.string b)=some y/\dV h v (lv y)/\dC n h v:=by
 have onb:∀(c:Bool),dV h (.x .b c) (lv (.bool c)):=fun c=>bI (cP rfl ⟨rfl,rfl⟩);cases op<;>simp only[KX]at hb<;>first|(cases hb;done)|skip
 all_goals(obtain rfl:=aa hb;exact⟨_,rfl,onb _,trivial⟩)
theorem Fj{m:Bool}{k:IntKind}:∀{r:List V}{x y:Int}{xs:List TV},Lm m k x r=some y->jj h r xs->Fi m (.int k x) (xs.map some)=some (.int k y):=by
 intro r;induction r with
 |nil=>intro x y xs hm hx;obtain rfl:=ir hx;obtain rfl:=aa hm;rfl
 |cons v r ih=>
  intro x y xs hm hx;obtain⟨x1,ys,rfl,h1,h2⟩:=ei hx;cases v with
  |x t c=>
   cases t with
   |i k'=>
    simp only[Lm]at hm;by_cases hk:k'=k
    .subst hk;simp only[decide_true,cond_true]at hm;obtain rfl:=gK h1;have:=ih hm h2;cases m<;>simpa[Fi,ux]using this
    .simp [hk]at hm
   |_=>simp[Lm]at hm
  |_=>simp[Lm]at hm
theorem jZ{α:Type}:∀(l:List α),cT (l.map some)=some l:=by intro l;induction l with|nil=>rfl|cons a l ih=>simp[cT,ih]
theorem Fc{kind:Nat}{v w:V}{x:TV}{neg:Bool}{c:Call}{nx:Nat}(hx:dV h v x)(ha:ft h v=true)(hn:tg h kind v=some w):
  ∃y,bN c (.mK kind neg) [some x] h1 nx=some (y,[],[],nx)/\dV h (bif neg then Fe w else w) y/\dC n h (bif neg then Fe w else w):=by
 have kb:∀b,dV h (.kb b) (tB b):=fun b=>bI (cP rfl rfl);have xb:∀b,dV h (.x .b b) (tB b):=fun b=>bI (cP rfl ⟨rfl,rfl⟩)
 have sl:∀q,o9 h v=some q->(bif kind==0 then(match o9 h v with|some ⟨_,s,_⟩=>some (.x .b s.dZ)|none=>none)else none)=some w->
   ∃y,bN c (.mK kind neg) [some x] h1 nx=some (y,[],[],nx)/\dV h (bif neg then Fe w else w) y/\dC n h (bif neg then Fe w else w):=by
  intro q hq hw;cases hkk:kind==0 with
  |false=>rw[hkk]at hw;simp at hw
  |true=>
   obtain rfl:kind=0:=by simpa using hkk
   rw[hq]at hw;simp only[hkk,cond_true]at hw;obtain rfl:=aa hw;refine⟨_,J9 hx ha hq,?_⟩;cases neg
   .exact ⟨xb _,trivial⟩
   .exact ⟨xb _,trivial⟩
 cases v with
 |nl k=>
  simp only[tg]at hn;cases hkk:(k==kind)&&Nat.blt k 3 with
  |false=>rw[hkk]at hn;simp at hn
  |true=>
   rw[hkk,cond_true]at hn;obtain rfl:=aa hn;simp only[ae,beq_iff_eq]at hkk;obtain⟨rfl,hlt⟩:=hkk;have hlt:k<3:=fY hlt;rw[qy hx]
   match k,hlt with|0,_=>cases neg<;>exact⟨_,rfl,kb _,trivial⟩|1,_=>cases neg<;>exact⟨_,rfl,kb _,trivial⟩|2,_=>cases neg<;>exact⟨_,rfl,kb _,trivial⟩
 |pt t v=>
  simp only[tg]at hn;cases hkk:kind==1 with
  |false=>rw[hkk]at hn;simp at hn
  |true=>
   rw[hkk,cond_true]at hn;obtain rfl:=aa hn;obtain rfl:kind=1:=by simpa using hkk
   rw[(sx hx).2];cases neg<;>exact⟨_,rfl,kb _,trivial⟩
 |op id t p=>
  simp only[tg]at hn;cases hkk:kind==1 with
  |false=>rw[hkk]at hn;simp at hn
  |true=>
   rw[hkk,cond_true]at hn;obtain rfl:=aa hn;obtain rfl:kind=1:=by simpa using hkk
   rw[qx hx];cases neg<;>exact⟨_,rfl,kb _,trivial⟩
 |ep id m t p=>
  simp only[tg]at hn;cases hkk:kind==1 with
  |false=>rw[hkk]at hn;simp at hn
  |true=>
   rw[hkk,cond_true]at hn;obtain rfl:=aa hn;obtain rfl:kind=1:=by simpa using hkk
   rw[nQ hx];cases neg<;>exact⟨_,rfl,kb _,trivial⟩
 |fn z f l=>
  simp only[tg]at hn;cases hkk:kind==2 with
  |false=>rw[hkk]at hn;simp at hn
  |true=>
   rw[hkk,cond_true]at hn;obtain rfl:=aa hn;obtain rfl:kind=2:=by simpa using hkk
   rcases zR hx with⟨_,ds,_,rfl⟩|⟨_,cs,_,rfl⟩<;>(cases neg<;>exact⟨_,rfl,kb _,trivial⟩)
 |x t v=>cases hq:o9 h (.x t v)with|none=>simp[tg,hq]at hn|some q=>exact sl q hq hn
 |so id=>cases hq:o9 h (.so id)with|none=>simp[tg,hq]at hn|some q=>exact sl q hq hn
 |sb id ver lo t r=>cases hq:o9 h (.sb id ver lo t r)with|none=>simp[tg,hq]at hn|some q=>exact sl q hq hn
 |_=>simp[tg,o9]at hn
theorem F4{off m i:Nat}{v w:V}{x:TV}{c:Call}{nx:Nat}(hx:dV h v x)(hk:dC n h v)(hw:A0 off m i v=some w):
  ∃y,bN c (.fieldAddr off m) [some x] h1 nx=some (y,[],[],nx)/\dV h w y/\dC n h w:=by
 have path:∀(t u a:Ty)(p:lN),mU t p=some (.st u)->xn u i=some a->Df t p->Df t (p++[.fd i])/\jM t (p++[.fd i])=jM t p+kS u i:=by
  intro t u a p;induction p generalizing t with
  |nil=>
   intro h1 h2 _;have e:mU t []=some t:=by cases t<;>rfl
   obtain rfl:t=.st u:=by rw[e]at h1;exact aa h1
   refine⟨⟨a,h2,by cases a<;>trivial⟩,?_⟩;simp only[aY,jM,h2];cases a<;>simp[jM]
  |cons q p ih=>
   intro h1 h2 h3;cases q with
   |fd j=>cases t with|st t=>obtain⟨b2,hb,h3⟩:=h3;simp only[mU,hb]at h1;obtain⟨q1,q2⟩:=ih b2 h1 h2 h3;refine⟨⟨b2,hb,q1⟩,?_⟩;simp only[aJ,jM,hb,q2];exact(cg _ _ _).symm|_=>exact h3.elim
   |ix k=>cases t with|ar l t=>obtain⟨hk,h3⟩:=h3;obtain⟨q1,q2⟩:=ih t h1 h2 h3;refine⟨⟨hk,q1⟩,?_⟩;simp only[aJ,jM,q2];exact(cg _ _ _).symm|_=>exact h3.elim
 cases v with
 |op id t p=>
  simp only[A0]at hw;split at hw
  .rename_i u hu;split at hw
   .rename_i a hf;cases hq:(kS u i==off)&&(bC a==m)with
    |false=>rw[hq]at hw;simp at hw
    |true=>
     rw[hq,cond_true]at hw;obtain rfl:=aa hw;simp only[ae,beq_iff_eq]at hq;obtain⟨q1,q2⟩:=path t u a p hu hf hk.2;rw[qx hx];refine⟨_,rfl,bI (cP rfl ?_),hk.1,q1⟩;show[_]=[_]
     rw[q2,hq.1]
   .simp at hw
  .simp at hw
 |ep id k t p=>
  simp only[A0]at hw;split at hw
  .rename_i u hu;split at hw
   .rename_i a hf;cases hq:(kS u i==off)&&(bC a==m)with
    |false=>rw[hq]at hw;simp at hw
    |true=>
     rw[hq,cond_true]at hw;obtain rfl:=aa hw;simp only[ae,beq_iff_eq]at hq;obtain⟨q1,q2⟩:=path t u a p hu hf hk.2.1;rw[nQ hx];refine⟨_,rfl,bI (cP rfl ?_),hk.1,q1,hk.2.2⟩;show[_]=[_]
     rw[q2,hq.1]
   .simp at hw
  .simp at hw
 |pt t v=>
  cases t with
  |st u=>
   simp only[A0]at hw;split at hw
   .rename_i a y hy;cases hq:(kS u i==off)&&(bC a==m)with
    |false=>rw[hq]at hw;simp at hw
    |true=>
     rw[hq,cond_true]at hw;obtain rfl:=aa hw;simp only[ae,beq_iff_eq]at hq;obtain⟨a',y',e,f1,f2,f3⟩:=mG _ _ _ _ hy;cases e;obtain⟨hd,rfl⟩:=sx hx;refine⟨_,?_,bI (cP (c:=.d (.pt (aN a y))) rfl ⟨tU u _ _ hd f1,rfl⟩),trivial⟩;have hle:off+m<=(aN (.st u) v).length:=by rw[bq];show _<=bC u;omega
     have e2:((aN (.st u) v).drop off).take m=aN a y:=by rw[<-hq.1,<-hq.2];exact f3
     simp only[bN,gM];rw[if_pos hle,e2]
   .simp at hw
  |_=>simp[A0]at hw
 |_=>simp[A0]at hw
theorem Dh:∀(l:V)(i:Nat)(w:V)(cs:List C),dE h l cs->nJ l i=some w->∃cw,dE h w cw/\Ij l i+sD w<=cs.length/\(cs.drop (Ij l i)).take (sD w)=cw:=by
 intro l;induction l with
 |co a r iha ihr=>intro i w cs hv hw;obtain⟨x,y,rfl,k1,k2⟩:=hv;have hl:=fr k1;cases i with|zero=>obtain rfl:=aa hw;refine⟨x,k1,by simp[Ij];omega,?_⟩;simp only[Ij,List.drop_zero];rw[<-hl,List.take_left]|succ i=>obtain⟨cw,q1,q2,q3⟩:=ihr i w y k2 hw;refine⟨cw,q1,by simp only[Ij,aZ];omega,?_⟩;simp only[Ij];rw[<-cj,<-hl,List.drop_left,q3]
 |_=>intro i w cs hv hw;simp[nJ]at hw
theorem HT:∀(l:V)(i:Nat)(w:V)(xs:List TV),vU h l xs->nJ l i=some w->∃x,xs[i]?=some x/\nR h w x:=by
 intro l;induction l with
 |co a r iha ihr=>intro i w xs hv hw;obtain⟨x,ys,rfl,k1,k2⟩:=hv;cases i with|zero=>obtain rfl:=aa hw;exact⟨x,rfl,k1⟩|succ i=>exact ihr i w ys k2 hw
 |_=>intro i w xs hv hw;simp[nJ]at hw
end
section
variable{h:H2}{n:Nat}{h1:bl}
def Lc(h:H2)(n:Nat)(h1:bl)(k:K)(xs:List TV)(v:V)(l:List Nat):Prop:=∀(c:Call)(nx:Nat),∃x ap,bN c k (xs.map some) h1 nx=some (x,[],ap,nx)/\dV h v x/\dC n h v/\∀i∈ap,i∈l
theorem Lc.of{k:K}{xs:List TV}{v:V}{x:TV}(he:∀(c:Call)(nx:Nat),bN c k (xs.map some) h1 nx=some (x,[],[],nx))(hx:dV h v x)(hk:dC n h v):Lc h n h1 k xs v []:=fun c nx=>⟨x,[],he c nx,hx,hk,fun i hi=>by simp at hi⟩
theorem xb(b:Bool):dV h (.x .b b) (tB b):=bI (cP rfl ⟨rfl,rfl⟩)
theorem xf(k:FloatKind)(a:Nat):dV h (.x (.f k) a) (lv (.float k a)):=bI (cP rfl ⟨rfl,rfl⟩)
theorem xi(k:IntKind)(a:Int):dV h (.x (.i k) a) (tI k a):=bI (cP rfl ⟨rfl,rfl⟩)
theorem Li(a:ByteArray):dV h (.x .s a) (.c (.d (dS a))):=bI (cP rfl ⟨rfl,rfl⟩)
def Lj(t:Ty)(y:El t):TV:=if iF t=true then .agg ((aN t y).map .d)else match aN t y with|d::_=>.c (.d d)|[]=>.eU []
theorem BC{t:Ty}(y:El t){va:Bool}(hv:iF t=va)(h1:(va||bC t==1)=true):lk va (aN t y)=some (Lj t y):=by
 subst hv;unfold lk Lj;cases ha:iF t with
 |true=>rfl
 |false=>
  rw[ha]at h1;have:=bq t y;rw[show bC t=1 by simpa using h1]at this;cases he:aN t y with
  |nil=>rw[he]at this;simp at this
  |cons d r=>
   rw[he]at this;have:r=[]:=by simpa using this
   subst this;rfl
theorem Em{t:Ty}{y:El t}(hd:gT t=true)(h1:(iF t||bC t==1)=true):nR h (.x t y) (Lj t y):=by
 unfold Lj;cases ha:iF t with
 |true=>exact sA ha ⟨hd,rfl⟩
 |false=>
  rw[ha]at h1;have:=bq t y;rw[show bC t=1 by simpa using h1]at this;cases he:aN t y with
  |nil=>rw[he]at this;simp at this
  |cons d r=>
   rw[he]at this;have:r=[]:=by simpa using this
   subst this;exact cP ha ⟨hd,by rw[he];rfl⟩
theorem D7(f:TV->Option C)(hf:∀c,f (.c c)=some c):∀(cs:List C),cT ((cs.map TV.c).map f)=some cs:=by intro cs;induction cs with|nil=>rfl|cons c cs ih=>simp only[aq,hf,cT,ih]
theorem tu:∀(l:List Value),iR (l.map fun v=>C.d (.lit v))=some l:=by intro l;induction l with|nil=>rfl|cons v l ih=>simp[iR,ih]
theorem qk{kt:Ty}{ks:List Kd}{v:V}{x:TV}{y:El kt}{ka:Bool}(hx:dV h v x)(hc:mV kt v=some y)(hk:uj kt=some ks)(ha:iF kt=ka):jC ka ks x=some (pw kt y):=by
 obtain⟨h1,h2,_,h4⟩:=oU kt ks hk;obtain⟨g1,g2⟩:=o4 hx hc;cases ka with
 |true=>
  rw[g1 ha];have e:(aN kt y).map C.d=(pw kt y).map fun v=>C.d (.lit v):=by rw[h1 y,iM];rfl
  simp only[jC];rw[if_pos ⟨trivial,by rw[aK,bq,h4]⟩,e,tu];simp only[h2 y,if_true]
 |false=>
  obtain⟨d,hd,rfl⟩:=g2 ha;have hl:=bq kt y;rw[hd]at hl;have h5:=h1 y;rw[hd]at h5;cases hv:pw kt y with
  |nil=>rw[hv]at h5;simp at h5
  |cons q r=>
   rw[hv]at h5;simp only[aq,cJ]at h5;obtain⟨rfl,h6⟩:=h5;have:r=[]:=by simpa using h6.symm
   subst this;simp only[jC];rw[if_pos ⟨trivial,by rw[h4,<-hl];rfl⟩];have h7:=h2 y;rw[hv]at h7;simp only[iR,h7,if_true]
theorem Fo{v:V}{q:(k:Ty)×(v:Ty)×Mp (El k) (El v)×List Nat}{x:TV}(hr:HR n h1 h)(hm:H7 h v=some q)(hx:dV h v x):
  ∃id,v=.om id/\x=.c (.om id)/\q.2.2.2=[id]/\fO h id=some (.mp q.1 q.2.1 q.2.2.1)/\au h1 id=rY (iF q.1) (iF q.2.1) (pw q.1) (aN q.2.1) q.2.2.1:=by
 cases v with
 |om id=>
  simp only[H7]at hm;split at hm
  .rename_i k v m ho;obtain rfl:=aa hm;exact⟨id,rfl,sy hx,rfl,ho,(hr.ob id _ ho).2.1.2.2⟩
  .simp at hm
 |_=>simp[H7]at hm
theorem Fq{c:Call}{x y:TV}{H:bl}{l:List Nat}{nx:Nat}(h:bN c (.load false 1) [some x] H nx=some (y,[],l,nx)):bN c .pk [some x] H nx=some (y,[],l,nx):=by
 cases x with
 |c p=>
  have h:(match e_ false 1 p H with|some (v,ap)=>some (v,([]:dD),ap,nx)|none=>none)=some (y,[],l,nx):=h;show(match e_ false 1 p H with|some (v,ap)=>some (v,([]:dD),ap,nx)|none=>iI false 1 p H nx)=some (y,[],l,nx);split at h
  .exact h
  .cases h
 |_=>cases h
theorem CG{o:OP}{vs:List V}{v:V}{l:List Nat}{xs:List TV}(hr:HR n h1 h)(ht:Jz o vs h=some (v,l))(hx:jj h vs xs)(hk:∀w∈vs,dC n h w)(ha:∀w∈vs,ft h w=true)
  (hp:HA o.o.args=true->∀a k b,vs=[a,.x (.i k) b]->0<b):Lc h n h1 o.o.k xs v l:=by
 obtain⟨⟨d,k,args,g⟩,t,fi⟩:=o;simp only at hp|-;unfold Jz at ht;simp only at ht;split at ht
 .--mv
  obtain⟨rfl,rfl⟩:=ad (aa ht);obtain⟨x,rfl,h2⟩:=fk hx;exact .of (fun _ _=>rfl) h2 (hk _ (by simp))
 .--nilCheck
  obtain⟨x,rfl,h2⟩:=fk hx;have hk1:=hk _ (am.2 rfl);split at ht
  .obtain ⟨rfl,rfl⟩:=ad (aa ht);exact .of (fun _ _=>by rw[(sx h2).2];rfl) h2 hk1
  .obtain ⟨rfl,rfl⟩:=ad (aa ht);refine .of (fun _ _=>?_) h2 hk1;rcases zR h2 with⟨_,ds,_,rfl⟩|⟨_,cs,_,rfl⟩<;>rfl
  .obtain ⟨rfl,rfl⟩:=ad (aa ht);exact .of (fun _ _=>by rw[nQ h2];rfl) h2 hk1
  .obtain ⟨rfl,rfl⟩:=ad (aa ht);exact .of (fun _ _=>by rw[qx h2];rfl) h2 hk1
  .simp at ht
 .--t8 int
  rename_i op q a q' b;obtain⟨x,y,rfl,h2,h3⟩:=fA hx;obtain rfl:=gK h2;obtain rfl:=gK h3;split at ht
  .rename_i w hw;obtain⟨rfl,rfl⟩:=ad (aa ht);obtain⟨y,h4,h5,h6⟩:=D1 (h:=h) (n:=n) hw fun hz=>hp hz _ _ _ rfl;exact .of (fun _ _=>by simp only[jf,bN,jK,h4]) h5 h6
  .simp at ht
 .--t8 float
  rename_i op q a q' b;obtain⟨x,y,rfl,h2,h3⟩:=fA hx;obtain rfl:=xA h2;obtain rfl:=xA h3;split at ht
  .rename_i w hw;obtain⟨rfl,rfl⟩:=ad (aa ht);obtain⟨y,h4,h5,h6⟩:=Bn (h:=h) (n:=n) hw;exact .of (fun _ _=>by show(match jK op (.float q a) (.float q' b)with|some v=>some (lv v,([]:dD),([]:List Nat),_)|none=>none)=_;rw[h4]) h5 h6
  .simp at ht
 .--t8 string
  obtain⟨x,y,rfl,h2,h3⟩:=fA hx;obtain rfl:=rk h2;obtain rfl:=rk h3;split at ht
  .rename_i w hw;obtain⟨rfl,rfl⟩:=ad (aa ht);obtain⟨y,h4,h5,h6⟩:=D0 (h:=h) (n:=n) hw;exact .of (fun _ _=>by simp only[jf,bN,jK,h4]) h5 h6
  .simp at ht
 .--pO
  rename_i neg v1 v2;obtain⟨x,y,rfl,h2,h3⟩:=fA hx;split at ht
  .rename_i a b ha' hb';obtain⟨rfl,rfl⟩:=ad (aa ht);rw[Je h2 ha',Je h3 hb'];refine .of (x:=tB (bif neg then !(a==b)else a==b)) (fun _ _=>?_) (xb _) trivial;cases neg<;>rfl
  .simp at ht
 .--mK
  obtain⟨x,rfl,h2⟩:=fk hx;split at ht
  .rename_i w hw;obtain⟨rfl,rfl⟩:=ad (aa ht);intro c nx;obtain⟨y,h4,h5,h6⟩:=Fc (n:=n) (h1:=h1) (c:=c) (nx:=nx) h2 (ha _ (by simp)) hw;exact⟨y,[],h4,h5,h6,fun i hi=>by simp at hi⟩
  .simp at ht
 .--tP
  rename_i neg ks t1 a w;obtain⟨x,y,rfl,h2,h3⟩:=fA hx;split at ht
  .rename_i b hb;cases hq:iF t1&&decide (uj t1=some ks)with
   |false=>rw[hq]at ht;simp at ht
   |true=>
    rw[hq,cond_true]at ht;obtain⟨rfl,rfl⟩:=ad (aa ht);simp only[ae,decide_eq_true_eq]at hq;obtain⟨k1,k2,k3,k4⟩:=oU t1 ks hq.2;have e1:=(o4 (v:=.x t1 a) (u:=t1) (y:=a) h2 (by simp[mV,ij,ff,ew])).1 hq.1;have e2:=(o4 h3 hb).1 hq.1;have el:∀z:El t1,iR ((aN t1 z).map C.d)=some (pw t1 z):=fun z=>by rw[show(aN t1 z).map C.d=(pw t1 z).map fun v=>C.d (.lit v)by rw[k1 z,iM];rfl,tu]
    rw[e1,e2];refine .of (x:=tB (bif neg then !(decide (a=b))else decide (a=b))) (fun _ _=>?_) (xb _) trivial;simp only[jf,bN,el,k3];cases neg<;>rfl
  .simp at ht
 .obtain ⟨rfl,rfl⟩:=ad (aa ht);obtain⟨x,rfl,h2⟩:=fk hx;rw[qz h2];exact .of (fun _ _=>rfl) (bI (cP rfl rfl)) trivial
 .obtain ⟨rfl,rfl⟩:=ad (aa ht);obtain⟨x,rfl,h2⟩:=fk hx;rw[BE h2];exact .of (fun _ _=>rfl) (xb _) trivial
 .obtain ⟨rfl,rfl⟩:=ad (aa ht);obtain⟨x,rfl,h2⟩:=fk hx;rw[gK h2];exact .of (fun _ _=>rfl) (xi _ _) trivial
 .obtain ⟨rfl,rfl⟩:=ad (aa ht);obtain⟨x,rfl,h2⟩:=fk hx;rw[xA h2];exact .of (fun _ _=>rfl) (xf _ _) trivial
 .obtain ⟨rfl,rfl⟩:=ad (aa ht);obtain⟨x,rfl,h2⟩:=fk hx;rw[gK h2];exact .of (fun _ _=>rfl) (xi _ _) trivial
 .obtain ⟨rfl,rfl⟩:=ad (aa ht);obtain⟨x,rfl,h2⟩:=fk hx;rw[gK h2];exact .of (fun _ _=>rfl) (xi _ _) trivial
 .obtain ⟨rfl,rfl⟩:=ad (aa ht);obtain⟨x,rfl,h2⟩:=fk hx;rw[gK h2];exact .of (fun _ _=>rfl) (xf _ _) trivial
 .obtain ⟨rfl,rfl⟩:=ad (aa ht);obtain⟨x,rfl,h2⟩:=fk hx;rw[rk h2];exact .of (fun _ _=>rfl) (Li _) trivial
 .--Do
  rename_i f;cases hc:vs.all IC with
  |false=>rw[hc]at ht;simp at ht
  |true=>
   rw[hc,cond_true]at ht;obtain⟨rfl,rfl⟩:=ad (aa ht);obtain⟨cs,h2,rfl⟩:=En hx fun w hw=>by have:=List.all_eq_true.1 hc w hw;cases w<;>first|exact⟨trivial,by simp[IC]at this;exact this⟩|simp[IC]at this
   refine .of (x:=.c (.kR f cs)) (fun _ _=>?_) (bI (cP rfl ⟨cs,h2,rfl⟩)) ?_
   .simp only[bN,jZ];rw[D7 _ fun _=>rfl]
   .clear ht h2 hp ha hc hx;induction vs with|nil=>trivial|cons w vs ih=>exact⟨hk w (by simp),ih fun u hu=>hk u (by simp[hu])⟩
 .--load
  rename_i g m p;obtain⟨x,rfl,h2⟩:=fk hx;split at ht
  .rename_i w l' hl;cases hc:Bf h g m w with|false=>rw[hc]at ht;simp at ht|true=>rw[hc,cond_true]at ht;obtain⟨rfl,rfl⟩:=ad (aa ht);intro c nx;obtain⟨y,h3,h4,h5⟩:=qN (c:=c) (nx:=nx) hr hl hc h2 (hk _ (by simp));exact⟨y,_,h3,h4,h5,fun i hi=>hi⟩
  .simp at ht
 .--load of a slice
  obtain⟨x,rfl,h2⟩:=fk hx;split at ht
  .rename_i w l' hl;cases hc:Bf h false 1 w with|false=>rw[hc]at ht;simp at ht|true=>rw[hc,cond_true]at ht;obtain⟨rfl,rfl⟩:=ad (aa ht);intro c nx;obtain⟨y,h3,h4,h5⟩:=qN (c:=c) (nx:=nx) hr hl hc h2 (hk _ (by simp));exact⟨y,_,Fq h3,h4,h5,fun i hi=>hi⟩
  .simp at ht
 .--fieldAddr
  obtain⟨x,rfl,h2⟩:=fk hx;split at ht
  .split at ht
   .rename_i w hw;obtain⟨rfl,rfl⟩:=ad (aa ht);intro c nx;obtain⟨y,h3,h4,h5⟩:=F4 (h1:=h1) (c:=c) (nx:=nx) h2 (hk _ (by simp)) hw;exact⟨y,[],h3,h4,h5,fun i hi=>by simp at hi⟩
   .simp at ht
  .simp at ht
 .--field of data
  rename_i g off m u y;obtain⟨x,rfl,h2⟩:=fk hx;split at ht
  .split at ht
   .rename_i i _ w hw;cases hc:(kS u i==off)&&Bf h g m w with
    |false=>rw[hc]at ht;simp at ht
    |true=>
     rw[hc,cond_true]at ht;obtain⟨rfl,rfl⟩:=ad (aa ht);simp only[ae,beq_iff_eq]at hc;obtain⟨a,z,rfl,f1,f2,f3⟩:=mG _ _ _ _ hw;obtain⟨cs,⟨hd,rfl⟩,g1,_⟩:=kP (v:=.x (.st u) y) trivial h2;have hd':gT u=true:=hd;obtain⟨_,hs,_,_⟩:=kD hc.2;have hs:bC a=m:=hs
     obtain⟨q,h3,h4⟩:=lw (cs:=(aN u y).map C.d) (off:=off) hc.2 (show dE h (.x a z) ((aN a z).map .d)from⟨tU u _ _ hd' f1,rfl⟩) (by simp[bq];omega)
      (by rw[<-hc.1,<-hs,<-f3,eX,ez])
     rw[g1 rfl];exact .of (x:=q) (fun _ _=>by show(match yN g m (((aN u y).map C.d).drop off)with|some v=>some (v,([]:dD),([]:List Nat),_)|none=>none)=_;rw[h3]) h4 trivial
   .simp at ht
  .simp at ht
 .--field of a dv
  rename_i g off m u;obtain⟨x,rfl,h2⟩:=fk hx;split at ht
  .split at ht
   .rename_i i _ w hw;cases hc:(Ij u i==off)&&Bf h g m w with|false=>rw[hc]at ht;simp at ht|true=>rw[hc,cond_true]at ht;obtain⟨rfl,rfl⟩:=ad (aa ht);simp only[ae,beq_iff_eq]at hc;obtain⟨cs,hcs,g1,_⟩:=kP (v:=.rc u) trivial h2;obtain⟨cw,q1,q2,q3⟩:=Dh u i w cs hcs hw;obtain⟨_,hs,_,_⟩:=kD hc.2;obtain⟨q,h3,h4⟩:=lw (off:=off) hc.2 q1 (by rw[<-hc.1,<-hs];exact q2) (by rw[<-hc.1,<-hs];exact q3);rw[g1 rfl];exact .of (x:=q) (fun _ _=>by show(match yN g m (cs.drop off)with|some v=>some (v,([]:dD),([]:List Nat),_)|none=>none)=_;rw[h3]) h4 (rX u i w (hk (.rc u) (am.2 rfl)) hw)
   .simp at ht
  .simp at ht
 .--extract
  rename_i i u;obtain⟨x,rfl,h2⟩:=fk hx;split at ht
  .rename_i w hw;obtain⟨rfl,rfl⟩:=ad (aa ht);obtain⟨ys,rfl,h3⟩:=Jy h2;obtain⟨y,h4,h5⟩:=HT u i w ys h3 hw;exact .of (x:=y) (fun _ _=>by simp only[jf,bN,h4]) (bI h5) (rX u i w (hk (.tp u) (am.2 rfl)) hw)
  .simp at ht
 .obtain ⟨rfl,rfl⟩:=ad (aa ht);obtain⟨x,rfl,h2⟩:=fk hx;rw[rk h2];exact .of (fun _ _=>rfl) (xi _ _) trivial
 .obtain ⟨rfl,rfl⟩:=ad (aa ht);obtain⟨x,rfl,h2⟩:=fk hx;rw[qy h2];exact .of (fun _ _=>rfl) (xi _ _) trivial
 .--len of a dv of rows
  obtain⟨x,rfl,h2⟩:=fk hx;split at ht
  .rename_i t' s' ln hq;obtain⟨rfl,rfl⟩:=ad (aa ht);exact .of (fun _ _=>by rw[Ep h2 (nU hq)];exact I9) (xi _ _) trivial
  .simp at ht
 .--len
  obtain⟨x,rfl,h2⟩:=fk hx;split at ht
  .rename_i q t' s' l' hq;obtain⟨rfl,rfl⟩:=ad (aa ht);exact .of (fun _ _=>Kh h2 (ha _ (by simp)) hq) (xi _ _) trivial
  .simp at ht
 .--ne
  rename_i m k' x r;obtain⟨x1,ys,rfl,h2,h3⟩:=ei hx;split at ht
  .rename_i y hy;obtain⟨rfl,rfl⟩:=ad (aa ht);obtain rfl:=gK h2;exact .of (x:=lv (.int k' y)) (fun _ _=>by simp only[jf,bN,Fj hy h3]) (xi _ _) trivial
  .simp at ht
 .--ne of floats
  rename_i m k' x r;obtain⟨x1,ys,rfl,h2,h3⟩:=ei hx;split at ht
  .rename_i y hy;obtain⟨rfl,rfl⟩:=ad (aa ht);obtain rfl:=xA h2;refine .of (x:=lv (.float k' y)) (fun _ _=>?_) (xf _ _) trivial;show(match Fi m (.float k' x) (ys.map some)with|some v=>some (lv v,([]:dD),([]:List Nat),_)|none=>none)=_;rw[Dk hy h3]
  .simp at ht
 .--build
  rename_i z ps;cases hc:o8 (j_ t) z&&iF t&&df (IY t) false t with
  |false=>rw[hc]at ht;simp at ht
  |true=>
   rw[hc,cond_true]at ht;simp only[ae]at hc;split at ht
   .rename_i w hw;obtain⟨rfl,rfl⟩:=ad (aa ht);obtain⟨z1,z2⟩:=(sn (h:=h) (n:=n) t).1 hc.2;obtain⟨cs,b1,b2,b3,b4⟩:=Gy fi ps vs (IY t) w _ xs hw hc.2 z1 z2 hx hk;rw[mX hc.1.1]at b1;exact .of (x:=.agg cs) (fun _ _=>by simp only[bN,jZ,b1]) (bI (sA (Ku b4 hc.1.2) b2)) b3
   .simp at ht
 .--lookup
  rename_i ka ks va z ok m kv;obtain⟨x,y,rfl,h2,h3⟩:=fA hx;split at ht
  .rename_i kt vt mp l' hq;split at ht
   .rename_i key hkey;cases hc:(iF kt==ka)&&(iF vt==va)&&decide (uj kt=some ks)&&o8 (j_ vt) z&&gT vt&&(va||bC vt==1)with
    |false=>rw[hc]at ht;simp at ht
    |true=>
     rw[hc,cond_true]at ht;simp only[ae,beq_iff_eq,decide_eq_true_eq]at hc;obtain⟨⟨⟨⟨⟨c1,c2⟩,c3⟩,c4⟩,c5⟩,c6⟩:=hc;obtain⟨id,rfl,rfl,e1,e2,e3⟩:=Fo hr hq h2;have e1:l'=[id]:=e1;subst e1;obtain⟨_,_,k3,_⟩:=oU kt ks c3;have hz:cn z=aN vt (nO vt):=by rw[mW vt c5,mX c4]
     have hv:∀y,lk va (aN vt y)=some (Lj vt y):=fun y=>BC y c2 c6;have hkt:=qk h3 hkey c3 c1;rw[c1,c2]at e3;rw[<-c2]at c6;cases ok with|false=>simp only[cond_false]at ht;obtain⟨rfl,rfl⟩:=ad (aa ht);exact fun c nx=>⟨_,[id],Kb (z:=nO vt) e3 hkt k3 hz hv,bI (Em c5 c6),trivial,fun i hi=>hi⟩|true=>simp only[cond_true]at ht;obtain⟨rfl,rfl⟩:=ad (aa ht);exact fun c nx=>⟨_,[id],H9 (z:=nO vt) e3 hkt k3 hz hv,⟨_,rfl,_,_,rfl,Em c5 c6,_,_,rfl,cP rfl ⟨rfl,rfl⟩,rfl⟩,⟨trivial,trivial,trivial⟩,fun i hi=>hi⟩
   .simp at ht
  .simp at ht
 .simp at ht
end
section
variable{h:H2}{n:Nat}{h1:bl}
theorem bZ(id:Nat)(o:Option O)(h:H2)(i:Nat):fO ((id,o)::h) i=if id=i then o else fO h i:=by
 simp only[fO,bM];by_cases e:id=i
 .subst e;simp
 .have e':(id==i)=false:=by simpa using e
  simp[e,e']
theorem cE(id:Nat)(o:Option Ob)(h:bl)(i:Nat):au ((id,o)::h) i=if id=i then o else au h i:=by
 simp only[au,bM];by_cases e:id=i
 .subst e;simp
 .have e':(id==i)=false:=by simpa using e
  simp[e,e']
theorem gm.new(o:Option O):gm n h ((n,o)::h):=⟨fun id o' hi ho=>by rw[bZ,if_neg (by omega)]at ho;exact .inl ⟨o',ho,nI.refl _⟩⟩
theorem gm.vT{id:Nat}{o o':O}(ho:fO h id=some o)(hs:nI o o'):gm n h ((id,some o')::h):=
 ⟨fun i o2 hi h2=>by
  rw[bZ]at h2;split at h2
  .rename_i e;subst e;obtain rfl:=aa h2;exact .inl ⟨o,ho,hs⟩
  .exact .inl ⟨o2,h2,nI.refl _⟩⟩
theorem gm.i_(id:Nat):gm n h ((id,none)::h):=
 ⟨fun i o2 hi h2=>by
  rw[bZ]at h2;split at h2
  .simp at h2
  .exact .inl ⟨o2,h2,nI.refl _⟩⟩
theorem HR.vT{n' id:Nat}{o:Option O}{u:dD}(hr:HR n h1 h)(hn:n<=n')(hi:id<n')(hs:gm n h ((id,o)::h))(hu:∀i,i≠id->au (u++h1) i=au h1 i)
  (ho:∀o',o=some o'->qf ((id,o)::h) o' (au (u++h1) id)/\xm n' ((id,o)::h) o'):HR n' (u++h1) ((id,o)::h):=by
 refine⟨fun i o' h2=>?_⟩;rw[bZ]at h2;split at h2
 .rename_i e;subst e;exact⟨hi,ho o' h2⟩
 .rename_i e;obtain⟨q1,q2,q3⟩:=hr.ob i o' h2;refine⟨by omega,?_,ku hn hs q3⟩;rw[hu i fun e'=>e e'.symm];exact lr hs q3 q2
theorem HR.mono{n':Nat}(hr:HR n h1 h)(hn:n<=n'):HR n' h1 h:=⟨fun i o ho=>let⟨a,b,c⟩:=hr.ob i o ho;⟨by omega,b,ku hn (gm.refl n h) c⟩⟩
theorem HR.ext{h1':bl}(hr:HR n h1 h)(he:∀i,au h1' i=au h1 i):HR n h1' h:=⟨fun i o ho=>by rw[he];exact hr.ob i o ho⟩
structure mT(s s':S2)(h1:bl)(x:TV)(u:dD)(ap:List Nat)(m:Nat)(v:V)(l:List Nat):Prop where
 val:dV s'.heap v x
 Nw:dC s'.next s'.heap v
 hr:HR s'.next (u++h1) s'.heap
 dm:gm s.next s.heap s'.heap
 cG:s'.cG=s.cG
 gh:s'.gh=s.gh
 m:m<=s'.next
 le:s.next<=s'.next
 ap:∀i∈ap,i∈l
 nb:∀i,i<s.next->fO s.heap i=none->fO s'.heap i=none
 wo:∃w,s'.wo=w++s.wo/\(∀p∈u,p.1∈w)/\∀id,id∉w->fO s'.heap id=fO s.heap id
theorem mT.pure{s:S2}{x:TV}{v:V}{ap l:List Nat}(hr:HR s.next h1 s.heap)(hx:dV s.heap v x)(hk:dC s.next s.heap v)(hl:∀i∈ap,i∈l):mT s s h1 x [] ap s.next v l:=⟨hx,hk,hr,gm.refl _ _,rfl,rfl,ak _,ak _,hl,fun _ _ h=>h,[],rfl,fun p hp=>by simp at hp,fun _ _=>rfl⟩
theorem mT.new{s:S2}{o:O}{b:Option Ob}{u:dD}{x:TV}{v:V}{ap l:List Nat}{m:Nat}(hr:HR s.next h1 s.heap)(hu:u=[(s.next,b)]\/(u=[]/\∀b',qf ((s.next,some o)::s.heap) o b'))(hb:u=[(s.next,b)]->qf ((s.next,some o)::s.heap) o b)
  (hko:xm (s.next+1) ((s.next,some o)::s.heap) o) (hx:dV ((s.next,some o)::s.heap) v x) (hk:dC (s.next+1) ((s.next,some o)::s.heap) v) (hl:∀i∈ap,i∈l) (hm:m<=s.next+1):mT s (gk s o) h1 x u ap m v l:=by
 refine⟨hx,hk,?_,gm.new _,rfl,rfl,hm,bg _,hl,fun i hi h=>(by rw[show(gk s o).heap=(s.next,some o)::s.heap from rfl,bZ,if_neg (by omega)];exact h),[s.next],rfl,?_,fun id hid=>?_⟩
 .refine HR.vT (n':=s.next+1) hr (bg _) (aS _) (gm.new _) (fun i hi=>?_) fun o' ho'=>?_
  .rcases hu with rfl|⟨rfl,_⟩
   .rw [aX,cE,if_neg fun e=>hi e.symm]
   .rfl
  .obtain rfl:=aa ho';refine⟨?_,hko⟩;rcases hu with rfl|⟨rfl,hu⟩
   .rw [aX,cE,if_pos rfl];exact hb rfl
   .exact hu _
 .intro p hp;rcases hu with rfl|⟨rfl,_⟩
  .obtain rfl:=am.1 hp;simp
  .simp at hp
 .simp only[gk];rw[bZ,if_neg fun e=>hid (by simp[e])]
theorem mT.vT{s:S2}{id:Nat}{o o':O}{b:Option Ob}{x:TV}{v:V}{ap l:List Nat}(hr:HR s.next h1 s.heap)(ho:fO s.heap id=some o)(hs:nI o o')(hb:qf ((id,some o')::s.heap) o' b)(hko:xm s.next ((id,some o')::s.heap) o')
  (hx:dV ((id,some o')::s.heap) v x) (hk:dC s.next ((id,some o')::s.heap) v) (hl:∀i∈ap,i∈l):mT s (cX s id (some o')) h1 x [(id,b)] ap s.next v l:=by
 refine⟨hx,hk,?_,gm.vT ho hs,rfl,rfl,ak _,ak _,hl,fun i _ h=>(by rw[show(cX s id (some o')).heap=(id,some o')::s.heap from rfl,bZ,if_neg (fun e=>by rw[e,h]at ho;cases ho)];exact h),[id],rfl,fun p hp=>?_,fun i hi=>?_⟩
 .refine HR.vT hr (ak _) (hr.ob id o ho).1 (gm.vT ho hs) (fun i hi=>?_) fun o2 ho2=>?_
  .rw [aX,cE,if_neg fun e=>hi e.symm]
  .obtain rfl:=aa ho2;rw[aX,cE,if_pos rfl];exact⟨hb,hko⟩
 .obtain rfl:=am.1 hp;simp
 .simp only[cX];rw[bZ,if_neg fun e=>hi (by simp[e])]
def jH(h:H2)(id:Nat):Prop:=(∃t v,fO h id=some (.ar t .nil v)\/fO h id=some (.im t .nil v))\/∃t ln,fO h id=some (.rw t .nil ln)
theorem tf{id ver:Nat}{t:Ty}{l:List (El t)}(ho:fO h id=some (.ar t (.mk l) ver)\/fO h id=some (.im t (.mk l) ver)):¬jH h id:=by
 rintro(⟨u,v',e⟩|⟨u,ln,e⟩)
 .rcases ho with ho|ho<;>rcases e with e|e<;>rw[ho]at e<;>simp at e
  all_goals
   obtain⟨rfl,e,_⟩:=e;cases eq_of_heq e
 .rcases ho with ho|ho<;>rw[ho]at e<;>cases e
theorem HU{id:Nat}{t:Ty}{l:List (Sl (El t))}{ln:Option (Nat×Nat)}(ho:fO h id=some (.rw t (.mk l) ln)):¬jH h id:=by
 rintro(⟨u,v',e⟩|⟨u,ln',e⟩)
 .rcases e with e|e<;>rw[ho]at e<;>cases e
 .rw [ho]at e;cases e
theorem lP(k:Nat)(x:D):cW h1 k (.d x)=some (x,[]):=by cases k<;>rfl
theorem pV:∀(ds:List D),cH h1 (ds.map .d)=some (ds,[]):=by intro ds;induction ds with|nil=>rfl|cons d ds ih=>simp[cH,lP,ih]
theorem l_{a b:List C}{x y:List D}{i j:List Nat}(ha:cH h1 a=some (x,i))(hb:cH h1 b=some (y,j)):cH h1 (a++b)=some (x++y,i++j):=by
 induction a generalizing x i with
 |nil=>obtain⟨rfl,rfl⟩:[]=x/\[]=i:=by simpa[cH]using ha
       simpa using hb
 |cons c a ih=>
  simp only[cH]at ha;split at ha
  .rename_i p q r s hp hq;obtain⟨rfl,rfl⟩:=ad (aa ha);simp only[aJ,cH,hp,ih hq,aO]
  .simp at ha
theorem xu{id sz lo len:Nat}{rows:List (List D)}(k:Nat)(ho:au h1 id=some (.aH sz rows)\/au h1 id=some (.lB sz rows))(hl:lo+len<=rows.length)(szo:Nat):
  cW h1 k (.dq szo id lo len)=some (.sl szo ((rows.drop lo).take len),[id]):=by
 rcases ho with ho|ho<;>(cases k<;>simp only[cW,ho,if_pos hl])
theorem G6{id ver:Nat}{t:Ty}{s:Sl (El t)}(k:Nat)(hr:HR n h1 h)(ho:fO h id=some (.ar t s ver)\/fO h id=some (.im t s ver)):
  ∃ap,cW h1 k (jm (bC t) (aN t) id s)=some (pF (bC t) (aN t) s,ap)/\(∀i∈ap,i=id/\¬jH h i)/\(id∈ap\/jH h id):=by
 cases s with
 |nil=>exact⟨[],lP k _,fun i hi=>by simp at hi,.inr (.inl ⟨t,ver,ho⟩)⟩
 |mk l=>
  have hb:au h1 id=some (.aH (bC t) (l.map (aN t)))\/au h1 id=some (.lB (bC t) (l.map (aN t))):=by
   rcases ho with ho|ho
   .exact .inl ((hr.ob id _ ho).2.1.2.2 l rfl)
   .exact .inr ((hr.ob id _ ho).2.1.2.2 l rfl)
  refine⟨[id],?_,fun i hi=>by obtain rfl:=am.1 hi;exact⟨rfl,tf ho⟩,.inl (by simp)⟩;have:=xu (lo:=0) (len:=(l.map (aN t)).length) k hb (by omega) (bC t);rw[o3]at this;exact this
theorem G7{id ver lo:Nat}{t:Ty}{r:Sl (El t)}(k:Nat)(hr:HR n h1 h)(hk:dC n h (.sb id ver lo t r))(ha:uf h id ver=true):
  ∃ap,cW h1 k (rV id lo t r)=some (pF (bC t) (aN t) r,ap)/\(∀i∈ap,i=id/\¬jH h i)/\(id∈ap\/jH h id):=by
 obtain⟨u,s,ho⟩:=iK ha;obtain⟨_,hc⟩:=hk.2 u s ver ho;obtain⟨hz,hc⟩:=hc rfl;cases r with
 |nil=>cases s with|nil=>exact⟨[],lP k _,fun i hi=>by simp at hi,.inr (.inl ⟨u,ver,ho⟩)⟩|mk l=>exact hc.elim
 |mk m=>
  cases s with
  |nil=>exact hc.elim
  |mk l=>
   obtain⟨hl,he⟩:=hc
   have hb:au h1 id=some (.aH (bC u) (l.map (aN u)))\/au h1 id=some (.lB (bC u) (l.map (aN u))):=by
    rcases ho with ho|ho
    .exact .inl ((hr.ob id _ ho).2.1.2.2 l rfl)
    .exact .inr ((hr.ob id _ ho).2.1.2.2 l rfl)
   refine⟨[id],?_,fun i hi=>by obtain rfl:=am.1 hi;exact⟨rfl,tf ho⟩,.inl (by simp)⟩;have:=xu (lo:=lo) (len:=(m.map (aN t)).length) k hb (by simpa using hl) (bC t);rw[show(m.map (aN t)).length=m.length by simp,he]at this;simpa[rV,pF]using this
theorem uR{t:Ty}:∀(l:List (Sl (El t))),me (bC t) (l.map (kQ t))=some (l.map (aN (.sl t))):=by intro l;induction l with|nil=>rfl|cons s l ih=>simp only[aq,me,ih];cases s<;>rfl
theorem G5{id:Nat}{t:Ty}{s:Sl (Sl (El t))}(k:Nat)(hr:HR n h1 h)(ho:fO h id=some (.rw t s none)):
  ∃ap,cW h1 k (jm 1 (aN (.sl t)) id s)=some (pF 1 (aN (.sl t)) s,ap)/\(∀i∈ap,i=id/\¬jH h i)/\(id∈ap\/jH h id):=by
 cases s with
 |nil=>exact⟨[],lP k _,fun i hi=>by simp at hi,.inr (.inr ⟨t,none,ho⟩)⟩
 |mk l=>
  have hb:=(hr.ob id _ ho).2.1.2.2 l rfl;refine⟨[id],?_,fun i hi=>by obtain rfl:=am.1 hi;exact⟨rfl,HU ho⟩,.inl (by simp)⟩;have e:((l.map (aN (.sl t))).length)=(du t l none).length:=by simp[du]
  have hs:me (bC t) (du t l none)=some (l.map (aN (.sl t))):=uR l;cases k<;>simp only[jm,pF,cW,hb,hs,e,and_self,if_true]
theorem ou(hr:HR n h1 h):∀(v w:V)(l:List Nat)(cs:List C),gb h v=some (w,l)->dE h v cs->dC n h v->ft h v=true->
  ∃ds ap,cH h1 cs=some (ds,ap)/\dE h w (ds.map .d)/\(∀i∈ap,i∈l/\¬jH h i)/\(∀i∈l,i∈ap\/jH h i)/\(∀i∈l,i<n/\((∃t s v,fO h i=some (.ar t s v)\/fO h i=some (.im t s v))\/∃t s,fO h i=some (.rw t s none))):=by
 have done:∀(v:V)(ds:List D),dE h v (ds.map .d)->∃ds' ap,cH h1 (ds.map .d)=some (ds',ap)/\dE h v (ds'.map .d)/\(∀i∈ap,i∈([]:List Nat)/\¬jH h i)/\(∀i∈([]:List Nat),i∈ap\/jH h i)/\(∀i∈([]:List Nat),i<n/\((∃t s v,fO h i=some (.ar t s v)\/fO h i=some (.im t s v))\/∃t s,fO h i=some (.rw t s none))):=fun v ds hv=>⟨ds,[],pV ds,hv,fun i hi=>by simp at hi,fun i hi=>by simp at hi,fun i hi=>by simp at hi⟩;intro v;induction v with
 |so id=>
  intro w l cs hf hv hk ha;simp only[gb]at hf;split at hf
  .rename_i t s l' hs;obtain⟨rfl,rfl⟩:=ad (aa hf);obtain⟨ver,ho,e⟩:=pE hs;have e:l'=[id]:=e;subst e;obtain⟨c,rfl,hc,_⟩:=hv;rw[hc _ (jl ho)];obtain⟨ap,q1,q2,q3⟩:=G6 300 hr ho;have hd:gT t=true:=by rcases ho with ho|ho<;>exact(hr.ob id _ ho).2.1.1
   refine⟨[pF (bC t) (aN t) s],ap,by simp[cH,q1],⟨hd,rfl⟩,fun i hi=>⟨by simpa using(q2 i hi).1,(q2 i hi).1▸(q2 i hi).2⟩,fun i hi=>?_,fun i hi=>?_⟩
   .obtain rfl:=am.1 hi;exact q3
   .obtain rfl:=am.1 hi;exact⟨hk,.inl ⟨t,s,ver,ho⟩⟩
  .simp at hf
 |sr id=>
  intro w l cs hf hv hk ha;simp only[gb]at hf;split at hf
  .rename_i t s ho;obtain⟨rfl,rfl⟩:=ad (aa hf);obtain⟨c,rfl,hc,_⟩:=hv;rw[hc _ (by rw[ho];rfl:zJ id (fO h id)=some (jm 1 (aN (.sl t)) id s))];obtain⟨ap,q1,q2,q3⟩:=G5 300 hr ho;have hd:gT t=true:=(hr.ob id _ ho).2.1.1;refine⟨[pF 1 (aN (.sl t)) s],ap,by simp[cH,q1],⟨hd,rfl⟩,fun i hi=>⟨by simpa using(q2 i hi).1,(q2 i hi).1▸(q2 i hi).2⟩,fun i hi=>?_,fun i hi=>?_⟩
   .obtain rfl:=am.1 hi;exact q3
   .obtain rfl:=am.1 hi;exact⟨hk,.inr ⟨t,s,ho⟩⟩
  .simp at hf
 |sb id ver lo t r=>
  intro w l cs hf hv hk ha;simp only[gb,o9]at hf;obtain⟨rfl,rfl⟩:=ad (aa hf);obtain⟨hd,ha⟩:=bX.1 ha;have ha:uf h id ver=true:=ha;obtain⟨c,rfl,hc,_⟩:=hv;rw[hc ha];obtain⟨ap,q1,q2,q3⟩:=G7 300 hr hk ha;obtain⟨u,s,ho⟩:=iK ha;refine⟨[pF (bC t) (aN t) r],ap,by simp[cH,q1],⟨?_,rfl⟩,fun i hi=>⟨by simpa using(q2 i hi).1,(q2 i hi).1▸(q2 i hi).2⟩,fun i hi=>?_,fun i hi=>?_⟩
  .exact hd
  .obtain rfl:=am.1 hi;exact q3
  .obtain rfl:=am.1 hi;exact⟨hk.1,.inl ⟨u,s,ver,ho⟩⟩
 |rc r ih=>
  intro w l cs hf hv hk ha;simp only[gb]at hf;split at hf
  .rename_i w' l' hw;obtain⟨rfl,rfl⟩:=ad (aa hf);exact ih w' l' cs hw hv hk ha
  .simp at hf
 |co a r iha ihr=>
  intro w l cs hf hv hk ha;simp only[gb]at hf;split at hf
  .rename_i x l1 y l2 hx hy;obtain⟨rfl,rfl⟩:=ad (aa hf);obtain⟨ca,cr,rfl,h2,h3⟩:=hv;simp only[ft,ae]at ha;obtain⟨ds,ap,a1,a2,a3,a4,a5⟩:=iha x l1 ca hx h2 hk.1 ha.1;obtain⟨es,jds,b1,b2,b3,b4,b5⟩:=ihr y l2 cr hy h3 hk.2 ha.2;refine⟨ds++es,ap++jds,l_ a1 b1,⟨_,_,by simp,a2,b2⟩,fun i hi=>?_,fun i hi=>?_,fun i hi=>?_⟩
   .rcases aj.1 hi with hi|hi
    .exact ⟨aC _ (a3 i hi).1,(a3 i hi).2⟩
    .exact ⟨aA _ (b3 i hi).1,(b3 i hi).2⟩
   .rcases aj.1 hi with hi|hi
    .exact (a4 i hi).imp (aC _) id
    .exact (b4 i hi).imp (aA _) id
   .rcases aj.1 hi with hi|hi
    .exact a5 i hi
    .exact b5 i hi
  .simp at hf
 |x t v=>intro w l cs hf hv hk ha;obtain⟨rfl,rfl⟩:=ad (aa hf);obtain⟨hd,rfl⟩:=hv;exact done _ _ ⟨hd,rfl⟩
 |kb c=>intro w l cs hf hv hk ha;obtain⟨rfl,rfl⟩:=ad (aa hf);obtain rfl:=hv;exact done (.kb c) [_] rfl
 |nl k=>intro w l cs hf hv hk ha;obtain⟨rfl,rfl⟩:=ad (aa hf);obtain rfl:=hv;exact done (.nl k) [_] rfl
 |fl q=>
  intro w l cs hf hv hk ha;obtain⟨rfl,rfl⟩:=ad (aa hf);obtain⟨hp,rfl⟩:=hv;have e:dk q=(q.map D.lit).map C.d:=by simp[dk]
  rw[e];exact done (.fl q) (q.map D.lit) ⟨hp,e.symm⟩
 |ni=>intro w l cs hf hv hk ha;obtain⟨rfl,rfl⟩:=ad (aa hf);obtain rfl:=hv;exact done .ni [] rfl
 |pt t v=>intro w l cs hf hv hk ha;obtain⟨rfl,rfl⟩:=ad (aa hf);obtain⟨hd,rfl⟩:=hv;exact done (.pt t v) [_] ⟨hd,rfl⟩
 |fn z f q ih=>intro w l cs hf hv hk ha;cases z with|true=>obtain⟨rfl,rfl⟩:=ad (aa hf);obtain⟨ds,hd,rfl⟩:=hv;exact done (.fn true f q) [_] ⟨ds,hd,rfl⟩|false=>simp[gb]at hf
 |_=>intro w l cs hf hv hk ha;simp[gb]at hf
theorem rU:∀(ds:List D)(k:Nat),ds.length<k->eh h1 k (ds.map .d)=some (ds,[]):=by
 intro ds;induction ds with
 |nil=>intro k hk;cases k<;>rfl
 |cons d ds ih=>intro k hk;cases k with|zero=>simp at hk|succ k=>simp only[aq,eh,lP];rw[ih k (by simpa using hk)];rfl
theorem qY{H:bl}{h0:H2}{k:Nat}(hr:HR k H h0)(all:List Nat){id:Nat}{o':O}(hf:wG h0 id=some o'):
  ∃o,fO h0 id=some o/\nI o o'/\(∀m g,xm m g o')/\((jH h0 id/\∀g b,qf g o' b)\/(¬jH h0 id/\∃b,gF H all id=some b/\∀g,qf g o' (some b))):=by
 unfold wG at hf;split at hf
 .rename_i t s v ho;obtain rfl:=aa hf;refine⟨_,ho,⟨ak _,rfl,rfl,rfl,fun _=>rfl⟩,fun _ _=>trivial,?_⟩;obtain⟨h1,h2,h3⟩:=(hr.ob id _ ho).2.1;cases s with|nil=>exact .inl ⟨.inl ⟨t,v,.inl ho⟩,fun g b=>⟨h1,h2,fun l e=>by cases e⟩⟩|mk l=>refine .inr ⟨tf (.inl ho),.lB (bC t) (l.map (aN t)),?_,fun g=>⟨h1,h2,fun l' e=>by cases e;rfl⟩⟩;simp only[gF,h3 l rfl]
 .rename_i t s v ho;obtain rfl:=aa hf;refine⟨_,ho,⟨rfl,rfl⟩,fun _ _=>trivial,?_⟩;obtain⟨h1,h2,h3⟩:=(hr.ob id _ ho).2.1;cases s with|nil=>exact .inl ⟨.inl ⟨t,v,.inr ho⟩,fun g b=>⟨h1,h2,fun l e=>by cases e⟩⟩|mk l=>refine .inr ⟨tf (.inr ho),.lB (bC t) (l.map (aN t)),?_,fun g=>⟨h1,h2,fun l' e=>by cases e;rfl⟩⟩;simp only[gF,h3 l rfl]
 .rename_i t v ho;obtain rfl:=aa hf;obtain⟨h1,h2⟩:=(hr.ob id _ ho).2.1;refine⟨_,ho,rfl,fun _ _=>trivial,.inr ⟨?_,.kA (aN t v),?_,fun g=>⟨h1,rfl⟩⟩⟩
  .rintro (⟨u,v',e|e⟩|⟨u,v',e⟩)<;>rw[ho]at e<;>simp at e
  .simp only[gF,h2]
 .rename_i t c ho;cases hd:(gT t&&Nat.blt (bC t) 300)with
  |false=>rw[hd]at hf;simp at hf
  |true=>
   rw[hd,cond_true]at hf;simp only[ae]at hd;split at hf
   .rename_i w hw;split at hf
    .rename_i y hy;obtain rfl:=aa hf;obtain⟨cs,h1,h2,h3⟩:=(hr.ob id _ ho).2.1;have e:=fT c false t y cs hy h2;subst e;refine⟨_,ho,trivial,fun _ _=>trivial,.inr ⟨?_,.kA (aN t y),?_,fun g=>⟨hd.1,rfl⟩⟩⟩
     .rintro (⟨u,v',e|e⟩|⟨u,v',e⟩)<;>rw[ho]at e<;>simp at e
     .have hl:(aN t y).length<300:=by rw[bq];simpa using hd.2
      simp only[gF,h1,rU _ _ hl];rfl
    .simp at hf
   .simp at hf
 .simp at hf
def AX(h:H2)(id:Nat):Option O:=match fO h id with|some (.rw _ _ none)=>none|_=>wG h id
theorem rt{h0:H2}{s0:S2}(hs0:s0.heap=h0):∀(ap:List Nat)(s':S2),mm h0 ap s0=some s'->
  s'.cG=s0.cG/\s'.gh=s0.gh/\s'.next=s0.next/\s'.wo=ap++s0.wo/\(∀i∈ap,(∃o,wG h0 i=some o)\/∃t s,fO h0 i=some (.rw t s none))/\∀i,fO s'.heap i=if i∈ap then AX h0 i else fO h0 i:=by
 intro ap;induction ap with
 |nil=>intro s' hf;obtain rfl:=aa hf;exact⟨rfl,rfl,rfl,rfl,fun i hi=>by simp at hi,fun i=>by simp[hs0]⟩
 |cons id r ih=>
  intro s' hf;simp only[mm]at hf
  have fin:∀(oo:Option O)(s1:S2),mm h0 r s0=some s1->s'=cX s1 id oo->((∃o,wG h0 id=some o)\/∃t s,fO h0 id=some (.rw t s none))->AX h0 id=oo->s'.cG=s0.cG/\s'.gh=s0.gh/\s'.next=s0.next/\s'.wo=(id::r)++s0.wo/\(∀i∈id::r,(∃o,wG h0 i=some o)\/∃t s,fO h0 i=some (.rw t s none))/\∀i,fO s'.heap i=if i∈id::r then AX h0 i else fO h0 i:=by
   intro oo s1 h1 e hex hoo;subst e;obtain⟨a1,a2,a3,a4,a5,a6⟩:=ih s1 h1;refine⟨a1,a2,a3,by simp[cX,a4],fun i hi=>?_,fun i=>?_⟩
   .rcases aD.1 hi with rfl|hi
    .exact hex
    .exact a5 i hi
   .simp only[cX,bZ,a6];by_cases e:id=i
    .subst e;simp[hoo]
    .simp [e,Ne.symm e]
  split at hf
  .rename_i t s ho;split at hf
   .rename_i s1 h1;exact fin none s1 h1 (aa hf).symm (.inr ⟨t,s,ho⟩) (by simp only[AX,ho])
   .cases hf
  .rename_i hno;split at hf
   .rename_i o s1 ho h1;refine fin (some o) s1 h1 (aa hf).symm (.inl ⟨o,ho⟩) ?_;unfold AX;split
    .rename_i t s e;exact absurd e (hno t s)
    .exact ho
   .cases hf
theorem DB{H:bl}{all:List Nat}:∀(l:List Nat),(∀i∈l,∃b,gF H all i=some b)->∃u,cq H all l=some u/\∀p∈u,p.1∈l:=by
 intro l;induction l with
 |nil=>intro _;exact⟨[],rfl,fun p hp=>by simp at hp⟩
 |cons a l ih=>
  intro h;obtain⟨b,hb⟩:=h a (by simp);obtain⟨u,hu,hp⟩:=ih fun i hi=>h i (by simp[hi]);refine⟨(a,some b)::u,by simp only[cq,hb,hu],fun p hp'=>?_⟩;rcases aD.1 hp' with rfl|hp'
  .simp
  .exact av _ (hp p hp')
theorem wF{h0:H2}{s0:S2}(hs0:s0.heap=h0){H:bl}(hr:HR s0.next H h0)(ap:List Nat)(s':S2)(ids1 all:List Nat)(hf:mm h0 ap s0=some s')(hi1:∀i∈ids1,i∈ap/\¬jH h0 i)(hi2:∀i∈ap,i∈ids1\/jH h0 i):
  ∃fu,cq H all ids1=some fu/\HR s0.next (fu++H) s'.heap/\gm s0.next h0 s'.heap/\s'.cG=s0.cG/\s'.gh=s0.gh/\s'.next=s0.next/\
   s'.wo=ap++s0.wo/\(∀p∈fu,p.1∈ap)/\∀id,id∉ap->fO s'.heap id=fO s0.heap id:=by
 obtain⟨a1,a2,a3,a4,a5,a6⟩:=rt hs0 ap s' hf
 have hF:∀i o',AX h0 i=some o'->wG h0 i=some o':=fun i o' h=>by
  unfold AX at h;split at h
  .cases h
  .exact h
 obtain⟨fu,hfu,hp⟩:=DB (H:=H) (all:=all) ids1 fun i hi=>by
  rcases a5 i (hi1 i hi).1 with⟨o,ho⟩|⟨t,s,ho⟩
  .obtain ⟨_,_,_,_,h⟩:=qY hr all ho;rcases h with h|⟨_,b,hb,_⟩
   .exact absurd h.1 (hi1 i hi).2
   .exact ⟨b,hb⟩
  .cases s with|nil=>exact absurd (.inr ⟨t,none,ho⟩) (hi1 i hi).2|mk l=>have hb:=(hr.ob i _ ho).2.1.2.2 l rfl;have hs:me (bC t) (du t l none)=some (l.map (aN (.sl t))):=uR l;exact⟨.lB 1 (l.map (aN (.sl t))),by simp only[gF,hb,hs]⟩
 have dm:gm s0.next h0 s'.heap:=⟨fun i o' hi ho=>by
  rw[a6]at ho;split at ho
  .obtain ⟨o,h1,h2,_⟩:=qY hr all (hF i o' ho);exact .inl ⟨o,h1,h2⟩
  .exact .inl ⟨o',ho,nI.refl _⟩⟩
 refine⟨fu,hfu,⟨fun i o' ho=>?_⟩,dm,a1,a2,a3,a4,fun p hp'=>(hi1 _ (hp p hp')).1,fun i hi=>by rw[a6,if_neg hi,hs0]⟩;rw[a6]at ho;split at ho
 .rename_i hi;obtain⟨o,h1,_,h3,h4⟩:=qY hr all (hF i o' ho);refine⟨(hr.ob i o h1).1,?_,h3 _ _⟩;rcases h4 with h4|⟨h5,b,hb,hR⟩
  .exact h4.2 _ _
  .have hm:i∈ids1:=(hi2 i hi).resolve_right h5;obtain⟨b',hb',hl⟩:=(gS ids1 fu hfu i).1 hm;rw[hb]at hb';obtain rfl:=aa hb';rw[show au (fu++H) i=some b by simp only[au,eP,hl];rfl];exact hR _
 .rename_i hi;obtain⟨h1,h2,h3⟩:=hr.ob i o' ho;have hn:i∉ids1:=fun hm=>hi (hi1 i hm).1;refine⟨h1,?_,ku (ak _) dm h3⟩;rw[show au (fu++H) i=au H i by simp only[au,eP,(gS ids1 fu hfu i).2 hn]];exact lr dm h3 h2
theorem AW{h0:H2}{s0:S2}{ap:List Nat}{s':S2}(hs0:s0.heap=h0)(hf:mm h0 ap s0=some s'):∀i∈ap,fO h0 i≠none:=by
 intro i hi e;obtain⟨_,_,_,_,a5,_⟩:=rt hs0 ap s' hf;rcases a5 i hi with⟨o,ho⟩|⟨t,s,ho⟩
 .simp [wG,e]at ho
 .rw [e]at ho;cases ho
end
section
variable{h:H2}{n:Nat}{h1:bl}{β:Type}
theorem aI{α:Type}{c:Bool}{a:Option α}{r:α}(h:(bif c then a else none)=some r):c=true/\a=some r:=by cases c with|true=>exact⟨rfl,h⟩|false=>simp at h
theorem qM{u:dD}{i:Nat}(hu:∀p∈u,p.1≠i):au (u++h1) i=au h1 i:=by induction u with|nil=>rfl|cons p u ih=>obtain⟨a,b⟩:=p;rw[aJ,cE,if_neg (hu _ (bG ..)),ih fun p hp=>hu p (av _ hp)]
theorem mT.zK{s s':S2}{x:TV}{u:dD}{ap l:List Nat}{m:Nat}{v:V}(W:List Nat)(hr:HR s.next h1 s.heap)(dm:gm s.next s.heap s'.heap)(he:s'.cG=s.cG)(hg:s'.gh=s.gh)(hm:m<=s'.next)(hle:s.next<=s'.next)(hl:∀i∈ap,i∈l)
  (hwo:s'.wo=W++s.wo) (hu:∀p∈u,p.1∈W) (hW:∀id,id∉W->fO s'.heap id=fO s.heap id) (hob:∀i∈W,∀o,fO s'.heap i=some o->i<s'.next/\qf s'.heap o (au (u++h1) i)/\xm s'.next s'.heap o)
  (hx:dV s'.heap v x) (hk:dC s'.next s'.heap v) (hnb:∀i,i<s.next->fO s.heap i=none->fO s'.heap i=none):mT s s' h1 x u ap m v l:=by
 refine⟨hx,hk,⟨fun i o ho=>?_⟩,dm,he,hg,hm,hle,hl,hnb,W,hwo,hu,hW⟩;by_cases hi:i∈W
 .exact hob i hi o ho
 .rw [hW i hi]at ho;obtain⟨a,b,c⟩:=hr.ob i o ho;refine⟨by omega,?_,ku hle dm c⟩;rw[qM (u:=u) (i:=i) fun p hp e=>hi (e▸hu p hp)];exact lr dm c b
def rQ(h1:bl)(kk:K)(xs:List TV)(s:S2)(k:V->S2->List Nat->Option β)(z:β):Prop:=∃v s' l,k v s' l=some z/\∀c:Call,∃x u ap m,bN c kk (xs.map some) h1 s.next=some (x,u,ap,m)/\mT s s' h1 x u ap m v l
variable{s:S2}{k:V->S2->List Nat->Option β}{z:β}
theorem rQ.pure{kk:K}{xs:List TV}{v:V}{x:TV}(hr:HR s.next h1 s.heap)(hz:k v s []=some z)(he:∀c:Call,bN c kk (xs.map some) h1 s.next=some (x,[],[],s.next))(hx:dV s.heap v x)(hk:dC s.next s.heap v):rQ h1 kk xs s k z:=⟨v,s,[],hz,fun c=>⟨x,[],[],s.next,he c,mT.pure hr hx hk fun i hi=>by simp at hi⟩⟩
theorem l7{t:Ty}(h:xl t=true):gT t=true/\0<bC t:=by simpa[xl]using h
theorem rQ.new{kk:K}{xs:List TV}{v:V}{x:TV}{o:O}{b:Option Ob}{l ap:List Nat}(hr:HR s.next h1 s.heap)(hz:k v (gk s o) l=some z)(he:∀c:Call,bN c kk (xs.map some) h1 s.next=some (x,[(s.next,b)],ap,s.next+1))
  (hb:qf ((s.next,some o)::s.heap) o b) (hko:xm (s.next+1) ((s.next,some o)::s.heap) o) (hx:dV ((s.next,some o)::s.heap) v x) (hk:dC (s.next+1) ((s.next,some o)::s.heap) v) (hl:∀i∈ap,i∈l):rQ h1 kk xs s k z:=
 ⟨v,_,l,hz,fun c=>⟨x,_,ap,_,he c,mT.new hr (.inl rfl) (fun _=>hb) hko hx hk hl (ak _)⟩⟩
theorem rQ.vT{kk:K}{xs:List TV}{v:V}{x:TV}{id:Nat}{o o':O}{b:Option Ob}{l ap:List Nat}(hr:HR s.next h1 s.heap)(ho:fO s.heap id=some o)(hs:nI o o')(hz:k v (cX s id (some o')) l=some z)(he:∀c:Call,bN c kk (xs.map some) h1 s.next=some (x,[(id,b)],ap,s.next))
  (hb:qf ((id,some o')::s.heap) o' b) (hko:xm s.next ((id,some o')::s.heap) o') (hx:dV ((id,some o')::s.heap) v x) (hk:dC s.next ((id,some o')::s.heap) v) (hl:∀i∈ap,i∈l):rQ h1 kk xs s k z:=
 ⟨v,_,l,hz,fun c=>⟨x,_,ap,_,he c,mT.vT hr ho hs hb hko hx hk hl⟩⟩
theorem oW(id:Nat)(o:Option O)(h:H2):fO ((id,o)::h) id=o:=by rw[bZ,if_pos rfl]
theorem qK{t:Ty}{s:Sl (El t)}{v nx:Nat}:dV ((nx,some (.ar t s v))::h) (.so nx) (.c (jm (bC t) (aN t) nx s)):=bI (cP rfl ⟨_,rfl,fun c' hc'=>by rw[oW]at hc';exact aa hc',vY⟩)
theorem wR{x:V}{y:TV}{sz:Nat}{lo hi:Option Int}{m:Int}{q:V->Option β}(hr:HR n h1 h)(hx:dV h x y)(hk:dC n h x)(ha:ft h x=true)(hm:AL h x=some m)(hz:pg sz h x (lo.getD 0) (hi.getD m) q=some z):
  ∃v c c',y=.c c/\q v=some z/\dX false sz c lo hi=some c'/\dV h v (.c c')/\dC n h v:=by
 have fC:∀(id:Nat)(t:Ty)(w:Sl (El t))(ver:Nat),x=.so id->(fO h id=some (.ar t w ver)\/fO h id=some (.im t w ver))->(bif bC t==sz then(q8 w.l (lo.getD 0) (hi.getD m)).bind fun y=>q (.sb id ver (lo.getD 0).toNat t (w.to y))else none)=some z->
   ∃v c c',y=.c c/\q v=some z/\dX false sz c lo hi=some c'/\dV h v (.c c')/\dC n h v:=by
  rintro id t w ver rfl ho hz;obtain⟨h2,hz2⟩:=aI hz;obtain rfl:bC t=sz:=by simpa using h2
  obtain⟨r,hr',hz3⟩:=mP hz2;have e:=nP hx (jl ho);have hm':m=w.l.length:=by simp only[AL,o9]at hm;rcases ho with ho|ho<;>(rw[ho]at hm;exact(aa hm).symm)
  subst hm';refine⟨_,_,rV id (lo.getD 0).toNat t (w.to r),e,hz3,?_,?_,hk,?_⟩
  .cases w with|nil=>exact Gi hr'|mk l=>exact L9 (enc:=aN t) hr'
  .exact bI (cP rfl ⟨_,rfl,fun _=>rfl,EG⟩)
  .intro u s' v' ho'
   have e2:GZ u s'=GZ t w/\v'=ver:=by
    rcases ho with ho|ho<;>rcases ho' with ho'|ho'<;>(rw[ho]at ho';simp at ho')
    all_goals
     obtain⟨rfl,e,rfl⟩:=ho';cases eq_of_heq e;exact⟨rfl,rfl⟩
   obtain⟨e2,rfl⟩:=e2;obtain⟨rfl,e2⟩:=gp e2;cases e2;refine⟨ak _,fun _=>⟨rfl,?_⟩⟩;cases s' with|nil=>trivial|mk l=>obtain⟨h3,h4⟩:=KN (enc:=aN u) hr';simp only[aK]at h3;refine⟨h3,?_⟩;simpa using h4
 cases x with
 |x t v=>
  cases t with
  |sl t=>
   simp only[pg]at hz;obtain⟨h2,hz2⟩:=aI hz;obtain rfl:bC t=sz:=by simpa using h2
   obtain⟨r,hr',hz3⟩:=mP hz2;have hm':m=v.l.length:=by simpa[AL,o9]using hm.symm
   subst hm';refine⟨_,_,_,sw hx,hz3,KK hr',bI (cP rfl ⟨?_,rfl⟩),trivial⟩;obtain⟨_,⟨hd,_⟩,_⟩:=kP (v:=.x (.sl t) v) trivial hx;exact hd
  |_=>simp[pg]at hz
 |so id=>
  simp only[pg]at hz;split at hz
  .rename_i ho;exact fC id _ _ _ rfl (.inl ho) hz
  .rename_i ho;exact fC id _ _ _ rfl (.inr ho) hz
  .simp at hz
 |sb id ver off t v=>
  simp only[pg]at hz;obtain⟨h2,hz2⟩:=aI hz;obtain rfl:bC t=sz:=by simpa using h2
  obtain⟨r,hr',hz3⟩:=mP hz2;have hm':m=v.l.length:=by simpa[AL,o9]using hm.symm
  subst hm';refine⟨_,_,rV id (off+(lo.getD 0).toNat) t (v.to r),mb hx ha,hz3,?_,bI (cP rfl ⟨_,rfl,fun _=>rfl,EG⟩),hk.1,?_⟩
  .cases v with|nil=>exact Gi hr'|mk l=>obtain⟨h3,rfl⟩:=mN.1 hr';simp only[Sl.l]at h3;simp only[rV,dX,Bool.false_eq_true,if_false,Sl.to,Sl.l,aK];rw[if_pos ⟨trivial,h3⟩];simp;omega
  .intro u s' v' ho;obtain⟨h3,h4⟩:=hk.2 u s' v' ho;refine⟨h3,fun e=>?_⟩;obtain⟨h5,h6⟩:=h4 e;refine⟨h5,?_⟩;cases s' with
   |nil=>cases v<;>first|trivial|exact h6.elim
   |mk l=>
    cases v with
    |nil=>exact h6.elim
    |mk w=>
     obtain⟨h7,h8⟩:=h6;obtain⟨h9,rfl⟩:=mN.1 hr';simp only[Sl.l]at h9;show off+(lo.getD 0).toNat+((w.drop (lo.getD 0).toNat).take _).length<=l.length/\((l.map (aN u)).drop (off+(lo.getD 0).toNat)).take ((w.drop (lo.getD 0).toNat).take _).length=((w.drop (lo.getD 0).toNat).take _).map (aN t);generalize hA:(lo.getD 0).toNat=A;generalize hB:((hi.getD (Sl.l (Sl.mk w)).length).toNat-A)=B;have hle:A+B<=w.length:=by subst hA hB;simp only[Sl.l];omega
     have hlen:((w.drop A).take B).length=B:=by simp;omega
     refine⟨by omega,?_⟩;rw[hlen,eX,ez,<-h8,List.drop_take,cj,List.take_take];congr 1;omega
 |nl k=>
  cases k with
  |zero=>
   simp only[pg]at hz;obtain⟨r,hr',hz3⟩:=mP hz;have hm':m=0:=by simpa[AL]using hm.symm
   subst hm';exact⟨_,_,_,qy hx,hz3,Gi (α:=Unit) (by simpa[Sl.l]using hr'),bI (cP rfl rfl),trivial⟩
  |succ k=>simp[pg]at hz
 |_=>simp[pg]at hz
theorem Ca:∀(p:lN)(t a:Ty)(l m:Nat),mU t p=some (.ar l a)->m<l->Df t p->Df t (p++[.ix m])/\jM t (p++[.ix m])=jM t p+m*bC a:=by
 intro p;induction p with
 |nil=>
  intro t a l m h1 hm _;have e:mU t []=some t:=by cases t<;>rfl
  obtain rfl:t=.ar l a:=by rw[e]at h1;exact aa h1
  refine⟨⟨hm,by cases a<;>trivial⟩,?_⟩;simp only[aY,jM];cases a<;>simp[jM]
 |cons q p ih=>
  intro t a l m h1 hm h3;cases q with
  |fd j=>cases t with|st t=>obtain⟨b2,hb,h3⟩:=h3;simp only[mU,hb]at h1;obtain⟨q1,q2⟩:=ih b2 a l m h1 hm h3;refine⟨⟨b2,hb,q1⟩,?_⟩;simp only[aJ,jM,hb,q2];exact(cg _ _ _).symm|_=>exact h3.elim
  |ix k=>cases t with|ar l' t=>obtain⟨hk,h3⟩:=h3;obtain⟨q1,q2⟩:=ih t a l m h1 hm h3;refine⟨⟨hk,q1⟩,?_⟩;simp only[aJ,jM,q2];exact(cg _ _ _).symm|_=>exact h3.elim
theorem J7{id:Nat}{t u:Ty}{w:Sl (El t)}{w':Sl (El u)}{v v':Nat}(ho:fO h id=some (.ar t w v)\/fO h id=some (.im t w v))(ho':fO h id=some (.ar u w' v')\/fO h id=some (.im u w' v')):GZ u w'=GZ t w/\v'=v:=by
 rcases ho with ho|ho<;>rcases ho' with ho'|ho'<;>(rw[ho]at ho';simp at ho')
 all_goals
  obtain⟨rfl,e,rfl⟩:=ho';cases eq_of_heq e;exact⟨rfl,rfl⟩
theorem Fa{id:Nat}{t u:Ty}{w:Sl (El t)}{w':Sl (El u)}{v v':Nat}(ho:fO h id=some (.ar t w v)\/fO h id=some (.im t w v))(ho':fO h id=some (.ar u w' v')\/fO h id=some (.im u w' v')):w'.l.length=w.l.length:=by obtain⟨e,_⟩:=J7 ho ho';obtain⟨rfl,e⟩:=gp e;cases e;rfl
theorem Ja{c:C}{t:Ty}{id m sz:Nat}{w:Sl (El t)}{i:Int}{kd:IntKind}{cl:Call}{nx:Nat}(hc:c=jm (bC t) (aN t) id w)(hsz:bC t=sz)(hi:nh i w.l.length=some m):
  bN cl (.indexAddr none sz) [some (.c c),some (tI kd i)] h1 nx=some (.c (.ep id m 0),[],[],nx):=by
 subst hc hsz;cases w with|nil=>exact FF hi|mk l=>exact Na hi
theorem L7{t:Ty}{v:El t}{x:TV}(hx:dV h (.x t v) x):gT t=true:=by obtain⟨_,⟨hd,_⟩,_⟩:=kP (v:=.x t v) trivial hx;exact hd
theorem Nr{n':Nat}{t:Ty}{v:El (.ar n' t)}{x:TV}(hx:dV h (.x (.ar n' t) v) x):x=.agg ((aN (.ar n' t) v).map .d):=by obtain⟨cs,⟨_,rfl⟩,h2,_⟩:=kP (v:=.x (.ar n' t) v) trivial hx;exact h2 rfl
theorem zB{n' m:Nat}{t:Ty}(v:El (.ar n' t))(hm:m<n'):m*bC t+bC t<=(aN (.ar n' t) v).length/\((aN (.ar n' t) v).drop (m*bC t)).take (bC t)=aN t (gt v.1 m):=by have hl:v.1.length=n':=v.2;refine⟨?_,tL (bq t) v.1 m (by omega)⟩;rw[bq];show _<=n'*bC t;have:(m+1)*bC t<=n'*bC t:=Nat.mul_le_mul_right _ hm;rw[bv,Nat.one_mul]at this;exact this
theorem FH{x:V}{y:TV}{sz:Nat}{i:Int}{kd:IntKind}
  (hz:(match x with
  |.x (.sl t) v=>bif bC t==sz then(nh i v.l.length).bind fun m=>k (.pt t (gt v.l m)) s []else none
  |.so id=>(match o9 s.heap (.so id)with|some ⟨t,v,_⟩=>bif bC t==sz then(nh i v.l.length).bind fun m=>k (.ep id m t []) s []else none|none=>none)
  |.sb id _ lo t v=>bif bC t==sz then(nh i v.l.length).bind fun m=>k (.ep id (lo+m) t []) s []else none
  |.sr id=>(match fO s.heap id with|some (.rw t v _)=>bif 1==sz then(nh i v.l.length).bind fun m=>k (.ep id m (.sl t) []) s []else none|_=>none)
  |_=>none)=some z)
  (hr:HR s.next h1 s.heap) (hx:dV s.heap x y) (hk:dC s.next s.heap x) (ha:ft s.heap x=true):rQ h1 (.indexAddr none sz) [y,tI kd i] s k z:=by
 cases x with
 |x t v=>
  cases t with
  |sl t=>
   simp only at hz;obtain⟨h2,hz2⟩:=aI hz;obtain⟨m,hm,hz3⟩:=mP hz2;obtain rfl:bC t=sz:=by simpa using h2
   rw[sw hx];exact .pure hr hz3 (x:=.c (.d (.pt (aN t (gt (Sl.l v) m))))) (fun _=>LO hm) (bI (cP rfl ⟨L7 (t:=.sl t) hx,rfl⟩)) trivial
  |_=>simp at hz
 |so id=>
  simp only at hz;split at hz
  .rename_i t v l hs;obtain⟨h2,hz2⟩:=aI hz;obtain⟨m,hm,hz3⟩:=mP hz2;obtain⟨ver,ho,_⟩:=pE hs;simp only at ho;rw[nP hx (jl ho)];refine .pure hr hz3 (x:=.c (.ep id m 0)) (fun _=>Ja rfl (by simpa using h2) hm) (bI (cP rfl (by cases t<;>rfl))) ⟨hk,by cases t<;>trivial,fun u w' v' ho'=>?_,fun u w' v' ho'=>?_⟩
   .have:=(hC.1 hm).2;rw[Fa ho ho'];exact this
   .rcases ho with ho|ho<;>rw[ho]at ho'<;>cases ho'
  .simp at hz
 |sr id=>
  simp only at hz;split at hz
  .rename_i t v ln ho;obtain⟨h2,hz2⟩:=aI hz;obtain⟨m,hm,hz3⟩:=mP hz2;rw[Ep hx (nU ho)];refine .pure hr hz3 (x:=.c (.ep id m 0)) (fun _=>Ja (t:=.sl t) rfl (Eq.trans (rfl:bC (.sl t)=1) (beq_iff_eq.1 h2)) hm) (bI (cP rfl rfl)) ⟨hk,trivial,fun u w' v' ho'=>?_,fun u w' v' ho'=>?_⟩
   .rw [ho]at ho';rcases ho' with ho'|ho'<;>cases ho'
   .rw [ho]at ho';cases ho';exact(hC.1 hm).2
  .simp at hz
 |sb id ver lo t v=>
  simp only at hz;obtain⟨h2,hz2⟩:=aI hz;obtain⟨m,hm,hz3⟩:=mP hz2;obtain rfl:bC t=sz:=by simpa using h2
  rw[mb hx ha];have hm2:=(hC.1 hm).2;cases v with
  |nil=>exact FF hm
  |mk w=>refine .pure hr hz3 (x:=.c (.ep id (lo+m) 0)) (fun _=>LP (l:=w) hm) (bI (cP rfl (by cases t<;>rfl))) ⟨hk.1,by cases t<;>trivial,fun u w' v' ho'=>?_,fun u w' v' ho'=>by obtain⟨u0,s0,ho⟩:=iK (h:=s.heap) (id:=id) (ver:=ver) (bX.1 ha).2;rcases ho with ho|ho<;>rw[ho]at ho'<;>cases ho'⟩;obtain⟨u0,s0,ho⟩:=iK (h:=s.heap) (id:=id) (ver:=ver) (bX.1 ha).2;obtain⟨_,h4⟩:=hk.2 u0 s0 ver ho;obtain⟨_,h6⟩:=h4 rfl;rw[Fa ho ho'];cases s0 with|nil=>exact h6.elim|mk l=>have:=h6.1;simp only[Sl.l]at hm2|-;omega
 |_=>simp at hz
theorem FG{x:V}{y:TV}{n0 sz:Nat}{i:Int}{kd:IntKind}
  (hz:(match x with
  |.op id t p=>(match mU t p with|some (.ar n' u)=>bif(n'==n0)&&(bC u==sz)then(nh i n0).bind fun m=>k (.op id t (p++[.ix m])) s []else none|_=>none)
  |.ep id q t p=>(match mU t p with|some (.ar n' u)=>bif(n'==n0)&&(bC u==sz)then(nh i n0).bind fun m=>k (.ep id q t (p++[.ix m])) s []else none|_=>none)
  |.pt (.ar n' u) v=>bif(n'==n0)&&(bC u==sz)then(nh i n0).bind fun m=>k (.pt u (gt v.1 m)) s []else none
  |_=>none)=some z)
  (hr:HR s.next h1 s.heap) (hx:dV s.heap x y) (hk:dC s.next s.heap x):rQ h1 (.indexAddr (some n0) sz) [y,tI kd i] s k z:=by
 cases x with
 |op id t p=>
  simp only at hz;split at hz
  .rename_i n' u hu;obtain⟨h2,hz2⟩:=aI hz;obtain⟨m,hm,hz3⟩:=mP hz2;simp only[ae,beq_iff_eq]at h2;obtain⟨rfl,rfl⟩:=h2;obtain⟨rfl,hm2⟩:=hC.1 hm;obtain⟨q1,q2⟩:=Ca p t u n' m hu hm2 hk.2;rw[qx hx];refine .pure hr hz3 (x:=.c (.op id (jM t p+m*bC u))) (fun _=>?_) (bI (cP rfl ?_)) ⟨hk.1,q1⟩
   .simp only[jf,bN,bL,fG];rw[if_pos ⟨by omega,by omega⟩];simp
   .show [_]=[_];rw[q2]
  .simp at hz
 |ep id q t p=>
  simp only at hz;split at hz
  .rename_i n' u hu;obtain⟨h2,hz2⟩:=aI hz;obtain⟨m,hm,hz3⟩:=mP hz2;simp only[ae,beq_iff_eq]at h2;obtain⟨rfl,rfl⟩:=h2;obtain⟨rfl,hm2⟩:=hC.1 hm;obtain⟨q1,q2⟩:=Ca p t u n' m hu hm2 hk.2.1;rw[nQ hx];refine .pure hr hz3 (x:=.c (.ep id q (jM t p+m*bC u))) (fun _=>?_) (bI (cP rfl ?_)) ⟨hk.1,q1,hk.2.2⟩
   .simp only[jf,bN,bL,fG];rw[if_pos ⟨by omega,by omega⟩];simp
   .show [_]=[_];rw[q2]
  .simp at hz
 |pt t v=>cases t with|ar n' u=>simp only at hz;obtain⟨h2,hz2⟩:=aI hz;obtain⟨m,hm,hz3⟩:=mP hz2;simp only[ae,beq_iff_eq]at h2;obtain⟨rfl,rfl⟩:=h2;obtain⟨rfl,hm2⟩:=hC.1 hm;obtain⟨hd,rfl⟩:=sx hx;obtain⟨a1,a2⟩:=zB v hm2;refine .pure hr hz3 (x:=.c (.d (.pt (aN u (gt v.1 m))))) (fun _=>?_) (bI (cP rfl ⟨hd,rfl⟩)) trivial;simp only[jf,bN,bL,fG];rw[if_pos ⟨by omega,by omega⟩];simp only[Int.toNat_natCast];rw[if_pos a1,a2]|_=>simp at hz
 |_=>simp at hz
end
section
variable{h:H2}{n:Nat}{h1:bl}{β:Type}{s:S2}{k:V->S2->List Nat->Option β}{z:β}
theorem wU{t u:Ty}{m:Sl (El t)}{m':Sl (El u)}(hc:ew (.sl t) (.sl u) m=some m'):t=u/\m'.l.map (aN u)=m.l.map (aN t):=by obtain⟨e,rfl⟩:=bV hc;cases e;exact⟨rfl,rfl⟩
theorem JI{c:C}{t:Ty}{id sz:Nat}{w:Sl (El t)}{ver:Nat}(hr:HR n h1 h)(hc:c=jm (bC t) (aN t) id w)(hsz:bC t=sz)(ho:fO h id=some (.ar t w ver)\/fO h id=some (.im t w ver)):
  ∃ap,ga sz h1 c=some (w.l.map (aN t),ap)/\∀i∈ap,i=id:=by
 subst hc hsz;cases w with
 |nil=>exact⟨[],rfl,fun i hi=>by simp at hi⟩
 |mk l=>
  refine⟨[id],?_,fun i hi=>by simpa using hi⟩;rcases ho with ho|ho
  .have hb:=(hr.ob id _ ho).2.1.2.2 l rfl;simp only[jm,ga,hb];rw[if_pos ⟨trivial,by simp⟩,o3];rfl
  .have hb:=(hr.ob id _ ho).2.1.2.2 l rfl;simp only[jm,ga,hb];rw[if_pos ⟨trivial,by simp⟩,o3];rfl
theorem Hq{id lo ver sz:Nat}{t:Ty}{r:Sl (El t)}(hr:HR n h1 h)(hk:dC n h (.sb id ver lo t r))(ha:ft h (.sb id ver lo t r)=true)(hsz:bC t=sz):
  ∃ap,ga sz h1 (rV id lo t r)=some (r.l.map (aN t),ap)/\∀i∈ap,i=id:=by
 subst hsz;obtain⟨u,s0,ho⟩:=iK (h:=h) (id:=id) (ver:=ver) (bX.1 ha).2;obtain⟨_,h4⟩:=hk.2 u s0 ver ho;obtain⟨h5,h6⟩:=h4 rfl;cases r with
 |nil=>exact⟨[],rfl,fun i hi=>by simp at hi⟩
 |mk w=>
  cases s0 with
  |nil=>exact h6.elim
  |mk l=>
   refine⟨[id],?_,fun i hi=>by simpa using hi⟩
   have hb:au h1 id=some (.aH (bC u) (l.map (aN u)))\/au h1 id=some (.lB (bC u) (l.map (aN u))):=by
    rcases ho with ho|ho
    .exact .inl ((hr.ob id _ ho).2.1.2.2 l rfl)
    .exact .inr ((hr.ob id _ ho).2.1.2.2 l rfl)
   rcases hb with hb|hb
   .simp only[rV,ga,hb];rw[if_pos ⟨trivial,by simpa using h6.1⟩];rw[aK,h6.2];rfl
   .simp only[rV,ga,hb];rw[if_pos ⟨trivial,by simpa using h6.1⟩];rw[aK,h6.2];rfl
theorem BN{x:V}{y:TV}{t0 t:Ty}{m:Sl (El t)}{l:List Nat}{sz:Nat}(hr:HR n h1 h)(hx:dV h x y)(hk:dC n h x)(ha:ft h x=true)(hs:EC t0 h x=some ⟨t,m,l⟩)(hsz:bC t=sz):
  ∃c ap,y=.c c/\ga sz h1 c=some (m.l.map (aN t),ap)/\∀i∈ap,i∈l:=by
 cases x with
 |nl j=>cases j with|zero=>simp only[EC]at hs;obtain⟨rfl,e⟩:=gp (aa hs);obtain⟨rfl,rfl⟩:=ad (eq_of_heq e);exact⟨_,[],qy hx,rfl,fun i hi=>by simp at hi⟩|succ j=>simp[EC,o9]at hs
 |x u v=>cases u with|sl u=>simp only[EC,o9]at hs;obtain⟨rfl,e⟩:=gp (aa hs);obtain⟨rfl,rfl⟩:=ad (eq_of_heq e);subst hsz;exact⟨_,[],sw hx,Ho,fun i hi=>by simp at hi⟩|_=>simp[EC,o9]at hs
 |so id=>obtain⟨ver,ho,e⟩:=pE (h:=h) (id:=id) hs;obtain rfl:l=[id]:=e;obtain⟨ap,q1,q2⟩:=JI hr rfl hsz ho;exact⟨_,ap,nP hx (jl ho),q1,fun i hi=>by simpa using q2 i hi⟩
 |sb id ver lo u r=>simp only[EC,o9]at hs;obtain⟨rfl,e⟩:=gp (aa hs);obtain⟨rfl,rfl⟩:=ad (eq_of_heq e);obtain⟨ap,q1,q2⟩:=Hq hr hk ha hsz;exact⟨_,ap,mb hx ha,q1,fun i hi=>by simpa using q2 i hi⟩
 |_=>simp[EC,o9]at hs
def pm(s:S2):Option Nat->S2
 |none=>s
 |some id=>cX s id none
theorem w8{i_:Option Nat}{t:Ty}{w:Sl (El t)}{u:dD}{ap l:List Nat}{m:Nat}(hr:HR s.next h1 s.heap)(hkl:∀id,i_=some id->id<s.next)(hd:xl t=true)(hu:∀p∈u,p.1=s.next\/i_=some p.1)(hl:∀i∈ap,i∈l)(hm:m<=s.next+1)
  (hb:∀l,w=.mk l->au (u++h1) s.next=some (.aH (bC t) (l.map (aN t)))) {x:TV} (hx:x=.c (jm (bC t) (aN t) s.next w)):mT s (gk (pm s i_) (.ar t w 0)) h1 x u ap m (.so s.next) l:=by
 have hnx:(pm s i_).next=s.next:=by cases i_<;>rfl
 have hh:(gk (pm s i_) (.ar t w 0)).heap=(s.next,some (.ar t w 0))::(pm s i_).heap:=by simp only[gk,hnx]
 have hfo:∀i,fO (gk (pm s i_) (.ar t w 0)).heap i=if s.next=i then some (.ar t w 0)else if i_=some i then none else fO s.heap i:=by intro i;rw[hh,bZ];cases i_ with|none=>simp[pm]|some id=>simp only[pm,cX,bZ,bH]
 have hnn:(gk (pm s i_) (.ar t w 0)).next=s.next+1:=by simp only[gk,hnx]
 refine mT.zK (s.next::i_.toList) hr ⟨fun i o' hi ho=>?_⟩ ?_ ?_ ?_ ?_ hl ?_ ?_ ?_ ?_ ?_ ?_ (fun i hi h=>by rw[hfo,if_neg (by omega)];split<;>first|rfl|exact h)
 .rw [hfo,if_neg (by omega)]at ho;split at ho
  .simp at ho
  .exact .inl ⟨o',ho,nI.refl _⟩
 .cases i_<;>rfl
 .cases i_<;>rfl
 .rw [hnn];exact hm
 .rw [hnn];omega
 .cases i_<;>simp[gk,pm,cX]
 .intro p hp;rcases hu p hp with e|e
  .simp [e]
  .simp [e]
 .intro i hi;rw[hfo,if_neg (fun e=>hi (by simp[e])),if_neg (fun e=>hi (by simp[e]))]
 .intro i hi o ho;rw[hfo]at ho;split at ho
  .rename_i e;subst e;obtain rfl:=aa ho;obtain⟨h3,h4⟩:=l7 hd;exact⟨by rw[hnn];omega,⟨h3,h4,hb⟩,trivial⟩
  .rename_i e;split at ho
   .simp at ho
   .rename_i e2;rcases aD.1 hi with hi|hi
    .exact absurd hi.symm e
    .exact absurd (by simpa using hi) e2
 .rw [hx,hh,show s.next=s.next from rfl];exact qK
 .rw [hnn];exact aS _
theorem DH{sz:Nat}{c:C}{new:List (List D)}{ap:List Nat}(hx:ga sz h1 c=some (new,ap))(hl:new.length<=2147483648){nx:Nat}{cl:Call}:
  bN cl (.append sz) [some (.c (.d (.lit (.slice none 0 0)))),some (.c c)] h1 nx=if new=[]then some (.c (.d (.lit (.slice none 0 0))),[],ap,nx)else some (.c (.dq sz nx 0 new.length),[(nx,some (.aH sz new))],ap,nx+1):=by
 simp only[bN,kC,hx];rw[if_pos (by simpa[yL]using hl)];cases new<;>simp
theorem qp{i_:Option Nat}{t:Ty}{xs r:List (El t)}{sz:Nat}{c:C}{ap l:List Nat}(hr:HR s.next h1 s.heap)(hkl:∀id,i_=some id->id<s.next)(hd:xl t=true)(hsz:bC t=sz)(hx:ga sz h1 c=some (xs.map (aN t),ap))(hc:nv ([]++xs)=some r)
  (hl:∀i∈ap,i∈l) (hz:k (.so s.next) (gk (pm s i_) (.ar t (rO Sl.nil xs r) 0)) l=some z):rQ h1 (.append sz) [.c (.d (.lit (.slice none 0 0))),.c c] s k z:=by
 subst hsz;obtain⟨rfl,hlen⟩:=vG.1 hc;refine⟨_,_,_,hz,fun cl=>?_⟩;simp only[aq,aR];rw[DH hx (by simpa using hlen)];cases xs with|nil=>exact⟨_,_,_,_,rfl,w8 hr hkl hd (fun p hp=>by simp at hp) hl (bg _) (fun l e=>by cases e) rfl⟩|cons y ys=>refine⟨_,_,_,_,if_neg (by simp),w8 hr hkl hd (fun p hp=>by simp at hp;simp[hp]) hl (ak _) (fun l e=>?_) rfl⟩;simp only[rO,aY]at e;cases e;rw[aX,cE,if_pos rfl]
theorem Cs{t:Ty}{w xs r:List (El t)}{sz id off:Nat}{rows:List (List D)}{c:C}{ap l:List Nat}(hr:HR s.next h1 s.heap)(hid:id<s.next)(hd:xl t=true)(hsz:bC t=sz)(hl1:au h1 id=some (.aH sz rows))(hle:off+w.length<=rows.length)(hro:rows.length<=off+(w.length+xs.length))(he:(rows.drop off).take w.length=w.map (aN t))
  (hx:ga sz h1 c=some (xs.map (aN t),ap)) (hc:nv (w++xs)=some r) (hl:∀i∈id::ap,i∈l) (hz:k (.so s.next) (gk (cX s id none) (.ar t (rO (.mk w) xs r) 0)) l=some z):
  rQ h1 (.append sz) [.c (.dq sz id off (w.map (aN t)).length),.c c] s k z:=by
 subst hsz;obtain⟨rfl,hlen⟩:=vG.1 hc;have ea:rO (.mk w) xs (w++xs)=.mk (w++xs):=by cases xs<;>rfl
 rw[ea]at hz;refine⟨_,_,_,hz,fun cl=>⟨.c (.dq (bC t) s.next 0 ((w++xs).map (aN t)).length),[(id,none),(s.next,some (.aH (bC t) ((w++xs).map (aN t))))],id::ap,s.next+1,?_,?_⟩⟩
 .simp only[aq,aR,bN,kC,hx,hl1];simp only[aK,aZ]at hlen|-;rw[if_pos ⟨trivial,by omega,by simpa[yL]using hlen⟩,he,<-gg,List.drop_eq_nil_of_le (by omega),List.append_nil]
 .refine w8 (i_:=some id) hr (fun i e=>by cases e;exact hid) hd (fun p hp=>?_) hl (ak _) (fun l e=>?_) rfl
  .simp only[aD,fM,or_false]at hp;rcases hp with rfl|rfl<;>simp
  .cases e;rw[aJ,cE,if_neg (by omega),aX,cE,if_pos rfl]
theorem zD{a x:V}{ya yx:TV}{t0:Ty}{sz:Nat}
  (hz:(match EC t0 s.heap x with
  |some ⟨t,m,ap⟩=>bif(bC t==sz)&&xl t then(match a with
   |.nl 0=>(nv ([]++m.l)).bind fun r=>k (.so s.next) (gk s (.ar t (rO Sl.nil m.l r) 0)) ap
   |.x (.sl _) v=>bif Sl.dZ v then((nv ([]++m.l)).bind fun r=>k (.so s.next) (gk s (.ar t (rO Sl.nil m.l r) 0)) ap)else none
   |.so id=>(match fO s.heap id with
    |some (.ar u v _)=>(match ew (.sl t) (.sl u) m with
     |some m=>(nv (v.l++m.l)).bind fun r=>k (.so s.next) (gk (cX s id none) (.ar u (rO v m.l r) 0)) (id::ap)
     |none=>none)
    |_=>none)
   |.sb id _ lo u v=>(match fO s.heap id,ew (.sl t) (.sl u) m with
    |some (.ar _ s0 _),some m=>bif Nat.ble s0.l.length (lo+(v.l.length+m.l.length))then((nv (v.l++m.l)).bind fun r=>k (.so s.next) (gk (cX s id none) (.ar u (rO v m.l r) 0)) (id::ap))else none
    |_,_=>none)
   |_=>none)else none
  |none=>none)=some z)
  (hr:HR s.next h1 s.heap) (ha1:dV s.heap a ya) (ha2:dC s.next s.heap a) (ha3:ft s.heap a=true) (hx:dV s.heap x yx) (hk:dC s.next s.heap x) (ha:ft s.heap x=true):rQ h1 (.append sz) [ya,yx] s k z:=by
 split at hz
 .rename_i t m l hs;obtain⟨h2,hz2⟩:=aI hz;simp only[ae,beq_iff_eq]at h2;obtain⟨hsz,hd⟩:=h2;obtain⟨c,ap,rfl,q1,q2⟩:=BN hr hx hk ha hs hsz;clear hz;cases a with
  |nl j=>cases j with|zero=>obtain⟨r,hc,hz3⟩:=mP hz2;rw[qy ha1];exact qp (i_:=none) hr (fun _ e=>by cases e) hd hsz q1 hc q2 hz3|succ j=>simp at hz2
  |x u v=>
   cases u with
   |sl u=>obtain⟨hnil,hz3⟩:=aI hz2;obtain⟨r,hc,hz4⟩:=mP hz3;cases v with|mk=>cases hnil|nil=>obtain⟨cc,rfl,hcc⟩:=fV (v:=.x (.sl u) Sl.nil) ha1 rfl;obtain rfl:cc=yy 0:=(bK hcc.2).1;exact qp (i_:=none) hr (fun _ e=>by cases e) hd hsz q1 hc q2 hz4
   |_=>simp at hz2
  |so id=>
   simp only at hz2;split at hz2
   .rename_i u v ver ho;split at hz2
    .rename_i m' hm;obtain⟨rfl,e⟩:=wU hm;obtain⟨r,hc,hz3⟩:=mP hz2;rw[nP ha1 (jl (.inl ho))];rw[<-e]at q1;cases v with
     |nil=>exact qp (i_:=some id) hr (fun _ e=>by cases e;exact ha2) hd hsz q1 hc (fun i hi=>av _ (q2 i hi)) hz3
     |mk w=>
      have hb:=(hr.ob id _ ho).2.1.2.2 w rfl;subst hsz;refine Cs (w:=w) hr ha2 hd rfl hb (by simp) (by simp only[aK];omega) (by rw[<-aK (f:=aN t)];exact o3) q1 hc (fun i hi=>?_) hz3;rcases aD.1 hi with rfl|hi
      .exact bG ..
      .exact av _ (q2 i hi)
    .simp at hz2
   .simp at hz2
  |sb id ver lo u v=>
   simp only at hz2;split at hz2
   .rename_i u0 s0 v0 m' ho hm;obtain⟨rfl,e⟩:=wU hm;obtain⟨hgd,hz2b⟩:=aI hz2;obtain⟨r,hc,hz3⟩:=mP hz2b;rw[mb ha1 ha3];rw[<-e]at q1;cases v with
    |nil=>exact qp (i_:=some id) hr (fun _ e=>by cases e;exact ha2.1) hd hsz q1 hc (fun i hi=>av _ (q2 i hi)) hz3
    |mk w=>
     obtain⟨u1,s1,ho1⟩:=iK (h:=s.heap) (id:=id) (ver:=ver) (bX.1 ha3).2;obtain⟨_,h4⟩:=ha2.2 u1 s1 ver ho1;obtain⟨h5,h6⟩:=h4 rfl
     have ho2:fO s.heap id=some (.ar u1 s1 ver):=by
      rcases ho1 with ho1|ho1
      .exact ho1
      .rw [ho]at ho1;simp at ho1
     cases s1 with
     |nil=>exact h6.elim
     |mk l1=>
      have hb:=(hr.ob id _ ho2).2.1.2.2 l1 rfl;subst hsz;rw[h5]at hb
      refine Cs (w:=w) hr ha2.1 hd rfl hb (by simpa using h6.1) (by
       rw[ho2]at ho;obtain⟨rfl,e2,_⟩:u1=u0/\_:=by simpa using ho
       cases eq_of_heq e2;have:=fY hgd;simpa[Sl.l]using this) h6.2 q1 hc (fun i hi=>?_) hz3
      rcases aD.1 hi with rfl|hi
      .exact bG ..
      .exact av _ (q2 i hi)
   .simp at hz2
  |_=>simp at hz2
 .simp at hz
end
section
variable{h:H2}{n:Nat}{h1:bl}{β:Type}{s:S2}{k:V->S2->List Nat->Option β}{z:β}
theorem Bz{id:Nat}{o o':O}{u:dD}{x:TV}{v:V}{ap l:List Nat}(hr:HR s.next h1 s.heap)(ho:fO s.heap id=some o)(hs:nI o o')(hu:∀p∈u,p.1=id)(hb:qf ((id,some o')::s.heap) o' (au (u++h1) id))(hko:xm s.next ((id,some o')::s.heap) o')
  (hx:dV ((id,some o')::s.heap) v x) (hk:dC s.next ((id,some o')::s.heap) v) (hl:∀i∈ap,i∈l):mT s (cX s id (some o')) h1 x u ap s.next v l:=by
 refine mT.zK [id] hr (gm.vT ho hs) rfl rfl (ak _) (ak _) hl rfl (fun p hp=>by simp[hu p hp]) (fun i hi=>?_) (fun i hi o2 ho2=>?_) hx hk (fun i _ h=>by simp only[cX];rw[bZ,if_neg (fun e=>by rw[e,h]at ho;cases ho)];exact h)
 .simp only[cX];rw[bZ,if_neg fun e=>hi (by simp[e])]
 .obtain rfl:=am.1 hi;simp only[cX,oW]at ho2;obtain rfl:=aa ho2;exact⟨(hr.ob _ _ ho).1,hb,hko⟩
theorem nw{id ver:Nat}{t:Ty}{w w':Sl (El t)}{u:dD}{x:TV}{v:V}{ap l:List Nat}(hr:HR s.next h1 s.heap)(ho:fO s.heap id=some (.ar t w ver))(hn:w.dZ=w'.dZ)(hlen:w.l.length=w'.l.length)(hu:∀p∈u,p.1=id)
  (hb:∀l,w'=.mk l->au (u++h1) id=some (.aH (bC t) (l.map (aN t)))) (hx:∀g,dV g v x) (hk:∀n g,dC n g v) (hl:∀i∈ap,i∈l):mT s (cX s id (some (.ar t w' (ver+1)))) h1 x u ap s.next v l:=by
 obtain⟨h2,h3,_⟩:=(hr.ob id _ ho).2.1;exact Bz hr ho ⟨bg _,rfl,hn,hlen,fun e=>by omega⟩ hu ⟨h2,h3,hb⟩ trivial (hx _) (hk _ _) hl
theorem DQ{a x:V}{ya yx:TV}{t0:Ty}{sz:Nat}
  (hz:(match EC t0 s.heap x with
  |some ⟨t,m,ap⟩=>bif bC t==sz then(match a with
   |.nl 0=>k (.x (.i .i64) (0:Int)) s ap
   |.so id=>(match fO s.heap id with
    |some (.ar u v ver)=>(match ew (.sl t) (.sl u) m with
     |some m=>k (.x (.i .i64) ((min m.l.length v.l.length:Nat):Int)) (cX s id (some (.ar u (v.to (Gn v.l 0 v.l.length m.l)) (ver+1)))) (id::ap)
     |none=>none)
    |_=>none)
   |.sb id ver lo _ v=>(match fO s.heap id with
    |some (.ar u w ver')=>(match ew (.sl t) (.sl u) m with
     |some m=>bif ver'==ver then k (.x (.i .i64) ((min m.l.length v.l.length:Nat):Int)) (cX s id (some (.ar u (w.to (Gn w.l lo v.l.length m.l)) (ver+1)))) (id::ap)else none
     |none=>none)
    |_=>none)
   |_=>none)else none
  |none=>none)=some z)
  (hr:HR s.next h1 s.heap) (ha1:dV s.heap a ya) (ha2:dC s.next s.heap a) (ha3:ft s.heap a=true) (hx:dV s.heap x yx) (hk:dC s.next s.heap x) (ha:ft s.heap x=true):rQ h1 (.copy sz) [ya,yx] s k z:=by
 have hmem:∀{id:Nat}{ap l:List Nat},(∀i∈ap,i∈l)->∀i∈id::ap,i∈id::l:=fun q i hi=>by
  rcases aD.1 hi with rfl|hi
  .exact bG ..
  .exact av _ (q i hi)
 split at hz
 .rename_i t m l hs;obtain⟨h2,hz2⟩:=aI hz;obtain rfl:bC t=sz:=by simpa using h2
  obtain⟨c,ap,rfl,q1,q2⟩:=BN hr hx hk ha hs rfl;clear hz;cases a with
  |nl j=>cases j with|zero=>rw[qy ha1];exact⟨_,_,_,hz2,fun cl=>⟨tI .i64 0,[],ap,s.next,by simp only[aq,aR,bN,jr,yy,q1];rfl,mT.pure hr (xi _ _) trivial q2⟩⟩|succ j=>simp at hz2
  |so id=>
   simp only at hz2;split at hz2
   .rename_i u v ver ho;split at hz2
    .rename_i m' hm;obtain⟨rfl,e⟩:=wU hm;rw[nP ha1 (jl (.inl ho))];rw[<-e]at q1;cases v with
     |nil=>refine⟨_,_,_,hz2,fun cl=>⟨tI .i64 0,[],ap,s.next,by simp only[aq,aR,bN,jr,jm,q1];rfl,?_⟩⟩;exact nw hr ho rfl rfl (fun p hp=>by simp at hp) (fun l e=>by cases e) (fun g=>by simpa[Sl.l]using xi .i64 0) (fun _ _=>trivial) fun i hi=>av _ (q2 i hi)
     |mk w=>
      have hb:=(hr.ob id _ ho).2.1.2.2 w rfl;refine⟨_,_,_,hz2,fun cl=>⟨_,_,_,_,KP hb q1,?_⟩⟩;refine nw hr ho rfl ?_ (fun p hp=>by simp at hp;simp[hp]) (fun l e=>?_) (fun g=>xi _ _) (fun _ _=>trivial) (hmem q2)
      .simp only[Sl.to,Sl.l];rw[pQ (by omega)]
      .simp only[Sl.to,Sl.l]at e;cases e;rw[aX,cE,if_pos rfl];rfl
    .simp at hz2
   .simp at hz2
  |sb id ver lo u0 v=>
   simp only at hz2;split at hz2
   .rename_i u w ver' ho;split at hz2
    .rename_i m' hm;obtain⟨rfl,e⟩:=wU hm;obtain⟨h3,hz3⟩:=aI hz2;obtain rfl:ver'=ver:=by simpa using h3
     rw[mb ha1 ha3];rw[<-e]at q1;obtain⟨_,h4⟩:=ha2.2 t w ver' (.inl ho);obtain⟨h5,h6⟩:=h4 rfl;cases v with
     |nil=>cases w with|mk w=>exact h6.elim|nil=>refine⟨_,_,_,hz3,fun cl=>⟨tI .i64 0,[],ap,s.next,by simp only[aq,aR,bN,jr,rV,q1];rfl,?_⟩⟩;exact nw hr ho rfl rfl (fun p hp=>by simp at hp) (fun l e=>by cases e) (fun g=>by simpa[Sl.l]using xi .i64 0) (fun _ _=>trivial) fun i hi=>av _ (q2 i hi)
     |mk v=>
      cases w with
      |nil=>exact h6.elim
      |mk w=>
       have hb:=(hr.ob id _ ho).2.1.2.2 w rfl;refine⟨_,_,_,hz3,fun cl=>⟨tI .i64 (min m'.l.length v.length:Nat),[(id,some (.aH (bC t) ((Gn w lo v.length m'.l).map (aN t))))],id::ap,s.next,?_,?_⟩⟩
       .simp only[aq,aR,bN,jr,rV,q1,hb,<-h5];rw[if_pos ⟨trivial,by simpa using h6.1⟩];simp only[A7,aK];rfl
       .refine nw hr ho rfl ?_ (fun p hp=>by simp at hp;simp[hp]) (fun l e=>?_) (fun g=>xi _ _) (fun _ _=>trivial) (hmem q2)
        .simp only[Sl.to,Sl.l];rw[pQ h6.1]
        .simp only[Sl.to,Sl.l]at e;cases e;rw[aX,cE,if_pos rfl];rfl
    .simp at hz2
   .simp at hz2
  |_=>simp at hz2
 .simp at hz
theorem sC{g:H2}:dV g (.tp .ni) (.eU []):=⟨[],rfl,rfl⟩
theorem Bc{a:V}{ya:TV}{zz:List Value}
  (hz:(match a with
  |.sb id ver lo _ v=>(match fO s.heap id with
   |some (.ar u w ver')=>bif(ver'==ver)&&o8 (j_ u) zz&&xl u then(Iz w lo v.l.length (nO u)).bind fun w=>k (.tp .ni) (cX s id (some (.ar u w (ver+1)))) [id]else none
   |_=>none)
  |_=>none)=some z)
  (hr:HR s.next h1 s.heap) (ha1:dV s.heap a ya) (ha2:dC s.next s.heap a) (ha3:ft s.heap a=true):rQ h1 (.clear zz) [ya] s k z:=by
 cases a with
 |sb id ver lo u0 v=>
  simp only at hz;split at hz
  .rename_i u w ver' ho;obtain⟨h3,hz2⟩:=aI hz;simp only[ae,beq_iff_eq]at h3;obtain⟨⟨rfl,q1⟩,q2⟩:=h3;have q1:=mX q1;subst q1;obtain⟨hd,_⟩:=l7 q2;obtain⟨w',hw,hz3⟩:=mP hz2;rw[mb ha1 ha3];obtain⟨_,h4⟩:=ha2.2 u w ver' (.inl ho);obtain⟨h5,h6⟩:=h4 rfl;have hzl:cn (j_ u)=aN u (nO u):=(mW u hd).symm;have hlen:bC u=(j_ u).length:=by have:=congrArg iD hzl;rw[bq,cn,aK]at this;exact this.symm
   cases w with
   |nil=>simp[Iz]at hw
   |mk w=>
    cases v with
    |nil=>exact h6.elim
    |mk v=>
     simp only[Iz,bH]at hw;subst hw;have hb:=(hr.ob id _ ho).2.1.2.2 w rfl;refine⟨_,_,_,hz3,fun cl=>⟨.eU [],[(id,some (.aH (bC u) ((Gn w lo v.length (aw v.length (nO u))).map (aN u))))],[id],s.next,?_,?_⟩⟩
     .simp only[aq,aR,bN,k_,rV,hb,<-h5];rw[if_pos ⟨hlen,by simpa using h6.1⟩,hzl,<-A7];simp[aK,List.map_replicate,List.take_of_length_le]
     .refine nw hr ho rfl ?_ (fun p hp=>by simp at hp;simp[hp]) (fun l e=>?_) (fun g=>sC) (fun _ _=>trivial) (fun i hi=>hi)
      .simp only[Sl.l];rw[pQ (by simpa using h6.1)]
      .cases e;rw[aX,cE,if_pos rfl];rfl
  .simp at hz
 |_=>simp at hz
theorem xD{id m:Nat}{t:Ty}{p:lN}{w:V}{ya yw:TV}(hr:HR s.next h1 s.heap)(ha1:dV s.heap (.op id t p) ya)(ha2:dC s.next s.heap (.op id t p))(hx:dV s.heap w yw)(hk:dC s.next s.heap w)
  (hz:(bif(sD w==m)then(match fO s.heap id with
  |some (.bx u c)=>bif decide (u=t)then(match mU t p with
   |some a=>(match GX a w with
    |some w=>(match kG c p w with|some c=>bif df c false t then k (.tp .ni) (cX s id (some (.bx t c))) [id]else none|none=>none)
    |none=>none)
   |none=>none)else none
  |_=>none)else none)=some z):rQ h1 (.store m) [ya,yw] s k z:=by
 obtain⟨h2,hz2⟩:=aI hz;simp only[beq_iff_eq]at h2;clear hz;split at hz2
 .rename_i u c ho;obtain⟨h3,hz3⟩:=aI hz2;simp only[decide_eq_true_eq]at h3;subst h3;clear hz2;split at hz3
  .rename_i a ha;split at hz3
   .rename_i w' hw;split at hz3
    .rename_i c' hc;obtain⟨h4,hz4⟩:=aI hz3;obtain⟨cw,e1,e2⟩:=mw (kP (AE hw) hx);obtain⟨q1,q2,q3,q4⟩:=sZ hw e1 hk;obtain⟨_,⟨cs,e3,e4,e5⟩,e6⟩:=hr.ob id _ ho;have l1:cw.length=sD w:=fr e1;have l2:cw.length=bC a:=by rw[fr q1,eQ _ _ _ q2]
     have l3:cs.length=bC u:=by rw[fr e4,eQ _ _ _ e5]
     have l4:=qI p u a ha ha2.2;have q5:=qC p c u w' c' cs cw a e5 e4 ha2.2 hc ha q1 l2;have q6:=BI p c w' c' e6 q3 hc;rw[qx ha1];have hos:nI (.bx u c) (.bx u c'):=rfl;refine .vT hr ho hos hz4 (fun cl=>?_) (b:=some (.box (aV cs (jM u p) cw))) ?_ ?_ sC trivial (ap:=[id]) fun i hi=>hi
     .simp only[aq,aR,bN,jg,e2];rw[if_pos (l1.trans h2)];simp only[e3];rw[if_pos (by omega)]
     .exact ⟨_,rfl,iJ (gm.vT ho hos) q6 q5,h4⟩
     .exact eL (ak _) (gm.vT ho hos) q6
    .simp at hz3
   .simp at hz3
  .simp at hz3
 .simp at hz2
theorem mT.seq{s1 s':S2}{fu u:dD}{x:TV}{ap a l:List Nat}{m:Nat}{v:V}(dm:gm s.next s.heap s1.heap)(he:s1.cG=s.cG)(hg:s1.gh=s.gh)(hn:s1.next=s.next)(hwo:s1.wo=a++s.wo)(hu:∀p∈fu,p.1∈a)(hf:∀id,id∉a->fO s1.heap id=fO s.heap id)
  (hna:∀i∈a,fO s.heap i≠none) (hd:mT s1 s' (fu++h1) x u ap m v l):mT s s' h1 x (u++fu) ap m v l:=by
 obtain⟨d1,d2,d3,d4,d5,d6,d7,d8,d9,d10,W,w1,w2,w3⟩:=hd;refine⟨d1,d2,by rw[aO];exact d3,gm.trans (Nat.le_of_eq hn.symm) dm d4,d5.trans he,d6.trans hg,d7,by omega,d9,fun i hi h=>d10 i (by omega) ((hf i fun q=>hna i q h).trans h),W++a,by rw[w1,hwo,aO],fun p hp=>?_,fun i hi=>?_⟩
 .rcases aj.1 hp with hp|hp
  .exact aC _ (w2 p hp)
  .exact aA _ (hu p hp)
 .rw [w3 i fun q=>hi (aC _ q),hf i fun q=>hi (aA _ q)]
theorem FX{v w:V}{l:List Nat}(hf:gb h v=some (w,l)):HE v:=by cases v<;>first|trivial|(simp[gb]at hf)
theorem lu{a b:List D}(e:a.map C.d=b.map C.d):a=b:=by
 induction a generalizing b with
 |nil=>cases b with|nil=>rfl|cons y b=>simp at e
 |cons x a ih=>cases b with|nil=>simp at e|cons y b=>simp only[aq,cJ,C.d.injEq]at e;rw[e.1,ih e.2]
theorem KJ:∀(p:lN)(t u:Ty),gT t=true->mU t p=some u->gT u=true:=by
 intro p;induction p with
 |nil=>
  intro t u hd h;have e:mU t []=some t:=by cases t<;>rfl
  rw[e]at h;exact aa h▸hd
 |cons q p ih=>
  intro t u hd h;cases q with
  |fd i=>
   cases t with
   |st t=>
    simp only[mU]at h;split at h
    .rename_i w hw;exact ih w u (tU t i w hd hw) h
    .simp at h
   |_=>simp[mU]at h
  |ix i=>cases t with|ar l t=>exact ih t u hd h|_=>simp[mU]at h
theorem BZ(t:Ty):jM t []=0:=by cases t<;>rfl
theorem zZ{t:Ty}{l:List (Sl (El t))}{ln:Option (Nat×Nat)}{m:Nat}{r:Sl (El t)}(h:BH ln m=true):(du t l ln).set m (kQ t r)=du t (l.set m r) none:=by cases ln with|none=>simp only[du,List.map_set]|some q=>obtain⟨m',i⟩:=q;obtain rfl:m'=m:=Nat.eq_of_beq_eq_true h;simp only[du,List.map_set,List.set_set]
theorem z6{t:Ty}{l:List (Sl (El t))}{ln:Option (Nat×Nat)}:(du t l ln).length=l.length:=by cases ln with|none=>simp[du]|some q=>obtain⟨m',i⟩:=q;simp[du]
theorem sR{id id2 m:Nat}{t:Ty}{l:List (Sl (El t))}{ln:Option (Nat×Nat)}{o2:O}{r:Sl (El t)}{u:dD}{ap:List Nat}(hr:HR s.next h1 s.heap)(ho:fO s.heap id=some (.rw t (.mk l) ln))(ho2:fO s.heap id2=some o2)(hne:id2≠id)(hlnm:BH ln m=true)
  (hu:∀p∈u,p.1=id\/p.1=id2) (hb:au (u++h1) id=some (.nst (bC t) ((du t l ln).set m (kQ t r)))) (hids:∀i∈ap,i∈[id,id2]):
  mT s (cX (cX s id2 none) id (some (.rw t (.mk (l.set m r)) none))) h1 (.eU []) u ap s.next (.tp .ni) [id,id2]:=by
 have dm:gm s.next s.heap ((id,some (.rw t (.mk (l.set m r)) none))::(id2,none)::s.heap):=by refine gm.trans (ak _) (gm.i_ id2) (gm.vT (o:=.rw t (.mk l) ln) ?_ ⟨rfl,rfl,by simp[Sl.l]⟩);rw[bZ,if_neg hne];exact ho
 refine mT.zK [id,id2] hr dm rfl rfl (ak _) (ak _) hids rfl (fun p hp=>?_) (fun i hi=>?_) (fun i hi o ho'=>?_) sC trivial (fun i _ h=>?_)
 .rcases hu p hp with e|e<;>simp[e]
 .simp only[aD,fM,or_false,not_or]at hi;simp only[cX];rw[bZ,if_neg (fun e=>hi.1 e.symm),bZ,if_neg (fun e=>hi.2 e.symm)]
 .simp only[cX]at ho';by_cases hi1:id=i
  .subst hi1;rw[bZ,if_pos rfl]at ho';obtain rfl:=aa ho';obtain⟨a,⟨d1,d2,_⟩,_⟩:=hr.ob _ _ ho;exact⟨a,⟨d1,d2,fun l' e=>by cases e;rw[hb,zZ hlnm]⟩,trivial⟩
  .rw [bZ,if_neg hi1]at ho';simp only[aD,fM,or_false]at hi;rcases hi with rfl|rfl
   .exact absurd rfl hi1
   .rw [bZ,if_pos rfl]at ho';cases ho'
 .simp only[cX];rw[bZ,if_neg (fun e=>by subst e;rw[ho]at h;cases h),bZ,if_neg (fun e=>by subst e;rw[ho2]at h;cases h)];exact h
theorem mT.nx{s s':S2}{x:TV}{u:dD}{ap l:List Nat}{m q:Nat}{v:V}(d:mT s s' h1 x u ap m v l)(hq:q<=s'.next):mT s s' h1 x u ap q v l:=⟨d.val,d.Nw,d.hr,d.dm,d.cG,d.gh,hq,d.le,d.ap,d.nb,d.wo⟩
theorem xE{id m q:Nat}{t:Ty}{p:lN}{w:V}{ya yw:TV}(hr:HR s.next h1 s.heap)(ha1:dV s.heap (.ep id m t p) ya)(ha2:dC s.next s.heap (.ep id m t p))(hx:dV s.heap w yw)(hk:dC s.next s.heap w)(ha:ft s.heap w=true)
  (hz:(bif(sD w==q)then zW id m t p w s (fun s l=>k (.tp .ni) s l)else none)=some z):rQ h1 (.store q) [ya,yw] s k z:=by
 obtain⟨h2,hz2⟩:=aI hz;simp only[beq_iff_eq]at h2;clear hz;unfold zW at hz2;split at hz2
 .rename_i u v ln ho;split at hz2
  .rename_i id2;split at hz2
   .rename_i u2 r ver ho2;split at hz2
    .rename_i r' hr';obtain⟨h3,hz3⟩:=aI hz2;simp only[ae,decide_eq_true_eq,Bool.not_eq_true',beq_eq_false_iff_ne]at h3;obtain⟨⟨rfl,hne⟩,hln⟩:=h3;obtain⟨e,e2⟩:=bV hr';cases e;obtain rfl:r'=r:=e2;have hlen:=ha2.2.2.2 _ _ _ ho;obtain⟨_,⟨d1,d2,d3⟩,_⟩:=hr.ob id _ ho;obtain⟨_,⟨_,_,c3⟩,_⟩:=hr.ob id2 _ ho2;cases v with
     |nil=>simp[Sl.l]at hlen
     |mk l=>
      have d3:=d3 l rfl;have h2':q=1:=h2.symm;subst h2';rw[nQ ha1,nP hx (jl (.inl ho2)),BZ];have hl2:m<(du u l ln).length:=by rw[z6];exact hlen
      cases r' with
      |nil=>
       refine⟨_,_,_,hz3,fun cl=>⟨.eU [],[(id,some (.nst (bC u) ((du u l ln).set m .nil)))],[id],s.next,?_,?_⟩⟩
       .simp only[aq,aR,bN,jg,jm,cellsOf,d3];rw[if_pos (show([_]:List C).length=1 from rfl)];rw[if_pos ⟨trivial,trivial,hl2⟩];simp only[nn]
       .exact sR hr ho ho2 hne hln (fun p hp=>by simp at hp;simp[hp]) (by rw[aX,cE,if_pos rfl];rfl) (fun i hi=>by simp at hi;simp[hi])
      |mk rr=>
       have c3:=c3 rr rfl;refine⟨_,_,_,hz3,fun cl=>⟨.eU [],[(id,some (.nst (bC u) ((du u l ln).set m (.bf (rr.map (aN u)))))),(id2,none)],[id,id2],s.next,?_,?_⟩⟩
       .simp only[aq,aR,bN,jg,jm,cellsOf,d3];rw[if_pos (show([_]:List C).length=1 from rfl)];rw[if_pos ⟨trivial,trivial,hl2⟩];simp only[nn,c3];rw[if_pos ⟨trivial,by simp,hne⟩]
       .exact sR hr ho ho2 hne hln (fun p hp=>by simp at hp;rcases hp with rfl|rfl<;>simp) (by rw[aJ,cE,if_pos rfl];rfl) (fun i hi=>hi)
    .simp at hz2
   .simp at hz2
  .simp at hz2
 .rename_i u l ver ho;split at hz2
  .rename_i w' a hw;obtain⟨h3,hz3⟩:=aI hz2;simp only[decide_eq_true_eq]at h3;subst h3;clear hz2;split at hz3
   .rename_i b2 hb;split at hz3
    .rename_i y hy;split at hz3
     .rename_i c hc;split at hz3
      .rename_i y2 hy2;split at hz3
       .rename_i s1 hs1;obtain⟨h4,hz4⟩:=aI hz3;obtain⟨cw,e1,e2⟩:=mw (kP (FX hw) hx);obtain⟨ds,ap,f1,f2,f3,f4,f5⟩:=ou hr w w' a cw hw e1 hk ha;have e3:=lu (fT w' false b2 y _ hy f2);have hlen:=ha2.2.2.1 u l ver (.inl ho)
        have hnm:∀(ds:List D)(cs:List C)(ap:List Nat),cH h1 cs=some (ds,ap)->ds.length=cs.length:=by
         intro ds cs;induction cs generalizing ds with
         |nil=>intro ap h;obtain⟨rfl,_⟩:[]=ds/\[]=ap:=by simpa[cH]using h
               rfl
         |cons c cs ih=>
          intro ap h;simp only[cH]at h;split at h
          .rename_i p1 p2 p3 p4 hp hq;obtain⟨rfl,rfl⟩:=ad (aa h);simp[ih _ _ hq]
          .simp at h
        have l1:cw.length=sD w:=fr e1;have l2:ds.length=bC b2:=by rw[e3,bq]
        have l3:=hnm _ _ _ f1;have l4:=qI p u b2 hb ha2.2.1;cases l with
        |nil=>simp[Sl.l]at hlen
        |mk l=>
         obtain⟨_,⟨d1,d2,d3⟩,_⟩:=hr.ob id _ ho;have d3:=d3 l rfl;have q5:=qC (h:=s.heap) p (.x u (gt l m)) u (.x b2 y) c ((aN u (gt l m)).map .d) ((aN b2 y).map .d) b2 (by simp[df]) ⟨d1,rfl⟩ ha2.2.1 hc hb ⟨KJ p u b2 d1 hb,rfl⟩ (by simp[bq]);have q6:=lH hy2 q5;rw[<-pB]at q6;have q7:=lu q6;obtain⟨fu,g1,g2,g3,g4,g5,g6,g7,g8,g9⟩:=wF (s0:=s) rfl hr a s1 ap ap hs1 f3 f4;have hid:id∉a:=by simpa using h4
         have hid2:ap.contains id=false:=by cases hq:ap.contains id with|false=>rfl|true=>exact absurd ((f3 id (by simpa using hq)).1) hid
         rw[nQ ha1];refine⟨_,_,_,hz4,fun cl=>⟨.eU [],(id,some (.aH (bC u) ((l.set m y2).map (aN u))))::fu,id::ap,s.next,?_,?_⟩⟩
         .simp only[aq,aR];exact Hg d3 hlen e2 (l1.trans h2) f1 g1 hid2 (by rw[bq];omega) (by rw[e3];exact q7)
         .have ho1:fO s1.heap id=some (.ar u (.mk l) ver):=by rw[g9 id hid];exact ho
          rw[<-g6]at g2
          have:=nw (v:=.tp .ni) (x:=.eU []) (ap:=id::ap) (l:=id::a) (u:=[(id,some (.aH (bC u) ((l.set m y2).map (aN u))))]) g2 ho1 (w':=.mk (l.set m y2)) rfl (by simp[Sl.l]) (fun p hp=>by simp at hp;simp[hp]) (fun l' e=>by cases e;rw[aX,cE,if_pos rfl]) (fun _=>sC) (fun _ _=>trivial) (fun i hi=>by
           rcases aD.1 hi with rfl|hi
           .exact bG ..
           .exact av _ (f3 i hi).1)
          rw[g6]at this;exact mT.seq g3 g4 g5 g6 g7 g8 g9 (AW rfl hs1) this
       .simp at hz3
      .simp at hz3
     .simp at hz3
    .simp at hz3
   .simp at hz3
  .simp at hz2
 .simp at hz2
end
section
variable{h:H2}{n:Nat}{h1:bl}{β:Type}{s:S2}{k:V->S2->List Nat->Option β}{z:β}
theorem pz:∀{cs:List C}{ds:List D}{ap:List Nat},cH h1 cs=some (ds,ap)->ds.length=cs.length:=by
 intro cs;induction cs with
 |nil=>intro ds ap h;obtain⟨rfl,_⟩:[]=ds/\[]=ap:=by simpa[cH]using h
       rfl
 |cons c cs ih=>
  intro ds ap h;simp only[cH]at h;split at h
  .rename_i p1 p2 p3 p4 hp hq;obtain⟨rfl,rfl⟩:=ad (aa h);simp[ih hq]
  .simp at h
theorem Jp{t:Ty}(hd:gT t=true)(m:Nat):(aw m (nO t)).flatMap (aN t)=cn ((aw m (j_ t)).flatten):=by induction m with|zero=>rfl|succ m ih=>simp only[fw,bd,da,ih,mW t hd,cn,gg]
theorem wt(l:List Value):dk l=(cn l).map .d:=by simp[dk,cn]
theorem Ed{t:Ty}(hd:gT t=true)(m:Nat):((aw m (j_ t)).flatten).length=m*bC t:=by have:=congrArg iD (Jp hd m);rw[mI (bq t),List.length_replicate,cn,aK]at this;exact this.symm
theorem zp{α:Type}{f:α->List D}{q:Nat}(hf:∀a,(f a).length=q):∀(l:List α),js q l.length (l.flatMap f)=l.map f:=by intro l;induction l with|nil=>rfl|cons a l ih=>simp only[cz,js,bd,aq];rw[List.take_left' (hf a),List.drop_left' (hf a),ih]
theorem Ah{t:Ty}{len:Nat}(hr:HR n h1 h)(hd:gT t=true):∀(is:List Nat)(vs:List V)(m:Nat)(l:List (El t))(a:List Nat)(pre:List C)(xs:List TV),sP h t len m is vs=some (l,a)->m<=len->pre.length=m*bC t->
  jj h vs xs->(∀w∈vs,dC n h w)->(∀w∈vs,ft h w=true)->
  ∃cs ap,ig (pre++dk ((aw (len-m) (j_ t)).flatten)) ((is.map fun i=>(i*bC t,bC t)).zip xs)=some (pre++cs)/\cH h1 cs=some (l.flatMap (aN t),ap)/\(∀i∈ap,i∈a/\¬jH h i)/\(∀i∈a,i∈ap\/jH h i)/\l.length=len-m:=by
 intro is;induction is with
 |nil=>intro vs m l a pre xs hf hm hpre hx hk ha;cases vs with|cons v vs=>simp[sP]at hf|nil=>simp only[sP,bH,Prod.mk.injEq]at hf;obtain⟨rfl,rfl⟩:=hf;obtain rfl:=ir hx;refine⟨_,[],rfl,?_,fun i hi=>by simp at hi,fun i hi=>by simp at hi,by simp⟩;rw[wt,Jp hd];exact pV _
 |cons i is ih=>
  intro vs m l a pre xs hf hm hpre hx hk ha;cases vs with
  |nil=>simp[sP]at hf
  |cons v vs=>
   simp only[sP]at hf;split at hf
   .rename_i w a1 hw;split at hf
    .rename_i y hy;obtain⟨hc,hf⟩:=aI hf;simp only[ae,Nat.ble_eq,Nat.blt_eq]at hc;obtain⟨hmi,hil⟩:=hc;split at hf
     .rename_i l1 b hl1;obtain⟨rfl,rfl⟩:=ad (aa hf);obtain⟨x,ys,rfl,hx1,hx2⟩:=ei hx;obtain⟨cw,e1,e2⟩:=mw (kP (FX hw) hx1);obtain⟨ds,ap,f1,f2,f3,f4,_⟩:=ou hr v w a1 cw hw e1 (hk _ (by simp)) (ha _ (by simp));have e3:=lu (fT w false t y _ hy f2);subst e3;have l1':cw.length=bC t:=by rw[<-pz f1,bq]
      have lz:(dk ((aw (i-m) (j_ t)).flatten)).length=(i-m)*bC t:=by simp only[dk,aK];exact Ed hd _
      have lz1:(dk (j_ t)).length=bC t:=by rw[wt,<-mW t hd,aK,bq]
      have hpl:(pre++dk ((aw (i-m) (j_ t)).flatten)).length=i*bC t:=by rw[aZ,hpre,lz,<-bv,Nat.add_sub_cancel' hmi]
      obtain⟨cs,jds,g1,g2,g3,g4,g5⟩:=ih vs (i+1) l1 b (pre++dk ((aw (i-m) (j_ t)).flatten)++cw) ys hl1 hil (by rw[aZ,hpl,l1',bv,Nat.one_mul]) hx2 (fun w hw=>hk w (by simp[hw])) (fun w hw=>ha w (by simp[hw]));have hsplit:aw (len-m) (j_ t)=aw (i-m) (j_ t)++(j_ t::aw (len-(i+1)) (j_ t)):=by rw[<-fw,List.replicate_append_replicate];congr 1;omega
      have hcells:pre++dk ((aw (len-m) (j_ t)).flatten)=(pre++dk ((aw (i-m) (j_ t)).flatten))++(dk (j_ t)++dk ((aw (len-(i+1)) (j_ t)).flatten)):=by rw[hsplit,List.flatten_append,da,ol,ol,aO]
      refine⟨dk ((aw (i-m) (j_ t)).flatten)++(cw++cs),ap++jds,?_,?_,fun j hj=>?_,fun j hj=>?_,by simp[g5];omega⟩
      .simp only[aq,List.zip_cons_cons,ig,e2];rw[if_pos ⟨l1',by rw[hcells,aZ,hpl,aZ,lz1];omega⟩,hcells];have:aV ((pre++dk ((aw (i-m) (j_ t)).flatten))++(dk (j_ t)++dk ((aw (len-(i+1)) (j_ t)).flatten))) (i*bC t) cw=(pre++dk ((aw (i-m) (j_ t)).flatten)++cw)++dk ((aw (len-(i+1)) (j_ t)).flatten):=by have:=oM (a:=pre++dk ((aw (i-m) (j_ t)).flatten)) (b:=dk (j_ t)++dk ((aw (len-(i+1)) (j_ t)).flatten)) (p:=cw) (off:=0);rw[hpl]at this;refine Eq.trans this ?_;rw[oL (by omega),jx (by omega)];simp only[aO]
       rw[this,g1];simp only[aO]
      .rw [List.flatMap_append,bd,Jp hd];have hz:cH h1 (dk ((aw (i-m) (j_ t)).flatten))=some (cn ((aw (i-m) (j_ t)).flatten),[]):=by rw[wt];exact pV _
       exact(l_ hz (l_ f1 g2):cH h1 _=some (_,[]++(ap++jds)))
      .rcases aj.1 hj with hj|hj
       .exact ⟨aC _ (f3 j hj).1,(f3 j hj).2⟩
       .exact ⟨aA _ (g3 j hj).1,(g3 j hj).2⟩
      .rcases aj.1 hj with hj|hj
       .exact (f4 j hj).imp (aC _) id
       .exact (g4 j hj).imp (aA _) id
     .simp at hf
    .simp at hf
   .simp at hf
theorem zt{t:Ty}{len sz:Nat}{zl:List Value}{pl:List Nat}{vs:List V}{xs:List TV}
  (hz:KV t sz len zl pl vs s k=some z)
  (hr:HR s.next h1 s.heap) (hx:jj s.heap vs xs) (hk:∀w∈vs,dC s.next s.heap w) (ha:∀w∈vs,ft s.heap w=true):rQ h1 (.buildSlice sz len zl pl) xs s k z:=by
 unfold KV at hz;obtain⟨h2,hz2⟩:=aI hz;simp only[ae,beq_iff_eq]at h2;obtain⟨⟨rfl,h3⟩,h4⟩:=h2;have h3:=mX h3;subst h3;obtain⟨hd,hs0⟩:=l7 h4;clear hz;split at hz2
 .rename_i l a hl;split at hz2
  .rename_i s1 hs1;obtain⟨cs,ap,g1,g2,g3,g4,g5⟩:=Ah hr hd pl vs 0 l a [] xs hl (Nat.zero_le _) (by simp) hx hk ha;obtain⟨fu,f1,f2,f3,f4,f5,f6,f7,f8,f9⟩:=wF (s0:=s) rfl hr a s1 ap ap hs1 g3 g4;refine⟨_,_,_,hz2,fun cl=>⟨.c (.dq (bC t) s.next 0 len),(s.next,some (.aH (bC t) (l.map (aN t))))::fu,ap,s.next+1,?_,?_⟩⟩
   .have hc:js (bC t) len (l.flatMap (aN t))=l.map (aN t):=by have:=zp (bq t) l;rwa[show l.length=len by simpa using g5]at this
    simp only[bN,jZ];have g1:ig (dk ((aw len (j_ t)).flatten)) ((pl.map fun i=>(i*bC t,bC t)).zip xs)=some cs:=by simpa using g1
    rw[g1];simp only[g2,f1,hc]
   .have hr1:HR s1.next (fu++h1) s1.heap:=by rw[f6];exact f2
    have hd1:mT s1 (gk s1 (.ar t (.mk l) 0)) (fu++h1) (.c (.dq (bC t) s.next 0 len)) [(s1.next,some (.aH (bC t) (l.map (aN t))))] ap (s.next+1) (.so s1.next) a:=by refine mT.new hr1 (.inl rfl) (fun _=>⟨hd,hs0,fun l' e=>by cases e;rfl⟩) trivial ?_ (aS _) (fun i hi=>(g3 i hi).1) (by rw[f6];exact ak _);have:=qK (h:=s1.heap) (t:=t) (s:=.mk l) (v:=0) (nx:=s1.next);rw[f6]at this|-;simpa[jm,show l.length=len by simpa using g5]using this
    rw[f6]at hd1;exact mT.seq f3 f4 f5 f6 f7 f8 f9 (AW rfl hs1) hd1
  .simp at hz2
 .simp at hz2
theorem A3{ka va:Bool}{ks:List Kd}{zl:List Value}{id:Nat}{kv:V}{ya yk:TV}(hr:HR s.next h1 s.heap)(ha1:dV s.heap (.om id) ya)(hx:dV s.heap kv yk)
  (hz:(match fO s.heap id with
  |some (.mp kt vt m)=>(match mV kt kv with
   |some q=>bif(iF kt==ka)&&(iF vt==va)&&decide (uj kt=some ks)&&o8 (j_ vt) zl&&gT vt&&(va||bC vt==1)then
     k (.tp (.co (.x vt (oe m (nO vt) q).2.1) (.co (.x (.i .i64) (oe m (nO vt) q).2.2) .ni))) (cX s id (some (.mp kt vt (oe m (nO vt) q).1))) [id]else none
   |none=>none)
  |_=>none)=some z):rQ h1 (.mapEntry ka ks va zl) [ya,yk] s k z:=by
 split at hz
 .rename_i kt vt m ho;split at hz
  .rename_i q hq;obtain⟨hc,hz2⟩:=aI hz;simp only[ae,beq_iff_eq,decide_eq_true_eq]at hc;obtain⟨⟨⟨⟨⟨c1,c2⟩,c3⟩,c4⟩,c5⟩,c6⟩:=hc;rw[sy ha1];obtain⟨_,_,k3,_⟩:=oU kt ks c3;have hzz:cn zl=aN vt (nO vt):=by rw[mW vt c5,mX c4]
   have hv:∀y,lk va (aN vt y)=some (Lj vt y):=fun y=>BC y c2 c6;have hkt:=qk hx hq c3 c1;have e3:=(hr.ob id _ ho).2.1.2.2;rw[<-c2]at c6;have e4:au h1 id=rY ka va (pw kt) (aN vt) m:=by rw[<-c1,<-c2];exact e3
   have hos:nI (.mp kt vt m) (.mp kt vt (oe m (nO vt) q).1):=trivial;refine .vT hr ho hos hz2 (fun cl=>LZ (z:=nO vt) e4 hkt k3 hzz hv) ⟨c5,⟨ks,c3⟩,by rw[c1,c2];rfl⟩ trivial ?_ ⟨trivial,trivial,trivial⟩ fun i hi=>hi;exact⟨_,rfl,_,_,rfl,Em c5 c6,_,_,rfl,cP rfl ⟨rfl,rfl⟩,rfl⟩
  .simp at hz
 .simp at hz
theorem Ge:∀(l:List D),tT (l.map .d)=some l:=by intro l;induction l with|nil=>rfl|cons d l ih=>simp[tT,ih]
theorem y9{va:Bool}{m0 id:Nat}{kd:IntKind}{st:Int}{w:V}{ya yw:TV}(hr:HR s.next h1 s.heap)(ha1:dV s.heap (.om id) ya)(hx:dV s.heap w yw)
  (hz:(match fO s.heap id with
  |some (.mp kt vt m)=>(match mV vt w with
   |some y=>bif(iF vt==va)&&(bC vt==m0)&&gT vt then(B4 m st y).bind fun m=>k (.tp .ni) (cX s id (some (.mp kt vt m))) [id]else none
   |none=>none)
  |_=>none)=some z):rQ h1 (.entryStore va m0) [ya,tI kd st,yw] s k z:=by
 split at hz
 .rename_i kt vt m ho;split at hz
  .rename_i y hy;obtain⟨hc,hz2⟩:=aI hz;simp only[ae,beq_iff_eq]at hc;obtain⟨⟨rfl,rfl⟩,c3⟩:=hc;obtain⟨m',hm,hz3⟩:=mP hz2;rw[sy ha1];obtain⟨_,hks,e3⟩:=(hr.ob id _ ho).2.1;obtain⟨g1,g2⟩:=o4 hx hy;have hos:nI (.mp kt vt m) (.mp kt vt m'):=trivial;have hcs:(cellsOf yw).bind tT=some (aN vt y)/\lY yw=iF vt:=by cases hag:iF vt with|true=>rw[g1 hag];exact⟨by simp[cellsOf,Ge],rfl⟩|false=>obtain⟨d,e,rfl⟩:=g2 hag;exact⟨by simp[cellsOf,tT,e],rfl⟩
   refine .vT hr ho hos hz3 (fun cl=>LY (va:=iF vt) (ek:=pw kt) (ka:=iF kt) hm e3 hcs.1 (bq vt y) hcs.2) ⟨c3,hks,rfl⟩ trivial sC trivial fun i hi=>hi
  .simp at hz
 .simp at hz
theorem Dj{ka va:Bool}{ks:List Kd}{m0 id:Nat}{kv w:V}{ya yk yw:TV}(hr:HR s.next h1 s.heap)(ha1:dV s.heap (.om id) ya)(hx:dV s.heap kv yk)(hw:dV s.heap w yw)
  (hz:(match fO s.heap id with
  |some (.mp kt vt m)=>(match mV kt kv with
   |some q=>(match mV vt w with
    |some y=>bif(iF kt==ka)&&(iF vt==va)&&decide (uj kt=some ks)&&(bC vt==m0)&&gT vt then k (.tp .ni) (cX s id (some (.mp kt vt (yA m q y)))) [id]else none
    |none=>none)
   |none=>none)
  |_=>none)=some z):rQ h1 (.og ka ks va m0) [ya,yk,yw] s k z:=by
 split at hz
 .rename_i kt vt m ho;split at hz
  .rename_i q hq;split at hz
   .rename_i y hy;obtain⟨hc,hz2⟩:=aI hz;simp only[ae,beq_iff_eq,decide_eq_true_eq]at hc;obtain⟨⟨⟨⟨rfl,rfl⟩,c3⟩,rfl⟩,c5⟩:=hc;rw[sy ha1];obtain⟨_,_,k3,_⟩:=oU kt ks c3;have hkt:=qk hx hq c3 rfl;have e3:=(hr.ob id _ ho).2.1.2.2;obtain⟨g1,g2⟩:=o4 hw hy;have hos:nI (.mp kt vt m) (.mp kt vt (yA m q y)):=trivial;have hcs:cellsOf yw=some ((aN vt y).map .d)/\lY yw=iF vt:=by cases hag:iF vt with|true=>rw[g1 hag];exact⟨rfl,rfl⟩|false=>obtain⟨d,e,rfl⟩:=g2 hag;exact⟨by rw[e];rfl,rfl⟩
    exact .vT hr ho hos hz2 (fun cl=>Lw (ek:=pw kt) e3 hkt k3 hcs.1 (pV _) (bq vt y) hcs.2) ⟨c5,⟨ks,c3⟩,rfl⟩ trivial sC trivial fun i hi=>hi
   .simp at hz
  .simp at hz
 .simp at hz
theorem Dp{ka:Bool}{ks:List Kd}{id:Nat}{kv:V}{ya yk:TV}(hr:HR s.next h1 s.heap)(ha1:dV s.heap (.om id) ya)(hx:dV s.heap kv yk)
  (hz:(match fO s.heap id with
  |some (.mp kt vt m)=>(match mV kt kv with
   |some q=>bif(iF kt==ka)&&decide (uj kt=some ks)then k (.tp .ni) (cX s id (some (.mp kt vt (yB m q)))) [id]else none
   |none=>none)
  |_=>none)=some z):rQ h1 (.oh ka ks) [ya,yk] s k z:=by
 split at hz
 .rename_i kt vt m ho;split at hz
  .rename_i q hq;obtain⟨hc,hz2⟩:=aI hz;simp only[ae,beq_iff_eq,decide_eq_true_eq]at hc;obtain⟨rfl,c3⟩:=hc;rw[sy ha1];obtain⟨_,_,k3,_⟩:=oU kt ks c3;have hkt:=qk hx hq c3 rfl;obtain⟨c5,_,e3⟩:=(hr.ob id _ ho).2.1;have hos:nI (.mp kt vt m) (.mp kt vt (yB m q)):=trivial;exact .vT hr ho hos hz2 (fun cl=>L2 (ek:=pw kt) e3 hkt k3) ⟨c5,⟨ks,c3⟩,rfl⟩ trivial sC trivial fun i hi=>hi
  .simp at hz
 .simp at hz
end
section
variable{h:H2}{n:Nat}{h1:bl}{β:Type}{s:S2}{k:V->S2->List Nat->Option β}{z:β}
theorem qS:∀{r:List V}{l:List Int}{xs:List TV},qT r=some l->jj h r xs->∃ks:List IntKind,ks.length=l.length/\xs=(ks.zip l).map fun p=>tI p.1 p.2:=by
 intro r;induction r with
 |nil=>
  intro l xs hl hx;obtain rfl:[]=l:=by simpa[qT]using hl
  exact⟨[],rfl,ir hx⟩
 |cons v r ih=>
  intro l xs hl hx;cases v with
  |x t v=>
   cases t with
   |i q=>
    simp only[qT]at hl;split at hl
    .rename_i l' hl';obtain rfl:=aa hl;obtain⟨x,ys,rfl,h1,h2⟩:=ei hx;obtain⟨ks,h3,rfl⟩:=ih hl' h2;exact⟨q::ks,by simp[h3],by rw[gK h1];rfl⟩
    .simp at hl
   |_=>simp[qT]at hl
  |_=>simp[qT]at hl
theorem FP{r:List V}{xs:List TV}(hl:qT r=some [])(hx:jj h r xs):xs=[]:=by obtain⟨ks,h1,rfl⟩:=qS hl hx;cases ks<;>simp_all
theorem wA{r:List V}{a:Int}{xs:List TV}(hl:qT r=some [a])(hx:jj h r xs):∃q,xs=[tI q a]:=by obtain⟨ks,h1,rfl⟩:=qS hl hx;cases ks with|nil=>simp at h1|cons q ks=>exact⟨q,by cases ks<;>simp_all⟩
theorem FO{r:List V}{a b:Int}{xs:List TV}(hl:qT r=some [a,b])(hx:jj h r xs):∃q q',xs=[tI q a,tI q' b]:=by
 obtain⟨ks,h1,rfl⟩:=qS hl hx;cases ks with
 |nil=>simp at h1
 |cons q ks=>cases ks with|nil=>simp at h1|cons q' ks=>exact⟨q,q',by cases ks<;>simp_all⟩
theorem vW{x y:ByteArray}{lo hi:Option Int}(hs:mY x (lo.getD 0) (hi.getD x.size)=some y)(sz:Nat):dX true sz (.d (dS x)) lo hi=some (.d (dS y)):=by
 unfold mY at hs;split at hs
 .rename_i hb;obtain rfl:=aa hs;simp only[dX,if_true];rw[if_pos hb]
 .simp at hs
theorem xI{x:ByteArray}{r:List V}{lo hi:Bool}{sz:Nat}{y:TV}{ys:List TV}(hr:HR s.next h1 s.heap)(hy:dV s.heap (.x .s x) y)(hys:jj s.heap r ys)
  (hz:(match lo,hi,qT r with
  |false,false,some []=>(mY x 0 x.size).bind fun y=>k (.x .s y) s []
  |true,false,some [l]=>(mY x l x.size).bind fun y=>k (.x .s y) s []
  |false,true,some [u]=>(mY x 0 u).bind fun y=>k (.x .s y) s []
  |true,true,some [l,u]=>(mY x l u).bind fun y=>k (.x .s y) s []
  |_,_,_=>none)=some z):rQ h1 (.slice true sz lo hi) (y::ys) s k z:=by
 rw[rk hy];split at hz
 .rename_i hi;obtain rfl:=FP hi hys;obtain⟨w,hw,hz2⟩:=mP hz;exact .pure hr hz2 (fun _=>by simp only[aq,aR,bN];rw[vW (lo:=none) (hi:=none) hw]) (Li w) trivial
 .rename_i l hi;obtain⟨q,rfl⟩:=wA hi hys;obtain⟨w,hw,hz2⟩:=mP hz;exact .pure hr hz2 (fun _=>by simp only[aq,aR,bN,bL];rw[vW (lo:=some l) (hi:=none) hw]) (Li w) trivial
 .rename_i l hi;obtain⟨q,rfl⟩:=wA hi hys;obtain⟨w,hw,hz2⟩:=mP hz;exact .pure hr hz2 (fun _=>by simp only[aq,aR,bN,bL];rw[vW (lo:=none) (hi:=some l) hw]) (Li w) trivial
 .rename_i l u hi;obtain⟨q,q',rfl⟩:=FO hi hys;obtain⟨w,hw,hz2⟩:=mP hz;exact .pure hr hz2 (fun _=>by simp only[aq,aR,bN,bL];rw[vW (lo:=some l) (hi:=some u) hw]) (Li w) trivial
 .simp at hz
theorem xJ{x:V}{r:List V}{lo hi:Bool}{sz:Nat}{y:TV}{ys:List TV}(hr:HR s.next h1 s.heap)(hy:dV s.heap x y)(hk:dC s.next s.heap x)(ha:ft s.heap x=true)(hys:jj s.heap r ys)
  (hz:(match lo,hi,qT r,AL s.heap x with
  |false,false,some [],some n=>pg sz s.heap x 0 n fun v=>k v s []
  |true,false,some [l],some n=>pg sz s.heap x l n fun v=>k v s []
  |false,true,some [u],some _=>pg sz s.heap x 0 u fun v=>k v s []
  |true,true,some [l,u],some _=>pg sz s.heap x l u fun v=>k v s []
  |_,_,_,_=>none)=some z):rQ h1 (.slice false sz lo hi) (y::ys) s k z:=by
 split at hz
 .rename_i m hi hm;obtain rfl:=FP hi hys;obtain⟨v,c,c',rfl,h3,h4,h5,h6⟩:=wR (lo:=none) (hi:=none) hr hy hk ha hm hz;exact .pure hr h3 (fun _=>by simp only[aq,aR,bN];rw[h4]) h5 h6
 .rename_i l m hi hm;obtain⟨q,rfl⟩:=wA hi hys;obtain⟨v,c,c',rfl,h3,h4,h5,h6⟩:=wR (lo:=some l) (hi:=none) hr hy hk ha hm hz;exact .pure hr h3 (fun _=>by simp only[aq,aR,bN,bL];rw[h4]) h5 h6
 .rename_i u m hi hm;obtain⟨q,rfl⟩:=wA hi hys;obtain⟨v,c,c',rfl,h3,h4,h5,h6⟩:=wR (lo:=none) (hi:=some u) hr hy hk ha hm hz;exact .pure hr h3 (fun _=>by simp only[aq,aR,bN,bL];rw[h4]) h5 h6
 .rename_i l u m hi hm;obtain⟨q,q',rfl⟩:=FO hi hys;obtain⟨v,c,c',rfl,h3,h4,h5,h6⟩:=wR (lo:=some l) (hi:=some u) hr hy hk ha hm hz;exact .pure hr h3 (fun _=>by simp only[aq,aR,bN,bL];rw[h4]) h5 h6
 .simp at hz
theorem Hi{t:Ty}{l:List (Sl (El t))}{m:Nat}(hm:m<l.length):(l.map (kQ t))[m]?=some (kQ t (gt l m)):=by rw[List.getElem?_map,ai hm];simp[gt,List.getD,ai hm]
theorem EE{α:Type}{l:List α}{m:Nat}{x:α}(h:l[m]?=some x):l.set m x=l:=by obtain⟨hm,rfl⟩:=List.getElem?_eq_some_iff.1 h;exact List.set_getElem_self hm
theorem AI{id m:Nat}{u:Ty}{y:TV}(hr:HR s.next h1 s.heap)(hx:dV s.heap (.ep id m u []) y)(hk:dC s.next s.heap (.ep id m u []))
  (hz:(match fO s.heap id with
  |some (.rw t v none)=>bif decide (u=.sl t)then k (.so s.next) (gk (cX s id (some (.rw t v (some (m,s.next))))) (.ar t (gt v.l m) 0)) [id]else none
  |_=>none)=some z):rQ h1 .pk [y] s k z:=by
 split at hz
 .rename_i t v ho;obtain⟨h2,hz2⟩:=aI hz;simp only[decide_eq_true_eq]at h2;subst h2;rw[nQ hx,BZ];have hlen:=hk.2.2.2 _ _ _ ho;obtain⟨hid,⟨d1,d2,d3⟩,_⟩:=hr.ob id _ ho;cases v with
  |nil=>simp[Sl.l]at hlen
  |mk l=>
   have d3:=d3 l rfl;have hlen:m<l.length:=hlen;have dm:gm s.next s.heap ((s.next,some (.ar t (gt l m) 0))::(id,some (.rw t (.mk l) (some (m,s.next))))::s.heap):=gm.trans (ak _) (gm.vT (o':=.rw t (.mk l) (some (m,s.next))) ho ⟨rfl,rfl,rfl⟩) (gm.new _)
   have key:∀{x:TV}{u:dD},dV ((s.next,some (.ar t (gt l m) 0))::(id,some (.rw t (.mk l) (some (m,s.next))))::s.heap) (.so s.next) x->(∀p∈u,p.1=s.next\/p.1=id)->
     au (u++h1) id=some (.nst (bC t) (du t l (some (m,s.next))))->(∀rr,gt l m=.mk rr->au (u++h1) s.next=some (.aH (bC t) (rr.map (aN t))))->∀{q:Nat},q<=s.next+1->
     mT s (gk (cX s id (some (.rw t (.mk l) (some (m,s.next))))) (.ar t (gt l m) 0)) h1 x u [id] q (.so s.next) [id]:=by
    intro x u hx2 hu hb hb2 q hq;refine mT.zK [s.next,id] hr dm rfl rfl hq (bg _) (fun i hi=>hi) rfl (fun p hp=>?_) (fun i hi=>?_) (fun i hi o ho'=>?_) hx2 (aS _) (fun i hi h=>?_)
    .rcases hu p hp with e|e<;>simp[e]
    .simp only[aD,fM,or_false,not_or]at hi;simp only[gk,cX];rw[bZ,if_neg (fun e=>hi.1 e.symm),bZ,if_neg (fun e=>hi.2 e.symm)]
    .simp only[gk,cX]at ho'|-;by_cases hi1:s.next=i
     .subst hi1;rw[bZ,if_pos rfl]at ho';obtain rfl:=aa ho';exact⟨aS _,⟨d1,d2,fun rr e=>hb2 rr e⟩,trivial⟩
     .rw [bZ,if_neg hi1]at ho';simp only[aD,fM,or_false]at hi;rcases hi with rfl|rfl
      .exact absurd rfl hi1
      .rw [bZ,if_pos rfl]at ho';obtain rfl:=aa ho';refine⟨by omega,⟨d1,d2,fun l' e=>by cases e;exact hb⟩,hlen,aS _,fun u' r' v' hf=>?_⟩;simp only[oW]at hf;rcases hf with hf|hf<;>cases hf;exact⟨rfl,rfl⟩
    .simp only[gk,cX];rw[bZ,if_neg (by omega),bZ,if_neg (fun e=>by subst e;rw[ho]at h;cases h)];exact h
   have hs:=Hi (t:=t) hlen;refine⟨_,_,_,hz2,fun cl=>?_⟩;cases hg:gt l m with
   |nil=>
    refine⟨_,[],[id],s.next,?_,key (x:=.c (.d (.lit (.slice none 0 0)))) ?_ (fun p hp=>by simp at hp) ?_ (fun rr e=>by rw[hg]at e;cases e) (bg _)⟩
    .simp only[aq,aR,bN,e_,d3];rw[hg]at hs;simp only[iI,d3,du,hs,kQ];rfl
    .rw [hg];exact qK
    .rw [aY,d3];simp only[du,hg,C5];rw[EE (by rw[hs,hg];rfl)]
   |mk rr=>
    refine⟨_,[(s.next,some (.aH (bC t) (rr.map (aN t)))),(id,some (.nst (bC t) ((l.map (kQ t)).set m (.out s.next (rr.map (aN t)).length))))],[id],s.next+1,?_,key (x:=.c (.dq (bC t) s.next 0 (rr.map (aN t)).length)) ?_ (fun p hp=>by simp at hp;rcases hp with rfl|rfl<;>simp) ?_ (fun r2 e=>?_) (ak _)⟩
    .simp only[aq,aR,bN,e_,d3];rw[hg]at hs;simp only[iI,d3,du,hs,kQ];rfl
    .rw [hg];exact qK
    .rw [aJ,cE,if_neg (by omega),aJ,cE,if_pos rfl];simp only[du,hg,C5,aK]
    .rw [hg]at e;cases e;rw[aJ,cE,if_pos rfl]
 .simp at hz
theorem Fk{szi:Nat}{t:Ty}{q q':IntKind}{a b:Int}(hr:HR s.next h1 s.heap)
  (hz:(bif(bC t==szi)&&xl t then(Ln (Sl.nil:Sl (El t)) a b).bind fun r=>k (.sr s.next) (gk s (.rw t (.mk r) none)) []else none)=some z):rQ h1 (.ve szi) [tI q a,tI q' b] s k z:=by
 obtain⟨hq,hp2⟩:=aI hz;simp only[ae,beq_iff_eq]at hq;obtain⟨rfl,q2⟩:=hq;obtain⟨hd,hs0⟩:=l7 q2;obtain⟨r,hr2,hz3⟩:=mP hp2;unfold Ln at hr2;split at hr2
 .rename_i hb;obtain rfl:=aa hr2;refine .new (ap:=[]) hr hz3 (b:=some (.nst (bC t) (aw a.toNat .nil))) (x:=.c (.dq 1 s.next 0 a.toNat)) (fun _=>?_) ⟨hd,hs0,fun l' e=>by cases e;simp[du,kQ]⟩ trivial ?_ (aS _) fun i hi=>by simp at hi
  .simp only[aq,aR,bN,bL];rw[if_pos (by simpa[yL]using hb)]
  .refine bI (cP rfl ⟨_,rfl,fun c' hc'=>?_,?_⟩)
   .rw [oW]at hc';obtain rfl:=aa hc';simp[jm]
   .have:=vY (sz:=1) (id:=s.next) (e:=aN (.sl t)) (s:=.mk (aw a.toNat (Sl.nil:Sl (El t))));simpa[jm]using this
 .simp at hr2
theorem Ar{o:OP}{vs:List V}{xs:List TV}(hp:part o vs s k=some z)(hr:HR s.next h1 s.heap)(hx:jj s.heap vs xs)(hk:∀w∈vs,dC s.next s.heap w)(ha:∀w∈vs,ft s.heap w=true):rQ h1 o.o.k xs s k z:=by
 obtain⟨⟨d,kk,args,g⟩,t,fi⟩:=o;simp only;unfold part at hp;simp only at hp;split at hp
 .--quo
  obtain⟨x,y,rfl,h2,h3⟩:=fA hx;rw[gK h2,gK h3];obtain⟨hq,hp2⟩:=aI hp;simp only[decide_eq_true_eq]at hq;subst hq;obtain⟨r,hr2,hz⟩:=mP hp2;exact .pure hr hz (fun _=>KA hr2) (xi _ _) trivial
 .obtain ⟨x,y,rfl,h2,h3⟩:=fA hx;rw[gK h2,gK h3];obtain⟨hq,hp2⟩:=aI hp;simp only[decide_eq_true_eq]at hq;subst hq;obtain⟨r,hr2,hz⟩:=mP hp2;exact .pure hr hz (fun _=>Kz hr2) (xi _ _) trivial
 .obtain ⟨x,y,rfl,h2,h3⟩:=fA hx;rw[gK h2,gK h3];obtain⟨r,hr2,hz⟩:=mP hp;exact .pure hr hz (fun _=>Ky hr2) (xi _ _) trivial
 .obtain ⟨x,y,rfl,h2,h3⟩:=fA hx;rw[gK h2,gK h3];obtain⟨r,hr2,hz⟩:=mP hp;exact .pure hr hz (fun _=>Kx hr2) (xi _ _) trivial
 .obtain ⟨x,y,rfl,h2,h3⟩:=fA hx;rw[rk h2,rk h3];obtain⟨r,hr2,hz⟩:=mP hp;exact .pure hr hz (fun _=>KB hr2) (Li _) trivial
 .--alloc
  rename_i zl;obtain rfl:=ir hx;obtain⟨hq,hp2⟩:=aI hp;simp only[ae]at hq;obtain⟨q1,q2⟩:=hq;have q1:=mX q1;subst q1;refine .new (ap:=[]) hr hp2 (x:=.c (.op s.next 0)) (fun _=>rfl) ⟨_,rfl,?_,q2⟩ ?_ (bI (cP rfl (by cases t<;>rfl))) ⟨aS _,by cases t<;>trivial⟩ fun i hi=>by simp at hi
  .exact ((sn (h:=(s.next,some (.bx t (IY t)))::s.heap) (n:=s.next+1) t).1 q2).1
  .exact ((sn (h:=(s.next,some (.bx t (IY t)))::s.heap) (n:=s.next+1) t).1 q2).2
 .--box
  obtain⟨x,rfl,h2⟩:=fk hx;split at hp
  .rename_i w hw;obtain⟨cw,e1,e2⟩:=mw (kP (AE hw) h2);obtain⟨q1,q2,q3,_⟩:=sZ hw e1 (hk _ (by simp));refine .new (ap:=[]) hr hp (x:=.c (.op s.next 0)) (fun _=>by simp only[aq,aR,bN,e2]) ⟨_,rfl,iJ (gm.new _) q3 q1,q2⟩ (eL (bg _) (gm.new _) q3) (bI (cP rfl (by cases t<;>rfl))) ⟨aS _,by cases t<;>trivial⟩ fun i hi=>by simp at hi
  .simp at hp
 .exact zt hp hr hx hk ha
 .--store
  obtain⟨x,y,rfl,h2,h3⟩:=fA hx;exact xD hr h2 (hk _ (by simp)) h3 (hk _ (by simp)) hp
 .--pk
  obtain⟨x,rfl,h2⟩:=fk hx;exact AI hr h2 (hk _ (by simp)) hp
 .--ve
  obtain⟨x,y,rfl,h2,h3⟩:=fA hx;rw[gK h2,gK h3];split at hp
  .exact Fk hr hp
  .simp at hp
 .obtain ⟨x,y,rfl,h2,h3⟩:=fA hx;exact xE hr h2 (hk _ (by simp)) h3 (hk _ (by simp)) (ha _ (by simp)) hp
 .--makeSlice
  rename_i zl _ l _ c;obtain⟨x,y,rfl,h2,h3⟩:=fA hx;rw[gK h2,gK h3];obtain⟨hq,hp2⟩:=aI hp;simp only[ae]at hq;obtain⟨q1,q2⟩:=hq;have q1:=mX q1;subst q1;obtain⟨hd,hs0⟩:=l7 q2;obtain⟨r,hr2,hz⟩:=mP hp2;have hzl:cn (j_ t)=aN t (nO t):=(mW t hd).symm;have hlen:(j_ t).length=bC t:=by have:=congrArg iD hzl;rwa[bq,cn,aK]at this
  refine .new hr hz (fun _=>Ip hzl hr2) ⟨hd,hs0,fun l' e=>by cases e;rw[hlen]⟩ trivial ?_ (aS _) fun i hi=>by simp at hi
  rw[hlen];exact qK (s:=.mk r)
 .--slice of a string
  obtain⟨y,ys,rfl,h2,h3⟩:=ei hx;exact xI hr h2 h3 hp
 .obtain ⟨y,ys,rfl,h2,h3⟩:=ei hx;exact xJ hr h2 (hk _ (by simp)) (ha _ (by simp)) h3 hp
 .obtain ⟨x,y,rfl,h2,h3⟩:=fA hx;rw[gK h3];exact FH hp hr h2 (hk _ (by simp)) (ha _ (by simp))
 .obtain ⟨x,y,rfl,h2,h3⟩:=fA hx;rw[gK h3];exact FG hp hr h2 (hk _ (by simp))
 .--lA
  obtain⟨x,y,rfl,h2,h3⟩:=fA hx;rw[rk h2,gK h3];obtain⟨r,hr2,hz⟩:=mP hp;exact .pure hr hz (fun _=>LW hr2) (xi _ _) trivial
 .--index
  rename_i ag n0 sz0 n' u v _ i;obtain⟨x,y,rfl,h2,h3⟩:=fA hx;rw[gK h3];obtain⟨hq,hp2⟩:=aI hp;simp only[ae,beq_iff_eq]at hq;obtain⟨⟨⟨⟨rfl,rfl⟩,q3⟩,q4⟩,q5⟩:=hq;obtain⟨m,hm,hz⟩:=mP hp2;obtain⟨rfl,hm2⟩:=hC.1 hm;rw[Nr h2];obtain⟨a1,a2⟩:=zB v hm2;have hc:Bf s.heap ag (bC u) (.x u (gt v.1 m))=true:=by simp[Bf,oH,sD,ft,q3,q4,q5]
  obtain⟨x,e1,e2⟩:=lw (cs:=(aN (.ar n' u) v).map .d) (off:=m*bC u) (cw:=(aN u (gt v.1 m)).map .d) hc ⟨q4,rfl⟩ (by simpa using a1) (by rw[<-ez,<-eX,a2]);refine .pure hr hz (x:=x) (fun _=>?_) e2 trivial;simp only[aq,aR,bN,bL];rw[if_pos ⟨by omega,by omega⟩];simp only[Int.toNat_natCast,e1]
 .--append
  obtain⟨x,y,rfl,h2,h3⟩:=fA hx;exact zD (t0:=t) hp hr h2 (hk _ (by simp)) (ha _ (by simp)) h3 (hk _ (by simp)) (ha _ (by simp))
 .obtain ⟨x,y,rfl,h2,h3⟩:=fA hx;exact DQ (t0:=t) hp hr h2 (hk _ (by simp)) (ha _ (by simp)) h3 (hk _ (by simp)) (ha _ (by simp))
 .--clear
  obtain⟨y,rfl,h2⟩:=fk hx;exact Bc hp hr h2 (hk _ (by simp)) (ha _ (by simp))
 .--makeMap
  obtain rfl:=ir hx;split at hp
  .rename_i kt vt;obtain⟨hq,hp2⟩:=aI hp;simp only[ae,beq_iff_eq]at hq;obtain⟨⟨⟨rfl,rfl⟩,q3⟩,q4⟩:=hq;obtain⟨ks,hks⟩:=Option.isSome_iff_exists.1 q4;exact .new hr hp2 (x:=.c (.om s.next)) (fun _=>rfl) ⟨q3,⟨ks,hks⟩,rfl⟩ trivial (bI (cP rfl rfl)) (aS _) fun i hi=>by simp at hi
  .simp at hp
 .obtain ⟨x,y,rfl,h2,h3⟩:=fA hx;exact A3 hr h2 h3 hp
 .obtain ⟨x,y,w,rfl,h2,h3,h4⟩:=Eo hx;rw[gK h3];exact y9 hr h2 h4 hp
 .obtain ⟨x,y,w,rfl,h2,h3,h4⟩:=Eo hx;exact Dj hr h2 h3 h4 hp
 .obtain ⟨x,y,rfl,h2,h3⟩:=fA hx;exact Dp hr h2 h3 hp
 .simp at hp
end
end Go.Ev
