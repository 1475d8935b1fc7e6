/- Operations that do not fail, against the abstract machine's, second part. Conditions: as stated. -/
import Derived.Test.YtjjajcecekocdaaGreatFh
open Bool renaming and_eq_true->ah,and_eq_true_iff->cN,not_eq_true'->fB
open List renaming append_assoc->aS,cons_append->aO,drop_drop->dU,flatMap_cons->br,flatten_cons->eC,getElem?_eq_getElem->az,length_append->bm,length_cons->dJ,length_eq_zero_iff->be,length_map->aR,length_nil->gw,map->lV,map_append->gu,map_cons->ap,map_drop->fI,map_map->lA,map_nil->aN,map_take->f_,mem_append->ak,mem_append_left->aG,mem_append_right->aD,mem_cons->aJ,mem_cons_of_mem->aC,mem_cons_self->dZ,mem_singleton->aq,nil_append->bB,not_mem_nil->fo,replicate->aB,replicate_succ->ii,singleton_append->aT
open List.cons renaming inj->cf,injEq->dK
open Nat renaming add_assoc->cS,add_mul->bK,le_of_ble_eq_true->fD,le_refl->am,le_succ->a_,lt_succ_self->aQ
open Option.some renaming inj->aa,injEq->bS
open Prod.mk renaming inj->ad
open Sigma.mk renaming inj->jr
namespace Go.Ev
section
variable{h:H2}{n:Nat}{h1:bh}
theorem Mr{a b:Value}(he:PV a b=true):a=b:=by unfold PV at he;split at he<;>simp_all
theorem rA:∀{a b:List Value},t8 a b=true->a=b:=by
 intro a;induction a with
 |nil=>intro b he;cases b<;>first|rfl|(simp[t8]at he)
 |cons x a ih=>intro b he;cases b with|nil=>simp[t8]at he|cons y b=>simp only[t8,ah]at he;rw[Mr he.1,ih he.2]
theorem sS(a b:List Value):eQ (a++b)=eQ a++eQ b:=by simp[eQ]
theorem rz:∀(t:Ty),jW t=true->aP t (mE t)=cO (ng t):=by
 intro t;induction t with
 |pr a c iha ihc=>intro hd;simp only[jW,ah]at hd;simp[aP,mE,ng,cO,iha hd.1,ihc hd.2]
 |st t ih=>intro hd;exact ih hd
 |ar m t ih=>intro hd;have e:=ih hd;simp only[aP,mE,ng];clear hd ih;induction m with|zero=>rfl|succ m ihm=>simp only[ii,br,eC,e,cO,gu]at ihm|-;rw[ihm]
 |o k=>intro hd;simp[jW]at hd
 |mp k v=>intro hd;simp[jW]at hd
 |_=>intro _;rfl
theorem xB:∀(t:Ty),(eH (AA t).1 false t=true->eY h (AA t).1 (eQ (ng t))/\eW n h (AA t).1)/\(eH (AA t).2 true t=true->eY h (AA t).2 (eQ (ng t))/\eW n h (AA t).2):=by
 have one:∀(t:Ty)(v:V),(eY h v (eQ (ng t))/\eW n h v)->(eY h (.co v .ni) (eQ (ng t))/\eW n h (.co v .ni)):=fun t v hv=>⟨⟨_,[],by simp,hv.1,rfl⟩,hv.2,trivial⟩;have dt:∀(t:Ty),jW t=true->eY h (.x t (mE t)) (eQ (ng t)):=fun t hd=>⟨hd,by rw[rz t hd];simp[eQ,cO]⟩;intro t;induction t with
 |pr a c iha ihc=>refine⟨fun hf=>by simp[AA,eH]at hf,fun hf=>?_⟩;simp only[AA,eH,ah]at hf;obtain⟨q1,q3⟩:=iha.1 hf.1;obtain⟨q4,q5⟩:=ihc.2 hf.2;exact⟨⟨_,_,sS _ _,q1,q4⟩,q3,q5⟩
 |st t ih=>cases hd:jW t with|true=>have:=dt (.st t) hd;simp only[AA,hd,cond_true];exact⟨fun _=>⟨this,trivial⟩,fun _=>one (.st t) _ ⟨this,trivial⟩⟩|false=>simp only[AA,hd,cond_false];exact⟨fun hf=>ih.2 hf,fun hf=>one (.st t) _ (ih.2 hf)⟩
 |sl t ih=>cases hd:jW t with|true=>have:=dt (.sl t) hd;simp only[AA,hd,cond_true];exact⟨fun _=>⟨this,trivial⟩,fun _=>one (.sl t) _ ⟨this,trivial⟩⟩|false=>simp only[AA,hd,cond_false];exact⟨fun _=>⟨rfl,trivial⟩,fun _=>one (.sl t) _ ⟨rfl,trivial⟩⟩
 |ar m t ih=>cases hd:jW t with|true=>have:=dt (.ar m t) hd;simp only[AA,hd,cond_true];exact⟨fun _=>⟨this,trivial⟩,fun _=>one (.ar m t) _ ⟨this,trivial⟩⟩|false=>simp only[AA,hd,cond_false];exact⟨fun hf=>by simp[eH]at hf,fun hf=>by simp[eH]at hf⟩
 |o k=>
  have:eY h (.nl k) (eQ (ng (.o k))):=by
   show eQ (ng (.o k))=[z7 k]
   rcases k with _|_|_|_|k<;>rfl
  exact⟨fun _=>⟨this,trivial⟩,fun _=>one (.o k) _ ⟨this,trivial⟩⟩
 |mp k v=>exact⟨fun _=>⟨rfl,trivial⟩,fun _=>one (.mp k v) _ ⟨rfl,trivial⟩⟩
 |un=>exact⟨fun _=>⟨dt .un rfl,trivial⟩,fun _=>one .un _ ⟨dt .un rfl,trivial⟩⟩
 |i k=>exact⟨fun _=>⟨dt (.i k) rfl,trivial⟩,fun _=>one (.i k) _ ⟨dt (.i k) rfl,trivial⟩⟩
 |b=>exact⟨fun _=>⟨dt .b rfl,trivial⟩,fun _=>one .b _ ⟨dt .b rfl,trivial⟩⟩
 |s=>exact⟨fun _=>⟨dt .s rfl,trivial⟩,fun _=>one .s _ ⟨dt .s rfl,trivial⟩⟩
 |f k=>exact⟨fun _=>⟨dt (.f k) rfl,trivial⟩,fun _=>one (.f k) _ ⟨dt (.f k) rfl,trivial⟩⟩
theorem ym{t:Ty}{v w:V}{cs:List C}(hw:J2 t v=some w)(hv:eY h v cs)(hk:eW n h v):eY h w cs/\eH w false t=true/\eW n h w/\tw w=tw v:=by
 unfold J2 at hw;split at hw
 .rename_i y hy;obtain rfl:=aa hw;cases hd:jW t with|false=>rw[hd]at hy;simp at hy|true=>rw[hd,cond_true]at hy;exact⟨⟨hd,pK hy hv⟩,by simp[eH],trivial,(C9 hy).symm⟩
 .cases hf:eH v false t with|false=>rw[hf]at hw;simp at hw|true=>rw[hf,cond_true]at hw;obtain rfl:=aa hw;exact⟨hv,hf,hk,rfl⟩
theorem Jz{t:Ty}{v:V}{y:El t}(hy:gX t v=some y):KE v:=by cases v<;>first|trivial|(simp[gX]at hy)
theorem Lc{t:Ty}{v:V}(hf:eH v false t=true):KE v:=by cases v<;>first|trivial|(cases t<;>simp[eH]at hf)
theorem D7{t:Ty}{v w:V}(hw:J2 t v=some w):KE v:=by
 unfold J2 at hw;split at hw
 .rename_i y hy;cases hd:jW t with|false=>rw[hd]at hy;simp at hy|true=>rw[hd,cond_true]at hy;exact Jz hy
 .cases hf:eH v false t with|false=>rw[hf]at hw;simp at hw|true=>exact Lc hf
theorem Nl{t:Ty}{v:V}(hf:eH v false t=true)(ha:li t=true):tw v=true:=by
 cases t<;>simp[li]at ha
 all_goals(cases v<;>first|rfl|(simp[eH]at hf;done)|skip)
 .simp only[eH,decide_eq_true_eq]at hf;subst hf;rfl
 .simp only[eH,decide_eq_true_eq]at hf;subst hf;rfl
theorem JC{t:Ty}:∀(is:List Nat)(ps:List (Nat×Nat))(ws:List V)(c c':V)(cs:List C)(xs:List TV),xj t is ps ws c=some c'->eH c false t=true->eY h c cs->eW n h c->l9 h ws xs->(∀w∈ws,eW n h w)->
  ∃cs',kE cs (ps.zip xs)=some cs'/\eY h c' cs'/\eW n h c'/\eH c' false t=true:=by
 intro is;induction is with
 |nil=>
  intro ps ws c c' cs xs hb hf hc hk hx hw;cases ps with
  |cons p ps=>simp[xj]at hb
  |nil=>cases ws with|cons w ws=>simp[xj]at hb|nil=>obtain rfl:=aa hb;exact⟨cs,by simp[kE],hc,hk,hf⟩
 |cons i is ih=>
  intro ps ws c c' cs xs hb hf hc hk hx hw;cases ps with
  |nil=>simp[xj]at hb
  |cons p ps=>
   obtain⟨off,m⟩:=p;cases ws with
   |nil=>simp[xj]at hb
   |cons w ws=>
    obtain⟨x,ys,rfl,hx1,hx2⟩:=fT hx;have hw1:=hw w (by simp)
    have oV:∀(pe:Pe)(a:Ty),ru t [pe]=some a->Gr t [pe]->mJ t [pe]=off->bG a=m->(match J2 a w with|some w=>(match oz c [pe] w with|some c=>bif eH c false t then xj t is ps ws c else none|none=>none)|none=>none)=some c'->
      ∃cs',kE cs (((off,m),x)::ps.zip ys)=some cs'/\eY h c' cs'/\eW n h c'/\eH c' false t=true:=by
     intro pe a h1 h2 h3 h4 hb;split at hb
     .rename_i w1 hw1';obtain⟨cw,q1,q2⟩:=qP (oK (D7 hw1') hx1);split at hb
      .rename_i c1 hc1;cases hfc:eH c1 false t with|false=>rw[hfc]at hb;simp at hb|true=>rw[hfc,cond_true]at hb;obtain⟨k1,k2,k3,_⟩:=ym hw1' q1 hw1;have hl:=ic k1;rw[gH _ _ _ k2,h4]at hl;have hsp:=vV [pe] c t w1 c1 cs cw a hf hc h2 hc1 h1 k1 (by rw[hl,h4]);rw[h3]at hsp;have hle:=v8 [pe] t a h1 h2;have hcl:=ic hc;rw[gH _ _ _ hf]at hcl;obtain⟨cs',e1,e2,e3,e4⟩:=ih ps ws c1 c' _ ys hb hfc hsp (E6 _ _ _ _ hk k3 hc1) hx2 fun w hw'=>hw w (by simp[hw']);refine⟨cs',?_,e2,e3,e4⟩;simp only[kE,q2];rw[if_pos ⟨hl,by omega⟩,e1]
      .simp at hb
     .simp at hb
    cases t with
    |st u=>
     simp only[xj]at hb;split at hb
     .rename_i a ha;cases hq:(oN u i==off)&&(bG a==m)with|false=>rw[hq]at hb;simp at hb|true=>rw[hq,cond_true]at hb;simp only[ah,beq_iff_eq]at hq;exact oV (.fd i) a (by simp[ru,ha]) ⟨a,ha,by cases a<;>trivial⟩ (by simp only[mJ,ha];rw[hq.1];cases a<;>rfl) hq.2 hb
     .simp at hb
    |ar k u=>simp only[xj]at hb;cases hq:(i*bG u==off)&&(bG u==m)&&decide (i<k)with|false=>rw[hq]at hb;simp at hb|true=>rw[hq,cond_true]at hb;simp only[ah,beq_iff_eq,decide_eq_true_eq]at hq;exact oV (.ix i) u (by simp[ru]) ⟨hq.2,by cases u<;>trivial⟩ (by simp only[mJ];rw[hq.1.1];cases u<;>rfl) hq.1.2 hb
    |_=>simp[xj]at hb
end
theorem NS(a b:ByteArray):(a==b)=decide (a=b):=by obtain⟨x⟩:=a;obtain⟨y⟩:=b;show ByteArray.beq ⟨x⟩ ⟨y⟩=_;unfold ByteArray.beq;rw[Bool.eq_iff_iff];simp[ByteArray.ext_iff]
def uv(t:Ty)(x:El t):List Value:=(aP t x).map fun|.lit y=>y|_=>.nilFunc
theorem wT{k1 k2:List Kd}{a1 a2 b1 b2:List Value}{p q:Bool}(h1:fU k1 a1 b1=some p)(h2:fU k2 a2 b2=some q):fU (k1++k2) (a1++a2) (b1++b2)=some (p&&q):=by
 induction k1 generalizing a1 b1 p with
 |nil=>cases a1<;>cases b1<;>simp[fU]at h1;subst h1;simpa using h2
 |cons k k1 ih=>
  cases a1<;>cases b1<;>simp only[fU]at h1<;>first|cases h1;done|skip
  split at h1
  .rename_i c d hc hd;obtain rfl:=aa h1;simp only[aO,fU,hc,ih hd,Bool.and_assoc]
  .simp at h1
theorem yB{k1 k2:List Kd}{a1 a2:List Value}(h1:xw k1 a1=true)(h2:xw k2 a2=true):xw (k1++k2) (a1++a2)=true:=by
 induction k1 generalizing a1 with
 |nil=>cases a1<;>simp[xw]at h1;simpa using h2
 |cons k k1 ih=>
  cases a1<;>simp only[xw]at h1<;>first|cases h1;done|skip
  simp only[ah]at h1;simp[xw,h1.1,ih h1.2]
theorem tT:∀(t:Ty)(ks:List Kd),zj t=some ks->(∀x,aP t x=(uv t x).map .lit)/\(∀x,xw ks (uv t x)=true)/\(∀a b:El t,fU ks (uv t a) (uv t b)=some (decide (a=b)))/\ks.length=bG t:=by
 intro t;induction t with
 |pr a c iha ihc=>
  intro ks hk;simp only[zj]at hk;split at hk
  .rename_i x y hx hy;obtain rfl:=aa hk;obtain⟨a1,a2,a3,a4⟩:=iha x hx;obtain⟨c1,c2,c3,c4⟩:=ihc y hy;have e:∀v:El (.pr a c),uv (.pr a c) v=uv a v.1++uv c v.2:=fun v=>by simp[uv,aP]
   refine⟨fun v=>by rw[e,gu,<-a1,<-c1];rfl,fun v=>by rw[e];exact yB (a2 _) (c2 _),fun u v=>?_,by simp[bG,a4,c4]⟩;rw[e,e,wT (a3 _ _) (c3 _ _)];congr 1;rw[Bool.eq_iff_iff];simp[Prod.ext_iff]
  .simp at hk
 |st t ih=>intro ks hk;exact ih ks hk
 |ar m t ih=>
  intro ks hk;simp only[zj]at hk;split at hk
  .rename_i x hx;obtain rfl:=aa hk;obtain⟨a1,a2,a3,a4⟩:=ih x hx;have e:∀v:El (.ar m t),uv (.ar m t) v=v.1.flatMap (uv t):=fun v=>by simp only[uv,aP,List.map_flatMap];rfl
   refine⟨fun v=>?_,fun v=>?_,fun u v=>?_,?_⟩
   .rw [e];simp only[aP,List.map_flatMap];congr 1;funext y;exact a1 y
   .rw [e];obtain⟨l,hl⟩:=v;clear e hk ih;simp only;induction l generalizing m with|nil=>subst hl;rfl|cons y l ihl=>subst hl;simp only[dJ,ii,eC,br];exact yB (a2 y) (ihl _ rfl)
   .rw [e,e];obtain⟨l,hl⟩:=u;obtain⟨r,hr⟩:=v
    have key:∀(m:Nat)(l r:List (El t)),l.length=m->r.length=m->fU (aB m x).flatten (l.flatMap (uv t)) (r.flatMap (uv t))=some (decide (l=r)):=by
     intro m;induction m with
     |zero=>intro l r h1 h2;obtain rfl:=be.1 h1;obtain rfl:=be.1 h2;rfl
     |succ m ihm=>
      intro l r h1 h2;cases l with
      |nil=>simp at h1
      |cons y l=>cases r with|nil=>simp at h2|cons z r=>simp only[ii,eC,br];rw[wT (a3 y z) (ihm l r (by simpa using h1) (by simpa using h2))];congr 1;rw[Bool.eq_iff_iff];simp
    rw[key m l r hl hr];congr 1;rw[Bool.eq_iff_iff];simp only[decide_eq_true_eq];exact⟨fun h=>Subtype.ext h,fun h=>congrArg Subtype.val h⟩
   .simp [bG,a4]
  .simp at hk
 |i k=>intro ks hk;obtain rfl:=aa hk;refine⟨fun _=>rfl,fun x=>by simp[uv,aP,xw,GI],fun a b=>?_,rfl⟩;simp only[uv,aP,ap,aN,fU,BB,and_self,if_true,Bool.and_true];congr 1
 |b=>intro ks hk;obtain rfl:=aa hk;refine⟨fun _=>rfl,fun x=>by simp[uv,aP,xw,GI],fun a b=>?_,rfl⟩;simp only[uv,aP,ap,aN,fU,BB,Bool.and_true];congr 1
 |s=>intro ks hk;obtain rfl:=aa hk;refine⟨fun _=>rfl,fun x=>by simp[uv,aP,xw,GI],fun a b=>?_,rfl⟩;simp only[uv,aP,ap,aN,fU,BB,Bool.and_true];rw[NS]
 |_=>intro ks hk;simp[zj]at hk
section
variable{h:H2}{n:Nat}{h1:bh}
theorem Hl{z:Bool}{op:BinOp}{k k':IntKind}{a b:Int}{v:V}(hb:NR z op k k' a b=some v)(hz:z=true->0<b):∃y,oH op (.int k a) (.int k' b)=some y/\ft h v (lv y)/\eW n h v:=by
 have one:∀(q:IntKind)(c:Int),ft h (.x (.i q) c) (lv (.int q c)):=fun q c=>bU (dM rfl ⟨rfl,rfl⟩);have onb:∀(c:Bool),ft h (.x .b c) (lv (.bool c)):=fun c=>bU (dM rfl ⟨rfl,rfl⟩);cases op<;>simp only[NR]at hb
 all_goals first
  |(cases z<;>simp only[cond_true,cond_false]at hb<;>first|(cases hb;done)|skip
    have:=hz rfl;obtain rfl:=aa hb;refine⟨_,by simp only[oH];rw[if_neg (by omega)];rfl,one _ _,trivial⟩)
  |skip
 all_goals
  by_cases hk:k=k'
  .subst hk;simp only[decide_true,cond_true]at hb
   first
    |(cases hb;done)
    |(obtain rfl:=aa hb
      refine⟨_,by simp only[oH,if_true];rfl,?_,trivial⟩
      first|exact one _ _|exact onb _)
    |(obtain rfl:=aa hb
      first
       |exact⟨.int k (uS k a b),by simp only[oH,if_true,vD];rfl,one _ _,trivial⟩
       |exact⟨.int k (PL k a b),by simp only[oH,if_true,JK];rfl,one _ _,trivial⟩
       |exact⟨.int k (LL k a b),by simp only[oH,if_true,FM];rfl,one _ _,trivial⟩
       |exact⟨.int k (xA k a b),by simp only[oH,if_true,yW];rfl,one _ _,trivial⟩)
    |(cases z<;>simp only[cond_true,cond_false]at hb<;>first|(cases hb;done)|skip
      have:=hz rfl;obtain rfl:=aa hb;refine⟨_,by simp only[oH,if_true];rw[if_neg (by omega)],one _ _,trivial⟩)
  .simp [hk]at hb
theorem BI{h:H2}{k:FloatKind}{a:Nat}{x:TV}(hx:ft h (.x (.f k) a) x):x=lv (.float k a):=by obtain⟨c,rfl,_,hc⟩:=iS (v:=.x (.f k) a) hx rfl;obtain rfl:=(cf hc).1;rfl
theorem EN{op:BinOp}{k k':FloatKind}{a b:Nat}{v:V}(hb:JD op k k' a b=some v):∃y,nJ op (.float k a) (.float k' b)=some y/\ft h v (lv y)/\eW n h v:=by
 have one:∀(q:FloatKind)(c:Nat),ft h (.x (.f q) c) (lv (.float q c)):=fun q c=>bU (dM rfl ⟨rfl,rfl⟩);have onb:∀(c:Bool),ft h (.x .b c) (lv (.bool c)):=fun c=>bU (dM rfl ⟨rfl,rfl⟩);unfold JD at hb;by_cases hk:k=k'
 .subst hk;simp only[decide_true,cond_true]at hb;have ar:∀(f:Option Nat),∃y,(match f.map (Value.float k)with|some v=>some v|none=>if f=none then some (Value.float k (t_ k))else none)=some y/\ft h (.x (.f k) (f.getD (t_ k))) (lv y)/\eW n h (.x (.f k) (f.getD (t_ k))):=by intro f;cases f with|none=>exact⟨_,rfl,one _ _,trivial⟩|some c=>exact⟨_,rfl,one _ _,trivial⟩
  cases op<;>first
   |(cases hb;done)
   |(obtain rfl:=aa hb
     first
      |exact⟨_,by simp only[nJ,oH,if_true];rfl,onb _,trivial⟩
      |(simp only[nJ,oH,AU,if_true]
        first|exact ar (k.format.add a b)|exact ar (k.format.sub a b)|exact ar (k.format.mul a b)|exact ar (k.format.div a b)))
 .simp [hk]at hb
theorem Gw{m:Bool}{k:FloatKind}:∀{r:List V}{x y:Nat}{xs:List TV},Gx m k x r=some y->l9 h r xs->Iu m (.float k x) (xs.map some)=some (.float k y):=by
 intro r;induction r with
 |nil=>intro x y xs hm hx;obtain rfl:=kR hx;obtain rfl:=aa hm;rfl
 |cons v r ih=>
  intro x y xs hm hx;obtain⟨x1,ys,rfl,h1,h2⟩:=fT hx;cases v with
  |x t c=>
   cases t with
   |f k'=>
    simp only[Gx]at hm;by_cases hk:k'=k
    .subst hk;simp only[decide_true,cond_true]at hm;obtain rfl:=BI h1;have:=ih hm h2;have e:Bz m (.float k' x) (.float k' c)=some (.float k' (bif m then Nn k' x c else Nm k' x c)):=by cases m<;>simp only[Bz,Nn,Nm,cond_true,cond_false,if_true]<;>(cases k'.format.order x c with|none=>rfl|some o=>cases o<;>rfl)
     simp only[ap,lv,Iu,e];exact this
    .simp [hk]at hm
   |_=>simp[Gx]at hm
  |_=>simp[Gx]at hm
theorem Hk{op:BinOp}{a b:ByteArray}{v:V}(hb:NQ op a b=some v):∃y,oH op (.string a) (.string b)=some y/\ft h v (lv y)/\eW n h v:=by
 have onb:∀(c:Bool),ft h (.x .b c) (lv (.bool c)):=fun c=>bU (dM rfl ⟨rfl,rfl⟩);cases op<;>simp only[NQ]at hb<;>first|(cases hb;done)|skip
 all_goals(obtain rfl:=aa hb;exact⟨_,rfl,onb _,trivial⟩)
theorem Iv{m:Bool}{k:IntKind}:∀{r:List V}{x y:Int}{xs:List TV},Oa m k x r=some y->l9 h r xs->Iu m (.int k x) (xs.map some)=some (.int k y):=by
 intro r;induction r with
 |nil=>intro x y xs hm hx;obtain rfl:=kR hx;obtain rfl:=aa hm;rfl
 |cons v r ih=>
  intro x y xs hm hx;obtain⟨x1,ys,rfl,h1,h2⟩:=fT hx;cases v with
  |x t c=>
   cases t with
   |i k'=>
    simp only[Oa]at hm;by_cases hk:k'=k
    .subst hk;simp only[decide_true,cond_true]at hm;obtain rfl:=jU h1;have:=ih hm h2;cases m<;>simpa[Iu,Bz]using this
    .simp [hk]at hm
   |_=>simp[Oa]at hm
  |_=>simp[Oa]at hm
theorem m7{α:Type}:∀(l:List α),dz (l.map some)=some l:=by intro l;induction l with|nil=>rfl|cons a l ih=>simp[dz,ih]
theorem Iq{kind:Nat}{v w:V}{x:TV}{neg:Bool}{c:Call}{nx:Nat}(hx:ft h v x)(ha:ig h v=true)(hn:yp h kind v=some w):
  ∃y,bX c (.rg kind neg) [some x] h1 nx=some (y,[],[],nx)/\ft h (bif neg then Is w else w) y/\eW n h (bif neg then Is w else w):=by
 have kb:∀b,ft h (.kb b) (tB b):=fun b=>bU (dM rfl rfl);have xb:∀b,ft h (.x .b b) (tB b):=fun b=>bU (dM rfl ⟨rfl,rfl⟩)
 have sl:∀q,t9 h v=some q->(bif kind==0 then(match t9 h v with|some ⟨_,s,_⟩=>some (.x .b s.eS)|none=>none)else none)=some w->
   ∃y,bX c (.rg kind neg) [some x] h1 nx=some (y,[],[],nx)/\ft h (bif neg then Is w else w) y/\eW n h (bif neg then Is w else w):=by
  intro q hq hw;cases hkk:kind==0 with
  |false=>rw[hkk]at hw;simp at hw
  |true=>
   obtain rfl:kind=0:=by simpa using hkk
   rw[hq]at hw;simp only[hkk,cond_true]at hw;obtain rfl:=aa hw;refine⟨_,MY hx ha hq,?_⟩;cases neg
   .exact ⟨xb _,trivial⟩
   .exact ⟨xb _,trivial⟩
 cases v with
 |nl k=>
  simp only[yp]at hn;cases hkk:(k==kind)&&Nat.blt k 3 with
  |false=>rw[hkk]at hn;simp at hn
  |true=>
   rw[hkk,cond_true]at hn;obtain rfl:=aa hn;simp only[ah,beq_iff_eq]at hkk;obtain⟨rfl,hlt⟩:=hkk;have hlt:k<3:=fD hlt;rw[uA hx]
   match k,hlt with|0,_=>cases neg<;>exact⟨_,rfl,kb _,trivial⟩|1,_=>cases neg<;>exact⟨_,rfl,kb _,trivial⟩|2,_=>cases neg<;>exact⟨_,rfl,kb _,trivial⟩
 |pt t v=>
  simp only[yp]at hn;cases hkk:kind==1 with
  |false=>rw[hkk]at hn;simp at hn
  |true=>
   rw[hkk,cond_true]at hn;obtain rfl:=aa hn;obtain rfl:kind=1:=by simpa using hkk
   rw[(xG hx).2];cases neg<;>exact⟨_,rfl,kb _,trivial⟩
 |op id t p=>
  simp only[yp]at hn;cases hkk:kind==1 with
  |false=>rw[hkk]at hn;simp at hn
  |true=>
   rw[hkk,cond_true]at hn;obtain rfl:=aa hn;obtain rfl:kind=1:=by simpa using hkk
   rw[vO hx];cases neg<;>exact⟨_,rfl,kb _,trivial⟩
 |ep id m t p=>
  simp only[yp]at hn;cases hkk:kind==1 with
  |false=>rw[hkk]at hn;simp at hn
  |true=>
   rw[hkk,cond_true]at hn;obtain rfl:=aa hn;obtain rfl:kind=1:=by simpa using hkk
   rw[sE hx];cases neg<;>exact⟨_,rfl,kb _,trivial⟩
 |fn z f l=>
  simp only[yp]at hn;cases hkk:kind==2 with
  |false=>rw[hkk]at hn;simp at hn
  |true=>
   rw[hkk,cond_true]at hn;obtain rfl:=aa hn;obtain rfl:kind=2:=by simpa using hkk
   rcases Du hx with⟨_,ds,_,rfl⟩|⟨_,cs,_,rfl⟩<;>(cases neg<;>exact⟨_,rfl,kb _,trivial⟩)
 |x t v=>cases hq:t9 h (.x t v)with|none=>simp[yp,hq]at hn|some q=>exact sl q hq hn
 |so id=>cases hq:t9 h (.so id)with|none=>simp[yp,hq]at hn|some q=>exact sl q hq hn
 |sb id ver lo t r=>cases hq:t9 h (.sb id ver lo t r)with|none=>simp[yp,hq]at hn|some q=>exact sl q hq hn
 |_=>simp[yp,t9]at hn
theorem I_{off m i:Nat}{v w:V}{x:TV}{c:Call}{nx:Nat}(hx:ft h v x)(hk:eW n h v)(hw:Eo off m i v=some w):
  ∃y,bX c (.fieldAddr off m) [some x] h1 nx=some (y,[],[],nx)/\ft h w y/\eW n h w:=by
 have path:∀(t u a:Ty)(p:pS),ru t p=some (.st u)->BA u i=some a->Gr t p->Gr t (p++[.fd i])/\mJ t (p++[.fd i])=mJ t p+oN u i:=by
  intro t u a p;induction p generalizing t with
  |nil=>
   intro h1 h2 _;have e:ru t []=some t:=by cases t<;>rfl
   obtain rfl:t=.st u:=by rw[e]at h1;exact aa h1
   refine⟨⟨a,h2,by cases a<;>trivial⟩,?_⟩;simp only[bB,mJ,h2];cases a<;>simp[mJ]
  |cons q p ih=>
   intro h1 h2 h3;cases q with
   |fd j=>cases t with|st t=>obtain⟨b2,hb,h3⟩:=h3;simp only[ru,hb]at h1;obtain⟨q1,q2⟩:=ih b2 h1 h2 h3;refine⟨⟨b2,hb,q1⟩,?_⟩;simp only[aO,mJ,hb,q2];exact(cS _ _ _).symm|_=>exact h3.elim
   |ix k=>cases t with|ar l t=>obtain⟨hk,h3⟩:=h3;obtain⟨q1,q2⟩:=ih t h1 h2 h3;refine⟨⟨hk,q1⟩,?_⟩;simp only[aO,mJ,q2];exact(cS _ _ _).symm|_=>exact h3.elim
 cases v with
 |op id t p=>
  simp only[Eo]at hw;split at hw
  .rename_i u hu;split at hw
   .rename_i a hf;cases hq:(oN u i==off)&&(bG a==m)with
    |false=>rw[hq]at hw;simp at hw
    |true=>
     rw[hq,cond_true]at hw;obtain rfl:=aa hw;simp only[ah,beq_iff_eq]at hq;obtain⟨q1,q2⟩:=path t u a p hu hf hk.2;rw[vO hx];refine⟨_,rfl,bU (dM rfl ?_),hk.1,q1⟩;show[_]=[_]
     rw[q2,hq.1]
   .simp at hw
  .simp at hw
 |ep id k t p=>
  simp only[Eo]at hw;split at hw
  .rename_i u hu;split at hw
   .rename_i a hf;cases hq:(oN u i==off)&&(bG a==m)with
    |false=>rw[hq]at hw;simp at hw
    |true=>
     rw[hq,cond_true]at hw;obtain rfl:=aa hw;simp only[ah,beq_iff_eq]at hq;obtain⟨q1,q2⟩:=path t u a p hu hf hk.2.1;rw[sE hx];refine⟨_,rfl,bU (dM rfl ?_),hk.1,q1,hk.2.2⟩;show[_]=[_]
     rw[q2,hq.1]
   .simp at hw
  .simp at hw
 |pt t v=>
  cases t with
  |st u=>
   simp only[Eo]at hw;split at hw
   .rename_i a y hy;cases hq:(oN u i==off)&&(bG a==m)with
    |false=>rw[hq]at hw;simp at hw
    |true=>
     rw[hq,cond_true]at hw;obtain rfl:=aa hw;simp only[ah,beq_iff_eq]at hq;obtain⟨a',y',e,f1,f2,f3⟩:=ra _ _ _ _ hy;cases e;obtain⟨hd,rfl⟩:=xG hx;refine⟨_,?_,bU (dM (c:=.d (.pt (aP a y))) rfl ⟨yM u _ _ hd f1,rfl⟩),trivial⟩;have hle:off+m<=(aP (.st u) v).length:=by rw[bH];show _<=bG u;omega
     have e2:((aP (.st u) v).drop off).take m=aP a y:=by rw[<-hq.1,<-hq.2];exact f3
     simp only[bX,jV];rw[if_pos hle,e2]
   .simp at hw
  |_=>simp[Eo]at hw
 |_=>simp[Eo]at hw
theorem Gt:∀(l:V)(i:Nat)(w:V)(cs:List C),eY h l cs->ss l i=some w->∃cw,eY h w cw/\La l i+xO w<=cs.length/\(cs.drop (La l i)).take (xO w)=cw:=by
 intro l;induction l with
 |co a r iha ihr=>intro i w cs hv hw;obtain⟨x,y,rfl,k1,k2⟩:=hv;have hl:=ic k1;cases i with|zero=>obtain rfl:=aa hw;refine⟨x,k1,by simp[La];omega,?_⟩;simp only[La,List.drop_zero];rw[<-hl,List.take_left]|succ i=>obtain⟨cw,q1,q2,q3⟩:=ihr i w y k2 hw;refine⟨cw,q1,by simp only[La,bm];omega,?_⟩;simp only[La];rw[<-dU,<-hl,List.drop_left,q3]
 |_=>intro i w cs hv hw;simp[ss]at hw
theorem KT:∀(l:V)(i:Nat)(w:V)(xs:List TV),AF h l xs->ss l i=some w->∃x,xs[i]?=some x/\sF h w x:=by
 intro l;induction l with
 |co a r iha ihr=>intro i w xs hv hw;obtain⟨x,ys,rfl,k1,k2⟩:=hv;cases i with|zero=>obtain rfl:=aa hw;exact⟨x,rfl,k1⟩|succ i=>exact ihr i w ys k2 hw
 |_=>intro i w xs hv hw;simp[ss]at hw
end
section
variable{h:H2}{n:Nat}{h1:bh}
def N2(h:H2)(n:Nat)(h1:bh)(k:K)(xs:List TV)(v:V)(l:List Nat):Prop:=∀(c:Call)(nx:Nat),∃x au,bX c k (xs.map some) h1 nx=some (x,[],au,nx)/\ft h v x/\eW n h v/\∀i∈au,i∈l
theorem N2.of{k:K}{xs:List TV}{v:V}{x:TV}(he:∀(c:Call)(nx:Nat),bX c k (xs.map some) h1 nx=some (x,[],[],nx))(hx:ft h v x)(hk:eW n h v):N2 h n h1 k xs v []:=fun c nx=>⟨x,[],he c nx,hx,hk,fun i hi=>by simp at hi⟩
theorem xb(b:Bool):ft h (.x .b b) (tB b):=bU (dM rfl ⟨rfl,rfl⟩)
theorem xf(k:FloatKind)(a:Nat):ft h (.x (.f k) a) (lv (.float k a)):=bU (dM rfl ⟨rfl,rfl⟩)
theorem xi(k:IntKind)(a:Int):ft h (.x (.i k) a) (tI k a):=bU (dM rfl ⟨rfl,rfl⟩)
theorem N7(a:ByteArray):ft h (.x .s a) (.c (.d (dS a))):=bU (dM rfl ⟨rfl,rfl⟩)
def N8(t:Ty)(y:El t):TV:=if li t=true then .agg ((aP t y).map .d)else match aP t y with|d::_=>.c (.d d)|[]=>.gB []
theorem E0{t:Ty}(y:El t){va:Bool}(hv:li t=va)(h1:(va||bG t==1)=true):pm va (aP t y)=some (N8 t y):=by
 subst hv;unfold pm N8;cases ha:li t with
 |true=>rfl
 |false=>
  rw[ha]at h1;have:=bH t y;rw[show bG t=1 by simpa using h1]at this;cases he:aP t y with
  |nil=>rw[he]at this;simp at this
  |cons d r=>
   rw[he]at this;have:r=[]:=by simpa using this
   subst this;rfl
theorem HE{t:Ty}{y:El t}(hd:jW t=true)(h1:(li t||bG t==1)=true):sF h (.x t y) (N8 t y):=by
 unfold N8;cases ha:li t with
 |true=>exact xI ha ⟨hd,rfl⟩
 |false=>
  rw[ha]at h1;have:=bH t y;rw[show bG t=1 by simpa using h1]at this;cases he:aP t y with
  |nil=>rw[he]at this;simp at this
  |cons d r=>
   rw[he]at this;have:r=[]:=by simpa using this
   subst this;exact dM ha ⟨hd,by rw[he];rfl⟩
theorem Hr(f:TV->Option C)(hf:∀c,f (.c c)=some c):∀(cs:List C),dz ((cs.map TV.c).map f)=some cs:=by intro cs;induction cs with|nil=>rfl|cons c cs ih=>simp only[ap,hf,dz,ih]
theorem yy:∀(l:List Value),lH (l.map fun v=>C.d (.lit v))=some l:=by intro l;induction l with|nil=>rfl|cons v l ih=>simp[lH,ih]
theorem vz{kt:Ty}{ks:List Kd}{v:V}{x:TV}{y:El kt}{ka:Bool}(hx:ft h v x)(hc:rx kt v=some y)(hk:zj kt=some ks)(ha:li kt=ka):mB ka ks x=some (uv kt y):=by
 obtain⟨h1,h2,_,h4⟩:=tT kt ks hk;obtain⟨g1,g2⟩:=tZ hx hc;cases ka with
 |true=>
  rw[g1 ha];have e:(aP kt y).map C.d=(uv kt y).map fun v=>C.d (.lit v):=by rw[h1 y,lA];rfl
  simp only[mB];rw[if_pos ⟨trivial,by rw[aR,bH,h4]⟩,e,yy];simp only[h2 y,if_true]
 |false=>
  obtain⟨d,hd,rfl⟩:=g2 ha;have hl:=bH kt y;rw[hd]at hl;have h5:=h1 y;rw[hd]at h5;cases hv:uv kt y with
  |nil=>rw[hv]at h5;simp at h5
  |cons q r=>
   rw[hv]at h5;simp only[ap,dK]at h5;obtain⟨rfl,h6⟩:=h5;have:r=[]:=by simpa using h6.symm
   subst this;simp only[mB];rw[if_pos ⟨trivial,by rw[h4,<-hl];rfl⟩];have h7:=h2 y;rw[hv]at h7;simp only[lH,h7,if_true]
theorem Iy{v:V}{q:(k:Ty)×(v:Ty)×Mp (El k) (El v)×List Nat}{x:TV}(hr:HR n h1 h)(hm:KY h v=some q)(hx:ft h v x):
  ∃id,v=.om id/\x=.c (.om id)/\q.2.2.2=[id]/\fO h id=some (.mp q.1 q.2.1 q.2.2.1)/\ao h1 id=xu (li q.1) (li q.2.1) (uv q.1) (aP q.2.1) q.2.2.1:=by
 cases v with
 |om id=>
  simp only[KY]at hm;split at hm
  .rename_i k v m ho;obtain rfl:=aa hm;exact⟨id,rfl,xH hx,rfl,ho,(hr.ob id _ ho).2.1.2.2⟩
  .simp at hm
 |_=>simp[KY]at hm
theorem IA{c:Call}{x y:TV}{H:bh}{l:List Nat}{nx:Nat}(h:bX c (.load false 1) [some x] H nx=some (y,[],l,nx)):bX c .uj [some x] H nx=some (y,[],l,nx):=by
 cases x with
 |c p=>
  have h:(match gT false 1 p H with|some (v,au)=>some (v,([]:eg),au,nx)|none=>none)=some (y,[],l,nx):=h;show(match gT false 1 p H with|some (v,au)=>some (v,([]:eg),au,nx)|none=>lp false 1 p H nx)=some (y,[],l,nx);split at h
  .exact h
  .cases h
 |_=>cases h
theorem FZ{o:OP}{vs:List V}{v:V}{l:List Nat}{xs:List TV}(hr:HR n h1 h)(ht:Mw o vs h=some (v,l))(hx:l9 h vs xs)(hk:∀w∈vs,eW n h w)(ha:∀w∈vs,ig h w=true)
  (hp:KC o.o.args=true->∀a k b,vs=[a,.x (.i k) b]->0<b):N2 h n h1 o.o.k xs v l:=by
 obtain⟨⟨d,k,args,g⟩,t,fi⟩:=o;simp only at hp|-;unfold Mw at ht;simp only at ht;split at ht
 .--mv
  obtain⟨rfl,rfl⟩:=ad (aa ht);obtain⟨x,rfl,h2⟩:=gS hx;exact .of (fun _ _=>rfl) h2 (hk _ (by simp))
 .--nilCheck
  obtain⟨x,rfl,h2⟩:=gS hx;have hk1:=hk _ (aq.2 rfl);split at ht
  .obtain ⟨rfl,rfl⟩:=ad (aa ht);exact .of (fun _ _=>by rw[(xG h2).2];rfl) h2 hk1
  .obtain ⟨rfl,rfl⟩:=ad (aa ht);refine .of (fun _ _=>?_) h2 hk1;rcases Du h2 with⟨_,ds,_,rfl⟩|⟨_,cs,_,rfl⟩<;>rfl
  .obtain ⟨rfl,rfl⟩:=ad (aa ht);exact .of (fun _ _=>by rw[sE h2];rfl) h2 hk1
  .obtain ⟨rfl,rfl⟩:=ad (aa ht);exact .of (fun _ _=>by rw[vO h2];rfl) h2 hk1
  .simp at ht
 .--sy int
  rename_i op q a q' b;obtain⟨x,y,rfl,h2,h3⟩:=hC hx;obtain rfl:=jU h2;obtain rfl:=jU h3;split at ht
  .rename_i w hw;obtain⟨rfl,rfl⟩:=ad (aa ht);obtain⟨y,h4,h5,h6⟩:=Hl (h:=h) (n:=n) hw fun hz=>hp hz _ _ _ rfl;exact .of (fun _ _=>by simp only[lV,bX,nJ,h4]) h5 h6
  .simp at ht
 .--sy float
  rename_i op q a q' b;obtain⟨x,y,rfl,h2,h3⟩:=hC hx;obtain rfl:=BI h2;obtain rfl:=BI h3;split at ht
  .rename_i w hw;obtain⟨rfl,rfl⟩:=ad (aa ht);obtain⟨y,h4,h5,h6⟩:=EN (h:=h) (n:=n) hw;exact .of (fun _ _=>by show(match nJ op (.float q a) (.float q' b)with|some v=>some (lv v,([]:eg),([]:List Nat),_)|none=>none)=_;rw[h4]) h5 h6
  .simp at ht
 .--sy string
  obtain⟨x,y,rfl,h2,h3⟩:=hC hx;obtain rfl:=wI h2;obtain rfl:=wI h3;split at ht
  .rename_i w hw;obtain⟨rfl,rfl⟩:=ad (aa ht);obtain⟨y,h4,h5,h6⟩:=Hk (h:=h) (n:=n) hw;exact .of (fun _ _=>by simp only[lV,bX,nJ,h4]) h5 h6
  .simp at ht
 .--uN
  rename_i neg v1 v2;obtain⟨x,y,rfl,h2,h3⟩:=hC hx;split at ht
  .rename_i a b ha' hb';obtain⟨rfl,rfl⟩:=ad (aa ht);rw[Me h2 ha',Me h3 hb'];refine .of (x:=tB (bif neg then !(a==b)else a==b)) (fun _ _=>?_) (xb _) trivial;cases neg<;>rfl
  .simp at ht
 .--rg
  obtain⟨x,rfl,h2⟩:=gS hx;split at ht
  .rename_i w hw;obtain⟨rfl,rfl⟩:=ad (aa ht);intro c nx;obtain⟨y,h4,h5,h6⟩:=Iq (n:=n) (h1:=h1) (c:=c) (nx:=nx) h2 (ha _ (by simp)) hw;exact⟨y,[],h4,h5,h6,fun i hi=>by simp at hi⟩
  .simp at ht
 .--yH
  rename_i neg ks t1 a w;obtain⟨x,y,rfl,h2,h3⟩:=hC hx;split at ht
  .rename_i b hb;cases hq:li t1&&decide (zj t1=some ks)with
   |false=>rw[hq]at ht;simp at ht
   |true=>
    rw[hq,cond_true]at ht;obtain⟨rfl,rfl⟩:=ad (aa ht);simp only[ah,decide_eq_true_eq]at hq;obtain⟨k1,k2,k3,k4⟩:=tT t1 ks hq.2;have e1:=(tZ (v:=.x t1 a) (u:=t1) (y:=a) h2 (by simp[rx,kH,gX,fF])).1 hq.1;have e2:=(tZ h3 hb).1 hq.1;have el:∀z:El t1,lH ((aP t1 z).map C.d)=some (uv t1 z):=fun z=>by rw[show(aP t1 z).map C.d=(uv t1 z).map fun v=>C.d (.lit v)by rw[k1 z,lA];rfl,yy]
    rw[e1,e2];refine .of (x:=tB (bif neg then !(decide (a=b))else decide (a=b))) (fun _ _=>?_) (xb _) trivial;simp only[lV,bX,el,k3];cases neg<;>rfl
  .simp at ht
 .obtain ⟨rfl,rfl⟩:=ad (aa ht);obtain⟨x,rfl,h2⟩:=gS hx;rw[vP h2];exact .of (fun _ _=>rfl) (bU (dM rfl rfl)) trivial
 .obtain ⟨rfl,rfl⟩:=ad (aa ht);obtain⟨x,rfl,h2⟩:=gS hx;rw[E2 h2];exact .of (fun _ _=>rfl) (xb _) trivial
 .obtain ⟨rfl,rfl⟩:=ad (aa ht);obtain⟨x,rfl,h2⟩:=gS hx;rw[jU h2];exact .of (fun _ _=>rfl) (xi _ _) trivial
 .obtain ⟨rfl,rfl⟩:=ad (aa ht);obtain⟨x,rfl,h2⟩:=gS hx;rw[BI h2];exact .of (fun _ _=>rfl) (xf _ _) trivial
 .obtain ⟨rfl,rfl⟩:=ad (aa ht);obtain⟨x,rfl,h2⟩:=gS hx;rw[jU h2];exact .of (fun _ _=>rfl) (xi _ _) trivial
 .obtain ⟨rfl,rfl⟩:=ad (aa ht);obtain⟨x,rfl,h2⟩:=gS hx;rw[jU h2];exact .of (fun _ _=>rfl) (xi _ _) trivial
 .obtain ⟨rfl,rfl⟩:=ad (aa ht);obtain⟨x,rfl,h2⟩:=gS hx;rw[jU h2];exact .of (fun _ _=>rfl) (xf _ _) trivial
 .obtain ⟨rfl,rfl⟩:=ad (aa ht);obtain⟨x,rfl,h2⟩:=gS hx;rw[wI h2];exact .of (fun _ _=>rfl) (N7 _) trivial
 .--GA
  rename_i f;cases hc:vs.all C_ with
  |false=>rw[hc]at ht;simp at ht
  |true=>
   rw[hc,cond_true]at ht;obtain⟨rfl,rfl⟩:=ad (aa ht);obtain⟨cs,h2,rfl⟩:=HF hx fun w hw=>by have:=List.all_eq_true.1 hc w hw;cases w<;>first|exact⟨trivial,by simp[C_]at this;exact this⟩|simp[C_]at this
   refine .of (x:=.c (.oL f cs)) (fun _ _=>?_) (bU (dM rfl ⟨cs,h2,rfl⟩)) ?_
   .simp only[bX,m7];rw[Hr _ fun _=>rfl]
   .clear ht h2 hp ha hc hx;induction vs with|nil=>trivial|cons w vs ih=>exact⟨hk w (by simp),ih fun u hu=>hk u (by simp[hu])⟩
 .--load
  rename_i g m p;obtain⟨x,rfl,h2⟩:=gS hx;split at ht
  .rename_i w l' hl;cases hc:EF h g m w with|false=>rw[hc]at ht;simp at ht|true=>rw[hc,cond_true]at ht;obtain⟨rfl,rfl⟩:=ad (aa ht);intro c nx;obtain⟨y,h3,h4,h5⟩:=we (c:=c) (nx:=nx) hr hl hc h2 (hk _ (by simp));exact⟨y,_,h3,h4,h5,fun i hi=>hi⟩
  .simp at ht
 .--load of a slice
  obtain⟨x,rfl,h2⟩:=gS hx;split at ht
  .rename_i w l' hl;cases hc:EF h false 1 w with|false=>rw[hc]at ht;simp at ht|true=>rw[hc,cond_true]at ht;obtain⟨rfl,rfl⟩:=ad (aa ht);intro c nx;obtain⟨y,h3,h4,h5⟩:=we (c:=c) (nx:=nx) hr hl hc h2 (hk _ (by simp));exact⟨y,_,IA h3,h4,h5,fun i hi=>hi⟩
  .simp at ht
 .--fieldAddr
  obtain⟨x,rfl,h2⟩:=gS hx;split at ht
  .split at ht
   .rename_i w hw;obtain⟨rfl,rfl⟩:=ad (aa ht);intro c nx;obtain⟨y,h3,h4,h5⟩:=I_ (h1:=h1) (c:=c) (nx:=nx) h2 (hk _ (by simp)) hw;exact⟨y,[],h3,h4,h5,fun i hi=>by simp at hi⟩
   .simp at ht
  .simp at ht
 .--field of data
  rename_i g off m u y;obtain⟨x,rfl,h2⟩:=gS hx;split at ht
  .split at ht
   .rename_i i _ w hw;cases hc:(oN u i==off)&&EF h g m w with
    |false=>rw[hc]at ht;simp at ht
    |true=>
     rw[hc,cond_true]at ht;obtain⟨rfl,rfl⟩:=ad (aa ht);simp only[ah,beq_iff_eq]at hc;obtain⟨a,z,rfl,f1,f2,f3⟩:=ra _ _ _ _ hw;obtain⟨cs,⟨hd,rfl⟩,g1,_⟩:=oK (v:=.x (.st u) y) trivial h2;have hd':jW u=true:=hd;obtain⟨_,hs,_,_⟩:=od hc.2;have hs:bG a=m:=hs
     obtain⟨q,h3,h4⟩:=pB (cs:=(aP u y).map C.d) (off:=off) hc.2 (show eY h (.x a z) ((aP a z).map .d)from⟨yM u _ _ hd' f1,rfl⟩) (by simp[bH];omega)
      (by rw[<-hc.1,<-hs,<-f3,f_,fI])
     rw[g1 rfl];exact .of (x:=q) (fun _ _=>by show(match Cu g m (((aP u y).map C.d).drop off)with|some v=>some (v,([]:eg),([]:List Nat),_)|none=>none)=_;rw[h3]) h4 trivial
   .simp at ht
  .simp at ht
 .--field of a eU
  rename_i g off m u;obtain⟨x,rfl,h2⟩:=gS hx;split at ht
  .split at ht
   .rename_i i _ w hw;cases hc:(La u i==off)&&EF h g m w with|false=>rw[hc]at ht;simp at ht|true=>rw[hc,cond_true]at ht;obtain⟨rfl,rfl⟩:=ad (aa ht);simp only[ah,beq_iff_eq]at hc;obtain⟨cs,hcs,g1,_⟩:=oK (v:=.rc u) trivial h2;obtain⟨cw,q1,q2,q3⟩:=Gt u i w cs hcs hw;obtain⟨_,hs,_,_⟩:=od hc.2;obtain⟨q,h3,h4⟩:=pB (off:=off) hc.2 q1 (by rw[<-hc.1,<-hs];exact q2) (by rw[<-hc.1,<-hs];exact q3);rw[g1 rfl];exact .of (x:=q) (fun _ _=>by show(match Cu g m (cs.drop off)with|some v=>some (v,([]:eg),([]:List Nat),_)|none=>none)=_;rw[h3]) h4 (xr u i w (hk (.rc u) (aq.2 rfl)) hw)
   .simp at ht
  .simp at ht
 .--extract
  rename_i i u;obtain⟨x,rfl,h2⟩:=gS hx;split at ht
  .rename_i w hw;obtain⟨rfl,rfl⟩:=ad (aa ht);obtain⟨ys,rfl,h3⟩:=Mv h2;obtain⟨y,h4,h5⟩:=KT u i w ys h3 hw;exact .of (x:=y) (fun _ _=>by simp only[lV,bX,h4]) (bU h5) (xr u i w (hk (.tp u) (aq.2 rfl)) hw)
  .simp at ht
 .obtain ⟨rfl,rfl⟩:=ad (aa ht);obtain⟨x,rfl,h2⟩:=gS hx;rw[wI h2];exact .of (fun _ _=>rfl) (xi _ _) trivial
 .obtain ⟨rfl,rfl⟩:=ad (aa ht);obtain⟨x,rfl,h2⟩:=gS hx;rw[uA h2];exact .of (fun _ _=>rfl) (xi _ _) trivial
 .--len of a eU of rows
  obtain⟨x,rfl,h2⟩:=gS hx;split at ht
  .rename_i t' s' ln hq;obtain⟨rfl,rfl⟩:=ad (aa ht);exact .of (fun _ _=>by rw[AE h2 (sI hq)];exact L9) (xi _ _) trivial
  .simp at ht
 .--len
  obtain⟨x,rfl,h2⟩:=gS hx;split at ht
  .rename_i q t' s' l' hq;obtain⟨rfl,rfl⟩:=ad (aa ht);exact .of (fun _ _=>M5 h2 (ha _ (by simp)) hq) (xi _ _) trivial
  .simp at ht
 .--rK
  rename_i m k' x r;obtain⟨x1,ys,rfl,h2,h3⟩:=fT hx;split at ht
  .rename_i y hy;obtain⟨rfl,rfl⟩:=ad (aa ht);obtain rfl:=jU h2;exact .of (x:=lv (.int k' y)) (fun _ _=>by simp only[lV,bX,Iv hy h3]) (xi _ _) trivial
  .simp at ht
 .--rK of floats
  rename_i m k' x r;obtain⟨x1,ys,rfl,h2,h3⟩:=fT hx;split at ht
  .rename_i y hy;obtain⟨rfl,rfl⟩:=ad (aa ht);obtain rfl:=BI h2;refine .of (x:=lv (.float k' y)) (fun _ _=>?_) (xf _ _) trivial;show(match Iu m (.float k' x) (ys.map some)with|some v=>some (lv v,([]:eg),([]:List Nat),_)|none=>none)=_;rw[Gw hy h3]
  .simp at ht
 .--build
  rename_i z ps;cases hc:t8 (ng t) z&&li t&&eH (L0 t) false t with
  |false=>rw[hc]at ht;simp at ht
  |true=>
   rw[hc,cond_true]at ht;simp only[ah]at hc;split at ht
   .rename_i w hw;obtain⟨rfl,rfl⟩:=ad (aa ht);obtain⟨z1,z2⟩:=(xB (h:=h) (n:=n) t).1 hc.2;obtain⟨cs,b1,b2,b3,b4⟩:=JC fi ps vs (L0 t) w _ xs hw hc.2 z1 z2 hx hk;rw[rA hc.1.1]at b1;exact .of (x:=.agg cs) (fun _ _=>by simp only[bX,m7,b1]) (bU (xI (Nl b4 hc.1.2) b2)) b3
   .simp at ht
 .--lookup
  rename_i ka ks va z ok m kv;obtain⟨x,y,rfl,h2,h3⟩:=hC hx;split at ht
  .rename_i kt vt mp l' hq;split at ht
   .rename_i key hkey;cases hc:(li kt==ka)&&(li vt==va)&&decide (zj kt=some ks)&&t8 (ng vt) z&&jW vt&&(va||bG vt==1)with
    |false=>rw[hc]at ht;simp at ht
    |true=>
     rw[hc,cond_true]at ht;simp only[ah,beq_iff_eq,decide_eq_true_eq]at hc;obtain⟨⟨⟨⟨⟨c1,c2⟩,c3⟩,c4⟩,c5⟩,c6⟩:=hc;obtain⟨id,rfl,rfl,e1,e2,e3⟩:=Iy hr hq h2;have e1:l'=[id]:=e1;subst e1;obtain⟨_,_,k3,_⟩:=tT kt ks c3;have hz:cO z=aP vt (mE vt):=by rw[rz vt c5,rA c4]
     have hv:∀y,pm va (aP vt y)=some (N8 vt y):=fun y=>E0 y c2 c6;have hkt:=vz h3 hkey c3 c1;rw[c1,c2]at e3;rw[<-c2]at c6;cases ok with|false=>simp only[cond_false]at ht;obtain⟨rfl,rfl⟩:=ad (aa ht);exact fun c nx=>⟨_,[id],M1 (z:=mE vt) e3 hkt k3 hz hv,bU (HE c5 c6),trivial,fun i hi=>hi⟩|true=>simp only[cond_true]at ht;obtain⟨rfl,rfl⟩:=ad (aa ht);exact fun c nx=>⟨_,[id],K1 (z:=mE vt) e3 hkt k3 hz hv,⟨_,rfl,_,_,rfl,HE c5 c6,_,_,rfl,dM rfl ⟨rfl,rfl⟩,rfl⟩,⟨trivial,trivial,trivial⟩,fun i hi=>hi⟩
   .simp at ht
  .simp at ht
 .simp at ht
end
section
variable{h:H2}{n:Nat}{h1:bh}
theorem cC(id:Nat)(o:Option O)(h:H2)(i:Nat):fO ((id,o)::h) i=if id=i then o else fO h i:=by
 simp only[fO,bQ];by_cases e:id=i
 .subst e;simp
 .have e':(id==i)=false:=by simpa using e
  simp[e,e']
theorem ck(id:Nat)(o:Option Ob)(h:bh)(i:Nat):ao ((id,o)::h) i=if id=i then o else ao h i:=by
 simp only[ao,bQ];by_cases e:id=i
 .subst e;simp
 .have e':(id==i)=false:=by simpa using e
  simp[e,e']
theorem jq.new(o:Option O):jq n h ((n,o)::h):=⟨fun id o' hi ho=>by rw[cC,if_neg (by omega)]at ho;exact .inl ⟨o',ho,sf.refl _⟩⟩
theorem jq.AD{id:Nat}{o o':O}(ho:fO h id=some o)(hs:sf o o'):jq n h ((id,some o')::h):=
 ⟨fun i o2 hi h2=>by
  rw[cC]at h2;split at h2
  .rename_i e;subst e;obtain rfl:=aa h2;exact .inl ⟨o,ho,hs⟩
  .exact .inl ⟨o2,h2,sf.refl _⟩⟩
theorem jq.ll(id:Nat):jq n h ((id,none)::h):=
 ⟨fun i o2 hi h2=>by
  rw[cC]at h2;split at h2
  .simp at h2
  .exact .inl ⟨o2,h2,sf.refl _⟩⟩
theorem HR.AD{n' id:Nat}{o:Option O}{u:eg}(hr:HR n h1 h)(hn:n<=n')(hi:id<n')(hs:jq n h ((id,o)::h))(hu:∀i,i≠id->ao (u++h1) i=ao h1 i)
  (ho:∀o',o=some o'->vp ((id,o)::h) o' (ao (u++h1) id)/\By n' ((id,o)::h) o'):HR n' (u++h1) ((id,o)::h):=by
 refine⟨fun i o' h2=>?_⟩;rw[cC]at h2;split at h2
 .rename_i e;subst e;exact⟨hi,ho o' h2⟩
 .rename_i e;obtain⟨q1,q2,q3⟩:=hr.ob i o' h2;refine⟨by omega,?_,nW hn hs q3⟩;rw[hu i fun e'=>e e'.symm];exact pw hs q3 q2
theorem HR.mono{n':Nat}(hr:HR n h1 h)(hn:n<=n'):HR n' h1 h:=⟨fun i o ho=>let⟨a,b,c⟩:=hr.ob i o ho;⟨by omega,b,nW hn (jq.refl n h) c⟩⟩
theorem HR.ext{h1':bh}(hr:HR n h1 h)(he:∀i,ao h1' i=ao h1 i):HR n h1' h:=⟨fun i o ho=>by rw[he];exact hr.ob i o ho⟩
structure qK(s s':S2)(h1:bh)(x:TV)(u:eg)(au:List Nat)(m:Nat)(v:V)(l:List Nat):Prop where
 val:ft s'.heap v x
 Td:eW s'.next s'.heap v
 hr:HR s'.next (u++h1) s'.heap
 eG:jq s.next s.heap s'.heap
 cR:s'.cR=s.cR
 gh:s'.gh=s.gh
 m:m<=s'.next
 le:s.next<=s'.next
 au:∀i∈au,i∈l
 nb:∀i,i<s.next->fO s.heap i=none->fO s'.heap i=none
 wo:∃w,s'.wo=w++s.wo/\(∀p∈u,p.1∈w)/\∀id,id∉w->fO s'.heap id=fO s.heap id
theorem qK.pure{s:S2}{x:TV}{v:V}{au l:List Nat}(hr:HR s.next h1 s.heap)(hx:ft s.heap v x)(hk:eW s.next s.heap v)(hl:∀i∈au,i∈l):qK s s h1 x [] au s.next v l:=⟨hx,hk,hr,jq.refl _ _,rfl,rfl,am _,am _,hl,fun _ _ h=>h,[],rfl,fun p hp=>by simp at hp,fun _ _=>rfl⟩
theorem qK.new{s:S2}{o:O}{b:Option Ob}{u:eg}{x:TV}{v:V}{au l:List Nat}{m:Nat}(hr:HR s.next h1 s.heap)(hu:u=[(s.next,b)]\/(u=[]/\∀b',vp ((s.next,some o)::s.heap) o b'))(hb:u=[(s.next,b)]->vp ((s.next,some o)::s.heap) o b)
  (hko:By (s.next+1) ((s.next,some o)::s.heap) o) (hx:ft ((s.next,some o)::s.heap) v x) (hk:eW (s.next+1) ((s.next,some o)::s.heap) v) (hl:∀i∈au,i∈l) (hm:m<=s.next+1):qK s (gq s o) h1 x u au m v l:=by
 refine⟨hx,hk,?_,jq.new _,rfl,rfl,hm,a_ _,hl,fun i hi h=>(by rw[show(gq s o).heap=(s.next,some o)::s.heap from rfl,cC,if_neg (by omega)];exact h),[s.next],rfl,?_,fun id hid=>?_⟩
 .refine HR.AD (n':=s.next+1) hr (a_ _) (aQ _) (jq.new _) (fun i hi=>?_) fun o' ho'=>?_
  .rcases hu with rfl|⟨rfl,_⟩
   .rw [aT,ck,if_neg fun e=>hi e.symm]
   .rfl
  .obtain rfl:=aa ho';refine⟨?_,hko⟩;rcases hu with rfl|⟨rfl,hu⟩
   .rw [aT,ck,if_pos rfl];exact hb rfl
   .exact hu _
 .intro p hp;rcases hu with rfl|⟨rfl,_⟩
  .obtain rfl:=aq.1 hp;simp
  .simp at hp
 .simp only[gq];rw[cC,if_neg fun e=>hid (by simp[e])]
theorem qK.AD{s:S2}{id:Nat}{o o':O}{b:Option Ob}{x:TV}{v:V}{au l:List Nat}(hr:HR s.next h1 s.heap)(ho:fO s.heap id=some o)(hs:sf o o')(hb:vp ((id,some o')::s.heap) o' b)(hko:By s.next ((id,some o')::s.heap) o')
  (hx:ft ((id,some o')::s.heap) v x) (hk:eW s.next ((id,some o')::s.heap) v) (hl:∀i∈au,i∈l):qK s (c8 s id (some o')) h1 x [(id,b)] au s.next v l:=by
 refine⟨hx,hk,?_,jq.AD ho hs,rfl,rfl,am _,am _,hl,fun i _ h=>(by rw[show(c8 s id (some o')).heap=(id,some o')::s.heap from rfl,cC,if_neg (fun e=>by rw[e,h]at ho;cases ho)];exact h),[id],rfl,fun p hp=>?_,fun i hi=>?_⟩
 .refine HR.AD hr (am _) (hr.ob id o ho).1 (jq.AD ho hs) (fun i hi=>?_) fun o2 ho2=>?_
  .rw [aT,ck,if_neg fun e=>hi e.symm]
  .obtain rfl:=aa ho2;rw[aT,ck,if_pos rfl];exact⟨hb,hko⟩
 .obtain rfl:=aq.1 hp;simp
 .simp only[c8];rw[cC,if_neg fun e=>hi (by simp[e])]
def mF(h:H2)(id:Nat):Prop:=(∃t v,fO h id=some (.ar t .nil v)\/fO h id=some (.im t .nil v))\/∃t ln,fO h id=some (.rw t .nil ln)
theorem yo{id ver:Nat}{t:Ty}{l:List (El t)}(ho:fO h id=some (.ar t (.mk l) ver)\/fO h id=some (.im t (.mk l) ver)):¬mF h id:=by
 rintro(⟨u,v',e⟩|⟨u,ln,e⟩)
 .rcases ho with ho|ho<;>rcases e with e|e<;>rw[ho]at e<;>simp at e
  all_goals
   obtain⟨rfl,e,_⟩:=e;cases eq_of_heq e
 .rcases ho with ho|ho<;>rw[ho]at e<;>cases e
theorem KV{id:Nat}{t:Ty}{l:List (Sl (El t))}{ln:Option (Nat×Nat)}(ho:fO h id=some (.rw t (.mk l) ln)):¬mF h id:=by
 rintro(⟨u,v',e⟩|⟨u,ln',e⟩)
 .rcases e with e|e<;>rw[ho]at e<;>cases e
 .rw [ho]at e;cases e
theorem pU(k:Nat)(x:D):eu h1 k (.d x)=some (x,[]):=by cases k<;>rfl
theorem uZ:∀(ds:List D),dC h1 (ds.map .d)=some (ds,[]):=by intro ds;induction ds with|nil=>rfl|cons d ds ih=>simp[dC,pU,ih]
theorem qm{a b:List C}{x y:List D}{i j:List Nat}(ha:dC h1 a=some (x,i))(hb:dC h1 b=some (y,j)):dC h1 (a++b)=some (x++y,i++j):=by
 induction a generalizing x i with
 |nil=>obtain⟨rfl,rfl⟩:[]=x/\[]=i:=by simpa[dC]using ha
       simpa using hb
 |cons c a ih=>
  simp only[dC]at ha;split at ha
  .rename_i p q r s hp hq;obtain⟨rfl,rfl⟩:=ad (aa ha);simp only[aO,dC,hp,ih hq,aS]
  .simp at ha
theorem BE{id sz lo len:Nat}{rows:List (List D)}(k:Nat)(ho:ao h1 id=some (.aF sz rows)\/ao h1 id=some (.pD sz rows))(hl:lo+len<=rows.length)(szo:Nat):
  eu h1 k (.bP szo id lo len)=some (.sl szo ((rows.drop lo).take len),[id]):=by
 rcases ho with ho|ho<;>(cases k<;>simp only[eu,ho,if_pos hl])
theorem Kb{id ver:Nat}{t:Ty}{s:Sl (El t)}(k:Nat)(hr:HR n h1 h)(ho:fO h id=some (.ar t s ver)\/fO h id=some (.im t s ver)):
  ∃au,eu h1 k (kr (bG t) (aP t) id s)=some (vU (bG t) (aP t) s,au)/\(∀i∈au,i=id/\¬mF h i)/\(id∈au\/mF h id):=by
 cases s with
 |nil=>exact⟨[],pU k _,fun i hi=>by simp at hi,.inr (.inl ⟨t,ver,ho⟩)⟩
 |mk l=>
  have hb:ao h1 id=some (.aF (bG t) (l.map (aP t)))\/ao h1 id=some (.pD (bG t) (l.map (aP t))):=by
   rcases ho with ho|ho
   .exact .inl ((hr.ob id _ ho).2.1.2.2 l rfl)
   .exact .inr ((hr.ob id _ ho).2.1.2.2 l rfl)
  refine⟨[id],?_,fun i hi=>by obtain rfl:=aq.1 hi;exact⟨rfl,yo ho⟩,.inl (by simp)⟩;have:=BE (lo:=0) (len:=(l.map (aP t)).length) k hb (by omega) (bG t);rw[tY]at this;exact this
theorem Kc{id ver lo:Nat}{t:Ty}{r:Sl (El t)}(k:Nat)(hr:HR n h1 h)(hk:eW n h (.sb id ver lo t r))(ha:za h id ver=true):
  ∃au,eu h1 k (xp id lo t r)=some (vU (bG t) (aP t) r,au)/\(∀i∈au,i=id/\¬mF h i)/\(id∈au\/mF h id):=by
 obtain⟨u,s,ho⟩:=lu ha;obtain⟨_,hc⟩:=hk.2 u s ver ho;obtain⟨hz,hc⟩:=hc rfl;cases r with
 |nil=>cases s with|nil=>exact⟨[],pU k _,fun i hi=>by simp at hi,.inr (.inl ⟨u,ver,ho⟩)⟩|mk l=>exact hc.elim
 |mk m=>
  cases s with
  |nil=>exact hc.elim
  |mk l=>
   obtain⟨hl,he⟩:=hc
   have hb:ao h1 id=some (.aF (bG u) (l.map (aP u)))\/ao h1 id=some (.pD (bG u) (l.map (aP u))):=by
    rcases ho with ho|ho
    .exact .inl ((hr.ob id _ ho).2.1.2.2 l rfl)
    .exact .inr ((hr.ob id _ ho).2.1.2.2 l rfl)
   refine⟨[id],?_,fun i hi=>by obtain rfl:=aq.1 hi;exact⟨rfl,yo ho⟩,.inl (by simp)⟩;have:=BE (lo:=lo) (len:=(m.map (aP t)).length) k hb (by simpa using hl) (bG t);rw[show(m.map (aP t)).length=m.length by simp,he]at this;simpa[xp,vU]using this
theorem zR{t:Ty}:∀(l:List (Sl (El t))),qu (bG t) (l.map (nn t))=some (l.map (aP (.sl t))):=by intro l;induction l with|nil=>rfl|cons s l ih=>simp only[ap,qu,ih];cases s<;>rfl
theorem Ka{id:Nat}{t:Ty}{s:Sl (Sl (El t))}(k:Nat)(hr:HR n h1 h)(ho:fO h id=some (.rw t s none)):
  ∃au,eu h1 k (kr 1 (aP (.sl t)) id s)=some (vU 1 (aP (.sl t)) s,au)/\(∀i∈au,i=id/\¬mF h i)/\(id∈au\/mF h id):=by
 cases s with
 |nil=>exact⟨[],pU k _,fun i hi=>by simp at hi,.inr (.inr ⟨t,none,ho⟩)⟩
 |mk l=>
  have hb:=(hr.ob id _ ho).2.1.2.2 l rfl;refine⟨[id],?_,fun i hi=>by obtain rfl:=aq.1 hi;exact⟨rfl,KV ho⟩,.inl (by simp)⟩;have e:((l.map (aP (.sl t))).length)=(dO t l none).length:=by simp[dO]
  have hs:qu (bG t) (dO t l none)=some (l.map (aP (.sl t))):=zR l;cases k<;>simp only[kr,vU,eu,hb,hs,e,and_self,if_true]
theorem sT(hr:HR n h1 h):∀(v w:V)(l:List Nat)(cs:List C),jb h v=some (w,l)->eY h v cs->eW n h v->ig h v=true->
  ∃ds au,dC h1 cs=some (ds,au)/\eY h w (ds.map .d)/\(∀i∈au,i∈l/\¬mF h i)/\(∀i∈l,i∈au\/mF h i)/\(∀i∈l,i<n/\((∃t s v,fO h i=some (.ar t s v)\/fO h i=some (.im t s v))\/∃t s,fO h i=some (.rw t s none))):=by
 have done:∀(v:V)(ds:List D),eY h v (ds.map .d)->∃ds' au,dC h1 (ds.map .d)=some (ds',au)/\eY h v (ds'.map .d)/\(∀i∈au,i∈([]:List Nat)/\¬mF h i)/\(∀i∈([]:List Nat),i∈au\/mF h i)/\(∀i∈([]:List Nat),i<n/\((∃t s v,fO h i=some (.ar t s v)\/fO h i=some (.im t s v))\/∃t s,fO h i=some (.rw t s none))):=fun v ds hv=>⟨ds,[],uZ ds,hv,fun i hi=>by simp at hi,fun i hi=>by simp at hi,fun i hi=>by simp at hi⟩;intro v;induction v with
 |so id=>
  intro w l cs hf hv hk ha;simp only[jb]at hf;split at hf
  .rename_i t s l' hs;obtain⟨rfl,rfl⟩:=ad (aa hf);obtain⟨ver,ho,e⟩:=uF hs;have e:l'=[id]:=e;subst e;obtain⟨c,rfl,hc,_⟩:=hv;rw[hc _ (lF ho)];obtain⟨au,q1,q2,q3⟩:=Kb 300 hr ho;have hd:jW t=true:=by rcases ho with ho|ho<;>exact(hr.ob id _ ho).2.1.1
   refine⟨[vU (bG t) (aP t) s],au,by simp[dC,q1],⟨hd,rfl⟩,fun i hi=>⟨by simpa using(q2 i hi).1,(q2 i hi).1▸(q2 i hi).2⟩,fun i hi=>?_,fun i hi=>?_⟩
   .obtain rfl:=aq.1 hi;exact q3
   .obtain rfl:=aq.1 hi;exact⟨hk,.inl ⟨t,s,ver,ho⟩⟩
  .simp at hf
 |sr id=>
  intro w l cs hf hv hk ha;simp only[jb]at hf;split at hf
  .rename_i t s ho;obtain⟨rfl,rfl⟩:=ad (aa hf);obtain⟨c,rfl,hc,_⟩:=hv;rw[hc _ (by rw[ho];rfl:zg id (fO h id)=some (kr 1 (aP (.sl t)) id s))];obtain⟨au,q1,q2,q3⟩:=Ka 300 hr ho;have hd:jW t=true:=(hr.ob id _ ho).2.1.1;refine⟨[vU 1 (aP (.sl t)) s],au,by simp[dC,q1],⟨hd,rfl⟩,fun i hi=>⟨by simpa using(q2 i hi).1,(q2 i hi).1▸(q2 i hi).2⟩,fun i hi=>?_,fun i hi=>?_⟩
   .obtain rfl:=aq.1 hi;exact q3
   .obtain rfl:=aq.1 hi;exact⟨hk,.inr ⟨t,s,ho⟩⟩
  .simp at hf
 |sb id ver lo t r=>
  intro w l cs hf hv hk ha;simp only[jb,t9]at hf;obtain⟨rfl,rfl⟩:=ad (aa hf);obtain⟨hd,ha⟩:=cN.1 ha;have ha:za h id ver=true:=ha;obtain⟨c,rfl,hc,_⟩:=hv;rw[hc ha];obtain⟨au,q1,q2,q3⟩:=Kc 300 hr hk ha;obtain⟨u,s,ho⟩:=lu ha;refine⟨[vU (bG t) (aP t) r],au,by simp[dC,q1],⟨?_,rfl⟩,fun i hi=>⟨by simpa using(q2 i hi).1,(q2 i hi).1▸(q2 i hi).2⟩,fun i hi=>?_,fun i hi=>?_⟩
  .exact hd
  .obtain rfl:=aq.1 hi;exact q3
  .obtain rfl:=aq.1 hi;exact⟨hk.1,.inl ⟨u,s,ver,ho⟩⟩
 |rc r ih=>
  intro w l cs hf hv hk ha;simp only[jb]at hf;split at hf
  .rename_i w' l' hw;obtain⟨rfl,rfl⟩:=ad (aa hf);exact ih w' l' cs hw hv hk ha
  .simp at hf
 |co a r iha ihr=>
  intro w l cs hf hv hk ha;simp only[jb]at hf;split at hf
  .rename_i x l1 y l2 hx hy;obtain⟨rfl,rfl⟩:=ad (aa hf);obtain⟨ca,cr,rfl,h2,h3⟩:=hv;simp only[ig,ah]at ha;obtain⟨ds,au,a1,a2,a3,a4,a5⟩:=iha x l1 ca hx h2 hk.1 ha.1;obtain⟨es,jds,b1,b2,b3,b4,b5⟩:=ihr y l2 cr hy h3 hk.2 ha.2;refine⟨ds++es,au++jds,qm a1 b1,⟨_,_,by simp,a2,b2⟩,fun i hi=>?_,fun i hi=>?_,fun i hi=>?_⟩
   .rcases ak.1 hi with hi|hi
    .exact ⟨aG _ (a3 i hi).1,(a3 i hi).2⟩
    .exact ⟨aD _ (b3 i hi).1,(b3 i hi).2⟩
   .rcases ak.1 hi with hi|hi
    .exact (a4 i hi).imp (aG _) id
    .exact (b4 i hi).imp (aD _) id
   .rcases ak.1 hi with hi|hi
    .exact a5 i hi
    .exact b5 i hi
  .simp at hf
 |x t v=>intro w l cs hf hv hk ha;obtain⟨rfl,rfl⟩:=ad (aa hf);obtain⟨hd,rfl⟩:=hv;exact done _ _ ⟨hd,rfl⟩
 |kb c=>intro w l cs hf hv hk ha;obtain⟨rfl,rfl⟩:=ad (aa hf);obtain rfl:=hv;exact done (.kb c) [_] rfl
 |nl k=>intro w l cs hf hv hk ha;obtain⟨rfl,rfl⟩:=ad (aa hf);obtain rfl:=hv;exact done (.nl k) [_] rfl
 |fl q=>
  intro w l cs hf hv hk ha;obtain⟨rfl,rfl⟩:=ad (aa hf);obtain⟨hp,rfl⟩:=hv;have e:eQ q=(q.map D.lit).map C.d:=by simp[eQ]
  rw[e];exact done (.fl q) (q.map D.lit) ⟨hp,e.symm⟩
 |ni=>intro w l cs hf hv hk ha;obtain⟨rfl,rfl⟩:=ad (aa hf);obtain rfl:=hv;exact done .ni [] rfl
 |pt t v=>intro w l cs hf hv hk ha;obtain⟨rfl,rfl⟩:=ad (aa hf);obtain⟨hd,rfl⟩:=hv;exact done (.pt t v) [_] ⟨hd,rfl⟩
 |fn z f q ih=>intro w l cs hf hv hk ha;cases z with|true=>obtain⟨rfl,rfl⟩:=ad (aa hf);obtain⟨ds,hd,rfl⟩:=hv;exact done (.fn true f q) [_] ⟨ds,hd,rfl⟩|false=>simp[jb]at hf
 |_=>intro w l cs hf hv hk ha;simp[jb]at hf
theorem xo:∀(ds:List D)(k:Nat),ds.length<k->fN h1 k (ds.map .d)=some (ds,[]):=by
 intro ds;induction ds with
 |nil=>intro k hk;cases k<;>rfl
 |cons d ds ih=>intro k hk;cases k with|zero=>simp at hk|succ k=>simp only[ap,fN,pU];rw[ih k (by simpa using hk)];rfl
theorem wq{H:bh}{h0:H2}{k:Nat}(hr:HR k H h0)(all:List Nat){id:Nat}{o':O}(hf:A8 h0 id=some o'):
  ∃o,fO h0 id=some o/\sf o o'/\(∀m g,By m g o')/\((mF h0 id/\∀g b,vp g o' b)\/(¬mF h0 id/\∃b,jN H all id=some b/\∀g,vp g o' (some b))):=by
 unfold A8 at hf;split at hf
 .rename_i t s v ho;obtain rfl:=aa hf;refine⟨_,ho,⟨am _,rfl,rfl,rfl,fun _=>rfl⟩,fun _ _=>trivial,?_⟩;obtain⟨h1,h2,h3⟩:=(hr.ob id _ ho).2.1;cases s with|nil=>exact .inl ⟨.inl ⟨t,v,.inl ho⟩,fun g b=>⟨h1,h2,fun l e=>by cases e⟩⟩|mk l=>refine .inr ⟨yo (.inl ho),.pD (bG t) (l.map (aP t)),?_,fun g=>⟨h1,h2,fun l' e=>by cases e;rfl⟩⟩;simp only[jN,h3 l rfl]
 .rename_i t s v ho;obtain rfl:=aa hf;refine⟨_,ho,⟨rfl,rfl⟩,fun _ _=>trivial,?_⟩;obtain⟨h1,h2,h3⟩:=(hr.ob id _ ho).2.1;cases s with|nil=>exact .inl ⟨.inl ⟨t,v,.inr ho⟩,fun g b=>⟨h1,h2,fun l e=>by cases e⟩⟩|mk l=>refine .inr ⟨yo (.inr ho),.pD (bG t) (l.map (aP t)),?_,fun g=>⟨h1,h2,fun l' e=>by cases e;rfl⟩⟩;simp only[jN,h3 l rfl]
 .rename_i t v ho;obtain rfl:=aa hf;obtain⟨h1,h2⟩:=(hr.ob id _ ho).2.1;refine⟨_,ho,rfl,fun _ _=>trivial,.inr ⟨?_,.nZ (aP t v),?_,fun g=>⟨h1,rfl⟩⟩⟩
  .rintro (⟨u,v',e|e⟩|⟨u,v',e⟩)<;>rw[ho]at e<;>simp at e
  .simp only[jN,h2]
 .rename_i t c ho;cases hd:(jW t&&Nat.blt (bG t) 300)with
  |false=>rw[hd]at hf;simp at hf
  |true=>
   rw[hd,cond_true]at hf;simp only[ah]at hd;split at hf
   .rename_i w hw;split at hf
    .rename_i y hy;obtain rfl:=aa hf;obtain⟨cs,h1,h2,h3⟩:=(hr.ob id _ ho).2.1;have e:=iN c false t y cs hy h2;subst e;refine⟨_,ho,trivial,fun _ _=>trivial,.inr ⟨?_,.nZ (aP t y),?_,fun g=>⟨hd.1,rfl⟩⟩⟩
     .rintro (⟨u,v',e|e⟩|⟨u,v',e⟩)<;>rw[ho]at e<;>simp at e
     .have hl:(aP t y).length<300:=by rw[bH];simpa using hd.2
      simp only[jN,h1,xo _ _ hl];rfl
    .simp at hf
   .simp at hf
 .simp at hf
def Em(h:H2)(id:Nat):Option O:=match fO h id with|some (.rw _ _ none)=>none|_=>A8 h id
theorem wO{h0:H2}{s0:S2}(hs0:s0.heap=h0):∀(au:List Nat)(s':S2),qA h0 au s0=some s'->
  s'.cR=s0.cR/\s'.gh=s0.gh/\s'.next=s0.next/\s'.wo=au++s0.wo/\(∀i∈au,(∃o,A8 h0 i=some o)\/∃t s,fO h0 i=some (.rw t s none))/\∀i,fO s'.heap i=if i∈au then Em h0 i else fO h0 i:=by
 intro au;induction au with
 |nil=>intro s' hf;obtain rfl:=aa hf;exact⟨rfl,rfl,rfl,rfl,fun i hi=>by simp at hi,fun i=>by simp[hs0]⟩
 |cons id r ih=>
  intro s' hf;simp only[qA]at hf
  have fin:∀(oo:Option O)(s1:S2),qA h0 r s0=some s1->s'=c8 s1 id oo->((∃o,A8 h0 id=some o)\/∃t s,fO h0 id=some (.rw t s none))->Em h0 id=oo->s'.cR=s0.cR/\s'.gh=s0.gh/\s'.next=s0.next/\s'.wo=(id::r)++s0.wo/\(∀i∈id::r,(∃o,A8 h0 i=some o)\/∃t s,fO h0 i=some (.rw t s none))/\∀i,fO s'.heap i=if i∈id::r then Em h0 i else fO h0 i:=by
   intro oo s1 h1 e hex hoo;subst e;obtain⟨a1,a2,a3,a4,a5,a6⟩:=ih s1 h1;refine⟨a1,a2,a3,by simp[c8,a4],fun i hi=>?_,fun i=>?_⟩
   .rcases aJ.1 hi with rfl|hi
    .exact hex
    .exact a5 i hi
   .simp only[c8,cC,a6];by_cases e:id=i
    .subst e;simp[hoo]
    .simp [e,Ne.symm e]
  split at hf
  .rename_i t s ho;split at hf
   .rename_i s1 h1;exact fin none s1 h1 (aa hf).symm (.inr ⟨t,s,ho⟩) (by simp only[Em,ho])
   .cases hf
  .rename_i hno;split at hf
   .rename_i o s1 ho h1;refine fin (some o) s1 h1 (aa hf).symm (.inl ⟨o,ho⟩) ?_;unfold Em;split
    .rename_i t s e;exact absurd e (hno t s)
    .exact ho
   .cases hf
theorem GQ{H:bh}{all:List Nat}:∀(l:List Nat),(∀i∈l,∃b,jN H all i=some b)->∃u,dh H all l=some u/\∀p∈u,p.1∈l:=by
 intro l;induction l with
 |nil=>intro _;exact⟨[],rfl,fun p hp=>by simp at hp⟩
 |cons a l ih=>
  intro h;obtain⟨b,hb⟩:=h a (by simp);obtain⟨u,hu,hp⟩:=ih fun i hi=>h i (by simp[hi]);refine⟨(a,some b)::u,by simp only[dh,hb,hu],fun p hp'=>?_⟩;rcases aJ.1 hp' with rfl|hp'
  .simp
  .exact aC _ (hp p hp')
theorem A7{h0:H2}{s0:S2}(hs0:s0.heap=h0){H:bh}(hr:HR s0.next H h0)(au:List Nat)(s':S2)(ids1 all:List Nat)(hf:qA h0 au s0=some s')(hi1:∀i∈ids1,i∈au/\¬mF h0 i)(hi2:∀i∈au,i∈ids1\/mF h0 i):
  ∃fu,dh H all ids1=some fu/\HR s0.next (fu++H) s'.heap/\jq s0.next h0 s'.heap/\s'.cR=s0.cR/\s'.gh=s0.gh/\s'.next=s0.next/\
   s'.wo=au++s0.wo/\(∀p∈fu,p.1∈au)/\∀id,id∉au->fO s'.heap id=fO s0.heap id:=by
 obtain⟨a1,a2,a3,a4,a5,a6⟩:=wO hs0 au s' hf
 have hF:∀i o',Em h0 i=some o'->A8 h0 i=some o':=fun i o' h=>by
  unfold Em at h;split at h
  .cases h
  .exact h
 obtain⟨fu,hfu,hp⟩:=GQ (H:=H) (all:=all) ids1 fun i hi=>by
  rcases a5 i (hi1 i hi).1 with⟨o,ho⟩|⟨t,s,ho⟩
  .obtain ⟨_,_,_,_,h⟩:=wq hr all ho;rcases h with h|⟨_,b,hb,_⟩
   .exact absurd h.1 (hi1 i hi).2
   .exact ⟨b,hb⟩
  .cases s with|nil=>exact absurd (.inr ⟨t,none,ho⟩) (hi1 i hi).2|mk l=>have hb:=(hr.ob i _ ho).2.1.2.2 l rfl;have hs:qu (bG t) (dO t l none)=some (l.map (aP (.sl t))):=zR l;exact⟨.pD 1 (l.map (aP (.sl t))),by simp only[jN,hb,hs]⟩
 have eG:jq s0.next h0 s'.heap:=⟨fun i o' hi ho=>by
  rw[a6]at ho;split at ho
  .obtain ⟨o,h1,h2,_⟩:=wq hr all (hF i o' ho);exact .inl ⟨o,h1,h2⟩
  .exact .inl ⟨o',ho,sf.refl _⟩⟩
 refine⟨fu,hfu,⟨fun i o' ho=>?_⟩,eG,a1,a2,a3,a4,fun p hp'=>(hi1 _ (hp p hp')).1,fun i hi=>by rw[a6,if_neg hi,hs0]⟩;rw[a6]at ho;split at ho
 .rename_i hi;obtain⟨o,h1,_,h3,h4⟩:=wq hr all (hF i o' ho);refine⟨(hr.ob i o h1).1,?_,h3 _ _⟩;rcases h4 with h4|⟨h5,b,hb,hR⟩
  .exact h4.2 _ _
  .have hm:i∈ids1:=(hi2 i hi).resolve_right h5;obtain⟨b',hb',hl⟩:=(j7 ids1 fu hfu i).1 hm;rw[hb]at hb';obtain rfl:=aa hb';rw[show ao (fu++H) i=some b by simp only[ao,gG,hl];rfl];exact hR _
 .rename_i hi;obtain⟨h1,h2,h3⟩:=hr.ob i o' ho;have hn:i∉ids1:=fun hm=>hi (hi1 i hm).1;refine⟨h1,?_,nW (am _) eG h3⟩;rw[show ao (fu++H) i=ao H i by simp only[ao,gG,(j7 ids1 fu hfu i).2 hn]];exact pw eG h3 h2
theorem Ek{h0:H2}{s0:S2}{au:List Nat}{s':S2}(hs0:s0.heap=h0)(hf:qA h0 au s0=some s'):∀i∈au,fO h0 i≠none:=by
 intro i hi e;obtain⟨_,_,_,_,a5,_⟩:=wO hs0 au s' hf;rcases a5 i hi with⟨o,ho⟩|⟨t,s,ho⟩
 .simp [A8,e]at ho
 .rw [e]at ho;cases ho
end
section
variable{h:H2}{n:Nat}{h1:bh}{β:Type}
theorem aH{α:Type}{c:Bool}{a:Option α}{r:α}(h:(bif c then a else none)=some r):c=true/\a=some r:=by cases c with|true=>exact⟨rfl,h⟩|false=>simp at h
theorem wd{u:eg}{i:Nat}(hu:∀p∈u,p.1≠i):ao (u++h1) i=ao h1 i:=by induction u with|nil=>rfl|cons p u ih=>obtain⟨a,b⟩:=p;rw[aO,ck,if_neg (hu _ (dZ ..)),ih fun p hp=>hu p (aC _ hp)]
theorem qK.CG{s s':S2}{x:TV}{u:eg}{au l:List Nat}{m:Nat}{v:V}(W:List Nat)(hr:HR s.next h1 s.heap)(eG:jq s.next s.heap s'.heap)(he:s'.cR=s.cR)(hg:s'.gh=s.gh)(hm:m<=s'.next)(hle:s.next<=s'.next)(hl:∀i∈au,i∈l)
  (hwo:s'.wo=W++s.wo) (hu:∀p∈u,p.1∈W) (hW:∀id,id∉W->fO s'.heap id=fO s.heap id) (hob:∀i∈W,∀o,fO s'.heap i=some o->i<s'.next/\vp s'.heap o (ao (u++h1) i)/\By s'.next s'.heap o)
  (hx:ft s'.heap v x) (hk:eW s'.next s'.heap v) (hnb:∀i,i<s.next->fO s.heap i=none->fO s'.heap i=none):qK s s' h1 x u au m v l:=by
 refine⟨hx,hk,⟨fun i o ho=>?_⟩,eG,he,hg,hm,hle,hl,hnb,W,hwo,hu,hW⟩;by_cases hi:i∈W
 .exact hob i hi o ho
 .rw [hW i hi]at ho;obtain⟨a,b,c⟩:=hr.ob i o ho;refine⟨by omega,?_,nW hle eG c⟩;rw[wd (u:=u) (i:=i) fun p hp e=>hi (e▸hu p hp)];exact pw eG c b
def wE(h1:bh)(kk:K)(xs:List TV)(s:S2)(k:V->S2->List Nat->Option β)(z:β):Prop:=∃v s' l,k v s' l=some z/\∀c:Call,∃x u au m,bX c kk (xs.map some) h1 s.next=some (x,u,au,m)/\qK s s' h1 x u au m v l
variable{s:S2}{k:V->S2->List Nat->Option β}{z:β}
theorem wE.pure{kk:K}{xs:List TV}{v:V}{x:TV}(hr:HR s.next h1 s.heap)(hz:k v s []=some z)(he:∀c:Call,bX c kk (xs.map some) h1 s.next=some (x,[],[],s.next))(hx:ft s.heap v x)(hk:eW s.next s.heap v):wE h1 kk xs s k z:=⟨v,s,[],hz,fun c=>⟨x,[],[],s.next,he c,qK.pure hr hx hk fun i hi=>by simp at hi⟩⟩
theorem nQ{t:Ty}(h:zi t=true):jW t=true/\0<bG t:=by simpa[zi]using h
theorem wE.new{kk:K}{xs:List TV}{v:V}{x:TV}{o:O}{b:Option Ob}{l au:List Nat}(hr:HR s.next h1 s.heap)(hz:k v (gq s o) l=some z)(he:∀c:Call,bX c kk (xs.map some) h1 s.next=some (x,[(s.next,b)],au,s.next+1))
  (hb:vp ((s.next,some o)::s.heap) o b) (hko:By (s.next+1) ((s.next,some o)::s.heap) o) (hx:ft ((s.next,some o)::s.heap) v x) (hk:eW (s.next+1) ((s.next,some o)::s.heap) v) (hl:∀i∈au,i∈l):wE h1 kk xs s k z:=
 ⟨v,_,l,hz,fun c=>⟨x,_,au,_,he c,qK.new hr (.inl rfl) (fun _=>hb) hko hx hk hl (am _)⟩⟩
theorem wE.AD{kk:K}{xs:List TV}{v:V}{x:TV}{id:Nat}{o o':O}{b:Option Ob}{l au:List Nat}(hr:HR s.next h1 s.heap)(ho:fO s.heap id=some o)(hs:sf o o')(hz:k v (c8 s id (some o')) l=some z)(he:∀c:Call,bX c kk (xs.map some) h1 s.next=some (x,[(id,b)],au,s.next))
  (hb:vp ((id,some o')::s.heap) o' b) (hko:By s.next ((id,some o')::s.heap) o') (hx:ft ((id,some o')::s.heap) v x) (hk:eW s.next ((id,some o')::s.heap) v) (hl:∀i∈au,i∈l):wE h1 kk xs s k z:=
 ⟨v,_,l,hz,fun c=>⟨x,_,au,_,he c,qK.AD hr ho hs hb hko hx hk hl⟩⟩
theorem tX(id:Nat)(o:Option O)(h:H2):fO ((id,o)::h) id=o:=by rw[cC,if_pos rfl]
theorem v9{t:Ty}{s:Sl (El t)}{v nx:Nat}:ft ((nx,some (.ar t s v))::h) (.so nx) (.c (kr (bG t) (aP t) nx s)):=bU (dM rfl ⟨_,rfl,fun c' hc'=>by rw[tX]at hc';exact aa hc',xU⟩)
theorem Bh{x:V}{y:TV}{sz:Nat}{lo hi:Option Int}{m:Int}{q:V->Option β}(hr:HR n h1 h)(hx:ft h x y)(hk:eW n h x)(ha:ig h x=true)(hm:Eb h x=some m)(hz:ub sz h x (lo.getD 0) (hi.getD m) q=some z):
  ∃v c c',y=.c c/\q v=some z/\cD false sz c lo hi=some c'/\ft h v (.c c')/\eW n h v:=by
 have gF:∀(id:Nat)(t:Ty)(w:Sl (El t))(ver:Nat),x=.so id->(fO h id=some (.ar t w ver)\/fO h id=some (.im t w ver))->(bif bG t==sz then(pO w.l (lo.getD 0) (hi.getD m)).bind fun y=>q (.sb id ver (lo.getD 0).toNat t (w.to y))else none)=some z->
   ∃v c c',y=.c c/\q v=some z/\cD false sz c lo hi=some c'/\ft h v (.c c')/\eW n h v:=by
  rintro id t w ver rfl ho hz;obtain⟨h2,hz2⟩:=aH hz;obtain rfl:bG t=sz:=by simpa using h2
  obtain⟨r,hr',hz3⟩:=qN hz2;have e:=rB hx (lF ho);have hm':m=w.l.length:=by simp only[Eb,t9]at hm;rcases ho with ho|ho<;>(rw[ho]at hm;exact(aa hm).symm)
  subst hm';refine⟨_,_,xp id (lo.getD 0).toNat t (w.to r),e,hz3,?_,?_,hk,?_⟩
  .cases w with|nil=>exact Jo hr'|mk l=>exact PI (enc:=aP t) hr'
  .exact bU (dM rfl ⟨_,rfl,fun _=>rfl,HT⟩)
  .intro u s' v' ho'
   have e2:J4 u s'=J4 t w/\v'=ver:=by
    rcases ho with ho|ho<;>rcases ho' with ho'|ho'<;>(rw[ho]at ho';simp at ho')
    all_goals
     obtain⟨rfl,e,rfl⟩:=ho';cases eq_of_heq e;exact⟨rfl,rfl⟩
   obtain⟨e2,rfl⟩:=e2;obtain⟨rfl,e2⟩:=jr e2;cases e2;refine⟨am _,fun _=>⟨rfl,?_⟩⟩;cases s' with|nil=>trivial|mk l=>obtain⟨h3,h4⟩:=NI (enc:=aP u) hr';simp only[aR]at h3;refine⟨h3,?_⟩;simpa using h4
 cases x with
 |x t v=>
  cases t with
  |sl t=>
   simp only[ub]at hz;obtain⟨h2,hz2⟩:=aH hz;obtain rfl:bG t=sz:=by simpa using h2
   obtain⟨r,hr',hz3⟩:=qN hz2;have hm':m=v.l.length:=by simpa[Eb,t9]using hm.symm
   subst hm';refine⟨_,_,_,xF hx,hz3,NH hr',bU (dM rfl ⟨?_,rfl⟩),trivial⟩;obtain⟨_,⟨hd,_⟩,_⟩:=oK (v:=.x (.sl t) v) trivial hx;exact hd
  |_=>simp[ub]at hz
 |so id=>
  simp only[ub]at hz;split at hz
  .rename_i ho;exact gF id _ _ _ rfl (.inl ho) hz
  .rename_i ho;exact gF id _ _ _ rfl (.inr ho) hz
  .simp at hz
 |sb id ver off t v=>
  simp only[ub]at hz;obtain⟨h2,hz2⟩:=aH hz;obtain rfl:bG t=sz:=by simpa using h2
  obtain⟨r,hr',hz3⟩:=qN hz2;have hm':m=v.l.length:=by simpa[Eb,t9]using hm.symm
  subst hm';refine⟨_,_,xp id (off+(lo.getD 0).toNat) t (v.to r),qo hx ha,hz3,?_,bU (dM rfl ⟨_,rfl,fun _=>rfl,HT⟩),hk.1,?_⟩
  .cases v with|nil=>exact Jo hr'|mk l=>obtain⟨h3,rfl⟩:=rk.1 hr';simp only[Sl.l]at h3;simp only[xp,cD,Bool.false_eq_true,if_false,Sl.to,Sl.l,aR];rw[if_pos ⟨trivial,h3⟩];simp;omega
  .intro u s' v' ho;obtain⟨h3,h4⟩:=hk.2 u s' v' ho;refine⟨h3,fun e=>?_⟩;obtain⟨h5,h6⟩:=h4 e;refine⟨h5,?_⟩;cases s' with
   |nil=>cases v<;>first|trivial|exact h6.elim
   |mk l=>
    cases v with
    |nil=>exact h6.elim
    |mk w=>
     obtain⟨h7,h8⟩:=h6;obtain⟨h9,rfl⟩:=rk.1 hr';simp only[Sl.l]at h9;show off+(lo.getD 0).toNat+((w.drop (lo.getD 0).toNat).take _).length<=l.length/\((l.map (aP u)).drop (off+(lo.getD 0).toNat)).take ((w.drop (lo.getD 0).toNat).take _).length=((w.drop (lo.getD 0).toNat).take _).map (aP t);generalize hA:(lo.getD 0).toNat=A;generalize hB:((hi.getD (Sl.l (Sl.mk w)).length).toNat-A)=B;have hle:A+B<=w.length:=by subst hA hB;simp only[Sl.l];omega
     have hlen:((w.drop A).take B).length=B:=by simp;omega
     refine⟨by omega,?_⟩;rw[hlen,f_,fI,<-h8,List.drop_take,dU,List.take_take];congr 1;omega
 |nl k=>
  cases k with
  |zero=>
   simp only[ub]at hz;obtain⟨r,hr',hz3⟩:=qN hz;have hm':m=0:=by simpa[Eb]using hm.symm
   subst hm';exact⟨_,_,_,uA hx,hz3,Jo (α:=Unit) (by simpa[Sl.l]using hr'),bU (dM rfl rfl),trivial⟩
  |succ k=>simp[ub]at hz
 |_=>simp[ub]at hz
theorem Fw:∀(p:pS)(t a:Ty)(l m:Nat),ru t p=some (.ar l a)->m<l->Gr t p->Gr t (p++[.ix m])/\mJ t (p++[.ix m])=mJ t p+m*bG a:=by
 intro p;induction p with
 |nil=>
  intro t a l m h1 hm _;have e:ru t []=some t:=by cases t<;>rfl
  obtain rfl:t=.ar l a:=by rw[e]at h1;exact aa h1
  refine⟨⟨hm,by cases a<;>trivial⟩,?_⟩;simp only[bB,mJ];cases a<;>simp[mJ]
 |cons q p ih=>
  intro t a l m h1 hm h3;cases q with
  |fd j=>cases t with|st t=>obtain⟨b2,hb,h3⟩:=h3;simp only[ru,hb]at h1;obtain⟨q1,q2⟩:=ih b2 a l m h1 hm h3;refine⟨⟨b2,hb,q1⟩,?_⟩;simp only[aO,mJ,hb,q2];exact(cS _ _ _).symm|_=>exact h3.elim
  |ix k=>cases t with|ar l' t=>obtain⟨hk,h3⟩:=h3;obtain⟨q1,q2⟩:=ih t a l m h1 hm h3;refine⟨⟨hk,q1⟩,?_⟩;simp only[aO,mJ,q2];exact(cS _ _ _).symm|_=>exact h3.elim
theorem MW{id:Nat}{t u:Ty}{w:Sl (El t)}{w':Sl (El u)}{v v':Nat}(ho:fO h id=some (.ar t w v)\/fO h id=some (.im t w v))(ho':fO h id=some (.ar u w' v')\/fO h id=some (.im u w' v')):J4 u w'=J4 t w/\v'=v:=by
 rcases ho with ho|ho<;>rcases ho' with ho'|ho'<;>(rw[ho]at ho';simp at ho')
 all_goals
  obtain⟨rfl,e,rfl⟩:=ho';cases eq_of_heq e;exact⟨rfl,rfl⟩
theorem In{id:Nat}{t u:Ty}{w:Sl (El t)}{w':Sl (El u)}{v v':Nat}(ho:fO h id=some (.ar t w v)\/fO h id=some (.im t w v))(ho':fO h id=some (.ar u w' v')\/fO h id=some (.im u w' v')):w'.l.length=w.l.length:=by obtain⟨e,_⟩:=MW ho ho';obtain⟨rfl,e⟩:=jr e;cases e;rfl
theorem Ma{c:C}{t:Ty}{id m sz:Nat}{w:Sl (El t)}{i:Int}{kd:IntKind}{cl:Call}{nx:Nat}(hc:c=kr (bG t) (aP t) id w)(hsz:bG t=sz)(hi:fw i w.l.length=some m):
  bX cl (.indexAddr none sz) [some (.c c),some (tI kd i)] h1 nx=some (.c (.ep id m 0),[],[],nx):=by
 subst hc hsz;cases w with|nil=>exact IM hi|mk l=>exact SL hi
theorem PG{t:Ty}{v:El t}{x:TV}(hx:ft h (.x t v) x):jW t=true:=by obtain⟨_,⟨hd,_⟩,_⟩:=oK (v:=.x t v) trivial hx;exact hd
theorem S8{n':Nat}{t:Ty}{v:El (.ar n' t)}{x:TV}(hx:ft h (.x (.ar n' t) v) x):x=.agg ((aP (.ar n' t) v).map .d):=by obtain⟨cs,⟨_,rfl⟩,h2,_⟩:=oK (v:=.x (.ar n' t) v) trivial hx;exact h2 rfl
theorem Dd{n' m:Nat}{t:Ty}(v:El (.ar n' t))(hm:m<n'):m*bG t+bG t<=(aP (.ar n' t) v).length/\((aP (.ar n' t) v).drop (m*bG t)).take (bG t)=aP t (gt v.1 m):=by have hl:v.1.length=n':=v.2;refine⟨?_,yF (bH t) v.1 m (by omega)⟩;rw[bH];show _<=n'*bG t;have:(m+1)*bG t<=n'*bG t:=Nat.mul_le_mul_right _ hm;rw[bK,Nat.one_mul]at this;exact this
theorem IP{x:V}{y:TV}{sz:Nat}{i:Int}{kd:IntKind}
  (hz:(match x with
  |.x (.sl t) v=>bif bG t==sz then(fw i v.l.length).bind fun m=>k (.pt t (gt v.l m)) s []else none
  |.so id=>(match t9 s.heap (.so id)with|some ⟨t,v,_⟩=>bif bG t==sz then(fw i v.l.length).bind fun m=>k (.ep id m t []) s []else none|none=>none)
  |.sb id _ lo t v=>bif bG t==sz then(fw i v.l.length).bind fun m=>k (.ep id (lo+m) t []) s []else none
  |.sr id=>(match fO s.heap id with|some (.rw t v _)=>bif 1==sz then(fw i v.l.length).bind fun m=>k (.ep id m (.sl t) []) s []else none|_=>none)
  |_=>none)=some z)
  (hr:HR s.next h1 s.heap) (hx:ft s.heap x y) (hk:eW s.next s.heap x) (ha:ig s.heap x=true):wE h1 (.indexAddr none sz) [y,tI kd i] s k z:=by
 cases x with
 |x t v=>
  cases t with
  |sl t=>
   simp only at hz;obtain⟨h2,hz2⟩:=aH hz;obtain⟨m,hm,hz3⟩:=qN hz2;obtain rfl:bG t=sz:=by simpa using h2
   rw[xF hx];exact .pure hr hz3 (x:=.c (.d (.pt (aP t (gt (Sl.l v) m))))) (fun _=>Pp hm) (bU (dM rfl ⟨PG (t:=.sl t) hx,rfl⟩)) trivial
  |_=>simp at hz
 |so id=>
  simp only at hz;split at hz
  .rename_i t v l hs;obtain⟨h2,hz2⟩:=aH hz;obtain⟨m,hm,hz3⟩:=qN hz2;obtain⟨ver,ho,_⟩:=uF hs;simp only at ho;rw[rB hx (lF ho)];refine .pure hr hz3 (x:=.c (.ep id m 0)) (fun _=>Ma rfl (by simpa using h2) hm) (bU (dM rfl (by cases t<;>rfl))) ⟨hk,by cases t<;>trivial,fun u w' v' ho'=>?_,fun u w' v' ho'=>?_⟩
   .have:=(kW.1 hm).2;rw[In ho ho'];exact this
   .rcases ho with ho|ho<;>rw[ho]at ho'<;>cases ho'
  .simp at hz
 |sr id=>
  simp only at hz;split at hz
  .rename_i t v ln ho;obtain⟨h2,hz2⟩:=aH hz;obtain⟨m,hm,hz3⟩:=qN hz2;rw[AE hx (sI ho)];refine .pure hr hz3 (x:=.c (.ep id m 0)) (fun _=>Ma (t:=.sl t) rfl (Eq.trans (rfl:bG (.sl t)=1) (beq_iff_eq.1 h2)) hm) (bU (dM rfl rfl)) ⟨hk,trivial,fun u w' v' ho'=>?_,fun u w' v' ho'=>?_⟩
   .rw [ho]at ho';rcases ho' with ho'|ho'<;>cases ho'
   .rw [ho]at ho';cases ho';exact(kW.1 hm).2
  .simp at hz
 |sb id ver lo t v=>
  simp only at hz;obtain⟨h2,hz2⟩:=aH hz;obtain⟨m,hm,hz3⟩:=qN hz2;obtain rfl:bG t=sz:=by simpa using h2
  rw[qo hx ha];have hm2:=(kW.1 hm).2;cases v with
  |nil=>exact IM hm
  |mk w=>refine .pure hr hz3 (x:=.c (.ep id (lo+m) 0)) (fun _=>Pq (l:=w) hm) (bU (dM rfl (by cases t<;>rfl))) ⟨hk.1,by cases t<;>trivial,fun u w' v' ho'=>?_,fun u w' v' ho'=>by obtain⟨u0,s0,ho⟩:=lu (h:=s.heap) (id:=id) (ver:=ver) (cN.1 ha).2;rcases ho with ho|ho<;>rw[ho]at ho'<;>cases ho'⟩;obtain⟨u0,s0,ho⟩:=lu (h:=s.heap) (id:=id) (ver:=ver) (cN.1 ha).2;obtain⟨_,h4⟩:=hk.2 u0 s0 ver ho;obtain⟨_,h6⟩:=h4 rfl;rw[In ho ho'];cases s0 with|nil=>exact h6.elim|mk l=>have:=h6.1;simp only[Sl.l]at hm2|-;omega
 |_=>simp at hz
theorem IN{x:V}{y:TV}{n0 sz:Nat}{i:Int}{kd:IntKind}
  (hz:(match x with
  |.op id t p=>(match ru t p with|some (.ar n' u)=>bif(n'==n0)&&(bG u==sz)then(fw i n0).bind fun m=>k (.op id t (p++[.ix m])) s []else none|_=>none)
  |.ep id q t p=>(match ru t p with|some (.ar n' u)=>bif(n'==n0)&&(bG u==sz)then(fw i n0).bind fun m=>k (.ep id q t (p++[.ix m])) s []else none|_=>none)
  |.pt (.ar n' u) v=>bif(n'==n0)&&(bG u==sz)then(fw i n0).bind fun m=>k (.pt u (gt v.1 m)) s []else none
  |_=>none)=some z)
  (hr:HR s.next h1 s.heap) (hx:ft s.heap x y) (hk:eW s.next s.heap x):wE h1 (.indexAddr (some n0) sz) [y,tI kd i] s k z:=by
 cases x with
 |op id t p=>
  simp only at hz;split at hz
  .rename_i n' u hu;obtain⟨h2,hz2⟩:=aH hz;obtain⟨m,hm,hz3⟩:=qN hz2;simp only[ah,beq_iff_eq]at h2;obtain⟨rfl,rfl⟩:=h2;obtain⟨rfl,hm2⟩:=kW.1 hm;obtain⟨q1,q2⟩:=Fw p t u n' m hu hm2 hk.2;rw[vO hx];refine .pure hr hz3 (x:=.c (.op id (mJ t p+m*bG u))) (fun _=>?_) (bU (dM rfl ?_)) ⟨hk.1,q1⟩
   .simp only[lV,bX,ci,iC];rw[if_pos ⟨by omega,by omega⟩];simp
   .show [_]=[_];rw[q2]
  .simp at hz
 |ep id q t p=>
  simp only at hz;split at hz
  .rename_i n' u hu;obtain⟨h2,hz2⟩:=aH hz;obtain⟨m,hm,hz3⟩:=qN hz2;simp only[ah,beq_iff_eq]at h2;obtain⟨rfl,rfl⟩:=h2;obtain⟨rfl,hm2⟩:=kW.1 hm;obtain⟨q1,q2⟩:=Fw p t u n' m hu hm2 hk.2.1;rw[sE hx];refine .pure hr hz3 (x:=.c (.ep id q (mJ t p+m*bG u))) (fun _=>?_) (bU (dM rfl ?_)) ⟨hk.1,q1,hk.2.2⟩
   .simp only[lV,bX,ci,iC];rw[if_pos ⟨by omega,by omega⟩];simp
   .show [_]=[_];rw[q2]
  .simp at hz
 |pt t v=>cases t with|ar n' u=>simp only at hz;obtain⟨h2,hz2⟩:=aH hz;obtain⟨m,hm,hz3⟩:=qN hz2;simp only[ah,beq_iff_eq]at h2;obtain⟨rfl,rfl⟩:=h2;obtain⟨rfl,hm2⟩:=kW.1 hm;obtain⟨hd,rfl⟩:=xG hx;obtain⟨a1,a2⟩:=Dd v hm2;refine .pure hr hz3 (x:=.c (.d (.pt (aP u (gt v.1 m))))) (fun _=>?_) (bU (dM rfl ⟨hd,rfl⟩)) trivial;simp only[lV,bX,ci,iC];rw[if_pos ⟨by omega,by omega⟩];simp only[Int.toNat_natCast];rw[if_pos a1,a2]|_=>simp at hz
 |_=>simp at hz
end
section
variable{h:H2}{n:Nat}{h1:bh}{β:Type}{s:S2}{k:V->S2->List Nat->Option β}{z:β}
theorem Bj{t u:Ty}{m:Sl (El t)}{m':Sl (El u)}(hc:fF (.sl t) (.sl u) m=some m'):t=u/\m'.l.map (aP u)=m.l.map (aP t):=by obtain⟨e,rfl⟩:=cE hc;cases e;exact⟨rfl,rfl⟩
theorem MB{c:C}{t:Ty}{id sz:Nat}{w:Sl (El t)}{ver:Nat}(hr:HR n h1 h)(hc:c=kr (bG t) (aP t) id w)(hsz:bG t=sz)(ho:fO h id=some (.ar t w ver)\/fO h id=some (.im t w ver)):
  ∃au,fY sz h1 c=some (w.l.map (aP t),au)/\∀i∈au,i=id:=by
 subst hc hsz;cases w with
 |nil=>exact⟨[],rfl,fun i hi=>by simp at hi⟩
 |mk l=>
  refine⟨[id],?_,fun i hi=>by simpa using hi⟩;rcases ho with ho|ho
  .have hb:=(hr.ob id _ ho).2.1.2.2 l rfl;simp only[kr,fY,hb];rw[if_pos ⟨trivial,by simp⟩,tY];rfl
  .have hb:=(hr.ob id _ ho).2.1.2.2 l rfl;simp only[kr,fY,hb];rw[if_pos ⟨trivial,by simp⟩,tY];rfl
theorem Ku{id lo ver sz:Nat}{t:Ty}{r:Sl (El t)}(hr:HR n h1 h)(hk:eW n h (.sb id ver lo t r))(ha:ig h (.sb id ver lo t r)=true)(hsz:bG t=sz):
  ∃au,fY sz h1 (xp id lo t r)=some (r.l.map (aP t),au)/\∀i∈au,i=id:=by
 subst hsz;obtain⟨u,s0,ho⟩:=lu (h:=h) (id:=id) (ver:=ver) (cN.1 ha).2;obtain⟨_,h4⟩:=hk.2 u s0 ver ho;obtain⟨h5,h6⟩:=h4 rfl;cases r with
 |nil=>exact⟨[],rfl,fun i hi=>by simp at hi⟩
 |mk w=>
  cases s0 with
  |nil=>exact h6.elim
  |mk l=>
   refine⟨[id],?_,fun i hi=>by simpa using hi⟩
   have hb:ao h1 id=some (.aF (bG u) (l.map (aP u)))\/ao h1 id=some (.pD (bG u) (l.map (aP u))):=by
    rcases ho with ho|ho
    .exact .inl ((hr.ob id _ ho).2.1.2.2 l rfl)
    .exact .inr ((hr.ob id _ ho).2.1.2.2 l rfl)
   rcases hb with hb|hb
   .simp only[xp,fY,hb];rw[if_pos ⟨trivial,by simpa using h6.1⟩];rw[aR,h6.2];rfl
   .simp only[xp,fY,hb];rw[if_pos ⟨trivial,by simpa using h6.1⟩];rw[aR,h6.2];rfl
theorem Fa{x:V}{y:TV}{t0 t:Ty}{m:Sl (El t)}{l:List Nat}{sz:Nat}(hr:HR n h1 h)(hx:ft h x y)(hk:eW n h x)(ha:ig h x=true)(hs:HP t0 h x=some ⟨t,m,l⟩)(hsz:bG t=sz):
  ∃c au,y=.c c/\fY sz h1 c=some (m.l.map (aP t),au)/\∀i∈au,i∈l:=by
 cases x with
 |nl j=>cases j with|zero=>simp only[HP]at hs;obtain⟨rfl,e⟩:=jr (aa hs);obtain⟨rfl,rfl⟩:=ad (eq_of_heq e);exact⟨_,[],uA hx,rfl,fun i hi=>by simp at hi⟩|succ j=>simp[HP,t9]at hs
 |x u v=>cases u with|sl u=>simp only[HP,t9]at hs;obtain⟨rfl,e⟩:=jr (aa hs);obtain⟨rfl,rfl⟩:=ad (eq_of_heq e);subst hsz;exact⟨_,[],xF hx,Kt,fun i hi=>by simp at hi⟩|_=>simp[HP,t9]at hs
 |so id=>obtain⟨ver,ho,e⟩:=uF (h:=h) (id:=id) hs;obtain rfl:l=[id]:=e;obtain⟨au,q1,q2⟩:=MB hr rfl hsz ho;exact⟨_,au,rB hx (lF ho),q1,fun i hi=>by simpa using q2 i hi⟩
 |sb id ver lo u r=>simp only[HP,t9]at hs;obtain⟨rfl,e⟩:=jr (aa hs);obtain⟨rfl,rfl⟩:=ad (eq_of_heq e);obtain⟨au,q1,q2⟩:=Ku hr hk ha hsz;exact⟨_,au,qo hx ha,q1,fun i hi=>by simpa using q2 i hi⟩
 |_=>simp[HP,t9]at hs
def ul(s:S2):Option Nat->S2
 |none=>s
 |some id=>c8 s id none
theorem Bo{ll:Option Nat}{t:Ty}{w:Sl (El t)}{u:eg}{au l:List Nat}{m:Nat}(hr:HR s.next h1 s.heap)(hkl:∀id,ll=some id->id<s.next)(hd:zi t=true)(hu:∀p∈u,p.1=s.next\/ll=some p.1)(hl:∀i∈au,i∈l)(hm:m<=s.next+1)
  (hb:∀l,w=.mk l->ao (u++h1) s.next=some (.aF (bG t) (l.map (aP t)))) {x:TV} (hx:x=.c (kr (bG t) (aP t) s.next w)):qK s (gq (ul s ll) (.ar t w 0)) h1 x u au m (.so s.next) l:=by
 have hnx:(ul s ll).next=s.next:=by cases ll<;>rfl
 have hh:(gq (ul s ll) (.ar t w 0)).heap=(s.next,some (.ar t w 0))::(ul s ll).heap:=by simp only[gq,hnx]
 have hfo:∀i,fO (gq (ul s ll) (.ar t w 0)).heap i=if s.next=i then some (.ar t w 0)else if ll=some i then none else fO s.heap i:=by intro i;rw[hh,cC];cases ll with|none=>simp[ul]|some id=>simp only[ul,c8,cC,bS]
 have hnn:(gq (ul s ll) (.ar t w 0)).next=s.next+1:=by simp only[gq,hnx]
 refine qK.CG (s.next::ll.toList) hr ⟨fun i o' hi ho=>?_⟩ ?_ ?_ ?_ ?_ hl ?_ ?_ ?_ ?_ ?_ ?_ (fun i hi h=>by rw[hfo,if_neg (by omega)];split<;>first|rfl|exact h)
 .rw [hfo,if_neg (by omega)]at ho;split at ho
  .simp at ho
  .exact .inl ⟨o',ho,sf.refl _⟩
 .cases ll<;>rfl
 .cases ll<;>rfl
 .rw [hnn];exact hm
 .rw [hnn];omega
 .cases ll<;>simp[gq,ul,c8]
 .intro p hp;rcases hu p hp with e|e
  .simp [e]
  .simp [e]
 .intro i hi;rw[hfo,if_neg (fun e=>hi (by simp[e])),if_neg (fun e=>hi (by simp[e]))]
 .intro i hi o ho;rw[hfo]at ho;split at ho
  .rename_i e;subst e;obtain rfl:=aa ho;obtain⟨h3,h4⟩:=nQ hd;exact⟨by rw[hnn];omega,⟨h3,h4,hb⟩,trivial⟩
  .rename_i e;split at ho
   .simp at ho
   .rename_i e2;rcases aJ.1 hi with hi|hi
    .exact absurd hi.symm e
    .exact absurd (by simpa using hi) e2
 .rw [hx,hh,show s.next=s.next from rfl];exact v9
 .rw [hnn];exact aQ _
theorem GY{sz:Nat}{c:C}{new:List (List D)}{au:List Nat}(hx:fY sz h1 c=some (new,au))(hl:new.length<=2147483648){nx:Nat}{cl:Call}:
  bX cl (.append sz) [some (.c (.d (.lit (.slice none 0 0)))),some (.c c)] h1 nx=if new=[]then some (.c (.d (.lit (.slice none 0 0))),[],au,nx)else some (.c (.bP sz nx 0 new.length),[(nx,some (.aF sz new))],au,nx+1):=by
 simp only[bX,jk,hx];rw[if_pos (by simpa[qM]using hl)];cases new<;>simp
theorem vE{ll:Option Nat}{t:Ty}{xs r:List (El t)}{sz:Nat}{c:C}{au l:List Nat}(hr:HR s.next h1 s.heap)(hkl:∀id,ll=some id->id<s.next)(hd:zi t=true)(hsz:bG t=sz)(hx:fY sz h1 c=some (xs.map (aP t),au))(hc:mi ([]++xs)=some r)
  (hl:∀i∈au,i∈l) (hz:k (.so s.next) (gq (ul s ll) (.ar t (tg Sl.nil xs r) 0)) l=some z):wE h1 (.append sz) [.c (.d (.lit (.slice none 0 0))),.c c] s k z:=by
 subst hsz;obtain⟨rfl,hlen⟩:=wy.1 hc;refine⟨_,_,_,hz,fun cl=>?_⟩;simp only[ap,aN];rw[GY hx (by simpa using hlen)];cases xs with|nil=>exact⟨_,_,_,_,rfl,Bo hr hkl hd (fun p hp=>by simp at hp) hl (a_ _) (fun l e=>by cases e) rfl⟩|cons y ys=>refine⟨_,_,_,_,if_neg (by simp),Bo hr hkl hd (fun p hp=>by simp at hp;simp[hp]) hl (am _) (fun l e=>?_) rfl⟩;simp only[tg,bB]at e;cases e;rw[aT,ck,if_pos rfl]
theorem FN{t:Ty}{w xs r:List (El t)}{sz id off:Nat}{rows:List (List D)}{c:C}{au l:List Nat}(hr:HR s.next h1 s.heap)(hid:id<s.next)(hd:zi t=true)(hsz:bG t=sz)(hl1:ao h1 id=some (.aF sz rows))(hle:off+w.length<=rows.length)(hro:rows.length<=off+(w.length+xs.length))(he:(rows.drop off).take w.length=w.map (aP t))
  (hx:fY sz h1 c=some (xs.map (aP t),au)) (hc:mi (w++xs)=some r) (hl:∀i∈id::au,i∈l) (hz:k (.so s.next) (gq (c8 s id none) (.ar t (tg (.mk w) xs r) 0)) l=some z):
  wE h1 (.append sz) [.c (.bP sz id off (w.map (aP t)).length),.c c] s k z:=by
 subst hsz;obtain⟨rfl,hlen⟩:=wy.1 hc;have ea:tg (.mk w) xs (w++xs)=.mk (w++xs):=by cases xs<;>rfl
 rw[ea]at hz;refine⟨_,_,_,hz,fun cl=>⟨.c (.bP (bG t) s.next 0 ((w++xs).map (aP t)).length),[(id,none),(s.next,some (.aF (bG t) ((w++xs).map (aP t))))],id::au,s.next+1,?_,?_⟩⟩
 .simp only[ap,aN,bX,jk,hx,hl1];simp only[aR,bm]at hlen|-;rw[if_pos ⟨trivial,by omega,by simpa[qM]using hlen⟩,he,<-gu,List.drop_eq_nil_of_le (by omega),List.append_nil]
 .refine Bo (ll:=some id) hr (fun i e=>by cases e;exact hid) hd (fun p hp=>?_) hl (am _) (fun l e=>?_) rfl
  .simp only[aJ,fo,or_false]at hp;rcases hp with rfl|rfl<;>simp
  .cases e;rw[aO,ck,if_neg (by omega),aT,ck,if_pos rfl]
theorem Df{a x:V}{ya yx:TV}{t0:Ty}{sz:Nat}
  (hz:(match HP t0 s.heap x with
  |some ⟨t,m,au⟩=>bif(bG t==sz)&&zi t then(match a with
   |.nl 0=>(mi ([]++m.l)).bind fun r=>k (.so s.next) (gq s (.ar t (tg Sl.nil m.l r) 0)) au
   |.x (.sl _) v=>bif Sl.eS v then((mi ([]++m.l)).bind fun r=>k (.so s.next) (gq s (.ar t (tg Sl.nil m.l r) 0)) au)else none
   |.so id=>(match fO s.heap id with
    |some (.ar u v _)=>(match fF (.sl t) (.sl u) m with
     |some m=>(mi (v.l++m.l)).bind fun r=>k (.so s.next) (gq (c8 s id none) (.ar u (tg v m.l r) 0)) (id::au)
     |none=>none)
    |_=>none)
   |.sb id _ lo u v=>(match fO s.heap id,fF (.sl t) (.sl u) m with
    |some (.ar _ s0 _),some m=>bif Nat.ble s0.l.length (lo+(v.l.length+m.l.length))then((mi (v.l++m.l)).bind fun r=>k (.so s.next) (gq (c8 s id none) (.ar u (tg v m.l r) 0)) (id::au))else none
    |_,_=>none)
   |_=>none)else none
  |none=>none)=some z)
  (hr:HR s.next h1 s.heap) (ha1:ft s.heap a ya) (ha2:eW s.next s.heap a) (ha3:ig s.heap a=true) (hx:ft s.heap x yx) (hk:eW s.next s.heap x) (ha:ig s.heap x=true):wE h1 (.append sz) [ya,yx] s k z:=by
 split at hz
 .rename_i t m l hs;obtain⟨h2,hz2⟩:=aH hz;simp only[ah,beq_iff_eq]at h2;obtain⟨hsz,hd⟩:=h2;obtain⟨c,au,rfl,q1,q2⟩:=Fa hr hx hk ha hs hsz;clear hz;cases a with
  |nl j=>cases j with|zero=>obtain⟨r,hc,hz3⟩:=qN hz2;rw[uA ha1];exact vE (ll:=none) hr (fun _ e=>by cases e) hd hsz q1 hc q2 hz3|succ j=>simp at hz2
  |x u v=>
   cases u with
   |sl u=>obtain⟨hnil,hz3⟩:=aH hz2;obtain⟨r,hc,hz4⟩:=qN hz3;cases v with|mk=>cases hnil|nil=>obtain⟨cc,rfl,hcc⟩:=iS (v:=.x (.sl u) Sl.nil) ha1 rfl;obtain rfl:cc=z7 0:=(cf hcc.2).1;exact vE (ll:=none) hr (fun _ e=>by cases e) hd hsz q1 hc q2 hz4
   |_=>simp at hz2
  |so id=>
   simp only at hz2;split at hz2
   .rename_i u v ver ho;split at hz2
    .rename_i m' hm;obtain⟨rfl,e⟩:=Bj hm;obtain⟨r,hc,hz3⟩:=qN hz2;rw[rB ha1 (lF (.inl ho))];rw[<-e]at q1;cases v with
     |nil=>exact vE (ll:=some id) hr (fun _ e=>by cases e;exact ha2) hd hsz q1 hc (fun i hi=>aC _ (q2 i hi)) hz3
     |mk w=>
      have hb:=(hr.ob id _ ho).2.1.2.2 w rfl;subst hsz;refine FN (w:=w) hr ha2 hd rfl hb (by simp) (by simp only[aR];omega) (by rw[<-aR (f:=aP t)];exact tY) q1 hc (fun i hi=>?_) hz3;rcases aJ.1 hi with rfl|hi
      .exact dZ ..
      .exact aC _ (q2 i hi)
    .simp at hz2
   .simp at hz2
  |sb id ver lo u v=>
   simp only at hz2;split at hz2
   .rename_i u0 s0 v0 m' ho hm;obtain⟨rfl,e⟩:=Bj hm;obtain⟨hgd,hz2b⟩:=aH hz2;obtain⟨r,hc,hz3⟩:=qN hz2b;rw[qo ha1 ha3];rw[<-e]at q1;cases v with
    |nil=>exact vE (ll:=some id) hr (fun _ e=>by cases e;exact ha2.1) hd hsz q1 hc (fun i hi=>aC _ (q2 i hi)) hz3
    |mk w=>
     obtain⟨u1,s1,ho1⟩:=lu (h:=s.heap) (id:=id) (ver:=ver) (cN.1 ha3).2;obtain⟨_,h4⟩:=ha2.2 u1 s1 ver ho1;obtain⟨h5,h6⟩:=h4 rfl
     have ho2:fO s.heap id=some (.ar u1 s1 ver):=by
      rcases ho1 with ho1|ho1
      .exact ho1
      .rw [ho]at ho1;simp at ho1
     cases s1 with
     |nil=>exact h6.elim
     |mk l1=>
      have hb:=(hr.ob id _ ho2).2.1.2.2 l1 rfl;subst hsz;rw[h5]at hb
      refine FN (w:=w) hr ha2.1 hd rfl hb (by simpa using h6.1) (by
       rw[ho2]at ho;obtain⟨rfl,e2,_⟩:u1=u0/\_:=by simpa using ho
       cases eq_of_heq e2;have:=fD hgd;simpa[Sl.l]using this) h6.2 q1 hc (fun i hi=>?_) hz3
      rcases aJ.1 hi with rfl|hi
      .exact dZ ..
      .exact aC _ (q2 i hi)
   .simp at hz2
  |_=>simp at hz2
 .simp at hz
end
section
variable{h:H2}{n:Nat}{h1:bh}{β:Type}{s:S2}{k:V->S2->List Nat->Option β}{z:β}
theorem EY{id:Nat}{o o':O}{u:eg}{x:TV}{v:V}{au l:List Nat}(hr:HR s.next h1 s.heap)(ho:fO s.heap id=some o)(hs:sf o o')(hu:∀p∈u,p.1=id)(hb:vp ((id,some o')::s.heap) o' (ao (u++h1) id))(hko:By s.next ((id,some o')::s.heap) o')
  (hx:ft ((id,some o')::s.heap) v x) (hk:eW s.next ((id,some o')::s.heap) v) (hl:∀i∈au,i∈l):qK s (c8 s id (some o')) h1 x u au s.next v l:=by
 refine qK.CG [id] hr (jq.AD ho hs) rfl rfl (am _) (am _) hl rfl (fun p hp=>by simp[hu p hp]) (fun i hi=>?_) (fun i hi o2 ho2=>?_) hx hk (fun i _ h=>by simp only[c8];rw[cC,if_neg (fun e=>by rw[e,h]at ho;cases ho)];exact h)
 .simp only[c8];rw[cC,if_neg fun e=>hi (by simp[e])]
 .obtain rfl:=aq.1 hi;simp only[c8,tX]at ho2;obtain rfl:=aa ho2;exact⟨(hr.ob _ _ ho).1,hb,hko⟩
theorem rY{id ver:Nat}{t:Ty}{w w':Sl (El t)}{u:eg}{x:TV}{v:V}{au l:List Nat}(hr:HR s.next h1 s.heap)(ho:fO s.heap id=some (.ar t w ver))(hn:w.eS=w'.eS)(hlen:w.l.length=w'.l.length)(hu:∀p∈u,p.1=id)
  (hb:∀l,w'=.mk l->ao (u++h1) id=some (.aF (bG t) (l.map (aP t)))) (hx:∀g,ft g v x) (hk:∀n g,eW n g v) (hl:∀i∈au,i∈l):qK s (c8 s id (some (.ar t w' (ver+1)))) h1 x u au s.next v l:=by
 obtain⟨h2,h3,_⟩:=(hr.ob id _ ho).2.1;exact EY hr ho ⟨a_ _,rfl,hn,hlen,fun e=>by omega⟩ hu ⟨h2,h3,hb⟩ trivial (hx _) (hk _ _) hl
theorem G9{a x:V}{ya yx:TV}{t0:Ty}{sz:Nat}
  (hz:(match HP t0 s.heap x with
  |some ⟨t,m,au⟩=>bif bG t==sz then(match a with
   |.nl 0=>k (.x (.i .i64) (0:Int)) s au
   |.so id=>(match fO s.heap id with
    |some (.ar u v ver)=>(match fF (.sl t) (.sl u) m with
     |some m=>k (.x (.i .i64) ((min m.l.length v.l.length:Nat):Int)) (c8 s id (some (.ar u (v.to (Jr v.l 0 v.l.length m.l)) (ver+1)))) (id::au)
     |none=>none)
    |_=>none)
   |.sb id ver lo _ v=>(match fO s.heap id with
    |some (.ar u w ver')=>(match fF (.sl t) (.sl u) m with
     |some m=>bif ver'==ver then k (.x (.i .i64) ((min m.l.length v.l.length:Nat):Int)) (c8 s id (some (.ar u (w.to (Jr w.l lo v.l.length m.l)) (ver+1)))) (id::au)else none
     |none=>none)
    |_=>none)
   |_=>none)else none
  |none=>none)=some z)
  (hr:HR s.next h1 s.heap) (ha1:ft s.heap a ya) (ha2:eW s.next s.heap a) (ha3:ig s.heap a=true) (hx:ft s.heap x yx) (hk:eW s.next s.heap x) (ha:ig s.heap x=true):wE h1 (.copy sz) [ya,yx] s k z:=by
 have hmem:∀{id:Nat}{au l:List Nat},(∀i∈au,i∈l)->∀i∈id::au,i∈id::l:=fun q i hi=>by
  rcases aJ.1 hi with rfl|hi
  .exact dZ ..
  .exact aC _ (q i hi)
 split at hz
 .rename_i t m l hs;obtain⟨h2,hz2⟩:=aH hz;obtain rfl:bG t=sz:=by simpa using h2
  obtain⟨c,au,rfl,q1,q2⟩:=Fa hr hx hk ha hs rfl;clear hz;cases a with
  |nl j=>cases j with|zero=>rw[uA ha1];exact⟨_,_,_,hz2,fun cl=>⟨tI .i64 0,[],au,s.next,by simp only[ap,aN,bX,jx,z7,q1];rfl,qK.pure hr (xi _ _) trivial q2⟩⟩|succ j=>simp at hz2
  |so id=>
   simp only at hz2;split at hz2
   .rename_i u v ver ho;split at hz2
    .rename_i m' hm;obtain⟨rfl,e⟩:=Bj hm;rw[rB ha1 (lF (.inl ho))];rw[<-e]at q1;cases v with
     |nil=>refine⟨_,_,_,hz2,fun cl=>⟨tI .i64 0,[],au,s.next,by simp only[ap,aN,bX,jx,kr,q1];rfl,?_⟩⟩;exact rY hr ho rfl rfl (fun p hp=>by simp at hp) (fun l e=>by cases e) (fun g=>by simpa[Sl.l]using xi .i64 0) (fun _ _=>trivial) fun i hi=>aC _ (q2 i hi)
     |mk w=>
      have hb:=(hr.ob id _ ho).2.1.2.2 w rfl;refine⟨_,_,_,hz2,fun cl=>⟨_,_,_,_,NJ hb q1,?_⟩⟩;refine rY hr ho rfl ?_ (fun p hp=>by simp at hp;simp[hp]) (fun l e=>?_) (fun g=>xi _ _) (fun _ _=>trivial) (hmem q2)
      .simp only[Sl.to,Sl.l];rw[uP (by omega)]
      .simp only[Sl.to,Sl.l]at e;cases e;rw[aT,ck,if_pos rfl];rfl
    .simp at hz2
   .simp at hz2
  |sb id ver lo u0 v=>
   simp only at hz2;split at hz2
   .rename_i u w ver' ho;split at hz2
    .rename_i m' hm;obtain⟨rfl,e⟩:=Bj hm;obtain⟨h3,hz3⟩:=aH hz2;obtain rfl:ver'=ver:=by simpa using h3
     rw[qo ha1 ha3];rw[<-e]at q1;obtain⟨_,h4⟩:=ha2.2 t w ver' (.inl ho);obtain⟨h5,h6⟩:=h4 rfl;cases v with
     |nil=>cases w with|mk w=>exact h6.elim|nil=>refine⟨_,_,_,hz3,fun cl=>⟨tI .i64 0,[],au,s.next,by simp only[ap,aN,bX,jx,xp,q1];rfl,?_⟩⟩;exact rY hr ho rfl rfl (fun p hp=>by simp at hp) (fun l e=>by cases e) (fun g=>by simpa[Sl.l]using xi .i64 0) (fun _ _=>trivial) fun i hi=>aC _ (q2 i hi)
     |mk v=>
      cases w with
      |nil=>exact h6.elim
      |mk w=>
       have hb:=(hr.ob id _ ho).2.1.2.2 w rfl;refine⟨_,_,_,hz3,fun cl=>⟨tI .i64 (min m'.l.length v.length:Nat),[(id,some (.aF (bG t) ((Jr w lo v.length m'.l).map (aP t))))],id::au,s.next,?_,?_⟩⟩
       .simp only[ap,aN,bX,jx,xp,q1,hb,<-h5];rw[if_pos ⟨trivial,by simpa using h6.1⟩];simp only[Ez,aR];rfl
       .refine rY hr ho rfl ?_ (fun p hp=>by simp at hp;simp[hp]) (fun l e=>?_) (fun g=>xi _ _) (fun _ _=>trivial) (hmem q2)
        .simp only[Sl.to,Sl.l];rw[uP h6.1]
        .simp only[Sl.to,Sl.l]at e;cases e;rw[aT,ck,if_pos rfl];rfl
    .simp at hz2
   .simp at hz2
  |_=>simp at hz2
 .simp at hz
theorem xK{g:H2}:ft g (.tp .ni) (.gB []):=⟨[],rfl,rfl⟩
theorem ED{a:V}{ya:TV}{zz:List Value}
  (hz:(match a with
  |.sb id ver lo _ v=>(match fO s.heap id with
   |some (.ar u w ver')=>bif(ver'==ver)&&t8 (ng u) zz&&zi u then(Hc w lo v.l.length (mE u)).bind fun w=>k (.tp .ni) (c8 s id (some (.ar u w (ver+1)))) [id]else none
   |_=>none)
  |_=>none)=some z)
  (hr:HR s.next h1 s.heap) (ha1:ft s.heap a ya) (ha2:eW s.next s.heap a) (ha3:ig s.heap a=true):wE h1 (.clear zz) [ya] s k z:=by
 cases a with
 |sb id ver lo u0 v=>
  simp only at hz;split at hz
  .rename_i u w ver' ho;obtain⟨h3,hz2⟩:=aH hz;simp only[ah,beq_iff_eq]at h3;obtain⟨⟨rfl,q1⟩,q2⟩:=h3;have q1:=rA q1;subst q1;obtain⟨hd,_⟩:=nQ q2;obtain⟨w',hw,hz3⟩:=qN hz2;rw[qo ha1 ha3];obtain⟨_,h4⟩:=ha2.2 u w ver' (.inl ho);obtain⟨h5,h6⟩:=h4 rfl;have hzl:cO (ng u)=aP u (mE u):=(rz u hd).symm;have hlen:bG u=(ng u).length:=by have:=congrArg List.length hzl;rw[bH,cO,aR]at this;exact this.symm
   cases w with
   |nil=>simp[Hc]at hw
   |mk w=>
    cases v with
    |nil=>exact h6.elim
    |mk v=>
     simp only[Hc,bS]at hw;subst hw;have hb:=(hr.ob id _ ho).2.1.2.2 w rfl;refine⟨_,_,_,hz3,fun cl=>⟨.gB [],[(id,some (.aF (bG u) ((Jr w lo v.length (aB v.length (mE u))).map (aP u))))],[id],s.next,?_,?_⟩⟩
     .simp only[ap,aN,bX,lZ,xp,hb,<-h5];rw[if_pos ⟨hlen,by simpa using h6.1⟩,hzl,<-Ez];simp[aR,List.map_replicate,List.take_of_length_le]
     .refine rY hr ho rfl ?_ (fun p hp=>by simp at hp;simp[hp]) (fun l e=>?_) (fun g=>xK) (fun _ _=>trivial) (fun i hi=>hi)
      .simp only[Sl.l];rw[uP (by simpa using h6.1)]
      .cases e;rw[aT,ck,if_pos rfl];rfl
  .simp at hz
 |_=>simp at hz
theorem BK{id m:Nat}{t:Ty}{p:pS}{w:V}{ya yw:TV}(hr:HR s.next h1 s.heap)(ha1:ft s.heap (.op id t p) ya)(ha2:eW s.next s.heap (.op id t p))(hx:ft s.heap w yw)(hk:eW s.next s.heap w)
  (hz:(bif(xO w==m)then(match fO s.heap id with
  |some (.bx u c)=>bif decide (u=t)then(match ru t p with
   |some a=>(match J2 a w with
    |some w=>(match oz c p w with|some c=>bif eH c false t then k (.tp .ni) (c8 s id (some (.bx t c))) [id]else none|none=>none)
    |none=>none)
   |none=>none)else none
  |_=>none)else none)=some z):wE h1 (.store m) [ya,yw] s k z:=by
 obtain⟨h2,hz2⟩:=aH hz;simp only[beq_iff_eq]at h2;clear hz;split at hz2
 .rename_i u c ho;obtain⟨h3,hz3⟩:=aH hz2;simp only[decide_eq_true_eq]at h3;subst h3;clear hz2;split at hz3
  .rename_i a ha;split at hz3
   .rename_i w' hw;split at hz3
    .rename_i c' hc;obtain⟨h4,hz4⟩:=aH hz3;obtain⟨cw,e1,e2⟩:=qP (oK (D7 hw) hx);obtain⟨q1,q2,q3,q4⟩:=ym hw e1 hk;obtain⟨_,⟨cs,e3,e4,e5⟩,e6⟩:=hr.ob id _ ho;have l1:cw.length=xO w:=ic e1;have l2:cw.length=bG a:=by rw[ic q1,gH _ _ _ q2]
     have l3:cs.length=bG u:=by rw[ic e4,gH _ _ _ e5]
     have l4:=v8 p u a ha ha2.2;have q5:=vV p c u w' c' cs cw a e5 e4 ha2.2 hc ha q1 l2;have q6:=E6 p c w' c' e6 q3 hc;rw[vO ha1];have hos:sf (.bx u c) (.bx u c'):=rfl;refine .AD hr ho hos hz4 (fun cl=>?_) (b:=some (.box (aU cs (mJ u p) cw))) ?_ ?_ xK trivial (au:=[id]) fun i hi=>hi
     .simp only[ap,aN,bX,lY,e2];rw[if_pos (l1.trans h2)];simp only[e3];rw[if_pos (by omega)]
     .exact ⟨_,rfl,lq (jq.AD ho hos) q6 q5,h4⟩
     .exact gy (am _) (jq.AD ho hos) q6
    .simp at hz3
   .simp at hz3
  .simp at hz3
 .simp at hz2
theorem qK.seq{s1 s':S2}{fu u:eg}{x:TV}{au a l:List Nat}{m:Nat}{v:V}(eG:jq s.next s.heap s1.heap)(he:s1.cR=s.cR)(hg:s1.gh=s.gh)(hn:s1.next=s.next)(hwo:s1.wo=a++s.wo)(hu:∀p∈fu,p.1∈a)(hf:∀id,id∉a->fO s1.heap id=fO s.heap id)
  (hna:∀i∈a,fO s.heap i≠none) (hd:qK s1 s' (fu++h1) x u au m v l):qK s s' h1 x (u++fu) au m v l:=by
 obtain⟨d1,d2,d3,d4,d5,d6,d7,d8,d9,d10,W,w1,w2,w3⟩:=hd;refine⟨d1,d2,by rw[aS];exact d3,jq.trans (Nat.le_of_eq hn.symm) eG d4,d5.trans he,d6.trans hg,d7,by omega,d9,fun i hi h=>d10 i (by omega) ((hf i fun q=>hna i q h).trans h),W++a,by rw[w1,hwo,aS],fun p hp=>?_,fun i hi=>?_⟩
 .rcases ak.1 hp with hp|hp
  .exact aG _ (w2 p hp)
  .exact aD _ (hu p hp)
 .rw [w3 i fun q=>hi (aG _ q),hf i fun q=>hi (aD _ q)]
theorem I5{v w:V}{l:List Nat}(hf:jb h v=some (w,l)):KE v:=by cases v<;>first|trivial|(simp[jb]at hf)
theorem pA{a b:List D}(e:a.map C.d=b.map C.d):a=b:=by
 induction a generalizing b with
 |nil=>cases b with|nil=>rfl|cons y b=>simp at e
 |cons x a ih=>cases b with|nil=>simp at e|cons y b=>simp only[ap,dK,C.d.injEq]at e;rw[e.1,ih e.2]
theorem NF:∀(p:pS)(t u:Ty),jW t=true->ru t p=some u->jW u=true:=by
 intro p;induction p with
 |nil=>
  intro t u hd h;have e:ru t []=some t:=by cases t<;>rfl
  rw[e]at h;exact aa h▸hd
 |cons q p ih=>
  intro t u hd h;cases q with
  |fd i=>
   cases t with
   |st t=>
    simp only[ru]at h;split at h
    .rename_i w hw;exact ih w u (yM t i w hd hw) h
    .simp at h
   |_=>simp[ru]at h
  |ix i=>cases t with|ar l t=>exact ih t u hd h|_=>simp[ru]at h
theorem Fl(t:Ty):mJ t []=0:=by cases t<;>rfl
theorem DB{t:Ty}{l:List (Sl (El t))}{ln:Option (Nat×Nat)}{m:Nat}{r:Sl (El t)}(h:E5 ln m=true):(dO t l ln).set m (nn t r)=dO t (l.set m r) none:=by cases ln with|none=>simp only[dO,List.map_set]|some q=>obtain⟨m',i⟩:=q;obtain rfl:m'=m:=Nat.eq_of_beq_eq_true h;simp only[dO,List.map_set,List.set_set]
theorem DC{t:Ty}{l:List (Sl (El t))}{ln:Option (Nat×Nat)}:(dO t l ln).length=l.length:=by cases ln with|none=>simp[dO]|some q=>obtain⟨m',i⟩:=q;simp[dO]
theorem yd{id id2 m:Nat}{t:Ty}{l:List (Sl (El t))}{ln:Option (Nat×Nat)}{o2:O}{r:Sl (El t)}{u:eg}{au:List Nat}(hr:HR s.next h1 s.heap)(ho:fO s.heap id=some (.rw t (.mk l) ln))(ho2:fO s.heap id2=some o2)(hne:id2≠id)(hlnm:E5 ln m=true)
  (hu:∀p∈u,p.1=id\/p.1=id2) (hb:ao (u++h1) id=some (.nst (bG t) ((dO t l ln).set m (nn t r)))) (hids:∀i∈au,i∈[id,id2]):
  qK s (c8 (c8 s id2 none) id (some (.rw t (.mk (l.set m r)) none))) h1 (.gB []) u au s.next (.tp .ni) [id,id2]:=by
 have eG:jq s.next s.heap ((id,some (.rw t (.mk (l.set m r)) none))::(id2,none)::s.heap):=by refine jq.trans (am _) (jq.ll id2) (jq.AD (o:=.rw t (.mk l) ln) ?_ ⟨rfl,rfl,by simp[Sl.l]⟩);rw[cC,if_neg hne];exact ho
 refine qK.CG [id,id2] hr eG rfl rfl (am _) (am _) hids rfl (fun p hp=>?_) (fun i hi=>?_) (fun i hi o ho'=>?_) xK trivial (fun i _ h=>?_)
 .rcases hu p hp with e|e<;>simp[e]
 .simp only[aJ,fo,or_false,not_or]at hi;simp only[c8];rw[cC,if_neg (fun e=>hi.1 e.symm),cC,if_neg (fun e=>hi.2 e.symm)]
 .simp only[c8]at ho';by_cases hi1:id=i
  .subst hi1;rw[cC,if_pos rfl]at ho';obtain rfl:=aa ho';obtain⟨a,⟨d1,d2,_⟩,_⟩:=hr.ob _ _ ho;exact⟨a,⟨d1,d2,fun l' e=>by cases e;rw[hb,DB hlnm]⟩,trivial⟩
  .rw [cC,if_neg hi1]at ho';simp only[aJ,fo,or_false]at hi;rcases hi with rfl|rfl
   .exact absurd rfl hi1
   .rw [cC,if_pos rfl]at ho';cases ho'
 .simp only[c8];rw[cC,if_neg (fun e=>by subst e;rw[ho]at h;cases h),cC,if_neg (fun e=>by subst e;rw[ho2]at h;cases h)];exact h
theorem qK.nx{s s':S2}{x:TV}{u:eg}{au l:List Nat}{m q:Nat}{v:V}(d:qK s s' h1 x u au m v l)(hq:q<=s'.next):qK s s' h1 x u au q v l:=⟨d.val,d.Td,d.hr,d.eG,d.cR,d.gh,hq,d.le,d.au,d.nb,d.wo⟩
theorem BL{id m q:Nat}{t:Ty}{p:pS}{w:V}{ya yw:TV}(hr:HR s.next h1 s.heap)(ha1:ft s.heap (.ep id m t p) ya)(ha2:eW s.next s.heap (.ep id m t p))(hx:ft s.heap w yw)(hk:eW s.next s.heap w)(ha:ig s.heap w=true)
  (hz:(bif(xO w==q)then Dz id m t p w s (fun s l=>k (.tp .ni) s l)else none)=some z):wE h1 (.store q) [ya,yw] s k z:=by
 obtain⟨h2,hz2⟩:=aH hz;simp only[beq_iff_eq]at h2;clear hz;unfold Dz at hz2;split at hz2
 .rename_i u v ln ho;split at hz2
  .rename_i id2;split at hz2
   .rename_i u2 r ver ho2;split at hz2
    .rename_i r' hr';obtain⟨h3,hz3⟩:=aH hz2;simp only[ah,decide_eq_true_eq,fB,beq_eq_false_iff_ne]at h3;obtain⟨⟨rfl,hne⟩,hln⟩:=h3;obtain⟨e,e2⟩:=cE hr';cases e;obtain rfl:r'=r:=e2;have hlen:=ha2.2.2.2 _ _ _ ho;obtain⟨_,⟨d1,d2,d3⟩,_⟩:=hr.ob id _ ho;obtain⟨_,⟨_,_,c3⟩,_⟩:=hr.ob id2 _ ho2;cases v with
     |nil=>simp[Sl.l]at hlen
     |mk l=>
      have d3:=d3 l rfl;have h2':q=1:=h2.symm;subst h2';rw[sE ha1,rB hx (lF (.inl ho2)),Fl];have hl2:m<(dO u l ln).length:=by rw[DC];exact hlen
      cases r' with
      |nil=>
       refine⟨_,_,_,hz3,fun cl=>⟨.gB [],[(id,some (.nst (bG u) ((dO u l ln).set m .nil)))],[id],s.next,?_,?_⟩⟩
       .simp only[ap,aN,bX,lY,kr,cellsOf,d3];rw[if_pos (show([_]:List C).length=1 from rfl)];rw[if_pos ⟨trivial,trivial,hl2⟩];simp only[rS]
       .exact yd hr ho ho2 hne hln (fun p hp=>by simp at hp;simp[hp]) (by rw[aT,ck,if_pos rfl];rfl) (fun i hi=>by simp at hi;simp[hi])
      |mk rr=>
       have c3:=c3 rr rfl;refine⟨_,_,_,hz3,fun cl=>⟨.gB [],[(id,some (.nst (bG u) ((dO u l ln).set m (.bi (rr.map (aP u)))))),(id2,none)],[id,id2],s.next,?_,?_⟩⟩
       .simp only[ap,aN,bX,lY,kr,cellsOf,d3];rw[if_pos (show([_]:List C).length=1 from rfl)];rw[if_pos ⟨trivial,trivial,hl2⟩];simp only[rS,c3];rw[if_pos ⟨trivial,by simp,hne⟩]
       .exact yd hr ho ho2 hne hln (fun p hp=>by simp at hp;rcases hp with rfl|rfl<;>simp) (by rw[aO,ck,if_pos rfl];rfl) (fun i hi=>hi)
    .simp at hz2
   .simp at hz2
  .simp at hz2
 .rename_i u l ver ho;split at hz2
  .rename_i w' a hw;obtain⟨h3,hz3⟩:=aH hz2;simp only[decide_eq_true_eq]at h3;subst h3;clear hz2;split at hz3
   .rename_i b2 hb;split at hz3
    .rename_i y hy;split at hz3
     .rename_i c hc;split at hz3
      .rename_i y2 hy2;split at hz3
       .rename_i s1 hs1;obtain⟨h4,hz4⟩:=aH hz3;obtain⟨cw,e1,e2⟩:=qP (oK (I5 hw) hx);obtain⟨ds,au,f1,f2,f3,f4,f5⟩:=sT hr w w' a cw hw e1 hk ha;have e3:=pA (iN w' false b2 y _ hy f2);have hlen:=ha2.2.2.1 u l ver (.inl ho)
        have hnm:∀(ds:List D)(cs:List C)(au:List Nat),dC h1 cs=some (ds,au)->ds.length=cs.length:=by
         intro ds cs;induction cs generalizing ds with
         |nil=>intro au h;obtain⟨rfl,_⟩:[]=ds/\[]=au:=by simpa[dC]using h
               rfl
         |cons c cs ih=>
          intro au h;simp only[dC]at h;split at h
          .rename_i p1 p2 p3 p4 hp hq;obtain⟨rfl,rfl⟩:=ad (aa h);simp[ih _ _ hq]
          .simp at h
        have l1:cw.length=xO w:=ic e1;have l2:ds.length=bG b2:=by rw[e3,bH]
        have l3:=hnm _ _ _ f1;have l4:=v8 p u b2 hb ha2.2.1;cases l with
        |nil=>simp[Sl.l]at hlen
        |mk l=>
         obtain⟨_,⟨d1,d2,d3⟩,_⟩:=hr.ob id _ ho;have d3:=d3 l rfl;have q5:=vV (h:=s.heap) p (.x u (gt l m)) u (.x b2 y) c ((aP u (gt l m)).map .d) ((aP b2 y).map .d) b2 (by simp[eH]) ⟨d1,rfl⟩ ha2.2.1 hc hb ⟨NF p u b2 d1 hb,rfl⟩ (by simp[bH]);have q6:=pK hy2 q5;rw[<-uC]at q6;have q7:=pA q6;obtain⟨fu,g1,g2,g3,g4,g5,g6,g7,g8,g9⟩:=A7 (s0:=s) rfl hr a s1 au au hs1 f3 f4;have hid:id∉a:=by simpa using h4
         have hid2:au.contains id=false:=by cases hq:au.contains id with|false=>rfl|true=>exact absurd ((f3 id (by simpa using hq)).1) hid
         rw[sE ha1];refine⟨_,_,_,hz4,fun cl=>⟨.gB [],(id,some (.aF (bG u) ((l.set m y2).map (aP u))))::fu,id::au,s.next,?_,?_⟩⟩
         .simp only[ap,aN];exact Kk d3 hlen e2 (l1.trans h2) f1 g1 hid2 (by rw[bH];omega) (by rw[e3];exact q7)
         .have ho1:fO s1.heap id=some (.ar u (.mk l) ver):=by rw[g9 id hid];exact ho
          rw[<-g6]at g2
          have:=rY (v:=.tp .ni) (x:=.gB []) (au:=id::au) (l:=id::a) (u:=[(id,some (.aF (bG u) ((l.set m y2).map (aP u))))]) g2 ho1 (w':=.mk (l.set m y2)) rfl (by simp[Sl.l]) (fun p hp=>by simp at hp;simp[hp]) (fun l' e=>by cases e;rw[aT,ck,if_pos rfl]) (fun _=>xK) (fun _ _=>trivial) (fun i hi=>by
           rcases aJ.1 hi with rfl|hi
           .exact dZ ..
           .exact aC _ (f3 i hi).1)
          rw[g6]at this;exact qK.seq g3 g4 g5 g6 g7 g8 g9 (Ek rfl hs1) this
       .simp at hz3
      .simp at hz3
     .simp at hz3
    .simp at hz3
   .simp at hz3
  .simp at hz2
 .simp at hz2
end
section
variable{h:H2}{n:Nat}{h1:bh}{β:Type}{s:S2}{k:V->S2->List Nat->Option β}{z:β}
theorem uy:∀{cs:List C}{ds:List D}{au:List Nat},dC h1 cs=some (ds,au)->ds.length=cs.length:=by
 intro cs;induction cs with
 |nil=>intro ds au h;obtain⟨rfl,_⟩:[]=ds/\[]=au:=by simpa[dC]using h
       rfl
 |cons c cs ih=>
  intro ds au h;simp only[dC]at h;split at h
  .rename_i p1 p2 p3 p4 hp hq;obtain⟨rfl,rfl⟩:=ad (aa h);simp[ih hq]
  .simp at h
theorem Mn{t:Ty}(hd:jW t=true)(m:Nat):(aB m (mE t)).flatMap (aP t)=cO ((aB m (ng t)).flatten):=by induction m with|zero=>rfl|succ m ih=>simp only[ii,br,eC,ih,rz t hd,cO,gu]
theorem AX(l:List Value):eQ l=(cO l).map .d:=by simp[eQ,cO]
theorem Hy{t:Ty}(hd:jW t=true)(m:Nat):((aB m (ng t)).flatten).length=m*bG t:=by have:=congrArg List.length (Mn hd m);rw[CN (bH t),List.length_replicate,cO,aR]at this;exact this.symm
theorem C7{α:Type}{f:α->List D}{q:Nat}(hf:∀a,(f a).length=q):∀(l:List α),mg q l.length (l.flatMap f)=l.map f:=by intro l;induction l with|nil=>rfl|cons a l ih=>simp only[dJ,mg,br,ap];rw[List.take_left' (hf a),List.drop_left' (hf a),ih]
theorem DM{t:Ty}{len:Nat}(hr:HR n h1 h)(hd:jW t=true):∀(is:List Nat)(vs:List V)(m:Nat)(l:List (El t))(a:List Nat)(pre:List C)(xs:List TV),x8 h t len m is vs=some (l,a)->m<=len->pre.length=m*bG t->
  l9 h vs xs->(∀w∈vs,eW n h w)->(∀w∈vs,ig h w=true)->
  ∃cs au,kE (pre++eQ ((aB (len-m) (ng t)).flatten)) ((is.map fun i=>(i*bG t,bG t)).zip xs)=some (pre++cs)/\dC h1 cs=some (l.flatMap (aP t),au)/\(∀i∈au,i∈a/\¬mF h i)/\(∀i∈a,i∈au\/mF h i)/\l.length=len-m:=by
 intro is;induction is with
 |nil=>intro vs m l a pre xs hf hm hpre hx hk ha;cases vs with|cons v vs=>simp[x8]at hf|nil=>simp only[x8,bS,Prod.mk.injEq]at hf;obtain⟨rfl,rfl⟩:=hf;obtain rfl:=kR hx;refine⟨_,[],rfl,?_,fun i hi=>by simp at hi,fun i hi=>by simp at hi,by simp⟩;rw[AX,Mn hd];exact uZ _
 |cons i is ih=>
  intro vs m l a pre xs hf hm hpre hx hk ha;cases vs with
  |nil=>simp[x8]at hf
  |cons v vs=>
   simp only[x8]at hf;split at hf
   .rename_i w a1 hw;split at hf
    .rename_i y hy;obtain⟨hc,hf⟩:=aH hf;simp only[ah,Nat.ble_eq,Nat.blt_eq]at hc;obtain⟨hmi,hil⟩:=hc;split at hf
     .rename_i l1 b hl1;obtain⟨rfl,rfl⟩:=ad (aa hf);obtain⟨x,ys,rfl,hx1,hx2⟩:=fT hx;obtain⟨cw,e1,e2⟩:=qP (oK (I5 hw) hx1);obtain⟨ds,au,f1,f2,f3,f4,_⟩:=sT hr v w a1 cw hw e1 (hk _ (by simp)) (ha _ (by simp));have e3:=pA (iN w false t y _ hy f2);subst e3;have l1':cw.length=bG t:=by rw[<-uy f1,bH]
      have lz:(eQ ((aB (i-m) (ng t)).flatten)).length=(i-m)*bG t:=by simp only[eQ,aR];exact Hy hd _
      have lz1:(eQ (ng t)).length=bG t:=by rw[AX,<-rz t hd,aR,bH]
      have hpl:(pre++eQ ((aB (i-m) (ng t)).flatten)).length=i*bG t:=by rw[bm,hpre,lz,<-bK,Nat.add_sub_cancel' hmi]
      obtain⟨cs,jds,g1,g2,g3,g4,g5⟩:=ih vs (i+1) l1 b (pre++eQ ((aB (i-m) (ng t)).flatten)++cw) ys hl1 hil (by rw[bm,hpl,l1',bK,Nat.one_mul]) hx2 (fun w hw=>hk w (by simp[hw])) (fun w hw=>ha w (by simp[hw]));have hsplit:aB (len-m) (ng t)=aB (i-m) (ng t)++(ng t::aB (len-(i+1)) (ng t)):=by rw[<-ii,List.replicate_append_replicate];congr 1;omega
      have hcells:pre++eQ ((aB (len-m) (ng t)).flatten)=(pre++eQ ((aB (i-m) (ng t)).flatten))++(eQ (ng t)++eQ ((aB (len-(i+1)) (ng t)).flatten)):=by rw[hsplit,List.flatten_append,eC,sS,sS,aS]
      refine⟨eQ ((aB (i-m) (ng t)).flatten)++(cw++cs),au++jds,?_,?_,fun j hj=>?_,fun j hj=>?_,by simp[g5];omega⟩
      .simp only[ap,List.zip_cons_cons,kE,e2];rw[if_pos ⟨l1',by rw[hcells,bm,hpl,bm,lz1];omega⟩,hcells];have:aU ((pre++eQ ((aB (i-m) (ng t)).flatten))++(eQ (ng t)++eQ ((aB (len-(i+1)) (ng t)).flatten))) (i*bG t) cw=(pre++eQ ((aB (i-m) (ng t)).flatten)++cw)++eQ ((aB (len-(i+1)) (ng t)).flatten):=by have:=tJ (a:=pre++eQ ((aB (i-m) (ng t)).flatten)) (b:=eQ (ng t)++eQ ((aB (len-(i+1)) (ng t)).flatten)) (p:=cw) (off:=0);rw[hpl]at this;refine Eq.trans this ?_;rw[tH (by omega),mr (by omega)];simp only[aS]
       rw[this,g1];simp only[aS]
      .rw [List.flatMap_append,br,Mn hd];have hz:dC h1 (eQ ((aB (i-m) (ng t)).flatten))=some (cO ((aB (i-m) (ng t)).flatten),[]):=by rw[AX];exact uZ _
       exact(qm hz (qm f1 g2):dC h1 _=some (_,[]++(au++jds)))
      .rcases ak.1 hj with hj|hj
       .exact ⟨aG _ (f3 j hj).1,(f3 j hj).2⟩
       .exact ⟨aD _ (g3 j hj).1,(g3 j hj).2⟩
      .rcases ak.1 hj with hj|hj
       .exact (f4 j hj).imp (aG _) id
       .exact (g4 j hj).imp (aD _) id
     .simp at hf
    .simp at hf
   .simp at hf
theorem Da{t:Ty}{len sz:Nat}{zl:List Value}{pl:List Nat}{vs:List V}{xs:List TV}
  (hz:NO t sz len zl pl vs s k=some z)
  (hr:HR s.next h1 s.heap) (hx:l9 s.heap vs xs) (hk:∀w∈vs,eW s.next s.heap w) (ha:∀w∈vs,ig s.heap w=true):wE h1 (.buildSlice sz len zl pl) xs s k z:=by
 unfold NO at hz;obtain⟨h2,hz2⟩:=aH hz;simp only[ah,beq_iff_eq]at h2;obtain⟨⟨rfl,h3⟩,h4⟩:=h2;have h3:=rA h3;subst h3;obtain⟨hd,hs0⟩:=nQ h4;clear hz;split at hz2
 .rename_i l a hl;split at hz2
  .rename_i s1 hs1;obtain⟨cs,au,g1,g2,g3,g4,g5⟩:=DM hr hd pl vs 0 l a [] xs hl (Nat.zero_le _) (by simp) hx hk ha;obtain⟨fu,f1,f2,f3,f4,f5,f6,f7,f8,f9⟩:=A7 (s0:=s) rfl hr a s1 au au hs1 g3 g4;refine⟨_,_,_,hz2,fun cl=>⟨.c (.bP (bG t) s.next 0 len),(s.next,some (.aF (bG t) (l.map (aP t))))::fu,au,s.next+1,?_,?_⟩⟩
   .have hc:mg (bG t) len (l.flatMap (aP t))=l.map (aP t):=by have:=C7 (bH t) l;rwa[show l.length=len by simpa using g5]at this
    simp only[bX,m7];have g1:kE (eQ ((aB len (ng t)).flatten)) ((pl.map fun i=>(i*bG t,bG t)).zip xs)=some cs:=by simpa using g1
    rw[g1];simp only[g2,f1,hc]
   .have hr1:HR s1.next (fu++h1) s1.heap:=by rw[f6];exact f2
    have hd1:qK s1 (gq s1 (.ar t (.mk l) 0)) (fu++h1) (.c (.bP (bG t) s.next 0 len)) [(s1.next,some (.aF (bG t) (l.map (aP t))))] au (s.next+1) (.so s1.next) a:=by refine qK.new hr1 (.inl rfl) (fun _=>⟨hd,hs0,fun l' e=>by cases e;rfl⟩) trivial ?_ (aQ _) (fun i hi=>(g3 i hi).1) (by rw[f6];exact am _);have:=v9 (h:=s1.heap) (t:=t) (s:=.mk l) (v:=0) (nx:=s1.next);rw[f6]at this|-;simpa[kr,show l.length=len by simpa using g5]using this
    rw[f6]at hd1;exact qK.seq f3 f4 f5 f6 f7 f8 f9 (Ek rfl hs1) hd1
  .simp at hz2
 .simp at hz2
theorem Et{ka va:Bool}{ks:List Kd}{zl:List Value}{id:Nat}{kv:V}{ya yk:TV}(hr:HR s.next h1 s.heap)(ha1:ft s.heap (.om id) ya)(hx:ft s.heap kv yk)
  (hz:(match fO s.heap id with
  |some (.mp kt vt m)=>(match rx kt kv with
   |some q=>bif(li kt==ka)&&(li vt==va)&&decide (zj kt=some ks)&&t8 (ng vt) zl&&jW vt&&(va||bG vt==1)then
     k (.tp (.co (.x vt (sP m (mE vt) q).2.1) (.co (.x (.i .i64) (sP m (mE vt) q).2.2) .ni))) (c8 s id (some (.mp kt vt (sP m (mE vt) q).1))) [id]else none
   |none=>none)
  |_=>none)=some z):wE h1 (.mapEntry ka ks va zl) [ya,yk] s k z:=by
 split at hz
 .rename_i kt vt m ho;split at hz
  .rename_i q hq;obtain⟨hc,hz2⟩:=aH hz;simp only[ah,beq_iff_eq,decide_eq_true_eq]at hc;obtain⟨⟨⟨⟨⟨c1,c2⟩,c3⟩,c4⟩,c5⟩,c6⟩:=hc;rw[xH ha1];obtain⟨_,_,k3,_⟩:=tT kt ks c3;have hzz:cO zl=aP vt (mE vt):=by rw[rz vt c5,rA c4]
   have hv:∀y,pm va (aP vt y)=some (N8 vt y):=fun y=>E0 y c2 c6;have hkt:=vz hx hq c3 c1;have e3:=(hr.ob id _ ho).2.1.2.2;rw[<-c2]at c6;have e4:ao h1 id=xu ka va (uv kt) (aP vt) m:=by rw[<-c1,<-c2];exact e3
   have hos:sf (.mp kt vt m) (.mp kt vt (sP m (mE vt) q).1):=trivial;refine .AD hr ho hos hz2 (fun cl=>Py (z:=mE vt) e4 hkt k3 hzz hv) ⟨c5,⟨ks,c3⟩,by rw[c1,c2];rfl⟩ trivial ?_ ⟨trivial,trivial,trivial⟩ fun i hi=>hi;exact⟨_,rfl,_,_,rfl,HE c5 c6,_,_,rfl,dM rfl ⟨rfl,rfl⟩,rfl⟩
  .simp at hz
 .simp at hz
theorem Ji:∀(l:List D),yL (l.map .d)=some l:=by intro l;induction l with|nil=>rfl|cons d l ih=>simp[yL,ih]
theorem CT{va:Bool}{m0 id:Nat}{kd:IntKind}{st:Int}{w:V}{ya yw:TV}(hr:HR s.next h1 s.heap)(ha1:ft s.heap (.om id) ya)(hx:ft s.heap w yw)
  (hz:(match fO s.heap id with
  |some (.mp kt vt m)=>(match rx vt w with
   |some y=>bif(li vt==va)&&(bG vt==m0)&&jW vt then(Fs m st y).bind fun m=>k (.tp .ni) (c8 s id (some (.mp kt vt m))) [id]else none
   |none=>none)
  |_=>none)=some z):wE h1 (.entryStore va m0) [ya,tI kd st,yw] s k z:=by
 split at hz
 .rename_i kt vt m ho;split at hz
  .rename_i y hy;obtain⟨hc,hz2⟩:=aH hz;simp only[ah,beq_iff_eq]at hc;obtain⟨⟨rfl,rfl⟩,c3⟩:=hc;obtain⟨m',hm,hz3⟩:=qN hz2;rw[xH ha1];obtain⟨_,hks,e3⟩:=(hr.ob id _ ho).2.1;obtain⟨g1,g2⟩:=tZ hx hy;have hos:sf (.mp kt vt m) (.mp kt vt m'):=trivial;have hcs:(cellsOf yw).bind yL=some (aP vt y)/\qd yw=li vt:=by cases hag:li vt with|true=>rw[g1 hag];exact⟨by simp[cellsOf,Ji],rfl⟩|false=>obtain⟨d,e,rfl⟩:=g2 hag;exact⟨by simp[cellsOf,yL,e],rfl⟩
   refine .AD hr ho hos hz3 (fun cl=>Px (va:=li vt) (ek:=uv kt) (ka:=li kt) hm e3 hcs.1 (bH vt y) hcs.2) ⟨c3,hks,rfl⟩ trivial xK trivial fun i hi=>hi
  .simp at hz
 .simp at hz
theorem Gv{ka va:Bool}{ks:List Kd}{m0 id:Nat}{kv w:V}{ya yk yw:TV}(hr:HR s.next h1 s.heap)(ha1:ft s.heap (.om id) ya)(hx:ft s.heap kv yk)(hw:ft s.heap w yw)
  (hz:(match fO s.heap id with
  |some (.mp kt vt m)=>(match rx kt kv with
   |some q=>(match rx vt w with
    |some y=>bif(li kt==ka)&&(li vt==va)&&decide (zj kt=some ks)&&(bG vt==m0)&&jW vt then k (.tp .ni) (c8 s id (some (.mp kt vt (si m q y)))) [id]else none
    |none=>none)
   |none=>none)
  |_=>none)=some z):wE h1 (.sQ ka ks va m0) [ya,yk,yw] s k z:=by
 split at hz
 .rename_i kt vt m ho;split at hz
  .rename_i q hq;split at hz
   .rename_i y hy;obtain⟨hc,hz2⟩:=aH hz;simp only[ah,beq_iff_eq,decide_eq_true_eq]at hc;obtain⟨⟨⟨⟨rfl,rfl⟩,c3⟩,rfl⟩,c5⟩:=hc;rw[xH ha1];obtain⟨_,_,k3,_⟩:=tT kt ks c3;have hkt:=vz hx hq c3 rfl;have e3:=(hr.ob id _ ho).2.1.2.2;obtain⟨g1,g2⟩:=tZ hw hy;have hos:sf (.mp kt vt m) (.mp kt vt (si m q y)):=trivial;have hcs:cellsOf yw=some ((aP vt y).map .d)/\qd yw=li vt:=by cases hag:li vt with|true=>rw[g1 hag];exact⟨rfl,rfl⟩|false=>obtain⟨d,e,rfl⟩:=g2 hag;exact⟨by rw[e];rfl,rfl⟩
    exact .AD hr ho hos hz2 (fun cl=>OD (ek:=uv kt) e3 hkt k3 hcs.1 (uZ _) (bH vt y) hcs.2) ⟨c5,⟨ks,c3⟩,rfl⟩ trivial xK trivial fun i hi=>hi
   .simp at hz
  .simp at hz
 .simp at hz
theorem GB{ka:Bool}{ks:List Kd}{id:Nat}{kv:V}{ya yk:TV}(hr:HR s.next h1 s.heap)(ha1:ft s.heap (.om id) ya)(hx:ft s.heap kv yk)
  (hz:(match fO s.heap id with
  |some (.mp kt vt m)=>(match rx kt kv with
   |some q=>bif(li kt==ka)&&decide (zj kt=some ks)then k (.tp .ni) (c8 s id (some (.mp kt vt (vr m q)))) [id]else none
   |none=>none)
  |_=>none)=some z):wE h1 (.sR ka ks) [ya,yk] s k z:=by
 split at hz
 .rename_i kt vt m ho;split at hz
  .rename_i q hq;obtain⟨hc,hz2⟩:=aH hz;simp only[ah,beq_iff_eq,decide_eq_true_eq]at hc;obtain⟨rfl,c3⟩:=hc;rw[xH ha1];obtain⟨_,_,k3,_⟩:=tT kt ks c3;have hkt:=vz hx hq c3 rfl;obtain⟨c5,_,e3⟩:=(hr.ob id _ ho).2.1;have hos:sf (.mp kt vt m) (.mp kt vt (vr m q)):=trivial;exact .AD hr ho hos hz2 (fun cl=>PB (ek:=uv kt) e3 hkt k3) ⟨c5,⟨ks,c3⟩,rfl⟩ trivial xK trivial fun i hi=>hi
  .simp at hz
 .simp at hz
end
section
variable{h:H2}{n:Nat}{h1:bh}{β:Type}{s:S2}{k:V->S2->List Nat->Option β}{z:β}
theorem wj:∀{r:List V}{l:List Int}{xs:List TV},wl r=some l->l9 h r xs->∃ks:List IntKind,ks.length=l.length/\xs=(ks.zip l).map fun p=>tI p.1 p.2:=by
 intro r;induction r with
 |nil=>
  intro l xs hl hx;obtain rfl:[]=l:=by simpa[wl]using hl
  exact⟨[],rfl,kR hx⟩
 |cons v r ih=>
  intro l xs hl hx;cases v with
  |x t v=>
   cases t with
   |i q=>
    simp only[wl]at hl;split at hl
    .rename_i l' hl';obtain rfl:=aa hl;obtain⟨x,ys,rfl,h1,h2⟩:=fT hx;obtain⟨ks,h3,rfl⟩:=ih hl' h2;exact⟨q::ks,by simp[h3],by rw[jU h1];rfl⟩
    .simp at hl
   |_=>simp[wl]at hl
  |_=>simp[wl]at hl
theorem IV{r:List V}{xs:List TV}(hl:wl r=some [])(hx:l9 h r xs):xs=[]:=by obtain⟨ks,h1,rfl⟩:=wj hl hx;cases ks<;>simp_all
theorem A2{r:List V}{a:Int}{xs:List TV}(hl:wl r=some [a])(hx:l9 h r xs):∃q,xs=[tI q a]:=by obtain⟨ks,h1,rfl⟩:=wj hl hx;cases ks with|nil=>simp at h1|cons q ks=>exact⟨q,by cases ks<;>simp_all⟩
theorem IU{r:List V}{a b:Int}{xs:List TV}(hl:wl r=some [a,b])(hx:l9 h r xs):∃q q',xs=[tI q a,tI q' b]:=by
 obtain⟨ks,h1,rfl⟩:=wj hl hx;cases ks with
 |nil=>simp at h1
 |cons q ks=>cases ks with|nil=>simp at h1|cons q' ks=>exact⟨q,q',by cases ks<;>simp_all⟩
theorem AI{x y:ByteArray}{lo hi:Option Int}(hs:zo x (lo.getD 0) (hi.getD x.size)=some y)(sz:Nat):cD true sz (.d (dS x)) lo hi=some (.d (dS y)):=by
 unfold zo at hs;split at hs
 .rename_i hb;obtain rfl:=aa hs;simp only[cD,if_true];rw[if_pos hb]
 .simp at hs
theorem BO{x:ByteArray}{r:List V}{lo hi:Bool}{sz:Nat}{y:TV}{ys:List TV}(hr:HR s.next h1 s.heap)(hy:ft s.heap (.x .s x) y)(hys:l9 s.heap r ys)
  (hz:(match lo,hi,wl r with
  |false,false,some []=>(zo x 0 x.size).bind fun y=>k (.x .s y) s []
  |true,false,some [l]=>(zo x l x.size).bind fun y=>k (.x .s y) s []
  |false,true,some [u]=>(zo x 0 u).bind fun y=>k (.x .s y) s []
  |true,true,some [l,u]=>(zo x l u).bind fun y=>k (.x .s y) s []
  |_,_,_=>none)=some z):wE h1 (.slice true sz lo hi) (y::ys) s k z:=by
 rw[wI hy];split at hz
 .rename_i hi;obtain rfl:=IV hi hys;obtain⟨w,hw,hz2⟩:=qN hz;exact .pure hr hz2 (fun _=>by simp only[ap,aN,bX];rw[AI (lo:=none) (hi:=none) hw]) (N7 w) trivial
 .rename_i l hi;obtain⟨q,rfl⟩:=A2 hi hys;obtain⟨w,hw,hz2⟩:=qN hz;exact .pure hr hz2 (fun _=>by simp only[ap,aN,bX,ci];rw[AI (lo:=some l) (hi:=none) hw]) (N7 w) trivial
 .rename_i l hi;obtain⟨q,rfl⟩:=A2 hi hys;obtain⟨w,hw,hz2⟩:=qN hz;exact .pure hr hz2 (fun _=>by simp only[ap,aN,bX,ci];rw[AI (lo:=none) (hi:=some l) hw]) (N7 w) trivial
 .rename_i l u hi;obtain⟨q,q',rfl⟩:=IU hi hys;obtain⟨w,hw,hz2⟩:=qN hz;exact .pure hr hz2 (fun _=>by simp only[ap,aN,bX,ci];rw[AI (lo:=some l) (hi:=some u) hw]) (N7 w) trivial
 .simp at hz
theorem BP{x:V}{r:List V}{lo hi:Bool}{sz:Nat}{y:TV}{ys:List TV}(hr:HR s.next h1 s.heap)(hy:ft s.heap x y)(hk:eW s.next s.heap x)(ha:ig s.heap x=true)(hys:l9 s.heap r ys)
  (hz:(match lo,hi,wl r,Eb s.heap x with
  |false,false,some [],some n=>ub sz s.heap x 0 n fun v=>k v s []
  |true,false,some [l],some n=>ub sz s.heap x l n fun v=>k v s []
  |false,true,some [u],some _=>ub sz s.heap x 0 u fun v=>k v s []
  |true,true,some [l,u],some _=>ub sz s.heap x l u fun v=>k v s []
  |_,_,_,_=>none)=some z):wE h1 (.slice false sz lo hi) (y::ys) s k z:=by
 split at hz
 .rename_i m hi hm;obtain rfl:=IV hi hys;obtain⟨v,c,c',rfl,h3,h4,h5,h6⟩:=Bh (lo:=none) (hi:=none) hr hy hk ha hm hz;exact .pure hr h3 (fun _=>by simp only[ap,aN,bX];rw[h4]) h5 h6
 .rename_i l m hi hm;obtain⟨q,rfl⟩:=A2 hi hys;obtain⟨v,c,c',rfl,h3,h4,h5,h6⟩:=Bh (lo:=some l) (hi:=none) hr hy hk ha hm hz;exact .pure hr h3 (fun _=>by simp only[ap,aN,bX,ci];rw[h4]) h5 h6
 .rename_i u m hi hm;obtain⟨q,rfl⟩:=A2 hi hys;obtain⟨v,c,c',rfl,h3,h4,h5,h6⟩:=Bh (lo:=none) (hi:=some u) hr hy hk ha hm hz;exact .pure hr h3 (fun _=>by simp only[ap,aN,bX,ci];rw[h4]) h5 h6
 .rename_i l u m hi hm;obtain⟨q,q',rfl⟩:=IU hi hys;obtain⟨v,c,c',rfl,h3,h4,h5,h6⟩:=Bh (lo:=some l) (hi:=some u) hr hy hk ha hm hz;exact .pure hr h3 (fun _=>by simp only[ap,aN,bX,ci];rw[h4]) h5 h6
 .simp at hz
theorem Kl{t:Ty}{l:List (Sl (El t))}{m:Nat}(hm:m<l.length):(l.map (nn t))[m]?=some (nn t (gt l m)):=by rw[List.getElem?_map,az hm];simp[gt,List.getD,az hm]
theorem HS{α:Type}{l:List α}{m:Nat}{x:α}(h:l[m]?=some x):l.set m x=l:=by obtain⟨hm,rfl⟩:=List.getElem?_eq_some_iff.1 h;exact List.set_getElem_self hm
theorem Ea{id m:Nat}{u:Ty}{y:TV}(hr:HR s.next h1 s.heap)(hx:ft s.heap (.ep id m u []) y)(hk:eW s.next s.heap (.ep id m u []))
  (hz:(match fO s.heap id with
  |some (.rw t v none)=>bif decide (u=.sl t)then k (.so s.next) (gq (c8 s id (some (.rw t v (some (m,s.next))))) (.ar t (gt v.l m) 0)) [id]else none
  |_=>none)=some z):wE h1 .uj [y] s k z:=by
 split at hz
 .rename_i t v ho;obtain⟨h2,hz2⟩:=aH hz;simp only[decide_eq_true_eq]at h2;subst h2;rw[sE hx,Fl];have hlen:=hk.2.2.2 _ _ _ ho;obtain⟨hid,⟨d1,d2,d3⟩,_⟩:=hr.ob id _ ho;cases v with
  |nil=>simp[Sl.l]at hlen
  |mk l=>
   have d3:=d3 l rfl;have hlen:m<l.length:=hlen;have eG:jq s.next s.heap ((s.next,some (.ar t (gt l m) 0))::(id,some (.rw t (.mk l) (some (m,s.next))))::s.heap):=jq.trans (am _) (jq.AD (o':=.rw t (.mk l) (some (m,s.next))) ho ⟨rfl,rfl,rfl⟩) (jq.new _)
   have key:∀{x:TV}{u:eg},ft ((s.next,some (.ar t (gt l m) 0))::(id,some (.rw t (.mk l) (some (m,s.next))))::s.heap) (.so s.next) x->(∀p∈u,p.1=s.next\/p.1=id)->
     ao (u++h1) id=some (.nst (bG t) (dO t l (some (m,s.next))))->(∀rr,gt l m=.mk rr->ao (u++h1) s.next=some (.aF (bG t) (rr.map (aP t))))->∀{q:Nat},q<=s.next+1->
     qK s (gq (c8 s id (some (.rw t (.mk l) (some (m,s.next))))) (.ar t (gt l m) 0)) h1 x u [id] q (.so s.next) [id]:=by
    intro x u hx2 hu hb hb2 q hq;refine qK.CG [s.next,id] hr eG rfl rfl hq (a_ _) (fun i hi=>hi) rfl (fun p hp=>?_) (fun i hi=>?_) (fun i hi o ho'=>?_) hx2 (aQ _) (fun i hi h=>?_)
    .rcases hu p hp with e|e<;>simp[e]
    .simp only[aJ,fo,or_false,not_or]at hi;simp only[gq,c8];rw[cC,if_neg (fun e=>hi.1 e.symm),cC,if_neg (fun e=>hi.2 e.symm)]
    .simp only[gq,c8]at ho'|-;by_cases hi1:s.next=i
     .subst hi1;rw[cC,if_pos rfl]at ho';obtain rfl:=aa ho';exact⟨aQ _,⟨d1,d2,fun rr e=>hb2 rr e⟩,trivial⟩
     .rw [cC,if_neg hi1]at ho';simp only[aJ,fo,or_false]at hi;rcases hi with rfl|rfl
      .exact absurd rfl hi1
      .rw [cC,if_pos rfl]at ho';obtain rfl:=aa ho';refine⟨by omega,⟨d1,d2,fun l' e=>by cases e;exact hb⟩,hlen,aQ _,fun u' r' v' hf=>?_⟩;simp only[tX]at hf;rcases hf with hf|hf<;>cases hf;exact⟨rfl,rfl⟩
    .simp only[gq,c8];rw[cC,if_neg (by omega),cC,if_neg (fun e=>by subst e;rw[ho]at h;cases h)];exact h
   have hs:=Kl (t:=t) hlen;refine⟨_,_,_,hz2,fun cl=>?_⟩;cases hg:gt l m with
   |nil=>
    refine⟨_,[],[id],s.next,?_,key (x:=.c (.d (.lit (.slice none 0 0)))) ?_ (fun p hp=>by simp at hp) ?_ (fun rr e=>by rw[hg]at e;cases e) (a_ _)⟩
    .simp only[ap,aN,bX,gT,d3];rw[hg]at hs;simp only[lp,d3,dO,hs,nn];rfl
    .rw [hg];exact v9
    .rw [bB,d3];simp only[dO,hg,zt];rw[HS (by rw[hs,hg];rfl)]
   |mk rr=>
    refine⟨_,[(s.next,some (.aF (bG t) (rr.map (aP t)))),(id,some (.nst (bG t) ((l.map (nn t)).set m (.kU s.next (rr.map (aP t)).length))))],[id],s.next+1,?_,key (x:=.c (.bP (bG t) s.next 0 (rr.map (aP t)).length)) ?_ (fun p hp=>by simp at hp;rcases hp with rfl|rfl<;>simp) ?_ (fun r2 e=>?_) (am _)⟩
    .simp only[ap,aN,bX,gT,d3];rw[hg]at hs;simp only[lp,d3,dO,hs,nn];rfl
    .rw [hg];exact v9
    .rw [aO,ck,if_neg (by omega),aO,ck,if_pos rfl];simp only[dO,hg,zt,aR]
    .rw [hg]at e;cases e;rw[aO,ck,if_pos rfl]
 .simp at hz
theorem Iw{szi:Nat}{t:Ty}{q q':IntKind}{a b:Int}(hr:HR s.next h1 s.heap)
  (hz:(bif(bG t==szi)&&zi t then(Oc (Sl.nil:Sl (El t)) a b).bind fun r=>k (.sr s.next) (gq s (.rw t (.mk r) none)) []else none)=some z):wE h1 (.Aa szi) [tI q a,tI q' b] s k z:=by
 obtain⟨hq,hp2⟩:=aH hz;simp only[ah,beq_iff_eq]at hq;obtain⟨rfl,q2⟩:=hq;obtain⟨hd,hs0⟩:=nQ q2;obtain⟨r,hr2,hz3⟩:=qN hp2;unfold Oc at hr2;split at hr2
 .rename_i hb;obtain rfl:=aa hr2;refine .new (au:=[]) hr hz3 (b:=some (.nst (bG t) (aB a.toNat .nil))) (x:=.c (.bP 1 s.next 0 a.toNat)) (fun _=>?_) ⟨hd,hs0,fun l' e=>by cases e;simp[dO,nn]⟩ trivial ?_ (aQ _) fun i hi=>by simp at hi
  .simp only[ap,aN,bX,ci];rw[if_pos (by simpa[qM]using hb)]
  .refine bU (dM rfl ⟨_,rfl,fun c' hc'=>?_,?_⟩)
   .rw [tX]at hc';obtain rfl:=aa hc';simp[kr]
   .have:=xU (sz:=1) (id:=s.next) (e:=aP (.sl t)) (s:=.mk (aB a.toNat (Sl.nil:Sl (El t))));simpa[kr]using this
 .simp at hr2
theorem vq{W:List Nat}{s2:S2}{t:Ty}{l':List (Sl (El t))}{m idR:Nat}(hr:HR s.next h1 s.heap)(e1:s2.cR=s.cR)(e2:s2.gh=s.gh)(e3:s2.next=s.next)(e4:s2.wo=W++s.wo)(e5:∀i,fO s2.heap i=if i∈W then none else fO s.heap i)
  (hd:jW t=true) (hs0:0<bG t) (hm:m<l'.length) (hR:idR<s.next) (hq:∀u r v,(fO s.heap idR=some (.ar u r v)\/fO s.heap idR=some (.im u r v))->r.eS=(gt l' m).eS/\r.l.length=(gt l' m).l.length)
  {u:eg} {au l:List Nat} (hu:∀p∈u,p.1=s.next\/p.1∈W) (hids:∀i∈au,i∈l) (hb:ao (u++h1) s.next=some (.nst (bG t) (dO t l' (some (m,idR))))):
  qK s (gq s2 (.rw t (.mk l') (some (m,idR)))) h1 (.c (.bP 1 s.next 0 l'.length)) u au (s.next+1) (.sr s.next) l:=by
 have hfo:∀i,fO (gq s2 (.rw t (.mk l') (some (m,idR)))).heap i=if s.next=i then some (.rw t (.mk l') (some (m,idR)))else if i∈W then none else fO s.heap i:=by intro i;simp only[gq];rw[e3,cC,e5]
 have hnn:(gq s2 (.rw t (.mk l') (some (m,idR)))).next=s.next+1:=by simp only[gq,e3]
 refine qK.CG (s.next::W) hr ⟨fun i o' hi ho=>?_⟩ (by simp only[gq,e1]) (by simp only[gq,e2]) (by rw[hnn];exact am _) (by rw[hnn];exact a_ _) hids (by simp only[gq,e3,e4,aO]) (fun p hp=>?_) (fun i hi=>?_) (fun i hi o ho=>?_) ?_ ?_ (fun i hi h=>?_)
 .rw [hfo,if_neg (by omega)]at ho;split at ho
  .cases ho
  .exact .inl ⟨o',ho,sf.refl _⟩
 .rcases hu p hp with h|h
  .rw [h];exact dZ
  .exact aC _ h
 .simp only[aJ,not_or]at hi;rw[hfo,if_neg (fun e=>hi.1 e.symm),if_neg hi.2]
 .rw [hfo]at ho;rw[hnn];split at ho
  .rename_i he;subst he;obtain rfl:=aa ho;refine⟨aQ _,⟨hd,hs0,fun l2 e=>by cases e;exact hb⟩,hm,Nat.lt_succ_of_lt hR,fun u' r v hf=>?_⟩;rw[hfo,if_neg (by omega)]at hf;split at hf
   .rcases hf with h|h<;>cases h
   .exact hq u' r v hf
  .rename_i he
   have hi':i∈W:=by
    rcases aJ.1 hi with h|h
    .exact absurd h.symm he
    .exact h
   rw[if_pos hi']at ho;cases ho
 .refine bU (dM rfl ⟨_,rfl,fun c' hc'=>?_,?_⟩)
  .rw [hfo,if_pos rfl]at hc';obtain rfl:=aa hc';simp[kr]
  .have:=xU (sz:=1) (id:=s.next) (e:=aP (.sl t)) (s:=.mk l');simpa[kr]using this
 .show s.next<_;rw[hnn];exact aQ _
 .rw [hfo,if_neg (by omega)];split
  .rfl
  .exact h
theorem Hh{id2 szi:Nat}{y:TV}(hr:HR s.next h1 s.heap)(hx:ft s.heap (.so id2) y)
  (hz:(match fO s.heap id2 with
  |some (.ar t (.mk l) _)=>bif(bG t==szi)&&zi t then k (.sr s.next) (gq s (.rw t (.mk [.mk l]) (some (0,id2)))) []else none
  |_=>none)=some z):wE h1 (.Hi szi) [y] s k z:=by
 split at hz
 .rename_i t l ver ho;obtain⟨hq,hz2⟩:=aH hz;simp only[ah,beq_iff_eq]at hq;obtain⟨rfl,q2⟩:=hq;obtain⟨hd,hs0⟩:=nQ q2;obtain⟨hid,_,_⟩:=hr.ob id2 _ ho;rw[rB hx (lF (.inl ho))];refine⟨_,_,_,hz2,fun cl=>⟨.c (.bP 1 s.next 0 1),[(s.next,some (.nst (bG t) [.kU id2 (l.map (aP t)).length]))],[],s.next+1,?_,vq (s2:=s) (W:=[]) (l':=[.mk l]) hr rfl rfl rfl rfl (fun i=>by simp) hd hs0 (by simp) hid (fun u r v hf=>?_) (fun p hp=>by simp at hp;simp[hp]) (fun i hi=>by simp at hi) ?_⟩⟩
  .show (if bG t=bG t/\0<bG t then some (TV.c (.bP 1 s.next 0 1),[(s.next,some (Ob.nst (bG t) [.kU id2 (l.map (aP t)).length]))],([]:List Nat),s.next+1)else none)=_;rw[if_pos ⟨rfl,hs0⟩]
  .rw [ho]at hf;rcases hf with h|h
   .cases h;exact⟨rfl,rfl⟩
   .cases h
  .rw [aT,ck,if_pos rfl];simp[dO,zt,gt]
 .simp at hz
theorem Hq{idB szi:Nat}{a:V}{ya y:TV}(hz:(match fO s.heap idB with
  |some (.rw t (.mk [.mk r]) (some (0,idR)))=>bif bG t==szi then(match a with
   |.nl 0=>k (.sr s.next) (gq (c8 s idB none) (.rw t (.mk [.mk r]) (some (0,idR)))) [idB]
   |.sr idA=>(match fO s.heap idA with
    |some (.rw u v none)=>(match fF (.sl t) (.sl u) (.mk r)with
     |some r=>bif !(idA==idB)then(mi (v.l++[r])).bind fun q=>k (.sr s.next) (gq (c8 (c8 s idB none) idA none) (.rw u (.mk q) (some (v.l.length,idR)))) [idA,idB]else none
     |none=>none)
    |_=>none)
   |_=>none)else none
  |_=>none)=some z) (hr:HR s.next h1 s.heap) (ha1:ft s.heap a ya) (hx:ft s.heap (.sr idB) y):wE h1 (.Dg szi) [ya,y] s k z:=by
 split at hz
 .rename_i t r idR ho;obtain⟨hq,hz2⟩:=aH hz;clear hz;simp only[beq_iff_eq]at hq;subst hq;obtain⟨hid,⟨hd,hs0,hob⟩,_,hR,hrow⟩:=hr.ob idB _ ho;have hob:=hob _ rfl;have hgB:gt [Sl.mk r] 0=Sl.mk r:=rfl;simp only[dO,hgB,zt]at hob;have hob:ao h1 idB=some (.nst (bG t) [.kU idR r.length]):=hob;have hR1:idR<s.next:=by omega
  rw[AE hx (show zg idB (fO s.heap idB)=some (kr 1 (aP (.sl t)) idB (.mk [.mk r]))by rw[ho];rfl)];cases a with
  |nl j=>
   cases j with
   |succ j=>simp at hz2
   |zero=>
    simp only at hz2;rw[uA ha1];refine⟨_,_,_,hz2,fun cl=>⟨.c (.bP 1 s.next 0 1),[(idB,none),(s.next,some (.nst (bG t) [.kU idR r.length]))],[idB],s.next+1,?_,vq (s2:=c8 s idB none) (W:=[idB]) (l':=[.mk r]) hr rfl rfl rfl rfl (fun i=>?_) hd hs0 (by simp) hR1 hrow (fun p hp=>?_) (fun i hi=>hi) ?_⟩⟩
    .show oE (bG t) (.d (.lit (.slice none 0 0))) (kr 1 (aP (.sl t)) idB (.mk [.mk r])) h1 s.next=_;simp only[kr,ap,aN,dJ,gw,oE,hob];rw[if_pos trivial]
    .simp only[c8,cC,aq];by_cases e:idB=i
     .rw [if_pos e,if_pos e.symm]
     .rw [if_neg e,if_neg (fun h=>e h.symm)]
    .simp only[aJ,fo,or_false]at hp;rcases hp with rfl|rfl<;>simp
    .rw [aO,ck,if_neg (by omega),aT,ck,if_pos rfl];simp[dO,zt,gt]
  |sr idA=>
   simp only at hz2;split at hz2
   .rename_i u v hoA;split at hz2
    .rename_i r' hr';obtain⟨hne,hz3⟩:=aH hz2;simp only[fB,beq_eq_false_iff_ne]at hne;obtain⟨e,e2⟩:=cE hr';cases e;obtain rfl:r'=.mk r:=e2;obtain⟨q,hq,hz4⟩:=qN hz3;obtain⟨rfl,hlim⟩:=wy.1 hq;obtain⟨hidA,⟨_,_,hobA⟩,_⟩:=hr.ob idA _ hoA;rw[AE ha1 (show zg idA (fO s.heap idA)=some (kr 1 (aP (.sl t)) idA v)by rw[hoA];rfl)];have hgl:gt (v.l++[Sl.mk r]) v.l.length=Sl.mk r:=by simp[gt,List.getD]
     have hfo:∀i,fO (c8 (c8 s idB none) idA none).heap i=if i∈[idA,idB]then none else fO s.heap i:=fun i=>by
      simp only[c8,cC,aJ,fo,or_false];by_cases e:idA=i
      .rw [if_pos e,if_pos (.inl e.symm)]
      .rw [if_neg e];by_cases e2:idB=i
       .rw [if_pos e2,if_pos (.inr e2.symm)]
       .rw [if_neg e2,if_neg (fun h=>h.elim (fun h=>e h.symm) (fun h=>e2 h.symm))]
     have hsl:dO t (v.l++[Sl.mk r]) (some (v.l.length,idR))=v.l.map (nn t)++[.kU idR r.length]:=by simp only[dO,hgl,zt,gu,ap,aN];rw[List.set_append_right _ _ (by simp)];simp
     have hrow':∀u r2 v2,(fO s.heap idR=some (.ar u r2 v2)\/fO s.heap idR=some (.im u r2 v2))->r2.eS=(gt (v.l++[Sl.mk r]) v.l.length).eS/\r2.l.length=(gt (v.l++[Sl.mk r]) v.l.length).l.length:=fun u r2 v2 hf=>by rw[hgl];exact hrow u r2 v2 hf
     cases v with
     |nil=>
      refine⟨_,_,_,hz4,fun cl=>⟨.c (.bP 1 s.next 0 1),[(idB,none),(s.next,some (.nst (bG t) [.kU idR r.length]))],[idB],s.next+1,?_,vq (s2:=c8 (c8 s idB none) idA none) (W:=[idA,idB]) hr rfl rfl rfl rfl hfo hd hs0 (by simp[Sl.l]) hR1 hrow' (fun p hp=>?_) (fun i hi=>by simp at hi;simp[hi]) ?_⟩⟩
      .show oE (bG t) (kr 1 (aP (.sl t)) idA .nil) (kr 1 (aP (.sl t)) idB (.mk [.mk r])) h1 s.next=_;simp only[kr,ap,aN,dJ,gw,oE,hob];rw[if_pos trivial]
      .simp only[aJ,fo,or_false]at hp;rcases hp with rfl|rfl<;>simp
      .rw [aO,ck,if_neg (by omega),aT,ck,if_pos rfl,hsl];rfl
     |mk l=>
      have hobA:=hobA l rfl;have hlim:l.length+1<=qM:=by simpa[Sl.l,qM]using hlim
      refine⟨_,_,_,hz4,fun cl=>⟨.c (.bP 1 s.next 0 (l++[Sl.mk r]).length),[(idA,none),(idB,none),(s.next,some (.nst (bG t) (l.map (nn t)++[.kU idR r.length])))],[idA,idB],s.next+1,?_,vq (s2:=c8 (c8 s idB none) idA none) (W:=[idA,idB]) hr rfl rfl rfl rfl hfo hd hs0 (by simp[Sl.l]) hR1 hrow' (fun p hp=>?_) (fun i hi=>hi) ?_⟩⟩
      .show oE (bG t) (kr 1 (aP (.sl t)) idA (.mk l)) (kr 1 (aP (.sl t)) idB (.mk [.mk r])) h1 s.next=_;simp only[kr,ap,aN,dJ,gw,oE,hob,hobA,dO];rw[if_pos trivial,if_pos ⟨trivial,by simp,hne,by simpa using hlim⟩];simp
      .simp only[aJ,fo,or_false]at hp;rcases hp with rfl|rfl|rfl<;>simp
      .rw [aO,ck,if_neg (by omega),aO,ck,if_neg (by omega),aT,ck,if_pos rfl,hsl];rfl
    .simp at hz2
   .simp at hz2
  |_=>simp at hz2
 .simp at hz
theorem DW{o:OP}{vs:List V}{xs:List TV}(hp:part o vs s k=some z)(hr:HR s.next h1 s.heap)(hx:l9 s.heap vs xs)(hk:∀w∈vs,eW s.next s.heap w)(ha:∀w∈vs,ig s.heap w=true):wE h1 o.o.k xs s k z:=by
 obtain⟨⟨d,kk,args,g⟩,t,fi⟩:=o;simp only;unfold part at hp;simp only at hp;split at hp
 .--quo
  obtain⟨x,y,rfl,h2,h3⟩:=hC hx;rw[jU h2,jU h3];obtain⟨hq,hp2⟩:=aH hp;simp only[decide_eq_true_eq]at hq;subst hq;obtain⟨r,hr2,hz⟩:=qN hp2;exact .pure hr hz (fun _=>Ns hr2) (xi _ _) trivial
 .obtain ⟨x,y,rfl,h2,h3⟩:=hC hx;rw[jU h2,jU h3];obtain⟨hq,hp2⟩:=aH hp;simp only[decide_eq_true_eq]at hq;subst hq;obtain⟨r,hr2,hz⟩:=qN hp2;exact .pure hr hz (fun _=>Nr hr2) (xi _ _) trivial
 .obtain ⟨x,y,rfl,h2,h3⟩:=hC hx;rw[jU h2,jU h3];obtain⟨r,hr2,hz⟩:=qN hp;exact .pure hr hz (fun _=>Nq hr2) (xi _ _) trivial
 .obtain ⟨x,y,rfl,h2,h3⟩:=hC hx;rw[jU h2,jU h3];obtain⟨r,hr2,hz⟩:=qN hp;exact .pure hr hz (fun _=>Np hr2) (xi _ _) trivial
 .obtain ⟨x,y,rfl,h2,h3⟩:=hC hx;rw[wI h2,wI h3];obtain⟨r,hr2,hz⟩:=qN hp;exact .pure hr hz (fun _=>Nt hr2) (N7 _) trivial
 .--alloc
  rename_i zl;obtain rfl:=kR hx;obtain⟨hq,hp2⟩:=aH hp;simp only[ah]at hq;obtain⟨q1,q2⟩:=hq;have q1:=rA q1;subst q1;refine .new (au:=[]) hr hp2 (x:=.c (.op s.next 0)) (fun _=>rfl) ⟨_,rfl,?_,q2⟩ ?_ (bU (dM rfl (by cases t<;>rfl))) ⟨aQ _,by cases t<;>trivial⟩ fun i hi=>by simp at hi
  .exact ((xB (h:=(s.next,some (.bx t (L0 t)))::s.heap) (n:=s.next+1) t).1 q2).1
  .exact ((xB (h:=(s.next,some (.bx t (L0 t)))::s.heap) (n:=s.next+1) t).1 q2).2
 .--box
  obtain⟨x,rfl,h2⟩:=gS hx;split at hp
  .rename_i w hw;obtain⟨cw,e1,e2⟩:=qP (oK (D7 hw) h2);obtain⟨q1,q2,q3,_⟩:=ym hw e1 (hk _ (by simp));refine .new (au:=[]) hr hp (x:=.c (.op s.next 0)) (fun _=>by simp only[ap,aN,bX,e2]) ⟨_,rfl,lq (jq.new _) q3 q1,q2⟩ (gy (a_ _) (jq.new _) q3) (bU (dM rfl (by cases t<;>rfl))) ⟨aQ _,by cases t<;>trivial⟩ fun i hi=>by simp at hi
  .simp at hp
 .exact Da hp hr hx hk ha
 .--store
  obtain⟨x,y,rfl,h2,h3⟩:=hC hx;exact BK hr h2 (hk _ (by simp)) h3 (hk _ (by simp)) hp
 .--uj
  obtain⟨x,rfl,h2⟩:=gS hx;exact Ea hr h2 (hk _ (by simp)) hp
 .--Aa
  obtain⟨x,y,rfl,h2,h3⟩:=hC hx;rw[jU h2,jU h3];split at hp
  .exact Iw hr hp
  .simp at hp
 .--Hi
  obtain⟨x,rfl,h2⟩:=gS hx;exact Hh hr h2 hp
 .--Dg
  obtain⟨x,y,rfl,h2,h3⟩:=hC hx;exact Hq hp hr h2 h3
 .obtain ⟨x,y,rfl,h2,h3⟩:=hC hx;exact BL hr h2 (hk _ (by simp)) h3 (hk _ (by simp)) (ha _ (by simp)) hp
 .--makeSlice
  rename_i zl _ l _ c;obtain⟨x,y,rfl,h2,h3⟩:=hC hx;rw[jU h2,jU h3];obtain⟨hq,hp2⟩:=aH hp;simp only[ah]at hq;obtain⟨q1,q2⟩:=hq;have q1:=rA q1;subst q1;obtain⟨hd,hs0⟩:=nQ q2;obtain⟨r,hr2,hz⟩:=qN hp2;have hzl:cO (ng t)=aP t (mE t):=(rz t hd).symm;have hlen:(ng t).length=bG t:=by have:=congrArg List.length hzl;rwa[bH,cO,aR]at this
  refine .new hr hz (fun _=>Lg hzl hr2) ⟨hd,hs0,fun l' e=>by cases e;rw[hlen]⟩ trivial ?_ (aQ _) fun i hi=>by simp at hi
  rw[hlen];exact v9 (s:=.mk r)
 .--slice of a string
  obtain⟨y,ys,rfl,h2,h3⟩:=fT hx;exact BO hr h2 h3 hp
 .obtain ⟨y,ys,rfl,h2,h3⟩:=fT hx;exact BP hr h2 (hk _ (by simp)) (ha _ (by simp)) h3 hp
 .obtain ⟨x,y,rfl,h2,h3⟩:=hC hx;rw[jU h3];exact IP hp hr h2 (hk _ (by simp)) (ha _ (by simp))
 .obtain ⟨x,y,rfl,h2,h3⟩:=hC hx;rw[jU h3];exact IN hp hr h2 (hk _ (by simp))
 .--pC
  obtain⟨x,y,rfl,h2,h3⟩:=hC hx;rw[wI h2,jU h3];obtain⟨r,hr2,hz⟩:=qN hp;exact .pure hr hz (fun _=>Pv hr2) (xi _ _) trivial
 .--index
  rename_i ag n0 sz0 n' u v _ i;obtain⟨x,y,rfl,h2,h3⟩:=hC hx;rw[jU h3];obtain⟨hq,hp2⟩:=aH hp;simp only[ah,beq_iff_eq]at hq;obtain⟨⟨⟨⟨rfl,rfl⟩,q3⟩,q4⟩,q5⟩:=hq;obtain⟨m,hm,hz⟩:=qN hp2;obtain⟨rfl,hm2⟩:=kW.1 hm;rw[S8 h2];obtain⟨a1,a2⟩:=Dd v hm2;have hc:EF s.heap ag (bG u) (.x u (gt v.1 m))=true:=by simp[EF,tw,xO,ig,q3,q4,q5]
  obtain⟨x,e1,e2⟩:=pB (cs:=(aP (.ar n' u) v).map .d) (off:=m*bG u) (cw:=(aP u (gt v.1 m)).map .d) hc ⟨q4,rfl⟩ (by simpa using a1) (by rw[<-fI,<-f_,a2]);refine .pure hr hz (x:=x) (fun _=>?_) e2 trivial;simp only[ap,aN,bX,ci];rw[if_pos ⟨by omega,by omega⟩];simp only[Int.toNat_natCast,e1]
 .--append
  obtain⟨x,y,rfl,h2,h3⟩:=hC hx;exact Df (t0:=t) hp hr h2 (hk _ (by simp)) (ha _ (by simp)) h3 (hk _ (by simp)) (ha _ (by simp))
 .obtain ⟨x,y,rfl,h2,h3⟩:=hC hx;exact G9 (t0:=t) hp hr h2 (hk _ (by simp)) (ha _ (by simp)) h3 (hk _ (by simp)) (ha _ (by simp))
 .--clear
  obtain⟨y,rfl,h2⟩:=gS hx;exact ED hp hr h2 (hk _ (by simp)) (ha _ (by simp))
 .--makeMap
  obtain rfl:=kR hx;split at hp
  .rename_i kt vt;obtain⟨hq,hp2⟩:=aH hp;simp only[ah,beq_iff_eq]at hq;obtain⟨⟨⟨rfl,rfl⟩,q3⟩,q4⟩:=hq;obtain⟨ks,hks⟩:=Option.isSome_iff_exists.1 q4;exact .new hr hp2 (x:=.c (.om s.next)) (fun _=>rfl) ⟨q3,⟨ks,hks⟩,rfl⟩ trivial (bU (dM rfl rfl)) (aQ _) fun i hi=>by simp at hi
  .simp at hp
 .obtain ⟨x,y,rfl,h2,h3⟩:=hC hx;exact Et hr h2 h3 hp
 .obtain ⟨x,y,w,rfl,h2,h3,h4⟩:=HG hx;rw[jU h3];exact CT hr h2 h4 hp
 .obtain ⟨x,y,w,rfl,h2,h3,h4⟩:=HG hx;exact Gv hr h2 h3 h4 hp
 .obtain ⟨x,y,rfl,h2,h3⟩:=hC hx;exact GB hr h2 h3 hp
 .simp at hp
end
end Go.Ev
