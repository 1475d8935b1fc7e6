/- Operations that do not fail, against the abstract machine's, second part. Conditions: as stated. -/
import Derived.Test.YtoekkpmeeclpeaaGreatFh
open Bool renaming and_eq_true->ak,and_eq_true_iff->cf,and_true->kM
open List renaming append_assoc->aM,cons_append->bI,drop_drop->eJ,flatMap_cons->bL,flatten_cons->gu,length->iN,length_append->ap,length_eq_zero_iff->aO,length_map->aD,map->mH,map_append->fU,map_cons->aK,map_drop->gV,map_map->gr,map_nil->aZ,map_take->iM,mem_cons->aW,mem_cons_of_mem->aI,mem_singleton->aq,nil_append->cz,not_mem_nil->ma,replicate->aj,replicate_succ->gC,singleton_append->a_
open List.cons renaming inj->cj
open Nat renaming add_assoc->di,add_mul->bA,le_refl->am,le_succ->bn,lt_succ_self->aQ
open Option.some renaming inj->aa,injEq->eY
open Prod.mk renaming inj->af
namespace Go.Ev
section
variable{h:H2}{n:Nat}{h1:bp}
theorem RW{a b:Value}(he:VJ a b=true):a=b:=by unfold VJ at he;split at he<;>simp_all
theorem si:∀{a b:List Value},vc a b=true->a=b:=by
 intro a;induction a with
 |nil=>intro b he;cases b<;>first|rfl|(simp[vc]at he)
 |cons x a ih=>intro b he;cases b with|nil=>simp[vc]at he|cons y b=>simp only[vc,ak]at he;rw[RW he.1,ih he.2]
theorem ue(a b:List Value):eS (a++b)=eS a++eS b:=by simp[eS]
theorem sf:∀(t:Ty),kx t=true->aR t (u9 t)=dj (oK t):=by
 intro t;induction t with
 |pr a c iha ihc=>intro hd;simp only[kx,ak]at hd;simp[aR,u9,oK,dj,iha hd.1,ihc hd.2]
 |st t ih=>intro hd;exact ih hd
 |ar m t ih=>intro hd;have e:=ih hd;simp only[aR,u9,oK];clear hd ih;induction m with|zero=>rfl|succ m ihm=>simp only[gC,bL,gu,e,dj,fU]at ihm|-;rw[ihm]
 |o k=>intro hd;simp[kx]at hd
 |mp k v=>intro hd;simp[kx]at hd
 |_=>intro _;rfl
theorem zB:∀(t:Ty),(d_ (CK t).1 false t=true->ff h (CK t).1 (eS (oK t))/\eV n h (CK t).1)/\(d_ (CK t).2 true t=true->ff h (CK t).2 (eS (oK t))/\eV n h (CK t).2):=by
 have one:∀(t:Ty)(v:V),(ff h v (eS (oK t))/\eV n h v)->(ff h (.co v .ni) (eS (oK t))/\eV n h (.co v .ni)):=fun t v hv=>⟨⟨_,[],by simp,hv.1,rfl⟩,hv.2,trivial⟩;have dt:∀(t:Ty),kx t=true->ff h (.x t (u9 t)) (eS (oK t)):=fun t hd=>⟨hd,by rw[sf t hd];simp[eS,dj]⟩;intro t;induction t with
 |pr a c iha ihc=>refine⟨fun hf=>by simp[CK,d_]at hf,fun hf=>?_⟩;simp only[CK,d_,ak]at hf;obtain⟨q1,q3⟩:=iha.1 hf.1;obtain⟨q4,q5⟩:=ihc.2 hf.2;exact⟨⟨_,_,ue _ _,q1,q4⟩,q3,q5⟩
 |st t ih=>cases hd:kx t with|true=>have:=dt (.st t) hd;simp only[CK,hd,cond_true];exact⟨fun _=>⟨this,trivial⟩,fun _=>one (.st t) _ ⟨this,trivial⟩⟩|false=>simp only[CK,hd,cond_false];exact⟨fun hf=>ih.2 hf,fun hf=>one (.st t) _ (ih.2 hf)⟩
 |sl t ih=>cases hd:kx t with|true=>have:=dt (.sl t) hd;simp only[CK,hd,cond_true];exact⟨fun _=>⟨this,trivial⟩,fun _=>one (.sl t) _ ⟨this,trivial⟩⟩|false=>simp only[CK,hd,cond_false];exact⟨fun _=>⟨rfl,trivial⟩,fun _=>one (.sl t) _ ⟨rfl,trivial⟩⟩
 |ar m t ih=>cases hd:kx t with|true=>have:=dt (.ar m t) hd;simp only[CK,hd,cond_true];exact⟨fun _=>⟨this,trivial⟩,fun _=>one (.ar m t) _ ⟨this,trivial⟩⟩|false=>simp only[CK,hd,cond_false];exact⟨fun hf=>by simp[d_]at hf,fun hf=>by simp[d_]at hf⟩
 |o k=>
  have:ff h (.nl k) (eS (oK (.o k))):=by
   show eS (oK (.o k))=[Fd k]
   rcases k with _|_|_|_|k<;>rfl
  exact⟨fun _=>⟨this,trivial⟩,fun _=>one (.o k) _ ⟨this,trivial⟩⟩
 |mp k v=>exact⟨fun _=>⟨rfl,trivial⟩,fun _=>one (.mp k v) _ ⟨rfl,trivial⟩⟩
 |un=>exact⟨fun _=>⟨dt .un rfl,trivial⟩,fun _=>one .un _ ⟨dt .un rfl,trivial⟩⟩
 |i k=>exact⟨fun _=>⟨dt (.i k) rfl,trivial⟩,fun _=>one (.i k) _ ⟨dt (.i k) rfl,trivial⟩⟩
 |b=>exact⟨fun _=>⟨dt .b rfl,trivial⟩,fun _=>one .b _ ⟨dt .b rfl,trivial⟩⟩
 |s=>exact⟨fun _=>⟨dt .s rfl,trivial⟩,fun _=>one .s _ ⟨dt .s rfl,trivial⟩⟩
 |f k=>exact⟨fun _=>⟨dt (.f k) rfl,trivial⟩,fun _=>one (.f k) _ ⟨dt (.f k) rfl,trivial⟩⟩
theorem Al{t:Ty}{v w:V}{cs:List C}(hw:O3 t v=some w)(hv:ff h v cs)(hk:eV n h v):ff h w cs/\d_ w false t=true/\eV n h w/\u7 w=u7 v:=by
 unfold O3 at hw;split at hw
 .rename_i y hy;obtain rfl:=aa hw;cases hd:kx t with|false=>rw[hd]at hy;simp at hy|true=>rw[hd,cond_true]at hy;exact⟨⟨hd,qr hy hv⟩,by simp[d_],trivial,(Gh hy).symm⟩
 .cases hf:d_ v false t with|false=>rw[hf]at hw;simp at hw|true=>rw[hf,cond_true]at hw;obtain rfl:=aa hw;exact⟨hv,hf,hk,rfl⟩
theorem Oy{t:Ty}{v:V}{y:El t}(hy:iK t v=some y):PQ v:=by cases v<;>first|trivial|(simp[iK]at hy)
theorem Qq{t:Ty}{v:V}(hf:d_ v false t=true):PQ v:=by cases v<;>first|trivial|(cases t<;>simp[d_]at hf)
theorem Hz{t:Ty}{v w:V}(hw:O3 t v=some w):PQ v:=by
 unfold O3 at hw;split at hw
 .rename_i y hy;cases hd:kx t with|false=>rw[hd]at hy;simp at hy|true=>rw[hd,cond_true]at hy;exact Oy hy
 .cases hf:d_ v false t with|false=>rw[hf]at hw;simp at hw|true=>exact Qq hf
theorem Tb{t:Ty}{v:V}(hf:d_ v false t=true)(ha:mF t=true):u7 v=true:=by
 cases t<;>simp[mF]at ha
 all_goals(cases v<;>first|rfl|(simp[d_]at hf;done)|skip)
 .simp only[d_,decide_eq_true_eq]at hf;subst hf;rfl
 .simp only[d_,decide_eq_true_eq]at hf;subst hf;rfl
theorem OC{t:Ty}:∀(is:List Nat)(ps:List (Nat×Nat))(ws:List V)(c c':V)(cs:List C)(xs:List TV),yY t is ps ws c=some c'->d_ c false t=true->ff h c cs->eV n h c->mS h ws xs->(∀w∈ws,eV n h w)->
  ∃cs',kU cs (ps.zip xs)=some cs'/\ff h c' cs'/\eV n h c'/\d_ c' false t=true:=by
 intro is;induction is with
 |nil=>
  intro ps ws c c' cs xs hb hf hc hk hx hw;cases ps with
  |cons p ps=>simp[yY]at hb
  |nil=>cases ws with|cons w ws=>simp[yY]at hb|nil=>obtain rfl:=aa hb;exact⟨cs,by simp[kU],hc,hk,hf⟩
 |cons i is ih=>
  intro ps ws c c' cs xs hb hf hc hk hx hw;cases ps with
  |nil=>simp[yY]at hb
  |cons p ps=>
   obtain⟨off,m⟩:=p;cases ws with
   |nil=>simp[yY]at hb
   |cons w ws=>
    obtain⟨x,ys,rfl,hx1,hx2⟩:=fX hx;have hw1:=hw w (by simp)
    have ld:∀(pe:Pe)(a:Ty),se t [pe]=some a->KF t [pe]->oD t [pe]=off->bU a=m->(match O3 a w with|some w=>(match pf c [pe] w with|some c=>bif d_ c false t then yY t is ps ws c else none|none=>none)|none=>none)=some c'->
      ∃cs',kU cs (((off,m),x)::ps.zip ys)=some cs'/\ff h c' cs'/\eV n h c'/\d_ c' false t=true:=by
     intro pe a h1 h2 h3 h4 hb;split at hb
     .rename_i w1 hw1';obtain⟨cw,q1,q2⟩:=rH (pq (Hz hw1') hx1);split at hb
      .rename_i c1 hc1;cases hfc:d_ c1 false t with|false=>rw[hfc]at hb;simp at hb|true=>rw[hfc,cond_true]at hb;obtain⟨k1,k2,k3,_⟩:=Al hw1' q1 hw1;have hl:=iv k1;rw[gO _ _ _ k2,h4]at hl;have hsp:=xH [pe] c t w1 c1 cs cw a hf hc h2 hc1 h1 k1 (by rw[hl,h4]);rw[h3]at hsp;have hle:=xT [pe] t a h1 h2;have hcl:=iv hc;rw[gO _ _ _ hf]at hcl;obtain⟨cs',e1,e2,e3,e4⟩:=ih ps ws c1 c' _ ys hb hfc hsp (IJ _ _ _ _ hk k3 hc1) hx2 fun w hw'=>hw w (by simp[hw']);refine⟨cs',?_,e2,e3,e4⟩;simp only[kU,q2];rw[if_pos ⟨hl,by omega⟩,e1]
      .simp at hb
     .simp at hb
    cases t with
    |st u=>
     simp only[yY]at hb;split at hb
     .rename_i a ha;cases hq:(pX u i==off)&&(bU a==m)with|false=>rw[hq]at hb;simp at hb|true=>rw[hq,cond_true]at hb;simp only[ak,beq_iff_eq]at hq;exact ld (.fd i) a (by simp[se,ha]) ⟨a,ha,by cases a<;>trivial⟩ (by simp only[oD,ha];rw[hq.1];cases a<;>rfl) hq.2 hb
     .simp at hb
    |ar k u=>simp only[yY]at hb;cases hq:(i*bU u==off)&&(bU u==m)&&decide (i<k)with|false=>rw[hq]at hb;simp at hb|true=>rw[hq,cond_true]at hb;simp only[ak,beq_iff_eq,decide_eq_true_eq]at hq;exact ld (.ix i) u (by simp[se]) ⟨hq.2,by cases u<;>trivial⟩ (by simp only[oD];rw[hq.1.1];cases u<;>rfl) hq.1.2 hb
    |_=>simp[yY]at hb
end
theorem TL(a b:ByteArray):(a==b)=decide (a=b):=by
 obtain⟨x⟩:=a;obtain⟨y⟩:=b;show ByteArray.beq _ _=_;unfold ByteArray.beq
 grind
def xy(t:Ty)(x:El t):List Value:=(aR t x).map fun|.lit y=>y|_=>.nilFunc
theorem yM{k1 k2:List Kd}{a1 a2 b1 b2:List Value}{p q:Bool}(h1:ge k1 a1 b1=some p)(h2:ge k2 a2 b2=some q):ge (k1++k2) (a1++a2) (b1++b2)=some (p&&q):=by
 induction k1 generalizing a1 b1 p with
 |nil=>cases a1<;>cases b1<;>simp[ge]at h1;subst h1;simpa using h2
 |cons k k1 ih=>
  cases a1<;>cases b1<;>simp[ge]at h1<;>first|cases h1|skip
  split at h1
  .grind [ge,Bool.and_assoc]
  .simp at h1
theorem AB{k1 k2:List Kd}{a1 a2:List Value}(h1:zt k1 a1=true)(h2:zt k2 a2=true):zt (k1++k2) (a1++a2)=true:=by
 induction k1 generalizing a1 with
 |nil=>cases a1<;>simp[zt]at h1;simpa using h2
 |cons k k1 ih=>
  cases a1<;>simp[zt]at h1<;>first|cases h1|skip
  simp_all[zt]
theorem uR:∀(t:Ty)(ks:List Kd),Bi t=some ks->(∀x,aR t x=(xy t x).map .lit)/\(∀x,zt ks (xy t x)=true)/\(∀a b:El t,ge ks (xy t a) (xy t b)=some (decide (a=b)))/\ks.length=bU t:=by
 intro t;induction t with
 |pr a c iha ihc=>
  intro ks hk;simp only[Bi]at hk;split at hk
  .rename_i x y hx hy;obtain rfl:=aa hk;obtain⟨a1,a2,a3,a4⟩:=iha x hx;obtain⟨c1,c2,c3,c4⟩:=ihc y hy;have e:∀v:El (.pr a c),xy (.pr a c) v=xy a v.1++xy c v.2:=fun v=>by simp[xy,aR]
   refine⟨fun v=>by rw[e,fU,<-a1,<-c1];rfl,fun v=>by rw[e];exact AB (a2 _) (c2 _),fun u v=>?_,by simp[bU,a4,c4]⟩;rw[e,e,yM (a3 _ _) (c3 _ _)];congr 1
   grind
  .simp at hk
 |st t ih=>intro ks hk;exact ih ks hk
 |ar m t ih=>
  intro ks hk;simp only[Bi]at hk;split at hk
  .rename_i x hx;obtain rfl:=aa hk;obtain⟨a1,a2,a3,a4⟩:=ih x hx;have e:∀v:El (.ar m t),xy (.ar m t) v=v.1.flatMap (xy t):=fun v=>by simp only[xy,aR,List.map_flatMap];rfl
   refine⟨fun v=>?_,fun v=>?_,fun u v=>?_,?_⟩
   .rw [e];simp only[aR,List.map_flatMap];congr 1;funext y;exact a1 y
   .rw [e];obtain⟨l,hl⟩:=v;clear e hk ih;simp only;induction l generalizing m with|nil=>subst hl;rfl|cons y l ihl=>subst hl;exact AB (a2 y) (ihl _ rfl)
   .rw [e,e];obtain⟨l,hl⟩:=u;obtain⟨r,hr⟩:=v
    have key:∀(m:Nat)(l r:List (El t)),l.length=m->r.length=m->ge (aj m x).flatten (l.flatMap (xy t)) (r.flatMap (xy t))=some (decide (l=r)):=by
     intro m;induction m with
     |zero=>intro l r h1 h2;obtain rfl:=aO.1 h1;obtain rfl:=aO.1 h2;rfl
     |succ m ihm=>
      intro l r h1 h2;cases l with
      |nil=>simp at h1
      |cons y l=>cases r with|nil=>simp at h2|cons z r=>simp only[gC,gu,bL];rw[yM (a3 y z) (ihm l r (by simpa using h1) (by simpa using h2))];simp_all
    rw[key m l r hl hr];congr 1
    grind
   .simp [bU,a4]
  .simp at hk
 |i k=>intro ks hk;obtain rfl:=aa hk;refine⟨fun _=>rfl,fun x=>by simp[xy,aR,zt,KW],fun a b=>?_,rfl⟩;simp only[xy,aR,aK,aZ,ge,D6,and_self,if_true,kM];congr 1
 |b=>intro ks hk;obtain rfl:=aa hk;refine⟨fun _=>rfl,fun x=>by simp[xy,aR,zt,KW],fun a b=>?_,rfl⟩;simp only[xy,aR,aK,aZ,ge,D6,kM];congr 1
 |s=>intro ks hk;obtain rfl:=aa hk;refine⟨fun _=>rfl,fun x=>by simp[xy,aR,zt,KW],fun a b=>?_,rfl⟩;simp only[xy,aR,aK,aZ,ge,D6,kM];rw[TL]
 |_=>intro ks hk;simp[Bi]at hk
section
variable{h:H2}{n:Nat}{h1:bp}
theorem LC{z:Bool}{op:BinOp}{k k':IntKind}{a b:Int}{v:V}(hb:TK z op k k' a b=some v)(hz:z=true->0<b):∃y,qA op (.int k a) (.int k' b)=some y/\fC h v (lv y)/\eV n h v:=by
 have one:∀(q:IntKind)(c:Int),fC h (.x (.i q) c) (lv (.int q c)):=fun q c=>bW (dv rfl ⟨rfl,rfl⟩);have onb:∀(c:Bool),fC h (.x .b c) (lv (.bool c)):=fun c=>bW (dv rfl ⟨rfl,rfl⟩);cases op<;>simp only[TK]at hb
 all_goals first
  |(cases z<;>simp only[cond_true,cond_false]at hb<;>first|(cases hb;done)|skip
    have:=hz rfl;obtain rfl:=aa hb;refine⟨_,by simp only[qA];rw[if_neg (by omega)];rfl,one _ _,trivial⟩)
  |skip
 all_goals
  by_cases hk:k=k'
  .subst hk;simp only[decide_true,cond_true]at hb
   first
    |(cases hb;done)
    |(obtain rfl:=aa hb
      refine⟨_,by simp only[qA,if_true];rfl,?_,trivial⟩
      first|exact one _ _|exact onb _)
    |(obtain rfl:=aa hb
      first
       |exact⟨.int k (A9 k a b),by simp only[qA,if_true,JH];rfl,one _ _,trivial⟩
       |exact⟨.int k (YM k a b),by simp only[qA,if_true,TO];rfl,one _ _,trivial⟩
       |exact⟨.int k (TM k a b),by simp only[qA,if_true,QR];rfl,one _ _,trivial⟩
       |exact⟨.int k (zx k a b),by simp only[qA,if_true,Ir];rfl,one _ _,trivial⟩)
    |(cases z<;>simp only[cond_true,cond_false]at hb<;>first|(cases hb;done)|skip
      have:=hz rfl;obtain rfl:=aa hb;refine⟨_,by simp only[qA,if_true];rw[if_neg (by omega)],one _ _,trivial⟩)
  .simp [hk]at hb
theorem Ee{h:H2}{k:FloatKind}{a:Nat}{x:TV}(hx:fC h (.x (.f k) a) x):x=lv (.float k a):=by obtain⟨c,rfl,_,hc⟩:=iY hx rfl;obtain rfl:=(cj hc).1;rfl
theorem In{op:BinOp}{k k':FloatKind}{a b:Nat}{v:V}(hb:OD op k k' a b=some v):∃y,pU op (.float k a) (.float k' b)=some y/\fC h v (lv y)/\eV n h v:=by
 have one:∀(q:FloatKind)(c:Nat),fC h (.x (.f q) c) _:=fun q c=>bW (dv rfl ⟨rfl,rfl⟩);have onb:∀(c:Bool),fC h (.x .b c) _:=fun c=>bW (dv rfl ⟨rfl,rfl⟩);unfold OD at hb;by_cases hk:k=k'
 .subst hk;simp only at hb;have ar:∀(f:Option Nat),∃y,(match f.map (Value.float k)with|some v=>some v|none=>if f=none then some (Value.float k (vf k))else none)=some y/\fC h (.x (.f k) (f.getD (vf k))) (lv y)/\eV n h (.x (.f k) (f.getD (vf k))):=by intro f;cases f with|none=>exact⟨_,rfl,one _ _,trivial⟩|some c=>exact⟨_,rfl,one _ _,trivial⟩
  cases op<;>first
   |(cases hb;done)
   |(obtain rfl:=aa hb
     first
      |exact⟨_,by simp only[pU,qA];rfl,onb _,trivial⟩
      |(simp only[pU,qA,KK]
        first|exact ar _|exact ar _|exact ar _|exact ar _))
 .simp [hk]at hb
theorem KM{m:Bool}{k:FloatKind}:∀{r:List V}{x y:Nat}{xs:List TV},KN m k x r=some y->mS h r xs->Nd m (.float k x) (xs.map some)=some (.float k y):=by
 intro r;induction r with
 |nil=>intro x y xs hm hx;obtain rfl:=lc hx;obtain rfl:=aa hm;rfl
 |cons v r ih=>
  intro x y xs hm hx;obtain⟨x1,ys,rfl,h1,h2⟩:=fX hx;cases v with
  |x t c=>
   cases t with
   |f k'=>
    simp[KN]at hm;by_cases hk:k'=k
    .subst hk;simp at hm;obtain rfl:=Ee h1;have:=ih hm h2;have e:I_ m (.float k' x) (.float k' c)=some (.float k' (bif m then Tc k' x c else Lb k' x c)):=by cases m<;>simp[I_,Tc,Lb]<;>(grind)
     simp[lv,Nd,e];exact this
    .simp [hk]at hm
   |_=>simp[KN]at hm
  |_=>simp[KN]at hm
theorem LB{op:BinOp}{a b:ByteArray}{v:V}(hb:TJ op a b=some v):∃y,qA op (.string a) (.string b)=some y/\fC h v (lv y)/\eV n h v:=by
 have onb:∀(c:Bool),fC h (.x .b c) _:=fun c=>bW (dv rfl ⟨rfl,rfl⟩);cases op<;>simp only[TJ]at hb<;>first|(cases hb;done)|skip
 all_goals(obtain rfl:=aa hb;exact⟨_,rfl,onb _,trivial⟩)
theorem Nf{m:Bool}{k:IntKind}:∀{r:List V}{x y:Int}{xs:List TV},T9 m k x r=some y->mS h r xs->Nd m (.int k x) (xs.map some)=some (.int k y):=by
 intro r;induction r with
 |nil=>intro x y xs hm hx;obtain rfl:=lc hx;obtain rfl:=aa hm;rfl
 |cons v r ih=>
  intro x y xs hm hx;obtain⟨x1,ys,rfl,h1,h2⟩:=fX hx;cases v with
  |x t c=>
   cases t with
   |i k'=>
    simp[T9]at hm;by_cases hk:k'=k
    .subst hk;simp at hm;obtain rfl:=kf h1;have:=ih hm h2;cases m<;>simpa[Nd,I_]using this
    .simp [hk]at hm
   |_=>simp[T9]at hm
  |_=>simp[T9]at hm
theorem nW{α:Type}:∀(l:List α),dD (l.map some)=some l:=by intro l;induction l with|nil=>rfl|cons a l ih=>simp[dD,ih]
theorem M4{kind:Nat}{v w:V}{x:TV}{neg:Bool}{c:Call}{nx:Nat}(hx:fC h v x)(ha:iw h v=true)(hn:Ap h kind v=some w):
  ∃y,ci c (.rT kind neg) [some x] h1 nx=some (y,[],[],nx)/\fC h (bif neg then M6 w else w) y/\eV n h (bif neg then M6 w else w):=by
 have kb:∀b,fC h (.kb b) (tB b):=fun b=>bW (dv rfl rfl);have xb:∀b,fC h (.x .b b) (tB b):=fun b=>bW (dv rfl ⟨rfl,rfl⟩)
 have sl:∀q,wg h v=some q->(bif kind==0 then(match wg h v with|some ⟨_,s,_⟩=>some (.x .b s.fA)|none=>none)else none)=some w->
   ∃y,ci c (.rT kind neg) [some x] h1 nx=some (y,[],[],nx)/\fC h (bif neg then M6 w else w) y/\eV n h (bif neg then M6 w else w):=by
  intro q hq hw;cases hkk:kind==0 with
  |false=>rw[hkk]at hw;simp at hw
  |true=>
   obtain rfl:kind=0:=by simpa using hkk
   rw[hq]at hw;obtain rfl:=aa hw;refine⟨_,SM hx ha hq,?_⟩;cases neg
   .exact ⟨xb _,trivial⟩
   .exact ⟨xb _,trivial⟩
 cases v with
 |nl k=>
  simp only[Ap]at hn;cases hkk:(k==kind)&&Nat.blt k 3 with
  |false=>rw[hkk]at hn;simp at hn
  |true=>
   rw[hkk,cond_true]at hn;obtain rfl:=aa hn;simp only[ak,beq_iff_eq]at hkk;obtain⟨rfl,hlt⟩:=hkk;rw[xD hx]
   match k,hlt with|0,_=>cases neg<;>exact⟨_,rfl,kb _,trivial⟩|1,_=>cases neg<;>exact⟨_,rfl,kb _,trivial⟩|2,_=>cases neg<;>exact⟨_,rfl,kb _,trivial⟩
 |pt t v=>
  simp only[Ap]at hn;cases hkk:kind==1 with
  |false=>rw[hkk]at hn;simp at hn
  |true=>
   rw[hkk,cond_true]at hn;obtain rfl:=aa hn;obtain rfl:kind=1:=by simpa using hkk
   rw[(zI hx).2];cases neg<;>exact⟨_,rfl,kb _,trivial⟩
 |op id t p=>
  simp only[Ap]at hn;cases hkk:kind==1 with
  |false=>rw[hkk]at hn;simp at hn
  |true=>
   rw[hkk,cond_true]at hn;obtain rfl:=aa hn;obtain rfl:kind=1:=by simpa using hkk
   rw[xC hx];cases neg<;>exact⟨_,rfl,kb _,trivial⟩
 |ep id m t p=>
  simp only[Ap]at hn;cases hkk:kind==1 with
  |false=>rw[hkk]at hn;simp at hn
  |true=>
   rw[hkk,cond_true]at hn;obtain rfl:=aa hn;obtain rfl:kind=1:=by simpa using hkk
   rw[tP hx];cases neg<;>exact⟨_,rfl,kb _,trivial⟩
 |fn z f l=>
  simp only[Ap]at hn;cases hkk:kind==2 with
  |false=>rw[hkk]at hn;simp at hn
  |true=>
   rw[hkk,cond_true]at hn;obtain rfl:=aa hn;obtain rfl:kind=2:=by simpa using hkk
   rcases GH hx with⟨_,ds,_,rfl⟩|⟨_,cs,_,rfl⟩<;>(cases neg<;>exact⟨_,rfl,kb _,trivial⟩)
 |x t v=>grind [wg,Ap]
 |so id=>grind [wg,Ap]
 |sb id ver lo t r=>grind [wg,Ap]
 |_=>simp[Ap,wg]at hn
theorem NZ{off m i:Nat}{v w:V}{x:TV}{c:Call}{nx:Nat}(hx:fC h v x)(hk:eV n h v)(hw:HU off m i v=some w):
  ∃y,ci c (.fieldAddr off m) [some x] h1 nx=some (y,[],[],nx)/\fC h w y/\eV n h w:=by
 have path:∀(t u a:Ty)(p:qB),se t p=some (.st u)->D4 u i=some a->KF t p->KF t (p++[.fd i])/\oD t (p++[.fd i])=oD t p+pX u i:=by
  intro t u a p;induction p generalizing t with
  |nil=>
   intro h1 h2 _;have e:se t []=some t:=by cases t<;>rfl
   obtain rfl:t=.st u:=by rw[e]at h1;exact aa h1
   refine⟨⟨a,h2,by cases a<;>trivial⟩,?_⟩;simp only[cz,oD,h2];cases a<;>simp[oD]
  |cons q p ih=>
   intro h1 h2 h3;cases q with
   |fd j=>
    cases t with
    |st t=>
     obtain⟨b2,hb,h3⟩:=h3;simp only[se,hb]at h1;obtain⟨q1,q2⟩:=ih b2 h1 h2 h3;refine⟨⟨b2,hb,q1⟩,?_⟩
     grind [oD,di]
    |_=>exact h3.elim
   |ix k=>
    cases t with
    |ar l t=>
     obtain⟨hk,h3⟩:=h3;obtain⟨q1,q2⟩:=ih t h1 h2 h3;refine⟨⟨hk,q1⟩,?_⟩
     grind [oD,di]
    |_=>exact h3.elim
 cases v with
 |op id t p=>
  simp only[HU]at hw;split at hw
  .rename_i u hu;split at hw
   .rename_i a hf;cases hq:(pX u i==off)&&(bU a==m)with
    |false=>rw[hq]at hw;simp at hw
    |true=>
     rw[hq,cond_true]at hw;obtain rfl:=aa hw;simp only[ak,beq_iff_eq]at hq;obtain⟨q1,q2⟩:=path t u a p hu hf hk.2;rw[xC hx];refine⟨_,rfl,bW (dv rfl ?_),hk.1,q1⟩;show[_]=[_]
     rw[q2,hq.1]
   .simp at hw
  .simp at hw
 |ep id k t p=>
  simp only[HU]at hw;split at hw
  .rename_i u hu;split at hw
   .rename_i a hf;cases hq:(pX u i==off)&&(bU a==m)with
    |false=>rw[hq]at hw;simp at hw
    |true=>
     rw[hq,cond_true]at hw;obtain rfl:=aa hw;simp only[ak,beq_iff_eq]at hq;obtain⟨q1,q2⟩:=path t u a p hu hf hk.2.1;rw[tP hx];refine⟨_,rfl,bW (dv rfl ?_),hk.1,q1,hk.2.2⟩;show[_]=[_]
     rw[q2,hq.1]
   .simp at hw
  .simp at hw
 |pt t v=>
  cases t with
  |st u=>
   simp only[HU]at hw;split at hw
   .rename_i a y hy;cases hq:(pX u i==off)&&(bU a==m)with
    |false=>rw[hq]at hw;simp at hw
    |true=>
     rw[hq,cond_true]at hw;obtain rfl:=aa hw;simp only[ak,beq_iff_eq]at hq;obtain⟨a',y',e,f1,f2,f3⟩:=rQ _ _ _ _ hy;cases e;obtain⟨hd,rfl⟩:=zI hx;refine⟨_,?_,bW (dv (c:=.d (.pt (aR a y))) rfl ⟨AT u _ _ hd f1,rfl⟩),trivial⟩;have hle:off+m<=(aR (.st u) v).length:=by rw[bH];show _<=bU u;omega
     have e2:((aR (.st u) v).drop off).take m=aR a y:=by rw[<-hq.1,<-hq.2];exact f3
     simp only[ci,kg];rw[if_pos hle,e2]
   .simp at hw
  |_=>simp[HU]at hw
 |_=>simp[HU]at hw
theorem KH:∀(l:V)(i:Nat)(w:V)(cs:List C),ff h l cs->tE l i=some w->∃cw,ff h w cw/\Qn l i+Bg w<=cs.length/\(cs.drop (Qn l i)).take (Bg w)=cw:=by
 intro l;induction l with
 |co a r iha ihr=>intro i w cs hv hw;obtain⟨x,y,rfl,k1,k2⟩:=hv;have hl:=iv k1;cases i with|zero=>obtain rfl:=aa hw;refine⟨x,k1,by simp[Qn];omega,?_⟩;simp only[Qn,List.drop_zero];rw[<-hl,List.take_left]|succ i=>obtain⟨cw,q1,q2,q3⟩:=ihr i w y k2 hw;refine⟨cw,q1,by simp[Qn];omega,?_⟩;simp only[Qn];rw[<-eJ,<-hl,List.drop_left,q3]
 |_=>intro i w cs hv hw;simp[tE]at hw
theorem P2:∀(l:V)(i:Nat)(w:V)(xs:List TV),CQ h l xs->tE l i=some w->∃x,xs[i]?=some x/\tQ h w x:=by
 intro l;induction l with
 |co a r iha ihr=>intro i w xs hv hw;obtain⟨x,ys,rfl,k1,k2⟩:=hv;cases i with|zero=>obtain rfl:=aa hw;exact⟨x,rfl,k1⟩|succ i=>exact ihr i w ys k2 hw
 |_=>intro i w xs hv hw;simp[tE]at hw
end
section
variable{h:H2}{n:Nat}{h1:bp}
def TX(h:H2)(n:Nat)(h1:bp)(k:K)(xs:List TV)(v:V)(l:List Nat):Prop:=∀(c:Call)(nx:Nat),∃x av,ci c k (xs.map some) h1 nx=some (x,[],av,nx)/\fC h v x/\eV n h v/\∀i∈av,i∈l
theorem TX.of{k:K}{xs:List TV}{v:V}{x:TV}(he:∀(c:Call)(nx:Nat),ci c k (xs.map some) h1 nx=some (x,[],[],nx))(hx:fC h v x)(hk:eV n h v):TX h n h1 k xs v []:=fun c nx=>⟨x,[],he c nx,hx,hk,fun i hi=>by simp at hi⟩
theorem xb(b:Bool):fC h (.x .b b) (tB b):=bW (dv rfl ⟨rfl,rfl⟩)
theorem xf(k:FloatKind)(a:Nat):fC h (.x (.f k) a) (lv (.float k a)):=bW (dv rfl ⟨rfl,rfl⟩)
theorem xi(k:IntKind)(a:Int):fC h (.x (.i k) a) (tI k a):=bW (dv rfl ⟨rfl,rfl⟩)
theorem T6(a:ByteArray):fC h (.x .s a) (.c (.d (dS a))):=bW (dv rfl ⟨rfl,rfl⟩)
def Ug(t:Ty)(y:El t):TV:=if mF t=true then .agg ((aR t y).map .d)else match aR t y with|d::_=>.c (.d d)|[]=>.gX []
theorem IB{t:Ty}(y:El t){va:Bool}(hv:mF t=va)(h1:(va||bU t==1)=true):qE va (aR t y)=some (Ug t y):=by
 unfold qE Ug
 grind [mF,bH,bU,aR]
theorem LY{t:Ty}{y:El t}(hd:kx t=true)(h1:(mF t||bU t==1)=true):tQ h (.x t y) (Ug t y):=by
 unfold Ug;cases ha:mF t with
 |true=>exact zK ha ⟨hd,rfl⟩
 |false=>
  rw[ha]at h1;have:=bH t y;rw[show bU t=1 by simpa using h1]at this;cases he:aR t y with
  |nil=>rw[he]at this;simp at this
  |cons d r=>
   rw[he]at this;have:=by simpa using this
   subst this;exact dv ha ⟨hd,by rw[he];rfl⟩
theorem LH(f:TV->Option C)(hf:∀c,f (.c c)=some c):∀(cs:List C),dD ((cs.map TV.c).map f)=some cs:=by intro cs;induction cs with|nil=>rfl|cons c cs ih=>simp only[aK,hf,dD,ih]
theorem Ax:∀(l:List Value),mn (l.map fun v=>C.d (.lit v))=some l:=by intro l;induction l with|nil=>rfl|cons v l ih=>simp[mn,ih]
theorem wW{kt:Ty}{ks:List Kd}{v:V}{x:TV}{y:El kt}{ka:Bool}(hx:fC h v x)(hc:uX kt v=some y)(hk:Bi kt=some ks)(ha:mF kt=ka):ng ka ks x=some (xy kt y):=by
 obtain⟨h1,h2,_,h4⟩:=uR kt ks hk;obtain⟨g1,g2⟩:=uW hx hc;cases ka with
 |true=>
  rw[g1 ha];have e:(aR kt y).map C.d=(xy kt y).map fun v=>C.d (.lit v):=by rw[h1 y,gr];rfl
  simp only[ng];rw[if_pos ⟨trivial,by rw[aD,bH,h4]⟩,e,Ax];simp[h2 y]
 |false=>
  obtain⟨d,hd,rfl⟩:=g2 ha;have hl:=bH kt y;rw[hd]at hl;have h5:=h1 y;rw[hd]at h5;cases hv:xy kt y with
  |nil=>rw[hv]at h5;simp at h5
  |cons q r=>
   rw[hv]at h5;simp at h5;obtain⟨rfl,h6⟩:=h5;have:=by simpa using h6.symm
   subst this;simp only[ng];rw[if_pos ⟨trivial,by rw[h4,<-hl];rfl⟩];have h7:=h2 y;rw[hv]at h7;simp[mn,h7,if_true]
theorem Ni{v:V}{q:(k:Ty)×(v:Ty)×Mp (El k) (El v)×List Nat}{x:TV}(hr:HR n h1 h)(hm:P8 h v=some q)(hx:fC h v x):
  ∃id,v=.om id/\x=.c (.om id)/\q.2.2.2=[id]/\fO h id=some (.mp q.1 q.2.1 q.2.2.1)/\au h1 id=Ar (mF q.1) (mF q.2.1) (xy q.1) (aR q.2.1) q.2.2.1:=by
 cases v with
 |om id=>
  simp[P8]at hm;split at hm
  .rename_i k v m ho;obtain rfl:=aa hm;exact⟨id,rfl,zJ hx,rfl,ho,(hr.ob id _ ho).2.1.2.2⟩
  .simp at hm
 |_=>simp[P8]at hm
theorem Nl{c:Call}{x y:TV}{H:bp}{l:List Nat}{nx:Nat}(h:ci c (.load false 1) [some x] H nx=some (y,[],l,nx)):ci c .vq [some x] H nx=some (y,[],l,nx):=by
 cases x with
 |c p=>
  have h:(match g_ false 1 p H with|some (v,av)=>some (v,([]:eW),av,nx)|none=>none)=some (y,[],l,nx):=h;show(match g_ false 1 p H with|some (v,av)=>some (v,([]:eW),av,nx)|none=>lW false 1 p H nx)=some (y,[],l,nx)
  grind
 |_=>cases h
theorem JY{o:OP}{vs:List V}{v:V}{l:List Nat}{xs:List TV}(hr:HR n h1 h)(ht:R3 o vs h=some (v,l))(hx:mS h vs xs)(hk:∀w∈vs,eV n h w)(ha:∀w∈vs,iw h w=true)
  (hp:PO o.o.args=true->∀a k b,vs=[a,.x (.i k) b]->0<b):TX h n h1 o.o.k xs v l:=by
 obtain⟨⟨d,k,args,g⟩,t,fi⟩:=o;simp only at hp|-;unfold R3 at ht;simp only at ht;split at ht
 .--mv
  obtain⟨rfl,rfl⟩:=af (aa ht);obtain⟨x,rfl,h2⟩:=ie hx;exact .of (fun _ _=>rfl) h2 (hk _ (by simp))
 .--nilCheck
  obtain⟨x,rfl,h2⟩:=ie hx;have hk1:=hk _ (aq.2 rfl);split at ht
  .obtain ⟨rfl,rfl⟩:=af (aa ht);exact .of (fun _ _=>by rw[(zI h2).2];rfl) h2 hk1
  .obtain ⟨rfl,rfl⟩:=af (aa ht);refine .of (fun _ _=>?_) h2 hk1;rcases GH h2 with⟨_,ds,_,rfl⟩|⟨_,cs,_,rfl⟩<;>rfl
  .obtain ⟨rfl,rfl⟩:=af (aa ht);exact .of (fun _ _=>by rw[tP h2];rfl) h2 hk1
  .obtain ⟨rfl,rfl⟩:=af (aa ht);exact .of (fun _ _=>by rw[xC h2];rfl) h2 hk1
  .simp at ht
 .--A6 int
  rename_i op q a q' b;obtain⟨x,y,rfl,h2,h3⟩:=iD hx;obtain rfl:=kf h2;obtain rfl:=kf h3;split at ht
  .rename_i w hw;obtain⟨rfl,rfl⟩:=af (aa ht);obtain⟨y,h4,h5,h6⟩:=LC (h:=h) (n:=n) hw fun hz=>hp hz _ _ _ rfl;exact .of (fun _ _=>by simp only[mH,ci,pU,h4]) h5 h6
  .simp at ht
 .--A6 float
  rename_i op q a q' b;obtain⟨x,y,rfl,h2,h3⟩:=iD hx;obtain rfl:=Ee h2;obtain rfl:=Ee h3;split at ht
  .rename_i w hw;obtain⟨rfl,rfl⟩:=af (aa ht);obtain⟨y,h4,h5,h6⟩:=In (h:=h) (n:=n) hw;exact .of (fun _ _=>by show(match pU op (.float q a) (.float q' b)with|some v=>some (lv v,([]:eW),([]:List Nat),_)|none=>none)=_;rw[h4]) h5 h6
  .simp at ht
 .--A6 string
  obtain⟨x,y,rfl,h2,h3⟩:=iD hx;obtain rfl:=yu h2;obtain rfl:=yu h3;split at ht
  .rename_i w hw;obtain⟨rfl,rfl⟩:=af (aa ht);obtain⟨y,h4,h5,h6⟩:=LB (h:=h) (n:=n) hw;exact .of (fun _ _=>by simp only[mH,ci,pU,h4]) h5 h6
  .simp at ht
 .--vX
  rename_i neg v1 v2;obtain⟨x,y,rfl,h2,h3⟩:=iD hx;split at ht
  .rename_i a b ha' hb';obtain⟨rfl,rfl⟩:=af (aa ht);rw[Ru h2 ha',Ru h3 hb'];refine .of (x:=tB (bif neg then !(a==b)else a==b)) (fun _ _=>?_) (xb _) trivial;cases neg<;>rfl
  .simp at ht
 .--rT
  obtain⟨x,rfl,h2⟩:=ie hx;split at ht
  .rename_i w hw;obtain⟨rfl,rfl⟩:=af (aa ht);intro c nx;obtain⟨y,h4,h5,h6⟩:=M4 (n:=n) (h1:=h1) (c:=c) (nx:=nx) h2 (ha _ (by simp)) hw;exact⟨y,[],h4,h5,h6,fun i hi=>by simp at hi⟩
  .simp at ht
 .--AO
  rename_i neg ks t1 a w;obtain⟨x,y,rfl,h2,h3⟩:=iD hx;split at ht
  .rename_i b hb;cases hq:mF t1&&decide (Bi t1=some ks)with
   |false=>rw[hq]at ht;simp at ht
   |true=>
    rw[hq,cond_true]at ht;obtain⟨rfl,rfl⟩:=af (aa ht);simp only[ak,decide_eq_true_eq]at hq;obtain⟨k1,k2,k3,k4⟩:=uR t1 ks hq.2;have e1:=(uW (v:=.x t1 a) (u:=t1) (y:=a) h2 (by simp[uX,lO,iK,gg])).1 hq.1;have e2:=(uW h3 hb).1 hq.1;have el:∀z:El t1,mn ((aR t1 z).map C.d)=some (xy t1 z):=fun z=>by rw[show(aR t1 z).map C.d=(xy t1 z).map fun v=>C.d (.lit v)by rw[k1 z,gr];rfl,Ax]
    rw[e1,e2];refine .of (x:=tB (bif neg then !(decide (a=b))else decide (a=b))) (fun _ _=>?_) (xb _) trivial;simp only[mH,ci,el,k3];cases neg<;>rfl
  .simp at ht
 .obtain ⟨rfl,rfl⟩:=af (aa ht);obtain⟨x,rfl,h2⟩:=ie hx;rw[xE h2];exact .of (fun _ _=>rfl) (bW (dv rfl rfl)) trivial
 .obtain ⟨rfl,rfl⟩:=af (aa ht);obtain⟨x,rfl,h2⟩:=ie hx;rw[ID h2];exact .of (fun _ _=>rfl) (xb _) trivial
 .obtain ⟨rfl,rfl⟩:=af (aa ht);obtain⟨x,rfl,h2⟩:=ie hx;rw[kf h2];exact .of (fun _ _=>rfl) (xi _ _) trivial
 .obtain ⟨rfl,rfl⟩:=af (aa ht);obtain⟨x,rfl,h2⟩:=ie hx;rw[Ee h2];exact .of (fun _ _=>rfl) (xf _ _) trivial
 .obtain ⟨rfl,rfl⟩:=af (aa ht);obtain⟨x,rfl,h2⟩:=ie hx;rw[kf h2];exact .of (fun _ _=>rfl) (xi _ _) trivial
 .obtain ⟨rfl,rfl⟩:=af (aa ht);obtain⟨x,rfl,h2⟩:=ie hx;rw[kf h2];exact .of (fun _ _=>rfl) (xi _ _) trivial
 .obtain ⟨rfl,rfl⟩:=af (aa ht);obtain⟨x,rfl,h2⟩:=ie hx;rw[kf h2];exact .of (fun _ _=>rfl) (xf _ _) trivial
 .obtain ⟨rfl,rfl⟩:=af (aa ht);obtain⟨x,rfl,h2⟩:=ie hx;rw[yu h2];exact .of (fun _ _=>rfl) (T6 _) trivial
 .--KQ
  rename_i f;cases hc:vs.all QO with
  |false=>rw[hc]at ht;simp at ht
  |true=>
   rw[hc,cond_true]at ht;obtain⟨rfl,rfl⟩:=af (aa ht);obtain⟨cs,h2,rfl⟩:=LZ hx fun w hw=>by have:=List.all_eq_true.1 hc w hw;cases w<;>first|exact⟨trivial,by simp[QO]at this;exact this⟩|simp[QO]at this
   refine .of (x:=.c (.pJ f cs)) (fun _ _=>?_) (bW (dv rfl ⟨cs,h2,rfl⟩)) ?_
   .simp only[ci,nW];rw[LH _ fun _=>rfl]
   .clear ht h2 hp ha hc hx;induction vs with|nil=>trivial|cons w vs ih=>exact⟨hk w (by simp),ih fun u hu=>hk u (by simp[hu])⟩
 .--load
  rename_i g m p;obtain⟨x,rfl,h2⟩:=ie hx;split at ht
  .rename_i w l' hl;cases hc:If h g m w with
   |false=>rw[hc]at ht;simp at ht
   |true=>
    rw[hc,cond_true]at ht;obtain⟨rfl,rfl⟩:=af (aa ht);intro c nx;obtain⟨y,h3,h4,h5⟩:=xZ (c:=c) (nx:=nx) hr hl hc h2 (hk _ (by simp))
    grind
  .simp at ht
 .--load of a slice
  obtain⟨x,rfl,h2⟩:=ie hx;split at ht
  .rename_i w l' hl;cases hc:If h false 1 w with|false=>rw[hc]at ht;simp at ht|true=>rw[hc,cond_true]at ht;obtain⟨rfl,rfl⟩:=af (aa ht);intro c nx;obtain⟨y,h3,h4,h5⟩:=xZ (c:=c) (nx:=nx) hr hl hc h2 (hk _ (by simp));exact⟨y,_,Nl h3,h4,h5,fun i hi=>hi⟩
  .simp at ht
 .--fieldAddr
  obtain⟨x,rfl,h2⟩:=ie hx;split at ht
  .split at ht
   .rename_i w hw;obtain⟨rfl,rfl⟩:=af (aa ht);intro c nx;obtain⟨y,h3,h4,h5⟩:=NZ (h1:=h1) (c:=c) (nx:=nx) h2 (hk _ (by simp)) hw
    grind
   .simp at ht
  .simp at ht
 .--field of data
  rename_i g off m u y;obtain⟨x,rfl,h2⟩:=ie hx;split at ht
  .split at ht
   .rename_i i _ w hw;cases hc:(pX u i==off)&&If h g m w with
    |false=>rw[hc]at ht;simp at ht
    |true=>
     rw[hc,cond_true]at ht;obtain⟨rfl,rfl⟩:=af (aa ht);simp only[ak,beq_iff_eq]at hc;obtain⟨a,z,rfl,f1,f2,f3⟩:=rQ _ _ _ _ hw;obtain⟨cs,⟨hd,rfl⟩,g1,_⟩:=pq (v:=.x (.st u) y) trivial h2;have hd':kx u=true:=hd;obtain⟨_,hs,_,_⟩:=pd hc.2;have hs:bU a=m:=hs
     obtain⟨q,h3,h4⟩:=qj (cs:=(aR u y).map C.d) (off:=off) hc.2 (show ff h (.x a z) ((aR a z).map .d)from⟨AT u _ _ hd' f1,rfl⟩) (by simp[bH];omega)
      (by rw[<-hc.1,<-hs,<-f3,iM,gV])
     rw[g1 rfl];exact .of (x:=q) (fun _ _=>by show(match FD g m (((aR u y).map C.d).drop off)with|some v=>some (v,([]:eW),([]:List Nat),_)|none=>none)=_;rw[h3]) h4 trivial
   .simp at ht
  .simp at ht
 .--field of a bv
  rename_i g off m u;obtain⟨x,rfl,h2⟩:=ie hx;split at ht
  .split at ht
   .rename_i i _ w hw;cases hc:(Qn u i==off)&&If h g m w with|false=>rw[hc]at ht;simp at ht|true=>rw[hc,cond_true]at ht;obtain⟨rfl,rfl⟩:=af (aa ht);simp only[ak,beq_iff_eq]at hc;obtain⟨cs,hcs,g1,_⟩:=pq (v:=.rc u) trivial h2;obtain⟨cw,q1,q2,q3⟩:=KH u i w cs hcs hw;obtain⟨_,hs,_,_⟩:=pd hc.2;obtain⟨q,h3,h4⟩:=qj (off:=off) hc.2 q1 (by rw[<-hc.1,<-hs];exact q2) (by rw[<-hc.1,<-hs];exact q3);rw[g1 rfl];exact .of (x:=q) (fun _ _=>by show(match FD g m (cs.drop off)with|some v=>some (v,([]:eW),([]:List Nat),_)|none=>none)=_;rw[h3]) h4 (zr u i w (hk (.rc u) (aq.2 rfl)) hw)
   .simp at ht
  .simp at ht
 .--extract
  rename_i i u;obtain⟨x,rfl,h2⟩:=ie hx;split at ht
  .rename_i w hw;obtain⟨rfl,rfl⟩:=af (aa ht);obtain⟨ys,rfl,h3⟩:=R1 h2;obtain⟨y,h4,h5⟩:=P2 u i w ys h3 hw;exact .of (x:=y) (fun _ _=>by simp only[mH,ci,h4]) (bW h5) (zr u i w (hk (.tp u) (aq.2 rfl)) hw)
  .simp at ht
 .obtain ⟨rfl,rfl⟩:=af (aa ht);obtain⟨x,rfl,h2⟩:=ie hx;rw[yu h2];exact .of (fun _ _=>rfl) (xi _ _) trivial
 .obtain ⟨rfl,rfl⟩:=af (aa ht);obtain⟨x,rfl,h2⟩:=ie hx;rw[xD h2];exact .of (fun _ _=>rfl) (xi _ _) trivial
 .--len of a bv of rows
  obtain⟨x,rfl,h2⟩:=ie hx;split at ht
  .rename_i t' s' ln hq;obtain⟨rfl,rfl⟩:=af (aa ht);exact .of (fun _ _=>by rw[L1 h2 (tT hq)];exact Rl) (xi _ _) trivial
  .simp at ht
 .--len
  obtain⟨x,rfl,h2⟩:=ie hx;split at ht
  .rename_i q t' s' l' hq;obtain⟨rfl,rfl⟩:=af (aa ht);exact .of (fun _ _=>SU h2 (ha _ (by simp)) hq) (xi _ _) trivial
  .simp at ht
 .--sO
  rename_i m k' x r;obtain⟨x1,ys,rfl,h2,h3⟩:=fX hx;split at ht
  .rename_i y hy;obtain⟨rfl,rfl⟩:=af (aa ht);obtain rfl:=kf h2;exact .of (x:=lv (.int k' y)) (fun _ _=>by simp only[mH,ci,Nf hy h3]) (xi _ _) trivial
  .simp at ht
 .--sO of floats
  rename_i m k' x r;obtain⟨x1,ys,rfl,h2,h3⟩:=fX hx;split at ht
  .rename_i y hy;obtain⟨rfl,rfl⟩:=af (aa ht);obtain rfl:=Ee h2;refine .of (x:=lv (.float k' y)) (fun _ _=>?_) (xf _ _) trivial;show(match Nd m (.float k' x) (ys.map some)with|some v=>some (lv v,([]:eW),([]:List Nat),_)|none=>none)=_;rw[KM hy h3]
  .simp at ht
 .--build
  rename_i z ps;cases hc:vc (oK t) z&&mF t&&d_ (Q7 t) false t with
  |false=>rw[hc]at ht;simp at ht
  |true=>
   rw[hc,cond_true]at ht;simp only[ak]at hc;split at ht
   .rename_i w hw;obtain⟨rfl,rfl⟩:=af (aa ht);obtain⟨z1,z2⟩:=(zB (h:=h) (n:=n) t).1 hc.2;obtain⟨cs,b1,b2,b3,b4⟩:=OC fi ps vs (Q7 t) w _ xs hw hc.2 z1 z2 hx hk;rw[si hc.1.1]at b1;exact .of (x:=.agg cs) (fun _ _=>by simp only[ci,nW,b1]) (bW (zK (Tb b4 hc.1.2) b2)) b3
   .simp at ht
 .--lookup
  rename_i ka ks va z ok m kv;obtain⟨x,y,rfl,h2,h3⟩:=iD hx;split at ht
  .rename_i kt vt mp l' hq;split at ht
   .rename_i key hkey;cases hc:(mF kt==ka)&&(mF vt==va)&&decide (Bi kt=some ks)&&vc (oK vt) z&&kx vt&&(va||bU vt==1)with
    |false=>rw[hc]at ht;simp at ht
    |true=>
     rw[hc,cond_true]at ht;simp only[ak,beq_iff_eq,decide_eq_true_eq]at hc;obtain⟨⟨⟨⟨⟨c1,c2⟩,c3⟩,c4⟩,c5⟩,c6⟩:=hc;obtain⟨id,rfl,rfl,e1,e2,e3⟩:=Ni hr hq h2;have e1:l'=[id]:=e1;subst e1;obtain⟨_,_,k3,_⟩:=uR kt ks c3;have hz:dj z=aR vt (u9 vt):=by rw[sf vt c5,si c4]
     have hv:∀y,qE va (aR vt y)=some (Ug vt y):=fun y=>IB y c2 c6;have hkt:=wW h3 hkey c3 c1;rw[c1,c2]at e3;rw[<-c2]at c6;cases ok with|false=>simp only[cond_false]at ht;obtain⟨rfl,rfl⟩:=af (aa ht);exact fun c nx=>⟨_,[id],SP (z:=u9 vt) e3 hkt k3 hz hv,bW (LY c5 c6),trivial,fun i hi=>hi⟩|true=>simp only[cond_true]at ht;obtain⟨rfl,rfl⟩:=af (aa ht);exact fun c nx=>⟨_,[id],P9 (z:=u9 vt) e3 hkt k3 hz hv,⟨_,rfl,_,_,rfl,LY c5 c6,_,_,rfl,dv rfl ⟨rfl,rfl⟩,rfl⟩,⟨trivial,trivial,trivial⟩,fun i hi=>hi⟩
   .simp at ht
  .simp at ht
 .simp at ht
end
section
variable{h:H2}{n:Nat}{h1:bp}
theorem cK(id:Nat)(o:Option O)(h:H2)(i:Nat):fO ((id,o)::h) i=if id=i then o else fO h i:=by
 grind [fO,bV]
theorem dg(id:Nat)(o:Option Ob)(h:bp)(i:Nat):au ((id,o)::h) i=if id=i then o else au h i:=by
 grind [au,bV]
theorem jy.new(o:Option O):jy n h ((n,o)::h):=⟨fun id o' hi ho=>by rw[cK,if_neg (by omega)]at ho;exact .inl ⟨o',ho,tC.refl _⟩⟩
theorem jy.CN{id:Nat}{o o':O}(ho:fO h id=some o)(hs:tC o o'):jy n h ((id,some o')::h):=
 ⟨fun i o2 hi h2=>by
  rw[cK]at h2;split at h2
  .simp_all
  .exact .inl ⟨o2,h2,tC.refl _⟩⟩
theorem jy.mC(id:Nat):jy n h ((id,none)::h):=
 ⟨fun i o2 hi h2=>by
  grind [cK,tC.refl]⟩
theorem HR.CN{n' id:Nat}{o:Option O}{u:eW}(hr:HR n h1 h)(hn:n<=n')(hi:id<n')(hs:jy n h ((id,o)::h))(hu:∀i,i≠id->au (u++h1) i=au h1 i)
  (ho:∀o',o=some o'->xx ((id,o)::h) o' (au (u++h1) id)/\D1 n' ((id,o)::h) o'):HR n' (u++h1) ((id,o)::h):=by
 refine⟨fun i o' h2=>?_⟩;rw[cK]at h2;split at h2
 .simp_all
 .obtain ⟨q1,q2,q3⟩:=hr.ob i o' h2
  grind [oY,qg]
theorem HR.mono{n':Nat}(hr:HR n h1 h)(hn:n<=n'):HR n' h1 h:=⟨fun i o ho=>let⟨a,b,c⟩:=hr.ob i o ho;⟨by omega,b,oY hn (jy.refl n h) c⟩⟩
theorem HR.ext{h1':bp}(hr:HR n h1 h)(he:∀i,au h1' i=au h1 i):HR n h1' h:=⟨fun i o ho=>by rw[he];exact hr.ob i o ho⟩
structure sd(s s':S2)(h1:bp)(x:TV)(u:eW)(av:List Nat)(m:Nat)(v:V)(l:List Nat):Prop where
 val:fC s'.heap v x
 Y2:eV s'.next s'.heap v
 hr:HR s'.next (u++h1) s'.heap
 dR:jy s.next s.heap s'.heap
 cW:s'.cW=s.cW
 gh:s'.gh=s.gh
 m:m<=s'.next
 le:s.next<=s'.next
 av:∀i∈av,i∈l
 nb:∀i,i<s.next->fO s.heap i=none->fO s'.heap i=none
 wo:∃w,s'.wo=w++s.wo/\(∀p∈u,p.1∈w)/\∀id,id∉w->fO s'.heap id=fO s.heap id
theorem sd.pure{s:S2}{x:TV}{v:V}{av l:List Nat}(hr:HR s.next h1 s.heap)(hx:fC s.heap v x)(hk:eV s.next s.heap v)(hl:∀i∈av,i∈l):sd s s h1 x [] av s.next v l:=⟨hx,hk,hr,jy.refl _ _,rfl,rfl,am _,am _,hl,fun _ _ h=>h,[],rfl,fun p hp=>by simp at hp,fun _ _=>rfl⟩
theorem sd.new{s:S2}{o:O}{b:Option Ob}{u:eW}{x:TV}{v:V}{av l:List Nat}{m:Nat}(hr:HR s.next h1 s.heap)(hu:u=[(s.next,b)]\/(u=[]/\∀b',xx ((s.next,some o)::s.heap) o b'))(hb:u=[(s.next,b)]->xx ((s.next,some o)::s.heap) o b)
  (hko:D1 (s.next+1) ((s.next,some o)::s.heap) o) (hx:fC ((s.next,some o)::s.heap) v x) (hk:eV (s.next+1) ((s.next,some o)::s.heap) v) (hl:∀i∈av,i∈l) (hm:m<=s.next+1):sd s (jp s o) h1 x u av m v l:=by
 refine⟨hx,hk,?_,jy.new _,rfl,rfl,hm,bn _,hl,fun i hi h=>(by rw[show(jp s o).heap=(s.next,some o)::s.heap from rfl,cK,if_neg (by omega)];exact h),[s.next],rfl,?_,fun id hid=>?_⟩
 .refine HR.CN hr (bn _) (aQ _) (jy.new _) (fun i hi=>?_) fun o' ho'=>?_
  .rcases hu with rfl|⟨rfl,_⟩
   .rw [a_,dg,if_neg fun e=>hi e.symm]
   .rfl
  .obtain rfl:=aa ho';refine⟨?_,hko⟩;rcases hu with rfl|⟨rfl,hu⟩
   .rw [a_,dg,if_pos rfl];exact hb rfl
   .exact hu _
 .grind
 .simp [jp];rw[cK,if_neg fun e=>hid (by simp[e])]
theorem sd.CN{s:S2}{id:Nat}{o o':O}{b:Option Ob}{x:TV}{v:V}{av l:List Nat}(hr:HR s.next h1 s.heap)(ho:fO s.heap id=some o)(hs:tC o o')(hb:xx ((id,some o')::s.heap) o' b)(hko:D1 s.next ((id,some o')::s.heap) o')
  (hx:fC ((id,some o')::s.heap) v x) (hk:eV s.next ((id,some o')::s.heap) v) (hl:∀i∈av,i∈l):sd s (dT s id (some o')) h1 x [(id,b)] av s.next v l:=by
 refine⟨hx,hk,?_,jy.CN ho hs,rfl,rfl,am _,am _,hl,fun i _ h=>(by rw[show(dT s id _).heap=(id,some o')::s.heap from rfl,cK,if_neg (fun e=>by rw[e,h]at ho;cases ho)];exact h),[id],rfl,fun p hp=>?_,fun i hi=>?_⟩
 .refine HR.CN hr (am _) (hr.ob id o ho).1 (jy.CN ho hs) (fun i hi=>?_) fun o2 ho2=>?_
  .rw [a_,dg,if_neg fun e=>hi e.symm]
  .obtain rfl:=aa ho2;rw[a_,dg,if_pos rfl];exact⟨hb,hko⟩
 .simp_all
 .simp [dT];rw[cK,if_neg fun e=>hi (by simp[e])]
def nk(h:H2)(id:Nat):Prop:=(∃t v,fO h id=some (.ar t .nil v)\/fO h id=some (.im t .nil v))\/∃t ln,fO h id=some (.rw t .nil ln)
theorem Ao{id ver:Nat}{t:Ty}{l:List (El t)}(ho:fO h id=some (.ar t (.mk l) ver)\/fO h id=some (.im t (.mk l) ver)):¬nk h id:=by
 rintro(⟨u,v',e⟩|⟨u,ln,e⟩)
 .all_goals
   grind
 simp_all
theorem P3{id:Nat}{t:Ty}{l:List (Sl (El t))}{ln:Option (Nat×Nat)}(ho:fO h id=some (.rw t (.mk l) ln)):¬nk h id:=by
 rintro(⟨u,v',e⟩|⟨u,ln',e⟩)
 .rcases e with e|e<;>rw[ho]at e<;>cases e
 .rw [ho]at e;cases e
theorem qD(k:Nat)(x:D):dW h1 k (.d x)=some (x,[]):=by cases k<;>rfl
theorem wj:∀(ds:List D),dn h1 (ds.map .d)=some (ds,[]):=by intro ds;induction ds with|nil=>rfl|cons d ds ih=>simp[dn,qD,ih]
theorem rh{a b:List C}{x y:List D}{i j:List Nat}(ha:dn h1 a=some (x,i))(hb:dn h1 b=some (y,j)):dn h1 (a++b)=some (x++y,i++j):=by
 induction a generalizing x i with
 |nil=>obtain⟨rfl,rfl⟩:[]=x/\[]=i:=by simpa[dn]using ha
       simpa using hb
 |cons c a ih=>
  simp[dn]at ha;split at ha
  .grind [dn,aM]
  .simp at ha
theorem Eb{id sz lo len:Nat}{rows:List (List D)}(k:Nat)(ho:au h1 id=some (.aG sz rows)\/au h1 id=some (.qu sz rows))(hl:lo+len<=rows.length)(szo:Nat):
  dW h1 k (.fx szo id lo len)=some (.sl szo ((rows.drop lo).take len),[id]):=by
 rcases ho with ho|ho<;>(cases k<;>simp[dW,ho,if_pos hl])
theorem Pf{id ver:Nat}{t:Ty}{s:Sl (El t)}(k:Nat)(hr:HR n h1 h)(ho:fO h id=some (.ar t s ver)\/fO h id=some (.im t s ver)):
  ∃av,dW h1 k (nA (bU t) (aR t) id s)=some (yS (bU t) (aR t) s,av)/\(∀i∈av,i=id/\¬nk h i)/\(id∈av\/nk h id):=by
 cases s with
 |nil=>exact⟨[],qD k _,fun i hi=>by simp at hi,.inr (.inl ⟨t,ver,ho⟩)⟩
 |mk l=>
  have hb:au h1 id=some (.aG (bU t) (l.map (aR t)))\/au h1 id=some (.qu (bU t) (l.map (aR t))):=by
   rcases ho with ho|ho
   .exact .inl ((hr.ob id _ ho).2.1.2.2 l rfl)
   .exact .inr ((hr.ob id _ ho).2.1.2.2 l rfl)
  refine⟨[id],?_,fun i hi=>by obtain rfl:=aq.1 hi;exact⟨rfl,Ao ho⟩,.inl (by simp)⟩;have:=Eb (lo:=0) (len:=(l.map (aR t)).length) k hb (by omega) (bU t);rw[uV]at this;exact this
theorem Pg{id ver lo:Nat}{t:Ty}{r:Sl (El t)}(k:Nat)(hr:HR n h1 h)(hk:eV n h (.sb id ver lo t r))(ha:Gr h id ver=true):
  ∃av,dW h1 k (zo id lo t r)=some (yS (bU t) (aR t) r,av)/\(∀i∈av,i=id/\¬nk h i)/\(id∈av\/nk h id):=by
 obtain⟨u,s,ho⟩:=lY ha;obtain⟨_,hc⟩:=hk.2 u s ver ho;obtain⟨hz,hc⟩:=hc rfl;cases r with
 |nil=>cases s with|nil=>exact⟨[],qD k _,fun i hi=>by simp at hi,.inr (.inl ⟨u,ver,ho⟩)⟩|mk l=>exact hc.elim
 |mk m=>
  cases s with
  |nil=>exact hc.elim
  |mk l=>
   have hb:au h1 id=some (.aG (bU u) (l.map (aR u)))\/au h1 id=some (.qu (bU u) (l.map (aR u))):=by
    rcases ho with ho|ho
    .exact .inl ((hr.ob id _ ho).2.1.2.2 l rfl)
    .exact .inr ((hr.ob id _ ho).2.1.2.2 l rfl)
   refine⟨[id],?_,fun i hi=>by obtain rfl:=aq.1 hi;exact⟨rfl,Ao ho⟩,.inl (by simp)⟩
   grind [Eb,aR,bU,zo,yS]
theorem BV{t:Ty}:∀(l:List (Sl (El t))),rl (bU t) (l.map (p9 t))=some (l.map (aR (.sl t))):=by intro l;induction l with|nil=>rfl|cons s l ih=>simp[rl,ih];cases s<;>rfl
theorem Pd{id:Nat}{t:Ty}{s:Sl (Sl (El t))}(k:Nat)(hr:HR n h1 h)(ho:fO h id=some (.rw t s none)):
  ∃av,dW h1 k (nA 1 (aR (.sl t)) id s)=some (yS 1 (aR (.sl t)) s,av)/\(∀i∈av,i=id/\¬nk h i)/\(id∈av\/nk h id):=by
 cases s with
 |nil=>exact⟨[],qD k _,fun i hi=>by simp at hi,.inr (.inr ⟨t,none,ho⟩)⟩
 |mk l=>
  have hb:=(hr.ob id _ ho).2.1.2.2 l rfl;refine⟨[id],?_,fun i hi=>by obtain rfl:=aq.1 hi;exact⟨rfl,P3 ho⟩,.inl (by simp)⟩;have e:((l.map (aR (.sl t))).length)=(fc t l none).length:=by simp[fc]
  have hs:rl _ (fc t l none)=some _:=BV l;cases k<;>simp[nA,yS,dW,hb,hs,e,and_self,if_true]
theorem uj(hr:HR n h1 h):∀(v w:V)(l:List Nat)(cs:List C),jI h v=some (w,l)->ff h v cs->eV n h v->iw h v=true->
  ∃ds av,dn h1 cs=some (ds,av)/\ff h w (ds.map .d)/\(∀i∈av,i∈l/\¬nk h i)/\(∀i∈l,i∈av\/nk h i)/\(∀i∈l,i<n/\((∃t s v,fO h i=some (.ar t s v)\/fO h i=some (.im t s v))\/∃t s,fO h i=some (.rw t s none))):=by
 have done:∀(v:V)(ds:List D),ff h v (ds.map .d)->∃ds' av,dn h1 (ds.map .d)=some (ds',av)/\ff h v (ds'.map .d)/\(∀i∈av,i∈([]:List Nat)/\¬nk h i)/\(∀i∈([]:List Nat),i∈av\/nk h i)/\(∀i∈([]:List Nat),i<n/\((∃t s v,fO h i=some (.ar t s v)\/fO h i=some (.im t s v))\/∃t s,fO h i=some (.rw t s none))):=fun v ds hv=>⟨ds,[],wj ds,hv,fun i hi=>by simp at hi,fun i hi=>by simp at hi,fun i hi=>by simp at hi⟩;intro v;induction v with
 |so id=>
  intro w l cs hf hv hk ha;simp only[jI]at hf;split at hf
  .rename_i t s l' hs;obtain⟨rfl,rfl⟩:=af (aa hf);obtain⟨ver,ho,e⟩:=vK hs;have e:l'=[id]:=e;subst e;obtain⟨c,rfl,hc,_⟩:=hv;rw[hc _ (mV ho)];obtain⟨av,q1,q2,q3⟩:=Pf 300 hr ho;have hd:kx t=true:=by rcases ho with ho|ho<;>exact(hr.ob id _ ho).2.1.1
   refine⟨[yS (bU t) (aR t) s],av,by simp[dn,q1],⟨hd,rfl⟩,fun i hi=>⟨by simpa using(q2 i hi).1,(q2 i hi).1▸(q2 i hi).2⟩,fun i hi=>?_,fun i hi=>?_⟩
   .simp_all
   .obtain rfl:=aq.1 hi;exact⟨hk,.inl ⟨t,s,ver,ho⟩⟩
  .simp at hf
 |sr id=>
  intro w l cs hf hv hk ha;simp only[jI]at hf;split at hf
  .rename_i t s ho;obtain⟨rfl,rfl⟩:=af (aa hf);obtain⟨c,rfl,hc,_⟩:=hv;rw[hc _ (by rw[ho];rfl:GO id (fO h id)=some (nA 1 (aR (.sl t)) id s))];obtain⟨av,q1,q2,q3⟩:=Pd 300 hr ho;have hd:kx t=true:=(hr.ob id _ ho).2.1.1;refine⟨[yS 1 (aR (.sl t)) s],av,by simp[dn,q1],⟨hd,rfl⟩,fun i hi=>⟨by simpa using(q2 i hi).1,(q2 i hi).1▸(q2 i hi).2⟩,fun i hi=>?_,fun i hi=>?_⟩
   .simp_all
   .obtain rfl:=aq.1 hi;exact⟨hk,.inr ⟨t,s,ho⟩⟩
  .simp at hf
 |sb id ver lo t r=>
  intro w l cs hf hv hk ha;simp only[jI,wg]at hf;obtain⟨rfl,rfl⟩:=af (aa hf);obtain⟨hd,ha⟩:=cf.1 ha;obtain⟨c,rfl,hc,_⟩:=hv;rw[hc ha];obtain⟨av,q1,q2,q3⟩:=Pg 300 hr hk ha;obtain⟨u,s,ho⟩:=lY ha;refine⟨[yS (bU t) (aR t) r],av,by simp[dn,q1],⟨?_,rfl⟩,fun i hi=>⟨by simpa using(q2 i hi).1,(q2 i hi).1▸(q2 i hi).2⟩,fun i hi=>?_,fun i hi=>?_⟩
  .exact hd
  .simp_all
  .obtain rfl:=aq.1 hi;exact⟨hk.1,.inl ⟨u,s,ver,ho⟩⟩
 |rc r ih=>
  intro w l cs hf hv hk ha;simp only[jI]at hf;split at hf
  .rename_i w' l' hw;obtain⟨rfl,rfl⟩:=af (aa hf);exact ih w' l' cs hw hv hk ha
  .simp at hf
 |co a r iha ihr=>
  intro w l cs hf hv hk ha;simp only[jI]at hf;split at hf
  .rename_i x l1 y l2 hx hy;obtain⟨rfl,rfl⟩:=af (aa hf);obtain⟨ca,cr,rfl,h2,h3⟩:=hv;simp only[iw,ak]at ha;obtain⟨ds,av,a1,a2,a3,a4,a5⟩:=iha x l1 ca hx h2 hk.1 ha.1;obtain⟨es,jds,b1,b2,b3,b4,b5⟩:=ihr y l2 cr hy h3 hk.2 ha.2;refine⟨ds++es,av++jds,rh a1 b1,⟨_,_,by simp,a2,b2⟩,fun i hi=>?_,fun i hi=>?_,fun i hi=>?_⟩
   .grind
   .grind
   .rcases List.mem_append.1 hi with hi|hi
    .exact a5 i hi
    .exact b5 i hi
  .simp at hf
 |x t v=>intro w l cs hf hv hk ha;obtain⟨rfl,rfl⟩:=af (aa hf);obtain⟨hd,rfl⟩:=hv;exact done _ _ ⟨hd,rfl⟩
 |kb c=>intro w l cs hf hv hk ha;obtain⟨rfl,rfl⟩:=af (aa hf);obtain rfl:=hv;exact done (.kb c) [_] rfl
 |nl k=>intro w l cs hf hv hk ha;obtain⟨rfl,rfl⟩:=af (aa hf);obtain rfl:=hv;exact done (.nl k) [_] rfl
 |fl q=>
  intro w l cs hf hv hk ha;obtain⟨rfl,rfl⟩:=af (aa hf);obtain⟨hp,rfl⟩:=hv;have e:eS q=(q.map D.lit).map C.d:=by simp[eS]
  rw[e];exact done (.fl q) (q.map D.lit) ⟨hp,e.symm⟩
 |ni=>intro w l cs hf hv hk ha;obtain⟨rfl,rfl⟩:=af (aa hf);obtain rfl:=hv;exact done .ni [] rfl
 |pt t v=>intro w l cs hf hv hk ha;obtain⟨rfl,rfl⟩:=af (aa hf);obtain⟨hd,rfl⟩:=hv;exact done (.pt t v) [_] ⟨hd,rfl⟩
 |fn z f q ih=>intro w l cs hf hv hk ha;cases z with|true=>obtain⟨rfl,rfl⟩:=af (aa hf);obtain⟨ds,hd,rfl⟩:=hv;exact done (.fn true f q) [_] ⟨ds,hd,rfl⟩|false=>simp[jI]at hf
 |_=>intro w l cs hf hv hk ha;simp[jI]at hf
theorem ze:∀(ds:List D)(k:Nat),ds.length<k->gf h1 k (ds.map .d)=some (ds,[]):=by
 intro ds;induction ds with
 |nil=>intro k hk;cases k<;>rfl
 |cons d ds ih=>intro k hk;cases k with|zero=>simp at hk|succ k=>grind [gf,qD]
theorem ye{H:bp}{h0:H2}{k:Nat}(hr:HR k H h0)(all:List Nat){id:Nat}{o':O}(hf:Dz h0 id=some o'):
  ∃o,fO h0 id=some o/\tC o o'/\(∀m g,D1 m g o')/\((nk h0 id/\∀g b,xx g o' b)\/(¬nk h0 id/\∃b,jU H all id=some b/\∀g,xx g o' (some b))):=by
 unfold Dz at hf;split at hf
 .rename_i t s v ho;obtain rfl:=aa hf;refine⟨_,ho,⟨am _,rfl,rfl,rfl,fun _=>rfl⟩,fun _ _=>trivial,?_⟩;obtain⟨h1,h2,h3⟩:=(hr.ob id _ ho).2.1;cases s with|nil=>exact .inl ⟨.inl ⟨t,v,.inl ho⟩,fun g b=>⟨h1,h2,fun l e=>by cases e⟩⟩|mk l=>refine .inr ⟨Ao (.inl ho),.qu _ _,?_,fun g=>⟨h1,h2,fun l' e=>by cases e;rfl⟩⟩;simp only[jU,h3 l rfl]
 .rename_i t s v ho;obtain rfl:=aa hf;refine⟨_,ho,⟨rfl,rfl⟩,fun _ _=>trivial,?_⟩;obtain⟨h1,h2,h3⟩:=(hr.ob id _ ho).2.1;cases s with|nil=>exact .inl ⟨.inl ⟨t,v,.inr ho⟩,fun g b=>⟨h1,h2,fun l e=>by cases e⟩⟩|mk l=>refine .inr ⟨Ao (.inr ho),.qu _ _,?_,fun g=>⟨h1,h2,fun l' e=>by cases e;rfl⟩⟩;simp only[jU,h3 l rfl]
 .rename_i t v ho;obtain rfl:=aa hf;obtain⟨h1,h2⟩:=(hr.ob id _ ho).2.1;refine⟨_,ho,rfl,fun _ _=>trivial,.inr ⟨?_,.o7 _,?_,fun g=>⟨h1,rfl⟩⟩⟩
  .rintro (⟨u,v',e|e⟩|⟨u,v',e⟩)<;>rw[ho]at e<;>simp at e
  .simp [jU,h2]
 .rename_i t c ho;cases hd:(kx t&&Nat.blt _ 300)with
  |false=>rw[hd]at hf;simp at hf
  |true=>
   rw[hd]at hf;simp at hd;split at hf
   .split at hf
    .rename_i y hy;obtain rfl:=aa hf;obtain⟨cs,h1,h2,h3⟩:=(hr.ob id _ ho).2.1;have e:=iW c false t y cs hy h2;refine⟨_,ho,trivial,fun _ _=>trivial,.inr ⟨?_,.o7 _,?_,fun g=>⟨hd.1,rfl⟩⟩⟩
     .rintro (⟨u,v',e|e⟩|⟨u,v',e⟩)<;>rw[ho]at e<;>simp at e
     simp_all[bH,jU,ze]
    .simp at hf
   .simp at hf
 .simp at hf
def HS(h:H2)(id:Nat):Option O:=match fO h id with|some (.rw _ _ none)=>none|_=>Dz h id
theorem yJ{h0:H2}{s0:S2}(hs0:s0.heap=h0):∀(av:List Nat)(s':S2),rz h0 av s0=some s'->
  s'.cW=s0.cW/\s'.gh=s0.gh/\s'.next=s0.next/\s'.wo=av++s0.wo/\(∀i∈av,(∃o,Dz h0 i=some o)\/∃t s,fO h0 i=some (.rw t s none))/\∀i,fO s'.heap i=if i∈av then HS h0 i else fO h0 i:=by
 intro av;induction av with
 |nil=>intro s' hf;obtain rfl:=aa hf;simp_all
 |cons id r ih=>
  intro s' hf;simp only[rz]at hf
  have qU:∀(oo:Option O)(s1:S2),rz h0 r s0=some s1->s'=dT s1 id oo->((∃o,Dz h0 id=some o)\/∃t s,fO h0 id=some (.rw t s none))->HS h0 id=oo->s'.cW=s0.cW/\s'.gh=s0.gh/\s'.next=s0.next/\s'.wo=(id::r)++s0.wo/\(∀i∈id::r,(∃o,Dz h0 i=some o)\/∃t s,fO h0 i=some (.rw t s none))/\∀i,fO s'.heap i=if i∈id::r then HS h0 i else fO h0 i:=by
   intro oo s1 h1 e hex hoo;subst e;obtain⟨a1,a2,a3,a4,a5,a6⟩:=ih s1 h1;refine⟨a1,a2,a3,by simp[dT,a4],fun i hi=>?_,fun i=>?_⟩
   .grind
   .simp only[dT,cK,a6]
    grind
  split at hf
  .split at hf
   .grind [aa,HS]
   .cases hf
  .split at hf
   .rename_i o s1 ho h1;refine qU (some o) s1 h1 (aa hf).symm (.inl ⟨o,ho⟩) ?_;unfold HS;simp_all
   .cases hf
theorem K7{H:bp}{all:List Nat}:∀(l:List Nat),(∀i∈l,∃b,jU H all i=some b)->∃u,c8 H all l=some u/\∀p∈u,p.1∈l:=by
 intro l;induction l with
 |nil=>intro _;exact⟨[],rfl,fun p hp=>by simp at hp⟩
 |cons a l ih=>
  intro h;obtain⟨b,hb⟩:=h a (by simp);obtain⟨u,hu,hp⟩:=ih fun i hi=>h i (by simp[hi]);refine⟨(a,some b)::u,by simp[c8,hb,hu],fun p hp'=>?_⟩
  grind
theorem Dy{h0:H2}{s0:S2}(hs0:s0.heap=h0){H:bp}(hr:HR s0.next H h0)(av:List Nat)(s':S2)(ids1 all:List Nat)(hf:rz h0 av s0=some s')(hi1:∀i∈ids1,i∈av/\¬nk h0 i)(hi2:∀i∈av,i∈ids1\/nk h0 i):
  ∃fu,c8 H all ids1=some fu/\HR s0.next (fu++H) s'.heap/\jy s0.next h0 s'.heap/\s'.cW=s0.cW/\s'.gh=s0.gh/\s'.next=s0.next/\
   s'.wo=av++s0.wo/\(∀p∈fu,p.1∈av)/\∀id,id∉av->fO s'.heap id=fO s0.heap id:=by
 obtain⟨a1,a2,a3,a4,a5,a6⟩:=yJ hs0 av s' hf
 have hF:∀i o',HS h0 i=some o'->Dz h0 i=some o':=fun i o' h=>by
  grind [HS]
 obtain⟨fu,hfu,hp⟩:=K7 (H:=H) (all:=all) ids1 fun i hi=>by
  rcases a5 i (hi1 i hi).1 with⟨o,ho⟩|⟨t,s,ho⟩
  .obtain ⟨_,_,_,_,h⟩:=ye hr all ho
   grind
  .cases s with
   |nil=>exact absurd (.inr ⟨t,none,ho⟩) (hi1 i hi).2
   |mk l=>
    have hb:=(hr.ob i _ ho).2.1.2.2 l rfl
    grind [rl,bU,fc,aR,BV,jU]
 have dR:jy s0.next h0 s'.heap:=⟨fun i o' hi ho=>by
  rw[a6]at ho;split at ho
  .obtain ⟨o,h1,h2,_⟩:=ye hr all (hF i o' ho);exact .inl ⟨o,h1,h2⟩
  .exact .inl ⟨o',ho,tC.refl _⟩⟩
 refine⟨fu,hfu,⟨fun i o' ho=>?_⟩,dR,a1,a2,a3,a4,fun p hp'=>(hi1 _ (hp p hp')).1,fun i hi=>by rw[a6,if_neg hi,hs0]⟩;rw[a6]at ho;split at ho
 .rename_i hi;obtain⟨o,h1,_,h3,h4⟩:=ye hr all (hF i o' ho);refine⟨(hr.ob i o h1).1,?_,h3 _ _⟩;rcases h4 with h4|⟨h5,b,hb,hR⟩
  .exact h4.2 _ _
  .have hm:i∈ids1:=(hi2 i hi).resolve_right h5;obtain⟨b',hb',hl⟩:=(ku ids1 fu hfu i).1 hm
   grind [au,gN]
 .obtain ⟨h1,h2,h3⟩:=hr.ob i o' ho;refine⟨h1,?_,oY (am _) dR h3⟩
  grind [au,gN,ku,qg]
theorem HQ{h0:H2}{s0:S2}{av:List Nat}{s':S2}(hs0:s0.heap=h0)(hf:rz h0 av s0=some s'):∀i∈av,fO h0 i≠none:=by
 obtain⟨_,_,_,_,a5,_⟩:=yJ hs0 av s' hf
 grind [Dz]
end
section
variable{h:H2}{n:Nat}{h1:bp}{β:Type}
theorem aJ{α:Type}{c:Bool}{a:Option α}{r:α}(h:(bif c then a else none)=some r):c=true/\a=some r:=by
 grind
theorem xY{u:eW}{i:Nat}(hu:∀p∈u,p.1≠i):au (u++h1) i=au h1 i:=by induction u with|nil=>rfl|cons p u ih=>rw[bI,dg,if_neg (hu _ (List.mem_cons_self ..)),ih fun p hp=>hu p (aI _ hp)]
theorem sd.GA{s s':S2}{x:TV}{u:eW}{av l:List Nat}{m:Nat}{v:V}(W:List Nat)(hr:HR s.next h1 s.heap)(dR:jy s.next s.heap s'.heap)(he:s'.cW=s.cW)(hg:s'.gh=s.gh)(hm:m<=s'.next)(hle:s.next<=s'.next)(hl:∀i∈av,i∈l)
  (hwo:s'.wo=W++s.wo) (hu:∀p∈u,p.1∈W) (hW:∀id,id∉W->fO s'.heap id=fO s.heap id) (hob:∀i∈W,∀o,fO s'.heap i=some o->i<s'.next/\xx s'.heap o (au (u++h1) i)/\D1 s'.next s'.heap o)
  (hx:fC s'.heap v x) (hk:eV s'.next s'.heap v) (hnb:∀i,i<s.next->fO s.heap i=none->fO s'.heap i=none):sd s s' h1 x u av m v l:=by
 refine⟨hx,hk,⟨fun i o ho=>?_⟩,dR,he,hg,hm,hle,hl,hnb,W,hwo,hu,hW⟩;by_cases hi:i∈W
 .exact hob i hi o ho
 .rw [hW i hi]at ho;obtain⟨a,b,c⟩:=hr.ob i o ho
  grind [oY,xY,qg]
def zb(h1:bp)(kk:K)(xs:List TV)(s:S2)(k:V->S2->List Nat->Option β)(z:β):Prop:=∃v s' l,k v s' l=some z/\∀c:Call,∃x u av m,ci c kk (xs.map some) h1 s.next=some (x,u,av,m)/\sd s s' h1 x u av m v l
variable{s:S2}{k:V->S2->List Nat->Option β}{z:β}
theorem zb.pure{kk:K}{xs:List TV}{v:V}{x:TV}(hr:HR s.next h1 s.heap)(hz:k v s []=some z)(he:∀c:Call,ci c kk (xs.map some) h1 s.next=some (x,[],[],s.next))(hx:fC s.heap v x)(hk:eV s.next s.heap v):zb h1 kk xs s k z:=⟨v,s,[],hz,fun c=>⟨x,[],[],s.next,he c,sd.pure hr hx hk fun i hi=>by simp at hi⟩⟩
theorem qX{t:Ty}(h:DZ t=true):kx t=true/\0<bU t:=by simpa[DZ]using h
theorem zb.new{kk:K}{xs:List TV}{v:V}{x:TV}{o:O}{b:Option Ob}{l av:List Nat}(hr:HR s.next h1 s.heap)(hz:k v (jp s o) l=some z)(he:∀c:Call,ci c kk (xs.map some) h1 s.next=some (x,[(s.next,b)],av,s.next+1))
  (hb:xx ((s.next,some o)::s.heap) o b) (hko:D1 (s.next+1) ((s.next,some o)::s.heap) o) (hx:fC ((s.next,some o)::s.heap) v x) (hk:eV (s.next+1) ((s.next,some o)::s.heap) v) (hl:∀i∈av,i∈l):zb h1 kk xs s k z:=
 ⟨v,_,l,hz,fun c=>⟨x,_,av,_,he c,sd.new hr (.inl rfl) (fun _=>hb) hko hx hk hl (am _)⟩⟩
theorem zb.CN{kk:K}{xs:List TV}{v:V}{x:TV}{id:Nat}{o o':O}{b:Option Ob}{l av:List Nat}(hr:HR s.next h1 s.heap)(ho:fO s.heap id=some o)(hs:tC o o')(hz:k v (dT s id (some o')) l=some z)(he:∀c:Call,ci c kk (xs.map some) h1 s.next=some (x,[(id,b)],av,s.next))
  (hb:xx ((id,some o')::s.heap) o' b) (hko:D1 s.next ((id,some o')::s.heap) o') (hx:fC ((id,some o')::s.heap) v x) (hk:eV s.next ((id,some o')::s.heap) v) (hl:∀i∈av,i∈l):zb h1 kk xs s k z:=
 ⟨v,_,l,hz,fun c=>⟨x,_,av,_,he c,sd.CN hr ho hs hb hko hx hk hl⟩⟩
theorem uT(id:Nat)(o:Option O)(h:H2):fO ((id,o)::h) id=o:=by rw[cK,if_pos rfl]
theorem xU{t:Ty}{s:Sl (El t)}{v nx:Nat}:fC ((nx,some (.ar t s v))::h) (.so nx) (.c (nA (bU t) (aR t) nx s)):=bW (dv rfl ⟨_,rfl,fun c' hc'=>by rw[uT]at hc';exact aa hc',CX⟩)
theorem DK{x:V}{y:TV}{sz:Nat}{lo hi:Option Int}{m:Int}{q:V->Option β}(hr:HR n h1 h)(hx:fC h x y)(hk:eV n h x)(ha:iw h x=true)(hm:HI h x=some m)(hz:vi sz h x (lo.getD 0) (hi.getD m) q=some z):
  ∃v c c',y=.c c/\q v=some z/\fI false sz c lo hi=some c'/\fC h v (.c c')/\eV n h v:=by
 have iI:∀(id:Nat)(t:Ty)(w:Sl (El t))(ver:Nat),x=.so id->(fO h id=some (.ar t w ver)\/fO h id=some (.im t w ver))->(bif bU t==sz then(nR w.l (lo.getD 0) (hi.getD m)).bind fun y=>q (.sb id ver (lo.getD 0).toNat t (w.to y))else none)=some z->
   ∃v c c',y=.c c/\q v=some z/\fI false sz c lo hi=some c'/\fC h v (.c c')/\eV n h v:=by
  rintro id t w ver rfl ho hz;obtain⟨h2,hz2⟩:=aJ hz;obtain rfl:bU t=sz:=by simpa using h2
  obtain⟨r,hr',hz3⟩:=pT hz2;have e:=tO hx (mV ho);have hm':m=w.l.length:=by simp only[HI,wg]at hm;rcases ho with ho|ho<;>(simp_all)
  subst hm';refine⟨_,_,zo id (lo.getD 0).toNat t (w.to r),e,hz3,?_,?_,hk,?_⟩
  .cases w with|nil=>exact Oi hr'|mk l=>exact Vk (enc:=aR t) hr'
  .exact bW (dv rfl ⟨_,rfl,fun _=>rfl,Mm⟩)
  .intro u s' v' ho'
   have e2:O6 u s'=O6 t w/\v'=ver:=by
    all_goals
     grind
   obtain⟨e2,rfl⟩:=e2;obtain⟨rfl,e2⟩:=Sigma.mk.inj e2;cases e2;refine⟨am _,fun _=>⟨rfl,?_⟩⟩;cases s' with|nil=>trivial|mk l=>obtain⟨h3,h4⟩:=Tz (enc:=aR u) hr';simp only[aD]at h3;refine⟨h3,?_⟩;simpa using h4
 cases x with
 |x t v=>
  cases t with
  |sl t=>
   simp only[vi]at hz;obtain⟨h2,hz2⟩:=aJ hz;obtain rfl:bU t=sz:=by simpa using h2
   obtain⟨r,hr',hz3⟩:=pT hz2;have hm':m=v.l.length:=by simpa[HI,wg]using hm.symm
   subst hm';refine⟨_,_,_,zH hx,hz3,Tw hr',bW (dv rfl ⟨?_,rfl⟩),trivial⟩;obtain⟨_,⟨hd,_⟩,_⟩:=pq (v:=.x (.sl t) v) trivial hx;exact hd
  |_=>simp[vi]at hz
 |so id=>
  simp only[vi]at hz
  grind
 |sb id ver off t v=>
  simp only[vi]at hz;obtain⟨h2,hz2⟩:=aJ hz;obtain rfl:bU t=sz:=by simpa using h2
  obtain⟨r,hr',hz3⟩:=pT hz2;have hm':m=v.l.length:=by simpa[HI,wg]using hm.symm
  subst hm';refine⟨_,_,zo id (off+(lo.getD 0).toNat) t (v.to r),rj hx ha,hz3,?_,bW (dv rfl ⟨_,rfl,fun _=>rfl,Mm⟩),hk.1,?_⟩
  .cases v with
   |nil=>exact Oi hr'
   |mk l=>
    obtain⟨h3,rfl⟩:=pY.1 hr';simp only[Sl.l]at h3;simp only[zo,fI,Bool.false_eq_true,if_false,Sl.to,Sl.l,aD]
    grind
  .intro u s' v' ho;obtain⟨h3,h4⟩:=hk.2 u s' v' ho;refine⟨h3,fun e=>?_⟩;obtain⟨h5,h6⟩:=h4 e;refine⟨h5,?_⟩;cases s' with
   |nil=>cases v<;>first|trivial|exact h6.elim
   |mk l=>
    cases v with
    |nil=>exact h6.elim
    |mk w=>
     obtain⟨h9,rfl⟩:=pY.1 hr';simp only[Sl.l]at h9;show off+(lo.getD 0).toNat+((w.drop (lo.getD 0).toNat).take _).length<=l.length/\((l.map (aR u)).drop (off+(lo.getD 0).toNat)).take ((w.drop (lo.getD 0).toNat).take _).length=((w.drop (lo.getD 0).toNat).take _).map (aR t)
     grind [Sl.l,iM,gV,List.drop_take,eJ]
 |nl k=>
  cases k with
  |zero=>
   simp only[vi]at hz;obtain⟨r,hr',hz3⟩:=pT hz;have hm':m=0:=by simpa[HI]using hm.symm
   subst hm';exact⟨_,_,_,xD hx,hz3,Oi (α:=Unit) (by simpa[Sl.l]using hr'),bW (dv rfl rfl),trivial⟩
  |succ k=>simp[vi]at hz
 |_=>simp[vi]at hz
theorem Jh:∀(p:qB)(t a:Ty)(l m:Nat),se t p=some (.ar l a)->m<l->KF t p->KF t (p++[.ix m])/\oD t (p++[.ix m])=oD t p+m*bU a:=by
 intro p;induction p with
 |nil=>
  intro t a l m h1 hm _;have e:se t []=some t:=by cases t<;>rfl
  obtain rfl:t=.ar l a:=by exact aa h1
  refine⟨⟨hm,by cases a<;>trivial⟩,?_⟩;cases a<;>simp[oD]
 |cons q p ih=>
  intro t a l m h1 hm h3;cases q with
  |fd j=>
   cases t with
   |st t=>
    obtain⟨b2,hb,h3⟩:=h3;simp only[se,hb]at h1;obtain⟨q1,q2⟩:=ih b2 a l m h1 hm h3;refine⟨⟨b2,hb,q1⟩,?_⟩
    grind [oD,di]
   |_=>exact h3.elim
  |ix k=>
   cases t with
   |ar l' t=>
    obtain⟨hk,h3⟩:=h3;obtain⟨q1,q2⟩:=ih t a l m h1 hm h3;refine⟨⟨hk,q1⟩,?_⟩
    grind [oD,di]
   |_=>exact h3.elim
theorem Yr{id:Nat}{t u:Ty}{w:Sl (El t)}{w':Sl (El u)}{v v':Nat}(ho:fO h id=some (.ar t w v)\/fO h id=some (.im t w v))(ho':fO h id=some (.ar u w' v')\/fO h id=some (.im u w' v')):O6 u w'=O6 t w/\v'=v:=by
 all_goals
  grind
theorem M0{id:Nat}{t u:Ty}{w:Sl (El t)}{w':Sl (El u)}{v v':Nat}(ho:fO h id=some (.ar t w v)\/fO h id=some (.im t w v))(ho':fO h id=some (.ar u w' v')\/fO h id=some (.im u w' v')):w'.l.length=w.l.length:=by
 grind
theorem Rp{c:C}{t:Ty}{id m sz:Nat}{w:Sl (El t)}{i:Int}{kd:IntKind}{cl:Call}{nx:Nat}(hc:c=nA (bU t) (aR t) id w)(hsz:bU t=sz)(hi:cC i w.l.length=some m):
  ci cl (.indexAddr none sz) [some (.c c),some (tI kd i)] h1 nx=some (.c (.ep id m 0),[],[],nx):=by
 subst hc hsz;cases w with|nil=>exact NB hi|mk l=>exact Yx hi
theorem Vi{t:Ty}{v:El t}{x:TV}(hx:fC h (.x t v) x):kx t=true:=by obtain⟨_,⟨hd,_⟩,_⟩:=pq (v:=.x t v) trivial hx;exact hd
theorem YP{n':Nat}{t:Ty}{v:El (.ar n' t)}{x:TV}(hx:fC h (.x (.ar n' t) v) x):x=.agg ((aR (.ar n' t) v).map .d):=by obtain⟨cs,⟨_,rfl⟩,h2,_⟩:=pq (v:=.x _ v) trivial hx;exact h2 rfl
theorem Gn{n' m:Nat}{t:Ty}(v:El (.ar n' t))(hm:m<n'):m*bU t+bU t<=(aR (.ar n' t) v).length/\((aR (.ar n' t) v).drop (m*bU t)).take (bU t)=aR t (gt v.1 m):=by
 have hl:=v.2;refine⟨?_,AH (bH t) v.1 m (by omega)⟩;rw[bH];show _<=n'*bU t;have:(m+1)*bU t<=n'*bU t:=Nat.mul_le_mul_right _ hm
 grind
theorem ND{x:V}{y:TV}{sz:Nat}{i:Int}{kd:IntKind}
  (hz:(match x with
  |.x (.sl t) v=>bif bU t==sz then(cC i v.l.length).bind fun m=>k (.pt t (gt v.l m)) s []else none
  |.so id=>(match wg s.heap (.so id)with|some ⟨t,v,_⟩=>bif bU t==sz then(cC i v.l.length).bind fun m=>k (.ep id m t []) s []else none|none=>none)
  |.sb id _ lo t v=>bif bU t==sz then(cC i v.l.length).bind fun m=>k (.ep id (lo+m) t []) s []else none
  |.sr id=>(match fO s.heap id with|some (.rw t v _)=>bif 1==sz then(cC i v.l.length).bind fun m=>k (.ep id m (.sl t) []) s []else none|_=>none)
  |_=>none)=some z)
  (hr:HR s.next h1 s.heap) (hx:fC s.heap x y) (hk:eV s.next s.heap x) (ha:iw s.heap x=true):zb h1 (.indexAddr none sz) [y,tI kd i] s k z:=by
 cases x with
 |x t v=>
  cases t with
  |sl t=>
   obtain⟨h2,hz2⟩:=aJ hz;obtain⟨m,hm,hz3⟩:=pT hz2;obtain rfl:bU t=sz:=by simpa using h2
   rw[zH hx];exact .pure hr hz3 (fun _=>US hm) (bW (dv rfl ⟨Vi (t:=.sl t) hx,rfl⟩)) trivial
  |_=>simp at hz
 |so id=>
  simp only at hz;split at hz
  .rename_i t v l hs;obtain⟨h2,hz2⟩:=aJ hz;obtain⟨m,hm,hz3⟩:=pT hz2;obtain⟨ver,ho,_⟩:=vK hs;simp only at ho;rw[tO hx (mV ho)];refine .pure hr hz3 (fun _=>Rp rfl (by simpa using h2) hm) (bW (dv rfl (by cases t<;>rfl))) ⟨hk,by cases t<;>trivial,fun u w' v' ho'=>?_,fun u w' v' ho'=>?_⟩
   .grind [dO,M0]
   simp_all
  .simp at hz
 |sr id=>
  simp only at hz;split at hz
  .rename_i t v ln ho;obtain⟨h2,hz2⟩:=aJ hz;obtain⟨m,hm,hz3⟩:=pT hz2;rw[L1 hx (tT ho)];refine .pure hr hz3 (fun _=>Rp (t:=.sl t) rfl (Eq.trans (rfl:bU (.sl t)=1) (beq_iff_eq.1 h2)) hm) (bW (dv rfl rfl)) ⟨hk,trivial,fun u w' v' ho'=>?_,fun u w' v' ho'=>?_⟩
   .rw [ho]at ho';rcases ho' with ho'|ho'<;>cases ho'
   grind [dO]
  .simp at hz
 |sb id ver lo t v=>
  simp only at hz;obtain⟨h2,hz2⟩:=aJ hz;obtain⟨m,hm,hz3⟩:=pT hz2;obtain rfl:bU t=sz:=by simpa using h2
  rw[rj hx ha];have hm2:=(dO.1 hm).2;cases v with
  |nil=>exact NB hm
  |mk w=>
   refine .pure hr hz3 (fun _=>UT (l:=w) hm) (bW (dv rfl (by cases t<;>rfl))) ⟨hk.1,by cases t<;>trivial,fun u w' v' ho'=>?_,fun u w' v' ho'=>by obtain⟨u0,s0,ho⟩:=lY (h:=s.heap) (id:=id) (ver:=ver) (cf.1 ha).2;rcases ho with ho|ho<;>rw[ho]at ho'<;>cases ho'⟩;obtain⟨u0,s0,ho⟩:=lY (h:=s.heap) (id:=id) (ver:=ver) (cf.1 ha).2;obtain⟨_,h4⟩:=hk.2 u0 s0 ver ho;obtain⟨_,h6⟩:=h4 rfl
   grind [M0,Sl.l]
 |_=>simp at hz
theorem NC{x:V}{y:TV}{n0 sz:Nat}{i:Int}{kd:IntKind}
  (hz:(match x with
  |.op id t p=>(match se t p with|some (.ar n' u)=>bif(n'==n0)&&(bU u==sz)then(cC i n0).bind fun m=>k (.op id t (p++[.ix m])) s []else none|_=>none)
  |.ep id q t p=>(match se t p with|some (.ar n' u)=>bif(n'==n0)&&(bU u==sz)then(cC i n0).bind fun m=>k (.ep id q t (p++[.ix m])) s []else none|_=>none)
  |.pt (.ar n' u) v=>bif(n'==n0)&&(bU u==sz)then(cC i n0).bind fun m=>k (.pt u (gt v.1 m)) s []else none
  |_=>none)=some z)
  (hr:HR s.next h1 s.heap) (hx:fC s.heap x y) (hk:eV s.next s.heap x):zb h1 (.indexAddr (some n0) sz) [y,tI kd i] s k z:=by
 cases x with
 |op id t p=>
  simp only at hz;split at hz
  .rename_i n' u hu;obtain⟨h2,hz2⟩:=aJ hz;obtain⟨m,hm,hz3⟩:=pT hz2;simp only[ak,beq_iff_eq]at h2;obtain⟨rfl,rfl⟩:=h2;obtain⟨rfl,hm2⟩:=dO.1 hm;obtain⟨q1,q2⟩:=Jh p t u n' m hu hm2 hk.2;rw[xC hx];refine .pure hr hz3 (x:=.c (.op id (oD t p+m*bU u))) (fun _=>?_) (bW (dv rfl ?_)) ⟨hk.1,q1⟩
   .simp_all [mH,ci,ce,iJ,if_pos]
   .show [_]=[_];rw[q2]
  .simp at hz
 |ep id q t p=>
  simp only at hz;split at hz
  .rename_i n' u hu;obtain⟨h2,hz2⟩:=aJ hz;obtain⟨m,hm,hz3⟩:=pT hz2;simp only[ak,beq_iff_eq]at h2;obtain⟨rfl,rfl⟩:=h2;obtain⟨rfl,hm2⟩:=dO.1 hm;obtain⟨q1,q2⟩:=Jh p t u n' m hu hm2 hk.2.1;rw[tP hx];refine .pure hr hz3 (x:=.c (.ep id q (oD t p+m*bU u))) (fun _=>?_) (bW (dv rfl ?_)) ⟨hk.1,q1,hk.2.2⟩
   .simp_all [mH,ci,ce,iJ,if_pos]
   .show [_]=[_];rw[q2]
  .simp at hz
 |pt t v=>cases t with|ar n' u=>obtain⟨h2,hz2⟩:=aJ hz;obtain⟨m,hm,hz3⟩:=pT hz2;simp only[ak,beq_iff_eq]at h2;obtain⟨rfl,rfl⟩:=h2;obtain⟨rfl,hm2⟩:=dO.1 hm;obtain⟨hd,rfl⟩:=zI hx;obtain⟨a1,a2⟩:=Gn v hm2;refine .pure hr hz3 (fun _=>?_) (bW (dv rfl ⟨hd,rfl⟩)) trivial;simp only[mH,ci,ce,iJ];rw[if_pos ⟨by omega,by omega⟩];simp only[Int.toNat_natCast];rw[if_pos a1,a2]|_=>simp at hz
 |_=>simp at hz
end
section
variable{h:H2}{n:Nat}{h1:bp}{β:Type}{s:S2}{k:V->S2->List Nat->Option β}{z:β}
theorem DN{t u:Ty}{m:Sl (El t)}{m':Sl (El u)}(hc:gg (.sl t) (.sl u) m=some m'):t=u/\m'.l.map (aR u)=m.l.map (aR t):=by obtain⟨e,rfl⟩:=cH hc;cases e;exact⟨rfl,rfl⟩
theorem Sj{c:C}{t:Ty}{id sz:Nat}{w:Sl (El t)}{ver:Nat}(hr:HR n h1 h)(hc:c=nA (bU t) (aR t) id w)(hsz:bU t=sz)(ho:fO h id=some (.ar t w ver)\/fO h id=some (.im t w ver)):
  ∃av,jh sz h1 c=some (w.l.map (aR t),av)/\∀i∈av,i=id:=by
 subst hc hsz;cases w with
 |nil=>exact⟨[],rfl,fun i hi=>by simp at hi⟩
 |mk l=>
  refine⟨[id],?_,fun i hi=>by simpa using hi⟩;rcases ho with ho|ho
  .have hb:=(hr.ob id _ ho).2.1.2.2 l rfl;simp only[nA,jh,hb];rw[if_pos ⟨trivial,by simp⟩,uV];rfl
  .have hb:=(hr.ob id _ ho).2.1.2.2 l rfl;simp only[nA,jh,hb];rw[if_pos ⟨trivial,by simp⟩,uV];rfl
theorem PE{id lo ver sz:Nat}{t:Ty}{r:Sl (El t)}(hr:HR n h1 h)(hk:eV n h (.sb id ver lo t r))(ha:iw h (.sb id ver lo t r)=true)(hsz:bU t=sz):
  ∃av,jh sz h1 (zo id lo t r)=some (r.l.map (aR t),av)/\∀i∈av,i=id:=by
 obtain⟨u,s0,ho⟩:=lY (cf.1 ha).2;obtain⟨_,h4⟩:=hk.2 u s0 ver ho;obtain⟨h5,h6⟩:=h4 rfl;cases r with
 |nil=>exact⟨[],rfl,fun i hi=>by simp at hi⟩
 |mk w=>
  cases s0 with
  |nil=>exact h6.elim
  |mk l=>
   have hb:au h1 id=some (.aG (bU u) (l.map (aR u)))\/au h1 id=some (.qu (bU u) (l.map (aR u))):=by
    rcases ho with ho|ho
    .exact .inl ((hr.ob id _ ho).2.1.2.2 l rfl)
    .exact .inr ((hr.ob id _ ho).2.1.2.2 l rfl)
   rcases hb with hb|hb
   .simp [zo,jh];simp_all
   .simp [zo,jh];simp_all
theorem IQ{x:V}{y:TV}{t0 t:Ty}{m:Sl (El t)}{l:List Nat}{sz:Nat}(hr:HR n h1 h)(hx:fC h x y)(hk:eV n h x)(ha:iw h x=true)(hs:Rc t0 h x=some ⟨t,m,l⟩)(hsz:bU t=sz):
  ∃c av,y=.c c/\jh sz h1 c=some (m.l.map (aR t),av)/\∀i∈av,i∈l:=by
 cases x with
 |nl j=>cases j with|zero=>obtain⟨rfl,e⟩:=Sigma.mk.inj (aa hs);obtain⟨rfl,rfl⟩:=af (eq_of_heq e);exact⟨_,[],xD hx,rfl,fun i hi=>by simp at hi⟩|succ j=>simp[Rc,wg]at hs
 |x u v=>cases u with|sl u=>obtain⟨rfl,e⟩:=Sigma.mk.inj (aa hs);obtain⟨rfl,rfl⟩:=af (eq_of_heq e);subst hsz;exact⟨_,[],zH hx,PD,fun i hi=>by simp at hi⟩|_=>simp[Rc,wg]at hs
 |so id=>
  obtain⟨ver,ho,e⟩:=vK hs;obtain⟨av,q1,q2⟩:=Sj hr rfl hsz ho
  grind [tO,mV]
 |sb id ver lo u r=>
  obtain⟨rfl,e⟩:=Sigma.mk.inj (aa hs);obtain⟨av,q1,q2⟩:=PE hr hk ha hsz
  grind [rj]
 |_=>simp[Rc,wg]at hs
def vr(s:S2):Option Nat->S2
 |none=>s
 |some id=>dT s id none
theorem DQ{mC:Option Nat}{t:Ty}{w:Sl (El t)}{u:eW}{av l:List Nat}{m:Nat}(hr:HR s.next h1 s.heap)(hkl:∀id,mC=some id->id<s.next)(hd:DZ t=true)(hu:∀p∈u,p.1=s.next\/mC=some p.1)(hl:∀i∈av,i∈l)(hm:m<=s.next+1)
  (hb:∀l,w=.mk l->au (u++h1) s.next=some (.aG (bU t) (l.map (aR t)))) {x:TV} (hx:x=.c (nA (bU t) (aR t) s.next w)):sd s (jp (vr s mC) (.ar t w 0)) h1 x u av m (.so s.next) l:=by
 have hnx:(vr s mC).next=s.next:=by cases mC<;>rfl
 have hh:(jp (vr s mC) (.ar t w 0)).heap=(s.next,some (.ar t w 0))::(vr s mC).heap:=by simp only[jp,hnx]
 have hfo:∀i,fO (jp (vr s mC) (.ar t w 0)).heap i=if s.next=i then some (.ar t w 0)else if mC=some i then none else fO s.heap i:=by intro i;rw[hh,cK];cases mC with|none=>simp[vr]|some id=>simp only[vr,dT,cK,eY]
 have hnn:(jp (vr s mC) (.ar t w 0)).next=s.next+1:=by simp[jp,hnx]
 refine sd.GA (s.next::mC.toList) hr ⟨fun i o' hi ho=>?_⟩ ?_ ?_ ?_ ?_ hl ?_ ?_ ?_ ?_ ?_ ?_ (fun i hi h=>by rw[hfo,if_neg (by omega)];split<;>first|rfl|exact h)
 .grind [tC.refl]
 .cases mC<;>rfl
 .cases mC<;>rfl
 .rw [hnn];exact hm
 .omega
 .cases mC<;>simp[jp,vr,dT]
 .grind
 .intro i hi;rw[hfo,if_neg (fun e=>hi (by simp[e])),if_neg (fun e=>hi (by simp[e]))]
 .intro i hi o ho;rw[hfo]at ho;split at ho
  .rename_i e;subst e;obtain rfl:=aa ho;obtain⟨h3,h4⟩:=qX hd;exact⟨by omega,⟨h3,h4,hb⟩,trivial⟩
  simp_all
 .rw [hx,hh,show s.next=s.next from rfl];exact xU
 .rw [hnn];exact aQ _
theorem Ld{sz:Nat}{c:C}{new:List (List D)}{av:List Nat}(hx:jh sz h1 c=some (new,av))(hl:new.length<=2147483648){nx:Nat}{cl:Call}:
  ci cl (.append sz) [some (.c (.d (.lit (.slice none 0 0)))),some (.c c)] h1 nx=if new=[]then some (.c (.d (.lit (.slice none 0 0))),[],av,nx)else some (.c (.fx sz nx 0 new.length),[(nx,some (.aG sz new))],av,nx+1):=by
 simp[ci,o9,hx];rw[if_pos (by simpa)];cases new<;>simp
theorem xl{mC:Option Nat}{t:Ty}{xs r:List (El t)}{sz:Nat}{c:C}{av l:List Nat}(hr:HR s.next h1 s.heap)(hkl:∀id,mC=some id->id<s.next)(hd:DZ t=true)(hsz:bU t=sz)(hx:jh sz h1 c=some (xs.map (aR t),av))(hc:kc ([]++xs)=some r)
  (hl:∀i∈av,i∈l) (hz:k (.so s.next) (jp (vr s mC) (.ar t (Ba Sl.nil xs r) 0)) l=some z):zb h1 (.append sz) [.c (.d (.lit (.slice none 0 0))),.c c] s k z:=by
 subst hsz;obtain⟨rfl,hlen⟩:=iP.1 hc;refine⟨_,_,_,hz,fun cl=>?_⟩;simp only[aK,aZ];rw[Ld hx (by simpa using hlen)];cases xs with|nil=>exact⟨_,_,_,_,rfl,DQ hr hkl hd (fun p hp=>by simp at hp) hl (bn _) (fun l e=>by cases e) rfl⟩|cons y ys=>refine⟨_,_,_,_,if_neg (by simp),DQ hr hkl hd (fun p hp=>by simp at hp;simp[hp]) hl (am _) (fun l e=>?_) rfl⟩;simp at e;cases e;rw[a_,dg,if_pos rfl]
theorem JI{t:Ty}{w xs r:List (El t)}{sz id off:Nat}{rows:List (List D)}{c:C}{av l:List Nat}(hr:HR s.next h1 s.heap)(hid:id<s.next)(hd:DZ t=true)(hsz:bU t=sz)(hl1:au h1 id=some (.aG sz rows))(hle:off+w.length<=rows.length)(hro:rows.length<=off+(w.length+xs.length))(he:(rows.drop off).take w.length=w.map (aR t))
  (hx:jh sz h1 c=some (xs.map (aR t),av)) (hc:kc (w++xs)=some r) (hl:∀i∈id::av,i∈l) (hz:k (.so s.next) (jp (dT s id none) (.ar t (Ba (.mk w) xs r) 0)) l=some z):
  zb h1 (.append sz) [.c (.fx sz id off (w.map (aR t)).length),.c c] s k z:=by
 subst hsz;obtain⟨rfl,hlen⟩:=iP.1 hc;have ea:Ba (.mk w) xs (w++xs)=.mk (w++xs):=by cases xs<;>rfl
 rw[ea]at hz;refine⟨_,_,_,hz,fun cl=>⟨.c (.fx (bU t) s.next 0 ((w++xs).map (aR t)).length),[(id,none),(s.next,some (.aG (bU t) ((w++xs).map (aR t))))],id::av,s.next+1,?_,?_⟩⟩
 .simp only[aK,aZ,ci,o9,hx,hl1];simp only[aD,ap]at hlen|-;rw[if_pos ⟨trivial,by omega,by simpa⟩,he,<-fU,List.drop_eq_nil_of_le (by omega),List.append_nil]
 .refine DQ (mC:=some id) hr (fun i e=>by cases e;exact hid) hd (fun p hp=>?_) hl (am _) (fun l e=>?_) rfl
  .simp only[aW,ma,or_false]at hp;rcases hp with rfl|rfl<;>simp
  .cases e;rw[bI,dg,if_neg (by omega),a_,dg,if_pos rfl]
theorem Gq{a x:V}{ya yx:TV}{t0:Ty}{sz:Nat}
  (hz:(match Rc t0 s.heap x with
  |some ⟨t,m,av⟩=>bif(bU t==sz)&&DZ t then(match a with
   |.nl 0=>(kc ([]++m.l)).bind fun r=>k (.so s.next) (jp s (.ar t (Ba Sl.nil m.l r) 0)) av
   |.x (.sl _) v=>bif Sl.fA v then((kc ([]++m.l)).bind fun r=>k (.so s.next) (jp s (.ar t (Ba Sl.nil m.l r) 0)) av)else none
   |.so id=>(match fO s.heap id with
    |some (.ar u v _)=>(match gg (.sl t) (.sl u) m with
     |some m=>(kc (v.l++m.l)).bind fun r=>k (.so s.next) (jp (dT s id none) (.ar u (Ba v m.l r) 0)) (id::av)
     |none=>none)
    |_=>none)
   |.sb id _ lo u v=>(match fO s.heap id,gg (.sl t) (.sl u) m with
    |some (.ar _ s0 _),some m=>bif Nat.ble s0.l.length (lo+(v.l.length+m.l.length))then((kc (v.l++m.l)).bind fun r=>k (.so s.next) (jp (dT s id none) (.ar u (Ba v m.l r) 0)) (id::av))else none
    |_,_=>none)
   |_=>none)else none
  |none=>none)=some z)
  (hr:HR s.next h1 s.heap) (ha1:fC s.heap a ya) (ha2:eV s.next s.heap a) (ha3:iw s.heap a=true) (hx:fC s.heap x yx) (hk:eV s.next s.heap x) (ha:iw s.heap x=true):zb h1 (.append sz) [ya,yx] s k z:=by
 split at hz
 .rename_i t m l hs;obtain⟨h2,hz2⟩:=aJ hz;simp only[ak,beq_iff_eq]at h2;obtain⟨hsz,hd⟩:=h2;obtain⟨c,av,rfl,q1,q2⟩:=IQ hr hx hk ha hs hsz;clear hz;cases a with
  |nl j=>cases j with|zero=>obtain⟨r,hc,hz3⟩:=pT hz2;rw[xD ha1];exact xl (mC:=none) hr (fun _ e=>by cases e) hd hsz q1 hc q2 hz3|succ j=>simp at hz2
  |x u v=>
   cases u with
   |sl u=>obtain⟨hnil,hz3⟩:=aJ hz2;obtain⟨r,hc,hz4⟩:=pT hz3;cases v with|mk=>cases hnil|nil=>obtain⟨cc,rfl,hcc⟩:=iY ha1 rfl;obtain rfl:cc=Fd 0:=(cj hcc.2).1;exact xl (mC:=none) hr (fun _ e=>by cases e) hd hsz q1 hc q2 hz4
   |_=>simp at hz2
  |so id=>
   simp only at hz2;split at hz2
   .rename_i u v ver ho;split at hz2
    .rename_i m' hm;obtain⟨rfl,e⟩:=DN hm;obtain⟨r,hc,hz3⟩:=pT hz2;rw[tO ha1 (mV (.inl ho))];rw[<-e]at q1;cases v with
     |nil=>exact xl (mC:=some id) hr (fun _ e=>by cases e;exact ha2) hd hsz q1 hc (fun i hi=>aI _ (q2 i hi)) hz3
     |mk w=>
      have hb:=(hr.ob id _ ho).2.1.2.2 w rfl;subst hsz;refine JI (w:=w) hr ha2 hd rfl hb (by simp) (by simp only[aD];omega) (by rw[<-aD (f:=aR t)];exact uV) q1 hc (fun i hi=>?_) hz3
      grind
    .simp at hz2
   .simp at hz2
  |sb id ver lo u v=>
   simp only at hz2;split at hz2
   .rename_i u0 s0 v0 m' ho hm;obtain⟨rfl,e⟩:=DN hm;obtain⟨hgd,hz2b⟩:=aJ hz2;obtain⟨r,hc,hz3⟩:=pT hz2b;rw[rj ha1 ha3];rw[<-e]at q1;cases v with
    |nil=>exact xl (mC:=some id) hr (fun _ e=>by cases e;exact ha2.1) hd hsz q1 hc (fun i hi=>aI _ (q2 i hi)) hz3
    |mk w=>
     obtain⟨u1,s1,ho1⟩:=lY (id:=id) (ver:=ver) (cf.1 ha3).2;obtain⟨_,h4⟩:=ha2.2 u1 s1 ver ho1;obtain⟨h5,h6⟩:=h4 rfl;have ho2:fO s.heap id=some (.ar u1 s1 ver):=by simp_all
     cases s1 with
     |nil=>exact h6.elim
     |mk l1=>
      have hb:=(hr.ob id _ ho2).2.1.2.2 l1 rfl;subst hsz;rw[h5]at hb
      refine JI (w:=w) hr ha2.1 hd rfl hb (by simpa using h6.1) (by
       rw[ho2]at ho;obtain⟨rfl,e2,_⟩:u1=u0/\_:=by simpa using ho
       cases eq_of_heq e2;simp_all) h6.2 q1 hc (fun i hi=>?_) hz3
      grind
   .simp at hz2
  |_=>simp at hz2
 .simp at hz
end
section
variable{h:H2}{n:Nat}{h1:bp}{β:Type}{s:S2}{k:V->S2->List Nat->Option β}{z:β}
theorem Iz{id:Nat}{o o':O}{u:eW}{x:TV}{v:V}{av l:List Nat}(hr:HR s.next h1 s.heap)(ho:fO s.heap id=some o)(hs:tC o o')(hu:∀p∈u,p.1=id)(hb:xx ((id,some o')::s.heap) o' (au (u++h1) id))(hko:D1 s.next ((id,some o')::s.heap) o')
  (hx:fC ((id,some o')::s.heap) v x) (hk:eV s.next ((id,some o')::s.heap) v) (hl:∀i∈av,i∈l):sd s (dT s id (some o')) h1 x u av s.next v l:=by
 refine sd.GA [id] hr (jy.CN ho hs) rfl rfl (am _) (am _) hl rfl (fun p hp=>by simp[hu p hp]) (fun i hi=>?_) (fun i hi o2 ho2=>?_) hx hk (fun i _ h=>by simp[dT];rw[cK,if_neg (fun e=>by rw[e,h]at ho;cases ho)];exact h)
 .simp [dT];rw[cK,if_neg fun e=>hi (by simp[e])]
 .obtain rfl:=aq.1 hi;simp only[dT,uT]at ho2;obtain rfl:=aa ho2;exact⟨(hr.ob _ _ ho).1,hb,hko⟩
theorem te{id ver:Nat}{t:Ty}{w w':Sl (El t)}{u:eW}{x:TV}{v:V}{av l:List Nat}(hr:HR s.next h1 s.heap)(ho:fO s.heap id=some (.ar t w ver))(hn:w.fA=w'.fA)(hlen:w.l.length=w'.l.length)(hu:∀p∈u,p.1=id)
  (hb:∀l,w'=.mk l->au (u++h1) id=some (.aG (bU t) (l.map (aR t)))) (hx:∀g,fC g v x) (hk:∀n g,eV n g v) (hl:∀i∈av,i∈l):sd s (dT s id (some (.ar t w' (ver+1)))) h1 x u av s.next v l:=by
 obtain⟨h2,h3,_⟩:=(hr.ob id _ ho).2.1;exact Iz hr ho ⟨bn _,rfl,hn,hlen,fun e=>by omega⟩ hu ⟨h2,h3,hb⟩ trivial (hx _) (hk _ _) hl
theorem Lp{a x:V}{ya yx:TV}{t0:Ty}{sz:Nat}
  (hz:(match Rc t0 s.heap x with
  |some ⟨t,m,av⟩=>bif bU t==sz then(match a with
   |.nl 0=>k (.x (.i .i64) (0:Int)) s av
   |.so id=>(match fO s.heap id with
    |some (.ar u v ver)=>(match gg (.sl t) (.sl u) m with
     |some m=>k (.x (.i .i64) ((min m.l.length v.l.length:Nat):Int)) (dT s id (some (.ar u (v.to (Cw v.l 0 v.l.length m.l)) (ver+1)))) (id::av)
     |none=>none)
    |_=>none)
   |.sb id ver lo _ v=>(match fO s.heap id with
    |some (.ar u w ver')=>(match gg (.sl t) (.sl u) m with
     |some m=>bif ver'==ver then k (.x (.i .i64) ((min m.l.length v.l.length:Nat):Int)) (dT s id (some (.ar u (w.to (Cw w.l lo v.l.length m.l)) (ver+1)))) (id::av)else none
     |none=>none)
    |_=>none)
   |_=>none)else none
  |none=>none)=some z)
  (hr:HR s.next h1 s.heap) (ha1:fC s.heap a ya) (ha2:eV s.next s.heap a) (ha3:iw s.heap a=true) (hx:fC s.heap x yx) (hk:eV s.next s.heap x) (ha:iw s.heap x=true):zb h1 (.copy sz) [ya,yx] s k z:=by
 have hmem:∀{id:Nat}{av l:List Nat},(∀i∈av,i∈l)->∀i∈id::av,i∈id::l:=fun q i hi=>by
  grind
 split at hz
 .rename_i t m l hs;obtain⟨h2,hz2⟩:=aJ hz;obtain rfl:bU t=sz:=by simpa using h2
  obtain⟨c,av,rfl,q1,q2⟩:=IQ hr hx hk ha hs rfl;clear hz;cases a with
  |nl j=>cases j with|zero=>rw[xD ha1];exact⟨_,_,_,hz2,fun cl=>⟨tI .i64 0,[],av,s.next,by simp only[aK,aZ,ci,mY,Fd,q1];rfl,sd.pure hr (xi _ _) trivial q2⟩⟩|succ j=>simp at hz2
  |so id=>
   simp only at hz2;split at hz2
   .rename_i u v ver ho;split at hz2
    .rename_i m' hm;obtain⟨rfl,e⟩:=DN hm;rw[tO ha1 (mV (.inl ho))];rw[<-e]at q1;cases v with
     |nil=>refine⟨_,_,_,hz2,fun cl=>⟨tI .i64 0,[],av,s.next,by simp only[aK,aZ,ci,mY,nA,q1];rfl,?_⟩⟩;exact te hr ho rfl rfl (fun p hp=>by simp at hp) (fun l e=>by cases e) (fun g=>by simpa[Sl.l]using xi .i64 0) (fun _ _=>trivial) fun i hi=>aI _ (q2 i hi)
     |mk w=>
      have hb:=(hr.ob id _ ho).2.1.2.2 w rfl;refine⟨_,_,_,hz2,fun cl=>⟨_,_,_,_,TB hb q1,?_⟩⟩;refine te hr ho rfl ?_ (fun p hp=>by simp at hp;simp[hp]) (fun l e=>?_) (fun g=>xi _ _) (fun _ _=>trivial) (hmem q2)
      .simp only[Sl.to,Sl.l];rw[vZ (by omega)]
      .simp only[Sl.to,Sl.l]at e;cases e;rw[a_,dg,if_pos rfl];rfl
    .simp at hz2
   .simp at hz2
  |sb id ver lo u0 v=>
   simp only at hz2;split at hz2
   .rename_i u w ver' ho;split at hz2
    .rename_i m' hm;obtain⟨rfl,e⟩:=DN hm;obtain⟨h3,hz3⟩:=aJ hz2;obtain rfl:ver'=ver:=by simpa using h3
     rw[rj ha1 ha3];rw[<-e]at q1;obtain⟨_,h4⟩:=ha2.2 t w ver' (.inl ho);obtain⟨h5,h6⟩:=h4 rfl;cases v with
     |nil=>cases w with|mk w=>exact h6.elim|nil=>refine⟨_,_,_,hz3,fun cl=>⟨tI .i64 0,[],av,s.next,by simp only[aK,aZ,ci,mY,zo,q1];rfl,?_⟩⟩;exact te hr ho rfl rfl (fun p hp=>by simp at hp) (fun l e=>by cases e) (fun g=>by simpa[Sl.l]using xi .i64 0) (fun _ _=>trivial) fun i hi=>aI _ (q2 i hi)
     |mk v=>
      cases w with
      |nil=>exact h6.elim
      |mk w=>
       have hb:=(hr.ob id _ ho).2.1.2.2 w rfl;refine⟨_,_,_,hz3,fun cl=>⟨tI .i64 (min m'.l.length v.length:Nat),[(id,some (.aG (bU t) ((Cw w lo v.length m'.l).map (aR t))))],id::av,s.next,?_,?_⟩⟩
       .simp only[aK,aZ,ci,mY,zo,q1,hb,<-h5];rw[if_pos ⟨trivial,by simpa using h6.1⟩];simp only[H6,aD];rfl
       .refine te hr ho rfl ?_ (fun p hp=>by simp at hp;simp[hp]) (fun l e=>?_) (fun g=>xi _ _) (fun _ _=>trivial) (hmem q2)
        .simp only[Sl.to,Sl.l];rw[vZ h6.1]
        .cases e;rw[a_,dg,if_pos rfl];rfl
    .simp at hz2
   .simp at hz2
  |_=>simp at hz2
 .simp at hz
theorem zL{g:H2}:fC g (.tp .ni) (.gX []):=⟨[],rfl,rfl⟩
theorem Ib{a:V}{ya:TV}{zz:List Value}
  (hz:(match a with
  |.sb id ver lo _ v=>(match fO s.heap id with
   |some (.ar u w ver')=>bif(ver'==ver)&&vc (oK u) zz&&DZ u then(QK w lo v.l.length (u9 u)).bind fun w=>k (.tp .ni) (dT s id (some (.ar u w (ver+1)))) [id]else none
   |_=>none)
  |_=>none)=some z)
  (hr:HR s.next h1 s.heap) (ha1:fC s.heap a ya) (ha2:eV s.next s.heap a) (ha3:iw s.heap a=true):zb h1 (.clear zz) [ya] s k z:=by
 cases a with
 |sb id ver lo u0 v=>
  simp only at hz;split at hz
  .rename_i u w ver' ho;obtain⟨h3,hz2⟩:=aJ hz;simp only[ak,beq_iff_eq]at h3;obtain⟨⟨rfl,q1⟩,q2⟩:=h3;have q1:=si q1;subst q1;obtain⟨hd,_⟩:=qX q2;obtain⟨w',hw,hz3⟩:=pT hz2;rw[rj ha1 ha3];obtain⟨_,h4⟩:=ha2.2 u w ver' (.inl ho);obtain⟨h5,h6⟩:=h4 rfl;have hzl:=(sf u hd).symm;have hlen:=by have:=congrArg iN hzl;rw[bH,dj]at this;exact this.symm
   cases w with
   |nil=>simp[QK]at hw
   |mk w=>
    cases v with
    |nil=>exact h6.elim
    |mk v=>
     simp only[QK,eY]at hw;subst hw;have hb:=(hr.ob id _ ho).2.1.2.2 w rfl;refine⟨_,_,_,hz3,fun cl=>⟨.gX [],[(id,some (.aG (bU u) ((Cw w lo v.length (aj v.length (u9 u))).map (aR u))))],[id],s.next,?_,?_⟩⟩
     .simp only[aK,aZ,ci,pP,zo,hb];rw[hzl,<-H6];simp_all
     .refine te hr ho rfl ?_ (fun p hp=>by simp at hp;simp[hp]) (fun l e=>?_) (fun g=>zL) (fun _ _=>trivial) (fun i hi=>hi)
      .simp only[Sl.l];rw[vZ (by simpa using h6.1)]
      .cases e;rw[a_,dg,if_pos rfl];rfl
  .simp at hz
 |_=>simp at hz
theorem Ei{id m:Nat}{t:Ty}{p:qB}{w:V}{ya yw:TV}(hr:HR s.next h1 s.heap)(ha1:fC s.heap (.op id t p) ya)(ha2:eV s.next s.heap (.op id t p))(hx:fC s.heap w yw)(hk:eV s.next s.heap w)
  (hz:(bif(Bg w==m)then(match fO s.heap id with
  |some (.bx u c)=>bif decide (u=t)then(match se t p with
   |some a=>(match O3 a w with
    |some w=>(match pf c p w with|some c=>bif d_ c false t then k (.tp .ni) (dT s id (some (.bx t c))) [id]else none|none=>none)
    |none=>none)
   |none=>none)else none
  |_=>none)else none)=some z):zb h1 (.store m) [ya,yw] s k z:=by
 obtain⟨h2,hz2⟩:=aJ hz;simp at h2;split at hz2
 .rename_i u c ho;obtain⟨h3,hz3⟩:=aJ hz2;simp at h3;subst h3;split at hz3
  .rename_i a ha;split at hz3
   .rename_i w' hw;split at hz3
    .rename_i c' hc;obtain⟨h4,hz4⟩:=aJ hz3;obtain⟨cw,e1,e2⟩:=rH (pq (Hz hw) hx);obtain⟨q1,q2,q3,q4⟩:=Al hw e1 hk;obtain⟨_,⟨cs,e3,e4,e5⟩,e6⟩:=hr.ob id _ ho;have l1:=iv e1;have l2:cw.length=bU a:=by rw[iv q1,gO _ _ _ q2]
     have l3:cs.length=bU u:=by rw[iv e4,gO _ _ _ e5]
     have l4:=xT p u a ha ha2.2;have q5:=xH p c u w' c' cs cw a e5 e4 ha2.2 hc ha q1 l2;have q6:=IJ p c w' c' e6 q3 hc;rw[xC ha1];have hos:tC (.bx u c) (.bx u c'):=rfl;refine .CN hr ho hos hz4 (fun cl=>?_) (b:=some (.box (aT cs (oD u p) cw))) ?_ ?_ zL trivial fun i hi=>hi
     .simp [ci,mN,e2];rw[if_pos (l1.trans h2)];simp[e3];rw[if_pos (by omega)]
     .exact ⟨_,rfl,lX (jy.CN ho hos) q6 q5,h4⟩
     .exact gI (am _) (jy.CN ho hos) q6
    .simp at hz3
   .simp at hz3
  .simp at hz3
 .simp at hz2
theorem sd.seq{s1 s':S2}{fu u:eW}{x:TV}{av a l:List Nat}{m:Nat}{v:V}(dR:jy s.next s.heap s1.heap)(he:s1.cW=s.cW)(hg:s1.gh=s.gh)(hn:s1.next=s.next)(hwo:s1.wo=a++s.wo)(hu:∀p∈fu,p.1∈a)(hf:∀id,id∉a->fO s1.heap id=fO s.heap id)
  (hna:∀i∈a,fO s.heap i≠none) (hd:sd s1 s' (fu++h1) x u av m v l):sd s s' h1 x (u++fu) av m v l:=by
 obtain⟨d1,d2,d3,d4,d5,d6,d7,d8,d9,d10,W,w1,w2,w3⟩:=hd;refine⟨d1,d2,by rw[aM];exact d3,jy.trans (Nat.le_of_eq hn.symm) dR d4,d5.trans he,d6.trans hg,d7,by omega,d9,fun i hi h=>d10 i (by omega) ((hf i fun q=>hna i q h).trans h),W++a,by rw[w1,hwo,aM],fun p hp=>?_,fun i hi=>?_⟩
 .grind
 simp_all
theorem NS{v w:V}{l:List Nat}(hf:jI h v=some (w,l)):PQ v:=by cases v<;>first|trivial|(simp at hf)
theorem qi{a b:List D}(e:a.map C.d=b.map C.d):a=b:=by
 induction a generalizing b with
 |nil=>simp_all
 |cons x a ih=>cases b with|nil=>simp at e|cons y b=>simp at e;rw[e.1,ih e.2]
theorem Tv:∀(p:qB)(t u:Ty),kx t=true->se t p=some u->kx u=true:=by
 intro p;induction p with
 |nil=>grind [se,aa]
 |cons q p ih=>
  intro t u hd h;cases q with
  |fd i=>
   cases t with
   |st t=>
    simp[se]at h;split at h
    .rename_i w hw;exact ih w u (AT t i w hd hw) h
    .simp at h
   |_=>simp[se]at h
  |ix i=>cases t with|ar l t=>exact ih t u hd h|_=>simp[se]at h
theorem I5(t:Ty):oD t []=0:=by cases t<;>rfl
theorem GS{t:Ty}{l:List (Sl (El t))}{ln:Option (Nat×Nat)}{m:Nat}{r:Sl (El t)}(h:IH ln m=true):(fc t l ln).set m (p9 t r)=fc t (l.set m r) none:=by cases ln with|none=>simp[fc]|some q=>obtain⟨m',i⟩:=q;obtain rfl:m'=m:=Nat.eq_of_beq_eq_true h;simp[fc]
theorem GT{t:Ty}{l:List (Sl (El t))}{ln:Option (Nat×Nat)}:(fc t l ln).length=l.length:=by cases ln with|none=>simp[fc]|some q=>simp[fc]
theorem Ab{id id2 m:Nat}{t:Ty}{l:List (Sl (El t))}{ln:Option (Nat×Nat)}{o2:O}{r:Sl (El t)}{u:eW}{av:List Nat}(hr:HR s.next h1 s.heap)(ho:fO s.heap id=some (.rw t (.mk l) ln))(ho2:fO s.heap id2=some o2)(hne:id2≠id)(hlnm:IH ln m=true)
  (hu:∀p∈u,p.1=id\/p.1=id2) (hb:au (u++h1) id=some (.nst (bU t) ((fc t l ln).set m (p9 t r)))) (hids:∀i∈av,i∈[id,id2]):
  sd s (dT (dT s id2 none) id (some (.rw t (.mk (l.set m r)) none))) h1 (.gX []) u av s.next (.tp .ni) [id,id2]:=by
 have dR:jy s.next s.heap ((id,some (.rw t (.mk (l.set m r)) none))::(id2,none)::s.heap):=by refine jy.trans (am _) (jy.mC id2) (jy.CN (o:=.rw t (.mk l) ln) ?_ ⟨rfl,rfl,by simp⟩);rw[cK,if_neg hne];exact ho
 refine sd.GA [id,id2] hr dR rfl rfl (am _) (am _) hids rfl (fun p hp=>?_) (fun i hi=>?_) (fun i hi o ho'=>?_) zL trivial (fun i _ h=>?_)
 .rcases hu p hp with e|e<;>simp[e]
 .simp at hi;simp[dT];rw[cK,if_neg (fun e=>hi.1 e.symm),cK,if_neg (fun e=>hi.2 e.symm)]
 .simp [dT]at ho';by_cases hi1:id=i
  .subst hi1;rw[cK,if_pos rfl]at ho';obtain rfl:=aa ho';obtain⟨a,⟨d1,d2,_⟩,_⟩:=hr.ob _ _ ho;exact⟨a,⟨d1,d2,fun l' e=>by cases e;rw[hb,GS hlnm]⟩,trivial⟩
  .rw [cK,if_neg hi1]at ho';simp at hi;rcases hi with rfl|rfl
   .exact absurd rfl hi1
   .rw [cK,if_pos rfl]at ho';cases ho'
 .simp [dT];rw[cK,if_neg (fun e=>by subst e;rw[ho]at h;cases h),cK,if_neg (fun e=>by subst e;rw[ho2]at h;cases h)];exact h
theorem sd.nx{s s':S2}{x:TV}{u:eW}{av l:List Nat}{m q:Nat}{v:V}(d:sd s s' h1 x u av m v l)(hq:q<=s'.next):sd s s' h1 x u av q v l:=⟨d.val,d.Y2,d.hr,d.dR,d.cW,d.gh,hq,d.le,d.av,d.nb,d.wo⟩
theorem Ej{id m q:Nat}{t:Ty}{p:qB}{w:V}{ya yw:TV}(hr:HR s.next h1 s.heap)(ha1:fC s.heap (.ep id m t p) ya)(ha2:eV s.next s.heap (.ep id m t p))(hx:fC s.heap w yw)(hk:eV s.next s.heap w)(ha:iw s.heap w=true)
  (hz:(bif(Bg w==q)then GL id m t p w s (fun s l=>k (.tp .ni) s l)else none)=some z):zb h1 (.store q) [ya,yw] s k z:=by
 obtain⟨h2,hz2⟩:=aJ hz;simp only[beq_iff_eq]at h2;clear hz;unfold GL at hz2;split at hz2
 .rename_i u v ln ho;split at hz2
  .rename_i id2;split at hz2
   .rename_i u2 r ver ho2;split at hz2
    .rename_i r' hr';obtain⟨h3,hz3⟩:=aJ hz2;simp only[ak,decide_eq_true_eq,Bool.not_eq_true',beq_eq_false_iff_ne]at h3;obtain⟨⟨rfl,hne⟩,hln⟩:=h3;obtain⟨e,e2⟩:=cH hr';cases e;obtain rfl:r'=r:=e2;have hlen:=ha2.2.2.2 _ _ _ ho;obtain⟨_,⟨d1,d2,d3⟩,_⟩:=hr.ob id _ ho;obtain⟨_,⟨_,_,c3⟩,_⟩:=hr.ob id2 _ ho2;cases v with
     |nil=>simp[Sl.l]at hlen
     |mk l=>
      have d3:=d3 l rfl;have h2':q=1:=h2.symm;subst h2';rw[tP ha1,tO hx (mV (.inl ho2)),I5];have hl2:m<(fc u l ln).length:=by rw[GT];exact hlen
      cases r' with
      |nil=>
       refine⟨_,_,_,hz3,fun cl=>⟨.gX [],[(id,some (.nst (bU u) ((fc u l ln).set m .nil)))],[id],s.next,?_,?_⟩⟩
       .simp only[aK,aZ,ci,mN,nA,cellsOf,d3];simp_all[if_pos,trivial,sW]
       .exact Ab hr ho ho2 hne hln (fun p hp=>by simp at hp;simp[hp]) (by rw[a_,dg,if_pos rfl];rfl) (fun i hi=>by simp at hi;simp[hi])
      |mk rr=>
       have c3:=c3 rr rfl;refine⟨_,_,_,hz3,fun cl=>⟨.gX [],[(id,some (.nst (bU u) ((fc u l ln).set m (.bk (rr.map (aR u)))))),(id2,none)],[id,id2],s.next,?_,?_⟩⟩
       .simp only[aK,aZ,ci,mN,nA,cellsOf,d3];rw[if_pos (show([_]:List C).length=1 from rfl)];rw[if_pos ⟨trivial,trivial,hl2⟩];simp only[sW,c3];rw[if_pos ⟨trivial,by simp,hne⟩]
       .exact Ab hr ho ho2 hne hln (fun p hp=>by simp at hp;rcases hp with rfl|rfl<;>simp) (by rw[bI,dg,if_pos rfl];rfl) (fun i hi=>hi)
    .simp at hz2
   .simp at hz2
  .simp at hz2
 .rename_i u l ver ho;split at hz2
  .rename_i w' a hw;obtain⟨h3,hz3⟩:=aJ hz2;simp only[decide_eq_true_eq]at h3;subst h3;clear hz2;split at hz3
   .rename_i b2 hb;split at hz3
    .rename_i y hy;split at hz3
     .rename_i c hc;split at hz3
      .rename_i y2 hy2;split at hz3
       .rename_i s1 hs1;obtain⟨h4,hz4⟩:=aJ hz3;obtain⟨cw,e1,e2⟩:=rH (pq (NS hw) hx);obtain⟨ds,av,f1,f2,f3,f4,f5⟩:=uj hr w w' a cw hw e1 hk ha;have e3:=qi (iW w' false b2 y _ hy f2);have hlen:=ha2.2.2.1 u l ver (.inl ho)
        have hnm:∀(ds:List D)(cs:List C)(av:List Nat),dn h1 cs=some (ds,av)->ds.length=cs.length:=by
         intro ds cs;induction cs generalizing ds with
         |nil=>intro av h;obtain⟨rfl,_⟩:[]=ds/\[]=av:=by simpa[dn]using h
               rfl
         |cons c cs ih=>
          intro av h;simp only[dn]at h
          grind
        have l1:cw.length=Bg w:=iv e1;have l2:ds.length=bU b2:=by rw[e3,bH]
        have l3:=hnm _ _ _ f1;have l4:=xT p u b2 hb ha2.2.1;cases l with
        |nil=>simp[Sl.l]at hlen
        |mk l=>
         obtain⟨_,⟨d1,d2,d3⟩,_⟩:=hr.ob id _ ho;have d3:=d3 l rfl;have q5:=xH (h:=s.heap) p (.x u (gt l m)) u (.x b2 y) c ((aR u (gt l m)).map .d) ((aR b2 y).map .d) b2 (by simp[d_]) ⟨d1,rfl⟩ ha2.2.1 hc hb ⟨Tv p u b2 d1 hb,rfl⟩ (by simp[bH]);have q6:=qr hy2 q5;rw[<-vH]at q6;have q7:=qi q6;obtain⟨fu,g1,g2,g3,g4,g5,g6,g7,g8,g9⟩:=Dy (s0:=s) rfl hr a s1 av av hs1 f3 f4;have hid:id∉a:=by simpa using h4
         have hid2:av.contains id=false:=by
          grind
         rw[tP ha1];refine⟨_,_,_,hz4,fun cl=>⟨.gX [],(id,some (.aG (bU u) ((l.set m y2).map (aR u))))::fu,id::av,s.next,?_,?_⟩⟩
         .exact Pt d3 hlen e2 (l1.trans h2) f1 g1 hid2 (by rw[bH];omega) (by rw[e3];exact q7)
         .have ho1:fO s1.heap id=some (.ar u (.mk l) ver):=by rw[g9 id hid];exact ho
          rw[<-g6]at g2
          have:=te (v:=.tp .ni) (x:=.gX []) (av:=id::av) (l:=id::a) (u:=[(id,some (.aG (bU u) ((l.set m y2).map (aR u))))]) g2 ho1 (w':=.mk (l.set m y2)) rfl (by simp[Sl.l]) (fun p hp=>by simp at hp;simp[hp]) (fun l' e=>by cases e;rw[a_,dg,if_pos rfl]) (fun _=>zL) (fun _ _=>trivial) (fun i hi=>by
           grind)
          rw[g6]at this;exact sd.seq g3 g4 g5 g6 g7 g8 g9 (HQ rfl hs1) this
       .simp at hz3
      .simp at hz3
     .simp at hz3
    .simp at hz3
   .simp at hz3
  .simp at hz2
 .simp at hz2
end
section
variable{h:H2}{n:Nat}{h1:bp}{β:Type}{s:S2}{k:V->S2->List Nat->Option β}{z:β}
theorem vD:∀{cs:List C}{ds:List D}{av:List Nat},dn h1 cs=some (ds,av)->ds.length=cs.length:=by
 intro cs;induction cs with
 |nil=>intro ds av h;obtain⟨rfl,_⟩:[]=ds/\[]=av:=by simpa[dn]using h
       rfl
 |cons c cs ih=>
  intro ds av h;simp[dn]at h
  grind
theorem RK{t:Ty}(hd:kx t=true)(m:Nat):(aj m (u9 t)).flatMap (aR t)=dj ((aj m (oK t)).flatten):=by induction m with|zero=>rfl|succ m ih=>simp_all[gC,sf,dj]
theorem Dk(l:List Value):eS l=(dj l).map .d:=by simp[eS,dj]
theorem LS{t:Ty}(hd:kx t=true)(m:Nat):((aj m (oK t)).flatten).length=m*bU t:=by have:=congrArg iN (RK hd m);simp_all[bH,dj]
theorem Gf{α:Type}{f:α->List D}{q:Nat}(hf:∀a,(f a).length=q):∀(l:List α),nT q l.length (l.flatMap f)=l.map f:=by intro l;induction l with|nil=>rfl|cons a l ih=>simp only[List.length_cons,nT,bL,aK];rw[List.take_left' (hf a),List.drop_left' (hf a),ih]
theorem G5{t:Ty}{len:Nat}(hr:HR n h1 h)(hd:kx t=true):∀(is:List Nat)(vs:List V)(m:Nat)(l:List (El t))(a:List Nat)(pre:List C)(xs:List TV),BY h t len m is vs=some (l,a)->m<=len->pre.length=m*bU t->
  mS h vs xs->(∀w∈vs,eV n h w)->(∀w∈vs,iw h w=true)->
  ∃cs av,kU (pre++eS ((aj (len-m) (oK t)).flatten)) ((is.map fun i=>(i*bU t,bU t)).zip xs)=some (pre++cs)/\dn h1 cs=some (l.flatMap (aR t),av)/\(∀i∈av,i∈a/\¬nk h i)/\(∀i∈a,i∈av\/nk h i)/\l.length=len-m:=by
 intro is;induction is with
 |nil=>intro vs m l a pre xs hf hm hpre hx hk ha;cases vs with|cons v vs=>simp[BY]at hf|nil=>obtain⟨rfl,rfl⟩:=hf;obtain rfl:=lc hx;refine⟨_,[],rfl,?_,fun i hi=>by simp at hi,fun i hi=>by simp at hi,by simp⟩;rw[Dk,RK hd];exact wj _
 |cons i is ih=>
  intro vs m l a pre xs hf hm hpre hx hk ha;cases vs with
  |nil=>simp[BY]at hf
  |cons v vs=>
   simp only[BY]at hf;split at hf
   .rename_i w a1 hw;split at hf
    .rename_i y hy;obtain⟨hc,hf⟩:=aJ hf;simp only[ak,Nat.ble_eq,Nat.blt_eq]at hc;obtain⟨hmi,hil⟩:=hc;split at hf
     .rename_i l1 b hl1;obtain⟨rfl,rfl⟩:=af (aa hf);obtain⟨x,ys,rfl,hx1,hx2⟩:=fX hx;obtain⟨cw,e1,e2⟩:=rH (pq (NS hw) hx1);obtain⟨ds,av,f1,f2,f3,f4,_⟩:=uj hr v w a1 cw hw e1 (hk _ (by simp)) (ha _ (by simp));have e3:=qi (iW w false t y _ hy f2);subst e3;have l1':cw.length=bU t:=by rw[<-vD f1,bH]
      have lz:(eS ((aj (i-m) (oK t)).flatten)).length=(i-m)*bU t:=by simp only[eS,aD];exact LS hd _
      have lz1:(eS (oK t)).length=bU t:=by rw[Dk,<-sf t hd,aD,bH]
      have hpl:(pre++eS ((aj (i-m) (oK t)).flatten)).length=i*bU t:=by rw[ap,hpre,lz,<-bA,Nat.add_sub_cancel' hmi]
      obtain⟨cs,jds,g1,g2,g3,g4,g5⟩:=ih vs (i+1) l1 b (pre++eS ((aj (i-m) (oK t)).flatten)++cw) ys hl1 hil (by rw[ap,hpl,l1',bA,Nat.one_mul]) hx2 (fun w hw=>hk w (by simp[hw])) (fun w hw=>ha w (by simp[hw]));have hsplit:aj (len-m) (oK t)=aj (i-m) (oK t)++(oK t::aj (len-(i+1)) (oK t)):=by rw[<-gC,List.replicate_append_replicate];congr 1;omega
      have hcells:pre++eS ((aj (len-m) (oK t)).flatten)=(pre++eS ((aj (i-m) (oK t)).flatten))++(eS (oK t)++eS ((aj (len-(i+1)) (oK t)).flatten)):=by rw[hsplit,List.flatten_append,gu,ue,ue,aM]
      refine⟨eS ((aj (i-m) (oK t)).flatten)++(cw++cs),av++jds,?_,?_,fun j hj=>?_,fun j hj=>?_,by simp[g5];omega⟩
      .simp only[aK,List.zip_cons_cons,kU,e2];have:aT ((pre++eS ((aj (i-m) (oK t)).flatten))++(eS (oK t)++eS ((aj (len-(i+1)) (oK t)).flatten))) (i*bU t) cw=(pre++eS ((aj (i-m) (oK t)).flatten)++cw)++eS ((aj (len-(i+1)) (oK t)).flatten):=by have:=uG (a:=pre++eS ((aj (i-m) (oK t)).flatten)) (b:=eS (oK t)++eS ((aj (len-(i+1)) (oK t)).flatten)) (p:=cw) (off:=0);rw[hpl]at this;refine Eq.trans this ?_;rw[uF (by omega),m_ (by omega)];simp only[aM]
       grind
      .rw [List.flatMap_append,bL,RK hd];have hz:dn h1 (eS ((aj (i-m) (oK t)).flatten))=some (dj ((aj (i-m) (oK t)).flatten),[]):=by rw[Dk];exact wj _
       exact(rh hz (rh f1 g2):dn h1 _=some (_,[]++(av++jds)))
      .grind
      grind
     .simp at hf
    .simp at hf
   .simp at hf
theorem Gi{t:Ty}{len sz:Nat}{zl:List Value}{pl:List Nat}{vs:List V}{xs:List TV}
  (hz:Vm t sz len zl pl vs s k=some z)
  (hr:HR s.next h1 s.heap) (hx:mS s.heap vs xs) (hk:∀w∈vs,eV s.next s.heap w) (ha:∀w∈vs,iw s.heap w=true):zb h1 (.buildSlice sz len zl pl) xs s k z:=by
 obtain⟨h2,hz2⟩:=aJ hz;simp only[ak,beq_iff_eq]at h2;obtain⟨⟨rfl,h3⟩,h4⟩:=h2;have h3:=si h3;obtain⟨hd,hs0⟩:=qX h4;split at hz2
 .rename_i l a hl;split at hz2
  .rename_i s1 hs1;obtain⟨cs,av,g1,g2,g3,g4,g5⟩:=G5 hr hd pl vs 0 l a [] xs hl (Nat.zero_le _) (by simp) hx hk ha;obtain⟨fu,f1,f2,f3,f4,f5,f6,f7,f8,f9⟩:=Dy rfl hr a s1 av av hs1 g3 g4;refine⟨_,_,_,hz2,fun cl=>⟨.c (.fx (bU t) s.next 0 len),(s.next,some (.aG (bU t) (l.map (aR t))))::fu,av,s.next+1,?_,?_⟩⟩
   .grind [nT,bU,aR,Gf,bH,ci,nW,kU,eS,aj,oK]
   .have hr1:HR s1.next (fu++h1) s1.heap:=by rw[f6];exact f2
    have hd1:sd s1 (jp s1 (.ar t (.mk l) 0)) (fu++h1) (.c (.fx (bU t) s.next 0 len)) [(s1.next,some (.aG (bU t) (l.map (aR t))))] av (s.next+1) (.so s1.next) a:=by
     refine sd.new hr1 (.inl rfl) (fun _=>⟨hd,hs0,fun l' e=>by cases e;rfl⟩) trivial ?_ (aQ _) (fun i hi=>(g3 i hi).1) (by rw[f6];exact am _)
     grind [xU,nA]
    rw[f6]at hd1;exact sd.seq f3 f4 f5 f6 f7 f8 f9 (HQ rfl hs1) hd1
  .simp at hz2
 .simp at hz2
theorem H3{ka va:Bool}{ks:List Kd}{zl:List Value}{id:Nat}{kv:V}{ya yk:TV}(hr:HR s.next h1 s.heap)(ha1:fC s.heap (.om id) ya)(hx:fC s.heap kv yk)
  (hz:(match fO s.heap id with
  |some (.mp kt vt m)=>(match uX kt kv with
   |some q=>bif(mF kt==ka)&&(mF vt==va)&&decide (Bi kt=some ks)&&vc (oK vt) zl&&kx vt&&(va||bU vt==1)then
     k (.tp (.co (.x vt (mB m (u9 vt) q).2.1) (.co (.x (.i .i64) (mB m (u9 vt) q).2.2) .ni))) (dT s id (some (.mp kt vt (mB m (u9 vt) q).1))) [id]else none
   |none=>none)
  |_=>none)=some z):zb h1 (.mapEntry ka ks va zl) [ya,yk] s k z:=by
 split at hz
 .rename_i kt vt m ho;split at hz
  .rename_i q hq;obtain⟨hc,hz2⟩:=aJ hz;simp only[ak,beq_iff_eq,decide_eq_true_eq]at hc;obtain⟨⟨⟨⟨⟨c1,c2⟩,c3⟩,c4⟩,c5⟩,c6⟩:=hc;rw[zJ ha1];obtain⟨_,_,k3,_⟩:=uR kt ks c3;have hzz:dj zl=aR vt (u9 vt):=by rw[sf vt c5,si c4]
   have hv:=fun y=>IB y c2 c6;have hkt:=wW hx hq c3 c1;have e3:=(hr.ob id _ ho).2.1.2.2;rw[<-c2]at c6;have e4:au h1 id=Ar ka va (xy kt) (aR vt) m:=by rw[<-c1,<-c2];exact e3
   have hos:tC (.mp kt vt m) (.mp kt vt (mB m (u9 vt) q).1):=trivial;refine .CN hr ho hos hz2 (fun cl=>U_ e4 hkt k3 hzz hv) ⟨c5,⟨ks,c3⟩,by rw[c1,c2];rfl⟩ trivial ?_ ⟨trivial,trivial,trivial⟩ fun i hi=>hi;exact⟨_,rfl,_,_,rfl,LY c5 c6,_,_,rfl,dv rfl ⟨rfl,rfl⟩,rfl⟩
  .simp at hz
 .simp at hz
theorem Oe:∀(l:List D),AS (l.map .d)=some l:=by intro l;induction l with|nil=>rfl|cons d l ih=>simp[AS,ih]
theorem F0{va:Bool}{m0 id:Nat}{kd:IntKind}{st:Int}{w:V}{ya yw:TV}(hr:HR s.next h1 s.heap)(ha1:fC s.heap (.om id) ya)(hx:fC s.heap w yw)
  (hz:(match fO s.heap id with
  |some (.mp kt vt m)=>(match uX vt w with
   |some y=>bif(mF vt==va)&&(bU vt==m0)&&kx vt then(yF m st y).bind fun m=>k (.tp .ni) (dT s id (some (.mp kt vt m))) [id]else none
   |none=>none)
  |_=>none)=some z):zb h1 (.entryStore va m0) [ya,tI kd st,yw] s k z:=by
 split at hz
 .rename_i kt vt m ho;split at hz
  .rename_i y hy;obtain⟨hc,hz2⟩:=aJ hz;simp at hc;obtain⟨⟨rfl,rfl⟩,c3⟩:=hc;obtain⟨m',hm,hz3⟩:=pT hz2;rw[zJ ha1];obtain⟨_,hks,e3⟩:=(hr.ob id _ ho).2.1;obtain⟨g1,g2⟩:=uW hx hy;have hos:tC (.mp kt vt m) (.mp kt vt m'):=trivial;have hcs:(cellsOf yw).bind AS=some (aR vt y)/\qR yw=mF vt:=by cases hag:mF vt with|true=>rw[g1 hag];exact⟨by simp[cellsOf,Oe],rfl⟩|false=>obtain⟨d,e,rfl⟩:=g2 hag;exact⟨by simp[cellsOf,AS,e],rfl⟩
   refine .CN hr ho hos hz3 (fun cl=>U9 hm e3 hcs.1 (bH vt y) hcs.2) ⟨c3,hks,rfl⟩ trivial zL trivial fun i hi=>hi
  .simp at hz
 .simp at hz
theorem KL{ka va:Bool}{ks:List Kd}{m0 id:Nat}{kv w:V}{ya yk yw:TV}(hr:HR s.next h1 s.heap)(ha1:fC s.heap (.om id) ya)(hx:fC s.heap kv yk)(hw:fC s.heap w yw)
  (hz:(match fO s.heap id with
  |some (.mp kt vt m)=>(match uX kt kv with
   |some q=>(match uX vt w with
    |some y=>bif(mF kt==ka)&&(mF vt==va)&&decide (Bi kt=some ks)&&(bU vt==m0)&&kx vt then k (.tp .ni) (dT s id (some (.mp kt vt (Fj m q y)))) [id]else none
    |none=>none)
   |none=>none)
  |_=>none)=some z):zb h1 (.uc ka ks va m0) [ya,yk,yw] s k z:=by
 split at hz
 .rename_i kt vt m ho;split at hz
  .rename_i q hq;split at hz
   .rename_i y hy;obtain⟨hc,hz2⟩:=aJ hz;simp at hc;obtain⟨⟨⟨⟨rfl,rfl⟩,c3⟩,rfl⟩,c5⟩:=hc;rw[zJ ha1];obtain⟨_,_,k3,_⟩:=uR kt ks c3;have hkt:=wW hx hq c3 rfl;have e3:=(hr.ob id _ ho).2.1.2.2;obtain⟨g1,g2⟩:=uW hw hy;have hos:tC (.mp kt vt m) (.mp kt vt (Fj m q y)):=trivial;have hcs:cellsOf yw=some ((aR vt y).map .d)/\qR yw=mF vt:=by cases hag:mF vt with|true=>rw[g1 hag];exact⟨rfl,rfl⟩|false=>obtain⟨d,e,rfl⟩:=g2 hag;exact⟨by rw[e];rfl,rfl⟩
    exact .CN hr ho hos hz2 (fun cl=>Uk e3 hkt k3 hcs.1 (wj _) (bH vt y) hcs.2) ⟨c5,⟨ks,c3⟩,rfl⟩ trivial zL trivial fun i hi=>hi
   .simp at hz
  .simp at hz
 .simp at hz
theorem KR{ka:Bool}{ks:List Kd}{id:Nat}{kv:V}{ya yk:TV}(hr:HR s.next h1 s.heap)(ha1:fC s.heap (.om id) ya)(hx:fC s.heap kv yk)
  (hz:(match fO s.heap id with
  |some (.mp kt vt m)=>(match uX kt kv with
   |some q=>bif(mF kt==ka)&&decide (Bi kt=some ks)then k (.tp .ni) (dT s id (some (.mp kt vt (Fm m q)))) [id]else none
   |none=>none)
  |_=>none)=some z):zb h1 (.ud ka ks) [ya,yk] s k z:=by
 split at hz
 .rename_i kt vt m ho;split at hz
  .rename_i q hq;obtain⟨hc,hz2⟩:=aJ hz;simp at hc;obtain⟨rfl,c3⟩:=hc;rw[zJ ha1];obtain⟨_,_,k3,_⟩:=uR kt ks c3;have hkt:=wW hx hq c3 rfl;obtain⟨c5,_,e3⟩:=(hr.ob id _ ho).2.1;have hos:tC (.mp kt vt m) (.mp kt vt (Fm m q)):=trivial;exact .CN hr ho hos hz2 (fun cl=>Vd e3 hkt k3) ⟨c5,⟨ks,c3⟩,rfl⟩ trivial zL trivial fun i hi=>hi
  .simp at hz
 .simp at hz
end
section
variable{h:H2}{n:Nat}{h1:bp}{β:Type}{s:S2}{k:V->S2->List Nat->Option β}{z:β}
theorem x9:∀{r:List V}{l:List Int}{xs:List TV},dV r=some l->mS h r xs->∃ks:List IntKind,ks.length=l.length/\xs=(ks.zip l).map fun p=>tI p.1 p.2:=by
 intro r;induction r with
 |nil=>
  intro l xs hl hx;obtain rfl:[]=l:=by simpa[dV]using hl
  exact⟨[],rfl,lc hx⟩
 |cons v r ih=>
  intro l xs hl hx;cases v with
  |x t v=>
   cases t with
   |i q=>
    simp[dV]at hl;split at hl
    .rename_i l' hl';obtain rfl:=aa hl;obtain⟨x,ys,rfl,h1,h2⟩:=fX hx;obtain⟨ks,h3,rfl⟩:=ih hl' h2;exact⟨q::ks,by simp[h3],by rw[kf h1];rfl⟩
    .simp at hl
   |_=>simp[dV]at hl
  |_=>simp[dV]at hl
theorem NJ{r:List V}{xs:List TV}(hl:dV r=some [])(hx:mS h r xs):xs=[]:=by obtain⟨ks,h1,rfl⟩:=x9 hl hx;cases ks<;>simp_all
theorem Ds{r:List V}{a:Int}{xs:List TV}(hl:dV r=some [a])(hx:mS h r xs):∃q,xs=[tI q a]:=by obtain⟨ks,h1,rfl⟩:=x9 hl hx;cases ks with|nil=>simp at h1|cons q ks=>exact⟨q,by cases ks<;>simp_all⟩
theorem NI{r:List V}{a b:Int}{xs:List TV}(hl:dV r=some [a,b])(hx:mS h r xs):∃q q',xs=[tI q a,tI q' b]:=by
 obtain⟨ks,h1,rfl⟩:=x9 hl hx;cases ks with
 |nil=>simp at h1
 |cons q ks=>cases ks with|nil=>simp at h1|cons q' ks=>simp_all
theorem CU{x y:ByteArray}{lo hi:Option Int}(hs:Bo x (lo.getD 0) (hi.getD x.size)=some y)(sz:Nat):fI true sz (.d (dS x)) lo hi=some (.d (dS y)):=by
 unfold Bo at hs;split at hs
 .rename_i hb;obtain rfl:=aa hs;simp only[fI,if_true];rw[if_pos hb]
 .simp at hs
theorem Es{x:ByteArray}{r:List V}{lo hi:Bool}{sz:Nat}{y:TV}{ys:List TV}(hr:HR s.next h1 s.heap)(hy:fC s.heap (.x .s x) y)(hys:mS s.heap r ys)
  (hz:(match lo,hi,dV r with
  |false,false,some []=>(Bo x 0 x.size).bind fun y=>k (.x .s y) s []
  |true,false,some [l]=>(Bo x l x.size).bind fun y=>k (.x .s y) s []
  |false,true,some [u]=>(Bo x 0 u).bind fun y=>k (.x .s y) s []
  |true,true,some [l,u]=>(Bo x l u).bind fun y=>k (.x .s y) s []
  |_,_,_=>none)=some z):zb h1 (.slice true sz lo hi) (y::ys) s k z:=by
 rw[yu hy];split at hz
 .rename_i hi;obtain rfl:=NJ hi hys;obtain⟨w,hw,hz2⟩:=pT hz;exact .pure hr hz2 (fun _=>by simp only[aK,aZ,ci];rw[CU (lo:=none) (hi:=none) hw]) (T6 w) trivial
 .rename_i l hi;obtain⟨q,rfl⟩:=Ds hi hys;obtain⟨w,hw,hz2⟩:=pT hz;exact .pure hr hz2 (fun _=>by simp only[aK,aZ,ci,ce];rw[CU (lo:=some l) (hi:=none) hw]) (T6 w) trivial
 .rename_i l hi;obtain⟨q,rfl⟩:=Ds hi hys;obtain⟨w,hw,hz2⟩:=pT hz;exact .pure hr hz2 (fun _=>by simp only[aK,aZ,ci,ce];rw[CU (lo:=none) (hi:=some l) hw]) (T6 w) trivial
 .rename_i l u hi;obtain⟨q,q',rfl⟩:=NI hi hys;obtain⟨w,hw,hz2⟩:=pT hz;exact .pure hr hz2 (fun _=>by simp only[aK,aZ,ci,ce];rw[CU (lo:=some l) (hi:=some u) hw]) (T6 w) trivial
 .simp at hz
theorem Et{x:V}{r:List V}{lo hi:Bool}{sz:Nat}{y:TV}{ys:List TV}(hr:HR s.next h1 s.heap)(hy:fC s.heap x y)(hk:eV s.next s.heap x)(ha:iw s.heap x=true)(hys:mS s.heap r ys)
  (hz:(match lo,hi,dV r,HI s.heap x with
  |false,false,some [],some n=>vi sz s.heap x 0 n fun v=>k v s []
  |true,false,some [l],some n=>vi sz s.heap x l n fun v=>k v s []
  |false,true,some [u],some _=>vi sz s.heap x 0 u fun v=>k v s []
  |true,true,some [l,u],some _=>vi sz s.heap x l u fun v=>k v s []
  |_,_,_,_=>none)=some z):zb h1 (.slice false sz lo hi) (y::ys) s k z:=by
 split at hz
 .rename_i m hi hm;obtain rfl:=NJ hi hys;obtain⟨v,c,c',rfl,h3,h4,h5,h6⟩:=DK (lo:=none) (hi:=none) hr hy hk ha hm hz;exact .pure hr h3 (fun _=>by simp only[aK,aZ,ci];rw[h4]) h5 h6
 .rename_i l m hi hm;obtain⟨q,rfl⟩:=Ds hi hys;obtain⟨v,c,c',rfl,h3,h4,h5,h6⟩:=DK (lo:=some l) (hi:=none) hr hy hk ha hm hz;exact .pure hr h3 (fun _=>by simp only[aK,aZ,ci,ce];rw[h4]) h5 h6
 .rename_i u m hi hm;obtain⟨q,rfl⟩:=Ds hi hys;obtain⟨v,c,c',rfl,h3,h4,h5,h6⟩:=DK (lo:=none) (hi:=some u) hr hy hk ha hm hz;exact .pure hr h3 (fun _=>by simp only[aK,aZ,ci,ce];rw[h4]) h5 h6
 .rename_i l u m hi hm;obtain⟨q,q',rfl⟩:=NI hi hys;obtain⟨v,c,c',rfl,h3,h4,h5,h6⟩:=DK (lo:=some l) (hi:=some u) hr hy hk ha hm hz;exact .pure hr h3 (fun _=>by simp only[aK,aZ,ci,ce];rw[h4]) h5 h6
 .simp at hz
theorem Pw{t:Ty}{l:List (Sl (El t))}{m:Nat}(hm:m<l.length):(l.map (p9 t))[m]?=some (p9 t (gt l m)):=by
 grind [List.getElem?_eq_getElem,gt,List.getD]
theorem Mj{α:Type}{l:List α}{m:Nat}{x:α}(h:l[m]?=some x):l.set m x=l:=by obtain⟨hm,rfl⟩:=List.getElem?_eq_some_iff.1 h;exact List.set_getElem_self hm
theorem HH{id m:Nat}{u:Ty}{y:TV}(hr:HR s.next h1 s.heap)(hx:fC s.heap (.ep id m u []) y)(hk:eV s.next s.heap (.ep id m u []))
  (hz:(match fO s.heap id with
  |some (.rw t v none)=>bif decide (u=.sl t)then k (.so s.next) (jp (dT s id (some (.rw t v (some (m,s.next))))) (.ar t (gt v.l m) 0)) [id]else none
  |_=>none)=some z):zb h1 .vq [y] s k z:=by
 split at hz
 .rename_i t v ho;obtain⟨h2,hz2⟩:=aJ hz;simp only[decide_eq_true_eq]at h2;subst h2;rw[tP hx,I5];have hlen:=hk.2.2.2 _ _ _ ho;obtain⟨hid,⟨d1,d2,d3⟩,_⟩:=hr.ob id _ ho;cases v with
  |nil=>simp[Sl.l]at hlen
  |mk l=>
   have d3:=d3 l rfl;have hlen:m<l.length:=hlen;have dR:jy s.next s.heap ((s.next,some (.ar t (gt l m) 0))::(id,some (.rw t (.mk l) (some (m,s.next))))::s.heap):=jy.trans (am _) (jy.CN (o':=.rw t (.mk l) (some (m,s.next))) ho ⟨rfl,rfl,rfl⟩) (jy.new _)
   have key:∀{x:TV}{u:eW},fC ((s.next,some (.ar t (gt l m) 0))::(id,some (.rw t (.mk l) (some (m,s.next))))::s.heap) (.so s.next) x->(∀p∈u,p.1=s.next\/p.1=id)->
     au (u++h1) id=some (.nst (bU t) (fc t l (some (m,s.next))))->(∀rr,gt l m=.mk rr->au (u++h1) s.next=some (.aG (bU t) (rr.map (aR t))))->∀{q:Nat},q<=s.next+1->
     sd s (jp (dT s id (some (.rw t (.mk l) (some (m,s.next))))) (.ar t (gt l m) 0)) h1 x u [id] q (.so s.next) [id]:=by
    intro x u hx2 hu hb hb2 q hq;refine sd.GA [s.next,id] hr dR rfl rfl hq (bn _) (fun i hi=>hi) rfl (fun p hp=>?_) (fun i hi=>?_) (fun i hi o ho'=>?_) hx2 (aQ _) (fun i hi h=>?_)
    .rcases hu p hp with e|e<;>simp[e]
    .simp only[aW,ma,or_false,not_or]at hi;simp only[jp,dT];rw[cK,if_neg (fun e=>hi.1 e.symm),cK,if_neg (fun e=>hi.2 e.symm)]
    .simp only[jp,dT]at ho'|-;by_cases hi1:s.next=i
     .subst hi1;rw[cK,if_pos rfl]at ho';obtain rfl:=aa ho';exact⟨aQ _,⟨d1,d2,fun rr e=>hb2 rr e⟩,trivial⟩
     .rw [cK,if_neg hi1]at ho';simp only[aW,ma,or_false]at hi;rcases hi with rfl|rfl
      .exact absurd rfl hi1
      .rw [cK,if_pos rfl]at ho';obtain rfl:=aa ho';refine⟨by omega,⟨d1,d2,fun l' e=>by cases e;exact hb⟩,hlen,aQ _,fun u' r' v' hf=>?_⟩;simp only[uT]at hf;rcases hf with hf|hf<;>cases hf;exact⟨rfl,rfl⟩
    .simp only[jp,dT];rw[cK,if_neg (by omega),cK,if_neg (fun e=>by subst e;rw[ho]at h;cases h)];exact h
   have hs:=Pw (t:=t) hlen;refine⟨_,_,_,hz2,fun cl=>?_⟩;cases hg:gt l m with
   |nil=>
    refine⟨_,[],[id],s.next,?_,key (x:=.c (.d (.lit (.slice none 0 0)))) ?_ (fun p hp=>by simp at hp) ?_ (fun rr e=>by rw[hg]at e;cases e) (bn _)⟩
    .grind [ci,g_,lW,fc,p9]
    .rw [hg];exact xU
    .rw [cz,d3];simp only[fc,hg,Kr];rw[Mj (by rw[hs,hg];rfl)]
   |mk rr=>
    refine⟨_,[(s.next,some (.aG (bU t) (rr.map (aR t)))),(id,some (.nst (bU t) ((l.map (p9 t)).set m (.dQ s.next (rr.map (aR t)).length))))],[id],s.next+1,?_,key (x:=.c (.fx (bU t) s.next 0 (rr.map (aR t)).length)) ?_ (fun p hp=>by simp at hp;rcases hp with rfl|rfl<;>simp) ?_ (fun r2 e=>?_) (am _)⟩
    .grind [ci,g_,lW,fc,p9]
    .rw [hg];exact xU
    .rw [bI,dg,if_neg (by omega),bI,dg,if_pos rfl];simp only[fc,hg,Kr,aD]
    .rw [hg]at e;cases e;rw[bI,dg,if_pos rfl]
 .simp at hz
theorem Ng{szi:Nat}{t:Ty}{q q':IntKind}{a b:Int}(hr:HR s.next h1 s.heap)
  (hz:(bif(bU t==szi)&&DZ t then(D2 (Sl.nil:Sl (El t)) a b).bind fun r=>k (.sr s.next) (jp s (.rw t (.mk r) none)) []else none)=some z):zb h1 (.Cf szi) [tI q a,tI q' b] s k z:=by
 obtain⟨hq,hp2⟩:=aJ hz;simp at hq;obtain⟨rfl,q2⟩:=hq;obtain⟨hd,hs0⟩:=qX q2;obtain⟨r,hr2,hz3⟩:=pT hp2;unfold D2 at hr2;split at hr2
 .rename_i hb;obtain rfl:=aa hr2;refine .new (av:=[]) hr hz3 (b:=some (.nst (bU t) (aj a.toNat .nil))) (x:=.c (.fx 1 s.next 0 a.toNat)) (fun _=>?_) ⟨hd,hs0,fun l' e=>by cases e;simp[fc,p9]⟩ trivial ?_ (aQ _) fun i hi=>by simp at hi
  .simp only[aK,aZ,ci,ce];rw[if_pos (by simpa)]
  .refine bW (dv rfl ⟨_,rfl,fun c' hc'=>?_,?_⟩)
   .rw [uT]at hc';obtain rfl:=aa hc';simp[nA]
   .have:=CX (sz:=1) (id:=s.next) (e:=aR (.sl t)) (s:=.mk (aj a.toNat (Sl.nil:Sl _)));simpa
 .simp at hr2
theorem Hl{o:OP}{vs:List V}{xs:List TV}(hp:part o vs s k=some z)(hr:HR s.next h1 s.heap)(hx:mS s.heap vs xs)(hk:∀w∈vs,eV s.next s.heap w)(ha:∀w∈vs,iw s.heap w=true):zb h1 o.o.k xs s k z:=by
 obtain⟨⟨d,kk,args,g⟩,t,fi⟩:=o;simp only;unfold part at hp;simp only at hp;split at hp
 .--quo
  obtain⟨x,y,rfl,h2,h3⟩:=iD hx;rw[kf h2,kf h3];obtain⟨hq,hp2⟩:=aJ hp;simp only[decide_eq_true_eq]at hq;subst hq;obtain⟨r,hr2,hz⟩:=pT hp2;exact .pure hr hz (fun _=>Ti hr2) (xi _ _) trivial
 .obtain ⟨x,y,rfl,h2,h3⟩:=iD hx;rw[kf h2,kf h3];obtain⟨hq,hp2⟩:=aJ hp;simp only[decide_eq_true_eq]at hq;subst hq;obtain⟨r,hr2,hz⟩:=pT hp2;exact .pure hr hz (fun _=>Th hr2) (xi _ _) trivial
 .obtain ⟨x,y,rfl,h2,h3⟩:=iD hx;rw[kf h2,kf h3];obtain⟨r,hr2,hz⟩:=pT hp;exact .pure hr hz (fun _=>Tg hr2) (xi _ _) trivial
 .obtain ⟨x,y,rfl,h2,h3⟩:=iD hx;rw[kf h2,kf h3];obtain⟨r,hr2,hz⟩:=pT hp;exact .pure hr hz (fun _=>Tf hr2) (xi _ _) trivial
 .obtain ⟨x,y,rfl,h2,h3⟩:=iD hx;rw[yu h2,yu h3];obtain⟨r,hr2,hz⟩:=pT hp;exact .pure hr hz (fun _=>Tj hr2) (T6 _) trivial
 .--alloc
  rename_i zl;obtain rfl:=lc hx;obtain⟨hq,hp2⟩:=aJ hp;simp only[ak]at hq;obtain⟨q1,q2⟩:=hq;have q1:=si q1;subst q1;refine .new (av:=[]) hr hp2 (x:=.c (.op s.next 0)) (fun _=>rfl) ⟨_,rfl,?_,q2⟩ ?_ (bW (dv rfl (by cases t<;>rfl))) ⟨aQ _,by cases t<;>trivial⟩ fun i hi=>by simp at hi
  .exact ((zB (h:=(s.next,some (.bx t (Q7 t)))::s.heap) (n:=s.next+1) t).1 q2).1
  .exact ((zB (h:=(s.next,some (.bx t (Q7 t)))::s.heap) (n:=s.next+1) t).1 q2).2
 .--box
  obtain⟨x,rfl,h2⟩:=ie hx;split at hp
  .rename_i w hw;obtain⟨cw,e1,e2⟩:=rH (pq (Hz hw) h2);obtain⟨q1,q2,q3,_⟩:=Al hw e1 (hk _ (by simp));refine .new (av:=[]) hr hp (x:=.c (.op s.next 0)) (fun _=>by simp only[aK,aZ,ci,e2]) ⟨_,rfl,lX (jy.new _) q3 q1,q2⟩ (gI (bn _) (jy.new _) q3) (bW (dv rfl (by cases t<;>rfl))) ⟨aQ _,by cases t<;>trivial⟩ fun i hi=>by simp at hi
  .simp at hp
 .exact Gi hp hr hx hk ha
 .--store
  obtain⟨x,y,rfl,h2,h3⟩:=iD hx
  grind [Ei]
 .--vq
  obtain⟨x,rfl,h2⟩:=ie hx;exact HH hr h2 (hk _ (by simp)) hp
 .--Cf
  obtain⟨x,y,rfl,h2,h3⟩:=iD hx;rw[kf h2,kf h3];split at hp
  .exact Ng hr hp
  .simp at hp
 .obtain ⟨x,y,rfl,h2,h3⟩:=iD hx
  grind [Ej]
 .--makeSlice
  rename_i zl _ l _ c;obtain⟨x,y,rfl,h2,h3⟩:=iD hx;rw[kf h2,kf h3];obtain⟨hq,hp2⟩:=aJ hp;simp only[ak]at hq;obtain⟨q1,q2⟩:=hq;have q1:=si q1;subst q1;obtain⟨hd,hs0⟩:=qX q2;obtain⟨r,hr2,hz⟩:=pT hp2;have hzl:dj (oK t)=aR t (u9 t):=(sf t hd).symm;have hlen:(oK t).length=bU t:=by have:=congrArg iN hzl;rwa[bH,dj,aD]at this
  refine .new hr hz (fun _=>Qv hzl hr2) ⟨hd,hs0,fun l' e=>by cases e;rw[hlen]⟩ trivial ?_ (aQ _) fun i hi=>by simp at hi
  rw[hlen];exact xU (s:=.mk r)
 .--slice of a string
  obtain⟨y,ys,rfl,h2,h3⟩:=fX hx;exact Es hr h2 h3 hp
 .obtain ⟨y,ys,rfl,h2,h3⟩:=fX hx
  grind [Et]
 .obtain ⟨x,y,rfl,h2,h3⟩:=iD hx;rw[kf h3];exact ND hp hr h2 (hk _ (by simp)) (ha _ (by simp))
 .obtain ⟨x,y,rfl,h2,h3⟩:=iD hx;rw[kf h3];exact NC hp hr h2 (hk _ (by simp))
 .--ql
  obtain⟨x,y,rfl,h2,h3⟩:=iD hx;rw[yu h2,kf h3];obtain⟨r,hr2,hz⟩:=pT hp;exact .pure hr hz (fun _=>U8 hr2) (xi _ _) trivial
 .--index
  rename_i ag n0 sz0 n' u v _ i;obtain⟨x,y,rfl,h2,h3⟩:=iD hx;rw[kf h3];obtain⟨hq,hp2⟩:=aJ hp;simp only[ak,beq_iff_eq]at hq;obtain⟨⟨⟨⟨rfl,rfl⟩,q3⟩,q4⟩,q5⟩:=hq;obtain⟨m,hm,hz⟩:=pT hp2;obtain⟨rfl,hm2⟩:=dO.1 hm;rw[YP h2];obtain⟨a1,a2⟩:=Gn v hm2;have hc:If s.heap ag (bU u) (.x u (gt v.1 m))=true:=by simp[If,u7,Bg,iw,q3,q4,q5]
  obtain⟨x,e1,e2⟩:=qj (cs:=(aR (.ar n' u) v).map .d) (off:=m*bU u) (cw:=(aR u (gt v.1 m)).map .d) hc ⟨q4,rfl⟩ (by simpa using a1) (by rw[<-gV,<-iM,a2]);refine .pure hr hz (x:=x) (fun _=>?_) e2 trivial;simp only[aK,aZ,ci,ce];simp_all
 .--append
  obtain⟨x,y,rfl,h2,h3⟩:=iD hx;exact Gq (t0:=t) hp hr h2 (hk _ (by simp)) (ha _ (by simp)) h3 (hk _ (by simp)) (ha _ (by simp))
 .obtain ⟨x,y,rfl,h2,h3⟩:=iD hx;exact Lp (t0:=t) hp hr h2 (hk _ (by simp)) (ha _ (by simp)) h3 (hk _ (by simp)) (ha _ (by simp))
 .--clear
  obtain⟨y,rfl,h2⟩:=ie hx;exact Ib hp hr h2 (hk _ (by simp)) (ha _ (by simp))
 .--makeMap
  obtain rfl:=lc hx;split at hp
  .rename_i kt vt;obtain⟨hq,hp2⟩:=aJ hp;simp only[ak,beq_iff_eq]at hq;obtain⟨⟨⟨rfl,rfl⟩,q3⟩,q4⟩:=hq;obtain⟨ks,hks⟩:=Option.isSome_iff_exists.1 q4;exact .new hr hp2 (x:=.c (.om s.next)) (fun _=>rfl) ⟨q3,⟨ks,hks⟩,rfl⟩ trivial (bW (dv rfl rfl)) (aQ _) fun i hi=>by simp at hi
  .simp at hp
 .obtain ⟨x,y,rfl,h2,h3⟩:=iD hx;exact H3 hr h2 h3 hp
 .obtain ⟨x,y,w,rfl,h2,h3,h4⟩:=L0 hx;rw[kf h3];exact F0 hr h2 h4 hp
 .obtain ⟨x,y,w,rfl,h2,h3,h4⟩:=L0 hx;exact KL hr h2 h3 h4 hp
 .obtain ⟨x,y,rfl,h2,h3⟩:=iD hx;exact KR hr h2 h3 hp
 .simp at hp
end
end Go.Ev
