/- Operations that do not fail, against the abstract machine's, second part. Conditions: as stated. -/
import Derived.Test.YtingpmogbibghaaFh
open Bool renaming and_eq_true->ae,and_eq_true_iff->bQ,and_true->Kk
open List renaming append_assoc->aI,cons_append->aK,drop_drop->cj,flatMap_cons->aZ,flatten_cons->cE,getElem?_eq_getElem->ap,length_append->bh,length_cons->dk,length_eq_zero_iff->aV,length_map->aH,map->hZ,map_append->LZ,map_cons->am,map_drop->dO,map_map->gX,map_nil->aO,map_take->eE,mem_append->ah,mem_append_left->az,mem_append_right->av,mem_cons->aE,mem_cons_of_mem->aq,mem_cons_self->cM,mem_singleton->ao,nil_append->bc,not_mem_nil->fW,replicate->au,replicate_succ->eU,singleton_append->aP
open List.cons renaming inj->bz,injEq->cf
open Nat renaming add_assoc->bK,add_mul->bf,le_of_ble_eq_true->fx,le_refl->ai,le_succ->a_,lt_succ_self->aN
open Option.some renaming inj->aa,injEq->bp
open Prod.mk renaming inj->ad
open Sigma.mk renaming inj->fG
namespace Go.Ev
section
variable{h:H2}{n:Nat}{h1:aY}
theorem Gg{a b:Value}(he:IX a b=true):a=b:=by unfold IX at he;split at he<;>simp_all
theorem lp:∀{a b:List Value},mT a b=true->a=b:=by
 intro a;induction a with
 |nil=>intro b he;cases b<;>first|rfl|(simp[mT]at he)
 |cons x a ih=>intro b he;cases b with|nil=>simp[mT]at he|cons y b=>simp only[mT,ae]at he;rw[Gg he.1,ih he.2]
theorem me(a b:List Value):db (a++b)=db a++db b:=by simp[db]
theorem lm:∀(t:Ty),L_ t=true->aJ t (lX t)=bO (iU t):=by
 intro t;induction t with
 |pr a c iha ihc=>intro hd;simp only[L_,ae]at hd;simp[aJ,lX,iU,bO,iha hd.1,ihc hd.2]
 |st t ih=>intro hd;exact ih hd
 |ar m t ih=>intro hd;have e:=ih hd;simp only[aJ,lX,iU];clear hd ih;induction m with|zero=>rfl|succ m ihm=>simp only[eU,aZ,cE,e,bO,LZ]at ihm|-;rw[ihm]
 |o k=>intro hd;simp[L_]at hd
 |mp k v=>intro hd;simp[L_]at hd
 |_=>intro _;rfl
theorem NF:∀(t:Ty),(cL (tj t).1 false t=true->cY h (tj t).1 (db (iU t))/\cX n h (tj t).1)/\(cL (tj t).2 true t=true->cY h (tj t).2 (db (iU t))/\cX n h (tj t).2):=by
 have one:∀(t:Ty)(v:V),(cY h v (db (iU t))/\cX n h v)->(cY h (.co v .ni) (db (iU t))/\cX n h (.co v .ni)):=fun t v hv=>⟨⟨_,[],by simp,hv.1,rfl⟩,hv.2,trivial⟩;have dt:∀(t:Ty),L_ t=true->cY h (.x t (lX t)) (db (iU t)):=fun t hd=>⟨hd,by rw[lm t hd];simp[db,bO]⟩;intro t;induction t with
 |pr a c iha ihc=>refine⟨fun hf=>by simp[tj,cL]at hf,fun hf=>?_⟩;simp only[tj,cL,ae]at hf;obtain⟨q1,q3⟩:=iha.1 hf.1;obtain⟨q4,q5⟩:=ihc.2 hf.2;exact⟨⟨_,_,me _ _,q1,q4⟩,q3,q5⟩
 |st t ih=>cases hd:L_ t with|true=>have:=dt (.st t) hd;simp only[tj,hd,cond_true];exact⟨fun _=>⟨this,trivial⟩,fun _=>one (.st t) _ ⟨this,trivial⟩⟩|false=>simp only[tj,hd,cond_false];exact⟨fun hf=>ih.2 hf,fun hf=>one (.st t) _ (ih.2 hf)⟩
 |sl t ih=>cases hd:L_ t with|true=>have:=dt (.sl t) hd;simp only[tj,hd,cond_true];exact⟨fun _=>⟨this,trivial⟩,fun _=>one (.sl t) _ ⟨this,trivial⟩⟩|false=>simp only[tj,hd,cond_false];exact⟨fun _=>⟨rfl,trivial⟩,fun _=>one (.sl t) _ ⟨rfl,trivial⟩⟩
 |ar m t ih=>cases hd:L_ t with|true=>have:=dt (.ar m t) hd;simp only[tj,hd,cond_true];exact⟨fun _=>⟨this,trivial⟩,fun _=>one (.ar m t) _ ⟨this,trivial⟩⟩|false=>simp only[tj,hd,cond_false];exact⟨fun hf=>by simp[cL]at hf,fun hf=>by simp[cL]at hf⟩
 |o k=>
  have:cY h (.nl k) (db (iU (.o k))):=by
   show db (iU (.o k))=[vF k]
   rcases k with _|_|_|_|k<;>rfl
  exact⟨fun _=>⟨this,trivial⟩,fun _=>one (.o k) _ ⟨this,trivial⟩⟩
 |mp k v=>exact⟨fun _=>⟨rfl,trivial⟩,fun _=>one (.mp k v) _ ⟨rfl,trivial⟩⟩
 |un=>exact⟨fun _=>⟨dt .un rfl,trivial⟩,fun _=>one .un _ ⟨dt .un rfl,trivial⟩⟩
 |i k=>exact⟨fun _=>⟨dt (.i k) rfl,trivial⟩,fun _=>one (.i k) _ ⟨dt (.i k) rfl,trivial⟩⟩
 |b=>exact⟨fun _=>⟨dt .b rfl,trivial⟩,fun _=>one .b _ ⟨dt .b rfl,trivial⟩⟩
 |s=>exact⟨fun _=>⟨dt .s rfl,trivial⟩,fun _=>one .s _ ⟨dt .s rfl,trivial⟩⟩
 |f k=>exact⟨fun _=>⟨dt (.f k) rfl,trivial⟩,fun _=>one (.f k) _ ⟨dt (.f k) rfl,trivial⟩⟩
theorem qJ{t:Ty}{v w:V}{cs:List C}(hw:DX t v=some w)(hv:cY h v cs)(hk:cX n h v):cY h w cs/\cL w false t=true/\cX n h w/\mu w=mu v:=by
 unfold DX at hw;split at hw
 .rename_i y hy;obtain rfl:=aa hw;cases hd:L_ t with|false=>rw[hd]at hy;simp at hy|true=>rw[hd,cond_true]at hy;exact⟨⟨hd,j9 hy hv⟩,by simp[cL],trivial,(wA hy).symm⟩
 .cases hf:cL v false t with|false=>rw[hf]at hw;simp at hw|true=>rw[hf,cond_true]at hw;obtain rfl:=aa hw;exact⟨hv,hf,hk,rfl⟩
theorem Dy{t:Ty}{v:V}{y:El t}(hy:eJ t v=some y):EC v:=by cases v<;>first|trivial|(simp[eJ]at hy)
theorem E1{t:Ty}{v:V}(hf:cL v false t=true):EC v:=by cases v<;>first|trivial|(cases t<;>simp[cL]at hf)
theorem xR{t:Ty}{v w:V}(hw:DX t v=some w):EC v:=by
 unfold DX at hw;split at hw
 .rename_i y hy;cases hd:L_ t with|false=>rw[hd]at hy;simp at hy|true=>rw[hd,cond_true]at hy;exact Dy hy
 .cases hf:cL v false t with|false=>rw[hf]at hw;simp at hw|true=>exact E1 hf
theorem G6{t:Ty}{v:V}(hf:cL v false t=true)(ha:iS t=true):mu v=true:=by
 cases t<;>simp[iS]at ha
 all_goals(cases v<;>first|rfl|(simp[cL]at hf;done)|skip)
 .simp only[cL,decide_eq_true_eq]at hf;subst hf;rfl
 .simp only[cL,decide_eq_true_eq]at hf;subst hf;rfl
theorem DC{t:Ty}:∀(is:List Nat)(ps:List (Nat×Nat))(ws:List V)(c c':V)(cs:List C)(xs:List TV),pQ t is ps ws c=some c'->cL c false t=true->cY h c cs->cX n h c->ig h ws xs->(∀w∈ws,cX n h w)->
  ∃cs',iL cs (ps.zip xs)=some cs'/\cY h c' cs'/\cX n h c'/\cL c' false t=true:=by
 intro is;induction is with
 |nil=>
  intro ps ws c c' cs xs hb hf hc hk hx hw;cases ps with
  |cons p ps=>simp[pQ]at hb
  |nil=>cases ws with|cons w ws=>simp[pQ]at hb|nil=>obtain rfl:=aa hb;exact⟨cs,by simp[iL],hc,hk,hf⟩
 |cons i is ih=>
  intro ps ws c c' cs xs hb hf hc hk hx hw;cases ps with
  |nil=>simp[pQ]at hb
  |cons p ps=>
   obtain⟨off,m⟩:=p;cases ws with
   |nil=>simp[pQ]at hb
   |cons w ws=>
    obtain⟨x,ys,rfl,hx1,hx2⟩:=dK hx;have hw1:=hw w (by simp)
    have jQ:∀(pe:Pe)(a:Ty),Sf t [pe]=some a->Aw t [pe]->iE t [pe]=off->bn a=m->(match DX a w with|some w=>(match jm c [pe] w with|some c=>bif cL c false t then pQ t is ps ws c else none|none=>none)|none=>none)=some c'->
      ∃cs',iL cs (((off,m),x)::ps.zip ys)=some cs'/\cY h c' cs'/\cX n h c'/\cL c' false t=true:=by
     intro pe a h1 h2 h3 h4 hb;split at hb
     .rename_i w1 hw1';obtain⟨cw,q1,q2⟩:=kS (jw (xR hw1') hx1);split at hb
      .rename_i c1 hc1;cases hfc:cL c1 false t with|false=>rw[hfc]at hb;simp at hb|true=>rw[hfc,cond_true]at hb;obtain⟨k1,k2,k3,_⟩:=qJ hw1' q1 hw1;have hl:=eS k1;rw[ei _ _ _ k2,h4]at hl;have hsp:=oL [pe] c t w1 c1 cs cw a hf hc h2 hc1 h1 k1 (by rw[hl,h4]);rw[h3]at hsp;have hle:=oS [pe] t a h1 h2;have hcl:=eS hc;rw[ei _ _ _ hf]at hcl;obtain⟨cs',e1,e2,e3,e4⟩:=ih ps ws c1 c' _ ys hb hfc hsp (TN _ _ _ _ hk k3 hc1) hx2 fun w hw'=>hw w (by simp[hw']);refine⟨cs',?_,e2,e3,e4⟩;simp only[iL,q2];rw[if_pos ⟨hl,by omega⟩,e1]
      .simp at hb
     .simp at hb
    cases t with
    |st u=>
     simp only[pQ]at hb;split at hb
     .rename_i a ha;cases hq:(jA u i==off)&&(bn a==m)with|false=>rw[hq]at hb;simp at hb|true=>rw[hq,cond_true]at hb;simp only[ae,beq_iff_eq]at hq;exact jQ (.fd i) a (by simp[Sf,ha]) ⟨a,ha,by cases a<;>trivial⟩ (by simp only[iE,ha];rw[hq.1];cases a<;>rfl) hq.2 hb
     .simp at hb
    |ar k u=>simp only[pQ]at hb;cases hq:(i*bn u==off)&&(bn u==m)&&decide (i<k)with|false=>rw[hq]at hb;simp at hb|true=>rw[hq,cond_true]at hb;simp only[ae,beq_iff_eq,decide_eq_true_eq]at hq;exact jQ (.ix i) u (by simp[Sf]) ⟨hq.2,by cases u<;>trivial⟩ (by simp only[iE];rw[hq.1.1];cases u<;>rfl) hq.1.2 hb
    |_=>simp[pQ]at hb
end
theorem HD(a b:ByteArray):(a==b)=decide (a=b):=by obtain⟨x⟩:=a;obtain⟨y⟩:=b;show ByteArray.beq ⟨x⟩ ⟨y⟩=_;unfold ByteArray.beq;rw[Bool.eq_iff_iff];simp[ByteArray.ext_iff]
def oA(t:Ty)(x:El t):List Value:=(aJ t x).map fun|.lit y=>y|_=>.nilFunc
theorem Nr{k1 k2:List Kd}{a1 a2 b1 b2:List Value}{p q:Bool}(h1:QK k1 a1 b1=some p)(h2:QK k2 a2 b2=some q):QK (k1++k2) (a1++a2) (b1++b2)=some (p&&q):=by
 induction k1 generalizing a1 b1 p with
 |nil=>cases a1<;>cases b1<;>simp[QK]at h1;subst h1;simpa using h2
 |cons k k1 ih=>
  cases a1<;>cases b1<;>simp only[QK]at h1<;>first|cases h1;done|skip
  split at h1
  .rename_i c d hc hd;obtain rfl:=aa h1;simp only[aK,QK,hc,ih hd,Bool.and_assoc]
  .simp at h1
theorem qW{k1 k2:List Kd}{a1 a2:List Value}(h1:pZ k1 a1=true)(h2:pZ k2 a2=true):pZ (k1++k2) (a1++a2)=true:=by
 induction k1 generalizing a1 with
 |nil=>cases a1<;>simp[pZ]at h1;simpa using h2
 |cons k k1 ih=>
  cases a1<;>simp only[pZ]at h1<;>first|cases h1;done|skip
  simp only[ae]at h1;simp[pZ,h1.1,ih h1.2]
theorem pY:∀(t:Ty)(ks:List Kd),vU t=some ks->(∀x,aJ t x=(oA t x).map .lit)/\(∀x,pZ ks (oA t x)=true)/\(∀a b:El t,QK ks (oA t a) (oA t b)=some (decide (a=b)))/\ks.length=bn t:=by
 intro t;induction t with
 |pr a c iha ihc=>
  intro ks hk;simp only[vU]at hk;split at hk
  .rename_i x y hx hy;obtain rfl:=aa hk;obtain⟨a1,a2,a3,a4⟩:=iha x hx;obtain⟨c1,c2,c3,c4⟩:=ihc y hy;have e:∀v:El (.pr a c),oA (.pr a c) v=oA a v.1++oA c v.2:=fun v=>by simp[oA,aJ]
   refine⟨fun v=>by rw[e,LZ,<-a1,<-c1];rfl,fun v=>by rw[e];exact qW (a2 _) (c2 _),fun u v=>?_,by simp[bn,a4,c4]⟩;rw[e,e,Nr (a3 _ _) (c3 _ _)];congr 1;rw[Bool.eq_iff_iff];simp[Prod.ext_iff]
  .simp at hk
 |st t ih=>intro ks hk;exact ih ks hk
 |ar m t ih=>
  intro ks hk;simp only[vU]at hk;split at hk
  .rename_i x hx;obtain rfl:=aa hk;obtain⟨a1,a2,a3,a4⟩:=ih x hx;have e:∀v:El (.ar m t),oA (.ar m t) v=v.1.flatMap (oA t):=fun v=>by simp only[oA,aJ,List.map_flatMap];rfl
   refine⟨fun v=>?_,fun v=>?_,fun u v=>?_,?_⟩
   .rw [e];simp only[aJ,List.map_flatMap];congr 1;funext y;exact a1 y
   .rw [e];obtain⟨l,hl⟩:=v;clear e hk ih;simp only;induction l generalizing m with|nil=>subst hl;rfl|cons y l ihl=>subst hl;simp only[dk,eU,cE,aZ];exact qW (a2 y) (ihl _ rfl)
   .rw [e,e];obtain⟨l,hl⟩:=u;obtain⟨r,hr⟩:=v
    have key:∀(m:Nat)(l r:List (El t)),l.length=m->r.length=m->QK (au m x).flatten (l.flatMap (oA t)) (r.flatMap (oA t))=some (decide (l=r)):=by
     intro m;induction m with
     |zero=>intro l r h1 h2;obtain rfl:=aV.1 h1;obtain rfl:=aV.1 h2;rfl
     |succ m ihm=>
      intro l r h1 h2;cases l with
      |nil=>simp at h1
      |cons y l=>cases r with|nil=>simp at h2|cons z r=>simp only[eU,cE,aZ];rw[Nr (a3 y z) (ihm l r (by simpa using h1) (by simpa using h2))];congr 1;rw[Bool.eq_iff_iff];simp
    rw[key m l r hl hr];congr 1;rw[Bool.eq_iff_iff];simp only[decide_eq_true_eq];exact⟨fun h=>Subtype.ext h,fun h=>congrArg Subtype.val h⟩
   .simp [bn,a4]
  .simp at hk
 |i k=>intro ks hk;obtain rfl:=aa hk;refine⟨fun _=>rfl,fun x=>by simp[oA,aJ,pZ,AM],fun a b=>?_,rfl⟩;simp only[oA,aJ,am,aO,QK,uF,and_self,if_true,Kk];congr 1
 |b=>intro ks hk;obtain rfl:=aa hk;refine⟨fun _=>rfl,fun x=>by simp[oA,aJ,pZ,AM],fun a b=>?_,rfl⟩;simp only[oA,aJ,am,aO,QK,uF,Kk];congr 1
 |s=>intro ks hk;obtain rfl:=aa hk;refine⟨fun _=>rfl,fun x=>by simp[oA,aJ,pZ,AM],fun a b=>?_,rfl⟩;simp only[oA,aJ,am,aO,QK,uF,Kk];rw[HD]
 |_=>intro ks hk;simp[vU]at hk
section
variable{h:H2}{n:Nat}{h1:aY}
theorem Bn{z:Bool}{op:BinOp}{k k':IntKind}{a b:Int}{v:V}(hb:HB z op k k' a b=some v)(hz:z=true->0<b):∃y,jr op (.int k a) (.int k' b)=some y/\dD h v (lv y)/\cX n h v:=by
 have one:∀(q:IntKind)(c:Int),dD h (.x (.i q) c) (lv (.int q c)):=fun q c=>bA (cn rfl ⟨rfl,rfl⟩);have onb:∀(c:Bool),dD h (.x .b c) (lv (.bool c)):=fun c=>bA (cn rfl ⟨rfl,rfl⟩);cases op<;>simp only[HB]at hb
 all_goals first
  |(cases z<;>simp only[cond_true,cond_false]at hb<;>first|(cases hb;done)|skip
    have:=hz rfl;obtain rfl:=aa hb;refine⟨_,by simp only[jr];rw[if_neg (by omega)];rfl,one _ _,trivial⟩)
  |skip
 all_goals
  by_cases hk:k=k'
  .subst hk;simp only[decide_true,cond_true]at hb
   first
    |(cases hb;done)
    |(obtain rfl:=aa hb
      refine⟨_,by simp only[jr,if_true];rfl,?_,trivial⟩
      first|exact one _ _|exact onb _)
    |(obtain rfl:=aa hb
      first
       |exact⟨.int k (HI k a b),by simp only[jr,if_true,Fs];rfl,one _ _,trivial⟩
       |exact⟨.int k (Jz k a b),by simp only[jr,if_true,HH];rfl,one _ _,trivial⟩
       |exact⟨.int k (HE k a b),by simp only[jr,if_true,Fq];rfl,one _ _,trivial⟩
       |exact⟨.int k (Y7 k a b),by simp only[jr,if_true,yL];rfl,one _ _,trivial⟩)
    |(cases z<;>simp only[cond_true,cond_false]at hb<;>first|(cases hb;done)|skip
      have:=hz rfl;obtain rfl:=aa hb;refine⟨_,by simp only[jr,if_true];rw[if_neg (by omega)],one _ _,trivial⟩)
  .simp [hk]at hb
theorem uN{h:H2}{k:FloatKind}{a:Nat}{x:TV}(hx:dD h (.x (.f k) a) x):x=lv (.float k a):=by obtain⟨c,rfl,_,hc⟩:=ft (v:=.x (.f k) a) hx rfl;obtain rfl:=(bz hc).1;rfl
theorem yI{op:BinOp}{k k':FloatKind}{a b:Nat}{v:V}(hb:DE op k k' a b=some v):∃y,MB op (.float k a) (.float k' b)=some y/\dD h v (lv y)/\cX n h v:=by
 have one:∀(q:FloatKind)(c:Nat),dD h (.x (.f q) c) (lv (.float q c)):=fun q c=>bA (cn rfl ⟨rfl,rfl⟩);have onb:∀(c:Bool),dD h (.x .b c) (lv (.bool c)):=fun c=>bA (cn rfl ⟨rfl,rfl⟩);unfold DE at hb;by_cases hk:k=k'
 .subst hk;simp only[decide_true,cond_true]at hb;have ar:∀(f:Option Nat),∃y,(match f.map (Value.float k)with|some v=>some v|none=>if f=none then some (Value.float k (Sy k))else none)=some y/\dD h (.x (.f k) (f.getD (Sy k))) (lv y)/\cX n h (.x (.f k) (f.getD (Sy k))):=by intro f;cases f with|none=>exact⟨_,rfl,one _ _,trivial⟩|some c=>exact⟨_,rfl,one _ _,trivial⟩
  cases op<;>first
   |(cases hb;done)
   |(obtain rfl:=aa hb
     first
      |exact⟨_,by simp only[MB,jr,if_true];rfl,onb _,trivial⟩
      |(simp only[MB,jr,tT,if_true]
        first|exact ar (k.format.add a b)|exact ar (k.format.sub a b)|exact ar (k.format.mul a b)|exact ar (k.format.div a b)))
 .simp [hk]at hb
theorem AC{m:Bool}{k:FloatKind}:∀{r:List V}{x y:Nat}{xs:List TV},AD m k x r=some y->ig h r xs->Cp m (.float k x) (xs.map some)=some (.float k y):=by
 intro r;induction r with
 |nil=>intro x y xs hm hx;obtain rfl:=gK hx;obtain rfl:=aa hm;rfl
 |cons v r ih=>
  intro x y xs hm hx;obtain⟨x1,ys,rfl,h1,h2⟩:=dK hx;cases v with
  |x t c=>
   cases t with
   |f k'=>
    simp only[AD]at hm;by_cases hk:k'=k
    .subst hk;simp only[decide_true,cond_true]at hm;obtain rfl:=uN h1;have:=ih hm h2;have e:uD m (.float k' x) (.float k' c)=some (.float k' (bif m then G8 k' x c else G7 k' x c)):=by cases m<;>simp only[uD,G8,G7,cond_true,cond_false,if_true]<;>(cases k'.format.order x c with|none=>rfl|some o=>cases o<;>rfl)
     simp only[am,lv,Cp,e];exact this
    .simp [hk]at hm
   |_=>simp[AD]at hm
  |_=>simp[AD]at hm
theorem Bm{op:BinOp}{a b:ByteArray}{v:V}(hb:HA op a b=some v):∃y,jr op (.string a) (.string b)=some y/\dD h v (lv y)/\cX n h v:=by
 have onb:∀(c:Bool),dD h (.x .b c) (lv (.bool c)):=fun c=>bA (cn rfl ⟨rfl,rfl⟩);cases op<;>simp only[HA]at hb<;>first|(cases hb;done)|skip
 all_goals(obtain rfl:=aa hb;exact⟨_,rfl,onb _,trivial⟩)
theorem Cq{m:Bool}{k:IntKind}:∀{r:List V}{x y:Int}{xs:List TV},HZ m k x r=some y->ig h r xs->Cp m (.int k x) (xs.map some)=some (.int k y):=by
 intro r;induction r with
 |nil=>intro x y xs hm hx;obtain rfl:=gK hx;obtain rfl:=aa hm;rfl
 |cons v r ih=>
  intro x y xs hm hx;obtain⟨x1,ys,rfl,h1,h2⟩:=dK hx;cases v with
  |x t c=>
   cases t with
   |i k'=>
    simp only[HZ]at hm;by_cases hk:k'=k
    .subst hk;simp only[decide_true,cond_true]at hm;obtain rfl:=ge h1;have:=ih hm h2;cases m<;>simpa[Cp,uD]using this
    .simp [hk]at hm
   |_=>simp[HZ]at hm
  |_=>simp[HZ]at hm
theorem iQ{α:Type}:∀(l:List α),cD (l.map some)=some l:=by intro l;induction l with|nil=>rfl|cons a l ih=>simp[cD,ih]
theorem Ck{kind:Nat}{v w:V}{x:TV}{neg:Bool}{c:Call}{nx:Nat}(hx:dD h v x)(ha:eT h v=true)(hn:qM h kind v=some w):
  ∃y,bD c (.lc kind neg) [some x] h1 nx=some (y,[],[],nx)/\dD h (bif neg then Cm w else w) y/\cX n h (bif neg then Cm w else w):=by
 have kb:∀b,dD h (.kb b) (tB b):=fun b=>bA (cn rfl rfl);have xb:∀b,dD h (.x .b b) (tB b):=fun b=>bA (cn rfl ⟨rfl,rfl⟩)
 have sl:∀q,mU h v=some q->(bif kind==0 then(match mU h v with|some ⟨_,s,_⟩=>some (.x .b s.QH)|none=>none)else none)=some w->
   ∃y,bD c (.lc kind neg) [some x] h1 nx=some (y,[],[],nx)/\dD h (bif neg then Cm w else w) y/\cX n h (bif neg then Cm w else w):=by
  intro q hq hw;cases hkk:kind==0 with
  |false=>rw[hkk]at hw;simp at hw
  |true=>
   obtain rfl:kind=0:=by simpa using hkk
   rw[hq]at hw;simp only[hkk,cond_true]at hw;obtain rfl:=aa hw;refine⟨_,GL hx ha hq,?_⟩;cases neg
   .exact ⟨xb _,trivial⟩
   .exact ⟨xb _,trivial⟩
 cases v with
 |nl k=>
  simp only[qM]at hn;cases hkk:(k==kind)&&Nat.blt k 3 with
  |false=>rw[hkk]at hn;simp at hn
  |true=>
   rw[hkk,cond_true]at hn;obtain rfl:=aa hn;simp only[ae,beq_iff_eq]at hkk;obtain⟨rfl,hlt⟩:=hkk;have hlt:k<3:=fx hlt;rw[oG hx]
   match k,hlt with|0,_=>cases neg<;>exact⟨_,rfl,kb _,trivial⟩|1,_=>cases neg<;>exact⟨_,rfl,kb _,trivial⟩|2,_=>cases neg<;>exact⟨_,rfl,kb _,trivial⟩
 |pt t v=>
  simp only[qM]at hn;cases hkk:kind==1 with
  |false=>rw[hkk]at hn;simp at hn
  |true=>
   rw[hkk,cond_true]at hn;obtain rfl:=aa hn;obtain rfl:kind=1:=by simpa using hkk
   rw[(qg hx).2];cases neg<;>exact⟨_,rfl,kb _,trivial⟩
 |op id t p=>
  simp only[qM]at hn;cases hkk:kind==1 with
  |false=>rw[hkk]at hn;simp at hn
  |true=>
   rw[hkk,cond_true]at hn;obtain rfl:=aa hn;obtain rfl:kind=1:=by simpa using hkk
   rw[oF hx];cases neg<;>exact⟨_,rfl,kb _,trivial⟩
 |ep id m t p=>
  simp only[qM]at hn;cases hkk:kind==1 with
  |false=>rw[hkk]at hn;simp at hn
  |true=>
   rw[hkk,cond_true]at hn;obtain rfl:=aa hn;obtain rfl:kind=1:=by simpa using hkk
   rw[lZ hx];cases neg<;>exact⟨_,rfl,kb _,trivial⟩
 |fn z f l=>
  simp only[qM]at hn;cases hkk:kind==2 with
  |false=>rw[hkk]at hn;simp at hn
  |true=>
   rw[hkk,cond_true]at hn;obtain rfl:=aa hn;obtain rfl:kind=2:=by simpa using hkk
   rcases Of hx with⟨_,ds,_,rfl⟩|⟨_,cs,_,rfl⟩<;>(cases neg<;>exact⟨_,rfl,kb _,trivial⟩)
 |x t v=>cases hq:mU h (.x t v)with|none=>simp[qM,hq]at hn|some q=>exact sl q hq hn
 |so id=>cases hq:mU h (.so id)with|none=>simp[qM,hq]at hn|some q=>exact sl q hq hn
 |sb id ver lo t r=>cases hq:mU h (.sb id ver lo t r)with|none=>simp[qM,hq]at hn|some q=>exact sl q hq hn
 |_=>simp[qM,mU]at hn
theorem C9{off m i:Nat}{v w:V}{x:TV}{c:Call}{nx:Nat}(hx:dD h v x)(hk:cX n h v)(hw:yd off m i v=some w):
  ∃y,bD c (.fieldAddr off m) [some x] h1 nx=some (y,[],[],nx)/\dD h w y/\cX n h w:=by
 have path:∀(t u a:Ty)(p:ki),Sf t p=some (.st u)->uE u i=some a->Aw t p->Aw t (p++[.fd i])/\iE t (p++[.fd i])=iE t p+jA u i:=by
  intro t u a p;induction p generalizing t with
  |nil=>
   intro h1 h2 _;have e:Sf t []=some t:=by cases t<;>rfl
   obtain rfl:t=.st u:=by rw[e]at h1;exact aa h1
   refine⟨⟨a,h2,by cases a<;>trivial⟩,?_⟩;simp only[bc,iE,h2];cases a<;>simp[iE]
  |cons q p ih=>
   intro h1 h2 h3;cases q with
   |fd j=>cases t with|st t=>obtain⟨b2,hb,h3⟩:=h3;simp only[Sf,hb]at h1;obtain⟨q1,q2⟩:=ih b2 h1 h2 h3;refine⟨⟨b2,hb,q1⟩,?_⟩;simp only[aK,iE,hb,q2];exact(bK _ _ _).symm|_=>exact h3.elim
   |ix k=>cases t with|ar l t=>obtain⟨hk,h3⟩:=h3;obtain⟨q1,q2⟩:=ih t h1 h2 h3;refine⟨⟨hk,q1⟩,?_⟩;simp only[aK,iE,q2];exact(bK _ _ _).symm|_=>exact h3.elim
 cases v with
 |op id t p=>
  simp only[yd]at hw;split at hw
  .rename_i u hu;split at hw
   .rename_i a hf;cases hq:(jA u i==off)&&(bn a==m)with
    |false=>rw[hq]at hw;simp at hw
    |true=>
     rw[hq,cond_true]at hw;obtain rfl:=aa hw;simp only[ae,beq_iff_eq]at hq;obtain⟨q1,q2⟩:=path t u a p hu hf hk.2;rw[oF hx];refine⟨_,rfl,bA (cn rfl ?_),hk.1,q1⟩;show[_]=[_]
     rw[q2,hq.1]
   .simp at hw
  .simp at hw
 |ep id k t p=>
  simp only[yd]at hw;split at hw
  .rename_i u hu;split at hw
   .rename_i a hf;cases hq:(jA u i==off)&&(bn a==m)with
    |false=>rw[hq]at hw;simp at hw
    |true=>
     rw[hq,cond_true]at hw;obtain rfl:=aa hw;simp only[ae,beq_iff_eq]at hq;obtain⟨q1,q2⟩:=path t u a p hu hf hk.2.1;rw[lZ hx];refine⟨_,rfl,bA (cn rfl ?_),hk.1,q1,hk.2.2⟩;show[_]=[_]
     rw[q2,hq.1]
   .simp at hw
  .simp at hw
 |pt t v=>
  cases t with
  |st u=>
   simp only[yd]at hw;split at hw
   .rename_i a y hy;cases hq:(jA u i==off)&&(bn a==m)with
    |false=>rw[hq]at hw;simp at hw
    |true=>
     rw[hq,cond_true]at hw;obtain rfl:=aa hw;simp only[ae,beq_iff_eq]at hq;obtain⟨a',y',e,f1,f2,f3⟩:=k8 _ _ _ _ hy;cases e;obtain⟨hd,rfl⟩:=qg hx;refine⟨_,?_,bA (cn (c:=.d (.pt (aJ a y))) rfl ⟨rm u _ _ hd f1,rfl⟩),trivial⟩;have hle:off+m<=(aJ (.st u) v).length:=by rw[bg];show _<=bn u;omega
     have e2:((aJ (.st u) v).drop off).take m=aJ a y:=by rw[<-hq.1,<-hq.2];exact f3
     simp only[bD,Xr];rw[if_pos hle,e2]
   .simp at hw
  |_=>simp[yd]at hw
 |_=>simp[yd]at hw
theorem Az:∀(l:V)(i:Nat)(w:V)(cs:List C),cY h l cs->lS l i=some w->∃cw,cY h w cw/\EZ l i+qj w<=cs.length/\(cs.drop (EZ l i)).take (qj w)=cw:=by
 intro l;induction l with
 |co a r iha ihr=>intro i w cs hv hw;obtain⟨x,y,rfl,k1,k2⟩:=hv;have hl:=eS k1;cases i with|zero=>obtain rfl:=aa hw;refine⟨x,k1,by simp[EZ];omega,?_⟩;simp only[EZ,List.drop_zero];rw[<-hl,List.take_left]|succ i=>obtain⟨cw,q1,q2,q3⟩:=ihr i w y k2 hw;refine⟨cw,q1,by simp only[EZ,bh];omega,?_⟩;simp only[EZ];rw[<-cj,<-hl,List.drop_left,q3]
 |_=>intro i w cs hv hw;simp[lS]at hw
theorem EL:∀(l:V)(i:Nat)(w:V)(xs:List TV),tu h l xs->lS l i=some w->∃x,xs[i]?=some x/\Yz h w x:=by
 intro l;induction l with
 |co a r iha ihr=>intro i w xs hv hw;obtain⟨x,ys,rfl,k1,k2⟩:=hv;cases i with|zero=>obtain rfl:=aa hw;exact⟨x,rfl,k1⟩|succ i=>exact ihr i w ys k2 hw
 |_=>intro i w xs hv hw;simp[lS]at hw
end
section
variable{h:H2}{n:Nat}{h1:aY}
def HP(h:H2)(n:Nat)(h1:aY)(k:K)(xs:List TV)(v:V)(l:List Nat):Prop:=∀(c:Call)(nx:Nat),∃x aj,bD c k (xs.map some) h1 nx=some (x,[],aj,nx)/\dD h v x/\cX n h v/\∀i∈aj,i∈l
theorem HP.of{k:K}{xs:List TV}{v:V}{x:TV}(he:∀(c:Call)(nx:Nat),bD c k (xs.map some) h1 nx=some (x,[],[],nx))(hx:dD h v x)(hk:cX n h v):HP h n h1 k xs v []:=fun c nx=>⟨x,[],he c nx,hx,hk,fun i hi=>by simp at hi⟩
theorem xb(b:Bool):dD h (.x .b b) (tB b):=bA (cn rfl ⟨rfl,rfl⟩)
theorem xf(k:FloatKind)(a:Nat):dD h (.x (.f k) a) (lv (.float k a)):=bA (cn rfl ⟨rfl,rfl⟩)
theorem xi(k:IntKind)(a:Int):dD h (.x (.i k) a) (tI k a):=bA (cn rfl ⟨rfl,rfl⟩)
theorem HV(a:ByteArray):dD h (.x .s a) (.c (.d (dS a))):=bA (cn rfl ⟨rfl,rfl⟩)
def HW(t:Ty)(y:El t):TV:=if iS t=true then .agg ((aJ t y).map .d)else match aJ t y with|d::_=>.c (.d d)|[]=>.fm []
theorem yV{t:Ty}(y:El t){va:Bool}(hv:iS t=va)(h1:(va||bn t==1)=true):jO va (aJ t y)=some (HW t y):=by
 subst hv;unfold jO HW;cases ha:iS t with
 |true=>rfl
 |false=>
  rw[ha]at h1;have:=bg t y;rw[show bn t=1 by simpa using h1]at this;cases he:aJ t y with
  |nil=>rw[he]at this;simp at this
  |cons d r=>
   rw[he]at this;have:r=[]:=by simpa using this
   subst this;rfl
theorem BC{t:Ty}{y:El t}(hd:L_ t=true)(h1:(iS t||bn t==1)=true):Yz h (.x t y) (HW t y):=by
 unfold HW;cases ha:iS t with
 |true=>exact qh ha ⟨hd,rfl⟩
 |false=>
  rw[ha]at h1;have:=bg t y;rw[show bn t=1 by simpa using h1]at this;cases he:aJ t y with
  |nil=>rw[he]at this;simp at this
  |cons d r=>
   rw[he]at this;have:r=[]:=by simpa using this
   subst this;exact cn ha ⟨hd,by rw[he];rfl⟩
theorem Br(f:TV->Option C)(hf:∀c,f (.c c)=some c):∀(cs:List C),cD ((cs.map TV.c).map f)=some cs:=by intro cs;induction cs with|nil=>rfl|cons c cs ih=>simp only[am,hf,cD,ih]
theorem qU:∀(l:List Value),gZ (l.map fun v=>C.d (.lit v))=some l:=by intro l;induction l with|nil=>rfl|cons v l ih=>simp[gZ,ih]
theorem vR{kt:Ty}{ks:List Kd}{v:V}{x:TV}{y:El kt}{ka:Bool}(hx:dD h v x)(hc:mP kt v=some y)(hk:vU kt=some ks)(ha:iS kt=ka):jz ka ks x=some (oA kt y):=by
 obtain⟨h1,h2,_,h4⟩:=pY kt ks hk;obtain⟨g1,g2⟩:=od hx hc;cases ka with
 |true=>
  rw[g1 ha];have e:(aJ kt y).map C.d=(oA kt y).map fun v=>C.d (.lit v):=by rw[h1 y,gX];rfl
  simp only[jz];rw[if_pos ⟨trivial,by rw[aH,bg,h4]⟩,e,qU];simp only[h2 y,if_true]
 |false=>
  obtain⟨d,hd,rfl⟩:=g2 ha;have hl:=bg kt y;rw[hd]at hl;have h5:=h1 y;rw[hd]at h5;cases hv:oA kt y with
  |nil=>rw[hv]at h5;simp at h5
  |cons q r=>
   rw[hv]at h5;simp only[am,cf]at h5;obtain⟨rfl,h6⟩:=h5;have:r=[]:=by simpa using h6.symm
   subst this;simp only[jz];rw[if_pos ⟨trivial,by rw[h4,<-hl];rfl⟩];have h7:=h2 y;rw[hv]at h7;simp only[gZ,h7,if_true]
theorem Cu{v:V}{q:(k:Ty)×(v:Ty)×Mp (El k) (El v)×List Nat}{x:TV}(hr:HR n h1 h)(hm:EQ h v=some q)(hx:dD h v x):
  ∃id,v=.om id/\x=.c (.om id)/\q.2.2.2=[id]/\fO h id=some (.mp q.1 q.2.1 q.2.2.1)/\ak h1 id=wR (iS q.1) (iS q.2.1) (oA q.1) (aJ q.2.1) q.2.2.1:=by
 cases v with
 |om id=>
  simp only[EQ]at hm;split at hm
  .rename_i k v m ho;obtain rfl:=aa hm;exact⟨id,rfl,Oe hx,rfl,ho,(hr.ob id _ ho).2.1.2.2⟩
  .simp at hm
 |_=>simp[EQ]at hm
theorem Cw{c:Call}{x y:TV}{H:aY}{l:List Nat}{nx:Nat}(h:bD c (.load false 1) [some x] H nx=some (y,[],l,nx)):bD c .m7 [some x] H nx=some (y,[],l,nx):=by
 cases x with
 |c p=>
  have h:(match eH false 1 p H with|some (v,aj)=>some (v,([]:de),aj,nx)|none=>none)=some (y,[],l,nx):=h;show(match eH false 1 p H with|some (v,aj)=>some (v,([]:de),aj,nx)|none=>gU false 1 p H nx)=some (y,[],l,nx);split at h
  .exact h
  .cases h
 |_=>cases h
theorem zY{o:OP}{vs:List V}{v:V}{l:List Nat}{xs:List TV}(hr:HR n h1 h)(ht:Gm o vs h=some (v,l))(hx:ig h vs xs)(hk:∀w∈vs,cX n h w)(ha:∀w∈vs,eT h w=true)
  (hp:EA o.o.args=true->∀a k b,vs=[a,.x (.i k) b]->0<b):HP h n h1 o.o.k xs v l:=by
 obtain⟨⟨d,k,args,g⟩,t,fi⟩:=o;simp only at hp|-;unfold Gm at ht;simp only at ht;split at ht
 .--mv
  obtain⟨rfl,rfl⟩:=ad (aa ht);obtain⟨x,rfl,h2⟩:=eO hx;exact .of (fun _ _=>rfl) h2 (hk _ (by simp))
 .--nilCheck
  obtain⟨x,rfl,h2⟩:=eO hx;have hk1:=hk _ (ao.2 rfl);split at ht
  .obtain ⟨rfl,rfl⟩:=ad (aa ht);exact .of (fun _ _=>by rw[(qg h2).2];rfl) h2 hk1
  .obtain ⟨rfl,rfl⟩:=ad (aa ht);refine .of (fun _ _=>?_) h2 hk1;rcases Of h2 with⟨_,ds,_,rfl⟩|⟨_,cs,_,rfl⟩<;>rfl
  .obtain ⟨rfl,rfl⟩:=ad (aa ht);exact .of (fun _ _=>by rw[lZ h2];rfl) h2 hk1
  .obtain ⟨rfl,rfl⟩:=ad (aa ht);exact .of (fun _ _=>by rw[oF h2];rfl) h2 hk1
  .simp at ht
 .--rB int
  rename_i op q a q' b;obtain⟨x,y,rfl,h2,h3⟩:=fk hx;obtain rfl:=ge h2;obtain rfl:=ge h3;split at ht
  .rename_i w hw;obtain⟨rfl,rfl⟩:=ad (aa ht);obtain⟨y,h4,h5,h6⟩:=Bn (h:=h) (n:=n) hw fun hz=>hp hz _ _ _ rfl;exact .of (fun _ _=>by simp only[hZ,bD,MB,h4]) h5 h6
  .simp at ht
 .--rB float
  rename_i op q a q' b;obtain⟨x,y,rfl,h2,h3⟩:=fk hx;obtain rfl:=uN h2;obtain rfl:=uN h3;split at ht
  .rename_i w hw;obtain⟨rfl,rfl⟩:=ad (aa ht);obtain⟨y,h4,h5,h6⟩:=yI (h:=h) (n:=n) hw;exact .of (fun _ _=>by show(match MB op (.float q a) (.float q' b)with|some v=>some (lv v,([]:de),([]:List Nat),_)|none=>none)=_;rw[h4]) h5 h6
  .simp at ht
 .--rB string
  obtain⟨x,y,rfl,h2,h3⟩:=fk hx;obtain rfl:=pq h2;obtain rfl:=pq h3;split at ht
  .rename_i w hw;obtain⟨rfl,rfl⟩:=ad (aa ht);obtain⟨y,h4,h5,h6⟩:=Bm (h:=h) (n:=n) hw;exact .of (fun _ _=>by simp only[hZ,bD,MB,h4]) h5 h6
  .simp at ht
 .--nA
  rename_i neg v1 v2;obtain⟨x,y,rfl,h2,h3⟩:=fk hx;split at ht
  .rename_i a b ha' hb';obtain⟨rfl,rfl⟩:=ad (aa ht);rw[FZ h2 ha',FZ h3 hb'];refine .of (x:=tB (bif neg then !(a==b)else a==b)) (fun _ _=>?_) (xb _) trivial;cases neg<;>rfl
  .simp at ht
 .--lc
  obtain⟨x,rfl,h2⟩:=eO hx;split at ht
  .rename_i w hw;obtain⟨rfl,rfl⟩:=ad (aa ht);intro c nx;obtain⟨y,h4,h5,h6⟩:=Ck (n:=n) (h1:=h1) (c:=c) (nx:=nx) h2 (ha _ (by simp)) hw;exact⟨y,[],h4,h5,h6,fun i hi=>by simp at hi⟩
  .simp at ht
 .--rh
  rename_i neg ks t1 a w;obtain⟨x,y,rfl,h2,h3⟩:=fk hx;split at ht
  .rename_i b hb;cases hq:iS t1&&decide (vU t1=some ks)with
   |false=>rw[hq]at ht;simp at ht
   |true=>
    rw[hq,cond_true]at ht;obtain⟨rfl,rfl⟩:=ad (aa ht);simp only[ae,decide_eq_true_eq]at hq;obtain⟨k1,k2,k3,k4⟩:=pY t1 ks hq.2;have e1:=(od (v:=.x t1 a) (u:=t1) (y:=a) h2 (by simp[mP,gD,eJ,dT])).1 hq.1;have e2:=(od h3 hb).1 hq.1;have el:∀z:El t1,gZ ((aJ t1 z).map C.d)=some (oA t1 z):=fun z=>by rw[show(aJ t1 z).map C.d=(oA t1 z).map fun v=>C.d (.lit v)by rw[k1 z,gX];rfl,qU]
    rw[e1,e2];refine .of (x:=tB (bif neg then !(decide (a=b))else decide (a=b))) (fun _ _=>?_) (xb _) trivial;simp only[hZ,bD,el,k3];cases neg<;>rfl
  .simp at ht
 .obtain ⟨rfl,rfl⟩:=ad (aa ht);obtain⟨x,rfl,h2⟩:=eO hx;rw[oH h2];exact .of (fun _ _=>rfl) (bA (cn rfl rfl)) trivial
 .obtain ⟨rfl,rfl⟩:=ad (aa ht);obtain⟨x,rfl,h2⟩:=eO hx;rw[yX h2];exact .of (fun _ _=>rfl) (xb _) trivial
 .obtain ⟨rfl,rfl⟩:=ad (aa ht);obtain⟨x,rfl,h2⟩:=eO hx;rw[ge h2];exact .of (fun _ _=>rfl) (xi _ _) trivial
 .obtain ⟨rfl,rfl⟩:=ad (aa ht);obtain⟨x,rfl,h2⟩:=eO hx;rw[uN h2];exact .of (fun _ _=>rfl) (xf _ _) trivial
 .obtain ⟨rfl,rfl⟩:=ad (aa ht);obtain⟨x,rfl,h2⟩:=eO hx;rw[ge h2];exact .of (fun _ _=>rfl) (xi _ _) trivial
 .obtain ⟨rfl,rfl⟩:=ad (aa ht);obtain⟨x,rfl,h2⟩:=eO hx;rw[ge h2];exact .of (fun _ _=>rfl) (xi _ _) trivial
 .obtain ⟨rfl,rfl⟩:=ad (aa ht);obtain⟨x,rfl,h2⟩:=eO hx;rw[ge h2];exact .of (fun _ _=>rfl) (xf _ _) trivial
 .obtain ⟨rfl,rfl⟩:=ad (aa ht);obtain⟨x,rfl,h2⟩:=eO hx;rw[pq h2];exact .of (fun _ _=>rfl) (HV _) trivial
 .--AG
  rename_i f;cases hc:vs.all Fk with
  |false=>rw[hc]at ht;simp at ht
  |true=>
   rw[hc,cond_true]at ht;obtain⟨rfl,rfl⟩:=ad (aa ht);obtain⟨cs,h2,rfl⟩:=BD hx fun w hw=>by have:=List.all_eq_true.1 hc w hw;cases w<;>first|exact⟨trivial,by simp[Fk]at this;exact this⟩|simp[Fk]at this
   refine .of (x:=.c (.jy f cs)) (fun _ _=>?_) (bA (cn rfl ⟨cs,h2,rfl⟩)) ?_
   .simp only[bD,iQ];rw[Br _ fun _=>rfl]
   .clear ht h2 hp ha hc hx;induction vs with|nil=>trivial|cons w vs ih=>exact⟨hk w (by simp),ih fun u hu=>hk u (by simp[hu])⟩
 .--load
  rename_i g m p;obtain⟨x,rfl,h2⟩:=eO hx;split at ht
  .rename_i w l' hl;cases hc:yA h g m w with|false=>rw[hc]at ht;simp at ht|true=>rw[hc,cond_true]at ht;obtain⟨rfl,rfl⟩:=ad (aa ht);intro c nx;obtain⟨y,h3,h4,h5⟩:=oW (c:=c) (nx:=nx) hr hl hc h2 (hk _ (by simp));exact⟨y,_,h3,h4,h5,fun i hi=>hi⟩
  .simp at ht
 .--load of a slice
  obtain⟨x,rfl,h2⟩:=eO hx;split at ht
  .rename_i w l' hl;cases hc:yA h false 1 w with|false=>rw[hc]at ht;simp at ht|true=>rw[hc,cond_true]at ht;obtain⟨rfl,rfl⟩:=ad (aa ht);intro c nx;obtain⟨y,h3,h4,h5⟩:=oW (c:=c) (nx:=nx) hr hl hc h2 (hk _ (by simp));exact⟨y,_,Cw h3,h4,h5,fun i hi=>hi⟩
  .simp at ht
 .--fieldAddr
  obtain⟨x,rfl,h2⟩:=eO hx;split at ht
  .split at ht
   .rename_i w hw;obtain⟨rfl,rfl⟩:=ad (aa ht);intro c nx;obtain⟨y,h3,h4,h5⟩:=C9 (h1:=h1) (c:=c) (nx:=nx) h2 (hk _ (by simp)) hw;exact⟨y,[],h3,h4,h5,fun i hi=>by simp at hi⟩
   .simp at ht
  .simp at ht
 .--field of data
  rename_i g off m u y;obtain⟨x,rfl,h2⟩:=eO hx;split at ht
  .split at ht
   .rename_i i _ w hw;cases hc:(jA u i==off)&&yA h g m w with
    |false=>rw[hc]at ht;simp at ht
    |true=>
     rw[hc,cond_true]at ht;obtain⟨rfl,rfl⟩:=ad (aa ht);simp only[ae,beq_iff_eq]at hc;obtain⟨a,z,rfl,f1,f2,f3⟩:=k8 _ _ _ _ hw;obtain⟨cs,⟨hd,rfl⟩,g1,_⟩:=jw (v:=.x (.st u) y) trivial h2;have hd':L_ u=true:=hd;obtain⟨_,hs,_,_⟩:=jk hc.2;have hs:bn a=m:=hs
     obtain⟨q,h3,h4⟩:=jX (cs:=(aJ u y).map C.d) (off:=off) hc.2 (show cY h (.x a z) ((aJ a z).map .d)from⟨rm u _ _ hd' f1,rfl⟩) (by simp[bg];omega)
      (by rw[<-hc.1,<-hs,<-f3,eE,dO])
     rw[g1 rfl];exact .of (x:=q) (fun _ _=>by show(match vQ g m (((aJ u y).map C.d).drop off)with|some v=>some (v,([]:de),([]:List Nat),_)|none=>none)=_;rw[h3]) h4 trivial
   .simp at ht
  .simp at ht
 .--field of a cU
  rename_i g off m u;obtain⟨x,rfl,h2⟩:=eO hx;split at ht
  .split at ht
   .rename_i i _ w hw;cases hc:(EZ u i==off)&&yA h g m w with|false=>rw[hc]at ht;simp at ht|true=>rw[hc,cond_true]at ht;obtain⟨rfl,rfl⟩:=ad (aa ht);simp only[ae,beq_iff_eq]at hc;obtain⟨cs,hcs,g1,_⟩:=jw (v:=.rc u) trivial h2;obtain⟨cw,q1,q2,q3⟩:=Az u i w cs hcs hw;obtain⟨_,hs,_,_⟩:=jk hc.2;obtain⟨q,h3,h4⟩:=jX (off:=off) hc.2 q1 (by rw[<-hc.1,<-hs];exact q2) (by rw[<-hc.1,<-hs];exact q3);rw[g1 rfl];exact .of (x:=q) (fun _ _=>by show(match vQ g m (cs.drop off)with|some v=>some (v,([]:de),([]:List Nat),_)|none=>none)=_;rw[h3]) h4 (pX u i w (hk (.rc u) (ao.2 rfl)) hw)
   .simp at ht
  .simp at ht
 .--extract
  rename_i i u;obtain⟨x,rfl,h2⟩:=eO hx;split at ht
  .rename_i w hw;obtain⟨rfl,rfl⟩:=ad (aa ht);obtain⟨ys,rfl,h3⟩:=Gl h2;obtain⟨y,h4,h5⟩:=EL u i w ys h3 hw;exact .of (x:=y) (fun _ _=>by simp only[hZ,bD,h4]) (bA h5) (pX u i w (hk (.tp u) (ao.2 rfl)) hw)
  .simp at ht
 .obtain ⟨rfl,rfl⟩:=ad (aa ht);obtain⟨x,rfl,h2⟩:=eO hx;rw[pq h2];exact .of (fun _ _=>rfl) (xi _ _) trivial
 .obtain ⟨rfl,rfl⟩:=ad (aa ht);obtain⟨x,rfl,h2⟩:=eO hx;rw[oG h2];exact .of (fun _ _=>rfl) (xi _ _) trivial
 .--len of a cU of rows
  obtain⟨x,rfl,h2⟩:=eO hx;split at ht
  .rename_i t' s' ln hq;obtain⟨rfl,rfl⟩:=ad (aa ht);exact .of (fun _ _=>by rw[BE h2 (Sp hq)];exact FS) (xi _ _) trivial
  .simp at ht
 .--len
  obtain⟨x,rfl,h2⟩:=eO hx;split at ht
  .rename_i q t' s' l' hq;obtain⟨rfl,rfl⟩:=ad (aa ht);exact .of (fun _ _=>GS h2 (ha _ (by simp)) hq) (xi _ _) trivial
  .simp at ht
 .--lE
  rename_i m k' x r;obtain⟨x1,ys,rfl,h2,h3⟩:=dK hx;split at ht
  .rename_i y hy;obtain⟨rfl,rfl⟩:=ad (aa ht);obtain rfl:=ge h2;exact .of (x:=lv (.int k' y)) (fun _ _=>by simp only[hZ,bD,Cq hy h3]) (xi _ _) trivial
  .simp at ht
 .--lE of floats
  rename_i m k' x r;obtain⟨x1,ys,rfl,h2,h3⟩:=dK hx;split at ht
  .rename_i y hy;obtain⟨rfl,rfl⟩:=ad (aa ht);obtain rfl:=uN h2;refine .of (x:=lv (.float k' y)) (fun _ _=>?_) (xf _ _) trivial;show(match Cp m (.float k' x) (ys.map some)with|some v=>some (lv v,([]:de),([]:List Nat),_)|none=>none)=_;rw[AC hy h3]
  .simp at ht
 .--build
  rename_i z ps;cases hc:mT (iU t) z&&iS t&&cL (FG t) false t with
  |false=>rw[hc]at ht;simp at ht
  |true=>
   rw[hc,cond_true]at ht;simp only[ae]at hc;split at ht
   .rename_i w hw;obtain⟨rfl,rfl⟩:=ad (aa ht);obtain⟨z1,z2⟩:=(NF (h:=h) (n:=n) t).1 hc.2;obtain⟨cs,b1,b2,b3,b4⟩:=DC fi ps vs (FG t) w _ xs hw hc.2 z1 z2 hx hk;rw[lp hc.1.1]at b1;exact .of (x:=.agg cs) (fun _ _=>by simp only[bD,iQ,b1]) (bA (qh (G6 b4 hc.1.2) b2)) b3
   .simp at ht
 .--lookup
  rename_i ka ks va z ok m kv;obtain⟨x,y,rfl,h2,h3⟩:=fk hx;split at ht
  .rename_i kt vt mp l' hq;split at ht
   .rename_i key hkey;cases hc:(iS kt==ka)&&(iS vt==va)&&decide (vU kt=some ks)&&mT (iU vt) z&&L_ vt&&(va||bn vt==1)with
    |false=>rw[hc]at ht;simp at ht
    |true=>
     rw[hc,cond_true]at ht;simp only[ae,beq_iff_eq,decide_eq_true_eq]at hc;obtain⟨⟨⟨⟨⟨c1,c2⟩,c3⟩,c4⟩,c5⟩,c6⟩:=hc;obtain⟨id,rfl,rfl,e1,e2,e3⟩:=Cu hr hq h2;have e1:l'=[id]:=e1;subst e1;obtain⟨_,_,k3,_⟩:=pY kt ks c3;have hz:bO z=aJ vt (lX vt):=by rw[lm vt c5,lp c4]
     have hv:∀y,jO va (aJ vt y)=some (HW vt y):=fun y=>yV y c2 c6;have hkt:=vR h3 hkey c3 c1;rw[c1,c2]at e3;rw[<-c2]at c6;cases ok with|false=>simp only[cond_false]at ht;obtain⟨rfl,rfl⟩:=ad (aa ht);exact fun c nx=>⟨_,[id],GO (z:=lX vt) e3 hkt k3 hz hv,bA (BC c5 c6),trivial,fun i hi=>hi⟩|true=>simp only[cond_true]at ht;obtain⟨rfl,rfl⟩:=ad (aa ht);exact fun c nx=>⟨_,[id],ES (z:=lX vt) e3 hkt k3 hz hv,⟨_,rfl,_,_,rfl,BC c5 c6,_,_,rfl,cn rfl ⟨rfl,rfl⟩,rfl⟩,⟨trivial,trivial,trivial⟩,fun i hi=>hi⟩
   .simp at ht
  .simp at ht
 .simp at ht
end
section
variable{h:H2}{n:Nat}{h1:aY}
theorem bI(id:Nat)(o:Option O)(h:H2)(i:Nat):fO ((id,o)::h) i=if id=i then o else fO h i:=by
 simp only[fO,bv];by_cases e:id=i
 .subst e;simp
 .have e':(id==i)=false:=by simpa using e
  simp[e,e']
theorem bX(id:Nat)(o:Option Ob)(h:aY)(i:Nat):ak ((id,o)::h) i=if id=i then o else ak h i:=by
 simp only[ak,bv];by_cases e:id=i
 .subst e;simp
 .have e':(id==i)=false:=by simpa using e
  simp[e,e']
theorem fF.new(o:Option O):fF n h ((n,o)::h):=⟨fun id o' hi ho=>by rw[bI,if_neg (by omega)]at ho;exact .inl ⟨o',ho,lW.refl _⟩⟩
theorem fF.uK{id:Nat}{o o':O}(ho:fO h id=some o)(hs:lW o o'):fF n h ((id,some o')::h):=
 ⟨fun i o2 hi h2=>by
  rw[bI]at h2;split at h2
  .rename_i e;subst e;obtain rfl:=aa h2;exact .inl ⟨o,ho,hs⟩
  .exact .inl ⟨o2,h2,lW.refl _⟩⟩
theorem fF.Mg(id:Nat):fF n h ((id,none)::h):=
 ⟨fun i o2 hi h2=>by
  rw[bI]at h2;split at h2
  .simp at h2
  .exact .inl ⟨o2,h2,lW.refl _⟩⟩
theorem HR.uK{n' id:Nat}{o:Option O}{u:de}(hr:HR n h1 h)(hn:n<=n')(hi:id<n')(hs:fF n h ((id,o)::h))(hu:∀i,i≠id->ak (u++h1) i=ak h1 i)
  (ho:∀o',o=some o'->KB ((id,o)::h) o' (ak (u++h1) id)/\uC n' ((id,o)::h) o'):HR n' (u++h1) ((id,o)::h):=by
 refine⟨fun i o' h2=>?_⟩;rw[bI]at h2;split at h2
 .rename_i e;subst e;exact⟨hi,ho o' h2⟩
 .rename_i e;obtain⟨q1,q2,q3⟩:=hr.ob i o' h2;refine⟨by omega,?_,jf hn hs q3⟩;rw[hu i fun e'=>e e'.symm];exact jV hs q3 q2
theorem HR.mono{n':Nat}(hr:HR n h1 h)(hn:n<=n'):HR n' h1 h:=⟨fun i o ho=>let⟨a,b,c⟩:=hr.ob i o ho;⟨by omega,b,jf hn (fF.refl n h) c⟩⟩
theorem HR.ext{h1':aY}(hr:HR n h1 h)(he:∀i,ak h1' i=ak h1 i):HR n h1' h:=⟨fun i o ho=>by rw[he];exact hr.ob i o ho⟩
structure Se(s s':S2)(h1:aY)(x:TV)(u:de)(aj:List Nat)(m:Nat)(v:V)(l:List Nat):Prop where
 val:dD s'.heap v x
 JI:cX s'.next s'.heap v
 hr:HR s'.next (u++h1) s'.heap
 c9:fF s.next s.heap s'.heap
 bS:s'.bS=s.bS
 gh:s'.gh=s.gh
 m:m<=s'.next
 le:s.next<=s'.next
 aj:∀i∈aj,i∈l
 nb:∀i,i<s.next->fO s.heap i=none->fO s'.heap i=none
 wo:∃w,s'.wo=w++s.wo/\(∀p∈u,p.1∈w)/\∀id,id∉w->fO s'.heap id=fO s.heap id
theorem Se.pure{s:S2}{x:TV}{v:V}{aj l:List Nat}(hr:HR s.next h1 s.heap)(hx:dD s.heap v x)(hk:cX s.next s.heap v)(hl:∀i∈aj,i∈l):Se s s h1 x [] aj s.next v l:=⟨hx,hk,hr,fF.refl _ _,rfl,rfl,ai _,ai _,hl,fun _ _ h=>h,[],rfl,fun p hp=>by simp at hp,fun _ _=>rfl⟩
theorem Se.new{s:S2}{o:O}{b:Option Ob}{u:de}{x:TV}{v:V}{aj l:List Nat}{m:Nat}(hr:HR s.next h1 s.heap)(hu:u=[(s.next,b)]\/(u=[]/\∀b',KB ((s.next,some o)::s.heap) o b'))(hb:u=[(s.next,b)]->KB ((s.next,some o)::s.heap) o b)
  (hko:uC (s.next+1) ((s.next,some o)::s.heap) o) (hx:dD ((s.next,some o)::s.heap) v x) (hk:cX (s.next+1) ((s.next,some o)::s.heap) v) (hl:∀i∈aj,i∈l) (hm:m<=s.next+1):Se s (fI s o) h1 x u aj m v l:=by
 refine⟨hx,hk,?_,fF.new _,rfl,rfl,hm,a_ _,hl,fun i hi h=>(by rw[show(fI s o).heap=(s.next,some o)::s.heap from rfl,bI,if_neg (by omega)];exact h),[s.next],rfl,?_,fun id hid=>?_⟩
 .refine HR.uK (n':=s.next+1) hr (a_ _) (aN _) (fF.new _) (fun i hi=>?_) fun o' ho'=>?_
  .rcases hu with rfl|⟨rfl,_⟩
   .rw [aP,bX,if_neg fun e=>hi e.symm]
   .rfl
  .obtain rfl:=aa ho';refine⟨?_,hko⟩;rcases hu with rfl|⟨rfl,hu⟩
   .rw [aP,bX,if_pos rfl];exact hb rfl
   .exact hu _
 .intro p hp;rcases hu with rfl|⟨rfl,_⟩
  .obtain rfl:=ao.1 hp;simp
  .simp at hp
 .simp only[fI];rw[bI,if_neg fun e=>hid (by simp[e])]
theorem Se.uK{s:S2}{id:Nat}{o o':O}{b:Option Ob}{x:TV}{v:V}{aj l:List Nat}(hr:HR s.next h1 s.heap)(ho:fO s.heap id=some o)(hs:lW o o')(hb:KB ((id,some o')::s.heap) o' b)(hko:uC s.next ((id,some o')::s.heap) o')
  (hx:dD ((id,some o')::s.heap) v x) (hk:cX s.next ((id,some o')::s.heap) v) (hl:∀i∈aj,i∈l):Se s (cJ s id (some o')) h1 x [(id,b)] aj s.next v l:=by
 refine⟨hx,hk,?_,fF.uK ho hs,rfl,rfl,ai _,ai _,hl,fun i _ h=>(by rw[show(cJ s id (some o')).heap=(id,some o')::s.heap from rfl,bI,if_neg (fun e=>by rw[e,h]at ho;cases ho)];exact h),[id],rfl,fun p hp=>?_,fun i hi=>?_⟩
 .refine HR.uK hr (ai _) (hr.ob id o ho).1 (fF.uK ho hs) (fun i hi=>?_) fun o2 ho2=>?_
  .rw [aP,bX,if_neg fun e=>hi e.symm]
  .obtain rfl:=aa ho2;rw[aP,bX,if_pos rfl];exact⟨hb,hko⟩
 .obtain rfl:=ao.1 hp;simp
 .simp only[cJ];rw[bI,if_neg fun e=>hi (by simp[e])]
def iA(h:H2)(id:Nat):Prop:=(∃t v,fO h id=some (.ar t .nil v)\/fO h id=some (.im t .nil v))\/∃t ln,fO h id=some (.rw t .nil ln)
theorem qL{id ver:Nat}{t:Ty}{l:List (El t)}(ho:fO h id=some (.ar t (.mk l) ver)\/fO h id=some (.im t (.mk l) ver)):¬iA h id:=by
 rintro(⟨u,v',e⟩|⟨u,ln,e⟩)
 .rcases ho with ho|ho<;>rcases e with e|e<;>rw[ho]at e<;>simp at e
  all_goals
   obtain⟨rfl,e,_⟩:=e;cases eq_of_heq e
 .rcases ho with ho|ho<;>rw[ho]at e<;>cases e
theorem EM{id:Nat}{t:Ty}{l:List (Sl (El t))}{ln:Option (Nat×Nat)}(ho:fO h id=some (.rw t (.mk l) ln)):¬iA h id:=by
 rintro(⟨u,v',e⟩|⟨u,ln',e⟩)
 .rcases e with e|e<;>rw[ho]at e<;>cases e
 .rw [ho]at e;cases e
theorem km(k:Nat)(x:D):cz h1 k (.d x)=some (x,[]):=by cases k<;>rfl
theorem qd:∀(ds:List D),cm h1 (ds.map .d)=some (ds,[]):=by intro ds;induction ds with|nil=>rfl|cons d ds ih=>simp[cm,km,ih]
theorem kD{a b:List C}{x y:List D}{i j:List Nat}(ha:cm h1 a=some (x,i))(hb:cm h1 b=some (y,j)):cm h1 (a++b)=some (x++y,i++j):=by
 induction a generalizing x i with
 |nil=>obtain⟨rfl,rfl⟩:[]=x/\[]=i:=by simpa[cm]using ha
       simpa using hb
 |cons c a ih=>
  simp only[cm]at ha;split at ha
  .rename_i p q r s hp hq;obtain⟨rfl,rfl⟩:=ad (aa ha);simp only[aK,cm,hp,ih hq,aI]
  .simp at ha
theorem uI{id sz lo len:Nat}{rows:List (List D)}(k:Nat)(ho:ak h1 id=some (.aB sz rows)\/ak h1 id=some (.ML sz rows))(hl:lo+len<=rows.length)(szo:Nat):
  cz h1 k (.da szo id lo len)=some (.sl szo ((rows.drop lo).take len),[id]):=by
 rcases ho with ho|ho<;>(cases k<;>simp only[cz,ho,if_pos hl])
theorem D7{id ver:Nat}{t:Ty}{s:Sl (El t)}(k:Nat)(hr:HR n h1 h)(ho:fO h id=some (.ar t s ver)\/fO h id=some (.im t s ver)):
  ∃aj,cz h1 k (ij (bn t) (aJ t) id s)=some (oK (bn t) (aJ t) s,aj)/\(∀i∈aj,i=id/\¬iA h i)/\(id∈aj\/iA h id):=by
 cases s with
 |nil=>exact⟨[],km k _,fun i hi=>by simp at hi,.inr (.inl ⟨t,ver,ho⟩)⟩
 |mk l=>
  have hb:ak h1 id=some (.aB (bn t) (l.map (aJ t)))\/ak h1 id=some (.ML (bn t) (l.map (aJ t))):=by
   rcases ho with ho|ho
   .exact .inl ((hr.ob id _ ho).2.1.2.2 l rfl)
   .exact .inr ((hr.ob id _ ho).2.1.2.2 l rfl)
  refine⟨[id],?_,fun i hi=>by obtain rfl:=ao.1 hi;exact⟨rfl,qL ho⟩,.inl (by simp)⟩;have:=uI (lo:=0) (len:=(l.map (aJ t)).length) k hb (by omega) (bn t);rw[mO]at this;exact this
theorem D8{id ver lo:Nat}{t:Ty}{r:Sl (El t)}(k:Nat)(hr:HR n h1 h)(hk:cX n h (.sb id ver lo t r))(ha:uv h id ver=true):
  ∃aj,cz h1 k (qq id lo t r)=some (oK (bn t) (aJ t) r,aj)/\(∀i∈aj,i=id/\¬iA h i)/\(id∈aj\/iA h id):=by
 obtain⟨u,s,ho⟩:=gW ha;obtain⟨_,hc⟩:=hk.2 u s ver ho;obtain⟨hz,hc⟩:=hc rfl;cases r with
 |nil=>cases s with|nil=>exact⟨[],km k _,fun i hi=>by simp at hi,.inr (.inl ⟨u,ver,ho⟩)⟩|mk l=>exact hc.elim
 |mk m=>
  cases s with
  |nil=>exact hc.elim
  |mk l=>
   obtain⟨hl,he⟩:=hc
   have hb:ak h1 id=some (.aB (bn u) (l.map (aJ u)))\/ak h1 id=some (.ML (bn u) (l.map (aJ u))):=by
    rcases ho with ho|ho
    .exact .inl ((hr.ob id _ ho).2.1.2.2 l rfl)
    .exact .inr ((hr.ob id _ ho).2.1.2.2 l rfl)
   refine⟨[id],?_,fun i hi=>by obtain rfl:=ao.1 hi;exact⟨rfl,qL ho⟩,.inl (by simp)⟩;have:=uI (lo:=lo) (len:=(m.map (aJ t)).length) k hb (by simpa using hl) (bn t);rw[show(m.map (aJ t)).length=m.length by simp,he]at this;simpa[qq,oK]using this
theorem ss{t:Ty}:∀(l:List (Sl (El t))),kH (bn t) (l.map (jx t))=some (l.map (aJ (.sl t))):=by intro l;induction l with|nil=>rfl|cons s l ih=>simp only[am,kH,ih];cases s<;>rfl
theorem D6{id:Nat}{t:Ty}{s:Sl (Sl (El t))}(k:Nat)(hr:HR n h1 h)(ho:fO h id=some (.rw t s none)):
  ∃aj,cz h1 k (ij 1 (aJ (.sl t)) id s)=some (oK 1 (aJ (.sl t)) s,aj)/\(∀i∈aj,i=id/\¬iA h i)/\(id∈aj\/iA h id):=by
 cases s with
 |nil=>exact⟨[],km k _,fun i hi=>by simp at hi,.inr (.inr ⟨t,none,ho⟩)⟩
 |mk l=>
  have hb:=(hr.ob id _ ho).2.1.2.2 l rfl;refine⟨[id],?_,fun i hi=>by obtain rfl:=ao.1 hi;exact⟨rfl,EM ho⟩,.inl (by simp)⟩;have e:((l.map (aJ (.sl t))).length)=(cT t l none).length:=by simp[cT]
  have hs:kH (bn t) (cT t l none)=some (l.map (aJ (.sl t))):=ss l;cases k<;>simp only[ij,oK,cz,hb,hs,e,and_self,if_true]
theorem mi(hr:HR n h1 h):∀(v w:V)(l:List Nat)(cs:List C),fA h v=some (w,l)->cY h v cs->cX n h v->eT h v=true->
  ∃ds aj,cm h1 cs=some (ds,aj)/\cY h w (ds.map .d)/\(∀i∈aj,i∈l/\¬iA h i)/\(∀i∈l,i∈aj\/iA h i)/\(∀i∈l,i<n/\((∃t s v,fO h i=some (.ar t s v)\/fO h i=some (.im t s v))\/∃t s,fO h i=some (.rw t s none))):=by
 have done:∀(v:V)(ds:List D),cY h v (ds.map .d)->∃ds' aj,cm h1 (ds.map .d)=some (ds',aj)/\cY h v (ds'.map .d)/\(∀i∈aj,i∈([]:List Nat)/\¬iA h i)/\(∀i∈([]:List Nat),i∈aj\/iA h i)/\(∀i∈([]:List Nat),i<n/\((∃t s v,fO h i=some (.ar t s v)\/fO h i=some (.im t s v))\/∃t s,fO h i=some (.rw t s none))):=fun v ds hv=>⟨ds,[],qd ds,hv,fun i hi=>by simp at hi,fun i hi=>by simp at hi,fun i hi=>by simp at hi⟩;intro v;induction v with
 |so id=>
  intro w l cs hf hv hk ha;simp only[fA]at hf;split at hf
  .rename_i t s l' hs;obtain⟨rfl,rfl⟩:=ad (aa hf);obtain⟨ver,ho,e⟩:=nr hs;have e:l'=[id]:=e;subst e;obtain⟨c,rfl,hc,_⟩:=hv;rw[hc _ (ii ho)];obtain⟨aj,q1,q2,q3⟩:=D7 300 hr ho;have hd:L_ t=true:=by rcases ho with ho|ho<;>exact(hr.ob id _ ho).2.1.1
   refine⟨[oK (bn t) (aJ t) s],aj,by simp[cm,q1],⟨hd,rfl⟩,fun i hi=>⟨by simpa using(q2 i hi).1,(q2 i hi).1▸(q2 i hi).2⟩,fun i hi=>?_,fun i hi=>?_⟩
   .obtain rfl:=ao.1 hi;exact q3
   .obtain rfl:=ao.1 hi;exact⟨hk,.inl ⟨t,s,ver,ho⟩⟩
  .simp at hf
 |sr id=>
  intro w l cs hf hv hk ha;simp only[fA]at hf;split at hf
  .rename_i t s ho;obtain⟨rfl,rfl⟩:=ad (aa hf);obtain⟨c,rfl,hc,_⟩:=hv;rw[hc _ (by rw[ho];rfl:wQ id (fO h id)=some (ij 1 (aJ (.sl t)) id s))];obtain⟨aj,q1,q2,q3⟩:=D6 300 hr ho;have hd:L_ t=true:=(hr.ob id _ ho).2.1.1;refine⟨[oK 1 (aJ (.sl t)) s],aj,by simp[cm,q1],⟨hd,rfl⟩,fun i hi=>⟨by simpa using(q2 i hi).1,(q2 i hi).1▸(q2 i hi).2⟩,fun i hi=>?_,fun i hi=>?_⟩
   .obtain rfl:=ao.1 hi;exact q3
   .obtain rfl:=ao.1 hi;exact⟨hk,.inr ⟨t,s,ho⟩⟩
  .simp at hf
 |sb id ver lo t r=>
  intro w l cs hf hv hk ha;simp only[fA,mU]at hf;obtain⟨rfl,rfl⟩:=ad (aa hf);obtain⟨hd,ha⟩:=bQ.1 ha;have ha:uv h id ver=true:=ha;obtain⟨c,rfl,hc,_⟩:=hv;rw[hc ha];obtain⟨aj,q1,q2,q3⟩:=D8 300 hr hk ha;obtain⟨u,s,ho⟩:=gW ha;refine⟨[oK (bn t) (aJ t) r],aj,by simp[cm,q1],⟨?_,rfl⟩,fun i hi=>⟨by simpa using(q2 i hi).1,(q2 i hi).1▸(q2 i hi).2⟩,fun i hi=>?_,fun i hi=>?_⟩
  .exact hd
  .obtain rfl:=ao.1 hi;exact q3
  .obtain rfl:=ao.1 hi;exact⟨hk.1,.inl ⟨u,s,ver,ho⟩⟩
 |rc r ih=>
  intro w l cs hf hv hk ha;simp only[fA]at hf;split at hf
  .rename_i w' l' hw;obtain⟨rfl,rfl⟩:=ad (aa hf);exact ih w' l' cs hw hv hk ha
  .simp at hf
 |co a r iha ihr=>
  intro w l cs hf hv hk ha;simp only[fA]at hf;split at hf
  .rename_i x l1 y l2 hx hy;obtain⟨rfl,rfl⟩:=ad (aa hf);obtain⟨ca,cr,rfl,h2,h3⟩:=hv;simp only[eT,ae]at ha;obtain⟨ds,aj,a1,a2,a3,a4,a5⟩:=iha x l1 ca hx h2 hk.1 ha.1;obtain⟨es,jds,b1,b2,b3,b4,b5⟩:=ihr y l2 cr hy h3 hk.2 ha.2;refine⟨ds++es,aj++jds,kD a1 b1,⟨_,_,by simp,a2,b2⟩,fun i hi=>?_,fun i hi=>?_,fun i hi=>?_⟩
   .rcases ah.1 hi with hi|hi
    .exact ⟨az _ (a3 i hi).1,(a3 i hi).2⟩
    .exact ⟨av _ (b3 i hi).1,(b3 i hi).2⟩
   .rcases ah.1 hi with hi|hi
    .exact (a4 i hi).imp (az _) id
    .exact (b4 i hi).imp (av _) id
   .rcases ah.1 hi with hi|hi
    .exact a5 i hi
    .exact b5 i hi
  .simp at hf
 |x t v=>intro w l cs hf hv hk ha;obtain⟨rfl,rfl⟩:=ad (aa hf);obtain⟨hd,rfl⟩:=hv;exact done _ _ ⟨hd,rfl⟩
 |kb c=>intro w l cs hf hv hk ha;obtain⟨rfl,rfl⟩:=ad (aa hf);obtain rfl:=hv;exact done (.kb c) [_] rfl
 |nl k=>intro w l cs hf hv hk ha;obtain⟨rfl,rfl⟩:=ad (aa hf);obtain rfl:=hv;exact done (.nl k) [_] rfl
 |fl q=>
  intro w l cs hf hv hk ha;obtain⟨rfl,rfl⟩:=ad (aa hf);obtain⟨hp,rfl⟩:=hv;have e:db q=(q.map D.lit).map C.d:=by simp[db]
  rw[e];exact done (.fl q) (q.map D.lit) ⟨hp,e.symm⟩
 |ni=>intro w l cs hf hv hk ha;obtain⟨rfl,rfl⟩:=ad (aa hf);obtain rfl:=hv;exact done .ni [] rfl
 |pt t v=>intro w l cs hf hv hk ha;obtain⟨rfl,rfl⟩:=ad (aa hf);obtain⟨hd,rfl⟩:=hv;exact done (.pt t v) [_] ⟨hd,rfl⟩
 |fn z f q ih=>intro w l cs hf hv hk ha;cases z with|true=>obtain⟨rfl,rfl⟩:=ad (aa hf);obtain⟨ds,hd,rfl⟩:=hv;exact done (.fn true f q) [_] ⟨ds,hd,rfl⟩|false=>simp[fA]at hf
 |_=>intro w l cs hf hv hk ha;simp[fA]at hf
theorem pV:∀(ds:List D)(k:Nat),ds.length<k->dF h1 k (ds.map .d)=some (ds,[]):=by
 intro ds;induction ds with
 |nil=>intro k hk;cases k<;>rfl
 |cons d ds ih=>intro k hk;cases k with|zero=>simp at hk|succ k=>simp only[am,dF,km];rw[ih k (by simpa using hk)];rfl
theorem o7{H:aY}{h0:H2}{k:Nat}(hr:HR k H h0)(all:List Nat){id:Nat}{o':O}(hf:t_ h0 id=some o'):
  ∃o,fO h0 id=some o/\lW o o'/\(∀m g,uC m g o')/\((iA h0 id/\∀g b,KB g o' b)\/(¬iA h0 id/\∃b,fV H all id=some b/\∀g,KB g o' (some b))):=by
 unfold t_ at hf;split at hf
 .rename_i t s v ho;obtain rfl:=aa hf;refine⟨_,ho,⟨ai _,rfl,rfl,rfl,fun _=>rfl⟩,fun _ _=>trivial,?_⟩;obtain⟨h1,h2,h3⟩:=(hr.ob id _ ho).2.1;cases s with|nil=>exact .inl ⟨.inl ⟨t,v,.inl ho⟩,fun g b=>⟨h1,h2,fun l e=>by cases e⟩⟩|mk l=>refine .inr ⟨qL (.inl ho),.ML (bn t) (l.map (aJ t)),?_,fun g=>⟨h1,h2,fun l' e=>by cases e;rfl⟩⟩;simp only[fV,h3 l rfl]
 .rename_i t s v ho;obtain rfl:=aa hf;refine⟨_,ho,⟨rfl,rfl⟩,fun _ _=>trivial,?_⟩;obtain⟨h1,h2,h3⟩:=(hr.ob id _ ho).2.1;cases s with|nil=>exact .inl ⟨.inl ⟨t,v,.inr ho⟩,fun g b=>⟨h1,h2,fun l e=>by cases e⟩⟩|mk l=>refine .inr ⟨qL (.inr ho),.ML (bn t) (l.map (aJ t)),?_,fun g=>⟨h1,h2,fun l' e=>by cases e;rfl⟩⟩;simp only[fV,h3 l rfl]
 .rename_i t v ho;obtain rfl:=aa hf;obtain⟨h1,h2⟩:=(hr.ob id _ ho).2.1;refine⟨_,ho,rfl,fun _ _=>trivial,.inr ⟨?_,.ji (aJ t v),?_,fun g=>⟨h1,rfl⟩⟩⟩
  .rintro (⟨u,v',e|e⟩|⟨u,v',e⟩)<;>rw[ho]at e<;>simp at e
  .simp only[fV,h2]
 .rename_i t c ho;cases hd:(L_ t&&Nat.blt (bn t) 300)with
  |false=>rw[hd]at hf;simp at hf
  |true=>
   rw[hd,cond_true]at hf;simp only[ae]at hd;split at hf
   .rename_i w hw;split at hf
    .rename_i y hy;obtain rfl:=aa hf;obtain⟨cs,h1,h2,h3⟩:=(hr.ob id _ ho).2.1;have e:=fq c false t y cs hy h2;subst e;refine⟨_,ho,trivial,fun _ _=>trivial,.inr ⟨?_,.ji (aJ t y),?_,fun g=>⟨hd.1,rfl⟩⟩⟩
     .rintro (⟨u,v',e|e⟩|⟨u,v',e⟩)<;>rw[ho]at e<;>simp at e
     .have hl:(aJ t y).length<300:=by rw[bg];simpa using hd.2
      simp only[fV,h1,pV _ _ hl];rfl
    .simp at hf
   .simp at hf
 .simp at hf
def VF(h:H2)(id:Nat):Option O:=match fO h id with|some (.rw _ _ none)=>none|_=>t_ h id
theorem py{h0:H2}{s0:S2}(hs0:s0.heap=h0):∀(aj:List Nat)(s':S2),kL h0 aj s0=some s'->
  s'.bS=s0.bS/\s'.gh=s0.gh/\s'.next=s0.next/\s'.wo=aj++s0.wo/\(∀i∈aj,(∃o,t_ h0 i=some o)\/∃t s,fO h0 i=some (.rw t s none))/\∀i,fO s'.heap i=if i∈aj then VF h0 i else fO h0 i:=by
 intro aj;induction aj with
 |nil=>intro s' hf;obtain rfl:=aa hf;exact⟨rfl,rfl,rfl,rfl,fun i hi=>by simp at hi,fun i=>by simp[hs0]⟩
 |cons id r ih=>
  intro s' hf;simp only[kL]at hf
  have fin:∀(oo:Option O)(s1:S2),kL h0 r s0=some s1->s'=cJ s1 id oo->((∃o,t_ h0 id=some o)\/∃t s,fO h0 id=some (.rw t s none))->VF h0 id=oo->s'.bS=s0.bS/\s'.gh=s0.gh/\s'.next=s0.next/\s'.wo=(id::r)++s0.wo/\(∀i∈id::r,(∃o,t_ h0 i=some o)\/∃t s,fO h0 i=some (.rw t s none))/\∀i,fO s'.heap i=if i∈id::r then VF h0 i else fO h0 i:=by
   intro oo s1 h1 e hex hoo;subst e;obtain⟨a1,a2,a3,a4,a5,a6⟩:=ih s1 h1;refine⟨a1,a2,a3,by simp[cJ,a4],fun i hi=>?_,fun i=>?_⟩
   .rcases aE.1 hi with rfl|hi
    .exact hex
    .exact a5 i hi
   .simp only[cJ,bI,a6];by_cases e:id=i
    .subst e;simp[hoo]
    .simp [e,Ne.symm e]
  split at hf
  .rename_i t s ho;split at hf
   .rename_i s1 h1;exact fin none s1 h1 (aa hf).symm (.inr ⟨t,s,ho⟩) (by simp only[VF,ho])
   .cases hf
  .rename_i hno;split at hf
   .rename_i o s1 ho h1;refine fin (some o) s1 h1 (aa hf).symm (.inl ⟨o,ho⟩) ?_;unfold VF;split
    .rename_i t s e;exact absurd e (hno t s)
    .exact ho
   .cases hf
theorem AU{H:aY}{all:List Nat}:∀(l:List Nat),(∀i∈l,∃b,fV H all i=some b)->∃u,b_ H all l=some u/\∀p∈u,p.1∈l:=by
 intro l;induction l with
 |nil=>intro _;exact⟨[],rfl,fun p hp=>by simp at hp⟩
 |cons a l ih=>
  intro h;obtain⟨b,hb⟩:=h a (by simp);obtain⟨u,hu,hp⟩:=ih fun i hi=>h i (by simp[hi]);refine⟨(a,some b)::u,by simp only[b_,hb,hu],fun p hp'=>?_⟩;rcases aE.1 hp' with rfl|hp'
  .simp
  .exact aq _ (hp p hp')
theorem t9{h0:H2}{s0:S2}(hs0:s0.heap=h0){H:aY}(hr:HR s0.next H h0)(aj:List Nat)(s':S2)(ids1 all:List Nat)(hf:kL h0 aj s0=some s')(hi1:∀i∈ids1,i∈aj/\¬iA h0 i)(hi2:∀i∈aj,i∈ids1\/iA h0 i):
  ∃fu,b_ H all ids1=some fu/\HR s0.next (fu++H) s'.heap/\fF s0.next h0 s'.heap/\s'.bS=s0.bS/\s'.gh=s0.gh/\s'.next=s0.next/\
   s'.wo=aj++s0.wo/\(∀p∈fu,p.1∈aj)/\∀id,id∉aj->fO s'.heap id=fO s0.heap id:=by
 obtain⟨a1,a2,a3,a4,a5,a6⟩:=py hs0 aj s' hf
 have hF:∀i o',VF h0 i=some o'->t_ h0 i=some o':=fun i o' h=>by
  unfold VF at h;split at h
  .cases h
  .exact h
 obtain⟨fu,hfu,hp⟩:=AU (H:=H) (all:=all) ids1 fun i hi=>by
  rcases a5 i (hi1 i hi).1 with⟨o,ho⟩|⟨t,s,ho⟩
  .obtain ⟨_,_,_,_,h⟩:=o7 hr all ho;rcases h with h|⟨_,b,hb,_⟩
   .exact absurd h.1 (hi1 i hi).2
   .exact ⟨b,hb⟩
  .cases s with|nil=>exact absurd (.inr ⟨t,none,ho⟩) (hi1 i hi).2|mk l=>have hb:=(hr.ob i _ ho).2.1.2.2 l rfl;have hs:kH (bn t) (cT t l none)=some (l.map (aJ (.sl t))):=ss l;exact⟨.ML 1 (l.map (aJ (.sl t))),by simp only[fV,hb,hs]⟩
 have c9:fF s0.next h0 s'.heap:=⟨fun i o' hi ho=>by
  rw[a6]at ho;split at ho
  .obtain ⟨o,h1,h2,_⟩:=o7 hr all (hF i o' ho);exact .inl ⟨o,h1,h2⟩
  .exact .inl ⟨o',ho,lW.refl _⟩⟩
 refine⟨fu,hfu,⟨fun i o' ho=>?_⟩,c9,a1,a2,a3,a4,fun p hp'=>(hi1 _ (hp p hp')).1,fun i hi=>by rw[a6,if_neg hi,hs0]⟩;rw[a6]at ho;split at ho
 .rename_i hi;obtain⟨o,h1,_,h3,h4⟩:=o7 hr all (hF i o' ho);refine⟨(hr.ob i o h1).1,?_,h3 _ _⟩;rcases h4 with h4|⟨h5,b,hb,hR⟩
  .exact h4.2 _ _
  .have hm:i∈ids1:=(hi2 i hi).resolve_right h5;obtain⟨b',hb',hl⟩:=(gO ids1 fu hfu i).1 hm;rw[hb]at hb';obtain rfl:=aa hb';rw[show ak (fu++H) i=some b by simp only[ak,eh,hl];rfl];exact hR _
 .rename_i hi;obtain⟨h1,h2,h3⟩:=hr.ob i o' ho;have hn:i∉ids1:=fun hm=>hi (hi1 i hm).1;refine⟨h1,?_,jf (ai _) c9 h3⟩;rw[show ak (fu++H) i=ak H i by simp only[ak,eh,(gO ids1 fu hfu i).2 hn]];exact jV c9 h3 h2
theorem x8{h0:H2}{s0:S2}{aj:List Nat}{s':S2}(hs0:s0.heap=h0)(hf:kL h0 aj s0=some s'):∀i∈aj,fO h0 i≠none:=by
 intro i hi e;obtain⟨_,_,_,_,a5,_⟩:=py hs0 aj s' hf;rcases a5 i hi with⟨o,ho⟩|⟨t,s,ho⟩
 .simp [t_,e]at ho
 .rw [e]at ho;cases ho
end
section
variable{h:H2}{n:Nat}{h1:aY}{β:Type}
theorem aD{α:Type}{c:Bool}{a:Option α}{r:α}(h:(bif c then a else none)=some r):c=true/\a=some r:=by cases c with|true=>exact⟨rfl,h⟩|false=>simp at h
theorem oV{u:de}{i:Nat}(hu:∀p∈u,p.1≠i):ak (u++h1) i=ak h1 i:=by induction u with|nil=>rfl|cons p u ih=>obtain⟨a,b⟩:=p;rw[aK,bX,if_neg (hu _ (cM ..)),ih fun p hp=>hu p (aq _ hp)]
theorem Se.wS{s s':S2}{x:TV}{u:de}{aj l:List Nat}{m:Nat}{v:V}(W:List Nat)(hr:HR s.next h1 s.heap)(c9:fF s.next s.heap s'.heap)(he:s'.bS=s.bS)(hg:s'.gh=s.gh)(hm:m<=s'.next)(hle:s.next<=s'.next)(hl:∀i∈aj,i∈l)
  (hwo:s'.wo=W++s.wo) (hu:∀p∈u,p.1∈W) (hW:∀id,id∉W->fO s'.heap id=fO s.heap id) (hob:∀i∈W,∀o,fO s'.heap i=some o->i<s'.next/\KB s'.heap o (ak (u++h1) i)/\uC s'.next s'.heap o)
  (hx:dD s'.heap v x) (hk:cX s'.next s'.heap v) (hnb:∀i,i<s.next->fO s.heap i=none->fO s'.heap i=none):Se s s' h1 x u aj m v l:=by
 refine⟨hx,hk,⟨fun i o ho=>?_⟩,c9,he,hg,hm,hle,hl,hnb,W,hwo,hu,hW⟩;by_cases hi:i∈W
 .exact hob i hi o ho
 .rw [hW i hi]at ho;obtain⟨a,b,c⟩:=hr.ob i o ho;refine⟨by omega,?_,jf hle c9 c⟩;rw[oV (u:=u) (i:=i) fun p hp e=>hi (e▸hu p hp)];exact jV c9 c b
def rI(h1:aY)(kk:K)(xs:List TV)(s:S2)(k:V->S2->List Nat->Option β)(z:β):Prop:=∃v s' l,k v s' l=some z/\∀c:Call,∃x u aj m,bD c kk (xs.map some) h1 s.next=some (x,u,aj,m)/\Se s s' h1 x u aj m v l
variable{s:S2}{k:V->S2->List Nat->Option β}{z:β}
theorem rI.pure{kk:K}{xs:List TV}{v:V}{x:TV}(hr:HR s.next h1 s.heap)(hz:k v s []=some z)(he:∀c:Call,bD c kk (xs.map some) h1 s.next=some (x,[],[],s.next))(hx:dD s.heap v x)(hk:cX s.next s.heap v):rI h1 kk xs s k z:=⟨v,s,[],hz,fun c=>⟨x,[],[],s.next,he c,Se.pure hr hx hk fun i hi=>by simp at hi⟩⟩
theorem Vt{t:Ty}(h:uB t=true):L_ t=true/\0<bn t:=by simpa[uB]using h
theorem rI.new{kk:K}{xs:List TV}{v:V}{x:TV}{o:O}{b:Option Ob}{l aj:List Nat}(hr:HR s.next h1 s.heap)(hz:k v (fI s o) l=some z)(he:∀c:Call,bD c kk (xs.map some) h1 s.next=some (x,[(s.next,b)],aj,s.next+1))
  (hb:KB ((s.next,some o)::s.heap) o b) (hko:uC (s.next+1) ((s.next,some o)::s.heap) o) (hx:dD ((s.next,some o)::s.heap) v x) (hk:cX (s.next+1) ((s.next,some o)::s.heap) v) (hl:∀i∈aj,i∈l):rI h1 kk xs s k z:=
 ⟨v,_,l,hz,fun c=>⟨x,_,aj,_,he c,Se.new hr (.inl rfl) (fun _=>hb) hko hx hk hl (ai _)⟩⟩
theorem rI.uK{kk:K}{xs:List TV}{v:V}{x:TV}{id:Nat}{o o':O}{b:Option Ob}{l aj:List Nat}(hr:HR s.next h1 s.heap)(ho:fO s.heap id=some o)(hs:lW o o')(hz:k v (cJ s id (some o')) l=some z)(he:∀c:Call,bD c kk (xs.map some) h1 s.next=some (x,[(id,b)],aj,s.next))
  (hb:KB ((id,some o')::s.heap) o' b) (hko:uC s.next ((id,some o')::s.heap) o') (hx:dD ((id,some o')::s.heap) v x) (hk:cX s.next ((id,some o')::s.heap) v) (hl:∀i∈aj,i∈l):rI h1 kk xs s k z:=
 ⟨v,_,l,hz,fun c=>⟨x,_,aj,_,he c,Se.uK hr ho hs hb hko hx hk hl⟩⟩
theorem mM(id:Nat)(o:Option O)(h:H2):fO ((id,o)::h) id=o:=by rw[bI,if_pos rfl]
theorem oT{t:Ty}{s:Sl (El t)}{v nx:Nat}:dD ((nx,some (.ar t s v))::h) (.so nx) (.c (ij (bn t) (aJ t) nx s)):=bA (cn rfl ⟨_,rfl,fun c' hc'=>by rw[mM]at hc';exact aa hc',tE⟩)
theorem ui{x:V}{y:TV}{sz:Nat}{lo hi:Option Int}{m:Int}{q:V->Option β}(hr:HR n h1 h)(hx:dD h x y)(hk:cX n h x)(ha:eT h x=true)(hm:xV h x=some m)(hz:mY sz h x (lo.getD 0) (hi.getD m) q=some z):
  ∃v c c',y=.c c/\q v=some z/\dq false sz c lo hi=some c'/\dD h v (.c c')/\cX n h v:=by
 have fh:∀(id:Nat)(t:Ty)(w:Sl (El t))(ver:Nat),x=.so id->(fO h id=some (.ar t w ver)\/fO h id=some (.im t w ver))->(bif bn t==sz then(o_ w.l (lo.getD 0) (hi.getD m)).bind fun y=>q (.sb id ver (lo.getD 0).toNat t (w.to y))else none)=some z->
   ∃v c c',y=.c c/\q v=some z/\dq false sz c lo hi=some c'/\dD h v (.c c')/\cX n h v:=by
  rintro id t w ver rfl ho hz;obtain⟨h2,hz2⟩:=aD hz;obtain rfl:bn t=sz:=by simpa using h2
  obtain⟨r,hr',hz3⟩:=lh hz2;have e:=lY hx (ii ho);have hm':m=w.l.length:=by simp only[xV,mU]at hm;rcases ho with ho|ho<;>(rw[ho]at hm;exact(aa hm).symm)
  subst hm';refine⟨_,_,qq id (lo.getD 0).toNat t (w.to r),e,hz3,?_,?_,hk,?_⟩
  .cases w with|nil=>exact Dn hr'|mk l=>exact II (enc:=aJ t) hr'
  .exact bA (cn rfl ⟨_,rfl,fun _=>rfl,BR⟩)
  .intro u s' v' ho'
   have e2:DZ u s'=DZ t w/\v'=ver:=by
    rcases ho with ho|ho<;>rcases ho' with ho'|ho'<;>(rw[ho]at ho';simp at ho')
    all_goals
     obtain⟨rfl,e,rfl⟩:=ho';cases eq_of_heq e;exact⟨rfl,rfl⟩
   obtain⟨e2,rfl⟩:=e2;obtain⟨rfl,e2⟩:=fG e2;cases e2;refine⟨ai _,fun _=>⟨rfl,?_⟩⟩;cases s' with|nil=>trivial|mk l=>obtain⟨h3,h4⟩:=Hs (enc:=aJ u) hr';simp only[aH]at h3;refine⟨h3,?_⟩;simpa using h4
 cases x with
 |x t v=>
  cases t with
  |sl t=>
   simp only[mY]at hz;obtain⟨h2,hz2⟩:=aD hz;obtain rfl:bn t=sz:=by simpa using h2
   obtain⟨r,hr',hz3⟩:=lh hz2;have hm':m=v.l.length:=by simpa[xV,mU]using hm.symm
   subst hm';refine⟨_,_,_,qf hx,hz3,Hr hr',bA (cn rfl ⟨?_,rfl⟩),trivial⟩;obtain⟨_,⟨hd,_⟩,_⟩:=jw (v:=.x (.sl t) v) trivial hx;exact hd
  |_=>simp[mY]at hz
 |so id=>
  simp only[mY]at hz;split at hz
  .rename_i ho;exact fh id _ _ _ rfl (.inl ho) hz
  .rename_i ho;exact fh id _ _ _ rfl (.inr ho) hz
  .simp at hz
 |sb id ver off t v=>
  simp only[mY]at hz;obtain⟨h2,hz2⟩:=aD hz;obtain rfl:bn t=sz:=by simpa using h2
  obtain⟨r,hr',hz3⟩:=lh hz2;have hm':m=v.l.length:=by simpa[xV,mU]using hm.symm
  subst hm';refine⟨_,_,qq id (off+(lo.getD 0).toNat) t (v.to r),kF hx ha,hz3,?_,bA (cn rfl ⟨_,rfl,fun _=>rfl,BR⟩),hk.1,?_⟩
  .cases v with|nil=>exact Dn hr'|mk l=>obtain⟨h3,rfl⟩:=lg.1 hr';simp only[Sl.l]at h3;simp only[qq,dq,Bool.false_eq_true,if_false,Sl.to,Sl.l,aH];rw[if_pos ⟨trivial,h3⟩];simp;omega
  .intro u s' v' ho;obtain⟨h3,h4⟩:=hk.2 u s' v' ho;refine⟨h3,fun e=>?_⟩;obtain⟨h5,h6⟩:=h4 e;refine⟨h5,?_⟩;cases s' with
   |nil=>cases v<;>first|trivial|exact h6.elim
   |mk l=>
    cases v with
    |nil=>exact h6.elim
    |mk w=>
     obtain⟨h7,h8⟩:=h6;obtain⟨h9,rfl⟩:=lg.1 hr';simp only[Sl.l]at h9;show off+(lo.getD 0).toNat+((w.drop (lo.getD 0).toNat).take _).length<=l.length/\((l.map (aJ u)).drop (off+(lo.getD 0).toNat)).take ((w.drop (lo.getD 0).toNat).take _).length=((w.drop (lo.getD 0).toNat).take _).map (aJ t);generalize hA:(lo.getD 0).toNat=A;generalize hB:((hi.getD (Sl.l (Sl.mk w)).length).toNat-A)=B;have hle:A+B<=w.length:=by subst hA hB;simp only[Sl.l];omega
     have hlen:((w.drop A).take B).length=B:=by simp;omega
     refine⟨by omega,?_⟩;rw[hlen,eE,dO,<-h8,List.drop_take,cj,List.take_take];congr 1;omega
 |nl k=>
  cases k with
  |zero=>
   simp only[mY]at hz;obtain⟨r,hr',hz3⟩:=lh hz;have hm':m=0:=by simpa[xV]using hm.symm
   subst hm';exact⟨_,_,_,oG hx,hz3,Dn (α:=Unit) (by simpa[Sl.l]using hr'),bA (cn rfl rfl),trivial⟩
  |succ k=>simp[mY]at hz
 |_=>simp[mY]at hz
theorem zA:∀(p:ki)(t a:Ty)(l m:Nat),Sf t p=some (.ar l a)->m<l->Aw t p->Aw t (p++[.ix m])/\iE t (p++[.ix m])=iE t p+m*bn a:=by
 intro p;induction p with
 |nil=>
  intro t a l m h1 hm _;have e:Sf t []=some t:=by cases t<;>rfl
  obtain rfl:t=.ar l a:=by rw[e]at h1;exact aa h1
  refine⟨⟨hm,by cases a<;>trivial⟩,?_⟩;simp only[bc,iE];cases a<;>simp[iE]
 |cons q p ih=>
  intro t a l m h1 hm h3;cases q with
  |fd j=>cases t with|st t=>obtain⟨b2,hb,h3⟩:=h3;simp only[Sf,hb]at h1;obtain⟨q1,q2⟩:=ih b2 a l m h1 hm h3;refine⟨⟨b2,hb,q1⟩,?_⟩;simp only[aK,iE,hb,q2];exact(bK _ _ _).symm|_=>exact h3.elim
  |ix k=>cases t with|ar l' t=>obtain⟨hk,h3⟩:=h3;obtain⟨q1,q2⟩:=ih t a l m h1 hm h3;refine⟨⟨hk,q1⟩,?_⟩;simp only[aK,iE,q2];exact(bK _ _ _).symm|_=>exact h3.elim
theorem GJ{id:Nat}{t u:Ty}{w:Sl (El t)}{w':Sl (El u)}{v v':Nat}(ho:fO h id=some (.ar t w v)\/fO h id=some (.im t w v))(ho':fO h id=some (.ar u w' v')\/fO h id=some (.im u w' v')):DZ u w'=DZ t w/\v'=v:=by
 rcases ho with ho|ho<;>rcases ho' with ho'|ho'<;>(rw[ho]at ho';simp at ho')
 all_goals
  obtain⟨rfl,e,rfl⟩:=ho';cases eq_of_heq e;exact⟨rfl,rfl⟩
theorem Ci{id:Nat}{t u:Ty}{w:Sl (El t)}{w':Sl (El u)}{v v':Nat}(ho:fO h id=some (.ar t w v)\/fO h id=some (.im t w v))(ho':fO h id=some (.ar u w' v')\/fO h id=some (.im u w' v')):w'.l.length=w.l.length:=by obtain⟨e,_⟩:=GJ ho ho';obtain⟨rfl,e⟩:=fG e;cases e;rfl
theorem FU{c:C}{t:Ty}{id m sz:Nat}{w:Sl (El t)}{i:Int}{kd:IntKind}{cl:Call}{nx:Nat}(hc:c=ij (bn t) (aJ t) id w)(hsz:bn t=sz)(hi:rM i w.l.length=some m):
  bD cl (.indexAddr none sz) [some (.c c),some (tI kd i)] h1 nx=some (.c (.ep id m 0),[],[],nx):=by
 subst hc hsz;cases w with|nil=>exact CL hi|mk l=>exact Jr hi
theorem IG{t:Ty}{v:El t}{x:TV}(hx:dD h (.x t v) x):L_ t=true:=by obtain⟨_,⟨hd,_⟩,_⟩:=jw (v:=.x t v) trivial hx;exact hd
theorem JD{n':Nat}{t:Ty}{v:El (.ar n' t)}{x:TV}(hx:dD h (.x (.ar n' t) v) x):x=.agg ((aJ (.ar n' t) v).map .d):=by obtain⟨cs,⟨_,rfl⟩,h2,_⟩:=jw (v:=.x (.ar n' t) v) trivial hx;exact h2 rfl
theorem wG{n' m:Nat}{t:Ty}(v:El (.ar n' t))(hm:m<n'):m*bn t+bn t<=(aJ (.ar n' t) v).length/\((aJ (.ar n' t) v).drop (m*bn t)).take (bn t)=aJ t (gt v.1 m):=by have hl:v.1.length=n':=v.2;refine⟨?_,q8 (bg t) v.1 m (by omega)⟩;rw[bg];show _<=n'*bn t;have:(m+1)*bn t<=n'*bn t:=Nat.mul_le_mul_right _ hm;rw[bf,Nat.one_mul]at this;exact this
theorem CN{x:V}{y:TV}{sz:Nat}{i:Int}{kd:IntKind}
  (hz:(match x with
  |.x (.sl t) v=>bif bn t==sz then(rM i v.l.length).bind fun m=>k (.pt t (gt v.l m)) s []else none
  |.so id=>(match mU s.heap (.so id)with|some ⟨t,v,_⟩=>bif bn t==sz then(rM i v.l.length).bind fun m=>k (.ep id m t []) s []else none|none=>none)
  |.sb id _ lo t v=>bif bn t==sz then(rM i v.l.length).bind fun m=>k (.ep id (lo+m) t []) s []else none
  |.sr id=>(match fO s.heap id with|some (.rw t v _)=>bif 1==sz then(rM i v.l.length).bind fun m=>k (.ep id m (.sl t) []) s []else none|_=>none)
  |_=>none)=some z)
  (hr:HR s.next h1 s.heap) (hx:dD s.heap x y) (hk:cX s.next s.heap x) (ha:eT s.heap x=true):rI h1 (.indexAddr none sz) [y,tI kd i] s k z:=by
 cases x with
 |x t v=>
  cases t with
  |sl t=>
   simp only at hz;obtain⟨h2,hz2⟩:=aD hz;obtain⟨m,hm,hz3⟩:=lh hz2;obtain rfl:bn t=sz:=by simpa using h2
   rw[qf hx];exact .pure hr hz3 (x:=.c (.d (.pt (aJ t (gt (Sl.l v) m))))) (fun _=>Iq hm) (bA (cn rfl ⟨IG (t:=.sl t) hx,rfl⟩)) trivial
  |_=>simp at hz
 |so id=>
  simp only at hz;split at hz
  .rename_i t v l hs;obtain⟨h2,hz2⟩:=aD hz;obtain⟨m,hm,hz3⟩:=lh hz2;obtain⟨ver,ho,_⟩:=nr hs;simp only at ho;rw[lY hx (ii ho)];refine .pure hr hz3 (x:=.c (.ep id m 0)) (fun _=>FU rfl (by simpa using h2) hm) (bA (cn rfl (by cases t<;>rfl))) ⟨hk,by cases t<;>trivial,fun u w' v' ho'=>?_,fun u w' v' ho'=>?_⟩
   .have:=(gM.1 hm).2;rw[Ci ho ho'];exact this
   .rcases ho with ho|ho<;>rw[ho]at ho'<;>cases ho'
  .simp at hz
 |sr id=>
  simp only at hz;split at hz
  .rename_i t v ln ho;obtain⟨h2,hz2⟩:=aD hz;obtain⟨m,hm,hz3⟩:=lh hz2;rw[BE hx (Sp ho)];refine .pure hr hz3 (x:=.c (.ep id m 0)) (fun _=>FU (t:=.sl t) rfl (Eq.trans (rfl:bn (.sl t)=1) (beq_iff_eq.1 h2)) hm) (bA (cn rfl rfl)) ⟨hk,trivial,fun u w' v' ho'=>?_,fun u w' v' ho'=>?_⟩
   .rw [ho]at ho';rcases ho' with ho'|ho'<;>cases ho'
   .rw [ho]at ho';cases ho';exact(gM.1 hm).2
  .simp at hz
 |sb id ver lo t v=>
  simp only at hz;obtain⟨h2,hz2⟩:=aD hz;obtain⟨m,hm,hz3⟩:=lh hz2;obtain rfl:bn t=sz:=by simpa using h2
  rw[kF hx ha];have hm2:=(gM.1 hm).2;cases v with
  |nil=>exact CL hm
  |mk w=>refine .pure hr hz3 (x:=.c (.ep id (lo+m) 0)) (fun _=>Ir (l:=w) hm) (bA (cn rfl (by cases t<;>rfl))) ⟨hk.1,by cases t<;>trivial,fun u w' v' ho'=>?_,fun u w' v' ho'=>by obtain⟨u0,s0,ho⟩:=gW (h:=s.heap) (id:=id) (ver:=ver) (bQ.1 ha).2;rcases ho with ho|ho<;>rw[ho]at ho'<;>cases ho'⟩;obtain⟨u0,s0,ho⟩:=gW (h:=s.heap) (id:=id) (ver:=ver) (bQ.1 ha).2;obtain⟨_,h4⟩:=hk.2 u0 s0 ver ho;obtain⟨_,h6⟩:=h4 rfl;rw[Ci ho ho'];cases s0 with|nil=>exact h6.elim|mk l=>have:=h6.1;simp only[Sl.l]at hm2|-;omega
 |_=>simp at hz
theorem CM{x:V}{y:TV}{n0 sz:Nat}{i:Int}{kd:IntKind}
  (hz:(match x with
  |.op id t p=>(match Sf t p with|some (.ar n' u)=>bif(n'==n0)&&(bn u==sz)then(rM i n0).bind fun m=>k (.op id t (p++[.ix m])) s []else none|_=>none)
  |.ep id q t p=>(match Sf t p with|some (.ar n' u)=>bif(n'==n0)&&(bn u==sz)then(rM i n0).bind fun m=>k (.ep id q t (p++[.ix m])) s []else none|_=>none)
  |.pt (.ar n' u) v=>bif(n'==n0)&&(bn u==sz)then(rM i n0).bind fun m=>k (.pt u (gt v.1 m)) s []else none
  |_=>none)=some z)
  (hr:HR s.next h1 s.heap) (hx:dD s.heap x y) (hk:cX s.next s.heap x):rI h1 (.indexAddr (some n0) sz) [y,tI kd i] s k z:=by
 cases x with
 |op id t p=>
  simp only at hz;split at hz
  .rename_i n' u hu;obtain⟨h2,hz2⟩:=aD hz;obtain⟨m,hm,hz3⟩:=lh hz2;simp only[ae,beq_iff_eq]at h2;obtain⟨rfl,rfl⟩:=h2;obtain⟨rfl,hm2⟩:=gM.1 hm;obtain⟨q1,q2⟩:=zA p t u n' m hu hm2 hk.2;rw[oF hx];refine .pure hr hz3 (x:=.c (.op id (iE t p+m*bn u))) (fun _=>?_) (bA (cn rfl ?_)) ⟨hk.1,q1⟩
   .simp only[hZ,bD,bC,eZ];rw[if_pos ⟨by omega,by omega⟩];simp
   .show [_]=[_];rw[q2]
  .simp at hz
 |ep id q t p=>
  simp only at hz;split at hz
  .rename_i n' u hu;obtain⟨h2,hz2⟩:=aD hz;obtain⟨m,hm,hz3⟩:=lh hz2;simp only[ae,beq_iff_eq]at h2;obtain⟨rfl,rfl⟩:=h2;obtain⟨rfl,hm2⟩:=gM.1 hm;obtain⟨q1,q2⟩:=zA p t u n' m hu hm2 hk.2.1;rw[lZ hx];refine .pure hr hz3 (x:=.c (.ep id q (iE t p+m*bn u))) (fun _=>?_) (bA (cn rfl ?_)) ⟨hk.1,q1,hk.2.2⟩
   .simp only[hZ,bD,bC,eZ];rw[if_pos ⟨by omega,by omega⟩];simp
   .show [_]=[_];rw[q2]
  .simp at hz
 |pt t v=>cases t with|ar n' u=>simp only at hz;obtain⟨h2,hz2⟩:=aD hz;obtain⟨m,hm,hz3⟩:=lh hz2;simp only[ae,beq_iff_eq]at h2;obtain⟨rfl,rfl⟩:=h2;obtain⟨rfl,hm2⟩:=gM.1 hm;obtain⟨hd,rfl⟩:=qg hx;obtain⟨a1,a2⟩:=wG v hm2;refine .pure hr hz3 (x:=.c (.d (.pt (aJ u (gt v.1 m))))) (fun _=>?_) (bA (cn rfl ⟨hd,rfl⟩)) trivial;simp only[hZ,bD,bC,eZ];rw[if_pos ⟨by omega,by omega⟩];simp only[Int.toNat_natCast];rw[if_pos a1,a2]|_=>simp at hz
 |_=>simp at hz
end
section
variable{h:H2}{n:Nat}{h1:aY}{β:Type}{s:S2}{k:V->S2->List Nat->Option β}{z:β}
theorem ul{t u:Ty}{m:Sl (El t)}{m':Sl (El u)}(hc:dT (.sl t) (.sl u) m=some m'):t=u/\m'.l.map (aJ u)=m.l.map (aJ t):=by obtain⟨e,rfl⟩:=bL hc;cases e;exact⟨rfl,rfl⟩
theorem Gu{c:C}{t:Ty}{id sz:Nat}{w:Sl (El t)}{ver:Nat}(hr:HR n h1 h)(hc:c=ij (bn t) (aJ t) id w)(hsz:bn t=sz)(ho:fO h id=some (.ar t w ver)\/fO h id=some (.im t w ver)):
  ∃aj,fz sz h1 c=some (w.l.map (aJ t),aj)/\∀i∈aj,i=id:=by
 subst hc hsz;cases w with
 |nil=>exact⟨[],rfl,fun i hi=>by simp at hi⟩
 |mk l=>
  refine⟨[id],?_,fun i hi=>by simpa using hi⟩;rcases ho with ho|ho
  .have hb:=(hr.ob id _ ho).2.1.2.2 l rfl;simp only[ij,fz,hb];rw[if_pos ⟨trivial,by simp⟩,mO];rfl
  .have hb:=(hr.ob id _ ho).2.1.2.2 l rfl;simp only[ij,fz,hb];rw[if_pos ⟨trivial,by simp⟩,mO];rfl
theorem En{id lo ver sz:Nat}{t:Ty}{r:Sl (El t)}(hr:HR n h1 h)(hk:cX n h (.sb id ver lo t r))(ha:eT h (.sb id ver lo t r)=true)(hsz:bn t=sz):
  ∃aj,fz sz h1 (qq id lo t r)=some (r.l.map (aJ t),aj)/\∀i∈aj,i=id:=by
 subst hsz;obtain⟨u,s0,ho⟩:=gW (h:=h) (id:=id) (ver:=ver) (bQ.1 ha).2;obtain⟨_,h4⟩:=hk.2 u s0 ver ho;obtain⟨h5,h6⟩:=h4 rfl;cases r with
 |nil=>exact⟨[],rfl,fun i hi=>by simp at hi⟩
 |mk w=>
  cases s0 with
  |nil=>exact h6.elim
  |mk l=>
   refine⟨[id],?_,fun i hi=>by simpa using hi⟩
   have hb:ak h1 id=some (.aB (bn u) (l.map (aJ u)))\/ak h1 id=some (.ML (bn u) (l.map (aJ u))):=by
    rcases ho with ho|ho
    .exact .inl ((hr.ob id _ ho).2.1.2.2 l rfl)
    .exact .inr ((hr.ob id _ ho).2.1.2.2 l rfl)
   rcases hb with hb|hb
   .simp only[qq,fz,hb];rw[if_pos ⟨trivial,by simpa using h6.1⟩];rw[aH,h6.2];rfl
   .simp only[qq,fz,hb];rw[if_pos ⟨trivial,by simpa using h6.1⟩];rw[aH,h6.2];rfl
theorem za{x:V}{y:TV}{t0 t:Ty}{m:Sl (El t)}{l:List Nat}{sz:Nat}(hr:HR n h1 h)(hx:dD h x y)(hk:cX n h x)(ha:eT h x=true)(hs:BO t0 h x=some ⟨t,m,l⟩)(hsz:bn t=sz):
  ∃c aj,y=.c c/\fz sz h1 c=some (m.l.map (aJ t),aj)/\∀i∈aj,i∈l:=by
 cases x with
 |nl j=>cases j with|zero=>simp only[BO]at hs;obtain⟨rfl,e⟩:=fG (aa hs);obtain⟨rfl,rfl⟩:=ad (eq_of_heq e);exact⟨_,[],oG hx,rfl,fun i hi=>by simp at hi⟩|succ j=>simp[BO,mU]at hs
 |x u v=>cases u with|sl u=>simp only[BO,mU]at hs;obtain⟨rfl,e⟩:=fG (aa hs);obtain⟨rfl,rfl⟩:=ad (eq_of_heq e);subst hsz;exact⟨_,[],qf hx,Em,fun i hi=>by simp at hi⟩|_=>simp[BO,mU]at hs
 |so id=>obtain⟨ver,ho,e⟩:=nr (h:=h) (id:=id) hs;obtain rfl:l=[id]:=e;obtain⟨aj,q1,q2⟩:=Gu hr rfl hsz ho;exact⟨_,aj,lY hx (ii ho),q1,fun i hi=>by simpa using q2 i hi⟩
 |sb id ver lo u r=>simp only[BO,mU]at hs;obtain⟨rfl,e⟩:=fG (aa hs);obtain⟨rfl,rfl⟩:=ad (eq_of_heq e);obtain⟨aj,q1,q2⟩:=En hr hk ha hsz;exact⟨_,aj,kF hx ha,q1,fun i hi=>by simpa using q2 i hi⟩
 |_=>simp[BO,mU]at hs
def m8(s:S2):Option Nat->S2
 |none=>s
 |some id=>cJ s id none
theorem ur{Mg:Option Nat}{t:Ty}{w:Sl (El t)}{u:de}{aj l:List Nat}{m:Nat}(hr:HR s.next h1 s.heap)(hkl:∀id,Mg=some id->id<s.next)(hd:uB t=true)(hu:∀p∈u,p.1=s.next\/Mg=some p.1)(hl:∀i∈aj,i∈l)(hm:m<=s.next+1)
  (hb:∀l,w=.mk l->ak (u++h1) s.next=some (.aB (bn t) (l.map (aJ t)))) {x:TV} (hx:x=.c (ij (bn t) (aJ t) s.next w)):Se s (fI (m8 s Mg) (.ar t w 0)) h1 x u aj m (.so s.next) l:=by
 have hnx:(m8 s Mg).next=s.next:=by cases Mg<;>rfl
 have hh:(fI (m8 s Mg) (.ar t w 0)).heap=(s.next,some (.ar t w 0))::(m8 s Mg).heap:=by simp only[fI,hnx]
 have hfo:∀i,fO (fI (m8 s Mg) (.ar t w 0)).heap i=if s.next=i then some (.ar t w 0)else if Mg=some i then none else fO s.heap i:=by intro i;rw[hh,bI];cases Mg with|none=>simp[m8]|some id=>simp only[m8,cJ,bI,bp]
 have hnn:(fI (m8 s Mg) (.ar t w 0)).next=s.next+1:=by simp only[fI,hnx]
 refine Se.wS (s.next::Mg.toList) hr ⟨fun i o' hi ho=>?_⟩ ?_ ?_ ?_ ?_ hl ?_ ?_ ?_ ?_ ?_ ?_ (fun i hi h=>by rw[hfo,if_neg (by omega)];split<;>first|rfl|exact h)
 .rw [hfo,if_neg (by omega)]at ho;split at ho
  .simp at ho
  .exact .inl ⟨o',ho,lW.refl _⟩
 .cases Mg<;>rfl
 .cases Mg<;>rfl
 .rw [hnn];exact hm
 .rw [hnn];omega
 .cases Mg<;>simp[fI,m8,cJ]
 .intro p hp;rcases hu p hp with e|e
  .simp [e]
  .simp [e]
 .intro i hi;rw[hfo,if_neg (fun e=>hi (by simp[e])),if_neg (fun e=>hi (by simp[e]))]
 .intro i hi o ho;rw[hfo]at ho;split at ho
  .rename_i e;subst e;obtain rfl:=aa ho;obtain⟨h3,h4⟩:=Vt hd;exact⟨by rw[hnn];omega,⟨h3,h4,hb⟩,trivial⟩
  .rename_i e;split at ho
   .simp at ho
   .rename_i e2;rcases aE.1 hi with hi|hi
    .exact absurd hi.symm e
    .exact absurd (by simpa using hi) e2
 .rw [hx,hh,show s.next=s.next from rfl];exact oT
 .rw [hnn];exact aN _
theorem OB{sz:Nat}{c:C}{new:List (List D)}{aj:List Nat}(hx:fz sz h1 c=some (new,aj))(hl:new.length<=2147483648){nx:Nat}{cl:Call}:
  bD cl (.append sz) [some (.c (.d (.lit (.slice none 0 0)))),some (.c c)] h1 nx=if new=[]then some (.c (.d (.lit (.slice none 0 0))),[],aj,nx)else some (.c (.da sz nx 0 new.length),[(nx,some (.aB sz new))],aj,nx+1):=by
 simp only[bD,jj,hx];rw[if_pos (by simpa[vO]using hl)];cases new<;>simp
theorem oq{Mg:Option Nat}{t:Ty}{xs r:List (El t)}{sz:Nat}{c:C}{aj l:List Nat}(hr:HR s.next h1 s.heap)(hkl:∀id,Mg=some id->id<s.next)(hd:uB t=true)(hsz:bn t=sz)(hx:fz sz h1 c=some (xs.map (aJ t),aj))(hc:pO ([]++xs)=some r)
  (hl:∀i∈aj,i∈l) (hz:k (.so s.next) (fI (m8 s Mg) (.ar t (pR Sl.nil xs r) 0)) l=some z):rI h1 (.append sz) [.c (.d (.lit (.slice none 0 0))),.c c] s k z:=by
 subst hsz;obtain⟨rfl,hlen⟩:=QZ.1 hc;refine⟨_,_,_,hz,fun cl=>?_⟩;simp only[am,aO];rw[OB hx (by simpa using hlen)];cases xs with|nil=>exact⟨_,_,_,_,rfl,ur hr hkl hd (fun p hp=>by simp at hp) hl (a_ _) (fun l e=>by cases e) rfl⟩|cons y ys=>refine⟨_,_,_,_,if_neg (by simp),ur hr hkl hd (fun p hp=>by simp at hp;simp[hp]) hl (ai _) (fun l e=>?_) rfl⟩;simp only[pR,bc]at e;cases e;rw[aP,bX,if_pos rfl]
theorem zO{t:Ty}{w xs r:List (El t)}{sz id off:Nat}{rows:List (List D)}{c:C}{aj l:List Nat}(hr:HR s.next h1 s.heap)(hid:id<s.next)(hd:uB t=true)(hsz:bn t=sz)(hl1:ak h1 id=some (.aB sz rows))(hle:off+w.length<=rows.length)(hro:rows.length<=off+(w.length+xs.length))(he:(rows.drop off).take w.length=w.map (aJ t))
  (hx:fz sz h1 c=some (xs.map (aJ t),aj)) (hc:pO (w++xs)=some r) (hl:∀i∈id::aj,i∈l) (hz:k (.so s.next) (fI (cJ s id none) (.ar t (pR (.mk w) xs r) 0)) l=some z):
  rI h1 (.append sz) [.c (.da sz id off (w.map (aJ t)).length),.c c] s k z:=by
 subst hsz;obtain⟨rfl,hlen⟩:=QZ.1 hc;have ea:pR (.mk w) xs (w++xs)=.mk (w++xs):=by cases xs<;>rfl
 rw[ea]at hz;refine⟨_,_,_,hz,fun cl=>⟨.c (.da (bn t) s.next 0 ((w++xs).map (aJ t)).length),[(id,none),(s.next,some (.aB (bn t) ((w++xs).map (aJ t))))],id::aj,s.next+1,?_,?_⟩⟩
 .simp only[am,aO,bD,jj,hx,hl1];simp only[aH,bh]at hlen|-;rw[if_pos ⟨trivial,by omega,by simpa[vO]using hlen⟩,he,<-LZ,List.drop_eq_nil_of_le (by omega),List.append_nil]
 .refine ur (Mg:=some id) hr (fun i e=>by cases e;exact hid) hd (fun p hp=>?_) hl (ai _) (fun l e=>?_) rfl
  .simp only[aE,fW,or_false]at hp;rcases hp with rfl|rfl<;>simp
  .cases e;rw[aK,bX,if_neg (by omega),aP,bX,if_pos rfl]
theorem wI{a x:V}{ya yx:TV}{t0:Ty}{sz:Nat}
  (hz:(match BO t0 s.heap x with
  |some ⟨t,m,aj⟩=>bif(bn t==sz)&&uB t then(match a with
   |.nl 0=>(pO ([]++m.l)).bind fun r=>k (.so s.next) (fI s (.ar t (pR Sl.nil m.l r) 0)) aj
   |.x (.sl _) v=>bif Sl.QH v then((pO ([]++m.l)).bind fun r=>k (.so s.next) (fI s (.ar t (pR Sl.nil m.l r) 0)) aj)else none
   |.so id=>(match fO s.heap id with
    |some (.ar u v _)=>(match dT (.sl t) (.sl u) m with
     |some m=>(pO (v.l++m.l)).bind fun r=>k (.so s.next) (fI (cJ s id none) (.ar u (pR v m.l r) 0)) (id::aj)
     |none=>none)
    |_=>none)
   |.sb id _ lo u v=>(match fO s.heap id,dT (.sl t) (.sl u) m with
    |some (.ar _ s0 _),some m=>bif Nat.ble s0.l.length (lo+(v.l.length+m.l.length))then((pO (v.l++m.l)).bind fun r=>k (.so s.next) (fI (cJ s id none) (.ar u (pR v m.l r) 0)) (id::aj))else none
    |_,_=>none)
   |_=>none)else none
  |none=>none)=some z)
  (hr:HR s.next h1 s.heap) (ha1:dD s.heap a ya) (ha2:cX s.next s.heap a) (ha3:eT s.heap a=true) (hx:dD s.heap x yx) (hk:cX s.next s.heap x) (ha:eT s.heap x=true):rI h1 (.append sz) [ya,yx] s k z:=by
 split at hz
 .rename_i t m l hs;obtain⟨h2,hz2⟩:=aD hz;simp only[ae,beq_iff_eq]at h2;obtain⟨hsz,hd⟩:=h2;obtain⟨c,aj,rfl,q1,q2⟩:=za hr hx hk ha hs hsz;clear hz;cases a with
  |nl j=>cases j with|zero=>obtain⟨r,hc,hz3⟩:=lh hz2;rw[oG ha1];exact oq (Mg:=none) hr (fun _ e=>by cases e) hd hsz q1 hc q2 hz3|succ j=>simp at hz2
  |x u v=>
   cases u with
   |sl u=>obtain⟨hnil,hz3⟩:=aD hz2;obtain⟨r,hc,hz4⟩:=lh hz3;cases v with|mk=>cases hnil|nil=>obtain⟨cc,rfl,hcc⟩:=ft (v:=.x (.sl u) Sl.nil) ha1 rfl;obtain rfl:cc=vF 0:=(bz hcc.2).1;exact oq (Mg:=none) hr (fun _ e=>by cases e) hd hsz q1 hc q2 hz4
   |_=>simp at hz2
  |so id=>
   simp only at hz2;split at hz2
   .rename_i u v ver ho;split at hz2
    .rename_i m' hm;obtain⟨rfl,e⟩:=ul hm;obtain⟨r,hc,hz3⟩:=lh hz2;rw[lY ha1 (ii (.inl ho))];rw[<-e]at q1;cases v with
     |nil=>exact oq (Mg:=some id) hr (fun _ e=>by cases e;exact ha2) hd hsz q1 hc (fun i hi=>aq _ (q2 i hi)) hz3
     |mk w=>
      have hb:=(hr.ob id _ ho).2.1.2.2 w rfl;subst hsz;refine zO (w:=w) hr ha2 hd rfl hb (by simp) (by simp only[aH];omega) (by rw[<-aH (f:=aJ t)];exact mO) q1 hc (fun i hi=>?_) hz3;rcases aE.1 hi with rfl|hi
      .exact cM ..
      .exact aq _ (q2 i hi)
    .simp at hz2
   .simp at hz2
  |sb id ver lo u v=>
   simp only at hz2;split at hz2
   .rename_i u0 s0 v0 m' ho hm;obtain⟨rfl,e⟩:=ul hm;obtain⟨hgd,hz2b⟩:=aD hz2;obtain⟨r,hc,hz3⟩:=lh hz2b;rw[kF ha1 ha3];rw[<-e]at q1;cases v with
    |nil=>exact oq (Mg:=some id) hr (fun _ e=>by cases e;exact ha2.1) hd hsz q1 hc (fun i hi=>aq _ (q2 i hi)) hz3
    |mk w=>
     obtain⟨u1,s1,ho1⟩:=gW (h:=s.heap) (id:=id) (ver:=ver) (bQ.1 ha3).2;obtain⟨_,h4⟩:=ha2.2 u1 s1 ver ho1;obtain⟨h5,h6⟩:=h4 rfl
     have ho2:fO s.heap id=some (.ar u1 s1 ver):=by
      rcases ho1 with ho1|ho1
      .exact ho1
      .rw [ho]at ho1;simp at ho1
     cases s1 with
     |nil=>exact h6.elim
     |mk l1=>
      have hb:=(hr.ob id _ ho2).2.1.2.2 l1 rfl;subst hsz;rw[h5]at hb
      refine zO (w:=w) hr ha2.1 hd rfl hb (by simpa using h6.1) (by
       rw[ho2]at ho;obtain⟨rfl,e2,_⟩:u1=u0/\_:=by simpa using ho
       cases eq_of_heq e2;have:=fx hgd;simpa[Sl.l]using this) h6.2 q1 hc (fun i hi=>?_) hz3
      rcases aE.1 hi with rfl|hi
      .exact cM ..
      .exact aq _ (q2 i hi)
   .simp at hz2
  |_=>simp at hz2
 .simp at hz
end
section
variable{h:H2}{n:Nat}{h1:aY}{β:Type}{s:S2}{k:V->S2->List Nat->Option β}{z:β}
theorem yT{id:Nat}{o o':O}{u:de}{x:TV}{v:V}{aj l:List Nat}(hr:HR s.next h1 s.heap)(ho:fO s.heap id=some o)(hs:lW o o')(hu:∀p∈u,p.1=id)(hb:KB ((id,some o')::s.heap) o' (ak (u++h1) id))(hko:uC s.next ((id,some o')::s.heap) o')
  (hx:dD ((id,some o')::s.heap) v x) (hk:cX s.next ((id,some o')::s.heap) v) (hl:∀i∈aj,i∈l):Se s (cJ s id (some o')) h1 x u aj s.next v l:=by
 refine Se.wS [id] hr (fF.uK ho hs) rfl rfl (ai _) (ai _) hl rfl (fun p hp=>by simp[hu p hp]) (fun i hi=>?_) (fun i hi o2 ho2=>?_) hx hk (fun i _ h=>by simp only[cJ];rw[bI,if_neg (fun e=>by rw[e,h]at ho;cases ho)];exact h)
 .simp only[cJ];rw[bI,if_neg fun e=>hi (by simp[e])]
 .obtain rfl:=ao.1 hi;simp only[cJ,mM]at ho2;obtain rfl:=aa ho2;exact⟨(hr.ob _ _ ho).1,hb,hko⟩
theorem lL{id ver:Nat}{t:Ty}{w w':Sl (El t)}{u:de}{x:TV}{v:V}{aj l:List Nat}(hr:HR s.next h1 s.heap)(ho:fO s.heap id=some (.ar t w ver))(hn:w.QH=w'.QH)(hlen:w.l.length=w'.l.length)(hu:∀p∈u,p.1=id)
  (hb:∀l,w'=.mk l->ak (u++h1) id=some (.aB (bn t) (l.map (aJ t)))) (hx:∀g,dD g v x) (hk:∀n g,cX n g v) (hl:∀i∈aj,i∈l):Se s (cJ s id (some (.ar t w' (ver+1)))) h1 x u aj s.next v l:=by
 obtain⟨h2,h3,_⟩:=(hr.ob id _ ho).2.1;exact yT hr ho ⟨a_ _,rfl,hn,hlen,fun e=>by omega⟩ hu ⟨h2,h3,hb⟩ trivial (hx _) (hk _ _) hl
theorem Ba{a x:V}{ya yx:TV}{t0:Ty}{sz:Nat}
  (hz:(match BO t0 s.heap x with
  |some ⟨t,m,aj⟩=>bif bn t==sz then(match a with
   |.nl 0=>k (.x (.i .i64) (0:Int)) s aj
   |.so id=>(match fO s.heap id with
    |some (.ar u v ver)=>(match dT (.sl t) (.sl u) m with
     |some m=>k (.x (.i .i64) ((min m.l.length v.l.length:Nat):Int)) (cJ s id (some (.ar u (v.to (Dq v.l 0 v.l.length m.l)) (ver+1)))) (id::aj)
     |none=>none)
    |_=>none)
   |.sb id ver lo _ v=>(match fO s.heap id with
    |some (.ar u w ver')=>(match dT (.sl t) (.sl u) m with
     |some m=>bif ver'==ver then k (.x (.i .i64) ((min m.l.length v.l.length:Nat):Int)) (cJ s id (some (.ar u (w.to (Dq w.l lo v.l.length m.l)) (ver+1)))) (id::aj)else none
     |none=>none)
    |_=>none)
   |_=>none)else none
  |none=>none)=some z)
  (hr:HR s.next h1 s.heap) (ha1:dD s.heap a ya) (ha2:cX s.next s.heap a) (ha3:eT s.heap a=true) (hx:dD s.heap x yx) (hk:cX s.next s.heap x) (ha:eT s.heap x=true):rI h1 (.copy sz) [ya,yx] s k z:=by
 have hmem:∀{id:Nat}{aj l:List Nat},(∀i∈aj,i∈l)->∀i∈id::aj,i∈id::l:=fun q i hi=>by
  rcases aE.1 hi with rfl|hi
  .exact cM ..
  .exact aq _ (q i hi)
 split at hz
 .rename_i t m l hs;obtain⟨h2,hz2⟩:=aD hz;obtain rfl:bn t=sz:=by simpa using h2
  obtain⟨c,aj,rfl,q1,q2⟩:=za hr hx hk ha hs rfl;clear hz;cases a with
  |nl j=>cases j with|zero=>rw[oG ha1];exact⟨_,_,_,hz2,fun cl=>⟨tI .i64 0,[],aj,s.next,by simp only[am,aO,bD,il,vF,q1];rfl,Se.pure hr (xi _ _) trivial q2⟩⟩|succ j=>simp at hz2
  |so id=>
   simp only at hz2;split at hz2
   .rename_i u v ver ho;split at hz2
    .rename_i m' hm;obtain⟨rfl,e⟩:=ul hm;rw[lY ha1 (ii (.inl ho))];rw[<-e]at q1;cases v with
     |nil=>refine⟨_,_,_,hz2,fun cl=>⟨tI .i64 0,[],aj,s.next,by simp only[am,aO,bD,il,ij,q1];rfl,?_⟩⟩;exact lL hr ho rfl rfl (fun p hp=>by simp at hp) (fun l e=>by cases e) (fun g=>by simpa[Sl.l]using xi .i64 0) (fun _ _=>trivial) fun i hi=>aq _ (q2 i hi)
     |mk w=>
      have hb:=(hr.ob id _ ho).2.1.2.2 w rfl;refine⟨_,_,_,hz2,fun cl=>⟨_,_,_,_,Ht hb q1,?_⟩⟩;refine lL hr ho rfl ?_ (fun p hp=>by simp at hp;simp[hp]) (fun l e=>?_) (fun g=>xi _ _) (fun _ _=>trivial) (hmem q2)
      .simp only[Sl.to,Sl.l];rw[nC (by omega)]
      .simp only[Sl.to,Sl.l]at e;cases e;rw[aP,bX,if_pos rfl];rfl
    .simp at hz2
   .simp at hz2
  |sb id ver lo u0 v=>
   simp only at hz2;split at hz2
   .rename_i u w ver' ho;split at hz2
    .rename_i m' hm;obtain⟨rfl,e⟩:=ul hm;obtain⟨h3,hz3⟩:=aD hz2;obtain rfl:ver'=ver:=by simpa using h3
     rw[kF ha1 ha3];rw[<-e]at q1;obtain⟨_,h4⟩:=ha2.2 t w ver' (.inl ho);obtain⟨h5,h6⟩:=h4 rfl;cases v with
     |nil=>cases w with|mk w=>exact h6.elim|nil=>refine⟨_,_,_,hz3,fun cl=>⟨tI .i64 0,[],aj,s.next,by simp only[am,aO,bD,il,qq,q1];rfl,?_⟩⟩;exact lL hr ho rfl rfl (fun p hp=>by simp at hp) (fun l e=>by cases e) (fun g=>by simpa[Sl.l]using xi .i64 0) (fun _ _=>trivial) fun i hi=>aq _ (q2 i hi)
     |mk v=>
      cases w with
      |nil=>exact h6.elim
      |mk w=>
       have hb:=(hr.ob id _ ho).2.1.2.2 w rfl;refine⟨_,_,_,hz3,fun cl=>⟨tI .i64 (min m'.l.length v.length:Nat),[(id,some (.aB (bn t) ((Dq w lo v.length m'.l).map (aJ t))))],id::aj,s.next,?_,?_⟩⟩
       .simp only[am,aO,bD,il,qq,q1,hb,<-h5];rw[if_pos ⟨trivial,by simpa using h6.1⟩];simp only[yq,aH];rfl
       .refine lL hr ho rfl ?_ (fun p hp=>by simp at hp;simp[hp]) (fun l e=>?_) (fun g=>xi _ _) (fun _ _=>trivial) (hmem q2)
        .simp only[Sl.to,Sl.l];rw[nC h6.1]
        .simp only[Sl.to,Sl.l]at e;cases e;rw[aP,bX,if_pos rfl];rfl
    .simp at hz2
   .simp at hz2
  |_=>simp at hz2
 .simp at hz
theorem uO{g:H2}:dD g (.tp .ni) (.fm []):=⟨[],rfl,rfl⟩
theorem yv{a:V}{ya:TV}{zz:List Value}
  (hz:(match a with
  |.sb id ver lo _ v=>(match fO s.heap id with
   |some (.ar u w ver')=>bif(ver'==ver)&&mT (iU u) zz&&uB u then(Fh w lo v.l.length (lX u)).bind fun w=>k (.tp .ni) (cJ s id (some (.ar u w (ver+1)))) [id]else none
   |_=>none)
  |_=>none)=some z)
  (hr:HR s.next h1 s.heap) (ha1:dD s.heap a ya) (ha2:cX s.next s.heap a) (ha3:eT s.heap a=true):rI h1 (.clear zz) [ya] s k z:=by
 cases a with
 |sb id ver lo u0 v=>
  simp only at hz;split at hz
  .rename_i u w ver' ho;obtain⟨h3,hz2⟩:=aD hz;simp only[ae,beq_iff_eq]at h3;obtain⟨⟨rfl,q1⟩,q2⟩:=h3;have q1:=lp q1;subst q1;obtain⟨hd,_⟩:=Vt q2;obtain⟨w',hw,hz3⟩:=lh hz2;rw[kF ha1 ha3];obtain⟨_,h4⟩:=ha2.2 u w ver' (.inl ho);obtain⟨h5,h6⟩:=h4 rfl;have hzl:bO (iU u)=aJ u (lX u):=(lm u hd).symm;have hlen:bn u=(iU u).length:=by have:=congrArg List.length hzl;rw[bg,bO,aH]at this;exact this.symm
   cases w with
   |nil=>simp[Fh]at hw
   |mk w=>
    cases v with
    |nil=>exact h6.elim
    |mk v=>
     simp only[Fh,bp]at hw;subst hw;have hb:=(hr.ob id _ ho).2.1.2.2 w rfl;refine⟨_,_,_,hz3,fun cl=>⟨.fm [],[(id,some (.aB (bn u) ((Dq w lo v.length (au v.length (lX u))).map (aJ u))))],[id],s.next,?_,?_⟩⟩
     .simp only[am,aO,bD,jG,qq,hb,<-h5];rw[if_pos ⟨hlen,by simpa using h6.1⟩,hzl,<-yq];simp[aH,List.map_replicate,List.take_of_length_le]
     .refine lL hr ho rfl ?_ (fun p hp=>by simp at hp;simp[hp]) (fun l e=>?_) (fun g=>uO) (fun _ _=>trivial) (fun i hi=>hi)
      .simp only[Sl.l];rw[nC (by simpa using h6.1)]
      .cases e;rw[aP,bX,if_pos rfl];rfl
  .simp at hz
 |_=>simp at hz
theorem uQ{id m:Nat}{t:Ty}{p:ki}{w:V}{ya yw:TV}(hr:HR s.next h1 s.heap)(ha1:dD s.heap (.op id t p) ya)(ha2:cX s.next s.heap (.op id t p))(hx:dD s.heap w yw)(hk:cX s.next s.heap w)
  (hz:(bif(qj w==m)then(match fO s.heap id with
  |some (.bx u c)=>bif decide (u=t)then(match Sf t p with
   |some a=>(match DX a w with
    |some w=>(match jm c p w with|some c=>bif cL c false t then k (.tp .ni) (cJ s id (some (.bx t c))) [id]else none|none=>none)
    |none=>none)
   |none=>none)else none
  |_=>none)else none)=some z):rI h1 (.store m) [ya,yw] s k z:=by
 obtain⟨h2,hz2⟩:=aD hz;simp only[beq_iff_eq]at h2;clear hz;split at hz2
 .rename_i u c ho;obtain⟨h3,hz3⟩:=aD hz2;simp only[decide_eq_true_eq]at h3;subst h3;clear hz2;split at hz3
  .rename_i a ha;split at hz3
   .rename_i w' hw;split at hz3
    .rename_i c' hc;obtain⟨h4,hz4⟩:=aD hz3;obtain⟨cw,e1,e2⟩:=kS (jw (xR hw) hx);obtain⟨q1,q2,q3,q4⟩:=qJ hw e1 hk;obtain⟨_,⟨cs,e3,e4,e5⟩,e6⟩:=hr.ob id _ ho;have l1:cw.length=qj w:=eS e1;have l2:cw.length=bn a:=by rw[eS q1,ei _ _ _ q2]
     have l3:cs.length=bn u:=by rw[eS e4,ei _ _ _ e5]
     have l4:=oS p u a ha ha2.2;have q5:=oL p c u w' c' cs cw a e5 e4 ha2.2 hc ha q1 l2;have q6:=TN p c w' c' e6 q3 hc;rw[oF ha1];have hos:lW (.bx u c) (.bx u c'):=rfl;refine .uK hr ho hos hz4 (fun cl=>?_) (b:=some (.box (aM cs (iE u p) cw))) ?_ ?_ uO trivial (aj:=[id]) fun i hi=>hi
     .simp only[am,aO,bD,ia,e2];rw[if_pos (l1.trans h2)];simp only[e3];rw[if_pos (by omega)]
     .exact ⟨_,rfl,gV (fF.uK ho hos) q6 q5,h4⟩
     .exact WI (ai _) (fF.uK ho hos) q6
    .simp at hz3
   .simp at hz3
  .simp at hz3
 .simp at hz2
theorem Se.seq{s1 s':S2}{fu u:de}{x:TV}{aj a l:List Nat}{m:Nat}{v:V}(c9:fF s.next s.heap s1.heap)(he:s1.bS=s.bS)(hg:s1.gh=s.gh)(hn:s1.next=s.next)(hwo:s1.wo=a++s.wo)(hu:∀p∈fu,p.1∈a)(hf:∀id,id∉a->fO s1.heap id=fO s.heap id)
  (hna:∀i∈a,fO s.heap i≠none) (hd:Se s1 s' (fu++h1) x u aj m v l):Se s s' h1 x (u++fu) aj m v l:=by
 obtain⟨d1,d2,d3,d4,d5,d6,d7,d8,d9,d10,W,w1,w2,w3⟩:=hd;refine⟨d1,d2,by rw[aI];exact d3,fF.trans (Nat.le_of_eq hn.symm) c9 d4,d5.trans he,d6.trans hg,d7,by omega,d9,fun i hi h=>d10 i (by omega) ((hf i fun q=>hna i q h).trans h),W++a,by rw[w1,hwo,aI],fun p hp=>?_,fun i hi=>?_⟩
 .rcases ah.1 hp with hp|hp
  .exact az _ (w2 p hp)
  .exact av _ (hu p hp)
 .rw [w3 i fun q=>hi (az _ q),hf i fun q=>hi (av _ q)]
theorem C0{v w:V}{l:List Nat}(hf:fA h v=some (w,l)):EC v:=by cases v<;>first|trivial|(simp[fA]at hf)
theorem jW{a b:List D}(e:a.map C.d=b.map C.d):a=b:=by
 induction a generalizing b with
 |nil=>cases b with|nil=>rfl|cons y b=>simp at e
 |cons x a ih=>cases b with|nil=>simp at e|cons y b=>simp only[am,cf,C.d.injEq]at e;rw[e.1,ih e.2]
theorem Hq:∀(p:ki)(t u:Ty),L_ t=true->Sf t p=some u->L_ u=true:=by
 intro p;induction p with
 |nil=>
  intro t u hd h;have e:Sf t []=some t:=by cases t<;>rfl
  rw[e]at h;exact aa h▸hd
 |cons q p ih=>
  intro t u hd h;cases q with
  |fd i=>
   cases t with
   |st t=>
    simp only[Sf]at h;split at h
    .rename_i w hw;exact ih w u (rm t i w hd hw) h
    .simp at h
   |_=>simp[Sf]at h
  |ix i=>cases t with|ar l t=>exact ih t u hd h|_=>simp[Sf]at h
theorem zk(t:Ty):iE t []=0:=by cases t<;>rfl
theorem xg{t:Ty}{l:List (Sl (El t))}{ln:Option (Nat×Nat)}{m:Nat}{r:Sl (El t)}(h:yY ln m=true):(cT t l ln).set m (jx t r)=cT t (l.set m r) none:=by cases ln with|none=>simp only[cT,List.map_set]|some q=>obtain⟨m',i⟩:=q;obtain rfl:m'=m:=Nat.eq_of_beq_eq_true h;simp only[cT,List.map_set,List.set_set]
theorem xh{t:Ty}{l:List (Sl (El t))}{ln:Option (Nat×Nat)}:(cT t l ln).length=l.length:=by cases ln with|none=>simp[cT]|some q=>obtain⟨m',i⟩:=q;simp[cT]
theorem qz{id id2 m:Nat}{t:Ty}{l:List (Sl (El t))}{ln:Option (Nat×Nat)}{o2:O}{r:Sl (El t)}{u:de}{aj:List Nat}(hr:HR s.next h1 s.heap)(ho:fO s.heap id=some (.rw t (.mk l) ln))(ho2:fO s.heap id2=some o2)(hne:id2≠id)(hlnm:yY ln m=true)
  (hu:∀p∈u,p.1=id\/p.1=id2) (hb:ak (u++h1) id=some (.nst (bn t) ((cT t l ln).set m (jx t r)))) (hids:∀i∈aj,i∈[id,id2]):
  Se s (cJ (cJ s id2 none) id (some (.rw t (.mk (l.set m r)) none))) h1 (.fm []) u aj s.next (.tp .ni) [id,id2]:=by
 have c9:fF s.next s.heap ((id,some (.rw t (.mk (l.set m r)) none))::(id2,none)::s.heap):=by refine fF.trans (ai _) (fF.Mg id2) (fF.uK (o:=.rw t (.mk l) ln) ?_ ⟨rfl,rfl,by simp[Sl.l]⟩);rw[bI,if_neg hne];exact ho
 refine Se.wS [id,id2] hr c9 rfl rfl (ai _) (ai _) hids rfl (fun p hp=>?_) (fun i hi=>?_) (fun i hi o ho'=>?_) uO trivial (fun i _ h=>?_)
 .rcases hu p hp with e|e<;>simp[e]
 .simp only[aE,fW,or_false,not_or]at hi;simp only[cJ];rw[bI,if_neg (fun e=>hi.1 e.symm),bI,if_neg (fun e=>hi.2 e.symm)]
 .simp only[cJ]at ho';by_cases hi1:id=i
  .subst hi1;rw[bI,if_pos rfl]at ho';obtain rfl:=aa ho';obtain⟨a,⟨d1,d2,_⟩,_⟩:=hr.ob _ _ ho;exact⟨a,⟨d1,d2,fun l' e=>by cases e;rw[hb,xg hlnm]⟩,trivial⟩
  .rw [bI,if_neg hi1]at ho';simp only[aE,fW,or_false]at hi;rcases hi with rfl|rfl
   .exact absurd rfl hi1
   .rw [bI,if_pos rfl]at ho';cases ho'
 .simp only[cJ];rw[bI,if_neg (fun e=>by subst e;rw[ho]at h;cases h),bI,if_neg (fun e=>by subst e;rw[ho2]at h;cases h)];exact h
theorem Se.nx{s s':S2}{x:TV}{u:de}{aj l:List Nat}{m q:Nat}{v:V}(d:Se s s' h1 x u aj m v l)(hq:q<=s'.next):Se s s' h1 x u aj q v l:=⟨d.val,d.JI,d.hr,d.c9,d.bS,d.gh,hq,d.le,d.aj,d.nb,d.wo⟩
theorem uR{id m q:Nat}{t:Ty}{p:ki}{w:V}{ya yw:TV}(hr:HR s.next h1 s.heap)(ha1:dD s.heap (.ep id m t p) ya)(ha2:cX s.next s.heap (.ep id m t p))(hx:dD s.heap w yw)(hk:cX s.next s.heap w)(ha:eT s.heap w=true)
  (hz:(bif(qj w==q)then xd id m t p w s (fun s l=>k (.tp .ni) s l)else none)=some z):rI h1 (.store q) [ya,yw] s k z:=by
 obtain⟨h2,hz2⟩:=aD hz;simp only[beq_iff_eq]at h2;clear hz;unfold xd at hz2;split at hz2
 .rename_i u v ln ho;split at hz2
  .rename_i id2;split at hz2
   .rename_i u2 r ver ho2;split at hz2
    .rename_i r' hr';obtain⟨h3,hz3⟩:=aD hz2;simp only[ae,decide_eq_true_eq,Bool.not_eq_true',beq_eq_false_iff_ne]at h3;obtain⟨⟨rfl,hne⟩,hln⟩:=h3;obtain⟨e,e2⟩:=bL hr';cases e;obtain rfl:r'=r:=e2;have hlen:=ha2.2.2.2 _ _ _ ho;obtain⟨_,⟨d1,d2,d3⟩,_⟩:=hr.ob id _ ho;obtain⟨_,⟨_,_,c3⟩,_⟩:=hr.ob id2 _ ho2;cases v with
     |nil=>simp[Sl.l]at hlen
     |mk l=>
      have d3:=d3 l rfl;have h2':q=1:=h2.symm;subst h2';rw[lZ ha1,lY hx (ii (.inl ho2)),zk];have hl2:m<(cT u l ln).length:=by rw[xh];exact hlen
      cases r' with
      |nil=>
       refine⟨_,_,_,hz3,fun cl=>⟨.fm [],[(id,some (.nst (bn u) ((cT u l ln).set m .nil)))],[id],s.next,?_,?_⟩⟩
       .simp only[am,aO,bD,ia,ij,cellsOf,d3];rw[if_pos (show([_]:List C).length=1 from rfl)];rw[if_pos ⟨trivial,trivial,hl2⟩];simp only[lK]
       .exact qz hr ho ho2 hne hln (fun p hp=>by simp at hp;simp[hp]) (by rw[aP,bX,if_pos rfl];rfl) (fun i hi=>by simp at hi;simp[hi])
      |mk rr=>
       have c3:=c3 rr rfl;refine⟨_,_,_,hz3,fun cl=>⟨.fm [],[(id,some (.nst (bn u) ((cT u l ln).set m (.aW (rr.map (aJ u)))))),(id2,none)],[id,id2],s.next,?_,?_⟩⟩
       .simp only[am,aO,bD,ia,ij,cellsOf,d3];rw[if_pos (show([_]:List C).length=1 from rfl)];rw[if_pos ⟨trivial,trivial,hl2⟩];simp only[lK,c3];rw[if_pos ⟨trivial,by simp,hne⟩]
       .exact qz hr ho ho2 hne hln (fun p hp=>by simp at hp;rcases hp with rfl|rfl<;>simp) (by rw[aK,bX,if_pos rfl];rfl) (fun i hi=>hi)
    .simp at hz2
   .simp at hz2
  .simp at hz2
 .rename_i u l ver ho;split at hz2
  .rename_i w' a hw;obtain⟨h3,hz3⟩:=aD hz2;simp only[decide_eq_true_eq]at h3;subst h3;clear hz2;split at hz3
   .rename_i b2 hb;split at hz3
    .rename_i y hy;split at hz3
     .rename_i c hc;split at hz3
      .rename_i y2 hy2;split at hz3
       .rename_i s1 hs1;obtain⟨h4,hz4⟩:=aD hz3;obtain⟨cw,e1,e2⟩:=kS (jw (C0 hw) hx);obtain⟨ds,aj,f1,f2,f3,f4,f5⟩:=mi hr w w' a cw hw e1 hk ha;have e3:=jW (fq w' false b2 y _ hy f2);have hlen:=ha2.2.2.1 u l ver (.inl ho)
        have hnm:∀(ds:List D)(cs:List C)(aj:List Nat),cm h1 cs=some (ds,aj)->ds.length=cs.length:=by
         intro ds cs;induction cs generalizing ds with
         |nil=>intro aj h;obtain⟨rfl,_⟩:[]=ds/\[]=aj:=by simpa[cm]using h
               rfl
         |cons c cs ih=>
          intro aj h;simp only[cm]at h;split at h
          .rename_i p1 p2 p3 p4 hp hq;obtain⟨rfl,rfl⟩:=ad (aa h);simp[ih _ _ hq]
          .simp at h
        have l1:cw.length=qj w:=eS e1;have l2:ds.length=bn b2:=by rw[e3,bg]
        have l3:=hnm _ _ _ f1;have l4:=oS p u b2 hb ha2.2.1;cases l with
        |nil=>simp[Sl.l]at hlen
        |mk l=>
         obtain⟨_,⟨d1,d2,d3⟩,_⟩:=hr.ob id _ ho;have d3:=d3 l rfl;have q5:=oL (h:=s.heap) p (.x u (gt l m)) u (.x b2 y) c ((aJ u (gt l m)).map .d) ((aJ b2 y).map .d) b2 (by simp[cL]) ⟨d1,rfl⟩ ha2.2.1 hc hb ⟨Hq p u b2 d1 hb,rfl⟩ (by simp[bg]);have q6:=j9 hy2 q5;rw[<-nm]at q6;have q7:=jW q6;obtain⟨fu,g1,g2,g3,g4,g5,g6,g7,g8,g9⟩:=t9 (s0:=s) rfl hr a s1 aj aj hs1 f3 f4;have hid:id∉a:=by simpa using h4
         have hid2:aj.contains id=false:=by cases hq:aj.contains id with|false=>rfl|true=>exact absurd ((f3 id (by simpa using hq)).1) hid
         rw[lZ ha1];refine⟨_,_,_,hz4,fun cl=>⟨.fm [],(id,some (.aB (bn u) ((l.set m y2).map (aJ u))))::fu,id::aj,s.next,?_,?_⟩⟩
         .simp only[am,aO];exact Ee d3 hlen e2 (l1.trans h2) f1 g1 hid2 (by rw[bg];omega) (by rw[e3];exact q7)
         .have ho1:fO s1.heap id=some (.ar u (.mk l) ver):=by rw[g9 id hid];exact ho
          rw[<-g6]at g2
          have:=lL (v:=.tp .ni) (x:=.fm []) (aj:=id::aj) (l:=id::a) (u:=[(id,some (.aB (bn u) ((l.set m y2).map (aJ u))))]) g2 ho1 (w':=.mk (l.set m y2)) rfl (by simp[Sl.l]) (fun p hp=>by simp at hp;simp[hp]) (fun l' e=>by cases e;rw[aP,bX,if_pos rfl]) (fun _=>uO) (fun _ _=>trivial) (fun i hi=>by
           rcases aE.1 hi with rfl|hi
           .exact cM ..
           .exact aq _ (f3 i hi).1)
          rw[g6]at this;exact Se.seq g3 g4 g5 g6 g7 g8 g9 (x8 rfl hs1) this
       .simp at hz3
      .simp at hz3
     .simp at hz3
    .simp at hz3
   .simp at hz3
  .simp at hz2
 .simp at hz2
end
section
variable{h:H2}{n:Nat}{h1:aY}{β:Type}{s:S2}{k:V->S2->List Nat->Option β}{z:β}
theorem nh:∀{cs:List C}{ds:List D}{aj:List Nat},cm h1 cs=some (ds,aj)->ds.length=cs.length:=by
 intro cs;induction cs with
 |nil=>intro ds aj h;obtain⟨rfl,_⟩:[]=ds/\[]=aj:=by simpa[cm]using h
       rfl
 |cons c cs ih=>
  intro ds aj h;simp only[cm]at h;split at h
  .rename_i p1 p2 p3 p4 hp hq;obtain⟨rfl,rfl⟩:=ad (aa h);simp[ih hq]
  .simp at h
theorem Ga{t:Ty}(hd:L_ t=true)(m:Nat):(au m (lX t)).flatMap (aJ t)=bO ((au m (iU t)).flatten):=by induction m with|zero=>rfl|succ m ih=>simp only[eU,aZ,cE,ih,lm t hd,bO,LZ]
theorem tW(l:List Value):db l=(bO l).map .d:=by simp[db,bO]
theorem Bx{t:Ty}(hd:L_ t=true)(m:Nat):((au m (iU t)).flatten).length=m*bn t:=by have:=congrArg List.length (Ga hd m);rw[v8 (bg t),List.length_replicate,bO,aH]at this;exact this.symm
theorem wx{α:Type}{f:α->List D}{q:Nat}(hf:∀a,(f a).length=q):∀(l:List α),ip q l.length (l.flatMap f)=l.map f:=by intro l;induction l with|nil=>rfl|cons a l ih=>simp only[dk,ip,aZ,am];rw[List.take_left' (hf a),List.drop_left' (hf a),ih]
theorem xx{t:Ty}{len:Nat}(hr:HR n h1 h)(hd:L_ t=true):∀(is:List Nat)(vs:List V)(m:Nat)(l:List (El t))(a:List Nat)(pre:List C)(xs:List TV),qw h t len m is vs=some (l,a)->m<=len->pre.length=m*bn t->
  ig h vs xs->(∀w∈vs,cX n h w)->(∀w∈vs,eT h w=true)->
  ∃cs aj,iL (pre++db ((au (len-m) (iU t)).flatten)) ((is.map fun i=>(i*bn t,bn t)).zip xs)=some (pre++cs)/\cm h1 cs=some (l.flatMap (aJ t),aj)/\(∀i∈aj,i∈a/\¬iA h i)/\(∀i∈a,i∈aj\/iA h i)/\l.length=len-m:=by
 intro is;induction is with
 |nil=>intro vs m l a pre xs hf hm hpre hx hk ha;cases vs with|cons v vs=>simp[qw]at hf|nil=>simp only[qw,bp,Prod.mk.injEq]at hf;obtain⟨rfl,rfl⟩:=hf;obtain rfl:=gK hx;refine⟨_,[],rfl,?_,fun i hi=>by simp at hi,fun i hi=>by simp at hi,by simp⟩;rw[tW,Ga hd];exact qd _
 |cons i is ih=>
  intro vs m l a pre xs hf hm hpre hx hk ha;cases vs with
  |nil=>simp[qw]at hf
  |cons v vs=>
   simp only[qw]at hf;split at hf
   .rename_i w a1 hw;split at hf
    .rename_i y hy;obtain⟨hc,hf⟩:=aD hf;simp only[ae,Nat.ble_eq,Nat.blt_eq]at hc;obtain⟨hmi,hil⟩:=hc;split at hf
     .rename_i l1 b hl1;obtain⟨rfl,rfl⟩:=ad (aa hf);obtain⟨x,ys,rfl,hx1,hx2⟩:=dK hx;obtain⟨cw,e1,e2⟩:=kS (jw (C0 hw) hx1);obtain⟨ds,aj,f1,f2,f3,f4,_⟩:=mi hr v w a1 cw hw e1 (hk _ (by simp)) (ha _ (by simp));have e3:=jW (fq w false t y _ hy f2);subst e3;have l1':cw.length=bn t:=by rw[<-nh f1,bg]
      have lz:(db ((au (i-m) (iU t)).flatten)).length=(i-m)*bn t:=by simp only[db,aH];exact Bx hd _
      have lz1:(db (iU t)).length=bn t:=by rw[tW,<-lm t hd,aH,bg]
      have hpl:(pre++db ((au (i-m) (iU t)).flatten)).length=i*bn t:=by rw[bh,hpre,lz,<-bf,Nat.add_sub_cancel' hmi]
      obtain⟨cs,jds,g1,g2,g3,g4,g5⟩:=ih vs (i+1) l1 b (pre++db ((au (i-m) (iU t)).flatten)++cw) ys hl1 hil (by rw[bh,hpl,l1',bf,Nat.one_mul]) hx2 (fun w hw=>hk w (by simp[hw])) (fun w hw=>ha w (by simp[hw]));have hsplit:au (len-m) (iU t)=au (i-m) (iU t)++(iU t::au (len-(i+1)) (iU t)):=by rw[<-eU,List.replicate_append_replicate];congr 1;omega
      have hcells:pre++db ((au (len-m) (iU t)).flatten)=(pre++db ((au (i-m) (iU t)).flatten))++(db (iU t)++db ((au (len-(i+1)) (iU t)).flatten)):=by rw[hsplit,List.flatten_append,cE,me,me,aI]
      refine⟨db ((au (i-m) (iU t)).flatten)++(cw++cs),aj++jds,?_,?_,fun j hj=>?_,fun j hj=>?_,by simp[g5];omega⟩
      .simp only[am,List.zip_cons_cons,iL,e2];rw[if_pos ⟨l1',by rw[hcells,bh,hpl,bh,lz1];omega⟩,hcells];have:aM ((pre++db ((au (i-m) (iU t)).flatten))++(db (iU t)++db ((au (len-(i+1)) (iU t)).flatten))) (i*bn t) cw=(pre++db ((au (i-m) (iU t)).flatten)++cw)++db ((au (len-(i+1)) (iU t)).flatten):=by have:=mB (a:=pre++db ((au (i-m) (iU t)).flatten)) (b:=db (iU t)++db ((au (len-(i+1)) (iU t)).flatten)) (p:=cw) (off:=0);rw[hpl]at this;refine Eq.trans this ?_;rw[mA (by omega),iv (by omega)];simp only[aI]
       rw[this,g1];simp only[aI]
      .rw [List.flatMap_append,aZ,Ga hd];have hz:cm h1 (db ((au (i-m) (iU t)).flatten))=some (bO ((au (i-m) (iU t)).flatten),[]):=by rw[tW];exact qd _
       exact(kD hz (kD f1 g2):cm h1 _=some (_,[]++(aj++jds)))
      .rcases ah.1 hj with hj|hj
       .exact ⟨az _ (f3 j hj).1,(f3 j hj).2⟩
       .exact ⟨av _ (g3 j hj).1,(g3 j hj).2⟩
      .rcases ah.1 hj with hj|hj
       .exact (f4 j hj).imp (az _) id
       .exact (g4 j hj).imp (av _) id
     .simp at hf
    .simp at hf
   .simp at hf
theorem wB{t:Ty}{len sz:Nat}{zl:List Value}{pl:List Nat}{vs:List V}{xs:List TV}
  (hz:Hz t sz len zl pl vs s k=some z)
  (hr:HR s.next h1 s.heap) (hx:ig s.heap vs xs) (hk:∀w∈vs,cX s.next s.heap w) (ha:∀w∈vs,eT s.heap w=true):rI h1 (.buildSlice sz len zl pl) xs s k z:=by
 unfold Hz at hz;obtain⟨h2,hz2⟩:=aD hz;simp only[ae,beq_iff_eq]at h2;obtain⟨⟨rfl,h3⟩,h4⟩:=h2;have h3:=lp h3;subst h3;obtain⟨hd,hs0⟩:=Vt h4;clear hz;split at hz2
 .rename_i l a hl;split at hz2
  .rename_i s1 hs1;obtain⟨cs,aj,g1,g2,g3,g4,g5⟩:=xx hr hd pl vs 0 l a [] xs hl (Nat.zero_le _) (by simp) hx hk ha;obtain⟨fu,f1,f2,f3,f4,f5,f6,f7,f8,f9⟩:=t9 (s0:=s) rfl hr a s1 aj aj hs1 g3 g4;refine⟨_,_,_,hz2,fun cl=>⟨.c (.da (bn t) s.next 0 len),(s.next,some (.aB (bn t) (l.map (aJ t))))::fu,aj,s.next+1,?_,?_⟩⟩
   .have hc:ip (bn t) len (l.flatMap (aJ t))=l.map (aJ t):=by have:=wx (bg t) l;rwa[show l.length=len by simpa using g5]at this
    simp only[bD,iQ];have g1:iL (db ((au len (iU t)).flatten)) ((pl.map fun i=>(i*bn t,bn t)).zip xs)=some cs:=by simpa using g1
    rw[g1];simp only[g2,f1,hc]
   .have hr1:HR s1.next (fu++h1) s1.heap:=by rw[f6];exact f2
    have hd1:Se s1 (fI s1 (.ar t (.mk l) 0)) (fu++h1) (.c (.da (bn t) s.next 0 len)) [(s1.next,some (.aB (bn t) (l.map (aJ t))))] aj (s.next+1) (.so s1.next) a:=by refine Se.new hr1 (.inl rfl) (fun _=>⟨hd,hs0,fun l' e=>by cases e;rfl⟩) trivial ?_ (aN _) (fun i hi=>(g3 i hi).1) (by rw[f6];exact ai _);have:=oT (h:=s1.heap) (t:=t) (s:=.mk l) (v:=0) (nx:=s1.next);rw[f6]at this|-;simpa[ij,show l.length=len by simpa using g5]using this
    rw[f6]at hd1;exact Se.seq f3 f4 f5 f6 f7 f8 f9 (x8 rfl hs1) hd1
  .simp at hz2
 .simp at hz2
theorem ym{ka va:Bool}{ks:List Kd}{zl:List Value}{id:Nat}{kv:V}{ya yk:TV}(hr:HR s.next h1 s.heap)(ha1:dD s.heap (.om id) ya)(hx:dD s.heap kv yk)
  (hz:(match fO s.heap id with
  |some (.mp kt vt m)=>(match mP kt kv with
   |some q=>bif(iS kt==ka)&&(iS vt==va)&&decide (vU kt=some ks)&&mT (iU vt) zl&&L_ vt&&(va||bn vt==1)then
     k (.tp (.co (.x vt (md m (lX vt) q).2.1) (.co (.x (.i .i64) (md m (lX vt) q).2.2) .ni))) (cJ s id (some (.mp kt vt (md m (lX vt) q).1))) [id]else none
   |none=>none)
  |_=>none)=some z):rI h1 (.mapEntry ka ks va zl) [ya,yk] s k z:=by
 split at hz
 .rename_i kt vt m ho;split at hz
  .rename_i q hq;obtain⟨hc,hz2⟩:=aD hz;simp only[ae,beq_iff_eq,decide_eq_true_eq]at hc;obtain⟨⟨⟨⟨⟨c1,c2⟩,c3⟩,c4⟩,c5⟩,c6⟩:=hc;rw[Oe ha1];obtain⟨_,_,k3,_⟩:=pY kt ks c3;have hzz:bO zl=aJ vt (lX vt):=by rw[lm vt c5,lp c4]
   have hv:∀y,jO va (aJ vt y)=some (HW vt y):=fun y=>yV y c2 c6;have hkt:=vR hx hq c3 c1;have e3:=(hr.ob id _ ho).2.1.2.2;rw[<-c2]at c6;have e4:ak h1 id=wR ka va (oA kt) (aJ vt) m:=by rw[<-c1,<-c2];exact e3
   have hos:lW (.mp kt vt m) (.mp kt vt (md m (lX vt) q).1):=trivial;refine .uK hr ho hos hz2 (fun cl=>Iz (z:=lX vt) e4 hkt k3 hzz hv) ⟨c5,⟨ks,c3⟩,by rw[c1,c2];rfl⟩ trivial ?_ ⟨trivial,trivial,trivial⟩ fun i hi=>hi;exact⟨_,rfl,_,_,rfl,BC c5 c6,_,_,rfl,cn rfl ⟨rfl,rfl⟩,rfl⟩
  .simp at hz
 .simp at hz
theorem Dj:∀(l:List D),rl (l.map .d)=some l:=by intro l;induction l with|nil=>rfl|cons d l ih=>simp[rl,ih]
theorem wa{va:Bool}{m0 id:Nat}{kd:IntKind}{st:Int}{w:V}{ya yw:TV}(hr:HR s.next h1 s.heap)(ha1:dD s.heap (.om id) ya)(hx:dD s.heap w yw)
  (hz:(match fO s.heap id with
  |some (.mp kt vt m)=>(match mP vt w with
   |some y=>bif(iS vt==va)&&(bn vt==m0)&&L_ vt then(zr m st y).bind fun m=>k (.tp .ni) (cJ s id (some (.mp kt vt m))) [id]else none
   |none=>none)
  |_=>none)=some z):rI h1 (.entryStore va m0) [ya,tI kd st,yw] s k z:=by
 split at hz
 .rename_i kt vt m ho;split at hz
  .rename_i y hy;obtain⟨hc,hz2⟩:=aD hz;simp only[ae,beq_iff_eq]at hc;obtain⟨⟨rfl,rfl⟩,c3⟩:=hc;obtain⟨m',hm,hz3⟩:=lh hz2;rw[Oe ha1];obtain⟨_,hks,e3⟩:=(hr.ob id _ ho).2.1;obtain⟨g1,g2⟩:=od hx hy;have hos:lW (.mp kt vt m) (.mp kt vt m'):=trivial;have hcs:(cellsOf yw).bind rl=some (aJ vt y)/\p6 yw=iS vt:=by cases hag:iS vt with|true=>rw[g1 hag];exact⟨by simp[cellsOf,Dj],rfl⟩|false=>obtain⟨d,e,rfl⟩:=g2 hag;exact⟨by simp[cellsOf,rl,e],rfl⟩
   refine .uK hr ho hos hz3 (fun cl=>Iy (va:=iS vt) (ek:=oA kt) (ka:=iS kt) hm e3 hcs.1 (bg vt y) hcs.2) ⟨c3,hks,rfl⟩ trivial uO trivial fun i hi=>hi
  .simp at hz
 .simp at hz
end
section
variable{h:H2}{n:Nat}{h1:aY}{β:Type}{s:S2}{k:V->S2->List Nat->Option β}{z:β}
theorem o3:∀{r:List V}{l:List Int}{xs:List TV},o4 r=some l->ig h r xs->∃ks:List IntKind,ks.length=l.length/\xs=(ks.zip l).map fun p=>tI p.1 p.2:=by
 intro r;induction r with
 |nil=>
  intro l xs hl hx;obtain rfl:[]=l:=by simpa[o4]using hl
  exact⟨[],rfl,gK hx⟩
 |cons v r ih=>
  intro l xs hl hx;cases v with
  |x t v=>
   cases t with
   |i q=>
    simp only[o4]at hl;split at hl
    .rename_i l' hl';obtain rfl:=aa hl;obtain⟨x,ys,rfl,h1,h2⟩:=dK hx;obtain⟨ks,h3,rfl⟩:=ih hl' h2;exact⟨q::ks,by simp[h3],by rw[ge h1];rfl⟩
    .simp at hl
   |_=>simp[o4]at hl
  |_=>simp[o4]at hl
theorem CU{r:List V}{xs:List TV}(hl:o4 r=some [])(hx:ig h r xs):xs=[]:=by obtain⟨ks,h1,rfl⟩:=o3 hl hx;cases ks<;>simp_all
theorem tZ{r:List V}{a:Int}{xs:List TV}(hl:o4 r=some [a])(hx:ig h r xs):∃q,xs=[tI q a]:=by obtain⟨ks,h1,rfl⟩:=o3 hl hx;cases ks with|nil=>simp at h1|cons q ks=>exact⟨q,by cases ks<;>simp_all⟩
theorem CT{r:List V}{a b:Int}{xs:List TV}(hl:o4 r=some [a,b])(hx:ig h r xs):∃q q',xs=[tI q a,tI q' b]:=by
 obtain⟨ks,h1,rfl⟩:=o3 hl hx;cases ks with
 |nil=>simp at h1
 |cons q ks=>cases ks with|nil=>simp at h1|cons q' ks=>exact⟨q,q',by cases ks<;>simp_all⟩
theorem tC{x y:ByteArray}{lo hi:Option Int}(hs:rP x (lo.getD 0) (hi.getD x.size)=some y)(sz:Nat):dq true sz (.d (dS x)) lo hi=some (.d (dS y)):=by
 unfold rP at hs;split at hs
 .rename_i hb;obtain rfl:=aa hs;simp only[dq,if_true];rw[if_pos hb]
 .simp at hs
theorem uU{x:ByteArray}{r:List V}{lo hi:Bool}{sz:Nat}{y:TV}{ys:List TV}(hr:HR s.next h1 s.heap)(hy:dD s.heap (.x .s x) y)(hys:ig s.heap r ys)
  (hz:(match lo,hi,o4 r with
  |false,false,some []=>(rP x 0 x.size).bind fun y=>k (.x .s y) s []
  |true,false,some [l]=>(rP x l x.size).bind fun y=>k (.x .s y) s []
  |false,true,some [u]=>(rP x 0 u).bind fun y=>k (.x .s y) s []
  |true,true,some [l,u]=>(rP x l u).bind fun y=>k (.x .s y) s []
  |_,_,_=>none)=some z):rI h1 (.slice true sz lo hi) (y::ys) s k z:=by
 rw[pq hy];split at hz
 .rename_i hi;obtain rfl:=CU hi hys;obtain⟨w,hw,hz2⟩:=lh hz;exact .pure hr hz2 (fun _=>by simp only[am,aO,bD];rw[tC (lo:=none) (hi:=none) hw]) (HV w) trivial
 .rename_i l hi;obtain⟨q,rfl⟩:=tZ hi hys;obtain⟨w,hw,hz2⟩:=lh hz;exact .pure hr hz2 (fun _=>by simp only[am,aO,bD,bC];rw[tC (lo:=some l) (hi:=none) hw]) (HV w) trivial
 .rename_i l hi;obtain⟨q,rfl⟩:=tZ hi hys;obtain⟨w,hw,hz2⟩:=lh hz;exact .pure hr hz2 (fun _=>by simp only[am,aO,bD,bC];rw[tC (lo:=none) (hi:=some l) hw]) (HV w) trivial
 .rename_i l u hi;obtain⟨q,q',rfl⟩:=CT hi hys;obtain⟨w,hw,hz2⟩:=lh hz;exact .pure hr hz2 (fun _=>by simp only[am,aO,bD,bC];rw[tC (lo:=some l) (hi:=some u) hw]) (HV w) trivial
 .simp at hz
theorem uV{x:V}{r:List V}{lo hi:Bool}{sz:Nat}{y:TV}{ys:List TV}(hr:HR s.next h1 s.heap)(hy:dD s.heap x y)(hk:cX s.next s.heap x)(ha:eT s.heap x=true)(hys:ig s.heap r ys)
  (hz:(match lo,hi,o4 r,xV s.heap x with
  |false,false,some [],some n=>mY sz s.heap x 0 n fun v=>k v s []
  |true,false,some [l],some n=>mY sz s.heap x l n fun v=>k v s []
  |false,true,some [u],some _=>mY sz s.heap x 0 u fun v=>k v s []
  |true,true,some [l,u],some _=>mY sz s.heap x l u fun v=>k v s []
  |_,_,_,_=>none)=some z):rI h1 (.slice false sz lo hi) (y::ys) s k z:=by
 split at hz
 .rename_i m hi hm;obtain rfl:=CU hi hys;obtain⟨v,c,c',rfl,h3,h4,h5,h6⟩:=ui (lo:=none) (hi:=none) hr hy hk ha hm hz;exact .pure hr h3 (fun _=>by simp only[am,aO,bD];rw[h4]) h5 h6
 .rename_i l m hi hm;obtain⟨q,rfl⟩:=tZ hi hys;obtain⟨v,c,c',rfl,h3,h4,h5,h6⟩:=ui (lo:=some l) (hi:=none) hr hy hk ha hm hz;exact .pure hr h3 (fun _=>by simp only[am,aO,bD,bC];rw[h4]) h5 h6
 .rename_i u m hi hm;obtain⟨q,rfl⟩:=tZ hi hys;obtain⟨v,c,c',rfl,h3,h4,h5,h6⟩:=ui (lo:=none) (hi:=some u) hr hy hk ha hm hz;exact .pure hr h3 (fun _=>by simp only[am,aO,bD,bC];rw[h4]) h5 h6
 .rename_i l u m hi hm;obtain⟨q,q',rfl⟩:=CT hi hys;obtain⟨v,c,c',rfl,h3,h4,h5,h6⟩:=ui (lo:=some l) (hi:=some u) hr hy hk ha hm hz;exact .pure hr h3 (fun _=>by simp only[am,aO,bD,bC];rw[h4]) h5 h6
 .simp at hz
theorem Eg{t:Ty}{l:List (Sl (El t))}{m:Nat}(hm:m<l.length):(l.map (jx t))[m]?=some (jx t (gt l m)):=by rw[List.getElem?_map,ap hm];simp[gt,List.getD,ap hm]
theorem BQ{α:Type}{l:List α}{m:Nat}{x:α}(h:l[m]?=some x):l.set m x=l:=by obtain⟨hm,rfl⟩:=List.getElem?_eq_some_iff.1 h;exact List.set_getElem_self hm
theorem xU{id m:Nat}{u:Ty}{y:TV}(hr:HR s.next h1 s.heap)(hx:dD s.heap (.ep id m u []) y)(hk:cX s.next s.heap (.ep id m u []))
  (hz:(match fO s.heap id with
  |some (.rw t v none)=>bif decide (u=.sl t)then k (.so s.next) (fI (cJ s id (some (.rw t v (some (m,s.next))))) (.ar t (gt v.l m) 0)) [id]else none
  |_=>none)=some z):rI h1 .m7 [y] s k z:=by
 split at hz
 .rename_i t v ho;obtain⟨h2,hz2⟩:=aD hz;simp only[decide_eq_true_eq]at h2;subst h2;rw[lZ hx,zk];have hlen:=hk.2.2.2 _ _ _ ho;obtain⟨hid,⟨d1,d2,d3⟩,_⟩:=hr.ob id _ ho;cases v with
  |nil=>simp[Sl.l]at hlen
  |mk l=>
   have d3:=d3 l rfl;have hlen:m<l.length:=hlen;have c9:fF s.next s.heap ((s.next,some (.ar t (gt l m) 0))::(id,some (.rw t (.mk l) (some (m,s.next))))::s.heap):=fF.trans (ai _) (fF.uK (o':=.rw t (.mk l) (some (m,s.next))) ho ⟨rfl,rfl,rfl⟩) (fF.new _)
   have key:∀{x:TV}{u:de},dD ((s.next,some (.ar t (gt l m) 0))::(id,some (.rw t (.mk l) (some (m,s.next))))::s.heap) (.so s.next) x->(∀p∈u,p.1=s.next\/p.1=id)->
     ak (u++h1) id=some (.nst (bn t) (cT t l (some (m,s.next))))->(∀rr,gt l m=.mk rr->ak (u++h1) s.next=some (.aB (bn t) (rr.map (aJ t))))->∀{q:Nat},q<=s.next+1->
     Se s (fI (cJ s id (some (.rw t (.mk l) (some (m,s.next))))) (.ar t (gt l m) 0)) h1 x u [id] q (.so s.next) [id]:=by
    intro x u hx2 hu hb hb2 q hq;refine Se.wS [s.next,id] hr c9 rfl rfl hq (a_ _) (fun i hi=>hi) rfl (fun p hp=>?_) (fun i hi=>?_) (fun i hi o ho'=>?_) hx2 (aN _) (fun i hi h=>?_)
    .rcases hu p hp with e|e<;>simp[e]
    .simp only[aE,fW,or_false,not_or]at hi;simp only[fI,cJ];rw[bI,if_neg (fun e=>hi.1 e.symm),bI,if_neg (fun e=>hi.2 e.symm)]
    .simp only[fI,cJ]at ho'|-;by_cases hi1:s.next=i
     .subst hi1;rw[bI,if_pos rfl]at ho';obtain rfl:=aa ho';exact⟨aN _,⟨d1,d2,fun rr e=>hb2 rr e⟩,trivial⟩
     .rw [bI,if_neg hi1]at ho';simp only[aE,fW,or_false]at hi;rcases hi with rfl|rfl
      .exact absurd rfl hi1
      .rw [bI,if_pos rfl]at ho';obtain rfl:=aa ho';refine⟨by omega,⟨d1,d2,fun l' e=>by cases e;exact hb⟩,hlen,aN _,fun u' r' v' hf=>?_⟩;simp only[mM]at hf;rcases hf with hf|hf<;>cases hf;exact⟨rfl,rfl⟩
    .simp only[fI,cJ];rw[bI,if_neg (by omega),bI,if_neg (fun e=>by subst e;rw[ho]at h;cases h)];exact h
   have hs:=Eg (t:=t) hlen;refine⟨_,_,_,hz2,fun cl=>?_⟩;cases hg:gt l m with
   |nil=>
    refine⟨_,[],[id],s.next,?_,key (x:=.c (.d (.lit (.slice none 0 0)))) ?_ (fun p hp=>by simp at hp) ?_ (fun rr e=>by rw[hg]at e;cases e) (a_ _)⟩
    .simp only[am,aO,bD,eH,d3];rw[hg]at hs;simp only[gU,d3,cT,hs,jx];rfl
    .rw [hg];exact oT
    .rw [bc,d3];simp only[cT,hg,Ak];rw[BQ (by rw[hs,hg];rfl)]
   |mk rr=>
    refine⟨_,[(s.next,some (.aB (bn t) (rr.map (aJ t)))),(id,some (.nst (bn t) ((l.map (jx t)).set m (.ku s.next (rr.map (aJ t)).length))))],[id],s.next+1,?_,key (x:=.c (.da (bn t) s.next 0 (rr.map (aJ t)).length)) ?_ (fun p hp=>by simp at hp;rcases hp with rfl|rfl<;>simp) ?_ (fun r2 e=>?_) (ai _)⟩
    .simp only[am,aO,bD,eH,d3];rw[hg]at hs;simp only[gU,d3,cT,hs,jx];rfl
    .rw [hg];exact oT
    .rw [aK,bX,if_neg (by omega),aK,bX,if_pos rfl];simp only[cT,hg,Ak,aH]
    .rw [hg]at e;cases e;rw[aK,bX,if_pos rfl]
 .simp at hz
theorem Cr{szi:Nat}{t:Ty}{q q':IntKind}{a b:Int}(hr:HR s.next h1 s.heap)
  (hz:(bif(bn t==szi)&&uB t then(H3 (Sl.nil:Sl (El t)) a b).bind fun r=>k (.sr s.next) (fI s (.rw t (.mk r) none)) []else none)=some z):rI h1 (.sM szi) [tI q a,tI q' b] s k z:=by
 obtain⟨hq,hp2⟩:=aD hz;simp only[ae,beq_iff_eq]at hq;obtain⟨rfl,q2⟩:=hq;obtain⟨hd,hs0⟩:=Vt q2;obtain⟨r,hr2,hz3⟩:=lh hp2;unfold H3 at hr2;split at hr2
 .rename_i hb;obtain rfl:=aa hr2;refine .new (aj:=[]) hr hz3 (b:=some (.nst (bn t) (au a.toNat .nil))) (x:=.c (.da 1 s.next 0 a.toNat)) (fun _=>?_) ⟨hd,hs0,fun l' e=>by cases e;simp[cT,jx]⟩ trivial ?_ (aN _) fun i hi=>by simp at hi
  .simp only[am,aO,bD,bC];rw[if_pos (by simpa[vO]using hb)]
  .refine bA (cn rfl ⟨_,rfl,fun c' hc'=>?_,?_⟩)
   .rw [mM]at hc';obtain rfl:=aa hc';simp[ij]
   .have:=tE (sz:=1) (id:=s.next) (e:=aJ (.sl t)) (s:=.mk (au a.toNat (Sl.nil:Sl (El t))));simpa[ij]using this
 .simp at hr2
theorem xG{o:OP}{vs:List V}{xs:List TV}(hp:part o vs s k=some z)(hr:HR s.next h1 s.heap)(hx:ig s.heap vs xs)(hk:∀w∈vs,cX s.next s.heap w)(ha:∀w∈vs,eT s.heap w=true):rI h1 o.o.k xs s k z:=by
 obtain⟨⟨d,kk,args,g⟩,t,fi⟩:=o;simp only;unfold part at hp;simp only at hp;split at hp
 .--quo
  obtain⟨x,y,rfl,h2,h3⟩:=fk hx;rw[ge h2,ge h3];obtain⟨hq,hp2⟩:=aD hp;simp only[decide_eq_true_eq]at hq;subst hq;obtain⟨r,hr2,hz⟩:=lh hp2;exact .pure hr hz (fun _=>Hf hr2) (xi _ _) trivial
 .obtain ⟨x,y,rfl,h2,h3⟩:=fk hx;rw[ge h2,ge h3];obtain⟨hq,hp2⟩:=aD hp;simp only[decide_eq_true_eq]at hq;subst hq;obtain⟨r,hr2,hz⟩:=lh hp2;exact .pure hr hz (fun _=>He hr2) (xi _ _) trivial
 .obtain ⟨x,y,rfl,h2,h3⟩:=fk hx;rw[ge h2,ge h3];obtain⟨r,hr2,hz⟩:=lh hp;exact .pure hr hz (fun _=>Hd hr2) (xi _ _) trivial
 .obtain ⟨x,y,rfl,h2,h3⟩:=fk hx;rw[ge h2,ge h3];obtain⟨r,hr2,hz⟩:=lh hp;exact .pure hr hz (fun _=>Hc hr2) (xi _ _) trivial
 .obtain ⟨x,y,rfl,h2,h3⟩:=fk hx;rw[pq h2,pq h3];obtain⟨r,hr2,hz⟩:=lh hp;exact .pure hr hz (fun _=>Hg hr2) (HV _) trivial
 .--alloc
  rename_i zl;obtain rfl:=gK hx;obtain⟨hq,hp2⟩:=aD hp;simp only[ae]at hq;obtain⟨q1,q2⟩:=hq;have q1:=lp q1;subst q1;refine .new (aj:=[]) hr hp2 (x:=.c (.op s.next 0)) (fun _=>rfl) ⟨_,rfl,?_,q2⟩ ?_ (bA (cn rfl (by cases t<;>rfl))) ⟨aN _,by cases t<;>trivial⟩ fun i hi=>by simp at hi
  .exact ((NF (h:=(s.next,some (.bx t (FG t)))::s.heap) (n:=s.next+1) t).1 q2).1
  .exact ((NF (h:=(s.next,some (.bx t (FG t)))::s.heap) (n:=s.next+1) t).1 q2).2
 .--box
  obtain⟨x,rfl,h2⟩:=eO hx;split at hp
  .rename_i w hw;obtain⟨cw,e1,e2⟩:=kS (jw (xR hw) h2);obtain⟨q1,q2,q3,_⟩:=qJ hw e1 (hk _ (by simp));refine .new (aj:=[]) hr hp (x:=.c (.op s.next 0)) (fun _=>by simp only[am,aO,bD,e2]) ⟨_,rfl,gV (fF.new _) q3 q1,q2⟩ (WI (a_ _) (fF.new _) q3) (bA (cn rfl (by cases t<;>rfl))) ⟨aN _,by cases t<;>trivial⟩ fun i hi=>by simp at hi
  .simp at hp
 .exact wB hp hr hx hk ha
 .--store
  obtain⟨x,y,rfl,h2,h3⟩:=fk hx;exact uQ hr h2 (hk _ (by simp)) h3 (hk _ (by simp)) hp
 .--m7
  obtain⟨x,rfl,h2⟩:=eO hx;exact xU hr h2 (hk _ (by simp)) hp
 .--sM
  obtain⟨x,y,rfl,h2,h3⟩:=fk hx;rw[ge h2,ge h3];split at hp
  .exact Cr hr hp
  .simp at hp
 .obtain ⟨x,y,rfl,h2,h3⟩:=fk hx;exact uR hr h2 (hk _ (by simp)) h3 (hk _ (by simp)) (ha _ (by simp)) hp
 .--makeSlice
  rename_i zl _ l _ c;obtain⟨x,y,rfl,h2,h3⟩:=fk hx;rw[ge h2,ge h3];obtain⟨hq,hp2⟩:=aD hp;simp only[ae]at hq;obtain⟨q1,q2⟩:=hq;have q1:=lp q1;subst q1;obtain⟨hd,hs0⟩:=Vt q2;obtain⟨r,hr2,hz⟩:=lh hp2;have hzl:bO (iU t)=aJ t (lX t):=(lm t hd).symm;have hlen:(iU t).length=bn t:=by have:=congrArg List.length hzl;rwa[bg,bO,aH]at this
  refine .new hr hz (fun _=>E5 hzl hr2) ⟨hd,hs0,fun l' e=>by cases e;rw[hlen]⟩ trivial ?_ (aN _) fun i hi=>by simp at hi
  rw[hlen];exact oT (s:=.mk r)
 .--slice of a string
  obtain⟨y,ys,rfl,h2,h3⟩:=dK hx;exact uU hr h2 h3 hp
 .obtain ⟨y,ys,rfl,h2,h3⟩:=dK hx;exact uV hr h2 (hk _ (by simp)) (ha _ (by simp)) h3 hp
 .obtain ⟨x,y,rfl,h2,h3⟩:=fk hx;rw[ge h3];exact CN hp hr h2 (hk _ (by simp)) (ha _ (by simp))
 .obtain ⟨x,y,rfl,h2,h3⟩:=fk hx;rw[ge h3];exact CM hp hr h2 (hk _ (by simp))
 .--jZ
  obtain⟨x,y,rfl,h2,h3⟩:=fk hx;rw[pq h2,ge h3];obtain⟨r,hr2,hz⟩:=lh hp;exact .pure hr hz (fun _=>Iw hr2) (xi _ _) trivial
 .--index
  rename_i ag n0 sz0 n' u v _ i;obtain⟨x,y,rfl,h2,h3⟩:=fk hx;rw[ge h3];obtain⟨hq,hp2⟩:=aD hp;simp only[ae,beq_iff_eq]at hq;obtain⟨⟨⟨⟨rfl,rfl⟩,q3⟩,q4⟩,q5⟩:=hq;obtain⟨m,hm,hz⟩:=lh hp2;obtain⟨rfl,hm2⟩:=gM.1 hm;rw[JD h2];obtain⟨a1,a2⟩:=wG v hm2;have hc:yA s.heap ag (bn u) (.x u (gt v.1 m))=true:=by simp[yA,mu,qj,eT,q3,q4,q5]
  obtain⟨x,e1,e2⟩:=jX (cs:=(aJ (.ar n' u) v).map .d) (off:=m*bn u) (cw:=(aJ u (gt v.1 m)).map .d) hc ⟨q4,rfl⟩ (by simpa using a1) (by rw[<-dO,<-eE,a2]);refine .pure hr hz (x:=x) (fun _=>?_) e2 trivial;simp only[am,aO,bD,bC];rw[if_pos ⟨by omega,by omega⟩];simp only[Int.toNat_natCast,e1]
 .--append
  obtain⟨x,y,rfl,h2,h3⟩:=fk hx;exact wI (t0:=t) hp hr h2 (hk _ (by simp)) (ha _ (by simp)) h3 (hk _ (by simp)) (ha _ (by simp))
 .obtain ⟨x,y,rfl,h2,h3⟩:=fk hx;exact Ba (t0:=t) hp hr h2 (hk _ (by simp)) (ha _ (by simp)) h3 (hk _ (by simp)) (ha _ (by simp))
 .--clear
  obtain⟨y,rfl,h2⟩:=eO hx;exact yv hp hr h2 (hk _ (by simp)) (ha _ (by simp))
 .--makeMap
  obtain rfl:=gK hx;split at hp
  .rename_i kt vt;obtain⟨hq,hp2⟩:=aD hp;simp only[ae,beq_iff_eq]at hq;obtain⟨⟨⟨rfl,rfl⟩,q3⟩,q4⟩:=hq;obtain⟨ks,hks⟩:=Option.isSome_iff_exists.1 q4;exact .new hr hp2 (x:=.c (.om s.next)) (fun _=>rfl) ⟨q3,⟨ks,hks⟩,rfl⟩ trivial (bA (cn rfl rfl)) (aN _) fun i hi=>by simp at hi
  .simp at hp
 .obtain ⟨x,y,rfl,h2,h3⟩:=fk hx;exact ym hr h2 h3 hp
 .obtain ⟨x,y,w,rfl,h2,h3,h4⟩:=Gk hx;rw[ge h3];exact wa hr h2 h4 hp
 .simp at hp
end
end Go.Ev
