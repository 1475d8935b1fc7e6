/- Operations that do not fail, against the abstract machine's, second part. Conditions: as stated. -/
import Derived.Test.YthcplpfiidlinaaDoorFh
open Bool renaming and_eq_true->ai,and_eq_true_iff->dm,eq_iff_iff->bT
open Int renaming toNat_natCast->nA
open List renaming append_assoc->aH,cons_append->bd,drop_drop->dO,flatMap_cons->bf,flatten_cons->ei,getElem?_eq_getElem->aE,length_append->ap,length_cons->cP,length_eq_zero_iff->bz,length_map->aV,map->mo,map_append->iq,map_cons->aD,map_drop->gm,map_map->lN,map_nil->bh,map_take->gX,mem_append->au,mem_append_left->aG,mem_append_right->aI,mem_cons->aQ,mem_cons_of_mem->aF,mem_cons_self->du,mem_singleton->av,nil_append->bw,not_mem_nil->gO,replicate->aA,replicate_succ->iA,singleton_append->bn
open List.cons renaming injEq->dM
open Nat renaming add_assoc->db,add_mul->b_,le_of_ble_eq_true->iZ,le_refl->aw,le_succ->bQ,lt_succ_self->bl
open Option.some renaming inj->aa,injEq->bE
open Prod.mk renaming inj->ad
open Sigma.mk renaming inj->jq
namespace Go.Ev
section
variable{h:H2}{n:Nat}{h1:bM}
theorem Ou{a b:Value}(he:Q_ a b=true):a=b:=by unfold Q_ at he;split at he<;>simp_all
theorem rQ:∀{a b:List Value},uq a b=true->a=b:=by
 intro a;induction a with
 |nil=>intro b he;cases b<;>first|rfl|(simp[uq]at he)
 |cons x a ih=>intro b he;cases b with|nil=>simp[uq]at he|cons y b=>simp only[uq,ai]at he;rw[Ou he.1,ih he.2]
theorem tF(a b:List Value):fk (a++b)=fk a++fk b:=by simp[fk]
theorem rP:∀(t:Ty),kL t=true->a_ t (sX t)=dk (nE t):=by
 intro t;induction t with
 |pr a c iha ihc=>intro hd;simp only[kL,ai]at hd;simp[a_,sX,nE,dk,iha hd.1,ihc hd.2]
 |st t ih=>intro hd;exact ih hd
 |ar m t ih=>intro hd;have e:=ih hd;simp only[a_,sX,nE];clear hd ih;induction m with|zero=>rfl|succ m ihm=>simp only[iA,bf,ei,e,dk,iq]at ihm|-;rw[ihm]
 |o k=>intro hd;simp[kL]at hd
 |mp k v=>intro hd;simp[kL]at hd
 |_=>intro _;rfl
theorem yg:∀(t:Ty),(eG (BB t).1 false t=true->e9 h (BB t).1 (fk (nE t))/\eY n h (BB t).1)/\(eG (BB t).2 true t=true->e9 h (BB t).2 (fk (nE t))/\eY n h (BB t).2):=by
 have one:∀(t:Ty)(v:V),(e9 h v (fk (nE t))/\eY n h v)->(e9 h (.co v .ni) (fk (nE t))/\eY n h (.co v .ni)):=fun t v hv=>⟨⟨_,[],by simp,hv.1,rfl⟩,hv.2,trivial⟩;have dt:∀(t:Ty),kL t=true->e9 h (.x t (sX t)) (fk (nE t)):=fun t hd=>⟨hd,by rw[rP t hd];simp[fk,dk]⟩;intro t;induction t with
 |pr a c iha ihc=>refine⟨fun hf=>by simp[BB,eG]at hf,fun hf=>?_⟩;simp only[BB,eG,ai]at hf;obtain⟨q1,q3⟩:=iha.1 hf.1;obtain⟨q4,q5⟩:=ihc.2 hf.2;exact⟨⟨_,_,tF _ _,q1,q4⟩,q3,q5⟩
 |st t ih=>cases hd:kL t with|true=>have:=dt (.st t) hd;simp only[BB,hd,cond_true];exact⟨fun _=>⟨this,trivial⟩,fun _=>one (.st t) _ ⟨this,trivial⟩⟩|false=>simp only[BB,hd,cond_false];exact⟨fun hf=>ih.2 hf,fun hf=>one (.st t) _ (ih.2 hf)⟩
 |sl t ih=>cases hd:kL t with|true=>have:=dt (.sl t) hd;simp only[BB,hd,cond_true];exact⟨fun _=>⟨this,trivial⟩,fun _=>one (.sl t) _ ⟨this,trivial⟩⟩|false=>simp only[BB,hd,cond_false];exact⟨fun _=>⟨rfl,trivial⟩,fun _=>one (.sl t) _ ⟨rfl,trivial⟩⟩
 |ar m t ih=>cases hd:kL t with|true=>have:=dt (.ar m t) hd;simp only[BB,hd,cond_true];exact⟨fun _=>⟨this,trivial⟩,fun _=>one (.ar m t) _ ⟨this,trivial⟩⟩|false=>simp only[BB,hd,cond_false];exact⟨fun hf=>by simp[eG]at hf,fun hf=>by simp[eG]at hf⟩
 |o k=>
  have:e9 h (.nl k) (fk (nE (.o k))):=by
   show fk (nE (.o k))=[DJ k]
   rcases k with _|_|_|_|k<;>rfl
  exact⟨fun _=>⟨this,trivial⟩,fun _=>one (.o k) _ ⟨this,trivial⟩⟩
 |mp k v=>exact⟨fun _=>⟨rfl,trivial⟩,fun _=>one (.mp k v) _ ⟨rfl,trivial⟩⟩
 |un=>exact⟨fun _=>⟨dt .un rfl,trivial⟩,fun _=>one .un _ ⟨dt .un rfl,trivial⟩⟩
 |i k=>exact⟨fun _=>⟨dt (.i k) rfl,trivial⟩,fun _=>one (.i k) _ ⟨dt (.i k) rfl,trivial⟩⟩
 |b=>exact⟨fun _=>⟨dt .b rfl,trivial⟩,fun _=>one .b _ ⟨dt .b rfl,trivial⟩⟩
 |s=>exact⟨fun _=>⟨dt .s rfl,trivial⟩,fun _=>one .s _ ⟨dt .s rfl,trivial⟩⟩
 |f k=>exact⟨fun _=>⟨dt (.f k) rfl,trivial⟩,fun _=>one (.f k) _ ⟨dt (.f k) rfl,trivial⟩⟩
theorem yW{t:Ty}{v w:V}{cs:List C}(hw:L3 t v=some w)(hv:e9 h v cs)(hk:eY n h v):e9 h w cs/\eG w false t=true/\eY n h w/\tW w=tW v:=by
 unfold L3 at hw;split at hw
 .rename_i y hy;obtain rfl:=aa hw;cases hd:kL t with|false=>rw[hd]at hy;simp at hy|true=>rw[hd,cond_true]at hy;exact⟨⟨hd,qk hy hv⟩,by simp[eG],trivial,(Er hy).symm⟩
 .cases hf:eG v false t with|false=>rw[hf]at hw;simp at hw|true=>rw[hf,cond_true]at hw;obtain rfl:=aa hw;exact⟨hv,hf,hk,rfl⟩
theorem LF{t:Ty}{v:V}{y:El t}(hy:ic t v=some y):MJ v:=by cases v<;>first|trivial|(simp[ic]at hy)
theorem Nd{t:Ty}{v:V}(hf:eG v false t=true):MJ v:=by cases v<;>first|trivial|(cases t<;>simp[eG]at hf)
theorem FO{t:Ty}{v w:V}(hw:L3 t v=some w):MJ v:=by
 unfold L3 at hw;split at hw
 .rename_i y hy;cases hd:kL t with|false=>rw[hd]at hy;simp at hy|true=>rw[hd,cond_true]at hy;exact LF hy
 .cases hf:eG v false t with|false=>rw[hf]at hw;simp at hw|true=>exact Nd hf
theorem Po{t:Ty}{v:V}(hf:eG v false t=true)(ha:nB t=true):tW v=true:=by
 cases t<;>simp[nB]at ha
 all_goals(cases v<;>first|rfl|(simp[eG]at hf;done)|skip)
 .simp only[eG,decide_eq_true_eq]at hf;subst hf;rfl
 .simp only[eG,decide_eq_true_eq]at hf;subst hf;rfl
theorem LJ{t:Ty}:∀(is:List Nat)(ps:List (Nat×Nat))(ws:List V)(c c':V)(cs:List C)(xs:List TV),xQ t is ps ws c=some c'->eG c false t=true->e9 h c cs->eY n h c->mR h ws xs->(∀w∈ws,eY n h w)->
  ∃cs',nn cs (ps.zip xs)=some cs'/\e9 h c' cs'/\eY n h c'/\eG c' false t=true:=by
 intro is;induction is with
 |nil=>
  intro ps ws c c' cs xs hb hf hc hk hx hw;cases ps with
  |cons p ps=>simp[xQ]at hb
  |nil=>cases ws with|cons w ws=>simp[xQ]at hb|nil=>obtain rfl:=aa hb;exact⟨cs,by simp[nn],hc,hk,hf⟩
 |cons i is ih=>
  intro ps ws c c' cs xs hb hf hc hk hx hw;cases ps with
  |nil=>simp[xQ]at hb
  |cons p ps=>
   obtain⟨off,m⟩:=p;cases ws with
   |nil=>simp[xQ]at hb
   |cons w ws=>
    obtain⟨x,ys,rfl,hx1,hx2⟩:=gL hx;have hw1:=hw w (by simp)
    have ja:∀(pe:Pe)(a:Ty),rM t [pe]=some a->Im t [pe]->mW t [pe]=off->ce a=m->(match L3 a w with|some w=>(match o6 c [pe] w with|some c=>bif eG c false t then xQ t is ps ws c else none|none=>none)|none=>none)=some c'->
      ∃cs',nn cs (((off,m),x)::ps.zip ys)=some cs'/\e9 h c' cs'/\eY n h c'/\eG c' false t=true:=by
     intro pe a h1 h2 h3 h4 hb;split at hb
     .rename_i w1 hw1';obtain⟨cw,q1,q2⟩:=rj (pm (FO hw1') hx1);split at hb
      .rename_i c1 hc1;cases hfc:eG c1 false t with|false=>rw[hfc]at hb;simp at hb|true=>rw[hfc,cond_true]at hb;obtain⟨k1,k2,k3,_⟩:=yW hw1' q1 hw1;have hl:=iz k1;rw[gN _ _ _ k2,h4]at hl;have hsp:=wu [pe] c t w1 c1 cs cw a hf hc h2 hc1 h1 k1 (by rw[hl,h4]);rw[h3]at hsp;have hle:=wG [pe] t a h1 h2;have hcl:=iz hc;rw[gN _ _ _ hf]at hcl;obtain⟨cs',e1,e2,e3,e4⟩:=ih ps ws c1 c' _ ys hb hfc hsp (GQ _ _ _ _ hk k3 hc1) hx2 fun w hw'=>hw w (by simp[hw']);refine⟨cs',?_,e2,e3,e4⟩;simp only[nn,q2];rw[if_pos ⟨hl,by omega⟩,e1]
      .simp at hb
     .simp at hb
    cases t with
    |st u=>
     simp only[xQ]at hb;split at hb
     .rename_i a ha;cases hq:(pu u i==off)&&(ce a==m)with|false=>rw[hq]at hb;simp at hb|true=>rw[hq,cond_true]at hb;simp only[ai,beq_iff_eq]at hq;exact ja (.fd i) a (by simp[rM,ha]) ⟨a,ha,by cases a<;>trivial⟩ (by simp only[mW,ha];rw[hq.1];cases a<;>rfl) hq.2 hb
     .simp at hb
    |ar k u=>simp only[xQ]at hb;cases hq:(i*ce u==off)&&(ce u==m)&&decide (i<k)with|false=>rw[hq]at hb;simp at hb|true=>rw[hq,cond_true]at hb;simp only[ai,beq_iff_eq,decide_eq_true_eq]at hq;exact ja (.ix i) u (by simp[rM]) ⟨hq.2,by cases u<;>trivial⟩ (by simp only[mW];rw[hq.1.1];cases u<;>rfl) hq.1.2 hb
    |_=>simp[xQ]at hb
end
theorem PP(a b:ByteArray):(a==b)=decide (a=b):=by obtain⟨x⟩:=a;obtain⟨y⟩:=b;show ByteArray.beq ⟨x⟩ ⟨y⟩=_;unfold ByteArray.beq;rw[bT];simp[ByteArray.ext_iff]
def wd(t:Ty)(x:El t):List Value:=(a_ t x).map fun|.lit y=>y|_=>.nilFunc
theorem xB{k1 k2:List Kd}{a1 a2 b1 b2:List Value}{p q:Bool}(h1:gE k1 a1 b1=some p)(h2:gE k2 a2 b2=some q):gE (k1++k2) (a1++a2) (b1++b2)=some (p&&q):=by
 induction k1 generalizing a1 b1 p with
 |nil=>cases a1<;>cases b1<;>simp[gE]at h1;subst h1;simpa using h2
 |cons k k1 ih=>
  cases a1<;>cases b1<;>simp only[gE]at h1<;>first|cases h1;done|skip
  split at h1
  .rename_i c d hc hd;obtain rfl:=aa h1;simp only[bd,gE,hc,ih hd,Bool.and_assoc]
  .simp at h1
theorem zm{k1 k2:List Kd}{a1 a2:List Value}(h1:z4 k1 a1=true)(h2:z4 k2 a2=true):z4 (k1++k2) (a1++a2)=true:=by
 induction k1 generalizing a1 with
 |nil=>cases a1<;>simp[z4]at h1;simpa using h2
 |cons k k1 ih=>
  cases a1<;>simp only[z4]at h1<;>first|cases h1;done|skip
  simp only[ai]at h1;simp[z4,h1.1,ih h1.2]
theorem x5:∀(t:Ty)(ks:List Kd),DY t=some ks->(∀x,a_ t x=(wd t x).map .lit)/\(∀x,z4 ks (wd t x)=true)/\(∀a b:El t,gE ks (wd t a) (wd t b)=some (decide (a=b)))/\ks.length=ce t:=by
 intro t;induction t with
 |pr a c iha ihc=>
  intro ks hk;simp only[DY]at hk;split at hk
  .rename_i x y hx hy;obtain rfl:=aa hk;obtain⟨a1,a2,a3,a4⟩:=iha x hx;obtain⟨c1,c2,c3,c4⟩:=ihc y hy;have e:∀v:El (.pr a c),wd (.pr a c) v=wd a v.1++wd c v.2:=fun v=>by simp[wd,a_]
   refine⟨fun v=>by rw[e,iq,<-a1,<-c1];rfl,fun v=>by rw[e];exact zm (a2 _) (c2 _),fun u v=>?_,by simp[ce,a4,c4]⟩;rw[e,e,xB (a3 _ _) (c3 _ _)];congr 1;rw[bT];simp[Prod.ext_iff]
  .simp at hk
 |st t ih=>intro ks hk;exact ih ks hk
 |ar m t ih=>
  intro ks hk;simp only[DY]at hk;split at hk
  .rename_i x hx;obtain rfl:=aa hk;obtain⟨a1,a2,a3,a4⟩:=ih x hx;have e:∀v:El (.ar m t),wd (.ar m t) v=v.1.flatMap (wd t):=fun v=>by simp only[wd,a_,List.map_flatMap];rfl
   refine⟨fun v=>?_,fun v=>?_,fun u v=>?_,?_⟩
   .rw [e];simp only[a_,List.map_flatMap];congr 1;funext y;exact a1 y
   .rw [e];obtain⟨l,hl⟩:=v;clear e hk ih;simp only;induction l generalizing m with|nil=>subst hl;rfl|cons y l ihl=>subst hl;simp only[cP,iA,ei,bf];exact zm (a2 y) (ihl _ rfl)
   .rw [e,e];obtain⟨l,hl⟩:=u;obtain⟨r,hr⟩:=v
    have key:∀(m:Nat)(l r:List (El t)),l.length=m->r.length=m->gE (aA m x).flatten (l.flatMap (wd t)) (r.flatMap (wd t))=some (decide (l=r)):=by
     intro m;induction m with
     |zero=>intro l r h1 h2;obtain rfl:=bz.1 h1;obtain rfl:=bz.1 h2;rfl
     |succ m ihm=>
      intro l r h1 h2;cases l with
      |nil=>simp at h1
      |cons y l=>cases r with|nil=>simp at h2|cons z r=>simp only[iA,ei,bf];rw[xB (a3 y z) (ihm l r (by simpa using h1) (by simpa using h2))];congr 1;rw[bT];simp
    rw[key m l r hl hr];congr 1;rw[bT];simp only[decide_eq_true_eq];exact⟨fun h=>Subtype.ext h,fun h=>congrArg Subtype.val h⟩
   .simp [ce,a4]
  .simp at hk
 |i k=>intro ks hk;obtain rfl:=aa hk;refine⟨fun _=>rfl,fun x=>by simp[wd,a_,z4,KM],fun a b=>?_,rfl⟩;simp only[wd,a_,aD,bh,gE,EQ,and_self,if_true,Bool.and_true];congr 1
 |b=>intro ks hk;obtain rfl:=aa hk;refine⟨fun _=>rfl,fun x=>by simp[wd,a_,z4,KM],fun a b=>?_,rfl⟩;simp only[wd,a_,aD,bh,gE,EQ,Bool.and_true];congr 1
 |s=>intro ks hk;obtain rfl:=aa hk;refine⟨fun _=>rfl,fun x=>by simp[wd,a_,z4,KM],fun a b=>?_,rfl⟩;simp only[wd,a_,aD,bh,gE,EQ,Bool.and_true];rw[PP]
 |_=>intro ks hk;simp[DY]at hk
section
variable{h:H2}{n:Nat}{h1:bM}
theorem Jc{z:Bool}{op:BinOp}{k k':IntKind}{a b:Int}{v:V}(hb:PO z op k k' a b=some v)(hz:z=true->0<b):∃y,sW op (.int k a) (.int k' b)=some y/\fX h v (lv y)/\eY n h v:=by
 have one:∀(q:IntKind)(c:Int),fX h (.x (.i q) c) (lv (.int q c)):=fun q c=>cu (dX rfl ⟨rfl,rfl⟩);have onb:∀(c:Bool),fX h (.x .b c) (lv (.bool c)):=fun c=>cu (dX rfl ⟨rfl,rfl⟩);cases op<;>simp only[PO]at hb
 all_goals first
  |(cases z<;>simp only[cond_true,cond_false]at hb<;>first|(cases hb;done)|skip
    have:=hz rfl;obtain rfl:=aa hb;refine⟨_,by simp only[sW];rw[if_neg (by omega)];rfl,one _ _,trivial⟩)
  |skip
 all_goals
  by_cases hk:k=k'
  .subst hk;simp only[decide_true,cond_true]at hb
   first
    |(cases hb;done)
    |(obtain rfl:=aa hb
      refine⟨_,by simp only[sW,if_true];rfl,?_,trivial⟩
      first|exact one _ _|exact onb _)
    |(obtain rfl:=aa hb
      first
       |exact⟨.int k (Jf k a b),by simp only[sW,if_true,ye];rfl,one _ _,trivial⟩
       |exact⟨.int k (Qb k a b),by simp only[sW,if_true,Co];rfl,one _ _,trivial⟩
       |exact⟨.int k (PQ k a b),by simp only[sW,if_true,NA];rfl,one _ _,trivial⟩
       |exact⟨.int k (sH k a b),by simp only[sW,if_true,vi];rfl,one _ _,trivial⟩)
    |(cases z<;>simp only[cond_true,cond_false]at hb<;>first|(cases hb;done)|skip
      have:=hz rfl;obtain rfl:=aa hb;refine⟨_,by simp only[sW,if_true];rw[if_neg (by omega)],one _ _,trivial⟩)
  .simp [hk]at hb
theorem Jb{op:BinOp}{a b:ByteArray}{v:V}(hb:PN op a b=some v):∃y,sW op (.string a) (.string b)=some y/\fX h v (lv y)/\eY n h v:=by
 have onb:∀(c:Bool),fX h (.x .b c) (lv (.bool c)):=fun c=>cu (dX rfl ⟨rfl,rfl⟩);cases op<;>simp only[PN]at hb<;>first|(cases hb;done)|skip
 all_goals(obtain rfl:=aa hb;exact⟨_,rfl,onb _,trivial⟩)
theorem Ko{m:Bool}{k:IntKind}:∀{r:List V}{x y:Int}{xs:List TV},P_ m k x r=some y->mR h r xs->NZ m (.int k x) (xs.map some)=some (.int k y):=by
 intro r;induction r with
 |nil=>intro x y xs hm hx;obtain rfl:=lV hx;obtain rfl:=aa hm;rfl
 |cons v r ih=>
  intro x y xs hm hx;obtain⟨x1,ys,rfl,h1,h2⟩:=gL hx;cases v with
  |x t c=>
   cases t with
   |i k'=>
    simp only[P_]at hm;by_cases hk:k'=k
    .subst hk;simp only[decide_true,cond_true]at hm;obtain rfl:=kx h1;have:=ih hm h2;cases m<;>simpa[NZ,Q6]using this
    .simp [hk]at hm
   |_=>simp[P_]at hm
  |_=>simp[P_]at hm
theorem nw{α:Type}:∀(l:List α),eH (l.map some)=some l:=by intro l;induction l with|nil=>rfl|cons a l ih=>simp[eH,ih]
theorem Ke{kind:Nat}{v w:V}{x:TV}{neg:Bool}{c:Call}{nx:Nat}(hx:fX h v x)(ha:ir h v=true)(hn:yZ h kind v=some w):
  ∃y,cL c (.rF kind neg) [some x] h1 nx=some (y,[],[],nx)/\fX h (bif neg then Kg w else w) y/\eY n h (bif neg then Kg w else w):=by
 have kb:∀b,fX h (.kb b) (tB b):=fun b=>cu (dX rfl rfl);have xb:∀b,fX h (.x .b b) (tB b):=fun b=>cu (dX rfl ⟨rfl,rfl⟩)
 have sl:∀q,ur h v=some q->(bif kind==0 then(match ur h v with|some ⟨_,s,_⟩=>some (.x .b s.fM)|none=>none)else none)=some w->
   ∃y,cL c (.rF kind neg) [some x] h1 nx=some (y,[],[],nx)/\fX h (bif neg then Kg w else w) y/\eY n h (bif neg then Kg w else w):=by
  intro q hq hw;cases hkk:kind==0 with
  |false=>rw[hkk]at hw;simp at hw
  |true=>
   obtain rfl:kind=0:=by simpa using hkk
   rw[hq]at hw;simp only[hkk,cond_true]at hw;obtain rfl:=aa hw;refine⟨_,O2 hx ha hq,?_⟩;cases neg
   .exact ⟨xb _,trivial⟩
   .exact ⟨xb _,trivial⟩
 cases v with
 |nl k=>
  simp only[yZ]at hn;cases hkk:(k==kind)&&Nat.blt k 3 with
  |false=>rw[hkk]at hn;simp at hn
  |true=>
   rw[hkk,cond_true]at hn;obtain rfl:=aa hn;simp only[ai,beq_iff_eq]at hkk;obtain⟨rfl,hlt⟩:=hkk;have hlt:k<3:=iZ hlt;rw[wl hx]
   match k,hlt with|0,_=>cases neg<;>exact⟨_,rfl,kb _,trivial⟩|1,_=>cases neg<;>exact⟨_,rfl,kb _,trivial⟩|2,_=>cases neg<;>exact⟨_,rfl,kb _,trivial⟩
 |pt t v=>
  simp only[yZ]at hn;cases hkk:kind==1 with
  |false=>rw[hkk]at hn;simp at hn
  |true=>
   rw[hkk,cond_true]at hn;obtain rfl:=aa hn;obtain rfl:kind=1:=by simpa using hkk
   rw[(yn hx).2];cases neg<;>exact⟨_,rfl,kb _,trivial⟩
 |op id t p=>
  simp only[yZ]at hn;cases hkk:kind==1 with
  |false=>rw[hkk]at hn;simp at hn
  |true=>
   rw[hkk,cond_true]at hn;obtain rfl:=aa hn;obtain rfl:kind=1:=by simpa using hkk
   rw[wj hx];cases neg<;>exact⟨_,rfl,kb _,trivial⟩
 |ep id m t p=>
  simp only[yZ]at hn;cases hkk:kind==1 with
  |false=>rw[hkk]at hn;simp at hn
  |true=>
   rw[hkk,cond_true]at hn;obtain rfl:=aa hn;obtain rfl:kind=1:=by simpa using hkk
   rw[tg hx];cases neg<;>exact⟨_,rfl,kb _,trivial⟩
 |fn z f l=>
  simp only[yZ]at hn;cases hkk:kind==2 with
  |false=>rw[hkk]at hn;simp at hn
  |true=>
   rw[hkk,cond_true]at hn;obtain rfl:=aa hn;obtain rfl:kind=2:=by simpa using hkk
   rcases EW hx with⟨_,ds,_,rfl⟩|⟨_,cs,_,rfl⟩<;>(cases neg<;>exact⟨_,rfl,kb _,trivial⟩)
 |x t v=>cases hq:ur h (.x t v)with|none=>simp[yZ,hq]at hn|some q=>exact sl q hq hn
 |so id=>cases hq:ur h (.so id)with|none=>simp[yZ,hq]at hn|some q=>exact sl q hq hn
 |sb id ver lo t r=>cases hq:ur h (.sb id ver lo t r)with|none=>simp[yZ,hq]at hn|some q=>exact sl q hq hn
 |_=>simp[yZ,ur]at hn
theorem Li{off m i:Nat}{v w:V}{x:TV}{c:Call}{nx:Nat}(hx:fX h v x)(hk:eY n h v)(hw:Gd off m i v=some w):
  ∃y,cL c (.fieldAddr off m) [some x] h1 nx=some (y,[],[],nx)/\fX h w y/\eY n h w:=by
 have MK:∀(t u a:Ty)(p:qw),rM t p=some (.st u)->CF u i=some a->Im t p->Im t (p++[.fd i])/\mW t (p++[.fd i])=mW t p+pu u i:=by
  intro t u a p;induction p generalizing t with
  |nil=>
   intro h1 h2 _;have e:rM t []=some t:=by cases t<;>rfl
   obtain rfl:t=.st u:=by rw[e]at h1;exact aa h1
   refine⟨⟨a,h2,by cases a<;>trivial⟩,?_⟩;simp only[bw,mW,h2];cases a<;>simp[mW]
  |cons q p ih=>
   intro h1 h2 h3;cases q with
   |fd j=>cases t with|st t=>obtain⟨b2,hb,h3⟩:=h3;simp only[rM,hb]at h1;obtain⟨q1,q2⟩:=ih b2 h1 h2 h3;refine⟨⟨b2,hb,q1⟩,?_⟩;simp only[bd,mW,hb,q2];exact(db _ _ _).symm|_=>exact h3.elim
   |ix k=>cases t with|ar l t=>obtain⟨hk,h3⟩:=h3;obtain⟨q1,q2⟩:=ih t h1 h2 h3;refine⟨⟨hk,q1⟩,?_⟩;simp only[bd,mW,q2];exact(db _ _ _).symm|_=>exact h3.elim
 cases v with
 |op id t p=>
  simp only[Gd]at hw;split at hw
  .rename_i u hu;split at hw
   .rename_i a hf;cases hq:(pu u i==off)&&(ce a==m)with
    |false=>rw[hq]at hw;simp at hw
    |true=>
     rw[hq,cond_true]at hw;obtain rfl:=aa hw;simp only[ai,beq_iff_eq]at hq;obtain⟨q1,q2⟩:=MK t u a p hu hf hk.2;rw[wj hx];refine⟨_,rfl,cu (dX rfl ?_),hk.1,q1⟩;show[_]=[_]
     rw[q2,hq.1]
   .simp at hw
  .simp at hw
 |ep id k t p=>
  simp only[Gd]at hw;split at hw
  .rename_i u hu;split at hw
   .rename_i a hf;cases hq:(pu u i==off)&&(ce a==m)with
    |false=>rw[hq]at hw;simp at hw
    |true=>
     rw[hq,cond_true]at hw;obtain rfl:=aa hw;simp only[ai,beq_iff_eq]at hq;obtain⟨q1,q2⟩:=MK t u a p hu hf hk.2.1;rw[tg hx];refine⟨_,rfl,cu (dX rfl ?_),hk.1,q1,hk.2.2⟩;show[_]=[_]
     rw[q2,hq.1]
   .simp at hw
  .simp at hw
 |pt t v=>
  cases t with
  |st u=>
   simp only[Gd]at hw;split at hw
   .rename_i a y hy;cases hq:(pu u i==off)&&(ce a==m)with
    |false=>rw[hq]at hw;simp at hw
    |true=>
     rw[hq,cond_true]at hw;obtain rfl:=aa hw;simp only[ai,beq_iff_eq]at hq;obtain⟨a',y',e,f1,f2,f3⟩:=rC _ _ _ _ hy;cases e;obtain⟨hd,rfl⟩:=yn hx;refine⟨_,?_,cu (dX (c:=.d (.pt (a_ a y))) rfl ⟨zI u _ _ hd f1,rfl⟩),trivial⟩;have hle:off+m<=(a_ (.st u) v).length:=by rw[bV];show _<=ce u;omega
     have e2:((a_ (.st u) v).drop off).take m=a_ a y:=by rw[<-hq.1,<-hq.2];exact f3
     simp only[cL,kc];rw[if_pos hle,e2]
   .simp at hw
  |_=>simp[Gd]at hw
 |_=>simp[Gd]at hw
theorem Ip:∀(l:V)(i:Nat)(w:V)(cs:List C),e9 h l cs->sS l i=some w->∃cw,e9 h w cw/\Na l i+yr w<=cs.length/\(cs.drop (Na l i)).take (yr w)=cw:=by
 intro l;induction l with
 |co a r iha ihr=>intro i w cs hv hw;obtain⟨x,y,rfl,k1,k2⟩:=hv;have hl:=iz k1;cases i with|zero=>obtain rfl:=aa hw;refine⟨x,k1,by simp[Na];omega,?_⟩;simp only[Na,List.drop_zero];rw[<-hl,List.take_left]|succ i=>obtain⟨cw,q1,q2,q3⟩:=ihr i w y k2 hw;refine⟨cw,q1,by simp only[Na,ap];omega,?_⟩;simp only[Na];rw[<-dO,<-hl,List.drop_left,q3]
 |_=>intro i w cs hv hw;simp[sS]at hw
theorem MS:∀(l:V)(i:Nat)(w:V)(xs:List TV),BE h l xs->sS l i=some w->∃x,xs[i]?=some x/\th h w x:=by
 intro l;induction l with
 |co a r iha ihr=>intro i w xs hv hw;obtain⟨x,ys,rfl,k1,k2⟩:=hv;cases i with|zero=>obtain rfl:=aa hw;exact⟨x,rfl,k1⟩|succ i=>exact ihr i w ys k2 hw
 |_=>intro i w xs hv hw;simp[sS]at hw
end
section
variable{h:H2}{n:Nat}{h1:bM}
def P0(h:H2)(n:Nat)(h1:bM)(k:K)(xs:List TV)(v:V)(l:List Nat):Prop:=∀(c:Call)(nx:Nat),∃x aB,cL c k (xs.map some) h1 nx=some (x,[],aB,nx)/\fX h v x/\eY n h v/\∀i∈aB,i∈l
theorem P0.of{k:K}{xs:List TV}{v:V}{x:TV}(he:∀(c:Call)(nx:Nat),cL c k (xs.map some) h1 nx=some (x,[],[],nx))(hx:fX h v x)(hk:eY n h v):P0 h n h1 k xs v []:=fun c nx=>⟨x,[],he c nx,hx,hk,fun i hi=>by simp at hi⟩
theorem xb(b:Bool):fX h (.x .b b) (tB b):=cu (dX rfl ⟨rfl,rfl⟩)
theorem xi(k:IntKind)(a:Int):fX h (.x (.i k) a) (tI k a):=cu (dX rfl ⟨rfl,rfl⟩)
theorem P5(a:ByteArray):fX h (.x .s a) (.c (.d (dS a))):=cu (dX rfl ⟨rfl,rfl⟩)
def P6(t:Ty)(y:El t):TV:=if nB t=true then .agg ((a_ t y).map .d)else match a_ t y with|d::_=>.c (.d d)|[]=>.iP []
theorem GM{t:Ty}(y:El t){va:Bool}(hv:nB t=va)(h1:(va||ce t==1)=true):pP va (a_ t y)=some (P6 t y):=by
 subst hv;unfold pP P6;cases ha:nB t with
 |true=>rfl
 |false=>
  rw[ha]at h1;have:=bV t y;rw[show ce t=1 by simpa using h1]at this;cases he:a_ t y with
  |nil=>rw[he]at this;simp at this
  |cons d r=>
   rw[he]at this;have:r=[]:=by simpa using this
   subst this;rfl
theorem Jw{t:Ty}{y:El t}(hd:kL t=true)(h1:(nB t||ce t==1)=true):th h (.x t y) (P6 t y):=by
 unfold P6;cases ha:nB t with
 |true=>exact yo ha ⟨hd,rfl⟩
 |false=>
  rw[ha]at h1;have:=bV t y;rw[show ce t=1 by simpa using h1]at this;cases he:a_ t y with
  |nil=>rw[he]at this;simp at this
  |cons d r=>
   rw[he]at this;have:r=[]:=by simpa using this
   subst this;exact dX ha ⟨hd,by rw[he];rfl⟩
theorem Ji(f:TV->Option C)(hf:∀c,f (.c c)=some c):∀(cs:List C),eH ((cs.map TV.c).map f)=some cs:=by intro cs;induction cs with|nil=>rfl|cons c cs ih=>simp only[aD,hf,eH,ih]
theorem zf:∀(l:List Value),lQ (l.map fun v=>C.d (.lit v))=some l:=by intro l;induction l with|nil=>rfl|cons v l ih=>simp[lQ,ih]
theorem DV{kt:Ty}{ks:List Kd}{v:V}{x:TV}{y:El kt}{ka:Bool}(hx:fX h v x)(hc:ul kt v=some y)(hk:DY kt=some ks)(ha:nB kt=ka):pq ka ks x=some (wd kt y):=by
 obtain⟨h1,h2,_,h4⟩:=x5 kt ks hk;obtain⟨g1,g2⟩:=vX hx hc;cases ka with
 |true=>
  rw[g1 ha];have e:(a_ kt y).map C.d=(wd kt y).map fun v=>C.d (.lit v):=by rw[h1 y,lN];rfl
  simp only[pq];rw[if_pos ⟨trivial,by rw[aV,bV,h4]⟩,e,zf];simp only[h2 y,if_true]
 |false=>
  obtain⟨d,hd,rfl⟩:=g2 ha;have hl:=bV kt y;rw[hd]at hl;have h5:=h1 y;rw[hd]at h5;cases hv:wd kt y with
  |nil=>rw[hv]at h5;simp at h5
  |cons q r=>
   rw[hv]at h5;simp only[aD,dM]at h5;obtain⟨rfl,h6⟩:=h5;have:r=[]:=by simpa using h6.symm
   subst this;simp only[pq];rw[if_pos ⟨trivial,by rw[h4,<-hl];rfl⟩];have h7:=h2 y;rw[hv]at h7;simp only[lQ,h7,if_true]
theorem Ku{v:V}{q:(k:Ty)×(v:Ty)×Mp (El k) (El v)×List Nat}{x:TV}(hr:HR n h1 h)(hm:MX h v=some q)(hx:fX h v x):
  ∃id,v=.om id/\x=.c (.om id)/\q.2.2.2=[id]/\fO h id=some (.mp q.1 q.2.1 q.2.2.1)/\aC h1 id=EO (nB q.1) (nB q.2.1) (wd q.1) (a_ q.2.1) q.2.2.1:=by
 cases v with
 |om id=>
  simp only[MX]at hm;split at hm
  .rename_i k v m ho;obtain rfl:=aa hm;exact⟨id,rfl,EV hx,rfl,ho,(hr.ob id _ ho).2.1.2.2⟩
  .simp at hm
 |_=>simp[MX]at hm
theorem Kw{c:Call}{x y:TV}{H:bM}{l:List Nat}{nx:Nat}(h:cL c (.load false 1) [some x] H nx=some (y,[],l,nx)):cL c .uD [some x] H nx=some (y,[],l,nx):=by
 cases x with
 |c p=>
  have h:(match hO false 1 p H with|some (v,aB)=>some (v,([]:fA),aB,nx)|none=>none)=some (y,[],l,nx):=h;show(match hO false 1 p H with|some (v,aB)=>some (v,([]:fA),aB,nx)|none=>lJ false 1 p H nx)=some (y,[],l,nx);split at h
  .exact h
  .cases h
 |_=>cases h
theorem HE{o:OP}{vs:List V}{v:V}{l:List Nat}{xs:List TV}(hr:HR n h1 h)(ht:OA o vs h=some (v,l))(hx:mR h vs xs)(hk:∀w∈vs,eY n h w)(ha:∀w∈vs,ir h w=true)
  (hp:MH o.o.args=true->∀a k b,vs=[a,.x (.i k) b]->0<b):P0 h n h1 o.o.k xs v l:=by
 obtain⟨⟨d,k,args,g⟩,t,fi⟩:=o;simp only at hp|-;unfold OA at ht;simp only at ht;split at ht
 .--mv
  obtain⟨rfl,rfl⟩:=ad (aa ht);obtain⟨x,rfl,h2⟩:=iO hx;exact .of (fun _ _=>rfl) h2 (hk _ (by simp))
 .--nilCheck
  obtain⟨x,rfl,h2⟩:=iO hx;have hk1:=hk _ (av.2 rfl);split at ht
  .obtain ⟨rfl,rfl⟩:=ad (aa ht);exact .of (fun _ _=>by rw[(yn h2).2];rfl) h2 hk1
  .obtain ⟨rfl,rfl⟩:=ad (aa ht);refine .of (fun _ _=>?_) h2 hk1;rcases EW h2 with⟨_,ds,_,rfl⟩|⟨_,cs,_,rfl⟩<;>rfl
  .obtain ⟨rfl,rfl⟩:=ad (aa ht);exact .of (fun _ _=>by rw[tg h2];rfl) h2 hk1
  .obtain ⟨rfl,rfl⟩:=ad (aa ht);exact .of (fun _ _=>by rw[wj h2];rfl) h2 hk1
  .simp at ht
 .--Au int
  rename_i op q a q' b;obtain⟨x,y,rfl,h2,h3⟩:=je hx;obtain rfl:=kx h2;obtain rfl:=kx h3;split at ht
  .rename_i w hw;obtain⟨rfl,rfl⟩:=ad (aa ht);obtain⟨y,h4,h5,h6⟩:=Jc (h:=h) (n:=n) hw fun hz=>hp hz _ _ _ rfl;exact .of (fun _ _=>by simp only[mo,cL,h4]) h5 h6
  .simp at ht
 .--Au string
  obtain⟨x,y,rfl,h2,h3⟩:=je hx;obtain rfl:=xj h2;obtain rfl:=xj h3;split at ht
  .rename_i w hw;obtain⟨rfl,rfl⟩:=ad (aa ht);obtain⟨y,h4,h5,h6⟩:=Jb (h:=h) (n:=n) hw;exact .of (fun _ _=>by simp only[mo,cL,h4]) h5 h6
  .simp at ht
 .--ve
  rename_i neg v1 v2;obtain⟨x,y,rfl,h2,h3⟩:=je hx;split at ht
  .rename_i a b ha' hb';obtain⟨rfl,rfl⟩:=ad (aa ht);rw[N6 h2 ha',N6 h3 hb'];refine .of (x:=tB (bif neg then !(a==b)else a==b)) (fun _ _=>?_) (xb _) trivial;cases neg<;>rfl
  .simp at ht
 .--rF
  obtain⟨x,rfl,h2⟩:=iO hx;split at ht
  .rename_i w hw;obtain⟨rfl,rfl⟩:=ad (aa ht);intro c nx;obtain⟨y,h4,h5,h6⟩:=Ke (n:=n) (h1:=h1) (c:=c) (nx:=nx) h2 (ha _ (by simp)) hw;exact⟨y,[],h4,h5,h6,fun i hi=>by simp at hi⟩
  .simp at ht
 .--zD
  rename_i neg ks t1 a w;obtain⟨x,y,rfl,h2,h3⟩:=je hx;split at ht
  .rename_i b hb;cases hq:nB t1&&decide (DY t1=some ks)with
   |false=>rw[hq]at ht;simp at ht
   |true=>
    rw[hq,cond_true]at ht;obtain⟨rfl,rfl⟩:=ad (aa ht);simp only[ai,decide_eq_true_eq]at hq;obtain⟨k1,k2,k3,k4⟩:=x5 t1 ks hq.2;have e1:=(vX (v:=.x t1 a) (u:=t1) (y:=a) h2 (by simp[ul,kQ,ic,gH])).1 hq.1;have e2:=(vX h3 hb).1 hq.1;have el:∀z:El t1,lQ ((a_ t1 z).map C.d)=some (wd t1 z):=fun z=>by rw[show(a_ t1 z).map C.d=(wd t1 z).map fun v=>C.d (.lit v)by rw[k1 z,lN];rfl,zf]
    rw[e1,e2];refine .of (x:=tB (bif neg then !(decide (a=b))else decide (a=b))) (fun _ _=>?_) (xb _) trivial;simp only[mo,cL,el,k3];cases neg<;>rfl
  .simp at ht
 .obtain ⟨rfl,rfl⟩:=ad (aa ht);obtain⟨x,rfl,h2⟩:=iO hx;rw[wm h2];exact .of (fun _ _=>rfl) (cu (dX rfl rfl)) trivial
 .obtain ⟨rfl,rfl⟩:=ad (aa ht);obtain⟨x,rfl,h2⟩:=iO hx;rw[GO h2];exact .of (fun _ _=>rfl) (xb _) trivial
 .obtain ⟨rfl,rfl⟩:=ad (aa ht);obtain⟨x,rfl,h2⟩:=iO hx;rw[kx h2];exact .of (fun _ _=>rfl) (xi _ _) trivial
 .obtain ⟨rfl,rfl⟩:=ad (aa ht);obtain⟨x,rfl,h2⟩:=iO hx;rw[kx h2];exact .of (fun _ _=>rfl) (xi _ _) trivial
 .obtain ⟨rfl,rfl⟩:=ad (aa ht);obtain⟨x,rfl,h2⟩:=iO hx;rw[kx h2];exact .of (fun _ _=>rfl) (xi _ _) trivial
 .obtain ⟨rfl,rfl⟩:=ad (aa ht);obtain⟨x,rfl,h2⟩:=iO hx;rw[xj h2];exact .of (fun _ _=>rfl) (P5 _) trivial
 .--It
  rename_i f;cases hc:vs.all Nw with
  |false=>rw[hc]at ht;simp at ht
  |true=>
   rw[hc,cond_true]at ht;obtain⟨rfl,rfl⟩:=ad (aa ht);obtain⟨cs,h2,rfl⟩:=Jx hx fun w hw=>by have:=List.all_eq_true.1 hc w hw;cases w<;>first|exact⟨trivial,by simp[Nw]at this;exact this⟩|simp[Nw]at this
   refine .of (x:=.c (.po f cs)) (fun _ _=>?_) (cu (dX rfl ⟨cs,h2,rfl⟩)) ?_
   .simp only[cL,nw];rw[Ji _ fun _=>rfl]
   .clear ht h2 hp ha hc hx;induction vs with|nil=>trivial|cons w vs ih=>exact⟨hk w (by simp),ih fun u hu=>hk u (by simp[hu])⟩
 .--load
  rename_i g m p;obtain⟨x,rfl,h2⟩:=iO hx;split at ht
  .rename_i w l' hl;cases hc:Gv h g m w with|false=>rw[hc]at ht;simp at ht|true=>rw[hc,cond_true]at ht;obtain⟨rfl,rfl⟩:=ad (aa ht);intro c nx;obtain⟨y,h3,h4,h5⟩:=wK (c:=c) (nx:=nx) hr hl hc h2 (hk _ (by simp));exact⟨y,_,h3,h4,h5,fun i hi=>hi⟩
  .simp at ht
 .--load of a slice
  obtain⟨x,rfl,h2⟩:=iO hx;split at ht
  .rename_i w l' hl;cases hc:Gv h false 1 w with|false=>rw[hc]at ht;simp at ht|true=>rw[hc,cond_true]at ht;obtain⟨rfl,rfl⟩:=ad (aa ht);intro c nx;obtain⟨y,h3,h4,h5⟩:=wK (c:=c) (nx:=nx) hr hl hc h2 (hk _ (by simp));exact⟨y,_,Kw h3,h4,h5,fun i hi=>hi⟩
  .simp at ht
 .--fieldAddr
  obtain⟨x,rfl,h2⟩:=iO hx;split at ht
  .split at ht
   .rename_i w hw;obtain⟨rfl,rfl⟩:=ad (aa ht);intro c nx;obtain⟨y,h3,h4,h5⟩:=Li (h1:=h1) (c:=c) (nx:=nx) h2 (hk _ (by simp)) hw;exact⟨y,[],h3,h4,h5,fun i hi=>by simp at hi⟩
   .simp at ht
  .simp at ht
 .--field of data
  rename_i g off m u y;obtain⟨x,rfl,h2⟩:=iO hx;split at ht
  .split at ht
   .rename_i i _ w hw;cases hc:(pu u i==off)&&Gv h g m w with
    |false=>rw[hc]at ht;simp at ht
    |true=>
     rw[hc,cond_true]at ht;obtain⟨rfl,rfl⟩:=ad (aa ht);simp only[ai,beq_iff_eq]at hc;obtain⟨a,z,rfl,f1,f2,f3⟩:=rC _ _ _ _ hw;obtain⟨cs,⟨hd,rfl⟩,g1,_⟩:=pm (v:=.x (.st u) y) trivial h2;have hd':kL u=true:=hd;obtain⟨_,hs,_,_⟩:=oY hc.2;have hs:ce a=m:=hs
     obtain⟨q,h3,h4⟩:=p9 (cs:=(a_ u y).map C.d) (off:=off) hc.2 (show e9 h (.x a z) ((a_ a z).map .d)from⟨zI u _ _ hd' f1,rfl⟩) (by simp[bV];omega)
      (by rw[<-hc.1,<-hs,<-f3,gX,gm])
     rw[g1 rfl];exact .of (x:=q) (fun _ _=>by show(match DT g m (((a_ u y).map C.d).drop off)with|some v=>some (v,([]:fA),([]:List Nat),_)|none=>none)=_;rw[h3]) h4 trivial
   .simp at ht
  .simp at ht
 .--field of a cU
  rename_i g off m u;obtain⟨x,rfl,h2⟩:=iO hx;split at ht
  .split at ht
   .rename_i i _ w hw;cases hc:(Na u i==off)&&Gv h g m w with|false=>rw[hc]at ht;simp at ht|true=>rw[hc,cond_true]at ht;obtain⟨rfl,rfl⟩:=ad (aa ht);simp only[ai,beq_iff_eq]at hc;obtain⟨cs,hcs,g1,_⟩:=pm (v:=.rc u) trivial h2;obtain⟨cw,q1,q2,q3⟩:=Ip u i w cs hcs hw;obtain⟨_,hs,_,_⟩:=oY hc.2;obtain⟨q,h3,h4⟩:=p9 (off:=off) hc.2 q1 (by rw[<-hc.1,<-hs];exact q2) (by rw[<-hc.1,<-hs];exact q3);rw[g1 rfl];exact .of (x:=q) (fun _ _=>by show(match DT g m (cs.drop off)with|some v=>some (v,([]:fA),([]:List Nat),_)|none=>none)=_;rw[h3]) h4 (xX u i w (hk (.rc u) (av.2 rfl)) hw)
   .simp at ht
  .simp at ht
 .--extract
  rename_i i u;obtain⟨x,rfl,h2⟩:=iO hx;split at ht
  .rename_i w hw;obtain⟨rfl,rfl⟩:=ad (aa ht);obtain⟨ys,rfl,h3⟩:=Oz h2;obtain⟨y,h4,h5⟩:=MS u i w ys h3 hw;exact .of (x:=y) (fun _ _=>by simp only[mo,cL,h4]) (cu h5) (xX u i w (hk (.tp u) (av.2 rfl)) hw)
  .simp at ht
 .obtain ⟨rfl,rfl⟩:=ad (aa ht);obtain⟨x,rfl,h2⟩:=iO hx;rw[xj h2];exact .of (fun _ _=>rfl) (xi _ _) trivial
 .obtain ⟨rfl,rfl⟩:=ad (aa ht);obtain⟨x,rfl,h2⟩:=iO hx;rw[wl h2];exact .of (fun _ _=>rfl) (xi _ _) trivial
 .--len of a cU of ao
  obtain⟨x,rfl,h2⟩:=iO hx;split at ht
  .rename_i t' s' ln hq;obtain⟨rfl,rfl⟩:=ad (aa ht);exact .of (fun _ _=>by rw[Jy h2 (tj hq)];exact N0) (xi _ _) trivial
  .simp at ht
 .--len
  obtain⟨x,rfl,h2⟩:=iO hx;split at ht
  .rename_i q t' s' l' hq;obtain⟨rfl,rfl⟩:=ad (aa ht);exact .of (fun _ _=>O_ h2 (ha _ (by simp)) hq) (xi _ _) trivial
  .simp at ht
 .--u9
  rename_i m k' x r;obtain⟨x1,ys,rfl,h2,h3⟩:=gL hx;split at ht
  .rename_i y hy;obtain⟨rfl,rfl⟩:=ad (aa ht);obtain rfl:=kx h2;exact .of (x:=lv (.int k' y)) (fun _ _=>by simp only[mo,cL,Ko hy h3]) (xi _ _) trivial
  .simp at ht
 .--build
  rename_i z ps;cases hc:uq (nE t) z&&nB t&&eG (NQ t) false t with
  |false=>rw[hc]at ht;simp at ht
  |true=>
   rw[hc,cond_true]at ht;simp only[ai]at hc;split at ht
   .rename_i w hw;obtain⟨rfl,rfl⟩:=ad (aa ht);obtain⟨z1,z2⟩:=(yg (h:=h) (n:=n) t).1 hc.2;obtain⟨cs,b1,b2,b3,b4⟩:=LJ fi ps vs (NQ t) w _ xs hw hc.2 z1 z2 hx hk;rw[rQ hc.1.1]at b1;exact .of (x:=.agg cs) (fun _ _=>by simp only[cL,nw,b1]) (cu (yo (Po b4 hc.1.2) b2)) b3
   .simp at ht
 .--lookup
  rename_i ka ks va z ok m kv;obtain⟨x,y,rfl,h2,h3⟩:=je hx;split at ht
  .rename_i kt vt mp l' hq;split at ht
   .rename_i key hkey;cases hc:(nB kt==ka)&&(nB vt==va)&&decide (DY kt=some ks)&&uq (nE vt) z&&kL vt&&(va||ce vt==1)with
    |false=>rw[hc]at ht;simp at ht
    |true=>
     rw[hc,cond_true]at ht;simp only[ai,beq_iff_eq,decide_eq_true_eq]at hc;obtain⟨⟨⟨⟨⟨c1,c2⟩,c3⟩,c4⟩,c5⟩,c6⟩:=hc;obtain⟨id,rfl,rfl,e1,e2,e3⟩:=Ku hr hq h2;have e1:l'=[id]:=e1;subst e1;obtain⟨_,_,k3,_⟩:=x5 kt ks c3;have hz:dk z=a_ vt (sX vt):=by rw[rP vt c5,rQ c4]
     have hv:∀y,pP va (a_ vt y)=some (P6 vt y):=fun y=>GM y c2 c6;have hkt:=DV h3 hkey c3 c1;rw[c1,c2]at e3;rw[<-c2]at c6;cases ok with|false=>simp only[cond_false]at ht;obtain⟨rfl,rfl⟩:=ad (aa ht);exact fun c nx=>⟨_,[id],O5 (z:=sX vt) e3 hkt k3 hz hv,cu (Jw c5 c6),trivial,fun i hi=>hi⟩|true=>simp only[cond_true]at ht;obtain⟨rfl,rfl⟩:=ad (aa ht);exact fun c nx=>⟨_,[id],M0 (z:=sX vt) e3 hkt k3 hz hv,⟨_,rfl,_,_,rfl,Jw c5 c6,_,_,rfl,dX rfl ⟨rfl,rfl⟩,rfl⟩,⟨trivial,trivial,trivial⟩,fun i hi=>hi⟩
   .simp at ht
  .simp at ht
 .simp at ht
end
section
variable{h:H2}{n:Nat}{h1:bM}
theorem c8(id:Nat)(o:Option O)(h:H2)(i:Nat):fO ((id,o)::h) i=if id=i then o else fO h i:=by
 simp only[fO,cz];by_cases e:id=i
 .subst e;simp
 .have e':(id==i)=false:=by simpa using e
  simp[e,e']
theorem dF(id:Nat)(o:Option Ob)(h:bM)(i:Nat):aC ((id,o)::h) i=if id=i then o else aC h i:=by
 simp only[aC,cz];by_cases e:id=i
 .subst e;simp
 .have e':(id==i)=false:=by simpa using e
  simp[e,e']
theorem jp.new(o:Option O):jp n h ((n,o)::h):=⟨fun id o' hi ho=>by rw[c8,if_neg (by omega)]at ho;exact .inl ⟨o',ho,te.refl _⟩⟩
theorem jp.CL{id:Nat}{o o':O}(ho:fO h id=some o)(hs:te o o'):jp n h ((id,some o')::h):=
 ⟨fun i o2 hi h2=>by
  rw[c8]at h2;split at h2
  .rename_i e;subst e;obtain rfl:=aa h2;exact .inl ⟨o,ho,hs⟩
  .exact .inl ⟨o2,h2,te.refl _⟩⟩
theorem jp.mg(id:Nat):jp n h ((id,none)::h):=
 ⟨fun i o2 hi h2=>by
  rw[c8]at h2;split at h2
  .simp at h2
  .exact .inl ⟨o2,h2,te.refl _⟩⟩
theorem HR.CL{n' id:Nat}{o:Option O}{u:fA}(hr:HR n h1 h)(hn:n<=n')(hi:id<n')(hs:jp n h ((id,o)::h))(hu:∀i,i≠id->aC (u++h1) i=aC h1 i)
  (ho:∀o',o=some o'->vK ((id,o)::h) o' (aC (u++h1) id)/\CD n' ((id,o)::h) o'):HR n' (u++h1) ((id,o)::h):=by
 refine⟨fun i o' h2=>?_⟩;rw[c8]at h2;split at h2
 .rename_i e;subst e;exact⟨hi,ho o' h2⟩
 .rename_i e;obtain⟨q1,q2,q3⟩:=hr.ob i o' h2;refine⟨by omega,?_,oO hn hs q3⟩;rw[hu i fun e'=>e e'.symm];exact p7 hs q3 q2
theorem HR.mono{n':Nat}(hr:HR n h1 h)(hn:n<=n'):HR n' h1 h:=⟨fun i o ho=>let⟨a,b,c⟩:=hr.ob i o ho;⟨by omega,b,oO hn (jp.refl n h) c⟩⟩
theorem HR.ext{h1':bM}(hr:HR n h1 h)(he:∀i,aC h1' i=aC h1 i):HR n h1' h:=⟨fun i o ho=>by rw[he];exact hr.ob i o ho⟩
structure rL(s s':S2)(h1:bM)(x:TV)(u:fA)(aB:List Nat)(m:Nat)(v:V)(l:List Nat):Prop where
 val:fX s'.heap v x
 TQ:eY s'.next s'.heap v
 hr:HR s'.next (u++h1) s'.heap
 eh:jp s.next s.heap s'.heap
 dH:s'.dH=s.dH
 gh:s'.gh=s.gh
 m:m<=s'.next
 le:s.next<=s'.next
 aB:∀i∈aB,i∈l
 nb:∀i,i<s.next->fO s.heap i=none->fO s'.heap i=none
 wo:∃w,s'.wo=w++s.wo/\(∀p∈u,p.1∈w)/\∀id,id∉w->fO s'.heap id=fO s.heap id
theorem rL.pure{s:S2}{x:TV}{v:V}{aB l:List Nat}(hr:HR s.next h1 s.heap)(hx:fX s.heap v x)(hk:eY s.next s.heap v)(hl:∀i∈aB,i∈l):rL s s h1 x [] aB s.next v l:=⟨hx,hk,hr,jp.refl _ _,rfl,rfl,aw _,aw _,hl,fun _ _ h=>h,[],rfl,fun p hp=>by simp at hp,fun _ _=>rfl⟩
theorem rL.new{s:S2}{o:O}{b:Option Ob}{u:fA}{x:TV}{v:V}{aB l:List Nat}{m:Nat}(hr:HR s.next h1 s.heap)(hu:u=[(s.next,b)]\/(u=[]/\∀b',vK ((s.next,some o)::s.heap) o b'))(hb:u=[(s.next,b)]->vK ((s.next,some o)::s.heap) o b)
  (hko:CD (s.next+1) ((s.next,some o)::s.heap) o) (hx:fX ((s.next,some o)::s.heap) v x) (hk:eY (s.next+1) ((s.next,some o)::s.heap) v) (hl:∀i∈aB,i∈l) (hm:m<=s.next+1):rL s (jy s o) h1 x u aB m v l:=by
 refine⟨hx,hk,?_,jp.new _,rfl,rfl,hm,bQ _,hl,fun i hi h=>(by rw[show(jy s o).heap=(s.next,some o)::s.heap from rfl,c8,if_neg (by omega)];exact h),[s.next],rfl,?_,fun id hid=>?_⟩
 .refine HR.CL (n':=s.next+1) hr (bQ _) (bl _) (jp.new _) (fun i hi=>?_) fun o' ho'=>?_
  .rcases hu with rfl|⟨rfl,_⟩
   .rw [bn,dF,if_neg fun e=>hi e.symm]
   .rfl
  .obtain rfl:=aa ho';refine⟨?_,hko⟩;rcases hu with rfl|⟨rfl,hu⟩
   .rw [bn,dF,if_pos rfl];exact hb rfl
   .exact hu _
 .intro p hp;rcases hu with rfl|⟨rfl,_⟩
  .obtain rfl:=av.1 hp;simp
  .simp at hp
 .simp only[jy];rw[c8,if_neg fun e=>hid (by simp[e])]
theorem rL.CL{s:S2}{id:Nat}{o o':O}{b:Option Ob}{x:TV}{v:V}{aB l:List Nat}(hr:HR s.next h1 s.heap)(ho:fO s.heap id=some o)(hs:te o o')(hb:vK ((id,some o')::s.heap) o' b)(hko:CD s.next ((id,some o')::s.heap) o')
  (hx:fX ((id,some o')::s.heap) v x) (hk:eY s.next ((id,some o')::s.heap) v) (hl:∀i∈aB,i∈l):rL s (eB s id (some o')) h1 x [(id,b)] aB s.next v l:=by
 refine⟨hx,hk,?_,jp.CL ho hs,rfl,rfl,aw _,aw _,hl,fun i _ h=>(by rw[show(eB s id (some o')).heap=(id,some o')::s.heap from rfl,c8,if_neg (fun e=>by rw[e,h]at ho;cases ho)];exact h),[id],rfl,fun p hp=>?_,fun i hi=>?_⟩
 .refine HR.CL hr (aw _) (hr.ob id o ho).1 (jp.CL ho hs) (fun i hi=>?_) fun o2 ho2=>?_
  .rw [bn,dF,if_neg fun e=>hi e.symm]
  .obtain rfl:=aa ho2;rw[bn,dF,if_pos rfl];exact⟨hb,hko⟩
 .obtain rfl:=av.1 hp;simp
 .simp only[eB];rw[c8,if_neg fun e=>hi (by simp[e])]
def mS(h:H2)(id:Nat):Prop:=(∃t v,fO h id=some (.ar t .nil v)\/fO h id=some (.im t .nil v))\/∃t ln,fO h id=some (.rw t .nil ln)
theorem yY{id ver:Nat}{t:Ty}{l:List (El t)}(ho:fO h id=some (.ar t (.mk l) ver)\/fO h id=some (.im t (.mk l) ver)):¬mS h id:=by
 rintro(⟨u,v',e⟩|⟨u,ln,e⟩)
 .rcases ho with ho|ho<;>rcases e with e|e<;>rw[ho]at e<;>simp at e
  all_goals
   obtain⟨rfl,e,_⟩:=e;cases eq_of_heq e
 .rcases ho with ho|ho<;>rw[ho]at e<;>cases e
theorem MU{id:Nat}{t:Ty}{l:List (Sl (El t))}{ln:Option (Nat×Nat)}(ho:fO h id=some (.rw t (.mk l) ln)):¬mS h id:=by
 rintro(⟨u,v',e⟩|⟨u,ln',e⟩)
 .rcases e with e|e<;>rw[ho]at e<;>cases e
 .rw [ho]at e;cases e
theorem qy(k:Nat)(x:D):dW h1 k (.d x)=some (x,[]):=by cases k<;>rfl
theorem yi:∀(ds:List D),dQ h1 (ds.map .d)=some (ds,[]):=by intro ds;induction ds with|nil=>rfl|cons d ds ih=>simp[dQ,qy,ih]
theorem qN{a b:List C}{x y:List D}{i j:List Nat}(ha:dQ h1 a=some (x,i))(hb:dQ h1 b=some (y,j)):dQ h1 (a++b)=some (x++y,i++j):=by
 induction a generalizing x i with
 |nil=>obtain⟨rfl,rfl⟩:[]=x/\[]=i:=by simpa[dQ]using ha
       simpa using hb
 |cons c a ih=>
  simp only[dQ]at ha;split at ha
  .rename_i p q r s hp hq;obtain⟨rfl,rfl⟩:=ad (aa ha);simp only[bd,dQ,hp,ih hq,aH]
  .simp at ha
theorem CJ{id sz lo len:Nat}{ao:List (List D)}(k:Nat)(ho:aC h1 id=some (.aP sz ao)\/aC h1 id=some (.qc sz ao))(hl:lo+len<=ao.length)(szo:Nat):
  dW h1 k (.fh szo id lo len)=some (.sl szo ((ao.drop lo).take len),[id]):=by
 rcases ho with ho|ho<;>(cases k<;>simp only[dW,ho,if_pos hl])
theorem Mc{id ver:Nat}{t:Ty}{s:Sl (El t)}(k:Nat)(hr:HR n h1 h)(ho:fO h id=some (.ar t s ver)\/fO h id=some (.im t s ver)):
  ∃aB,dW h1 k (mx (ce t) (a_ t) id s)=some (wt (ce t) (a_ t) s,aB)/\(∀i∈aB,i=id/\¬mS h i)/\(id∈aB\/mS h id):=by
 cases s with
 |nil=>exact⟨[],qy k _,fun i hi=>by simp at hi,.inr (.inl ⟨t,ver,ho⟩)⟩
 |mk l=>
  have hb:aC h1 id=some (.aP (ce t) (l.map (a_ t)))\/aC h1 id=some (.qc (ce t) (l.map (a_ t))):=by
   rcases ho with ho|ho
   .exact .inl ((hr.ob id _ ho).2.1.2.2 l rfl)
   .exact .inr ((hr.ob id _ ho).2.1.2.2 l rfl)
  refine⟨[id],?_,fun i hi=>by obtain rfl:=av.1 hi;exact⟨rfl,yY ho⟩,.inl (by simp)⟩;have:=CJ (lo:=0) (len:=(l.map (a_ t)).length) k hb (by omega) (ce t);rw[uk]at this;exact this
theorem Md{id ver lo:Nat}{t:Ty}{r:Sl (El t)}(k:Nat)(hr:HR n h1 h)(hk:eY n h (.sb id ver lo t r))(ha:Cu h id ver=true):
  ∃aB,dW h1 k (yD id lo t r)=some (wt (ce t) (a_ t) r,aB)/\(∀i∈aB,i=id/\¬mS h i)/\(id∈aB\/mS h id):=by
 obtain⟨u,s,ho⟩:=lL ha;obtain⟨_,hc⟩:=hk.2 u s ver ho;obtain⟨hz,hc⟩:=hc rfl;cases r with
 |nil=>cases s with|nil=>exact⟨[],qy k _,fun i hi=>by simp at hi,.inr (.inl ⟨u,ver,ho⟩)⟩|mk l=>exact hc.elim
 |mk m=>
  cases s with
  |nil=>exact hc.elim
  |mk l=>
   obtain⟨hl,he⟩:=hc
   have hb:aC h1 id=some (.aP (ce u) (l.map (a_ u)))\/aC h1 id=some (.qc (ce u) (l.map (a_ u))):=by
    rcases ho with ho|ho
    .exact .inl ((hr.ob id _ ho).2.1.2.2 l rfl)
    .exact .inr ((hr.ob id _ ho).2.1.2.2 l rfl)
   refine⟨[id],?_,fun i hi=>by obtain rfl:=av.1 hi;exact⟨rfl,yY ho⟩,.inl (by simp)⟩;have:=CJ (lo:=lo) (len:=(m.map (a_ t)).length) k hb (by simpa using hl) (ce t);rw[show(m.map (a_ t)).length=m.length by simp,he]at this;simpa[yD,wt]using this
theorem AI{t:Ty}:∀(l:List (Sl (El t))),qS (ce t) (l.map (pn t))=some (l.map (a_ (.sl t))):=by intro l;induction l with|nil=>rfl|cons s l ih=>simp only[aD,qS,ih];cases s<;>rfl
theorem Mb{id:Nat}{t:Ty}{s:Sl (Sl (El t))}(k:Nat)(hr:HR n h1 h)(ho:fO h id=some (.rw t s none)):
  ∃aB,dW h1 k (mx 1 (a_ (.sl t)) id s)=some (wt 1 (a_ (.sl t)) s,aB)/\(∀i∈aB,i=id/\¬mS h i)/\(id∈aB\/mS h id):=by
 cases s with
 |nil=>exact⟨[],qy k _,fun i hi=>by simp at hi,.inr (.inr ⟨t,none,ho⟩)⟩
 |mk l=>
  have hb:=(hr.ob id _ ho).2.1.2.2 l rfl;refine⟨[id],?_,fun i hi=>by obtain rfl:=av.1 hi;exact⟨rfl,MU ho⟩,.inl (by simp)⟩;have e:((l.map (a_ (.sl t))).length)=(eR t l none).length:=by simp[eR]
  have hs:qS (ce t) (eR t l none)=some (l.map (a_ (.sl t))):=AI l;cases k<;>simp only[mx,wt,dW,hb,hs,e,and_self,if_true]
theorem tL(hr:HR n h1 h):∀(v w:V)(l:List Nat)(cs:List C),jg h v=some (w,l)->e9 h v cs->eY n h v->ir h v=true->
  ∃ds aB,dQ h1 cs=some (ds,aB)/\e9 h w (ds.map .d)/\(∀i∈aB,i∈l/\¬mS h i)/\(∀i∈l,i∈aB\/mS h i)/\(∀i∈l,i<n/\((∃t s v,fO h i=some (.ar t s v)\/fO h i=some (.im t s v))\/∃t s,fO h i=some (.rw t s none))):=by
 have done:∀(v:V)(ds:List D),e9 h v (ds.map .d)->∃ds' aB,dQ h1 (ds.map .d)=some (ds',aB)/\e9 h v (ds'.map .d)/\(∀i∈aB,i∈([]:List Nat)/\¬mS h i)/\(∀i∈([]:List Nat),i∈aB\/mS h i)/\(∀i∈([]:List Nat),i<n/\((∃t s v,fO h i=some (.ar t s v)\/fO h i=some (.im t s v))\/∃t s,fO h i=some (.rw t s none))):=fun v ds hv=>⟨ds,[],yi ds,hv,fun i hi=>by simp at hi,fun i hi=>by simp at hi,fun i hi=>by simp at hi⟩;intro v;induction v with
 |so id=>
  intro w l cs hf hv hk ha;simp only[jg]at hf;split at hf
  .rename_i t s l' hs;obtain⟨rfl,rfl⟩:=ad (aa hf);obtain⟨ver,ho,e⟩:=uV hs;have e:l'=[id]:=e;subst e;obtain⟨c,rfl,hc,_⟩:=hv;rw[hc _ (mw ho)];obtain⟨aB,q1,q2,q3⟩:=Mc 300 hr ho;have hd:kL t=true:=by rcases ho with ho|ho<;>exact(hr.ob id _ ho).2.1.1
   refine⟨[wt (ce t) (a_ t) s],aB,by simp[dQ,q1],⟨hd,rfl⟩,fun i hi=>⟨by simpa using(q2 i hi).1,(q2 i hi).1▸(q2 i hi).2⟩,fun i hi=>?_,fun i hi=>?_⟩
   .obtain rfl:=av.1 hi;exact q3
   .obtain rfl:=av.1 hi;exact⟨hk,.inl ⟨t,s,ver,ho⟩⟩
  .simp at hf
 |sr id=>
  intro w l cs hf hv hk ha;simp only[jg]at hf;split at hf
  .rename_i t s ho;obtain⟨rfl,rfl⟩:=ad (aa hf);obtain⟨c,rfl,hc,_⟩:=hv;rw[hc _ (by rw[ho];rfl:EM id (fO h id)=some (mx 1 (a_ (.sl t)) id s))];obtain⟨aB,q1,q2,q3⟩:=Mb 300 hr ho;have hd:kL t=true:=(hr.ob id _ ho).2.1.1;refine⟨[wt 1 (a_ (.sl t)) s],aB,by simp[dQ,q1],⟨hd,rfl⟩,fun i hi=>⟨by simpa using(q2 i hi).1,(q2 i hi).1▸(q2 i hi).2⟩,fun i hi=>?_,fun i hi=>?_⟩
   .obtain rfl:=av.1 hi;exact q3
   .obtain rfl:=av.1 hi;exact⟨hk,.inr ⟨t,s,ho⟩⟩
  .simp at hf
 |sb id ver lo t r=>
  intro w l cs hf hv hk ha;simp only[jg,ur]at hf;obtain⟨rfl,rfl⟩:=ad (aa hf);obtain⟨hd,ha⟩:=dm.1 ha;have ha:Cu h id ver=true:=ha;obtain⟨c,rfl,hc,_⟩:=hv;rw[hc ha];obtain⟨aB,q1,q2,q3⟩:=Md 300 hr hk ha;obtain⟨u,s,ho⟩:=lL ha;refine⟨[wt (ce t) (a_ t) r],aB,by simp[dQ,q1],⟨?_,rfl⟩,fun i hi=>⟨by simpa using(q2 i hi).1,(q2 i hi).1▸(q2 i hi).2⟩,fun i hi=>?_,fun i hi=>?_⟩
  .exact hd
  .obtain rfl:=av.1 hi;exact q3
  .obtain rfl:=av.1 hi;exact⟨hk.1,.inl ⟨u,s,ver,ho⟩⟩
 |rc r ih=>
  intro w l cs hf hv hk ha;simp only[jg]at hf;split at hf
  .rename_i w' l' hw;obtain⟨rfl,rfl⟩:=ad (aa hf);exact ih w' l' cs hw hv hk ha
  .simp at hf
 |co a r iha ihr=>
  intro w l cs hf hv hk ha;simp only[jg]at hf;split at hf
  .rename_i x l1 y l2 hx hy;obtain⟨rfl,rfl⟩:=ad (aa hf);obtain⟨ca,cr,rfl,h2,h3⟩:=hv;simp only[ir,ai]at ha;obtain⟨ds,aB,a1,a2,a3,a4,a5⟩:=iha x l1 ca hx h2 hk.1 ha.1;obtain⟨es,jds,b1,b2,b3,b4,b5⟩:=ihr y l2 cr hy h3 hk.2 ha.2;refine⟨ds++es,aB++jds,qN a1 b1,⟨_,_,by simp,a2,b2⟩,fun i hi=>?_,fun i hi=>?_,fun i hi=>?_⟩
   .rcases au.1 hi with hi|hi
    .exact ⟨aG _ (a3 i hi).1,(a3 i hi).2⟩
    .exact ⟨aI _ (b3 i hi).1,(b3 i hi).2⟩
   .rcases au.1 hi with hi|hi
    .exact (a4 i hi).imp (aG _) id
    .exact (b4 i hi).imp (aI _) id
   .rcases au.1 hi with hi|hi
    .exact a5 i hi
    .exact b5 i hi
  .simp at hf
 |x t v=>intro w l cs hf hv hk ha;obtain⟨rfl,rfl⟩:=ad (aa hf);obtain⟨hd,rfl⟩:=hv;exact done _ _ ⟨hd,rfl⟩
 |kb c=>intro w l cs hf hv hk ha;obtain⟨rfl,rfl⟩:=ad (aa hf);obtain rfl:=hv;exact done (.kb c) [_] rfl
 |nl k=>intro w l cs hf hv hk ha;obtain⟨rfl,rfl⟩:=ad (aa hf);obtain rfl:=hv;exact done (.nl k) [_] rfl
 |fl q=>
  intro w l cs hf hv hk ha;obtain⟨rfl,rfl⟩:=ad (aa hf);obtain⟨hp,rfl⟩:=hv;have e:fk q=(q.map D.lit).map C.d:=by simp[fk]
  rw[e];exact done (.fl q) (q.map D.lit) ⟨hp,e.symm⟩
 |ni=>intro w l cs hf hv hk ha;obtain⟨rfl,rfl⟩:=ad (aa hf);obtain rfl:=hv;exact done .ni [] rfl
 |pt t v=>intro w l cs hf hv hk ha;obtain⟨rfl,rfl⟩:=ad (aa hf);obtain⟨hd,rfl⟩:=hv;exact done (.pt t v) [_] ⟨hd,rfl⟩
 |fn z f q ih=>intro w l cs hf hv hk ha;cases z with|true=>obtain⟨rfl,rfl⟩:=ad (aa hf);obtain⟨ds,hd,rfl⟩:=hv;exact done (.fn true f q) [_] ⟨ds,hd,rfl⟩|false=>simp[jg]at hf
 |_=>intro w l cs hf hv hk ha;simp[jg]at hf
theorem xU:∀(ds:List D)(k:Nat),ds.length<k->fU h1 k (ds.map .d)=some (ds,[]):=by
 intro ds;induction ds with
 |nil=>intro k hk;cases k<;>rfl
 |cons d ds ih=>intro k hk;cases k with|zero=>simp at hk|succ k=>simp only[aD,fU,qy];rw[ih k (by simpa using hk)];rfl
theorem wU{H:bM}{h0:H2}{k:Nat}(hr:HR k H h0)(all:List Nat){id:Nat}{o':O}(hf:B_ h0 id=some o'):
  ∃o,fO h0 id=some o/\te o o'/\(∀m g,CD m g o')/\((mS h0 id/\∀g b,vK g o' b)\/(¬mS h0 id/\∃b,jY H all id=some b/\∀g,vK g o' (some b))):=by
 unfold B_ at hf;split at hf
 .rename_i t s v ho;obtain rfl:=aa hf;refine⟨_,ho,⟨aw _,rfl,rfl,rfl,fun _=>rfl⟩,fun _ _=>trivial,?_⟩;obtain⟨h1,h2,h3⟩:=(hr.ob id _ ho).2.1;cases s with|nil=>exact .inl ⟨.inl ⟨t,v,.inl ho⟩,fun g b=>⟨h1,h2,fun l e=>by cases e⟩⟩|mk l=>refine .inr ⟨yY (.inl ho),.qc (ce t) (l.map (a_ t)),?_,fun g=>⟨h1,h2,fun l' e=>by cases e;rfl⟩⟩;simp only[jY,h3 l rfl]
 .rename_i t s v ho;obtain rfl:=aa hf;refine⟨_,ho,⟨rfl,rfl⟩,fun _ _=>trivial,?_⟩;obtain⟨h1,h2,h3⟩:=(hr.ob id _ ho).2.1;cases s with|nil=>exact .inl ⟨.inl ⟨t,v,.inr ho⟩,fun g b=>⟨h1,h2,fun l e=>by cases e⟩⟩|mk l=>refine .inr ⟨yY (.inr ho),.qc (ce t) (l.map (a_ t)),?_,fun g=>⟨h1,h2,fun l' e=>by cases e;rfl⟩⟩;simp only[jY,h3 l rfl]
 .rename_i t v ho;obtain rfl:=aa hf;obtain⟨h1,h2⟩:=(hr.ob id _ ho).2.1;refine⟨_,ho,rfl,fun _ _=>trivial,.inr ⟨?_,.oV (a_ t v),?_,fun g=>⟨h1,rfl⟩⟩⟩
  .rintro (⟨u,v',e|e⟩|⟨u,v',e⟩)<;>rw[ho]at e<;>simp at e
  .simp only[jY,h2]
 .rename_i t c ho;cases hd:(kL t&&Nat.blt (ce t) 300)with
  |false=>rw[hd]at hf;simp at hf
  |true=>
   rw[hd,cond_true]at hf;simp only[ai]at hd;split at hf
   .rename_i w hw;split at hf
    .rename_i y hy;obtain rfl:=aa hf;obtain⟨cs,h1,h2,h3⟩:=(hr.ob id _ ho).2.1;have e:=iW c false t y cs hy h2;subst e;refine⟨_,ho,trivial,fun _ _=>trivial,.inr ⟨?_,.oV (a_ t y),?_,fun g=>⟨hd.1,rfl⟩⟩⟩
     .rintro (⟨u,v',e|e⟩|⟨u,v',e⟩)<;>rw[ho]at e<;>simp at e
     .have hl:(a_ t y).length<300:=by rw[bV];simpa using hd.2
      simp only[jY,h1,xU _ _ hl];rfl
    .simp at hf
   .simp at hf
 .simp at hf
def Ga(h:H2)(id:Nat):Option O:=match fO h id with|some (.rw _ _ none)=>none|_=>B_ h id
theorem xz{h0:H2}{s0:S2}(hs0:s0.heap=h0):∀(aB:List Nat)(s':S2),rb h0 aB s0=some s'->
  s'.dH=s0.dH/\s'.gh=s0.gh/\s'.next=s0.next/\s'.wo=aB++s0.wo/\(∀i∈aB,(∃o,B_ h0 i=some o)\/∃t s,fO h0 i=some (.rw t s none))/\∀i,fO s'.heap i=if i∈aB then Ga h0 i else fO h0 i:=by
 intro aB;induction aB with
 |nil=>intro s' hf;obtain rfl:=aa hf;exact⟨rfl,rfl,rfl,rfl,fun i hi=>by simp at hi,fun i=>by simp[hs0]⟩
 |cons id r ih=>
  intro s' hf;simp only[rb]at hf
  have fin:∀(oo:Option O)(s1:S2),rb h0 r s0=some s1->s'=eB s1 id oo->((∃o,B_ h0 id=some o)\/∃t s,fO h0 id=some (.rw t s none))->Ga h0 id=oo->s'.dH=s0.dH/\s'.gh=s0.gh/\s'.next=s0.next/\s'.wo=(id::r)++s0.wo/\(∀i∈id::r,(∃o,B_ h0 i=some o)\/∃t s,fO h0 i=some (.rw t s none))/\∀i,fO s'.heap i=if i∈id::r then Ga h0 i else fO h0 i:=by
   intro oo s1 h1 e hex hoo;subst e;obtain⟨a1,a2,a3,a4,a5,a6⟩:=ih s1 h1;refine⟨a1,a2,a3,by simp[eB,a4],fun i hi=>?_,fun i=>?_⟩
   .rcases aQ.1 hi with rfl|hi
    .exact hex
    .exact a5 i hi
   .simp only[eB,c8,a6];by_cases e:id=i
    .subst e;simp[hoo]
    .simp [e,Ne.symm e]
  split at hf
  .rename_i t s ho;split at hf
   .rename_i s1 h1;exact fin none s1 h1 (aa hf).symm (.inr ⟨t,s,ho⟩) (by simp only[Ga,ho])
   .cases hf
  .rename_i hno;split at hf
   .rename_i o s1 ho h1;refine fin (some o) s1 h1 (aa hf).symm (.inl ⟨o,ho⟩) ?_;unfold Ga;split
    .rename_i t s e;exact absurd e (hno t s)
    .exact ho
   .cases hf
theorem IH{H:bM}{all:List Nat}:∀(l:List Nat),(∀i∈l,∃b,jY H all i=some b)->∃u,dZ H all l=some u/\∀p∈u,p.1∈l:=by
 intro l;induction l with
 |nil=>intro _;exact⟨[],rfl,fun p hp=>by simp at hp⟩
 |cons a l ih=>
  intro h;obtain⟨b,hb⟩:=h a (by simp);obtain⟨u,hu,hp⟩:=ih fun i hi=>h i (by simp[hi]);refine⟨(a,some b)::u,by simp only[dZ,hb,hu],fun p hp'=>?_⟩;rcases aQ.1 hp' with rfl|hp'
  .simp
  .exact aF _ (hp p hp')
theorem B9{h0:H2}{s0:S2}(hs0:s0.heap=h0){H:bM}(hr:HR s0.next H h0)(aB:List Nat)(s':S2)(ids1 all:List Nat)(hf:rb h0 aB s0=some s')(hi1:∀i∈ids1,i∈aB/\¬mS h0 i)(hi2:∀i∈aB,i∈ids1\/mS h0 i):
  ∃fu,dZ H all ids1=some fu/\HR s0.next (fu++H) s'.heap/\jp s0.next h0 s'.heap/\s'.dH=s0.dH/\s'.gh=s0.gh/\s'.next=s0.next/\
   s'.wo=aB++s0.wo/\(∀p∈fu,p.1∈aB)/\∀id,id∉aB->fO s'.heap id=fO s0.heap id:=by
 obtain⟨a1,a2,a3,a4,a5,a6⟩:=xz hs0 aB s' hf
 have hF:∀i o',Ga h0 i=some o'->B_ h0 i=some o':=fun i o' h=>by
  unfold Ga at h;split at h
  .cases h
  .exact h
 obtain⟨fu,hfu,hp⟩:=IH (H:=H) (all:=all) ids1 fun i hi=>by
  rcases a5 i (hi1 i hi).1 with⟨o,ho⟩|⟨t,s,ho⟩
  .obtain ⟨_,_,_,_,h⟩:=wU hr all ho;rcases h with h|⟨_,b,hb,_⟩
   .exact absurd h.1 (hi1 i hi).2
   .exact ⟨b,hb⟩
  .cases s with|nil=>exact absurd (.inr ⟨t,none,ho⟩) (hi1 i hi).2|mk l=>have hb:=(hr.ob i _ ho).2.1.2.2 l rfl;have hs:qS (ce t) (eR t l none)=some (l.map (a_ (.sl t))):=AI l;exact⟨.qc 1 (l.map (a_ (.sl t))),by simp only[jY,hb,hs]⟩
 have eh:jp s0.next h0 s'.heap:=⟨fun i o' hi ho=>by
  rw[a6]at ho;split at ho
  .obtain ⟨o,h1,h2,_⟩:=wU hr all (hF i o' ho);exact .inl ⟨o,h1,h2⟩
  .exact .inl ⟨o',ho,te.refl _⟩⟩
 refine⟨fu,hfu,⟨fun i o' ho=>?_⟩,eh,a1,a2,a3,a4,fun p hp'=>(hi1 _ (hp p hp')).1,fun i hi=>by rw[a6,if_neg hi,hs0]⟩;rw[a6]at ho;split at ho
 .rename_i hi;obtain⟨o,h1,_,h3,h4⟩:=wU hr all (hF i o' ho);refine⟨(hr.ob i o h1).1,?_,h3 _ _⟩;rcases h4 with h4|⟨h5,b,hb,hR⟩
  .exact h4.2 _ _
  .have hm:i∈ids1:=(hi2 i hi).resolve_right h5;obtain⟨b',hb',hl⟩:=(ly ids1 fu hfu i).1 hm;rw[hb]at hb';obtain rfl:=aa hb';rw[show aC (fu++H) i=some b by simp only[aC,gM,hl];rfl];exact hR _
 .rename_i hi;obtain⟨h1,h2,h3⟩:=hr.ob i o' ho;have hn:i∉ids1:=fun hm=>hi (hi1 i hm).1;refine⟨h1,?_,oO (aw _) eh h3⟩;rw[show aC (fu++H) i=aC H i by simp only[aC,gM,(ly ids1 fu hfu i).2 hn]];exact p7 eh h3 h2
theorem F_{h0:H2}{s0:S2}{aB:List Nat}{s':S2}(hs0:s0.heap=h0)(hf:rb h0 aB s0=some s'):∀i∈aB,fO h0 i≠none:=by
 intro i hi e;obtain⟨_,_,_,_,a5,_⟩:=xz hs0 aB s' hf;rcases a5 i hi with⟨o,ho⟩|⟨t,s,ho⟩
 .simp [B_,e]at ho
 .rw [e]at ho;cases ho
end
section
variable{h:H2}{n:Nat}{h1:bM}{β:Type}
theorem aR{α:Type}{c:Bool}{a:Option α}{r:α}(h:(bif c then a else none)=some r):c=true/\a=some r:=by cases c with|true=>exact⟨rfl,h⟩|false=>simp at h
theorem wJ{u:fA}{i:Nat}(hu:∀p∈u,p.1≠i):aC (u++h1) i=aC h1 i:=by induction u with|nil=>rfl|cons p u ih=>obtain⟨a,b⟩:=p;rw[bd,dF,if_neg (hu _ (du ..)),ih fun p hp=>hu p (aF _ hp)]
theorem rL.EP{s s':S2}{x:TV}{u:fA}{aB l:List Nat}{m:Nat}{v:V}(W:List Nat)(hr:HR s.next h1 s.heap)(eh:jp s.next s.heap s'.heap)(he:s'.dH=s.dH)(hg:s'.gh=s.gh)(hm:m<=s'.next)(hle:s.next<=s'.next)(hl:∀i∈aB,i∈l)
  (hwo:s'.wo=W++s.wo) (hu:∀p∈u,p.1∈W) (hW:∀id,id∉W->fO s'.heap id=fO s.heap id) (hob:∀i∈W,∀o,fO s'.heap i=some o->i<s'.next/\vK s'.heap o (aC (u++h1) i)/\CD s'.next s'.heap o)
  (hx:fX s'.heap v x) (hk:eY s'.next s'.heap v) (hnb:∀i,i<s.next->fO s.heap i=none->fO s'.heap i=none):rL s s' h1 x u aB m v l:=by
 refine⟨hx,hk,⟨fun i o ho=>?_⟩,eh,he,hg,hm,hle,hl,hnb,W,hwo,hu,hW⟩;by_cases hi:i∈W
 .exact hob i hi o ho
 .rw [hW i hi]at ho;obtain⟨a,b,c⟩:=hr.ob i o ho;refine⟨by omega,?_,oO hle eh c⟩;rw[wJ (u:=u) (i:=i) fun p hp e=>hi (e▸hu p hp)];exact p7 eh c b
def zX(h1:bM)(kk:K)(xs:List TV)(s:S2)(k:V->S2->List Nat->Option β)(z:β):Prop:=∃v s' l,k v s' l=some z/\∀c:Call,∃x u aB m,cL c kk (xs.map some) h1 s.next=some (x,u,aB,m)/\rL s s' h1 x u aB m v l
variable{s:S2}{k:V->S2->List Nat->Option β}{z:β}
theorem zX.pure{kk:K}{xs:List TV}{v:V}{x:TV}(hr:HR s.next h1 s.heap)(hz:k v s []=some z)(he:∀c:Call,cL c kk (xs.map some) h1 s.next=some (x,[],[],s.next))(hx:fX s.heap v x)(hk:eY s.next s.heap v):zX h1 kk xs s k z:=⟨v,s,[],hz,fun c=>⟨x,[],[],s.next,he c,rL.pure hr hx hk fun i hi=>by simp at hi⟩⟩
theorem qL{t:Ty}(h:CB t=true):kL t=true/\0<ce t:=by simpa[CB]using h
theorem zX.new{kk:K}{xs:List TV}{v:V}{x:TV}{o:O}{b:Option Ob}{l aB:List Nat}(hr:HR s.next h1 s.heap)(hz:k v (jy s o) l=some z)(he:∀c:Call,cL c kk (xs.map some) h1 s.next=some (x,[(s.next,b)],aB,s.next+1))
  (hb:vK ((s.next,some o)::s.heap) o b) (hko:CD (s.next+1) ((s.next,some o)::s.heap) o) (hx:fX ((s.next,some o)::s.heap) v x) (hk:eY (s.next+1) ((s.next,some o)::s.heap) v) (hl:∀i∈aB,i∈l):zX h1 kk xs s k z:=
 ⟨v,_,l,hz,fun c=>⟨x,_,aB,_,he c,rL.new hr (.inl rfl) (fun _=>hb) hko hx hk hl (aw _)⟩⟩
theorem zX.CL{kk:K}{xs:List TV}{v:V}{x:TV}{id:Nat}{o o':O}{b:Option Ob}{l aB:List Nat}(hr:HR s.next h1 s.heap)(ho:fO s.heap id=some o)(hs:te o o')(hz:k v (eB s id (some o')) l=some z)(he:∀c:Call,cL c kk (xs.map some) h1 s.next=some (x,[(id,b)],aB,s.next))
  (hb:vK ((id,some o')::s.heap) o' b) (hko:CD s.next ((id,some o')::s.heap) o') (hx:fX ((id,some o')::s.heap) v x) (hk:eY s.next ((id,some o')::s.heap) v) (hl:∀i∈aB,i∈l):zX h1 kk xs s k z:=
 ⟨v,_,l,hz,fun c=>⟨x,_,aB,_,he c,rL.CL hr ho hs hb hko hx hk hl⟩⟩
theorem uj(id:Nat)(o:Option O)(h:H2):fO ((id,o)::h) id=o:=by rw[c8,if_pos rfl]
theorem wH{t:Ty}{s:Sl (El t)}{v nx:Nat}:fX ((nx,some (.ar t s v))::h) (.so nx) (.c (mx (ce t) (a_ t) nx s)):=cu (dX rfl ⟨_,rfl,fun c' hc'=>by rw[uj]at hc';exact aa hc',BJ⟩)
theorem Ch{x:V}{y:TV}{sz:Nat}{lo hi:Option Int}{m:Int}{q:V->Option β}(hr:HR n h1 h)(hx:fX h x y)(hk:eY n h x)(ha:ir h x=true)(hm:FW h x=some m)(hz:ux sz h x (lo.getD 0) (hi.getD m) q=some z):
  ∃v c c',y=.c c/\q v=some z/\fQ false sz c lo hi=some c'/\fX h v (.c c')/\eY n h v:=by
 have iN:∀(id:Nat)(t:Ty)(w:Sl (El t))(ver:Nat),x=.so id->(fO h id=some (.ar t w ver)\/fO h id=some (.im t w ver))->(bif ce t==sz then(uy w.l (lo.getD 0) (hi.getD m)).bind fun y=>q (.sb id ver (lo.getD 0).toNat t (w.to y))else none)=some z->
   ∃v c c',y=.c c/\q v=some z/\fQ false sz c lo hi=some c'/\fX h v (.c c')/\eY n h v:=by
  rintro id t w ver rfl ho hz;obtain⟨h2,hz2⟩:=aR hz;obtain rfl:ce t=sz:=by simpa using h2
  obtain⟨r,hr',hz3⟩:=sG hz2;have e:=tf hx (mw ho);have hm':m=w.l.length:=by simp only[FW,ur]at hm;rcases ho with ho|ho<;>(rw[ho]at hm;exact(aa hm).symm)
  subst hm';refine⟨_,_,yD id (lo.getD 0).toNat t (w.to r),e,hz3,?_,?_,hk,?_⟩
  .cases w with|nil=>exact Lv hr'|mk l=>exact QV (enc:=a_ t) hr'
  .exact cu (dX rfl ⟨_,rfl,fun _=>rfl,JJ⟩)
  .intro u s' v' ho'
   have e2:L5 u s'=L5 t w/\v'=ver:=by
    rcases ho with ho|ho<;>rcases ho' with ho'|ho'<;>(rw[ho]at ho';simp at ho')
    all_goals
     obtain⟨rfl,e,rfl⟩:=ho';cases eq_of_heq e;exact⟨rfl,rfl⟩
   obtain⟨e2,rfl⟩:=e2;obtain⟨rfl,e2⟩:=jq e2;cases e2;refine⟨aw _,fun _=>⟨rfl,?_⟩⟩;cases s' with|nil=>trivial|mk l=>obtain⟨h3,h4⟩:=PE (enc:=a_ u) hr';simp only[aV]at h3;refine⟨h3,?_⟩;simpa using h4
 cases x with
 |x t v=>
  cases t with
  |sl t=>
   simp only[ux]at hz;obtain⟨h2,hz2⟩:=aR hz;obtain rfl:ce t=sz:=by simpa using h2
   obtain⟨r,hr',hz3⟩:=sG hz2;have hm':m=v.l.length:=by simpa[FW,ur]using hm.symm
   subst hm';refine⟨_,_,_,ym hx,hz3,PD hr',cu (dX rfl ⟨?_,rfl⟩),trivial⟩;obtain⟨_,⟨hd,_⟩,_⟩:=pm (v:=.x (.sl t) v) trivial hx;exact hd
  |_=>simp[ux]at hz
 |so id=>
  simp only[ux]at hz;split at hz
  .rename_i ho;exact iN id _ _ _ rfl (.inl ho) hz
  .rename_i ho;exact iN id _ _ _ rfl (.inr ho) hz
  .simp at hz
 |sb id ver off t v=>
  simp only[ux]at hz;obtain⟨h2,hz2⟩:=aR hz;obtain rfl:ce t=sz:=by simpa using h2
  obtain⟨r,hr',hz3⟩:=sG hz2;have hm':m=v.l.length:=by simpa[FW,ur]using hm.symm
  subst hm';refine⟨_,_,yD id (off+(lo.getD 0).toNat) t (v.to r),qP hx ha,hz3,?_,cu (dX rfl ⟨_,rfl,fun _=>rfl,JJ⟩),hk.1,?_⟩
  .cases v with|nil=>exact Lv hr'|mk l=>obtain⟨h3,rfl⟩:=pN.1 hr';simp only[Sl.l]at h3;simp only[yD,fQ,Bool.false_eq_true,if_false,Sl.to,Sl.l,aV];rw[if_pos ⟨trivial,h3⟩];simp;omega
  .intro u s' v' ho;obtain⟨h3,h4⟩:=hk.2 u s' v' ho;refine⟨h3,fun e=>?_⟩;obtain⟨h5,h6⟩:=h4 e;refine⟨h5,?_⟩;cases s' with
   |nil=>cases v<;>first|trivial|exact h6.elim
   |mk l=>
    cases v with
    |nil=>exact h6.elim
    |mk w=>
     obtain⟨h7,h8⟩:=h6;obtain⟨h9,rfl⟩:=pN.1 hr';simp only[Sl.l]at h9;show off+(lo.getD 0).toNat+((w.drop (lo.getD 0).toNat).take _).length<=l.length/\((l.map (a_ u)).drop (off+(lo.getD 0).toNat)).take ((w.drop (lo.getD 0).toNat).take _).length=((w.drop (lo.getD 0).toNat).take _).map (a_ t);generalize hA:(lo.getD 0).toNat=A;generalize hB:((hi.getD (Sl.l (Sl.mk w)).length).toNat-A)=B;have hle:A+B<=w.length:=by subst hA hB;simp only[Sl.l];omega
     have hlen:((w.drop A).take B).length=B:=by simp;omega
     refine⟨by omega,?_⟩;rw[hlen,gX,gm,<-h8,List.drop_take,dO,List.take_take];congr 1;omega
 |nl k=>
  cases k with
  |zero=>
   simp only[ux]at hz;obtain⟨r,hr',hz3⟩:=sG hz;have hm':m=0:=by simpa[FW]using hm.symm
   subst hm';exact⟨_,_,_,wl hx,hz3,Lv (α:=Unit) (by simpa[Sl.l]using hr'),cu (dX rfl rfl),trivial⟩
  |succ k=>simp[ux]at hz
 |_=>simp[ux]at hz
theorem Hb:∀(p:qw)(t a:Ty)(l m:Nat),rM t p=some (.ar l a)->m<l->Im t p->Im t (p++[.ix m])/\mW t (p++[.ix m])=mW t p+m*ce a:=by
 intro p;induction p with
 |nil=>
  intro t a l m h1 hm _;have e:rM t []=some t:=by cases t<;>rfl
  obtain rfl:t=.ar l a:=by rw[e]at h1;exact aa h1
  refine⟨⟨hm,by cases a<;>trivial⟩,?_⟩;simp only[bw,mW];cases a<;>simp[mW]
 |cons q p ih=>
  intro t a l m h1 hm h3;cases q with
  |fd j=>cases t with|st t=>obtain⟨b2,hb,h3⟩:=h3;simp only[rM,hb]at h1;obtain⟨q1,q2⟩:=ih b2 a l m h1 hm h3;refine⟨⟨b2,hb,q1⟩,?_⟩;simp only[bd,mW,hb,q2];exact(db _ _ _).symm|_=>exact h3.elim
  |ix k=>cases t with|ar l' t=>obtain⟨hk,h3⟩:=h3;obtain⟨q1,q2⟩:=ih t a l m h1 hm h3;refine⟨⟨hk,q1⟩,?_⟩;simp only[bd,mW,q2];exact(db _ _ _).symm|_=>exact h3.elim
theorem O0{id:Nat}{t u:Ty}{w:Sl (El t)}{w':Sl (El u)}{v v':Nat}(ho:fO h id=some (.ar t w v)\/fO h id=some (.im t w v))(ho':fO h id=some (.ar u w' v')\/fO h id=some (.im u w' v')):L5 u w'=L5 t w/\v'=v:=by
 rcases ho with ho|ho<;>rcases ho' with ho'|ho'<;>(rw[ho]at ho';simp at ho')
 all_goals
  obtain⟨rfl,e,rfl⟩:=ho';cases eq_of_heq e;exact⟨rfl,rfl⟩
theorem Ka{id:Nat}{t u:Ty}{w:Sl (El t)}{w':Sl (El u)}{v v':Nat}(ho:fO h id=some (.ar t w v)\/fO h id=some (.im t w v))(ho':fO h id=some (.ar u w' v')\/fO h id=some (.im u w' v')):w'.l.length=w.l.length:=by obtain⟨e,_⟩:=O0 ho ho';obtain⟨rfl,e⟩:=jq e;cases e;rfl
theorem N2{c:C}{t:Ty}{id m sz:Nat}{w:Sl (El t)}{i:Int}{kd:IntKind}{cl:Call}{nx:Nat}(hc:c=mx (ce t) (a_ t) id w)(hsz:ce t=sz)(hi:df i w.l.length=some m):
  cL cl (.indexAddr none sz) [some (.c c),some (tI kd i)] h1 nx=some (.c (.ep id m 0),[],[],nx):=by
 subst hc hsz;cases w with|nil=>exact KN hi|mk l=>exact TA hi
theorem QT{t:Ty}{v:El t}{x:TV}(hx:fX h (.x t v) x):kL t=true:=by obtain⟨_,⟨hd,_⟩,_⟩:=pm (v:=.x t v) trivial hx;exact hd
theorem TK{n':Nat}{t:Ty}{v:El (.ar n' t)}{x:TV}(hx:fX h (.x (.ar n' t) v) x):x=.agg ((a_ (.ar n' t) v).map .d):=by obtain⟨cs,⟨_,rfl⟩,h2,_⟩:=pm (v:=.x (.ar n' t) v) trivial hx;exact h2 rfl
theorem Ez{n' m:Nat}{t:Ty}(v:El (.ar n' t))(hm:m<n'):m*ce t+ce t<=(a_ (.ar n' t) v).length/\((a_ (.ar n' t) v).drop (m*ce t)).take (ce t)=a_ t (gt v.1 m):=by have hl:v.1.length=n':=v.2;refine⟨?_,zx (bV t) v.1 m (by omega)⟩;rw[bV];show _<=n'*ce t;have:(m+1)*ce t<=n'*ce t:=Nat.mul_le_mul_right _ hm;rw[b_,Nat.one_mul]at this;exact this
theorem KP{x:V}{y:TV}{sz:Nat}{i:Int}{kd:IntKind}
  (hz:(match x with
  |.x (.sl t) v=>bif ce t==sz then(df i v.l.length).bind fun m=>k (.pt t (gt v.l m)) s []else none
  |.so id=>(match ur s.heap (.so id)with|some ⟨t,v,_⟩=>bif ce t==sz then(df i v.l.length).bind fun m=>k (.ep id m t []) s []else none|none=>none)
  |.sb id _ lo t v=>bif ce t==sz then(df i v.l.length).bind fun m=>k (.ep id (lo+m) t []) s []else none
  |.sr id=>(match fO s.heap id with|some (.rw t v _)=>bif 1==sz then(df i v.l.length).bind fun m=>k (.ep id m (.sl t) []) s []else none|_=>none)
  |_=>none)=some z)
  (hr:HR s.next h1 s.heap) (hx:fX s.heap x y) (hk:eY s.next s.heap x) (ha:ir s.heap x=true):zX h1 (.indexAddr none sz) [y,tI kd i] s k z:=by
 cases x with
 |x t v=>
  cases t with
  |sl t=>
   simp only at hz;obtain⟨h2,hz2⟩:=aR hz;obtain⟨m,hm,hz3⟩:=sG hz2;obtain rfl:ce t=sz:=by simpa using h2
   rw[ym hx];exact .pure hr hz3 (x:=.c (.d (.pt (a_ t (gt (Sl.l v) m))))) (fun _=>QD hm) (cu (dX rfl ⟨QT (t:=.sl t) hx,rfl⟩)) trivial
  |_=>simp at hz
 |so id=>
  simp only at hz;split at hz
  .rename_i t v l hs;obtain⟨h2,hz2⟩:=aR hz;obtain⟨m,hm,hz3⟩:=sG hz2;obtain⟨ver,ho,_⟩:=uV hs;simp only at ho;rw[tf hx (mw ho)];refine .pure hr hz3 (x:=.c (.ep id m 0)) (fun _=>N2 rfl (by simpa using h2) hm) (cu (dX rfl (by cases t<;>rfl))) ⟨hk,by cases t<;>trivial,fun u w' v' ho'=>?_,fun u w' v' ho'=>?_⟩
   .have:=(fo.1 hm).2;rw[Ka ho ho'];exact this
   .rcases ho with ho|ho<;>rw[ho]at ho'<;>cases ho'
  .simp at hz
 |sr id=>
  simp only at hz;split at hz
  .rename_i t v ln ho;obtain⟨h2,hz2⟩:=aR hz;obtain⟨m,hm,hz3⟩:=sG hz2;rw[Jy hx (tj ho)];refine .pure hr hz3 (x:=.c (.ep id m 0)) (fun _=>N2 (t:=.sl t) rfl (Eq.trans (rfl:ce (.sl t)=1) (beq_iff_eq.1 h2)) hm) (cu (dX rfl rfl)) ⟨hk,trivial,fun u w' v' ho'=>?_,fun u w' v' ho'=>?_⟩
   .rw [ho]at ho';rcases ho' with ho'|ho'<;>cases ho'
   .rw [ho]at ho';cases ho';exact(fo.1 hm).2
  .simp at hz
 |sb id ver lo t v=>
  simp only at hz;obtain⟨h2,hz2⟩:=aR hz;obtain⟨m,hm,hz3⟩:=sG hz2;obtain rfl:ce t=sz:=by simpa using h2
  rw[qP hx ha];have hm2:=(fo.1 hm).2;cases v with
  |nil=>exact KN hm
  |mk w=>refine .pure hr hz3 (x:=.c (.ep id (lo+m) 0)) (fun _=>QE (l:=w) hm) (cu (dX rfl (by cases t<;>rfl))) ⟨hk.1,by cases t<;>trivial,fun u w' v' ho'=>?_,fun u w' v' ho'=>by obtain⟨u0,s0,ho⟩:=lL (h:=s.heap) (id:=id) (ver:=ver) (dm.1 ha).2;rcases ho with ho|ho<;>rw[ho]at ho'<;>cases ho'⟩;obtain⟨u0,s0,ho⟩:=lL (h:=s.heap) (id:=id) (ver:=ver) (dm.1 ha).2;obtain⟨_,h4⟩:=hk.2 u0 s0 ver ho;obtain⟨_,h6⟩:=h4 rfl;rw[Ka ho ho'];cases s0 with|nil=>exact h6.elim|mk l=>have:=h6.1;simp only[Sl.l]at hm2|-;omega
 |_=>simp at hz
theorem KO{x:V}{y:TV}{n0 sz:Nat}{i:Int}{kd:IntKind}
  (hz:(match x with
  |.op id t p=>(match rM t p with|some (.ar n' u)=>bif(n'==n0)&&(ce u==sz)then(df i n0).bind fun m=>k (.op id t (p++[.ix m])) s []else none|_=>none)
  |.ep id q t p=>(match rM t p with|some (.ar n' u)=>bif(n'==n0)&&(ce u==sz)then(df i n0).bind fun m=>k (.ep id q t (p++[.ix m])) s []else none|_=>none)
  |.pt (.ar n' u) v=>bif(n'==n0)&&(ce u==sz)then(df i n0).bind fun m=>k (.pt u (gt v.1 m)) s []else none
  |_=>none)=some z)
  (hr:HR s.next h1 s.heap) (hx:fX s.heap x y) (hk:eY s.next s.heap x):zX h1 (.indexAddr (some n0) sz) [y,tI kd i] s k z:=by
 cases x with
 |op id t p=>
  simp only at hz;split at hz
  .rename_i n' u hu;obtain⟨h2,hz2⟩:=aR hz;obtain⟨m,hm,hz3⟩:=sG hz2;simp only[ai,beq_iff_eq]at h2;obtain⟨rfl,rfl⟩:=h2;obtain⟨rfl,hm2⟩:=fo.1 hm;obtain⟨q1,q2⟩:=Hb p t u n' m hu hm2 hk.2;rw[wj hx];refine .pure hr hz3 (x:=.c (.op id (mW t p+m*ce u))) (fun _=>?_) (cu (dX rfl ?_)) ⟨hk.1,q1⟩
   .simp only[mo,cL,cD,iI];rw[if_pos ⟨by omega,by omega⟩];simp
   .show [_]=[_];rw[q2]
  .simp at hz
 |ep id q t p=>
  simp only at hz;split at hz
  .rename_i n' u hu;obtain⟨h2,hz2⟩:=aR hz;obtain⟨m,hm,hz3⟩:=sG hz2;simp only[ai,beq_iff_eq]at h2;obtain⟨rfl,rfl⟩:=h2;obtain⟨rfl,hm2⟩:=fo.1 hm;obtain⟨q1,q2⟩:=Hb p t u n' m hu hm2 hk.2.1;rw[tg hx];refine .pure hr hz3 (x:=.c (.ep id q (mW t p+m*ce u))) (fun _=>?_) (cu (dX rfl ?_)) ⟨hk.1,q1,hk.2.2⟩
   .simp only[mo,cL,cD,iI];rw[if_pos ⟨by omega,by omega⟩];simp
   .show [_]=[_];rw[q2]
  .simp at hz
 |pt t v=>cases t with|ar n' u=>simp only at hz;obtain⟨h2,hz2⟩:=aR hz;obtain⟨m,hm,hz3⟩:=sG hz2;simp only[ai,beq_iff_eq]at h2;obtain⟨rfl,rfl⟩:=h2;obtain⟨rfl,hm2⟩:=fo.1 hm;obtain⟨hd,rfl⟩:=yn hx;obtain⟨a1,a2⟩:=Ez v hm2;refine .pure hr hz3 (x:=.c (.d (.pt (a_ u (gt v.1 m))))) (fun _=>?_) (cu (dX rfl ⟨hd,rfl⟩)) trivial;simp only[mo,cL,cD,iI];rw[if_pos ⟨by omega,by omega⟩];simp only[nA];rw[if_pos a1,a2]|_=>simp at hz
 |_=>simp at hz
end
section
variable{h:H2}{n:Nat}{h1:bM}{β:Type}{s:S2}{k:V->S2->List Nat->Option β}{z:β}
theorem Cl{t u:Ty}{m:Sl (El t)}{m':Sl (El u)}(hc:gH (.sl t) (.sl u) m=some m'):t=u/\m'.l.map (a_ u)=m.l.map (a_ t):=by obtain⟨e,rfl⟩:=dq hc;cases e;exact⟨rfl,rfl⟩
theorem OG{c:C}{t:Ty}{id sz:Nat}{w:Sl (El t)}{ver:Nat}(hr:HR n h1 h)(hc:c=mx (ce t) (a_ t) id w)(hsz:ce t=sz)(ho:fO h id=some (.ar t w ver)\/fO h id=some (.im t w ver)):
  ∃aB,jf sz h1 c=some (w.l.map (a_ t),aB)/\∀i∈aB,i=id:=by
 subst hc hsz;cases w with
 |nil=>exact⟨[],rfl,fun i hi=>by simp at hi⟩
 |mk l=>
  refine⟨[id],?_,fun i hi=>by simpa using hi⟩;rcases ho with ho|ho
  .have hb:=(hr.ob id _ ho).2.1.2.2 l rfl;simp only[mx,jf,hb];rw[if_pos ⟨trivial,by simp⟩,uk];rfl
  .have hb:=(hr.ob id _ ho).2.1.2.2 l rfl;simp only[mx,jf,hb];rw[if_pos ⟨trivial,by simp⟩,uk];rfl
theorem My{id lo ver sz:Nat}{t:Ty}{r:Sl (El t)}(hr:HR n h1 h)(hk:eY n h (.sb id ver lo t r))(ha:ir h (.sb id ver lo t r)=true)(hsz:ce t=sz):
  ∃aB,jf sz h1 (yD id lo t r)=some (r.l.map (a_ t),aB)/\∀i∈aB,i=id:=by
 subst hsz;obtain⟨u,s0,ho⟩:=lL (h:=h) (id:=id) (ver:=ver) (dm.1 ha).2;obtain⟨_,h4⟩:=hk.2 u s0 ver ho;obtain⟨h5,h6⟩:=h4 rfl;cases r with
 |nil=>exact⟨[],rfl,fun i hi=>by simp at hi⟩
 |mk w=>
  cases s0 with
  |nil=>exact h6.elim
  |mk l=>
   refine⟨[id],?_,fun i hi=>by simpa using hi⟩
   have hb:aC h1 id=some (.aP (ce u) (l.map (a_ u)))\/aC h1 id=some (.qc (ce u) (l.map (a_ u))):=by
    rcases ho with ho|ho
    .exact .inl ((hr.ob id _ ho).2.1.2.2 l rfl)
    .exact .inr ((hr.ob id _ ho).2.1.2.2 l rfl)
   rcases hb with hb|hb
   .simp only[yD,jf,hb];rw[if_pos ⟨trivial,by simpa using h6.1⟩];rw[aV,h6.2];rfl
   .simp only[yD,jf,hb];rw[if_pos ⟨trivial,by simpa using h6.1⟩];rw[aV,h6.2];rfl
theorem GU{x:V}{y:TV}{t0 t:Ty}{m:Sl (El t)}{l:List Nat}{sz:Nat}(hr:HR n h1 h)(hx:fX h x y)(hk:eY n h x)(ha:ir h x=true)(hs:JH t0 h x=some ⟨t,m,l⟩)(hsz:ce t=sz):
  ∃c aB,y=.c c/\jf sz h1 c=some (m.l.map (a_ t),aB)/\∀i∈aB,i∈l:=by
 cases x with
 |nl j=>cases j with|zero=>simp only[JH]at hs;obtain⟨rfl,e⟩:=jq (aa hs);obtain⟨rfl,rfl⟩:=ad (eq_of_heq e);exact⟨_,[],wl hx,rfl,fun i hi=>by simp at hi⟩|succ j=>simp[JH,ur]at hs
 |x u v=>cases u with|sl u=>simp only[JH,ur]at hs;obtain⟨rfl,e⟩:=jq (aa hs);obtain⟨rfl,rfl⟩:=ad (eq_of_heq e);subst hsz;exact⟨_,[],ym hx,Mx,fun i hi=>by simp at hi⟩|_=>simp[JH,ur]at hs
 |so id=>obtain⟨ver,ho,e⟩:=uV (h:=h) (id:=id) hs;obtain rfl:l=[id]:=e;obtain⟨aB,q1,q2⟩:=OG hr rfl hsz ho;exact⟨_,aB,tf hx (mw ho),q1,fun i hi=>by simpa using q2 i hi⟩
 |sb id ver lo u r=>simp only[JH,ur]at hs;obtain⟨rfl,e⟩:=jq (aa hs);obtain⟨rfl,rfl⟩:=ad (eq_of_heq e);obtain⟨aB,q1,q2⟩:=My hr hk ha hsz;exact⟨_,aB,qP hx ha,q1,fun i hi=>by simpa using q2 i hi⟩
 |_=>simp[JH,ur]at hs
def uF(s:S2):Option Nat->S2
 |none=>s
 |some id=>eB s id none
theorem Cr{mg:Option Nat}{t:Ty}{w:Sl (El t)}{u:fA}{aB l:List Nat}{m:Nat}(hr:HR s.next h1 s.heap)(hkl:∀id,mg=some id->id<s.next)(hd:CB t=true)(hu:∀p∈u,p.1=s.next\/mg=some p.1)(hl:∀i∈aB,i∈l)(hm:m<=s.next+1)
  (hb:∀l,w=.mk l->aC (u++h1) s.next=some (.aP (ce t) (l.map (a_ t)))) {x:TV} (hx:x=.c (mx (ce t) (a_ t) s.next w)):rL s (jy (uF s mg) (.ar t w 0)) h1 x u aB m (.so s.next) l:=by
 have hnx:(uF s mg).next=s.next:=by cases mg<;>rfl
 have hh:(jy (uF s mg) (.ar t w 0)).heap=(s.next,some (.ar t w 0))::(uF s mg).heap:=by simp only[jy,hnx]
 have hfo:∀i,fO (jy (uF s mg) (.ar t w 0)).heap i=if s.next=i then some (.ar t w 0)else if mg=some i then none else fO s.heap i:=by intro i;rw[hh,c8];cases mg with|none=>simp[uF]|some id=>simp only[uF,eB,c8,bE]
 have hnn:(jy (uF s mg) (.ar t w 0)).next=s.next+1:=by simp only[jy,hnx]
 refine rL.EP (s.next::mg.toList) hr ⟨fun i o' hi ho=>?_⟩ ?_ ?_ ?_ ?_ hl ?_ ?_ ?_ ?_ ?_ ?_ (fun i hi h=>by rw[hfo,if_neg (by omega)];split<;>first|rfl|exact h)
 .rw [hfo,if_neg (by omega)]at ho;split at ho
  .simp at ho
  .exact .inl ⟨o',ho,te.refl _⟩
 .cases mg<;>rfl
 .cases mg<;>rfl
 .rw [hnn];exact hm
 .rw [hnn];omega
 .cases mg<;>simp[jy,uF,eB]
 .intro p hp;rcases hu p hp with e|e
  .simp [e]
  .simp [e]
 .intro i hi;rw[hfo,if_neg (fun e=>hi (by simp[e])),if_neg (fun e=>hi (by simp[e]))]
 .intro i hi o ho;rw[hfo]at ho;split at ho
  .rename_i e;subst e;obtain rfl:=aa ho;obtain⟨h3,h4⟩:=qL hd;exact⟨by rw[hnn];omega,⟨h3,h4,hb⟩,trivial⟩
  .rename_i e;split at ho
   .simp at ho
   .rename_i e2;rcases aQ.1 hi with hi|hi
    .exact absurd hi.symm e
    .exact absurd (by simpa using hi) e2
 .rw [hx,hh,show s.next=s.next from rfl];exact wH
 .rw [hnn];exact bl _
theorem IQ{sz:Nat}{c:C}{new:List (List D)}{aB:List Nat}(hx:jf sz h1 c=some (new,aB))(hl:new.length<=2147483648){nx:Nat}{cl:Call}:
  cL cl (.append sz) [some (.c (.d (.lit (.slice none 0 0)))),some (.c c)] h1 nx=if new=[]then some (.c (.d (.lit (.slice none 0 0))),[],aB,nx)else some (.c (.fh sz nx 0 new.length),[(nx,some (.aP sz new))],aB,nx+1):=by
 simp only[cL,oX,hx];rw[if_pos (by simpa[DR]using hl)];cases new<;>simp
theorem v7{mg:Option Nat}{t:Ty}{xs r:List (El t)}{sz:Nat}{c:C}{aB l:List Nat}(hr:HR s.next h1 s.heap)(hkl:∀id,mg=some id->id<s.next)(hd:CB t=true)(hsz:ce t=sz)(hx:jf sz h1 c=some (xs.map (a_ t),aB))(hc:fF ([]++xs)=some r)
  (hl:∀i∈aB,i∈l) (hz:k (.so s.next) (jy (uF s mg) (.ar t (rI Sl.nil xs r) 0)) l=some z):zX h1 (.append sz) [.c (.d (.lit (.slice none 0 0))),.c c] s k z:=by
 subst hsz;obtain⟨rfl,hlen⟩:=w7.1 hc;refine⟨_,_,_,hz,fun cl=>?_⟩;simp only[aD,bh];rw[IQ hx (by simpa using hlen)];cases xs with|nil=>exact⟨_,_,_,_,rfl,Cr hr hkl hd (fun p hp=>by simp at hp) hl (bQ _) (fun l e=>by cases e) rfl⟩|cons y ys=>refine⟨_,_,_,_,if_neg (by simp),Cr hr hkl hd (fun p hp=>by simp at hp;simp[hp]) hl (aw _) (fun l e=>?_) rfl⟩;simp only[rI,bw]at e;cases e;rw[bn,dF,if_pos rfl]
theorem Hs{t:Ty}{w xs r:List (El t)}{sz id off:Nat}{ao:List (List D)}{c:C}{aB l:List Nat}(hr:HR s.next h1 s.heap)(hid:id<s.next)(hd:CB t=true)(hsz:ce t=sz)(hl1:aC h1 id=some (.aP sz ao))(hle:off+w.length<=ao.length)(hro:ao.length<=off+(w.length+xs.length))(he:(ao.drop off).take w.length=w.map (a_ t))
  (hx:jf sz h1 c=some (xs.map (a_ t),aB)) (hc:fF (w++xs)=some r) (hl:∀i∈id::aB,i∈l) (hz:k (.so s.next) (jy (eB s id none) (.ar t (rI (.mk w) xs r) 0)) l=some z):
  zX h1 (.append sz) [.c (.fh sz id off (w.map (a_ t)).length),.c c] s k z:=by
 subst hsz;obtain⟨rfl,hlen⟩:=w7.1 hc;have ea:rI (.mk w) xs (w++xs)=.mk (w++xs):=by cases xs<;>rfl
 rw[ea]at hz;refine⟨_,_,_,hz,fun cl=>⟨.c (.fh (ce t) s.next 0 ((w++xs).map (a_ t)).length),[(id,none),(s.next,some (.aP (ce t) ((w++xs).map (a_ t))))],id::aB,s.next+1,?_,?_⟩⟩
 .simp only[aD,bh,cL,oX,hx,hl1];simp only[aV,ap]at hlen|-;rw[if_pos ⟨trivial,by omega,by simpa[DR]using hlen⟩,he,<-iq,List.drop_eq_nil_of_le (by omega),List.append_nil]
 .refine Cr (mg:=some id) hr (fun i e=>by cases e;exact hid) hd (fun p hp=>?_) hl (aw _) (fun l e=>?_) rfl
  .simp only[aQ,gO,or_false]at hp;rcases hp with rfl|rfl<;>simp
  .cases e;rw[bd,dF,if_neg (by omega),bn,dF,if_pos rfl]
theorem EB{a x:V}{ya yx:TV}{t0:Ty}{sz:Nat}
  (hz:(match JH t0 s.heap x with
  |some ⟨t,m,aB⟩=>bif(ce t==sz)&&CB t then(match a with
   |.nl 0=>(fF ([]++m.l)).bind fun r=>k (.so s.next) (jy s (.ar t (rI Sl.nil m.l r) 0)) aB
   |.x (.sl _) v=>bif Sl.fM v then((fF ([]++m.l)).bind fun r=>k (.so s.next) (jy s (.ar t (rI Sl.nil m.l r) 0)) aB)else none
   |.so id=>(match fO s.heap id with
    |some (.ar u v _)=>(match gH (.sl t) (.sl u) m with
     |some m=>(fF (v.l++m.l)).bind fun r=>k (.so s.next) (jy (eB s id none) (.ar u (rI v m.l r) 0)) (id::aB)
     |none=>none)
    |_=>none)
   |.sb id _ lo u v=>(match fO s.heap id,gH (.sl t) (.sl u) m with
    |some (.ar _ s0 _),some m=>bif Nat.ble s0.l.length (lo+(v.l.length+m.l.length))then((fF (v.l++m.l)).bind fun r=>k (.so s.next) (jy (eB s id none) (.ar u (rI v m.l r) 0)) (id::aB))else none
    |_,_=>none)
   |_=>none)else none
  |none=>none)=some z)
  (hr:HR s.next h1 s.heap) (ha1:fX s.heap a ya) (ha2:eY s.next s.heap a) (ha3:ir s.heap a=true) (hx:fX s.heap x yx) (hk:eY s.next s.heap x) (ha:ir s.heap x=true):zX h1 (.append sz) [ya,yx] s k z:=by
 split at hz
 .rename_i t m l hs;obtain⟨h2,hz2⟩:=aR hz;simp only[ai,beq_iff_eq]at h2;obtain⟨hsz,hd⟩:=h2;obtain⟨c,aB,rfl,q1,q2⟩:=GU hr hx hk ha hs hsz;clear hz;cases a with
  |nl j=>cases j with|zero=>obtain⟨r,hc,hz3⟩:=sG hz2;rw[wl ha1];exact v7 (mg:=none) hr (fun _ e=>by cases e) hd hsz q1 hc q2 hz3|succ j=>simp at hz2
  |x u v=>
   cases u with
   |sl u=>obtain⟨hnil,hz3⟩:=aR hz2;obtain⟨r,hc,hz4⟩:=sG hz3;cases v with|mk=>cases hnil|nil=>obtain⟨cc,rfl,hcc⟩:=jk (v:=.x (.sl u) Sl.nil) ha1 rfl;obtain rfl:cc=DJ 0:=(List.cons.inj hcc.2).1;exact v7 (mg:=none) hr (fun _ e=>by cases e) hd hsz q1 hc q2 hz4
   |_=>simp at hz2
  |so id=>
   simp only at hz2;split at hz2
   .rename_i u v ver ho;split at hz2
    .rename_i m' hm;obtain⟨rfl,e⟩:=Cl hm;obtain⟨r,hc,hz3⟩:=sG hz2;rw[tf ha1 (mw (.inl ho))];rw[<-e]at q1;cases v with
     |nil=>exact v7 (mg:=some id) hr (fun _ e=>by cases e;exact ha2) hd hsz q1 hc (fun i hi=>aF _ (q2 i hi)) hz3
     |mk w=>
      have hb:=(hr.ob id _ ho).2.1.2.2 w rfl;subst hsz;refine Hs (w:=w) hr ha2 hd rfl hb (by simp) (by simp only[aV];omega) (by rw[<-aV (f:=a_ t)];exact uk) q1 hc (fun i hi=>?_) hz3;rcases aQ.1 hi with rfl|hi
      .exact du ..
      .exact aF _ (q2 i hi)
    .simp at hz2
   .simp at hz2
  |sb id ver lo u v=>
   simp only at hz2;split at hz2
   .rename_i u0 s0 v0 m' ho hm;obtain⟨rfl,e⟩:=Cl hm;obtain⟨hgd,hz2b⟩:=aR hz2;obtain⟨r,hc,hz3⟩:=sG hz2b;rw[qP ha1 ha3];rw[<-e]at q1;cases v with
    |nil=>exact v7 (mg:=some id) hr (fun _ e=>by cases e;exact ha2.1) hd hsz q1 hc (fun i hi=>aF _ (q2 i hi)) hz3
    |mk w=>
     obtain⟨u1,s1,ho1⟩:=lL (h:=s.heap) (id:=id) (ver:=ver) (dm.1 ha3).2;obtain⟨_,h4⟩:=ha2.2 u1 s1 ver ho1;obtain⟨h5,h6⟩:=h4 rfl
     have ho2:fO s.heap id=some (.ar u1 s1 ver):=by
      rcases ho1 with ho1|ho1
      .exact ho1
      .rw [ho]at ho1;simp at ho1
     cases s1 with
     |nil=>exact h6.elim
     |mk l1=>
      have hb:=(hr.ob id _ ho2).2.1.2.2 l1 rfl;subst hsz;rw[h5]at hb
      refine Hs (w:=w) hr ha2.1 hd rfl hb (by simpa using h6.1) (by
       rw[ho2]at ho;obtain⟨rfl,e2,_⟩:u1=u0/\_:=by simpa using ho
       cases eq_of_heq e2;have:=iZ hgd;simpa[Sl.l]using this) h6.2 q1 hc (fun i hi=>?_) hz3
      rcases aQ.1 hi with rfl|hi
      .exact du ..
      .exact aF _ (q2 i hi)
   .simp at hz2
  |_=>simp at hz2
 .simp at hz
end
section
variable{h:H2}{n:Nat}{h1:bM}{β:Type}{s:S2}{k:V->S2->List Nat->Option β}{z:β}
theorem GK{id:Nat}{o o':O}{u:fA}{x:TV}{v:V}{aB l:List Nat}(hr:HR s.next h1 s.heap)(ho:fO s.heap id=some o)(hs:te o o')(hu:∀p∈u,p.1=id)(hb:vK ((id,some o')::s.heap) o' (aC (u++h1) id))(hko:CD s.next ((id,some o')::s.heap) o')
  (hx:fX ((id,some o')::s.heap) v x) (hk:eY s.next ((id,some o')::s.heap) v) (hl:∀i∈aB,i∈l):rL s (eB s id (some o')) h1 x u aB s.next v l:=by
 refine rL.EP [id] hr (jp.CL ho hs) rfl rfl (aw _) (aw _) hl rfl (fun p hp=>by simp[hu p hp]) (fun i hi=>?_) (fun i hi o2 ho2=>?_) hx hk (fun i _ h=>by simp only[eB];rw[c8,if_neg (fun e=>by rw[e,h]at ho;cases ho)];exact h)
 .simp only[eB];rw[c8,if_neg fun e=>hi (by simp[e])]
 .obtain rfl:=av.1 hi;simp only[eB,uj]at ho2;obtain rfl:=aa ho2;exact⟨(hr.ob _ _ ho).1,hb,hko⟩
theorem sI{id ver:Nat}{t:Ty}{w w':Sl (El t)}{u:fA}{x:TV}{v:V}{aB l:List Nat}(hr:HR s.next h1 s.heap)(ho:fO s.heap id=some (.ar t w ver))(hn:w.fM=w'.fM)(hlen:w.l.length=w'.l.length)(hu:∀p∈u,p.1=id)
  (hb:∀l,w'=.mk l->aC (u++h1) id=some (.aP (ce t) (l.map (a_ t)))) (hx:∀g,fX g v x) (hk:∀n g,eY n g v) (hl:∀i∈aB,i∈l):rL s (eB s id (some (.ar t w' (ver+1)))) h1 x u aB s.next v l:=by
 obtain⟨h2,h3,_⟩:=(hr.ob id _ ho).2.1;exact GK hr ho ⟨bQ _,rfl,hn,hlen,fun e=>by omega⟩ hu ⟨h2,h3,hb⟩ trivial (hx _) (hk _ _) hl
theorem I0{a x:V}{ya yx:TV}{t0:Ty}{sz:Nat}
  (hz:(match JH t0 s.heap x with
  |some ⟨t,m,aB⟩=>bif ce t==sz then(match a with
   |.nl 0=>k (.x (.i .i64) (0:Int)) s aB
   |.so id=>(match fO s.heap id with
    |some (.ar u v ver)=>(match gH (.sl t) (.sl u) m with
     |some m=>k (.x (.i .i64) ((min m.l.length v.l.length:Nat):Int)) (eB s id (some (.ar u (v.to (Ly v.l 0 v.l.length m.l)) (ver+1)))) (id::aB)
     |none=>none)
    |_=>none)
   |.sb id ver lo _ v=>(match fO s.heap id with
    |some (.ar u w ver')=>(match gH (.sl t) (.sl u) m with
     |some m=>bif ver'==ver then k (.x (.i .i64) ((min m.l.length v.l.length:Nat):Int)) (eB s id (some (.ar u (w.to (Ly w.l lo v.l.length m.l)) (ver+1)))) (id::aB)else none
     |none=>none)
    |_=>none)
   |_=>none)else none
  |none=>none)=some z)
  (hr:HR s.next h1 s.heap) (ha1:fX s.heap a ya) (ha2:eY s.next s.heap a) (ha3:ir s.heap a=true) (hx:fX s.heap x yx) (hk:eY s.next s.heap x) (ha:ir s.heap x=true):zX h1 (.copy sz) [ya,yx] s k z:=by
 have hmem:∀{id:Nat}{aB l:List Nat},(∀i∈aB,i∈l)->∀i∈id::aB,i∈id::l:=fun q i hi=>by
  rcases aQ.1 hi with rfl|hi
  .exact du ..
  .exact aF _ (q i hi)
 split at hz
 .rename_i t m l hs;obtain⟨h2,hz2⟩:=aR hz;obtain rfl:ce t=sz:=by simpa using h2
  obtain⟨c,aB,rfl,q1,q2⟩:=GU hr hx hk ha hs rfl;clear hz;cases a with
  |nl j=>cases j with|zero=>rw[wl ha1];exact⟨_,_,_,hz2,fun cl=>⟨tI .i64 0,[],aB,s.next,by simp only[aD,bh,cL,mD,DJ,q1];rfl,rL.pure hr (xi _ _) trivial q2⟩⟩|succ j=>simp at hz2
  |so id=>
   simp only at hz2;split at hz2
   .rename_i u v ver ho;split at hz2
    .rename_i m' hm;obtain⟨rfl,e⟩:=Cl hm;rw[tf ha1 (mw (.inl ho))];rw[<-e]at q1;cases v with
     |nil=>refine⟨_,_,_,hz2,fun cl=>⟨tI .i64 0,[],aB,s.next,by simp only[aD,bh,cL,mD,mx,q1];rfl,?_⟩⟩;exact sI hr ho rfl rfl (fun p hp=>by simp at hp) (fun l e=>by cases e) (fun g=>by simpa[Sl.l]using xi .i64 0) (fun _ _=>trivial) fun i hi=>aF _ (q2 i hi)
     |mk w=>
      have hb:=(hr.ob id _ ho).2.1.2.2 w rfl;refine⟨_,_,_,hz2,fun cl=>⟨_,_,_,_,PF hb q1,?_⟩⟩;refine sI hr ho rfl ?_ (fun p hp=>by simp at hp;simp[hp]) (fun l e=>?_) (fun g=>xi _ _) (fun _ _=>trivial) (hmem q2)
      .simp only[Sl.to,Sl.l];rw[vg (by omega)]
      .simp only[Sl.to,Sl.l]at e;cases e;rw[bn,dF,if_pos rfl];rfl
    .simp at hz2
   .simp at hz2
  |sb id ver lo u0 v=>
   simp only at hz2;split at hz2
   .rename_i u w ver' ho;split at hz2
    .rename_i m' hm;obtain⟨rfl,e⟩:=Cl hm;obtain⟨h3,hz3⟩:=aR hz2;obtain rfl:ver'=ver:=by simpa using h3
     rw[qP ha1 ha3];rw[<-e]at q1;obtain⟨_,h4⟩:=ha2.2 t w ver' (.inl ho);obtain⟨h5,h6⟩:=h4 rfl;cases v with
     |nil=>cases w with|mk w=>exact h6.elim|nil=>refine⟨_,_,_,hz3,fun cl=>⟨tI .i64 0,[],aB,s.next,by simp only[aD,bh,cL,mD,yD,q1];rfl,?_⟩⟩;exact sI hr ho rfl rfl (fun p hp=>by simp at hp) (fun l e=>by cases e) (fun g=>by simpa[Sl.l]using xi .i64 0) (fun _ _=>trivial) fun i hi=>aF _ (q2 i hi)
     |mk v=>
      cases w with
      |nil=>exact h6.elim
      |mk w=>
       have hb:=(hr.ob id _ ho).2.1.2.2 w rfl;refine⟨_,_,_,hz3,fun cl=>⟨tI .i64 (min m'.l.length v.length:Nat),[(id,some (.aP (ce t) ((Ly w lo v.length m'.l).map (a_ t))))],id::aB,s.next,?_,?_⟩⟩
       .simp only[aD,bh,cL,mD,yD,q1,hb,<-h5];rw[if_pos ⟨trivial,by simpa using h6.1⟩];simp only[Gl,aV];rfl
       .refine sI hr ho rfl ?_ (fun p hp=>by simp at hp;simp[hp]) (fun l e=>?_) (fun g=>xi _ _) (fun _ _=>trivial) (hmem q2)
        .simp only[Sl.to,Sl.l];rw[vg h6.1]
        .simp only[Sl.to,Sl.l]at e;cases e;rw[bn,dF,if_pos rfl];rfl
    .simp at hz2
   .simp at hz2
  |_=>simp at hz2
 .simp at hz
theorem CO{g:H2}:fX g (.tp .ni) (.iP []):=⟨[],rfl,rfl⟩
theorem Gt{a:V}{ya:TV}{zz:List Value}
  (hz:(match a with
  |.sb id ver lo _ v=>(match fO s.heap id with
   |some (.ar u w ver')=>bif(ver'==ver)&&uq (nE u) zz&&CB u then(Nt w lo v.l.length (sX u)).bind fun w=>k (.tp .ni) (eB s id (some (.ar u w (ver+1)))) [id]else none
   |_=>none)
  |_=>none)=some z)
  (hr:HR s.next h1 s.heap) (ha1:fX s.heap a ya) (ha2:eY s.next s.heap a) (ha3:ir s.heap a=true):zX h1 (.clear zz) [ya] s k z:=by
 cases a with
 |sb id ver lo u0 v=>
  simp only at hz;split at hz
  .rename_i u w ver' ho;obtain⟨h3,hz2⟩:=aR hz;simp only[ai,beq_iff_eq]at h3;obtain⟨⟨rfl,q1⟩,q2⟩:=h3;have q1:=rQ q1;subst q1;obtain⟨hd,_⟩:=qL q2;obtain⟨w',hw,hz3⟩:=sG hz2;rw[qP ha1 ha3];obtain⟨_,h4⟩:=ha2.2 u w ver' (.inl ho);obtain⟨h5,h6⟩:=h4 rfl;have hzl:dk (nE u)=a_ u (sX u):=(rP u hd).symm;have hlen:ce u=(nE u).length:=by have:=congrArg List.length hzl;rw[bV,dk,aV]at this;exact this.symm
   cases w with
   |nil=>simp[Nt]at hw
   |mk w=>
    cases v with
    |nil=>exact h6.elim
    |mk v=>
     simp only[Nt,bE]at hw;subst hw;have hb:=(hr.ob id _ ho).2.1.2.2 w rfl;refine⟨_,_,_,hz3,fun cl=>⟨.iP [],[(id,some (.aP (ce u) ((Ly w lo v.length (aA v.length (sX u))).map (a_ u))))],[id],s.next,?_,?_⟩⟩
     .simp only[aD,bh,cL,pF,yD,hb,<-h5];rw[if_pos ⟨hlen,by simpa using h6.1⟩,hzl,<-Gl];simp[aV,List.map_replicate,List.take_of_length_le]
     .refine sI hr ho rfl ?_ (fun p hp=>by simp at hp;simp[hp]) (fun l e=>?_) (fun g=>CO) (fun _ _=>trivial) (fun i hi=>hi)
      .simp only[Sl.l];rw[vg (by simpa using h6.1)]
      .cases e;rw[bn,dF,if_pos rfl];rfl
  .simp at hz
 |_=>simp at hz
theorem CQ{id m:Nat}{t:Ty}{p:qw}{w:V}{ya yw:TV}(hr:HR s.next h1 s.heap)(ha1:fX s.heap (.op id t p) ya)(ha2:eY s.next s.heap (.op id t p))(hx:fX s.heap w yw)(hk:eY s.next s.heap w)
  (hz:(bif(yr w==m)then(match fO s.heap id with
  |some (.bx u c)=>bif decide (u=t)then(match rM t p with
   |some a=>(match L3 a w with
    |some w=>(match o6 c p w with|some c=>bif eG c false t then k (.tp .ni) (eB s id (some (.bx t c))) [id]else none|none=>none)
    |none=>none)
   |none=>none)else none
  |_=>none)else none)=some z):zX h1 (.store m) [ya,yw] s k z:=by
 obtain⟨h2,hz2⟩:=aR hz;simp only[beq_iff_eq]at h2;clear hz;split at hz2
 .rename_i u c ho;obtain⟨h3,hz3⟩:=aR hz2;simp only[decide_eq_true_eq]at h3;subst h3;clear hz2;split at hz3
  .rename_i a ha;split at hz3
   .rename_i w' hw;split at hz3
    .rename_i c' hc;obtain⟨h4,hz4⟩:=aR hz3;obtain⟨cw,e1,e2⟩:=rj (pm (FO hw) hx);obtain⟨q1,q2,q3,q4⟩:=yW hw e1 hk;obtain⟨_,⟨cs,e3,e4,e5⟩,e6⟩:=hr.ob id _ ho;have l1:cw.length=yr w:=iz e1;have l2:cw.length=ce a:=by rw[iz q1,gN _ _ _ q2]
     have l3:cs.length=ce u:=by rw[iz e4,gN _ _ _ e5]
     have l4:=wG p u a ha ha2.2;have q5:=wu p c u w' c' cs cw a e5 e4 ha2.2 hc ha q1 l2;have q6:=GQ p c w' c' e6 q3 hc;rw[wj ha1];have hos:te (.bx u c) (.bx u c'):=rfl;refine .CL hr ho hos hz4 (fun cl=>?_) (b:=some (.box (bg cs (mW u p) cw))) ?_ ?_ CO trivial (aB:=[id]) fun i hi=>hi
     .simp only[aD,bh,cL,mu,e2];rw[if_pos (l1.trans h2)];simp only[e3];rw[if_pos (by omega)]
     .exact ⟨_,rfl,lK (jp.CL ho hos) q6 q5,h4⟩
     .exact gK (aw _) (jp.CL ho hos) q6
    .simp at hz3
   .simp at hz3
  .simp at hz3
 .simp at hz2
theorem rL.seq{s1 s':S2}{fu u:fA}{x:TV}{aB a l:List Nat}{m:Nat}{v:V}(eh:jp s.next s.heap s1.heap)(he:s1.dH=s.dH)(hg:s1.gh=s.gh)(hn:s1.next=s.next)(hwo:s1.wo=a++s.wo)(hu:∀p∈fu,p.1∈a)(hf:∀id,id∉a->fO s1.heap id=fO s.heap id)
  (hna:∀i∈a,fO s.heap i≠none) (hd:rL s1 s' (fu++h1) x u aB m v l):rL s s' h1 x (u++fu) aB m v l:=by
 obtain⟨d1,d2,d3,d4,d5,d6,d7,d8,d9,d10,W,w1,w2,w3⟩:=hd;refine⟨d1,d2,by rw[aH];exact d3,jp.trans (Nat.le_of_eq hn.symm) eh d4,d5.trans he,d6.trans hg,d7,by omega,d9,fun i hi h=>d10 i (by omega) ((hf i fun q=>hna i q h).trans h),W++a,by rw[w1,hwo,aH],fun p hp=>?_,fun i hi=>?_⟩
 .rcases au.1 hp with hp|hp
  .exact aG _ (w2 p hp)
  .exact aI _ (hu p hp)
 .rw [w3 i fun q=>hi (aG _ q),hf i fun q=>hi (aI _ q)]
theorem La{v w:V}{l:List Nat}(hf:jg h v=some (w,l)):MJ v:=by cases v<;>first|trivial|(simp[jg]at hf)
theorem p8{a b:List D}(e:a.map C.d=b.map C.d):a=b:=by
 induction a generalizing b with
 |nil=>cases b with|nil=>rfl|cons y b=>simp at e
 |cons x a ih=>cases b with|nil=>simp at e|cons y b=>simp only[aD,dM,C.d.injEq]at e;rw[e.1,ih e.2]
theorem PC:∀(p:qw)(t u:Ty),kL t=true->rM t p=some u->kL u=true:=by
 intro p;induction p with
 |nil=>
  intro t u hd h;have e:rM t []=some t:=by cases t<;>rfl
  rw[e]at h;exact aa h▸hd
 |cons q p ih=>
  intro t u hd h;cases q with
  |fd i=>
   cases t with
   |st t=>
    simp only[rM]at h;split at h
    .rename_i w hw;exact ih w u (zI t i w hd hw) h
    .simp at h
   |_=>simp[rM]at h
  |ix i=>cases t with|ar l t=>exact ih t u hd h|_=>simp[rM]at h
theorem G5(t:Ty):mW t []=0:=by cases t<;>rfl
theorem E8{t:Ty}{l:List (Sl (El t))}{ln:Option (Nat×Nat)}{m:Nat}{r:Sl (El t)}(h:GP ln m=true):(eR t l ln).set m (pn t r)=eR t (l.set m r) none:=by cases ln with|none=>simp only[eR,List.map_set]|some q=>obtain⟨m',i⟩:=q;obtain rfl:m'=m:=Nat.eq_of_beq_eq_true h;simp only[eR,List.map_set,List.set_set]
theorem E9{t:Ty}{l:List (Sl (El t))}{ln:Option (Nat×Nat)}:(eR t l ln).length=l.length:=by cases ln with|none=>simp[eR]|some q=>obtain⟨m',i⟩:=q;simp[eR]
theorem yP{id id2 m:Nat}{t:Ty}{l:List (Sl (El t))}{ln:Option (Nat×Nat)}{o2:O}{r:Sl (El t)}{u:fA}{aB:List Nat}(hr:HR s.next h1 s.heap)(ho:fO s.heap id=some (.rw t (.mk l) ln))(ho2:fO s.heap id2=some o2)(hne:id2≠id)(hlnm:GP ln m=true)
  (hu:∀p∈u,p.1=id\/p.1=id2) (hb:aC (u++h1) id=some (.nst (ce t) ((eR t l ln).set m (pn t r)))) (hids:∀i∈aB,i∈[id,id2]):
  rL s (eB (eB s id2 none) id (some (.rw t (.mk (l.set m r)) none))) h1 (.iP []) u aB s.next (.tp .ni) [id,id2]:=by
 have eh:jp s.next s.heap ((id,some (.rw t (.mk (l.set m r)) none))::(id2,none)::s.heap):=by refine jp.trans (aw _) (jp.mg id2) (jp.CL (o:=.rw t (.mk l) ln) ?_ ⟨rfl,rfl,by simp[Sl.l]⟩);rw[c8,if_neg hne];exact ho
 refine rL.EP [id,id2] hr eh rfl rfl (aw _) (aw _) hids rfl (fun p hp=>?_) (fun i hi=>?_) (fun i hi o ho'=>?_) CO trivial (fun i _ h=>?_)
 .rcases hu p hp with e|e<;>simp[e]
 .simp only[aQ,gO,or_false,not_or]at hi;simp only[eB];rw[c8,if_neg (fun e=>hi.1 e.symm),c8,if_neg (fun e=>hi.2 e.symm)]
 .simp only[eB]at ho';by_cases hi1:id=i
  .subst hi1;rw[c8,if_pos rfl]at ho';obtain rfl:=aa ho';obtain⟨a,⟨d1,d2,_⟩,_⟩:=hr.ob _ _ ho;exact⟨a,⟨d1,d2,fun l' e=>by cases e;rw[hb,E8 hlnm]⟩,trivial⟩
  .rw [c8,if_neg hi1]at ho';simp only[aQ,gO,or_false]at hi;rcases hi with rfl|rfl
   .exact absurd rfl hi1
   .rw [c8,if_pos rfl]at ho';cases ho'
 .simp only[eB];rw[c8,if_neg (fun e=>by subst e;rw[ho]at h;cases h),c8,if_neg (fun e=>by subst e;rw[ho2]at h;cases h)];exact h
theorem rL.nx{s s':S2}{x:TV}{u:fA}{aB l:List Nat}{m q:Nat}{v:V}(d:rL s s' h1 x u aB m v l)(hq:q<=s'.next):rL s s' h1 x u aB q v l:=⟨d.val,d.TQ,d.hr,d.eh,d.dH,d.gh,hq,d.le,d.aB,d.nb,d.wo⟩
theorem CS{id m q:Nat}{t:Ty}{p:qw}{w:V}{ya yw:TV}(hr:HR s.next h1 s.heap)(ha1:fX s.heap (.ep id m t p) ya)(ha2:eY s.next s.heap (.ep id m t p))(hx:fX s.heap w yw)(hk:eY s.next s.heap w)(ha:ir s.heap w=true)
  (hz:(bif(yr w==q)then E4 id m t p w s (fun s l=>k (.tp .ni) s l)else none)=some z):zX h1 (.store q) [ya,yw] s k z:=by
 obtain⟨h2,hz2⟩:=aR hz;simp only[beq_iff_eq]at h2;clear hz;unfold E4 at hz2;split at hz2
 .rename_i u v ln ho;split at hz2
  .rename_i id2;split at hz2
   .rename_i u2 r ver ho2;split at hz2
    .rename_i r' hr';obtain⟨h3,hz3⟩:=aR hz2;simp only[ai,decide_eq_true_eq,Bool.not_eq_true',beq_eq_false_iff_ne]at h3;obtain⟨⟨rfl,hne⟩,hln⟩:=h3;obtain⟨e,e2⟩:=dq hr';cases e;obtain rfl:r'=r:=e2;have hlen:=ha2.2.2.2 _ _ _ ho;obtain⟨_,⟨d1,d2,d3⟩,_⟩:=hr.ob id _ ho;obtain⟨_,⟨_,_,c3⟩,_⟩:=hr.ob id2 _ ho2;cases v with
     |nil=>simp[Sl.l]at hlen
     |mk l=>
      have d3:=d3 l rfl;have h2':q=1:=h2.symm;subst h2';rw[tg ha1,tf hx (mw (.inl ho2)),G5];have hl2:m<(eR u l ln).length:=by rw[E9];exact hlen
      cases r' with
      |nil=>
       refine⟨_,_,_,hz3,fun cl=>⟨.iP [],[(id,some (.nst (ce u) ((eR u l ln).set m .nil)))],[id],s.next,?_,?_⟩⟩
       .simp only[aD,bh,cL,mu,mx,cellsOf,d3];rw[if_pos (show([_]:List C).length=1 from rfl)];rw[if_pos ⟨trivial,trivial,hl2⟩];simp only[sE]
       .exact yP hr ho ho2 hne hln (fun p hp=>by simp at hp;simp[hp]) (by rw[bn,dF,if_pos rfl];rfl) (fun i hi=>by simp at hi;simp[hi])
      |mk rr=>
       have c3:=c3 rr rfl;refine⟨_,_,_,hz3,fun cl=>⟨.iP [],[(id,some (.nst (ce u) ((eR u l ln).set m (.bG (rr.map (a_ u)))))),(id2,none)],[id,id2],s.next,?_,?_⟩⟩
       .simp only[aD,bh,cL,mu,mx,cellsOf,d3];rw[if_pos (show([_]:List C).length=1 from rfl)];rw[if_pos ⟨trivial,trivial,hl2⟩];simp only[sE,c3];rw[if_pos ⟨trivial,by simp,hne⟩]
       .exact yP hr ho ho2 hne hln (fun p hp=>by simp at hp;rcases hp with rfl|rfl<;>simp) (by rw[bd,dF,if_pos rfl];rfl) (fun i hi=>hi)
    .simp at hz2
   .simp at hz2
  .simp at hz2
 .rename_i u l ver ho;split at hz2
  .rename_i w' a hw;obtain⟨h3,hz3⟩:=aR hz2;simp only[decide_eq_true_eq]at h3;subst h3;clear hz2;split at hz3
   .rename_i b2 hb;split at hz3
    .rename_i y hy;split at hz3
     .rename_i c hc;split at hz3
      .rename_i y2 hy2;split at hz3
       .rename_i s1 hs1;obtain⟨h4,hz4⟩:=aR hz3;obtain⟨cw,e1,e2⟩:=rj (pm (La hw) hx);obtain⟨ds,aB,f1,f2,f3,f4,f5⟩:=tL hr w w' a cw hw e1 hk ha;have e3:=p8 (iW w' false b2 y _ hy f2);have hlen:=ha2.2.2.1 u l ver (.inl ho)
        have hnm:∀(ds:List D)(cs:List C)(aB:List Nat),dQ h1 cs=some (ds,aB)->ds.length=cs.length:=by
         intro ds cs;induction cs generalizing ds with
         |nil=>intro aB h;obtain⟨rfl,_⟩:[]=ds/\[]=aB:=by simpa[dQ]using h
               rfl
         |cons c cs ih=>
          intro aB h;simp only[dQ]at h;split at h
          .rename_i p1 p2 p3 p4 hp hq;obtain⟨rfl,rfl⟩:=ad (aa h);simp[ih _ _ hq]
          .simp at h
        have l1:cw.length=yr w:=iz e1;have l2:ds.length=ce b2:=by rw[e3,bV]
        have l3:=hnm _ _ _ f1;have l4:=wG p u b2 hb ha2.2.1;cases l with
        |nil=>simp[Sl.l]at hlen
        |mk l=>
         obtain⟨_,⟨d1,d2,d3⟩,_⟩:=hr.ob id _ ho;have d3:=d3 l rfl;have q5:=wu (h:=s.heap) p (.x u (gt l m)) u (.x b2 y) c ((a_ u (gt l m)).map .d) ((a_ b2 y).map .d) b2 (by simp[eG]) ⟨d1,rfl⟩ ha2.2.1 hc hb ⟨PC p u b2 d1 hb,rfl⟩ (by simp[bV]);have q6:=qk hy2 q5;rw[<-uS]at q6;have q7:=p8 q6;obtain⟨fu,g1,g2,g3,g4,g5,g6,g7,g8,g9⟩:=B9 (s0:=s) rfl hr a s1 aB aB hs1 f3 f4;have hid:id∉a:=by simpa using h4
         have hid2:aB.contains id=false:=by cases hq:aB.contains id with|false=>rfl|true=>exact absurd ((f3 id (by simpa using hq)).1) hid
         rw[tg ha1];refine⟨_,_,_,hz4,fun cl=>⟨.iP [],(id,some (.aP (ce u) ((l.set m y2).map (a_ u))))::fu,id::aB,s.next,?_,?_⟩⟩
         .simp only[aD,bh];exact Mn d3 hlen e2 (l1.trans h2) f1 g1 hid2 (by rw[bV];omega) (by rw[e3];exact q7)
         .have ho1:fO s1.heap id=some (.ar u (.mk l) ver):=by rw[g9 id hid];exact ho
          rw[<-g6]at g2
          have:=sI (v:=.tp .ni) (x:=.iP []) (aB:=id::aB) (l:=id::a) (u:=[(id,some (.aP (ce u) ((l.set m y2).map (a_ u))))]) g2 ho1 (w':=.mk (l.set m y2)) rfl (by simp[Sl.l]) (fun p hp=>by simp at hp;simp[hp]) (fun l' e=>by cases e;rw[bn,dF,if_pos rfl]) (fun _=>CO) (fun _ _=>trivial) (fun i hi=>by
           rcases aQ.1 hi with rfl|hi
           .exact du ..
           .exact aF _ (f3 i hi).1)
          rw[g6]at this;exact rL.seq g3 g4 g5 g6 g7 g8 g9 (F_ rfl hs1) this
       .simp at hz3
      .simp at hz3
     .simp at hz3
    .simp at hz3
   .simp at hz3
  .simp at hz2
 .simp at hz2
end
section
variable{h:H2}{n:Nat}{h1:bM}{β:Type}{s:S2}{k:V->S2->List Nat->Option β}{z:β}
theorem uO:∀{cs:List C}{ds:List D}{aB:List Nat},dQ h1 cs=some (ds,aB)->ds.length=cs.length:=by
 intro cs;induction cs with
 |nil=>intro ds aB h;obtain⟨rfl,_⟩:[]=ds/\[]=aB:=by simpa[dQ]using h
       rfl
 |cons c cs ih=>
  intro ds aB h;simp only[dQ]at h;split at h
  .rename_i p1 p2 p3 p4 hp hq;obtain⟨rfl,rfl⟩:=ad (aa h);simp[ih hq]
  .simp at h
theorem Oj{t:Ty}(hd:kL t=true)(m:Nat):(aA m (sX t)).flatMap (a_ t)=dk ((aA m (nE t)).flatten):=by induction m with|zero=>rfl|succ m ih=>simp only[iA,bf,ei,ih,rP t hd,dk,iq]
theorem B2(l:List Value):fk l=(dk l).map .d:=by simp[fk,dk]
theorem Jp{t:Ty}(hd:kL t=true)(m:Nat):((aA m (nE t)).flatten).length=m*ce t:=by have:=congrArg List.length (Oj hd m);rw[iv (bV t),List.length_replicate,dk,aV]at this;exact this.symm
theorem Eo{α:Type}{f:α->List D}{q:Nat}(hf:∀a,(f a).length=q):∀(l:List α),mE q l.length (l.flatMap f)=l.map f:=by intro l;induction l with|nil=>rfl|cons a l ih=>simp only[cP,mE,bf,aD];rw[List.take_left' (hf a),List.drop_left' (hf a),ih]
theorem Fo{t:Ty}{len:Nat}(hr:HR n h1 h)(hd:kL t=true):∀(is:List Nat)(vs:List V)(m:Nat)(l:List (El t))(a:List Nat)(EN:List C)(xs:List TV),yJ h t len m is vs=some (l,a)->m<=len->EN.length=m*ce t->
  mR h vs xs->(∀w∈vs,eY n h w)->(∀w∈vs,ir h w=true)->
  ∃cs aB,nn (EN++fk ((aA (len-m) (nE t)).flatten)) ((is.map fun i=>(i*ce t,ce t)).zip xs)=some (EN++cs)/\dQ h1 cs=some (l.flatMap (a_ t),aB)/\(∀i∈aB,i∈a/\¬mS h i)/\(∀i∈a,i∈aB\/mS h i)/\l.length=len-m:=by
 intro is;induction is with
 |nil=>intro vs m l a EN xs hf hm hpre hx hk ha;cases vs with|cons v vs=>simp[yJ]at hf|nil=>simp only[yJ,bE,Prod.mk.injEq]at hf;obtain⟨rfl,rfl⟩:=hf;obtain rfl:=lV hx;refine⟨_,[],rfl,?_,fun i hi=>by simp at hi,fun i hi=>by simp at hi,by simp⟩;rw[B2,Oj hd];exact yi _
 |cons i is ih=>
  intro vs m l a EN xs hf hm hpre hx hk ha;cases vs with
  |nil=>simp[yJ]at hf
  |cons v vs=>
   simp only[yJ]at hf;split at hf
   .rename_i w a1 hw;split at hf
    .rename_i y hy;obtain⟨hc,hf⟩:=aR hf;simp only[ai,Nat.ble_eq,Nat.blt_eq]at hc;obtain⟨hmi,hil⟩:=hc;split at hf
     .rename_i l1 b hl1;obtain⟨rfl,rfl⟩:=ad (aa hf);obtain⟨x,ys,rfl,hx1,hx2⟩:=gL hx;obtain⟨cw,e1,e2⟩:=rj (pm (La hw) hx1);obtain⟨ds,aB,f1,f2,f3,f4,_⟩:=tL hr v w a1 cw hw e1 (hk _ (by simp)) (ha _ (by simp));have e3:=p8 (iW w false t y _ hy f2);subst e3;have l1':cw.length=ce t:=by rw[<-uO f1,bV]
      have lz:(fk ((aA (i-m) (nE t)).flatten)).length=(i-m)*ce t:=by simp only[fk,aV];exact Jp hd _
      have lz1:(fk (nE t)).length=ce t:=by rw[B2,<-rP t hd,aV,bV]
      have hpl:(EN++fk ((aA (i-m) (nE t)).flatten)).length=i*ce t:=by rw[ap,hpre,lz,<-b_,Nat.add_sub_cancel' hmi]
      obtain⟨cs,jds,g1,g2,g3,g4,g5⟩:=ih vs (i+1) l1 b (EN++fk ((aA (i-m) (nE t)).flatten)++cw) ys hl1 hil (by rw[ap,hpl,l1',b_,Nat.one_mul]) hx2 (fun w hw=>hk w (by simp[hw])) (fun w hw=>ha w (by simp[hw]));have hsplit:aA (len-m) (nE t)=aA (i-m) (nE t)++(nE t::aA (len-(i+1)) (nE t)):=by rw[<-iA,List.replicate_append_replicate];congr 1;omega
      have hcells:EN++fk ((aA (len-m) (nE t)).flatten)=(EN++fk ((aA (i-m) (nE t)).flatten))++(fk (nE t)++fk ((aA (len-(i+1)) (nE t)).flatten)):=by rw[hsplit,List.flatten_append,ei,tF,tF,aH]
      refine⟨fk ((aA (i-m) (nE t)).flatten)++(cw++cs),aB++jds,?_,?_,fun j hj=>?_,fun j hj=>?_,by simp[g5];omega⟩
      .simp only[aD,List.zip_cons_cons,nn,e2];rw[if_pos ⟨l1',by rw[hcells,ap,hpl,ap,lz1];omega⟩,hcells];have:bg ((EN++fk ((aA (i-m) (nE t)).flatten))++(fk (nE t)++fk ((aA (len-(i+1)) (nE t)).flatten))) (i*ce t) cw=(EN++fk ((aA (i-m) (nE t)).flatten)++cw)++fk ((aA (len-(i+1)) (nE t)).flatten):=by have:=t6 (a:=EN++fk ((aA (i-m) (nE t)).flatten)) (b:=fk (nE t)++fk ((aA (len-(i+1)) (nE t)).flatten)) (p:=cw) (off:=0);rw[hpl]at this;refine Eq.trans this ?_;rw[t5 (by omega),mJ (by omega)];simp only[aH]
       rw[this,g1];simp only[aH]
      .rw [List.flatMap_append,bf,Oj hd];have hz:dQ h1 (fk ((aA (i-m) (nE t)).flatten))=some (dk ((aA (i-m) (nE t)).flatten),[]):=by rw[B2];exact yi _
       exact(qN hz (qN f1 g2):dQ h1 _=some (_,[]++(aB++jds)))
      .rcases au.1 hj with hj|hj
       .exact ⟨aG _ (f3 j hj).1,(f3 j hj).2⟩
       .exact ⟨aI _ (g3 j hj).1,(g3 j hj).2⟩
      .rcases au.1 hj with hj|hj
       .exact (f4 j hj).imp (aG _) id
       .exact (g4 j hj).imp (aI _) id
     .simp at hf
    .simp at hf
   .simp at hf
theorem Es{t:Ty}{len sz:Nat}{zl:List Value}{pl:List Nat}{vs:List V}{xs:List TV}
  (hz:PM t sz len zl pl vs s k=some z)
  (hr:HR s.next h1 s.heap) (hx:mR s.heap vs xs) (hk:∀w∈vs,eY s.next s.heap w) (ha:∀w∈vs,ir s.heap w=true):zX h1 (.buildSlice sz len zl pl) xs s k z:=by
 unfold PM at hz;obtain⟨h2,hz2⟩:=aR hz;simp only[ai,beq_iff_eq]at h2;obtain⟨⟨rfl,h3⟩,h4⟩:=h2;have h3:=rQ h3;subst h3;obtain⟨hd,hs0⟩:=qL h4;clear hz;split at hz2
 .rename_i l a hl;split at hz2
  .rename_i s1 hs1;obtain⟨cs,aB,g1,g2,g3,g4,g5⟩:=Fo hr hd pl vs 0 l a [] xs hl (Nat.zero_le _) (by simp) hx hk ha;obtain⟨fu,f1,f2,f3,f4,f5,f6,f7,f8,f9⟩:=B9 (s0:=s) rfl hr a s1 aB aB hs1 g3 g4;refine⟨_,_,_,hz2,fun cl=>⟨.c (.fh (ce t) s.next 0 len),(s.next,some (.aP (ce t) (l.map (a_ t))))::fu,aB,s.next+1,?_,?_⟩⟩
   .have hc:mE (ce t) len (l.flatMap (a_ t))=l.map (a_ t):=by have:=Eo (bV t) l;rwa[show l.length=len by simpa using g5]at this
    simp only[cL,nw];have g1:nn (fk ((aA len (nE t)).flatten)) ((pl.map fun i=>(i*ce t,ce t)).zip xs)=some cs:=by simpa using g1
    rw[g1];simp only[g2,f1,hc]
   .have hr1:HR s1.next (fu++h1) s1.heap:=by rw[f6];exact f2
    have hd1:rL s1 (jy s1 (.ar t (.mk l) 0)) (fu++h1) (.c (.fh (ce t) s.next 0 len)) [(s1.next,some (.aP (ce t) (l.map (a_ t))))] aB (s.next+1) (.so s1.next) a:=by refine rL.new hr1 (.inl rfl) (fun _=>⟨hd,hs0,fun l' e=>by cases e;rfl⟩) trivial ?_ (bl _) (fun i hi=>(g3 i hi).1) (by rw[f6];exact aw _);have:=wH (h:=s1.heap) (t:=t) (s:=.mk l) (v:=0) (nx:=s1.next);rw[f6]at this|-;simpa[mx,show l.length=len by simpa using g5]using this
    rw[f6]at hd1;exact rL.seq f3 f4 f5 f6 f7 f8 f9 (F_ rfl hs1) hd1
  .simp at hz2
 .simp at hz2
theorem Gh{ka va:Bool}{ks:List Kd}{zl:List Value}{id:Nat}{kv:V}{ya yk:TV}(hr:HR s.next h1 s.heap)(ha1:fX s.heap (.om id) ya)(hx:fX s.heap kv yk)
  (hz:(match fO s.heap id with
  |some (.mp kt vt m)=>(match ul kt kv with
   |some q=>bif(nB kt==ka)&&(nB vt==va)&&decide (DY kt=some ks)&&uq (nE vt) zl&&kL vt&&(va||ce vt==1)then
     k (.tp (.co (.x vt (md m (sX vt) q).2.1) (.co (.x (.i .i64) (md m (sX vt) q).2.2) .ni))) (eB s id (some (.mp kt vt (md m (sX vt) q).1))) [id]else none
   |none=>none)
  |_=>none)=some z):zX h1 (.mapEntry ka ks va zl) [ya,yk] s k z:=by
 split at hz
 .rename_i kt vt m ho;split at hz
  .rename_i q hq;obtain⟨hc,hz2⟩:=aR hz;simp only[ai,beq_iff_eq,decide_eq_true_eq]at hc;obtain⟨⟨⟨⟨⟨c1,c2⟩,c3⟩,c4⟩,c5⟩,c6⟩:=hc;rw[EV ha1];obtain⟨_,_,k3,_⟩:=x5 kt ks c3;have hzz:dk zl=a_ vt (sX vt):=by rw[rP vt c5,rQ c4]
   have hv:∀y,pP va (a_ vt y)=some (P6 vt y):=fun y=>GM y c2 c6;have hkt:=DV hx hq c3 c1;have e3:=(hr.ob id _ ho).2.1.2.2;rw[<-c2]at c6;have e4:aC h1 id=EO ka va (wd kt) (a_ vt) m:=by rw[<-c1,<-c2];exact e3
   have hos:te (.mp kt vt m) (.mp kt vt (md m (sX vt) q).1):=trivial;refine .CL hr ho hos hz2 (fun cl=>QM (z:=sX vt) e4 hkt k3 hzz hv) ⟨c5,⟨ks,c3⟩,by rw[c1,c2];rfl⟩ trivial ?_ ⟨trivial,trivial,trivial⟩ fun i hi=>hi;exact⟨_,rfl,_,_,rfl,Jw c5 c6,_,_,rfl,dX rfl ⟨rfl,rfl⟩,rfl⟩
  .simp at hz
 .simp at hz
theorem Lr:∀(l:List D),zH (l.map .d)=some l:=by intro l;induction l with|nil=>rfl|cons d l ih=>simp[zH,ih]
theorem D9{va:Bool}{m0 id:Nat}{kd:IntKind}{st:Int}{w:V}{ya yw:TV}(hr:HR s.next h1 s.heap)(ha1:fX s.heap (.om id) ya)(hx:fX s.heap w yw)
  (hz:(match fO s.heap id with
  |some (.mp kt vt m)=>(match ul vt w with
   |some y=>bif(nB vt==va)&&(ce vt==m0)&&kL vt then(vL m st y).bind fun m=>k (.tp .ni) (eB s id (some (.mp kt vt m))) [id]else none
   |none=>none)
  |_=>none)=some z):zX h1 (.entryStore va m0) [ya,tI kd st,yw] s k z:=by
 split at hz
 .rename_i kt vt m ho;split at hz
  .rename_i y hy;obtain⟨hc,hz2⟩:=aR hz;simp only[ai,beq_iff_eq]at hc;obtain⟨⟨rfl,rfl⟩,c3⟩:=hc;obtain⟨m',hm,hz3⟩:=sG hz2;rw[EV ha1];obtain⟨_,hks,e3⟩:=(hr.ob id _ ho).2.1;obtain⟨g1,g2⟩:=vX hx hy;have hos:te (.mp kt vt m) (.mp kt vt m'):=trivial;have hcs:(cellsOf yw).bind zH=some (a_ vt y)/\x8 yw=nB vt:=by cases hag:nB vt with|true=>rw[g1 hag];exact⟨by simp[cellsOf,Lr],rfl⟩|false=>obtain⟨d,e,rfl⟩:=g2 hag;exact⟨by simp[cellsOf,zH,e],rfl⟩
   refine .CL hr ho hos hz3 (fun cl=>QL (va:=nB vt) (ek:=wd kt) (ka:=nB kt) hm e3 hcs.1 (bV vt y) hcs.2) ⟨c3,hks,rfl⟩ trivial CO trivial fun i hi=>hi
  .simp at hz
 .simp at hz
end
section
variable{h:H2}{n:Nat}{h1:bM}{β:Type}{s:S2}{k:V->S2->List Nat->Option β}{z:β}
theorem wN:∀{r:List V}{l:List Int}{xs:List TV},gD r=some l->mR h r xs->∃ks:List IntKind,ks.length=l.length/\xs=(ks.zip l).map fun p=>tI p.1 p.2:=by
 intro r;induction r with
 |nil=>
  intro l xs hl hx;obtain rfl:[]=l:=by simpa[gD]using hl
  exact⟨[],rfl,lV hx⟩
 |cons v r ih=>
  intro l xs hl hx;cases v with
  |x t v=>
   cases t with
   |i q=>
    simp only[gD]at hl;split at hl
    .rename_i l' hl';obtain rfl:=aa hl;obtain⟨x,ys,rfl,h1,h2⟩:=gL hx;obtain⟨ks,h3,rfl⟩:=ih hl' h2;exact⟨q::ks,by simp[h3],by rw[kx h1];rfl⟩
    .simp at hl
   |_=>simp[gD]at hl
  |_=>simp[gD]at hl
theorem KX{r:List V}{xs:List TV}(hl:gD r=some [])(hx:mR h r xs):xs=[]:=by obtain⟨ks,h1,rfl⟩:=wN hl hx;cases ks<;>simp_all
theorem B4{r:List V}{a:Int}{xs:List TV}(hl:gD r=some [a])(hx:mR h r xs):∃q,xs=[tI q a]:=by obtain⟨ks,h1,rfl⟩:=wN hl hx;cases ks with|nil=>simp at h1|cons q ks=>exact⟨q,by cases ks<;>simp_all⟩
theorem KW{r:List V}{a b:Int}{xs:List TV}(hl:gD r=some [a,b])(hx:mR h r xs):∃q q',xs=[tI q a,tI q' b]:=by
 obtain⟨ks,h1,rfl⟩:=wN hl hx;cases ks with
 |nil=>simp at h1
 |cons q ks=>cases ks with|nil=>simp at h1|cons q' ks=>exact⟨q,q',by cases ks<;>simp_all⟩
theorem BG{x y:ByteArray}{lo hi:Option Int}(hs:z8 x (lo.getD 0) (hi.getD x.size)=some y)(sz:Nat):fQ true sz (.d (dS x)) lo hi=some (.d (dS y)):=by
 unfold z8 at hs;split at hs
 .rename_i hb;obtain rfl:=aa hs;simp only[fQ,if_true];rw[if_pos hb]
 .simp at hs
theorem CW{x:ByteArray}{r:List V}{lo hi:Bool}{sz:Nat}{y:TV}{ys:List TV}(hr:HR s.next h1 s.heap)(hy:fX s.heap (.x .s x) y)(hys:mR s.heap r ys)
  (hz:(match lo,hi,gD r with
  |false,false,some []=>(z8 x 0 x.size).bind fun y=>k (.x .s y) s []
  |true,false,some [l]=>(z8 x l x.size).bind fun y=>k (.x .s y) s []
  |false,true,some [u]=>(z8 x 0 u).bind fun y=>k (.x .s y) s []
  |true,true,some [l,u]=>(z8 x l u).bind fun y=>k (.x .s y) s []
  |_,_,_=>none)=some z):zX h1 (.slice true sz lo hi) (y::ys) s k z:=by
 rw[xj hy];split at hz
 .rename_i hi;obtain rfl:=KX hi hys;obtain⟨w,hw,hz2⟩:=sG hz;exact .pure hr hz2 (fun _=>by simp only[aD,bh,cL];rw[BG (lo:=none) (hi:=none) hw]) (P5 w) trivial
 .rename_i l hi;obtain⟨q,rfl⟩:=B4 hi hys;obtain⟨w,hw,hz2⟩:=sG hz;exact .pure hr hz2 (fun _=>by simp only[aD,bh,cL,cD];rw[BG (lo:=some l) (hi:=none) hw]) (P5 w) trivial
 .rename_i l hi;obtain⟨q,rfl⟩:=B4 hi hys;obtain⟨w,hw,hz2⟩:=sG hz;exact .pure hr hz2 (fun _=>by simp only[aD,bh,cL,cD];rw[BG (lo:=none) (hi:=some l) hw]) (P5 w) trivial
 .rename_i l u hi;obtain⟨q,q',rfl⟩:=KW hi hys;obtain⟨w,hw,hz2⟩:=sG hz;exact .pure hr hz2 (fun _=>by simp only[aD,bh,cL,cD];rw[BG (lo:=some l) (hi:=some u) hw]) (P5 w) trivial
 .simp at hz
theorem CX{x:V}{r:List V}{lo hi:Bool}{sz:Nat}{y:TV}{ys:List TV}(hr:HR s.next h1 s.heap)(hy:fX s.heap x y)(hk:eY s.next s.heap x)(ha:ir s.heap x=true)(hys:mR s.heap r ys)
  (hz:(match lo,hi,gD r,FW s.heap x with
  |false,false,some [],some n=>ux sz s.heap x 0 n fun v=>k v s []
  |true,false,some [l],some n=>ux sz s.heap x l n fun v=>k v s []
  |false,true,some [u],some _=>ux sz s.heap x 0 u fun v=>k v s []
  |true,true,some [l,u],some _=>ux sz s.heap x l u fun v=>k v s []
  |_,_,_,_=>none)=some z):zX h1 (.slice false sz lo hi) (y::ys) s k z:=by
 split at hz
 .rename_i m hi hm;obtain rfl:=KX hi hys;obtain⟨v,c,c',rfl,h3,h4,h5,h6⟩:=Ch (lo:=none) (hi:=none) hr hy hk ha hm hz;exact .pure hr h3 (fun _=>by simp only[aD,bh,cL];rw[h4]) h5 h6
 .rename_i l m hi hm;obtain⟨q,rfl⟩:=B4 hi hys;obtain⟨v,c,c',rfl,h3,h4,h5,h6⟩:=Ch (lo:=some l) (hi:=none) hr hy hk ha hm hz;exact .pure hr h3 (fun _=>by simp only[aD,bh,cL,cD];rw[h4]) h5 h6
 .rename_i u m hi hm;obtain⟨q,rfl⟩:=B4 hi hys;obtain⟨v,c,c',rfl,h3,h4,h5,h6⟩:=Ch (lo:=none) (hi:=some u) hr hy hk ha hm hz;exact .pure hr h3 (fun _=>by simp only[aD,bh,cL,cD];rw[h4]) h5 h6
 .rename_i l u m hi hm;obtain⟨q,q',rfl⟩:=KW hi hys;obtain⟨v,c,c',rfl,h3,h4,h5,h6⟩:=Ch (lo:=some l) (hi:=some u) hr hy hk ha hm hz;exact .pure hr h3 (fun _=>by simp only[aD,bh,cL,cD];rw[h4]) h5 h6
 .simp at hz
theorem Mr{t:Ty}{l:List (Sl (El t))}{m:Nat}(hm:m<l.length):(l.map (pn t))[m]?=some (pn t (gt l m)):=by rw[List.getElem?_map,aE hm];simp[gt,List.getD,aE hm]
theorem JI{α:Type}{l:List α}{m:Nat}{x:α}(h:l[m]?=some x):l.set m x=l:=by obtain⟨hm,rfl⟩:=List.getElem?_eq_some_iff.1 h;exact List.set_getElem_self hm
theorem FU{id m:Nat}{u:Ty}{y:TV}(hr:HR s.next h1 s.heap)(hx:fX s.heap (.ep id m u []) y)(hk:eY s.next s.heap (.ep id m u []))
  (hz:(match fO s.heap id with
  |some (.rw t v none)=>bif decide (u=.sl t)then k (.so s.next) (jy (eB s id (some (.rw t v (some (m,s.next))))) (.ar t (gt v.l m) 0)) [id]else none
  |_=>none)=some z):zX h1 .uD [y] s k z:=by
 split at hz
 .rename_i t v ho;obtain⟨h2,hz2⟩:=aR hz;simp only[decide_eq_true_eq]at h2;subst h2;rw[tg hx,G5];have hlen:=hk.2.2.2 _ _ _ ho;obtain⟨hid,⟨d1,d2,d3⟩,_⟩:=hr.ob id _ ho;cases v with
  |nil=>simp[Sl.l]at hlen
  |mk l=>
   have d3:=d3 l rfl;have hlen:m<l.length:=hlen;have eh:jp s.next s.heap ((s.next,some (.ar t (gt l m) 0))::(id,some (.rw t (.mk l) (some (m,s.next))))::s.heap):=jp.trans (aw _) (jp.CL (o':=.rw t (.mk l) (some (m,s.next))) ho ⟨rfl,rfl,rfl⟩) (jp.new _)
   have key:∀{x:TV}{u:fA},fX ((s.next,some (.ar t (gt l m) 0))::(id,some (.rw t (.mk l) (some (m,s.next))))::s.heap) (.so s.next) x->(∀p∈u,p.1=s.next\/p.1=id)->
     aC (u++h1) id=some (.nst (ce t) (eR t l (some (m,s.next))))->(∀rr,gt l m=.mk rr->aC (u++h1) s.next=some (.aP (ce t) (rr.map (a_ t))))->∀{q:Nat},q<=s.next+1->
     rL s (jy (eB s id (some (.rw t (.mk l) (some (m,s.next))))) (.ar t (gt l m) 0)) h1 x u [id] q (.so s.next) [id]:=by
    intro x u hx2 hu hb hb2 q hq;refine rL.EP [s.next,id] hr eh rfl rfl hq (bQ _) (fun i hi=>hi) rfl (fun p hp=>?_) (fun i hi=>?_) (fun i hi o ho'=>?_) hx2 (bl _) (fun i hi h=>?_)
    .rcases hu p hp with e|e<;>simp[e]
    .simp only[aQ,gO,or_false,not_or]at hi;simp only[jy,eB];rw[c8,if_neg (fun e=>hi.1 e.symm),c8,if_neg (fun e=>hi.2 e.symm)]
    .simp only[jy,eB]at ho'|-;by_cases hi1:s.next=i
     .subst hi1;rw[c8,if_pos rfl]at ho';obtain rfl:=aa ho';exact⟨bl _,⟨d1,d2,fun rr e=>hb2 rr e⟩,trivial⟩
     .rw [c8,if_neg hi1]at ho';simp only[aQ,gO,or_false]at hi;rcases hi with rfl|rfl
      .exact absurd rfl hi1
      .rw [c8,if_pos rfl]at ho';obtain rfl:=aa ho';refine⟨by omega,⟨d1,d2,fun l' e=>by cases e;exact hb⟩,hlen,bl _,fun u' r' v' hf=>?_⟩;simp only[uj]at hf;rcases hf with hf|hf<;>cases hf;exact⟨rfl,rfl⟩
    .simp only[jy,eB];rw[c8,if_neg (by omega),c8,if_neg (fun e=>by subst e;rw[ho]at h;cases h)];exact h
   have hs:=Mr (t:=t) hlen;refine⟨_,_,_,hz2,fun cl=>?_⟩;cases hg:gt l m with
   |nil=>
    refine⟨_,[],[id],s.next,?_,key (x:=.c (.d (.lit (.slice none 0 0)))) ?_ (fun p hp=>by simp at hp) ?_ (fun rr e=>by rw[hg]at e;cases e) (bQ _)⟩
    .simp only[aD,bh,cL,hO,d3];rw[hg]at hs;simp only[lJ,d3,eR,hs,pn];rfl
    .rw [hg];exact wH
    .rw [bw,d3];simp only[eR,hg,Ib];rw[JI (by rw[hs,hg];rfl)]
   |mk rr=>
    refine⟨_,[(s.next,some (.aP (ce t) (rr.map (a_ t)))),(id,some (.nst (ce t) ((l.map (pn t)).set m (.cF s.next (rr.map (a_ t)).length))))],[id],s.next+1,?_,key (x:=.c (.fh (ce t) s.next 0 (rr.map (a_ t)).length)) ?_ (fun p hp=>by simp at hp;rcases hp with rfl|rfl<;>simp) ?_ (fun r2 e=>?_) (aw _)⟩
    .simp only[aD,bh,cL,hO,d3];rw[hg]at hs;simp only[lJ,d3,eR,hs,pn];rfl
    .rw [hg];exact wH
    .rw [bd,dF,if_neg (by omega),bd,dF,if_pos rfl];simp only[eR,hg,Ib,aV]
    .rw [hg]at e;cases e;rw[bd,dF,if_pos rfl]
 .simp at hz
theorem Kp{szi:Nat}{t:Ty}{q q':IntKind}{a b:Int}(hr:HR s.next h1 s.heap)
  (hz:(bif(ce t==szi)&&CB t then(CE (Sl.nil:Sl (El t)) a b).bind fun r=>k (.sr s.next) (jy s (.rw t (.mk r) none)) []else none)=some z):zX h1 (.A0 szi) [tI q a,tI q' b] s k z:=by
 obtain⟨hq,hp2⟩:=aR hz;simp only[ai,beq_iff_eq]at hq;obtain⟨rfl,q2⟩:=hq;obtain⟨hd,hs0⟩:=qL q2;obtain⟨r,hr2,hz3⟩:=sG hp2;unfold CE at hr2;split at hr2
 .rename_i hb;obtain rfl:=aa hr2;refine .new (aB:=[]) hr hz3 (b:=some (.nst (ce t) (aA a.toNat .nil))) (x:=.c (.fh 1 s.next 0 a.toNat)) (fun _=>?_) ⟨hd,hs0,fun l' e=>by cases e;simp[eR,pn]⟩ trivial ?_ (bl _) fun i hi=>by simp at hi
  .simp only[aD,bh,cL,cD];rw[if_pos (by simpa[DR]using hb)]
  .refine cu (dX rfl ⟨_,rfl,fun c' hc'=>?_,?_⟩)
   .rw [uj]at hc';obtain rfl:=aa hc';simp[mx]
   .have:=BJ (sz:=1) (id:=s.next) (e:=a_ (.sl t)) (s:=.mk (aA a.toNat (Sl.nil:Sl (El t))));simpa[mx]using this
 .simp at hr2
theorem FE{o:OP}{vs:List V}{xs:List TV}(hp:part o vs s k=some z)(hr:HR s.next h1 s.heap)(hx:mR s.heap vs xs)(hk:∀w∈vs,eY s.next s.heap w)(ha:∀w∈vs,ir s.heap w=true):zX h1 o.o.k xs s k z:=by
 obtain⟨⟨d,kk,args,g⟩,t,fi⟩:=o;simp only;unfold part at hp;simp only at hp;split at hp
 .--quo
  obtain⟨x,y,rfl,h2,h3⟩:=je hx;rw[kx h2,kx h3];obtain⟨hq,hp2⟩:=aR hp;simp only[decide_eq_true_eq]at hq;subst hq;obtain⟨r,hr2,hz⟩:=sG hp2;exact .pure hr hz (fun _=>Ps hr2) (xi _ _) trivial
 .obtain ⟨x,y,rfl,h2,h3⟩:=je hx;rw[kx h2,kx h3];obtain⟨hq,hp2⟩:=aR hp;simp only[decide_eq_true_eq]at hq;subst hq;obtain⟨r,hr2,hz⟩:=sG hp2;exact .pure hr hz (fun _=>Pr hr2) (xi _ _) trivial
 .obtain ⟨x,y,rfl,h2,h3⟩:=je hx;rw[kx h2,kx h3];obtain⟨r,hr2,hz⟩:=sG hp;exact .pure hr hz (fun _=>Pq hr2) (xi _ _) trivial
 .obtain ⟨x,y,rfl,h2,h3⟩:=je hx;rw[kx h2,kx h3];obtain⟨r,hr2,hz⟩:=sG hp;exact .pure hr hz (fun _=>Pp hr2) (xi _ _) trivial
 .obtain ⟨x,y,rfl,h2,h3⟩:=je hx;rw[xj h2,xj h3];obtain⟨r,hr2,hz⟩:=sG hp;exact .pure hr hz (fun _=>Pt hr2) (P5 _) trivial
 .--alloc
  rename_i zl;obtain rfl:=lV hx;obtain⟨hq,hp2⟩:=aR hp;simp only[ai]at hq;obtain⟨q1,q2⟩:=hq;have q1:=rQ q1;subst q1;refine .new (aB:=[]) hr hp2 (x:=.c (.op s.next 0)) (fun _=>rfl) ⟨_,rfl,?_,q2⟩ ?_ (cu (dX rfl (by cases t<;>rfl))) ⟨bl _,by cases t<;>trivial⟩ fun i hi=>by simp at hi
  .exact ((yg (h:=(s.next,some (.bx t (NQ t)))::s.heap) (n:=s.next+1) t).1 q2).1
  .exact ((yg (h:=(s.next,some (.bx t (NQ t)))::s.heap) (n:=s.next+1) t).1 q2).2
 .--box
  obtain⟨x,rfl,h2⟩:=iO hx;split at hp
  .rename_i w hw;obtain⟨cw,e1,e2⟩:=rj (pm (FO hw) h2);obtain⟨q1,q2,q3,_⟩:=yW hw e1 (hk _ (by simp));refine .new (aB:=[]) hr hp (x:=.c (.op s.next 0)) (fun _=>by simp only[aD,bh,cL,e2]) ⟨_,rfl,lK (jp.new _) q3 q1,q2⟩ (gK (bQ _) (jp.new _) q3) (cu (dX rfl (by cases t<;>rfl))) ⟨bl _,by cases t<;>trivial⟩ fun i hi=>by simp at hi
  .simp at hp
 .exact Es hp hr hx hk ha
 .--store
  obtain⟨x,y,rfl,h2,h3⟩:=je hx;exact CQ hr h2 (hk _ (by simp)) h3 (hk _ (by simp)) hp
 .--uD
  obtain⟨x,rfl,h2⟩:=iO hx;exact FU hr h2 (hk _ (by simp)) hp
 .--A0
  obtain⟨x,y,rfl,h2,h3⟩:=je hx;rw[kx h2,kx h3];split at hp
  .exact Kp hr hp
  .simp at hp
 .obtain ⟨x,y,rfl,h2,h3⟩:=je hx;exact CS hr h2 (hk _ (by simp)) h3 (hk _ (by simp)) (ha _ (by simp)) hp
 .--makeSlice
  rename_i zl _ l _ c;obtain⟨x,y,rfl,h2,h3⟩:=je hx;rw[kx h2,kx h3];obtain⟨hq,hp2⟩:=aR hp;simp only[ai]at hq;obtain⟨q1,q2⟩:=hq;have q1:=rQ q1;subst q1;obtain⟨hd,hs0⟩:=qL q2;obtain⟨r,hr2,hz⟩:=sG hp2;have hzl:dk (nE t)=a_ t (sX t):=(rP t hd).symm;have hlen:(nE t).length=ce t:=by have:=congrArg List.length hzl;rwa[bV,dk,aV]at this
  refine .new hr hz (fun _=>Ni hzl hr2) ⟨hd,hs0,fun l' e=>by cases e;rw[hlen]⟩ trivial ?_ (bl _) fun i hi=>by simp at hi
  rw[hlen];exact wH (s:=.mk r)
 .--slice of a string
  obtain⟨y,ys,rfl,h2,h3⟩:=gL hx;exact CW hr h2 h3 hp
 .obtain ⟨y,ys,rfl,h2,h3⟩:=gL hx;exact CX hr h2 (hk _ (by simp)) (ha _ (by simp)) h3 hp
 .obtain ⟨x,y,rfl,h2,h3⟩:=je hx;rw[kx h3];exact KP hp hr h2 (hk _ (by simp)) (ha _ (by simp))
 .obtain ⟨x,y,rfl,h2,h3⟩:=je hx;rw[kx h3];exact KO hp hr h2 (hk _ (by simp))
 .--qb
  obtain⟨x,y,rfl,h2,h3⟩:=je hx;rw[xj h2,kx h3];obtain⟨r,hr2,hz⟩:=sG hp;exact .pure hr hz (fun _=>QJ hr2) (xi _ _) trivial
 .--index
  rename_i ag n0 sz0 n' u v _ i;obtain⟨x,y,rfl,h2,h3⟩:=je hx;rw[kx h3];obtain⟨hq,hp2⟩:=aR hp;simp only[ai,beq_iff_eq]at hq;obtain⟨⟨⟨⟨rfl,rfl⟩,q3⟩,q4⟩,q5⟩:=hq;obtain⟨m,hm,hz⟩:=sG hp2;obtain⟨rfl,hm2⟩:=fo.1 hm;rw[TK h2];obtain⟨a1,a2⟩:=Ez v hm2;have hc:Gv s.heap ag (ce u) (.x u (gt v.1 m))=true:=by simp[Gv,tW,yr,ir,q3,q4,q5]
  obtain⟨x,e1,e2⟩:=p9 (cs:=(a_ (.ar n' u) v).map .d) (off:=m*ce u) (cw:=(a_ u (gt v.1 m)).map .d) hc ⟨q4,rfl⟩ (by simpa using a1) (by rw[<-gm,<-gX,a2]);refine .pure hr hz (x:=x) (fun _=>?_) e2 trivial;simp only[aD,bh,cL,cD];rw[if_pos ⟨by omega,by omega⟩];simp only[nA,e1]
 .--append
  obtain⟨x,y,rfl,h2,h3⟩:=je hx;exact EB (t0:=t) hp hr h2 (hk _ (by simp)) (ha _ (by simp)) h3 (hk _ (by simp)) (ha _ (by simp))
 .obtain ⟨x,y,rfl,h2,h3⟩:=je hx;exact I0 (t0:=t) hp hr h2 (hk _ (by simp)) (ha _ (by simp)) h3 (hk _ (by simp)) (ha _ (by simp))
 .--clear
  obtain⟨y,rfl,h2⟩:=iO hx;exact Gt hp hr h2 (hk _ (by simp)) (ha _ (by simp))
 .--makeMap
  obtain rfl:=lV hx;split at hp
  .rename_i kt vt;obtain⟨hq,hp2⟩:=aR hp;simp only[ai,beq_iff_eq]at hq;obtain⟨⟨⟨rfl,rfl⟩,q3⟩,q4⟩:=hq;obtain⟨ks,hks⟩:=Option.isSome_iff_exists.1 q4;exact .new hr hp2 (x:=.c (.om s.next)) (fun _=>rfl) ⟨q3,⟨ks,hks⟩,rfl⟩ trivial (cu (dX rfl rfl)) (bl _) fun i hi=>by simp at hi
  .simp at hp
 .obtain ⟨x,y,rfl,h2,h3⟩:=je hx;exact Gh hr h2 h3 hp
 .obtain ⟨x,y,w,rfl,h2,h3,h4⟩:=Oy hx;rw[kx h3];exact D9 hr h2 h4 hp
 .simp at hp
end
end Go.Ev
