/- Calls: the arguments, as they are laid. Conditions: as stated. -/
import Derived.Test.YtingpmogbibghaaFq
open Bool renaming and_eq_true->ae,and_eq_true_iff->bQ,and_self->Ma,and_true->Kk,not_eq_true'->dz,or_eq_true->dE
open List renaming all_cons->dC,all_eq_true->aL,append_assoc->aI,append_nil->eI,cons_append->aK,drop_zero->cA,flatMap->gq,flatMap_cons->aZ,headD_cons->bd,length_map->aH,map_cons->am,map_nil->aO,mem_append->ah,mem_append_left->az,mem_append_right->av,mem_cons->aE,mem_cons_of_mem->aq,mem_map->c8,mem_singleton->ao,nil_sublist->fX,nodup_append->bR,singleton_append->aP,singleton_inj->dh
open List.Sublist renaming refl->bq
open Nat renaming le_refl->ai,le_succ->a_,lt_succ_self->aN,zero_le->gi
open Option.some renaming inj->aa,injEq->bp
open Prod.mk renaming inj->ad
namespace Go.Ev
def FN(k:Nat):D:=match vF k with|.d x=>x|_=>default
theorem GK(k:Nat):vF k=.d (FN k):=rfl
def ld:Sh->List V->List D×List V
 |.x _,.x u v::l=>(aJ u v,l)
 |.pt _,.x u v::l=>([.pt (aJ u v)],l)
 |.nl k,l=>([FN k],l)
 |.fn f c,l=>([.fn f (ld c l).1],(ld c l).2)
 |.pr a c,l=>((ld a l).1++(ld c (ld a l).2).1,(ld c (ld a l).2).2)
 |_,l=>([],l)
def Ad(t:Ty):Sl (El t)->Option (List (List D))
 |.nil=>none
 |.mk l=>some (l.map (aJ t))
def ql(t:Ty):Sl (Sl (El t))->T
 |.nil=>.d (.lit (.slice none 0 0))
 |.mk l=>.rK (bn t) (l.map (Ad t))
theorem z6{t:Ty}(l:List (Sl (El t))):nq (l.map (jx t))=some (l.map (Ad t)):=by induction l with|nil=>rfl|cons s l ih=>simp only[am,nq,ih];cases s<;>rfl
theorem qn{t:Ty}(l:List (Sl (El t))):(l.map (Ad t)).map iG=l.map (jx t):=by rw[List.map_map];exact List.map_congr_left fun s _=>by cases s<;>rfl
def df:Sh->List V->List T×List V
 |.x _,.x u v::l=>((aJ u v).map .d,l)
 |.os _,.x (.sl u) v::l=>([Gr (bn u) (aJ u) v],l)
 |.rw _,.x (.sl (.sl u)) v::l=>([ql u v],l)
 |.pb _ c,l=>([.pt (df c l).1],(df c l).2)
 |.nl k,l=>([.d (FN k)],l)
 |.st c,l=>df c l
 |.pr a c,l=>((df a l).1++(df c (df a l).2).1,(df c (df a l).2).2)
 |.gn,l=>([.Nl],l)
 |_,l=>([],l)
def pS:Sh->Bool
 |.x t=>iS t
 |.st _=>true
 |_=>false
def ez:List (Bool×Sh)->List V->List A
 |[],_=>[]
 |(true,c)::r,l=>.mt ((df c l).1.headD default)::ez r (df c l).2
 |(false,c)::r,l=>(bif pS c then .agg (ld c l).1 else .d ((ld c l).1.headD default))::ez r (ld c l).2
def jB:List Sh->List V->List R
 |[],_=>[]
 |c::r,l=>(bif pS c then .agg (df c l).1 else .c ((df c l).1.headD default))::jB r (df c l).2
def gC:List Sh->List V->List T
 |[],_=>[]
 |c::r,l=>(df c l).1.headD default::gC r (df c l).2
def o6:Sh->Nat
 |.x t=>bn t+1
 |.pt t=>bn t+3
 |.fn _ c=>o6 c+2
 |.pr a c=>o6 a+o6 c
 |.ni=>0
 |_=>1
section
variable{h:H2}{n:Nat}{h1:aY}
def sQ:C->Prop
 |.d _|.da _ _ _ _=>True
 |_=>False
theorem wW{c:C}(hc:sQ c)(k j:Nat):cz h1 k c=cz h1 j c:=by cases c with|d x=>rw[km,km]|da a b e f=>cases k<;>cases j<;>simp only[cz]|_=>exact hc.elim
theorem qc:∀{cs:List C}{ds:List D}{aj:List Nat}{k:Nat},(∀c∈cs,sQ c)->cm h1 cs=some (ds,aj)->cs.length<k->dF h1 k cs=some (ds,aj):=by
 intro cs;induction cs with
 |nil=>intro ds aj k _ h _;simp only[cm]at h;rw[<-h];cases k<;>rfl
 |cons c cs ih=>
  intro ds aj k hf h hk;cases k with
  |zero=>simp at hk
  |succ k=>
   simp only[cm]at h;split at h
   .rename_i x a xs b hx hxs;simp only[dF];rw[wW (hf c (by simp)) k 300,hx,ih (fun c hc=>hf c (by simp[hc])) hxs (by simpa using hk)];exact h
   .simp at h
theorem tq:∀{x y:List C}{dx dy:List D}{ix iy:List Nat}{k:Nat},dF h1 k x=some (dx,ix)->dF h1 (k-x.length) y=some (dy,iy)->x.length<=k->dF h1 k (x++y)=some (dx++dy,ix++iy):=by
 intro x;induction x with
 |nil=>
  intro y dx dy ix iy k hx hy _;have:dF h1 k []=some ([],[]):=by cases k<;>rfl
  rw[this]at hx;obtain⟨rfl,rfl⟩:=ad (aa hx);simpa using hy
 |cons c x ih=>
  intro y dx dy ix iy k hx hy hk;cases k with
  |zero=>simp at hk
  |succ k=>
   simp only[dF]at hx;split at hx
   .rename_i p a q b hp hq;obtain⟨rfl,rfl⟩:=ad (aa hx);simp only[aK,dF,hp];rw[ih hq (by simpa using hy) (by simpa using hk)];simp
   .simp at hx
theorem v7{α:Type}{sz id:Nat}{enc:α->List D}{s:Sl α}:sQ (ij sz enc id s):=by cases s<;>trivial
theorem Da{id lo:Nat}{t:Ty}{r:Sl (El t)}:sQ (qq id lo t r):=by cases r<;>trivial
theorem vY:∀(v w:V)(l:List Nat)(cs:List C),fA h v=some (w,l)->cY h v cs->eT h v=true->∀c∈cs,sQ c:=by
 have fl:∀(ds:List D),∀c∈ds.map C.d,sQ c:=fun ds c hc=>by obtain⟨d,_,rfl⟩:=c8.1 hc;trivial
 intro v;induction v with
 |so id=>
  intro w l cs hf hv _ c hc;simp only[fA]at hf;split at hf
  .rename_i t s l' hs;obtain⟨ver,ho,_⟩:=nr hs;obtain⟨c',rfl,hc'⟩:=hv;obtain rfl:=ao.1 hc;rw[hc'.1 _ (ii ho)];exact v7
  .simp at hf
 |sr id=>
  intro w l cs hf hv _ c hc;simp only[fA]at hf;split at hf
  .rename_i t s ho;obtain⟨c',rfl,hc'⟩:=hv;obtain rfl:=ao.1 hc;rw[hc'.1 _ (Sp ho)];exact v7
  .simp at hf
 |sb id ver lo t r=>intro w l cs hf hv ha c hc;obtain⟨c',rfl,hc'⟩:=hv;obtain rfl:=ao.1 hc;rw[hc'.1 (bQ.1 ha).2];exact Da
 |rc r ih=>
  intro w l cs hf hv ha;simp only[fA]at hf;split at hf
  .rename_i w' l' hw;exact ih w' l' cs hw hv ha
  .simp at hf
 |co a r iha ihr=>
  intro w l cs hf hv ha c hc;simp only[fA]at hf;split at hf
  .rename_i x l1 y l2 hx hy;obtain⟨ca,cr,rfl,h2,h3⟩:=hv;simp only[eT,ae]at ha;rcases ah.1 hc with hc|hc
   .exact iha x l1 ca hx h2 ha.1 c hc
   .exact ihr y l2 cr hy h3 ha.2 c hc
  .simp at hf
 |x t v=>intro w l cs hf hv _;obtain⟨_,rfl⟩:=hv;exact fl _
 |kb c=>intro w l cs hf hv _;obtain rfl:=hv;exact fl [_]
 |nl k=>intro w l cs hf hv _;obtain rfl:=hv;exact fl [_]
 |fl q=>intro w l cs hf hv _;obtain⟨_,rfl⟩:=hv;rw[tW];exact fl _
 |ni=>intro w l cs hf hv _;obtain rfl:=hv;exact fl []
 |pt t v=>intro w l cs hf hv _;obtain⟨_,rfl⟩:=hv;exact fl [_]
 |fn z f q ih=>intro w l cs hf hv _;cases z with|true=>obtain⟨ds,_,rfl⟩:=hv;exact fl [_]|false=>simp[fA]at hf
 |_=>intro w l cs hf hv;simp[fA]at hf
theorem Dx:∀(v:V)(ds:List D),kN v=some ds->cY h v (ds.map .d):=by
 intro v;induction v with
 |co a r iha ihr=>
  intro ds hd;simp only[kN]at hd;split at hd
  .rename_i x y hx hy;obtain rfl:=aa hd;exact⟨_,_,by simp,iha x hx,ihr y hy⟩
  .simp at hd
 |pt t v=>
  intro ds hd;simp only[kN]at hd;split at hd
  .rename_i ht;obtain rfl:=aa hd;exact⟨ht,rfl⟩
  .simp at hd
 |ni=>intro ds hd;obtain rfl:[]=ds:=by simpa[kN]using hd
      rfl
 |_=>intro ds hd;simp[kN]at hd
theorem rG:∀(v:V),ut v=true->eT h v=true/\∀n,cX n h v:=by intro v;induction v with|co a r iha ihr=>intro hv;simp only[ut,ae]at hv;exact⟨by simp only[eT,(iha hv.1).1,(ihr hv.2).1,Ma],fun n=>⟨(iha hv.1).2 n,(ihr hv.2).2 n⟩⟩|pt t v=>intro hv;exact⟨hv,fun _=>trivial⟩|ni=>intro _;exact⟨rfl,fun _=>trivial⟩|_=>intro hv;simp[ut]at hv
theorem Bq(hr:HR n h1 h):∀(c:Sh)(v:V)(l:List V)(i:List Nat)(cs:List C),js h c v=some (l,i)->cY h v cs->cX n h v->eT h v=true->
  ∃ds aj,(∀k,o6 c<=k->dF h1 k cs=some (ds,aj))/\(∀r,ld c (l++r)=(ds,r))/\(∀j∈aj,j∈i/\¬iA h j)/\(∀j∈i,j∈aj\/iA h j)/\cs.length<=o6 c:=by
 intro c;induction c with
 |x t=>
  intro v l i cs ha hv hk hal;simp only[js]at ha;split at ha
  .rename_i w l' hw;split at ha
   .rename_i y hy;obtain⟨rfl,rfl⟩:=ad (aa ha);obtain⟨ds,aj,f1,f2,f3,f4,_⟩:=mi hr v w l' cs hw hv hk hal;have e3:=jW (fq w false t y _ hy f2);subst e3;have hl:cs.length=bn t:=by rw[<-nh f1,bg]
    exact⟨_,aj,fun k hk=>qc (vY v w l' cs hw hv hal) f1 (by simp only[o6]at hk;omega),fun r=>rfl,f3,f4,by simp only[o6];omega⟩
   .simp at ha
  .simp at ha
 |pt t=>
  intro v l i cs ha hv hk hal;cases v with
  |pt u v=>
   simp only[js]at ha;split at ha
   .rename_i y hy;obtain⟨rfl,rfl⟩:=ad (aa ha);obtain⟨e,_⟩:=ph hy;obtain⟨_,rfl⟩:=hv;refine⟨[.pt (aJ t y)],[],fun k hk=>?_,fun r=>rfl,fun j hj=>by simp at hj,fun j hj=>by simp at hj,by simp[o6]⟩;rw[<-e];exact pV (h1:=h1) [.pt (aJ t y)] k (by simp only[o6]at hk;simp;omega)
   .simp at ha
  |op id u p=>
   cases p with
   |cons=>simp[js]at ha
   |nil=>
    obtain rfl:=hv;have e0:iE u []=0:=by cases u<;>rfl
    rw[e0];simp only[js]at ha;split at ha
    .rename_i w c ho;obtain⟨hc,ha⟩:=aD ha;simp only[ae,decide_eq_true_eq]at hc;split at ha
     .rename_i c' l' hw;split at ha
      .rename_i y hy;obtain⟨rfl,rfl⟩:=ad (aa ha);obtain⟨_,⟨cb,e1,e2,e3⟩,e4⟩:=hr.ob id _ ho;obtain⟨ds,aj,f1,f2,f3,f4,_⟩:=mi hr c c' l' cb hw e2 e4 hc.2;have e5:=jW (fq c' false t y _ hy f2);subst e5;have hl:cb.length=bn t:=by rw[<-nh f1,bg]
       have hnil:¬iA h id:=by
        rintro(⟨u',v',e⟩|⟨u',ln',e⟩)
        .rcases e with e|e<;>rw[ho]at e<;>simp at e
        .rw [ho]at e;cases e
       refine⟨[.pt (aJ t y)],id::aj,fun k hk=>?_,fun r=>rfl,fun j hj=>?_,fun j hj=>?_,by simp[o6]⟩
       .simp only[o6]at hk;obtain⟨k,rfl⟩:∃k',k=k'+2:=⟨k-2,by omega⟩
        have hv:dF h1 k cb=some (aJ t y,aj):=qc (vY c c' l' cb hw e2 hc.2) f1 (by omega);simp only[dF,cz,e1,hv,gi,if_true,cA,eI]
       .rcases aE.1 hj with rfl|hj
        .exact ⟨by simp,hnil⟩
        .exact ⟨by simp[(f3 j hj).1],(f3 j hj).2⟩
       .rcases aE.1 hj with rfl|hj
        .exact .inl (by simp)
        .exact (f4 j hj).imp (fun q=>by simp[q]) (fun q=>q)
      .simp at ha
     .simp at ha
    .rename_i w v ho;obtain⟨hc,ha⟩:=aD ha;split at ha
     .rename_i y hy;obtain⟨rfl,rfl⟩:=ad (aa ha);obtain⟨e,_⟩:=ph hy;obtain⟨_,⟨_,e1⟩,_⟩:=hr.ob id _ ho
      have hnil:¬iA h id:=by
       rintro(⟨u',v',e⟩|⟨u',ln',e⟩)
       .rcases e with e|e<;>rw[ho]at e<;>simp at e
       .rw [ho]at e;cases e
      refine⟨[.pt (aJ t y)],[id],fun k hk=>?_,fun r=>rfl,fun j hj=>?_,fun j hj=>.inl hj,by simp[o6]⟩
      .simp only[o6]at hk;obtain⟨k,rfl⟩:∃k',k=k'+2:=⟨k-2,by omega⟩
       simp only[dF,cz,e1,gi,if_true,cA,eI,e]
      .obtain rfl:=ao.1 hj;exact⟨by simp,hnil⟩
     .simp at ha
    .simp at ha
  |ep id m u p=>
   cases p with
   |cons=>simp[js]at ha
   |nil=>
    obtain rfl:=hv;have e0:iE u []=0:=by cases u<;>rfl
    rw[e0]
    have key:∀(w:Ty)(s:Sl (El w))(ver:Nat),(fO h id=some (.ar w s ver)\/fO h id=some (.im w s ver))->(bif decide (w=u)then(match dT w t (gt s.l m)with|some y=>some ([V.x t y],[id])|none=>none)else none)=some (l,i)->
      ∃ds aj,(∀k,o6 (.pt t)<=k->dF h1 k [.ep id m 0]=some (ds,aj))/\(∀r,ld (.pt t) (l++r)=(ds,r))/\(∀j∈aj,j∈i/\¬iA h j)/\(∀j∈i,j∈aj\/iA h j)/\[C.ep id m 0].length<=o6 (.pt t):=by
     intro w s ver ho ha;obtain⟨_,ha⟩:=aD ha;split at ha
     .rename_i y hy;obtain⟨rfl,rfl⟩:=ad (aa ha);obtain⟨e,_⟩:=ph hy;have hm:=hk.2.2.1 w s ver ho;cases s with
      |nil=>simp[Sl.l]at hm
      |mk q=>
       refine⟨[.pt (aJ t y)],[id],fun k hk=>?_,fun r=>rfl,fun j hj=>?_,fun j hj=>.inl hj,by simp[o6]⟩
       .simp only[o6]at hk;obtain⟨k,rfl⟩:∃k',k=k'+1:=⟨k-1,by omega⟩
        have hg:(q.map (aJ w))[m]?=some (aJ w (gt q m)):=t5 hm;have e2:aJ w (gt q m)=aJ t y:=e.symm;rcases ho with ho|ho
        .have e1:=(hr.ob id _ ho).2.1.2.2 q rfl;have:cz h1 k (.ep id m 0)=some (.pt (aJ t y),[id]):=by cases k<;>simp only[cz,e1,hg,gi,if_true,cA,e2]
         simp only[dF,this,eI]
        .have e1:=(hr.ob id _ ho).2.1.2.2 q rfl;have:cz h1 k (.ep id m 0)=some (.pt (aJ t y),[id]):=by cases k<;>simp only[cz,e1,hg,gi,if_true,cA,e2]
         simp only[dF,this,eI]
       .obtain rfl:=ao.1 hj;exact⟨by simp,qL ho⟩
     .simp at ha
    simp only[js]at ha;split at ha
    .rename_i ho;exact key _ _ _ (.inl ho) ha
    .rename_i ho;exact key _ _ _ (.inr ho) ha
    .simp at ha
  |_=>simp[js]at ha
 |nl k=>
  intro v l i cs ha hv hk hal;cases v with
  |nl k'=>
   simp only[js]at ha;obtain⟨hc,ha2⟩:=aD ha;obtain rfl:k=k':=by simpa using hc
   obtain⟨rfl,rfl⟩:=ad (aa ha2);obtain rfl:=hv;refine⟨[FN k],[],fun j hj=>?_,fun r=>rfl,fun j hj=>by simp at hj,fun j hj=>by simp at hj,by simp[o6]⟩;simp only[o6]at hj;obtain⟨j,rfl⟩:∃k',j=k'+1:=⟨j-1,by omega⟩
   have e:dF h1 j []=some ([],[]):=by cases j<;>rfl
   rw[GK];simp only[dF,km,e,eI]
  |_=>simp[js]at ha
 |fn f c ih=>
  intro v l i cs ha hv hk hal;cases v with
  |fn z f' q=>
   simp only[js]at ha;obtain⟨hc,ha2⟩:=aD ha;obtain rfl:f=f':=by simpa using hc
   cases z with
   |true=>
    obtain⟨ds0,hd,rfl⟩:=hv;have hal':ut q=true:=hal;obtain⟨a1,a2⟩:=rG (h:=h) q hal';obtain⟨ds,aj,g1,g2,g3,g4,g5⟩:=ih q l i (ds0.map .d) ha2 (Dx q ds0 hd) (a2 n) a1;have e:=g1 (o6 c+ds0.length+1) (by omega);rw[pV ds0 _ (by omega)]at e;obtain⟨rfl,rfl⟩:=ad (aa e);refine⟨[.fn f ds0],[],fun k hk=>?_,fun r=>?_,g3,g4,by simp[o6]⟩
    .simp only[o6]at hk;exact pV (h1:=h1) [.fn f ds0] k (by simp;omega)
    .simp only[ld,g2 r]
   |false=>
    obtain⟨xs,h2,rfl⟩:=hv;obtain⟨ds,aj,g1,g2,g3,g4,g5⟩:=ih q l i xs ha2 h2 hk hal;refine⟨[.fn f ds],aj,fun k hk=>?_,fun r=>?_,g3,g4,by simp[o6]⟩
    .simp only[o6]at hk;obtain⟨k,rfl⟩:∃k',k=k'+2:=⟨k-2,by omega⟩
     simp only[dF,cz,g1 k (by omega),eI]
    .simp only[ld,g2 r]
  |_=>simp[js]at ha
 |pr a c iha ihc=>
  intro v l i cs ha hv hk hal;cases v with
  |co x r=>
   simp only[js]at ha;split at ha
   .rename_i l1 i1 l2 i2 h2 h3;obtain⟨rfl,rfl⟩:=ad (aa ha);obtain⟨cx,cr,rfl,h4,h5⟩:=hv;simp only[eT,ae]at hal;obtain⟨d1,j1,a1,a2,a3,a4,a5⟩:=iha x l1 i1 cx h2 h4 hk.1 hal.1;obtain⟨d2,j2,b1,b2,b3,b4,b5⟩:=ihc r l2 i2 cr h3 h5 hk.2 hal.2;refine⟨d1++d2,j1++j2,fun k hk=>?_,fun r=>?_,fun j hj=>?_,fun j hj=>?_,by simp[o6];omega⟩
    .simp only[o6]at hk;exact tq (a1 k (by omega)) (b1 _ (by omega)) (by omega)
    .simp only[ld,aI,a2,b2]
    .rcases ah.1 hj with hj|hj
     .exact ⟨az _ (a3 j hj).1,(a3 j hj).2⟩
     .exact ⟨av _ (b3 j hj).1,(b3 j hj).2⟩
    .rcases ah.1 hj with hj|hj
     .exact (a4 j hj).imp (az _) id
     .exact (b4 j hj).imp (av _) id
   .simp at ha
  |_=>simp[js]at ha
 |ni=>intro v l i cs ha hv hk hal;cases v with|ni=>obtain⟨rfl,rfl⟩:=ad (aa ha);obtain rfl:=hv;exact⟨[],[],fun k _=>(by cases k<;>rfl),fun r=>rfl,fun j hj=>by simp at hj,fun j hj=>by simp at hj,by simp⟩|_=>simp[js]at ha
 |_=>intro v l i cs ha;simp[js]at ha
end
def kQ:Sh->Nat
 |.x t=>bn t+1
 |.pb _ c=>kQ c+2
 |.st c=>kQ c
 |.pr a c=>kQ a+kQ c
 |.ni=>0
 |_=>1
section
variable{h:H2}{n:Nat}{h1:aY}
theorem nV(k:Nat)(x:D):cG h1 k (.d x)=some (.d x,[],[]):=by cases k<;>rfl
theorem jL(k:Nat):eY h1 k []=some ([],[],[]):=by cases k<;>rfl
theorem kr:∀(ds:List D)(k:Nat),ds.length<=k->eY h1 k (ds.map .d)=some (ds.map .d,[],[]):=by
 intro ds;induction ds with
 |nil=>intro k _;exact jL k
 |cons d ds ih=>intro k hk;cases k with|zero=>simp at hk|succ k=>simp only[am,eY,nV,ih k (by simpa using hk),eI]
theorem nU:∀{x y:List C}{tx ty:List T}{ox oy ix iy:List Nat}{k:Nat},eY h1 k x=some (tx,ox,ix)->eY h1 (k-x.length) y=some (ty,oy,iy)->x.length<=k->eY h1 k (x++y)=some (tx++ty,ox++oy,ix++iy):=by
 intro x;induction x with
 |nil=>intro y tx ty ox oy ix iy k hx hy _;rw[jL]at hx;obtain⟨rfl,e⟩:=ad (aa hx);obtain⟨rfl,rfl⟩:=ad e;simpa using hy
 |cons c x ih=>
  intro y tx ty ox oy ix iy k hx hy hk;cases k with
  |zero=>simp at hk
  |succ k=>
   simp only[eY]at hx;split at hx
   .rename_i p a i q b j hp hq;obtain⟨rfl,e⟩:=ad (aa hx);obtain⟨rfl,rfl⟩:=ad e;simp only[aK,eY,hp];rw[ih hq (by simpa using hy) (by simpa using hk)];simp
   .simp at hx
theorem nT{c:C}{t:T}{aW rd:List Nat}{k:Nat}(hc:cG h1 k c=some (t,aW,rd)):eY h1 (k+1) [c]=some ([t],aW,rd):=by simp only[eY,hc,jL,eI]
theorem Jc{t:Ty}{id k:Nat}{q:List (Sl (El t))}(h:ak h1 id=some (.nst (bn t) (cT t q none))):cG h1 k (ij 1 (aJ (.sl t)) id (Sl.mk q:Sl (Sl (El t))))=some (.rK (bn t) (q.map (Ad t)),[id],[id]):=by simp only[ij,cT]at h|-;cases k<;>simp only[cG,h,aH,and_self,if_true,z6]
theorem pm(hr:HR n h1 h):∀(c:Sh)(ln:Bool)(v:V)(l:List V)(i:List Nat)(cs:List C),Wo h c ln v=some (l,i)->cY h v cs->cX n h v->
  ∃ts aW rd,(∀k,kQ c<=k->eY h1 k cs=some (ts,aW,rd))/\(∀r,df c (l++r)=(ts,r))/\aW.Sublist i/\(∀j∈i,j∈aW\/iA h j)/\(∀j∈rd,j∈i)/\cs.length<=kQ c/\(∀j∈i,j<n):=by
 intro c;induction c with
 |x t=>
  intro ln v l i cs ha hv hk;cases ln with
  |true=>simp[Wo]at ha
  |false=>
   simp only[Wo]at ha;split at ha
   .rename_i y hy;obtain⟨rfl,rfl⟩:=ad (aa ha);have e:=fq v false t y cs hy hv;subst e;exact⟨_,[],[],fun k hk=>kr _ k (by rw[bg];simp only[kQ]at hk;omega),fun r=>rfl,bq _,fun j hj=>by simp at hj,fun j hj=>hj,by simp[kQ,bg],fun j hj=>by simp at hj⟩
   .simp at ha
 |os t=>
  intro ln v l i cs ha hv hk;cases ln with
  |true=>simp[Wo]at ha
  |false=>
   cases v with
   |so id=>
    simp only[Wo]at ha;split at ha
    .rename_i u s ver ho;split at ha
     .rename_i s' hs;obtain⟨rfl,rfl⟩:=ad (aa ha);obtain⟨e,rfl⟩:=bL hs;cases e;obtain⟨c,rfl,hc⟩:=hv;rw[hc.1 _ (ii (.inl ho))];cases s with
      |nil=>exact⟨[.d (.lit (.slice none 0 0))],[],[],fun k hk=>kr [.lit (.slice none 0 0)] k (by simpa[kQ]using hk),fun r=>rfl,fX _,fun j hj=>by obtain rfl:=ao.1 hj;exact .inr (.inl ⟨_,_,.inl ho⟩),fun j hj=>by simp at hj,by simp[kQ],fun j hj=>by obtain rfl:=ao.1 hj;exact hk⟩
      |mk q=>
       have e1:=(hr.ob id _ ho).2.1.2.2 q rfl;refine⟨[.sl (bn t) (q.map (aJ t))],[id],[id],fun k hk=>?_,fun r=>rfl,bq _,fun j hj=>.inl hj,fun j hj=>hj,by simp[kQ],fun j hj=>by obtain rfl:=ao.1 hj;exact hk⟩;obtain⟨k,rfl⟩:∃k',k=k'+1:=⟨k-1,by simp only[kQ]at hk;omega⟩
       exact nT (JG e1)
     .simp at ha
    .simp at ha
   |nl k=>cases k with|zero=>obtain⟨rfl,rfl⟩:=ad (aa ha);obtain rfl:=hv;exact⟨[.d (.lit (.slice none 0 0))],[],[],fun k hk=>kr [.lit (.slice none 0 0)] k (by simpa[kQ]using hk),fun r=>rfl,bq _,fun j hj=>by simp at hj,fun j hj=>hj,by simp[kQ],fun j hj=>by simp at hj⟩|succ k=>simp[Wo]at ha
   |_=>simp[Wo]at ha
 |rw t=>
  intro ln v l i cs ha hv hk;cases ln with
  |true=>simp[Wo]at ha
  |false=>
   cases v with
   |sr id=>
    simp only[Wo]at ha;split at ha
    .rename_i u s ho;split at ha
     .rename_i s' hs;obtain⟨rfl,rfl⟩:=ad (aa ha);obtain⟨e,rfl⟩:=bL hs;cases e;obtain⟨c,rfl,hc⟩:=hv;rw[hc.1 _ (Sp ho)];cases s with
      |nil=>exact⟨[.d (.lit (.slice none 0 0))],[],[],fun k hk=>kr [.lit (.slice none 0 0)] k (by simpa[kQ]using hk),fun r=>rfl,fX _,fun j hj=>by obtain rfl:=ao.1 hj;exact .inr (.inr ⟨_,_,ho⟩),fun j hj=>by simp at hj,by simp[kQ],fun j hj=>by obtain rfl:=ao.1 hj;exact hk⟩
      |mk q=>
       have e1:=(hr.ob id _ ho).2.1.2.2 q rfl;refine⟨[.rK (bn t) (q.map (Ad t))],[id],[id],fun k hk=>?_,fun r=>rfl,bq _,fun j hj=>.inl hj,fun j hj=>hj,by simp[kQ],fun j hj=>by obtain rfl:=ao.1 hj;exact hk⟩;obtain⟨k,rfl⟩:∃k',k=k'+1:=⟨k-1,by simp only[kQ]at hk;omega⟩
       exact nT (Jc e1)
     .simp at ha
    .simp at ha
   |nl k=>cases k with|zero=>obtain⟨rfl,rfl⟩:=ad (aa ha);obtain rfl:=hv;exact⟨[.d (.lit (.slice none 0 0))],[],[],fun k hk=>kr [.lit (.slice none 0 0)] k (by simpa[kQ]using hk),fun r=>rfl,bq _,fun j hj=>by simp at hj,fun j hj=>hj,by simp[kQ],fun j hj=>by simp at hj⟩|succ k=>simp[Wo]at ha
   |_=>simp[Wo]at ha
 |pb t c ih=>
  intro ln v l i cs ha hv hk;cases ln with
  |true=>simp[Wo]at ha
  |false=>
   cases v with
   |op id u p=>
    cases p with
    |cons=>simp[Wo]at ha
    |nil=>
     simp only[Wo]at ha;split at ha
     .rename_i w q ho;obtain⟨hc,ha2⟩:=aD ha;split at ha2
      .rename_i l' i' ha3;obtain⟨rfl,rfl⟩:=ad (aa ha2);obtain rfl:=hv;have e0:iE u []=0:=by cases u<;>rfl
       rw[e0];obtain⟨_,⟨cb,e1,e2,e3⟩,e4⟩:=hr.ob id _ ho;obtain⟨ts,aW,rd,g1,g2,g3,g4,g5,g6,g7⟩:=ih false q l' i' cb ha3 e2 e4;refine⟨[.pt ts],id::aW,id::rd,fun k hk=>?_,fun r=>by simp only[df,g2 r],g3.cons_cons _,fun j hj=>?_,fun j hj=>?_,by simp[kQ],fun j hj=>?_⟩
       .obtain ⟨k,rfl⟩:∃k',k=k'+2:=⟨k-2,by simp only[kQ]at hk;omega⟩
        refine nT ?_;simp only[cG,e1,g1 k (by simp only[kQ]at hk;omega)]
       .rcases aE.1 hj with rfl|hj
        .exact .inl (by simp)
        .exact (g4 j hj).imp (fun q=>by simp[q]) (fun q=>q)
       .rcases aE.1 hj with rfl|hj
        .simp
        .simp [g5 j hj]
       .rcases aE.1 hj with rfl|hj
        .exact hk.1
        .exact g7 j hj
      .simp at ha2
     .simp at ha
   |_=>simp[Wo]at ha
 |nl k=>
  intro ln v l i cs ha hv hk;cases ln with
  |true=>simp[Wo]at ha
  |false=>
   cases v with
   |nl k'=>
    simp only[Wo]at ha;obtain⟨hc,ha2⟩:=aD ha;obtain rfl:k=k':=by simpa using hc
    obtain⟨rfl,rfl⟩:=ad (aa ha2);obtain rfl:=hv;exact⟨[.d (FN k)],[],[],fun j hj=>kr [FN k] j (by simpa[kQ]using hj),fun r=>rfl,bq _,fun j hj=>by simp at hj,fun j hj=>hj,by simp[kQ],fun j hj=>by simp at hj⟩
   |_=>simp[Wo]at ha
 |st c ih=>
  intro ln v l i cs ha hv hk;cases ln with
  |true=>simp[Wo]at ha
  |false=>
   cases v with
   |rc q=>exact ih true q l i cs ha hv hk
   |x t v=>cases t with|st u=>obtain⟨hd,rfl⟩:=hv;exact ih true (zZ u v) l i _ ha (tw u v hd) (w9 u v)|_=>simp[Wo]at ha
   |_=>simp[Wo]at ha
 |pr a c iha ihc=>
  intro ln v l i cs ha hv hk;cases ln with
  |false=>simp[Wo]at ha
  |true=>
   cases v with
   |co x r=>
    simp only[Wo]at ha;split at ha
    .rename_i l1 i1 l2 i2 h2 h3;obtain⟨rfl,rfl⟩:=ad (aa ha);obtain⟨cx,cr,rfl,h4,h5⟩:=hv
     have hA:∃ts aW rd,(∀k,kQ a<=k->eY h1 k cx=some (ts,aW,rd))/\(∀r,df a (l1++r)=(ts,r))/\aW.Sublist i1/\(∀j∈i1,j∈aW\/iA h j)/\(∀j∈rd,j∈i1)/\cx.length<=kQ a/\(∀j∈i1,j<n):=by
      split at h2
      .rename_i t u v;unfold GN at h2;split at h2
       .obtain ⟨rfl,rfl⟩:=ad (aa h2);obtain⟨_,rfl⟩:=h4;exact⟨[.d (.lit (.slice none 0 0))],[],[],fun k hk=>kr [.lit (.slice none 0 0)] k (by simpa[kQ]using hk),fun r=>rfl,bq _,fun j hj=>by simp at hj,fun j hj=>hj,by simp[kQ,aJ],fun j hj=>by simp at hj⟩
       .simp at h2
      .exact iha false x l1 i1 cx h2 h4 hk.1
     obtain⟨t1,o1,r1,a1,a2,a3,a4,a5,a6,a7⟩:=hA;obtain⟨t2,o2,r2,b1,b2,b3,b4,b5,b6,b7⟩:=ihc true r l2 i2 cr h3 h5 hk.2;refine⟨t1++t2,o1++o2,r1++r2,fun k hk=>?_,fun r=>?_,a3.append b3,fun j hj=>?_,fun j hj=>?_,by simp[kQ];omega,fun j hj=>?_⟩
     .simp only[kQ]at hk;exact nU (a1 k (by omega)) (b1 _ (by omega)) (by omega)
     .simp only[df,aI,a2,b2]
     .rcases ah.1 hj with hj|hj
      .exact (a4 j hj).imp (az _) (fun q=>q)
      .exact (b4 j hj).imp (av _) (fun q=>q)
     .rcases ah.1 hj with hj|hj
      .exact az _ (a5 j hj)
      .exact av _ (b5 j hj)
     .rcases ah.1 hj with hj|hj
      .exact a7 j hj
      .exact b7 j hj
    .simp at ha
   |_=>simp[Wo]at ha
 |ni=>
  intro ln v l i cs ha hv hk;cases ln with
  |false=>cases v<;>simp[Wo]at ha
  |true=>cases v with|ni=>obtain⟨rfl,rfl⟩:=ad (aa ha);obtain rfl:=hv;exact⟨[],[],[],fun k _=>jL k,fun r=>rfl,bq _,fun j hj=>by simp at hj,fun j hj=>hj,by simp,fun j hj=>by simp at hj⟩|_=>simp[Wo]at ha
 |_=>intro ln v l i cs ha;cases ln<;>simp[Wo]at ha
theorem wZ:∀(a b:List T)(m:Nat),eW m (a++b)=((eW m a).1++(eW (eW m a).2.2 b).1,(eW m a).2.1++(eW (eW m a).2.2 b).2.1,(eW (eW m a).2.2 b).2.2):=by intro a;induction a with|nil=>intro b m;simp[eW]|cons t a ih=>intro b m;simp only[aK,eW,ih,aI]
theorem MQ(t:T)(m:Nat):eW m [t]=([(gJ m t).1],(gJ m t).2.1,(gJ m t).2.2):=by simp[eW]
theorem Ia:∀(ds:List D)(m:Nat),eW m (ds.map T.d)=(ds.map .d,[],m+ds.length):=by intro ds;induction ds with|nil=>intro m;rfl|cons d ds ih=>intro m;simp only[am,eW,gJ,ih,List.nil_append,List.length_cons];congr 2;omega
theorem oU{a b:de}(hd:∀p∈a,∀q∈b,p.1≠q.1)(i:Nat):ak (a++b++h1) i=ak (b++(a++h1)) i:=by rw[dZ,dZ,dZ,<-cF,iu hd]
structure Mk(s s':S2)(h1:aY)(u:de):Prop where
 hr:HR s'.next (u++h1) s'.heap
 c9:fF s.next s.heap s'.heap
 bS:s'.bS=s.bS
 gh:s'.gh=s.gh
 le:s.next<=s'.next
 xY:∀p∈u,s.next<=p.1/\p.1<s'.next
 wo:∃W,s'.wo=W++s.wo/\(∀p∈u,p.1∈W)/\(∀i∈W,s.next<=i/\i<s'.next)/\∀i,i∉W->fO s'.heap i=fO s.heap i
theorem Mk.skip{s:S2}{m:Nat}(hr:HR s.next h1 s.heap)(hm:s.next<=m):Mk s {s with next:=m} h1 []:=⟨hr.mono hm,fF.refl _ _,rfl,rfl,hm,fun p hp=>by simp at hp,[],rfl,fun p hp=>by simp at hp,fun i hi=>by simp at hi,fun _ _=>rfl⟩
theorem Mk.seq{s s1 s2:S2}{u1 u2:de}(a:Mk s s1 h1 u1)(b:Mk s1 s2 (u1++h1) u2):Mk s s2 h1 (u1++u2):=by
 obtain⟨a3,a4,a5,a6,a7,a8,W,v1,v2,v3,v4⟩:=a;obtain⟨b3,b4,b5,b6,b7,b8,X,x1,x2,x3,x4⟩:=b;refine⟨?_,a4.trans a7 b4,b5.trans a5,b6.trans a6,by omega,fun p hp=>?_,X++W,by rw[x1,v1,aI],fun p hp=>?_,fun i hi=>?_,fun i hi=>?_⟩
 .exact b3.ext fun i=>oU (fun p hp q hq e=>by have:=(a8 p hp).2;have:=(b8 q hq).1;omega) i
 .rcases ah.1 hp with hp|hp
  .have:=a8 p hp;omega
  .have:=b8 p hp;omega
 .rcases ah.1 hp with hp|hp
  .exact av _ (v2 p hp)
  .exact az _ (x2 p hp)
 .rcases ah.1 hi with hi|hi
  .have:=x3 i hi;omega
  .have:=v3 i hi;omega
 .rw [x4 i fun q=>hi (az _ q),v4 i fun q=>hi (av _ q)]
end
section
variable{h:H2}{n:Nat}
theorem fF.bx{id:Nat}{t:Ty}{c:V}:fF n h ((id,some (.bx t c))::h):=⟨fun i o hi ho=>by
 rw[bI]at ho;split at ho
 .obtain rfl:=aa ho;exact .inr rfl
 .exact .inl ⟨o,ho,lW.refl _⟩⟩
theorem Mk.one{s:S2}{h1:aY}{o:O}{b:Option Ob}{u:de}(hr:HR s.next h1 s.heap)(hu:u=[(s.next,b)]\/(u=[]/\∀b',KB ((s.next,some o)::s.heap) o b'))(hb:u=[(s.next,b)]->KB ((s.next,some o)::s.heap) o b)
  (hko:uC (s.next+1) ((s.next,some o)::s.heap) o):Mk s (fI s o) h1 u:=by
 have hd:=Se.new (x:=.fm []) (v:=.no) (aj:=[]) (l:=[]) (m:=s.next+1) hr hu hb hko rfl trivial (fun i hi=>by simp at hi) (ai _);refine⟨hd.hr,hd.c9,rfl,rfl,a_ _,fun p hp=>?_,[s.next],rfl,fun p hp=>?_,fun i hi=>?_,fun i hi=>?_⟩
 .rcases hu with rfl|⟨rfl,_⟩
  .obtain rfl:=ao.1 hp;exact⟨ai _,aN _⟩
  .simp at hp
 .rcases hu with rfl|⟨rfl,_⟩
  .obtain rfl:=ao.1 hp;simp
  .simp at hp
 .obtain rfl:=ao.1 hi;exact⟨ai _,aN _⟩
 .simp only[fI];rw[bI,if_neg fun e=>hi (by simp[e])]
theorem Nf:∀(c:Sh)(ln:Bool)(l:List V)(s:S2)(w:V)(l':List V)(s':S2)(h1:aY),ll c ln l s=some (w,l',s')->HR s.next h1 s.heap->
  cY s'.heap w (eW s.next (df c l).1).1/\cX s'.next s'.heap w/\Mk s s' h1 (eW s.next (df c l).1).2.1/\s'.next=(eW s.next (df c l).1).2.2/\l'=(df c l).2/\(ln=false->mu w=pS c):=by
 intro c;induction c with
 |x t=>
  intro ln l s w l' s' h1 hm hr;cases ln with
  |true=>simp[ll]at hm
  |false=>match l with|.x u v::l=>simp only[ll]at hm;obtain⟨hc,hm2⟩:=aD hm;simp only[ae,decide_eq_true_eq]at hc;obtain⟨rfl,hd⟩:=hc;obtain⟨rfl,e⟩:=ad (aa hm2);obtain⟨rfl,rfl⟩:=ad e;simp only[df,Ia,bg];exact⟨⟨hd,rfl⟩,trivial,Mk.skip hr (Nat.le_add_right _ _),trivial,trivial,fun _=>rfl⟩|[]|.kb _::_|.nl _::_|.so _::_|.sr _::_|.sb _ _ _ _ _::_|.op _ _ _::_|.ep _ _ _ _::_|.pt _ _::_|.fn _ _ _::_|.om _::_|.rc _::_|.tp _::_|.ni::_|.co _ _::_|.fl _::_|.no::_|.gn::_=>simp[ll]at hm
 |os t=>
  intro ln l s w l' s' h1 hm hr;cases ln with
  |true=>simp[ll]at hm
  |false=>
   match l with
   |.x (.sl u) v::l=>
    simp only[ll]at hm;obtain⟨hc,hm2⟩:=aD hm;simp only[ae,decide_eq_true_eq]at hc;obtain⟨rfl,hd⟩:=hc;obtain⟨d1,d2⟩:=Vt hd;obtain⟨rfl,e⟩:=ad (aa hm2);obtain⟨rfl,rfl⟩:=ad e;simp only[df,MQ];have hv:cY (fI s (.ar u v 0)).heap (.so s.next) [ij (bn u) (aJ u) s.next v]:=⟨_,rfl,fun c' hc'=>by simp only[fI,mM]at hc';exact aa hc',tE⟩
    cases v with|nil=>exact⟨hv,aN _,Mk.one (b:=none) hr (.inr ⟨rfl,fun b'=>⟨d1,d2,fun l e=>by cases e⟩⟩) (fun e=>by cases e) trivial,by first|rfl|trivial,by first|rfl|trivial,fun _=>rfl⟩|mk q=>exact⟨hv,aN _,Mk.one (b:=some (.aB (bn u) (q.map (aJ u)))) hr (.inl rfl) (fun _=>⟨d1,d2,fun l e=>by cases e;rfl⟩) trivial,by first|rfl|trivial,by first|rfl|trivial,fun _=>rfl⟩
   |[]|.kb _::_|.nl _::_|.so _::_|.sr _::_|.sb _ _ _ _ _::_|.op _ _ _::_|.ep _ _ _ _::_|.pt _ _::_|.fn _ _ _::_|.om _::_|.rc _::_|.tp _::_|.ni::_|.co _ _::_|.fl _::_|.no::_|.gn::_=>simp[ll]at hm
   |.x (.i _) _::_|.x .b _::_|.x .s _::_|.x (.f _) _::_|.x (.mp _ _) _::_|.x .un _::_|.x (.pr _ _) _::_|.x (.st _) _::_|.x (.ar _ _) _::_|.x (.o _) _::_=>simp[ll]at hm
 |rw t=>
  intro ln l s w l' s' h1 hm hr;cases ln with
  |true=>simp[ll]at hm
  |false=>
   match l with
   |.x (.sl (.sl u)) v::l=>
    simp only[ll]at hm;obtain⟨hc,hm2⟩:=aD hm;simp only[ae,decide_eq_true_eq]at hc;obtain⟨rfl,hd⟩:=hc;obtain⟨d1,d2⟩:=Vt hd;obtain⟨rfl,e⟩:=ad (aa hm2);obtain⟨rfl,rfl⟩:=ad e;simp only[df,MQ];have hv:cY (fI s (.rw u v none)).heap (.sr s.next) [ij 1 (aJ (.sl u)) s.next (v:Sl (Sl (El u)))]:=⟨_,rfl,fun c' hc'=>by simp only[fI,mM]at hc';exact aa hc',tE⟩
    cases v with
    |nil=>exact⟨hv,aN _,Mk.one (b:=none) hr (.inr ⟨rfl,fun b'=>⟨d1,d2,fun l e=>by cases e⟩⟩) (fun e=>by cases e) trivial,by first|rfl|trivial,by first|rfl|trivial,fun _=>rfl⟩
    |mk q=>
     have e1:(gJ s.next (ql u (.mk q))).1=ij 1 (aJ (.sl u)) s.next (Sl.mk q:Sl (Sl (El u))):=by simp[ql,gJ,ij]
     have e2:(gJ s.next (ql u (.mk q))).2.1=[(s.next,some (.nst (bn u) (cT u q none)))]:=by simp only[ql,gJ,qn,cT]
     rw[e1,e2];exact⟨hv,aN _,Mk.one (b:=some (.nst (bn u) (cT u q none))) hr (.inl rfl) (fun _=>⟨d1,d2,fun l e=>by cases e;rfl⟩) trivial,by first|rfl|trivial,by first|rfl|trivial,fun _=>rfl⟩
   |[]|.kb _::_|.nl _::_|.so _::_|.sr _::_|.sb _ _ _ _ _::_|.op _ _ _::_|.ep _ _ _ _::_|.pt _ _::_|.fn _ _ _::_|.om _::_|.rc _::_|.tp _::_|.ni::_|.co _ _::_|.fl _::_|.no::_|.gn::_=>simp[ll]at hm
   |.x (.sl (.i _)) _::_|.x (.sl .b) _::_|.x (.sl .s) _::_|.x (.sl (.f _)) _::_|.x (.sl (.mp _ _)) _::_|.x (.sl .un) _::_|.x (.sl (.pr _ _)) _::_|.x (.sl (.st _)) _::_|.x (.sl (.ar _ _)) _::_|.x (.sl (.o _)) _::_|.x (.i _) _::_|.x .b _::_|.x .s _::_|.x (.f _) _::_|.x (.mp _ _) _::_|.x .un _::_|.x (.pr _ _) _::_|.x (.st _) _::_|.x (.ar _ _) _::_|.x (.o _) _::_=>simp[ll]at hm
 |pb t c ih=>
  intro ln l s w l' s' h1 hm hr;cases ln with
  |true=>simp[ll]at hm
  |false=>
   simp only[ll]at hm;split at hm
   .rename_i w0 l0 s2 hm0;obtain⟨hf,hm2⟩:=aD hm;obtain⟨rfl,e⟩:=ad (aa hm2);obtain⟨rfl,rfl⟩:=ad e;obtain⟨q1,q2,q3,q4,q5,_⟩:=ih false l {s with next:=s.next+1} w0 l0 s2 h1 hm0 (hr.mono (a_ _));simp only[df,MQ,gJ];obtain⟨a3,a4,a5,a6,a7,a8,W,v1,v2,v3,v4⟩:=q3;simp only at a4 a5 a6 a7 a8 v1 v3 v4;have hlt:s.next<s2.next:=by omega
    have hin:∀i,i∉W->fO s2.heap i=fO s.heap i:=v4;refine⟨?_,⟨hlt,by cases t<;>trivial⟩,⟨?_,?_,a5,a6,by show s.next<=s2.next;omega,fun p hp=>?_,s.next::W,by simp only[cJ,v1];rfl,fun p hp=>?_,fun i hi=>?_,fun i hi=>?_⟩,q4,q5,fun _=>rfl⟩
    .show [_]=[_]
     have e0:iE t []=0:=by cases t<;>rfl
     rw[e0]
    .refine HR.uK (u:=[(s.next,some (.box _))]) a3 (ai _) hlt fF.bx (fun i hi=>?_) fun o' ho'=>?_
     .rw [aP,bX,if_neg fun e=>hi e.symm]
     .obtain rfl:=aa ho';refine⟨?_,WI (ai _) fF.bx q2⟩;rw[aP,bX,if_pos rfl];exact⟨_,rfl,gV fF.bx q2 q1,hf⟩
    .exact fF.trans (n':=s2.next) (by omega) (⟨fun i o hi ho=>a4.ob i o (by omega) ho⟩:fF s.next s.heap s2.heap) fF.bx
    .simp only[cJ];rcases aE.1 hp with rfl|hp
     .exact ⟨ai _,hlt⟩
     .have:=a8 p hp;omega
    .rcases aE.1 hp with rfl|hp
     .simp
     .exact aq _ (v2 p hp)
    .simp only[cJ];rcases aE.1 hi with rfl|hi
     .exact ⟨ai _,hlt⟩
     .have:=v3 i hi;omega
    .simp only[cJ];rw[bI,if_neg fun e=>hi (by simp[e]),hin i fun q=>hi (by simp[q])]
   .simp at hm
 |nl k=>intro ln l s w l' s' h1 hm hr;cases ln with|true=>simp[ll]at hm|false=>simp only[ll]at hm;obtain⟨rfl,e⟩:=ad (aa hm);obtain⟨rfl,rfl⟩:=ad e;simp only[df,MQ,gJ];exact⟨rfl,trivial,Mk.skip hr (a_ _),by first|rfl|trivial,by first|rfl|trivial,fun _=>rfl⟩
 |st c ih=>
  intro ln l s w l' s' h1 hm hr;cases ln with
  |true=>simp[ll]at hm
  |false=>
   simp only[ll]at hm;split at hm
   .rename_i w0 l0 s2 hm0;obtain⟨rfl,e⟩:=ad (aa hm);obtain⟨rfl,rfl⟩:=ad e;obtain⟨q1,q2,q3,q4,q5,_⟩:=ih true l s w0 l0 s2 h1 hm0 hr;exact⟨q1,q2,q3,q4,q5,fun _=>rfl⟩
   .simp at hm
 |pr a c iha ihc=>
  intro ln l s w l' s' h1 hm hr;cases ln with
  |false=>simp[ll]at hm
  |true=>
   simp only[ll]at hm;split at hm
   .rename_i x l1 s1 hm1;split at hm
    .rename_i r l2 s2 hm2;obtain⟨rfl,e⟩:=ad (aa hm);obtain⟨rfl,rfl⟩:=ad e;obtain⟨q1,q2,q3,q4,q5,_⟩:=iha false l s x l1 s1 h1 hm1 hr;subst q5;obtain⟨p1,p2,p3,p4,p5,_⟩:=ihc true _ s1 r l2 s2 _ hm2 q3.hr;subst p5;simp only[df,wZ];rw[q4]at p1 p3 p4;exact⟨⟨_,_,rfl,gV p3.c9 q2 q1,p1⟩,⟨WI p3.le p3.c9 q2,p2⟩,Mk.seq q3 p3,p4,by first|rfl|trivial,fun e=>by cases e⟩
    .simp at hm
   .simp at hm
 |ni=>intro ln l s w l' s' h1 hm hr;cases ln with|false=>simp[ll]at hm|true=>simp only[ll]at hm;obtain⟨rfl,e⟩:=ad (aa hm);obtain⟨rfl,rfl⟩:=ad e;exact⟨rfl,trivial,Mk.skip hr (ai _),rfl,rfl,fun e=>by cases e⟩
 |_=>intro ln l s w l' s' h1 hm;cases ln<;>simp[ll]at hm
end
def EN:List (Bool×Sh)->List Bool->Bool
 |[],_=>true
 |(b,_)::r,ms=>decide (ms.headD false=b)&&EN r ms.tail
def Nh:Sh->Bool
 |.os _|.rw _|.pb _ _|.nl _=>true
 |_=>false
def qI:Sh->Bool
 |.x t=>bn t==1
 |.os _|.rw _|.pb _ _|.nl _|.pt _|.fn _ _=>true
 |_=>false
def tL:List (Bool×Sh)->Bool
 |[]=>true
 |(b,c)::r=>(bif b then Nh c&&Nat.ble (kQ c) 300 else(pS c||qI c)&&Nat.ble (o6 c) 300)&&tL r
section
variable{h:H2}{n:Nat}{h1:aY}
def F_(h:H2)(n:Nat)(h1:aY)(p:V×List Nat)(q:C×List Nat×List Nat):Prop:=
 cY h p.1 [q.1]/\cX n h p.1/\(∃t,cG h1 300 q.1=some (t,q.2.1,q.2.2))/\q.2.1.Sublist p.2/\(∀j∈p.2,j∈q.2.1\/iA h j)/\(∀j∈q.2.2,j∈p.2)/\(∀j∈p.2,j<n)/\
  match p.1 with|.so id=>p.2=[id]/\∃u s ver,fO h id=some (.ar u s ver)|.sr id=>p.2=[id]/\∃u s,fO h id=some (.rw u s none)|.op id _ _=>id∈p.2/\¬iA h id|.nl _=>True|_=>False
def pF(h:H2)(n:Nat)(h1:aY):List (V×List Nat)->List (C×List Nat×List Nat)->Prop
 |[],l=>l=[]
 |p::r,l=>∃q m,l=q::m/\F_ h n h1 p q/\pF h n h1 r m
theorem C3{v w:V}{l:List Nat}(hf:fA h v=some (w,l)):mu v=mu w:=by
 cases v with
 |so id=>
  simp only[fA]at hf;split at hf
  .obtain ⟨rfl,_⟩:=ad (aa hf);rfl
  .simp at hf
 |sr id=>
  simp only[fA]at hf;split at hf
  .obtain ⟨rfl,_⟩:=ad (aa hf);rfl
  .simp at hf
 |sb id ver lo t r=>simp only[fA,mU]at hf;obtain⟨rfl,_⟩:=ad (aa hf);rfl
 |rc l=>
  simp only[fA]at hf;split at hf
  .obtain ⟨rfl,_⟩:=ad (aa hf);rfl
  .simp at hf
 |co a r=>
  simp only[fA]at hf;split at hf
  .obtain ⟨rfl,_⟩:=ad (aa hf);rfl
  .simp at hf
 |fn z f l=>cases z<;>simp[fA]at hf;rw[<-hf.1]
 |_=>first|(simp[fA]at hf;done)|(simp[fA]at hf;rw[<-hf.1])
theorem CF{c:Sh}{v:V}{l:List V}{i:List Nat}{x:TV}(hr:HR n h1 h)(hl:Nh c=true)(hf:kQ c<=300)(ha:Wo h c false v=some (l,i))(hx:dD h v x)(hk:cX n h v):
  ∃cc t aW rd,x=.c cc/\cG h1 300 cc=some (t,aW,rd)/\(∀r,df c (l++r)=([t],r))/\F_ h n h1 (v,i) (cc,aW,rd):=by
 have hp:EC v/\mu v=false:=by
  cases c<;>simp[Nh]at hl
  all_goals(cases v<;>first|exact⟨trivial,rfl⟩|(simp[Wo]at ha;done))
 obtain⟨cc,rfl,hc⟩:=ft (jw hp.1 hx) hp.2;obtain⟨ts,aW,rd,g1,g2,g3,g4,g5,g6,g7⟩:=pm hr c false v l i [cc] ha hc hk;have e:=g1 301 (by omega);simp only[eY,jL]at e;split at e
 .rename_i t a b x' b' j hp1 hp2;obtain⟨rfl,e2⟩:=ad (aa hp2);obtain⟨rfl,rfl⟩:=ad e2;clear e2;clear hp2;obtain⟨rfl,e3⟩:=ad (aa e);obtain⟨rfl,rfl⟩:=ad e3;refine⟨cc,t,_,_,rfl,by simpa using hp1,g2,hc,hk,⟨t,by simpa using hp1⟩,g3,g4,g5,g7,?_⟩;cases v with
  |so id=>
   cases c with
   |os t=>
    simp only[Wo]at ha;split at ha
    .rename_i u s ver ho;split at ha
     .obtain ⟨_,rfl⟩:=ad (aa ha);exact⟨rfl,u,s,ver,ho⟩
     .simp at ha
    .simp at ha
   |_=>simp[Wo,eJ,Nh]at ha hl
  |sr id=>
   cases c with
   |rw t=>
    simp only[Wo]at ha;split at ha
    .rename_i u s ho;split at ha
     .obtain ⟨_,rfl⟩:=ad (aa ha);exact⟨rfl,u,s,ho⟩
     .simp at ha
    .simp at ha
   |_=>simp[Wo,eJ,Nh]at ha hl
  |op id u p=>
   cases c with
   |pb t c=>
    cases p with
    |cons=>simp[Wo]at ha
    |nil=>
     simp only[Wo]at ha;split at ha
     .rename_i w q ho;obtain⟨_,ha2⟩:=aD ha;split at ha2
      .obtain ⟨_,rfl⟩:=ad (aa ha2);refine⟨by simp,?_⟩;rintro(⟨u',v',e⟩|⟨u',ln',e⟩)
       .rcases e with e|e<;>rw[ho]at e<;>simp at e
       .rw [ho]at e;cases e
      .simp at ha2
     .simp at ha
   |_=>simp[Wo,eJ,Nh]at ha hl
  |nl k=>trivial
  |_=>(cases c<;>simp[Nh]at hl<;>simp[Wo]at ha)
 .simp at e
theorem wH(hr:HR n h1 h):∀(ps:List (Bool×Sh))(vs:List V)(ms:List Bool)(m:List V)(j:List Nat)(q:List (V×List Nat))(xs:List TV),nF h ps vs=some (m,j,q)->ig h vs xs->(∀w∈vs,cX n h w)->(∀w∈vs,eT h w=true)->EN ps ms=true->tL ps=true->
  ∃aj lent,dQ h1 xs ms=some (ez ps m,aj,lent)/\(∀i∈aj,i∈j/\¬iA h i)/\(∀i∈j,i∈aj\/iA h i)/\pF h n h1 q lent:=by
 intro ps;induction ps with
 |nil=>intro vs ms m j q xs ha hx hk hal hm hp;cases vs with|cons=>simp[nF]at ha|nil=>obtain⟨rfl,e⟩:=ad (aa ha);obtain⟨rfl,rfl⟩:=ad e;obtain rfl:=gK hx;exact⟨[],[],rfl,fun i hi=>by simp at hi,fun i hi=>by simp at hi,rfl⟩
 |cons p ps ih=>
  obtain⟨b,c⟩:=p;intro vs ms m j q xs ha hx hk hal hm hp;cases vs with
  |nil=>simp[nF]at ha
  |cons v vs=>
   obtain⟨x,ys,rfl,hx1,hx2⟩:=dK hx;simp only[EN,ae,decide_eq_true_eq]at hm;simp only[tL,ae]at hp;simp only[nF]at ha;split at ha
   .rename_i m' j' q' hrest;obtain⟨aj,lent,e1,e2,e3,e4⟩:=ih vs ms.tail m' j' q' ys hrest hx2 (fun w hw=>hk w (by simp[hw])) (fun w hw=>hal w (by simp[hw])) hm.2 hp.2;cases b with
    |true=>
     simp only[cond_true]at ha;split at ha
     .rename_i l i ha2;obtain⟨rfl,e⟩:=ad (aa ha);obtain⟨rfl,rfl⟩:=ad e;have hp1:=hp.1;simp only[cond_true,ae,Nat.ble_eq]at hp1;obtain⟨cc,t,aW,rd,rfl,f1,f2,f3⟩:=CF hr hp1.1 hp1.2 ha2 hx1 (hk v (by simp));refine⟨aj,(cc,aW,rd)::lent,?_,e2,e3,⟨_,_,rfl,f3,e4⟩⟩;rw[IA f1 hm.1 e1];simp only[ez,f2,bd]
     .simp at ha
    |false=>
     simp only[cond_false]at ha;split at ha
     .rename_i l i ha2;obtain⟨rfl,e⟩:=ad (aa ha);obtain⟨rfl,rfl⟩:=ad e;have hp1:=hp.1;simp only[cond_false,ae,Nat.ble_eq,dE]at hp1;have hpl:EC v:=by cases v<;>first|trivial|(cases c<;>simp[js,fA]at ha2)
      cases hs:pS c with
      |true=>
       cases c with
       |x t=>
        simp only[js]at ha2;split at ha2
        .rename_i w l' hw;split at ha2
         .rename_i y hy;obtain⟨rfl,rfl⟩:=ad (aa ha2);obtain⟨cs,hc,h3,h4⟩:=jw hpl hx1;obtain⟨ds,is,f1,f2,f3,f4,_⟩:=mi hr v w l' cs hw hc (hk v (by simp)) (hal v (by simp));have e5:=jW (fq w false t y _ hy f2);subst e5;refine⟨is++aj,lent,?_,fun k hk=>?_,fun k hk=>?_,e4⟩
          .rw [h3 (((C3 hw).trans (pd hy)).trans hs),Hl f1 hm.1 e1];simp only[ez,hs,cond_true];rfl
          .rcases ah.1 hk with hk|hk
           .exact ⟨az _ (f3 k hk).1,(f3 k hk).2⟩
           .exact ⟨av _ (e2 k hk).1,(e2 k hk).2⟩
          .rcases ah.1 hk with hk|hk
           .exact (f4 k hk).imp (az _) (fun q=>q)
           .exact (e3 k hk).imp (av _) (fun q=>q)
         .simp at ha2
        .simp at ha2
       |st c=>simp[js]at ha2
       |_=>simp[pS]at hs
      |false=>
       have hag:mu v=false:=by
        cases c with
        |x t=>
         simp only[js]at ha2;split at ha2
         .rename_i w l' hw;split at ha2
          .rename_i y hy;exact((C3 hw).trans (pd hy)).trans hs
          .simp at ha2
         .simp at ha2
        |_=>cases v<;>first|rfl|(simp[js]at ha2;done)|(simp[pS]at hs;done)|(simp[qI,pS]at hp1;done)
       obtain⟨cs,hc,h3,h4⟩:=jw hpl hx1;obtain⟨ds,is,g1,g2,g3,g4,g5⟩:=Bq hr c v l i cs ha2 hc (hk v (by simp)) (hal v (by simp));refine⟨is++aj,lent,?_,fun k hk=>?_,fun k hk=>?_,e4⟩
       .obtain ⟨cc,rfl,rfl⟩:=h4 hag;have e:=g1 301 (by omega);have en:dF h1 300 []=some ([],[]):=rfl;simp only[dF,en]at e;split at e
        .rename_i d a xs' b' hv1 hv2;obtain⟨rfl,rfl⟩:=ad (aa hv2);clear hv2;obtain⟨rfl,rfl⟩:=ad (aa e);rw[Jv hv1 hm.1 e1];simp only[ez,hs,g2,cond_false,bd,eI]
        .simp at e
       .rcases ah.1 hk with hk|hk
        .exact ⟨az _ (g3 k hk).1,(g3 k hk).2⟩
        .exact ⟨av _ (e2 k hk).1,(e2 k hk).2⟩
       .rcases ah.1 hk with hk|hk
        .exact (g4 k hk).imp (az _) (fun q=>q)
        .exact (e3 k hk).imp (av _) (fun q=>q)
     .simp at ha
   .simp at ha
end
section
variable{h:H2}{n:Nat}{h1:aY}
structure Bk(s s':S2)(h1:aY)(I:List Nat)(u:de):Prop where
 hr:HR s'.next (u++h1) s'.heap
 c9:fF s.next s.heap s'.heap
 bS:s'.bS=s.bS
 gh:s'.gh=s.gh
 le:s.next<=s'.next
 xY:∀p∈u,p.1∈I\/(s.next<=p.1/\p.1<s'.next)
 nb:∀i,i<s.next->fO s.heap i=none->fO s'.heap i=none
 wo:∃W,s'.wo=W++s.wo/\(∀p∈u,p.1∈W)/\∀i,i∉W->fO s'.heap i=fO s.heap i
theorem Bk.refl{s:S2}(hr:HR s.next h1 s.heap):Bk s s h1 [] []:=⟨hr,fF.refl _ _,rfl,rfl,ai _,fun p hp=>by simp at hp,fun _ _ h=>h,[],rfl,fun p hp=>by simp at hp,fun _ _=>rfl⟩
theorem Bk.seq{s s1 s2:S2}{I J:List Nat}{u1 u2:de}(a:Bk s s1 h1 I u1)(b:Bk s1 s2 (u1++h1) J u2)(hd:∀i∈I,i∉J)(hI:∀i∈I,i<s.next)(hJ:∀j∈J,j<s.next):Bk s s2 h1 (I++J) (u1++u2):=by
 obtain⟨a3,a4,a5,a6,a7,a8,a9,W,v1,v2,v4⟩:=a;obtain⟨b3,b4,b5,b6,b7,b8,b9,X,x1,x2,x4⟩:=b;refine⟨b3.ext fun i=>oU (fun p hp q hq e=>?_) i,a4.trans a7 b4,b5.trans a5,b6.trans a6,by omega,fun p hp=>?_,fun i hi h=>b9 i (by omega) (a9 i hi h),X++W,by rw[x1,v1,aI],fun p hp=>?_,fun i hi=>?_⟩
 .rcases a8 p hp with h2|h2<;>rcases b8 q hq with h3|h3
  .exact hd _ h2 (e▸h3)
  .have:=hI _ h2;omega
  .have:=hJ _ h3;omega
  .omega
 .rcases ah.1 hp with hp|hp
  .rcases a8 p hp with h2|h2
   .exact .inl (az _ h2)
   .exact .inr (by omega)
  .rcases b8 p hp with h2|h2
   .exact .inl (av _ h2)
   .exact .inr (by omega)
 .rcases ah.1 hp with hp|hp
  .exact av _ (v2 p hp)
  .exact az _ (x2 p hp)
 .rw [x4 i fun q=>hi (az _ q),v4 i fun q=>hi (av _ q)]
theorem jE:∀(i:List Nat)(s:S2),(fw i s).bS=s.bS/\(fw i s).next=s.next/\(fw i s).gh=s.gh/\(fw i s).wo=i++s.wo/\∀j,fO (fw i s).heap j=if j∈i then none else fO s.heap j:=by
 intro i;induction i with
 |nil=>intro s;exact⟨rfl,rfl,rfl,rfl,fun j=>by simp[fw]⟩
 |cons a i ih=>
  intro s;obtain⟨h1,h2,h3,h4,h5⟩:=ih s;refine⟨h1,h2,h3,by simp[fw,cJ,h4],fun j=>?_⟩;simp only[fw,cJ,bI,h5];by_cases e:a=j
  .subst e;simp
  .simp [e,Ne.symm e]
theorem fF.sub{g:H2}(hs:∀i o,fO g i=some o->fO h i=some o):fF n h g:=⟨fun i o _ ho=>.inl ⟨o,hs i o ho,lW.refl _⟩⟩
theorem HR.sub{g:H2}(hr:HR n h1 h)(hs:∀i o,fO g i=some o->fO h i=some o):HR n h1 g:=⟨fun i o ho=>let⟨a,b,c⟩:=hr.ob i o (hs i o ho);⟨a,jV (fF.sub hs) c b,jf (ai _) (fF.sub hs) c⟩⟩
theorem qV{i:List Nat}{s:S2}:∀j o,fO (fw i s).heap j=some o->fO s.heap j=some o:=by
 intro j o ho;rw[(jE i s).2.2.2.2]at ho;split at ho
 .simp at ho
 .exact ho
theorem sN{aW:List Nat}{j:Nat}(hj:j∉aW):ak (aW.map (fun i=>(i,(none:Option Ob)))++h1) j=ak h1 j:=oV fun p hp e=>by obtain⟨i,hi,rfl⟩:=c8.1 hp;exact hj (e▸hi)
theorem Bk.Mg{s:S2}{i aW:List Nat}(hr:HR s.next h1 s.heap)(ho:∀j∈aW,j∈i):Bk s (fw i s) h1 i (aW.map fun j=>(j,none)):=by
 obtain⟨k1,k2,k3,k4,k5⟩:=jE i s;refine⟨⟨fun j o hj=>?_⟩,fF.sub qV,k1,k3,by omega,fun p hp=>?_,fun j _ h=>by rw[k5];split<;>first|rfl|exact h,i,k4,fun p hp=>?_,fun j hj=>by rw[k5,if_neg hj]⟩
 .obtain ⟨a,b,c⟩:=(hr.sub qV).ob j o hj;refine⟨by omega,?_,by rw[k2];exact c⟩;have:j∉i:=fun hm=>by rw[k5,if_pos hm]at hj;simp at hj
  rw[sN fun hm=>this (ho j hm)];exact b
 .obtain ⟨j,hj,rfl⟩:=c8.1 hp;exact .inl (ho j hj)
 .obtain ⟨j,hj,rfl⟩:=c8.1 hp;exact ho j hj
theorem mK{α:Type}{a b:Sl α}{u:Unit}(hl:AK a b=some u):a.QH=b.QH/\a.l.length=b.l.length:=by
 cases a<;>cases b<;>simp[AK]at hl
 .exact ⟨rfl,rfl⟩
 .exact ⟨rfl,AL.1 hl⟩
theorem mj{c:C}{rd:List Nat}{x:D}{r:List (C×List Nat×List Nat)}{ts:List T}{m:Nat}:cq m ((c,[],rd)::r) (.d x::ts)=cq m r ts:=by simp only[cq]
theorem qC{x:D}{t:T}{aW rd:List Nat}(hp:cG h1 300 (.d x)=some (t,aW,rd)):aW=[]:=by rw[nV]at hp;obtain⟨_,e⟩:=ad (aa hp);exact(ad e).1.symm
theorem Ct{q:List (V×List Nat)}{v:V}{i:List Nat}(hn:(gq (fun(p:V×List Nat)=>p.2) ((v,i)::q)).Nodup):(∀j∈i,j∉gq (fun(p:V×List Nat)=>p.2) q)/\(gq (fun(p:V×List Nat)=>p.2) q).Nodup:=by simp only[aZ]at hn;exact⟨fun j hj hm=>(bR.1 hn).2.2 j hj j hm rfl,(bR.1 hn).2.1⟩
theorem pF.lt:∀{q:List (V×List Nat)}{lent:List (C×List Nat×List Nat)},pF h n h1 q lent->∀j∈gq (fun(p:V×List Nat)=>p.2) q,j<n:=by
 intro q;induction q with
 |nil=>intro lent _ j hj;simp at hj
 |cons p q ih=>
  rintro lent ⟨x,m,rfl,hx,hm⟩ j hj;simp only[aZ,ah]at hj;rcases hj with hj|hj
  .exact hx.2.2.2.2.2.2.1 j hj
  .exact ih hm j hj
theorem DJ{szi m id len k:Nat}{rows:List (Option (List (List D)))}{rd:List Nat}{r:List (C×List Nat×List Nat)}{ts:List T}{w:de}(hl:rows.length=len)(hr:cq m r ts=some (w,k)):
  cq m ((.da 1 id 0 len,[id],rd)::r) (.rK szi rows::ts)=some ((id,some (.nst szi (rows.map iG)))::w,k):=by
 simp only[cq,hl,hr,and_self,if_true]
theorem rD{β:Type}{z:β}(hr0:HR n h1 h):∀(os:List Sh)(q:List (V×List Nat))(lent:List (C×List Nat×List Nat))(l:List V)(s:S2)(H:aY)(k:S2->Option β),cC os q l s k=some z->pF h n h1 q lent->n<=s.next->HR s.next H s.heap->fF n h s.heap->
  (gq (fun(p:V×List Nat)=>p.2) q).Nodup->∃s1 bu,k s1=some z/\cq s.next lent (gC os l)=some (bu,s1.next)/\Bk s s1 H (gq (fun(p:V×List Nat)=>p.2) q) bu:=by
 intro os;induction os with
 |nil=>
  intro q lent l s H k hb hl hn hr c9 hnd;cases q with
  |cons p q=>simp[cC]at hb
  |nil=>cases l with|cons=>simp[cC]at hb|nil=>obtain rfl:lent=[]:=hl;exact⟨s,[],hb,rfl,Bk.refl hr⟩
 |cons o os ih=>
  intro q lent l s H k hb hl hn hr c9 hnd;cases q with
  |nil=>cases o<;>simp[cC]at hb
  |cons p q=>
   obtain⟨v,i⟩:=p;obtain⟨⟨c,aW,rd⟩,m,rfl,⟨hc,hkv,⟨tp,hpk⟩,hsub,hcov,hrd,hlt,hsh⟩,hl2⟩:=hl;obtain⟨hd,hnd2⟩:=Ct hnd;have hI:∀j∈i,j<s.next:=fun j hj=>by have:j<n:=hlt j hj;omega
   have hJ:∀j∈gq (fun(p:V×List Nat)=>p.2) q,j<s.next:=fun j hj=>by have:=hl2.lt j hj;omega
   cases o with
   |nl kk=>cases i with|cons=>simp[cC]at hb|nil=>simp only[cC]at hb;obtain⟨s1,bu,e1,e2,e3⟩:=ih q m l s H k hb hl2 hn hr c9 hnd2;have:aW=[]:=List.sublist_nil.1 hsub;subst this;exact⟨s1,bu,e1,by simp only[gC,df,bd,mj];exact e2,by simpa using e3⟩
   |gn=>simp only[cC]at hb;obtain⟨k1,k2,k3,k4,k5⟩:=jE i s;have b1:Bk s (fw i s) H i (aW.map fun j=>(j,none)):=Bk.Mg hr fun j hj=>hsub.subset hj;obtain⟨s1,bu,e1,e2,e3⟩:=ih q m l (fw i s) _ k hb hl2 (by omega) b1.hr (c9.trans hn b1.c9) hnd2;rw[k2]at e2;exact⟨s1,_,e1,by simp only[gC,df,bd];exact Bo e2,by simpa using b1.seq e3 hd hI hJ⟩
   |os t=>
    cases v with
    |nl kk=>
     cases kk with
     |succ=>cases l with|nil=>simp[cC]at hb|cons w l=>cases w<;>simp[cC]at hb
     |zero=>
      cases i with
      |cons=>cases l with|nil=>simp[cC]at hb|cons w l=>cases w<;>simp[cC]at hb
      |nil=>
       match l with
       |.x (.sl u) v::l=>
        simp only[cC]at hb;split at hb
        .rename_i v' hv;obtain⟨e,rfl⟩:=bL hv;cases e;obtain⟨_,hls,hb2⟩:=lh hb;obtain⟨hni,_⟩:=mK hls;obtain⟨s1,bu,e1,e2,e3⟩:=ih q m l s H k hb2 hl2 hn hr c9 hnd2;have:aW=[]:=List.sublist_nil.1 hsub;subst this;refine⟨s1,bu,e1,?_,by simpa using e3⟩;cases v with|mk=>simp[Sl.QH]at hni|nil=>simp only[gC,df,bd,Gr,mj];exact e2
        .simp at hb
       |[]|.kb _::_|.nl _::_|.so _::_|.sr _::_|.sb _ _ _ _ _::_|.op _ _ _::_|.ep _ _ _ _::_|.pt _ _::_|.fn _ _ _::_|.om _::_|.rc _::_|.tp _::_|.ni::_|.co _ _::_|.fl _::_|.no::_|.gn::_=>simp[cC]at hb
       |.x (.i _) _::_|.x .b _::_|.x .s _::_|.x (.f _) _::_|.x (.mp _ _) _::_|.x .un _::_|.x (.pr _ _) _::_|.x (.st _) _::_|.x (.ar _ _) _::_|.x (.o _) _::_=>simp[cC]at hb
    |so id=>
     match l with
     |.x (.sl u) v::l=>
      simp only[cC]at hb;split at hb
      .rename_i w old ver v' ho hv;obtain⟨e,rfl⟩:=bL hv;cases e;split at hb
       .rename_i v2 hv2;obtain⟨e,rfl⟩:=bL hv2;cases e;obtain⟨_,hls,hb2⟩:=lh hb;obtain⟨hni,hln⟩:=mK hls;obtain⟨rfl,u0,s0,ver0,ho0⟩:=hsh;have hid:id<n:=hkv;obtain⟨o1,ho1,hos⟩:=(c9.ob id _ hid ho).resolve_right (by simp[EU]);rw[ho0]at ho1;obtain rfl:=aa ho1;obtain⟨_,rfl,hn1,hn2,_⟩:=hos;obtain⟨cc,ece,hcc⟩:=hc;obtain rfl:=dh.1 ece;have ec:=hcc.1 _ (ii (.inl ho0));obtain⟨q1,q2,q3⟩:=(hr.ob id _ ho).2.1;have hosn:lW (.ar u0 old ver) (.ar u0 v (ver+1)):=⟨a_ _,rfl,hni.symm,hln.symm,fun e=>by omega⟩
        have key:∀(uu:de),(∀p∈uu,p.1=id)->(∀l,v=.mk l->ak (uu++H) id=some (.aB (bn u0) (l.map (aJ u0))))->Bk s (cJ s id (some (.ar u0 v (ver+1)))) H [id] uu:=by intro uu hu hlk;have d:=lL (x:=.fm []) (v:=.no) (aj:=[]) (l:=[]) hr ho hni.symm hln.symm hu hlk (fun _=>rfl) (fun _ _=>trivial) (fun i hi=>by simp at hi);exact⟨d.hr,d.c9,rfl,rfl,ai _,fun p hp=>.inl (by simp[hu p hp]),d.nb,[id],rfl,fun p hp=>by simp[hu p hp],fun j hj=>by simp only[cJ];rw[bI,if_neg fun e=>hj (by simp[e])]⟩
        cases v with
        |nil=>
         have b1:=key [] (fun p hp=>by simp at hp) (fun l e=>by cases e);obtain⟨s1,bu,f1,f2,e3⟩:=ih q m l _ _ k hb2 hl2 hn b1.hr (c9.trans hn b1.c9) hnd2;have hnil:s0.QH=true:=by rw[hn1,<-hni];rfl
         cases s0 with|mk=>simp[Sl.QH]at hnil|nil=>subst ec;have:=qC hpk;subst this;refine⟨s1,bu,f1,?_,by simpa using b1.seq e3 hd hI hJ⟩;simp only[gC,df,bd,Gr,mj];exact f2
        |mk vl=>
         have b1:=key [(id,some (.aB (bn u0) (vl.map (aJ u0))))] (fun p hp=>by simp at hp;simp[hp]) (fun l e=>by cases e;rw[aP,bX,if_pos rfl]);obtain⟨s1,bu,f1,f2,e3⟩:=ih q m l _ _ k hb2 hl2 hn b1.hr (c9.trans hn b1.c9) hnd2;have hnil:s0.QH=false:=by rw[hn1,<-hni];rfl
         cases s0 with|nil=>simp[Sl.QH]at hnil|mk mD=>subst ec;have hlk:=(hr0.ob id _ ho0).2.1.2.2 mD rfl;have hp2:=JG (k:=300) hlk;simp only[ij]at hpk;rw[hp2]at hpk;obtain⟨_,e⟩:=ad (aa hpk);obtain⟨rfl,rfl⟩:=ad e;refine⟨s1,_,f1,?_,by simpa using b1.seq e3 hd hI hJ⟩;simp only[gC,df,bd,Gr,ij];refine Fp ?_ f2;simp only[Sl.l]at hn2 hln;simp only[aH];omega
       .simp at hb
      .simp at hb
     |[]|.kb _::_|.nl _::_|.so _::_|.sr _::_|.sb _ _ _ _ _::_|.op _ _ _::_|.ep _ _ _ _::_|.pt _ _::_|.fn _ _ _::_|.om _::_|.rc _::_|.tp _::_|.ni::_|.co _ _::_|.fl _::_|.no::_|.gn::_=>simp[cC]at hb
     |.x (.i _) _::_|.x .b _::_|.x .s _::_|.x (.f _) _::_|.x (.mp _ _) _::_|.x .un _::_|.x (.pr _ _) _::_|.x (.st _) _::_|.x (.ar _ _) _::_|.x (.o _) _::_=>simp[cC]at hb
    |_=>simp[cC]at hb
   |rw t=>
    cases v with
    |nl kk=>
     cases kk with
     |succ=>cases l with|nil=>simp[cC]at hb|cons w l=>cases w<;>simp[cC]at hb
     |zero=>
      cases i with
      |cons=>cases l with|nil=>simp[cC]at hb|cons w l=>cases w<;>simp[cC]at hb
      |nil=>
       match l with
       |.x (.sl (.sl u)) v::l=>
        simp only[cC]at hb;split at hb
        .rename_i v' hv;obtain⟨e,rfl⟩:=bL hv;cases e;obtain⟨_,hls,hb2⟩:=lh hb;obtain⟨hni,_⟩:=mK hls;obtain⟨s1,bu,e1,e2,e3⟩:=ih q m l s H k hb2 hl2 hn hr c9 hnd2;have:aW=[]:=List.sublist_nil.1 hsub;subst this;refine⟨s1,bu,e1,?_,by simpa using e3⟩;cases v with|mk=>simp[Sl.QH]at hni|nil=>simp only[gC,df,bd,ql,mj];exact e2
        .simp at hb
       |[]|.kb _::_|.nl _::_|.so _::_|.sr _::_|.sb _ _ _ _ _::_|.op _ _ _::_|.ep _ _ _ _::_|.pt _ _::_|.fn _ _ _::_|.om _::_|.rc _::_|.tp _::_|.ni::_|.co _ _::_|.fl _::_|.no::_|.gn::_=>simp[cC]at hb
       |.x (.sl (.i _)) _::_|.x (.sl .b) _::_|.x (.sl .s) _::_|.x (.sl (.f _)) _::_|.x (.sl (.mp _ _)) _::_|.x (.sl .un) _::_|.x (.sl (.pr _ _)) _::_|.x (.sl (.st _)) _::_|.x (.sl (.ar _ _)) _::_|.x (.sl (.o _)) _::_|.x (.i _) _::_|.x .b _::_|.x .s _::_|.x (.f _) _::_|.x (.mp _ _) _::_|.x .un _::_|.x (.pr _ _) _::_|.x (.st _) _::_|.x (.ar _ _) _::_|.x (.o _) _::_=>simp[cC]at hb
    |sr id=>
     match l with
     |.x (.sl (.sl u)) v::l=>
      simp only[cC]at hb;split at hb
      .rename_i w old ln v' ho hv;obtain⟨e,rfl⟩:=bL hv;cases e;split at hb
       .rename_i v2 hv2;obtain⟨e,rfl⟩:=bL hv2;cases e;obtain⟨_,hls,hb2⟩:=lh hb;obtain⟨hni,hln⟩:=mK hls;obtain⟨rfl,u0,s0,ho0⟩:=hsh;have hid:id<n:=hkv;obtain⟨o1,ho1,hos⟩:=(c9.ob id _ hid ho).resolve_right (by simp[EU]);rw[ho0]at ho1;obtain rfl:=aa ho1;obtain⟨rfl,hn1,hn2⟩:=hos;obtain⟨cc,ece,hcc⟩:=hc;obtain rfl:=dh.1 ece;have ec:=hcc.1 _ (Sp ho0);obtain⟨q1,q2,q3⟩:=(hr.ob id _ ho).2.1;have hosn:lW (.rw u0 old ln) (.rw u0 v none):=⟨rfl,hni.symm,hln.symm⟩
        have key:∀(uu:de),(∀p∈uu,p.1=id)->(∀l,v=.mk l->ak (uu++H) id=some (.nst (bn u0) (cT u0 l none)))->Bk s (cJ s id (some (.rw u0 v none))) H [id] uu:=by intro uu hu hlk;have d:=yT (x:=.fm []) (v:=.no) (aj:=[]) (l:=[]) hr ho hosn hu ⟨q1,q2,hlk⟩ trivial rfl trivial (fun i hi=>by simp at hi);exact⟨d.hr,d.c9,rfl,rfl,ai _,fun p hp=>.inl (by simp[hu p hp]),d.nb,[id],rfl,fun p hp=>by simp[hu p hp],fun j hj=>by simp only[cJ];rw[bI,if_neg fun e=>hj (by simp[e])]⟩
        cases v with
        |nil=>
         have b1:=key [] (fun p hp=>by simp at hp) (fun l e=>by cases e);obtain⟨s1,bu,f1,f2,e3⟩:=ih q m l _ _ k hb2 hl2 hn b1.hr (c9.trans hn b1.c9) hnd2;have hnil:s0.QH=true:=by rw[hn1,<-hni];rfl
         cases s0 with|mk=>simp[Sl.QH]at hnil|nil=>subst ec;have:=qC hpk;subst this;refine⟨s1,bu,f1,?_,by simpa using b1.seq e3 hd hI hJ⟩;simp only[gC,df,bd,ql,mj];exact f2
        |mk vl=>
         have b1:=key [(id,some (.nst (bn u0) (cT u0 vl none)))] (fun p hp=>by simp at hp;simp[hp]) (fun l e=>by cases e;rw[aP,bX,if_pos rfl]);obtain⟨s1,bu,f1,f2,e3⟩:=ih q m l _ _ k hb2 hl2 hn b1.hr (c9.trans hn b1.c9) hnd2;have hnil:s0.QH=false:=by rw[hn1,<-hni];rfl
         cases s0 with|nil=>simp[Sl.QH]at hnil|mk mD=>subst ec;have hlk:=(hr0.ob id _ ho0).2.1.2.2 mD rfl;have hp2:=Jc (k:=300) hlk;simp only[ij]at hpk hp2;rw[hp2]at hpk;obtain⟨_,e⟩:=ad (aa hpk);obtain⟨rfl,rfl⟩:=ad e;refine⟨s1,_,f1,?_,by simpa using b1.seq e3 hd hI hJ⟩;simp only[gC,df,bd,ql,ij,aH];rw[show cT u0 vl none=(vl.map (Ad u0)).map iG from(qn vl).symm];refine DJ ?_ f2;rw[aH];exact hln.trans hn2.symm
       .simp at hb
      .simp at hb
     |[]|.kb _::_|.nl _::_|.so _::_|.sr _::_|.sb _ _ _ _ _::_|.op _ _ _::_|.ep _ _ _ _::_|.pt _ _::_|.fn _ _ _::_|.om _::_|.rc _::_|.tp _::_|.ni::_|.co _ _::_|.fl _::_|.no::_|.gn::_=>simp[cC]at hb
     |.x (.sl (.i _)) _::_|.x (.sl .b) _::_|.x (.sl .s) _::_|.x (.sl (.f _)) _::_|.x (.sl (.mp _ _)) _::_|.x (.sl .un) _::_|.x (.sl (.pr _ _)) _::_|.x (.sl (.st _)) _::_|.x (.sl (.ar _ _)) _::_|.x (.sl (.o _)) _::_|.x (.i _) _::_|.x .b _::_|.x .s _::_|.x (.f _) _::_|.x (.mp _ _) _::_|.x .un _::_|.x (.pr _ _) _::_|.x (.st _) _::_|.x (.ar _ _) _::_|.x (.o _) _::_=>simp[cC]at hb
    |_=>simp[cC]at hb
   |pb t c2=>
    cases v with
    |op id u p=>
     cases p with
     |cons=>simp[cC]at hb
     |nil=>
      simp only[cC]at hb;split at hb
      case h_2=>simp at hb
      rename_i oid hoid;split at hb
      .rename_i w l' s2 hm;obtain⟨hf,hb2⟩:=aD hb;simp only[ae,decide_eq_true_eq]at hf;obtain⟨hf,rfl⟩:=hf;obtain⟨g1,g2,g3,g4,g5,_⟩:=Nf c2 false l s w l' s2 H hm hr;subst g5;obtain⟨hid,hnn⟩:=hsh;have hio:id∈aW:=(hcov id hid).resolve_right hnn
       obtain rfl:c=.op id 0:=by
        have e0:iE u []=0:=by cases u<;>rfl
        have:[c]=[C.op id (iE u [])]:=hc;rw[e0]at this;exact dh.1 this
       obtain⟨k1,k2,k3,k4,k5⟩:=jE i s2;have hids:id<s2.next:=by have:=hI id hid;have:=g3.le;omega
       have b1:Bk s (cJ (fw i s2) id (some (.bx u w))) H i ((id,some (.box (eW s.next (df c2 l).1).1))::(eW s.next (df c2 l).1).2.1++aW.map (fun j=>(j,none))):=by
        obtain⟨a3,a4,a5,a6,a7,a8,W,v1,v2,v3,v4⟩:=g3;have hs2:fF s2.next s2.heap (cJ (fw i s2) id (some (.bx u w))).heap:=fF.trans (ai _) (fF.sub qV) fF.bx;refine⟨⟨fun j o hj=>?_⟩,fF.trans a7 a4 hs2,k1.trans a5,k3.trans a6,by simp only[cJ];omega,fun p hp=>?_,fun j hj hn=>(by simp only[cJ];rw[bI,if_neg (fun e=>by rw[e,hn]at hoid;cases hoid),k5];split<;>first|rfl|(rw[v4 j fun q=>by have:=(v3 j q).1;omega];exact hn)),id::(i++W),by simp only[cJ,k4,v1,aK,aI],fun p hp=>?_,fun j hj=>?_⟩
        .simp only[cJ]at hj|-;rw[bI]at hj;split at hj
         .rename_i e;subst e;obtain rfl:=aa hj;refine⟨by omega,?_,?_⟩
          .rw [aK,aK,bX,if_pos rfl];exact⟨_,rfl,gV hs2 g2 g1,hf⟩
          .rw [k2];exact WI (ai _) hs2 g2
         .rename_i e;have hji:j∉i:=fun hm=>by rw[k5,if_pos hm]at hj;simp at hj
          rw[k5,if_neg hji]at hj;obtain⟨c1,c2',c3⟩:=a3.ob j o hj;refine⟨by omega,?_,?_⟩
          .rw [aK,aK,bX,if_neg e,aI];have:ak ((eW s.next (df c2 l).1).2.1++(aW.map (fun j=>(j,none))++H)) j=ak ((eW s.next (df c2 l).1).2.1++H) j:=by simp only[ak,eh];have:=sN (h1:=H) (aW:=aW) (j:=j) fun hm=>hji (hsub.subset hm);simp only[ak,eh]at this;cases bv (eW s.next (df c2 l).1).2.1 j with|some x=>rfl|none=>exact this
           rw[this];exact jV hs2 c3 c2'
          .rw [k2];exact jf (ai _) hs2 c3
        .rcases ah.1 hp with hp|hp
         .rcases aE.1 hp with rfl|hp
          .exact .inl hid
          .have:=a8 p hp;exact .inr ⟨this.1,by simp only[cJ];omega⟩
         .obtain ⟨j,hj,rfl⟩:=c8.1 hp;exact .inl (hsub.subset hj)
        .rcases ah.1 hp with hp|hp
         .rcases aE.1 hp with rfl|hp
          .simp
          .simp [v2 p hp]
         .obtain ⟨j,hj,rfl⟩:=c8.1 hp;simp[hsub.subset hj]
        .simp only[cJ];rw[bI,if_neg fun e=>hj (by simp[e]),k5,if_neg fun q=>hj (by simp[q]),v4 j fun q=>hj (by simp[q])]
       obtain⟨s1,bu,e1,e2,e3⟩:=ih q m _ _ _ k hb2 hl2 (by have:=b1.le;omega) b1.hr (c9.trans hn b1.c9) hnd2;have en:(cJ (fw i s2) id (some (.bx u w))).next=(eW s.next (df c2 l).1).2.2:=by simp only[cJ,k2,g4]
       rw[en]at e2;refine⟨s1,_,e1,?_,by simpa using b1.seq e3 hd hI hJ⟩;simp only[gC,df,bd];have:=Fo (n:=s.next) (id:=id) (aW:=aW) (rd:=rd) (by simpa using hio) e2;rw[this];simp only[aK,aI]
      .simp at hb
    |_=>simp[cC]at hb
   |_=>simp[cC]at hb
end
def HY(c:Sh):Bool:=pS c||qI c
section
variable{h:H2}{n:Nat}{h1:aY}
theorem uh{c:Sh}{l l':List V}{s s':S2}{w:V}(hm:ll c false l s=some (w,l',s'))(ho:qI c=true):(df c l).1.length=1:=by
 cases c with
 |x t=>match l with|.x u v::l=>simp only[ll]at hm;obtain⟨hc,_⟩:=aD hm;simp only[ae,decide_eq_true_eq]at hc;obtain⟨rfl,_⟩:=hc;simpa[df,bg,qI]using ho|[]|.kb _::_|.nl _::_|.so _::_|.sr _::_|.sb _ _ _ _ _::_|.op _ _ _::_|.ep _ _ _ _::_|.pt _ _::_|.fn _ _ _::_|.om _::_|.rc _::_|.tp _::_|.ni::_|.co _ _::_|.fl _::_|.no::_|.gn::_=>simp[ll]at hm
 |os t=>match l with|.x (.sl u) v::l=>rfl|[]|.kb _::_|.nl _::_|.so _::_|.sr _::_|.sb _ _ _ _ _::_|.op _ _ _::_|.ep _ _ _ _::_|.pt _ _::_|.fn _ _ _::_|.om _::_|.rc _::_|.tp _::_|.ni::_|.co _ _::_|.fl _::_|.no::_|.gn::_=>simp[ll]at hm|.x (.i _) _::_|.x .b _::_|.x .s _::_|.x (.f _) _::_|.x (.mp _ _) _::_|.x .un _::_|.x (.pr _ _) _::_|.x (.st _) _::_|.x (.ar _ _) _::_|.x (.o _) _::_=>simp[ll]at hm
 |rw t=>match l with|.x (.sl (.sl u)) v::l=>rfl|[]|.kb _::_|.nl _::_|.so _::_|.sr _::_|.sb _ _ _ _ _::_|.op _ _ _::_|.ep _ _ _ _::_|.pt _ _::_|.fn _ _ _::_|.om _::_|.rc _::_|.tp _::_|.ni::_|.co _ _::_|.fl _::_|.no::_|.gn::_=>simp[ll]at hm|.x (.sl (.i _)) _::_|.x (.sl .b) _::_|.x (.sl .s) _::_|.x (.sl (.f _)) _::_|.x (.sl (.mp _ _)) _::_|.x (.sl .un) _::_|.x (.sl (.pr _ _)) _::_|.x (.sl (.st _)) _::_|.x (.sl (.ar _ _)) _::_|.x (.sl (.o _)) _::_|.x (.i _) _::_|.x .b _::_|.x .s _::_|.x (.f _) _::_|.x (.mp _ _) _::_|.x .un _::_|.x (.pr _ _) _::_|.x (.st _) _::_|.x (.ar _ _) _::_|.x (.o _) _::_=>simp[ll]at hm
 |pb t c=>rfl
 |nl k=>rfl
 |_=>first|(simp[ll]at hm;done)|(simp[qI]at ho;done)
theorem sL:∀(rs:List Sh)(l:List V)(s:S2)(xs:List V)(l':List V)(s':S2)(h1:aY),AF rs l s=some (xs,l',s')->HR s.next h1 s.heap->rs.all HY=true->
  tu s'.heap (cU xs) (J9 s.next (jB rs l)).1/\(∀x∈xs,cX s'.next s'.heap x)/\Mk s s' h1 (J9 s.next (jB rs l)).2.1/\s'.next=(J9 s.next (jB rs l)).2.2/\xs.length=rs.length:=by
 intro rs;induction rs with
 |nil=>intro l s xs l' s' h1 hm hr _;obtain⟨rfl,e⟩:=ad (aa hm);obtain⟨rfl,rfl⟩:=ad e;exact⟨rfl,fun x hx=>by simp at hx,Mk.skip hr (ai _),rfl,rfl⟩
 |cons c rs ih=>
  intro l s xs l' s' h1 hm hr hok;simp only[dC,ae]at hok;simp only[AF]at hm;split at hm
  .rename_i x l1 s1 hm1;split at hm
   .rename_i ys l2 s2 hm2;obtain⟨rfl,e⟩:=ad (aa hm);obtain⟨rfl,rfl⟩:=ad e;obtain⟨q1,q2,q3,q4,q5,q6⟩:=Nf c false l s x l1 s1 h1 hm1 hr;have q6:=q6 rfl;subst q5
    have hu:pp s.next (bif pS c then .agg (df c l).1 else .c ((df c l).1.headD default))=(bif pS c then .agg (eW s.next (df c l).1).1 else .c ((eW s.next (df c l).1).1.headD default),(eW s.next (df c l).1).2.1,(eW s.next (df c l).1).2.2)/\Yz s1.heap x (bif pS c then .agg (eW s.next (df c l).1).1 else .c ((eW s.next (df c l).1).1.headD default)):=by
     cases hs:pS c with
     |true=>exact⟨rfl,qh (q6.trans hs) q1⟩
     |false=>
      have hl:(df c l).1.length=1:=by
       have h2:qI c=true:=by simpa[HY,hs]using hok.1
       exact uh hm1 h2
      match ht:(df c l).1,hl with|[t],_=>rw[ht]at q1;simp only[MQ]at q1;refine⟨by simp only[cond_false,bd,pp,MQ],?_⟩;simp only[cond_false,MQ,bd];exact cn (q6.trans hs) q1
    obtain⟨hu1,hu2⟩:=hu;obtain⟨p1,p2,p3,p4,p5⟩:=ih (df c l).2 s1 ys l2 s2 _ hm2 q3.hr hok.2;rw[q4]at p1 p3 p4;simp only[jB,J9,hu1];refine⟨⟨_,_,rfl,oI p3.c9 q2 hu2,p1⟩,fun y hy=>?_,q3.seq p3,p4,by simp[p5]⟩;rcases aE.1 hy with rfl|hy
    .exact WI p3.le p3.c9 q2
    .exact p2 y hy
   .simp at hm
  .simp at hm
end
def tX:Ty->Bool
 |.i _|.b|.s|.f _|.un=>true
 |.pr a c=>tX a&&tX c
 |.st t|.ar _ t=>tX t
 |_=>false
def GQ:Sh->Bool
 |.x t=>tX t
 |_=>false
def GR:Sh->Bool
 |.os t=>tX t
 |.gn=>true
 |_=>false
def Ig(sp:pE):Bool:=sp.al.all (fun w=>w.1.all GQ&&w.2.all GR)
def D1(sp:pE):Bool:=EN sp.ps sp.ga&&tL sp.ps&&sp.al.all (fun w=>w.1.all HY)&&(!sp.ro||Ig sp)
def D2(Q:List Sh->List Sh->List V->Prop):(r o:List Sh)->(w:Wy)->ou.yN r o w->Prop
 |r,o,[],z=>Q r o (jC (eX r++eX o) z)
 |r,o,(r',o')::w,z=>match z with|.inl z=>Q r o (jC (eX r++eX o) z)|.inr z=>D2 Q r' o' w z
def D3(Q:List Sh->List Sh->List V->Prop):(w:Wy)->ou w->Prop
 |[],z=>nomatch z
 |(r,o)::w,z=>D2 Q r o w z
def gg(P:Program)(f:FuncId)(sp:pE):Prop:=D1 sp=true/\∀p z,sp.fn p=some z->D3 (fun rs os l=>ow P f (ez sp.ps (jC (eX (sp.ps.map (·.2))) p)) (jB rs (l.take (eX rs).length)) (gC os (l.drop (eX rs).length))) sp.al z
def ke(P:Program)(tb:wK):Prop:=∀e∈tb,gg P e.1 e.2
theorem ke.nil{P:Program}:ke P []:=fun e he=>by simp at he
theorem ke.cons{P:Program}{f:FuncId}{sp:pE}{tb:wK}(h:gg P f sp)(ht:ke P tb):ke P ((f,sp)::tb):=fun e he=>by
 rcases aE.1 he with rfl|he
 .exact h
 .exact ht e he
theorem zS{β:Type}{k:List Sh->List Sh->List V->Option β}{Q:List Sh->List Sh->List V->Prop}{b:β}:∀(w:Wy)(z:ou w),H9 k w z=some b->D3 Q w z->∃r o l,(r,o)∈w/\k r o l=some b/\Q r o l:=by
 have key:∀(w:Wy)(r o:List Sh)(z:ou.yN r o w),Ge k r o w z=some b->D2 Q r o w z->∃r' o' l,(r',o')∈(r,o)::w/\k r' o' l=some b/\Q r' o' l:=by
  intro w;induction w with
  |nil=>intro r o z hz hq;exact⟨r,o,_,by simp,hz,hq⟩
  |cons p w ih=>intro r o z hz hq;cases z with|inl z=>exact⟨r,o,_,by simp,hz,hq⟩|inr z=>obtain⟨r',o',l,h1,h2,h3⟩:=ih p.1 p.2 z hz hq;exact⟨r',o',l,aq _ h1,h2,h3⟩
 intro w z hz hq;cases w with|nil=>exact nomatch z|cons p w=>exact key w p.1 p.2 z hz hq
theorem rt{u:Ty}{v:V}{y:El u}(h:nc u v=some y):v=.x u y:=by cases v with|x t v=>obtain⟨rfl,rfl⟩:=bL (show dT t u v=some y from h);rfl|_=>simp[nc]at h
theorem ko:∀(cs:List Ty)(l:List V)(p:kO cs),oJ cs l=some p->jC cs p=l:=by
 have key:∀(r:List Ty)(a:Ty)(l:List V)(p:kO.wO a r),w8 a r l=some p->D_ a r p=l:=by
  intro r;induction r with
  |nil=>
   intro a l p h
   match l with|[]=>exact nomatch (show(none:Option (kO.wO a []))=some p from h)|[v]=>rw[rt (show nc a v=some p from h)];rfl|_::_::_=>exact nomatch (show(none:Option (kO.wO a []))=some p from h)
  |cons c r ih=>
   intro a l p h
   match l with
   |[]=>exact nomatch (show(none:Option (kO.wO a (c::r)))=some p from h)
   |v::l=>
    have h:zX (nc a v) (w8 c r l)=some p:=h;cases hx:nc a v with
    |none=>rw[hx]at h;exact nomatch h
    |some x=>cases hy:w8 c r l with|none=>rw[hx,hy]at h;exact nomatch h|some y=>rw[hx,hy]at h;obtain rfl:=aa h;show V.x a x::D_ c r y=v::l;rw[ih c l y hy,rt hx]
 intro cs l p h
 match cs,l with|[],[]=>rfl|[],_::_=>exact nomatch (show(none:Option (kO []))=some p from h)|a::r,l=>exact key r a l p h
section
variable{h:H2}{n:Nat}{h1:aY}
theorem uM{a b:List V}{x y:List TV}(ha:ig h a x)(hb:ig h b y):ig h (a++b) (x++y):=by induction a generalizing x with|nil=>rw[gK ha];exact hb|cons v a ih=>obtain⟨c,r,rfl,h2,h3⟩:=dK ha;exact⟨h2,ih h3⟩
theorem qe:∀(v:V)(l:List V)(cs:List C),oB v=some l->cY h v cs->cX n h v->eT h v=true->ig h l (cs.map TV.c)/\(∀w∈l,cX n h w)/\∀w∈l,eT h w=true:=by
 intro v;induction v with
 |ni=>intro l cs hl hc _ _;obtain rfl:=aa hl;obtain rfl:=hc;exact⟨trivial,fun w hw=>by simp at hw,fun w hw=>by simp at hw⟩
 |co a r iha ihr=>
  intro l cs hl hc hk hal;simp only[oB]at hl;obtain⟨h1,hl⟩:=aD hl;simp only[ae,beq_iff_eq,dz]at h1;split at hl
  .rename_i l' hl';obtain rfl:=aa hl;obtain⟨x,y,rfl,h2,h3⟩:=hc;simp only[eT,ae]at hal;obtain⟨q1,q2,q3⟩:=ihr l' y hl' h3 hk.2 hal.2;have hlen:=eS h2;rw[h1.1]at hlen
   match x,hlen with
   |[c],_=>
    refine⟨⟨bA (cn h1.2 h2),q1⟩,fun w hw=>?_,fun w hw=>?_⟩
    .rcases aE.1 hw with rfl|hw
     .exact hk.1
     .exact q2 w hw
    .rcases aE.1 hw with rfl|hw
     .exact hal.1
     .exact q3 w hw
  .simp at hl
 |_=>intro l cs hl;simp[oB]at hl
theorem ye:∀(tb:wK)(f:Nat)(vs:List V)(sp:pE)(l:List V)(i:List Nat)(q:List (V×List Nat)),sR h f vs tb=some (sp,l,i,q)->(f,sp)∈tb/\nF h sp.ps vs=some (l,i,q):=by
 intro tb;induction tb with
 |nil=>intro f vs sp l i q hf;simp[sR]at hf
 |cons e tb ih=>
  obtain⟨g,sp0⟩:=e;intro f vs sp l i q hf;simp only[sR]at hf;cases hg:(g==f)with
  |false=>rw[hg,cond_false]at hf;obtain⟨h2,h3⟩:=ih f vs sp l i q hf;exact⟨aq _ h2,h3⟩
  |true=>
   rw[hg,cond_true]at hf;obtain rfl:g=f:=by simpa using hg
   split at hf
   .rename_i l' i' q' ha;simp only[bp,Prod.mk.injEq]at hf;obtain⟨rfl,rfl,rfl,rfl⟩:=hf;exact⟨by simp,ha⟩
   .obtain ⟨h2,h3⟩:=ih g vs sp l i q hf;exact⟨aq _ h2,h3⟩
theorem vE:∀{l:List Nat},qK l=true->l.Nodup:=by intro l;induction l with|nil=>intro _;exact List.nodup_nil|cons a l ih=>intro hl;simp only[qK,ae,dz,List.contains_eq_mem,decide_eq_false_iff_not]at hl;exact List.nodup_cons.2 ⟨hl.1,ih hl.2⟩
theorem pF.aW:∀{q:List (V×List Nat)}{lent:List (C×List Nat×List Nat)},pF h n h1 q lent->
  (lent.flatMap (fun(p:C×List Nat×List Nat)=>p.2.1)).Sublist (q.flatMap (·.2))/\(∀j∈lent.flatMap (fun(p:C×List Nat×List Nat)=>p.2.2),j∈q.flatMap (·.2)):=by
 intro q;induction q with
 |nil=>rintro lent rfl;exact⟨bq _,fun j hj=>hj⟩
 |cons p q ih=>
  rintro lent ⟨x,m,rfl,hx,hm⟩;obtain⟨a,b⟩:=ih hm;simp only[aZ];refine⟨hx.2.2.2.1.append a,fun j hj=>?_⟩;rcases ah.1 hj with hj|hj
  .exact az _ (hx.2.2.2.2.2.1 j hj)
  .exact av _ (b j hj)
theorem wV(hr:HR n h1 h):∀{q:List (V×List Nat)}{lent:List (C×List Nat×List Nat)},pF h n h1 q lent->cI h1 lent=true:=by
 intro q;induction q with
 |nil=>rintro lent rfl;rfl
 |cons p q ih=>
  obtain⟨v,i⟩:=p;rintro lent ⟨⟨c,aW,rd⟩,m,rfl,hx,hm⟩;have hw:=ih hm;obtain⟨hc,_,_,_,_,_,_,hsh⟩:=hx;cases c with
  |da sz id off len=>
   cases v with
   |so id'=>obtain⟨_,u,s,ver,ho⟩:=hsh;obtain⟨cc,e,hcc⟩:=hc;obtain rfl:=dh.1 e;have e2:=hcc.1 _ (ii (.inl ho));cases s with|nil=>simp[ij]at e2|mk l=>simp only[ij,C.da.injEq]at e2;obtain⟨rfl,rfl,rfl,rfl⟩:=e2;exact IW ((hr.ob _ _ ho).2.1.2.2 l rfl) hw
   |sr jd=>obtain⟨_,u,s,ho⟩:=hsh;obtain⟨cc,e,hcc⟩:=hc;obtain rfl:=dh.1 e;have e2:=hcc.1 _ (Sp ho);cases s with|nil=>simp[ij]at e2|mk l=>simp only[ij,C.da.injEq]at e2;obtain⟨rfl,rfl,rfl,rfl⟩:=e2;have hl:=(hr.ob _ _ ho).2.1.2.2 l rfl;simp only[cI,hl,cT,aH,beq_self_eq_true,Ma,Bool.true_and];exact hw
   |nl k=>have:[C.da sz id off len]=[vF k]:=hc
          simp[vF]at this
   |op a b2 e=>have:[C.da sz id off len]=[C.op a (iE b2 e)]:=hc
               simp at this
   |_=>exact hsh.elim
  |_=>exact hw
end
section
variable{P:Program}{h1:aY}{β:Type}{s:S2}{k:V->S2->List Nat->Option β}{z:β}
def JF(P:Program)(h1:aY)(kk:K)(xs:List TV)(s:S2)(k:V->S2->List Nat->Option β)(z:β):Prop:=∃v s' l,k v s' l=some z/\∃call:Call,fB P call/\∃x u aj m,bD call kk (xs.map some) h1 s.next=some (x,u,aj,m)/\Se s s' h1 x u aj m v l
theorem E0{b:Bool}{f:Nat}{caps:V}{xf:TV}{cs:List V}(hf:dD s.heap (.fn b f caps) xf)(hk:cX s.next s.heap (.fn b f caps))(ha:eT s.heap (.fn b f caps)=true)(hc:oB caps=some cs):
  ∃cc,C8 (some xf)=some (f,cc)/\ig s.heap cs (cc.map TV.c)/\(∀w∈cs,cX s.next s.heap w)/\∀w∈cs,eT s.heap w=true:=by
 rcases Of hf with⟨rfl,ds,hd,rfl⟩|⟨rfl,xs,hd,rfl⟩
 .obtain ⟨a1,a2⟩:=rG (h:=s.heap) caps ha;exact⟨ds.map .d,rfl,qe caps cs _ hc (Dx caps ds hd) (a2 _) a1⟩
 .exact ⟨xs,rfl,qe caps cs _ hc hd hk ha⟩
theorem u9{xs:List V}{vs:List TV}{g:H2}{m:Nat}(h:tu g (cU xs) vs)(hk:∀x∈xs,cX m g x):dD g (Gw xs) (Sq vs)/\cX m g (Gw xs):=by
 have hrow:∀(l:List V),(∀x∈l,cX m g x)->cX m g (cU l):=by intro l;induction l with|nil=>intro _;trivial|cons a l ih=>intro hl;exact⟨hl a (by simp),ih fun x hx=>hl x (by simp[hx])⟩
 match xs with|[]=>obtain rfl:=h;exact⟨⟨[],rfl,rfl⟩,trivial⟩|[v]=>obtain⟨x,ys,rfl,h2,h3⟩:=h;obtain rfl:=h3;exact⟨bA h2,hk v (by simp)⟩|a::b::l=>obtain⟨x,ys,rfl,h2,h3⟩:=h;obtain⟨y,zs,rfl,h4,h5⟩:=h3;exact⟨⟨_,rfl,_,_,rfl,h2,_,_,rfl,h4,h5⟩,hrow _ hk⟩
theorem vN:∀(t:Ty)(v:El t),tX t=true->∀d∈aJ t v,∃y,d=.lit y:=by
 intro t;induction t with
 |pr a c iha ihc=>
  intro v h d hd;simp only[tX,ae]at h;rcases ah.1 (show d∈aJ a v.1++aJ c v.2 from hd)with hd|hd
  .exact iha _ h.1 d hd
  .exact ihc _ h.2 d hd
 |st t ih=>intro v h d hd;exact ih v h d hd
 |ar n t ih=>intro v h d hd;obtain⟨a,_,ha⟩:=List.mem_flatMap.1 (show d∈v.1.flatMap (aJ t)from hd);exact ih a h d ha
 |un=>intro v h d hd;exact absurd (show d∈[]from hd) (by simp)
 |i k=>intro v h d hd;exact⟨_,ao.1 (show d∈[_]from hd)⟩
 |b=>intro v h d hd;exact⟨_,ao.1 (show d∈[_]from hd)⟩
 |s=>intro v h d hd;exact⟨_,ao.1 (show d∈[_]from hd)⟩
 |f k=>intro v h d hd;exact⟨_,ao.1 (show d∈[_]from hd)⟩
 |_=>intro v h;simp[tX]at h
theorem CA:∀(rs:List Sh)(l:List V)(s:S2)(xs:List V)(l':List V)(s':S2),AF rs l s=some (xs,l',s')->rs.all GQ=true->rs.all HY=true->(jB rs l).all oX=true:=by
 intro rs;induction rs with
 |nil=>intro l s xs l' s' _ _ _;rfl
 |cons c rs ih=>
  intro l s xs l' s' hm hl ho;simp only[dC,ae]at hl ho;simp only[AF]at hm;split at hm
  .rename_i x l1 s1 hm1;split at hm
   .rename_i ys l2 s2 hm2;cases c with
    |x t=>
     have ho1:=ho.1
     match l with
     |.x u v::l=>
      have hm1':=hm1;simp only[ll]at hm1;obtain⟨hc,hm3⟩:=aD hm1;simp only[ae,decide_eq_true_eq]at hc;obtain⟨rfl,_⟩:=hc;obtain⟨rfl,e⟩:=ad (aa hm3);obtain⟨rfl,rfl⟩:=ad e;have hlit:=vN u v hl.1;simp only[jB,df,dC,ae];refine⟨?_,ih _ _ _ _ _ hm2 hl.2 ho.2⟩;cases hs:pS (.x u)with
      |true=>simp only[cond_true,oX,aL];intro t ht;obtain⟨d,hd,rfl⟩:=c8.1 ht;obtain⟨y,rfl⟩:=hlit d hd;rfl
      |false=>
       have h2:qI (.x u)=true:=by simpa[HY,hs]using ho1
       have hlen:=uh hm1' h2;simp only[df,aH]at hlen
       match he:aJ u v,hlen with|[d],_=>obtain⟨y,rfl⟩:=hlit d (by rw[he];simp);rfl
     |[]|.kb _::_|.nl _::_|.so _::_|.sb _ _ _ _ _::_|.op _ _ _::_|.ep _ _ _ _::_|.pt _ _::_|.fn _ _ _::_|.om _::_|.rc _::_|.tp _::_|.ni::_|.co _ _::_|.fl _::_|.no::_|.gn::_=>simp[ll]at hm1
    |_=>simp[GQ]at hl
   .simp at hm
  .simp at hm
theorem CB{t:Ty}(v:El (.sl t))(h:tX t=true):xE (Gr (bn t) (aJ t) v)=true:=by cases v with|nil=>rfl|mk l=>show(l.map (aJ t)).all _=true;rw[List.all_map,aL];intro x _;show(aJ t x).all _=true;rw[aL];intro d hd;obtain⟨y,rfl⟩:=vN t x h d hd;rfl
theorem CD{β:Type}{z:β}:∀(os:List Sh)(q:List (V×List Nat))(l:List V)(s:S2)(k:S2->Option β),cC os q l s k=some z->os.all GR=true->(gC os l).all xE=true:=by
 intro os;induction os with
 |nil=>intro q l s k _ _;rfl
 |cons c os ih=>
  intro q l s k hb ho;simp only[dC,ae]at ho;obtain⟨h1,h2⟩:=ho;cases c with
  |gn=>cases q with|nil=>simp[cC]at hb|cons p q=>simp only[cC]at hb;have:=ih _ _ _ _ hb h2;simp only[gC,df,dC,bd,this,Kk];rfl
  |os t=>
   have hh:∀(u:Ty)(v:El (.sl u))(l:List V)(q':List (V×List Nat))(s':S2),(∃y,dT (.sl u) (.sl t) v=some y)->(hb:cC os q' l s' k=some z)->(gC (.os t::os) (.x (.sl u) v::l)).all xE=true:=by
    intro u v l q' s' ⟨y,hy⟩ hb2;obtain⟨e,_⟩:=bL hy;have e:u=t:=by injection e
    subst e;have:=ih _ _ _ _ hb2 h2;simp only[gC,df,dC,bd,this,Kk];exact CB v h1
   cases q with
   |nil=>simp[cC]at hb
   |cons p q=>
    obtain⟨pv,pi⟩:=p;cases l with
    |nil=>cases pv<;>simp[cC]at hb
    |cons x l=>
     cases x with
     |x u v=>
      cases u with
      |sl u=>
       cases pv with
       |nl n=>
        cases n with
        |zero=>
         cases pi with
         |nil=>
          simp only[cC]at hb;split at hb
          .rename_i y hy;obtain⟨_,_,hb⟩:=lh hb;exact hh u v l q s ⟨y,hy⟩ hb
          .cases hb
         |cons _ _=>simp[cC]at hb
        |succ n=>simp[cC]at hb
       |so id=>
        simp only[cC]at hb;split at hb
        .rename_i w old ver y ho hy;split at hb
         .obtain ⟨_,_,hb⟩:=lh hb;exact hh u v l q _ ⟨y,hy⟩ hb
         .cases hb
        .cases hb
       |_=>simp[cC]at hb
      |_=>cases pv<;>simp[cC]at hb
     |_=>cases pv<;>simp[cC]at hb
  |_=>simp[GR]at h1
theorem yD{tb:wK}{ro:Bool}{ga:List Bool}{f:V}{vs:List V}{xf:TV}{xs:List TV}(htb:ke P tb)(hz:p9 tb ro ga f vs s k=some z)(hr:HR s.next h1 s.heap)(hf:dD s.heap f xf)(hfk:cX s.next s.heap f)(hfa:eT s.heap f=true)
  (hx:ig s.heap vs xs) (hk:∀w∈vs,cX s.next s.heap w) (ha:∀w∈vs,eT s.heap w=true):JF P h1 (.call ro ga) (xf::xs) s k z:=by
 cases f with
 |fn b fid caps=>
  simp only[p9]at hz;split at hz
  case h_2=>simp at hz
  rename_i sp pay j q hfs;split at hfs
  case h_2=>simp at hfs
  rename_i cs hcs;obtain⟨hmem,hargs⟩:=ye tb fid _ sp pay j q hfs;obtain⟨hwy,hgood⟩:=htb _ hmem;simp only[D1,ae]at hwy;obtain⟨⟨⟨w1,w2⟩,w3⟩,w4⟩:=hwy;obtain⟨hc,hz2⟩:=aD hz;simp only[ae,decide_eq_true_eq]at hc;obtain⟨⟨⟨c1,c2⟩,c3⟩,c4⟩:=hc;clear hz;split at hz2
  case h_2=>simp at hz2
  rename_i p hp;obtain⟨zz,hzz,hz3⟩:=lh hz2;obtain⟨rs,os,l,hm,hk3,hg⟩:=zS sp.al zz hz3 (hgood p zz hzz);rw[ko _ _ _ hp]at hg;obtain⟨cc,hfn,d1,d2,d3⟩:=E0 hf hfk hfa hcs;rw[c2]at w1;obtain⟨aj,lent,e1,e2,e3,e4⟩:=wH hr sp.ps (vs++cs) ga pay j q (xs++cc.map TV.c) hargs (uM hx d1) (fun w hw=>(ah.1 hw).elim (hk w) (d2 w)) (fun w hw=>(ah.1 hw).elim (ha w) (d3 w)) w1 w2;obtain⟨o1,o2⟩:=e4.aW;have hnd:=vE c3;have hap:∀i∈gq (fun(p:V×List Nat)=>p.2) q,i∉j:=fun i hi=>by simpa using aL.1 c4 i hi
  have hdec:decide ((lent.flatMap (fun(p:C×List Nat×List Nat)=>p.2.1)).Nodup/\(lent.flatMap (fun(p:C×List Nat×List Nat)=>p.2.1)).all (fun i=>!aj.contains i)=true)=true:=by refine decide_eq_true ⟨o1.nodup hnd,aL.2 fun i hi=>?_⟩;have:=hap i (o1.subset hi);simpa using fun hm=>this (e2 i hm).1
  have hwl:=wV hr e4;have hokR:rs.all HY=true:=aL.1 w3 _ hm;cases ro with
  |true=>
   have hro:sp.ro=true:=by simpa using c1
   rw[hro]at w4;have w5:Ig sp=true:=by simpa using w4
   have v3:=aL.1 w5 _ hm;simp only[ae]at v3;simp only[cond_true]at hk3;obtain⟨s1,bu,b1,b2,b3⟩:=rD hr os q lent _ s h1 _ hk3 e4 (ai _) hr (fF.refl _ _) hnd;split at b1
   case h_2=>simp at b1
   rename_i ys l2 s2 hmk;obtain⟨m1,m2,m3,m4,m5⟩:=sL rs _ s1 ys l2 s2 _ hmk b3.hr hokR;obtain⟨t1,t2⟩:=u9 m1 m2;have hlit:=CA rs _ s1 ys l2 s2 hmk v3.1 hokR;have hout:=CD os q _ s _ hk3 v3.2;refine⟨_,_,_,b1,only fid (ez sp.ps pay) (jB rs (l.take (eX rs).length)) (gC os (l.drop (eX rs).length)),zi hg,?_⟩;have hld:=ET (h:=h1) (aj:=aj) hlit hout b2;obtain⟨g1,g2⟩:=zN (ro:=true) hfn (iQ xs) e1 hwl hdec hld;refine⟨_,_,_,_,NX g1 g2,?_⟩;obtain⟨W1,x1,x2,x3⟩:=b3.wo;obtain⟨W2,y1,y2,y3,y4⟩:=m3.wo;refine⟨t1,t2,?_,b3.c9.trans b3.le m3.c9,by rw[m3.bS,b3.bS],by rw[m3.gh,b3.gh],by omega,by have:=b3.le;have:=m3.le;omega,fun i hi=>?_,fun i hi h=>(by rw[y4 i fun q=>by have:=(y3 i q).1;have:=b3.le;omega];exact b3.nb i hi h),W2++W1,by rw[y1,x1];simp only[aI],fun p hp=>?_,fun i hi=>?_⟩
   .have:=m3.hr;simpa only[aI]using this
   .rcases ah.1 hi with hi|hi
    .exact az _ (e2 i hi).1
    .exact av _ (o2 i hi)
   .simp only[ah]at hp|-;rcases hp with hp|hp
    .exact .inl (y2 p hp)
    .exact .inr (x2 p hp)
   .simp only[ah,not_or]at hi;rw[y4 i hi.1,x3 i hi.2]
  |false=>
   simp only[cond_false]at hk3;split at hk3
   case h_2=>simp at hk3
   rename_i s0 hs0;obtain⟨fu,f1,f2,f3,f4,f5,f6,f7,f8,f9⟩:=t9 (s0:=s) rfl hr j s0 aj aj hs0 e2 e3;obtain⟨s1,bu,b1,b2,b3⟩:=rD hr os q lent _ s0 (fu++h1) _ hk3 e4 (by omega) (by rw[f6];exact f2) f3 hnd;split at b1
   case h_2=>simp at b1
   rename_i ys l2 s2 hmk;obtain⟨m1,m2,m3,m4,m5⟩:=sL rs _ s1 ys l2 s2 _ hmk b3.hr hokR;obtain⟨t1,t2⟩:=u9 m1 m2;rw[f6]at b2;refine⟨_,_,_,b1,only fid (ez sp.ps pay) (jB rs (l.take (eX rs).length)) (gC os (l.drop (eX rs).length)),zi hg,?_⟩;have hld:=Jp (rs:=jB rs (l.take (eX rs).length)) f1 b2;obtain⟨g1,g2⟩:=zN (ro:=false) hfn (iQ xs) e1 hwl hdec hld;refine⟨_,_,_,_,NX g1 g2,?_⟩;obtain⟨W1,x1,x2,x3⟩:=b3.wo;obtain⟨W2,y1,y2,y3,y4⟩:=m3.wo;refine⟨t1,t2,?_,(f3.trans (Nat.le_of_eq f6.symm) b3.c9).trans (by have:=b3.le;omega) m3.c9,by rw[m3.bS,b3.bS,f4],by rw[m3.gh,b3.gh,f5],by omega,by have:=b3.le;have:=m3.le;omega,fun i hi=>?_,fun i hi h=>(by rw[y4 i fun q=>by have:=(y3 i q).1;have:=b3.le;omega];exact b3.nb i (by omega) ((f9 i fun q=>x8 rfl hs0 i q h).trans h)),W2++W1++j,by rw[y1,x1,f7];simp only[aI],fun p hp=>?_,fun i hi=>?_⟩
   .have:=m3.hr;simpa only[aI]using this
   .rcases ah.1 hi with hi|hi
    .exact az _ (e2 i hi).1
    .exact av _ (o2 i hi)
   .simp only[aI,ah]at hp|-;rcases hp with hp|hp|hp
    .exact .inl (y2 p hp)
    .exact .inr (.inl (x2 p hp))
    .exact .inr (.inr (f8 p hp))
   .simp only[aI,ah,not_or]at hi;rw[y4 i hi.1,x3 i hi.2.1,f9 i hi.2.2]
 |_=>simp[p9]at hz
end
def Mi:Prop:=∀g v,G3 g=some v->∃d,It g=some d/\∀h n,dD h v (.c (.d d))/\cX n h v/\eT h v=true
theorem ot{n:Nat}{h h':H2}(hs:fF n h h')(hnb:∀i,i<n->fO h i=none->fO h' i=none):∀{v:V},cX n h v->eT h' v=true->eT h v=true:=by
 have key:∀id,id<n->(match fO h' id with|some _=>true|none=>false)=true->(match fO h id with|some _=>true|none=>false)=true:=by intro id hid ha;cases ho:fO h id with|some _=>rfl|none=>rw[hnb id hid ho]at ha;simp at ha
 intro v;induction v with
 |so id=>
  intro hk ha;have hk:id<n:=hk;simp only[eT]at ha|-;split at ha
  .rename_i t s v ho;obtain⟨s0,v0,h1,_⟩:=mC hs hk (.inl ho);rcases h1 with h1|h1<;>rw[h1]
  .rename_i t s v ho;obtain⟨s0,v0,h1,_⟩:=mC hs hk (.inr ho);rcases h1 with h1|h1<;>rw[h1]
  .simp at ha
 |sr id=>
  intro hk ha;have hk:id<n:=hk;simp only[eT]at ha|-;split at ha
  .rename_i t s ln ho;obtain⟨s0,ln0,h1,_⟩:=y6 hs hk ho;rw[h1]
  .simp at ha
 |sb id ver lo t r=>
  rintro⟨hid,hk⟩ ha;obtain⟨hd,ha⟩:=bQ.1 ha;have ha:uv h' id ver=true:=ha;obtain⟨u,s,ho⟩:=gW ha;obtain⟨s0,v0,h3,h4,_,_⟩:=mC hs hid ho;obtain⟨h7,_⟩:=hk u s0 v0 h3;have:v0=ver:=by omega
  subst this;refine bQ.2 ⟨hd,?_⟩;rcases h3 with h3|h3<;>rw[h3]<;>simp
 |op id t p=>rintro⟨hid,_⟩ ha;exact key id hid ha
 |ep id m t p=>rintro⟨hid,_⟩ ha;exact key id hid ha
 |om id=>intro hid ha;exact key id hid ha
 |fn z f l ih=>intro hk ha;cases z with|true=>exact ha|false=>exact ih hk ha
 |rc l ih=>intro hk ha;exact ih hk ha
 |tp l ih=>intro hk ha;exact ih hk ha
 |co a r iha ihr=>rintro⟨h1,h2⟩ ha;simp only[eT,ae]at ha|-;exact⟨iha h1 ha.1,ihr h2 ha.2⟩
 |_=>intro _ ha;exact ha
def Bv(h:H2):V->List C->Prop
 |.ni,cs=>cs=[]
 |.co a r,cs=>∃c m,cs=c::m/\(eT h a=true->cY h a [c])/\Bv h r m
 |_,_=>False
theorem vX{n:Nat}{h h':H2}(hs:fF n h h')(hnb:∀i,i<n->fO h i=none->fO h' i=none):∀{v:V}{cs:List C},cX n h v->Bv h v cs->Bv h' v cs:=by intro v;induction v with|co a r _ ihr=>rintro cs ⟨h1,h2⟩ ⟨c,m,rfl,h3,h4⟩;exact⟨c,m,rfl,fun ha=>gV hs h1 (h3 (ot hs hnb h1 ha)),ihr h2 h4⟩|ni=>intro cs _ h;exact h|_=>intro cs _ h;exact h.elim
structure R2(s1:St)(s:S2):Prop where
 bS:∀t v,bv s.bS t=some v->cX s.next s.heap v/\(eT s.heap v=true\/v=.no->∃x,bv s1.bS t=some x/\dD s.heap v x)
 hr:HR s.next s1.heap s.heap
 next:s1.next<=s.next
 gh:Bv s.heap s.gh s1.gh/\cX s.next s.heap s.gh
theorem B4{v:Value}(hp:cO v=true)(ha:∀cs,v≠.agg cs):cv v=some (.c (.d (.lit v))):=by
 unfold cv;split
 .rename_i cs;exact absurd rfl (ha cs)
 .rw [if_pos hp]
theorem zK{c:Value}{v:V}(hc:IV c=some v)(h:H2)(n:Nat):∃x,cv c=some x/\dD h v x/\cX n h v/\eT h v=true:=by
 unfold IV at hc;split at hc
 case h_10=>
  rename_i cs;split at hc
  .rename_i hp;obtain rfl:=aa hc;refine⟨.agg (cs.toList.map fun v=>.d (.lit v)),by simp only[cv];rw[if_pos hp],bA (qh rfl ⟨hp,rfl⟩),trivial,hp⟩
  .simp at hc
 case h_11=>simp at hc
 all_goals
  obtain rfl:=aa hc;exact⟨_,B4 rfl (fun cs e=>by cases e),bA (cn rfl (by first|rfl|exact⟨rfl,rfl⟩)),trivial,rfl⟩
theorem je(hg:Mi){s1:St}{s:S2}(hr:R2 s1 s){o:Operand}{v:V}(ho:Bt s.bS s.heap o=some v):∃x,L9 s1.bS o=some x/\dD s.heap v x/\cX s.next s.heap v/\eT s.heap v=true:=by
 cases o with
 |tmp t=>
  simp only[Bt]at ho;split at ho
  .rename_i w hw;obtain⟨ha,ho⟩:=aD ho;obtain rfl:=aa ho;obtain⟨h3,h4⟩:=hr.bS t w hw;obtain⟨x,h1,h2⟩:=h4 (.inl ha);exact⟨x,h1,h2,h3,ha⟩
  .simp at ho
 |const c=>exact zK ho _ _
 |global g=>obtain⟨d,h1,h2⟩:=hg g v ho;exact⟨_,by simp only[L9,h1,Option.map_some],h2 _ _⟩
 |func f=>obtain rfl:=aa ho;exact⟨_,rfl,bA (cn rfl ⟨[],rfl,rfl⟩),trivial,rfl⟩
structure lQ(s1:St)(s:S2)(q:Rg):Prop where
 r:R2 s1 s
 kn:∀g b,GX q.kn g=some b->bv s1.bS g=some (tB b)
 cd:∀t g b v,bv q.cd t=some (g,b,v)->∃c,bv s1.bS g=some (tB c)/\(c=b->∃x,bv s1.bS t=some x/\dD s.heap v x/\cX s.next s.heap v)
theorem Gn{a b:Bool}(h:tB a=tB b):a=b:=by simpa[tB]using h
theorem nY(hg:Mi){s1:St}{s:S2}{q:Rg}(hr:lQ s1 s q){gc:Option (Nat×Bool)}(hgc:∀g b,gc=some (g,b)->bv s1.bS g=some (tB b)){o:Operand}{v:V}(ho:Bu s q gc o=some v):
  ∃x,L9 s1.bS o=some x/\dD s.heap v x/\cX s.next s.heap v/\eT s.heap v=true:=by
 cases o with
 |tmp t=>
  simp only[Bu]at ho;split at ho
  .rename_i g b w hw;obtain⟨hc,ho⟩:=aD ho;obtain⟨ha,ho⟩:=aD ho;obtain rfl:=aa ho;obtain⟨c,h1,h2⟩:=hr.cd t g b w hw
   have hb:bv s1.bS g=some (tB b):=by
    simp only[dE,decide_eq_true_eq]at hc;rcases hc with hc|hc
    .exact hgc g b hc
    .exact hr.kn g b hc
   rw[h1]at hb;obtain⟨x,h3,h4,h5⟩:=h2 (Gn (aa hb));exact⟨x,h3,h4,h5,ha⟩
  .exact je hg hr.r ho
 |const c=>exact je hg hr.r ho
 |global g=>exact je hg hr.r ho
 |func f=>exact je hg hr.r ho
theorem sF(hg:Mi){s1:St}{s:S2}{q:Rg}(hr:lQ s1 s q){gc:Option (Nat×Bool)}(hgc:∀g b,gc=some (g,b)->bv s1.bS g=some (tB b)):∀(os:List Operand)(vs:List V),xJ s q gc os=some vs->
  ∃xs,os.map (L9 s1.bS)=xs.map some/\ig s.heap vs xs/\(∀w∈vs,cX s.next s.heap w)/\∀w∈vs,eT s.heap w=true:=by
 intro os;induction os with
 |nil=>intro vs ho;obtain rfl:=aa ho;exact⟨[],rfl,trivial,fun w hw=>by simp at hw,fun w hw=>by simp at hw⟩
 |cons o os ih=>
  intro vs ho;simp only[xJ]at ho;split at ho
  .rename_i v l hv hl;obtain rfl:=aa ho;obtain⟨x,h1,h2,h3,h4⟩:=nY hg hr hgc hv;obtain⟨xs,g1,g2,g3,g4⟩:=ih l hl;refine⟨x::xs,by simp[h1,g1],⟨h2,g2⟩,fun w hw=>?_,fun w hw=>?_⟩
   .rcases aE.1 hw with rfl|hw
    .exact h3
    .exact g3 w hw
   .rcases aE.1 hw with rfl|hw
    .exact h4
    .exact g4 w hw
  .simp at ho
theorem Dp{h:H2}{t:Ty}{w:V}{b:El t}{x:TV}(hd:L_ t=true)(hx:dD h w x)(hc:mP t w=some b):dD h (.x t b) x:=by obtain⟨cs,h1,h2,h3⟩:=jw (F0 hc) hx;have e:=fq w false t b cs hc h1;have ha:=pd hc;exact bA ⟨cs,⟨hd,e⟩,fun q=>h2 (ha.trans q),fun q=>h3 (ha.trans q)⟩
theorem vK{h:H2}{c:Bool}{a b v:V}{x:TV}(hm:Jo c a b=some v)(ha:eT h a=true)(hb:eT h b=true)(h1:c=true->dD h a x)(h2:c=false->dD h b x):dD h v x/\∀n,cX n h v:=by
 unfold Jo at hm;split at hm
 .rename_i p q;obtain rfl:=aa hm;refine⟨?_,fun _=>trivial⟩;cases c with|true=>rw[oH (h1 rfl)];exact xb _|false=>rw[oH (h2 rfl)];exact xb _
 .rename_i t p w;split at hm
  .rename_i y hy;obtain rfl:=aa hm;refine⟨?_,fun _=>trivial⟩;cases c with|true=>exact h1 rfl|false=>exact Dp ha (h2 rfl) hy
  .simp at hm
 .rename_i t p w;split at hm
  .rename_i y hy;obtain rfl:=aa hm;refine⟨?_,fun _=>trivial⟩;cases c with|true=>exact Dp hb (h1 rfl) hy|false=>exact h2 rfl
  .simp at hm
 .simp at hm
theorem pW(hg:Mi){e:List (Nat×V)}{h:H2}{o:Operand}{v:V}(ho:Bt e h o=some v):eT h v=true:=by
 cases o with
 |tmp t=>
  simp only[Bt]at ho;split at ho
  .obtain ⟨ha,ho⟩:=aD ho;obtain rfl:=aa ho;exact ha
  .simp at ho
 |const c=>obtain⟨_,_,_,_,ha⟩:=zK ho h 0;exact ha
 |global g=>obtain⟨d,_,h2⟩:=hg g v ho;exact(h2 h 0).2.2
 |func f=>obtain rfl:=aa ho;rfl
theorem zh(hg:Mi){s:S2}{q:Rg}{gc:Option (Nat×Bool)}{o:Operand}{v:V}(ho:Bu s q gc o=some v):eT s.heap v=true:=by
 cases o with
 |tmp t=>
  simp only[Bu]at ho;split at ho
  .obtain ⟨hc,ho⟩:=aD ho;obtain⟨ha,ho⟩:=aD ho;obtain rfl:=aa ho;exact ha
  .exact pW hg ho
 |const c=>exact pW (e:=s.bS) (o:=.const c) hg ho
 |global g=>exact pW (e:=s.bS) (o:=.global g) hg ho
 |func f=>exact pW (e:=s.bS) (o:=.func f) hg ho
theorem Ah(hg:Mi){s1:St}{s:S2}{q:Rg}(hr:lQ s1 s q){gc:Option (Nat×Bool)}(hgc:∀g b,gc=some (g,b)->bv s1.bS g=some (tB b)){os:List Operand}{v:V}(hp:B6 s q gc os=some v)(c:Call)(H:aY)(nx:Nat):
  ∃x,bD c .pick (os.map (L9 s1.bS)) H nx=some (x,[],[],nx)/\dD s.heap v x/\cX s.next s.heap v:=by
 have one:∀(g a b:Operand)(t:Bool)(w:V),L9 s1.bS g=some (tB t)->Bu s q gc (bif t then a else b)=some w->∃x,bD c .pick ([g,a,b].map (L9 s1.bS)) H nx=some (x,[],[],nx)/\dD s.heap w x/\cX s.next s.heap w:=by intro g a b t w h1 h2;obtain⟨x,h3,h4,h5,_⟩:=nY hg hr hgc h2;refine⟨x,?_,h4,h5⟩;simp only[am,aO,h1];cases t with|true=>simp only[cond_true]at h3;rw[h3];rfl|false=>simp only[cond_false]at h3;rw[h3];rfl
 unfold B6 at hp;split at hp
 .rename_i g a b;split at hp
  .rename_i _ _ t hk;exact one _ a b t v (hr.kn g t hk) hp
  .rename_i t hk he;obtain⟨x,h1,h2⟩:=(hr.r.bS g _ he).2 (.inl rfl);rw[oH h2]at h1;exact one _ a b t v h1 hp
  .rename_i t hk he;obtain⟨x,h1,h2⟩:=(hr.r.bS g _ he).2 (.inl rfl)
   .rw [yX h2]at h1;split at hp
    .rename_i x y hx hy;have ax:=zh hg hx;have ay:=zh hg hy;cases t with|true=>obtain⟨z,g1,g2,_⟩:=nY hg hr (gc:=some (g,true)) (fun g' b' e=>by cases e;exact h1) hx;obtain⟨m1,m2⟩:=vK hp ax ay (fun _=>g2) (fun e=>by cases e);refine⟨z,?_,m1,m2 _⟩;have h1':L9 s1.bS (.tmp g)=some (tB true):=h1;simp only[am,aO,h1',g1];rfl|false=>obtain⟨z,g1,g2,_⟩:=nY hg hr (gc:=some (g,false)) (fun g' b' e=>by cases e;exact h1) hy;obtain⟨m1,m2⟩:=vK hp ax ay (fun e=>by cases e) (fun _=>g2);refine⟨z,?_,m1,m2 _⟩;have h1':L9 s1.bS (.tmp g)=some (tB false):=h1;simp only[am,aO,h1',g1];rfl
    .simp at hp
  .simp at hp
 .rename_i t a b;exact one _ a b t v rfl hp
 .simp at hp
theorem Ag{s:S2}{q:Rg}{gc:Option (Nat×Bool)}{os:List Operand}{vs:List V}(ho:xJ s q gc os=some vs)(hp:EA os=true):∀a k b,vs=[a,.x (.i k) b]->0<b:=by
 intro a k b e;subst e
 match os with
 |[o,.const (.int k' m)]=>
  simp only[EA,decide_eq_true_eq]at hp;simp only[xJ,Bu,Bt,IV]at ho;split at ho
  .rename_i v l hv hl;simp only[bp]at hl;subst hl;simp only[bp,List.cons.injEq,and_true]at ho;obtain⟨_,e⟩:=ho;cases e;exact hp
  .simp at ho
theorem sj(hg:Mi){s1:St}{s:S2}{q:Rg}(hr:lQ s1 s q){gc:Option (Nat×Bool)}(hgc:∀g b,gc=some (g,b)->bv s1.bS g=some (tB b)){o:OP}{v:V}{l:List Nat}(ht:Ea o s q gc=some (v,l))(c:Call)(nx:Nat):
  ∃x aj,bD c o.o.k (o.o.args.map (L9 s1.bS)) s1.heap nx=some (x,[],aj,nx)/\dD s.heap v x/\cX s.next s.heap v/\∀i∈aj,i∈l:=by
 unfold Ea at ht;cases hpk:TI o.o.k with
 |true=>
  rw[hpk,cond_true]at ht;split at ht
  .rename_i w hw;obtain⟨rfl,rfl⟩:=ad (aa ht);obtain⟨x,h1,h2,h3⟩:=Ah hg hr hgc hw c s1.heap nx;have hk:o.o.k=.pick:=by revert hpk;cases o.o.k<;>simp[TI]
   rw[hk];exact⟨x,[],h1,h2,h3,fun i hi=>by simp at hi⟩
  .simp at ht
 |false=>
  rw[hpk,cond_false]at ht;split at ht
  .rename_i vs hvs;obtain⟨xs,h1,h2,h3,h4⟩:=sF hg hr hgc _ _ hvs;rw[h1];exact zY hr.r.hr ht h2 h3 h4 (fun hp=>Ag hvs hp) c nx
  .simp at ht
theorem Df{P:Program}{β:Type}{tb:wK}(htb:ke P tb)(hg:Mi){s1:St}{s:S2}{q:Rg}(hr:lQ s1 s q){gc:Option (Nat×Bool)}(hgc:∀g b,gc=some (g,b)->bv s1.bS g=some (tB b)){o:OP}{k:V->S2->List Nat->Option β}{z:β}
  (hz:IU tb o s q gc k=some z):∃v s' l,k v s' l=some z/\∃call:Call,fB P call/\∃x u aj m,bD call o.o.k (o.o.args.map (L9 s1.bS)) s1.heap s.next=some (x,u,aj,m)/\Se s s' s1.heap x u aj m v l:=by
 unfold IU at hz;split at hz
 .rename_i v l ht;obtain⟨x,aj,h1,h2,h3,h4⟩:=sj hg hr hgc ht kJ s.next;exact⟨v,s,l,hz,kJ,kW,x,[],aj,s.next,h1,Se.pure hr.r.hr h2 h3 h4⟩
 .split at hz
  .rename_i vs hvs;obtain⟨xs,h1,h2,h3,h4⟩:=sF hg hr hgc _ _ hvs;rw[h1];split at hz
   .rename_i ro ga f vs' hk;obtain⟨y,ys,rfl,h5,h6⟩:=dK h2;obtain⟨v,s',l,e1,call,e2,x,u,aj,m,e3,e4⟩:=yD (P:=P) htb hz hr.r.hr h5 (h3 _ (by simp)) (h4 _ (by simp)) h6 (fun w hw=>h3 w (by simp[hw])) (fun w hw=>h4 w (by simp[hw]));rw[hk];exact⟨v,s',l,e1,call,e2,x,u,aj,m,e3,e4⟩
   .obtain ⟨v,s',l,e1,e2⟩:=xG hz hr.r.hr h2 h3 h4;obtain⟨x,u,aj,m,e3,e4⟩:=e2 kJ;exact⟨v,s',l,e1,kJ,kW,x,u,aj,m,e3,e4⟩
  .simp at hz
end Go.Ev
