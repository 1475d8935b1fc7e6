/- Calls: the arguments, as they are laid. Conditions: as stated. -/
import Derived.Test.YtjjajcecekocdaaGreatFq
open Bool renaming and_eq_true->ak,and_eq_true_iff->dm,and_self->gI,and_true->j7,not_eq_true'->gg,or_eq_true->gu
open List renaming all_cons->gp,all_eq_true->a_,append_assoc->aR,append_nil->bv,cons_append->aU,drop_zero->cL,flatMap->kT,flatMap_cons->bg,headD_cons->bZ,length_map->aM,map_cons->aq,map_nil->aW,mem_append->ao,mem_append_left->aI,mem_append_right->aG,mem_cons->aN,mem_cons_of_mem->aF,mem_map->bB,mem_singleton->au,nil_sublist->jk,nodup_append->cD,singleton_append->bd,singleton_inj->fN
open List.Sublist renaming refl->bY
open Nat renaming le_refl->am,le_succ->bI,lt_succ_self->aY,zero_le->fM
open Option.some renaming inj->aa,injEq->bM
open Prod.mk renaming inj->af
namespace Go.Ev
def Qk(k:Nat):D:=match DZ k with|.d x=>x|_=>default
theorem Rv(k:Nat):DZ k=.d (Qk k):=rfl
def rT:Sh->List V->List D×List V
 |.x _,.x u v::l=>(aS u v,l)
 |.pt _,.x u v::l=>([.pt (aS u v)],l)
 |.nl k,l=>([Qk k],l)
 |.fn f c,l=>([.fn f (rT c l).1],(rT c l).2)
 |.pr a c,l=>((rT a l).1++(rT c (rT a l).2).1,(rT c (rT a l).2).2)
 |_,l=>([],l)
def IH(t:Ty):Sl (El t)->Option (List (List D))
 |.nil=>none
 |.mk l=>some (l.map (aS t))
def yO(t:Ty):Sl (Sl (El t))->T
 |.nil=>.d (.lit (.slice none 0 0))
 |.mk l=>.Ai (ce t) (l.map (IH t))
theorem Iw{t:Ty}(l:List (Sl (El t))):vj (l.map (po t))=some (l.map (IH t)):=by induction l with|nil=>rfl|cons s l ih=>simp only[aq,vj,ih];cases s<;>rfl
theorem yQ{t:Ty}(l:List (Sl (El t))):(l.map (IH t)).map nA=l.map (po t):=by rw[List.map_map];exact List.map_congr_left fun s _=>by cases s<;>rfl
def Yy(k v:Ty)(m:Mp (El k) (El v)):T:=.mp (lQ k) (lQ v) (m.es.map (B6 (u_ k) (aS v))) m.bP
def l5:Sh->List V->List T×List V
 |.x _,.x u v::l=>((aS u v).map .d,l)
 |.os _,.x (.sl u) v::l=>([Q2 (ce u) (aS u) v],l)
 |.rw _,.x (.sl (.sl u)) v::l=>([yO u v],l)
 |.mp _ _,.x (.mp k v) m::l=>([Yy k v m],l)
 |.pb _ c,l=>([.pt (l5 c l).1],(l5 c l).2)
 |.nl k,l=>([.d (Qk k)],l)
 |.st c,l=>l5 c l
 |.pr a c,l=>((l5 a l).1++(l5 c (l5 a l).2).1,(l5 c (l5 a l).2).2)
 |.gn,l=>([.eH],l)
 |_,l=>([],l)
def yb:Sh->Bool
 |.x t=>lQ t
 |.st _=>true
 |_=>false
def fw:List (Bool×Sh)->List V->List A
 |[],_=>[]
 |(true,c)::r,l=>.mt ((l5 c l).1.headD default)::fw r (l5 c l).2
 |(false,c)::r,l=>(bif yb c then .agg (rT c l).1 else .d ((rT c l).1.headD default))::fw r (rT c l).2
def jz:List Sh->List V->List R
 |[],_=>[]
 |c::r,l=>(bif yb c then .agg (l5 c l).1 else .c ((l5 c l).1.headD default))::jz r (l5 c l).2
def lk:List Sh->List V->List T
 |[],_=>[]
 |c::r,l=>(l5 c l).1.headD default::lk r (l5 c l).2
def xa:Sh->Nat
 |.x t=>ce t+1
 |.pt t=>ce t+3
 |.fn _ c=>xa c+2
 |.pr a c=>xa a+xa c
 |.ni=>0
 |_=>1
section
variable{h:H2}{n:Nat}{h1:bC}
def Bc:C->Prop
 |.d _|.cE _ _ _ _=>True
 |_=>False
theorem Z2{c:C}(hc:Bc c)(k j:Nat):eM h1 k c=eM h1 j c:=by cases c with|d x=>rw[qq,qq]|cE a b e f=>cases k<;>cases j<;>simp only[eM]|_=>exact hc.elim
theorem yA:∀{cs:List C}{ds:List D}{az:List Nat}{k:Nat},(∀c∈cs,Bc c)->dZ h1 cs=some (ds,az)->cs.length<k->gw h1 k cs=some (ds,az):=by
 intro cs;induction cs with
 |nil=>intro ds az k _ h _;simp only[dZ]at h;rw[<-h];cases k<;>rfl
 |cons c cs ih=>
  intro ds az k hf h hk;cases k with
  |zero=>simp at hk
  |succ k=>
   simp only[dZ]at h;split at h
   .rename_i x a xs b hx hxs;simp only[gw];rw[Z2 (hf c (by simp)) k 300,hx,ih (fun c hc=>hf c (by simp[hc])) hxs (by simpa using hk)];exact h
   .simp at h
theorem BH:∀{x y:List C}{dx dy:List D}{ix iy:List Nat}{k:Nat},gw h1 k x=some (dx,ix)->gw h1 (k-x.length) y=some (dy,iy)->x.length<=k->gw h1 k (x++y)=some (dx++dy,ix++iy):=by
 intro x;induction x with
 |nil=>
  intro y dx dy ix iy k hx hy _;have:gw h1 k []=some ([],[]):=by cases k<;>rfl
  rw[this]at hx;obtain⟨rfl,rfl⟩:=af (aa hx);simpa using hy
 |cons c x ih=>
  intro y dx dy ix iy k hx hy hk;cases k with
  |zero=>simp at hk
  |succ k=>
   simp only[gw]at hx;split at hx
   .rename_i p a q b hp hq;obtain⟨rfl,rfl⟩:=af (aa hx);simp only[aU,gw,hp];rw[ih hq (by simpa using hy) (by simpa using hk)];simp
   .simp at hx
theorem Ep{α:Type}{sz id:Nat}{enc:α->List D}{s:Sl α}:Bc (mT sz enc id s):=by cases s<;>trivial
theorem Ml{id lo:Nat}{t:Ty}{r:Sl (El t)}:Bc (yi id lo t r):=by cases r<;>trivial
theorem Ej:∀(v w:V)(l:List Nat)(cs:List C),jA h v=some (w,l)->fG h v cs->iU h v=true->∀c∈cs,Bc c:=by
 have fl:∀(ds:List D),∀c∈ds.map C.d,Bc c:=fun ds c hc=>by obtain⟨d,_,rfl⟩:=bB.1 hc;trivial
 intro v;induction v with
 |so id=>
  intro w l cs hf hv _ c hc;simp only[jA]at hf;split at hf
  .rename_i t s l' hs;obtain⟨ver,ho,_⟩:=vk hs;obtain⟨c',rfl,hc'⟩:=hv;obtain rfl:=au.1 hc;rw[hc'.1 _ (mS ho)];exact Ep
  .simp at hf
 |sr id=>
  intro w l cs hf hv _ c hc;simp only[jA]at hf;split at hf
  .rename_i t s ho;obtain⟨c',rfl,hc'⟩:=hv;obtain rfl:=au.1 hc;rw[hc'.1 _ (tH ho)];exact Ep
  .simp at hf
 |sb id ver lo t r=>intro w l cs hf hv ha c hc;obtain⟨c',rfl,hc'⟩:=hv;obtain rfl:=au.1 hc;rw[hc'.1 (dm.1 ha).2];exact Ml
 |rc r ih=>
  intro w l cs hf hv ha;simp only[jA]at hf;split at hf
  .rename_i w' l' hw;exact ih w' l' cs hw hv ha
  .simp at hf
 |co a r iha ihr=>
  intro w l cs hf hv ha c hc;simp only[jA]at hf;split at hf
  .rename_i x l1 y l2 hx hy;obtain⟨ca,cr,rfl,h2,h3⟩:=hv;simp only[iU,ak]at ha;rcases ao.1 hc with hc|hc
   .exact iha x l1 ca hx h2 ha.1 c hc
   .exact ihr y l2 cr hy h3 ha.2 c hc
  .simp at hf
 |x t v=>intro w l cs hf hv _;obtain⟨_,rfl⟩:=hv;exact fl _
 |kb c=>intro w l cs hf hv _;obtain rfl:=hv;exact fl [_]
 |nl k=>intro w l cs hf hv _;obtain rfl:=hv;exact fl [_]
 |fl q=>intro w l cs hf hv _;obtain⟨_,rfl⟩:=hv;rw[B9];exact fl _
 |ni=>intro w l cs hf hv _;obtain rfl:=hv;exact fl []
 |pt t v=>intro w l cs hf hv _;obtain⟨_,rfl⟩:=hv;exact fl [_]
 |fn z f q ih=>intro w l cs hf hv _;cases z with|true=>obtain⟨ds,_,rfl⟩:=hv;exact fl [_]|false=>simp[jA]at hf
 |_=>intro w l cs hf hv;simp[jA]at hf
theorem MW:∀(v:V)(ds:List D),rn v=some ds->fG h v (ds.map .d):=by
 intro v;induction v with
 |co a r iha ihr=>
  intro ds hd;simp only[rn]at hd;split at hd
  .rename_i x y hx hy;obtain rfl:=aa hd;exact⟨_,_,by simp,iha x hx,ihr y hy⟩
  .simp at hd
 |pt t v=>
  intro ds hd;simp only[rn]at hd;split at hd
  .rename_i ht;obtain rfl:=aa hd;exact⟨ht,rfl⟩
  .simp at hd
 |ni=>intro ds hd;obtain rfl:[]=ds:=by simpa[rn]using hd
      rfl
 |_=>intro ds hd;simp[rn]at hd
theorem z_:∀(v:V),CM v=true->iU h v=true/\∀n,fD n h v:=by intro v;induction v with|co a r iha ihr=>intro hv;simp only[CM,ak]at hv;exact⟨by simp only[iU,(iha hv.1).1,(ihr hv.2).1,gI],fun n=>⟨(iha hv.1).2 n,(ihr hv.2).2 n⟩⟩|pt t v=>intro hv;exact⟨hv,fun _=>trivial⟩|ni=>intro _;exact⟨rfl,fun _=>trivial⟩|_=>intro hv;simp[CM]at hv
theorem J9(hr:HR n h1 h):∀(c:Sh)(v:V)(l:List V)(i:List Nat)(cs:List C),pg h c v=some (l,i)->fG h v cs->fD n h v->iU h v=true->
  ∃ds az,(∀k,xa c<=k->gw h1 k cs=some (ds,az))/\(∀r,rT c (l++r)=(ds,r))/\(∀j∈az,j∈i/\¬nr h j)/\(∀j∈i,j∈az\/nr h j)/\cs.length<=xa c:=by
 intro c;induction c with
 |x t=>
  intro v l i cs ha hv hk hal;simp only[pg]at ha;split at ha
  .rename_i w l' hw;split at ha
   .rename_i y hy;obtain⟨rfl,rfl⟩:=af (aa ha);obtain⟨ds,az,f1,f2,f3,f4,_⟩:=tX hr v w l' cs hw hv hk hal;have e3:=p7 (js w false t y _ hy f2);subst e3;have hl:cs.length=ce t:=by rw[<-ve f1,bW]
    exact⟨_,az,fun k hk=>yA (Ej v w l' cs hw hv hal) f1 (by simp only[xa]at hk;omega),fun r=>rfl,f3,f4,by simp only[xa];omega⟩
   .simp at ha
  .simp at ha
 |pt t=>
  intro v l i cs ha hv hk hal;cases v with
  |pt u v=>
   simp only[pg]at ha;split at ha
   .rename_i y hy;obtain⟨rfl,rfl⟩:=af (aa ha);obtain⟨e,_⟩:=xm hy;obtain⟨_,rfl⟩:=hv;refine⟨[.pt (aS t y)],[],fun k hk=>?_,fun r=>rfl,fun j hj=>by simp at hj,fun j hj=>by simp at hj,by simp[xa]⟩;rw[<-e];exact yh (h1:=h1) [.pt (aS t y)] k (by simp only[xa]at hk;simp;omega)
   .simp at ha
  |op id u p=>
   cases p with
   |cons=>simp[pg]at ha
   |nil=>
    obtain rfl:=hv;have e0:nw u []=0:=by cases u<;>rfl
    rw[e0];simp only[pg]at ha;split at ha
    .rename_i w c ho;obtain⟨hc,ha⟩:=aO ha;simp only[ak,decide_eq_true_eq]at hc;split at ha
     .rename_i c' l' hw;split at ha
      .rename_i y hy;obtain⟨rfl,rfl⟩:=af (aa ha);obtain⟨_,⟨cb,e1,e2,e3⟩,e4⟩:=hr.ob id _ ho;obtain⟨ds,az,f1,f2,f3,f4,_⟩:=tX hr c c' l' cb hw e2 e4 hc.2;have e5:=p7 (js c' false t y _ hy f2);subst e5;have hl:cb.length=ce t:=by rw[<-ve f1,bW]
       have hnil:¬nr h id:=by
        rintro(⟨u',v',e⟩|⟨u',ln',e⟩)
        .rcases e with e|e<;>rw[ho]at e<;>simp at e
        .rw [ho]at e;cases e
       refine⟨[.pt (aS t y)],id::az,fun k hk=>?_,fun r=>rfl,fun j hj=>?_,fun j hj=>?_,by simp[xa]⟩
       .simp only[xa]at hk;obtain⟨k,rfl⟩:∃k',k=k'+2:=⟨k-2,by omega⟩
        have hv:gw h1 k cb=some (aS t y,az):=yA (Ej c c' l' cb hw e2 hc.2) f1 (by omega);simp only[gw,eM,e1,hv,fM,if_true,cL,bv]
       .rcases aN.1 hj with rfl|hj
        .exact ⟨by simp,hnil⟩
        .exact ⟨by simp[(f3 j hj).1],(f3 j hj).2⟩
       .rcases aN.1 hj with rfl|hj
        .exact .inl (by simp)
        .exact (f4 j hj).imp (fun q=>by simp[q]) (fun q=>q)
      .simp at ha
     .simp at ha
    .rename_i w v ho;obtain⟨hc,ha⟩:=aO ha;split at ha
     .rename_i y hy;obtain⟨rfl,rfl⟩:=af (aa ha);obtain⟨e,_⟩:=xm hy;obtain⟨_,⟨_,e1⟩,_⟩:=hr.ob id _ ho
      have hnil:¬nr h id:=by
       rintro(⟨u',v',e⟩|⟨u',ln',e⟩)
       .rcases e with e|e<;>rw[ho]at e<;>simp at e
       .rw [ho]at e;cases e
      refine⟨[.pt (aS t y)],[id],fun k hk=>?_,fun r=>rfl,fun j hj=>?_,fun j hj=>.inl hj,by simp[xa]⟩
      .simp only[xa]at hk;obtain⟨k,rfl⟩:∃k',k=k'+2:=⟨k-2,by omega⟩
       simp only[gw,eM,e1,fM,if_true,cL,bv,e]
      .obtain rfl:=au.1 hj;exact⟨by simp,hnil⟩
     .simp at ha
    .simp at ha
  |ep id m u p=>
   cases p with
   |cons=>simp[pg]at ha
   |nil=>
    obtain rfl:=hv;have e0:nw u []=0:=by cases u<;>rfl
    rw[e0]
    have key:∀(w:Ty)(s:Sl (El w))(ver:Nat),(fO h id=some (.ar w s ver)\/fO h id=some (.im w s ver))->(bif decide (w=u)then(match gC w t (gt s.l m)with|some y=>some ([V.x t y],[id])|none=>none)else none)=some (l,i)->
      ∃ds az,(∀k,xa (.pt t)<=k->gw h1 k [.ep id m 0]=some (ds,az))/\(∀r,rT (.pt t) (l++r)=(ds,r))/\(∀j∈az,j∈i/\¬nr h j)/\(∀j∈i,j∈az\/nr h j)/\[C.ep id m 0].length<=xa (.pt t):=by
     intro w s ver ho ha;obtain⟨_,ha⟩:=aO ha;split at ha
     .rename_i y hy;obtain⟨rfl,rfl⟩:=af (aa ha);obtain⟨e,_⟩:=xm hy;have hm:=hk.2.2.1 w s ver ho;cases s with
      |nil=>simp[Sl.l]at hm
      |mk q=>
       refine⟨[.pt (aS t y)],[id],fun k hk=>?_,fun r=>rfl,fun j hj=>?_,fun j hj=>.inl hj,by simp[xa]⟩
       .simp only[xa]at hk;obtain⟨k,rfl⟩:∃k',k=k'+1:=⟨k-1,by omega⟩
        have hg:(q.map (aS w))[m]?=some (aS w (gt q m)):=Ch hm;have e2:aS w (gt q m)=aS t y:=e.symm;rcases ho with ho|ho
        .have e1:=(hr.ob id _ ho).2.1.2.2 q rfl;have:eM h1 k (.ep id m 0)=some (.pt (aS t y),[id]):=by cases k<;>simp only[eM,e1,hg,fM,if_true,cL,e2]
         simp only[gw,this,bv]
        .have e1:=(hr.ob id _ ho).2.1.2.2 q rfl;have:eM h1 k (.ep id m 0)=some (.pt (aS t y),[id]):=by cases k<;>simp only[eM,e1,hg,fM,if_true,cL,e2]
         simp only[gw,this,bv]
       .obtain rfl:=au.1 hj;exact⟨by simp,zp ho⟩
     .simp at ha
    simp only[pg]at ha;split at ha
    .rename_i ho;exact key _ _ _ (.inl ho) ha
    .rename_i ho;exact key _ _ _ (.inr ho) ha
    .simp at ha
  |_=>simp[pg]at ha
 |nl k=>
  intro v l i cs ha hv hk hal;cases v with
  |nl k'=>
   simp only[pg]at ha;obtain⟨hc,ha2⟩:=aO ha;obtain rfl:k=k':=by simpa using hc
   obtain⟨rfl,rfl⟩:=af (aa ha2);obtain rfl:=hv;refine⟨[Qk k],[],fun j hj=>?_,fun r=>rfl,fun j hj=>by simp at hj,fun j hj=>by simp at hj,by simp[xa]⟩;simp only[xa]at hj;obtain⟨j,rfl⟩:∃k',j=k'+1:=⟨j-1,by omega⟩
   have e:gw h1 j []=some ([],[]):=by cases j<;>rfl
   rw[Rv];simp only[gw,qq,e,bv]
  |_=>simp[pg]at ha
 |fn f c ih=>
  intro v l i cs ha hv hk hal;cases v with
  |fn z f' q=>
   simp only[pg]at ha;obtain⟨hc,ha2⟩:=aO ha;obtain rfl:f=f':=by simpa using hc
   cases z with
   |true=>
    obtain⟨ds0,hd,rfl⟩:=hv;have hal':CM q=true:=hal;obtain⟨a1,a2⟩:=z_ (h:=h) q hal';obtain⟨ds,az,g1,g2,g3,g4,g5⟩:=ih q l i (ds0.map .d) ha2 (MW q ds0 hd) (a2 n) a1;have e:=g1 (xa c+ds0.length+1) (by omega);rw[yh ds0 _ (by omega)]at e;obtain⟨rfl,rfl⟩:=af (aa e);refine⟨[.fn f ds0],[],fun k hk=>?_,fun r=>?_,g3,g4,by simp[xa]⟩
    .simp only[xa]at hk;exact yh (h1:=h1) [.fn f ds0] k (by simp;omega)
    .simp only[rT,g2 r]
   |false=>
    obtain⟨xs,h2,rfl⟩:=hv;obtain⟨ds,az,g1,g2,g3,g4,g5⟩:=ih q l i xs ha2 h2 hk hal;refine⟨[.fn f ds],az,fun k hk=>?_,fun r=>?_,g3,g4,by simp[xa]⟩
    .simp only[xa]at hk;obtain⟨k,rfl⟩:∃k',k=k'+2:=⟨k-2,by omega⟩
     simp only[gw,eM,g1 k (by omega),bv]
    .simp only[rT,g2 r]
  |_=>simp[pg]at ha
 |pr a c iha ihc=>
  intro v l i cs ha hv hk hal;cases v with
  |co x r=>
   simp only[pg]at ha;split at ha
   .rename_i l1 i1 l2 i2 h2 h3;obtain⟨rfl,rfl⟩:=af (aa ha);obtain⟨cx,cr,rfl,h4,h5⟩:=hv;simp only[iU,ak]at hal;obtain⟨d1,j1,a1,a2,a3,a4,a5⟩:=iha x l1 i1 cx h2 h4 hk.1 hal.1;obtain⟨d2,j2,b1,b2,b3,b4,b5⟩:=ihc r l2 i2 cr h3 h5 hk.2 hal.2;refine⟨d1++d2,j1++j2,fun k hk=>?_,fun r=>?_,fun j hj=>?_,fun j hj=>?_,by simp[xa];omega⟩
    .simp only[xa]at hk;exact BH (a1 k (by omega)) (b1 _ (by omega)) (by omega)
    .simp only[rT,aR,a2,b2]
    .rcases ao.1 hj with hj|hj
     .exact ⟨aI _ (a3 j hj).1,(a3 j hj).2⟩
     .exact ⟨aG _ (b3 j hj).1,(b3 j hj).2⟩
    .rcases ao.1 hj with hj|hj
     .exact (a4 j hj).imp (aI _) id
     .exact (b4 j hj).imp (aG _) id
   .simp at ha
  |_=>simp[pg]at ha
 |ni=>intro v l i cs ha hv hk hal;cases v with|ni=>obtain⟨rfl,rfl⟩:=af (aa ha);obtain rfl:=hv;exact⟨[],[],fun k _=>(by cases k<;>rfl),fun r=>rfl,fun j hj=>by simp at hj,fun j hj=>by simp at hj,by simp⟩|_=>simp[pg]at ha
 |_=>intro v l i cs ha;simp[pg]at ha
end
def pJ:Sh->Nat
 |.x t=>ce t+1
 |.pb _ c=>pJ c+2
 |.st c=>pJ c
 |.pr a c=>pJ a+pJ c
 |.ni=>0
 |_=>1
section
variable{h:H2}{n:Nat}{h1:bC}
theorem vV(k:Nat)(x:D):dU h1 k (.d x)=some (.d x,[],[]):=by cases k<;>rfl
theorem pI(k:Nat):jc h1 k []=some ([],[],[]):=by cases k<;>rfl
theorem pB:∀(ds:List D)(k:Nat),ds.length<=k->jc h1 k (ds.map .d)=some (ds.map .d,[],[]):=by
 intro ds;induction ds with
 |nil=>intro k _;exact pI k
 |cons d ds ih=>intro k hk;cases k with|zero=>simp at hk|succ k=>simp only[aq,jc,vV,ih k (by simpa using hk),bv]
theorem vU:∀{x y:List C}{tx ty:List T}{ox oy ix iy:List Nat}{k:Nat},jc h1 k x=some (tx,ox,ix)->jc h1 (k-x.length) y=some (ty,oy,iy)->x.length<=k->jc h1 k (x++y)=some (tx++ty,ox++oy,ix++iy):=by
 intro x;induction x with
 |nil=>intro y tx ty ox oy ix iy k hx hy _;rw[pI]at hx;obtain⟨rfl,e⟩:=af (aa hx);obtain⟨rfl,rfl⟩:=af e;simpa using hy
 |cons c x ih=>
  intro y tx ty ox oy ix iy k hx hy hk;cases k with
  |zero=>simp at hk
  |succ k=>
   simp only[jc]at hx;split at hx
   .rename_i p a i q b j hp hq;obtain⟨rfl,e⟩:=af (aa hx);obtain⟨rfl,rfl⟩:=af e;simp only[aU,jc,hp];rw[ih hq (by simpa using hy) (by simpa using hk)];simp
   .simp at hx
theorem rE{c:C}{t:T}{bD rd:List Nat}{k:Nat}(hc:dU h1 k c=some (t,bD,rd)):jc h1 (k+1) [c]=some ([t],bD,rd):=by simp only[jc,hc,pI,bv]
theorem XD{t:Ty}{id k:Nat}{q:List (Sl (El t))}(h:aw h1 id=some (.nst (ce t) (fx t q none))):dU h1 k (mT 1 (aS (.sl t)) id (Sl.mk q:Sl (Sl (El t))))=some (.Ai (ce t) (q.map (IH t)),[id],[id]):=by simp only[mT,fx]at h|-;cases k<;>simp only[dU,h,aM,and_self,if_true,Iw]
theorem xq(hr:HR n h1 h):∀(c:Sh)(ln:Bool)(v:V)(l:List V)(i:List Nat)(cs:List C),eA h c ln v=some (l,i)->fG h v cs->fD n h v->
  ∃ts bD rd,(∀k,pJ c<=k->jc h1 k cs=some (ts,bD,rd))/\(∀r,l5 c (l++r)=(ts,r))/\bD.Sublist i/\(∀j∈i,j∈bD\/nr h j)/\(∀j∈rd,j∈i)/\cs.length<=pJ c/\(∀j∈i,j<n):=by
 intro c;induction c with
 |x t=>
  intro ln v l i cs ha hv hk;cases ln with
  |true=>simp[eA]at ha
  |false=>
   simp only[eA]at ha;split at ha
   .rename_i y hy;obtain⟨rfl,rfl⟩:=af (aa ha);have e:=js v false t y cs hy hv;subst e;exact⟨_,[],[],fun k hk=>pB _ k (by rw[bW];simp only[pJ]at hk;omega),fun r=>rfl,bY _,fun j hj=>by simp at hj,fun j hj=>hj,by simp[pJ,bW],fun j hj=>by simp at hj⟩
   .simp at ha
 |os t=>
  intro ln v l i cs ha hv hk;cases ln with
  |true=>simp[eA]at ha
  |false=>
   cases v with
   |so id=>
    simp only[eA]at ha;split at ha
    .rename_i u s ver ho;split at ha
     .rename_i s' hs;obtain⟨rfl,rfl⟩:=af (aa ha);obtain⟨e,rfl⟩:=dl hs;cases e;obtain⟨c,rfl,hc⟩:=hv;rw[hc.1 _ (mS (.inl ho))];cases s with
      |nil=>exact⟨[.d (.lit (.slice none 0 0))],[],[],fun k hk=>pB [.lit (.slice none 0 0)] k (by simpa[pJ]using hk),fun r=>rfl,jk _,fun j hj=>by obtain rfl:=au.1 hj;exact .inr (.inl ⟨_,_,.inl ho⟩),fun j hj=>by simp at hj,by simp[pJ],fun j hj=>by obtain rfl:=au.1 hj;exact hk⟩
      |mk q=>
       have e1:=(hr.ob id _ ho).2.1.2.2 q rfl;refine⟨[.sl (ce t) (q.map (aS t))],[id],[id],fun k hk=>?_,fun r=>rfl,bY _,fun j hj=>.inl hj,fun j hj=>hj,by simp[pJ],fun j hj=>by obtain rfl:=au.1 hj;exact hk⟩;obtain⟨k,rfl⟩:∃k',k=k'+1:=⟨k-1,by simp only[pJ]at hk;omega⟩
       exact rE (p_o e1)
     .simp at ha
    .simp at ha
   |nl k=>cases k with|zero=>obtain⟨rfl,rfl⟩:=af (aa ha);obtain rfl:=hv;exact⟨[.d (.lit (.slice none 0 0))],[],[],fun k hk=>pB [.lit (.slice none 0 0)] k (by simpa[pJ]using hk),fun r=>rfl,bY _,fun j hj=>by simp at hj,fun j hj=>hj,by simp[pJ],fun j hj=>by simp at hj⟩|succ k=>simp[eA]at ha
   |_=>simp[eA]at ha
 |rw t=>
  intro ln v l i cs ha hv hk;cases ln with
  |true=>simp[eA]at ha
  |false=>
   cases v with
   |sr id=>
    simp only[eA]at ha;split at ha
    .rename_i u s ho;split at ha
     .rename_i s' hs;obtain⟨rfl,rfl⟩:=af (aa ha);obtain⟨e,rfl⟩:=dl hs;cases e;obtain⟨c,rfl,hc⟩:=hv;rw[hc.1 _ (tH ho)];cases s with
      |nil=>exact⟨[.d (.lit (.slice none 0 0))],[],[],fun k hk=>pB [.lit (.slice none 0 0)] k (by simpa[pJ]using hk),fun r=>rfl,jk _,fun j hj=>by obtain rfl:=au.1 hj;exact .inr (.inr ⟨_,_,ho⟩),fun j hj=>by simp at hj,by simp[pJ],fun j hj=>by obtain rfl:=au.1 hj;exact hk⟩
      |mk q=>
       have e1:=(hr.ob id _ ho).2.1.2.2 q rfl;refine⟨[.Ai (ce t) (q.map (IH t))],[id],[id],fun k hk=>?_,fun r=>rfl,bY _,fun j hj=>.inl hj,fun j hj=>hj,by simp[pJ],fun j hj=>by obtain rfl:=au.1 hj;exact hk⟩;obtain⟨k,rfl⟩:∃k',k=k'+1:=⟨k-1,by simp only[pJ]at hk;omega⟩
       exact rE (XD e1)
     .simp at ha
    .simp at ha
   |nl k=>cases k with|zero=>obtain⟨rfl,rfl⟩:=af (aa ha);obtain rfl:=hv;exact⟨[.d (.lit (.slice none 0 0))],[],[],fun k hk=>pB [.lit (.slice none 0 0)] k (by simpa[pJ]using hk),fun r=>rfl,bY _,fun j hj=>by simp at hj,fun j hj=>hj,by simp[pJ],fun j hj=>by simp at hj⟩|succ k=>simp[eA]at ha
   |_=>simp[eA]at ha
 |mp kt vt=>
  intro ln v l i cs ha hv hk;cases ln with
  |true=>simp[eA]at ha
  |false=>
   cases v with
   |om id=>
    simp only[eA]at ha;split at ha
    .rename_i k' v' m ho;split at ha
     .rename_i m' hm;obtain⟨rfl,rfl⟩:=af (aa ha);obtain⟨e,rfl⟩:=dl hm;cases e;obtain rfl:=hv;have e1:=(hr.ob id _ ho).2.1.2.2;refine⟨[Yy kt vt m],[id],[id],fun k hk=>?_,fun r=>rfl,bY _,fun j hj=>.inl hj,fun j hj=>hj,by simp[pJ],fun j hj=>by obtain rfl:=au.1 hj;exact hk⟩;obtain⟨k,rfl⟩:∃k',k=k'+1:=⟨k-1,by simp only[pJ]at hk;omega⟩
      have e2:dU h1 k (.om id)=some (Yy kt vt m,[id],[id]):=by cases k<;>simp only[dU,e1,ym]<;>rfl
      exact rE e2
     .simp at ha
    .simp at ha
   |_=>simp[eA]at ha
 |pb t c ih=>
  intro ln v l i cs ha hv hk;cases ln with
  |true=>simp[eA]at ha
  |false=>
   cases v with
   |op id u p=>
    cases p with
    |cons=>simp[eA]at ha
    |nil=>
     simp only[eA]at ha;split at ha
     .rename_i w q ho;obtain⟨hc,ha2⟩:=aO ha;split at ha2
      .rename_i l' i' ha3;obtain⟨rfl,rfl⟩:=af (aa ha2);obtain rfl:=hv;have e0:nw u []=0:=by cases u<;>rfl
       rw[e0];obtain⟨_,⟨cb,e1,e2,e3⟩,e4⟩:=hr.ob id _ ho;obtain⟨ts,bD,rd,g1,g2,g3,g4,g5,g6,g7⟩:=ih false q l' i' cb ha3 e2 e4;refine⟨[.pt ts],id::bD,id::rd,fun k hk=>?_,fun r=>by simp only[l5,g2 r],g3.cons_cons _,fun j hj=>?_,fun j hj=>?_,by simp[pJ],fun j hj=>?_⟩
       .obtain ⟨k,rfl⟩:∃k',k=k'+2:=⟨k-2,by simp only[pJ]at hk;omega⟩
        refine rE ?_;simp only[dU,e1,g1 k (by simp only[pJ]at hk;omega)]
       .rcases aN.1 hj with rfl|hj
        .exact .inl (by simp)
        .exact (g4 j hj).imp (fun q=>by simp[q]) (fun q=>q)
       .rcases aN.1 hj with rfl|hj
        .simp
        .simp [g5 j hj]
       .rcases aN.1 hj with rfl|hj
        .exact hk.1
        .exact g7 j hj
      .simp at ha2
     .simp at ha
   |_=>simp[eA]at ha
 |nl k=>
  intro ln v l i cs ha hv hk;cases ln with
  |true=>simp[eA]at ha
  |false=>
   cases v with
   |nl k'=>
    simp only[eA]at ha;obtain⟨hc,ha2⟩:=aO ha;obtain rfl:k=k':=by simpa using hc
    obtain⟨rfl,rfl⟩:=af (aa ha2);obtain rfl:=hv;exact⟨[.d (Qk k)],[],[],fun j hj=>pB [Qk k] j (by simpa[pJ]using hj),fun r=>rfl,bY _,fun j hj=>by simp at hj,fun j hj=>hj,by simp[pJ],fun j hj=>by simp at hj⟩
   |_=>simp[eA]at ha
 |st c ih=>
  intro ln v l i cs ha hv hk;cases ln with
  |true=>simp[eA]at ha
  |false=>
   cases v with
   |rc q=>exact ih true q l i cs ha hv hk
   |x t v=>cases t with|st u=>obtain⟨hd,rfl⟩:=hv;exact ih true (Ip u v) l i _ ha (BK u v hd) (Fw u v)|_=>simp[eA]at ha
   |_=>simp[eA]at ha
 |pr a c iha ihc=>
  intro ln v l i cs ha hv hk;cases ln with
  |false=>simp[eA]at ha
  |true=>
   cases v with
   |co x r=>
    simp only[eA]at ha;split at ha
    .rename_i l1 i1 l2 i2 h2 h3;obtain⟨rfl,rfl⟩:=af (aa ha);obtain⟨cx,cr,rfl,h4,h5⟩:=hv
     have hA:∃ts bD rd,(∀k,pJ a<=k->jc h1 k cx=some (ts,bD,rd))/\(∀r,l5 a (l1++r)=(ts,r))/\bD.Sublist i1/\(∀j∈i1,j∈bD\/nr h j)/\(∀j∈rd,j∈i1)/\cx.length<=pJ a/\(∀j∈i1,j<n):=by
      split at h2
      .rename_i t u v;unfold Ry at h2;split at h2
       .obtain ⟨rfl,rfl⟩:=af (aa h2);obtain⟨_,rfl⟩:=h4;exact⟨[.d (.lit (.slice none 0 0))],[],[],fun k hk=>pB [.lit (.slice none 0 0)] k (by simpa[pJ]using hk),fun r=>rfl,bY _,fun j hj=>by simp at hj,fun j hj=>hj,by simp[pJ,aS],fun j hj=>by simp at hj⟩
       .simp at h2
      .rename_i t id ver lo u r;unfold XB at h2;split at h2
       .rename_i w s0 v0 ho;obtain⟨hv,h5⟩:=aO h2;clear h2;obtain rfl:v0=ver:=by simpa using hv
        split at h5
        .rename_i s hs;obtain⟨rfl,rfl⟩:=af (aa h5);obtain⟨e,rfl⟩:=dl hs;cases e;obtain⟨c1,rfl,hc1⟩:=h4;have hal:Aa h id v0=true:=by simp[Aa,ho]
         rw[hc1.1 hal];obtain⟨hid,hcut⟩:=hk.1;obtain⟨hz,hm⟩:=(hcut _ _ _ (.inl ho)).2 rfl;cases r with
         |nil=>cases s0 with|mk=>exact hm.elim|nil=>exact⟨[.d (.lit (.slice none 0 0))],[],[],fun k hk=>pB [.lit (.slice none 0 0)] k (by simpa[pJ]using hk),fun r=>rfl,jk _,fun j hj=>by obtain rfl:=au.1 hj;exact .inr (.inl ⟨_,_,.inl ho⟩),fun j hj=>by simp at hj,by simp[pJ],fun j hj=>by obtain rfl:=au.1 hj;exact hid⟩
         |mk m=>
          cases s0 with
          |nil=>exact hm.elim
          |mk l0=>
           have hlk:=(hr.ob id _ ho).2.1.2.2 l0 rfl;refine⟨[.sl (ce t) (m.map (aS t))],[id],[id],fun k hk=>?_,fun r=>rfl,bY _,fun j hj=>.inl hj,fun j hj=>hj,by simp[pJ],fun j hj=>by obtain rfl:=au.1 hj;exact hid⟩;obtain⟨k,rfl⟩:∃k',k=k'+1:=⟨k-1,by simp only[pJ]at hk;omega⟩
           refine rE ?_;have e2:dU h1 k (.cE (ce t) id lo (m.map (aS t)).length)=some (.sl (ce t) (((l0.map (aS w)).drop lo).take (m.map (aS t)).length),[id],[id]):=by cases k<;>simp only[dU,hlk]<;>rw[if_pos (by simpa using hm.1)]
           rw[aM,hm.2]at e2;simpa[yi]using e2
        .simp at h5
       .simp at h2
      .exact iha false x l1 i1 cx h2 h4 hk.1
     obtain⟨t1,o1,r1,a1,a2,a3,a4,a5,a6,a7⟩:=hA;obtain⟨t2,o2,r2,b1,b2,b3,b4,b5,b6,b7⟩:=ihc true r l2 i2 cr h3 h5 hk.2;refine⟨t1++t2,o1++o2,r1++r2,fun k hk=>?_,fun r=>?_,a3.append b3,fun j hj=>?_,fun j hj=>?_,by simp[pJ];omega,fun j hj=>?_⟩
     .simp only[pJ]at hk;exact vU (a1 k (by omega)) (b1 _ (by omega)) (by omega)
     .simp only[l5,aR,a2,b2]
     .rcases ao.1 hj with hj|hj
      .exact (a4 j hj).imp (aI _) (fun q=>q)
      .exact (b4 j hj).imp (aG _) (fun q=>q)
     .rcases ao.1 hj with hj|hj
      .exact aI _ (a5 j hj)
      .exact aG _ (b5 j hj)
     .rcases ao.1 hj with hj|hj
      .exact a7 j hj
      .exact b7 j hj
    .simp at ha
   |_=>simp[eA]at ha
 |ni=>
  intro ln v l i cs ha hv hk;cases ln with
  |false=>cases v<;>simp[eA]at ha
  |true=>cases v with|ni=>obtain⟨rfl,rfl⟩:=af (aa ha);obtain rfl:=hv;exact⟨[],[],[],fun k _=>pI k,fun r=>rfl,bY _,fun j hj=>by simp at hj,fun j hj=>hj,by simp,fun j hj=>by simp at hj⟩|_=>simp[eA]at ha
 |_=>intro ln v l i cs ha;cases ln<;>simp[eA]at ha
theorem Fq:∀(a b:List T)(m:Nat),ja m (a++b)=((ja m a).1++(ja (ja m a).2.2 b).1,(ja m a).2.1++(ja (ja m a).2.2 b).2.1,(ja (ja m a).2.2 b).2.2):=by intro a;induction a with|nil=>intro b m;simp[ja]|cons t a ih=>intro b m;simp only[aU,ja,ih,aR]
theorem qr(t:T)(m:Nat):ja m [t]=([(kV m t).1],(kV m t).2.1,(kV m t).2.2):=by simp[ja]
theorem Tp:∀(ds:List D)(m:Nat),ja m (ds.map T.d)=(ds.map .d,[],m+ds.length):=by intro ds;induction ds with|nil=>intro m;rfl|cons d ds ih=>intro m;simp only[aq,ja,kV,ih,List.nil_append,List.length_cons];congr 2;omega
theorem wW{a b:eS}(hd:∀p∈a,∀q∈b,p.1≠q.1)(i:Nat):aw (a++b++h1) i=aw (b++(a++h1)) i:=by rw[gb,gb,gb,<-ei,m7 hd]
structure Mk(s s':S2)(h1:bC)(u:eS):Prop where
 hr:HR s'.next (u++h1) s'.heap
 eU:jO s.next s.heap s'.heap
 dE:s'.dE=s.dE
 gh:s'.gh=s.gh
 le:s.next<=s'.next
 D_:∀p∈u,s.next<=p.1/\p.1<s'.next
 wo:∃W,s'.wo=W++s.wo/\(∀p∈u,p.1∈W)/\(∀i∈W,s.next<=i/\i<s'.next)/\∀i,i∉W->fO s'.heap i=fO s.heap i
theorem Mk.skip{s:S2}{m:Nat}(hr:HR s.next h1 s.heap)(hm:s.next<=m):Mk s {s with next:=m} h1 []:=⟨hr.mono hm,jO.refl _ _,rfl,rfl,hm,fun p hp=>by simp at hp,[],rfl,fun p hp=>by simp at hp,fun i hi=>by simp at hi,fun _ _=>rfl⟩
theorem Mk.seq{s s1 s2:S2}{u1 u2:eS}(a:Mk s s1 h1 u1)(b:Mk s1 s2 (u1++h1) u2):Mk s s2 h1 (u1++u2):=by
 obtain⟨a3,a4,a5,a6,a7,a8,W,v1,v2,v3,v4⟩:=a;obtain⟨b3,b4,b5,b6,b7,b8,X,x1,x2,x3,x4⟩:=b;refine⟨?_,a4.trans a7 b4,b5.trans a5,b6.trans a6,by omega,fun p hp=>?_,X++W,by rw[x1,v1,aR],fun p hp=>?_,fun i hi=>?_,fun i hi=>?_⟩
 .exact b3.ext fun i=>wW (fun p hp q hq e=>by have:=(a8 p hp).2;have:=(b8 q hq).1;omega) i
 .rcases ao.1 hp with hp|hp
  .have:=a8 p hp;omega
  .have:=b8 p hp;omega
 .rcases ao.1 hp with hp|hp
  .exact aG _ (v2 p hp)
  .exact aI _ (x2 p hp)
 .rcases ao.1 hi with hi|hi
  .have:=x3 i hi;omega
  .have:=v3 i hi;omega
 .rw [x4 i fun q=>hi (aI _ q),v4 i fun q=>hi (aG _ q)]
end
section
variable{h:H2}{n:Nat}
theorem jO.bx{id:Nat}{t:Ty}{c:V}:jO n h ((id,some (.bx t c))::h):=⟨fun i o hi ho=>by
 rw[du]at ho;split at ho
 .obtain rfl:=aa ho;exact .inr rfl
 .exact .inl ⟨o,ho,sX.refl _⟩⟩
theorem Mk.one{s:S2}{h1:bC}{o:O}{b:Option Ob}{u:eS}(hr:HR s.next h1 s.heap)(hu:u=[(s.next,b)]\/(u=[]/\∀b',v7 ((s.next,some o)::s.heap) o b'))(hb:u=[(s.next,b)]->v7 ((s.next,some o)::s.heap) o b)
  (hko:CZ (s.next+1) ((s.next,some o)::s.heap) o):Mk s (jE s o) h1 u:=by
 have hd:=rZ.new (x:=.ia []) (v:=.no) (az:=[]) (l:=[]) (m:=s.next+1) hr hu hb hko rfl trivial (fun i hi=>by simp at hi) (am _);refine⟨hd.hr,hd.eU,rfl,rfl,bI _,fun p hp=>?_,[s.next],rfl,fun p hp=>?_,fun i hi=>?_,fun i hi=>?_⟩
 .rcases hu with rfl|⟨rfl,_⟩
  .obtain rfl:=au.1 hp;exact⟨am _,aY _⟩
  .simp at hp
 .rcases hu with rfl|⟨rfl,_⟩
  .obtain rfl:=au.1 hp;simp
  .simp at hp
 .obtain rfl:=au.1 hi;exact⟨am _,aY _⟩
 .simp only[jE];rw[du,if_neg fun e=>hi (by simp[e])]
theorem v8:∀(c:Sh)(ln:Bool)(l:List V)(s:S2)(w:V)(l':List V)(s':S2)(h1:bC),qK c ln l s=some (w,l',s')->HR s.next h1 s.heap->
  fG s'.heap w (ja s.next (l5 c l).1).1/\fD s'.next s'.heap w/\Mk s s' h1 (ja s.next (l5 c l).1).2.1/\s'.next=(ja s.next (l5 c l).1).2.2/\l'=(l5 c l).2/\(ln=false->uf w=yb c):=by
 intro c;induction c with
 |x t=>
  intro ln l s w l' s' h1 hm hr;cases ln with
  |true=>simp[qK]at hm
  |false=>match l with|.x u v::l=>simp only[qK]at hm;obtain⟨hc,hm2⟩:=aO hm;simp only[ak,decide_eq_true_eq]at hc;obtain⟨rfl,hd⟩:=hc;obtain⟨rfl,e⟩:=af (aa hm2);obtain⟨rfl,rfl⟩:=af e;simp only[l5,Tp,bW];exact⟨⟨hd,rfl⟩,trivial,Mk.skip hr (Nat.le_add_right _ _),trivial,trivial,fun _=>rfl⟩|[]|.kb _::_|.nl _::_|.so _::_|.sr _::_|.sb _ _ _ _ _::_|.op _ _ _::_|.ep _ _ _ _::_|.pt _ _::_|.fn _ _ _::_|.om _::_|.rc _::_|.tp _::_|.ni::_|.co _ _::_|.fl _::_|.no::_|.gn::_=>simp[qK]at hm
 |os t=>
  intro ln l s w l' s' h1 hm hr;cases ln with
  |true=>simp[qK]at hm
  |false=>
   match l with
   |.x (.sl u) v::l=>
    simp only[qK]at hm;obtain⟨hc,hm2⟩:=aO hm;simp only[ak,decide_eq_true_eq]at hc;obtain⟨rfl,hd⟩:=hc;obtain⟨d1,d2⟩:=qR hd;obtain⟨rfl,e⟩:=af (aa hm2);obtain⟨rfl,rfl⟩:=af e;simp only[l5,qr];have hv:fG (jE s (.ar u v 0)).heap (.so s.next) [mT (ce u) (aS u) s.next v]:=⟨_,rfl,fun c' hc'=>by simp only[jE,uF]at hc';exact aa hc',BO⟩
    cases v with|nil=>exact⟨hv,aY _,Mk.one (b:=none) hr (.inr ⟨rfl,fun b'=>⟨d1,d2,fun l e=>by cases e⟩⟩) (fun e=>by cases e) trivial,by first|rfl|trivial,by first|rfl|trivial,fun _=>rfl⟩|mk q=>exact⟨hv,aY _,Mk.one (b:=some (.aK (ce u) (q.map (aS u)))) hr (.inl rfl) (fun _=>⟨d1,d2,fun l e=>by cases e;rfl⟩) trivial,by first|rfl|trivial,by first|rfl|trivial,fun _=>rfl⟩
   |[]|.kb _::_|.nl _::_|.so _::_|.sr _::_|.sb _ _ _ _ _::_|.op _ _ _::_|.ep _ _ _ _::_|.pt _ _::_|.fn _ _ _::_|.om _::_|.rc _::_|.tp _::_|.ni::_|.co _ _::_|.fl _::_|.no::_|.gn::_=>simp[qK]at hm
   |.x (.i _) _::_|.x .b _::_|.x .s _::_|.x (.f _) _::_|.x (.mp _ _) _::_|.x .un _::_|.x (.pr _ _) _::_|.x (.st _) _::_|.x (.ar _ _) _::_|.x (.o _) _::_=>simp[qK]at hm
 |rw t=>
  intro ln l s w l' s' h1 hm hr;cases ln with
  |true=>simp[qK]at hm
  |false=>
   match l with
   |.x (.sl (.sl u)) v::l=>
    simp only[qK]at hm;obtain⟨hc,hm2⟩:=aO hm;simp only[ak,decide_eq_true_eq]at hc;obtain⟨rfl,hd⟩:=hc;obtain⟨d1,d2⟩:=qR hd;obtain⟨rfl,e⟩:=af (aa hm2);obtain⟨rfl,rfl⟩:=af e;simp only[l5,qr];have hv:fG (jE s (.rw u v none)).heap (.sr s.next) [mT 1 (aS (.sl u)) s.next (v:Sl (Sl (El u)))]:=⟨_,rfl,fun c' hc'=>by simp only[jE,uF]at hc';exact aa hc',BO⟩
    cases v with
    |nil=>exact⟨hv,aY _,Mk.one (b:=none) hr (.inr ⟨rfl,fun b'=>⟨d1,d2,fun l e=>by cases e⟩⟩) (fun e=>by cases e) trivial,by first|rfl|trivial,by first|rfl|trivial,fun _=>rfl⟩
    |mk q=>
     have e1:(kV s.next (yO u (.mk q))).1=mT 1 (aS (.sl u)) s.next (Sl.mk q:Sl (Sl (El u))):=by simp[yO,kV,mT]
     have e2:(kV s.next (yO u (.mk q))).2.1=[(s.next,some (.nst (ce u) (fx u q none)))]:=by simp only[yO,kV,yQ,fx]
     rw[e1,e2];exact⟨hv,aY _,Mk.one (b:=some (.nst (ce u) (fx u q none))) hr (.inl rfl) (fun _=>⟨d1,d2,fun l e=>by cases e;rfl⟩) trivial,by first|rfl|trivial,by first|rfl|trivial,fun _=>rfl⟩
   |[]|.kb _::_|.nl _::_|.so _::_|.sr _::_|.sb _ _ _ _ _::_|.op _ _ _::_|.ep _ _ _ _::_|.pt _ _::_|.fn _ _ _::_|.om _::_|.rc _::_|.tp _::_|.ni::_|.co _ _::_|.fl _::_|.no::_|.gn::_=>simp[qK]at hm
   |.x (.sl (.i _)) _::_|.x (.sl .b) _::_|.x (.sl .s) _::_|.x (.sl (.f _)) _::_|.x (.sl (.mp _ _)) _::_|.x (.sl .un) _::_|.x (.sl (.pr _ _)) _::_|.x (.sl (.st _)) _::_|.x (.sl (.ar _ _)) _::_|.x (.sl (.o _)) _::_|.x (.i _) _::_|.x .b _::_|.x .s _::_|.x (.f _) _::_|.x (.mp _ _) _::_|.x .un _::_|.x (.pr _ _) _::_|.x (.st _) _::_|.x (.ar _ _) _::_|.x (.o _) _::_=>simp[qK]at hm
 |mp kt vt=>
  intro ln l s w l' s' h1 hm hr;cases ln with
  |true=>simp[qK]at hm
  |false=>match l with|.x (.mp k' v') m::l=>simp only[qK]at hm;obtain⟨hc,hm2⟩:=aO hm;simp only[ak,decide_eq_true_eq]at hc;obtain⟨⟨⟨rfl,rfl⟩,hd⟩,hk⟩:=hc;obtain⟨ks,hks⟩:=Option.isSome_iff_exists.1 hk;obtain⟨rfl,e⟩:=af (aa hm2);obtain⟨rfl,rfl⟩:=af e;simp only[l5,qr];exact⟨rfl,aY _,Mk.one (b:=ym (lQ k') (lQ v') (u_ k') (aS v') m) hr (.inl rfl) (fun _=>⟨hd,⟨ks,hks⟩,rfl⟩) trivial,by first|rfl|trivial,by first|rfl|trivial,fun _=>rfl⟩|[]|.kb _::_|.nl _::_|.so _::_|.sr _::_|.sb _ _ _ _ _::_|.op _ _ _::_|.ep _ _ _ _::_|.pt _ _::_|.fn _ _ _::_|.om _::_|.rc _::_|.tp _::_|.ni::_|.co _ _::_|.fl _::_|.no::_|.gn::_=>simp[qK]at hm|.x (.i _) _::_|.x .b _::_|.x .s _::_|.x (.f _) _::_|.x (.sl _) _::_|.x .un _::_|.x (.pr _ _) _::_|.x (.st _) _::_|.x (.ar _ _) _::_|.x (.o _) _::_=>simp[qK]at hm
 |pb t c ih=>
  intro ln l s w l' s' h1 hm hr;cases ln with
  |true=>simp[qK]at hm
  |false=>
   simp only[qK]at hm;split at hm
   .rename_i w0 l0 s2 hm0;obtain⟨hf,hm2⟩:=aO hm;obtain⟨rfl,e⟩:=af (aa hm2);obtain⟨rfl,rfl⟩:=af e;obtain⟨q1,q2,q3,q4,q5,_⟩:=ih false l {s with next:=s.next+1} w0 l0 s2 h1 hm0 (hr.mono (bI _));simp only[l5,qr,kV];obtain⟨a3,a4,a5,a6,a7,a8,W,v1,v2,v3,v4⟩:=q3;simp only at a4 a5 a6 a7 a8 v1 v3 v4;have hlt:s.next<s2.next:=by omega
    have hin:∀i,i∉W->fO s2.heap i=fO s.heap i:=v4;refine⟨?_,⟨hlt,by cases t<;>trivial⟩,⟨?_,?_,a5,a6,by show s.next<=s2.next;omega,fun p hp=>?_,s.next::W,by simp only[eN,v1];rfl,fun p hp=>?_,fun i hi=>?_,fun i hi=>?_⟩,q4,q5,fun _=>rfl⟩
    .show [_]=[_]
     have e0:nw t []=0:=by cases t<;>rfl
     rw[e0]
    .refine HR.lh (u:=[(s.next,some (.box _))]) a3 (am _) hlt jO.bx (fun i hi=>?_) fun o' ho'=>?_
     .rw [bd,dV,if_neg fun e=>hi e.symm]
     .obtain rfl:=aa ho';refine⟨?_,hO (am _) jO.bx q2⟩;rw[bd,dV,if_pos rfl];exact⟨_,rfl,lZ jO.bx q2 q1,hf⟩
    .exact jO.trans (n':=s2.next) (by omega) (⟨fun i o hi ho=>a4.ob i o (by omega) ho⟩:jO s.next s.heap s2.heap) jO.bx
    .simp only[eN];rcases aN.1 hp with rfl|hp
     .exact ⟨am _,hlt⟩
     .have:=a8 p hp;omega
    .rcases aN.1 hp with rfl|hp
     .simp
     .exact aF _ (v2 p hp)
    .simp only[eN];rcases aN.1 hi with rfl|hi
     .exact ⟨am _,hlt⟩
     .have:=v3 i hi;omega
    .simp only[eN];rw[du,if_neg fun e=>hi (by simp[e]),hin i fun q=>hi (by simp[q])]
   .simp at hm
 |nl k=>intro ln l s w l' s' h1 hm hr;cases ln with|true=>simp[qK]at hm|false=>simp only[qK]at hm;obtain⟨rfl,e⟩:=af (aa hm);obtain⟨rfl,rfl⟩:=af e;simp only[l5,qr,kV];exact⟨rfl,trivial,Mk.skip hr (bI _),by first|rfl|trivial,by first|rfl|trivial,fun _=>rfl⟩
 |st c ih=>
  intro ln l s w l' s' h1 hm hr;cases ln with
  |true=>simp[qK]at hm
  |false=>
   simp only[qK]at hm;split at hm
   .rename_i w0 l0 s2 hm0;obtain⟨rfl,e⟩:=af (aa hm);obtain⟨rfl,rfl⟩:=af e;obtain⟨q1,q2,q3,q4,q5,_⟩:=ih true l s w0 l0 s2 h1 hm0 hr;exact⟨q1,q2,q3,q4,q5,fun _=>rfl⟩
   .simp at hm
 |pr a c iha ihc=>
  intro ln l s w l' s' h1 hm hr;cases ln with
  |false=>simp[qK]at hm
  |true=>
   simp only[qK]at hm;split at hm
   .rename_i x l1 s1 hm1;split at hm
    .rename_i r l2 s2 hm2;obtain⟨rfl,e⟩:=af (aa hm);obtain⟨rfl,rfl⟩:=af e;obtain⟨q1,q2,q3,q4,q5,_⟩:=iha false l s x l1 s1 h1 hm1 hr;subst q5;obtain⟨p1,p2,p3,p4,p5,_⟩:=ihc true _ s1 r l2 s2 _ hm2 q3.hr;subst p5;simp only[l5,Fq];rw[q4]at p1 p3 p4;exact⟨⟨_,_,rfl,lZ p3.eU q2 q1,p1⟩,⟨hO p3.le p3.eU q2,p2⟩,Mk.seq q3 p3,p4,by first|rfl|trivial,fun e=>by cases e⟩
    .simp at hm
   .simp at hm
 |ni=>intro ln l s w l' s' h1 hm hr;cases ln with|false=>simp[qK]at hm|true=>simp only[qK]at hm;obtain⟨rfl,e⟩:=af (aa hm);obtain⟨rfl,rfl⟩:=af e;exact⟨rfl,trivial,Mk.skip hr (am _),rfl,rfl,fun e=>by cases e⟩
 |_=>intro ln l s w l' s' h1 hm;cases ln<;>simp[qK]at hm
end
def OJ:List (Bool×Sh)->List Bool->Bool
 |[],_=>true
 |(b,_)::r,ms=>decide (ms.headD false=b)&&OJ r ms.tail
def wa:Sh->Bool
 |.os _|.rw _|.pb _ _|.nl _=>true
 |_=>false
def zm:Sh->Bool
 |.x t=>ce t==1
 |.os _|.rw _|.pb _ _|.nl _|.pt _|.fn _ _=>true
 |_=>false
def BY:List (Bool×Sh)->Bool
 |[]=>true
 |(b,c)::r=>(bif b then wa c&&Nat.ble (pJ c) 300 else(yb c||zm c)&&Nat.ble (xa c) 300)&&BY r
section
variable{h:H2}{n:Nat}{h1:bC}
def QH(h:H2)(n:Nat)(h1:bC)(p:V×List Nat)(q:C×List Nat×List Nat):Prop:=
 fG h p.1 [q.1]/\fD n h p.1/\(∃t,dU h1 300 q.1=some (t,q.2.1,q.2.2))/\q.2.1.Sublist p.2/\(∀j∈p.2,j∈q.2.1\/nr h j)/\(∀j∈q.2.2,j∈p.2)/\(∀j∈p.2,j<n)/\
  match p.1 with|.so id=>p.2=[id]/\∃u s ver,fO h id=some (.ar u s ver)|.sr id=>p.2=[id]/\∃u s,fO h id=some (.rw u s none)|.op id _ _=>id∈p.2/\¬nr h id|.nl _=>True|_=>False
def xO(h:H2)(n:Nat)(h1:bC):List (V×List Nat)->List (C×List Nat×List Nat)->Prop
 |[],l=>l=[]
 |p::r,l=>∃q m,l=q::m/\QH h n h1 p q/\xO h n h1 r m
theorem Mf{v w:V}{l:List Nat}(hf:jA h v=some (w,l)):uf v=uf w:=by
 cases v with
 |so id=>
  simp only[jA]at hf;split at hf
  .obtain ⟨rfl,_⟩:=af (aa hf);rfl
  .simp at hf
 |sr id=>
  simp only[jA]at hf;split at hf
  .obtain ⟨rfl,_⟩:=af (aa hf);rfl
  .simp at hf
 |sb id ver lo t r=>simp only[jA,uN]at hf;obtain⟨rfl,_⟩:=af (aa hf);rfl
 |rc l=>
  simp only[jA]at hf;split at hf
  .obtain ⟨rfl,_⟩:=af (aa hf);rfl
  .simp at hf
 |co a r=>
  simp only[jA]at hf;split at hf
  .obtain ⟨rfl,_⟩:=af (aa hf);rfl
  .simp at hf
 |fn z f l=>cases z<;>simp[jA]at hf;rw[<-hf.1]
 |_=>first|(simp[jA]at hf;done)|(simp[jA]at hf;rw[<-hf.1])
theorem LF{c:Sh}{v:V}{l:List V}{i:List Nat}{x:TV}(hr:HR n h1 h)(hl:wa c=true)(hf:pJ c<=300)(ha:eA h c false v=some (l,i))(hx:fZ h v x)(hk:fD n h v):
  ∃cc t bD rd,x=.c cc/\dU h1 300 cc=some (t,bD,rd)/\(∀r,l5 c (l++r)=([t],r))/\QH h n h1 (v,i) (cc,bD,rd):=by
 have hp:Oo v/\uf v=false:=by
  cases c<;>simp[wa]at hl
  all_goals(cases v<;>first|exact⟨trivial,rfl⟩|(simp[eA]at ha;done))
 obtain⟨cc,rfl,hc⟩:=ju (pn hp.1 hx) hp.2;obtain⟨ts,bD,rd,g1,g2,g3,g4,g5,g6,g7⟩:=xq hr c false v l i [cc] ha hc hk;have e:=g1 301 (by omega);simp only[jc,pI]at e;split at e
 .rename_i t a b x' b' j hp1 hp2;obtain⟨rfl,e2⟩:=af (aa hp2);obtain⟨rfl,rfl⟩:=af e2;clear e2;clear hp2;obtain⟨rfl,e3⟩:=af (aa e);obtain⟨rfl,rfl⟩:=af e3;refine⟨cc,t,_,_,rfl,by simpa using hp1,g2,hc,hk,⟨t,by simpa using hp1⟩,g3,g4,g5,g7,?_⟩;cases v with
  |so id=>
   cases c with
   |os t=>
    simp only[eA]at ha;split at ha
    .rename_i u s ver ho;split at ha
     .obtain ⟨_,rfl⟩:=af (aa ha);exact⟨rfl,u,s,ver,ho⟩
     .simp at ha
    .simp at ha
   |_=>simp[eA,iE,wa]at ha hl
  |sr id=>
   cases c with
   |rw t=>
    simp only[eA]at ha;split at ha
    .rename_i u s ho;split at ha
     .obtain ⟨_,rfl⟩:=af (aa ha);exact⟨rfl,u,s,ho⟩
     .simp at ha
    .simp at ha
   |_=>simp[eA,iE,wa]at ha hl
  |op id u p=>
   cases c with
   |pb t c=>
    cases p with
    |cons=>simp[eA]at ha
    |nil=>
     simp only[eA]at ha;split at ha
     .rename_i w q ho;obtain⟨_,ha2⟩:=aO ha;split at ha2
      .obtain ⟨_,rfl⟩:=af (aa ha2);refine⟨by simp,?_⟩;rintro(⟨u',v',e⟩|⟨u',ln',e⟩)
       .rcases e with e|e<;>rw[ho]at e<;>simp at e
       .rw [ho]at e;cases e
      .simp at ha2
     .simp at ha
   |_=>simp[eA,iE,wa]at ha hl
  |nl k=>trivial
  |_=>(cases c<;>simp[wa]at hl<;>simp[eA]at ha)
 .simp at e
theorem E1(hr:HR n h1 h):∀(ps:List (Bool×Sh))(vs:List V)(ms:List Bool)(m:List V)(j:List Nat)(q:List (V×List Nat))(xs:List TV),vF h ps vs=some (m,j,q)->mR h vs xs->(∀w∈vs,fD n h w)->(∀w∈vs,iU h w=true)->OJ ps ms=true->BY ps=true->
  ∃az lent,gJ h1 xs ms=some (fw ps m,az,lent)/\(∀i∈az,i∈j/\¬nr h i)/\(∀i∈j,i∈az\/nr h i)/\xO h n h1 q lent:=by
 intro ps;induction ps with
 |nil=>intro vs ms m j q xs ha hx hk hal hm hp;cases vs with|cons=>simp[vF]at ha|nil=>obtain⟨rfl,e⟩:=af (aa ha);obtain⟨rfl,rfl⟩:=af e;obtain rfl:=lB hx;exact⟨[],[],rfl,fun i hi=>by simp at hi,fun i hi=>by simp at hi,rfl⟩
 |cons p ps ih=>
  obtain⟨b,c⟩:=p;intro vs ms m j q xs ha hx hk hal hm hp;cases vs with
  |nil=>simp[vF]at ha
  |cons v vs=>
   obtain⟨x,ys,rfl,hx1,hx2⟩:=gA hx;simp only[OJ,ak,decide_eq_true_eq]at hm;simp only[BY,ak]at hp;simp only[vF]at ha;split at ha
   .rename_i m' j' q' hrest;obtain⟨az,lent,e1,e2,e3,e4⟩:=ih vs ms.tail m' j' q' ys hrest hx2 (fun w hw=>hk w (by simp[hw])) (fun w hw=>hal w (by simp[hw])) hm.2 hp.2;cases b with
    |true=>
     simp only[cond_true]at ha;split at ha
     .rename_i l i ha2;obtain⟨rfl,e⟩:=af (aa ha);obtain⟨rfl,rfl⟩:=af e;have hp1:=hp.1;simp only[cond_true,ak,Nat.ble_eq]at hp1;obtain⟨cc,t,bD,rd,rfl,f1,f2,f3⟩:=LF hr hp1.1 hp1.2 ha2 hx1 (hk v (by simp));refine⟨az,(cc,bD,rd)::lent,?_,e2,e3,⟨_,_,rfl,f3,e4⟩⟩;rw[VC f1 hm.1 e1];simp only[fw,f2,bZ]
     .simp at ha
    |false=>
     simp only[cond_false]at ha;split at ha
     .rename_i l i ha2;obtain⟨rfl,e⟩:=af (aa ha);obtain⟨rfl,rfl⟩:=af e;have hp1:=hp.1;simp only[cond_false,ak,Nat.ble_eq,gu]at hp1;have hpl:Oo v:=by cases v<;>first|trivial|(cases c<;>simp[pg,jA]at ha2)
      cases hs:yb c with
      |true=>
       cases c with
       |x t=>
        simp only[pg]at ha2;split at ha2
        .rename_i w l' hw;split at ha2
         .rename_i y hy;obtain⟨rfl,rfl⟩:=af (aa ha2);obtain⟨cs,hc,h3,h4⟩:=pn hpl hx1;obtain⟨ds,is,f1,f2,f3,f4,_⟩:=tX hr v w l' cs hw hc (hk v (by simp)) (hal v (by simp));have e5:=p7 (js w false t y _ hy f2);subst e5;refine⟨is++az,lent,?_,fun k hk=>?_,fun k hk=>?_,e4⟩
          .rw [h3 (((Mf hw).trans (xj hy)).trans hs),So f1 hm.1 e1];simp only[fw,hs,cond_true];rfl
          .rcases ao.1 hk with hk|hk
           .exact ⟨aI _ (f3 k hk).1,(f3 k hk).2⟩
           .exact ⟨aG _ (e2 k hk).1,(e2 k hk).2⟩
          .rcases ao.1 hk with hk|hk
           .exact (f4 k hk).imp (aI _) (fun q=>q)
           .exact (e3 k hk).imp (aG _) (fun q=>q)
         .simp at ha2
        .simp at ha2
       |st c=>simp[pg]at ha2
       |_=>simp[yb]at hs
      |false=>
       have hag:uf v=false:=by
        cases c with
        |x t=>
         simp only[pg]at ha2;split at ha2
         .rename_i w l' hw;split at ha2
          .rename_i y hy;exact((Mf hw).trans (xj hy)).trans hs
          .simp at ha2
         .simp at ha2
        |_=>cases v<;>first|rfl|(simp[pg]at ha2;done)|(simp[yb]at hs;done)|(simp[zm,yb]at hp1;done)
       obtain⟨cs,hc,h3,h4⟩:=pn hpl hx1;obtain⟨ds,is,g1,g2,g3,g4,g5⟩:=J9 hr c v l i cs ha2 hc (hk v (by simp)) (hal v (by simp));refine⟨is++az,lent,?_,fun k hk=>?_,fun k hk=>?_,e4⟩
       .obtain ⟨cc,rfl,rfl⟩:=h4 hag;have e:=g1 301 (by omega);have en:gw h1 300 []=some ([],[]):=rfl;simp only[gw,en]at e;split at e
        .rename_i d a xs' b' hv1 hv2;obtain⟨rfl,rfl⟩:=af (aa hv2);clear hv2;obtain⟨rfl,rfl⟩:=af (aa e);rw[YN hv1 hm.1 e1];simp only[fw,hs,g2,cond_false,bZ,bv]
        .simp at e
       .rcases ao.1 hk with hk|hk
        .exact ⟨aI _ (g3 k hk).1,(g3 k hk).2⟩
        .exact ⟨aG _ (e2 k hk).1,(e2 k hk).2⟩
       .rcases ao.1 hk with hk|hk
        .exact (g4 k hk).imp (aI _) (fun q=>q)
        .exact (e3 k hk).imp (aG _) (fun q=>q)
     .simp at ha
   .simp at ha
end
section
variable{h:H2}{n:Nat}{h1:bC}
structure Bk(s s':S2)(h1:bC)(I:List Nat)(u:eS):Prop where
 hr:HR s'.next (u++h1) s'.heap
 eU:jO s.next s.heap s'.heap
 dE:s'.dE=s.dE
 gh:s'.gh=s.gh
 le:s.next<=s'.next
 D_:∀p∈u,p.1∈I\/(s.next<=p.1/\p.1<s'.next)
 nb:∀i,i<s.next->fO s.heap i=none->fO s'.heap i=none
 wo:∃W,s'.wo=W++s.wo/\(∀p∈u,p.1∈W)/\∀i,i∉W->fO s'.heap i=fO s.heap i
theorem Bk.refl{s:S2}(hr:HR s.next h1 s.heap):Bk s s h1 [] []:=⟨hr,jO.refl _ _,rfl,rfl,am _,fun p hp=>by simp at hp,fun _ _ h=>h,[],rfl,fun p hp=>by simp at hp,fun _ _=>rfl⟩
theorem Bk.seq{s s1 s2:S2}{I J:List Nat}{u1 u2:eS}(a:Bk s s1 h1 I u1)(b:Bk s1 s2 (u1++h1) J u2)(hd:∀i∈I,i∉J)(hI:∀i∈I,i<s.next)(hJ:∀j∈J,j<s.next):Bk s s2 h1 (I++J) (u1++u2):=by
 obtain⟨a3,a4,a5,a6,a7,a8,a9,W,v1,v2,v4⟩:=a;obtain⟨b3,b4,b5,b6,b7,b8,b9,X,x1,x2,x4⟩:=b;refine⟨b3.ext fun i=>wW (fun p hp q hq e=>?_) i,a4.trans a7 b4,b5.trans a5,b6.trans a6,by omega,fun p hp=>?_,fun i hi h=>b9 i (by omega) (a9 i hi h),X++W,by rw[x1,v1,aR],fun p hp=>?_,fun i hi=>?_⟩
 .rcases a8 p hp with h2|h2<;>rcases b8 q hq with h3|h3
  .exact hd _ h2 (e▸h3)
  .have:=hI _ h2;omega
  .have:=hJ _ h3;omega
  .omega
 .rcases ao.1 hp with hp|hp
  .rcases a8 p hp with h2|h2
   .exact .inl (aI _ h2)
   .exact .inr (by omega)
  .rcases b8 p hp with h2|h2
   .exact .inl (aG _ h2)
   .exact .inr (by omega)
 .rcases ao.1 hp with hp|hp
  .exact aG _ (v2 p hp)
  .exact aI _ (x2 p hp)
 .rw [x4 i fun q=>hi (aI _ q),v4 i fun q=>hi (aG _ q)]
theorem pC:∀(i:List Nat)(s:S2),(jx i s).dE=s.dE/\(jx i s).next=s.next/\(jx i s).gh=s.gh/\(jx i s).wo=i++s.wo/\∀j,fO (jx i s).heap j=if j∈i then none else fO s.heap j:=by
 intro i;induction i with
 |nil=>intro s;exact⟨rfl,rfl,rfl,rfl,fun j=>by simp[jx]⟩
 |cons a i ih=>
  intro s;obtain⟨h1,h2,h3,h4,h5⟩:=ih s;refine⟨h1,h2,h3,by simp[jx,eN,h4],fun j=>?_⟩;simp only[jx,eN,du,h5];by_cases e:a=j
  .subst e;simp
  .simp [e,Ne.symm e]
theorem jO.sub{g:H2}(hs:∀i o,fO g i=some o->fO h i=some o):jO n h g:=⟨fun i o _ ho=>.inl ⟨o,hs i o ho,sX.refl _⟩⟩
theorem HR.sub{g:H2}(hr:HR n h1 h)(hs:∀i o,fO g i=some o->fO h i=some o):HR n h1 g:=⟨fun i o ho=>let⟨a,b,c⟩:=hr.ob i o (hs i o ho);⟨a,pW (jO.sub hs) c b,oR (am _) (jO.sub hs) c⟩⟩
theorem zD{i:List Nat}{s:S2}:∀j o,fO (jx i s).heap j=some o->fO s.heap j=some o:=by
 intro j o ho;rw[(pC i s).2.2.2.2]at ho;split at ho
 .simp at ho
 .exact ho
theorem A_{bD:List Nat}{j:Nat}(hj:j∉bD):aw (bD.map (fun i=>(i,(none:Option Ob)))++h1) j=aw h1 j:=wX fun p hp e=>by obtain⟨i,hi,rfl⟩:=bB.1 hp;exact hj (e▸hi)
theorem Bk.mD{s:S2}{i bD:List Nat}(hr:HR s.next h1 s.heap)(ho:∀j∈bD,j∈i):Bk s (jx i s) h1 i (bD.map fun j=>(j,none)):=by
 obtain⟨k1,k2,k3,k4,k5⟩:=pC i s;refine⟨⟨fun j o hj=>?_⟩,jO.sub zD,k1,k3,by omega,fun p hp=>?_,fun j _ h=>by rw[k5];split<;>first|rfl|exact h,i,k4,fun p hp=>?_,fun j hj=>by rw[k5,if_neg hj]⟩
 .obtain ⟨a,b,c⟩:=(hr.sub zD).ob j o hj;refine⟨by omega,?_,by rw[k2];exact c⟩;have:j∉i:=fun hm=>by rw[k5,if_pos hm]at hj;simp at hj
  rw[A_ fun hm=>this (ho j hm)];exact b
 .obtain ⟨j,hj,rfl⟩:=bB.1 hp;exact .inl (ho j hj)
 .obtain ⟨j,hj,rfl⟩:=bB.1 hp;exact ho j hj
theorem uA{α:Type}{a b:Sl α}{u:Unit}(hl:Jh a b=some u):a.fF=b.fF/\a.l.length=b.l.length:=by
 cases a<;>cases b<;>simp[Jh]at hl
 .exact ⟨rfl,rfl⟩
 .exact ⟨rfl,Ji.1 hl⟩
theorem tZ{c:C}{rd:List Nat}{x:D}{r:List (C×List Nat×List Nat)}{ts:List T}{m:Nat}:eF m ((c,[],rd)::r) (.d x::ts)=eF m r ts:=by simp only[eF]
theorem zf{x:D}{t:T}{bD rd:List Nat}(hp:dU h1 300 (.d x)=some (t,bD,rd)):bD=[]:=by rw[vV]at hp;obtain⟨_,e⟩:=af (aa hp);exact(af e).1.symm
theorem Lu{q:List (V×List Nat)}{v:V}{i:List Nat}(hn:(kT (fun(p:V×List Nat)=>p.2) ((v,i)::q)).Nodup):(∀j∈i,j∉kT (fun(p:V×List Nat)=>p.2) q)/\(kT (fun(p:V×List Nat)=>p.2) q).Nodup:=by simp only[bg]at hn;exact⟨fun j hj hm=>(cD.1 hn).2.2 j hj j hm rfl,(cD.1 hn).2.1⟩
theorem xO.lt:∀{q:List (V×List Nat)}{lent:List (C×List Nat×List Nat)},xO h n h1 q lent->∀j∈kT (fun(p:V×List Nat)=>p.2) q,j<n:=by
 intro q;induction q with
 |nil=>intro lent _ j hj;simp at hj
 |cons p q ih=>
  rintro lent ⟨x,m,rfl,hx,hm⟩ j hj;simp only[bg,ao]at hj;rcases hj with hj|hj
  .exact hx.2.2.2.2.2.2.1 j hj
  .exact ih hm j hj
theorem M8{szi m id len k:Nat}{rows:List (Option (List (List D)))}{rd:List Nat}{r:List (C×List Nat×List Nat)}{ts:List T}{w:eS}(hl:rows.length=len)(hr:eF m r ts=some (w,k)):
  eF m ((.cE 1 id 0 len,[id],rd)::r) (.Ai szi rows::ts)=some ((id,some (.nst szi (rows.map nA)))::w,k):=by
 simp only[eF,hl,hr,and_self,if_true]
theorem z6{β:Type}{z:β}(hr0:HR n h1 h):∀(os:List Sh)(q:List (V×List Nat))(lent:List (C×List Nat×List Nat))(l:List V)(s:S2)(H:bC)(k:S2->Option β),eV os q l s k=some z->xO h n h1 q lent->n<=s.next->HR s.next H s.heap->jO n h s.heap->
  (kT (fun(p:V×List Nat)=>p.2) q).Nodup->∃s1 bu,k s1=some z/\eF s.next lent (lk os l)=some (bu,s1.next)/\Bk s s1 H (kT (fun(p:V×List Nat)=>p.2) q) bu:=by
 intro os;induction os with
 |nil=>
  intro q lent l s H k hb hl hn hr eU hnd;cases q with
  |cons p q=>simp[eV]at hb
  |nil=>cases l with|cons=>simp[eV]at hb|nil=>obtain rfl:lent=[]:=hl;exact⟨s,[],hb,rfl,Bk.refl hr⟩
 |cons o os ih=>
  intro q lent l s H k hb hl hn hr eU hnd;cases q with
  |nil=>cases o<;>simp[eV]at hb
  |cons p q=>
   obtain⟨v,i⟩:=p;obtain⟨⟨c,bD,rd⟩,m,rfl,⟨hc,hkv,⟨tp,hpk⟩,hsub,hcov,hrd,hlt,hsh⟩,hl2⟩:=hl;obtain⟨hd,hnd2⟩:=Lu hnd;have hI:∀j∈i,j<s.next:=fun j hj=>by have:j<n:=hlt j hj;omega
   have hJ:∀j∈kT (fun(p:V×List Nat)=>p.2) q,j<s.next:=fun j hj=>by have:=hl2.lt j hj;omega
   cases o with
   |nl kk=>cases i with|cons=>simp[eV]at hb|nil=>simp only[eV]at hb;obtain⟨s1,bu,e1,e2,e3⟩:=ih q m l s H k hb hl2 hn hr eU hnd2;have:bD=[]:=List.sublist_nil.1 hsub;subst this;exact⟨s1,bu,e1,by simp only[lk,l5,bZ,tZ];exact e2,by simpa using e3⟩
   |gn=>simp only[eV]at hb;obtain⟨k1,k2,k3,k4,k5⟩:=pC i s;have b1:Bk s (jx i s) H i (bD.map fun j=>(j,none)):=Bk.mD hr fun j hj=>hsub.subset hj;obtain⟨s1,bu,e1,e2,e3⟩:=ih q m l (jx i s) _ k hb hl2 (by omega) b1.hr (eU.trans hn b1.eU) hnd2;rw[k2]at e2;exact⟨s1,_,e1,by simp only[lk,l5,bZ];exact J6 e2,by simpa using b1.seq e3 hd hI hJ⟩
   |os t=>
    cases v with
    |nl kk=>
     cases kk with
     |succ=>cases l with|nil=>simp[eV]at hb|cons w l=>cases w<;>simp[eV]at hb
     |zero=>
      cases i with
      |cons=>cases l with|nil=>simp[eV]at hb|cons w l=>cases w<;>simp[eV]at hb
      |nil=>
       match l with
       |.x (.sl u) v::l=>
        simp only[eV]at hb;split at hb
        .rename_i v' hv;obtain⟨e,rfl⟩:=dl hv;cases e;obtain⟨_,hls,hb2⟩:=qn hb;obtain⟨hni,_⟩:=uA hls;obtain⟨s1,bu,e1,e2,e3⟩:=ih q m l s H k hb2 hl2 hn hr eU hnd2;have:bD=[]:=List.sublist_nil.1 hsub;subst this;refine⟨s1,bu,e1,?_,by simpa using e3⟩;cases v with|mk=>simp[Sl.fF]at hni|nil=>simp only[lk,l5,bZ,Q2,tZ];exact e2
        .simp at hb
       |[]|.kb _::_|.nl _::_|.so _::_|.sr _::_|.sb _ _ _ _ _::_|.op _ _ _::_|.ep _ _ _ _::_|.pt _ _::_|.fn _ _ _::_|.om _::_|.rc _::_|.tp _::_|.ni::_|.co _ _::_|.fl _::_|.no::_|.gn::_=>simp[eV]at hb
       |.x (.i _) _::_|.x .b _::_|.x .s _::_|.x (.f _) _::_|.x (.mp _ _) _::_|.x .un _::_|.x (.pr _ _) _::_|.x (.st _) _::_|.x (.ar _ _) _::_|.x (.o _) _::_=>simp[eV]at hb
    |so id=>
     match l with
     |.x (.sl u) v::l=>
      simp only[eV]at hb;split at hb
      .rename_i w old ver v' ho hv;obtain⟨e,rfl⟩:=dl hv;cases e;split at hb
       .rename_i v2 hv2;obtain⟨e,rfl⟩:=dl hv2;cases e;obtain⟨_,hls,hb2⟩:=qn hb;obtain⟨hni,hln⟩:=uA hls;obtain⟨rfl,u0,s0,ver0,ho0⟩:=hsh;have hid:id<n:=hkv;obtain⟨o1,ho1,hos⟩:=(eU.ob id _ hid ho).resolve_right (by simp[OR]);rw[ho0]at ho1;obtain rfl:=aa ho1;obtain⟨_,rfl,hn1,hn2,_⟩:=hos;obtain⟨cc,ece,hcc⟩:=hc;obtain rfl:=fN.1 ece;have ec:=hcc.1 _ (mS (.inl ho0));obtain⟨q1,q2,q3⟩:=(hr.ob id _ ho).2.1;have hosn:sX (.ar u0 old ver) (.ar u0 v (ver+1)):=⟨bI _,rfl,hni.symm,hln.symm,fun e=>by omega⟩
        have key:∀(uu:eS),(∀p∈uu,p.1=id)->(∀l,v=.mk l->aw (uu++H) id=some (.aK (ce u0) (l.map (aS u0))))->Bk s (eN s id (some (.ar u0 v (ver+1)))) H [id] uu:=by intro uu hu hlk;have d:=sO (x:=.ia []) (v:=.no) (az:=[]) (l:=[]) hr ho hni.symm hln.symm hu hlk (fun _=>rfl) (fun _ _=>trivial) (fun i hi=>by simp at hi);exact⟨d.hr,d.eU,rfl,rfl,am _,fun p hp=>.inl (by simp[hu p hp]),d.nb,[id],rfl,fun p hp=>by simp[hu p hp],fun j hj=>by simp only[eN];rw[du,if_neg fun e=>hj (by simp[e])]⟩
        cases v with
        |nil=>
         have b1:=key [] (fun p hp=>by simp at hp) (fun l e=>by cases e);obtain⟨s1,bu,f1,f2,e3⟩:=ih q m l _ _ k hb2 hl2 hn b1.hr (eU.trans hn b1.eU) hnd2;have hnil:s0.fF=true:=by rw[hn1,<-hni];rfl
         cases s0 with|mk=>simp[Sl.fF]at hnil|nil=>subst ec;have:=zf hpk;subst this;refine⟨s1,bu,f1,?_,by simpa using b1.seq e3 hd hI hJ⟩;simp only[lk,l5,bZ,Q2,tZ];exact f2
        |mk vl=>
         have b1:=key [(id,some (.aK (ce u0) (vl.map (aS u0))))] (fun p hp=>by simp at hp;simp[hp]) (fun l e=>by cases e;rw[bd,dV,if_pos rfl]);obtain⟨s1,bu,f1,f2,e3⟩:=ih q m l _ _ k hb2 hl2 hn b1.hr (eU.trans hn b1.eU) hnd2;have hnil:s0.fF=false:=by rw[hn1,<-hni];rfl
         cases s0 with|nil=>simp[Sl.fF]at hnil|mk uq=>subst ec;have hlk:=(hr0.ob id _ ho0).2.1.2.2 uq rfl;have hp2:=p_o (k:=300) hlk;simp only[mT]at hpk;rw[hp2]at hpk;obtain⟨_,e⟩:=af (aa hpk);obtain⟨rfl,rfl⟩:=af e;refine⟨s1,_,f1,?_,by simpa using b1.seq e3 hd hI hJ⟩;simp only[lk,l5,bZ,Q2,mT];refine PR ?_ f2;simp only[Sl.l]at hn2 hln;simp only[aM];omega
       .simp at hb
      .simp at hb
     |[]|.kb _::_|.nl _::_|.so _::_|.sr _::_|.sb _ _ _ _ _::_|.op _ _ _::_|.ep _ _ _ _::_|.pt _ _::_|.fn _ _ _::_|.om _::_|.rc _::_|.tp _::_|.ni::_|.co _ _::_|.fl _::_|.no::_|.gn::_=>simp[eV]at hb
     |.x (.i _) _::_|.x .b _::_|.x .s _::_|.x (.f _) _::_|.x (.mp _ _) _::_|.x .un _::_|.x (.pr _ _) _::_|.x (.st _) _::_|.x (.ar _ _) _::_|.x (.o _) _::_=>simp[eV]at hb
    |_=>simp[eV]at hb
   |rw t=>
    cases v with
    |nl kk=>
     cases kk with
     |succ=>cases l with|nil=>simp[eV]at hb|cons w l=>cases w<;>simp[eV]at hb
     |zero=>
      cases i with
      |cons=>cases l with|nil=>simp[eV]at hb|cons w l=>cases w<;>simp[eV]at hb
      |nil=>
       match l with
       |.x (.sl (.sl u)) v::l=>
        simp only[eV]at hb;split at hb
        .rename_i v' hv;obtain⟨e,rfl⟩:=dl hv;cases e;obtain⟨_,hls,hb2⟩:=qn hb;obtain⟨hni,_⟩:=uA hls;obtain⟨s1,bu,e1,e2,e3⟩:=ih q m l s H k hb2 hl2 hn hr eU hnd2;have:bD=[]:=List.sublist_nil.1 hsub;subst this;refine⟨s1,bu,e1,?_,by simpa using e3⟩;cases v with|mk=>simp[Sl.fF]at hni|nil=>simp only[lk,l5,bZ,yO,tZ];exact e2
        .simp at hb
       |[]|.kb _::_|.nl _::_|.so _::_|.sr _::_|.sb _ _ _ _ _::_|.op _ _ _::_|.ep _ _ _ _::_|.pt _ _::_|.fn _ _ _::_|.om _::_|.rc _::_|.tp _::_|.ni::_|.co _ _::_|.fl _::_|.no::_|.gn::_=>simp[eV]at hb
       |.x (.sl (.i _)) _::_|.x (.sl .b) _::_|.x (.sl .s) _::_|.x (.sl (.f _)) _::_|.x (.sl (.mp _ _)) _::_|.x (.sl .un) _::_|.x (.sl (.pr _ _)) _::_|.x (.sl (.st _)) _::_|.x (.sl (.ar _ _)) _::_|.x (.sl (.o _)) _::_|.x (.i _) _::_|.x .b _::_|.x .s _::_|.x (.f _) _::_|.x (.mp _ _) _::_|.x .un _::_|.x (.pr _ _) _::_|.x (.st _) _::_|.x (.ar _ _) _::_|.x (.o _) _::_=>simp[eV]at hb
    |sr id=>
     match l with
     |.x (.sl (.sl u)) v::l=>
      simp only[eV]at hb;split at hb
      .rename_i w old ln v' ho hv;obtain⟨e,rfl⟩:=dl hv;cases e;split at hb
       .rename_i v2 hv2;obtain⟨e,rfl⟩:=dl hv2;cases e;obtain⟨_,hls,hb2⟩:=qn hb;obtain⟨hni,hln⟩:=uA hls;obtain⟨rfl,u0,s0,ho0⟩:=hsh;have hid:id<n:=hkv;obtain⟨o1,ho1,hos⟩:=(eU.ob id _ hid ho).resolve_right (by simp[OR]);rw[ho0]at ho1;obtain rfl:=aa ho1;obtain⟨rfl,hn1,hn2⟩:=hos;obtain⟨cc,ece,hcc⟩:=hc;obtain rfl:=fN.1 ece;have ec:=hcc.1 _ (tH ho0);obtain⟨q1,q2,q3⟩:=(hr.ob id _ ho).2.1;have hosn:sX (.rw u0 old ln) (.rw u0 v none):=⟨rfl,hni.symm,hln.symm⟩
        have key:∀(uu:eS),(∀p∈uu,p.1=id)->(∀l,v=.mk l->aw (uu++H) id=some (.nst (ce u0) (fx u0 l none)))->Bk s (eN s id (some (.rw u0 v none))) H [id] uu:=by intro uu hu hlk;have d:=G2 (x:=.ia []) (v:=.no) (az:=[]) (l:=[]) hr ho hosn hu ⟨q1,q2,hlk⟩ trivial rfl trivial (fun i hi=>by simp at hi);exact⟨d.hr,d.eU,rfl,rfl,am _,fun p hp=>.inl (by simp[hu p hp]),d.nb,[id],rfl,fun p hp=>by simp[hu p hp],fun j hj=>by simp only[eN];rw[du,if_neg fun e=>hj (by simp[e])]⟩
        cases v with
        |nil=>
         have b1:=key [] (fun p hp=>by simp at hp) (fun l e=>by cases e);obtain⟨s1,bu,f1,f2,e3⟩:=ih q m l _ _ k hb2 hl2 hn b1.hr (eU.trans hn b1.eU) hnd2;have hnil:s0.fF=true:=by rw[hn1,<-hni];rfl
         cases s0 with|mk=>simp[Sl.fF]at hnil|nil=>subst ec;have:=zf hpk;subst this;refine⟨s1,bu,f1,?_,by simpa using b1.seq e3 hd hI hJ⟩;simp only[lk,l5,bZ,yO,tZ];exact f2
        |mk vl=>
         have b1:=key [(id,some (.nst (ce u0) (fx u0 vl none)))] (fun p hp=>by simp at hp;simp[hp]) (fun l e=>by cases e;rw[bd,dV,if_pos rfl]);obtain⟨s1,bu,f1,f2,e3⟩:=ih q m l _ _ k hb2 hl2 hn b1.hr (eU.trans hn b1.eU) hnd2;have hnil:s0.fF=false:=by rw[hn1,<-hni];rfl
         cases s0 with|nil=>simp[Sl.fF]at hnil|mk uq=>subst ec;have hlk:=(hr0.ob id _ ho0).2.1.2.2 uq rfl;have hp2:=XD (k:=300) hlk;simp only[mT]at hpk hp2;rw[hp2]at hpk;obtain⟨_,e⟩:=af (aa hpk);obtain⟨rfl,rfl⟩:=af e;refine⟨s1,_,f1,?_,by simpa using b1.seq e3 hd hI hJ⟩;simp only[lk,l5,bZ,yO,mT,aM];rw[show fx u0 vl none=(vl.map (IH u0)).map nA from(yQ vl).symm];refine M8 ?_ f2;rw[aM];exact hln.trans hn2.symm
       .simp at hb
      .simp at hb
     |[]|.kb _::_|.nl _::_|.so _::_|.sr _::_|.sb _ _ _ _ _::_|.op _ _ _::_|.ep _ _ _ _::_|.pt _ _::_|.fn _ _ _::_|.om _::_|.rc _::_|.tp _::_|.ni::_|.co _ _::_|.fl _::_|.no::_|.gn::_=>simp[eV]at hb
     |.x (.sl (.i _)) _::_|.x (.sl .b) _::_|.x (.sl .s) _::_|.x (.sl (.f _)) _::_|.x (.sl (.mp _ _)) _::_|.x (.sl .un) _::_|.x (.sl (.pr _ _)) _::_|.x (.sl (.st _)) _::_|.x (.sl (.ar _ _)) _::_|.x (.sl (.o _)) _::_|.x (.i _) _::_|.x .b _::_|.x .s _::_|.x (.f _) _::_|.x (.mp _ _) _::_|.x .un _::_|.x (.pr _ _) _::_|.x (.st _) _::_|.x (.ar _ _) _::_|.x (.o _) _::_=>simp[eV]at hb
    |_=>simp[eV]at hb
   |pb t c2=>
    cases v with
    |op id u p=>
     cases p with
     |cons=>simp[eV]at hb
     |nil=>
      simp only[eV]at hb;split at hb
      case h_2=>simp at hb
      rename_i oid hoid;split at hb
      .rename_i w l' s2 hm;obtain⟨hf,hb2⟩:=aO hb;simp only[ak,decide_eq_true_eq]at hf;obtain⟨hf,rfl⟩:=hf;obtain⟨g1,g2,g3,g4,g5,_⟩:=v8 c2 false l s w l' s2 H hm hr;subst g5;obtain⟨hid,hnn⟩:=hsh;have hio:id∈bD:=(hcov id hid).resolve_right hnn
       obtain rfl:c=.op id 0:=by
        have e0:nw u []=0:=by cases u<;>rfl
        have:[c]=[C.op id (nw u [])]:=hc;rw[e0]at this;exact fN.1 this
       obtain⟨k1,k2,k3,k4,k5⟩:=pC i s2;have hids:id<s2.next:=by have:=hI id hid;have:=g3.le;omega
       have b1:Bk s (eN (jx i s2) id (some (.bx u w))) H i ((id,some (.box (ja s.next (l5 c2 l).1).1))::(ja s.next (l5 c2 l).1).2.1++bD.map (fun j=>(j,none))):=by
        obtain⟨a3,a4,a5,a6,a7,a8,W,v1,v2,v3,v4⟩:=g3;have hs2:jO s2.next s2.heap (eN (jx i s2) id (some (.bx u w))).heap:=jO.trans (am _) (jO.sub zD) jO.bx;refine⟨⟨fun j o hj=>?_⟩,jO.trans a7 a4 hs2,k1.trans a5,k3.trans a6,by simp only[eN];omega,fun p hp=>?_,fun j hj hn=>(by simp only[eN];rw[du,if_neg (fun e=>by rw[e,hn]at hoid;cases hoid),k5];split<;>first|rfl|(rw[v4 j fun q=>by have:=(v3 j q).1;omega];exact hn)),id::(i++W),by simp only[eN,k4,v1,aU,aR],fun p hp=>?_,fun j hj=>?_⟩
        .simp only[eN]at hj|-;rw[du]at hj;split at hj
         .rename_i e;subst e;obtain rfl:=aa hj;refine⟨by omega,?_,?_⟩
          .rw [aU,aU,dV,if_pos rfl];exact⟨_,rfl,lZ hs2 g2 g1,hf⟩
          .rw [k2];exact hO (am _) hs2 g2
         .rename_i e;have hji:j∉i:=fun hm=>by rw[k5,if_pos hm]at hj;simp at hj
          rw[k5,if_neg hji]at hj;obtain⟨c1,c2',c3⟩:=a3.ob j o hj;refine⟨by omega,?_,?_⟩
          .rw [aU,aU,dV,if_neg e,aR];have:aw ((ja s.next (l5 c2 l).1).2.1++(bD.map (fun j=>(j,none))++H)) j=aw ((ja s.next (l5 c2 l).1).2.1++H) j:=by simp only[aw,ic];have:=A_ (h1:=H) (bD:=bD) (j:=j) fun hm=>hji (hsub.subset hm);simp only[aw,ic]at this;cases cm (ja s.next (l5 c2 l).1).2.1 j with|some x=>rfl|none=>exact this
           rw[this];exact pW hs2 c3 c2'
          .rw [k2];exact oR (am _) hs2 c3
        .rcases ao.1 hp with hp|hp
         .rcases aN.1 hp with rfl|hp
          .exact .inl hid
          .have:=a8 p hp;exact .inr ⟨this.1,by simp only[eN];omega⟩
         .obtain ⟨j,hj,rfl⟩:=bB.1 hp;exact .inl (hsub.subset hj)
        .rcases ao.1 hp with hp|hp
         .rcases aN.1 hp with rfl|hp
          .simp
          .simp [v2 p hp]
         .obtain ⟨j,hj,rfl⟩:=bB.1 hp;simp[hsub.subset hj]
        .simp only[eN];rw[du,if_neg fun e=>hj (by simp[e]),k5,if_neg fun q=>hj (by simp[q]),v4 j fun q=>hj (by simp[q])]
       obtain⟨s1,bu,e1,e2,e3⟩:=ih q m _ _ _ k hb2 hl2 (by have:=b1.le;omega) b1.hr (eU.trans hn b1.eU) hnd2;have en:(eN (jx i s2) id (some (.bx u w))).next=(ja s.next (l5 c2 l).1).2.2:=by simp only[eN,k2,g4]
       rw[en]at e2;refine⟨s1,_,e1,?_,by simpa using b1.seq e3 hd hI hJ⟩;simp only[lk,l5,bZ];have:=PQ (n:=s.next) (id:=id) (bD:=bD) (rd:=rd) (by simpa using hio) e2;rw[this];simp only[aU,aR]
      .simp at hb
    |_=>simp[eV]at hb
   |_=>simp[eV]at hb
end
def Tg(c:Sh):Bool:=yb c||zm c
section
variable{h:H2}{n:Nat}{h1:bC}
theorem Ct{c:Sh}{l l':List V}{s s':S2}{w:V}(hm:qK c false l s=some (w,l',s'))(ho:zm c=true):(l5 c l).1.length=1:=by
 cases c with
 |x t=>match l with|.x u v::l=>simp only[qK]at hm;obtain⟨hc,_⟩:=aO hm;simp only[ak,decide_eq_true_eq]at hc;obtain⟨rfl,_⟩:=hc;simpa[l5,bW,zm]using ho|[]|.kb _::_|.nl _::_|.so _::_|.sr _::_|.sb _ _ _ _ _::_|.op _ _ _::_|.ep _ _ _ _::_|.pt _ _::_|.fn _ _ _::_|.om _::_|.rc _::_|.tp _::_|.ni::_|.co _ _::_|.fl _::_|.no::_|.gn::_=>simp[qK]at hm
 |os t=>match l with|.x (.sl u) v::l=>rfl|[]|.kb _::_|.nl _::_|.so _::_|.sr _::_|.sb _ _ _ _ _::_|.op _ _ _::_|.ep _ _ _ _::_|.pt _ _::_|.fn _ _ _::_|.om _::_|.rc _::_|.tp _::_|.ni::_|.co _ _::_|.fl _::_|.no::_|.gn::_=>simp[qK]at hm|.x (.i _) _::_|.x .b _::_|.x .s _::_|.x (.f _) _::_|.x (.mp _ _) _::_|.x .un _::_|.x (.pr _ _) _::_|.x (.st _) _::_|.x (.ar _ _) _::_|.x (.o _) _::_=>simp[qK]at hm
 |rw t=>match l with|.x (.sl (.sl u)) v::l=>rfl|[]|.kb _::_|.nl _::_|.so _::_|.sr _::_|.sb _ _ _ _ _::_|.op _ _ _::_|.ep _ _ _ _::_|.pt _ _::_|.fn _ _ _::_|.om _::_|.rc _::_|.tp _::_|.ni::_|.co _ _::_|.fl _::_|.no::_|.gn::_=>simp[qK]at hm|.x (.sl (.i _)) _::_|.x (.sl .b) _::_|.x (.sl .s) _::_|.x (.sl (.f _)) _::_|.x (.sl (.mp _ _)) _::_|.x (.sl .un) _::_|.x (.sl (.pr _ _)) _::_|.x (.sl (.st _)) _::_|.x (.sl (.ar _ _)) _::_|.x (.sl (.o _)) _::_|.x (.i _) _::_|.x .b _::_|.x .s _::_|.x (.f _) _::_|.x (.mp _ _) _::_|.x .un _::_|.x (.pr _ _) _::_|.x (.st _) _::_|.x (.ar _ _) _::_|.x (.o _) _::_=>simp[qK]at hm
 |pb t c=>rfl
 |nl k=>rfl
 |_=>first|(simp[qK]at hm;done)|(simp[zm]at ho;done)
theorem A8:∀(rs:List Sh)(l:List V)(s:S2)(xs:List V)(l':List V)(s':S2)(h1:bC),Ja rs l s=some (xs,l',s')->HR s.next h1 s.heap->rs.all Tg=true->
  BJ s'.heap (fy xs) (il s.next (jz rs l)).1/\(∀x∈xs,fD s'.next s'.heap x)/\Mk s s' h1 (il s.next (jz rs l)).2.1/\s'.next=(il s.next (jz rs l)).2.2/\xs.length=rs.length:=by
 intro rs;induction rs with
 |nil=>intro l s xs l' s' h1 hm hr _;obtain⟨rfl,e⟩:=af (aa hm);obtain⟨rfl,rfl⟩:=af e;exact⟨rfl,fun x hx=>by simp at hx,Mk.skip hr (am _),rfl,rfl⟩
 |cons c rs ih=>
  intro l s xs l' s' h1 hm hr mo;simp only[gp,ak]at mo;simp only[Ja]at hm;split at hm
  .rename_i x l1 s1 hm1;split at hm
   .rename_i ys l2 s2 hm2;obtain⟨rfl,e⟩:=af (aa hm);obtain⟨rfl,rfl⟩:=af e;obtain⟨q1,q2,q3,q4,q5,q6⟩:=v8 c false l s x l1 s1 h1 hm1 hr;have q6:=q6 rfl;subst q5
    have hu:xx s.next (bif yb c then .agg (l5 c l).1 else .c ((l5 c l).1.headD default))=(bif yb c then .agg (ja s.next (l5 c l).1).1 else .c ((ja s.next (l5 c l).1).1.headD default),(ja s.next (l5 c l).1).2.1,(ja s.next (l5 c l).1).2.2)/\tD s1.heap x (bif yb c then .agg (ja s.next (l5 c l).1).1 else .c ((ja s.next (l5 c l).1).1.headD default)):=by
     cases hs:yb c with
     |true=>exact⟨rfl,yF (q6.trans hs) q1⟩
     |false=>
      have hl:(l5 c l).1.length=1:=by
       have h2:zm c=true:=by simpa[Tg,hs]using mo.1
       exact Ct hm1 h2
      match ht:(l5 c l).1,hl with|[t],_=>rw[ht]at q1;simp only[qr]at q1;refine⟨by simp only[cond_false,bZ,xx,qr],?_⟩;simp only[cond_false,qr,bZ];exact eD (q6.trans hs) q1
    obtain⟨hu1,hu2⟩:=hu;obtain⟨p1,p2,p3,p4,p5⟩:=ih (l5 c l).2 s1 ys l2 s2 _ hm2 q3.hr mo.2;rw[q4]at p1 p3 p4;simp only[jz,il,hu1];refine⟨⟨_,_,rfl,wH p3.eU q2 hu2,p1⟩,fun y hy=>?_,q3.seq p3,p4,by simp[p5]⟩;rcases aN.1 hy with rfl|hy
    .exact hO p3.le p3.eU q2
    .exact p2 y hy
   .simp at hm
  .simp at hm
end
def Ca:Ty->Bool
 |.i _|.b|.s|.f _|.un=>true
 |.pr a c=>Ca a&&Ca c
 |.st t|.ar _ t=>Ca t
 |_=>false
def RF:Sh->Bool
 |.x t=>Ca t
 |_=>false
def RH:Sh->Bool
 |.os t=>Ca t
 |.gn=>true
 |_=>false
def Ui(sp:fJ):Bool:=sp.al.all (fun w=>w.1.all RF&&w.2.all RH)
def Nz(sp:fJ):Bool:=OJ sp.ps sp.kG&&BY sp.ps&&sp.al.all (fun w=>w.1.all Tg)&&(!sp.ro||Ui sp)
def NB(Q:List Sh->List Sh->List V->Prop):(r o:List Sh)->(w:Wy)->wv.GU r o w->Prop
 |r,o,[],z=>Q r o (iB (ff r++ff o) z)
 |r,o,(r',o')::w,z=>match z with|.inl z=>Q r o (iB (ff r++ff o) z)|.inr z=>NB Q r' o' w z
def NC(Q:List Sh->List Sh->List V->Prop):(w:Wy)->wv w->Prop
 |[],z=>nomatch z
 |(r,o)::w,z=>NB Q r o w z
def bf(P:Program)(f:FuncId)(sp:fJ):Prop:=Nz sp=true/\∀p z,sp.fn p=some z->NC (fun rs os l=>yf P f (fw sp.ps (iB (ff (sp.ps.map (·.2))) p)) (jz rs (l.take (ff rs).length)) (lk os (l.drop (ff rs).length))) sp.al z
def qj(P:Program)(tb:E6):Prop:=∀e∈tb,bf P e.1 e.2
theorem qj.nil{P:Program}:qj P []:=fun e he=>by simp at he
theorem qj.cons{P:Program}{f:FuncId}{sp:fJ}{tb:E6}(h:bf P f sp)(ht:qj P tb):qj P ((f,sp)::tb):=fun e he=>by
 rcases aN.1 he with rfl|he
 .exact h
 .exact ht e he
theorem Ih{β:Type}{k:List Sh->List Sh->List V->Option β}{Q:List Sh->List Sh->List V->Prop}{b:β}:∀(w:Wy)(z:wv w),Tm k w z=some b->NC Q w z->∃r o l,(r,o)∈w/\k r o l=some b/\Q r o l:=by
 have key:∀(w:Wy)(r o:List Sh)(z:wv.GU r o w),QN k r o w z=some b->NB Q r o w z->∃r' o' l,(r',o')∈(r,o)::w/\k r' o' l=some b/\Q r' o' l:=by
  intro w;induction w with
  |nil=>intro r o z hz hq;exact⟨r,o,_,by simp,hz,hq⟩
  |cons p w ih=>intro r o z hz hq;cases z with|inl z=>exact⟨r,o,_,by simp,hz,hq⟩|inr z=>obtain⟨r',o',l,h1,h2,h3⟩:=ih p.1 p.2 z hz hq;exact⟨r',o',l,aF _ h1,h2,h3⟩
 intro w z hz hq;cases w with|nil=>exact nomatch z|cons p w=>exact key w p.1 p.2 z hz hq
theorem zU{u:Ty}{v:V}{y:El u}(h:u6 u v=some y):v=.x u y:=by cases v with|x t v=>obtain⟨rfl,rfl⟩:=dl (show gC t u v=some y from h);rfl|_=>simp[u6]at h
theorem qt:∀(cs:List Ty)(l:List V)(p:rp cs),wI cs l=some p->iB cs p=l:=by
 have key:∀(r:List Ty)(a:Ty)(l:List V)(p:rp.E_ a r),Fu a r l=some p->NL a r p=l:=by
  intro r;induction r with
  |nil=>
   intro a l p h
   match l with|[]=>exact nomatch (show(none:Option (rp.E_ a []))=some p from h)|[v]=>rw[zU (show u6 a v=some p from h)];rfl|_::_::_=>exact nomatch (show(none:Option (rp.E_ a []))=some p from h)
  |cons c r ih=>
   intro a l p h
   match l with
   |[]=>exact nomatch (show(none:Option (rp.E_ a (c::r)))=some p from h)
   |v::l=>
    have h:Im (u6 a v) (Fu c r l)=some p:=h;cases hx:u6 a v with
    |none=>rw[hx]at h;exact nomatch h
    |some x=>cases hy:Fu c r l with|none=>rw[hx,hy]at h;exact nomatch h|some y=>rw[hx,hy]at h;obtain rfl:=aa h;show V.x a x::NL c r y=v::l;rw[ih c l y hy,zU hx]
 intro cs l p h
 match cs,l with|[],[]=>rfl|[],_::_=>exact nomatch (show(none:Option (rp []))=some p from h)|a::r,l=>exact key r a l p h
section
variable{h:H2}{n:Nat}{h1:bC}
theorem C_{a b:List V}{x y:List TV}(ha:mR h a x)(hb:mR h b y):mR h (a++b) (x++y):=by induction a generalizing x with|nil=>rw[lB ha];exact hb|cons v a ih=>obtain⟨c,r,rfl,h2,h3⟩:=gA ha;exact⟨h2,ih h3⟩
theorem yB:∀(v:V)(l:List V)(cs:List C),wB v=some l->fG h v cs->fD n h v->iU h v=true->mR h l (cs.map TV.c)/\(∀w∈l,fD n h w)/\∀w∈l,iU h w=true:=by
 intro v;induction v with
 |ni=>intro l cs hl hc _ _;obtain rfl:=aa hl;obtain rfl:=hc;exact⟨trivial,fun w hw=>by simp at hw,fun w hw=>by simp at hw⟩
 |co a r iha ihr=>
  intro l cs hl hc hk hal;simp only[wB]at hl;obtain⟨h1,hl⟩:=aO hl;simp only[ak,beq_iff_eq,gg]at h1;split at hl
  .rename_i l' hl';obtain rfl:=aa hl;obtain⟨x,y,rfl,h2,h3⟩:=hc;simp only[iU,ak]at hal;obtain⟨q1,q2,q3⟩:=ihr l' y hl' h3 hk.2 hal.2;have hlen:=iS h2;rw[h1.1]at hlen
   match x,hlen with
   |[c],_=>
    refine⟨⟨cA (eD h1.2 h2),q1⟩,fun w hw=>?_,fun w hw=>?_⟩
    .rcases aN.1 hw with rfl|hw
     .exact hk.1
     .exact q2 w hw
    .rcases aN.1 hw with rfl|hw
     .exact hal.1
     .exact q3 w hw
  .simp at hl
 |_=>intro l cs hl;simp[wB]at hl
theorem Gs:∀(tb:E6)(f:Nat)(vs:List V)(sp:fJ)(l:List V)(i:List Nat)(q:List (V×List Nat)),Bg h f vs tb=some (sp,l,i,q)->(f,sp)∈tb/\vF h sp.ps vs=some (l,i,q):=by
 intro tb;induction tb with
 |nil=>intro f vs sp l i q hf;simp[Bg]at hf
 |cons e tb ih=>
  obtain⟨g,Zw⟩:=e;intro f vs sp l i q hf;simp only[Bg]at hf;cases hg:(g==f)with
  |false=>rw[hg,cond_false]at hf;obtain⟨h2,h3⟩:=ih f vs sp l i q hf;exact⟨aF _ h2,h3⟩
  |true=>
   rw[hg,cond_true]at hf;obtain rfl:g=f:=by simpa using hg
   split at hf
   .rename_i l' i' q' ha;simp only[bM,Prod.mk.injEq]at hf;obtain⟨rfl,rfl,rfl,rfl⟩:=hf;exact⟨by simp,ha⟩
   .obtain ⟨h2,h3⟩:=ih g vs sp l i q hf;exact⟨aF _ h2,h3⟩
theorem DY:∀{l:List Nat},zo l=true->l.Nodup:=by intro l;induction l with|nil=>intro _;exact List.nodup_nil|cons a l ih=>intro hl;simp only[zo,ak,gg,List.contains_eq_mem,decide_eq_false_iff_not]at hl;exact List.nodup_cons.2 ⟨hl.1,ih hl.2⟩
theorem xO.bD:∀{q:List (V×List Nat)}{lent:List (C×List Nat×List Nat)},xO h n h1 q lent->
  (lent.flatMap (fun(p:C×List Nat×List Nat)=>p.2.1)).Sublist (q.flatMap (·.2))/\(∀j∈lent.flatMap (fun(p:C×List Nat×List Nat)=>p.2.2),j∈q.flatMap (·.2)):=by
 intro q;induction q with
 |nil=>rintro lent rfl;exact⟨bY _,fun j hj=>hj⟩
 |cons p q ih=>
  rintro lent ⟨x,m,rfl,hx,hm⟩;obtain⟨a,b⟩:=ih hm;simp only[bg];refine⟨hx.2.2.2.1.append a,fun j hj=>?_⟩;rcases ao.1 hj with hj|hj
  .exact aI _ (hx.2.2.2.2.2.1 j hj)
  .exact aG _ (b j hj)
theorem Fj(hr:HR n h1 h):∀{q:List (V×List Nat)}{lent:List (C×List Nat×List Nat)},xO h n h1 q lent->eY h1 lent=true:=by
 intro q;induction q with
 |nil=>rintro lent rfl;rfl
 |cons p q ih=>
  obtain⟨v,i⟩:=p;rintro lent ⟨⟨c,bD,rd⟩,m,rfl,hx,hm⟩;have hw:=ih hm;obtain⟨hc,_,_,_,_,_,_,hsh⟩:=hx;cases c with
  |cE sz id off len=>
   cases v with
   |so id'=>obtain⟨_,u,s,ver,ho⟩:=hsh;obtain⟨cc,e,hcc⟩:=hc;obtain rfl:=fN.1 e;have e2:=hcc.1 _ (mS (.inl ho));cases s with|nil=>simp[mT]at e2|mk l=>simp only[mT,C.cE.injEq]at e2;obtain⟨rfl,rfl,rfl,rfl⟩:=e2;exact V6 ((hr.ob _ _ ho).2.1.2.2 l rfl) hw
   |sr jd=>obtain⟨_,u,s,ho⟩:=hsh;obtain⟨cc,e,hcc⟩:=hc;obtain rfl:=fN.1 e;have e2:=hcc.1 _ (tH ho);cases s with|nil=>simp[mT]at e2|mk l=>simp only[mT,C.cE.injEq]at e2;obtain⟨rfl,rfl,rfl,rfl⟩:=e2;have hl:=(hr.ob _ _ ho).2.1.2.2 l rfl;simp only[eY,hl,fx,aM,beq_self_eq_true,gI,Bool.true_and];exact hw
   |nl k=>have:[C.cE sz id off len]=[DZ k]:=hc
          simp[DZ]at this
   |op a b2 e=>have:[C.cE sz id off len]=[C.op a (nw b2 e)]:=hc
               simp at this
   |_=>exact hsh.elim
  |_=>exact hw
end
section
variable{P:Program}{h1:bC}{β:Type}{s:S2}{k:V->S2->List Nat->Option β}{z:β}
def Y5(P:Program)(h1:bC)(kk:K)(xs:List TV)(s:S2)(k:V->S2->List Nat->Option β)(z:β):Prop:=∃v s' l,k v s' l=some z/\∃call:Call,kE P call/\∃x u az m,cC call kk (xs.map some) h1 s.next=some (x,u,az,m)/\rZ s s' h1 x u az m v l
theorem O5{b:Bool}{f:Nat}{caps:V}{xf:TV}{cs:List V}(hf:fZ s.heap (.fn b f caps) xf)(hk:fD s.next s.heap (.fn b f caps))(ha:iU s.heap (.fn b f caps)=true)(hc:wB caps=some cs):
  ∃cc,Mh (some xf)=some (f,cc)/\mR s.heap cs (cc.map TV.c)/\(∀w∈cs,fD s.next s.heap w)/\∀w∈cs,iU s.heap w=true:=by
 rcases Z3 hf with⟨rfl,ds,hd,rfl⟩|⟨rfl,xs,hd,rfl⟩
 .obtain ⟨a1,a2⟩:=z_ (h:=s.heap) caps ha;exact⟨ds.map .d,rfl,yB caps cs _ hc (MW caps ds hd) (a2 _) a1⟩
 .exact ⟨xs,rfl,yB caps cs _ hc hd hk ha⟩
theorem Dw{xs:List V}{vs:List TV}{g:H2}{m:Nat}(h:BJ g (fy xs) vs)(hk:∀x∈xs,fD m g x):fZ g (Q5 xs) (tL vs)/\fD m g (Q5 xs):=by
 have hrow:∀(l:List V),(∀x∈l,fD m g x)->fD m g (fy l):=by intro l;induction l with|nil=>intro _;trivial|cons a l ih=>intro hl;exact⟨hl a (by simp),ih fun x hx=>hl x (by simp[hx])⟩
 match xs with|[]=>obtain rfl:=h;exact⟨⟨[],rfl,rfl⟩,trivial⟩|[v]=>obtain⟨x,ys,rfl,h2,h3⟩:=h;obtain rfl:=h3;exact⟨cA h2,hk v (by simp)⟩|a::b::l=>obtain⟨x,ys,rfl,h2,h3⟩:=h;obtain⟨y,zs,rfl,h4,h5⟩:=h3;exact⟨⟨_,rfl,_,_,rfl,h2,_,_,rfl,h4,h5⟩,hrow _ hk⟩
theorem D6:∀(t:Ty)(v:El t),Ca t=true->∀d∈aS t v,∃y,d=.lit y:=by
 intro t;induction t with
 |pr a c iha ihc=>
  intro v h d hd;simp only[Ca,ak]at h;rcases ao.1 (show d∈aS a v.1++aS c v.2 from hd)with hd|hd
  .exact iha _ h.1 d hd
  .exact ihc _ h.2 d hd
 |st t ih=>intro v h d hd;exact ih v h d hd
 |ar n t ih=>intro v h d hd;obtain⟨a,_,ha⟩:=List.mem_flatMap.1 (show d∈v.1.flatMap (aS t)from hd);exact ih a h d ha
 |un=>intro v h d hd;exact absurd (show d∈[]from hd) (by simp)
 |i k=>intro v h d hd;exact⟨_,au.1 (show d∈[_]from hd)⟩
 |b=>intro v h d hd;exact⟨_,au.1 (show d∈[_]from hd)⟩
 |s=>intro v h d hd;exact⟨_,au.1 (show d∈[_]from hd)⟩
 |f k=>intro v h d hd;exact⟨_,au.1 (show d∈[_]from hd)⟩
 |_=>intro v h;simp[Ca]at h
theorem LA:∀(rs:List Sh)(l:List V)(s:S2)(xs:List V)(l':List V)(s':S2),Ja rs l s=some (xs,l',s')->rs.all RF=true->rs.all Tg=true->(jz rs l).all wZ=true:=by
 intro rs;induction rs with
 |nil=>intro l s xs l' s' _ _ _;rfl
 |cons c rs ih=>
  intro l s xs l' s' hm hl ho;simp only[gp,ak]at hl ho;simp only[Ja]at hm;split at hm
  .rename_i x l1 s1 hm1;split at hm
   .rename_i ys l2 s2 hm2;cases c with
    |x t=>
     have ho1:=ho.1
     match l with
     |.x u v::l=>
      have hm1':=hm1;simp only[qK]at hm1;obtain⟨hc,hm3⟩:=aO hm1;simp only[ak,decide_eq_true_eq]at hc;obtain⟨rfl,_⟩:=hc;obtain⟨rfl,e⟩:=af (aa hm3);obtain⟨rfl,rfl⟩:=af e;have hlit:=D6 u v hl.1;simp only[jz,l5,gp,ak];refine⟨?_,ih _ _ _ _ _ hm2 hl.2 ho.2⟩;cases hs:yb (.x u)with
      |true=>simp only[cond_true,wZ,a_];intro t ht;obtain⟨d,hd,rfl⟩:=bB.1 ht;obtain⟨y,rfl⟩:=hlit d hd;rfl
      |false=>
       have h2:zm (.x u)=true:=by simpa[Tg,hs]using ho1
       have hlen:=Ct hm1' h2;simp only[l5,aM]at hlen
       match he:aS u v,hlen with|[d],_=>obtain⟨y,rfl⟩:=hlit d (by rw[he];simp);rfl
     |[]|.kb _::_|.nl _::_|.so _::_|.sb _ _ _ _ _::_|.op _ _ _::_|.ep _ _ _ _::_|.pt _ _::_|.fn _ _ _::_|.om _::_|.rc _::_|.tp _::_|.ni::_|.co _ _::_|.fl _::_|.no::_|.gn::_=>simp[qK]at hm1
    |_=>simp[RF]at hl
   .simp at hm
  .simp at hm
theorem LB{t:Ty}(v:El (.sl t))(h:Ca t=true):FV (Q2 (ce t) (aS t) v)=true:=by cases v with|nil=>rfl|mk l=>show(l.map (aS t)).all _=true;rw[List.all_map,a_];intro x _;show(aS t x).all _=true;rw[a_];intro d hd;obtain⟨y,rfl⟩:=D6 t x h d hd;rfl
theorem LC{β:Type}{z:β}:∀(os:List Sh)(q:List (V×List Nat))(l:List V)(s:S2)(k:S2->Option β),eV os q l s k=some z->os.all RH=true->(lk os l).all FV=true:=by
 intro os;induction os with
 |nil=>intro q l s k _ _;rfl
 |cons c os ih=>
  intro q l s k hb ho;simp only[gp,ak]at ho;obtain⟨h1,h2⟩:=ho;cases c with
  |gn=>cases q with|nil=>simp[eV]at hb|cons p q=>simp only[eV]at hb;have:=ih _ _ _ _ hb h2;simp only[lk,l5,gp,bZ,this,j7];rfl
  |os t=>
   have hh:∀(u:Ty)(v:El (.sl u))(l:List V)(q':List (V×List Nat))(s':S2),(∃y,gC (.sl u) (.sl t) v=some y)->(hb:eV os q' l s' k=some z)->(lk (.os t::os) (.x (.sl u) v::l)).all FV=true:=by
    intro u v l q' s' ⟨y,hy⟩ hb2;obtain⟨e,_⟩:=dl hy;have e:u=t:=by injection e
    subst e;have:=ih _ _ _ _ hb2 h2;simp only[lk,l5,gp,bZ,this,j7];exact LB v h1
   cases q with
   |nil=>simp[eV]at hb
   |cons p q=>
    obtain⟨pv,pi⟩:=p;cases l with
    |nil=>cases pv<;>simp[eV]at hb
    |cons x l=>
     cases x with
     |x u v=>
      cases u with
      |sl u=>
       cases pv with
       |nl n=>
        cases n with
        |zero=>
         cases pi with
         |nil=>
          simp only[eV]at hb;split at hb
          .rename_i y hy;obtain⟨_,_,hb⟩:=qn hb;exact hh u v l q s ⟨y,hy⟩ hb
          .cases hb
         |cons _ _=>simp[eV]at hb
        |succ n=>simp[eV]at hb
       |so id=>
        simp only[eV]at hb;split at hb
        .rename_i w old ver y ho hy;split at hb
         .obtain ⟨_,_,hb⟩:=qn hb;exact hh u v l q _ ⟨y,hy⟩ hb
         .cases hb
        .cases hb
       |_=>simp[eV]at hb
      |_=>cases pv<;>simp[eV]at hb
     |_=>cases pv<;>simp[eV]at hb
  |_=>simp[RH]at h1
theorem GK{tb:E6}{ro:Bool}{kG:List Bool}{f:V}{vs:List V}{xf:TV}{xs:List TV}(htb:qj P tb)(hz:yt tb ro kG f vs s k=some z)(hr:HR s.next h1 s.heap)(hf:fZ s.heap f xf)(hfk:fD s.next s.heap f)(hfa:iU s.heap f=true)
  (hx:mR s.heap vs xs) (hk:∀w∈vs,fD s.next s.heap w) (ha:∀w∈vs,iU s.heap w=true):Y5 P h1 (.call ro kG) (xf::xs) s k z:=by
 cases f with
 |fn b fid caps=>
  simp only[yt]at hz;split at hz
  case h_2=>simp at hz
  rename_i sp pay j q hfs;split at hfs
  case h_2=>simp at hfs
  rename_i cs hcs;obtain⟨hmem,hargs⟩:=Gs tb fid _ sp pay j q hfs;obtain⟨hwy,hgood⟩:=htb _ hmem;simp only[Nz,ak]at hwy;obtain⟨⟨⟨w1,w2⟩,w3⟩,w4⟩:=hwy;obtain⟨hc,hz2⟩:=aO hz;simp only[ak,decide_eq_true_eq]at hc;obtain⟨⟨⟨c1,c2⟩,c3⟩,c4⟩:=hc;clear hz;split at hz2
  case h_2=>simp at hz2
  rename_i p hp;obtain⟨zz,hzz,hz3⟩:=qn hz2;obtain⟨rs,os,l,hm,hk3,hg⟩:=Ih sp.al zz hz3 (hgood p zz hzz);rw[qt _ _ _ hp]at hg;obtain⟨cc,hfn,d1,d2,d3⟩:=O5 hf hfk hfa hcs;rw[c2]at w1;obtain⟨az,lent,e1,e2,e3,e4⟩:=E1 hr sp.ps (vs++cs) kG pay j q (xs++cc.map TV.c) hargs (C_ hx d1) (fun w hw=>(ao.1 hw).elim (hk w) (d2 w)) (fun w hw=>(ao.1 hw).elim (ha w) (d3 w)) w1 w2;obtain⟨o1,o2⟩:=e4.bD;have hnd:=DY c3;have hap:∀i∈kT (fun(p:V×List Nat)=>p.2) q,i∉j:=fun i hi=>by simpa using a_.1 c4 i hi
  have hdec:decide ((lent.flatMap (fun(p:C×List Nat×List Nat)=>p.2.1)).Nodup/\(lent.flatMap (fun(p:C×List Nat×List Nat)=>p.2.1)).all (fun i=>!az.contains i)=true)=true:=by refine decide_eq_true ⟨o1.nodup hnd,a_.2 fun i hi=>?_⟩;have:=hap i (o1.subset hi);simpa using fun hm=>this (e2 i hm).1
  have hwl:=Fj hr e4;have hokR:rs.all Tg=true:=a_.1 w3 _ hm;cases ro with
  |true=>
   have hro:sp.ro=true:=by simpa using c1
   rw[hro]at w4;have w5:Ui sp=true:=by simpa using w4
   have v3:=a_.1 w5 _ hm;simp only[ak]at v3;simp only[cond_true]at hk3;obtain⟨s1,bu,b1,b2,b3⟩:=z6 hr os q lent _ s h1 _ hk3 e4 (am _) hr (jO.refl _ _) hnd;split at b1
   case h_2=>simp at b1
   rename_i ys l2 s2 hmk;obtain⟨m1,m2,m3,m4,m5⟩:=A8 rs _ s1 ys l2 s2 _ hmk b3.hr hokR;obtain⟨t1,t2⟩:=Dw m1 m2;have hlit:=LA rs _ s1 ys l2 s2 hmk v3.1 hokR;have hout:=LC os q _ s _ hk3 v3.2;refine⟨_,_,_,b1,only fid (fw sp.ps pay) (jz rs (l.take (ff rs).length)) (lk os (l.drop (ff rs).length)),Hx hg,?_⟩;have hld:=OQ (h:=h1) (az:=az) hlit hout b2;obtain⟨g1,g2⟩:=H7 (ro:=true) hfn (nR xs) e1 hwl hdec hld;refine⟨_,_,_,_,By g1 g2,?_⟩;obtain⟨W1,x1,x2,x3⟩:=b3.wo;obtain⟨W2,y1,y2,y3,y4⟩:=m3.wo;refine⟨t1,t2,?_,b3.eU.trans b3.le m3.eU,by rw[m3.dE,b3.dE],by rw[m3.gh,b3.gh],by omega,by have:=b3.le;have:=m3.le;omega,fun i hi=>?_,fun i hi h=>(by rw[y4 i fun q=>by have:=(y3 i q).1;have:=b3.le;omega];exact b3.nb i hi h),W2++W1,by rw[y1,x1];simp only[aR],fun p hp=>?_,fun i hi=>?_⟩
   .have:=m3.hr;simpa only[aR]using this
   .rcases ao.1 hi with hi|hi
    .exact aI _ (e2 i hi).1
    .exact aG _ (o2 i hi)
   .simp only[ao]at hp|-;rcases hp with hp|hp
    .exact .inl (y2 p hp)
    .exact .inr (x2 p hp)
   .simp only[ao,not_or]at hi;rw[y4 i hi.1,x3 i hi.2]
  |false=>
   simp only[cond_false]at hk3;split at hk3
   case h_2=>simp at hk3
   rename_i s0 hs0;obtain⟨fu,f1,f2,f3,f4,f5,f6,f7,f8,f9⟩:=Cl (s0:=s) rfl hr j s0 az az hs0 e2 e3;obtain⟨s1,bu,b1,b2,b3⟩:=z6 hr os q lent _ s0 (fu++h1) _ hk3 e4 (by omega) (by rw[f6];exact f2) f3 hnd;split at b1
   case h_2=>simp at b1
   rename_i ys l2 s2 hmk;obtain⟨m1,m2,m3,m4,m5⟩:=A8 rs _ s1 ys l2 s2 _ hmk b3.hr hokR;obtain⟨t1,t2⟩:=Dw m1 m2;rw[f6]at b2;refine⟨_,_,_,b1,only fid (fw sp.ps pay) (jz rs (l.take (ff rs).length)) (lk os (l.drop (ff rs).length)),Hx hg,?_⟩;have hld:=YB (rs:=jz rs (l.take (ff rs).length)) f1 b2;obtain⟨g1,g2⟩:=H7 (ro:=false) hfn (nR xs) e1 hwl hdec hld;refine⟨_,_,_,_,By g1 g2,?_⟩;obtain⟨W1,x1,x2,x3⟩:=b3.wo;obtain⟨W2,y1,y2,y3,y4⟩:=m3.wo;refine⟨t1,t2,?_,(f3.trans (Nat.le_of_eq f6.symm) b3.eU).trans (by have:=b3.le;omega) m3.eU,by rw[m3.dE,b3.dE,f4],by rw[m3.gh,b3.gh,f5],by omega,by have:=b3.le;have:=m3.le;omega,fun i hi=>?_,fun i hi h=>(by rw[y4 i fun q=>by have:=(y3 i q).1;have:=b3.le;omega];exact b3.nb i (by omega) ((f9 i fun q=>Gn rfl hs0 i q h).trans h)),W2++W1++j,by rw[y1,x1,f7];simp only[aR],fun p hp=>?_,fun i hi=>?_⟩
   .have:=m3.hr;simpa only[aR]using this
   .rcases ao.1 hi with hi|hi
    .exact aI _ (e2 i hi).1
    .exact aG _ (o2 i hi)
   .simp only[aR,ao]at hp|-;rcases hp with hp|hp|hp
    .exact .inl (y2 p hp)
    .exact .inr (.inl (x2 p hp))
    .exact .inr (.inr (f8 p hp))
   .simp only[aR,ao,not_or]at hi;rw[y4 i hi.1,x3 i hi.2.1,f9 i hi.2.2]
 |_=>simp[yt]at hz
end
def mJ:Prop:=∀g v,R6 g=some v->∃d,Vv g=some d/\∀h n,fZ h v (.c (.d d))/\fD n h v/\iU h v=true
theorem wq{n:Nat}{h h':H2}(hs:jO n h h')(hnb:∀i,i<n->fO h i=none->fO h' i=none):∀{v:V},fD n h v->iU h' v=true->iU h v=true:=by
 have key:∀id,id<n->(match fO h' id with|some _=>true|none=>false)=true->(match fO h id with|some _=>true|none=>false)=true:=by intro id hid ha;cases ho:fO h id with|some _=>rfl|none=>rw[hnb id hid ho]at ha;simp at ha
 intro v;induction v with
 |so id=>
  intro hk ha;have hk:id<n:=hk;simp only[iU]at ha|-;split at ha
  .rename_i t s v ho;obtain⟨s0,v0,h1,_⟩:=uo hs hk (.inl ho);rcases h1 with h1|h1<;>rw[h1]
  .rename_i t s v ho;obtain⟨s0,v0,h1,_⟩:=uo hs hk (.inr ho);rcases h1 with h1|h1<;>rw[h1]
  .simp at ha
 |sr id=>
  intro hk ha;have hk:id<n:=hk;simp only[iU]at ha|-;split at ha
  .rename_i t s ln ho;obtain⟨s0,ln0,h1,_⟩:=Hi hs hk ho;rw[h1]
  .simp at ha
 |sb id ver lo t r=>
  rintro⟨hid,hk⟩ ha;obtain⟨hd,ha⟩:=dm.1 ha;have ha:Aa h' id ver=true:=ha;obtain⟨u,s,ho⟩:=l9 ha;obtain⟨s0,v0,h3,h4,_,_⟩:=uo hs hid ho;obtain⟨h7,_⟩:=hk u s0 v0 h3;have:v0=ver:=by omega
  subst this;refine dm.2 ⟨hd,?_⟩;rcases h3 with h3|h3<;>rw[h3]<;>simp
 |op id t p=>rintro⟨hid,_⟩ ha;exact key id hid ha
 |ep id m t p=>rintro⟨hid,_⟩ ha;exact key id hid ha
 |om id=>intro hid ha;exact key id hid ha
 |fn z f l ih=>intro hk ha;cases z with|true=>exact ha|false=>exact ih hk ha
 |rc l ih=>intro hk ha;exact ih hk ha
 |tp l ih=>intro hk ha;exact ih hk ha
 |co a r iha ihr=>rintro⟨h1,h2⟩ ha;simp only[iU,ak]at ha|-;exact⟨iha h1 ha.1,ihr h2 ha.2⟩
 |_=>intro _ ha;exact ha
def Kg(h:H2):V->List C->Prop
 |.ni,cs=>cs=[]
 |.co a r,cs=>∃c m,cs=c::m/\(iU h a=true->fG h a [c])/\Kg h r m
 |_,_=>False
theorem Ei{n:Nat}{h h':H2}(hs:jO n h h')(hnb:∀i,i<n->fO h i=none->fO h' i=none):∀{v:V}{cs:List C},fD n h v->Kg h v cs->Kg h' v cs:=by intro v;induction v with|co a r _ ihr=>rintro cs ⟨h1,h2⟩ ⟨c,m,rfl,h3,h4⟩;exact⟨c,m,rfl,fun ha=>lZ hs h1 (h3 (wq hs hnb h1 ha)),ihr h2 h4⟩|ni=>intro cs _ h;exact h|_=>intro cs _ h;exact h.elim
structure R2(s1:St)(s:S2):Prop where
 dE:∀t v,cm s.dE t=some v->fD s.next s.heap v/\(iU s.heap v=true\/v=.no->∃x,cm s1.dE t=some x/\fZ s.heap v x)
 hr:HR s.next s1.heap s.heap
 next:s1.next<=s.next
 gh:Kg s.heap s.gh s1.gh/\fD s.next s.heap s.gh
theorem KY{v:Value}(hp:ft v=true)(ha:∀cs,v≠.agg cs):cv v=some (.c (.d (.lit v))):=by
 unfold cv;split
 .rename_i cs;exact absurd rfl (ha cs)
 .rw [if_pos hp]
theorem H4{c:Value}{v:V}(hc:V3 c=some v)(h:H2)(n:Nat):∃x,cv c=some x/\fZ h v x/\fD n h v/\iU h v=true:=by
 unfold V3 at hc;split at hc
 case h_10=>
  rename_i cs;split at hc
  .rename_i hp;obtain rfl:=aa hc;refine⟨.agg (cs.toList.map fun v=>.d (.lit v)),by simp only[cv];rw[if_pos hp],cA (yF rfl ⟨hp,rfl⟩),trivial,hp⟩
  .simp at hc
 case h_11=>simp at hc
 all_goals
  obtain rfl:=aa hc;exact⟨_,KY rfl (fun cs e=>by cases e),cA (eD rfl (by first|rfl|exact⟨rfl,rfl⟩)),trivial,rfl⟩
theorem oQ(hg:mJ){s1:St}{s:S2}(hr:R2 s1 s){o:Operand}{v:V}(ho:Ke s.dE s.heap o=some v):∃x,ke s1.dE o=some x/\fZ s.heap v x/\fD s.next s.heap v/\iU s.heap v=true:=by
 cases o with
 |tmp t=>
  simp only[Ke]at ho;split at ho
  .rename_i w hw;obtain⟨ha,ho⟩:=aO ho;obtain rfl:=aa ho;obtain⟨h3,h4⟩:=hr.dE t w hw;obtain⟨x,h1,h2⟩:=h4 (.inl ha);exact⟨x,h1,h2,h3,ha⟩
  .simp at ho
 |const c=>exact H4 ho _ _
 |global g=>obtain⟨d,h1,h2⟩:=hg g v ho;exact⟨_,by simp only[ke,h1,Option.map_some],h2 _ _⟩
 |func f=>obtain rfl:=aa ho;exact⟨_,rfl,cA (eD rfl ⟨[],rfl,rfl⟩),trivial,rfl⟩
structure sV(s1:St)(s:S2)(q:Rg):Prop where
 r:R2 s1 s
 kn:∀g b,RQ q.kn g=some b->cm s1.dE g=some (tB b)
 cd:∀t g b v,cm q.cd t=some (g,b,v)->∃c,cm s1.dE g=some (tB c)/\(c=b->∃x,cm s1.dE t=some x/\fZ s.heap v x/\fD s.next s.heap v)
theorem QY{a b:Bool}(h:tB a=tB b):a=b:=by simpa[tB]using h
theorem vY(hg:mJ){s1:St}{s:S2}{q:Rg}(hr:sV s1 s q){gc:Option (Nat×Bool)}(hgc:∀g b,gc=some (g,b)->cm s1.dE g=some (tB b)){o:Operand}{v:V}(ho:Kf s q gc o=some v):
  ∃x,ke s1.dE o=some x/\fZ s.heap v x/\fD s.next s.heap v/\iU s.heap v=true:=by
 cases o with
 |tmp t=>
  simp only[Kf]at ho;split at ho
  .rename_i g b w hw;obtain⟨hc,ho⟩:=aO ho;obtain⟨ha,ho⟩:=aO ho;obtain rfl:=aa ho;obtain⟨c,h1,h2⟩:=hr.cd t g b w hw
   have hb:cm s1.dE g=some (tB b):=by
    simp only[gu,decide_eq_true_eq]at hc;rcases hc with hc|hc
    .exact hgc g b hc
    .exact hr.kn g b hc
   rw[h1]at hb;obtain⟨x,h3,h4,h5⟩:=h2 (QY (aa hb));exact⟨x,h3,h4,h5,ha⟩
  .exact oQ hg hr.r ho
 |const c=>exact oQ hg hr.r ho
 |global g=>exact oQ hg hr.r ho
 |func f=>exact oQ hg hr.r ho
theorem A3(hg:mJ){s1:St}{s:S2}{q:Rg}(hr:sV s1 s q){gc:Option (Nat×Bool)}(hgc:∀g b,gc=some (g,b)->cm s1.dE g=some (tB b)):∀(os:List Operand)(vs:List V),F0 s q gc os=some vs->
  ∃xs,os.map (ke s1.dE)=xs.map some/\mR s.heap vs xs/\(∀w∈vs,fD s.next s.heap w)/\∀w∈vs,iU s.heap w=true:=by
 intro os;induction os with
 |nil=>intro vs ho;obtain rfl:=aa ho;exact⟨[],rfl,trivial,fun w hw=>by simp at hw,fun w hw=>by simp at hw⟩
 |cons o os ih=>
  intro vs ho;simp only[F0]at ho;split at ho
  .rename_i v l hv hl;obtain rfl:=aa ho;obtain⟨x,h1,h2,h3,h4⟩:=vY hg hr hgc hv;obtain⟨xs,g1,g2,g3,g4⟩:=ih l hl;refine⟨x::xs,by simp[h1,g1],⟨h2,g2⟩,fun w hw=>?_,fun w hw=>?_⟩
   .rcases aN.1 hw with rfl|hw
    .exact h3
    .exact g3 w hw
   .rcases aN.1 hw with rfl|hw
    .exact h4
    .exact g4 w hw
  .simp at ho
theorem MJ{h:H2}{t:Ty}{w:V}{b:El t}{x:TV}(hd:kQ t=true)(hx:fZ h w x)(hc:sd t w=some b):fZ h (.x t b) x:=by obtain⟨cs,h1,h2,h3⟩:=pn (Qx hc) hx;have e:=js w false t b cs hc h1;have ha:=xj hc;exact cA ⟨cs,⟨hd,e⟩,fun q=>h2 (ha.trans q),fun q=>h3 (ha.trans q)⟩
theorem D2{h:H2}{c:Bool}{a b v:V}{x:TV}(hm:YA c a b=some v)(ha:iU h a=true)(hb:iU h b=true)(h1:c=true->fZ h a x)(h2:c=false->fZ h b x):fZ h v x/\∀n,fD n h v:=by
 unfold YA at hm;split at hm
 .rename_i p q;obtain rfl:=aa hm;refine⟨?_,fun _=>trivial⟩;cases c with|true=>rw[wG (h1 rfl)];exact xb _|false=>rw[wG (h2 rfl)];exact xb _
 .rename_i t p w;split at hm
  .rename_i y hy;obtain rfl:=aa hm;refine⟨?_,fun _=>trivial⟩;cases c with|true=>exact h1 rfl|false=>exact MJ ha (h2 rfl) hy
  .simp at hm
 .rename_i t p w;split at hm
  .rename_i y hy;obtain rfl:=aa hm;refine⟨?_,fun _=>trivial⟩;cases c with|true=>exact MJ hb (h1 rfl) hy|false=>exact h2 rfl
  .simp at hm
 .simp at hm
theorem yj(hg:mJ){e:List (Nat×V)}{h:H2}{o:Operand}{v:V}(ho:Ke e h o=some v):iU h v=true:=by
 cases o with
 |tmp t=>
  simp only[Ke]at ho;split at ho
  .obtain ⟨ha,ho⟩:=aO ho;obtain rfl:=aa ho;exact ha
  .simp at ho
 |const c=>obtain⟨_,_,_,_,ha⟩:=H4 ho h 0;exact ha
 |global g=>obtain⟨d,_,h2⟩:=hg g v ho;exact(h2 h 0).2.2
 |func f=>obtain rfl:=aa ho;rfl
theorem Hw(hg:mJ){s:S2}{q:Rg}{gc:Option (Nat×Bool)}{o:Operand}{v:V}(ho:Kf s q gc o=some v):iU s.heap v=true:=by
 cases o with
 |tmp t=>
  simp only[Kf]at ho;split at ho
  .obtain ⟨hc,ho⟩:=aO ho;obtain⟨ha,ho⟩:=aO ho;obtain rfl:=aa ho;exact ha
  .exact yj hg ho
 |const c=>exact yj (e:=s.dE) (o:=.const c) hg ho
 |global g=>exact yj (e:=s.dE) (o:=.global g) hg ho
 |func f=>exact yj (e:=s.dE) (o:=.func f) hg ho
theorem IM(hg:mJ){s1:St}{s:S2}{q:Rg}(hr:sV s1 s q){gc:Option (Nat×Bool)}(hgc:∀g b,gc=some (g,b)->cm s1.dE g=some (tB b)){os:List Operand}{v:V}(hp:K1 s q gc os=some v)(c:Call)(H:bC)(nx:Nat):
  ∃x,cC c .pick (os.map (ke s1.dE)) H nx=some (x,[],[],nx)/\fZ s.heap v x/\fD s.next s.heap v:=by
 have one:∀(g a b:Operand)(t:Bool)(w:V),ke s1.dE g=some (tB t)->Kf s q gc (bif t then a else b)=some w->∃x,cC c .pick ([g,a,b].map (ke s1.dE)) H nx=some (x,[],[],nx)/\fZ s.heap w x/\fD s.next s.heap w:=by intro g a b t w h1 h2;obtain⟨x,h3,h4,h5,_⟩:=vY hg hr hgc h2;refine⟨x,?_,h4,h5⟩;simp only[aq,aW,h1];cases t with|true=>simp only[cond_true]at h3;rw[h3];rfl|false=>simp only[cond_false]at h3;rw[h3];rfl
 unfold K1 at hp;split at hp
 .rename_i g a b;split at hp
  .rename_i _ _ t hk;exact one _ a b t v (hr.kn g t hk) hp
  .rename_i t hk he;obtain⟨x,h1,h2⟩:=(hr.r.dE g _ he).2 (.inl rfl);rw[wG h2]at h1;exact one _ a b t v h1 hp
  .rename_i t hk he;obtain⟨x,h1,h2⟩:=(hr.r.dE g _ he).2 (.inl rfl)
   .rw [G7 h2]at h1;split at hp
    .rename_i x y hx hy;have ax:=Hw hg hx;have ay:=Hw hg hy;cases t with|true=>obtain⟨z,g1,g2,_⟩:=vY hg hr (gc:=some (g,true)) (fun g' b' e=>by cases e;exact h1) hx;obtain⟨m1,m2⟩:=D2 hp ax ay (fun _=>g2) (fun e=>by cases e);refine⟨z,?_,m1,m2 _⟩;have h1':ke s1.dE (.tmp g)=some (tB true):=h1;simp only[aq,aW,h1',g1];rfl|false=>obtain⟨z,g1,g2,_⟩:=vY hg hr (gc:=some (g,false)) (fun g' b' e=>by cases e;exact h1) hy;obtain⟨m1,m2⟩:=D2 hp ax ay (fun e=>by cases e) (fun _=>g2);refine⟨z,?_,m1,m2 _⟩;have h1':ke s1.dE (.tmp g)=some (tB false):=h1;simp only[aq,aW,h1',g1];rfl
    .simp at hp
  .simp at hp
 .rename_i t a b;exact one _ a b t v rfl hp
 .simp at hp
theorem IL{s:S2}{q:Rg}{gc:Option (Nat×Bool)}{os:List Operand}{vs:List V}(ho:F0 s q gc os=some vs)(hp:Oj os=true):∀a k b,vs=[a,.x (.i k) b]->0<b:=by
 intro a k b e;subst e
 match os with
 |[o,.const (.int k' m)]=>
  simp only[Oj,decide_eq_true_eq]at hp;simp only[F0,Kf,Ke,V3]at ho;split at ho
  .rename_i v l hv hl;simp only[bM]at hl;subst hl;simp only[bM,List.cons.injEq,and_true]at ho;obtain⟨_,e⟩:=ho;cases e;exact hp
  .simp at ho
theorem AR(hg:mJ){s1:St}{s:S2}{q:Rg}(hr:sV s1 s q){gc:Option (Nat×Bool)}(hgc:∀g b,gc=some (g,b)->cm s1.dE g=some (tB b)){o:OP}{v:V}{l:List Nat}(ht:NN o s q gc=some (v,l))(c:Call)(nx:Nat):
  ∃x az,cC c o.o.k (o.o.args.map (ke s1.dE)) s1.heap nx=some (x,[],az,nx)/\fZ s.heap v x/\fD s.next s.heap v/\∀i∈az,i∈l:=by
 unfold NN at ht;cases hpk:Gk o.o.k with
 |true=>
  rw[hpk,cond_true]at ht;split at ht
  .rename_i w hw;obtain⟨rfl,rfl⟩:=af (aa ht);obtain⟨x,h1,h2,h3⟩:=IM hg hr hgc hw c s1.heap nx;have hk:o.o.k=.pick:=by revert hpk;cases o.o.k<;>simp[Gk]
   rw[hk];exact⟨x,[],h1,h2,h3,fun i hi=>by simp at hi⟩
  .simp at ht
 |false=>
  rw[hpk,cond_false]at ht;split at ht
  .rename_i vs hvs;obtain⟨xs,h1,h2,h3,h4⟩:=A3 hg hr hgc _ _ hvs;rw[h1];exact In hr.r.hr ht h2 h3 h4 (fun hp=>IL hvs hp) c nx
  .simp at ht
theorem Mn{P:Program}{β:Type}{tb:E6}(htb:qj P tb)(hg:mJ){s1:St}{s:S2}{q:Rg}(hr:sV s1 s q){gc:Option (Nat×Bool)}(hgc:∀g b,gc=some (g,b)->cm s1.dE g=some (tB b)){o:OP}{k:V->S2->List Nat->Option β}{z:β}
  (hz:V2 tb o s q gc k=some z):∃v s' l,k v s' l=some z/\∃call:Call,kE P call/\∃x u az m,cC call o.o.k (o.o.args.map (ke s1.dE)) s1.heap s.next=some (x,u,az,m)/\rZ s s' s1.heap x u az m v l:=by
 unfold V2 at hz;split at hz
 .rename_i v l ht;obtain⟨x,az,h1,h2,h3,h4⟩:=AR hg hr hgc ht dF s.next;exact⟨v,s,l,hz,dF,lV,x,[],az,s.next,h1,rZ.pure hr.r.hr h2 h3 h4⟩
 .split at hz
  .rename_i vs hvs;obtain⟨xs,h1,h2,h3,h4⟩:=A3 hg hr hgc _ _ hvs;rw[h1];split at hz
   .rename_i ro kG f vs' hk;obtain⟨y,ys,rfl,h5,h6⟩:=gA h2;obtain⟨v,s',l,e1,call,e2,x,u,az,m,e3,e4⟩:=GK (P:=P) htb hz hr.r.hr h5 (h3 _ (by simp)) (h4 _ (by simp)) h6 (fun w hw=>h3 w (by simp[hw])) (fun w hw=>h4 w (by simp[hw]));rw[hk];exact⟨v,s',l,e1,call,e2,x,u,az,m,e3,e4⟩
   .obtain ⟨v,s',l,e1,e2⟩:=FX hz hr.r.hr h2 h3 h4;obtain⟨x,u,az,m,e3,e4⟩:=e2 dF;exact⟨v,s',l,e1,dF,lV,x,u,az,m,e3,e4⟩
  .simp at hz
end Go.Ev
