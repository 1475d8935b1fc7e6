/- Calls: the arguments, as they are laid. Conditions: as stated. -/
import Derived.Test.YthcplpfiidlinaaDoorFq
open Bool renaming and_eq_true->ai,and_eq_true_iff->dp,not_eq_true'->du,or_eq_true->cM
open List renaming all_cons->iN,all_eq_true->bd,append_assoc->aJ,append_nil->bC,cons_append->aU,drop_zero->cT,flatMap->ky,flatMap_cons->bk,headD_cons->bX,length_map->aO,map_cons->aD,map_nil->aW,mem_append->ap,mem_append_left->aE,mem_append_right->aG,mem_cons->aN,mem_cons_of_mem->aC,mem_map->cj,mem_singleton->ao,nil_sublist->kf,nodup_append->bZ,nodup_nil->fY,singleton_append->aZ,singleton_inj->fC
open List.Sublist renaming refl->bM
open Nat renaming le_refl->au,le_succ->bH,lt_succ_self->aY,zero_le->cG
open Option.some renaming inj->aa,injEq->bn
open Prod.mk renaming inj->ad
namespace Go.Ev
def Pu(k:Nat):D:=match DN k with|.d x=>x|_=>default
theorem Qx(k:Nat):DN k=.d (Pu k):=rfl
def qZ:Sh->List V->List D×List V
 |.x _,.x u v::l=>(aS u v,l)
 |.pt _,.x u v::l=>([.pt (aS u v)],l)
 |.nl k,l=>([Pu k],l)
 |.fn f c,l=>([.fn f (qZ c l).1],(qZ c l).2)
 |.pr a c,l=>((qZ a l).1++(qZ c (qZ a l).2).1,(qZ c (qZ a l).2).2)
 |_,l=>([],l)
def IB(t:Ty):Sl (El t)->Option (List (List D))
 |.nil=>none
 |.mk l=>some (l.map (aS t))
def ym(t:Ty):Sl (Sl (El t))->T
 |.nil=>.d (.lit (.slice none 0 0))
 |.mk l=>.zU (bA t) (l.map (IB t))
theorem Iu{t:Ty}(l:List (Sl (El t))):uF (l.map (oY t))=some (l.map (IB t)):=by induction l with|nil=>rfl|cons s l ih=>simp only[aD,uF,ih];cases s<;>rfl
theorem yo{t:Ty}(l:List (Sl (El t))):(l.map (IB t)).map mZ=l.map (oY t):=by rw[List.map_map];exact List.map_congr_left fun s _=>by cases s<;>rfl
def fI:Sh->List V->List T×List V
 |.x _,.x u v::l=>((aS u v).map .d,l)
 |.os _,.x (.sl u) v::l=>([z_ (bA u) (aS u) v],l)
 |.rw _,.x (.sl (.sl u)) v::l=>([ym u v],l)
 |.pb _ c,l=>([.pt (fI c l).1],(fI c l).2)
 |.nl k,l=>([.d (Pu k)],l)
 |.st c,l=>fI c l
 |.pr a c,l=>((fI a l).1++(fI c (fI a l).2).1,(fI c (fI a l).2).2)
 |.gn,l=>([.uS],l)
 |_,l=>([],l)
def xH:Sh->Bool
 |.x t=>nA t
 |.st _=>true
 |_=>false
def gY:List (Bool×Sh)->List V->List A
 |[],_=>[]
 |(true,c)::r,l=>.mt ((fI c l).1.headD default)::gY r (fI c l).2
 |(false,c)::r,l=>(bif xH c then .agg (qZ c l).1 else .d ((qZ c l).1.headD default))::gY r (qZ c l).2
def mQ:List Sh->List V->List R
 |[],_=>[]
 |c::r,l=>(bif xH c then .agg (fI c l).1 else .c ((fI c l).1.headD default))::mQ r (fI c l).2
def lr:List Sh->List V->List T
 |[],_=>[]
 |c::r,l=>(fI c l).1.headD default::lr r (fI c l).2
def wF:Sh->Nat
 |.x t=>bA t+1
 |.pt t=>bA t+3
 |.fn _ c=>wF c+2
 |.pr a c=>wF a+wF c
 |.ni=>0
 |_=>1
section
variable{h:H2}{n:Nat}{h1:bF}
def Bg:C->Prop
 |.d _|.fy _ _ _ _=>True
 |_=>False
theorem E6{c:C}(hc:Bg c)(k j:Nat):ed h1 k c=ed h1 j c:=by cases c with|d x=>rw[qa,qa]|fy a b e f=>cases k<;>cases j<;>simp only[ed]|_=>exact hc.elim
theorem xZ:∀{cs:List C}{ds:List D}{aA:List Nat}{k:Nat},(∀c∈cs,Bg c)->dW h1 cs=some (ds,aA)->cs.length<k->f_ h1 k cs=some (ds,aA):=by
 intro cs;induction cs with
 |nil=>intro ds aA k _ h _;simp only[dW]at h;rw[<-h];cases k<;>rfl
 |cons c cs ih=>
  intro ds aA k hf h hk;cases k with
  |zero=>simp at hk
  |succ k=>
   simp only[dW]at h;split at h
   .rename_i x a xs b hx hxs;simp only[f_];rw[E6 (hf c (by simp)) k 300,hx,ih (fun c hc=>hf c (by simp[hc])) hxs (by simpa using hk)];exact h
   .simp at h
theorem BI:∀{x y:List C}{dx dy:List D}{ix iy:List Nat}{k:Nat},f_ h1 k x=some (dx,ix)->f_ h1 (k-x.length) y=some (dy,iy)->x.length<=k->f_ h1 k (x++y)=some (dx++dy,ix++iy):=by
 intro x;induction x with
 |nil=>
  intro y dx dy ix iy k hx hy _;have:f_ h1 k []=some ([],[]):=by cases k<;>rfl
  rw[this]at hx;obtain⟨rfl,rfl⟩:=ad (aa hx);simpa using hy
 |cons c x ih=>
  intro y dx dy ix iy k hx hy hk;cases k with
  |zero=>simp at hk
  |succ k=>
   simp only[f_]at hx;split at hx
   .rename_i p a q b hp hq;obtain⟨rfl,rfl⟩:=ad (aa hx);simp only[aU,f_,hp];rw[ih hq (by simpa using hy) (by simpa using hk)];simp
   .simp at hx
theorem Ei{α:Type}{sz id:Nat}{enc:α->List D}{s:Sl α}:Bg (mB sz enc id s):=by cases s<;>trivial
theorem Ml{id lo:Nat}{t:Ty}{r:Sl (El t)}:Bg (yr id lo t r):=by cases r<;>trivial
theorem Ee:∀(v w:V)(l:List Nat)(cs:List C),jm h v=some (w,l)->fm h v cs->iz h v=true->∀c∈cs,Bg c:=by
 have fl:∀(ds:List D),∀c∈ds.map C.d,Bg c:=fun ds c hc=>by obtain⟨d,_,rfl⟩:=cj.1 hc;trivial
 intro v;induction v with
 |so id=>
  intro w l cs hf hv _ c hc;simp only[jm]at hf;split at hf
  .rename_i t s l' hs;obtain⟨ver,ho,_⟩:=uG hs;obtain⟨c',rfl,hc'⟩:=hv;obtain rfl:=ao.1 hc;rw[hc'.1 _ (mA ho)];exact Ei
  .simp at hf
 |sr id=>
  intro w l cs hf hv _ c hc;simp only[jm]at hf;split at hf
  .rename_i t s ho;obtain⟨c',rfl,hc'⟩:=hv;obtain rfl:=ao.1 hc;rw[hc'.1 _ (sL ho)];exact Ei
  .simp at hf
 |sb id ver lo t r=>intro w l cs hf hv ha c hc;obtain⟨c',rfl,hc'⟩:=hv;obtain rfl:=ao.1 hc;rw[hc'.1 (dp.1 ha).2];exact Ml
 |rc r ih=>
  intro w l cs hf hv ha;simp only[jm]at hf;split at hf
  .rename_i w' l' hw;exact ih w' l' cs hw hv ha
  .simp at hf
 |co a r iha ihr=>
  intro w l cs hf hv ha c hc;simp only[jm]at hf;split at hf
  .rename_i x l1 y l2 hx hy;obtain⟨ca,cr,rfl,h2,h3⟩:=hv;simp only[iz,ai]at ha;rcases ap.1 hc with hc|hc
   .exact iha x l1 ca hx h2 ha.1 c hc
   .exact ihr y l2 cr hy h3 ha.2 c hc
  .simp at hf
 |x t v=>intro w l cs hf hv _;obtain⟨_,rfl⟩:=hv;exact fl _
 |kb c=>intro w l cs hf hv _;obtain rfl:=hv;exact fl [_]
 |nl k=>intro w l cs hf hv _;obtain rfl:=hv;exact fl [_]
 |fl q=>intro w l cs hf hv _;obtain⟨_,rfl⟩:=hv;rw[B8];exact fl _
 |ni=>intro w l cs hf hv _;obtain rfl:=hv;exact fl []
 |pt t v=>intro w l cs hf hv _;obtain⟨_,rfl⟩:=hv;exact fl [_]
 |fn z f q ih=>intro w l cs hf hv _;cases z with|true=>obtain⟨ds,_,rfl⟩:=hv;exact fl [_]|false=>simp[jm]at hf
 |_=>intro w l cs hf hv;simp[jm]at hf
theorem MV:∀(v:V)(ds:List D),qG v=some ds->fm h v (ds.map .d):=by
 intro v;induction v with
 |co a r iha ihr=>
  intro ds hd;simp only[qG]at hd;split at hd
  .rename_i x y hx hy;obtain rfl:=aa hd;exact⟨_,_,by simp,iha x hx,ihr y hy⟩
  .simp at hd
 |pt t v=>
  intro ds hd;simp only[qG]at hd;split at hd
  .rename_i ht;obtain rfl:=aa hd;exact⟨ht,rfl⟩
  .simp at hd
 |ni=>intro ds hd;obtain rfl:[]=ds:=by simpa[qG]using hd
      rfl
 |_=>intro ds hd;simp[qG]at hd
theorem zP:∀(v:V),CF v=true->iz h v=true/\∀n,fg n h v:=by intro v;induction v with|co a r iha ihr=>intro hv;simp only[CF,ai]at hv;exact⟨by simp only[iz,(iha hv.1).1,(ihr hv.2).1,Bool.and_self],fun n=>⟨(iha hv.1).2 n,(ihr hv.2).2 n⟩⟩|pt t v=>intro hv;exact⟨hv,fun _=>trivial⟩|ni=>intro _;exact⟨rfl,fun _=>trivial⟩|_=>intro hv;simp[CF]at hv
theorem J5(hr:HR n h1 h):∀(c:Sh)(v:V)(l:List V)(i:List Nat)(cs:List C),oU h c v=some (l,i)->fm h v cs->fg n h v->iz h v=true->
  ∃ds aA,(∀k,wF c<=k->f_ h1 k cs=some (ds,aA))/\(∀r,qZ c (l++r)=(ds,r))/\(∀j∈aA,j∈i/\¬mU h j)/\(∀j∈i,j∈aA\/mU h j)/\cs.length<=wF c:=by
 intro c;induction c with
 |x t=>
  intro v l i cs ha hv hk hal;simp only[oU]at ha;split at ha
  .rename_i w l' hw;split at ha
   .rename_i y hy;obtain⟨rfl,rfl⟩:=ad (aa ha);obtain⟨ds,aA,f1,f2,f3,f4,_⟩:=s_ hr v w l' cs hw hv hk hal;have e3:=pF (iZ w false t y _ hy f2);subst e3;have hl:cs.length=bA t:=by rw[<-uA f1,bJ]
    exact⟨_,aA,fun k hk=>xZ (Ee v w l' cs hw hv hal) f1 (by simp only[wF]at hk;omega),fun r=>rfl,f3,f4,by simp only[wF];omega⟩
   .simp at ha
  .simp at ha
 |pt t=>
  intro v l i cs ha hv hk hal;cases v with
  |pt u v=>
   simp only[oU]at ha;split at ha
   .rename_i y hy;obtain⟨rfl,rfl⟩:=ad (aa ha);obtain⟨e,_⟩:=wQ hy;obtain⟨_,rfl⟩:=hv;refine⟨[.pt (aS t y)],[],fun k hk=>?_,fun r=>rfl,fun j hj=>by simp at hj,fun j hj=>by simp at hj,by simp[wF]⟩;rw[<-e];exact xL (h1:=h1) [.pt (aS t y)] k (by simp only[wF]at hk;simp;omega)
   .simp at ha
  |op id u p=>
   cases p with
   |cons=>simp[oU]at ha
   |nil=>
    obtain rfl:=hv;have e0:mX u []=0:=by cases u<;>rfl
    rw[e0];simp only[oU]at ha;split at ha
    .rename_i w c ho;obtain⟨hc,ha⟩:=aP ha;simp only[ai,decide_eq_true_eq]at hc;split at ha
     .rename_i c' l' hw;split at ha
      .rename_i y hy;obtain⟨rfl,rfl⟩:=ad (aa ha);obtain⟨_,⟨cb,e1,e2,e3⟩,e4⟩:=hr.ob id _ ho;obtain⟨ds,aA,f1,f2,f3,f4,_⟩:=s_ hr c c' l' cb hw e2 e4 hc.2;have e5:=pF (iZ c' false t y _ hy f2);subst e5;have hl:cb.length=bA t:=by rw[<-uA f1,bJ]
       have hnil:¬mU h id:=by
        rintro(⟨u',v',e⟩|⟨u',ln',e⟩)
        .rcases e with e|e<;>rw[ho]at e<;>simp at e
        .rw [ho]at e;cases e
       refine⟨[.pt (aS t y)],id::aA,fun k hk=>?_,fun r=>rfl,fun j hj=>?_,fun j hj=>?_,by simp[wF]⟩
       .simp only[wF]at hk;obtain⟨k,rfl⟩:∃k',k=k'+2:=⟨k-2,by omega⟩
        have hv:f_ h1 k cb=some (aS t y,aA):=xZ (Ee c c' l' cb hw e2 hc.2) f1 (by omega);simp only[f_,ed,e1,hv,cG,if_true,cT,bC]
       .rcases aN.1 hj with rfl|hj
        .exact ⟨by simp,hnil⟩
        .exact ⟨by simp[(f3 j hj).1],(f3 j hj).2⟩
       .rcases aN.1 hj with rfl|hj
        .exact .inl (by simp)
        .exact (f4 j hj).imp (fun q=>by simp[q]) (fun q=>q)
      .simp at ha
     .simp at ha
    .rename_i w v ho;obtain⟨hc,ha⟩:=aP ha;split at ha
     .rename_i y hy;obtain⟨rfl,rfl⟩:=ad (aa ha);obtain⟨e,_⟩:=wQ hy;obtain⟨_,⟨_,e1⟩,_⟩:=hr.ob id _ ho
      have hnil:¬mU h id:=by
       rintro(⟨u',v',e⟩|⟨u',ln',e⟩)
       .rcases e with e|e<;>rw[ho]at e<;>simp at e
       .rw [ho]at e;cases e
      refine⟨[.pt (aS t y)],[id],fun k hk=>?_,fun r=>rfl,fun j hj=>?_,fun j hj=>.inl hj,by simp[wF]⟩
      .simp only[wF]at hk;obtain⟨k,rfl⟩:∃k',k=k'+2:=⟨k-2,by omega⟩
       simp only[f_,ed,e1,cG,if_true,cT,bC,e]
      .obtain rfl:=ao.1 hj;exact⟨by simp,hnil⟩
     .simp at ha
    .simp at ha
  |ep id m u p=>
   cases p with
   |cons=>simp[oU]at ha
   |nil=>
    obtain rfl:=hv;have e0:mX u []=0:=by cases u<;>rfl
    rw[e0]
    have key:∀(w:Ty)(s:Sl (El w))(ver:Nat),(fO h id=some (.ar w s ver)\/fO h id=some (.im w s ver))->(bif decide (w=u)then(match gN w t (gt s.l m)with|some y=>some ([V.x t y],[id])|none=>none)else none)=some (l,i)->
      ∃ds aA,(∀k,wF (.pt t)<=k->f_ h1 k [.ep id m 0]=some (ds,aA))/\(∀r,qZ (.pt t) (l++r)=(ds,r))/\(∀j∈aA,j∈i/\¬mU h j)/\(∀j∈i,j∈aA\/mU h j)/\[C.ep id m 0].length<=wF (.pt t):=by
     intro w s ver ho ha;obtain⟨_,ha⟩:=aP ha;split at ha
     .rename_i y hy;obtain⟨rfl,rfl⟩:=ad (aa ha);obtain⟨e,_⟩:=wQ hy;have hm:=hk.2.2.1 w s ver ho;cases s with
      |nil=>simp[Sl.l]at hm
      |mk q=>
       refine⟨[.pt (aS t y)],[id],fun k hk=>?_,fun r=>rfl,fun j hj=>?_,fun j hj=>.inl hj,by simp[wF]⟩
       .simp only[wF]at hk;obtain⟨k,rfl⟩:∃k',k=k'+1:=⟨k-1,by omega⟩
        have hg:(q.map (aS w))[m]?=some (aS w (gt q m)):=rI hm;have e2:aS w (gt q m)=aS t y:=e.symm;rcases ho with ho|ho
        .have e1:=(hr.ob id _ ho).2.1.2.2 q rfl;have:ed h1 k (.ep id m 0)=some (.pt (aS t y),[id]):=by cases k<;>simp only[ed,e1,hg,cG,if_true,cT,e2]
         simp only[f_,this,bC]
        .have e1:=(hr.ob id _ ho).2.1.2.2 q rfl;have:ed h1 k (.ep id m 0)=some (.pt (aS t y),[id]):=by cases k<;>simp only[ed,e1,hg,cG,if_true,cT,e2]
         simp only[f_,this,bC]
       .obtain rfl:=ao.1 hj;exact⟨by simp,yQ ho⟩
     .simp at ha
    simp only[oU]at ha;split at ha
    .rename_i ho;exact key _ _ _ (.inl ho) ha
    .rename_i ho;exact key _ _ _ (.inr ho) ha
    .simp at ha
  |_=>simp[oU]at ha
 |nl k=>
  intro v l i cs ha hv hk hal;cases v with
  |nl k'=>
   simp only[oU]at ha;obtain⟨hc,ha2⟩:=aP ha;obtain rfl:k=k':=by simpa using hc
   obtain⟨rfl,rfl⟩:=ad (aa ha2);obtain rfl:=hv;refine⟨[Pu k],[],fun j hj=>?_,fun r=>rfl,fun j hj=>by simp at hj,fun j hj=>by simp at hj,by simp[wF]⟩;simp only[wF]at hj;obtain⟨j,rfl⟩:∃k',j=k'+1:=⟨j-1,by omega⟩
   have e:f_ h1 j []=some ([],[]):=by cases j<;>rfl
   rw[Qx];simp only[f_,qa,e,bC]
  |_=>simp[oU]at ha
 |fn f c ih=>
  intro v l i cs ha hv hk hal;cases v with
  |fn z f' q=>
   simp only[oU]at ha;obtain⟨hc,ha2⟩:=aP ha;obtain rfl:f=f':=by simpa using hc
   cases z with
   |true=>
    obtain⟨ds0,hd,rfl⟩:=hv;have hal':CF q=true:=hal;obtain⟨a1,a2⟩:=zP (h:=h) q hal';obtain⟨ds,aA,g1,g2,g3,g4,g5⟩:=ih q l i (ds0.map .d) ha2 (MV q ds0 hd) (a2 n) a1;have e:=g1 (wF c+ds0.length+1) (by omega);rw[xL ds0 _ (by omega)]at e;obtain⟨rfl,rfl⟩:=ad (aa e);refine⟨[.fn f ds0],[],fun k hk=>?_,fun r=>?_,g3,g4,by simp[wF]⟩
    .simp only[wF]at hk;exact xL (h1:=h1) [.fn f ds0] k (by simp;omega)
    .simp only[qZ,g2 r]
   |false=>
    obtain⟨xs,h2,rfl⟩:=hv;obtain⟨ds,aA,g1,g2,g3,g4,g5⟩:=ih q l i xs ha2 h2 hk hal;refine⟨[.fn f ds],aA,fun k hk=>?_,fun r=>?_,g3,g4,by simp[wF]⟩
    .simp only[wF]at hk;obtain⟨k,rfl⟩:∃k',k=k'+2:=⟨k-2,by omega⟩
     simp only[f_,ed,g1 k (by omega),bC]
    .simp only[qZ,g2 r]
  |_=>simp[oU]at ha
 |pr a c iha ihc=>
  intro v l i cs ha hv hk hal;cases v with
  |co x r=>
   simp only[oU]at ha;split at ha
   .rename_i l1 i1 l2 i2 h2 h3;obtain⟨rfl,rfl⟩:=ad (aa ha);obtain⟨cx,cr,rfl,h4,h5⟩:=hv;simp only[iz,ai]at hal;obtain⟨d1,j1,a1,a2,a3,a4,a5⟩:=iha x l1 i1 cx h2 h4 hk.1 hal.1;obtain⟨d2,j2,b1,b2,b3,b4,b5⟩:=ihc r l2 i2 cr h3 h5 hk.2 hal.2;refine⟨d1++d2,j1++j2,fun k hk=>?_,fun r=>?_,fun j hj=>?_,fun j hj=>?_,by simp[wF];omega⟩
    .simp only[wF]at hk;exact BI (a1 k (by omega)) (b1 _ (by omega)) (by omega)
    .simp only[qZ,aJ,a2,b2]
    .rcases ap.1 hj with hj|hj
     .exact ⟨aE _ (a3 j hj).1,(a3 j hj).2⟩
     .exact ⟨aG _ (b3 j hj).1,(b3 j hj).2⟩
    .rcases ap.1 hj with hj|hj
     .exact (a4 j hj).imp (aE _) id
     .exact (b4 j hj).imp (aG _) id
   .simp at ha
  |_=>simp[oU]at ha
 |ni=>intro v l i cs ha hv hk hal;cases v with|ni=>obtain⟨rfl,rfl⟩:=ad (aa ha);obtain rfl:=hv;exact⟨[],[],fun k _=>(by cases k<;>rfl),fun r=>rfl,fun j hj=>by simp at hj,fun j hj=>by simp at hj,by simp⟩|_=>simp[oU]at ha
 |_=>intro v l i cs ha;simp[oU]at ha
end
def qI:Sh->Nat
 |.x t=>bA t+1
 |.pb _ c=>qI c+2
 |.st c=>qI c
 |.pr a c=>qI a+qI c
 |.ni=>0
 |_=>1
section
variable{h:H2}{n:Nat}{h1:bF}
theorem vn(k:Nat)(x:D):eP h1 k (.d x)=some (.d x,[],[]):=by cases k<;>rfl
theorem pp(k:Nat):iK h1 k []=some ([],[],[]):=by cases k<;>rfl
theorem qf:∀(ds:List D)(k:Nat),ds.length<=k->iK h1 k (ds.map .d)=some (ds.map .d,[],[]):=by
 intro ds;induction ds with
 |nil=>intro k _;exact pp k
 |cons d ds ih=>intro k hk;cases k with|zero=>simp at hk|succ k=>simp only[aD,iK,vn,ih k (by simpa using hk),bC]
theorem vk:∀{x y:List C}{tx ty:List T}{ox oy ix iy:List Nat}{k:Nat},iK h1 k x=some (tx,ox,ix)->iK h1 (k-x.length) y=some (ty,oy,iy)->x.length<=k->iK h1 k (x++y)=some (tx++ty,ox++oy,ix++iy):=by
 intro x;induction x with
 |nil=>intro y tx ty ox oy ix iy k hx hy _;rw[pp]at hx;obtain⟨rfl,e⟩:=ad (aa hx);obtain⟨rfl,rfl⟩:=ad e;simpa using hy
 |cons c x ih=>
  intro y tx ty ox oy ix iy k hx hy hk;cases k with
  |zero=>simp at hk
  |succ k=>
   simp only[iK]at hx;split at hx
   .rename_i p a i q b j hp hq;obtain⟨rfl,e⟩:=ad (aa hx);obtain⟨rfl,rfl⟩:=ad e;simp only[aU,iK,hp];rw[ih hq (by simpa using hy) (by simpa using hk)];simp
   .simp at hx
theorem vj{c:C}{t:T}{bv rd:List Nat}{k:Nat}(hc:eP h1 k c=some (t,bv,rd)):iK h1 (k+1) [c]=some ([t],bv,rd):=by simp only[iK,hc,pp,bC]
theorem Ua{t:Ty}{id k:Nat}{q:List (Sl (El t))}(h:aB h1 id=some (.nst (bA t) (eX t q none))):eP h1 k (mB 1 (aS (.sl t)) id (Sl.mk q:Sl (Sl (El t))))=some (.zU (bA t) (q.map (IB t)),[id],[id]):=by simp only[mB,eX]at h|-;cases k<;>simp only[eP,h,aO,and_self,if_true,Iu]
theorem wV(hr:HR n h1 h):∀(c:Sh)(ln:Bool)(v:V)(l:List V)(i:List Nat)(cs:List C),ei h c ln v=some (l,i)->fm h v cs->fg n h v->
  ∃ts bv rd,(∀k,qI c<=k->iK h1 k cs=some (ts,bv,rd))/\(∀r,fI c (l++r)=(ts,r))/\bv.Sublist i/\(∀j∈i,j∈bv\/mU h j)/\(∀j∈rd,j∈i)/\cs.length<=qI c/\(∀j∈i,j<n):=by
 intro c;induction c with
 |x t=>
  intro ln v l i cs ha hv hk;cases ln with
  |true=>simp[ei]at ha
  |false=>
   simp only[ei]at ha;split at ha
   .rename_i y hy;obtain⟨rfl,rfl⟩:=ad (aa ha);have e:=iZ v false t y cs hy hv;subst e;exact⟨_,[],[],fun k hk=>qf _ k (by rw[bJ];simp only[qI]at hk;omega),fun r=>rfl,bM _,fun j hj=>by simp at hj,fun j hj=>hj,by simp[qI,bJ],fun j hj=>by simp at hj⟩
   .simp at ha
 |os t=>
  intro ln v l i cs ha hv hk;cases ln with
  |true=>simp[ei]at ha
  |false=>
   cases v with
   |so id=>
    simp only[ei]at ha;split at ha
    .rename_i u s ver ho;split at ha
     .rename_i s' hs;obtain⟨rfl,rfl⟩:=ad (aa ha);obtain⟨e,rfl⟩:=dw hs;cases e;obtain⟨c,rfl,hc⟩:=hv;rw[hc.1 _ (mA (.inl ho))];cases s with
      |nil=>exact⟨[.d (.lit (.slice none 0 0))],[],[],fun k hk=>qf [.lit (.slice none 0 0)] k (by simpa[qI]using hk),fun r=>rfl,kf _,fun j hj=>by obtain rfl:=ao.1 hj;exact .inr (.inl ⟨_,_,.inl ho⟩),fun j hj=>by simp at hj,by simp[qI],fun j hj=>by obtain rfl:=ao.1 hj;exact hk⟩
      |mk q=>
       have e1:=(hr.ob id _ ho).2.1.2.2 q rfl;refine⟨[.sl (bA t) (q.map (aS t))],[id],[id],fun k hk=>?_,fun r=>rfl,bM _,fun j hj=>.inl hj,fun j hj=>hj,by simp[qI],fun j hj=>by obtain rfl:=ao.1 hj;exact hk⟩;obtain⟨k,rfl⟩:∃k',k=k'+1:=⟨k-1,by simp only[qI]at hk;omega⟩
       exact vj (U9 e1)
     .simp at ha
    .simp at ha
   |nl k=>cases k with|zero=>obtain⟨rfl,rfl⟩:=ad (aa ha);obtain rfl:=hv;exact⟨[.d (.lit (.slice none 0 0))],[],[],fun k hk=>qf [.lit (.slice none 0 0)] k (by simpa[qI]using hk),fun r=>rfl,bM _,fun j hj=>by simp at hj,fun j hj=>hj,by simp[qI],fun j hj=>by simp at hj⟩|succ k=>simp[ei]at ha
   |_=>simp[ei]at ha
 |rw t=>
  intro ln v l i cs ha hv hk;cases ln with
  |true=>simp[ei]at ha
  |false=>
   cases v with
   |sr id=>
    simp only[ei]at ha;split at ha
    .rename_i u s ho;split at ha
     .rename_i s' hs;obtain⟨rfl,rfl⟩:=ad (aa ha);obtain⟨e,rfl⟩:=dw hs;cases e;obtain⟨c,rfl,hc⟩:=hv;rw[hc.1 _ (sL ho)];cases s with
      |nil=>exact⟨[.d (.lit (.slice none 0 0))],[],[],fun k hk=>qf [.lit (.slice none 0 0)] k (by simpa[qI]using hk),fun r=>rfl,kf _,fun j hj=>by obtain rfl:=ao.1 hj;exact .inr (.inr ⟨_,_,ho⟩),fun j hj=>by simp at hj,by simp[qI],fun j hj=>by obtain rfl:=ao.1 hj;exact hk⟩
      |mk q=>
       have e1:=(hr.ob id _ ho).2.1.2.2 q rfl;refine⟨[.zU (bA t) (q.map (IB t))],[id],[id],fun k hk=>?_,fun r=>rfl,bM _,fun j hj=>.inl hj,fun j hj=>hj,by simp[qI],fun j hj=>by obtain rfl:=ao.1 hj;exact hk⟩;obtain⟨k,rfl⟩:∃k',k=k'+1:=⟨k-1,by simp only[qI]at hk;omega⟩
       exact vj (Ua e1)
     .simp at ha
    .simp at ha
   |nl k=>cases k with|zero=>obtain⟨rfl,rfl⟩:=ad (aa ha);obtain rfl:=hv;exact⟨[.d (.lit (.slice none 0 0))],[],[],fun k hk=>qf [.lit (.slice none 0 0)] k (by simpa[qI]using hk),fun r=>rfl,bM _,fun j hj=>by simp at hj,fun j hj=>hj,by simp[qI],fun j hj=>by simp at hj⟩|succ k=>simp[ei]at ha
   |_=>simp[ei]at ha
 |pb t c ih=>
  intro ln v l i cs ha hv hk;cases ln with
  |true=>simp[ei]at ha
  |false=>
   cases v with
   |op id u p=>
    cases p with
    |cons=>simp[ei]at ha
    |nil=>
     simp only[ei]at ha;split at ha
     .rename_i w q ho;obtain⟨hc,ha2⟩:=aP ha;split at ha2
      .rename_i l' i' ha3;obtain⟨rfl,rfl⟩:=ad (aa ha2);obtain rfl:=hv;have e0:mX u []=0:=by cases u<;>rfl
       rw[e0];obtain⟨_,⟨cb,e1,e2,e3⟩,e4⟩:=hr.ob id _ ho;obtain⟨ts,bv,rd,g1,g2,g3,g4,g5,g6,g7⟩:=ih false q l' i' cb ha3 e2 e4;refine⟨[.pt ts],id::bv,id::rd,fun k hk=>?_,fun r=>by simp only[fI,g2 r],g3.cons_cons _,fun j hj=>?_,fun j hj=>?_,by simp[qI],fun j hj=>?_⟩
       .obtain ⟨k,rfl⟩:∃k',k=k'+2:=⟨k-2,by simp only[qI]at hk;omega⟩
        refine vj ?_;simp only[eP,e1,g1 k (by simp only[qI]at hk;omega)]
       .rcases aN.1 hj with rfl|hj
        .exact .inl (by simp)
        .exact (g4 j hj).imp (fun q=>by simp[q]) (fun q=>q)
       .rcases aN.1 hj with rfl|hj
        .simp
        .simp [g5 j hj]
       .rcases aN.1 hj with rfl|hj
        .exact hk.1
        .exact g7 j hj
      .simp at ha2
     .simp at ha
   |_=>simp[ei]at ha
 |nl k=>
  intro ln v l i cs ha hv hk;cases ln with
  |true=>simp[ei]at ha
  |false=>
   cases v with
   |nl k'=>
    simp only[ei]at ha;obtain⟨hc,ha2⟩:=aP ha;obtain rfl:k=k':=by simpa using hc
    obtain⟨rfl,rfl⟩:=ad (aa ha2);obtain rfl:=hv;exact⟨[.d (Pu k)],[],[],fun j hj=>qf [Pu k] j (by simpa[qI]using hj),fun r=>rfl,bM _,fun j hj=>by simp at hj,fun j hj=>hj,by simp[qI],fun j hj=>by simp at hj⟩
   |_=>simp[ei]at ha
 |st c ih=>
  intro ln v l i cs ha hv hk;cases ln with
  |true=>simp[ei]at ha
  |false=>
   cases v with
   |rc q=>exact ih true q l i cs ha hv hk
   |x t v=>cases t with|st u=>obtain⟨hd,rfl⟩:=hv;exact ih true (Ig u v) l i _ ha (BM u v hd) (Fb u v)|_=>simp[ei]at ha
   |_=>simp[ei]at ha
 |pr a c iha ihc=>
  intro ln v l i cs ha hv hk;cases ln with
  |false=>simp[ei]at ha
  |true=>
   cases v with
   |co x r=>
    simp only[ei]at ha;split at ha
    .rename_i l1 i1 l2 i2 h2 h3;obtain⟨rfl,rfl⟩:=ad (aa ha);obtain⟨cx,cr,rfl,h4,h5⟩:=hv
     have hA:∃ts bv rd,(∀k,qI a<=k->iK h1 k cx=some (ts,bv,rd))/\(∀r,fI a (l1++r)=(ts,r))/\bv.Sublist i1/\(∀j∈i1,j∈bv\/mU h j)/\(∀j∈rd,j∈i1)/\cx.length<=qI a/\(∀j∈i1,j<n):=by
      split at h2
      .rename_i t u v;unfold QA at h2;split at h2
       .obtain ⟨rfl,rfl⟩:=ad (aa h2);obtain⟨_,rfl⟩:=h4;exact⟨[.d (.lit (.slice none 0 0))],[],[],fun k hk=>qf [.lit (.slice none 0 0)] k (by simpa[qI]using hk),fun r=>rfl,bM _,fun j hj=>by simp at hj,fun j hj=>hj,by simp[qI,aS],fun j hj=>by simp at hj⟩
       .simp at h2
      .exact iha false x l1 i1 cx h2 h4 hk.1
     obtain⟨t1,o1,r1,a1,a2,a3,a4,a5,a6,a7⟩:=hA;obtain⟨t2,o2,r2,b1,b2,b3,b4,b5,b6,b7⟩:=ihc true r l2 i2 cr h3 h5 hk.2;refine⟨t1++t2,o1++o2,r1++r2,fun k hk=>?_,fun r=>?_,a3.append b3,fun j hj=>?_,fun j hj=>?_,by simp[qI];omega,fun j hj=>?_⟩
     .simp only[qI]at hk;exact vk (a1 k (by omega)) (b1 _ (by omega)) (by omega)
     .simp only[fI,aJ,a2,b2]
     .rcases ap.1 hj with hj|hj
      .exact (a4 j hj).imp (aE _) (fun q=>q)
      .exact (b4 j hj).imp (aG _) (fun q=>q)
     .rcases ap.1 hj with hj|hj
      .exact aE _ (a5 j hj)
      .exact aG _ (b5 j hj)
     .rcases ap.1 hj with hj|hj
      .exact a7 j hj
      .exact b7 j hj
    .simp at ha
   |_=>simp[ei]at ha
 |ni=>
  intro ln v l i cs ha hv hk;cases ln with
  |false=>cases v<;>simp[ei]at ha
  |true=>cases v with|ni=>obtain⟨rfl,rfl⟩:=ad (aa ha);obtain rfl:=hv;exact⟨[],[],[],fun k _=>pp k,fun r=>rfl,bM _,fun j hj=>by simp at hj,fun j hj=>hj,by simp,fun j hj=>by simp at hj⟩|_=>simp[ei]at ha
 |_=>intro ln v l i cs ha;cases ln<;>simp[ei]at ha
theorem E7:∀(a b:List T)(m:Nat),iF m (a++b)=((iF m a).1++(iF (iF m a).2.2 b).1,(iF m a).2.1++(iF (iF m a).2.2 b).2.1,(iF (iF m a).2.2 b).2.2):=by intro a;induction a with|nil=>intro b m;simp[iF]|cons t a ih=>intro b m;simp only[aU,iF,ih,aJ]
theorem rn(t:T)(m:Nat):iF m [t]=([(k9 m t).1],(k9 m t).2.1,(k9 m t).2.2):=by simp[iF]
theorem R1:∀(ds:List D)(m:Nat),iF m (ds.map T.d)=(ds.map .d,[],m+ds.length):=by intro ds;induction ds with|nil=>intro m;rfl|cons d ds ih=>intro m;simp only[aD,iF,k9,ih,List.nil_append,List.length_cons];congr 2;omega
theorem wu{a b:fF}(hd:∀p∈a,∀q∈b,p.1≠q.1)(i:Nat):aB (a++b++h1) i=aB (b++(a++h1)) i:=by rw[gK,gK,gK,<-eD,mJ hd]
structure Mk(s s':S2)(h1:bF)(u:fF):Prop where
 hr:HR s'.next (u++h1) s'.heap
 eQ:jy s.next s.heap s'.heap
 dH:s'.dH=s.dH
 gh:s'.gh=s.gh
 le:s.next<=s'.next
 Gc:∀p∈u,s.next<=p.1/\p.1<s'.next
 wo:∃W,s'.wo=W++s.wo/\(∀p∈u,p.1∈W)/\(∀i∈W,s.next<=i/\i<s'.next)/\∀i,i∉W->fO s'.heap i=fO s.heap i
theorem Mk.skip{s:S2}{m:Nat}(hr:HR s.next h1 s.heap)(hm:s.next<=m):Mk s {s with next:=m} h1 []:=⟨hr.mono hm,jy.refl _ _,rfl,rfl,hm,fun p hp=>by simp at hp,[],rfl,fun p hp=>by simp at hp,fun i hi=>by simp at hi,fun _ _=>rfl⟩
theorem Mk.seq{s s1 s2:S2}{u1 u2:fF}(a:Mk s s1 h1 u1)(b:Mk s1 s2 (u1++h1) u2):Mk s s2 h1 (u1++u2):=by
 obtain⟨a3,a4,a5,a6,a7,a8,W,v1,v2,v3,v4⟩:=a;obtain⟨b3,b4,b5,b6,b7,b8,X,x1,x2,x3,x4⟩:=b;refine⟨?_,a4.trans a7 b4,b5.trans a5,b6.trans a6,by omega,fun p hp=>?_,X++W,by rw[x1,v1,aJ],fun p hp=>?_,fun i hi=>?_,fun i hi=>?_⟩
 .exact b3.ext fun i=>wu (fun p hp q hq e=>by have:=(a8 p hp).2;have:=(b8 q hq).1;omega) i
 .rcases ap.1 hp with hp|hp
  .have:=a8 p hp;omega
  .have:=b8 p hp;omega
 .rcases ap.1 hp with hp|hp
  .exact aG _ (v2 p hp)
  .exact aE _ (x2 p hp)
 .rcases ap.1 hi with hi|hi
  .have:=x3 i hi;omega
  .have:=v3 i hi;omega
 .rw [x4 i fun q=>hi (aE _ q),v4 i fun q=>hi (aG _ q)]
end
section
variable{h:H2}{n:Nat}
theorem jy.bx{id:Nat}{t:Ty}{c:V}:jy n h ((id,some (.bx t c))::h):=⟨fun i o hi ho=>by
 rw[da]at ho;split at ho
 .obtain rfl:=aa ho;exact .inr rfl
 .exact .inl ⟨o,ho,sE.refl _⟩⟩
theorem Mk.one{s:S2}{h1:bF}{o:O}{b:Option Ob}{u:fF}(hr:HR s.next h1 s.heap)(hu:u=[(s.next,b)]\/(u=[]/\∀b',vu ((s.next,some o)::s.heap) o b'))(hb:u=[(s.next,b)]->vu ((s.next,some o)::s.heap) o b)
  (hko:CN (s.next+1) ((s.next,some o)::s.heap) o):Mk s (jG s o) h1 u:=by
 have hd:=rg.new (x:=.iT []) (v:=.no) (aA:=[]) (l:=[]) (m:=s.next+1) hr hu hb hko rfl trivial (fun i hi=>by simp at hi) (au _);refine⟨hd.hr,hd.eQ,rfl,rfl,bH _,fun p hp=>?_,[s.next],rfl,fun p hp=>?_,fun i hi=>?_,fun i hi=>?_⟩
 .rcases hu with rfl|⟨rfl,_⟩
  .obtain rfl:=ao.1 hp;exact⟨au _,aY _⟩
  .simp at hp
 .rcases hu with rfl|⟨rfl,_⟩
  .obtain rfl:=ao.1 hp;simp
  .simp at hp
 .obtain rfl:=ao.1 hi;exact⟨au _,aY _⟩
 .simp only[jG];rw[da,if_neg fun e=>hi (by simp[e])]
theorem vy:∀(c:Sh)(ln:Bool)(l:List V)(s:S2)(w:V)(l':List V)(s':S2)(h1:bF),ri c ln l s=some (w,l',s')->HR s.next h1 s.heap->
  fm s'.heap w (iF s.next (fI c l).1).1/\fg s'.next s'.heap w/\Mk s s' h1 (iF s.next (fI c l).1).2.1/\s'.next=(iF s.next (fI c l).1).2.2/\l'=(fI c l).2/\(ln=false->tC w=xH c):=by
 intro c;induction c with
 |x t=>
  intro ln l s w l' s' h1 hm hr;cases ln with
  |true=>simp[ri]at hm
  |false=>match l with|.x u v::l=>simp only[ri]at hm;obtain⟨hc,hm2⟩:=aP hm;simp only[ai,decide_eq_true_eq]at hc;obtain⟨rfl,hd⟩:=hc;obtain⟨rfl,e⟩:=ad (aa hm2);obtain⟨rfl,rfl⟩:=ad e;simp only[fI,R1,bJ];exact⟨⟨hd,rfl⟩,trivial,Mk.skip hr (Nat.le_add_right _ _),trivial,trivial,fun _=>rfl⟩|[]|.kb _::_|.nl _::_|.so _::_|.sr _::_|.sb _ _ _ _ _::_|.op _ _ _::_|.ep _ _ _ _::_|.pt _ _::_|.fn _ _ _::_|.om _::_|.rc _::_|.tp _::_|.ni::_|.co _ _::_|.fl _::_|.no::_|.gn::_=>simp[ri]at hm
 |os t=>
  intro ln l s w l' s' h1 hm hr;cases ln with
  |true=>simp[ri]at hm
  |false=>
   match l with
   |.x (.sl u) v::l=>
    simp only[ri]at hm;obtain⟨hc,hm2⟩:=aP hm;simp only[ai,decide_eq_true_eq]at hc;obtain⟨rfl,hd⟩:=hc;obtain⟨d1,d2⟩:=qk hd;obtain⟨rfl,e⟩:=ad (aa hm2);obtain⟨rfl,rfl⟩:=ad e;simp only[fI,rn];have hv:fm (jG s (.ar u v 0)).heap (.so s.next) [mB (bA u) (aS u) s.next v]:=⟨_,rfl,fun c' hc'=>by simp only[jG,tY]at hc';exact aa hc',BR⟩
    cases v with|nil=>exact⟨hv,aY _,Mk.one (b:=none) hr (.inr ⟨rfl,fun b'=>⟨d1,d2,fun l e=>by cases e⟩⟩) (fun e=>by cases e) trivial,by first|rfl|trivial,by first|rfl|trivial,fun _=>rfl⟩|mk q=>exact⟨hv,aY _,Mk.one (b:=some (.aM (bA u) (q.map (aS u)))) hr (.inl rfl) (fun _=>⟨d1,d2,fun l e=>by cases e;rfl⟩) trivial,by first|rfl|trivial,by first|rfl|trivial,fun _=>rfl⟩
   |[]|.kb _::_|.nl _::_|.so _::_|.sr _::_|.sb _ _ _ _ _::_|.op _ _ _::_|.ep _ _ _ _::_|.pt _ _::_|.fn _ _ _::_|.om _::_|.rc _::_|.tp _::_|.ni::_|.co _ _::_|.fl _::_|.no::_|.gn::_=>simp[ri]at hm
   |.x (.i _) _::_|.x .b _::_|.x .s _::_|.x (.f _) _::_|.x (.mp _ _) _::_|.x .un _::_|.x (.pr _ _) _::_|.x (.st _) _::_|.x (.ar _ _) _::_|.x (.o _) _::_=>simp[ri]at hm
 |rw t=>
  intro ln l s w l' s' h1 hm hr;cases ln with
  |true=>simp[ri]at hm
  |false=>
   match l with
   |.x (.sl (.sl u)) v::l=>
    simp only[ri]at hm;obtain⟨hc,hm2⟩:=aP hm;simp only[ai,decide_eq_true_eq]at hc;obtain⟨rfl,hd⟩:=hc;obtain⟨d1,d2⟩:=qk hd;obtain⟨rfl,e⟩:=ad (aa hm2);obtain⟨rfl,rfl⟩:=ad e;simp only[fI,rn];have hv:fm (jG s (.rw u v none)).heap (.sr s.next) [mB 1 (aS (.sl u)) s.next (v:Sl (Sl (El u)))]:=⟨_,rfl,fun c' hc'=>by simp only[jG,tY]at hc';exact aa hc',BR⟩
    cases v with
    |nil=>exact⟨hv,aY _,Mk.one (b:=none) hr (.inr ⟨rfl,fun b'=>⟨d1,d2,fun l e=>by cases e⟩⟩) (fun e=>by cases e) trivial,by first|rfl|trivial,by first|rfl|trivial,fun _=>rfl⟩
    |mk q=>
     have e1:(k9 s.next (ym u (.mk q))).1=mB 1 (aS (.sl u)) s.next (Sl.mk q:Sl (Sl (El u))):=by simp[ym,k9,mB]
     have e2:(k9 s.next (ym u (.mk q))).2.1=[(s.next,some (.nst (bA u) (eX u q none)))]:=by simp only[ym,k9,yo,eX]
     rw[e1,e2];exact⟨hv,aY _,Mk.one (b:=some (.nst (bA u) (eX u q none))) hr (.inl rfl) (fun _=>⟨d1,d2,fun l e=>by cases e;rfl⟩) trivial,by first|rfl|trivial,by first|rfl|trivial,fun _=>rfl⟩
   |[]|.kb _::_|.nl _::_|.so _::_|.sr _::_|.sb _ _ _ _ _::_|.op _ _ _::_|.ep _ _ _ _::_|.pt _ _::_|.fn _ _ _::_|.om _::_|.rc _::_|.tp _::_|.ni::_|.co _ _::_|.fl _::_|.no::_|.gn::_=>simp[ri]at hm
   |.x (.sl (.i _)) _::_|.x (.sl .b) _::_|.x (.sl .s) _::_|.x (.sl (.f _)) _::_|.x (.sl (.mp _ _)) _::_|.x (.sl .un) _::_|.x (.sl (.pr _ _)) _::_|.x (.sl (.st _)) _::_|.x (.sl (.ar _ _)) _::_|.x (.sl (.o _)) _::_|.x (.i _) _::_|.x .b _::_|.x .s _::_|.x (.f _) _::_|.x (.mp _ _) _::_|.x .un _::_|.x (.pr _ _) _::_|.x (.st _) _::_|.x (.ar _ _) _::_|.x (.o _) _::_=>simp[ri]at hm
 |pb t c ih=>
  intro ln l s w l' s' h1 hm hr;cases ln with
  |true=>simp[ri]at hm
  |false=>
   simp only[ri]at hm;split at hm
   .rename_i w0 l0 s2 hm0;obtain⟨hf,hm2⟩:=aP hm;obtain⟨rfl,e⟩:=ad (aa hm2);obtain⟨rfl,rfl⟩:=ad e;obtain⟨q1,q2,q3,q4,q5,_⟩:=ih false l {s with next:=s.next+1} w0 l0 s2 h1 hm0 (hr.mono (bH _));simp only[fI,rn,k9];obtain⟨a3,a4,a5,a6,a7,a8,W,v1,v2,v3,v4⟩:=q3;simp only at a4 a5 a6 a7 a8 v1 v3 v4;have hlt:s.next<s2.next:=by omega
    have hin:∀i,i∉W->fO s2.heap i=fO s.heap i:=v4;refine⟨?_,⟨hlt,by cases t<;>trivial⟩,⟨?_,?_,a5,a6,by show s.next<=s2.next;omega,fun p hp=>?_,s.next::W,by simp only[eG,v1];rfl,fun p hp=>?_,fun i hi=>?_,fun i hi=>?_⟩,q4,q5,fun _=>rfl⟩
    .show [_]=[_]
     have e0:mX t []=0:=by cases t<;>rfl
     rw[e0]
    .refine HR.CV (u:=[(s.next,some (.box _))]) a3 (au _) hlt jy.bx (fun i hi=>?_) fun o' ho'=>?_
     .rw [aZ,dE,if_neg fun e=>hi e.symm]
     .obtain rfl:=aa ho';refine⟨?_,gS (au _) jy.bx q2⟩;rw[aZ,dE,if_pos rfl];exact⟨_,rfl,lJ jy.bx q2 q1,hf⟩
    .exact jy.trans (n':=s2.next) (by omega) (⟨fun i o hi ho=>a4.ob i o (by omega) ho⟩:jy s.next s.heap s2.heap) jy.bx
    .simp only[eG];rcases aN.1 hp with rfl|hp
     .exact ⟨au _,hlt⟩
     .have:=a8 p hp;omega
    .rcases aN.1 hp with rfl|hp
     .simp
     .exact aC _ (v2 p hp)
    .simp only[eG];rcases aN.1 hi with rfl|hi
     .exact ⟨au _,hlt⟩
     .have:=v3 i hi;omega
    .simp only[eG];rw[da,if_neg fun e=>hi (by simp[e]),hin i fun q=>hi (by simp[q])]
   .simp at hm
 |nl k=>intro ln l s w l' s' h1 hm hr;cases ln with|true=>simp[ri]at hm|false=>simp only[ri]at hm;obtain⟨rfl,e⟩:=ad (aa hm);obtain⟨rfl,rfl⟩:=ad e;simp only[fI,rn,k9];exact⟨rfl,trivial,Mk.skip hr (bH _),by first|rfl|trivial,by first|rfl|trivial,fun _=>rfl⟩
 |st c ih=>
  intro ln l s w l' s' h1 hm hr;cases ln with
  |true=>simp[ri]at hm
  |false=>
   simp only[ri]at hm;split at hm
   .rename_i w0 l0 s2 hm0;obtain⟨rfl,e⟩:=ad (aa hm);obtain⟨rfl,rfl⟩:=ad e;obtain⟨q1,q2,q3,q4,q5,_⟩:=ih true l s w0 l0 s2 h1 hm0 hr;exact⟨q1,q2,q3,q4,q5,fun _=>rfl⟩
   .simp at hm
 |pr a c iha ihc=>
  intro ln l s w l' s' h1 hm hr;cases ln with
  |false=>simp[ri]at hm
  |true=>
   simp only[ri]at hm;split at hm
   .rename_i x l1 s1 hm1;split at hm
    .rename_i r l2 s2 hm2;obtain⟨rfl,e⟩:=ad (aa hm);obtain⟨rfl,rfl⟩:=ad e;obtain⟨q1,q2,q3,q4,q5,_⟩:=iha false l s x l1 s1 h1 hm1 hr;subst q5;obtain⟨p1,p2,p3,p4,p5,_⟩:=ihc true _ s1 r l2 s2 _ hm2 q3.hr;subst p5;simp only[fI,E7];rw[q4]at p1 p3 p4;exact⟨⟨_,_,rfl,lJ p3.eQ q2 q1,p1⟩,⟨gS p3.le p3.eQ q2,p2⟩,Mk.seq q3 p3,p4,by first|rfl|trivial,fun e=>by cases e⟩
    .simp at hm
   .simp at hm
 |ni=>intro ln l s w l' s' h1 hm hr;cases ln with|false=>simp[ri]at hm|true=>simp only[ri]at hm;obtain⟨rfl,e⟩:=ad (aa hm);obtain⟨rfl,rfl⟩:=ad e;exact⟨rfl,trivial,Mk.skip hr (au _),rfl,rfl,fun e=>by cases e⟩
 |_=>intro ln l s w l' s' h1 hm;cases ln<;>simp[ri]at hm
end
def On:List (Bool×Sh)->List Bool->Bool
 |[],_=>true
 |(b,_)::r,ms=>decide (ms.headD false=b)&&On r ms.tail
def vA:Sh->Bool
 |.os _|.rw _|.pb _ _|.nl _=>true
 |_=>false
def yN:Sh->Bool
 |.x t=>bA t==1
 |.os _|.rw _|.pb _ _|.nl _|.pt _|.fn _ _=>true
 |_=>false
def BX:List (Bool×Sh)->Bool
 |[]=>true
 |(b,c)::r=>(bif b then vA c&&Nat.ble (qI c) 300 else(xH c||yN c)&&Nat.ble (wF c) 300)&&BX r
section
variable{h:H2}{n:Nat}{h1:bF}
def PQ(h:H2)(n:Nat)(h1:bF)(p:V×List Nat)(q:C×List Nat×List Nat):Prop:=
 fm h p.1 [q.1]/\fg n h p.1/\(∃t,eP h1 300 q.1=some (t,q.2.1,q.2.2))/\q.2.1.Sublist p.2/\(∀j∈p.2,j∈q.2.1\/mU h j)/\(∀j∈q.2.2,j∈p.2)/\(∀j∈p.2,j<n)/\
  match p.1 with|.so id=>p.2=[id]/\∃u s ver,fO h id=some (.ar u s ver)|.sr id=>p.2=[id]/\∃u s,fO h id=some (.rw u s none)|.op id _ _=>id∈p.2/\¬mU h id|.nl _=>True|_=>False
def xq(h:H2)(n:Nat)(h1:bF):List (V×List Nat)->List (C×List Nat×List Nat)->Prop
 |[],l=>l=[]
 |p::r,l=>∃q m,l=q::m/\PQ h n h1 p q/\xq h n h1 r m
theorem Mb{v w:V}{l:List Nat}(hf:jm h v=some (w,l)):tC v=tC w:=by
 cases v with
 |so id=>
  simp only[jm]at hf;split at hf
  .obtain ⟨rfl,_⟩:=ad (aa hf);rfl
  .simp at hf
 |sr id=>
  simp only[jm]at hf;split at hf
  .obtain ⟨rfl,_⟩:=ad (aa hf);rfl
  .simp at hf
 |sb id ver lo t r=>simp only[jm,uc]at hf;obtain⟨rfl,_⟩:=ad (aa hf);rfl
 |rc l=>
  simp only[jm]at hf;split at hf
  .obtain ⟨rfl,_⟩:=ad (aa hf);rfl
  .simp at hf
 |co a r=>
  simp only[jm]at hf;split at hf
  .obtain ⟨rfl,_⟩:=ad (aa hf);rfl
  .simp at hf
 |fn z f l=>cases z<;>simp[jm]at hf;rw[<-hf.1]
 |_=>first|(simp[jm]at hf;done)|(simp[jm]at hf;rw[<-hf.1])
theorem LC{c:Sh}{v:V}{l:List V}{i:List Nat}{x:TV}(hr:HR n h1 h)(hl:vA c=true)(hf:qI c<=300)(ha:ei h c false v=some (l,i))(hx:ge h v x)(hk:fg n h v):
  ∃cc t bv rd,x=.c cc/\eP h1 300 cc=some (t,bv,rd)/\(∀r,fI c (l++r)=([t],r))/\PQ h n h1 (v,i) (cc,bv,rd):=by
 have hp:N8 v/\tC v=false:=by
  cases c<;>simp[vA]at hl
  all_goals(cases v<;>first|exact⟨trivial,rfl⟩|(simp[ei]at ha;done))
 obtain⟨cc,rfl,hc⟩:=js (oX hp.1 hx) hp.2;obtain⟨ts,bv,rd,g1,g2,g3,g4,g5,g6,g7⟩:=wV hr c false v l i [cc] ha hc hk;have e:=g1 301 (by omega);simp only[iK,pp]at e;split at e
 .rename_i t a b x' b' j hp1 hp2;obtain⟨rfl,e2⟩:=ad (aa hp2);obtain⟨rfl,rfl⟩:=ad e2;clear e2;clear hp2;obtain⟨rfl,e3⟩:=ad (aa e);obtain⟨rfl,rfl⟩:=ad e3;refine⟨cc,t,_,_,rfl,by simpa using hp1,g2,hc,hk,⟨t,by simpa using hp1⟩,g3,g4,g5,g7,?_⟩;cases v with
  |so id=>
   cases c with
   |os t=>
    simp only[ei]at ha;split at ha
    .rename_i u s ver ho;split at ha
     .obtain ⟨_,rfl⟩:=ad (aa ha);exact⟨rfl,u,s,ver,ho⟩
     .simp at ha
    .simp at ha
   |_=>simp[ei,ik,vA]at ha hl
  |sr id=>
   cases c with
   |rw t=>
    simp only[ei]at ha;split at ha
    .rename_i u s ho;split at ha
     .obtain ⟨_,rfl⟩:=ad (aa ha);exact⟨rfl,u,s,ho⟩
     .simp at ha
    .simp at ha
   |_=>simp[ei,ik,vA]at ha hl
  |op id u p=>
   cases c with
   |pb t c=>
    cases p with
    |cons=>simp[ei]at ha
    |nil=>
     simp only[ei]at ha;split at ha
     .rename_i w q ho;obtain⟨_,ha2⟩:=aP ha;split at ha2
      .obtain ⟨_,rfl⟩:=ad (aa ha2);refine⟨by simp,?_⟩;rintro(⟨u',v',e⟩|⟨u',ln',e⟩)
       .rcases e with e|e<;>rw[ho]at e<;>simp at e
       .rw [ho]at e;cases e
      .simp at ha2
     .simp at ha
   |_=>simp[ei,ik,vA]at ha hl
  |nl k=>trivial
  |_=>(cases c<;>simp[vA]at hl<;>simp[ei]at ha)
 .simp at e
theorem EO(hr:HR n h1 h):∀(ps:List (Bool×Sh))(vs:List V)(ms:List Bool)(m:List V)(j:List Nat)(q:List (V×List Nat))(xs:List TV),oV h ps vs=some (m,j,q)->mT h vs xs->(∀w∈vs,fg n h w)->(∀w∈vs,iz h w=true)->On ps ms=true->BX ps=true->
  ∃aA lent,gD h1 xs ms=some (gY ps m,aA,lent)/\(∀i∈aA,i∈j/\¬mU h i)/\(∀i∈j,i∈aA\/mU h i)/\xq h n h1 q lent:=by
 intro ps;induction ps with
 |nil=>intro vs ms m j q xs ha hx hk hal hm hp;cases vs with|cons=>simp[oV]at ha|nil=>obtain⟨rfl,e⟩:=ad (aa ha);obtain⟨rfl,rfl⟩:=ad e;obtain rfl:=lX hx;exact⟨[],[],rfl,fun i hi=>by simp at hi,fun i hi=>by simp at hi,rfl⟩
 |cons p ps ih=>
  obtain⟨b,c⟩:=p;intro vs ms m j q xs ha hx hk hal hm hp;cases vs with
  |nil=>simp[oV]at ha
  |cons v vs=>
   obtain⟨x,ys,rfl,hx1,hx2⟩:=gU hx;simp only[On,ai,decide_eq_true_eq]at hm;simp only[BX,ai]at hp;simp only[oV]at ha;split at ha
   .rename_i m' j' q' hrest;obtain⟨aA,lent,e1,e2,e3,e4⟩:=ih vs ms.tail m' j' q' ys hrest hx2 (fun w hw=>hk w (by simp[hw])) (fun w hw=>hal w (by simp[hw])) hm.2 hp.2;cases b with
    |true=>
     simp only[cond_true]at ha;split at ha
     .rename_i l i ha2;obtain⟨rfl,e⟩:=ad (aa ha);obtain⟨rfl,rfl⟩:=ad e;have hp1:=hp.1;simp only[cond_true,ai,Nat.ble_eq]at hp1;obtain⟨cc,t,bv,rd,rfl,f1,f2,f3⟩:=LC hr hp1.1 hp1.2 ha2 hx1 (hk v (by simp));refine⟨aA,(cc,bv,rd)::lent,?_,e2,e3,⟨_,_,rfl,f3,e4⟩⟩;rw[SH f1 hm.1 e1];simp only[gY,f2,bX]
     .simp at ha
    |false=>
     simp only[cond_false]at ha;split at ha
     .rename_i l i ha2;obtain⟨rfl,e⟩:=ad (aa ha);obtain⟨rfl,rfl⟩:=ad e;have hp1:=hp.1;simp only[cond_false,ai,Nat.ble_eq,cM]at hp1;have hpl:N8 v:=by cases v<;>first|trivial|(cases c<;>simp[oU,jm]at ha2)
      cases hs:xH c with
      |true=>
       cases c with
       |x t=>
        simp only[oU]at ha2;split at ha2
        .rename_i w l' hw;split at ha2
         .rename_i y hy;obtain⟨rfl,rfl⟩:=ad (aa ha2);obtain⟨cs,hc,h3,h4⟩:=oX hpl hx1;obtain⟨ds,is,f1,f2,f3,f4,_⟩:=s_ hr v w l' cs hw hc (hk v (by simp)) (hal v (by simp));have e5:=pF (iZ w false t y _ hy f2);subst e5;refine⟨is++aA,lent,?_,fun k hk=>?_,fun k hk=>?_,e4⟩
          .rw [h3 (((Mb hw).trans (wN hy)).trans hs),Q1 f1 hm.1 e1];simp only[gY,hs,cond_true];rfl
          .rcases ap.1 hk with hk|hk
           .exact ⟨aE _ (f3 k hk).1,(f3 k hk).2⟩
           .exact ⟨aG _ (e2 k hk).1,(e2 k hk).2⟩
          .rcases ap.1 hk with hk|hk
           .exact (f4 k hk).imp (aE _) (fun q=>q)
           .exact (e3 k hk).imp (aG _) (fun q=>q)
         .simp at ha2
        .simp at ha2
       |st c=>simp[oU]at ha2
       |_=>simp[xH]at hs
      |false=>
       have hag:tC v=false:=by
        cases c with
        |x t=>
         simp only[oU]at ha2;split at ha2
         .rename_i w l' hw;split at ha2
          .rename_i y hy;exact((Mb hw).trans (wN hy)).trans hs
          .simp at ha2
         .simp at ha2
        |_=>cases v<;>first|rfl|(simp[oU]at ha2;done)|(simp[xH]at hs;done)|(simp[yN,xH]at hp1;done)
       obtain⟨cs,hc,h3,h4⟩:=oX hpl hx1;obtain⟨ds,is,g1,g2,g3,g4,g5⟩:=J5 hr c v l i cs ha2 hc (hk v (by simp)) (hal v (by simp));refine⟨is++aA,lent,?_,fun k hk=>?_,fun k hk=>?_,e4⟩
       .obtain ⟨cc,rfl,rfl⟩:=h4 hag;have e:=g1 301 (by omega);have en:f_ h1 300 []=some ([],[]):=rfl;simp only[f_,en]at e;split at e
        .rename_i d a xs' b' hv1 hv2;obtain⟨rfl,rfl⟩:=ad (aa hv2);clear hv2;obtain⟨rfl,rfl⟩:=ad (aa e);rw[UW hv1 hm.1 e1];simp only[gY,hs,g2,cond_false,bX,bC]
        .simp at e
       .rcases ap.1 hk with hk|hk
        .exact ⟨aE _ (g3 k hk).1,(g3 k hk).2⟩
        .exact ⟨aG _ (e2 k hk).1,(e2 k hk).2⟩
       .rcases ap.1 hk with hk|hk
        .exact (g4 k hk).imp (aE _) (fun q=>q)
        .exact (e3 k hk).imp (aG _) (fun q=>q)
     .simp at ha
   .simp at ha
end
section
variable{h:H2}{n:Nat}{h1:bF}
structure Bk(s s':S2)(h1:bF)(I:List Nat)(u:fF):Prop where
 hr:HR s'.next (u++h1) s'.heap
 eQ:jy s.next s.heap s'.heap
 dH:s'.dH=s.dH
 gh:s'.gh=s.gh
 le:s.next<=s'.next
 Gc:∀p∈u,p.1∈I\/(s.next<=p.1/\p.1<s'.next)
 nb:∀i,i<s.next->fO s.heap i=none->fO s'.heap i=none
 wo:∃W,s'.wo=W++s.wo/\(∀p∈u,p.1∈W)/\∀i,i∉W->fO s'.heap i=fO s.heap i
theorem Bk.refl{s:S2}(hr:HR s.next h1 s.heap):Bk s s h1 [] []:=⟨hr,jy.refl _ _,rfl,rfl,au _,fun p hp=>by simp at hp,fun _ _ h=>h,[],rfl,fun p hp=>by simp at hp,fun _ _=>rfl⟩
theorem Bk.seq{s s1 s2:S2}{I J:List Nat}{u1 u2:fF}(a:Bk s s1 h1 I u1)(b:Bk s1 s2 (u1++h1) J u2)(hd:∀i∈I,i∉J)(hI:∀i∈I,i<s.next)(hJ:∀j∈J,j<s.next):Bk s s2 h1 (I++J) (u1++u2):=by
 obtain⟨a3,a4,a5,a6,a7,a8,a9,W,v1,v2,v4⟩:=a;obtain⟨b3,b4,b5,b6,b7,b8,b9,X,x1,x2,x4⟩:=b;refine⟨b3.ext fun i=>wu (fun p hp q hq e=>?_) i,a4.trans a7 b4,b5.trans a5,b6.trans a6,by omega,fun p hp=>?_,fun i hi h=>b9 i (by omega) (a9 i hi h),X++W,by rw[x1,v1,aJ],fun p hp=>?_,fun i hi=>?_⟩
 .rcases a8 p hp with h2|h2<;>rcases b8 q hq with h3|h3
  .exact hd _ h2 (e▸h3)
  .have:=hI _ h2;omega
  .have:=hJ _ h3;omega
  .omega
 .rcases ap.1 hp with hp|hp
  .rcases a8 p hp with h2|h2
   .exact .inl (aE _ h2)
   .exact .inr (by omega)
  .rcases b8 p hp with h2|h2
   .exact .inl (aG _ h2)
   .exact .inr (by omega)
 .rcases ap.1 hp with hp|hp
  .exact aG _ (v2 p hp)
  .exact aE _ (x2 p hp)
 .rw [x4 i fun q=>hi (aE _ q),v4 i fun q=>hi (aG _ q)]
theorem pg:∀(i:List Nat)(s:S2),(je i s).dH=s.dH/\(je i s).next=s.next/\(je i s).gh=s.gh/\(je i s).wo=i++s.wo/\∀j,fO (je i s).heap j=if j∈i then none else fO s.heap j:=by
 intro i;induction i with
 |nil=>intro s;exact⟨rfl,rfl,rfl,rfl,fun j=>by simp[je]⟩
 |cons a i ih=>
  intro s;obtain⟨h1,h2,h3,h4,h5⟩:=ih s;refine⟨h1,h2,h3,by simp[je,eG,h4],fun j=>?_⟩;simp only[je,eG,da,h5];by_cases e:a=j
  .subst e;simp
  .simp [e,Ne.symm e]
theorem jy.sub{g:H2}(hs:∀i o,fO g i=some o->fO h i=some o):jy n h g:=⟨fun i o _ ho=>.inl ⟨o,hs i o ho,sE.refl _⟩⟩
theorem HR.sub{g:H2}(hr:HR n h1 h)(hs:∀i o,fO g i=some o->fO h i=some o):HR n h1 g:=⟨fun i o ho=>let⟨a,b,c⟩:=hr.ob i o (hs i o ho);⟨a,pE (jy.sub hs) c b,oA (au _) (jy.sub hs) c⟩⟩
theorem za{i:List Nat}{s:S2}:∀j o,fO (je i s).heap j=some o->fO s.heap j=some o:=by
 intro j o ho;rw[(pg i s).2.2.2.2]at ho;split at ho
 .simp at ho
 .exact ho
theorem A7{bv:List Nat}{j:Nat}(hj:j∉bv):aB (bv.map (fun i=>(i,(none:Option Ob)))++h1) j=aB h1 j:=wv fun p hp e=>by obtain⟨i,hi,rfl⟩:=cj.1 hp;exact hj (e▸hi)
theorem Bk.md{s:S2}{i bv:List Nat}(hr:HR s.next h1 s.heap)(ho:∀j∈bv,j∈i):Bk s (je i s) h1 i (bv.map fun j=>(j,none)):=by
 obtain⟨k1,k2,k3,k4,k5⟩:=pg i s;refine⟨⟨fun j o hj=>?_⟩,jy.sub za,k1,k3,by omega,fun p hp=>?_,fun j _ h=>by rw[k5];split<;>first|rfl|exact h,i,k4,fun p hp=>?_,fun j hj=>by rw[k5,if_neg hj]⟩
 .obtain ⟨a,b,c⟩:=(hr.sub za).ob j o hj;refine⟨by omega,?_,by rw[k2];exact c⟩;have:j∉i:=fun hm=>by rw[k5,if_pos hm]at hj;simp at hj
  rw[A7 fun hm=>this (ho j hm)];exact b
 .obtain ⟨j,hj,rfl⟩:=cj.1 hp;exact .inl (ho j hj)
 .obtain ⟨j,hj,rfl⟩:=cj.1 hp;exact ho j hj
theorem tV{α:Type}{a b:Sl α}{u:Unit}(hl:Al a b=some u):a.fS=b.fS/\a.l.length=b.l.length:=by
 cases a<;>cases b<;>simp[Al]at hl
 .exact ⟨rfl,rfl⟩
 .exact ⟨rfl,Jg.1 hl⟩
theorem te{c:C}{rd:List Nat}{x:D}{r:List (C×List Nat×List Nat)}{ts:List T}{m:Nat}:fc m ((c,[],rd)::r) (.d x::ts)=fc m r ts:=by simp only[fc]
theorem yJ{x:D}{t:T}{bv rd:List Nat}(hp:eP h1 300 (.d x)=some (t,bv,rd)):bv=[]:=by rw[vn]at hp;obtain⟨_,e⟩:=ad (aa hp);exact(ad e).1.symm
theorem Lr{q:List (V×List Nat)}{v:V}{i:List Nat}(hn:(ky (fun(p:V×List Nat)=>p.2) ((v,i)::q)).Nodup):(∀j∈i,j∉ky (fun(p:V×List Nat)=>p.2) q)/\(ky (fun(p:V×List Nat)=>p.2) q).Nodup:=by simp only[bk]at hn;exact⟨fun j hj hm=>(bZ.1 hn).2.2 j hj j hm rfl,(bZ.1 hn).2.1⟩
theorem xq.lt:∀{q:List (V×List Nat)}{lent:List (C×List Nat×List Nat)},xq h n h1 q lent->∀j∈ky (fun(p:V×List Nat)=>p.2) q,j<n:=by
 intro q;induction q with
 |nil=>intro lent _ j hj;simp at hj
 |cons p q ih=>
  rintro lent ⟨x,m,rfl,hx,hm⟩ j hj;simp only[bk,ap]at hj;rcases hj with hj|hj
  .exact hx.2.2.2.2.2.2.1 j hj
  .exact ih hm j hj
theorem M3{szi m id len k:Nat}{aq:List (Option (List (List D)))}{rd:List Nat}{r:List (C×List Nat×List Nat)}{ts:List T}{w:fF}(hl:aq.length=len)(hr:fc m r ts=some (w,k)):
  fc m ((.fy 1 id 0 len,[id],rd)::r) (.zU szi aq::ts)=some ((id,some (.nst szi (aq.map mZ)))::w,k):=by
 simp only[fc,hl,hr,and_self,if_true]
theorem zN{β:Type}{z:β}(hr0:HR n h1 h):∀(os:List Sh)(q:List (V×List Nat))(lent:List (C×List Nat×List Nat))(l:List V)(s:S2)(H:bF)(k:S2->Option β),gg os q l s k=some z->xq h n h1 q lent->n<=s.next->HR s.next H s.heap->jy n h s.heap->
  (ky (fun(p:V×List Nat)=>p.2) q).Nodup->∃s1 bu,k s1=some z/\fc s.next lent (lr os l)=some (bu,s1.next)/\Bk s s1 H (ky (fun(p:V×List Nat)=>p.2) q) bu:=by
 intro os;induction os with
 |nil=>
  intro q lent l s H k hb hl hn hr eQ hnd;cases q with
  |cons p q=>simp[gg]at hb
  |nil=>cases l with|cons=>simp[gg]at hb|nil=>obtain rfl:lent=[]:=hl;exact⟨s,[],hb,rfl,Bk.refl hr⟩
 |cons o os ih=>
  intro q lent l s H k hb hl hn hr eQ hnd;cases q with
  |nil=>cases o<;>simp[gg]at hb
  |cons p q=>
   obtain⟨v,i⟩:=p;obtain⟨⟨c,bv,rd⟩,m,rfl,⟨hc,hkv,⟨tp,hpk⟩,hsub,hcov,hrd,hlt,hsh⟩,hl2⟩:=hl;obtain⟨hd,hnd2⟩:=Lr hnd;have hI:∀j∈i,j<s.next:=fun j hj=>by have:j<n:=hlt j hj;omega
   have hJ:∀j∈ky (fun(p:V×List Nat)=>p.2) q,j<s.next:=fun j hj=>by have:=hl2.lt j hj;omega
   cases o with
   |nl kk=>cases i with|cons=>simp[gg]at hb|nil=>simp only[gg]at hb;obtain⟨s1,bu,e1,e2,e3⟩:=ih q m l s H k hb hl2 hn hr eQ hnd2;have:bv=[]:=List.sublist_nil.1 hsub;subst this;exact⟨s1,bu,e1,by simp only[lr,fI,bX,te];exact e2,by simpa using e3⟩
   |gn=>simp only[gg]at hb;obtain⟨k1,k2,k3,k4,k5⟩:=pg i s;have b1:Bk s (je i s) H i (bv.map fun j=>(j,none)):=Bk.md hr fun j hj=>hsub.subset hj;obtain⟨s1,bu,e1,e2,e3⟩:=ih q m l (je i s) _ k hb hl2 (by omega) b1.hr (eQ.trans hn b1.eQ) hnd2;rw[k2]at e2;exact⟨s1,_,e1,by simp only[lr,fI,bX];exact J1 e2,by simpa using b1.seq e3 hd hI hJ⟩
   |os t=>
    cases v with
    |nl kk=>
     cases kk with
     |succ=>cases l with|nil=>simp[gg]at hb|cons w l=>cases w<;>simp[gg]at hb
     |zero=>
      cases i with
      |cons=>cases l with|nil=>simp[gg]at hb|cons w l=>cases w<;>simp[gg]at hb
      |nil=>
       match l with
       |.x (.sl u) v::l=>
        simp only[gg]at hb;split at hb
        .rename_i v' hv;obtain⟨e,rfl⟩:=dw hv;cases e;obtain⟨_,hls,hb2⟩:=rT hb;obtain⟨hni,_⟩:=tV hls;obtain⟨s1,bu,e1,e2,e3⟩:=ih q m l s H k hb2 hl2 hn hr eQ hnd2;have:bv=[]:=List.sublist_nil.1 hsub;subst this;refine⟨s1,bu,e1,?_,by simpa using e3⟩;cases v with|mk=>simp[Sl.fS]at hni|nil=>simp only[lr,fI,bX,z_,te];exact e2
        .simp at hb
       |[]|.kb _::_|.nl _::_|.so _::_|.sr _::_|.sb _ _ _ _ _::_|.op _ _ _::_|.ep _ _ _ _::_|.pt _ _::_|.fn _ _ _::_|.om _::_|.rc _::_|.tp _::_|.ni::_|.co _ _::_|.fl _::_|.no::_|.gn::_=>simp[gg]at hb
       |.x (.i _) _::_|.x .b _::_|.x .s _::_|.x (.f _) _::_|.x (.mp _ _) _::_|.x .un _::_|.x (.pr _ _) _::_|.x (.st _) _::_|.x (.ar _ _) _::_|.x (.o _) _::_=>simp[gg]at hb
    |so id=>
     match l with
     |.x (.sl u) v::l=>
      simp only[gg]at hb;split at hb
      .rename_i w old ver v' ho hv;obtain⟨e,rfl⟩:=dw hv;cases e;split at hb
       .rename_i v2 hv2;obtain⟨e,rfl⟩:=dw hv2;cases e;obtain⟨_,hls,hb2⟩:=rT hb;obtain⟨hni,hln⟩:=tV hls;obtain⟨rfl,u0,s0,ver0,ho0⟩:=hsh;have hid:id<n:=hkv;obtain⟨o1,ho1,hos⟩:=(eQ.ob id _ hid ho).resolve_right (by simp[um]);rw[ho0]at ho1;obtain rfl:=aa ho1;obtain⟨_,rfl,hn1,hn2,_⟩:=hos;obtain⟨cc,ece,hcc⟩:=hc;obtain rfl:=fC.1 ece;have ec:=hcc.1 _ (mA (.inl ho0));obtain⟨q1,q2,q3⟩:=(hr.ob id _ ho).2.1;have hosn:sE (.ar u0 old ver) (.ar u0 v (ver+1)):=⟨bH _,rfl,hni.symm,hln.symm,fun e=>by omega⟩
        have key:∀(uu:fF),(∀p∈uu,p.1=id)->(∀l,v=.mk l->aB (uu++H) id=some (.aM (bA u0) (l.map (aS u0))))->Bk s (eG s id (some (.ar u0 v (ver+1)))) H [id] uu:=by intro uu hu hlk;have d:=rV (x:=.iT []) (v:=.no) (aA:=[]) (l:=[]) hr ho hni.symm hln.symm hu hlk (fun _=>rfl) (fun _ _=>trivial) (fun i hi=>by simp at hi);exact⟨d.hr,d.eQ,rfl,rfl,au _,fun p hp=>.inl (by simp[hu p hp]),d.nb,[id],rfl,fun p hp=>by simp[hu p hp],fun j hj=>by simp only[eG];rw[da,if_neg fun e=>hj (by simp[e])]⟩
        cases v with
        |nil=>
         have b1:=key [] (fun p hp=>by simp at hp) (fun l e=>by cases e);obtain⟨s1,bu,f1,f2,e3⟩:=ih q m l _ _ k hb2 hl2 hn b1.hr (eQ.trans hn b1.eQ) hnd2;have hnil:s0.fS=true:=by rw[hn1,<-hni];rfl
         cases s0 with|mk=>simp[Sl.fS]at hnil|nil=>subst ec;have:=yJ hpk;subst this;refine⟨s1,bu,f1,?_,by simpa using b1.seq e3 hd hI hJ⟩;simp only[lr,fI,bX,z_,te];exact f2
        |mk vl=>
         have b1:=key [(id,some (.aM (bA u0) (vl.map (aS u0))))] (fun p hp=>by simp at hp;simp[hp]) (fun l e=>by cases e;rw[aZ,dE,if_pos rfl]);obtain⟨s1,bu,f1,f2,e3⟩:=ih q m l _ _ k hb2 hl2 hn b1.hr (eQ.trans hn b1.eQ) hnd2;have hnil:s0.fS=false:=by rw[hn1,<-hni];rfl
         cases s0 with|nil=>simp[Sl.fS]at hnil|mk tK=>subst ec;have hlk:=(hr0.ob id _ ho0).2.1.2.2 tK rfl;have hp2:=U9 (k:=300) hlk;simp only[mB]at hpk;rw[hp2]at hpk;obtain⟨_,e⟩:=ad (aa hpk);obtain⟨rfl,rfl⟩:=ad e;refine⟨s1,_,f1,?_,by simpa using b1.seq e3 hd hI hJ⟩;simp only[lr,fI,bX,z_,mB];refine O1 ?_ f2;simp only[Sl.l]at hn2 hln;simp only[aO];omega
       .simp at hb
      .simp at hb
     |[]|.kb _::_|.nl _::_|.so _::_|.sr _::_|.sb _ _ _ _ _::_|.op _ _ _::_|.ep _ _ _ _::_|.pt _ _::_|.fn _ _ _::_|.om _::_|.rc _::_|.tp _::_|.ni::_|.co _ _::_|.fl _::_|.no::_|.gn::_=>simp[gg]at hb
     |.x (.i _) _::_|.x .b _::_|.x .s _::_|.x (.f _) _::_|.x (.mp _ _) _::_|.x .un _::_|.x (.pr _ _) _::_|.x (.st _) _::_|.x (.ar _ _) _::_|.x (.o _) _::_=>simp[gg]at hb
    |_=>simp[gg]at hb
   |rw t=>
    cases v with
    |nl kk=>
     cases kk with
     |succ=>cases l with|nil=>simp[gg]at hb|cons w l=>cases w<;>simp[gg]at hb
     |zero=>
      cases i with
      |cons=>cases l with|nil=>simp[gg]at hb|cons w l=>cases w<;>simp[gg]at hb
      |nil=>
       match l with
       |.x (.sl (.sl u)) v::l=>
        simp only[gg]at hb;split at hb
        .rename_i v' hv;obtain⟨e,rfl⟩:=dw hv;cases e;obtain⟨_,hls,hb2⟩:=rT hb;obtain⟨hni,_⟩:=tV hls;obtain⟨s1,bu,e1,e2,e3⟩:=ih q m l s H k hb2 hl2 hn hr eQ hnd2;have:bv=[]:=List.sublist_nil.1 hsub;subst this;refine⟨s1,bu,e1,?_,by simpa using e3⟩;cases v with|mk=>simp[Sl.fS]at hni|nil=>simp only[lr,fI,bX,ym,te];exact e2
        .simp at hb
       |[]|.kb _::_|.nl _::_|.so _::_|.sr _::_|.sb _ _ _ _ _::_|.op _ _ _::_|.ep _ _ _ _::_|.pt _ _::_|.fn _ _ _::_|.om _::_|.rc _::_|.tp _::_|.ni::_|.co _ _::_|.fl _::_|.no::_|.gn::_=>simp[gg]at hb
       |.x (.sl (.i _)) _::_|.x (.sl .b) _::_|.x (.sl .s) _::_|.x (.sl (.f _)) _::_|.x (.sl (.mp _ _)) _::_|.x (.sl .un) _::_|.x (.sl (.pr _ _)) _::_|.x (.sl (.st _)) _::_|.x (.sl (.ar _ _)) _::_|.x (.sl (.o _)) _::_|.x (.i _) _::_|.x .b _::_|.x .s _::_|.x (.f _) _::_|.x (.mp _ _) _::_|.x .un _::_|.x (.pr _ _) _::_|.x (.st _) _::_|.x (.ar _ _) _::_|.x (.o _) _::_=>simp[gg]at hb
    |sr id=>
     match l with
     |.x (.sl (.sl u)) v::l=>
      simp only[gg]at hb;split at hb
      .rename_i w old ln v' ho hv;obtain⟨e,rfl⟩:=dw hv;cases e;split at hb
       .rename_i v2 hv2;obtain⟨e,rfl⟩:=dw hv2;cases e;obtain⟨_,hls,hb2⟩:=rT hb;obtain⟨hni,hln⟩:=tV hls;obtain⟨rfl,u0,s0,ho0⟩:=hsh;have hid:id<n:=hkv;obtain⟨o1,ho1,hos⟩:=(eQ.ob id _ hid ho).resolve_right (by simp[um]);rw[ho0]at ho1;obtain rfl:=aa ho1;obtain⟨rfl,hn1,hn2⟩:=hos;obtain⟨cc,ece,hcc⟩:=hc;obtain rfl:=fC.1 ece;have ec:=hcc.1 _ (sL ho0);obtain⟨q1,q2,q3⟩:=(hr.ob id _ ho).2.1;have hosn:sE (.rw u0 old ln) (.rw u0 v none):=⟨rfl,hni.symm,hln.symm⟩
        have key:∀(uu:fF),(∀p∈uu,p.1=id)->(∀l,v=.mk l->aB (uu++H) id=some (.nst (bA u0) (eX u0 l none)))->Bk s (eG s id (some (.rw u0 v none))) H [id] uu:=by intro uu hu hlk;have d:=G5 (x:=.iT []) (v:=.no) (aA:=[]) (l:=[]) hr ho hosn hu ⟨q1,q2,hlk⟩ trivial rfl trivial (fun i hi=>by simp at hi);exact⟨d.hr,d.eQ,rfl,rfl,au _,fun p hp=>.inl (by simp[hu p hp]),d.nb,[id],rfl,fun p hp=>by simp[hu p hp],fun j hj=>by simp only[eG];rw[da,if_neg fun e=>hj (by simp[e])]⟩
        cases v with
        |nil=>
         have b1:=key [] (fun p hp=>by simp at hp) (fun l e=>by cases e);obtain⟨s1,bu,f1,f2,e3⟩:=ih q m l _ _ k hb2 hl2 hn b1.hr (eQ.trans hn b1.eQ) hnd2;have hnil:s0.fS=true:=by rw[hn1,<-hni];rfl
         cases s0 with|mk=>simp[Sl.fS]at hnil|nil=>subst ec;have:=yJ hpk;subst this;refine⟨s1,bu,f1,?_,by simpa using b1.seq e3 hd hI hJ⟩;simp only[lr,fI,bX,ym,te];exact f2
        |mk vl=>
         have b1:=key [(id,some (.nst (bA u0) (eX u0 vl none)))] (fun p hp=>by simp at hp;simp[hp]) (fun l e=>by cases e;rw[aZ,dE,if_pos rfl]);obtain⟨s1,bu,f1,f2,e3⟩:=ih q m l _ _ k hb2 hl2 hn b1.hr (eQ.trans hn b1.eQ) hnd2;have hnil:s0.fS=false:=by rw[hn1,<-hni];rfl
         cases s0 with|nil=>simp[Sl.fS]at hnil|mk tK=>subst ec;have hlk:=(hr0.ob id _ ho0).2.1.2.2 tK rfl;have hp2:=Ua (k:=300) hlk;simp only[mB]at hpk hp2;rw[hp2]at hpk;obtain⟨_,e⟩:=ad (aa hpk);obtain⟨rfl,rfl⟩:=ad e;refine⟨s1,_,f1,?_,by simpa using b1.seq e3 hd hI hJ⟩;simp only[lr,fI,bX,ym,mB,aO];rw[show eX u0 vl none=(vl.map (IB u0)).map mZ from(yo vl).symm];refine M3 ?_ f2;rw[aO];exact hln.trans hn2.symm
       .simp at hb
      .simp at hb
     |[]|.kb _::_|.nl _::_|.so _::_|.sr _::_|.sb _ _ _ _ _::_|.op _ _ _::_|.ep _ _ _ _::_|.pt _ _::_|.fn _ _ _::_|.om _::_|.rc _::_|.tp _::_|.ni::_|.co _ _::_|.fl _::_|.no::_|.gn::_=>simp[gg]at hb
     |.x (.sl (.i _)) _::_|.x (.sl .b) _::_|.x (.sl .s) _::_|.x (.sl (.f _)) _::_|.x (.sl (.mp _ _)) _::_|.x (.sl .un) _::_|.x (.sl (.pr _ _)) _::_|.x (.sl (.st _)) _::_|.x (.sl (.ar _ _)) _::_|.x (.sl (.o _)) _::_|.x (.i _) _::_|.x .b _::_|.x .s _::_|.x (.f _) _::_|.x (.mp _ _) _::_|.x .un _::_|.x (.pr _ _) _::_|.x (.st _) _::_|.x (.ar _ _) _::_|.x (.o _) _::_=>simp[gg]at hb
    |_=>simp[gg]at hb
   |pb t c2=>
    cases v with
    |op id u p=>
     cases p with
     |cons=>simp[gg]at hb
     |nil=>
      simp only[gg]at hb;split at hb
      case h_2=>simp at hb
      rename_i oid hoid;split at hb
      .rename_i w l' s2 hm;obtain⟨hf,hb2⟩:=aP hb;simp only[ai,decide_eq_true_eq]at hf;obtain⟨hf,rfl⟩:=hf;obtain⟨g1,g2,g3,g4,g5,_⟩:=vy c2 false l s w l' s2 H hm hr;subst g5;obtain⟨hid,hnn⟩:=hsh;have hio:id∈bv:=(hcov id hid).resolve_right hnn
       obtain rfl:c=.op id 0:=by
        have e0:mX u []=0:=by cases u<;>rfl
        have:[c]=[C.op id (mX u [])]:=hc;rw[e0]at this;exact fC.1 this
       obtain⟨k1,k2,k3,k4,k5⟩:=pg i s2;have hids:id<s2.next:=by have:=hI id hid;have:=g3.le;omega
       have b1:Bk s (eG (je i s2) id (some (.bx u w))) H i ((id,some (.box (iF s.next (fI c2 l).1).1))::(iF s.next (fI c2 l).1).2.1++bv.map (fun j=>(j,none))):=by
        obtain⟨a3,a4,a5,a6,a7,a8,W,v1,v2,v3,v4⟩:=g3;have hs2:jy s2.next s2.heap (eG (je i s2) id (some (.bx u w))).heap:=jy.trans (au _) (jy.sub za) jy.bx;refine⟨⟨fun j o hj=>?_⟩,jy.trans a7 a4 hs2,k1.trans a5,k3.trans a6,by simp only[eG];omega,fun p hp=>?_,fun j hj hn=>(by simp only[eG];rw[da,if_neg (fun e=>by rw[e,hn]at hoid;cases hoid),k5];split<;>first|rfl|(rw[v4 j fun q=>by have:=(v3 j q).1;omega];exact hn)),id::(i++W),by simp only[eG,k4,v1,aU,aJ],fun p hp=>?_,fun j hj=>?_⟩
        .simp only[eG]at hj|-;rw[da]at hj;split at hj
         .rename_i e;subst e;obtain rfl:=aa hj;refine⟨by omega,?_,?_⟩
          .rw [aU,aU,dE,if_pos rfl];exact⟨_,rfl,lJ hs2 g2 g1,hf⟩
          .rw [k2];exact gS (au _) hs2 g2
         .rename_i e;have hji:j∉i:=fun hm=>by rw[k5,if_pos hm]at hj;simp at hj
          rw[k5,if_neg hji]at hj;obtain⟨c1,c2',c3⟩:=a3.ob j o hj;refine⟨by omega,?_,?_⟩
          .rw [aU,aU,dE,if_neg e,aJ];have:aB ((iF s.next (fI c2 l).1).2.1++(bv.map (fun j=>(j,none))++H)) j=aB ((iF s.next (fI c2 l).1).2.1++H) j:=by simp only[aB,gV];have:=A7 (h1:=H) (bv:=bv) (j:=j) fun hm=>hji (hsub.subset hm);simp only[aB,gV]at this;cases cA (iF s.next (fI c2 l).1).2.1 j with|some x=>rfl|none=>exact this
           rw[this];exact pE hs2 c3 c2'
          .rw [k2];exact oA (au _) hs2 c3
        .rcases ap.1 hp with hp|hp
         .rcases aN.1 hp with rfl|hp
          .exact .inl hid
          .have:=a8 p hp;exact .inr ⟨this.1,by simp only[eG];omega⟩
         .obtain ⟨j,hj,rfl⟩:=cj.1 hp;exact .inl (hsub.subset hj)
        .rcases ap.1 hp with hp|hp
         .rcases aN.1 hp with rfl|hp
          .simp
          .simp [v2 p hp]
         .obtain ⟨j,hj,rfl⟩:=cj.1 hp;simp[hsub.subset hj]
        .simp only[eG];rw[da,if_neg fun e=>hj (by simp[e]),k5,if_neg fun q=>hj (by simp[q]),v4 j fun q=>hj (by simp[q])]
       obtain⟨s1,bu,e1,e2,e3⟩:=ih q m _ _ _ k hb2 hl2 (by have:=b1.le;omega) b1.hr (eQ.trans hn b1.eQ) hnd2;have en:(eG (je i s2) id (some (.bx u w))).next=(iF s.next (fI c2 l).1).2.2:=by simp only[eG,k2,g4]
       rw[en]at e2;refine⟨s1,_,e1,?_,by simpa using b1.seq e3 hd hI hJ⟩;simp only[lr,fI,bX];have:=O0 (n:=s.next) (id:=id) (bv:=bv) (rd:=rd) (by simpa using hio) e2;rw[this];simp only[aU,aJ]
      .simp at hb
    |_=>simp[gg]at hb
   |_=>simp[gg]at hb
end
def RM(c:Sh):Bool:=xH c||yN c
section
variable{h:H2}{n:Nat}{h1:bF}
theorem Cm{c:Sh}{l l':List V}{s s':S2}{w:V}(hm:ri c false l s=some (w,l',s'))(ho:yN c=true):(fI c l).1.length=1:=by
 cases c with
 |x t=>match l with|.x u v::l=>simp only[ri]at hm;obtain⟨hc,_⟩:=aP hm;simp only[ai,decide_eq_true_eq]at hc;obtain⟨rfl,_⟩:=hc;simpa[fI,bJ,yN]using ho|[]|.kb _::_|.nl _::_|.so _::_|.sr _::_|.sb _ _ _ _ _::_|.op _ _ _::_|.ep _ _ _ _::_|.pt _ _::_|.fn _ _ _::_|.om _::_|.rc _::_|.tp _::_|.ni::_|.co _ _::_|.fl _::_|.no::_|.gn::_=>simp[ri]at hm
 |os t=>match l with|.x (.sl u) v::l=>rfl|[]|.kb _::_|.nl _::_|.so _::_|.sr _::_|.sb _ _ _ _ _::_|.op _ _ _::_|.ep _ _ _ _::_|.pt _ _::_|.fn _ _ _::_|.om _::_|.rc _::_|.tp _::_|.ni::_|.co _ _::_|.fl _::_|.no::_|.gn::_=>simp[ri]at hm|.x (.i _) _::_|.x .b _::_|.x .s _::_|.x (.f _) _::_|.x (.mp _ _) _::_|.x .un _::_|.x (.pr _ _) _::_|.x (.st _) _::_|.x (.ar _ _) _::_|.x (.o _) _::_=>simp[ri]at hm
 |rw t=>match l with|.x (.sl (.sl u)) v::l=>rfl|[]|.kb _::_|.nl _::_|.so _::_|.sr _::_|.sb _ _ _ _ _::_|.op _ _ _::_|.ep _ _ _ _::_|.pt _ _::_|.fn _ _ _::_|.om _::_|.rc _::_|.tp _::_|.ni::_|.co _ _::_|.fl _::_|.no::_|.gn::_=>simp[ri]at hm|.x (.sl (.i _)) _::_|.x (.sl .b) _::_|.x (.sl .s) _::_|.x (.sl (.f _)) _::_|.x (.sl (.mp _ _)) _::_|.x (.sl .un) _::_|.x (.sl (.pr _ _)) _::_|.x (.sl (.st _)) _::_|.x (.sl (.ar _ _)) _::_|.x (.sl (.o _)) _::_|.x (.i _) _::_|.x .b _::_|.x .s _::_|.x (.f _) _::_|.x (.mp _ _) _::_|.x .un _::_|.x (.pr _ _) _::_|.x (.st _) _::_|.x (.ar _ _) _::_|.x (.o _) _::_=>simp[ri]at hm
 |pb t c=>rfl
 |nl k=>rfl
 |_=>first|(simp[ri]at hm;done)|(simp[yN]at ho;done)
theorem A2:∀(rs:List Sh)(l:List V)(s:S2)(xs:List V)(l':List V)(s':S2)(h1:bF),I7 rs l s=some (xs,l',s')->HR s.next h1 s.heap->rs.all RM=true->
  BJ s'.heap (dl xs) (ir s.next (mQ rs l)).1/\(∀x∈xs,fg s'.next s'.heap x)/\Mk s s' h1 (ir s.next (mQ rs l)).2.1/\s'.next=(ir s.next (mQ rs l)).2.2/\xs.length=rs.length:=by
 intro rs;induction rs with
 |nil=>intro l s xs l' s' h1 hm hr _;obtain⟨rfl,e⟩:=ad (aa hm);obtain⟨rfl,rfl⟩:=ad e;exact⟨rfl,fun x hx=>by simp at hx,Mk.skip hr (au _),rfl,rfl⟩
 |cons c rs ih=>
  intro l s xs l' s' h1 hm hr hok;simp only[iN,ai]at hok;simp only[I7]at hm;split at hm
  .rename_i x l1 s1 hm1;split at hm
   .rename_i ys l2 s2 hm2;obtain⟨rfl,e⟩:=ad (aa hm);obtain⟨rfl,rfl⟩:=ad e;obtain⟨q1,q2,q3,q4,q5,q6⟩:=vy c false l s x l1 s1 h1 hm1 hr;have q6:=q6 rfl;subst q5
    have hu:w6 s.next (bif xH c then .agg (fI c l).1 else .c ((fI c l).1.headD default))=(bif xH c then .agg (iF s.next (fI c l).1).1 else .c ((iF s.next (fI c l).1).1.headD default),(iF s.next (fI c l).1).2.1,(iF s.next (fI c l).1).2.2)/\sI s1.heap x (bif xH c then .agg (iF s.next (fI c l).1).1 else .c ((iF s.next (fI c l).1).1.headD default)):=by
     cases hs:xH c with
     |true=>exact⟨rfl,yd (q6.trans hs) q1⟩
     |false=>
      have hl:(fI c l).1.length=1:=by
       have h2:yN c=true:=by simpa[RM,hs]using hok.1
       exact Cm hm1 h2
      match ht:(fI c l).1,hl with|[t],_=>rw[ht]at q1;simp only[rn]at q1;refine⟨by simp only[cond_false,bX,w6,rn],?_⟩;simp only[cond_false,rn,bX];exact dY (q6.trans hs) q1
    obtain⟨hu1,hu2⟩:=hu;obtain⟨p1,p2,p3,p4,p5⟩:=ih (fI c l).2 s1 ys l2 s2 _ hm2 q3.hr hok.2;rw[q4]at p1 p3 p4;simp only[mQ,ir,hu1];refine⟨⟨_,_,rfl,v8 p3.eQ q2 hu2,p1⟩,fun y hy=>?_,q3.seq p3,p4,by simp[p5]⟩;rcases aN.1 hy with rfl|hy
    .exact gS p3.le p3.eQ q2
    .exact p2 y hy
   .simp at hm
  .simp at hm
end
def F8:Ty->Bool
 |.i _|.b|.s|.f _|.un=>true
 |.pr a c=>F8 a&&F8 c
 |.st t|.ar _ t=>F8 t
 |_=>false
def QE:Sh->Bool
 |.x t=>F8 t
 |_=>false
def Qe(sp:lD):Bool:=sp.ps.all (fun p=>!p.1)&&sp.al.all (fun w=>w.1.all QE&&w.2.isEmpty)
def Nu(sp:lD):Bool:=On sp.ps sp.kh&&BX sp.ps&&sp.al.all (fun w=>w.1.all RM)&&(!sp.ro||Qe sp)
def Nv(Q:List Sh->List Sh->List V->Prop):(r o:List Sh)->(w:Wy)->vQ.GY r o w->Prop
 |r,o,[],z=>Q r o (o9 (g_ r++g_ o) z)
 |r,o,(r',o')::w,z=>match z with|.inl z=>Q r o (o9 (g_ r++g_ o) z)|.inr z=>Nv Q r' o' w z
def Nw(Q:List Sh->List Sh->List V->Prop):(w:Wy)->vQ w->Prop
 |[],z=>nomatch z
 |(r,o)::w,z=>Nv Q r o w z
def cY(P:Program)(f:FuncId)(sp:lD):Prop:=Nu sp=true/\∀p z,sp.fn p=some z->Nw (fun rs os l=>sy P f (gY sp.ps (o9 (g_ (sp.ps.map (·.2))) p)) (mQ rs (l.take (g_ rs).length)) (lr os (l.drop (g_ rs).length))) sp.al z
def pS(P:Program)(tb:ET):Prop:=∀e∈tb,cY P e.1 e.2
theorem pS.nil{P:Program}:pS P []:=fun e he=>by simp at he
theorem pS.cons{P:Program}{f:FuncId}{sp:lD}{tb:ET}(h:cY P f sp)(ht:pS P tb):pS P ((f,sp)::tb):=fun e he=>by
 rcases aN.1 he with rfl|he
 .exact h
 .exact ht e he
theorem H7{β:Type}{k:List Sh->List Sh->List V->Option β}{Q:List Sh->List Sh->List V->Prop}{b:β}:∀(w:Wy)(z:vQ w),RZ k w z=some b->Nw Q w z->∃r o l,(r,o)∈w/\k r o l=some b/\Q r o l:=by
 have key:∀(w:Wy)(r o:List Sh)(z:vQ.GY r o w),PY k r o w z=some b->Nv Q r o w z->∃r' o' l,(r',o')∈(r,o)::w/\k r' o' l=some b/\Q r' o' l:=by
  intro w;induction w with
  |nil=>intro r o z hz hq;exact⟨r,o,_,by simp,hz,hq⟩
  |cons p w ih=>intro r o z hz hq;cases z with|inl z=>exact⟨r,o,_,by simp,hz,hq⟩|inr z=>obtain⟨r',o',l,h1,h2,h3⟩:=ih p.1 p.2 z hz hq;exact⟨r',o',l,aC _ h1,h2,h3⟩
 intro w z hz hq;cases w with|nil=>exact nomatch z|cons p w=>exact key w p.1 p.2 z hz hq
theorem zI{u:Ty}{v:V}{y:El u}(h:ut u v=some y):v=.x u y:=by cases v with|x t v=>obtain⟨rfl,rfl⟩:=dw (show gN t u v=some y from h);rfl|_=>simp[ut]at h
theorem qb:∀(cs:List Ty)(l:List V)(p:qH cs),v_ cs l=some p->o9 cs p=l:=by
 have key:∀(r:List Ty)(a:Ty)(l:List V)(p:qH.EX a r),E_ a r l=some p->NE a r p=l:=by
  intro r;induction r with
  |nil=>
   intro a l p h
   match l with|[]=>exact nomatch (show(none:Option (qH.EX a []))=some p from h)|[v]=>rw[zI (show ut a v=some p from h)];rfl|_::_::_=>exact nomatch (show(none:Option (qH.EX a []))=some p from h)
  |cons c r ih=>
   intro a l p h
   match l with
   |[]=>exact nomatch (show(none:Option (qH.EX a (c::r)))=some p from h)
   |v::l=>
    have h:Ie (ut a v) (E_ c r l)=some p:=h;cases hx:ut a v with
    |none=>rw[hx]at h;exact nomatch h
    |some x=>cases hy:E_ c r l with|none=>rw[hx,hy]at h;exact nomatch h|some y=>rw[hx,hy]at h;obtain rfl:=aa h;show V.x a x::NE c r y=v::l;rw[ih c l y hy,zI hx]
 intro cs l p h
 match cs,l with|[],[]=>rfl|[],_::_=>exact nomatch (show(none:Option (qH []))=some p from h)|a::r,l=>exact key r a l p h
section
variable{h:H2}{n:Nat}{h1:bF}
theorem CX{a b:List V}{x y:List TV}(ha:mT h a x)(hb:mT h b y):mT h (a++b) (x++y):=by induction a generalizing x with|nil=>rw[lX ha];exact hb|cons v a ih=>obtain⟨c,r,rfl,h2,h3⟩:=gU ha;exact⟨h2,ih h3⟩
theorem x8:∀(v:V)(l:List V)(cs:List C),vU v=some l->fm h v cs->fg n h v->iz h v=true->mT h l (cs.map TV.c)/\(∀w∈l,fg n h w)/\∀w∈l,iz h w=true:=by
 intro v;induction v with
 |ni=>intro l cs hl hc _ _;obtain rfl:=aa hl;obtain rfl:=hc;exact⟨trivial,fun w hw=>by simp at hw,fun w hw=>by simp at hw⟩
 |co a r iha ihr=>
  intro l cs hl hc hk hal;simp only[vU]at hl;obtain⟨h1,hl⟩:=aP hl;simp only[ai,beq_iff_eq,du]at h1;split at hl
  .rename_i l' hl';obtain rfl:=aa hl;obtain⟨x,y,rfl,h2,h3⟩:=hc;simp only[iz,ai]at hal;obtain⟨q1,q2,q3⟩:=ihr l' y hl' h3 hk.2 hal.2;have hlen:=iD h2;rw[h1.1]at hlen
   match x,hlen with
   |[c],_=>
    refine⟨⟨ct (dY h1.2 h2),q1⟩,fun w hw=>?_,fun w hw=>?_⟩
    .rcases aN.1 hw with rfl|hw
     .exact hk.1
     .exact q2 w hw
    .rcases aN.1 hw with rfl|hw
     .exact hal.1
     .exact q3 w hw
  .simp at hl
 |_=>intro l cs hl;simp[vU]at hl
theorem Gw:∀(tb:ET)(f:Nat)(vs:List V)(sp:lD)(l:List V)(i:List Nat)(q:List (V×List Nat)),Bi h f vs tb=some (sp,l,i,q)->(f,sp)∈tb/\oV h sp.ps vs=some (l,i,q):=by
 intro tb;induction tb with
 |nil=>intro f vs sp l i q hf;simp[Bi]at hf
 |cons e tb ih=>
  obtain⟨g,S5⟩:=e;intro f vs sp l i q hf;simp only[Bi]at hf;cases hg:(g==f)with
  |false=>rw[hg,cond_false]at hf;obtain⟨h2,h3⟩:=ih f vs sp l i q hf;exact⟨aC _ h2,h3⟩
  |true=>
   rw[hg,cond_true]at hf;obtain rfl:g=f:=by simpa using hg
   split at hf
   .rename_i l' i' q' ha;simp only[bn,Prod.mk.injEq]at hf;obtain⟨rfl,rfl,rfl,rfl⟩:=hf;exact⟨by simp,ha⟩
   .obtain ⟨h2,h3⟩:=ih g vs sp l i q hf;exact⟨aC _ h2,h3⟩
theorem DM:∀{l:List Nat},yP l=true->l.Nodup:=by intro l;induction l with|nil=>intro _;exact fY|cons a l ih=>intro hl;simp only[yP,ai,du,List.contains_eq_mem,decide_eq_false_iff_not]at hl;exact List.nodup_cons.2 ⟨hl.1,ih hl.2⟩
theorem xq.bv:∀{q:List (V×List Nat)}{lent:List (C×List Nat×List Nat)},xq h n h1 q lent->
  (lent.flatMap (fun(p:C×List Nat×List Nat)=>p.2.1)).Sublist (q.flatMap (·.2))/\(∀j∈lent.flatMap (fun(p:C×List Nat×List Nat)=>p.2.2),j∈q.flatMap (·.2)):=by
 intro q;induction q with
 |nil=>rintro lent rfl;exact⟨bM _,fun j hj=>hj⟩
 |cons p q ih=>
  rintro lent ⟨x,m,rfl,hx,hm⟩;obtain⟨a,b⟩:=ih hm;simp only[bk];refine⟨hx.2.2.2.1.append a,fun j hj=>?_⟩;rcases ap.1 hj with hj|hj
  .exact aE _ (hx.2.2.2.2.2.1 j hj)
  .exact aG _ (b j hj)
theorem E5(hr:HR n h1 h):∀{q:List (V×List Nat)}{lent:List (C×List Nat×List Nat)},xq h n h1 q lent->eS h1 lent=true:=by
 intro q;induction q with
 |nil=>rintro lent rfl;rfl
 |cons p q ih=>
  obtain⟨v,i⟩:=p;rintro lent ⟨⟨c,bv,rd⟩,m,rfl,hx,hm⟩;have hw:=ih hm;obtain⟨hc,_,_,_,_,_,_,hsh⟩:=hx;cases c with
  |fy sz id off len=>
   cases v with
   |so id'=>obtain⟨_,u,s,ver,ho⟩:=hsh;obtain⟨cc,e,hcc⟩:=hc;obtain rfl:=fC.1 e;have e2:=hcc.1 _ (mA (.inl ho));cases s with|nil=>simp[mB]at e2|mk l=>simp only[mB,C.fy.injEq]at e2;obtain⟨rfl,rfl,rfl,rfl⟩:=e2;exact Td ((hr.ob _ _ ho).2.1.2.2 l rfl) hw
   |sr jd=>obtain⟨_,u,s,ho⟩:=hsh;obtain⟨cc,e,hcc⟩:=hc;obtain rfl:=fC.1 e;have e2:=hcc.1 _ (sL ho);cases s with|nil=>simp[mB]at e2|mk l=>simp only[mB,C.fy.injEq]at e2;obtain⟨rfl,rfl,rfl,rfl⟩:=e2;have hl:=(hr.ob _ _ ho).2.1.2.2 l rfl;simp only[eS,hl,eX,aO,beq_self_eq_true,Bool.and_self,Bool.true_and];exact hw
   |nl k=>have:[C.fy sz id off len]=[DN k]:=hc
          simp[DN]at this
   |op a b2 e=>have:[C.fy sz id off len]=[C.op a (mX b2 e)]:=hc
               simp at this
   |_=>exact hsh.elim
  |_=>exact hw
end
section
variable{P:Program}{h1:bF}{β:Type}{s:S2}{k:V->S2->List Nat->Option β}{z:β}
def U6(P:Program)(h1:bF)(kk:K)(xs:List TV)(s:S2)(k:V->S2->List Nat->Option β)(z:β):Prop:=∃v s' l,k v s' l=some z/\∃call:Call,ny P call/\∃x u aA m,cQ call kk (xs.map some) h1 s.next=some (x,u,aA,m)/\rg s s' h1 x u aA m v l
theorem OG{b:Bool}{f:Nat}{caps:V}{xf:TV}{cs:List V}(hf:ge s.heap (.fn b f caps) xf)(hk:fg s.next s.heap (.fn b f caps))(ha:iz s.heap (.fn b f caps)=true)(hc:vU caps=some cs):
  ∃cc,Mh (some xf)=some (f,cc)/\mT s.heap cs (cc.map TV.c)/\(∀w∈cs,fg s.next s.heap w)/\∀w∈cs,iz s.heap w=true:=by
 rcases E9 hf with⟨rfl,ds,hd,rfl⟩|⟨rfl,xs,hd,rfl⟩
 .obtain ⟨a1,a2⟩:=zP (h:=s.heap) caps ha;exact⟨ds.map .d,rfl,x8 caps cs _ hc (MV caps ds hd) (a2 _) a1⟩
 .exact ⟨xs,rfl,x8 caps cs _ hc hd hk ha⟩
theorem Dk{xs:List V}{vs:List TV}{g:H2}{m:Nat}(h:BJ g (dl xs) vs)(hk:∀x∈xs,fg m g x):ge g (Qf xs) (ud vs)/\fg m g (Qf xs):=by
 have hrow:∀(l:List V),(∀x∈l,fg m g x)->fg m g (dl l):=by intro l;induction l with|nil=>intro _;trivial|cons a l ih=>intro hl;exact⟨hl a (by simp),ih fun x hx=>hl x (by simp[hx])⟩
 match xs with|[]=>obtain rfl:=h;exact⟨⟨[],rfl,rfl⟩,trivial⟩|[v]=>obtain⟨x,ys,rfl,h2,h3⟩:=h;obtain rfl:=h3;exact⟨ct h2,hk v (by simp)⟩|a::b::l=>obtain⟨x,ys,rfl,h2,h3⟩:=h;obtain⟨y,zs,rfl,h4,h5⟩:=h3;exact⟨⟨_,rfl,_,_,rfl,h2,_,_,rfl,h4,h5⟩,hrow _ hk⟩
theorem Lz:∀(t:Ty)(v:El t),F8 t=true->∀d∈aS t v,∃y,d=.lit y:=by
 intro t;induction t with
 |pr a c iha ihc=>
  intro v h d hd;simp only[F8,ai]at h;rcases ap.1 (show d∈aS a v.1++aS c v.2 from hd)with hd|hd
  .exact iha _ h.1 d hd
  .exact ihc _ h.2 d hd
 |st t ih=>intro v h d hd;exact ih v h d hd
 |ar n t ih=>intro v h d hd;obtain⟨a,_,ha⟩:=List.mem_flatMap.1 (show d∈v.1.flatMap (aS t)from hd);exact ih a h d ha
 |un=>intro v h d hd;exact absurd (show d∈[]from hd) (by simp)
 |i k=>intro v h d hd;exact⟨_,ao.1 (show d∈[_]from hd)⟩
 |b=>intro v h d hd;exact⟨_,ao.1 (show d∈[_]from hd)⟩
 |s=>intro v h d hd;exact⟨_,ao.1 (show d∈[_]from hd)⟩
 |f k=>intro v h d hd;exact⟨_,ao.1 (show d∈[_]from hd)⟩
 |_=>intro v h;simp[F8]at h
theorem Ly:∀(rs:List Sh)(l:List V)(s:S2)(xs:List V)(l':List V)(s':S2),I7 rs l s=some (xs,l',s')->rs.all QE=true->rs.all RM=true->(mQ rs l).all y8=true:=by
 intro rs;induction rs with
 |nil=>intro l s xs l' s' _ _ _;rfl
 |cons c rs ih=>
  intro l s xs l' s' hm hl ho;simp only[iN,ai]at hl ho;simp only[I7]at hm;split at hm
  .rename_i x l1 s1 hm1;split at hm
   .rename_i ys l2 s2 hm2;cases c with
    |x t=>
     have ho1:=ho.1
     match l with
     |.x u v::l=>
      have hm1':=hm1;simp only[ri]at hm1;obtain⟨hc,hm3⟩:=aP hm1;simp only[ai,decide_eq_true_eq]at hc;obtain⟨rfl,_⟩:=hc;obtain⟨rfl,e⟩:=ad (aa hm3);obtain⟨rfl,rfl⟩:=ad e;have hlit:=Lz u v hl.1;simp only[mQ,fI,iN,ai];refine⟨?_,ih _ _ _ _ _ hm2 hl.2 ho.2⟩;cases hs:xH (.x u)with
      |true=>simp only[cond_true,y8,bd];intro t ht;obtain⟨d,hd,rfl⟩:=cj.1 ht;obtain⟨y,rfl⟩:=hlit d hd;rfl
      |false=>
       have h2:yN (.x u)=true:=by simpa[RM,hs]using ho1
       have hlen:=Cm hm1' h2;simp only[fI,aO]at hlen
       match he:aS u v,hlen with|[d],_=>obtain⟨y,rfl⟩:=hlit d (by rw[he];simp);rfl
     |[]|.kb _::_|.nl _::_|.so _::_|.sb _ _ _ _ _::_|.op _ _ _::_|.ep _ _ _ _::_|.pt _ _::_|.fn _ _ _::_|.om _::_|.rc _::_|.tp _::_|.ni::_|.co _ _::_|.fl _::_|.no::_|.gn::_=>simp[ri]at hm1
    |_=>simp[QE]at hl
   .simp at hm
  .simp at hm
theorem Ol{h:H2}:∀(ps:List (Bool×Sh))(vs:List V)(m:List V)(j:List Nat)(q:List (V×List Nat)),oV h ps vs=some (m,j,q)->ps.all (fun p=>!p.1)=true->q=[]:=by
 intro ps;induction ps with
 |nil=>intro vs m j q ha _;cases vs with|nil=>simp[oV]at ha;exact ha.2.2|cons=>simp[oV]at ha
 |cons p ps ih=>
  obtain⟨b,c⟩:=p;intro vs m j q ha hb;simp only[iN,ai,du]at hb;obtain⟨rfl,hb2⟩:=hb;cases vs with
  |nil=>simp[oV]at ha
  |cons v vs=>
   simp only[oV]at ha;split at ha
   .rename_i m' j' q' hr;simp only[cond_false]at ha;split at ha
    .obtain ⟨_,e⟩:=ad (aa ha);obtain⟨_,rfl⟩:=ad e;exact ih vs m' j' q' hr hb2
    .simp at ha
   .simp at ha
theorem GQ{tb:ET}{ro:Bool}{kh:List Bool}{f:V}{vs:List V}{xf:TV}{xs:List TV}(htb:pS P tb)(hz:xV tb ro kh f vs s k=some z)(hr:HR s.next h1 s.heap)(hf:ge s.heap f xf)(hfk:fg s.next s.heap f)(hfa:iz s.heap f=true)
  (hx:mT s.heap vs xs) (hk:∀w∈vs,fg s.next s.heap w) (ha:∀w∈vs,iz s.heap w=true):U6 P h1 (.call ro kh) (xf::xs) s k z:=by
 cases f with
 |fn b fid caps=>
  simp only[xV]at hz;split at hz
  case h_2=>simp at hz
  rename_i sp pay j q hfs;split at hfs
  case h_2=>simp at hfs
  rename_i cs hcs;obtain⟨hmem,hargs⟩:=Gw tb fid _ sp pay j q hfs;obtain⟨hwy,hgood⟩:=htb _ hmem;simp only[Nu,ai]at hwy;obtain⟨⟨⟨w1,w2⟩,w3⟩,w4⟩:=hwy;obtain⟨hc,hz2⟩:=aP hz;simp only[ai,decide_eq_true_eq]at hc;obtain⟨⟨⟨c1,c2⟩,c3⟩,c4⟩:=hc;clear hz;split at hz2
  case h_2=>simp at hz2
  rename_i p hp;obtain⟨zz,hzz,hz3⟩:=rT hz2;obtain⟨rs,os,l,hm,hk3,hg⟩:=H7 sp.al zz hz3 (hgood p zz hzz);rw[qb _ _ _ hp]at hg;obtain⟨cc,hfn,d1,d2,d3⟩:=OG hf hfk hfa hcs;rw[c2]at w1;obtain⟨aA,lent,e1,e2,e3,e4⟩:=EO hr sp.ps (vs++cs) kh pay j q (xs++cc.map TV.c) hargs (CX hx d1) (fun w hw=>(ap.1 hw).elim (hk w) (d2 w)) (fun w hw=>(ap.1 hw).elim (ha w) (d3 w)) w1 w2;obtain⟨o1,o2⟩:=e4.bv;have hnd:=DM c3;have hap:∀i∈ky (fun(p:V×List Nat)=>p.2) q,i∉j:=fun i hi=>by simpa using bd.1 c4 i hi
  have hdec:decide ((lent.flatMap (fun(p:C×List Nat×List Nat)=>p.2.1)).Nodup/\(lent.flatMap (fun(p:C×List Nat×List Nat)=>p.2.1)).all (fun i=>!aA.contains i)=true)=true:=by refine decide_eq_true ⟨o1.nodup hnd,bd.2 fun i hi=>?_⟩;have:=hap i (o1.subset hi);simpa using fun hm=>this (e2 i hm).1
  have hwl:=E5 hr e4;have hokR:rs.all RM=true:=bd.1 w3 _ hm;cases ro with
  |true=>
   have hro:sp.ro=true:=by simpa using c1
   rw[hro]at w4;have w5:Qe sp=true:=by simpa using w4
   simp only[Qe,ai]at w5;obtain⟨v1,v2⟩:=w5;have v3:=bd.1 v2 _ hm;simp only[ai,List.isEmpty_iff]at v3;obtain⟨v3,rfl⟩:=v3;have hq:=Ol _ _ _ _ _ hargs v1;subst hq;obtain rfl:lent=[]:=e4;simp only[cond_true]at hk3;obtain⟨s1,bu,b1,b2,b3⟩:=zN hr [] [] [] _ s h1 _ hk3 rfl (au _) hr (jy.refl _ _) fY;obtain⟨rfl,hs1⟩:[]=bu/\s.next=s1.next:=by simpa[fc,lr]using b2
   split at b1
   case h_2=>simp at b1
   rename_i ys l2 s2 hmk;obtain⟨m1,m2,m3,m4,m5⟩:=A2 rs _ s1 ys l2 s2 _ hmk b3.hr hokR;obtain⟨t1,t2⟩:=Dk m1 m2;have hlit:=Ly rs _ s1 ys l2 s2 hmk v3 hokR;refine⟨_,_,_,b1,only fid (gY sp.ps pay) (mQ rs (l.take (g_ rs).length)) (lr [] (l.drop (g_ rs).length)),Ho hg,?_⟩;have hld:uQ h1 s.next true aA [] (some (mQ rs (l.take (g_ rs).length),lr [] (l.drop (g_ rs).length)))=some (ud (ir s.next (mQ rs (l.take (g_ rs).length))).1,(ir s.next (mQ rs (l.take (g_ rs).length))).2.1,aA,(ir s.next (mQ rs (l.take (g_ rs).length))).2.2):=by simp only[uQ,hlit,lr,List.isEmpty_nil,and_self,if_true]
   obtain⟨g1,g2⟩:=HY (ro:=true) hfn (nv xs) e1 hwl hdec hld;rw[<-hs1]at t1 m3 m4;refine⟨_,_,_,_,By g1 g2,?_⟩;obtain⟨W1,x1,x2,x3⟩:=b3.wo;obtain⟨W2,y1,y2,y3,y4⟩:=m3.wo;refine⟨t1,t2,m3.hr,b3.eQ.trans b3.le m3.eQ,by rw[m3.dH,b3.dH],by rw[m3.gh,b3.gh],by omega,by have:=b3.le;have:=m3.le;omega,fun i hi=>aE _ (e2 i hi).1,fun i hi h=>(by rw[y4 i fun q=>by have:=(y3 i q).1;have:=b3.le;omega];exact b3.nb i hi h),W2++W1,by rw[y1,x1];simp only[aJ],fun p hp=>aE _ (y2 p hp),fun i hi=>?_⟩;simp only[ap,not_or]at hi;rw[y4 i hi.1,x3 i hi.2]
  |false=>
   simp only[cond_false]at hk3;split at hk3
   case h_2=>simp at hk3
   rename_i s0 hs0;obtain⟨fu,f1,f2,f3,f4,f5,f6,f7,f8,f9⟩:=Cg (s0:=s) rfl hr j s0 aA aA hs0 e2 e3;obtain⟨s1,bu,b1,b2,b3⟩:=zN hr os q lent _ s0 (fu++h1) _ hk3 e4 (by omega) (by rw[f6];exact f2) f3 hnd;split at b1
   case h_2=>simp at b1
   rename_i ys l2 s2 hmk;obtain⟨m1,m2,m3,m4,m5⟩:=A2 rs _ s1 ys l2 s2 _ hmk b3.hr hokR;obtain⟨t1,t2⟩:=Dk m1 m2;rw[f6]at b2;refine⟨_,_,_,b1,only fid (gY sp.ps pay) (mQ rs (l.take (g_ rs).length)) (lr os (l.drop (g_ rs).length)),Ho hg,?_⟩;have hld:=UR (rs:=mQ rs (l.take (g_ rs).length)) f1 b2;obtain⟨g1,g2⟩:=HY (ro:=false) hfn (nv xs) e1 hwl hdec hld;refine⟨_,_,_,_,By g1 g2,?_⟩;obtain⟨W1,x1,x2,x3⟩:=b3.wo;obtain⟨W2,y1,y2,y3,y4⟩:=m3.wo;refine⟨t1,t2,?_,(f3.trans (Nat.le_of_eq f6.symm) b3.eQ).trans (by have:=b3.le;omega) m3.eQ,by rw[m3.dH,b3.dH,f4],by rw[m3.gh,b3.gh,f5],by omega,by have:=b3.le;have:=m3.le;omega,fun i hi=>?_,fun i hi h=>(by rw[y4 i fun q=>by have:=(y3 i q).1;have:=b3.le;omega];exact b3.nb i (by omega) ((f9 i fun q=>Gq rfl hs0 i q h).trans h)),W2++W1++j,by rw[y1,x1,f7];simp only[aJ],fun p hp=>?_,fun i hi=>?_⟩
   .have:=m3.hr;simpa only[aJ]using this
   .rcases ap.1 hi with hi|hi
    .exact aE _ (e2 i hi).1
    .exact aG _ (o2 i hi)
   .simp only[aJ,ap]at hp|-;rcases hp with hp|hp|hp
    .exact .inl (y2 p hp)
    .exact .inr (.inl (x2 p hp))
    .exact .inr (.inr (f8 p hp))
   .simp only[aJ,ap,not_or]at hi;rw[y4 i hi.1,x3 i hi.2.1,f9 i hi.2.2]
 |_=>simp[xV]at hz
end
def lQ:Prop:=∀g v,L6 g=some v->∃d,QO g=some d/\∀h n,ge h v (.c (.d d))/\fg n h v/\iz h v=true
theorem vP{n:Nat}{h h':H2}(hs:jy n h h')(hnb:∀i,i<n->fO h i=none->fO h' i=none):∀{v:V},fg n h v->iz h' v=true->iz h v=true:=by
 have key:∀id,id<n->(match fO h' id with|some _=>true|none=>false)=true->(match fO h id with|some _=>true|none=>false)=true:=by intro id hid ha;cases ho:fO h id with|some _=>rfl|none=>rw[hnb id hid ho]at ha;simp at ha
 intro v;induction v with
 |so id=>
  intro hk ha;have hk:id<n:=hk;simp only[iz]at ha|-;split at ha
  .rename_i t s v ho;obtain⟨s0,v0,h1,_⟩:=tJ hs hk (.inl ho);rcases h1 with h1|h1<;>rw[h1]
  .rename_i t s v ho;obtain⟨s0,v0,h1,_⟩:=tJ hs hk (.inr ho);rcases h1 with h1|h1<;>rw[h1]
  .simp at ha
 |sr id=>
  intro hk ha;have hk:id<n:=hk;simp only[iz]at ha|-;split at ha
  .rename_i t s ln ho;obtain⟨s0,ln0,h1,_⟩:=Hc hs hk ho;rw[h1]
  .simp at ha
 |sb id ver lo t r=>
  rintro⟨hid,hk⟩ ha;obtain⟨hd,ha⟩:=dp.1 ha;have ha:CG h' id ver=true:=ha;obtain⟨u,s,ho⟩:=lK ha;obtain⟨s0,v0,h3,h4,_,_⟩:=tJ hs hid ho;obtain⟨h7,_⟩:=hk u s0 v0 h3;have:v0=ver:=by omega
  subst this;refine dp.2 ⟨hd,?_⟩;rcases h3 with h3|h3<;>rw[h3]<;>simp
 |op id t p=>rintro⟨hid,_⟩ ha;exact key id hid ha
 |ep id m t p=>rintro⟨hid,_⟩ ha;exact key id hid ha
 |om id=>intro hid ha;exact key id hid ha
 |fn z f l ih=>intro hk ha;cases z with|true=>exact ha|false=>exact ih hk ha
 |rc l ih=>intro hk ha;exact ih hk ha
 |tp l ih=>intro hk ha;exact ih hk ha
 |co a r iha ihr=>rintro⟨h1,h2⟩ ha;simp only[iz,ai]at ha|-;exact⟨iha h1 ha.1,ihr h2 ha.2⟩
 |_=>intro _ ha;exact ha
def Kb(h:H2):V->List C->Prop
 |.ni,cs=>cs=[]
 |.co a r,cs=>∃c m,cs=c::m/\(iz h a=true->fm h a [c])/\Kb h r m
 |_,_=>False
theorem Ec{n:Nat}{h h':H2}(hs:jy n h h')(hnb:∀i,i<n->fO h i=none->fO h' i=none):∀{v:V}{cs:List C},fg n h v->Kb h v cs->Kb h' v cs:=by intro v;induction v with|co a r _ ihr=>rintro cs ⟨h1,h2⟩ ⟨c,m,rfl,h3,h4⟩;exact⟨c,m,rfl,fun ha=>lJ hs h1 (h3 (vP hs hnb h1 ha)),ihr h2 h4⟩|ni=>intro cs _ h;exact h|_=>intro cs _ h;exact h.elim
structure R2(s1:St)(s:S2):Prop where
 dH:∀t v,cA s.dH t=some v->fg s.next s.heap v/\(iz s.heap v=true\/v=.no->∃x,cA s1.dH t=some x/\ge s.heap v x)
 hr:HR s.next s1.heap s.heap
 next:s1.next<=s.next
 gh:Kb s.heap s.gh s1.gh/\fg s.next s.heap s.gh
theorem KQ{v:Value}(hp:eu v=true)(ha:∀cs,v≠.agg cs):cv v=some (.c (.d (.lit v))):=by
 unfold cv;split
 .rename_i cs;exact absurd rfl (ha cs)
 .rw [if_pos hp]
theorem HT{c:Value}{v:V}(hc:Ta c=some v)(h:H2)(n:Nat):∃x,cv c=some x/\ge h v x/\fg n h v/\iz h v=true:=by
 unfold Ta at hc;split at hc
 case h_10=>
  rename_i cs;split at hc
  .rename_i hp;obtain rfl:=aa hc;refine⟨.agg (cs.toList.map fun v=>.d (.lit v)),by simp only[cv];rw[if_pos hp],ct (yd rfl ⟨hp,rfl⟩),trivial,hp⟩
  .simp at hc
 case h_11=>simp at hc
 all_goals
  obtain rfl:=aa hc;exact⟨_,KQ rfl (fun cs e=>by cases e),ct (dY rfl (by first|rfl|exact⟨rfl,rfl⟩)),trivial,rfl⟩
theorem oz(hg:lQ){s1:St}{s:S2}(hr:R2 s1 s){o:Operand}{v:V}(ho:J9 s.dH s.heap o=some v):∃x,kU s1.dH o=some x/\ge s.heap v x/\fg s.next s.heap v/\iz s.heap v=true:=by
 cases o with
 |tmp t=>
  simp only[J9]at ho;split at ho
  .rename_i w hw;obtain⟨ha,ho⟩:=aP ho;obtain rfl:=aa ho;obtain⟨h3,h4⟩:=hr.dH t w hw;obtain⟨x,h1,h2⟩:=h4 (.inl ha);exact⟨x,h1,h2,h3,ha⟩
  .simp at ho
 |const c=>exact HT ho _ _
 |global g=>obtain⟨d,h1,h2⟩:=hg g v ho;exact⟨_,by simp only[kU,h1,Option.map_some],h2 _ _⟩
 |func f=>obtain rfl:=aa ho;exact⟨_,rfl,ct (dY rfl ⟨[],rfl,rfl⟩),trivial,rfl⟩
structure si(s1:St)(s:S2)(q:Rg):Prop where
 r:R2 s1 s
 kn:∀g b,QK q.kn g=some b->cA s1.dH g=some (tB b)
 cd:∀t g b v,cA q.cd t=some (g,b,v)->∃c,cA s1.dH g=some (tB c)/\(c=b->∃x,cA s1.dH t=some x/\ge s.heap v x/\fg s.next s.heap v)
theorem P8{a b:Bool}(h:tB a=tB b):a=b:=by simpa[tB]using h
theorem vq(hg:lQ){s1:St}{s:S2}{q:Rg}(hr:si s1 s q){gc:Option (Nat×Bool)}(hgc:∀g b,gc=some (g,b)->cA s1.dH g=some (tB b)){o:Operand}{v:V}(ho:J_ s q gc o=some v):
  ∃x,kU s1.dH o=some x/\ge s.heap v x/\fg s.next s.heap v/\iz s.heap v=true:=by
 cases o with
 |tmp t=>
  simp only[J_]at ho;split at ho
  .rename_i g b w hw;obtain⟨hc,ho⟩:=aP ho;obtain⟨ha,ho⟩:=aP ho;obtain rfl:=aa ho;obtain⟨c,h1,h2⟩:=hr.cd t g b w hw
   have hb:cA s1.dH g=some (tB b):=by
    simp only[cM,decide_eq_true_eq]at hc;rcases hc with hc|hc
    .exact hgc g b hc
    .exact hr.kn g b hc
   rw[h1]at hb;obtain⟨x,h3,h4,h5⟩:=h2 (P8 (aa hb));exact⟨x,h3,h4,h5,ha⟩
  .exact oz hg hr.r ho
 |const c=>exact oz hg hr.r ho
 |global g=>exact oz hg hr.r ho
 |func f=>exact oz hg hr.r ho
theorem AX(hg:lQ){s1:St}{s:S2}{q:Rg}(hr:si s1 s q){gc:Option (Nat×Bool)}(hgc:∀g b,gc=some (g,b)->cA s1.dH g=some (tB b)):∀(os:List Operand)(vs:List V),FT s q gc os=some vs->
  ∃xs,os.map (kU s1.dH)=xs.map some/\mT s.heap vs xs/\(∀w∈vs,fg s.next s.heap w)/\∀w∈vs,iz s.heap w=true:=by
 intro os;induction os with
 |nil=>intro vs ho;obtain rfl:=aa ho;exact⟨[],rfl,trivial,fun w hw=>by simp at hw,fun w hw=>by simp at hw⟩
 |cons o os ih=>
  intro vs ho;simp only[FT]at ho;split at ho
  .rename_i v l hv hl;obtain rfl:=aa ho;obtain⟨x,h1,h2,h3,h4⟩:=vq hg hr hgc hv;obtain⟨xs,g1,g2,g3,g4⟩:=ih l hl;refine⟨x::xs,by simp[h1,g1],⟨h2,g2⟩,fun w hw=>?_,fun w hw=>?_⟩
   .rcases aN.1 hw with rfl|hw
    .exact h3
    .exact g3 w hw
   .rcases aN.1 hw with rfl|hw
    .exact h4
    .exact g4 w hw
  .simp at ho
theorem MM{h:H2}{t:Ty}{w:V}{b:El t}{x:TV}(hd:kL t=true)(hx:ge h w x)(hc:t7 t w=some b):ge h (.x t b) x:=by obtain⟨cs,h1,h2,h3⟩:=oX (PG hc) hx;have e:=iZ w false t b cs hc h1;have ha:=wN hc;exact ct ⟨cs,⟨hd,e⟩,fun q=>h2 (ha.trans q),fun q=>h3 (ha.trans q)⟩
theorem DV{h:H2}{c:Bool}{a b v:V}{x:TV}(hm:UP c a b=some v)(ha:iz h a=true)(hb:iz h b=true)(h1:c=true->ge h a x)(h2:c=false->ge h b x):ge h v x/\∀n,fg n h v:=by
 unfold UP at hm;split at hm
 .rename_i p q;obtain rfl:=aa hm;refine⟨?_,fun _=>trivial⟩;cases c with|true=>rw[v7 (h1 rfl)];exact xb _|false=>rw[v7 (h2 rfl)];exact xb _
 .rename_i t p w;split at hm
  .rename_i y hy;obtain rfl:=aa hm;refine⟨?_,fun _=>trivial⟩;cases c with|true=>exact h1 rfl|false=>exact MM ha (h2 rfl) hy
  .simp at hm
 .rename_i t p w;split at hm
  .rename_i y hy;obtain rfl:=aa hm;refine⟨?_,fun _=>trivial⟩;cases c with|true=>exact MM hb (h1 rfl) hy|false=>exact h2 rfl
  .simp at hm
 .simp at hm
theorem xO(hg:lQ){e:List (Nat×V)}{h:H2}{o:Operand}{v:V}(ho:J9 e h o=some v):iz h v=true:=by
 cases o with
 |tmp t=>
  simp only[J9]at ho;split at ho
  .obtain ⟨ha,ho⟩:=aP ho;obtain rfl:=aa ho;exact ha
  .simp at ho
 |const c=>obtain⟨_,_,_,_,ha⟩:=HT ho h 0;exact ha
 |global g=>obtain⟨d,_,h2⟩:=hg g v ho;exact(h2 h 0).2.2
 |func f=>obtain rfl:=aa ho;rfl
theorem Hn(hg:lQ){s:S2}{q:Rg}{gc:Option (Nat×Bool)}{o:Operand}{v:V}(ho:J_ s q gc o=some v):iz s.heap v=true:=by
 cases o with
 |tmp t=>
  simp only[J_]at ho;split at ho
  .obtain ⟨hc,ho⟩:=aP ho;obtain⟨ha,ho⟩:=aP ho;obtain rfl:=aa ho;exact ha
  .exact xO hg ho
 |const c=>exact xO (e:=s.dH) (o:=.const c) hg ho
 |global g=>exact xO (e:=s.dH) (o:=.global g) hg ho
 |func f=>exact xO (e:=s.dH) (o:=.func f) hg ho
theorem II(hg:lQ){s1:St}{s:S2}{q:Rg}(hr:si s1 s q){gc:Option (Nat×Bool)}(hgc:∀g b,gc=some (g,b)->cA s1.dH g=some (tB b)){os:List Operand}{v:V}(hp:KS s q gc os=some v)(c:Call)(H:bF)(nx:Nat):
  ∃x,cQ c .pick (os.map (kU s1.dH)) H nx=some (x,[],[],nx)/\ge s.heap v x/\fg s.next s.heap v:=by
 have one:∀(g a b:Operand)(t:Bool)(w:V),kU s1.dH g=some (tB t)->J_ s q gc (bif t then a else b)=some w->∃x,cQ c .pick ([g,a,b].map (kU s1.dH)) H nx=some (x,[],[],nx)/\ge s.heap w x/\fg s.next s.heap w:=by intro g a b t w h1 h2;obtain⟨x,h3,h4,h5,_⟩:=vq hg hr hgc h2;refine⟨x,?_,h4,h5⟩;simp only[aD,aW,h1];cases t with|true=>simp only[cond_true]at h3;rw[h3];rfl|false=>simp only[cond_false]at h3;rw[h3];rfl
 unfold KS at hp;split at hp
 .rename_i g a b;split at hp
  .rename_i _ _ t hk;exact one _ a b t v (hr.kn g t hk) hp
  .rename_i t hk he;obtain⟨x,h1,h2⟩:=(hr.r.dH g _ he).2 (.inl rfl);rw[v7 h2]at h1;exact one _ a b t v h1 hp
  .rename_i t hk he;obtain⟨x,h1,h2⟩:=(hr.r.dH g _ he).2 (.inl rfl)
   .rw [G9 h2]at h1;split at hp
    .rename_i x y hx hy;have ax:=Hn hg hx;have ay:=Hn hg hy;cases t with|true=>obtain⟨z,g1,g2,_⟩:=vq hg hr (gc:=some (g,true)) (fun g' b' e=>by cases e;exact h1) hx;obtain⟨m1,m2⟩:=DV hp ax ay (fun _=>g2) (fun e=>by cases e);refine⟨z,?_,m1,m2 _⟩;have h1':kU s1.dH (.tmp g)=some (tB true):=h1;simp only[aD,aW,h1',g1];rfl|false=>obtain⟨z,g1,g2,_⟩:=vq hg hr (gc:=some (g,false)) (fun g' b' e=>by cases e;exact h1) hy;obtain⟨m1,m2⟩:=DV hp ax ay (fun e=>by cases e) (fun _=>g2);refine⟨z,?_,m1,m2 _⟩;have h1':kU s1.dH (.tmp g)=some (tB false):=h1;simp only[aD,aW,h1',g1];rfl
    .simp at hp
  .simp at hp
 .rename_i t a b;exact one _ a b t v rfl hp
 .simp at hp
theorem ID{s:S2}{q:Rg}{gc:Option (Nat×Bool)}{os:List Operand}{vs:List V}(ho:FT s q gc os=some vs)(hp:N6 os=true):∀a k b,vs=[a,.x (.i k) b]->0<b:=by
 intro a k b e;subst e
 match os with
 |[o,.const (.int k' m)]=>
  simp only[N6,decide_eq_true_eq]at hp;simp only[FT,J_,J9,Ta]at ho;split at ho
  .rename_i v l hv hl;simp only[bn]at hl;subst hl;simp only[bn,List.cons.injEq,and_true]at ho;obtain⟨_,e⟩:=ho;cases e;exact hp
  .simp at ho
theorem AJ(hg:lQ){s1:St}{s:S2}{q:Rg}(hr:si s1 s q){gc:Option (Nat×Bool)}(hgc:∀g b,gc=some (g,b)->cA s1.dH g=some (tB b)){o:OP}{v:V}{l:List Nat}(ht:NG o s q gc=some (v,l))(c:Call)(nx:Nat):
  ∃x aA,cQ c o.o.k (o.o.args.map (kU s1.dH)) s1.heap nx=some (x,[],aA,nx)/\ge s.heap v x/\fg s.next s.heap v/\∀i∈aA,i∈l:=by
 unfold NG at ht;cases hpk:Ge o.o.k with
 |true=>
  rw[hpk,cond_true]at ht;split at ht
  .rename_i w hw;obtain⟨rfl,rfl⟩:=ad (aa ht);obtain⟨x,h1,h2,h3⟩:=II hg hr hgc hw c s1.heap nx;have hk:o.o.k=.pick:=by revert hpk;cases o.o.k<;>simp[Ge]
   rw[hk];exact⟨x,[],h1,h2,h3,fun i hi=>by simp at hi⟩
  .simp at ht
 |false=>
  rw[hpk,cond_false]at ht;split at ht
  .rename_i vs hvs;obtain⟨xs,h1,h2,h3,h4⟩:=AX hg hr hgc _ _ hvs;rw[h1];exact If hr.r.hr ht h2 h3 h4 (fun hp=>ID hvs hp) c nx
  .simp at ht
theorem Ms{P:Program}{β:Type}{tb:ET}(htb:pS P tb)(hg:lQ){s1:St}{s:S2}{q:Rg}(hr:si s1 s q){gc:Option (Nat×Bool)}(hgc:∀g b,gc=some (g,b)->cA s1.dH g=some (tB b)){o:OP}{k:V->S2->List Nat->Option β}{z:β}
  (hz:S_ tb o s q gc k=some z):∃v s' l,k v s' l=some z/\∃call:Call,ny P call/\∃x u aA m,cQ call o.o.k (o.o.args.map (kU s1.dH)) s1.heap s.next=some (x,u,aA,m)/\rg s s' s1.heap x u aA m v l:=by
 unfold S_ at hz;split at hz
 .rename_i v l ht;obtain⟨x,aA,h1,h2,h3,h4⟩:=AJ hg hr hgc ht qt s.next;exact⟨v,s,l,hz,qt,qP,x,[],aA,s.next,h1,rg.pure hr.r.hr h2 h3 h4⟩
 .split at hz
  .rename_i vs hvs;obtain⟨xs,h1,h2,h3,h4⟩:=AX hg hr hgc _ _ hvs;rw[h1];split at hz
   .rename_i ro kh f vs' hk;obtain⟨y,ys,rfl,h5,h6⟩:=gU h2;obtain⟨v,s',l,e1,call,e2,x,u,aA,m,e3,e4⟩:=GQ (P:=P) htb hz hr.r.hr h5 (h3 _ (by simp)) (h4 _ (by simp)) h6 (fun w hw=>h3 w (by simp[hw])) (fun w hw=>h4 w (by simp[hw]));rw[hk];exact⟨v,s',l,e1,call,e2,x,u,aA,m,e3,e4⟩
   .obtain ⟨v,s',l,e1,e2⟩:=FO hz hr.r.hr h2 h3 h4;obtain⟨x,u,aA,m,e3,e4⟩:=e2 qt;exact⟨v,s',l,e1,qt,qP,x,u,aA,m,e3,e4⟩
  .simp at hz
end Go.Ev
