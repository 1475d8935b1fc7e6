/- Calls: the arguments, as they are laid. Conditions: as stated. -/
import Derived.Test.YtingpmogbibghaaFq
open Bool renaming and_eq_true->ai,and_eq_true_iff->cH,and_self->kx,and_true->lK,not_eq_true'->gi,or_eq_true->dl
open List renaming all_cons->gk,all_eq_true->aT,append_assoc->aI,append_nil->aV,cons_append->aU,drop_zero->eG,flatMap->lq,flatMap_cons->bo,headD_cons->bL,length_map->aF,map_cons->aD,map_nil->aZ,mem_append->ap,mem_append_left->aA,mem_append_right->aC,mem_cons->aJ,mem_cons_of_mem->av,mem_map->bv,mem_singleton->aq,nil_sublist->kV,nodup_append->cC,singleton_append->bd,singleton_inj->fQ
open List.Sublist renaming refl->cf
open Nat renaming le_refl->am,le_succ->bE,lt_succ_self->bc,zero_le->eQ
open Option.some renaming inj->aa,injEq->ce
open Prod.mk renaming inj->af
namespace Go.Ev
def PX(k:Nat):D:=match ER k with|.d x=>x|_=>default
theorem Q0(k:Nat):ER k=.d (PX k):=rfl
def Y2:Sh->List V->List D×List V
 |.x _,.x u v::l=>(aS u v,l)
 |.pt _,.x u v::l=>([.pt (aS u v)],l)
 |.nl k,l=>([PX k],l)
 |.fn f c,l=>([.fn f (Y2 c l).1],(Y2 c l).2)
 |.pr a c,l=>((Y2 a l).1++(Y2 c (Y2 a l).2).1,(Y2 c (Y2 a l).2).2)
 |_,l=>([],l)
def Js(t:Ty):Sl (El t)->Option (List (List D))
 |.nil=>none
 |.mk l=>some (l.map (aS t))
def zy(t:Ty):Sl (Sl (El t))->T
 |.nil=>.d (.lit (.slice none 0 0))
 |.mk l=>.AZ (bY t) (l.map (Js t))
theorem Ji{t:Ty}(l:List (Sl (El t))):vq (l.map (pR t))=some (l.map (Js t)):=by induction l with|nil=>rfl|cons s l ih=>simp only[aD,vq,ih];cases s<;>rfl
theorem zB{t:Ty}(l:List (Sl (El t))):(l.map (Js t)).map nX=l.map (pR t):=by rw[List.map_map];exact List.map_congr_left fun s _=>by cases s<;>rfl
def fP:Sh->List V->List T×List V
 |.x _,.x u v::l=>((aS u v).map .d,l)
 |.os _,.x (.sl u) v::l=>([Qz (bY u) (aS u) v],l)
 |.rw _,.x (.sl (.sl u)) v::l=>([zy u v],l)
 |.pb _ c,l=>([.pt (fP c l).1],(fP c l).2)
 |.nl k,l=>([.d (PX k)],l)
 |.st c,l=>fP c l
 |.pr a c,l=>((fP a l).1++(fP c (fP a l).2).1,(fP c (fP a l).2).2)
 |.gn,l=>([.wK],l)
 |_,l=>([],l)
def yK:Sh->Bool
 |.x t=>oI t
 |.st _=>true
 |_=>false
def ik:List (Bool×Sh)->List V->List A
 |[],_=>[]
 |(true,c)::r,l=>.mt ((fP c l).1.headD default)::ik r (fP c l).2
 |(false,c)::r,l=>(bif yK c then .agg (Y2 c l).1 else .d ((Y2 c l).1.headD default))::ik r (Y2 c l).2
def pW:List Sh->List V->List R
 |[],_=>[]
 |c::r,l=>(bif yK c then .agg (fP c l).1 else .c ((fP c l).1.headD default))::pW r (fP c l).2
def lO:List Sh->List V->List T
 |[],_=>[]
 |c::r,l=>(fP c l).1.headD default::lO r (fP c l).2
def xN:Sh->Nat
 |.x t=>bY t+1
 |.pt t=>bY t+3
 |.fn _ c=>xN c+2
 |.pr a c=>xN a+xN c
 |.ni=>0
 |_=>1
section
variable{h:H2}{n:Nat}{h1:bD}
def B7:C->Prop
 |.d _|.fK _ _ _ _=>True
 |_=>False
theorem F6{c:C}(hc:B7 c)(k j:Nat):ei h1 k c=ei h1 j c:=by cases c with|d x=>rw[qX,qX]|fK a b e f=>cases k<;>cases j<;>simp only[ei]|_=>exact hc.elim
theorem zg:∀{cs:List C}{ds:List D}{aw:List Nat}{k:Nat},(∀c∈cs,B7 c)->dU h1 cs=some (ds,aw)->cs.length<k->gu h1 k cs=some (ds,aw):=by
 intro cs;induction cs with
 |nil=>intro ds aw k _ h _;simp only[dU]at h;rw[<-h];cases k<;>rfl
 |cons c cs ih=>
  intro ds aw k hf h hk;cases k with
  |zero=>simp at hk
  |succ k=>
   simp only[dU]at h;split at h
   .rename_i x a xs b hx hxs;simp only[gu];rw[F6 (hf c (by simp)) k 300,hx,ih (fun c hc=>hf c (by simp[hc])) hxs (by simpa using hk)];exact h
   .simp at h
theorem Cu:∀{x y:List C}{dx dy:List D}{ix iy:List Nat}{k:Nat},gu h1 k x=some (dx,ix)->gu h1 (k-x.length) y=some (dy,iy)->x.length<=k->gu h1 k (x++y)=some (dx++dy,ix++iy):=by
 intro x;induction x with
 |nil=>
  intro y dx dy ix iy k hx hy _;have:gu h1 k []=some ([],[]):=by cases k<;>rfl
  rw[this]at hx;obtain⟨rfl,rfl⟩:=af (aa hx);simpa using hy
 |cons c x ih=>
  intro y dx dy ix iy k hx hy hk;cases k with
  |zero=>simp at hk
  |succ k=>
   simp only[gu]at hx;split at hx
   .rename_i p a q b hp hq;obtain⟨rfl,rfl⟩:=af (aa hx);simp only[aU,gu,hp];rw[ih hq (by simpa using hy) (by simpa using hk)];simp
   .simp at hx
theorem Fs{α:Type}{sz id:Nat}{enc:α->List D}{s:Sl α}:B7 (ny sz enc id s):=by cases s<;>trivial
theorem MT{id lo:Nat}{t:Ty}{r:Sl (El t)}:B7 (zG id lo t r):=by cases r<;>trivial
theorem Fm:∀(v w:V)(l:List Nat)(cs:List C),jW h v=some (w,l)->fD h v cs->iZ h v=true->∀c∈cs,B7 c:=by
 have fl:∀(ds:List D),∀c∈ds.map C.d,B7 c:=fun ds c hc=>by obtain⟨d,_,rfl⟩:=bv.1 hc;trivial
 intro v;induction v with
 |so id=>
  intro w l cs hf hv _ c hc;simp only[jW]at hf;split at hf
  .rename_i t s l' hs;obtain⟨ver,ho,_⟩:=vr hs;obtain⟨c',rfl,hc'⟩:=hv;obtain rfl:=aq.1 hc;rw[hc'.1 _ (nw ho)];exact Fs
  .simp at hf
 |sr id=>
  intro w l cs hf hv _ c hc;simp only[jW]at hf;split at hf
  .rename_i t s ho;obtain⟨c',rfl,hc'⟩:=hv;obtain rfl:=aq.1 hc;rw[hc'.1 _ (tY ho)];exact Fs
  .simp at hf
 |sb id ver lo t r=>intro w l cs hf hv ha c hc;obtain⟨c',rfl,hc'⟩:=hv;obtain rfl:=aq.1 hc;rw[hc'.1 (cH.1 ha).2];exact MT
 |rc r ih=>
  intro w l cs hf hv ha;simp only[jW]at hf;split at hf
  .rename_i w' l' hw;exact ih w' l' cs hw hv ha
  .simp at hf
 |co a r iha ihr=>
  intro w l cs hf hv ha c hc;simp only[jW]at hf;split at hf
  .rename_i x l1 y l2 hx hy;obtain⟨ca,cr,rfl,h2,h3⟩:=hv;simp only[iZ,ai]at ha;rcases ap.1 hc with hc|hc
   .exact iha x l1 ca hx h2 ha.1 c hc
   .exact ihr y l2 cr hy h3 ha.2 c hc
  .simp at hf
 |x t v=>intro w l cs hf hv _;obtain⟨_,rfl⟩:=hv;exact fl _
 |kb c=>intro w l cs hf hv _;obtain rfl:=hv;exact fl [_]
 |nl k=>intro w l cs hf hv _;obtain rfl:=hv;exact fl [_]
 |fl q=>intro w l cs hf hv _;obtain⟨_,rfl⟩:=hv;rw[CZ];exact fl _
 |ni=>intro w l cs hf hv _;obtain rfl:=hv;exact fl []
 |pt t v=>intro w l cs hf hv _;obtain⟨_,rfl⟩:=hv;exact fl [_]
 |fn z f q ih=>intro w l cs hf hv _;cases z with|true=>obtain⟨ds,_,rfl⟩:=hv;exact fl [_]|false=>simp[jW]at hf
 |_=>intro w l cs hf hv;simp[jW]at hf
theorem Nh:∀(v:V)(ds:List D),rQ v=some ds->fD h v (ds.map .d):=by
 intro v;induction v with
 |co a r iha ihr=>
  intro ds hd;simp only[rQ]at hd;split at hd
  .rename_i x y hx hy;obtain rfl:=aa hd;exact⟨_,_,by simp,iha x hx,ihr y hy⟩
  .simp at hd
 |pt t v=>
  intro ds hd;simp only[rQ]at hd;split at hd
  .rename_i ht;obtain rfl:=aa hd;exact⟨ht,rfl⟩
  .simp at hd
 |ni=>intro ds hd;obtain rfl:[]=ds:=by simpa[rQ]using hd
      rfl
 |_=>intro ds hd;simp[rQ]at hd
theorem AT:∀(v:V),Dv v=true->iZ h v=true/\∀n,fB n h v:=by intro v;induction v with|co a r iha ihr=>intro hv;simp only[Dv,ai]at hv;exact⟨by simp only[iZ,(iha hv.1).1,(ihr hv.2).1,kx],fun n=>⟨(iha hv.1).2 n,(ihr hv.2).2 n⟩⟩|pt t v=>intro hv;exact⟨hv,fun _=>trivial⟩|ni=>intro _;exact⟨rfl,fun _=>trivial⟩|_=>intro hv;simp[Dv]at hv
theorem KK(hr:HR n h1 h):∀(c:Sh)(v:V)(l:List V)(i:List Nat)(cs:List C),pN h c v=some (l,i)->fD h v cs->fB n h v->iZ h v=true->
  ∃ds aw,(∀k,xN c<=k->gu h1 k cs=some (ds,aw))/\(∀r,Y2 c (l++r)=(ds,r))/\(∀j∈aw,j∈i/\¬nQ h j)/\(∀j∈i,j∈aw\/nQ h j)/\cs.length<=xN c:=by
 intro c;induction c with
 |x t=>
  intro v l i cs ha hv hk hal;simp only[pN]at ha;split at ha
  .rename_i w l' hw;split at ha
   .rename_i y hy;obtain⟨rfl,rfl⟩:=af (aa ha);obtain⟨ds,aw,f1,f2,f3,f4,_⟩:=ug hr v w l' cs hw hv hk hal;have e3:=qD (jH w false t y _ hy f2);subst e3;have hl:cs.length=bY t:=by rw[<-vj f1,bO]
    exact⟨_,aw,fun k hk=>zg (Fm v w l' cs hw hv hal) f1 (by simp only[xN]at hk;omega),fun r=>rfl,f3,f4,by simp only[xN];omega⟩
   .simp at ha
  .simp at ha
 |pt t=>
  intro v l i cs ha hv hk hal;cases v with
  |pt u v=>
   simp only[pN]at ha;split at ha
   .rename_i y hy;obtain⟨rfl,rfl⟩:=af (aa ha);obtain⟨e,_⟩:=xV hy;obtain⟨_,rfl⟩:=hv;refine⟨[.pt (aS t y)],[],fun k hk=>?_,fun r=>rfl,fun j hj=>by simp at hj,fun j hj=>by simp at hj,by simp[xN]⟩;rw[<-e];exact yO (h1:=h1) [.pt (aS t y)] k (by simp only[xN]at hk;simp;omega)
   .simp at ha
  |op id u p=>
   cases p with
   |cons=>simp[pN]at ha
   |nil=>
    obtain rfl:=hv;have e0:nU u []=0:=by cases u<;>rfl
    rw[e0];simp only[pN]at ha;split at ha
    .rename_i w c ho;obtain⟨hc,ha⟩:=aM ha;simp only[ai,decide_eq_true_eq]at hc;split at ha
     .rename_i c' l' hw;split at ha
      .rename_i y hy;obtain⟨rfl,rfl⟩:=af (aa ha);obtain⟨_,⟨cb,e1,e2,e3⟩,e4⟩:=hr.ob id _ ho;obtain⟨ds,aw,f1,f2,f3,f4,_⟩:=ug hr c c' l' cb hw e2 e4 hc.2;have e5:=qD (jH c' false t y _ hy f2);subst e5;have hl:cb.length=bY t:=by rw[<-vj f1,bO]
       have hnil:¬nQ h id:=by
        rintro(⟨u',v',e⟩|⟨u',ln',e⟩)
        .rcases e with e|e<;>rw[ho]at e<;>simp at e
        .rw [ho]at e;cases e
       refine⟨[.pt (aS t y)],id::aw,fun k hk=>?_,fun r=>rfl,fun j hj=>?_,fun j hj=>?_,by simp[xN]⟩
       .simp only[xN]at hk;obtain⟨k,rfl⟩:∃k',k=k'+2:=⟨k-2,by omega⟩
        have hv:gu h1 k cb=some (aS t y,aw):=zg (Fm c c' l' cb hw e2 hc.2) f1 (by omega);simp only[gu,ei,e1,hv,eQ,if_true,eG,aV]
       .rcases aJ.1 hj with rfl|hj
        .exact ⟨by simp,hnil⟩
        .exact ⟨by simp[(f3 j hj).1],(f3 j hj).2⟩
       .rcases aJ.1 hj with rfl|hj
        .exact .inl (by simp)
        .exact (f4 j hj).imp (fun q=>by simp[q]) (fun q=>q)
      .simp at ha
     .simp at ha
    .rename_i w v ho;obtain⟨hc,ha⟩:=aM ha;split at ha
     .rename_i y hy;obtain⟨rfl,rfl⟩:=af (aa ha);obtain⟨e,_⟩:=xV hy;obtain⟨_,⟨_,e1⟩,_⟩:=hr.ob id _ ho
      have hnil:¬nQ h id:=by
       rintro(⟨u',v',e⟩|⟨u',ln',e⟩)
       .rcases e with e|e<;>rw[ho]at e<;>simp at e
       .rw [ho]at e;cases e
      refine⟨[.pt (aS t y)],[id],fun k hk=>?_,fun r=>rfl,fun j hj=>?_,fun j hj=>.inl hj,by simp[xN]⟩
      .simp only[xN]at hk;obtain⟨k,rfl⟩:∃k',k=k'+2:=⟨k-2,by omega⟩
       simp only[gu,ei,e1,eQ,if_true,eG,aV,e]
      .obtain rfl:=aq.1 hj;exact⟨by simp,hnil⟩
     .simp at ha
    .simp at ha
  |ep id m u p=>
   cases p with
   |cons=>simp[pN]at ha
   |nil=>
    obtain rfl:=hv;have e0:nU u []=0:=by cases u<;>rfl
    rw[e0]
    have key:∀(w:Ty)(s:Sl (El w))(ver:Nat),(fO h id=some (.ar w s ver)\/fO h id=some (.im w s ver))->(bif decide (w=u)then(match gN w t (gt s.l m)with|some y=>some ([V.x t y],[id])|none=>none)else none)=some (l,i)->
      ∃ds aw,(∀k,xN (.pt t)<=k->gu h1 k [.ep id m 0]=some (ds,aw))/\(∀r,Y2 (.pt t) (l++r)=(ds,r))/\(∀j∈aw,j∈i/\¬nQ h j)/\(∀j∈i,j∈aw\/nQ h j)/\[C.ep id m 0].length<=xN (.pt t):=by
     intro w s ver ho ha;obtain⟨_,ha⟩:=aM ha;split at ha
     .rename_i y hy;obtain⟨rfl,rfl⟩:=af (aa ha);obtain⟨e,_⟩:=xV hy;have hm:=hk.2.2.1 w s ver ho;cases s with
      |nil=>simp[Sl.l]at hm
      |mk q=>
       refine⟨[.pt (aS t y)],[id],fun k hk=>?_,fun r=>rfl,fun j hj=>?_,fun j hj=>.inl hj,by simp[xN]⟩
       .simp only[xN]at hk;obtain⟨k,rfl⟩:∃k',k=k'+1:=⟨k-1,by omega⟩
        have hg:(q.map (aS w))[m]?=some (aS w (gt q m)):=C7 hm;have e2:aS w (gt q m)=aS t y:=e.symm;rcases ho with ho|ho
        .have e1:=(hr.ob id _ ho).2.1.2.2 q rfl;have:ei h1 k (.ep id m 0)=some (.pt (aS t y),[id]):=by cases k<;>simp only[ei,e1,hg,eQ,if_true,eG,e2]
         simp only[gu,this,aV]
        .have e1:=(hr.ob id _ ho).2.1.2.2 q rfl;have:ei h1 k (.ep id m 0)=some (.pt (aS t y),[id]):=by cases k<;>simp only[ei,e1,hg,eQ,if_true,eG,e2]
         simp only[gu,this,aV]
       .obtain rfl:=aq.1 hj;exact⟨by simp,z6 ho⟩
     .simp at ha
    simp only[pN]at ha;split at ha
    .rename_i ho;exact key _ _ _ (.inl ho) ha
    .rename_i ho;exact key _ _ _ (.inr ho) ha
    .simp at ha
  |_=>simp[pN]at ha
 |nl k=>
  intro v l i cs ha hv hk hal;cases v with
  |nl k'=>
   simp only[pN]at ha;obtain⟨hc,ha2⟩:=aM ha;obtain rfl:k=k':=by simpa using hc
   obtain⟨rfl,rfl⟩:=af (aa ha2);obtain rfl:=hv;refine⟨[PX k],[],fun j hj=>?_,fun r=>rfl,fun j hj=>by simp at hj,fun j hj=>by simp at hj,by simp[xN]⟩;simp only[xN]at hj;obtain⟨j,rfl⟩:∃k',j=k'+1:=⟨j-1,by omega⟩
   have e:gu h1 j []=some ([],[]):=by cases j<;>rfl
   rw[Q0];simp only[gu,qX,e,aV]
  |_=>simp[pN]at ha
 |fn f c ih=>
  intro v l i cs ha hv hk hal;cases v with
  |fn z f' q=>
   simp only[pN]at ha;obtain⟨hc,ha2⟩:=aM ha;obtain rfl:f=f':=by simpa using hc
   cases z with
   |true=>
    obtain⟨ds0,hd,rfl⟩:=hv;have hal':Dv q=true:=hal;obtain⟨a1,a2⟩:=AT (h:=h) q hal';obtain⟨ds,aw,g1,g2,g3,g4,g5⟩:=ih q l i (ds0.map .d) ha2 (Nh q ds0 hd) (a2 n) a1;have e:=g1 (xN c+ds0.length+1) (by omega);rw[yO ds0 _ (by omega)]at e;obtain⟨rfl,rfl⟩:=af (aa e);refine⟨[.fn f ds0],[],fun k hk=>?_,fun r=>?_,g3,g4,by simp[xN]⟩
    .simp only[xN]at hk;exact yO (h1:=h1) [.fn f ds0] k (by simp;omega)
    .simp only[Y2,g2 r]
   |false=>
    obtain⟨xs,h2,rfl⟩:=hv;obtain⟨ds,aw,g1,g2,g3,g4,g5⟩:=ih q l i xs ha2 h2 hk hal;refine⟨[.fn f ds],aw,fun k hk=>?_,fun r=>?_,g3,g4,by simp[xN]⟩
    .simp only[xN]at hk;obtain⟨k,rfl⟩:∃k',k=k'+2:=⟨k-2,by omega⟩
     simp only[gu,ei,g1 k (by omega),aV]
    .simp only[Y2,g2 r]
  |_=>simp[pN]at ha
 |pr a c iha ihc=>
  intro v l i cs ha hv hk hal;cases v with
  |co x r=>
   simp only[pN]at ha;split at ha
   .rename_i l1 i1 l2 i2 h2 h3;obtain⟨rfl,rfl⟩:=af (aa ha);obtain⟨cx,cr,rfl,h4,h5⟩:=hv;simp only[iZ,ai]at hal;obtain⟨d1,j1,a1,a2,a3,a4,a5⟩:=iha x l1 i1 cx h2 h4 hk.1 hal.1;obtain⟨d2,j2,b1,b2,b3,b4,b5⟩:=ihc r l2 i2 cr h3 h5 hk.2 hal.2;refine⟨d1++d2,j1++j2,fun k hk=>?_,fun r=>?_,fun j hj=>?_,fun j hj=>?_,by simp[xN];omega⟩
    .simp only[xN]at hk;exact Cu (a1 k (by omega)) (b1 _ (by omega)) (by omega)
    .simp only[Y2,aI,a2,b2]
    .rcases ap.1 hj with hj|hj
     .exact ⟨aA _ (a3 j hj).1,(a3 j hj).2⟩
     .exact ⟨aC _ (b3 j hj).1,(b3 j hj).2⟩
    .rcases ap.1 hj with hj|hj
     .exact (a4 j hj).imp (aA _) id
     .exact (b4 j hj).imp (aC _) id
   .simp at ha
  |_=>simp[pN]at ha
 |ni=>intro v l i cs ha hv hk hal;cases v with|ni=>obtain⟨rfl,rfl⟩:=af (aa ha);obtain rfl:=hv;exact⟨[],[],fun k _=>(by cases k<;>rfl),fun r=>rfl,fun j hj=>by simp at hj,fun j hj=>by simp at hj,by simp⟩|_=>simp[pN]at ha
 |_=>intro v l i cs ha;simp[pN]at ha
end
def rS:Sh->Nat
 |.x t=>bY t+1
 |.pb _ c=>rS c+2
 |.st c=>rS c
 |.pr a c=>rS a+rS c
 |.ni=>0
 |_=>1
section
variable{h:H2}{n:Nat}{h1:bD}
theorem wl(k:Nat)(x:D):fc h1 k (.d x)=some (.d x,[],[]):=by cases k<;>rfl
theorem ql(k:Nat):jk h1 k []=some ([],[],[]):=by cases k<;>rfl
theorem rg:∀(ds:List D)(k:Nat),ds.length<=k->jk h1 k (ds.map .d)=some (ds.map .d,[],[]):=by
 intro ds;induction ds with
 |nil=>intro k _;exact ql k
 |cons d ds ih=>intro k hk;cases k with|zero=>simp at hk|succ k=>simp only[aD,jk,wl,ih k (by simpa using hk),aV]
theorem wj:∀{x y:List C}{tx ty:List T}{ox oy ix iy:List Nat}{k:Nat},jk h1 k x=some (tx,ox,ix)->jk h1 (k-x.length) y=some (ty,oy,iy)->x.length<=k->jk h1 k (x++y)=some (tx++ty,ox++oy,ix++iy):=by
 intro x;induction x with
 |nil=>intro y tx ty ox oy ix iy k hx hy _;rw[ql]at hx;obtain⟨rfl,e⟩:=af (aa hx);obtain⟨rfl,rfl⟩:=af e;simpa using hy
 |cons c x ih=>
  intro y tx ty ox oy ix iy k hx hy hk;cases k with
  |zero=>simp at hk
  |succ k=>
   simp only[jk]at hx;split at hx
   .rename_i p a i q b j hp hq;obtain⟨rfl,e⟩:=af (aa hx);obtain⟨rfl,rfl⟩:=af e;simp only[aU,jk,hp];rw[ih hq (by simpa using hy) (by simpa using hk)];simp
   .simp at hx
theorem wi{c:C}{t:T}{bq rd:List Nat}{k:Nat}(hc:fc h1 k c=some (t,bq,rd)):jk h1 (k+1) [c]=some ([t],bq,rd):=by simp only[jk,hc,ql,aV]
theorem UQ{t:Ty}{id k:Nat}{q:List (Sl (El t))}(h:az h1 id=some (.nst (bY t) (fw t q none))):fc h1 k (ny 1 (aS (.sl t)) id (Sl.mk q:Sl (Sl (El t))))=some (.AZ (bY t) (q.map (Js t)),[id],[id]):=by simp only[ny,fw]at h|-;cases k<;>simp only[fc,h,aF,and_self,if_true,Ji]
theorem xY(hr:HR n h1 h):∀(c:Sh)(ln:Bool)(v:V)(l:List V)(i:List Nat)(cs:List C),eJ h c ln v=some (l,i)->fD h v cs->fB n h v->
  ∃ts bq rd,(∀k,rS c<=k->jk h1 k cs=some (ts,bq,rd))/\(∀r,fP c (l++r)=(ts,r))/\bq.Sublist i/\(∀j∈i,j∈bq\/nQ h j)/\(∀j∈rd,j∈i)/\cs.length<=rS c/\(∀j∈i,j<n):=by
 intro c;induction c with
 |x t=>
  intro ln v l i cs ha hv hk;cases ln with
  |true=>simp[eJ]at ha
  |false=>
   simp only[eJ]at ha;split at ha
   .rename_i y hy;obtain⟨rfl,rfl⟩:=af (aa ha);have e:=jH v false t y cs hy hv;subst e;exact⟨_,[],[],fun k hk=>rg _ k (by rw[bO];simp only[rS]at hk;omega),fun r=>rfl,cf _,fun j hj=>by simp at hj,fun j hj=>hj,by simp[rS,bO],fun j hj=>by simp at hj⟩
   .simp at ha
 |os t=>
  intro ln v l i cs ha hv hk;cases ln with
  |true=>simp[eJ]at ha
  |false=>
   cases v with
   |so id=>
    simp only[eJ]at ha;split at ha
    .rename_i u s ver ho;split at ha
     .rename_i s' hs;obtain⟨rfl,rfl⟩:=af (aa ha);obtain⟨e,rfl⟩:=da hs;cases e;obtain⟨c,rfl,hc⟩:=hv;rw[hc.1 _ (nw (.inl ho))];cases s with
      |nil=>exact⟨[.d (.lit (.slice none 0 0))],[],[],fun k hk=>rg [.lit (.slice none 0 0)] k (by simpa[rS]using hk),fun r=>rfl,kV _,fun j hj=>by obtain rfl:=aq.1 hj;exact .inr (.inl ⟨_,_,.inl ho⟩),fun j hj=>by simp at hj,by simp[rS],fun j hj=>by obtain rfl:=aq.1 hj;exact hk⟩
      |mk q=>
       have e1:=(hr.ob id _ ho).2.1.2.2 q rfl;refine⟨[.sl (bY t) (q.map (aS t))],[id],[id],fun k hk=>?_,fun r=>rfl,cf _,fun j hj=>.inl hj,fun j hj=>hj,by simp[rS],fun j hj=>by obtain rfl:=aq.1 hj;exact hk⟩;obtain⟨k,rfl⟩:∃k',k=k'+1:=⟨k-1,by simp only[rS]at hk;omega⟩
       exact wi (VY e1)
     .simp at ha
    .simp at ha
   |nl k=>cases k with|zero=>obtain⟨rfl,rfl⟩:=af (aa ha);obtain rfl:=hv;exact⟨[.d (.lit (.slice none 0 0))],[],[],fun k hk=>rg [.lit (.slice none 0 0)] k (by simpa[rS]using hk),fun r=>rfl,cf _,fun j hj=>by simp at hj,fun j hj=>hj,by simp[rS],fun j hj=>by simp at hj⟩|succ k=>simp[eJ]at ha
   |_=>simp[eJ]at ha
 |rw t=>
  intro ln v l i cs ha hv hk;cases ln with
  |true=>simp[eJ]at ha
  |false=>
   cases v with
   |sr id=>
    simp only[eJ]at ha;split at ha
    .rename_i u s ho;split at ha
     .rename_i s' hs;obtain⟨rfl,rfl⟩:=af (aa ha);obtain⟨e,rfl⟩:=da hs;cases e;obtain⟨c,rfl,hc⟩:=hv;rw[hc.1 _ (tY ho)];cases s with
      |nil=>exact⟨[.d (.lit (.slice none 0 0))],[],[],fun k hk=>rg [.lit (.slice none 0 0)] k (by simpa[rS]using hk),fun r=>rfl,kV _,fun j hj=>by obtain rfl:=aq.1 hj;exact .inr (.inr ⟨_,_,ho⟩),fun j hj=>by simp at hj,by simp[rS],fun j hj=>by obtain rfl:=aq.1 hj;exact hk⟩
      |mk q=>
       have e1:=(hr.ob id _ ho).2.1.2.2 q rfl;refine⟨[.AZ (bY t) (q.map (Js t))],[id],[id],fun k hk=>?_,fun r=>rfl,cf _,fun j hj=>.inl hj,fun j hj=>hj,by simp[rS],fun j hj=>by obtain rfl:=aq.1 hj;exact hk⟩;obtain⟨k,rfl⟩:∃k',k=k'+1:=⟨k-1,by simp only[rS]at hk;omega⟩
       exact wi (UQ e1)
     .simp at ha
    .simp at ha
   |nl k=>cases k with|zero=>obtain⟨rfl,rfl⟩:=af (aa ha);obtain rfl:=hv;exact⟨[.d (.lit (.slice none 0 0))],[],[],fun k hk=>rg [.lit (.slice none 0 0)] k (by simpa[rS]using hk),fun r=>rfl,cf _,fun j hj=>by simp at hj,fun j hj=>hj,by simp[rS],fun j hj=>by simp at hj⟩|succ k=>simp[eJ]at ha
   |_=>simp[eJ]at ha
 |pb t c ih=>
  intro ln v l i cs ha hv hk;cases ln with
  |true=>simp[eJ]at ha
  |false=>
   cases v with
   |op id u p=>
    cases p with
    |cons=>simp[eJ]at ha
    |nil=>
     simp only[eJ]at ha;split at ha
     .rename_i w q ho;obtain⟨hc,ha2⟩:=aM ha;split at ha2
      .rename_i l' i' ha3;obtain⟨rfl,rfl⟩:=af (aa ha2);obtain rfl:=hv;have e0:nU u []=0:=by cases u<;>rfl
       rw[e0];obtain⟨_,⟨cb,e1,e2,e3⟩,e4⟩:=hr.ob id _ ho;obtain⟨ts,bq,rd,g1,g2,g3,g4,g5,g6,g7⟩:=ih false q l' i' cb ha3 e2 e4;refine⟨[.pt ts],id::bq,id::rd,fun k hk=>?_,fun r=>by simp only[fP,g2 r],g3.cons_cons _,fun j hj=>?_,fun j hj=>?_,by simp[rS],fun j hj=>?_⟩
       .obtain ⟨k,rfl⟩:∃k',k=k'+2:=⟨k-2,by simp only[rS]at hk;omega⟩
        refine wi ?_;simp only[fc,e1,g1 k (by simp only[rS]at hk;omega)]
       .rcases aJ.1 hj with rfl|hj
        .exact .inl (by simp)
        .exact (g4 j hj).imp (fun q=>by simp[q]) (fun q=>q)
       .rcases aJ.1 hj with rfl|hj
        .simp
        .simp [g5 j hj]
       .rcases aJ.1 hj with rfl|hj
        .exact hk.1
        .exact g7 j hj
      .simp at ha2
     .simp at ha
   |_=>simp[eJ]at ha
 |nl k=>
  intro ln v l i cs ha hv hk;cases ln with
  |true=>simp[eJ]at ha
  |false=>
   cases v with
   |nl k'=>
    simp only[eJ]at ha;obtain⟨hc,ha2⟩:=aM ha;obtain rfl:k=k':=by simpa using hc
    obtain⟨rfl,rfl⟩:=af (aa ha2);obtain rfl:=hv;exact⟨[.d (PX k)],[],[],fun j hj=>rg [PX k] j (by simpa[rS]using hj),fun r=>rfl,cf _,fun j hj=>by simp at hj,fun j hj=>hj,by simp[rS],fun j hj=>by simp at hj⟩
   |_=>simp[eJ]at ha
 |st c ih=>
  intro ln v l i cs ha hv hk;cases ln with
  |true=>simp[eJ]at ha
  |false=>
   cases v with
   |rc q=>exact ih true q l i cs ha hv hk
   |x t v=>cases t with|st u=>obtain⟨hd,rfl⟩:=hv;exact ih true (Jd u v) l i _ ha (Cy u v hd) (Gc u v)|_=>simp[eJ]at ha
   |_=>simp[eJ]at ha
 |pr a c iha ihc=>
  intro ln v l i cs ha hv hk;cases ln with
  |false=>simp[eJ]at ha
  |true=>
   cases v with
   |co x r=>
    simp only[eJ]at ha;split at ha
    .rename_i l1 i1 l2 i2 h2 h3;obtain⟨rfl,rfl⟩:=af (aa ha);obtain⟨cx,cr,rfl,h4,h5⟩:=hv
     have hA:∃ts bq rd,(∀k,rS a<=k->jk h1 k cx=some (ts,bq,rd))/\(∀r,fP a (l1++r)=(ts,r))/\bq.Sublist i1/\(∀j∈i1,j∈bq\/nQ h j)/\(∀j∈rd,j∈i1)/\cx.length<=rS a/\(∀j∈i1,j<n):=by
      split at h2
      .rename_i t u v;unfold Q3 at h2;split at h2
       .obtain ⟨rfl,rfl⟩:=af (aa h2);obtain⟨_,rfl⟩:=h4;exact⟨[.d (.lit (.slice none 0 0))],[],[],fun k hk=>rg [.lit (.slice none 0 0)] k (by simpa[rS]using hk),fun r=>rfl,cf _,fun j hj=>by simp at hj,fun j hj=>hj,by simp[rS,aS],fun j hj=>by simp at hj⟩
       .simp at h2
      .exact iha false x l1 i1 cx h2 h4 hk.1
     obtain⟨t1,o1,r1,a1,a2,a3,a4,a5,a6,a7⟩:=hA;obtain⟨t2,o2,r2,b1,b2,b3,b4,b5,b6,b7⟩:=ihc true r l2 i2 cr h3 h5 hk.2;refine⟨t1++t2,o1++o2,r1++r2,fun k hk=>?_,fun r=>?_,a3.append b3,fun j hj=>?_,fun j hj=>?_,by simp[rS];omega,fun j hj=>?_⟩
     .simp only[rS]at hk;exact wj (a1 k (by omega)) (b1 _ (by omega)) (by omega)
     .simp only[fP,aI,a2,b2]
     .rcases ap.1 hj with hj|hj
      .exact (a4 j hj).imp (aA _) (fun q=>q)
      .exact (b4 j hj).imp (aC _) (fun q=>q)
     .rcases ap.1 hj with hj|hj
      .exact aA _ (a5 j hj)
      .exact aC _ (b5 j hj)
     .rcases ap.1 hj with hj|hj
      .exact a7 j hj
      .exact b7 j hj
    .simp at ha
   |_=>simp[eJ]at ha
 |ni=>
  intro ln v l i cs ha hv hk;cases ln with
  |false=>cases v<;>simp[eJ]at ha
  |true=>cases v with|ni=>obtain⟨rfl,rfl⟩:=af (aa ha);obtain rfl:=hv;exact⟨[],[],[],fun k _=>ql k,fun r=>rfl,cf _,fun j hj=>by simp at hj,fun j hj=>hj,by simp,fun j hj=>by simp at hj⟩|_=>simp[eJ]at ha
 |_=>intro ln v l i cs ha;cases ln<;>simp[eJ]at ha
theorem F8:∀(a b:List T)(m:Nat),jb m (a++b)=((jb m a).1++(jb (jb m a).2.2 b).1,(jb m a).2.1++(jb (jb m a).2.2 b).2.1,(jb (jb m a).2.2 b).2.2):=by intro a;induction a with|nil=>intro b m;simp[jb]|cons t a ih=>intro b m;simp only[aU,jb,ih,aI]
theorem sM(t:T)(m:Nat):jb m [t]=([(lW m t).1],(lW m t).2.1,(lW m t).2.2):=by simp[jb]
theorem Sn:∀(ds:List D)(m:Nat),jb m (ds.map T.d)=(ds.map .d,[],m+ds.length):=by intro ds;induction ds with|nil=>intro m;rfl|cons d ds ih=>intro m;simp only[aD,jb,lW,ih,List.nil_append,List.length_cons];congr 2;omega
theorem xD{a b:fN}(hd:∀p∈a,∀q∈b,p.1≠q.1)(i:Nat):az (a++b++h1) i=az (b++(a++h1)) i:=by rw[gU,gU,gU,<-eP,nH hd]
structure Mk(s s':S2)(h1:bD)(u:fN):Prop where
 hr:HR s'.next (u++h1) s'.heap
 eE:ke s.next s.heap s'.heap
 dF:s'.dF=s.dF
 gh:s'.gh=s.gh
 le:s.next<=s'.next
 G9:∀p∈u,s.next<=p.1/\p.1<s'.next
 wo:∃W,s'.wo=W++s.wo/\(∀p∈u,p.1∈W)/\(∀i∈W,s.next<=i/\i<s'.next)/\∀i,i∉W->fO s'.heap i=fO s.heap i
theorem Mk.skip{s:S2}{m:Nat}(hr:HR s.next h1 s.heap)(hm:s.next<=m):Mk s {s with next:=m} h1 []:=⟨hr.mono hm,ke.refl _ _,rfl,rfl,hm,fun p hp=>by simp at hp,[],rfl,fun p hp=>by simp at hp,fun i hi=>by simp at hi,fun _ _=>rfl⟩
theorem Mk.seq{s s1 s2:S2}{u1 u2:fN}(a:Mk s s1 h1 u1)(b:Mk s1 s2 (u1++h1) u2):Mk s s2 h1 (u1++u2):=by
 obtain⟨a3,a4,a5,a6,a7,a8,W,v1,v2,v3,v4⟩:=a;obtain⟨b3,b4,b5,b6,b7,b8,X,x1,x2,x3,x4⟩:=b;refine⟨?_,a4.trans a7 b4,b5.trans a5,b6.trans a6,by omega,fun p hp=>?_,X++W,by rw[x1,v1,aI],fun p hp=>?_,fun i hi=>?_,fun i hi=>?_⟩
 .exact b3.ext fun i=>xD (fun p hp q hq e=>by have:=(a8 p hp).2;have:=(b8 q hq).1;omega) i
 .rcases ap.1 hp with hp|hp
  .have:=a8 p hp;omega
  .have:=b8 p hp;omega
 .rcases ap.1 hp with hp|hp
  .exact aC _ (v2 p hp)
  .exact aA _ (x2 p hp)
 .rcases ap.1 hi with hi|hi
  .have:=x3 i hi;omega
  .have:=v3 i hi;omega
 .rw [x4 i fun q=>hi (aA _ q),v4 i fun q=>hi (aC _ q)]
end
section
variable{h:H2}{n:Nat}
theorem ke.bx{id:Nat}{t:Ty}{c:V}:ke n h ((id,some (.bx t c))::h):=⟨fun i o hi ho=>by
 rw[cS]at ho;split at ho
 .obtain rfl:=aa ho;exact .inr rfl
 .exact .inl ⟨o,ho,tR.refl _⟩⟩
theorem Mk.one{s:S2}{h1:bD}{o:O}{b:Option Ob}{u:fN}(hr:HR s.next h1 s.heap)(hu:u=[(s.next,b)]\/(u=[]/\∀b',wx ((s.next,some o)::s.heap) o b'))(hb:u=[(s.next,b)]->wx ((s.next,some o)::s.heap) o b)
  (hko:DE (s.next+1) ((s.next,some o)::s.heap) o):Mk s (kq s o) h1 u:=by
 have hd:=sF.new (x:=.jA []) (v:=.no) (aw:=[]) (l:=[]) (m:=s.next+1) hr hu hb hko rfl trivial (fun i hi=>by simp at hi) (am _);refine⟨hd.hr,hd.eE,rfl,rfl,bE _,fun p hp=>?_,[s.next],rfl,fun p hp=>?_,fun i hi=>?_,fun i hi=>?_⟩
 .rcases hu with rfl|⟨rfl,_⟩
  .obtain rfl:=aq.1 hp;exact⟨am _,bc _⟩
  .simp at hp
 .rcases hu with rfl|⟨rfl,_⟩
  .obtain rfl:=aq.1 hp;simp
  .simp at hp
 .obtain rfl:=aq.1 hi;exact⟨am _,bc _⟩
 .simp only[kq];rw[cS,if_neg fun e=>hi (by simp[e])]
theorem wC:∀(c:Sh)(ln:Bool)(l:List V)(s:S2)(w:V)(l':List V)(s':S2)(h1:bD),sH c ln l s=some (w,l',s')->HR s.next h1 s.heap->
  fD s'.heap w (jb s.next (fP c l).1).1/\fB s'.next s'.heap w/\Mk s s' h1 (jb s.next (fP c l).1).2.1/\s'.next=(jb s.next (fP c l).1).2.2/\l'=(fP c l).2/\(ln=false->uq w=yK c):=by
 intro c;induction c with
 |x t=>
  intro ln l s w l' s' h1 hm hr;cases ln with
  |true=>simp[sH]at hm
  |false=>match l with|.x u v::l=>simp only[sH]at hm;obtain⟨hc,hm2⟩:=aM hm;simp only[ai,decide_eq_true_eq]at hc;obtain⟨rfl,hd⟩:=hc;obtain⟨rfl,e⟩:=af (aa hm2);obtain⟨rfl,rfl⟩:=af e;simp only[fP,Sn,bO];exact⟨⟨hd,rfl⟩,trivial,Mk.skip hr (Nat.le_add_right _ _),trivial,trivial,fun _=>rfl⟩|[]|.kb _::_|.nl _::_|.so _::_|.sr _::_|.sb _ _ _ _ _::_|.op _ _ _::_|.ep _ _ _ _::_|.pt _ _::_|.fn _ _ _::_|.om _::_|.rc _::_|.tp _::_|.ni::_|.co _ _::_|.fl _::_|.no::_|.gn::_=>simp[sH]at hm
 |os t=>
  intro ln l s w l' s' h1 hm hr;cases ln with
  |true=>simp[sH]at hm
  |false=>
   match l with
   |.x (.sl u) v::l=>
    simp only[sH]at hm;obtain⟨hc,hm2⟩:=aM hm;simp only[ai,decide_eq_true_eq]at hc;obtain⟨rfl,hd⟩:=hc;obtain⟨d1,d2⟩:=rl hd;obtain⟨rfl,e⟩:=af (aa hm2);obtain⟨rfl,rfl⟩:=af e;simp only[fP,sM];have hv:fD (kq s (.ar u v 0)).heap (.so s.next) [ny (bY u) (aS u) s.next v]:=⟨_,rfl,fun c' hc'=>by simp only[kq,uJ]at hc';exact aa hc',CF⟩
    cases v with|nil=>exact⟨hv,bc _,Mk.one (b:=none) hr (.inr ⟨rfl,fun b'=>⟨d1,d2,fun l e=>by cases e⟩⟩) (fun e=>by cases e) trivial,by first|rfl|trivial,by first|rfl|trivial,fun _=>rfl⟩|mk q=>exact⟨hv,bc _,Mk.one (b:=some (.aL (bY u) (q.map (aS u)))) hr (.inl rfl) (fun _=>⟨d1,d2,fun l e=>by cases e;rfl⟩) trivial,by first|rfl|trivial,by first|rfl|trivial,fun _=>rfl⟩
   |[]|.kb _::_|.nl _::_|.so _::_|.sr _::_|.sb _ _ _ _ _::_|.op _ _ _::_|.ep _ _ _ _::_|.pt _ _::_|.fn _ _ _::_|.om _::_|.rc _::_|.tp _::_|.ni::_|.co _ _::_|.fl _::_|.no::_|.gn::_=>simp[sH]at hm
   |.x (.i _) _::_|.x .b _::_|.x .s _::_|.x (.f _) _::_|.x (.mp _ _) _::_|.x .un _::_|.x (.pr _ _) _::_|.x (.st _) _::_|.x (.ar _ _) _::_|.x (.o _) _::_=>simp[sH]at hm
 |rw t=>
  intro ln l s w l' s' h1 hm hr;cases ln with
  |true=>simp[sH]at hm
  |false=>
   match l with
   |.x (.sl (.sl u)) v::l=>
    simp only[sH]at hm;obtain⟨hc,hm2⟩:=aM hm;simp only[ai,decide_eq_true_eq]at hc;obtain⟨rfl,hd⟩:=hc;obtain⟨d1,d2⟩:=rl hd;obtain⟨rfl,e⟩:=af (aa hm2);obtain⟨rfl,rfl⟩:=af e;simp only[fP,sM];have hv:fD (kq s (.rw u v none)).heap (.sr s.next) [ny 1 (aS (.sl u)) s.next (v:Sl (Sl (El u)))]:=⟨_,rfl,fun c' hc'=>by simp only[kq,uJ]at hc';exact aa hc',CF⟩
    cases v with
    |nil=>exact⟨hv,bc _,Mk.one (b:=none) hr (.inr ⟨rfl,fun b'=>⟨d1,d2,fun l e=>by cases e⟩⟩) (fun e=>by cases e) trivial,by first|rfl|trivial,by first|rfl|trivial,fun _=>rfl⟩
    |mk q=>
     have e1:(lW s.next (zy u (.mk q))).1=ny 1 (aS (.sl u)) s.next (Sl.mk q:Sl (Sl (El u))):=by simp[zy,lW,ny]
     have e2:(lW s.next (zy u (.mk q))).2.1=[(s.next,some (.nst (bY u) (fw u q none)))]:=by simp only[zy,lW,zB,fw]
     rw[e1,e2];exact⟨hv,bc _,Mk.one (b:=some (.nst (bY u) (fw u q none))) hr (.inl rfl) (fun _=>⟨d1,d2,fun l e=>by cases e;rfl⟩) trivial,by first|rfl|trivial,by first|rfl|trivial,fun _=>rfl⟩
   |[]|.kb _::_|.nl _::_|.so _::_|.sr _::_|.sb _ _ _ _ _::_|.op _ _ _::_|.ep _ _ _ _::_|.pt _ _::_|.fn _ _ _::_|.om _::_|.rc _::_|.tp _::_|.ni::_|.co _ _::_|.fl _::_|.no::_|.gn::_=>simp[sH]at hm
   |.x (.sl (.i _)) _::_|.x (.sl .b) _::_|.x (.sl .s) _::_|.x (.sl (.f _)) _::_|.x (.sl (.mp _ _)) _::_|.x (.sl .un) _::_|.x (.sl (.pr _ _)) _::_|.x (.sl (.st _)) _::_|.x (.sl (.ar _ _)) _::_|.x (.sl (.o _)) _::_|.x (.i _) _::_|.x .b _::_|.x .s _::_|.x (.f _) _::_|.x (.mp _ _) _::_|.x .un _::_|.x (.pr _ _) _::_|.x (.st _) _::_|.x (.ar _ _) _::_|.x (.o _) _::_=>simp[sH]at hm
 |pb t c ih=>
  intro ln l s w l' s' h1 hm hr;cases ln with
  |true=>simp[sH]at hm
  |false=>
   simp only[sH]at hm;split at hm
   .rename_i w0 l0 s2 hm0;obtain⟨hf,hm2⟩:=aM hm;obtain⟨rfl,e⟩:=af (aa hm2);obtain⟨rfl,rfl⟩:=af e;obtain⟨q1,q2,q3,q4,q5,_⟩:=ih false l {s with next:=s.next+1} w0 l0 s2 h1 hm0 (hr.mono (bE _));simp only[fP,sM,lW];obtain⟨a3,a4,a5,a6,a7,a8,W,v1,v2,v3,v4⟩:=q3;simp only at a4 a5 a6 a7 a8 v1 v3 v4;have hlt:s.next<s2.next:=by omega
    have hin:∀i,i∉W->fO s2.heap i=fO s.heap i:=v4;refine⟨?_,⟨hlt,by cases t<;>trivial⟩,⟨?_,?_,a5,a6,by show s.next<=s2.next;omega,fun p hp=>?_,s.next::W,by simp only[eU,v1];rfl,fun p hp=>?_,fun i hi=>?_,fun i hi=>?_⟩,q4,q5,fun _=>rfl⟩
    .show [_]=[_]
     have e0:nU t []=0:=by cases t<;>rfl
     rw[e0]
    .refine HR.DN (u:=[(s.next,some (.box _))]) a3 (am _) hlt ke.bx (fun i hi=>?_) fun o' ho'=>?_
     .rw [bd,dA,if_neg fun e=>hi e.symm]
     .obtain rfl:=aa ho';refine⟨?_,hZ (am _) ke.bx q2⟩;rw[bd,dA,if_pos rfl];exact⟨_,rfl,mG ke.bx q2 q1,hf⟩
    .exact ke.trans (n':=s2.next) (by omega) (⟨fun i o hi ho=>a4.ob i o (by omega) ho⟩:ke s.next s.heap s2.heap) ke.bx
    .simp only[eU];rcases aJ.1 hp with rfl|hp
     .exact ⟨am _,hlt⟩
     .have:=a8 p hp;omega
    .rcases aJ.1 hp with rfl|hp
     .simp
     .exact av _ (v2 p hp)
    .simp only[eU];rcases aJ.1 hi with rfl|hi
     .exact ⟨am _,hlt⟩
     .have:=v3 i hi;omega
    .simp only[eU];rw[cS,if_neg fun e=>hi (by simp[e]),hin i fun q=>hi (by simp[q])]
   .simp at hm
 |nl k=>intro ln l s w l' s' h1 hm hr;cases ln with|true=>simp[sH]at hm|false=>simp only[sH]at hm;obtain⟨rfl,e⟩:=af (aa hm);obtain⟨rfl,rfl⟩:=af e;simp only[fP,sM,lW];exact⟨rfl,trivial,Mk.skip hr (bE _),by first|rfl|trivial,by first|rfl|trivial,fun _=>rfl⟩
 |st c ih=>
  intro ln l s w l' s' h1 hm hr;cases ln with
  |true=>simp[sH]at hm
  |false=>
   simp only[sH]at hm;split at hm
   .rename_i w0 l0 s2 hm0;obtain⟨rfl,e⟩:=af (aa hm);obtain⟨rfl,rfl⟩:=af e;obtain⟨q1,q2,q3,q4,q5,_⟩:=ih true l s w0 l0 s2 h1 hm0 hr;exact⟨q1,q2,q3,q4,q5,fun _=>rfl⟩
   .simp at hm
 |pr a c iha ihc=>
  intro ln l s w l' s' h1 hm hr;cases ln with
  |false=>simp[sH]at hm
  |true=>
   simp only[sH]at hm;split at hm
   .rename_i x l1 s1 hm1;split at hm
    .rename_i r l2 s2 hm2;obtain⟨rfl,e⟩:=af (aa hm);obtain⟨rfl,rfl⟩:=af e;obtain⟨q1,q2,q3,q4,q5,_⟩:=iha false l s x l1 s1 h1 hm1 hr;subst q5;obtain⟨p1,p2,p3,p4,p5,_⟩:=ihc true _ s1 r l2 s2 _ hm2 q3.hr;subst p5;simp only[fP,F8];rw[q4]at p1 p3 p4;exact⟨⟨_,_,rfl,mG p3.eE q2 q1,p1⟩,⟨hZ p3.le p3.eE q2,p2⟩,Mk.seq q3 p3,p4,by first|rfl|trivial,fun e=>by cases e⟩
    .simp at hm
   .simp at hm
 |ni=>intro ln l s w l' s' h1 hm hr;cases ln with|false=>simp[sH]at hm|true=>simp only[sH]at hm;obtain⟨rfl,e⟩:=af (aa hm);obtain⟨rfl,rfl⟩:=af e;exact⟨rfl,trivial,Mk.skip hr (am _),rfl,rfl,fun e=>by cases e⟩
 |_=>intro ln l s w l' s' h1 hm;cases ln<;>simp[sH]at hm
end
def OM:List (Bool×Sh)->List Bool->Bool
 |[],_=>true
 |(b,_)::r,ms=>decide (ms.headD false=b)&&OM r ms.tail
def wG:Sh->Bool
 |.os _|.rw _|.pb _ _|.nl _=>true
 |_=>false
def zY:Sh->Bool
 |.x t=>bY t==1
 |.os _|.rw _|.pb _ _|.nl _|.pt _|.fn _ _=>true
 |_=>false
def CO:List (Bool×Sh)->Bool
 |[]=>true
 |(b,c)::r=>(bif b then wG c&&Nat.ble (rS c) 300 else(yK c||zY c)&&Nat.ble (xN c) 300)&&CO r
section
variable{h:H2}{n:Nat}{h1:bD}
def Qf(h:H2)(n:Nat)(h1:bD)(p:V×List Nat)(q:C×List Nat×List Nat):Prop:=
 fD h p.1 [q.1]/\fB n h p.1/\(∃t,fc h1 300 q.1=some (t,q.2.1,q.2.2))/\q.2.1.Sublist p.2/\(∀j∈p.2,j∈q.2.1\/nQ h j)/\(∀j∈q.2.2,j∈p.2)/\(∀j∈p.2,j<n)/\
  match p.1 with|.so id=>p.2=[id]/\∃u s ver,fO h id=some (.ar u s ver)|.sr id=>p.2=[id]/\∃u s,fO h id=some (.rw u s none)|.op id _ _=>id∈p.2/\¬nQ h id|.nl _=>True|_=>False
def yu(h:H2)(n:Nat)(h1:bD):List (V×List Nat)->List (C×List Nat×List Nat)->Prop
 |[],l=>l=[]
 |p::r,l=>∃q m,l=q::m/\Qf h n h1 p q/\yu h n h1 r m
theorem MM{v w:V}{l:List Nat}(hf:jW h v=some (w,l)):uq v=uq w:=by
 cases v with
 |so id=>
  simp only[jW]at hf;split at hf
  .obtain ⟨rfl,_⟩:=af (aa hf);rfl
  .simp at hf
 |sr id=>
  simp only[jW]at hf;split at hf
  .obtain ⟨rfl,_⟩:=af (aa hf);rfl
  .simp at hf
 |sb id ver lo t r=>simp only[jW,uQ]at hf;obtain⟨rfl,_⟩:=af (aa hf);rfl
 |rc l=>
  simp only[jW]at hf;split at hf
  .obtain ⟨rfl,_⟩:=af (aa hf);rfl
  .simp at hf
 |co a r=>
  simp only[jW]at hf;split at hf
  .obtain ⟨rfl,_⟩:=af (aa hf);rfl
  .simp at hf
 |fn z f l=>cases z<;>simp[jW]at hf;rw[<-hf.1]
 |_=>first|(simp[jW]at hf;done)|(simp[jW]at hf;rw[<-hf.1])
theorem Mm{c:Sh}{v:V}{l:List V}{i:List Nat}{x:TV}(hr:HR n h1 h)(hl:wG c=true)(hf:rS c<=300)(ha:eJ h c false v=some (l,i))(hx:gm h v x)(hk:fB n h v):
  ∃cc t bq rd,x=.c cc/\fc h1 300 cc=some (t,bq,rd)/\(∀r,fP c (l++r)=([t],r))/\Qf h n h1 (v,i) (cc,bq,rd):=by
 have hp:OA v/\uq v=false:=by
  cases c<;>simp[wG]at hl
  all_goals(cases v<;>first|exact⟨trivial,rfl⟩|(simp[eJ]at ha;done))
 obtain⟨cc,rfl,hc⟩:=jM (pQ hp.1 hx) hp.2;obtain⟨ts,bq,rd,g1,g2,g3,g4,g5,g6,g7⟩:=xY hr c false v l i [cc] ha hc hk;have e:=g1 301 (by omega);simp only[jk,ql]at e;split at e
 .rename_i t a b x' b' j hp1 hp2;obtain⟨rfl,e2⟩:=af (aa hp2);obtain⟨rfl,rfl⟩:=af e2;clear e2;clear hp2;obtain⟨rfl,e3⟩:=af (aa e);obtain⟨rfl,rfl⟩:=af e3;refine⟨cc,t,_,_,rfl,by simpa using hp1,g2,hc,hk,⟨t,by simpa using hp1⟩,g3,g4,g5,g7,?_⟩;cases v with
  |so id=>
   cases c with
   |os t=>
    simp only[eJ]at ha;split at ha
    .rename_i u s ver ho;split at ha
     .obtain ⟨_,rfl⟩:=af (aa ha);exact⟨rfl,u,s,ver,ho⟩
     .simp at ha
    .simp at ha
   |_=>simp[eJ,iL,wG]at ha hl
  |sr id=>
   cases c with
   |rw t=>
    simp only[eJ]at ha;split at ha
    .rename_i u s ho;split at ha
     .obtain ⟨_,rfl⟩:=af (aa ha);exact⟨rfl,u,s,ho⟩
     .simp at ha
    .simp at ha
   |_=>simp[eJ,iL,wG]at ha hl
  |op id u p=>
   cases c with
   |pb t c=>
    cases p with
    |cons=>simp[eJ]at ha
    |nil=>
     simp only[eJ]at ha;split at ha
     .rename_i w q ho;obtain⟨_,ha2⟩:=aM ha;split at ha2
      .obtain ⟨_,rfl⟩:=af (aa ha2);refine⟨by simp,?_⟩;rintro(⟨u',v',e⟩|⟨u',ln',e⟩)
       .rcases e with e|e<;>rw[ho]at e<;>simp at e
       .rw [ho]at e;cases e
      .simp at ha2
     .simp at ha
   |_=>simp[eJ,iL,wG]at ha hl
  |nl k=>trivial
  |_=>(cases c<;>simp[wG]at hl<;>simp[eJ]at ha)
 .simp at e
theorem FR(hr:HR n h1 h):∀(ps:List (Bool×Sh))(vs:List V)(ms:List Bool)(m:List V)(j:List Nat)(q:List (V×List Nat))(xs:List TV),vN h ps vs=some (m,j,q)->nv h vs xs->(∀w∈vs,fB n h w)->(∀w∈vs,iZ h w=true)->OM ps ms=true->CO ps=true->
  ∃aw lent,gK h1 xs ms=some (ik ps m,aw,lent)/\(∀i∈aw,i∈j/\¬nQ h i)/\(∀i∈j,i∈aw\/nQ h i)/\yu h n h1 q lent:=by
 intro ps;induction ps with
 |nil=>intro vs ms m j q xs ha hx hk hal hm hp;cases vs with|cons=>simp[vN]at ha|nil=>obtain⟨rfl,e⟩:=af (aa ha);obtain⟨rfl,rfl⟩:=af e;obtain rfl:=lY hx;exact⟨[],[],rfl,fun i hi=>by simp at hi,fun i hi=>by simp at hi,rfl⟩
 |cons p ps ih=>
  obtain⟨b,c⟩:=p;intro vs ms m j q xs ha hx hk hal hm hp;cases vs with
  |nil=>simp[vN]at ha
  |cons v vs=>
   obtain⟨x,ys,rfl,hx1,hx2⟩:=gz hx;simp only[OM,ai,decide_eq_true_eq]at hm;simp only[CO,ai]at hp;simp only[vN]at ha;split at ha
   .rename_i m' j' q' hrest;obtain⟨aw,lent,e1,e2,e3,e4⟩:=ih vs ms.tail m' j' q' ys hrest hx2 (fun w hw=>hk w (by simp[hw])) (fun w hw=>hal w (by simp[hw])) hm.2 hp.2;cases b with
    |true=>
     simp only[cond_true]at ha;split at ha
     .rename_i l i ha2;obtain⟨rfl,e⟩:=af (aa ha);obtain⟨rfl,rfl⟩:=af e;have hp1:=hp.1;simp only[cond_true,ai,Nat.ble_eq]at hp1;obtain⟨cc,t,bq,rd,rfl,f1,f2,f3⟩:=Mm hr hp1.1 hp1.2 ha2 hx1 (hk v (by simp));refine⟨aw,(cc,bq,rd)::lent,?_,e2,e3,⟨_,_,rfl,f3,e4⟩⟩;rw[Tj f1 hm.1 e1];simp only[ik,f2,bL]
     .simp at ha
    |false=>
     simp only[cond_false]at ha;split at ha
     .rename_i l i ha2;obtain⟨rfl,e⟩:=af (aa ha);obtain⟨rfl,rfl⟩:=af e;have hp1:=hp.1;simp only[cond_false,ai,Nat.ble_eq,dl]at hp1;have hpl:OA v:=by cases v<;>first|trivial|(cases c<;>simp[pN,jW]at ha2)
      cases hs:yK c with
      |true=>
       cases c with
       |x t=>
        simp only[pN]at ha2;split at ha2
        .rename_i w l' hw;split at ha2
         .rename_i y hy;obtain⟨rfl,rfl⟩:=af (aa ha2);obtain⟨cs,hc,h3,h4⟩:=pQ hpl hx1;obtain⟨ds,is,f1,f2,f3,f4,_⟩:=ug hr v w l' cs hw hc (hk v (by simp)) (hal v (by simp));have e5:=qD (jH w false t y _ hy f2);subst e5;refine⟨is++aw,lent,?_,fun k hk=>?_,fun k hk=>?_,e4⟩
          .rw [h3 (((MM hw).trans (xS hy)).trans hs),Rv f1 hm.1 e1];simp only[ik,hs,cond_true];rfl
          .rcases ap.1 hk with hk|hk
           .exact ⟨aA _ (f3 k hk).1,(f3 k hk).2⟩
           .exact ⟨aC _ (e2 k hk).1,(e2 k hk).2⟩
          .rcases ap.1 hk with hk|hk
           .exact (f4 k hk).imp (aA _) (fun q=>q)
           .exact (e3 k hk).imp (aC _) (fun q=>q)
         .simp at ha2
        .simp at ha2
       |st c=>simp[pN]at ha2
       |_=>simp[yK]at hs
      |false=>
       have hag:uq v=false:=by
        cases c with
        |x t=>
         simp only[pN]at ha2;split at ha2
         .rename_i w l' hw;split at ha2
          .rename_i y hy;exact((MM hw).trans (xS hy)).trans hs
          .simp at ha2
         .simp at ha2
        |_=>cases v<;>first|rfl|(simp[pN]at ha2;done)|(simp[yK]at hs;done)|(simp[zY,yK]at hp1;done)
       obtain⟨cs,hc,h3,h4⟩:=pQ hpl hx1;obtain⟨ds,is,g1,g2,g3,g4,g5⟩:=KK hr c v l i cs ha2 hc (hk v (by simp)) (hal v (by simp));refine⟨is++aw,lent,?_,fun k hk=>?_,fun k hk=>?_,e4⟩
       .obtain ⟨cc,rfl,rfl⟩:=h4 hag;have e:=g1 301 (by omega);have en:gu h1 300 []=some ([],[]):=rfl;simp only[gu,en]at e;split at e
        .rename_i d a xs' b' hv1 hv2;obtain⟨rfl,rfl⟩:=af (aa hv2);clear hv2;obtain⟨rfl,rfl⟩:=af (aa e);rw[VJ hv1 hm.1 e1];simp only[ik,hs,g2,cond_false,bL,aV]
        .simp at e
       .rcases ap.1 hk with hk|hk
        .exact ⟨aA _ (g3 k hk).1,(g3 k hk).2⟩
        .exact ⟨aC _ (e2 k hk).1,(e2 k hk).2⟩
       .rcases ap.1 hk with hk|hk
        .exact (g4 k hk).imp (aA _) (fun q=>q)
        .exact (e3 k hk).imp (aC _) (fun q=>q)
     .simp at ha
   .simp at ha
end
section
variable{h:H2}{n:Nat}{h1:bD}
structure Bk(s s':S2)(h1:bD)(I:List Nat)(u:fN):Prop where
 hr:HR s'.next (u++h1) s'.heap
 eE:ke s.next s.heap s'.heap
 dF:s'.dF=s.dF
 gh:s'.gh=s.gh
 le:s.next<=s'.next
 G9:∀p∈u,p.1∈I\/(s.next<=p.1/\p.1<s'.next)
 nb:∀i,i<s.next->fO s.heap i=none->fO s'.heap i=none
 wo:∃W,s'.wo=W++s.wo/\(∀p∈u,p.1∈W)/\∀i,i∉W->fO s'.heap i=fO s.heap i
theorem Bk.refl{s:S2}(hr:HR s.next h1 s.heap):Bk s s h1 [] []:=⟨hr,ke.refl _ _,rfl,rfl,am _,fun p hp=>by simp at hp,fun _ _ h=>h,[],rfl,fun p hp=>by simp at hp,fun _ _=>rfl⟩
theorem Bk.seq{s s1 s2:S2}{I J:List Nat}{u1 u2:fN}(a:Bk s s1 h1 I u1)(b:Bk s1 s2 (u1++h1) J u2)(hd:∀i∈I,i∉J)(hI:∀i∈I,i<s.next)(hJ:∀j∈J,j<s.next):Bk s s2 h1 (I++J) (u1++u2):=by
 obtain⟨a3,a4,a5,a6,a7,a8,a9,W,v1,v2,v4⟩:=a;obtain⟨b3,b4,b5,b6,b7,b8,b9,X,x1,x2,x4⟩:=b;refine⟨b3.ext fun i=>xD (fun p hp q hq e=>?_) i,a4.trans a7 b4,b5.trans a5,b6.trans a6,by omega,fun p hp=>?_,fun i hi h=>b9 i (by omega) (a9 i hi h),X++W,by rw[x1,v1,aI],fun p hp=>?_,fun i hi=>?_⟩
 .rcases a8 p hp with h2|h2<;>rcases b8 q hq with h3|h3
  .exact hd _ h2 (e▸h3)
  .have:=hI _ h2;omega
  .have:=hJ _ h3;omega
  .omega
 .rcases ap.1 hp with hp|hp
  .rcases a8 p hp with h2|h2
   .exact .inl (aA _ h2)
   .exact .inr (by omega)
  .rcases b8 p hp with h2|h2
   .exact .inl (aC _ h2)
   .exact .inr (by omega)
 .rcases ap.1 hp with hp|hp
  .exact aC _ (v2 p hp)
  .exact aA _ (x2 p hp)
 .rw [x4 i fun q=>hi (aA _ q),v4 i fun q=>hi (aC _ q)]
theorem p8:∀(i:List Nat)(s:S2),(jN i s).dF=s.dF/\(jN i s).next=s.next/\(jN i s).gh=s.gh/\(jN i s).wo=i++s.wo/\∀j,fO (jN i s).heap j=if j∈i then none else fO s.heap j:=by
 intro i;induction i with
 |nil=>intro s;exact⟨rfl,rfl,rfl,rfl,fun j=>by simp[jN]⟩
 |cons a i ih=>
  intro s;obtain⟨h1,h2,h3,h4,h5⟩:=ih s;refine⟨h1,h2,h3,by simp[jN,eU,h4],fun j=>?_⟩;simp only[jN,eU,cS,h5];by_cases e:a=j
  .subst e;simp
  .simp [e,Ne.symm e]
theorem ke.sub{g:H2}(hs:∀i o,fO g i=some o->fO h i=some o):ke n h g:=⟨fun i o _ ho=>.inl ⟨o,hs i o ho,tR.refl _⟩⟩
theorem HR.sub{g:H2}(hr:HR n h1 h)(hs:∀i o,fO g i=some o->fO h i=some o):HR n h1 g:=⟨fun i o ho=>let⟨a,b,c⟩:=hr.ob i o (hs i o ho);⟨a,qB (ke.sub hs) c b,pu (am _) (ke.sub hs) c⟩⟩
theorem Af{i:List Nat}{s:S2}:∀j o,fO (jN i s).heap j=some o->fO s.heap j=some o:=by
 intro j o ho;rw[(p8 i s).2.2.2.2]at ho;split at ho
 .simp at ho
 .exact ho
theorem B0{bq:List Nat}{j:Nat}(hj:j∉bq):az (bq.map (fun i=>(i,(none:Option Ob)))++h1) j=az h1 j:=xE fun p hp e=>by obtain⟨i,hi,rfl⟩:=bv.1 hp;exact hj (e▸hi)
theorem Bk.m8{s:S2}{i bq:List Nat}(hr:HR s.next h1 s.heap)(ho:∀j∈bq,j∈i):Bk s (jN i s) h1 i (bq.map fun j=>(j,none)):=by
 obtain⟨k1,k2,k3,k4,k5⟩:=p8 i s;refine⟨⟨fun j o hj=>?_⟩,ke.sub Af,k1,k3,by omega,fun p hp=>?_,fun j _ h=>by rw[k5];split<;>first|rfl|exact h,i,k4,fun p hp=>?_,fun j hj=>by rw[k5,if_neg hj]⟩
 .obtain ⟨a,b,c⟩:=(hr.sub Af).ob j o hj;refine⟨by omega,?_,by rw[k2];exact c⟩;have:j∉i:=fun hm=>by rw[k5,if_pos hm]at hj;simp at hj
  rw[B0 fun hm=>this (ho j hm)];exact b
 .obtain ⟨j,hj,rfl⟩:=bv.1 hp;exact .inl (ho j hj)
 .obtain ⟨j,hj,rfl⟩:=bv.1 hp;exact ho j hj
theorem uH{α:Type}{a b:Sl α}{u:Unit}(hl:jF a b=some u):a.fT=b.fT/\a.l.length=b.l.length:=by
 cases a<;>cases b<;>simp[jF]at hl
 .exact ⟨rfl,rfl⟩
 .exact ⟨rfl,BZ.1 hl⟩
theorem ui{c:C}{rd:List Nat}{x:D}{r:List (C×List Nat×List Nat)}{ts:List T}{m:Nat}:dX m ((c,[],rd)::r) (.d x::ts)=dX m r ts:=by simp only[dX]
theorem zU{x:D}{t:T}{bq rd:List Nat}(hp:fc h1 300 (.d x)=some (t,bq,rd)):bq=[]:=by rw[wl]at hp;obtain⟨_,e⟩:=af (aa hp);exact(af e).1.symm
theorem L8{q:List (V×List Nat)}{v:V}{i:List Nat}(hn:(lq (fun(p:V×List Nat)=>p.2) ((v,i)::q)).Nodup):(∀j∈i,j∉lq (fun(p:V×List Nat)=>p.2) q)/\(lq (fun(p:V×List Nat)=>p.2) q).Nodup:=by simp only[bo]at hn;exact⟨fun j hj hm=>(cC.1 hn).2.2 j hj j hm rfl,(cC.1 hn).2.1⟩
theorem yu.lt:∀{q:List (V×List Nat)}{lent:List (C×List Nat×List Nat)},yu h n h1 q lent->∀j∈lq (fun(p:V×List Nat)=>p.2) q,j<n:=by
 intro q;induction q with
 |nil=>intro lent _ j hj;simp at hj
 |cons p q ih=>
  rintro lent ⟨x,m,rfl,hx,hm⟩ j hj;simp only[bo,ap]at hj;rcases hj with hj|hj
  .exact hx.2.2.2.2.2.2.1 j hj
  .exact ih hm j hj
theorem Nv{szi m id len k:Nat}{rows:List (Option (List (List D)))}{rd:List Nat}{r:List (C×List Nat×List Nat)}{ts:List T}{w:fN}(hl:rows.length=len)(hr:dX m r ts=some (w,k)):
  dX m ((.fK 1 id 0 len,[id],rd)::r) (.AZ szi rows::ts)=some ((id,some (.nst szi (rows.map nX)))::w,k):=by
 simp only[dX,hl,hr,and_self,if_true]
theorem AN{β:Type}{z:β}(hr0:HR n h1 h):∀(os:List Sh)(q:List (V×List Nat))(lent:List (C×List Nat×List Nat))(l:List V)(s:S2)(H:bD)(k:S2->Option β),eK os q l s k=some z->yu h n h1 q lent->n<=s.next->HR s.next H s.heap->ke n h s.heap->
  (lq (fun(p:V×List Nat)=>p.2) q).Nodup->∃s1 bu,k s1=some z/\dX s.next lent (lO os l)=some (bu,s1.next)/\Bk s s1 H (lq (fun(p:V×List Nat)=>p.2) q) bu:=by
 intro os;induction os with
 |nil=>
  intro q lent l s H k hb hl hn hr eE hnd;cases q with
  |cons p q=>simp[eK]at hb
  |nil=>cases l with|cons=>simp[eK]at hb|nil=>obtain rfl:lent=[]:=hl;exact⟨s,[],hb,rfl,Bk.refl hr⟩
 |cons o os ih=>
  intro q lent l s H k hb hl hn hr eE hnd;cases q with
  |nil=>cases o<;>simp[eK]at hb
  |cons p q=>
   obtain⟨v,i⟩:=p;obtain⟨⟨c,bq,rd⟩,m,rfl,⟨hc,hkv,⟨tp,hpk⟩,hsub,hcov,hrd,hlt,hsh⟩,hl2⟩:=hl;obtain⟨hd,hnd2⟩:=L8 hnd;have hI:∀j∈i,j<s.next:=fun j hj=>by have:j<n:=hlt j hj;omega
   have hJ:∀j∈lq (fun(p:V×List Nat)=>p.2) q,j<s.next:=fun j hj=>by have:=hl2.lt j hj;omega
   cases o with
   |nl kk=>cases i with|cons=>simp[eK]at hb|nil=>simp only[eK]at hb;obtain⟨s1,bu,e1,e2,e3⟩:=ih q m l s H k hb hl2 hn hr eE hnd2;have:bq=[]:=List.sublist_nil.1 hsub;subst this;exact⟨s1,bu,e1,by simp only[lO,fP,bL,ui];exact e2,by simpa using e3⟩
   |gn=>simp only[eK]at hb;obtain⟨k1,k2,k3,k4,k5⟩:=p8 i s;have b1:Bk s (jN i s) H i (bq.map fun j=>(j,none)):=Bk.m8 hr fun j hj=>hsub.subset hj;obtain⟨s1,bu,e1,e2,e3⟩:=ih q m l (jN i s) _ k hb hl2 (by omega) b1.hr (eE.trans hn b1.eE) hnd2;rw[k2]at e2;exact⟨s1,_,e1,by simp only[lO,fP,bL];exact KI e2,by simpa using b1.seq e3 hd hI hJ⟩
   |os t=>
    cases v with
    |nl kk=>
     cases kk with
     |succ=>cases l with|nil=>simp[eK]at hb|cons w l=>cases w<;>simp[eK]at hb
     |zero=>
      cases i with
      |cons=>cases l with|nil=>simp[eK]at hb|cons w l=>cases w<;>simp[eK]at hb
      |nil=>
       match l with
       |.x (.sl u) v::l=>
        simp only[eK]at hb;split at hb
        .rename_i v' hv;obtain⟨e,rfl⟩:=da hv;cases e;obtain⟨_,hls,hb2⟩:=qh hb;obtain⟨hni,_⟩:=uH hls;obtain⟨s1,bu,e1,e2,e3⟩:=ih q m l s H k hb2 hl2 hn hr eE hnd2;have:bq=[]:=List.sublist_nil.1 hsub;subst this;refine⟨s1,bu,e1,?_,by simpa using e3⟩;cases v with|mk=>simp[Sl.fT]at hni|nil=>simp only[lO,fP,bL,Qz,ui];exact e2
        .simp at hb
       |[]|.kb _::_|.nl _::_|.so _::_|.sr _::_|.sb _ _ _ _ _::_|.op _ _ _::_|.ep _ _ _ _::_|.pt _ _::_|.fn _ _ _::_|.om _::_|.rc _::_|.tp _::_|.ni::_|.co _ _::_|.fl _::_|.no::_|.gn::_=>simp[eK]at hb
       |.x (.i _) _::_|.x .b _::_|.x .s _::_|.x (.f _) _::_|.x (.mp _ _) _::_|.x .un _::_|.x (.pr _ _) _::_|.x (.st _) _::_|.x (.ar _ _) _::_|.x (.o _) _::_=>simp[eK]at hb
    |so id=>
     match l with
     |.x (.sl u) v::l=>
      simp only[eK]at hb;split at hb
      .rename_i w old ver v' ho hv;obtain⟨e,rfl⟩:=da hv;cases e;split at hb
       .rename_i v2 hv2;obtain⟨e,rfl⟩:=da hv2;cases e;obtain⟨_,hls,hb2⟩:=qh hb;obtain⟨hni,hln⟩:=uH hls;obtain⟨rfl,u0,s0,ver0,ho0⟩:=hsh;have hid:id<n:=hkv;obtain⟨o1,ho1,hos⟩:=(eE.ob id _ hid ho).resolve_right (by simp[OU]);rw[ho0]at ho1;obtain rfl:=aa ho1;obtain⟨_,rfl,hn1,hn2,_⟩:=hos;obtain⟨cc,ece,hcc⟩:=hc;obtain rfl:=fQ.1 ece;have ec:=hcc.1 _ (nw (.inl ho0));obtain⟨q1,q2,q3⟩:=(hr.ob id _ ho).2.1;have hosn:tR (.ar u0 old ver) (.ar u0 v (ver+1)):=⟨bE _,rfl,hni.symm,hln.symm,fun e=>by omega⟩
        have key:∀(uu:fN),(∀p∈uu,p.1=id)->(∀l,v=.mk l->az (uu++H) id=some (.aL (bY u0) (l.map (aS u0))))->Bk s (eU s id (some (.ar u0 v (ver+1)))) H [id] uu:=by intro uu hu hlk;have d:=tC (x:=.jA []) (v:=.no) (aw:=[]) (l:=[]) hr ho hni.symm hln.symm hu hlk (fun _=>rfl) (fun _ _=>trivial) (fun i hi=>by simp at hi);exact⟨d.hr,d.eE,rfl,rfl,am _,fun p hp=>.inl (by simp[hu p hp]),d.nb,[id],rfl,fun p hp=>by simp[hu p hp],fun j hj=>by simp only[eU];rw[cS,if_neg fun e=>hj (by simp[e])]⟩
        cases v with
        |nil=>
         have b1:=key [] (fun p hp=>by simp at hp) (fun l e=>by cases e);obtain⟨s1,bu,f1,f2,e3⟩:=ih q m l _ _ k hb2 hl2 hn b1.hr (eE.trans hn b1.eE) hnd2;have hnil:s0.fT=true:=by rw[hn1,<-hni];rfl
         cases s0 with|mk=>simp[Sl.fT]at hnil|nil=>subst ec;have:=zU hpk;subst this;refine⟨s1,bu,f1,?_,by simpa using b1.seq e3 hd hI hJ⟩;simp only[lO,fP,bL,Qz,ui];exact f2
        |mk vl=>
         have b1:=key [(id,some (.aL (bY u0) (vl.map (aS u0))))] (fun p hp=>by simp at hp;simp[hp]) (fun l e=>by cases e;rw[bd,dA,if_pos rfl]);obtain⟨s1,bu,f1,f2,e3⟩:=ih q m l _ _ k hb2 hl2 hn b1.hr (eE.trans hn b1.eE) hnd2;have hnil:s0.fT=false:=by rw[hn1,<-hni];rfl
         cases s0 with|nil=>simp[Sl.fT]at hnil|mk uB=>subst ec;have hlk:=(hr0.ob id _ ho0).2.1.2.2 uB rfl;have hp2:=VY (k:=300) hlk;simp only[ny]at hpk;rw[hp2]at hpk;obtain⟨_,e⟩:=af (aa hpk);obtain⟨rfl,rfl⟩:=af e;refine⟨s1,_,f1,?_,by simpa using b1.seq e3 hd hI hJ⟩;simp only[lO,fP,bL,Qz,ny];refine Pw ?_ f2;simp only[Sl.l]at hn2 hln;simp only[aF];omega
       .simp at hb
      .simp at hb
     |[]|.kb _::_|.nl _::_|.so _::_|.sr _::_|.sb _ _ _ _ _::_|.op _ _ _::_|.ep _ _ _ _::_|.pt _ _::_|.fn _ _ _::_|.om _::_|.rc _::_|.tp _::_|.ni::_|.co _ _::_|.fl _::_|.no::_|.gn::_=>simp[eK]at hb
     |.x (.i _) _::_|.x .b _::_|.x .s _::_|.x (.f _) _::_|.x (.mp _ _) _::_|.x .un _::_|.x (.pr _ _) _::_|.x (.st _) _::_|.x (.ar _ _) _::_|.x (.o _) _::_=>simp[eK]at hb
    |_=>simp[eK]at hb
   |rw t=>
    cases v with
    |nl kk=>
     cases kk with
     |succ=>cases l with|nil=>simp[eK]at hb|cons w l=>cases w<;>simp[eK]at hb
     |zero=>
      cases i with
      |cons=>cases l with|nil=>simp[eK]at hb|cons w l=>cases w<;>simp[eK]at hb
      |nil=>
       match l with
       |.x (.sl (.sl u)) v::l=>
        simp only[eK]at hb;split at hb
        .rename_i v' hv;obtain⟨e,rfl⟩:=da hv;cases e;obtain⟨_,hls,hb2⟩:=qh hb;obtain⟨hni,_⟩:=uH hls;obtain⟨s1,bu,e1,e2,e3⟩:=ih q m l s H k hb2 hl2 hn hr eE hnd2;have:bq=[]:=List.sublist_nil.1 hsub;subst this;refine⟨s1,bu,e1,?_,by simpa using e3⟩;cases v with|mk=>simp[Sl.fT]at hni|nil=>simp only[lO,fP,bL,zy,ui];exact e2
        .simp at hb
       |[]|.kb _::_|.nl _::_|.so _::_|.sr _::_|.sb _ _ _ _ _::_|.op _ _ _::_|.ep _ _ _ _::_|.pt _ _::_|.fn _ _ _::_|.om _::_|.rc _::_|.tp _::_|.ni::_|.co _ _::_|.fl _::_|.no::_|.gn::_=>simp[eK]at hb
       |.x (.sl (.i _)) _::_|.x (.sl .b) _::_|.x (.sl .s) _::_|.x (.sl (.f _)) _::_|.x (.sl (.mp _ _)) _::_|.x (.sl .un) _::_|.x (.sl (.pr _ _)) _::_|.x (.sl (.st _)) _::_|.x (.sl (.ar _ _)) _::_|.x (.sl (.o _)) _::_|.x (.i _) _::_|.x .b _::_|.x .s _::_|.x (.f _) _::_|.x (.mp _ _) _::_|.x .un _::_|.x (.pr _ _) _::_|.x (.st _) _::_|.x (.ar _ _) _::_|.x (.o _) _::_=>simp[eK]at hb
    |sr id=>
     match l with
     |.x (.sl (.sl u)) v::l=>
      simp only[eK]at hb;split at hb
      .rename_i w old ln v' ho hv;obtain⟨e,rfl⟩:=da hv;cases e;split at hb
       .rename_i v2 hv2;obtain⟨e,rfl⟩:=da hv2;cases e;obtain⟨_,hls,hb2⟩:=qh hb;obtain⟨hni,hln⟩:=uH hls;obtain⟨rfl,u0,s0,ho0⟩:=hsh;have hid:id<n:=hkv;obtain⟨o1,ho1,hos⟩:=(eE.ob id _ hid ho).resolve_right (by simp[OU]);rw[ho0]at ho1;obtain rfl:=aa ho1;obtain⟨rfl,hn1,hn2⟩:=hos;obtain⟨cc,ece,hcc⟩:=hc;obtain rfl:=fQ.1 ece;have ec:=hcc.1 _ (tY ho0);obtain⟨q1,q2,q3⟩:=(hr.ob id _ ho).2.1;have hosn:tR (.rw u0 old ln) (.rw u0 v none):=⟨rfl,hni.symm,hln.symm⟩
        have key:∀(uu:fN),(∀p∈uu,p.1=id)->(∀l,v=.mk l->az (uu++H) id=some (.nst (bY u0) (fw u0 l none)))->Bk s (eU s id (some (.rw u0 v none))) H [id] uu:=by intro uu hu hlk;have d:=HU (x:=.jA []) (v:=.no) (aw:=[]) (l:=[]) hr ho hosn hu ⟨q1,q2,hlk⟩ trivial rfl trivial (fun i hi=>by simp at hi);exact⟨d.hr,d.eE,rfl,rfl,am _,fun p hp=>.inl (by simp[hu p hp]),d.nb,[id],rfl,fun p hp=>by simp[hu p hp],fun j hj=>by simp only[eU];rw[cS,if_neg fun e=>hj (by simp[e])]⟩
        cases v with
        |nil=>
         have b1:=key [] (fun p hp=>by simp at hp) (fun l e=>by cases e);obtain⟨s1,bu,f1,f2,e3⟩:=ih q m l _ _ k hb2 hl2 hn b1.hr (eE.trans hn b1.eE) hnd2;have hnil:s0.fT=true:=by rw[hn1,<-hni];rfl
         cases s0 with|mk=>simp[Sl.fT]at hnil|nil=>subst ec;have:=zU hpk;subst this;refine⟨s1,bu,f1,?_,by simpa using b1.seq e3 hd hI hJ⟩;simp only[lO,fP,bL,zy,ui];exact f2
        |mk vl=>
         have b1:=key [(id,some (.nst (bY u0) (fw u0 vl none)))] (fun p hp=>by simp at hp;simp[hp]) (fun l e=>by cases e;rw[bd,dA,if_pos rfl]);obtain⟨s1,bu,f1,f2,e3⟩:=ih q m l _ _ k hb2 hl2 hn b1.hr (eE.trans hn b1.eE) hnd2;have hnil:s0.fT=false:=by rw[hn1,<-hni];rfl
         cases s0 with|nil=>simp[Sl.fT]at hnil|mk uB=>subst ec;have hlk:=(hr0.ob id _ ho0).2.1.2.2 uB rfl;have hp2:=UQ (k:=300) hlk;simp only[ny]at hpk hp2;rw[hp2]at hpk;obtain⟨_,e⟩:=af (aa hpk);obtain⟨rfl,rfl⟩:=af e;refine⟨s1,_,f1,?_,by simpa using b1.seq e3 hd hI hJ⟩;simp only[lO,fP,bL,zy,ny,aF];rw[show fw u0 vl none=(vl.map (Js u0)).map nX from(zB vl).symm];refine Nv ?_ f2;rw[aF];exact hln.trans hn2.symm
       .simp at hb
      .simp at hb
     |[]|.kb _::_|.nl _::_|.so _::_|.sr _::_|.sb _ _ _ _ _::_|.op _ _ _::_|.ep _ _ _ _::_|.pt _ _::_|.fn _ _ _::_|.om _::_|.rc _::_|.tp _::_|.ni::_|.co _ _::_|.fl _::_|.no::_|.gn::_=>simp[eK]at hb
     |.x (.sl (.i _)) _::_|.x (.sl .b) _::_|.x (.sl .s) _::_|.x (.sl (.f _)) _::_|.x (.sl (.mp _ _)) _::_|.x (.sl .un) _::_|.x (.sl (.pr _ _)) _::_|.x (.sl (.st _)) _::_|.x (.sl (.ar _ _)) _::_|.x (.sl (.o _)) _::_|.x (.i _) _::_|.x .b _::_|.x .s _::_|.x (.f _) _::_|.x (.mp _ _) _::_|.x .un _::_|.x (.pr _ _) _::_|.x (.st _) _::_|.x (.ar _ _) _::_|.x (.o _) _::_=>simp[eK]at hb
    |_=>simp[eK]at hb
   |pb t c2=>
    cases v with
    |op id u p=>
     cases p with
     |cons=>simp[eK]at hb
     |nil=>
      simp only[eK]at hb;split at hb
      case h_2=>simp at hb
      rename_i oid hoid;split at hb
      .rename_i w l' s2 hm;obtain⟨hf,hb2⟩:=aM hb;simp only[ai,decide_eq_true_eq]at hf;obtain⟨hf,rfl⟩:=hf;obtain⟨g1,g2,g3,g4,g5,_⟩:=wC c2 false l s w l' s2 H hm hr;subst g5;obtain⟨hid,hnn⟩:=hsh;have hio:id∈bq:=(hcov id hid).resolve_right hnn
       obtain rfl:c=.op id 0:=by
        have e0:nU u []=0:=by cases u<;>rfl
        have:[c]=[C.op id (nU u [])]:=hc;rw[e0]at this;exact fQ.1 this
       obtain⟨k1,k2,k3,k4,k5⟩:=p8 i s2;have hids:id<s2.next:=by have:=hI id hid;have:=g3.le;omega
       have b1:Bk s (eU (jN i s2) id (some (.bx u w))) H i ((id,some (.box (jb s.next (fP c2 l).1).1))::(jb s.next (fP c2 l).1).2.1++bq.map (fun j=>(j,none))):=by
        obtain⟨a3,a4,a5,a6,a7,a8,W,v1,v2,v3,v4⟩:=g3;have hs2:ke s2.next s2.heap (eU (jN i s2) id (some (.bx u w))).heap:=ke.trans (am _) (ke.sub Af) ke.bx;refine⟨⟨fun j o hj=>?_⟩,ke.trans a7 a4 hs2,k1.trans a5,k3.trans a6,by simp only[eU];omega,fun p hp=>?_,fun j hj hn=>(by simp only[eU];rw[cS,if_neg (fun e=>by rw[e,hn]at hoid;cases hoid),k5];split<;>first|rfl|(rw[v4 j fun q=>by have:=(v3 j q).1;omega];exact hn)),id::(i++W),by simp only[eU,k4,v1,aU,aI],fun p hp=>?_,fun j hj=>?_⟩
        .simp only[eU]at hj|-;rw[cS]at hj;split at hj
         .rename_i e;subst e;obtain rfl:=aa hj;refine⟨by omega,?_,?_⟩
          .rw [aU,aU,dA,if_pos rfl];exact⟨_,rfl,mG hs2 g2 g1,hf⟩
          .rw [k2];exact hZ (am _) hs2 g2
         .rename_i e;have hji:j∉i:=fun hm=>by rw[k5,if_pos hm]at hj;simp at hj
          rw[k5,if_neg hji]at hj;obtain⟨c1,c2',c3⟩:=a3.ob j o hj;refine⟨by omega,?_,?_⟩
          .rw [aU,aU,dA,if_neg e,aI];have:az ((jb s.next (fP c2 l).1).2.1++(bq.map (fun j=>(j,none))++H)) j=az ((jb s.next (fP c2 l).1).2.1++H) j:=by simp only[az,ic];have:=B0 (h1:=H) (bq:=bq) (j:=j) fun hm=>hji (hsub.subset hm);simp only[az,ic]at this;cases cn (jb s.next (fP c2 l).1).2.1 j with|some x=>rfl|none=>exact this
           rw[this];exact qB hs2 c3 c2'
          .rw [k2];exact pu (am _) hs2 c3
        .rcases ap.1 hp with hp|hp
         .rcases aJ.1 hp with rfl|hp
          .exact .inl hid
          .have:=a8 p hp;exact .inr ⟨this.1,by simp only[eU];omega⟩
         .obtain ⟨j,hj,rfl⟩:=bv.1 hp;exact .inl (hsub.subset hj)
        .rcases ap.1 hp with hp|hp
         .rcases aJ.1 hp with rfl|hp
          .simp
          .simp [v2 p hp]
         .obtain ⟨j,hj,rfl⟩:=bv.1 hp;simp[hsub.subset hj]
        .simp only[eU];rw[cS,if_neg fun e=>hj (by simp[e]),k5,if_neg fun q=>hj (by simp[q]),v4 j fun q=>hj (by simp[q])]
       obtain⟨s1,bu,e1,e2,e3⟩:=ih q m _ _ _ k hb2 hl2 (by have:=b1.le;omega) b1.hr (eE.trans hn b1.eE) hnd2;have en:(eU (jN i s2) id (some (.bx u w))).next=(jb s.next (fP c2 l).1).2.2:=by simp only[eU,k2,g4]
       rw[en]at e2;refine⟨s1,_,e1,?_,by simpa using b1.seq e3 hd hI hJ⟩;simp only[lO,fP,bL];have:=Pv (n:=s.next) (id:=id) (bq:=bq) (rd:=rd) (by simpa using hio) e2;rw[this];simp only[aU,aI]
      .simp at hb
    |_=>simp[eK]at hb
   |_=>simp[eK]at hb
end
def Se(c:Sh):Bool:=yK c||zY c
section
variable{h:H2}{n:Nat}{h1:bD}
theorem Dk{c:Sh}{l l':List V}{s s':S2}{w:V}(hm:sH c false l s=some (w,l',s'))(ho:zY c=true):(fP c l).1.length=1:=by
 cases c with
 |x t=>match l with|.x u v::l=>simp only[sH]at hm;obtain⟨hc,_⟩:=aM hm;simp only[ai,decide_eq_true_eq]at hc;obtain⟨rfl,_⟩:=hc;simpa[fP,bO,zY]using ho|[]|.kb _::_|.nl _::_|.so _::_|.sr _::_|.sb _ _ _ _ _::_|.op _ _ _::_|.ep _ _ _ _::_|.pt _ _::_|.fn _ _ _::_|.om _::_|.rc _::_|.tp _::_|.ni::_|.co _ _::_|.fl _::_|.no::_|.gn::_=>simp[sH]at hm
 |os t=>match l with|.x (.sl u) v::l=>rfl|[]|.kb _::_|.nl _::_|.so _::_|.sr _::_|.sb _ _ _ _ _::_|.op _ _ _::_|.ep _ _ _ _::_|.pt _ _::_|.fn _ _ _::_|.om _::_|.rc _::_|.tp _::_|.ni::_|.co _ _::_|.fl _::_|.no::_|.gn::_=>simp[sH]at hm|.x (.i _) _::_|.x .b _::_|.x .s _::_|.x (.f _) _::_|.x (.mp _ _) _::_|.x .un _::_|.x (.pr _ _) _::_|.x (.st _) _::_|.x (.ar _ _) _::_|.x (.o _) _::_=>simp[sH]at hm
 |rw t=>match l with|.x (.sl (.sl u)) v::l=>rfl|[]|.kb _::_|.nl _::_|.so _::_|.sr _::_|.sb _ _ _ _ _::_|.op _ _ _::_|.ep _ _ _ _::_|.pt _ _::_|.fn _ _ _::_|.om _::_|.rc _::_|.tp _::_|.ni::_|.co _ _::_|.fl _::_|.no::_|.gn::_=>simp[sH]at hm|.x (.sl (.i _)) _::_|.x (.sl .b) _::_|.x (.sl .s) _::_|.x (.sl (.f _)) _::_|.x (.sl (.mp _ _)) _::_|.x (.sl .un) _::_|.x (.sl (.pr _ _)) _::_|.x (.sl (.st _)) _::_|.x (.sl (.ar _ _)) _::_|.x (.sl (.o _)) _::_|.x (.i _) _::_|.x .b _::_|.x .s _::_|.x (.f _) _::_|.x (.mp _ _) _::_|.x .un _::_|.x (.pr _ _) _::_|.x (.st _) _::_|.x (.ar _ _) _::_|.x (.o _) _::_=>simp[sH]at hm
 |pb t c=>rfl
 |nl k=>rfl
 |_=>first|(simp[sH]at hm;done)|(simp[zY]at ho;done)
theorem BW:∀(rs:List Sh)(l:List V)(s:S2)(xs:List V)(l':List V)(s':S2)(h1:bD),J0 rs l s=some (xs,l',s')->HR s.next h1 s.heap->rs.all Se=true->
  Cw s'.heap (bw xs) (il s.next (pW rs l)).1/\(∀x∈xs,fB s'.next s'.heap x)/\Mk s s' h1 (il s.next (pW rs l)).2.1/\s'.next=(il s.next (pW rs l)).2.2/\xs.length=rs.length:=by
 intro rs;induction rs with
 |nil=>intro l s xs l' s' h1 hm hr _;obtain⟨rfl,e⟩:=af (aa hm);obtain⟨rfl,rfl⟩:=af e;exact⟨rfl,fun x hx=>by simp at hx,Mk.skip hr (am _),rfl,rfl⟩
 |cons c rs ih=>
  intro l s xs l' s' h1 hm hr hok;simp only[gk,ai]at hok;simp only[J0]at hm;split at hm
  .rename_i x l1 s1 hm1;split at hm
   .rename_i ys l2 s2 hm2;obtain⟨rfl,e⟩:=af (aa hm);obtain⟨rfl,rfl⟩:=af e;obtain⟨q1,q2,q3,q4,q5,q6⟩:=wC c false l s x l1 s1 h1 hm1 hr;have q6:=q6 rfl;subst q5
    have hu:x8 s.next (bif yK c then .agg (fP c l).1 else .c ((fP c l).1.headD default))=(bif yK c then .agg (jb s.next (fP c l).1).1 else .c ((jb s.next (fP c l).1).1.headD default),(jb s.next (fP c l).1).2.1,(jb s.next (fP c l).1).2.2)/\tX s1.heap x (bif yK c then .agg (jb s.next (fP c l).1).1 else .c ((jb s.next (fP c l).1).1.headD default)):=by
     cases hs:yK c with
     |true=>exact⟨rfl,zm (q6.trans hs) q1⟩
     |false=>
      have hl:(fP c l).1.length=1:=by
       have h2:zY c=true:=by simpa[Se,hs]using hok.1
       exact Dk hm1 h2
      match ht:(fP c l).1,hl with|[t],_=>rw[ht]at q1;simp only[sM]at q1;refine⟨by simp only[cond_false,bL,x8,sM],?_⟩;simp only[cond_false,sM,bL];exact dV (q6.trans hs) q1
    obtain⟨hu1,hu2⟩:=hu;obtain⟨p1,p2,p3,p4,p5⟩:=ih (fP c l).2 s1 ys l2 s2 _ hm2 q3.hr hok.2;rw[q4]at p1 p3 p4;simp only[pW,il,hu1];refine⟨⟨_,_,rfl,xh p3.eE q2 hu2,p1⟩,fun y hy=>?_,q3.seq p3,p4,by simp[p5]⟩;rcases aJ.1 hy with rfl|hy
    .exact hZ p3.le p3.eE q2
    .exact p2 y hy
   .simp at hm
  .simp at hm
end
def C0:Ty->Bool
 |.i _|.b|.s|.f _|.un=>true
 |.pr a c=>C0 a&&C0 c
 |.st t|.ar _ t=>C0 t
 |_=>false
def Q6:Sh->Bool
 |.x t=>C0 t
 |_=>false
def Q7:Sh->Bool
 |.os t=>C0 t
 |.gn=>true
 |_=>false
def Sv(sp:kD):Bool:=sp.al.all (fun w=>w.1.all Q6&&w.2.all Q7)
def NR(sp:kD):Bool:=OM sp.ps sp.ld&&CO sp.ps&&sp.al.all (fun w=>w.1.all Se)&&(!sp.ro||Sv sp)
def NS(Q:List Sh->List Sh->List V->Prop):(r o:List Sh)->(w:Wy)->wV.HN r o w->Prop
 |r,o,[],z=>Q r o (pY (jh r++jh o) z)
 |r,o,(r',o')::w,z=>match z with|.inl z=>Q r o (pY (jh r++jh o) z)|.inr z=>NS Q r' o' w z
def NT(Q:List Sh->List Sh->List V->Prop):(w:Wy)->wV w->Prop
 |[],z=>nomatch z
 |(r,o)::w,z=>NS Q r o w z
def cm(P:Program)(f:FuncId)(sp:kD):Prop:=NR sp=true/\∀p z,sp.fn p=some z->NT (fun rs os l=>AW P f (ik sp.ps (pY (jh (sp.ps.map (·.2))) p)) (pW rs (l.take (jh rs).length)) (lO os (l.drop (jh rs).length))) sp.al z
def qP(P:Program)(tb:FU):Prop:=∀e∈tb,cm P e.1 e.2
theorem qP.nil{P:Program}:qP P []:=fun e he=>by simp at he
theorem qP.cons{P:Program}{f:FuncId}{sp:kD}{tb:FU}(h:cm P f sp)(ht:qP P tb):qP P ((f,sp)::tb):=fun e he=>by
 rcases aJ.1 he with rfl|he
 .exact h
 .exact ht e he
theorem I6{β:Type}{k:List Sh->List Sh->List V->Option β}{Q:List Sh->List Sh->List V->Prop}{b:β}:∀(w:Wy)(z:wV w),Sk k w z=some b->NT Q w z->∃r o l,(r,o)∈w/\k r o l=some b/\Q r o l:=by
 have key:∀(w:Wy)(r o:List Sh)(z:wV.HN r o w),Qj k r o w z=some b->NS Q r o w z->∃r' o' l,(r',o')∈(r,o)::w/\k r' o' l=some b/\Q r' o' l:=by
  intro w;induction w with
  |nil=>intro r o z hz hq;exact⟨r,o,_,by simp,hz,hq⟩
  |cons p w ih=>intro r o z hz hq;cases z with|inl z=>exact⟨r,o,_,by simp,hz,hq⟩|inr z=>obtain⟨r',o',l,h1,h2,h3⟩:=ih p.1 p.2 z hz hq;exact⟨r',o',l,av _ h1,h2,h3⟩
 intro w z hz hq;cases w with|nil=>exact nomatch z|cons p w=>exact key w p.1 p.2 z hz hq
theorem AH{u:Ty}{v:V}{y:El u}(h:vd u v=some y):v=.x u y:=by cases v with|x t v=>obtain⟨rfl,rfl⟩:=da (show gN t u v=some y from h);rfl|_=>simp[vd]at h
theorem qY:∀(cs:List Ty)(l:List V)(p:rR cs),xj cs l=some p->pY cs p=l:=by
 have key:∀(r:List Ty)(a:Ty)(l:List V)(p:rR.FY a r),Ga a r l=some p->N1 a r p=l:=by
  intro r;induction r with
  |nil=>
   intro a l p h
   match l with|[]=>exact nomatch (show(none:Option (rR.FY a []))=some p from h)|[v]=>rw[AH (show vd a v=some p from h)];rfl|_::_::_=>exact nomatch (show(none:Option (rR.FY a []))=some p from h)
  |cons c r ih=>
   intro a l p h
   match l with
   |[]=>exact nomatch (show(none:Option (rR.FY a (c::r)))=some p from h)
   |v::l=>
    have h:Ja (vd a v) (Ga c r l)=some p:=h;cases hx:vd a v with
    |none=>rw[hx]at h;exact nomatch h
    |some x=>cases hy:Ga c r l with|none=>rw[hx,hy]at h;exact nomatch h|some y=>rw[hx,hy]at h;obtain rfl:=aa h;show V.x a x::N1 c r y=v::l;rw[ih c l y hy,AH hx]
 intro cs l p h
 match cs,l with|[],[]=>rfl|[],_::_=>exact nomatch (show(none:Option (rR []))=some p from h)|a::r,l=>exact key r a l p h
section
variable{h:H2}{n:Nat}{h1:bD}
theorem DP{a b:List V}{x y:List TV}(ha:nv h a x)(hb:nv h b y):nv h (a++b) (x++y):=by induction a generalizing x with|nil=>rw[lY ha];exact hb|cons v a ih=>obtain⟨c,r,rfl,h2,h3⟩:=gz ha;exact⟨h2,ih h3⟩
theorem zi:∀(v:V)(l:List V)(cs:List C),w8 v=some l->fD h v cs->fB n h v->iZ h v=true->nv h l (cs.map TV.c)/\(∀w∈l,fB n h w)/\∀w∈l,iZ h w=true:=by
 intro v;induction v with
 |ni=>intro l cs hl hc _ _;obtain rfl:=aa hl;obtain rfl:=hc;exact⟨trivial,fun w hw=>by simp at hw,fun w hw=>by simp at hw⟩
 |co a r iha ihr=>
  intro l cs hl hc hk hal;simp only[w8]at hl;obtain⟨h1,hl⟩:=aM hl;simp only[ai,beq_iff_eq,gi]at h1;split at hl
  .rename_i l' hl';obtain rfl:=aa hl;obtain⟨x,y,rfl,h2,h3⟩:=hc;simp only[iZ,ai]at hal;obtain⟨q1,q2,q3⟩:=ihr l' y hl' h3 hk.2 hal.2;have hlen:=iY h2;rw[h1.1]at hlen
   match x,hlen with
   |[c],_=>
    refine⟨⟨cj (dV h1.2 h2),q1⟩,fun w hw=>?_,fun w hw=>?_⟩
    .rcases aJ.1 hw with rfl|hw
     .exact hk.1
     .exact q2 w hw
    .rcases aJ.1 hw with rfl|hw
     .exact hal.1
     .exact q3 w hw
  .simp at hl
 |_=>intro l cs hl;simp[w8]at hl
theorem Hj:∀(tb:FU)(f:Nat)(vs:List V)(sp:kD)(l:List V)(i:List Nat)(q:List (V×List Nat)),B8 h f vs tb=some (sp,l,i,q)->(f,sp)∈tb/\vN h sp.ps vs=some (l,i,q):=by
 intro tb;induction tb with
 |nil=>intro f vs sp l i q hf;simp[B8]at hf
 |cons e tb ih=>
  obtain⟨g,VX⟩:=e;intro f vs sp l i q hf;simp only[B8]at hf;cases hg:(g==f)with
  |false=>rw[hg,cond_false]at hf;obtain⟨h2,h3⟩:=ih f vs sp l i q hf;exact⟨av _ h2,h3⟩
  |true=>
   rw[hg,cond_true]at hf;obtain rfl:g=f:=by simpa using hg
   split at hf
   .rename_i l' i' q' ha;simp only[ce,Prod.mk.injEq]at hf;obtain⟨rfl,rfl,rfl,rfl⟩:=hf;exact⟨by simp,ha⟩
   .obtain ⟨h2,h3⟩:=ih g vs sp l i q hf;exact⟨av _ h2,h3⟩
theorem EQ:∀{l:List Nat},z5 l=true->l.Nodup:=by intro l;induction l with|nil=>intro _;exact List.nodup_nil|cons a l ih=>intro hl;simp only[z5,ai,gi,List.contains_eq_mem,decide_eq_false_iff_not]at hl;exact List.nodup_cons.2 ⟨hl.1,ih hl.2⟩
theorem yu.bq:∀{q:List (V×List Nat)}{lent:List (C×List Nat×List Nat)},yu h n h1 q lent->
  (lent.flatMap (fun(p:C×List Nat×List Nat)=>p.2.1)).Sublist (q.flatMap (·.2))/\(∀j∈lent.flatMap (fun(p:C×List Nat×List Nat)=>p.2.2),j∈q.flatMap (·.2)):=by
 intro q;induction q with
 |nil=>rintro lent rfl;exact⟨cf _,fun j hj=>hj⟩
 |cons p q ih=>
  rintro lent ⟨x,m,rfl,hx,hm⟩;obtain⟨a,b⟩:=ih hm;simp only[bo];refine⟨hx.2.2.2.1.append a,fun j hj=>?_⟩;rcases ap.1 hj with hj|hj
  .exact aA _ (hx.2.2.2.2.2.1 j hj)
  .exact aC _ (b j hj)
theorem F5(hr:HR n h1 h):∀{q:List (V×List Nat)}{lent:List (C×List Nat×List Nat)},yu h n h1 q lent->eT h1 lent=true:=by
 intro q;induction q with
 |nil=>rintro lent rfl;rfl
 |cons p q ih=>
  obtain⟨v,i⟩:=p;rintro lent ⟨⟨c,bq,rd⟩,m,rfl,hx,hm⟩;have hw:=ih hm;obtain⟨hc,_,_,_,_,_,_,hsh⟩:=hx;cases c with
  |fK sz id off len=>
   cases v with
   |so id'=>obtain⟨_,u,s,ver,ho⟩:=hsh;obtain⟨cc,e,hcc⟩:=hc;obtain rfl:=fQ.1 e;have e2:=hcc.1 _ (nw (.inl ho));cases s with|nil=>simp[ny]at e2|mk l=>simp only[ny,C.fK.injEq]at e2;obtain⟨rfl,rfl,rfl,rfl⟩:=e2;exact TJ ((hr.ob _ _ ho).2.1.2.2 l rfl) hw
   |sr jd=>obtain⟨_,u,s,ho⟩:=hsh;obtain⟨cc,e,hcc⟩:=hc;obtain rfl:=fQ.1 e;have e2:=hcc.1 _ (tY ho);cases s with|nil=>simp[ny]at e2|mk l=>simp only[ny,C.fK.injEq]at e2;obtain⟨rfl,rfl,rfl,rfl⟩:=e2;have hl:=(hr.ob _ _ ho).2.1.2.2 l rfl;simp only[eT,hl,fw,aF,beq_self_eq_true,kx,Bool.true_and];exact hw
   |nl k=>have:[C.fK sz id off len]=[ER k]:=hc
          simp[ER]at this
   |op a b2 e=>have:[C.fK sz id off len]=[C.op a (nU b2 e)]:=hc
               simp at this
   |_=>exact hsh.elim
  |_=>exact hw
end
section
variable{P:Program}{h1:bD}{β:Type}{s:S2}{k:V->S2->List Nat->Option β}{z:β}
def VT(P:Program)(h1:bD)(kk:K)(xs:List TV)(s:S2)(k:V->S2->List Nat->Option β)(z:β):Prop:=∃v s' l,k v s' l=some z/\∃call:Call,oC P call/\∃x u aw m,cI call kk (xs.map some) h1 s.next=some (x,u,aw,m)/\sF s s' h1 x u aw m v l
theorem O7{b:Bool}{f:Nat}{caps:V}{xf:TV}{cs:List V}(hf:gm s.heap (.fn b f caps) xf)(hk:fB s.next s.heap (.fn b f caps))(ha:iZ s.heap (.fn b f caps)=true)(hc:w8 caps=some cs):
  ∃cc,MQ (some xf)=some (f,cc)/\nv s.heap cs (cc.map TV.c)/\(∀w∈cs,fB s.next s.heap w)/\∀w∈cs,iZ s.heap w=true:=by
 rcases F_ hf with⟨rfl,ds,hd,rfl⟩|⟨rfl,xs,hd,rfl⟩
 .obtain ⟨a1,a2⟩:=AT (h:=s.heap) caps ha;exact⟨ds.map .d,rfl,zi caps cs _ hc (Nh caps ds hd) (a2 _) a1⟩
 .exact ⟨xs,rfl,zi caps cs _ hc hd hk ha⟩
theorem Ed{xs:List V}{vs:List TV}{g:H2}{m:Nat}(h:Cw g (bw xs) vs)(hk:∀x∈xs,fB m g x):gm g (QG xs) (t5 vs)/\fB m g (QG xs):=by
 have hrow:∀(l:List V),(∀x∈l,fB m g x)->fB m g (bw l):=by intro l;induction l with|nil=>intro _;trivial|cons a l ih=>intro hl;exact⟨hl a (by simp),ih fun x hx=>hl x (by simp[hx])⟩
 match xs with|[]=>obtain rfl:=h;exact⟨⟨[],rfl,rfl⟩,trivial⟩|[v]=>obtain⟨x,ys,rfl,h2,h3⟩:=h;obtain rfl:=h3;exact⟨cj h2,hk v (by simp)⟩|a::b::l=>obtain⟨x,ys,rfl,h2,h3⟩:=h;obtain⟨y,zs,rfl,h4,h5⟩:=h3;exact⟨⟨_,rfl,_,_,rfl,h2,_,_,rfl,h4,h5⟩,hrow _ hk⟩
theorem E6:∀(t:Ty)(v:El t),C0 t=true->∀d∈aS t v,∃y,d=.lit y:=by
 intro t;induction t with
 |pr a c iha ihc=>
  intro v h d hd;simp only[C0,ai]at h;rcases ap.1 (show d∈aS a v.1++aS c v.2 from hd)with hd|hd
  .exact iha _ h.1 d hd
  .exact ihc _ h.2 d hd
 |st t ih=>intro v h d hd;exact ih v h d hd
 |ar n t ih=>intro v h d hd;obtain⟨a,_,ha⟩:=List.mem_flatMap.1 (show d∈v.1.flatMap (aS t)from hd);exact ih a h d ha
 |un=>intro v h d hd;exact absurd (show d∈[]from hd) (by simp)
 |i k=>intro v h d hd;exact⟨_,aq.1 (show d∈[_]from hd)⟩
 |b=>intro v h d hd;exact⟨_,aq.1 (show d∈[_]from hd)⟩
 |s=>intro v h d hd;exact⟨_,aq.1 (show d∈[_]from hd)⟩
 |f k=>intro v h d hd;exact⟨_,aq.1 (show d∈[_]from hd)⟩
 |_=>intro v h;simp[C0]at h
theorem Me:∀(rs:List Sh)(l:List V)(s:S2)(xs:List V)(l':List V)(s':S2),J0 rs l s=some (xs,l',s')->rs.all Q6=true->rs.all Se=true->(pW rs l).all xG=true:=by
 intro rs;induction rs with
 |nil=>intro l s xs l' s' _ _ _;rfl
 |cons c rs ih=>
  intro l s xs l' s' hm hl ho;simp only[gk,ai]at hl ho;simp only[J0]at hm;split at hm
  .rename_i x l1 s1 hm1;split at hm
   .rename_i ys l2 s2 hm2;cases c with
    |x t=>
     have ho1:=ho.1
     match l with
     |.x u v::l=>
      have hm1':=hm1;simp only[sH]at hm1;obtain⟨hc,hm3⟩:=aM hm1;simp only[ai,decide_eq_true_eq]at hc;obtain⟨rfl,_⟩:=hc;obtain⟨rfl,e⟩:=af (aa hm3);obtain⟨rfl,rfl⟩:=af e;have hlit:=E6 u v hl.1;simp only[pW,fP,gk,ai];refine⟨?_,ih _ _ _ _ _ hm2 hl.2 ho.2⟩;cases hs:yK (.x u)with
      |true=>simp only[cond_true,xG,aT];intro t ht;obtain⟨d,hd,rfl⟩:=bv.1 ht;obtain⟨y,rfl⟩:=hlit d hd;rfl
      |false=>
       have h2:zY (.x u)=true:=by simpa[Se,hs]using ho1
       have hlen:=Dk hm1' h2;simp only[fP,aF]at hlen
       match he:aS u v,hlen with|[d],_=>obtain⟨y,rfl⟩:=hlit d (by rw[he];simp);rfl
     |[]|.kb _::_|.nl _::_|.so _::_|.sb _ _ _ _ _::_|.op _ _ _::_|.ep _ _ _ _::_|.pt _ _::_|.fn _ _ _::_|.om _::_|.rc _::_|.tp _::_|.ni::_|.co _ _::_|.fl _::_|.no::_|.gn::_=>simp[sH]at hm1
    |_=>simp[Q6]at hl
   .simp at hm
  .simp at hm
theorem Mf{t:Ty}(v:El (.sl t))(h:C0 t=true):GL (Qz (bY t) (aS t) v)=true:=by cases v with|nil=>rfl|mk l=>show(l.map (aS t)).all _=true;rw[List.all_map,aT];intro x _;show(aS t x).all _=true;rw[aT];intro d hd;obtain⟨y,rfl⟩:=E6 t x h d hd;rfl
theorem Mg{β:Type}{z:β}:∀(os:List Sh)(q:List (V×List Nat))(l:List V)(s:S2)(k:S2->Option β),eK os q l s k=some z->os.all Q7=true->(lO os l).all GL=true:=by
 intro os;induction os with
 |nil=>intro q l s k _ _;rfl
 |cons c os ih=>
  intro q l s k hb ho;simp only[gk,ai]at ho;obtain⟨h1,h2⟩:=ho;cases c with
  |gn=>cases q with|nil=>simp[eK]at hb|cons p q=>simp only[eK]at hb;have:=ih _ _ _ _ hb h2;simp only[lO,fP,gk,bL,this,lK];rfl
  |os t=>
   have hh:∀(u:Ty)(v:El (.sl u))(l:List V)(q':List (V×List Nat))(s':S2),(∃y,gN (.sl u) (.sl t) v=some y)->(hb:eK os q' l s' k=some z)->(lO (.os t::os) (.x (.sl u) v::l)).all GL=true:=by
    intro u v l q' s' ⟨y,hy⟩ hb2;obtain⟨e,_⟩:=da hy;have e:u=t:=by injection e
    subst e;have:=ih _ _ _ _ hb2 h2;simp only[lO,fP,gk,bL,this,lK];exact Mf v h1
   cases q with
   |nil=>simp[eK]at hb
   |cons p q=>
    obtain⟨pv,pi⟩:=p;cases l with
    |nil=>cases pv<;>simp[eK]at hb
    |cons x l=>
     cases x with
     |x u v=>
      cases u with
      |sl u=>
       cases pv with
       |nl n=>
        cases n with
        |zero=>
         cases pi with
         |nil=>
          simp only[eK]at hb;split at hb
          .rename_i y hy;obtain⟨_,_,hb⟩:=qh hb;exact hh u v l q s ⟨y,hy⟩ hb
          .cases hb
         |cons _ _=>simp[eK]at hb
        |succ n=>simp[eK]at hb
       |so id=>
        simp only[eK]at hb;split at hb
        .rename_i w old ver y ho hy;split at hb
         .obtain ⟨_,_,hb⟩:=qh hb;exact hh u v l q _ ⟨y,hy⟩ hb
         .cases hb
        .cases hb
       |_=>simp[eK]at hb
      |_=>cases pv<;>simp[eK]at hb
     |_=>cases pv<;>simp[eK]at hb
  |_=>simp[Q7]at h1
theorem HF{tb:FU}{ro:Bool}{ld:List Bool}{f:V}{vs:List V}{xf:TV}{xs:List TV}(htb:qP P tb)(hz:y_ tb ro ld f vs s k=some z)(hr:HR s.next h1 s.heap)(hf:gm s.heap f xf)(hfk:fB s.next s.heap f)(hfa:iZ s.heap f=true)
  (hx:nv s.heap vs xs) (hk:∀w∈vs,fB s.next s.heap w) (ha:∀w∈vs,iZ s.heap w=true):VT P h1 (.call ro ld) (xf::xs) s k z:=by
 cases f with
 |fn b fid caps=>
  simp only[y_]at hz;split at hz
  case h_2=>simp at hz
  rename_i sp pay j q hfs;split at hfs
  case h_2=>simp at hfs
  rename_i cs hcs;obtain⟨hmem,hargs⟩:=Hj tb fid _ sp pay j q hfs;obtain⟨hwy,hgood⟩:=htb _ hmem;simp only[NR,ai]at hwy;obtain⟨⟨⟨w1,w2⟩,w3⟩,w4⟩:=hwy;obtain⟨hc,hz2⟩:=aM hz;simp only[ai,decide_eq_true_eq]at hc;obtain⟨⟨⟨c1,c2⟩,c3⟩,c4⟩:=hc;clear hz;split at hz2
  case h_2=>simp at hz2
  rename_i p hp;obtain⟨zz,hzz,hz3⟩:=qh hz2;obtain⟨rs,os,l,hm,hk3,hg⟩:=I6 sp.al zz hz3 (hgood p zz hzz);rw[qY _ _ _ hp]at hg;obtain⟨cc,hfn,d1,d2,d3⟩:=O7 hf hfk hfa hcs;rw[c2]at w1;obtain⟨aw,lent,e1,e2,e3,e4⟩:=FR hr sp.ps (vs++cs) ld pay j q (xs++cc.map TV.c) hargs (DP hx d1) (fun w hw=>(ap.1 hw).elim (hk w) (d2 w)) (fun w hw=>(ap.1 hw).elim (ha w) (d3 w)) w1 w2;obtain⟨o1,o2⟩:=e4.bq;have hnd:=EQ c3;have hap:∀i∈lq (fun(p:V×List Nat)=>p.2) q,i∉j:=fun i hi=>by simpa using aT.1 c4 i hi
  have hdec:decide ((lent.flatMap (fun(p:C×List Nat×List Nat)=>p.2.1)).Nodup/\(lent.flatMap (fun(p:C×List Nat×List Nat)=>p.2.1)).all (fun i=>!aw.contains i)=true)=true:=by refine decide_eq_true ⟨o1.nodup hnd,aT.2 fun i hi=>?_⟩;have:=hap i (o1.subset hi);simpa using fun hm=>this (e2 i hm).1
  have hwl:=F5 hr e4;have hokR:rs.all Se=true:=aT.1 w3 _ hm;cases ro with
  |true=>
   have hro:sp.ro=true:=by simpa using c1
   rw[hro]at w4;have w5:Sv sp=true:=by simpa using w4
   have v3:=aT.1 w5 _ hm;simp only[ai]at v3;simp only[cond_true]at hk3;obtain⟨s1,bu,b1,b2,b3⟩:=AN hr os q lent _ s h1 _ hk3 e4 (am _) hr (ke.refl _ _) hnd;split at b1
   case h_2=>simp at b1
   rename_i ys l2 s2 hmk;obtain⟨m1,m2,m3,m4,m5⟩:=BW rs _ s1 ys l2 s2 _ hmk b3.hr hokR;obtain⟨t1,t2⟩:=Ed m1 m2;have hlit:=Me rs _ s1 ys l2 s2 hmk v3.1 hokR;have hout:=Mg os q _ s _ hk3 v3.2;refine⟨_,_,_,b1,only fid (ik sp.ps pay) (pW rs (l.take (jh rs).length)) (lO os (l.drop (jh rs).length)),In hg,?_⟩;have hld:=OT (h:=h1) (aw:=aw) hlit hout b2;obtain⟨g1,g2⟩:=I1 (ro:=true) hfn (oB xs) e1 hwl hdec hld;refine⟨_,_,_,_,Cm g1 g2,?_⟩;obtain⟨W1,x1,x2,x3⟩:=b3.wo;obtain⟨W2,y1,y2,y3,y4⟩:=m3.wo;refine⟨t1,t2,?_,b3.eE.trans b3.le m3.eE,by rw[m3.dF,b3.dF],by rw[m3.gh,b3.gh],by omega,by have:=b3.le;have:=m3.le;omega,fun i hi=>?_,fun i hi h=>(by rw[y4 i fun q=>by have:=(y3 i q).1;have:=b3.le;omega];exact b3.nb i hi h),W2++W1,by rw[y1,x1];simp only[aI],fun p hp=>?_,fun i hi=>?_⟩
   .have:=m3.hr;simpa only[aI]using this
   .rcases ap.1 hi with hi|hi
    .exact aA _ (e2 i hi).1
    .exact aC _ (o2 i hi)
   .simp only[ap]at hp|-;rcases hp with hp|hp
    .exact .inl (y2 p hp)
    .exact .inr (x2 p hp)
   .simp only[ap,not_or]at hi;rw[y4 i hi.1,x3 i hi.2]
  |false=>
   simp only[cond_false]at hk3;split at hk3
   case h_2=>simp at hk3
   rename_i s0 hs0;obtain⟨fu,f1,f2,f3,f4,f5,f6,f7,f8,f9⟩:=Da (s0:=s) rfl hr j s0 aw aw hs0 e2 e3;obtain⟨s1,bu,b1,b2,b3⟩:=AN hr os q lent _ s0 (fu++h1) _ hk3 e4 (by omega) (by rw[f6];exact f2) f3 hnd;split at b1
   case h_2=>simp at b1
   rename_i ys l2 s2 hmk;obtain⟨m1,m2,m3,m4,m5⟩:=BW rs _ s1 ys l2 s2 _ hmk b3.hr hokR;obtain⟨t1,t2⟩:=Ed m1 m2;rw[f6]at b2;refine⟨_,_,_,b1,only fid (ik sp.ps pay) (pW rs (l.take (jh rs).length)) (lO os (l.drop (jh rs).length)),In hg,?_⟩;have hld:=VA (rs:=pW rs (l.take (jh rs).length)) f1 b2;obtain⟨g1,g2⟩:=I1 (ro:=false) hfn (oB xs) e1 hwl hdec hld;refine⟨_,_,_,_,Cm g1 g2,?_⟩;obtain⟨W1,x1,x2,x3⟩:=b3.wo;obtain⟨W2,y1,y2,y3,y4⟩:=m3.wo;refine⟨t1,t2,?_,(f3.trans (Nat.le_of_eq f6.symm) b3.eE).trans (by have:=b3.le;omega) m3.eE,by rw[m3.dF,b3.dF,f4],by rw[m3.gh,b3.gh,f5],by omega,by have:=b3.le;have:=m3.le;omega,fun i hi=>?_,fun i hi h=>(by rw[y4 i fun q=>by have:=(y3 i q).1;have:=b3.le;omega];exact b3.nb i (by omega) ((f9 i fun q=>He rfl hs0 i q h).trans h)),W2++W1++j,by rw[y1,x1,f7];simp only[aI],fun p hp=>?_,fun i hi=>?_⟩
   .have:=m3.hr;simpa only[aI]using this
   .rcases ap.1 hi with hi|hi
    .exact aA _ (e2 i hi).1
    .exact aC _ (o2 i hi)
   .simp only[aI,ap]at hp|-;rcases hp with hp|hp|hp
    .exact .inl (y2 p hp)
    .exact .inr (.inl (x2 p hp))
    .exact .inr (.inr (f8 p hp))
   .simp only[aI,ap,not_or]at hi;rw[y4 i hi.1,x3 i hi.2.1,f9 i hi.2.2]
 |_=>simp[y_]at hz
end
def nd:Prop:=∀g v,Rf g=some v->∃d,Ta g=some d/\∀h n,gm h v (.c (.d d))/\fB n h v/\iZ h v=true
theorem wU{n:Nat}{h h':H2}(hs:ke n h h')(hnb:∀i,i<n->fO h i=none->fO h' i=none):∀{v:V},fB n h v->iZ h' v=true->iZ h v=true:=by
 have key:∀id,id<n->(match fO h' id with|some _=>true|none=>false)=true->(match fO h id with|some _=>true|none=>false)=true:=by intro id hid ha;cases ho:fO h id with|some _=>rfl|none=>rw[hnb id hid ho]at ha;simp at ha
 intro v;induction v with
 |so id=>
  intro hk ha;have hk:id<n:=hk;simp only[iZ]at ha|-;split at ha
  .rename_i t s v ho;obtain⟨s0,v0,h1,_⟩:=uA hs hk (.inl ho);rcases h1 with h1|h1<;>rw[h1]
  .rename_i t s v ho;obtain⟨s0,v0,h1,_⟩:=uA hs hk (.inr ho);rcases h1 with h1|h1<;>rw[h1]
  .simp at ha
 |sr id=>
  intro hk ha;have hk:id<n:=hk;simp only[iZ]at ha|-;split at ha
  .rename_i t s ln ho;obtain⟨s0,ln0,h1,_⟩:=H8 hs hk ho;rw[h1]
  .simp at ha
 |sb id ver lo t r=>
  rintro⟨hid,hk⟩ ha;obtain⟨hd,ha⟩:=cH.1 ha;have ha:Dw h' id ver=true:=ha;obtain⟨u,s,ho⟩:=mH ha;obtain⟨s0,v0,h3,h4,_,_⟩:=uA hs hid ho;obtain⟨h7,_⟩:=hk u s0 v0 h3;have:v0=ver:=by omega
  subst this;refine cH.2 ⟨hd,?_⟩;rcases h3 with h3|h3<;>rw[h3]<;>simp
 |op id t p=>rintro⟨hid,_⟩ ha;exact key id hid ha
 |ep id m t p=>rintro⟨hid,_⟩ ha;exact key id hid ha
 |om id=>intro hid ha;exact key id hid ha
 |fn z f l ih=>intro hk ha;cases z with|true=>exact ha|false=>exact ih hk ha
 |rc l ih=>intro hk ha;exact ih hk ha
 |tp l ih=>intro hk ha;exact ih hk ha
 |co a r iha ihr=>rintro⟨h1,h2⟩ ha;simp only[iZ,ai]at ha|-;exact⟨iha h1 ha.1,ihr h2 ha.2⟩
 |_=>intro _ ha;exact ha
def KS(h:H2):V->List C->Prop
 |.ni,cs=>cs=[]
 |.co a r,cs=>∃c m,cs=c::m/\(iZ h a=true->fD h a [c])/\KS h r m
 |_,_=>False
theorem Fk{n:Nat}{h h':H2}(hs:ke n h h')(hnb:∀i,i<n->fO h i=none->fO h' i=none):∀{v:V}{cs:List C},fB n h v->KS h v cs->KS h' v cs:=by intro v;induction v with|co a r _ ihr=>rintro cs ⟨h1,h2⟩ ⟨c,m,rfl,h3,h4⟩;exact⟨c,m,rfl,fun ha=>mG hs h1 (h3 (wU hs hnb h1 ha)),ihr h2 h4⟩|ni=>intro cs _ h;exact h|_=>intro cs _ h;exact h.elim
structure R2(s1:St)(s:S2):Prop where
 dF:∀t v,cn s.dF t=some v->fB s.next s.heap v/\(iZ s.heap v=true\/v=.no->∃x,cn s1.dF t=some x/\gm s.heap v x)
 hr:HR s.next s1.heap s.heap
 next:s1.next<=s.next
 gh:KS s.heap s.gh s1.gh/\fB s.next s.heap s.gh
theorem LC{v:Value}(hp:fg v=true)(ha:∀cs,v≠.agg cs):cv v=some (.c (.d (.lit v))):=by
 unfold cv;split
 .rename_i cs;exact absurd rfl (ha cs)
 .rw [if_pos hp]
theorem IX{c:Value}{v:V}(hc:TH c=some v)(h:H2)(n:Nat):∃x,cv c=some x/\gm h v x/\fB n h v/\iZ h v=true:=by
 unfold TH at hc;split at hc
 case h_10=>
  rename_i cs;split at hc
  .rename_i hp;obtain rfl:=aa hc;refine⟨.agg (cs.toList.map fun v=>.d (.lit v)),by simp only[cv];rw[if_pos hp],cj (zm rfl ⟨hp,rfl⟩),trivial,hp⟩
  .simp at hc
 case h_11=>simp at hc
 all_goals
  obtain rfl:=aa hc;exact⟨_,LC rfl (fun cs e=>by cases e),cj (dV rfl (by first|rfl|exact⟨rfl,rfl⟩)),trivial,rfl⟩
theorem pq(hg:nd){s1:St}{s:S2}(hr:R2 s1 s){o:Operand}{v:V}(ho:KP s.dF s.heap o=some v):∃x,lN s1.dF o=some x/\gm s.heap v x/\fB s.next s.heap v/\iZ s.heap v=true:=by
 cases o with
 |tmp t=>
  simp only[KP]at ho;split at ho
  .rename_i w hw;obtain⟨ha,ho⟩:=aM ho;obtain rfl:=aa ho;obtain⟨h3,h4⟩:=hr.dF t w hw;obtain⟨x,h1,h2⟩:=h4 (.inl ha);exact⟨x,h1,h2,h3,ha⟩
  .simp at ho
 |const c=>exact IX ho _ _
 |global g=>obtain⟨d,h1,h2⟩:=hg g v ho;exact⟨_,by simp only[lN,h1,Option.map_some],h2 _ _⟩
 |func f=>obtain rfl:=aa ho;exact⟨_,rfl,cj (dV rfl ⟨[],rfl,rfl⟩),trivial,rfl⟩
structure tK(s1:St)(s:S2)(q:Rg):Prop where
 r:R2 s1 s
 kn:∀g b,Ra q.kn g=some b->cn s1.dF g=some (tB b)
 cd:∀t g b v,cn q.cd t=some (g,b,v)->∃c,cn s1.dF g=some (tB c)/\(c=b->∃x,cn s1.dF t=some x/\gm s.heap v x/\fB s.next s.heap v)
theorem Qt{a b:Bool}(h:tB a=tB b):a=b:=by simpa[tB]using h
theorem wv(hg:nd){s1:St}{s:S2}{q:Rg}(hr:tK s1 s q){gc:Option (Nat×Bool)}(hgc:∀g b,gc=some (g,b)->cn s1.dF g=some (tB b)){o:Operand}{v:V}(ho:KQ s q gc o=some v):
  ∃x,lN s1.dF o=some x/\gm s.heap v x/\fB s.next s.heap v/\iZ s.heap v=true:=by
 cases o with
 |tmp t=>
  simp only[KQ]at ho;split at ho
  .rename_i g b w hw;obtain⟨hc,ho⟩:=aM ho;obtain⟨ha,ho⟩:=aM ho;obtain rfl:=aa ho;obtain⟨c,h1,h2⟩:=hr.cd t g b w hw
   have hb:cn s1.dF g=some (tB b):=by
    simp only[dl,decide_eq_true_eq]at hc;rcases hc with hc|hc
    .exact hgc g b hc
    .exact hr.kn g b hc
   rw[h1]at hb;obtain⟨x,h3,h4,h5⟩:=h2 (Qt (aa hb));exact⟨x,h3,h4,h5,ha⟩
  .exact pq hg hr.r ho
 |const c=>exact pq hg hr.r ho
 |global g=>exact pq hg hr.r ho
 |func f=>exact pq hg hr.r ho
theorem BS(hg:nd){s1:St}{s:S2}{q:Rg}(hr:tK s1 s q){gc:Option (Nat×Bool)}(hgc:∀g b,gc=some (g,b)->cn s1.dF g=some (tB b)):∀(os:List Operand)(vs:List V),GR s q gc os=some vs->
  ∃xs,os.map (lN s1.dF)=xs.map some/\nv s.heap vs xs/\(∀w∈vs,fB s.next s.heap w)/\∀w∈vs,iZ s.heap w=true:=by
 intro os;induction os with
 |nil=>intro vs ho;obtain rfl:=aa ho;exact⟨[],rfl,trivial,fun w hw=>by simp at hw,fun w hw=>by simp at hw⟩
 |cons o os ih=>
  intro vs ho;simp only[GR]at ho;split at ho
  .rename_i v l hv hl;obtain rfl:=aa ho;obtain⟨x,h1,h2,h3,h4⟩:=wv hg hr hgc hv;obtain⟨xs,g1,g2,g3,g4⟩:=ih l hl;refine⟨x::xs,by simp[h1,g1],⟨h2,g2⟩,fun w hw=>?_,fun w hw=>?_⟩
   .rcases aJ.1 hw with rfl|hw
    .exact h3
    .exact g3 w hw
   .rcases aJ.1 hw with rfl|hw
    .exact h4
    .exact g4 w hw
  .simp at ho
theorem Nb{h:H2}{t:Ty}{w:V}{b:El t}{x:TV}(hd:lJ t=true)(hx:gm h w x)(hc:uL t w=some b):gm h (.x t b) x:=by obtain⟨cs,h1,h2,h3⟩:=pQ (P9 hc) hx;have e:=jH w false t b cs hc h1;have ha:=xS hc;exact cj ⟨cs,⟨hd,e⟩,fun q=>h2 (ha.trans q),fun q=>h3 (ha.trans q)⟩
theorem EZ{h:H2}{c:Bool}{a b v:V}{x:TV}(hm:Vy c a b=some v)(ha:iZ h a=true)(hb:iZ h b=true)(h1:c=true->gm h a x)(h2:c=false->gm h b x):gm h v x/\∀n,fB n h v:=by
 unfold Vy at hm;split at hm
 .rename_i p q;obtain rfl:=aa hm;refine⟨?_,fun _=>trivial⟩;cases c with|true=>rw[xg (h1 rfl)];exact xb _|false=>rw[xg (h2 rfl)];exact xb _
 .rename_i t p w;split at hm
  .rename_i y hy;obtain rfl:=aa hm;refine⟨?_,fun _=>trivial⟩;cases c with|true=>exact h1 rfl|false=>exact Nb ha (h2 rfl) hy
  .simp at hm
 .rename_i t p w;split at hm
  .rename_i y hy;obtain rfl:=aa hm;refine⟨?_,fun _=>trivial⟩;cases c with|true=>exact Nb hb (h1 rfl) hy|false=>exact h2 rfl
  .simp at hm
 .simp at hm
theorem yY(hg:nd){e:List (Nat×V)}{h:H2}{o:Operand}{v:V}(ho:KP e h o=some v):iZ h v=true:=by
 cases o with
 |tmp t=>
  simp only[KP]at ho;split at ho
  .obtain ⟨ha,ho⟩:=aM ho;obtain rfl:=aa ho;exact ha
  .simp at ho
 |const c=>obtain⟨_,_,_,_,ha⟩:=IX ho h 0;exact ha
 |global g=>obtain⟨d,_,h2⟩:=hg g v ho;exact(h2 h 0).2.2
 |func f=>obtain rfl:=aa ho;rfl
theorem Im(hg:nd){s:S2}{q:Rg}{gc:Option (Nat×Bool)}{o:Operand}{v:V}(ho:KQ s q gc o=some v):iZ s.heap v=true:=by
 cases o with
 |tmp t=>
  simp only[KQ]at ho;split at ho
  .obtain ⟨hc,ho⟩:=aM ho;obtain⟨ha,ho⟩:=aM ho;obtain rfl:=aa ho;exact ha
  .exact yY hg ho
 |const c=>exact yY (e:=s.dF) (o:=.const c) hg ho
 |global g=>exact yY (e:=s.dF) (o:=.global g) hg ho
 |func f=>exact yY (e:=s.dF) (o:=.func f) hg ho
theorem JA(hg:nd){s1:St}{s:S2}{q:Rg}(hr:tK s1 s q){gc:Option (Nat×Bool)}(hgc:∀g b,gc=some (g,b)->cn s1.dF g=some (tB b)){os:List Operand}{v:V}(hp:LD s q gc os=some v)(c:Call)(H:bD)(nx:Nat):
  ∃x,cI c .pick (os.map (lN s1.dF)) H nx=some (x,[],[],nx)/\gm s.heap v x/\fB s.next s.heap v:=by
 have one:∀(g a b:Operand)(t:Bool)(w:V),lN s1.dF g=some (tB t)->KQ s q gc (bif t then a else b)=some w->∃x,cI c .pick ([g,a,b].map (lN s1.dF)) H nx=some (x,[],[],nx)/\gm s.heap w x/\fB s.next s.heap w:=by intro g a b t w h1 h2;obtain⟨x,h3,h4,h5,_⟩:=wv hg hr hgc h2;refine⟨x,?_,h4,h5⟩;simp only[aD,aZ,h1];cases t with|true=>simp only[cond_true]at h3;rw[h3];rfl|false=>simp only[cond_false]at h3;rw[h3];rfl
 unfold LD at hp;split at hp
 .rename_i g a b;split at hp
  .rename_i _ _ t hk;exact one _ a b t v (hr.kn g t hk) hp
  .rename_i t hk he;obtain⟨x,h1,h2⟩:=(hr.r.dF g _ he).2 (.inl rfl);rw[xg h2]at h1;exact one _ a b t v h1 hp
  .rename_i t hk he;obtain⟨x,h1,h2⟩:=(hr.r.dF g _ he).2 (.inl rfl)
   .rw [HY h2]at h1;split at hp
    .rename_i x y hx hy;have ax:=Im hg hx;have ay:=Im hg hy;cases t with|true=>obtain⟨z,g1,g2,_⟩:=wv hg hr (gc:=some (g,true)) (fun g' b' e=>by cases e;exact h1) hx;obtain⟨m1,m2⟩:=EZ hp ax ay (fun _=>g2) (fun e=>by cases e);refine⟨z,?_,m1,m2 _⟩;have h1':lN s1.dF (.tmp g)=some (tB true):=h1;simp only[aD,aZ,h1',g1];rfl|false=>obtain⟨z,g1,g2,_⟩:=wv hg hr (gc:=some (g,false)) (fun g' b' e=>by cases e;exact h1) hy;obtain⟨m1,m2⟩:=EZ hp ax ay (fun e=>by cases e) (fun _=>g2);refine⟨z,?_,m1,m2 _⟩;have h1':lN s1.dF (.tmp g)=some (tB false):=h1;simp only[aD,aZ,h1',g1];rfl
    .simp at hp
  .simp at hp
 .rename_i t a b;exact one _ a b t v rfl hp
 .simp at hp
theorem Zl{s:S2}{q:Rg}{gc:Option (Nat×Bool)}{os:List Operand}{vs:List V}(ho:GR s q gc os=some vs)(hp:Oy os=true):∀a k b,vs=[a,.x (.i k) b]->0<b:=by
 intro a k b e;subst e
 match os with
 |[o,.const (.int k' m)]=>
  simp only[Oy,decide_eq_true_eq]at hp;simp only[GR,KQ,KP,TH]at ho;split at ho
  .rename_i v l hv hl;simp only[ce]at hl;subst hl;simp only[ce,List.cons.injEq,and_true]at ho;obtain⟨_,e⟩:=ho;cases e;exact hp
  .simp at ho
theorem Bz(hg:nd){s1:St}{s:S2}{q:Rg}(hr:tK s1 s q){gc:Option (Nat×Bool)}(hgc:∀g b,gc=some (g,b)->cn s1.dF g=some (tB b)){o:OP}{v:V}{l:List Nat}(ht:N2 o s q gc=some (v,l))(c:Call)(nx:Nat):
  ∃x aw,cI c o.o.k (o.o.args.map (lN s1.dF)) s1.heap nx=some (x,[],aw,nx)/\gm s.heap v x/\fB s.next s.heap v/\∀i∈aw,i∈l:=by
 unfold N2 at ht;cases hpk:Hb o.o.k with
 |true=>
  rw[hpk,cond_true]at ht;split at ht
  .rename_i w hw;obtain⟨rfl,rfl⟩:=af (aa ht);obtain⟨x,h1,h2,h3⟩:=JA hg hr hgc hw c s1.heap nx;have hk:o.o.k=.pick:=by revert hpk;cases o.o.k<;>simp[Hb]
   rw[hk];exact⟨x,[],h1,h2,h3,fun i hi=>by simp at hi⟩
  .simp at ht
 |false=>
  rw[hpk,cond_false]at ht;split at ht
  .rename_i vs hvs;obtain⟨xs,h1,h2,h3,h4⟩:=BS hg hr hgc _ _ hvs;rw[h1];exact Jc hr.r.hr ht h2 h3 h4 (fun hp=>Zl hvs hp) c nx
  .simp at ht
theorem MY{P:Program}{β:Type}{tb:FU}(htb:qP P tb)(hg:nd){s1:St}{s:S2}{q:Rg}(hr:tK s1 s q){gc:Option (Nat×Bool)}(hgc:∀g b,gc=some (g,b)->cn s1.dF g=some (tB b)){o:OP}{k:V->S2->List Nat->Option β}{z:β}
  (hz:TG tb o s q gc k=some z):∃v s' l,k v s' l=some z/\∃call:Call,oC P call/\∃x u aw m,cI call o.o.k (o.o.args.map (lN s1.dF)) s1.heap s.next=some (x,u,aw,m)/\sF s s' s1.heap x u aw m v l:=by
 unfold TG at hz;split at hz
 .rename_i v l ht;obtain⟨x,aw,h1,h2,h3,h4⟩:=Bz hg hr hgc ht rJ s.next;exact⟨v,s,l,hz,rJ,r_,x,[],aw,s.next,h1,sF.pure hr.r.hr h2 h3 h4⟩
 .split at hz
  .rename_i vs hvs;obtain⟨xs,h1,h2,h3,h4⟩:=BS hg hr hgc _ _ hvs;rw[h1];split at hz
   .rename_i ro ld f vs' hk;obtain⟨y,ys,rfl,h5,h6⟩:=gz h2;obtain⟨v,s',l,e1,call,e2,x,u,aw,m,e3,e4⟩:=HF (P:=P) htb hz hr.r.hr h5 (h3 _ (by simp)) (h4 _ (by simp)) h6 (fun w hw=>h3 w (by simp[hw])) (fun w hw=>h4 w (by simp[hw]));rw[hk];exact⟨v,s',l,e1,call,e2,x,u,aw,m,e3,e4⟩
   .obtain ⟨v,s',l,e1,e2⟩:=GO hz hr.r.hr h2 h3 h4;obtain⟨x,u,aw,m,e3,e4⟩:=e2 rJ;exact⟨v,s',l,e1,rJ,r_,x,u,aw,m,e3,e4⟩
  .simp at hz
end Go.Ev
