/- Calls: the arguments, as they are laid. Conditions: as stated. -/
import Derived.Test.YthcplpfiidlinaaDoorFq
open Bool renaming and_eq_true->ai,and_eq_true_iff->c_,not_eq_true'->dA,or_eq_true->cu
open List renaming all_cons->ij,all_eq_true->bd,append_assoc->aJ,append_nil->bO,cons_append->aT,drop_zero->cq,flatMap->jU,flatMap_cons->bl,headD_cons->bU,length_map->aQ,map_cons->aA,map_nil->aV,mem_append->ao,mem_append_left->aC,mem_append_right->aG,mem_cons->aK,mem_cons_of_mem->aB,mem_map->cN,mem_singleton->aq,nil_sublist->jI,nodup_append->bZ,nodup_nil->gM,singleton_append->aY,singleton_inj->ff
open List.Sublist renaming refl->bW
open Nat renaming le_refl->au,le_succ->bH,lt_succ_self->aX,zero_le->cI
open Option.some renaming inj->aa,injEq->bq
open Prod.mk renaming inj->ad
namespace Go.Ev
def MC(k:Nat):D:=match Ce k with|.d x=>x|_=>default
theorem NC(k:Nat):Ce k=.d (MC k):=rfl
def ql:Sh->List V->List D×List V
 |.x _,.x u v::l=>(aS u v,l)
 |.pt _,.x u v::l=>([.pt (aS u v)],l)
 |.nl k,l=>([MC k],l)
 |.fn f c,l=>([.fn f (ql c l).1],(ql c l).2)
 |.pr a c,l=>((ql a l).1++(ql c (ql a l).2).1,(ql c (ql a l).2).2)
 |_,l=>([],l)
def Gl(t:Ty):Sl (El t)->Option (List (List D))
 |.nil=>none
 |.mk l=>some (l.map (aS t))
def wZ(t:Ty):Sl (Sl (El t))->T
 |.nil=>.d (.lit (.slice none 0 0))
 |.mk l=>.yz (bR t) (l.map (Gl t))
theorem Ge{t:Ty}(l:List (Sl (El t))):tw (l.map (nV t))=some (l.map (Gl t)):=by induction l with|nil=>rfl|cons s l ih=>simp only[aA,tw,ih];cases s<;>rfl
theorem w7{t:Ty}(l:List (Sl (El t))):(l.map (Gl t)).map lZ=l.map (nV t):=by rw[List.map_map];exact List.map_congr_left fun s _=>by cases s<;>rfl
def ft:Sh->List V->List T×List V
 |.x _,.x u v::l=>((aS u v).map .d,l)
 |.os _,.x (.sl u) v::l=>([OK (bR u) (aS u) v],l)
 |.rw _,.x (.sl (.sl u)) v::l=>([wZ u v],l)
 |.pb _ c,l=>([.pt (ft c l).1],(ft c l).2)
 |.nl k,l=>([.d (MC k)],l)
 |.st c,l=>ft c l
 |.pr a c,l=>((ft a l).1++(ft c (ft a l).2).1,(ft c (ft a l).2).2)
 |.gn,l=>([.vy],l)
 |_,l=>([],l)
def wv:Sh->Bool
 |.x t=>mx t
 |.st _=>true
 |_=>false
def gC:List (Bool×Sh)->List V->List A
 |[],_=>[]
 |(true,c)::r,l=>.mt ((ft c l).1.headD default)::gC r (ft c l).2
 |(false,c)::r,l=>(bif wv c then .agg (ql c l).1 else .d ((ql c l).1.headD default))::gC r (ql c l).2
def lQ:List Sh->List V->List R
 |[],_=>[]
 |c::r,l=>(bif wv c then .agg (ft c l).1 else .c ((ft c l).1.headD default))::lQ r (ft c l).2
def kN:List Sh->List V->List T
 |[],_=>[]
 |c::r,l=>(ft c l).1.headD default::kN r (ft c l).2
def vA:Sh->Nat
 |.x t=>bR t+1
 |.pt t=>bR t+3
 |.fn _ c=>vA c+2
 |.pr a c=>vA a+vA c
 |.ni=>0
 |_=>1
section
variable{h:H2}{n:Nat}{h1:bE}
def zM:C->Prop
 |.d _|.eZ _ _ _ _=>True
 |_=>False
theorem Dm{c:C}(hc:zM c)(k j:Nat):dH h1 k c=dH h1 j c:=by cases c with|d x=>rw[pn,pn]|eZ a b e f=>cases k<;>cases j<;>simp only[dH]|_=>exact hc.elim
theorem wL:∀{cs:List C}{ds:List D}{aw:List Nat}{k:Nat},(∀c∈cs,zM c)->dC h1 cs=some (ds,aw)->cs.length<k->fI h1 k cs=some (ds,aw):=by
 intro cs;induction cs with
 |nil=>intro ds aw k _ h _;simp only[dC]at h;rw[<-h];cases k<;>rfl
 |cons c cs ih=>
  intro ds aw k hf h hk;cases k with
  |zero=>simp at hk
  |succ k=>
   simp only[dC]at h;split at h
   .rename_i x a xs b hx hxs;simp only[fI];rw[Dm (hf c (by simp)) k 300,hx,ih (fun c hc=>hf c (by simp[hc])) hxs (by simpa using hk)];exact h
   .simp at h
theorem Ae:∀{x y:List C}{dx dy:List D}{ix iy:List Nat}{k:Nat},fI h1 k x=some (dx,ix)->fI h1 (k-x.length) y=some (dy,iy)->x.length<=k->fI h1 k (x++y)=some (dx++dy,ix++iy):=by
 intro x;induction x with
 |nil=>
  intro y dx dy ix iy k hx hy _;have:fI h1 k []=some ([],[]):=by cases k<;>rfl
  rw[this]at hx;obtain⟨rfl,rfl⟩:=ad (aa hx);simpa using hy
 |cons c x ih=>
  intro y dx dy ix iy k hx hy hk;cases k with
  |zero=>simp at hk
  |succ k=>
   simp only[fI]at hx;split at hx
   .rename_i p a q b hp hq;obtain⟨rfl,rfl⟩:=ad (aa hx);simp only[aT,fI,hp];rw[ih hq (by simpa using hy) (by simpa using hk)];simp
   .simp at hx
theorem CE{α:Type}{sz id:Nat}{enc:α->List D}{s:Sl α}:zM (lC sz enc id s):=by cases s<;>trivial
theorem JU{id lo:Nat}{t:Ty}{r:Sl (El t)}:zM (w_ id lo t r):=by cases r<;>trivial
theorem Cz:∀(v w:V)(l:List Nat)(cs:List C),iP h v=some (w,l)->eU h v cs->gW h v=true->∀c∈cs,zM c:=by
 have fl:∀(ds:List D),∀c∈ds.map C.d,zM c:=fun ds c hc=>by obtain⟨d,_,rfl⟩:=cN.1 hc;trivial
 intro v;induction v with
 |so id=>
  intro w l cs hf hv _ c hc;simp only[iP]at hf;split at hf
  .rename_i t s l' hs;obtain⟨ver,ho,_⟩:=tC hs;obtain⟨c',rfl,hc'⟩:=hv;obtain rfl:=aq.1 hc;rw[hc'.1 _ (lB ho)];exact CE
  .simp at hf
 |sr id=>
  intro w l cs hf hv _ c hc;simp only[iP]at hf;split at hf
  .rename_i t s ho;obtain⟨c',rfl,hc'⟩:=hv;obtain rfl:=aq.1 hc;rw[hc'.1 _ (rC ho)];exact CE
  .simp at hf
 |sb id ver lo t r=>intro w l cs hf hv ha c hc;obtain⟨c',rfl,hc'⟩:=hv;obtain rfl:=aq.1 hc;rw[hc'.1 (c_.1 ha).2];exact JU
 |rc r ih=>
  intro w l cs hf hv ha;simp only[iP]at hf;split at hf
  .rename_i w' l' hw;exact ih w' l' cs hw hv ha
  .simp at hf
 |co a r iha ihr=>
  intro w l cs hf hv ha c hc;simp only[iP]at hf;split at hf
  .rename_i x l1 y l2 hx hy;obtain⟨ca,cr,rfl,h2,h3⟩:=hv;simp only[gW,ai]at ha;rcases ao.1 hc with hc|hc
   .exact iha x l1 ca hx h2 ha.1 c hc
   .exact ihr y l2 cr hy h3 ha.2 c hc
  .simp at hf
 |x t v=>intro w l cs hf hv _;obtain⟨_,rfl⟩:=hv;exact fl _
 |kb c=>intro w l cs hf hv _;obtain rfl:=hv;exact fl [_]
 |nl k=>intro w l cs hf hv _;obtain rfl:=hv;exact fl [_]
 |fl q=>intro w l cs hf hv _;obtain⟨_,rfl⟩:=hv;rw[AC];exact fl _
 |ni=>intro w l cs hf hv _;obtain rfl:=hv;exact fl []
 |pt t v=>intro w l cs hf hv _;obtain⟨_,rfl⟩:=hv;exact fl [_]
 |fn z f q ih=>intro w l cs hf hv _;cases z with|true=>obtain⟨ds,_,rfl⟩:=hv;exact fl [_]|false=>simp[iP]at hf
 |_=>intro w l cs hf hv;simp[iP]at hf
theorem Ke:∀(v:V)(ds:List D),pV v=some ds->eU h v (ds.map .d):=by
 intro v;induction v with
 |co a r iha ihr=>
  intro ds hd;simp only[pV]at hd;split at hd
  .rename_i x y hx hy;obtain rfl:=aa hd;exact⟨_,_,by simp,iha x hx,ihr y hy⟩
  .simp at hd
 |pt t v=>
  intro ds hd;simp only[pV]at hd;split at hd
  .rename_i ht;obtain rfl:=aa hd;exact⟨ht,rfl⟩
  .simp at hd
 |ni=>intro ds hd;obtain rfl:[]=ds:=by simpa[pV]using hd
      rfl
 |_=>intro ds hd;simp[pV]at hd
theorem yr:∀(v:V),A6 v=true->gW h v=true/\∀n,eS n h v:=by intro v;induction v with|co a r iha ihr=>intro hv;simp only[A6,ai]at hv;exact⟨by simp only[gW,(iha hv.1).1,(ihr hv.2).1,Bool.and_self],fun n=>⟨(iha hv.1).2 n,(ihr hv.2).2 n⟩⟩|pt t v=>intro hv;exact⟨hv,fun _=>trivial⟩|ni=>intro _;exact⟨rfl,fun _=>trivial⟩|_=>intro hv;simp[A6]at hv
theorem HN(hr:HR n h1 h):∀(c:Sh)(v:V)(l:List V)(i:List Nat)(cs:List C),nO h c v=some (l,i)->eU h v cs->eS n h v->gW h v=true->
  ∃ds aw,(∀k,vA c<=k->fI h1 k cs=some (ds,aw))/\(∀r,ql c (l++r)=(ds,r))/\(∀j∈aw,j∈i/\¬lU h j)/\(∀j∈i,j∈aw\/lU h j)/\cs.length<=vA c:=by
 intro c;induction c with
 |x t=>
  intro v l i cs ha hv hk hal;simp only[nO]at ha;split at ha
  .rename_i w l' hw;split at ha
   .rename_i y hy;obtain⟨rfl,rfl⟩:=ad (aa ha);obtain⟨ds,aw,f1,f2,f3,f4,_⟩:=rO hr v w l' cs hw hv hk hal;have e3:=oQ (iG w false t y _ hy f2);subst e3;have hl:cs.length=bR t:=by rw[<-th f1,bK]
    exact⟨_,aw,fun k hk=>wL (Cz v w l' cs hw hv hal) f1 (by simp only[vA]at hk;omega),fun r=>rfl,f3,f4,by simp only[vA];omega⟩
   .simp at ha
  .simp at ha
 |pt t=>
  intro v l i cs ha hv hk hal;cases v with
  |pt u v=>
   simp only[nO]at ha;split at ha
   .rename_i y hy;obtain⟨rfl,rfl⟩:=ad (aa ha);obtain⟨e,_⟩:=vG hy;obtain⟨_,rfl⟩:=hv;refine⟨[.pt (aS t y)],[],fun k hk=>?_,fun r=>rfl,fun j hj=>by simp at hj,fun j hj=>by simp at hj,by simp[vA]⟩;rw[<-e];exact wA (h1:=h1) [.pt (aS t y)] k (by simp only[vA]at hk;simp;omega)
   .simp at ha
  |op id u p=>
   cases p with
   |cons=>simp[nO]at ha
   |nil=>
    obtain rfl:=hv;have e0:lX u []=0:=by cases u<;>rfl
    rw[e0];simp only[nO]at ha;split at ha
    .rename_i w c ho;obtain⟨hc,ha⟩:=aN ha;simp only[ai,decide_eq_true_eq]at hc;split at ha
     .rename_i c' l' hw;split at ha
      .rename_i y hy;obtain⟨rfl,rfl⟩:=ad (aa ha);obtain⟨_,⟨cb,e1,e2,e3⟩,e4⟩:=hr.ob id _ ho;obtain⟨ds,aw,f1,f2,f3,f4,_⟩:=rO hr c c' l' cb hw e2 e4 hc.2;have e5:=oQ (iG c' false t y _ hy f2);subst e5;have hl:cb.length=bR t:=by rw[<-th f1,bK]
       have hnil:¬lU h id:=by
        rintro(⟨u',v',e⟩|⟨u',ln',e⟩)
        .rcases e with e|e<;>rw[ho]at e<;>simp at e
        .rw [ho]at e;cases e
       refine⟨[.pt (aS t y)],id::aw,fun k hk=>?_,fun r=>rfl,fun j hj=>?_,fun j hj=>?_,by simp[vA]⟩
       .simp only[vA]at hk;obtain⟨k,rfl⟩:∃k',k=k'+2:=⟨k-2,by omega⟩
        have hv:fI h1 k cb=some (aS t y,aw):=wL (Cz c c' l' cb hw e2 hc.2) f1 (by omega);simp only[fI,dH,e1,hv,cI,if_true,cq,bO]
       .rcases aK.1 hj with rfl|hj
        .exact ⟨by simp,hnil⟩
        .exact ⟨by simp[(f3 j hj).1],(f3 j hj).2⟩
       .rcases aK.1 hj with rfl|hj
        .exact .inl (by simp)
        .exact (f4 j hj).imp (fun q=>by simp[q]) (fun q=>q)
      .simp at ha
     .simp at ha
    .rename_i w v ho;obtain⟨hc,ha⟩:=aN ha;split at ha
     .rename_i y hy;obtain⟨rfl,rfl⟩:=ad (aa ha);obtain⟨e,_⟩:=vG hy;obtain⟨_,⟨_,e1⟩,_⟩:=hr.ob id _ ho
      have hnil:¬lU h id:=by
       rintro(⟨u',v',e⟩|⟨u',ln',e⟩)
       .rcases e with e|e<;>rw[ho]at e<;>simp at e
       .rw [ho]at e;cases e
      refine⟨[.pt (aS t y)],[id],fun k hk=>?_,fun r=>rfl,fun j hj=>?_,fun j hj=>.inl hj,by simp[vA]⟩
      .simp only[vA]at hk;obtain⟨k,rfl⟩:∃k',k=k'+2:=⟨k-2,by omega⟩
       simp only[fI,dH,e1,cI,if_true,cq,bO,e]
      .obtain rfl:=aq.1 hj;exact⟨by simp,hnil⟩
     .simp at ha
    .simp at ha
  |ep id m u p=>
   cases p with
   |cons=>simp[nO]at ha
   |nil=>
    obtain rfl:=hv;have e0:lX u []=0:=by cases u<;>rfl
    rw[e0]
    have key:∀(w:Ty)(s:Sl (El w))(ver:Nat),(fO h id=some (.ar w s ver)\/fO h id=some (.im w s ver))->(bif decide (w=u)then(match gq w t (gt s.l m)with|some y=>some ([V.x t y],[id])|none=>none)else none)=some (l,i)->
      ∃ds aw,(∀k,vA (.pt t)<=k->fI h1 k [.ep id m 0]=some (ds,aw))/\(∀r,ql (.pt t) (l++r)=(ds,r))/\(∀j∈aw,j∈i/\¬lU h j)/\(∀j∈i,j∈aw\/lU h j)/\[C.ep id m 0].length<=vA (.pt t):=by
     intro w s ver ho ha;obtain⟨_,ha⟩:=aN ha;split at ha
     .rename_i y hy;obtain⟨rfl,rfl⟩:=ad (aa ha);obtain⟨e,_⟩:=vG hy;have hm:=hk.2.2.1 w s ver ho;cases s with
      |nil=>simp[Sl.l]at hm
      |mk q=>
       refine⟨[.pt (aS t y)],[id],fun k hk=>?_,fun r=>rfl,fun j hj=>?_,fun j hj=>.inl hj,by simp[vA]⟩
       .simp only[vA]at hk;obtain⟨k,rfl⟩:∃k',k=k'+1:=⟨k-1,by omega⟩
        have hg:(q.map (aS w))[m]?=some (aS w (gt q m)):=AH hm;have e2:aS w (gt q m)=aS t y:=e.symm;rcases ho with ho|ho
        .have e1:=(hr.ob id _ ho).2.1.2.2 q rfl;have:dH h1 k (.ep id m 0)=some (.pt (aS t y),[id]):=by cases k<;>simp only[dH,e1,hg,cI,if_true,cq,e2]
         simp only[fI,this,bO]
        .have e1:=(hr.ob id _ ho).2.1.2.2 q rfl;have:dH h1 k (.ep id m 0)=some (.pt (aS t y),[id]):=by cases k<;>simp only[dH,e1,hg,cI,if_true,cq,e2]
         simp only[fI,this,bO]
       .obtain rfl:=aq.1 hj;exact⟨by simp,xB ho⟩
     .simp at ha
    simp only[nO]at ha;split at ha
    .rename_i ho;exact key _ _ _ (.inl ho) ha
    .rename_i ho;exact key _ _ _ (.inr ho) ha
    .simp at ha
  |_=>simp[nO]at ha
 |nl k=>
  intro v l i cs ha hv hk hal;cases v with
  |nl k'=>
   simp only[nO]at ha;obtain⟨hc,ha2⟩:=aN ha;obtain rfl:k=k':=by simpa using hc
   obtain⟨rfl,rfl⟩:=ad (aa ha2);obtain rfl:=hv;refine⟨[MC k],[],fun j hj=>?_,fun r=>rfl,fun j hj=>by simp at hj,fun j hj=>by simp at hj,by simp[vA]⟩;simp only[vA]at hj;obtain⟨j,rfl⟩:∃k',j=k'+1:=⟨j-1,by omega⟩
   have e:fI h1 j []=some ([],[]):=by cases j<;>rfl
   rw[NC];simp only[fI,pn,e,bO]
  |_=>simp[nO]at ha
 |fn f c ih=>
  intro v l i cs ha hv hk hal;cases v with
  |fn z f' q=>
   simp only[nO]at ha;obtain⟨hc,ha2⟩:=aN ha;obtain rfl:f=f':=by simpa using hc
   cases z with
   |true=>
    obtain⟨ds0,hd,rfl⟩:=hv;have hal':A6 q=true:=hal;obtain⟨a1,a2⟩:=yr (h:=h) q hal';obtain⟨ds,aw,g1,g2,g3,g4,g5⟩:=ih q l i (ds0.map .d) ha2 (Ke q ds0 hd) (a2 n) a1;have e:=g1 (vA c+ds0.length+1) (by omega);rw[wA ds0 _ (by omega)]at e;obtain⟨rfl,rfl⟩:=ad (aa e);refine⟨[.fn f ds0],[],fun k hk=>?_,fun r=>?_,g3,g4,by simp[vA]⟩
    .simp only[vA]at hk;exact wA (h1:=h1) [.fn f ds0] k (by simp;omega)
    .simp only[ql,g2 r]
   |false=>
    obtain⟨xs,h2,rfl⟩:=hv;obtain⟨ds,aw,g1,g2,g3,g4,g5⟩:=ih q l i xs ha2 h2 hk hal;refine⟨[.fn f ds],aw,fun k hk=>?_,fun r=>?_,g3,g4,by simp[vA]⟩
    .simp only[vA]at hk;obtain⟨k,rfl⟩:∃k',k=k'+2:=⟨k-2,by omega⟩
     simp only[fI,dH,g1 k (by omega),bO]
    .simp only[ql,g2 r]
  |_=>simp[nO]at ha
 |pr a c iha ihc=>
  intro v l i cs ha hv hk hal;cases v with
  |co x r=>
   simp only[nO]at ha;split at ha
   .rename_i l1 i1 l2 i2 h2 h3;obtain⟨rfl,rfl⟩:=ad (aa ha);obtain⟨cx,cr,rfl,h4,h5⟩:=hv;simp only[gW,ai]at hal;obtain⟨d1,j1,a1,a2,a3,a4,a5⟩:=iha x l1 i1 cx h2 h4 hk.1 hal.1;obtain⟨d2,j2,b1,b2,b3,b4,b5⟩:=ihc r l2 i2 cr h3 h5 hk.2 hal.2;refine⟨d1++d2,j1++j2,fun k hk=>?_,fun r=>?_,fun j hj=>?_,fun j hj=>?_,by simp[vA];omega⟩
    .simp only[vA]at hk;exact Ae (a1 k (by omega)) (b1 _ (by omega)) (by omega)
    .simp only[ql,aJ,a2,b2]
    .rcases ao.1 hj with hj|hj
     .exact ⟨aC _ (a3 j hj).1,(a3 j hj).2⟩
     .exact ⟨aG _ (b3 j hj).1,(b3 j hj).2⟩
    .rcases ao.1 hj with hj|hj
     .exact (a4 j hj).imp (aC _) id
     .exact (b4 j hj).imp (aG _) id
   .simp at ha
  |_=>simp[nO]at ha
 |ni=>intro v l i cs ha hv hk hal;cases v with|ni=>obtain⟨rfl,rfl⟩:=ad (aa ha);obtain rfl:=hv;exact⟨[],[],fun k _=>(by cases k<;>rfl),fun r=>rfl,fun j hj=>by simp at hj,fun j hj=>by simp at hj,by simp⟩|_=>simp[nO]at ha
 |_=>intro v l i cs ha;simp[nO]at ha
end
def pX:Sh->Nat
 |.x t=>bR t+1
 |.pb _ c=>pX c+2
 |.st c=>pX c
 |.pr a c=>pX a+pX c
 |.ni=>0
 |_=>1
section
variable{h:H2}{n:Nat}{h1:bE}
theorem uh(k:Nat)(x:D):ez h1 k (.d x)=some (.d x,[],[]):=by cases k<;>rfl
theorem oC(k:Nat):ic h1 k []=some ([],[],[]):=by cases k<;>rfl
theorem pw:∀(ds:List D)(k:Nat),ds.length<=k->ic h1 k (ds.map .d)=some (ds.map .d,[],[]):=by
 intro ds;induction ds with
 |nil=>intro k _;exact oC k
 |cons d ds ih=>intro k hk;cases k with|zero=>simp at hk|succ k=>simp only[aA,ic,uh,ih k (by simpa using hk),bO]
theorem ug:∀{x y:List C}{tx ty:List T}{ox oy ix iy:List Nat}{k:Nat},ic h1 k x=some (tx,ox,ix)->ic h1 (k-x.length) y=some (ty,oy,iy)->x.length<=k->ic h1 k (x++y)=some (tx++ty,ox++oy,ix++iy):=by
 intro x;induction x with
 |nil=>intro y tx ty ox oy ix iy k hx hy _;rw[oC]at hx;obtain⟨rfl,e⟩:=ad (aa hx);obtain⟨rfl,rfl⟩:=ad e;simpa using hy
 |cons c x ih=>
  intro y tx ty ox oy ix iy k hx hy hk;cases k with
  |zero=>simp at hk
  |succ k=>
   simp only[ic]at hx;split at hx
   .rename_i p a i q b j hp hq;obtain⟨rfl,e⟩:=ad (aa hx);obtain⟨rfl,rfl⟩:=ad e;simp only[aT,ic,hp];rw[ih hq (by simpa using hy) (by simpa using hk)];simp
   .simp at hx
theorem uf{c:C}{t:T}{bv rd:List Nat}{k:Nat}(hc:ez h1 k c=some (t,bv,rd)):ic h1 (k+1) [c]=some ([t],bv,rd):=by simp only[ic,hc,oC,bO]
theorem QB{t:Ty}{id k:Nat}{q:List (Sl (El t))}(h:az h1 id=some (.nst (bR t) (eL t q none))):ez h1 k (lC 1 (aS (.sl t)) id (Sl.mk q:Sl (Sl (El t))))=some (.yz (bR t) (q.map (Gl t)),[id],[id]):=by simp only[lC,eL]at h|-;cases k<;>simp only[ez,h,aQ,and_self,if_true,Ge]
theorem vL(hr:HR n h1 h):∀(c:Sh)(ln:Bool)(v:V)(l:List V)(i:List Nat)(cs:List C),dP h c ln v=some (l,i)->eU h v cs->eS n h v->
  ∃ts bv rd,(∀k,pX c<=k->ic h1 k cs=some (ts,bv,rd))/\(∀r,ft c (l++r)=(ts,r))/\bv.Sublist i/\(∀j∈i,j∈bv\/lU h j)/\(∀j∈rd,j∈i)/\cs.length<=pX c/\(∀j∈i,j<n):=by
 intro c;induction c with
 |x t=>
  intro ln v l i cs ha hv hk;cases ln with
  |true=>simp[dP]at ha
  |false=>
   simp only[dP]at ha;split at ha
   .rename_i y hy;obtain⟨rfl,rfl⟩:=ad (aa ha);have e:=iG v false t y cs hy hv;subst e;exact⟨_,[],[],fun k hk=>pw _ k (by rw[bK];simp only[pX]at hk;omega),fun r=>rfl,bW _,fun j hj=>by simp at hj,fun j hj=>hj,by simp[pX,bK],fun j hj=>by simp at hj⟩
   .simp at ha
 |os t=>
  intro ln v l i cs ha hv hk;cases ln with
  |true=>simp[dP]at ha
  |false=>
   cases v with
   |so id=>
    simp only[dP]at ha;split at ha
    .rename_i u s ver ho;split at ha
     .rename_i s' hs;obtain⟨rfl,rfl⟩:=ad (aa ha);obtain⟨e,rfl⟩:=de hs;cases e;obtain⟨c,rfl,hc⟩:=hv;rw[hc.1 _ (lB (.inl ho))];cases s with
      |nil=>exact⟨[.d (.lit (.slice none 0 0))],[],[],fun k hk=>pw [.lit (.slice none 0 0)] k (by simpa[pX]using hk),fun r=>rfl,jI _,fun j hj=>by obtain rfl:=aq.1 hj;exact .inr (.inl ⟨_,_,.inl ho⟩),fun j hj=>by simp at hj,by simp[pX],fun j hj=>by obtain rfl:=aq.1 hj;exact hk⟩
      |mk q=>
       have e1:=(hr.ob id _ ho).2.1.2.2 q rfl;refine⟨[.sl (bR t) (q.map (aS t))],[id],[id],fun k hk=>?_,fun r=>rfl,bW _,fun j hj=>.inl hj,fun j hj=>hj,by simp[pX],fun j hj=>by obtain rfl:=aq.1 hj;exact hk⟩;obtain⟨k,rfl⟩:∃k',k=k'+1:=⟨k-1,by simp only[pX]at hk;omega⟩
       exact uf (Rv e1)
     .simp at ha
    .simp at ha
   |nl k=>cases k with|zero=>obtain⟨rfl,rfl⟩:=ad (aa ha);obtain rfl:=hv;exact⟨[.d (.lit (.slice none 0 0))],[],[],fun k hk=>pw [.lit (.slice none 0 0)] k (by simpa[pX]using hk),fun r=>rfl,bW _,fun j hj=>by simp at hj,fun j hj=>hj,by simp[pX],fun j hj=>by simp at hj⟩|succ k=>simp[dP]at ha
   |_=>simp[dP]at ha
 |rw t=>
  intro ln v l i cs ha hv hk;cases ln with
  |true=>simp[dP]at ha
  |false=>
   cases v with
   |sr id=>
    simp only[dP]at ha;split at ha
    .rename_i u s ho;split at ha
     .rename_i s' hs;obtain⟨rfl,rfl⟩:=ad (aa ha);obtain⟨e,rfl⟩:=de hs;cases e;obtain⟨c,rfl,hc⟩:=hv;rw[hc.1 _ (rC ho)];cases s with
      |nil=>exact⟨[.d (.lit (.slice none 0 0))],[],[],fun k hk=>pw [.lit (.slice none 0 0)] k (by simpa[pX]using hk),fun r=>rfl,jI _,fun j hj=>by obtain rfl:=aq.1 hj;exact .inr (.inr ⟨_,_,ho⟩),fun j hj=>by simp at hj,by simp[pX],fun j hj=>by obtain rfl:=aq.1 hj;exact hk⟩
      |mk q=>
       have e1:=(hr.ob id _ ho).2.1.2.2 q rfl;refine⟨[.yz (bR t) (q.map (Gl t))],[id],[id],fun k hk=>?_,fun r=>rfl,bW _,fun j hj=>.inl hj,fun j hj=>hj,by simp[pX],fun j hj=>by obtain rfl:=aq.1 hj;exact hk⟩;obtain⟨k,rfl⟩:∃k',k=k'+1:=⟨k-1,by simp only[pX]at hk;omega⟩
       exact uf (QB e1)
     .simp at ha
    .simp at ha
   |nl k=>cases k with|zero=>obtain⟨rfl,rfl⟩:=ad (aa ha);obtain rfl:=hv;exact⟨[.d (.lit (.slice none 0 0))],[],[],fun k hk=>pw [.lit (.slice none 0 0)] k (by simpa[pX]using hk),fun r=>rfl,bW _,fun j hj=>by simp at hj,fun j hj=>hj,by simp[pX],fun j hj=>by simp at hj⟩|succ k=>simp[dP]at ha
   |_=>simp[dP]at ha
 |pb t c ih=>
  intro ln v l i cs ha hv hk;cases ln with
  |true=>simp[dP]at ha
  |false=>
   cases v with
   |op id u p=>
    cases p with
    |cons=>simp[dP]at ha
    |nil=>
     simp only[dP]at ha;split at ha
     .rename_i w q ho;obtain⟨hc,ha2⟩:=aN ha;split at ha2
      .rename_i l' i' ha3;obtain⟨rfl,rfl⟩:=ad (aa ha2);obtain rfl:=hv;have e0:lX u []=0:=by cases u<;>rfl
       rw[e0];obtain⟨_,⟨cb,e1,e2,e3⟩,e4⟩:=hr.ob id _ ho;obtain⟨ts,bv,rd,g1,g2,g3,g4,g5,g6,g7⟩:=ih false q l' i' cb ha3 e2 e4;refine⟨[.pt ts],id::bv,id::rd,fun k hk=>?_,fun r=>by simp only[ft,g2 r],g3.cons_cons _,fun j hj=>?_,fun j hj=>?_,by simp[pX],fun j hj=>?_⟩
       .obtain ⟨k,rfl⟩:∃k',k=k'+2:=⟨k-2,by simp only[pX]at hk;omega⟩
        refine uf ?_;simp only[ez,e1,g1 k (by simp only[pX]at hk;omega)]
       .rcases aK.1 hj with rfl|hj
        .exact .inl (by simp)
        .exact (g4 j hj).imp (fun q=>by simp[q]) (fun q=>q)
       .rcases aK.1 hj with rfl|hj
        .simp
        .simp [g5 j hj]
       .rcases aK.1 hj with rfl|hj
        .exact hk.1
        .exact g7 j hj
      .simp at ha2
     .simp at ha
   |_=>simp[dP]at ha
 |nl k=>
  intro ln v l i cs ha hv hk;cases ln with
  |true=>simp[dP]at ha
  |false=>
   cases v with
   |nl k'=>
    simp only[dP]at ha;obtain⟨hc,ha2⟩:=aN ha;obtain rfl:k=k':=by simpa using hc
    obtain⟨rfl,rfl⟩:=ad (aa ha2);obtain rfl:=hv;exact⟨[.d (MC k)],[],[],fun j hj=>pw [MC k] j (by simpa[pX]using hj),fun r=>rfl,bW _,fun j hj=>by simp at hj,fun j hj=>hj,by simp[pX],fun j hj=>by simp at hj⟩
   |_=>simp[dP]at ha
 |st c ih=>
  intro ln v l i cs ha hv hk;cases ln with
  |true=>simp[dP]at ha
  |false=>
   cases v with
   |rc q=>exact ih true q l i cs ha hv hk
   |x t v=>cases t with|st u=>obtain⟨hd,rfl⟩:=hv;exact ih true (F9 u v) l i _ ha (Ai u v hd) (Ds u v)|_=>simp[dP]at ha
   |_=>simp[dP]at ha
 |pr a c iha ihc=>
  intro ln v l i cs ha hv hk;cases ln with
  |false=>simp[dP]at ha
  |true=>
   cases v with
   |co x r=>
    simp only[dP]at ha;split at ha
    .rename_i l1 i1 l2 i2 h2 h3;obtain⟨rfl,rfl⟩:=ad (aa ha);obtain⟨cx,cr,rfl,h4,h5⟩:=hv
     have hA:∃ts bv rd,(∀k,pX a<=k->ic h1 k cx=some (ts,bv,rd))/\(∀r,ft a (l1++r)=(ts,r))/\bv.Sublist i1/\(∀j∈i1,j∈bv\/lU h j)/\(∀j∈rd,j∈i1)/\cx.length<=pX a/\(∀j∈i1,j<n):=by
      split at h2
      .rename_i t u v;unfold NF at h2;split at h2
       .obtain ⟨rfl,rfl⟩:=ad (aa h2);obtain⟨_,rfl⟩:=h4;exact⟨[.d (.lit (.slice none 0 0))],[],[],fun k hk=>pw [.lit (.slice none 0 0)] k (by simpa[pX]using hk),fun r=>rfl,bW _,fun j hj=>by simp at hj,fun j hj=>hj,by simp[pX,aS],fun j hj=>by simp at hj⟩
       .simp at h2
      .exact iha false x l1 i1 cx h2 h4 hk.1
     obtain⟨t1,o1,r1,a1,a2,a3,a4,a5,a6,a7⟩:=hA;obtain⟨t2,o2,r2,b1,b2,b3,b4,b5,b6,b7⟩:=ihc true r l2 i2 cr h3 h5 hk.2;refine⟨t1++t2,o1++o2,r1++r2,fun k hk=>?_,fun r=>?_,a3.append b3,fun j hj=>?_,fun j hj=>?_,by simp[pX];omega,fun j hj=>?_⟩
     .simp only[pX]at hk;exact ug (a1 k (by omega)) (b1 _ (by omega)) (by omega)
     .simp only[ft,aJ,a2,b2]
     .rcases ao.1 hj with hj|hj
      .exact (a4 j hj).imp (aC _) (fun q=>q)
      .exact (b4 j hj).imp (aG _) (fun q=>q)
     .rcases ao.1 hj with hj|hj
      .exact aC _ (a5 j hj)
      .exact aG _ (b5 j hj)
     .rcases ao.1 hj with hj|hj
      .exact a7 j hj
      .exact b7 j hj
    .simp at ha
   |_=>simp[dP]at ha
 |ni=>
  intro ln v l i cs ha hv hk;cases ln with
  |false=>cases v<;>simp[dP]at ha
  |true=>cases v with|ni=>obtain⟨rfl,rfl⟩:=ad (aa ha);obtain rfl:=hv;exact⟨[],[],[],fun k _=>oC k,fun r=>rfl,bW _,fun j hj=>by simp at hj,fun j hj=>hj,by simp,fun j hj=>by simp at hj⟩|_=>simp[dP]at ha
 |_=>intro ln v l i cs ha;cases ln<;>simp[dP]at ha
theorem Dn:∀(a b:List T)(m:Nat),hO m (a++b)=((hO m a).1++(hO (hO m a).2.2 b).1,(hO m a).2.1++(hO (hO m a).2.2 b).2.1,(hO (hO m a).2.2 b).2.2):=by intro a;induction a with|nil=>intro b m;simp[hO]|cons t a ih=>intro b m;simp only[aT,hO,ih,aJ]
theorem qx(t:T)(m:Nat):hO m [t]=([(ky m t).1],(ky m t).2.1,(ky m t).2.2):=by simp[hO]
theorem OW:∀(ds:List D)(m:Nat),hO m (ds.map T.d)=(ds.map .d,[],m+ds.length):=by intro ds;induction ds with|nil=>intro m;rfl|cons d ds ih=>intro m;simp only[aA,hO,ky,ih,List.nil_append,List.length_cons];congr 2;omega
theorem vk{a b:fm}(hd:∀p∈a,∀q∈b,p.1≠q.1)(i:Nat):az (a++b++h1) i=az (b++(a++h1)) i:=by rw[gm,gm,gm,<-dV,lJ hd]
structure Mk(s s':S2)(h1:bE)(u:fm):Prop where
 hr:HR s'.next (u++h1) s'.heap
 eC:iX s.next s.heap s'.heap
 dm:s'.dm=s.dm
 gh:s'.gh=s.gh
 le:s.next<=s'.next
 Ej:∀p∈u,s.next<=p.1/\p.1<s'.next
 wo:∃W,s'.wo=W++s.wo/\(∀p∈u,p.1∈W)/\(∀i∈W,s.next<=i/\i<s'.next)/\∀i,i∉W->fO s'.heap i=fO s.heap i
theorem Mk.skip{s:S2}{m:Nat}(hr:HR s.next h1 s.heap)(hm:s.next<=m):Mk s {s with next:=m} h1 []:=⟨hr.mono hm,iX.refl _ _,rfl,rfl,hm,fun p hp=>by simp at hp,[],rfl,fun p hp=>by simp at hp,fun i hi=>by simp at hi,fun _ _=>rfl⟩
theorem Mk.seq{s s1 s2:S2}{u1 u2:fm}(a:Mk s s1 h1 u1)(b:Mk s1 s2 (u1++h1) u2):Mk s s2 h1 (u1++u2):=by
 obtain⟨a3,a4,a5,a6,a7,a8,W,v1,v2,v3,v4⟩:=a;obtain⟨b3,b4,b5,b6,b7,b8,X,x1,x2,x3,x4⟩:=b;refine⟨?_,a4.trans a7 b4,b5.trans a5,b6.trans a6,by omega,fun p hp=>?_,X++W,by rw[x1,v1,aJ],fun p hp=>?_,fun i hi=>?_,fun i hi=>?_⟩
 .exact b3.ext fun i=>vk (fun p hp q hq e=>by have:=(a8 p hp).2;have:=(b8 q hq).1;omega) i
 .rcases ao.1 hp with hp|hp
  .have:=a8 p hp;omega
  .have:=b8 p hp;omega
 .rcases ao.1 hp with hp|hp
  .exact aG _ (v2 p hp)
  .exact aC _ (x2 p hp)
 .rcases ao.1 hi with hi|hi
  .have:=x3 i hi;omega
  .have:=v3 i hi;omega
 .rw [x4 i fun q=>hi (aC _ q),v4 i fun q=>hi (aG _ q)]
end
section
variable{h:H2}{n:Nat}
theorem iX.bx{id:Nat}{t:Ty}{c:V}:iX n h ((id,some (.bx t c))::h):=⟨fun i o hi ho=>by
 rw[cM]at ho;split at ho
 .obtain rfl:=aa ho;exact .inr rfl
 .exact .inl ⟨o,ho,ry.refl _⟩⟩
theorem Mk.one{s:S2}{h1:bE}{o:O}{b:Option Ob}{u:fm}(hr:HR s.next h1 s.heap)(hu:u=[(s.next,b)]\/(u=[]/\∀b',um ((s.next,some o)::s.heap) o b'))(hb:u=[(s.next,b)]->um ((s.next,some o)::s.heap) o b)
  (hko:Be (s.next+1) ((s.next,some o)::s.heap) o):Mk s (jf s o) h1 u:=by
 have hd:=qq.new (x:=.iz []) (v:=.no) (aw:=[]) (l:=[]) (m:=s.next+1) hr hu hb hko rfl trivial (fun i hi=>by simp at hi) (au _);refine⟨hd.hr,hd.eC,rfl,rfl,bH _,fun p hp=>?_,[s.next],rfl,fun p hp=>?_,fun i hi=>?_,fun i hi=>?_⟩
 .rcases hu with rfl|⟨rfl,_⟩
  .obtain rfl:=aq.1 hp;exact⟨au _,aX _⟩
  .simp at hp
 .rcases hu with rfl|⟨rfl,_⟩
  .obtain rfl:=aq.1 hp;simp
  .simp at hp
 .obtain rfl:=aq.1 hi;exact⟨au _,aX _⟩
 .simp only[jf];rw[cM,if_neg fun e=>hi (by simp[e])]
theorem ur:∀(c:Sh)(ln:Bool)(l:List V)(s:S2)(w:V)(l':List V)(s':S2)(h1:bE),qs c ln l s=some (w,l',s')->HR s.next h1 s.heap->
  eU s'.heap w (hO s.next (ft c l).1).1/\eS s'.next s'.heap w/\Mk s s' h1 (hO s.next (ft c l).1).2.1/\s'.next=(hO s.next (ft c l).1).2.2/\l'=(ft c l).2/\(ln=false->rZ w=wv c):=by
 intro c;induction c with
 |x t=>
  intro ln l s w l' s' h1 hm hr;cases ln with
  |true=>simp[qs]at hm
  |false=>match l with|.x u v::l=>simp only[qs]at hm;obtain⟨hc,hm2⟩:=aN hm;simp only[ai,decide_eq_true_eq]at hc;obtain⟨rfl,hd⟩:=hc;obtain⟨rfl,e⟩:=ad (aa hm2);obtain⟨rfl,rfl⟩:=ad e;simp only[ft,OW,bK];exact⟨⟨hd,rfl⟩,trivial,Mk.skip hr (Nat.le_add_right _ _),trivial,trivial,fun _=>rfl⟩|[]|.kb _::_|.nl _::_|.so _::_|.sr _::_|.sb _ _ _ _ _::_|.op _ _ _::_|.ep _ _ _ _::_|.pt _ _::_|.fn _ _ _::_|.om _::_|.rc _::_|.tp _::_|.ni::_|.co _ _::_|.fl _::_|.no::_|.gn::_=>simp[qs]at hm
 |os t=>
  intro ln l s w l' s' h1 hm hr;cases ln with
  |true=>simp[qs]at hm
  |false=>
   match l with
   |.x (.sl u) v::l=>
    simp only[qs]at hm;obtain⟨hc,hm2⟩:=aN hm;simp only[ai,decide_eq_true_eq]at hc;obtain⟨rfl,hd⟩:=hc;obtain⟨d1,d2⟩:=pC hd;obtain⟨rfl,e⟩:=ad (aa hm2);obtain⟨rfl,rfl⟩:=ad e;simp only[ft,qx];have hv:eU (jf s (.ar u v 0)).heap (.so s.next) [lC (bR u) (aS u) s.next v]:=⟨_,rfl,fun c' hc'=>by simp only[jf,sC]at hc';exact aa hc',Al⟩
    cases v with|nil=>exact⟨hv,aX _,Mk.one (b:=none) hr (.inr ⟨rfl,fun b'=>⟨d1,d2,fun l e=>by cases e⟩⟩) (fun e=>by cases e) trivial,by first|rfl|trivial,by first|rfl|trivial,fun _=>rfl⟩|mk q=>exact⟨hv,aX _,Mk.one (b:=some (.aM (bR u) (q.map (aS u)))) hr (.inl rfl) (fun _=>⟨d1,d2,fun l e=>by cases e;rfl⟩) trivial,by first|rfl|trivial,by first|rfl|trivial,fun _=>rfl⟩
   |[]|.kb _::_|.nl _::_|.so _::_|.sr _::_|.sb _ _ _ _ _::_|.op _ _ _::_|.ep _ _ _ _::_|.pt _ _::_|.fn _ _ _::_|.om _::_|.rc _::_|.tp _::_|.ni::_|.co _ _::_|.fl _::_|.no::_|.gn::_=>simp[qs]at hm
   |.x (.i _) _::_|.x .b _::_|.x .s _::_|.x (.f _) _::_|.x (.mp _ _) _::_|.x .un _::_|.x (.pr _ _) _::_|.x (.st _) _::_|.x (.ar _ _) _::_|.x (.o _) _::_=>simp[qs]at hm
 |rw t=>
  intro ln l s w l' s' h1 hm hr;cases ln with
  |true=>simp[qs]at hm
  |false=>
   match l with
   |.x (.sl (.sl u)) v::l=>
    simp only[qs]at hm;obtain⟨hc,hm2⟩:=aN hm;simp only[ai,decide_eq_true_eq]at hc;obtain⟨rfl,hd⟩:=hc;obtain⟨d1,d2⟩:=pC hd;obtain⟨rfl,e⟩:=ad (aa hm2);obtain⟨rfl,rfl⟩:=ad e;simp only[ft,qx];have hv:eU (jf s (.rw u v none)).heap (.sr s.next) [lC 1 (aS (.sl u)) s.next (v:Sl (Sl (El u)))]:=⟨_,rfl,fun c' hc'=>by simp only[jf,sC]at hc';exact aa hc',Al⟩
    cases v with
    |nil=>exact⟨hv,aX _,Mk.one (b:=none) hr (.inr ⟨rfl,fun b'=>⟨d1,d2,fun l e=>by cases e⟩⟩) (fun e=>by cases e) trivial,by first|rfl|trivial,by first|rfl|trivial,fun _=>rfl⟩
    |mk q=>
     have e1:(ky s.next (wZ u (.mk q))).1=lC 1 (aS (.sl u)) s.next (Sl.mk q:Sl (Sl (El u))):=by simp[wZ,ky,lC]
     have e2:(ky s.next (wZ u (.mk q))).2.1=[(s.next,some (.nst (bR u) (eL u q none)))]:=by simp only[wZ,ky,w7,eL]
     rw[e1,e2];exact⟨hv,aX _,Mk.one (b:=some (.nst (bR u) (eL u q none))) hr (.inl rfl) (fun _=>⟨d1,d2,fun l e=>by cases e;rfl⟩) trivial,by first|rfl|trivial,by first|rfl|trivial,fun _=>rfl⟩
   |[]|.kb _::_|.nl _::_|.so _::_|.sr _::_|.sb _ _ _ _ _::_|.op _ _ _::_|.ep _ _ _ _::_|.pt _ _::_|.fn _ _ _::_|.om _::_|.rc _::_|.tp _::_|.ni::_|.co _ _::_|.fl _::_|.no::_|.gn::_=>simp[qs]at hm
   |.x (.sl (.i _)) _::_|.x (.sl .b) _::_|.x (.sl .s) _::_|.x (.sl (.f _)) _::_|.x (.sl (.mp _ _)) _::_|.x (.sl .un) _::_|.x (.sl (.pr _ _)) _::_|.x (.sl (.st _)) _::_|.x (.sl (.ar _ _)) _::_|.x (.sl (.o _)) _::_|.x (.i _) _::_|.x .b _::_|.x .s _::_|.x (.f _) _::_|.x (.mp _ _) _::_|.x .un _::_|.x (.pr _ _) _::_|.x (.st _) _::_|.x (.ar _ _) _::_|.x (.o _) _::_=>simp[qs]at hm
 |pb t c ih=>
  intro ln l s w l' s' h1 hm hr;cases ln with
  |true=>simp[qs]at hm
  |false=>
   simp only[qs]at hm;split at hm
   .rename_i w0 l0 s2 hm0;obtain⟨hf,hm2⟩:=aN hm;obtain⟨rfl,e⟩:=ad (aa hm2);obtain⟨rfl,rfl⟩:=ad e;obtain⟨q1,q2,q3,q4,q5,_⟩:=ih false l {s with next:=s.next+1} w0 l0 s2 h1 hm0 (hr.mono (bH _));simp only[ft,qx,ky];obtain⟨a3,a4,a5,a6,a7,a8,W,v1,v2,v3,v4⟩:=q3;simp only at a4 a5 a6 a7 a8 v1 v3 v4;have hlt:s.next<s2.next:=by omega
    have hin:∀i,i∉W->fO s2.heap i=fO s.heap i:=v4;refine⟨?_,⟨hlt,by cases t<;>trivial⟩,⟨?_,?_,a5,a6,by show s.next<=s2.next;omega,fun p hp=>?_,s.next::W,by simp only[dZ,v1];rfl,fun p hp=>?_,fun i hi=>?_,fun i hi=>?_⟩,q4,q5,fun _=>rfl⟩
    .show [_]=[_]
     have e0:lX t []=0:=by cases t<;>rfl
     rw[e0]
    .refine HR.Bn (u:=[(s.next,some (.box _))]) a3 (au _) hlt iX.bx (fun i hi=>?_) fun o' ho'=>?_
     .rw [aY,dk,if_neg fun e=>hi e.symm]
     .obtain rfl:=aa ho';refine⟨?_,gw (au _) iX.bx q2⟩;rw[aY,dk,if_pos rfl];exact⟨_,rfl,kW iX.bx q2 q1,hf⟩
    .exact iX.trans (n':=s2.next) (by omega) (⟨fun i o hi ho=>a4.ob i o (by omega) ho⟩:iX s.next s.heap s2.heap) iX.bx
    .simp only[dZ];rcases aK.1 hp with rfl|hp
     .exact ⟨au _,hlt⟩
     .have:=a8 p hp;omega
    .rcases aK.1 hp with rfl|hp
     .simp
     .exact aB _ (v2 p hp)
    .simp only[dZ];rcases aK.1 hi with rfl|hi
     .exact ⟨au _,hlt⟩
     .have:=v3 i hi;omega
    .simp only[dZ];rw[cM,if_neg fun e=>hi (by simp[e]),hin i fun q=>hi (by simp[q])]
   .simp at hm
 |nl k=>intro ln l s w l' s' h1 hm hr;cases ln with|true=>simp[qs]at hm|false=>simp only[qs]at hm;obtain⟨rfl,e⟩:=ad (aa hm);obtain⟨rfl,rfl⟩:=ad e;simp only[ft,qx,ky];exact⟨rfl,trivial,Mk.skip hr (bH _),by first|rfl|trivial,by first|rfl|trivial,fun _=>rfl⟩
 |st c ih=>
  intro ln l s w l' s' h1 hm hr;cases ln with
  |true=>simp[qs]at hm
  |false=>
   simp only[qs]at hm;split at hm
   .rename_i w0 l0 s2 hm0;obtain⟨rfl,e⟩:=ad (aa hm);obtain⟨rfl,rfl⟩:=ad e;obtain⟨q1,q2,q3,q4,q5,_⟩:=ih true l s w0 l0 s2 h1 hm0 hr;exact⟨q1,q2,q3,q4,q5,fun _=>rfl⟩
   .simp at hm
 |pr a c iha ihc=>
  intro ln l s w l' s' h1 hm hr;cases ln with
  |false=>simp[qs]at hm
  |true=>
   simp only[qs]at hm;split at hm
   .rename_i x l1 s1 hm1;split at hm
    .rename_i r l2 s2 hm2;obtain⟨rfl,e⟩:=ad (aa hm);obtain⟨rfl,rfl⟩:=ad e;obtain⟨q1,q2,q3,q4,q5,_⟩:=iha false l s x l1 s1 h1 hm1 hr;subst q5;obtain⟨p1,p2,p3,p4,p5,_⟩:=ihc true _ s1 r l2 s2 _ hm2 q3.hr;subst p5;simp only[ft,Dn];rw[q4]at p1 p3 p4;exact⟨⟨_,_,rfl,kW p3.eC q2 q1,p1⟩,⟨gw p3.le p3.eC q2,p2⟩,Mk.seq q3 p3,p4,by first|rfl|trivial,fun e=>by cases e⟩
    .simp at hm
   .simp at hm
 |ni=>intro ln l s w l' s' h1 hm hr;cases ln with|false=>simp[qs]at hm|true=>simp only[qs]at hm;obtain⟨rfl,e⟩:=ad (aa hm);obtain⟨rfl,rfl⟩:=ad e;exact⟨rfl,trivial,Mk.skip hr (au _),rfl,rfl,fun e=>by cases e⟩
 |_=>intro ln l s w l' s' h1 hm;cases ln<;>simp[qs]at hm
end
def Lx:List (Bool×Sh)->List Bool->Bool
 |[],_=>true
 |(b,_)::r,ms=>decide (ms.headD false=b)&&Lx r ms.tail
def uw:Sh->Bool
 |.os _|.rw _|.pb _ _|.nl _=>true
 |_=>false
def xy:Sh->Bool
 |.x t=>bR t==1
 |.os _|.rw _|.pb _ _|.nl _|.pt _|.fn _ _=>true
 |_=>false
def Au:List (Bool×Sh)->Bool
 |[]=>true
 |(b,c)::r=>(bif b then uw c&&Nat.ble (pX c) 300 else(wv c||xy c)&&Nat.ble (vA c) 300)&&Au r
section
variable{h:H2}{n:Nat}{h1:bE}
def MV(h:H2)(n:Nat)(h1:bE)(p:V×List Nat)(q:C×List Nat×List Nat):Prop:=
 eU h p.1 [q.1]/\eS n h p.1/\(∃t,ez h1 300 q.1=some (t,q.2.1,q.2.2))/\q.2.1.Sublist p.2/\(∀j∈p.2,j∈q.2.1\/lU h j)/\(∀j∈q.2.2,j∈p.2)/\(∀j∈p.2,j<n)/\
  match p.1 with|.so id=>p.2=[id]/\∃u s ver,fO h id=some (.ar u s ver)|.sr id=>p.2=[id]/\∃u s,fO h id=some (.rw u s none)|.op id _ _=>id∈p.2/\¬lU h id|.nl _=>True|_=>False
def v_(h:H2)(n:Nat)(h1:bE):List (V×List Nat)->List (C×List Nat×List Nat)->Prop
 |[],l=>l=[]
 |p::r,l=>∃q m,l=q::m/\MV h n h1 p q/\v_ h n h1 r m
theorem JK{v w:V}{l:List Nat}(hf:iP h v=some (w,l)):rZ v=rZ w:=by
 cases v with
 |so id=>
  simp only[iP]at hf;split at hf
  .obtain ⟨rfl,_⟩:=ad (aa hf);rfl
  .simp at hf
 |sr id=>
  simp only[iP]at hf;split at hf
  .obtain ⟨rfl,_⟩:=ad (aa hf);rfl
  .simp at hf
 |sb id ver lo t r=>simp only[iP,sJ]at hf;obtain⟨rfl,_⟩:=ad (aa hf);rfl
 |rc l=>
  simp only[iP]at hf;split at hf
  .obtain ⟨rfl,_⟩:=ad (aa hf);rfl
  .simp at hf
 |co a r=>
  simp only[iP]at hf;split at hf
  .obtain ⟨rfl,_⟩:=ad (aa hf);rfl
  .simp at hf
 |fn z f l=>cases z<;>simp[iP]at hf;rw[<-hf.1]
 |_=>first|(simp[iP]at hf;done)|(simp[iP]at hf;rw[<-hf.1])
theorem Jb{c:Sh}{v:V}{l:List V}{i:List Nat}{x:TV}(hr:HR n h1 h)(hl:uw c=true)(hf:pX c<=300)(ha:dP h c false v=some (l,i))(hx:fL h v x)(hk:eS n h v):
  ∃cc t bv rd,x=.c cc/\ez h1 300 cc=some (t,bv,rd)/\(∀r,ft c (l++r)=([t],r))/\MV h n h1 (v,i) (cc,bv,rd):=by
 have hp:Lj v/\rZ v=false:=by
  cases c<;>simp[uw]at hl
  all_goals(cases v<;>first|exact⟨trivial,rfl⟩|(simp[dP]at ha;done))
 obtain⟨cc,rfl,hc⟩:=iT (nU hp.1 hx) hp.2;obtain⟨ts,bv,rd,g1,g2,g3,g4,g5,g6,g7⟩:=vL hr c false v l i [cc] ha hc hk;have e:=g1 301 (by omega);simp only[ic,oC]at e;split at e
 .rename_i t a b x' b' j hp1 hp2;obtain⟨rfl,e2⟩:=ad (aa hp2);obtain⟨rfl,rfl⟩:=ad e2;clear e2;clear hp2;obtain⟨rfl,e3⟩:=ad (aa e);obtain⟨rfl,rfl⟩:=ad e3;refine⟨cc,t,_,_,rfl,by simpa using hp1,g2,hc,hk,⟨t,by simpa using hp1⟩,g3,g4,g5,g7,?_⟩;cases v with
  |so id=>
   cases c with
   |os t=>
    simp only[dP]at ha;split at ha
    .rename_i u s ver ho;split at ha
     .obtain ⟨_,rfl⟩:=ad (aa ha);exact⟨rfl,u,s,ver,ho⟩
     .simp at ha
    .simp at ha
   |_=>simp[dP,gO,uw]at ha hl
  |sr id=>
   cases c with
   |rw t=>
    simp only[dP]at ha;split at ha
    .rename_i u s ho;split at ha
     .obtain ⟨_,rfl⟩:=ad (aa ha);exact⟨rfl,u,s,ho⟩
     .simp at ha
    .simp at ha
   |_=>simp[dP,gO,uw]at ha hl
  |op id u p=>
   cases c with
   |pb t c=>
    cases p with
    |cons=>simp[dP]at ha
    |nil=>
     simp only[dP]at ha;split at ha
     .rename_i w q ho;obtain⟨_,ha2⟩:=aN ha;split at ha2
      .obtain ⟨_,rfl⟩:=ad (aa ha2);refine⟨by simp,?_⟩;rintro(⟨u',v',e⟩|⟨u',ln',e⟩)
       .rcases e with e|e<;>rw[ho]at e<;>simp at e
       .rw [ho]at e;cases e
      .simp at ha2
     .simp at ha
   |_=>simp[dP,gO,uw]at ha hl
  |nl k=>trivial
  |_=>(cases c<;>simp[uw]at hl<;>simp[dP]at ha)
 .simp at e
theorem C5(hr:HR n h1 h):∀(ps:List (Bool×Sh))(vs:List V)(ms:List Bool)(m:List V)(j:List Nat)(q:List (V×List Nat))(xs:List TV),nP h ps vs=some (m,j,q)->lT h vs xs->(∀w∈vs,eS n h w)->(∀w∈vs,gW h w=true)->Lx ps ms=true->Au ps=true->
  ∃aw lent,fZ h1 xs ms=some (gC ps m,aw,lent)/\(∀i∈aw,i∈j/\¬lU h i)/\(∀i∈j,i∈aw\/lU h i)/\v_ h n h1 q lent:=by
 intro ps;induction ps with
 |nil=>intro vs ms m j q xs ha hx hk hal hm hp;cases vs with|cons=>simp[nP]at ha|nil=>obtain⟨rfl,e⟩:=ad (aa ha);obtain⟨rfl,rfl⟩:=ad e;obtain rfl:=lf hx;exact⟨[],[],rfl,fun i hi=>by simp at hi,fun i hi=>by simp at hi,rfl⟩
 |cons p ps ih=>
  obtain⟨b,c⟩:=p;intro vs ms m j q xs ha hx hk hal hm hp;cases vs with
  |nil=>simp[nP]at ha
  |cons v vs=>
   obtain⟨x,ys,rfl,hx1,hx2⟩:=gx hx;simp only[Lx,ai,decide_eq_true_eq]at hm;simp only[Au,ai]at hp;simp only[nP]at ha;split at ha
   .rename_i m' j' q' hrest;obtain⟨aw,lent,e1,e2,e3,e4⟩:=ih vs ms.tail m' j' q' ys hrest hx2 (fun w hw=>hk w (by simp[hw])) (fun w hw=>hal w (by simp[hw])) hm.2 hp.2;cases b with
    |true=>
     simp only[cond_true]at ha;split at ha
     .rename_i l i ha2;obtain⟨rfl,e⟩:=ad (aa ha);obtain⟨rfl,rfl⟩:=ad e;have hp1:=hp.1;simp only[cond_true,ai,Nat.ble_eq]at hp1;obtain⟨cc,t,bv,rd,rfl,f1,f2,f3⟩:=Jb hr hp1.1 hp1.2 ha2 hx1 (hk v (by simp));refine⟨aw,(cc,bv,rd)::lent,?_,e2,e3,⟨_,_,rfl,f3,e4⟩⟩;rw[Pr f1 hm.1 e1];simp only[gC,f2,bU]
     .simp at ha
    |false=>
     simp only[cond_false]at ha;split at ha
     .rename_i l i ha2;obtain⟨rfl,e⟩:=ad (aa ha);obtain⟨rfl,rfl⟩:=ad e;have hp1:=hp.1;simp only[cond_false,ai,Nat.ble_eq,cu]at hp1;have hpl:Lj v:=by cases v<;>first|trivial|(cases c<;>simp[nO,iP]at ha2)
      cases hs:wv c with
      |true=>
       cases c with
       |x t=>
        simp only[nO]at ha2;split at ha2
        .rename_i w l' hw;split at ha2
         .rename_i y hy;obtain⟨rfl,rfl⟩:=ad (aa ha2);obtain⟨cs,hc,h3,h4⟩:=nU hpl hx1;obtain⟨ds,is,f1,f2,f3,f4,_⟩:=rO hr v w l' cs hw hc (hk v (by simp)) (hal v (by simp));have e5:=oQ (iG w false t y _ hy f2);subst e5;refine⟨is++aw,lent,?_,fun k hk=>?_,fun k hk=>?_,e4⟩
          .rw [h3 (((JK hw).trans (vE hy)).trans hs),N6 f1 hm.1 e1];simp only[gC,hs,cond_true];rfl
          .rcases ao.1 hk with hk|hk
           .exact ⟨aC _ (f3 k hk).1,(f3 k hk).2⟩
           .exact ⟨aG _ (e2 k hk).1,(e2 k hk).2⟩
          .rcases ao.1 hk with hk|hk
           .exact (f4 k hk).imp (aC _) (fun q=>q)
           .exact (e3 k hk).imp (aG _) (fun q=>q)
         .simp at ha2
        .simp at ha2
       |st c=>simp[nO]at ha2
       |_=>simp[wv]at hs
      |false=>
       have hag:rZ v=false:=by
        cases c with
        |x t=>
         simp only[nO]at ha2;split at ha2
         .rename_i w l' hw;split at ha2
          .rename_i y hy;exact((JK hw).trans (vE hy)).trans hs
          .simp at ha2
         .simp at ha2
        |_=>cases v<;>first|rfl|(simp[nO]at ha2;done)|(simp[wv]at hs;done)|(simp[xy,wv]at hp1;done)
       obtain⟨cs,hc,h3,h4⟩:=nU hpl hx1;obtain⟨ds,is,g1,g2,g3,g4,g5⟩:=HN hr c v l i cs ha2 hc (hk v (by simp)) (hal v (by simp));refine⟨is++aw,lent,?_,fun k hk=>?_,fun k hk=>?_,e4⟩
       .obtain ⟨cc,rfl,rfl⟩:=h4 hag;have e:=g1 301 (by omega);have en:fI h1 300 []=some ([],[]):=rfl;simp only[fI,en]at e;split at e
        .rename_i d a xs' b' hv1 hv2;obtain⟨rfl,rfl⟩:=ad (aa hv2);clear hv2;obtain⟨rfl,rfl⟩:=ad (aa e);rw[Rj hv1 hm.1 e1];simp only[gC,hs,g2,cond_false,bU,bO]
        .simp at e
       .rcases ao.1 hk with hk|hk
        .exact ⟨aC _ (g3 k hk).1,(g3 k hk).2⟩
        .exact ⟨aG _ (e2 k hk).1,(e2 k hk).2⟩
       .rcases ao.1 hk with hk|hk
        .exact (g4 k hk).imp (aC _) (fun q=>q)
        .exact (e3 k hk).imp (aG _) (fun q=>q)
     .simp at ha
   .simp at ha
end
section
variable{h:H2}{n:Nat}{h1:bE}
structure Bk(s s':S2)(h1:bE)(I:List Nat)(u:fm):Prop where
 hr:HR s'.next (u++h1) s'.heap
 eC:iX s.next s.heap s'.heap
 dm:s'.dm=s.dm
 gh:s'.gh=s.gh
 le:s.next<=s'.next
 Ej:∀p∈u,p.1∈I\/(s.next<=p.1/\p.1<s'.next)
 nb:∀i,i<s.next->fO s.heap i=none->fO s'.heap i=none
 wo:∃W,s'.wo=W++s.wo/\(∀p∈u,p.1∈W)/\∀i,i∉W->fO s'.heap i=fO s.heap i
theorem Bk.refl{s:S2}(hr:HR s.next h1 s.heap):Bk s s h1 [] []:=⟨hr,iX.refl _ _,rfl,rfl,au _,fun p hp=>by simp at hp,fun _ _ h=>h,[],rfl,fun p hp=>by simp at hp,fun _ _=>rfl⟩
theorem Bk.seq{s s1 s2:S2}{I J:List Nat}{u1 u2:fm}(a:Bk s s1 h1 I u1)(b:Bk s1 s2 (u1++h1) J u2)(hd:∀i∈I,i∉J)(hI:∀i∈I,i<s.next)(hJ:∀j∈J,j<s.next):Bk s s2 h1 (I++J) (u1++u2):=by
 obtain⟨a3,a4,a5,a6,a7,a8,a9,W,v1,v2,v4⟩:=a;obtain⟨b3,b4,b5,b6,b7,b8,b9,X,x1,x2,x4⟩:=b;refine⟨b3.ext fun i=>vk (fun p hp q hq e=>?_) i,a4.trans a7 b4,b5.trans a5,b6.trans a6,by omega,fun p hp=>?_,fun i hi h=>b9 i (by omega) (a9 i hi h),X++W,by rw[x1,v1,aJ],fun p hp=>?_,fun i hi=>?_⟩
 .rcases a8 p hp with h2|h2<;>rcases b8 q hq with h3|h3
  .exact hd _ h2 (e▸h3)
  .have:=hI _ h2;omega
  .have:=hJ _ h3;omega
  .omega
 .rcases ao.1 hp with hp|hp
  .rcases a8 p hp with h2|h2
   .exact .inl (aC _ h2)
   .exact .inr (by omega)
  .rcases b8 p hp with h2|h2
   .exact .inl (aG _ h2)
   .exact .inr (by omega)
 .rcases ao.1 hp with hp|hp
  .exact aG _ (v2 p hp)
  .exact aC _ (x2 p hp)
 .rw [x4 i fun q=>hi (aC _ q),v4 i fun q=>hi (aG _ q)]
theorem oh:∀(i:List Nat)(s:S2),(iJ i s).dm=s.dm/\(iJ i s).next=s.next/\(iJ i s).gh=s.gh/\(iJ i s).wo=i++s.wo/\∀j,fO (iJ i s).heap j=if j∈i then none else fO s.heap j:=by
 intro i;induction i with
 |nil=>intro s;exact⟨rfl,rfl,rfl,rfl,fun j=>by simp[iJ]⟩
 |cons a i ih=>
  intro s;obtain⟨h1,h2,h3,h4,h5⟩:=ih s;refine⟨h1,h2,h3,by simp[iJ,dZ,h4],fun j=>?_⟩;simp only[iJ,dZ,cM,h5];by_cases e:a=j
  .subst e;simp
  .simp [e,Ne.symm e]
theorem iX.sub{g:H2}(hs:∀i o,fO g i=some o->fO h i=some o):iX n h g:=⟨fun i o _ ho=>.inl ⟨o,hs i o ho,ry.refl _⟩⟩
theorem HR.sub{g:H2}(hr:HR n h1 h)(hs:∀i o,fO g i=some o->fO h i=some o):HR n h1 g:=⟨fun i o ho=>let⟨a,b,c⟩:=hr.ob i o (hs i o ho);⟨a,oP (iX.sub hs) c b,nm (au _) (iX.sub hs) c⟩⟩
theorem xO{i:List Nat}{s:S2}:∀j o,fO (iJ i s).heap j=some o->fO s.heap j=some o:=by
 intro j o ho;rw[(oh i s).2.2.2.2]at ho;split at ho
 .simp at ho
 .exact ho
theorem zE{bv:List Nat}{j:Nat}(hj:j∉bv):az (bv.map (fun i=>(i,(none:Option Ob)))++h1) j=az h1 j:=vn fun p hp e=>by obtain⟨i,hi,rfl⟩:=cN.1 hp;exact hj (e▸hi)
theorem Bk.lm{s:S2}{i bv:List Nat}(hr:HR s.next h1 s.heap)(ho:∀j∈bv,j∈i):Bk s (iJ i s) h1 i (bv.map fun j=>(j,none)):=by
 obtain⟨k1,k2,k3,k4,k5⟩:=oh i s;refine⟨⟨fun j o hj=>?_⟩,iX.sub xO,k1,k3,by omega,fun p hp=>?_,fun j _ h=>by rw[k5];split<;>first|rfl|exact h,i,k4,fun p hp=>?_,fun j hj=>by rw[k5,if_neg hj]⟩
 .obtain ⟨a,b,c⟩:=(hr.sub xO).ob j o hj;refine⟨by omega,?_,by rw[k2];exact c⟩;have:j∉i:=fun hm=>by rw[k5,if_pos hm]at hj;simp at hj
  rw[zE fun hm=>this (ho j hm)];exact b
 .obtain ⟨j,hj,rfl⟩:=cN.1 hp;exact .inl (ho j hj)
 .obtain ⟨j,hj,rfl⟩:=cN.1 hp;exact ho j hj
theorem sy{α:Type}{a b:Sl α}{u:Unit}(hl:GZ a b=some u):a.fC=b.fC/\a.l.length=b.l.length:=by
 cases a<;>cases b<;>simp[GZ]at hl
 .exact ⟨rfl,rfl⟩
 .exact ⟨rfl,G0.1 hl⟩
theorem rP{c:C}{rd:List Nat}{x:D}{r:List (C×List Nat×List Nat)}{ts:List T}{m:Nat}:eQ m ((c,[],rd)::r) (.d x::ts)=eQ m r ts:=by simp only[eQ]
theorem xr{x:D}{t:T}{bv rd:List Nat}(hp:ez h1 300 (.d x)=some (t,bv,rd)):bv=[]:=by rw[uh]at hp;obtain⟨_,e⟩:=ad (aa hp);exact(ad e).1.symm
theorem I2{q:List (V×List Nat)}{v:V}{i:List Nat}(hn:(jU (fun(p:V×List Nat)=>p.2) ((v,i)::q)).Nodup):(∀j∈i,j∉jU (fun(p:V×List Nat)=>p.2) q)/\(jU (fun(p:V×List Nat)=>p.2) q).Nodup:=by simp only[bl]at hn;exact⟨fun j hj hm=>(bZ.1 hn).2.2 j hj j hm rfl,(bZ.1 hn).2.1⟩
theorem v_.lt:∀{q:List (V×List Nat)}{lent:List (C×List Nat×List Nat)},v_ h n h1 q lent->∀j∈jU (fun(p:V×List Nat)=>p.2) q,j<n:=by
 intro q;induction q with
 |nil=>intro lent _ j hj;simp at hj
 |cons p q ih=>
  rintro lent ⟨x,m,rfl,hx,hm⟩ j hj;simp only[bl,ao]at hj;rcases hj with hj|hj
  .exact hx.2.2.2.2.2.2.1 j hj
  .exact ih hm j hj
theorem Km{szi m id len k:Nat}{am:List (Option (List (List D)))}{rd:List Nat}{r:List (C×List Nat×List Nat)}{ts:List T}{w:fm}(hl:am.length=len)(hr:eQ m r ts=some (w,k)):
  eQ m ((.eZ 1 id 0 len,[id],rd)::r) (.yz szi am::ts)=some ((id,some (.nst szi (am.map lZ)))::w,k):=by
 simp only[eQ,hl,hr,and_self,if_true]
theorem yp{β:Type}{z:β}(hr0:HR n h1 h):∀(os:List Sh)(q:List (V×List Nat))(lent:List (C×List Nat×List Nat))(l:List V)(s:S2)(H:bE)(k:S2->Option β),fN os q l s k=some z->v_ h n h1 q lent->n<=s.next->HR s.next H s.heap->iX n h s.heap->
  (jU (fun(p:V×List Nat)=>p.2) q).Nodup->∃s1 bu,k s1=some z/\eQ s.next lent (kN os l)=some (bu,s1.next)/\Bk s s1 H (jU (fun(p:V×List Nat)=>p.2) q) bu:=by
 intro os;induction os with
 |nil=>
  intro q lent l s H k hb hl hn hr eC hnd;cases q with
  |cons p q=>simp[fN]at hb
  |nil=>cases l with|cons=>simp[fN]at hb|nil=>obtain rfl:lent=[]:=hl;exact⟨s,[],hb,rfl,Bk.refl hr⟩
 |cons o os ih=>
  intro q lent l s H k hb hl hn hr eC hnd;cases q with
  |nil=>cases o<;>simp[fN]at hb
  |cons p q=>
   obtain⟨v,i⟩:=p;obtain⟨⟨c,bv,rd⟩,m,rfl,⟨hc,hkv,⟨tp,hpk⟩,hsub,hcov,hrd,hlt,hsh⟩,hl2⟩:=hl;obtain⟨hd,hnd2⟩:=I2 hnd;have hI:∀j∈i,j<s.next:=fun j hj=>by have:j<n:=hlt j hj;omega
   have hJ:∀j∈jU (fun(p:V×List Nat)=>p.2) q,j<s.next:=fun j hj=>by have:=hl2.lt j hj;omega
   cases o with
   |nl kk=>cases i with|cons=>simp[fN]at hb|nil=>simp only[fN]at hb;obtain⟨s1,bu,e1,e2,e3⟩:=ih q m l s H k hb hl2 hn hr eC hnd2;have:bv=[]:=List.sublist_nil.1 hsub;subst this;exact⟨s1,bu,e1,by simp only[kN,ft,bU,rP];exact e2,by simpa using e3⟩
   |gn=>simp only[fN]at hb;obtain⟨k1,k2,k3,k4,k5⟩:=oh i s;have b1:Bk s (iJ i s) H i (bv.map fun j=>(j,none)):=Bk.lm hr fun j hj=>hsub.subset hj;obtain⟨s1,bu,e1,e2,e3⟩:=ih q m l (iJ i s) _ k hb hl2 (by omega) b1.hr (eC.trans hn b1.eC) hnd2;rw[k2]at e2;exact⟨s1,_,e1,by simp only[kN,ft,bU];exact HI e2,by simpa using b1.seq e3 hd hI hJ⟩
   |os t=>
    cases v with
    |nl kk=>
     cases kk with
     |succ=>cases l with|nil=>simp[fN]at hb|cons w l=>cases w<;>simp[fN]at hb
     |zero=>
      cases i with
      |cons=>cases l with|nil=>simp[fN]at hb|cons w l=>cases w<;>simp[fN]at hb
      |nil=>
       match l with
       |.x (.sl u) v::l=>
        simp only[fN]at hb;split at hb
        .rename_i v' hv;obtain⟨e,rfl⟩:=de hv;cases e;obtain⟨_,hls,hb2⟩:=qX hb;obtain⟨hni,_⟩:=sy hls;obtain⟨s1,bu,e1,e2,e3⟩:=ih q m l s H k hb2 hl2 hn hr eC hnd2;have:bv=[]:=List.sublist_nil.1 hsub;subst this;refine⟨s1,bu,e1,?_,by simpa using e3⟩;cases v with|mk=>simp[Sl.fC]at hni|nil=>simp only[kN,ft,bU,OK,rP];exact e2
        .simp at hb
       |[]|.kb _::_|.nl _::_|.so _::_|.sr _::_|.sb _ _ _ _ _::_|.op _ _ _::_|.ep _ _ _ _::_|.pt _ _::_|.fn _ _ _::_|.om _::_|.rc _::_|.tp _::_|.ni::_|.co _ _::_|.fl _::_|.no::_|.gn::_=>simp[fN]at hb
       |.x (.i _) _::_|.x .b _::_|.x .s _::_|.x (.f _) _::_|.x (.mp _ _) _::_|.x .un _::_|.x (.pr _ _) _::_|.x (.st _) _::_|.x (.ar _ _) _::_|.x (.o _) _::_=>simp[fN]at hb
    |so id=>
     match l with
     |.x (.sl u) v::l=>
      simp only[fN]at hb;split at hb
      .rename_i w old ver v' ho hv;obtain⟨e,rfl⟩:=de hv;cases e;split at hb
       .rename_i v2 hv2;obtain⟨e,rfl⟩:=de hv2;cases e;obtain⟨_,hls,hb2⟩:=qX hb;obtain⟨hni,hln⟩:=sy hls;obtain⟨rfl,u0,s0,ver0,ho0⟩:=hsh;have hid:id<n:=hkv;obtain⟨o1,ho1,hos⟩:=(eC.ob id _ hid ho).resolve_right (by simp[sV]);rw[ho0]at ho1;obtain rfl:=aa ho1;obtain⟨_,rfl,hn1,hn2,_⟩:=hos;obtain⟨cc,ece,hcc⟩:=hc;obtain rfl:=ff.1 ece;have ec:=hcc.1 _ (lB (.inl ho0));obtain⟨q1,q2,q3⟩:=(hr.ob id _ ho).2.1;have hosn:ry (.ar u0 old ver) (.ar u0 v (ver+1)):=⟨bH _,rfl,hni.symm,hln.symm,fun e=>by omega⟩
        have key:∀(uu:fm),(∀p∈uu,p.1=id)->(∀l,v=.mk l->az (uu++H) id=some (.aM (bR u0) (l.map (aS u0))))->Bk s (dZ s id (some (.ar u0 v (ver+1)))) H [id] uu:=by intro uu hu hlk;have d:=qZ (x:=.iz []) (v:=.no) (aw:=[]) (l:=[]) hr ho hni.symm hln.symm hu hlk (fun _=>rfl) (fun _ _=>trivial) (fun i hi=>by simp at hi);exact⟨d.hr,d.eC,rfl,rfl,au _,fun p hp=>.inl (by simp[hu p hp]),d.nb,[id],rfl,fun p hp=>by simp[hu p hp],fun j hj=>by simp only[dZ];rw[cM,if_neg fun e=>hj (by simp[e])]⟩
        cases v with
        |nil=>
         have b1:=key [] (fun p hp=>by simp at hp) (fun l e=>by cases e);obtain⟨s1,bu,f1,f2,e3⟩:=ih q m l _ _ k hb2 hl2 hn b1.hr (eC.trans hn b1.eC) hnd2;have hnil:s0.fC=true:=by rw[hn1,<-hni];rfl
         cases s0 with|mk=>simp[Sl.fC]at hnil|nil=>subst ec;have:=xr hpk;subst this;refine⟨s1,bu,f1,?_,by simpa using b1.seq e3 hd hI hJ⟩;simp only[kN,ft,bU,OK,rP];exact f2
        |mk vl=>
         have b1:=key [(id,some (.aM (bR u0) (vl.map (aS u0))))] (fun p hp=>by simp at hp;simp[hp]) (fun l e=>by cases e;rw[aY,dk,if_pos rfl]);obtain⟨s1,bu,f1,f2,e3⟩:=ih q m l _ _ k hb2 hl2 hn b1.hr (eC.trans hn b1.eC) hnd2;have hnil:s0.fC=false:=by rw[hn1,<-hni];rfl
         cases s0 with|nil=>simp[Sl.fC]at hnil|mk si=>subst ec;have hlk:=(hr0.ob id _ ho0).2.1.2.2 si rfl;have hp2:=Rv (k:=300) hlk;simp only[lC]at hpk;rw[hp2]at hpk;obtain⟨_,e⟩:=ad (aa hpk);obtain⟨rfl,rfl⟩:=ad e;refine⟨s1,_,f1,?_,by simpa using b1.seq e3 hd hI hJ⟩;simp only[kN,ft,bU,OK,lC];refine L_ ?_ f2;simp only[Sl.l]at hn2 hln;simp only[aQ];omega
       .simp at hb
      .simp at hb
     |[]|.kb _::_|.nl _::_|.so _::_|.sr _::_|.sb _ _ _ _ _::_|.op _ _ _::_|.ep _ _ _ _::_|.pt _ _::_|.fn _ _ _::_|.om _::_|.rc _::_|.tp _::_|.ni::_|.co _ _::_|.fl _::_|.no::_|.gn::_=>simp[fN]at hb
     |.x (.i _) _::_|.x .b _::_|.x .s _::_|.x (.f _) _::_|.x (.mp _ _) _::_|.x .un _::_|.x (.pr _ _) _::_|.x (.st _) _::_|.x (.ar _ _) _::_|.x (.o _) _::_=>simp[fN]at hb
    |_=>simp[fN]at hb
   |rw t=>
    cases v with
    |nl kk=>
     cases kk with
     |succ=>cases l with|nil=>simp[fN]at hb|cons w l=>cases w<;>simp[fN]at hb
     |zero=>
      cases i with
      |cons=>cases l with|nil=>simp[fN]at hb|cons w l=>cases w<;>simp[fN]at hb
      |nil=>
       match l with
       |.x (.sl (.sl u)) v::l=>
        simp only[fN]at hb;split at hb
        .rename_i v' hv;obtain⟨e,rfl⟩:=de hv;cases e;obtain⟨_,hls,hb2⟩:=qX hb;obtain⟨hni,_⟩:=sy hls;obtain⟨s1,bu,e1,e2,e3⟩:=ih q m l s H k hb2 hl2 hn hr eC hnd2;have:bv=[]:=List.sublist_nil.1 hsub;subst this;refine⟨s1,bu,e1,?_,by simpa using e3⟩;cases v with|mk=>simp[Sl.fC]at hni|nil=>simp only[kN,ft,bU,wZ,rP];exact e2
        .simp at hb
       |[]|.kb _::_|.nl _::_|.so _::_|.sr _::_|.sb _ _ _ _ _::_|.op _ _ _::_|.ep _ _ _ _::_|.pt _ _::_|.fn _ _ _::_|.om _::_|.rc _::_|.tp _::_|.ni::_|.co _ _::_|.fl _::_|.no::_|.gn::_=>simp[fN]at hb
       |.x (.sl (.i _)) _::_|.x (.sl .b) _::_|.x (.sl .s) _::_|.x (.sl (.f _)) _::_|.x (.sl (.mp _ _)) _::_|.x (.sl .un) _::_|.x (.sl (.pr _ _)) _::_|.x (.sl (.st _)) _::_|.x (.sl (.ar _ _)) _::_|.x (.sl (.o _)) _::_|.x (.i _) _::_|.x .b _::_|.x .s _::_|.x (.f _) _::_|.x (.mp _ _) _::_|.x .un _::_|.x (.pr _ _) _::_|.x (.st _) _::_|.x (.ar _ _) _::_|.x (.o _) _::_=>simp[fN]at hb
    |sr id=>
     match l with
     |.x (.sl (.sl u)) v::l=>
      simp only[fN]at hb;split at hb
      .rename_i w old ln v' ho hv;obtain⟨e,rfl⟩:=de hv;cases e;split at hb
       .rename_i v2 hv2;obtain⟨e,rfl⟩:=de hv2;cases e;obtain⟨_,hls,hb2⟩:=qX hb;obtain⟨hni,hln⟩:=sy hls;obtain⟨rfl,u0,s0,ho0⟩:=hsh;have hid:id<n:=hkv;obtain⟨o1,ho1,hos⟩:=(eC.ob id _ hid ho).resolve_right (by simp[sV]);rw[ho0]at ho1;obtain rfl:=aa ho1;obtain⟨rfl,hn1,hn2⟩:=hos;obtain⟨cc,ece,hcc⟩:=hc;obtain rfl:=ff.1 ece;have ec:=hcc.1 _ (rC ho0);obtain⟨q1,q2,q3⟩:=(hr.ob id _ ho).2.1;have hosn:ry (.rw u0 old ln) (.rw u0 v none):=⟨rfl,hni.symm,hln.symm⟩
        have key:∀(uu:fm),(∀p∈uu,p.1=id)->(∀l,v=.mk l->az (uu++H) id=some (.nst (bR u0) (eL u0 l none)))->Bk s (dZ s id (some (.rw u0 v none))) H [id] uu:=by intro uu hu hlk;have d:=E9 (x:=.iz []) (v:=.no) (aw:=[]) (l:=[]) hr ho hosn hu ⟨q1,q2,hlk⟩ trivial rfl trivial (fun i hi=>by simp at hi);exact⟨d.hr,d.eC,rfl,rfl,au _,fun p hp=>.inl (by simp[hu p hp]),d.nb,[id],rfl,fun p hp=>by simp[hu p hp],fun j hj=>by simp only[dZ];rw[cM,if_neg fun e=>hj (by simp[e])]⟩
        cases v with
        |nil=>
         have b1:=key [] (fun p hp=>by simp at hp) (fun l e=>by cases e);obtain⟨s1,bu,f1,f2,e3⟩:=ih q m l _ _ k hb2 hl2 hn b1.hr (eC.trans hn b1.eC) hnd2;have hnil:s0.fC=true:=by rw[hn1,<-hni];rfl
         cases s0 with|mk=>simp[Sl.fC]at hnil|nil=>subst ec;have:=xr hpk;subst this;refine⟨s1,bu,f1,?_,by simpa using b1.seq e3 hd hI hJ⟩;simp only[kN,ft,bU,wZ,rP];exact f2
        |mk vl=>
         have b1:=key [(id,some (.nst (bR u0) (eL u0 vl none)))] (fun p hp=>by simp at hp;simp[hp]) (fun l e=>by cases e;rw[aY,dk,if_pos rfl]);obtain⟨s1,bu,f1,f2,e3⟩:=ih q m l _ _ k hb2 hl2 hn b1.hr (eC.trans hn b1.eC) hnd2;have hnil:s0.fC=false:=by rw[hn1,<-hni];rfl
         cases s0 with|nil=>simp[Sl.fC]at hnil|mk si=>subst ec;have hlk:=(hr0.ob id _ ho0).2.1.2.2 si rfl;have hp2:=QB (k:=300) hlk;simp only[lC]at hpk hp2;rw[hp2]at hpk;obtain⟨_,e⟩:=ad (aa hpk);obtain⟨rfl,rfl⟩:=ad e;refine⟨s1,_,f1,?_,by simpa using b1.seq e3 hd hI hJ⟩;simp only[kN,ft,bU,wZ,lC,aQ];rw[show eL u0 vl none=(vl.map (Gl u0)).map lZ from(w7 vl).symm];refine Km ?_ f2;rw[aQ];exact hln.trans hn2.symm
       .simp at hb
      .simp at hb
     |[]|.kb _::_|.nl _::_|.so _::_|.sr _::_|.sb _ _ _ _ _::_|.op _ _ _::_|.ep _ _ _ _::_|.pt _ _::_|.fn _ _ _::_|.om _::_|.rc _::_|.tp _::_|.ni::_|.co _ _::_|.fl _::_|.no::_|.gn::_=>simp[fN]at hb
     |.x (.sl (.i _)) _::_|.x (.sl .b) _::_|.x (.sl .s) _::_|.x (.sl (.f _)) _::_|.x (.sl (.mp _ _)) _::_|.x (.sl .un) _::_|.x (.sl (.pr _ _)) _::_|.x (.sl (.st _)) _::_|.x (.sl (.ar _ _)) _::_|.x (.sl (.o _)) _::_|.x (.i _) _::_|.x .b _::_|.x .s _::_|.x (.f _) _::_|.x (.mp _ _) _::_|.x .un _::_|.x (.pr _ _) _::_|.x (.st _) _::_|.x (.ar _ _) _::_|.x (.o _) _::_=>simp[fN]at hb
    |_=>simp[fN]at hb
   |pb t c2=>
    cases v with
    |op id u p=>
     cases p with
     |cons=>simp[fN]at hb
     |nil=>
      simp only[fN]at hb;split at hb
      case h_2=>simp at hb
      rename_i oid hoid;split at hb
      .rename_i w l' s2 hm;obtain⟨hf,hb2⟩:=aN hb;simp only[ai,decide_eq_true_eq]at hf;obtain⟨hf,rfl⟩:=hf;obtain⟨g1,g2,g3,g4,g5,_⟩:=ur c2 false l s w l' s2 H hm hr;subst g5;obtain⟨hid,hnn⟩:=hsh;have hio:id∈bv:=(hcov id hid).resolve_right hnn
       obtain rfl:c=.op id 0:=by
        have e0:lX u []=0:=by cases u<;>rfl
        have:[c]=[C.op id (lX u [])]:=hc;rw[e0]at this;exact ff.1 this
       obtain⟨k1,k2,k3,k4,k5⟩:=oh i s2;have hids:id<s2.next:=by have:=hI id hid;have:=g3.le;omega
       have b1:Bk s (dZ (iJ i s2) id (some (.bx u w))) H i ((id,some (.box (hO s.next (ft c2 l).1).1))::(hO s.next (ft c2 l).1).2.1++bv.map (fun j=>(j,none))):=by
        obtain⟨a3,a4,a5,a6,a7,a8,W,v1,v2,v3,v4⟩:=g3;have hs2:iX s2.next s2.heap (dZ (iJ i s2) id (some (.bx u w))).heap:=iX.trans (au _) (iX.sub xO) iX.bx;refine⟨⟨fun j o hj=>?_⟩,iX.trans a7 a4 hs2,k1.trans a5,k3.trans a6,by simp only[dZ];omega,fun p hp=>?_,fun j hj hn=>(by simp only[dZ];rw[cM,if_neg (fun e=>by rw[e,hn]at hoid;cases hoid),k5];split<;>first|rfl|(rw[v4 j fun q=>by have:=(v3 j q).1;omega];exact hn)),id::(i++W),by simp only[dZ,k4,v1,aT,aJ],fun p hp=>?_,fun j hj=>?_⟩
        .simp only[dZ]at hj|-;rw[cM]at hj;split at hj
         .rename_i e;subst e;obtain rfl:=aa hj;refine⟨by omega,?_,?_⟩
          .rw [aT,aT,dk,if_pos rfl];exact⟨_,rfl,kW hs2 g2 g1,hf⟩
          .rw [k2];exact gw (au _) hs2 g2
         .rename_i e;have hji:j∉i:=fun hm=>by rw[k5,if_pos hm]at hj;simp at hj
          rw[k5,if_neg hji]at hj;obtain⟨c1,c2',c3⟩:=a3.ob j o hj;refine⟨by omega,?_,?_⟩
          .rw [aT,aT,dk,if_neg e,aJ];have:az ((hO s.next (ft c2 l).1).2.1++(bv.map (fun j=>(j,none))++H)) j=az ((hO s.next (ft c2 l).1).2.1++H) j:=by simp only[az,gy];have:=zE (h1:=H) (bv:=bv) (j:=j) fun hm=>hji (hsub.subset hm);simp only[az,gy]at this;cases cg (hO s.next (ft c2 l).1).2.1 j with|some x=>rfl|none=>exact this
           rw[this];exact oP hs2 c3 c2'
          .rw [k2];exact nm (au _) hs2 c3
        .rcases ao.1 hp with hp|hp
         .rcases aK.1 hp with rfl|hp
          .exact .inl hid
          .have:=a8 p hp;exact .inr ⟨this.1,by simp only[dZ];omega⟩
         .obtain ⟨j,hj,rfl⟩:=cN.1 hp;exact .inl (hsub.subset hj)
        .rcases ao.1 hp with hp|hp
         .rcases aK.1 hp with rfl|hp
          .simp
          .simp [v2 p hp]
         .obtain ⟨j,hj,rfl⟩:=cN.1 hp;simp[hsub.subset hj]
        .simp only[dZ];rw[cM,if_neg fun e=>hj (by simp[e]),k5,if_neg fun q=>hj (by simp[q]),v4 j fun q=>hj (by simp[q])]
       obtain⟨s1,bu,e1,e2,e3⟩:=ih q m _ _ _ k hb2 hl2 (by have:=b1.le;omega) b1.hr (eC.trans hn b1.eC) hnd2;have en:(dZ (iJ i s2) id (some (.bx u w))).next=(hO s.next (ft c2 l).1).2.2:=by simp only[dZ,k2,g4]
       rw[en]at e2;refine⟨s1,_,e1,?_,by simpa using b1.seq e3 hd hI hJ⟩;simp only[kN,ft,bU];have:=L9 (n:=s.next) (id:=id) (bv:=bv) (rd:=rd) (by simpa using hio) e2;rw[this];simp only[aT,aJ]
      .simp at hb
    |_=>simp[fN]at hb
   |_=>simp[fN]at hb
end
def OL(c:Sh):Bool:=wv c||xy c
section
variable{h:H2}{n:Nat}{h1:bE}
theorem AU{c:Sh}{l l':List V}{s s':S2}{w:V}(hm:qs c false l s=some (w,l',s'))(ho:xy c=true):(ft c l).1.length=1:=by
 cases c with
 |x t=>match l with|.x u v::l=>simp only[qs]at hm;obtain⟨hc,_⟩:=aN hm;simp only[ai,decide_eq_true_eq]at hc;obtain⟨rfl,_⟩:=hc;simpa[ft,bK,xy]using ho|[]|.kb _::_|.nl _::_|.so _::_|.sr _::_|.sb _ _ _ _ _::_|.op _ _ _::_|.ep _ _ _ _::_|.pt _ _::_|.fn _ _ _::_|.om _::_|.rc _::_|.tp _::_|.ni::_|.co _ _::_|.fl _::_|.no::_|.gn::_=>simp[qs]at hm
 |os t=>match l with|.x (.sl u) v::l=>rfl|[]|.kb _::_|.nl _::_|.so _::_|.sr _::_|.sb _ _ _ _ _::_|.op _ _ _::_|.ep _ _ _ _::_|.pt _ _::_|.fn _ _ _::_|.om _::_|.rc _::_|.tp _::_|.ni::_|.co _ _::_|.fl _::_|.no::_|.gn::_=>simp[qs]at hm|.x (.i _) _::_|.x .b _::_|.x .s _::_|.x (.f _) _::_|.x (.mp _ _) _::_|.x .un _::_|.x (.pr _ _) _::_|.x (.st _) _::_|.x (.ar _ _) _::_|.x (.o _) _::_=>simp[qs]at hm
 |rw t=>match l with|.x (.sl (.sl u)) v::l=>rfl|[]|.kb _::_|.nl _::_|.so _::_|.sr _::_|.sb _ _ _ _ _::_|.op _ _ _::_|.ep _ _ _ _::_|.pt _ _::_|.fn _ _ _::_|.om _::_|.rc _::_|.tp _::_|.ni::_|.co _ _::_|.fl _::_|.no::_|.gn::_=>simp[qs]at hm|.x (.sl (.i _)) _::_|.x (.sl .b) _::_|.x (.sl .s) _::_|.x (.sl (.f _)) _::_|.x (.sl (.mp _ _)) _::_|.x (.sl .un) _::_|.x (.sl (.pr _ _)) _::_|.x (.sl (.st _)) _::_|.x (.sl (.ar _ _)) _::_|.x (.sl (.o _)) _::_|.x (.i _) _::_|.x .b _::_|.x .s _::_|.x (.f _) _::_|.x (.mp _ _) _::_|.x .un _::_|.x (.pr _ _) _::_|.x (.st _) _::_|.x (.ar _ _) _::_|.x (.o _) _::_=>simp[qs]at hm
 |pb t c=>rfl
 |nl k=>rfl
 |_=>first|(simp[qs]at hm;done)|(simp[xy]at ho;done)
theorem zC:∀(rs:List Sh)(l:List V)(s:S2)(xs:List V)(l':List V)(s':S2)(h1:bE),GR rs l s=some (xs,l',s')->HR s.next h1 s.heap->rs.all OL=true->
  Af s'.heap (cY xs) (gT s.next (lQ rs l)).1/\(∀x∈xs,eS s'.next s'.heap x)/\Mk s s' h1 (gT s.next (lQ rs l)).2.1/\s'.next=(gT s.next (lQ rs l)).2.2/\xs.length=rs.length:=by
 intro rs;induction rs with
 |nil=>intro l s xs l' s' h1 hm hr _;obtain⟨rfl,e⟩:=ad (aa hm);obtain⟨rfl,rfl⟩:=ad e;exact⟨rfl,fun x hx=>by simp at hx,Mk.skip hr (au _),rfl,rfl⟩
 |cons c rs ih=>
  intro l s xs l' s' h1 hm hr hok;simp only[ij,ai]at hok;simp only[GR]at hm;split at hm
  .rename_i x l1 s1 hm1;split at hm
   .rename_i ys l2 s2 hm2;obtain⟨rfl,e⟩:=ad (aa hm);obtain⟨rfl,rfl⟩:=ad e;obtain⟨q1,q2,q3,q4,q5,q6⟩:=ur c false l s x l1 s1 h1 hm1 hr;have q6:=q6 rfl;subst q5
    have hu:vQ s.next (bif wv c then .agg (ft c l).1 else .c ((ft c l).1.headD default))=(bif wv c then .agg (hO s.next (ft c l).1).1 else .c ((hO s.next (ft c l).1).1.headD default),(hO s.next (ft c l).1).2.1,(hO s.next (ft c l).1).2.2)/\rB s1.heap x (bif wv c then .agg (hO s.next (ft c l).1).1 else .c ((hO s.next (ft c l).1).1.headD default)):=by
     cases hs:wv c with
     |true=>exact⟨rfl,wR (q6.trans hs) q1⟩
     |false=>
      have hl:(ft c l).1.length=1:=by
       have h2:xy c=true:=by simpa[OL,hs]using hok.1
       exact AU hm1 h2
      match ht:(ft c l).1,hl with|[t],_=>rw[ht]at q1;simp only[qx]at q1;refine⟨by simp only[cond_false,bU,vQ,qx],?_⟩;simp only[cond_false,qx,bU];exact dJ (q6.trans hs) q1
    obtain⟨hu1,hu2⟩:=hu;obtain⟨p1,p2,p3,p4,p5⟩:=ih (ft c l).2 s1 ys l2 s2 _ hm2 q3.hr hok.2;rw[q4]at p1 p3 p4;simp only[lQ,gT,hu1];refine⟨⟨_,_,rfl,uZ p3.eC q2 hu2,p1⟩,fun y hy=>?_,q3.seq p3,p4,by simp[p5]⟩;rcases aK.1 hy with rfl|hy
    .exact gw p3.le p3.eC q2
    .exact p2 y hy
   .simp at hm
  .simp at hm
end
def Ef:Ty->Bool
 |.i _|.b|.s|.f _|.un=>true
 |.pr a c=>Ef a&&Ef c
 |.st t|.ar _ t=>Ef t
 |_=>false
def NI:Sh->Bool
 |.x t=>Ef t
 |_=>false
def Nj(sp:mo):Bool:=sp.ps.all (fun p=>!p.1)&&sp.al.all (fun w=>w.1.all NI&&w.2.isEmpty)
def KJ(sp:mo):Bool:=Lx sp.ps sp.jL&&Au sp.ps&&sp.al.all (fun w=>w.1.all OL)&&(!sp.ro||Nj sp)
def KK(Q:List Sh->List Sh->List V->Prop):(r o:List Sh)->(w:Wy)->uN.E4 r o w->Prop
 |r,o,[],z=>Q r o (n_ (gE r++gE o) z)
 |r,o,(r',o')::w,z=>match z with|.inl z=>Q r o (n_ (gE r++gE o) z)|.inr z=>KK Q r' o' w z
def KL(Q:List Sh->List Sh->List V->Prop):(w:Wy)->uN w->Prop
 |[],z=>nomatch z
 |(r,o)::w,z=>KK Q r o w z
def dL(P:Program)(f:FuncId)(sp:mo):Prop:=KJ sp=true/\∀p z,sp.fn p=some z->KL (fun rs os l=>Ba P f (gC sp.ps (n_ (gE (sp.ps.map (·.2))) p)) (lQ rs (l.take (gE rs).length)) (kN os (l.drop (gE rs).length))) sp.al z
def o8(P:Program)(tb:C9):Prop:=∀e∈tb,dL P e.1 e.2
theorem o8.nil{P:Program}:o8 P []:=fun e he=>by simp at he
theorem o8.cons{P:Program}{f:FuncId}{sp:mo}{tb:C9}(h:dL P f sp)(ht:o8 P tb):o8 P ((f,sp)::tb):=fun e he=>by
 rcases aK.1 he with rfl|he
 .exact h
 .exact ht e he
theorem F0{β:Type}{k:List Sh->List Sh->List V->Option β}{Q:List Sh->List Sh->List V->Prop}{b:β}:∀(w:Wy)(z:uN w),OU k w z=some b->KL Q w z->∃r o l,(r,o)∈w/\k r o l=some b/\Q r o l:=by
 have key:∀(w:Wy)(r o:List Sh)(z:uN.E4 r o w),M1 k r o w z=some b->KK Q r o w z->∃r' o' l,(r',o')∈(r,o)::w/\k r' o' l=some b/\Q r' o' l:=by
  intro w;induction w with
  |nil=>intro r o z hz hq;exact⟨r,o,_,by simp,hz,hq⟩
  |cons p w ih=>intro r o z hz hq;cases z with|inl z=>exact⟨r,o,_,by simp,hz,hq⟩|inr z=>obtain⟨r',o',l,h1,h2,h3⟩:=ih p.1 p.2 z hz hq;exact⟨r',o',l,aB _ h1,h2,h3⟩
 intro w z hz hq;cases w with|nil=>exact nomatch z|cons p w=>exact key w p.1 p.2 z hz hq
theorem yj{u:Ty}{v:V}{y:El u}(h:s7 u v=some y):v=.x u y:=by cases v with|x t v=>obtain⟨rfl,rfl⟩:=de (show gq t u v=some y from h);rfl|_=>simp[s7]at h
theorem po:∀(cs:List Ty)(l:List V)(p:pW cs),u4 cs l=some p->n_ cs p=l:=by
 have key:∀(r:List Ty)(a:Ty)(l:List V)(p:pW.Dc a r),Dq a r l=some p->KS a r p=l:=by
  intro r;induction r with
  |nil=>
   intro a l p h
   match l with|[]=>exact nomatch (show(none:Option (pW.Dc a []))=some p from h)|[v]=>rw[yj (show s7 a v=some p from h)];rfl|_::_::_=>exact nomatch (show(none:Option (pW.Dc a []))=some p from h)
  |cons c r ih=>
   intro a l p h
   match l with
   |[]=>exact nomatch (show(none:Option (pW.Dc a (c::r)))=some p from h)
   |v::l=>
    have h:F7 (s7 a v) (Dq c r l)=some p:=h;cases hx:s7 a v with
    |none=>rw[hx]at h;exact nomatch h
    |some x=>cases hy:Dq c r l with|none=>rw[hx,hy]at h;exact nomatch h|some y=>rw[hx,hy]at h;obtain rfl:=aa h;show V.x a x::KS c r y=v::l;rw[ih c l y hy,yj hx]
 intro cs l p h
 match cs,l with|[],[]=>rfl|[],_::_=>exact nomatch (show(none:Option (pW []))=some p from h)|a::r,l=>exact key r a l p h
section
variable{h:H2}{n:Nat}{h1:bE}
theorem Bp{a b:List V}{x y:List TV}(ha:lT h a x)(hb:lT h b y):lT h (a++b) (x++y):=by induction a generalizing x with|nil=>rw[lf ha];exact hb|cons v a ih=>obtain⟨c,r,rfl,h2,h3⟩:=gx ha;exact⟨h2,ih h3⟩
theorem wN:∀(v:V)(l:List V)(cs:List C),uS v=some l->eU h v cs->eS n h v->gW h v=true->lT h l (cs.map TV.c)/\(∀w∈l,eS n h w)/\∀w∈l,gW h w=true:=by
 intro v;induction v with
 |ni=>intro l cs hl hc _ _;obtain rfl:=aa hl;obtain rfl:=hc;exact⟨trivial,fun w hw=>by simp at hw,fun w hw=>by simp at hw⟩
 |co a r iha ihr=>
  intro l cs hl hc hk hal;simp only[uS]at hl;obtain⟨h1,hl⟩:=aN hl;simp only[ai,beq_iff_eq,dA]at h1;split at hl
  .rename_i l' hl';obtain rfl:=aa hl;obtain⟨x,y,rfl,h2,h3⟩:=hc;simp only[gW,ai]at hal;obtain⟨q1,q2,q3⟩:=ihr l' y hl' h3 hk.2 hal.2;have hlen:=gZ h2;rw[h1.1]at hlen
   match x,hlen with
   |[c],_=>
    refine⟨⟨cf (dJ h1.2 h2),q1⟩,fun w hw=>?_,fun w hw=>?_⟩
    .rcases aK.1 hw with rfl|hw
     .exact hk.1
     .exact q2 w hw
    .rcases aK.1 hw with rfl|hw
     .exact hal.1
     .exact q3 w hw
  .simp at hl
 |_=>intro l cs hl;simp[uS]at hl
theorem EE:∀(tb:C9)(f:Nat)(vs:List V)(sp:mo)(l:List V)(i:List Nat)(q:List (V×List Nat)),zO h f vs tb=some (sp,l,i,q)->(f,sp)∈tb/\nP h sp.ps vs=some (l,i,q):=by
 intro tb;induction tb with
 |nil=>intro f vs sp l i q hf;simp[zO]at hf
 |cons e tb ih=>
  obtain⟨g,Ru⟩:=e;intro f vs sp l i q hf;simp only[zO]at hf;cases hg:(g==f)with
  |false=>rw[hg,cond_false]at hf;obtain⟨h2,h3⟩:=ih f vs sp l i q hf;exact⟨aB _ h2,h3⟩
  |true=>
   rw[hg,cond_true]at hf;obtain rfl:g=f:=by simpa using hg
   split at hf
   .rename_i l' i' q' ha;simp only[bq,Prod.mk.injEq]at hf;obtain⟨rfl,rfl,rfl,rfl⟩:=hf;exact⟨by simp,ha⟩
   .obtain ⟨h2,h3⟩:=ih g vs sp l i q hf;exact⟨aB _ h2,h3⟩
theorem Cd:∀{l:List Nat},xA l=true->l.Nodup:=by intro l;induction l with|nil=>intro _;exact gM|cons a l ih=>intro hl;simp only[xA,ai,dA,List.contains_eq_mem,decide_eq_false_iff_not]at hl;exact List.nodup_cons.2 ⟨hl.1,ih hl.2⟩
theorem v_.bv:∀{q:List (V×List Nat)}{lent:List (C×List Nat×List Nat)},v_ h n h1 q lent->
  (lent.flatMap (fun(p:C×List Nat×List Nat)=>p.2.1)).Sublist (q.flatMap (·.2))/\(∀j∈lent.flatMap (fun(p:C×List Nat×List Nat)=>p.2.2),j∈q.flatMap (·.2)):=by
 intro q;induction q with
 |nil=>rintro lent rfl;exact⟨bW _,fun j hj=>hj⟩
 |cons p q ih=>
  rintro lent ⟨x,m,rfl,hx,hm⟩;obtain⟨a,b⟩:=ih hm;simp only[bl];refine⟨hx.2.2.2.1.append a,fun j hj=>?_⟩;rcases ao.1 hj with hj|hj
  .exact aC _ (hx.2.2.2.2.2.1 j hj)
  .exact aG _ (b j hj)
theorem Dl(hr:HR n h1 h):∀{q:List (V×List Nat)}{lent:List (C×List Nat×List Nat)},v_ h n h1 q lent->eF h1 lent=true:=by
 intro q;induction q with
 |nil=>rintro lent rfl;rfl
 |cons p q ih=>
  obtain⟨v,i⟩:=p;rintro lent ⟨⟨c,bv,rd⟩,m,rfl,hx,hm⟩;have hw:=ih hm;obtain⟨hc,_,_,_,_,_,_,hsh⟩:=hx;cases c with
  |eZ sz id off len=>
   cases v with
   |so id'=>obtain⟨_,u,s,ver,ho⟩:=hsh;obtain⟨cc,e,hcc⟩:=hc;obtain rfl:=ff.1 e;have e2:=hcc.1 _ (lB (.inl ho));cases s with|nil=>simp[lC]at e2|mk l=>simp only[lC,C.eZ.injEq]at e2;obtain⟨rfl,rfl,rfl,rfl⟩:=e2;exact PO ((hr.ob _ _ ho).2.1.2.2 l rfl) hw
   |sr jd=>obtain⟨_,u,s,ho⟩:=hsh;obtain⟨cc,e,hcc⟩:=hc;obtain rfl:=ff.1 e;have e2:=hcc.1 _ (rC ho);cases s with|nil=>simp[lC]at e2|mk l=>simp only[lC,C.eZ.injEq]at e2;obtain⟨rfl,rfl,rfl,rfl⟩:=e2;have hl:=(hr.ob _ _ ho).2.1.2.2 l rfl;simp only[eF,hl,eL,aQ,beq_self_eq_true,Bool.and_self,Bool.true_and];exact hw
   |nl k=>have:[C.eZ sz id off len]=[Ce k]:=hc
          simp[Ce]at this
   |op a b2 e=>have:[C.eZ sz id off len]=[C.op a (lX b2 e)]:=hc
               simp at this
   |_=>exact hsh.elim
  |_=>exact hw
end
section
variable{P:Program}{h1:bE}{β:Type}{s:S2}{k:V->S2->List Nat->Option β}{z:β}
def Rt(P:Program)(h1:bE)(kk:K)(xs:List TV)(s:S2)(k:V->S2->List Nat->Option β)(z:β):Prop:=∃v s' l,k v s' l=some z/\∃call:Call,mu P call/\∃x u aw m,cA call kk (xs.map some) h1 s.next=some (x,u,aw,m)/\qq s s' h1 x u aw m v l
theorem LP{b:Bool}{f:Nat}{caps:V}{xf:TV}{cs:List V}(hf:fL s.heap (.fn b f caps) xf)(hk:eS s.next s.heap (.fn b f caps))(ha:gW s.heap (.fn b f caps)=true)(hc:uS caps=some cs):
  ∃cc,JR (some xf)=some (f,cc)/\lT s.heap cs (cc.map TV.c)/\(∀w∈cs,eS s.next s.heap w)/\∀w∈cs,gW s.heap w=true:=by
 rcases Dp hf with⟨rfl,ds,hd,rfl⟩|⟨rfl,xs,hd,rfl⟩
 .obtain ⟨a1,a2⟩:=yr (h:=s.heap) caps ha;exact⟨ds.map .d,rfl,wN caps cs _ hc (Ke caps ds hd) (a2 _) a1⟩
 .exact ⟨xs,rfl,wN caps cs _ hc hd hk ha⟩
theorem BK{xs:List V}{vs:List TV}{g:H2}{m:Nat}(h:Af g (cY xs) vs)(hk:∀x∈xs,eS m g x):fL g (Nk xs) (sK vs)/\eS m g (Nk xs):=by
 have hrow:∀(l:List V),(∀x∈l,eS m g x)->eS m g (cY l):=by intro l;induction l with|nil=>intro _;trivial|cons a l ih=>intro hl;exact⟨hl a (by simp),ih fun x hx=>hl x (by simp[hx])⟩
 match xs with|[]=>obtain rfl:=h;exact⟨⟨[],rfl,rfl⟩,trivial⟩|[v]=>obtain⟨x,ys,rfl,h2,h3⟩:=h;obtain rfl:=h3;exact⟨cf h2,hk v (by simp)⟩|a::b::l=>obtain⟨x,ys,rfl,h2,h3⟩:=h;obtain⟨y,zs,rfl,h4,h5⟩:=h3;exact⟨⟨_,rfl,_,_,rfl,h2,_,_,rfl,h4,h5⟩,hrow _ hk⟩
theorem I9:∀(t:Ty)(v:El t),Ef t=true->∀d∈aS t v,∃y,d=.lit y:=by
 intro t;induction t with
 |pr a c iha ihc=>
  intro v h d hd;simp only[Ef,ai]at h;rcases ao.1 (show d∈aS a v.1++aS c v.2 from hd)with hd|hd
  .exact iha _ h.1 d hd
  .exact ihc _ h.2 d hd
 |st t ih=>intro v h d hd;exact ih v h d hd
 |ar n t ih=>intro v h d hd;obtain⟨a,_,ha⟩:=List.mem_flatMap.1 (show d∈v.1.flatMap (aS t)from hd);exact ih a h d ha
 |un=>intro v h d hd;exact absurd (show d∈[]from hd) (by simp)
 |i k=>intro v h d hd;exact⟨_,aq.1 (show d∈[_]from hd)⟩
 |b=>intro v h d hd;exact⟨_,aq.1 (show d∈[_]from hd)⟩
 |s=>intro v h d hd;exact⟨_,aq.1 (show d∈[_]from hd)⟩
 |f k=>intro v h d hd;exact⟨_,aq.1 (show d∈[_]from hd)⟩
 |_=>intro v h;simp[Ef]at h
theorem I8:∀(rs:List Sh)(l:List V)(s:S2)(xs:List V)(l':List V)(s':S2),GR rs l s=some (xs,l',s')->rs.all NI=true->rs.all OL=true->(lQ rs l).all xM=true:=by
 intro rs;induction rs with
 |nil=>intro l s xs l' s' _ _ _;rfl
 |cons c rs ih=>
  intro l s xs l' s' hm hl ho;simp only[ij,ai]at hl ho;simp only[GR]at hm;split at hm
  .rename_i x l1 s1 hm1;split at hm
   .rename_i ys l2 s2 hm2;cases c with
    |x t=>
     have ho1:=ho.1
     match l with
     |.x u v::l=>
      have hm1':=hm1;simp only[qs]at hm1;obtain⟨hc,hm3⟩:=aN hm1;simp only[ai,decide_eq_true_eq]at hc;obtain⟨rfl,_⟩:=hc;obtain⟨rfl,e⟩:=ad (aa hm3);obtain⟨rfl,rfl⟩:=ad e;have hlit:=I9 u v hl.1;simp only[lQ,ft,ij,ai];refine⟨?_,ih _ _ _ _ _ hm2 hl.2 ho.2⟩;cases hs:wv (.x u)with
      |true=>simp only[cond_true,xM,bd];intro t ht;obtain⟨d,hd,rfl⟩:=cN.1 ht;obtain⟨y,rfl⟩:=hlit d hd;rfl
      |false=>
       have h2:xy (.x u)=true:=by simpa[OL,hs]using ho1
       have hlen:=AU hm1' h2;simp only[ft,aQ]at hlen
       match he:aS u v,hlen with|[d],_=>obtain⟨y,rfl⟩:=hlit d (by rw[he];simp);rfl
     |[]|.kb _::_|.nl _::_|.so _::_|.sb _ _ _ _ _::_|.op _ _ _::_|.ep _ _ _ _::_|.pt _ _::_|.fn _ _ _::_|.om _::_|.rc _::_|.tp _::_|.ni::_|.co _ _::_|.fl _::_|.no::_|.gn::_=>simp[qs]at hm1
    |_=>simp[NI]at hl
   .simp at hm
  .simp at hm
theorem Lu{h:H2}:∀(ps:List (Bool×Sh))(vs:List V)(m:List V)(j:List Nat)(q:List (V×List Nat)),nP h ps vs=some (m,j,q)->ps.all (fun p=>!p.1)=true->q=[]:=by
 intro ps;induction ps with
 |nil=>intro vs m j q ha _;cases vs with|nil=>simp[nP]at ha;exact ha.2.2|cons=>simp[nP]at ha
 |cons p ps ih=>
  obtain⟨b,c⟩:=p;intro vs m j q ha hb;simp only[ij,ai,dA]at hb;obtain⟨rfl,hb2⟩:=hb;cases vs with
  |nil=>simp[nP]at ha
  |cons v vs=>
   simp only[nP]at ha;split at ha
   .rename_i m' j' q' hr;simp only[cond_false]at ha;split at ha
    .obtain ⟨_,e⟩:=ad (aa ha);obtain⟨_,rfl⟩:=ad e;exact ih vs m' j' q' hr hb2
    .simp at ha
   .simp at ha
theorem EY{tb:C9}{ro:Bool}{jL:List Bool}{f:V}{vs:List V}{xf:TV}{xs:List TV}(htb:o8 P tb)(hz:wI tb ro jL f vs s k=some z)(hr:HR s.next h1 s.heap)(hf:fL s.heap f xf)(hfk:eS s.next s.heap f)(hfa:gW s.heap f=true)
  (hx:lT s.heap vs xs) (hk:∀w∈vs,eS s.next s.heap w) (ha:∀w∈vs,gW s.heap w=true):Rt P h1 (.call ro jL) (xf::xs) s k z:=by
 cases f with
 |fn b fid caps=>
  simp only[wI]at hz;split at hz
  case h_2=>simp at hz
  rename_i sp pay j q hfs;split at hfs
  case h_2=>simp at hfs
  rename_i cs hcs;obtain⟨hmem,hargs⟩:=EE tb fid _ sp pay j q hfs;obtain⟨hwy,hgood⟩:=htb _ hmem;simp only[KJ,ai]at hwy;obtain⟨⟨⟨w1,w2⟩,w3⟩,w4⟩:=hwy;obtain⟨hc,hz2⟩:=aN hz;simp only[ai,decide_eq_true_eq]at hc;obtain⟨⟨⟨c1,c2⟩,c3⟩,c4⟩:=hc;clear hz;split at hz2
  case h_2=>simp at hz2
  rename_i p hp;obtain⟨zz,hzz,hz3⟩:=qX hz2;obtain⟨rs,os,l,hm,hk3,hg⟩:=F0 sp.al zz hz3 (hgood p zz hzz);rw[po _ _ _ hp]at hg;obtain⟨cc,hfn,d1,d2,d3⟩:=LP hf hfk hfa hcs;rw[c2]at w1;obtain⟨aw,lent,e1,e2,e3,e4⟩:=C5 hr sp.ps (vs++cs) jL pay j q (xs++cc.map TV.c) hargs (Bp hx d1) (fun w hw=>(ao.1 hw).elim (hk w) (d2 w)) (fun w hw=>(ao.1 hw).elim (ha w) (d3 w)) w1 w2;obtain⟨o1,o2⟩:=e4.bv;have hnd:=Cd c3;have hap:∀i∈jU (fun(p:V×List Nat)=>p.2) q,i∉j:=fun i hi=>by simpa using bd.1 c4 i hi
  have hdec:decide ((lent.flatMap (fun(p:C×List Nat×List Nat)=>p.2.1)).Nodup/\(lent.flatMap (fun(p:C×List Nat×List Nat)=>p.2.1)).all (fun i=>!aw.contains i)=true)=true:=by refine decide_eq_true ⟨o1.nodup hnd,bd.2 fun i hi=>?_⟩;have:=hap i (o1.subset hi);simpa using fun hm=>this (e2 i hm).1
  have hwl:=Dl hr e4;have hokR:rs.all OL=true:=bd.1 w3 _ hm;cases ro with
  |true=>
   have hro:sp.ro=true:=by simpa using c1
   rw[hro]at w4;have w5:Nj sp=true:=by simpa using w4
   simp only[Nj,ai]at w5;obtain⟨v1,v2⟩:=w5;have v3:=bd.1 v2 _ hm;simp only[ai,List.isEmpty_iff]at v3;obtain⟨v3,rfl⟩:=v3;have hq:=Lu _ _ _ _ _ hargs v1;subst hq;obtain rfl:lent=[]:=e4;simp only[cond_true]at hk3;obtain⟨s1,bu,b1,b2,b3⟩:=yp hr [] [] [] _ s h1 _ hk3 rfl (au _) hr (iX.refl _ _) gM;obtain⟨rfl,hs1⟩:[]=bu/\s.next=s1.next:=by simpa[eQ,kN]using b2
   split at b1
   case h_2=>simp at b1
   rename_i ys l2 s2 hmk;obtain⟨m1,m2,m3,m4,m5⟩:=zC rs _ s1 ys l2 s2 _ hmk b3.hr hokR;obtain⟨t1,t2⟩:=BK m1 m2;have hlit:=I8 rs _ s1 ys l2 s2 hmk v3 hokR;refine⟨_,_,_,b1,only fid (gC sp.ps pay) (lQ rs (l.take (gE rs).length)) (kN [] (l.drop (gE rs).length)),Fu hg,?_⟩;have hld:tM h1 s.next true aw [] (some (lQ rs (l.take (gE rs).length),kN [] (l.drop (gE rs).length)))=some (sK (gT s.next (lQ rs (l.take (gE rs).length))).1,(gT s.next (lQ rs (l.take (gE rs).length))).2.1,aw,(gT s.next (lQ rs (l.take (gE rs).length))).2.2):=by simp only[tM,hlit,kN,List.isEmpty_nil,and_self,if_true]
   obtain⟨g1,g2⟩:=FU (ro:=true) hfn (mm xs) e1 hwl hdec hld;rw[<-hs1]at t1 m3 m4;refine⟨_,_,_,_,z5 g1 g2,?_⟩;obtain⟨W1,x1,x2,x3⟩:=b3.wo;obtain⟨W2,y1,y2,y3,y4⟩:=m3.wo;refine⟨t1,t2,m3.hr,b3.eC.trans b3.le m3.eC,by rw[m3.dm,b3.dm],by rw[m3.gh,b3.gh],by omega,by have:=b3.le;have:=m3.le;omega,fun i hi=>aC _ (e2 i hi).1,fun i hi h=>(by rw[y4 i fun q=>by have:=(y3 i q).1;have:=b3.le;omega];exact b3.nb i hi h),W2++W1,by rw[y1,x1];simp only[aJ],fun p hp=>aC _ (y2 p hp),fun i hi=>?_⟩;simp only[ao,not_or]at hi;rw[y4 i hi.1,x3 i hi.2]
  |false=>
   simp only[cond_false]at hk3;split at hk3
   case h_2=>simp at hk3
   rename_i s0 hs0;obtain⟨fu,f1,f2,f3,f4,f5,f6,f7,f8,f9⟩:=AL (s0:=s) rfl hr j s0 aw aw hs0 e2 e3;obtain⟨s1,bu,b1,b2,b3⟩:=yp hr os q lent _ s0 (fu++h1) _ hk3 e4 (by omega) (by rw[f6];exact f2) f3 hnd;split at b1
   case h_2=>simp at b1
   rename_i ys l2 s2 hmk;obtain⟨m1,m2,m3,m4,m5⟩:=zC rs _ s1 ys l2 s2 _ hmk b3.hr hokR;obtain⟨t1,t2⟩:=BK m1 m2;rw[f6]at b2;refine⟨_,_,_,b1,only fid (gC sp.ps pay) (lQ rs (l.take (gE rs).length)) (kN os (l.drop (gE rs).length)),Fu hg,?_⟩;have hld:=Rd (rs:=lQ rs (l.take (gE rs).length)) f1 b2;obtain⟨g1,g2⟩:=FU (ro:=false) hfn (mm xs) e1 hwl hdec hld;refine⟨_,_,_,_,z5 g1 g2,?_⟩;obtain⟨W1,x1,x2,x3⟩:=b3.wo;obtain⟨W2,y1,y2,y3,y4⟩:=m3.wo;refine⟨t1,t2,?_,(f3.trans (Nat.le_of_eq f6.symm) b3.eC).trans (by have:=b3.le;omega) m3.eC,by rw[m3.dm,b3.dm,f4],by rw[m3.gh,b3.gh,f5],by omega,by have:=b3.le;have:=m3.le;omega,fun i hi=>?_,fun i hi h=>(by rw[y4 i fun q=>by have:=(y3 i q).1;have:=b3.le;omega];exact b3.nb i (by omega) ((f9 i fun q=>Ez rfl hs0 i q h).trans h)),W2++W1++j,by rw[y1,x1,f7];simp only[aJ],fun p hp=>?_,fun i hi=>?_⟩
   .have:=m3.hr;simpa only[aJ]using this
   .rcases ao.1 hi with hi|hi
    .exact aC _ (e2 i hi).1
    .exact aG _ (o2 i hi)
   .simp only[aJ,ao]at hp|-;rcases hp with hp|hp|hp
    .exact .inl (y2 p hp)
    .exact .inr (.inl (x2 p hp))
    .exact .inr (.inr (f8 p hp))
   .simp only[aJ,ao,not_or]at hi;rw[y4 i hi.1,x3 i hi.2.1,f9 i hi.2.2]
 |_=>simp[wI]at hz
end
def lu:Prop:=∀g v,LK g=some v->∃d,NT g=some d/\∀h n,fL h v (.c (.d d))/\eS n h v/\gW h v=true
theorem uM{n:Nat}{h h':H2}(hs:iX n h h')(hnb:∀i,i<n->fO h i=none->fO h' i=none):∀{v:V},eS n h v->gW h' v=true->gW h v=true:=by
 have key:∀id,id<n->(match fO h' id with|some _=>true|none=>false)=true->(match fO h id with|some _=>true|none=>false)=true:=by intro id hid ha;cases ho:fO h id with|some _=>rfl|none=>rw[hnb id hid ho]at ha;simp at ha
 intro v;induction v with
 |so id=>
  intro hk ha;have hk:id<n:=hk;simp only[gW]at ha|-;split at ha
  .rename_i t s v ho;obtain⟨s0,v0,h1,_⟩:=sh hs hk (.inl ho);rcases h1 with h1|h1<;>rw[h1]
  .rename_i t s v ho;obtain⟨s0,v0,h1,_⟩:=sh hs hk (.inr ho);rcases h1 with h1|h1<;>rw[h1]
  .simp at ha
 |sr id=>
  intro hk ha;have hk:id<n:=hk;simp only[gW]at ha|-;split at ha
  .rename_i t s ln ho;obtain⟨s0,ln0,h1,_⟩:=Ff hs hk ho;rw[h1]
  .simp at ha
 |sb id ver lo t r=>
  rintro⟨hid,hk⟩ ha;obtain⟨hd,ha⟩:=c_.1 ha;have ha:A7 h' id ver=true:=ha;obtain⟨u,s,ho⟩:=kX ha;obtain⟨s0,v0,h3,h4,_,_⟩:=sh hs hid ho;obtain⟨h7,_⟩:=hk u s0 v0 h3;have:v0=ver:=by omega
  subst this;refine c_.2 ⟨hd,?_⟩;rcases h3 with h3|h3<;>rw[h3]<;>simp
 |op id t p=>rintro⟨hid,_⟩ ha;exact key id hid ha
 |ep id m t p=>rintro⟨hid,_⟩ ha;exact key id hid ha
 |om id=>intro hid ha;exact key id hid ha
 |fn z f l ih=>intro hk ha;cases z with|true=>exact ha|false=>exact ih hk ha
 |rc l ih=>intro hk ha;exact ih hk ha
 |tp l ih=>intro hk ha;exact ih hk ha
 |co a r iha ihr=>rintro⟨h1,h2⟩ ha;simp only[gW,ai]at ha|-;exact⟨iha h1 ha.1,ihr h2 ha.2⟩
 |_=>intro _ ha;exact ha
def HU(h:H2):V->List C->Prop
 |.ni,cs=>cs=[]
 |.co a r,cs=>∃c m,cs=c::m/\(gW h a=true->eU h a [c])/\HU h r m
 |_,_=>False
theorem Cy{n:Nat}{h h':H2}(hs:iX n h h')(hnb:∀i,i<n->fO h i=none->fO h' i=none):∀{v:V}{cs:List C},eS n h v->HU h v cs->HU h' v cs:=by intro v;induction v with|co a r _ ihr=>rintro cs ⟨h1,h2⟩ ⟨c,m,rfl,h3,h4⟩;exact⟨c,m,rfl,fun ha=>kW hs h1 (h3 (uM hs hnb h1 ha)),ihr h2 h4⟩|ni=>intro cs _ h;exact h|_=>intro cs _ h;exact h.elim
structure R2(s1:St)(s:S2):Prop where
 dm:∀t v,cg s.dm t=some v->eS s.next s.heap v/\(gW s.heap v=true\/v=.no->∃x,cg s1.dm t=some x/\fL s.heap v x)
 hr:HR s.next s1.heap s.heap
 next:s1.next<=s.next
 gh:HU s.heap s.gh s1.gh/\eS s.next s.heap s.gh
theorem Iv{v:Value}(hp:fo v=true)(ha:∀cs,v≠.agg cs):cv v=some (.c (.d (.lit v))):=by
 unfold cv;split
 .rename_i cs;exact absurd rfl (ha cs)
 .rw [if_pos hp]
theorem FR{c:Value}{v:V}(hc:PN c=some v)(h:H2)(n:Nat):∃x,cv c=some x/\fL h v x/\eS n h v/\gW h v=true:=by
 unfold PN at hc;split at hc
 case h_10=>
  rename_i cs;split at hc
  .rename_i hp;obtain rfl:=aa hc;refine⟨.agg (cs.toList.map fun v=>.d (.lit v)),by simp only[cv];rw[if_pos hp],cf (wR rfl ⟨hp,rfl⟩),trivial,hp⟩
  .simp at hc
 case h_11=>simp at hc
 all_goals
  obtain rfl:=aa hc;exact⟨_,Iv rfl (fun cs e=>by cases e),cf (dJ rfl (by first|rfl|exact⟨rfl,rfl⟩)),trivial,rfl⟩
theorem nk(hg:lu){s1:St}{s:S2}(hr:R2 s1 s){o:Operand}{v:V}(ho:HS s.dm s.heap o=some v):∃x,km s1.dm o=some x/\fL s.heap v x/\eS s.next s.heap v/\gW s.heap v=true:=by
 cases o with
 |tmp t=>
  simp only[HS]at ho;split at ho
  .rename_i w hw;obtain⟨ha,ho⟩:=aN ho;obtain rfl:=aa ho;obtain⟨h3,h4⟩:=hr.dm t w hw;obtain⟨x,h1,h2⟩:=h4 (.inl ha);exact⟨x,h1,h2,h3,ha⟩
  .simp at ho
 |const c=>exact FR ho _ _
 |global g=>obtain⟨d,h1,h2⟩:=hg g v ho;exact⟨_,by simp only[km,h1,Option.map_some],h2 _ _⟩
 |func f=>obtain rfl:=aa ho;exact⟨_,rfl,cf (dJ rfl ⟨[],rfl,rfl⟩),trivial,rfl⟩
structure rh(s1:St)(s:S2)(q:Rg):Prop where
 r:R2 s1 s
 kn:∀g b,NP q.kn g=some b->cg s1.dm g=some (tB b)
 cd:∀t g b v,cg q.cd t=some (g,b,v)->∃c,cg s1.dm g=some (tB c)/\(c=b->∃x,cg s1.dm t=some x/\fL s.heap v x/\eS s.next s.heap v)
theorem M_{a b:Bool}(h:tB a=tB b):a=b:=by simpa[tB]using h
theorem uk(hg:lu){s1:St}{s:S2}{q:Rg}(hr:rh s1 s q){gc:Option (Nat×Bool)}(hgc:∀g b,gc=some (g,b)->cg s1.dm g=some (tB b)){o:Operand}{v:V}(ho:HT s q gc o=some v):
  ∃x,km s1.dm o=some x/\fL s.heap v x/\eS s.next s.heap v/\gW s.heap v=true:=by
 cases o with
 |tmp t=>
  simp only[HT]at ho;split at ho
  .rename_i g b w hw;obtain⟨hc,ho⟩:=aN ho;obtain⟨ha,ho⟩:=aN ho;obtain rfl:=aa ho;obtain⟨c,h1,h2⟩:=hr.cd t g b w hw
   have hb:cg s1.dm g=some (tB b):=by
    simp only[cu,decide_eq_true_eq]at hc;rcases hc with hc|hc
    .exact hgc g b hc
    .exact hr.kn g b hc
   rw[h1]at hb;obtain⟨x,h3,h4,h5⟩:=h2 (M_ (aa hb));exact⟨x,h3,h4,h5,ha⟩
  .exact nk hg hr.r ho
 |const c=>exact nk hg hr.r ho
 |global g=>exact nk hg hr.r ho
 |func f=>exact nk hg hr.r ho
theorem zx(hg:lu){s1:St}{s:S2}{q:Rg}(hr:rh s1 s q){gc:Option (Nat×Bool)}(hgc:∀g b,gc=some (g,b)->cg s1.dm g=some (tB b)):∀(os:List Operand)(vs:List V),D2 s q gc os=some vs->
  ∃xs,os.map (km s1.dm)=xs.map some/\lT s.heap vs xs/\(∀w∈vs,eS s.next s.heap w)/\∀w∈vs,gW s.heap w=true:=by
 intro os;induction os with
 |nil=>intro vs ho;obtain rfl:=aa ho;exact⟨[],rfl,trivial,fun w hw=>by simp at hw,fun w hw=>by simp at hw⟩
 |cons o os ih=>
  intro vs ho;simp only[D2]at ho;split at ho
  .rename_i v l hv hl;obtain rfl:=aa ho;obtain⟨x,h1,h2,h3,h4⟩:=uk hg hr hgc hv;obtain⟨xs,g1,g2,g3,g4⟩:=ih l hl;refine⟨x::xs,by simp[h1,g1],⟨h2,g2⟩,fun w hw=>?_,fun w hw=>?_⟩
   .rcases aK.1 hw with rfl|hw
    .exact h3
    .exact g3 w hw
   .rcases aK.1 hw with rfl|hw
    .exact h4
    .exact g4 w hw
  .simp at ho
theorem J8{h:H2}{t:Ty}{w:V}{b:El t}{x:TV}(hd:kf t=true)(hx:fL h w x)(hc:sE t w=some b):fL h (.x t b) x:=by obtain⟨cs,h1,h2,h3⟩:=nU (ML hc) hx;have e:=iG w false t b cs hc h1;have ha:=vE hc;exact cf ⟨cs,⟨hd,e⟩,fun q=>h2 (ha.trans q),fun q=>h3 (ha.trans q)⟩
theorem Cj{h:H2}{c:Bool}{a b v:V}{x:TV}(hm:Rb c a b=some v)(ha:gW h a=true)(hb:gW h b=true)(h1:c=true->fL h a x)(h2:c=false->fL h b x):fL h v x/\∀n,eS n h v:=by
 unfold Rb at hm;split at hm
 .rename_i p q;obtain rfl:=aa hm;refine⟨?_,fun _=>trivial⟩;cases c with|true=>rw[uY (h1 rfl)];exact xb _|false=>rw[uY (h2 rfl)];exact xb _
 .rename_i t p w;split at hm
  .rename_i y hy;obtain rfl:=aa hm;refine⟨?_,fun _=>trivial⟩;cases c with|true=>exact h1 rfl|false=>exact J8 ha (h2 rfl) hy
  .simp at hm
 .rename_i t p w;split at hm
  .rename_i y hy;obtain rfl:=aa hm;refine⟨?_,fun _=>trivial⟩;cases c with|true=>exact J8 hb (h1 rfl) hy|false=>exact h2 rfl
  .simp at hm
 .simp at hm
theorem wC(hg:lu){e:List (Nat×V)}{h:H2}{o:Operand}{v:V}(ho:HS e h o=some v):gW h v=true:=by
 cases o with
 |tmp t=>
  simp only[HS]at ho;split at ho
  .obtain ⟨ha,ho⟩:=aN ho;obtain rfl:=aa ho;exact ha
  .simp at ho
 |const c=>obtain⟨_,_,_,_,ha⟩:=FR ho h 0;exact ha
 |global g=>obtain⟨d,_,h2⟩:=hg g v ho;exact(h2 h 0).2.2
 |func f=>obtain rfl:=aa ho;rfl
theorem Ft(hg:lu){s:S2}{q:Rg}{gc:Option (Nat×Bool)}{o:Operand}{v:V}(ho:HT s q gc o=some v):gW s.heap v=true:=by
 cases o with
 |tmp t=>
  simp only[HT]at ho;split at ho
  .obtain ⟨hc,ho⟩:=aN ho;obtain⟨ha,ho⟩:=aN ho;obtain rfl:=aa ho;exact ha
  .exact wC hg ho
 |const c=>exact wC (e:=s.dm) (o:=.const c) hg ho
 |global g=>exact wC (e:=s.dm) (o:=.global g) hg ho
 |func f=>exact wC (e:=s.dm) (o:=.func f) hg ho
theorem Gw(hg:lu){s1:St}{s:S2}{q:Rg}(hr:rh s1 s q){gc:Option (Nat×Bool)}(hgc:∀g b,gc=some (g,b)->cg s1.dm g=some (tB b)){os:List Operand}{v:V}(hp:Iw s q gc os=some v)(c:Call)(H:bE)(nx:Nat):
  ∃x,cA c .pick (os.map (km s1.dm)) H nx=some (x,[],[],nx)/\fL s.heap v x/\eS s.next s.heap v:=by
 have one:∀(g a b:Operand)(t:Bool)(w:V),km s1.dm g=some (tB t)->HT s q gc (bif t then a else b)=some w->∃x,cA c .pick ([g,a,b].map (km s1.dm)) H nx=some (x,[],[],nx)/\fL s.heap w x/\eS s.next s.heap w:=by intro g a b t w h1 h2;obtain⟨x,h3,h4,h5,_⟩:=uk hg hr hgc h2;refine⟨x,?_,h4,h5⟩;simp only[aA,aV,h1];cases t with|true=>simp only[cond_true]at h3;rw[h3];rfl|false=>simp only[cond_false]at h3;rw[h3];rfl
 unfold Iw at hp;split at hp
 .rename_i g a b;split at hp
  .rename_i _ _ t hk;exact one _ a b t v (hr.kn g t hk) hp
  .rename_i t hk he;obtain⟨x,h1,h2⟩:=(hr.r.dm g _ he).2 (.inl rfl);rw[uY h2]at h1;exact one _ a b t v h1 hp
  .rename_i t hk he;obtain⟨x,h1,h2⟩:=(hr.r.dm g _ he).2 (.inl rfl)
   .rw [Fc h2]at h1;split at hp
    .rename_i x y hx hy;have ax:=Ft hg hx;have ay:=Ft hg hy;cases t with|true=>obtain⟨z,g1,g2,_⟩:=uk hg hr (gc:=some (g,true)) (fun g' b' e=>by cases e;exact h1) hx;obtain⟨m1,m2⟩:=Cj hp ax ay (fun _=>g2) (fun e=>by cases e);refine⟨z,?_,m1,m2 _⟩;have h1':km s1.dm (.tmp g)=some (tB true):=h1;simp only[aA,aV,h1',g1];rfl|false=>obtain⟨z,g1,g2,_⟩:=uk hg hr (gc:=some (g,false)) (fun g' b' e=>by cases e;exact h1) hy;obtain⟨m1,m2⟩:=Cj hp ax ay (fun e=>by cases e) (fun _=>g2);refine⟨z,?_,m1,m2 _⟩;have h1':km s1.dm (.tmp g)=some (tB false):=h1;simp only[aA,aV,h1',g1];rfl
    .simp at hp
  .simp at hp
 .rename_i t a b;exact one _ a b t v rfl hp
 .simp at hp
theorem Gs{s:S2}{q:Rg}{gc:Option (Nat×Bool)}{os:List Operand}{vs:List V}(ho:D2 s q gc os=some vs)(hp:Lh os=true):∀a k b,vs=[a,.x (.i k) b]->0<b:=by
 intro a k b e;subst e
 match os with
 |[o,.const (.int k' m)]=>
  simp only[Lh,decide_eq_true_eq]at hp;simp only[D2,HT,HS,PN]at ho;split at ho
  .rename_i v l hv hl;simp only[bq]at hl;subst hl;simp only[bq,List.cons.injEq,and_true]at ho;obtain⟨_,e⟩:=ho;cases e;exact hp
  .simp at ho
theorem zg(hg:lu){s1:St}{s:S2}{q:Rg}(hr:rh s1 s q){gc:Option (Nat×Bool)}(hgc:∀g b,gc=some (g,b)->cg s1.dm g=some (tB b)){o:OP}{v:V}{l:List Nat}(ht:KU o s q gc=some (v,l))(c:Call)(nx:Nat):
  ∃x aw,cA c o.o.k (o.o.args.map (km s1.dm)) s1.heap nx=some (x,[],aw,nx)/\fL s.heap v x/\eS s.next s.heap v/\∀i∈aw,i∈l:=by
 unfold KU at ht;cases hpk:Em o.o.k with
 |true=>
  rw[hpk,cond_true]at ht;split at ht
  .rename_i w hw;obtain⟨rfl,rfl⟩:=ad (aa ht);obtain⟨x,h1,h2,h3⟩:=Gw hg hr hgc hw c s1.heap nx;have hk:o.o.k=.pick:=by revert hpk;cases o.o.k<;>simp[Em]
   rw[hk];exact⟨x,[],h1,h2,h3,fun i hi=>by simp at hi⟩
  .simp at ht
 |false=>
  rw[hpk,cond_false]at ht;split at ht
  .rename_i vs hvs;obtain⟨xs,h1,h2,h3,h4⟩:=zx hg hr hgc _ _ hvs;rw[h1];exact F8 hr.r.hr ht h2 h3 h4 (fun hp=>Gs hvs hp) c nx
  .simp at ht
theorem JY{P:Program}{β:Type}{tb:C9}(htb:o8 P tb)(hg:lu){s1:St}{s:S2}{q:Rg}(hr:rh s1 s q){gc:Option (Nat×Bool)}(hgc:∀g b,gc=some (g,b)->cg s1.dm g=some (tB b)){o:OP}{k:V->S2->List Nat->Option β}{z:β}
  (hz:PM tb o s q gc k=some z):∃v s' l,k v s' l=some z/\∃call:Call,mu P call/\∃x u aw m,cA call o.o.k (o.o.args.map (km s1.dm)) s1.heap s.next=some (x,u,aw,m)/\qq s s' s1.heap x u aw m v l:=by
 unfold PM at hz;split at hz
 .rename_i v l ht;obtain⟨x,aw,h1,h2,h3,h4⟩:=zg hg hr hgc ht pL s.next;exact⟨v,s,l,hz,pL,p_,x,[],aw,s.next,h1,qq.pure hr.r.hr h2 h3 h4⟩
 .split at hz
  .rename_i vs hvs;obtain⟨xs,h1,h2,h3,h4⟩:=zx hg hr hgc _ _ hvs;rw[h1];split at hz
   .rename_i ro jL f vs' hk;obtain⟨y,ys,rfl,h5,h6⟩:=gx h2;obtain⟨v,s',l,e1,call,e2,x,u,aw,m,e3,e4⟩:=EY (P:=P) htb hz hr.r.hr h5 (h3 _ (by simp)) (h4 _ (by simp)) h6 (fun w hw=>h3 w (by simp[hw])) (fun w hw=>h4 w (by simp[hw]));rw[hk];exact⟨v,s',l,e1,call,e2,x,u,aw,m,e3,e4⟩
   .obtain ⟨v,s',l,e1,e2⟩:=DY hz hr.r.hr h2 h3 h4;obtain⟨x,u,aw,m,e3,e4⟩:=e2 pL;exact⟨v,s',l,e1,pL,p_,x,u,aw,m,e3,e4⟩
  .simp at hz
end Go.Ev
