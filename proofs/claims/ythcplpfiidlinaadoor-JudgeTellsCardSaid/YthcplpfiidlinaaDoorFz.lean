/- Calls: the arguments, as they are laid. Conditions: as stated. -/
import Derived.Test.YthcplpfiidlinaaDoorFq
open Bool renaming and_eq_true->ai,and_eq_true_iff->dm,not_eq_true'->dP,or_eq_true->cA
open List renaming all_cons->iJ,all_eq_true->bq,append_assoc->aH,append_nil->bR,cons_append->bd,drop_zero->ck,flatMap->kq,flatMap_cons->bf,headD_cons->cg,length_map->aV,map_cons->aD,map_nil->bh,mem_append->au,mem_append_left->aG,mem_append_right->aI,mem_cons->aQ,mem_cons_of_mem->aF,mem_map->c9,mem_singleton->av,nil_sublist->j5,nodup_append->cE,nodup_nil->iX,singleton_append->bn,singleton_inj->fr
open List.Sublist renaming refl->ci
open Nat renaming le_refl->aw,le_succ->bQ,lt_succ_self->bl,zero_le->cO
open Option.some renaming inj->aa,injEq->bE
open Prod.mk renaming inj->ad
namespace Go.Ev
def NY(k:Nat):D:=match DJ k with|.d x=>x|_=>default
theorem O1(k:Nat):DJ k=.d (NY k):=rfl
def rG:Sh->List V->List D×List V
 |.x _,.x u v::l=>(a_ u v,l)
 |.pt _,.x u v::l=>([.pt (a_ u v)],l)
 |.nl k,l=>([NY k],l)
 |.fn f c,l=>([.fn f (rG c l).1],(rG c l).2)
 |.pr a c,l=>((rG a l).1++(rG c (rG a l).2).1,(rG c (rG a l).2).2)
 |_,l=>([],l)
def HS(t:Ty):Sl (El t)->Option (List (List D))
 |.nil=>none
 |.mk l=>some (l.map (a_ t))
def yy(t:Ty):Sl (Sl (El t))->T
 |.nil=>.d (.lit (.slice none 0 0))
 |.mk l=>.zZ (ce t) (l.map (HS t))
theorem HK{t:Ty}(l:List (Sl (El t))):uU (l.map (pn t))=some (l.map (HS t)):=by induction l with|nil=>rfl|cons s l ih=>simp only[aD,uU,ih];cases s<;>rfl
theorem yA{t:Ty}(l:List (Sl (El t))):(l.map (HS t)).map mY=l.map (pn t):=by rw[List.map_map];exact List.map_congr_left fun s _=>by cases s<;>rfl
def fE:Sh->List V->List T×List V
 |.x _,.x u v::l=>((a_ u v).map .d,l)
 |.os _,.x (.sl u) v::l=>([P8 (ce u) (a_ u) v],l)
 |.rw _,.x (.sl (.sl u)) v::l=>([yy u v],l)
 |.pb _ c,l=>([.pt (fE c l).1],(fE c l).2)
 |.nl k,l=>([.d (NY k)],l)
 |.st c,l=>fE c l
 |.pr a c,l=>((fE a l).1++(fE c (fE a l).2).1,(fE c (fE a l).2).2)
 |.gn,l=>([.wR],l)
 |_,l=>([],l)
def xR:Sh->Bool
 |.x t=>nB t
 |.st _=>true
 |_=>false
def gR:List (Bool×Sh)->List V->List A
 |[],_=>[]
 |(true,c)::r,l=>.mt ((fE c l).1.headD default)::gR r (fE c l).2
 |(false,c)::r,l=>(bif xR c then .agg (rG c l).1 else .d ((rG c l).1.headD default))::gR r (rG c l).2
def mO:List Sh->List V->List R
 |[],_=>[]
 |c::r,l=>(bif xR c then .agg (fE c l).1 else .c ((fE c l).1.headD default))::mO r (fE c l).2
def lB:List Sh->List V->List T
 |[],_=>[]
 |c::r,l=>(fE c l).1.headD default::lB r (fE c l).2
def wT:Sh->Nat
 |.x t=>ce t+1
 |.pt t=>ce t+3
 |.fn _ c=>wT c+2
 |.pr a c=>wT a+wT c
 |.ni=>0
 |_=>1
section
variable{h:H2}{n:Nat}{h1:bM}
def A8:C->Prop
 |.d _|.fh _ _ _ _=>True
 |_=>False
theorem ET{c:C}(hc:A8 c)(k j:Nat):dW h1 k c=dW h1 j c:=by cases c with|d x=>rw[qy,qy]|fh a b e f=>cases k<;>cases j<;>simp only[dW]|_=>exact hc.elim
theorem yh:∀{cs:List C}{ds:List D}{aB:List Nat}{k:Nat},(∀c∈cs,A8 c)->dQ h1 cs=some (ds,aB)->cs.length<k->fU h1 k cs=some (ds,aB):=by
 intro cs;induction cs with
 |nil=>intro ds aB k _ h _;simp only[dQ]at h;rw[<-h];cases k<;>rfl
 |cons c cs ih=>
  intro ds aB k hf h hk;cases k with
  |zero=>simp at hk
  |succ k=>
   simp only[dQ]at h;split at h
   .rename_i x a xs b hx hxs;simp only[fU];rw[ET (hf c (by simp)) k 300,hx,ih (fun c hc=>hf c (by simp[hc])) hxs (by simpa using hk)];exact h
   .simp at h
theorem BD:∀{x y:List C}{dx dy:List D}{ix iy:List Nat}{k:Nat},fU h1 k x=some (dx,ix)->fU h1 (k-x.length) y=some (dy,iy)->x.length<=k->fU h1 k (x++y)=some (dx++dy,ix++iy):=by
 intro x;induction x with
 |nil=>
  intro y dx dy ix iy k hx hy _;have:fU h1 k []=some ([],[]):=by cases k<;>rfl
  rw[this]at hx;obtain⟨rfl,rfl⟩:=ad (aa hx);simpa using hy
 |cons c x ih=>
  intro y dx dy ix iy k hx hy hk;cases k with
  |zero=>simp at hk
  |succ k=>
   simp only[fU]at hx;split at hx
   .rename_i p a q b hp hq;obtain⟨rfl,rfl⟩:=ad (aa hx);simp only[bd,fU,hp];rw[ih hq (by simpa using hy) (by simpa using hk)];simp
   .simp at hx
theorem D7{α:Type}{sz id:Nat}{enc:α->List D}{s:Sl α}:A8 (mx sz enc id s):=by cases s<;>trivial
theorem Lk{id lo:Nat}{t:Ty}{r:Sl (El t)}:A8 (yD id lo t r):=by cases r<;>trivial
theorem D3:∀(v w:V)(l:List Nat)(cs:List C),jg h v=some (w,l)->e9 h v cs->ir h v=true->∀c∈cs,A8 c:=by
 have fl:∀(ds:List D),∀c∈ds.map C.d,A8 c:=fun ds c hc=>by obtain⟨d,_,rfl⟩:=c9.1 hc;trivial
 intro v;induction v with
 |so id=>
  intro w l cs hf hv _ c hc;simp only[jg]at hf;split at hf
  .rename_i t s l' hs;obtain⟨ver,ho,_⟩:=uV hs;obtain⟨c',rfl,hc'⟩:=hv;obtain rfl:=av.1 hc;rw[hc'.1 _ (mw ho)];exact D7
  .simp at hf
 |sr id=>
  intro w l cs hf hv _ c hc;simp only[jg]at hf;split at hf
  .rename_i t s ho;obtain⟨c',rfl,hc'⟩:=hv;obtain rfl:=av.1 hc;rw[hc'.1 _ (tj ho)];exact D7
  .simp at hf
 |sb id ver lo t r=>intro w l cs hf hv ha c hc;obtain⟨c',rfl,hc'⟩:=hv;obtain rfl:=av.1 hc;rw[hc'.1 (dm.1 ha).2];exact Lk
 |rc r ih=>
  intro w l cs hf hv ha;simp only[jg]at hf;split at hf
  .rename_i w' l' hw;exact ih w' l' cs hw hv ha
  .simp at hf
 |co a r iha ihr=>
  intro w l cs hf hv ha c hc;simp only[jg]at hf;split at hf
  .rename_i x l1 y l2 hx hy;obtain⟨ca,cr,rfl,h2,h3⟩:=hv;simp only[ir,ai]at ha;rcases au.1 hc with hc|hc
   .exact iha x l1 ca hx h2 ha.1 c hc
   .exact ihr y l2 cr hy h3 ha.2 c hc
  .simp at hf
 |x t v=>intro w l cs hf hv _;obtain⟨_,rfl⟩:=hv;exact fl _
 |kb c=>intro w l cs hf hv _;obtain rfl:=hv;exact fl [_]
 |nl k=>intro w l cs hf hv _;obtain rfl:=hv;exact fl [_]
 |fl q=>intro w l cs hf hv _;obtain⟨_,rfl⟩:=hv;rw[B2];exact fl _
 |ni=>intro w l cs hf hv _;obtain rfl:=hv;exact fl []
 |pt t v=>intro w l cs hf hv _;obtain⟨_,rfl⟩:=hv;exact fl [_]
 |fn z f q ih=>intro w l cs hf hv _;cases z with|true=>obtain⟨ds,_,rfl⟩:=hv;exact fl [_]|false=>simp[jg]at hf
 |_=>intro w l cs hf hv;simp[jg]at hf
theorem LD:∀(v:V)(ds:List D),rf v=some ds->e9 h v (ds.map .d):=by
 intro v;induction v with
 |co a r iha ihr=>
  intro ds hd;simp only[rf]at hd;split at hd
  .rename_i x y hx hy;obtain rfl:=aa hd;exact⟨_,_,by simp,iha x hx,ihr y hy⟩
  .simp at hd
 |pt t v=>
  intro ds hd;simp only[rf]at hd;split at hd
  .rename_i ht;obtain rfl:=aa hd;exact⟨ht,rfl⟩
  .simp at hd
 |ni=>intro ds hd;obtain rfl:[]=ds:=by simpa[rf]using hd
      rfl
 |_=>intro ds hd;simp[rf]at hd
theorem zT:∀(v:V),Ct v=true->ir h v=true/\∀n,eY n h v:=by intro v;induction v with|co a r iha ihr=>intro hv;simp only[Ct,ai]at hv;exact⟨by simp only[ir,(iha hv.1).1,(ihr hv.2).1,Bool.and_self],fun n=>⟨(iha hv.1).2 n,(ihr hv.2).2 n⟩⟩|pt t v=>intro hv;exact⟨hv,fun _=>trivial⟩|ni=>intro _;exact⟨rfl,fun _=>trivial⟩|_=>intro hv;simp[Ct]at hv
theorem Jh(hr:HR n h1 h):∀(c:Sh)(v:V)(l:List V)(i:List Nat)(cs:List C),ph h c v=some (l,i)->e9 h v cs->eY n h v->ir h v=true->
  ∃ds aB,(∀k,wT c<=k->fU h1 k cs=some (ds,aB))/\(∀r,rG c (l++r)=(ds,r))/\(∀j∈aB,j∈i/\¬mS h j)/\(∀j∈i,j∈aB\/mS h j)/\cs.length<=wT c:=by
 intro c;induction c with
 |x t=>
  intro v l i cs ha hv hk hal;simp only[ph]at ha;split at ha
  .rename_i w l' hw;split at ha
   .rename_i y hy;obtain⟨rfl,rfl⟩:=ad (aa ha);obtain⟨ds,aB,f1,f2,f3,f4,_⟩:=tL hr v w l' cs hw hv hk hal;have e3:=p8 (iW w false t y _ hy f2);subst e3;have hl:cs.length=ce t:=by rw[<-uO f1,bV]
    exact⟨_,aB,fun k hk=>yh (D3 v w l' cs hw hv hal) f1 (by simp only[wT]at hk;omega),fun r=>rfl,f3,f4,by simp only[wT];omega⟩
   .simp at ha
  .simp at ha
 |pt t=>
  intro v l i cs ha hv hk hal;cases v with
  |pt u v=>
   simp only[ph]at ha;split at ha
   .rename_i y hy;obtain⟨rfl,rfl⟩:=ad (aa ha);obtain⟨e,_⟩:=w6 hy;obtain⟨_,rfl⟩:=hv;refine⟨[.pt (a_ t y)],[],fun k hk=>?_,fun r=>rfl,fun j hj=>by simp at hj,fun j hj=>by simp at hj,by simp[wT]⟩;rw[<-e];exact xU (h1:=h1) [.pt (a_ t y)] k (by simp only[wT]at hk;simp;omega)
   .simp at ha
  |op id u p=>
   cases p with
   |cons=>simp[ph]at ha
   |nil=>
    obtain rfl:=hv;have e0:mW u []=0:=by cases u<;>rfl
    rw[e0];simp only[ph]at ha;split at ha
    .rename_i w c ho;obtain⟨hc,ha⟩:=aR ha;simp only[ai,decide_eq_true_eq]at hc;split at ha
     .rename_i c' l' hw;split at ha
      .rename_i y hy;obtain⟨rfl,rfl⟩:=ad (aa ha);obtain⟨_,⟨cb,e1,e2,e3⟩,e4⟩:=hr.ob id _ ho;obtain⟨ds,aB,f1,f2,f3,f4,_⟩:=tL hr c c' l' cb hw e2 e4 hc.2;have e5:=p8 (iW c' false t y _ hy f2);subst e5;have hl:cb.length=ce t:=by rw[<-uO f1,bV]
       have hnil:¬mS h id:=by
        rintro(⟨u',v',e⟩|⟨u',ln',e⟩)
        .rcases e with e|e<;>rw[ho]at e<;>simp at e
        .rw [ho]at e;cases e
       refine⟨[.pt (a_ t y)],id::aB,fun k hk=>?_,fun r=>rfl,fun j hj=>?_,fun j hj=>?_,by simp[wT]⟩
       .simp only[wT]at hk;obtain⟨k,rfl⟩:∃k',k=k'+2:=⟨k-2,by omega⟩
        have hv:fU h1 k cb=some (a_ t y,aB):=yh (D3 c c' l' cb hw e2 hc.2) f1 (by omega);simp only[fU,dW,e1,hv,cO,if_true,ck,bR]
       .rcases aQ.1 hj with rfl|hj
        .exact ⟨by simp,hnil⟩
        .exact ⟨by simp[(f3 j hj).1],(f3 j hj).2⟩
       .rcases aQ.1 hj with rfl|hj
        .exact .inl (by simp)
        .exact (f4 j hj).imp (fun q=>by simp[q]) (fun q=>q)
      .simp at ha
     .simp at ha
    .rename_i w v ho;obtain⟨hc,ha⟩:=aR ha;split at ha
     .rename_i y hy;obtain⟨rfl,rfl⟩:=ad (aa ha);obtain⟨e,_⟩:=w6 hy;obtain⟨_,⟨_,e1⟩,_⟩:=hr.ob id _ ho
      have hnil:¬mS h id:=by
       rintro(⟨u',v',e⟩|⟨u',ln',e⟩)
       .rcases e with e|e<;>rw[ho]at e<;>simp at e
       .rw [ho]at e;cases e
      refine⟨[.pt (a_ t y)],[id],fun k hk=>?_,fun r=>rfl,fun j hj=>?_,fun j hj=>.inl hj,by simp[wT]⟩
      .simp only[wT]at hk;obtain⟨k,rfl⟩:∃k',k=k'+2:=⟨k-2,by omega⟩
       simp only[fU,dW,e1,cO,if_true,ck,bR,e]
      .obtain rfl:=av.1 hj;exact⟨by simp,hnil⟩
     .simp at ha
    .simp at ha
  |ep id m u p=>
   cases p with
   |cons=>simp[ph]at ha
   |nil=>
    obtain rfl:=hv;have e0:mW u []=0:=by cases u<;>rfl
    rw[e0]
    have key:∀(w:Ty)(s:Sl (El w))(ver:Nat),(fO h id=some (.ar w s ver)\/fO h id=some (.im w s ver))->(bif decide (w=u)then(match gH w t (gt s.l m)with|some y=>some ([V.x t y],[id])|none=>none)else none)=some (l,i)->
      ∃ds aB,(∀k,wT (.pt t)<=k->fU h1 k [.ep id m 0]=some (ds,aB))/\(∀r,rG (.pt t) (l++r)=(ds,r))/\(∀j∈aB,j∈i/\¬mS h j)/\(∀j∈i,j∈aB\/mS h j)/\[C.ep id m 0].length<=wT (.pt t):=by
     intro w s ver ho ha;obtain⟨_,ha⟩:=aR ha;split at ha
     .rename_i y hy;obtain⟨rfl,rfl⟩:=ad (aa ha);obtain⟨e,_⟩:=w6 hy;have hm:=hk.2.2.1 w s ver ho;cases s with
      |nil=>simp[Sl.l]at hm
      |mk q=>
       refine⟨[.pt (a_ t y)],[id],fun k hk=>?_,fun r=>rfl,fun j hj=>?_,fun j hj=>.inl hj,by simp[wT]⟩
       .simp only[wT]at hk;obtain⟨k,rfl⟩:∃k',k=k'+1:=⟨k-1,by omega⟩
        have hg:(q.map (a_ w))[m]?=some (a_ w (gt q m)):=B5 hm;have e2:a_ w (gt q m)=a_ t y:=e.symm;rcases ho with ho|ho
        .have e1:=(hr.ob id _ ho).2.1.2.2 q rfl;have:dW h1 k (.ep id m 0)=some (.pt (a_ t y),[id]):=by cases k<;>simp only[dW,e1,hg,cO,if_true,ck,e2]
         simp only[fU,this,bR]
        .have e1:=(hr.ob id _ ho).2.1.2.2 q rfl;have:dW h1 k (.ep id m 0)=some (.pt (a_ t y),[id]):=by cases k<;>simp only[dW,e1,hg,cO,if_true,ck,e2]
         simp only[fU,this,bR]
       .obtain rfl:=av.1 hj;exact⟨by simp,yY ho⟩
     .simp at ha
    simp only[ph]at ha;split at ha
    .rename_i ho;exact key _ _ _ (.inl ho) ha
    .rename_i ho;exact key _ _ _ (.inr ho) ha
    .simp at ha
  |_=>simp[ph]at ha
 |nl k=>
  intro v l i cs ha hv hk hal;cases v with
  |nl k'=>
   simp only[ph]at ha;obtain⟨hc,ha2⟩:=aR ha;obtain rfl:k=k':=by simpa using hc
   obtain⟨rfl,rfl⟩:=ad (aa ha2);obtain rfl:=hv;refine⟨[NY k],[],fun j hj=>?_,fun r=>rfl,fun j hj=>by simp at hj,fun j hj=>by simp at hj,by simp[wT]⟩;simp only[wT]at hj;obtain⟨j,rfl⟩:∃k',j=k'+1:=⟨j-1,by omega⟩
   have e:fU h1 j []=some ([],[]):=by cases j<;>rfl
   rw[O1];simp only[fU,qy,e,bR]
  |_=>simp[ph]at ha
 |fn f c ih=>
  intro v l i cs ha hv hk hal;cases v with
  |fn z f' q=>
   simp only[ph]at ha;obtain⟨hc,ha2⟩:=aR ha;obtain rfl:f=f':=by simpa using hc
   cases z with
   |true=>
    obtain⟨ds0,hd,rfl⟩:=hv;have hal':Ct q=true:=hal;obtain⟨a1,a2⟩:=zT (h:=h) q hal';obtain⟨ds,aB,g1,g2,g3,g4,g5⟩:=ih q l i (ds0.map .d) ha2 (LD q ds0 hd) (a2 n) a1;have e:=g1 (wT c+ds0.length+1) (by omega);rw[xU ds0 _ (by omega)]at e;obtain⟨rfl,rfl⟩:=ad (aa e);refine⟨[.fn f ds0],[],fun k hk=>?_,fun r=>?_,g3,g4,by simp[wT]⟩
    .simp only[wT]at hk;exact xU (h1:=h1) [.fn f ds0] k (by simp;omega)
    .simp only[rG,g2 r]
   |false=>
    obtain⟨xs,h2,rfl⟩:=hv;obtain⟨ds,aB,g1,g2,g3,g4,g5⟩:=ih q l i xs ha2 h2 hk hal;refine⟨[.fn f ds],aB,fun k hk=>?_,fun r=>?_,g3,g4,by simp[wT]⟩
    .simp only[wT]at hk;obtain⟨k,rfl⟩:∃k',k=k'+2:=⟨k-2,by omega⟩
     simp only[fU,dW,g1 k (by omega),bR]
    .simp only[rG,g2 r]
  |_=>simp[ph]at ha
 |pr a c iha ihc=>
  intro v l i cs ha hv hk hal;cases v with
  |co x r=>
   simp only[ph]at ha;split at ha
   .rename_i l1 i1 l2 i2 h2 h3;obtain⟨rfl,rfl⟩:=ad (aa ha);obtain⟨cx,cr,rfl,h4,h5⟩:=hv;simp only[ir,ai]at hal;obtain⟨d1,j1,a1,a2,a3,a4,a5⟩:=iha x l1 i1 cx h2 h4 hk.1 hal.1;obtain⟨d2,j2,b1,b2,b3,b4,b5⟩:=ihc r l2 i2 cr h3 h5 hk.2 hal.2;refine⟨d1++d2,j1++j2,fun k hk=>?_,fun r=>?_,fun j hj=>?_,fun j hj=>?_,by simp[wT];omega⟩
    .simp only[wT]at hk;exact BD (a1 k (by omega)) (b1 _ (by omega)) (by omega)
    .simp only[rG,aH,a2,b2]
    .rcases au.1 hj with hj|hj
     .exact ⟨aG _ (a3 j hj).1,(a3 j hj).2⟩
     .exact ⟨aI _ (b3 j hj).1,(b3 j hj).2⟩
    .rcases au.1 hj with hj|hj
     .exact (a4 j hj).imp (aG _) id
     .exact (b4 j hj).imp (aI _) id
   .simp at ha
  |_=>simp[ph]at ha
 |ni=>intro v l i cs ha hv hk hal;cases v with|ni=>obtain⟨rfl,rfl⟩:=ad (aa ha);obtain rfl:=hv;exact⟨[],[],fun k _=>(by cases k<;>rfl),fun r=>rfl,fun j hj=>by simp at hj,fun j hj=>by simp at hj,by simp⟩|_=>simp[ph]at ha
 |_=>intro v l i cs ha;simp[ph]at ha
end
def rh:Sh->Nat
 |.x t=>ce t+1
 |.pb _ c=>rh c+2
 |.st c=>rh c
 |.pr a c=>rh a+rh c
 |.ni=>0
 |_=>1
section
variable{h:H2}{n:Nat}{h1:bM}
theorem vF(k:Nat)(x:D):eK h1 k (.d x)=some (.d x,[],[]):=by cases k<;>rfl
theorem pM(k:Nat):iF h1 k []=some ([],[],[]):=by cases k<;>rfl
theorem qH:∀(ds:List D)(k:Nat),ds.length<=k->iF h1 k (ds.map .d)=some (ds.map .d,[],[]):=by
 intro ds;induction ds with
 |nil=>intro k _;exact pM k
 |cons d ds ih=>intro k hk;cases k with|zero=>simp at hk|succ k=>simp only[aD,iF,vF,ih k (by simpa using hk),bR]
theorem vE:∀{x y:List C}{tx ty:List T}{ox oy ix iy:List Nat}{k:Nat},iF h1 k x=some (tx,ox,ix)->iF h1 (k-x.length) y=some (ty,oy,iy)->x.length<=k->iF h1 k (x++y)=some (tx++ty,ox++oy,ix++iy):=by
 intro x;induction x with
 |nil=>intro y tx ty ox oy ix iy k hx hy _;rw[pM]at hx;obtain⟨rfl,e⟩:=ad (aa hx);obtain⟨rfl,rfl⟩:=ad e;simpa using hy
 |cons c x ih=>
  intro y tx ty ox oy ix iy k hx hy hk;cases k with
  |zero=>simp at hk
  |succ k=>
   simp only[iF]at hx;split at hx
   .rename_i p a i q b j hp hq;obtain⟨rfl,e⟩:=ad (aa hx);obtain⟨rfl,rfl⟩:=ad e;simp only[bd,iF,hp];rw[ih hq (by simpa using hy) (by simpa using hk)];simp
   .simp at hx
theorem vD{c:C}{t:T}{bG rd:List Nat}{k:Nat}(hc:eK h1 k c=some (t,bG,rd)):iF h1 (k+1) [c]=some ([t],bG,rd):=by simp only[iF,hc,pM,bR]
theorem Su{t:Ty}{id k:Nat}{q:List (Sl (El t))}(h:aC h1 id=some (.nst (ce t) (eR t q none))):eK h1 k (mx 1 (a_ (.sl t)) id (Sl.mk q:Sl (Sl (El t))))=some (.zZ (ce t) (q.map (HS t)),[id],[id]):=by simp only[mx,eR]at h|-;cases k<;>simp only[eK,h,aV,and_self,if_true,HK]
theorem xa(hr:HR n h1 h):∀(c:Sh)(ln:Bool)(v:V)(l:List V)(i:List Nat)(cs:List C),ed h c ln v=some (l,i)->e9 h v cs->eY n h v->
  ∃ts bG rd,(∀k,rh c<=k->iF h1 k cs=some (ts,bG,rd))/\(∀r,fE c (l++r)=(ts,r))/\bG.Sublist i/\(∀j∈i,j∈bG\/mS h j)/\(∀j∈rd,j∈i)/\cs.length<=rh c/\(∀j∈i,j<n):=by
 intro c;induction c with
 |x t=>
  intro ln v l i cs ha hv hk;cases ln with
  |true=>simp[ed]at ha
  |false=>
   simp only[ed]at ha;split at ha
   .rename_i y hy;obtain⟨rfl,rfl⟩:=ad (aa ha);have e:=iW v false t y cs hy hv;subst e;exact⟨_,[],[],fun k hk=>qH _ k (by rw[bV];simp only[rh]at hk;omega),fun r=>rfl,ci _,fun j hj=>by simp at hj,fun j hj=>hj,by simp[rh,bV],fun j hj=>by simp at hj⟩
   .simp at ha
 |os t=>
  intro ln v l i cs ha hv hk;cases ln with
  |true=>simp[ed]at ha
  |false=>
   cases v with
   |so id=>
    simp only[ed]at ha;split at ha
    .rename_i u s ver ho;split at ha
     .rename_i s' hs;obtain⟨rfl,rfl⟩:=ad (aa ha);obtain⟨e,rfl⟩:=dq hs;cases e;obtain⟨c,rfl,hc⟩:=hv;rw[hc.1 _ (mw (.inl ho))];cases s with
      |nil=>exact⟨[.d (.lit (.slice none 0 0))],[],[],fun k hk=>qH [.lit (.slice none 0 0)] k (by simpa[rh]using hk),fun r=>rfl,j5 _,fun j hj=>by obtain rfl:=av.1 hj;exact .inr (.inl ⟨_,_,.inl ho⟩),fun j hj=>by simp at hj,by simp[rh],fun j hj=>by obtain rfl:=av.1 hj;exact hk⟩
      |mk q=>
       have e1:=(hr.ob id _ ho).2.1.2.2 q rfl;refine⟨[.sl (ce t) (q.map (a_ t))],[id],[id],fun k hk=>?_,fun r=>rfl,ci _,fun j hj=>.inl hj,fun j hj=>hj,by simp[rh],fun j hj=>by obtain rfl:=av.1 hj;exact hk⟩;obtain⟨k,rfl⟩:∃k',k=k'+1:=⟨k-1,by simp only[rh]at hk;omega⟩
       exact vD (TO e1)
     .simp at ha
    .simp at ha
   |nl k=>cases k with|zero=>obtain⟨rfl,rfl⟩:=ad (aa ha);obtain rfl:=hv;exact⟨[.d (.lit (.slice none 0 0))],[],[],fun k hk=>qH [.lit (.slice none 0 0)] k (by simpa[rh]using hk),fun r=>rfl,ci _,fun j hj=>by simp at hj,fun j hj=>hj,by simp[rh],fun j hj=>by simp at hj⟩|succ k=>simp[ed]at ha
   |_=>simp[ed]at ha
 |rw t=>
  intro ln v l i cs ha hv hk;cases ln with
  |true=>simp[ed]at ha
  |false=>
   cases v with
   |sr id=>
    simp only[ed]at ha;split at ha
    .rename_i u s ho;split at ha
     .rename_i s' hs;obtain⟨rfl,rfl⟩:=ad (aa ha);obtain⟨e,rfl⟩:=dq hs;cases e;obtain⟨c,rfl,hc⟩:=hv;rw[hc.1 _ (tj ho)];cases s with
      |nil=>exact⟨[.d (.lit (.slice none 0 0))],[],[],fun k hk=>qH [.lit (.slice none 0 0)] k (by simpa[rh]using hk),fun r=>rfl,j5 _,fun j hj=>by obtain rfl:=av.1 hj;exact .inr (.inr ⟨_,_,ho⟩),fun j hj=>by simp at hj,by simp[rh],fun j hj=>by obtain rfl:=av.1 hj;exact hk⟩
      |mk q=>
       have e1:=(hr.ob id _ ho).2.1.2.2 q rfl;refine⟨[.zZ (ce t) (q.map (HS t))],[id],[id],fun k hk=>?_,fun r=>rfl,ci _,fun j hj=>.inl hj,fun j hj=>hj,by simp[rh],fun j hj=>by obtain rfl:=av.1 hj;exact hk⟩;obtain⟨k,rfl⟩:∃k',k=k'+1:=⟨k-1,by simp only[rh]at hk;omega⟩
       exact vD (Su e1)
     .simp at ha
    .simp at ha
   |nl k=>cases k with|zero=>obtain⟨rfl,rfl⟩:=ad (aa ha);obtain rfl:=hv;exact⟨[.d (.lit (.slice none 0 0))],[],[],fun k hk=>qH [.lit (.slice none 0 0)] k (by simpa[rh]using hk),fun r=>rfl,ci _,fun j hj=>by simp at hj,fun j hj=>hj,by simp[rh],fun j hj=>by simp at hj⟩|succ k=>simp[ed]at ha
   |_=>simp[ed]at ha
 |pb t c ih=>
  intro ln v l i cs ha hv hk;cases ln with
  |true=>simp[ed]at ha
  |false=>
   cases v with
   |op id u p=>
    cases p with
    |cons=>simp[ed]at ha
    |nil=>
     simp only[ed]at ha;split at ha
     .rename_i w q ho;obtain⟨hc,ha2⟩:=aR ha;split at ha2
      .rename_i l' i' ha3;obtain⟨rfl,rfl⟩:=ad (aa ha2);obtain rfl:=hv;have e0:mW u []=0:=by cases u<;>rfl
       rw[e0];obtain⟨_,⟨cb,e1,e2,e3⟩,e4⟩:=hr.ob id _ ho;obtain⟨ts,bG,rd,g1,g2,g3,g4,g5,g6,g7⟩:=ih false q l' i' cb ha3 e2 e4;refine⟨[.pt ts],id::bG,id::rd,fun k hk=>?_,fun r=>by simp only[fE,g2 r],g3.cons_cons _,fun j hj=>?_,fun j hj=>?_,by simp[rh],fun j hj=>?_⟩
       .obtain ⟨k,rfl⟩:∃k',k=k'+2:=⟨k-2,by simp only[rh]at hk;omega⟩
        refine vD ?_;simp only[eK,e1,g1 k (by simp only[rh]at hk;omega)]
       .rcases aQ.1 hj with rfl|hj
        .exact .inl (by simp)
        .exact (g4 j hj).imp (fun q=>by simp[q]) (fun q=>q)
       .rcases aQ.1 hj with rfl|hj
        .simp
        .simp [g5 j hj]
       .rcases aQ.1 hj with rfl|hj
        .exact hk.1
        .exact g7 j hj
      .simp at ha2
     .simp at ha
   |_=>simp[ed]at ha
 |nl k=>
  intro ln v l i cs ha hv hk;cases ln with
  |true=>simp[ed]at ha
  |false=>
   cases v with
   |nl k'=>
    simp only[ed]at ha;obtain⟨hc,ha2⟩:=aR ha;obtain rfl:k=k':=by simpa using hc
    obtain⟨rfl,rfl⟩:=ad (aa ha2);obtain rfl:=hv;exact⟨[.d (NY k)],[],[],fun j hj=>qH [NY k] j (by simpa[rh]using hj),fun r=>rfl,ci _,fun j hj=>by simp at hj,fun j hj=>hj,by simp[rh],fun j hj=>by simp at hj⟩
   |_=>simp[ed]at ha
 |st c ih=>
  intro ln v l i cs ha hv hk;cases ln with
  |true=>simp[ed]at ha
  |false=>
   cases v with
   |rc q=>exact ih true q l i cs ha hv hk
   |x t v=>cases t with|st u=>obtain⟨hd,rfl⟩:=hv;exact ih true (HF u v) l i _ ha (BF u v hd) (EZ u v)|_=>simp[ed]at ha
   |_=>simp[ed]at ha
 |pr a c iha ihc=>
  intro ln v l i cs ha hv hk;cases ln with
  |false=>simp[ed]at ha
  |true=>
   cases v with
   |co x r=>
    simp only[ed]at ha;split at ha
    .rename_i l1 i1 l2 i2 h2 h3;obtain⟨rfl,rfl⟩:=ad (aa ha);obtain⟨cx,cr,rfl,h4,h5⟩:=hv
     have hA:∃ts bG rd,(∀k,rh a<=k->iF h1 k cx=some (ts,bG,rd))/\(∀r,fE a (l1++r)=(ts,r))/\bG.Sublist i1/\(∀j∈i1,j∈bG\/mS h j)/\(∀j∈rd,j∈i1)/\cx.length<=rh a/\(∀j∈i1,j<n):=by
      split at h2
      .rename_i t u v;unfold O4 at h2;split at h2
       .obtain ⟨rfl,rfl⟩:=ad (aa h2);obtain⟨_,rfl⟩:=h4;exact⟨[.d (.lit (.slice none 0 0))],[],[],fun k hk=>qH [.lit (.slice none 0 0)] k (by simpa[rh]using hk),fun r=>rfl,ci _,fun j hj=>by simp at hj,fun j hj=>hj,by simp[rh,a_],fun j hj=>by simp at hj⟩
       .simp at h2
      .exact iha false x l1 i1 cx h2 h4 hk.1
     obtain⟨t1,o1,r1,a1,a2,a3,a4,a5,a6,a7⟩:=hA;obtain⟨t2,o2,r2,b1,b2,b3,b4,b5,b6,b7⟩:=ihc true r l2 i2 cr h3 h5 hk.2;refine⟨t1++t2,o1++o2,r1++r2,fun k hk=>?_,fun r=>?_,a3.append b3,fun j hj=>?_,fun j hj=>?_,by simp[rh];omega,fun j hj=>?_⟩
     .simp only[rh]at hk;exact vE (a1 k (by omega)) (b1 _ (by omega)) (by omega)
     .simp only[fE,aH,a2,b2]
     .rcases au.1 hj with hj|hj
      .exact (a4 j hj).imp (aG _) (fun q=>q)
      .exact (b4 j hj).imp (aI _) (fun q=>q)
     .rcases au.1 hj with hj|hj
      .exact aG _ (a5 j hj)
      .exact aI _ (b5 j hj)
     .rcases au.1 hj with hj|hj
      .exact a7 j hj
      .exact b7 j hj
    .simp at ha
   |_=>simp[ed]at ha
 |ni=>
  intro ln v l i cs ha hv hk;cases ln with
  |false=>cases v<;>simp[ed]at ha
  |true=>cases v with|ni=>obtain⟨rfl,rfl⟩:=ad (aa ha);obtain rfl:=hv;exact⟨[],[],[],fun k _=>pM k,fun r=>rfl,ci _,fun j hj=>by simp at hj,fun j hj=>hj,by simp,fun j hj=>by simp at hj⟩|_=>simp[ed]at ha
 |_=>intro ln v l i cs ha;cases ln<;>simp[ed]at ha
theorem EU:∀(a b:List T)(m:Nat),iC m (a++b)=((iC m a).1++(iC (iC m a).2.2 b).1,(iC m a).2.1++(iC (iC m a).2.2 b).2.1,(iC (iC m a).2.2 b).2.2):=by intro a;induction a with|nil=>intro b m;simp[iC]|cons t a ih=>intro b m;simp only[bd,iC,ih,aH]
theorem rT(t:T)(m:Nat):iC m [t]=([(kY m t).1],(kY m t).2.1,(kY m t).2.2):=by simp[iC]
theorem Qi:∀(ds:List D)(m:Nat),iC m (ds.map T.d)=(ds.map .d,[],m+ds.length):=by intro ds;induction ds with|nil=>intro m;rfl|cons d ds ih=>intro m;simp only[aD,iC,kY,ih,List.nil_append,List.length_cons];congr 2;omega
theorem wI{a b:fA}(hd:∀p∈a,∀q∈b,p.1≠q.1)(i:Nat):aC (a++b++h1) i=aC (b++(a++h1)) i:=by rw[gF,gF,gF,<-ew,mH hd]
structure Mk(s s':S2)(h1:bM)(u:fA):Prop where
 hr:HR s'.next (u++h1) s'.heap
 eh:jp s.next s.heap s'.heap
 dH:s'.dH=s.dH
 gh:s'.gh=s.gh
 le:s.next<=s'.next
 FZ:∀p∈u,s.next<=p.1/\p.1<s'.next
 wo:∃W,s'.wo=W++s.wo/\(∀p∈u,p.1∈W)/\(∀i∈W,s.next<=i/\i<s'.next)/\∀i,i∉W->fO s'.heap i=fO s.heap i
theorem Mk.skip{s:S2}{m:Nat}(hr:HR s.next h1 s.heap)(hm:s.next<=m):Mk s {s with next:=m} h1 []:=⟨hr.mono hm,jp.refl _ _,rfl,rfl,hm,fun p hp=>by simp at hp,[],rfl,fun p hp=>by simp at hp,fun i hi=>by simp at hi,fun _ _=>rfl⟩
theorem Mk.seq{s s1 s2:S2}{u1 u2:fA}(a:Mk s s1 h1 u1)(b:Mk s1 s2 (u1++h1) u2):Mk s s2 h1 (u1++u2):=by
 obtain⟨a3,a4,a5,a6,a7,a8,W,v1,v2,v3,v4⟩:=a;obtain⟨b3,b4,b5,b6,b7,b8,X,x1,x2,x3,x4⟩:=b;refine⟨?_,a4.trans a7 b4,b5.trans a5,b6.trans a6,by omega,fun p hp=>?_,X++W,by rw[x1,v1,aH],fun p hp=>?_,fun i hi=>?_,fun i hi=>?_⟩
 .exact b3.ext fun i=>wI (fun p hp q hq e=>by have:=(a8 p hp).2;have:=(b8 q hq).1;omega) i
 .rcases au.1 hp with hp|hp
  .have:=a8 p hp;omega
  .have:=b8 p hp;omega
 .rcases au.1 hp with hp|hp
  .exact aI _ (v2 p hp)
  .exact aG _ (x2 p hp)
 .rcases au.1 hi with hi|hi
  .have:=x3 i hi;omega
  .have:=v3 i hi;omega
 .rw [x4 i fun q=>hi (aG _ q),v4 i fun q=>hi (aI _ q)]
end
section
variable{h:H2}{n:Nat}
theorem jp.bx{id:Nat}{t:Ty}{c:V}:jp n h ((id,some (.bx t c))::h):=⟨fun i o hi ho=>by
 rw[c8]at ho;split at ho
 .obtain rfl:=aa ho;exact .inr rfl
 .exact .inl ⟨o,ho,te.refl _⟩⟩
theorem Mk.one{s:S2}{h1:bM}{o:O}{b:Option Ob}{u:fA}(hr:HR s.next h1 s.heap)(hu:u=[(s.next,b)]\/(u=[]/\∀b',vK ((s.next,some o)::s.heap) o b'))(hb:u=[(s.next,b)]->vK ((s.next,some o)::s.heap) o b)
  (hko:CD (s.next+1) ((s.next,some o)::s.heap) o):Mk s (jy s o) h1 u:=by
 have hd:=rL.new (x:=.iP []) (v:=.no) (aB:=[]) (l:=[]) (m:=s.next+1) hr hu hb hko rfl trivial (fun i hi=>by simp at hi) (aw _);refine⟨hd.hr,hd.eh,rfl,rfl,bQ _,fun p hp=>?_,[s.next],rfl,fun p hp=>?_,fun i hi=>?_,fun i hi=>?_⟩
 .rcases hu with rfl|⟨rfl,_⟩
  .obtain rfl:=av.1 hp;exact⟨aw _,bl _⟩
  .simp at hp
 .rcases hu with rfl|⟨rfl,_⟩
  .obtain rfl:=av.1 hp;simp
  .simp at hp
 .obtain rfl:=av.1 hi;exact⟨aw _,bl _⟩
 .simp only[jy];rw[c8,if_neg fun e=>hi (by simp[e])]
theorem vO:∀(c:Sh)(ln:Bool)(l:List V)(s:S2)(w:V)(l':List V)(s':S2)(h1:bM),rN c ln l s=some (w,l',s')->HR s.next h1 s.heap->
  e9 s'.heap w (iC s.next (fE c l).1).1/\eY s'.next s'.heap w/\Mk s s' h1 (iC s.next (fE c l).1).2.1/\s'.next=(iC s.next (fE c l).1).2.2/\l'=(fE c l).2/\(ln=false->tW w=xR c):=by
 intro c;induction c with
 |x t=>
  intro ln l s w l' s' h1 hm hr;cases ln with
  |true=>simp[rN]at hm
  |false=>match l with|.x u v::l=>simp only[rN]at hm;obtain⟨hc,hm2⟩:=aR hm;simp only[ai,decide_eq_true_eq]at hc;obtain⟨rfl,hd⟩:=hc;obtain⟨rfl,e⟩:=ad (aa hm2);obtain⟨rfl,rfl⟩:=ad e;simp only[fE,Qi,bV];exact⟨⟨hd,rfl⟩,trivial,Mk.skip hr (Nat.le_add_right _ _),trivial,trivial,fun _=>rfl⟩|[]|.kb _::_|.nl _::_|.so _::_|.sr _::_|.sb _ _ _ _ _::_|.op _ _ _::_|.ep _ _ _ _::_|.pt _ _::_|.fn _ _ _::_|.om _::_|.rc _::_|.tp _::_|.ni::_|.co _ _::_|.fl _::_|.no::_|.gn::_=>simp[rN]at hm
 |os t=>
  intro ln l s w l' s' h1 hm hr;cases ln with
  |true=>simp[rN]at hm
  |false=>
   match l with
   |.x (.sl u) v::l=>
    simp only[rN]at hm;obtain⟨hc,hm2⟩:=aR hm;simp only[ai,decide_eq_true_eq]at hc;obtain⟨rfl,hd⟩:=hc;obtain⟨d1,d2⟩:=qL hd;obtain⟨rfl,e⟩:=ad (aa hm2);obtain⟨rfl,rfl⟩:=ad e;simp only[fE,rT];have hv:e9 (jy s (.ar u v 0)).heap (.so s.next) [mx (ce u) (a_ u) s.next v]:=⟨_,rfl,fun c' hc'=>by simp only[jy,uj]at hc';exact aa hc',BJ⟩
    cases v with|nil=>exact⟨hv,bl _,Mk.one (b:=none) hr (.inr ⟨rfl,fun b'=>⟨d1,d2,fun l e=>by cases e⟩⟩) (fun e=>by cases e) trivial,by first|rfl|trivial,by first|rfl|trivial,fun _=>rfl⟩|mk q=>exact⟨hv,bl _,Mk.one (b:=some (.aP (ce u) (q.map (a_ u)))) hr (.inl rfl) (fun _=>⟨d1,d2,fun l e=>by cases e;rfl⟩) trivial,by first|rfl|trivial,by first|rfl|trivial,fun _=>rfl⟩
   |[]|.kb _::_|.nl _::_|.so _::_|.sr _::_|.sb _ _ _ _ _::_|.op _ _ _::_|.ep _ _ _ _::_|.pt _ _::_|.fn _ _ _::_|.om _::_|.rc _::_|.tp _::_|.ni::_|.co _ _::_|.fl _::_|.no::_|.gn::_=>simp[rN]at hm
   |.x (.i _) _::_|.x .b _::_|.x .s _::_|.x (.f _) _::_|.x (.mp _ _) _::_|.x .un _::_|.x (.pr _ _) _::_|.x (.st _) _::_|.x (.ar _ _) _::_|.x (.o _) _::_=>simp[rN]at hm
 |rw t=>
  intro ln l s w l' s' h1 hm hr;cases ln with
  |true=>simp[rN]at hm
  |false=>
   match l with
   |.x (.sl (.sl u)) v::l=>
    simp only[rN]at hm;obtain⟨hc,hm2⟩:=aR hm;simp only[ai,decide_eq_true_eq]at hc;obtain⟨rfl,hd⟩:=hc;obtain⟨d1,d2⟩:=qL hd;obtain⟨rfl,e⟩:=ad (aa hm2);obtain⟨rfl,rfl⟩:=ad e;simp only[fE,rT];have hv:e9 (jy s (.rw u v none)).heap (.sr s.next) [mx 1 (a_ (.sl u)) s.next (v:Sl (Sl (El u)))]:=⟨_,rfl,fun c' hc'=>by simp only[jy,uj]at hc';exact aa hc',BJ⟩
    cases v with
    |nil=>exact⟨hv,bl _,Mk.one (b:=none) hr (.inr ⟨rfl,fun b'=>⟨d1,d2,fun l e=>by cases e⟩⟩) (fun e=>by cases e) trivial,by first|rfl|trivial,by first|rfl|trivial,fun _=>rfl⟩
    |mk q=>
     have e1:(kY s.next (yy u (.mk q))).1=mx 1 (a_ (.sl u)) s.next (Sl.mk q:Sl (Sl (El u))):=by simp[yy,kY,mx]
     have e2:(kY s.next (yy u (.mk q))).2.1=[(s.next,some (.nst (ce u) (eR u q none)))]:=by simp only[yy,kY,yA,eR]
     rw[e1,e2];exact⟨hv,bl _,Mk.one (b:=some (.nst (ce u) (eR u q none))) hr (.inl rfl) (fun _=>⟨d1,d2,fun l e=>by cases e;rfl⟩) trivial,by first|rfl|trivial,by first|rfl|trivial,fun _=>rfl⟩
   |[]|.kb _::_|.nl _::_|.so _::_|.sr _::_|.sb _ _ _ _ _::_|.op _ _ _::_|.ep _ _ _ _::_|.pt _ _::_|.fn _ _ _::_|.om _::_|.rc _::_|.tp _::_|.ni::_|.co _ _::_|.fl _::_|.no::_|.gn::_=>simp[rN]at hm
   |.x (.sl (.i _)) _::_|.x (.sl .b) _::_|.x (.sl .s) _::_|.x (.sl (.f _)) _::_|.x (.sl (.mp _ _)) _::_|.x (.sl .un) _::_|.x (.sl (.pr _ _)) _::_|.x (.sl (.st _)) _::_|.x (.sl (.ar _ _)) _::_|.x (.sl (.o _)) _::_|.x (.i _) _::_|.x .b _::_|.x .s _::_|.x (.f _) _::_|.x (.mp _ _) _::_|.x .un _::_|.x (.pr _ _) _::_|.x (.st _) _::_|.x (.ar _ _) _::_|.x (.o _) _::_=>simp[rN]at hm
 |pb t c ih=>
  intro ln l s w l' s' h1 hm hr;cases ln with
  |true=>simp[rN]at hm
  |false=>
   simp only[rN]at hm;split at hm
   .rename_i w0 l0 s2 hm0;obtain⟨hf,hm2⟩:=aR hm;obtain⟨rfl,e⟩:=ad (aa hm2);obtain⟨rfl,rfl⟩:=ad e;obtain⟨q1,q2,q3,q4,q5,_⟩:=ih false l {s with next:=s.next+1} w0 l0 s2 h1 hm0 (hr.mono (bQ _));simp only[fE,rT,kY];obtain⟨a3,a4,a5,a6,a7,a8,W,v1,v2,v3,v4⟩:=q3;simp only at a4 a5 a6 a7 a8 v1 v3 v4;have hlt:s.next<s2.next:=by omega
    have hin:∀i,i∉W->fO s2.heap i=fO s.heap i:=v4;refine⟨?_,⟨hlt,by cases t<;>trivial⟩,⟨?_,?_,a5,a6,by show s.next<=s2.next;omega,fun p hp=>?_,s.next::W,by simp only[eB,v1];rfl,fun p hp=>?_,fun i hi=>?_,fun i hi=>?_⟩,q4,q5,fun _=>rfl⟩
    .show [_]=[_]
     have e0:mW t []=0:=by cases t<;>rfl
     rw[e0]
    .refine HR.CL (u:=[(s.next,some (.box _))]) a3 (aw _) hlt jp.bx (fun i hi=>?_) fun o' ho'=>?_
     .rw [bn,dF,if_neg fun e=>hi e.symm]
     .obtain rfl:=aa ho';refine⟨?_,gK (aw _) jp.bx q2⟩;rw[bn,dF,if_pos rfl];exact⟨_,rfl,lK jp.bx q2 q1,hf⟩
    .exact jp.trans (n':=s2.next) (by omega) (⟨fun i o hi ho=>a4.ob i o (by omega) ho⟩:jp s.next s.heap s2.heap) jp.bx
    .simp only[eB];rcases aQ.1 hp with rfl|hp
     .exact ⟨aw _,hlt⟩
     .have:=a8 p hp;omega
    .rcases aQ.1 hp with rfl|hp
     .simp
     .exact aF _ (v2 p hp)
    .simp only[eB];rcases aQ.1 hi with rfl|hi
     .exact ⟨aw _,hlt⟩
     .have:=v3 i hi;omega
    .simp only[eB];rw[c8,if_neg fun e=>hi (by simp[e]),hin i fun q=>hi (by simp[q])]
   .simp at hm
 |nl k=>intro ln l s w l' s' h1 hm hr;cases ln with|true=>simp[rN]at hm|false=>simp only[rN]at hm;obtain⟨rfl,e⟩:=ad (aa hm);obtain⟨rfl,rfl⟩:=ad e;simp only[fE,rT,kY];exact⟨rfl,trivial,Mk.skip hr (bQ _),by first|rfl|trivial,by first|rfl|trivial,fun _=>rfl⟩
 |st c ih=>
  intro ln l s w l' s' h1 hm hr;cases ln with
  |true=>simp[rN]at hm
  |false=>
   simp only[rN]at hm;split at hm
   .rename_i w0 l0 s2 hm0;obtain⟨rfl,e⟩:=ad (aa hm);obtain⟨rfl,rfl⟩:=ad e;obtain⟨q1,q2,q3,q4,q5,_⟩:=ih true l s w0 l0 s2 h1 hm0 hr;exact⟨q1,q2,q3,q4,q5,fun _=>rfl⟩
   .simp at hm
 |pr a c iha ihc=>
  intro ln l s w l' s' h1 hm hr;cases ln with
  |false=>simp[rN]at hm
  |true=>
   simp only[rN]at hm;split at hm
   .rename_i x l1 s1 hm1;split at hm
    .rename_i r l2 s2 hm2;obtain⟨rfl,e⟩:=ad (aa hm);obtain⟨rfl,rfl⟩:=ad e;obtain⟨q1,q2,q3,q4,q5,_⟩:=iha false l s x l1 s1 h1 hm1 hr;subst q5;obtain⟨p1,p2,p3,p4,p5,_⟩:=ihc true _ s1 r l2 s2 _ hm2 q3.hr;subst p5;simp only[fE,EU];rw[q4]at p1 p3 p4;exact⟨⟨_,_,rfl,lK p3.eh q2 q1,p1⟩,⟨gK p3.le p3.eh q2,p2⟩,Mk.seq q3 p3,p4,by first|rfl|trivial,fun e=>by cases e⟩
    .simp at hm
   .simp at hm
 |ni=>intro ln l s w l' s' h1 hm hr;cases ln with|false=>simp[rN]at hm|true=>simp only[rN]at hm;obtain⟨rfl,e⟩:=ad (aa hm);obtain⟨rfl,rfl⟩:=ad e;exact⟨rfl,trivial,Mk.skip hr (aw _),rfl,rfl,fun e=>by cases e⟩
 |_=>intro ln l s w l' s' h1 hm;cases ln<;>simp[rN]at hm
end
def MW:List (Bool×Sh)->List Bool->Bool
 |[],_=>true
 |(b,_)::r,ms=>decide (ms.headD false=b)&&MW r ms.tail
def vR:Sh->Bool
 |.os _|.rw _|.pb _ _|.nl _=>true
 |_=>false
def yV:Sh->Bool
 |.x t=>ce t==1
 |.os _|.rw _|.pb _ _|.nl _|.pt _|.fn _ _=>true
 |_=>false
def BU:List (Bool×Sh)->Bool
 |[]=>true
 |(b,c)::r=>(bif b then vR c&&Nat.ble (rh c) 300 else(xR c||yV c)&&Nat.ble (wT c) 300)&&BU r
section
variable{h:H2}{n:Nat}{h1:bM}
def Oi(h:H2)(n:Nat)(h1:bM)(p:V×List Nat)(q:C×List Nat×List Nat):Prop:=
 e9 h p.1 [q.1]/\eY n h p.1/\(∃t,eK h1 300 q.1=some (t,q.2.1,q.2.2))/\q.2.1.Sublist p.2/\(∀j∈p.2,j∈q.2.1\/mS h j)/\(∀j∈q.2.2,j∈p.2)/\(∀j∈p.2,j<n)/\
  match p.1 with|.so id=>p.2=[id]/\∃u s ver,fO h id=some (.ar u s ver)|.sr id=>p.2=[id]/\∃u s,fO h id=some (.rw u s none)|.op id _ _=>id∈p.2/\¬mS h id|.nl _=>True|_=>False
def xF(h:H2)(n:Nat)(h1:bM):List (V×List Nat)->List (C×List Nat×List Nat)->Prop
 |[],l=>l=[]
 |p::r,l=>∃q m,l=q::m/\Oi h n h1 p q/\xF h n h1 r m
theorem Lc{v w:V}{l:List Nat}(hf:jg h v=some (w,l)):tW v=tW w:=by
 cases v with
 |so id=>
  simp only[jg]at hf;split at hf
  .obtain ⟨rfl,_⟩:=ad (aa hf);rfl
  .simp at hf
 |sr id=>
  simp only[jg]at hf;split at hf
  .obtain ⟨rfl,_⟩:=ad (aa hf);rfl
  .simp at hf
 |sb id ver lo t r=>simp only[jg,ur]at hf;obtain⟨rfl,_⟩:=ad (aa hf);rfl
 |rc l=>
  simp only[jg]at hf;split at hf
  .obtain ⟨rfl,_⟩:=ad (aa hf);rfl
  .simp at hf
 |co a r=>
  simp only[jg]at hf;split at hf
  .obtain ⟨rfl,_⟩:=ad (aa hf);rfl
  .simp at hf
 |fn z f l=>cases z<;>simp[jg]at hf;rw[<-hf.1]
 |_=>first|(simp[jg]at hf;done)|(simp[jg]at hf;rw[<-hf.1])
theorem KE{c:Sh}{v:V}{l:List V}{i:List Nat}{x:TV}(hr:HR n h1 h)(hl:vR c=true)(hf:rh c<=300)(ha:ed h c false v=some (l,i))(hx:fX h v x)(hk:eY n h v):
  ∃cc t bG rd,x=.c cc/\eK h1 300 cc=some (t,bG,rd)/\(∀r,fE c (l++r)=([t],r))/\Oi h n h1 (v,i) (cc,bG,rd):=by
 have hp:MJ v/\tW v=false:=by
  cases c<;>simp[vR]at hl
  all_goals(cases v<;>first|exact⟨trivial,rfl⟩|(simp[ed]at ha;done))
 obtain⟨cc,rfl,hc⟩:=jk (pm hp.1 hx) hp.2;obtain⟨ts,bG,rd,g1,g2,g3,g4,g5,g6,g7⟩:=xa hr c false v l i [cc] ha hc hk;have e:=g1 301 (by omega);simp only[iF,pM]at e;split at e
 .rename_i t a b x' b' j hp1 hp2;obtain⟨rfl,e2⟩:=ad (aa hp2);obtain⟨rfl,rfl⟩:=ad e2;clear e2;clear hp2;obtain⟨rfl,e3⟩:=ad (aa e);obtain⟨rfl,rfl⟩:=ad e3;refine⟨cc,t,_,_,rfl,by simpa using hp1,g2,hc,hk,⟨t,by simpa using hp1⟩,g3,g4,g5,g7,?_⟩;cases v with
  |so id=>
   cases c with
   |os t=>
    simp only[ed]at ha;split at ha
    .rename_i u s ver ho;split at ha
     .obtain ⟨_,rfl⟩:=ad (aa ha);exact⟨rfl,u,s,ver,ho⟩
     .simp at ha
    .simp at ha
   |_=>simp[ed,ic,vR]at ha hl
  |sr id=>
   cases c with
   |rw t=>
    simp only[ed]at ha;split at ha
    .rename_i u s ho;split at ha
     .obtain ⟨_,rfl⟩:=ad (aa ha);exact⟨rfl,u,s,ho⟩
     .simp at ha
    .simp at ha
   |_=>simp[ed,ic,vR]at ha hl
  |op id u p=>
   cases c with
   |pb t c=>
    cases p with
    |cons=>simp[ed]at ha
    |nil=>
     simp only[ed]at ha;split at ha
     .rename_i w q ho;obtain⟨_,ha2⟩:=aR ha;split at ha2
      .obtain ⟨_,rfl⟩:=ad (aa ha2);refine⟨by simp,?_⟩;rintro(⟨u',v',e⟩|⟨u',ln',e⟩)
       .rcases e with e|e<;>rw[ho]at e<;>simp at e
       .rw [ho]at e;cases e
      .simp at ha2
     .simp at ha
   |_=>simp[ed,ic,vR]at ha hl
  |nl k=>trivial
  |_=>(cases c<;>simp[vR]at hl<;>simp[ed]at ha)
 .simp at e
theorem EA(hr:HR n h1 h):∀(ps:List (Bool×Sh))(vs:List V)(ms:List Bool)(m:List V)(j:List Nat)(q:List (V×List Nat))(xs:List TV),pi h ps vs=some (m,j,q)->mR h vs xs->(∀w∈vs,eY n h w)->(∀w∈vs,ir h w=true)->MW ps ms=true->BU ps=true->
  ∃aB lent,gu h1 xs ms=some (gR ps m,aB,lent)/\(∀i∈aB,i∈j/\¬mS h i)/\(∀i∈j,i∈aB\/mS h i)/\xF h n h1 q lent:=by
 intro ps;induction ps with
 |nil=>intro vs ms m j q xs ha hx hk hal hm hp;cases vs with|cons=>simp[pi]at ha|nil=>obtain⟨rfl,e⟩:=ad (aa ha);obtain⟨rfl,rfl⟩:=ad e;obtain rfl:=lV hx;exact⟨[],[],rfl,fun i hi=>by simp at hi,fun i hi=>by simp at hi,rfl⟩
 |cons p ps ih=>
  obtain⟨b,c⟩:=p;intro vs ms m j q xs ha hx hk hal hm hp;cases vs with
  |nil=>simp[pi]at ha
  |cons v vs=>
   obtain⟨x,ys,rfl,hx1,hx2⟩:=gL hx;simp only[MW,ai,decide_eq_true_eq]at hm;simp only[BU,ai]at hp;simp only[pi]at ha;split at ha
   .rename_i m' j' q' hrest;obtain⟨aB,lent,e1,e2,e3,e4⟩:=ih vs ms.tail m' j' q' ys hrest hx2 (fun w hw=>hk w (by simp[hw])) (fun w hw=>hal w (by simp[hw])) hm.2 hp.2;cases b with
    |true=>
     simp only[cond_true]at ha;split at ha
     .rename_i l i ha2;obtain⟨rfl,e⟩:=ad (aa ha);obtain⟨rfl,rfl⟩:=ad e;have hp1:=hp.1;simp only[cond_true,ai,Nat.ble_eq]at hp1;obtain⟨cc,t,bG,rd,rfl,f1,f2,f3⟩:=KE hr hp1.1 hp1.2 ha2 hx1 (hk v (by simp));refine⟨aB,(cc,bG,rd)::lent,?_,e2,e3,⟨_,_,rfl,f3,e4⟩⟩;rw[QN f1 hm.1 e1];simp only[gR,f2,cg]
     .simp at ha
    |false=>
     simp only[cond_false]at ha;split at ha
     .rename_i l i ha2;obtain⟨rfl,e⟩:=ad (aa ha);obtain⟨rfl,rfl⟩:=ad e;have hp1:=hp.1;simp only[cond_false,ai,Nat.ble_eq,cA]at hp1;have hpl:MJ v:=by cases v<;>first|trivial|(cases c<;>simp[ph,jg]at ha2)
      cases hs:xR c with
      |true=>
       cases c with
       |x t=>
        simp only[ph]at ha2;split at ha2
        .rename_i w l' hw;split at ha2
         .rename_i y hy;obtain⟨rfl,rfl⟩:=ad (aa ha2);obtain⟨cs,hc,h3,h4⟩:=pm hpl hx1;obtain⟨ds,is,f1,f2,f3,f4,_⟩:=tL hr v w l' cs hw hc (hk v (by simp)) (hal v (by simp));have e5:=p8 (iW w false t y _ hy f2);subst e5;refine⟨is++aB,lent,?_,fun k hk=>?_,fun k hk=>?_,e4⟩
          .rw [h3 (((Lc hw).trans (wY hy)).trans hs),Py f1 hm.1 e1];simp only[gR,hs,cond_true];rfl
          .rcases au.1 hk with hk|hk
           .exact ⟨aG _ (f3 k hk).1,(f3 k hk).2⟩
           .exact ⟨aI _ (e2 k hk).1,(e2 k hk).2⟩
          .rcases au.1 hk with hk|hk
           .exact (f4 k hk).imp (aG _) (fun q=>q)
           .exact (e3 k hk).imp (aI _) (fun q=>q)
         .simp at ha2
        .simp at ha2
       |st c=>simp[ph]at ha2
       |_=>simp[xR]at hs
      |false=>
       have hag:tW v=false:=by
        cases c with
        |x t=>
         simp only[ph]at ha2;split at ha2
         .rename_i w l' hw;split at ha2
          .rename_i y hy;exact((Lc hw).trans (wY hy)).trans hs
          .simp at ha2
         .simp at ha2
        |_=>cases v<;>first|rfl|(simp[ph]at ha2;done)|(simp[xR]at hs;done)|(simp[yV,xR]at hp1;done)
       obtain⟨cs,hc,h3,h4⟩:=pm hpl hx1;obtain⟨ds,is,g1,g2,g3,g4,g5⟩:=Jh hr c v l i cs ha2 hc (hk v (by simp)) (hal v (by simp));refine⟨is++aB,lent,?_,fun k hk=>?_,fun k hk=>?_,e4⟩
       .obtain ⟨cc,rfl,rfl⟩:=h4 hag;have e:=g1 301 (by omega);have en:fU h1 300 []=some ([],[]):=rfl;simp only[fU,en]at e;split at e
        .rename_i d a xs' b' hv1 hv2;obtain⟨rfl,rfl⟩:=ad (aa hv2);clear hv2;obtain⟨rfl,rfl⟩:=ad (aa e);rw[TD hv1 hm.1 e1];simp only[gR,hs,g2,cond_false,cg,bR]
        .simp at e
       .rcases au.1 hk with hk|hk
        .exact ⟨aG _ (g3 k hk).1,(g3 k hk).2⟩
        .exact ⟨aI _ (e2 k hk).1,(e2 k hk).2⟩
       .rcases au.1 hk with hk|hk
        .exact (g4 k hk).imp (aG _) (fun q=>q)
        .exact (e3 k hk).imp (aI _) (fun q=>q)
     .simp at ha
   .simp at ha
end
section
variable{h:H2}{n:Nat}{h1:bM}
structure Bk(s s':S2)(h1:bM)(I:List Nat)(u:fA):Prop where
 hr:HR s'.next (u++h1) s'.heap
 eh:jp s.next s.heap s'.heap
 dH:s'.dH=s.dH
 gh:s'.gh=s.gh
 le:s.next<=s'.next
 FZ:∀p∈u,p.1∈I\/(s.next<=p.1/\p.1<s'.next)
 nb:∀i,i<s.next->fO s.heap i=none->fO s'.heap i=none
 wo:∃W,s'.wo=W++s.wo/\(∀p∈u,p.1∈W)/\∀i,i∉W->fO s'.heap i=fO s.heap i
theorem Bk.refl{s:S2}(hr:HR s.next h1 s.heap):Bk s s h1 [] []:=⟨hr,jp.refl _ _,rfl,rfl,aw _,fun p hp=>by simp at hp,fun _ _ h=>h,[],rfl,fun p hp=>by simp at hp,fun _ _=>rfl⟩
theorem Bk.seq{s s1 s2:S2}{I J:List Nat}{u1 u2:fA}(a:Bk s s1 h1 I u1)(b:Bk s1 s2 (u1++h1) J u2)(hd:∀i∈I,i∉J)(hI:∀i∈I,i<s.next)(hJ:∀j∈J,j<s.next):Bk s s2 h1 (I++J) (u1++u2):=by
 obtain⟨a3,a4,a5,a6,a7,a8,a9,W,v1,v2,v4⟩:=a;obtain⟨b3,b4,b5,b6,b7,b8,b9,X,x1,x2,x4⟩:=b;refine⟨b3.ext fun i=>wI (fun p hp q hq e=>?_) i,a4.trans a7 b4,b5.trans a5,b6.trans a6,by omega,fun p hp=>?_,fun i hi h=>b9 i (by omega) (a9 i hi h),X++W,by rw[x1,v1,aH],fun p hp=>?_,fun i hi=>?_⟩
 .rcases a8 p hp with h2|h2<;>rcases b8 q hq with h3|h3
  .exact hd _ h2 (e▸h3)
  .have:=hI _ h2;omega
  .have:=hJ _ h3;omega
  .omega
 .rcases au.1 hp with hp|hp
  .rcases a8 p hp with h2|h2
   .exact .inl (aG _ h2)
   .exact .inr (by omega)
  .rcases b8 p hp with h2|h2
   .exact .inl (aI _ h2)
   .exact .inr (by omega)
 .rcases au.1 hp with hp|hp
  .exact aI _ (v2 p hp)
  .exact aG _ (x2 p hp)
 .rw [x4 i fun q=>hi (aG _ q),v4 i fun q=>hi (aI _ q)]
theorem pD:∀(i:List Nat)(s:S2),(iY i s).dH=s.dH/\(iY i s).next=s.next/\(iY i s).gh=s.gh/\(iY i s).wo=i++s.wo/\∀j,fO (iY i s).heap j=if j∈i then none else fO s.heap j:=by
 intro i;induction i with
 |nil=>intro s;exact⟨rfl,rfl,rfl,rfl,fun j=>by simp[iY]⟩
 |cons a i ih=>
  intro s;obtain⟨h1,h2,h3,h4,h5⟩:=ih s;refine⟨h1,h2,h3,by simp[iY,eB,h4],fun j=>?_⟩;simp only[iY,eB,c8,h5];by_cases e:a=j
  .subst e;simp
  .simp [e,Ne.symm e]
theorem jp.sub{g:H2}(hs:∀i o,fO g i=some o->fO h i=some o):jp n h g:=⟨fun i o _ ho=>.inl ⟨o,hs i o ho,te.refl _⟩⟩
theorem HR.sub{g:H2}(hr:HR n h1 h)(hs:∀i o,fO g i=some o->fO h i=some o):HR n h1 g:=⟨fun i o ho=>let⟨a,b,c⟩:=hr.ob i o (hs i o ho);⟨a,p7 (jp.sub hs) c b,oO (aw _) (jp.sub hs) c⟩⟩
theorem zk{i:List Nat}{s:S2}:∀j o,fO (iY i s).heap j=some o->fO s.heap j=some o:=by
 intro j o ho;rw[(pD i s).2.2.2.2]at ho;split at ho
 .simp at ho
 .exact ho
theorem A2{bG:List Nat}{j:Nat}(hj:j∉bG):aC (bG.map (fun i=>(i,(none:Option Ob)))++h1) j=aC h1 j:=wJ fun p hp e=>by obtain⟨i,hi,rfl⟩:=c9.1 hp;exact hj (e▸hi)
theorem Bk.mg{s:S2}{i bG:List Nat}(hr:HR s.next h1 s.heap)(ho:∀j∈bG,j∈i):Bk s (iY i s) h1 i (bG.map fun j=>(j,none)):=by
 obtain⟨k1,k2,k3,k4,k5⟩:=pD i s;refine⟨⟨fun j o hj=>?_⟩,jp.sub zk,k1,k3,by omega,fun p hp=>?_,fun j _ h=>by rw[k5];split<;>first|rfl|exact h,i,k4,fun p hp=>?_,fun j hj=>by rw[k5,if_neg hj]⟩
 .obtain ⟨a,b,c⟩:=(hr.sub zk).ob j o hj;refine⟨by omega,?_,by rw[k2];exact c⟩;have:j∉i:=fun hm=>by rw[k5,if_pos hm]at hj;simp at hj
  rw[A2 fun hm=>this (ho j hm)];exact b
 .obtain ⟨j,hj,rfl⟩:=c9.1 hp;exact .inl (ho j hj)
 .obtain ⟨j,hj,rfl⟩:=c9.1 hp;exact ho j hj
theorem ug{α:Type}{a b:Sl α}{u:Unit}(hl:Iz a b=some u):a.fM=b.fM/\a.l.length=b.l.length:=by
 cases a<;>cases b<;>simp[Iz]at hl
 .exact ⟨rfl,rfl⟩
 .exact ⟨rfl,IA.1 hl⟩
theorem tM{c:C}{rd:List Nat}{x:D}{r:List (C×List Nat×List Nat)}{ts:List T}{m:Nat}:eW m ((c,[],rd)::r) (.d x::ts)=eW m r ts:=by simp only[eW]
theorem yR{x:D}{t:T}{bG rd:List Nat}(hp:eK h1 300 (.d x)=some (t,bG,rd)):bG=[]:=by rw[vF]at hp;obtain⟨_,e⟩:=ad (aa hp);exact(ad e).1.symm
theorem Kt{q:List (V×List Nat)}{v:V}{i:List Nat}(hn:(kq (fun(p:V×List Nat)=>p.2) ((v,i)::q)).Nodup):(∀j∈i,j∉kq (fun(p:V×List Nat)=>p.2) q)/\(kq (fun(p:V×List Nat)=>p.2) q).Nodup:=by simp only[bf]at hn;exact⟨fun j hj hm=>(cE.1 hn).2.2 j hj j hm rfl,(cE.1 hn).2.1⟩
theorem xF.lt:∀{q:List (V×List Nat)}{lent:List (C×List Nat×List Nat)},xF h n h1 q lent->∀j∈kq (fun(p:V×List Nat)=>p.2) q,j<n:=by
 intro q;induction q with
 |nil=>intro lent _ j hj;simp at hj
 |cons p q ih=>
  rintro lent ⟨x,m,rfl,hx,hm⟩ j hj;simp only[bf,au]at hj;rcases hj with hj|hj
  .exact hx.2.2.2.2.2.2.1 j hj
  .exact ih hm j hj
theorem LM{szi m id len k:Nat}{ao:List (Option (List (List D)))}{rd:List Nat}{r:List (C×List Nat×List Nat)}{ts:List T}{w:fA}(hl:ao.length=len)(hr:eW m r ts=some (w,k)):
  eW m ((.fh 1 id 0 len,[id],rd)::r) (.zZ szi ao::ts)=some ((id,some (.nst szi (ao.map mY)))::w,k):=by
 simp only[eW,hl,hr,and_self,if_true]
theorem zR{β:Type}{z:β}(hr0:HR n h1 h):∀(os:List Sh)(q:List (V×List Nat))(lent:List (C×List Nat×List Nat))(l:List V)(s:S2)(H:bM)(k:S2->Option β),fZ os q l s k=some z->xF h n h1 q lent->n<=s.next->HR s.next H s.heap->jp n h s.heap->
  (kq (fun(p:V×List Nat)=>p.2) q).Nodup->∃s1 bu,k s1=some z/\eW s.next lent (lB os l)=some (bu,s1.next)/\Bk s s1 H (kq (fun(p:V×List Nat)=>p.2) q) bu:=by
 intro os;induction os with
 |nil=>
  intro q lent l s H k hb hl hn hr eh hnd;cases q with
  |cons p q=>simp[fZ]at hb
  |nil=>cases l with|cons=>simp[fZ]at hb|nil=>obtain rfl:lent=[]:=hl;exact⟨s,[],hb,rfl,Bk.refl hr⟩
 |cons o os ih=>
  intro q lent l s H k hb hl hn hr eh hnd;cases q with
  |nil=>cases o<;>simp[fZ]at hb
  |cons p q=>
   obtain⟨v,i⟩:=p;obtain⟨⟨c,bG,rd⟩,m,rfl,⟨hc,hkv,⟨tp,hpk⟩,hsub,hcov,hrd,hlt,hsh⟩,hl2⟩:=hl;obtain⟨hd,hnd2⟩:=Kt hnd;have hI:∀j∈i,j<s.next:=fun j hj=>by have:j<n:=hlt j hj;omega
   have hJ:∀j∈kq (fun(p:V×List Nat)=>p.2) q,j<s.next:=fun j hj=>by have:=hl2.lt j hj;omega
   cases o with
   |nl kk=>cases i with|cons=>simp[fZ]at hb|nil=>simp only[fZ]at hb;obtain⟨s1,bu,e1,e2,e3⟩:=ih q m l s H k hb hl2 hn hr eh hnd2;have:bG=[]:=List.sublist_nil.1 hsub;subst this;exact⟨s1,bu,e1,by simp only[lB,fE,cg,tM];exact e2,by simpa using e3⟩
   |gn=>simp only[fZ]at hb;obtain⟨k1,k2,k3,k4,k5⟩:=pD i s;have b1:Bk s (iY i s) H i (bG.map fun j=>(j,none)):=Bk.mg hr fun j hj=>hsub.subset hj;obtain⟨s1,bu,e1,e2,e3⟩:=ih q m l (iY i s) _ k hb hl2 (by omega) b1.hr (eh.trans hn b1.eh) hnd2;rw[k2]at e2;exact⟨s1,_,e1,by simp only[lB,fE,cg];exact Jd e2,by simpa using b1.seq e3 hd hI hJ⟩
   |os t=>
    cases v with
    |nl kk=>
     cases kk with
     |succ=>cases l with|nil=>simp[fZ]at hb|cons w l=>cases w<;>simp[fZ]at hb
     |zero=>
      cases i with
      |cons=>cases l with|nil=>simp[fZ]at hb|cons w l=>cases w<;>simp[fZ]at hb
      |nil=>
       match l with
       |.x (.sl u) v::l=>
        simp only[fZ]at hb;split at hb
        .rename_i v' hv;obtain⟨e,rfl⟩:=dq hv;cases e;obtain⟨_,hls,hb2⟩:=sG hb;obtain⟨hni,_⟩:=ug hls;obtain⟨s1,bu,e1,e2,e3⟩:=ih q m l s H k hb2 hl2 hn hr eh hnd2;have:bG=[]:=List.sublist_nil.1 hsub;subst this;refine⟨s1,bu,e1,?_,by simpa using e3⟩;cases v with|mk=>simp[Sl.fM]at hni|nil=>simp only[lB,fE,cg,P8,tM];exact e2
        .simp at hb
       |[]|.kb _::_|.nl _::_|.so _::_|.sr _::_|.sb _ _ _ _ _::_|.op _ _ _::_|.ep _ _ _ _::_|.pt _ _::_|.fn _ _ _::_|.om _::_|.rc _::_|.tp _::_|.ni::_|.co _ _::_|.fl _::_|.no::_|.gn::_=>simp[fZ]at hb
       |.x (.i _) _::_|.x .b _::_|.x .s _::_|.x (.f _) _::_|.x (.mp _ _) _::_|.x .un _::_|.x (.pr _ _) _::_|.x (.st _) _::_|.x (.ar _ _) _::_|.x (.o _) _::_=>simp[fZ]at hb
    |so id=>
     match l with
     |.x (.sl u) v::l=>
      simp only[fZ]at hb;split at hb
      .rename_i w old ver v' ho hv;obtain⟨e,rfl⟩:=dq hv;cases e;split at hb
       .rename_i v2 hv2;obtain⟨e,rfl⟩:=dq hv2;cases e;obtain⟨_,hls,hb2⟩:=sG hb;obtain⟨hni,hln⟩:=ug hls;obtain⟨rfl,u0,s0,ver0,ho0⟩:=hsh;have hid:id<n:=hkv;obtain⟨o1,ho1,hos⟩:=(eh.ob id _ hid ho).resolve_right (by simp[s7]);rw[ho0]at ho1;obtain rfl:=aa ho1;obtain⟨_,rfl,hn1,hn2,_⟩:=hos;obtain⟨cc,ece,hcc⟩:=hc;obtain rfl:=fr.1 ece;have ec:=hcc.1 _ (mw (.inl ho0));obtain⟨q1,q2,q3⟩:=(hr.ob id _ ho).2.1;have hosn:te (.ar u0 old ver) (.ar u0 v (ver+1)):=⟨bQ _,rfl,hni.symm,hln.symm,fun e=>by omega⟩
        have key:∀(uu:fA),(∀p∈uu,p.1=id)->(∀l,v=.mk l->aC (uu++H) id=some (.aP (ce u0) (l.map (a_ u0))))->Bk s (eB s id (some (.ar u0 v (ver+1)))) H [id] uu:=by intro uu hu hlk;have d:=sI (x:=.iP []) (v:=.no) (aB:=[]) (l:=[]) hr ho hni.symm hln.symm hu hlk (fun _=>rfl) (fun _ _=>trivial) (fun i hi=>by simp at hi);exact⟨d.hr,d.eh,rfl,rfl,aw _,fun p hp=>.inl (by simp[hu p hp]),d.nb,[id],rfl,fun p hp=>by simp[hu p hp],fun j hj=>by simp only[eB];rw[c8,if_neg fun e=>hj (by simp[e])]⟩
        cases v with
        |nil=>
         have b1:=key [] (fun p hp=>by simp at hp) (fun l e=>by cases e);obtain⟨s1,bu,f1,f2,e3⟩:=ih q m l _ _ k hb2 hl2 hn b1.hr (eh.trans hn b1.eh) hnd2;have hnil:s0.fM=true:=by rw[hn1,<-hni];rfl
         cases s0 with|mk=>simp[Sl.fM]at hnil|nil=>subst ec;have:=yR hpk;subst this;refine⟨s1,bu,f1,?_,by simpa using b1.seq e3 hd hI hJ⟩;simp only[lB,fE,cg,P8,tM];exact f2
        |mk vl=>
         have b1:=key [(id,some (.aP (ce u0) (vl.map (a_ u0))))] (fun p hp=>by simp at hp;simp[hp]) (fun l e=>by cases e;rw[bn,dF,if_pos rfl]);obtain⟨s1,bu,f1,f2,e3⟩:=ih q m l _ _ k hb2 hl2 hn b1.hr (eh.trans hn b1.eh) hnd2;have hnil:s0.fM=false:=by rw[hn1,<-hni];rfl
         cases s0 with|nil=>simp[Sl.fM]at hnil|mk t8=>subst ec;have hlk:=(hr0.ob id _ ho0).2.1.2.2 t8 rfl;have hp2:=TO (k:=300) hlk;simp only[mx]at hpk;rw[hp2]at hpk;obtain⟨_,e⟩:=ad (aa hpk);obtain⟨rfl,rfl⟩:=ad e;refine⟨s1,_,f1,?_,by simpa using b1.seq e3 hd hI hJ⟩;simp only[lB,fE,cg,P8,mx];refine Nz ?_ f2;simp only[Sl.l]at hn2 hln;simp only[aV];omega
       .simp at hb
      .simp at hb
     |[]|.kb _::_|.nl _::_|.so _::_|.sr _::_|.sb _ _ _ _ _::_|.op _ _ _::_|.ep _ _ _ _::_|.pt _ _::_|.fn _ _ _::_|.om _::_|.rc _::_|.tp _::_|.ni::_|.co _ _::_|.fl _::_|.no::_|.gn::_=>simp[fZ]at hb
     |.x (.i _) _::_|.x .b _::_|.x .s _::_|.x (.f _) _::_|.x (.mp _ _) _::_|.x .un _::_|.x (.pr _ _) _::_|.x (.st _) _::_|.x (.ar _ _) _::_|.x (.o _) _::_=>simp[fZ]at hb
    |_=>simp[fZ]at hb
   |rw t=>
    cases v with
    |nl kk=>
     cases kk with
     |succ=>cases l with|nil=>simp[fZ]at hb|cons w l=>cases w<;>simp[fZ]at hb
     |zero=>
      cases i with
      |cons=>cases l with|nil=>simp[fZ]at hb|cons w l=>cases w<;>simp[fZ]at hb
      |nil=>
       match l with
       |.x (.sl (.sl u)) v::l=>
        simp only[fZ]at hb;split at hb
        .rename_i v' hv;obtain⟨e,rfl⟩:=dq hv;cases e;obtain⟨_,hls,hb2⟩:=sG hb;obtain⟨hni,_⟩:=ug hls;obtain⟨s1,bu,e1,e2,e3⟩:=ih q m l s H k hb2 hl2 hn hr eh hnd2;have:bG=[]:=List.sublist_nil.1 hsub;subst this;refine⟨s1,bu,e1,?_,by simpa using e3⟩;cases v with|mk=>simp[Sl.fM]at hni|nil=>simp only[lB,fE,cg,yy,tM];exact e2
        .simp at hb
       |[]|.kb _::_|.nl _::_|.so _::_|.sr _::_|.sb _ _ _ _ _::_|.op _ _ _::_|.ep _ _ _ _::_|.pt _ _::_|.fn _ _ _::_|.om _::_|.rc _::_|.tp _::_|.ni::_|.co _ _::_|.fl _::_|.no::_|.gn::_=>simp[fZ]at hb
       |.x (.sl (.i _)) _::_|.x (.sl .b) _::_|.x (.sl .s) _::_|.x (.sl (.f _)) _::_|.x (.sl (.mp _ _)) _::_|.x (.sl .un) _::_|.x (.sl (.pr _ _)) _::_|.x (.sl (.st _)) _::_|.x (.sl (.ar _ _)) _::_|.x (.sl (.o _)) _::_|.x (.i _) _::_|.x .b _::_|.x .s _::_|.x (.f _) _::_|.x (.mp _ _) _::_|.x .un _::_|.x (.pr _ _) _::_|.x (.st _) _::_|.x (.ar _ _) _::_|.x (.o _) _::_=>simp[fZ]at hb
    |sr id=>
     match l with
     |.x (.sl (.sl u)) v::l=>
      simp only[fZ]at hb;split at hb
      .rename_i w old ln v' ho hv;obtain⟨e,rfl⟩:=dq hv;cases e;split at hb
       .rename_i v2 hv2;obtain⟨e,rfl⟩:=dq hv2;cases e;obtain⟨_,hls,hb2⟩:=sG hb;obtain⟨hni,hln⟩:=ug hls;obtain⟨rfl,u0,s0,ho0⟩:=hsh;have hid:id<n:=hkv;obtain⟨o1,ho1,hos⟩:=(eh.ob id _ hid ho).resolve_right (by simp[s7]);rw[ho0]at ho1;obtain rfl:=aa ho1;obtain⟨rfl,hn1,hn2⟩:=hos;obtain⟨cc,ece,hcc⟩:=hc;obtain rfl:=fr.1 ece;have ec:=hcc.1 _ (tj ho0);obtain⟨q1,q2,q3⟩:=(hr.ob id _ ho).2.1;have hosn:te (.rw u0 old ln) (.rw u0 v none):=⟨rfl,hni.symm,hln.symm⟩
        have key:∀(uu:fA),(∀p∈uu,p.1=id)->(∀l,v=.mk l->aC (uu++H) id=some (.nst (ce u0) (eR u0 l none)))->Bk s (eB s id (some (.rw u0 v none))) H [id] uu:=by intro uu hu hlk;have d:=GK (x:=.iP []) (v:=.no) (aB:=[]) (l:=[]) hr ho hosn hu ⟨q1,q2,hlk⟩ trivial rfl trivial (fun i hi=>by simp at hi);exact⟨d.hr,d.eh,rfl,rfl,aw _,fun p hp=>.inl (by simp[hu p hp]),d.nb,[id],rfl,fun p hp=>by simp[hu p hp],fun j hj=>by simp only[eB];rw[c8,if_neg fun e=>hj (by simp[e])]⟩
        cases v with
        |nil=>
         have b1:=key [] (fun p hp=>by simp at hp) (fun l e=>by cases e);obtain⟨s1,bu,f1,f2,e3⟩:=ih q m l _ _ k hb2 hl2 hn b1.hr (eh.trans hn b1.eh) hnd2;have hnil:s0.fM=true:=by rw[hn1,<-hni];rfl
         cases s0 with|mk=>simp[Sl.fM]at hnil|nil=>subst ec;have:=yR hpk;subst this;refine⟨s1,bu,f1,?_,by simpa using b1.seq e3 hd hI hJ⟩;simp only[lB,fE,cg,yy,tM];exact f2
        |mk vl=>
         have b1:=key [(id,some (.nst (ce u0) (eR u0 vl none)))] (fun p hp=>by simp at hp;simp[hp]) (fun l e=>by cases e;rw[bn,dF,if_pos rfl]);obtain⟨s1,bu,f1,f2,e3⟩:=ih q m l _ _ k hb2 hl2 hn b1.hr (eh.trans hn b1.eh) hnd2;have hnil:s0.fM=false:=by rw[hn1,<-hni];rfl
         cases s0 with|nil=>simp[Sl.fM]at hnil|mk t8=>subst ec;have hlk:=(hr0.ob id _ ho0).2.1.2.2 t8 rfl;have hp2:=Su (k:=300) hlk;simp only[mx]at hpk hp2;rw[hp2]at hpk;obtain⟨_,e⟩:=ad (aa hpk);obtain⟨rfl,rfl⟩:=ad e;refine⟨s1,_,f1,?_,by simpa using b1.seq e3 hd hI hJ⟩;simp only[lB,fE,cg,yy,mx,aV];rw[show eR u0 vl none=(vl.map (HS u0)).map mY from(yA vl).symm];refine LM ?_ f2;rw[aV];exact hln.trans hn2.symm
       .simp at hb
      .simp at hb
     |[]|.kb _::_|.nl _::_|.so _::_|.sr _::_|.sb _ _ _ _ _::_|.op _ _ _::_|.ep _ _ _ _::_|.pt _ _::_|.fn _ _ _::_|.om _::_|.rc _::_|.tp _::_|.ni::_|.co _ _::_|.fl _::_|.no::_|.gn::_=>simp[fZ]at hb
     |.x (.sl (.i _)) _::_|.x (.sl .b) _::_|.x (.sl .s) _::_|.x (.sl (.f _)) _::_|.x (.sl (.mp _ _)) _::_|.x (.sl .un) _::_|.x (.sl (.pr _ _)) _::_|.x (.sl (.st _)) _::_|.x (.sl (.ar _ _)) _::_|.x (.sl (.o _)) _::_|.x (.i _) _::_|.x .b _::_|.x .s _::_|.x (.f _) _::_|.x (.mp _ _) _::_|.x .un _::_|.x (.pr _ _) _::_|.x (.st _) _::_|.x (.ar _ _) _::_|.x (.o _) _::_=>simp[fZ]at hb
    |_=>simp[fZ]at hb
   |pb t c2=>
    cases v with
    |op id u p=>
     cases p with
     |cons=>simp[fZ]at hb
     |nil=>
      simp only[fZ]at hb;split at hb
      case h_2=>simp at hb
      rename_i oid hoid;split at hb
      .rename_i w l' s2 hm;obtain⟨hf,hb2⟩:=aR hb;simp only[ai,decide_eq_true_eq]at hf;obtain⟨hf,rfl⟩:=hf;obtain⟨g1,g2,g3,g4,g5,_⟩:=vO c2 false l s w l' s2 H hm hr;subst g5;obtain⟨hid,hnn⟩:=hsh;have hio:id∈bG:=(hcov id hid).resolve_right hnn
       obtain rfl:c=.op id 0:=by
        have e0:mW u []=0:=by cases u<;>rfl
        have:[c]=[C.op id (mW u [])]:=hc;rw[e0]at this;exact fr.1 this
       obtain⟨k1,k2,k3,k4,k5⟩:=pD i s2;have hids:id<s2.next:=by have:=hI id hid;have:=g3.le;omega
       have b1:Bk s (eB (iY i s2) id (some (.bx u w))) H i ((id,some (.box (iC s.next (fE c2 l).1).1))::(iC s.next (fE c2 l).1).2.1++bG.map (fun j=>(j,none))):=by
        obtain⟨a3,a4,a5,a6,a7,a8,W,v1,v2,v3,v4⟩:=g3;have hs2:jp s2.next s2.heap (eB (iY i s2) id (some (.bx u w))).heap:=jp.trans (aw _) (jp.sub zk) jp.bx;refine⟨⟨fun j o hj=>?_⟩,jp.trans a7 a4 hs2,k1.trans a5,k3.trans a6,by simp only[eB];omega,fun p hp=>?_,fun j hj hn=>(by simp only[eB];rw[c8,if_neg (fun e=>by rw[e,hn]at hoid;cases hoid),k5];split<;>first|rfl|(rw[v4 j fun q=>by have:=(v3 j q).1;omega];exact hn)),id::(i++W),by simp only[eB,k4,v1,bd,aH],fun p hp=>?_,fun j hj=>?_⟩
        .simp only[eB]at hj|-;rw[c8]at hj;split at hj
         .rename_i e;subst e;obtain rfl:=aa hj;refine⟨by omega,?_,?_⟩
          .rw [bd,bd,dF,if_pos rfl];exact⟨_,rfl,lK hs2 g2 g1,hf⟩
          .rw [k2];exact gK (aw _) hs2 g2
         .rename_i e;have hji:j∉i:=fun hm=>by rw[k5,if_pos hm]at hj;simp at hj
          rw[k5,if_neg hji]at hj;obtain⟨c1,c2',c3⟩:=a3.ob j o hj;refine⟨by omega,?_,?_⟩
          .rw [bd,bd,dF,if_neg e,aH];have:aC ((iC s.next (fE c2 l).1).2.1++(bG.map (fun j=>(j,none))++H)) j=aC ((iC s.next (fE c2 l).1).2.1++H) j:=by simp only[aC,gM];have:=A2 (h1:=H) (bG:=bG) (j:=j) fun hm=>hji (hsub.subset hm);simp only[aC,gM]at this;cases cz (iC s.next (fE c2 l).1).2.1 j with|some x=>rfl|none=>exact this
           rw[this];exact p7 hs2 c3 c2'
          .rw [k2];exact oO (aw _) hs2 c3
        .rcases au.1 hp with hp|hp
         .rcases aQ.1 hp with rfl|hp
          .exact .inl hid
          .have:=a8 p hp;exact .inr ⟨this.1,by simp only[eB];omega⟩
         .obtain ⟨j,hj,rfl⟩:=c9.1 hp;exact .inl (hsub.subset hj)
        .rcases au.1 hp with hp|hp
         .rcases aQ.1 hp with rfl|hp
          .simp
          .simp [v2 p hp]
         .obtain ⟨j,hj,rfl⟩:=c9.1 hp;simp[hsub.subset hj]
        .simp only[eB];rw[c8,if_neg fun e=>hj (by simp[e]),k5,if_neg fun q=>hj (by simp[q]),v4 j fun q=>hj (by simp[q])]
       obtain⟨s1,bu,e1,e2,e3⟩:=ih q m _ _ _ k hb2 hl2 (by have:=b1.le;omega) b1.hr (eh.trans hn b1.eh) hnd2;have en:(eB (iY i s2) id (some (.bx u w))).next=(iC s.next (fE c2 l).1).2.2:=by simp only[eB,k2,g4]
       rw[en]at e2;refine⟨s1,_,e1,?_,by simpa using b1.seq e3 hd hI hJ⟩;simp only[lB,fE,cg];have:=Ny (n:=s.next) (id:=id) (bG:=bG) (rd:=rd) (by simpa using hio) e2;rw[this];simp only[bd,aH]
      .simp at hb
    |_=>simp[fZ]at hb
   |_=>simp[fZ]at hb
end
def P9(c:Sh):Bool:=xR c||yV c
section
variable{h:H2}{n:Nat}{h1:bM}
theorem Cg{c:Sh}{l l':List V}{s s':S2}{w:V}(hm:rN c false l s=some (w,l',s'))(ho:yV c=true):(fE c l).1.length=1:=by
 cases c with
 |x t=>match l with|.x u v::l=>simp only[rN]at hm;obtain⟨hc,_⟩:=aR hm;simp only[ai,decide_eq_true_eq]at hc;obtain⟨rfl,_⟩:=hc;simpa[fE,bV,yV]using ho|[]|.kb _::_|.nl _::_|.so _::_|.sr _::_|.sb _ _ _ _ _::_|.op _ _ _::_|.ep _ _ _ _::_|.pt _ _::_|.fn _ _ _::_|.om _::_|.rc _::_|.tp _::_|.ni::_|.co _ _::_|.fl _::_|.no::_|.gn::_=>simp[rN]at hm
 |os t=>match l with|.x (.sl u) v::l=>rfl|[]|.kb _::_|.nl _::_|.so _::_|.sr _::_|.sb _ _ _ _ _::_|.op _ _ _::_|.ep _ _ _ _::_|.pt _ _::_|.fn _ _ _::_|.om _::_|.rc _::_|.tp _::_|.ni::_|.co _ _::_|.fl _::_|.no::_|.gn::_=>simp[rN]at hm|.x (.i _) _::_|.x .b _::_|.x .s _::_|.x (.f _) _::_|.x (.mp _ _) _::_|.x .un _::_|.x (.pr _ _) _::_|.x (.st _) _::_|.x (.ar _ _) _::_|.x (.o _) _::_=>simp[rN]at hm
 |rw t=>match l with|.x (.sl (.sl u)) v::l=>rfl|[]|.kb _::_|.nl _::_|.so _::_|.sr _::_|.sb _ _ _ _ _::_|.op _ _ _::_|.ep _ _ _ _::_|.pt _ _::_|.fn _ _ _::_|.om _::_|.rc _::_|.tp _::_|.ni::_|.co _ _::_|.fl _::_|.no::_|.gn::_=>simp[rN]at hm|.x (.sl (.i _)) _::_|.x (.sl .b) _::_|.x (.sl .s) _::_|.x (.sl (.f _)) _::_|.x (.sl (.mp _ _)) _::_|.x (.sl .un) _::_|.x (.sl (.pr _ _)) _::_|.x (.sl (.st _)) _::_|.x (.sl (.ar _ _)) _::_|.x (.sl (.o _)) _::_|.x (.i _) _::_|.x .b _::_|.x .s _::_|.x (.f _) _::_|.x (.mp _ _) _::_|.x .un _::_|.x (.pr _ _) _::_|.x (.st _) _::_|.x (.ar _ _) _::_|.x (.o _) _::_=>simp[rN]at hm
 |pb t c=>rfl
 |nl k=>rfl
 |_=>first|(simp[rN]at hm;done)|(simp[yV]at ho;done)
theorem AZ:∀(rs:List Sh)(l:List V)(s:S2)(xs:List V)(l':List V)(s':S2)(h1:bM),Is rs l s=some (xs,l',s')->HR s.next h1 s.heap->rs.all P9=true->
  BE s'.heap (cU xs) (ik s.next (mO rs l)).1/\(∀x∈xs,eY s'.next s'.heap x)/\Mk s s' h1 (ik s.next (mO rs l)).2.1/\s'.next=(ik s.next (mO rs l)).2.2/\xs.length=rs.length:=by
 intro rs;induction rs with
 |nil=>intro l s xs l' s' h1 hm hr _;obtain⟨rfl,e⟩:=ad (aa hm);obtain⟨rfl,rfl⟩:=ad e;exact⟨rfl,fun x hx=>by simp at hx,Mk.skip hr (aw _),rfl,rfl⟩
 |cons c rs ih=>
  intro l s xs l' s' h1 hm hr hok;simp only[iJ,ai]at hok;simp only[Is]at hm;split at hm
  .rename_i x l1 s1 hm1;split at hm
   .rename_i ys l2 s2 hm2;obtain⟨rfl,e⟩:=ad (aa hm);obtain⟨rfl,rfl⟩:=ad e;obtain⟨q1,q2,q3,q4,q5,q6⟩:=vO c false l s x l1 s1 h1 hm1 hr;have q6:=q6 rfl;subst q5
    have hu:xh s.next (bif xR c then .agg (fE c l).1 else .c ((fE c l).1.headD default))=(bif xR c then .agg (iC s.next (fE c l).1).1 else .c ((iC s.next (fE c l).1).1.headD default),(iC s.next (fE c l).1).2.1,(iC s.next (fE c l).1).2.2)/\th s1.heap x (bif xR c then .agg (iC s.next (fE c l).1).1 else .c ((iC s.next (fE c l).1).1.headD default)):=by
     cases hs:xR c with
     |true=>exact⟨rfl,yo (q6.trans hs) q1⟩
     |false=>
      have hl:(fE c l).1.length=1:=by
       have h2:yV c=true:=by simpa[P9,hs]using hok.1
       exact Cg hm1 h2
      match ht:(fE c l).1,hl with|[t],_=>rw[ht]at q1;simp only[rT]at q1;refine⟨by simp only[cond_false,cg,xh,rT],?_⟩;simp only[cond_false,rT,cg];exact dX (q6.trans hs) q1
    obtain⟨hu1,hu2⟩:=hu;obtain⟨p1,p2,p3,p4,p5⟩:=ih (fE c l).2 s1 ys l2 s2 _ hm2 q3.hr hok.2;rw[q4]at p1 p3 p4;simp only[mO,ik,hu1];refine⟨⟨_,_,rfl,wn p3.eh q2 hu2,p1⟩,fun y hy=>?_,q3.seq p3,p4,by simp[p5]⟩;rcases aQ.1 hy with rfl|hy
    .exact gK p3.le p3.eh q2
    .exact p2 y hy
   .simp at hm
  .simp at hm
end
def FV:Ty->Bool
 |.i _|.b|.s|.f _|.un=>true
 |.pr a c=>FV a&&FV c
 |.st t|.ar _ t=>FV t
 |_=>false
def O7:Sh->Bool
 |.x t=>FV t
 |_=>false
def OI(sp:j8):Bool:=sp.ps.all (fun p=>!p.1)&&sp.al.all (fun w=>w.1.all O7&&w.2.isEmpty)
def L7(sp:j8):Bool:=MW sp.ps sp.j7&&BU sp.ps&&sp.al.all (fun w=>w.1.all P9)&&(!sp.ro||OI sp)
def L8(Q:List Sh->List Sh->List V->Prop):(r o:List Sh)->(w:Wy)->v9.GF r o w->Prop
 |r,o,[],z=>Q r o (px (gT r++gT o) z)
 |r,o,(r',o')::w,z=>match z with|.inl z=>Q r o (px (gT r++gT o) z)|.inr z=>L8 Q r' o' w z
def L9(Q:List Sh->List Sh->List V->Prop):(w:Wy)->v9 w->Prop
 |[],z=>nomatch z
 |(r,o)::w,z=>L8 Q r o w z
def cJ(P:Program)(f:FuncId)(sp:j8):Prop:=L7 sp=true/\∀p z,sp.fn p=some z->L9 (fun rs os l=>Cz P f (gR sp.ps (px (gT (sp.ps.map (·.2))) p)) (mO rs (l.take (gT rs).length)) (lB os (l.drop (gT rs).length))) sp.al z
def qn(P:Program)(tb:EF):Prop:=∀e∈tb,cJ P e.1 e.2
theorem qn.nil{P:Program}:qn P []:=fun e he=>by simp at he
theorem qn.cons{P:Program}{f:FuncId}{sp:j8}{tb:EF}(h:cJ P f sp)(ht:qn P tb):qn P ((f,sp)::tb):=fun e he=>by
 rcases aQ.1 he with rfl|he
 .exact h
 .exact ht e he
theorem Hx{β:Type}{k:List Sh->List Sh->List V->Option β}{Q:List Sh->List Sh->List V->Prop}{b:β}:∀(w:Wy)(z:v9 w),Qg k w z=some b->L9 Q w z->∃r o l,(r,o)∈w/\k r o l=some b/\Q r o l:=by
 have key:∀(w:Wy)(r o:List Sh)(z:v9.GF r o w),Oq k r o w z=some b->L8 Q r o w z->∃r' o' l,(r',o')∈(r,o)::w/\k r' o' l=some b/\Q r' o' l:=by
  intro w;induction w with
  |nil=>intro r o z hz hq;exact⟨r,o,_,by simp,hz,hq⟩
  |cons p w ih=>intro r o z hz hq;cases z with|inl z=>exact⟨r,o,_,by simp,hz,hq⟩|inr z=>obtain⟨r',o',l,h1,h2,h3⟩:=ih p.1 p.2 z hz hq;exact⟨r',o',l,aF _ h1,h2,h3⟩
 intro w z hz hq;cases w with|nil=>exact nomatch z|cons p w=>exact key w p.1 p.2 z hz hq
theorem zM{u:Ty}{v:V}{y:El u}(h:uJ u v=some y):v=.x u y:=by cases v with|x t v=>obtain⟨rfl,rfl⟩:=dq (show gH t u v=some y from h);rfl|_=>simp[uJ]at h
theorem qz:∀(cs:List Ty)(l:List V)(p:rg cs),wq cs l=some p->px cs p=l:=by
 have key:∀(r:List Ty)(a:Ty)(l:List V)(p:rg.EJ a r),EX a r l=some p->Mf a r p=l:=by
  intro r;induction r with
  |nil=>
   intro a l p h
   match l with|[]=>exact nomatch (show(none:Option (rg.EJ a []))=some p from h)|[v]=>rw[zM (show uJ a v=some p from h)];rfl|_::_::_=>exact nomatch (show(none:Option (rg.EJ a []))=some p from h)
  |cons c r ih=>
   intro a l p h
   match l with
   |[]=>exact nomatch (show(none:Option (rg.EJ a (c::r)))=some p from h)
   |v::l=>
    have h:HD (uJ a v) (EX c r l)=some p:=h;cases hx:uJ a v with
    |none=>rw[hx]at h;exact nomatch h
    |some x=>cases hy:EX c r l with|none=>rw[hx,hy]at h;exact nomatch h|some y=>rw[hx,hy]at h;obtain rfl:=aa h;show V.x a x::Mf c r y=v::l;rw[ih c l y hy,zM hx]
 intro cs l p h
 match cs,l with|[],[]=>rfl|[],_::_=>exact nomatch (show(none:Option (rg []))=some p from h)|a::r,l=>exact key r a l p h
section
variable{h:H2}{n:Nat}{h1:bM}
theorem CN{a b:List V}{x y:List TV}(ha:mR h a x)(hb:mR h b y):mR h (a++b) (x++y):=by induction a generalizing x with|nil=>rw[lV ha];exact hb|cons v a ih=>obtain⟨c,r,rfl,h2,h3⟩:=gL ha;exact⟨h2,ih h3⟩
theorem yj:∀(v:V)(l:List V)(cs:List C),we v=some l->e9 h v cs->eY n h v->ir h v=true->mR h l (cs.map TV.c)/\(∀w∈l,eY n h w)/\∀w∈l,ir h w=true:=by
 intro v;induction v with
 |ni=>intro l cs hl hc _ _;obtain rfl:=aa hl;obtain rfl:=hc;exact⟨trivial,fun w hw=>by simp at hw,fun w hw=>by simp at hw⟩
 |co a r iha ihr=>
  intro l cs hl hc hk hal;simp only[we]at hl;obtain⟨h1,hl⟩:=aR hl;simp only[ai,beq_iff_eq,dP]at h1;split at hl
  .rename_i l' hl';obtain rfl:=aa hl;obtain⟨x,y,rfl,h2,h3⟩:=hc;simp only[ir,ai]at hal;obtain⟨q1,q2,q3⟩:=ihr l' y hl' h3 hk.2 hal.2;have hlen:=iz h2;rw[h1.1]at hlen
   match x,hlen with
   |[c],_=>
    refine⟨⟨cu (dX h1.2 h2),q1⟩,fun w hw=>?_,fun w hw=>?_⟩
    .rcases aQ.1 hw with rfl|hw
     .exact hk.1
     .exact q2 w hw
    .rcases aQ.1 hw with rfl|hw
     .exact hal.1
     .exact q3 w hw
  .simp at hl
 |_=>intro l cs hl;simp[we]at hl
theorem Ge:∀(tb:EF)(f:Nat)(vs:List V)(sp:j8)(l:List V)(i:List Nat)(q:List (V×List Nat)),A_ h f vs tb=some (sp,l,i,q)->(f,sp)∈tb/\pi h sp.ps vs=some (l,i,q):=by
 intro tb;induction tb with
 |nil=>intro f vs sp l i q hf;simp[A_]at hf
 |cons e tb ih=>
  obtain⟨g,TN⟩:=e;intro f vs sp l i q hf;simp only[A_]at hf;cases hg:(g==f)with
  |false=>rw[hg,cond_false]at hf;obtain⟨h2,h3⟩:=ih f vs sp l i q hf;exact⟨aF _ h2,h3⟩
  |true=>
   rw[hg,cond_true]at hf;obtain rfl:g=f:=by simpa using hg
   split at hf
   .rename_i l' i' q' ha;simp only[bE,Prod.mk.injEq]at hf;obtain⟨rfl,rfl,rfl,rfl⟩:=hf;exact⟨by simp,ha⟩
   .obtain ⟨h2,h3⟩:=ih g vs sp l i q hf;exact⟨aF _ h2,h3⟩
theorem DI:∀{l:List Nat},yX l=true->l.Nodup:=by intro l;induction l with|nil=>intro _;exact iX|cons a l ih=>intro hl;simp only[yX,ai,dP,List.contains_eq_mem,decide_eq_false_iff_not]at hl;exact List.nodup_cons.2 ⟨hl.1,ih hl.2⟩
theorem xF.bG:∀{q:List (V×List Nat)}{lent:List (C×List Nat×List Nat)},xF h n h1 q lent->
  (lent.flatMap (fun(p:C×List Nat×List Nat)=>p.2.1)).Sublist (q.flatMap (·.2))/\(∀j∈lent.flatMap (fun(p:C×List Nat×List Nat)=>p.2.2),j∈q.flatMap (·.2)):=by
 intro q;induction q with
 |nil=>rintro lent rfl;exact⟨ci _,fun j hj=>hj⟩
 |cons p q ih=>
  rintro lent ⟨x,m,rfl,hx,hm⟩;obtain⟨a,b⟩:=ih hm;simp only[bf];refine⟨hx.2.2.2.1.append a,fun j hj=>?_⟩;rcases au.1 hj with hj|hj
  .exact aG _ (hx.2.2.2.2.2.1 j hj)
  .exact aI _ (b j hj)
theorem ES(hr:HR n h1 h):∀{q:List (V×List Nat)}{lent:List (C×List Nat×List Nat)},xF h n h1 q lent->eL h1 lent=true:=by
 intro q;induction q with
 |nil=>rintro lent rfl;rfl
 |cons p q ih=>
  obtain⟨v,i⟩:=p;rintro lent ⟨⟨c,bG,rd⟩,m,rfl,hx,hm⟩;have hw:=ih hm;obtain⟨hc,_,_,_,_,_,_,hsh⟩:=hx;cases c with
  |fh sz id off len=>
   cases v with
   |so id'=>obtain⟨_,u,s,ver,ho⟩:=hsh;obtain⟨cc,e,hcc⟩:=hc;obtain rfl:=fr.1 e;have e2:=hcc.1 _ (mw (.inl ho));cases s with|nil=>simp[mx]at e2|mk l=>simp only[mx,C.fh.injEq]at e2;obtain⟨rfl,rfl,rfl,rfl⟩:=e2;exact Q9 ((hr.ob _ _ ho).2.1.2.2 l rfl) hw
   |sr jd=>obtain⟨_,u,s,ho⟩:=hsh;obtain⟨cc,e,hcc⟩:=hc;obtain rfl:=fr.1 e;have e2:=hcc.1 _ (tj ho);cases s with|nil=>simp[mx]at e2|mk l=>simp only[mx,C.fh.injEq]at e2;obtain⟨rfl,rfl,rfl,rfl⟩:=e2;have hl:=(hr.ob _ _ ho).2.1.2.2 l rfl;simp only[eL,hl,eR,aV,beq_self_eq_true,Bool.and_self,Bool.true_and];exact hw
   |nl k=>have:[C.fh sz id off len]=[DJ k]:=hc
          simp[DJ]at this
   |op a b2 e=>have:[C.fh sz id off len]=[C.op a (mW b2 e)]:=hc
               simp at this
   |_=>exact hsh.elim
  |_=>exact hw
end
section
variable{P:Program}{h1:bM}{β:Type}{s:S2}{k:V->S2->List Nat->Option β}{z:β}
def TM(P:Program)(h1:bM)(kk:K)(xs:List TV)(s:S2)(k:V->S2->List Nat->Option β)(z:β):Prop:=∃v s' l,k v s' l=some z/\∃call:Call,nz P call/\∃x u aB m,cL call kk (xs.map some) h1 s.next=some (x,u,aB,m)/\rL s s' h1 x u aB m v l
theorem Nc{b:Bool}{f:Nat}{caps:V}{xf:TV}{cs:List V}(hf:fX s.heap (.fn b f caps) xf)(hk:eY s.next s.heap (.fn b f caps))(ha:ir s.heap (.fn b f caps)=true)(hc:we caps=some cs):
  ∃cc,Lh (some xf)=some (f,cc)/\mR s.heap cs (cc.map TV.c)/\(∀w∈cs,eY s.next s.heap w)/\∀w∈cs,ir s.heap w=true:=by
 rcases EW hf with⟨rfl,ds,hd,rfl⟩|⟨rfl,xs,hd,rfl⟩
 .obtain ⟨a1,a2⟩:=zT (h:=s.heap) caps ha;exact⟨ds.map .d,rfl,yj caps cs _ hc (LD caps ds hd) (a2 _) a1⟩
 .exact ⟨xs,rfl,yj caps cs _ hc hd hk ha⟩
theorem De{xs:List V}{vs:List TV}{g:H2}{m:Nat}(h:BE g (cU xs) vs)(hk:∀x∈xs,eY m g x):fX g (OJ xs) (ut vs)/\eY m g (OJ xs):=by
 have hrow:∀(l:List V),(∀x∈l,eY m g x)->eY m g (cU l):=by intro l;induction l with|nil=>intro _;trivial|cons a l ih=>intro hl;exact⟨hl a (by simp),ih fun x hx=>hl x (by simp[hx])⟩
 match xs with|[]=>obtain rfl:=h;exact⟨⟨[],rfl,rfl⟩,trivial⟩|[v]=>obtain⟨x,ys,rfl,h2,h3⟩:=h;obtain rfl:=h3;exact⟨cu h2,hk v (by simp)⟩|a::b::l=>obtain⟨x,ys,rfl,h2,h3⟩:=h;obtain⟨y,zs,rfl,h4,h5⟩:=h3;exact⟨⟨_,rfl,_,_,rfl,h2,_,_,rfl,h4,h5⟩,hrow _ hk⟩
theorem KA:∀(t:Ty)(v:El t),FV t=true->∀d∈a_ t v,∃y,d=.lit y:=by
 intro t;induction t with
 |pr a c iha ihc=>
  intro v h d hd;simp only[FV,ai]at h;rcases au.1 (show d∈a_ a v.1++a_ c v.2 from hd)with hd|hd
  .exact iha _ h.1 d hd
  .exact ihc _ h.2 d hd
 |st t ih=>intro v h d hd;exact ih v h d hd
 |ar n t ih=>intro v h d hd;obtain⟨a,_,ha⟩:=List.mem_flatMap.1 (show d∈v.1.flatMap (a_ t)from hd);exact ih a h d ha
 |un=>intro v h d hd;exact absurd (show d∈[]from hd) (by simp)
 |i k=>intro v h d hd;exact⟨_,av.1 (show d∈[_]from hd)⟩
 |b=>intro v h d hd;exact⟨_,av.1 (show d∈[_]from hd)⟩
 |s=>intro v h d hd;exact⟨_,av.1 (show d∈[_]from hd)⟩
 |f k=>intro v h d hd;exact⟨_,av.1 (show d∈[_]from hd)⟩
 |_=>intro v h;simp[FV]at h
theorem Kz:∀(rs:List Sh)(l:List V)(s:S2)(xs:List V)(l':List V)(s':S2),Is rs l s=some (xs,l',s')->rs.all O7=true->rs.all P9=true->(mO rs l).all zg=true:=by
 intro rs;induction rs with
 |nil=>intro l s xs l' s' _ _ _;rfl
 |cons c rs ih=>
  intro l s xs l' s' hm hl ho;simp only[iJ,ai]at hl ho;simp only[Is]at hm;split at hm
  .rename_i x l1 s1 hm1;split at hm
   .rename_i ys l2 s2 hm2;cases c with
    |x t=>
     have ho1:=ho.1
     match l with
     |.x u v::l=>
      have hm1':=hm1;simp only[rN]at hm1;obtain⟨hc,hm3⟩:=aR hm1;simp only[ai,decide_eq_true_eq]at hc;obtain⟨rfl,_⟩:=hc;obtain⟨rfl,e⟩:=ad (aa hm3);obtain⟨rfl,rfl⟩:=ad e;have hlit:=KA u v hl.1;simp only[mO,fE,iJ,ai];refine⟨?_,ih _ _ _ _ _ hm2 hl.2 ho.2⟩;cases hs:xR (.x u)with
      |true=>simp only[cond_true,zg,bq];intro t ht;obtain⟨d,hd,rfl⟩:=c9.1 ht;obtain⟨y,rfl⟩:=hlit d hd;rfl
      |false=>
       have h2:yV (.x u)=true:=by simpa[P9,hs]using ho1
       have hlen:=Cg hm1' h2;simp only[fE,aV]at hlen
       match he:a_ u v,hlen with|[d],_=>obtain⟨y,rfl⟩:=hlit d (by rw[he];simp);rfl
     |[]|.kb _::_|.nl _::_|.so _::_|.sb _ _ _ _ _::_|.op _ _ _::_|.ep _ _ _ _::_|.pt _ _::_|.fn _ _ _::_|.om _::_|.rc _::_|.tp _::_|.ni::_|.co _ _::_|.fl _::_|.no::_|.gn::_=>simp[rN]at hm1
    |_=>simp[O7]at hl
   .simp at hm
  .simp at hm
theorem MT{h:H2}:∀(ps:List (Bool×Sh))(vs:List V)(m:List V)(j:List Nat)(q:List (V×List Nat)),pi h ps vs=some (m,j,q)->ps.all (fun p=>!p.1)=true->q=[]:=by
 intro ps;induction ps with
 |nil=>intro vs m j q ha _;cases vs with|nil=>simp[pi]at ha;exact ha.2.2|cons=>simp[pi]at ha
 |cons p ps ih=>
  obtain⟨b,c⟩:=p;intro vs m j q ha hb;simp only[iJ,ai,dP]at hb;obtain⟨rfl,hb2⟩:=hb;cases vs with
  |nil=>simp[pi]at ha
  |cons v vs=>
   simp only[pi]at ha;split at ha
   .rename_i m' j' q' hr;simp only[cond_false]at ha;split at ha
    .obtain ⟨_,e⟩:=ad (aa ha);obtain⟨_,rfl⟩:=ad e;exact ih vs m' j' q' hr hb2
    .simp at ha
   .simp at ha
theorem Gz{tb:EF}{ro:Bool}{j7:List Bool}{f:V}{vs:List V}{xf:TV}{xs:List TV}(htb:qn P tb)(hz:yd tb ro j7 f vs s k=some z)(hr:HR s.next h1 s.heap)(hf:fX s.heap f xf)(hfk:eY s.next s.heap f)(hfa:ir s.heap f=true)
  (hx:mR s.heap vs xs) (hk:∀w∈vs,eY s.next s.heap w) (ha:∀w∈vs,ir s.heap w=true):TM P h1 (.call ro j7) (xf::xs) s k z:=by
 cases f with
 |fn b fid caps=>
  simp only[yd]at hz;split at hz
  case h_2=>simp at hz
  rename_i sp pay j q hfs;split at hfs
  case h_2=>simp at hfs
  rename_i cs hcs;obtain⟨hmem,hargs⟩:=Ge tb fid _ sp pay j q hfs;obtain⟨hwy,hgood⟩:=htb _ hmem;simp only[L7,ai]at hwy;obtain⟨⟨⟨w1,w2⟩,w3⟩,w4⟩:=hwy;obtain⟨hc,hz2⟩:=aR hz;simp only[ai,decide_eq_true_eq]at hc;obtain⟨⟨⟨c1,c2⟩,c3⟩,c4⟩:=hc;clear hz;split at hz2
  case h_2=>simp at hz2
  rename_i p hp;obtain⟨zz,hzz,hz3⟩:=sG hz2;obtain⟨rs,os,l,hm,hk3,hg⟩:=Hx sp.al zz hz3 (hgood p zz hzz);rw[qz _ _ _ hp]at hg;obtain⟨cc,hfn,d1,d2,d3⟩:=Nc hf hfk hfa hcs;rw[c2]at w1;obtain⟨aB,lent,e1,e2,e3,e4⟩:=EA hr sp.ps (vs++cs) j7 pay j q (xs++cc.map TV.c) hargs (CN hx d1) (fun w hw=>(au.1 hw).elim (hk w) (d2 w)) (fun w hw=>(au.1 hw).elim (ha w) (d3 w)) w1 w2;obtain⟨o1,o2⟩:=e4.bG;have hnd:=DI c3;have hap:∀i∈kq (fun(p:V×List Nat)=>p.2) q,i∉j:=fun i hi=>by simpa using bq.1 c4 i hi
  have hdec:decide ((lent.flatMap (fun(p:C×List Nat×List Nat)=>p.2.1)).Nodup/\(lent.flatMap (fun(p:C×List Nat×List Nat)=>p.2.1)).all (fun i=>!aB.contains i)=true)=true:=by refine decide_eq_true ⟨o1.nodup hnd,bq.2 fun i hi=>?_⟩;have:=hap i (o1.subset hi);simpa using fun hm=>this (e2 i hm).1
  have hwl:=ES hr e4;have hokR:rs.all P9=true:=bq.1 w3 _ hm;cases ro with
  |true=>
   have hro:sp.ro=true:=by simpa using c1
   rw[hro]at w4;have w5:OI sp=true:=by simpa using w4
   simp only[OI,ai]at w5;obtain⟨v1,v2⟩:=w5;have v3:=bq.1 v2 _ hm;simp only[ai,List.isEmpty_iff]at v3;obtain⟨v3,rfl⟩:=v3;have hq:=MT _ _ _ _ _ hargs v1;subst hq;obtain rfl:lent=[]:=e4;simp only[cond_true]at hk3;obtain⟨s1,bu,b1,b2,b3⟩:=zR hr [] [] [] _ s h1 _ hk3 rfl (aw _) hr (jp.refl _ _) iX;obtain⟨rfl,hs1⟩:[]=bu/\s.next=s1.next:=by simpa[eW,lB]using b2
   split at b1
   case h_2=>simp at b1
   rename_i ys l2 s2 hmk;obtain⟨m1,m2,m3,m4,m5⟩:=AZ rs _ s1 ys l2 s2 _ hmk b3.hr hokR;obtain⟨t1,t2⟩:=De m1 m2;have hlit:=Kz rs _ s1 ys l2 s2 hmk v3 hokR;refine⟨_,_,_,b1,only fid (gR sp.ps pay) (mO rs (l.take (gT rs).length)) (lB [] (l.drop (gT rs).length)),G3 hg,?_⟩;have hld:u_ h1 s.next true aB [] (some (mO rs (l.take (gT rs).length),lB [] (l.drop (gT rs).length)))=some (ut (ik s.next (mO rs (l.take (gT rs).length))).1,(ik s.next (mO rs (l.take (gT rs).length))).2.1,aB,(ik s.next (mO rs (l.take (gT rs).length))).2.2):=by simp only[u_,hlit,lB,List.isEmpty_nil,and_self,if_true]
   obtain⟨g1,g2⟩:=Hq (ro:=true) hfn (nw xs) e1 hwl hdec hld;rw[<-hs1]at t1 m3 m4;refine⟨_,_,_,_,Bt g1 g2,?_⟩;obtain⟨W1,x1,x2,x3⟩:=b3.wo;obtain⟨W2,y1,y2,y3,y4⟩:=m3.wo;refine⟨t1,t2,m3.hr,b3.eh.trans b3.le m3.eh,by rw[m3.dH,b3.dH],by rw[m3.gh,b3.gh],by omega,by have:=b3.le;have:=m3.le;omega,fun i hi=>aG _ (e2 i hi).1,fun i hi h=>(by rw[y4 i fun q=>by have:=(y3 i q).1;have:=b3.le;omega];exact b3.nb i hi h),W2++W1,by rw[y1,x1];simp only[aH],fun p hp=>aG _ (y2 p hp),fun i hi=>?_⟩;simp only[au,not_or]at hi;rw[y4 i hi.1,x3 i hi.2]
  |false=>
   simp only[cond_false]at hk3;split at hk3
   case h_2=>simp at hk3
   rename_i s0 hs0;obtain⟨fu,f1,f2,f3,f4,f5,f6,f7,f8,f9⟩:=B9 (s0:=s) rfl hr j s0 aB aB hs0 e2 e3;obtain⟨s1,bu,b1,b2,b3⟩:=zR hr os q lent _ s0 (fu++h1) _ hk3 e4 (by omega) (by rw[f6];exact f2) f3 hnd;split at b1
   case h_2=>simp at b1
   rename_i ys l2 s2 hmk;obtain⟨m1,m2,m3,m4,m5⟩:=AZ rs _ s1 ys l2 s2 _ hmk b3.hr hokR;obtain⟨t1,t2⟩:=De m1 m2;rw[f6]at b2;refine⟨_,_,_,b1,only fid (gR sp.ps pay) (mO rs (l.take (gT rs).length)) (lB os (l.drop (gT rs).length)),G3 hg,?_⟩;have hld:=Tx (rs:=mO rs (l.take (gT rs).length)) f1 b2;obtain⟨g1,g2⟩:=Hq (ro:=false) hfn (nw xs) e1 hwl hdec hld;refine⟨_,_,_,_,Bt g1 g2,?_⟩;obtain⟨W1,x1,x2,x3⟩:=b3.wo;obtain⟨W2,y1,y2,y3,y4⟩:=m3.wo;refine⟨t1,t2,?_,(f3.trans (Nat.le_of_eq f6.symm) b3.eh).trans (by have:=b3.le;omega) m3.eh,by rw[m3.dH,b3.dH,f4],by rw[m3.gh,b3.gh,f5],by omega,by have:=b3.le;have:=m3.le;omega,fun i hi=>?_,fun i hi h=>(by rw[y4 i fun q=>by have:=(y3 i q).1;have:=b3.le;omega];exact b3.nb i (by omega) ((f9 i fun q=>F_ rfl hs0 i q h).trans h)),W2++W1++j,by rw[y1,x1,f7];simp only[aH],fun p hp=>?_,fun i hi=>?_⟩
   .have:=m3.hr;simpa only[aH]using this
   .rcases au.1 hi with hi|hi
    .exact aG _ (e2 i hi).1
    .exact aI _ (o2 i hi)
   .simp only[aH,au]at hp|-;rcases hp with hp|hp|hp
    .exact .inl (y2 p hp)
    .exact .inr (.inl (x2 p hp))
    .exact .inr (.inr (f8 p hp))
   .simp only[aH,au,not_or]at hi;rw[y4 i hi.1,x3 i hi.2.1,f9 i hi.2.2]
 |_=>simp[yd]at hz
end
def mn:Prop:=∀g v,M8 g=some v->∃d,Pj g=some d/\∀h n,fX h v (.c (.d d))/\eY n h v/\ir h v=true
theorem v8{n:Nat}{h h':H2}(hs:jp n h h')(hnb:∀i,i<n->fO h i=none->fO h' i=none):∀{v:V},eY n h v->ir h' v=true->ir h v=true:=by
 have key:∀id,id<n->(match fO h' id with|some _=>true|none=>false)=true->(match fO h id with|some _=>true|none=>false)=true:=by intro id hid ha;cases ho:fO h id with|some _=>rfl|none=>rw[hnb id hid ho]at ha;simp at ha
 intro v;induction v with
 |so id=>
  intro hk ha;have hk:id<n:=hk;simp only[ir]at ha|-;split at ha
  .rename_i t s v ho;obtain⟨s0,v0,h1,_⟩:=t7 hs hk (.inl ho);rcases h1 with h1|h1<;>rw[h1]
  .rename_i t s v ho;obtain⟨s0,v0,h1,_⟩:=t7 hs hk (.inr ho);rcases h1 with h1|h1<;>rw[h1]
  .simp at ha
 |sr id=>
  intro hk ha;have hk:id<n:=hk;simp only[ir]at ha|-;split at ha
  .rename_i t s ln ho;obtain⟨s0,ln0,h1,_⟩:=GR hs hk ho;rw[h1]
  .simp at ha
 |sb id ver lo t r=>
  rintro⟨hid,hk⟩ ha;obtain⟨hd,ha⟩:=dm.1 ha;have ha:Cu h' id ver=true:=ha;obtain⟨u,s,ho⟩:=lL ha;obtain⟨s0,v0,h3,h4,_,_⟩:=t7 hs hid ho;obtain⟨h7,_⟩:=hk u s0 v0 h3;have:v0=ver:=by omega
  subst this;refine dm.2 ⟨hd,?_⟩;rcases h3 with h3|h3<;>rw[h3]<;>simp
 |op id t p=>rintro⟨hid,_⟩ ha;exact key id hid ha
 |ep id m t p=>rintro⟨hid,_⟩ ha;exact key id hid ha
 |om id=>intro hid ha;exact key id hid ha
 |fn z f l ih=>intro hk ha;cases z with|true=>exact ha|false=>exact ih hk ha
 |rc l ih=>intro hk ha;exact ih hk ha
 |tp l ih=>intro hk ha;exact ih hk ha
 |co a r iha ihr=>rintro⟨h1,h2⟩ ha;simp only[ir,ai]at ha|-;exact⟨iha h1 ha.1,ihr h2 ha.2⟩
 |_=>intro _ ha;exact ha
def Jn(h:H2):V->List C->Prop
 |.ni,cs=>cs=[]
 |.co a r,cs=>∃c m,cs=c::m/\(ir h a=true->e9 h a [c])/\Jn h r m
 |_,_=>False
theorem D2{n:Nat}{h h':H2}(hs:jp n h h')(hnb:∀i,i<n->fO h i=none->fO h' i=none):∀{v:V}{cs:List C},eY n h v->Jn h v cs->Jn h' v cs:=by intro v;induction v with|co a r _ ihr=>rintro cs ⟨h1,h2⟩ ⟨c,m,rfl,h3,h4⟩;exact⟨c,m,rfl,fun ha=>lK hs h1 (h3 (v8 hs hnb h1 ha)),ihr h2 h4⟩|ni=>intro cs _ h;exact h|_=>intro cs _ h;exact h.elim
structure R2(s1:St)(s:S2):Prop where
 dH:∀t v,cz s.dH t=some v->eY s.next s.heap v/\(ir s.heap v=true\/v=.no->∃x,cz s1.dH t=some x/\fX s.heap v x)
 hr:HR s.next s1.heap s.heap
 next:s1.next<=s.next
 gh:Jn s.heap s.gh s1.gh/\eY s.next s.heap s.gh
theorem JW{v:Value}(hp:fB v=true)(ha:∀cs,v≠.agg cs):cv v=some (.c (.d (.lit v))):=by
 unfold cv;split
 .rename_i cs;exact absurd rfl (ha cs)
 .rw [if_pos hp]
theorem Hm{c:Value}{v:V}(hc:Q8 c=some v)(h:H2)(n:Nat):∃x,cv c=some x/\fX h v x/\eY n h v/\ir h v=true:=by
 unfold Q8 at hc;split at hc
 case h_10=>
  rename_i cs;split at hc
  .rename_i hp;obtain rfl:=aa hc;refine⟨.agg (cs.toList.map fun v=>.d (.lit v)),by simp only[cv];rw[if_pos hp],cu (yo rfl ⟨hp,rfl⟩),trivial,hp⟩
  .simp at hc
 case h_11=>simp at hc
 all_goals
  obtain rfl:=aa hc;exact⟨_,JW rfl (fun cs e=>by cases e),cu (dX rfl (by first|rfl|exact⟨rfl,rfl⟩)),trivial,rfl⟩
theorem oN(hg:mn){s1:St}{s:S2}(hr:R2 s1 s){o:Operand}{v:V}(ho:Jl s.dH s.heap o=some v):∃x,kP s1.dH o=some x/\fX s.heap v x/\eY s.next s.heap v/\ir s.heap v=true:=by
 cases o with
 |tmp t=>
  simp only[Jl]at ho;split at ho
  .rename_i w hw;obtain⟨ha,ho⟩:=aR ho;obtain rfl:=aa ho;obtain⟨h3,h4⟩:=hr.dH t w hw;obtain⟨x,h1,h2⟩:=h4 (.inl ha);exact⟨x,h1,h2,h3,ha⟩
  .simp at ho
 |const c=>exact Hm ho _ _
 |global g=>obtain⟨d,h1,h2⟩:=hg g v ho;exact⟨_,by simp only[kP,h1,Option.map_some],h2 _ _⟩
 |func f=>obtain rfl:=aa ho;exact⟨_,rfl,cu (dX rfl ⟨[],rfl,rfl⟩),trivial,rfl⟩
structure sP(s1:St)(s:S2)(q:Rg):Prop where
 r:R2 s1 s
 kn:∀g b,Pd q.kn g=some b->cz s1.dH g=some (tB b)
 cd:∀t g b v,cz q.cd t=some (g,b,v)->∃c,cz s1.dH g=some (tB c)/\(c=b->∃x,cz s1.dH t=some x/\fX s.heap v x/\eY s.next s.heap v)
theorem OB{a b:Bool}(h:tB a=tB b):a=b:=by simpa[tB]using h
theorem vI(hg:mn){s1:St}{s:S2}{q:Rg}(hr:sP s1 s q){gc:Option (Nat×Bool)}(hgc:∀g b,gc=some (g,b)->cz s1.dH g=some (tB b)){o:Operand}{v:V}(ho:Jm s q gc o=some v):
  ∃x,kP s1.dH o=some x/\fX s.heap v x/\eY s.next s.heap v/\ir s.heap v=true:=by
 cases o with
 |tmp t=>
  simp only[Jm]at ho;split at ho
  .rename_i g b w hw;obtain⟨hc,ho⟩:=aR ho;obtain⟨ha,ho⟩:=aR ho;obtain rfl:=aa ho;obtain⟨c,h1,h2⟩:=hr.cd t g b w hw
   have hb:cz s1.dH g=some (tB b):=by
    simp only[cA,decide_eq_true_eq]at hc;rcases hc with hc|hc
    .exact hgc g b hc
    .exact hr.kn g b hc
   rw[h1]at hb;obtain⟨x,h3,h4,h5⟩:=h2 (OB (aa hb));exact⟨x,h3,h4,h5,ha⟩
  .exact oN hg hr.r ho
 |const c=>exact oN hg hr.r ho
 |global g=>exact oN hg hr.r ho
 |func f=>exact oN hg hr.r ho
theorem AV(hg:mn){s1:St}{s:S2}{q:Rg}(hr:sP s1 s q){gc:Option (Nat×Bool)}(hgc:∀g b,gc=some (g,b)->cz s1.dH g=some (tB b)):∀(os:List Operand)(vs:List V),FI s q gc os=some vs->
  ∃xs,os.map (kP s1.dH)=xs.map some/\mR s.heap vs xs/\(∀w∈vs,eY s.next s.heap w)/\∀w∈vs,ir s.heap w=true:=by
 intro os;induction os with
 |nil=>intro vs ho;obtain rfl:=aa ho;exact⟨[],rfl,trivial,fun w hw=>by simp at hw,fun w hw=>by simp at hw⟩
 |cons o os ih=>
  intro vs ho;simp only[FI]at ho;split at ho
  .rename_i v l hv hl;obtain rfl:=aa ho;obtain⟨x,h1,h2,h3,h4⟩:=vI hg hr hgc hv;obtain⟨xs,g1,g2,g3,g4⟩:=ih l hl;refine⟨x::xs,by simp[h1,g1],⟨h2,g2⟩,fun w hw=>?_,fun w hw=>?_⟩
   .rcases aQ.1 hw with rfl|hw
    .exact h3
    .exact g3 w hw
   .rcases aQ.1 hw with rfl|hw
    .exact h4
    .exact g4 w hw
  .simp at ho
theorem Lx{h:H2}{t:Ty}{w:V}{b:El t}{x:TV}(hd:kL t=true)(hx:fX h w x)(hc:ul t w=some b):fX h (.x t b) x:=by obtain⟨cs,h1,h2,h3⟩:=pm (N7 hc) hx;have e:=iW w false t b cs hc h1;have ha:=wY hc;exact cu ⟨cs,⟨hd,e⟩,fun q=>h2 (ha.trans q),fun q=>h3 (ha.trans q)⟩
theorem DN{h:H2}{c:Bool}{a b v:V}{x:TV}(hm:Tv c a b=some v)(ha:ir h a=true)(hb:ir h b=true)(h1:c=true->fX h a x)(h2:c=false->fX h b x):fX h v x/\∀n,eY n h v:=by
 unfold Tv at hm;split at hm
 .rename_i p q;obtain rfl:=aa hm;refine⟨?_,fun _=>trivial⟩;cases c with|true=>rw[wm (h1 rfl)];exact xb _|false=>rw[wm (h2 rfl)];exact xb _
 .rename_i t p w;split at hm
  .rename_i y hy;obtain rfl:=aa hm;refine⟨?_,fun _=>trivial⟩;cases c with|true=>exact h1 rfl|false=>exact Lx ha (h2 rfl) hy
  .simp at hm
 .rename_i t p w;split at hm
  .rename_i y hy;obtain rfl:=aa hm;refine⟨?_,fun _=>trivial⟩;cases c with|true=>exact Lx hb (h1 rfl) hy|false=>exact h2 rfl
  .simp at hm
 .simp at hm
theorem xW(hg:mn){e:List (Nat×V)}{h:H2}{o:Operand}{v:V}(ho:Jl e h o=some v):ir h v=true:=by
 cases o with
 |tmp t=>
  simp only[Jl]at ho;split at ho
  .obtain ⟨ha,ho⟩:=aR ho;obtain rfl:=aa ho;exact ha
  .simp at ho
 |const c=>obtain⟨_,_,_,_,ha⟩:=Hm ho h 0;exact ha
 |global g=>obtain⟨d,_,h2⟩:=hg g v ho;exact(h2 h 0).2.2
 |func f=>obtain rfl:=aa ho;rfl
theorem G2(hg:mn){s:S2}{q:Rg}{gc:Option (Nat×Bool)}{o:Operand}{v:V}(ho:Jm s q gc o=some v):ir s.heap v=true:=by
 cases o with
 |tmp t=>
  simp only[Jm]at ho;split at ho
  .obtain ⟨hc,ho⟩:=aR ho;obtain⟨ha,ho⟩:=aR ho;obtain rfl:=aa ho;exact ha
  .exact xW hg ho
 |const c=>exact xW (e:=s.dH) (o:=.const c) hg ho
 |global g=>exact xW (e:=s.dH) (o:=.global g) hg ho
 |func f=>exact xW (e:=s.dH) (o:=.func f) hg ho
theorem H7(hg:mn){s1:St}{s:S2}{q:Rg}(hr:sP s1 s q){gc:Option (Nat×Bool)}(hgc:∀g b,gc=some (g,b)->cz s1.dH g=some (tB b)){os:List Operand}{v:V}(hp:JX s q gc os=some v)(c:Call)(H:bM)(nx:Nat):
  ∃x,cL c .pick (os.map (kP s1.dH)) H nx=some (x,[],[],nx)/\fX s.heap v x/\eY s.next s.heap v:=by
 have one:∀(g a b:Operand)(t:Bool)(w:V),kP s1.dH g=some (tB t)->Jm s q gc (bif t then a else b)=some w->∃x,cL c .pick ([g,a,b].map (kP s1.dH)) H nx=some (x,[],[],nx)/\fX s.heap w x/\eY s.next s.heap w:=by intro g a b t w h1 h2;obtain⟨x,h3,h4,h5,_⟩:=vI hg hr hgc h2;refine⟨x,?_,h4,h5⟩;simp only[aD,bh,h1];cases t with|true=>simp only[cond_true]at h3;rw[h3];rfl|false=>simp only[cond_false]at h3;rw[h3];rfl
 unfold JX at hp;split at hp
 .rename_i g a b;split at hp
  .rename_i _ _ t hk;exact one _ a b t v (hr.kn g t hk) hp
  .rename_i t hk he;obtain⟨x,h1,h2⟩:=(hr.r.dH g _ he).2 (.inl rfl);rw[wm h2]at h1;exact one _ a b t v h1 hp
  .rename_i t hk he;obtain⟨x,h1,h2⟩:=(hr.r.dH g _ he).2 (.inl rfl)
   .rw [GO h2]at h1;split at hp
    .rename_i x y hx hy;have ax:=G2 hg hx;have ay:=G2 hg hy;cases t with|true=>obtain⟨z,g1,g2,_⟩:=vI hg hr (gc:=some (g,true)) (fun g' b' e=>by cases e;exact h1) hx;obtain⟨m1,m2⟩:=DN hp ax ay (fun _=>g2) (fun e=>by cases e);refine⟨z,?_,m1,m2 _⟩;have h1':kP s1.dH (.tmp g)=some (tB true):=h1;simp only[aD,bh,h1',g1];rfl|false=>obtain⟨z,g1,g2,_⟩:=vI hg hr (gc:=some (g,false)) (fun g' b' e=>by cases e;exact h1) hy;obtain⟨m1,m2⟩:=DN hp ax ay (fun e=>by cases e) (fun _=>g2);refine⟨z,?_,m1,m2 _⟩;have h1':kP s1.dH (.tmp g)=some (tB false):=h1;simp only[aD,bh,h1',g1];rfl
    .simp at hp
  .simp at hp
 .rename_i t a b;exact one _ a b t v rfl hp
 .simp at hp
theorem H3{s:S2}{q:Rg}{gc:Option (Nat×Bool)}{os:List Operand}{vs:List V}(ho:FI s q gc os=some vs)(hp:MH os=true):∀a k b,vs=[a,.x (.i k) b]->0<b:=by
 intro a k b e;subst e
 match os with
 |[o,.const (.int k' m)]=>
  simp only[MH,decide_eq_true_eq]at hp;simp only[FI,Jm,Jl,Q8]at ho;split at ho
  .rename_i v l hv hl;simp only[bE]at hl;subst hl;simp only[bE,List.cons.injEq,and_true]at ho;obtain⟨_,e⟩:=ho;cases e;exact hp
  .simp at ho
theorem AE(hg:mn){s1:St}{s:S2}{q:Rg}(hr:sP s1 s q){gc:Option (Nat×Bool)}(hgc:∀g b,gc=some (g,b)->cz s1.dH g=some (tB b)){o:OP}{v:V}{l:List Nat}(ht:Mh o s q gc=some (v,l))(c:Call)(nx:Nat):
  ∃x aB,cL c o.o.k (o.o.args.map (kP s1.dH)) s1.heap nx=some (x,[],aB,nx)/\fX s.heap v x/\eY s.next s.heap v/\∀i∈aB,i∈l:=by
 unfold Mh at ht;cases hpk:F1 o.o.k with
 |true=>
  rw[hpk,cond_true]at ht;split at ht
  .rename_i w hw;obtain⟨rfl,rfl⟩:=ad (aa ht);obtain⟨x,h1,h2,h3⟩:=H7 hg hr hgc hw c s1.heap nx;have hk:o.o.k=.pick:=by revert hpk;cases o.o.k<;>simp[F1]
   rw[hk];exact⟨x,[],h1,h2,h3,fun i hi=>by simp at hi⟩
  .simp at ht
 |false=>
  rw[hpk,cond_false]at ht;split at ht
  .rename_i vs hvs;obtain⟨xs,h1,h2,h3,h4⟩:=AV hg hr hgc _ _ hvs;rw[h1];exact HE hr.r.hr ht h2 h3 h4 (fun hp=>H3 hvs hp) c nx
  .simp at ht
theorem Ln{P:Program}{β:Type}{tb:EF}(htb:qn P tb)(hg:mn){s1:St}{s:S2}{q:Rg}(hr:sP s1 s q){gc:Option (Nat×Bool)}(hgc:∀g b,gc=some (g,b)->cz s1.dH g=some (tB b)){o:OP}{k:V->S2->List Nat->Option β}{z:β}
  (hz:Q7 tb o s q gc k=some z):∃v s' l,k v s' l=some z/\∃call:Call,nz P call/\∃x u aB m,cL call o.o.k (o.o.args.map (kP s1.dH)) s1.heap s.next=some (x,u,aB,m)/\rL s s' s1.heap x u aB m v l:=by
 unfold Q7 at hz;split at hz
 .rename_i v l ht;obtain⟨x,aB,h1,h2,h3,h4⟩:=AE hg hr hgc ht qU s.next;exact⟨v,s,l,hz,qU,rq,x,[],aB,s.next,h1,rL.pure hr.r.hr h2 h3 h4⟩
 .split at hz
  .rename_i vs hvs;obtain⟨xs,h1,h2,h3,h4⟩:=AV hg hr hgc _ _ hvs;rw[h1];split at hz
   .rename_i ro j7 f vs' hk;obtain⟨y,ys,rfl,h5,h6⟩:=gL h2;obtain⟨v,s',l,e1,call,e2,x,u,aB,m,e3,e4⟩:=Gz (P:=P) htb hz hr.r.hr h5 (h3 _ (by simp)) (h4 _ (by simp)) h6 (fun w hw=>h3 w (by simp[hw])) (fun w hw=>h4 w (by simp[hw]));rw[hk];exact⟨v,s',l,e1,call,e2,x,u,aB,m,e3,e4⟩
   .obtain ⟨v,s',l,e1,e2⟩:=FE hz hr.r.hr h2 h3 h4;obtain⟨x,u,aB,m,e3,e4⟩:=e2 qU;exact⟨v,s',l,e1,qU,rq,x,u,aB,m,e3,e4⟩
  .simp at hz
end Go.Ev
