/- Calls: the arguments, as they are laid. Conditions: as stated. -/
import Derived.Test.YthcplpfiidlinaaDoorFq
open Bool renaming and_eq_true->ai,and_eq_true_iff->dR,not_eq_true'->dp,or_eq_true->cM
open List renaming all_cons->iM,all_eq_true->bc,append_assoc->aL,append_nil->bB,cons_append->aU,drop_zero->cT,flatMap->ku,flatMap_cons->bi,headD_cons->bX,length_map->aN,map_cons->aB,map_nil->aW,mem_append->ap,mem_append_left->aF,mem_append_right->aH,mem_cons->aP,mem_cons_of_mem->aA,mem_map->cj,mem_singleton->aq,nil_sublist->j9,nodup_append->bZ,nodup_nil->fX,singleton_append->bo,singleton_inj->fy
open List.Sublist renaming refl->bL
open Nat renaming le_refl->au,le_succ->bO,lt_succ_self->aZ,zero_le->cG
open Option.some renaming inj->aa,injEq->bm
open Prod.mk renaming inj->ad
namespace Go.Ev
def Pg(k:Nat):D:=match Dz k with|.d x=>x|_=>default
theorem Ql(k:Nat):Dz k=.d (Pg k):=rfl
def qR:Sh->List V->List D×List V
 |.x _,.x u v::l=>(aT u v,l)
 |.pt _,.x u v::l=>([.pt (aT u v)],l)
 |.nl k,l=>([Pg k],l)
 |.fn f c,l=>([.fn f (qR c l).1],(qR c l).2)
 |.pr a c,l=>((qR a l).1++(qR c (qR a l).2).1,(qR c (qR a l).2).2)
 |_,l=>([],l)
def Ir(t:Ty):Sl (El t)->Option (List (List D))
 |.nil=>none
 |.mk l=>some (l.map (aT t))
def x_(t:Ty):Sl (Sl (El t))->T
 |.nil=>.d (.lit (.slice none 0 0))
 |.mk l=>.zK (bE t) (l.map (Ir t))
theorem Ii{t:Ty}(l:List (Sl (El t))):uw (l.map (pp t))=some (l.map (Ir t)):=by induction l with|nil=>rfl|cons s l ih=>simp only[aB,uw,ih];cases s<;>rfl
theorem yd{t:Ty}(l:List (Sl (El t))):(l.map (Ir t)).map mT=l.map (pp t):=by rw[List.map_map];exact List.map_congr_left fun s _=>by cases s<;>rfl
def fF:Sh->List V->List T×List V
 |.x _,.x u v::l=>((aT u v).map .d,l)
 |.os _,.x (.sl u) v::l=>([zU (bE u) (aT u) v],l)
 |.rw _,.x (.sl (.sl u)) v::l=>([x_ u v],l)
 |.pb _ c,l=>([.pt (fF c l).1],(fF c l).2)
 |.nl k,l=>([.d (Pg k)],l)
 |.st c,l=>fF c l
 |.pr a c,l=>((fF a l).1++(fF c (fF a l).2).1,(fF c (fF a l).2).2)
 |.gn,l=>([.uI],l)
 |_,l=>([],l)
def xz:Sh->Bool
 |.x t=>nv t
 |.st _=>true
 |_=>false
def gX:List (Bool×Sh)->List V->List A
 |[],_=>[]
 |(true,c)::r,l=>.mt ((fF c l).1.headD default)::gX r (fF c l).2
 |(false,c)::r,l=>(bif xz c then .agg (qR c l).1 else .d ((qR c l).1.headD default))::gX r (qR c l).2
def mK:List Sh->List V->List R
 |[],_=>[]
 |c::r,l=>(bif xz c then .agg (fF c l).1 else .c ((fF c l).1.headD default))::mK r (fF c l).2
def lp:List Sh->List V->List T
 |[],_=>[]
 |c::r,l=>(fF c l).1.headD default::lp r (fF c l).2
def wy:Sh->Nat
 |.x t=>bE t+1
 |.pt t=>bE t+3
 |.fn _ c=>wy c+2
 |.pr a c=>wy a+wy c
 |.ni=>0
 |_=>1
section
variable{h:H2}{n:Nat}{h1:bH}
def A7:C->Prop
 |.d _|.fq _ _ _ _=>True
 |_=>False
theorem ER{c:C}(hc:A7 c)(k j:Nat):fg h1 k c=fg h1 j c:=by cases c with|d x=>rw[GQ,GQ]|fq a b e f=>cases k<;>cases j<;>simp only[fg]|_=>exact hc.elim
theorem xQ:∀{cs:List C}{ds:List D}{aD:List Nat}{k:Nat},(∀c∈cs,A7 c)->gp h1 cs=some (ds,aD)->cs.length<k->gw h1 k cs=some (ds,aD):=by
 intro cs;induction cs with
 |nil=>intro ds aD k _ h _;simp only[gp]at h;rw[<-h];cases k<;>rfl
 |cons c cs ih=>
  intro ds aD k hf h hk;cases k with
  |zero=>simp at hk
  |succ k=>
   simp only[gp]at h;split at h
   .rename_i x a xs b hx hxs;simp only[gw];rw[ER (hf c (by simp)) k 300,hx,ih (fun c hc=>hf c (by simp[hc])) hxs (by simpa using hk)];exact h
   .simp at h
theorem Bz:∀{x y:List C}{dx dy:List D}{ix iy:List Nat}{k:Nat},gw h1 k x=some (dx,ix)->gw h1 (k-x.length) y=some (dy,iy)->x.length<=k->gw h1 k (x++y)=some (dx++dy,ix++iy):=by
 intro x;induction x with
 |nil=>
  intro y dx dy ix iy k hx hy _;have:gw h1 k []=some ([],[]):=by cases k<;>rfl
  rw[this]at hx;obtain⟨rfl,rfl⟩:=ad (aa hx);simpa using hy
 |cons c x ih=>
  intro y dx dy ix iy k hx hy hk;cases k with
  |zero=>simp at hk
  |succ k=>
   simp only[gw]at hx;split at hx
   .rename_i p a q b hp hq;obtain⟨rfl,rfl⟩:=ad (aa hx);simp only[aU,gw,hp];rw[ih hq (by simpa using hy) (by simpa using hk)];simp
   .simp at hx
theorem D4{α:Type}{sz id:Nat}{enc:α->List D}{s:Sl α}:A7 (mU sz enc id s):=by cases s<;>trivial
theorem Mb{id lo:Nat}{t:Ty}{r:Sl (El t)}:A7 (zW id lo t r):=by cases r<;>trivial
theorem D0:∀(v w:V)(l:List Nat)(cs:List C),kN h v=some (w,l)->fC h v cs->iD h v=true->∀c∈cs,A7 c:=by
 have fl:∀(ds:List D),∀c∈ds.map C.d,A7 c:=fun ds c hc=>by obtain⟨d,_,rfl⟩:=cj.1 hc;trivial
 intro v;induction v with
 |so id=>
  intro w l cs hf hv _ c hc;simp only[kN]at hf;split at hf
  .rename_i t s l' hs;obtain⟨ver,ho,_⟩:=vW hs;obtain⟨c',rfl,hc'⟩:=hv;obtain rfl:=aq.1 hc;rw[hc'.1 _ (mS ho)];exact D4
  .simp at hf
 |sr id=>
  intro w l cs hf hv _ c hc;simp only[kN]at hf;split at hf
  .rename_i t s ho;obtain⟨c',rfl,hc'⟩:=hv;obtain rfl:=aq.1 hc;rw[hc'.1 _ (sB ho)];exact D4
  .simp at hf
 |sb id ver lo t r=>intro w l cs hf hv ha c hc;obtain⟨c',rfl,hc'⟩:=hv;obtain rfl:=aq.1 hc;rw[hc'.1 (dR.1 ha).2];exact Mb
 |rc r ih=>
  intro w l cs hf hv ha;simp only[kN]at hf;split at hf
  .rename_i w' l' hw;exact ih w' l' cs hw hv ha
  .simp at hf
 |co a r iha ihr=>
  intro w l cs hf hv ha c hc;simp only[kN]at hf;split at hf
  .rename_i x l1 y l2 hx hy;obtain⟨ca,cr,rfl,h2,h3⟩:=hv;simp only[iD,ai]at ha;rcases ap.1 hc with hc|hc
   .exact iha x l1 ca hx h2 ha.1 c hc
   .exact ihr y l2 cr hy h3 ha.2 c hc
  .simp at hf
 |x t v=>intro w l cs hf hv _;obtain⟨_,rfl⟩:=hv;exact fl _
 |kb c=>intro w l cs hf hv _;obtain rfl:=hv;exact fl [_]
 |nl k=>intro w l cs hf hv _;obtain rfl:=hv;exact fl [_]
 |fl q=>intro w l cs hf hv _;obtain⟨_,rfl⟩:=hv;rw[B0];exact fl _
 |ni=>intro w l cs hf hv _;obtain rfl:=hv;exact fl []
 |pt t v=>intro w l cs hf hv _;obtain⟨_,rfl⟩:=hv;exact fl [_]
 |fn z f q ih=>intro w l cs hf hv _;cases z with|true=>obtain⟨ds,_,rfl⟩:=hv;exact fl [_]|false=>simp[kN]at hf
 |_=>intro w l cs hf hv;simp[kN]at hf
theorem MM:∀(v:V)(ds:List D),qw v=some ds->fC h v (ds.map .d):=by
 intro v;induction v with
 |co a r iha ihr=>
  intro ds hd;simp only[qw]at hd;split at hd
  .rename_i x y hx hy;obtain rfl:=aa hd;exact⟨_,_,by simp,iha x hx,ihr y hy⟩
  .simp at hd
 |pt t v=>
  intro ds hd;simp only[qw]at hd;split at hd
  .rename_i ht;obtain rfl:=aa hd;exact⟨ht,rfl⟩
  .simp at hd
 |ni=>intro ds hd;obtain rfl:[]=ds:=by simpa[qw]using hd
      rfl
 |_=>intro ds hd;simp[qw]at hd
theorem zF:∀(v:V),Ct v=true->iD h v=true/\∀n,ft n h v:=by intro v;induction v with|co a r iha ihr=>intro hv;simp only[Ct,ai]at hv;exact⟨by simp only[iD,(iha hv.1).1,(ihr hv.2).1,Bool.and_self],fun n=>⟨(iha hv.1).2 n,(ihr hv.2).2 n⟩⟩|pt t v=>intro hv;exact⟨hv,fun _=>trivial⟩|ni=>intro _;exact⟨rfl,fun _=>trivial⟩|_=>intro hv;simp[Ct]at hv
theorem JT(hr:HR n h1 h):∀(c:Sh)(v:V)(l:List V)(i:List Nat)(cs:List C),oP h c v=some (l,i)->fC h v cs->ft n h v->iD h v=true->
  ∃ds aD,(∀k,wy c<=k->gw h1 k cs=some (ds,aD))/\(∀r,qR c (l++r)=(ds,r))/\(∀j∈aD,j∈i/\¬wh h j)/\(∀j∈i,j∈aD\/wh h j)/\cs.length<=wy c:=by
 intro c;induction c with
 |x t=>
  intro v l i cs ha hv hk hal;simp only[oP]at ha;split at ha
  .rename_i w l' hw;split at ha
   .rename_i y hy;obtain⟨rfl,rfl⟩:=ad (aa ha);obtain⟨ds,aD,f1,f2,f3,f4,_⟩:=vx hr v w l' cs hw hv hk hal;have e3:=pA (jI w false t y _ hy f2);subst e3;have hl:cs.length=bE t:=by rw[<-up f1,bJ]
    exact⟨_,aD,fun k hk=>xQ (D0 v w l' cs hw hv hal) f1 (by simp only[wy]at hk;omega),fun r=>rfl,f3,f4,by simp only[wy];omega⟩
   .simp at ha
  .simp at ha
 |pt t=>
  intro v l i cs ha hv hk hal;cases v with
  |pt u v=>
   simp only[oP]at ha;split at ha
   .rename_i y hy;obtain⟨rfl,rfl⟩:=ad (aa ha);obtain⟨e,_⟩:=wJ hy;obtain⟨_,rfl⟩:=hv;refine⟨[.pt (aT t y)],[],fun k hk=>?_,fun r=>rfl,fun j hj=>by simp at hj,fun j hj=>by simp at hj,by simp[wy]⟩;rw[<-e];exact GP (h1:=h1) [.pt (aT t y)] k (by simp only[wy]at hk;simp;omega)
   .simp at ha
  |op id u p=>
   cases p with
   |cons=>simp[oP]at ha
   |nil=>
    obtain rfl:=hv;have e0:mQ u []=0:=by cases u<;>rfl
    rw[e0];simp only[oP]at ha;split at ha
    .rename_i w c ho;obtain⟨hc,ha⟩:=aO ha;simp only[ai,decide_eq_true_eq]at hc;split at ha
     .rename_i c' l' hw;split at ha
      .rename_i y hy;obtain⟨rfl,rfl⟩:=ad (aa ha);obtain⟨_,⟨cb,e1,e2,e3⟩,e4⟩:=hr.ob id _ ho;obtain⟨ds,aD,f1,f2,f3,f4,_⟩:=vx hr c c' l' cb hw e2 e4 hc.2;have e5:=pA (jI c' false t y _ hy f2);subst e5;have hl:cb.length=bE t:=by rw[<-up f1,bJ]
       have hnil:¬wh h id:=by
        rintro(⟨u',v',e⟩|⟨u',ln',e⟩)
        .rcases e with e|e<;>rw[ho]at e<;>simp at e
        .rw [ho]at e;cases e
       refine⟨[.pt (aT t y)],id::aD,fun k hk=>?_,fun r=>rfl,fun j hj=>?_,fun j hj=>?_,by simp[wy]⟩
       .simp only[wy]at hk;obtain⟨k,rfl⟩:∃k',k=k'+2:=⟨k-2,by omega⟩
        have hv:gw h1 k cb=some (aT t y,aD):=xQ (D0 c c' l' cb hw e2 hc.2) f1 (by omega);simp only[gw,fg,e1,hv,cG,if_true,cT,bB]
       .rcases aP.1 hj with rfl|hj
        .exact ⟨by simp,hnil⟩
        .exact ⟨by simp[(f3 j hj).1],(f3 j hj).2⟩
       .rcases aP.1 hj with rfl|hj
        .exact .inl (by simp)
        .exact (f4 j hj).imp (fun q=>by simp[q]) (fun q=>q)
      .simp at ha
     .simp at ha
    .rename_i w v ho;obtain⟨hc,ha⟩:=aO ha;split at ha
     .rename_i y hy;obtain⟨rfl,rfl⟩:=ad (aa ha);obtain⟨e,_⟩:=wJ hy;obtain⟨_,⟨_,e1⟩,_⟩:=hr.ob id _ ho
      have hnil:¬wh h id:=by
       rintro(⟨u',v',e⟩|⟨u',ln',e⟩)
       .rcases e with e|e<;>rw[ho]at e<;>simp at e
       .rw [ho]at e;cases e
      refine⟨[.pt (aT t y)],[id],fun k hk=>?_,fun r=>rfl,fun j hj=>?_,fun j hj=>.inl hj,by simp[wy]⟩
      .simp only[wy]at hk;obtain⟨k,rfl⟩:∃k',k=k'+2:=⟨k-2,by omega⟩
       simp only[gw,fg,e1,cG,if_true,cT,bB,e]
      .obtain rfl:=aq.1 hj;exact⟨by simp,hnil⟩
     .simp at ha
    .simp at ha
  |ep id m u p=>
   cases p with
   |cons=>simp[oP]at ha
   |nil=>
    obtain rfl:=hv;have e0:mQ u []=0:=by cases u<;>rfl
    rw[e0]
    have key:∀(w:Ty)(s:Sl (El w))(ver:Nat),(fO h id=some (.ar w s ver)\/fO h id=some (.im w s ver))->(bif decide (w=u)then(match gN w t (gt s.l m)with|some y=>some ([V.x t y],[id])|none=>none)else none)=some (l,i)->
      ∃ds aD,(∀k,wy (.pt t)<=k->gw h1 k [.ep id m 0]=some (ds,aD))/\(∀r,qR (.pt t) (l++r)=(ds,r))/\(∀j∈aD,j∈i/\¬wh h j)/\(∀j∈i,j∈aD\/wh h j)/\[C.ep id m 0].length<=wy (.pt t):=by
     intro w s ver ho ha;obtain⟨_,ha⟩:=aO ha;split at ha
     .rename_i y hy;obtain⟨rfl,rfl⟩:=ad (aa ha);obtain⟨e,_⟩:=wJ hy;have hm:=hk.2.2.1 w s ver ho;cases s with
      |nil=>simp[Sl.l]at hm
      |mk q=>
       refine⟨[.pt (aT t y)],[id],fun k hk=>?_,fun r=>rfl,fun j hj=>?_,fun j hj=>.inl hj,by simp[wy]⟩
       .simp only[wy]at hk;obtain⟨k,rfl⟩:∃k',k=k'+1:=⟨k-1,by omega⟩
        have hg:(q.map (aT w))[m]?=some (aT w (gt q m)):=rz hm;have e2:aT w (gt q m)=aT t y:=e.symm;rcases ho with ho|ho
        .have e1:=(hr.ob id _ ho).2.1.2.2 q rfl;have:fg h1 k (.ep id m 0)=some (.pt (aT t y),[id]):=by cases k<;>simp only[fg,e1,hg,cG,if_true,cT,e2]
         simp only[gw,this,bB]
        .have e1:=(hr.ob id _ ho).2.1.2.2 q rfl;have:fg h1 k (.ep id m 0)=some (.pt (aT t y),[id]):=by cases k<;>simp only[fg,e1,hg,cG,if_true,cT,e2]
         simp only[gw,this,bB]
       .obtain rfl:=aq.1 hj;exact⟨by simp,UD ho⟩
     .simp at ha
    simp only[oP]at ha;split at ha
    .rename_i ho;exact key _ _ _ (.inl ho) ha
    .rename_i ho;exact key _ _ _ (.inr ho) ha
    .simp at ha
  |_=>simp[oP]at ha
 |nl k=>
  intro v l i cs ha hv hk hal;cases v with
  |nl k'=>
   simp only[oP]at ha;obtain⟨hc,ha2⟩:=aO ha;obtain rfl:k=k':=by simpa using hc
   obtain⟨rfl,rfl⟩:=ad (aa ha2);obtain rfl:=hv;refine⟨[Pg k],[],fun j hj=>?_,fun r=>rfl,fun j hj=>by simp at hj,fun j hj=>by simp at hj,by simp[wy]⟩;simp only[wy]at hj;obtain⟨j,rfl⟩:∃k',j=k'+1:=⟨j-1,by omega⟩
   have e:gw h1 j []=some ([],[]):=by cases j<;>rfl
   rw[Ql];simp only[gw,GQ,e,bB]
  |_=>simp[oP]at ha
 |fn f c ih=>
  intro v l i cs ha hv hk hal;cases v with
  |fn z f' q=>
   simp only[oP]at ha;obtain⟨hc,ha2⟩:=aO ha;obtain rfl:f=f':=by simpa using hc
   cases z with
   |true=>
    obtain⟨ds0,hd,rfl⟩:=hv;have hal':Ct q=true:=hal;obtain⟨a1,a2⟩:=zF (h:=h) q hal';obtain⟨ds,aD,g1,g2,g3,g4,g5⟩:=ih q l i (ds0.map .d) ha2 (MM q ds0 hd) (a2 n) a1;have e:=g1 (wy c+ds0.length+1) (by omega);rw[GP ds0 _ (by omega)]at e;obtain⟨rfl,rfl⟩:=ad (aa e);refine⟨[.fn f ds0],[],fun k hk=>?_,fun r=>?_,g3,g4,by simp[wy]⟩
    .simp only[wy]at hk;exact GP (h1:=h1) [.fn f ds0] k (by simp;omega)
    .simp only[qR,g2 r]
   |false=>
    obtain⟨xs,h2,rfl⟩:=hv;obtain⟨ds,aD,g1,g2,g3,g4,g5⟩:=ih q l i xs ha2 h2 hk hal;refine⟨[.fn f ds],aD,fun k hk=>?_,fun r=>?_,g3,g4,by simp[wy]⟩
    .simp only[wy]at hk;obtain⟨k,rfl⟩:∃k',k=k'+2:=⟨k-2,by omega⟩
     simp only[gw,fg,g1 k (by omega),bB]
    .simp only[qR,g2 r]
  |_=>simp[oP]at ha
 |pr a c iha ihc=>
  intro v l i cs ha hv hk hal;cases v with
  |co x r=>
   simp only[oP]at ha;split at ha
   .rename_i l1 i1 l2 i2 h2 h3;obtain⟨rfl,rfl⟩:=ad (aa ha);obtain⟨cx,cr,rfl,h4,h5⟩:=hv;simp only[iD,ai]at hal;obtain⟨d1,j1,a1,a2,a3,a4,a5⟩:=iha x l1 i1 cx h2 h4 hk.1 hal.1;obtain⟨d2,j2,b1,b2,b3,b4,b5⟩:=ihc r l2 i2 cr h3 h5 hk.2 hal.2;refine⟨d1++d2,j1++j2,fun k hk=>?_,fun r=>?_,fun j hj=>?_,fun j hj=>?_,by simp[wy];omega⟩
    .simp only[wy]at hk;exact Bz (a1 k (by omega)) (b1 _ (by omega)) (by omega)
    .simp only[qR,aL,a2,b2]
    .rcases ap.1 hj with hj|hj
     .exact ⟨aF _ (a3 j hj).1,(a3 j hj).2⟩
     .exact ⟨aH _ (b3 j hj).1,(b3 j hj).2⟩
    .rcases ap.1 hj with hj|hj
     .exact (a4 j hj).imp (aF _) id
     .exact (b4 j hj).imp (aH _) id
   .simp at ha
  |_=>simp[oP]at ha
 |ni=>intro v l i cs ha hv hk hal;cases v with|ni=>obtain⟨rfl,rfl⟩:=ad (aa ha);obtain rfl:=hv;exact⟨[],[],fun k _=>(by cases k<;>rfl),fun r=>rfl,fun j hj=>by simp at hj,fun j hj=>by simp at hj,by simp⟩|_=>simp[oP]at ha
 |_=>intro v l i cs ha;simp[oP]at ha
end
def qy:Sh->Nat
 |.x t=>bE t+1
 |.pb _ c=>qy c+2
 |.st c=>qy c
 |.pr a c=>qy a+qy c
 |.ni=>0
 |_=>1
section
variable{h:H2}{n:Nat}{h1:bH}
theorem vb(k:Nat)(x:D):eK h1 k (.d x)=some (.d x,[],[]):=by cases k<;>rfl
theorem pj(k:Nat):iJ h1 k []=some ([],[],[]):=by cases k<;>rfl
theorem p9:∀(ds:List D)(k:Nat),ds.length<=k->iJ h1 k (ds.map .d)=some (ds.map .d,[],[]):=by
 intro ds;induction ds with
 |nil=>intro k _;exact pj k
 |cons d ds ih=>intro k hk;cases k with|zero=>simp at hk|succ k=>simp only[aB,iJ,vb,ih k (by simpa using hk),bB]
theorem u_:∀{x y:List C}{tx ty:List T}{ox oy ix iy:List Nat}{k:Nat},iJ h1 k x=some (tx,ox,ix)->iJ h1 (k-x.length) y=some (ty,oy,iy)->x.length<=k->iJ h1 k (x++y)=some (tx++ty,ox++oy,ix++iy):=by
 intro x;induction x with
 |nil=>intro y tx ty ox oy ix iy k hx hy _;rw[pj]at hx;obtain⟨rfl,e⟩:=ad (aa hx);obtain⟨rfl,rfl⟩:=ad e;simpa using hy
 |cons c x ih=>
  intro y tx ty ox oy ix iy k hx hy hk;cases k with
  |zero=>simp at hk
  |succ k=>
   simp only[iJ]at hx;split at hx
   .rename_i p a i q b j hp hq;obtain⟨rfl,e⟩:=ad (aa hx);obtain⟨rfl,rfl⟩:=ad e;simp only[aU,iJ,hp];rw[ih hq (by simpa using hy) (by simpa using hk)];simp
   .simp at hx
theorem u9{c:C}{t:T}{bv rd:List Nat}{k:Nat}(hc:eK h1 k c=some (t,bv,rd)):iJ h1 (k+1) [c]=some ([t],bv,rd):=by simp only[iJ,hc,pj,bB]
theorem TZ{t:Ty}{id k:Nat}{q:List (Sl (El t))}(h:aC h1 id=some (.nst (bE t) (fT t q none))):eK h1 k (mU 1 (aT (.sl t)) id (Sl.mk q:Sl (Sl (El t))))=some (.zK (bE t) (q.map (Ir t)),[id],[id]):=by simp only[mU,fT]at h|-;cases k<;>simp only[eK,h,aN,and_self,if_true,Ii]
theorem wO(hr:HR n h1 h):∀(c:Sh)(ln:Bool)(v:V)(l:List V)(i:List Nat)(cs:List C),dZ h c ln v=some (l,i)->fC h v cs->ft n h v->
  ∃ts bv rd,(∀k,qy c<=k->iJ h1 k cs=some (ts,bv,rd))/\(∀r,fF c (l++r)=(ts,r))/\bv.Sublist i/\(∀j∈i,j∈bv\/wh h j)/\(∀j∈rd,j∈i)/\cs.length<=qy c/\(∀j∈i,j<n):=by
 intro c;induction c with
 |x t=>
  intro ln v l i cs ha hv hk;cases ln with
  |true=>simp[dZ]at ha
  |false=>
   simp only[dZ]at ha;split at ha
   .rename_i y hy;obtain⟨rfl,rfl⟩:=ad (aa ha);have e:=jI v false t y cs hy hv;subst e;exact⟨_,[],[],fun k hk=>p9 _ k (by rw[bJ];simp only[qy]at hk;omega),fun r=>rfl,bL _,fun j hj=>by simp at hj,fun j hj=>hj,by simp[qy,bJ],fun j hj=>by simp at hj⟩
   .simp at ha
 |os t=>
  intro ln v l i cs ha hv hk;cases ln with
  |true=>simp[dZ]at ha
  |false=>
   cases v with
   |so id=>
    simp only[dZ]at ha;split at ha
    .rename_i u s ver ho;split at ha
     .rename_i s' hs;obtain⟨rfl,rfl⟩:=ad (aa ha);obtain⟨e,rfl⟩:=du hs;cases e;obtain⟨c,rfl,hc⟩:=hv;rw[hc.1 _ (mS (.inl ho))];cases s with
      |nil=>exact⟨[.d (.lit (.slice none 0 0))],[],[],fun k hk=>p9 [.lit (.slice none 0 0)] k (by simpa[qy]using hk),fun r=>rfl,j9 _,fun j hj=>by obtain rfl:=aq.1 hj;exact .inr (.inl ⟨_,_,.inl ho⟩),fun j hj=>by simp at hj,by simp[qy],fun j hj=>by obtain rfl:=aq.1 hj;exact hk⟩
      |mk q=>
       have e1:=(hr.ob id _ ho).2.1.2.2 q rfl;refine⟨[.sl (bE t) (q.map (aT t))],[id],[id],fun k hk=>?_,fun r=>rfl,bL _,fun j hj=>.inl hj,fun j hj=>hj,by simp[qy],fun j hj=>by obtain rfl:=aq.1 hj;exact hk⟩;obtain⟨k,rfl⟩:∃k',k=k'+1:=⟨k-1,by simp only[qy]at hk;omega⟩
       exact u9 (UZ e1)
     .simp at ha
    .simp at ha
   |nl k=>cases k with|zero=>obtain⟨rfl,rfl⟩:=ad (aa ha);obtain rfl:=hv;exact⟨[.d (.lit (.slice none 0 0))],[],[],fun k hk=>p9 [.lit (.slice none 0 0)] k (by simpa[qy]using hk),fun r=>rfl,bL _,fun j hj=>by simp at hj,fun j hj=>hj,by simp[qy],fun j hj=>by simp at hj⟩|succ k=>simp[dZ]at ha
   |_=>simp[dZ]at ha
 |rw t=>
  intro ln v l i cs ha hv hk;cases ln with
  |true=>simp[dZ]at ha
  |false=>
   cases v with
   |sr id=>
    simp only[dZ]at ha;split at ha
    .rename_i u s ho;split at ha
     .rename_i s' hs;obtain⟨rfl,rfl⟩:=ad (aa ha);obtain⟨e,rfl⟩:=du hs;cases e;obtain⟨c,rfl,hc⟩:=hv;rw[hc.1 _ (sB ho)];cases s with
      |nil=>exact⟨[.d (.lit (.slice none 0 0))],[],[],fun k hk=>p9 [.lit (.slice none 0 0)] k (by simpa[qy]using hk),fun r=>rfl,j9 _,fun j hj=>by obtain rfl:=aq.1 hj;exact .inr (.inr ⟨_,_,ho⟩),fun j hj=>by simp at hj,by simp[qy],fun j hj=>by obtain rfl:=aq.1 hj;exact hk⟩
      |mk q=>
       have e1:=(hr.ob id _ ho).2.1.2.2 q rfl;refine⟨[.zK (bE t) (q.map (Ir t))],[id],[id],fun k hk=>?_,fun r=>rfl,bL _,fun j hj=>.inl hj,fun j hj=>hj,by simp[qy],fun j hj=>by obtain rfl:=aq.1 hj;exact hk⟩;obtain⟨k,rfl⟩:∃k',k=k'+1:=⟨k-1,by simp only[qy]at hk;omega⟩
       exact u9 (TZ e1)
     .simp at ha
    .simp at ha
   |nl k=>cases k with|zero=>obtain⟨rfl,rfl⟩:=ad (aa ha);obtain rfl:=hv;exact⟨[.d (.lit (.slice none 0 0))],[],[],fun k hk=>p9 [.lit (.slice none 0 0)] k (by simpa[qy]using hk),fun r=>rfl,bL _,fun j hj=>by simp at hj,fun j hj=>hj,by simp[qy],fun j hj=>by simp at hj⟩|succ k=>simp[dZ]at ha
   |_=>simp[dZ]at ha
 |pb t c ih=>
  intro ln v l i cs ha hv hk;cases ln with
  |true=>simp[dZ]at ha
  |false=>
   cases v with
   |op id u p=>
    cases p with
    |cons=>simp[dZ]at ha
    |nil=>
     simp only[dZ]at ha;split at ha
     .rename_i w q ho;obtain⟨hc,ha2⟩:=aO ha;split at ha2
      .rename_i l' i' ha3;obtain⟨rfl,rfl⟩:=ad (aa ha2);obtain rfl:=hv;have e0:mQ u []=0:=by cases u<;>rfl
       rw[e0];obtain⟨_,⟨cb,e1,e2,e3⟩,e4⟩:=hr.ob id _ ho;obtain⟨ts,bv,rd,g1,g2,g3,g4,g5,g6,g7⟩:=ih false q l' i' cb ha3 e2 e4;refine⟨[.pt ts],id::bv,id::rd,fun k hk=>?_,fun r=>by simp only[fF,g2 r],g3.cons_cons _,fun j hj=>?_,fun j hj=>?_,by simp[qy],fun j hj=>?_⟩
       .obtain ⟨k,rfl⟩:∃k',k=k'+2:=⟨k-2,by simp only[qy]at hk;omega⟩
        refine u9 ?_;simp only[eK,e1,g1 k (by simp only[qy]at hk;omega)]
       .rcases aP.1 hj with rfl|hj
        .exact .inl (by simp)
        .exact (g4 j hj).imp (fun q=>by simp[q]) (fun q=>q)
       .rcases aP.1 hj with rfl|hj
        .simp
        .simp [g5 j hj]
       .rcases aP.1 hj with rfl|hj
        .exact hk.1
        .exact g7 j hj
      .simp at ha2
     .simp at ha
   |_=>simp[dZ]at ha
 |nl k=>
  intro ln v l i cs ha hv hk;cases ln with
  |true=>simp[dZ]at ha
  |false=>
   cases v with
   |nl k'=>
    simp only[dZ]at ha;obtain⟨hc,ha2⟩:=aO ha;obtain rfl:k=k':=by simpa using hc
    obtain⟨rfl,rfl⟩:=ad (aa ha2);obtain rfl:=hv;exact⟨[.d (Pg k)],[],[],fun j hj=>p9 [Pg k] j (by simpa[qy]using hj),fun r=>rfl,bL _,fun j hj=>by simp at hj,fun j hj=>hj,by simp[qy],fun j hj=>by simp at hj⟩
   |_=>simp[dZ]at ha
 |st c ih=>
  intro ln v l i cs ha hv hk;cases ln with
  |true=>simp[dZ]at ha
  |false=>
   cases v with
   |rc q=>exact ih true q l i cs ha hv hk
   |x t v=>cases t with|st u=>obtain⟨hd,rfl⟩:=hv;exact ih true (H6 u v) l i _ ha (BD u v hd) (EX u v)|_=>simp[dZ]at ha
   |_=>simp[dZ]at ha
 |pr a c iha ihc=>
  intro ln v l i cs ha hv hk;cases ln with
  |false=>simp[dZ]at ha
  |true=>
   cases v with
   |co x r=>
    simp only[dZ]at ha;split at ha
    .rename_i l1 i1 l2 i2 h2 h3;obtain⟨rfl,rfl⟩:=ad (aa ha);obtain⟨cx,cr,rfl,h4,h5⟩:=hv
     have hA:∃ts bv rd,(∀k,qy a<=k->iJ h1 k cx=some (ts,bv,rd))/\(∀r,fF a (l1++r)=(ts,r))/\bv.Sublist i1/\(∀j∈i1,j∈bv\/wh h j)/\(∀j∈rd,j∈i1)/\cx.length<=qy a/\(∀j∈i1,j<n):=by
      split at h2
      .rename_i t u v;unfold Qo at h2;split at h2
       .obtain ⟨rfl,rfl⟩:=ad (aa h2);obtain⟨_,rfl⟩:=h4;exact⟨[.d (.lit (.slice none 0 0))],[],[],fun k hk=>p9 [.lit (.slice none 0 0)] k (by simpa[qy]using hk),fun r=>rfl,bL _,fun j hj=>by simp at hj,fun j hj=>hj,by simp[qy,aT],fun j hj=>by simp at hj⟩
       .simp at h2
      .exact iha false x l1 i1 cx h2 h4 hk.1
     obtain⟨t1,o1,r1,a1,a2,a3,a4,a5,a6,a7⟩:=hA;obtain⟨t2,o2,r2,b1,b2,b3,b4,b5,b6,b7⟩:=ihc true r l2 i2 cr h3 h5 hk.2;refine⟨t1++t2,o1++o2,r1++r2,fun k hk=>?_,fun r=>?_,a3.append b3,fun j hj=>?_,fun j hj=>?_,by simp[qy];omega,fun j hj=>?_⟩
     .simp only[qy]at hk;exact u_ (a1 k (by omega)) (b1 _ (by omega)) (by omega)
     .simp only[fF,aL,a2,b2]
     .rcases ap.1 hj with hj|hj
      .exact (a4 j hj).imp (aF _) (fun q=>q)
      .exact (b4 j hj).imp (aH _) (fun q=>q)
     .rcases ap.1 hj with hj|hj
      .exact aF _ (a5 j hj)
      .exact aH _ (b5 j hj)
     .rcases ap.1 hj with hj|hj
      .exact a7 j hj
      .exact b7 j hj
    .simp at ha
   |_=>simp[dZ]at ha
 |ni=>
  intro ln v l i cs ha hv hk;cases ln with
  |false=>cases v<;>simp[dZ]at ha
  |true=>cases v with|ni=>obtain⟨rfl,rfl⟩:=ad (aa ha);obtain rfl:=hv;exact⟨[],[],[],fun k _=>pj k,fun r=>rfl,bL _,fun j hj=>by simp at hj,fun j hj=>hj,by simp,fun j hj=>by simp at hj⟩|_=>simp[dZ]at ha
 |_=>intro ln v l i cs ha;cases ln<;>simp[dZ]at ha
theorem ES:∀(a b:List T)(m:Nat),iE m (a++b)=((iE m a).1++(iE (iE m a).2.2 b).1,(iE m a).2.1++(iE (iE m a).2.2 b).2.1,(iE (iE m a).2.2 b).2.2):=by intro a;induction a with|nil=>intro b m;simp[iE]|cons t a ih=>intro b m;simp only[aU,iE,ih,aL]
theorem re(t:T)(m:Nat):iE m [t]=([(k8 m t).1],(k8 m t).2.1,(k8 m t).2.2):=by simp[iE]
theorem RL:∀(ds:List D)(m:Nat),iE m (ds.map T.d)=(ds.map .d,[],m+ds.length):=by intro ds;induction ds with|nil=>intro m;rfl|cons d ds ih=>intro m;simp only[aB,iE,k8,ih,List.nil_append,List.length_cons];congr 2;omega
theorem wj{a b:fL}(hd:∀p∈a,∀q∈b,p.1≠q.1)(i:Nat):aC (a++b++h1) i=aC (b++(a++h1)) i:=by rw[gK,gK,gK,<-ew,mD hd]
structure Mk(s s':S2)(h1:bH)(u:fL):Prop where
 hr:HR s'.next (u++h1) s'.heap
 eY:k7 s.next s.heap s'.heap
 dT:s'.dT=s.dT
 gh:s'.gh=s.gh
 le:s.next<=s'.next
 FZ:∀p∈u,s.next<=p.1/\p.1<s'.next
 wo:∃W,s'.wo=W++s.wo/\(∀p∈u,p.1∈W)/\(∀i∈W,s.next<=i/\i<s'.next)/\∀i,i∉W->fO s'.heap i=fO s.heap i
theorem Mk.skip{s:S2}{m:Nat}(hr:HR s.next h1 s.heap)(hm:s.next<=m):Mk s {s with next:=m} h1 []:=⟨hr.mono hm,k7.refl _ _,rfl,rfl,hm,fun p hp=>by simp at hp,[],rfl,fun p hp=>by simp at hp,fun i hi=>by simp at hi,fun _ _=>rfl⟩
theorem Mk.seq{s s1 s2:S2}{u1 u2:fL}(a:Mk s s1 h1 u1)(b:Mk s1 s2 (u1++h1) u2):Mk s s2 h1 (u1++u2):=by
 obtain⟨a3,a4,a5,a6,a7,a8,W,v1,v2,v3,v4⟩:=a;obtain⟨b3,b4,b5,b6,b7,b8,X,x1,x2,x3,x4⟩:=b;refine⟨?_,a4.trans a7 b4,b5.trans a5,b6.trans a6,by omega,fun p hp=>?_,X++W,by rw[x1,v1,aL],fun p hp=>?_,fun i hi=>?_,fun i hi=>?_⟩
 .exact b3.ext fun i=>wj (fun p hp q hq e=>by have:=(a8 p hp).2;have:=(b8 q hq).1;omega) i
 .rcases ap.1 hp with hp|hp
  .have:=a8 p hp;omega
  .have:=b8 p hp;omega
 .rcases ap.1 hp with hp|hp
  .exact aH _ (v2 p hp)
  .exact aF _ (x2 p hp)
 .rcases ap.1 hi with hi|hi
  .have:=x3 i hi;omega
  .have:=v3 i hi;omega
 .rw [x4 i fun q=>hi (aF _ q),v4 i fun q=>hi (aH _ q)]
end
section
variable{h:H2}{n:Nat}
theorem k7.bx{id:Nat}{t:Ty}{c:V}:k7 n h ((id,some (.bx t c))::h):=⟨fun i o hi ho=>by
 rw[eG]at ho;split at ho
 .obtain rfl:=aa ho;exact .inr rfl
 .exact .inl ⟨o,ho,vK.refl _⟩⟩
theorem Mk.one{s:S2}{h1:bH}{o:O}{b:Option Ob}{u:fL}(hr:HR s.next h1 s.heap)(hu:u=[(s.next,b)]\/(u=[]/\∀b',yD ((s.next,some o)::s.heap) o b'))(hb:u=[(s.next,b)]->yD ((s.next,some o)::s.heap) o b)
  (hko:He (s.next+1) ((s.next,some o)::s.heap) o):Mk s (kc s o) h1 u:=by
 have hd:=tV.new (x:=.iS []) (v:=.no) (aD:=[]) (l:=[]) (m:=s.next+1) hr hu hb hko rfl trivial (fun i hi=>by simp at hi) (au _);refine⟨hd.hr,hd.eY,rfl,rfl,bO _,fun p hp=>?_,[s.next],rfl,fun p hp=>?_,fun i hi=>?_,fun i hi=>?_⟩
 .rcases hu with rfl|⟨rfl,_⟩
  .obtain rfl:=aq.1 hp;exact⟨au _,aZ _⟩
  .simp at hp
 .rcases hu with rfl|⟨rfl,_⟩
  .obtain rfl:=aq.1 hp;simp
  .simp at hp
 .obtain rfl:=aq.1 hi;exact⟨au _,aZ _⟩
 .simp only[kc];rw[eG,if_neg fun e=>hi (by simp[e])]
theorem vj:∀(c:Sh)(ln:Bool)(l:List V)(s:S2)(w:V)(l':List V)(s':S2)(h1:bH),qX c ln l s=some (w,l',s')->HR s.next h1 s.heap->
  fC s'.heap w (iE s.next (fF c l).1).1/\ft s'.next s'.heap w/\Mk s s' h1 (iE s.next (fF c l).1).2.1/\s'.next=(iE s.next (fF c l).1).2.2/\l'=(fF c l).2/\(ln=false->te w=xz c):=by
 intro c;induction c with
 |x t=>
  intro ln l s w l' s' h1 hm hr;cases ln with
  |true=>simp[qX]at hm
  |false=>match l with|.x u v::l=>simp only[qX]at hm;obtain⟨hc,hm2⟩:=aO hm;simp only[ai,decide_eq_true_eq]at hc;obtain⟨rfl,hd⟩:=hc;obtain⟨rfl,e⟩:=ad (aa hm2);obtain⟨rfl,rfl⟩:=ad e;simp only[fF,RL,bJ];exact⟨⟨hd,rfl⟩,trivial,Mk.skip hr (Nat.le_add_right _ _),trivial,trivial,fun _=>rfl⟩|[]|.kb _::_|.nl _::_|.so _::_|.sr _::_|.sb _ _ _ _ _::_|.op _ _ _::_|.ep _ _ _ _::_|.pt _ _::_|.fn _ _ _::_|.om _::_|.rc _::_|.tp _::_|.ni::_|.co _ _::_|.fl _::_|.no::_|.gn::_=>simp[qX]at hm
 |os t=>
  intro ln l s w l' s' h1 hm hr;cases ln with
  |true=>simp[qX]at hm
  |false=>
   match l with
   |.x (.sl u) v::l=>
    simp only[qX]at hm;obtain⟨hc,hm2⟩:=aO hm;simp only[ai,decide_eq_true_eq]at hc;obtain⟨rfl,hd⟩:=hc;obtain⟨d1,d2⟩:=qd hd;obtain⟨rfl,e⟩:=ad (aa hm2);obtain⟨rfl,rfl⟩:=ad e;simp only[fF,re];have hv:fC (kc s (.ar u v 0)).heap (.so s.next) [mU (bE u) (aT u) s.next v]:=⟨_,rfl,fun c' hc'=>by simp only[kc,tO]at hc';exact aa hc',BJ⟩
    cases v with|nil=>exact⟨hv,aZ _,Mk.one (b:=none) hr (.inr ⟨rfl,fun b'=>⟨d1,d2,fun l e=>by cases e⟩⟩) (fun e=>by cases e) trivial,by first|rfl|trivial,by first|rfl|trivial,fun _=>rfl⟩|mk q=>exact⟨hv,aZ _,Mk.one (b:=some (.aM (bE u) (q.map (aT u)))) hr (.inl rfl) (fun _=>⟨d1,d2,fun l e=>by cases e;rfl⟩) trivial,by first|rfl|trivial,by first|rfl|trivial,fun _=>rfl⟩
   |[]|.kb _::_|.nl _::_|.so _::_|.sr _::_|.sb _ _ _ _ _::_|.op _ _ _::_|.ep _ _ _ _::_|.pt _ _::_|.fn _ _ _::_|.om _::_|.rc _::_|.tp _::_|.ni::_|.co _ _::_|.fl _::_|.no::_|.gn::_=>simp[qX]at hm
   |.x (.i _) _::_|.x .b _::_|.x .s _::_|.x (.f _) _::_|.x (.mp _ _) _::_|.x .un _::_|.x (.pr _ _) _::_|.x (.st _) _::_|.x (.ar _ _) _::_|.x (.o _) _::_=>simp[qX]at hm
 |rw t=>
  intro ln l s w l' s' h1 hm hr;cases ln with
  |true=>simp[qX]at hm
  |false=>
   match l with
   |.x (.sl (.sl u)) v::l=>
    simp only[qX]at hm;obtain⟨hc,hm2⟩:=aO hm;simp only[ai,decide_eq_true_eq]at hc;obtain⟨rfl,hd⟩:=hc;obtain⟨d1,d2⟩:=qd hd;obtain⟨rfl,e⟩:=ad (aa hm2);obtain⟨rfl,rfl⟩:=ad e;simp only[fF,re];have hv:fC (kc s (.rw u v none)).heap (.sr s.next) [mU 1 (aT (.sl u)) s.next (v:Sl (Sl (El u)))]:=⟨_,rfl,fun c' hc'=>by simp only[kc,tO]at hc';exact aa hc',BJ⟩
    cases v with
    |nil=>exact⟨hv,aZ _,Mk.one (b:=none) hr (.inr ⟨rfl,fun b'=>⟨d1,d2,fun l e=>by cases e⟩⟩) (fun e=>by cases e) trivial,by first|rfl|trivial,by first|rfl|trivial,fun _=>rfl⟩
    |mk q=>
     have e1:(k8 s.next (x_ u (.mk q))).1=mU 1 (aT (.sl u)) s.next (Sl.mk q:Sl (Sl (El u))):=by simp[x_,k8,mU]
     have e2:(k8 s.next (x_ u (.mk q))).2.1=[(s.next,some (.nst (bE u) (fT u q none)))]:=by simp only[x_,k8,yd,fT]
     rw[e1,e2];exact⟨hv,aZ _,Mk.one (b:=some (.nst (bE u) (fT u q none))) hr (.inl rfl) (fun _=>⟨d1,d2,fun l e=>by cases e;rfl⟩) trivial,by first|rfl|trivial,by first|rfl|trivial,fun _=>rfl⟩
   |[]|.kb _::_|.nl _::_|.so _::_|.sr _::_|.sb _ _ _ _ _::_|.op _ _ _::_|.ep _ _ _ _::_|.pt _ _::_|.fn _ _ _::_|.om _::_|.rc _::_|.tp _::_|.ni::_|.co _ _::_|.fl _::_|.no::_|.gn::_=>simp[qX]at hm
   |.x (.sl (.i _)) _::_|.x (.sl .b) _::_|.x (.sl .s) _::_|.x (.sl (.f _)) _::_|.x (.sl (.mp _ _)) _::_|.x (.sl .un) _::_|.x (.sl (.pr _ _)) _::_|.x (.sl (.st _)) _::_|.x (.sl (.ar _ _)) _::_|.x (.sl (.o _)) _::_|.x (.i _) _::_|.x .b _::_|.x .s _::_|.x (.f _) _::_|.x (.mp _ _) _::_|.x .un _::_|.x (.pr _ _) _::_|.x (.st _) _::_|.x (.ar _ _) _::_|.x (.o _) _::_=>simp[qX]at hm
 |pb t c ih=>
  intro ln l s w l' s' h1 hm hr;cases ln with
  |true=>simp[qX]at hm
  |false=>
   simp only[qX]at hm;split at hm
   .rename_i w0 l0 s2 hm0;obtain⟨hf,hm2⟩:=aO hm;obtain⟨rfl,e⟩:=ad (aa hm2);obtain⟨rfl,rfl⟩:=ad e;obtain⟨q1,q2,q3,q4,q5,_⟩:=ih false l {s with next:=s.next+1} w0 l0 s2 h1 hm0 (hr.mono (bO _));simp only[fF,re,k8];obtain⟨a3,a4,a5,a6,a7,a8,W,v1,v2,v3,v4⟩:=q3;simp only at a4 a5 a6 a7 a8 v1 v3 v4;have hlt:s.next<s2.next:=by omega
    have hin:∀i,i∉W->fO s2.heap i=fO s.heap i:=v4;refine⟨?_,⟨hlt,by cases t<;>trivial⟩,⟨?_,?_,a5,a6,by show s.next<=s2.next;omega,fun p hp=>?_,s.next::W,by simp only[ff,v1];rfl,fun p hp=>?_,fun i hi=>?_,fun i hi=>?_⟩,q4,q5,fun _=>rfl⟩
    .show [_]=[_]
     have e0:mQ t []=0:=by cases t<;>rfl
     rw[e0]
    .refine HR.Nc (u:=[(s.next,some (.box _))]) a3 (au _) hlt k7.bx (fun i hi=>?_) fun o' ho'=>?_
     .rw [bo,eP,if_neg fun e=>hi e.symm]
     .obtain rfl:=aa ho';refine⟨?_,gS (au _) k7.bx q2⟩;rw[bo,eP,if_pos rfl];exact⟨_,rfl,lH k7.bx q2 q1,hf⟩
    .exact k7.trans (n':=s2.next) (by omega) (⟨fun i o hi ho=>a4.ob i o (by omega) ho⟩:k7 s.next s.heap s2.heap) k7.bx
    .simp only[ff];rcases aP.1 hp with rfl|hp
     .exact ⟨au _,hlt⟩
     .have:=a8 p hp;omega
    .rcases aP.1 hp with rfl|hp
     .simp
     .exact aA _ (v2 p hp)
    .simp only[ff];rcases aP.1 hi with rfl|hi
     .exact ⟨au _,hlt⟩
     .have:=v3 i hi;omega
    .simp only[ff];rw[eG,if_neg fun e=>hi (by simp[e]),hin i fun q=>hi (by simp[q])]
   .simp at hm
 |nl k=>intro ln l s w l' s' h1 hm hr;cases ln with|true=>simp[qX]at hm|false=>simp only[qX]at hm;obtain⟨rfl,e⟩:=ad (aa hm);obtain⟨rfl,rfl⟩:=ad e;simp only[fF,re,k8];exact⟨rfl,trivial,Mk.skip hr (bO _),by first|rfl|trivial,by first|rfl|trivial,fun _=>rfl⟩
 |st c ih=>
  intro ln l s w l' s' h1 hm hr;cases ln with
  |true=>simp[qX]at hm
  |false=>
   simp only[qX]at hm;split at hm
   .rename_i w0 l0 s2 hm0;obtain⟨rfl,e⟩:=ad (aa hm);obtain⟨rfl,rfl⟩:=ad e;obtain⟨q1,q2,q3,q4,q5,_⟩:=ih true l s w0 l0 s2 h1 hm0 hr;exact⟨q1,q2,q3,q4,q5,fun _=>rfl⟩
   .simp at hm
 |pr a c iha ihc=>
  intro ln l s w l' s' h1 hm hr;cases ln with
  |false=>simp[qX]at hm
  |true=>
   simp only[qX]at hm;split at hm
   .rename_i x l1 s1 hm1;split at hm
    .rename_i r l2 s2 hm2;obtain⟨rfl,e⟩:=ad (aa hm);obtain⟨rfl,rfl⟩:=ad e;obtain⟨q1,q2,q3,q4,q5,_⟩:=iha false l s x l1 s1 h1 hm1 hr;subst q5;obtain⟨p1,p2,p3,p4,p5,_⟩:=ihc true _ s1 r l2 s2 _ hm2 q3.hr;subst p5;simp only[fF,ES];rw[q4]at p1 p3 p4;exact⟨⟨_,_,rfl,lH p3.eY q2 q1,p1⟩,⟨gS p3.le p3.eY q2,p2⟩,Mk.seq q3 p3,p4,by first|rfl|trivial,fun e=>by cases e⟩
    .simp at hm
   .simp at hm
 |ni=>intro ln l s w l' s' h1 hm hr;cases ln with|false=>simp[qX]at hm|true=>simp only[qX]at hm;obtain⟨rfl,e⟩:=ad (aa hm);obtain⟨rfl,rfl⟩:=ad e;exact⟨rfl,trivial,Mk.skip hr (au _),rfl,rfl,fun e=>by cases e⟩
 |_=>intro ln l s w l' s' h1 hm;cases ln<;>simp[qX]at hm
end
def N_:List (Bool×Sh)->List Bool->Bool
 |[],_=>true
 |(b,_)::r,ms=>decide (ms.headD false=b)&&N_ r ms.tail
def vn:Sh->Bool
 |.os _|.rw _|.pb _ _|.nl _=>true
 |_=>false
def yC:Sh->Bool
 |.x t=>bE t==1
 |.os _|.rw _|.pb _ _|.nl _|.pt _|.fn _ _=>true
 |_=>false
def BP:List (Bool×Sh)->Bool
 |[]=>true
 |(b,c)::r=>(bif b then vn c&&Nat.ble (qy c) 300 else(xz c||yC c)&&Nat.ble (wy c) 300)&&BP r
section
variable{h:H2}{n:Nat}{h1:bH}
def PE(h:H2)(n:Nat)(h1:bH)(p:V×List Nat)(q:C×List Nat×List Nat):Prop:=
 fC h p.1 [q.1]/\ft n h p.1/\(∃t,eK h1 300 q.1=some (t,q.2.1,q.2.2))/\q.2.1.Sublist p.2/\(∀j∈p.2,j∈q.2.1\/wh h j)/\(∀j∈q.2.2,j∈p.2)/\(∀j∈p.2,j<n)/\
  match p.1 with|.so id=>p.2=[id]/\∃u s ver,fO h id=some (.ar u s ver)|.sr id=>p.2=[id]/\∃u s,fO h id=some (.rw u s none)|.op id _ _=>id∈p.2/\¬wh h id|.nl _=>True|_=>False
def xh(h:H2)(n:Nat)(h1:bH):List (V×List Nat)->List (C×List Nat×List Nat)->Prop
 |[],l=>l=[]
 |p::r,l=>∃q m,l=q::m/\PE h n h1 p q/\xh h n h1 r m
theorem L3{v w:V}{l:List Nat}(hf:kN h v=some (w,l)):te v=te w:=by
 cases v with
 |so id=>
  simp only[kN]at hf;split at hf
  .obtain ⟨rfl,_⟩:=ad (aa hf);rfl
  .simp at hf
 |sr id=>
  simp only[kN]at hf;split at hf
  .obtain ⟨rfl,_⟩:=ad (aa hf);rfl
  .simp at hf
 |sb id ver lo t r=>simp only[kN,t_]at hf;obtain⟨rfl,_⟩:=ad (aa hf);rfl
 |rc l=>
  simp only[kN]at hf;split at hf
  .obtain ⟨rfl,_⟩:=ad (aa hf);rfl
  .simp at hf
 |co a r=>
  simp only[kN]at hf;split at hf
  .obtain ⟨rfl,_⟩:=ad (aa hf);rfl
  .simp at hf
 |fn z f l=>cases z<;>simp[kN]at hf;rw[<-hf.1]
 |_=>first|(simp[kN]at hf;done)|(simp[kN]at hf;rw[<-hf.1])
theorem Ls{c:Sh}{v:V}{l:List V}{i:List Nat}{x:TV}(hr:HR n h1 h)(hl:vn c=true)(hf:qy c<=300)(ha:dZ h c false v=some (l,i))(hx:gy h v x)(hk:ft n h v):
  ∃cc t bv rd,x=.c cc/\eK h1 300 cc=some (t,bv,rd)/\(∀r,fF c (l++r)=([t],r))/\PE h n h1 (v,i) (cc,bv,rd):=by
 have hp:NX v/\te v=false:=by
  cases c<;>simp[vn]at hl
  all_goals(cases v<;>first|exact⟨trivial,rfl⟩|(simp[dZ]at ha;done))
 obtain⟨cc,rfl,hc⟩:=jq (oS hp.1 hx) hp.2;obtain⟨ts,bv,rd,g1,g2,g3,g4,g5,g6,g7⟩:=wO hr c false v l i [cc] ha hc hk;have e:=g1 301 (by omega);simp only[iJ,pj]at e;split at e
 .rename_i t a b x' b' j hp1 hp2;obtain⟨rfl,e2⟩:=ad (aa hp2);obtain⟨rfl,rfl⟩:=ad e2;clear e2;clear hp2;obtain⟨rfl,e3⟩:=ad (aa e);obtain⟨rfl,rfl⟩:=ad e3;refine⟨cc,t,_,_,rfl,by simpa using hp1,g2,hc,hk,⟨t,by simpa using hp1⟩,g3,g4,g5,g7,?_⟩;cases v with
  |so id=>
   cases c with
   |os t=>
    simp only[dZ]at ha;split at ha
    .rename_i u s ver ho;split at ha
     .obtain ⟨_,rfl⟩:=ad (aa ha);exact⟨rfl,u,s,ver,ho⟩
     .simp at ha
    .simp at ha
   |_=>simp[dZ,ij,vn]at ha hl
  |sr id=>
   cases c with
   |rw t=>
    simp only[dZ]at ha;split at ha
    .rename_i u s ho;split at ha
     .obtain ⟨_,rfl⟩:=ad (aa ha);exact⟨rfl,u,s,ho⟩
     .simp at ha
    .simp at ha
   |_=>simp[dZ,ij,vn]at ha hl
  |op id u p=>
   cases c with
   |pb t c=>
    cases p with
    |cons=>simp[dZ]at ha
    |nil=>
     simp only[dZ]at ha;split at ha
     .rename_i w q ho;obtain⟨_,ha2⟩:=aO ha;split at ha2
      .obtain ⟨_,rfl⟩:=ad (aa ha2);refine⟨by simp,?_⟩;rintro(⟨u',v',e⟩|⟨u',ln',e⟩)
       .rcases e with e|e<;>rw[ho]at e<;>simp at e
       .rw [ho]at e;cases e
      .simp at ha2
     .simp at ha
   |_=>simp[dZ,ij,vn]at ha hl
  |nl k=>trivial
  |_=>(cases c<;>simp[vn]at hl<;>simp[dZ]at ha)
 .simp at e
theorem EA(hr:HR n h1 h):∀(ps:List (Bool×Sh))(vs:List V)(ms:List Bool)(m:List V)(j:List Nat)(q:List (V×List Nat))(xs:List TV),oQ h ps vs=some (m,j,q)->mN h vs xs->(∀w∈vs,ft n h w)->(∀w∈vs,iD h w=true)->N_ ps ms=true->BP ps=true->
  ∃aD lent,gD h1 xs ms=some (gX ps m,aD,lent)/\(∀i∈aD,i∈j/\¬wh h i)/\(∀i∈j,i∈aD\/wh h i)/\xh h n h1 q lent:=by
 intro ps;induction ps with
 |nil=>intro vs ms m j q xs ha hx hk hal hm hp;cases vs with|cons=>simp[oQ]at ha|nil=>obtain⟨rfl,e⟩:=ad (aa ha);obtain⟨rfl,rfl⟩:=ad e;obtain rfl:=lU hx;exact⟨[],[],rfl,fun i hi=>by simp at hi,fun i hi=>by simp at hi,rfl⟩
 |cons p ps ih=>
  obtain⟨b,c⟩:=p;intro vs ms m j q xs ha hx hk hal hm hp;cases vs with
  |nil=>simp[oQ]at ha
  |cons v vs=>
   obtain⟨x,ys,rfl,hx1,hx2⟩:=gU hx;simp only[N_,ai,decide_eq_true_eq]at hm;simp only[BP,ai]at hp;simp only[oQ]at ha;split at ha
   .rename_i m' j' q' hrest;obtain⟨aD,lent,e1,e2,e3,e4⟩:=ih vs ms.tail m' j' q' ys hrest hx2 (fun w hw=>hk w (by simp[hw])) (fun w hw=>hal w (by simp[hw])) hm.2 hp.2;cases b with
    |true=>
     simp only[cond_true]at ha;split at ha
     .rename_i l i ha2;obtain⟨rfl,e⟩:=ad (aa ha);obtain⟨rfl,rfl⟩:=ad e;have hp1:=hp.1;simp only[cond_true,ai,Nat.ble_eq]at hp1;obtain⟨cc,t,bv,rd,rfl,f1,f2,f3⟩:=Ls hr hp1.1 hp1.2 ha2 hx1 (hk v (by simp));refine⟨aD,(cc,bv,rd)::lent,?_,e2,e3,⟨_,_,rfl,f3,e4⟩⟩;rw[Ss f1 hm.1 e1];simp only[gX,f2,bX]
     .simp at ha
    |false=>
     simp only[cond_false]at ha;split at ha
     .rename_i l i ha2;obtain⟨rfl,e⟩:=ad (aa ha);obtain⟨rfl,rfl⟩:=ad e;have hp1:=hp.1;simp only[cond_false,ai,Nat.ble_eq,cM]at hp1;have hpl:NX v:=by cases v<;>first|trivial|(cases c<;>simp[oP,kN]at ha2)
      cases hs:xz c with
      |true=>
       cases c with
       |x t=>
        simp only[oP]at ha2;split at ha2
        .rename_i w l' hw;split at ha2
         .rename_i y hy;obtain⟨rfl,rfl⟩:=ad (aa ha2);obtain⟨cs,hc,h3,h4⟩:=oS hpl hx1;obtain⟨ds,is,f1,f2,f3,f4,_⟩:=vx hr v w l' cs hw hc (hk v (by simp)) (hal v (by simp));have e5:=pA (jI w false t y _ hy f2);subst e5;refine⟨is++aD,lent,?_,fun k hk=>?_,fun k hk=>?_,e4⟩
          .rw [h3 (((L3 hw).trans (wG hy)).trans hs),QP f1 hm.1 e1];simp only[gX,hs,cond_true];rfl
          .rcases ap.1 hk with hk|hk
           .exact ⟨aF _ (f3 k hk).1,(f3 k hk).2⟩
           .exact ⟨aH _ (e2 k hk).1,(e2 k hk).2⟩
          .rcases ap.1 hk with hk|hk
           .exact (f4 k hk).imp (aF _) (fun q=>q)
           .exact (e3 k hk).imp (aH _) (fun q=>q)
         .simp at ha2
        .simp at ha2
       |st c=>simp[oP]at ha2
       |_=>simp[xz]at hs
      |false=>
       have hag:te v=false:=by
        cases c with
        |x t=>
         simp only[oP]at ha2;split at ha2
         .rename_i w l' hw;split at ha2
          .rename_i y hy;exact((L3 hw).trans (wG hy)).trans hs
          .simp at ha2
         .simp at ha2
        |_=>cases v<;>first|rfl|(simp[oP]at ha2;done)|(simp[xz]at hs;done)|(simp[yC,xz]at hp1;done)
       obtain⟨cs,hc,h3,h4⟩:=oS hpl hx1;obtain⟨ds,is,g1,g2,g3,g4,g5⟩:=JT hr c v l i cs ha2 hc (hk v (by simp)) (hal v (by simp));refine⟨is++aD,lent,?_,fun k hk=>?_,fun k hk=>?_,e4⟩
       .obtain ⟨cc,rfl,rfl⟩:=h4 hag;have e:=g1 301 (by omega);have en:gw h1 300 []=some ([],[]):=rfl;simp only[gw,en]at e;split at e
        .rename_i d a xs' b' hv1 hv2;obtain⟨rfl,rfl⟩:=ad (aa hv2);clear hv2;obtain⟨rfl,rfl⟩:=ad (aa e);rw[UM hv1 hm.1 e1];simp only[gX,hs,g2,cond_false,bX,bB]
        .simp at e
       .rcases ap.1 hk with hk|hk
        .exact ⟨aF _ (g3 k hk).1,(g3 k hk).2⟩
        .exact ⟨aH _ (e2 k hk).1,(e2 k hk).2⟩
       .rcases ap.1 hk with hk|hk
        .exact (g4 k hk).imp (aF _) (fun q=>q)
        .exact (e3 k hk).imp (aH _) (fun q=>q)
     .simp at ha
   .simp at ha
end
section
variable{h:H2}{n:Nat}{h1:bH}
structure Bk(s s':S2)(h1:bH)(I:List Nat)(u:fL):Prop where
 hr:HR s'.next (u++h1) s'.heap
 eY:k7 s.next s.heap s'.heap
 dT:s'.dT=s.dT
 gh:s'.gh=s.gh
 le:s.next<=s'.next
 FZ:∀p∈u,p.1∈I\/(s.next<=p.1/\p.1<s'.next)
 nb:∀i,i<s.next->fO s.heap i=none->fO s'.heap i=none
 wo:∃W,s'.wo=W++s.wo/\(∀p∈u,p.1∈W)/\∀i,i∉W->fO s'.heap i=fO s.heap i
theorem Bk.refl{s:S2}(hr:HR s.next h1 s.heap):Bk s s h1 [] []:=⟨hr,k7.refl _ _,rfl,rfl,au _,fun p hp=>by simp at hp,fun _ _ h=>h,[],rfl,fun p hp=>by simp at hp,fun _ _=>rfl⟩
theorem Bk.seq{s s1 s2:S2}{I J:List Nat}{u1 u2:fL}(a:Bk s s1 h1 I u1)(b:Bk s1 s2 (u1++h1) J u2)(hd:∀i∈I,i∉J)(hI:∀i∈I,i<s.next)(hJ:∀j∈J,j<s.next):Bk s s2 h1 (I++J) (u1++u2):=by
 obtain⟨a3,a4,a5,a6,a7,a8,a9,W,v1,v2,v4⟩:=a;obtain⟨b3,b4,b5,b6,b7,b8,b9,X,x1,x2,x4⟩:=b;refine⟨b3.ext fun i=>wj (fun p hp q hq e=>?_) i,a4.trans a7 b4,b5.trans a5,b6.trans a6,by omega,fun p hp=>?_,fun i hi h=>b9 i (by omega) (a9 i hi h),X++W,by rw[x1,v1,aL],fun p hp=>?_,fun i hi=>?_⟩
 .rcases a8 p hp with h2|h2<;>rcases b8 q hq with h3|h3
  .exact hd _ h2 (e▸h3)
  .have:=hI _ h2;omega
  .have:=hJ _ h3;omega
  .omega
 .rcases ap.1 hp with hp|hp
  .rcases a8 p hp with h2|h2
   .exact .inl (aF _ h2)
   .exact .inr (by omega)
  .rcases b8 p hp with h2|h2
   .exact .inl (aH _ h2)
   .exact .inr (by omega)
 .rcases ap.1 hp with hp|hp
  .exact aH _ (v2 p hp)
  .exact aF _ (x2 p hp)
 .rw [x4 i fun q=>hi (aF _ q),v4 i fun q=>hi (aH _ q)]
theorem o7:∀(i:List Nat)(s:S2),(jc i s).dT=s.dT/\(jc i s).next=s.next/\(jc i s).gh=s.gh/\(jc i s).wo=i++s.wo/\∀j,fO (jc i s).heap j=if j∈i then none else fO s.heap j:=by
 intro i;induction i with
 |nil=>intro s;exact⟨rfl,rfl,rfl,rfl,fun j=>by simp[jc]⟩
 |cons a i ih=>
  intro s;obtain⟨h1,h2,h3,h4,h5⟩:=ih s;refine⟨h1,h2,h3,by simp[jc,ff,h4],fun j=>?_⟩;simp only[jc,ff,eG,h5];by_cases e:a=j
  .subst e;simp
  .simp [e,Ne.symm e]
theorem k7.sub{g:H2}(hs:∀i o,fO g i=some o->fO h i=some o):k7 n h g:=⟨fun i o _ ho=>.inl ⟨o,hs i o ho,vK.refl _⟩⟩
theorem HR.sub{g:H2}(hr:HR n h1 h)(hs:∀i o,fO g i=some o->fO h i=some o):HR n h1 g:=⟨fun i o ho=>let⟨a,b,c⟩:=hr.ob i o (hs i o ho);⟨a,sI (k7.sub hs) c b,sH (au _) (k7.sub hs) c⟩⟩
theorem yS{i:List Nat}{s:S2}:∀j o,fO (jc i s).heap j=some o->fO s.heap j=some o:=by
 intro j o ho;rw[(o7 i s).2.2.2.2]at ho;split at ho
 .simp at ho
 .exact ho
theorem AY{bv:List Nat}{j:Nat}(hj:j∉bv):aC (bv.map (fun i=>(i,(none:Option Ob)))++h1) j=aC h1 j:=wl fun p hp e=>by obtain⟨i,hi,rfl⟩:=cj.1 hp;exact hj (e▸hi)
theorem Bk.mx{s:S2}{i bv:List Nat}(hr:HR s.next h1 s.heap)(ho:∀j∈bv,j∈i):Bk s (jc i s) h1 i (bv.map fun j=>(j,none)):=by
 obtain⟨k1,k2,k3,k4,k5⟩:=o7 i s;refine⟨⟨fun j o hj=>?_⟩,k7.sub yS,k1,k3,by omega,fun p hp=>?_,fun j _ h=>by rw[k5];split<;>first|rfl|exact h,i,k4,fun p hp=>?_,fun j hj=>by rw[k5,if_neg hj]⟩
 .obtain ⟨a,b,c⟩:=(hr.sub yS).ob j o hj;refine⟨by omega,?_,by rw[k2];exact c⟩;have:j∉i:=fun hm=>by rw[k5,if_pos hm]at hj;simp at hj
  rw[AY fun hm=>this (ho j hm)];exact b
 .obtain ⟨j,hj,rfl⟩:=cj.1 hp;exact .inl (ho j hj)
 .obtain ⟨j,hj,rfl⟩:=cj.1 hp;exact ho j hj
theorem tL{α:Type}{a b:Sl α}{u:Unit}(hl:Ad a b=some u):a.fQ=b.fQ/\a.l.length=b.l.length:=by
 cases a<;>cases b<;>simp[Ad]at hl
 .exact ⟨rfl,rfl⟩
 .exact ⟨rfl,I7.1 hl⟩
theorem sS{c:C}{rd:List Nat}{x:D}{r:List (C×List Nat×List Nat)}{ts:List T}{m:Nat}:eW m ((c,[],rd)::r) (.d x::ts)=eW m r ts:=by simp only[eW]
theorem yy{x:D}{t:T}{bv rd:List Nat}(hp:eK h1 300 (.d x)=some (t,bv,rd)):bv=[]:=by rw[vb]at hp;obtain⟨_,e⟩:=ad (aa hp);exact(ad e).1.symm
theorem Lh{q:List (V×List Nat)}{v:V}{i:List Nat}(hn:(ku (fun(p:V×List Nat)=>p.2) ((v,i)::q)).Nodup):(∀j∈i,j∉ku (fun(p:V×List Nat)=>p.2) q)/\(ku (fun(p:V×List Nat)=>p.2) q).Nodup:=by simp only[bi]at hn;exact⟨fun j hj hm=>(bZ.1 hn).2.2 j hj j hm rfl,(bZ.1 hn).2.1⟩
theorem xh.lt:∀{q:List (V×List Nat)}{lent:List (C×List Nat×List Nat)},xh h n h1 q lent->∀j∈ku (fun(p:V×List Nat)=>p.2) q,j<n:=by
 intro q;induction q with
 |nil=>intro lent _ j hj;simp at hj
 |cons p q ih=>
  rintro lent ⟨x,m,rfl,hx,hm⟩ j hj;simp only[bi,ap]at hj;rcases hj with hj|hj
  .exact hx.2.2.2.2.2.2.1 j hj
  .exact ih hm j hj
theorem MU{szi m id len k:Nat}{ao:List (Option (List (List D)))}{rd:List Nat}{r:List (C×List Nat×List Nat)}{ts:List T}{w:fL}(hl:ao.length=len)(hr:eW m r ts=some (w,k)):
  eW m ((.fq 1 id 0 len,[id],rd)::r) (.zK szi ao::ts)=some ((id,some (.nst szi (ao.map mT)))::w,k):=by
 simp only[eW,hl,hr,and_self,if_true]
theorem zD{β:Type}{z:β}(hr0:HR n h1 h):∀(os:List Sh)(q:List (V×List Nat))(lent:List (C×List Nat×List Nat))(l:List V)(s:S2)(H:bH)(k:S2->Option β),gb os q l s k=some z->xh h n h1 q lent->n<=s.next->HR s.next H s.heap->k7 n h s.heap->
  (ku (fun(p:V×List Nat)=>p.2) q).Nodup->∃s1 bu,k s1=some z/\eW s.next lent (lp os l)=some (bu,s1.next)/\Bk s s1 H (ku (fun(p:V×List Nat)=>p.2) q) bu:=by
 intro os;induction os with
 |nil=>
  intro q lent l s H k hb hl hn hr eY hnd;cases q with
  |cons p q=>simp[gb]at hb
  |nil=>cases l with|cons=>simp[gb]at hb|nil=>obtain rfl:lent=[]:=hl;exact⟨s,[],hb,rfl,Bk.refl hr⟩
 |cons o os ih=>
  intro q lent l s H k hb hl hn hr eY hnd;cases q with
  |nil=>cases o<;>simp[gb]at hb
  |cons p q=>
   obtain⟨v,i⟩:=p;obtain⟨⟨c,bv,rd⟩,m,rfl,⟨hc,hkv,⟨tp,hpk⟩,hsub,hcov,hrd,hlt,hsh⟩,hl2⟩:=hl;obtain⟨hd,hnd2⟩:=Lh hnd;have hI:∀j∈i,j<s.next:=fun j hj=>by have:j<n:=hlt j hj;omega
   have hJ:∀j∈ku (fun(p:V×List Nat)=>p.2) q,j<s.next:=fun j hj=>by have:=hl2.lt j hj;omega
   cases o with
   |nl kk=>cases i with|cons=>simp[gb]at hb|nil=>simp only[gb]at hb;obtain⟨s1,bu,e1,e2,e3⟩:=ih q m l s H k hb hl2 hn hr eY hnd2;have:bv=[]:=List.sublist_nil.1 hsub;subst this;exact⟨s1,bu,e1,by simp only[lp,fF,bX,sS];exact e2,by simpa using e3⟩
   |gn=>simp only[gb]at hb;obtain⟨k1,k2,k3,k4,k5⟩:=o7 i s;have b1:Bk s (jc i s) H i (bv.map fun j=>(j,none)):=Bk.mx hr fun j hj=>hsub.subset hj;obtain⟨s1,bu,e1,e2,e3⟩:=ih q m l (jc i s) _ k hb hl2 (by omega) b1.hr (eY.trans hn b1.eY) hnd2;rw[k2]at e2;exact⟨s1,_,e1,by simp only[lp,fF,bX];exact JP e2,by simpa using b1.seq e3 hd hI hJ⟩
   |os t=>
    cases v with
    |nl kk=>
     cases kk with
     |succ=>cases l with|nil=>simp[gb]at hb|cons w l=>cases w<;>simp[gb]at hb
     |zero=>
      cases i with
      |cons=>cases l with|nil=>simp[gb]at hb|cons w l=>cases w<;>simp[gb]at hb
      |nil=>
       match l with
       |.x (.sl u) v::l=>
        simp only[gb]at hb;split at hb
        .rename_i v' hv;obtain⟨e,rfl⟩:=du hv;cases e;obtain⟨_,hls,hb2⟩:=rK hb;obtain⟨hni,_⟩:=tL hls;obtain⟨s1,bu,e1,e2,e3⟩:=ih q m l s H k hb2 hl2 hn hr eY hnd2;have:bv=[]:=List.sublist_nil.1 hsub;subst this;refine⟨s1,bu,e1,?_,by simpa using e3⟩;cases v with|mk=>simp[Sl.fQ]at hni|nil=>simp only[lp,fF,bX,zU,sS];exact e2
        .simp at hb
       |[]|.kb _::_|.nl _::_|.so _::_|.sr _::_|.sb _ _ _ _ _::_|.op _ _ _::_|.ep _ _ _ _::_|.pt _ _::_|.fn _ _ _::_|.om _::_|.rc _::_|.tp _::_|.ni::_|.co _ _::_|.fl _::_|.no::_|.gn::_=>simp[gb]at hb
       |.x (.i _) _::_|.x .b _::_|.x .s _::_|.x (.f _) _::_|.x (.mp _ _) _::_|.x .un _::_|.x (.pr _ _) _::_|.x (.st _) _::_|.x (.ar _ _) _::_|.x (.o _) _::_=>simp[gb]at hb
    |so id=>
     match l with
     |.x (.sl u) v::l=>
      simp only[gb]at hb;split at hb
      .rename_i w old ver v' ho hv;obtain⟨e,rfl⟩:=du hv;cases e;split at hb
       .rename_i v2 hv2;obtain⟨e,rfl⟩:=du hv2;cases e;obtain⟨_,hls,hb2⟩:=rK hb;obtain⟨hni,hln⟩:=tL hls;obtain⟨rfl,u0,s0,ver0,ho0⟩:=hsh;have hid:id<n:=hkv;obtain⟨o1,ho1,hos⟩:=(eY.ob id _ hid ho).resolve_right (by simp[ud]);rw[ho0]at ho1;obtain rfl:=aa ho1;obtain⟨_,rfl,hn1,hn2,_⟩:=hos;obtain⟨cc,ece,hcc⟩:=hc;obtain rfl:=fy.1 ece;have ec:=hcc.1 _ (mS (.inl ho0));obtain⟨q1,q2,q3⟩:=(hr.ob id _ ho).2.1;have hosn:vK (.ar u0 old ver) (.ar u0 v (ver+1)):=⟨bO _,rfl,hni.symm,hln.symm,fun e=>by omega⟩
        have key:∀(uu:fL),(∀p∈uu,p.1=id)->(∀l,v=.mk l->aC (uu++H) id=some (.aM (bE u0) (l.map (aT u0))))->Bk s (ff s id (some (.ar u0 v (ver+1)))) H [id] uu:=by intro uu hu hlk;have d:=rM (x:=.iS []) (v:=.no) (aD:=[]) (l:=[]) hr ho hni.symm hln.symm hu hlk (fun _=>rfl) (fun _ _=>trivial) (fun i hi=>by simp at hi);exact⟨d.hr,d.eY,rfl,rfl,au _,fun p hp=>.inl (by simp[hu p hp]),d.nb,[id],rfl,fun p hp=>by simp[hu p hp],fun j hj=>by simp only[ff];rw[eG,if_neg fun e=>hj (by simp[e])]⟩
        cases v with
        |nil=>
         have b1:=key [] (fun p hp=>by simp at hp) (fun l e=>by cases e);obtain⟨s1,bu,f1,f2,e3⟩:=ih q m l _ _ k hb2 hl2 hn b1.hr (eY.trans hn b1.eY) hnd2;have hnil:s0.fQ=true:=by rw[hn1,<-hni];rfl
         cases s0 with|mk=>simp[Sl.fQ]at hnil|nil=>subst ec;have:=yy hpk;subst this;refine⟨s1,bu,f1,?_,by simpa using b1.seq e3 hd hI hJ⟩;simp only[lp,fF,bX,zU,sS];exact f2
        |mk vl=>
         have b1:=key [(id,some (.aM (bE u0) (vl.map (aT u0))))] (fun p hp=>by simp at hp;simp[hp]) (fun l e=>by cases e;rw[bo,eP,if_pos rfl]);obtain⟨s1,bu,f1,f2,e3⟩:=ih q m l _ _ k hb2 hl2 hn b1.hr (eY.trans hn b1.eY) hnd2;have hnil:s0.fQ=false:=by rw[hn1,<-hni];rfl
         cases s0 with|nil=>simp[Sl.fQ]at hnil|mk tu=>subst ec;have hlk:=(hr0.ob id _ ho0).2.1.2.2 tu rfl;have hp2:=UZ (k:=300) hlk;simp only[mU]at hpk;rw[hp2]at hpk;obtain⟨_,e⟩:=ad (aa hpk);obtain⟨rfl,rfl⟩:=ad e;refine⟨s1,_,f1,?_,by simpa using b1.seq e3 hd hI hJ⟩;simp only[lp,fF,bX,zU,mU];refine OO ?_ f2;simp only[Sl.l]at hn2 hln;simp only[aN];omega
       .simp at hb
      .simp at hb
     |[]|.kb _::_|.nl _::_|.so _::_|.sr _::_|.sb _ _ _ _ _::_|.op _ _ _::_|.ep _ _ _ _::_|.pt _ _::_|.fn _ _ _::_|.om _::_|.rc _::_|.tp _::_|.ni::_|.co _ _::_|.fl _::_|.no::_|.gn::_=>simp[gb]at hb
     |.x (.i _) _::_|.x .b _::_|.x .s _::_|.x (.f _) _::_|.x (.mp _ _) _::_|.x .un _::_|.x (.pr _ _) _::_|.x (.st _) _::_|.x (.ar _ _) _::_|.x (.o _) _::_=>simp[gb]at hb
    |_=>simp[gb]at hb
   |rw t=>
    cases v with
    |nl kk=>
     cases kk with
     |succ=>cases l with|nil=>simp[gb]at hb|cons w l=>cases w<;>simp[gb]at hb
     |zero=>
      cases i with
      |cons=>cases l with|nil=>simp[gb]at hb|cons w l=>cases w<;>simp[gb]at hb
      |nil=>
       match l with
       |.x (.sl (.sl u)) v::l=>
        simp only[gb]at hb;split at hb
        .rename_i v' hv;obtain⟨e,rfl⟩:=du hv;cases e;obtain⟨_,hls,hb2⟩:=rK hb;obtain⟨hni,_⟩:=tL hls;obtain⟨s1,bu,e1,e2,e3⟩:=ih q m l s H k hb2 hl2 hn hr eY hnd2;have:bv=[]:=List.sublist_nil.1 hsub;subst this;refine⟨s1,bu,e1,?_,by simpa using e3⟩;cases v with|mk=>simp[Sl.fQ]at hni|nil=>simp only[lp,fF,bX,x_,sS];exact e2
        .simp at hb
       |[]|.kb _::_|.nl _::_|.so _::_|.sr _::_|.sb _ _ _ _ _::_|.op _ _ _::_|.ep _ _ _ _::_|.pt _ _::_|.fn _ _ _::_|.om _::_|.rc _::_|.tp _::_|.ni::_|.co _ _::_|.fl _::_|.no::_|.gn::_=>simp[gb]at hb
       |.x (.sl (.i _)) _::_|.x (.sl .b) _::_|.x (.sl .s) _::_|.x (.sl (.f _)) _::_|.x (.sl (.mp _ _)) _::_|.x (.sl .un) _::_|.x (.sl (.pr _ _)) _::_|.x (.sl (.st _)) _::_|.x (.sl (.ar _ _)) _::_|.x (.sl (.o _)) _::_|.x (.i _) _::_|.x .b _::_|.x .s _::_|.x (.f _) _::_|.x (.mp _ _) _::_|.x .un _::_|.x (.pr _ _) _::_|.x (.st _) _::_|.x (.ar _ _) _::_|.x (.o _) _::_=>simp[gb]at hb
    |sr id=>
     match l with
     |.x (.sl (.sl u)) v::l=>
      simp only[gb]at hb;split at hb
      .rename_i w old ln v' ho hv;obtain⟨e,rfl⟩:=du hv;cases e;split at hb
       .rename_i v2 hv2;obtain⟨e,rfl⟩:=du hv2;cases e;obtain⟨_,hls,hb2⟩:=rK hb;obtain⟨hni,hln⟩:=tL hls;obtain⟨rfl,u0,s0,ho0⟩:=hsh;have hid:id<n:=hkv;obtain⟨o1,ho1,hos⟩:=(eY.ob id _ hid ho).resolve_right (by simp[ud]);rw[ho0]at ho1;obtain rfl:=aa ho1;obtain⟨rfl,hn1,hn2⟩:=hos;obtain⟨cc,ece,hcc⟩:=hc;obtain rfl:=fy.1 ece;have ec:=hcc.1 _ (sB ho0);obtain⟨q1,q2,q3⟩:=(hr.ob id _ ho).2.1;have hosn:vK (.rw u0 old ln) (.rw u0 v none):=⟨rfl,hni.symm,hln.symm⟩
        have key:∀(uu:fL),(∀p∈uu,p.1=id)->(∀l,v=.mk l->aC (uu++H) id=some (.nst (bE u0) (fT u0 l none)))->Bk s (ff s id (some (.rw u0 v none))) H [id] uu:=by intro uu hu hlk;have d:=GS (x:=.iS []) (v:=.no) (aD:=[]) (l:=[]) hr ho hosn hu ⟨q1,q2,hlk⟩ trivial rfl trivial (fun i hi=>by simp at hi);exact⟨d.hr,d.eY,rfl,rfl,au _,fun p hp=>.inl (by simp[hu p hp]),d.nb,[id],rfl,fun p hp=>by simp[hu p hp],fun j hj=>by simp only[ff];rw[eG,if_neg fun e=>hj (by simp[e])]⟩
        cases v with
        |nil=>
         have b1:=key [] (fun p hp=>by simp at hp) (fun l e=>by cases e);obtain⟨s1,bu,f1,f2,e3⟩:=ih q m l _ _ k hb2 hl2 hn b1.hr (eY.trans hn b1.eY) hnd2;have hnil:s0.fQ=true:=by rw[hn1,<-hni];rfl
         cases s0 with|mk=>simp[Sl.fQ]at hnil|nil=>subst ec;have:=yy hpk;subst this;refine⟨s1,bu,f1,?_,by simpa using b1.seq e3 hd hI hJ⟩;simp only[lp,fF,bX,x_,sS];exact f2
        |mk vl=>
         have b1:=key [(id,some (.nst (bE u0) (fT u0 vl none)))] (fun p hp=>by simp at hp;simp[hp]) (fun l e=>by cases e;rw[bo,eP,if_pos rfl]);obtain⟨s1,bu,f1,f2,e3⟩:=ih q m l _ _ k hb2 hl2 hn b1.hr (eY.trans hn b1.eY) hnd2;have hnil:s0.fQ=false:=by rw[hn1,<-hni];rfl
         cases s0 with|nil=>simp[Sl.fQ]at hnil|mk tu=>subst ec;have hlk:=(hr0.ob id _ ho0).2.1.2.2 tu rfl;have hp2:=TZ (k:=300) hlk;simp only[mU]at hpk hp2;rw[hp2]at hpk;obtain⟨_,e⟩:=ad (aa hpk);obtain⟨rfl,rfl⟩:=ad e;refine⟨s1,_,f1,?_,by simpa using b1.seq e3 hd hI hJ⟩;simp only[lp,fF,bX,x_,mU,aN];rw[show fT u0 vl none=(vl.map (Ir u0)).map mT from(yd vl).symm];refine MU ?_ f2;rw[aN];exact hln.trans hn2.symm
       .simp at hb
      .simp at hb
     |[]|.kb _::_|.nl _::_|.so _::_|.sr _::_|.sb _ _ _ _ _::_|.op _ _ _::_|.ep _ _ _ _::_|.pt _ _::_|.fn _ _ _::_|.om _::_|.rc _::_|.tp _::_|.ni::_|.co _ _::_|.fl _::_|.no::_|.gn::_=>simp[gb]at hb
     |.x (.sl (.i _)) _::_|.x (.sl .b) _::_|.x (.sl .s) _::_|.x (.sl (.f _)) _::_|.x (.sl (.mp _ _)) _::_|.x (.sl .un) _::_|.x (.sl (.pr _ _)) _::_|.x (.sl (.st _)) _::_|.x (.sl (.ar _ _)) _::_|.x (.sl (.o _)) _::_|.x (.i _) _::_|.x .b _::_|.x .s _::_|.x (.f _) _::_|.x (.mp _ _) _::_|.x .un _::_|.x (.pr _ _) _::_|.x (.st _) _::_|.x (.ar _ _) _::_|.x (.o _) _::_=>simp[gb]at hb
    |_=>simp[gb]at hb
   |pb t c2=>
    cases v with
    |op id u p=>
     cases p with
     |cons=>simp[gb]at hb
     |nil=>
      simp only[gb]at hb;split at hb
      case h_2=>simp at hb
      rename_i oid hoid;split at hb
      .rename_i w l' s2 hm;obtain⟨hf,hb2⟩:=aO hb;simp only[ai,decide_eq_true_eq]at hf;obtain⟨hf,rfl⟩:=hf;obtain⟨g1,g2,g3,g4,g5,_⟩:=vj c2 false l s w l' s2 H hm hr;subst g5;obtain⟨hid,hnn⟩:=hsh;have hio:id∈bv:=(hcov id hid).resolve_right hnn
       obtain rfl:c=.op id 0:=by
        have e0:mQ u []=0:=by cases u<;>rfl
        have:[c]=[C.op id (mQ u [])]:=hc;rw[e0]at this;exact fy.1 this
       obtain⟨k1,k2,k3,k4,k5⟩:=o7 i s2;have hids:id<s2.next:=by have:=hI id hid;have:=g3.le;omega
       have b1:Bk s (ff (jc i s2) id (some (.bx u w))) H i ((id,some (.box (iE s.next (fF c2 l).1).1))::(iE s.next (fF c2 l).1).2.1++bv.map (fun j=>(j,none))):=by
        obtain⟨a3,a4,a5,a6,a7,a8,W,v1,v2,v3,v4⟩:=g3;have hs2:k7 s2.next s2.heap (ff (jc i s2) id (some (.bx u w))).heap:=k7.trans (au _) (k7.sub yS) k7.bx;refine⟨⟨fun j o hj=>?_⟩,k7.trans a7 a4 hs2,k1.trans a5,k3.trans a6,by simp only[ff];omega,fun p hp=>?_,fun j hj hn=>(by simp only[ff];rw[eG,if_neg (fun e=>by rw[e,hn]at hoid;cases hoid),k5];split<;>first|rfl|(rw[v4 j fun q=>by have:=(v3 j q).1;omega];exact hn)),id::(i++W),by simp only[ff,k4,v1,aU,aL],fun p hp=>?_,fun j hj=>?_⟩
        .simp only[ff]at hj|-;rw[eG]at hj;split at hj
         .rename_i e;subst e;obtain rfl:=aa hj;refine⟨by omega,?_,?_⟩
          .rw [aU,aU,eP,if_pos rfl];exact⟨_,rfl,lH hs2 g2 g1,hf⟩
          .rw [k2];exact gS (au _) hs2 g2
         .rename_i e;have hji:j∉i:=fun hm=>by rw[k5,if_pos hm]at hj;simp at hj
          rw[k5,if_neg hji]at hj;obtain⟨c1,c2',c3⟩:=a3.ob j o hj;refine⟨by omega,?_,?_⟩
          .rw [aU,aU,eP,if_neg e,aL];have:aC ((iE s.next (fF c2 l).1).2.1++(bv.map (fun j=>(j,none))++H)) j=aC ((iE s.next (fF c2 l).1).2.1++H) j:=by simp only[aC,iX];have:=AY (h1:=H) (bv:=bv) (j:=j) fun hm=>hji (hsub.subset hm);simp only[aC,iX]at this;cases cA (iE s.next (fF c2 l).1).2.1 j with|some x=>rfl|none=>exact this
           rw[this];exact sI hs2 c3 c2'
          .rw [k2];exact sH (au _) hs2 c3
        .rcases ap.1 hp with hp|hp
         .rcases aP.1 hp with rfl|hp
          .exact .inl hid
          .have:=a8 p hp;exact .inr ⟨this.1,by simp only[ff];omega⟩
         .obtain ⟨j,hj,rfl⟩:=cj.1 hp;exact .inl (hsub.subset hj)
        .rcases ap.1 hp with hp|hp
         .rcases aP.1 hp with rfl|hp
          .simp
          .simp [v2 p hp]
         .obtain ⟨j,hj,rfl⟩:=cj.1 hp;simp[hsub.subset hj]
        .simp only[ff];rw[eG,if_neg fun e=>hj (by simp[e]),k5,if_neg fun q=>hj (by simp[q]),v4 j fun q=>hj (by simp[q])]
       obtain⟨s1,bu,e1,e2,e3⟩:=ih q m _ _ _ k hb2 hl2 (by have:=b1.le;omega) b1.hr (eY.trans hn b1.eY) hnd2;have en:(ff (jc i s2) id (some (.bx u w))).next=(iE s.next (fF c2 l).1).2.2:=by simp only[ff,k2,g4]
       rw[en]at e2;refine⟨s1,_,e1,?_,by simpa using b1.seq e3 hd hI hJ⟩;simp only[lp,fF,bX];have:=ON (n:=s.next) (id:=id) (bv:=bv) (rd:=rd) (by simpa using hio) e2;rw[this];simp only[aU,aL]
      .simp at hb
    |_=>simp[gb]at hb
   |_=>simp[gb]at hb
end
def Rw(c:Sh):Bool:=xz c||yC c
section
variable{h:H2}{n:Nat}{h1:bH}
theorem Cc{c:Sh}{l l':List V}{s s':S2}{w:V}(hm:qX c false l s=some (w,l',s'))(ho:yC c=true):(fF c l).1.length=1:=by
 cases c with
 |x t=>match l with|.x u v::l=>simp only[qX]at hm;obtain⟨hc,_⟩:=aO hm;simp only[ai,decide_eq_true_eq]at hc;obtain⟨rfl,_⟩:=hc;simpa[fF,bJ,yC]using ho|[]|.kb _::_|.nl _::_|.so _::_|.sr _::_|.sb _ _ _ _ _::_|.op _ _ _::_|.ep _ _ _ _::_|.pt _ _::_|.fn _ _ _::_|.om _::_|.rc _::_|.tp _::_|.ni::_|.co _ _::_|.fl _::_|.no::_|.gn::_=>simp[qX]at hm
 |os t=>match l with|.x (.sl u) v::l=>rfl|[]|.kb _::_|.nl _::_|.so _::_|.sr _::_|.sb _ _ _ _ _::_|.op _ _ _::_|.ep _ _ _ _::_|.pt _ _::_|.fn _ _ _::_|.om _::_|.rc _::_|.tp _::_|.ni::_|.co _ _::_|.fl _::_|.no::_|.gn::_=>simp[qX]at hm|.x (.i _) _::_|.x .b _::_|.x .s _::_|.x (.f _) _::_|.x (.mp _ _) _::_|.x .un _::_|.x (.pr _ _) _::_|.x (.st _) _::_|.x (.ar _ _) _::_|.x (.o _) _::_=>simp[qX]at hm
 |rw t=>match l with|.x (.sl (.sl u)) v::l=>rfl|[]|.kb _::_|.nl _::_|.so _::_|.sr _::_|.sb _ _ _ _ _::_|.op _ _ _::_|.ep _ _ _ _::_|.pt _ _::_|.fn _ _ _::_|.om _::_|.rc _::_|.tp _::_|.ni::_|.co _ _::_|.fl _::_|.no::_|.gn::_=>simp[qX]at hm|.x (.sl (.i _)) _::_|.x (.sl .b) _::_|.x (.sl .s) _::_|.x (.sl (.f _)) _::_|.x (.sl (.mp _ _)) _::_|.x (.sl .un) _::_|.x (.sl (.pr _ _)) _::_|.x (.sl (.st _)) _::_|.x (.sl (.ar _ _)) _::_|.x (.sl (.o _)) _::_|.x (.i _) _::_|.x .b _::_|.x .s _::_|.x (.f _) _::_|.x (.mp _ _) _::_|.x .un _::_|.x (.pr _ _) _::_|.x (.st _) _::_|.x (.ar _ _) _::_|.x (.o _) _::_=>simp[qX]at hm
 |pb t c=>rfl
 |nl k=>rfl
 |_=>first|(simp[qX]at hm;done)|(simp[yC]at ho;done)
theorem AT:∀(rs:List Sh)(l:List V)(s:S2)(xs:List V)(l':List V)(s':S2)(h1:bH),IX rs l s=some (xs,l',s')->HR s.next h1 s.heap->rs.all Rw=true->
  BA s'.heap (dj xs) (iq s.next (mK rs l)).1/\(∀x∈xs,ft s'.next s'.heap x)/\Mk s s' h1 (iq s.next (mK rs l)).2.1/\s'.next=(iq s.next (mK rs l)).2.2/\xs.length=rs.length:=by
 intro rs;induction rs with
 |nil=>intro l s xs l' s' h1 hm hr _;obtain⟨rfl,e⟩:=ad (aa hm);obtain⟨rfl,rfl⟩:=ad e;exact⟨rfl,fun x hx=>by simp at hx,Mk.skip hr (au _),rfl,rfl⟩
 |cons c rs ih=>
  intro l s xs l' s' h1 hm hr hok;simp only[iM,ai]at hok;simp only[IX]at hm;split at hm
  .rename_i x l1 s1 hm1;split at hm
   .rename_i ys l2 s2 hm2;obtain⟨rfl,e⟩:=ad (aa hm);obtain⟨rfl,rfl⟩:=ad e;obtain⟨q1,q2,q3,q4,q5,q6⟩:=vj c false l s x l1 s1 h1 hm1 hr;have q6:=q6 rfl;subst q5
    have hu:wT s.next (bif xz c then .agg (fF c l).1 else .c ((fF c l).1.headD default))=(bif xz c then .agg (iE s.next (fF c l).1).1 else .c ((iE s.next (fF c l).1).1.headD default),(iE s.next (fF c l).1).2.1,(iE s.next (fF c l).1).2.2)/\sx s1.heap x (bif xz c then .agg (iE s.next (fF c l).1).1 else .c ((iE s.next (fF c l).1).1.headD default)):=by
     cases hs:xz c with
     |true=>exact⟨rfl,xW (q6.trans hs) q1⟩
     |false=>
      have hl:(fF c l).1.length=1:=by
       have h2:yC c=true:=by simpa[Rw,hs]using hok.1
       exact Cc hm1 h2
      match ht:(fF c l).1,hl with|[t],_=>rw[ht]at q1;simp only[re]at q1;refine⟨by simp only[cond_false,bX,wT,re],?_⟩;simp only[cond_false,re,bX];exact dV (q6.trans hs) q1
    obtain⟨hu1,hu2⟩:=hu;obtain⟨p1,p2,p3,p4,p5⟩:=ih (fF c l).2 s1 ys l2 s2 _ hm2 q3.hr hok.2;rw[q4]at p1 p3 p4;simp only[mK,iq,hu1];refine⟨⟨_,_,rfl,vT p3.eY q2 hu2,p1⟩,fun y hy=>?_,q3.seq p3,p4,by simp[p5]⟩;rcases aP.1 hy with rfl|hy
    .exact gS p3.le p3.eY q2
    .exact p2 y hy
   .simp at hm
  .simp at hm
end
def FU:Ty->Bool
 |.i _|.b|.s|.f _|.un=>true
 |.pr a c=>FU a&&FU c
 |.st t|.ar _ t=>FU t
 |_=>false
def Qs:Sh->Bool
 |.x t=>FU t
 |_=>false
def P3(sp:lB):Bool:=sp.ps.all (fun p=>!p.1)&&sp.al.all (fun w=>w.1.all Qs&&w.2.isEmpty)
def Nl(sp:lB):Bool:=N_ sp.ps sp.ke&&BP sp.ps&&sp.al.all (fun w=>w.1.all Rw)&&(!sp.ro||P3 sp)
def Nm(Q:List Sh->List Sh->List V->Prop):(r o:List Sh)->(w:Wy)->vH.GJ r o w->Prop
 |r,o,[],z=>Q r o (oY (gZ r++gZ o) z)
 |r,o,(r',o')::w,z=>match z with|.inl z=>Q r o (oY (gZ r++gZ o) z)|.inr z=>Nm Q r' o' w z
def Nn(Q:List Sh->List Sh->List V->Prop):(w:Wy)->vH w->Prop
 |[],z=>nomatch z
 |(r,o)::w,z=>Nm Q r o w z
def cY(P:Program)(f:FuncId)(sp:lB):Prop:=Nl sp=true/\∀p z,sp.fn p=some z->Nn (fun rs os l=>sh P f (gX sp.ps (oY (gZ (sp.ps.map (·.2))) p)) (mK rs (l.take (gZ rs).length)) (lp os (l.drop (gZ rs).length))) sp.al z
def pM(P:Program)(tb:EF):Prop:=∀e∈tb,cY P e.1 e.2
theorem pM.nil{P:Program}:pM P []:=fun e he=>by simp at he
theorem pM.cons{P:Program}{f:FuncId}{sp:lB}{tb:EF}(h:cY P f sp)(ht:pM P tb):pM P ((f,sp)::tb):=fun e he=>by
 rcases aP.1 he with rfl|he
 .exact h
 .exact ht e he
theorem HU{β:Type}{k:List Sh->List Sh->List V->Option β}{Q:List Sh->List Sh->List V->Prop}{b:β}:∀(w:Wy)(z:vH w),RJ k w z=some b->Nn Q w z->∃r o l,(r,o)∈w/\k r o l=some b/\Q r o l:=by
 have key:∀(w:Wy)(r o:List Sh)(z:vH.GJ r o w),PM k r o w z=some b->Nm Q r o w z->∃r' o' l,(r',o')∈(r,o)::w/\k r' o' l=some b/\Q r' o' l:=by
  intro w;induction w with
  |nil=>intro r o z hz hq;exact⟨r,o,_,by simp,hz,hq⟩
  |cons p w ih=>intro r o z hz hq;cases z with|inl z=>exact⟨r,o,_,by simp,hz,hq⟩|inr z=>obtain⟨r',o',l,h1,h2,h3⟩:=ih p.1 p.2 z hz hq;exact⟨r',o',l,aA _ h1,h2,h3⟩
 intro w z hz hq;cases w with|nil=>exact nomatch z|cons p w=>exact key w p.1 p.2 z hz hq
theorem zx{u:Ty}{v:V}{y:El u}(h:ui u v=some y):v=.x u y:=by cases v with|x t v=>obtain⟨rfl,rfl⟩:=du (show gN t u v=some y from h);rfl|_=>simp[ui]at h
theorem pY:∀(cs:List Ty)(l:List V)(p:qx cs),vU cs l=some p->oY cs p=l:=by
 have key:∀(r:List Ty)(a:Ty)(l:List V)(p:qx.EJ a r),EV a r l=some p->Ns a r p=l:=by
  intro r;induction r with
  |nil=>
   intro a l p h
   match l with|[]=>exact nomatch (show(none:Option (qx.EJ a []))=some p from h)|[v]=>rw[zx (show ui a v=some p from h)];rfl|_::_::_=>exact nomatch (show(none:Option (qx.EJ a []))=some p from h)
  |cons c r ih=>
   intro a l p h
   match l with
   |[]=>exact nomatch (show(none:Option (qx.EJ a (c::r)))=some p from h)
   |v::l=>
    have h:H4 (ui a v) (EV c r l)=some p:=h;cases hx:ui a v with
    |none=>rw[hx]at h;exact nomatch h
    |some x=>cases hy:EV c r l with|none=>rw[hx,hy]at h;exact nomatch h|some y=>rw[hx,hy]at h;obtain rfl:=aa h;show V.x a x::Ns c r y=v::l;rw[ih c l y hy,zx hx]
 intro cs l p h
 match cs,l with|[],[]=>rfl|[],_::_=>exact nomatch (show(none:Option (qx []))=some p from h)|a::r,l=>exact key r a l p h
section
variable{h:H2}{n:Nat}{h1:bH}
theorem CI{a b:List V}{x y:List TV}(ha:mN h a x)(hb:mN h b y):mN h (a++b) (x++y):=by induction a generalizing x with|nil=>rw[lU ha];exact hb|cons v a ih=>obtain⟨c,r,rfl,h2,h3⟩:=gU ha;exact⟨h2,ih h3⟩
theorem xS:∀(v:V)(l:List V)(cs:List C),vM v=some l->fC h v cs->ft n h v->iD h v=true->mN h l (cs.map TV.c)/\(∀w∈l,ft n h w)/\∀w∈l,iD h w=true:=by
 intro v;induction v with
 |ni=>intro l cs hl hc _ _;obtain rfl:=aa hl;obtain rfl:=hc;exact⟨trivial,fun w hw=>by simp at hw,fun w hw=>by simp at hw⟩
 |co a r iha ihr=>
  intro l cs hl hc hk hal;simp only[vM]at hl;obtain⟨h1,hl⟩:=aO hl;simp only[ai,beq_iff_eq,dp]at h1;split at hl
  .rename_i l' hl';obtain rfl:=aa hl;obtain⟨x,y,rfl,h2,h3⟩:=hc;simp only[iD,ai]at hal;obtain⟨q1,q2,q3⟩:=ihr l' y hl' h3 hk.2 hal.2;have hlen:=iB h2;rw[h1.1]at hlen
   match x,hlen with
   |[c],_=>
    refine⟨⟨ct (dV h1.2 h2),q1⟩,fun w hw=>?_,fun w hw=>?_⟩
    .rcases aP.1 hw with rfl|hw
     .exact hk.1
     .exact q2 w hw
    .rcases aP.1 hw with rfl|hw
     .exact hal.1
     .exact q3 w hw
  .simp at hl
 |_=>intro l cs hl;simp[vM]at hl
theorem Gg:∀(tb:EF)(f:Nat)(vs:List V)(sp:lB)(l:List V)(i:List Nat)(q:List (V×List Nat)),A9 h f vs tb=some (sp,l,i,q)->(f,sp)∈tb/\oQ h sp.ps vs=some (l,i,q):=by
 intro tb;induction tb with
 |nil=>intro f vs sp l i q hf;simp[A9]at hf
 |cons e tb ih=>
  obtain⟨g,SO⟩:=e;intro f vs sp l i q hf;simp only[A9]at hf;cases hg:(g==f)with
  |false=>rw[hg,cond_false]at hf;obtain⟨h2,h3⟩:=ih f vs sp l i q hf;exact⟨aA _ h2,h3⟩
  |true=>
   rw[hg,cond_true]at hf;obtain rfl:g=f:=by simpa using hg
   split at hf
   .rename_i l' i' q' ha;simp only[bm,Prod.mk.injEq]at hf;obtain⟨rfl,rfl,rfl,rfl⟩:=hf;exact⟨by simp,ha⟩
   .obtain ⟨h2,h3⟩:=ih g vs sp l i q hf;exact⟨aA _ h2,h3⟩
theorem Dy:∀{l:List Nat},yF l=true->l.Nodup:=by intro l;induction l with|nil=>intro _;exact fX|cons a l ih=>intro hl;simp only[yF,ai,dp,List.contains_eq_mem,decide_eq_false_iff_not]at hl;exact List.nodup_cons.2 ⟨hl.1,ih hl.2⟩
theorem xh.bv:∀{q:List (V×List Nat)}{lent:List (C×List Nat×List Nat)},xh h n h1 q lent->
  (lent.flatMap (fun(p:C×List Nat×List Nat)=>p.2.1)).Sublist (q.flatMap (·.2))/\(∀j∈lent.flatMap (fun(p:C×List Nat×List Nat)=>p.2.2),j∈q.flatMap (·.2)):=by
 intro q;induction q with
 |nil=>rintro lent rfl;exact⟨bL _,fun j hj=>hj⟩
 |cons p q ih=>
  rintro lent ⟨x,m,rfl,hx,hm⟩;obtain⟨a,b⟩:=ih hm;simp only[bi];refine⟨hx.2.2.2.1.append a,fun j hj=>?_⟩;rcases ap.1 hj with hj|hj
  .exact aF _ (hx.2.2.2.2.2.1 j hj)
  .exact aH _ (b j hj)
theorem EQ(hr:HR n h1 h):∀{q:List (V×List Nat)}{lent:List (C×List Nat×List Nat)},xh h n h1 q lent->eM h1 lent=true:=by
 intro q;induction q with
 |nil=>rintro lent rfl;rfl
 |cons p q ih=>
  obtain⟨v,i⟩:=p;rintro lent ⟨⟨c,bv,rd⟩,m,rfl,hx,hm⟩;have hw:=ih hm;obtain⟨hc,_,_,_,_,_,_,hsh⟩:=hx;cases c with
  |fq sz id off len=>
   cases v with
   |so id'=>obtain⟨_,u,s,ver,ho⟩:=hsh;obtain⟨cc,e,hcc⟩:=hc;obtain rfl:=fy.1 e;have e2:=hcc.1 _ (mS (.inl ho));cases s with|nil=>simp[mU]at e2|mk l=>simp only[mU,C.fq.injEq]at e2;obtain⟨rfl,rfl,rfl,rfl⟩:=e2;exact SY ((hr.ob _ _ ho).2.1.2.2 l rfl) hw
   |sr jd=>obtain⟨_,u,s,ho⟩:=hsh;obtain⟨cc,e,hcc⟩:=hc;obtain rfl:=fy.1 e;have e2:=hcc.1 _ (sB ho);cases s with|nil=>simp[mU]at e2|mk l=>simp only[mU,C.fq.injEq]at e2;obtain⟨rfl,rfl,rfl,rfl⟩:=e2;have hl:=(hr.ob _ _ ho).2.1.2.2 l rfl;simp only[eM,hl,fT,aN,beq_self_eq_true,Bool.and_self,Bool.true_and];exact hw
   |nl k=>have:[C.fq sz id off len]=[Dz k]:=hc
          simp[Dz]at this
   |op a b2 e=>have:[C.fq sz id off len]=[C.op a (mQ b2 e)]:=hc
               simp at this
   |_=>exact hsh.elim
  |_=>exact hw
end
section
variable{P:Program}{h1:bH}{β:Type}{s:S2}{k:V->S2->List Nat->Option β}{z:β}
def UW(P:Program)(h1:bH)(kk:K)(xs:List TV)(s:S2)(k:V->S2->List Nat->Option β)(z:β):Prop:=∃v s' l,k v s' l=some z/\∃call:Call,nq P call/\∃x u aD m,cQ call kk (xs.map some) h1 s.next=some (x,u,aD,m)/\tV s s' h1 x u aD m v l
theorem Ou{b:Bool}{f:Nat}{caps:V}{xf:TV}{cs:List V}(hf:gy s.heap (.fn b f caps) xf)(hk:ft s.next s.heap (.fn b f caps))(ha:iD s.heap (.fn b f caps)=true)(hc:vM caps=some cs):
  ∃cc,L9 (some xf)=some (f,cc)/\mN s.heap cs (cc.map TV.c)/\(∀w∈cs,ft s.next s.heap w)/\∀w∈cs,iD s.heap w=true:=by
 rcases EU hf with⟨rfl,ds,hd,rfl⟩|⟨rfl,xs,hd,rfl⟩
 .obtain ⟨a1,a2⟩:=zF (h:=s.heap) caps ha;exact⟨ds.map .d,rfl,xS caps cs _ hc (MM caps ds hd) (a2 _) a1⟩
 .exact ⟨xs,rfl,xS caps cs _ hc hd hk ha⟩
theorem C7{xs:List V}{vs:List TV}{g:H2}{m:Nat}(h:BA g (dj xs) vs)(hk:∀x∈xs,ft m g x):gy g (P4 xs) (tX vs)/\ft m g (P4 xs):=by
 have hrow:∀(l:List V),(∀x∈l,ft m g x)->ft m g (dj l):=by intro l;induction l with|nil=>intro _;trivial|cons a l ih=>intro hl;exact⟨hl a (by simp),ih fun x hx=>hl x (by simp[hx])⟩
 match xs with|[]=>obtain rfl:=h;exact⟨⟨[],rfl,rfl⟩,trivial⟩|[v]=>obtain⟨x,ys,rfl,h2,h3⟩:=h;obtain rfl:=h3;exact⟨ct h2,hk v (by simp)⟩|a::b::l=>obtain⟨x,ys,rfl,h2,h3⟩:=h;obtain⟨y,zs,rfl,h4,h5⟩:=h3;exact⟨⟨_,rfl,_,_,rfl,h2,_,_,rfl,h4,h5⟩,hrow _ hk⟩
theorem Lp:∀(t:Ty)(v:El t),FU t=true->∀d∈aT t v,∃y,d=.lit y:=by
 intro t;induction t with
 |pr a c iha ihc=>
  intro v h d hd;simp only[FU,ai]at h;rcases ap.1 (show d∈aT a v.1++aT c v.2 from hd)with hd|hd
  .exact iha _ h.1 d hd
  .exact ihc _ h.2 d hd
 |st t ih=>intro v h d hd;exact ih v h d hd
 |ar n t ih=>intro v h d hd;obtain⟨a,_,ha⟩:=List.mem_flatMap.1 (show d∈v.1.flatMap (aT t)from hd);exact ih a h d ha
 |un=>intro v h d hd;exact absurd (show d∈[]from hd) (by simp)
 |i k=>intro v h d hd;exact⟨_,aq.1 (show d∈[_]from hd)⟩
 |b=>intro v h d hd;exact⟨_,aq.1 (show d∈[_]from hd)⟩
 |s=>intro v h d hd;exact⟨_,aq.1 (show d∈[_]from hd)⟩
 |f k=>intro v h d hd;exact⟨_,aq.1 (show d∈[_]from hd)⟩
 |_=>intro v h;simp[FU]at h
theorem Lo:∀(rs:List Sh)(l:List V)(s:S2)(xs:List V)(l':List V)(s':S2),IX rs l s=some (xs,l',s')->rs.all Qs=true->rs.all Rw=true->(mK rs l).all yP=true:=by
 intro rs;induction rs with
 |nil=>intro l s xs l' s' _ _ _;rfl
 |cons c rs ih=>
  intro l s xs l' s' hm hl ho;simp only[iM,ai]at hl ho;simp only[IX]at hm;split at hm
  .rename_i x l1 s1 hm1;split at hm
   .rename_i ys l2 s2 hm2;cases c with
    |x t=>
     have ho1:=ho.1
     match l with
     |.x u v::l=>
      have hm1':=hm1;simp only[qX]at hm1;obtain⟨hc,hm3⟩:=aO hm1;simp only[ai,decide_eq_true_eq]at hc;obtain⟨rfl,_⟩:=hc;obtain⟨rfl,e⟩:=ad (aa hm3);obtain⟨rfl,rfl⟩:=ad e;have hlit:=Lp u v hl.1;simp only[mK,fF,iM,ai];refine⟨?_,ih _ _ _ _ _ hm2 hl.2 ho.2⟩;cases hs:xz (.x u)with
      |true=>simp only[cond_true,yP,bc];intro t ht;obtain⟨d,hd,rfl⟩:=cj.1 ht;obtain⟨y,rfl⟩:=hlit d hd;rfl
      |false=>
       have h2:yC (.x u)=true:=by simpa[Rw,hs]using ho1
       have hlen:=Cc hm1' h2;simp only[fF,aN]at hlen
       match he:aT u v,hlen with|[d],_=>obtain⟨y,rfl⟩:=hlit d (by rw[he];simp);rfl
     |[]|.kb _::_|.nl _::_|.so _::_|.sb _ _ _ _ _::_|.op _ _ _::_|.ep _ _ _ _::_|.pt _ _::_|.fn _ _ _::_|.om _::_|.rc _::_|.tp _::_|.ni::_|.co _ _::_|.fl _::_|.no::_|.gn::_=>simp[qX]at hm1
    |_=>simp[Qs]at hl
   .simp at hm
  .simp at hm
theorem N9{h:H2}:∀(ps:List (Bool×Sh))(vs:List V)(m:List V)(j:List Nat)(q:List (V×List Nat)),oQ h ps vs=some (m,j,q)->ps.all (fun p=>!p.1)=true->q=[]:=by
 intro ps;induction ps with
 |nil=>intro vs m j q ha _;cases vs with|nil=>simp[oQ]at ha;exact ha.2.2|cons=>simp[oQ]at ha
 |cons p ps ih=>
  obtain⟨b,c⟩:=p;intro vs m j q ha hb;simp only[iM,ai,dp]at hb;obtain⟨rfl,hb2⟩:=hb;cases vs with
  |nil=>simp[oQ]at ha
  |cons v vs=>
   simp only[oQ]at ha;split at ha
   .rename_i m' j' q' hr;simp only[cond_false]at ha;split at ha
    .obtain ⟨_,e⟩:=ad (aa ha);obtain⟨_,rfl⟩:=ad e;exact ih vs m' j' q' hr hb2
    .simp at ha
   .simp at ha
theorem GB{tb:EF}{ro:Bool}{ke:List Bool}{f:V}{vs:List V}{xf:TV}{xs:List TV}(htb:pM P tb)(hz:xM tb ro ke f vs s k=some z)(hr:HR s.next h1 s.heap)(hf:gy s.heap f xf)(hfk:ft s.next s.heap f)(hfa:iD s.heap f=true)
  (hx:mN s.heap vs xs) (hk:∀w∈vs,ft s.next s.heap w) (ha:∀w∈vs,iD s.heap w=true):UW P h1 (.call ro ke) (xf::xs) s k z:=by
 cases f with
 |fn b fid caps=>
  simp only[xM]at hz;split at hz
  case h_2=>simp at hz
  rename_i sp pay j q hfs;split at hfs
  case h_2=>simp at hfs
  rename_i cs hcs;obtain⟨hmem,hargs⟩:=Gg tb fid _ sp pay j q hfs;obtain⟨hwy,hgood⟩:=htb _ hmem;simp only[Nl,ai]at hwy;obtain⟨⟨⟨w1,w2⟩,w3⟩,w4⟩:=hwy;obtain⟨hc,hz2⟩:=aO hz;simp only[ai,decide_eq_true_eq]at hc;obtain⟨⟨⟨c1,c2⟩,c3⟩,c4⟩:=hc;clear hz;split at hz2
  case h_2=>simp at hz2
  rename_i p hp;obtain⟨zz,hzz,hz3⟩:=rK hz2;obtain⟨rs,os,l,hm,hk3,hg⟩:=HU sp.al zz hz3 (hgood p zz hzz);rw[pY _ _ _ hp]at hg;obtain⟨cc,hfn,d1,d2,d3⟩:=Ou hf hfk hfa hcs;rw[c2]at w1;obtain⟨aD,lent,e1,e2,e3,e4⟩:=EA hr sp.ps (vs++cs) ke pay j q (xs++cc.map TV.c) hargs (CI hx d1) (fun w hw=>(ap.1 hw).elim (hk w) (d2 w)) (fun w hw=>(ap.1 hw).elim (ha w) (d3 w)) w1 w2;obtain⟨o1,o2⟩:=e4.bv;have hnd:=Dy c3;have hap:∀i∈ku (fun(p:V×List Nat)=>p.2) q,i∉j:=fun i hi=>by simpa using bc.1 c4 i hi
  have hdec:decide ((lent.flatMap (fun(p:C×List Nat×List Nat)=>p.2.1)).Nodup/\(lent.flatMap (fun(p:C×List Nat×List Nat)=>p.2.1)).all (fun i=>!aD.contains i)=true)=true:=by refine decide_eq_true ⟨o1.nodup hnd,bc.2 fun i hi=>?_⟩;have:=hap i (o1.subset hi);simpa using fun hm=>this (e2 i hm).1
  have hwl:=EQ hr e4;have hokR:rs.all Rw=true:=bc.1 w3 _ hm;cases ro with
  |true=>
   have hro:sp.ro=true:=by simpa using c1
   rw[hro]at w4;have w5:P3 sp=true:=by simpa using w4
   simp only[P3,ai]at w5;obtain⟨v1,v2⟩:=w5;have v3:=bc.1 v2 _ hm;simp only[ai,List.isEmpty_iff]at v3;obtain⟨v3,rfl⟩:=v3;have hq:=N9 _ _ _ _ _ hargs v1;subst hq;obtain rfl:lent=[]:=e4;simp only[cond_true]at hk3;obtain⟨s1,bu,b1,b2,b3⟩:=zD hr [] [] [] _ s h1 _ hk3 rfl (au _) hr (k7.refl _ _) fX;obtain⟨rfl,hs1⟩:[]=bu/\s.next=s1.next:=by simpa[eW,lp]using b2
   split at b1
   case h_2=>simp at b1
   rename_i ys l2 s2 hmk;obtain⟨m1,m2,m3,m4,m5⟩:=AT rs _ s1 ys l2 s2 _ hmk b3.hr hokR;obtain⟨t1,t2⟩:=C7 m1 m2;have hlit:=Lo rs _ s1 ys l2 s2 hmk v3 hokR;refine⟨_,_,_,b1,only fid (gX sp.ps pay) (mK rs (l.take (gZ rs).length)) (lp [] (l.drop (gZ rs).length)),Hc hg,?_⟩;have hld:uG h1 s.next true aD [] (some (mK rs (l.take (gZ rs).length),lp [] (l.drop (gZ rs).length)))=some (tX (iq s.next (mK rs (l.take (gZ rs).length))).1,(iq s.next (mK rs (l.take (gZ rs).length))).2.1,aD,(iq s.next (mK rs (l.take (gZ rs).length))).2.2):=by simp only[uG,hlit,lp,List.isEmpty_nil,and_self,if_true]
   obtain⟨g1,g2⟩:=HN (ro:=true) hfn (nm xs) e1 hwl hdec hld;rw[<-hs1]at t1 m3 m4;refine⟨_,_,_,_,Bp g1 g2,?_⟩;obtain⟨W1,x1,x2,x3⟩:=b3.wo;obtain⟨W2,y1,y2,y3,y4⟩:=m3.wo;refine⟨t1,t2,m3.hr,b3.eY.trans b3.le m3.eY,by rw[m3.dT,b3.dT],by rw[m3.gh,b3.gh],by omega,by have:=b3.le;have:=m3.le;omega,fun i hi=>aF _ (e2 i hi).1,fun i hi h=>(by rw[y4 i fun q=>by have:=(y3 i q).1;have:=b3.le;omega];exact b3.nb i hi h),W2++W1,by rw[y1,x1];simp only[aL],fun p hp=>aF _ (y2 p hp),fun i hi=>?_⟩;simp only[ap,not_or]at hi;rw[y4 i hi.1,x3 i hi.2]
  |false=>
   simp only[cond_false]at hk3;split at hk3
   case h_2=>simp at hk3
   rename_i s0 hs0;obtain⟨fu,f1,f2,f3,f4,f5,f6,f7,f8,f9⟩:=Hz (s0:=s) rfl hr j s0 aD aD hs0 e2 e3;obtain⟨s1,bu,b1,b2,b3⟩:=zD hr os q lent _ s0 (fu++h1) _ hk3 e4 (by omega) (by rw[f6];exact f2) f3 hnd;split at b1
   case h_2=>simp at b1
   rename_i ys l2 s2 hmk;obtain⟨m1,m2,m3,m4,m5⟩:=AT rs _ s1 ys l2 s2 _ hmk b3.hr hokR;obtain⟨t1,t2⟩:=C7 m1 m2;rw[f6]at b2;refine⟨_,_,_,b1,only fid (gX sp.ps pay) (mK rs (l.take (gZ rs).length)) (lp os (l.drop (gZ rs).length)),Hc hg,?_⟩;have hld:=UG (rs:=mK rs (l.take (gZ rs).length)) f1 b2;obtain⟨g1,g2⟩:=HN (ro:=false) hfn (nm xs) e1 hwl hdec hld;refine⟨_,_,_,_,Bp g1 g2,?_⟩;obtain⟨W1,x1,x2,x3⟩:=b3.wo;obtain⟨W2,y1,y2,y3,y4⟩:=m3.wo;refine⟨t1,t2,?_,(f3.trans (Nat.le_of_eq f6.symm) b3.eY).trans (by have:=b3.le;omega) m3.eY,by rw[m3.dT,b3.dT,f4],by rw[m3.gh,b3.gh,f5],by omega,by have:=b3.le;have:=m3.le;omega,fun i hi=>?_,fun i hi h=>(by rw[y4 i fun q=>by have:=(y3 i q).1;have:=b3.le;omega];exact b3.nb i (by omega) ((f9 i fun q=>L2 rfl hs0 i q h).trans h)),W2++W1++j,by rw[y1,x1,f7];simp only[aL],fun p hp=>?_,fun i hi=>?_⟩
   .have:=m3.hr;simpa only[aL]using this
   .rcases ap.1 hi with hi|hi
    .exact aF _ (e2 i hi).1
    .exact aH _ (o2 i hi)
   .simp only[aL,ap]at hp|-;rcases hp with hp|hp|hp
    .exact .inl (y2 p hp)
    .exact .inr (.inl (x2 p hp))
    .exact .inr (.inr (f8 p hp))
   .simp only[aL,ap,not_or]at hi;rw[y4 i hi.1,x3 i hi.2.1,f9 i hi.2.2]
 |_=>simp[xM]at hz
end
def lN:Prop:=∀g v,LW g=some v->∃d,QC g=some d/\∀h n,gy h v (.c (.d d))/\ft n h v/\iD h v=true
theorem vG{n:Nat}{h h':H2}(hs:k7 n h h')(hnb:∀i,i<n->fO h i=none->fO h' i=none):∀{v:V},ft n h v->iD h' v=true->iD h v=true:=by
 have key:∀id,id<n->(match fO h' id with|some _=>true|none=>false)=true->(match fO h id with|some _=>true|none=>false)=true:=by intro id hid ha;cases ho:fO h id with|some _=>rfl|none=>rw[hnb id hid ho]at ha;simp at ha
 intro v;induction v with
 |so id=>
  intro hk ha;have hk:id<n:=hk;simp only[iD]at ha|-;split at ha
  .rename_i t s v ho;obtain⟨s0,v0,h1,_⟩:=tq hs hk (.inl ho);rcases h1 with h1|h1<;>rw[h1]
  .rename_i t s v ho;obtain⟨s0,v0,h1,_⟩:=tq hs hk (.inr ho);rcases h1 with h1|h1<;>rw[h1]
  .simp at ha
 |sr id=>
  intro hk ha;have hk:id<n:=hk;simp only[iD]at ha|-;split at ha
  .rename_i t s ln ho;obtain⟨s0,ln0,h1,_⟩:=G1 hs hk ho;rw[h1]
  .simp at ha
 |sb id ver lo t r=>
  rintro⟨hid,hk⟩ ha;obtain⟨hd,ha⟩:=dR.1 ha;have ha:GH h' id ver=true:=ha;obtain⟨u,s,ho⟩:=n_ ha;obtain⟨s0,v0,h3,h4,_,_⟩:=tq hs hid ho;obtain⟨h7,_⟩:=hk u s0 v0 h3;have:v0=ver:=by omega
  subst this;refine dR.2 ⟨hd,?_⟩;rcases h3 with h3|h3<;>rw[h3]<;>simp
 |op id t p=>rintro⟨hid,_⟩ ha;exact key id hid ha
 |ep id m t p=>rintro⟨hid,_⟩ ha;exact key id hid ha
 |om id=>intro hid ha;exact key id hid ha
 |fn z f l ih=>intro hk ha;cases z with|true=>exact ha|false=>exact ih hk ha
 |rc l ih=>intro hk ha;exact ih hk ha
 |tp l ih=>intro hk ha;exact ih hk ha
 |co a r iha ihr=>rintro⟨h1,h2⟩ ha;simp only[iD,ai]at ha|-;exact⟨iha h1 ha.1,ihr h2 ha.2⟩
 |_=>intro _ ha;exact ha
def J1(h:H2):V->List C->Prop
 |.ni,cs=>cs=[]
 |.co a r,cs=>∃c m,cs=c::m/\(iD h a=true->fC h a [c])/\J1 h r m
 |_,_=>False
theorem DZ{n:Nat}{h h':H2}(hs:k7 n h h')(hnb:∀i,i<n->fO h i=none->fO h' i=none):∀{v:V}{cs:List C},ft n h v->J1 h v cs->J1 h' v cs:=by intro v;induction v with|co a r _ ihr=>rintro cs ⟨h1,h2⟩ ⟨c,m,rfl,h3,h4⟩;exact⟨c,m,rfl,fun ha=>lH hs h1 (h3 (vG hs hnb h1 ha)),ihr h2 h4⟩|ni=>intro cs _ h;exact h|_=>intro cs _ h;exact h.elim
structure R2(s1:St)(s:S2):Prop where
 dT:∀t v,cA s.dT t=some v->ft s.next s.heap v/\(iD s.heap v=true\/v=.no->∃x,cA s1.dT t=some x/\gy s.heap v x)
 hr:HR s.next s1.heap s.heap
 next:s1.next<=s.next
 gh:J1 s.heap s.gh s1.gh/\ft s.next s.heap s.gh
theorem KG{v:Value}(hp:ed v=true)(ha:∀cs,v≠.agg cs):cv v=some (.c (.d (.lit v))):=by
 unfold cv;split
 .rename_i cs;exact absurd rfl (ha cs)
 .rw [if_pos hp]
theorem HI{c:Value}{v:V}(hc:SV c=some v)(h:H2)(n:Nat):∃x,cv c=some x/\gy h v x/\ft n h v/\iD h v=true:=by
 unfold SV at hc;split at hc
 case h_10=>
  rename_i cs;split at hc
  .rename_i hp;obtain rfl:=aa hc;refine⟨.agg (cs.toList.map fun v=>.d (.lit v)),by simp only[cv];rw[if_pos hp],ct (xW rfl ⟨hp,rfl⟩),trivial,hp⟩
  .simp at hc
 case h_11=>simp at hc
 all_goals
  obtain rfl:=aa hc;exact⟨_,KG rfl (fun cs e=>by cases e),ct (dV rfl (by first|rfl|exact⟨rfl,rfl⟩)),trivial,rfl⟩
theorem ot(hg:lN){s1:St}{s:S2}(hr:R2 s1 s){o:Operand}{v:V}(ho:JY s.dT s.heap o=some v):∃x,kR s1.dT o=some x/\gy s.heap v x/\ft s.next s.heap v/\iD s.heap v=true:=by
 cases o with
 |tmp t=>
  simp only[JY]at ho;split at ho
  .rename_i w hw;obtain⟨ha,ho⟩:=aO ho;obtain rfl:=aa ho;obtain⟨h3,h4⟩:=hr.dT t w hw;obtain⟨x,h1,h2⟩:=h4 (.inl ha);exact⟨x,h1,h2,h3,ha⟩
  .simp at ho
 |const c=>exact HI ho _ _
 |global g=>obtain⟨d,h1,h2⟩:=hg g v ho;exact⟨_,by simp only[kR,h1,Option.map_some],h2 _ _⟩
 |func f=>obtain rfl:=aa ho;exact⟨_,rfl,ct (dV rfl ⟨[],rfl,rfl⟩),trivial,rfl⟩
structure rX(s1:St)(s:S2)(q:Rg):Prop where
 r:R2 s1 s
 kn:∀g b,Qy q.kn g=some b->cA s1.dT g=some (tB b)
 cd:∀t g b v,cA q.cd t=some (g,b,v)->∃c,cA s1.dT g=some (tB c)/\(c=b->∃x,cA s1.dT t=some x/\gy s.heap v x/\ft s.next s.heap v)
theorem PW{a b:Bool}(h:tB a=tB b):a=b:=by simpa[tB]using h
theorem ve(hg:lN){s1:St}{s:S2}{q:Rg}(hr:rX s1 s q){gc:Option (Nat×Bool)}(hgc:∀g b,gc=some (g,b)->cA s1.dT g=some (tB b)){o:Operand}{v:V}(ho:JZ s q gc o=some v):
  ∃x,kR s1.dT o=some x/\gy s.heap v x/\ft s.next s.heap v/\iD s.heap v=true:=by
 cases o with
 |tmp t=>
  simp only[JZ]at ho;split at ho
  .rename_i g b w hw;obtain⟨hc,ho⟩:=aO ho;obtain⟨ha,ho⟩:=aO ho;obtain rfl:=aa ho;obtain⟨c,h1,h2⟩:=hr.cd t g b w hw
   have hb:cA s1.dT g=some (tB b):=by
    simp only[cM,decide_eq_true_eq]at hc;rcases hc with hc|hc
    .exact hgc g b hc
    .exact hr.kn g b hc
   rw[h1]at hb;obtain⟨x,h3,h4,h5⟩:=h2 (PW (aa hb));exact⟨x,h3,h4,h5,ha⟩
  .exact ot hg hr.r ho
 |const c=>exact ot hg hr.r ho
 |global g=>exact ot hg hr.r ho
 |func f=>exact ot hg hr.r ho
theorem AN(hg:lN){s1:St}{s:S2}{q:Rg}(hr:rX s1 s q){gc:Option (Nat×Bool)}(hgc:∀g b,gc=some (g,b)->cA s1.dT g=some (tB b)):∀(os:List Operand)(vs:List V),FG s q gc os=some vs->
  ∃xs,os.map (kR s1.dT)=xs.map some/\mN s.heap vs xs/\(∀w∈vs,ft s.next s.heap w)/\∀w∈vs,iD s.heap w=true:=by
 intro os;induction os with
 |nil=>intro vs ho;obtain rfl:=aa ho;exact⟨[],rfl,trivial,fun w hw=>by simp at hw,fun w hw=>by simp at hw⟩
 |cons o os ih=>
  intro vs ho;simp only[FG]at ho;split at ho
  .rename_i v l hv hl;obtain rfl:=aa ho;obtain⟨x,h1,h2,h3,h4⟩:=ve hg hr hgc hv;obtain⟨xs,g1,g2,g3,g4⟩:=ih l hl;refine⟨x::xs,by simp[h1,g1],⟨h2,g2⟩,fun w hw=>?_,fun w hw=>?_⟩
   .rcases aP.1 hw with rfl|hw
    .exact h3
    .exact g3 w hw
   .rcases aP.1 hw with rfl|hw
    .exact h4
    .exact g4 w hw
  .simp at ho
theorem MD{h:H2}{t:Ty}{w:V}{b:El t}{x:TV}(hd:kY t=true)(hx:gy h w x)(hc:tQ t w=some b):gy h (.x t b) x:=by obtain⟨cs,h1,h2,h3⟩:=oS (Pu hc) hx;have e:=jI w false t b cs hc h1;have ha:=wG hc;exact ct ⟨cs,⟨hd,e⟩,fun q=>h2 (ha.trans q),fun q=>h3 (ha.trans q)⟩
theorem DH{h:H2}{c:Bool}{a b v:V}{x:TV}(hm:UE c a b=some v)(ha:iD h a=true)(hb:iD h b=true)(h1:c=true->gy h a x)(h2:c=false->gy h b x):gy h v x/\∀n,ft n h v:=by
 unfold UE at hm;split at hm
 .rename_i p q;obtain rfl:=aa hm;refine⟨?_,fun _=>trivial⟩;cases c with|true=>rw[vS (h1 rfl)];exact xb _|false=>rw[vS (h2 rfl)];exact xb _
 .rename_i t p w;split at hm
  .rename_i y hy;obtain rfl:=aa hm;refine⟨?_,fun _=>trivial⟩;cases c with|true=>exact h1 rfl|false=>exact MD ha (h2 rfl) hy
  .simp at hm
 .rename_i t p w;split at hm
  .rename_i y hy;obtain rfl:=aa hm;refine⟨?_,fun _=>trivial⟩;cases c with|true=>exact MD hb (h1 rfl) hy|false=>exact h2 rfl
  .simp at hm
 .simp at hm
theorem xF(hg:lN){e:List (Nat×V)}{h:H2}{o:Operand}{v:V}(ho:JY e h o=some v):iD h v=true:=by
 cases o with
 |tmp t=>
  simp only[JY]at ho;split at ho
  .obtain ⟨ha,ho⟩:=aO ho;obtain rfl:=aa ho;exact ha
  .simp at ho
 |const c=>obtain⟨_,_,_,_,ha⟩:=HI ho h 0;exact ha
 |global g=>obtain⟨d,_,h2⟩:=hg g v ho;exact(h2 h 0).2.2
 |func f=>obtain rfl:=aa ho;rfl
theorem Hb(hg:lN){s:S2}{q:Rg}{gc:Option (Nat×Bool)}{o:Operand}{v:V}(ho:JZ s q gc o=some v):iD s.heap v=true:=by
 cases o with
 |tmp t=>
  simp only[JZ]at ho;split at ho
  .obtain ⟨hc,ho⟩:=aO ho;obtain⟨ha,ho⟩:=aO ho;obtain rfl:=aa ho;exact ha
  .exact xF hg ho
 |const c=>exact xF (e:=s.dT) (o:=.const c) hg ho
 |global g=>exact xF (e:=s.dT) (o:=.global g) hg ho
 |func f=>exact xF (e:=s.dT) (o:=.func f) hg ho
theorem Iy(hg:lN){s1:St}{s:S2}{q:Rg}(hr:rX s1 s q){gc:Option (Nat×Bool)}(hgc:∀g b,gc=some (g,b)->cA s1.dT g=some (tB b)){os:List Operand}{v:V}(hp:KI s q gc os=some v)(c:Call)(H:bH)(nx:Nat):
  ∃x,cQ c .pick (os.map (kR s1.dT)) H nx=some (x,[],[],nx)/\gy s.heap v x/\ft s.next s.heap v:=by
 have one:∀(g a b:Operand)(t:Bool)(w:V),kR s1.dT g=some (tB t)->JZ s q gc (bif t then a else b)=some w->∃x,cQ c .pick ([g,a,b].map (kR s1.dT)) H nx=some (x,[],[],nx)/\gy s.heap w x/\ft s.next s.heap w:=by intro g a b t w h1 h2;obtain⟨x,h3,h4,h5,_⟩:=ve hg hr hgc h2;refine⟨x,?_,h4,h5⟩;simp only[aB,aW,h1];cases t with|true=>simp only[cond_true]at h3;rw[h3];rfl|false=>simp only[cond_false]at h3;rw[h3];rfl
 unfold KI at hp;split at hp
 .rename_i g a b;split at hp
  .rename_i _ _ t hk;exact one _ a b t v (hr.kn g t hk) hp
  .rename_i t hk he;obtain⟨x,h1,h2⟩:=(hr.r.dT g _ he).2 (.inl rfl);rw[vS h2]at h1;exact one _ a b t v h1 hp
  .rename_i t hk he;obtain⟨x,h1,h2⟩:=(hr.r.dT g _ he).2 (.inl rfl)
   .rw [GX h2]at h1;split at hp
    .rename_i x y hx hy;have ax:=Hb hg hx;have ay:=Hb hg hy;cases t with|true=>obtain⟨z,g1,g2,_⟩:=ve hg hr (gc:=some (g,true)) (fun g' b' e=>by cases e;exact h1) hx;obtain⟨m1,m2⟩:=DH hp ax ay (fun _=>g2) (fun e=>by cases e);refine⟨z,?_,m1,m2 _⟩;have h1':kR s1.dT (.tmp g)=some (tB true):=h1;simp only[aB,aW,h1',g1];rfl|false=>obtain⟨z,g1,g2,_⟩:=ve hg hr (gc:=some (g,false)) (fun g' b' e=>by cases e;exact h1) hy;obtain⟨m1,m2⟩:=DH hp ax ay (fun e=>by cases e) (fun _=>g2);refine⟨z,?_,m1,m2 _⟩;have h1':kR s1.dT (.tmp g)=some (tB false):=h1;simp only[aB,aW,h1',g1];rfl
    .simp at hp
  .simp at hp
 .rename_i t a b;exact one _ a b t v rfl hp
 .simp at hp
theorem It{s:S2}{q:Rg}{gc:Option (Nat×Bool)}{os:List Operand}{vs:List V}(ho:FG s q gc os=some vs)(hp:NV os=true):∀a k b,vs=[a,.x (.i k) b]->0<b:=by
 intro a k b e;subst e
 match os with
 |[o,.const (.int k' m)]=>
  simp only[NV,decide_eq_true_eq]at hp;simp only[FG,JZ,JY,SV]at ho;split at ho
  .rename_i v l hv hl;simp only[bm]at hl;subst hl;simp only[bm,List.cons.injEq,and_true]at ho;obtain⟨_,e⟩:=ho;cases e;exact hp
  .simp at ho
theorem AB(hg:lN){s1:St}{s:S2}{q:Rg}(hr:rX s1 s q){gc:Option (Nat×Bool)}(hgc:∀g b,gc=some (g,b)->cA s1.dT g=some (tB b)){o:OP}{v:V}{l:List Nat}(ht:Nu o s q gc=some (v,l))(c:Call)(nx:Nat):
  ∃x aD,cQ c o.o.k (o.o.args.map (kR s1.dT)) s1.heap nx=some (x,[],aD,nx)/\gy s.heap v x/\ft s.next s.heap v/\∀i∈aD,i∈l:=by
 unfold Nu at ht;cases hpk:F1 o.o.k with
 |true=>
  rw[hpk,cond_true]at ht;split at ht
  .rename_i w hw;obtain⟨rfl,rfl⟩:=ad (aa ht);obtain⟨x,h1,h2,h3⟩:=Iy hg hr hgc hw c s1.heap nx;have hk:o.o.k=.pick:=by revert hpk;cases o.o.k<;>simp[F1]
   rw[hk];exact⟨x,[],h1,h2,h3,fun i hi=>by simp at hi⟩
  .simp at ht
 |false=>
  rw[hpk,cond_false]at ht;split at ht
  .rename_i vs hvs;obtain⟨xs,h1,h2,h3,h4⟩:=AN hg hr hgc _ _ hvs;rw[h1];exact H5 hr.r.hr ht h2 h3 h4 (fun hp=>It hvs hp) c nx
  .simp at ht
theorem Mh{P:Program}{β:Type}{tb:EF}(htb:pM P tb)(hg:lN){s1:St}{s:S2}{q:Rg}(hr:rX s1 s q){gc:Option (Nat×Bool)}(hgc:∀g b,gc=some (g,b)->cA s1.dT g=some (tB b)){o:OP}{k:V->S2->List Nat->Option β}{z:β}
  (hz:SU tb o s q gc k=some z):∃v s' l,k v s' l=some z/\∃call:Call,nq P call/\∃x u aD m,cQ call o.o.k (o.o.args.map (kR s1.dT)) s1.heap s.next=some (x,u,aD,m)/\tV s s' s1.heap x u aD m v l:=by
 unfold SU at hz;split at hz
 .rename_i v l ht;obtain⟨x,aD,h1,h2,h3,h4⟩:=AB hg hr hgc ht qk s.next;exact⟨v,s,l,hz,qk,qF,x,[],aD,s.next,h1,tV.pure hr.r.hr h2 h3 h4⟩
 .split at hz
  .rename_i vs hvs;obtain⟨xs,h1,h2,h3,h4⟩:=AN hg hr hgc _ _ hvs;rw[h1];split at hz
   .rename_i ro ke f vs' hk;obtain⟨y,ys,rfl,h5,h6⟩:=gU h2;obtain⟨v,s',l,e1,call,e2,x,u,aD,m,e3,e4⟩:=GB (P:=P) htb hz hr.r.hr h5 (h3 _ (by simp)) (h4 _ (by simp)) h6 (fun w hw=>h3 w (by simp[hw])) (fun w hw=>h4 w (by simp[hw]));rw[hk];exact⟨v,s',l,e1,call,e2,x,u,aD,m,e3,e4⟩
   .obtain ⟨v,s',l,e1,e2⟩:=FB hz hr.r.hr h2 h3 h4;obtain⟨x,u,aD,m,e3,e4⟩:=e2 qk;exact⟨v,s',l,e1,qk,qF,x,u,aD,m,e3,e4⟩
  .simp at hz
end Go.Ev
