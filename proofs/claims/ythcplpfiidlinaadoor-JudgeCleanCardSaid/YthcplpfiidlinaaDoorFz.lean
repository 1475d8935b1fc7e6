/- Calls: the arguments, as they are laid. Conditions: as stated. -/
import Derived.Test.YthcplpfiidlinaaDoorFq
open Bool renaming and_eq_true->ai,and_eq_true_iff->dl,not_eq_true'->dn,or_eq_true->cJ
open List renaming all_cons->iI,all_eq_true->bc,append_assoc->aJ,append_nil->bC,cons_append->aT,drop_zero->cP,flatMap->ko,flatMap_cons->bi,headD_cons->bT,length_map->aN,map_cons->aD,map_nil->aV,mem_append->ap,mem_append_left->aE,mem_append_right->aH,mem_cons->aM,mem_cons_of_mem->aC,mem_map->b_,mem_singleton->am,nil_sublist->j6,nodup_append->bV,nodup_nil->fQ,singleton_append->aY,singleton_inj->fo
open List.Sublist renaming refl->bW
open Nat renaming le_refl->au,le_succ->bH,lt_succ_self->aX,zero_le->cX
open Option.some renaming inj->aa,injEq->bl
open Prod.mk renaming inj->ad
namespace Go.Ev
def O8(k:Nat):D:=match Dt k with|.d x=>x|_=>default
theorem Qd(k:Nat):Dt k=.d (O8 k):=rfl
def qM:Sh->List V->List D×List V
 |.x _,.x u v::l=>(aR u v,l)
 |.pt _,.x u v::l=>([.pt (aR u v)],l)
 |.nl k,l=>([O8 k],l)
 |.fn f c,l=>([.fn f (qM c l).1],(qM c l).2)
 |.pr a c,l=>((qM a l).1++(qM c (qM a l).2).1,(qM c (qM a l).2).2)
 |_,l=>([],l)
def H7(t:Ty):Sl (El t)->Option (List (List D))
 |.nil=>none
 |.mk l=>some (l.map (aR t))
def x5(t:Ty):Sl (Sl (El t))->T
 |.nil=>.d (.lit (.slice none 0 0))
 |.mk l=>.zD (bz t) (l.map (H7 t))
theorem HX{t:Ty}(l:List (Sl (El t))):uq (l.map (oL t))=some (l.map (H7 t)):=by induction l with|nil=>rfl|cons s l ih=>simp only[aD,uq,ih];cases s<;>rfl
theorem x8{t:Ty}(l:List (Sl (El t))):(l.map (H7 t)).map mK=l.map (oL t):=by rw[List.map_map];exact List.map_congr_left fun s _=>by cases s<;>rfl
def fA:Sh->List V->List T×List V
 |.x _,.x u v::l=>((aR u v).map .d,l)
 |.os _,.x (.sl u) v::l=>([zL (bz u) (aR u) v],l)
 |.rw _,.x (.sl (.sl u)) v::l=>([x5 u v],l)
 |.pb _ c,l=>([.pt (fA c l).1],(fA c l).2)
 |.nl k,l=>([.d (O8 k)],l)
 |.st c,l=>fA c l
 |.pr a c,l=>((fA a l).1++(fA c (fA a l).2).1,(fA c (fA a l).2).2)
 |.gn,l=>([.uE],l)
 |_,l=>([],l)
def xp:Sh->Bool
 |.x t=>nc t
 |.st _=>true
 |_=>false
def gS:List (Bool×Sh)->List V->List A
 |[],_=>[]
 |(true,c)::r,l=>.mt ((fA c l).1.headD default)::gS r (fA c l).2
 |(false,c)::r,l=>(bif xp c then .agg (qM c l).1 else .d ((qM c l).1.headD default))::gS r (qM c l).2
def mB:List Sh->List V->List R
 |[],_=>[]
 |c::r,l=>(bif xp c then .agg (fA c l).1 else .c ((fA c l).1.headD default))::mB r (fA c l).2
def lf:List Sh->List V->List T
 |[],_=>[]
 |c::r,l=>(fA c l).1.headD default::lf r (fA c l).2
def wm:Sh->Nat
 |.x t=>bz t+1
 |.pt t=>bz t+3
 |.fn _ c=>wm c+2
 |.pr a c=>wm a+wm c
 |.ni=>0
 |_=>1
section
variable{h:H2}{n:Nat}{h1:bF}
def AV:C->Prop
 |.d _|.fh _ _ _ _=>True
 |_=>False
theorem EJ{c:C}(hc:AV c)(k j:Nat):dV h1 k c=dV h1 j c:=by cases c with|d x=>rw[pR,pR]|fh a b e f=>cases k<;>cases j<;>simp only[dV]|_=>exact hc.elim
theorem xK:∀{cs:List C}{ds:List D}{aA:List Nat}{k:Nat},(∀c∈cs,AV c)->dP h1 cs=some (ds,aA)->cs.length<k->fS h1 k cs=some (ds,aA):=by
 intro cs;induction cs with
 |nil=>intro ds aA k _ h _;simp only[dP]at h;rw[<-h];cases k<;>rfl
 |cons c cs ih=>
  intro ds aA k hf h hk;cases k with
  |zero=>simp at hk
  |succ k=>
   simp only[dP]at h;split at h
   .rename_i x a xs b hx hxs;simp only[fS];rw[EJ (hf c (by simp)) k 300,hx,ih (fun c hc=>hf c (by simp[hc])) hxs (by simpa using hk)];exact h
   .simp at h
theorem Bn:∀{x y:List C}{dx dy:List D}{ix iy:List Nat}{k:Nat},fS h1 k x=some (dx,ix)->fS h1 (k-x.length) y=some (dy,iy)->x.length<=k->fS h1 k (x++y)=some (dx++dy,ix++iy):=by
 intro x;induction x with
 |nil=>
  intro y dx dy ix iy k hx hy _;have:fS h1 k []=some ([],[]):=by cases k<;>rfl
  rw[this]at hx;obtain⟨rfl,rfl⟩:=ad (aa hx);simpa using hy
 |cons c x ih=>
  intro y dx dy ix iy k hx hy hk;cases k with
  |zero=>simp at hk
  |succ k=>
   simp only[fS]at hx;split at hx
   .rename_i p a q b hp hq;obtain⟨rfl,rfl⟩:=ad (aa hx);simp only[aT,fS,hp];rw[ih hq (by simpa using hy) (by simpa using hk)];simp
   .simp at hx
theorem DV{α:Type}{sz id:Nat}{enc:α->List D}{s:Sl α}:AV (mj sz enc id s):=by cases s<;>trivial
theorem LX{id lo:Nat}{t:Ty}{r:Sl (El t)}:AV (yb id lo t r):=by cases r<;>trivial
theorem DR:∀(v w:V)(l:List Nat)(cs:List C),je h v=some (w,l)->eZ h v cs->iq h v=true->∀c∈cs,AV c:=by
 have fl:∀(ds:List D),∀c∈ds.map C.d,AV c:=fun ds c hc=>by obtain⟨d,_,rfl⟩:=b_.1 hc;trivial
 intro v;induction v with
 |so id=>
  intro w l cs hf hv _ c hc;simp only[je]at hf;split at hf
  .rename_i t s l' hs;obtain⟨ver,ho,_⟩:=ur hs;obtain⟨c',rfl,hc'⟩:=hv;obtain rfl:=am.1 hc;rw[hc'.1 _ (mi ho)];exact DV
  .simp at hf
 |sr id=>
  intro w l cs hf hv _ c hc;simp only[je]at hf;split at hf
  .rename_i t s ho;obtain⟨c',rfl,hc'⟩:=hv;obtain rfl:=am.1 hc;rw[hc'.1 _ (su ho)];exact DV
  .simp at hf
 |sb id ver lo t r=>intro w l cs hf hv ha c hc;obtain⟨c',rfl,hc'⟩:=hv;obtain rfl:=am.1 hc;rw[hc'.1 (dl.1 ha).2];exact LX
 |rc r ih=>
  intro w l cs hf hv ha;simp only[je]at hf;split at hf
  .rename_i w' l' hw;exact ih w' l' cs hw hv ha
  .simp at hf
 |co a r iha ihr=>
  intro w l cs hf hv ha c hc;simp only[je]at hf;split at hf
  .rename_i x l1 y l2 hx hy;obtain⟨ca,cr,rfl,h2,h3⟩:=hv;simp only[iq,ai]at ha;rcases ap.1 hc with hc|hc
   .exact iha x l1 ca hx h2 ha.1 c hc
   .exact ihr y l2 cr hy h3 ha.2 c hc
  .simp at hf
 |x t v=>intro w l cs hf hv _;obtain⟨_,rfl⟩:=hv;exact fl _
 |kb c=>intro w l cs hf hv _;obtain rfl:=hv;exact fl [_]
 |nl k=>intro w l cs hf hv _;obtain rfl:=hv;exact fl [_]
 |fl q=>intro w l cs hf hv _;obtain⟨_,rfl⟩:=hv;rw[BN];exact fl _
 |ni=>intro w l cs hf hv _;obtain rfl:=hv;exact fl []
 |pt t v=>intro w l cs hf hv _;obtain⟨_,rfl⟩:=hv;exact fl [_]
 |fn z f q ih=>intro w l cs hf hv _;cases z with|true=>obtain⟨ds,_,rfl⟩:=hv;exact fl [_]|false=>simp[je]at hf
 |_=>intro w l cs hf hv;simp[je]at hf
theorem Mx:∀(v:V)(ds:List D),qt v=some ds->eZ h v (ds.map .d):=by
 intro v;induction v with
 |co a r iha ihr=>
  intro ds hd;simp only[qt]at hd;split at hd
  .rename_i x y hx hy;obtain rfl:=aa hd;exact⟨_,_,by simp,iha x hx,ihr y hy⟩
  .simp at hd
 |pt t v=>
  intro ds hd;simp only[qt]at hd;split at hd
  .rename_i ht;obtain rfl:=aa hd;exact⟨ht,rfl⟩
  .simp at hd
 |ni=>intro ds hd;obtain rfl:[]=ds:=by simpa[qt]using hd
      rfl
 |_=>intro ds hd;simp[qt]at hd
theorem zx:∀(v:V),Ch v=true->iq h v=true/\∀n,eX n h v:=by intro v;induction v with|co a r iha ihr=>intro hv;simp only[Ch,ai]at hv;exact⟨by simp only[iq,(iha hv.1).1,(ihr hv.2).1,Bool.and_self],fun n=>⟨(iha hv.1).2 n,(ihr hv.2).2 n⟩⟩|pt t v=>intro hv;exact⟨hv,fun _=>trivial⟩|ni=>intro _;exact⟨rfl,fun _=>trivial⟩|_=>intro hv;simp[Ch]at hv
theorem JC(hr:HR n h1 h):∀(c:Sh)(v:V)(l:List V)(i:List Nat)(cs:List C),oH h c v=some (l,i)->eZ h v cs->eX n h v->iq h v=true->
  ∃ds aA,(∀k,wm c<=k->fS h1 k cs=some (ds,aA))/\(∀r,qM c (l++r)=(ds,r))/\(∀j∈aA,j∈i/\¬mF h j)/\(∀j∈i,j∈aA\/mF h j)/\cs.length<=wm c:=by
 intro c;induction c with
 |x t=>
  intro v l i cs ha hv hk hal;simp only[oH]at ha;split at ha
  .rename_i w l' hw;split at ha
   .rename_i y hy;obtain⟨rfl,rfl⟩:=ad (aa ha);obtain⟨ds,aA,f1,f2,f3,f4,_⟩:=sL hr v w l' cs hw hv hk hal;have e3:=pq (iS w false t y _ hy f2);subst e3;have hl:cs.length=bz t:=by rw[<-uk f1,bJ]
    exact⟨_,aA,fun k hk=>xK (DR v w l' cs hw hv hal) f1 (by simp only[wm]at hk;omega),fun r=>rfl,f3,f4,by simp only[wm];omega⟩
   .simp at ha
  .simp at ha
 |pt t=>
  intro v l i cs ha hv hk hal;cases v with
  |pt u v=>
   simp only[oH]at ha;split at ha
   .rename_i y hy;obtain⟨rfl,rfl⟩:=ad (aa ha);obtain⟨e,_⟩:=wC hy;obtain⟨_,rfl⟩:=hv;refine⟨[.pt (aR t y)],[],fun k hk=>?_,fun r=>rfl,fun j hj=>by simp at hj,fun j hj=>by simp at hj,by simp[wm]⟩;rw[<-e];exact xw (h1:=h1) [.pt (aR t y)] k (by simp only[wm]at hk;simp;omega)
   .simp at ha
  |op id u p=>
   cases p with
   |cons=>simp[oH]at ha
   |nil=>
    obtain rfl:=hv;have e0:mI u []=0:=by cases u<;>rfl
    rw[e0];simp only[oH]at ha;split at ha
    .rename_i w c ho;obtain⟨hc,ha⟩:=aO ha;simp only[ai,decide_eq_true_eq]at hc;split at ha
     .rename_i c' l' hw;split at ha
      .rename_i y hy;obtain⟨rfl,rfl⟩:=ad (aa ha);obtain⟨_,⟨cb,e1,e2,e3⟩,e4⟩:=hr.ob id _ ho;obtain⟨ds,aA,f1,f2,f3,f4,_⟩:=sL hr c c' l' cb hw e2 e4 hc.2;have e5:=pq (iS c' false t y _ hy f2);subst e5;have hl:cb.length=bz t:=by rw[<-uk f1,bJ]
       have hnil:¬mF h id:=by
        rintro(⟨u',v',e⟩|⟨u',ln',e⟩)
        .rcases e with e|e<;>rw[ho]at e<;>simp at e
        .rw [ho]at e;cases e
       refine⟨[.pt (aR t y)],id::aA,fun k hk=>?_,fun r=>rfl,fun j hj=>?_,fun j hj=>?_,by simp[wm]⟩
       .simp only[wm]at hk;obtain⟨k,rfl⟩:∃k',k=k'+2:=⟨k-2,by omega⟩
        have hv:fS h1 k cb=some (aR t y,aA):=xK (DR c c' l' cb hw e2 hc.2) f1 (by omega);simp only[fS,dV,e1,hv,cX,if_true,cP,bC]
       .rcases aM.1 hj with rfl|hj
        .exact ⟨by simp,hnil⟩
        .exact ⟨by simp[(f3 j hj).1],(f3 j hj).2⟩
       .rcases aM.1 hj with rfl|hj
        .exact .inl (by simp)
        .exact (f4 j hj).imp (fun q=>by simp[q]) (fun q=>q)
      .simp at ha
     .simp at ha
    .rename_i w v ho;obtain⟨hc,ha⟩:=aO ha;split at ha
     .rename_i y hy;obtain⟨rfl,rfl⟩:=ad (aa ha);obtain⟨e,_⟩:=wC hy;obtain⟨_,⟨_,e1⟩,_⟩:=hr.ob id _ ho
      have hnil:¬mF h id:=by
       rintro(⟨u',v',e⟩|⟨u',ln',e⟩)
       .rcases e with e|e<;>rw[ho]at e<;>simp at e
       .rw [ho]at e;cases e
      refine⟨[.pt (aR t y)],[id],fun k hk=>?_,fun r=>rfl,fun j hj=>?_,fun j hj=>.inl hj,by simp[wm]⟩
      .simp only[wm]at hk;obtain⟨k,rfl⟩:∃k',k=k'+2:=⟨k-2,by omega⟩
       simp only[fS,dV,e1,cX,if_true,cP,bC,e]
      .obtain rfl:=am.1 hj;exact⟨by simp,hnil⟩
     .simp at ha
    .simp at ha
  |ep id m u p=>
   cases p with
   |cons=>simp[oH]at ha
   |nil=>
    obtain rfl:=hv;have e0:mI u []=0:=by cases u<;>rfl
    rw[e0]
    have key:∀(w:Ty)(s:Sl (El w))(ver:Nat),(fO h id=some (.ar w s ver)\/fO h id=some (.im w s ver))->(bif decide (w=u)then(match gE w t (gt s.l m)with|some y=>some ([V.x t y],[id])|none=>none)else none)=some (l,i)->
      ∃ds aA,(∀k,wm (.pt t)<=k->fS h1 k [.ep id m 0]=some (ds,aA))/\(∀r,qM (.pt t) (l++r)=(ds,r))/\(∀j∈aA,j∈i/\¬mF h j)/\(∀j∈i,j∈aA\/mF h j)/\[C.ep id m 0].length<=wm (.pt t):=by
     intro w s ver ho ha;obtain⟨_,ha⟩:=aO ha;split at ha
     .rename_i y hy;obtain⟨rfl,rfl⟩:=ad (aa ha);obtain⟨e,_⟩:=wC hy;have hm:=hk.2.2.1 w s ver ho;cases s with
      |nil=>simp[Sl.l]at hm
      |mk q=>
       refine⟨[.pt (aR t y)],[id],fun k hk=>?_,fun r=>rfl,fun j hj=>?_,fun j hj=>.inl hj,by simp[wm]⟩
       .simp only[wm]at hk;obtain⟨k,rfl⟩:∃k',k=k'+1:=⟨k-1,by omega⟩
        have hg:(q.map (aR w))[m]?=some (aR w (gt q m)):=rt hm;have e2:aR w (gt q m)=aR t y:=e.symm;rcases ho with ho|ho
        .have e1:=(hr.ob id _ ho).2.1.2.2 q rfl;have:dV h1 k (.ep id m 0)=some (.pt (aR t y),[id]):=by cases k<;>simp only[dV,e1,hg,cX,if_true,cP,e2]
         simp only[fS,this,bC]
        .have e1:=(hr.ob id _ ho).2.1.2.2 q rfl;have:dV h1 k (.ep id m 0)=some (.pt (aR t y),[id]):=by cases k<;>simp only[dV,e1,hg,cX,if_true,cP,e2]
         simp only[fS,this,bC]
       .obtain rfl:=am.1 hj;exact⟨by simp,yC ho⟩
     .simp at ha
    simp only[oH]at ha;split at ha
    .rename_i ho;exact key _ _ _ (.inl ho) ha
    .rename_i ho;exact key _ _ _ (.inr ho) ha
    .simp at ha
  |_=>simp[oH]at ha
 |nl k=>
  intro v l i cs ha hv hk hal;cases v with
  |nl k'=>
   simp only[oH]at ha;obtain⟨hc,ha2⟩:=aO ha;obtain rfl:k=k':=by simpa using hc
   obtain⟨rfl,rfl⟩:=ad (aa ha2);obtain rfl:=hv;refine⟨[O8 k],[],fun j hj=>?_,fun r=>rfl,fun j hj=>by simp at hj,fun j hj=>by simp at hj,by simp[wm]⟩;simp only[wm]at hj;obtain⟨j,rfl⟩:∃k',j=k'+1:=⟨j-1,by omega⟩
   have e:fS h1 j []=some ([],[]):=by cases j<;>rfl
   rw[Qd];simp only[fS,pR,e,bC]
  |_=>simp[oH]at ha
 |fn f c ih=>
  intro v l i cs ha hv hk hal;cases v with
  |fn z f' q=>
   simp only[oH]at ha;obtain⟨hc,ha2⟩:=aO ha;obtain rfl:f=f':=by simpa using hc
   cases z with
   |true=>
    obtain⟨ds0,hd,rfl⟩:=hv;have hal':Ch q=true:=hal;obtain⟨a1,a2⟩:=zx (h:=h) q hal';obtain⟨ds,aA,g1,g2,g3,g4,g5⟩:=ih q l i (ds0.map .d) ha2 (Mx q ds0 hd) (a2 n) a1;have e:=g1 (wm c+ds0.length+1) (by omega);rw[xw ds0 _ (by omega)]at e;obtain⟨rfl,rfl⟩:=ad (aa e);refine⟨[.fn f ds0],[],fun k hk=>?_,fun r=>?_,g3,g4,by simp[wm]⟩
    .simp only[wm]at hk;exact xw (h1:=h1) [.fn f ds0] k (by simp;omega)
    .simp only[qM,g2 r]
   |false=>
    obtain⟨xs,h2,rfl⟩:=hv;obtain⟨ds,aA,g1,g2,g3,g4,g5⟩:=ih q l i xs ha2 h2 hk hal;refine⟨[.fn f ds],aA,fun k hk=>?_,fun r=>?_,g3,g4,by simp[wm]⟩
    .simp only[wm]at hk;obtain⟨k,rfl⟩:∃k',k=k'+2:=⟨k-2,by omega⟩
     simp only[fS,dV,g1 k (by omega),bC]
    .simp only[qM,g2 r]
  |_=>simp[oH]at ha
 |pr a c iha ihc=>
  intro v l i cs ha hv hk hal;cases v with
  |co x r=>
   simp only[oH]at ha;split at ha
   .rename_i l1 i1 l2 i2 h2 h3;obtain⟨rfl,rfl⟩:=ad (aa ha);obtain⟨cx,cr,rfl,h4,h5⟩:=hv;simp only[iq,ai]at hal;obtain⟨d1,j1,a1,a2,a3,a4,a5⟩:=iha x l1 i1 cx h2 h4 hk.1 hal.1;obtain⟨d2,j2,b1,b2,b3,b4,b5⟩:=ihc r l2 i2 cr h3 h5 hk.2 hal.2;refine⟨d1++d2,j1++j2,fun k hk=>?_,fun r=>?_,fun j hj=>?_,fun j hj=>?_,by simp[wm];omega⟩
    .simp only[wm]at hk;exact Bn (a1 k (by omega)) (b1 _ (by omega)) (by omega)
    .simp only[qM,aJ,a2,b2]
    .rcases ap.1 hj with hj|hj
     .exact ⟨aE _ (a3 j hj).1,(a3 j hj).2⟩
     .exact ⟨aH _ (b3 j hj).1,(b3 j hj).2⟩
    .rcases ap.1 hj with hj|hj
     .exact (a4 j hj).imp (aE _) id
     .exact (b4 j hj).imp (aH _) id
   .simp at ha
  |_=>simp[oH]at ha
 |ni=>intro v l i cs ha hv hk hal;cases v with|ni=>obtain⟨rfl,rfl⟩:=ad (aa ha);obtain rfl:=hv;exact⟨[],[],fun k _=>(by cases k<;>rfl),fun r=>rfl,fun j hj=>by simp at hj,fun j hj=>by simp at hj,by simp⟩|_=>simp[oH]at ha
 |_=>intro v l i cs ha;simp[oH]at ha
end
def qv:Sh->Nat
 |.x t=>bz t+1
 |.pb _ c=>qv c+2
 |.st c=>qv c
 |.pr a c=>qv a+qv c
 |.ni=>0
 |_=>1
section
variable{h:H2}{n:Nat}{h1:bF}
theorem u6(k:Nat)(x:D):eH h1 k (.d x)=some (.d x,[],[]):=by cases k<;>rfl
theorem o9(k:Nat):iE h1 k []=some ([],[],[]):=by cases k<;>rfl
theorem pW:∀(ds:List D)(k:Nat),ds.length<=k->iE h1 k (ds.map .d)=some (ds.map .d,[],[]):=by
 intro ds;induction ds with
 |nil=>intro k _;exact o9 k
 |cons d ds ih=>intro k hk;cases k with|zero=>simp at hk|succ k=>simp only[aD,iE,u6,ih k (by simpa using hk),bC]
theorem u5:∀{x y:List C}{tx ty:List T}{ox oy ix iy:List Nat}{k:Nat},iE h1 k x=some (tx,ox,ix)->iE h1 (k-x.length) y=some (ty,oy,iy)->x.length<=k->iE h1 k (x++y)=some (tx++ty,ox++oy,ix++iy):=by
 intro x;induction x with
 |nil=>intro y tx ty ox oy ix iy k hx hy _;rw[o9]at hx;obtain⟨rfl,e⟩:=ad (aa hx);obtain⟨rfl,rfl⟩:=ad e;simpa using hy
 |cons c x ih=>
  intro y tx ty ox oy ix iy k hx hy hk;cases k with
  |zero=>simp at hk
  |succ k=>
   simp only[iE]at hx;split at hx
   .rename_i p a i q b j hp hq;obtain⟨rfl,e⟩:=ad (aa hx);obtain⟨rfl,rfl⟩:=ad e;simp only[aT,iE,hp];rw[ih hq (by simpa using hy) (by simpa using hk)];simp
   .simp at hx
theorem u4{c:C}{t:T}{bq rd:List Nat}{k:Nat}(hc:eH h1 k c=some (t,bq,rd)):iE h1 (k+1) [c]=some ([t],bq,rd):=by simp only[iE,hc,o9,bC]
theorem TK{t:Ty}{id k:Nat}{q:List (Sl (El t))}(h:aB h1 id=some (.nst (bz t) (eQ t q none))):eH h1 k (mj 1 (aR (.sl t)) id (Sl.mk q:Sl (Sl (El t))))=some (.zD (bz t) (q.map (H7 t)),[id],[id]):=by simp only[mj,eQ]at h|-;cases k<;>simp only[eH,h,aN,and_self,if_true,HX]
theorem wH(hr:HR n h1 h):∀(c:Sh)(ln:Bool)(v:V)(l:List V)(i:List Nat)(cs:List C),dY h c ln v=some (l,i)->eZ h v cs->eX n h v->
  ∃ts bq rd,(∀k,qv c<=k->iE h1 k cs=some (ts,bq,rd))/\(∀r,fA c (l++r)=(ts,r))/\bq.Sublist i/\(∀j∈i,j∈bq\/mF h j)/\(∀j∈rd,j∈i)/\cs.length<=qv c/\(∀j∈i,j<n):=by
 intro c;induction c with
 |x t=>
  intro ln v l i cs ha hv hk;cases ln with
  |true=>simp[dY]at ha
  |false=>
   simp only[dY]at ha;split at ha
   .rename_i y hy;obtain⟨rfl,rfl⟩:=ad (aa ha);have e:=iS v false t y cs hy hv;subst e;exact⟨_,[],[],fun k hk=>pW _ k (by rw[bJ];simp only[qv]at hk;omega),fun r=>rfl,bW _,fun j hj=>by simp at hj,fun j hj=>hj,by simp[qv,bJ],fun j hj=>by simp at hj⟩
   .simp at ha
 |os t=>
  intro ln v l i cs ha hv hk;cases ln with
  |true=>simp[dY]at ha
  |false=>
   cases v with
   |so id=>
    simp only[dY]at ha;split at ha
    .rename_i u s ver ho;split at ha
     .rename_i s' hs;obtain⟨rfl,rfl⟩:=ad (aa ha);obtain⟨e,rfl⟩:=du hs;cases e;obtain⟨c,rfl,hc⟩:=hv;rw[hc.1 _ (mi (.inl ho))];cases s with
      |nil=>exact⟨[.d (.lit (.slice none 0 0))],[],[],fun k hk=>pW [.lit (.slice none 0 0)] k (by simpa[qv]using hk),fun r=>rfl,j6 _,fun j hj=>by obtain rfl:=am.1 hj;exact .inr (.inl ⟨_,_,.inl ho⟩),fun j hj=>by simp at hj,by simp[qv],fun j hj=>by obtain rfl:=am.1 hj;exact hk⟩
      |mk q=>
       have e1:=(hr.ob id _ ho).2.1.2.2 q rfl;refine⟨[.sl (bz t) (q.map (aR t))],[id],[id],fun k hk=>?_,fun r=>rfl,bW _,fun j hj=>.inl hj,fun j hj=>hj,by simp[qv],fun j hj=>by obtain rfl:=am.1 hj;exact hk⟩;obtain⟨k,rfl⟩:∃k',k=k'+1:=⟨k-1,by simp only[qv]at hk;omega⟩
       exact u4 (UN e1)
     .simp at ha
    .simp at ha
   |nl k=>cases k with|zero=>obtain⟨rfl,rfl⟩:=ad (aa ha);obtain rfl:=hv;exact⟨[.d (.lit (.slice none 0 0))],[],[],fun k hk=>pW [.lit (.slice none 0 0)] k (by simpa[qv]using hk),fun r=>rfl,bW _,fun j hj=>by simp at hj,fun j hj=>hj,by simp[qv],fun j hj=>by simp at hj⟩|succ k=>simp[dY]at ha
   |_=>simp[dY]at ha
 |rw t=>
  intro ln v l i cs ha hv hk;cases ln with
  |true=>simp[dY]at ha
  |false=>
   cases v with
   |sr id=>
    simp only[dY]at ha;split at ha
    .rename_i u s ho;split at ha
     .rename_i s' hs;obtain⟨rfl,rfl⟩:=ad (aa ha);obtain⟨e,rfl⟩:=du hs;cases e;obtain⟨c,rfl,hc⟩:=hv;rw[hc.1 _ (su ho)];cases s with
      |nil=>exact⟨[.d (.lit (.slice none 0 0))],[],[],fun k hk=>pW [.lit (.slice none 0 0)] k (by simpa[qv]using hk),fun r=>rfl,j6 _,fun j hj=>by obtain rfl:=am.1 hj;exact .inr (.inr ⟨_,_,ho⟩),fun j hj=>by simp at hj,by simp[qv],fun j hj=>by obtain rfl:=am.1 hj;exact hk⟩
      |mk q=>
       have e1:=(hr.ob id _ ho).2.1.2.2 q rfl;refine⟨[.zD (bz t) (q.map (H7 t))],[id],[id],fun k hk=>?_,fun r=>rfl,bW _,fun j hj=>.inl hj,fun j hj=>hj,by simp[qv],fun j hj=>by obtain rfl:=am.1 hj;exact hk⟩;obtain⟨k,rfl⟩:∃k',k=k'+1:=⟨k-1,by simp only[qv]at hk;omega⟩
       exact u4 (TK e1)
     .simp at ha
    .simp at ha
   |nl k=>cases k with|zero=>obtain⟨rfl,rfl⟩:=ad (aa ha);obtain rfl:=hv;exact⟨[.d (.lit (.slice none 0 0))],[],[],fun k hk=>pW [.lit (.slice none 0 0)] k (by simpa[qv]using hk),fun r=>rfl,bW _,fun j hj=>by simp at hj,fun j hj=>hj,by simp[qv],fun j hj=>by simp at hj⟩|succ k=>simp[dY]at ha
   |_=>simp[dY]at ha
 |pb t c ih=>
  intro ln v l i cs ha hv hk;cases ln with
  |true=>simp[dY]at ha
  |false=>
   cases v with
   |op id u p=>
    cases p with
    |cons=>simp[dY]at ha
    |nil=>
     simp only[dY]at ha;split at ha
     .rename_i w q ho;obtain⟨hc,ha2⟩:=aO ha;split at ha2
      .rename_i l' i' ha3;obtain⟨rfl,rfl⟩:=ad (aa ha2);obtain rfl:=hv;have e0:mI u []=0:=by cases u<;>rfl
       rw[e0];obtain⟨_,⟨cb,e1,e2,e3⟩,e4⟩:=hr.ob id _ ho;obtain⟨ts,bq,rd,g1,g2,g3,g4,g5,g6,g7⟩:=ih false q l' i' cb ha3 e2 e4;refine⟨[.pt ts],id::bq,id::rd,fun k hk=>?_,fun r=>by simp only[fA,g2 r],g3.cons_cons _,fun j hj=>?_,fun j hj=>?_,by simp[qv],fun j hj=>?_⟩
       .obtain ⟨k,rfl⟩:∃k',k=k'+2:=⟨k-2,by simp only[qv]at hk;omega⟩
        refine u4 ?_;simp only[eH,e1,g1 k (by simp only[qv]at hk;omega)]
       .rcases aM.1 hj with rfl|hj
        .exact .inl (by simp)
        .exact (g4 j hj).imp (fun q=>by simp[q]) (fun q=>q)
       .rcases aM.1 hj with rfl|hj
        .simp
        .simp [g5 j hj]
       .rcases aM.1 hj with rfl|hj
        .exact hk.1
        .exact g7 j hj
      .simp at ha2
     .simp at ha
   |_=>simp[dY]at ha
 |nl k=>
  intro ln v l i cs ha hv hk;cases ln with
  |true=>simp[dY]at ha
  |false=>
   cases v with
   |nl k'=>
    simp only[dY]at ha;obtain⟨hc,ha2⟩:=aO ha;obtain rfl:k=k':=by simpa using hc
    obtain⟨rfl,rfl⟩:=ad (aa ha2);obtain rfl:=hv;exact⟨[.d (O8 k)],[],[],fun j hj=>pW [O8 k] j (by simpa[qv]using hj),fun r=>rfl,bW _,fun j hj=>by simp at hj,fun j hj=>hj,by simp[qv],fun j hj=>by simp at hj⟩
   |_=>simp[dY]at ha
 |st c ih=>
  intro ln v l i cs ha hv hk;cases ln with
  |true=>simp[dY]at ha
  |false=>
   cases v with
   |rc q=>exact ih true q l i cs ha hv hk
   |x t v=>cases t with|st u=>obtain⟨hd,rfl⟩:=hv;exact ih true (HK u v) l i _ ha (Br u v hd) (EP u v)|_=>simp[dY]at ha
   |_=>simp[dY]at ha
 |pr a c iha ihc=>
  intro ln v l i cs ha hv hk;cases ln with
  |false=>simp[dY]at ha
  |true=>
   cases v with
   |co x r=>
    simp only[dY]at ha;split at ha
    .rename_i l1 i1 l2 i2 h2 h3;obtain⟨rfl,rfl⟩:=ad (aa ha);obtain⟨cx,cr,rfl,h4,h5⟩:=hv
     have hA:∃ts bq rd,(∀k,qv a<=k->iE h1 k cx=some (ts,bq,rd))/\(∀r,fA a (l1++r)=(ts,r))/\bq.Sublist i1/\(∀j∈i1,j∈bq\/mF h j)/\(∀j∈rd,j∈i1)/\cx.length<=qv a/\(∀j∈i1,j<n):=by
      split at h2
      .rename_i t u v;unfold Qg at h2;split at h2
       .obtain ⟨rfl,rfl⟩:=ad (aa h2);obtain⟨_,rfl⟩:=h4;exact⟨[.d (.lit (.slice none 0 0))],[],[],fun k hk=>pW [.lit (.slice none 0 0)] k (by simpa[qv]using hk),fun r=>rfl,bW _,fun j hj=>by simp at hj,fun j hj=>hj,by simp[qv,aR],fun j hj=>by simp at hj⟩
       .simp at h2
      .exact iha false x l1 i1 cx h2 h4 hk.1
     obtain⟨t1,o1,r1,a1,a2,a3,a4,a5,a6,a7⟩:=hA;obtain⟨t2,o2,r2,b1,b2,b3,b4,b5,b6,b7⟩:=ihc true r l2 i2 cr h3 h5 hk.2;refine⟨t1++t2,o1++o2,r1++r2,fun k hk=>?_,fun r=>?_,a3.append b3,fun j hj=>?_,fun j hj=>?_,by simp[qv];omega,fun j hj=>?_⟩
     .simp only[qv]at hk;exact u5 (a1 k (by omega)) (b1 _ (by omega)) (by omega)
     .simp only[fA,aJ,a2,b2]
     .rcases ap.1 hj with hj|hj
      .exact (a4 j hj).imp (aE _) (fun q=>q)
      .exact (b4 j hj).imp (aH _) (fun q=>q)
     .rcases ap.1 hj with hj|hj
      .exact aE _ (a5 j hj)
      .exact aH _ (b5 j hj)
     .rcases ap.1 hj with hj|hj
      .exact a7 j hj
      .exact b7 j hj
    .simp at ha
   |_=>simp[dY]at ha
 |ni=>
  intro ln v l i cs ha hv hk;cases ln with
  |false=>cases v<;>simp[dY]at ha
  |true=>cases v with|ni=>obtain⟨rfl,rfl⟩:=ad (aa ha);obtain rfl:=hv;exact⟨[],[],[],fun k _=>o9 k,fun r=>rfl,bW _,fun j hj=>by simp at hj,fun j hj=>hj,by simp,fun j hj=>by simp at hj⟩|_=>simp[dY]at ha
 |_=>intro ln v l i cs ha;cases ln<;>simp[dY]at ha
theorem EK:∀(a b:List T)(m:Nat),iA m (a++b)=((iA m a).1++(iA (iA m a).2.2 b).1,(iA m a).2.1++(iA (iA m a).2.2 b).2.1,(iA (iA m a).2.2 b).2.2):=by intro a;induction a with|nil=>intro b m;simp[iA]|cons t a ih=>intro b m;simp only[aT,iA,ih,aJ]
theorem qZ(t:T)(m:Nat):iA m [t]=([(kU m t).1],(kU m t).2.1,(kU m t).2.2):=by simp[iA]
theorem Rw:∀(ds:List D)(m:Nat),iA m (ds.map T.d)=(ds.map .d,[],m+ds.length):=by intro ds;induction ds with|nil=>intro m;rfl|cons d ds ih=>intro m;simp only[aD,iA,kU,ih,List.nil_append,List.length_cons];congr 2;omega
theorem v8{a b:fx}(hd:∀p∈a,∀q∈b,p.1≠q.1)(i:Nat):aB (a++b++h1) i=aB (b++(a++h1)) i:=by rw[gC,gC,gC,<-ei,mu hd]
structure Mk(s s':S2)(h1:bF)(u:fx):Prop where
 hr:HR s'.next (u++h1) s'.heap
 eI:jr s.next s.heap s'.heap
 dD:s'.dD=s.dD
 gh:s'.gh=s.gh
 le:s.next<=s'.next
 FP:∀p∈u,s.next<=p.1/\p.1<s'.next
 wo:∃W,s'.wo=W++s.wo/\(∀p∈u,p.1∈W)/\(∀i∈W,s.next<=i/\i<s'.next)/\∀i,i∉W->fO s'.heap i=fO s.heap i
theorem Mk.skip{s:S2}{m:Nat}(hr:HR s.next h1 s.heap)(hm:s.next<=m):Mk s {s with next:=m} h1 []:=⟨hr.mono hm,jr.refl _ _,rfl,rfl,hm,fun p hp=>by simp at hp,[],rfl,fun p hp=>by simp at hp,fun i hi=>by simp at hi,fun _ _=>rfl⟩
theorem Mk.seq{s s1 s2:S2}{u1 u2:fx}(a:Mk s s1 h1 u1)(b:Mk s1 s2 (u1++h1) u2):Mk s s2 h1 (u1++u2):=by
 obtain⟨a3,a4,a5,a6,a7,a8,W,v1,v2,v3,v4⟩:=a;obtain⟨b3,b4,b5,b6,b7,b8,X,x1,x2,x3,x4⟩:=b;refine⟨?_,a4.trans a7 b4,b5.trans a5,b6.trans a6,by omega,fun p hp=>?_,X++W,by rw[x1,v1,aJ],fun p hp=>?_,fun i hi=>?_,fun i hi=>?_⟩
 .exact b3.ext fun i=>v8 (fun p hp q hq e=>by have:=(a8 p hp).2;have:=(b8 q hq).1;omega) i
 .rcases ap.1 hp with hp|hp
  .have:=a8 p hp;omega
  .have:=b8 p hp;omega
 .rcases ap.1 hp with hp|hp
  .exact aH _ (v2 p hp)
  .exact aE _ (x2 p hp)
 .rcases ap.1 hi with hi|hi
  .have:=x3 i hi;omega
  .have:=v3 i hi;omega
 .rw [x4 i fun q=>hi (aE _ q),v4 i fun q=>hi (aH _ q)]
end
section
variable{h:H2}{n:Nat}
theorem jr.bx{id:Nat}{t:Ty}{c:V}:jr n h ((id,some (.bx t c))::h):=⟨fun i o hi ho=>by
 rw[c8]at ho;split at ho
 .obtain rfl:=aa ho;exact .inr rfl
 .exact .inl ⟨o,ho,sh.refl _⟩⟩
theorem Mk.one{s:S2}{h1:bF}{o:O}{b:Option Ob}{u:fx}(hr:HR s.next h1 s.heap)(hu:u=[(s.next,b)]\/(u=[]/\∀b',vc ((s.next,some o)::s.heap) o b'))(hb:u=[(s.next,b)]->vc ((s.next,some o)::s.heap) o b)
  (hko:Cp (s.next+1) ((s.next,some o)::s.heap) o):Mk s (jz s o) h1 u:=by
 have hd:=qS.new (x:=.iN []) (v:=.no) (aA:=[]) (l:=[]) (m:=s.next+1) hr hu hb hko rfl trivial (fun i hi=>by simp at hi) (au _);refine⟨hd.hr,hd.eI,rfl,rfl,bH _,fun p hp=>?_,[s.next],rfl,fun p hp=>?_,fun i hi=>?_,fun i hi=>?_⟩
 .rcases hu with rfl|⟨rfl,_⟩
  .obtain rfl:=am.1 hp;exact⟨au _,aX _⟩
  .simp at hp
 .rcases hu with rfl|⟨rfl,_⟩
  .obtain rfl:=am.1 hp;simp
  .simp at hp
 .obtain rfl:=am.1 hi;exact⟨au _,aX _⟩
 .simp only[jz];rw[c8,if_neg fun e=>hi (by simp[e])]
theorem vg:∀(c:Sh)(ln:Bool)(l:List V)(s:S2)(w:V)(l':List V)(s':S2)(h1:bF),qU c ln l s=some (w,l',s')->HR s.next h1 s.heap->
  eZ s'.heap w (iA s.next (fA c l).1).1/\eX s'.next s'.heap w/\Mk s s' h1 (iA s.next (fA c l).1).2.1/\s'.next=(iA s.next (fA c l).1).2.2/\l'=(fA c l).2/\(ln=false->sW w=xp c):=by
 intro c;induction c with
 |x t=>
  intro ln l s w l' s' h1 hm hr;cases ln with
  |true=>simp[qU]at hm
  |false=>match l with|.x u v::l=>simp only[qU]at hm;obtain⟨hc,hm2⟩:=aO hm;simp only[ai,decide_eq_true_eq]at hc;obtain⟨rfl,hd⟩:=hc;obtain⟨rfl,e⟩:=ad (aa hm2);obtain⟨rfl,rfl⟩:=ad e;simp only[fA,Rw,bJ];exact⟨⟨hd,rfl⟩,trivial,Mk.skip hr (Nat.le_add_right _ _),trivial,trivial,fun _=>rfl⟩|[]|.kb _::_|.nl _::_|.so _::_|.sr _::_|.sb _ _ _ _ _::_|.op _ _ _::_|.ep _ _ _ _::_|.pt _ _::_|.fn _ _ _::_|.om _::_|.rc _::_|.tp _::_|.ni::_|.co _ _::_|.fl _::_|.no::_|.gn::_=>simp[qU]at hm
 |os t=>
  intro ln l s w l' s' h1 hm hr;cases ln with
  |true=>simp[qU]at hm
  |false=>
   match l with
   |.x (.sl u) v::l=>
    simp only[qU]at hm;obtain⟨hc,hm2⟩:=aO hm;simp only[ai,decide_eq_true_eq]at hc;obtain⟨rfl,hd⟩:=hc;obtain⟨d1,d2⟩:=p7 hd;obtain⟨rfl,e⟩:=ad (aa hm2);obtain⟨rfl,rfl⟩:=ad e;simp only[fA,qZ];have hv:eZ (jz s (.ar u v 0)).heap (.so s.next) [mj (bz u) (aR u) s.next v]:=⟨_,rfl,fun c' hc'=>by simp only[jz,tJ]at hc';exact aa hc',Bw⟩
    cases v with|nil=>exact⟨hv,aX _,Mk.one (b:=none) hr (.inr ⟨rfl,fun b'=>⟨d1,d2,fun l e=>by cases e⟩⟩) (fun e=>by cases e) trivial,by first|rfl|trivial,by first|rfl|trivial,fun _=>rfl⟩|mk q=>exact⟨hv,aX _,Mk.one (b:=some (.aL (bz u) (q.map (aR u)))) hr (.inl rfl) (fun _=>⟨d1,d2,fun l e=>by cases e;rfl⟩) trivial,by first|rfl|trivial,by first|rfl|trivial,fun _=>rfl⟩
   |[]|.kb _::_|.nl _::_|.so _::_|.sr _::_|.sb _ _ _ _ _::_|.op _ _ _::_|.ep _ _ _ _::_|.pt _ _::_|.fn _ _ _::_|.om _::_|.rc _::_|.tp _::_|.ni::_|.co _ _::_|.fl _::_|.no::_|.gn::_=>simp[qU]at hm
   |.x (.i _) _::_|.x .b _::_|.x .s _::_|.x (.f _) _::_|.x (.mp _ _) _::_|.x .un _::_|.x (.pr _ _) _::_|.x (.st _) _::_|.x (.ar _ _) _::_|.x (.o _) _::_=>simp[qU]at hm
 |rw t=>
  intro ln l s w l' s' h1 hm hr;cases ln with
  |true=>simp[qU]at hm
  |false=>
   match l with
   |.x (.sl (.sl u)) v::l=>
    simp only[qU]at hm;obtain⟨hc,hm2⟩:=aO hm;simp only[ai,decide_eq_true_eq]at hc;obtain⟨rfl,hd⟩:=hc;obtain⟨d1,d2⟩:=p7 hd;obtain⟨rfl,e⟩:=ad (aa hm2);obtain⟨rfl,rfl⟩:=ad e;simp only[fA,qZ];have hv:eZ (jz s (.rw u v none)).heap (.sr s.next) [mj 1 (aR (.sl u)) s.next (v:Sl (Sl (El u)))]:=⟨_,rfl,fun c' hc'=>by simp only[jz,tJ]at hc';exact aa hc',Bw⟩
    cases v with
    |nil=>exact⟨hv,aX _,Mk.one (b:=none) hr (.inr ⟨rfl,fun b'=>⟨d1,d2,fun l e=>by cases e⟩⟩) (fun e=>by cases e) trivial,by first|rfl|trivial,by first|rfl|trivial,fun _=>rfl⟩
    |mk q=>
     have e1:(kU s.next (x5 u (.mk q))).1=mj 1 (aR (.sl u)) s.next (Sl.mk q:Sl (Sl (El u))):=by simp[x5,kU,mj]
     have e2:(kU s.next (x5 u (.mk q))).2.1=[(s.next,some (.nst (bz u) (eQ u q none)))]:=by simp only[x5,kU,x8,eQ]
     rw[e1,e2];exact⟨hv,aX _,Mk.one (b:=some (.nst (bz u) (eQ u q none))) hr (.inl rfl) (fun _=>⟨d1,d2,fun l e=>by cases e;rfl⟩) trivial,by first|rfl|trivial,by first|rfl|trivial,fun _=>rfl⟩
   |[]|.kb _::_|.nl _::_|.so _::_|.sr _::_|.sb _ _ _ _ _::_|.op _ _ _::_|.ep _ _ _ _::_|.pt _ _::_|.fn _ _ _::_|.om _::_|.rc _::_|.tp _::_|.ni::_|.co _ _::_|.fl _::_|.no::_|.gn::_=>simp[qU]at hm
   |.x (.sl (.i _)) _::_|.x (.sl .b) _::_|.x (.sl .s) _::_|.x (.sl (.f _)) _::_|.x (.sl (.mp _ _)) _::_|.x (.sl .un) _::_|.x (.sl (.pr _ _)) _::_|.x (.sl (.st _)) _::_|.x (.sl (.ar _ _)) _::_|.x (.sl (.o _)) _::_|.x (.i _) _::_|.x .b _::_|.x .s _::_|.x (.f _) _::_|.x (.mp _ _) _::_|.x .un _::_|.x (.pr _ _) _::_|.x (.st _) _::_|.x (.ar _ _) _::_|.x (.o _) _::_=>simp[qU]at hm
 |pb t c ih=>
  intro ln l s w l' s' h1 hm hr;cases ln with
  |true=>simp[qU]at hm
  |false=>
   simp only[qU]at hm;split at hm
   .rename_i w0 l0 s2 hm0;obtain⟨hf,hm2⟩:=aO hm;obtain⟨rfl,e⟩:=ad (aa hm2);obtain⟨rfl,rfl⟩:=ad e;obtain⟨q1,q2,q3,q4,q5,_⟩:=ih false l {s with next:=s.next+1} w0 l0 s2 h1 hm0 (hr.mono (bH _));simp only[fA,qZ,kU];obtain⟨a3,a4,a5,a6,a7,a8,W,v1,v2,v3,v4⟩:=q3;simp only at a4 a5 a6 a7 a8 v1 v3 v4;have hlt:s.next<s2.next:=by omega
    have hin:∀i,i∉W->fO s2.heap i=fO s.heap i:=v4;refine⟨?_,⟨hlt,by cases t<;>trivial⟩,⟨?_,?_,a5,a6,by show s.next<=s2.next;omega,fun p hp=>?_,s.next::W,by simp only[ez,v1];rfl,fun p hp=>?_,fun i hi=>?_,fun i hi=>?_⟩,q4,q5,fun _=>rfl⟩
    .show [_]=[_]
     have e0:mI t []=0:=by cases t<;>rfl
     rw[e0]
    .refine HR.Cy (u:=[(s.next,some (.box _))]) a3 (au _) hlt jr.bx (fun i hi=>?_) fun o' ho'=>?_
     .rw [aY,dA,if_neg fun e=>hi e.symm]
     .obtain rfl:=aa ho';refine⟨?_,gJ (au _) jr.bx q2⟩;rw[aY,dA,if_pos rfl];exact⟨_,rfl,lB jr.bx q2 q1,hf⟩
    .exact jr.trans (n':=s2.next) (by omega) (⟨fun i o hi ho=>a4.ob i o (by omega) ho⟩:jr s.next s.heap s2.heap) jr.bx
    .simp only[ez];rcases aM.1 hp with rfl|hp
     .exact ⟨au _,hlt⟩
     .have:=a8 p hp;omega
    .rcases aM.1 hp with rfl|hp
     .simp
     .exact aC _ (v2 p hp)
    .simp only[ez];rcases aM.1 hi with rfl|hi
     .exact ⟨au _,hlt⟩
     .have:=v3 i hi;omega
    .simp only[ez];rw[c8,if_neg fun e=>hi (by simp[e]),hin i fun q=>hi (by simp[q])]
   .simp at hm
 |nl k=>intro ln l s w l' s' h1 hm hr;cases ln with|true=>simp[qU]at hm|false=>simp only[qU]at hm;obtain⟨rfl,e⟩:=ad (aa hm);obtain⟨rfl,rfl⟩:=ad e;simp only[fA,qZ,kU];exact⟨rfl,trivial,Mk.skip hr (bH _),by first|rfl|trivial,by first|rfl|trivial,fun _=>rfl⟩
 |st c ih=>
  intro ln l s w l' s' h1 hm hr;cases ln with
  |true=>simp[qU]at hm
  |false=>
   simp only[qU]at hm;split at hm
   .rename_i w0 l0 s2 hm0;obtain⟨rfl,e⟩:=ad (aa hm);obtain⟨rfl,rfl⟩:=ad e;obtain⟨q1,q2,q3,q4,q5,_⟩:=ih true l s w0 l0 s2 h1 hm0 hr;exact⟨q1,q2,q3,q4,q5,fun _=>rfl⟩
   .simp at hm
 |pr a c iha ihc=>
  intro ln l s w l' s' h1 hm hr;cases ln with
  |false=>simp[qU]at hm
  |true=>
   simp only[qU]at hm;split at hm
   .rename_i x l1 s1 hm1;split at hm
    .rename_i r l2 s2 hm2;obtain⟨rfl,e⟩:=ad (aa hm);obtain⟨rfl,rfl⟩:=ad e;obtain⟨q1,q2,q3,q4,q5,_⟩:=iha false l s x l1 s1 h1 hm1 hr;subst q5;obtain⟨p1,p2,p3,p4,p5,_⟩:=ihc true _ s1 r l2 s2 _ hm2 q3.hr;subst p5;simp only[fA,EK];rw[q4]at p1 p3 p4;exact⟨⟨_,_,rfl,lB p3.eI q2 q1,p1⟩,⟨gJ p3.le p3.eI q2,p2⟩,Mk.seq q3 p3,p4,by first|rfl|trivial,fun e=>by cases e⟩
    .simp at hm
   .simp at hm
 |ni=>intro ln l s w l' s' h1 hm hr;cases ln with|false=>simp[qU]at hm|true=>simp only[qU]at hm;obtain⟨rfl,e⟩:=ad (aa hm);obtain⟨rfl,rfl⟩:=ad e;exact⟨rfl,trivial,Mk.skip hr (au _),rfl,rfl,fun e=>by cases e⟩
 |_=>intro ln l s w l' s' h1 hm;cases ln<;>simp[qU]at hm
end
def NX:List (Bool×Sh)->List Bool->Bool
 |[],_=>true
 |(b,_)::r,ms=>decide (ms.headD false=b)&&NX r ms.tail
def vj:Sh->Bool
 |.os _|.rw _|.pb _ _|.nl _=>true
 |_=>false
def yz:Sh->Bool
 |.x t=>bz t==1
 |.os _|.rw _|.pb _ _|.nl _|.pt _|.fn _ _=>true
 |_=>false
def BC:List (Bool×Sh)->Bool
 |[]=>true
 |(b,c)::r=>(bif b then vj c&&Nat.ble (qv c) 300 else(xp c||yz c)&&Nat.ble (wm c) 300)&&BC r
section
variable{h:H2}{n:Nat}{h1:bF}
def Pw(h:H2)(n:Nat)(h1:bF)(p:V×List Nat)(q:C×List Nat×List Nat):Prop:=
 eZ h p.1 [q.1]/\eX n h p.1/\(∃t,eH h1 300 q.1=some (t,q.2.1,q.2.2))/\q.2.1.Sublist p.2/\(∀j∈p.2,j∈q.2.1\/mF h j)/\(∀j∈q.2.2,j∈p.2)/\(∀j∈p.2,j<n)/\
  match p.1 with|.so id=>p.2=[id]/\∃u s ver,fO h id=some (.ar u s ver)|.sr id=>p.2=[id]/\∃u s,fO h id=some (.rw u s none)|.op id _ _=>id∈p.2/\¬mF h id|.nl _=>True|_=>False
def w8(h:H2)(n:Nat)(h1:bF):List (V×List Nat)->List (C×List Nat×List Nat)->Prop
 |[],l=>l=[]
 |p::r,l=>∃q m,l=q::m/\Pw h n h1 p q/\w8 h n h1 r m
theorem LN{v w:V}{l:List Nat}(hf:je h v=some (w,l)):sW v=sW w:=by
 cases v with
 |so id=>
  simp only[je]at hf;split at hf
  .obtain ⟨rfl,_⟩:=ad (aa hf);rfl
  .simp at hf
 |sr id=>
  simp only[je]at hf;split at hf
  .obtain ⟨rfl,_⟩:=ad (aa hf);rfl
  .simp at hf
 |sb id ver lo t r=>simp only[je,tT]at hf;obtain⟨rfl,_⟩:=ad (aa hf);rfl
 |rc l=>
  simp only[je]at hf;split at hf
  .obtain ⟨rfl,_⟩:=ad (aa hf);rfl
  .simp at hf
 |co a r=>
  simp only[je]at hf;split at hf
  .obtain ⟨rfl,_⟩:=ad (aa hf);rfl
  .simp at hf
 |fn z f l=>cases z<;>simp[je]at hf;rw[<-hf.1]
 |_=>first|(simp[je]at hf;done)|(simp[je]at hf;rw[<-hf.1])
theorem Ld{c:Sh}{v:V}{l:List V}{i:List Nat}{x:TV}(hr:HR n h1 h)(hl:vj c=true)(hf:qv c<=300)(ha:dY h c false v=some (l,i))(hx:fV h v x)(hk:eX n h v):
  ∃cc t bq rd,x=.c cc/\eH h1 300 cc=some (t,bq,rd)/\(∀r,fA c (l++r)=([t],r))/\Pw h n h1 (v,i) (cc,bq,rd):=by
 have hp:NJ v/\sW v=false:=by
  cases c<;>simp[vj]at hl
  all_goals(cases v<;>first|exact⟨trivial,rfl⟩|(simp[dY]at ha;done))
 obtain⟨cc,rfl,hc⟩:=jk (oK hp.1 hx) hp.2;obtain⟨ts,bq,rd,g1,g2,g3,g4,g5,g6,g7⟩:=wH hr c false v l i [cc] ha hc hk;have e:=g1 301 (by omega);simp only[iE,o9]at e;split at e
 .rename_i t a b x' b' j hp1 hp2;obtain⟨rfl,e2⟩:=ad (aa hp2);obtain⟨rfl,rfl⟩:=ad e2;clear e2;clear hp2;obtain⟨rfl,e3⟩:=ad (aa e);obtain⟨rfl,rfl⟩:=ad e3;refine⟨cc,t,_,_,rfl,by simpa using hp1,g2,hc,hk,⟨t,by simpa using hp1⟩,g3,g4,g5,g7,?_⟩;cases v with
  |so id=>
   cases c with
   |os t=>
    simp only[dY]at ha;split at ha
    .rename_i u s ver ho;split at ha
     .obtain ⟨_,rfl⟩:=ad (aa ha);exact⟨rfl,u,s,ver,ho⟩
     .simp at ha
    .simp at ha
   |_=>simp[dY,ic,vj]at ha hl
  |sr id=>
   cases c with
   |rw t=>
    simp only[dY]at ha;split at ha
    .rename_i u s ho;split at ha
     .obtain ⟨_,rfl⟩:=ad (aa ha);exact⟨rfl,u,s,ho⟩
     .simp at ha
    .simp at ha
   |_=>simp[dY,ic,vj]at ha hl
  |op id u p=>
   cases c with
   |pb t c=>
    cases p with
    |cons=>simp[dY]at ha
    |nil=>
     simp only[dY]at ha;split at ha
     .rename_i w q ho;obtain⟨_,ha2⟩:=aO ha;split at ha2
      .obtain ⟨_,rfl⟩:=ad (aa ha2);refine⟨by simp,?_⟩;rintro(⟨u',v',e⟩|⟨u',ln',e⟩)
       .rcases e with e|e<;>rw[ho]at e<;>simp at e
       .rw [ho]at e;cases e
      .simp at ha2
     .simp at ha
   |_=>simp[dY,ic,vj]at ha hl
  |nl k=>trivial
  |_=>(cases c<;>simp[vj]at hl<;>simp[dY]at ha)
 .simp at e
theorem Eo(hr:HR n h1 h):∀(ps:List (Bool×Sh))(vs:List V)(ms:List Bool)(m:List V)(j:List Nat)(q:List (V×List Nat))(xs:List TV),oI h ps vs=some (m,j,q)->mE h vs xs->(∀w∈vs,eX n h w)->(∀w∈vs,iq h w=true)->NX ps ms=true->BC ps=true->
  ∃aA lent,gu h1 xs ms=some (gS ps m,aA,lent)/\(∀i∈aA,i∈j/\¬mF h i)/\(∀i∈j,i∈aA\/mF h i)/\w8 h n h1 q lent:=by
 intro ps;induction ps with
 |nil=>intro vs ms m j q xs ha hx hk hal hm hp;cases vs with|cons=>simp[oI]at ha|nil=>obtain⟨rfl,e⟩:=ad (aa ha);obtain⟨rfl,rfl⟩:=ad e;obtain rfl:=lO hx;exact⟨[],[],rfl,fun i hi=>by simp at hi,fun i hi=>by simp at hi,rfl⟩
 |cons p ps ih=>
  obtain⟨b,c⟩:=p;intro vs ms m j q xs ha hx hk hal hm hp;cases vs with
  |nil=>simp[oI]at ha
  |cons v vs=>
   obtain⟨x,ys,rfl,hx1,hx2⟩:=gL hx;simp only[NX,ai,decide_eq_true_eq]at hm;simp only[BC,ai]at hp;simp only[oI]at ha;split at ha
   .rename_i m' j' q' hrest;obtain⟨aA,lent,e1,e2,e3,e4⟩:=ih vs ms.tail m' j' q' ys hrest hx2 (fun w hw=>hk w (by simp[hw])) (fun w hw=>hal w (by simp[hw])) hm.2 hp.2;cases b with
    |true=>
     simp only[cond_true]at ha;split at ha
     .rename_i l i ha2;obtain⟨rfl,e⟩:=ad (aa ha);obtain⟨rfl,rfl⟩:=ad e;have hp1:=hp.1;simp only[cond_true,ai,Nat.ble_eq]at hp1;obtain⟨cc,t,bq,rd,rfl,f1,f2,f3⟩:=Ld hr hp1.1 hp1.2 ha2 hx1 (hk v (by simp));refine⟨aA,(cc,bq,rd)::lent,?_,e2,e3,⟨_,_,rfl,f3,e4⟩⟩;rw[Sd f1 hm.1 e1];simp only[gS,f2,bT]
     .simp at ha
    |false=>
     simp only[cond_false]at ha;split at ha
     .rename_i l i ha2;obtain⟨rfl,e⟩:=ad (aa ha);obtain⟨rfl,rfl⟩:=ad e;have hp1:=hp.1;simp only[cond_false,ai,Nat.ble_eq,cJ]at hp1;have hpl:NJ v:=by cases v<;>first|trivial|(cases c<;>simp[oH,je]at ha2)
      cases hs:xp c with
      |true=>
       cases c with
       |x t=>
        simp only[oH]at ha2;split at ha2
        .rename_i w l' hw;split at ha2
         .rename_i y hy;obtain⟨rfl,rfl⟩:=ad (aa ha2);obtain⟨cs,hc,h3,h4⟩:=oK hpl hx1;obtain⟨ds,is,f1,f2,f3,f4,_⟩:=sL hr v w l' cs hw hc (hk v (by simp)) (hal v (by simp));have e5:=pq (iS w false t y _ hy f2);subst e5;refine⟨is++aA,lent,?_,fun k hk=>?_,fun k hk=>?_,e4⟩
          .rw [h3 (((LN hw).trans (wy hy)).trans hs),QH f1 hm.1 e1];simp only[gS,hs,cond_true];rfl
          .rcases ap.1 hk with hk|hk
           .exact ⟨aE _ (f3 k hk).1,(f3 k hk).2⟩
           .exact ⟨aH _ (e2 k hk).1,(e2 k hk).2⟩
          .rcases ap.1 hk with hk|hk
           .exact (f4 k hk).imp (aE _) (fun q=>q)
           .exact (e3 k hk).imp (aH _) (fun q=>q)
         .simp at ha2
        .simp at ha2
       |st c=>simp[oH]at ha2
       |_=>simp[xp]at hs
      |false=>
       have hag:sW v=false:=by
        cases c with
        |x t=>
         simp only[oH]at ha2;split at ha2
         .rename_i w l' hw;split at ha2
          .rename_i y hy;exact((LN hw).trans (wy hy)).trans hs
          .simp at ha2
         .simp at ha2
        |_=>cases v<;>first|rfl|(simp[oH]at ha2;done)|(simp[xp]at hs;done)|(simp[yz,xp]at hp1;done)
       obtain⟨cs,hc,h3,h4⟩:=oK hpl hx1;obtain⟨ds,is,g1,g2,g3,g4,g5⟩:=JC hr c v l i cs ha2 hc (hk v (by simp)) (hal v (by simp));refine⟨is++aA,lent,?_,fun k hk=>?_,fun k hk=>?_,e4⟩
       .obtain ⟨cc,rfl,rfl⟩:=h4 hag;have e:=g1 301 (by omega);have en:fS h1 300 []=some ([],[]):=rfl;simp only[fS,en]at e;split at e
        .rename_i d a xs' b' hv1 hv2;obtain⟨rfl,rfl⟩:=ad (aa hv2);clear hv2;obtain⟨rfl,rfl⟩:=ad (aa e);rw[Uz hv1 hm.1 e1];simp only[gS,hs,g2,cond_false,bT,bC]
        .simp at e
       .rcases ap.1 hk with hk|hk
        .exact ⟨aE _ (g3 k hk).1,(g3 k hk).2⟩
        .exact ⟨aH _ (e2 k hk).1,(e2 k hk).2⟩
       .rcases ap.1 hk with hk|hk
        .exact (g4 k hk).imp (aE _) (fun q=>q)
        .exact (e3 k hk).imp (aH _) (fun q=>q)
     .simp at ha
   .simp at ha
end
section
variable{h:H2}{n:Nat}{h1:bF}
structure Bk(s s':S2)(h1:bF)(I:List Nat)(u:fx):Prop where
 hr:HR s'.next (u++h1) s'.heap
 eI:jr s.next s.heap s'.heap
 dD:s'.dD=s.dD
 gh:s'.gh=s.gh
 le:s.next<=s'.next
 FP:∀p∈u,p.1∈I\/(s.next<=p.1/\p.1<s'.next)
 nb:∀i,i<s.next->fO s.heap i=none->fO s'.heap i=none
 wo:∃W,s'.wo=W++s.wo/\(∀p∈u,p.1∈W)/\∀i,i∉W->fO s'.heap i=fO s.heap i
theorem Bk.refl{s:S2}(hr:HR s.next h1 s.heap):Bk s s h1 [] []:=⟨hr,jr.refl _ _,rfl,rfl,au _,fun p hp=>by simp at hp,fun _ _ h=>h,[],rfl,fun p hp=>by simp at hp,fun _ _=>rfl⟩
theorem Bk.seq{s s1 s2:S2}{I J:List Nat}{u1 u2:fx}(a:Bk s s1 h1 I u1)(b:Bk s1 s2 (u1++h1) J u2)(hd:∀i∈I,i∉J)(hI:∀i∈I,i<s.next)(hJ:∀j∈J,j<s.next):Bk s s2 h1 (I++J) (u1++u2):=by
 obtain⟨a3,a4,a5,a6,a7,a8,a9,W,v1,v2,v4⟩:=a;obtain⟨b3,b4,b5,b6,b7,b8,b9,X,x1,x2,x4⟩:=b;refine⟨b3.ext fun i=>v8 (fun p hp q hq e=>?_) i,a4.trans a7 b4,b5.trans a5,b6.trans a6,by omega,fun p hp=>?_,fun i hi h=>b9 i (by omega) (a9 i hi h),X++W,by rw[x1,v1,aJ],fun p hp=>?_,fun i hi=>?_⟩
 .rcases a8 p hp with h2|h2<;>rcases b8 q hq with h3|h3
  .exact hd _ h2 (e▸h3)
  .have:=hI _ h2;omega
  .have:=hJ _ h3;omega
  .omega
 .rcases ap.1 hp with hp|hp
  .rcases a8 p hp with h2|h2
   .exact .inl (aE _ h2)
   .exact .inr (by omega)
  .rcases b8 p hp with h2|h2
   .exact .inl (aH _ h2)
   .exact .inr (by omega)
 .rcases ap.1 hp with hp|hp
  .exact aH _ (v2 p hp)
  .exact aE _ (x2 p hp)
 .rw [x4 i fun q=>hi (aE _ q),v4 i fun q=>hi (aH _ q)]
theorem oW:∀(i:List Nat)(s:S2),(iW i s).dD=s.dD/\(iW i s).next=s.next/\(iW i s).gh=s.gh/\(iW i s).wo=i++s.wo/\∀j,fO (iW i s).heap j=if j∈i then none else fO s.heap j:=by
 intro i;induction i with
 |nil=>intro s;exact⟨rfl,rfl,rfl,rfl,fun j=>by simp[iW]⟩
 |cons a i ih=>
  intro s;obtain⟨h1,h2,h3,h4,h5⟩:=ih s;refine⟨h1,h2,h3,by simp[iW,ez,h4],fun j=>?_⟩;simp only[iW,ez,c8,h5];by_cases e:a=j
  .subst e;simp
  .simp [e,Ne.symm e]
theorem jr.sub{g:H2}(hs:∀i o,fO g i=some o->fO h i=some o):jr n h g:=⟨fun i o _ ho=>.inl ⟨o,hs i o ho,sh.refl _⟩⟩
theorem HR.sub{g:H2}(hr:HR n h1 h)(hs:∀i o,fO g i=some o->fO h i=some o):HR n h1 g:=⟨fun i o ho=>let⟨a,b,c⟩:=hr.ob i o (hs i o ho);⟨a,pp (jr.sub hs) c b,nX (au _) (jr.sub hs) c⟩⟩
theorem yP{i:List Nat}{s:S2}:∀j o,fO (iW i s).heap j=some o->fO s.heap j=some o:=by
 intro j o ho;rw[(oW i s).2.2.2.2]at ho;split at ho
 .simp at ho
 .exact ho
theorem AL{bq:List Nat}{j:Nat}(hj:j∉bq):aB (bq.map (fun i=>(i,(none:Option Ob)))++h1) j=aB h1 j:=v_ fun p hp e=>by obtain⟨i,hi,rfl⟩:=b_.1 hp;exact hj (e▸hi)
theorem Bk.lV{s:S2}{i bq:List Nat}(hr:HR s.next h1 s.heap)(ho:∀j∈bq,j∈i):Bk s (iW i s) h1 i (bq.map fun j=>(j,none)):=by
 obtain⟨k1,k2,k3,k4,k5⟩:=oW i s;refine⟨⟨fun j o hj=>?_⟩,jr.sub yP,k1,k3,by omega,fun p hp=>?_,fun j _ h=>by rw[k5];split<;>first|rfl|exact h,i,k4,fun p hp=>?_,fun j hj=>by rw[k5,if_neg hj]⟩
 .obtain ⟨a,b,c⟩:=(hr.sub yP).ob j o hj;refine⟨by omega,?_,by rw[k2];exact c⟩;have:j∉i:=fun hm=>by rw[k5,if_pos hm]at hj;simp at hj
  rw[AL fun hm=>this (ho j hm)];exact b
 .obtain ⟨j,hj,rfl⟩:=b_.1 hp;exact .inl (ho j hj)
 .obtain ⟨j,hj,rfl⟩:=b_.1 hp;exact ho j hj
theorem tF{α:Type}{a b:Sl α}{u:Unit}(hl:zX a b=some u):a.fI=b.fI/\a.l.length=b.l.length:=by
 cases a<;>cases b<;>simp[zX]at hl
 .exact ⟨rfl,rfl⟩
 .exact ⟨rfl,IP.1 hl⟩
theorem sM{c:C}{rd:List Nat}{x:D}{r:List (C×List Nat×List Nat)}{ts:List T}{m:Nat}:eV m ((c,[],rd)::r) (.d x::ts)=eV m r ts:=by simp only[eV]
theorem yt{x:D}{t:T}{bq rd:List Nat}(hp:eH h1 300 (.d x)=some (t,bq,rd)):bq=[]:=by rw[u6]at hp;obtain⟨_,e⟩:=ad (aa hp);exact(ad e).1.symm
theorem K3{q:List (V×List Nat)}{v:V}{i:List Nat}(hn:(ko (fun(p:V×List Nat)=>p.2) ((v,i)::q)).Nodup):(∀j∈i,j∉ko (fun(p:V×List Nat)=>p.2) q)/\(ko (fun(p:V×List Nat)=>p.2) q).Nodup:=by simp only[bi]at hn;exact⟨fun j hj hm=>(bV.1 hn).2.2 j hj j hm rfl,(bV.1 hn).2.1⟩
theorem w8.lt:∀{q:List (V×List Nat)}{lent:List (C×List Nat×List Nat)},w8 h n h1 q lent->∀j∈ko (fun(p:V×List Nat)=>p.2) q,j<n:=by
 intro q;induction q with
 |nil=>intro lent _ j hj;simp at hj
 |cons p q ih=>
  rintro lent ⟨x,m,rfl,hx,hm⟩ j hj;simp only[bi,ap]at hj;rcases hj with hj|hj
  .exact hx.2.2.2.2.2.2.1 j hj
  .exact ih hm j hj
theorem MF{szi m id len k:Nat}{ao:List (Option (List (List D)))}{rd:List Nat}{r:List (C×List Nat×List Nat)}{ts:List T}{w:fx}(hl:ao.length=len)(hr:eV m r ts=some (w,k)):
  eV m ((.fh 1 id 0 len,[id],rd)::r) (.zD szi ao::ts)=some ((id,some (.nst szi (ao.map mK)))::w,k):=by
 simp only[eV,hl,hr,and_self,if_true]
theorem zu{β:Type}{z:β}(hr0:HR n h1 h):∀(os:List Sh)(q:List (V×List Nat))(lent:List (C×List Nat×List Nat))(l:List V)(s:S2)(H:bF)(k:S2->Option β),fX os q l s k=some z->w8 h n h1 q lent->n<=s.next->HR s.next H s.heap->jr n h s.heap->
  (ko (fun(p:V×List Nat)=>p.2) q).Nodup->∃s1 bu,k s1=some z/\eV s.next lent (lf os l)=some (bu,s1.next)/\Bk s s1 H (ko (fun(p:V×List Nat)=>p.2) q) bu:=by
 intro os;induction os with
 |nil=>
  intro q lent l s H k hb hl hn hr eI hnd;cases q with
  |cons p q=>simp[fX]at hb
  |nil=>cases l with|cons=>simp[fX]at hb|nil=>obtain rfl:lent=[]:=hl;exact⟨s,[],hb,rfl,Bk.refl hr⟩
 |cons o os ih=>
  intro q lent l s H k hb hl hn hr eI hnd;cases q with
  |nil=>cases o<;>simp[fX]at hb
  |cons p q=>
   obtain⟨v,i⟩:=p;obtain⟨⟨c,bq,rd⟩,m,rfl,⟨hc,hkv,⟨tp,hpk⟩,hsub,hcov,hrd,hlt,hsh⟩,hl2⟩:=hl;obtain⟨hd,hnd2⟩:=K3 hnd;have hI:∀j∈i,j<s.next:=fun j hj=>by have:j<n:=hlt j hj;omega
   have hJ:∀j∈ko (fun(p:V×List Nat)=>p.2) q,j<s.next:=fun j hj=>by have:=hl2.lt j hj;omega
   cases o with
   |nl kk=>cases i with|cons=>simp[fX]at hb|nil=>simp only[fX]at hb;obtain⟨s1,bu,e1,e2,e3⟩:=ih q m l s H k hb hl2 hn hr eI hnd2;have:bq=[]:=List.sublist_nil.1 hsub;subst this;exact⟨s1,bu,e1,by simp only[lf,fA,bT,sM];exact e2,by simpa using e3⟩
   |gn=>simp only[fX]at hb;obtain⟨k1,k2,k3,k4,k5⟩:=oW i s;have b1:Bk s (iW i s) H i (bq.map fun j=>(j,none)):=Bk.lV hr fun j hj=>hsub.subset hj;obtain⟨s1,bu,e1,e2,e3⟩:=ih q m l (iW i s) _ k hb hl2 (by omega) b1.hr (eI.trans hn b1.eI) hnd2;rw[k2]at e2;exact⟨s1,_,e1,by simp only[lf,fA,bT];exact Jy e2,by simpa using b1.seq e3 hd hI hJ⟩
   |os t=>
    cases v with
    |nl kk=>
     cases kk with
     |succ=>cases l with|nil=>simp[fX]at hb|cons w l=>cases w<;>simp[fX]at hb
     |zero=>
      cases i with
      |cons=>cases l with|nil=>simp[fX]at hb|cons w l=>cases w<;>simp[fX]at hb
      |nil=>
       match l with
       |.x (.sl u) v::l=>
        simp only[fX]at hb;split at hb
        .rename_i v' hv;obtain⟨e,rfl⟩:=du hv;cases e;obtain⟨_,hls,hb2⟩:=rF hb;obtain⟨hni,_⟩:=tF hls;obtain⟨s1,bu,e1,e2,e3⟩:=ih q m l s H k hb2 hl2 hn hr eI hnd2;have:bq=[]:=List.sublist_nil.1 hsub;subst this;refine⟨s1,bu,e1,?_,by simpa using e3⟩;cases v with|mk=>simp[Sl.fI]at hni|nil=>simp only[lf,fA,bT,zL,sM];exact e2
        .simp at hb
       |[]|.kb _::_|.nl _::_|.so _::_|.sr _::_|.sb _ _ _ _ _::_|.op _ _ _::_|.ep _ _ _ _::_|.pt _ _::_|.fn _ _ _::_|.om _::_|.rc _::_|.tp _::_|.ni::_|.co _ _::_|.fl _::_|.no::_|.gn::_=>simp[fX]at hb
       |.x (.i _) _::_|.x .b _::_|.x .s _::_|.x (.f _) _::_|.x (.mp _ _) _::_|.x .un _::_|.x (.pr _ _) _::_|.x (.st _) _::_|.x (.ar _ _) _::_|.x (.o _) _::_=>simp[fX]at hb
    |so id=>
     match l with
     |.x (.sl u) v::l=>
      simp only[fX]at hb;split at hb
      .rename_i w old ver v' ho hv;obtain⟨e,rfl⟩:=du hv;cases e;split at hb
       .rename_i v2 hv2;obtain⟨e,rfl⟩:=du hv2;cases e;obtain⟨_,hls,hb2⟩:=rF hb;obtain⟨hni,hln⟩:=tF hls;obtain⟨rfl,u0,s0,ver0,ho0⟩:=hsh;have hid:id<n:=hkv;obtain⟨o1,ho1,hos⟩:=(eI.ob id _ hid ho).resolve_right (by simp[ua]);rw[ho0]at ho1;obtain rfl:=aa ho1;obtain⟨_,rfl,hn1,hn2,_⟩:=hos;obtain⟨cc,ece,hcc⟩:=hc;obtain rfl:=fo.1 ece;have ec:=hcc.1 _ (mi (.inl ho0));obtain⟨q1,q2,q3⟩:=(hr.ob id _ ho).2.1;have hosn:sh (.ar u0 old ver) (.ar u0 v (ver+1)):=⟨bH _,rfl,hni.symm,hln.symm,fun e=>by omega⟩
        have key:∀(uu:fx),(∀p∈uu,p.1=id)->(∀l,v=.mk l->aB (uu++H) id=some (.aL (bz u0) (l.map (aR u0))))->Bk s (ez s id (some (.ar u0 v (ver+1)))) H [id] uu:=by intro uu hu hlk;have d:=rH (x:=.iN []) (v:=.no) (aA:=[]) (l:=[]) hr ho hni.symm hln.symm hu hlk (fun _=>rfl) (fun _ _=>trivial) (fun i hi=>by simp at hi);exact⟨d.hr,d.eI,rfl,rfl,au _,fun p hp=>.inl (by simp[hu p hp]),d.nb,[id],rfl,fun p hp=>by simp[hu p hp],fun j hj=>by simp only[ez];rw[c8,if_neg fun e=>hj (by simp[e])]⟩
        cases v with
        |nil=>
         have b1:=key [] (fun p hp=>by simp at hp) (fun l e=>by cases e);obtain⟨s1,bu,f1,f2,e3⟩:=ih q m l _ _ k hb2 hl2 hn b1.hr (eI.trans hn b1.eI) hnd2;have hnil:s0.fI=true:=by rw[hn1,<-hni];rfl
         cases s0 with|mk=>simp[Sl.fI]at hnil|nil=>subst ec;have:=yt hpk;subst this;refine⟨s1,bu,f1,?_,by simpa using b1.seq e3 hd hI hJ⟩;simp only[lf,fA,bT,zL,sM];exact f2
        |mk vl=>
         have b1:=key [(id,some (.aL (bz u0) (vl.map (aR u0))))] (fun p hp=>by simp at hp;simp[hp]) (fun l e=>by cases e;rw[aY,dA,if_pos rfl]);obtain⟨s1,bu,f1,f2,e3⟩:=ih q m l _ _ k hb2 hl2 hn b1.hr (eI.trans hn b1.eI) hnd2;have hnil:s0.fI=false:=by rw[hn1,<-hni];rfl
         cases s0 with|nil=>simp[Sl.fI]at hnil|mk tg=>subst ec;have hlk:=(hr0.ob id _ ho0).2.1.2.2 tg rfl;have hp2:=UN (k:=300) hlk;simp only[mj]at hpk;rw[hp2]at hpk;obtain⟨_,e⟩:=ad (aa hpk);obtain⟨rfl,rfl⟩:=ad e;refine⟨s1,_,f1,?_,by simpa using b1.seq e3 hd hI hJ⟩;simp only[lf,fA,bT,zL,mj];refine OE ?_ f2;simp only[Sl.l]at hn2 hln;simp only[aN];omega
       .simp at hb
      .simp at hb
     |[]|.kb _::_|.nl _::_|.so _::_|.sr _::_|.sb _ _ _ _ _::_|.op _ _ _::_|.ep _ _ _ _::_|.pt _ _::_|.fn _ _ _::_|.om _::_|.rc _::_|.tp _::_|.ni::_|.co _ _::_|.fl _::_|.no::_|.gn::_=>simp[fX]at hb
     |.x (.i _) _::_|.x .b _::_|.x .s _::_|.x (.f _) _::_|.x (.mp _ _) _::_|.x .un _::_|.x (.pr _ _) _::_|.x (.st _) _::_|.x (.ar _ _) _::_|.x (.o _) _::_=>simp[fX]at hb
    |_=>simp[fX]at hb
   |rw t=>
    cases v with
    |nl kk=>
     cases kk with
     |succ=>cases l with|nil=>simp[fX]at hb|cons w l=>cases w<;>simp[fX]at hb
     |zero=>
      cases i with
      |cons=>cases l with|nil=>simp[fX]at hb|cons w l=>cases w<;>simp[fX]at hb
      |nil=>
       match l with
       |.x (.sl (.sl u)) v::l=>
        simp only[fX]at hb;split at hb
        .rename_i v' hv;obtain⟨e,rfl⟩:=du hv;cases e;obtain⟨_,hls,hb2⟩:=rF hb;obtain⟨hni,_⟩:=tF hls;obtain⟨s1,bu,e1,e2,e3⟩:=ih q m l s H k hb2 hl2 hn hr eI hnd2;have:bq=[]:=List.sublist_nil.1 hsub;subst this;refine⟨s1,bu,e1,?_,by simpa using e3⟩;cases v with|mk=>simp[Sl.fI]at hni|nil=>simp only[lf,fA,bT,x5,sM];exact e2
        .simp at hb
       |[]|.kb _::_|.nl _::_|.so _::_|.sr _::_|.sb _ _ _ _ _::_|.op _ _ _::_|.ep _ _ _ _::_|.pt _ _::_|.fn _ _ _::_|.om _::_|.rc _::_|.tp _::_|.ni::_|.co _ _::_|.fl _::_|.no::_|.gn::_=>simp[fX]at hb
       |.x (.sl (.i _)) _::_|.x (.sl .b) _::_|.x (.sl .s) _::_|.x (.sl (.f _)) _::_|.x (.sl (.mp _ _)) _::_|.x (.sl .un) _::_|.x (.sl (.pr _ _)) _::_|.x (.sl (.st _)) _::_|.x (.sl (.ar _ _)) _::_|.x (.sl (.o _)) _::_|.x (.i _) _::_|.x .b _::_|.x .s _::_|.x (.f _) _::_|.x (.mp _ _) _::_|.x .un _::_|.x (.pr _ _) _::_|.x (.st _) _::_|.x (.ar _ _) _::_|.x (.o _) _::_=>simp[fX]at hb
    |sr id=>
     match l with
     |.x (.sl (.sl u)) v::l=>
      simp only[fX]at hb;split at hb
      .rename_i w old ln v' ho hv;obtain⟨e,rfl⟩:=du hv;cases e;split at hb
       .rename_i v2 hv2;obtain⟨e,rfl⟩:=du hv2;cases e;obtain⟨_,hls,hb2⟩:=rF hb;obtain⟨hni,hln⟩:=tF hls;obtain⟨rfl,u0,s0,ho0⟩:=hsh;have hid:id<n:=hkv;obtain⟨o1,ho1,hos⟩:=(eI.ob id _ hid ho).resolve_right (by simp[ua]);rw[ho0]at ho1;obtain rfl:=aa ho1;obtain⟨rfl,hn1,hn2⟩:=hos;obtain⟨cc,ece,hcc⟩:=hc;obtain rfl:=fo.1 ece;have ec:=hcc.1 _ (su ho0);obtain⟨q1,q2,q3⟩:=(hr.ob id _ ho).2.1;have hosn:sh (.rw u0 old ln) (.rw u0 v none):=⟨rfl,hni.symm,hln.symm⟩
        have key:∀(uu:fx),(∀p∈uu,p.1=id)->(∀l,v=.mk l->aB (uu++H) id=some (.nst (bz u0) (eQ u0 l none)))->Bk s (ez s id (some (.rw u0 v none))) H [id] uu:=by intro uu hu hlk;have d:=GH (x:=.iN []) (v:=.no) (aA:=[]) (l:=[]) hr ho hosn hu ⟨q1,q2,hlk⟩ trivial rfl trivial (fun i hi=>by simp at hi);exact⟨d.hr,d.eI,rfl,rfl,au _,fun p hp=>.inl (by simp[hu p hp]),d.nb,[id],rfl,fun p hp=>by simp[hu p hp],fun j hj=>by simp only[ez];rw[c8,if_neg fun e=>hj (by simp[e])]⟩
        cases v with
        |nil=>
         have b1:=key [] (fun p hp=>by simp at hp) (fun l e=>by cases e);obtain⟨s1,bu,f1,f2,e3⟩:=ih q m l _ _ k hb2 hl2 hn b1.hr (eI.trans hn b1.eI) hnd2;have hnil:s0.fI=true:=by rw[hn1,<-hni];rfl
         cases s0 with|mk=>simp[Sl.fI]at hnil|nil=>subst ec;have:=yt hpk;subst this;refine⟨s1,bu,f1,?_,by simpa using b1.seq e3 hd hI hJ⟩;simp only[lf,fA,bT,x5,sM];exact f2
        |mk vl=>
         have b1:=key [(id,some (.nst (bz u0) (eQ u0 vl none)))] (fun p hp=>by simp at hp;simp[hp]) (fun l e=>by cases e;rw[aY,dA,if_pos rfl]);obtain⟨s1,bu,f1,f2,e3⟩:=ih q m l _ _ k hb2 hl2 hn b1.hr (eI.trans hn b1.eI) hnd2;have hnil:s0.fI=false:=by rw[hn1,<-hni];rfl
         cases s0 with|nil=>simp[Sl.fI]at hnil|mk tg=>subst ec;have hlk:=(hr0.ob id _ ho0).2.1.2.2 tg rfl;have hp2:=TK (k:=300) hlk;simp only[mj]at hpk hp2;rw[hp2]at hpk;obtain⟨_,e⟩:=ad (aa hpk);obtain⟨rfl,rfl⟩:=ad e;refine⟨s1,_,f1,?_,by simpa using b1.seq e3 hd hI hJ⟩;simp only[lf,fA,bT,x5,mj,aN];rw[show eQ u0 vl none=(vl.map (H7 u0)).map mK from(x8 vl).symm];refine MF ?_ f2;rw[aN];exact hln.trans hn2.symm
       .simp at hb
      .simp at hb
     |[]|.kb _::_|.nl _::_|.so _::_|.sr _::_|.sb _ _ _ _ _::_|.op _ _ _::_|.ep _ _ _ _::_|.pt _ _::_|.fn _ _ _::_|.om _::_|.rc _::_|.tp _::_|.ni::_|.co _ _::_|.fl _::_|.no::_|.gn::_=>simp[fX]at hb
     |.x (.sl (.i _)) _::_|.x (.sl .b) _::_|.x (.sl .s) _::_|.x (.sl (.f _)) _::_|.x (.sl (.mp _ _)) _::_|.x (.sl .un) _::_|.x (.sl (.pr _ _)) _::_|.x (.sl (.st _)) _::_|.x (.sl (.ar _ _)) _::_|.x (.sl (.o _)) _::_|.x (.i _) _::_|.x .b _::_|.x .s _::_|.x (.f _) _::_|.x (.mp _ _) _::_|.x .un _::_|.x (.pr _ _) _::_|.x (.st _) _::_|.x (.ar _ _) _::_|.x (.o _) _::_=>simp[fX]at hb
    |_=>simp[fX]at hb
   |pb t c2=>
    cases v with
    |op id u p=>
     cases p with
     |cons=>simp[fX]at hb
     |nil=>
      simp only[fX]at hb;split at hb
      case h_2=>simp at hb
      rename_i oid hoid;split at hb
      .rename_i w l' s2 hm;obtain⟨hf,hb2⟩:=aO hb;simp only[ai,decide_eq_true_eq]at hf;obtain⟨hf,rfl⟩:=hf;obtain⟨g1,g2,g3,g4,g5,_⟩:=vg c2 false l s w l' s2 H hm hr;subst g5;obtain⟨hid,hnn⟩:=hsh;have hio:id∈bq:=(hcov id hid).resolve_right hnn
       obtain rfl:c=.op id 0:=by
        have e0:mI u []=0:=by cases u<;>rfl
        have:[c]=[C.op id (mI u [])]:=hc;rw[e0]at this;exact fo.1 this
       obtain⟨k1,k2,k3,k4,k5⟩:=oW i s2;have hids:id<s2.next:=by have:=hI id hid;have:=g3.le;omega
       have b1:Bk s (ez (iW i s2) id (some (.bx u w))) H i ((id,some (.box (iA s.next (fA c2 l).1).1))::(iA s.next (fA c2 l).1).2.1++bq.map (fun j=>(j,none))):=by
        obtain⟨a3,a4,a5,a6,a7,a8,W,v1,v2,v3,v4⟩:=g3;have hs2:jr s2.next s2.heap (ez (iW i s2) id (some (.bx u w))).heap:=jr.trans (au _) (jr.sub yP) jr.bx;refine⟨⟨fun j o hj=>?_⟩,jr.trans a7 a4 hs2,k1.trans a5,k3.trans a6,by simp only[ez];omega,fun p hp=>?_,fun j hj hn=>(by simp only[ez];rw[c8,if_neg (fun e=>by rw[e,hn]at hoid;cases hoid),k5];split<;>first|rfl|(rw[v4 j fun q=>by have:=(v3 j q).1;omega];exact hn)),id::(i++W),by simp only[ez,k4,v1,aT,aJ],fun p hp=>?_,fun j hj=>?_⟩
        .simp only[ez]at hj|-;rw[c8]at hj;split at hj
         .rename_i e;subst e;obtain rfl:=aa hj;refine⟨by omega,?_,?_⟩
          .rw [aT,aT,dA,if_pos rfl];exact⟨_,rfl,lB hs2 g2 g1,hf⟩
          .rw [k2];exact gJ (au _) hs2 g2
         .rename_i e;have hji:j∉i:=fun hm=>by rw[k5,if_pos hm]at hj;simp at hj
          rw[k5,if_neg hji]at hj;obtain⟨c1,c2',c3⟩:=a3.ob j o hj;refine⟨by omega,?_,?_⟩
          .rw [aT,aT,dA,if_neg e,aJ];have:aB ((iA s.next (fA c2 l).1).2.1++(bq.map (fun j=>(j,none))++H)) j=aB ((iA s.next (fA c2 l).1).2.1++H) j:=by simp only[aB,gM];have:=AL (h1:=H) (bq:=bq) (j:=j) fun hm=>hji (hsub.subset hm);simp only[aB,gM]at this;cases cq (iA s.next (fA c2 l).1).2.1 j with|some x=>rfl|none=>exact this
           rw[this];exact pp hs2 c3 c2'
          .rw [k2];exact nX (au _) hs2 c3
        .rcases ap.1 hp with hp|hp
         .rcases aM.1 hp with rfl|hp
          .exact .inl hid
          .have:=a8 p hp;exact .inr ⟨this.1,by simp only[ez];omega⟩
         .obtain ⟨j,hj,rfl⟩:=b_.1 hp;exact .inl (hsub.subset hj)
        .rcases ap.1 hp with hp|hp
         .rcases aM.1 hp with rfl|hp
          .simp
          .simp [v2 p hp]
         .obtain ⟨j,hj,rfl⟩:=b_.1 hp;simp[hsub.subset hj]
        .simp only[ez];rw[c8,if_neg fun e=>hj (by simp[e]),k5,if_neg fun q=>hj (by simp[q]),v4 j fun q=>hj (by simp[q])]
       obtain⟨s1,bu,e1,e2,e3⟩:=ih q m _ _ _ k hb2 hl2 (by have:=b1.le;omega) b1.hr (eI.trans hn b1.eI) hnd2;have en:(ez (iW i s2) id (some (.bx u w))).next=(iA s.next (fA c2 l).1).2.2:=by simp only[ez,k2,g4]
       rw[en]at e2;refine⟨s1,_,e1,?_,by simpa using b1.seq e3 hd hI hJ⟩;simp only[lf,fA,bT];have:=OD (n:=s.next) (id:=id) (bq:=bq) (rd:=rd) (by simpa using hio) e2;rw[this];simp only[aT,aJ]
      .simp at hb
    |_=>simp[fX]at hb
   |_=>simp[fX]at hb
end
def Rn(c:Sh):Bool:=xp c||yz c
section
variable{h:H2}{n:Nat}{h1:bF}
theorem B2{c:Sh}{l l':List V}{s s':S2}{w:V}(hm:qU c false l s=some (w,l',s'))(ho:yz c=true):(fA c l).1.length=1:=by
 cases c with
 |x t=>match l with|.x u v::l=>simp only[qU]at hm;obtain⟨hc,_⟩:=aO hm;simp only[ai,decide_eq_true_eq]at hc;obtain⟨rfl,_⟩:=hc;simpa[fA,bJ,yz]using ho|[]|.kb _::_|.nl _::_|.so _::_|.sr _::_|.sb _ _ _ _ _::_|.op _ _ _::_|.ep _ _ _ _::_|.pt _ _::_|.fn _ _ _::_|.om _::_|.rc _::_|.tp _::_|.ni::_|.co _ _::_|.fl _::_|.no::_|.gn::_=>simp[qU]at hm
 |os t=>match l with|.x (.sl u) v::l=>rfl|[]|.kb _::_|.nl _::_|.so _::_|.sr _::_|.sb _ _ _ _ _::_|.op _ _ _::_|.ep _ _ _ _::_|.pt _ _::_|.fn _ _ _::_|.om _::_|.rc _::_|.tp _::_|.ni::_|.co _ _::_|.fl _::_|.no::_|.gn::_=>simp[qU]at hm|.x (.i _) _::_|.x .b _::_|.x .s _::_|.x (.f _) _::_|.x (.mp _ _) _::_|.x .un _::_|.x (.pr _ _) _::_|.x (.st _) _::_|.x (.ar _ _) _::_|.x (.o _) _::_=>simp[qU]at hm
 |rw t=>match l with|.x (.sl (.sl u)) v::l=>rfl|[]|.kb _::_|.nl _::_|.so _::_|.sr _::_|.sb _ _ _ _ _::_|.op _ _ _::_|.ep _ _ _ _::_|.pt _ _::_|.fn _ _ _::_|.om _::_|.rc _::_|.tp _::_|.ni::_|.co _ _::_|.fl _::_|.no::_|.gn::_=>simp[qU]at hm|.x (.sl (.i _)) _::_|.x (.sl .b) _::_|.x (.sl .s) _::_|.x (.sl (.f _)) _::_|.x (.sl (.mp _ _)) _::_|.x (.sl .un) _::_|.x (.sl (.pr _ _)) _::_|.x (.sl (.st _)) _::_|.x (.sl (.ar _ _)) _::_|.x (.sl (.o _)) _::_|.x (.i _) _::_|.x .b _::_|.x .s _::_|.x (.f _) _::_|.x (.mp _ _) _::_|.x .un _::_|.x (.pr _ _) _::_|.x (.st _) _::_|.x (.ar _ _) _::_|.x (.o _) _::_=>simp[qU]at hm
 |pb t c=>rfl
 |nl k=>rfl
 |_=>first|(simp[qU]at hm;done)|(simp[yz]at ho;done)
theorem AH:∀(rs:List Sh)(l:List V)(s:S2)(xs:List V)(l':List V)(s':S2)(h1:bF),IE rs l s=some (xs,l',s')->HR s.next h1 s.heap->rs.all Rn=true->
  Bo s'.heap (di xs) (ij s.next (mB rs l)).1/\(∀x∈xs,eX s'.next s'.heap x)/\Mk s s' h1 (ij s.next (mB rs l)).2.1/\s'.next=(ij s.next (mB rs l)).2.2/\xs.length=rs.length:=by
 intro rs;induction rs with
 |nil=>intro l s xs l' s' h1 hm hr _;obtain⟨rfl,e⟩:=ad (aa hm);obtain⟨rfl,rfl⟩:=ad e;exact⟨rfl,fun x hx=>by simp at hx,Mk.skip hr (au _),rfl,rfl⟩
 |cons c rs ih=>
  intro l s xs l' s' h1 hm hr hok;simp only[iI,ai]at hok;simp only[IE]at hm;split at hm
  .rename_i x l1 s1 hm1;split at hm
   .rename_i ys l2 s2 hm2;obtain⟨rfl,e⟩:=ad (aa hm);obtain⟨rfl,rfl⟩:=ad e;obtain⟨q1,q2,q3,q4,q5,q6⟩:=vg c false l s x l1 s1 h1 hm1 hr;have q6:=q6 rfl;subst q5
    have hu:wN s.next (bif xp c then .agg (fA c l).1 else .c ((fA c l).1.headD default))=(bif xp c then .agg (iA s.next (fA c l).1).1 else .c ((iA s.next (fA c l).1).1.headD default),(iA s.next (fA c l).1).2.1,(iA s.next (fA c l).1).2.2)/\sq s1.heap x (bif xp c then .agg (iA s.next (fA c l).1).1 else .c ((iA s.next (fA c l).1).1.headD default)):=by
     cases hs:xp c with
     |true=>exact⟨rfl,xR (q6.trans hs) q1⟩
     |false=>
      have hl:(fA c l).1.length=1:=by
       have h2:yz c=true:=by simpa[Rn,hs]using hok.1
       exact B2 hm1 h2
      match ht:(fA c l).1,hl with|[t],_=>rw[ht]at q1;simp only[qZ]at q1;refine⟨by simp only[cond_false,bT,wN,qZ],?_⟩;simp only[cond_false,qZ,bT];exact dR (q6.trans hs) q1
    obtain⟨hu1,hu2⟩:=hu;obtain⟨p1,p2,p3,p4,p5⟩:=ih (fA c l).2 s1 ys l2 s2 _ hm2 q3.hr hok.2;rw[q4]at p1 p3 p4;simp only[mB,ij,hu1];refine⟨⟨_,_,rfl,vO p3.eI q2 hu2,p1⟩,fun y hy=>?_,q3.seq p3,p4,by simp[p5]⟩;rcases aM.1 hy with rfl|hy
    .exact gJ p3.le p3.eI q2
    .exact p2 y hy
   .simp at hm
  .simp at hm
end
def FK:Ty->Bool
 |.i _|.b|.s|.f _|.un=>true
 |.pr a c=>FK a&&FK c
 |.st t|.ar _ t=>FK t
 |_=>false
def Qk:Sh->Bool
 |.x t=>FK t
 |_=>false
def PW(sp:lD):Bool:=sp.ps.all (fun p=>!p.1)&&sp.al.all (fun w=>w.1.all Qk&&w.2.isEmpty)
def M4(sp:lD):Bool:=NX sp.ps sp.j8&&BC sp.ps&&sp.al.all (fun w=>w.1.all Rn)&&(!sp.ro||PW sp)
def M5(Q:List Sh->List Sh->List V->Prop):(r o:List Sh)->(w:Wy)->vC.GB r o w->Prop
 |r,o,[],z=>Q r o (oS (gU r++gU o) z)
 |r,o,(r',o')::w,z=>match z with|.inl z=>Q r o (oS (gU r++gU o) z)|.inr z=>M5 Q r' o' w z
def M6(Q:List Sh->List Sh->List V->Prop):(w:Wy)->vC w->Prop
 |[],z=>nomatch z
 |(r,o)::w,z=>M5 Q r o w z
def cV(P:Program)(f:FuncId)(sp:lD):Prop:=M4 sp=true/\∀p z,sp.fn p=some z->M6 (fun rs os l=>r_ P f (gS sp.ps (oS (gU (sp.ps.map (·.2))) p)) (mB rs (l.take (gU rs).length)) (lf os (l.drop (gU rs).length))) sp.al z
def pG(P:Program)(tb:Eu):Prop:=∀e∈tb,cV P e.1 e.2
theorem pG.nil{P:Program}:pG P []:=fun e he=>by simp at he
theorem pG.cons{P:Program}{f:FuncId}{sp:lD}{tb:Eu}(h:cV P f sp)(ht:pG P tb):pG P ((f,sp)::tb):=fun e he=>by
 rcases aM.1 he with rfl|he
 .exact h
 .exact ht e he
theorem HB{β:Type}{k:List Sh->List Sh->List V->Option β}{Q:List Sh->List Sh->List V->Prop}{b:β}:∀(w:Wy)(z:vC w),Ru k w z=some b->M6 Q w z->∃r o l,(r,o)∈w/\k r o l=some b/\Q r o l:=by
 have key:∀(w:Wy)(r o:List Sh)(z:vC.GB r o w),PE k r o w z=some b->M5 Q r o w z->∃r' o' l,(r',o')∈(r,o)::w/\k r' o' l=some b/\Q r' o' l:=by
  intro w;induction w with
  |nil=>intro r o z hz hq;exact⟨r,o,_,by simp,hz,hq⟩
  |cons p w ih=>intro r o z hz hq;cases z with|inl z=>exact⟨r,o,_,by simp,hz,hq⟩|inr z=>obtain⟨r',o',l,h1,h2,h3⟩:=ih p.1 p.2 z hz hq;exact⟨r',o',l,aC _ h1,h2,h3⟩
 intro w z hz hq;cases w with|nil=>exact nomatch z|cons p w=>exact key w p.1 p.2 z hz hq
theorem zo{u:Ty}{v:V}{y:El u}(h:uf u v=some y):v=.x u y:=by cases v with|x t v=>obtain⟨rfl,rfl⟩:=du (show gE t u v=some y from h);rfl|_=>simp[uf]at h
theorem pS:∀(cs:List Ty)(l:List V)(p:qu cs),vP cs l=some p->oS cs p=l:=by
 have key:∀(r:List Ty)(a:Ty)(l:List V)(p:qu.EA a r),EN a r l=some p->Nc a r p=l:=by
  intro r;induction r with
  |nil=>
   intro a l p h
   match l with|[]=>exact nomatch (show(none:Option (qu.EA a []))=some p from h)|[v]=>rw[zo (show uf a v=some p from h)];rfl|_::_::_=>exact nomatch (show(none:Option (qu.EA a []))=some p from h)
  |cons c r ih=>
   intro a l p h
   match l with
   |[]=>exact nomatch (show(none:Option (qu.EA a (c::r)))=some p from h)
   |v::l=>
    have h:HI (uf a v) (EN c r l)=some p:=h;cases hx:uf a v with
    |none=>rw[hx]at h;exact nomatch h
    |some x=>cases hy:EN c r l with|none=>rw[hx,hy]at h;exact nomatch h|some y=>rw[hx,hy]at h;obtain rfl:=aa h;show V.x a x::Nc c r y=v::l;rw[ih c l y hy,zo hx]
 intro cs l p h
 match cs,l with|[],[]=>rfl|[],_::_=>exact nomatch (show(none:Option (qu []))=some p from h)|a::r,l=>exact key r a l p h
section
variable{h:H2}{n:Nat}{h1:bF}
theorem CA{a b:List V}{x y:List TV}(ha:mE h a x)(hb:mE h b y):mE h (a++b) (x++y):=by induction a generalizing x with|nil=>rw[lO ha];exact hb|cons v a ih=>obtain⟨c,r,rfl,h2,h3⟩:=gL ha;exact⟨h2,ih h3⟩
theorem xN:∀(v:V)(l:List V)(cs:List C),vH v=some l->eZ h v cs->eX n h v->iq h v=true->mE h l (cs.map TV.c)/\(∀w∈l,eX n h w)/\∀w∈l,iq h w=true:=by
 intro v;induction v with
 |ni=>intro l cs hl hc _ _;obtain rfl:=aa hl;obtain rfl:=hc;exact⟨trivial,fun w hw=>by simp at hw,fun w hw=>by simp at hw⟩
 |co a r iha ihr=>
  intro l cs hl hc hk hal;simp only[vH]at hl;obtain⟨h1,hl⟩:=aO hl;simp only[ai,beq_iff_eq,dn]at h1;split at hl
  .rename_i l' hl';obtain rfl:=aa hl;obtain⟨x,y,rfl,h2,h3⟩:=hc;simp only[iq,ai]at hal;obtain⟨q1,q2,q3⟩:=ihr l' y hl' h3 hk.2 hal.2;have hlen:=iw h2;rw[h1.1]at hlen
   match x,hlen with
   |[c],_=>
    refine⟨⟨ci (dR h1.2 h2),q1⟩,fun w hw=>?_,fun w hw=>?_⟩
    .rcases aM.1 hw with rfl|hw
     .exact hk.1
     .exact q2 w hw
    .rcases aM.1 hw with rfl|hw
     .exact hal.1
     .exact q3 w hw
  .simp at hl
 |_=>intro l cs hl;simp[vH]at hl
theorem F7:∀(tb:Eu)(f:Nat)(vs:List V)(sp:lD)(l:List V)(i:List Nat)(q:List (V×List Nat)),AX h f vs tb=some (sp,l,i,q)->(f,sp)∈tb/\oI h sp.ps vs=some (l,i,q):=by
 intro tb;induction tb with
 |nil=>intro f vs sp l i q hf;simp[AX]at hf
 |cons e tb ih=>
  obtain⟨g,SC⟩:=e;intro f vs sp l i q hf;simp only[AX]at hf;cases hg:(g==f)with
  |false=>rw[hg,cond_false]at hf;obtain⟨h2,h3⟩:=ih f vs sp l i q hf;exact⟨aC _ h2,h3⟩
  |true=>
   rw[hg,cond_true]at hf;obtain rfl:g=f:=by simpa using hg
   split at hf
   .rename_i l' i' q' ha;simp only[bl,Prod.mk.injEq]at hf;obtain⟨rfl,rfl,rfl,rfl⟩:=hf;exact⟨by simp,ha⟩
   .obtain ⟨h2,h3⟩:=ih g vs sp l i q hf;exact⟨aC _ h2,h3⟩
theorem Ds:∀{l:List Nat},yB l=true->l.Nodup:=by intro l;induction l with|nil=>intro _;exact fQ|cons a l ih=>intro hl;simp only[yB,ai,dn,List.contains_eq_mem,decide_eq_false_iff_not]at hl;exact List.nodup_cons.2 ⟨hl.1,ih hl.2⟩
theorem w8.bq:∀{q:List (V×List Nat)}{lent:List (C×List Nat×List Nat)},w8 h n h1 q lent->
  (lent.flatMap (fun(p:C×List Nat×List Nat)=>p.2.1)).Sublist (q.flatMap (·.2))/\(∀j∈lent.flatMap (fun(p:C×List Nat×List Nat)=>p.2.2),j∈q.flatMap (·.2)):=by
 intro q;induction q with
 |nil=>rintro lent rfl;exact⟨bW _,fun j hj=>hj⟩
 |cons p q ih=>
  rintro lent ⟨x,m,rfl,hx,hm⟩;obtain⟨a,b⟩:=ih hm;simp only[bi];refine⟨hx.2.2.2.1.append a,fun j hj=>?_⟩;rcases ap.1 hj with hj|hj
  .exact aE _ (hx.2.2.2.2.2.1 j hj)
  .exact aH _ (b j hj)
theorem EI(hr:HR n h1 h):∀{q:List (V×List Nat)}{lent:List (C×List Nat×List Nat)},w8 h n h1 q lent->eL h1 lent=true:=by
 intro q;induction q with
 |nil=>rintro lent rfl;rfl
 |cons p q ih=>
  obtain⟨v,i⟩:=p;rintro lent ⟨⟨c,bq,rd⟩,m,rfl,hx,hm⟩;have hw:=ih hm;obtain⟨hc,_,_,_,_,_,_,hsh⟩:=hx;cases c with
  |fh sz id off len=>
   cases v with
   |so id'=>obtain⟨_,u,s,ver,ho⟩:=hsh;obtain⟨cc,e,hcc⟩:=hc;obtain rfl:=fo.1 e;have e2:=hcc.1 _ (mi (.inl ho));cases s with|nil=>simp[mj]at e2|mk l=>simp only[mj,C.fh.injEq]at e2;obtain⟨rfl,rfl,rfl,rfl⟩:=e2;exact SK ((hr.ob _ _ ho).2.1.2.2 l rfl) hw
   |sr jd=>obtain⟨_,u,s,ho⟩:=hsh;obtain⟨cc,e,hcc⟩:=hc;obtain rfl:=fo.1 e;have e2:=hcc.1 _ (su ho);cases s with|nil=>simp[mj]at e2|mk l=>simp only[mj,C.fh.injEq]at e2;obtain⟨rfl,rfl,rfl,rfl⟩:=e2;have hl:=(hr.ob _ _ ho).2.1.2.2 l rfl;simp only[eL,hl,eQ,aN,beq_self_eq_true,Bool.and_self,Bool.true_and];exact hw
   |nl k=>have:[C.fh sz id off len]=[Dt k]:=hc
          simp[Dt]at this
   |op a b2 e=>have:[C.fh sz id off len]=[C.op a (mI b2 e)]:=hc
               simp at this
   |_=>exact hsh.elim
  |_=>exact hw
end
section
variable{P:Program}{h1:bF}{β:Type}{s:S2}{k:V->S2->List Nat->Option β}{z:β}
def UK(P:Program)(h1:bF)(kk:K)(xs:List TV)(s:S2)(k:V->S2->List Nat->Option β)(z:β):Prop:=∃v s' l,k v s' l=some z/\∃call:Call,m9 P call/\∃x u aA m,cN call kk (xs.map some) h1 s.next=some (x,u,aA,m)/\qS s s' h1 x u aA m v l
theorem Og{b:Bool}{f:Nat}{caps:V}{xf:TV}{cs:List V}(hf:fV s.heap (.fn b f caps) xf)(hk:eX s.next s.heap (.fn b f caps))(ha:iq s.heap (.fn b f caps)=true)(hc:vH caps=some cs):
  ∃cc,LU (some xf)=some (f,cc)/\mE s.heap cs (cc.map TV.c)/\(∀w∈cs,eX s.next s.heap w)/\∀w∈cs,iq s.heap w=true:=by
 rcases EM hf with⟨rfl,ds,hd,rfl⟩|⟨rfl,xs,hd,rfl⟩
 .obtain ⟨a1,a2⟩:=zx (h:=s.heap) caps ha;exact⟨ds.map .d,rfl,xN caps cs _ hc (Mx caps ds hd) (a2 _) a1⟩
 .exact ⟨xs,rfl,xN caps cs _ hc hd hk ha⟩
theorem CZ{xs:List V}{vs:List TV}{g:H2}{m:Nat}(h:Bo g (di xs) vs)(hk:∀x∈xs,eX m g x):fV g (PX xs) (tU vs)/\eX m g (PX xs):=by
 have hrow:∀(l:List V),(∀x∈l,eX m g x)->eX m g (di l):=by intro l;induction l with|nil=>intro _;trivial|cons a l ih=>intro hl;exact⟨hl a (by simp),ih fun x hx=>hl x (by simp[hx])⟩
 match xs with|[]=>obtain rfl:=h;exact⟨⟨[],rfl,rfl⟩,trivial⟩|[v]=>obtain⟨x,ys,rfl,h2,h3⟩:=h;obtain rfl:=h3;exact⟨ci h2,hk v (by simp)⟩|a::b::l=>obtain⟨x,ys,rfl,h2,h3⟩:=h;obtain⟨y,zs,rfl,h4,h5⟩:=h3;exact⟨⟨_,rfl,_,_,rfl,h2,_,_,rfl,h4,h5⟩,hrow _ hk⟩
theorem Lb:∀(t:Ty)(v:El t),FK t=true->∀d∈aR t v,∃y,d=.lit y:=by
 intro t;induction t with
 |pr a c iha ihc=>
  intro v h d hd;simp only[FK,ai]at h;rcases ap.1 (show d∈aR a v.1++aR c v.2 from hd)with hd|hd
  .exact iha _ h.1 d hd
  .exact ihc _ h.2 d hd
 |st t ih=>intro v h d hd;exact ih v h d hd
 |ar n t ih=>intro v h d hd;obtain⟨a,_,ha⟩:=List.mem_flatMap.1 (show d∈v.1.flatMap (aR t)from hd);exact ih a h d ha
 |un=>intro v h d hd;exact absurd (show d∈[]from hd) (by simp)
 |i k=>intro v h d hd;exact⟨_,am.1 (show d∈[_]from hd)⟩
 |b=>intro v h d hd;exact⟨_,am.1 (show d∈[_]from hd)⟩
 |s=>intro v h d hd;exact⟨_,am.1 (show d∈[_]from hd)⟩
 |f k=>intro v h d hd;exact⟨_,am.1 (show d∈[_]from hd)⟩
 |_=>intro v h;simp[FK]at h
theorem La:∀(rs:List Sh)(l:List V)(s:S2)(xs:List V)(l':List V)(s':S2),IE rs l s=some (xs,l',s')->rs.all Qk=true->rs.all Rn=true->(mB rs l).all yM=true:=by
 intro rs;induction rs with
 |nil=>intro l s xs l' s' _ _ _;rfl
 |cons c rs ih=>
  intro l s xs l' s' hm hl ho;simp only[iI,ai]at hl ho;simp only[IE]at hm;split at hm
  .rename_i x l1 s1 hm1;split at hm
   .rename_i ys l2 s2 hm2;cases c with
    |x t=>
     have ho1:=ho.1
     match l with
     |.x u v::l=>
      have hm1':=hm1;simp only[qU]at hm1;obtain⟨hc,hm3⟩:=aO hm1;simp only[ai,decide_eq_true_eq]at hc;obtain⟨rfl,_⟩:=hc;obtain⟨rfl,e⟩:=ad (aa hm3);obtain⟨rfl,rfl⟩:=ad e;have hlit:=Lb u v hl.1;simp only[mB,fA,iI,ai];refine⟨?_,ih _ _ _ _ _ hm2 hl.2 ho.2⟩;cases hs:xp (.x u)with
      |true=>simp only[cond_true,yM,bc];intro t ht;obtain⟨d,hd,rfl⟩:=b_.1 ht;obtain⟨y,rfl⟩:=hlit d hd;rfl
      |false=>
       have h2:yz (.x u)=true:=by simpa[Rn,hs]using ho1
       have hlen:=B2 hm1' h2;simp only[fA,aN]at hlen
       match he:aR u v,hlen with|[d],_=>obtain⟨y,rfl⟩:=hlit d (by rw[he];simp);rfl
     |[]|.kb _::_|.nl _::_|.so _::_|.sb _ _ _ _ _::_|.op _ _ _::_|.ep _ _ _ _::_|.pt _ _::_|.fn _ _ _::_|.om _::_|.rc _::_|.tp _::_|.ni::_|.co _ _::_|.fl _::_|.no::_|.gn::_=>simp[qU]at hm1
    |_=>simp[Qk]at hl
   .simp at hm
  .simp at hm
theorem NV{h:H2}:∀(ps:List (Bool×Sh))(vs:List V)(m:List V)(j:List Nat)(q:List (V×List Nat)),oI h ps vs=some (m,j,q)->ps.all (fun p=>!p.1)=true->q=[]:=by
 intro ps;induction ps with
 |nil=>intro vs m j q ha _;cases vs with|nil=>simp[oI]at ha;exact ha.2.2|cons=>simp[oI]at ha
 |cons p ps ih=>
  obtain⟨b,c⟩:=p;intro vs m j q ha hb;simp only[iI,ai,dn]at hb;obtain⟨rfl,hb2⟩:=hb;cases vs with
  |nil=>simp[oI]at ha
  |cons v vs=>
   simp only[oI]at ha;split at ha
   .rename_i m' j' q' hr;simp only[cond_false]at ha;split at ha
    .obtain ⟨_,e⟩:=ad (aa ha);obtain⟨_,rfl⟩:=ad e;exact ih vs m' j' q' hr hb2
    .simp at ha
   .simp at ha
theorem Gt{tb:Eu}{ro:Bool}{j8:List Bool}{f:V}{vs:List V}{xf:TV}{xs:List TV}(htb:pG P tb)(hz:xG tb ro j8 f vs s k=some z)(hr:HR s.next h1 s.heap)(hf:fV s.heap f xf)(hfk:eX s.next s.heap f)(hfa:iq s.heap f=true)
  (hx:mE s.heap vs xs) (hk:∀w∈vs,eX s.next s.heap w) (ha:∀w∈vs,iq s.heap w=true):UK P h1 (.call ro j8) (xf::xs) s k z:=by
 cases f with
 |fn b fid caps=>
  simp only[xG]at hz;split at hz
  case h_2=>simp at hz
  rename_i sp pay j q hfs;split at hfs
  case h_2=>simp at hfs
  rename_i cs hcs;obtain⟨hmem,hargs⟩:=F7 tb fid _ sp pay j q hfs;obtain⟨hwy,hgood⟩:=htb _ hmem;simp only[M4,ai]at hwy;obtain⟨⟨⟨w1,w2⟩,w3⟩,w4⟩:=hwy;obtain⟨hc,hz2⟩:=aO hz;simp only[ai,decide_eq_true_eq]at hc;obtain⟨⟨⟨c1,c2⟩,c3⟩,c4⟩:=hc;clear hz;split at hz2
  case h_2=>simp at hz2
  rename_i p hp;obtain⟨zz,hzz,hz3⟩:=rF hz2;obtain⟨rs,os,l,hm,hk3,hg⟩:=HB sp.al zz hz3 (hgood p zz hzz);rw[pS _ _ _ hp]at hg;obtain⟨cc,hfn,d1,d2,d3⟩:=Og hf hfk hfa hcs;rw[c2]at w1;obtain⟨aA,lent,e1,e2,e3,e4⟩:=Eo hr sp.ps (vs++cs) j8 pay j q (xs++cc.map TV.c) hargs (CA hx d1) (fun w hw=>(ap.1 hw).elim (hk w) (d2 w)) (fun w hw=>(ap.1 hw).elim (ha w) (d3 w)) w1 w2;obtain⟨o1,o2⟩:=e4.bq;have hnd:=Ds c3;have hap:∀i∈ko (fun(p:V×List Nat)=>p.2) q,i∉j:=fun i hi=>by simpa using bc.1 c4 i hi
  have hdec:decide ((lent.flatMap (fun(p:C×List Nat×List Nat)=>p.2.1)).Nodup/\(lent.flatMap (fun(p:C×List Nat×List Nat)=>p.2.1)).all (fun i=>!aA.contains i)=true)=true:=by refine decide_eq_true ⟨o1.nodup hnd,bc.2 fun i hi=>?_⟩;have:=hap i (o1.subset hi);simpa using fun hm=>this (e2 i hm).1
  have hwl:=EI hr e4;have hokR:rs.all Rn=true:=bc.1 w3 _ hm;cases ro with
  |true=>
   have hro:sp.ro=true:=by simpa using c1
   rw[hro]at w4;have w5:PW sp=true:=by simpa using w4
   simp only[PW,ai]at w5;obtain⟨v1,v2⟩:=w5;have v3:=bc.1 v2 _ hm;simp only[ai,List.isEmpty_iff]at v3;obtain⟨v3,rfl⟩:=v3;have hq:=NV _ _ _ _ _ hargs v1;subst hq;obtain rfl:lent=[]:=e4;simp only[cond_true]at hk3;obtain⟨s1,bu,b1,b2,b3⟩:=zu hr [] [] [] _ s h1 _ hk3 rfl (au _) hr (jr.refl _ _) fQ;obtain⟨rfl,hs1⟩:[]=bu/\s.next=s1.next:=by simpa[eV,lf]using b2
   split at b1
   case h_2=>simp at b1
   rename_i ys l2 s2 hmk;obtain⟨m1,m2,m3,m4,m5⟩:=AH rs _ s1 ys l2 s2 _ hmk b3.hr hokR;obtain⟨t1,t2⟩:=CZ m1 m2;have hlit:=La rs _ s1 ys l2 s2 hmk v3 hokR;refine⟨_,_,_,b1,only fid (gS sp.ps pay) (mB rs (l.take (gU rs).length)) (lf [] (l.drop (gU rs).length)),G2 hg,?_⟩;have hld:uC h1 s.next true aA [] (some (mB rs (l.take (gU rs).length),lf [] (l.drop (gU rs).length)))=some (tU (ij s.next (mB rs (l.take (gU rs).length))).1,(ij s.next (mB rs (l.take (gU rs).length))).2.1,aA,(ij s.next (mB rs (l.take (gU rs).length))).2.2):=by simp only[uC,hlit,lf,List.isEmpty_nil,and_self,if_true]
   obtain⟨g1,g2⟩:=Hw (ro:=true) hfn (m6 xs) e1 hwl hdec hld;rw[<-hs1]at t1 m3 m4;refine⟨_,_,_,_,Bb g1 g2,?_⟩;obtain⟨W1,x1,x2,x3⟩:=b3.wo;obtain⟨W2,y1,y2,y3,y4⟩:=m3.wo;refine⟨t1,t2,m3.hr,b3.eI.trans b3.le m3.eI,by rw[m3.dD,b3.dD],by rw[m3.gh,b3.gh],by omega,by have:=b3.le;have:=m3.le;omega,fun i hi=>aE _ (e2 i hi).1,fun i hi h=>(by rw[y4 i fun q=>by have:=(y3 i q).1;have:=b3.le;omega];exact b3.nb i hi h),W2++W1,by rw[y1,x1];simp only[aJ],fun p hp=>aE _ (y2 p hp),fun i hi=>?_⟩;simp only[ap,not_or]at hi;rw[y4 i hi.1,x3 i hi.2]
  |false=>
   simp only[cond_false]at hk3;split at hk3
   case h_2=>simp at hk3
   rename_i s0 hs0;obtain⟨fu,f1,f2,f3,f4,f5,f6,f7,f8,f9⟩:=BW (s0:=s) rfl hr j s0 aA aA hs0 e2 e3;obtain⟨s1,bu,b1,b2,b3⟩:=zu hr os q lent _ s0 (fu++h1) _ hk3 e4 (by omega) (by rw[f6];exact f2) f3 hnd;split at b1
   case h_2=>simp at b1
   rename_i ys l2 s2 hmk;obtain⟨m1,m2,m3,m4,m5⟩:=AH rs _ s1 ys l2 s2 _ hmk b3.hr hokR;obtain⟨t1,t2⟩:=CZ m1 m2;rw[f6]at b2;refine⟨_,_,_,b1,only fid (gS sp.ps pay) (mB rs (l.take (gU rs).length)) (lf os (l.drop (gU rs).length)),G2 hg,?_⟩;have hld:=Uu (rs:=mB rs (l.take (gU rs).length)) f1 b2;obtain⟨g1,g2⟩:=Hw (ro:=false) hfn (m6 xs) e1 hwl hdec hld;refine⟨_,_,_,_,Bb g1 g2,?_⟩;obtain⟨W1,x1,x2,x3⟩:=b3.wo;obtain⟨W2,y1,y2,y3,y4⟩:=m3.wo;refine⟨t1,t2,?_,(f3.trans (Nat.le_of_eq f6.symm) b3.eI).trans (by have:=b3.le;omega) m3.eI,by rw[m3.dD,b3.dD,f4],by rw[m3.gh,b3.gh,f5],by omega,by have:=b3.le;have:=m3.le;omega,fun i hi=>?_,fun i hi h=>(by rw[y4 i fun q=>by have:=(y3 i q).1;have:=b3.le;omega];exact b3.nb i (by omega) ((f9 i fun q=>F0 rfl hs0 i q h).trans h)),W2++W1++j,by rw[y1,x1,f7];simp only[aJ],fun p hp=>?_,fun i hi=>?_⟩
   .have:=m3.hr;simpa only[aJ]using this
   .rcases ap.1 hi with hi|hi
    .exact aE _ (e2 i hi).1
    .exact aH _ (o2 i hi)
   .simp only[aJ,ap]at hp|-;rcases hp with hp|hp|hp
    .exact .inl (y2 p hp)
    .exact .inr (.inl (x2 p hp))
    .exact .inr (.inr (f8 p hp))
   .simp only[aJ,ap,not_or]at hi;rw[y4 i hi.1,x3 i hi.2.1,f9 i hi.2.2]
 |_=>simp[xG]at hz
end
def lH:Prop:=∀g v,LG g=some v->∃d,Qu g=some d/\∀h n,fV h v (.c (.d d))/\eX n h v/\iq h v=true
theorem vB{n:Nat}{h h':H2}(hs:jr n h h')(hnb:∀i,i<n->fO h i=none->fO h' i=none):∀{v:V},eX n h v->iq h' v=true->iq h v=true:=by
 have key:∀id,id<n->(match fO h' id with|some _=>true|none=>false)=true->(match fO h id with|some _=>true|none=>false)=true:=by intro id hid ha;cases ho:fO h id with|some _=>rfl|none=>rw[hnb id hid ho]at ha;simp at ha
 intro v;induction v with
 |so id=>
  intro hk ha;have hk:id<n:=hk;simp only[iq]at ha|-;split at ha
  .rename_i t s v ho;obtain⟨s0,v0,h1,_⟩:=tf hs hk (.inl ho);rcases h1 with h1|h1<;>rw[h1]
  .rename_i t s v ho;obtain⟨s0,v0,h1,_⟩:=tf hs hk (.inr ho);rcases h1 with h1|h1<;>rw[h1]
  .simp at ha
 |sr id=>
  intro hk ha;have hk:id<n:=hk;simp only[iq]at ha|-;split at ha
  .rename_i t s ln ho;obtain⟨s0,ln0,h1,_⟩:=GP hs hk ho;rw[h1]
  .simp at ha
 |sb id ver lo t r=>
  rintro⟨hid,hk⟩ ha;obtain⟨hd,ha⟩:=dl.1 ha;have ha:Ci h' id ver=true:=ha;obtain⟨u,s,ho⟩:=lC ha;obtain⟨s0,v0,h3,h4,_,_⟩:=tf hs hid ho;obtain⟨h7,_⟩:=hk u s0 v0 h3;have:v0=ver:=by omega
  subst this;refine dl.2 ⟨hd,?_⟩;rcases h3 with h3|h3<;>rw[h3]<;>simp
 |op id t p=>rintro⟨hid,_⟩ ha;exact key id hid ha
 |ep id m t p=>rintro⟨hid,_⟩ ha;exact key id hid ha
 |om id=>intro hid ha;exact key id hid ha
 |fn z f l ih=>intro hk ha;cases z with|true=>exact ha|false=>exact ih hk ha
 |rc l ih=>intro hk ha;exact ih hk ha
 |tp l ih=>intro hk ha;exact ih hk ha
 |co a r iha ihr=>rintro⟨h1,h2⟩ ha;simp only[iq,ai]at ha|-;exact⟨iha h1 ha.1,ihr h2 ha.2⟩
 |_=>intro _ ha;exact ha
def JJ(h:H2):V->List C->Prop
 |.ni,cs=>cs=[]
 |.co a r,cs=>∃c m,cs=c::m/\(iq h a=true->eZ h a [c])/\JJ h r m
 |_,_=>False
theorem DQ{n:Nat}{h h':H2}(hs:jr n h h')(hnb:∀i,i<n->fO h i=none->fO h' i=none):∀{v:V}{cs:List C},eX n h v->JJ h v cs->JJ h' v cs:=by intro v;induction v with|co a r _ ihr=>rintro cs ⟨h1,h2⟩ ⟨c,m,rfl,h3,h4⟩;exact⟨c,m,rfl,fun ha=>lB hs h1 (h3 (vB hs hnb h1 ha)),ihr h2 h4⟩|ni=>intro cs _ h;exact h|_=>intro cs _ h;exact h.elim
structure R2(s1:St)(s:S2):Prop where
 dD:∀t v,cq s.dD t=some v->eX s.next s.heap v/\(iq s.heap v=true\/v=.no->∃x,cq s1.dD t=some x/\fV s.heap v x)
 hr:HR s.next s1.heap s.heap
 next:s1.next<=s.next
 gh:JJ s.heap s.gh s1.gh/\eX s.next s.heap s.gh
theorem Kq{v:Value}(hp:d_ v=true)(ha:∀cs,v≠.agg cs):cv v=some (.c (.d (.lit v))):=by
 unfold cv;split
 .rename_i cs;exact absurd rfl (ha cs)
 .rw [if_pos hp]
theorem Hs{c:Value}{v:V}(hc:SH c=some v)(h:H2)(n:Nat):∃x,cv c=some x/\fV h v x/\eX n h v/\iq h v=true:=by
 unfold SH at hc;split at hc
 case h_10=>
  rename_i cs;split at hc
  .rename_i hp;obtain rfl:=aa hc;refine⟨.agg (cs.toList.map fun v=>.d (.lit v)),by simp only[cv];rw[if_pos hp],ci (xR rfl ⟨hp,rfl⟩),trivial,hp⟩
  .simp at hc
 case h_11=>simp at hc
 all_goals
  obtain rfl:=aa hc;exact⟨_,Kq rfl (fun cs e=>by cases e),ci (dR rfl (by first|rfl|exact⟨rfl,rfl⟩)),trivial,rfl⟩
theorem nW(hg:lH){s1:St}{s:S2}(hr:R2 s1 s){o:Operand}{v:V}(ho:JG s.dD s.heap o=some v):∃x,kM s1.dD o=some x/\fV s.heap v x/\eX s.next s.heap v/\iq s.heap v=true:=by
 cases o with
 |tmp t=>
  simp only[JG]at ho;split at ho
  .rename_i w hw;obtain⟨ha,ho⟩:=aO ho;obtain rfl:=aa ho;obtain⟨h3,h4⟩:=hr.dD t w hw;obtain⟨x,h1,h2⟩:=h4 (.inl ha);exact⟨x,h1,h2,h3,ha⟩
  .simp at ho
 |const c=>exact Hs ho _ _
 |global g=>obtain⟨d,h1,h2⟩:=hg g v ho;exact⟨_,by simp only[kM,h1,Option.map_some],h2 _ _⟩
 |func f=>obtain rfl:=aa ho;exact⟨_,rfl,ci (dR rfl ⟨[],rfl,rfl⟩),trivial,rfl⟩
structure rS(s1:St)(s:S2)(q:Rg):Prop where
 r:R2 s1 s
 kn:∀g b,Qq q.kn g=some b->cq s1.dD g=some (tB b)
 cd:∀t g b v,cq q.cd t=some (g,b,v)->∃c,cq s1.dD g=some (tB c)/\(c=b->∃x,cq s1.dD t=some x/\fV s.heap v x/\eX s.next s.heap v)
theorem PO{a b:Bool}(h:tB a=tB b):a=b:=by simpa[tB]using h
theorem u_(hg:lH){s1:St}{s:S2}{q:Rg}(hr:rS s1 s q){gc:Option (Nat×Bool)}(hgc:∀g b,gc=some (g,b)->cq s1.dD g=some (tB b)){o:Operand}{v:V}(ho:JH s q gc o=some v):
  ∃x,kM s1.dD o=some x/\fV s.heap v x/\eX s.next s.heap v/\iq s.heap v=true:=by
 cases o with
 |tmp t=>
  simp only[JH]at ho;split at ho
  .rename_i g b w hw;obtain⟨hc,ho⟩:=aO ho;obtain⟨ha,ho⟩:=aO ho;obtain rfl:=aa ho;obtain⟨c,h1,h2⟩:=hr.cd t g b w hw
   have hb:cq s1.dD g=some (tB b):=by
    simp only[cJ,decide_eq_true_eq]at hc;rcases hc with hc|hc
    .exact hgc g b hc
    .exact hr.kn g b hc
   rw[h1]at hb;obtain⟨x,h3,h4,h5⟩:=h2 (PO (aa hb));exact⟨x,h3,h4,h5,ha⟩
  .exact nW hg hr.r ho
 |const c=>exact nW hg hr.r ho
 |global g=>exact nW hg hr.r ho
 |func f=>exact nW hg hr.r ho
theorem AC(hg:lH){s1:St}{s:S2}{q:Rg}(hr:rS s1 s q){gc:Option (Nat×Bool)}(hgc:∀g b,gc=some (g,b)->cq s1.dD g=some (tB b)):∀(os:List Operand)(vs:List V),Fw s q gc os=some vs->
  ∃xs,os.map (kM s1.dD)=xs.map some/\mE s.heap vs xs/\(∀w∈vs,eX s.next s.heap w)/\∀w∈vs,iq s.heap w=true:=by
 intro os;induction os with
 |nil=>intro vs ho;obtain rfl:=aa ho;exact⟨[],rfl,trivial,fun w hw=>by simp at hw,fun w hw=>by simp at hw⟩
 |cons o os ih=>
  intro vs ho;simp only[Fw]at ho;split at ho
  .rename_i v l hv hl;obtain rfl:=aa ho;obtain⟨x,h1,h2,h3,h4⟩:=u_ hg hr hgc hv;obtain⟨xs,g1,g2,g3,g4⟩:=ih l hl;refine⟨x::xs,by simp[h1,g1],⟨h2,g2⟩,fun w hw=>?_,fun w hw=>?_⟩
   .rcases aM.1 hw with rfl|hw
    .exact h3
    .exact g3 w hw
   .rcases aM.1 hw with rfl|hw
    .exact h4
    .exact g4 w hw
  .simp at ho
theorem Mm{h:H2}{t:Ty}{w:V}{b:El t}{x:TV}(hd:kD t=true)(hx:fV h w x)(hc:tM t w=some b):fV h (.x t b) x:=by obtain⟨cs,h1,h2,h3⟩:=oK (Pn hc) hx;have e:=iS w false t b cs hc h1;have ha:=wy hc;exact ci ⟨cs,⟨hd,e⟩,fun q=>h2 (ha.trans q),fun q=>h3 (ha.trans q)⟩
theorem DB{h:H2}{c:Bool}{a b v:V}{x:TV}(hm:Us c a b=some v)(ha:iq h a=true)(hb:iq h b=true)(h1:c=true->fV h a x)(h2:c=false->fV h b x):fV h v x/\∀n,eX n h v:=by
 unfold Us at hm;split at hm
 .rename_i p q;obtain rfl:=aa hm;refine⟨?_,fun _=>trivial⟩;cases c with|true=>rw[vN (h1 rfl)];exact xb _|false=>rw[vN (h2 rfl)];exact xb _
 .rename_i t p w;split at hm
  .rename_i y hy;obtain rfl:=aa hm;refine⟨?_,fun _=>trivial⟩;cases c with|true=>exact h1 rfl|false=>exact Mm ha (h2 rfl) hy
  .simp at hm
 .rename_i t p w;split at hm
  .rename_i y hy;obtain rfl:=aa hm;refine⟨?_,fun _=>trivial⟩;cases c with|true=>exact Mm hb (h1 rfl) hy|false=>exact h2 rfl
  .simp at hm
 .simp at hm
theorem xz(hg:lH){e:List (Nat×V)}{h:H2}{o:Operand}{v:V}(ho:JG e h o=some v):iq h v=true:=by
 cases o with
 |tmp t=>
  simp only[JG]at ho;split at ho
  .obtain ⟨ha,ho⟩:=aO ho;obtain rfl:=aa ho;exact ha
  .simp at ho
 |const c=>obtain⟨_,_,_,_,ha⟩:=Hs ho h 0;exact ha
 |global g=>obtain⟨d,_,h2⟩:=hg g v ho;exact(h2 h 0).2.2
 |func f=>obtain rfl:=aa ho;rfl
theorem G1(hg:lH){s:S2}{q:Rg}{gc:Option (Nat×Bool)}{o:Operand}{v:V}(ho:JH s q gc o=some v):iq s.heap v=true:=by
 cases o with
 |tmp t=>
  simp only[JH]at ho;split at ho
  .obtain ⟨hc,ho⟩:=aO ho;obtain⟨ha,ho⟩:=aO ho;obtain rfl:=aa ho;exact ha
  .exact xz hg ho
 |const c=>exact xz (e:=s.dD) (o:=.const c) hg ho
 |global g=>exact xz (e:=s.dD) (o:=.global g) hg ho
 |func f=>exact xz (e:=s.dD) (o:=.func f) hg ho
theorem Ie(hg:lH){s1:St}{s:S2}{q:Rg}(hr:rS s1 s q){gc:Option (Nat×Bool)}(hgc:∀g b,gc=some (g,b)->cq s1.dD g=some (tB b)){os:List Operand}{v:V}(hp:Ks s q gc os=some v)(c:Call)(H:bF)(nx:Nat):
  ∃x,cN c .pick (os.map (kM s1.dD)) H nx=some (x,[],[],nx)/\fV s.heap v x/\eX s.next s.heap v:=by
 have one:∀(g a b:Operand)(t:Bool)(w:V),kM s1.dD g=some (tB t)->JH s q gc (bif t then a else b)=some w->∃x,cN c .pick ([g,a,b].map (kM s1.dD)) H nx=some (x,[],[],nx)/\fV s.heap w x/\eX s.next s.heap w:=by intro g a b t w h1 h2;obtain⟨x,h3,h4,h5,_⟩:=u_ hg hr hgc h2;refine⟨x,?_,h4,h5⟩;simp only[aD,aV,h1];cases t with|true=>simp only[cond_true]at h3;rw[h3];rfl|false=>simp only[cond_false]at h3;rw[h3];rfl
 unfold Ks at hp;split at hp
 .rename_i g a b;split at hp
  .rename_i _ _ t hk;exact one _ a b t v (hr.kn g t hk) hp
  .rename_i t hk he;obtain⟨x,h1,h2⟩:=(hr.r.dD g _ he).2 (.inl rfl);rw[vN h2]at h1;exact one _ a b t v h1 hp
  .rename_i t hk he;obtain⟨x,h1,h2⟩:=(hr.r.dD g _ he).2 (.inl rfl)
   .rw [GL h2]at h1;split at hp
    .rename_i x y hx hy;have ax:=G1 hg hx;have ay:=G1 hg hy;cases t with|true=>obtain⟨z,g1,g2,_⟩:=u_ hg hr (gc:=some (g,true)) (fun g' b' e=>by cases e;exact h1) hx;obtain⟨m1,m2⟩:=DB hp ax ay (fun _=>g2) (fun e=>by cases e);refine⟨z,?_,m1,m2 _⟩;have h1':kM s1.dD (.tmp g)=some (tB true):=h1;simp only[aD,aV,h1',g1];rfl|false=>obtain⟨z,g1,g2,_⟩:=u_ hg hr (gc:=some (g,false)) (fun g' b' e=>by cases e;exact h1) hy;obtain⟨m1,m2⟩:=DB hp ax ay (fun e=>by cases e) (fun _=>g2);refine⟨z,?_,m1,m2 _⟩;have h1':kM s1.dD (.tmp g)=some (tB false):=h1;simp only[aD,aV,h1',g1];rfl
    .simp at hp
  .simp at hp
 .rename_i t a b;exact one _ a b t v rfl hp
 .simp at hp
theorem H9{s:S2}{q:Rg}{gc:Option (Nat×Bool)}{os:List Operand}{vs:List V}(ho:Fw s q gc os=some vs)(hp:NH os=true):∀a k b,vs=[a,.x (.i k) b]->0<b:=by
 intro a k b e;subst e
 match os with
 |[o,.const (.int k' m)]=>
  simp only[NH,decide_eq_true_eq]at hp;simp only[Fw,JH,JG,SH]at ho;split at ho
  .rename_i v l hv hl;simp only[bl]at hl;subst hl;simp only[bl,List.cons.injEq,and_true]at ho;obtain⟨_,e⟩:=ho;cases e;exact hp
  .simp at ho
theorem Ao(hg:lH){s1:St}{s:S2}{q:Rg}(hr:rS s1 s q){gc:Option (Nat×Bool)}(hgc:∀g b,gc=some (g,b)->cq s1.dD g=some (tB b)){o:OP}{v:V}{l:List Nat}(ht:Nf o s q gc=some (v,l))(c:Call)(nx:Nat):
  ∃x aA,cN c o.o.k (o.o.args.map (kM s1.dD)) s1.heap nx=some (x,[],aA,nx)/\fV s.heap v x/\eX s.next s.heap v/\∀i∈aA,i∈l:=by
 unfold Nf at ht;cases hpk:FR o.o.k with
 |true=>
  rw[hpk,cond_true]at ht;split at ht
  .rename_i w hw;obtain⟨rfl,rfl⟩:=ad (aa ht);obtain⟨x,h1,h2,h3⟩:=Ie hg hr hgc hw c s1.heap nx;have hk:o.o.k=.pick:=by revert hpk;cases o.o.k<;>simp[FR]
   rw[hk];exact⟨x,[],h1,h2,h3,fun i hi=>by simp at hi⟩
  .simp at ht
 |false=>
  rw[hpk,cond_false]at ht;split at ht
  .rename_i vs hvs;obtain⟨xs,h1,h2,h3,h4⟩:=AC hg hr hgc _ _ hvs;rw[h1];exact HJ hr.r.hr ht h2 h3 h4 (fun hp=>H9 hvs hp) c nx
  .simp at ht
theorem L2{P:Program}{β:Type}{tb:Eu}(htb:pG P tb)(hg:lH){s1:St}{s:S2}{q:Rg}(hr:rS s1 s q){gc:Option (Nat×Bool)}(hgc:∀g b,gc=some (g,b)->cq s1.dD g=some (tB b)){o:OP}{k:V->S2->List Nat->Option β}{z:β}
  (hz:SG tb o s q gc k=some z):∃v s' l,k v s' l=some z/\∃call:Call,m9 P call/\∃x u aA m,cN call o.o.k (o.o.args.map (kM s1.dD)) s1.heap s.next=some (x,u,aA,m)/\qS s s' s1.heap x u aA m v l:=by
 unfold SG at hz;split at hz
 .rename_i v l ht;obtain⟨x,aA,h1,h2,h3,h4⟩:=Ao hg hr hgc ht qf s.next;exact⟨v,s,l,hz,qf,qC,x,[],aA,s.next,h1,qS.pure hr.r.hr h2 h3 h4⟩
 .split at hz
  .rename_i vs hvs;obtain⟨xs,h1,h2,h3,h4⟩:=AC hg hr hgc _ _ hvs;rw[h1];split at hz
   .rename_i ro j8 f vs' hk;obtain⟨y,ys,rfl,h5,h6⟩:=gL h2;obtain⟨v,s',l,e1,call,e2,x,u,aA,m,e3,e4⟩:=Gt (P:=P) htb hz hr.r.hr h5 (h3 _ (by simp)) (h4 _ (by simp)) h6 (fun w hw=>h3 w (by simp[hw])) (fun w hw=>h4 w (by simp[hw]));rw[hk];exact⟨v,s',l,e1,call,e2,x,u,aA,m,e3,e4⟩
   .obtain ⟨v,s',l,e1,e2⟩:=Fq hz hr.r.hr h2 h3 h4;obtain⟨x,u,aA,m,e3,e4⟩:=e2 qf;exact⟨v,s',l,e1,qf,qC,x,u,aA,m,e3,e4⟩
  .simp at hz
end Go.Ev
