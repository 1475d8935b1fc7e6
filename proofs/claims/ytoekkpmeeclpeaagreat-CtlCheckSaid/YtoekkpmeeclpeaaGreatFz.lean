/- Calls: the arguments, as they are laid. Conditions: as stated. -/
import Derived.Test.YtoekkpmeeclpeaaGreatFq
open Bool renaming and_eq_true->ak,and_eq_true_iff->cf,and_true->kM
open List renaming all_cons->fR,all_eq_true->bg,append_assoc->aM,append_nil->aV,cons_append->bI,drop_zero->eH,flatMap->md,headD_cons->cF,length_map->aD,mem_append->aC,mem_cons->aW,mem_map->br,mem_singleton->aq,nil_sublist->iT,singleton_append->a_,singleton_inj->fo
open List.Sublist renaming refl->bT
open Nat renaming le_refl->am,le_succ->bn,lt_succ_self->aQ,zero_le->cY
open Option.some renaming inj->aa
open Prod.mk renaming inj->af
namespace Go.Ev
def Ri(k:Nat):D:=match Fd k with|.d x=>x|_=>default
theorem SL(k:Nat):Fd k=.d (Ri k):=rfl
def rU:Sh->List V->List D×List V
 |.x _,.x u v::l=>(aR u v,l)
 |.pt _,.x u v::l=>([.pt (aR u v)],l)
 |.nl k,l=>([Ri k],l)
 |.fn f c,l=>([.fn f (rU c l).1],(rU c l).2)
 |.pr a c,l=>((rU a l).1++(rU c (rU a l).2).1,(rU c (rU a l).2).2)
 |_,l=>([],l)
def Kf(t:Ty):Sl (El t)->Option (List (List D))
 |.nil=>none
 |.mk l=>some (l.map (aR t))
def zQ(t:Ty):Sl (Sl (El t))->T
 |.nil=>.d (.lit (.slice none 0 0))
 |.mk l=>.Bh (bU t) (l.map (Kf t))
theorem J4{t:Ty}(l:List (Sl (El t))):vJ (l.map (p9 t))=some (l.map (Kf t)):=by induction l with|nil=>rfl|cons s l ih=>simp[vJ,ih];cases s<;>rfl
theorem zS{t:Ty}(l:List (Sl (El t))):(l.map (Kf t)).map ny=l.map (p9 t):=by rw[List.map_map];exact List.map_congr_left fun s _=>by cases s<;>rfl
def Ys(k v:Ty)(m:Mp (El k) (El v)):T:=.mp (mF k) (mF v) (m.es.map (Dh (xy k) (aR v))) m.bE
def fk:Sh->List V->List T×List V
 |.x _,.x u v::l=>((aR u v).map .d,l)
 |.os _,.x (.sl u) v::l=>([Sc (bU u) (aR u) v],l)
 |.rw _,.x (.sl (.sl u)) v::l=>([zQ u v],l)
 |.mp _ _,.x (.mp k v) m::l=>([Ys k v m],l)
 |.pb _ c,l=>([.pt (fk c l).1],(fk c l).2)
 |.nl k,l=>([.d (Ri k)],l)
 |.st c,l=>fk c l
 |.pr a c,l=>((fk a l).1++(fk c (fk a l).2).1,(fk c (fk a l).2).2)
 |.gn,l=>([.tF],l)
 |_,l=>([],l)
def y_:Sh->Bool
 |.x t=>mF t
 |.st _=>true
 |_=>false
def gR:List (Bool×Sh)->List V->List A
 |[],_=>[]
 |(true,c)::r,l=>.mt ((fk c l).1.headD default)::gR r (fk c l).2
 |(false,c)::r,l=>(bif y_ c then .agg (rU c l).1 else .d ((rU c l).1.headD default))::gR r (rU c l).2
def px:List Sh->List V->List R
 |[],_=>[]
 |c::r,l=>(bif y_ c then .agg (fk c l).1 else .c ((fk c l).1.headD default))::px r (fk c l).2
def kV:List Sh->List V->List T
 |[],_=>[]
 |c::r,l=>(fk c l).1.headD default::kV r (fk c l).2
def yd:Sh->Nat
 |.x t=>bU t+1
 |.pt t=>bU t+3
 |.fn _ c=>yd c+2
 |.pr a c=>yd a+yd c
 |.ni=>0
 |_=>1
section
variable{h:H2}{n:Nat}{h1:bp}
def Cn:C->Prop
 |.d _|.fx _ _ _ _=>True
 |_=>False
theorem GD{c:C}(hc:Cn c)(k j:Nat):dW h1 k c=dW h1 j c:=by cases c with|d x=>rw[qD,qD]|fx a b e f=>cases k<;>cases j<;>simp[dW]|_=>exact hc.elim
theorem zD:∀{cs:List C}{ds:List D}{av:List Nat}{k:Nat},(∀c∈cs,Cn c)->dn h1 cs=some (ds,av)->cs.length<k->gf h1 k cs=some (ds,av):=by
 intro cs;induction cs with
 |nil=>intro ds av k _ h _;rw[<-h];cases k<;>rfl
 |cons c cs ih=>intro ds av k hf h hk;cases k with|zero=>simp at hk|succ k=>grind [dn,gf,GD]
theorem CM:∀{x y:List C}{dx dy:List D}{ix iy:List Nat}{k:Nat},gf h1 k x=some (dx,ix)->gf h1 (k-x.length) y=some (dy,iy)->x.length<=k->gf h1 k (x++y)=some (dx++dy,ix++iy):=by
 intro x;induction x with
 |nil=>
  intro y dx dy ix iy k hx hy _;have:gf h1 k []=some ([],[]):=by cases k<;>rfl
  simp_all
 |cons c x ih=>
  intro y dx dy ix iy k hx hy hk;cases k with
  |zero=>simp at hk
  |succ k=>
   simp[gf]at hx;split at hx
   .rename_i p a q b hp hq;obtain⟨rfl,rfl⟩:=af (aa hx);simp only[bI,gf,hp];rw[ih hq (by simpa using hy) (by simpa using hk)];simp
   .simp at hx
theorem FT{α:Type}{sz id:Nat}{enc:α->List D}{s:Sl α}:Cn (nA sz enc id s):=by cases s<;>trivial
theorem N1{id lo:Nat}{t:Ty}{r:Sl (El t)}:Cn (zo id lo t r):=by cases r<;>trivial
theorem FO:∀(v w:V)(l:List Nat)(cs:List C),jI h v=some (w,l)->ff h v cs->iw h v=true->∀c∈cs,Cn c:=by
 have fl:∀(ds:List D),∀c∈ds.map C.d,Cn c:=fun ds c hc=>by obtain⟨d,_,rfl⟩:=br.1 hc;trivial
 intro v;induction v with
 |so id=>
  intro w l cs hf hv _ c hc;simp[jI]at hf;split at hf
  .rename_i t s l' hs;obtain⟨ver,ho,_⟩:=vK hs;obtain⟨c',rfl,hc'⟩:=hv;obtain rfl:=aq.1 hc;rw[hc'.1 _ (mV ho)];exact FT
  .simp at hf
 |sr id=>
  intro w l cs hf hv _ c hc;simp[jI]at hf;split at hf
  .rename_i t s ho;obtain⟨c',rfl,hc'⟩:=hv;obtain rfl:=aq.1 hc;rw[hc'.1 _ (tT ho)];exact FT
  .simp at hf
 |sb id ver lo t r=>intro w l cs hf hv ha c hc;obtain⟨c',rfl,hc'⟩:=hv;obtain rfl:=aq.1 hc;rw[hc'.1 (cf.1 ha).2];exact N1
 |rc r ih=>
  intro w l cs hf hv ha;simp[jI]at hf;split at hf
  .rename_i w' l' hw;exact ih w' l' cs hw hv ha
  .simp at hf
 |co a r iha ihr=>
  intro w l cs hf hv ha c hc;simp[jI]at hf;split at hf
  .obtain ⟨ca,cr,rfl,h2,h3⟩:=hv;simp[iw]at ha
   grind
  .simp at hf
 |x t v=>intro w l cs hf hv _;obtain⟨_,rfl⟩:=hv;exact fl _
 |kb c=>intro w l cs hf hv _;obtain rfl:=hv;exact fl [_]
 |nl k=>intro w l cs hf hv _;obtain rfl:=hv;exact fl [_]
 |fl q=>intro w l cs hf hv _;obtain⟨_,rfl⟩:=hv;rw[Dk];exact fl _
 |ni=>intro w l cs hf hv _;obtain rfl:=hv;exact fl []
 |pt t v=>intro w l cs hf hv _;obtain⟨_,rfl⟩:=hv;exact fl [_]
 |fn z f q ih=>intro w l cs hf hv _;cases z with|true=>obtain⟨ds,_,rfl⟩:=hv;exact fl [_]|false=>simp[jI]at hf
 |_=>intro w l cs hf hv;simp[jI]at hf
theorem Ox:∀(v:V)(ds:List D),rC v=some ds->ff h v (ds.map .d):=by
 intro v;induction v with
 |co a r iha ihr=>
  intro ds hd;simp[rC]at hd;split at hd
  .rename_i x y hx hy;obtain rfl:=aa hd;exact⟨_,_,by simp,iha x hx,ihr y hy⟩
  .simp at hd
 |pt t v=>
  intro ds hd;simp only[rC]at hd;split at hd
  .rename_i ht;obtain rfl:=aa hd;exact⟨ht,rfl⟩
  .simp at hd
 |ni=>intro ds hd;obtain rfl:[]=ds:=by simpa[rC]using hd
      rfl
 |_=>intro ds hd;simp[rC]at hd
theorem Bb:∀(v:V),DR v=true->iw h v=true/\∀n,eV n h v:=by intro v;induction v with|co a r iha ihr=>intro hv;simp[DR]at hv;exact⟨by simp[iw,(iha hv.1).1,(ihr hv.2).1,Bool.and_self],fun n=>⟨(iha hv.1).2 n,(ihr hv.2).2 n⟩⟩|pt t v=>intro hv;exact⟨hv,fun _=>trivial⟩|ni=>intro _;exact⟨rfl,fun _=>trivial⟩|_=>intro hv;simp[DR]at hv
theorem LG(hr:HR n h1 h):∀(c:Sh)(v:V)(l:List V)(i:List Nat)(cs:List C),pj h c v=some (l,i)->ff h v cs->eV n h v->iw h v=true->
  ∃ds av,(∀k,yd c<=k->gf h1 k cs=some (ds,av))/\(∀r,rU c (l++r)=(ds,r))/\(∀j∈av,j∈i/\¬nk h j)/\(∀j∈i,j∈av\/nk h j)/\cs.length<=yd c:=by
 intro c;induction c with
 |x t=>
  intro v l i cs ha hv hk hal;simp only[pj]at ha;split at ha
  .rename_i w l' hw;split at ha
   .rename_i y hy;obtain⟨rfl,rfl⟩:=af (aa ha);obtain⟨ds,av,f1,f2,f3,f4,_⟩:=uj hr v w l' cs hw hv hk hal;have e3:=qi (iW w false t y _ hy f2);subst e3;have hl:cs.length=bU t:=by rw[<-vD f1,bH]
    exact⟨_,av,fun k hk=>zD (FO v w l' cs hw hv hal) f1 (by simp only[yd]at hk;omega),fun r=>rfl,f3,f4,by simp only[yd];omega⟩
   .simp at ha
  .simp at ha
 |pt t=>
  intro v l i cs ha hv hk hal;cases v with
  |pt u v=>
   simp only[pj]at ha;split at ha
   .rename_i y hy;obtain⟨rfl,rfl⟩:=af (aa ha);obtain⟨e,_⟩:=ym hy;obtain⟨_,rfl⟩:=hv;refine⟨[.pt (aR t y)],[],fun k hk=>?_,fun r=>rfl,fun j hj=>by simp at hj,fun j hj=>by simp at hj,by simp[yd]⟩;rw[<-e];exact ze (h1:=h1) [.pt (aR t y)] k (by simp only[yd]at hk;simp;omega)
   .simp at ha
  |op id u p=>
   cases p with
   |cons=>simp[pj]at ha
   |nil=>
    obtain rfl:=hv;have e0:oD u []=0:=by cases u<;>rfl
    rw[e0];simp only[pj]at ha;split at ha
    .rename_i w c ho;obtain⟨hc,ha⟩:=aJ ha;simp only[ak,decide_eq_true_eq]at hc;split at ha
     .rename_i c' l' hw;split at ha
      .rename_i y hy;obtain⟨rfl,rfl⟩:=af (aa ha);obtain⟨_,⟨cb,e1,e2,e3⟩,e4⟩:=hr.ob id _ ho;obtain⟨ds,av,f1,f2,f3,f4,_⟩:=uj hr c c' l' cb hw e2 e4 hc.2;have e5:=qi (iW c' false t y _ hy f2);subst e5;have hl:cb.length=bU t:=by rw[<-vD f1,bH]
       have hnil:¬nk h id:=by
        rintro(⟨u',v',e⟩|⟨u',ln',e⟩)
        .rcases e with e|e<;>rw[ho]at e<;>simp at e
        .rw [ho]at e;cases e
       refine⟨[.pt (aR t y)],id::av,fun k hk=>?_,fun r=>rfl,fun j hj=>?_,fun j hj=>?_,by simp[yd]⟩
       .simp only[yd]at hk;obtain⟨k,rfl⟩:∃k',k=k'+2:=⟨k-2,by omega⟩
        have hv:gf h1 k cb=some (aR t y,av):=zD (FO c c' l' cb hw e2 hc.2) f1 (by omega);simp_all[gf,dW,cY,if_true,eH,aV]
       .grind
       grind
      .simp at ha
     .simp at ha
    .rename_i w v ho;obtain⟨hc,ha⟩:=aJ ha;split at ha
     .rename_i y hy;obtain⟨rfl,rfl⟩:=af (aa ha);obtain⟨e,_⟩:=ym hy;obtain⟨_,⟨_,e1⟩,_⟩:=hr.ob id _ ho
      have hnil:¬nk h id:=by
       rintro(⟨u',v',e⟩|⟨u',ln',e⟩)
       .rcases e with e|e<;>rw[ho]at e<;>simp at e
       .rw [ho]at e;cases e
      refine⟨[.pt (aR t y)],[id],fun k hk=>?_,fun r=>rfl,fun j hj=>?_,fun j hj=>.inl hj,by simp[yd]⟩
      .simp only[yd]at hk;obtain⟨k,rfl⟩:∃k',k=k'+2:=⟨k-2,by omega⟩
       simp_all[gf,dW,cY,if_true,eH,aV]
      simp_all
     .simp at ha
    .simp at ha
  |ep id m u p=>
   cases p with
   |cons=>simp[pj]at ha
   |nil=>
    obtain rfl:=hv;have e0:oD u []=0:=by cases u<;>rfl
    rw[e0]
    have key:∀(w:Ty)(s:Sl (El w))(ver:Nat),(fO h id=some (.ar w s ver)\/fO h id=some (.im w s ver))->(bif decide (w=u)then(match gg w t (gt s.l m)with|some y=>some ([V.x t y],[id])|none=>none)else none)=some (l,i)->
      ∃ds av,(∀k,yd (.pt t)<=k->gf h1 k [.ep id m 0]=some (ds,av))/\(∀r,rU (.pt t) (l++r)=(ds,r))/\(∀j∈av,j∈i/\¬nk h j)/\(∀j∈i,j∈av\/nk h j)/\[C.ep id m 0].length<=yd (.pt t):=by
     intro w s ver ho ha;obtain⟨_,ha⟩:=aJ ha;split at ha
     .rename_i y hy;obtain⟨rfl,rfl⟩:=af (aa ha);obtain⟨e,_⟩:=ym hy;have hm:=hk.2.2.1 w s ver ho;cases s with
      |nil=>simp[Sl.l]at hm
      |mk q=>
       refine⟨[.pt (aR t y)],[id],fun k hk=>?_,fun r=>rfl,fun j hj=>?_,fun j hj=>.inl hj,by simp[yd]⟩
       .simp only[yd]at hk;obtain⟨k,rfl⟩:∃k',k=k'+1:=⟨k-1,by omega⟩
        have hg:(q.map (aR w))[m]?=some (aR w (gt q m)):=Dv hm;have e2:aR w (gt q m)=aR t y:=e.symm;rcases ho with ho|ho
        .have e1:=(hr.ob id _ ho).2.1.2.2 q rfl;simp_all[dW,aR,cY,if_true,eH,gf,aV]
        .have e1:=(hr.ob id _ ho).2.1.2.2 q rfl;simp_all[dW,aR,cY,if_true,eH,gf,aV]
       .obtain rfl:=aq.1 hj;exact⟨by simp,Ao ho⟩
     .simp at ha
    simp only[pj]at ha;split at ha
    .rename_i ho;exact key _ _ _ (.inl ho) ha
    .rename_i ho;exact key _ _ _ (.inr ho) ha
    .simp at ha
  |_=>simp[pj]at ha
 |nl k=>
  intro v l i cs ha hv hk hal;cases v with
  |nl k'=>
   simp only[pj]at ha;obtain⟨hc,ha2⟩:=aJ ha;obtain rfl:k=k':=by simpa using hc
   obtain⟨rfl,rfl⟩:=af (aa ha2);obtain rfl:=hv;refine⟨[Ri k],[],fun j hj=>?_,fun r=>rfl,fun j hj=>by simp at hj,fun j hj=>by simp at hj,by simp[yd]⟩;simp only[yd]at hj;obtain⟨j,rfl⟩:∃k',j=k'+1:=⟨j-1,by omega⟩
   grind [gf,SL,qD]
  |_=>simp[pj]at ha
 |fn f c ih=>
  intro v l i cs ha hv hk hal;cases v with
  |fn z f' q=>
   simp only[pj]at ha;obtain⟨hc,ha2⟩:=aJ ha;obtain rfl:f=f':=by simpa using hc
   cases z with
   |true=>
    obtain⟨ds0,hd,rfl⟩:=hv;have hal':DR q=true:=hal;obtain⟨a1,a2⟩:=Bb (h:=h) q hal';obtain⟨ds,av,g1,g2,g3,g4,g5⟩:=ih q l i (ds0.map .d) ha2 (Ox q ds0 hd) (a2 n) a1;have e:=g1 (yd c+ds0.length+1) (by omega);rw[ze ds0 _ (by omega)]at e;obtain⟨rfl,rfl⟩:=af (aa e);refine⟨[.fn f ds0],[],fun k hk=>?_,fun r=>?_,g3,g4,by simp[yd]⟩
    .simp only[yd]at hk;exact ze (h1:=h1) [.fn f ds0] k (by simp;omega)
    .simp only[rU,g2 r]
   |false=>
    obtain⟨xs,h2,rfl⟩:=hv;obtain⟨ds,av,g1,g2,g3,g4,g5⟩:=ih q l i xs ha2 h2 hk hal;refine⟨[.fn f ds],av,fun k hk=>?_,fun r=>?_,g3,g4,by simp[yd]⟩
    .simp only[yd]at hk;obtain⟨k,rfl⟩:∃k',k=k'+2:=⟨k-2,by omega⟩
     simp only[gf,dW,g1 k (by omega),aV]
    .simp only[rU,g2 r]
  |_=>simp[pj]at ha
 |pr a c iha ihc=>
  intro v l i cs ha hv hk hal;cases v with
  |co x r=>
   simp only[pj]at ha;split at ha
   .rename_i l1 i1 l2 i2 h2 h3;obtain⟨rfl,rfl⟩:=af (aa ha);obtain⟨cx,cr,rfl,h4,h5⟩:=hv;simp only[iw,ak]at hal;obtain⟨d1,j1,a1,a2,a3,a4,a5⟩:=iha x l1 i1 cx h2 h4 hk.1 hal.1;obtain⟨d2,j2,b1,b2,b3,b4,b5⟩:=ihc r l2 i2 cr h3 h5 hk.2 hal.2;refine⟨d1++d2,j1++j2,fun k hk=>?_,fun r=>?_,fun j hj=>?_,fun j hj=>?_,by simp[yd];omega⟩
    .grind [yd,CM]
    .simp only[rU,aM,a2,b2]
    .grind
    grind
   .simp at ha
  |_=>simp[pj]at ha
 |ni=>intro v l i cs ha hv hk hal;cases v with|ni=>obtain⟨rfl,rfl⟩:=af (aa ha);obtain rfl:=hv;exact⟨[],[],fun k _=>(by cases k<;>rfl),fun r=>rfl,fun j hj=>by simp at hj,fun j hj=>by simp at hj,by simp⟩|_=>simp[pj]at ha
 |_=>intro v l i cs ha;simp[pj]at ha
end
def qm:Sh->Nat
 |.x t=>bU t+1
 |.pb _ c=>qm c+2
 |.st c=>qm c
 |.pr a c=>qm a+qm c
 |.ni=>0
 |_=>1
section
variable{h:H2}{n:Nat}{h1:bp}
theorem wH(k:Nat)(x:D):dE h1 k (.d x)=some (.d x,[],[]):=by cases k<;>rfl
theorem uO(k:Nat):iU h1 k []=some ([],[],[]):=by cases k<;>rfl
theorem pI:∀(ds:List D)(k:Nat),ds.length<=k->iU h1 k (ds.map .d)=some (ds.map .d,[],[]):=by
 intro ds;induction ds with
 |nil=>intro k _;exact uO k
 |cons d ds ih=>intro k hk;cases k with|zero=>simp at hk|succ k=>grind [iU,wH]
theorem wG:∀{x y:List C}{tx ty:List T}{ox oy ix iy:List Nat}{k:Nat},iU h1 k x=some (tx,ox,ix)->iU h1 (k-x.length) y=some (ty,oy,iy)->x.length<=k->iU h1 k (x++y)=some (tx++ty,ox++oy,ix++iy):=by
 intro x;induction x with
 |nil=>intro y tx ty ox oy ix iy k hx hy _;rw[uO]at hx;simp_all
 |cons c x ih=>
  intro y tx ty ox oy ix iy k hx hy hk;cases k with
  |zero=>simp at hk
  |succ k=>
   simp[iU]at hx;split at hx
   .rename_i p a i q b j hp hq;obtain⟨rfl,e⟩:=af (aa hx);obtain⟨rfl,rfl⟩:=af e;simp only[bI,iU,hp];rw[ih hq (by simpa using hy) (by simpa using hk)];simp
   .simp at hx
theorem rJ{c:C}{t:T}{bk rd:List Nat}{k:Nat}(hc:dE h1 k c=some (t,bk,rd)):iU h1 (k+1) [c]=some ([t],bk,rd):=by simp[iU,hc]
theorem Xr{t:Ty}{id k:Nat}{q:List (Sl (El t))}(h:au h1 id=some (.nst (bU t) (fc t q none))):dE h1 k (nA 1 (aR (.sl t)) id (Sl.mk q:Sl (Sl (El t))))=some (.Bh (bU t) (q.map (Kf t)),[id],[id]):=by simp[nA,fc]at h|-;cases k<;>simp[dE,h,aD,and_self,if_true,J4]
theorem yq(hr:HR n h1 h):∀(c:Sh)(ln:Bool)(v:V)(l:List V)(i:List Nat)(cs:List C),du h c ln v=some (l,i)->ff h v cs->eV n h v->
  ∃ts bk rd,(∀k,qm c<=k->iU h1 k cs=some (ts,bk,rd))/\(∀r,fk c (l++r)=(ts,r))/\bk.Sublist i/\(∀j∈i,j∈bk\/nk h j)/\(∀j∈rd,j∈i)/\cs.length<=qm c/\(∀j∈i,j<n):=by
 intro c;induction c with
 |x t=>
  intro ln v l i cs ha hv hk;cases ln with
  |true=>simp[du]at ha
  |false=>
   simp only[du]at ha;split at ha
   .rename_i y hy;obtain⟨rfl,rfl⟩:=af (aa ha);have e:=iW v false t y cs hy hv;subst e;exact⟨_,[],[],fun k hk=>pI _ k (by rw[bH];simp only[qm]at hk;omega),fun r=>rfl,bT _,fun j hj=>by simp at hj,fun j hj=>hj,by simp[qm,bH],fun j hj=>by simp at hj⟩
   .simp at ha
 |os t=>
  intro ln v l i cs ha hv hk;cases ln with
  |true=>simp[du]at ha
  |false=>
   cases v with
   |so id=>
    simp only[du]at ha;split at ha
    .rename_i u s ver ho;split at ha
     .rename_i s' hs;obtain⟨rfl,rfl⟩:=af (aa ha);obtain⟨e,rfl⟩:=cH hs;cases e;obtain⟨c,rfl,hc⟩:=hv;rw[hc.1 _ (mV (.inl ho))];cases s with
      |nil=>exact⟨[.d (.lit (.slice none 0 0))],[],[],fun k hk=>pI [.lit (.slice none 0 0)] k (by simpa[qm]using hk),fun r=>rfl,iT _,fun j hj=>by obtain rfl:=aq.1 hj;exact .inr (.inl ⟨_,_,.inl ho⟩),fun j hj=>by simp at hj,by simp[qm],fun j hj=>by obtain rfl:=aq.1 hj;exact hk⟩
      |mk q=>
       have e1:=(hr.ob id _ ho).2.1.2.2 q rfl;refine⟨[.sl (bU t) (q.map (aR t))],[id],[id],fun k hk=>?_,fun r=>rfl,bT _,fun j hj=>.inl hj,fun j hj=>hj,by simp[qm],fun j hj=>by obtain rfl:=aq.1 hj;exact hk⟩;obtain⟨k,rfl⟩:∃k',k=k'+1:=⟨k-1,by simp only[qm]at hk;omega⟩
       exact rJ (Y0 e1)
     .simp at ha
    .simp at ha
   |nl k=>cases k with|zero=>obtain⟨rfl,rfl⟩:=af (aa ha);obtain rfl:=hv;exact⟨[.d (.lit (.slice none 0 0))],[],[],fun k hk=>pI [.lit (.slice none 0 0)] k (by simpa[qm]using hk),fun r=>rfl,bT _,fun j hj=>by simp at hj,fun j hj=>hj,by simp[qm],fun j hj=>by simp at hj⟩|succ k=>simp[du]at ha
   |_=>simp[du]at ha
 |rw t=>
  intro ln v l i cs ha hv hk;cases ln with
  |true=>simp[du]at ha
  |false=>
   cases v with
   |sr id=>
    simp only[du]at ha;split at ha
    .rename_i u s ho;split at ha
     .rename_i s' hs;obtain⟨rfl,rfl⟩:=af (aa ha);obtain⟨e,rfl⟩:=cH hs;cases e;obtain⟨c,rfl,hc⟩:=hv;rw[hc.1 _ (tT ho)];cases s with
      |nil=>exact⟨[.d (.lit (.slice none 0 0))],[],[],fun k hk=>pI [.lit (.slice none 0 0)] k (by simpa[qm]using hk),fun r=>rfl,iT _,fun j hj=>by obtain rfl:=aq.1 hj;exact .inr (.inr ⟨_,_,ho⟩),fun j hj=>by simp at hj,by simp[qm],fun j hj=>by obtain rfl:=aq.1 hj;exact hk⟩
      |mk q=>
       have e1:=(hr.ob id _ ho).2.1.2.2 q rfl;refine⟨[.Bh (bU t) (q.map (Kf t))],[id],[id],fun k hk=>?_,fun r=>rfl,bT _,fun j hj=>.inl hj,fun j hj=>hj,by simp[qm],fun j hj=>by obtain rfl:=aq.1 hj;exact hk⟩;obtain⟨k,rfl⟩:∃k',k=k'+1:=⟨k-1,by simp only[qm]at hk;omega⟩
       exact rJ (Xr e1)
     .simp at ha
    .simp at ha
   |nl k=>cases k with|zero=>obtain⟨rfl,rfl⟩:=af (aa ha);obtain rfl:=hv;exact⟨[.d (.lit (.slice none 0 0))],[],[],fun k hk=>pI [.lit (.slice none 0 0)] k (by simpa[qm]using hk),fun r=>rfl,bT _,fun j hj=>by simp at hj,fun j hj=>hj,by simp[qm],fun j hj=>by simp at hj⟩|succ k=>simp[du]at ha
   |_=>simp[du]at ha
 |mp kt vt=>
  intro ln v l i cs ha hv hk;cases ln with
  |true=>simp[du]at ha
  |false=>
   cases v with
   |om id=>
    simp only[du]at ha;split at ha
    .rename_i k' v' m ho;split at ha
     .rename_i m' hm;obtain⟨rfl,rfl⟩:=af (aa ha);obtain⟨e,rfl⟩:=cH hm;cases e;obtain rfl:=hv;have e1:=(hr.ob id _ ho).2.1.2.2;refine⟨[Ys kt vt m],[id],[id],fun k hk=>?_,fun r=>rfl,bT _,fun j hj=>.inl hj,fun j hj=>hj,by simp[qm],fun j hj=>by obtain rfl:=aq.1 hj;exact hk⟩;obtain⟨k,rfl⟩:∃k',k=k'+1:=⟨k-1,by simp only[qm]at hk;omega⟩
      have e2:dE h1 k (.om id)=some (Ys kt vt m,[id],[id]):=by cases k<;>simp only[dE,e1,Ar]<;>rfl
      exact rJ e2
     .simp at ha
    .simp at ha
   |_=>simp[du]at ha
 |pb t c ih=>
  intro ln v l i cs ha hv hk;cases ln with
  |true=>simp[du]at ha
  |false=>
   cases v with
   |op id u p=>
    cases p with
    |cons=>simp[du]at ha
    |nil=>
     simp only[du]at ha;split at ha
     .rename_i w q ho;obtain⟨hc,ha2⟩:=aJ ha;split at ha2
      .rename_i l' i' ha3;obtain⟨rfl,rfl⟩:=af (aa ha2);obtain rfl:=hv;have e0:oD u []=0:=by cases u<;>rfl
       rw[e0];obtain⟨_,⟨cb,e1,e2,e3⟩,e4⟩:=hr.ob id _ ho;obtain⟨ts,bk,rd,g1,g2,g3,g4,g5,g6,g7⟩:=ih false q l' i' cb ha3 e2 e4;refine⟨[.pt ts],id::bk,id::rd,fun k hk=>?_,fun r=>by simp only[fk,g2 r],g3.cons_cons _,fun j hj=>?_,fun j hj=>?_,by simp[qm],fun j hj=>?_⟩
       .obtain ⟨k,rfl⟩:∃k',k=k'+2:=⟨k-2,by simp only[qm]at hk;omega⟩
        grind [rJ,dE,qm]
       .grind
       .grind
       grind
      .simp at ha2
     .simp at ha
   |_=>simp[du]at ha
 |nl k=>
  intro ln v l i cs ha hv hk;cases ln with
  |true=>simp[du]at ha
  |false=>
   cases v with
   |nl k'=>
    simp only[du]at ha;obtain⟨hc,ha2⟩:=aJ ha;obtain rfl:k=k':=by simpa using hc
    obtain⟨rfl,rfl⟩:=af (aa ha2);obtain rfl:=hv;exact⟨[.d (Ri k)],[],[],fun j hj=>pI [Ri k] j (by simpa[qm]using hj),fun r=>rfl,bT _,fun j hj=>by simp at hj,fun j hj=>hj,by simp[qm],fun j hj=>by simp at hj⟩
   |_=>simp[du]at ha
 |st c ih=>
  intro ln v l i cs ha hv hk;cases ln with
  |true=>simp[du]at ha
  |false=>
   cases v with
   |rc q=>exact ih true q l i cs ha hv hk
   |x t v=>cases t with|st u=>obtain⟨hd,rfl⟩:=hv;exact ih true (JZ u v) l i _ ha (CS u v hd) (GI u v)|_=>simp[du]at ha
   |_=>simp[du]at ha
 |pr a c iha ihc=>
  intro ln v l i cs ha hv hk;cases ln with
  |false=>simp[du]at ha
  |true=>
   cases v with
   |co x r=>
    simp only[du]at ha;split at ha
    .rename_i l1 i1 l2 i2 h2 h3;obtain⟨rfl,rfl⟩:=af (aa ha);obtain⟨cx,cr,rfl,h4,h5⟩:=hv
     have hA:∃ts bk rd,(∀k,qm a<=k->iU h1 k cx=some (ts,bk,rd))/\(∀r,fk a (l1++r)=(ts,r))/\bk.Sublist i1/\(∀j∈i1,j∈bk\/nk h j)/\(∀j∈rd,j∈i1)/\cx.length<=qm a/\(∀j∈i1,j<n):=by
      split at h2
      .rename_i t u v;unfold SO at h2;split at h2
       .obtain ⟨rfl,rfl⟩:=af (aa h2);obtain⟨_,rfl⟩:=h4;exact⟨[.d (.lit (.slice none 0 0))],[],[],fun k hk=>pI [.lit (.slice none 0 0)] k (by simpa[qm]using hk),fun r=>rfl,bT _,fun j hj=>by simp at hj,fun j hj=>hj,by simp[qm,aR],fun j hj=>by simp at hj⟩
       .simp at h2
      .rename_i t id ver lo u r;unfold Xp at h2;split at h2
       .rename_i w s0 v0 ho;obtain⟨hv,h5⟩:=aJ h2;clear h2;obtain rfl:v0=ver:=by simpa using hv
        split at h5
        .rename_i s hs;obtain⟨rfl,rfl⟩:=af (aa h5);obtain⟨e,rfl⟩:=cH hs;cases e;obtain⟨c1,rfl,hc1⟩:=h4;have hal:Gr h id v0=true:=by simp[Gr,ho]
         rw[hc1.1 hal];obtain⟨hid,hcut⟩:=hk.1;obtain⟨hz,hm⟩:=(hcut _ _ _ (.inl ho)).2 rfl;cases r with
         |nil=>cases s0 with|mk=>exact hm.elim|nil=>exact⟨[.d (.lit (.slice none 0 0))],[],[],fun k hk=>pI [.lit (.slice none 0 0)] k (by simpa[qm]using hk),fun r=>rfl,iT _,fun j hj=>by obtain rfl:=aq.1 hj;exact .inr (.inl ⟨_,_,.inl ho⟩),fun j hj=>by simp at hj,by simp[qm],fun j hj=>by simp_all⟩
         |mk m=>
          cases s0 with
          |nil=>exact hm.elim
          |mk l0=>
           have hlk:=(hr.ob id _ ho).2.1.2.2 l0 rfl;refine⟨[.sl (bU t) (m.map (aR t))],[id],[id],fun k hk=>?_,fun r=>rfl,bT _,fun j hj=>.inl hj,fun j hj=>hj,by simp[qm],fun j hj=>by simp_all⟩;obtain⟨k,rfl⟩:∃k',k=k'+1:=⟨k-1,by simp only[qm]at hk;omega⟩
           refine rJ ?_;simp_all[dE,bU,aR,drop,if_pos,aD,zo]
        .simp at h5
       .simp at h2
      .exact iha false x l1 i1 cx h2 h4 hk.1
     obtain⟨t1,o1,r1,a1,a2,a3,a4,a5,a6,a7⟩:=hA;obtain⟨t2,o2,r2,b1,b2,b3,b4,b5,b6,b7⟩:=ihc true r l2 i2 cr h3 h5 hk.2;refine⟨t1++t2,o1++o2,r1++r2,fun k hk=>?_,fun r=>?_,a3.append b3,fun j hj=>?_,fun j hj=>?_,by simp[qm];omega,fun j hj=>?_⟩
     .grind [qm,wG]
     .simp only[fk,aM,a2,b2]
     .grind
     .grind
     grind
    .simp at ha
   |_=>simp[du]at ha
 |ni=>
  intro ln v l i cs ha hv hk;cases ln with
  |false=>cases v<;>simp[du]at ha
  |true=>cases v with|ni=>obtain⟨rfl,rfl⟩:=af (aa ha);obtain rfl:=hv;exact⟨[],[],[],fun k _=>uO k,fun r=>rfl,bT _,fun j hj=>by simp at hj,fun j hj=>hj,by simp,fun j hj=>by simp at hj⟩|_=>simp[du]at ha
 |_=>intro ln v l i cs ha;cases ln<;>simp[du]at ha
theorem GG:∀(a b:List T)(m:Nat),iH m (a++b)=((iH m a).1++(iH (iH m a).2.2 b).1,(iH m a).2.1++(iH (iH m a).2.2 b).2.1,(iH (iH m a).2.2 b).2.2):=by intro a;induction a with|nil=>simp[iH]|cons t a ih=>grind [iH,aM]
theorem uC(t:T)(m:Nat):iH m [t]=([(k9 m t).1],(k9 m t).2.1,(k9 m t).2.2):=by simp[iH]
theorem Uf:∀(ds:List D)(m:Nat),iH m (ds.map T.d)=(ds.map .d,[],m+ds.length):=by intro ds;induction ds with|nil=>intro m;rfl|cons d ds ih=>grind [iH,k9,List.length_cons]
theorem xX{a b:eW}(hd:∀p∈a,∀q∈b,p.1≠q.1)(i:Nat):au (a++b++h1) i=au (b++(a++h1)) i:=by rw[fH,fH,fH,<-dp,m9 hd]
structure Mk(s s':S2)(h1:bp)(u:eW):Prop where
 hr:HR s'.next (u++h1) s'.heap
 dR:jy s.next s.heap s'.heap
 cW:s'.cW=s.cW
 gh:s'.gh=s.gh
 le:s.next<=s'.next
 Dr:∀p∈u,s.next<=p.1/\p.1<s'.next
 wo:∃W,s'.wo=W++s.wo/\(∀p∈u,p.1∈W)/\(∀i∈W,s.next<=i/\i<s'.next)/\∀i,i∉W->fO s'.heap i=fO s.heap i
theorem Mk.skip{s:S2}{m:Nat}(hr:HR s.next h1 s.heap)(hm:s.next<=m):Mk s {s with next:=m} h1 []:=⟨hr.mono hm,jy.refl _ _,rfl,rfl,hm,fun p hp=>by simp at hp,[],rfl,fun p hp=>by simp at hp,fun i hi=>by simp at hi,fun _ _=>rfl⟩
theorem Mk.seq{s s1 s2:S2}{u1 u2:eW}(a:Mk s s1 h1 u1)(b:Mk s1 s2 (u1++h1) u2):Mk s s2 h1 (u1++u2):=by
 obtain⟨a3,a4,a5,a6,a7,a8,W,v1,v2,v3,v4⟩:=a;obtain⟨b3,b4,b5,b6,b7,b8,X,x1,x2,x3,x4⟩:=b;refine⟨?_,a4.trans a7 b4,b5.trans a5,b6.trans a6,by omega,fun p hp=>?_,X++W,by rw[x1,v1,aM],fun p hp=>?_,fun i hi=>?_,fun i hi=>?_⟩
 .exact b3.ext fun i=>xX (fun p hp q hq e=>by grind) i
 .grind
 .grind
 .grind
 simp_all
end
section
variable{h:H2}{n:Nat}
theorem jy.bx{id:Nat}{t:Ty}{c:V}:jy n h ((id,some (.bx t c))::h):=⟨fun i o hi ho=>by
 rw[cK]at ho;split at ho
 .obtain rfl:=aa ho;exact .inr rfl
 .exact .inl ⟨o,ho,tC.refl _⟩⟩
theorem Mk.one{s:S2}{h1:bp}{o:O}{b:Option Ob}{u:eW}(hr:HR s.next h1 s.heap)(hu:u=[(s.next,b)]\/(u=[]/\∀b',xx ((s.next,some o)::s.heap) o b'))(hb:u=[(s.next,b)]->xx ((s.next,some o)::s.heap) o b)
  (hko:D1 (s.next+1) ((s.next,some o)::s.heap) o):Mk s (jp s o) h1 u:=by
 have hd:=sd.new (v:=.no) (av:=[]) (l:=[]) hr hu hb hko rfl trivial (fun i hi=>by simp at hi) (am _);refine⟨hd.hr,hd.dR,rfl,rfl,bn _,fun p hp=>?_,[s.next],rfl,fun p hp=>?_,fun i hi=>?_,fun i hi=>?_⟩
 .rcases hu with rfl|⟨rfl,_⟩
  .obtain rfl:=aq.1 hp;exact⟨am _,aQ _⟩
  .simp at hp
 .grind
 .obtain rfl:=aq.1 hi;exact⟨am _,aQ _⟩
 .simp only[jp];rw[cK,if_neg fun e=>hi (by simp[e])]
theorem wR:∀(c:Sh)(ln:Bool)(l:List V)(s:S2)(w:V)(l':List V)(s':S2)(h1:bp),rF c ln l s=some (w,l',s')->HR s.next h1 s.heap->
  ff s'.heap w (iH s.next (fk c l).1).1/\eV s'.next s'.heap w/\Mk s s' h1 (iH s.next (fk c l).1).2.1/\s'.next=(iH s.next (fk c l).1).2.2/\l'=(fk c l).2/\(ln=false->u7 w=y_ c):=by
 intro c;induction c with
 |x t=>
  intro ln l s w l' s' h1 hm hr;cases ln with
  |true=>simp[rF]at hm
  |false=>match l with|.x u v::l=>simp only[rF]at hm;obtain⟨hc,hm2⟩:=aJ hm;simp only[ak,decide_eq_true_eq]at hc;obtain⟨rfl,hd⟩:=hc;obtain⟨rfl,e⟩:=af (aa hm2);obtain⟨rfl,rfl⟩:=af e;simp only[fk,Uf,bH];exact⟨⟨hd,rfl⟩,trivial,Mk.skip hr (Nat.le_add_right _ _),trivial,trivial,fun _=>rfl⟩|[]|.kb _::_|.nl _::_|.so _::_|.sr _::_|.sb _ _ _ _ _::_|.op _ _ _::_|.ep _ _ _ _::_|.pt _ _::_|.fn _ _ _::_|.om _::_|.rc _::_|.tp _::_|.ni::_|.co _ _::_|.fl _::_|.no::_|.gn::_=>simp[rF]at hm
 |os t=>
  intro ln l s w l' s' h1 hm hr;cases ln with
  |true=>simp[rF]at hm
  |false=>
   match l with
   |.x (.sl u) v::l=>
    simp only[rF]at hm;obtain⟨hc,hm2⟩:=aJ hm;simp only[ak,decide_eq_true_eq]at hc;obtain⟨rfl,hd⟩:=hc;obtain⟨d1,d2⟩:=qX hd;obtain⟨rfl,e⟩:=af (aa hm2);obtain⟨rfl,rfl⟩:=af e;simp only[fk,uC];have hv:ff (jp s (.ar u v 0)).heap (.so s.next) [nA (bU u) (aR u) s.next v]:=⟨_,rfl,fun c' hc'=>by simp only[jp,uT]at hc';exact aa hc',CX⟩
    cases v with|nil=>exact⟨hv,aQ _,Mk.one (b:=none) hr (.inr ⟨rfl,fun b'=>⟨d1,d2,fun l e=>by cases e⟩⟩) (fun e=>by cases e) trivial,by first|rfl|trivial,by first|rfl|trivial,fun _=>rfl⟩|mk q=>exact⟨hv,aQ _,Mk.one (b:=some (.aG (bU u) (q.map (aR u)))) hr (.inl rfl) (fun _=>⟨d1,d2,fun l e=>by cases e;rfl⟩) trivial,by first|rfl|trivial,by first|rfl|trivial,fun _=>rfl⟩
   |[]|.kb _::_|.nl _::_|.so _::_|.sr _::_|.sb _ _ _ _ _::_|.op _ _ _::_|.ep _ _ _ _::_|.pt _ _::_|.fn _ _ _::_|.om _::_|.rc _::_|.tp _::_|.ni::_|.co _ _::_|.fl _::_|.no::_|.gn::_=>simp[rF]at hm
   |.x (.i _) _::_|.x .b _::_|.x .s _::_|.x (.f _) _::_|.x (.mp _ _) _::_|.x .un _::_|.x (.pr _ _) _::_|.x (.st _) _::_|.x (.ar _ _) _::_|.x (.o _) _::_=>simp[rF]at hm
 |rw t=>
  intro ln l s w l' s' h1 hm hr;cases ln with
  |true=>simp[rF]at hm
  |false=>
   match l with
   |.x (.sl (.sl u)) v::l=>
    simp only[rF]at hm;obtain⟨hc,hm2⟩:=aJ hm;simp only[ak,decide_eq_true_eq]at hc;obtain⟨rfl,hd⟩:=hc;obtain⟨d1,d2⟩:=qX hd;obtain⟨rfl,e⟩:=af (aa hm2);obtain⟨rfl,rfl⟩:=af e;simp only[fk,uC];have hv:ff (jp s (.rw u v none)).heap (.sr s.next) [nA 1 (aR (.sl u)) s.next (v:Sl (Sl (El u)))]:=⟨_,rfl,fun c' hc'=>by simp only[jp,uT]at hc';exact aa hc',CX⟩
    cases v with
    |nil=>exact⟨hv,aQ _,Mk.one (b:=none) hr (.inr ⟨rfl,fun b'=>⟨d1,d2,fun l e=>by cases e⟩⟩) (fun e=>by cases e) trivial,by first|rfl|trivial,by first|rfl|trivial,fun _=>rfl⟩
    |mk q=>
     have e1:(k9 s.next (zQ u (.mk q))).1=nA 1 (aR (.sl u)) s.next (Sl.mk q:Sl (Sl (El u))):=by simp[zQ,k9,nA]
     have e2:(k9 s.next (zQ u (.mk q))).2.1=[(s.next,some (.nst (bU u) (fc u q none)))]:=by simp only[zQ,k9,zS,fc]
     rw[e1,e2];exact⟨hv,aQ _,Mk.one (b:=some (.nst (bU u) (fc u q none))) hr (.inl rfl) (fun _=>⟨d1,d2,fun l e=>by cases e;rfl⟩) trivial,by first|rfl|trivial,by first|rfl|trivial,fun _=>rfl⟩
   |[]|.kb _::_|.nl _::_|.so _::_|.sr _::_|.sb _ _ _ _ _::_|.op _ _ _::_|.ep _ _ _ _::_|.pt _ _::_|.fn _ _ _::_|.om _::_|.rc _::_|.tp _::_|.ni::_|.co _ _::_|.fl _::_|.no::_|.gn::_=>simp[rF]at hm
   |.x (.sl (.i _)) _::_|.x (.sl .b) _::_|.x (.sl .s) _::_|.x (.sl (.f _)) _::_|.x (.sl (.mp _ _)) _::_|.x (.sl .un) _::_|.x (.sl (.pr _ _)) _::_|.x (.sl (.st _)) _::_|.x (.sl (.ar _ _)) _::_|.x (.sl (.o _)) _::_|.x (.i _) _::_|.x .b _::_|.x .s _::_|.x (.f _) _::_|.x (.mp _ _) _::_|.x .un _::_|.x (.pr _ _) _::_|.x (.st _) _::_|.x (.ar _ _) _::_|.x (.o _) _::_=>simp[rF]at hm
 |mp kt vt=>
  intro ln l s w l' s' h1 hm hr;cases ln with
  |true=>simp[rF]at hm
  |false=>match l with|.x (.mp k' v') m::l=>simp only[rF]at hm;obtain⟨hc,hm2⟩:=aJ hm;simp only[ak,decide_eq_true_eq]at hc;obtain⟨⟨⟨rfl,rfl⟩,hd⟩,hk⟩:=hc;obtain⟨ks,hks⟩:=Option.isSome_iff_exists.1 hk;obtain⟨rfl,e⟩:=af (aa hm2);obtain⟨rfl,rfl⟩:=af e;simp only[fk,uC];exact⟨rfl,aQ _,Mk.one hr (.inl rfl) (fun _=>⟨hd,⟨ks,hks⟩,rfl⟩) trivial,by first|rfl|trivial,by first|rfl|trivial,fun _=>rfl⟩|[]|.kb _::_|.nl _::_|.so _::_|.sr _::_|.sb _ _ _ _ _::_|.op _ _ _::_|.ep _ _ _ _::_|.pt _ _::_|.fn _ _ _::_|.om _::_|.rc _::_|.tp _::_|.ni::_|.co _ _::_|.fl _::_|.no::_|.gn::_=>simp[rF]at hm|.x (.i _) _::_|.x .b _::_|.x .s _::_|.x (.f _) _::_|.x (.sl _) _::_|.x .un _::_|.x (.pr _ _) _::_|.x (.st _) _::_|.x (.ar _ _) _::_|.x (.o _) _::_=>simp[rF]at hm
 |pb t c ih=>
  intro ln l s w l' s' h1 hm hr;cases ln with
  |true=>simp[rF]at hm
  |false=>
   simp only[rF]at hm;split at hm
   .rename_i w0 l0 s2 hm0;obtain⟨hf,hm2⟩:=aJ hm;obtain⟨rfl,e⟩:=af (aa hm2);obtain⟨rfl,rfl⟩:=af e;obtain⟨q1,q2,q3,q4,q5,_⟩:=ih false l {s with next:=s.next+1} w0 l0 s2 h1 hm0 (hr.mono (bn _));simp only[fk,uC,k9];obtain⟨a3,a4,a5,a6,a7,a8,W,v1,v2,v3,v4⟩:=q3;simp only at a4 a5 a6 a7 a8 v1 v3 v4;have hlt:s.next<s2.next:=by omega
    have hin:=v4;refine⟨?_,⟨hlt,by cases t<;>trivial⟩,⟨?_,?_,a5,a6,by show s.next<=s2.next;omega,fun p hp=>?_,s.next::W,by simp only[dT,v1];rfl,fun p hp=>?_,fun i hi=>?_,fun i hi=>?_⟩,q4,q5,fun _=>rfl⟩
    .show [_]=[_]
     have e0:oD t []=0:=by cases t<;>rfl
     rw[e0]
    .refine HR.CN (u:=[(s.next,some (.box _))]) a3 (am _) hlt jy.bx (fun i hi=>?_) fun o' ho'=>?_
     .rw [a_,dg,if_neg fun e=>hi e.symm]
     .obtain rfl:=aa ho';refine⟨?_,gI (am _) jy.bx q2⟩;rw[a_,dg,if_pos rfl];exact⟨_,rfl,lX jy.bx q2 q1,hf⟩
    .exact jy.trans (n':=s2.next) (by omega) (⟨fun i o hi ho=>a4.ob i o (by omega) ho⟩:jy s.next s.heap s2.heap) jy.bx
    .simp only[dT];rcases aW.1 hp with rfl|hp
     .exact ⟨am _,hlt⟩
     .have:=a8 p hp;omega
    .rcases aW.1 hp with rfl|hp
     .simp
     .exact List.mem_cons_of_mem _ (v2 p hp)
    .simp only[dT];rcases aW.1 hi with rfl|hi
     .exact ⟨am _,hlt⟩
     .have:=v3 i hi;omega
    .simp only[dT];rw[cK,if_neg fun e=>hi (by simp[e]),hin i fun q=>hi (by simp[q])]
   .simp at hm
 |nl k=>intro ln l s w l' s' h1 hm hr;cases ln with|true=>simp[rF]at hm|false=>simp only[rF]at hm;obtain⟨rfl,e⟩:=af (aa hm);obtain⟨rfl,rfl⟩:=af e;simp only[fk,uC,k9];exact⟨rfl,trivial,Mk.skip hr (bn _),by first|rfl|trivial,by first|rfl|trivial,fun _=>rfl⟩
 |st c ih=>
  intro ln l s w l' s' h1 hm hr;cases ln with
  |true=>simp[rF]at hm
  |false=>
   simp only[rF]at hm;split at hm
   .rename_i w0 l0 s2 hm0;obtain⟨rfl,e⟩:=af (aa hm);obtain⟨rfl,rfl⟩:=af e;obtain⟨q1,q2,q3,q4,q5,_⟩:=ih true l s w0 l0 s2 h1 hm0 hr;exact⟨q1,q2,q3,q4,q5,fun _=>rfl⟩
   .simp at hm
 |pr a c iha ihc=>
  intro ln l s w l' s' h1 hm hr;cases ln with
  |false=>simp[rF]at hm
  |true=>
   simp only[rF]at hm;split at hm
   .rename_i x l1 s1 hm1;split at hm
    .rename_i r l2 s2 hm2;obtain⟨rfl,e⟩:=af (aa hm);obtain⟨rfl,rfl⟩:=af e;obtain⟨q1,q2,q3,q4,q5,_⟩:=iha false l s x l1 s1 h1 hm1 hr;subst q5;obtain⟨p1,p2,p3,p4,p5,_⟩:=ihc true _ s1 r l2 s2 _ hm2 q3.hr;subst p5;simp only[fk,GG];rw[q4]at p1 p3 p4;exact⟨⟨_,_,rfl,lX p3.dR q2 q1,p1⟩,⟨gI p3.le p3.dR q2,p2⟩,Mk.seq q3 p3,p4,by first|rfl|trivial,fun e=>by cases e⟩
    .simp at hm
   .simp at hm
 |ni=>intro ln l s w l' s' h1 hm hr;cases ln with|false=>simp[rF]at hm|true=>simp only[rF]at hm;obtain⟨rfl,e⟩:=af (aa hm);obtain⟨rfl,rfl⟩:=af e;exact⟨rfl,trivial,Mk.skip hr (am _),rfl,rfl,fun e=>by cases e⟩
 |_=>intro ln l s w l' s' h1 hm;cases ln<;>simp[rF]at hm
end
def P4:List (Bool×Sh)->List Bool->Bool
 |[],_=>true
 |(b,_)::r,ms=>decide (ms.headD false=b)&&P4 r ms.tail
def wU:Sh->Bool
 |.os _|.rw _|.pb _ _|.nl _=>true
 |_=>false
def De:Sh->Bool
 |.x t=>bU t==1
 |.os _|.rw _|.pb _ _|.nl _|.pt _|.fn _ _=>true
 |_=>false
def C_:List (Bool×Sh)->Bool
 |[]=>true
 |(b,c)::r=>(bif b then wU c&&Nat.ble (qm c) 300 else(y_ c||De c)&&Nat.ble (yd c) 300)&&C_ r
section
variable{h:H2}{n:Nat}{h1:bp}
def RI(h:H2)(n:Nat)(h1:bp)(p:V×List Nat)(q:C×List Nat×List Nat):Prop:=
 ff h p.1 [q.1]/\eV n h p.1/\(∃t,dE h1 300 q.1=some (t,q.2.1,q.2.2))/\q.2.1.Sublist p.2/\(∀j∈p.2,j∈q.2.1\/nk h j)/\(∀j∈q.2.2,j∈p.2)/\(∀j∈p.2,j<n)/\
  match p.1 with|.so id=>p.2=[id]/\∃u s ver,fO h id=some (.ar u s ver)|.sr id=>p.2=[id]/\∃u s,fO h id=some (.rw u s none)|.op id _ _=>id∈p.2/\¬nk h id|.nl _=>True|_=>False
def yQ(h:H2)(n:Nat)(h1:bp):List (V×List Nat)->List (C×List Nat×List Nat)->Prop
 |[],l=>l=[]
 |p::r,l=>∃q m,l=q::m/\RI h n h1 p q/\yQ h n h1 r m
theorem NU{v w:V}{l:List Nat}(hf:jI h v=some (w,l)):u7 v=u7 w:=by
 cases v with
 |so id=>
  simp[jI]at hf;split at hf
  .obtain ⟨rfl,_⟩:=af (aa hf);rfl
  .simp at hf
 |sr id=>
  simp[jI]at hf;split at hf
  .obtain ⟨rfl,_⟩:=af (aa hf);rfl
  .simp at hf
 |sb id ver lo t r=>obtain⟨rfl,_⟩:=af (aa hf);rfl
 |rc l=>
  simp[jI]at hf;split at hf
  .obtain ⟨rfl,_⟩:=af (aa hf);rfl
  .simp at hf
 |co a r=>
  simp[jI]at hf;split at hf
  .obtain ⟨rfl,_⟩:=af (aa hf);rfl
  .simp at hf
 |fn z f l=>cases z<;>simp[jI]at hf;rw[<-hf.1]
 |_=>grind [jI]
theorem Nv{c:Sh}{v:V}{l:List V}{i:List Nat}{x:TV}(hr:HR n h1 h)(hl:wU c=true)(hf:qm c<=300)(ha:du h c false v=some (l,i))(hx:fC h v x)(hk:eV n h v):
  ∃cc t bk rd,x=.c cc/\dE h1 300 cc=some (t,bk,rd)/\(∀r,fk c (l++r)=([t],r))/\RI h n h1 (v,i) (cc,bk,rd):=by
 have hp:PQ v/\u7 v=false:=by
  cases c<;>simp[wU]at hl
  all_goals(cases v<;>first|exact⟨trivial,rfl⟩|(simp[du]at ha;done))
 obtain⟨cc,rfl,hc⟩:=iY (pq hp.1 hx) hp.2;obtain⟨ts,bk,rd,g1,g2,g3,g4,g5,g6,g7⟩:=yq hr c false v l i [cc] ha hc hk;have e:=g1 301 (by omega);simp only[iU,uO]at e;split at e
 .rename_i t a b x' b' j hp1 hp2;obtain⟨rfl,e2⟩:=af (aa hp2);obtain⟨rfl,rfl⟩:=af e2;clear e2;clear hp2;obtain⟨rfl,e3⟩:=af (aa e);obtain⟨rfl,rfl⟩:=af e3;refine⟨cc,t,_,_,rfl,by simpa using hp1,g2,hc,hk,⟨t,by simpa using hp1⟩,g3,g4,g5,g7,?_⟩;cases v with
  |so id=>
   cases c with
   |os t=>
    simp only[du]at ha
    grind
   |_=>simp[du,iK,wU]at ha hl
  |sr id=>
   cases c with
   |rw t=>
    simp only[du]at ha
    grind
   |_=>simp[du,iK,wU]at ha hl
  |op id u p=>
   cases c with
   |pb t c=>
    cases p with
    |cons=>simp[du]at ha
    |nil=>
     simp only[du]at ha;split at ha
     .rename_i w q ho;obtain⟨_,ha2⟩:=aJ ha;split at ha2
      .obtain ⟨_,rfl⟩:=af (aa ha2);refine⟨by simp,?_⟩;rintro(⟨u',v',e⟩|⟨u',ln',e⟩)
       .rcases e with e|e<;>rw[ho]at e<;>simp at e
       .rw [ho]at e;cases e
      .simp at ha2
     .simp at ha
   |_=>simp[du,iK,wU]at ha hl
  |nl k=>trivial
  |_=>(cases c<;>simp[wU]at hl<;>simp[du]at ha)
 .simp at e
theorem Gp(hr:HR n h1 h):∀(ps:List (Bool×Sh))(vs:List V)(ms:List Bool)(m:List V)(j:List Nat)(q:List (V×List Nat))(xs:List TV),wd h ps vs=some (m,j,q)->mS h vs xs->(∀w∈vs,eV n h w)->(∀w∈vs,iw h w=true)->P4 ps ms=true->C_ ps=true->
  ∃av lent,gm h1 xs ms=some (gR ps m,av,lent)/\(∀i∈av,i∈j/\¬nk h i)/\(∀i∈j,i∈av\/nk h i)/\yQ h n h1 q lent:=by
 intro ps;induction ps with
 |nil=>intro vs ms m j q xs ha hx hk hal hm hp;cases vs with|cons=>simp[wd]at ha|nil=>obtain⟨rfl,e⟩:=af (aa ha);obtain⟨rfl,rfl⟩:=af e;obtain rfl:=lc hx;exact⟨[],[],rfl,fun i hi=>by simp at hi,fun i hi=>by simp at hi,rfl⟩
 |cons p ps ih=>
  obtain⟨b,c⟩:=p;intro vs ms m j q xs ha hx hk hal hm hp;cases vs with
  |nil=>simp[wd]at ha
  |cons v vs=>
   obtain⟨x,ys,rfl,hx1,hx2⟩:=fX hx;simp only[P4,ak,decide_eq_true_eq]at hm;simp only[C_,ak]at hp;simp only[wd]at ha;split at ha
   .rename_i m' j' q' hrest;obtain⟨av,lent,e1,e2,e3,e4⟩:=ih vs ms.tail m' j' q' ys hrest hx2 (fun w hw=>hk w (by simp[hw])) (fun w hw=>hal w (by simp[hw])) hm.2 hp.2;cases b with
    |true=>
     simp only[cond_true]at ha;split at ha
     .rename_i l i ha2;obtain⟨rfl,e⟩:=af (aa ha);obtain⟨rfl,rfl⟩:=af e;have hp1:=hp.1;simp only[cond_true,ak,Nat.ble_eq]at hp1;obtain⟨cc,t,bk,rd,rfl,f1,f2,f3⟩:=Nv hr hp1.1 hp1.2 ha2 hx1 (hk v (by simp));refine⟨av,(cc,bk,rd)::lent,?_,e2,e3,⟨_,_,rfl,f3,e4⟩⟩
      grind [Vb,gR,cF]
     .simp at ha
    |false=>
     simp only[cond_false]at ha;split at ha
     .rename_i l i ha2;obtain⟨rfl,e⟩:=af (aa ha);obtain⟨rfl,rfl⟩:=af e;have hp1:=hp.1;simp only[cond_false,ak,Nat.ble_eq,Bool.or_eq_true]at hp1;have hpl:PQ v:=by cases v<;>first|trivial|(cases c<;>simp[pj,jI]at ha2)
      cases hs:y_ c with
      |true=>
       cases c with
       |x t=>
        simp only[pj]at ha2;split at ha2
        .rename_i w l' hw;split at ha2
         .rename_i y hy;obtain⟨rfl,rfl⟩:=af (aa ha2);obtain⟨cs,hc,h3,h4⟩:=pq hpl hx1;obtain⟨ds,is,f1,f2,f3,f4,_⟩:=uj hr v w l' cs hw hc (hk v (by simp)) (hal v (by simp));have e5:=qi (iW w false t y _ hy f2);subst e5;refine⟨is++av,lent,?_,fun k hk=>?_,fun k hk=>?_,e4⟩
          .rw [h3 (((NU hw).trans (yi hy)).trans hs),Tq f1 hm.1 e1];simp only[gR,hs,cond_true];rfl
          .grind
          grind
         .simp at ha2
        .simp at ha2
       |st c=>simp[pj]at ha2
       |_=>simp[y_]at hs
      |false=>
       have hag:u7 v=false:=by
        cases c with
        |x t=>
         simp only[pj]at ha2;split at ha2
         .rename_i w l' hw;split at ha2
          .rename_i y hy;exact((NU hw).trans (yi hy)).trans hs
          .simp at ha2
         .simp at ha2
        |_=>cases v<;>first|rfl|(simp[pj]at ha2;done)|(simp[y_]at hs;done)|(simp[De,y_]at hp1;done)
       obtain⟨cs,hc,h3,h4⟩:=pq hpl hx1;obtain⟨ds,is,g1,g2,g3,g4,g5⟩:=LG hr c v l i cs ha2 hc (hk v (by simp)) (hal v (by simp));refine⟨is++av,lent,?_,fun k hk=>?_,fun k hk=>?_,e4⟩
       .obtain ⟨cc,rfl,rfl⟩:=h4 hag;have e:=g1 301 (by omega);have en:gf h1 300 []=some ([],[]):=rfl;simp only[gf,en]at e;split at e
        .rename_i d a xs' b' hv1 hv2;obtain⟨rfl,rfl⟩:=af (aa hv2);clear hv2;obtain⟨rfl,rfl⟩:=af (aa e);rw[YH hv1 hm.1 e1];simp_all[gR,cond_false,cF,aV]
        .simp at e
       .grind
       grind
     .simp at ha
   .simp at ha
end
section
variable{h:H2}{n:Nat}{h1:bp}
structure Bk(s s':S2)(h1:bp)(I:List Nat)(u:eW):Prop where
 hr:HR s'.next (u++h1) s'.heap
 dR:jy s.next s.heap s'.heap
 cW:s'.cW=s.cW
 gh:s'.gh=s.gh
 le:s.next<=s'.next
 Dr:∀p∈u,p.1∈I\/(s.next<=p.1/\p.1<s'.next)
 nb:∀i,i<s.next->fO s.heap i=none->fO s'.heap i=none
 wo:∃W,s'.wo=W++s.wo/\(∀p∈u,p.1∈W)/\∀i,i∉W->fO s'.heap i=fO s.heap i
theorem Bk.refl{s:S2}(hr:HR s.next h1 s.heap):Bk s s h1 [] []:=⟨hr,jy.refl _ _,rfl,rfl,am _,fun p hp=>by simp at hp,fun _ _ h=>h,[],rfl,fun p hp=>by simp at hp,fun _ _=>rfl⟩
theorem Bk.seq{s s1 s2:S2}{I J:List Nat}{u1 u2:eW}(a:Bk s s1 h1 I u1)(b:Bk s1 s2 (u1++h1) J u2)(hd:∀i∈I,i∉J)(hI:∀i∈I,i<s.next)(hJ:∀j∈J,j<s.next):Bk s s2 h1 (I++J) (u1++u2):=by
 obtain⟨a3,a4,a5,a6,a7,a8,a9,W,v1,v2,v4⟩:=a;obtain⟨b3,b4,b5,b6,b7,b8,b9,X,x1,x2,x4⟩:=b;refine⟨b3.ext fun i=>xX (fun p hp q hq e=>?_) i,a4.trans a7 b4,b5.trans a5,b6.trans a6,by omega,fun p hp=>?_,fun i hi h=>b9 i (by omega) (a9 i hi h),X++W,by rw[x1,v1,aM],fun p hp=>?_,fun i hi=>?_⟩
 .rcases a8 p hp with h2|h2<;>rcases b8 q hq with h3|h3
  .exact hd _ h2 (e▸h3)
  .have:=hI _ h2;omega
  .have:=hJ _ h3;omega
  .omega
 .grind
 .grind
 simp_all
theorem pL:∀(i:List Nat)(s:S2),(jt i s).cW=s.cW/\(jt i s).next=s.next/\(jt i s).gh=s.gh/\(jt i s).wo=i++s.wo/\∀j,fO (jt i s).heap j=if j∈i then none else fO s.heap j:=by
 intro i;induction i with
 |nil=>intro s;exact⟨rfl,rfl,rfl,rfl,fun j=>by simp[jt]⟩
 |cons a i ih=>
  intro s;obtain⟨h1,h2,h3,h4,h5⟩:=ih s;simp[jt,dT,cK]
  grind
theorem jy.sub{g:H2}(hs:∀i o,fO g i=some o->fO h i=some o):jy n h g:=⟨fun i o _ ho=>.inl ⟨o,hs i o ho,tC.refl _⟩⟩
theorem HR.sub{g:H2}(hr:HR n h1 h)(hs:∀i o,fO g i=some o->fO h i=some o):HR n h1 g:=⟨fun i o ho=>let⟨a,b,c⟩:=hr.ob i o (hs i o ho);⟨a,qg (jy.sub hs) c b,oY (am _) (jy.sub hs) c⟩⟩
theorem AA{i:List Nat}{s:S2}:∀j o,fO (jt i s).heap j=some o->fO s.heap j=some o:=by
 grind [pL]
theorem Ci{bk:List Nat}{j:Nat}(hj:j∉bk):au (bk.map (fun i=>(i,(none:Option Ob)))++h1) j=au h1 j:=
 xY fun p hp e=>by
  grind
theorem Bk.mC{s:S2}{i bk:List Nat}(hr:HR s.next h1 s.heap)(ho:∀j∈bk,j∈i):Bk s (jt i s) h1 i (bk.map fun j=>(j,none)):=by
 obtain⟨k1,k2,k3,k4,k5⟩:=pL i s;refine⟨⟨fun j o hj=>?_⟩,jy.sub AA,k1,k3,by omega,fun p hp=>?_,fun j _ h=>by rw[k5];split<;>first|rfl|exact h,i,k4,fun p hp=>?_,fun j hj=>by rw[k5,if_neg hj]⟩
 .obtain ⟨a,b,c⟩:=(hr.sub AA).ob j o hj;refine⟨by omega,?_,by rw[k2];exact c⟩;have:j∉i:=fun hm=>by rw[k5,if_pos hm]at hj;simp at hj
  rw[Ci fun hm=>this (ho j hm)];exact b
 .grind
 grind
theorem uQ{α:Type}{a b:Sl α}{u:Unit}(hl:kE a b=some u):a.fA=b.fA/\a.l.length=b.l.length:=by
 cases a<;>cases b<;>simp[kE]at hl
 .exact ⟨rfl,rfl⟩
 .exact ⟨rfl,Ch.1 hl⟩
theorem ul{c:C}{rd:List Nat}{x:D}{r:List (C×List Nat×List Nat)}{ts:List T}{m:Nat}:dC m ((c,[],rd)::r) (.d x::ts)=dC m r ts:=by simp[dC]
theorem Af{x:D}{t:T}{bk rd:List Nat}(hp:dE h1 300 (.d x)=some (t,bk,rd)):bk=[]:=by rw[wH]at hp;simp_all
theorem Nh{q:List (V×List Nat)}{v:V}{i:List Nat}(hn:(md (fun(p:V×List Nat)=>p.2) ((v,i)::q)).Nodup):(∀j∈i,j∉md (fun(p:V×List Nat)=>p.2) q)/\(md (fun(p:V×List Nat)=>p.2) q).Nodup:=by
 grind
theorem yQ.lt:∀{q:List (V×List Nat)}{lent:List (C×List Nat×List Nat)},yQ h n h1 q lent->∀j∈md (fun(p:V×List Nat)=>p.2) q,j<n:=by
 intro q;induction q with
 |nil=>intro lent _ j hj;simp at hj
 |cons p q ih=>
  rintro lent ⟨x,m,rfl,hx,hm⟩ j hj;simp only[List.flatMap_cons,aC]at hj;rcases hj with hj|hj
  .exact hx.2.2.2.2.2.2.1 j hj
  .exact ih hm j hj
theorem OJ{szi m id len k:Nat}{rows:List (Option (List (List D)))}{rd:List Nat}{r:List (C×List Nat×List Nat)}{ts:List T}{w:eW}(hl:rows.length=len)(hr:dC m r ts=some (w,k)):
  dC m ((.fx 1 id 0 len,[id],rd)::r) (.Bh szi rows::ts)=some ((id,some (.nst szi (rows.map ny)))::w,k):=by
 simp[dC,hl,hr,and_self,if_true]
theorem A8{β:Type}{z:β}(hr0:HR n h1 h):∀(os:List Sh)(q:List (V×List Nat))(lent:List (C×List Nat×List Nat))(l:List V)(s:S2)(H:bp)(k:S2->Option β),ei os q l s k=some z->yQ h n h1 q lent->n<=s.next->HR s.next H s.heap->jy n h s.heap->
  (md (fun(p:V×List Nat)=>p.2) q).Nodup->∃s1 bu,k s1=some z/\dC s.next lent (kV os l)=some (bu,s1.next)/\Bk s s1 H (md (fun(p:V×List Nat)=>p.2) q) bu:=by
 intro os;induction os with
 |nil=>
  intro q lent l s H k hb hl hn hr dR hnd;cases q with
  |cons p q=>simp[ei]at hb
  |nil=>cases l with|cons=>simp[ei]at hb|nil=>obtain rfl:lent=[]:=hl;exact⟨s,[],hb,rfl,Bk.refl hr⟩
 |cons o os ih=>
  intro q lent l s H k hb hl hn hr dR hnd;cases q with
  |nil=>cases o<;>simp[ei]at hb
  |cons p q=>
   obtain⟨v,i⟩:=p;obtain⟨⟨c,bk,rd⟩,m,rfl,⟨hc,hkv,⟨tp,hpk⟩,hsub,hcov,hrd,hlt,hsh⟩,hl2⟩:=hl;obtain⟨hd,hnd2⟩:=Nh hnd;have hI:∀j∈i,j<s.next:=fun j hj=>by have:j<n:=hlt j hj;omega
   have hJ:∀j∈md (fun(p:V×List Nat)=>p.2) q,j<s.next:=fun j hj=>by have:=hl2.lt j hj;omega
   cases o with
   |nl kk=>cases i with|cons=>simp[ei]at hb|nil=>simp only[ei]at hb;obtain⟨s1,bu,e1,e2,e3⟩:=ih q m l s H k hb hl2 hn hr dR hnd2;have:bk=[]:=List.sublist_nil.1 hsub;subst this;exact⟨s1,bu,e1,by simp only[kV,fk,cF,ul];exact e2,by simpa using e3⟩
   |gn=>simp only[ei]at hb;obtain⟨k1,k2,k3,k4,k5⟩:=pL i s;have b1:Bk s (jt i s) H i (bk.map fun j=>(j,none)):=Bk.mC hr fun j hj=>hsub.subset hj;obtain⟨s1,bu,e1,e2,e3⟩:=ih q m l (jt i s) _ k hb hl2 (by omega) b1.hr (dR.trans hn b1.dR) hnd2;rw[k2]at e2;exact⟨s1,_,e1,by simp only[kV,fk,cF];exact LD e2,by simpa using b1.seq e3 hd hI hJ⟩
   |os t=>
    cases v with
    |nl kk=>
     cases kk with
     |succ=>cases l with|nil=>simp[ei]at hb|cons w l=>cases w<;>simp[ei]at hb
     |zero=>
      cases i with
      |cons=>grind [ei]
      |nil=>
       match l with
       |.x (.sl u) v::l=>
        simp only[ei]at hb;split at hb
        .rename_i v' hv;obtain⟨e,rfl⟩:=cH hv;cases e;obtain⟨_,hls,hb2⟩:=pT hb;obtain⟨hni,_⟩:=uQ hls;obtain⟨s1,bu,e1,e2,e3⟩:=ih q m l s H k hb2 hl2 hn hr dR hnd2;have:bk=[]:=List.sublist_nil.1 hsub;subst this;refine⟨s1,bu,e1,?_,by simpa using e3⟩;cases v with|mk=>simp[Sl.fA]at hni|nil=>grind [kV,fk,cF,Sc,ul]
        .simp at hb
       |[]|.kb _::_|.nl _::_|.so _::_|.sr _::_|.sb _ _ _ _ _::_|.op _ _ _::_|.ep _ _ _ _::_|.pt _ _::_|.fn _ _ _::_|.om _::_|.rc _::_|.tp _::_|.ni::_|.co _ _::_|.fl _::_|.no::_|.gn::_=>simp[ei]at hb
       |.x (.i _) _::_|.x .b _::_|.x .s _::_|.x (.f _) _::_|.x (.mp _ _) _::_|.x .un _::_|.x (.pr _ _) _::_|.x (.st _) _::_|.x (.ar _ _) _::_|.x (.o _) _::_=>simp[ei]at hb
    |so id=>
     match l with
     |.x (.sl u) v::l=>
      simp only[ei]at hb;split at hb
      .rename_i w old ver v' ho hv;obtain⟨e,rfl⟩:=cH hv;cases e;split at hb
       .rename_i v2 hv2;obtain⟨e,rfl⟩:=cH hv2;cases e;obtain⟨_,hls,hb2⟩:=pT hb;obtain⟨hni,hln⟩:=uQ hls;obtain⟨rfl,u0,s0,ver0,ho0⟩:=hsh;have hid:id<n:=hkv;obtain⟨o1,ho1,hos⟩:=(dR.ob id _ hid ho).resolve_right (by simp[Qd]);rw[ho0]at ho1;obtain rfl:=aa ho1;obtain⟨_,rfl,hn1,hn2,_⟩:=hos;obtain⟨cc,ece,hcc⟩:=hc;obtain rfl:=fo.1 ece;have ec:=hcc.1 _ (mV (.inl ho0));obtain⟨q1,q2,q3⟩:=(hr.ob id _ ho).2.1;have hosn:tC (.ar u0 old ver) (.ar u0 v (ver+1)):=⟨bn _,rfl,hni.symm,hln.symm,fun e=>by omega⟩
        have key:∀(uu:eW),(∀p∈uu,p.1=id)->(∀l,v=.mk l->au (uu++H) id=some (.aG (bU u0) (l.map (aR u0))))->Bk s (dT s id (some (.ar u0 v (ver+1)))) H [id] uu:=by intro uu hu hlk;have d:=te (x:=.gX []) (v:=.no) (av:=[]) (l:=[]) hr ho hni.symm hln.symm hu hlk (fun _=>rfl) (fun _ _=>trivial) (fun i hi=>by simp at hi);exact⟨d.hr,d.dR,rfl,rfl,am _,fun p hp=>.inl (by simp[hu p hp]),d.nb,[id],rfl,fun p hp=>by simp[hu p hp],fun j hj=>by simp only[dT];rw[cK,if_neg fun e=>hj (by simp[e])]⟩
        cases v with
        |nil=>
         have b1:=key [] (fun p hp=>by simp at hp) (fun l e=>by cases e);obtain⟨s1,bu,f1,f2,e3⟩:=ih q m l _ _ k hb2 hl2 hn b1.hr (dR.trans hn b1.dR) hnd2;have hnil:s0.fA=true:=by rw[hn1,<-hni];rfl
         cases s0 with|mk=>simp[Sl.fA]at hnil|nil=>subst ec;have:=Af hpk;subst this;refine⟨s1,bu,f1,?_,by simpa using b1.seq e3 hd hI hJ⟩;simp only[kV,fk,cF,Sc,ul];exact f2
        |mk vl=>
         have b1:=key [(id,some (.aG (bU u0) (vl.map (aR u0))))] (fun p hp=>by simp at hp;simp[hp]) (fun l e=>by cases e;rw[a_,dg,if_pos rfl]);obtain⟨s1,bu,f1,f2,e3⟩:=ih q m l _ _ k hb2 hl2 hn b1.hr (dR.trans hn b1.dR) hnd2;have hnil:s0.fA=false:=by rw[hn1,<-hni];rfl
         cases s0 with
         |nil=>simp[Sl.fA]at hnil
         |mk uJ=>
          subst ec;have hlk:=(hr0.ob id _ ho0).2.1.2.2 uJ rfl;have hp2:=Y0 (k:=300) hlk;simp only[nA]at hpk;rw[hp2]at hpk;obtain⟨_,e⟩:=af (aa hpk);obtain⟨rfl,rfl⟩:=af e;refine⟨s1,_,f1,?_,by simpa using b1.seq e3 hd hI hJ⟩;simp only[kV,fk,cF,Sc,nA];refine QQ ?_ f2
          grind [Sl.l,aD]
       .simp at hb
      .simp at hb
     |[]|.kb _::_|.nl _::_|.so _::_|.sr _::_|.sb _ _ _ _ _::_|.op _ _ _::_|.ep _ _ _ _::_|.pt _ _::_|.fn _ _ _::_|.om _::_|.rc _::_|.tp _::_|.ni::_|.co _ _::_|.fl _::_|.no::_|.gn::_=>simp[ei]at hb
     |.x (.i _) _::_|.x .b _::_|.x .s _::_|.x (.f _) _::_|.x (.mp _ _) _::_|.x .un _::_|.x (.pr _ _) _::_|.x (.st _) _::_|.x (.ar _ _) _::_|.x (.o _) _::_=>simp[ei]at hb
    |_=>simp[ei]at hb
   |rw t=>
    cases v with
    |nl kk=>
     cases kk with
     |succ=>cases l with|nil=>simp[ei]at hb|cons w l=>cases w<;>simp[ei]at hb
     |zero=>
      cases i with
      |cons=>grind [ei]
      |nil=>
       match l with
       |.x (.sl (.sl u)) v::l=>
        simp only[ei]at hb;split at hb
        .rename_i v' hv;obtain⟨e,rfl⟩:=cH hv;cases e;obtain⟨_,hls,hb2⟩:=pT hb;obtain⟨hni,_⟩:=uQ hls;obtain⟨s1,bu,e1,e2,e3⟩:=ih q m l s H k hb2 hl2 hn hr dR hnd2;have:bk=[]:=List.sublist_nil.1 hsub;subst this;refine⟨s1,bu,e1,?_,by simpa using e3⟩;cases v with|mk=>simp[Sl.fA]at hni|nil=>grind [kV,fk,cF,zQ,ul]
        .simp at hb
       |[]|.kb _::_|.nl _::_|.so _::_|.sr _::_|.sb _ _ _ _ _::_|.op _ _ _::_|.ep _ _ _ _::_|.pt _ _::_|.fn _ _ _::_|.om _::_|.rc _::_|.tp _::_|.ni::_|.co _ _::_|.fl _::_|.no::_|.gn::_=>simp[ei]at hb
       |.x (.sl (.i _)) _::_|.x (.sl .b) _::_|.x (.sl .s) _::_|.x (.sl (.f _)) _::_|.x (.sl (.mp _ _)) _::_|.x (.sl .un) _::_|.x (.sl (.pr _ _)) _::_|.x (.sl (.st _)) _::_|.x (.sl (.ar _ _)) _::_|.x (.sl (.o _)) _::_|.x (.i _) _::_|.x .b _::_|.x .s _::_|.x (.f _) _::_|.x (.mp _ _) _::_|.x .un _::_|.x (.pr _ _) _::_|.x (.st _) _::_|.x (.ar _ _) _::_|.x (.o _) _::_=>simp[ei]at hb
    |sr id=>
     match l with
     |.x (.sl (.sl u)) v::l=>
      simp only[ei]at hb;split at hb
      .rename_i w old ln v' ho hv;obtain⟨e,rfl⟩:=cH hv;cases e;split at hb
       .rename_i v2 hv2;obtain⟨e,rfl⟩:=cH hv2;cases e;obtain⟨_,hls,hb2⟩:=pT hb;obtain⟨hni,hln⟩:=uQ hls;obtain⟨rfl,u0,s0,ho0⟩:=hsh;have hid:id<n:=hkv;obtain⟨o1,ho1,hos⟩:=(dR.ob id _ hid ho).resolve_right (by simp[Qd]);rw[ho0]at ho1;obtain rfl:=aa ho1;obtain⟨rfl,hn1,hn2⟩:=hos;obtain⟨cc,ece,hcc⟩:=hc;obtain rfl:=fo.1 ece;have ec:=hcc.1 _ (tT ho0);obtain⟨q1,q2,q3⟩:=(hr.ob id _ ho).2.1;have hosn:tC (.rw u0 old ln) (.rw u0 v none):=⟨rfl,hni.symm,hln.symm⟩
        have key:∀(uu:eW),(∀p∈uu,p.1=id)->(∀l,v=.mk l->au (uu++H) id=some (.nst (bU u0) (fc u0 l none)))->Bk s (dT s id (some (.rw u0 v none))) H [id] uu:=by intro uu hu hlk;have d:=Iz (x:=.gX []) (v:=.no) (av:=[]) (l:=[]) hr ho hosn hu ⟨q1,q2,hlk⟩ trivial rfl trivial (fun i hi=>by simp at hi);exact⟨d.hr,d.dR,rfl,rfl,am _,fun p hp=>.inl (by simp[hu p hp]),d.nb,[id],rfl,fun p hp=>by simp[hu p hp],fun j hj=>by simp only[dT];rw[cK,if_neg fun e=>hj (by simp[e])]⟩
        cases v with
        |nil=>
         have b1:=key [] (fun p hp=>by simp at hp) (fun l e=>by cases e);obtain⟨s1,bu,f1,f2,e3⟩:=ih q m l _ _ k hb2 hl2 hn b1.hr (dR.trans hn b1.dR) hnd2;have hnil:s0.fA=true:=by rw[hn1,<-hni];rfl
         cases s0 with|mk=>simp[Sl.fA]at hnil|nil=>subst ec;have:=Af hpk;subst this;refine⟨s1,bu,f1,?_,by simpa using b1.seq e3 hd hI hJ⟩;simp only[kV,fk,cF,zQ,ul];exact f2
        |mk vl=>
         have b1:=key [(id,some (.nst (bU u0) (fc u0 vl none)))] (fun p hp=>by simp at hp;simp[hp]) (fun l e=>by cases e;rw[a_,dg,if_pos rfl]);obtain⟨s1,bu,f1,f2,e3⟩:=ih q m l _ _ k hb2 hl2 hn b1.hr (dR.trans hn b1.dR) hnd2;have hnil:s0.fA=false:=by rw[hn1,<-hni];rfl
         cases s0 with|nil=>simp[Sl.fA]at hnil|mk uJ=>subst ec;have hlk:=(hr0.ob id _ ho0).2.1.2.2 uJ rfl;have hp2:=Xr (k:=300) hlk;simp only[nA]at hpk hp2;rw[hp2]at hpk;obtain⟨_,e⟩:=af (aa hpk);obtain⟨rfl,rfl⟩:=af e;refine⟨s1,_,f1,?_,by simpa using b1.seq e3 hd hI hJ⟩;simp only[kV,fk,cF,zQ,nA,aD];rw[show fc u0 vl none=(vl.map (Kf u0)).map ny from(zS vl).symm];refine OJ ?_ f2;rw[aD];exact hln.trans hn2.symm
       .simp at hb
      .simp at hb
     |[]|.kb _::_|.nl _::_|.so _::_|.sr _::_|.sb _ _ _ _ _::_|.op _ _ _::_|.ep _ _ _ _::_|.pt _ _::_|.fn _ _ _::_|.om _::_|.rc _::_|.tp _::_|.ni::_|.co _ _::_|.fl _::_|.no::_|.gn::_=>simp[ei]at hb
     |.x (.sl (.i _)) _::_|.x (.sl .b) _::_|.x (.sl .s) _::_|.x (.sl (.f _)) _::_|.x (.sl (.mp _ _)) _::_|.x (.sl .un) _::_|.x (.sl (.pr _ _)) _::_|.x (.sl (.st _)) _::_|.x (.sl (.ar _ _)) _::_|.x (.sl (.o _)) _::_|.x (.i _) _::_|.x .b _::_|.x .s _::_|.x (.f _) _::_|.x (.mp _ _) _::_|.x .un _::_|.x (.pr _ _) _::_|.x (.st _) _::_|.x (.ar _ _) _::_|.x (.o _) _::_=>simp[ei]at hb
    |_=>simp[ei]at hb
   |pb t c2=>
    cases v with
    |op id u p=>
     cases p with
     |cons=>simp[ei]at hb
     |nil=>
      simp only[ei]at hb;split at hb
      case h_2=>simp at hb
      rename_i oid hoid;split at hb
      .rename_i w l' s2 hm;obtain⟨hf,hb2⟩:=aJ hb;simp only[ak,decide_eq_true_eq]at hf;obtain⟨hf,rfl⟩:=hf;obtain⟨g1,g2,g3,g4,g5,_⟩:=wR c2 false l s w l' s2 H hm hr;subst g5;obtain⟨hid,hnn⟩:=hsh;have hio:id∈bk:=(hcov id hid).resolve_right hnn
       obtain rfl:c=.op id 0:=by
        have e0:oD u []=0:=by cases u<;>rfl
        have:[c]=[C.op id (oD u [])]:=hc
        grind [fo]
       obtain⟨k1,k2,k3,k4,k5⟩:=pL i s2;have hids:id<s2.next:=by have:=hI id hid;have:=g3.le;omega
       have b1:Bk s (dT (jt i s2) id (some (.bx u w))) H i ((id,some (.box (iH s.next (fk c2 l).1).1))::(iH s.next (fk c2 l).1).2.1++bk.map (fun j=>(j,none))):=by
        obtain⟨a3,a4,a5,a6,a7,a8,W,v1,v2,v3,v4⟩:=g3;have hs2:jy s2.next s2.heap (dT (jt i s2) id (some (.bx u w))).heap:=jy.trans (am _) (jy.sub AA) jy.bx;refine⟨⟨fun j o hj=>?_⟩,jy.trans a7 a4 hs2,k1.trans a5,k3.trans a6,by simp only[dT];omega,fun p hp=>?_,fun j hj hn=>(by simp only[dT];rw[cK,if_neg (fun e=>by rw[e,hn]at hoid;cases hoid),k5];split<;>first|rfl|grind),id::(i++W),by grind [dT,aM],fun p hp=>?_,fun j hj=>?_⟩
        .simp only[dT]at hj|-;rw[cK]at hj;split at hj
         .rename_i e;subst e;obtain rfl:=aa hj;refine⟨by omega,?_,?_⟩
          .rw [bI,bI,dg,if_pos rfl];exact⟨_,rfl,lX hs2 g2 g1,hf⟩
          .rw [k2];exact gI (am _) hs2 g2
         .rename_i e;have hji:j∉i:=fun hm=>by rw[k5,if_pos hm]at hj;simp at hj
          rw[k5,if_neg hji]at hj;obtain⟨c1,c2',c3⟩:=a3.ob j o hj;refine⟨by omega,?_,?_⟩
          .rw [bI,bI,dg,if_neg e,aM];have:au ((iH s.next (fk c2 l).1).2.1++(bk.map (fun j=>(j,none))++H)) j=au ((iH s.next (fk c2 l).1).2.1++H) j:=by simp only[au,gN];have:=Ci (h1:=H) (bk:=bk) (j:=j) fun hm=>hji (hsub.subset hm);simp only[au,gN]at this;cases bV (iH s.next (fk c2 l).1).2.1 j with|some x=>rfl|none=>exact this
           rw[this];exact qg hs2 c3 c2'
          .rw [k2];exact oY (am _) hs2 c3
        .rcases aC.1 hp with hp|hp
         .rcases aW.1 hp with rfl|hp
          .exact .inl hid
          grind [dT]
         .obtain ⟨j,hj,rfl⟩:=br.1 hp;exact .inl (hsub.subset hj)
        .rcases aC.1 hp with hp|hp
         .grind
         .obtain ⟨j,hj,rfl⟩:=br.1 hp;simp[hsub.subset hj]
        .simp only[dT];rw[cK,if_neg fun e=>hj (by simp[e]),k5,if_neg fun q=>hj (by simp[q]),v4 j fun q=>hj (by simp[q])]
       obtain⟨s1,bu,e1,e2,e3⟩:=ih q m _ _ _ k hb2 hl2 (by have:=b1.le;omega) b1.hr (dR.trans hn b1.dR) hnd2;have en:(dT (jt i s2) id (some (.bx u w))).next=(iH s.next (fk c2 l).1).2.2:=by simp only[dT,k2,g4]
       rw[en]at e2;refine⟨s1,_,e1,?_,by simpa using b1.seq e3 hd hI hJ⟩;simp only[kV,fk,cF];have:=QP (n:=s.next) (id:=id) (bk:=bk) (rd:=rd) (by simpa using hio) e2
       grind [aM]
      .simp at hb
    |_=>simp[ei]at hb
   |_=>simp[ei]at hb
end
def T8(c:Sh):Bool:=y_ c||De c
section
variable{h:H2}{n:Nat}{h1:bp}
theorem DI{c:Sh}{l l':List V}{s s':S2}{w:V}(hm:rF c false l s=some (w,l',s'))(ho:De c=true):(fk c l).1.length=1:=by
 cases c with
 |x t=>match l with|.x u v::l=>obtain⟨hc,_⟩:=aJ hm;simp only[ak,decide_eq_true_eq]at hc;obtain⟨rfl,_⟩:=hc;simpa[fk,bH,De]using ho|[]|.kb _::_|.nl _::_|.so _::_|.sr _::_|.sb _ _ _ _ _::_|.op _ _ _::_|.ep _ _ _ _::_|.pt _ _::_|.fn _ _ _::_|.om _::_|.rc _::_|.tp _::_|.ni::_|.co _ _::_|.fl _::_|.no::_|.gn::_=>simp[rF]at hm
 |os t=>match l with|.x (.sl u) v::l=>rfl|[]|.kb _::_|.nl _::_|.so _::_|.sr _::_|.sb _ _ _ _ _::_|.op _ _ _::_|.ep _ _ _ _::_|.pt _ _::_|.fn _ _ _::_|.om _::_|.rc _::_|.tp _::_|.ni::_|.co _ _::_|.fl _::_|.no::_|.gn::_=>simp[rF]at hm|.x (.i _) _::_|.x .b _::_|.x .s _::_|.x (.f _) _::_|.x (.mp _ _) _::_|.x .un _::_|.x (.pr _ _) _::_|.x (.st _) _::_|.x (.ar _ _) _::_|.x (.o _) _::_=>simp[rF]at hm
 |rw t=>match l with|.x (.sl (.sl u)) v::l=>rfl|[]|.kb _::_|.nl _::_|.so _::_|.sr _::_|.sb _ _ _ _ _::_|.op _ _ _::_|.ep _ _ _ _::_|.pt _ _::_|.fn _ _ _::_|.om _::_|.rc _::_|.tp _::_|.ni::_|.co _ _::_|.fl _::_|.no::_|.gn::_=>simp[rF]at hm|.x (.sl (.i _)) _::_|.x (.sl .b) _::_|.x (.sl .s) _::_|.x (.sl (.f _)) _::_|.x (.sl (.mp _ _)) _::_|.x (.sl .un) _::_|.x (.sl (.pr _ _)) _::_|.x (.sl (.st _)) _::_|.x (.sl (.ar _ _)) _::_|.x (.sl (.o _)) _::_|.x (.i _) _::_|.x .b _::_|.x .s _::_|.x (.f _) _::_|.x (.mp _ _) _::_|.x .un _::_|.x (.pr _ _) _::_|.x (.st _) _::_|.x (.ar _ _) _::_|.x (.o _) _::_=>simp[rF]at hm
 |pb t c=>rfl
 |nl k=>rfl
 |_=>grind [rF,De]
theorem Ce:∀(rs:List Sh)(l:List V)(s:S2)(xs:List V)(l':List V)(s':S2)(h1:bp),KP rs l s=some (xs,l',s')->HR s.next h1 s.heap->rs.all T8=true->
  CQ s'.heap (bv xs) (iC s.next (px rs l)).1/\(∀x∈xs,eV s'.next s'.heap x)/\Mk s s' h1 (iC s.next (px rs l)).2.1/\s'.next=(iC s.next (px rs l)).2.2/\xs.length=rs.length:=by
 intro rs;induction rs with
 |nil=>intro l s xs l' s' h1 hm hr _;obtain⟨rfl,e⟩:=af (aa hm);obtain⟨rfl,rfl⟩:=af e;exact⟨rfl,fun x hx=>by simp at hx,Mk.skip hr (am _),rfl,rfl⟩
 |cons c rs ih=>
  intro l s xs l' s' h1 hm hr hok;simp only[fR,ak]at hok;simp[KP]at hm;split at hm
  .rename_i x l1 s1 hm1;split at hm
   .rename_i ys l2 s2 hm2;obtain⟨rfl,e⟩:=af (aa hm);obtain⟨rfl,rfl⟩:=af e;obtain⟨q1,q2,q3,q4,q5,q6⟩:=wR c false l s x l1 s1 h1 hm1 hr;have q6:=q6 rfl;subst q5
    have hu:CP s.next (bif y_ c then .agg (fk c l).1 else .c ((fk c l).1.headD default))=(bif y_ c then .agg (iH s.next (fk c l).1).1 else .c ((iH s.next (fk c l).1).1.headD default),(iH s.next (fk c l).1).2.1,(iH s.next (fk c l).1).2.2)/\tQ s1.heap x (bif y_ c then .agg (iH s.next (fk c l).1).1 else .c ((iH s.next (fk c l).1).1.headD default)):=by
     cases hs:y_ c with
     |true=>exact⟨rfl,zK (q6.trans hs) q1⟩
     |false=>
      have hl:=by
       have h2:=by simpa[T8,hs]using hok.1
       exact DI hm1 h2
      match ht:(fk c l).1,hl with|[t],_=>simp_all[uC,CP,dv]
    obtain⟨hu1,hu2⟩:=hu;obtain⟨p1,p2,p3,p4,p5⟩:=ih (fk c l).2 s1 ys l2 s2 _ hm2 q3.hr hok.2;rw[q4]at p1 p3 p4;simp only[px,iC,hu1];refine⟨⟨_,_,rfl,xF p3.dR q2 hu2,p1⟩,fun y hy=>?_,q3.seq p3,p4,by simp[p5]⟩;rcases aW.1 hy with rfl|hy
    .exact gI p3.le p3.dR q2
    .exact p2 y hy
   .simp at hm
  .simp at hm
end
def Dm:Ty->Bool
 |.i _|.b|.s|.f _|.un=>true
 |.pr a c=>Dm a&&Dm c
 |.st t|.ar _ t=>Dm t
 |_=>false
def SR:Sh->Bool
 |.x t=>Dm t
 |_=>false
def SS:Sh->Bool
 |.os t=>Dm t
 |.gn=>true
 |_=>false
def Uo(sp:iz):Bool:=sp.al.all (fun w=>w.1.all SR&&w.2.all SS)
def O9(sp:iz):Bool:=P4 sp.ps sp.kq&&C_ sp.ps&&sp.al.all (fun w=>w.1.all T8)&&(!sp.ro||Uo sp)
def O_(Q:List Sh->List Sh->List V->Prop):(r o:List Sh)->(w:Wy)->xo.Iu r o w->Prop
 |r,o,[],z=>Q r o (pE (jx r++jx o) z)
 |r,o,(r',o')::w,z=>match z with|.inl z=>Q r o (pE (jx r++jx o) z)|.inr z=>O_ Q r' o' w z
def Pa(Q:List Sh->List Sh->List V->Prop):(w:Wy)->xo w->Prop
 |[],z=>nomatch z
 |(r,o)::w,z=>O_ Q r o w z
def bw(P:Program)(f:FuncId)(sp:iz):Prop:=O9 sp=true/\∀p z,sp.fn p=some z->Pa (fun rs os l=>xw P f (gR sp.ps (pE (jx (sp.ps.map (·.2))) p)) (px rs (l.take (jx rs).length)) (kV os (l.drop (jx rs).length))) sp.al z
def qt(P:Program)(tb:Gu):Prop:=∀e∈tb,bw P e.1 e.2
theorem qt.nil{P:Program}:qt P []:=fun e he=>by simp at he
theorem qt.cons{P:Program}{f:FuncId}{sp:iz}{tb:Gu}(h:bw P f sp)(ht:qt P tb):qt P ((f,sp)::tb):=fun e he=>by
 rcases aW.1 he with rfl|he
 .exact h
 .exact ht e he
theorem JP{β:Type}{k:List Sh->List Sh->List V->Option β}{Q:List Sh->List Sh->List V->Prop}{b:β}:∀(w:Wy)(z:xo w),Ud k w z=some b->Pa Q w z->∃r o l,(r,o)∈w/\k r o l=some b/\Q r o l:=by
 have key:∀(w:Wy)(r o:List Sh)(z:xo.Iu r o w),RS k r o w z=some b->O_ Q r o w z->∃r' o' l,(r',o')∈(r,o)::w/\k r' o' l=some b/\Q r' o' l:=by
  intro w;induction w with
  |nil=>intro r o z hz hq;exact⟨r,o,_,by simp,hz,hq⟩
  |cons p w ih=>
   intro r o z hz hq;cases z with
   |inl z=>exact⟨r,o,_,by simp,hz,hq⟩
   |inr z=>
    obtain⟨r',o',l,h1,h2,h3⟩:=ih p.1 p.2 z hz hq
    grind
 intro w z hz hq;cases w with|nil=>exact nomatch z|cons p w=>exact key w p.1 p.2 z hz hq
theorem AZ{u:Ty}{v:V}{y:El u}(h:yO u v=some y):v=.x u y:=by cases v with|x t v=>obtain⟨rfl,rfl⟩:=cH (h);rfl|_=>simp[yO]at h
theorem qF:∀(cs:List Ty)(l:List V)(p:uz cs),xG cs l=some p->pE cs p=l:=by
 have key:∀(r:List Ty)(a:Ty)(l:List V)(p:uz.OZ a r),JU a r l=some p->Pk a r p=l:=by
  intro r;induction r with
  |nil=>
   intro a l p h
   match l with|[]=>exact nomatch (h)|[v]=>rw[AZ (h)];rfl|_::_::_=>exact nomatch (h)
  |cons c r ih=>
   intro a l p h
   match l with
   |[]=>exact nomatch (h)
   |v::l=>
    have h:JW _ _=some p:=h;cases hx:yO a v with
    |none=>rw[hx]at h;exact nomatch h
    |some x=>cases hy:JU c r l with|none=>rw[hx,hy]at h;exact nomatch h|some y=>rw[hx,hy]at h;obtain rfl:=aa h;show V.x a x::Pk c r y=v::l;rw[ih c l y hy,AZ hx]
 intro cs l p h
 match cs,l with|[],[]=>rfl|[],_::_=>exact nomatch (h)|a::r,l=>exact key r a l p h
section
variable{h:H2}{n:Nat}{h1:bp}
theorem Ed{a b:List V}{x y:List TV}(ha:mS h a x)(hb:mS h b y):mS h (a++b) (x++y):=by induction a generalizing x with|nil=>rw[lc ha];exact hb|cons v a ih=>obtain⟨c,r,rfl,h2,h3⟩:=fX ha;exact⟨h2,ih h3⟩
theorem zE:∀(v:V)(l:List V)(cs:List C),zF v=some l->ff h v cs->eV n h v->iw h v=true->mS h l (cs.map TV.c)/\(∀w∈l,eV n h w)/\∀w∈l,iw h w=true:=by
 intro v;induction v with
 |ni=>intro l cs hl hc _ _;obtain rfl:=aa hl;obtain rfl:=hc;exact⟨trivial,fun w hw=>by simp at hw,fun w hw=>by simp at hw⟩
 |co a r iha ihr=>
  intro l cs hl hc hk hal;obtain⟨h1,hl⟩:=aJ hl;simp at h1;split at hl
  .rename_i l' hl';obtain rfl:=aa hl;obtain⟨x,y,rfl,h2,h3⟩:=hc;simp[iw]at hal;obtain⟨q1,q2,q3⟩:=ihr l' y hl' h3 hk.2 hal.2;have hlen:=iv h2;rw[h1.1]at hlen
   match x,hlen with
   |[c],_=>
    refine⟨⟨bW (dv h1.2 h2),q1⟩,fun w hw=>?_,fun w hw=>?_⟩
    .rcases aW.1 hw with rfl|hw
     .exact hk.1
     .exact q2 w hw
    grind
  .simp at hl
 |_=>intro l cs hl;simp[zF]at hl
theorem HV:∀(tb:Gu)(f:Nat)(vs:List V)(sp:iz)(l:List V)(i:List Nat)(q:List (V×List Nat)),Co h f vs tb=some (sp,l,i,q)->(f,sp)∈tb/\wd h sp.ps vs=some (l,i,q):=by
 intro tb;induction tb with
 |nil=>intro f vs sp l i q hf;simp[Co]at hf
 |cons e tb ih=>
  intro f vs sp l i q hf;simp[Co]at hf
  grind
theorem Fc:∀{l:List Nat},Am l=true->l.Nodup:=by intro l;induction l with|nil=>intro _;exact List.nodup_nil|cons a l ih=>simp_all[Am]
theorem yQ.bk:∀{q:List (V×List Nat)}{lent:List (C×List Nat×List Nat)},yQ h n h1 q lent->
  (lent.flatMap (fun(p:C×List Nat×List Nat)=>p.2.1)).Sublist (q.flatMap (·.2))/\(∀j∈lent.flatMap (fun(p:C×List Nat×List Nat)=>p.2.2),j∈q.flatMap (·.2)):=by
 intro q;induction q with
 |nil=>rintro lent rfl;simp_all
 |cons p q ih=>
  rintro lent ⟨x,m,rfl,hx,hm⟩;obtain⟨a,b⟩:=ih hm;refine⟨hx.2.2.2.1.append a,fun j hj=>?_⟩;rcases aC.1 hj with hj|hj
  .exact List.mem_append_left _ (hx.2.2.2.2.2.1 j hj)
  grind
theorem sh(hr:HR n h1 h):∀{q:List (V×List Nat)}{lent:List (C×List Nat×List Nat)},yQ h n h1 q lent->dY h1 lent=true:=by
 intro q;induction q with
 |nil=>rintro lent rfl;rfl
 |cons p q ih=>
  obtain⟨v,i⟩:=p;rintro lent ⟨⟨c,bk,rd⟩,m,rfl,hx,hm⟩;have hw:=ih hm;obtain⟨hc,_,_,_,_,_,_,hsh⟩:=hx;cases c with
  |fx sz id off len=>
   cases v with
   |so id'=>obtain⟨_,u,s,ver,ho⟩:=hsh;obtain⟨cc,e,hcc⟩:=hc;obtain rfl:=fo.1 e;have e2:=hcc.1 _ (mV (.inl ho));cases s with|nil=>simp[nA]at e2|mk l=>obtain⟨rfl,rfl,rfl,rfl⟩:=e2;exact VI ((hr.ob _ _ ho).2.1.2.2 l rfl) hw
   |sr jd=>obtain⟨_,u,s,ho⟩:=hsh;obtain⟨cc,e,hcc⟩:=hc;obtain rfl:=fo.1 e;have e2:=hcc.1 _ (tT ho);cases s with|nil=>simp[nA]at e2|mk l=>simp[nA]at e2;have hl:=(hr.ob _ _ ho).2.1.2.2 l rfl;simp_all[dY,fc]
   |nl k=>have:[C.fx sz id off len]=[Fd k]:=hc
          simp[Fd]at this
   |op a b2 e=>have:[C.fx sz id off len]=[C.op a _]:=hc
               simp at this
   |_=>exact hsh.elim
  |_=>exact hw
end
section
variable{P:Program}{h1:bp}{β:Type}{s:S2}{k:V->S2->List Nat->Option β}{z:β}
def YR(P:Program)(h1:bp)(kk:K)(xs:List TV)(s:S2)(k:V->S2->List Nat->Option β)(z:β):Prop:=∃v s' l,k v s' l=some z/\∃call:Call,fg P call/\∃x u av m,ci call kk (xs.map some) h1 s.next=some (x,u,av,m)/\sd s s' h1 x u av m v l
theorem Qo{b:Bool}{f:Nat}{caps:V}{xf:TV}{cs:List V}(hf:fC s.heap (.fn b f caps) xf)(hk:eV s.next s.heap (.fn b f caps))(ha:iw s.heap (.fn b f caps)=true)(hc:zF caps=some cs):
  ∃cc,NY (some xf)=some (f,cc)/\mS s.heap cs (cc.map TV.c)/\(∀w∈cs,eV s.next s.heap w)/\∀w∈cs,iw s.heap w=true:=by
 rcases GH hf with⟨rfl,ds,hd,rfl⟩|⟨rfl,xs,hd,rfl⟩
 .obtain ⟨a1,a2⟩:=Bb caps ha;exact⟨ds.map .d,rfl,zE caps cs _ hc (Ox caps ds hd) (a2 _) a1⟩
 .exact ⟨xs,rfl,zE caps cs _ hc hd hk ha⟩
theorem EH{xs:List V}{vs:List TV}{g:H2}{m:Nat}(h:CQ g (bv xs) vs)(hk:∀x∈xs,eV m g x):fC g (Sn xs) (ve vs)/\eV m g (Sn xs):=by
 have hrow:∀(l:List V),(∀x∈l,eV m g x)->eV m g (bv l):=by intro l;induction l with|nil=>intro _;trivial|cons a l ih=>intro hl;exact⟨hl a (by simp),ih fun x hx=>hl x (by simp[hx])⟩
 match xs with|[]=>obtain rfl:=h;exact⟨⟨[],rfl,rfl⟩,trivial⟩|[v]=>obtain⟨x,ys,rfl,h2,h3⟩:=h;obtain rfl:=h3;exact⟨bW h2,hk v (by simp)⟩|a::b::l=>obtain⟨x,ys,rfl,h2,h3⟩:=h;obtain⟨y,zs,rfl,h4,h5⟩:=h3;exact⟨⟨_,rfl,_,_,rfl,h2,_,_,rfl,h4,h5⟩,hrow _ hk⟩
theorem Fy:∀(t:Ty)(v:El t),Dm t=true->∀d∈aR t v,∃y,d=.lit y:=by
 intro t;induction t with
 |pr a c iha ihc=>
  intro v h d hd;simp[Dm]at h
  grind [aR]
 |st t ih=>intro v h d hd;exact ih v h d hd
 |ar n t ih=>intro v h d hd;obtain⟨a,_,ha⟩:=List.mem_flatMap.1 (hd);exact ih a h d ha
 |un=>intro v h d hd;exact absurd (show d∈[]from hd) (by simp)
 |i k=>intro v h d hd;exact⟨_,aq.1 (hd)⟩
 |b=>intro v h d hd;exact⟨_,aq.1 (hd)⟩
 |s=>intro v h d hd;exact⟨_,aq.1 (hd)⟩
 |f k=>intro v h d hd;exact⟨_,aq.1 (hd)⟩
 |_=>intro v h;simp[Dm]at h
theorem No:∀(rs:List Sh)(l:List V)(s:S2)(xs:List V)(l':List V)(s':S2),KP rs l s=some (xs,l',s')->rs.all SR=true->rs.all T8=true->(px rs l).all x5=true:=by
 intro rs;induction rs with
 |nil=>intro l s xs l' s' _ _ _;rfl
 |cons c rs ih=>
  intro l s xs l' s' hm hl ho;simp only[fR,ak]at hl ho;simp only[KP]at hm;split at hm
  .rename_i x l1 s1 hm1;split at hm
   .rename_i ys l2 s2 hm2;cases c with
    |x t=>
     have ho1:=ho.1
     match l with
     |.x u v::l=>
      have hm1':=hm1;obtain⟨hc,hm3⟩:=aJ hm1;simp only[ak,decide_eq_true_eq]at hc;obtain⟨rfl,_⟩:=hc;obtain⟨rfl,e⟩:=af (aa hm3);obtain⟨rfl,rfl⟩:=af e;have hlit:=Fy u v hl.1;simp only[px,fk,fR,ak];refine⟨?_,ih _ _ _ _ _ hm2 hl.2 ho.2⟩;cases hs:y_ (.x u)with
      |true=>
       simp only[x5]
       grind
      |false=>
       have h2:=by simpa[T8,hs]using ho1
       have hlen:=DI hm1' h2;simp only[fk]at hlen
       match he:aR u v,hlen with|[d],_=>obtain⟨y,rfl⟩:=hlit d (by rw[he];simp);rfl
     |[]|.kb _::_|.nl _::_|.so _::_|.sb _ _ _ _ _::_|.op _ _ _::_|.ep _ _ _ _::_|.pt _ _::_|.fn _ _ _::_|.om _::_|.rc _::_|.tp _::_|.ni::_|.co _ _::_|.fl _::_|.no::_|.gn::_=>simp[rF]at hm1
    |_=>simp[SR]at hl
   .simp at hm
  .simp at hm
theorem Np{t:Ty}(v:El (.sl t))(h:Dm t=true):IX (Sc (bU t) (aR t) v)=true:=by cases v with|nil=>rfl|mk l=>show(l.map _).all _=true;rw[List.all_map,bg];intro x _;show(aR t x).all _=true;rw[bg];intro d hd;obtain⟨y,rfl⟩:=Fy t x h d hd;rfl
theorem Nq{β:Type}{z:β}:∀(os:List Sh)(q:List (V×List Nat))(l:List V)(s:S2)(k:S2->Option β),ei os q l s k=some z->os.all SS=true->(kV os l).all IX=true:=by
 intro os;induction os with
 |nil=>intro q l s k _ _;rfl
 |cons c os ih=>
  intro q l s k hb ho;simp only[fR,ak]at ho;obtain⟨h1,h2⟩:=ho;cases c with
  |gn=>cases q with|nil=>simp[ei]at hb|cons p q=>simp only[ei]at hb;have:=ih _ _ _ _ hb h2;simp only[kV,fk,fR,cF,this,kM];rfl
  |os t=>
   have hh:∀(u:Ty)(v:El (.sl u))(l:List V)(q':List (V×List Nat))(s':S2),(∃y,gg (.sl u) (.sl t) v=some y)->(hb:ei os q' l s' k=some z)->(kV (.os t::os) (.x (.sl u) v::l)).all IX=true:=by
    intro u v l q' s' ⟨y,hy⟩ hb2;obtain⟨e,_⟩:=cH hy;have e:u=t:=by injection e
    subst e;have:=ih _ _ _ _ hb2 h2;simp only[kV,fk,fR,cF,this,kM];exact Np v h1
   cases q with
   |nil=>simp[ei]at hb
   |cons p q=>
    obtain⟨pv,pi⟩:=p;cases l with
    |nil=>cases pv<;>simp[ei]at hb
    |cons x l=>
     cases x with
     |x u v=>
      cases u with
      |sl u=>
       cases pv with
       |nl n=>
        cases n with
        |zero=>
         cases pi with
         |nil=>
          simp only[ei]at hb;split at hb
          .rename_i y hy;obtain⟨_,_,hb⟩:=pT hb;exact hh u v l q s ⟨y,hy⟩ hb
          .cases hb
         |cons _ _=>simp[ei]at hb
        |succ n=>simp[ei]at hb
       |so id=>
        simp only[ei]at hb;split at hb
        .rename_i w old ver y ho hy;split at hb
         .obtain ⟨_,_,hb⟩:=pT hb;exact hh u v l q _ ⟨y,hy⟩ hb
         .cases hb
        .cases hb
       |_=>simp[ei]at hb
      |_=>cases pv<;>simp[ei]at hb
     |_=>cases pv<;>simp[ei]at hb
  |_=>simp[SS]at h1
theorem Ij{tb:Gu}{ro:Bool}{kq:List Bool}{f:V}{vs:List V}{xf:TV}{xs:List TV}(htb:qt P tb)(hz:zw tb ro kq f vs s k=some z)(hr:HR s.next h1 s.heap)(hf:fC s.heap f xf)(hfk:eV s.next s.heap f)(hfa:iw s.heap f=true)
  (hx:mS s.heap vs xs) (hk:∀w∈vs,eV s.next s.heap w) (ha:∀w∈vs,iw s.heap w=true):YR P h1 (.call ro kq) (xf::xs) s k z:=by
 cases f with
 |fn b fid caps=>
  simp only[zw]at hz;split at hz
  case h_2=>simp at hz
  rename_i sp pay j q hfs;split at hfs
  case h_2=>simp at hfs
  rename_i cs hcs;obtain⟨hmem,hargs⟩:=HV tb fid _ sp pay j q hfs;obtain⟨hwy,hgood⟩:=htb _ hmem;simp only[O9,ak]at hwy;obtain⟨⟨⟨w1,w2⟩,w3⟩,w4⟩:=hwy;obtain⟨hc,hz2⟩:=aJ hz;simp only[ak,decide_eq_true_eq]at hc;obtain⟨⟨⟨c1,c2⟩,c3⟩,c4⟩:=hc;clear hz;split at hz2
  case h_2=>simp at hz2
  rename_i p hp;obtain⟨zz,hzz,hz3⟩:=pT hz2;obtain⟨rs,os,l,hm,hk3,hg⟩:=JP sp.al zz hz3 (hgood p zz hzz);rw[qF _ _ _ hp]at hg;obtain⟨cc,hfn,d1,d2,d3⟩:=Qo hf hfk hfa hcs;rw[c2]at w1;obtain⟨av,lent,e1,e2,e3,e4⟩:=Gp hr sp.ps (vs++cs) kq pay j q (xs++cc.map TV.c) hargs (Ed hx d1) (fun w hw=>(aC.1 hw).elim (hk w) (d2 w)) (fun w hw=>(aC.1 hw).elim (ha w) (d3 w)) w1 w2;obtain⟨o1,o2⟩:=e4.bk;have hnd:=Fc c3
  have hdec:decide ((lent.flatMap (fun(p:C×List Nat×List Nat)=>p.2.1)).Nodup/\(lent.flatMap (fun(p:C×List Nat×List Nat)=>p.2.1)).all (fun i=>!av.contains i)=true)=true:=by
   grind
  have hwl:=sh hr e4;have hokR:rs.all T8=true:=bg.1 w3 _ hm;cases ro with
  |true=>
   have hro:sp.ro=true:=by simpa using c1
   rw[hro]at w4;have w5:Uo sp=true:=by simpa using w4
   have v3:=bg.1 w5 _ hm;simp only[ak]at v3;simp only[cond_true]at hk3;obtain⟨s1,bu,b1,b2,b3⟩:=A8 hr os q lent _ s h1 _ hk3 e4 (am _) hr (jy.refl _ _) hnd;split at b1
   case h_2=>simp at b1
   rename_i ys l2 s2 hmk;obtain⟨m1,m2,m3,m4,m5⟩:=Ce rs _ s1 ys l2 s2 _ hmk b3.hr hokR;obtain⟨t1,t2⟩:=EH m1 m2;have hlit:=No rs _ s1 ys l2 s2 hmk v3.1 hokR;have hout:=Nq os q _ s _ hk3 v3.2;refine⟨_,_,_,b1,only fid (gR sp.ps pay) (px rs (l.take (jx rs).length)) (kV os (l.drop (jx rs).length)),I3 hg,?_⟩;have hld:=Qa (h:=h1) (av:=av) hlit hout b2;obtain⟨g1,g2⟩:=JF (ro:=true) hfn (nW xs) e1 hwl hdec hld;refine⟨_,_,_,_,CF g1 g2,?_⟩;obtain⟨W1,x1,x2,x3⟩:=b3.wo;obtain⟨W2,y1,y2,y3,y4⟩:=m3.wo;refine⟨t1,t2,?_,b3.dR.trans b3.le m3.dR,by rw[m3.cW,b3.cW],by rw[m3.gh,b3.gh],by omega,by have:=b3.le;have:=m3.le;omega,fun i hi=>?_,fun i hi h=>(by rw[y4 i fun q=>by have:=(y3 i q).1;have:=b3.le;omega];exact b3.nb i hi h),W2++W1,by grind,fun p hp=>?_,fun i hi=>?_⟩
   .have:=m3.hr
    grind
   .grind
   .grind
   grind
  |false=>
   simp only[cond_false]at hk3;split at hk3
   case h_2=>simp at hk3
   rename_i s0 hs0;obtain⟨fu,f1,f2,f3,f4,f5,f6,f7,f8,f9⟩:=Dy (s0:=s) rfl hr j s0 av av hs0 e2 e3;obtain⟨s1,bu,b1,b2,b3⟩:=A8 hr os q lent _ s0 (fu++h1) _ hk3 e4 (by omega) (by rw[f6];exact f2) f3 hnd;split at b1
   case h_2=>simp at b1
   rename_i ys l2 s2 hmk;obtain⟨m1,m2,m3,m4,m5⟩:=Ce rs _ s1 ys l2 s2 _ hmk b3.hr hokR;obtain⟨t1,t2⟩:=EH m1 m2;rw[f6]at b2;refine⟨_,_,_,b1,only fid (gR sp.ps pay) (px rs (l.take (jx rs).length)) (kV os (l.drop (jx rs).length)),I3 hg,?_⟩;have hld:=Yv (rs:=px rs (l.take (jx rs).length)) f1 b2;obtain⟨g1,g2⟩:=JF (ro:=false) hfn (nW xs) e1 hwl hdec hld;refine⟨_,_,_,_,CF g1 g2,?_⟩;obtain⟨W1,x1,x2,x3⟩:=b3.wo;obtain⟨W2,y1,y2,y3,y4⟩:=m3.wo;refine⟨t1,t2,?_,(f3.trans (Nat.le_of_eq f6.symm) b3.dR).trans (by have:=b3.le;omega) m3.dR,by rw[m3.cW,b3.cW,f4],by rw[m3.gh,b3.gh,f5],by omega,by have:=b3.le;have:=m3.le;omega,fun i hi=>?_,fun i hi h=>(by rw[y4 i fun q=>by have:=(y3 i q).1;have:=b3.le;omega];exact b3.nb i (by omega) ((f9 i fun q=>HQ rfl hs0 i q h).trans h)),W2++W1++j,by grind,fun p hp=>?_,fun i hi=>?_⟩
   .have:=m3.hr
    grind
   .grind
   .grind
   grind
 |_=>simp[zw]at hz
end
def mG:Prop:=∀g v,S8 g=some v->∃d,UW g=some d/\∀h n,fC h v (.c (.d d))/\eV n h v/\iw h v=true
theorem xn{n:Nat}{h h':H2}(hs:jy n h h')(hnb:∀i,i<n->fO h i=none->fO h' i=none):∀{v:V},eV n h v->iw h' v=true->iw h v=true:=by
 have key:∀id,id<n->(match fO h' id with|some _=>true|none=>false)=true->(match fO h id with|some _=>true|none=>false)=true:=by
  grind
 intro v;induction v with
 |so id=>
  intro hk ha;simp[iw]at ha|-;split at ha
  .rename_i t s v ho;obtain⟨s0,v0,h1,_⟩:=uI hs hk (.inl ho);rcases h1 with h1|h1<;>rw[h1]
  .rename_i t s v ho;obtain⟨s0,v0,h1,_⟩:=uI hs hk (.inr ho);rcases h1 with h1|h1<;>rw[h1]
  .simp at ha
 |sr id=>
  intro hk ha;have hk:id<n:=hk
  grind [iw,IK]
 |sb id ver lo t r=>
  rintro⟨hid,hk⟩ ha;obtain⟨hd,ha⟩:=cf.1 ha;obtain⟨u,s,ho⟩:=lY ha;obtain⟨s0,v0,h3,h4,_,_⟩:=uI hs hid ho;obtain⟨h7,_⟩:=hk u s0 v0 h3;have:v0=ver:=by omega
  subst this;refine cf.2 ⟨hd,?_⟩;rcases h3 with h3|h3<;>rw[h3]<;>simp
 |op id t p=>rintro⟨hid,_⟩ ha;exact key id hid ha
 |ep id m t p=>rintro⟨hid,_⟩ ha;exact key id hid ha
 |om id=>intro hid ha;exact key id hid ha
 |fn z f l ih=>intro hk ha;cases z with|true=>exact ha|false=>exact ih hk ha
 |rc l ih=>intro hk ha;exact ih hk ha
 |tp l ih=>intro hk ha;exact ih hk ha
 |co a r iha ihr=>rintro⟨h1,h2⟩ ha;simp_all[iw]
 |_=>intro _ ha;exact ha
def LQ(h:H2):V->List C->Prop
 |.ni,cs=>cs=[]
 |.co a r,cs=>∃c m,cs=c::m/\(iw h a=true->ff h a [c])/\LQ h r m
 |_,_=>False
theorem FN{n:Nat}{h h':H2}(hs:jy n h h')(hnb:∀i,i<n->fO h i=none->fO h' i=none):∀{v:V}{cs:List C},eV n h v->LQ h v cs->LQ h' v cs:=by intro v;induction v with|co a r _ ihr=>rintro cs ⟨h1,h2⟩ ⟨c,m,rfl,h3,h4⟩;exact⟨c,m,rfl,fun ha=>lX hs h1 (h3 (xn hs hnb h1 ha)),ihr h2 h4⟩|ni=>intro cs _ h;exact h|_=>intro cs _ h;exact h.elim
structure R2(s1:St)(s:S2):Prop where
 cW:∀t v,bV s.cW t=some v->eV s.next s.heap v/\(iw s.heap v=true\/v=.no->∃x,bV s1.cW t=some x/\fC s.heap v x)
 hr:HR s.next s1.heap s.heap
 next:s1.next<=s.next
 gh:LQ s.heap s.gh s1.gh/\eV s.next s.heap s.gh
theorem MI{v:Value}(hp:ez v=true)(ha:∀cs,v≠.agg cs):cv v=some (.c (.d (.lit v))):=by unfold cv;simp_all
theorem JB{c:Value}{v:V}(hc:VG c=some v)(h:H2)(n:Nat):∃x,cv c=some x/\fC h v x/\eV n h v/\iw h v=true:=by
 unfold VG at hc;split at hc
 case h_10=>
  rename_i cs;split at hc
  .rename_i hp;obtain rfl:=aa hc;refine⟨.agg (cs.toList.map fun v=>.d _),by simp only[cv];rw[if_pos hp],bW (zK rfl ⟨hp,rfl⟩),trivial,hp⟩
  .simp at hc
 case h_11=>simp at hc
 all_goals
  obtain rfl:=aa hc;exact⟨_,MI rfl (fun cs e=>by cases e),bW (dv rfl (by first|rfl|exact⟨rfl,rfl⟩)),trivial,rfl⟩
theorem oX(hg:mG){s1:St}{s:S2}(hr:R2 s1 s){o:Operand}{v:V}(ho:LN s.cW s.heap o=some v):∃x,kz s1.cW o=some x/\fC s.heap v x/\eV s.next s.heap v/\iw s.heap v=true:=by
 cases o with
 |tmp t=>
  simp[LN]at ho;split at ho
  .rename_i w hw;obtain⟨ha,ho⟩:=aJ ho;obtain rfl:=aa ho;obtain⟨h3,h4⟩:=hr.cW t w hw;obtain⟨x,h1,h2⟩:=h4 (.inl ha);exact⟨x,h1,h2,h3,ha⟩
  .simp at ho
 |const c=>exact JB ho _ _
 |global g=>obtain⟨d,h1,h2⟩:=hg g v ho;exact⟨_,by simp[kz,h1],h2 _ _⟩
 |func f=>obtain rfl:=aa ho;exact⟨_,rfl,bW (dv rfl ⟨[],rfl,rfl⟩),trivial,rfl⟩
structure uy(s1:St)(s:S2)(q:Rg):Prop where
 r:R2 s1 s
 kn:∀g b,SX q.kn g=some b->bV s1.cW g=some (tB b)
 cd:∀t g b v,bV q.cd t=some (g,b,v)->∃c,bV s1.cW g=some (tB c)/\(c=b->∃x,bV s1.cW t=some x/\fC s.heap v x/\eV s.next s.heap v)
theorem R5{a b:Bool}(h:tB a=tB b):a=b:=by simpa[tB]using h
theorem wL(hg:mG){s1:St}{s:S2}{q:Rg}(hr:uy s1 s q){gc:Option (Nat×Bool)}(hgc:∀g b,gc=some (g,b)->bV s1.cW g=some (tB b)){o:Operand}{v:V}(ho:LO s q gc o=some v):
  ∃x,kz s1.cW o=some x/\fC s.heap v x/\eV s.next s.heap v/\iw s.heap v=true:=by
 cases o with
 |tmp t=>
  simp[LO]at ho;split at ho
  .rename_i g b w hw;obtain⟨hc,ho⟩:=aJ ho;obtain⟨ha,ho⟩:=aJ ho;obtain rfl:=aa ho;obtain⟨c,h1,h2⟩:=hr.cd t g b w hw
   have hb:bV s1.cW g=some (tB b):=by
    simp at hc;rcases hc with hc|hc
    .exact hgc g b hc
    .exact hr.kn g b hc
   rw[h1]at hb;obtain⟨x,h3,h4,h5⟩:=h2 (R5 (aa hb));exact⟨x,h3,h4,h5,ha⟩
  .exact oX hg hr.r ho
 |const c=>exact oX hg hr.r ho
 |global g=>exact oX hg hr.r ho
 |func f=>exact oX hg hr.r ho
theorem B_(hg:mG){s1:St}{s:S2}{q:Rg}(hr:uy s1 s q){gc:Option (Nat×Bool)}(hgc:∀g b,gc=some (g,b)->bV s1.cW g=some (tB b)):∀(os:List Operand)(vs:List V),Hq s q gc os=some vs->
  ∃xs,os.map (kz s1.cW)=xs.map some/\mS s.heap vs xs/\(∀w∈vs,eV s.next s.heap w)/\∀w∈vs,iw s.heap w=true:=by
 intro os;induction os with
 |nil=>intro vs ho;obtain rfl:=aa ho;exact⟨[],rfl,trivial,fun w hw=>by simp at hw,fun w hw=>by simp at hw⟩
 |cons o os ih=>
  intro vs ho;simp[Hq]at ho;split at ho
  .rename_i v l hv hl;obtain rfl:=aa ho;obtain⟨x,h1,h2,h3,h4⟩:=wL hg hr hgc hv;obtain⟨xs,g1,g2,g3,g4⟩:=ih l hl;refine⟨x::xs,by simp[h1,g1],⟨h2,g2⟩,fun w hw=>?_,fun w hw=>?_⟩
   .grind
   grind
  .simp at ho
theorem Oq{h:H2}{t:Ty}{w:V}{b:El t}{x:TV}(hd:kx t=true)(hx:fC h w x)(hc:uX t w=some b):fC h (.x t b) x:=by obtain⟨cs,h1,h2,h3⟩:=pq (Rv hc) hx;have e:=iW w false t b cs hc h1;have ha:=yi hc;exact bW ⟨cs,⟨hd,e⟩,fun q=>h2 (ha.trans q),fun q=>h3 (ha.trans q)⟩
theorem Fp{h:H2}{c:Bool}{a b v:V}{x:TV}(hm:Yt c a b=some v)(ha:iw h a=true)(hb:iw h b=true)(h1:c=true->fC h a x)(h2:c=false->fC h b x):fC h v x/\∀n,eV n h v:=by
 unfold Yt at hm;split at hm
 .obtain rfl:=aa hm;refine⟨?_,fun _=>trivial⟩;cases c with|true=>rw[xE (h1 rfl)];exact xb _|false=>rw[xE (h2 rfl)];exact xb _
 .split at hm
  .rename_i y hy;obtain rfl:=aa hm;refine⟨?_,fun _=>trivial⟩;cases c with|true=>exact h1 rfl|false=>exact Oq ha (h2 rfl) hy
  .simp at hm
 .split at hm
  .rename_i y hy;obtain rfl:=aa hm;refine⟨?_,fun _=>trivial⟩;cases c with|true=>exact Oq hb (h1 rfl) hy|false=>exact h2 rfl
  .simp at hm
 .simp at hm
theorem zq(hg:mG){e:List (Nat×V)}{h:H2}{o:Operand}{v:V}(ho:LN e h o=some v):iw h v=true:=by
 cases o with
 |tmp t=>
  simp[LN]at ho
  grind
 |const c=>obtain⟨_,_,_,_,ha⟩:=JB ho h 0;exact ha
 |global g=>obtain⟨d,_,h2⟩:=hg g v ho;exact(h2 h 0).2.2
 |func f=>obtain rfl:=aa ho;rfl
theorem I2(hg:mG){s:S2}{q:Rg}{gc:Option (Nat×Bool)}{o:Operand}{v:V}(ho:LO s q gc o=some v):iw s.heap v=true:=by
 cases o with
 |tmp t=>
  simp[LO]at ho;split at ho
  .grind
  .exact zq hg ho
 |const c=>exact zq (e:=s.cW) (o:=.const c) hg ho
 |global g=>exact zq (e:=s.cW) (o:=.global g) hg ho
 |func f=>exact zq (e:=s.cW) (o:=.func f) hg ho
theorem Ko(hg:mG){s1:St}{s:S2}{q:Rg}(hr:uy s1 s q){gc:Option (Nat×Bool)}(hgc:∀g b,gc=some (g,b)->bV s1.cW g=some (tB b)){os:List Operand}{v:V}(hp:MJ s q gc os=some v)(c:Call)(H:bp)(nx:Nat):
  ∃x,ci c .pick (os.map (kz s1.cW)) H nx=some (x,[],[],nx)/\fC s.heap v x/\eV s.next s.heap v:=by
 have one:∀(g a b:Operand)(t:Bool)(w:V),kz s1.cW g=some (tB t)->LO s q gc (bif t then a else b)=some w->∃x,ci c .pick ([g,a,b].map (kz s1.cW)) H nx=some (x,[],[],nx)/\fC s.heap w x/\eV s.next s.heap w:=by intro g a b t w h1 h2;obtain⟨x,h3,h4,h5,_⟩:=wL hg hr hgc h2;refine⟨x,?_,h4,h5⟩;simp[List.map_cons,h1];cases t with|true=>simp at h3;rw[h3];rfl|false=>simp at h3;rw[h3];rfl
 unfold MJ at hp;split at hp
 .rename_i g a b;split at hp
  .rename_i _ _ t hk;exact one _ a b t v (hr.kn g t hk) hp
  .rename_i t hk he;obtain⟨x,h1,h2⟩:=(hr.r.cW g _ he).2 (.inl rfl);rw[xE h2]at h1;exact one _ a b t v h1 hp
  .rename_i t hk he;obtain⟨x,h1,h2⟩:=(hr.r.cW g _ he).2 (.inl rfl)
   .rw [ID h2]at h1;split at hp
    .rename_i x y hx hy;have ax:=I2 hg hx;have ay:=I2 hg hy;cases t with|true=>obtain⟨z,g1,g2,_⟩:=wL hg hr (fun g' b' e=>by cases e;exact h1) hx;obtain⟨m1,m2⟩:=Fp hp ax ay (fun _=>g2) (fun e=>by cases e);refine⟨z,?_,m1,m2 _⟩;have h1':kz s1.cW (.tmp g)=some _:=h1;simp[h1',g1];rfl|false=>obtain⟨z,g1,g2,_⟩:=wL hg hr (fun g' b' e=>by cases e;exact h1) hy;obtain⟨m1,m2⟩:=Fp hp ax ay (fun e=>by cases e) (fun _=>g2);refine⟨z,?_,m1,m2 _⟩;have h1':kz s1.cW (.tmp g)=some _:=h1;simp[h1',g1];rfl
    .simp at hp
  .simp at hp
 .rename_i t a b;exact one _ a b t v rfl hp
 .simp at hp
theorem Kk{s:S2}{q:Rg}{gc:Option (Nat×Bool)}{os:List Operand}{vs:List V}(ho:Hq s q gc os=some vs)(hp:PO os=true):∀a k b,vs=[a,.x (.i k) b]->0<b:=by
 match os with
 |[o,.const (.int k' m)]=>
  simp[PO]at hp;simp[Hq,LO,LN,VG]at ho
  grind
theorem BP(hg:mG){s1:St}{s:S2}{q:Rg}(hr:uy s1 s q){gc:Option (Nat×Bool)}(hgc:∀g b,gc=some (g,b)->bV s1.cW g=some (tB b)){o:OP}{v:V}{l:List Nat}(ht:Pm o s q gc=some (v,l))(c:Call)(nx:Nat):
  ∃x av,ci c o.o.k (o.o.args.map (kz s1.cW)) s1.heap nx=some (x,[],av,nx)/\fC s.heap v x/\eV s.next s.heap v/\∀i∈av,i∈l:=by
 unfold Pm at ht;cases hpk:HM o.o.k with
 |true=>
  rw[hpk]at ht;split at ht
  .rename_i w hw;obtain⟨x,h1,h2,h3⟩:=Ko hg hr hgc hw c s1.heap nx
   grind [HM]
  .simp at ht
 |false=>
  rw[hpk,cond_false]at ht;split at ht
  .rename_i vs hvs;obtain⟨xs,h1,h2,h3,h4⟩:=B_ hg hr hgc _ _ hvs;rw[h1];exact JY hr.r.hr ht h2 h3 h4 (fun hp=>Kk hvs hp) c nx
  .simp at ht
theorem N5{P:Program}{β:Type}{tb:Gu}(htb:qt P tb)(hg:mG){s1:St}{s:S2}{q:Rg}(hr:uy s1 s q){gc:Option (Nat×Bool)}(hgc:∀g b,gc=some (g,b)->bV s1.cW g=some (tB b)){o:OP}{k:V->S2->List Nat->Option β}{z:β}
  (hz:VD tb o s q gc k=some z):∃v s' l,k v s' l=some z/\∃call:Call,fg P call/\∃x u av m,ci call o.o.k (o.o.args.map (kz s1.cW)) s1.heap s.next=some (x,u,av,m)/\sd s s' s1.heap x u av m v l:=by
 unfold VD at hz;split at hz
 .rename_i v l ht;obtain⟨x,av,h1,h2,h3,h4⟩:=BP hg hr hgc ht nM s.next;exact⟨v,s,l,hz,nM,lT,x,[],av,s.next,h1,sd.pure hr.r.hr h2 h3 h4⟩
 .split at hz
  .rename_i vs hvs;obtain⟨xs,h1,h2,h3,h4⟩:=B_ hg hr hgc _ _ hvs;split at hz
   .obtain ⟨y,ys,rfl,h5,h6⟩:=fX h2;obtain⟨v,s',l,e1,call,e2,x,u,av,m,e3,e4⟩:=Ij htb hz hr.r.hr h5 (h3 _ (by simp)) (h4 _ (by simp)) h6 (fun w hw=>h3 w (by simp[hw])) (fun w hw=>h4 w (by simp[hw]))
    grind
   .obtain ⟨v,s',l,e1,e2⟩:=Hl hz hr.r.hr h2 h3 h4;obtain⟨x,u,av,m,e3,e4⟩:=e2 nM
    grind [nM,lT]
  .simp at hz
end Go.Ev
