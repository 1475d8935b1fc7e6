/- Calls: the arguments, as they are laid. Conditions: as stated. -/
import Derived.Test.YtbcmbckpebpijaaDoorFq
open Bool renaming and_eq_true->ae,and_eq_true_iff->bX,and_self->fI,not_eq_true'->eE,or_eq_true->cV
open List renaming all_cons->ed,all_eq_true->aQ,append_assoc->aO,append_nil->aW,cons_append->aJ,drop_zero->bW,flatMap->gV,flatMap_cons->bd,headD_cons->bt,length_map->aK,map_cons->aq,map_nil->aR,mem_append->aj,mem_append_left->aC,mem_append_right->aA,mem_cons->aD,mem_cons_of_mem->av,mem_map->cU,mem_singleton->am,nil_sublist->fN,nodup_append->cA,singleton_append->aX,singleton_inj->dL
open List.Sublist renaming refl->br
open Nat renaming le_refl->ak,le_succ->bg,lt_succ_self->aS,zero_le->dK
open Option.some renaming inj->aa,injEq->bH
open Prod.mk renaming inj->ad
namespace Go.Ev
def I5(k:Nat):D:=match yy k with|.d x=>x|_=>default
theorem J8(k:Nat):yy k=.d (I5 k):=rfl
def mL:Sh->List V->List D×List V
 |.x _,.x u v::l=>(aN u v,l)
 |.pt _,.x u v::l=>([.pt (aN u v)],l)
 |.nl k,l=>([I5 k],l)
 |.fn f c,l=>([.fn f (mL c l).1],(mL c l).2)
 |.pr a c,l=>((mL a l).1++(mL c (mL a l).2).1,(mL c (mL a l).2).2)
 |_,l=>([],l)
def CY(t:Ty):Sl (El t)->Option (List (List D))
 |.nil=>none
 |.mk l=>some (l.map (aN t))
def sG(t:Ty):Sl (Sl (El t))->T
 |.nil=>.d (.lit (.slice none 0 0))
 |.mk l=>.ui (bC t) (l.map (CY t))
theorem CP{t:Ty}(l:List (Sl (El t))):pD (l.map (kQ t))=some (l.map (CY t)):=by induction l with|nil=>rfl|cons s l ih=>simp only[aq,pD,ih];cases s<;>rfl
theorem sI{t:Ty}(l:List (Sl (El t))):(l.map (CY t)).map jO=l.map (kQ t):=by rw[List.map_map];exact List.map_congr_left fun s _=>by cases s<;>rfl
def M7(k v:Ty)(m:Mp (El k) (El v)):T:=.mp (iF k) (iF v) (m.es.map (wn (pw k) (aN v))) m.bA
def dG:Sh->List V->List T×List V
 |.x _,.x u v::l=>((aN u v).map .d,l)
 |.os _,.x (.sl u) v::l=>([JE (bC u) (aN u) v],l)
 |.rw _,.x (.sl (.sl u)) v::l=>([sG u v],l)
 |.mp _ _,.x (.mp k v) m::l=>([M7 k v m],l)
 |.pb _ c,l=>([.pt (dG c l).1],(dG c l).2)
 |.nl k,l=>([.d (I5 k)],l)
 |.st c,l=>dG c l
 |.pr a c,l=>((dG a l).1++(dG c (dG a l).2).1,(dG c (dG a l).2).2)
 |.gn,l=>([.qV],l)
 |_,l=>([],l)
def rP:Sh->Bool
 |.x t=>iF t
 |.st _=>true
 |_=>false
def eV:List (Bool×Sh)->List V->List A
 |[],_=>[]
 |(true,c)::r,l=>.mt ((dG c l).1.headD default)::eV r (dG c l).2
 |(false,c)::r,l=>(bif rP c then .agg (mL c l).1 else .d ((mL c l).1.headD default))::eV r (mL c l).2
def kT:List Sh->List V->List R
 |[],_=>[]
 |c::r,l=>(bif rP c then .agg (dG c l).1 else .c ((dG c l).1.headD default))::kT r (dG c l).2
def ii:List Sh->List V->List T
 |[],_=>[]
 |c::r,l=>(dG c l).1.headD default::ii r (dG c l).2
def qX:Sh->Nat
 |.x t=>bC t+1
 |.pt t=>bC t+3
 |.fn _ c=>qX c+2
 |.pr a c=>qX a+qX c
 |.ni=>0
 |_=>1
section
variable{h:H2}{n:Nat}{h1:bl}
def vn:C->Prop
 |.d _|.dq _ _ _ _=>True
 |_=>False
theorem zO{c:C}(hc:vn c)(k j:Nat):cW h1 k c=cW h1 j c:=by cases c with|d x=>rw[lP,lP]|dq a b e f=>cases k<;>cases j<;>simp only[cW]|_=>exact hc.elim
theorem ss:∀{cs:List C}{ds:List D}{ap:List Nat}{k:Nat},(∀c∈cs,vn c)->cH h1 cs=some (ds,ap)->cs.length<k->eh h1 k cs=some (ds,ap):=by
 intro cs;induction cs with
 |nil=>intro ds ap k _ h _;simp only[cH]at h;rw[<-h];cases k<;>rfl
 |cons c cs ih=>
  intro ds ap k hf h hk;cases k with
  |zero=>simp at hk
  |succ k=>
   simp only[cH]at h;split at h
   .rename_i x a xs b hx hxs;simp only[eh];rw[zO (hf c (by simp)) k 300,hx,ih (fun c hc=>hf c (by simp[hc])) hxs (by simpa using hk)];exact h
   .simp at h
theorem vS:∀{x y:List C}{dx dy:List D}{ix iy:List Nat}{k:Nat},eh h1 k x=some (dx,ix)->eh h1 (k-x.length) y=some (dy,iy)->x.length<=k->eh h1 k (x++y)=some (dx++dy,ix++iy):=by
 intro x;induction x with
 |nil=>
  intro y dx dy ix iy k hx hy _;have:eh h1 k []=some ([],[]):=by cases k<;>rfl
  rw[this]at hx;obtain⟨rfl,rfl⟩:=ad (aa hx);simpa using hy
 |cons c x ih=>
  intro y dx dy ix iy k hx hy hk;cases k with
  |zero=>simp at hk
  |succ k=>
   simp only[eh]at hx;split at hx
   .rename_i p a q b hp hq;obtain⟨rfl,rfl⟩:=ad (aa hx);simp only[aJ,eh,hp];rw[ih hq (by simpa using hy) (by simpa using hk)];simp
   .simp at hx
theorem y6{α:Type}{sz id:Nat}{enc:α->List D}{s:Sl α}:vn (jm sz enc id s):=by cases s<;>trivial
theorem F6{id lo:Nat}{t:Ty}{r:Sl (El t)}:vn (rV id lo t r):=by cases r<;>trivial
theorem yX:∀(v w:V)(l:List Nat)(cs:List C),gb h v=some (w,l)->dE h v cs->ft h v=true->∀c∈cs,vn c:=by
 have fl:∀(ds:List D),∀c∈ds.map C.d,vn c:=fun ds c hc=>by obtain⟨d,_,rfl⟩:=cU.1 hc;trivial
 intro v;induction v with
 |so id=>
  intro w l cs hf hv _ c hc;simp only[gb]at hf;split at hf
  .rename_i t s l' hs;obtain⟨ver,ho,_⟩:=pE hs;obtain⟨c',rfl,hc'⟩:=hv;obtain rfl:=am.1 hc;rw[hc'.1 _ (jl ho)];exact y6
  .simp at hf
 |sr id=>
  intro w l cs hf hv _ c hc;simp only[gb]at hf;split at hf
  .rename_i t s ho;obtain⟨c',rfl,hc'⟩:=hv;obtain rfl:=am.1 hc;rw[hc'.1 _ (nU ho)];exact y6
  .simp at hf
 |sb id ver lo t r=>intro w l cs hf hv ha c hc;obtain⟨c',rfl,hc'⟩:=hv;obtain rfl:=am.1 hc;rw[hc'.1 (bX.1 ha).2];exact F6
 |rc r ih=>
  intro w l cs hf hv ha;simp only[gb]at hf;split at hf
  .rename_i w' l' hw;exact ih w' l' cs hw hv ha
  .simp at hf
 |co a r iha ihr=>
  intro w l cs hf hv ha c hc;simp only[gb]at hf;split at hf
  .rename_i x l1 y l2 hx hy;obtain⟨ca,cr,rfl,h2,h3⟩:=hv;simp only[ft,ae]at ha;rcases aj.1 hc with hc|hc
   .exact iha x l1 ca hx h2 ha.1 c hc
   .exact ihr y l2 cr hy h3 ha.2 c hc
  .simp at hf
 |x t v=>intro w l cs hf hv _;obtain⟨_,rfl⟩:=hv;exact fl _
 |kb c=>intro w l cs hf hv _;obtain rfl:=hv;exact fl [_]
 |nl k=>intro w l cs hf hv _;obtain rfl:=hv;exact fl [_]
 |fl q=>intro w l cs hf hv _;obtain⟨_,rfl⟩:=hv;rw[wt];exact fl _
 |ni=>intro w l cs hf hv _;obtain rfl:=hv;exact fl []
 |pt t v=>intro w l cs hf hv _;obtain⟨_,rfl⟩:=hv;exact fl [_]
 |fn z f q ih=>intro w l cs hf hv _;cases z with|true=>obtain⟨ds,_,rfl⟩:=hv;exact fl [_]|false=>simp[gb]at hf
 |_=>intro w l cs hf hv;simp[gb]at hf
theorem Gt:∀(v:V)(ds:List D),mo v=some ds->dE h v (ds.map .d):=by
 intro v;induction v with
 |co a r iha ihr=>
  intro ds hd;simp only[mo]at hd;split at hd
  .rename_i x y hx hy;obtain rfl:=aa hd;exact⟨_,_,by simp,iha x hx,ihr y hy⟩
  .simp at hd
 |pt t v=>
  intro ds hd;simp only[mo]at hd;split at hd
  .rename_i ht;obtain rfl:=aa hd;exact⟨ht,rfl⟩
  .simp at hd
 |ni=>intro ds hd;obtain rfl:[]=ds:=by simpa[mo]using hd
      rfl
 |_=>intro ds hd;simp[mo]at hd
theorem ue:∀(v:V),w_ v=true->ft h v=true/\∀n,dC n h v:=by intro v;induction v with|co a r iha ihr=>intro hv;simp only[w_,ae]at hv;exact⟨by simp only[ft,(iha hv.1).1,(ihr hv.2).1,fI],fun n=>⟨(iha hv.1).2 n,(ihr hv.2).2 n⟩⟩|pt t v=>intro hv;exact⟨hv,fun _=>trivial⟩|ni=>intro _;exact⟨rfl,fun _=>trivial⟩|_=>intro hv;simp[w_]at hv
theorem D6(hr:HR n h1 h):∀(c:Sh)(v:V)(l:List V)(i:List Nat)(cs:List C),kK h c v=some (l,i)->dE h v cs->dC n h v->ft h v=true->
  ∃ds ap,(∀k,qX c<=k->eh h1 k cs=some (ds,ap))/\(∀r,mL c (l++r)=(ds,r))/\(∀j∈ap,j∈i/\¬jH h j)/\(∀j∈i,j∈ap\/jH h j)/\cs.length<=qX c:=by
 intro c;induction c with
 |x t=>
  intro v l i cs ha hv hk hal;simp only[kK]at ha;split at ha
  .rename_i w l' hw;split at ha
   .rename_i y hy;obtain⟨rfl,rfl⟩:=ad (aa ha);obtain⟨ds,ap,f1,f2,f3,f4,_⟩:=ou hr v w l' cs hw hv hk hal;have e3:=lu (fT w false t y _ hy f2);subst e3;have hl:cs.length=bC t:=by rw[<-pz f1,bq]
    exact⟨_,ap,fun k hk=>ss (yX v w l' cs hw hv hal) f1 (by simp only[qX]at hk;omega),fun r=>rfl,f3,f4,by simp only[qX];omega⟩
   .simp at ha
  .simp at ha
 |pt t=>
  intro v l i cs ha hv hk hal;cases v with
  |pt u v=>
   simp only[kK]at ha;split at ha
   .rename_i y hy;obtain⟨rfl,rfl⟩:=ad (aa ha);obtain⟨e,_⟩:=ra hy;obtain⟨_,rfl⟩:=hv;refine⟨[.pt (aN t y)],[],fun k hk=>?_,fun r=>rfl,fun j hj=>by simp at hj,fun j hj=>by simp at hj,by simp[qX]⟩;rw[<-e];exact rU (h1:=h1) [.pt (aN t y)] k (by simp only[qX]at hk;simp;omega)
   .simp at ha
  |op id u p=>
   cases p with
   |cons=>simp[kK]at ha
   |nil=>
    obtain rfl:=hv;have e0:jM u []=0:=by cases u<;>rfl
    rw[e0];simp only[kK]at ha;split at ha
    .rename_i w c ho;obtain⟨hc,ha⟩:=aI ha;simp only[ae,decide_eq_true_eq]at hc;split at ha
     .rename_i c' l' hw;split at ha
      .rename_i y hy;obtain⟨rfl,rfl⟩:=ad (aa ha);obtain⟨_,⟨cb,e1,e2,e3⟩,e4⟩:=hr.ob id _ ho;obtain⟨ds,ap,f1,f2,f3,f4,_⟩:=ou hr c c' l' cb hw e2 e4 hc.2;have e5:=lu (fT c' false t y _ hy f2);subst e5;have hl:cb.length=bC t:=by rw[<-pz f1,bq]
       have hnil:¬jH h id:=by
        rintro(⟨u',v',e⟩|⟨u',ln',e⟩)
        .rcases e with e|e<;>rw[ho]at e<;>simp at e
        .rw [ho]at e;cases e
       refine⟨[.pt (aN t y)],id::ap,fun k hk=>?_,fun r=>rfl,fun j hj=>?_,fun j hj=>?_,by simp[qX]⟩
       .simp only[qX]at hk;obtain⟨k,rfl⟩:∃k',k=k'+2:=⟨k-2,by omega⟩
        have hv:eh h1 k cb=some (aN t y,ap):=ss (yX c c' l' cb hw e2 hc.2) f1 (by omega);simp only[eh,cW,e1,hv,dK,if_true,bW,aW]
       .rcases aD.1 hj with rfl|hj
        .exact ⟨by simp,hnil⟩
        .exact ⟨by simp[(f3 j hj).1],(f3 j hj).2⟩
       .rcases aD.1 hj with rfl|hj
        .exact .inl (by simp)
        .exact (f4 j hj).imp (fun q=>by simp[q]) (fun q=>q)
      .simp at ha
     .simp at ha
    .rename_i w v ho;obtain⟨hc,ha⟩:=aI ha;split at ha
     .rename_i y hy;obtain⟨rfl,rfl⟩:=ad (aa ha);obtain⟨e,_⟩:=ra hy;obtain⟨_,⟨_,e1⟩,_⟩:=hr.ob id _ ho
      have hnil:¬jH h id:=by
       rintro(⟨u',v',e⟩|⟨u',ln',e⟩)
       .rcases e with e|e<;>rw[ho]at e<;>simp at e
       .rw [ho]at e;cases e
      refine⟨[.pt (aN t y)],[id],fun k hk=>?_,fun r=>rfl,fun j hj=>?_,fun j hj=>.inl hj,by simp[qX]⟩
      .simp only[qX]at hk;obtain⟨k,rfl⟩:∃k',k=k'+2:=⟨k-2,by omega⟩
       simp only[eh,cW,e1,dK,if_true,bW,aW,e]
      .obtain rfl:=am.1 hj;exact⟨by simp,hnil⟩
     .simp at ha
    .simp at ha
  |ep id m u p=>
   cases p with
   |cons=>simp[kK]at ha
   |nil=>
    obtain rfl:=hv;have e0:jM u []=0:=by cases u<;>rfl
    rw[e0]
    have key:∀(w:Ty)(s:Sl (El w))(ver:Nat),(fO h id=some (.ar w s ver)\/fO h id=some (.im w s ver))->(bif decide (w=u)then(match ew w t (gt s.l m)with|some y=>some ([V.x t y],[id])|none=>none)else none)=some (l,i)->
      ∃ds ap,(∀k,qX (.pt t)<=k->eh h1 k [.ep id m 0]=some (ds,ap))/\(∀r,mL (.pt t) (l++r)=(ds,r))/\(∀j∈ap,j∈i/\¬jH h j)/\(∀j∈i,j∈ap\/jH h j)/\[C.ep id m 0].length<=qX (.pt t):=by
     intro w s ver ho ha;obtain⟨_,ha⟩:=aI ha;split at ha
     .rename_i y hy;obtain⟨rfl,rfl⟩:=ad (aa ha);obtain⟨e,_⟩:=ra hy;have hm:=hk.2.2.1 w s ver ho;cases s with
      |nil=>simp[Sl.l]at hm
      |mk q=>
       refine⟨[.pt (aN t y)],[id],fun k hk=>?_,fun r=>rfl,fun j hj=>?_,fun j hj=>.inl hj,by simp[qX]⟩
       .simp only[qX]at hk;obtain⟨k,rfl⟩:∃k',k=k'+1:=⟨k-1,by omega⟩
        have hg:(q.map (aN w))[m]?=some (aN w (gt q m)):=wB hm;have e2:aN w (gt q m)=aN t y:=e.symm;rcases ho with ho|ho
        .have e1:=(hr.ob id _ ho).2.1.2.2 q rfl;have:cW h1 k (.ep id m 0)=some (.pt (aN t y),[id]):=by cases k<;>simp only[cW,e1,hg,dK,if_true,bW,e2]
         simp only[eh,this,aW]
        .have e1:=(hr.ob id _ ho).2.1.2.2 q rfl;have:cW h1 k (.ep id m 0)=some (.pt (aN t y),[id]):=by cases k<;>simp only[cW,e1,hg,dK,if_true,bW,e2]
         simp only[eh,this,aW]
       .obtain rfl:=am.1 hj;exact⟨by simp,tf ho⟩
     .simp at ha
    simp only[kK]at ha;split at ha
    .rename_i ho;exact key _ _ _ (.inl ho) ha
    .rename_i ho;exact key _ _ _ (.inr ho) ha
    .simp at ha
  |_=>simp[kK]at ha
 |nl k=>
  intro v l i cs ha hv hk hal;cases v with
  |nl k'=>
   simp only[kK]at ha;obtain⟨hc,ha2⟩:=aI ha;obtain rfl:k=k':=by simpa using hc
   obtain⟨rfl,rfl⟩:=ad (aa ha2);obtain rfl:=hv;refine⟨[I5 k],[],fun j hj=>?_,fun r=>rfl,fun j hj=>by simp at hj,fun j hj=>by simp at hj,by simp[qX]⟩;simp only[qX]at hj;obtain⟨j,rfl⟩:∃k',j=k'+1:=⟨j-1,by omega⟩
   have e:eh h1 j []=some ([],[]):=by cases j<;>rfl
   rw[J8];simp only[eh,lP,e,aW]
  |_=>simp[kK]at ha
 |fn f c ih=>
  intro v l i cs ha hv hk hal;cases v with
  |fn z f' q=>
   simp only[kK]at ha;obtain⟨hc,ha2⟩:=aI ha;obtain rfl:f=f':=by simpa using hc
   cases z with
   |true=>
    obtain⟨ds0,hd,rfl⟩:=hv;have hal':w_ q=true:=hal;obtain⟨a1,a2⟩:=ue (h:=h) q hal';obtain⟨ds,ap,g1,g2,g3,g4,g5⟩:=ih q l i (ds0.map .d) ha2 (Gt q ds0 hd) (a2 n) a1;have e:=g1 (qX c+ds0.length+1) (by omega);rw[rU ds0 _ (by omega)]at e;obtain⟨rfl,rfl⟩:=ad (aa e);refine⟨[.fn f ds0],[],fun k hk=>?_,fun r=>?_,g3,g4,by simp[qX]⟩
    .simp only[qX]at hk;exact rU (h1:=h1) [.fn f ds0] k (by simp;omega)
    .simp only[mL,g2 r]
   |false=>
    obtain⟨xs,h2,rfl⟩:=hv;obtain⟨ds,ap,g1,g2,g3,g4,g5⟩:=ih q l i xs ha2 h2 hk hal;refine⟨[.fn f ds],ap,fun k hk=>?_,fun r=>?_,g3,g4,by simp[qX]⟩
    .simp only[qX]at hk;obtain⟨k,rfl⟩:∃k',k=k'+2:=⟨k-2,by omega⟩
     simp only[eh,cW,g1 k (by omega),aW]
    .simp only[mL,g2 r]
  |_=>simp[kK]at ha
 |pr a c iha ihc=>
  intro v l i cs ha hv hk hal;cases v with
  |co x r=>
   simp only[kK]at ha;split at ha
   .rename_i l1 i1 l2 i2 h2 h3;obtain⟨rfl,rfl⟩:=ad (aa ha);obtain⟨cx,cr,rfl,h4,h5⟩:=hv;simp only[ft,ae]at hal;obtain⟨d1,j1,a1,a2,a3,a4,a5⟩:=iha x l1 i1 cx h2 h4 hk.1 hal.1;obtain⟨d2,j2,b1,b2,b3,b4,b5⟩:=ihc r l2 i2 cr h3 h5 hk.2 hal.2;refine⟨d1++d2,j1++j2,fun k hk=>?_,fun r=>?_,fun j hj=>?_,fun j hj=>?_,by simp[qX];omega⟩
    .simp only[qX]at hk;exact vS (a1 k (by omega)) (b1 _ (by omega)) (by omega)
    .simp only[mL,aO,a2,b2]
    .rcases aj.1 hj with hj|hj
     .exact ⟨aC _ (a3 j hj).1,(a3 j hj).2⟩
     .exact ⟨aA _ (b3 j hj).1,(b3 j hj).2⟩
    .rcases aj.1 hj with hj|hj
     .exact (a4 j hj).imp (aC _) id
     .exact (b4 j hj).imp (aA _) id
   .simp at ha
  |_=>simp[kK]at ha
 |ni=>intro v l i cs ha hv hk hal;cases v with|ni=>obtain⟨rfl,rfl⟩:=ad (aa ha);obtain rfl:=hv;exact⟨[],[],fun k _=>(by cases k<;>rfl),fun r=>rfl,fun j hj=>by simp at hj,fun j hj=>by simp at hj,by simp⟩|_=>simp[kK]at ha
 |_=>intro v l i cs ha;simp[kK]at ha
end
def li:Sh->Nat
 |.x t=>bC t+1
 |.pb _ c=>li c+2
 |.st c=>li c
 |.pr a c=>li a+li c
 |.ni=>0
 |_=>1
section
variable{h:H2}{n:Nat}{h1:bl}
theorem qa(k:Nat)(x:D):cR h1 k (.d x)=some (.d x,[],[]):=by cases k<;>rfl
theorem lg(k:Nat):fF h1 k []=some ([],[],[]):=by cases k<;>rfl
theorem kY:∀(ds:List D)(k:Nat),ds.length<=k->fF h1 k (ds.map .d)=some (ds.map .d,[],[]):=by
 intro ds;induction ds with
 |nil=>intro k _;exact lg k
 |cons d ds ih=>intro k hk;cases k with|zero=>simp at hk|succ k=>simp only[aq,fF,qa,ih k (by simpa using hk),aW]
theorem p_:∀{x y:List C}{tx ty:List T}{ox oy ix iy:List Nat}{k:Nat},fF h1 k x=some (tx,ox,ix)->fF h1 (k-x.length) y=some (ty,oy,iy)->x.length<=k->fF h1 k (x++y)=some (tx++ty,ox++oy,ix++iy):=by
 intro x;induction x with
 |nil=>intro y tx ty ox oy ix iy k hx hy _;rw[lg]at hx;obtain⟨rfl,e⟩:=ad (aa hx);obtain⟨rfl,rfl⟩:=ad e;simpa using hy
 |cons c x ih=>
  intro y tx ty ox oy ix iy k hx hy hk;cases k with
  |zero=>simp at hk
  |succ k=>
   simp only[fF]at hx;split at hx
   .rename_i p a i q b j hp hq;obtain⟨rfl,e⟩:=ad (aa hx);obtain⟨rfl,rfl⟩:=ad e;simp only[aJ,fF,hp];rw[ih hq (by simpa using hy) (by simpa using hk)];simp
   .simp at hx
theorem mz{c:C}{t:T}{bf rd:List Nat}{k:Nat}(hc:cR h1 k c=some (t,bf,rd)):fF h1 (k+1) [c]=some ([t],bf,rd):=by simp only[fF,hc,lg,aW]
theorem MT{t:Ty}{id k:Nat}{q:List (Sl (El t))}(h:au h1 id=some (.nst (bC t) (du t q none))):cR h1 k (jm 1 (aN (.sl t)) id (Sl.mk q:Sl (Sl (El t))))=some (.ui (bC t) (q.map (CY t)),[id],[id]):=by simp only[jm,du]at h|-;cases k<;>simp only[cR,h,aK,and_self,if_true,CP]
theorem rf(hr:HR n h1 h):∀(c:Sh)(ln:Bool)(v:V)(l:List V)(i:List Nat)(cs:List C),cL h c ln v=some (l,i)->dE h v cs->dC n h v->
  ∃ts bf rd,(∀k,li c<=k->fF h1 k cs=some (ts,bf,rd))/\(∀r,dG c (l++r)=(ts,r))/\bf.Sublist i/\(∀j∈i,j∈bf\/jH h j)/\(∀j∈rd,j∈i)/\cs.length<=li c/\(∀j∈i,j<n):=by
 intro c;induction c with
 |x t=>
  intro ln v l i cs ha hv hk;cases ln with
  |true=>simp[cL]at ha
  |false=>
   simp only[cL]at ha;split at ha
   .rename_i y hy;obtain⟨rfl,rfl⟩:=ad (aa ha);have e:=fT v false t y cs hy hv;subst e;exact⟨_,[],[],fun k hk=>kY _ k (by rw[bq];simp only[li]at hk;omega),fun r=>rfl,br _,fun j hj=>by simp at hj,fun j hj=>hj,by simp[li,bq],fun j hj=>by simp at hj⟩
   .simp at ha
 |os t=>
  intro ln v l i cs ha hv hk;cases ln with
  |true=>simp[cL]at ha
  |false=>
   cases v with
   |so id=>
    simp only[cL]at ha;split at ha
    .rename_i u s ver ho;split at ha
     .rename_i s' hs;obtain⟨rfl,rfl⟩:=ad (aa ha);obtain⟨e,rfl⟩:=bV hs;cases e;obtain⟨c,rfl,hc⟩:=hv;rw[hc.1 _ (jl (.inl ho))];cases s with
      |nil=>exact⟨[.d (.lit (.slice none 0 0))],[],[],fun k hk=>kY [.lit (.slice none 0 0)] k (by simpa[li]using hk),fun r=>rfl,fN _,fun j hj=>by obtain rfl:=am.1 hj;exact .inr (.inl ⟨_,_,.inl ho⟩),fun j hj=>by simp at hj,by simp[li],fun j hj=>by obtain rfl:=am.1 hj;exact hk⟩
      |mk q=>
       have e1:=(hr.ob id _ ho).2.1.2.2 q rfl;refine⟨[.sl (bC t) (q.map (aN t))],[id],[id],fun k hk=>?_,fun r=>rfl,br _,fun j hj=>.inl hj,fun j hj=>hj,by simp[li],fun j hj=>by obtain rfl:=am.1 hj;exact hk⟩;obtain⟨k,rfl⟩:∃k',k=k'+1:=⟨k-1,by simp only[li]at hk;omega⟩
       exact mz (Nu e1)
     .simp at ha
    .simp at ha
   |nl k=>cases k with|zero=>obtain⟨rfl,rfl⟩:=ad (aa ha);obtain rfl:=hv;exact⟨[.d (.lit (.slice none 0 0))],[],[],fun k hk=>kY [.lit (.slice none 0 0)] k (by simpa[li]using hk),fun r=>rfl,br _,fun j hj=>by simp at hj,fun j hj=>hj,by simp[li],fun j hj=>by simp at hj⟩|succ k=>simp[cL]at ha
   |_=>simp[cL]at ha
 |rw t=>
  intro ln v l i cs ha hv hk;cases ln with
  |true=>simp[cL]at ha
  |false=>
   cases v with
   |sr id=>
    simp only[cL]at ha;split at ha
    .rename_i u s ho;split at ha
     .rename_i s' hs;obtain⟨rfl,rfl⟩:=ad (aa ha);obtain⟨e,rfl⟩:=bV hs;cases e;obtain⟨c,rfl,hc⟩:=hv;rw[hc.1 _ (nU ho)];cases s with
      |nil=>exact⟨[.d (.lit (.slice none 0 0))],[],[],fun k hk=>kY [.lit (.slice none 0 0)] k (by simpa[li]using hk),fun r=>rfl,fN _,fun j hj=>by obtain rfl:=am.1 hj;exact .inr (.inr ⟨_,_,ho⟩),fun j hj=>by simp at hj,by simp[li],fun j hj=>by obtain rfl:=am.1 hj;exact hk⟩
      |mk q=>
       have e1:=(hr.ob id _ ho).2.1.2.2 q rfl;refine⟨[.ui (bC t) (q.map (CY t))],[id],[id],fun k hk=>?_,fun r=>rfl,br _,fun j hj=>.inl hj,fun j hj=>hj,by simp[li],fun j hj=>by obtain rfl:=am.1 hj;exact hk⟩;obtain⟨k,rfl⟩:∃k',k=k'+1:=⟨k-1,by simp only[li]at hk;omega⟩
       exact mz (MT e1)
     .simp at ha
    .simp at ha
   |nl k=>cases k with|zero=>obtain⟨rfl,rfl⟩:=ad (aa ha);obtain rfl:=hv;exact⟨[.d (.lit (.slice none 0 0))],[],[],fun k hk=>kY [.lit (.slice none 0 0)] k (by simpa[li]using hk),fun r=>rfl,br _,fun j hj=>by simp at hj,fun j hj=>hj,by simp[li],fun j hj=>by simp at hj⟩|succ k=>simp[cL]at ha
   |_=>simp[cL]at ha
 |mp kt vt=>
  intro ln v l i cs ha hv hk;cases ln with
  |true=>simp[cL]at ha
  |false=>
   cases v with
   |om id=>
    simp only[cL]at ha;split at ha
    .rename_i k' v' m ho;split at ha
     .rename_i m' hm;obtain⟨rfl,rfl⟩:=ad (aa ha);obtain⟨e,rfl⟩:=bV hm;cases e;obtain rfl:=hv;have e1:=(hr.ob id _ ho).2.1.2.2;refine⟨[M7 kt vt m],[id],[id],fun k hk=>?_,fun r=>rfl,br _,fun j hj=>.inl hj,fun j hj=>hj,by simp[li],fun j hj=>by obtain rfl:=am.1 hj;exact hk⟩;obtain⟨k,rfl⟩:∃k',k=k'+1:=⟨k-1,by simp only[li]at hk;omega⟩
      have e2:cR h1 k (.om id)=some (M7 kt vt m,[id],[id]):=by cases k<;>simp only[cR,e1,rY]<;>rfl
      exact mz e2
     .simp at ha
    .simp at ha
   |_=>simp[cL]at ha
 |pb t c ih=>
  intro ln v l i cs ha hv hk;cases ln with
  |true=>simp[cL]at ha
  |false=>
   cases v with
   |op id u p=>
    cases p with
    |cons=>simp[cL]at ha
    |nil=>
     simp only[cL]at ha;split at ha
     .rename_i w q ho;obtain⟨hc,ha2⟩:=aI ha;split at ha2
      .rename_i l' i' ha3;obtain⟨rfl,rfl⟩:=ad (aa ha2);obtain rfl:=hv;have e0:jM u []=0:=by cases u<;>rfl
       rw[e0];obtain⟨_,⟨cb,e1,e2,e3⟩,e4⟩:=hr.ob id _ ho;obtain⟨ts,bf,rd,g1,g2,g3,g4,g5,g6,g7⟩:=ih false q l' i' cb ha3 e2 e4;refine⟨[.pt ts],id::bf,id::rd,fun k hk=>?_,fun r=>by simp only[dG,g2 r],g3.cons_cons _,fun j hj=>?_,fun j hj=>?_,by simp[li],fun j hj=>?_⟩
       .obtain ⟨k,rfl⟩:∃k',k=k'+2:=⟨k-2,by simp only[li]at hk;omega⟩
        refine mz ?_;simp only[cR,e1,g1 k (by simp only[li]at hk;omega)]
       .rcases aD.1 hj with rfl|hj
        .exact .inl (by simp)
        .exact (g4 j hj).imp (fun q=>by simp[q]) (fun q=>q)
       .rcases aD.1 hj with rfl|hj
        .simp
        .simp [g5 j hj]
       .rcases aD.1 hj with rfl|hj
        .exact hk.1
        .exact g7 j hj
      .simp at ha2
     .simp at ha
   |_=>simp[cL]at ha
 |nl k=>
  intro ln v l i cs ha hv hk;cases ln with
  |true=>simp[cL]at ha
  |false=>
   cases v with
   |nl k'=>
    simp only[cL]at ha;obtain⟨hc,ha2⟩:=aI ha;obtain rfl:k=k':=by simpa using hc
    obtain⟨rfl,rfl⟩:=ad (aa ha2);obtain rfl:=hv;exact⟨[.d (I5 k)],[],[],fun j hj=>kY [I5 k] j (by simpa[li]using hj),fun r=>rfl,br _,fun j hj=>by simp at hj,fun j hj=>hj,by simp[li],fun j hj=>by simp at hj⟩
   |_=>simp[cL]at ha
 |st c ih=>
  intro ln v l i cs ha hv hk;cases ln with
  |true=>simp[cL]at ha
  |false=>
   cases v with
   |rc q=>exact ih true q l i cs ha hv hk
   |x t v=>cases t with|st u=>obtain⟨hd,rfl⟩:=hv;exact ih true (CH u v) l i _ ha (vV u v hd) (zT u v)|_=>simp[cL]at ha
   |_=>simp[cL]at ha
 |pr a c iha ihc=>
  intro ln v l i cs ha hv hk;cases ln with
  |false=>simp[cL]at ha
  |true=>
   cases v with
   |co x r=>
    simp only[cL]at ha;split at ha
    .rename_i l1 i1 l2 i2 h2 h3;obtain⟨rfl,rfl⟩:=ad (aa ha);obtain⟨cx,cr,rfl,h4,h5⟩:=hv
     have hA:∃ts bf rd,(∀k,li a<=k->fF h1 k cx=some (ts,bf,rd))/\(∀r,dG a (l1++r)=(ts,r))/\bf.Sublist i1/\(∀j∈i1,j∈bf\/jH h j)/\(∀j∈rd,j∈i1)/\cx.length<=li a/\(∀j∈i1,j<n):=by
      split at h2
      .rename_i t u v;unfold Ka at h2;split at h2
       .obtain ⟨rfl,rfl⟩:=ad (aa h2);obtain⟨_,rfl⟩:=h4;exact⟨[.d (.lit (.slice none 0 0))],[],[],fun k hk=>kY [.lit (.slice none 0 0)] k (by simpa[li]using hk),fun r=>rfl,br _,fun j hj=>by simp at hj,fun j hj=>hj,by simp[li,aN],fun j hj=>by simp at hj⟩
       .simp at h2
      .rename_i t id ver lo u r;unfold MQ at h2;split at h2
       .rename_i w s0 v0 ho;obtain⟨hv,h5⟩:=aI h2;clear h2;obtain rfl:v0=ver:=by simpa using hv
        split at h5
        .rename_i s hs;obtain⟨rfl,rfl⟩:=ad (aa h5);obtain⟨e,rfl⟩:=bV hs;cases e;obtain⟨c1,rfl,hc1⟩:=h4;have hal:uf h id v0=true:=by simp[uf,ho]
         rw[hc1.1 hal];obtain⟨hid,hcut⟩:=hk.1;obtain⟨hz,hm⟩:=(hcut _ _ _ (.inl ho)).2 rfl;cases r with
         |nil=>cases s0 with|mk=>exact hm.elim|nil=>exact⟨[.d (.lit (.slice none 0 0))],[],[],fun k hk=>kY [.lit (.slice none 0 0)] k (by simpa[li]using hk),fun r=>rfl,fN _,fun j hj=>by obtain rfl:=am.1 hj;exact .inr (.inl ⟨_,_,.inl ho⟩),fun j hj=>by simp at hj,by simp[li],fun j hj=>by obtain rfl:=am.1 hj;exact hid⟩
         |mk m=>
          cases s0 with
          |nil=>exact hm.elim
          |mk l0=>
           have hlk:=(hr.ob id _ ho).2.1.2.2 l0 rfl;refine⟨[.sl (bC t) (m.map (aN t))],[id],[id],fun k hk=>?_,fun r=>rfl,br _,fun j hj=>.inl hj,fun j hj=>hj,by simp[li],fun j hj=>by obtain rfl:=am.1 hj;exact hid⟩;obtain⟨k,rfl⟩:∃k',k=k'+1:=⟨k-1,by simp only[li]at hk;omega⟩
           refine mz ?_;have e2:cR h1 k (.dq (bC t) id lo (m.map (aN t)).length)=some (.sl (bC t) (((l0.map (aN w)).drop lo).take (m.map (aN t)).length),[id],[id]):=by cases k<;>simp only[cR,hlk]<;>rw[if_pos (by simpa using hm.1)]
           rw[aK,hm.2]at e2;simpa[rV]using e2
        .simp at h5
       .simp at h2
      .exact iha false x l1 i1 cx h2 h4 hk.1
     obtain⟨t1,o1,r1,a1,a2,a3,a4,a5,a6,a7⟩:=hA;obtain⟨t2,o2,r2,b1,b2,b3,b4,b5,b6,b7⟩:=ihc true r l2 i2 cr h3 h5 hk.2;refine⟨t1++t2,o1++o2,r1++r2,fun k hk=>?_,fun r=>?_,a3.append b3,fun j hj=>?_,fun j hj=>?_,by simp[li];omega,fun j hj=>?_⟩
     .simp only[li]at hk;exact p_ (a1 k (by omega)) (b1 _ (by omega)) (by omega)
     .simp only[dG,aO,a2,b2]
     .rcases aj.1 hj with hj|hj
      .exact (a4 j hj).imp (aC _) (fun q=>q)
      .exact (b4 j hj).imp (aA _) (fun q=>q)
     .rcases aj.1 hj with hj|hj
      .exact aC _ (a5 j hj)
      .exact aA _ (b5 j hj)
     .rcases aj.1 hj with hj|hj
      .exact a7 j hj
      .exact b7 j hj
    .simp at ha
   |_=>simp[cL]at ha
 |ni=>
  intro ln v l i cs ha hv hk;cases ln with
  |false=>cases v<;>simp[cL]at ha
  |true=>cases v with|ni=>obtain⟨rfl,rfl⟩:=ad (aa ha);obtain rfl:=hv;exact⟨[],[],[],fun k _=>lg k,fun r=>rfl,br _,fun j hj=>by simp at hj,fun j hj=>hj,by simp,fun j hj=>by simp at hj⟩|_=>simp[cL]at ha
 |_=>intro ln v l i cs ha;cases ln<;>simp[cL]at ha
theorem zQ:∀(a b:List T)(m:Nat),fy m (a++b)=((fy m a).1++(fy (fy m a).2.2 b).1,(fy m a).2.1++(fy (fy m a).2.2 b).2.1,(fy (fy m a).2.2 b).2.2):=by intro a;induction a with|nil=>intro b m;simp[fy]|cons t a ih=>intro b m;simp only[aJ,fy,ih,aO]
theorem lQ(t:T)(m:Nat):fy m [t]=([(gY m t).1],(gY m t).2.1,(gY m t).2.2):=by simp[fy]
theorem Lu:∀(ds:List D)(m:Nat),fy m (ds.map T.d)=(ds.map .d,[],m+ds.length):=by intro ds;induction ds with|nil=>intro m;rfl|cons d ds ih=>intro m;simp only[aq,fy,gY,ih,List.nil_append,List.length_cons];congr 2;omega
theorem qL{a b:dD}(hd:∀p∈a,∀q∈b,p.1≠q.1)(i:Nat):au (a++b++h1) i=au (b++(a++h1)) i:=by rw[eI,eI,eI,<-cK,jw hd]
structure Mk(s s':S2)(h1:bl)(u:dD):Prop where
 hr:HR s'.next (u++h1) s'.heap
 dm:gm s.next s.heap s'.heap
 cG:s'.cG=s.cG
 gh:s'.gh=s.gh
 le:s.next<=s'.next
 AO:∀p∈u,s.next<=p.1/\p.1<s'.next
 wo:∃W,s'.wo=W++s.wo/\(∀p∈u,p.1∈W)/\(∀i∈W,s.next<=i/\i<s'.next)/\∀i,i∉W->fO s'.heap i=fO s.heap i
theorem Mk.skip{s:S2}{m:Nat}(hr:HR s.next h1 s.heap)(hm:s.next<=m):Mk s {s with next:=m} h1 []:=⟨hr.mono hm,gm.refl _ _,rfl,rfl,hm,fun p hp=>by simp at hp,[],rfl,fun p hp=>by simp at hp,fun i hi=>by simp at hi,fun _ _=>rfl⟩
theorem Mk.seq{s s1 s2:S2}{u1 u2:dD}(a:Mk s s1 h1 u1)(b:Mk s1 s2 (u1++h1) u2):Mk s s2 h1 (u1++u2):=by
 obtain⟨a3,a4,a5,a6,a7,a8,W,v1,v2,v3,v4⟩:=a;obtain⟨b3,b4,b5,b6,b7,b8,X,x1,x2,x3,x4⟩:=b;refine⟨?_,a4.trans a7 b4,b5.trans a5,b6.trans a6,by omega,fun p hp=>?_,X++W,by rw[x1,v1,aO],fun p hp=>?_,fun i hi=>?_,fun i hi=>?_⟩
 .exact b3.ext fun i=>qL (fun p hp q hq e=>by have:=(a8 p hp).2;have:=(b8 q hq).1;omega) i
 .rcases aj.1 hp with hp|hp
  .have:=a8 p hp;omega
  .have:=b8 p hp;omega
 .rcases aj.1 hp with hp|hp
  .exact aA _ (v2 p hp)
  .exact aC _ (x2 p hp)
 .rcases aj.1 hi with hi|hi
  .have:=x3 i hi;omega
  .have:=v3 i hi;omega
 .rw [x4 i fun q=>hi (aC _ q),v4 i fun q=>hi (aA _ q)]
end
section
variable{h:H2}{n:Nat}
theorem gm.bx{id:Nat}{t:Ty}{c:V}:gm n h ((id,some (.bx t c))::h):=⟨fun i o hi ho=>by
 rw[bZ]at ho;split at ho
 .obtain rfl:=aa ho;exact .inr rfl
 .exact .inl ⟨o,ho,nI.refl _⟩⟩
theorem Mk.one{s:S2}{h1:bl}{o:O}{b:Option Ob}{u:dD}(hr:HR s.next h1 s.heap)(hu:u=[(s.next,b)]\/(u=[]/\∀b',qf ((s.next,some o)::s.heap) o b'))(hb:u=[(s.next,b)]->qf ((s.next,some o)::s.heap) o b)
  (hko:xm (s.next+1) ((s.next,some o)::s.heap) o):Mk s (gk s o) h1 u:=by
 have hd:=mT.new (x:=.eU []) (v:=.no) (ap:=[]) (l:=[]) (m:=s.next+1) hr hu hb hko rfl trivial (fun i hi=>by simp at hi) (ak _);refine⟨hd.hr,hd.dm,rfl,rfl,bg _,fun p hp=>?_,[s.next],rfl,fun p hp=>?_,fun i hi=>?_,fun i hi=>?_⟩
 .rcases hu with rfl|⟨rfl,_⟩
  .obtain rfl:=am.1 hp;exact⟨ak _,aS _⟩
  .simp at hp
 .rcases hu with rfl|⟨rfl,_⟩
  .obtain rfl:=am.1 hp;simp
  .simp at hp
 .obtain rfl:=am.1 hi;exact⟨ak _,aS _⟩
 .simp only[gk];rw[bZ,if_neg fun e=>hi (by simp[e])]
theorem qg:∀(c:Sh)(ln:Bool)(l:List V)(s:S2)(w:V)(l':List V)(s':S2)(h1:bl),lX c ln l s=some (w,l',s')->HR s.next h1 s.heap->
  dE s'.heap w (fy s.next (dG c l).1).1/\dC s'.next s'.heap w/\Mk s s' h1 (fy s.next (dG c l).1).2.1/\s'.next=(fy s.next (dG c l).1).2.2/\l'=(dG c l).2/\(ln=false->oH w=rP c):=by
 intro c;induction c with
 |x t=>
  intro ln l s w l' s' h1 hm hr;cases ln with
  |true=>simp[lX]at hm
  |false=>match l with|.x u v::l=>simp only[lX]at hm;obtain⟨hc,hm2⟩:=aI hm;simp only[ae,decide_eq_true_eq]at hc;obtain⟨rfl,hd⟩:=hc;obtain⟨rfl,e⟩:=ad (aa hm2);obtain⟨rfl,rfl⟩:=ad e;simp only[dG,Lu,bq];exact⟨⟨hd,rfl⟩,trivial,Mk.skip hr (Nat.le_add_right _ _),trivial,trivial,fun _=>rfl⟩|[]|.kb _::_|.nl _::_|.so _::_|.sr _::_|.sb _ _ _ _ _::_|.op _ _ _::_|.ep _ _ _ _::_|.pt _ _::_|.fn _ _ _::_|.om _::_|.rc _::_|.tp _::_|.ni::_|.co _ _::_|.fl _::_|.no::_|.gn::_=>simp[lX]at hm
 |os t=>
  intro ln l s w l' s' h1 hm hr;cases ln with
  |true=>simp[lX]at hm
  |false=>
   match l with
   |.x (.sl u) v::l=>
    simp only[lX]at hm;obtain⟨hc,hm2⟩:=aI hm;simp only[ae,decide_eq_true_eq]at hc;obtain⟨rfl,hd⟩:=hc;obtain⟨d1,d2⟩:=l7 hd;obtain⟨rfl,e⟩:=ad (aa hm2);obtain⟨rfl,rfl⟩:=ad e;simp only[dG,lQ];have hv:dE (gk s (.ar u v 0)).heap (.so s.next) [jm (bC u) (aN u) s.next v]:=⟨_,rfl,fun c' hc'=>by simp only[gk,oW]at hc';exact aa hc',vY⟩
    cases v with|nil=>exact⟨hv,aS _,Mk.one (b:=none) hr (.inr ⟨rfl,fun b'=>⟨d1,d2,fun l e=>by cases e⟩⟩) (fun e=>by cases e) trivial,by first|rfl|trivial,by first|rfl|trivial,fun _=>rfl⟩|mk q=>exact⟨hv,aS _,Mk.one (b:=some (.aH (bC u) (q.map (aN u)))) hr (.inl rfl) (fun _=>⟨d1,d2,fun l e=>by cases e;rfl⟩) trivial,by first|rfl|trivial,by first|rfl|trivial,fun _=>rfl⟩
   |[]|.kb _::_|.nl _::_|.so _::_|.sr _::_|.sb _ _ _ _ _::_|.op _ _ _::_|.ep _ _ _ _::_|.pt _ _::_|.fn _ _ _::_|.om _::_|.rc _::_|.tp _::_|.ni::_|.co _ _::_|.fl _::_|.no::_|.gn::_=>simp[lX]at hm
   |.x (.i _) _::_|.x .b _::_|.x .s _::_|.x (.f _) _::_|.x (.mp _ _) _::_|.x .un _::_|.x (.pr _ _) _::_|.x (.st _) _::_|.x (.ar _ _) _::_|.x (.o _) _::_=>simp[lX]at hm
 |rw t=>
  intro ln l s w l' s' h1 hm hr;cases ln with
  |true=>simp[lX]at hm
  |false=>
   match l with
   |.x (.sl (.sl u)) v::l=>
    simp only[lX]at hm;obtain⟨hc,hm2⟩:=aI hm;simp only[ae,decide_eq_true_eq]at hc;obtain⟨rfl,hd⟩:=hc;obtain⟨d1,d2⟩:=l7 hd;obtain⟨rfl,e⟩:=ad (aa hm2);obtain⟨rfl,rfl⟩:=ad e;simp only[dG,lQ];have hv:dE (gk s (.rw u v none)).heap (.sr s.next) [jm 1 (aN (.sl u)) s.next (v:Sl (Sl (El u)))]:=⟨_,rfl,fun c' hc'=>by simp only[gk,oW]at hc';exact aa hc',vY⟩
    cases v with
    |nil=>exact⟨hv,aS _,Mk.one (b:=none) hr (.inr ⟨rfl,fun b'=>⟨d1,d2,fun l e=>by cases e⟩⟩) (fun e=>by cases e) trivial,by first|rfl|trivial,by first|rfl|trivial,fun _=>rfl⟩
    |mk q=>
     have e1:(gY s.next (sG u (.mk q))).1=jm 1 (aN (.sl u)) s.next (Sl.mk q:Sl (Sl (El u))):=by simp[sG,gY,jm]
     have e2:(gY s.next (sG u (.mk q))).2.1=[(s.next,some (.nst (bC u) (du u q none)))]:=by simp only[sG,gY,sI,du]
     rw[e1,e2];exact⟨hv,aS _,Mk.one (b:=some (.nst (bC u) (du u q none))) hr (.inl rfl) (fun _=>⟨d1,d2,fun l e=>by cases e;rfl⟩) trivial,by first|rfl|trivial,by first|rfl|trivial,fun _=>rfl⟩
   |[]|.kb _::_|.nl _::_|.so _::_|.sr _::_|.sb _ _ _ _ _::_|.op _ _ _::_|.ep _ _ _ _::_|.pt _ _::_|.fn _ _ _::_|.om _::_|.rc _::_|.tp _::_|.ni::_|.co _ _::_|.fl _::_|.no::_|.gn::_=>simp[lX]at hm
   |.x (.sl (.i _)) _::_|.x (.sl .b) _::_|.x (.sl .s) _::_|.x (.sl (.f _)) _::_|.x (.sl (.mp _ _)) _::_|.x (.sl .un) _::_|.x (.sl (.pr _ _)) _::_|.x (.sl (.st _)) _::_|.x (.sl (.ar _ _)) _::_|.x (.sl (.o _)) _::_|.x (.i _) _::_|.x .b _::_|.x .s _::_|.x (.f _) _::_|.x (.mp _ _) _::_|.x .un _::_|.x (.pr _ _) _::_|.x (.st _) _::_|.x (.ar _ _) _::_|.x (.o _) _::_=>simp[lX]at hm
 |mp kt vt=>
  intro ln l s w l' s' h1 hm hr;cases ln with
  |true=>simp[lX]at hm
  |false=>match l with|.x (.mp k' v') m::l=>simp only[lX]at hm;obtain⟨hc,hm2⟩:=aI hm;simp only[ae,decide_eq_true_eq]at hc;obtain⟨⟨⟨rfl,rfl⟩,hd⟩,hk⟩:=hc;obtain⟨ks,hks⟩:=Option.isSome_iff_exists.1 hk;obtain⟨rfl,e⟩:=ad (aa hm2);obtain⟨rfl,rfl⟩:=ad e;simp only[dG,lQ];exact⟨rfl,aS _,Mk.one (b:=rY (iF k') (iF v') (pw k') (aN v') m) hr (.inl rfl) (fun _=>⟨hd,⟨ks,hks⟩,rfl⟩) trivial,by first|rfl|trivial,by first|rfl|trivial,fun _=>rfl⟩|[]|.kb _::_|.nl _::_|.so _::_|.sr _::_|.sb _ _ _ _ _::_|.op _ _ _::_|.ep _ _ _ _::_|.pt _ _::_|.fn _ _ _::_|.om _::_|.rc _::_|.tp _::_|.ni::_|.co _ _::_|.fl _::_|.no::_|.gn::_=>simp[lX]at hm|.x (.i _) _::_|.x .b _::_|.x .s _::_|.x (.f _) _::_|.x (.sl _) _::_|.x .un _::_|.x (.pr _ _) _::_|.x (.st _) _::_|.x (.ar _ _) _::_|.x (.o _) _::_=>simp[lX]at hm
 |pb t c ih=>
  intro ln l s w l' s' h1 hm hr;cases ln with
  |true=>simp[lX]at hm
  |false=>
   simp only[lX]at hm;split at hm
   .rename_i w0 l0 s2 hm0;obtain⟨hf,hm2⟩:=aI hm;obtain⟨rfl,e⟩:=ad (aa hm2);obtain⟨rfl,rfl⟩:=ad e;obtain⟨q1,q2,q3,q4,q5,_⟩:=ih false l {s with next:=s.next+1} w0 l0 s2 h1 hm0 (hr.mono (bg _));simp only[dG,lQ,gY];obtain⟨a3,a4,a5,a6,a7,a8,W,v1,v2,v3,v4⟩:=q3;simp only at a4 a5 a6 a7 a8 v1 v3 v4;have hlt:s.next<s2.next:=by omega
    have hin:∀i,i∉W->fO s2.heap i=fO s.heap i:=v4;refine⟨?_,⟨hlt,by cases t<;>trivial⟩,⟨?_,?_,a5,a6,by show s.next<=s2.next;omega,fun p hp=>?_,s.next::W,by simp only[cX,v1];rfl,fun p hp=>?_,fun i hi=>?_,fun i hi=>?_⟩,q4,q5,fun _=>rfl⟩
    .show [_]=[_]
     have e0:jM t []=0:=by cases t<;>rfl
     rw[e0]
    .refine HR.vT (u:=[(s.next,some (.box _))]) a3 (ak _) hlt gm.bx (fun i hi=>?_) fun o' ho'=>?_
     .rw [aX,cE,if_neg fun e=>hi e.symm]
     .obtain rfl:=aa ho';refine⟨?_,eL (ak _) gm.bx q2⟩;rw[aX,cE,if_pos rfl];exact⟨_,rfl,iJ gm.bx q2 q1,hf⟩
    .exact gm.trans (n':=s2.next) (by omega) (⟨fun i o hi ho=>a4.ob i o (by omega) ho⟩:gm s.next s.heap s2.heap) gm.bx
    .simp only[cX];rcases aD.1 hp with rfl|hp
     .exact ⟨ak _,hlt⟩
     .have:=a8 p hp;omega
    .rcases aD.1 hp with rfl|hp
     .simp
     .exact av _ (v2 p hp)
    .simp only[cX];rcases aD.1 hi with rfl|hi
     .exact ⟨ak _,hlt⟩
     .have:=v3 i hi;omega
    .simp only[cX];rw[bZ,if_neg fun e=>hi (by simp[e]),hin i fun q=>hi (by simp[q])]
   .simp at hm
 |nl k=>intro ln l s w l' s' h1 hm hr;cases ln with|true=>simp[lX]at hm|false=>simp only[lX]at hm;obtain⟨rfl,e⟩:=ad (aa hm);obtain⟨rfl,rfl⟩:=ad e;simp only[dG,lQ,gY];exact⟨rfl,trivial,Mk.skip hr (bg _),by first|rfl|trivial,by first|rfl|trivial,fun _=>rfl⟩
 |st c ih=>
  intro ln l s w l' s' h1 hm hr;cases ln with
  |true=>simp[lX]at hm
  |false=>
   simp only[lX]at hm;split at hm
   .rename_i w0 l0 s2 hm0;obtain⟨rfl,e⟩:=ad (aa hm);obtain⟨rfl,rfl⟩:=ad e;obtain⟨q1,q2,q3,q4,q5,_⟩:=ih true l s w0 l0 s2 h1 hm0 hr;exact⟨q1,q2,q3,q4,q5,fun _=>rfl⟩
   .simp at hm
 |pr a c iha ihc=>
  intro ln l s w l' s' h1 hm hr;cases ln with
  |false=>simp[lX]at hm
  |true=>
   simp only[lX]at hm;split at hm
   .rename_i x l1 s1 hm1;split at hm
    .rename_i r l2 s2 hm2;obtain⟨rfl,e⟩:=ad (aa hm);obtain⟨rfl,rfl⟩:=ad e;obtain⟨q1,q2,q3,q4,q5,_⟩:=iha false l s x l1 s1 h1 hm1 hr;subst q5;obtain⟨p1,p2,p3,p4,p5,_⟩:=ihc true _ s1 r l2 s2 _ hm2 q3.hr;subst p5;simp only[dG,zQ];rw[q4]at p1 p3 p4;exact⟨⟨_,_,rfl,iJ p3.dm q2 q1,p1⟩,⟨eL p3.le p3.dm q2,p2⟩,Mk.seq q3 p3,p4,by first|rfl|trivial,fun e=>by cases e⟩
    .simp at hm
   .simp at hm
 |ni=>intro ln l s w l' s' h1 hm hr;cases ln with|false=>simp[lX]at hm|true=>simp only[lX]at hm;obtain⟨rfl,e⟩:=ad (aa hm);obtain⟨rfl,rfl⟩:=ad e;exact⟨rfl,trivial,Mk.skip hr (ak _),rfl,rfl,fun e=>by cases e⟩
 |_=>intro ln l s w l' s' h1 hm;cases ln<;>simp[lX]at hm
end
def HV:List (Bool×Sh)->List Bool->Bool
 |[],_=>true
 |(b,_)::r,ms=>decide (ms.headD false=b)&&HV r ms.tail
def qi:Sh->Bool
 |.os _|.rw _|.pb _ _|.nl _=>true
 |_=>false
def sY:Sh->Bool
 |.x t=>bC t==1
 |.os _|.rw _|.pb _ _|.nl _|.pt _|.fn _ _=>true
 |_=>false
def wa:List (Bool×Sh)->Bool
 |[]=>true
 |(b,c)::r=>(bif b then qi c&&Nat.ble (li c) 300 else(rP c||sY c)&&Nat.ble (qX c) 300)&&wa r
section
variable{h:H2}{n:Nat}{h1:bl}
def Jo(h:H2)(n:Nat)(h1:bl)(p:V×List Nat)(q:C×List Nat×List Nat):Prop:=
 dE h p.1 [q.1]/\dC n h p.1/\(∃t,cR h1 300 q.1=some (t,q.2.1,q.2.2))/\q.2.1.Sublist p.2/\(∀j∈p.2,j∈q.2.1\/jH h j)/\(∀j∈q.2.2,j∈p.2)/\(∀j∈p.2,j<n)/\
  match p.1 with|.so id=>p.2=[id]/\∃u s ver,fO h id=some (.ar u s ver)|.sr id=>p.2=[id]/\∃u s,fO h id=some (.rw u s none)|.op id _ _=>id∈p.2/\¬jH h id|.nl _=>True|_=>False
def rC(h:H2)(n:Nat)(h1:bl):List (V×List Nat)->List (C×List Nat×List Nat)->Prop
 |[],l=>l=[]
 |p::r,l=>∃q m,l=q::m/\Jo h n h1 p q/\rC h n h1 r m
theorem FZ{v w:V}{l:List Nat}(hf:gb h v=some (w,l)):oH v=oH w:=by
 cases v with
 |so id=>
  simp only[gb]at hf;split at hf
  .obtain ⟨rfl,_⟩:=ad (aa hf);rfl
  .simp at hf
 |sr id=>
  simp only[gb]at hf;split at hf
  .obtain ⟨rfl,_⟩:=ad (aa hf);rfl
  .simp at hf
 |sb id ver lo t r=>simp only[gb,o9]at hf;obtain⟨rfl,_⟩:=ad (aa hf);rfl
 |rc l=>
  simp only[gb]at hf;split at hf
  .obtain ⟨rfl,_⟩:=ad (aa hf);rfl
  .simp at hf
 |co a r=>
  simp only[gb]at hf;split at hf
  .obtain ⟨rfl,_⟩:=ad (aa hf);rfl
  .simp at hf
 |fn z f l=>cases z<;>simp[gb]at hf;rw[<-hf.1]
 |_=>first|(simp[gb]at hf;done)|(simp[gb]at hf;rw[<-hf.1])
theorem Fz{c:Sh}{v:V}{l:List V}{i:List Nat}{x:TV}(hr:HR n h1 h)(hl:qi c=true)(hf:li c<=300)(ha:cL h c false v=some (l,i))(hx:dV h v x)(hk:dC n h v):
  ∃cc t bf rd,x=.c cc/\cR h1 300 cc=some (t,bf,rd)/\(∀r,dG c (l++r)=([t],r))/\Jo h n h1 (v,i) (cc,bf,rd):=by
 have hp:HE v/\oH v=false:=by
  cases c<;>simp[qi]at hl
  all_goals(cases v<;>first|exact⟨trivial,rfl⟩|(simp[cL]at ha;done))
 obtain⟨cc,rfl,hc⟩:=fV (kP hp.1 hx) hp.2;obtain⟨ts,bf,rd,g1,g2,g3,g4,g5,g6,g7⟩:=rf hr c false v l i [cc] ha hc hk;have e:=g1 301 (by omega);simp only[fF,lg]at e;split at e
 .rename_i t a b x' b' j hp1 hp2;obtain⟨rfl,e2⟩:=ad (aa hp2);obtain⟨rfl,rfl⟩:=ad e2;clear e2;clear hp2;obtain⟨rfl,e3⟩:=ad (aa e);obtain⟨rfl,rfl⟩:=ad e3;refine⟨cc,t,_,_,rfl,by simpa using hp1,g2,hc,hk,⟨t,by simpa using hp1⟩,g3,g4,g5,g7,?_⟩;cases v with
  |so id=>
   cases c with
   |os t=>
    simp only[cL]at ha;split at ha
    .rename_i u s ver ho;split at ha
     .obtain ⟨_,rfl⟩:=ad (aa ha);exact⟨rfl,u,s,ver,ho⟩
     .simp at ha
    .simp at ha
   |_=>simp[cL,ff,qi]at ha hl
  |sr id=>
   cases c with
   |rw t=>
    simp only[cL]at ha;split at ha
    .rename_i u s ho;split at ha
     .obtain ⟨_,rfl⟩:=ad (aa ha);exact⟨rfl,u,s,ho⟩
     .simp at ha
    .simp at ha
   |_=>simp[cL,ff,qi]at ha hl
  |op id u p=>
   cases c with
   |pb t c=>
    cases p with
    |cons=>simp[cL]at ha
    |nil=>
     simp only[cL]at ha;split at ha
     .rename_i w q ho;obtain⟨_,ha2⟩:=aI ha;split at ha2
      .obtain ⟨_,rfl⟩:=ad (aa ha2);refine⟨by simp,?_⟩;rintro(⟨u',v',e⟩|⟨u',ln',e⟩)
       .rcases e with e|e<;>rw[ho]at e<;>simp at e
       .rw [ho]at e;cases e
      .simp at ha2
     .simp at ha
   |_=>simp[cL,ff,qi]at ha hl
  |nl k=>trivial
  |_=>(cases c<;>simp[qi]at hl<;>simp[cL]at ha)
 .simp at e
theorem zC(hr:HR n h1 h):∀(ps:List (Bool×Sh))(vs:List V)(ms:List Bool)(m:List V)(j:List Nat)(q:List (V×List Nat))(xs:List TV),pS h ps vs=some (m,j,q)->jj h vs xs->(∀w∈vs,dC n h w)->(∀w∈vs,ft h w=true)->HV ps ms=true->wa ps=true->
  ∃ap lent,eA h1 xs ms=some (eV ps m,ap,lent)/\(∀i∈ap,i∈j/\¬jH h i)/\(∀i∈j,i∈ap\/jH h i)/\rC h n h1 q lent:=by
 intro ps;induction ps with
 |nil=>intro vs ms m j q xs ha hx hk hal hm hp;cases vs with|cons=>simp[pS]at ha|nil=>obtain⟨rfl,e⟩:=ad (aa ha);obtain⟨rfl,rfl⟩:=ad e;obtain rfl:=ir hx;exact⟨[],[],rfl,fun i hi=>by simp at hi,fun i hi=>by simp at hi,rfl⟩
 |cons p ps ih=>
  obtain⟨b,c⟩:=p;intro vs ms m j q xs ha hx hk hal hm hp;cases vs with
  |nil=>simp[pS]at ha
  |cons v vs=>
   obtain⟨x,ys,rfl,hx1,hx2⟩:=ei hx;simp only[HV,ae,decide_eq_true_eq]at hm;simp only[wa,ae]at hp;simp only[pS]at ha;split at ha
   .rename_i m' j' q' hrest;obtain⟨ap,lent,e1,e2,e3,e4⟩:=ih vs ms.tail m' j' q' ys hrest hx2 (fun w hw=>hk w (by simp[hw])) (fun w hw=>hal w (by simp[hw])) hm.2 hp.2;cases b with
    |true=>
     simp only[cond_true]at ha;split at ha
     .rename_i l i ha2;obtain⟨rfl,e⟩:=ad (aa ha);obtain⟨rfl,rfl⟩:=ad e;have hp1:=hp.1;simp only[cond_true,ae,Nat.ble_eq]at hp1;obtain⟨cc,t,bf,rd,rfl,f1,f2,f3⟩:=Fz hr hp1.1 hp1.2 ha2 hx1 (hk v (by simp));refine⟨ap,(cc,bf,rd)::lent,?_,e2,e3,⟨_,_,rfl,f3,e4⟩⟩;rw[L0 f1 hm.1 e1];simp only[eV,f2,bt]
     .simp at ha
    |false=>
     simp only[cond_false]at ha;split at ha
     .rename_i l i ha2;obtain⟨rfl,e⟩:=ad (aa ha);obtain⟨rfl,rfl⟩:=ad e;have hp1:=hp.1;simp only[cond_false,ae,Nat.ble_eq,cV]at hp1;have hpl:HE v:=by cases v<;>first|trivial|(cases c<;>simp[kK,gb]at ha2)
      cases hs:rP c with
      |true=>
       cases c with
       |x t=>
        simp only[kK]at ha2;split at ha2
        .rename_i w l' hw;split at ha2
         .rename_i y hy;obtain⟨rfl,rfl⟩:=ad (aa ha2);obtain⟨cs,hc,h3,h4⟩:=kP hpl hx1;obtain⟨ds,is,f1,f2,f3,f4,_⟩:=ou hr v w l' cs hw hc (hk v (by simp)) (hal v (by simp));have e5:=lu (fT w false t y _ hy f2);subst e5;refine⟨is++ap,lent,?_,fun k hk=>?_,fun k hk=>?_,e4⟩
          .rw [h3 (((FZ hw).trans (q9 hy)).trans hs),KF f1 hm.1 e1];simp only[eV,hs,cond_true];rfl
          .rcases aj.1 hk with hk|hk
           .exact ⟨aC _ (f3 k hk).1,(f3 k hk).2⟩
           .exact ⟨aA _ (e2 k hk).1,(e2 k hk).2⟩
          .rcases aj.1 hk with hk|hk
           .exact (f4 k hk).imp (aC _) (fun q=>q)
           .exact (e3 k hk).imp (aA _) (fun q=>q)
         .simp at ha2
        .simp at ha2
       |st c=>simp[kK]at ha2
       |_=>simp[rP]at hs
      |false=>
       have hag:oH v=false:=by
        cases c with
        |x t=>
         simp only[kK]at ha2;split at ha2
         .rename_i w l' hw;split at ha2
          .rename_i y hy;exact((FZ hw).trans (q9 hy)).trans hs
          .simp at ha2
         .simp at ha2
        |_=>cases v<;>first|rfl|(simp[kK]at ha2;done)|(simp[rP]at hs;done)|(simp[sY,rP]at hp1;done)
       obtain⟨cs,hc,h3,h4⟩:=kP hpl hx1;obtain⟨ds,is,g1,g2,g3,g4,g5⟩:=D6 hr c v l i cs ha2 hc (hk v (by simp)) (hal v (by simp));refine⟨is++ap,lent,?_,fun k hk=>?_,fun k hk=>?_,e4⟩
       .obtain ⟨cc,rfl,rfl⟩:=h4 hag;have e:=g1 301 (by omega);have en:eh h1 300 []=some ([],[]):=rfl;simp only[eh,en]at e;split at e
        .rename_i d a xs' b' hv1 hv2;obtain⟨rfl,rfl⟩:=ad (aa hv2);clear hv2;obtain⟨rfl,rfl⟩:=ad (aa e);rw[Nj hv1 hm.1 e1];simp only[eV,hs,g2,cond_false,bt,aW]
        .simp at e
       .rcases aj.1 hk with hk|hk
        .exact ⟨aC _ (g3 k hk).1,(g3 k hk).2⟩
        .exact ⟨aA _ (e2 k hk).1,(e2 k hk).2⟩
       .rcases aj.1 hk with hk|hk
        .exact (g4 k hk).imp (aC _) (fun q=>q)
        .exact (e3 k hk).imp (aA _) (fun q=>q)
     .simp at ha
   .simp at ha
end
section
variable{h:H2}{n:Nat}{h1:bl}
structure Bk(s s':S2)(h1:bl)(I:List Nat)(u:dD):Prop where
 hr:HR s'.next (u++h1) s'.heap
 dm:gm s.next s.heap s'.heap
 cG:s'.cG=s.cG
 gh:s'.gh=s.gh
 le:s.next<=s'.next
 AO:∀p∈u,p.1∈I\/(s.next<=p.1/\p.1<s'.next)
 nb:∀i,i<s.next->fO s.heap i=none->fO s'.heap i=none
 wo:∃W,s'.wo=W++s.wo/\(∀p∈u,p.1∈W)/\∀i,i∉W->fO s'.heap i=fO s.heap i
theorem Bk.refl{s:S2}(hr:HR s.next h1 s.heap):Bk s s h1 [] []:=⟨hr,gm.refl _ _,rfl,rfl,ak _,fun p hp=>by simp at hp,fun _ _ h=>h,[],rfl,fun p hp=>by simp at hp,fun _ _=>rfl⟩
theorem Bk.seq{s s1 s2:S2}{I J:List Nat}{u1 u2:dD}(a:Bk s s1 h1 I u1)(b:Bk s1 s2 (u1++h1) J u2)(hd:∀i∈I,i∉J)(hI:∀i∈I,i<s.next)(hJ:∀j∈J,j<s.next):Bk s s2 h1 (I++J) (u1++u2):=by
 obtain⟨a3,a4,a5,a6,a7,a8,a9,W,v1,v2,v4⟩:=a;obtain⟨b3,b4,b5,b6,b7,b8,b9,X,x1,x2,x4⟩:=b;refine⟨b3.ext fun i=>qL (fun p hp q hq e=>?_) i,a4.trans a7 b4,b5.trans a5,b6.trans a6,by omega,fun p hp=>?_,fun i hi h=>b9 i (by omega) (a9 i hi h),X++W,by rw[x1,v1,aO],fun p hp=>?_,fun i hi=>?_⟩
 .rcases a8 p hp with h2|h2<;>rcases b8 q hq with h3|h3
  .exact hd _ h2 (e▸h3)
  .have:=hI _ h2;omega
  .have:=hJ _ h3;omega
  .omega
 .rcases aj.1 hp with hp|hp
  .rcases a8 p hp with h2|h2
   .exact .inl (aC _ h2)
   .exact .inr (by omega)
  .rcases b8 p hp with h2|h2
   .exact .inl (aA _ h2)
   .exact .inr (by omega)
 .rcases aj.1 hp with hp|hp
  .exact aA _ (v2 p hp)
  .exact aC _ (x2 p hp)
 .rw [x4 i fun q=>hi (aC _ q),v4 i fun q=>hi (aA _ q)]
theorem k7:∀(i:List Nat)(s:S2),(fX i s).cG=s.cG/\(fX i s).next=s.next/\(fX i s).gh=s.gh/\(fX i s).wo=i++s.wo/\∀j,fO (fX i s).heap j=if j∈i then none else fO s.heap j:=by
 intro i;induction i with
 |nil=>intro s;exact⟨rfl,rfl,rfl,rfl,fun j=>by simp[fX]⟩
 |cons a i ih=>
  intro s;obtain⟨h1,h2,h3,h4,h5⟩:=ih s;refine⟨h1,h2,h3,by simp[fX,cX,h4],fun j=>?_⟩;simp only[fX,cX,bZ,h5];by_cases e:a=j
  .subst e;simp
  .simp [e,Ne.symm e]
theorem gm.sub{g:H2}(hs:∀i o,fO g i=some o->fO h i=some o):gm n h g:=⟨fun i o _ ho=>.inl ⟨o,hs i o ho,nI.refl _⟩⟩
theorem HR.sub{g:H2}(hr:HR n h1 h)(hs:∀i o,fO g i=some o->fO h i=some o):HR n h1 g:=⟨fun i o ho=>let⟨a,b,c⟩:=hr.ob i o (hs i o ho);⟨a,lr (gm.sub hs) c b,ku (ak _) (gm.sub hs) c⟩⟩
theorem tE{i:List Nat}{s:S2}:∀j o,fO (fX i s).heap j=some o->fO s.heap j=some o:=by
 intro j o ho;rw[(k7 i s).2.2.2.2]at ho;split at ho
 .simp at ho
 .exact ho
theorem vf{bf:List Nat}{j:Nat}(hj:j∉bf):au (bf.map (fun i=>(i,(none:Option Ob)))++h1) j=au h1 j:=qM fun p hp e=>by obtain⟨i,hi,rfl⟩:=cU.1 hp;exact hj (e▸hi)
theorem Bk.i_{s:S2}{i bf:List Nat}(hr:HR s.next h1 s.heap)(ho:∀j∈bf,j∈i):Bk s (fX i s) h1 i (bf.map fun j=>(j,none)):=by
 obtain⟨k1,k2,k3,k4,k5⟩:=k7 i s;refine⟨⟨fun j o hj=>?_⟩,gm.sub tE,k1,k3,by omega,fun p hp=>?_,fun j _ h=>by rw[k5];split<;>first|rfl|exact h,i,k4,fun p hp=>?_,fun j hj=>by rw[k5,if_neg hj]⟩
 .obtain ⟨a,b,c⟩:=(hr.sub tE).ob j o hj;refine⟨by omega,?_,by rw[k2];exact c⟩;have:j∉i:=fun hm=>by rw[k5,if_pos hm]at hj;simp at hj
  rw[vf fun hm=>this (ho j hm)];exact b
 .obtain ⟨j,hj,rfl⟩:=cU.1 hp;exact .inl (ho j hj)
 .obtain ⟨j,hj,rfl⟩:=cU.1 hp;exact ho j hj
theorem oT{α:Type}{a b:Sl α}{u:Unit}(hl:Ds a b=some u):a.dZ=b.dZ/\a.l.length=b.l.length:=by
 cases a<;>cases b<;>simp[Ds]at hl
 .exact ⟨rfl,rfl⟩
 .exact ⟨rfl,Dt.1 hl⟩
theorem ow{c:C}{rd:List Nat}{x:D}{r:List (C×List Nat×List Nat)}{ts:List T}{m:Nat}:cQ m ((c,[],rd)::r) (.d x::ts)=cQ m r ts:=by simp only[cQ]
theorem sT{x:D}{t:T}{bf rd:List Nat}(hp:cR h1 300 (.d x)=some (t,bf,rd)):bf=[]:=by rw[qa]at hp;obtain⟨_,e⟩:=ad (aa hp);exact(ad e).1.symm
theorem Fl{q:List (V×List Nat)}{v:V}{i:List Nat}(hn:(gV (fun(p:V×List Nat)=>p.2) ((v,i)::q)).Nodup):(∀j∈i,j∉gV (fun(p:V×List Nat)=>p.2) q)/\(gV (fun(p:V×List Nat)=>p.2) q).Nodup:=by simp only[bd]at hn;exact⟨fun j hj hm=>(cA.1 hn).2.2 j hj j hm rfl,(cA.1 hn).2.1⟩
theorem rC.lt:∀{q:List (V×List Nat)}{lent:List (C×List Nat×List Nat)},rC h n h1 q lent->∀j∈gV (fun(p:V×List Nat)=>p.2) q,j<n:=by
 intro q;induction q with
 |nil=>intro lent _ j hj;simp at hj
 |cons p q ih=>
  rintro lent ⟨x,m,rfl,hx,hm⟩ j hj;simp only[bd,aj]at hj;rcases hj with hj|hj
  .exact hx.2.2.2.2.2.2.1 j hj
  .exact ih hm j hj
theorem GE{szi m id len k:Nat}{rows:List (Option (List (List D)))}{rd:List Nat}{r:List (C×List Nat×List Nat)}{ts:List T}{w:dD}(hl:rows.length=len)(hr:cQ m r ts=some (w,k)):
  cQ m ((.dq 1 id 0 len,[id],rd)::r) (.ui szi rows::ts)=some ((id,some (.nst szi (rows.map jO)))::w,k):=by
 simp only[cQ,hl,hr,and_self,if_true]
theorem ua{β:Type}{z:β}(hr0:HR n h1 h):∀(os:List Sh)(q:List (V×List Nat))(lent:List (C×List Nat×List Nat))(l:List V)(s:S2)(H:bl)(k:S2->Option β),c_ os q l s k=some z->rC h n h1 q lent->n<=s.next->HR s.next H s.heap->gm n h s.heap->
  (gV (fun(p:V×List Nat)=>p.2) q).Nodup->∃s1 bu,k s1=some z/\cQ s.next lent (ii os l)=some (bu,s1.next)/\Bk s s1 H (gV (fun(p:V×List Nat)=>p.2) q) bu:=by
 intro os;induction os with
 |nil=>
  intro q lent l s H k hb hl hn hr dm hnd;cases q with
  |cons p q=>simp[c_]at hb
  |nil=>cases l with|cons=>simp[c_]at hb|nil=>obtain rfl:lent=[]:=hl;exact⟨s,[],hb,rfl,Bk.refl hr⟩
 |cons o os ih=>
  intro q lent l s H k hb hl hn hr dm hnd;cases q with
  |nil=>cases o<;>simp[c_]at hb
  |cons p q=>
   obtain⟨v,i⟩:=p;obtain⟨⟨c,bf,rd⟩,m,rfl,⟨hc,hkv,⟨tp,hpk⟩,hsub,hcov,hrd,hlt,hsh⟩,hl2⟩:=hl;obtain⟨hd,hnd2⟩:=Fl hnd;have hI:∀j∈i,j<s.next:=fun j hj=>by have:j<n:=hlt j hj;omega
   have hJ:∀j∈gV (fun(p:V×List Nat)=>p.2) q,j<s.next:=fun j hj=>by have:=hl2.lt j hj;omega
   cases o with
   |nl kk=>cases i with|cons=>simp[c_]at hb|nil=>simp only[c_]at hb;obtain⟨s1,bu,e1,e2,e3⟩:=ih q m l s H k hb hl2 hn hr dm hnd2;have:bf=[]:=List.sublist_nil.1 hsub;subst this;exact⟨s1,bu,e1,by simp only[ii,dG,bt,ow];exact e2,by simpa using e3⟩
   |gn=>simp only[c_]at hb;obtain⟨k1,k2,k3,k4,k5⟩:=k7 i s;have b1:Bk s (fX i s) H i (bf.map fun j=>(j,none)):=Bk.i_ hr fun j hj=>hsub.subset hj;obtain⟨s1,bu,e1,e2,e3⟩:=ih q m l (fX i s) _ k hb hl2 (by omega) b1.hr (dm.trans hn b1.dm) hnd2;rw[k2]at e2;exact⟨s1,_,e1,by simp only[ii,dG,bt];exact D2 e2,by simpa using b1.seq e3 hd hI hJ⟩
   |os t=>
    cases v with
    |nl kk=>
     cases kk with
     |succ=>cases l with|nil=>simp[c_]at hb|cons w l=>cases w<;>simp[c_]at hb
     |zero=>
      cases i with
      |cons=>cases l with|nil=>simp[c_]at hb|cons w l=>cases w<;>simp[c_]at hb
      |nil=>
       match l with
       |.x (.sl u) v::l=>
        simp only[c_]at hb;split at hb
        .rename_i v' hv;obtain⟨e,rfl⟩:=bV hv;cases e;obtain⟨_,hls,hb2⟩:=mP hb;obtain⟨hni,_⟩:=oT hls;obtain⟨s1,bu,e1,e2,e3⟩:=ih q m l s H k hb2 hl2 hn hr dm hnd2;have:bf=[]:=List.sublist_nil.1 hsub;subst this;refine⟨s1,bu,e1,?_,by simpa using e3⟩;cases v with|mk=>simp[Sl.dZ]at hni|nil=>simp only[ii,dG,bt,JE,ow];exact e2
        .simp at hb
       |[]|.kb _::_|.nl _::_|.so _::_|.sr _::_|.sb _ _ _ _ _::_|.op _ _ _::_|.ep _ _ _ _::_|.pt _ _::_|.fn _ _ _::_|.om _::_|.rc _::_|.tp _::_|.ni::_|.co _ _::_|.fl _::_|.no::_|.gn::_=>simp[c_]at hb
       |.x (.i _) _::_|.x .b _::_|.x .s _::_|.x (.f _) _::_|.x (.mp _ _) _::_|.x .un _::_|.x (.pr _ _) _::_|.x (.st _) _::_|.x (.ar _ _) _::_|.x (.o _) _::_=>simp[c_]at hb
    |so id=>
     match l with
     |.x (.sl u) v::l=>
      simp only[c_]at hb;split at hb
      .rename_i w old ver v' ho hv;obtain⟨e,rfl⟩:=bV hv;cases e;split at hb
       .rename_i v2 hv2;obtain⟨e,rfl⟩:=bV hv2;cases e;obtain⟨_,hls,hb2⟩:=mP hb;obtain⟨hni,hln⟩:=oT hls;obtain⟨rfl,u0,s0,ver0,ho0⟩:=hsh;have hid:id<n:=hkv;obtain⟨o1,ho1,hos⟩:=(dm.ob id _ hid ho).resolve_right (by simp[Ie]);rw[ho0]at ho1;obtain rfl:=aa ho1;obtain⟨_,rfl,hn1,hn2,_⟩:=hos;obtain⟨cc,ece,hcc⟩:=hc;obtain rfl:=dL.1 ece;have ec:=hcc.1 _ (jl (.inl ho0));obtain⟨q1,q2,q3⟩:=(hr.ob id _ ho).2.1;have hosn:nI (.ar u0 old ver) (.ar u0 v (ver+1)):=⟨bg _,rfl,hni.symm,hln.symm,fun e=>by omega⟩
        have key:∀(uu:dD),(∀p∈uu,p.1=id)->(∀l,v=.mk l->au (uu++H) id=some (.aH (bC u0) (l.map (aN u0))))->Bk s (cX s id (some (.ar u0 v (ver+1)))) H [id] uu:=by intro uu hu hlk;have d:=nw (x:=.eU []) (v:=.no) (ap:=[]) (l:=[]) hr ho hni.symm hln.symm hu hlk (fun _=>rfl) (fun _ _=>trivial) (fun i hi=>by simp at hi);exact⟨d.hr,d.dm,rfl,rfl,ak _,fun p hp=>.inl (by simp[hu p hp]),d.nb,[id],rfl,fun p hp=>by simp[hu p hp],fun j hj=>by simp only[cX];rw[bZ,if_neg fun e=>hj (by simp[e])]⟩
        cases v with
        |nil=>
         have b1:=key [] (fun p hp=>by simp at hp) (fun l e=>by cases e);obtain⟨s1,bu,f1,f2,e3⟩:=ih q m l _ _ k hb2 hl2 hn b1.hr (dm.trans hn b1.dm) hnd2;have hnil:s0.dZ=true:=by rw[hn1,<-hni];rfl
         cases s0 with|mk=>simp[Sl.dZ]at hnil|nil=>subst ec;have:=sT hpk;subst this;refine⟨s1,bu,f1,?_,by simpa using b1.seq e3 hd hI hJ⟩;simp only[ii,dG,bt,JE,ow];exact f2
        |mk vl=>
         have b1:=key [(id,some (.aH (bC u0) (vl.map (aN u0))))] (fun p hp=>by simp at hp;simp[hp]) (fun l e=>by cases e;rw[aX,cE,if_pos rfl]);obtain⟨s1,bu,f1,f2,e3⟩:=ih q m l _ _ k hb2 hl2 hn b1.hr (dm.trans hn b1.dm) hnd2;have hnil:s0.dZ=false:=by rw[hn1,<-hni];rfl
         cases s0 with|nil=>simp[Sl.dZ]at hnil|mk nV=>subst ec;have hlk:=(hr0.ob id _ ho0).2.1.2.2 nV rfl;have hp2:=Nu (k:=300) hlk;simp only[jm]at hpk;rw[hp2]at hpk;obtain⟨_,e⟩:=ad (aa hpk);obtain⟨rfl,rfl⟩:=ad e;refine⟨s1,_,f1,?_,by simpa using b1.seq e3 hd hI hJ⟩;simp only[ii,dG,bt,JE,jm];refine IG ?_ f2;simp only[Sl.l]at hn2 hln;simp only[aK];omega
       .simp at hb
      .simp at hb
     |[]|.kb _::_|.nl _::_|.so _::_|.sr _::_|.sb _ _ _ _ _::_|.op _ _ _::_|.ep _ _ _ _::_|.pt _ _::_|.fn _ _ _::_|.om _::_|.rc _::_|.tp _::_|.ni::_|.co _ _::_|.fl _::_|.no::_|.gn::_=>simp[c_]at hb
     |.x (.i _) _::_|.x .b _::_|.x .s _::_|.x (.f _) _::_|.x (.mp _ _) _::_|.x .un _::_|.x (.pr _ _) _::_|.x (.st _) _::_|.x (.ar _ _) _::_|.x (.o _) _::_=>simp[c_]at hb
    |_=>simp[c_]at hb
   |rw t=>
    cases v with
    |nl kk=>
     cases kk with
     |succ=>cases l with|nil=>simp[c_]at hb|cons w l=>cases w<;>simp[c_]at hb
     |zero=>
      cases i with
      |cons=>cases l with|nil=>simp[c_]at hb|cons w l=>cases w<;>simp[c_]at hb
      |nil=>
       match l with
       |.x (.sl (.sl u)) v::l=>
        simp only[c_]at hb;split at hb
        .rename_i v' hv;obtain⟨e,rfl⟩:=bV hv;cases e;obtain⟨_,hls,hb2⟩:=mP hb;obtain⟨hni,_⟩:=oT hls;obtain⟨s1,bu,e1,e2,e3⟩:=ih q m l s H k hb2 hl2 hn hr dm hnd2;have:bf=[]:=List.sublist_nil.1 hsub;subst this;refine⟨s1,bu,e1,?_,by simpa using e3⟩;cases v with|mk=>simp[Sl.dZ]at hni|nil=>simp only[ii,dG,bt,sG,ow];exact e2
        .simp at hb
       |[]|.kb _::_|.nl _::_|.so _::_|.sr _::_|.sb _ _ _ _ _::_|.op _ _ _::_|.ep _ _ _ _::_|.pt _ _::_|.fn _ _ _::_|.om _::_|.rc _::_|.tp _::_|.ni::_|.co _ _::_|.fl _::_|.no::_|.gn::_=>simp[c_]at hb
       |.x (.sl (.i _)) _::_|.x (.sl .b) _::_|.x (.sl .s) _::_|.x (.sl (.f _)) _::_|.x (.sl (.mp _ _)) _::_|.x (.sl .un) _::_|.x (.sl (.pr _ _)) _::_|.x (.sl (.st _)) _::_|.x (.sl (.ar _ _)) _::_|.x (.sl (.o _)) _::_|.x (.i _) _::_|.x .b _::_|.x .s _::_|.x (.f _) _::_|.x (.mp _ _) _::_|.x .un _::_|.x (.pr _ _) _::_|.x (.st _) _::_|.x (.ar _ _) _::_|.x (.o _) _::_=>simp[c_]at hb
    |sr id=>
     match l with
     |.x (.sl (.sl u)) v::l=>
      simp only[c_]at hb;split at hb
      .rename_i w old ln v' ho hv;obtain⟨e,rfl⟩:=bV hv;cases e;split at hb
       .rename_i v2 hv2;obtain⟨e,rfl⟩:=bV hv2;cases e;obtain⟨_,hls,hb2⟩:=mP hb;obtain⟨hni,hln⟩:=oT hls;obtain⟨rfl,u0,s0,ho0⟩:=hsh;have hid:id<n:=hkv;obtain⟨o1,ho1,hos⟩:=(dm.ob id _ hid ho).resolve_right (by simp[Ie]);rw[ho0]at ho1;obtain rfl:=aa ho1;obtain⟨rfl,hn1,hn2⟩:=hos;obtain⟨cc,ece,hcc⟩:=hc;obtain rfl:=dL.1 ece;have ec:=hcc.1 _ (nU ho0);obtain⟨q1,q2,q3⟩:=(hr.ob id _ ho).2.1;have hosn:nI (.rw u0 old ln) (.rw u0 v none):=⟨rfl,hni.symm,hln.symm⟩
        have key:∀(uu:dD),(∀p∈uu,p.1=id)->(∀l,v=.mk l->au (uu++H) id=some (.nst (bC u0) (du u0 l none)))->Bk s (cX s id (some (.rw u0 v none))) H [id] uu:=by intro uu hu hlk;have d:=Bz (x:=.eU []) (v:=.no) (ap:=[]) (l:=[]) hr ho hosn hu ⟨q1,q2,hlk⟩ trivial rfl trivial (fun i hi=>by simp at hi);exact⟨d.hr,d.dm,rfl,rfl,ak _,fun p hp=>.inl (by simp[hu p hp]),d.nb,[id],rfl,fun p hp=>by simp[hu p hp],fun j hj=>by simp only[cX];rw[bZ,if_neg fun e=>hj (by simp[e])]⟩
        cases v with
        |nil=>
         have b1:=key [] (fun p hp=>by simp at hp) (fun l e=>by cases e);obtain⟨s1,bu,f1,f2,e3⟩:=ih q m l _ _ k hb2 hl2 hn b1.hr (dm.trans hn b1.dm) hnd2;have hnil:s0.dZ=true:=by rw[hn1,<-hni];rfl
         cases s0 with|mk=>simp[Sl.dZ]at hnil|nil=>subst ec;have:=sT hpk;subst this;refine⟨s1,bu,f1,?_,by simpa using b1.seq e3 hd hI hJ⟩;simp only[ii,dG,bt,sG,ow];exact f2
        |mk vl=>
         have b1:=key [(id,some (.nst (bC u0) (du u0 vl none)))] (fun p hp=>by simp at hp;simp[hp]) (fun l e=>by cases e;rw[aX,cE,if_pos rfl]);obtain⟨s1,bu,f1,f2,e3⟩:=ih q m l _ _ k hb2 hl2 hn b1.hr (dm.trans hn b1.dm) hnd2;have hnil:s0.dZ=false:=by rw[hn1,<-hni];rfl
         cases s0 with|nil=>simp[Sl.dZ]at hnil|mk nV=>subst ec;have hlk:=(hr0.ob id _ ho0).2.1.2.2 nV rfl;have hp2:=MT (k:=300) hlk;simp only[jm]at hpk hp2;rw[hp2]at hpk;obtain⟨_,e⟩:=ad (aa hpk);obtain⟨rfl,rfl⟩:=ad e;refine⟨s1,_,f1,?_,by simpa using b1.seq e3 hd hI hJ⟩;simp only[ii,dG,bt,sG,jm,aK];rw[show du u0 vl none=(vl.map (CY u0)).map jO from(sI vl).symm];refine GE ?_ f2;rw[aK];exact hln.trans hn2.symm
       .simp at hb
      .simp at hb
     |[]|.kb _::_|.nl _::_|.so _::_|.sr _::_|.sb _ _ _ _ _::_|.op _ _ _::_|.ep _ _ _ _::_|.pt _ _::_|.fn _ _ _::_|.om _::_|.rc _::_|.tp _::_|.ni::_|.co _ _::_|.fl _::_|.no::_|.gn::_=>simp[c_]at hb
     |.x (.sl (.i _)) _::_|.x (.sl .b) _::_|.x (.sl .s) _::_|.x (.sl (.f _)) _::_|.x (.sl (.mp _ _)) _::_|.x (.sl .un) _::_|.x (.sl (.pr _ _)) _::_|.x (.sl (.st _)) _::_|.x (.sl (.ar _ _)) _::_|.x (.sl (.o _)) _::_|.x (.i _) _::_|.x .b _::_|.x .s _::_|.x (.f _) _::_|.x (.mp _ _) _::_|.x .un _::_|.x (.pr _ _) _::_|.x (.st _) _::_|.x (.ar _ _) _::_|.x (.o _) _::_=>simp[c_]at hb
    |_=>simp[c_]at hb
   |pb t c2=>
    cases v with
    |op id u p=>
     cases p with
     |cons=>simp[c_]at hb
     |nil=>
      simp only[c_]at hb;split at hb
      case h_2=>simp at hb
      rename_i oid hoid;split at hb
      .rename_i w l' s2 hm;obtain⟨hf,hb2⟩:=aI hb;simp only[ae,decide_eq_true_eq]at hf;obtain⟨hf,rfl⟩:=hf;obtain⟨g1,g2,g3,g4,g5,_⟩:=qg c2 false l s w l' s2 H hm hr;subst g5;obtain⟨hid,hnn⟩:=hsh;have hio:id∈bf:=(hcov id hid).resolve_right hnn
       obtain rfl:c=.op id 0:=by
        have e0:jM u []=0:=by cases u<;>rfl
        have:[c]=[C.op id (jM u [])]:=hc;rw[e0]at this;exact dL.1 this
       obtain⟨k1,k2,k3,k4,k5⟩:=k7 i s2;have hids:id<s2.next:=by have:=hI id hid;have:=g3.le;omega
       have b1:Bk s (cX (fX i s2) id (some (.bx u w))) H i ((id,some (.box (fy s.next (dG c2 l).1).1))::(fy s.next (dG c2 l).1).2.1++bf.map (fun j=>(j,none))):=by
        obtain⟨a3,a4,a5,a6,a7,a8,W,v1,v2,v3,v4⟩:=g3;have hs2:gm s2.next s2.heap (cX (fX i s2) id (some (.bx u w))).heap:=gm.trans (ak _) (gm.sub tE) gm.bx;refine⟨⟨fun j o hj=>?_⟩,gm.trans a7 a4 hs2,k1.trans a5,k3.trans a6,by simp only[cX];omega,fun p hp=>?_,fun j hj hn=>(by simp only[cX];rw[bZ,if_neg (fun e=>by rw[e,hn]at hoid;cases hoid),k5];split<;>first|rfl|(rw[v4 j fun q=>by have:=(v3 j q).1;omega];exact hn)),id::(i++W),by simp only[cX,k4,v1,aJ,aO],fun p hp=>?_,fun j hj=>?_⟩
        .simp only[cX]at hj|-;rw[bZ]at hj;split at hj
         .rename_i e;subst e;obtain rfl:=aa hj;refine⟨by omega,?_,?_⟩
          .rw [aJ,aJ,cE,if_pos rfl];exact⟨_,rfl,iJ hs2 g2 g1,hf⟩
          .rw [k2];exact eL (ak _) hs2 g2
         .rename_i e;have hji:j∉i:=fun hm=>by rw[k5,if_pos hm]at hj;simp at hj
          rw[k5,if_neg hji]at hj;obtain⟨c1,c2',c3⟩:=a3.ob j o hj;refine⟨by omega,?_,?_⟩
          .rw [aJ,aJ,cE,if_neg e,aO];have:au ((fy s.next (dG c2 l).1).2.1++(bf.map (fun j=>(j,none))++H)) j=au ((fy s.next (dG c2 l).1).2.1++H) j:=by simp only[au,eP];have:=vf (h1:=H) (bf:=bf) (j:=j) fun hm=>hji (hsub.subset hm);simp only[au,eP]at this;cases bM (fy s.next (dG c2 l).1).2.1 j with|some x=>rfl|none=>exact this
           rw[this];exact lr hs2 c3 c2'
          .rw [k2];exact ku (ak _) hs2 c3
        .rcases aj.1 hp with hp|hp
         .rcases aD.1 hp with rfl|hp
          .exact .inl hid
          .have:=a8 p hp;exact .inr ⟨this.1,by simp only[cX];omega⟩
         .obtain ⟨j,hj,rfl⟩:=cU.1 hp;exact .inl (hsub.subset hj)
        .rcases aj.1 hp with hp|hp
         .rcases aD.1 hp with rfl|hp
          .simp
          .simp [v2 p hp]
         .obtain ⟨j,hj,rfl⟩:=cU.1 hp;simp[hsub.subset hj]
        .simp only[cX];rw[bZ,if_neg fun e=>hj (by simp[e]),k5,if_neg fun q=>hj (by simp[q]),v4 j fun q=>hj (by simp[q])]
       obtain⟨s1,bu,e1,e2,e3⟩:=ih q m _ _ _ k hb2 hl2 (by have:=b1.le;omega) b1.hr (dm.trans hn b1.dm) hnd2;have en:(cX (fX i s2) id (some (.bx u w))).next=(fy s.next (dG c2 l).1).2.2:=by simp only[cX,k2,g4]
       rw[en]at e2;refine⟨s1,_,e1,?_,by simpa using b1.seq e3 hd hI hJ⟩;simp only[ii,dG,bt];have:=IF (n:=s.next) (id:=id) (bf:=bf) (rd:=rd) (by simpa using hio) e2;rw[this];simp only[aJ,aO]
      .simp at hb
    |_=>simp[c_]at hb
   |_=>simp[c_]at hb
end
def Ll(c:Sh):Bool:=rP c||sY c
section
variable{h:H2}{n:Nat}{h1:bl}
theorem wN{c:Sh}{l l':List V}{s s':S2}{w:V}(hm:lX c false l s=some (w,l',s'))(ho:sY c=true):(dG c l).1.length=1:=by
 cases c with
 |x t=>match l with|.x u v::l=>simp only[lX]at hm;obtain⟨hc,_⟩:=aI hm;simp only[ae,decide_eq_true_eq]at hc;obtain⟨rfl,_⟩:=hc;simpa[dG,bq,sY]using ho|[]|.kb _::_|.nl _::_|.so _::_|.sr _::_|.sb _ _ _ _ _::_|.op _ _ _::_|.ep _ _ _ _::_|.pt _ _::_|.fn _ _ _::_|.om _::_|.rc _::_|.tp _::_|.ni::_|.co _ _::_|.fl _::_|.no::_|.gn::_=>simp[lX]at hm
 |os t=>match l with|.x (.sl u) v::l=>rfl|[]|.kb _::_|.nl _::_|.so _::_|.sr _::_|.sb _ _ _ _ _::_|.op _ _ _::_|.ep _ _ _ _::_|.pt _ _::_|.fn _ _ _::_|.om _::_|.rc _::_|.tp _::_|.ni::_|.co _ _::_|.fl _::_|.no::_|.gn::_=>simp[lX]at hm|.x (.i _) _::_|.x .b _::_|.x .s _::_|.x (.f _) _::_|.x (.mp _ _) _::_|.x .un _::_|.x (.pr _ _) _::_|.x (.st _) _::_|.x (.ar _ _) _::_|.x (.o _) _::_=>simp[lX]at hm
 |rw t=>match l with|.x (.sl (.sl u)) v::l=>rfl|[]|.kb _::_|.nl _::_|.so _::_|.sr _::_|.sb _ _ _ _ _::_|.op _ _ _::_|.ep _ _ _ _::_|.pt _ _::_|.fn _ _ _::_|.om _::_|.rc _::_|.tp _::_|.ni::_|.co _ _::_|.fl _::_|.no::_|.gn::_=>simp[lX]at hm|.x (.sl (.i _)) _::_|.x (.sl .b) _::_|.x (.sl .s) _::_|.x (.sl (.f _)) _::_|.x (.sl (.mp _ _)) _::_|.x (.sl .un) _::_|.x (.sl (.pr _ _)) _::_|.x (.sl (.st _)) _::_|.x (.sl (.ar _ _)) _::_|.x (.sl (.o _)) _::_|.x (.i _) _::_|.x .b _::_|.x .s _::_|.x (.f _) _::_|.x (.mp _ _) _::_|.x .un _::_|.x (.pr _ _) _::_|.x (.st _) _::_|.x (.ar _ _) _::_|.x (.o _) _::_=>simp[lX]at hm
 |pb t c=>rfl
 |nl k=>rfl
 |_=>first|(simp[lX]at hm;done)|(simp[sY]at ho;done)
theorem vd:∀(rs:List Sh)(l:List V)(s:S2)(xs:List V)(l':List V)(s':S2)(h1:bl),Dn rs l s=some (xs,l',s')->HR s.next h1 s.heap->rs.all Ll=true->
  vU s'.heap (dv xs) (eW s.next (kT rs l)).1/\(∀x∈xs,dC s'.next s'.heap x)/\Mk s s' h1 (eW s.next (kT rs l)).2.1/\s'.next=(eW s.next (kT rs l)).2.2/\xs.length=rs.length:=by
 intro rs;induction rs with
 |nil=>intro l s xs l' s' h1 hm hr _;obtain⟨rfl,e⟩:=ad (aa hm);obtain⟨rfl,rfl⟩:=ad e;exact⟨rfl,fun x hx=>by simp at hx,Mk.skip hr (ak _),rfl,rfl⟩
 |cons c rs ih=>
  intro l s xs l' s' h1 hm hr hok;simp only[ed,ae]at hok;simp only[Dn]at hm;split at hm
  .rename_i x l1 s1 hm1;split at hm
   .rename_i ys l2 s2 hm2;obtain⟨rfl,e⟩:=ad (aa hm);obtain⟨rfl,rfl⟩:=ad e;obtain⟨q1,q2,q3,q4,q5,q6⟩:=qg c false l s x l1 s1 h1 hm1 hr;have q6:=q6 rfl;subst q5
    have hu:rj s.next (bif rP c then .agg (dG c l).1 else .c ((dG c l).1.headD default))=(bif rP c then .agg (fy s.next (dG c l).1).1 else .c ((fy s.next (dG c l).1).1.headD default),(fy s.next (dG c l).1).2.1,(fy s.next (dG c l).1).2.2)/\nR s1.heap x (bif rP c then .agg (fy s.next (dG c l).1).1 else .c ((fy s.next (dG c l).1).1.headD default)):=by
     cases hs:rP c with
     |true=>exact⟨rfl,sA (q6.trans hs) q1⟩
     |false=>
      have hl:(dG c l).1.length=1:=by
       have h2:sY c=true:=by simpa[Ll,hs]using hok.1
       exact wN hm1 h2
      match ht:(dG c l).1,hl with|[t],_=>rw[ht]at q1;simp only[lQ]at q1;refine⟨by simp only[cond_false,bt,rj,lQ],?_⟩;simp only[cond_false,lQ,bt];exact cP (q6.trans hs) q1
    obtain⟨hu1,hu2⟩:=hu;obtain⟨p1,p2,p3,p4,p5⟩:=ih (dG c l).2 s1 ys l2 s2 _ hm2 q3.hr hok.2;rw[q4]at p1 p3 p4;simp only[kT,eW,hu1];refine⟨⟨_,_,rfl,qA p3.dm q2 hu2,p1⟩,fun y hy=>?_,q3.seq p3,p4,by simp[p5]⟩;rcases aD.1 hy with rfl|hy
    .exact eL p3.le p3.dm q2
    .exact p2 y hy
   .simp at hm
  .simp at hm
end
def wv:Ty->Bool
 |.i _|.b|.s|.f _|.un=>true
 |.pr a c=>wv a&&wv c
 |.st t|.ar _ t=>wv t
 |_=>false
def Ke:Sh->Bool
 |.x t=>wv t
 |_=>false
def Kf:Sh->Bool
 |.os t=>wv t
 |.gn=>true
 |_=>false
def Lz(sp:mQ):Bool:=sp.al.all (fun w=>w.1.all Ke&&w.2.all Kf)
def G0(sp:mQ):Bool:=HV sp.ps sp.gJ&&wa sp.ps&&sp.al.all (fun w=>w.1.all Ll)&&(!sp.ro||Lz sp)
def G1(Q:List Sh->List Sh->List V->Prop):(r o:List Sh)->(w:Wy)->qr.Bt r o w->Prop
 |r,o,[],z=>Q r o (kW (fD r++fD o) z)
 |r,o,(r',o')::w,z=>match z with|.inl z=>Q r o (kW (fD r++fD o) z)|.inr z=>G1 Q r' o' w z
def G2(Q:List Sh->List Sh->List V->Prop):(w:Wy)->qr w->Prop
 |[],z=>nomatch z
 |(r,o)::w,z=>G1 Q r o w z
def dJ(P:Program)(f:FuncId)(sp:mQ):Prop:=G0 sp=true/\∀p z,sp.fn p=some z->G2 (fun rs os l=>rh P f (eV sp.ps (kW (fD (sp.ps.map (·.2))) p)) (kT rs (l.take (fD rs).length)) (ii os (l.drop (fD rs).length))) sp.al z
def lI(P:Program)(tb:zF):Prop:=∀e∈tb,dJ P e.1 e.2
theorem lI.nil{P:Program}:lI P []:=fun e he=>by simp at he
theorem lI.cons{P:Program}{f:FuncId}{sp:mQ}{tb:zF}(h:dJ P f sp)(ht:lI P tb):lI P ((f,sp)::tb):=fun e he=>by
 rcases aD.1 he with rfl|he
 .exact h
 .exact ht e he
theorem Cz{β:Type}{k:List Sh->List Sh->List V->Option β}{Q:List Sh->List Sh->List V->Prop}{b:β}:∀(w:Wy)(z:qr w),Ls k w z=some b->G2 Q w z->∃r o l,(r,o)∈w/\k r o l=some b/\Q r o l:=by
 have key:∀(w:Wy)(r o:List Sh)(z:qr.Bt r o w),Js k r o w z=some b->G1 Q r o w z->∃r' o' l,(r',o')∈(r,o)::w/\k r' o' l=some b/\Q r' o' l:=by
  intro w;induction w with
  |nil=>intro r o z hz hq;exact⟨r,o,_,by simp,hz,hq⟩
  |cons p w ih=>intro r o z hz hq;cases z with|inl z=>exact⟨r,o,_,by simp,hz,hq⟩|inr z=>obtain⟨r',o',l,h1,h2,h3⟩:=ih p.1 p.2 z hz hq;exact⟨r',o',l,av _ h1,h2,h3⟩
 intro w z hz hq;cases w with|nil=>exact nomatch z|cons p w=>exact key w p.1 p.2 z hz hq
theorem tY{u:Ty}{v:V}{y:El u}(h:po u v=some y):v=.x u y:=by cases v with|x t v=>obtain⟨rfl,rfl⟩:=bV (show ew t u v=some y from h);rfl|_=>simp[po]at h
theorem lR:∀(cs:List Ty)(l:List V)(p:mq cs),qB cs l=some p->kW cs p=l:=by
 have key:∀(r:List Ty)(a:Ty)(l:List V)(p:mq.zI a r),zS a r l=some p->G9 a r p=l:=by
  intro r;induction r with
  |nil=>
   intro a l p h
   match l with|[]=>exact nomatch (show(none:Option (mq.zI a []))=some p from h)|[v]=>rw[tY (show po a v=some p from h)];rfl|_::_::_=>exact nomatch (show(none:Option (mq.zI a []))=some p from h)
  |cons c r ih=>
   intro a l p h
   match l with
   |[]=>exact nomatch (show(none:Option (mq.zI a (c::r)))=some p from h)
   |v::l=>
    have h:CF (po a v) (zS c r l)=some p:=h;cases hx:po a v with
    |none=>rw[hx]at h;exact nomatch h
    |some x=>cases hy:zS c r l with|none=>rw[hx,hy]at h;exact nomatch h|some y=>rw[hx,hy]at h;obtain rfl:=aa h;show V.x a x::G9 c r y=v::l;rw[ih c l y hy,tY hx]
 intro cs l p h
 match cs,l with|[],[]=>rfl|[],_::_=>exact nomatch (show(none:Option (mq []))=some p from h)|a::r,l=>exact key r a l p h
section
variable{h:H2}{n:Nat}{h1:bl}
theorem xz{a b:List V}{x y:List TV}(ha:jj h a x)(hb:jj h b y):jj h (a++b) (x++y):=by induction a generalizing x with|nil=>rw[ir ha];exact hb|cons v a ih=>obtain⟨c,r,rfl,h2,h3⟩:=ei ha;exact⟨h2,ih h3⟩
theorem sv:∀(v:V)(l:List V)(cs:List C),qu v=some l->dE h v cs->dC n h v->ft h v=true->jj h l (cs.map TV.c)/\(∀w∈l,dC n h w)/\∀w∈l,ft h w=true:=by
 intro v;induction v with
 |ni=>intro l cs hl hc _ _;obtain rfl:=aa hl;obtain rfl:=hc;exact⟨trivial,fun w hw=>by simp at hw,fun w hw=>by simp at hw⟩
 |co a r iha ihr=>
  intro l cs hl hc hk hal;simp only[qu]at hl;obtain⟨h1,hl⟩:=aI hl;simp only[ae,beq_iff_eq,eE]at h1;split at hl
  .rename_i l' hl';obtain rfl:=aa hl;obtain⟨x,y,rfl,h2,h3⟩:=hc;simp only[ft,ae]at hal;obtain⟨q1,q2,q3⟩:=ihr l' y hl' h3 hk.2 hal.2;have hlen:=fr h2;rw[h1.1]at hlen
   match x,hlen with
   |[c],_=>
    refine⟨⟨bI (cP h1.2 h2),q1⟩,fun w hw=>?_,fun w hw=>?_⟩
    .rcases aD.1 hw with rfl|hw
     .exact hk.1
     .exact q2 w hw
    .rcases aD.1 hw with rfl|hw
     .exact hal.1
     .exact q3 w hw
  .simp at hl
 |_=>intro l cs hl;simp[qu]at hl
theorem A1:∀(tb:zF)(f:Nat)(vs:List V)(sp:mQ)(l:List V)(i:List Nat)(q:List (V×List Nat)),vo h f vs tb=some (sp,l,i,q)->(f,sp)∈tb/\pS h sp.ps vs=some (l,i,q):=by
 intro tb;induction tb with
 |nil=>intro f vs sp l i q hf;simp[vo]at hf
 |cons e tb ih=>
  obtain⟨g,sp0⟩:=e;intro f vs sp l i q hf;simp only[vo]at hf;cases hg:(g==f)with
  |false=>rw[hg,cond_false]at hf;obtain⟨h2,h3⟩:=ih f vs sp l i q hf;exact⟨av _ h2,h3⟩
  |true=>
   rw[hg,cond_true]at hf;obtain rfl:g=f:=by simpa using hg
   split at hf
   .rename_i l' i' q' ha;simp only[bH,Prod.mk.injEq]at hf;obtain⟨rfl,rfl,rfl,rfl⟩:=hf;exact⟨by simp,ha⟩
   .obtain ⟨h2,h3⟩:=ih g vs sp l i q hf;exact⟨av _ h2,h3⟩
theorem yv:∀{l:List Nat},s_ l=true->l.Nodup:=by intro l;induction l with|nil=>intro _;exact List.nodup_nil|cons a l ih=>intro hl;simp only[s_,ae,eE,List.contains_eq_mem,decide_eq_false_iff_not]at hl;exact List.nodup_cons.2 ⟨hl.1,ih hl.2⟩
theorem rC.bf:∀{q:List (V×List Nat)}{lent:List (C×List Nat×List Nat)},rC h n h1 q lent->
  (lent.flatMap (fun(p:C×List Nat×List Nat)=>p.2.1)).Sublist (q.flatMap (·.2))/\(∀j∈lent.flatMap (fun(p:C×List Nat×List Nat)=>p.2.2),j∈q.flatMap (·.2)):=by
 intro q;induction q with
 |nil=>rintro lent rfl;exact⟨br _,fun j hj=>hj⟩
 |cons p q ih=>
  rintro lent ⟨x,m,rfl,hx,hm⟩;obtain⟨a,b⟩:=ih hm;simp only[bd];refine⟨hx.2.2.2.1.append a,fun j hj=>?_⟩;rcases aj.1 hj with hj|hj
  .exact aC _ (hx.2.2.2.2.2.1 j hj)
  .exact aA _ (b j hj)
theorem zN(hr:HR n h1 h):∀{q:List (V×List Nat)}{lent:List (C×List Nat×List Nat)},rC h n h1 q lent->de h1 lent=true:=by
 intro q;induction q with
 |nil=>rintro lent rfl;rfl
 |cons p q ih=>
  obtain⟨v,i⟩:=p;rintro lent ⟨⟨c,bf,rd⟩,m,rfl,hx,hm⟩;have hw:=ih hm;obtain⟨hc,_,_,_,_,_,_,hsh⟩:=hx;cases c with
  |dq sz id off len=>
   cases v with
   |so id'=>obtain⟨_,u,s,ver,ho⟩:=hsh;obtain⟨cc,e,hcc⟩:=hc;obtain rfl:=dL.1 e;have e2:=hcc.1 _ (jl (.inl ho));cases s with|nil=>simp[jm]at e2|mk l=>simp only[jm,C.dq.injEq]at e2;obtain⟨rfl,rfl,rfl,rfl⟩:=e2;exact Ms ((hr.ob _ _ ho).2.1.2.2 l rfl) hw
   |sr jd=>obtain⟨_,u,s,ho⟩:=hsh;obtain⟨cc,e,hcc⟩:=hc;obtain rfl:=dL.1 e;have e2:=hcc.1 _ (nU ho);cases s with|nil=>simp[jm]at e2|mk l=>simp only[jm,C.dq.injEq]at e2;obtain⟨rfl,rfl,rfl,rfl⟩:=e2;have hl:=(hr.ob _ _ ho).2.1.2.2 l rfl;simp only[de,hl,du,aK,beq_self_eq_true,fI,Bool.true_and];exact hw
   |nl k=>have:[C.dq sz id off len]=[yy k]:=hc
          simp[yy]at this
   |op a b2 e=>have:[C.dq sz id off len]=[C.op a (jM b2 e)]:=hc
               simp at this
   |_=>exact hsh.elim
  |_=>exact hw
end
section
variable{P:Program}{h1:bl}{β:Type}{s:S2}{k:V->S2->List Nat->Option β}{z:β}
def Nt(P:Program)(h1:bl)(kk:K)(xs:List TV)(s:S2)(k:V->S2->List Nat->Option β)(z:β):Prop:=∃v s' l,k v s' l=some z/\∃call:Call,j4 P call/\∃x u ap m,bN call kk (xs.map some) h1 s.next=some (x,u,ap,m)/\mT s s' h1 x u ap m v l
theorem Il{b:Bool}{f:Nat}{caps:V}{xf:TV}{cs:List V}(hf:dV s.heap (.fn b f caps) xf)(hk:dC s.next s.heap (.fn b f caps))(ha:ft s.heap (.fn b f caps)=true)(hc:qu caps=some cs):
  ∃cc,F3 (some xf)=some (f,cc)/\jj s.heap cs (cc.map TV.c)/\(∀w∈cs,dC s.next s.heap w)/\∀w∈cs,ft s.heap w=true:=by
 rcases zR hf with⟨rfl,ds,hd,rfl⟩|⟨rfl,xs,hd,rfl⟩
 .obtain ⟨a1,a2⟩:=ue (h:=s.heap) caps ha;exact⟨ds.map .d,rfl,sv caps cs _ hc (Gt caps ds hd) (a2 _) a1⟩
 .exact ⟨xs,rfl,sv caps cs _ hc hd hk ha⟩
theorem xS{xs:List V}{vs:List TV}{g:H2}{m:Nat}(h:vU g (dv xs) vs)(hk:∀x∈xs,dC m g x):dV g (JK xs) (nY vs)/\dC m g (JK xs):=by
 have hrow:∀(l:List V),(∀x∈l,dC m g x)->dC m g (dv l):=by intro l;induction l with|nil=>intro _;trivial|cons a l ih=>intro hl;exact⟨hl a (by simp),ih fun x hx=>hl x (by simp[hx])⟩
 match xs with|[]=>obtain rfl:=h;exact⟨⟨[],rfl,rfl⟩,trivial⟩|[v]=>obtain⟨x,ys,rfl,h2,h3⟩:=h;obtain rfl:=h3;exact⟨bI h2,hk v (by simp)⟩|a::b::l=>obtain⟨x,ys,rfl,h2,h3⟩:=h;obtain⟨y,zs,rfl,h4,h5⟩:=h3;exact⟨⟨_,rfl,_,_,rfl,h2,_,_,rfl,h4,h5⟩,hrow _ hk⟩
theorem yJ:∀(t:Ty)(v:El t),wv t=true->∀d∈aN t v,∃y,d=.lit y:=by
 intro t;induction t with
 |pr a c iha ihc=>
  intro v h d hd;simp only[wv,ae]at h;rcases aj.1 (show d∈aN a v.1++aN c v.2 from hd)with hd|hd
  .exact iha _ h.1 d hd
  .exact ihc _ h.2 d hd
 |st t ih=>intro v h d hd;exact ih v h d hd
 |ar n t ih=>intro v h d hd;obtain⟨a,_,ha⟩:=List.mem_flatMap.1 (show d∈v.1.flatMap (aN t)from hd);exact ih a h d ha
 |un=>intro v h d hd;exact absurd (show d∈[]from hd) (by simp)
 |i k=>intro v h d hd;exact⟨_,am.1 (show d∈[_]from hd)⟩
 |b=>intro v h d hd;exact⟨_,am.1 (show d∈[_]from hd)⟩
 |s=>intro v h d hd;exact⟨_,am.1 (show d∈[_]from hd)⟩
 |f k=>intro v h d hd;exact⟨_,am.1 (show d∈[_]from hd)⟩
 |_=>intro v h;simp[wv]at h
theorem Fu:∀(rs:List Sh)(l:List V)(s:S2)(xs:List V)(l':List V)(s':S2),Dn rs l s=some (xs,l',s')->rs.all Ke=true->rs.all Ll=true->(kT rs l).all qO=true:=by
 intro rs;induction rs with
 |nil=>intro l s xs l' s' _ _ _;rfl
 |cons c rs ih=>
  intro l s xs l' s' hm hl ho;simp only[ed,ae]at hl ho;simp only[Dn]at hm;split at hm
  .rename_i x l1 s1 hm1;split at hm
   .rename_i ys l2 s2 hm2;cases c with
    |x t=>
     have ho1:=ho.1
     match l with
     |.x u v::l=>
      have hm1':=hm1;simp only[lX]at hm1;obtain⟨hc,hm3⟩:=aI hm1;simp only[ae,decide_eq_true_eq]at hc;obtain⟨rfl,_⟩:=hc;obtain⟨rfl,e⟩:=ad (aa hm3);obtain⟨rfl,rfl⟩:=ad e;have hlit:=yJ u v hl.1;simp only[kT,dG,ed,ae];refine⟨?_,ih _ _ _ _ _ hm2 hl.2 ho.2⟩;cases hs:rP (.x u)with
      |true=>simp only[cond_true,qO,aQ];intro t ht;obtain⟨d,hd,rfl⟩:=cU.1 ht;obtain⟨y,rfl⟩:=hlit d hd;rfl
      |false=>
       have h2:sY (.x u)=true:=by simpa[Ll,hs]using ho1
       have hlen:=wN hm1' h2;simp only[dG,aK]at hlen
       match he:aN u v,hlen with|[d],_=>obtain⟨y,rfl⟩:=hlit d (by rw[he];simp);rfl
     |[]|.kb _::_|.nl _::_|.so _::_|.sb _ _ _ _ _::_|.op _ _ _::_|.ep _ _ _ _::_|.pt _ _::_|.fn _ _ _::_|.om _::_|.rc _::_|.tp _::_|.ni::_|.co _ _::_|.fl _::_|.no::_|.gn::_=>simp[lX]at hm1
    |_=>simp[Ke]at hl
   .simp at hm
  .simp at hm
theorem Fv{t:Ty}(v:El (.sl t))(h:wv t=true):Ap (JE (bC t) (aN t) v)=true:=by cases v with|nil=>rfl|mk l=>show(l.map (aN t)).all _=true;rw[List.all_map,aQ];intro x _;show(aN t x).all _=true;rw[aQ];intro d hd;obtain⟨y,rfl⟩:=yJ t x h d hd;rfl
theorem Fw{β:Type}{z:β}:∀(os:List Sh)(q:List (V×List Nat))(l:List V)(s:S2)(k:S2->Option β),c_ os q l s k=some z->os.all Kf=true->(ii os l).all Ap=true:=by
 intro os;induction os with
 |nil=>intro q l s k _ _;rfl
 |cons c os ih=>
  intro q l s k hb ho;simp only[ed,ae]at ho;obtain⟨h1,h2⟩:=ho;cases c with
  |gn=>cases q with|nil=>simp[c_]at hb|cons p q=>simp only[c_]at hb;have:=ih _ _ _ _ hb h2;simp only[ii,dG,ed,bt,this,Bool.and_true];rfl
  |os t=>
   have hh:∀(u:Ty)(v:El (.sl u))(l:List V)(q':List (V×List Nat))(s':S2),(∃y,ew (.sl u) (.sl t) v=some y)->(hb:c_ os q' l s' k=some z)->(ii (.os t::os) (.x (.sl u) v::l)).all Ap=true:=by
    intro u v l q' s' ⟨y,hy⟩ hb2;obtain⟨e,_⟩:=bV hy;have e:u=t:=by injection e
    subst e;have:=ih _ _ _ _ hb2 h2;simp only[ii,dG,ed,bt,this,Bool.and_true];exact Fv v h1
   cases q with
   |nil=>simp[c_]at hb
   |cons p q=>
    obtain⟨pv,pi⟩:=p;cases l with
    |nil=>cases pv<;>simp[c_]at hb
    |cons x l=>
     cases x with
     |x u v=>
      cases u with
      |sl u=>
       cases pv with
       |nl n=>
        cases n with
        |zero=>
         cases pi with
         |nil=>
          simp only[c_]at hb;split at hb
          .rename_i y hy;obtain⟨_,_,hb⟩:=mP hb;exact hh u v l q s ⟨y,hy⟩ hb
          .cases hb
         |cons _ _=>simp[c_]at hb
        |succ n=>simp[c_]at hb
       |so id=>
        simp only[c_]at hb;split at hb
        .rename_i w old ver y ho hy;split at hb
         .obtain ⟨_,_,hb⟩:=mP hb;exact hh u v l q _ ⟨y,hy⟩ hb
         .cases hb
        .cases hb
       |_=>simp[c_]at hb
      |_=>cases pv<;>simp[c_]at hb
     |_=>cases pv<;>simp[c_]at hb
  |_=>simp[Kf]at h1
theorem Bi{tb:zF}{ro:Bool}{gJ:List Bool}{f:V}{vs:List V}{xf:TV}{xs:List TV}(htb:lI P tb)(hz:si tb ro gJ f vs s k=some z)(hr:HR s.next h1 s.heap)(hf:dV s.heap f xf)(hfk:dC s.next s.heap f)(hfa:ft s.heap f=true)
  (hx:jj s.heap vs xs) (hk:∀w∈vs,dC s.next s.heap w) (ha:∀w∈vs,ft s.heap w=true):Nt P h1 (.call ro gJ) (xf::xs) s k z:=by
 cases f with
 |fn b fid caps=>
  simp only[si]at hz;split at hz
  case h_2=>simp at hz
  rename_i sp pay j q hfs;split at hfs
  case h_2=>simp at hfs
  rename_i cs hcs;obtain⟨hmem,hargs⟩:=A1 tb fid _ sp pay j q hfs;obtain⟨hwy,hgood⟩:=htb _ hmem;simp only[G0,ae]at hwy;obtain⟨⟨⟨w1,w2⟩,w3⟩,w4⟩:=hwy;obtain⟨hc,hz2⟩:=aI hz;simp only[ae,decide_eq_true_eq]at hc;obtain⟨⟨⟨c1,c2⟩,c3⟩,c4⟩:=hc;clear hz;split at hz2
  case h_2=>simp at hz2
  rename_i p hp;obtain⟨zz,hzz,hz3⟩:=mP hz2;obtain⟨rs,os,l,hm,hk3,hg⟩:=Cz sp.al zz hz3 (hgood p zz hzz);rw[lR _ _ _ hp]at hg;obtain⟨cc,hfn,d1,d2,d3⟩:=Il hf hfk hfa hcs;rw[c2]at w1;obtain⟨ap,lent,e1,e2,e3,e4⟩:=zC hr sp.ps (vs++cs) gJ pay j q (xs++cc.map TV.c) hargs (xz hx d1) (fun w hw=>(aj.1 hw).elim (hk w) (d2 w)) (fun w hw=>(aj.1 hw).elim (ha w) (d3 w)) w1 w2;obtain⟨o1,o2⟩:=e4.bf;have hnd:=yv c3;have hap:∀i∈gV (fun(p:V×List Nat)=>p.2) q,i∉j:=fun i hi=>by simpa using aQ.1 c4 i hi
  have hdec:decide ((lent.flatMap (fun(p:C×List Nat×List Nat)=>p.2.1)).Nodup/\(lent.flatMap (fun(p:C×List Nat×List Nat)=>p.2.1)).all (fun i=>!ap.contains i)=true)=true:=by refine decide_eq_true ⟨o1.nodup hnd,aQ.2 fun i hi=>?_⟩;have:=hap i (o1.subset hi);simpa using fun hm=>this (e2 i hm).1
  have hwl:=zN hr e4;have hokR:rs.all Ll=true:=aQ.1 w3 _ hm;cases ro with
  |true=>
   have hro:sp.ro=true:=by simpa using c1
   rw[hro]at w4;have w5:Lz sp=true:=by simpa using w4
   have v3:=aQ.1 w5 _ hm;simp only[ae]at v3;simp only[cond_true]at hk3;obtain⟨s1,bu,b1,b2,b3⟩:=ua hr os q lent _ s h1 _ hk3 e4 (ak _) hr (gm.refl _ _) hnd;split at b1
   case h_2=>simp at b1
   rename_i ys l2 s2 hmk;obtain⟨m1,m2,m3,m4,m5⟩:=vd rs _ s1 ys l2 s2 _ hmk b3.hr hokR;obtain⟨t1,t2⟩:=xS m1 m2;have hlit:=Fu rs _ s1 ys l2 s2 hmk v3.1 hokR;have hout:=Fw os q _ s _ hk3 v3.2;refine⟨_,_,_,b1,only fid (eV sp.ps pay) (kT rs (l.take (fD rs).length)) (ii os (l.drop (fD rs).length)),BX hg,?_⟩;have hld:=Ib (h:=h1) (ap:=ap) hlit hout b2;obtain⟨g1,g2⟩:=Cq (ro:=true) hfn (jZ xs) e1 hwl hdec hld;refine⟨_,_,_,_,vI g1 g2,?_⟩;obtain⟨W1,x1,x2,x3⟩:=b3.wo;obtain⟨W2,y1,y2,y3,y4⟩:=m3.wo;refine⟨t1,t2,?_,b3.dm.trans b3.le m3.dm,by rw[m3.cG,b3.cG],by rw[m3.gh,b3.gh],by omega,by have:=b3.le;have:=m3.le;omega,fun i hi=>?_,fun i hi h=>(by rw[y4 i fun q=>by have:=(y3 i q).1;have:=b3.le;omega];exact b3.nb i hi h),W2++W1,by rw[y1,x1];simp only[aO],fun p hp=>?_,fun i hi=>?_⟩
   .have:=m3.hr;simpa only[aO]using this
   .rcases aj.1 hi with hi|hi
    .exact aC _ (e2 i hi).1
    .exact aA _ (o2 i hi)
   .simp only[aj]at hp|-;rcases hp with hp|hp
    .exact .inl (y2 p hp)
    .exact .inr (x2 p hp)
   .simp only[aj,not_or]at hi;rw[y4 i hi.1,x3 i hi.2]
  |false=>
   simp only[cond_false]at hk3;split at hk3
   case h_2=>simp at hk3
   rename_i s0 hs0;obtain⟨fu,f1,f2,f3,f4,f5,f6,f7,f8,f9⟩:=wF (s0:=s) rfl hr j s0 ap ap hs0 e2 e3;obtain⟨s1,bu,b1,b2,b3⟩:=ua hr os q lent _ s0 (fu++h1) _ hk3 e4 (by omega) (by rw[f6];exact f2) f3 hnd;split at b1
   case h_2=>simp at b1
   rename_i ys l2 s2 hmk;obtain⟨m1,m2,m3,m4,m5⟩:=vd rs _ s1 ys l2 s2 _ hmk b3.hr hokR;obtain⟨t1,t2⟩:=xS m1 m2;rw[f6]at b2;refine⟨_,_,_,b1,only fid (eV sp.ps pay) (kT rs (l.take (fD rs).length)) (ii os (l.drop (fD rs).length)),BX hg,?_⟩;have hld:=M9 (rs:=kT rs (l.take (fD rs).length)) f1 b2;obtain⟨g1,g2⟩:=Cq (ro:=false) hfn (jZ xs) e1 hwl hdec hld;refine⟨_,_,_,_,vI g1 g2,?_⟩;obtain⟨W1,x1,x2,x3⟩:=b3.wo;obtain⟨W2,y1,y2,y3,y4⟩:=m3.wo;refine⟨t1,t2,?_,(f3.trans (Nat.le_of_eq f6.symm) b3.dm).trans (by have:=b3.le;omega) m3.dm,by rw[m3.cG,b3.cG,f4],by rw[m3.gh,b3.gh,f5],by omega,by have:=b3.le;have:=m3.le;omega,fun i hi=>?_,fun i hi h=>(by rw[y4 i fun q=>by have:=(y3 i q).1;have:=b3.le;omega];exact b3.nb i (by omega) ((f9 i fun q=>AW rfl hs0 i q h).trans h)),W2++W1++j,by rw[y1,x1,f7];simp only[aO],fun p hp=>?_,fun i hi=>?_⟩
   .have:=m3.hr;simpa only[aO]using this
   .rcases aj.1 hi with hi|hi
    .exact aC _ (e2 i hi).1
    .exact aA _ (o2 i hi)
   .simp only[aO,aj]at hp|-;rcases hp with hp|hp|hp
    .exact .inl (y2 p hp)
    .exact .inr (.inl (x2 p hp))
    .exact .inr (.inr (f8 p hp))
   .simp only[aO,aj,not_or]at hi;rw[y4 i hi.1,x3 i hi.2.1,f9 i hi.2.2]
 |_=>simp[si]at hz
end
def je:Prop:=∀g v,Kr g=some v->∃d,Lo g=some d/\∀h n,dV h v (.c (.d d))/\dC n h v/\ft h v=true
theorem qq{n:Nat}{h h':H2}(hs:gm n h h')(hnb:∀i,i<n->fO h i=none->fO h' i=none):∀{v:V},dC n h v->ft h' v=true->ft h v=true:=by
 have key:∀id,id<n->(match fO h' id with|some _=>true|none=>false)=true->(match fO h id with|some _=>true|none=>false)=true:=by intro id hid ha;cases ho:fO h id with|some _=>rfl|none=>rw[hnb id hid ho]at ha;simp at ha
 intro v;induction v with
 |so id=>
  intro hk ha;have hk:id<n:=hk;simp only[ft]at ha|-;split at ha
  .rename_i t s v ho;obtain⟨s0,v0,h1,_⟩:=oN hs hk (.inl ho);rcases h1 with h1|h1<;>rw[h1]
  .rename_i t s v ho;obtain⟨s0,v0,h1,_⟩:=oN hs hk (.inr ho);rcases h1 with h1|h1<;>rw[h1]
  .simp at ha
 |sr id=>
  intro hk ha;have hk:id<n:=hk;simp only[ft]at ha|-;split at ha
  .rename_i t s ln ho;obtain⟨s0,ln0,h1,_⟩:=BJ hs hk ho;rw[h1]
  .simp at ha
 |sb id ver lo t r=>
  rintro⟨hid,hk⟩ ha;obtain⟨hd,ha⟩:=bX.1 ha;have ha:uf h' id ver=true:=ha;obtain⟨u,s,ho⟩:=iK ha;obtain⟨s0,v0,h3,h4,_,_⟩:=oN hs hid ho;obtain⟨h7,_⟩:=hk u s0 v0 h3;have:v0=ver:=by omega
  subst this;refine bX.2 ⟨hd,?_⟩;rcases h3 with h3|h3<;>rw[h3]<;>simp
 |op id t p=>rintro⟨hid,_⟩ ha;exact key id hid ha
 |ep id m t p=>rintro⟨hid,_⟩ ha;exact key id hid ha
 |om id=>intro hid ha;exact key id hid ha
 |fn z f l ih=>intro hk ha;cases z with|true=>exact ha|false=>exact ih hk ha
 |rc l ih=>intro hk ha;exact ih hk ha
 |tp l ih=>intro hk ha;exact ih hk ha
 |co a r iha ihr=>rintro⟨h1,h2⟩ ha;simp only[ft,ae]at ha|-;exact⟨iha h1 ha.1,ihr h2 ha.2⟩
 |_=>intro _ ha;exact ha
def Ea(h:H2):V->List C->Prop
 |.ni,cs=>cs=[]
 |.co a r,cs=>∃c m,cs=c::m/\(ft h a=true->dE h a [c])/\Ea h r m
 |_,_=>False
theorem yW{n:Nat}{h h':H2}(hs:gm n h h')(hnb:∀i,i<n->fO h i=none->fO h' i=none):∀{v:V}{cs:List C},dC n h v->Ea h v cs->Ea h' v cs:=by intro v;induction v with|co a r _ ihr=>rintro cs ⟨h1,h2⟩ ⟨c,m,rfl,h3,h4⟩;exact⟨c,m,rfl,fun ha=>iJ hs h1 (h3 (qq hs hnb h1 ha)),ihr h2 h4⟩|ni=>intro cs _ h;exact h|_=>intro cs _ h;exact h.elim
structure R2(s1:St)(s:S2):Prop where
 cG:∀t v,bM s.cG t=some v->dC s.next s.heap v/\(ft s.heap v=true\/v=.no->∃x,bM s1.cG t=some x/\dV s.heap v x)
 hr:HR s.next s1.heap s.heap
 next:s1.next<=s.next
 gh:Ea s.heap s.gh s1.gh/\dC s.next s.heap s.gh
theorem EW{v:Value}(hp:ck v=true)(ha:∀cs,v≠.agg cs):cv v=some (.c (.d (.lit v))):=by
 unfold cv;split
 .rename_i cs;exact absurd rfl (ha cs)
 .rw [if_pos hp]
theorem Cn{c:Value}{v:V}(hc:Mq c=some v)(h:H2)(n:Nat):∃x,cv c=some x/\dV h v x/\dC n h v/\ft h v=true:=by
 unfold Mq at hc;split at hc
 case h_10=>
  rename_i cs;split at hc
  .rename_i hp;obtain rfl:=aa hc;refine⟨.agg (cs.toList.map fun v=>.d (.lit v)),by simp only[cv];rw[if_pos hp],bI (sA rfl ⟨hp,rfl⟩),trivial,hp⟩
  .simp at hc
 case h_11=>simp at hc
 all_goals
  obtain rfl:=aa hc;exact⟨_,EW rfl (fun cs e=>by cases e),bI (cP rfl (by first|rfl|exact⟨rfl,rfl⟩)),trivial,rfl⟩
theorem kr(hg:je){s1:St}{s:S2}(hr:R2 s1 s){o:Operand}{v:V}(ho:D9 s.cG s.heap o=some v):∃x,g_ s1.cG o=some x/\dV s.heap v x/\dC s.next s.heap v/\ft s.heap v=true:=by
 cases o with
 |tmp t=>
  simp only[D9]at ho;split at ho
  .rename_i w hw;obtain⟨ha,ho⟩:=aI ho;obtain rfl:=aa ho;obtain⟨h3,h4⟩:=hr.cG t w hw;obtain⟨x,h1,h2⟩:=h4 (.inl ha);exact⟨x,h1,h2,h3,ha⟩
  .simp at ho
 |const c=>exact Cn ho _ _
 |global g=>obtain⟨d,h1,h2⟩:=hg g v ho;exact⟨_,by simp only[g_,h1,Option.map_some],h2 _ _⟩
 |func f=>obtain rfl:=aa ho;exact⟨_,rfl,bI (cP rfl ⟨[],rfl,rfl⟩),trivial,rfl⟩
structure nG(s1:St)(s:S2)(q:Rg):Prop where
 r:R2 s1 s
 kn:∀g b,Kl q.kn g=some b->bM s1.cG g=some (tB b)
 cd:∀t g b v,bM q.cd t=some (g,b,v)->∃c,bM s1.cG g=some (tB c)/\(c=b->∃x,bM s1.cG t=some x/\dV s.heap v x/\dC s.next s.heap v)
theorem JA{a b:Bool}(h:tB a=tB b):a=b:=by simpa[tB]using h
theorem qd(hg:je){s1:St}{s:S2}{q:Rg}(hr:nG s1 s q){gc:Option (Nat×Bool)}(hgc:∀g b,gc=some (g,b)->bM s1.cG g=some (tB b)){o:Operand}{v:V}(ho:D_ s q gc o=some v):
  ∃x,g_ s1.cG o=some x/\dV s.heap v x/\dC s.next s.heap v/\ft s.heap v=true:=by
 cases o with
 |tmp t=>
  simp only[D_]at ho;split at ho
  .rename_i g b w hw;obtain⟨hc,ho⟩:=aI ho;obtain⟨ha,ho⟩:=aI ho;obtain rfl:=aa ho;obtain⟨c,h1,h2⟩:=hr.cd t g b w hw
   have hb:bM s1.cG g=some (tB b):=by
    simp only[cV,decide_eq_true_eq]at hc;rcases hc with hc|hc
    .exact hgc g b hc
    .exact hr.kn g b hc
   rw[h1]at hb;obtain⟨x,h3,h4,h5⟩:=h2 (JA (aa hb));exact⟨x,h3,h4,h5,ha⟩
  .exact kr hg hr.r ho
 |const c=>exact kr hg hr.r ho
 |global g=>exact kr hg hr.r ho
 |func f=>exact kr hg hr.r ho
theorem uZ(hg:je){s1:St}{s:S2}{q:Rg}(hr:nG s1 s q){gc:Option (Nat×Bool)}(hgc:∀g b,gc=some (g,b)->bM s1.cG g=some (tB b)):∀(os:List Operand)(vs:List V),Au s q gc os=some vs->
  ∃xs,os.map (g_ s1.cG)=xs.map some/\jj s.heap vs xs/\(∀w∈vs,dC s.next s.heap w)/\∀w∈vs,ft s.heap w=true:=by
 intro os;induction os with
 |nil=>intro vs ho;obtain rfl:=aa ho;exact⟨[],rfl,trivial,fun w hw=>by simp at hw,fun w hw=>by simp at hw⟩
 |cons o os ih=>
  intro vs ho;simp only[Au]at ho;split at ho
  .rename_i v l hv hl;obtain rfl:=aa ho;obtain⟨x,h1,h2,h3,h4⟩:=qd hg hr hgc hv;obtain⟨xs,g1,g2,g3,g4⟩:=ih l hl;refine⟨x::xs,by simp[h1,g1],⟨h2,g2⟩,fun w hw=>?_,fun w hw=>?_⟩
   .rcases aD.1 hw with rfl|hw
    .exact h3
    .exact g3 w hw
   .rcases aD.1 hw with rfl|hw
    .exact h4
    .exact g4 w hw
  .simp at ho
theorem Gm{h:H2}{t:Ty}{w:V}{b:El t}{x:TV}(hd:gT t=true)(hx:dV h w x)(hc:mV t w=some b):dV h (.x t b) x:=by obtain⟨cs,h1,h2,h3⟩:=kP (Jf hc) hx;have e:=fT w false t b cs hc h1;have ha:=q9 hc;exact bI ⟨cs,⟨hd,e⟩,fun q=>h2 (ha.trans q),fun q=>h3 (ha.trans q)⟩
theorem yD{h:H2}{c:Bool}{a b v:V}{x:TV}(hm:M8 c a b=some v)(ha:ft h a=true)(hb:ft h b=true)(h1:c=true->dV h a x)(h2:c=false->dV h b x):dV h v x/\∀n,dC n h v:=by
 unfold M8 at hm;split at hm
 .rename_i p q;obtain rfl:=aa hm;refine⟨?_,fun _=>trivial⟩;cases c with|true=>rw[qz (h1 rfl)];exact xb _|false=>rw[qz (h2 rfl)];exact xb _
 .rename_i t p w;split at hm
  .rename_i y hy;obtain rfl:=aa hm;refine⟨?_,fun _=>trivial⟩;cases c with|true=>exact h1 rfl|false=>exact Gm ha (h2 rfl) hy
  .simp at hm
 .rename_i t p w;split at hm
  .rename_i y hy;obtain rfl:=aa hm;refine⟨?_,fun _=>trivial⟩;cases c with|true=>exact Gm hb (h1 rfl) hy|false=>exact h2 rfl
  .simp at hm
 .simp at hm
theorem rW(hg:je){e:List (Nat×V)}{h:H2}{o:Operand}{v:V}(ho:D9 e h o=some v):ft h v=true:=by
 cases o with
 |tmp t=>
  simp only[D9]at ho;split at ho
  .obtain ⟨ha,ho⟩:=aI ho;obtain rfl:=aa ho;exact ha
  .simp at ho
 |const c=>obtain⟨_,_,_,_,ha⟩:=Cn ho h 0;exact ha
 |global g=>obtain⟨d,_,h2⟩:=hg g v ho;exact(h2 h 0).2.2
 |func f=>obtain rfl:=aa ho;rfl
theorem BW(hg:je){s:S2}{q:Rg}{gc:Option (Nat×Bool)}{o:Operand}{v:V}(ho:D_ s q gc o=some v):ft s.heap v=true:=by
 cases o with
 |tmp t=>
  simp only[D_]at ho;split at ho
  .obtain ⟨hc,ho⟩:=aI ho;obtain⟨ha,ho⟩:=aI ho;obtain rfl:=aa ho;exact ha
  .exact rW hg ho
 |const c=>exact rW (e:=s.cG) (o:=.const c) hg ho
 |global g=>exact rW (e:=s.cG) (o:=.global g) hg ho
 |func f=>exact rW (e:=s.cG) (o:=.func f) hg ho
theorem C1(hg:je){s1:St}{s:S2}{q:Rg}(hr:nG s1 s q){gc:Option (Nat×Bool)}(hgc:∀g b,gc=some (g,b)->bM s1.cG g=some (tB b)){os:List Operand}{v:V}(hp:EX s q gc os=some v)(c:Call)(H:bl)(nx:Nat):
  ∃x,bN c .pick (os.map (g_ s1.cG)) H nx=some (x,[],[],nx)/\dV s.heap v x/\dC s.next s.heap v:=by
 have one:∀(g a b:Operand)(t:Bool)(w:V),g_ s1.cG g=some (tB t)->D_ s q gc (bif t then a else b)=some w->∃x,bN c .pick ([g,a,b].map (g_ s1.cG)) H nx=some (x,[],[],nx)/\dV s.heap w x/\dC s.next s.heap w:=by intro g a b t w h1 h2;obtain⟨x,h3,h4,h5,_⟩:=qd hg hr hgc h2;refine⟨x,?_,h4,h5⟩;simp only[aq,aR,h1];cases t with|true=>simp only[cond_true]at h3;rw[h3];rfl|false=>simp only[cond_false]at h3;rw[h3];rfl
 unfold EX at hp;split at hp
 .rename_i g a b;split at hp
  .rename_i _ _ t hk;exact one _ a b t v (hr.kn g t hk) hp
  .rename_i t hk he;obtain⟨x,h1,h2⟩:=(hr.r.cG g _ he).2 (.inl rfl);rw[qz h2]at h1;exact one _ a b t v h1 hp
  .rename_i t hk he;obtain⟨x,h1,h2⟩:=(hr.r.cG g _ he).2 (.inl rfl)
   .rw [BE h2]at h1;split at hp
    .rename_i x y hx hy;have ax:=BW hg hx;have ay:=BW hg hy;cases t with|true=>obtain⟨z,g1,g2,_⟩:=qd hg hr (gc:=some (g,true)) (fun g' b' e=>by cases e;exact h1) hx;obtain⟨m1,m2⟩:=yD hp ax ay (fun _=>g2) (fun e=>by cases e);refine⟨z,?_,m1,m2 _⟩;have h1':g_ s1.cG (.tmp g)=some (tB true):=h1;simp only[aq,aR,h1',g1];rfl|false=>obtain⟨z,g1,g2,_⟩:=qd hg hr (gc:=some (g,false)) (fun g' b' e=>by cases e;exact h1) hy;obtain⟨m1,m2⟩:=yD hp ax ay (fun e=>by cases e) (fun _=>g2);refine⟨z,?_,m1,m2 _⟩;have h1':g_ s1.cG (.tmp g)=some (tB false):=h1;simp only[aq,aR,h1',g1];rfl
    .simp at hp
  .simp at hp
 .rename_i t a b;exact one _ a b t v rfl hp
 .simp at hp
theorem C0{s:S2}{q:Rg}{gc:Option (Nat×Bool)}{os:List Operand}{vs:List V}(ho:Au s q gc os=some vs)(hp:HA os=true):∀a k b,vs=[a,.x (.i k) b]->0<b:=by
 intro a k b e;subst e
 match os with
 |[o,.const (.int k' m)]=>
  simp only[HA,decide_eq_true_eq]at hp;simp only[Au,D_,D9,Mq]at ho;split at ho
  .rename_i v l hv hl;simp only[bH]at hl;subst hl;simp only[bH,List.cons.injEq,and_true]at ho;obtain⟨_,e⟩:=ho;cases e;exact hp
  .simp at ho
theorem uM(hg:je){s1:St}{s:S2}{q:Rg}(hr:nG s1 s q){gc:Option (Nat×Bool)}(hgc:∀g b,gc=some (g,b)->bM s1.cG g=some (tB b)){o:OP}{v:V}{l:List Nat}(ht:G_ o s q gc=some (v,l))(c:Call)(nx:Nat):
  ∃x ap,bN c o.o.k (o.o.args.map (g_ s1.cG)) s1.heap nx=some (x,[],ap,nx)/\dV s.heap v x/\dC s.next s.heap v/\∀i∈ap,i∈l:=by
 unfold G_ at ht;cases hpk:AS o.o.k with
 |true=>
  rw[hpk,cond_true]at ht;split at ht
  .rename_i w hw;obtain⟨rfl,rfl⟩:=ad (aa ht);obtain⟨x,h1,h2,h3⟩:=C1 hg hr hgc hw c s1.heap nx;have hk:o.o.k=.pick:=by revert hpk;cases o.o.k<;>simp[AS]
   rw[hk];exact⟨x,[],h1,h2,h3,fun i hi=>by simp at hi⟩
  .simp at ht
 |false=>
  rw[hpk,cond_false]at ht;split at ht
  .rename_i vs hvs;obtain⟨xs,h1,h2,h3,h4⟩:=uZ hg hr hgc _ _ hvs;rw[h1];exact CG hr.r.hr ht h2 h3 h4 (fun hp=>C0 hvs hp) c nx
  .simp at ht
theorem F9{P:Program}{β:Type}{tb:zF}(htb:lI P tb)(hg:je){s1:St}{s:S2}{q:Rg}(hr:nG s1 s q){gc:Option (Nat×Bool)}(hgc:∀g b,gc=some (g,b)->bM s1.cG g=some (tB b)){o:OP}{k:V->S2->List Nat->Option β}{z:β}
  (hz:Mo tb o s q gc k=some z):∃v s' l,k v s' l=some z/\∃call:Call,j4 P call/\∃x u ap m,bN call o.o.k (o.o.args.map (g_ s1.cG)) s1.heap s.next=some (x,u,ap,m)/\mT s s' s1.heap x u ap m v l:=by
 unfold Mo at hz;split at hz
 .rename_i v l ht;obtain⟨x,ap,h1,h2,h3,h4⟩:=uM hg hr hgc ht mj s.next;exact⟨v,s,l,hz,mj,mA,x,[],ap,s.next,h1,mT.pure hr.r.hr h2 h3 h4⟩
 .split at hz
  .rename_i vs hvs;obtain⟨xs,h1,h2,h3,h4⟩:=uZ hg hr hgc _ _ hvs;rw[h1];split at hz
   .rename_i ro gJ f vs' hk;obtain⟨y,ys,rfl,h5,h6⟩:=ei h2;obtain⟨v,s',l,e1,call,e2,x,u,ap,m,e3,e4⟩:=Bi (P:=P) htb hz hr.r.hr h5 (h3 _ (by simp)) (h4 _ (by simp)) h6 (fun w hw=>h3 w (by simp[hw])) (fun w hw=>h4 w (by simp[hw]));rw[hk];exact⟨v,s',l,e1,call,e2,x,u,ap,m,e3,e4⟩
   .obtain ⟨v,s',l,e1,e2⟩:=Ar hz hr.r.hr h2 h3 h4;obtain⟨x,u,ap,m,e3,e4⟩:=e2 mj;exact⟨v,s',l,e1,mj,mA,x,u,ap,m,e3,e4⟩
  .simp at hz
end Go.Ev
